/-
  Chapter 14: fractions told and parsed (picked out of chapter 2's templates by tools/mkaudit.sh; audit.told's body is nat.told's)
-/
import Derived.Test.YtlbdcgnpkapncaaDoorBFracL
import Derived.Test.YtlbdcgnpkapncaaDoorBFracN
import Derived.Test.YtlbdcgnpkapncaaDoorBLParse
import Derived.Test.YtlbdcgnpkapncaaDoorAuM
namespace Go.Proofs.YtlbdcgnpkapncaaDoor
set_option linter.unusedVariables false
open Go.RowKit ML FM NL
theorem exParse_bad (F : Bytes) (w : World) (hF : F.length < 140737488355328) (h : numB F = false) :
    Calls Tryd.prog 90 #[.string ⟨F.toArray⟩] w fun e w' => e = .returned (.tuple #[.slice none 0 0, .bool false]) ∧ Below w.heap.size w w' :=
  (exParse_any F w hF).mono (by
    rintro e w' ⟨bel, ⟨_, rfl⟩ | ⟨hn, _⟩⟩
    · exact ⟨rfl, bel⟩
    · rw [h] at hn; cases hn)
theorem exParse_good (F : Bytes) (w : World) (hF : F.length < 140737488355328) (h : numB F = true) :
    Calls Tryd.prog 90 #[.string ⟨F.toArray⟩] w fun e w' => ∃ oc cc, e = .returned (.tuple #[.slice oc (dig (dv F)).length cc, .bool true]) ∧ LimbsAt w' oc (dig (dv F)) ∧ (∀ a, oc = some a → a.block < w'.heap.size) ∧ Below w.heap.size w w' :=
  (exParse_any F w hF).mono (by
    rintro e w' ⟨bel, ⟨hn, _⟩ | ⟨_, oc, cc, rfl, h1, h2⟩⟩
    · rw [h] at hn; cases hn
    · exact ⟨oc, cc, rfl, h1, h2, bel⟩)
/-- what was read of a text -/
structure ParsedAt (w : World) (F : Bytes) (v : Value) : Prop where
  good : numB F = true → ∃ oc cc, v = .slice oc (dig (dv F)).length cc ∧ LimbsAt w oc (dig (dv F))
theorem ParsedAt.below {w w1 : World} {F : Bytes} {v : Value} (h : ParsedAt w F v) (hb : Below w.heap.size w w1) : ParsedAt w1 F v := ⟨fun hn => by
  obtain ⟨oc, cc, h1, h2⟩ := h.good hn
  exact ⟨oc, cc, h1, h2.below hb⟩⟩
theorem exParse_both (F : Bytes) (w : World) (hF : F.length < 140737488355328) :
    Calls Tryd.prog 90 #[.string ⟨F.toArray⟩] w fun e w' => ∃ v, e = .returned (.tuple #[v, .bool (numB F)]) ∧ ParsedAt w' F v ∧ Below w.heap.size w w' := by
  cases hn : numB F with
  | false => exact (exParse_bad F w hF hn).mono (by rintro e w' ⟨rfl, bel⟩; exact ⟨_, rfl, ⟨fun h => by rw [hn] at h; cases h⟩, bel⟩)
  | true => exact (exParse_good F w hF hn).mono (by rintro e w' ⟨oc, cc, rfl, h1, h2, bel⟩; exact ⟨_, rfl, ⟨fun _ => ⟨oc, cc, rfl, h1⟩⟩, bel⟩)
theorem zero_cells : (Tryd.prog.info? 53).map (·.size) = some (#[Value.slice none 0 0, Value.slice none 0 0] : Array Value).size := by kernel_rfl
/-- a struct argument and a struct result -/
structure BoxR (B : Nat) (w w1 : World) (X Z : Array Value) (T U : TypeId) : Prop where
  bel : Below B w w1
  x : w1.heap[B]? = some (.cells X T (0, 0))
  z : w1.heap[B + 1]? = some (.cells Z U (0, 0))
theorem BoxR.mk' (w : World) (X Z : Array Value) (T U : TypeId) : BoxR w.heap.size w ((w.alloc (.cells X T)).alloc (.cells Z U)) X Z T U := by
  have b1 := (Below.refl w.heap.size w).alloc (Nat.le_refl _) (.cells X T)
  exact ⟨b1.alloc (by simp) _, heap_lt (heap_at rfl), heap_at (by simp)⟩
theorem BoxR.keep {B : Nat} {w w1 w2 : World} {X Z : Array Value} {T U : TypeId} (h : BoxR B w w1 X Z T U) (hB : B ≤ w1.heap.size) (hb : Below w1.heap.size w1 w2) : BoxR B w w2 X Z T U :=
  ⟨h.bel.trans (hb.mono hB), bel_keep hb (lt_of_heap h.x) h.x, bel_keep hb (lt_of_heap h.z) h.z⟩
theorem size_api : (Tryd.prog.info? 24).map (·.size) = some 2 := by kernel_rfl
theorem two_strings (a b : ByteArray) : (#[Value.string a, Value.string b] : Array Value).all (·.oneCell') = true := by simp [Value.oneCell']
theorem two_noInt' (a b : ByteArray) : (#[Value.string a, Value.string b] : Array Value).all noInt = true := by simp [noInt]
theorem two_noInt2 (o1 o2 : Option Addr) (n1 c1 n2 c2 : Nat) : (#[Value.slice o1 n1 c1, Value.slice o2 n2 c2] : Array Value).all noInt = true := by simp [noInt]
theorem wp_store_whole {P : Program} {o : Oper} {a : Act} {w : World} {K : Act → World → Prop} {Q : Exit → Act → World → Prop} (hdst : o.dst = none) (ty : TypeId) (x y : Operand) (ho : o.op = .store ty x y) (b : Nat) (cs new : Array Value) (t : TypeId)
    (hx : a.eval x = .pointer (some ⟨b, 0, none⟩)) (hy : a.eval y = .agg new) (hb : w.heap[b]? = some (.cells cs t (0, 0))) (hs : cs.size = new.size)
    (hi : (P.info? ty).map (·.size) = some new.size) (h1 : new.all (·.oneCell') = true)
    (h : ∀ w1, Only b w w1 → w1.heap[b]? = some (.cells new t (0, 0)) → K a w1) : o.wp P a w K Q :=
  wp_store_mid ty x y ho b 0 new hx hy
    (fun j hj => by
      rw [Nat.zero_add, cell_of_row w b j cs t _ hb]
      exact ⟨by simp [hs, hj], frozen_of_row w b j cs t hb⟩) hi h1 (by rw [hdst]; exact h _ (setCells_only b _ _ _) (setCells_whole hb hs))
/-- a block that is written as it was -/
theorem below_same {B b : Nat} {w w1 : World} {x : Obj} (ho : Only b w w1) (hx : w.heap[b]? = some x) (hx1 : w1.heap[b]? = some x) : Below B w w1 :=
  ⟨ho.os, ho.tape, ho.output, Nat.le_of_eq ho.size.symm, fun k _ => by
    by_cases hk : k = b
    · subst hk; rw [hx, hx1]
    · exact ho.block k hk⟩
set_option maxHeartbeats 4000000 in
set_option maxRecDepth 100000 in
theorem audTold_any (n d : Nat) (on od : Option Addr) (cn cd : Nat) (w : World) (h : LFr w n d on od) (l1 : (dig n).length < 1099511627776) (l2 : (dig d).length < 1099511627776) :
    Calls Tryd.prog 26 #[.agg #[.slice on (dig n).length cn, .slice od (dig d).length cd]] w fun e w' => e = .returned (.agg #[.string ⟨(strD n).toArray⟩, .string ⟨(strD d).toArray⟩]) ∧ Below w.heap.size w w' := by
  have QN := Lib.hid (fun w h => exString_any n on cn w h l1)
  have QD := Lib.hid (fun w h => exString_any d od cd w h l2)
  have HS := Lib.hid size_api
  have H := Lib.hid h
  clear h l1 l2
  generalize strD n = N at *
  generalize strD d = D at *
  go_enter Tryd.func26, Tryd.ntmps26
  go_upto_region 1 with (fail)
  have BX := BoxR.mk' w #[.slice on (dig n).length cn, .slice od (dig d).length cd] #[.string ⟨#[]⟩, .string ⟨#[]⟩] 53 24
  generalize hB : w.heap.size = B at *
  refine wp_abs (fun w1 => BoxR B w w1 #[.slice on (dig n).length cn, .slice od (dig d).length cd] #[.string ⟨#[]⟩, .string ⟨#[]⟩] 53 24) BX (fun w1 B1 => ?_)
  have HB := Lib.hid hB
  have c1 := cell_of_row w1 B 0 _ _ _ B1.x
  have c2 := cell_of_row w1 B 1 _ _ _ B1.x
  have HB1 := Lib.hid B1
  clear BX hB B1
  refine Seg.wp_region_segs (fun w' => ∃ x : BelowT (B + 1) w1, w' = x.w) [([0, 1, 3, 4], 2)] [] 5 (by kernel_rfl) (by kernel_rfl) (fun _ _ d _ _ h => by cases d <;> exact h) (⟨⟨_, (Below.refl _ _).drew⟩, rfl⟩) ?_
  simp only [List.map_cons, List.map_nil, Seg.opAt, List.drop_succ_cons, List.drop_zero, Seg.wpSegs, Array.getD_eq_getD_getElem?, List.getElem?_toArray, List.getElem?_cons_succ, List.getElem?_cons_zero, Option.getD_some]
  repeat (any_goals (first | go_big_quiet_step (fail) | quiet_step (fail)))
  refine wpQuiet_nil ?_
  intro K hK
  simp only [Region.wanted, if_true]
  have hBs1 : B + 1 < w1.heap.size := lt_of_heap HB1.out.z
  have W1 := Lib.hid (show Below w.heap.size w w1 by rw [HB.out]; exact HB1.out.bel)
  have W1d := Lib.hid (show Below w.heap.size w w1.drew from W1.out.drew)
  go_wp2_with (go_at_call 71; (with_reducible refine (QN.out _ (H.out.num.below W1d.out)).mono ?_); rintro e w2 ⟨rfl, bel2⟩)
  have bel2' : Below w1.heap.size w1 w2 := undrew bel2
  refine hK _ _ ⟨⟨w2, bel2'.mono (by omega)⟩, rfl⟩ ?_
  have W2 := Lib.hid (W1.out.trans (bel2'.mono W1.out.size))
  have HB2 := Lib.hid (HB1.out.keep (by omega) bel2')
  have hBs2 : B + 1 < w2.heap.size := lt_of_heap HB2.out.z
  clear hK K c1 c2 bel2 bel2' QN
  repeat (any_goals (first | go_big_quiet_step (fail) | quiet_step (fail)))
  refine wpQuiet_nil ?_
  go_wp2_with (first
    | (go_at_call 71; refine (QD.out w2 (H.out.den.below W2.out)).mono ?_; rintro e w3 ⟨rfl, bel3⟩; have HB3 := Lib.hid (HB2.out.keep (by omega) bel3); have W3 := Lib.hid (W2.out.trans (bel3.mono W2.out.size)); clear bel3)
    | (refine wpList_store_whole rfl rfl 24 _ _ rfl (B + 1) #[.string ⟨#[]⟩, .string ⟨#[]⟩] #[.string ⟨N.toArray⟩, .string ⟨D.toArray⟩] 24 rfl rfl HB3.out.z rfl HS.out (two_strings _ _) ?_; intro w5 ho hp))
  refine bodyPost_ret (results_cell_row rfl _ w5 (B + 1) _ _ _ _ rfl hp Tryd.underlying24 rfl HS.out) rfl ⟨rfl, bel_only W3.out ho (by rw [HB.out]; omega)⟩
end Go.Proofs.YtlbdcgnpkapncaaDoor
