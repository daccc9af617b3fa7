/-
  slices.Clone of limbs, (exact.Nat).Sub.
-/
import Derived.Test.YtkkpfoidppjbdaaDoorLLess
import Derived.Lib.SliceRun
namespace Go.Proofs.YtkkpfoidppjbdaaDoor
set_option linter.unusedVariables false
open Go.RowKit ML NL

theorem rowIs_own {cs : Array Value} {L : List Nat} (h : cs.toList.take L.length = uvals L) : RowIs cs 0 L := by
  intro i hi
  have hx : (cs.toList.take L.length)[i]? = (uvals L)[i]? := by rw [h]
  rw [List.getElem?_take_of_lt hi] at hx
  rw [Nat.zero_add, ← Array.getElem?_toList, hx]
  simp [uvals, lAt, List.getD_eq_getElem?_getD, hi]
set_option maxHeartbeats 2000000 in
set_option maxRecDepth 100000 in
theorem exClone_any (L : List Nat) (oa : Option Addr) (ca : Nat) (w : World) (h : LimbsAt w oa L) (hl : L.length < 4398046511104) :
    Calls Tryd.prog 83 #[.slice oa L.length ca] w fun e w' => ∃ v, e = .returned v ∧ ((oa = none ∧ L = [] ∧ v = .slice none 0 0 ∧ w' = w) ∨ (∃ g cc cs, v = .slice (some ⟨g, 0, none⟩) L.length cc ∧ w.heap.size ≤ g ∧ w'.heap[g]? = some (.cells cs 105 (0, 0)) ∧ RowIs cs 0 L ∧ L.length ≤ cc ∧ Below w.heap.size w w')) := by
  obtain ⟨i0, hi, hz0, hz1, hz2⟩ := info_parts info_limb
  have HI := Lib.hid hi
  have HZ0 := Lib.hid hz0
  have HZ1 := Lib.hid hz1
  have HZ2 := Lib.hid hz2
  have HA := Lib.hid h
  clear hi hz0 hz1 hz2 h
  have qT : ∀ (w : World) (a : Option Addr) (n c : Nat), (binOp .eql 69 (.slice a n c) (.slice none 0 0)).run Tryd.prog w = .ok (.bool a.isNone) w := fun w a n c => Lib.run_eql_slice_nil w _ _ a n c 0 0 Tryd.underlying69
  go_enter Tryd.func83, Tryd.ntmps83
  cases oa with
  | none =>
    have hL := Lib.hid (show L = [] by
      cases hq : L with
      | nil => rfl
      | cons x r =>
        obtain ⟨a, h1, _⟩ := HA.out.cells 0 (by rw [hq]; simp)
        cases h1)
    go_wp2_with fail
    go_ret
    exact ⟨_, rfl, .inl ⟨hL.out, rfl, rfl⟩⟩
  | some ad =>
    have hnews : ∀ j u, (uvals L)[j]? = some u → (w.alloc (.cells #[] 105)).cell? (ad.add j) = some u := by
      intro j u hju
      have hj : j < L.length := by
        rcases Nat.lt_or_ge j L.length with h1 | h1
        · exact h1
        · rw [List.getElem?_eq_none (by rw [length_uvals]; exact h1)] at hju; cases hju
      obtain ⟨a, h1, h2, h3⟩ := HA.out.cells j hj
      cases h1
      have hb : Below w.heap.size w (w.alloc (.cells #[] 105)) := (Below.refl _ _).alloc (Nat.le_refl _) _
      rw [hb.cell (by rw [addr_block']; exact h2), h3]
      simp [uvals, hj] at hju
      exact congrArg some hju
    have own0 : (w.alloc (.cells #[] 105)).ownsRow w.heap.size 105 1 (.slice (some ⟨w.heap.size, 0, none⟩) 0 0) 0 (uvals []) := ⟨rfl, .inr ⟨w.heap.size, 0, #[], rfl, Nat.le_refl _, heap_at rfl, Nat.le_refl _, by unfold maxLen; omega, rfl, rfl⟩⟩
    have HN := Lib.hid hnews
    have HO := Lib.hid own0
    clear hnews own0
    go_upto_region 3 with (fail)
    go_upto_region 99 with (at_builtin; refine wpList_append_own _ rfl (.tmp 5) (.tmp 6) 69 rfl w.heap.size 105 i0 (.int .u32 0) 1 4 Tryd.underlying69 HI.out HZ0.out HZ1.out HZ2.out rfl (by decide) (.slice (some ⟨w.heap.size, 0, none⟩) 0 0) 0 (uvals []) rfl HO.out ad L.length ca (uvals L) rfl ?c1 ?c2 ?c3 ?c4 ?c5 ?c6 ?_)
    case c1 => rw [length_uvals]; omega
    case c2 => exact HN.out
    case c3 => exact uvals_one _
    case c4 => unfold maxLen; omega
    case c5 => omega
    case c6 => simp
    intro v5 w5 own5 hg5 hne5
    have bel5 : Below w.heap.size w w5 := ((Below.refl _ _).alloc (Nat.le_refl _) (.cells #[] 105)).grown hg5 (by simp) (fun q hq => by simp [Value.ownBlock] at hq; omega)
    have hv5 := Lib.hid own5
    clear HO HN own5 hg5
    go_wp2_with fail
    go_ret
    refine ⟨_, rfl, .inr ?_⟩
    rcases hv5.out.2 with ⟨hv, _⟩ | ⟨g, cap, cur, hv, hb, hg, hnc, _, _, ht⟩
    · exact absurd hv hne5
    · rw [Nat.mul_one] at ht
      exact ⟨g, cap, cur, hv, hb, hg, rowIs_own ht, hnc, bel5⟩
theorem limbs_none {w : World} {L : List Nat} (h : LimbsAt w none L) : L = [] := by
  cases hq : L with
  | nil => rfl
  | cons x r =>
    obtain ⟨a, h1, _⟩ := h.cells 0 (by rw [hq]; simp)
    cases h1
theorem rowIs_limbs {w : World} {d o : Nat} {cs : Array Value} {T : TypeId} {W : List Nat} (hd : w.heap[d]? = some (.cells cs T (0, 0))) (h : RowIs cs o W) : LimbsAt w (some ⟨d, o, none⟩) W := ⟨fun i hi => by
  refine ⟨_, rfl, lt_of_heap hd, ?_⟩
  rw [Addr.add_mid, cell_of_row w d (o + i) _ _ _ hd, h i hi]
  simp [lAt, List.getD_eq_getElem?_getD, hi]⟩
theorem LimbsAt.ne {w : World} {ob : Option Addr} {M : List Nat} (h : LimbsAt w ob M) (hM : M ≠ []) : ∀ a, ob = some a → a.block < w.heap.size := by
  intro a ha
  obtain ⟨a', h1, h2, _⟩ := h.cells 0 (by cases M with | nil => exact absurd rfl hM | cons x r => simp)
  rw [ha] at h1
  cases h1
  exact h2
set_option maxHeartbeats 4000000 in
set_option maxRecDepth 100000 in
theorem exSub_any (x y : Nat) (oa ob : Option Addr) (ca cb : Nat) (w : World) (hyx : y ≤ x) (ha : LimbsAt w oa (dig x)) (hb : LimbsAt w ob (dig y)) (hob : ∀ a, ob = some a → a.block < w.heap.size) (hx : (dig x).length < 1099511627776) (hy : (dig y).length < 1099511627776) :
    Calls Tryd.prog 55 #[.slice oa (dig x).length ca, .slice ob (dig y).length cb] w fun e w' => ∃ oc cc, e = .returned (.slice oc (dig (x - y)).length cc) ∧ LimbsAt w' oc (dig (x - y)) ∧ Below w.heap.size w w' := by
  have QC := Lib.hid (exClone_any (dig x) oa ca w ha (by omega))
  have HBB := Lib.hid hb
  have HOB := Lib.hid hob
  have HYX := Lib.hid hyx
  clear ha hb hyx hob
  go_enter Tryd.func55, Tryd.ntmps55
  go_upto_region 2 with (go_at_call 83; refine QC.out.mono ?_; rintro e w1 ⟨v, rfl, hv⟩)
  clear QC
  rcases hv with ⟨_, hL, rfl, rfl⟩ | ⟨g, cc, cs, rfl, hg, hh, hr, hcc, bel⟩
  · have hx0 : x = 0 := by rw [← val_dig x, hL]; rfl
    have hy0 : y = 0 := by have := HYX.out; omega
    have QL := Lib.hid (exLess_nil ob 0 (dig y).length cb w1 (by omega))
    have QT := Lib.hid (exTrim_any none [] 0 w1 LimbsAt.nil (by simp) (by simp) (fun d hd => by cases hd))
    have e1 := Lib.hid (show dig (x - y) = trimL [] by rw [hx0, hy0]; unfold trimL; rfl)
    clear HBB hx0 hy0 hL HYX HOB
    go_upto_region 3 with (go_at_call 84; refine QL.out.mono ?_; rintro e w2 ⟨rfl, rfl⟩)
    go_wp2_with (go_at_call 85; refine QT.out.mono ?_; rintro e w3 ⟨rfl, hI3, rfl⟩)
    go_ret
    rw [e1.out]
    exact ⟨_, _, rfl, hI3, Below.refl _ _⟩
  · have QL := Lib.hid (exLess_any (dig x) (dig y) g 0 cc 105 cs ob cb w1 (all_dig x) (all_dig y) hh hr (HBB.out.below bel) (fun a h => by have := HOB.out a h; omega) (by omega) (by omega))
    have BEL := Lib.hid bel
    have hcc2 := hcc
    clear HBB HOB bel hh hr
    go_upto_region 3 with (go_at_call 84; refine QL.out.mono ?_; rintro e w2 ⟨W, dn, rfl, hE, cs2, hr2, hT⟩)
    have hlW : W.length = (dig x).length := hE.len
    have QT := Lib.hid (exTrim_any (some ⟨g, 0, none⟩) W cc w2 (rowIs_limbs hT.heap hr2) (by omega) (by omega) hE.all)
    rw [hE.sub HYX.out, hlW] at QT
    have bel2 : Below w.heap.size w w2 := bel_only BEL.out hT.only hg
    clear QL BEL hE hr2 hT hlW HYX
    go_wp2_with (go_at_call 85; refine QT.out.mono ?_; rintro e w3 ⟨rfl, hI3, rfl⟩)
    go_ret
    exact ⟨_, _, rfl, hI3, bel2⟩
end Go.Proofs.YtkkpfoidppjbdaaDoor
