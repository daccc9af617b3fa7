/-
  Chapter 14: the reference's Draw. Printed by tools/gendraw2.py.
-/
import Derived.Test.YtlbdcgnpkapncaaDoorAuY
import Derived.Test.YtlbdcgnpkapncaaDoorAuH
namespace Go.Proofs.YtlbdcgnpkapncaaDoor
set_option linter.unusedVariables false
set_option linter.unusedSimpArgs false
open Go.RowKit ML FM ND AU

/-- a slice that was there, or a new one -/
def Near (w : World) (o v : Option Addr) : Prop := v = o ∨ ∀ a, v = some a → w.heap.size ≤ a.block
/-- where an answered watch lies -/
def LocD (w : World) (o0 o1 o2 o3 : Option Addr) (e : Ending) : Prop := ∀ v0 v1 v2 v3 n0 n1 n2 n3 k0 k1 k2 k3 s d i x, e = .returned (.tuple #[.agg #[.slice v0 n0 k0, .slice v1 n1 k1, .slice v2 n2 k2, .slice v3 n3 k3, s, d, i], x]) → Near w o0 v0 ∧ Near w o1 v1 ∧ Near w o2 v2 ∧ Near w o3 v3
theorem locD_mk {w : World} {o0 o1 o2 o3 v0 v1 v2 v3 : Option Addr} {n0 n1 n2 n3 k0 k1 k2 k3 : Nat} {s d i x : Value} (h0 : Near w o0 v0) (h1 : Near w o1 v1) (h2 : Near w o2 v2) (h3 : Near w o3 v3) : LocD w o0 o1 o2 o3 (.returned (.tuple #[.agg #[.slice v0 n0 k0, .slice v1 n1 k1, .slice v2 n2 k2, .slice v3 n3 k3, s, d, i], x])) := by
  intro u0 u1 u2 u3 m0 m1 m2 m3 j0 j1 j2 j3 s' d' i' x' he
  injection he with he
  injection he with he
  have e1 : (Value.agg #[.slice v0 n0 k0, .slice v1 n1 k1, .slice v2 n2 k2, .slice v3 n3 k3, s, d, i]) = .agg #[.slice u0 m0 j0, .slice u1 m1 j1, .slice u2 m2 j2, .slice u3 m3 j3, s', d', i'] := by
    have := congrArg (fun a : Array Value => a[0]?) he
    simpa using this
  injection e1 with e1
  have g : ∀ k : Nat, (#[Value.slice v0 n0 k0, .slice v1 n1 k1, .slice v2 n2 k2, .slice v3 n3 k3, s, d, i] : Array Value)[k]? = (#[Value.slice u0 m0 j0, .slice u1 m1 j1, .slice u2 m2 j2, .slice u3 m3 j3, s', d', i'] : Array Value)[k]? := fun k => by rw [e1]
  have q0 := g 0
  have q1 := g 1
  have q2 := g 2
  have q3 := g 3
  simp only [List.getElem?_toArray, List.getElem?_cons_zero, List.getElem?_cons_succ, Option.some.injEq, Value.slice.injEq] at q0 q1 q2 q3
  obtain ⟨rfl, _⟩ := q0
  obtain ⟨rfl, _⟩ := q1
  obtain ⟨rfl, _⟩ := q2
  obtain ⟨rfl, _⟩ := q3
  exact ⟨h0, h1, h2, h3⟩
theorem locD_nil {w : World} {o0 o1 o2 o3 : Option Addr} {s d i x : Value} : LocD w o0 o1 o2 o3 (.returned (.tuple #[.agg #[.slice none 0 0, .slice none 0 0, .slice none 0 0, .slice none 0 0, s, d, i], x])) := locD_mk (.inr (fun a h => by cases h)) (.inr (fun a h => by cases h)) (.inr (fun a h => by cases h)) (.inr (fun a h => by cases h))
/-- a watch that the reference puts together -/
structure RwSt (B X : Nat) (w w1 : World) (AG : Array Value) (r0 r1 r2 v3 nv dv' drv : Value) (P : List (Bytes × Bytes)) : Prop where
  bel : Below B w w1
  arg : w1.heap[B]? = some (.cells AG 27 (0, 0))
  ans : w1.heap[B + 1]? = some (.cells #[.slice none 0 0, .slice none 0 0, .slice none 0 0, .slice none 0 0, .string ⟨#[]⟩, .string ⟨#[]⟩, .int .i64 0] 27 (0, 0))
  row : w1.heap[X]? = some (.cells #[r0, r1, r2, v3, nv, dv', drv] 27 (0, 0))
  own : w1.ownsRow (X + 1) 24 2 v3 P.length (fvals P)
  hX : B + 1 < X
namespace RwSt
variable {B X : Nat} {w w1 w2 : World} {AG : Array Value} {r0 r1 r2 v3 nv dv' drv : Value} {P : List (Bytes × Bytes)}
theorem below (h : RwSt B X w w1 AG r0 r1 r2 v3 nv dv' drv P) (hb : Below w1.heap.size w1 w2) : RwSt B X w w2 AG r0 r1 r2 v3 nv dv' drv P :=
  ⟨h.bel.trans (hb.mono (Nat.le_of_lt (lt_of_heap h.arg))), bel_keep hb (lt_of_heap h.arg) h.arg, bel_keep hb (lt_of_heap h.ans) h.ans, bel_keep hb (lt_of_heap h.row) h.row, own_below h.own hb, h.hX⟩
theorem rowAt (h : RwSt B X w w1 AG r0 r1 r2 v3 nv dv' drv P) (hg : w1.grownBy w2 v3.ownBlock) : w2.heap[X]? = some (.cells #[r0, r1, r2, v3, nv, dv', drv] 27 (0, 0)) := (hg.block X (lt_of_heap h.row) (fun he => by have := (h.own.lt X he.symm).1; omega)).trans h.row
theorem app (h : RwSt B X w w1 AG r0 r1 r2 v3 nv dv' drv P) {x : Bytes × Bytes} {v' : Value} {n : Nat} (hn : n = P.length + 1) (own : w2.ownsRow (X + 1) 24 2 v' n (fvals P ++ fvals [x])) (hg : w1.grownBy w2 v3.ownBlock) : RwSt B X w (w2.setCell ⟨X, 3, none⟩ v') AG r0 r1 r2 v' nv dv' drv (P ++ [x]) := by
  subst hn
  have hX := h.hX
  have ho : Only X w2 (w2.setCell ⟨X, 3, none⟩ v') := (Only.refl X w2).setCell _ _
  have hv : ∀ k, k < X + 1 → some k ≠ v3.ownBlock := fun k hk he => by have := (h.own.lt k he.symm).1; omega
  have keep : ∀ {k : Nat} {o : Obj}, k < X → w1.heap[k]? = some o → (w2.setCell ⟨X, 3, none⟩ v').heap[k]? = some o := fun {k o} hk hh => (ho.block k (by omega)).trans ((hg.block k (lt_of_heap hh) (hv k (by omega))).trans hh)
  refine ⟨bel_only (h.bel.grown hg (Nat.le_of_lt (lt_of_heap h.arg)) (fun q hq => by have := (h.own.lt q hq).1; omega)) ho (by omega), keep (by omega) h.arg, keep (by omega) h.ans, heap_setCell_same w2 X 3 _ _ _ (h.rowAt hg), ?_, hX⟩
  have := own.kept (grown_only ho) (.inr (fun he => by have := (own.lt _ he).1; omega))
  rw [List.length_append, List.length_singleton, ← fvals_append]
  exact this
theorem turn {E : Nat} {cs : Array Value} {t : TypeId} (h : RwSt B X w w1 AG r0 r1 r2 v3 nv dv' drv P) (ho : Only E w1 w2) (hE : w1.heap[E]? = some (.cells cs t (0, 0))) (ht : 24 ≠ t) (hXE : X < E) : RwSt B X w w2 AG r0 r1 r2 v3 nv dv' drv P := by
  have hX := h.hX
  exact ⟨bel_only h.bel ho (by omega), (ho.block _ (by omega)).trans h.arg, (ho.block _ (by omega)).trans h.ans, (ho.block _ (by omega)).trans h.row, h.own.kept (grown_only ho) (.inr (own_ne h.own hE ht)), hX⟩
end RwSt
theorem tN_digN (a b c d : Nat) : (dig (tN a b c d)).length ≤ (dig a).length + (dig c).length := Nat.le_trans (length_dig_le _ _ (Nat.lt_of_le_of_lt (Nat.div_le_self _ _) (lt_pow_length _))) (ND.length_mul _ _)
theorem tD_digN (a b c d : Nat) : (dig (tD a b c d)).length ≤ (dig b).length + (dig d).length := Nat.le_trans (length_dig_le _ _ (Nat.lt_of_le_of_lt (Nat.div_le_self _ _) (lt_pow_length _))) (ND.length_mul _ _)
theorem tD_posN {a b c d : Nat} (h : 0 < b * d) : 0 < tD a b c d := Nat.div_pos (Nat.le_of_dvd h (Nat.gcd_dvd_right _ _)) (Nat.gcd_pos_of_pos_right _ h)
theorem nextOs_take {A B : List Int} {S O : List (Bytes × Bytes)} {N D : Bytes} {M : List Int} {k : Nat} (h : k < O.length) : (nextOs A B S O N D M).take (k + 1) = (nextOs A B S O N D M).take k ++ [nextAt A B S O N D M k] := by
  rw [List.take_succ_eq_append_getElem (by rw [length_nextOs]; exact h)]
  unfold nextOs
  simp
theorem v_slice {w : World} {base : Nat} {e : TypeId} {v : Value} {F : List (Bytes × Bytes)} (h : w.ownsRow base e 2 v F.length (fvals F)) : ∃ oa cap, v = .slice oa F.length cap := by
  obtain ⟨oa, cap, hv, _, _⟩ := fsAt_own h
  exact ⟨oa, cap, hv⟩
set_option maxHeartbeats 8000000 in
set_option maxRecDepth 100000 in
theorem refDraw_any (A B : List Int) (S O : List (Bytes × Bytes)) (N D : Bytes) (dr : Int) (M : List Int) (o0 o1 o2 o3 oM : Option Addr) (c0 c1 c2 c3 cM : Nat) (w : World) (hW : WAt w o0 o1 o2 o3 A B S O) (hM : IsAt w oM M) (lA : A.length < 140737488355) (lM : M.length < 9223372036854775808) (hN : N.length < 140737488355328) (hD : D.length < 140737488355328) (lS : Short S 140737488355327) (lO : Short O 99999999) :
    Calls Tryd.prog 14 #[.agg #[.slice o0 A.length c0, .slice o1 B.length c1, .slice o2 S.length c2, .slice o3 O.length c3, .string ⟨N.toArray⟩, .string ⟨D.toArray⟩, .int .i64 dr], .slice oM M.length cM] w (fun e w' => DrawGot A B S O N D dr M w e w' ∧ LocD w o0 o1 o2 o3 e) := by
  have QR := Lib.hid (fun w h => refRight_any A B S O N D dr (M.length : Int) o0 o1 o2 o3 c0 c1 c2 c3 w h (by omega) hN hD lS (lO.mono (by decide)))
  have QD := Lib.hid (fun w h hR k hk => refDoneW_any A B S O N D (M.length : Int) dr o0 o1 o2 o3 c0 c1 c2 c3 w h hR lA lO k hk)
  have HS := Lib.hid size_watch
  have HSN := Lib.hid size_nfr
  have HW := Lib.hid hW
  have HMM := Lib.hid hM
  have HE0 := Lib.hid (show drawE A B S O N D dr M = _ from rfl)
  unfold drawE at HE0
  have LS := Lib.hid lS
  have LO := Lib.hid lO
  obtain ⟨R, hR⟩ : ∃ R, R = rightW A B S O N D M.length := ⟨_, rfl⟩
  rw [← hR] at QR
  have HR := Lib.hid hR
  obtain ⟨f0, hi, hz0, hz1, hz2⟩ := info_parts info_frac
  have F0 := Lib.hid hi
  have FZ0 := Lib.hid hz0
  have FZ1 := Lib.hid hz1
  have FZ2 := Lib.hid hz2
  clear hW hM lS lO hR hN hD hi hz0 hz1 hz2
  go_enter Tryd.func14, Tryd.ntmps14
  go_upto_region 1 with (fail)
  have BX := BoxR.mk' w #[.slice o0 A.length c0, .slice o1 B.length c1, .slice o2 S.length c2, .slice o3 O.length c3, .string ⟨N.toArray⟩, .string ⟨D.toArray⟩, .int .i64 dr] #[.slice none 0 0, .slice none 0 0, .slice none 0 0, .slice none 0 0, .string ⟨#[]⟩, .string ⟨#[]⟩, .int .i64 0] 27 27
  generalize hB : w.heap.size = B0 at *
  refine wp_abs (fun w1 => BoxR B0 w w1 #[.slice o0 A.length c0, .slice o1 B.length c1, .slice o2 S.length c2, .slice o3 O.length c3, .string ⟨N.toArray⟩, .string ⟨D.toArray⟩, .int .i64 dr] #[.slice none 0 0, .slice none 0 0, .slice none 0 0, .slice none 0 0, .string ⟨#[]⟩, .string ⟨#[]⟩, .int .i64 0] 27 27) BX (fun w1 B1 => ?_)
  have HB := Lib.hid hB
  have hb1 : B0 + 1 < w1.heap.size := lt_of_heap B1.z
  have HBX := Lib.hid B1
  have HM1 := Lib.hid (HMM.out.below (by rw [hB]; exact B1.bel))
  have HW1 := Lib.hid (HW.out.below (by rw [hB]; exact B1.bel))
  clear BX hB B1
  by_cases hl1 : M.length < 2
  · have HE := Lib.hid (show drawE A B S O N D dr M = 2 from if_pos (.inl hl1))
    have l1 : decide ((M.length : Int) < 2) = true := decide_eq_true (by omega)
    clear hl1
    go_wp2_with (first | (refine wpList_store_whole rfl rfl 27 _ _ rfl (B0 + 1) #[.slice none 0 0, .slice none 0 0, .slice none 0 0, .slice none 0 0, .string ⟨#[]⟩, .string ⟨#[]⟩, .int .i64 0] #[.slice none 0 0, .slice none 0 0, .slice none 0 0, .slice none 0 0, .string ⟨#[]⟩, .string ⟨#[]⟩, .int .i64 0] 27 rfl rfl HBX.out.z rfl HS.out (seven_one _ _ _ _ _ _ _ rfl rfl rfl rfl rfl rfl rfl) ?_; intro w9 ho9 hp9))
    refine bodyPost_ret (results_cell_tmp rfl _ w9 (B0 + 1) _ _ _ _ _ rfl rfl hp9 Tryd.underlying27 rfl HS.out) rfl ⟨drawGot_bad HE.out (by decide) rfl (bel_only (by rw [HB.out]; exact HBX.out.bel) ho9 (by rw [HB.out]; omega)), locD_nil⟩
  have l1 : decide ((M.length : Int) < 2) = false := decide_eq_false (by omega)
  by_cases hl2 : 12 < M.length
  · have HE := Lib.hid (show drawE A B S O N D dr M = 2 from if_pos (.inr hl2))
    have l2 : decide (12 < (M.length : Int)) = true := decide_eq_true (by omega)
    clear hl1 hl2
    go_wp2_with (first | (refine wpList_store_whole rfl rfl 27 _ _ rfl (B0 + 1) #[.slice none 0 0, .slice none 0 0, .slice none 0 0, .slice none 0 0, .string ⟨#[]⟩, .string ⟨#[]⟩, .int .i64 0] #[.slice none 0 0, .slice none 0 0, .slice none 0 0, .slice none 0 0, .string ⟨#[]⟩, .string ⟨#[]⟩, .int .i64 0] 27 rfl rfl HBX.out.z rfl HS.out (seven_one _ _ _ _ _ _ _ rfl rfl rfl rfl rfl rfl rfl) ?_; intro w9 ho9 hp9))
    refine bodyPost_ret (results_cell_tmp rfl _ w9 (B0 + 1) _ _ _ _ _ rfl rfl hp9 Tryd.underlying27 rfl HS.out) rfl ⟨drawGot_bad HE.out (by decide) rfl (bel_only (by rw [HB.out]; exact HBX.out.bel) ho9 (by rw [HB.out]; omega)), locD_nil⟩
  have l2 : decide (12 < (M.length : Int)) = false := decide_eq_false (by omega)
  have HE1 := Lib.hid (show drawE A B S O N D dr M = _ from if_neg (show ¬ (M.length < 2 ∨ 12 < M.length) by omega))
  clear HE0
  go_upto_region 4 with (fail)
  clear l1 l2
  go_loop [28] (fun i => ∃ k : Nat, k ≤ M.length ∧ i = .int .i64 k ∧ (M.take k).any badM = false) (fun i => M.length - (intOf i).toNat)
  case atStart => exact ⟨0, by omega, rfl, rfl⟩
  case round =>
  obtain ⟨k, hk, rfl, hbad⟩ := hrel
  have HBA := Lib.hid hbad
  clear hbad
  generalize w1 = wr at *
  by_cases hlt : k < M.length
  · have dk : decide ((k : Int) < (M.length : Int)) = true := decide_eq_true (by omega)
    have dk2 : decide (k < M.length) = true := decide_eq_true hlt
    have hki : (k : Int) < (M.length : Int) := by omega
    obtain ⟨a, hoa, hab, hac⟩ := HM1.out.cells k hlt
    subst hoa
    obtain ⟨x, hx⟩ : ∃ x, x = M[k] := ⟨_, rfl⟩
    rw [← hx] at hac
    have hyes := Lib.hid (fun (h : badM x = true) => (show M.any badM = true from List.any_eq_true.2 ⟨M[k], List.getElem_mem hlt, by rw [← hx]; exact h⟩))
    have hno := Lib.hid (fun (h : badM x = false) => (show (M.take (k + 1)).any badM = false by rw [List.take_succ_eq_append_getElem hlt, List.any_append, HBA.out, ← hx]; simp [h]))
    clear hx
    by_cases hx0 : x = 0
    · have b1 : (x != 0) = false := by rw [hx0]; rfl
      have HN := Lib.hid (hno.out (by rw [hx0]; rfl))
      clear hx0 hyes hno
      go_wp2_with fail
      go_round
      case rel => exact ⟨k + 1, by omega, by go_num, HN.out⟩
      case measure => simp [intOf]; omega
    have b1 : (x != 0) = true := by simp [hx0]
    by_cases hx1 : x = 1
    · have b2 : (x != 1) = false := by rw [hx1]; rfl
      have HN := Lib.hid (hno.out (by rw [hx1]; rfl))
      clear hx0 hx1 hyes hno
      go_wp2_with fail
      go_round
      case rel => exact ⟨k + 1, by omega, by go_num, HN.out⟩
      case measure => simp [intOf]; omega
    have b2 : (x != 1) = true := by simp [hx1]
    have HE := Lib.hid (show drawE A B S O N D dr M = 2 from HE1.out.trans (if_pos (hyes.out (by unfold badM; simp; omega))))
    clear hx0 hx1 hyes hno
    go_wp2_with (first | (refine wpList_store_whole rfl rfl 27 _ _ rfl (B0 + 1) #[.slice none 0 0, .slice none 0 0, .slice none 0 0, .slice none 0 0, .string ⟨#[]⟩, .string ⟨#[]⟩, .int .i64 0] #[.slice none 0 0, .slice none 0 0, .slice none 0 0, .slice none 0 0, .string ⟨#[]⟩, .string ⟨#[]⟩, .int .i64 0] 27 rfl rfl HBX.out.z rfl HS.out (seven_one _ _ _ _ _ _ _ rfl rfl rfl rfl rfl rfl rfl) ?_; intro w9 ho9 hp9))
    refine bodyPost_ret (results_cell_tmp rfl _ w9 (B0 + 1) _ _ _ _ _ rfl rfl hp9 Tryd.underlying27 rfl HS.out) rfl ⟨drawGot_bad HE.out (by decide) rfl (bel_only (by rw [HB.out]; exact HBX.out.bel) ho9 (by rw [HB.out]; omega)), locD_nil⟩
  have dk : decide ((k : Int) < (M.length : Int)) = false := decide_eq_false (by omega)
  have dk2 : decide (k < M.length) = false := decide_eq_false hlt
  obtain rfl : k = M.length := by omega
  rw [List.take_length] at HBA
  have HE2 := Lib.hid (show drawE A B S O N D dr M = _ from HE1.out.trans (if_neg (by rw [HBA.out]; decide)))
  rw [← HR.out] at HE2
  clear HE1
  cases hR : R with
  | false =>
    have HE := Lib.hid (show drawE A B S O N D dr M = 2 from HE2.out.trans (if_pos hR))
    rw [hR] at QR
    clear hR
    go_wp2_with (first | (refine wpList_load_whole rfl 27 _ rfl B0 _ _ _ _ rfl HBX.out.x Tryd.underlying27 rfl size_watch ?_) | (go_at_call 40; refine (QR.out wr HW1.out).mono ?_; rintro e w2 ⟨rfl, b2⟩; have HBY := Lib.hid (HBX.out.keep (by omega) b2)) | (refine wpList_store_whole rfl rfl 27 _ _ rfl (B0 + 1) #[.slice none 0 0, .slice none 0 0, .slice none 0 0, .slice none 0 0, .string ⟨#[]⟩, .string ⟨#[]⟩, .int .i64 0] #[.slice none 0 0, .slice none 0 0, .slice none 0 0, .slice none 0 0, .string ⟨#[]⟩, .string ⟨#[]⟩, .int .i64 0] 27 rfl rfl HBY.out.z rfl HS.out (seven_one _ _ _ _ _ _ _ rfl rfl rfl rfl rfl rfl rfl) ?_; intro w9 ho9 hp9))
    refine bodyPost_ret (results_cell_tmp rfl _ w9 (B0 + 1) _ _ _ _ _ rfl rfl hp9 Tryd.underlying27 rfl HS.out) rfl ⟨drawGot_bad HE.out (by decide) rfl (bel_only (by rw [HB.out]; exact HBY.out.bel) ho9 (by rw [HB.out]; omega)), locD_nil⟩
  | true =>
  have HE3 := Lib.hid (show drawE A B S O N D dr M = _ from HE2.out.trans (if_neg (by rw [hR]; decide)))
  have HRW := Lib.hid (rightW_iff.1 (HR.out.symm.trans hR))
  rw [hR] at QR
  clear hR HE2
  go_upto_region 11 with (first | (refine wpList_load_whole rfl 27 _ rfl B0 _ _ _ _ rfl HBX.out.x Tryd.underlying27 rfl size_watch ?_) | (go_at_call 40; refine (QR.out wr HW1.out).mono ?_; rintro e w2 ⟨rfl, b2⟩))
  have HBY := Lib.hid (HBX.out.keep (by omega) b2)
  have hb2 : B0 + 1 < w2.heap.size := lt_of_heap HBY.out.z
  have HM2 := Lib.hid (HM1.out.below b2)
  have HW2 := Lib.hid (HW1.out.below b2)
  clear b2 HBX HM1 HW1 hb1 QR
  have d6 : w2.cell? ⟨B0, 6, none⟩ = some (.int .i64 dr) := cell_of_row w2 B0 6 _ _ _ HBY.out.x
  by_cases hd1 : dr < 0
  · have HE := Lib.hid (show drawE A B S O N D dr M = 3 from HE3.out.trans (if_pos (by omega)))
    have l1 : decide (dr < 0) = true := decide_eq_true hd1
    clear hd1
    go_wp2_with (first | (refine wpList_store_whole rfl rfl 27 _ _ rfl (B0 + 1) #[.slice none 0 0, .slice none 0 0, .slice none 0 0, .slice none 0 0, .string ⟨#[]⟩, .string ⟨#[]⟩, .int .i64 0] #[.slice none 0 0, .slice none 0 0, .slice none 0 0, .slice none 0 0, .string ⟨#[]⟩, .string ⟨#[]⟩, .int .i64 0] 27 rfl rfl HBY.out.z rfl HS.out (seven_one _ _ _ _ _ _ _ rfl rfl rfl rfl rfl rfl rfl) ?_; intro w9 ho9 hp9))
    refine bodyPost_ret (results_cell_tmp rfl _ w9 (B0 + 1) _ _ _ _ _ rfl rfl hp9 Tryd.underlying27 rfl HS.out) rfl ⟨drawGot_bad HE.out (by decide) rfl (bel_only (by rw [HB.out]; exact HBY.out.bel) ho9 (by rw [HB.out]; omega)), locD_nil⟩
  have l1 : decide (dr < 0) = false := decide_eq_false hd1
  by_cases hd2 : 1023 < dr
  · have HE := Lib.hid (show drawE A B S O N D dr M = 3 from HE3.out.trans (if_pos (by omega)))
    have l2 : decide (1023 < dr) = true := decide_eq_true hd2
    clear hd1 hd2
    go_wp2_with (first | (refine wpList_store_whole rfl rfl 27 _ _ rfl (B0 + 1) #[.slice none 0 0, .slice none 0 0, .slice none 0 0, .slice none 0 0, .string ⟨#[]⟩, .string ⟨#[]⟩, .int .i64 0] #[.slice none 0 0, .slice none 0 0, .slice none 0 0, .slice none 0 0, .string ⟨#[]⟩, .string ⟨#[]⟩, .int .i64 0] 27 rfl rfl HBY.out.z rfl HS.out (seven_one _ _ _ _ _ _ _ rfl rfl rfl rfl rfl rfl rfl) ?_; intro w9 ho9 hp9))
    refine bodyPost_ret (results_cell_tmp rfl _ w9 (B0 + 1) _ _ _ _ _ rfl rfl hp9 Tryd.underlying27 rfl HS.out) rfl ⟨drawGot_bad HE.out (by decide) rfl (bel_only (by rw [HB.out]; exact HBY.out.bel) ho9 (by rw [HB.out]; omega)), locD_nil⟩
  have l2 : decide (1023 < dr) = false := decide_eq_false hd2
  have HE := Lib.hid (show drawE A B S O N D dr M = 0 from HE3.out.trans (if_neg (fun h => h (by omega))))
  have hda : 0 ≤ dr := by omega
  have hdb : dr ≤ 1023 := by omega
  clear HE3
  go_upto_region 14 with (first | (refine wpList_load_whole rfl 27 _ rfl B0 _ _ _ _ rfl HBY.out.x Tryd.underlying27 rfl size_watch ?_) | (refine wpList_store_whole rfl rfl 27 _ _ rfl w2.heap.size #[.slice none 0 0, .slice none 0 0, .slice none 0 0, .slice none 0 0, .string ⟨#[]⟩, .string ⟨#[]⟩, .int .i64 0] #[.slice o0 A.length c0, .slice o1 B.length c1, .slice o2 S.length c2, .slice o3 O.length c3, .string ⟨N.toArray⟩, .string ⟨D.toArray⟩, .int .i64 dr] 27 rfl rfl (heap_at rfl) rfl HS.out (seven_one _ _ _ _ _ _ _ rfl rfl rfl rfl rfl rfl rfl) ?_; intro w3 ho hp))
  clear l1 l2 d6 hd1 hd2
  have b23 : Below w2.heap.size w2 w3 := bel_only ((Below.refl _ _).alloc (Nat.le_refl _) _) ho (Nat.le_refl _)
  have HBZ := Lib.hid (HBY.out.keep (by omega) b23)
  have HX3 := Lib.hid hp
  have hX3 : w2.heap.size < w3.heap.size := lt_of_heap hp
  clear ho hp b23 HBY HM2 HW2
  generalize w2.heap.size = X at *
  have x6 : w3.cell? ⟨X, 6, none⟩ = some (.int .i64 dr) := cell_of_row w3 X 6 _ _ _ HX3.out
  have z6 : w3.frozen? ⟨X, 6, none⟩ = false := frozen_of_row w3 X 6 _ _ HX3.out
  go_upto_region 15 with (fail)
  have ho4 : Only X w3 (w3.setCell ⟨X, 6, none⟩ (.int .i64 (dr + 1))) := (Only.refl X w3).setCell _ _
  have hr4 := heap_setCell_same w3 X 6 _ _ (.int .i64 (dr + 1)) HX3.out
  have HO4 := Lib.hid ho4
  have HR4 := Lib.hid hr4
  clear x6 z6 ho4 hr4
  generalize (w3.setCell ⟨X, 6, none⟩ (.int .i64 (dr + 1))) = w4 at *
  have x3 : w4.cell? ⟨X, 3, none⟩ = some (.slice o3 O.length c3) := cell_of_row w4 X 3 _ _ _ HR4.out
  have z3 : w4.frozen? ⟨X, 3, none⟩ = false := frozen_of_row w4 X 3 _ _ HR4.out
  have hX4 : X < w4.heap.size := lt_of_heap HR4.out
  go_upto_region 16 with (fail)
  have HST : Hid (RwSt B0 X w (w4.setCell ⟨X, 3, none⟩ (.slice none 0 0)) #[.slice o0 A.length c0, .slice o1 B.length c1, .slice o2 S.length c2, .slice o3 O.length c3, .string ⟨N.toArray⟩, .string ⟨D.toArray⟩, .int .i64 dr] (.slice o0 A.length c0) (.slice o1 B.length c1) (.slice o2 S.length c2) (.slice none 0 0) (.string ⟨N.toArray⟩) (.string ⟨D.toArray⟩) (.int .i64 (dr + 1)) []) := Lib.hid (by
    have ho5 : Only X w4 (w4.setCell ⟨X, 3, none⟩ (.slice none 0 0)) := (Only.refl X w4).setCell _ _
    have hr5 := heap_setCell_same w4 X 3 _ _ (.slice none 0 0) HR4.out
    exact ⟨bel_only (bel_only HBZ.out.bel HO4.out (by omega)) ho5 (by omega), (ho5.block _ (by omega)).trans ((HO4.out.block _ (by omega)).trans HBZ.out.x), (ho5.block _ (by omega)).trans ((HO4.out.block _ (by omega)).trans HBZ.out.z), hr5, World.ownsRow_nil _ _ _ _, hb2⟩)
  clear x3 z3 hX4 hX3 HBZ HX3 HO4 HR4
  generalize (w4.setCell ⟨X, 3, none⟩ (.slice none 0 0)) = w5 at *
  have a3 : w5.cell? ⟨B0, 3, none⟩ = some (.slice o3 O.length c3) := cell_of_row w5 B0 3 _ _ _ HST.out.arg
  have hb5 : B0 < w5.heap.size := lt_of_heap HST.out.arg
  go_upto_region 17 with (fail)
  clear a3 hb5
  go_loopw [64] (fun i wr => ∃ (k : Nat) (v : Value), k ≤ O.length ∧ i = .int .i64 k ∧ RwSt B0 X w wr #[.slice o0 A.length c0, .slice o1 B.length c1, .slice o2 S.length c2, .slice o3 O.length c3, .string ⟨N.toArray⟩, .string ⟨D.toArray⟩, .int .i64 dr] (.slice o0 A.length c0) (.slice o1 B.length c1) (.slice o2 S.length c2) v (.string ⟨N.toArray⟩) (.string ⟨D.toArray⟩) (.int .i64 (dr + 1)) ((nextOs A B S O N D M).take k)) (fun i _ => O.length - (intOf i).toNat)
  case atStart => exact ⟨0, .slice none 0 0, by omega, rfl, HST.out⟩
  case round =>
  clear HST
  obtain ⟨k, v, hk, rfl, hst⟩ := hrel
  have lOO := Lib.hid HRW.out.lo
  have lBB := Lib.hid HRW.out.lb
  have lSS := Lib.hid HRW.out.ls
  have hOl : O.length < 140737488355 := by rw [lOO.out]; exact lA
  have SR := Lib.hid hst
  clear hst
  by_cases hlt : k < O.length
  · have dk : decide ((k : Int) < (O.length : Int)) = true := decide_eq_true (by omega)
    have dk2 : decide (k < O.length) = true := decide_eq_true hlt
    have hki : (k : Int) < (O.length : Int) := by omega
    have hkA : k < A.length := by rw [← lOO.out]; exact hlt
    have hkB : k < B.length := by rw [lBB.out]; exact hkA
    have hkS : k < S.length := by rw [lSS.out]; exact hkA
    have PO := Lib.hid (HRW.out.ok k hkA)
    have WR := Lib.hid (HW.out.below (HB.out ▸ SR.out.bel))
    obtain ⟨qo, hqo, hqob, hqoc⟩ := WR.out.f3.cells k hlt
    obtain ⟨qs, hqs, _, _⟩ := HW.out.f2.cells k hkS
    obtain ⟨qa, hqa, _, _⟩ := HW.out.i0.cells k hkA
    obtain ⟨qb, hqb, _, _⟩ := HW.out.i1.cells k hkB
    subst hqs hqa hqb
    have QDK := Lib.hid (fun w h => QD.out w h HRW.out k hlt)
    rw [fAt_get hlt] at hqoc
    obtain ⟨Uo, hUo⟩ : ∃ Uo, Uo = fAt O k := ⟨_, rfl⟩
    rw [← hUo] at hqoc QDK
    obtain ⟨U, V⟩ := Uo
    have HQO := Lib.hid hqoc
    have HUV := Lib.hid hUo
    subst hqo
    clear hqoc hUo WR
    generalize hdn : doneW (U, V) N D = dn at QDK
    have HDN := Lib.hid hdn
    clear hdn
    go_upto_region 19 with (first
      | (refine wpList_load_at rfl 24 _ rfl (qo.add (k * 2)) rfl [.string ⟨U.toArray⟩, .string ⟨V.toArray⟩] _ HQO.out Tryd.underlying24 rfl size_apiF ?_)
      | (refine wpList_store_whole rfl rfl 24 _ _ rfl wr.heap.size #[.string ⟨#[]⟩, .string ⟨#[]⟩] #[.string ⟨U.toArray⟩, .string ⟨V.toArray⟩] 24 rfl rfl (heap_at rfl) rfl size_apiF (two_strings _ _) ?_; intro w6 ho hp))
    have b6 : Below wr.heap.size wr w6 := bel_only ((Below.refl _ _).alloc (Nat.le_refl _) _) ho (Nat.le_refl _)
    have S6 := Lib.hid (SR.out.below b6)
    have HP6 := Lib.hid hp
    have hP6 : wr.heap.size < w6.heap.size := lt_of_heap hp
    clear ho hp b6 SR HQO hqob
    generalize wr.heap.size = P at *
    have hPl : ((nextOs A B S O N D M).take k).length = k := by rw [List.length_take, length_nextOs]; omega
    have hPb : ((nextOs A B S O N D M).take k).length < 140737488355 := by omega
    clear hPl
    have HTAKE := Lib.hid (show (nextOs A B S O N D M).take (k + 1) = (nextOs A B S O N D M).take k ++ [nextAt A B S O N D M k] from nextOs_take hlt)
    generalize (nextOs A B S O N D M).take k = Pk at *
    cases dn with
    | true =>
      have HNX := Lib.hid (show nextAt A B S O N D M k = (U, V) by
        unfold nextAt nextO
        rw [← HUV.out, if_pos HDN.out])
      have HTK := Lib.hid (show (nextOs A B S O N D M).take (k + 1) = Pk ++ [(U, V)] by rw [← HNX.out]; exact HTAKE.out)
      go_upto_region 20 with (first | (refine wpList_load_whole rfl 27 _ rfl B0 _ _ _ _ rfl S6.out.arg Tryd.underlying27 rfl size_watch ?_) | (go_at_call 41; refine (QDK.out w6 (HW.out.below (HB.out ▸ S6.out.bel))).mono ?_; rintro e w7 ⟨rfl, b7⟩))
      have x3 : w7.cell? ⟨X, 3, none⟩ = some v := cell_of_row w7 X 3 _ _ _ (bel_keep b7 (lt_of_heap S6.out.row) S6.out.row)
      have S7 := Lib.hid (S6.out.below b7)
      have HPC := Lib.hid (bel_keep b7 hP6 HP6.out)
      have hX7 : X < w7.heap.size := lt_of_heap S7.out.row
      have BB := Lib.hid ((Below.refl w7.heap.size w7).alloc (Nat.le_refl _) (.cells #[.string ⟨U.toArray⟩, .string ⟨V.toArray⟩] 24))
      clear b7 S6 HP6 hP6
      go_wp2_with (first
        | (refine wpList_load_whole rfl 24 _ rfl P _ _ _ _ rfl HPC.out Tryd.underlying24 rfl size_apiF ?_)
        | (at_builtin; refine wpList_append_lies _ rfl (.tmp 73) (.tmp 75) 25 rfl (X + 1) 24 f0 (.agg #[.string ⟨#[]⟩, .string ⟨#[]⟩]) 2 32 Tryd.underlying25 F0.out FZ0.out FZ1.out FZ2.out rfl (by decide) v Pk.length (fvals Pk) rfl (S7.out.below BB.out).own ⟨w7.heap.size, 0, none⟩ 1 1 (fvals [(U, V)]) rfl rfl (news_blk (heap_at rfl)) (fvals_one _) (by decide) (by unfold maxLen; omega) (by omega) (by have := lt_of_heap (S7.out.below BB.out).row; omega) _ rfl ?_
           intro g9 c9 wf own hg hf hlt9
           have n9 : wf.cell? ⟨X, 3, none⟩ = some v := cell_of_row wf X 3 _ _ _ ((S7.out.below BB.out).rowAt hg)
           have z9 : wf.frozen? ⟨X, 3, none⟩ = false := frozen_of_row wf X 3 _ _ ((S7.out.below BB.out).rowAt hg)
           have hX9 : X < wf.heap.size := lt_of_heap ((S7.out.below BB.out).rowAt hg)))
      go_roundw
      case rel => exact ⟨k + 1, .slice (some ⟨g9, 0, none⟩) (Pk.length + 1) c9, by omega, by go_num, by rw [HTK.out]; exact RwSt.app (S7.out.below BB.out) rfl own hg⟩
      case measure => simp [intOf]; omega
    | false =>
      go_upto_region 21 with (first | (refine wpList_load_whole rfl 27 _ rfl B0 _ _ _ _ rfl S6.out.arg Tryd.underlying27 rfl size_watch ?_) | (go_at_call 41; refine (QDK.out w6 (HW.out.below (HB.out ▸ S6.out.bel))).mono ?_; rintro e w7 ⟨rfl, b7⟩))
      have S7 := Lib.hid (S6.out.below b7)
      have HP7 := Lib.hid (bel_keep b7 hP6 HP6.out)
      clear b7 S6 HP6 hP6 QDK
      have hfo : frB 0 U V = true := by have := PO.out.o; rw [← HUV.out] at this; exact this
      obtain ⟨n1, n2, hV0, _, _⟩ := frB_good hfo
      have hlUV := LO.out k hlt
      rw [← HUV.out] at hlUV
      dsimp only at hlUV
      have QFO := Lib.hid (fun w => refFrac_any 0 U V w (by omega) (by omega) (.inl (by omega)))
      obtain ⟨XY, hXY⟩ : ∃ XY, XY = fAt S k := ⟨_, rfl⟩
      obtain ⟨XS, YS⟩ := XY
      have hfs : frB 100 XS YS = true := by have := PO.out.s; rw [← hXY] at this; exact this
      obtain ⟨s1, s2, hY0, _, _⟩ := frB_good hfs
      have hsl := frB_len hfs
      have QFS := Lib.hid (fun w => refFrac_any 100 XS YS w (by omega) (by omega) (.inr (by decide)))
      unfold RFGot at QFO QFS
      rw [hfo] at QFO
      rw [hfs] at QFS
      have hle : dv XS ≤ dv YS := by have := PO.out.one; rw [← hXY] at this; exact this
      have e1 : (dig (dv XS)).length ≤ 100 := Nat.le_trans (dig_text XS ((numB_iff XS).1 s1).2.1) hsl.1
      have e2 : (dig (dv YS)).length ≤ 100 := Nat.le_trans (dig_text YS ((numB_iff YS).1 s2).2.1) hsl.2
      have e3 : (dig (dv U)).length ≤ 99999999 := Nat.le_trans (dig_text U ((numB_iff U).1 n1).2.1) hlUV.1
      have e4 : (dig (dv V)).length ≤ 99999999 := Nat.le_trans (dig_text V ((numB_iff V).1 n2).2.1) hlUV.2
      have HTU := Lib.hid (show strD (dv U) = U ∧ strD (dv V) = V from ⟨strD_dv U n1, strD_dv V n2⟩)
      obtain ⟨ia, hia⟩ : ∃ ia : Nat, iAt A k = (ia : Int) := ⟨(iAt A k).toNat, by have := PO.out.a; omega⟩
      obtain ⟨ib, hib⟩ : ∃ ib : Nat, iAt B k = (ib : Int) := ⟨(iAt B k).toNat, by have := PO.out.b; omega⟩
      have hiaM : ia < M.length := by have := PO.out.a; omega
      have hibM : ib < M.length := by have := PO.out.b; omega
      obtain ⟨qm, hqm, _, _⟩ := HMM.out.cells ia hiaM
      subst hqm
      have HMA := Lib.hid (fun (w' : World) (hb : Below w.heap.size w w') => (show (qa.block < w'.heap.size ∧ qb.block < w'.heap.size ∧ qm.block < w'.heap.size) ∧ w'.cell? (qa.add k) = some (.int .i64 (ia : Int)) ∧ w'.cell? (qb.add k) = some (.int .i64 (ib : Int)) ∧ w'.cell? (qm.add ia) = some (.int .i64 (iAt M ia)) ∧ w'.cell? (qm.add ib) = some (.int .i64 (iAt M ib)) by
        obtain ⟨x1, t1, h1, h2⟩ := (HMM.out.below hb).cells ia hiaM
        obtain ⟨x2, t2, h3, h4⟩ := (HMM.out.below hb).cells ib hibM
        obtain ⟨x3, t3, h5, h6⟩ := (HW.out.below hb).i0.cells k hkA
        obtain ⟨x4, t4, h7, h8⟩ := (HW.out.below hb).i1.cells k hkB
        cases t1
        cases t2
        cases t3
        cases t4
        rw [iAt_get hiaM] at h2
        rw [iAt_get hibM] at h4
        rw [iAt_get hkA, hia] at h6
        rw [iAt_get hkB, hib] at h8
        exact ⟨⟨h5, h7, h1⟩, h6, h8, h2, h4⟩))
      have HNA := Lib.hid (show nextAt A B S O N D M k = if iAt M ia = iAt M ib then (U, V) else if iAt M ib < iAt M ia then upO (U, V) (XS, YS) else downO (U, V) (XS, YS) by
        unfold nextAt nextO
        rw [← HUV.out, ← hXY, hia, hib, if_neg (by rw [HDN.out]; decide)]
        rfl)
      have HXY := Lib.hid hXY
      have d1 : (dig 1).length ≤ 1 := length_dig_le 1 1 (by decide)
      have d2 : (dig 2).length ≤ 1 := length_dig_le 2 1 (by decide)
      have m1 : (dig (mN 1 1 (dv XS) (dv YS))).length ≤ 100 := Nat.le_trans (length_dig_le _ _ (Nat.lt_of_le_of_lt (mN_le _ _) (lt_pow_length _))) e2
      have m2 : (dig (mD 1 1 (dv XS) (dv YS))).length ≤ 100 := Nat.le_trans (length_dig_le _ _ (Nat.lt_of_le_of_lt (mD_le _ _) (lt_pow_length _))) e2
      have mp := mD_pos (dv XS) (dv YS) hY0
      have HUP := Lib.hid (show upO (U, V) (XS, YS) = (strD (tN (dv U) (dv V) (tN 2 1 (dv XS) (dv YS)) (tD 2 1 (dv XS) (dv YS))), strD (tD (dv U) (dv V) (tN 2 1 (dv XS) (dv YS)) (tD 2 1 (dv XS) (dv YS)))) from rfl)
      have HDW := Lib.hid (show downO (U, V) (XS, YS) = (strD (tN (dv U) (dv V) (tN 2 1 (mN 1 1 (dv XS) (dv YS)) (mD 1 1 (dv XS) (dv YS))) (tD 2 1 (mN 1 1 (dv XS) (dv YS)) (mD 1 1 (dv XS) (dv YS)))), strD (tD (dv U) (dv V) (tN 2 1 (mN 1 1 (dv XS) (dv YS)) (mD 1 1 (dv XS) (dv YS))) (tD 2 1 (mN 1 1 (dv XS) (dv YS)) (mD 1 1 (dv XS) (dv YS))))) from rfl)
      clear hXY n1 n2 s1 s2 hfo hfs hlUV hsl hia hib
      generalize dv U = xa at *
      generalize dv V = xb at *
      generalize dv XS = s at *
      generalize dv YS = t at *
      go_upto_region 22 with (first
        | (refine wpList_load_whole rfl 24 _ rfl P _ _ _ _ rfl HP7.out Tryd.underlying24 rfl size_apiF ?_)
        | (go_at_call 47; refine (QFO.out w7).mono ?_; rintro e w8 ⟨on1, nn1, cn1, od1, nd1, cd1, rfl, hg, b8⟩; obtain ⟨rfl, rfl, hF⟩ := hg (by first | rfl | trivial); have HF8 := Lib.hid hF; clear hF)
        | (refine wpList_store_whole rfl rfl 63 _ _ rfl w8.heap.size #[.slice none 0 0, .slice none 0 0] #[.slice on1 (dig xa).length cn1, .slice od1 (dig xb).length cd1] 63 rfl rfl (heap_at rfl) rfl HSN.out (two_slices _ _ _ _ _ _) ?_; intro w9 ho hp))
      have b89 : Below w8.heap.size w8 w9 := bel_only ((Below.refl _ _).alloc (Nat.le_refl _) _) ho (Nat.le_refl _)
      have b79 := b8.trans (b89.mono b8.size)
      have S9 := Lib.hid (S7.out.below b79)
      have HF9 := Lib.hid (HF8.out.below b89)
      have HE9 := Lib.hid hp
      have hE9 : w8.heap.size < w9.heap.size := lt_of_heap hp
      have hXE : X < w8.heap.size := Nat.lt_of_lt_of_le (lt_of_heap S7.out.row) b8.size
      have hb9 : B0 < w9.heap.size := lt_of_heap S9.out.arg
      have s2c : w9.cell? ⟨B0, 2, none⟩ = some (.slice (some qs) S.length c2) := cell_of_row w9 B0 2 _ _ _ S9.out.arg
      obtain ⟨q9, hq9, _, hqc9⟩ := (HW.out.below (HB.out ▸ S9.out.bel)).f2.cells k hkS
      cases hq9
      rw [fAt_get hkS, ← HXY.out] at hqc9
      have HQS := Lib.hid hqc9
      have ds1 : decide ((k : Int) < (S.length : Int)) = true := decide_eq_true (by omega)
      have ds2 : decide (k < S.length) = true := decide_eq_true hkS
      have dsi : (k : Int) < (S.length : Int) := by omega
      clear hqc9 hp ho b8 b89 b79 HF8 S7 HP7 QFO
      generalize w8.heap.size = E1 at *
      go_upto_region 23 with (first
        | (refine wpList_load_at rfl 24 _ rfl (qs.add (k * 2)) rfl [.string ⟨XS.toArray⟩, .string ⟨YS.toArray⟩] _ HQS.out Tryd.underlying24 rfl size_apiF ?_)
        | (go_at_call 47; refine (QFS.out w9).mono ?_; rintro e w10 ⟨on2, nn2, cn2, od2, nd2, cd2, rfl, hg, b10⟩; obtain ⟨rfl, rfl, hG⟩ := hg (by first | rfl | trivial); have HG10 := Lib.hid hG; clear hG)
        | (refine wpList_store_whole rfl rfl 63 _ _ rfl w10.heap.size #[.slice none 0 0, .slice none 0 0] #[.slice on2 (dig s).length cn2, .slice od2 (dig t).length cd2] 63 rfl rfl (heap_at rfl) rfl HSN.out (two_slices _ _ _ _ _ _) ?_; intro w11 ho hp))
      have b1011 : Below w10.heap.size w10 w11 := bel_only ((Below.refl _ _).alloc (Nat.le_refl _) _) ho (Nat.le_refl _)
      have b911 := b10.trans (b1011.mono b10.size)
      have S11 := Lib.hid (S9.out.below b911)
      have HF11 := Lib.hid (HF9.out.below b911)
      have HE11 := Lib.hid (bel_keep b911 hE9 HE9.out)
      have HG11 := Lib.hid (HG10.out.below b1011)
      have HH11 := Lib.hid hp
      have hEE : E1 < w10.heap.size := Nat.lt_of_lt_of_le hE9 b10.size
      have HMB := Lib.hid (HMA.out w11 (HB.out ▸ S11.out.bel))
      clear ho hp b10 b1011 b911 HG10 S9 HF9 HE9 hE9 hb9 s2c HQS QFS HMA ds1 ds2 dsi
      generalize w10.heap.size = E2 at *
      obtain ⟨M4, hM4⟩ : ∃ M4, M4 = w11.heap.size := ⟨_, rfl⟩
      have HM4 := Lib.hid hM4
      have hBM4 : B0 < M4 := by rw [hM4]; exact lt_of_heap S11.out.arg
      have hqaM : qa.block < M4 := by rw [hM4]; exact HMB.out.1.1
      have hqbM : qb.block < M4 := by rw [hM4]; exact HMB.out.1.2.1
      have hqmM : qm.block < M4 := by rw [hM4]; exact HMB.out.1.2.2
      clear hM4
      have dka1 : decide ((k : Int) < (A.length : Int)) = true := decide_eq_true (by omega)
      have dka2 : decide (k < A.length) = true := decide_eq_true hkA
      have dkai : (k : Int) < (A.length : Int) := by omega
      have dkb1 : decide ((k : Int) < (B.length : Int)) = true := decide_eq_true (by omega)
      have dkb2 : decide (k < B.length) = true := decide_eq_true hkB
      have dkbi : (k : Int) < (B.length : Int) := by omega
      have dia : decide ((ia : Int) < (M.length : Int)) = true := decide_eq_true (by omega)
      have dia2 : decide (ia < M.length) = true := decide_eq_true hiaM
      have hiaI : (ia : Int) < (M.length : Int) := by omega
      have dib : decide ((ib : Int) < (M.length : Int)) = true := decide_eq_true (by omega)
      have dib2 : decide (ib < M.length) = true := decide_eq_true hibM
      have hibI : (ib : Int) < (M.length : Int) := by omega
      generalize iAt M ia = ma at *
      generalize iAt M ib = mb at *
      have hwd : ∃ x : BelowT M4 w11, w11.drew = x.w := ⟨⟨_, (Below.refl _ _).drew⟩, rfl⟩
      refine Seg.wp_region_segs (fun w' => ∃ x : BelowT M4 w11, w' = x.w) [] [0, 1, 2, 3, 4, 5, 6, 7, 8, 9, 10, 11, 12, 13, 14, 15, 16] 17 (by kernel_rfl) (by kernel_rfl) (fun _ _ d _ _ h => by cases d <;> exact h) (hwd) ?_
      simp only [List.map_cons, List.map_nil, Seg.opAt, List.drop_succ_cons, List.drop_zero, Seg.wpSegs, Array.getD_eq_getD_getElem?, List.getElem?_toArray, List.getElem?_cons_succ, List.getElem?_cons_zero, Option.getD_some]
      first | go_big_quiet_step (fail) | quiet_step (fail)
      first | go_big_quiet_step (fail) | quiet_step (fail)
      refine wpQuiet_load_one rfl 22 _ rfl ⟨B0, 0, none⟩ (.slice (some qa) A.length c0) _ rfl (fun w' hw' => by obtain ⟨x, rfl⟩ := hw'; exact cell_of_row _ B0 0 _ _ _ (bel_keep x.2 hBM4 S11.out.arg)) Tryd.underlying22 rfl ?_
      first | go_big_quiet_step (fail) | quiet_step (fail)
      first | go_big_quiet_step (fail) | quiet_step (fail)
      refine wpQuiet_load_one rfl 3 _ rfl (qa.add k) (.int .i64 (ia : Int)) _ rfl (fun w' hw' => by obtain ⟨x, rfl⟩ := hw'; exact (x.2.cell (by rw [addr_block']; exact hqaM)).trans HMB.out.2.1) Tryd.underlying3 rfl ?_
      first | go_big_quiet_step (fail) | quiet_step (fail)
      refine wpQuiet_load_one rfl 3 _ rfl (qm.add ia) (.int .i64 ma) _ rfl (fun w' hw' => by obtain ⟨x, rfl⟩ := hw'; exact (x.2.cell (by rw [addr_block']; exact hqmM)).trans HMB.out.2.2.2.1) Tryd.underlying3 rfl ?_
      first | go_big_quiet_step (fail) | quiet_step (fail)
      first | go_big_quiet_step (fail) | quiet_step (fail)
      refine wpQuiet_load_one rfl 22 _ rfl ⟨B0, 1, none⟩ (.slice (some qb) B.length c1) _ rfl (fun w' hw' => by obtain ⟨x, rfl⟩ := hw'; exact cell_of_row _ B0 1 _ _ _ (bel_keep x.2 hBM4 S11.out.arg)) Tryd.underlying22 rfl ?_
      first | go_big_quiet_step (fail) | quiet_step (fail)
      first | go_big_quiet_step (fail) | quiet_step (fail)
      refine wpQuiet_load_one rfl 3 _ rfl (qb.add k) (.int .i64 (ib : Int)) _ rfl (fun w' hw' => by obtain ⟨x, rfl⟩ := hw'; exact (x.2.cell (by rw [addr_block']; exact hqbM)).trans HMB.out.2.2.1) Tryd.underlying3 rfl ?_
      first | go_big_quiet_step (fail) | quiet_step (fail)
      refine wpQuiet_load_one rfl 3 _ rfl (qm.add ib) (.int .i64 mb) _ rfl (fun w' hw' => by obtain ⟨x, rfl⟩ := hw'; exact (x.2.cell (by rw [addr_block']; exact hqmM)).trans HMB.out.2.2.2.2) Tryd.underlying3 rfl ?_
      first | go_big_quiet_step (fail) | quiet_step (fail)
      refine wpQuiet_nil ?_
      have b12 : Below w11.heap.size w11 w11.drew := (Below.refl _ _).drew
      have S12 := Lib.hid (S11.out.below b12)
      have HF12 := Lib.hid (HF11.out.below b12)
      have HG12 := Lib.hid (HG11.out.below b12)
      have HE12 : Hid (w11.drew.heap[E1]? = _) := Lib.hid (bel_keep b12 (lt_of_heap HE11.out) HE11.out)
      have HH12 : Hid (w11.drew.heap[E2]? = _) := Lib.hid (bel_keep b12 (lt_of_heap HH11.out) HH11.out)
      clear hwd b12 S11 HF11 HG11 HE11 HH11 HM4 hBM4 hqaM hqbM hqmM HMB dka1 dka2 dkai dkb1 dkb2 dkbi dia dia2 hiaI dib dib2 hibI
      generalize w11.drew = w12 at *
      obtain ⟨M6, hM6⟩ : ∃ M6, M6 = w12.heap.size := ⟨_, rfl⟩
      have HM6 := Lib.hid hM6
      have hE1M : E1 < M6 := by rw [hM6]; exact lt_of_heap HE12.out
      have hE2M : E2 < M6 := by rw [hM6]; exact lt_of_heap HH12.out
      have hE12 : E1 < w12.heap.size := by rw [← hM6]; exact hE1M
      clear hM6
      have u1 := tN_digN 2 1 s t
      have u2 := tD_digN 2 1 s t
      have u3 := tN_digN 2 1 (mN 1 1 s t) (mD 1 1 s t)
      have u4 := tD_digN 2 1 (mN 1 1 s t) (mD 1 1 s t)
      have up := tD_posN (a := 2) (b := 1) (c := s) (d := t) (by omega)
      have dp := tD_posN (a := 2) (b := 1) (c := mN 1 1 s t) (d := mD 1 1 s t) (by omega)
      have QW1 := Lib.hid (fun w => refWhole_any 1 w (by decide))
      have QW2 := Lib.hid (fun w => refWhole_any 2 w (by decide))
      by_cases hlt2 : mb < ma
      · have dl : decide (mb < ma) = true := decide_eq_true hlt2
        have dl2 : decide (ma < mb) = false := decide_eq_false (by omega)
        have HNB := Lib.hid (show nextAt A B S O N D M k = _ from HNA.out.trans ((if_neg (by omega)).trans ((if_pos hlt2).trans HUP.out)))
        have QT1 := Lib.hid (fun oa ob ca cb w h1 h2 => refTimes_any 2 1 s t oa ob on2 od2 ca cb cn2 cd2 w h1 h2 (by omega) (by omega) (by omega) (by omega) (by omega))
        change Hid (∀ oa ob ca cb w _ _, Calls _ _ _ w (fun e w' => ∃ on om cn cm, e = .returned (.agg #[.slice on (dig (tN 2 1 s t)).length cn, .slice om (dig (tD 2 1 s t)).length cm]) ∧ NFr w' (tN 2 1 s t) (tD 2 1 s t) on om ∧ Below w.heap.size w w')) at QT1
        generalize tN 2 1 s t = UN at *
        generalize tD 2 1 s t = UD at *
        have QT2 := Lib.hid (fun oc od cc cd w h1 h2 => refTimes_any xa xb UN UD on1 od1 oc od cn1 cd1 cc cd w h1 h2 (Nat.mul_pos hV0 up) (by omega) (by omega) (by omega) (by omega))
        change Hid (∀ oc od cc cd w _ _, Calls _ _ _ w (fun e w' => ∃ on om cn cm, e = .returned (.agg #[.slice on (dig (tN xa xb UN UD)).length cn, .slice om (dig (tD xa xb UN UD)).length cm]) ∧ NFr w' (tN xa xb UN UD) (tD xa xb UN UD) on om ∧ Below w.heap.size w w')) at QT2
        have g1 := tN_digN xa xb UN UD
        have g2 := tD_digN xa xb UN UD
        have QSY := Lib.hid (fun on od cn cd w h => refSay_any (tN xa xb UN UD) (tD xa xb UN UD) on od cn cd w h (by omega) (by omega))
        generalize strD (tN xa xb UN UD) = XN at *
        generalize strD (tD xa xb UN UD) = XD at *
        generalize tN xa xb UN UD = PN at *
        generalize tD xa xb UN UD = PD' at *
        have HTK := Lib.hid (show (nextOs A B S O N D M).take (k + 1) = Pk ++ [(XN, XD)] by rw [← HNB.out]; exact HTAKE.out)
        clear g1 g2 u1 u2 u3 u4 up dp m1 m2 mp e1 e2 e3 e4 d1 d2 hle hV0 hY0 hlt2
        generalize hl1 : (dig 1).length = l1' at QW1 QW2 QT1
        generalize hl2 : (dig 2).length = l2' at QW1 QW2 QT1
        clear hl1 hl2
        go_upto_region 25 with (fail)
        refine Seg.wp_region_segs (fun w' => ∃ x : BelowT M6 w12, w' = x.w) [([0, 2], 1), ([], 3)] [] 4 (by kernel_rfl) (by kernel_rfl) (fun _ _ d _ _ h => by cases d <;> exact h) (⟨⟨w12.drew, by rw [HM6.out]; exact (Below.refl _ _).drew⟩, rfl⟩) ?_
        simp only [List.map_cons, List.map_nil, Seg.opAt, List.drop_succ_cons, List.drop_zero, Seg.wpSegs, Array.getD_eq_getD_getElem?, List.getElem?_toArray, List.getElem?_cons_succ, List.getElem?_cons_zero, Option.getD_some]
        refine wpQuiet_load_at rfl 63 _ rfl ⟨E1, 0, none⟩ [.slice on1 (dig xa).length cn1, .slice od1 (dig xb).length cd1] _ rfl (fun w' hw' => by obtain ⟨x, rfl⟩ := hw'; exact news_blk (bel_keep x.2 hE1M HE12.out)) Tryd.underlying63 rfl HSN.out ?_
        refine wpQuiet_load_at rfl 63 _ rfl ⟨E2, 0, none⟩ [.slice on2 (dig s).length cn2, .slice od2 (dig t).length cd2] _ rfl (fun w' hw' => by obtain ⟨x, rfl⟩ := hw'; exact news_blk (bel_keep x.2 hE2M HH12.out)) Tryd.underlying63 rfl HSN.out ?_
        refine wpQuiet_nil ?_
        intro K hK
        first | go_simp | skip
        go_wp2_with (go_at_call 33; refine (QW2.out w12.drew).mono ?_; rintro e wa ⟨p1, p2, k1, k2, rfl, hU, ba⟩)
        have Ba := Lib.hid (undrew ba)
        have HU := Lib.hid hU
        refine hK _ _ ⟨⟨wa, by rw [HM6.out]; exact Ba.out⟩, rfl⟩ ?_
        clear hK K hU ba
        repeat (any_goals (first | go_big_quiet_step (fail) | quiet_step (fail)))
        refine wpQuiet_nil ?_
        intro K hK
        first | go_simp | skip
        go_wp2_with (go_at_call 48; refine (QT1.out p1 p2 k1 k2 wa HU.out (HG12.out.below Ba.out)).mono ?_; rintro e wb ⟨r1, r2, k3, k4, rfl, hT, bb⟩)
        have Bb := Lib.hid (Ba.out.trans (bb.mono Ba.out.size))
        have HT := Lib.hid hT
        refine hK _ _ ⟨⟨wb, by rw [HM6.out]; exact Bb.out⟩, rfl⟩ ?_
        clear hK K hT bb
        repeat (any_goals (first | go_big_quiet_step (fail) | quiet_step (fail)))
        refine wpQuiet_nil ?_
        go_upto_region 26 with (first
          | (refine wpList_store_whole rfl rfl 63 _ _ rfl E1 #[.slice on1 (dig xa).length cn1, .slice od1 (dig xb).length cd1] #[.slice z1 (dig PN).length j1, .slice z2 (dig PD').length j2] 63 rfl rfl (bel_keep Bz hE12 HE12.out) rfl HSN.out (two_slices _ _ _ _ _ _) ?_; intro w20 ho hp)
          | (go_at_call 48; refine (QT2.out r1 r2 k3 k4 wb (HF12.out.below Bb.out) HT.out).mono ?_; rintro e wz ⟨z1, z2, j1, j2, rfl, hZ, bz⟩; have Bz := Bb.out.trans (bz.mono Bb.out.size); have HZ := Lib.hid hZ; clear hZ bz))
        have S20 := Lib.hid ((S12.out.below Bz).turn ho (bel_keep Bz hE12 HE12.out) (by decide) hXE)
        have HF20 := Lib.hid (show NFr w20 PN PD' z1 z2 from ⟨HZ.out.num.spared (bel_keep Bz hE12 HE12.out) (two_noInt2 _ _ _ _ _ _) ho, HZ.out.den.spared (bel_keep Bz hE12 HE12.out) (two_noInt2 _ _ _ _ _ _) ho⟩)
        have HE20 := Lib.hid hp
        clear ho hp Bz
        go_upto_region 28 with (fail)
        obtain ⟨M5, hM5⟩ : ∃ M5, M5 = w20.heap.size := ⟨_, rfl⟩
        have HM5 := Lib.hid hM5
        have hXM5 : X < M5 := by rw [hM5]; exact lt_of_heap S20.out.row
        have hEM5 : E1 < M5 := by rw [hM5]; exact lt_of_heap HE20.out
        clear hM5
        refine Seg.wp_region_segs (fun w' => ∃ x : BelowT M5 w20, w' = x.w) [([0, 1, 2], 3), ([], 4)] [] 5 (by kernel_rfl) (by kernel_rfl) (fun _ _ d _ _ h => by cases d <;> exact h) (⟨⟨w20.drew, by rw [HM5.out]; exact (Below.refl _ _).drew⟩, rfl⟩) ?_
        simp only [List.map_cons, List.map_nil, Seg.opAt, List.drop_succ_cons, List.drop_zero, Seg.wpSegs, Array.getD_eq_getD_getElem?, List.getElem?_toArray, List.getElem?_cons_succ, List.getElem?_cons_zero, Option.getD_some]
        first | go_big_quiet_step (fail) | quiet_step (fail)
        refine wpQuiet_load_one rfl 25 _ rfl ⟨X, 3, none⟩ v _ rfl (fun w' hw' => by obtain ⟨x, rfl⟩ := hw'; exact cell_of_row _ X 3 _ _ _ (bel_keep x.2 hXM5 S20.out.row)) Tryd.underlying25 rfl ?_
        refine wpQuiet_load_at rfl 63 _ rfl ⟨E1, 0, none⟩ [.slice z1 (dig PN).length j1, .slice z2 (dig PD').length j2] _ rfl (fun w' hw' => by obtain ⟨x, rfl⟩ := hw'; exact news_blk (bel_keep x.2 hEM5 HE20.out)) Tryd.underlying63 rfl HSN.out ?_
        refine wpQuiet_nil ?_
        intro K hK
        first | go_simp | skip
        go_wp2_with (go_at_call 31; refine (QSY.out z1 z2 j1 j2 w20.drew (HF20.out.below (Below.refl _ _).drew)).mono ?_; rintro e wg ⟨rfl, bg⟩)
        have Bg := Lib.hid (undrew bg)
        refine hK _ _ ⟨⟨wg, by rw [HM5.out]; exact Bg.out⟩, rfl⟩ ?_
        clear hK K bg
        have Sg := Lib.hid (S20.out.below Bg.out)
        repeat (any_goals (first | go_big_quiet_step (fail) | quiet_step (fail)))
        refine wpQuiet_nil ?_
        intro K hK
        first | go_simp | skip
        go_wp2_with fail
        have bh : Below wg.heap.size wg (wg.alloc (.cells #[.string ⟨XN.toArray⟩, .string ⟨XD.toArray⟩] 24)) := (Below.refl _ _).alloc (Nat.le_refl _) _
        have Sh := Lib.hid (Sg.out.below bh)
        have Bh := Lib.hid (Bg.out.trans (bh.mono Bg.out.size))
        have ed : (wg.alloc (.cells #[.string ⟨XN.toArray⟩, .string ⟨XD.toArray⟩] 24)).heap[wg.heap.size]? = some (.cells #[.string ⟨XN.toArray⟩, .string ⟨XD.toArray⟩] 24 (0, 0)) := heap_at rfl
        refine hK _ _ ⟨⟨_, by rw [HM5.out]; exact Bh.out⟩, rfl⟩ ?_
        clear hK K bh
        generalize (wg.alloc (.cells #[.string ⟨XN.toArray⟩, .string ⟨XD.toArray⟩] 24)) = wh at *
        generalize wg.heap.size = p9 at *
        repeat (any_goals (first | go_big_quiet_step (fail) | quiet_step (fail)))
        refine wpQuiet_nil ?_
        go_wp2_with (first
          | (at_builtin; refine wpList_append_lies _ rfl (.tmp 127) (.tmp 130) 25 rfl (X + 1) 24 f0 (.agg #[.string ⟨#[]⟩, .string ⟨#[]⟩]) 2 32 Tryd.underlying25 F0.out FZ0.out FZ1.out FZ2.out rfl (by decide) v Pk.length (fvals Pk) rfl Sh.out.own ⟨p9, 0, none⟩ 1 1 (fvals [(XN, XD)]) rfl rfl (news_blk ed) (fvals_one _) (by decide) (by unfold maxLen; omega) (by omega) (by have := lt_of_heap Sh.out.row; omega) _ rfl ?_
             intro g9 c9 wf own hg hf hlt9
             have n9 : wf.cell? ⟨X, 3, none⟩ = some v := cell_of_row wf X 3 _ _ _ (Sh.out.rowAt hg)
             have z9 : wf.frozen? ⟨X, 3, none⟩ = false := frozen_of_row wf X 3 _ _ (Sh.out.rowAt hg)
             have hX9 : X < wf.heap.size := lt_of_heap (Sh.out.rowAt hg)))
        go_roundw
        case rel => exact ⟨k + 1, .slice (some ⟨g9, 0, none⟩) (Pk.length + 1) c9, by omega, by go_num, by rw [HTK.out]; exact RwSt.app Sh.out rfl own hg⟩
        case measure => simp [intOf]; omega
      by_cases hlt3 : ma < mb
      · have dl : decide (mb < ma) = false := decide_eq_false hlt2
        have dl2 : decide (ma < mb) = true := decide_eq_true hlt3
        have HNB := Lib.hid (show nextAt A B S O N D M k = _ from HNA.out.trans ((if_neg (by omega)).trans ((if_neg hlt2).trans HDW.out)))
        have QM := Lib.hid (fun oa ob ca cb w h1 h2 => refMinus_any 1 1 s t oa ob on2 od2 ca cb cn2 cd2 w h1 h2 (by omega) (by omega) (by omega) (by omega) (by omega) (by omega))
        change Hid (∀ oa ob ca cb w _ _, Calls _ _ _ w (fun e w' => ∃ on om cn cm, e = .returned (.agg #[.slice on (dig (mN 1 1 s t)).length cn, .slice om (dig (mD 1 1 s t)).length cm]) ∧ NFr w' (mN 1 1 s t) (mD 1 1 s t) on om ∧ Below w.heap.size w w')) at QM
        generalize mN 1 1 s t = MN at *
        generalize mD 1 1 s t = MD at *
        have QT1 := Lib.hid (fun oa ob oc od ca cb cc cd w h1 h2 => refTimes_any 2 1 MN MD oa ob oc od ca cb cc cd w h1 h2 (by omega) (by omega) (by omega) (by omega) (by omega))
        change Hid (∀ oa ob oc od ca cb cc cd w _ _, Calls _ _ _ w (fun e w' => ∃ on om cn cm, e = .returned (.agg #[.slice on (dig (tN 2 1 MN MD)).length cn, .slice om (dig (tD 2 1 MN MD)).length cm]) ∧ NFr w' (tN 2 1 MN MD) (tD 2 1 MN MD) on om ∧ Below w.heap.size w w')) at QT1
        generalize tN 2 1 MN MD = UN at *
        generalize tD 2 1 MN MD = UD at *
        have QT2 := Lib.hid (fun oc od cc cd w h1 h2 => refTimes_any xa xb UN UD on1 od1 oc od cn1 cd1 cc cd w h1 h2 (Nat.mul_pos hV0 dp) (by omega) (by omega) (by omega) (by omega))
        change Hid (∀ oc od cc cd w _ _, Calls _ _ _ w (fun e w' => ∃ on om cn cm, e = .returned (.agg #[.slice on (dig (tN xa xb UN UD)).length cn, .slice om (dig (tD xa xb UN UD)).length cm]) ∧ NFr w' (tN xa xb UN UD) (tD xa xb UN UD) on om ∧ Below w.heap.size w w')) at QT2
        have g1 := tN_digN xa xb UN UD
        have g2 := tD_digN xa xb UN UD
        have QSY := Lib.hid (fun on od cn cd w h => refSay_any (tN xa xb UN UD) (tD xa xb UN UD) on od cn cd w h (by omega) (by omega))
        generalize strD (tN xa xb UN UD) = XN at *
        generalize strD (tD xa xb UN UD) = XD at *
        generalize tN xa xb UN UD = PN at *
        generalize tD xa xb UN UD = PD' at *
        have HTK := Lib.hid (show (nextOs A B S O N D M).take (k + 1) = Pk ++ [(XN, XD)] by rw [← HNB.out]; exact HTAKE.out)
        clear g1 g2 u1 u2 u3 u4 up dp m1 m2 mp e1 e2 e3 e4 d1 d2 hle hV0 hY0 hlt2 hlt3
        generalize hl1 : (dig 1).length = l1' at QW1 QW2 QT1 QM
        generalize hl2 : (dig 2).length = l2' at QW1 QW2 QT1
        clear hl1 hl2
        go_upto_region 27 with (fail)
        refine Seg.wp_region_segs (fun w' => ∃ x : BelowT M6 w12, w' = x.w) [([0, 3], 1), ([], 2), ([], 4), ([], 5)] [] 6 (by kernel_rfl) (by kernel_rfl) (fun _ _ d _ _ h => by cases d <;> exact h) (⟨⟨w12.drew, by rw [HM6.out]; exact (Below.refl _ _).drew⟩, rfl⟩) ?_
        simp only [List.map_cons, List.map_nil, Seg.opAt, List.drop_succ_cons, List.drop_zero, Seg.wpSegs, Array.getD_eq_getD_getElem?, List.getElem?_toArray, List.getElem?_cons_succ, List.getElem?_cons_zero, Option.getD_some]
        refine wpQuiet_load_at rfl 63 _ rfl ⟨E1, 0, none⟩ [.slice on1 (dig xa).length cn1, .slice od1 (dig xb).length cd1] _ rfl (fun w' hw' => by obtain ⟨x, rfl⟩ := hw'; exact news_blk (bel_keep x.2 hE1M HE12.out)) Tryd.underlying63 rfl HSN.out ?_
        refine wpQuiet_load_at rfl 63 _ rfl ⟨E2, 0, none⟩ [.slice on2 (dig s).length cn2, .slice od2 (dig t).length cd2] _ rfl (fun w' hw' => by obtain ⟨x, rfl⟩ := hw'; exact news_blk (bel_keep x.2 hE2M HH12.out)) Tryd.underlying63 rfl HSN.out ?_
        refine wpQuiet_nil ?_
        intro K hK
        first | go_simp | skip
        go_wp2_with (go_at_call 33; refine (QW2.out w12.drew).mono ?_; rintro e wa ⟨p1, p2, k1, k2, rfl, hU, ba⟩)
        have Ba := Lib.hid (undrew ba)
        have HU := Lib.hid hU
        refine hK _ _ ⟨⟨wa, by rw [HM6.out]; exact Ba.out⟩, rfl⟩ ?_
        clear hK K hU ba
        repeat (any_goals (first | go_big_quiet_step (fail) | quiet_step (fail)))
        refine wpQuiet_nil ?_
        intro K hK
        first | go_simp | skip
        go_wp2_with (go_at_call 33; refine (QW1.out wa).mono ?_; rintro e wb ⟨p3, p4, k5, k6, rfl, hO, bb⟩)
        have Bb := Lib.hid (Ba.out.trans (bb.mono Ba.out.size))
        have HO := Lib.hid hO
        have HU2 := Lib.hid (HU.out.below bb)
        refine hK _ _ ⟨⟨wb, by rw [HM6.out]; exact Bb.out⟩, rfl⟩ ?_
        clear hK K hO bb HU
        repeat (any_goals (first | go_big_quiet_step (fail) | quiet_step (fail)))
        refine wpQuiet_nil ?_
        intro K hK
        first | go_simp | skip
        go_wp2_with (go_at_call 49; refine (QM.out p3 p4 k5 k6 wb HO.out (HG12.out.below Bb.out)).mono ?_; rintro e wc ⟨r1, r2, k3, k4, rfl, hR, bc⟩)
        have Bc := Lib.hid (Bb.out.trans (bc.mono Bb.out.size))
        have HRR := Lib.hid hR
        have HU3 := Lib.hid (HU2.out.below bc)
        refine hK _ _ ⟨⟨wc, by rw [HM6.out]; exact Bc.out⟩, rfl⟩ ?_
        clear hK K hR bc HU2
        repeat (any_goals (first | go_big_quiet_step (fail) | quiet_step (fail)))
        refine wpQuiet_nil ?_
        intro K hK
        first | go_simp | skip
        go_wp2_with (go_at_call 48; refine (QT1.out p1 p2 r1 r2 k1 k2 k3 k4 wc HU3.out HRR.out).mono ?_; rintro e wd ⟨r3, r4, k7, k8, rfl, hT, bd⟩)
        have Bd := Lib.hid (Bc.out.trans (bd.mono Bc.out.size))
        have HT := Lib.hid hT
        refine hK _ _ ⟨⟨wd, by rw [HM6.out]; exact Bd.out⟩, rfl⟩ ?_
        clear hK K hT bd
        repeat (any_goals (first | go_big_quiet_step (fail) | quiet_step (fail)))
        refine wpQuiet_nil ?_
        go_upto_region 28 with (first
          | (refine wpList_store_whole rfl rfl 63 _ _ rfl E1 #[.slice on1 (dig xa).length cn1, .slice od1 (dig xb).length cd1] #[.slice z1 (dig PN).length j1, .slice z2 (dig PD').length j2] 63 rfl rfl (bel_keep Bz hE12 HE12.out) rfl HSN.out (two_slices _ _ _ _ _ _) ?_; intro w20 ho hp)
          | (go_at_call 48; refine (QT2.out r3 r4 k7 k8 wd (HF12.out.below Bd.out) HT.out).mono ?_; rintro e wz ⟨z1, z2, j1, j2, rfl, hZ, bz⟩; have Bz := Bd.out.trans (bz.mono Bd.out.size); have HZ := Lib.hid hZ; clear hZ bz))
        have S20 := Lib.hid ((S12.out.below Bz).turn ho (bel_keep Bz hE12 HE12.out) (by decide) hXE)
        have HF20 := Lib.hid (show NFr w20 PN PD' z1 z2 from ⟨HZ.out.num.spared (bel_keep Bz hE12 HE12.out) (two_noInt2 _ _ _ _ _ _) ho, HZ.out.den.spared (bel_keep Bz hE12 HE12.out) (two_noInt2 _ _ _ _ _ _) ho⟩)
        have HE20 := Lib.hid hp
        clear ho hp Bz
        obtain ⟨M5, hM5⟩ : ∃ M5, M5 = w20.heap.size := ⟨_, rfl⟩
        have HM5 := Lib.hid hM5
        have hXM5 : X < M5 := by rw [hM5]; exact lt_of_heap S20.out.row
        have hEM5 : E1 < M5 := by rw [hM5]; exact lt_of_heap HE20.out
        clear hM5
        refine Seg.wp_region_segs (fun w' => ∃ x : BelowT M5 w20, w' = x.w) [([0, 1, 2], 3), ([], 4)] [] 5 (by kernel_rfl) (by kernel_rfl) (fun _ _ d _ _ h => by cases d <;> exact h) (⟨⟨w20.drew, by rw [HM5.out]; exact (Below.refl _ _).drew⟩, rfl⟩) ?_
        simp only [List.map_cons, List.map_nil, Seg.opAt, List.drop_succ_cons, List.drop_zero, Seg.wpSegs, Array.getD_eq_getD_getElem?, List.getElem?_toArray, List.getElem?_cons_succ, List.getElem?_cons_zero, Option.getD_some]
        first | go_big_quiet_step (fail) | quiet_step (fail)
        refine wpQuiet_load_one rfl 25 _ rfl ⟨X, 3, none⟩ v _ rfl (fun w' hw' => by obtain ⟨x, rfl⟩ := hw'; exact cell_of_row _ X 3 _ _ _ (bel_keep x.2 hXM5 S20.out.row)) Tryd.underlying25 rfl ?_
        refine wpQuiet_load_at rfl 63 _ rfl ⟨E1, 0, none⟩ [.slice z1 (dig PN).length j1, .slice z2 (dig PD').length j2] _ rfl (fun w' hw' => by obtain ⟨x, rfl⟩ := hw'; exact news_blk (bel_keep x.2 hEM5 HE20.out)) Tryd.underlying63 rfl HSN.out ?_
        refine wpQuiet_nil ?_
        intro K hK
        first | go_simp | skip
        go_wp2_with (go_at_call 31; refine (QSY.out z1 z2 j1 j2 w20.drew (HF20.out.below (Below.refl _ _).drew)).mono ?_; rintro e wg ⟨rfl, bg⟩)
        have Bg := Lib.hid (undrew bg)
        refine hK _ _ ⟨⟨wg, by rw [HM5.out]; exact Bg.out⟩, rfl⟩ ?_
        clear hK K bg
        have Sg := Lib.hid (S20.out.below Bg.out)
        repeat (any_goals (first | go_big_quiet_step (fail) | quiet_step (fail)))
        refine wpQuiet_nil ?_
        intro K hK
        first | go_simp | skip
        go_wp2_with fail
        have bh : Below wg.heap.size wg (wg.alloc (.cells #[.string ⟨XN.toArray⟩, .string ⟨XD.toArray⟩] 24)) := (Below.refl _ _).alloc (Nat.le_refl _) _
        have Sh := Lib.hid (Sg.out.below bh)
        have Bh := Lib.hid (Bg.out.trans (bh.mono Bg.out.size))
        have ed : (wg.alloc (.cells #[.string ⟨XN.toArray⟩, .string ⟨XD.toArray⟩] 24)).heap[wg.heap.size]? = some (.cells #[.string ⟨XN.toArray⟩, .string ⟨XD.toArray⟩] 24 (0, 0)) := heap_at rfl
        refine hK _ _ ⟨⟨_, by rw [HM5.out]; exact Bh.out⟩, rfl⟩ ?_
        clear hK K bh
        generalize (wg.alloc (.cells #[.string ⟨XN.toArray⟩, .string ⟨XD.toArray⟩] 24)) = wh at *
        generalize wg.heap.size = p9 at *
        repeat (any_goals (first | go_big_quiet_step (fail) | quiet_step (fail)))
        refine wpQuiet_nil ?_
        go_wp2_with (first
          | (at_builtin; refine wpList_append_lies _ rfl (.tmp 127) (.tmp 130) 25 rfl (X + 1) 24 f0 (.agg #[.string ⟨#[]⟩, .string ⟨#[]⟩]) 2 32 Tryd.underlying25 F0.out FZ0.out FZ1.out FZ2.out rfl (by decide) v Pk.length (fvals Pk) rfl Sh.out.own ⟨p9, 0, none⟩ 1 1 (fvals [(XN, XD)]) rfl rfl (news_blk ed) (fvals_one _) (by decide) (by unfold maxLen; omega) (by omega) (by have := lt_of_heap Sh.out.row; omega) _ rfl ?_
             intro g9 c9 wf own hg hf hlt9
             have n9 : wf.cell? ⟨X, 3, none⟩ = some v := cell_of_row wf X 3 _ _ _ (Sh.out.rowAt hg)
             have z9 : wf.frozen? ⟨X, 3, none⟩ = false := frozen_of_row wf X 3 _ _ (Sh.out.rowAt hg)
             have hX9 : X < wf.heap.size := lt_of_heap (Sh.out.rowAt hg)))
        go_roundw
        case rel => exact ⟨k + 1, .slice (some ⟨g9, 0, none⟩) (Pk.length + 1) c9, by omega, by go_num, by rw [HTK.out]; exact RwSt.app Sh.out rfl own hg⟩
        case measure => simp [intOf]; omega
      have dl : decide (mb < ma) = false := decide_eq_false hlt2
      have dl2 : decide (ma < mb) = false := decide_eq_false hlt3
      have HNB := Lib.hid (show nextAt A B S O N D M k = (U, V) from HNA.out.trans (if_pos (by omega)))
      have HTK := Lib.hid (show (nextOs A B S O N D M).take (k + 1) = Pk ++ [(U, V)] by rw [← HNB.out]; exact HTAKE.out)
      have QSY := Lib.hid (fun w h => refSay_any xa xb on1 od1 cn1 cd1 w h (by omega) (by omega))
      rw [HTU.out.1, HTU.out.2] at QSY
      clear u1 u2 u3 u4 up dp m1 m2 mp e1 e2 e3 e4 d1 d2 hle hV0 hY0 hlt2 hlt3
      go_upto_region 28 with (fail)
      obtain ⟨M5, hM5⟩ : ∃ M5, M5 = w12.heap.size := ⟨_, rfl⟩
      have HM5 := Lib.hid hM5
      have hXM5 : X < M5 := by rw [hM5]; exact lt_of_heap S12.out.row
      have hEM5 : E1 < M5 := by rw [hM5]; exact lt_of_heap HE12.out
      clear hM5
      refine Seg.wp_region_segs (fun w' => ∃ x : BelowT M5 w12, w' = x.w) [([0, 1, 2], 3), ([], 4)] [] 5 (by kernel_rfl) (by kernel_rfl) (fun _ _ d _ _ h => by cases d <;> exact h) (⟨⟨w12.drew, by rw [HM5.out]; exact (Below.refl _ _).drew⟩, rfl⟩) ?_
      simp only [List.map_cons, List.map_nil, Seg.opAt, List.drop_succ_cons, List.drop_zero, Seg.wpSegs, Array.getD_eq_getD_getElem?, List.getElem?_toArray, List.getElem?_cons_succ, List.getElem?_cons_zero, Option.getD_some]
      first | go_big_quiet_step (fail) | quiet_step (fail)
      refine wpQuiet_load_one rfl 25 _ rfl ⟨X, 3, none⟩ v _ rfl (fun w' hw' => by obtain ⟨x, rfl⟩ := hw'; exact cell_of_row _ X 3 _ _ _ (bel_keep x.2 hXM5 S12.out.row)) Tryd.underlying25 rfl ?_
      refine wpQuiet_load_at rfl 63 _ rfl ⟨E1, 0, none⟩ [.slice on1 (dig xa).length cn1, .slice od1 (dig xb).length cd1] _ rfl (fun w' hw' => by obtain ⟨x, rfl⟩ := hw'; exact news_blk (bel_keep x.2 hEM5 HE12.out)) Tryd.underlying63 rfl HSN.out ?_
      refine wpQuiet_nil ?_
      intro K hK
      first | go_simp | skip
      go_wp2_with (go_at_call 31; refine (QSY.out w12.drew (HF12.out.below (Below.refl _ _).drew)).mono ?_; rintro e wg ⟨rfl, bg⟩)
      have Bg := Lib.hid (undrew bg)
      refine hK _ _ ⟨⟨wg, by rw [HM5.out]; exact Bg.out⟩, rfl⟩ ?_
      clear hK K bg
      have Sg := Lib.hid (S12.out.below Bg.out)
      repeat (any_goals (first | go_big_quiet_step (fail) | quiet_step (fail)))
      refine wpQuiet_nil ?_
      intro K hK
      first | go_simp | skip
      go_wp2_with fail
      have bh : Below wg.heap.size wg (wg.alloc (.cells #[.string ⟨U.toArray⟩, .string ⟨V.toArray⟩] 24)) := (Below.refl _ _).alloc (Nat.le_refl _) _
      have Sh := Lib.hid (Sg.out.below bh)
      have Bh := Lib.hid (Bg.out.trans (bh.mono Bg.out.size))
      have ed : (wg.alloc (.cells #[.string ⟨U.toArray⟩, .string ⟨V.toArray⟩] 24)).heap[wg.heap.size]? = some (.cells #[.string ⟨U.toArray⟩, .string ⟨V.toArray⟩] 24 (0, 0)) := heap_at rfl
      refine hK _ _ ⟨⟨_, by rw [HM5.out]; exact Bh.out⟩, rfl⟩ ?_
      clear hK K bh
      generalize (wg.alloc (.cells #[.string ⟨U.toArray⟩, .string ⟨V.toArray⟩] 24)) = wh at *
      generalize wg.heap.size = p9 at *
      repeat (any_goals (first | go_big_quiet_step (fail) | quiet_step (fail)))
      refine wpQuiet_nil ?_
      go_wp2_with (first
        | (at_builtin; refine wpList_append_lies _ rfl (.tmp 127) (.tmp 130) 25 rfl (X + 1) 24 f0 (.agg #[.string ⟨#[]⟩, .string ⟨#[]⟩]) 2 32 Tryd.underlying25 F0.out FZ0.out FZ1.out FZ2.out rfl (by decide) v Pk.length (fvals Pk) rfl Sh.out.own ⟨p9, 0, none⟩ 1 1 (fvals [(U, V)]) rfl rfl (news_blk ed) (fvals_one _) (by decide) (by unfold maxLen; omega) (by omega) (by have := lt_of_heap Sh.out.row; omega) _ rfl ?_
           intro g9 c9 wf own hg hf hlt9
           have n9 : wf.cell? ⟨X, 3, none⟩ = some v := cell_of_row wf X 3 _ _ _ (Sh.out.rowAt hg)
           have z9 : wf.frozen? ⟨X, 3, none⟩ = false := frozen_of_row wf X 3 _ _ (Sh.out.rowAt hg)
           have hX9 : X < wf.heap.size := lt_of_heap (Sh.out.rowAt hg)))
      go_roundw
      case rel => exact ⟨k + 1, .slice (some ⟨g9, 0, none⟩) (Pk.length + 1) c9, by omega, by go_num, by rw [HTK.out]; exact RwSt.app Sh.out rfl own hg⟩
      case measure => simp [intOf]; omega
  · have dk : decide ((k : Int) < (O.length : Int)) = false := decide_eq_false (by omega)
    have dk2 : decide (k < O.length) = false := decide_eq_false hlt
    obtain rfl : k = O.length := by omega
    have HTK := Lib.hid (show (nextOs A B S O N D M).take O.length = nextOs A B S O N D M by rw [← length_nextOs A B S O N D M]; exact List.take_length)
    have hXr : X < wr.heap.size := lt_of_heap SR.out.row
    have HV := Lib.hid (v_slice SR.out.own)
    obtain ⟨o9, c9, hv⟩ := HV.out
    subst hv
    go_wp2_with (first
      | (refine wpList_load_whole rfl 27 _ rfl X _ _ _ _ rfl SR.out.row Tryd.underlying27 rfl size_watch ?_)
      | (refine wpList_store_whole rfl rfl 27 _ _ rfl (B0 + 1) #[.slice none 0 0, .slice none 0 0, .slice none 0 0, .slice none 0 0, .string ⟨#[]⟩, .string ⟨#[]⟩, .int .i64 0] #[.slice o0 A.length c0, .slice o1 B.length c1, .slice o2 S.length c2, .slice o9 ((nextOs A B S O N D M).take O.length).length c9, .string ⟨N.toArray⟩, .string ⟨D.toArray⟩, .int .i64 (dr + 1)] 27 rfl rfl SR.out.ans rfl HS.out (seven_one _ _ _ _ _ _ _ rfl rfl rfl rfl rfl rfl rfl) ?_; intro w9 ho hp))
    refine bodyPost_ret (results_cell_tmp rfl _ w9 (B0 + 1) _ _ _ _ _ rfl rfl hp Tryd.underlying27 rfl HS.out) rfl ?_
    have bw := bel_only SR.out.bel ho (by omega)
    have W9 := HW.out.below (by rw [HB.out]; exact bw)
    have own9 := own_spare SR.out.own ho (by have := SR.out.hX; omega)
    rw [HTK.out] at own9
    refine ⟨?_, locD_mk (.inl rfl) (.inl rfl) (.inl rfl) (.inr (fun a ha => by
      have h1 := (SR.out.own.lt a.block (by rw [ha]; rfl)).1
      have h2 := SR.out.hX
      rw [HB.out]; omega))⟩
    unfold DrawGot
    rw [if_pos HE.out]
    exact ⟨_, _, _, o9, c0, c1, c2, c9, by rw [HTK.out]; rfl, W9.i0, W9.i1, W9.f2, fsAt_own2 own9, by rw [HB.out]; exact bw⟩
end Go.Proofs.YtlbdcgnpkapncaaDoor
