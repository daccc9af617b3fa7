/-
  cmp.Compare of ints and of limbs; exact.Cmp.
-/
import Derived.Test.YtkkpfoidppjbdaaDoorLTrim
import Derived.Test.YtkkpfoidppjbdaaDoorSeg
namespace Go.Proofs.YtkkpfoidppjbdaaDoor
set_option linter.unusedVariables false
open Go.RowKit ML NL

def cmpZ (a b : Int) : Int := if a < b then -1 else if b < a then 1 else 0
set_option maxHeartbeats 1000000 in
set_option maxRecDepth 100000 in
theorem cmpInt_any (a b : Int) (w : World) :
    Calls Tryd.prog 81 #[.int .i64 a, .int .i64 b] w fun e w' => e = .returned (.int .i64 (cmpZ a b)) ∧ w' = w := by
  go_enter Tryd.func81, Tryd.ntmps81
  by_cases h1 : a < b
  · have hc := Lib.hid (show cmpZ a b = -1 from if_pos h1)
    go_wp2
    go_ret
    exact ⟨by rw [hc.out]; rfl, rfl⟩
  by_cases h2 : b < a
  · have hc := Lib.hid (show cmpZ a b = 1 by unfold cmpZ; rw [if_neg h1, if_pos h2])
    go_wp2
    go_ret
    exact ⟨by rw [hc.out]; rfl, rfl⟩
  · have hc := Lib.hid (show cmpZ a b = 0 by unfold cmpZ; rw [if_neg h1, if_neg h2])
    go_wp2
    go_ret
    exact ⟨by rw [hc.out]; rfl, rfl⟩
set_option maxHeartbeats 1000000 in
set_option maxRecDepth 100000 in
theorem cmpLimb_any (a b : Int) (w : World) :
    Calls Tryd.prog 82 #[.int .u32 a, .int .u32 b] w fun e w' => e = .returned (.int .i64 (cmpZ a b)) ∧ w' = w := by
  go_enter Tryd.func82, Tryd.ntmps82
  by_cases h1 : a < b
  · have hc := Lib.hid (show cmpZ a b = -1 from if_pos h1)
    go_wp2
    go_ret
    exact ⟨by rw [hc.out]; rfl, rfl⟩
  by_cases h2 : b < a
  · have hc := Lib.hid (show cmpZ a b = 1 by unfold cmpZ; rw [if_neg h1, if_pos h2])
    go_wp2
    go_ret
    exact ⟨by rw [hc.out]; rfl, rfl⟩
  · have hc := Lib.hid (show cmpZ a b = 0 by unfold cmpZ; rw [if_neg h1, if_neg h2])
    go_wp2
    go_ret
    exact ⟨by rw [hc.out]; rfl, rfl⟩
theorem cmpZ_lt {a b : Nat} (h : a < b) : cmpZ (a : Int) (b : Int) = -1 := if_pos (by omega)
theorem cmpZ_gt {a b : Nat} (h : b < a) : cmpZ (a : Int) (b : Int) = 1 := by unfold cmpZ; rw [if_neg (by omega), if_pos (by omega)]
theorem cmpZ_eq {a b : Nat} (h : a = b) : cmpZ (a : Int) (b : Int) = 0 := by unfold cmpZ; rw [if_neg (by omega), if_neg (by omega)]
set_option maxHeartbeats 4000000 in
set_option maxRecDepth 100000 in
theorem exCmp_any (x y : Nat) (oa ob : Option Addr) (ca cb : Nat) (w : World) (ha : LimbsAt w oa (dig x)) (hb : LimbsAt w ob (dig y)) (hx : (dig x).length < 1099511627776) (hy : (dig y).length < 1099511627776) :
    Calls Tryd.prog 54 #[.slice oa (dig x).length ca, .slice ob (dig y).length cb] w fun e w' => e = .returned (.int .i64 (cmpI x y)) ∧ Below w.heap.size w w' := by
  have HA := Lib.hid ha
  have HBB := Lib.hid hb
  have QI := Lib.hid cmpInt_any
  have QL := Lib.hid cmpLimb_any
  clear ha hb
  go_enter Tryd.func54, Tryd.ntmps54
  by_cases hl : (dig x).length < (dig y).length
  · have hc := Lib.hid (cmpI_lt (lt_of_length_lt hl))
    have hz := cmpZ_lt hl
    clear hl
    go_wp2_with (go_at_call 81; refine (QI.out _ _ _).mono ?_; rintro e w1 ⟨rfl, rfl⟩)
    go_ret
    exact ⟨by rw [hc.out]; rfl, Below.refl _ _⟩
  by_cases hg : (dig y).length < (dig x).length
  · have hc := Lib.hid (cmpI_gt (lt_of_length_lt hg))
    have hz := cmpZ_gt hg
    clear hg hl
    go_wp2_with (go_at_call 81; refine (QI.out _ _ _).mono ?_; rintro e w1 ⟨rfl, rfl⟩)
    go_ret
    exact ⟨by rw [hc.out]; rfl, Below.refl _ _⟩
  have hll : (dig x).length = (dig y).length := by omega
  have hz := cmpZ_eq hll
  have HLL := Lib.hid hll
  clear hll hl hg
  go_upto_region 5 with (go_at_call 81; refine (QI.out _ _ _).mono ?_; rintro e w1 ⟨rfl, rfl⟩)
  clear hz QI
  go_loopw [6] (fun i wr => ∃ (k : Nat) (z : Int), k ≤ (dig x).length ∧ z = (k : Int) - 1 ∧ i = .int .i64 z ∧ (dig x).drop k = (dig y).drop k ∧ Below w1.heap.size w1 wr) (fun i _ => (intOf i + 1).toNat)
  case atStart => exact ⟨(dig x).length, (dig x).length - 1, Nat.le_refl _, rfl, by go_num, by rw [List.drop_of_length_le (Nat.le_refl _), List.drop_of_length_le (by have := HLL.out; omega)], Below.refl _ _⟩
  case round =>
  obtain ⟨k, z, hk, hz, rfl, hdr, bel⟩ := hrel
  by_cases h0 : k = 0
  · subst h0
    obtain rfl : z = -1 := by omega
    have hxy := eq_of_dig (by simpa using hdr)
    have hc := Lib.hid (show cmpI x y = 0 by rw [hxy]; exact cmpI_eq y)
    clear hz hdr hxy
    go_wp2_with fail
    go_ret
    exact ⟨by rw [hc.out]; rfl, bel⟩
  obtain ⟨j, rfl⟩ : ∃ j, k = j + 1 := ⟨k - 1, by omega⟩
  obtain rfl : z = (j : Int) := by omega
  have hll := HLL.out
  have hjx : j < (dig x).length := by omega
  have hjy : j < (dig y).length := by omega
  obtain ⟨a0, hoa, hac⟩ := (HA.out.below bel).get j hjx
  obtain ⟨b0, hob, hbc⟩ := (HBB.out.below bel).get j hjy
  have hlt := Lib.hid (fun h => cmpI_lt (lt_of_digit hjx hjy hdr h))
  have hgt := Lib.hid (fun h => cmpI_gt (lt_of_digit hjy hjx hdr.symm h))
  have heq := Lib.hid (fun h => drop_same hjx hjy hdr h)
  have hj0 : (0 : Int) ≤ j := by omega
  have hjlx : (j : Int) < ((dig x).length : Int) := by omega
  have hjly : (j : Int) < ((dig y).length : Int) := by omega
  subst hoa
  subst hob
  clear hz hdr h0 hll hk
  generalize (dig x).getD j 0 = a at *
  generalize (dig y).getD j 0 = b at *
  obtain ⟨cz, hcz⟩ : ∃ cz, cz = cmpZ (a : Int) (b : Int) := ⟨_, rfl⟩
  have hca : (cz ≠ 0 → cmpI x y = cz) ∧ (cz = 0 → a = b) := by
    rcases Nat.lt_trichotomy a b with h | h | h
    · rw [hcz, cmpZ_lt h]; exact ⟨fun _ => hlt.out h, fun h => by omega⟩
    · rw [hcz, cmpZ_eq h]; exact ⟨fun h => absurd rfl h, fun _ => h⟩
    · rw [hcz, cmpZ_gt h]; exact ⟨fun _ => hgt.out h, fun h => by omega⟩
  have HCA := Lib.hid hca
  have QL2 := Lib.hid (fun w => cmpLimb_any (a : Int) (b : Int) w)
  rw [← hcz] at QL2
  clear hcz hca hlt hgt QL
  go_upto_region 7 with (fail)
  refine Seg.wp_region_segs (fun w' => ∃ n, w' = wr.drewN n) [] [0, 1, 2, 3, 4, 5, 6, 7] 8 (by kernel_rfl) (by kernel_rfl) (fun _ _ d _ _ h => by cases d <;> exact h) (⟨1, rfl⟩) ?_
  simp only [List.map_cons, List.map_nil, Seg.opAt, List.drop_succ_cons, List.drop_zero, Seg.wpSegs, Array.getD_eq_getD_getElem?, List.getElem?_toArray, List.getElem?_cons_succ, List.getElem?_cons_zero, Option.getD_some]
  repeat (any_goals (first | go_big_quiet_step (fail) | quiet_step (fail)))
  refine wpQuiet_nil ?_
  by_cases hc0 : cz = 0
  · subst hc0
    have he := Lib.hid (heq.out (HCA.out.2 rfl))
    go_wp2_with (go_at_call 82; refine (QL2.out _).mono ?_; rintro e w3 ⟨rfl, rfl⟩)
    go_roundw
    case rel => exact ⟨j, (j : Int) - 1, by omega, rfl, by go_num, he.out, bel.drew⟩
    case measure => simp [intOf]
  · have hc := Lib.hid (HCA.out.1 hc0)
    have hcb : (cz != 0) = true := by simpa using hc0
    go_wp2_with (go_at_call 82; refine (QL2.out _).mono ?_; rintro e w3 ⟨rfl, rfl⟩)
    go_ret
    exact ⟨by rw [hc.out]; rfl, bel.drew⟩
end Go.Proofs.YtkkpfoidppjbdaaDoor
