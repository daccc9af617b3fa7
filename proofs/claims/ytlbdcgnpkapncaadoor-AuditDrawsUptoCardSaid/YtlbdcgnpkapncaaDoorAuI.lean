/-
  Chapter 14, for Draw: marks that are none. (Blocks of AuM, for another closure.)
-/
import Derived.Test.YtlbdcgnpkapncaaDoorAuQ
namespace Go.Proofs.YtlbdcgnpkapncaaDoor
set_option linter.unusedVariables false
set_option linter.unusedSimpArgs false
open Go.RowKit ML FM AU

set_option maxHeartbeats 1000000 in
set_option maxRecDepth 100000 in
theorem draw1_any (x : Int) (w : World) :
    Calls Tryd.prog 42 #[.int .i64 x] w fun e w' => e = .returned (.bool (badM x)) ∧ w = w' := by
  have QB := Lib.hid (fun w => between_any x 0 1 w)
  have HB := Lib.hid (show badM x = !decide (0 ≤ x ∧ x ≤ 1) from rfl)
  generalize decide (0 ≤ x ∧ x ≤ 1) = b at *
  go_enter Tryd.func42, Tryd.ntmps42
  go_wp2_with (go_at_call 22; refine (QB.out w).mono ?_; rintro e w1 ⟨rfl, rfl⟩)
  go_ret
  exact ⟨by rw [HB.out]; rfl, rfl⟩
set_option maxHeartbeats 2000000 in
set_option maxRecDepth 100000 in
theorem indexBadM_any (oa : Option Addr) (L : List Int) (cap : Nat) (w : World) (h : IsAt w oa L) (hl : L.length < 9223372036854775808) :
    Calls Tryd.prog 69 #[.slice oa L.length cap, .func (.func 42) #[] #[]] w fun e w' => (∃ r : Int, e = .returned (.int .i64 r) ∧ decide (0 ≤ r) = L.any badM) ∧ w = w' := by
  have H := Lib.hid h
  have QB := Lib.hid (fun x w => draw1_any x w)
  clear h
  go_enter Tryd.func69, Tryd.ntmps69
  go_upto_region 2 with (fail)
  go_loop [8] (fun i => ∃ k : Nat, k ≤ L.length ∧ i = .int .i64 k ∧ (L.take k).any badM = false) (fun i => L.length - (intOf i).toNat)
  case atStart => exact ⟨0, by omega, rfl, rfl⟩
  case round =>
  obtain ⟨k, hk, rfl, hpre⟩ := hrel
  have HP := Lib.hid hpre
  clear hpre
  by_cases hlt : k < L.length
  · have dk : decide ((k : Int) < (L.length : Int)) = true := decide_eq_true (by omega)
    have dk2 : decide (k < L.length) = true := decide_eq_true hlt
    have hki : (k : Int) < (L.length : Int) := by omega
    obtain ⟨a, hoa, hab, hac⟩ := H.out.cells k hlt
    have hsn := Lib.hid (show (L.take (k + 1)).any badM = badM L[k] by rw [List.take_succ_eq_append_getElem hlt, List.any_append, HP.out]; simp)
    have hany := Lib.hid (fun (hb : badM L[k] = true) => (show L.any badM = true from List.any_eq_true.2 ⟨L[k], List.getElem_mem hlt, hb⟩))
    subst hoa
    generalize L[k] = x at *
    cases hb : badM x with
    | true =>
      have h2 := Lib.hid (hany.out hb)
      rw [hb] at hsn
      have HB := Lib.hid hb
      clear hb hany
      go_wp2_with (first | (go_at_call 42; refine (QB.out x w).mono ?_; rw [HB.out]; rintro e w1 ⟨rfl, rfl⟩))
      go_ret
      exact ⟨⟨_, rfl, by rw [h2.out]; exact decide_eq_true (by omega)⟩, rfl⟩
    | false =>
      rw [hb] at hsn
      have HB := Lib.hid hb
      clear hb hany
      go_wp2_with (first | (go_at_call 42; refine (QB.out x w).mono ?_; rw [HB.out]; rintro e w1 ⟨rfl, rfl⟩))
      go_round
      case rel => exact ⟨k + 1, by omega, by go_num, hsn.out⟩
      case measure => simp [intOf]; omega
  · have dk : decide ((k : Int) < (L.length : Int)) = false := decide_eq_false (by omega)
    have dk2 : decide (k < L.length) = false := decide_eq_false hlt
    obtain rfl : k = L.length := by omega
    rw [List.take_length] at HP
    go_wp2_with fail
    go_ret
    exact ⟨⟨_, rfl, by rw [HP.out]; decide⟩, rfl⟩
set_option maxHeartbeats 1000000 in
set_option maxRecDepth 100000 in
theorem containsBadM_any (oa : Option Addr) (L : List Int) (cap : Nat) (w : World) (h : IsAt w oa L) (hl : L.length < 9223372036854775808) :
    Calls Tryd.prog 23 #[.slice oa L.length cap, .func (.func 42) #[] #[]] w fun e w' => e = .returned (.bool (L.any badM)) ∧ w = w' := by
  have Q := Lib.hid (indexBadM_any oa L cap w h hl)
  clear h hl
  generalize L.any badM = b at *
  go_enter Tryd.func23, Tryd.ntmps23
  go_wp2_with (go_at_call 69; refine Q.out.mono ?_; rintro e w1 ⟨⟨r, rfl, hr⟩, rfl⟩)
  go_ret
  exact ⟨rfl, rfl⟩
end Go.Proofs.YtlbdcgnpkapncaaDoor
