/-
  The reference's power: 256 to the i, i below 4.
-/
import Derived.Test.YtnohcdpnnhmpfaaFRef
namespace Go.Proofs.Ytnohcdpnnhmpfaa
open Go.RowKit ML FM

set_option maxHeartbeats 1000000 in
set_option maxRecDepth 100000 in
theorem power_any (i : Nat) (w : World) (hi : i < 4) :
    Calls Try.prog 113 #[.int .i64 (i : Int)] w fun e w' => e = .returned (.int .u32 ((256 ^ i : Nat) : Int)) ∧ w' = w := by
  have HI := Lib.hid hi
  clear hi
  go_enter Try.func113, Try.ntmps113
  go_wp2_with fail
  go_loopw [3, 4] (fun p k wr => ∃ j : Nat, j ≤ i ∧ k = .int .i64 j ∧ p = .int .u32 ((256 ^ j : Nat) : Int) ∧ wr = w) (fun _ k _ => i - (intOf k).toNat)
  case atStart => exact ⟨0, by omega, rfl, rfl, rfl⟩
  case round =>
  obtain ⟨j, hj, rfl, rfl, rfl⟩ := hrel
  have hi4 : (i : Int) < 4 := by have := HI.out; omega
  by_cases hlt : j < i
  · have hd : decide ((j : Int) < (i : Int)) = true := by simp; omega
    have hp : 256 ^ j * 256 < 4294967296 := by
      have : j + 1 ≤ 3 + 0 := by have := HI.out; omega
      have h := Nat.pow_le_pow_right (show 0 < 256 by decide) this
      rw [Nat.pow_succ] at h
      omega
    have hq : 256 ^ (j + 1) = 256 ^ j * 256 := Nat.pow_succ _ _
    have HQ := Lib.hid hq
    clear hq
    generalize 256 ^ j = q at *
    go_wp2_with fail
    go_roundw
    case rel => exact ⟨j + 1, by omega, by go_num, by rw [HQ.out]; go_num, trivial⟩
    case measure => simp [intOf]; omega
  · have hd : decide ((j : Int) < (i : Int)) = false := by simp; omega
    go_wp2_with fail
    go_ret
    obtain rfl : j = i := by omega
    exact ⟨rfl, rfl⟩
end Go.Proofs.Ytnohcdpnnhmpfaa
