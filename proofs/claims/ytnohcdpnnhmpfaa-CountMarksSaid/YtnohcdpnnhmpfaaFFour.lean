/-
  fold.four, the reference's Four: a number as four bytes.
-/
import Derived.Test.YtnohcdpnnhmpfaaFKeyD
namespace Go.Proofs.Ytnohcdpnnhmpfaa
open Go.RowKit ML FM

def fourN (n : Nat) : Bytes := [UInt8.ofNat (n / 16777216 % 256), UInt8.ofNat (n / 65536 % 256), UInt8.ofNat (n / 256 % 256), UInt8.ofNat (n % 256)]
theorem fourN_cells (n : Nat) : Lib.byteCells (fourN n) = [.int .u8 ((n : Int) / 16777216 % 256), .int .u8 ((n : Int) / 65536 % 256), .int .u8 ((n : Int) / 256 % 256), .int .u8 ((n : Int) % 256)] := by
  have e : ∀ n : Nat, n < 256 → ((UInt8.ofNat n).toNat : Int) = (n : Int) := by
    intro n h
    simp [Nat.mod_eq_of_lt h]
  unfold fourN Lib.byteCells
  simp only [List.map_cons, List.map_nil]
  rw [e _ (by omega), e _ (by omega), e _ (by omega), e _ (by omega)]
  have h1 : ((n / 16777216 % 256 : Nat) : Int) = (n : Int) / 16777216 % 256 := by omega
  have h2 : ((n / 65536 % 256 : Nat) : Int) = (n : Int) / 65536 % 256 := by omega
  have h3 : ((n / 256 % 256 : Nat) : Int) = (n : Int) / 256 % 256 := by omega
  have h4 : ((n % 256 : Nat) : Int) = (n : Int) % 256 := by omega
  rw [h1, h2, h3, h4]
set_option maxHeartbeats 1000000 in
set_option maxRecDepth 100000 in
theorem four8_any (n : Nat) (w : World) (hn : n < 9223372036854775808) :
    Calls Try.prog 80 #[.int .i64 (n : Int)] w fun e w' => e = .returned (.string ⟨(fourN n).toArray⟩) ∧ Below w.heap.size w w' := by
  have hc := Lib.hid (fourN_cells n)
  have h0 : (0 : Int) ≤ n := by omega
  have h1 : (n : Int) < 9223372036854775808 := by omega
  go_enter Try.func80, Try.ntmps80
  go_wp2_with (refine wpList_bytes_back rfl _ 120 9 5 rfl Try.underlying120 Try.underlying5 Try.underlying9 w.heap.size 4 4 (fourN n) rfl rfl (by rw [hc.out]; exact rangeAt_block (heap_at rfl)) ?_)
  go_ret
  exact ⟨rfl, (Below.refl _ _).alloc (Nat.le_refl _) _⟩
set_option maxHeartbeats 1000000 in
set_option maxRecDepth 100000 in
theorem refFour_any (n : Nat) (w : World) (hn : n < 9223372036854775808) :
    Calls Try.prog 105 #[.int .i64 (n : Int)] w fun e w' => e = .returned (.string ⟨(fourN n).toArray⟩) ∧ Below w.heap.size w w' := by
  have hc := Lib.hid (fourN_cells n)
  have h0 : (0 : Int) ≤ n := by omega
  have h1 : (n : Int) < 9223372036854775808 := by omega
  go_enter Try.func105, Try.ntmps105
  go_wp2_with (refine wpList_bytes_back rfl _ 120 9 5 rfl Try.underlying120 Try.underlying5 Try.underlying9 w.heap.size 4 4 (fourN n) rfl rfl (by rw [hc.out]; exact rangeAt_block (heap_at rfl)) ?_)
  go_ret
  exact ⟨rfl, (Below.refl _ _).alloc (Nat.le_refl _) _⟩
end Go.Proofs.Ytnohcdpnnhmpfaa
