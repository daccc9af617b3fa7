/-
  exact.Of, (exact.Nat).Zero.
-/
import Derived.Test.YtkkpfoidppjbdaaDoorLMul
namespace Go.Proofs.YtkkpfoidppjbdaaDoor
set_option linter.unusedVariables false
open Go.RowKit ML NL

set_option maxHeartbeats 1000000 in
set_option maxRecDepth 100000 in
theorem exOf_any (n : Nat) (w : World) (hn : n < 18446744073709551616) :
    Calls Tryd.prog 88 #[.int .u64 (n : Int)] w fun e w' => ∃ oa cap, e = .returned (.slice oa (dig n).length cap) ∧ LimbsAt w' oa (dig n) ∧ (∀ a, oa = some a → w.heap.size ≤ a.block ∧ a.block < w'.heap.size) ∧ Below w.heap.size w w' := by
  obtain ⟨i0, hi, hz0, hz1, hz2⟩ := info_parts info_limb
  have HI := Lib.hid hi
  have HZ0 := Lib.hid hz0
  have HZ1 := Lib.hid hz1
  have HZ2 := Lib.hid hz2
  clear hi hz0 hz1 hz2
  go_enter Tryd.func88, Tryd.ntmps88
  go_wp2_with fail
  generalize hB : w.heap.size = B at *
  have HB := Lib.hid hB
  clear hB
  go_loopw [0, 3] (fun z v wr => ∃ (L : List Nat) (k : Nat), z = .int .u64 k ∧ k ≤ n ∧ L ++ dig k = dig n ∧ L.length + k ≤ n ∧ Below B w wr ∧ wr.ownsRow B 105 1 v L.length (uvals L)) (fun z _ _ => (intOf z).toNat)
  case atStart => exact ⟨[], n, rfl, Nat.le_refl _, rfl, by simp, Below.refl _ _, World.ownsRow_nil _ _ _ _⟩
  case round =>
  obtain ⟨L, k, rfl, hk, hL, hl, bel, own⟩ := hrel
  by_cases h0 : 0 < k
  · have hd : decide ((0 : Int) < (k : Int)) = true := by simp; omega
    have hBw : B ≤ wr.heap.size := by have := bel.size; rw [HB.out] at this; exact this
    have hl19 : L.length ≤ 19 := by
      have h1 := length_dig_le n 19 (Nat.lt_of_lt_of_le hn (by decide))
      rw [← hL, List.length_append] at h1
      omega
    have hst := Lib.hid (show (L ++ [k % 1000000000]) ++ dig (k / 1000000000) = dig n by rw [List.append_assoc, List.singleton_append, ← dig_pos h0]; exact hL)
    go_upto_region 3 with (at_builtin; refine wpList_append_own _ rfl (.tmp 8) (.tmp 12) 69 rfl B 105 i0 (.int .u32 0) 1 4 Tryd.underlying69 HI.out HZ0.out HZ1.out HZ2.out rfl (by decide) u3 L.length (uvals L) rfl (own.alloc _) ⟨wr.heap.size, 0, none⟩ 1 1 (uvals [k % 1000000000]) rfl rfl ?c1 ?c2 ?c3 ?c4 ?c5 ?_)
    case c1 => exact news_uvals wr [k % 1000000000] _ _ rfl
    case c2 => exact uvals_one _
    case c3 => unfold maxLen; omega
    case c4 => omega
    case c5 => first | omega | (simp; omega)
    intro v5 w5 own5 hg5 _
    have bel5 : Below B w w5 := (bel.alloc hBw _).grown hg5 (by simp; omega) (fun q hq => (own.lt q hq).1)
    rw [uvals_append] at own5
    have OWN5 : w5.ownsRow B 105 1 v5 (L ++ [k % 1000000000]).length (uvals (L ++ [k % 1000000000])) := by rw [List.length_append]; exact own5
    clear own5 own hg5 bel hL
    go_wp2_with fail
    go_roundw
    case rel => exact ⟨L ++ [k % 1000000000], k / 1000000000, by go_num, by omega, hst.out, by rw [List.length_append, List.length_singleton]; omega, bel5, OWN5⟩
    case measure => simp [intOf]; omega
  · have hd : decide ((0 : Int) < (k : Int)) = false := by simp; omega
    obtain rfl : k = 0 := by omega
    rw [dig_zero, List.append_nil] at hL
    obtain ⟨oa, cap, rfl, _, hfa, hI⟩ := limbsAt_own own
    have hlt : ∀ a, oa = some a → a.block < wr.heap.size := fun a ha => (own.lt a.block (by rw [ha]; rfl)).2
    rw [hL] at hI
    have HLn := Lib.hid hL
    clear hL own
    go_wp2_with fail
    go_ret
    exact ⟨oa, cap, by rw [HLn.out]; rfl, hI, fun a ha => ⟨by rw [HB.out]; exact hfa a ha, hlt a ha⟩, by rw [HB.out]; exact bel⟩
set_option maxRecDepth 100000 in
theorem exZero_any (oa : Option Addr) (n ca : Nat) (w : World) :
    Calls Tryd.prog 64 #[.slice oa n ca] w fun e w' => e = .returned (.bool ((n : Int) == 0)) ∧ w' = w := by
  go_enter Tryd.func64, Tryd.ntmps64
  go_wp2_with fail
  go_ret
  exact ⟨rfl, rfl⟩
end Go.Proofs.YtkkpfoidppjbdaaDoor
