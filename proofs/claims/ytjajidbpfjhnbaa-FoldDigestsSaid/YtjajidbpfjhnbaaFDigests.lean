/-
  FoldDigests: Digest and Keyed answer as the reference.
  Conditions: the text's length is within the reach.
-/
import Derived.Test.YtjajidbpfjhnbaaFRKeyed
import Derived.OpenShut
namespace Go.Proofs.Ytjajidbpfjhnbaa
open Go.RowKit ML FM

set_option maxHeartbeats 4000000 in
set_option maxRecDepth 100000 in
theorem foldDigests_core (K B : Bytes) (w : World) (hK : K.length < 140737488355328) (hB : B.length < 140737488355328) :
    Calls Try.prog 6 #[.string ⟨K.toArray⟩, .string ⟨B.toArray⟩] w fun e w' => e = .returned (.bool true) ∧ Below w.heap.size w w' := by
  have Q1 := Lib.hid (fun w => digest_any B w (by omega))
  have Q2 := Lib.hid (fun w => refDigest_any B w hB)
  have Q3 := Lib.hid (fun w => keyed_any K B w (by omega) (by omega))
  have Q4 := Lib.hid (fun w => refKeyed_any K B w hB (by omega))
  have hD : K.length ≤ 32 ∨ (¬ K.length ≤ 32 ∧ keyedD K B = []) := by
    by_cases h : K.length ≤ 32
    · exact .inl h
    · exact .inr ⟨h, if_neg h⟩
  have hE : keyedE K = if K.length ≤ 32 then 0 else 3 := rfl
  clear hK hB
  generalize keyedD K B = D at *
  generalize keyedE K = E at *
  generalize digestL [] B = D0 at *
  go_enter Try.func6, Try.ntmps6
  go_upto_region 5 with (first
    | (go_at_call 17; refine (Q1.out _).mono ?_; rintro e w1 ⟨rfl, hb1⟩)
    | (go_at_call 18; refine (Q2.out _).mono ?_; rintro e w2 ⟨rfl, hb2⟩)
    | (go_at_call 19; refine (Q3.out _).mono ?_; rintro e w3 ⟨rfl, hb3⟩)
    | (go_at_call 20; refine (Q4.out _).mono ?_; rintro e w4 ⟨rfl, hb4⟩))
  have bel : Below w.heap.size w w4 := ((hb1.trans (hb2.mono hb1.size)).trans (hb3.mono (Nat.le_trans hb1.size hb2.size))).trans (hb4.mono (Nat.le_trans hb1.size (Nat.le_trans hb2.size hb3.size)))
  clear Q1 Q2 Q3 Q4 hb1 hb2 hb3 hb4 hE
  rcases hD with h | ⟨h, rfl⟩
  · simp only [h, if_true, decide_true]
    go_wp2_with fail
    go_ret
    exact ⟨rfl, bel⟩
  · simp only [h, if_false, decide_false]
    go_wp2_with fail
    go_ret
    exact ⟨rfl, bel⟩
theorem foldDigests_walk (K B : ByteArray) (w : World) (hK : K.data.toList.length ≤ reachBytes) (hB : B.data.toList.length ≤ reachBytes) :
    Calls Try.prog 6 #[.string K, .string B] w fun e w' => e = .returned (.bool true) ∧ Below w.heap.size w w' :=
  foldDigests_core K.data.toList B.data.toList w (by unfold reachBytes at hK; omega) (by unfold reachBytes at hB; omega)
end Go.Proofs.Ytjajidbpfjhnbaa
