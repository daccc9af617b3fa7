/-
  WireLetters: the law's walk.
-/
import Derived.Test.YtohemcdcmlngiaaWRFrom
import Derived.OpenShut
namespace Go.Proofs.Ytohemcdcmlngiaa
set_option linter.unusedVariables false
set_option linter.unusedSimpArgs false
open Go.RowKit ML FM WL

set_option maxHeartbeats 4000000 in
set_option maxRecDepth 100000 in
theorem wireLetters_law (B T : Bytes) (w : World) (hB : B.length < 1000000000) (hT : T.length < 1000000000) :
    Calls Try.prog 4 #[.string ⟨B.toArray⟩, .string ⟨T.toArray⟩] w fun e w' => e = .returned (.bool true) ∧ Below w.heap.size w w' := by
  have Q1 := Lib.hid (fun w => refLetters_any B w (by omega))
  have Q2 := Lib.hid (fun w => wireLetters_any B w (by omega))
  have Q3 := Lib.hid (fun w => refFrom_any T w hT)
  have Q4 := Lib.hid (fun w => wireFrom_any T w hT)
  clear hB hT
  generalize lettersT B = X at *
  generalize lettersE B = n at *
  generalize fromB T = Y at *
  generalize fromE T = m at *
  go_enter Try.func4, Try.ntmps4
  go_wp2_with (first
    | (go_at_call 9; refine (Q1.out w).mono ?_; rintro e w1 ⟨rfl, bel1⟩; have hz1 := bel1.size)
    | (go_at_call 10; refine (Q2.out w1).mono ?_; rintro e w2 ⟨rfl, bel2⟩; have hz2 := bel2.size)
    | (go_at_call 11; refine (Q3.out w2).mono ?_; rintro e w3 ⟨rfl, bel3⟩; have hz3 := bel3.size)
    | (go_at_call 12; refine (Q4.out w3).mono ?_; rintro e w4 ⟨rfl, bel4⟩))
  go_ret
  exact ⟨rfl, bel1.trans ((bel2.mono hz1).trans ((bel3.mono (by omega)).trans (bel4.mono (by omega))))⟩
theorem wireLetters_walk (B T : ByteArray) (w : World) (hB : B.data.toList.length ≤ 1048576) (hT : T.data.toList.length ≤ 1048576) :
    Calls Try.prog 4 #[.string B, .string T] w fun e w' => e = .returned (.bool true) ∧ Below w.heap.size w w' :=
  wireLetters_law B.data.toList T.data.toList w (by omega) (by omega)
end Go.Proofs.Ytohemcdcmlngiaa
