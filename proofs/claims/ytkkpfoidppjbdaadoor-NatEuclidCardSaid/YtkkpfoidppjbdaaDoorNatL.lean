/-
  The law's text and wrong.
-/
import Derived.Test.YtkkpfoidppjbdaaDoorRefRd
namespace Go.Proofs.YtkkpfoidppjbdaaDoor
set_option linter.unusedVariables false
open Go.RowKit ML FM ND

set_option maxHeartbeats 1000000 in
set_option maxRecDepth 100000 in
theorem lawText_any (S W : Bytes) (e n : Nat) (w : World) (h : (n = 0 ∧ e = 0 ∧ S = W) ∨ (n ≠ 0 ∧ e = n ∧ S = [])) :
    Calls Tryd.prog 17 #[.string ⟨S.toArray⟩, .int .i64 (e : Int), .int .i64 (n : Int), .string ⟨W.toArray⟩] w fun r w' => r = .returned (.bool true) ∧ w' = w := by
  rcases h with ⟨rfl, rfl, rfl⟩ | ⟨hn, rfl, rfl⟩
  · go_enter Tryd.func17, Tryd.ntmps17
    go_wp2_with fail
    go_ret
    exact ⟨rfl, rfl⟩
  · have h0 : ((e : Int) == 0) = false := by rw [beq_eq_false_iff_ne]; omega
    go_enter Tryd.func17, Tryd.ntmps17
    go_wp2_with fail
    go_ret
    exact ⟨rfl, rfl⟩
set_option maxHeartbeats 1000000 in
set_option maxRecDepth 100000 in
theorem lawWrong_any (A B : Bytes) (w : World) (hA : A.length < 140737488355328) (hB : B.length < 140737488355328) :
    Calls Tryd.prog 14 #[.string ⟨A.toArray⟩, .string ⟨B.toArray⟩] w fun r w' => r = .returned (.int .i64 (wrong2 A B : Int)) ∧ w' = w := by
  have QA := Lib.hid (fun w => refWrong_any A w hA)
  have QB := Lib.hid (fun w => refWrong_any B w hB)
  by_cases h1 : wrongN A = 0
  · have hx := Lib.hid (show wrong2 A B = wrongN B from if_pos h1)
    rw [h1] at QA
    clear h1
    go_enter Tryd.func14, Tryd.ntmps14
    go_upto_region 4 with (go_at_call 57; refine (QA.out _).mono ?_; rintro e w1 ⟨rfl, rfl⟩)
    go_wp2_with (go_at_call 57; refine (QB.out _).mono ?_; rintro e w1 ⟨rfl, rfl⟩)
    go_ret
    rw [hx.out]
    exact ⟨rfl, rfl⟩
  · have hx := Lib.hid (show wrong2 A B = wrongN A from if_neg h1)
    have h0 : ((wrongN A : Int) == 0) = false := by rw [beq_eq_false_iff_ne]; omega
    clear h1
    generalize wrongN A = n at *
    go_enter Tryd.func14, Tryd.ntmps14
    go_wp2_with (go_at_call 57; refine (QA.out _).mono ?_; rintro e w1 ⟨rfl, rfl⟩)
    go_ret
    rw [hx.out]
    exact ⟨rfl, rfl⟩
end Go.Proofs.YtkkpfoidppjbdaaDoor
