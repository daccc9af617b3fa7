/-
  FoldBack: Stir and Unstir undo each other, for any words. No condition.
-/
import Derived.Test.YtjajidbpfjhnbaaFUn
import Derived.Test.YtjajidbpfjhnbaaFBackM
import Derived.Test.YtjajidbpfjhnbaaFEq
namespace Go.Proofs.Ytjajidbpfjhnbaa
open Go.RowKit ML FM

theorem size_word : (Try.prog.info? 22).map (·.size) = some 1 := by kernel_rfl
theorem guard_words : Try.prog.eqGuardType Try.prog.depth 24 = false := by kernel_rfl

theorem unstir_stirred (V M : List U) (w : World) (hV : V.length = 16) (hM : M.length = 16) :
    Calls Try.prog 15 #[.agg (vals (stirK V M 80)), .agg (vals M)] w fun e w' => e = .returned (.agg (vals V)) ∧ Below w.heap.size w w' := by
  have h := unstir_any (stirK V M 80) M w (by rw [length_stirK, hV]) hM
  rw [un_stir V M hV] at h; exact h
theorem stir_unstirred (V M : List U) (w : World) (hV : V.length = 16) (hM : M.length = 16) :
    Calls Try.prog 13 #[.agg (vals (unK V M 80)), .agg (vals M)] w fun e w' => e = .returned (.agg (vals V)) ∧ Below w.heap.size w w' := by
  have h := stir_any (unK V M 80) M w (by rw [length_unK, hV]) hM
  rw [stir_un V M hV] at h; exact h

set_option maxHeartbeats 4000000 in
set_option maxRecDepth 100000 in
theorem foldBack_walk (V M W : List U) (w : World) (hV : V.length = 16) (hM : M.length = 16) (hW : W.length = 16) :
    Calls Try.prog 5 #[.agg (vals V), .agg (vals M), .agg (vals W)] w fun e w' => e = .returned (.bool true) ∧ Below w.heap.size w w' := by
  have e1 := fun w => run_eql_words w (P := Try.prog) 24 22 16 (stirK V M 80) (stirK W M 80) Try.underlying24 Try.underlying22 size_word (by rw [length_stirK, hV]) (by rw [length_stirK, hW])
  have e2 := fun w => run_eql_words w (P := Try.prog) 24 22 16 V W Try.underlying24 Try.underlying22 size_word hV hW
  have e3 := fun w => run_eql_words w (P := Try.prog) 24 22 16 V V Try.underlying24 Try.underlying22 size_word hV hV
  have hinj : decide (stirK V M 80 = stirK W M 80) = decide (V = W) := by rw [decide_eq_decide]; exact stir_inj V W M hV hW
  simp only [hinj] at e1
  simp only [decide_true] at e3
  have hg := guard_words
  have HV := Lib.hid hV
  have HM := Lib.hid hM
  have HW := Lib.hid hW
  clear hV hM hW hinj
  go_enter Try.func5, Try.ntmps5
  go_upto_region 1 with (fail)
  refine wp_abs (fun w1 => Below w.heap.size w w1 ∧ w1.heap.size = w.heap.size + 3 ∧ w1.heap[w.heap.size]? = some (.cells (vals V) 24 (0, 0)) ∧
    w1.heap[w.heap.size + 1]? = some (.cells (vals M) 24 (0, 0)) ∧ w1.heap[w.heap.size + 2]? = some (.cells (vals W) 24 (0, 0))) ?_ (fun w1 hw1 => ?_)
  · refine ⟨(((Below.refl _ _).alloc (Nat.le_refl _) _).alloc (by simp) _).alloc (by simp; omega) _, by simp, ?_, ?_, ?_⟩
    · exact heap_lt (heap_lt (heap_at rfl))
    · exact heap_lt (heap_at (by simp))
    · exact heap_at (by simp)
  obtain ⟨hbel, hsz, h0, h1, h2⟩ := hw1
  generalize hB : w.heap.size = B at *
  have HB := Lib.hid hB
  have HBE := Lib.hid hbel
  have HS := Lib.hid hsz
  have H0 := Lib.hid h0
  have H1 := Lib.hid h1
  have H2 := Lib.hid h2
  have s1 := Lib.hid (show (Try.prog.info? 24).map (·.size) = some (vals V).size by rw [size_vals, HV.out]; exact size_words)
  have s2 := Lib.hid (show (Try.prog.info? 24).map (·.size) = some (vals M).size by rw [size_vals, HM.out]; exact size_words)
  have s3 := Lib.hid (show (Try.prog.info? 24).map (·.size) = some (vals W).size by rw [size_vals, HW.out]; exact size_words)
  clear hB hbel hsz h0 h1 h2
  refine wp_region_quietB w1 (B + 3) (by kernel_rfl) (by kernel_rfl) ((Below.refl _ _).drew) ?_
  refine wpQuiet_load_whole rfl 24 _ rfl B (vals V) _ _ _ rfl H0.out (by omega) Try.underlying24 rfl s1.out ?_
  refine wpQuiet_load_whole rfl 24 _ rfl (B + 1) (vals M) _ _ _ rfl H1.out (by omega) Try.underlying24 rfl s2.out ?_
  quiet_step (exact quietB (by rw [HS.out]; omega) (stir_any V M _ HV.out HM.out))
  refine wpQuiet_load_whole rfl 24 _ rfl (B + 2) (vals W) _ _ _ rfl H2.out (by omega) Try.underlying24 rfl s3.out ?_
  refine wpQuiet_load_whole rfl 24 _ rfl (B + 1) (vals M) _ _ _ rfl H1.out (by omega) Try.underlying24 rfl s2.out ?_
  quiet_step (exact quietB (by rw [HS.out]; omega) (stir_any W M _ HW.out HM.out))
  first | go_big_quiet_step (fail) | quiet_step (fail)
  refine wpQuiet_load_whole rfl 24 _ rfl B (vals V) _ _ _ rfl H0.out (by omega) Try.underlying24 rfl s1.out ?_
  refine wpQuiet_load_whole rfl 24 _ rfl (B + 2) (vals W) _ _ _ rfl H2.out (by omega) Try.underlying24 rfl s3.out ?_
  first | go_big_quiet_step (fail) | quiet_step (fail)
  first | go_big_quiet_step (fail) | quiet_step (fail)
  refine wpQuiet_nil ?_
  intro w2 hb2
  go_upto_region 3 with (fail)
  refine wp_region_quietB w1 (B + 3) (by kernel_rfl) (by kernel_rfl) hb2.drew ?_
  refine wpQuiet_load_whole rfl 24 _ rfl B (vals V) _ _ _ rfl H0.out (by omega) Try.underlying24 rfl s1.out ?_
  refine wpQuiet_load_whole rfl 24 _ rfl (B + 1) (vals M) _ _ _ rfl H1.out (by omega) Try.underlying24 rfl s2.out ?_
  quiet_step (exact quietB (by rw [HS.out]; omega) (stir_any V M _ HV.out HM.out))
  refine wpQuiet_load_whole rfl 24 _ rfl (B + 1) (vals M) _ _ _ rfl H1.out (by omega) Try.underlying24 rfl s2.out ?_
  quiet_step (exact quietB (by rw [HS.out]; omega) (unstir_stirred V M _ HV.out HM.out))
  refine wpQuiet_load_whole rfl 24 _ rfl B (vals V) _ _ _ rfl H0.out (by omega) Try.underlying24 rfl s1.out ?_
  first | go_big_quiet_step (fail) | quiet_step (fail)
  first | go_big_quiet_step (fail) | quiet_step (fail)
  refine wpQuiet_load_whole rfl 24 _ rfl B (vals V) _ _ _ rfl H0.out (by omega) Try.underlying24 rfl s1.out ?_
  refine wpQuiet_load_whole rfl 24 _ rfl (B + 1) (vals M) _ _ _ rfl H1.out (by omega) Try.underlying24 rfl s2.out ?_
  quiet_step (exact quietB (by rw [HS.out]; omega) (unstir_any V M _ HV.out HM.out))
  refine wpQuiet_load_whole rfl 24 _ rfl (B + 1) (vals M) _ _ _ rfl H1.out (by omega) Try.underlying24 rfl s2.out ?_
  quiet_step (exact quietB (by rw [HS.out]; omega) (stir_unstirred V M _ HV.out HM.out))
  refine wpQuiet_load_whole rfl 24 _ rfl B (vals V) _ _ _ rfl H0.out (by omega) Try.underlying24 rfl s1.out ?_
  first | go_big_quiet_step (fail) | quiet_step (fail)
  first | go_big_quiet_step (fail) | quiet_step (fail)
  first | go_big_quiet_step (fail) | quiet_step (fail)
  refine wpQuiet_nil ?_
  intro w3 hb3
  go_wp2_with fail
  go_ret
  refine ⟨rfl, ?_⟩
  rw [HB.out]
  exact HBE.out.trans (hb3.mono (by omega))
#print axioms foldBack_walk
end Go.Proofs.Ytjajidbpfjhnbaa
