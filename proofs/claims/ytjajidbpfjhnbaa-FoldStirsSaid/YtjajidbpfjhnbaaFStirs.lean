/-
  FoldStirs: Stir and Unstir answer as the reference, for any words. No condition.
-/
import Derived.Test.YtjajidbpfjhnbaaFRUn
import Derived.Test.YtjajidbpfjhnbaaFUn
import Derived.Test.YtjajidbpfjhnbaaFEq
namespace Go.Proofs.Ytjajidbpfjhnbaa
open Go.RowKit ML FM

theorem size_word' : (Try.prog.info? 22).map (·.size) = some 1 := by kernel_rfl
theorem guard_words' : Try.prog.eqGuardType Try.prog.depth 24 = false := by kernel_rfl

set_option maxHeartbeats 4000000 in
set_option maxRecDepth 100000 in
theorem foldStirs_walk (V M : List U) (w : World) (hV : V.length = 16) (hM : M.length = 16) :
    Calls Try.prog 4 #[.agg (vals V), .agg (vals M)] w fun e w' => e = .returned (.bool true) ∧ Below w.heap.size w w' := by
  have e1 := fun w => run_eql_words w (P := Try.prog) 24 22 16 (stirK V M 80) (stirK V M 80) Try.underlying24 Try.underlying22 size_word' (by rw [length_stirK, hV]) (by rw [length_stirK, hV])
  have e2 := fun w => run_eql_words w (P := Try.prog) 24 22 16 (unK V M 80) (unK V M 80) Try.underlying24 Try.underlying22 size_word' (by rw [length_unK, hV]) (by rw [length_unK, hV])
  simp only [decide_true] at e1 e2
  have hg := guard_words'
  have HV := Lib.hid hV
  have HM := Lib.hid hM
  clear hV hM
  go_enter Try.func4, Try.ntmps4
  go_upto_region 1 with (fail)
  refine wp_abs (fun w1 => Below w.heap.size w w1 ∧ w1.heap.size = w.heap.size + 2 ∧ w1.heap[w.heap.size]? = some (.cells (vals V) 24 (0, 0)) ∧
    w1.heap[w.heap.size + 1]? = some (.cells (vals M) 24 (0, 0))) ?_ (fun w1 hw1 => ?_)
  · exact ⟨((Below.refl _ _).alloc (Nat.le_refl _) _).alloc (by simp) _, by simp, heap_lt (heap_at rfl), heap_at (by simp)⟩
  obtain ⟨hbel, hsz, h0, h1⟩ := hw1
  generalize hB : w.heap.size = B at *
  have HB := Lib.hid hB
  have HBE := Lib.hid hbel
  have HS := Lib.hid hsz
  have H0 := Lib.hid h0
  have H1 := Lib.hid h1
  have s1 := Lib.hid (show (Try.prog.info? 24).map (·.size) = some (vals V).size by rw [size_vals, HV.out]; exact size_words)
  have s2 := Lib.hid (show (Try.prog.info? 24).map (·.size) = some (vals M).size by rw [size_vals, HM.out]; exact size_words)
  clear hB hbel hsz h0 h1
  refine wp_region_quietB w1 (B + 2) (by kernel_rfl) (by kernel_rfl) ((Below.refl _ _).drew) ?_
  refine wpQuiet_load_whole rfl 24 _ rfl B (vals V) _ _ _ rfl H0.out (by omega) Try.underlying24 rfl s1.out ?_
  refine wpQuiet_load_whole rfl 24 _ rfl (B + 1) (vals M) _ _ _ rfl H1.out (by omega) Try.underlying24 rfl s2.out ?_
  quiet_step (exact quietB (by rw [HS.out]; omega) (stir_any V M _ HV.out HM.out))
  refine wpQuiet_load_whole rfl 24 _ rfl B (vals V) _ _ _ rfl H0.out (by omega) Try.underlying24 rfl s1.out ?_
  refine wpQuiet_load_whole rfl 24 _ rfl (B + 1) (vals M) _ _ _ rfl H1.out (by omega) Try.underlying24 rfl s2.out ?_
  quiet_step (exact quietB (by rw [HS.out]; omega) (refStir_any V M _ HV.out HM.out))
  first | go_big_quiet_step (fail) | quiet_step (fail)
  first | go_big_quiet_step (fail) | quiet_step (fail)
  refine wpQuiet_load_whole rfl 24 _ rfl B (vals V) _ _ _ rfl H0.out (by omega) Try.underlying24 rfl s1.out ?_
  refine wpQuiet_load_whole rfl 24 _ rfl (B + 1) (vals M) _ _ _ rfl H1.out (by omega) Try.underlying24 rfl s2.out ?_
  quiet_step (exact quietB (by rw [HS.out]; omega) (unstir_any V M _ HV.out HM.out))
  refine wpQuiet_load_whole rfl 24 _ rfl B (vals V) _ _ _ rfl H0.out (by omega) Try.underlying24 rfl s1.out ?_
  refine wpQuiet_load_whole rfl 24 _ rfl (B + 1) (vals M) _ _ _ rfl H1.out (by omega) Try.underlying24 rfl s2.out ?_
  quiet_step (exact quietB (by rw [HS.out]; omega) (refUnstir_any V M _ HV.out HM.out))
  first | go_big_quiet_step (fail) | quiet_step (fail)
  first | go_big_quiet_step (fail) | quiet_step (fail)
  first | go_big_quiet_step (fail) | quiet_step (fail)
  refine wpQuiet_nil ?_
  intro w3 hb3
  go_wp2_with fail
  go_ret
  refine ⟨rfl, ?_⟩
  rw [HB.out]
  exact HBE.out.trans (hb3.mono (by omega))
end Go.Proofs.Ytjajidbpfjhnbaa
