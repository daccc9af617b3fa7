/-
  FoldPresses: Press answers as the reference, for any words. No condition.
-/
import Derived.Test.YtjajidbpfjhnbaaFRPress
import Derived.Test.YtjajidbpfjhnbaaFEq
import Derived.OpenShut
namespace Go.Proofs.Ytjajidbpfjhnbaa
open Go.RowKit ML FM

theorem guard_eight : Try.prog.eqGuardType Try.prog.depth 23 = false := by kernel_rfl

set_option maxHeartbeats 4000000 in
set_option maxRecDepth 100000 in
theorem foldPresses_core (H M : List U) (n : Nat) (last : Bool) (w : World) (hH : H.length = 8) (hM : M.length = 16) (hn : n < 18446744073709551616) :
    Calls Try.prog 3 #[.agg (vals H), .agg (vals M), .int .u64 (n : Int), .bool last] w fun e w' => e = .returned (.bool true) ∧ Below w.heap.size w w' := by
  have e1 := fun w => run_eql_words w (P := Try.prog) 23 22 8 (pressL H M n last) (pressL H M n last) Try.underlying23 Try.underlying22 size_one (by rw [length_pressL, hH]) (by rw [length_pressL, hH])
  simp only [decide_true] at e1
  have hg := guard_eight
  have HH := Lib.hid hH
  have HM := Lib.hid hM
  have HN := Lib.hid hn
  clear hH hM hn
  go_enter Try.func3, Try.ntmps3
  go_upto_region 1 with (fail)
  refine wp_abs (fun w1 => Below w.heap.size w w1 ∧ w1.heap.size = w.heap.size + 2 ∧ w1.heap[w.heap.size]? = some (.cells (vals H) 23 (0, 0)) ∧
    w1.heap[w.heap.size + 1]? = some (.cells (vals M) 24 (0, 0))) ?_ (fun w1 hw1 => ?_)
  · exact ⟨((Below.refl _ _).alloc (Nat.le_refl _) _).alloc (by simp) _, by simp, heap_lt (heap_at rfl), heap_at (by simp)⟩
  obtain ⟨hbel, hsz, h0, h1⟩ := hw1
  generalize hB : w.heap.size = B at *
  have HB := Lib.hid hB
  have HBE := Lib.hid hbel
  have HS := Lib.hid hsz
  have H0 := Lib.hid h0
  have H1 := Lib.hid h1
  have s1 := Lib.hid (show (Try.prog.info? 23).map (·.size) = some (vals H).size by rw [size_vals, HH.out]; exact size_eight)
  have s2 := Lib.hid (show (Try.prog.info? 24).map (·.size) = some (vals M).size by rw [size_vals, HM.out]; exact size_words)
  clear hB hbel hsz h0 h1
  refine wp_region_quietB w1 (B + 2) (by kernel_rfl) (by kernel_rfl) ((Below.refl _ _).drew) ?_
  refine wpQuiet_load_whole rfl 23 _ rfl B (vals H) _ _ _ rfl H0.out (by omega) Try.underlying23 rfl s1.out ?_
  refine wpQuiet_load_whole rfl 24 _ rfl (B + 1) (vals M) _ _ _ rfl H1.out (by omega) Try.underlying24 rfl s2.out ?_
  first | go_big_quiet_step (fail) | quiet_step (fail)
  first | go_big_quiet_step (fail) | quiet_step (fail)
  quiet_step (exact quietB (by rw [HS.out]; omega) (press_any H M n last _ HH.out HM.out HN.out))
  refine wpQuiet_load_whole rfl 23 _ rfl B (vals H) _ _ _ rfl H0.out (by omega) Try.underlying23 rfl s1.out ?_
  refine wpQuiet_load_whole rfl 24 _ rfl (B + 1) (vals M) _ _ _ rfl H1.out (by omega) Try.underlying24 rfl s2.out ?_
  first | go_big_quiet_step (fail) | quiet_step (fail)
  first | go_big_quiet_step (fail) | quiet_step (fail)
  quiet_step (exact quietB (by rw [HS.out]; omega) (refPress_any H M n last _ HH.out HM.out HN.out))
  first | go_big_quiet_step (fail) | quiet_step (fail)
  first | go_big_quiet_step (fail) | quiet_step (fail)
  refine wpQuiet_nil ?_
  intro w3 hb3
  go_wp2_with fail
  go_ret
  refine ⟨rfl, ?_⟩
  rw [HB.out]
  exact HBE.out.trans (hb3.mono (by omega))

theorem foldPresses_walk (H M : List U) (x : Int) (last : Bool) (w : World) (hH : H.length = 8) (hM : M.length = 16) (hx : (Lit.int .u64 x).wf = true) :
    Calls Try.prog 3 #[.agg (vals H), .agg (vals M), .int .u64 x, .bool last] w fun e w' => e = .returned (.bool true) ∧ Below w.heap.size w w' := by
  have hb := bounds_u64 hx
  obtain ⟨n, rfl⟩ := Int.eq_ofNat_of_zero_le hb.1
  exact foldPresses_core H M n last w hH hM (by omega)
end Go.Proofs.Ytjajidbpfjhnbaa
