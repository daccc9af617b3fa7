/-
  Chapter 4: WirePrints walked. Printed by tools/genpr.py.
-/
import Derived.Test.YtohemcdcmlngiaaDoorPrZ
namespace Go.Proofs.YtohemcdcmlngiaaDoor.PR
set_option linter.unusedVariables false
set_option linter.unusedSimpArgs false
open Go.RowKit ML FM

set_option maxHeartbeats 4000000 in
set_option maxRecDepth 100000 in
theorem wirePrints_any (l : Bool) (t : Bytes) (oa : Option Addr) (n cap : Nat) (I : Inf) (w : World) (hv : PVars w) (h : NdAt w [.bool l, .string ⟨t.toArray⟩, .slice oa n cap] I) (hk : I.bulk ≤ 1048576) : Calls Tryd.prog 3 #[.agg #[.bool l, .string ⟨t.toArray⟩, .slice oa n cap]] w fun e w' => e = .returned (.bool true) ∧ Below w.heap.size w w' := by
  have QR := Lib.hid (fun w' hb => refPrint_any w l t oa n cap I h hk w' hb)
  have QP := Lib.hid (fun w' (hb : Below w.heap.size w w') => print_any w' (hv.below hb) l t oa n cap I (h.bel hb) hk)
  clear hv h
  generalize prE I = pe at *
  generalize prT I = pt at *
  go_enter Tryd.func3, Tryd.ntmps3
  go_upto_region 1 with (fail)
  generalize hB : w.heap.size = B at *
  refine wp_abs (fun w1 => Below B w w1 ∧ w1.heap[B]? = some (.cells #[.bool l, .string ⟨t.toArray⟩, .slice oa n cap] 24 (0, 0))) ⟨by rw [← hB]; exact (Below.refl _ _).alloc (Nat.le_refl _) _, by rw [← hB]; exact heap_at rfl⟩ (fun w1 hw1 => ?_)
  have HB := Lib.hid hB
  have B1 := Lib.hid hw1.1
  have X1 := Lib.hid hw1.2
  have hBs : B < w1.heap.size := lt_of_heap hw1.2
  have Q1 := Lib.hid (QR.out w1 B1.out)
  clear hB hw1 QR
  go_upto_region 2 with (first
        | go_big_skip
        | ((with_reducible refine at_load 24 ?_); refine wpList_load_g ?_ 24 (.tmp 1) ?_ B _ _ _ _ ?_ X1.out Tryd.underlying24 ?_ size_node ?_; rfl; rfl; rfl; rfl)
        | (go_at_call 6; refine (Q1.out).mono ?_; rintro e w2 ⟨rfl, b2⟩; dsimp only; have B2 := Lib.hid (B1.out.trans (b2.mono (Nat.le_of_lt hBs))); have X2 := Lib.hid (bel_keep b2 hBs X1.out); clear b2))
  have hB2 : B < w2.heap.size := lt_of_heap X2.out
  have Q2 := Lib.hid (QP.out w2 B2.out)
  clear B1 X1 hBs Q1 QP
  go_upto_region 3 with (first
        | go_big_skip
        | ((with_reducible refine at_load 24 ?_); refine wpList_load_g ?_ 24 (.tmp 1) ?_ B _ _ _ _ ?_ X2.out Tryd.underlying24 ?_ size_node ?_; rfl; rfl; rfl; rfl)
        | (go_at_call 7; refine (Q2.out).mono ?_; rintro e w3 ⟨rfl, b3⟩; dsimp only; have B3 := Lib.hid (B2.out.trans (b3.mono (Nat.le_of_lt hB2))); clear b3))
  go_wp2_with go_big_skip
  go_ret
  exact ⟨rfl, by rw [HB.out]; exact B3.out⟩
end Go.Proofs.YtohemcdcmlngiaaDoor.PR
