/-
  Chapter 4, WirePrints: the reference's Print. Printed by tools/genpr.py.
-/
import Derived.Test.YtohemcdcmlngiaaDoorPrS
namespace Go.Proofs.YtohemcdcmlngiaaDoor.PR
set_option linter.unusedVariables false
set_option linter.unusedSimpArgs false
open Go.RowKit ML FM

/-- what Print answers: the error, the text -/
def prE (I : Inf) : Int := if I.good = false then 2 else if 12 < I.dep ∨ 1048576 < I.siz then 3 else 0
def prT (I : Inf) : Bytes := if prE I = 0 then I.txt else []
set_option maxHeartbeats 4000000 in
set_option maxRecDepth 100000 in
theorem refPrint_any (w0 : World) (l : Bool) (t : Bytes) (oa : Option Addr) (n cap : Nat) (I : Inf) (h : NdAt w0 [.bool l, .string ⟨t.toArray⟩, .slice oa n cap] I) (hk : I.bulk ≤ 1048576) (w : World) (hb : Below w0.heap.size w0 w) : Calls Tryd.prog 6 #[.agg #[.bool l, .string ⟨t.toArray⟩, .slice oa n cap]] w fun e w' => e = .returned (.tuple #[.string ⟨(prT I).toArray⟩, .int .i64 (prE I)]) ∧ Below w.heap.size w w' := by
  have QG := Lib.hid (fun w hb => (show Calls Tryd.prog 10 #[.agg #[.bool l, .string ⟨t.toArray⟩, .slice oa n cap]] w _ from refGood_any w0 h w hb))
  have QD := Lib.hid (fun w hb => (show Calls Tryd.prog 11 #[.agg #[.bool l, .string ⟨t.toArray⟩, .slice oa n cap]] w _ from refDepth_any w0 h hk w hb))
  have QS := Lib.hid (fun w hb => (show Calls Tryd.prog 12 #[.agg #[.bool l, .string ⟨t.toArray⟩, .slice oa n cap]] w _ from refSize_any w0 h hk w hb))
  have QW := Lib.hid (fun hs w hb => (show Calls Tryd.prog 17 #[.agg #[.bool l, .string ⟨t.toArray⟩, .slice oa n cap]] w _ from refWritten_any w0 h hs w hb))
  have HB0 := Lib.hid hb
  have HPE := Lib.hid (show prE I = if I.good = false then 2 else if 12 < I.dep ∨ 1048576 < I.siz then 3 else 0 from rfl)
  have HPT := Lib.hid (show prT I = if prE I = 0 then I.txt else [] from rfl)
  have hsm := h.small
  clear hb h
  generalize prE I = pe at *
  generalize prT I = pt at *
  generalize I.good = gd at *
  generalize I.dep = dp at *
  generalize I.siz = sz at *
  generalize I.txt = tx at *
  go_enter Tryd.func6, Tryd.ntmps6
  go_upto_region 1 with (fail)
  generalize hB : w.heap.size = B at *
  refine wp_abs (fun w1 => Below B w w1 ∧ w1.heap[B]? = some (.cells #[.bool l, .string ⟨t.toArray⟩, .slice oa n cap] 24 (0, 0))) ⟨by rw [← hB]; exact (Below.refl _ _).alloc (Nat.le_refl _) _, by rw [← hB]; exact heap_at rfl⟩ (fun w1 hw1 => ?_)
  have HB := Lib.hid hB
  have B1 := Lib.hid hw1.1
  have X1 := Lib.hid hw1.2
  have hBs : B < w1.heap.size := lt_of_heap hw1.2
  have HW := Lib.hid (fun w' (h : Below B w w') => (show Below w0.heap.size w0 w' from HB0.out.trans (h.mono (by rw [← HB.out]; exact HB0.out.size))))
  clear hB hw1
  have Q1 := Lib.hid (QG.out w1 (HW.out _ B1.out))
  cases gd with
  | false =>
    rw [if_pos rfl] at HPE
    have hpe := HPE.out
    have hpt := HPT.out
    rw [if_neg (by omega)] at hpt
    go_wp2_with (first
        | go_big_skip
        | ((with_reducible refine at_load 24 ?_); refine wpList_load_g ?_ 24 (.tmp 1) ?_ B _ _ _ _ ?_ X1.out Tryd.underlying24 ?_ size_node ?_; rfl; rfl; rfl; rfl)
        | (go_at_call 10; refine (Q1.out).mono ?_; rintro e w4 ⟨rfl, b4⟩; dsimp only; have B4 := Lib.hid (B1.out.trans (b4.mono (Nat.le_of_lt hBs))); have X4 := Lib.hid (bel_keep b4 hBs X1.out); clear b4))
    go_ret2
    exact ⟨by rw [hpe, hpt]; rfl, by rw [HB.out]; exact B4.out⟩
  | true =>
  rw [if_neg (by decide)] at HPE
  go_upto_region 3 with (first
        | go_big_skip
        | ((with_reducible refine at_load 24 ?_); refine wpList_load_g ?_ 24 (.tmp 1) ?_ B _ _ _ _ ?_ X1.out Tryd.underlying24 ?_ size_node ?_; rfl; rfl; rfl; rfl)
        | (go_at_call 10; refine (Q1.out).mono ?_; rintro e w4 ⟨rfl, b4⟩; dsimp only; have B4 := Lib.hid (B1.out.trans (b4.mono (Nat.le_of_lt hBs))); have X4 := Lib.hid (bel_keep b4 hBs X1.out); clear b4))
  have hB4 : B < w4.heap.size := lt_of_heap X4.out
  have Q4 := Lib.hid (QD.out w4 (HW.out _ B4.out))
  clear B1 X1 hBs Q1
  by_cases hd : 12 < dp
  case pos =>
    have d1 : decide ((12 : Int) < (dp : Int)) = true := decide_eq_true (by omega)
    have d2 : decide (12 < dp) = true := decide_eq_true hd
    rw [if_pos (.inl hd)] at HPE
    have HPE2 := Lib.hid HPE.out
    have hpt := HPT.out
    rw [HPE2.out, if_neg (by decide)] at hpt
    have HP2 := Lib.hid hpt
    clear hpt hd HPE HPT
    go_wp2_with (first
        | go_big_skip
        | ((with_reducible refine at_load 24 ?_); refine wpList_load_g ?_ 24 (.tmp 1) ?_ B _ _ _ _ ?_ X4.out Tryd.underlying24 ?_ size_node ?_; rfl; rfl; rfl; rfl)
        | (go_at_call 11; refine (Q4.out).mono ?_; rintro e w5 ⟨rfl, b5⟩; dsimp only; have B5 := Lib.hid (B4.out.trans (b5.mono (Nat.le_of_lt hB4))); clear b5))
    go_ret2
    exact ⟨by rw [HPE2.out, HP2.out]; rfl, by rw [HB.out]; exact B5.out⟩
  have d1 : decide ((12 : Int) < (dp : Int)) = false := decide_eq_false (by omega)
  have d2 : decide (12 < dp) = false := decide_eq_false hd
  by_cases hs : 1048576 < sz
  case pos =>
    have d3 : decide ((1048576 : Int) < (sz : Int)) = true := decide_eq_true (by omega)
    have d4 : decide (1048576 < sz) = true := decide_eq_true hs
    rw [if_pos (.inr hs)] at HPE
    have HPE2 := Lib.hid HPE.out
    have hpt := HPT.out
    rw [HPE2.out, if_neg (by decide)] at hpt
    have HP2 := Lib.hid hpt
    have QS := Lib.hid (fun w5 b5 => QS.out w5 (HW.out _ b5))
    clear hpt hd hs HPE HPT
    go_wp2_with (first
        | go_big_skip
        | ((with_reducible refine at_load 24 ?_); refine wpList_load_g ?_ 24 (.tmp 1) ?_ B _ _ _ _ ?_ X4.out Tryd.underlying24 ?_ size_node ?_; rfl; rfl; rfl; rfl)
        | ((with_reducible refine at_load 24 ?_); refine wpList_load_g ?_ 24 (.tmp 1) ?_ B _ _ _ _ ?_ X5.out Tryd.underlying24 ?_ size_node ?_; rfl; rfl; rfl; rfl)
        | (go_at_call 11; refine (Q4.out).mono ?_; rintro e w5 ⟨rfl, b5⟩; dsimp only; have B5 := Lib.hid (B4.out.trans (b5.mono (Nat.le_of_lt hB4))); have X5 := Lib.hid (bel_keep b5 hB4 X4.out); have hB5 : B < w5.heap.size := lt_of_heap X5.out; clear b5)
        | (go_at_call 12; refine (QS.out w5 B5.out).mono ?_; rintro e w6 ⟨rfl, b6⟩; dsimp only; have B6 := Lib.hid (B5.out.trans (b6.mono (Nat.le_of_lt hB5))); clear b6))
    go_ret2
    exact ⟨by rw [HPE2.out, HP2.out]; rfl, by rw [HB.out]; exact B6.out⟩
  have d3 : decide ((1048576 : Int) < (sz : Int)) = false := decide_eq_false (by omega)
  have d4 : decide (1048576 < sz) = false := decide_eq_false hs
  rw [if_neg (by omega)] at HPE
  have HPE2 := Lib.hid HPE.out
  have hpt := HPT.out
  rw [HPE2.out, if_pos rfl] at hpt
  have HP2 := Lib.hid hpt
  have QS := Lib.hid (fun w5 b5 => QS.out w5 (HW.out _ b5))
  have QW := Lib.hid (fun w5 b5 => QW.out (by omega) w5 (HW.out _ b5))
  clear hpt hd hs HPE HPT
  go_upto_region 5 with (first
        | go_big_skip
        | ((with_reducible refine at_load 24 ?_); refine wpList_load_g ?_ 24 (.tmp 1) ?_ B _ _ _ _ ?_ X4.out Tryd.underlying24 ?_ size_node ?_; rfl; rfl; rfl; rfl)
        | ((with_reducible refine at_load 24 ?_); refine wpList_load_g ?_ 24 (.tmp 1) ?_ B _ _ _ _ ?_ X5.out Tryd.underlying24 ?_ size_node ?_; rfl; rfl; rfl; rfl)
        | (go_at_call 11; refine (Q4.out).mono ?_; rintro e w5 ⟨rfl, b5⟩; dsimp only; have B5 := Lib.hid (B4.out.trans (b5.mono (Nat.le_of_lt hB4))); have X5 := Lib.hid (bel_keep b5 hB4 X4.out); have hB5 : B < w5.heap.size := lt_of_heap X5.out; clear b5)
        | (go_at_call 12; refine (QS.out w5 B5.out).mono ?_; rintro e w6 ⟨rfl, b6⟩; dsimp only; have B6 := Lib.hid (B5.out.trans (b6.mono (Nat.le_of_lt hB5))); have X6 := Lib.hid (bel_keep b6 hB5 X5.out); clear b6))
  have hB6 : B < w6.heap.size := lt_of_heap X6.out
  have Q6 := Lib.hid (QW.out w6 B6.out)
  go_wp2_with (first
        | go_big_skip
        | ((with_reducible refine at_load 24 ?_); refine wpList_load_g ?_ 24 (.tmp 1) ?_ B _ _ _ _ ?_ X6.out Tryd.underlying24 ?_ size_node ?_; rfl; rfl; rfl; rfl)
        | (go_at_call 17; refine (Q6.out).mono ?_; rintro e w7 ⟨rfl, b7⟩; dsimp only; have B7 := Lib.hid (B6.out.trans (b7.mono (Nat.le_of_lt hB6))); clear b7))
  go_ret2
  exact ⟨by rw [HPE2.out, HP2.out]; rfl, by rw [HB.out]; exact B7.out⟩
end Go.Proofs.YtohemcdcmlngiaaDoor.PR
