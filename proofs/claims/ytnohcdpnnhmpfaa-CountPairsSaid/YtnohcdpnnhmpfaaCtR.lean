/-
  Chapter 13: the reference's Wrong, Lot, Ahead, Lots. Printed by tools/genrlots.py.
-/
import Derived.Test.YtnohcdpnnhmpfaaCtF
import Derived.Test.YtnohcdpnnhmpfaaFJoined
namespace Go.Proofs.Ytnohcdpnnhmpfaa
set_option linter.unusedVariables false
set_option linter.unusedSimpArgs false
open Go.RowKit ML FM AU CT

def wrongE (c : CTest) : Int := if wrongC c = true then 2 else 0
set_option maxHeartbeats 2000000 in
set_option maxRecDepth 100000 in
theorem refWrong_any (c : CTest) (oa : Option Addr) (cap : Nat) (w : World) (hnl : c.op.length < 9223372036854775807) :
    Calls Try.prog 18 #[.agg (c.cells oa cap).toArray] w fun e w' => e = .returned (.int .i64 (wrongE c)) ∧ Below w.heap.size w w' := by
  have hC : (c.cells oa cap).toArray = #[.string ⟨c.nm.toArray⟩, .slice oa c.op.length cap, .int .i64 c.rl, .int .i64 c.se, .int .i64 c.mo] := rfl
  rw [hC]
  clear hC
  go_enter Try.func18, Try.ntmps18
  go_upto_region 1 with (fail)
  generalize hB : w.heap.size = B at *
  refine wp_abs (fun w1 => Below B w w1 ∧ w1.heap[B]? = some (.cells #[.string ⟨c.nm.toArray⟩, .slice oa c.op.length cap, .int .i64 c.rl, .int .i64 c.se, .int .i64 c.mo] 24 (0, 0))) ⟨by rw [← hB]; exact (Below.refl _ _).alloc (Nat.le_refl _) _, by rw [← hB]; exact heap_at rfl⟩ (fun w1 hw1 => ?_)
  have HB := Lib.hid hB
  have B1 := Lib.hid hw1.1
  have X1 := Lib.hid hw1.2
  have hBs : B < w1.heap.size := lt_of_heap hw1.2
  have k0 : w1.cell? ⟨B, 0, none⟩ = some (.string ⟨c.nm.toArray⟩) := cell_of_row w1 B 0 _ _ _ hw1.2
  have k1 : w1.cell? ⟨B, 1, none⟩ = some (.slice oa c.op.length cap) := cell_of_row w1 B 1 _ _ _ hw1.2
  have k2 : w1.cell? ⟨B, 2, none⟩ = some (.int .i64 c.rl) := cell_of_row w1 B 2 _ _ _ hw1.2
  have k3 : w1.cell? ⟨B, 3, none⟩ = some (.int .i64 c.se) := cell_of_row w1 B 3 _ _ _ hw1.2
  clear hB hw1
  clear k0
  by_cases hc1 : c.op.length < 1
  · have dhc1 : decide ((c.op.length : Int) < 1) = true := decide_eq_true (by omega)
    have ehc1 : decide (c.op.length < 1) = true := decide_eq_true hc1
    have hW := Lib.hid (show wrongE c = 2 from if_pos (decide_eq_true (by omega)))
    clear hc1
    go_wp2_with fail
    go_ret
    exact ⟨by first | rfl | (rw [hW.out]; rfl), by rw [HB.out]; exact B1.out⟩
  have dhc1 : decide ((c.op.length : Int) < 1) = false := decide_eq_false (by omega)
  have ehc1 : decide (c.op.length < 1) = false := decide_eq_false hc1
  by_cases hc2 : 12 < c.op.length
  · have dhc2 : decide (12 < (c.op.length : Int)) = true := decide_eq_true (by omega)
    have ehc2 : decide (12 < c.op.length) = true := decide_eq_true hc2
    have hW := Lib.hid (show wrongE c = 2 from if_pos (decide_eq_true (by omega)))
    clear hc1 hc2
    go_wp2_with fail
    go_ret
    exact ⟨by first | rfl | (rw [hW.out]; rfl), by rw [HB.out]; exact B1.out⟩
  have dhc2 : decide (12 < (c.op.length : Int)) = false := decide_eq_false (by omega)
  have ehc2 : decide (12 < c.op.length) = false := decide_eq_false hc2
  by_cases hc3 : c.rl < 1
  · have dhc3 : decide (c.rl < 1) = true := decide_eq_true (by omega)
    have hW := Lib.hid (show wrongE c = 2 from if_pos (decide_eq_true (by omega)))
    clear hc1 hc2 hc3
    go_wp2_with fail
    go_ret
    exact ⟨by first | rfl | (rw [hW.out]; rfl), by rw [HB.out]; exact B1.out⟩
  have dhc3 : decide (c.rl < 1) = false := decide_eq_false (by omega)
  by_cases hc4 : 4 < c.rl
  · have dhc4 : decide (4 < c.rl) = true := decide_eq_true (by omega)
    have hW := Lib.hid (show wrongE c = 2 from if_pos (decide_eq_true (by omega)))
    clear hc1 hc2 hc3 hc4
    go_wp2_with fail
    go_ret
    exact ⟨by first | rfl | (rw [hW.out]; rfl), by rw [HB.out]; exact B1.out⟩
  have dhc4 : decide (4 < c.rl) = false := decide_eq_false (by omega)
  by_cases hc5 : c.se < 1
  · have dhc5 : decide (c.se < 1) = true := decide_eq_true (by omega)
    have hW := Lib.hid (show wrongE c = 2 from if_pos (decide_eq_true (by omega)))
    clear hc1 hc2 hc3 hc4 hc5
    go_wp2_with fail
    go_ret
    exact ⟨by first | rfl | (rw [hW.out]; rfl), by rw [HB.out]; exact B1.out⟩
  have dhc5 : decide (c.se < 1) = false := decide_eq_false (by omega)
  by_cases hc6 : (c.op.length : Int) < c.se
  · have dhc6 : decide ((c.op.length : Int) < c.se) = true := decide_eq_true (by omega)
    have hW := Lib.hid (show wrongE c = 2 from if_pos (decide_eq_true (by omega)))
    clear hc1 hc2 hc3 hc4 hc5 hc6
    go_wp2_with fail
    go_ret
    exact ⟨by first | rfl | (rw [hW.out]; rfl), by rw [HB.out]; exact B1.out⟩
  have dhc6 : decide ((c.op.length : Int) < c.se) = false := decide_eq_false (by omega)
  have hW := Lib.hid (show wrongE c = 0 from if_neg (by rw [show wrongC c = false from decide_eq_false (by omega)]; decide))
  clear hc1 hc2 hc3 hc4 hc5 hc6
  go_wp2_with fail
  go_ret
  exact ⟨by first | rfl | (rw [hW.out]; rfl), by rw [HB.out]; exact B1.out⟩

set_option maxHeartbeats 2000000 in
set_option maxRecDepth 100000 in
theorem refLot_any (c : CTest) (lots : Bytes) (k : Nat) (oa : Option Addr) (cap : Nat) (w : World) (hs : StrsAt w oa c.op) (hf : c.Fits lots) (hk : k < c.op.length) (hnl : c.op.length < 9223372036854775807) :
    Calls Try.prog 37 #[.agg (c.cells oa cap).toArray, .string ⟨lots.toArray⟩, .int .i64 k] w fun e w' => e = .returned (.string ⟨(lotN c lots k).toArray⟩) ∧ Below w.heap.size w w' := by
  have hC : (c.cells oa cap).toArray = #[.string ⟨c.nm.toArray⟩, .slice oa c.op.length cap, .int .i64 c.rl, .int .i64 c.se, .int .i64 c.mo] := rfl
  rw [hC]
  clear hC
  obtain ⟨q, hoa, hqb, hqc⟩ := hs.cells k hk
  subst hoa
  have HJ := Lib.hid (hf.join k hk)
  have HLN := Lib.hid (show lotN c lots k = digestL [] (joinL lotT [lots, c.nm, c.op.getD k []]) from rfl)
  have ho : c.op.getD k [] = c.op[k] := by rw [List.getD_eq_getElem?_getD, List.getElem?_eq_getElem hk]; rfl
  rw [ho] at HJ HLN
  clear ho hf hs
  generalize c.op[k] = opt at *
  have hki : (k : Int) < (c.op.length : Int) := by omega
  have HQC := Lib.hid hqc
  have hqk := addr_block q k
  clear hqc
  go_enter Try.func37, Try.ntmps37
  go_upto_region 1 with (fail)
  generalize hB : w.heap.size = B at *
  refine wp_abs (fun w1 => Below B w w1 ∧ w1.heap[B]? = some (.cells #[.string ⟨c.nm.toArray⟩, .slice (some q) c.op.length cap, .int .i64 c.rl, .int .i64 c.se, .int .i64 c.mo] 24 (0, 0))) ⟨by rw [← hB]; exact (Below.refl _ _).alloc (Nat.le_refl _) _, by rw [← hB]; exact heap_at rfl⟩ (fun w1 hw1 => ?_)
  have HB := Lib.hid hB
  have B1 := Lib.hid hw1.1
  have X1 := Lib.hid hw1.2
  have hBs : B < w1.heap.size := lt_of_heap hw1.2
  have k0 : w1.cell? ⟨B, 0, none⟩ = some (.string ⟨c.nm.toArray⟩) := cell_of_row w1 B 0 _ _ _ hw1.2
  have k1 : w1.cell? ⟨B, 1, none⟩ = some (.slice (some q) c.op.length cap) := cell_of_row w1 B 1 _ _ _ hw1.2
  have k2 : w1.cell? ⟨B, 2, none⟩ = some (.int .i64 c.rl) := cell_of_row w1 B 2 _ _ _ hw1.2
  have k3 : w1.cell? ⟨B, 3, none⟩ = some (.int .i64 c.se) := cell_of_row w1 B 3 _ _ _ hw1.2
  clear hB hw1
  have hqc := (B1.out.cell (p := q.add k) (by omega)).trans HQC.out
  clear k2 k3
  have QT := Lib.hid (fun (g : Nat) (w6 : World) (h : w6.heap[g]? = some (.cells #[.string ⟨lots.toArray⟩, .string ⟨c.nm.toArray⟩, .string ⟨opt.toArray⟩] 9 (0, 0))) => refTag_any lotT (some ⟨g, 0, none⟩) [lots, c.nm, opt] 3 w6 (strsAt_three h) HJ.out (by show 3 < 9223372036854775807; decide))
  rw [← HLN.out] at QT
  have QT2 := Lib.hid (QT.out w1.heap.size (w1.alloc (.cells #[.string ⟨lots.toArray⟩, .string ⟨c.nm.toArray⟩, .string ⟨opt.toArray⟩] 9)).drew (heap_at rfl))
  clear QT
  refine Seg.wp_region_segs (fun w' => ∃ m, w' = w1.drewN m) [] [0, 1, 2, 3, 4, 5, 6, 7] 8 (by kernel_rfl) (by kernel_rfl) (fun _ _ d _ _ h => by cases d <;> exact h) (⟨1, rfl⟩) ?_
  simp only [List.map_cons, List.map_nil, Seg.opAt, List.drop_succ_cons, List.drop_zero, Seg.wpSegs, Array.getD_eq_getD_getElem?, List.getElem?_toArray, List.getElem?_cons_succ, List.getElem?_cons_zero, Option.getD_some]
  repeat (any_goals (first | go_big_quiet_step (fail) | quiet_step (fail)))
  refine wpQuiet_nil ?_
  go_wp2_with (go_at_call 58; refine QT2.out.mono ?_; rintro e w2 ⟨rfl, b2⟩)
  go_ret
  have ba : Below w1.heap.size w1 (w1.alloc (.cells #[.string ⟨lots.toArray⟩, .string ⟨c.nm.toArray⟩, .string ⟨opt.toArray⟩] 9)).drew := ((Below.refl _ _).alloc (Nat.le_refl _) _).drew
  exact ⟨rfl, by rw [HB.out]; exact B1.out.trans ((ba.trans (b2.mono ba.size)).mono (Nat.le_of_lt hBs))⟩
set_option maxHeartbeats 2000000 in
set_option maxRecDepth 100000 in
theorem refAhead_any (c : CTest) (lots : Bytes) (i k : Nat) (oa : Option Addr) (cap : Nat) (w : World) (hs : StrsAt w oa c.op) (hf : c.Fits lots) (hi : i < c.op.length) (hk : k < c.op.length) (hnl : c.op.length < 9223372036854775807) :
    Calls Try.prog 19 #[.agg (c.cells oa cap).toArray, .string ⟨lots.toArray⟩, .int .i64 i, .int .i64 k] w fun e w' => e = .returned (.bool (aheadB (lotF c lots) i k)) ∧ Below w.heap.size w w' := by
  have hC : (c.cells oa cap).toArray = #[.string ⟨c.nm.toArray⟩, .slice oa c.op.length cap, .int .i64 c.rl, .int .i64 c.se, .int .i64 c.mo] := rfl
  have Q1 := Lib.hid (fun w h => refLot_any c lots i oa cap w h hf hi hnl)
  have Q2 := Lib.hid (fun w h => refLot_any c lots k oa cap w h hf hk hnl)
  rw [hC] at Q1 Q2 ⊢
  clear hC
  have HS := Lib.hid hs
  have HA := Lib.hid (show aheadB (lotF c lots) i k = (Op.bytesLess (lotN c lots i) (lotN c lots k) || (lotN c lots i == lotN c lots k && decide ((i : Int) < (k : Int)))) from rfl)
  clear hs hf
  generalize lotN c lots i = la at *
  generalize lotN c lots k = lb at *
  go_enter Try.func19, Try.ntmps19
  go_upto_region 1 with (fail)
  generalize hB : w.heap.size = B at *
  refine wp_abs (fun w1 => Below B w w1 ∧ w1.heap[B]? = some (.cells #[.string ⟨c.nm.toArray⟩, .slice oa c.op.length cap, .int .i64 c.rl, .int .i64 c.se, .int .i64 c.mo] 24 (0, 0))) ⟨by rw [← hB]; exact (Below.refl _ _).alloc (Nat.le_refl _) _, by rw [← hB]; exact heap_at rfl⟩ (fun w1 hw1 => ?_)
  have HB := Lib.hid hB
  have B1 := Lib.hid hw1.1
  have X1 := Lib.hid hw1.2
  have hBs : B < w1.heap.size := lt_of_heap hw1.2
  have k0 : w1.cell? ⟨B, 0, none⟩ = some (.string ⟨c.nm.toArray⟩) := cell_of_row w1 B 0 _ _ _ hw1.2
  have k1 : w1.cell? ⟨B, 1, none⟩ = some (.slice oa c.op.length cap) := cell_of_row w1 B 1 _ _ _ hw1.2
  have k2 : w1.cell? ⟨B, 2, none⟩ = some (.int .i64 c.rl) := cell_of_row w1 B 2 _ _ _ hw1.2
  have k3 : w1.cell? ⟨B, 3, none⟩ = some (.int .i64 c.se) := cell_of_row w1 B 3 _ _ _ hw1.2
  clear hB hw1
  clear k0 k1 k2 k3
  obtain ⟨M, hM⟩ : ∃ M, M = w1.heap.size := ⟨_, rfl⟩
  have hx0 : Below M w1 w1.drew := (Below.refl _ _).drew
  have hBM : B < M := by omega
  have QL1 := Lib.hid (fun w' (hx : Below M w1 w') => Q1.out w' ((HS.out.below (HB.out.symm ▸ B1.out)).below (hM ▸ hx)))
  have QL2 := Lib.hid (fun w' (hx : Below M w1 w') => Q2.out w' ((HS.out.below (HB.out.symm ▸ B1.out)).below (hM ▸ hx)))
  have HM := Lib.hid hM
  clear hM Q1 Q2 hBs
  refine Seg.wp_region_segs (fun w' => ∃ x : BelowT M w1, w' = x.w) [([0, 1, 2, 4, 5, 6], 3)] [] 7 (by kernel_rfl) (by kernel_rfl) (fun _ _ d _ _ h => by cases d <;> exact h) (⟨⟨_, hx0⟩, rfl⟩) ?_
  simp only [List.map_cons, List.map_nil, Seg.opAt, List.drop_succ_cons, List.drop_zero, Seg.wpSegs, Array.getD_eq_getD_getElem?, List.getElem?_toArray, List.getElem?_cons_succ, List.getElem?_cons_zero, Option.getD_some]
  refine wpQuiet_load_whole rfl 24 _ rfl B #[.string ⟨c.nm.toArray⟩, .slice oa c.op.length cap, .int .i64 c.rl, .int .i64 c.se, .int .i64 c.mo] _ _ _ rfl X1.out hBM Try.underlying24 rfl size_contest ?_
  first | go_big_quiet_step (fail) | quiet_step (fail)
  first | go_big_quiet_step (fail) | quiet_step (fail)
  refine wpQuiet_load_whole rfl 24 _ rfl B #[.string ⟨c.nm.toArray⟩, .slice oa c.op.length cap, .int .i64 c.rl, .int .i64 c.se, .int .i64 c.mo] _ _ _ rfl X1.out hBM Try.underlying24 rfl size_contest ?_
  first | go_big_quiet_step (fail) | quiet_step (fail)
  first | go_big_quiet_step (fail) | quiet_step (fail)
  refine wpQuiet_nil ?_
  intro K hK
  simp only [Region.wanted, if_true]
  go_wp2_with (go_at_call 37; refine (QL1.out _ hx0).mono ?_; rintro e w2 ⟨rfl, b2⟩)
  have hx2 := hx0.trans (b2.mono (Nat.le_of_eq HM.out))
  refine hK _ _ ⟨⟨_, hx2⟩, rfl⟩ ?_
  have HX2 := Lib.hid hx2
  clear hK K hx0 hx2 b2 QL1
  have QQ2 := Lib.hid (QL2.out w2 HX2.out)
  clear QL2
  have hMs : M ≤ w2.heap.size := by have := HX2.out.size; rw [← HM.out] at this; exact this
  repeat (any_goals (first | go_big_quiet_step (fail) | quiet_step (fail)))
  refine wpQuiet_nil ?_
  by_cases hik : (i : Int) < (k : Int)
  · have d1 : decide ((i : Int) < (k : Int)) = true := decide_eq_true hik
    have d2 : decide (i < k) = true := decide_eq_true (by omega)
    rw [d1] at HA
    clear hik
    cases h1 : Op.bytesLess la lb <;> cases h2 : la == lb <;> rw [h1, h2] at HA
    all_goals
      have h1' := h1
      have h2' := h2
      clear h1' h2'
      go_wp2_with (go_at_call 37; refine QQ2.out.mono ?_; rintro e w3 ⟨rfl, b3⟩)
      go_ret
      exact ⟨by rw [HA.out]; rfl, by rw [HB.out]; exact B1.out.trans ((HX2.out.mono (Nat.le_of_lt hBM)).trans (b3.mono (by omega)))⟩
  · have d1 : decide ((i : Int) < (k : Int)) = false := decide_eq_false hik
    have d2 : decide (i < k) = false := decide_eq_false (by omega)
    rw [d1] at HA
    clear hik
    cases h1 : Op.bytesLess la lb <;> cases h2 : la == lb <;> rw [h1, h2] at HA
    all_goals
      go_wp2_with (go_at_call 37; refine QQ2.out.mono ?_; rintro e w3 ⟨rfl, b3⟩)
      go_ret
      exact ⟨by rw [HA.out]; rfl, by rw [HB.out]; exact B1.out.trans ((HX2.out.mono (Nat.le_of_lt hBM)).trans (b3.mono (by omega)))⟩
end Go.Proofs.Ytnohcdpnnhmpfaa
