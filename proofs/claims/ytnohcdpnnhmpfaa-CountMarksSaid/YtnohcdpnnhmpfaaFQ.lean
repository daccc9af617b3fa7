/-
  fold.turn, corners, quarter, back: what each computes, for any words, in whatever world.
-/
import Derived.Test.YtnohcdpnnhmpfaaProg
import Derived.Test.YtnohcdpnnhmpfaaBBase
import Derived.WalkKit
import Derived.BigQuiet
import Derived.Outline
import Derived.Lib.Hide
namespace Go.Proofs.Ytnohcdpnnhmpfaa
open Go.RowKit ML FM

theorem turn_any (x : U) (n : Nat) (w : World) (h0 : 0 < n) (h1 : n < 32) :
    Calls Try.prog 120 #[.int .u32 (un x), .int .i64 (n : Int)] w fun e w' => e = .returned (.int .u32 (un (x.rotateRight n))) ∧ ∃ m, w' = w.drewN m := by
  have hr := r_rot x n h1
  have hx0 := un_nonneg x
  have hx1 := un_lt x
  have e1 : (32 - (n : Int)).toNat = 32 - n := by omega
  go_enter Try.func120, Try.ntmps120
  go_wp2
  go_quiet (fail)
  go_wp2
  go_ret
  exact ⟨rfl, _, rfl⟩

theorem corners_any (b i : Nat) (w : World) (h1 : i < 8) :
    Calls Try.prog 119 #[.pointer (some ⟨b, 0, none⟩), .int .i64 (i : Int)] w fun e w' => e = .returned (.tuple #[.pointer (some ⟨b, ca i, none⟩), .pointer (some ⟨b, cb i, none⟩), .pointer (some ⟨b, cc i, none⟩), .pointer (some ⟨b, cd i, none⟩)]) ∧ ∃ m, w' = w.drewN m := by
  unfold ca cb cc cd
  go_enter Try.func119, Try.ntmps119
  go_wp2
  go_quiet (fail)
  go_wp2
  refine bodyPost_ret (v := .tuple #[.pointer (some ⟨b, i % 4, none⟩), .pointer (some ⟨b, 4 + (i + i / 4) % 4, none⟩), .pointer (some ⟨b, 8 + (i + 2 * (i / 4)) % 4, none⟩), .pointer (some ⟨b, 12 + (i + 3 * (i / 4)) % 4, none⟩)]) (by simp [results, Try.results119, go_sem]) rfl ⟨rfl, _, rfl⟩

set_option maxRecDepth 100000 in
theorem place_any (r i : Nat) (w : World) (hr : r < 10) (hi : i < 16) :
    Calls Try.prog 117 #[.int .i64 (r : Int), .int .i64 (i : Int)] w fun e w' => e = .returned (.int .i64 (placeN r i : Int)) ∧ w' = w := by
  go_enter Try.func117, Try.ntmps117
  go_wp2
  · go_ret
    exact ⟨congrArg (fun n => Ending.returned (Value.int .i64 n)) (place_tab1 (16 * r + i) (by rw [ordS_size]; omega) (by assumption)), rfl⟩
  · go_ret
    exact ⟨congrArg (fun n => Ending.returned (Value.int .i64 n)) (place_tab2 (16 * r + i) (by rw [ordS_size]; omega) (by assumption)), rfl⟩

set_option maxHeartbeats 4000000 in
set_option maxRecDepth 100000 in
theorem quarter_core (b i : Nat) (w : World) (T : TypeId) (oa ob oc od : Nat) (V : List U) (x y : U) (D : Dist oa ob oc od) (hlen : V.length = 16)
   (hblk : w.heap[b]? = some (.cells (vals V) T (0, 0)))
   (hcor : ∀ w, Calls Try.prog 119 #[.pointer (some ⟨b, 0, none⟩), .int .i64 (i : Int)] w fun e w' => e = .returned (.tuple #[.pointer (some ⟨b, oa, none⟩), .pointer (some ⟨b, ob, none⟩), .pointer (some ⟨b, oc, none⟩), .pointer (some ⟨b, od, none⟩)]) ∧ ∃ m, w' = w.drewN m) :
    Calls Try.prog 116 #[.pointer (some ⟨b, 0, none⟩), .int .i64 (i : Int), .int .u32 (un x), .int .u32 (un y)] w fun e w' => e = .returned (.tuple #[]) ∧ Only b w w' ∧ w'.heap[b]? = some (.cells (vals (quarterL V oa ob oc od x y)) T (0, 0)) := by
  obtain ⟨va0, Hva0⟩ : ∃ v, Hid (V.getD oa 0 = v) := ⟨_, Lib.hid rfl⟩
  obtain ⟨vb0, Hvb0⟩ : ∃ v, Hid (V.getD ob 0 = v) := ⟨_, Lib.hid rfl⟩
  obtain ⟨vc0, Hvc0⟩ : ∃ v, Hid (V.getD oc 0 = v) := ⟨_, Lib.hid rfl⟩
  obtain ⟨vd0, Hvd0⟩ : ∃ v, Hid (V.getD od 0 = v) := ⟨_, Lib.hid rfl⟩
  have SX : Four b T oa ob oc od w w V va0 vb0 vc0 vd0 := ⟨Only.refl _ _, hblk, hlen, Hva0.out, Hvb0.out, Hvc0.out, Hvd0.out⟩
  clear hblk hlen
  have R2 := w_add
  have RX := r_xor
  have RS2 := w_sub
  have Hcor := Lib.hid hcor
  clear hcor
  go_enter Try.func116, Try.ntmps116
  go_wp2_with (go_at_call 119; refine (Hcor.out _).mono ?_; rintro e w' ⟨rfl, m, rfl⟩)
  refine wp_abs (fun w1 => Four b T oa ob oc od w w1 V va0 vb0 vc0 vd0) ⟨SX.only.drewN _, SX.blk, SX.len, SX.ga, SX.gb, SX.gc, SX.gd⟩ (fun w0 S0 => ?_)
  clear SX
  obtain ⟨ha, hb, hc, hd, fa, fb, fc, fd⟩ := S0.cells D
  refine Seg.wp_region_segs (fun w' => ∃ n, w' = w0.drewN n) [] [0, 1, 2, 3, 4, 5, 6, 7] 8 (by kernel_rfl) (by kernel_rfl) (fun _ _ d _ _ h => by cases d <;> exact h) (⟨1, rfl⟩) ?_
  simp only [List.map_cons, List.map_nil, Seg.opAt, List.drop_succ_cons, List.drop_zero, Seg.wpSegs, Array.getD_eq_getD_getElem?, List.getElem?_toArray, List.getElem?_cons_succ, List.getElem?_cons_zero, Option.getD_some]
  repeat (any_goals (first | go_big_quiet_step (fail) | quiet_step (fail)))
  refine wpQuiet_nil ?_
  go_wp2_with fail
  refine wp_abs (fun w1 => Four b T oa ob oc od w w1 (V.set oa (va0 + (vb0 + x))) (va0 + (vb0 + x)) vb0 vc0 vd0) (S0.seta D _ _) (fun w1 S1 => ?_)
  clear ha hb hc hd fa fb fc fd S0
  generalize hva1 : va0 + (vb0 + x) = va1 at *
  have Hva1 := Lib.hid hva1
  clear hva1
  obtain ⟨ha, hb, hc, hd, fa, fb, fc, fd⟩ := S1.cells D
  refine Seg.wp_region_segs (fun w' => ∃ n, w' = w1.drewN n) [([0, 1, 2, 3, 4, 5, 6, 7], 8)] [] 9 (by kernel_rfl) (by kernel_rfl) (fun _ _ d _ _ h => by cases d <;> exact h) (⟨1, rfl⟩) ?_
  simp only [List.map_cons, List.map_nil, Seg.opAt, List.drop_succ_cons, List.drop_zero, Seg.wpSegs, Array.getD_eq_getD_getElem?, List.getElem?_toArray, List.getElem?_cons_succ, List.getElem?_cons_zero, Option.getD_some]
  repeat (any_goals (first | go_big_quiet_step (fail) | quiet_step (fail)))
  refine wpQuiet_nil ?_
  intro K hK
  simp only [Region.wanted, if_true]
  go_wp2_with (go_at_call 120; refine (turn_any _ 16 _ (by decide) (by decide)).mono ?_; rintro e w' ⟨rfl, m, rfl⟩)
  refine hK _ _ ⟨_, rfl⟩ ?_
  clear hK K
  repeat (any_goals (first | go_big_quiet_step (fail) | quiet_step (fail)))
  refine wpQuiet_nil ?_
  go_wp2_with fail
  refine wp_abs (fun w1 => Four b T oa ob oc od w w1 ((V.set oa va1).set od ((vd0 ^^^ va1).rotateRight 16)) va1 vb0 vc0 ((vd0 ^^^ va1).rotateRight 16)) (S1.setd D _ _) (fun w2 S2 => ?_)
  clear ha hb hc hd fa fb fc fd S1
  generalize hvd1 : (vd0 ^^^ va1).rotateRight 16 = vd1 at *
  have Hvd1 := Lib.hid hvd1
  clear hvd1
  obtain ⟨ha, hb, hc, hd, fa, fb, fc, fd⟩ := S2.cells D
  refine Seg.wp_region_segs (fun w' => ∃ n, w' = w2.drewN n) [] [0, 1, 2, 3, 4, 5] 6 (by kernel_rfl) (by kernel_rfl) (fun _ _ d _ _ h => by cases d <;> exact h) (⟨1, rfl⟩) ?_
  simp only [List.map_cons, List.map_nil, Seg.opAt, List.drop_succ_cons, List.drop_zero, Seg.wpSegs, Array.getD_eq_getD_getElem?, List.getElem?_toArray, List.getElem?_cons_succ, List.getElem?_cons_zero, Option.getD_some]
  repeat (any_goals (first | go_big_quiet_step (fail) | quiet_step (fail)))
  refine wpQuiet_nil ?_
  go_wp2_with fail
  refine wp_abs (fun w1 => Four b T oa ob oc od w w1 (((V.set oa va1).set od vd1).set oc (vc0 + vd1)) va1 vb0 (vc0 + vd1) vd1) (S2.setc D _ _) (fun w3 S3 => ?_)
  clear ha hb hc hd fa fb fc fd S2
  generalize hvc1 : vc0 + vd1 = vc1 at *
  have Hvc1 := Lib.hid hvc1
  clear hvc1
  obtain ⟨ha, hb, hc, hd, fa, fb, fc, fd⟩ := S3.cells D
  refine Seg.wp_region_segs (fun w' => ∃ n, w' = w3.drewN n) [([0, 1, 2, 3, 4, 5, 6, 7], 8)] [] 9 (by kernel_rfl) (by kernel_rfl) (fun _ _ d _ _ h => by cases d <;> exact h) (⟨1, rfl⟩) ?_
  simp only [List.map_cons, List.map_nil, Seg.opAt, List.drop_succ_cons, List.drop_zero, Seg.wpSegs, Array.getD_eq_getD_getElem?, List.getElem?_toArray, List.getElem?_cons_succ, List.getElem?_cons_zero, Option.getD_some]
  repeat (any_goals (first | go_big_quiet_step (fail) | quiet_step (fail)))
  refine wpQuiet_nil ?_
  intro K hK
  simp only [Region.wanted, if_true]
  go_wp2_with (go_at_call 120; refine (turn_any _ 12 _ (by decide) (by decide)).mono ?_; rintro e w' ⟨rfl, m, rfl⟩)
  refine hK _ _ ⟨_, rfl⟩ ?_
  clear hK K
  repeat (any_goals (first | go_big_quiet_step (fail) | quiet_step (fail)))
  refine wpQuiet_nil ?_
  go_wp2_with fail
  refine wp_abs (fun w1 => Four b T oa ob oc od w w1 ((((V.set oa va1).set od vd1).set oc vc1).set ob ((vb0 ^^^ vc1).rotateRight 12)) va1 ((vb0 ^^^ vc1).rotateRight 12) vc1 vd1) (S3.setb D _ _) (fun w4 S4 => ?_)
  clear ha hb hc hd fa fb fc fd S3
  generalize hvb1 : (vb0 ^^^ vc1).rotateRight 12 = vb1 at *
  have Hvb1 := Lib.hid hvb1
  clear hvb1
  obtain ⟨ha, hb, hc, hd, fa, fb, fc, fd⟩ := S4.cells D
  refine Seg.wp_region_segs (fun w' => ∃ n, w' = w4.drewN n) [] [0, 1, 2, 3, 4, 5, 6, 7] 8 (by kernel_rfl) (by kernel_rfl) (fun _ _ d _ _ h => by cases d <;> exact h) (⟨1, rfl⟩) ?_
  simp only [List.map_cons, List.map_nil, Seg.opAt, List.drop_succ_cons, List.drop_zero, Seg.wpSegs, Array.getD_eq_getD_getElem?, List.getElem?_toArray, List.getElem?_cons_succ, List.getElem?_cons_zero, Option.getD_some]
  repeat (any_goals (first | go_big_quiet_step (fail) | quiet_step (fail)))
  refine wpQuiet_nil ?_
  go_wp2_with fail
  refine wp_abs (fun w1 => Four b T oa ob oc od w w1 (((((V.set oa va1).set od vd1).set oc vc1).set ob vb1).set oa (va1 + (vb1 + y))) (va1 + (vb1 + y)) vb1 vc1 vd1) (S4.seta D _ _) (fun w5 S5 => ?_)
  clear ha hb hc hd fa fb fc fd S4
  generalize hva2 : va1 + (vb1 + y) = va2 at *
  have Hva2 := Lib.hid hva2
  clear hva2
  obtain ⟨ha, hb, hc, hd, fa, fb, fc, fd⟩ := S5.cells D
  refine Seg.wp_region_segs (fun w' => ∃ n, w' = w5.drewN n) [([0, 1, 2, 3, 4, 5, 6, 7], 8)] [] 9 (by kernel_rfl) (by kernel_rfl) (fun _ _ d _ _ h => by cases d <;> exact h) (⟨1, rfl⟩) ?_
  simp only [List.map_cons, List.map_nil, Seg.opAt, List.drop_succ_cons, List.drop_zero, Seg.wpSegs, Array.getD_eq_getD_getElem?, List.getElem?_toArray, List.getElem?_cons_succ, List.getElem?_cons_zero, Option.getD_some]
  repeat (any_goals (first | go_big_quiet_step (fail) | quiet_step (fail)))
  refine wpQuiet_nil ?_
  intro K hK
  simp only [Region.wanted, if_true]
  go_wp2_with (go_at_call 120; refine (turn_any _ 8 _ (by decide) (by decide)).mono ?_; rintro e w' ⟨rfl, m, rfl⟩)
  refine hK _ _ ⟨_, rfl⟩ ?_
  clear hK K
  repeat (any_goals (first | go_big_quiet_step (fail) | quiet_step (fail)))
  refine wpQuiet_nil ?_
  go_wp2_with fail
  refine wp_abs (fun w1 => Four b T oa ob oc od w w1 ((((((V.set oa va1).set od vd1).set oc vc1).set ob vb1).set oa va2).set od ((vd1 ^^^ va2).rotateRight 8)) va2 vb1 vc1 ((vd1 ^^^ va2).rotateRight 8)) (S5.setd D _ _) (fun w6 S6 => ?_)
  clear ha hb hc hd fa fb fc fd S5
  generalize hvd2 : (vd1 ^^^ va2).rotateRight 8 = vd2 at *
  have Hvd2 := Lib.hid hvd2
  clear hvd2
  obtain ⟨ha, hb, hc, hd, fa, fb, fc, fd⟩ := S6.cells D
  refine Seg.wp_region_segs (fun w' => ∃ n, w' = w6.drewN n) [] [0, 1, 2, 3, 4, 5] 6 (by kernel_rfl) (by kernel_rfl) (fun _ _ d _ _ h => by cases d <;> exact h) (⟨1, rfl⟩) ?_
  simp only [List.map_cons, List.map_nil, Seg.opAt, List.drop_succ_cons, List.drop_zero, Seg.wpSegs, Array.getD_eq_getD_getElem?, List.getElem?_toArray, List.getElem?_cons_succ, List.getElem?_cons_zero, Option.getD_some]
  repeat (any_goals (first | go_big_quiet_step (fail) | quiet_step (fail)))
  refine wpQuiet_nil ?_
  go_wp2_with fail
  refine wp_abs (fun w1 => Four b T oa ob oc od w w1 (((((((V.set oa va1).set od vd1).set oc vc1).set ob vb1).set oa va2).set od vd2).set oc (vc1 + vd2)) va2 vb1 (vc1 + vd2) vd2) (S6.setc D _ _) (fun w7 S7 => ?_)
  clear ha hb hc hd fa fb fc fd S6
  generalize hvc2 : vc1 + vd2 = vc2 at *
  have Hvc2 := Lib.hid hvc2
  clear hvc2
  obtain ⟨ha, hb, hc, hd, fa, fb, fc, fd⟩ := S7.cells D
  refine Seg.wp_region_segs (fun w' => ∃ n, w' = w7.drewN n) [([0, 1, 2, 3, 4, 5, 6, 7], 8)] [] 9 (by kernel_rfl) (by kernel_rfl) (fun _ _ d _ _ h => by cases d <;> exact h) (⟨1, rfl⟩) ?_
  simp only [List.map_cons, List.map_nil, Seg.opAt, List.drop_succ_cons, List.drop_zero, Seg.wpSegs, Array.getD_eq_getD_getElem?, List.getElem?_toArray, List.getElem?_cons_succ, List.getElem?_cons_zero, Option.getD_some]
  repeat (any_goals (first | go_big_quiet_step (fail) | quiet_step (fail)))
  refine wpQuiet_nil ?_
  intro K hK
  simp only [Region.wanted, if_true]
  go_wp2_with (go_at_call 120; refine (turn_any _ 7 _ (by decide) (by decide)).mono ?_; rintro e w' ⟨rfl, m, rfl⟩)
  refine hK _ _ ⟨_, rfl⟩ ?_
  clear hK K
  repeat (any_goals (first | go_big_quiet_step (fail) | quiet_step (fail)))
  refine wpQuiet_nil ?_
  go_wp2_with fail
  refine post_abs (fun w1 => Four b T oa ob oc od w w1 ((((((((V.set oa va1).set od vd1).set oc vc1).set ob vb1).set oa va2).set od vd2).set oc vc2).set ob ((vb1 ^^^ vc2).rotateRight 7)) va2 ((vb1 ^^^ vc2).rotateRight 7) vc2 vd2) (S7.setb D _ _) (fun w8 S8 => ?_)
  clear ha hb hc hd fa fb fc fd S7
  go_end0
  refine ⟨rfl, S8.only, ?_⟩
  have hfin := S8.blk
  have e0 := Hvd2.out; subst e0; have e1 := Hvd1.out; subst e1; have e2 := Hvc2.out; subst e2; have e3 := Hvc1.out; subst e3; have e4 := Hvb1.out; subst e4; have e5 := Hva2.out; subst e5; have e6 := Hva1.out; subst e6; have f0 := Hva0.out; subst f0; have f1 := Hvb0.out; subst f1; have f2 := Hvc0.out; subst f2; have f3 := Hvd0.out; subst f3
  exact hfin

theorem quarter_any (b i : Nat) (w : World) (T : TypeId) (V : List U) (x y : U) (hi : i < 8) (hlen : V.length = 16) (hblk : w.heap[b]? = some (.cells (vals V) T (0, 0))) :
    Calls Try.prog 116 #[.pointer (some ⟨b, 0, none⟩), .int .i64 (i : Int), .int .u32 (un x), .int .u32 (un y)] w fun e w' => e = .returned (.tuple #[]) ∧ Only b w w' ∧ w'.heap[b]? = some (.cells (vals (quarterL V (ca i) (cb i) (cc i) (cd i) x y)) T (0, 0)) :=
  quarter_core b i w T _ _ _ _ V x y (dist i) hlen hblk (fun w => corners_any b i w hi)

end Go.Proofs.Ytnohcdpnnhmpfaa
