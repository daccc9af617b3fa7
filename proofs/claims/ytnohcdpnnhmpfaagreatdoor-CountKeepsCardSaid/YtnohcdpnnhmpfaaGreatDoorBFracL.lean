/-
  exact.Lowest; fractions of limbs.
  exact.Frac's Plus, Times, Minus, Cmp. Printed by tools/genfrac.py.
-/
import Derived.Test.YtnohcdpnnhmpfaaGreatDoorBLDiv
import Derived.Test.YtnohcdpnnhmpfaaGreatDoorBMem
import Derived.Test.YtnohcdpnnhmpfaaGreatDoorBLimb
import Derived.Deep.QuietTactic
import Derived.BigQuiet
namespace Go.Proofs.YtnohcdpnnhmpfaaGreatDoor
set_option linter.unusedVariables false
open Go.RowKit ML NL

/-- a fraction of limbs -/
structure LFr (w : World) (n d : Nat) (on od : Option Addr) : Prop where
  num : LimbsAt w on (dig n)
  den : LimbsAt w od (dig d)
theorem LFr.below {w w1 : World} {n d : Nat} {on od : Option Addr} (h : LFr w n d on od) (hb : Below w.heap.size w w1) : LFr w1 n d on od := ⟨h.num.below hb, h.den.below hb⟩
theorem size_lfr : (Tryz.prog.info? 90).map (·.size) = some 2 := by kernel_rfl
set_option maxHeartbeats 4000000 in
set_option maxRecDepth 100000 in
theorem exLowest_any (n d : Nat) (oa ob : Option Addr) (ca cb : Nat) (w : World) (hd0 : 0 < d) (ha : LimbsAt w oa (dig n)) (hb : LimbsAt w ob (dig d)) (hx : (dig n).length < 1099511627775) (hy : (dig d).length < 1099511627775) :
    Calls Tryz.prog 89 #[.slice oa (dig n).length ca, .slice ob (dig d).length cb] w fun e w' => ∃ on od cn cd, e = .returned (.agg #[.slice on (dig (n / Nat.gcd n d)).length cn, .slice od (dig (d / Nat.gcd n d)).length cd]) ∧ LFr w' (n / Nat.gcd n d) (d / Nat.gcd n d) on od ∧ Below w.heap.size w w' := by
  have hg0 : 0 < Nat.gcd n d := Nat.gcd_pos_of_pos_right n hd0
  have HA := Lib.hid ha
  have HBB := Lib.hid hb
  have hl : (dig (Nat.gcd n d)).length ≤ (dig d).length := length_dig_le _ _ (Nat.lt_of_le_of_lt (Nat.le_of_dvd hd0 (Nat.gcd_dvd_right n d)) (lt_pow_length d))
  have QG := Lib.hid (fun w h1 h2 => exGcd_any n d oa ob ca cb w h1 h2 hx hy)
  have QO := Lib.hid (fun w => exOf_any 1 w (by decide))
  have HS := Lib.hid size_lfr
  have HG0 := Lib.hid hg0
  have hone := Lib.hid (show dig 1 = [1] by rw [dig_pos (by decide)]; simp [dig_zero])
  rw [hone.out] at QO
  clear ha hb
  generalize hgg : Nat.gcd n d = g at *
  have HGG := Lib.hid hgg
  clear hgg hg0 hd0
  go_enter Tryz.func89, Tryz.ntmps89
  go_upto_region 1 with (fail)
  generalize hB : w.heap.size = B at *
  have HB := Lib.hid hB
  refine wp_abs (fun w1 => Below B w w1 ∧ w1.heap[B]? = some (.cells #[.slice none 0 0, .slice none 0 0] 90 (0, 0))) ⟨by rw [← hB]; exact (Below.refl _ _).alloc (Nat.le_refl _) _, by rw [← hB]; exact heap_at rfl⟩ (fun w1 hw1 => ?_)
  have HW1 := Lib.hid hw1
  clear hw1 hB
  go_upto_region 2 with (go_at_call 94; refine (QG.out w1 (HA.out.below (HB.out ▸ HW1.out.1)) (HBB.out.below (HB.out ▸ HW1.out.1))).mono ?_; rintro e w2 ⟨og, cg, rfl, hIg, bel2⟩; have HIG := Lib.hid hIg; clear hIg)
  have B2 := Lib.hid (HW1.out.1.trans (bel2.mono (HB.out ▸ HW1.out.1.size)))
  have HC2 := Lib.hid (bel_keep bel2 (lt_of_heap HW1.out.2) HW1.out.2)
  clear bel2 HW1 QG
  have QC := Lib.hid (fun o1 c1 w h1 h2 => exCmp_any g 1 og o1 cg c1 w h1 h2 (by omega) (by rw [hone.out]; decide))
  rw [hone.out] at QC
  go_upto_if 12 with (first
    | (go_at_call 96; refine (QO.out w2).mono ?_; rintro e w3 ⟨o1, c1, rfl, hI1, -, bel3⟩; have HI1 := Lib.hid hI1; clear hI1)
    | (go_at_call 95; refine (QC.out o1 c1 w3 (HIG.out.below bel3) HI1.out).mono ?_; rintro e w4 ⟨rfl, bel4⟩))
  have B4 := Lib.hid ((B2.out.trans (bel3.mono (HB.out ▸ B2.out.size))).trans (bel4.mono (Nat.le_trans (HB.out ▸ B2.out.size) bel3.size)))
  have HC4 := Lib.hid (bel_keep bel4 (Nat.lt_of_lt_of_le (lt_of_heap HC2.out) bel3.size) (bel_keep bel3 (lt_of_heap HC2.out) HC2.out))
  have HA4 := Lib.hid (HA.out.below (HB.out ▸ B4.out))
  have HBB4 := Lib.hid (HBB.out.below (HB.out ▸ B4.out))
  have HIG4 := Lib.hid ((HIG.out.below bel3).below bel4)
  clear bel3 bel4 QO QC HA HBB HIG B2 HC2 HI1
  by_cases h1 : g = 1
  · subst h1
    rw [NL.cmpI_eq]
    go_wp2_with (refine wpList_store_whole rfl rfl 90 _ _ rfl B #[.slice none 0 0, .slice none 0 0] #[.slice oa (dig n).length ca, .slice ob (dig d).length cb] 90 rfl rfl HC4.out rfl HS.out (two_slices _ _ _ _ _ _) ?_; intro w5 ho hp)
    refine bodyPost_ret (results_cell_row rfl _ w5 B _ _ _ _ rfl hp Tryz.underlying90 rfl HS.out) rfl ⟨oa, ob, ca, cb, by rw [Nat.div_one, Nat.div_one], ⟨by rw [Nat.div_one]; exact HA4.out.spared HC4.out two_noInt ho, by rw [Nat.div_one]; exact HBB4.out.spared HC4.out two_noInt ho⟩, by rw [HB.out]; exact bel_only B4.out ho (Nat.le_refl _)⟩
  · have hc : (NL.cmpI g 1 == 0) = false := by
      have := HG0.out
      rw [NL.cmpI_gt (by omega)]
      rfl
    have QD1 := Lib.hid (exDiv_any n g oa og ca cg w4 HG0.out HA4.out HIG4.out hx (by omega))
    have QD2 := Lib.hid (fun w h1 h2 => exDiv_any d g ob og cb cg w HG0.out h1 h2 hy (by omega))
    clear h1
    generalize NL.cmpI g 1 = c at *
    go_upto_region 5 with (go_at_call 137; refine QD1.out.mono ?_; rintro e w5 ⟨oq, cq, or, cr, rfl, hq, -, bel5⟩; have HQ := Lib.hid hq; clear hq)
    have QD3 := Lib.hid (QD2.out w5 (HBB4.out.below bel5) (HIG4.out.below bel5))
    have HC5 := Lib.hid (bel_keep bel5 (lt_of_heap HC4.out) HC4.out)
    have B5 := Lib.hid (B4.out.trans (bel5.mono (HB.out ▸ B4.out.size)))
    clear QD1 QD2 HA4 HBB4 HIG4 bel5 HC4 B4
    go_upto_region 6 with (go_at_call 137; refine QD3.out.mono ?_; rintro e w6 ⟨oq2, cq2, or2, cr2, rfl, hq2, -, bel6⟩; have HQ2 := Lib.hid hq2; clear hq2)
    have HC6 := Lib.hid (bel_keep bel6 (lt_of_heap HC5.out) HC5.out)
    have B6 := Lib.hid (B5.out.trans (bel6.mono (HB.out ▸ B5.out.size)))
    have HQ6 := Lib.hid (HQ.out.below bel6)
    clear HC5 B5 HQ bel6 QD3
    go_wp2_with (refine wpList_store_whole rfl rfl 90 _ _ rfl B #[.slice none 0 0, .slice none 0 0] #[.slice oq (dig (n / g)).length cq, .slice oq2 (dig (d / g)).length cq2] 90 rfl rfl HC6.out rfl HS.out (two_slices _ _ _ _ _ _) ?_; intro w7 ho hp)
    refine bodyPost_ret (results_cell_row rfl _ w7 B _ _ _ _ rfl hp Tryz.underlying90 rfl HS.out) rfl ⟨oq, oq2, cq, cq2, rfl, ⟨HQ6.out.spared HC6.out two_noInt ho, HQ2.out.spared HC6.out two_noInt ho⟩, by rw [HB.out]; exact bel_only B6.out ho (Nat.le_refl _)⟩
end Go.Proofs.YtnohcdpnnhmpfaaGreatDoor
namespace Go.Proofs.YtnohcdpnnhmpfaaGreatDoor
set_option linter.unusedVariables false
open Go.RowKit ML NL

namespace NL
theorem length_mul (x y : Nat) : (dig (x * y)).length ≤ (dig x).length + (dig y).length := by
  refine length_dig_le _ _ ?_
  rw [Nat.pow_add]
  exact Nat.mul_lt_mul'' (lt_pow_length x) (lt_pow_length y)
theorem length_add (x y : Nat) : (dig (x + y)).length ≤ (dig x).length + (dig y).length + 1 := by
  refine length_dig_le _ _ ?_
  have h1 := lt_pow_length x
  have h2 := lt_pow_length y
  have e1 : 1000000000 ^ (dig x).length ≤ 1000000000 ^ ((dig x).length + (dig y).length) := Nat.pow_le_pow_right (by decide) (by omega)
  have e2 : 1000000000 ^ (dig y).length ≤ 1000000000 ^ ((dig x).length + (dig y).length) := Nat.pow_le_pow_right (by decide) (by omega)
  rw [Nat.pow_succ]; omega
end NL
set_option maxHeartbeats 4000000 in
set_option maxRecDepth 100000 in
theorem exFTimes_any (a b c d : Nat) (oa ob oc od : Option Addr) (ca cb cc cd : Nat) (w : World) (hX : LFr w a b oa ob) (hY : LFr w c d oc od) (h0 : 0 < b * d) (l1 : (dig a).length < 274877906944) (l2 : (dig b).length < 274877906944) (l3 : (dig c).length < 274877906944) (l4 : (dig d).length < 274877906944) :
    Calls Tryz.prog 170 #[.agg #[.slice oa (dig a).length ca, .slice ob (dig b).length cb], .agg #[.slice oc (dig c).length cc, .slice od (dig d).length cd]] w fun e w' => ∃ on om cn cm, e = .returned (.agg #[.slice on (dig (a * c / Nat.gcd (a * c) (b * d))).length cn, .slice om (dig (b * d / Nat.gcd (a * c) (b * d))).length cm]) ∧ LFr w' (a * c / Nat.gcd (a * c) (b * d)) (b * d / Nat.gcd (a * c) (b * d)) on om ∧ Below w.heap.size w w' := by
  have QN := Lib.hid (fun w h1 h2 => exMul_any a c oa oc ca cc w h1 h2 (by omega) (by omega))
  have QD := Lib.hid (fun w h1 h2 => exMul_any b d ob od cb cd w h1 h2 (by omega) (by omega))
  have m1 := length_mul a c
  have m2 := length_mul b d
  have QL := Lib.hid (fun on om cn cm w h1 h2 => exLowest_any (a * c) (b * d) on om cn cm w h0 h1 h2 (by omega) (by omega))
  have HS := Lib.hid size_lfr
  have HX := Lib.hid hX
  have HY := Lib.hid hY
  clear hX hY h0 m1 m2
  generalize a * c / Nat.gcd (a * c) (b * d) = N at *
  generalize b * d / Nat.gcd (a * c) (b * d) = D at *
  go_enter Tryz.func170, Tryz.ntmps170
  go_upto_region 1 with (fail)
  have BX := Box3.mk' w #[.slice oa (dig a).length ca, .slice ob (dig b).length cb] #[.slice oc (dig c).length cc, .slice od (dig d).length cd] #[.slice none 0 0, .slice none 0 0] 90 90
  generalize hB : w.heap.size = B at *
  refine wp_abs (fun w1 => Box3 B w w1 #[.slice oa (dig a).length ca, .slice ob (dig b).length cb] #[.slice oc (dig c).length cc, .slice od (dig d).length cd] #[.slice none 0 0, .slice none 0 0] 90 90) BX (fun w1 B1 => ?_)
  have HB := Lib.hid hB
  have c1 := cell_of_row w1 B 0 _ _ _ B1.x
  have c2 := cell_of_row w1 B 1 _ _ _ B1.x
  have c3 := cell_of_row w1 (B + 1) 0 _ _ _ B1.y
  have c4 := cell_of_row w1 (B + 1) 1 _ _ _ B1.y
  have HB1 := Lib.hid B1
  clear BX hB B1
  refine Seg.wp_region_segs (fun w' => ∃ x : BelowT (B + 2) w1, w' = x.w) [([0, 1, 2, 3, 5, 6, 7, 8], 4)] [] 9 (by kernel_rfl) (by kernel_rfl) (fun _ _ d _ _ h => by cases d <;> exact h) (⟨⟨_, (Below.refl _ _).drew⟩, rfl⟩) ?_
  simp only [List.map_cons, List.map_nil, Seg.opAt, List.drop_succ_cons, List.drop_zero, Seg.wpSegs, Array.getD_eq_getD_getElem?, List.getElem?_toArray, List.getElem?_cons_succ, List.getElem?_cons_zero, Option.getD_some]
  repeat (any_goals (first | go_big_quiet_step (fail) | quiet_step (fail)))
  refine wpQuiet_nil ?_
  intro K hK
  simp only [Region.wanted, if_true]
  have hBs1 : B + 1 + 1 < w1.heap.size := lt_of_heap HB1.out.z
  have W1 := Lib.hid (show Below w.heap.size w w1 by rw [HB.out]; exact HB1.out.bel)
  have W1d := Lib.hid (show Below w.heap.size w w1.drew from W1.out.drew)
  go_wp2_with (go_at_call 90; refine (QN.out _ (HX.out.num.below W1d.out) (HY.out.num.below W1d.out)).mono ?_; rintro e w2 ⟨on, cn, rfl, hn, bel2⟩; have HN := Lib.hid hn; clear hn)
  have bel2' : Below w1.heap.size w1 w2 := undrew bel2
  refine hK _ _ ⟨⟨w2, bel2'.mono (by omega)⟩, rfl⟩ ?_
  have TB2 := Lib.hid (show Below (B + 2) w1 w2 from bel2'.mono (by omega))
  have W2 := Lib.hid (W1.out.trans (bel2'.mono W1.out.size))
  have HB2 := Lib.hid (HB1.out.keep (by omega) bel2')
  have hBs2 : B + 1 + 1 < w2.heap.size := lt_of_heap HB2.out.z
  clear hK K c1 c2 c3 c4 bel2 bel2' QN
  repeat (any_goals (first | go_big_quiet_step (fail) | quiet_step (fail)))
  refine wpQuiet_nil ?_
  go_wp2_with (first
    | (go_at_call 90; refine (QD.out w2 (HX.out.den.below W2.out) (HY.out.den.below W2.out)).mono ?_; rintro e w3 ⟨om, cm, rfl, hm, bel3⟩; have HM := Lib.hid hm; have HB3 := Lib.hid (HB2.out.keep (by omega) bel3); have W3 := Lib.hid (W2.out.trans (bel3.mono W2.out.size)); have HN3 := Lib.hid (HN.out.below bel3); have hB3s : B + 1 + 1 < w3.heap.size := lt_of_heap HB3.out.z; clear hm bel3)
    | (go_at_call 89; refine (QL.out on om cn cm w3 HN3.out HM.out).mono ?_; rintro e w4 ⟨or, os, cr, cs, rfl, hr, bel4⟩; have HR := Lib.hid hr; have HB4 := Lib.hid (HB3.out.keep (by omega) bel4); have W4 := Lib.hid (W3.out.trans (bel4.mono W3.out.size)); clear hr bel4)
    | (refine wpList_store_whole rfl rfl 90 _ _ rfl (B + 1 + 1) #[.slice none 0 0, .slice none 0 0] #[.slice or (dig N).length cr, .slice os (dig D).length cs] 90 rfl rfl HB4.out.z rfl HS.out (two_slices _ _ _ _ _ _) ?_; intro w5 ho hp))
  refine bodyPost_ret (results_cell_row rfl _ w5 (B + 1 + 1) _ _ _ _ rfl hp Tryz.underlying90 rfl HS.out) rfl ⟨or, os, cr, cs, rfl, ⟨HR.out.num.spared HB4.out.z two_noInt ho, HR.out.den.spared HB4.out.z two_noInt ho⟩, bel_only W4.out ho (by rw [HB.out]; omega)⟩
set_option maxHeartbeats 4000000 in
set_option maxRecDepth 100000 in
theorem exFPlus_any (a b c d : Nat) (oa ob oc od : Option Addr) (ca cb cc cd : Nat) (w : World) (hX : LFr w a b oa ob) (hY : LFr w c d oc od) (h0 : 0 < b * d) (l1 : (dig a).length < 274877906944) (l2 : (dig b).length < 274877906944) (l3 : (dig c).length < 274877906944) (l4 : (dig d).length < 274877906944) :
    Calls Tryz.prog 48 #[.agg #[.slice oa (dig a).length ca, .slice ob (dig b).length cb], .agg #[.slice oc (dig c).length cc, .slice od (dig d).length cd]] w fun e w' => ∃ on om cn cm, e = .returned (.agg #[.slice on (dig ((a * d + c * b) / Nat.gcd (a * d + c * b) (b * d))).length cn, .slice om (dig (b * d / Nat.gcd (a * d + c * b) (b * d))).length cm]) ∧ LFr w' ((a * d + c * b) / Nat.gcd (a * d + c * b) (b * d)) (b * d / Nat.gcd (a * d + c * b) (b * d)) on om ∧ Below w.heap.size w w' := by
  have QN := Lib.hid (fun w h1 h2 => exMul_any a d oa od ca cd w h1 h2 (by omega) (by omega))
  have QM := Lib.hid (fun w h1 h2 => exMul_any c b oc ob cc cb w h1 h2 (by omega) (by omega))
  have QD := Lib.hid (fun w h1 h2 => exMul_any b d ob od cb cd w h1 h2 (by omega) (by omega))
  have m1 := length_mul a d
  have m2 := length_mul c b
  have m3 := length_mul b d
  have m4 := length_add (a * d) (c * b)
  have QA := Lib.hid (fun on om cn cm w h1 h2 => exAdd_any (a * d) (c * b) on om cn cm w h1 h2 (by omega) (by omega))
  have QL := Lib.hid (fun on om cn cm w h1 h2 => exLowest_any (a * d + c * b) (b * d) on om cn cm w h0 h1 h2 (by omega) (by omega))
  have HS := Lib.hid size_lfr
  have HX := Lib.hid hX
  have HY := Lib.hid hY
  clear hX hY h0 m1 m2 m3 m4
  generalize (a * d + c * b) / Nat.gcd (a * d + c * b) (b * d) = N at *
  generalize b * d / Nat.gcd (a * d + c * b) (b * d) = D at *
  go_enter Tryz.func48, Tryz.ntmps48
  go_upto_region 1 with (fail)
  have BX := Box3.mk' w #[.slice oa (dig a).length ca, .slice ob (dig b).length cb] #[.slice oc (dig c).length cc, .slice od (dig d).length cd] #[.slice none 0 0, .slice none 0 0] 90 90
  generalize hB : w.heap.size = B at *
  refine wp_abs (fun w1 => Box3 B w w1 #[.slice oa (dig a).length ca, .slice ob (dig b).length cb] #[.slice oc (dig c).length cc, .slice od (dig d).length cd] #[.slice none 0 0, .slice none 0 0] 90 90) BX (fun w1 B1 => ?_)
  have HB := Lib.hid hB
  have c1 := cell_of_row w1 B 0 _ _ _ B1.x
  have c2 := cell_of_row w1 B 1 _ _ _ B1.x
  have c3 := cell_of_row w1 (B + 1) 0 _ _ _ B1.y
  have c4 := cell_of_row w1 (B + 1) 1 _ _ _ B1.y
  have HB1 := Lib.hid B1
  clear BX hB B1
  refine Seg.wp_region_segs (fun w' => ∃ x : BelowT (B + 2) w1, w' = x.w) [([0, 1, 2, 3, 5, 6, 7, 8, 11, 12, 13, 14], 4), ([], 9), ([], 10)] [] 15 (by kernel_rfl) (by kernel_rfl) (fun _ _ d _ _ h => by cases d <;> exact h) (⟨⟨_, (Below.refl _ _).drew⟩, rfl⟩) ?_
  simp only [List.map_cons, List.map_nil, Seg.opAt, List.drop_succ_cons, List.drop_zero, Seg.wpSegs, Array.getD_eq_getD_getElem?, List.getElem?_toArray, List.getElem?_cons_succ, List.getElem?_cons_zero, Option.getD_some]
  repeat (any_goals (first | go_big_quiet_step (fail) | quiet_step (fail)))
  refine wpQuiet_nil ?_
  intro K hK
  simp only [Region.wanted, if_true]
  have hBs1 : B + 1 + 1 < w1.heap.size := lt_of_heap HB1.out.z
  have W1 := Lib.hid (show Below w.heap.size w w1 by rw [HB.out]; exact HB1.out.bel)
  have W1d := Lib.hid (show Below w.heap.size w w1.drew from W1.out.drew)
  go_wp2_with (go_at_call 90; refine (QN.out _ (HX.out.num.below W1d.out) (HY.out.den.below W1d.out)).mono ?_; rintro e w2 ⟨on, cn, rfl, hn, bel2⟩; have HN := Lib.hid hn; clear hn)
  have bel2' : Below w1.heap.size w1 w2 := undrew bel2
  refine hK _ _ ⟨⟨w2, bel2'.mono (by omega)⟩, rfl⟩ ?_
  have TB2 := Lib.hid (show Below (B + 2) w1 w2 from bel2'.mono (by omega))
  have W2 := Lib.hid (W1.out.trans (bel2'.mono W1.out.size))
  have HB2 := Lib.hid (HB1.out.keep (by omega) bel2')
  have hBs2 : B + 1 + 1 < w2.heap.size := lt_of_heap HB2.out.z
  clear hK K c1 c2 c3 c4 bel2 bel2' QN
  refine wpQuiet_nil ?_
  intro K hK
  simp only [Region.wanted, if_true]
  go_wp2_with (go_at_call 90; refine (QM.out w2 (HY.out.num.below W2.out) (HX.out.den.below W2.out)).mono ?_; rintro e w3 ⟨om, cm, rfl, hm, bel3⟩; have HM := Lib.hid hm; have HN3 := Lib.hid (HN.out.below bel3); clear hm)
  have bel3' := bel3
  refine hK _ _ ⟨⟨w3, (TB2.out).trans (bel3'.mono (by omega))⟩, rfl⟩ ?_
  have TB3 := Lib.hid (show Below (B + 2) w1 w3 from (TB2.out).trans (bel3'.mono (by omega)))
  have W3 := Lib.hid (W2.out.trans (bel3'.mono W2.out.size))
  have HB3 := Lib.hid (HB2.out.keep (by omega) bel3')
  have hBs3 : B + 1 + 1 < w3.heap.size := lt_of_heap HB3.out.z
  clear hK K bel3 bel3' QM
  refine wpQuiet_nil ?_
  intro K hK
  simp only [Region.wanted, if_true]
  go_wp2_with (go_at_call 91; refine (QA.out on om cn cm w3 HN3.out HM.out).mono ?_; rintro e w4 ⟨op, cp, rfl, hp0, bel4⟩; have HP := Lib.hid hp0; clear hp0)
  have bel4' := bel4
  refine hK _ _ ⟨⟨w4, (TB3.out).trans (bel4'.mono (by omega))⟩, rfl⟩ ?_
  have TB4 := Lib.hid (show Below (B + 2) w1 w4 from (TB3.out).trans (bel4'.mono (by omega)))
  have W4 := Lib.hid (W3.out.trans (bel4'.mono W3.out.size))
  have HB4 := Lib.hid (HB3.out.keep (by omega) bel4')
  have hBs4 : B + 1 + 1 < w4.heap.size := lt_of_heap HB4.out.z
  clear hK K bel4 bel4' QA
  repeat (any_goals (first | go_big_quiet_step (fail) | quiet_step (fail)))
  refine wpQuiet_nil ?_
  go_wp2_with (first
    | (go_at_call 90; refine (QD.out w4 (HX.out.den.below W4.out) (HY.out.den.below W4.out)).mono ?_; rintro e w5 ⟨oq, cq, rfl, hm, bel5⟩; have HQ := Lib.hid hm; have HB5 := Lib.hid (HB4.out.keep (by omega) bel5); have W5 := Lib.hid (W4.out.trans (bel5.mono W4.out.size)); have HP5 := Lib.hid (HP.out.below bel5); have hB5s : B + 1 + 1 < w5.heap.size := lt_of_heap HB5.out.z; clear hm bel5)
    | (go_at_call 89; refine (QL.out op oq cp cq w5 HP5.out HQ.out).mono ?_; rintro e w6 ⟨or, os, cr, cs, rfl, hr, bel6⟩; have HR := Lib.hid hr; have HB6 := Lib.hid (HB5.out.keep (by omega) bel6); have W6 := Lib.hid (W5.out.trans (bel6.mono W5.out.size)); clear hr bel6)
    | (refine wpList_store_whole rfl rfl 90 _ _ rfl (B + 1 + 1) #[.slice none 0 0, .slice none 0 0] #[.slice or (dig N).length cr, .slice os (dig D).length cs] 90 rfl rfl HB6.out.z rfl HS.out (two_slices _ _ _ _ _ _) ?_; intro w7 ho hp))
  refine bodyPost_ret (results_cell_row rfl _ w7 (B + 1 + 1) _ _ _ _ rfl hp Tryz.underlying90 rfl HS.out) rfl ⟨or, os, cr, cs, rfl, ⟨HR.out.num.spared HB6.out.z two_noInt ho, HR.out.den.spared HB6.out.z two_noInt ho⟩, bel_only W6.out ho (by rw [HB.out]; omega)⟩
set_option maxHeartbeats 4000000 in
set_option maxRecDepth 100000 in
theorem exFMinus_any (a b c d : Nat) (oa ob oc od : Option Addr) (ca cb cc cd : Nat) (w : World) (hX : LFr w a b oa ob) (hY : LFr w c d oc od) (h0 : 0 < b * d) (hle : c * b ≤ a * d) (l1 : (dig a).length < 274877906944) (l2 : (dig b).length < 274877906944) (l3 : (dig c).length < 274877906944) (l4 : (dig d).length < 274877906944) :
    Calls Tryz.prog 132 #[.agg #[.slice oa (dig a).length ca, .slice ob (dig b).length cb], .agg #[.slice oc (dig c).length cc, .slice od (dig d).length cd]] w fun e w' => ∃ on om cn cm, e = .returned (.agg #[.slice on (dig ((a * d - c * b) / Nat.gcd (a * d - c * b) (b * d))).length cn, .slice om (dig (b * d / Nat.gcd (a * d - c * b) (b * d))).length cm]) ∧ LFr w' ((a * d - c * b) / Nat.gcd (a * d - c * b) (b * d)) (b * d / Nat.gcd (a * d - c * b) (b * d)) on om ∧ Below w.heap.size w w' := by
  have QN := Lib.hid (fun w h1 h2 => exMul_any a d oa od ca cd w h1 h2 (by omega) (by omega))
  have QM := Lib.hid (fun w h1 h2 => exMul_any c b oc ob cc cb w h1 h2 (by omega) (by omega))
  have QD := Lib.hid (fun w h1 h2 => exMul_any b d ob od cb cd w h1 h2 (by omega) (by omega))
  have m1 := length_mul a d
  have m2 := length_mul c b
  have m3 := length_mul b d
  have m4 : (dig (a * d - c * b)).length ≤ (dig (a * d)).length := length_dig_le _ _ (Nat.lt_of_le_of_lt (Nat.sub_le _ _) (lt_pow_length _))
  have QA := Lib.hid (fun on om cn cm w h1 h2 => exSub_any (a * d) (c * b) on om cn cm w hle h1 h2 (by omega) (by omega))
  have QL := Lib.hid (fun on om cn cm w h1 h2 => exLowest_any (a * d - c * b) (b * d) on om cn cm w h0 h1 h2 (by omega) (by omega))
  have HS := Lib.hid size_lfr
  have HX := Lib.hid hX
  have HY := Lib.hid hY
  clear hX hY h0 m1 m2 m3 m4 hle
  generalize (a * d - c * b) / Nat.gcd (a * d - c * b) (b * d) = N at *
  generalize b * d / Nat.gcd (a * d - c * b) (b * d) = D at *
  go_enter Tryz.func132, Tryz.ntmps132
  go_upto_region 1 with (fail)
  have BX := Box3.mk' w #[.slice oa (dig a).length ca, .slice ob (dig b).length cb] #[.slice oc (dig c).length cc, .slice od (dig d).length cd] #[.slice none 0 0, .slice none 0 0] 90 90
  generalize hB : w.heap.size = B at *
  refine wp_abs (fun w1 => Box3 B w w1 #[.slice oa (dig a).length ca, .slice ob (dig b).length cb] #[.slice oc (dig c).length cc, .slice od (dig d).length cd] #[.slice none 0 0, .slice none 0 0] 90 90) BX (fun w1 B1 => ?_)
  have HB := Lib.hid hB
  have c1 := cell_of_row w1 B 0 _ _ _ B1.x
  have c2 := cell_of_row w1 B 1 _ _ _ B1.x
  have c3 := cell_of_row w1 (B + 1) 0 _ _ _ B1.y
  have c4 := cell_of_row w1 (B + 1) 1 _ _ _ B1.y
  have HB1 := Lib.hid B1
  clear BX hB B1
  refine Seg.wp_region_segs (fun w' => ∃ x : BelowT (B + 2) w1, w' = x.w) [([0, 1, 2, 3, 5, 6, 7, 8, 11, 12, 13, 14], 4), ([], 9), ([], 10)] [] 15 (by kernel_rfl) (by kernel_rfl) (fun _ _ d _ _ h => by cases d <;> exact h) (⟨⟨_, (Below.refl _ _).drew⟩, rfl⟩) ?_
  simp only [List.map_cons, List.map_nil, Seg.opAt, List.drop_succ_cons, List.drop_zero, Seg.wpSegs, Array.getD_eq_getD_getElem?, List.getElem?_toArray, List.getElem?_cons_succ, List.getElem?_cons_zero, Option.getD_some]
  repeat (any_goals (first | go_big_quiet_step (fail) | quiet_step (fail)))
  refine wpQuiet_nil ?_
  intro K hK
  simp only [Region.wanted, if_true]
  have hBs1 : B + 1 + 1 < w1.heap.size := lt_of_heap HB1.out.z
  have W1 := Lib.hid (show Below w.heap.size w w1 by rw [HB.out]; exact HB1.out.bel)
  have W1d := Lib.hid (show Below w.heap.size w w1.drew from W1.out.drew)
  go_wp2_with (go_at_call 90; refine (QN.out _ (HX.out.num.below W1d.out) (HY.out.den.below W1d.out)).mono ?_; rintro e w2 ⟨on, cn, rfl, hn, bel2⟩; have HN := Lib.hid hn; clear hn)
  have bel2' : Below w1.heap.size w1 w2 := undrew bel2
  refine hK _ _ ⟨⟨w2, bel2'.mono (by omega)⟩, rfl⟩ ?_
  have TB2 := Lib.hid (show Below (B + 2) w1 w2 from bel2'.mono (by omega))
  have W2 := Lib.hid (W1.out.trans (bel2'.mono W1.out.size))
  have HB2 := Lib.hid (HB1.out.keep (by omega) bel2')
  have hBs2 : B + 1 + 1 < w2.heap.size := lt_of_heap HB2.out.z
  clear hK K c1 c2 c3 c4 bel2 bel2' QN
  refine wpQuiet_nil ?_
  intro K hK
  simp only [Region.wanted, if_true]
  go_wp2_with (go_at_call 90; refine (QM.out w2 (HY.out.num.below W2.out) (HX.out.den.below W2.out)).mono ?_; rintro e w3 ⟨om, cm, rfl, hm, bel3⟩; have HM := Lib.hid hm; have HN3 := Lib.hid (HN.out.below bel3); clear hm)
  have bel3' := bel3
  refine hK _ _ ⟨⟨w3, (TB2.out).trans (bel3'.mono (by omega))⟩, rfl⟩ ?_
  have TB3 := Lib.hid (show Below (B + 2) w1 w3 from (TB2.out).trans (bel3'.mono (by omega)))
  have W3 := Lib.hid (W2.out.trans (bel3'.mono W2.out.size))
  have HB3 := Lib.hid (HB2.out.keep (by omega) bel3')
  have hBs3 : B + 1 + 1 < w3.heap.size := lt_of_heap HB3.out.z
  clear hK K bel3 bel3' QM
  refine wpQuiet_nil ?_
  intro K hK
  simp only [Region.wanted, if_true]
  go_wp2_with (go_at_call 174; refine (QA.out on om cn cm w3 HN3.out HM.out).mono ?_; rintro e w4 ⟨op, cp, rfl, hp0, bel4⟩; have HP := Lib.hid hp0; clear hp0)
  have bel4' := bel4
  refine hK _ _ ⟨⟨w4, (TB3.out).trans (bel4'.mono (by omega))⟩, rfl⟩ ?_
  have TB4 := Lib.hid (show Below (B + 2) w1 w4 from (TB3.out).trans (bel4'.mono (by omega)))
  have W4 := Lib.hid (W3.out.trans (bel4'.mono W3.out.size))
  have HB4 := Lib.hid (HB3.out.keep (by omega) bel4')
  have hBs4 : B + 1 + 1 < w4.heap.size := lt_of_heap HB4.out.z
  clear hK K bel4 bel4' QA
  repeat (any_goals (first | go_big_quiet_step (fail) | quiet_step (fail)))
  refine wpQuiet_nil ?_
  go_wp2_with (first
    | (go_at_call 90; refine (QD.out w4 (HX.out.den.below W4.out) (HY.out.den.below W4.out)).mono ?_; rintro e w5 ⟨oq, cq, rfl, hm, bel5⟩; have HQ := Lib.hid hm; have HB5 := Lib.hid (HB4.out.keep (by omega) bel5); have W5 := Lib.hid (W4.out.trans (bel5.mono W4.out.size)); have HP5 := Lib.hid (HP.out.below bel5); have hB5s : B + 1 + 1 < w5.heap.size := lt_of_heap HB5.out.z; clear hm bel5)
    | (go_at_call 89; refine (QL.out op oq cp cq w5 HP5.out HQ.out).mono ?_; rintro e w6 ⟨or, os, cr, cs, rfl, hr, bel6⟩; have HR := Lib.hid hr; have HB6 := Lib.hid (HB5.out.keep (by omega) bel6); have W6 := Lib.hid (W5.out.trans (bel6.mono W5.out.size)); clear hr bel6)
    | (refine wpList_store_whole rfl rfl 90 _ _ rfl (B + 1 + 1) #[.slice none 0 0, .slice none 0 0] #[.slice or (dig N).length cr, .slice os (dig D).length cs] 90 rfl rfl HB6.out.z rfl HS.out (two_slices _ _ _ _ _ _) ?_; intro w7 ho hp))
  refine bodyPost_ret (results_cell_row rfl _ w7 (B + 1 + 1) _ _ _ _ rfl hp Tryz.underlying90 rfl HS.out) rfl ⟨or, os, cr, cs, rfl, ⟨HR.out.num.spared HB6.out.z two_noInt ho, HR.out.den.spared HB6.out.z two_noInt ho⟩, bel_only W6.out ho (by rw [HB.out]; omega)⟩
set_option maxHeartbeats 4000000 in
set_option maxRecDepth 100000 in
theorem exFCmp_any (a b c d : Nat) (oa ob oc od : Option Addr) (ca cb cc cd : Nat) (w : World) (hX : LFr w a b oa ob) (hY : LFr w c d oc od) (l1 : (dig a).length < 274877906944) (l2 : (dig b).length < 274877906944) (l3 : (dig c).length < 274877906944) (l4 : (dig d).length < 274877906944) :
    Calls Tryz.prog 51 #[.agg #[.slice oa (dig a).length ca, .slice ob (dig b).length cb], .agg #[.slice oc (dig c).length cc, .slice od (dig d).length cd]] w fun e w' => e = .returned (.int .i64 (NL.cmpI (a * d) (c * b))) ∧ Below w.heap.size w w' := by
  have QN := Lib.hid (fun w h1 h2 => exMul_any a d oa od ca cd w h1 h2 (by omega) (by omega))
  have QD := Lib.hid (fun w h1 h2 => exMul_any c b oc ob cc cb w h1 h2 (by omega) (by omega))
  have m1 := length_mul a d
  have m2 := length_mul c b
  have QL := Lib.hid (fun on om cn cm w h1 h2 => exCmp_any (a * d) (c * b) on om cn cm w h1 h2 (by omega) (by omega))
  have HX := Lib.hid hX
  have HY := Lib.hid hY
  clear hX hY m1 m2
  go_enter Tryz.func51, Tryz.ntmps51
  go_upto_region 1 with (fail)
  have BX := Box2.mk' w #[.slice oa (dig a).length ca, .slice ob (dig b).length cb] #[.slice oc (dig c).length cc, .slice od (dig d).length cd] 90
  generalize hB : w.heap.size = B at *
  refine wp_abs (fun w1 => Box2 B w w1 #[.slice oa (dig a).length ca, .slice ob (dig b).length cb] #[.slice oc (dig c).length cc, .slice od (dig d).length cd] 90) BX (fun w1 B1 => ?_)
  have HB := Lib.hid hB
  have c1 := cell_of_row w1 B 0 _ _ _ B1.x
  have c2 := cell_of_row w1 B 1 _ _ _ B1.x
  have c3 := cell_of_row w1 (B + 1) 0 _ _ _ B1.y
  have c4 := cell_of_row w1 (B + 1) 1 _ _ _ B1.y
  have HB1 := Lib.hid B1
  clear BX hB B1
  refine Seg.wp_region_segs (fun w' => ∃ x : BelowT (B + 2) w1, w' = x.w) [([0, 1, 2, 3, 5, 6, 7, 8], 4)] [] 9 (by kernel_rfl) (by kernel_rfl) (fun _ _ d _ _ h => by cases d <;> exact h) (⟨⟨_, (Below.refl _ _).drew⟩, rfl⟩) ?_
  simp only [List.map_cons, List.map_nil, Seg.opAt, List.drop_succ_cons, List.drop_zero, Seg.wpSegs, Array.getD_eq_getD_getElem?, List.getElem?_toArray, List.getElem?_cons_succ, List.getElem?_cons_zero, Option.getD_some]
  repeat (any_goals (first | go_big_quiet_step (fail) | quiet_step (fail)))
  refine wpQuiet_nil ?_
  intro K hK
  simp only [Region.wanted, if_true]
  have hBs1 : B + 1 < w1.heap.size := lt_of_heap HB1.out.y
  have W1 := Lib.hid (show Below w.heap.size w w1 by rw [HB.out]; exact HB1.out.bel)
  have W1d := Lib.hid (show Below w.heap.size w w1.drew from W1.out.drew)
  go_wp2_with (go_at_call 90; refine (QN.out _ (HX.out.num.below W1d.out) (HY.out.den.below W1d.out)).mono ?_; rintro e w2 ⟨on, cn, rfl, hn, bel2⟩; have HN := Lib.hid hn; clear hn)
  have bel2' : Below w1.heap.size w1 w2 := undrew bel2
  refine hK _ _ ⟨⟨w2, bel2'.mono (by omega)⟩, rfl⟩ ?_
  have TB2 := Lib.hid (show Below (B + 2) w1 w2 from bel2'.mono (by omega))
  have W2 := Lib.hid (W1.out.trans (bel2'.mono W1.out.size))
  have HB2 := Lib.hid (HB1.out.keep (by omega) bel2')
  have hBs2 : B + 1 < w2.heap.size := lt_of_heap HB2.out.y
  clear hK K c1 c2 c3 c4 bel2 bel2' QN
  repeat (any_goals (first | go_big_quiet_step (fail) | quiet_step (fail)))
  refine wpQuiet_nil ?_
  go_wp2_with (first
    | (go_at_call 90; refine (QD.out w2 (HY.out.num.below W2.out) (HX.out.den.below W2.out)).mono ?_; rintro e w3 ⟨om, cm, rfl, hm, bel3⟩; have HM := Lib.hid hm; have W3 := Lib.hid (W2.out.trans (bel3.mono W2.out.size)); have HN3 := Lib.hid (HN.out.below bel3); clear hm bel3)
    | (go_at_call 95; refine (QL.out on om cn cm w3 HN3.out HM.out).mono ?_; rintro e w4 ⟨rfl, bel4⟩; have W4 := Lib.hid (W3.out.trans (bel4.mono W3.out.size)); clear bel4))
  go_ret
  exact ⟨rfl, W4.out⟩
end Go.Proofs.YtnohcdpnnhmpfaaGreatDoor
