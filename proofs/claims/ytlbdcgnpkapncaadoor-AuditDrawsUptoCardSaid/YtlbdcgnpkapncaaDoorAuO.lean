/-
  Chapter 14, for Draw: audit.steps.
-/
import Derived.Test.YtlbdcgnpkapncaaDoorAuN
namespace Go.Proofs.YtlbdcgnpkapncaaDoor
set_option linter.unusedVariables false
set_option linter.unusedSimpArgs false
open Go.RowKit ML FM NL

/-- a product of two fractions, in lowest terms -/
def tN (a b c d : Nat) : Nat := a * c / Nat.gcd (a * c) (b * d)
def tD (a b c d : Nat) : Nat := b * d / Nat.gcd (a * c) (b * d)
def mN (a b c d : Nat) : Nat := (a * d - c * b) / Nat.gcd (a * d - c * b) (b * d)
def mD (a b c d : Nat) : Nat := b * d / Nat.gcd (a * d - c * b) (b * d)
theorem mN_le (s t : Nat) : mN 1 1 s t ≤ t := Nat.le_trans (Nat.div_le_self _ _) (by omega)
theorem mD_le (s t : Nat) : mD 1 1 s t ≤ t := Nat.le_trans (Nat.div_le_self _ _) (by omega)
theorem mD_pos (s t : Nat) (ht : 0 < t) : 0 < mD 1 1 s t := Nat.div_pos (Nat.le_of_dvd (by omega) (Nat.gcd_dvd_right _ _)) (Nat.gcd_pos_of_pos_right _ (by omega))
theorem dig_le {x y : Nat} (h : x ≤ y) : (dig x).length ≤ (dig y).length := length_dig_le _ _ (Nat.lt_of_le_of_lt h (lt_pow_length y))
set_option maxHeartbeats 2000000 in
set_option maxRecDepth 100000 in
theorem audSteps_any (s t : Nat) (os ot : Option Addr) (cs ct : Nat) (w : World) (hS : LFr w s t os ot) (ht : 0 < t) (hle : s ≤ t) (l1 : (dig s).length < 1000000) (l2 : (dig t).length < 1000000) :
    Calls Tryd.prog 45 #[.agg #[.slice os (dig s).length cs, .slice ot (dig t).length ct]] w fun e w' => ∃ o1 o2 o3 o4 c1 c2 c3 c4, e = .returned (.tuple #[.agg #[.slice o1 (dig (tN 2 1 s t)).length c1, .slice o2 (dig (tD 2 1 s t)).length c2], .agg #[.slice o3 (dig (tN 2 1 (mN 1 1 s t) (mD 1 1 s t))).length c3, .slice o4 (dig (tD 2 1 (mN 1 1 s t) (mD 1 1 s t))).length c4]]) ∧ LFr w' (tN 2 1 s t) (tD 2 1 s t) o1 o2 ∧ LFr w' (tN 2 1 (mN 1 1 s t) (mD 1 1 s t)) (tD 2 1 (mN 1 1 s t) (mD 1 1 s t)) o3 o4 ∧ Below w.heap.size w w' := by
  have d1 : (dig 1).length ≤ 1 := length_dig_le 1 1 (by decide)
  have d2 : (dig 2).length ≤ 1 := length_dig_le 2 1 (by decide)
  have m1 := dig_le (mN_le s t)
  have m2 := dig_le (mD_le s t)
  have mp := mD_pos s t ht
  have QW2 := Lib.hid (fun w => exWhole_any 2 w (by decide))
  have QW1 := Lib.hid (fun w => exWhole_any 1 w (by decide))
  have QU := Lib.hid (fun oa ob ca cb w h1 h2 => exFTimes_any 2 1 s t oa ob os ot ca cb cs ct w h1 h2 (by omega) (by omega) (by omega) (by omega) (by omega))
  have QM := Lib.hid (fun oa ob ca cb w h1 h2 => exFMinus_any 1 1 s t oa ob os ot ca cb cs ct w h1 h2 (by omega) (by omega) (by omega) (by omega) (by omega) (by omega))
  have QD := Lib.hid (fun oa ob oc od ca cb cc cd w h1 h2 => exFTimes_any 2 1 (mN 1 1 s t) (mD 1 1 s t) oa ob oc od ca cb cc cd w h1 h2 (by omega) (by omega) (by omega) (by omega) (by omega))
  have HS := Lib.hid size_lfr
  have HX := Lib.hid hS
  change Hid (∀ oa ob ca cb w _ _, Calls _ _ _ w (fun e w' => ∃ on om cn cm, e = .returned (.agg #[.slice on (dig (tN 2 1 s t)).length cn, .slice om (dig (tD 2 1 s t)).length cm]) ∧ LFr w' (tN 2 1 s t) (tD 2 1 s t) on om ∧ Below w.heap.size w w')) at QU
  change Hid (∀ oa ob ca cb w _ _, Calls _ _ _ w (fun e w' => ∃ on om cn cm, e = .returned (.agg #[.slice on (dig (mN 1 1 s t)).length cn, .slice om (dig (mD 1 1 s t)).length cm]) ∧ LFr w' (mN 1 1 s t) (mD 1 1 s t) on om ∧ Below w.heap.size w w')) at QM
  generalize mN 1 1 s t = MN at *
  generalize mD 1 1 s t = MD at *
  change Hid (∀ oa ob oc od ca cb cc cd w _ _, Calls _ _ _ w (fun e w' => ∃ on om cn cm, e = .returned (.agg #[.slice on (dig (tN 2 1 MN MD)).length cn, .slice om (dig (tD 2 1 MN MD)).length cm]) ∧ LFr w' (tN 2 1 MN MD) (tD 2 1 MN MD) on om ∧ Below w.heap.size w w')) at QD
  generalize tN 2 1 s t = UN at *
  generalize tD 2 1 s t = UD at *
  generalize tN 2 1 MN MD = DN at *
  generalize tD 2 1 MN MD = DD at *
  clear d1 d2 m1 m2 mp hS ht hle l1 l2
  generalize hl2 : (dig 2).length = l2' at *
  generalize hl1 : (dig 1).length = l1' at *
  clear hl2 hl1
  go_enter Tryd.func45, Tryd.ntmps45
  go_upto_region 1 with (fail)
  have BX := Box3.mk' w #[.slice os (dig s).length cs, .slice ot (dig t).length ct] #[.slice none 0 0, .slice none 0 0] #[.slice none 0 0, .slice none 0 0] 53 53
  generalize hB : w.heap.size = B at *
  refine wp_abs (fun w1 => Box3 B w w1 #[.slice os (dig s).length cs, .slice ot (dig t).length ct] #[.slice none 0 0, .slice none 0 0] #[.slice none 0 0, .slice none 0 0] 53 53) BX (fun w1 B1 => ?_)
  have HB := Lib.hid hB
  have hBs1 : B + 1 + 1 < w1.heap.size := lt_of_heap B1.z
  have HB1 := Lib.hid B1
  clear BX hB B1
  go_upto_region 2 with (first
    | (go_at_call 28; refine (QW2.out w1).mono ?_; rintro e w2 ⟨p1, p2, k1, k2, rfl, hF, b2⟩)
    | (refine wpList_store_whole rfl rfl 53 _ _ rfl w2.heap.size #[.slice none 0 0, .slice none 0 0] #[.slice p1 l2' k1, .slice p2 l1' k2] 53 rfl rfl (heap_at rfl) rfl HS.out (two_slices _ _ _ _ _ _) ?_; intro w3 ho hp))
  have b23 : Below w2.heap.size w2 w3 := bel_only ((Below.refl _ _).alloc (Nat.le_refl _) _) ho (Nat.le_refl _)
  have b13 := b2.trans (b23.mono b2.size)
  have HB3 := Lib.hid (HB1.out.keep (by omega) b13)
  have HF3 := Lib.hid (hF.below b23)
  have HP3 := Lib.hid hp
  have W3 := Lib.hid (show Below w.heap.size w w3 by rw [HB.out]; exact HB3.out.bel)
  have HX3 := Lib.hid (HX.out.below W3.out)
  clear hF b2 b23 b13 ho hp HB1 hBs1 HX QW2
  generalize w2.heap.size = E at *
  obtain ⟨M, hM⟩ : ∃ M, M = w3.heap.size := ⟨_, rfl⟩
  have hEM : E < M := by rw [hM]; exact lt_of_heap HP3.out
  have hBM : B < M := by rw [hM]; exact lt_of_heap HB3.out.x
  have HM := Lib.hid hM
  clear hM
  refine Seg.wp_region_segs (fun w' => ∃ x : BelowT M w3, w' = x.w) [([0, 1, 3, 5], 2), ([], 4), ([], 6)] [] 7 (by kernel_rfl) (by kernel_rfl) (fun _ _ d _ _ h => by cases d <;> exact h) (⟨⟨w3.drew, by rw [HM.out]; exact (Below.refl _ _).drew⟩, rfl⟩) ?_
  simp only [List.map_cons, List.map_nil, Seg.opAt, List.drop_succ_cons, List.drop_zero, Seg.wpSegs, Array.getD_eq_getD_getElem?, List.getElem?_toArray, List.getElem?_cons_succ, List.getElem?_cons_zero, Option.getD_some]
  refine wpQuiet_load_at rfl 53 _ rfl ⟨E, 0, none⟩ [.slice p1 l2' k1, .slice p2 l1' k2] _ rfl (fun w' hw' => by obtain ⟨x, rfl⟩ := hw'; exact news_blk (bel_keep x.2 hEM HP3.out)) Tryd.underlying53 rfl HS.out ?_
  refine wpQuiet_load_at rfl 53 _ rfl ⟨B, 0, none⟩ [.slice os (dig s).length cs, .slice ot (dig t).length ct] _ rfl (fun w' hw' => by obtain ⟨x, rfl⟩ := hw'; exact news_blk (bel_keep x.2 hBM HB3.out.x)) Tryd.underlying53 rfl HS.out ?_
  refine wpQuiet_load_at rfl 53 _ rfl ⟨E, 0, none⟩ [.slice p1 l2' k1, .slice p2 l1' k2] _ rfl (fun w' hw' => by obtain ⟨x, rfl⟩ := hw'; exact news_blk (bel_keep x.2 hEM HP3.out)) Tryd.underlying53 rfl HS.out ?_
  refine wpQuiet_load_at rfl 53 _ rfl ⟨B, 0, none⟩ [.slice os (dig s).length cs, .slice ot (dig t).length ct] _ rfl (fun w' hw' => by obtain ⟨x, rfl⟩ := hw'; exact news_blk (bel_keep x.2 hBM HB3.out.x)) Tryd.underlying53 rfl HS.out ?_
  refine wpQuiet_nil ?_
  intro K hK
  first | go_simp | skip
  go_wp2_with (go_at_call 46; refine (QU.out p1 p2 k1 k2 w3.drew (HF3.out.below (Below.refl _ _).drew) (HX3.out.below (Below.refl _ _).drew)).mono ?_; rintro e wa ⟨o1, o2, c1, c2, rfl, hU, ba⟩)
  have Ba := Lib.hid (undrew ba)
  have HU := Lib.hid hU
  refine hK _ _ ⟨⟨wa, by rw [HM.out]; exact Ba.out⟩, rfl⟩ ?_
  clear hK K hU ba
  repeat (any_goals (first | go_big_quiet_step (fail) | quiet_step (fail)))
  refine wpQuiet_nil ?_
  intro K hK
  first | go_simp | skip
  go_wp2_with (go_at_call 28; refine (QW1.out wa).mono ?_; rintro e wb ⟨q1, q2, k3, k4, rfl, hO, bb⟩)
  have Bb := Lib.hid (Ba.out.trans (bb.mono Ba.out.size))
  have HO := Lib.hid hO
  have HU2 := Lib.hid (HU.out.below bb)
  refine hK _ _ ⟨⟨wb, by rw [HM.out]; exact Bb.out⟩, rfl⟩ ?_
  clear hK K hO bb HU
  repeat (any_goals (first | go_big_quiet_step (fail) | quiet_step (fail)))
  refine wpQuiet_nil ?_
  intro K hK
  first | go_simp | skip
  go_wp2_with (go_at_call 75; refine (QM.out q1 q2 k3 k4 wb HO.out (HX3.out.below Bb.out)).mono ?_; rintro e wc ⟨r1, r2, k5, k6, rfl, hR, bc⟩)
  have Bc := Lib.hid (Bb.out.trans (bc.mono Bb.out.size))
  have HR := Lib.hid hR
  have HU3 := Lib.hid (HU2.out.below bc)
  refine hK _ _ ⟨⟨wc, by rw [HM.out]; exact Bc.out⟩, rfl⟩ ?_
  clear hK K hR bc HU2
  repeat (any_goals (first | go_big_quiet_step (fail) | quiet_step (fail)))
  refine wpQuiet_nil ?_
  go_wp2_with (first
    | (go_at_call 46; refine (QD.out p1 p2 r1 r2 k1 k2 k5 k6 wc (HF3.out.below Bc.out) HR.out).mono ?_; rintro e wd ⟨o3, o4, c3, c4, rfl, hD, bd⟩; have Bd := Lib.hid (Bc.out.trans (bd.mono Bc.out.size)); have HD := Lib.hid hD; have HU4 := Lib.hid (HU3.out.below bd); have HBd := Lib.hid (HB3.out.keep (Nat.le_of_lt (lt_of_heap HB3.out.x)) Bd.out); clear hD bd)
    | (refine wpList_store_whole rfl rfl 53 _ _ rfl (B + 1) #[.slice none 0 0, .slice none 0 0] #[.slice o1 (dig UN).length c1, .slice o2 (dig UD).length c2] 53 rfl rfl HBd.out.y rfl HS.out (two_slices _ _ _ _ _ _) ?_; intro w8 ho8 hp8)
    | (refine wpList_store_whole rfl rfl 53 _ _ rfl (B + 1 + 1) #[.slice none 0 0, .slice none 0 0] #[.slice o3 (dig DN).length c3, .slice o4 (dig DD).length c4] 53 rfl rfl ((ho8.block _ (by omega)).trans HBd.out.z) rfl HS.out (two_slices _ _ _ _ _ _) ?_; intro w9 ho9 hp9))
  have hz := (ho8.block (B + 1 + 1) (by omega)).trans HBd.out.z
  refine bodyPost_ret (results_cell_cell rfl _ w9 (B + 1) (B + 1 + 1) _ _ _ _ _ _ _ rfl rfl ((ho9.block _ (by omega)).trans hp8) hp9 Tryd.underlying53 rfl HS.out HS.out) rfl ⟨o1, o2, o3, o4, c1, c2, c3, c4, rfl, ⟨(HU4.out.num.spared HBd.out.y two_noInt ho8).spared hz two_noInt ho9, (HU4.out.den.spared HBd.out.y two_noInt ho8).spared hz two_noInt ho9⟩, ⟨(HD.out.num.spared HBd.out.y two_noInt ho8).spared hz two_noInt ho9, (HD.out.den.spared HBd.out.y two_noInt ho8).spared hz two_noInt ho9⟩, bel_only (bel_only (by rw [HB.out]; exact HBd.out.bel) ho8 (by rw [HB.out]; omega)) ho9 (by rw [HB.out]; omega)⟩
end Go.Proofs.YtlbdcgnpkapncaaDoor
