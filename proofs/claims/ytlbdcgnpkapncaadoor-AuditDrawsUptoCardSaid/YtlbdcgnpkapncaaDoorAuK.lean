/-
  Chapter 14: the risk, of both. Printed by tools/genrisk.py.
-/
import Derived.Test.YtlbdcgnpkapncaaDoorAuW
namespace Go.Proofs.YtlbdcgnpkapncaaDoor
set_option linter.unusedVariables false
set_option linter.unusedSimpArgs false
open Go.RowKit ML FM
/-- what is told of a risk -/
def riskE (N D : Bytes) : Int := if frB 100 N D then (if dv N = 0 ∨ dv D < dv N then 4 else 0) else 2
theorem frB_len {N D : Bytes} (h : frB 100 N D = true) : N.length ≤ 100 ∧ D.length ≤ 100 := by
  have := (frB_good h).2.2.2.2 (by decide)
  omega
theorem len_zero (n : Nat) : (((NL.dig n).length : Int) == 0) = decide (n = 0) := by
  by_cases h : n = 0
  · subst h; rw [NL.dig_zero]; rfl
  · rw [decide_eq_false h, beq_eq_false_iff_ne]
    intro h0
    have h1 : (NL.dig n).length = 0 := by omega
    have := NL.lt_pow_length n
    rw [h1] at this
    omega
section
open NL
def ARGot (N D : Bytes) (w : World) (e : Ending) (w' : World) : Prop :=
  ∃ on nn cn od nd cd, e = .returned (.tuple #[.agg #[.slice on nn cn, .slice od nd cd], .int .i64 (riskE N D)]) ∧ (frB 100 N D = true → nn = (dig (dv N)).length ∧ nd = (dig (dv D)).length ∧ LFr w' (dv N) (dv D) on od) ∧ Below w.heap.size w w'
set_option maxHeartbeats 2000000 in
set_option maxRecDepth 100000 in
theorem audRisk_any (N D : Bytes) (w : World) (hN : N.length < 140737488355328) (hD : D.length < 140737488355328) :
    Calls Tryd.prog 25 #[.agg #[.string ⟨N.toArray⟩, .string ⟨D.toArray⟩]] w (ARGot N D w) := by
  have QF := Lib.hid (fun w => audFrac_any 100 N D w hN hD (.inr (by decide)))
  have HS := Lib.hid size_lfr
  obtain ⟨R, hR⟩ : ∃ R, R = riskE N D := ⟨_, rfl⟩
  unfold ARGot
  rw [← hR]
  have HR := Lib.hid hR
  unfold AFGot at QF
  clear hN hD hR
  go_enter Tryd.func25, Tryd.ntmps25
  go_upto_region 1 with (fail)
  have BX := BoxR.mk' w #[.string ⟨N.toArray⟩, .string ⟨D.toArray⟩] #[.slice none 0 0, .slice none 0 0] 24 53
  generalize hB : w.heap.size = B at *
  refine wp_abs (fun w1 => BoxR B w w1 #[.string ⟨N.toArray⟩, .string ⟨D.toArray⟩] #[.slice none 0 0, .slice none 0 0] 24 53) BX (fun w1 B1 => ?_)
  have HB := Lib.hid hB
  have c1 := cell_of_row w1 B 0 _ _ _ B1.x
  have c2 := cell_of_row w1 B 1 _ _ _ B1.x
  have hBs1 : B + 1 < w1.heap.size := lt_of_heap B1.z
  have HB1 := Lib.hid B1
  clear BX hB B1
  go_upto_region 2 with (first
    | (go_at_call 70; refine (QF.out w1).mono ?_; rintro e w2 ⟨on, nn, cn, od, nd, cd, rfl, hg, b2⟩)
    | (refine wpList_store_whole rfl rfl 53 _ _ rfl w2.heap.size #[.slice none 0 0, .slice none 0 0] #[.slice on nn cn, .slice od nd cd] 53 rfl rfl (heap_at rfl) rfl HS.out (two_slices _ _ _ _ _ _) ?_; intro w6 ho hp))
  have b6 : Below w2.heap.size w2 w6 := bel_only ((Below.refl _ _).alloc (Nat.le_refl _) _) ho (Nat.le_refl _)
  have b16 := b2.trans (b6.mono b2.size)
  have HB6 := Lib.hid (HB1.out.keep (by omega) b16)
  have HG6 := Lib.hid (show frB 100 N D = true → nn = (dig (dv N)).length ∧ nd = (dig (dv D)).length ∧ LFr w6 (dv N) (dv D) on od from fun h => ⟨(hg h).1, (hg h).2.1, (hg h).2.2.below b6⟩)
  have hne : B + 1 < w2.heap.size := Nat.lt_of_lt_of_le hBs1 b2.size
  have BL6 := Lib.hid (show Below B w w6 from HB6.out.bel)
  clear hg b2 b6 b16 ho HB1 QF c1 c2 hBs1
  generalize w2.heap.size = E at *
  obtain ⟨M, hM⟩ : ∃ M, M = w6.heap.size := ⟨_, rfl⟩
  have hEM : E < M := by rw [hM]; exact lt_of_heap hp
  have hBM : B + 1 < M := by omega
  have hEB : E ≠ B + 1 := by omega
  have HM := Lib.hid hM
  have hBM' : B + 1 < w6.heap.size := by rw [← hM]; exact hBM
  have e0 : w6.cell? ⟨E, 0, none⟩ = some (.slice on nn cn) := cell_of_row w6 E 0 _ _ _ hp
  have e1 : w6.cell? ⟨E, 1, none⟩ = some (.slice od nd cd) := cell_of_row w6 E 1 _ _ _ hp
  have b0 : w6.cell? ⟨B, 0, none⟩ = some (.string ⟨N.toArray⟩) := cell_of_row w6 B 0 _ _ _ HB6.out.x
  have b1 : w6.cell? ⟨B, 1, none⟩ = some (.string ⟨D.toArray⟩) := cell_of_row w6 B 1 _ _ _ HB6.out.x
  have HP6 := Lib.hid hp
  clear hM hp
  cases hf : frB 100 N D with
  | false =>
    have HR5 := Lib.hid (show R = 2 by rw [HR.out]; unfold riskE; rw [hf]; rfl)
    have HFF := Lib.hid hf
    clear hf HR HG6
    go_wp2_with (refine wpList_store_whole rfl rfl 53 _ _ rfl (B + 1) #[.slice none 0 0, .slice none 0 0] #[.slice on nn cn, .slice od nd cd] 53 rfl rfl HB6.out.z rfl HS.out (two_slices _ _ _ _ _ _) ?_; intro w9 ho hp)
    refine bodyPost_ret (results_cell_tmp rfl _ w9 (B + 1) _ _ _ _ _ rfl rfl hp Tryd.underlying53 rfl HS.out) rfl ⟨on, nn, cn, od, nd, cd, by rw [HR5.out]; rfl, fun h => by (rw [HFF.out] at h; cases h), bel_only (by rw [HB.out]; exact BL6.out) ho (by rw [HB.out]; omega)⟩
  | true =>
  have hfl := frB_len hf
  obtain ⟨n1, n2, hd0, _, _⟩ := frB_good hf
  have gN := ((numB_iff N).1 n1).2.1
  have gD := ((numB_iff D).1 n2).2.1
  have lN : (dig (dv N)).length < 274877906944 := Nat.lt_of_le_of_lt (limbs_dv N gN) (by omega)
  have lD : (dig (dv D)).length < 274877906944 := Nat.lt_of_le_of_lt (limbs_dv D gD) (by omega)
  have l1 : (dig 1).length < 274877906944 := Nat.lt_of_le_of_lt (length_dig_le 1 1 (by decide)) (by omega)
  obtain ⟨rfl, rfl, hF⟩ := HG6.out hf
  have HF6 := Lib.hid hF
  have HRR := Lib.hid (show R = if dv N = 0 ∨ dv D < dv N then 4 else 0 by rw [HR.out]; unfold riskE; rw [hf]; rfl)
  have QC := Lib.hid (fun oc od2 cc cd2 w hX hY => exFCmp_any (dv N) (dv D) 1 1 on od oc od2 cn cd cc cd2 w hX hY lN lD l1 l1)
  have hz : (((dig (dv N)).length : Int) == 0) = decide (dv N = 0) := len_zero _
  clear hF HG6 HR hfl gN gD lN lD l1 n2
  have QZ := Lib.hid (fun o c w => exZero_any o (dig (dv N)).length c w)
  rw [hz] at QZ
  have QW := Lib.hid exWhole1_any
  clear hz
  clear hf n1
  generalize hnn : dv N = n at *
  generalize hdd : dv D = d at *
  have HNN := Lib.hid hnn
  have HDD := Lib.hid hdd
  clear hnn hdd
  simp only [Nat.mul_one, Nat.one_mul] at QC
  obtain ⟨c, hc⟩ : ∃ c, c = decide (n = 0 ∨ d < n) := ⟨_, rfl⟩
  have HC := Lib.hid hc
  have HRC := Lib.hid (show R = if c then 4 else 0 by rw [HRR.out, hc]; by_cases h : n = 0 ∨ d < n <;> simp [h])
  clear hc HRR
  go_upto_region 4 with (fail)
  go_cut [15] (fun v w' => v = .bool c ∧ Below w6.heap.size w6 w')
  case first =>
    have hwd : ∃ x : BelowT M w6, w6.drew = x.w := ⟨⟨w6.drew, by rw [HM.out]; exact (Below.refl _ _).drew⟩, rfl⟩
    have hB0 : B < M := by omega
    by_cases hn0 : n = 0
    · have hcc := Lib.hid (show c = true by rw [HC.out]; exact decide_eq_true (.inl hn0))
      rw [decide_eq_true hn0] at QZ
      clear hn0
      refine Seg.wp_region_segs (fun w' => ∃ x : BelowT M w6, w' = x.w) [([0, 1], 2), ([3, 4], 5)] [] 6 (by kernel_rfl) (by kernel_rfl) (fun _ _ d _ _ h => by cases d <;> exact h) (hwd) ?_
      simp only [List.map_cons, List.map_nil, Seg.opAt, List.drop_succ_cons, List.drop_zero, Seg.wpSegs, Array.getD_eq_getD_getElem?, List.getElem?_toArray, List.getElem?_cons_succ, List.getElem?_cons_zero, Option.getD_some]
      repeat (any_goals (first | go_big_quiet_step (fail) | quiet_step (fail)))
      refine wpQuiet_nil ?_
      intro K hK
      simp only [Region.wanted, if_true]
      go_wp2_with (go_at_call 57; refine (QZ.out on cn w6.drew).mono ?_; rintro e w7 ⟨rfl, rfl⟩)
      refine hK _ _ hwd ?_
      clear hK K
      repeat (any_goals (first | go_big_quiet_step (fail) | quiet_step (fail)))
      refine wpQuiet_nil ?_
      first | (intro K hK) | skip
      first | go_simp | skip
      refine hK _ _ hwd ?_
      clear hK K
      repeat (any_goals (first | go_big_quiet_step (fail) | quiet_step (fail)))
      refine wpQuiet_nil ?_
      go_wp2_with fail
      go_meet
      exact ⟨by rw [hcc.out], (Below.refl _ _).drew⟩
    · rw [decide_eq_false hn0] at QZ
      refine Seg.wp_region_segs (fun w' => ∃ x : BelowT M w6, w' = x.w) [([0, 1], 2), ([3, 4], 5)] [] 6 (by kernel_rfl) (by kernel_rfl) (fun _ _ d _ _ h => by cases d <;> exact h) (hwd) ?_
      simp only [List.map_cons, List.map_nil, Seg.opAt, List.drop_succ_cons, List.drop_zero, Seg.wpSegs, Array.getD_eq_getD_getElem?, List.getElem?_toArray, List.getElem?_cons_succ, List.getElem?_cons_zero, Option.getD_some]
      first | go_big_quiet_step (fail) | quiet_step (fail)
      first | go_big_quiet_step (fail) | quiet_step (fail)
      refine wpQuiet_nil ?_
      intro K hK
      simp only [Region.wanted, if_true]
      go_wp2_with (go_at_call 57; refine (QZ.out on cn w6.drew).mono ?_; rintro e w7 ⟨rfl, rfl⟩)
      refine hK _ _ hwd ?_
      clear hK K
      first | go_big_quiet_step (fail) | quiet_step (fail)
      refine wpQuiet_load_at rfl 53 _ rfl ⟨E, 0, none⟩ [.slice on (dig n).length cn, .slice od (dig d).length cd] _ rfl (fun w' hw' => by obtain ⟨x, rfl⟩ := hw'; exact news_blk (bel_keep x.2 hEM HP6.out)) Tryd.underlying53 rfl HS.out ?_
      refine wpQuiet_nil ?_
      intro K hK
      first | go_simp | skip
      go_wp2_with (go_at_call 28; refine (QW.out w6.drew).mono ?_; rintro e w7 ⟨oc, od2, cc, cd2, rfl, hW, b7⟩)
      have B7 := Lib.hid (undrew b7)
      refine hK _ _ ⟨⟨w7, by rw [HM.out]; exact B7.out⟩, rfl⟩ ?_
      have HW := Lib.hid hW
      clear hK K hW b7
      repeat (any_goals (first | go_big_quiet_step (fail) | quiet_step (fail)))
      refine wpQuiet_nil ?_
      by_cases hlt : d < n
      · have hcc := Lib.hid (show c = true by rw [HC.out]; exact decide_eq_true (.inr hlt))
        rw [NL.cmpI_gt hlt] at QC
        go_wp2_with (go_at_call 51; refine (QC.out oc od2 cc cd2 w7 (HF6.out.below B7.out) HW.out).mono ?_; rintro e w8 ⟨rfl, b8⟩)
        go_meet
        exact ⟨by rw [hcc.out], B7.out.trans (b8.mono B7.out.size)⟩
      · have hcc := Lib.hid (show c = false by rw [HC.out]; exact decide_eq_false (by omega))
        have hle : decide (0 < NL.cmpI n d) = false := by
          rcases Nat.lt_or_eq_of_le (Nat.le_of_not_lt hlt) with h | h
          · rw [NL.cmpI_lt h]; rfl
          · rw [h, NL.cmpI_eq]; rfl
        generalize NL.cmpI n d = k at *
        go_wp2_with (go_at_call 51; refine (QC.out oc od2 cc cd2 w7 (HF6.out.below B7.out) HW.out).mono ?_; rintro e w8 ⟨rfl, b8⟩)
        go_meet
        exact ⟨by rw [hcc.out], B7.out.trans (b8.mono B7.out.size)⟩
  case rest =>
  generalize wc = w8 at *
  obtain ⟨rfl, b8⟩ := hcut
  have HB8 := Lib.hid (HB6.out.keep (by omega) b8)
  have HP8 := Lib.hid (bel_keep b8 (by rw [← HM.out]; exact hEM) HP6.out)
  have HF8 := Lib.hid (HF6.out.below b8)
  have e0' : w8.cell? ⟨E, 0, none⟩ = some (.slice on (dig n).length cn) := cell_of_row w8 E 0 _ _ _ HP8.out
  have e1' : w8.cell? ⟨E, 1, none⟩ = some (.slice od (dig d).length cd) := cell_of_row w8 E 1 _ _ _ HP8.out
  have hB8 : B + 1 < w8.heap.size := lt_of_heap HB8.out.z
  clear e0 e1 b0 b1 HB6 HP6 b8 HF6 QC
  cases hcc : c with
  | true =>
    have HR5 := Lib.hid (show R = 4 by rw [HRC.out, hcc]; rfl)
    clear HC HRC hcc
    go_wp2_with (refine wpList_store_whole rfl rfl 53 _ _ rfl (B + 1) #[.slice none 0 0, .slice none 0 0] #[.slice on (dig n).length cn, .slice od (dig d).length cd] 53 rfl rfl HB8.out.z rfl HS.out (two_slices _ _ _ _ _ _) ?_; intro w9 ho hp)
    refine bodyPost_ret (results_cell_tmp rfl _ w9 (B + 1) _ _ _ _ _ rfl rfl hp Tryd.underlying53 rfl HS.out) rfl ⟨on, (dig n).length, cn, od, (dig d).length, cd, by rw [HR5.out]; rfl, fun _ => by rw [HNN.out, HDD.out]; exact ⟨rfl, rfl, HF8.out.num.spared HB8.out.z two_noInt ho, HF8.out.den.spared HB8.out.z two_noInt ho⟩, bel_only (by rw [HB.out]; exact HB8.out.bel) ho (by rw [HB.out]; omega)⟩
  | false =>
    have HR5 := Lib.hid (show R = 0 by rw [HRC.out, hcc]; rfl)
    clear HC HRC hcc
    go_wp2_with (refine wpList_store_whole rfl rfl 53 _ _ rfl (B + 1) #[.slice none 0 0, .slice none 0 0] #[.slice on (dig n).length cn, .slice od (dig d).length cd] 53 rfl rfl HB8.out.z rfl HS.out (two_slices _ _ _ _ _ _) ?_; intro w9 ho hp)
    refine bodyPost_ret (results_cell_tmp rfl _ w9 (B + 1) _ _ _ _ _ rfl rfl hp Tryd.underlying53 rfl HS.out) rfl ⟨on, (dig n).length, cn, od, (dig d).length, cd, by rw [HR5.out]; rfl, fun _ => by rw [HNN.out, HDD.out]; exact ⟨rfl, rfl, HF8.out.num.spared HB8.out.z two_noInt ho, HF8.out.den.spared HB8.out.z two_noInt ho⟩, bel_only (by rw [HB.out]; exact HB8.out.bel) ho (by rw [HB.out]; omega)⟩
end
theorem text_zero {N : Bytes} (h : numB N = true) : (N == [48]) = decide (dv N = 0) := by
  by_cases h0 : dv N = 0
  · rw [decide_eq_true h0, (zero_text h).1 h0]; rfl
  · rw [decide_eq_false h0, beq_eq_false_iff_ne]; exact fun h1 => h0 ((zero_text h).2 h1)
section
open ND
def RRGot (N D : Bytes) (w : World) (e : Ending) (w' : World) : Prop :=
  ∃ on nn cn od nd cd, e = .returned (.tuple #[.agg #[.slice on nn cn, .slice od nd cd], .int .i64 (riskE N D)]) ∧ (frB 100 N D = true → nn = (dig (dv N)).length ∧ nd = (dig (dv D)).length ∧ NFr w' (dv N) (dv D) on od) ∧ Below w.heap.size w w'
set_option maxHeartbeats 2000000 in
set_option maxRecDepth 100000 in
theorem refRisk_any (N D : Bytes) (w : World) (hN : N.length < 140737488355328) (hD : D.length < 140737488355328) :
    Calls Tryd.prog 30 #[.agg #[.string ⟨N.toArray⟩, .string ⟨D.toArray⟩]] w (RRGot N D w) := by
  have QF := Lib.hid (fun w => refFrac_any 100 N D w hN hD (.inr (by decide)))
  have HS := Lib.hid size_nfr
  obtain ⟨R, hR⟩ : ∃ R, R = riskE N D := ⟨_, rfl⟩
  unfold RRGot
  rw [← hR]
  have HR := Lib.hid hR
  unfold RFGot at QF
  clear hN hD hR
  go_enter Tryd.func30, Tryd.ntmps30
  go_upto_region 1 with (fail)
  have BX := BoxR.mk' w #[.string ⟨N.toArray⟩, .string ⟨D.toArray⟩] #[.slice none 0 0, .slice none 0 0] 24 63
  generalize hB : w.heap.size = B at *
  refine wp_abs (fun w1 => BoxR B w w1 #[.string ⟨N.toArray⟩, .string ⟨D.toArray⟩] #[.slice none 0 0, .slice none 0 0] 24 63) BX (fun w1 B1 => ?_)
  have HB := Lib.hid hB
  have c1 := cell_of_row w1 B 0 _ _ _ B1.x
  have c2 := cell_of_row w1 B 1 _ _ _ B1.x
  have hBs1 : B + 1 < w1.heap.size := lt_of_heap B1.z
  have HB1 := Lib.hid B1
  clear BX hB B1
  go_upto_region 2 with (first
    | (go_at_call 47; refine (QF.out w1).mono ?_; rintro e w2 ⟨on, nn, cn, od, nd, cd, rfl, hg, b2⟩)
    | (refine wpList_store_whole rfl rfl 63 _ _ rfl w2.heap.size #[.slice none 0 0, .slice none 0 0] #[.slice on nn cn, .slice od nd cd] 63 rfl rfl (heap_at rfl) rfl HS.out (two_slices _ _ _ _ _ _) ?_; intro w6 ho hp))
  have b6 : Below w2.heap.size w2 w6 := bel_only ((Below.refl _ _).alloc (Nat.le_refl _) _) ho (Nat.le_refl _)
  have b16 := b2.trans (b6.mono b2.size)
  have HB6 := Lib.hid (HB1.out.keep (by omega) b16)
  have HG6 := Lib.hid (show frB 100 N D = true → nn = (dig (dv N)).length ∧ nd = (dig (dv D)).length ∧ NFr w6 (dv N) (dv D) on od from fun h => ⟨(hg h).1, (hg h).2.1, (hg h).2.2.below b6⟩)
  have hne : B + 1 < w2.heap.size := Nat.lt_of_lt_of_le hBs1 b2.size
  have BL6 := Lib.hid (show Below B w w6 from HB6.out.bel)
  clear hg b2 b6 b16 ho HB1 QF c1 c2 hBs1
  generalize w2.heap.size = E at *
  obtain ⟨M, hM⟩ : ∃ M, M = w6.heap.size := ⟨_, rfl⟩
  have hEM : E < M := by rw [hM]; exact lt_of_heap hp
  have hBM : B + 1 < M := by omega
  have hEB : E ≠ B + 1 := by omega
  have HM := Lib.hid hM
  have hBM' : B + 1 < w6.heap.size := by rw [← hM]; exact hBM
  have e0 : w6.cell? ⟨E, 0, none⟩ = some (.slice on nn cn) := cell_of_row w6 E 0 _ _ _ hp
  have e1 : w6.cell? ⟨E, 1, none⟩ = some (.slice od nd cd) := cell_of_row w6 E 1 _ _ _ hp
  have b0 : w6.cell? ⟨B, 0, none⟩ = some (.string ⟨N.toArray⟩) := cell_of_row w6 B 0 _ _ _ HB6.out.x
  have b1 : w6.cell? ⟨B, 1, none⟩ = some (.string ⟨D.toArray⟩) := cell_of_row w6 B 1 _ _ _ HB6.out.x
  have HP6 := Lib.hid hp
  clear hM hp
  cases hf : frB 100 N D with
  | false =>
    have HR5 := Lib.hid (show R = 2 by rw [HR.out]; unfold riskE; rw [hf]; rfl)
    have HFF := Lib.hid hf
    clear hf HR HG6
    go_wp2_with (refine wpList_store_whole rfl rfl 63 _ _ rfl (B + 1) #[.slice none 0 0, .slice none 0 0] #[.slice on nn cn, .slice od nd cd] 63 rfl rfl HB6.out.z rfl HS.out (two_slices _ _ _ _ _ _) ?_; intro w9 ho hp)
    refine bodyPost_ret (results_cell_tmp rfl _ w9 (B + 1) _ _ _ _ _ rfl rfl hp Tryd.underlying63 rfl HS.out) rfl ⟨on, nn, cn, od, nd, cd, by rw [HR5.out]; rfl, fun h => by (rw [HFF.out] at h; cases h), bel_only (by rw [HB.out]; exact BL6.out) ho (by rw [HB.out]; omega)⟩
  | true =>
  have hfl := frB_len hf
  obtain ⟨n1, n2, hd0, _, _⟩ := frB_good hf
  have gN := ((numB_iff N).1 n1).2.1
  have gD := ((numB_iff D).1 n2).2.1
  have lN : (dig (dv N)).length < 274877906944 := Nat.lt_of_le_of_lt (dig_text N gN) (by omega)
  have lD : (dig (dv D)).length < 274877906944 := Nat.lt_of_le_of_lt (dig_text D gD) (by omega)
  have l1 : (dig 1).length < 274877906944 := Nat.lt_of_le_of_lt (length_dig_le 1 1 (by decide)) (by omega)
  obtain ⟨rfl, rfl, hF⟩ := HG6.out hf
  have HF6 := Lib.hid hF
  have HRR := Lib.hid (show R = if dv N = 0 ∨ dv D < dv N then 4 else 0 by rw [HR.out]; unfold riskE; rw [hf]; rfl)
  have QC := Lib.hid (fun oc od2 cc cd2 w hX hY => refOrder_any (dv N) (dv D) 1 1 on od oc od2 cn cd cc cd2 w hX hY lN lD l1 l1)
  have hz : (N == [48]) = decide (dv N = 0) := text_zero n1
  clear hF HG6 HR hfl gN gD lN lD l1 n2
  have QW := Lib.hid (fun w => refWhole_any 1 w (by decide))
  clear hf n1
  generalize hnn : dv N = n at *
  generalize hdd : dv D = d at *
  have HNN := Lib.hid hnn
  have HDD := Lib.hid hdd
  clear hnn hdd
  simp only [Nat.mul_one, Nat.one_mul] at QC
  obtain ⟨c, hc⟩ : ∃ c, c = decide (n = 0 ∨ d < n) := ⟨_, rfl⟩
  have HC := Lib.hid hc
  have HRC := Lib.hid (show R = if c then 4 else 0 by rw [HRR.out, hc]; by_cases h : n = 0 ∨ d < n <;> simp [h])
  clear hc HRR
  go_upto_region 4 with (fail)
  go_cut [22] (fun v w' => v = .bool c ∧ Below w6.heap.size w6 w')
  case first =>
    have hwd : ∃ x : BelowT M w6, w6.drew = x.w := ⟨⟨w6.drew, by rw [HM.out]; exact (Below.refl _ _).drew⟩, rfl⟩
    have hB0 : B < M := by omega
    by_cases hn0 : n = 0
    · have hcc := Lib.hid (show c = true by rw [HC.out]; exact decide_eq_true (.inl hn0))
      rw [decide_eq_true hn0] at hz
      clear hn0
      refine Seg.wp_region_segs (fun w' => ∃ x : BelowT M w6, w' = x.w) [([0, 1, 2, 3, 4], 5)] [] 6 (by kernel_rfl) (by kernel_rfl) (fun _ _ d _ _ h => by cases d <;> exact h) (hwd) ?_
      simp only [List.map_cons, List.map_nil, Seg.opAt, List.drop_succ_cons, List.drop_zero, Seg.wpSegs, Array.getD_eq_getD_getElem?, List.getElem?_toArray, List.getElem?_cons_succ, List.getElem?_cons_zero, Option.getD_some]
      repeat (any_goals (first | go_big_quiet_step (fail) | quiet_step (fail)))
      refine wpQuiet_nil ?_
      intro K hK
      simp only [Region.wanted, if_true]
      first | (intro K hK) | skip
      first | go_simp | skip
      refine hK _ _ hwd ?_
      clear hK K
      repeat (any_goals (first | go_big_quiet_step (fail) | quiet_step (fail)))
      refine wpQuiet_nil ?_
      go_wp2_with fail
      go_meet
      exact ⟨by rw [hcc.out], (Below.refl _ _).drew⟩
    · rw [decide_eq_false hn0] at hz
      refine Seg.wp_region_segs (fun w' => ∃ x : BelowT M w6, w' = x.w) [([0, 1, 2, 3, 4], 5)] [] 6 (by kernel_rfl) (by kernel_rfl) (fun _ _ d _ _ h => by cases d <;> exact h) (hwd) ?_
      simp only [List.map_cons, List.map_nil, Seg.opAt, List.drop_succ_cons, List.drop_zero, Seg.wpSegs, Array.getD_eq_getD_getElem?, List.getElem?_toArray, List.getElem?_cons_succ, List.getElem?_cons_zero, Option.getD_some]
      first | go_big_quiet_step (fail) | quiet_step (fail)
      first | go_big_quiet_step (fail) | quiet_step (fail)
      first | go_big_quiet_step (fail) | quiet_step (fail)
      first | go_big_quiet_step (fail) | quiet_step (fail)
      refine wpQuiet_load_at rfl 63 _ rfl ⟨E, 0, none⟩ [.slice on (dig n).length cn, .slice od (dig d).length cd] _ rfl (fun w' hw' => by obtain ⟨x, rfl⟩ := hw'; exact news_blk (bel_keep x.2 hEM HP6.out)) Tryd.underlying63 rfl HS.out ?_
      refine wpQuiet_nil ?_
      intro K hK
      first | go_simp | skip
      go_wp2_with (go_at_call 33; refine (QW.out w6.drew).mono ?_; rintro e w7 ⟨oc, od2, cc, cd2, rfl, hW, b7⟩)
      have B7 := Lib.hid (undrew b7)
      refine hK _ _ ⟨⟨w7, by rw [HM.out]; exact B7.out⟩, rfl⟩ ?_
      have HW := Lib.hid hW
      clear hK K hW b7
      repeat (any_goals (first | go_big_quiet_step (fail) | quiet_step (fail)))
      refine wpQuiet_nil ?_
      by_cases hlt : d < n
      · have hcc := Lib.hid (show c = true by rw [HC.out]; exact decide_eq_true (.inr hlt))
        rw [ND.cmpI_gt hlt] at QC
        go_wp2_with (go_at_call 72; refine (QC.out oc od2 cc cd2 w7 (HF6.out.below B7.out) HW.out).mono ?_; rintro e w8 ⟨rfl, b8⟩)
        go_meet
        exact ⟨by rw [hcc.out], B7.out.trans (b8.mono B7.out.size)⟩
      · have hcc := Lib.hid (show c = false by rw [HC.out]; exact decide_eq_false (by omega))
        have hle : decide (0 < ND.cmpI n d) = false := by
          rcases Nat.lt_or_eq_of_le (Nat.le_of_not_lt hlt) with h | h
          · rw [ND.cmpI_lt h]; rfl
          · rw [h, ND.cmpI_eq]; rfl
        generalize ND.cmpI n d = k at *
        go_wp2_with (go_at_call 72; refine (QC.out oc od2 cc cd2 w7 (HF6.out.below B7.out) HW.out).mono ?_; rintro e w8 ⟨rfl, b8⟩)
        go_meet
        exact ⟨by rw [hcc.out], B7.out.trans (b8.mono B7.out.size)⟩
  case rest =>
  generalize wc = w8 at *
  obtain ⟨rfl, b8⟩ := hcut
  have HB8 := Lib.hid (HB6.out.keep (by omega) b8)
  have HP8 := Lib.hid (bel_keep b8 (by rw [← HM.out]; exact hEM) HP6.out)
  have HF8 := Lib.hid (HF6.out.below b8)
  have e0' : w8.cell? ⟨E, 0, none⟩ = some (.slice on (dig n).length cn) := cell_of_row w8 E 0 _ _ _ HP8.out
  have e1' : w8.cell? ⟨E, 1, none⟩ = some (.slice od (dig d).length cd) := cell_of_row w8 E 1 _ _ _ HP8.out
  have hB8 : B + 1 < w8.heap.size := lt_of_heap HB8.out.z
  clear e0 e1 b0 b1 HB6 HP6 b8 HF6 QC
  cases hcc : c with
  | true =>
    have HR5 := Lib.hid (show R = 4 by rw [HRC.out, hcc]; rfl)
    clear HC HRC hcc
    go_wp2_with (refine wpList_store_whole rfl rfl 63 _ _ rfl (B + 1) #[.slice none 0 0, .slice none 0 0] #[.slice on (dig n).length cn, .slice od (dig d).length cd] 63 rfl rfl HB8.out.z rfl HS.out (two_slices _ _ _ _ _ _) ?_; intro w9 ho hp)
    refine bodyPost_ret (results_cell_tmp rfl _ w9 (B + 1) _ _ _ _ _ rfl rfl hp Tryd.underlying63 rfl HS.out) rfl ⟨on, (dig n).length, cn, od, (dig d).length, cd, by rw [HR5.out]; rfl, fun _ => by rw [HNN.out, HDD.out]; exact ⟨rfl, rfl, HF8.out.num.spared HB8.out.z two_noInt ho, HF8.out.den.spared HB8.out.z two_noInt ho⟩, bel_only (by rw [HB.out]; exact HB8.out.bel) ho (by rw [HB.out]; omega)⟩
  | false =>
    have HR5 := Lib.hid (show R = 0 by rw [HRC.out, hcc]; rfl)
    clear HC HRC hcc
    go_wp2_with (refine wpList_store_whole rfl rfl 63 _ _ rfl (B + 1) #[.slice none 0 0, .slice none 0 0] #[.slice on (dig n).length cn, .slice od (dig d).length cd] 63 rfl rfl HB8.out.z rfl HS.out (two_slices _ _ _ _ _ _) ?_; intro w9 ho hp)
    refine bodyPost_ret (results_cell_tmp rfl _ w9 (B + 1) _ _ _ _ _ rfl rfl hp Tryd.underlying63 rfl HS.out) rfl ⟨on, (dig n).length, cn, od, (dig d).length, cd, by rw [HR5.out]; rfl, fun _ => by rw [HNN.out, HDD.out]; exact ⟨rfl, rfl, HF8.out.num.spared HB8.out.z two_noInt ho, HF8.out.den.spared HB8.out.z two_noInt ho⟩, bel_only (by rw [HB.out]; exact HB8.out.bel) ho (by rw [HB.out]; omega)⟩
end
end Go.Proofs.YtlbdcgnpkapncaaDoor
