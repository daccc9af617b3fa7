/-
  Chapter 14: audit.frac.
-/
import Derived.Test.YtlbdcgnpkapncaaDoorAuS
namespace Go.Proofs.YtlbdcgnpkapncaaDoor
set_option linter.unusedVariables false
set_option linter.unusedSimpArgs false
open Go.RowKit ML FM NL

theorem limbs_dv (N : Bytes) (h : DigsB N) : (NL.dig (dv N)).length ≤ N.length := NL.length_dig_le _ _ (Nat.lt_of_lt_of_le (dv_lt N h) (Nat.pow_le_pow_left (by decide) _))
/-- is it a fraction in lowest terms, and not too long? -/
def frB (most : Int) (N D : Bytes) : Bool := decide (¬ (0 < most ∧ (most < N.length ∨ most < D.length))) && (numB N && (numB D && (decide (dv D ≠ 0) && decide (Nat.gcd (dv N) (dv D) = 1))))
theorem frB_good {most : Int} {N D : Bytes} (h : frB most N D = true) : numB N = true ∧ numB D = true ∧ 0 < dv D ∧ Nat.gcd (dv N) (dv D) = 1 ∧ (0 < most → (N.length : Int) ≤ most ∧ (D.length : Int) ≤ most) := by
  unfold frB at h
  simp only [Bool.and_eq_true, decide_eq_true_eq] at h
  obtain ⟨h1, h2, h3, h4, h5⟩ := h
  exact ⟨h2, h3, by omega, h5, fun hm => by omega⟩
def AFGot (most : Int) (N D : Bytes) (w : World) (e : Ending) (w' : World) : Prop :=
  ∃ on nn cn od nd cd, e = .returned (.tuple #[.agg #[.slice on nn cn, .slice od nd cd], .bool (frB most N D)]) ∧ (frB most N D = true → nn = (dig (dv N)).length ∧ nd = (dig (dv D)).length ∧ LFr w' (dv N) (dv D) on od) ∧ Below w.heap.size w w'
theorem cmpI_zero (x y : Nat) : (NL.cmpI x y == 0) = decide (x = y) := by
  rcases Nat.lt_trichotomy x y with h | h | h
  · rw [NL.cmpI_lt h, decide_eq_false (by omega)]; rfl
  · subst h; rw [NL.cmpI_eq, decide_eq_true rfl]; rfl
  · rw [NL.cmpI_gt h, decide_eq_false (by omega)]; rfl
theorem lowest_iff {n d g : Nat} (h0 : 0 < g) (hd : 0 < d) (h1 : g ∣ d) : (decide (n / g = n) && decide (d / g = d)) = decide (g = 1) := by
  by_cases h : g = 1
  · subst h; rw [Nat.div_one, Nat.div_one]; simp
  · have : d / g ≠ d := by
      have := Nat.div_lt_self hd (by omega : 1 < g)
      omega
    rw [decide_eq_false this, decide_eq_false h, Bool.and_false]
set_option maxHeartbeats 8000000 in
set_option maxRecDepth 100000 in
theorem audFrac_any (most : Int) (N D : Bytes) (w : World) (hN : N.length < 140737488355328) (hD : D.length < 140737488355328) (hB0 : (N.length < 1000000000 ∧ D.length < 1000000000) ∨ (0 < most ∧ most < 1000000000)) :
    Calls Tryd.prog 70 #[.agg #[.string ⟨N.toArray⟩, .string ⟨D.toArray⟩], .int .i64 most] w (AFGot most N D w) := by
  have QN := Lib.hid (fun w => exParse_both N w (by omega))
  have QD := Lib.hid (fun w => exParse_both D w (by omega))
  have HS := Lib.hid zero_cells
  have hszN := size_mk N
  have hszD := size_mk D
  obtain ⟨R, hR⟩ : ∃ R, R = frB most N D := ⟨_, rfl⟩
  have HR := Lib.hid (show R = (decide (¬ (0 < most ∧ (most < N.length ∨ most < D.length))) && (numB N && (numB D && (decide (dv D ≠ 0) && decide (Nat.gcd (dv N) (dv D) = 1))))) by rw [hR]; rfl)
  unfold AFGot
  rw [← hR]
  clear hR
  have HBZ := Lib.hid hB0
  clear hB0
  go_enter Tryd.func70, Tryd.ntmps70
  go_upto_region 1 with (fail)
  have BX := BoxR.mk' w #[.string ⟨N.toArray⟩, .string ⟨D.toArray⟩] #[.slice none 0 0, .slice none 0 0] 24 53
  generalize hB : w.heap.size = B at *
  refine wp_abs (fun w1 => BoxR B w w1 #[.string ⟨N.toArray⟩, .string ⟨D.toArray⟩] #[.slice none 0 0, .slice none 0 0] 24 53) BX (fun w1 B1 => ?_)
  have HB := Lib.hid hB
  have c1 := cell_of_row w1 B 0 _ _ _ B1.x
  have c2 := cell_of_row w1 B 1 _ _ _ B1.x
  have hBs1 : B + 1 < w1.heap.size := lt_of_heap B1.z
  have HB1 := Lib.hid B1
  clear BX hB B1
  by_cases hL : 0 < most ∧ (most < N.length ∨ most < D.length)
  · have hr := Lib.hid (show R = false by rw [HR.out, decide_eq_false (fun h => h hL)]; rfl)
    obtain ⟨h0, hl⟩ := hL
    have d0 : decide (0 < most) = true := decide_eq_true h0
    by_cases hlN : most < N.length
    · have d1 : decide (most < (N.length : Int)) = true := decide_eq_true hlN
      clear h0 hl hlN HR hN hD
      go_wp2_with (refine wpList_store_whole rfl rfl 53 _ _ rfl (B + 1) #[.slice none 0 0, .slice none 0 0] #[.slice none 0 0, .slice none 0 0] 53 rfl rfl HB1.out.z rfl HS.out (two_slices _ _ _ _ _ _) ?_; intro w5 ho hp)
      refine bodyPost_ret (results_cell_tmp rfl _ w5 (B + 1) _ _ _ _ _ rfl rfl hp Tryd.underlying53 rfl HS.out) rfl ⟨none, 0, 0, none, 0, 0, by rw [hr.out]; rfl, fun h => by (rw [hr.out] at h; cases h), bel_only (by rw [HB.out]; exact HB1.out.bel) ho (by rw [HB.out]; omega)⟩
    · have d1 : decide (most < (N.length : Int)) = false := decide_eq_false hlN
      have d2 : decide (most < (D.length : Int)) = true := decide_eq_true (by omega)
      clear h0 hl hlN HR hN hD
      go_wp2_with (refine wpList_store_whole rfl rfl 53 _ _ rfl (B + 1) #[.slice none 0 0, .slice none 0 0] #[.slice none 0 0, .slice none 0 0] 53 rfl rfl HB1.out.z rfl HS.out (two_slices _ _ _ _ _ _) ?_; intro w5 ho hp)
      refine bodyPost_ret (results_cell_tmp rfl _ w5 (B + 1) _ _ _ _ _ rfl rfl hp Tryd.underlying53 rfl HS.out) rfl ⟨none, 0, 0, none, 0, 0, by rw [hr.out]; rfl, fun h => by (rw [hr.out] at h; cases h), bel_only (by rw [HB.out]; exact HB1.out.bel) ho (by rw [HB.out]; omega)⟩
  have HB0 := Lib.hid (show N.length < 1000000000 ∧ D.length < 1000000000 by have := HBZ.out; omega)
  clear HBZ
  have HR2 := Lib.hid (show R = (numB N && (numB D && (decide (dv D ≠ 0) && decide (Nat.gcd (dv N) (dv D) = 1)))) by rw [HR.out, decide_eq_true hL, Bool.true_and])
  clear HR
  go_cut [26] (fun v w' => v = .bool false ∧ w1 = w')
  case first =>
    by_cases h0 : 0 < most
    · have d0 : decide (0 < most) = true := decide_eq_true h0
      have d1 : decide (most < (N.length : Int)) = false := decide_eq_false (by omega)
      have d2 : decide (most < (D.length : Int)) = false := decide_eq_false (by omega)
      clear h0 hL
      go_wp2_with fail
      go_meet
      exact ⟨rfl, rfl⟩
    · have d0 : decide (0 < most) = false := decide_eq_false h0
      clear h0 hL
      go_wp2_with fail
      go_meet
      exact ⟨rfl, rfl⟩
  case rest =>
  generalize wc = wo at *
  obtain ⟨rfl, rfl⟩ := hcut
  clear hL
  go_upto_region 4 with (go_at_call 90; refine (QN.out w1).mono ?_; rintro e w2 ⟨vn, rfl, hp, bel2⟩; have HPN := Lib.hid hp; clear hp)
  have HB2 := Lib.hid (HB1.out.keep (by omega) bel2)
  have c2' := cell_of_row w2 B 1 _ _ _ HB2.out.x
  have hBs2 : B + 1 < w2.heap.size := lt_of_heap HB2.out.z
  clear c1 c2 bel2 QN
  go_upto_region 5 with (go_at_call 90; refine (QD.out w2).mono ?_; rintro e w3 ⟨vd, rfl, hp, bel3⟩; have HPD := Lib.hid hp; clear hp)
  have HB3 := Lib.hid (HB2.out.keep (by omega) bel3)
  have HPN3 := Lib.hid (HPN.out.below bel3)
  have hBs3 : B + 1 < w3.heap.size := lt_of_heap HB3.out.z
  clear bel3 QD HPN HB2 HB1 c2'
  by_cases hnum : numB N = true ∧ numB D = true
  case neg =>
    have hr := Lib.hid (show R = false by
      rw [HR2.out]
      cases h1 : numB N
      · rfl
      · cases h2 : numB D
        · rfl
        · exact absurd ⟨h1, h2⟩ hnum)
    cases h1 : numB N with
    | false =>
      clear HR2 hnum h1
      go_wp2_with (refine wpList_store_whole rfl rfl 53 _ _ rfl (B + 1) #[.slice none 0 0, .slice none 0 0] #[.slice none 0 0, .slice none 0 0] 53 rfl rfl HB3.out.z rfl HS.out (two_slices _ _ _ _ _ _) ?_; intro w5 ho hp)
      refine bodyPost_ret (results_cell_tmp rfl _ w5 (B + 1) _ _ _ _ _ rfl rfl hp Tryd.underlying53 rfl HS.out) rfl ⟨none, 0, 0, none, 0, 0, by rw [hr.out]; rfl, fun h => by (rw [hr.out] at h; cases h), bel_only (by rw [HB.out]; exact HB3.out.bel) ho (by rw [HB.out]; omega)⟩
    | true =>
      have h2 : numB D = false := by
        cases h2 : numB D
        · rfl
        · exact absurd ⟨h1, h2⟩ hnum
      rw [h2]
      clear HR2 hnum h1 h2
      go_wp2_with (refine wpList_store_whole rfl rfl 53 _ _ rfl (B + 1) #[.slice none 0 0, .slice none 0 0] #[.slice none 0 0, .slice none 0 0] 53 rfl rfl HB3.out.z rfl HS.out (two_slices _ _ _ _ _ _) ?_; intro w5 ho hp)
      refine bodyPost_ret (results_cell_tmp rfl _ w5 (B + 1) _ _ _ _ _ rfl rfl hp Tryd.underlying53 rfl HS.out) rfl ⟨none, 0, 0, none, 0, 0, by rw [hr.out]; rfl, fun h => by (rw [hr.out] at h; cases h), bel_only (by rw [HB.out]; exact HB3.out.bel) ho (by rw [HB.out]; omega)⟩
  obtain ⟨n1, n2⟩ := hnum
  obtain ⟨on, cn, rfl, hn⟩ := HPN3.out.good n1
  obtain ⟨od, cd, rfl, hd⟩ := HPD.out.good n2
  have HN3 := Lib.hid hn
  have HD3 := Lib.hid hd
  have lN : (dig (dv N)).length < 1099511627775 := Nat.lt_of_le_of_lt (limbs_dv N ((numB_iff N).1 n1).2.1) (by have := HB0.out.1; omega)
  have lD : (dig (dv D)).length < 1099511627775 := Nat.lt_of_le_of_lt (limbs_dv D ((numB_iff D).1 n2).2.1) (by have := HB0.out.2; omega)
  rw [n1, n2]
  have HR3 := Lib.hid (show R = (decide (dv D ≠ 0) && decide (Nat.gcd (dv N) (dv D) = 1)) by rw [HR2.out, n1, n2]; rfl)
  clear hn hd HPN3 HPD HR2 n1 n2 HB0
  by_cases hy : dv D = 0
  · have hr := Lib.hid (show R = false by rw [HR3.out, hy]; rfl)
    have QZ := Lib.hid (fun o c w => exZero_any o 0 c w)
    rw [hy, dig_zero]
    clear hy HR3
    go_wp2_with (first
      | (go_at_call 57; refine (QZ.out _ _ _).mono ?_; rintro e w4 ⟨rfl, rfl⟩)
      | (refine wpList_store_whole rfl rfl 53 _ _ rfl (B + 1) #[.slice none 0 0, .slice none 0 0] #[.slice none 0 0, .slice none 0 0] 53 rfl rfl HB3.out.z rfl HS.out (two_slices _ _ _ _ _ _) ?_; intro w5 ho hp))
    refine bodyPost_ret (results_cell_tmp rfl _ w5 (B + 1) _ _ _ _ _ rfl rfl hp Tryd.underlying53 rfl HS.out) rfl ⟨none, 0, 0, none, 0, 0, by rw [hr.out]; rfl, fun h => by (rw [hr.out] at h; cases h), bel_only (by rw [HB.out]; exact HB3.out.bel) ho (by rw [HB.out]; omega)⟩
  have hlz : (((dig (dv D)).length : Int) == 0) = false := by
    rw [beq_eq_false_iff_ne]
    intro h
    have h1 : (dig (dv D)).length = 0 := by omega
    have := lt_pow_length (dv D)
    rw [h1] at this
    omega
  have QZ := Lib.hid (fun o c w => exZero_any o (dig (dv D)).length c w)
  rw [hlz] at QZ
  have QL := Lib.hid (exLowest_any (dv N) (dv D) on od cn cd w3 (by omega) HN3.out HD3.out lN lD)
  clear hlz
  generalize hnn : dv N = n at *
  generalize hdd : dv D = d at *
  have HNN := Lib.hid hnn
  have HDD := Lib.hid hdd
  clear hnn hdd
  obtain ⟨g, hg⟩ : ∃ g, g = Nat.gcd n d := ⟨_, rfl⟩
  have hg0 : 0 < g := by rw [hg]; exact Nat.gcd_pos_of_pos_right n (by omega)
  have hgd : g ∣ d := by rw [hg]; exact Nat.gcd_dvd_right n d
  have hgn : g ∣ n := by rw [hg]; exact Nat.gcd_dvd_left n d
  rw [← hg] at QL
  have HR4 := Lib.hid (show R = decide (g = 1) by rw [HR3.out, decide_eq_true hy, Bool.true_and, hg])
  have hl1 : (dig (n / g)).length ≤ (dig n).length := length_dig_le _ _ (Nat.lt_of_le_of_lt (Nat.div_le_self _ _) (lt_pow_length n))
  have hl2 : (dig (d / g)).length ≤ (dig d).length := length_dig_le _ _ (Nat.lt_of_le_of_lt (Nat.div_le_self _ _) (lt_pow_length d))
  have Q1 := Lib.hid (fun oa ca w h1 h2 => exCmp_any (n / g) n oa on ca cn w h1 h2 (by omega) (by omega))
  have Q2 := Lib.hid (fun oa ca w h1 h2 => exCmp_any (d / g) d oa od ca cd w h1 h2 (by omega) (by omega))
  have HY := Lib.hid hy
  have HGS := Lib.hid (⟨hg0, hgd, hgn⟩ : 0 < g ∧ g ∣ d ∧ g ∣ n)
  have hd1 : 0 < d := by omega
  clear HR3 hg hg0 hgd hgn lN lD hl1 hl2 hy
  go_upto_region 8 with (first
    | (go_at_call 57; refine (QZ.out _ _ _).mono ?_; rintro e w4 ⟨rfl, rfl⟩)
    | (go_at_call 53; refine QL.out.mono ?_; rintro e w5 ⟨om, of, cm, cf, rfl, hL, b5⟩)
    | (refine wpList_store_whole rfl rfl 53 _ _ rfl w5.heap.size #[.slice none 0 0, .slice none 0 0] #[.slice om (dig (n / g)).length cm, .slice of (dig (d / g)).length cf] 53 rfl rfl (heap_at rfl) rfl HS.out (two_slices _ _ _ _ _ _) ?_; intro w6 ho hp))
  have b6 : Below w5.heap.size w5 w6 := bel_only ((Below.refl _ _).alloc (Nat.le_refl _) _) ho (Nat.le_refl _)
  have b36 := b5.trans (b6.mono b5.size)
  have HB6 := Lib.hid (HB3.out.keep (by omega) b36)
  have HL6 := Lib.hid (hL.below b6)
  have HN6 := Lib.hid (HN3.out.below b36)
  have HD6 := Lib.hid (HD3.out.below b36)
  have hne : B + 1 < w5.heap.size := Nat.lt_of_lt_of_le hBs3 b5.size
  have HP6 := Lib.hid hp
  have BL6 := Lib.hid (show Below B w w6 from HB6.out.bel)
  clear hL b5 b6 b36 ho hp HB3 HN3 HD3 QL QZ
  generalize w5.heap.size = E at *
  obtain ⟨M, hM⟩ : ∃ M, M = w6.heap.size := ⟨_, rfl⟩
  have hEM : E < M := by rw [hM]; exact lt_of_heap HP6.out
  have hBM : B + 1 < M := by omega
  have hEB : E ≠ B + 1 := by omega
  have HM := Lib.hid hM
  have hBM' : B + 1 < w6.heap.size := by rw [← hM]; exact hBM
  have e0 : w6.cell? ⟨E, 0, none⟩ = some (.slice om (dig (n / g)).length cm) := cell_of_row w6 E 0 _ _ _ HP6.out
  have e1 : w6.cell? ⟨E, 1, none⟩ = some (.slice of (dig (d / g)).length cf) := cell_of_row w6 E 1 _ _ _ HP6.out
  have HRb := Lib.hid (show R = (decide (n / g = n) && decide (d / g = d)) by rw [HR4.out, lowest_iff HGS.out.1 hd1 HGS.out.2.1])
  have hz1 := cmpI_zero (n / g) n
  have hz2 := cmpI_zero (d / g) d
  have Q1' := Lib.hid (fun w h1 h2 => Q1.out om cm w h1 h2)
  have Q2' := Lib.hid (fun w h1 h2 => Q2.out of cf w h1 h2)
  have G0 : w6.grownBy w6.drew (some (B + 1)) := grown_only (Only.refl _ w6).drew
  have HGB := Lib.hid (show R = true → g = 1 by rw [HR4.out]; exact of_decide_eq_true)
  have HL6' := Lib.hid (show g = 1 → LFr w6 n d om of by intro h; have := HL6.out; rw [h, Nat.div_one, Nat.div_one] at this; exact this)
  have hdl := Lib.hid (show g = 1 → (dig (n / g)).length = (dig n).length ∧ (dig (d / g)).length = (dig d).length by intro h; rw [h, Nat.div_one, Nat.div_one]; exact ⟨rfl, rfl⟩)
  clear hM HR4 HGS Q1 Q2
  generalize NL.cmpI (n / g) n = k1 at *
  generalize NL.cmpI (d / g) d = k2 at *
  cases hb1 : decide (n / g = n) with
  | false =>
    rw [hb1] at hz1
    have HR5 := Lib.hid (show R = false by rw [HRb.out, hb1]; rfl)
    clear hb1 hz2 HRb
    refine Seg.wp_region_segs (fun w' => ∃ x : GrT (B + 1) M w6, w' = x.w) [([0, 1, 2, 3], 4), ([5, 6, 7, 8, 9], 10), ([11, 12], 13)] [] 14 (by kernel_rfl) (by kernel_rfl) (fun _ _ d _ _ h => by cases d <;> exact h) (grT_of HM.out G0) ?_
    simp only [List.map_cons, List.map_nil, Seg.opAt, List.drop_succ_cons, List.drop_zero, Seg.wpSegs, Array.getD_eq_getD_getElem?, List.getElem?_toArray, List.getElem?_cons_succ, List.getElem?_cons_zero, Option.getD_some]
    refine wpQuiet_load_at rfl 53 _ rfl ⟨E, 0, none⟩ [.slice om (dig (n / g)).length cm, .slice of (dig (d / g)).length cf] _ rfl (fun w' hw' => news_blk (GrT.block hw' hEM hEB HP6.out)) Tryd.underlying53 rfl HS.out ?_
    first | go_big_quiet_step (fail) | quiet_step (fail)
    first | go_big_quiet_step (fail) | quiet_step (fail)
    first | go_big_quiet_step (fail) | quiet_step (fail)
    refine wpQuiet_nil ?_
    intro K hK
    simp only [Region.wanted, if_true]
    go_wp2_with (go_at_call 81; refine (Q1'.out w6.drew HL6.out.num.drew HN6.out.drew).mono ?_; rintro e w7 ⟨rfl, b7⟩)
    have G7 := gtrans G0 (grown_below (b := B + 1) b7)
    have B7 := Lib.hid ((Below.refl w6.heap.size w6).drew.trans b7)
    refine hK _ _ (grT_of HM.out G7) ?_
    clear hK K b7 e0 e1
    repeat (any_goals (first | go_big_quiet_step (fail) | quiet_step (fail)))
    refine wpQuiet_nil ?_
    intro K hK
    first | go_simp | skip
    refine hK _ _ (grT_of HM.out G7) ?_
    clear hK K
    repeat (any_goals (first | go_big_quiet_step (fail) | quiet_step (fail)))
    refine wpQuiet_nil ?_
    intro K hK
    rw [if_pos (by rfl)]
    have hz7 := bel_keep B7.out hBM' HB6.out.z
    refine wp_store_whole rfl 53 _ _ rfl (B + 1) #[.slice none 0 0, .slice none 0 0] #[.slice om (dig (n / g)).length cm, .slice of (dig (d / g)).length cf] 53 rfl rfl hz7 rfl HS.out (two_slices _ _ _ _ _ _) (fun w9 ho hp => ?_)
    refine hK _ _ (grT_of HM.out (gtrans G7 (grown_only ho))) ?_
    clear hK K
    repeat (any_goals (first | go_big_quiet_step (fail) | quiet_step (fail)))
    refine wpQuiet_nil ?_
    go_wp2_with fail
    refine bodyPost_ret (results_cell_tmp rfl _ w9 (B + 1) _ _ _ _ _ rfl rfl hp Tryd.underlying53 rfl HS.out) rfl ⟨om, (dig (n / g)).length, cm, of, (dig (d / g)).length, cf, by rw [HR5.out]; rfl, fun h => by (rw [HR5.out] at h; cases h), bel_only (by rw [HB.out]; exact BL6.out.trans (B7.out.mono (by omega))) ho (by rw [HB.out]; omega)⟩
  | true =>
    rw [hb1] at hz1
    cases hb2 : decide (d / g = d) with
    | false =>
      rw [hb2] at hz2
      have HR5 := Lib.hid (show R = false by rw [HRb.out, hb1, hb2]; rfl)
      clear hb1 hb2 HRb
      refine Seg.wp_region_segs (fun w' => ∃ x : GrT (B + 1) M w6, w' = x.w) [([0, 1, 2, 3], 4), ([5, 6, 7, 8, 9], 10), ([11, 12], 13)] [] 14 (by kernel_rfl) (by kernel_rfl) (fun _ _ d _ _ h => by cases d <;> exact h) (grT_of HM.out G0) ?_
      simp only [List.map_cons, List.map_nil, Seg.opAt, List.drop_succ_cons, List.drop_zero, Seg.wpSegs, Array.getD_eq_getD_getElem?, List.getElem?_toArray, List.getElem?_cons_succ, List.getElem?_cons_zero, Option.getD_some]
      refine wpQuiet_load_at rfl 53 _ rfl ⟨E, 0, none⟩ [.slice om (dig (n / g)).length cm, .slice of (dig (d / g)).length cf] _ rfl (fun w' hw' => news_blk (GrT.block hw' hEM hEB HP6.out)) Tryd.underlying53 rfl HS.out ?_
      first | go_big_quiet_step (fail) | quiet_step (fail)
      first | go_big_quiet_step (fail) | quiet_step (fail)
      first | go_big_quiet_step (fail) | quiet_step (fail)
      refine wpQuiet_nil ?_
      intro K hK
      simp only [Region.wanted, if_true]
      go_wp2_with (go_at_call 81; refine (Q1'.out w6.drew HL6.out.num.drew HN6.out.drew).mono ?_; rintro e w7' ⟨rfl, b7⟩)
      have G7' := gtrans G0 (grown_below (b := B + 1) b7)
      have B7' := Lib.hid ((Below.refl w6.heap.size w6).drew.trans b7)
      refine hK _ _ (grT_of HM.out G7') ?_
      clear hK K b7 e0 e1
      have e1 : w7'.cell? ⟨E, 1, none⟩ = some (.slice of (dig (d / g)).length cf) := cell_of_row w7' E 1 _ _ _ (bel_keep B7'.out (by rw [← HM.out]; exact hEM) HP6.out)
      have e1w : w6.cell? ⟨E, 1, none⟩ = some (.slice of (dig (d / g)).length cf) := cell_of_row w6 E 1 _ _ _ HP6.out
      repeat (any_goals (first | go_big_quiet_step (fail) | quiet_step (fail)))
      refine wpQuiet_nil ?_
      intro K hK
      first | go_simp | skip
      go_wp2_with (go_at_call 81; refine (Q2'.out w7' (HL6.out.den.below B7'.out) (HD6.out.below B7'.out)).mono ?_; rintro e w7 ⟨rfl, b7⟩)
      have G7 := gtrans G7' (grown_below (b := B + 1) b7)
      have B7 := Lib.hid (B7'.out.trans (b7.mono B7'.out.size))
      refine hK _ _ (grT_of HM.out G7) ?_
      clear hK K b7 e1 e1w
      repeat (any_goals (first | go_big_quiet_step (fail) | quiet_step (fail)))
      refine wpQuiet_nil ?_
      intro K hK
      rw [if_pos (by rfl)]
      have hz7 := bel_keep B7.out hBM' HB6.out.z
      refine wp_store_whole rfl 53 _ _ rfl (B + 1) #[.slice none 0 0, .slice none 0 0] #[.slice om (dig (n / g)).length cm, .slice of (dig (d / g)).length cf] 53 rfl rfl hz7 rfl HS.out (two_slices _ _ _ _ _ _) (fun w9 ho hp => ?_)
      refine hK _ _ (grT_of HM.out (gtrans G7 (grown_only ho))) ?_
      clear hK K
      repeat (any_goals (first | go_big_quiet_step (fail) | quiet_step (fail)))
      refine wpQuiet_nil ?_
      go_wp2_with fail
      refine bodyPost_ret (results_cell_tmp rfl _ w9 (B + 1) _ _ _ _ _ rfl rfl hp Tryd.underlying53 rfl HS.out) rfl ⟨om, (dig (n / g)).length, cm, of, (dig (d / g)).length, cf, by rw [HR5.out]; rfl, fun h => by (rw [HR5.out] at h; cases h), bel_only (by rw [HB.out]; exact BL6.out.trans (B7.out.mono (by omega))) ho (by rw [HB.out]; omega)⟩
    | true =>
      rw [hb2] at hz2
      have HR5 := Lib.hid (show R = true by rw [HRb.out, hb1, hb2]; rfl)
      clear hb1 hb2 HRb
      refine Seg.wp_region_segs (fun w' => ∃ x : GrT (B + 1) M w6, w' = x.w) [([0, 1, 2, 3], 4), ([5, 6, 7, 8, 9], 10), ([11, 12], 13)] [] 14 (by kernel_rfl) (by kernel_rfl) (fun _ _ d _ _ h => by cases d <;> exact h) (grT_of HM.out G0) ?_
      simp only [List.map_cons, List.map_nil, Seg.opAt, List.drop_succ_cons, List.drop_zero, Seg.wpSegs, Array.getD_eq_getD_getElem?, List.getElem?_toArray, List.getElem?_cons_succ, List.getElem?_cons_zero, Option.getD_some]
      refine wpQuiet_load_at rfl 53 _ rfl ⟨E, 0, none⟩ [.slice om (dig (n / g)).length cm, .slice of (dig (d / g)).length cf] _ rfl (fun w' hw' => news_blk (GrT.block hw' hEM hEB HP6.out)) Tryd.underlying53 rfl HS.out ?_
      first | go_big_quiet_step (fail) | quiet_step (fail)
      first | go_big_quiet_step (fail) | quiet_step (fail)
      first | go_big_quiet_step (fail) | quiet_step (fail)
      refine wpQuiet_nil ?_
      intro K hK
      simp only [Region.wanted, if_true]
      go_wp2_with (go_at_call 81; refine (Q1'.out w6.drew HL6.out.num.drew HN6.out.drew).mono ?_; rintro e w7' ⟨rfl, b7⟩)
      have G7' := gtrans G0 (grown_below (b := B + 1) b7)
      have B7' := Lib.hid ((Below.refl w6.heap.size w6).drew.trans b7)
      refine hK _ _ (grT_of HM.out G7') ?_
      clear hK K b7 e0 e1
      have e1 : w7'.cell? ⟨E, 1, none⟩ = some (.slice of (dig (d / g)).length cf) := cell_of_row w7' E 1 _ _ _ (bel_keep B7'.out (by rw [← HM.out]; exact hEM) HP6.out)
      have e1w : w6.cell? ⟨E, 1, none⟩ = some (.slice of (dig (d / g)).length cf) := cell_of_row w6 E 1 _ _ _ HP6.out
      repeat (any_goals (first | go_big_quiet_step (fail) | quiet_step (fail)))
      refine wpQuiet_nil ?_
      intro K hK
      first | go_simp | skip
      go_wp2_with (go_at_call 81; refine (Q2'.out w7' (HL6.out.den.below B7'.out) (HD6.out.below B7'.out)).mono ?_; rintro e w7 ⟨rfl, b7⟩)
      have G7 := gtrans G7' (grown_below (b := B + 1) b7)
      have B7 := Lib.hid (B7'.out.trans (b7.mono B7'.out.size))
      refine hK _ _ (grT_of HM.out G7) ?_
      clear hK K b7 e1 e1w
      repeat (any_goals (first | go_big_quiet_step (fail) | quiet_step (fail)))
      refine wpQuiet_nil ?_
      intro K hK
      rw [if_pos (by rfl)]
      have hz7 := bel_keep B7.out hBM' HB6.out.z
      refine wp_store_whole rfl 53 _ _ rfl (B + 1) #[.slice none 0 0, .slice none 0 0] #[.slice om (dig (n / g)).length cm, .slice of (dig (d / g)).length cf] 53 rfl rfl hz7 rfl HS.out (two_slices _ _ _ _ _ _) (fun w9 ho hp => ?_)
      refine hK _ _ (grT_of HM.out (gtrans G7 (grown_only ho))) ?_
      clear hK K
      repeat (any_goals (first | go_big_quiet_step (fail) | quiet_step (fail)))
      refine wpQuiet_nil ?_
      go_wp2_with fail
      refine bodyPost_ret (results_cell_tmp rfl _ w9 (B + 1) _ _ _ _ _ rfl rfl hp Tryd.underlying53 rfl HS.out) rfl ⟨om, (dig (n / g)).length, cm, of, (dig (d / g)).length, cf, by rw [HR5.out]; rfl, fun h => by rw [HNN.out, HDD.out]; exact ⟨(hdl.out (HGB.out h)).1, (hdl.out (HGB.out h)).2, ((HL6'.out (HGB.out h)).below B7.out).num.spared hz7 two_noInt ho, ((HL6'.out (HGB.out h)).below B7.out).den.spared hz7 two_noInt ho⟩, bel_only (by rw [HB.out]; exact BL6.out.trans (B7.out.mono (by omega))) ho (by rw [HB.out]; omega)⟩
end Go.Proofs.YtlbdcgnpkapncaaDoor
