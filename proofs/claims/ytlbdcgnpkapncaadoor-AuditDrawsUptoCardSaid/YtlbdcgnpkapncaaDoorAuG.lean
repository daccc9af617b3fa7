/-
  Chapter 14: the reference's Frac.
-/
import Derived.Test.YtlbdcgnpkapncaaDoorAuF
import Derived.Test.YtlbdcgnpkapncaaDoorPlan
namespace Go.Proofs.YtlbdcgnpkapncaaDoor
set_option linter.unusedVariables false
set_option linter.unusedSimpArgs false
open Go.RowKit ML FM ND

theorem zero_text {D : Bytes} (h : numB D = true) : dv D = 0 ↔ D = [48] := by
  constructor
  · intro h0
    have := strD_dv _ h
    rw [h0] at this
    rw [← this]; rfl
  · intro h0; subst h0; rfl
theorem strD_inj {a b : Nat} (h : strD a = strD b) : a = b := by rw [← dv_strD a, ← dv_strD b, h]
def RFGot (most : Int) (N D : Bytes) (w : World) (e : Ending) (w' : World) : Prop :=
  ∃ on nn cn od nd cd, e = .returned (.tuple #[.agg #[.slice on nn cn, .slice od nd cd], .bool (frB most N D)]) ∧ (frB most N D = true → nn = (dig (dv N)).length ∧ nd = (dig (dv D)).length ∧ NFr w' (dv N) (dv D) on od) ∧ Below w.heap.size w w'
theorem dig_text (N : Bytes) (h : DigsB N) : (dig (dv N)).length ≤ N.length := length_dig_le _ _ (dv_lt N h)
set_option maxHeartbeats 8000000 in
set_option maxRecDepth 100000 in
theorem refFrac_any (most : Int) (N D : Bytes) (w : World) (hN : N.length < 140737488355328) (hD : D.length < 140737488355328) (hB0 : (N.length < 1000000000 ∧ D.length < 1000000000) ∨ (0 < most ∧ most < 1000000000)) :
    Calls Tryd.prog 47 #[.agg #[.string ⟨N.toArray⟩, .string ⟨D.toArray⟩], .int .i64 most] w (RFGot most N D w) := by
  have QN := Lib.hid (refIs_any N (hF := by omega))
  have QD := Lib.hid (refIs_any D (hF := by omega))
  have HS := Lib.hid size_nfr
  have hszN := size_mk N
  have hszD := size_mk D
  obtain ⟨R, hR⟩ : ∃ R, R = frB most N D := ⟨_, rfl⟩
  have HR := Lib.hid (show R = (decide (¬ (0 < most ∧ (most < N.length ∨ most < D.length))) && (numB N && (numB D && (decide (dv D ≠ 0) && decide (Nat.gcd (dv N) (dv D) = 1))))) by rw [hR]; rfl)
  unfold RFGot
  rw [← hR]
  clear hR
  have HBZ := Lib.hid hB0
  clear hN hD hB0
  go_enter Tryd.func47, Tryd.ntmps47
  go_upto_region 1 with (fail)
  have BX := BoxR.mk' w #[.string ⟨N.toArray⟩, .string ⟨D.toArray⟩] #[.slice none 0 0, .slice none 0 0] 24 63
  generalize hB : w.heap.size = B at *
  refine wp_abs (fun w1 => BoxR B w w1 #[.string ⟨N.toArray⟩, .string ⟨D.toArray⟩] #[.slice none 0 0, .slice none 0 0] 24 63) BX (fun w1 B1 => ?_)
  have HB := Lib.hid hB
  have c1 := cell_of_row w1 B 0 _ _ _ B1.x
  have c2 := cell_of_row w1 B 1 _ _ _ B1.x
  have hBs1 : B + 1 < w1.heap.size := lt_of_heap B1.z
  have HB1 := Lib.hid B1
  clear BX hB B1
  obtain ⟨bad, hbad⟩ : ∃ bad, bad = !(decide (¬ (0 < most ∧ (most < N.length ∨ most < D.length))) && (numB N && (numB D && decide (dv D ≠ 0)))) := ⟨_, rfl⟩
  have HBD := Lib.hid hbad
  clear hbad
  go_cut [39] (fun v w' => v = .bool bad ∧ w1 = w')
  case first =>
    clear HR HBZ
    by_cases hL : 0 < most ∧ (most < N.length ∨ most < D.length)
    · have hb := Lib.hid (show bad = true by rw [HBD.out, decide_eq_false (fun h => h hL)]; rfl)
      obtain ⟨h0, hl⟩ := hL
      have d0 : decide (0 < most) = true := decide_eq_true h0
      by_cases hlN : most < N.length
      · have d1 : decide (most < (N.length : Int)) = true := decide_eq_true hlN
        clear h0 hl hlN HBD
        go_wp2_with fail
        go_meet
        exact ⟨by rw [hb.out], rfl⟩
      · have d1 : decide (most < (N.length : Int)) = false := decide_eq_false hlN
        have d2 : decide (most < (D.length : Int)) = true := decide_eq_true (by omega)
        clear h0 hl hlN HBD
        go_wp2_with fail
        go_meet
        exact ⟨by rw [hb.out], rfl⟩
    have HBE := Lib.hid (show bad = !(numB N && (numB D && decide (dv D ≠ 0))) by rw [HBD.out, decide_eq_true hL, Bool.true_and])
    clear HBD
    have hm : (decide (0 < most) = false) ∨ (decide (0 < most) = true ∧ decide (most < (N.length : Int)) = false ∧ decide (most < (D.length : Int)) = false) := by
      by_cases h0 : 0 < most
      · exact .inr ⟨decide_eq_true h0, decide_eq_false (by omega), decide_eq_false (by omega)⟩
      · exact .inl (decide_eq_false h0)
    clear hL
    cases n1 : numB N with
    | false =>
      have hb := Lib.hid (show bad = true by rw [HBE.out, n1]; rfl)
      rw [n1] at QN
      clear HBE n1
      rcases hm with d0 | ⟨d0, d1, d2⟩
      · go_wp2_with (go_at_call 77; (with_reducible refine (QN.out _).mono ?_); rintro e w2 ⟨rfl, rfl⟩)
        go_meet
        exact ⟨by rw [hb.out], rfl⟩
      · go_wp2_with (go_at_call 77; (with_reducible refine (QN.out _).mono ?_); rintro e w2 ⟨rfl, rfl⟩)
        go_meet
        exact ⟨by rw [hb.out], rfl⟩
    | true =>
      rw [n1] at QN
      cases n2 : numB D with
      | false =>
        have hb := Lib.hid (show bad = true by rw [HBE.out, n1, n2]; rfl)
        rw [n2] at QD
        clear HBE n1 n2
        rcases hm with d0 | ⟨d0, d1, d2⟩
        · go_wp2_with (first
            | (go_at_call 77; (with_reducible refine (QN.out _).mono ?_); rintro e w2 ⟨rfl, rfl⟩)
            | (go_at_call 77; (with_reducible refine (QD.out _).mono ?_); rintro e w2 ⟨rfl, rfl⟩))
          go_meet
          exact ⟨by rw [hb.out], rfl⟩
        · go_wp2_with (first
            | (go_at_call 77; (with_reducible refine (QN.out _).mono ?_); rintro e w2 ⟨rfl, rfl⟩)
            | (go_at_call 77; (with_reducible refine (QD.out _).mono ?_); rintro e w2 ⟨rfl, rfl⟩))
          go_meet
          exact ⟨by rw [hb.out], rfl⟩
      | true =>
        rw [n2] at QD
        by_cases hz : dv D = 0
        · have hb := Lib.hid (show bad = true by rw [HBE.out, n1, n2, hz]; rfl)
          have hDz := (zero_text n2).1 hz
          subst hDz
          clear HBE n1 n2 hz
          rcases hm with d0 | ⟨d0, d1, d2⟩
          rotate_left
          have d3 : decide (most < (1 : Int)) = false := d2
          rotate_left
          · go_wp2_with (first
              | (go_at_call 77; (with_reducible refine (QN.out _).mono ?_); rintro e w2 ⟨rfl, rfl⟩)
              | (go_at_call 77; (refine (QD.out _).mono ?_); rintro e w2 ⟨rfl, rfl⟩))
            go_meet
            exact ⟨by rw [hb.out], rfl⟩
          · go_wp2_with (first
              | (go_at_call 77; (with_reducible refine (QN.out _).mono ?_); rintro e w2 ⟨rfl, rfl⟩)
              | (go_at_call 77; (refine (QD.out _).mono ?_); rintro e w2 ⟨rfl, rfl⟩))
            go_meet
            exact ⟨by rw [hb.out], rfl⟩
        · have hb := Lib.hid (show bad = false by rw [HBE.out, n1, n2, decide_eq_true hz]; rfl)
          have hD0 : ¬ D = [48] := fun h => hz ((zero_text n2).2 h)
          have hD1 : (D == [48]) = false := by rw [beq_eq_false_iff_ne]; exact hD0
          clear HBE n1 n2 hz
          rcases hm with d0 | ⟨d0, d1, d2⟩
          · go_wp2_with (first
              | (go_at_call 77; (with_reducible refine (QN.out _).mono ?_); rintro e w2 ⟨rfl, rfl⟩)
              | (go_at_call 77; (with_reducible refine (QD.out _).mono ?_); rintro e w2 ⟨rfl, rfl⟩))
            go_meet
            exact ⟨by rw [hb.out], rfl⟩
          · go_wp2_with (first
              | (go_at_call 77; (with_reducible refine (QN.out _).mono ?_); rintro e w2 ⟨rfl, rfl⟩)
              | (go_at_call 77; (with_reducible refine (QD.out _).mono ?_); rintro e w2 ⟨rfl, rfl⟩))
            go_meet
            exact ⟨by rw [hb.out], rfl⟩
  case rest =>
  generalize wc = wo at *
  obtain ⟨rfl, rfl⟩ := hcut
  clear QN QD
  cases hbad : bad with
  | true =>
    have hr := Lib.hid (show R = false by
      have h := HBD.out
      rw [hbad] at h
      rw [HR.out]
      generalize decide (¬ (0 < most ∧ (most < N.length ∨ most < D.length))) = b1 at *
      generalize numB N = b2 at *
      generalize numB D = b3 at *
      generalize decide (dv D ≠ 0) = b4 at *
      revert h
      cases b1 <;> cases b2 <;> cases b3 <;> cases b4 <;> simp)
    clear HR HBD hbad
    go_wp2_with (refine wpList_store_whole rfl rfl 63 _ _ rfl (B + 1) #[.slice none 0 0, .slice none 0 0] #[.slice none 0 0, .slice none 0 0] 63 rfl rfl HB1.out.z rfl HS.out (two_slices _ _ _ _ _ _) ?_; intro w5 ho hp)
    refine bodyPost_ret (results_cell_tmp rfl _ w5 (B + 1) _ _ _ _ _ rfl rfl hp Tryd.underlying63 rfl HS.out) rfl ⟨none, 0, 0, none, 0, 0, by rw [hr.out]; rfl, fun h => by (rw [hr.out] at h; cases h), bel_only (by rw [HB.out]; exact HB1.out.bel) ho (by rw [HB.out]; omega)⟩
  | false =>
  have hall : ¬ (0 < most ∧ (most < N.length ∨ most < D.length)) ∧ numB N = true ∧ numB D = true ∧ dv D ≠ 0 ∧ R = decide (Nat.gcd (dv N) (dv D) = 1) := by
    have h := HBD.out
    rw [hbad] at h
    have h2 := HR.out
    cases hb1 : decide (¬ (0 < most ∧ (most < N.length ∨ most < D.length)))
    · rw [hb1] at h; simp at h
    · refine ⟨of_decide_eq_true hb1, ?_⟩
      rw [hb1] at h h2
      cases h3 : numB N
      · rw [h3] at h; simp at h
      · cases h4 : numB D
        · rw [h3, h4] at h; simp at h
        · rw [h3, h4] at h h2
          simp only [Bool.true_and] at h h2
          have h5 : decide (dv D ≠ 0) = true := by simpa using h
          exact ⟨rfl, rfl, of_decide_eq_true h5, by rw [h2, h5, Bool.true_and]⟩
  clear HR HBD hbad
  obtain ⟨hlm, n1, n2, hy, hRg⟩ := hall
  have HB0 := Lib.hid (show N.length < 1000000000 ∧ D.length < 1000000000 by have := HBZ.out; omega)
  clear HBZ hlm
  have gN := ((numB_iff N).1 n1).2.1
  have gD := ((numB_iff D).1 n2).2.1
  have lN : (dig (dv N)).length < 1099511627775 := Nat.lt_of_le_of_lt (dig_text N gN) (by have := HB0.out.1; omega)
  have lD : (dig (dv D)).length < 1099511627775 := Nat.lt_of_le_of_lt (dig_text D gD) (by have := HB0.out.2; omega)
  have QN := Lib.hid (fun w => refRead_any N w (by have := HB0.out.1; omega) gN)
  have QD := Lib.hid (fun w => refRead_any D w (by have := HB0.out.2; omega) gD)
  have HTN := Lib.hid (strD_dv _ n1)
  have HTD := Lib.hid (strD_dv _ n2)
  clear n1 n2 gN gD
  generalize hnn : dv N = n at *
  generalize hdd : dv D = d at *
  have HNN := Lib.hid hnn
  have HDD := Lib.hid hdd
  clear hnn hdd
  obtain ⟨g, hg⟩ : ∃ g, g = Nat.gcd n d := ⟨_, rfl⟩
  have hRg : R = decide (g = 1) := hRg.trans (by rw [decide_eq_decide, hg])
  have hg0 : 0 < g := by rw [hg]; exact Nat.gcd_pos_of_pos_right n (by omega)
  have hgd : g ∣ d := by rw [hg]; exact Nat.gcd_dvd_right n d
  have QL := Lib.hid (fun oa ob ca cb w h1 h2 => refLowest_any n d oa ob ca cb w (by omega) h1 h2 lN lD)
  rw [← hg] at QL
  have hd1 : 0 < d := by omega
  have HRL := Lib.hid (show R = (decide (n / g = n) && decide (d / g = d)) by rw [hRg, lowest_iff hg0 hd1 hgd])
  have HGB := Lib.hid (show R = true → g = 1 by rw [hRg]; exact of_decide_eq_true)
  have hl1 : (dig (n / g)).length < 1099511627776 := by
    have := length_dig_le (n / g) (dig n).length (Nat.lt_of_le_of_lt (Nat.div_le_self _ _) (lt_pow_length n))
    omega
  have hl2 : (dig (d / g)).length < 1099511627776 := by
    have := length_dig_le (d / g) (dig d).length (Nat.lt_of_le_of_lt (Nat.div_le_self _ _) (lt_pow_length d))
    omega
  have QS := Lib.hid (fun on od cn cd w h => refSay_any (n / g) (d / g) on od cn cd w h hl1 hl2)
  clear hy lN lD hg hg0 hgd hRg hl1 hl2
  go_upto_region 3 with (fail)
  obtain ⟨M, hM⟩ : ∃ M, M = w1.heap.size := ⟨_, rfl⟩
  have HM := Lib.hid hM
  have hwa : Below M w1 w1.drew := (Below.refl _ _).drew
  have swa : M ≤ w1.drew.heap.size := Nat.le_of_eq hM
  have hBM : B < M := by omega
  have hBM1 : B + 1 < M := by omega
  clear hM
  go_cut [6] (fun v w' => ∃ (E : Nat) (on od : Option Addr) (cn cd : Nat), v = .pointer (some ⟨E, 0, none⟩) ∧ w'.heap[E]? = some (.cells #[.slice on (dig (n / g)).length cn, .slice od (dig (d / g)).length cd] 63 (0, 0)) ∧ M ≤ E ∧ NFr w' (n / g) (d / g) on od ∧ Below M w1 w')
  case first =>
    refine Seg.wp_region_plan (fun w' => ∃ x : BelowT M w1, w' = x.w) (.quiet [0, 1, 3, 4] (.alt 2 (.alt 5 (.alt 6 (.one 7 (.last [])) (.one 7 (.one 6 (.last [])))) (.one 7 (.one 5 (.one 6 (.last []))))) (.one 7 (.one 2 (.one 5 (.one 6 (.last []))))))) 8 (by kernel_rfl) (by kernel_rfl) (fun _ _ d _ _ h => by cases d <;> exact h) (⟨⟨_, hwa⟩, rfl⟩) ?_
    try simp only [Seg.wpPlan, List.map_cons, List.map_nil, Seg.opAt, List.drop_succ_cons, List.drop_zero, Array.getD_eq_getD_getElem?, List.getElem?_toArray, List.getElem?_cons_succ, List.getElem?_cons_zero, Option.getD_some]
    repeat (any_goals (first | go_big_quiet_step (fail) | quiet_step (fail)))
    refine wpQuiet_nil ?_
    try simp only [Seg.wpPlan, List.map_cons, List.map_nil, Seg.opAt, List.drop_succ_cons, List.drop_zero, Array.getD_eq_getD_getElem?, List.getElem?_toArray, List.getElem?_cons_succ, List.getElem?_cons_zero, Option.getD_some]
    generalize w1.drew = wa at *
    refine ⟨?_, ?_⟩
    · try unfold Seg.wpUp
      intro K hK
      first | go_simp | skip
      go_wp2_with (go_at_call 78; refine (QN.out wa).mono ?_; rintro e wb ⟨oa, ca, rfl, iN, twb, _⟩)
      have hwb := hwa.trans (twb.mono swa)
      have swb := Nat.le_trans swa twb.size
      refine hK _ _ ⟨⟨_, hwb⟩, rfl⟩ ?_
      clear hK K hwa swa twb
      try simp only [Seg.wpPlan, List.map_cons, List.map_nil, Seg.opAt, List.drop_succ_cons, List.drop_zero, Array.getD_eq_getD_getElem?, List.getElem?_toArray, List.getElem?_cons_succ, List.getElem?_cons_zero, Option.getD_some]
      refine ⟨?_, ?_⟩
      · try unfold Seg.wpUp
        intro K hK
        first | go_simp | skip
        go_wp2_with (go_at_call 78; refine (QD.out wb).mono ?_; rintro e wc2 ⟨ob, cb, rfl, iD, twc2, _⟩)
        have hwc2 := hwb.trans (twc2.mono swb)
        have swc2 := Nat.le_trans swb twc2.size
        have kk := iN.below twc2
        clear iN
        have iN := kk
        clear kk
        refine hK _ _ ⟨⟨_, hwc2⟩, rfl⟩ ?_
        clear hK K hwb swb twc2
        try simp only [Seg.wpPlan, List.map_cons, List.map_nil, Seg.opAt, List.drop_succ_cons, List.drop_zero, Array.getD_eq_getD_getElem?, List.getElem?_toArray, List.getElem?_cons_succ, List.getElem?_cons_zero, Option.getD_some]
        refine ⟨?_, ?_⟩
        · try unfold Seg.wpUp
          intro K hK
          first | go_simp | skip
          go_wp2_with (go_at_call 60; refine (QL.out oa ob ca cb wc2 iN iD).mono ?_; rintro e wd ⟨on, od, cn, cd, rfl, hF, twd⟩)
          have hwd := hwc2.trans (twd.mono swc2)
          have swd := Nat.le_trans swc2 twd.size
          have kk := iN.below twd
          clear iN
          have iN := kk
          clear kk
          have kk := iD.below twd
          clear iD
          have iD := kk
          clear kk
          refine hK _ _ ⟨⟨_, hwd⟩, rfl⟩ ?_
          clear hK K hwc2 swc2 twd
          try simp only [Seg.wpPlan, List.map_cons, List.map_nil, Seg.opAt, List.drop_succ_cons, List.drop_zero, Array.getD_eq_getD_getElem?, List.getElem?_toArray, List.getElem?_cons_succ, List.getElem?_cons_zero, Option.getD_some]
          try unfold Seg.wpUp
          intro K hK
          first | go_simp | skip
          go_wp2_with fail
          have hwe : Below M w1 (wd.alloc (.cells #[.slice none 0 0, .slice none 0 0] 63)) := hwd.alloc swd _
          have swe : M ≤ (wd.alloc (.cells #[.slice none 0 0, .slice none 0 0] 63)).heap.size := by simp; omega
          have twe : Below wd.heap.size wd (wd.alloc (.cells #[.slice none 0 0, .slice none 0 0] 63)) := (Below.refl _ _).alloc (Nat.le_refl _) _
          have eE : (wd.alloc (.cells #[.slice none 0 0, .slice none 0 0] 63)).heap[wd.heap.size]? = some (.cells #[.slice none 0 0, .slice none 0 0] 63 (0, 0)) := heap_at rfl
          have mE : M ≤ wd.heap.size := swd
          have kk := hF.below twe
          clear hF
          have hF := kk
          clear kk
          refine hK _ _ ⟨⟨_, hwe⟩, rfl⟩ ?_
          clear hK K hwd swd twe
          generalize (wd.alloc (.cells #[.slice none 0 0, .slice none 0 0] 63)) = we at *
          generalize wd.heap.size = E at *
          try simp only [Seg.wpPlan, List.map_cons, List.map_nil, Seg.opAt, List.drop_succ_cons, List.drop_zero, Array.getD_eq_getD_getElem?, List.getElem?_toArray, List.getElem?_cons_succ, List.getElem?_cons_zero, Option.getD_some]
          repeat (any_goals (first | go_big_quiet_step (fail) | quiet_step (fail)))
          refine wpQuiet_nil ?_
          try simp only [Seg.wpPlan, List.map_cons, List.map_nil, Seg.opAt, List.drop_succ_cons, List.drop_zero, Array.getD_eq_getD_getElem?, List.getElem?_toArray, List.getElem?_cons_succ, List.getElem?_cons_zero, Option.getD_some]
          go_wp2_with (refine wpList_store_whole rfl rfl 63 _ _ rfl E #[.slice none 0 0, .slice none 0 0] #[.slice on (dig (n / g)).length cn, .slice od (dig (d / g)).length cd] 63 rfl rfl eE rfl HS.out (two_slices _ _ _ _ _ _) ?_; intro w8 ho hp)
          go_meet
          exact ⟨E, on, od, cn, cd, rfl, hp, mE, ⟨hF.num.spared eE two_noInt ho, hF.den.spared eE two_noInt ho⟩, bel_only hwe ho mE⟩
        · try unfold Seg.wpUp
          intro K hK
          first | go_simp | skip
          go_wp2_with fail
          have hwd : Below M w1 (wc2.alloc (.cells #[.slice none 0 0, .slice none 0 0] 63)) := hwc2.alloc swc2 _
          have swd : M ≤ (wc2.alloc (.cells #[.slice none 0 0, .slice none 0 0] 63)).heap.size := by simp; omega
          have twd : Below wc2.heap.size wc2 (wc2.alloc (.cells #[.slice none 0 0, .slice none 0 0] 63)) := (Below.refl _ _).alloc (Nat.le_refl _) _
          have eE : (wc2.alloc (.cells #[.slice none 0 0, .slice none 0 0] 63)).heap[wc2.heap.size]? = some (.cells #[.slice none 0 0, .slice none 0 0] 63 (0, 0)) := heap_at rfl
          have mE : M ≤ wc2.heap.size := swc2
          have kk := iN.below twd
          clear iN
          have iN := kk
          clear kk
          have kk := iD.below twd
          clear iD
          have iD := kk
          clear kk
          refine hK _ _ ⟨⟨_, hwd⟩, rfl⟩ ?_
          clear hK K hwc2 swc2 twd
          generalize (wc2.alloc (.cells #[.slice none 0 0, .slice none 0 0] 63)) = wd at *
          generalize wc2.heap.size = E at *
          try simp only [Seg.wpPlan, List.map_cons, List.map_nil, Seg.opAt, List.drop_succ_cons, List.drop_zero, Array.getD_eq_getD_getElem?, List.getElem?_toArray, List.getElem?_cons_succ, List.getElem?_cons_zero, Option.getD_some]
          try unfold Seg.wpUp
          intro K hK
          first | go_simp | skip
          go_wp2_with (go_at_call 60; refine (QL.out oa ob ca cb wd iN iD).mono ?_; rintro e we ⟨on, od, cn, cd, rfl, hF, twe⟩)
          have hwe := hwd.trans (twe.mono swd)
          have swe := Nat.le_trans swd twe.size
          have kk := iN.below twe
          clear iN
          have iN := kk
          clear kk
          have kk := iD.below twe
          clear iD
          have iD := kk
          clear kk
          have kk := bel_keep twe (lt_of_heap eE) eE
          clear eE
          have eE := kk
          clear kk
          refine hK _ _ ⟨⟨_, hwe⟩, rfl⟩ ?_
          clear hK K hwd swd twe
          try simp only [Seg.wpPlan, List.map_cons, List.map_nil, Seg.opAt, List.drop_succ_cons, List.drop_zero, Array.getD_eq_getD_getElem?, List.getElem?_toArray, List.getElem?_cons_succ, List.getElem?_cons_zero, Option.getD_some]
          repeat (any_goals (first | go_big_quiet_step (fail) | quiet_step (fail)))
          refine wpQuiet_nil ?_
          try simp only [Seg.wpPlan, List.map_cons, List.map_nil, Seg.opAt, List.drop_succ_cons, List.drop_zero, Array.getD_eq_getD_getElem?, List.getElem?_toArray, List.getElem?_cons_succ, List.getElem?_cons_zero, Option.getD_some]
          go_wp2_with (refine wpList_store_whole rfl rfl 63 _ _ rfl E #[.slice none 0 0, .slice none 0 0] #[.slice on (dig (n / g)).length cn, .slice od (dig (d / g)).length cd] 63 rfl rfl eE rfl HS.out (two_slices _ _ _ _ _ _) ?_; intro w8 ho hp)
          go_meet
          exact ⟨E, on, od, cn, cd, rfl, hp, mE, ⟨hF.num.spared eE two_noInt ho, hF.den.spared eE two_noInt ho⟩, bel_only hwe ho mE⟩
      · try unfold Seg.wpUp
        intro K hK
        first | go_simp | skip
        go_wp2_with fail
        have hwc2 : Below M w1 (wb.alloc (.cells #[.slice none 0 0, .slice none 0 0] 63)) := hwb.alloc swb _
        have swc2 : M ≤ (wb.alloc (.cells #[.slice none 0 0, .slice none 0 0] 63)).heap.size := by simp; omega
        have twc2 : Below wb.heap.size wb (wb.alloc (.cells #[.slice none 0 0, .slice none 0 0] 63)) := (Below.refl _ _).alloc (Nat.le_refl _) _
        have eE : (wb.alloc (.cells #[.slice none 0 0, .slice none 0 0] 63)).heap[wb.heap.size]? = some (.cells #[.slice none 0 0, .slice none 0 0] 63 (0, 0)) := heap_at rfl
        have mE : M ≤ wb.heap.size := swb
        have kk := iN.below twc2
        clear iN
        have iN := kk
        clear kk
        refine hK _ _ ⟨⟨_, hwc2⟩, rfl⟩ ?_
        clear hK K hwb swb twc2
        generalize (wb.alloc (.cells #[.slice none 0 0, .slice none 0 0] 63)) = wc2 at *
        generalize wb.heap.size = E at *
        try simp only [Seg.wpPlan, List.map_cons, List.map_nil, Seg.opAt, List.drop_succ_cons, List.drop_zero, Array.getD_eq_getD_getElem?, List.getElem?_toArray, List.getElem?_cons_succ, List.getElem?_cons_zero, Option.getD_some]
        try unfold Seg.wpUp
        intro K hK
        first | go_simp | skip
        go_wp2_with (go_at_call 78; refine (QD.out wc2).mono ?_; rintro e wd ⟨ob, cb, rfl, iD, twd, _⟩)
        have hwd := hwc2.trans (twd.mono swc2)
        have swd := Nat.le_trans swc2 twd.size
        have kk := iN.below twd
        clear iN
        have iN := kk
        clear kk
        have kk := bel_keep twd (lt_of_heap eE) eE
        clear eE
        have eE := kk
        clear kk
        refine hK _ _ ⟨⟨_, hwd⟩, rfl⟩ ?_
        clear hK K hwc2 swc2 twd
        try simp only [Seg.wpPlan, List.map_cons, List.map_nil, Seg.opAt, List.drop_succ_cons, List.drop_zero, Array.getD_eq_getD_getElem?, List.getElem?_toArray, List.getElem?_cons_succ, List.getElem?_cons_zero, Option.getD_some]
        try unfold Seg.wpUp
        intro K hK
        first | go_simp | skip
        go_wp2_with (go_at_call 60; refine (QL.out oa ob ca cb wd iN iD).mono ?_; rintro e we ⟨on, od, cn, cd, rfl, hF, twe⟩)
        have hwe := hwd.trans (twe.mono swd)
        have swe := Nat.le_trans swd twe.size
        have kk := iN.below twe
        clear iN
        have iN := kk
        clear kk
        have kk := bel_keep twe (lt_of_heap eE) eE
        clear eE
        have eE := kk
        clear kk
        have kk := iD.below twe
        clear iD
        have iD := kk
        clear kk
        refine hK _ _ ⟨⟨_, hwe⟩, rfl⟩ ?_
        clear hK K hwd swd twe
        try simp only [Seg.wpPlan, List.map_cons, List.map_nil, Seg.opAt, List.drop_succ_cons, List.drop_zero, Array.getD_eq_getD_getElem?, List.getElem?_toArray, List.getElem?_cons_succ, List.getElem?_cons_zero, Option.getD_some]
        repeat (any_goals (first | go_big_quiet_step (fail) | quiet_step (fail)))
        refine wpQuiet_nil ?_
        try simp only [Seg.wpPlan, List.map_cons, List.map_nil, Seg.opAt, List.drop_succ_cons, List.drop_zero, Array.getD_eq_getD_getElem?, List.getElem?_toArray, List.getElem?_cons_succ, List.getElem?_cons_zero, Option.getD_some]
        go_wp2_with (refine wpList_store_whole rfl rfl 63 _ _ rfl E #[.slice none 0 0, .slice none 0 0] #[.slice on (dig (n / g)).length cn, .slice od (dig (d / g)).length cd] 63 rfl rfl eE rfl HS.out (two_slices _ _ _ _ _ _) ?_; intro w8 ho hp)
        go_meet
        exact ⟨E, on, od, cn, cd, rfl, hp, mE, ⟨hF.num.spared eE two_noInt ho, hF.den.spared eE two_noInt ho⟩, bel_only hwe ho mE⟩
    · try unfold Seg.wpUp
      intro K hK
      first | go_simp | skip
      go_wp2_with fail
      have hwb : Below M w1 (wa.alloc (.cells #[.slice none 0 0, .slice none 0 0] 63)) := hwa.alloc swa _
      have swb : M ≤ (wa.alloc (.cells #[.slice none 0 0, .slice none 0 0] 63)).heap.size := by simp; omega
      have twb : Below wa.heap.size wa (wa.alloc (.cells #[.slice none 0 0, .slice none 0 0] 63)) := (Below.refl _ _).alloc (Nat.le_refl _) _
      have eE : (wa.alloc (.cells #[.slice none 0 0, .slice none 0 0] 63)).heap[wa.heap.size]? = some (.cells #[.slice none 0 0, .slice none 0 0] 63 (0, 0)) := heap_at rfl
      have mE : M ≤ wa.heap.size := swa
      refine hK _ _ ⟨⟨_, hwb⟩, rfl⟩ ?_
      clear hK K hwa swa twb
      generalize (wa.alloc (.cells #[.slice none 0 0, .slice none 0 0] 63)) = wb at *
      generalize wa.heap.size = E at *
      try simp only [Seg.wpPlan, List.map_cons, List.map_nil, Seg.opAt, List.drop_succ_cons, List.drop_zero, Array.getD_eq_getD_getElem?, List.getElem?_toArray, List.getElem?_cons_succ, List.getElem?_cons_zero, Option.getD_some]
      try unfold Seg.wpUp
      intro K hK
      first | go_simp | skip
      go_wp2_with (go_at_call 78; refine (QN.out wb).mono ?_; rintro e wc2 ⟨oa, ca, rfl, iN, twc2, _⟩)
      have hwc2 := hwb.trans (twc2.mono swb)
      have swc2 := Nat.le_trans swb twc2.size
      have kk := bel_keep twc2 (lt_of_heap eE) eE
      clear eE
      have eE := kk
      clear kk
      refine hK _ _ ⟨⟨_, hwc2⟩, rfl⟩ ?_
      clear hK K hwb swb twc2
      try simp only [Seg.wpPlan, List.map_cons, List.map_nil, Seg.opAt, List.drop_succ_cons, List.drop_zero, Array.getD_eq_getD_getElem?, List.getElem?_toArray, List.getElem?_cons_succ, List.getElem?_cons_zero, Option.getD_some]
      try unfold Seg.wpUp
      intro K hK
      first | go_simp | skip
      go_wp2_with (go_at_call 78; refine (QD.out wc2).mono ?_; rintro e wd ⟨ob, cb, rfl, iD, twd, _⟩)
      have hwd := hwc2.trans (twd.mono swc2)
      have swd := Nat.le_trans swc2 twd.size
      have kk := bel_keep twd (lt_of_heap eE) eE
      clear eE
      have eE := kk
      clear kk
      have kk := iN.below twd
      clear iN
      have iN := kk
      clear kk
      refine hK _ _ ⟨⟨_, hwd⟩, rfl⟩ ?_
      clear hK K hwc2 swc2 twd
      try simp only [Seg.wpPlan, List.map_cons, List.map_nil, Seg.opAt, List.drop_succ_cons, List.drop_zero, Array.getD_eq_getD_getElem?, List.getElem?_toArray, List.getElem?_cons_succ, List.getElem?_cons_zero, Option.getD_some]
      try unfold Seg.wpUp
      intro K hK
      first | go_simp | skip
      go_wp2_with (go_at_call 60; refine (QL.out oa ob ca cb wd iN iD).mono ?_; rintro e we ⟨on, od, cn, cd, rfl, hF, twe⟩)
      have hwe := hwd.trans (twe.mono swd)
      have swe := Nat.le_trans swd twe.size
      have kk := bel_keep twe (lt_of_heap eE) eE
      clear eE
      have eE := kk
      clear kk
      have kk := iN.below twe
      clear iN
      have iN := kk
      clear kk
      have kk := iD.below twe
      clear iD
      have iD := kk
      clear kk
      refine hK _ _ ⟨⟨_, hwe⟩, rfl⟩ ?_
      clear hK K hwd swd twe
      try simp only [Seg.wpPlan, List.map_cons, List.map_nil, Seg.opAt, List.drop_succ_cons, List.drop_zero, Array.getD_eq_getD_getElem?, List.getElem?_toArray, List.getElem?_cons_succ, List.getElem?_cons_zero, Option.getD_some]
      repeat (any_goals (first | go_big_quiet_step (fail) | quiet_step (fail)))
      refine wpQuiet_nil ?_
      try simp only [Seg.wpPlan, List.map_cons, List.map_nil, Seg.opAt, List.drop_succ_cons, List.drop_zero, Array.getD_eq_getD_getElem?, List.getElem?_toArray, List.getElem?_cons_succ, List.getElem?_cons_zero, Option.getD_some]
      go_wp2_with (refine wpList_store_whole rfl rfl 63 _ _ rfl E #[.slice none 0 0, .slice none 0 0] #[.slice on (dig (n / g)).length cn, .slice od (dig (d / g)).length cd] 63 rfl rfl eE rfl HS.out (two_slices _ _ _ _ _ _) ?_; intro w8 ho hp)
      go_meet
      exact ⟨E, on, od, cn, cd, rfl, hp, mE, ⟨hF.num.spared eE two_noInt ho, hF.den.spared eE two_noInt ho⟩, bel_only hwe ho mE⟩
  case rest =>
  generalize wc = w6 at *
  obtain ⟨E, on, od, cn, cd, rfl, eE, mE, hF, b6⟩ := hcut
  have HB6 := Lib.hid (HB1.out.keep (by omega) (HM.out ▸ b6))
  have HE6 := Lib.hid eE
  have HF6 := Lib.hid hF
  have BL6 := Lib.hid (show Below B w w6 from HB6.out.bel)
  obtain ⟨M2, hM2⟩ : ∃ M, M = w6.heap.size := ⟨_, rfl⟩
  have HM2 := Lib.hid hM2
  have hE2 : E < M2 := by rw [hM2]; exact lt_of_heap eE
  have hB2 : B < M2 := by rw [hM2]; exact lt_of_heap HB6.out.x
  have hB21 : B + 1 < M2 := by rw [hM2]; exact lt_of_heap HB6.out.z
  have hEB : E ≠ B + 1 := by omega
  have hBB : B ≠ B + 1 := by omega
  have G0 : w6.grownBy w6.drew (some (B + 1)) := grown_only (Only.refl _ w6).drew
  clear hM2 eE hF b6 c1 c2 hwa swa QN QD QL HB1 HB0
  have HX : Hid ((strD (n / g) = N ∧ strD (d / g) = D ∧ R = true) ∨ (strD (n / g) = N ∧ strD (d / g) ≠ D ∧ R = false) ∨ (strD (n / g) ≠ N ∧ R = false)) := Lib.hid (by
    have e1 : strD (n / g) = N ↔ n / g = n := by
      rw [← HTN.out]
      exact ⟨fun h => by exact strD_inj h, fun h => by rw [h]⟩
    have e2 : strD (d / g) = D ↔ d / g = d := by
      rw [← HTD.out]
      exact ⟨fun h => by exact strD_inj h, fun h => by rw [h]⟩
    by_cases h1 : n / g = n
    · by_cases h2 : d / g = d
      · exact .inl ⟨e1.2 h1, e2.2 h2, by rw [HRL.out, decide_eq_true h1, decide_eq_true h2]; rfl⟩
      · exact .inr (.inl ⟨e1.2 h1, fun h => h2 (e2.1 h), by rw [HRL.out, decide_eq_false h2, Bool.and_false]⟩)
    · exact .inr (.inr ⟨fun h => h1 (e1.1 h), by rw [HRL.out, decide_eq_false h1, Bool.false_and]⟩))
  clear HRL HTN HTD
  have HFF := Lib.hid (show R = true → NFr w6 n d on od ∧ (dig (n / g)).length = (dig n).length ∧ (dig (d / g)).length = (dig d).length by
    intro h
    have hg1 := HGB.out h
    have h2 := HF6.out
    rw [hg1, Nat.div_one, Nat.div_one] at h2
    rw [hg1, Nat.div_one, Nat.div_one]
    exact ⟨h2, rfl, rfl⟩)
  generalize strD (n / g) = X at *
  generalize strD (d / g) = Y at *
  rcases HX.out with ⟨hX, hY, hr⟩ | ⟨hX, hY, hr⟩ | ⟨hX, hr⟩
  · have HR5 := Lib.hid hr
    subst hX
    subst hY
    clear hr HX
    go_upto_region 4 with (fail)
    refine Seg.wp_region_segs (fun w' => ∃ x : GrT (B + 1) M2 w6, w' = x.w) [([0, 1, 3], 2), ([4], 5)] [] 6 (by kernel_rfl) (by kernel_rfl) (fun _ _ d _ _ h => by cases d <;> exact h) (grT_of HM2.out G0) ?_
    simp only [List.map_cons, List.map_nil, Seg.opAt, List.drop_succ_cons, List.drop_zero, Seg.wpSegs, Array.getD_eq_getD_getElem?, List.getElem?_toArray, List.getElem?_cons_succ, List.getElem?_cons_zero, Option.getD_some]
    refine wpQuiet_load_at rfl 63 _ rfl ⟨E, 0, none⟩ [.slice on (dig (n / g)).length cn, .slice od (dig (d / g)).length cd] _ rfl (fun w' hw' => news_blk (GrT.block hw' hE2 hEB HE6.out)) Tryd.underlying63 rfl HS.out ?_
    refine wpQuiet_load_at rfl 63 _ rfl ⟨E, 0, none⟩ [.slice on (dig (n / g)).length cn, .slice od (dig (d / g)).length cd] _ rfl (fun w' hw' => news_blk (GrT.block hw' hE2 hEB HE6.out)) Tryd.underlying63 rfl HS.out ?_
    refine wpQuiet_load_at rfl 24 _ rfl ⟨B, 0, none⟩ [.string ⟨X.toArray⟩, .string ⟨Y.toArray⟩] _ rfl (fun w' hw' => news_blk (GrT.block hw' hB2 hBB HB6.out.x)) Tryd.underlying24 rfl size_apiF ?_
    refine wpQuiet_nil ?_
    intro K hK
    simp only [Region.wanted, if_true]
    go_wp2_with (go_at_call 31; refine (QS.out on od cn cd w6.drew ⟨HF6.out.num.drew, HF6.out.den.drew⟩).mono ?_; rintro e w7 ⟨rfl, b7⟩)
    have G7 := gtrans G0 (grown_below (b := B + 1) b7)
    have B7 := Lib.hid ((Below.refl w6.heap.size w6).drew.trans b7)
    refine hK _ _ (grT_of HM2.out G7) ?_
    clear hK K b7
    repeat (any_goals (first | go_big_quiet_step (fail) | quiet_step (fail)))
    refine wpQuiet_nil ?_
    intro K hK
    rw [if_pos (by rfl)]
    have hz7 := bel_keep B7.out (by rw [← HM2.out]; exact hB21) HB6.out.z
    refine wp_store_whole rfl 63 _ _ rfl (B + 1) #[.slice none 0 0, .slice none 0 0] #[.slice on (dig (n / g)).length cn, .slice od (dig (d / g)).length cd] 63 rfl rfl hz7 rfl HS.out (two_slices _ _ _ _ _ _) (fun w9 ho hp => ?_)
    refine hK _ _ (grT_of HM2.out (gtrans G7 (grown_only ho))) ?_
    clear hK K
    repeat (any_goals (first | go_big_quiet_step (fail) | quiet_step (fail)))
    refine wpQuiet_nil ?_
    go_wp2_with fail
    refine bodyPost_ret (results_cell_tmp rfl _ w9 (B + 1) _ _ _ _ _ rfl rfl hp Tryd.underlying63 rfl HS.out) rfl ⟨on, (dig (n / g)).length, cn, od, (dig (d / g)).length, cd, by rw [HR5.out]; rfl, fun h => by rw [HNN.out, HDD.out]; exact ⟨(HFF.out HR5.out).2.1, (HFF.out HR5.out).2.2, ((HFF.out HR5.out).1.below B7.out).num.spared hz7 two_noInt ho, ((HFF.out HR5.out).1.below B7.out).den.spared hz7 two_noInt ho⟩, bel_only (by rw [HB.out]; exact BL6.out.trans (B7.out.mono (by have := HM2.out; omega))) ho (by rw [HB.out]; omega)⟩
  · have HR5 := Lib.hid hr
    have hY2 : (Y == D) = false := by rw [beq_eq_false_iff_ne]; exact hY
    subst hX
    clear hr HX
    go_upto_region 4 with (fail)
    refine Seg.wp_region_segs (fun w' => ∃ x : GrT (B + 1) M2 w6, w' = x.w) [([0, 1, 3], 2), ([4], 5)] [] 6 (by kernel_rfl) (by kernel_rfl) (fun _ _ d _ _ h => by cases d <;> exact h) (grT_of HM2.out G0) ?_
    simp only [List.map_cons, List.map_nil, Seg.opAt, List.drop_succ_cons, List.drop_zero, Seg.wpSegs, Array.getD_eq_getD_getElem?, List.getElem?_toArray, List.getElem?_cons_succ, List.getElem?_cons_zero, Option.getD_some]
    refine wpQuiet_load_at rfl 63 _ rfl ⟨E, 0, none⟩ [.slice on (dig (n / g)).length cn, .slice od (dig (d / g)).length cd] _ rfl (fun w' hw' => news_blk (GrT.block hw' hE2 hEB HE6.out)) Tryd.underlying63 rfl HS.out ?_
    refine wpQuiet_load_at rfl 63 _ rfl ⟨E, 0, none⟩ [.slice on (dig (n / g)).length cn, .slice od (dig (d / g)).length cd] _ rfl (fun w' hw' => news_blk (GrT.block hw' hE2 hEB HE6.out)) Tryd.underlying63 rfl HS.out ?_
    refine wpQuiet_load_at rfl 24 _ rfl ⟨B, 0, none⟩ [.string ⟨X.toArray⟩, .string ⟨D.toArray⟩] _ rfl (fun w' hw' => news_blk (GrT.block hw' hB2 hBB HB6.out.x)) Tryd.underlying24 rfl size_apiF ?_
    refine wpQuiet_nil ?_
    intro K hK
    simp only [Region.wanted, if_true]
    go_wp2_with (go_at_call 31; refine (QS.out on od cn cd w6.drew ⟨HF6.out.num.drew, HF6.out.den.drew⟩).mono ?_; rintro e w7 ⟨rfl, b7⟩)
    have G7 := gtrans G0 (grown_below (b := B + 1) b7)
    have B7 := Lib.hid ((Below.refl w6.heap.size w6).drew.trans b7)
    refine hK _ _ (grT_of HM2.out G7) ?_
    clear hK K b7
    repeat (any_goals (first | go_big_quiet_step (fail) | quiet_step (fail)))
    refine wpQuiet_nil ?_
    intro K hK
    rw [if_pos (by rfl)]
    have hz7 := bel_keep B7.out (by rw [← HM2.out]; exact hB21) HB6.out.z
    refine wp_store_whole rfl 63 _ _ rfl (B + 1) #[.slice none 0 0, .slice none 0 0] #[.slice on (dig (n / g)).length cn, .slice od (dig (d / g)).length cd] 63 rfl rfl hz7 rfl HS.out (two_slices _ _ _ _ _ _) (fun w9 ho hp => ?_)
    refine hK _ _ (grT_of HM2.out (gtrans G7 (grown_only ho))) ?_
    clear hK K
    repeat (any_goals (first | go_big_quiet_step (fail) | quiet_step (fail)))
    refine wpQuiet_nil ?_
    go_wp2_with fail
    refine bodyPost_ret (results_cell_tmp rfl _ w9 (B + 1) _ _ _ _ _ rfl rfl hp Tryd.underlying63 rfl HS.out) rfl ⟨on, (dig (n / g)).length, cn, od, (dig (d / g)).length, cd, by rw [HR5.out]; rfl, fun h => by (rw [HR5.out] at h; cases h), bel_only (by rw [HB.out]; exact BL6.out.trans (B7.out.mono (by have := HM2.out; omega))) ho (by rw [HB.out]; omega)⟩
  · have HR5 := Lib.hid hr
    have hX2 : (X == N) = false := by rw [beq_eq_false_iff_ne]; exact hX
    clear hr HX
    go_upto_region 4 with (fail)
    refine Seg.wp_region_segs (fun w' => ∃ x : GrT (B + 1) M2 w6, w' = x.w) [([0, 1, 3], 2), ([4], 5)] [] 6 (by kernel_rfl) (by kernel_rfl) (fun _ _ d _ _ h => by cases d <;> exact h) (grT_of HM2.out G0) ?_
    simp only [List.map_cons, List.map_nil, Seg.opAt, List.drop_succ_cons, List.drop_zero, Seg.wpSegs, Array.getD_eq_getD_getElem?, List.getElem?_toArray, List.getElem?_cons_succ, List.getElem?_cons_zero, Option.getD_some]
    refine wpQuiet_load_at rfl 63 _ rfl ⟨E, 0, none⟩ [.slice on (dig (n / g)).length cn, .slice od (dig (d / g)).length cd] _ rfl (fun w' hw' => news_blk (GrT.block hw' hE2 hEB HE6.out)) Tryd.underlying63 rfl HS.out ?_
    refine wpQuiet_load_at rfl 63 _ rfl ⟨E, 0, none⟩ [.slice on (dig (n / g)).length cn, .slice od (dig (d / g)).length cd] _ rfl (fun w' hw' => news_blk (GrT.block hw' hE2 hEB HE6.out)) Tryd.underlying63 rfl HS.out ?_
    refine wpQuiet_load_at rfl 24 _ rfl ⟨B, 0, none⟩ [.string ⟨N.toArray⟩, .string ⟨D.toArray⟩] _ rfl (fun w' hw' => news_blk (GrT.block hw' hB2 hBB HB6.out.x)) Tryd.underlying24 rfl size_apiF ?_
    refine wpQuiet_nil ?_
    intro K hK
    simp only [Region.wanted, if_true]
    go_wp2_with (go_at_call 31; refine (QS.out on od cn cd w6.drew ⟨HF6.out.num.drew, HF6.out.den.drew⟩).mono ?_; rintro e w7 ⟨rfl, b7⟩)
    have G7 := gtrans G0 (grown_below (b := B + 1) b7)
    have B7 := Lib.hid ((Below.refl w6.heap.size w6).drew.trans b7)
    refine hK _ _ (grT_of HM2.out G7) ?_
    clear hK K b7
    repeat (any_goals (first | go_big_quiet_step (fail) | quiet_step (fail)))
    refine wpQuiet_nil ?_
    intro K hK
    rw [if_pos (by rfl)]
    have hz7 := bel_keep B7.out (by rw [← HM2.out]; exact hB21) HB6.out.z
    refine wp_store_whole rfl 63 _ _ rfl (B + 1) #[.slice none 0 0, .slice none 0 0] #[.slice on (dig (n / g)).length cn, .slice od (dig (d / g)).length cd] 63 rfl rfl hz7 rfl HS.out (two_slices _ _ _ _ _ _) (fun w9 ho hp => ?_)
    refine hK _ _ (grT_of HM2.out (gtrans G7 (grown_only ho))) ?_
    clear hK K
    repeat (any_goals (first | go_big_quiet_step (fail) | quiet_step (fail)))
    refine wpQuiet_nil ?_
    go_wp2_with fail
    refine bodyPost_ret (results_cell_tmp rfl _ w9 (B + 1) _ _ _ _ _ rfl rfl hp Tryd.underlying63 rfl HS.out) rfl ⟨on, (dig (n / g)).length, cn, od, (dig (d / g)).length, cd, by rw [HR5.out]; rfl, fun h => by (rw [HR5.out] at h; cases h), bel_only (by rw [HB.out]; exact BL6.out.trans (B7.out.mono (by have := HM2.out; omega))) ho (by rw [HB.out]; omega)⟩
end Go.Proofs.YtlbdcgnpkapncaaDoor
