/-
  Chapter 14, for Draw: audit.read. Printed by tools/genread.py.
-/
import Derived.Test.YtlbdcgnpkapncaaDoorAuU
import Derived.Test.YtlbdcgnpkapncaaDoorAuR
import Derived.Test.YtlbdcgnpkapncaaDoorPlan
namespace Go.Proofs.YtlbdcgnpkapncaaDoor
set_option linter.unusedVariables false
set_option linter.unusedSimpArgs false
open Go.RowKit ML FM NL AU

theorem three_noInt : (#[Value.slice none 0 0, Value.slice none 0 0, Value.slice none 0 0] : Array Value).all noInt = true := by simp [noInt]
theorem three_noInt2 (o1 o2 o3 : Option Addr) (n1 c1 n2 c2 n3 c3 : Nat) : (#[Value.slice o1 n1 c1, Value.slice o2 n2 c2, Value.slice o3 n3 c3] : Array Value).all noInt = true := by simp [noInt]
set_option maxHeartbeats 8000000 in
set_option maxRecDepth 100000 in
theorem audRead_any (A B : List Int) (S O : List (Bytes × Bytes)) (N D : Bytes) (dr n : Int) (o0 o1 o2 o3 : Option Addr) (c0 c1 c2 c3 : Nat) (w : World) (hW : WAt w o0 o1 o2 o3 A B S O) (lA : A.length < 140737488355) (hN : N.length < 140737488355328) (hD : D.length < 140737488355328) (lS : Short S 140737488355327) (lO : Short O 100000000) (hn : 2 ≤ n ∧ n ≤ 12) :
    Calls Tryd.prog 36 #[.agg #[.slice o0 A.length c0, .slice o1 B.length c1, .slice o2 S.length c2, .slice o3 O.length c3, .string ⟨N.toArray⟩, .string ⟨D.toArray⟩, .int .i64 dr], .int .i64 n] w (RdGot A B S O N D n w) := by
  have QR := Lib.hid (fun w => audRisk_any N D w hN hD)
  unfold ARGot at QR
  have HS := Lib.hid size_lfr
  have HW := Lib.hid hW
  have LS := Lib.hid lS
  have LO := Lib.hid lO
  obtain ⟨re, hre⟩ : ∃ re, re = riskE N D := ⟨_, rfl⟩
  rw [← hre] at QR
  have HRE := Lib.hid hre
  clear hW lS lO hN hD hre
  go_enter Tryd.func36, Tryd.ntmps36
  go_upto_region 1 with (fail)
  have BX := BoxR.mk' w #[.slice o0 A.length c0, .slice o1 B.length c1, .slice o2 S.length c2, .slice o3 O.length c3, .string ⟨N.toArray⟩, .string ⟨D.toArray⟩, .int .i64 dr] #[.slice none 0 0, .slice none 0 0, .slice none 0 0] 27 73
  generalize hB : w.heap.size = B0 at *
  refine wp_abs (fun w1 => BoxR B0 w w1 #[.slice o0 A.length c0, .slice o1 B.length c1, .slice o2 S.length c2, .slice o3 O.length c3, .string ⟨N.toArray⟩, .string ⟨D.toArray⟩, .int .i64 dr] #[.slice none 0 0, .slice none 0 0, .slice none 0 0] 27 73) BX (fun w1 B1 => ?_)
  have HB := Lib.hid hB
  have a0 : w1.cell? ⟨B0, 0, none⟩ = some (.slice o0 A.length c0) := cell_of_row w1 B0 0 _ _ _ B1.x
  have a1 : w1.cell? ⟨B0, 1, none⟩ = some (.slice o1 B.length c1) := cell_of_row w1 B0 1 _ _ _ B1.x
  have a2 : w1.cell? ⟨B0, 2, none⟩ = some (.slice o2 S.length c2) := cell_of_row w1 B0 2 _ _ _ B1.x
  have a3 : w1.cell? ⟨B0, 3, none⟩ = some (.slice o3 O.length c3) := cell_of_row w1 B0 3 _ _ _ B1.x
  have b4 : w1.cell? ⟨B0, 4, none⟩ = some (.string ⟨N.toArray⟩) := cell_of_row w1 B0 4 _ _ _ B1.x
  have b5 : w1.cell? ⟨B0, 5, none⟩ = some (.string ⟨D.toArray⟩) := cell_of_row w1 B0 5 _ _ _ B1.x
  have hb1 : B0 + 1 < w1.heap.size := lt_of_heap B1.z
  have HBX := Lib.hid B1
  clear BX hB B1
  by_cases h1 : B.length = A.length
  case neg =>
    have d1 : ((B.length : Int) != (A.length : Int)) = true := by rw [int_bne]; exact decide_eq_true h1
    have hr := Lib.hid (rightW_no (n := n) (A := A) (B := B) (S := S) (O := O) (N := N) (D := D) (fun h => h1 h.lb))
    clear h1
    go_wp2_with (refine wpList_store_whole rfl rfl 73 _ _ rfl (B0 + 1) #[.slice none 0 0, .slice none 0 0, .slice none 0 0] #[.slice none 0 0, .slice none 0 0, .slice none 0 0] 73 rfl rfl HBX.out.z rfl size_awatch (three_one _ _ _ rfl rfl rfl) ?_; intro w9 ho hp)
    refine bodyPost_ret (results_cell_tmp rfl _ w9 (B0 + 1) _ _ _ _ _ rfl rfl hp Tryd.underlying73 rfl size_awatch) rfl (rdGot_bad hr.out rfl (bel_only (by rw [HB.out]; exact HBX.out.bel) ho (by rw [HB.out]; omega)))
  have d1 : ((B.length : Int) != (A.length : Int)) = false := by rw [int_bne]; exact decide_eq_false (fun h => h h1)
  by_cases h2 : S.length = A.length
  case neg =>
    have d2 : ((S.length : Int) != (A.length : Int)) = true := by rw [int_bne]; exact decide_eq_true h2
    have hr := Lib.hid (rightW_no (n := n) (A := A) (B := B) (S := S) (O := O) (N := N) (D := D) (fun h => h2 h.ls))
    clear h1 h2
    go_wp2_with (refine wpList_store_whole rfl rfl 73 _ _ rfl (B0 + 1) #[.slice none 0 0, .slice none 0 0, .slice none 0 0] #[.slice none 0 0, .slice none 0 0, .slice none 0 0] 73 rfl rfl HBX.out.z rfl size_awatch (three_one _ _ _ rfl rfl rfl) ?_; intro w9 ho hp)
    refine bodyPost_ret (results_cell_tmp rfl _ w9 (B0 + 1) _ _ _ _ _ rfl rfl hp Tryd.underlying73 rfl size_awatch) rfl (rdGot_bad hr.out rfl (bel_only (by rw [HB.out]; exact HBX.out.bel) ho (by rw [HB.out]; omega)))
  have d2 : ((S.length : Int) != (A.length : Int)) = false := by rw [int_bne]; exact decide_eq_false (fun h => h h2)
  by_cases h3 : O.length = A.length
  case neg =>
    have d3 : ((O.length : Int) != (A.length : Int)) = true := by rw [int_bne]; exact decide_eq_true h3
    have hr := Lib.hid (rightW_no (n := n) (A := A) (B := B) (S := S) (O := O) (N := N) (D := D) (fun h => h3 h.lo))
    clear h1 h2 h3
    go_wp2_with (refine wpList_store_whole rfl rfl 73 _ _ rfl (B0 + 1) #[.slice none 0 0, .slice none 0 0, .slice none 0 0] #[.slice none 0 0, .slice none 0 0, .slice none 0 0] 73 rfl rfl HBX.out.z rfl size_awatch (three_one _ _ _ rfl rfl rfl) ?_; intro w9 ho hp)
    refine bodyPost_ret (results_cell_tmp rfl _ w9 (B0 + 1) _ _ _ _ _ rfl rfl hp Tryd.underlying73 rfl size_awatch) rfl (rdGot_bad hr.out rfl (bel_only (by rw [HB.out]; exact HBX.out.bel) ho (by rw [HB.out]; omega)))
  have d3 : ((O.length : Int) != (A.length : Int)) = false := by rw [int_bne]; exact decide_eq_false (fun h => h h3)
  have H1 := Lib.hid h1
  have H2 := Lib.hid h2
  have H3 := Lib.hid h3
  clear h1 h2 h3
  go_upto_region 5 with (first
    | (go_at_call 25; refine (QR.out w1).mono ?_; rintro e w2 ⟨on, nn, cn, od, nd, cd, rfl, hg, b2⟩)
    | (refine wpList_store_whole rfl rfl 53 _ _ rfl w2.heap.size #[.slice none 0 0, .slice none 0 0] #[.slice on nn cn, .slice od nd cd] 53 rfl rfl (heap_at rfl) rfl HS.out (two_slices _ _ _ _ _ _) ?_; intro w3 ho hp))
  have b23 : Below w2.heap.size w2 w3 := bel_only ((Below.refl _ _).alloc (Nat.le_refl _) _) ho (Nat.le_refl _)
  have b13 := b2.trans (b23.mono b2.size)
  have HBY := Lib.hid (HBX.out.keep (by omega) b13)
  have HG3 := Lib.hid (show frB 100 N D = true → nn = (dig (dv N)).length ∧ nd = (dig (dv D)).length ∧ LFr w3 (dv N) (dv D) on od from fun h => ⟨(hg h).1, (hg h).2.1, (hg h).2.2.below b23⟩)
  have HP3 := Lib.hid hp
  have hb3 : B0 + 1 < w3.heap.size := lt_of_heap HBY.out.z
  clear hg b2 b23 b13 ho hp QR a0 a1 a2 a3 b4 b5 hb1 HBX d1 d2 d3
  generalize w2.heap.size = E1 at *
  by_cases h4 : re = 0
  case neg =>
    have d4 : (re != 0) = true := by simp [h4]
    have hr := Lib.hid (rightW_no (n := n) (A := A) (B := B) (S := S) (O := O) (N := N) (D := D) (fun h => h4 (HRE.out.trans h.risk)))
    clear h4
    go_wp2_with (refine wpList_store_whole rfl rfl 73 _ _ rfl (B0 + 1) #[.slice none 0 0, .slice none 0 0, .slice none 0 0] #[.slice none 0 0, .slice none 0 0, .slice none 0 0] 73 rfl rfl HBY.out.z rfl size_awatch (three_one _ _ _ rfl rfl rfl) ?_; intro w9 ho hp)
    refine bodyPost_ret (results_cell_tmp rfl _ w9 (B0 + 1) _ _ _ _ _ rfl rfl hp Tryd.underlying73 rfl size_awatch) rfl (rdGot_bad hr.out rfl (bel_only (by rw [HB.out]; exact HBY.out.bel) ho (by rw [HB.out]; omega)))
  subst h4
  have hf : frB 100 N D = true := by
    cases hf : frB 100 N D
    · have := HRE.out; unfold riskE at this; rw [hf] at this; cases this
    · rfl
  have hN0 : dv N ≠ 0 := fun h => by
    have := HRE.out; unfold riskE at this; rw [hf, if_pos rfl, if_pos (.inl h)] at this; cases this
  obtain ⟨n1, n2, hD0, _, _⟩ := frB_good hf
  have hsl := frB_len hf
  obtain ⟨rfl, rfl, hR⟩ := HG3.out hf
  have e1 : (dig (dv N)).length ≤ 100 := Nat.le_trans (limbs_dv N ((numB_iff N).1 n1).2.1) hsl.1
  have e2 : (dig (dv D)).length ≤ 100 := Nat.le_trans (limbs_dv D ((numB_iff D).1 n2).2.1) hsl.2
  have d1 : (dig 1).length ≤ 1 := length_dig_le 1 1 (by decide)
  have d2 : (dig 2).length ≤ 1 := length_dig_le 2 1 (by decide)
  have QW := Lib.hid (fun w => exWhole_any 1 w (by decide))
  have QV := Lib.hid (fun oa ob ca cb w h1 h2 => exFOver_any 1 1 (dv N) (dv D) oa ob on od ca cb cn cd w h1 h2 (by omega) (by omega) (by omega) (by omega) (by omega))
  change Hid (∀ oa ob ca cb w _ _, Calls _ _ _ w (fun e w' => ∃ on om cn cm, e = .returned (.agg #[.slice on (dig (limN (dv N) (dv D))).length cn, .slice om (dig (limD (dv N) (dv D))).length cm]) ∧ LFr w' (limN (dv N) (dv D)) (limD (dv N) (dv D)) on om ∧ Below w.heap.size w w')) at QV
  have HLIM := Lib.hid (show limN (dv N) (dv D) = limN (dv N) (dv D) ∧ limD (dv N) (dv D) = limD (dv N) (dv D) from ⟨rfl, rfl⟩)
  generalize hLN : limN (dv N) (dv D) = LN at *
  generalize hLD : limD (dv N) (dv D) = LD at *
  have HLN := Lib.hid hLN
  have HLD := Lib.hid hLD
  clear hLN hLD HLIM hf hN0 hD0 n1 n2 hsl e1 e2 HG3
  generalize hrn : dv N = rn at *
  generalize hrd : dv D = rd at *
  have HRN := Lib.hid hrn
  have HRD := Lib.hid hrd
  clear hrn hrd
  go_upto_region 7 with (fail)
  obtain ⟨M, hM⟩ : ∃ M, M = w3.heap.size := ⟨_, rfl⟩
  have HM := Lib.hid hM
  have hEM : E1 < M := by rw [hM]; exact lt_of_heap HP3.out
  have hx0 : Below M w3 w3.drew := (Below.refl _ _).drew
  have sx0 : M ≤ w3.drew.heap.size := Nat.le_of_eq hM
  have hBM : B0 + 1 < M := by omega
  have hRd : LFr w3.drew rn rd on od := hR.below ((Below.refl _ _).drew)
  clear hM hR
  generalize hl1 : (dig 1).length = l1' at QW QV
  clear hl1
  go_cut [9] (fun v w' => ∃ (X : Nat) (ol om : Option Addr) (cl cm : Nat), v = .pointer (some ⟨X, 0, none⟩) ∧ w'.heap[X]? = some (.cells #[.slice none 0 0, .slice ol (dig LN).length cl, .slice om (dig LD).length cm] 73 (0, 0)) ∧ M ≤ X ∧ LFr w' LN LD ol om ∧ Below M w3 w')
  case first =>
    refine Seg.wp_region_plan (fun w' => ∃ x : BelowT M w3, w' = x.w) (.quiet [1] (.alt 0 (.alt 2 (.quiet [3] (.one 4 (.last []))) (.one 4 (.one 2 (.last [3])))) (.one 4 (.one 0 (.one 2 (.last [3])))))) 5 (by kernel_rfl) (by kernel_rfl) (fun _ _ d _ _ h => by cases d <;> exact h) (⟨⟨_, hx0⟩, rfl⟩) ?_
    try simp only [Seg.wpPlan, List.map_cons, List.map_nil, Seg.opAt, List.drop_succ_cons, List.drop_zero, Array.getD_eq_getD_getElem?, List.getElem?_toArray, List.getElem?_cons_succ, List.getElem?_cons_zero, Option.getD_some]
    refine wpQuiet_load_at rfl 53 _ rfl ⟨E1, 0, none⟩ [.slice on (dig rn).length cn, .slice od (dig rd).length cd] _ rfl (fun w' hw' => by obtain ⟨x, rfl⟩ := hw'; exact news_blk (bel_keep x.2 hEM HP3.out)) Tryd.underlying53 rfl HS.out ?_
    refine wpQuiet_nil ?_
    try simp only [Seg.wpPlan, List.map_cons, List.map_nil, Seg.opAt, List.drop_succ_cons, List.drop_zero, Array.getD_eq_getD_getElem?, List.getElem?_toArray, List.getElem?_cons_succ, List.getElem?_cons_zero, Option.getD_some]
    have hR := hRd
    clear hRd
    generalize w3.drew = x0 at *
    refine ⟨?_, ?_⟩
    · try unfold Seg.wpUp
      intro K hK
      first | go_simp | skip
      go_wp2_with (go_at_call 28; refine (QW.out x0).mono ?_; rintro e x1 ⟨oa, ob, ca, cb, rfl, hW, twx1⟩)
      have hx1 := hx0.trans (twx1.mono sx0)
      have sx1 := Nat.le_trans sx0 twx1.size
      have kk := hR.below twx1
      clear hR
      have hR := kk
      clear kk
      refine hK _ _ ⟨⟨_, hx1⟩, rfl⟩ ?_
      clear hK K hx0 sx0 twx1
      try simp only [Seg.wpPlan, List.map_cons, List.map_nil, Seg.opAt, List.drop_succ_cons, List.drop_zero, Array.getD_eq_getD_getElem?, List.getElem?_toArray, List.getElem?_cons_succ, List.getElem?_cons_zero, Option.getD_some]
      refine ⟨?_, ?_⟩
      · try unfold Seg.wpUp
        intro K hK
        first | go_simp | skip
        go_wp2_with (go_at_call 50; refine (QV.out oa ob ca cb x1 hW hR).mono ?_; rintro e x2 ⟨ol, om, cl, cm, rfl, hL, twx2⟩)
        have hx2 := hx1.trans (twx2.mono sx1)
        have sx2 := Nat.le_trans sx1 twx2.size
        have kk := hR.below twx2
        clear hR
        have hR := kk
        clear kk
        have kk := hW.below twx2
        clear hW
        have hW := kk
        clear kk
        refine hK _ _ ⟨⟨_, hx2⟩, rfl⟩ ?_
        clear hK K hx1 sx1 twx2
        try simp only [Seg.wpPlan, List.map_cons, List.map_nil, Seg.opAt, List.drop_succ_cons, List.drop_zero, Array.getD_eq_getD_getElem?, List.getElem?_toArray, List.getElem?_cons_succ, List.getElem?_cons_zero, Option.getD_some]
        repeat (any_goals (first | go_big_quiet_step (fail) | quiet_step (fail)))
        refine wpQuiet_nil ?_
        try simp only [Seg.wpPlan, List.map_cons, List.map_nil, Seg.opAt, List.drop_succ_cons, List.drop_zero, Array.getD_eq_getD_getElem?, List.getElem?_toArray, List.getElem?_cons_succ, List.getElem?_cons_zero, Option.getD_some]
        try unfold Seg.wpUp
        intro K hK
        first | go_simp | skip
        go_wp2_with fail
        have hx3 : Below M w3 (x2.alloc (.cells #[.slice none 0 0, .slice none 0 0, .slice none 0 0] 73)) := hx2.alloc sx2 _
        have sx3 : M ≤ (x2.alloc (.cells #[.slice none 0 0, .slice none 0 0, .slice none 0 0] 73)).heap.size := by simp; omega
        have twx3 : Below x2.heap.size x2 (x2.alloc (.cells #[.slice none 0 0, .slice none 0 0, .slice none 0 0] 73)) := (Below.refl _ _).alloc (Nat.le_refl _) _
        have eX : (x2.alloc (.cells #[.slice none 0 0, .slice none 0 0, .slice none 0 0] 73)).heap[x2.heap.size]? = some (.cells #[.slice none 0 0, .slice none 0 0, .slice none 0 0] 73 (0, 0)) := heap_at rfl
        have mX : M ≤ x2.heap.size := sx2
        have kk := hR.below twx3
        clear hR
        have hR := kk
        clear kk
        have kk := hW.below twx3
        clear hW
        have hW := kk
        clear kk
        have kk := hL.below twx3
        clear hL
        have hL := kk
        clear kk
        refine hK _ _ ⟨⟨_, hx3⟩, rfl⟩ ?_
        clear hK K hx2 sx2 twx3
        generalize (x2.alloc (.cells #[.slice none 0 0, .slice none 0 0, .slice none 0 0] 73)) = x3 at *
        generalize x2.heap.size = X at *
        try simp only [Seg.wpPlan, List.map_cons, List.map_nil, Seg.opAt, List.drop_succ_cons, List.drop_zero, Array.getD_eq_getD_getElem?, List.getElem?_toArray, List.getElem?_cons_succ, List.getElem?_cons_zero, Option.getD_some]
        repeat (any_goals (first | go_big_quiet_step (fail) | quiet_step (fail)))
        refine wpQuiet_nil ?_
        try simp only [Seg.wpPlan, List.map_cons, List.map_nil, Seg.opAt, List.drop_succ_cons, List.drop_zero, Array.getD_eq_getD_getElem?, List.getElem?_toArray, List.getElem?_cons_succ, List.getElem?_cons_zero, Option.getD_some]
        go_wp2_with (refine wpList_store_whole rfl rfl 73 _ _ rfl X #[.slice none 0 0, .slice none 0 0, .slice none 0 0] #[.slice none 0 0, .slice ol (dig LN).length cl, .slice om (dig LD).length cm] 73 rfl rfl eX rfl size_awatch (three_one _ _ _ rfl rfl rfl) ?_; intro w8 ho hp)
        go_meet
        exact ⟨X, ol, om, cl, cm, rfl, hp, mX, LFr.spared hL eX three_noInt ho, bel_only hx3 ho mX⟩
      · try unfold Seg.wpUp
        intro K hK
        first | go_simp | skip
        go_wp2_with fail
        have hx2 : Below M w3 (x1.alloc (.cells #[.slice none 0 0, .slice none 0 0, .slice none 0 0] 73)) := hx1.alloc sx1 _
        have sx2 : M ≤ (x1.alloc (.cells #[.slice none 0 0, .slice none 0 0, .slice none 0 0] 73)).heap.size := by simp; omega
        have twx2 : Below x1.heap.size x1 (x1.alloc (.cells #[.slice none 0 0, .slice none 0 0, .slice none 0 0] 73)) := (Below.refl _ _).alloc (Nat.le_refl _) _
        have eX : (x1.alloc (.cells #[.slice none 0 0, .slice none 0 0, .slice none 0 0] 73)).heap[x1.heap.size]? = some (.cells #[.slice none 0 0, .slice none 0 0, .slice none 0 0] 73 (0, 0)) := heap_at rfl
        have mX : M ≤ x1.heap.size := sx1
        have kk := hR.below twx2
        clear hR
        have hR := kk
        clear kk
        have kk := hW.below twx2
        clear hW
        have hW := kk
        clear kk
        refine hK _ _ ⟨⟨_, hx2⟩, rfl⟩ ?_
        clear hK K hx1 sx1 twx2
        generalize (x1.alloc (.cells #[.slice none 0 0, .slice none 0 0, .slice none 0 0] 73)) = x2 at *
        generalize x1.heap.size = X at *
        try simp only [Seg.wpPlan, List.map_cons, List.map_nil, Seg.opAt, List.drop_succ_cons, List.drop_zero, Array.getD_eq_getD_getElem?, List.getElem?_toArray, List.getElem?_cons_succ, List.getElem?_cons_zero, Option.getD_some]
        try unfold Seg.wpUp
        intro K hK
        first | go_simp | skip
        go_wp2_with (go_at_call 50; refine (QV.out oa ob ca cb x2 hW hR).mono ?_; rintro e x3 ⟨ol, om, cl, cm, rfl, hL, twx3⟩)
        have hx3 := hx2.trans (twx3.mono sx2)
        have sx3 := Nat.le_trans sx2 twx3.size
        have kk := hR.below twx3
        clear hR
        have hR := kk
        clear kk
        have kk := hW.below twx3
        clear hW
        have hW := kk
        clear kk
        have kk := bel_keep twx3 (lt_of_heap eX) eX
        clear eX
        have eX := kk
        clear kk
        refine hK _ _ ⟨⟨_, hx3⟩, rfl⟩ ?_
        clear hK K hx2 sx2 twx3
        try simp only [Seg.wpPlan, List.map_cons, List.map_nil, Seg.opAt, List.drop_succ_cons, List.drop_zero, Array.getD_eq_getD_getElem?, List.getElem?_toArray, List.getElem?_cons_succ, List.getElem?_cons_zero, Option.getD_some]
        repeat (any_goals (first | go_big_quiet_step (fail) | quiet_step (fail)))
        refine wpQuiet_nil ?_
        try simp only [Seg.wpPlan, List.map_cons, List.map_nil, Seg.opAt, List.drop_succ_cons, List.drop_zero, Array.getD_eq_getD_getElem?, List.getElem?_toArray, List.getElem?_cons_succ, List.getElem?_cons_zero, Option.getD_some]
        go_wp2_with (refine wpList_store_whole rfl rfl 73 _ _ rfl X #[.slice none 0 0, .slice none 0 0, .slice none 0 0] #[.slice none 0 0, .slice ol (dig LN).length cl, .slice om (dig LD).length cm] 73 rfl rfl eX rfl size_awatch (three_one _ _ _ rfl rfl rfl) ?_; intro w8 ho hp)
        go_meet
        exact ⟨X, ol, om, cl, cm, rfl, hp, mX, LFr.spared hL eX three_noInt ho, bel_only hx3 ho mX⟩
    · try unfold Seg.wpUp
      intro K hK
      first | go_simp | skip
      go_wp2_with fail
      have hx1 : Below M w3 (x0.alloc (.cells #[.slice none 0 0, .slice none 0 0, .slice none 0 0] 73)) := hx0.alloc sx0 _
      have sx1 : M ≤ (x0.alloc (.cells #[.slice none 0 0, .slice none 0 0, .slice none 0 0] 73)).heap.size := by simp; omega
      have twx1 : Below x0.heap.size x0 (x0.alloc (.cells #[.slice none 0 0, .slice none 0 0, .slice none 0 0] 73)) := (Below.refl _ _).alloc (Nat.le_refl _) _
      have eX : (x0.alloc (.cells #[.slice none 0 0, .slice none 0 0, .slice none 0 0] 73)).heap[x0.heap.size]? = some (.cells #[.slice none 0 0, .slice none 0 0, .slice none 0 0] 73 (0, 0)) := heap_at rfl
      have mX : M ≤ x0.heap.size := sx0
      have kk := hR.below twx1
      clear hR
      have hR := kk
      clear kk
      refine hK _ _ ⟨⟨_, hx1⟩, rfl⟩ ?_
      clear hK K hx0 sx0 twx1
      generalize (x0.alloc (.cells #[.slice none 0 0, .slice none 0 0, .slice none 0 0] 73)) = x1 at *
      generalize x0.heap.size = X at *
      try simp only [Seg.wpPlan, List.map_cons, List.map_nil, Seg.opAt, List.drop_succ_cons, List.drop_zero, Array.getD_eq_getD_getElem?, List.getElem?_toArray, List.getElem?_cons_succ, List.getElem?_cons_zero, Option.getD_some]
      try unfold Seg.wpUp
      intro K hK
      first | go_simp | skip
      go_wp2_with (go_at_call 28; refine (QW.out x1).mono ?_; rintro e x2 ⟨oa, ob, ca, cb, rfl, hW, twx2⟩)
      have hx2 := hx1.trans (twx2.mono sx1)
      have sx2 := Nat.le_trans sx1 twx2.size
      have kk := hR.below twx2
      clear hR
      have hR := kk
      clear kk
      have kk := bel_keep twx2 (lt_of_heap eX) eX
      clear eX
      have eX := kk
      clear kk
      refine hK _ _ ⟨⟨_, hx2⟩, rfl⟩ ?_
      clear hK K hx1 sx1 twx2
      try simp only [Seg.wpPlan, List.map_cons, List.map_nil, Seg.opAt, List.drop_succ_cons, List.drop_zero, Array.getD_eq_getD_getElem?, List.getElem?_toArray, List.getElem?_cons_succ, List.getElem?_cons_zero, Option.getD_some]
      try unfold Seg.wpUp
      intro K hK
      first | go_simp | skip
      go_wp2_with (go_at_call 50; refine (QV.out oa ob ca cb x2 hW hR).mono ?_; rintro e x3 ⟨ol, om, cl, cm, rfl, hL, twx3⟩)
      have hx3 := hx2.trans (twx3.mono sx2)
      have sx3 := Nat.le_trans sx2 twx3.size
      have kk := hR.below twx3
      clear hR
      have hR := kk
      clear kk
      have kk := bel_keep twx3 (lt_of_heap eX) eX
      clear eX
      have eX := kk
      clear kk
      have kk := hW.below twx3
      clear hW
      have hW := kk
      clear kk
      refine hK _ _ ⟨⟨_, hx3⟩, rfl⟩ ?_
      clear hK K hx2 sx2 twx3
      try simp only [Seg.wpPlan, List.map_cons, List.map_nil, Seg.opAt, List.drop_succ_cons, List.drop_zero, Array.getD_eq_getD_getElem?, List.getElem?_toArray, List.getElem?_cons_succ, List.getElem?_cons_zero, Option.getD_some]
      repeat (any_goals (first | go_big_quiet_step (fail) | quiet_step (fail)))
      refine wpQuiet_nil ?_
      try simp only [Seg.wpPlan, List.map_cons, List.map_nil, Seg.opAt, List.drop_succ_cons, List.drop_zero, Array.getD_eq_getD_getElem?, List.getElem?_toArray, List.getElem?_cons_succ, List.getElem?_cons_zero, Option.getD_some]
      go_wp2_with (refine wpList_store_whole rfl rfl 73 _ _ rfl X #[.slice none 0 0, .slice none 0 0, .slice none 0 0] #[.slice none 0 0, .slice ol (dig LN).length cl, .slice om (dig LD).length cm] 73 rfl rfl eX rfl size_awatch (three_one _ _ _ rfl rfl rfl) ?_; intro w8 ho hp)
      go_meet
      exact ⟨X, ol, om, cl, cm, rfl, hp, mX, LFr.spared hL eX three_noInt ho, bel_only hx3 ho mX⟩
  case rest =>
  generalize wc = w4 at *
  obtain ⟨X, ol, om, cl, cm, rfl, eX, mX, hLim, b4⟩ := hcut
  have b34 : Below w3.heap.size w3 w4 := HM.out ▸ b4
  have HBZ := Lib.hid (HBY.out.keep (by omega) b34)
  have HX4 := Lib.hid eX
  have HL4 := Lib.hid hLim
  have S4 := Lib.hid b4.size
  have hBX : B0 + 1 < X := by omega
  clear hx0 sx0 hRd QW QV hEM HP3 HBY b34 b4 eX mX hLim hb3
  have g12 : Nat.gcd 1 2 = 1 := by decide
  have QO1 := Lib.hid (fun w => exOf_any 1 w (by decide))
  have QO2 := Lib.hid (fun w => exOf_any 2 w (by decide))
  have QL := Lib.hid (fun oa ob ca cb w h1 h2 => exLowest_any 1 2 oa ob ca cb w (by decide) h1 h2 (by omega) (by omega))
  simp only [g12, Nat.div_one] at QL
  generalize hl1 : (dig 1).length = l1' at QO1 QO2 QL
  generalize hl2 : (dig 2).length = l2' at QO1 QO2 QL
  have HLA := Lib.hid hl1
  have HLB := Lib.hid hl2
  clear g12 hl1 hl2 d1 d2
  go_upto_region 9 with (first
    | (go_at_call 53; refine (QL.out p1 p2 k1 k2 wb hA2 hB2).mono ?_; rintro e wc ⟨q1, q2, k3, k4, rfl, hF, bc⟩)
    | (go_at_call 54; refine (QO2.out wa).mono ?_; rintro e wb ⟨p2, k2, rfl, hB2, _, bb⟩; have hA2 := hA.below bb)
    | (go_at_call 54; refine (QO1.out w4).mono ?_; rintro e wa ⟨p1, k1, rfl, hA, _, ba⟩)
    | (refine wpList_store_whole rfl rfl 53 _ _ rfl wc.heap.size #[.slice none 0 0, .slice none 0 0] #[.slice q1 l1' k3, .slice q2 l2' k4] 53 rfl rfl (heap_at rfl) rfl HS.out (two_slices _ _ _ _ _ _) ?_; intro w5 ho hp))
  have bcd : Below wc.heap.size wc w5 := bel_only ((Below.refl _ _).alloc (Nat.le_refl _) _) ho (Nat.le_refl _)
  have b4c := (ba.trans (bb.mono ba.size)).trans (bc.mono (Nat.le_trans ba.size bb.size))
  have b45 := b4c.trans (bcd.mono b4c.size)
  have HBW := Lib.hid (HBZ.out.keep (by have := S4.out; have := HM.out; omega) b45)
  have hXc : X < wc.heap.size := Nat.lt_of_lt_of_le (lt_of_heap HX4.out) b4c.size
  have HX5 := Lib.hid (bel_keep b45 (lt_of_heap HX4.out) HX4.out)
  have HL5 := Lib.hid (HL4.out.below b45)
  have HF5 := Lib.hid (hF.below bcd)
  have HP5 := Lib.hid hp
  clear ho hp hF bcd b45 b4c ba bb bc hA hA2 hB2 QO1 QO2 QL HBZ HX4 HL4 S4 HM hBM
  generalize wc.heap.size = E at *
  obtain rfl := HLA.out
  obtain rfl := HLB.out
  obtain ⟨LV1, hLV1⟩ : ∃ LV1, LV1 = Value.slice ol (dig LN).length cl := ⟨_, rfl⟩
  obtain ⟨LV2, hLV2⟩ : ∃ LV2, LV2 = Value.slice om (dig LD).length cm := ⟨_, rfl⟩
  have HLV := Lib.hid (And.intro hLV1 hLV2)
  have HST : Hid (RdSt B0 X E w w5 #[.slice o0 A.length c0, .slice o1 B.length c1, .slice o2 S.length c2, .slice o3 O.length c3, .string ⟨N.toArray⟩, .string ⟨D.toArray⟩, .int .i64 dr] #[.slice q1 (dig 1).length k3, .slice q2 (dig 2).length k4] LV1 LV2 (.slice none 0 0) LN LD ol om q1 q2 []) := Lib.hid ⟨HBW.out.bel, HBW.out.x, HBW.out.z, by rw [hLV1, hLV2]; exact HX5.out, HP5.out, GRow.nil, HL5.out, HF5.out, (fun p hp => by cases hp), hBX, hXc⟩
  clear hLV1 hLV2 HBW HX5 HL5 HF5 HP5
  generalize hl1 : (dig 1).length = l1' at *
  generalize hl2 : (dig 2).length = l2' at *
  have HL1 := Lib.hid hl1
  have HL2 := Lib.hid hl2
  clear hl1 hl2
  go_upto_region 10 with (fail)
  go_loopw [55] (fun i wr => ∃ (k : Nat) (v : Value) (L : List PD), k ≤ A.length ∧ i = .int .i64 k ∧ L.length = k ∧ (∀ j, j < k → PairOk A B S O n j) ∧ PMatch A B S O L ∧ RdSt B0 X E w wr #[.slice o0 A.length c0, .slice o1 B.length c1, .slice o2 S.length c2, .slice o3 O.length c3, .string ⟨N.toArray⟩, .string ⟨D.toArray⟩, .int .i64 dr] #[.slice q1 l1' k3, .slice q2 l2' k4] LV1 LV2 v LN LD ol om q1 q2 L) (fun i _ => A.length - (intOf i).toNat)
  case atStart => exact ⟨0, .slice none 0 0, [], by omega, rfl, rfl, (fun j hj => by omega), (fun j p hp => by cases hp), HST.out⟩
  case round =>
  clear HST
  obtain ⟨k, v, L, hk, rfl, hLk, hok, hpm, hst⟩ := hrel
  have HOK := Lib.hid hok
  have HLK := Lib.hid hLk
  have HPM := Lib.hid hpm
  have ST := Lib.hid hst
  clear hok hpm hst hLk
  by_cases hlt : k < A.length
  · have dk : decide ((k : Int) < (A.length : Int)) = true := decide_eq_true (by omega)
    have dk2 : decide (k < A.length) = true := decide_eq_true hlt
    have hki : (k : Int) < (A.length : Int) := by omega
    have hkS : k < S.length := by rw [H2.out]; exact hlt
    have hkO : k < O.length := by rw [H3.out]; exact hlt
    have hkB : k < B.length := by rw [H1.out]; exact hlt
    have ds : decide ((k : Int) < (S.length : Int)) = true := decide_eq_true (by omega)
    have ds2 : decide (k < S.length) = true := decide_eq_true hkS
    have hsi : (k : Int) < (S.length : Int) := by omega
    have do1 : decide ((k : Int) < (O.length : Int)) = true := decide_eq_true (by omega)
    have do2 : decide (k < O.length) = true := decide_eq_true hkO
    have hoi : (k : Int) < (O.length : Int) := by omega
    have db1 : decide ((k : Int) < (B.length : Int)) = true := decide_eq_true (by omega)
    have db2 : decide (k < B.length) = true := decide_eq_true hkB
    have hbi : (k : Int) < (B.length : Int) := by omega
    have WR := Lib.hid (HW.out.below (HB.out ▸ ST.out.bel))
    have hbad := Lib.hid (fun (h : ¬ PairOk A B S O n k) => (show rightW A B S O N D n = false from rightW_no (fun hh => h (hh.ok k hlt))))
    have hgood := Lib.hid (fun (h : PairOk A B S O n k) => (show ∀ j, j < k + 1 → PairOk A B S O n j from fun j hj => (Nat.lt_or_eq_of_le (Nat.le_of_lt_succ hj)).elim (HOK.out j) (fun e => e ▸ h)))
    obtain ⟨qs, hqs, hqsb, hqsc⟩ := WR.out.f2.cells k hkS
    obtain ⟨qo, hqo, hqob, hqoc⟩ := WR.out.f3.cells k hkO
    obtain ⟨qa, hqa, hqab, hqac⟩ := WR.out.i0.cells k hlt
    obtain ⟨qb, hqb, hqbb, hqbc⟩ := WR.out.i1.cells k hkB
    have lsk := LS.out k hkS
    have lok := LO.out k hkO
    have hiff := Lib.hid (show PairOk A B S O n k ↔ _ from pairOk_iff.symm)
    unfold pairOk at hiff
    simp only [Bool.and_eq_true, decide_eq_true_eq] at hiff
    rw [fAt_get hkS] at hqsc
    rw [fAt_get hkO] at hqoc
    rw [iAt_get hlt] at hqac
    rw [iAt_get hkB] at hqbc
    clear WR
    have HSNOC := Lib.hid (fun (p : PD) (hp : p.wi = iAt A k ∧ p.lo = iAt B k ∧ p.s = dv (fAt S k).1 ∧ p.t = dv (fAt S k).2 ∧ p.a = dv (fAt O k).1 ∧ p.b = dv (fAt O k).2) => (show PMatch A B S O (L ++ [p]) from pmatch_snoc HPM.out (by rw [HLK.out]; exact hp)))
    generalize PairOk A B S O n k = PK at *
    generalize fAt S k = sk at *
    generalize fAt O k = ok at *
    generalize iAt A k = ak at *
    generalize iAt B k = bk at *
    obtain ⟨XS, YS⟩ := sk
    obtain ⟨U, V⟩ := ok
    dsimp only at lsk lok hiff
    have QS1 := Lib.hid (fun w => audFrac_any 100 XS YS w (by omega) (by omega) (.inr (by decide)))
    have QO1 := Lib.hid (fun w => audFrac_any 0 U V w (by omega) (by omega) (.inl (by omega)))
    unfold AFGot at QS1 QO1
    have lU := lok
    subst hqs hqo hqa hqb
    have HQS := Lib.hid hqsc
    have HQO := Lib.hid hqoc
    have HQA := Lib.hid hqac
    have HQB := Lib.hid hqbc
    clear hqsc hqoc hqac hqbc lsk lok
    have hbr0 : B0 < wr.heap.size := lt_of_heap ST.out.arg
    go_upto_region 12 with (fail)
    obtain ⟨M, hM⟩ : ∃ M, M = wr.heap.size := ⟨_, rfl⟩
    have HM := Lib.hid hM
    have hBM : B0 < M := by omega
    have hqaM : qa.block < M := by omega
    have hqbM : qb.block < M := by omega
    clear hM
    have hx0 : Below M wr wr.drew := (Below.refl _ _).drew
    have sx0 : M ≤ wr.drew.heap.size := Nat.le_of_eq HM.out
    refine Seg.wp_region_segs (fun w' => ∃ x : BelowT M wr, w' = x.w) [([0, 1, 2, 3, 4, 5, 6, 7, 8, 9, 10], 11)] [] 12 (by kernel_rfl) (by kernel_rfl) (fun _ _ d _ _ h => by cases d <;> exact h) (⟨⟨_, hx0⟩, rfl⟩) ?_
    simp only [List.map_cons, List.map_nil, Seg.opAt, List.drop_succ_cons, List.drop_zero, Seg.wpSegs, Array.getD_eq_getD_getElem?, List.getElem?_toArray, List.getElem?_cons_succ, List.getElem?_cons_zero, Option.getD_some]
    first | go_big_quiet_step (fail) | quiet_step (fail)
    refine wpQuiet_load_one rfl 22 _ rfl ⟨B0, 0, none⟩ (.slice (some qa) A.length c0) _ rfl (fun w' hw' => by obtain ⟨x, rfl⟩ := hw'; exact cell_of_row _ B0 0 _ _ _ (bel_keep x.2 hBM ST.out.arg)) Tryd.underlying22 rfl ?_
    first | go_big_quiet_step (fail) | quiet_step (fail)
    first | go_big_quiet_step (fail) | quiet_step (fail)
    refine wpQuiet_load_one rfl 3 _ rfl (qa.add k) (.int .i64 ak) _ rfl (fun w' hw' => by obtain ⟨x, rfl⟩ := hw'; exact (x.2.cell (by rw [addr_block']; exact hqaM)).trans HQA.out) Tryd.underlying3 rfl ?_
    first | go_big_quiet_step (fail) | quiet_step (fail)
    refine wpQuiet_load_one rfl 22 _ rfl ⟨B0, 1, none⟩ (.slice (some qb) B.length c1) _ rfl (fun w' hw' => by obtain ⟨x, rfl⟩ := hw'; exact cell_of_row _ B0 1 _ _ _ (bel_keep x.2 hBM ST.out.arg)) Tryd.underlying22 rfl ?_
    first | go_big_quiet_step (fail) | quiet_step (fail)
    first | go_big_quiet_step (fail) | quiet_step (fail)
    refine wpQuiet_load_one rfl 3 _ rfl (qb.add k) (.int .i64 bk) _ rfl (fun w' hw' => by obtain ⟨x, rfl⟩ := hw'; exact (x.2.cell (by rw [addr_block']; exact hqbM)).trans HQB.out) Tryd.underlying3 rfl ?_
    first | go_big_quiet_step (fail) | quiet_step (fail)
    refine wpQuiet_nil ?_
    generalize wr.drew = x0 at *
    intro K hK
    first | go_simp | skip
    go_wp2_with fail
    have hx1 : Below M wr (x0.alloc (.cells #[.int .i64 0, .int .i64 0, .slice none 0 0, .slice none 0 0, .slice none 0 0, .slice none 0 0] 78)) := hx0.alloc sx0 _
    have eP : (x0.alloc (.cells #[.int .i64 0, .int .i64 0, .slice none 0 0, .slice none 0 0, .slice none 0 0, .slice none 0 0] 78)).heap[x0.heap.size]? = some (.cells #[.int .i64 0, .int .i64 0, .slice none 0 0, .slice none 0 0, .slice none 0 0, .slice none 0 0] 78 (0, 0)) := heap_at rfl
    have mP : M ≤ x0.heap.size := sx0
    refine hK _ _ ⟨⟨_, hx1⟩, rfl⟩ ?_
    clear hK K hx0 sx0
    generalize (x0.alloc (.cells #[.int .i64 0, .int .i64 0, .slice none 0 0, .slice none 0 0, .slice none 0 0, .slice none 0 0] 78)) = x1 at *
    generalize x0.heap.size = P at *
    repeat (any_goals (first | go_big_quiet_step (fail) | quiet_step (fail)))
    refine wpQuiet_nil ?_
    go_upto_region 13 with (refine wpList_store_whole rfl rfl 78 _ _ rfl P #[.int .i64 0, .int .i64 0, .slice none 0 0, .slice none 0 0, .slice none 0 0, .slice none 0 0] #[.int .i64 ak, .int .i64 bk, .slice none 0 0, .slice none 0 0, .slice none 0 0, .slice none 0 0] 78 rfl rfl eP rfl size_apair (six_one _ _ _ _ _ _ rfl rfl rfl rfl rfl rfl) ?_; intro w6 ho hp)
    have b6 : Below wr.heap.size wr w6 := by
      rw [← HM.out]
      exact bel_only hx1 ho mP
    have S6 := Lib.hid (ST.out.below b6)
    have HP6 := Lib.hid hp
    have hPE : E < P := Nat.lt_of_lt_of_le (lt_of_heap ST.out.half) (by rw [← HM.out]; exact mP)
    have hvn : (#[v, Value.slice ol (dig LN).length cl, Value.slice om (dig LD).length cm] : Array Value).all noInt = true := by
      rcases ST.out.own.own.2 with ⟨rfl, _⟩ | ⟨g, cap, cur, rfl, _⟩ <;> exact three_noInt2 _ _ _ _ _ _ _ _ _
    have hPv : v.ownBlock ≠ some P := fun he => by have h1 := (ST.out.own.own.lt P he).2; have h2 := HM.out; omega
    have hbr : B0 < P := Nat.lt_of_lt_of_le (lt_of_heap ST.out.arg) (by rw [← HM.out]; exact mP)
    have hqoP : qo.block < P := Nat.lt_of_lt_of_le hqob (by rw [← HM.out]; exact mP)
    have HQS6 := Lib.hid (show ∀ j v, (fcell (XS, YS))[j]? = some v → w6.cell? ((qs.add (k * 2)).add j) = some v from fun j v hj => by rw [b6.cell (by rw [addr_block', addr_block']; exact hqsb)]; exact HQS.out j v hj)
    have HQO6 := Lib.hid (show ∀ j v, (fcell (U, V))[j]? = some v → w6.cell? ((qo.add (k * 2)).add j) = some v from fun j v hj => by rw [b6.cell (by rw [addr_block', addr_block']; exact hqob)]; exact HQO.out j v hj)
    have hqo6 : qo.block < w6.heap.size := Nat.lt_of_lt_of_le hqob b6.size
    have hP6 : P < w6.heap.size := lt_of_heap hp
    have s2 : w6.cell? ⟨B0, 2, none⟩ = some (.slice (some qs) S.length c2) := cell_of_row w6 B0 2 _ _ _ S6.out.arg
    have hb6 : B0 < w6.heap.size := lt_of_heap S6.out.arg
    clear ho hp b6 hx1 eP mP hBM hqaM hqbM HQA HQB HQS HQO hqsb hqob hqab hqbb hbr0 ST HM
    go_upto_region 15 with (first
      | (refine wpList_load_at rfl 24 _ rfl (qs.add (k * 2)) rfl [.string ⟨XS.toArray⟩, .string ⟨YS.toArray⟩] _ HQS6.out Tryd.underlying24 rfl size_apiF ?_)
      | (go_at_call 70; refine (QS1.out w6).mono ?_; rintro e w7 ⟨sn, nn2, ca2, sd, nd2, cb2, rfl, hg, b7⟩)
      | (refine wpList_store_two rfl rfl 53 _ _ rfl P 2 #[.int .i64 ak, .int .i64 bk, .slice none 0 0, .slice none 0 0, .slice none 0 0, .slice none 0 0] (.slice sn nn2 ca2) (.slice sd nd2 cb2) 78 rfl rfl (bel_keep b7 hP6 HP6.out) (by simp) HS.out (two_slices _ _ _ _ _ _) ?_; intro w8 ho hp))
    have eP7 := bel_keep b7 hP6 HP6.out
    have nl7 : (#[.int .i64 ak, .int .i64 bk, .slice none 0 0, .slice none 0 0, .slice none 0 0, .slice none 0 0] : Array Value).all noLimb = true := by simp [noLimb]
    have S8 := Lib.hid ((S6.out.below b7).turn ho eP7 nl7 hPE hPv)
    have HP8 : Hid (w8.heap[P]? = some (.cells #[.int .i64 ak, .int .i64 bk, .slice sn nn2 ca2, .slice sd nd2 cb2, .slice none 0 0, .slice none 0 0] 78 (0, 0))) := Lib.hid hp
    have HG8 := Lib.hid (show frB 100 XS YS = true → nn2 = (dig (dv XS)).length ∧ nd2 = (dig (dv YS)).length ∧ LFr w8 (dv XS) (dv YS) sn sd from fun h => ⟨(hg h).1, (hg h).2.1, (hg h).2.2.sparedL eP7 nl7 ho⟩)
    have hqo8 : qo.block < w8.heap.size := by rw [ho.size]; exact Nat.lt_of_lt_of_le hqo6 b7.size
    have HQO8 := Lib.hid (show ∀ j v, (fcell (U, V))[j]? = some v → w8.cell? ((qo.add (k * 2)).add j) = some v from fun j v hj => by
      rw [World.cell?_of_block (w := w7) (ho.block _ (by rw [addr_block', addr_block']; omega)), b7.cell (by rw [addr_block', addr_block']; exact hqo6)]
      exact HQO6.out j v hj)
    have hP8 : P < w8.heap.size := lt_of_heap hp
    have s3 : w8.cell? ⟨B0, 3, none⟩ = some (.slice (some qo) O.length c3) := cell_of_row w8 B0 3 _ _ _ S8.out.arg
    have hb8 : B0 < w8.heap.size := lt_of_heap S8.out.arg
    clear ho hp hg b7 eP7 s2 hb6 HQO6 hqo6 hP6 HP6 S6 HQS6 QS1
    go_upto_region 16 with (first
      | (refine wpList_load_at rfl 24 _ rfl (qo.add (k * 2)) rfl [.string ⟨U.toArray⟩, .string ⟨V.toArray⟩] _ HQO8.out Tryd.underlying24 rfl size_apiF ?_)
      | (go_at_call 70; refine (QO1.out w8).mono ?_; rintro e w9 ⟨un, nn3, ca3, ud, nd3, cb3, rfl, hg, b9⟩)
      | (refine wpList_store_two rfl rfl 53 _ _ rfl P 4 #[.int .i64 ak, .int .i64 bk, .slice sn nn2 ca2, .slice sd nd2 cb2, .slice none 0 0, .slice none 0 0] (.slice un nn3 ca3) (.slice ud nd3 cb3) 78 rfl rfl (bel_keep b9 hP8 HP8.out) (by simp) HS.out (two_slices _ _ _ _ _ _) ?_; intro wt ho hp))
    have eP9 := bel_keep b9 hP8 HP8.out
    have nl9 : (#[.int .i64 ak, .int .i64 bk, .slice sn nn2 ca2, .slice sd nd2 cb2, .slice none 0 0, .slice none 0 0] : Array Value).all noLimb = true := by simp [noLimb]
    have ST := Lib.hid ((S8.out.below b9).turn ho eP9 nl9 hPE hPv)
    have HPt : Hid (wt.heap[P]? = some (.cells #[.int .i64 ak, .int .i64 bk, .slice sn nn2 ca2, .slice sd nd2 cb2, .slice un nn3 ca3, .slice ud nd3 cb3] 78 (0, 0))) := Lib.hid hp
    have HGS := Lib.hid (show frB 100 XS YS = true → nn2 = (dig (dv XS)).length ∧ nd2 = (dig (dv YS)).length ∧ LFr wt (dv XS) (dv YS) sn sd from fun h => ⟨(HG8.out h).1, (HG8.out h).2.1, ((HG8.out h).2.2.below b9).sparedL eP9 nl9 ho⟩)
    have HGO := Lib.hid (show frB 0 U V = true → nn3 = (dig (dv U)).length ∧ nd3 = (dig (dv V)).length ∧ LFr wt (dv U) (dv V) un ud from fun h => ⟨(hg h).1, (hg h).2.1, (hg h).2.2.sparedL eP9 nl9 ho⟩)
    have hPt : P < wt.heap.size := lt_of_heap hp
    have hbt : B0 < wt.heap.size := lt_of_heap ST.out.arg
    clear ho hp hg b9 eP9 nl9 nl7 s3 hb8 HQO8 hqo8 hP8 HP8 S8 QO1 HG8 hbr
    obtain ⟨M3, hM3⟩ : ∃ M3, M3 = wt.heap.size := ⟨_, rfl⟩
    have HM3 := Lib.hid hM3
    have hPM : P < M3 := by omega
    have hEM : E < M3 := by rw [hM3]; exact lt_of_heap ST.out.half
    clear hM3
    have hwd : ∃ x : BelowT M3 wt, wt.drew = x.w := ⟨⟨wt.drew, by rw [HM3.out]; exact (Below.refl _ _).drew⟩, rfl⟩
    have QBA := Lib.hid (fun w => between_any ak 0 (n - 1) w)
    have QBB := Lib.hid (fun w => between_any bk 0 (n - 1) w)
    obtain ⟨ba, hba⟩ : ∃ ba, ba = decide (0 ≤ ak ∧ ak ≤ n - 1) := ⟨_, rfl⟩
    obtain ⟨bb, hbb⟩ : ∃ bb, bb = decide (0 ≤ bk ∧ bk ≤ n - 1) := ⟨_, rfl⟩
    rw [← hba] at QBA
    rw [← hbb] at QBB
    have HBA := Lib.hid hba
    have HBBB := Lib.hid hbb
    clear hba hbb
    have SD := Lib.hid (ST.out.below ((Below.refl _ _).drew))
    cases hfs : frB 100 XS YS with
    | false =>
      have hr := Lib.hid (hbad.out (fun h => by have := (hiff.out.1 h).1; rw [hfs] at this; cases this))
      clear hfs
      refine Seg.wp_region_segs (fun w' => ∃ x : BelowT M3 wt, w' = x.w) [([0, 1, 2, 3, 4, 5, 6, 7, 8, 9], 10), ([11, 12, 13, 14, 15], 16), ([], 17), ([18, 19, 20, 21, 22, 23, 24], 25)] [26, 27, 28, 29, 30, 31, 32] 33 (by kernel_rfl) (by kernel_rfl) (fun _ _ d _ _ h => by cases d <;> exact h) (hwd) ?_
      simp only [List.map_cons, List.map_nil, Seg.opAt, List.drop_succ_cons, List.drop_zero, Seg.wpSegs, Array.getD_eq_getD_getElem?, List.getElem?_toArray, List.getElem?_cons_succ, List.getElem?_cons_zero, Option.getD_some]
      first | go_big_quiet_step (fail) | quiet_step (fail)
      first | go_big_quiet_step (fail) | quiet_step (fail)
      first | go_big_quiet_step (fail) | quiet_step (fail)
      first | go_big_quiet_step (fail) | quiet_step (fail)
      first | go_big_quiet_step (fail) | quiet_step (fail)
      first | go_big_quiet_step (fail) | quiet_step (fail)
      first | go_big_quiet_step (fail) | quiet_step (fail)
      first | go_big_quiet_step (fail) | quiet_step (fail)
      first | go_big_quiet_step (fail) | quiet_step (fail)
      first | go_big_quiet_step (fail) | quiet_step (fail)
      refine wpQuiet_nil ?_
      first | (intro K hK) | skip
      first | go_simp | skip
      refine hK _ _ hwd ?_
      clear hK K
      repeat (any_goals (first | go_big_quiet_step (fail) | quiet_step (fail)))
      refine wpQuiet_nil ?_
      first | (intro K hK) | skip
      first | go_simp | skip
      refine hK _ _ hwd ?_
      clear hK K
      repeat (any_goals (first | go_big_quiet_step (fail) | quiet_step (fail)))
      refine wpQuiet_nil ?_
      first | (intro K hK) | skip
      first | go_simp | skip
      refine hK _ _ hwd ?_
      clear hK K
      repeat (any_goals (first | go_big_quiet_step (fail) | quiet_step (fail)))
      refine wpQuiet_nil ?_
      first | (intro K hK) | skip
      first | go_simp | skip
      refine hK _ _ hwd ?_
      clear hK K
      repeat (any_goals (first | go_big_quiet_step (fail) | quiet_step (fail)))
      refine wpQuiet_nil ?_
      go_wp2_with (refine wpList_store_whole rfl rfl 73 _ _ rfl (B0 + 1) #[.slice none 0 0, .slice none 0 0, .slice none 0 0] #[.slice none 0 0, .slice none 0 0, .slice none 0 0] 73 rfl rfl SD.out.ans rfl size_awatch (three_one _ _ _ rfl rfl rfl) ?_; intro w9 ho9 hp9)
      refine bodyPost_ret (results_cell_tmp rfl _ w9 (B0 + 1) _ _ _ _ _ rfl rfl hp9 Tryd.underlying73 rfl size_awatch) rfl (rdGot_bad hr.out rfl (bel_only (by rw [HB.out]; exact SD.out.bel) ho9 (by rw [HB.out]; omega)))
    | true =>
    cases hfo : frB 0 U V with
    | false =>
      have hr := Lib.hid (hbad.out (fun h => by have := (hiff.out.1 h).2.1; rw [hfo] at this; cases this))
      clear hfs hfo
      refine Seg.wp_region_segs (fun w' => ∃ x : BelowT M3 wt, w' = x.w) [([0, 1, 2, 3, 4, 5, 6, 7, 8, 9], 10), ([11, 12, 13, 14, 15], 16), ([], 17), ([18, 19, 20, 21, 22, 23, 24], 25)] [26, 27, 28, 29, 30, 31, 32] 33 (by kernel_rfl) (by kernel_rfl) (fun _ _ d _ _ h => by cases d <;> exact h) (hwd) ?_
      simp only [List.map_cons, List.map_nil, Seg.opAt, List.drop_succ_cons, List.drop_zero, Seg.wpSegs, Array.getD_eq_getD_getElem?, List.getElem?_toArray, List.getElem?_cons_succ, List.getElem?_cons_zero, Option.getD_some]
      first | go_big_quiet_step (fail) | quiet_step (fail)
      first | go_big_quiet_step (fail) | quiet_step (fail)
      first | go_big_quiet_step (fail) | quiet_step (fail)
      first | go_big_quiet_step (fail) | quiet_step (fail)
      first | go_big_quiet_step (fail) | quiet_step (fail)
      first | go_big_quiet_step (fail) | quiet_step (fail)
      first | go_big_quiet_step (fail) | quiet_step (fail)
      first | go_big_quiet_step (fail) | quiet_step (fail)
      first | go_big_quiet_step (fail) | quiet_step (fail)
      first | go_big_quiet_step (fail) | quiet_step (fail)
      refine wpQuiet_nil ?_
      first | (intro K hK) | skip
      first | go_simp | skip
      refine hK _ _ hwd ?_
      clear hK K
      repeat (any_goals (first | go_big_quiet_step (fail) | quiet_step (fail)))
      refine wpQuiet_nil ?_
      first | (intro K hK) | skip
      first | go_simp | skip
      refine hK _ _ hwd ?_
      clear hK K
      repeat (any_goals (first | go_big_quiet_step (fail) | quiet_step (fail)))
      refine wpQuiet_nil ?_
      first | (intro K hK) | skip
      first | go_simp | skip
      refine hK _ _ hwd ?_
      clear hK K
      repeat (any_goals (first | go_big_quiet_step (fail) | quiet_step (fail)))
      refine wpQuiet_nil ?_
      first | (intro K hK) | skip
      first | go_simp | skip
      refine hK _ _ hwd ?_
      clear hK K
      repeat (any_goals (first | go_big_quiet_step (fail) | quiet_step (fail)))
      refine wpQuiet_nil ?_
      go_wp2_with (refine wpList_store_whole rfl rfl 73 _ _ rfl (B0 + 1) #[.slice none 0 0, .slice none 0 0, .slice none 0 0] #[.slice none 0 0, .slice none 0 0, .slice none 0 0] 73 rfl rfl SD.out.ans rfl size_awatch (three_one _ _ _ rfl rfl rfl) ?_; intro w9 ho9 hp9)
      refine bodyPost_ret (results_cell_tmp rfl _ w9 (B0 + 1) _ _ _ _ _ rfl rfl hp9 Tryd.underlying73 rfl size_awatch) rfl (rdGot_bad hr.out rfl (bel_only (by rw [HB.out]; exact SD.out.bel) ho9 (by rw [HB.out]; omega)))
    | true =>
    obtain ⟨n1, n2, hY0, _, _⟩ := frB_good hfs
    obtain ⟨m1, m2, hV0, _, _⟩ := frB_good hfo
    have hsl := frB_len hfs
    obtain ⟨rfl, rfl, hF⟩ := HGS.out hfs
    obtain ⟨rfl, rfl, hG⟩ := HGO.out hfo
    have HF := Lib.hid hF
    have HG := Lib.hid hG
    have hlast := Lib.hid (show dv YS < dv XS * 2 → dv XS ≤ dv YS → ba = true → bb = true → PK from fun h1 h2 h3 h4 => hiff.out.2 ⟨hfs, hfo, h1, h2, by rw [HBA.out] at h3; have := of_decide_eq_true h3; omega, by rw [HBBB.out] at h4; have := of_decide_eq_true h4; omega⟩)
    have hlast1 := Lib.hid (show ¬ dv YS < dv XS * 2 → ¬ PK from fun h1 h => h1 (hiff.out.1 h).2.2.1)
    have hlast2 := Lib.hid (show ¬ dv XS ≤ dv YS → ¬ PK from fun h1 h => h1 (hiff.out.1 h).2.2.2.1)
    have hlast3 := Lib.hid (show ba = false → ¬ PK from fun h1 h => by rw [HBA.out] at h1; have := of_decide_eq_false h1; have := (hiff.out.1 h).2.2.2.2; omega)
    have hlast4 := Lib.hid (show bb = false → ¬ PK from fun h1 h => by rw [HBBB.out] at h1; have := of_decide_eq_false h1; have := (hiff.out.1 h).2.2.2.2; omega)
    have e1 : (dig (dv XS)).length ≤ 100 := Nat.le_trans (limbs_dv XS ((numB_iff XS).1 n1).2.1) hsl.1
    have e2 : (dig (dv YS)).length ≤ 100 := Nat.le_trans (limbs_dv YS ((numB_iff YS).1 n2).2.1) hsl.2
    have d1 : (dig 1).length ≤ 1 := length_dig_le 1 1 (by decide)
    have d2 : (dig 2).length ≤ 1 := length_dig_le 2 1 (by decide)
    have QC1 := Lib.hid (fun w h1 h2 => exFCmp_any (dv XS) (dv YS) 1 2 sn sd q1 q2 ca2 cb2 k3 k4 w h1 h2 (by omega) (by omega) (by omega) (by omega))
    have QC2 := Lib.hid (fun oc od cc cd w h1 h2 => exFCmp_any (dv XS) (dv YS) 1 1 sn sd oc od ca2 cb2 cc cd w h1 h2 (by omega) (by omega) (by omega) (by omega))
    have QWW := Lib.hid (fun w => exWhole_any 1 w (by decide))
    simp only [Nat.mul_one, Nat.one_mul] at QC1 QC2
    have hc1 : decide (NL.cmpI (dv XS * 2) (dv YS) ≤ 0) = decide (dv XS * 2 ≤ dv YS) := by
      rcases Nat.lt_trichotomy (dv XS * 2) (dv YS) with h | h | h
      · rw [NL.cmpI_lt h, decide_eq_true (Nat.le_of_lt h)]; rfl
      · rw [h, NL.cmpI_eq, decide_eq_true (Nat.le_refl _)]; rfl
      · rw [NL.cmpI_gt h, decide_eq_false (Nat.not_le.2 h)]; rfl
    have hc2 : decide (0 < NL.cmpI (dv XS) (dv YS)) = decide (dv YS < dv XS) := by
      rcases Nat.lt_trichotomy (dv XS) (dv YS) with h | h | h
      · rw [NL.cmpI_lt h, decide_eq_false (Nat.not_lt.2 (Nat.le_of_lt h))]; rfl
      · rw [h, NL.cmpI_eq, decide_eq_false (Nat.lt_irrefl _)]; rfl
      · rw [NL.cmpI_gt h, decide_eq_true h]; rfl
    generalize NL.cmpI (dv XS * 2) (dv YS) = y1 at *
    generalize NL.cmpI (dv XS) (dv YS) = y2 at *
    rw [HL1.out, HL2.out] at QC1
    rw [HL1.out] at QC2 QWW
    clear hfs hfo n1 n2 m1 m2 hY0 hV0 hsl hF hG e1 e2 d1 d2 HGS HGO hiff
    generalize dv XS = s at *
    generalize dv YS = t at *
    generalize dv U = u at *
    generalize dv V = z at *
    refine Seg.wp_region_segs (fun w' => ∃ x : BelowT M3 wt, w' = x.w) [([0, 1, 2, 3, 4, 5, 6, 7, 8, 9], 10), ([11, 12, 13, 14, 15], 16), ([], 17), ([18, 19, 20, 21, 22, 23, 24], 25)] [26, 27, 28, 29, 30, 31, 32] 33 (by kernel_rfl) (by kernel_rfl) (fun _ _ d _ _ h => by cases d <;> exact h) (hwd) ?_
    simp only [List.map_cons, List.map_nil, Seg.opAt, List.drop_succ_cons, List.drop_zero, Seg.wpSegs, Array.getD_eq_getD_getElem?, List.getElem?_toArray, List.getElem?_cons_succ, List.getElem?_cons_zero, Option.getD_some]
    first | go_big_quiet_step (fail) | quiet_step (fail)
    first | go_big_quiet_step (fail) | quiet_step (fail)
    first | go_big_quiet_step (fail) | quiet_step (fail)
    first | go_big_quiet_step (fail) | quiet_step (fail)
    first | go_big_quiet_step (fail) | quiet_step (fail)
    first | go_big_quiet_step (fail) | quiet_step (fail)
    first | go_big_quiet_step (fail) | quiet_step (fail)
    first | go_big_quiet_step (fail) | quiet_step (fail)
    refine wpQuiet_load_at rfl 53 _ rfl ⟨P, 2, none⟩ [.slice sn (dig s).length ca2, .slice sd (dig t).length cb2] _ rfl (fun w' hw' => by obtain ⟨x, rfl⟩ := hw'; exact mid_blk (bel_keep x.2 hPM HPt.out) _ (fun j u hj => by match j with | 0 => exact hj | 1 => exact hj | _ + 2 => cases hj)) Tryd.underlying53 rfl HS.out ?_
    refine wpQuiet_load_at rfl 53 _ rfl ⟨E, 0, none⟩ [.slice q1 l1' k3, .slice q2 l2' k4] _ rfl (fun w' hw' => by obtain ⟨x, rfl⟩ := hw'; exact news_blk (bel_keep x.2 hEM ST.out.half)) Tryd.underlying53 rfl HS.out ?_
    refine wpQuiet_nil ?_
    intro K hK
    first | go_simp | skip
    go_wp2_with (go_at_call 51; refine (QC1.out wt.drew (HF.out.below (Below.refl _ _).drew) (ST.out.hlf.below (Below.refl _ _).drew)).mono ?_; rintro e wa ⟨rfl, ba'⟩)
    have Ba := Lib.hid (undrew ba')
    have hwd : ∃ x : BelowT M3 wt, wa = x.w := ⟨⟨wa, by rw [HM3.out]; exact Ba.out⟩, rfl⟩
    refine hK _ _ hwd ?_
    clear hK K ba'
    by_cases hh : s * 2 ≤ t
    · rw [decide_eq_true hh] at hc1
      have hr := Lib.hid (hbad.out (hlast1.out (by omega)))
      have Sa := Lib.hid (ST.out.below Ba.out)
      clear hh hc2
      repeat (any_goals (first | go_big_quiet_step (fail) | quiet_step (fail)))
      refine wpQuiet_nil ?_
      first | (intro K hK) | skip
      first | go_simp | skip
      refine hK _ _ hwd ?_
      clear hK K
      repeat (any_goals (first | go_big_quiet_step (fail) | quiet_step (fail)))
      refine wpQuiet_nil ?_
      first | (intro K hK) | skip
      first | go_simp | skip
      refine hK _ _ hwd ?_
      clear hK K
      repeat (any_goals (first | go_big_quiet_step (fail) | quiet_step (fail)))
      refine wpQuiet_nil ?_
      first | (intro K hK) | skip
      first | go_simp | skip
      refine hK _ _ hwd ?_
      clear hK K
      repeat (any_goals (first | go_big_quiet_step (fail) | quiet_step (fail)))
      refine wpQuiet_nil ?_
      go_wp2_with (refine wpList_store_whole rfl rfl 73 _ _ rfl (B0 + 1) #[.slice none 0 0, .slice none 0 0, .slice none 0 0] #[.slice none 0 0, .slice none 0 0, .slice none 0 0] 73 rfl rfl Sa.out.ans rfl size_awatch (three_one _ _ _ rfl rfl rfl) ?_; intro w9 ho9 hp9)
      refine bodyPost_ret (results_cell_tmp rfl _ w9 (B0 + 1) _ _ _ _ _ rfl rfl hp9 Tryd.underlying73 rfl size_awatch) rfl (rdGot_bad hr.out rfl (bel_only (by rw [HB.out]; exact Sa.out.bel) ho9 (by rw [HB.out]; omega)))
    rw [decide_eq_false hh] at hc1
    first | go_big_quiet_step (fail) | quiet_step (fail)
    first | go_big_quiet_step (fail) | quiet_step (fail)
    first | go_big_quiet_step (fail) | quiet_step (fail)
    first | go_big_quiet_step (fail) | quiet_step (fail)
    refine wpQuiet_load_at rfl 53 _ rfl ⟨P, 2, none⟩ [.slice sn (dig s).length ca2, .slice sd (dig t).length cb2] _ rfl (fun w' hw' => by obtain ⟨x, rfl⟩ := hw'; exact mid_blk (bel_keep x.2 hPM HPt.out) _ (fun j u hj => by match j with | 0 => exact hj | 1 => exact hj | _ + 2 => cases hj)) Tryd.underlying53 rfl HS.out ?_
    refine wpQuiet_nil ?_
    intro K hK
    first | go_simp | skip
    go_wp2_with (go_at_call 28; refine (QWW.out wa).mono ?_; rintro e wb ⟨r1, r2, k5, k6, rfl, hV, bb'⟩)
    have Bb := Lib.hid (Ba.out.trans (bb'.mono Ba.out.size))
    have HV := Lib.hid hV
    refine hK _ _ ⟨⟨wb, by rw [HM3.out]; exact Bb.out⟩, rfl⟩ ?_
    clear hK K hV bb'
    repeat (any_goals (first | go_big_quiet_step (fail) | quiet_step (fail)))
    refine wpQuiet_nil ?_
    intro K hK
    first | go_simp | skip
    go_wp2_with (go_at_call 51; refine (QC2.out r1 r2 k5 k6 wb (HF.out.below Bb.out) HV.out).mono ?_; rintro e wc ⟨rfl, bc'⟩)
    have Bc := Lib.hid (Bb.out.trans (bc'.mono Bb.out.size))
    have hwd : ∃ x : BelowT M3 wt, wc = x.w := ⟨⟨wc, by rw [HM3.out]; exact Bc.out⟩, rfl⟩
    refine hK _ _ hwd ?_
    clear hK K bc'
    have Sc := Lib.hid (ST.out.below Bc.out)
    by_cases ho : t < s
    · rw [decide_eq_true ho] at hc2
      have hr := Lib.hid (hbad.out (hlast2.out (by omega)))
      clear hh ho
      repeat (any_goals (first | go_big_quiet_step (fail) | quiet_step (fail)))
      refine wpQuiet_nil ?_
      first | (intro K hK) | skip
      first | go_simp | skip
      refine hK _ _ hwd ?_
      clear hK K
      repeat (any_goals (first | go_big_quiet_step (fail) | quiet_step (fail)))
      refine wpQuiet_nil ?_
      go_wp2_with (refine wpList_store_whole rfl rfl 73 _ _ rfl (B0 + 1) #[.slice none 0 0, .slice none 0 0, .slice none 0 0] #[.slice none 0 0, .slice none 0 0, .slice none 0 0] 73 rfl rfl Sc.out.ans rfl size_awatch (three_one _ _ _ rfl rfl rfl) ?_; intro w9 ho9 hp9)
      refine bodyPost_ret (results_cell_tmp rfl _ w9 (B0 + 1) _ _ _ _ _ rfl rfl hp9 Tryd.underlying73 rfl size_awatch) rfl (rdGot_bad hr.out rfl (bel_only (by rw [HB.out]; exact Sc.out.bel) ho9 (by rw [HB.out]; omega)))
    rw [decide_eq_false ho] at hc2
    first | go_big_quiet_step (fail) | quiet_step (fail)
    first | go_big_quiet_step (fail) | quiet_step (fail)
    first | go_big_quiet_step (fail) | quiet_step (fail)
    first | go_big_quiet_step (fail) | quiet_step (fail)
    refine wpQuiet_load_one rfl 3 _ rfl ⟨P, 0, none⟩ (.int .i64 ak) _ rfl (fun w' hw' => by obtain ⟨x, rfl⟩ := hw'; exact cell_of_row _ P 0 _ _ _ (bel_keep x.2 hPM HPt.out)) Tryd.underlying3 rfl ?_
    first | go_big_quiet_step (fail) | quiet_step (fail)
    first | go_big_quiet_step (fail) | quiet_step (fail)
    refine wpQuiet_nil ?_
    intro K hK
    first | go_simp | skip
    go_wp2_with (go_at_call 22; refine (QBA.out wc).mono ?_; rintro e wd ⟨rfl, rfl⟩)
    refine hK _ _ hwd ?_
    clear hK K
    cases hba : ba with
    | false =>
      have hr := Lib.hid (hbad.out (hlast3.out hba))
      clear hh ho
      repeat (any_goals (first | go_big_quiet_step (fail) | quiet_step (fail)))
      refine wpQuiet_nil ?_
      go_wp2_with (refine wpList_store_whole rfl rfl 73 _ _ rfl (B0 + 1) #[.slice none 0 0, .slice none 0 0, .slice none 0 0] #[.slice none 0 0, .slice none 0 0, .slice none 0 0] 73 rfl rfl Sc.out.ans rfl size_awatch (three_one _ _ _ rfl rfl rfl) ?_; intro w9 ho9 hp9)
      refine bodyPost_ret (results_cell_tmp rfl _ w9 (B0 + 1) _ _ _ _ _ rfl rfl hp9 Tryd.underlying73 rfl size_awatch) rfl (rdGot_bad hr.out rfl (bel_only (by rw [HB.out]; exact Sc.out.bel) ho9 (by rw [HB.out]; omega)))
    | true =>
    first | go_big_quiet_step (fail) | quiet_step (fail)
    first | go_big_quiet_step (fail) | quiet_step (fail)
    first | go_big_quiet_step (fail) | quiet_step (fail)
    first | go_big_quiet_step (fail) | quiet_step (fail)
    refine wpQuiet_load_one rfl 3 _ rfl ⟨P, 1, none⟩ (.int .i64 bk) _ rfl (fun w' hw' => by obtain ⟨x, rfl⟩ := hw'; exact cell_of_row _ P 1 _ _ _ (bel_keep x.2 hPM HPt.out)) Tryd.underlying3 rfl ?_
    first | go_big_quiet_step (fail) | quiet_step (fail)
    first | go_big_quiet_step (fail) | quiet_step (fail)
    refine wpQuiet_nil ?_
    cases hbb : bb with
    | false =>
      have hr := Lib.hid (hbad.out (hlast4.out hbb))
      clear hh ho
      go_wp2_with (first | (go_at_call 22; refine (QBB.out wc).mono ?_; rw [hbb]; rintro e wk ⟨rfl, rfl⟩) | (refine wpList_store_whole rfl rfl 73 _ _ rfl (B0 + 1) #[.slice none 0 0, .slice none 0 0, .slice none 0 0] #[.slice none 0 0, .slice none 0 0, .slice none 0 0] 73 rfl rfl Sc.out.ans rfl size_awatch (three_one _ _ _ rfl rfl rfl) ?_; intro w9 ho9 hp9))
      refine bodyPost_ret (results_cell_tmp rfl _ w9 (B0 + 1) _ _ _ _ _ rfl rfl hp9 Tryd.underlying73 rfl size_awatch) rfl (rdGot_bad hr.out rfl (bel_only (by rw [HB.out]; exact Sc.out.bel) ho9 (by rw [HB.out]; omega)))
    | true =>
    have hok2 := Lib.hid (hgood.out (hlast.out (by omega) (by omega) hba hbb))
    have HPc := Lib.hid (bel_keep Bc.out hPt HPt.out)
    have HAt := Lib.hid (show LFr wc s t sn sd ∧ LFr wc u z un ud from ⟨HF.out.below Bc.out, HG.out.below Bc.out⟩)
    have LL := Lib.hid (show L.length < 1000000000000 by have := HLK.out; omega)
    clear hh ho
    go_upto_region 18 with (go_at_call 22; refine (QBB.out wc).mono ?_; rw [hbb]; rintro e wk ⟨rfl, rfl⟩)
    clear hwd QBA QBB QC1 QC2 QWW hc1 hc2 HPt hbad hlast hlast1 hlast2 hlast3 hlast4 HF HG HV hgood hba hbb hPt hbt hPM hEM
    obtain ⟨p, hp⟩ : ∃ p : PD, p = ⟨ak, bk, s, t, u, z, sn, sd, un, ud, ca2, cb2, ca3, cb3⟩ := ⟨_, rfl⟩
    have HPC := Lib.hid (show p.cells = [.int .i64 ak, .int .i64 bk, .slice sn (dig s).length ca2, .slice sd (dig t).length cb2, .slice un (dig u).length ca3, .slice ud (dig z).length cb3] by rw [hp]; rfl)
    have HPA := Lib.hid (show p.At wc by rw [hp]; exact ⟨HAt.out.1, HAt.out.2⟩)
    have HPL := Lib.hid (HSNOC.out p (by rw [hp]; exact ⟨rfl, rfl, rfl, rfl, rfl, rfl⟩))
    have HPG := Lib.hid (show pvals [p] = p.cells from pvals_single p)
    clear hp HAt
    obtain ⟨i0, hi, hz0, hz1, hz2⟩ := info_parts info_apair
    have I0 := Lib.hid hi
    have IZ0 := Lib.hid hz0
    have IZ1 := Lib.hid hz1
    have IZ2 := Lib.hid hz2
    have x0c : wc.cell? ⟨X, 0, none⟩ = some v := cell_of_row wc X 0 _ _ _ Sc.out.row
    have hXc2 : X < wc.heap.size := lt_of_heap Sc.out.row
    have BB := Lib.hid ((Below.refl wc.heap.size wc).alloc (Nat.le_refl _) (.cells #[.int .i64 ak, .int .i64 bk, .slice sn (dig s).length ca2, .slice sd (dig t).length cb2, .slice un (dig u).length ca3, .slice ud (dig z).length cb3] 78))
    clear hi hz0 hz1 hz2
    go_wp2_with (first
      | (refine wpList_load_whole rfl 78 _ rfl P _ _ _ _ rfl HPc.out Tryd.underlying78 rfl size_apair ?_)
      | (at_builtin; refine wpList_append_good _ rfl (.tmp 127) (.tmp 129) 71 rfl (E + 1) 78 i0 (.agg #[.int .i64 0, .int .i64 0, .slice none 0 0, .slice none 0 0, .slice none 0 0, .slice none 0 0]) 6 112 Tryd.underlying71 I0.out IZ0.out IZ1.out IZ2.out rfl (by decide) pair_good v L.length (pvals L) rfl (Sc.out.below BB.out).own ⟨wc.heap.size, 0, none⟩ 1 1 (pvals [p]) rfl (by rw [length_pvals]; rfl) (by rw [HPG.out, HPC.out]; exact news_blk (heap_at rfl)) (pvals_one _) (pvals_good _) (fun _ => by decide) (by unfold maxLen; have := LL.out; omega) (by have := LL.out; omega) (by have := lt_of_heap (Sc.out.below BB.out).half; omega) _ rfl ?_
         intro g9 c9 wf own hg hf hlt9
         have r9 : wf.heap[X]? = some (.cells #[v, LV1, LV2] 73 (0, 0)) := (hg.block X (lt_of_heap (Sc.out.below BB.out).row) (fun he => by have h1 := ((Sc.out.below BB.out).own.own.lt X he.symm).1; have h2 := (Sc.out).hX; omega)).trans (Sc.out.below BB.out).row
         have n2 : wf.cell? ⟨X, 0, none⟩ = some v := cell_of_row wf X 0 _ _ _ r9
         have z2 : wf.frozen? ⟨X, 0, none⟩ = false := frozen_of_row wf X 0 _ _ r9
         have hX9 : X < wf.heap.size := lt_of_heap r9))
    go_roundw
    case rel =>
      refine ⟨k + 1, .slice (some ⟨g9, 0, none⟩) (L.length + 1) c9, L ++ [p], by omega, by go_num, by rw [List.length_append, HLK.out]; rfl, hok2.out, HPL.out, ?_⟩
      rw [HPG.out] at own
      exact RdSt.app (Sc.out.below BB.out) rfl own hg (HPA.out.below BB.out) (by rw [HLV.out.1, HLV.out.2]; exact hvn) ((Only.refl X wf).setCell _ _) (heap_setCell_same wf X 0 _ _ _ r9)
    case measure => simp [intOf]; omega
  · have dk : decide ((k : Int) < (A.length : Int)) = false := decide_eq_false (by omega)
    have dk2 : decide (k < A.length) = false := decide_eq_false hlt
    obtain rfl : k = A.length := by omega
    have hr := Lib.hid (rightW_iff.2 (RightW.mk H1.out H2.out H3.out HRE.out.symm HOK.out))
    have hXr : X < wr.heap.size := lt_of_heap ST.out.row
    have hv1 : v.oneCell' = true := by
      rcases ST.out.own.own.2 with ⟨rfl, _⟩ | ⟨g, cap, cur, rfl, _⟩ <;> rfl
    have hl1 : LV1.oneCell' = true := by rw [HLV.out.1]; rfl
    have hl2 : LV2.oneCell' = true := by rw [HLV.out.2]; rfl
    go_wp2_with (first
      | (refine wpList_load_whole rfl 73 _ rfl X _ _ _ _ rfl ST.out.row Tryd.underlying73 rfl size_awatch ?_)
      | (refine wpList_store_whole rfl rfl 73 _ _ rfl (B0 + 1) #[.slice none 0 0, .slice none 0 0, .slice none 0 0] #[v, LV1, LV2] 73 rfl rfl ST.out.ans rfl size_awatch (three_one _ _ _ hv1 hl1 hl2) ?_; intro w9 ho hp))
    have own9 := ST.out.own.kept (grown_only ho) (.inr (fun he => by have h1 := (ST.out.own.own.lt _ he).1; have h2 := ST.out.hB; have h3 := ST.out.hX; omega))
    have at9 : ∀ p ∈ L, p.At w9 := fun p hq => ⟨((ST.out.ps p hq).share).spared ST.out.ans three_noInt ho, ((ST.out.ps p hq).odds).spared ST.out.ans three_noInt ho⟩
    have lim9 := ST.out.lim.spared ST.out.ans three_noInt ho
    obtain ⟨op, cp, hv, hps⟩ := psAt_own own9.own at9
    refine bodyPost_ret (results_cell_tmp rfl _ w9 (B0 + 1) _ _ _ _ _ rfl rfl hp Tryd.underlying73 rfl size_awatch) rfl ⟨op, L.length, cp, ol, (dig LN).length, cl, om, (dig LD).length, cm, by rw [hr.out, hv, HLV.out.1, HLV.out.2]; rfl, fun _ => ⟨L, rfl, HLK.out, HPM.out, hps, by rw [HRN.out, HRD.out, HLN.out], by rw [HRN.out, HRD.out, HLD.out], by rw [HRN.out, HRD.out, HLN.out, HLD.out]; exact lim9⟩, bel_only (by rw [HB.out]; exact ST.out.bel) ho (by rw [HB.out]; omega)⟩
end Go.Proofs.YtlbdcgnpkapncaaDoor
