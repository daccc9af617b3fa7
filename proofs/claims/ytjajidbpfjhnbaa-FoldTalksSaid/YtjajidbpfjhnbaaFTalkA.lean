/-
  The reference's Ask: a region that draws its order, by a plan.
  Conditions: what is joined is within the reach.
-/
import Derived.Test.YtjajidbpfjhnbaaFTalk
import Derived.Test.YtjajidbpfjhnbaaPlan
namespace Go.Proofs.Ytjajidbpfjhnbaa
set_option linter.unusedVariables false
set_option linter.unusedSimpArgs false
open Go.RowKit ML FM

theorem results_tmp_cell {P : Program} {fn : Func} {p q : Tmp} {ty : TypeId} (h : fn.results = #[.tmp q, .cell p ty]) (tmps : Array Value) (w : World) (g : Nat) (t : TypeId) (cs : Array Value) (fr : Nat × Nat) (d : TypeDesc) (v : Value)
    (hp : tmps.getD p undef = .pointer (some ⟨g, 0, none⟩)) (hq : tmps.getD q undef = v) (hg : w.heap[g]? = some (.cells cs t fr))
    (hu : P.underlying ty = some d) (hd : (match d with | .struct _ | .array _ _ => true | _ => false) = true) (hi : (P.info? ty).map (·.size) = some cs.size) :
    (results fn tmps).run P w = .ok (.tuple #[v, .agg cs]) w := by
  have hp' : tmps[p]?.getD undef = .pointer (some ⟨g, 0, none⟩) := by simpa using hp
  have hq' : tmps[q]?.getD undef = v := by simpa using hq
  simp [results, h, hp', hq', asAddr, run_loadVar_row w g t ty cs fr d hg hu hd hi]
theorem bufT (w : World) (X Y : Bytes) : (w.alloc (.cells #[.string ⟨X.toArray⟩, .string ⟨Y.toArray⟩] 9)).heap[w.heap.size]? = some (.cells #[.string ⟨X.toArray⟩, .string ⟨Y.toArray⟩] 9 (0, 0)) := heap_at rfl
set_option maxHeartbeats 4000000 in
set_option maxRecDepth 100000 in
theorem refAsk_any (S L : Bytes) (w : World) (hS : S.length < 200000000000000) (hL : L.length < 200000000000000) :
    Calls Try.prog 27 #[.agg #[.string ⟨S.toArray⟩], .string ⟨L.toArray⟩] w fun e w' => e = .returned (.tuple #[.string ⟨(askT S L).toArray⟩, .agg #[.string ⟨(askedT S L).toArray⟩]]) ∧ Below w.heap.size w w' := by
  have QT := Lib.hid (fun (g : Nat) (w3 : World) (h : w3.heap[g]? = some (.cells #[.string ⟨S.toArray⟩, .string ⟨L.toArray⟩] 9 (0, 0))) =>
    refTag_any askL (some ⟨g, 0, none⟩) [S, L] 2 w3 (strsAt_block h rfl) (by rw [len_join2, show askL.length = 3 from rfl]; omega) (by show 2 < 9223372036854775807; decide))
  have QU := Lib.hid (fun (g : Nat) (w3 : World) (h : w3.heap[g]? = some (.cells #[.string ⟨S.toArray⟩, .string ⟨L.toArray⟩] 9 (0, 0))) =>
    refTag_any askedL (some ⟨g, 0, none⟩) [S, L] 2 w3 (strsAt_block h rfl) (by rw [len_join2, show askedL.length = 5 from rfl]; omega) (by show 2 < 9223372036854775807; decide))
  have HN := Lib.hid (show digestL [] (joinL askL [S, L]) = askT S L from rfl)
  have HN2 := Lib.hid (show digestL [] (joinL askedL [S, L]) = askedT S L from rfl)
  rw [HN.out] at QT
  rw [HN2.out] at QU
  have HSZ := Lib.hid size_rtalk
  clear hS hL
  generalize askT S L = X at *
  generalize askedT S L = Y at *
  clear HN HN2
  go_enter Try.func27, Try.ntmps27
  go_upto_region 1 with (fail)
  have BX := TBox.mk' w #[.string ⟨S.toArray⟩] #[.string ⟨#[]⟩] 46 46
  generalize hW : w.heap.size = W at *
  refine wp_abs (fun w1 => TBox W w w1 #[.string ⟨S.toArray⟩] #[.string ⟨#[]⟩] 46 46) BX (fun w1 B1' => ?_)
  have HW := Lib.hid hW
  have HB1 := Lib.hid B1'
  obtain ⟨M, hM⟩ : ∃ M, M = w1.heap.size := ⟨_, rfl⟩
  have c1 := cell_of_row w1 W 0 _ _ _ B1'.x
  have hs0 : W < M := by rw [hM]; exact lt_of_heap B1'.x
  have hb0 : Below M w1 w1.drew := (Below.refl _ _).drew
  have hz0 : M ≤ w1.drew.heap.size := by rw [hM]; exact Nat.le_refl _
  have HMM := Lib.hid hM
  clear BX hW B1' hM
  refine Seg.wp_region_plan (fun w' => ∃ x : BelowT M w1, w' = x.w) (.quiet [0, 1, 2, 5, 6, 7] (.alt 3 (.alt 4 (.one 8 (.one 9 (.last [10, 11]))) (.one 8 (.one 4 (.one 9 (.last [10, 11]))))) (.one 8 (.one 3 (.one 4 (.one 9 (.last [10, 11]))))))) 12 (by kernel_rfl) (by kernel_rfl) (fun _ _ d _ _ h => by cases d <;> exact h) (⟨⟨_, hb0⟩, rfl⟩) ?_
  try simp only [Seg.wpPlan, List.map_cons, List.map_nil, Seg.opAt, List.drop_succ_cons, List.drop_zero, Array.getD_eq_getD_getElem?, List.getElem?_toArray, List.getElem?_cons_succ, List.getElem?_cons_zero, Option.getD_some]
  repeat (any_goals (first | go_big_quiet_step (fail) | quiet_step (fail)))
  refine wpQuiet_nil ?_
  try simp only [Seg.wpPlan, List.map_cons, List.map_nil, Seg.opAt, List.drop_succ_cons, List.drop_zero, Array.getD_eq_getD_getElem?, List.getElem?_toArray, List.getElem?_cons_succ, List.getElem?_cons_zero, Option.getD_some]
  have hwa := hb0
  have swa := hz0
  clear hb0 hz0
  generalize w1.drew = wa at *
  -- BEGIN
  refine ⟨?_, ?_⟩
  · try unfold Seg.wpUp
    intro K hK
    first | go_simp | skip
    go_wp2_with fail
    have hwb : Below M w1 (wa.alloc (.cells #[.string ⟨S.toArray⟩, .string ⟨L.toArray⟩] 9)) := hwa.alloc swa _
    have swb : M ≤ (wa.alloc (.cells #[.string ⟨S.toArray⟩, .string ⟨L.toArray⟩] 9)).heap.size := by simp; omega
    have eg1 := bufT wa S L
    refine hK _ _ ⟨⟨_, hwb⟩, rfl⟩ ?_
    clear hK K hwa swa
    generalize (wa.alloc (.cells #[.string ⟨S.toArray⟩, .string ⟨L.toArray⟩] 9)) = wb at *
    generalize wa.heap.size = g1 at *
    try simp only [Seg.wpPlan, List.map_cons, List.map_nil, Seg.opAt, List.drop_succ_cons, List.drop_zero, Array.getD_eq_getD_getElem?, List.getElem?_toArray, List.getElem?_cons_succ, List.getElem?_cons_zero, Option.getD_some]
    refine ⟨?_, ?_⟩
    · try unfold Seg.wpUp
      intro K hK
      first | go_simp | skip
      go_wp2_with (go_at_call 22; refine (QT.out g1 wb eg1).mono ?_; rintro e wc ⟨rfl, bwc⟩)
      have hwc := hwb.trans (bwc.mono swb)
      have swc := Nat.le_trans swb bwc.size
      clear eg1
      refine hK _ _ ⟨⟨wc, hwc⟩, rfl⟩ ?_
      clear hK K hwb swb bwc
      try simp only [Seg.wpPlan, List.map_cons, List.map_nil, Seg.opAt, List.drop_succ_cons, List.drop_zero, Array.getD_eq_getD_getElem?, List.getElem?_toArray, List.getElem?_cons_succ, List.getElem?_cons_zero, Option.getD_some]
      try unfold Seg.wpUp
      intro K hK
      first | go_simp | skip
      go_wp2_with fail
      have hwe : Below M w1 (wc.alloc (.cells #[.string ⟨S.toArray⟩, .string ⟨L.toArray⟩] 9)) := hwc.alloc swc _
      have swe : M ≤ (wc.alloc (.cells #[.string ⟨S.toArray⟩, .string ⟨L.toArray⟩] 9)).heap.size := by simp; omega
      have eg2 := bufT wc S L
      refine hK _ _ ⟨⟨_, hwe⟩, rfl⟩ ?_
      clear hK K hwc swc
      generalize (wc.alloc (.cells #[.string ⟨S.toArray⟩, .string ⟨L.toArray⟩] 9)) = we at *
      generalize wc.heap.size = g2 at *
      try simp only [Seg.wpPlan, List.map_cons, List.map_nil, Seg.opAt, List.drop_succ_cons, List.drop_zero, Array.getD_eq_getD_getElem?, List.getElem?_toArray, List.getElem?_cons_succ, List.getElem?_cons_zero, Option.getD_some]
      try unfold Seg.wpUp
      intro K hK
      first | go_simp | skip
      go_wp2_with (go_at_call 22; refine (QU.out g2 we eg2).mono ?_; rintro e wf ⟨rfl, bwf⟩)
      have hwf := hwe.trans (bwf.mono swe)
      have swf := Nat.le_trans swe bwf.size
      clear eg2
      refine hK _ _ ⟨⟨wf, hwf⟩, rfl⟩ ?_
      clear hK K hwe swe bwf
      try simp only [Seg.wpPlan, List.map_cons, List.map_nil, Seg.opAt, List.drop_succ_cons, List.drop_zero, Array.getD_eq_getD_getElem?, List.getElem?_toArray, List.getElem?_cons_succ, List.getElem?_cons_zero, Option.getD_some]
      repeat (any_goals (first | go_big_quiet_step (fail) | quiet_step (fail)))
      refine wpQuiet_nil ?_
      try simp only [Seg.wpPlan, List.map_cons, List.map_nil, Seg.opAt, List.drop_succ_cons, List.drop_zero, Array.getD_eq_getD_getElem?, List.getElem?_toArray, List.getElem?_cons_succ, List.getElem?_cons_zero, Option.getD_some]
      have h9 := Lib.hid hwf
      have B9 := Lib.hid (HB1.out.keep (by rw [← HMM.out]; exact hwf))
      clear hwf swf
      go_wp2_with (refine wpList_store_whole rfl rfl 46 _ _ rfl (W + 1) #[.string ⟨#[]⟩] #[.string ⟨Y.toArray⟩] 46 rfl rfl B9.out.y rfl HSZ.out (one_str _) ?_; intro w8 ho hp)
      refine bodyPost_ret (results_tmp_cell rfl _ w8 (W + 1) _ _ _ _ (.string ⟨X.toArray⟩) rfl rfl hp Try.underlying46 rfl HSZ.out) rfl ⟨rfl, ?_⟩
      rw [HW.out]
      exact bel_only B9.out.bel ho (by omega)
    · try unfold Seg.wpUp
      intro K hK
      first | go_simp | skip
      go_wp2_with fail
      have hwc : Below M w1 (wb.alloc (.cells #[.string ⟨S.toArray⟩, .string ⟨L.toArray⟩] 9)) := hwb.alloc swb _
      have swc : M ≤ (wb.alloc (.cells #[.string ⟨S.toArray⟩, .string ⟨L.toArray⟩] 9)).heap.size := by simp; omega
      have eg2 := bufT wb S L
      have kg1 := heap_lt (o := (.cells #[.string ⟨S.toArray⟩, .string ⟨L.toArray⟩] 9)) eg1
      clear eg1
      have eg1 := kg1
      clear kg1
      refine hK _ _ ⟨⟨_, hwc⟩, rfl⟩ ?_
      clear hK K hwb swb
      generalize (wb.alloc (.cells #[.string ⟨S.toArray⟩, .string ⟨L.toArray⟩] 9)) = wc at *
      generalize wb.heap.size = g2 at *
      try simp only [Seg.wpPlan, List.map_cons, List.map_nil, Seg.opAt, List.drop_succ_cons, List.drop_zero, Array.getD_eq_getD_getElem?, List.getElem?_toArray, List.getElem?_cons_succ, List.getElem?_cons_zero, Option.getD_some]
      try unfold Seg.wpUp
      intro K hK
      first | go_simp | skip
      go_wp2_with (go_at_call 22; refine (QT.out g1 wc eg1).mono ?_; rintro e we ⟨rfl, bwe⟩)
      have hwe := hwc.trans (bwe.mono swc)
      have swe := Nat.le_trans swc bwe.size
      clear eg1
      have kg2 := bel_keep bwe (lt_of_heap eg2) eg2
      clear eg2
      have eg2 := kg2
      clear kg2
      refine hK _ _ ⟨⟨we, hwe⟩, rfl⟩ ?_
      clear hK K hwc swc bwe
      try simp only [Seg.wpPlan, List.map_cons, List.map_nil, Seg.opAt, List.drop_succ_cons, List.drop_zero, Array.getD_eq_getD_getElem?, List.getElem?_toArray, List.getElem?_cons_succ, List.getElem?_cons_zero, Option.getD_some]
      try unfold Seg.wpUp
      intro K hK
      first | go_simp | skip
      go_wp2_with (go_at_call 22; refine (QU.out g2 we eg2).mono ?_; rintro e wf ⟨rfl, bwf⟩)
      have hwf := hwe.trans (bwf.mono swe)
      have swf := Nat.le_trans swe bwf.size
      clear eg2
      refine hK _ _ ⟨⟨wf, hwf⟩, rfl⟩ ?_
      clear hK K hwe swe bwf
      try simp only [Seg.wpPlan, List.map_cons, List.map_nil, Seg.opAt, List.drop_succ_cons, List.drop_zero, Array.getD_eq_getD_getElem?, List.getElem?_toArray, List.getElem?_cons_succ, List.getElem?_cons_zero, Option.getD_some]
      repeat (any_goals (first | go_big_quiet_step (fail) | quiet_step (fail)))
      refine wpQuiet_nil ?_
      try simp only [Seg.wpPlan, List.map_cons, List.map_nil, Seg.opAt, List.drop_succ_cons, List.drop_zero, Array.getD_eq_getD_getElem?, List.getElem?_toArray, List.getElem?_cons_succ, List.getElem?_cons_zero, Option.getD_some]
      have h9 := Lib.hid hwf
      have B9 := Lib.hid (HB1.out.keep (by rw [← HMM.out]; exact hwf))
      clear hwf swf
      go_wp2_with (refine wpList_store_whole rfl rfl 46 _ _ rfl (W + 1) #[.string ⟨#[]⟩] #[.string ⟨Y.toArray⟩] 46 rfl rfl B9.out.y rfl HSZ.out (one_str _) ?_; intro w8 ho hp)
      refine bodyPost_ret (results_tmp_cell rfl _ w8 (W + 1) _ _ _ _ (.string ⟨X.toArray⟩) rfl rfl hp Try.underlying46 rfl HSZ.out) rfl ⟨rfl, ?_⟩
      rw [HW.out]
      exact bel_only B9.out.bel ho (by omega)
  · try unfold Seg.wpUp
    intro K hK
    first | go_simp | skip
    go_wp2_with fail
    have hwb : Below M w1 (wa.alloc (.cells #[.string ⟨S.toArray⟩, .string ⟨L.toArray⟩] 9)) := hwa.alloc swa _
    have swb : M ≤ (wa.alloc (.cells #[.string ⟨S.toArray⟩, .string ⟨L.toArray⟩] 9)).heap.size := by simp; omega
    have eg2 := bufT wa S L
    refine hK _ _ ⟨⟨_, hwb⟩, rfl⟩ ?_
    clear hK K hwa swa
    generalize (wa.alloc (.cells #[.string ⟨S.toArray⟩, .string ⟨L.toArray⟩] 9)) = wb at *
    generalize wa.heap.size = g2 at *
    try simp only [Seg.wpPlan, List.map_cons, List.map_nil, Seg.opAt, List.drop_succ_cons, List.drop_zero, Array.getD_eq_getD_getElem?, List.getElem?_toArray, List.getElem?_cons_succ, List.getElem?_cons_zero, Option.getD_some]
    try unfold Seg.wpUp
    intro K hK
    first | go_simp | skip
    go_wp2_with fail
    have hwc : Below M w1 (wb.alloc (.cells #[.string ⟨S.toArray⟩, .string ⟨L.toArray⟩] 9)) := hwb.alloc swb _
    have swc : M ≤ (wb.alloc (.cells #[.string ⟨S.toArray⟩, .string ⟨L.toArray⟩] 9)).heap.size := by simp; omega
    have eg1 := bufT wb S L
    have kg2 := heap_lt (o := (.cells #[.string ⟨S.toArray⟩, .string ⟨L.toArray⟩] 9)) eg2
    clear eg2
    have eg2 := kg2
    clear kg2
    refine hK _ _ ⟨⟨_, hwc⟩, rfl⟩ ?_
    clear hK K hwb swb
    generalize (wb.alloc (.cells #[.string ⟨S.toArray⟩, .string ⟨L.toArray⟩] 9)) = wc at *
    generalize wb.heap.size = g1 at *
    try simp only [Seg.wpPlan, List.map_cons, List.map_nil, Seg.opAt, List.drop_succ_cons, List.drop_zero, Array.getD_eq_getD_getElem?, List.getElem?_toArray, List.getElem?_cons_succ, List.getElem?_cons_zero, Option.getD_some]
    try unfold Seg.wpUp
    intro K hK
    first | go_simp | skip
    go_wp2_with (go_at_call 22; refine (QT.out g1 wc eg1).mono ?_; rintro e we ⟨rfl, bwe⟩)
    have hwe := hwc.trans (bwe.mono swc)
    have swe := Nat.le_trans swc bwe.size
    clear eg1
    have kg2 := bel_keep bwe (lt_of_heap eg2) eg2
    clear eg2
    have eg2 := kg2
    clear kg2
    refine hK _ _ ⟨⟨we, hwe⟩, rfl⟩ ?_
    clear hK K hwc swc bwe
    try simp only [Seg.wpPlan, List.map_cons, List.map_nil, Seg.opAt, List.drop_succ_cons, List.drop_zero, Array.getD_eq_getD_getElem?, List.getElem?_toArray, List.getElem?_cons_succ, List.getElem?_cons_zero, Option.getD_some]
    try unfold Seg.wpUp
    intro K hK
    first | go_simp | skip
    go_wp2_with (go_at_call 22; refine (QU.out g2 we eg2).mono ?_; rintro e wf ⟨rfl, bwf⟩)
    have hwf := hwe.trans (bwf.mono swe)
    have swf := Nat.le_trans swe bwf.size
    clear eg2
    refine hK _ _ ⟨⟨wf, hwf⟩, rfl⟩ ?_
    clear hK K hwe swe bwf
    try simp only [Seg.wpPlan, List.map_cons, List.map_nil, Seg.opAt, List.drop_succ_cons, List.drop_zero, Array.getD_eq_getD_getElem?, List.getElem?_toArray, List.getElem?_cons_succ, List.getElem?_cons_zero, Option.getD_some]
    repeat (any_goals (first | go_big_quiet_step (fail) | quiet_step (fail)))
    refine wpQuiet_nil ?_
    try simp only [Seg.wpPlan, List.map_cons, List.map_nil, Seg.opAt, List.drop_succ_cons, List.drop_zero, Array.getD_eq_getD_getElem?, List.getElem?_toArray, List.getElem?_cons_succ, List.getElem?_cons_zero, Option.getD_some]
    have h9 := Lib.hid hwf
    have B9 := Lib.hid (HB1.out.keep (by rw [← HMM.out]; exact hwf))
    clear hwf swf
    go_wp2_with (refine wpList_store_whole rfl rfl 46 _ _ rfl (W + 1) #[.string ⟨#[]⟩] #[.string ⟨Y.toArray⟩] 46 rfl rfl B9.out.y rfl HSZ.out (one_str _) ?_; intro w8 ho hp)
    refine bodyPost_ret (results_tmp_cell rfl _ w8 (W + 1) _ _ _ _ (.string ⟨X.toArray⟩) rfl rfl hp Try.underlying46 rfl HSZ.out) rfl ⟨rfl, ?_⟩
    rw [HW.out]
    exact bel_only B9.out.bel ho (by omega)
  -- END
end Go.Proofs.Ytjajidbpfjhnbaa
