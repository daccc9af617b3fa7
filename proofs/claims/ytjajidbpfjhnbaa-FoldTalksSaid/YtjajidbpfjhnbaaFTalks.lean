/-
  FoldTalks: the walk.
-/
import Derived.Test.YtjajidbpfjhnbaaFTalkS
import Derived.IntWalk
import Derived.Deep.Fields
namespace Go.Proofs.Ytjajidbpfjhnbaa
set_option linter.unusedVariables false
set_option linter.unusedSimpArgs false
open Go.RowKit ML FM

theorem info_ptr : (Try.prog.info? 42).map (fun i => (i.zero, i.size, i.bytes)) = some (some (.pointer none), 1, 8) := by kernel_rfl
theorem info_rtalk : (Try.prog.info? 46).map (fun i => (i.zero, i.size, i.bytes)) = some (some (.agg #[.string ⟨#[]⟩]), 1, 16) := by kernel_rfl
theorem size_stepD : (Try.prog.info? 50).map (·.size) = some 4 := by kernel_rfl
def shortS (s : StepD) : Prop := s.L.length < 200000000000000 ∧ s.X.length < 200000000000000
/-- what holds at a round's head -/
def TalkRel (R : Nat) (w0 : World) (m : Nat) (v5 v6 : Value) (w : World) : Prop :=
  ∃ (Bs : List Nat) (Ps : List Bytes), TalkSt R w0 w v5 v6 Bs Ps Ps ∧ 0 < Bs.length ∧ Bs.length ≤ m + 1 ∧ ∀ p ∈ Ps, p.length = 32
set_option maxHeartbeats 8000000 in
set_option maxRecDepth 100000 in
theorem foldTalks_any (L : Bytes) (oa : Option Addr) (Ss : List StepD) (cap : Nat) (w : World) (hs : StepsAt w oa Ss) (hL : L.length < 200000000000000) (hn : Ss.length < 3000000000000) (hS : ∀ s ∈ Ss, shortS s) :
    Calls Try.prog 8 #[.string ⟨L.toArray⟩, .slice oa Ss.length cap] w fun e w' => e = .returned (.bool true) ∧ Below w.heap.size w w' := by
  have HS := Lib.hid hs
  have HSS := Lib.hid hS
  have QN := Lib.hid (fun w => newTalk_any L w hL)
  have QR := Lib.hid (fun w => refNewTalk_any L w hL)
  have HLL := Lib.hid hL
  have hl32 := Lib.hid (len_newT L)
  clear hs hS hL
  go_enter Try.func8, Try.ntmps8
  go_upto_region 3 with (first
    | (go_at_call 23; refine (QN.out w).mono ?_; rintro e w1 ⟨b, rfl, hb1, hb2, hb3⟩)
    | (go_at_call 24; refine (QR.out _).mono ?_; rintro e w3 ⟨rfl, hb4⟩))
  have hW1 : Below w.heap.size w (w1.alloc (.cells #[.pointer (some ⟨b, 0, none⟩)] 42)) := hb3.alloc hb3.size _
  have hz1 : w.heap.size ≤ w1.heap.size := hb3.size
  have o5 := World.ownsRow_lit (base := w.heap.size) (e := 42) (size := 1) w1 #[.pointer (some ⟨b, 0, none⟩)] 1 hz1 (by decide) rfl
  have hz3 : w.heap.size ≤ w3.heap.size := Nat.le_trans hz1 (by have := hb4.size; simp at this; omega)
  have o6 := World.ownsRow_lit (base := w.heap.size) (e := 46) (size := 1) w3 #[.string ⟨(newT L).toArray⟩] 1 hz3 (by decide) rfl
  have hW3 : Below (w1.alloc (.cells #[.pointer (some ⟨b, 0, none⟩)] 42)).heap.size (w1.alloc (.cells #[.pointer (some ⟨b, 0, none⟩)] 42)) (w3.alloc (.cells #[.string ⟨(newT L).toArray⟩] 46)) := hb4.alloc hb4.size _
  have T1 : TalkSt w.heap.size w (w3.alloc (.cells #[.string ⟨(newT L).toArray⟩] 46)) (.slice (some ⟨w1.heap.size, 0, none⟩) 1 1) (.slice (some ⟨w3.heap.size, 0, none⟩) 1 1) [b] [newT L] [newT L] :=
    ⟨own_below o5 hW3, o6, rfl, by simp, fun i hi => by
      have : i = 0 := by simp at hi; omega
      subst this
      exact bel_keep hW3 (by simp; have := lt_of_heap hb2; omega) (heap_lt hb2), fun c hc => by simp at hc; subst hc; exact hb1, hW1.trans (hW3.mono (by simp; omega)), by simp; omega⟩
  clear hW1 o5 o6 hW3 hb4 hb3 hb1 hb2 hz1 hz3
  generalize w1.heap.size = g5 at *
  generalize w3.heap.size = g6 at *
  refine wp_abs (fun w4 => TalkSt w.heap.size w w4 (.slice (some ⟨g5, 0, none⟩) 1 1) (.slice (some ⟨g6, 0, none⟩) 1 1) [b] [newT L] [newT L]) T1 (fun w4 T4 => ?_)
  clear T1
  have c5 := World.ownsRow.cellAt T4.own5 0 (by simp)
  have HT4 := Lib.hid T4
  clear T4
  have c5' : w4.cell? ⟨g5, 0, none⟩ = some (.pointer (some ⟨b, 0, none⟩)) := c5
  clear c5
  generalize hR : w.heap.size = R at *
  have HR := Lib.hid hR
  clear hR QN QR
  have HREL := Lib.hid (show TalkRel R w 0 (.slice (some ⟨g5, 0, none⟩) 1 1) (.slice (some ⟨g6, 0, none⟩) 1 1) w4 from ⟨[b], [newT L], HT4.out, by simp, by simp, fun p hp => by simp at hp; subst hp; exact hl32.out⟩)
  clear HT4 hl32
  go_upto_region 6 with (fail)
  clear c5'
  go_loopw [5, 6, 29] (fun v5 v6 i wr => ∃ k : Nat, k ≤ Ss.length ∧ i = .int .i64 k ∧ TalkRel R w k v5 v6 wr) (fun _ _ i _ => Ss.length - (intOf i).toNat)
  case atStart => exact ⟨0, by omega, rfl, HREL.out⟩
  case round =>
  clear HREL
  obtain ⟨k, hk, rfl, Bs, Ps, T, hB0, hBn, hP32⟩ := hrel
  obtain ⟨g5, c5, rfl, -, hg5⟩ := T.own5.form hB0
  obtain ⟨g6, c6, rfl, -, hg6⟩ := T.own6.form (by rw [T.len]; exact hB0)
  have hlq := T.len
  rw [hlq]
  by_cases hlt : k < Ss.length
  · have dk : decide ((k : Int) < (Ss.length : Int)) = true := decide_eq_true (by omega)
    have dk2 : decide (k < Ss.length) = true := decide_eq_true hlt
    have hki : (k : Int) < (Ss.length : Int) := by omega
    obtain ⟨a, hoa, hab, hac⟩ := HS.out.cells k hlt
    have hss := HSS.out _ (List.getElem_mem hlt)
    subst hoa
    generalize Ss[k] = s at *
    rw [HR.out] at hab
    have hac2 : ∀ j v, s.cells[j]? = some v → wr.cell? ((a.add (k * 4)).add j) = some v := fun j v hj => by
      rw [Go.Deep.add_add, T.bel.cell (by rw [add_block]; exact hab)]; exact hac j v hj
    have HT := Lib.hid T
    have HAC := Lib.hid hac2
    have H32 := Lib.hid hP32
    clear hac hac2 T hP32
    go_upto_region 7 with (fail)
    go_upto_region 8 with (first
      | (refine wpList_load_at rfl 50 _ rfl (a.add (k * 4)) rfl s.cells _ HAC.out Try.underlying50 rfl size_stepD ?_)
      | (refine wpList_store_whole rfl rfl 50 _ _ rfl wr.heap.size #[.int .i64 0, .int .i64 0, .string ⟨#[]⟩, .string ⟨#[]⟩] s.cells.toArray 50 rfl rfl (heap_at rfl) rfl size_stepD (by simp [StepD.cells, Value.oneCell']) ?_; intro w5 ho hp))
    have T6 := HT.out.below (bel_only ((Below.refl _ _).alloc (Nat.le_refl _) _) ho (Nat.le_refl _))
    rw [hlq] at T6
    generalize wr.heap.size = D at *
    refine wp_abs (fun w6 => TalkSt R w w6 (.slice (some ⟨g5, 0, none⟩) Bs.length c5) (.slice (some ⟨g6, 0, none⟩) Bs.length c6) Bs Ps Ps ∧ w6.heap[D]? = some (.cells s.cells.toArray 50 (0, 0))) ⟨T6, hp⟩ (fun w6 hw6 => ?_)
    have HT6 := Lib.hid hw6.1
    have HD6 := Lib.hid hw6.2
    have d0 : w6.cell? ⟨D, 0, none⟩ = some (.int .i64 s.d) := cell_of_row w6 D 0 _ _ _ hw6.2
    have d1 : w6.cell? ⟨D, 1, none⟩ = some (.int .i64 s.k) := cell_of_row w6 D 1 _ _ _ hw6.2
    have d2 : w6.cell? ⟨D, 2, none⟩ = some (.string ⟨s.L.toArray⟩) := cell_of_row w6 D 2 _ _ _ hw6.2
    have d3 : w6.cell? ⟨D, 3, none⟩ = some (.string ⟨s.X.toArray⟩) := cell_of_row w6 D 3 _ _ _ hw6.2
    clear hw6 T6 ho hp HT HAC hg5 hg6
    obtain ⟨n, hn2⟩ : ∃ n, n = Bs.length := ⟨_, rfl⟩
    rw [← hn2] at HT6 hB0 hBn hlq ⊢
    have HBn := Lib.hid hn2
    clear hn2
    have hn0 : ((n : Int) == 0) = false := by rw [beq_eq_false_iff_ne]; omega
    go_upto_region 9 with (fail)
    have z1 : s.k.tmod n < n := Int.tmod_lt_of_pos _ (by omega)
    have z2 : -(n : Int) < s.k.tmod n := Int.lt_tmod_of_pos _ (by omega)
    generalize s.k.tmod n = z at *
    clear hn0 d1
    go_upto_if 39 with (fail)
    go_cut [9] (fun v w' => ∃ i : Nat, i < n ∧ v = .int .i64 (i : Int) ∧ w6 = w')
    case first =>
      by_cases hz : z < 0
      · have dz : decide (z < 0) = true := decide_eq_true hz
        have zn : 0 ≤ z + n := by omega
        have zm : z + n < n := by omega
        go_wp2_with fail
        go_meet
        exact ⟨(z + n).toNat, by omega, by rw [Int.toNat_of_nonneg (by omega)], rfl⟩
      · have dz : decide (z < 0) = false := decide_eq_false hz
        go_wp2_with fail
        go_meet
        exact ⟨z.toNat, by omega, by rw [Int.toNat_of_nonneg (by omega)], rfl⟩
    case rest =>
    clear z1 z2
    generalize wc = wo at *
    obtain ⟨i, hin, rfl, rfl⟩ := hcut
    have hi : i < Bs.length := by rw [← HBn.out]; exact hin
    have hii : (i : Int) < (n : Int) := by omega
    obtain ⟨b, hbi⟩ : ∃ b, b = Bs[i] := ⟨_, rfl⟩
    obtain ⟨S, hSi⟩ : ∃ S, S = Ps.getD i [] := ⟨_, rfl⟩
    have hb6 := Lib.hid (show w6.heap[b]? = some (.cells #[.string ⟨S.toArray⟩] 82 (0, 0)) by rw [hbi, hSi]; exact HT6.out.cells i hi)
    have hS32 := Lib.hid (show S.length = 32 from H32.out S (by
      rw [hSi, List.getD_eq_getElem?_getD, List.getElem?_eq_getElem (by rw [hlq]; exact hin)]; exact List.getElem_mem _))
    have c5w6 : w6.cell? ⟨g5, i, none⟩ = some (.pointer (some ⟨b, 0, none⟩)) := TalkSt.ptr HT6.out hi hbi
    have HBI := Lib.hid hbi
    have HSI := Lib.hid hSi
    have HLQ := Lib.hid hlq
    clear hbi hSi hlq
    have hiq : i < Ps.length := by rw [HLQ.out]; exact hin
    have d0w6 := d0
    have d2w6 := d2
    have d3w6 := d3
    clear d0 d2 d3
    -- BEGIN
    by_cases hd0 : s.d = 0
    · have e0 : ((s.d : Int) == 0) = true := by rw [beq_iff_eq]; exact hd0
      clear hd0
      have hg6 := TalkSt.lt6 HT6.out
      go_upto_region 19 with (fail)
      have T7 := Lib.hid (HT6.out.below ((Below.refl _ _).drew))
      have QS := Lib.hid (say_any b S s.L s.X w6.drew (hb6.out) (by rw [hS32.out]; decide) hss.1 hss.2)
      refine Seg.wp_region_segs (fun w' => ∃ m, w' = w6.drewN m) [] [0, 1, 2, 3, 4, 5, 6, 7] 8 (by kernel_rfl) (by kernel_rfl) (fun _ _ d _ _ h => by cases d <;> exact h) (⟨1, rfl⟩) ?_
      simp only [List.map_cons, List.map_nil, Seg.opAt, List.drop_succ_cons, List.drop_zero, Seg.wpSegs, Array.getD_eq_getD_getElem?, List.getElem?_toArray, List.getElem?_cons_succ, List.getElem?_cons_zero, Option.getD_some]
      repeat (any_goals (first | go_big_quiet_step (fail) | quiet_step (fail)))
      refine wpQuiet_nil ?_
      go_wp2_with (go_at_call 25; refine QS.out.mono ?_; rintro e w7 ⟨rfl, hu⟩)
      have T8 := Lib.hid (T7.out.turn (i := i) hi (by rw [← HBI.out]; exact hu))
      have HD7 := Lib.hid (talk_keep hu (hb6.out : w6.drew.heap[b]? = _) (HD6.out : w6.drew.heap[D]? = _) (by decide))
      clear c5w6 d0w6 d2w6 d3w6 hu T7 QS HT6 HD6 hb6
      have d0w7 : w7.cell? ⟨D, 0, none⟩ = some (.int .i64 s.d) := cell_of_row w7 D 0 _ _ _ HD7.out
      have d2w7 : w7.cell? ⟨D, 2, none⟩ = some (.string ⟨s.L.toArray⟩) := cell_of_row w7 D 2 _ _ _ HD7.out
      have d3w7 : w7.cell? ⟨D, 3, none⟩ = some (.string ⟨s.X.toArray⟩) := cell_of_row w7 D 3 _ _ _ HD7.out
      obtain ⟨M, hM⟩ : ∃ M, M = w7.heap.size := ⟨_, rfl⟩
      have l5M : g5 < M := by rw [hM]; exact TalkSt.lt5 T8.out
      have l6M : g6 < M := by rw [hM]; exact TalkSt.lt6 T8.out
      have lDM : D < M := by rw [hM]; exact lt_of_heap HD7.out
      have HM := Lib.hid hM
      have hd7 : Below M w7 w7.drew := (Below.refl _ _).drew
      have zd7 : M ≤ w7.drew.heap.size := Nat.le_of_eq hM
      clear hM
      have QRS := Lib.hid (fun w => refSay_any S s.L s.X w (by rw [hS32.out]; decide) hss.1 hss.2)
      have HX := Lib.hid (len_sayT S s.L s.X)
      generalize sayT S s.L s.X = X at *
      refine Seg.wp_region_segs (fun w' => ∃ x : BelowT M w7, w' = x.w) [([0, 1, 2, 3, 4, 5, 6, 7, 8, 9], 10)] [] 11 (by kernel_rfl) (by kernel_rfl) (fun _ _ d _ _ h => by cases d <;> exact h) (⟨⟨_, hd7⟩, rfl⟩) ?_
      simp only [List.map_cons, List.map_nil, Seg.opAt, List.drop_succ_cons, List.drop_zero, Seg.wpSegs, Array.getD_eq_getD_getElem?, List.getElem?_toArray, List.getElem?_cons_succ, List.getElem?_cons_zero, Option.getD_some]
      first | go_big_quiet_step (fail) | quiet_step (fail)
      first | go_big_quiet_step (fail) | quiet_step (fail)
      first | go_big_quiet_step (fail) | quiet_step (fail)
      first | go_big_quiet_step (fail) | quiet_step (fail)
      first | go_big_quiet_step (fail) | quiet_step (fail)
      refine wpQuiet_load_mid rfl 46 _ rfl g6 i [.string ⟨S.toArray⟩] _ rfl (fun w' hw' => TalkSt.str (T8.out.below (by rw [← HM.out]; exact InB.below hw')) hiq HSI.out) Try.underlying46 rfl size_rtalk ?_
      first | go_big_quiet_step (fail) | quiet_step (fail)
      first | go_big_quiet_step (fail) | quiet_step (fail)
      first | go_big_quiet_step (fail) | quiet_step (fail)
      first | go_big_quiet_step (fail) | quiet_step (fail)
      refine wpQuiet_nil ?_
      intro K hK
      simp only [Region.wanted, if_true]
      go_wp2_with (go_at_call 26; refine (QRS.out _).mono ?_; rintro e w8 ⟨rfl, b8⟩)
      have b8' : Below M w7 w8 := hd7.trans (b8.mono zd7)
      have T9 := Lib.hid (T8.out.below (by rw [← HM.out]; exact b8'))
      refine hK _ _ ⟨⟨w8, b8'⟩, rfl⟩ ?_
      clear hK K b8 b8' d0w7 d2w7 d3w7 T8 HD7
      repeat (any_goals (first | go_big_quiet_step (fail) | quiet_step (fail)))
      refine wpQuiet_nil ?_
      go_wp2_with (refine wpList_store_mid rfl 46 _ _ rfl g6 i #[.string ⟨X.toArray⟩] rfl rfl (TalkSt.there T9.out hiq) size_rtalk (one_str _) ?_)
      go_roundw
      case rel => exact ⟨k + 1, by omega, by go_num, Bs, Ps.set i X, TalkSt.want T9.out i X, by rw [← HBn.out]; exact hB0, by rw [← HBn.out]; omega, all32_set H32.out i HX.out⟩
      case measure => simp [intOf]; omega
    have e0 : ((s.d : Int) == 0) = false := by rw [beq_eq_false_iff_ne]; exact hd0
    clear hd0
    by_cases hd1 : s.d = 1
    · have e1 : ((s.d : Int) == 1) = true := by rw [beq_iff_eq]; exact hd1
      clear hd1
      go_upto_region 22 with (fail)
      obtain ⟨M, hM⟩ : ∃ M, M = w6.heap.size := ⟨_, rfl⟩
      have l5M : g5 < M := by rw [hM]; exact TalkSt.lt5 HT6.out
      have l6M : g6 < M := by rw [hM]; exact TalkSt.lt6 HT6.out
      have lDM : D < M := by rw [hM]; exact lt_of_heap HD6.out
      have HM := Lib.hid hM
      have hwa : Below M w6 w6.drew := (Below.refl _ _).drew
      have swa : M ≤ w6.drew.heap.size := Nat.le_of_eq hM
      clear hM
      have QA := Lib.hid (fun w => refAsk_any S s.L w (by rw [hS32.out]; decide) hss.1)
      have QB := Lib.hid (fun w h => ask_any b S s.L w h (by rw [hS32.out]; decide) hss.1)
      have HX := Lib.hid (len_askedT S s.L)
      generalize askT S s.L = A at *
      generalize askedT S s.L = Y at *
      go_cut [10, 11] (fun v10 v11 w' => ∃ E, v10 = .string ⟨A.toArray⟩ ∧ v11 = .pointer (some ⟨E, 0, none⟩) ∧ w'.heap[E]? = some (.cells #[.string ⟨Y.toArray⟩] 46 (0, 0)) ∧ M ≤ E ∧ Below M w6 w')
      case first =>
        refine Seg.wp_region_plan (fun w' => ∃ x : BelowT M w6, w' = x.w) (.quiet [0, 1, 2, 3, 4, 5] (.alt 6 (.quiet [7, 8, 9] (.one 10 (.last [11]))) (.one 10 (.one 6 (.last [7, 8, 9, 11]))))) 12 (by kernel_rfl) (by kernel_rfl) (fun _ _ d _ _ h => by cases d <;> exact h) (⟨⟨_, hwa⟩, rfl⟩) ?_
        try simp only [Seg.wpPlan, List.map_cons, List.map_nil, Seg.opAt, List.drop_succ_cons, List.drop_zero, Array.getD_eq_getD_getElem?, List.getElem?_toArray, List.getElem?_cons_succ, List.getElem?_cons_zero, Option.getD_some]
        first | go_big_quiet_step (fail) | quiet_step (fail)
        first | go_big_quiet_step (fail) | quiet_step (fail)
        first | go_big_quiet_step (fail) | quiet_step (fail)
        refine wpQuiet_load_mid rfl 46 _ rfl g6 i [.string ⟨S.toArray⟩] _ rfl (fun w' hw' => TalkSt.str (HT6.out.below (by rw [← HM.out]; exact InB.below hw')) hiq HSI.out) Try.underlying46 rfl size_rtalk ?_
        first | go_big_quiet_step (fail) | quiet_step (fail)
        first | go_big_quiet_step (fail) | quiet_step (fail)
        refine wpQuiet_nil ?_
        try simp only [Seg.wpPlan, List.map_cons, List.map_nil, Seg.opAt, List.drop_succ_cons, List.drop_zero, Array.getD_eq_getD_getElem?, List.getElem?_toArray, List.getElem?_cons_succ, List.getElem?_cons_zero, Option.getD_some]
        clear c5w6 d0w6 d2w6 d3w6 HT6 HD6 hb6
        generalize w6.drew = wa at *
        refine ⟨?_, ?_⟩
        · try unfold Seg.wpUp
          intro K hK
          first | go_simp | skip
          go_wp2_with (go_at_call 27; refine (QA.out wa).mono ?_; rintro e wb ⟨rfl, bwb⟩)
          have hwb : Below M w6 wb := hwa.trans (bwb.mono swa)
          have swb : M ≤ wb.heap.size := Nat.le_trans swa bwb.size
          refine hK _ _ ⟨⟨wb, hwb⟩, rfl⟩ ?_
          clear hK K hwa swa bwb
          try simp only [Seg.wpPlan, List.map_cons, List.map_nil, Seg.opAt, List.drop_succ_cons, List.drop_zero, Array.getD_eq_getD_getElem?, List.getElem?_toArray, List.getElem?_cons_succ, List.getElem?_cons_zero, Option.getD_some]
          repeat (any_goals (first | go_big_quiet_step (fail) | quiet_step (fail)))
          refine wpQuiet_nil ?_
          try simp only [Seg.wpPlan, List.map_cons, List.map_nil, Seg.opAt, List.drop_succ_cons, List.drop_zero, Array.getD_eq_getD_getElem?, List.getElem?_toArray, List.getElem?_cons_succ, List.getElem?_cons_zero, Option.getD_some]
          try unfold Seg.wpUp
          intro K hK
          first | go_simp | skip
          go_wp2_with fail
          have hwc : Below M w6 (wb.alloc (.cells #[.string ⟨#[]⟩] 46)) := hwb.alloc swb _
          have swc : M ≤ (wb.alloc (.cells #[.string ⟨#[]⟩] 46)).heap.size := by simp; omega
          have eE : (wb.alloc (.cells #[.string ⟨#[]⟩] 46)).heap[wb.heap.size]? = some (.cells #[.string ⟨#[]⟩] 46 (0, 0)) := heap_at rfl
          have mE : M ≤ wb.heap.size := swb
          refine hK _ _ ⟨⟨_, hwc⟩, rfl⟩ ?_
          clear hK K hwb swb
          generalize (wb.alloc (.cells #[.string ⟨#[]⟩] 46)) = wc at *
          generalize wb.heap.size = E at *
          try simp only [Seg.wpPlan, List.map_cons, List.map_nil, Seg.opAt, List.drop_succ_cons, List.drop_zero, Array.getD_eq_getD_getElem?, List.getElem?_toArray, List.getElem?_cons_succ, List.getElem?_cons_zero, Option.getD_some]
          repeat (any_goals (first | go_big_quiet_step (fail) | quiet_step (fail)))
          refine wpQuiet_nil ?_
          try simp only [Seg.wpPlan, List.map_cons, List.map_nil, Seg.opAt, List.drop_succ_cons, List.drop_zero, Array.getD_eq_getD_getElem?, List.getElem?_toArray, List.getElem?_cons_succ, List.getElem?_cons_zero, Option.getD_some]
          go_wp2_with (refine wpList_store_whole rfl rfl 46 _ _ rfl E #[.string ⟨#[]⟩] #[.string ⟨Y.toArray⟩] 46 rfl rfl eE rfl size_rtalk (one_str _) ?_; intro w8 ho hp)
          go_meet
          exact ⟨E, rfl, rfl, hp, mE, bel_only hwc ho mE⟩
        · try unfold Seg.wpUp
          intro K hK
          first | go_simp | skip
          go_wp2_with fail
          have hwb : Below M w6 (wa.alloc (.cells #[.string ⟨#[]⟩] 46)) := hwa.alloc swa _
          have swb : M ≤ (wa.alloc (.cells #[.string ⟨#[]⟩] 46)).heap.size := by simp; omega
          have eE : (wa.alloc (.cells #[.string ⟨#[]⟩] 46)).heap[wa.heap.size]? = some (.cells #[.string ⟨#[]⟩] 46 (0, 0)) := heap_at rfl
          have mE : M ≤ wa.heap.size := swa
          refine hK _ _ ⟨⟨_, hwb⟩, rfl⟩ ?_
          clear hK K hwa swa
          generalize (wa.alloc (.cells #[.string ⟨#[]⟩] 46)) = wb at *
          generalize wa.heap.size = E at *
          try simp only [Seg.wpPlan, List.map_cons, List.map_nil, Seg.opAt, List.drop_succ_cons, List.drop_zero, Array.getD_eq_getD_getElem?, List.getElem?_toArray, List.getElem?_cons_succ, List.getElem?_cons_zero, Option.getD_some]
          try unfold Seg.wpUp
          intro K hK
          first | go_simp | skip
          go_wp2_with (go_at_call 27; refine (QA.out wb).mono ?_; rintro e wc ⟨rfl, bwc⟩)
          have hwc : Below M w6 wc := hwb.trans (bwc.mono swb)
          have swc : M ≤ wc.heap.size := Nat.le_trans swb bwc.size
          have kE := bel_keep bwc (lt_of_heap eE) eE
          clear eE
          have eE := kE
          clear kE
          refine hK _ _ ⟨⟨wc, hwc⟩, rfl⟩ ?_
          clear hK K hwb swb bwc
          try simp only [Seg.wpPlan, List.map_cons, List.map_nil, Seg.opAt, List.drop_succ_cons, List.drop_zero, Array.getD_eq_getD_getElem?, List.getElem?_toArray, List.getElem?_cons_succ, List.getElem?_cons_zero, Option.getD_some]
          repeat (any_goals (first | go_big_quiet_step (fail) | quiet_step (fail)))
          refine wpQuiet_nil ?_
          try simp only [Seg.wpPlan, List.map_cons, List.map_nil, Seg.opAt, List.drop_succ_cons, List.drop_zero, Array.getD_eq_getD_getElem?, List.getElem?_toArray, List.getElem?_cons_succ, List.getElem?_cons_zero, Option.getD_some]
          go_wp2_with (refine wpList_store_whole rfl rfl 46 _ _ rfl E #[.string ⟨#[]⟩] #[.string ⟨Y.toArray⟩] 46 rfl rfl eE rfl size_rtalk (one_str _) ?_; intro w8 ho hp)
          go_meet
          exact ⟨E, rfl, rfl, hp, mE, bel_only hwc ho mE⟩
      case rest =>
      clear c5w6 d0w6 d2w6 d3w6 hwa swa
      generalize wc = wo at *
      obtain ⟨E, rfl, rfl, eE, mE, belE⟩ := hcut
      have T9 := Lib.hid (HT6.out.below (by rw [← HM.out]; exact belE))
      have HD9 := Lib.hid (bel_keep belE lDM HD6.out)
      have hb9 := Lib.hid (bel_keep belE (by rw [HM.out]; exact lt_of_heap hb6.out) hb6.out)
      have HE9 := Lib.hid eE
      clear eE belE HT6 HD6 hb6 l5M l6M lDM HM mE
      go_upto_region 24 with (first
        | (refine wpList_load_whole rfl 46 _ rfl E #[.string ⟨Y.toArray⟩] 46 (0, 0) _ rfl HE9.out Try.underlying46 rfl size_rtalk ?_)
        | (refine wpList_store_mid rfl 46 _ _ rfl g6 i #[.string ⟨Y.toArray⟩] rfl rfl (TalkSt.there T9.out hiq) size_rtalk (one_str _) ?_))
      refine wp_abs (fun w' => TalkSt R w w' (.slice (some ⟨g5, 0, none⟩) n c5) (.slice (some ⟨g6, 0, none⟩) n c6) Bs Ps (Ps.set i Y) ∧ w'.heap[D]? = some (.cells s.cells.toArray 50 (0, 0)) ∧ w'.heap[b]? = some (.cells #[.string ⟨S.toArray⟩] 82 (0, 0))) ⟨TalkSt.want T9.out i Y, TalkSt.keep6 T9.out HD9.out (by decide) i _, TalkSt.keep6 T9.out hb9.out (by decide) i _⟩ (fun wy hwy => ?_)
      have TY := Lib.hid hwy.1
      have HDY := Lib.hid hwy.2.1
      have hbY := Lib.hid hwy.2.2
      clear hwy T9 HD9 hb9 HE9
      have c5wy : wy.cell? ⟨g5, i, none⟩ = some (.pointer (some ⟨b, 0, none⟩)) := TalkSt.ptr TY.out hi HBI.out
      have d0wy : wy.cell? ⟨D, 0, none⟩ = some (.int .i64 s.d) := cell_of_row wy D 0 _ _ _ HDY.out
      have d2wy : wy.cell? ⟨D, 2, none⟩ = some (.string ⟨s.L.toArray⟩) := cell_of_row wy D 2 _ _ _ HDY.out
      have d3wy : wy.cell? ⟨D, 3, none⟩ = some (.string ⟨s.X.toArray⟩) := cell_of_row wy D 3 _ _ _ HDY.out
      obtain ⟨M2, hM2⟩ : ∃ M, M = wy.heap.size := ⟨_, rfl⟩
      have l5M2 : g5 < M2 := by rw [hM2]; exact TalkSt.lt5 TY.out
      have l6M2 : g6 < M2 := by rw [hM2]; exact TalkSt.lt6 TY.out
      have lDM2 : D < M2 := by rw [hM2]; exact lt_of_heap HDY.out
      have HM2 := Lib.hid hM2
      have ne5 : g5 ≠ b := fun he => own_ne TY.out.own5 hbY.out (by decide) (by rw [← he]; rfl)
      have neD : D ≠ b := fun he => by
        have h1 := HDY.out
        rw [he, hbY.out] at h1
        simp at h1
      clear hM2
      have hg1 := grT_of (b := b) HM2.out (grown_only (Only.refl b wy).drew)
      refine Seg.wp_region_segs (fun w' => ∃ x : GrT b M2 wy, w' = x.w) [([0, 1, 2, 3, 4, 5, 7], 6)] [] 8 (by kernel_rfl) (by kernel_rfl) (fun _ _ d _ _ h => by cases d <;> exact h) (hg1) ?_
      simp only [List.map_cons, List.map_nil, Seg.opAt, List.drop_succ_cons, List.drop_zero, Seg.wpSegs, Array.getD_eq_getD_getElem?, List.getElem?_toArray, List.getElem?_cons_succ, List.getElem?_cons_zero, Option.getD_some]
      repeat (any_goals (first | go_big_quiet_step (fail) | quiet_step (fail)))
      refine wpQuiet_nil ?_
      intro K hK
      simp only [Region.wanted, if_true]
      go_wp2_with (go_at_call 28; refine (QB.out wy.drew hbY.out).mono ?_; rintro e wz ⟨rfl, hu⟩)
      have hu2 : TalkUp b Y 82 wy wz := ⟨hu.1, gtrans (grown_only (Only.refl b wy).drew) hu.2⟩
      have TZ := Lib.hid (TY.out.turn (i := i) hi (by rw [← HBI.out]; exact hu2))
      refine hK _ _ (grT_of (b := b) HM2.out hu2.2) ?_
      clear hK K hu hu2 c5wy d0wy d2wy d3wy TY HDY hbY
      repeat (any_goals (first | go_big_quiet_step (fail) | quiet_step (fail)))
      refine wpQuiet_nil ?_
      go_wp2_with fail
      go_roundw
      case rel => exact ⟨k + 1, by omega, by go_num, Bs, Ps.set i Y, TZ.out, by rw [← HBn.out]; exact hB0, by rw [← HBn.out]; omega, all32_set H32.out i HX.out⟩
      case measure => simp [intOf]; omega
    have e1 : ((s.d : Int) == 1) = false := by rw [beq_eq_false_iff_ne]; exact hd1
    clear hd1
    go_upto_region 12 with (fail)
    obtain ⟨M, hM⟩ : ∃ M, M = w6.heap.size := ⟨_, rfl⟩
    have l5M : g5 < M := by rw [hM]; exact TalkSt.lt5 HT6.out
    have l6M : g6 < M := by rw [hM]; exact TalkSt.lt6 HT6.out
    have lDM : D < M := by rw [hM]; exact lt_of_heap HD6.out
    have HM := Lib.hid hM
    have hwa : Below M w6 w6.drew := (Below.refl _ _).drew
    have swa : M ≤ w6.drew.heap.size := Nat.le_of_eq hM
    clear hM
    have QN2 := Lib.hid (fun w => newTalk_any s.L w hss.1)
    have QR2 := Lib.hid (fun w => refNewTalk_any s.L w hss.1)
    go_cut [12, 13] (fun v12 v13 w' => ∃ bn E, v12 = .pointer (some ⟨bn, 0, none⟩) ∧ v13 = .pointer (some ⟨E, 0, none⟩) ∧ w'.heap[bn]? = some (.cells #[.string ⟨(newT s.L).toArray⟩] 82 (0, 0)) ∧ w'.heap[E]? = some (.cells #[.string ⟨(newT s.L).toArray⟩] 46 (0, 0)) ∧ M ≤ bn ∧ M ≤ E ∧ Below M w6 w')
    case first =>
      refine Seg.wp_region_plan (fun w' => ∃ x : BelowT M w6, w' = x.w) (.quiet [0, 1, 3, 4] (.alt 2 (.alt 5 (.one 6 (.last [])) (.one 6 (.one 5 (.last [])))) (.one 6 (.one 2 (.one 5 (.last [])))))) 7 (by kernel_rfl) (by kernel_rfl) (fun _ _ d _ _ h => by cases d <;> exact h) (⟨⟨_, hwa⟩, rfl⟩) ?_
      try simp only [Seg.wpPlan, List.map_cons, List.map_nil, Seg.opAt, List.drop_succ_cons, List.drop_zero, Array.getD_eq_getD_getElem?, List.getElem?_toArray, List.getElem?_cons_succ, List.getElem?_cons_zero, Option.getD_some]
      repeat (any_goals (first | go_big_quiet_step (fail) | quiet_step (fail)))
      refine wpQuiet_nil ?_
      try simp only [Seg.wpPlan, List.map_cons, List.map_nil, Seg.opAt, List.drop_succ_cons, List.drop_zero, Array.getD_eq_getD_getElem?, List.getElem?_toArray, List.getElem?_cons_succ, List.getElem?_cons_zero, Option.getD_some]
      clear c5w6 d0w6 d2w6 d3w6 HT6 HD6 hb6
      generalize w6.drew = wa at *
      refine ⟨?_, ?_⟩
      · try unfold Seg.wpUp
        intro K hK
        first | go_simp | skip
        go_wp2_with (go_at_call 23; refine (QN2.out wa).mono ?_; rintro e wb ⟨bn, rfl, lbn, ebn, bwb⟩)
        have hwb : Below M w6 wb := hwa.trans (bwb.mono swa)
        have swb : M ≤ wb.heap.size := Nat.le_trans swa bwb.size
        have mbn : M ≤ bn := Nat.le_trans swa lbn
        refine hK _ _ ⟨⟨wb, hwb⟩, rfl⟩ ?_
        clear hK K hwa swa bwb lbn
        try simp only [Seg.wpPlan, List.map_cons, List.map_nil, Seg.opAt, List.drop_succ_cons, List.drop_zero, Array.getD_eq_getD_getElem?, List.getElem?_toArray, List.getElem?_cons_succ, List.getElem?_cons_zero, Option.getD_some]
        refine ⟨?_, ?_⟩
        · try unfold Seg.wpUp
          intro K hK
          first | go_simp | skip
          go_wp2_with (go_at_call 24; refine (QR2.out wb).mono ?_; rintro e wc ⟨rfl, bwc⟩)
          have hwc : Below M w6 wc := hwb.trans (bwc.mono swb)
          have swc : M ≤ wc.heap.size := Nat.le_trans swb bwc.size
          have kbn := bel_keep bwc (lt_of_heap ebn) ebn
          clear ebn
          have ebn := kbn
          clear kbn
          refine hK _ _ ⟨⟨wc, hwc⟩, rfl⟩ ?_
          clear hK K hwb swb bwc
          try simp only [Seg.wpPlan, List.map_cons, List.map_nil, Seg.opAt, List.drop_succ_cons, List.drop_zero, Array.getD_eq_getD_getElem?, List.getElem?_toArray, List.getElem?_cons_succ, List.getElem?_cons_zero, Option.getD_some]
          try unfold Seg.wpUp
          intro K hK
          first | go_simp | skip
          go_wp2_with fail
          have hwd : Below M w6 (wc.alloc (.cells #[.string ⟨#[]⟩] 46)) := hwc.alloc swc _
          have swd : M ≤ (wc.alloc (.cells #[.string ⟨#[]⟩] 46)).heap.size := by simp; omega
          have eE : (wc.alloc (.cells #[.string ⟨#[]⟩] 46)).heap[wc.heap.size]? = some (.cells #[.string ⟨#[]⟩] 46 (0, 0)) := heap_at rfl
          have mE : M ≤ wc.heap.size := swc
          have kbn := heap_lt (o := (.cells #[.string ⟨#[]⟩] 46)) ebn
          clear ebn
          have ebn := kbn
          clear kbn
          refine hK _ _ ⟨⟨_, hwd⟩, rfl⟩ ?_
          clear hK K hwc swc
          generalize (wc.alloc (.cells #[.string ⟨#[]⟩] 46)) = wd at *
          generalize wc.heap.size = E at *
          try simp only [Seg.wpPlan, List.map_cons, List.map_nil, Seg.opAt, List.drop_succ_cons, List.drop_zero, Array.getD_eq_getD_getElem?, List.getElem?_toArray, List.getElem?_cons_succ, List.getElem?_cons_zero, Option.getD_some]
          repeat (any_goals (first | go_big_quiet_step (fail) | quiet_step (fail)))
          refine wpQuiet_nil ?_
          try simp only [Seg.wpPlan, List.map_cons, List.map_nil, Seg.opAt, List.drop_succ_cons, List.drop_zero, Array.getD_eq_getD_getElem?, List.getElem?_toArray, List.getElem?_cons_succ, List.getElem?_cons_zero, Option.getD_some]
          go_wp2_with (refine wpList_store_whole rfl rfl 46 _ _ rfl E #[.string ⟨#[]⟩] #[.string ⟨(newT s.L).toArray⟩] 46 rfl rfl eE rfl size_rtalk (one_str _) ?_; intro w8 ho hp)
          go_meet
          exact ⟨bn, E, rfl, rfl, ho.keep (ne_types ebn eE (by decide)) ebn, hp, mbn, mE, bel_only hwd ho mE⟩
        · try unfold Seg.wpUp
          intro K hK
          first | go_simp | skip
          go_wp2_with fail
          have hwc : Below M w6 (wb.alloc (.cells #[.string ⟨#[]⟩] 46)) := hwb.alloc swb _
          have swc : M ≤ (wb.alloc (.cells #[.string ⟨#[]⟩] 46)).heap.size := by simp; omega
          have eE : (wb.alloc (.cells #[.string ⟨#[]⟩] 46)).heap[wb.heap.size]? = some (.cells #[.string ⟨#[]⟩] 46 (0, 0)) := heap_at rfl
          have mE : M ≤ wb.heap.size := swb
          have kbn := heap_lt (o := (.cells #[.string ⟨#[]⟩] 46)) ebn
          clear ebn
          have ebn := kbn
          clear kbn
          refine hK _ _ ⟨⟨_, hwc⟩, rfl⟩ ?_
          clear hK K hwb swb
          generalize (wb.alloc (.cells #[.string ⟨#[]⟩] 46)) = wc at *
          generalize wb.heap.size = E at *
          try simp only [Seg.wpPlan, List.map_cons, List.map_nil, Seg.opAt, List.drop_succ_cons, List.drop_zero, Array.getD_eq_getD_getElem?, List.getElem?_toArray, List.getElem?_cons_succ, List.getElem?_cons_zero, Option.getD_some]
          try unfold Seg.wpUp
          intro K hK
          first | go_simp | skip
          go_wp2_with (go_at_call 24; refine (QR2.out wc).mono ?_; rintro e wd ⟨rfl, bwd⟩)
          have hwd : Below M w6 wd := hwc.trans (bwd.mono swc)
          have swd : M ≤ wd.heap.size := Nat.le_trans swc bwd.size
          have kbn := bel_keep bwd (lt_of_heap ebn) ebn
          clear ebn
          have ebn := kbn
          clear kbn
          have kE := bel_keep bwd (lt_of_heap eE) eE
          clear eE
          have eE := kE
          clear kE
          refine hK _ _ ⟨⟨wd, hwd⟩, rfl⟩ ?_
          clear hK K hwc swc bwd
          try simp only [Seg.wpPlan, List.map_cons, List.map_nil, Seg.opAt, List.drop_succ_cons, List.drop_zero, Array.getD_eq_getD_getElem?, List.getElem?_toArray, List.getElem?_cons_succ, List.getElem?_cons_zero, Option.getD_some]
          repeat (any_goals (first | go_big_quiet_step (fail) | quiet_step (fail)))
          refine wpQuiet_nil ?_
          try simp only [Seg.wpPlan, List.map_cons, List.map_nil, Seg.opAt, List.drop_succ_cons, List.drop_zero, Array.getD_eq_getD_getElem?, List.getElem?_toArray, List.getElem?_cons_succ, List.getElem?_cons_zero, Option.getD_some]
          go_wp2_with (refine wpList_store_whole rfl rfl 46 _ _ rfl E #[.string ⟨#[]⟩] #[.string ⟨(newT s.L).toArray⟩] 46 rfl rfl eE rfl size_rtalk (one_str _) ?_; intro w8 ho hp)
          go_meet
          exact ⟨bn, E, rfl, rfl, ho.keep (ne_types ebn eE (by decide)) ebn, hp, mbn, mE, bel_only hwd ho mE⟩
      · try unfold Seg.wpUp
        intro K hK
        first | go_simp | skip
        go_wp2_with fail
        have hwb : Below M w6 (wa.alloc (.cells #[.string ⟨#[]⟩] 46)) := hwa.alloc swa _
        have swb : M ≤ (wa.alloc (.cells #[.string ⟨#[]⟩] 46)).heap.size := by simp; omega
        have eE : (wa.alloc (.cells #[.string ⟨#[]⟩] 46)).heap[wa.heap.size]? = some (.cells #[.string ⟨#[]⟩] 46 (0, 0)) := heap_at rfl
        have mE : M ≤ wa.heap.size := swa
        refine hK _ _ ⟨⟨_, hwb⟩, rfl⟩ ?_
        clear hK K hwa swa
        generalize (wa.alloc (.cells #[.string ⟨#[]⟩] 46)) = wb at *
        generalize wa.heap.size = E at *
        try simp only [Seg.wpPlan, List.map_cons, List.map_nil, Seg.opAt, List.drop_succ_cons, List.drop_zero, Array.getD_eq_getD_getElem?, List.getElem?_toArray, List.getElem?_cons_succ, List.getElem?_cons_zero, Option.getD_some]
        try unfold Seg.wpUp
        intro K hK
        first | go_simp | skip
        go_wp2_with (go_at_call 23; refine (QN2.out wb).mono ?_; rintro e wc ⟨bn, rfl, lbn, ebn, bwc⟩)
        have hwc : Below M w6 wc := hwb.trans (bwc.mono swb)
        have swc : M ≤ wc.heap.size := Nat.le_trans swb bwc.size
        have mbn : M ≤ bn := Nat.le_trans swb lbn
        have kE := bel_keep bwc (lt_of_heap eE) eE
        clear eE
        have eE := kE
        clear kE
        refine hK _ _ ⟨⟨wc, hwc⟩, rfl⟩ ?_
        clear hK K hwb swb bwc lbn
        try simp only [Seg.wpPlan, List.map_cons, List.map_nil, Seg.opAt, List.drop_succ_cons, List.drop_zero, Array.getD_eq_getD_getElem?, List.getElem?_toArray, List.getElem?_cons_succ, List.getElem?_cons_zero, Option.getD_some]
        try unfold Seg.wpUp
        intro K hK
        first | go_simp | skip
        go_wp2_with (go_at_call 24; refine (QR2.out wc).mono ?_; rintro e wd ⟨rfl, bwd⟩)
        have hwd : Below M w6 wd := hwc.trans (bwd.mono swc)
        have swd : M ≤ wd.heap.size := Nat.le_trans swc bwd.size
        have kbn := bel_keep bwd (lt_of_heap ebn) ebn
        clear ebn
        have ebn := kbn
        clear kbn
        have kE := bel_keep bwd (lt_of_heap eE) eE
        clear eE
        have eE := kE
        clear kE
        refine hK _ _ ⟨⟨wd, hwd⟩, rfl⟩ ?_
        clear hK K hwc swc bwd
        try simp only [Seg.wpPlan, List.map_cons, List.map_nil, Seg.opAt, List.drop_succ_cons, List.drop_zero, Array.getD_eq_getD_getElem?, List.getElem?_toArray, List.getElem?_cons_succ, List.getElem?_cons_zero, Option.getD_some]
        repeat (any_goals (first | go_big_quiet_step (fail) | quiet_step (fail)))
        refine wpQuiet_nil ?_
        try simp only [Seg.wpPlan, List.map_cons, List.map_nil, Seg.opAt, List.drop_succ_cons, List.drop_zero, Array.getD_eq_getD_getElem?, List.getElem?_toArray, List.getElem?_cons_succ, List.getElem?_cons_zero, Option.getD_some]
        go_wp2_with (refine wpList_store_whole rfl rfl 46 _ _ rfl E #[.string ⟨#[]⟩] #[.string ⟨(newT s.L).toArray⟩] 46 rfl rfl eE rfl size_rtalk (one_str _) ?_; intro w8 ho hp)
        go_meet
        exact ⟨bn, E, rfl, rfl, ho.keep (ne_types ebn eE (by decide)) ebn, hp, mbn, mE, bel_only hwd ho mE⟩
    case rest =>
    clear c5w6 d0w6 d2w6 d3w6 hwa swa
    generalize wc = wo at *
    obtain ⟨bn, E, rfl, rfl, ebn, eE, mbn, mE, belE⟩ := hcut
    have hM6 := HM.out
    have HRM := Lib.hid (show R ≤ M by rw [hM6]; exact HT6.out.size)
    have lts6 := Lib.hid HT6.out.lts
    have T9 := Lib.hid (HT6.out.below (by rw [← hM6]; exact belE))
    have HD9 := Lib.hid (bel_keep belE lDM HD6.out)
    have hb9 := Lib.hid (bel_keep belE (by rw [hM6]; exact lt_of_heap hb6.out) hb6.out)
    have Hbn := Lib.hid ebn
    have HE9 := Lib.hid eE
    have BEL9 := Lib.hid belE
    clear hM6 HD6 hb6 l5M l6M lDM ebn eE belE
    have c5wo : wo.cell? ⟨g5, i, none⟩ = some (.pointer (some ⟨b, 0, none⟩)) := TalkSt.ptr T9.out hi HBI.out
    have d0wo : wo.cell? ⟨D, 0, none⟩ = some (.int .i64 s.d) := cell_of_row wo D 0 _ _ _ HD9.out
    have d2wo : wo.cell? ⟨D, 2, none⟩ = some (.string ⟨s.L.toArray⟩) := cell_of_row wo D 2 _ _ _ HD9.out
    have d3wo : wo.cell? ⟨D, 3, none⟩ = some (.string ⟨s.X.toArray⟩) := cell_of_row wo D 3 _ _ _ HD9.out
    go_upto_if 54 with (fail)
    go_cut [12] (fun v12 w' => ∃ (Z : Bytes) (bq : Nat), Z.length = 32 ∧ v12 = .pointer (some ⟨bq, 0, none⟩) ∧ w'.heap[bq]? = some (.cells #[.string ⟨Z.toArray⟩] 82 (0, 0)) ∧ w'.heap[E]? = some (.cells #[.string ⟨Z.toArray⟩] 46 (0, 0)) ∧ M ≤ bq ∧ Below M w6 w')
    case first =>
      by_cases hd2 : s.d = 2
      · have e2 : ((s.d : Int) == 2) = true := by rw [beq_iff_eq]; exact hd2
        clear hd2
        go_upto_region 14 with (fail)
        obtain ⟨M3, hM3⟩ : ∃ M, M = wo.heap.size := ⟨_, rfl⟩
        have l5M3 : g5 < M3 := by rw [hM3]; exact TalkSt.lt5 T9.out
        have l6M3 : g6 < M3 := by rw [hM3]; exact TalkSt.lt6 T9.out
        have lDM3 : D < M3 := by rw [hM3]; exact lt_of_heap HD9.out
        have HM3 := Lib.hid hM3
        have hwo : Below M3 wo wo.drew := (Below.refl _ _).drew
        clear hM3
        refine Seg.wp_region_segs (fun w' => ∃ x : BelowT M3 wo, w' = x.w) [([0, 1, 2, 3, 5, 6, 7, 8], 4)] [9] 10 (by kernel_rfl) (by kernel_rfl) (fun _ _ d _ _ h => by cases d <;> exact h) (⟨⟨_, hwo⟩, rfl⟩) ?_
        simp only [List.map_cons, List.map_nil, Seg.opAt, List.drop_succ_cons, List.drop_zero, Seg.wpSegs, Array.getD_eq_getD_getElem?, List.getElem?_toArray, List.getElem?_cons_succ, List.getElem?_cons_zero, Option.getD_some]
        first | go_big_quiet_step (fail) | quiet_step (fail)
        first | go_big_quiet_step (fail) | quiet_step (fail)
        first | go_big_quiet_step (fail) | quiet_step (fail)
        first | go_big_quiet_step (fail) | quiet_step (fail)
        first | go_big_quiet_step (fail) | quiet_step (fail)
        first | go_big_quiet_step (fail) | quiet_step (fail)
        first | go_big_quiet_step (fail) | quiet_step (fail)
        refine wpQuiet_load_mid rfl 46 _ rfl g6 i [.string ⟨S.toArray⟩] _ rfl (fun w' hw' => TalkSt.str (T9.out.below (by rw [← HM3.out]; exact InB.below hw')) hiq HSI.out) Try.underlying46 rfl size_rtalk ?_
        refine wpQuiet_nil ?_
        intro K hK
        simp only [Region.wanted, if_true]
        go_wp2_with (go_at_call 29; refine (fork_any b S wo.drew hb9.out).mono ?_; rintro e wf ⟨bf, rfl, lbf, ebf, bF⟩)
        have hwf : Below M3 wo wf := hwo.trans (bF.mono (Nat.le_of_eq HM3.out))
        have eEf := bel_keep hwf (by rw [HM3.out]; exact lt_of_heap HE9.out) HE9.out
        have mo : M ≤ M3 := by have h1 := BEL9.out.size; rw [← HM.out, ← HM3.out] at h1; exact h1
        have mbf : M ≤ bf := Nat.le_trans mo (Nat.le_trans (Nat.le_of_eq HM3.out) lbf)
        have BELf := Lib.hid (BEL9.out.trans (hwf.mono mo))
        refine hK _ _ ⟨⟨wf, hwf⟩, rfl⟩ ?_
        clear hK K bF lbf hwf c5wo d0wo d2wo d3wo
        repeat (any_goals (first | go_big_quiet_step (fail) | quiet_step (fail)))
        refine wpQuiet_nil ?_
        go_wp2_with (refine wpList_store_whole rfl rfl 46 _ _ rfl E #[.string ⟨(newT s.L).toArray⟩] #[.string ⟨S.toArray⟩] 46 rfl rfl eEf rfl size_rtalk (one_str _) ?_; intro w8 ho hp)
        go_meet
        exact ⟨S, bf, hS32.out, rfl, ho.keep (ne_types ebf eEf (by decide)) ebf, hp, mbf, bel_only BELf.out ho mE⟩
      · have e2 : ((s.d : Int) == 2) = false := by rw [beq_eq_false_iff_ne]; exact hd2
        clear hd2
        go_wp2_with fail
        go_meet
        exact ⟨newT s.L, bn, len_newT _, rfl, Hbn.out, HE9.out, mbn, BEL9.out⟩
    case rest =>
    clear c5wo d0wo d2wo d3wo
    generalize wc = wq at *
    obtain ⟨Z, bq, hZ, rfl, ebq, eE, mbq, belq⟩ := hcut
    have HZ := Lib.hid hZ
    have TQ := Lib.hid (HT6.out.below (by rw [← HM.out]; exact belq))
    have nbq := Lib.hid (show bq ∉ Bs from fun h => by have := lts6.out bq h; rw [← HM.out] at this; omega)
    have Hbq := Lib.hid ebq
    have HEq := Lib.hid eE
    clear hZ ebq eE belq T9 HD9 hb9 Hbn HE9 BEL9 HT6 mbn mE
    go_upto_region 17 with (fail)
    obtain ⟨M4, hM4⟩ : ∃ M, M = wq.heap.size := ⟨_, rfl⟩
    have HM4 := Lib.hid hM4
    have lE4 : E < M4 := by rw [hM4]; exact lt_of_heap HEq.out
    have neE : E ≠ g5 := Ne.symm (ne_types (TalkSt.blk5 TQ.out) HEq.out (by decide))
    clear hM4
    have gwa : wq.grownBy wq.drew (some g5) := grown_only (Only.refl g5 wq).drew
    have Twa := Lib.hid (TQ.out.below (Below.refl _ _).drew)
    have bwa : wq.drew.heap[bq]? = some (.cells #[.string ⟨Z.toArray⟩] 82 (0, 0)) := Hbq.out
    refine Seg.wp_region_plan (fun w' => ∃ x : GrT g5 M4 wq, w' = x.w) (.quiet [0, 1, 4, 5] (.alt 2 (.alt 3 (.one 6 (.last [])) (.one 6 (.one 3 (.last [])))) (.one 6 (.one 2 (.one 3 (.last [])))))) 7 (by kernel_rfl) (by kernel_rfl) (fun _ _ d _ _ h => by cases d <;> exact h) (grT_of HM4.out gwa) ?_
    try simp only [Seg.wpPlan, List.map_cons, List.map_nil, Seg.opAt, List.drop_succ_cons, List.drop_zero, Array.getD_eq_getD_getElem?, List.getElem?_toArray, List.getElem?_cons_succ, List.getElem?_cons_zero, Option.getD_some]
    first | go_big_quiet_step (fail) | quiet_step (fail)
    first | go_big_quiet_step (fail) | quiet_step (fail)
    first | go_big_quiet_step (fail) | quiet_step (fail)
    refine wpQuiet_load_mid rfl 46 _ rfl E 0 [.string ⟨Z.toArray⟩] _ rfl (fun w' hw' => rangeAt_block (GrT.block hw' lE4 neE HEq.out)) Try.underlying46 rfl size_rtalk ?_
    refine wpQuiet_nil ?_
    try simp only [Seg.wpPlan, List.map_cons, List.map_nil, Seg.opAt, List.drop_succ_cons, List.drop_zero, Array.getD_eq_getD_getElem?, List.getElem?_toArray, List.getElem?_cons_succ, List.getElem?_cons_zero, Option.getD_some]
    clear TQ Hbq HEq lE4 neE
    generalize wq.drew = wa at *
    obtain ⟨i0, hi0, hz0, hz1, hz2⟩ := info_parts info_ptr
    obtain ⟨j0, ji, jz0, jz1, jz2⟩ := info_parts info_rtalk
    have I0 := Lib.hid hi0
    have IZ0 := Lib.hid hz0
    have IZ1 := Lib.hid hz1
    have IZ2 := Lib.hid hz2
    have J0 := Lib.hid ji
    have JZ0 := Lib.hid jz0
    have JZ1 := Lib.hid jz1
    have JZ2 := Lib.hid jz2
    have hn9 : n < 4000000000000 := by omega
    clear hi0 hz0 hz1 hz2 ji jz0 jz1 jz2
    refine ⟨?_, ?_⟩
    · try unfold Seg.wpUp
      intro K hK
      first | go_simp | skip
      go_wp2_with fail
      have gwb : wq.grownBy (wa.alloc (.cells #[.pointer (some ⟨bq, 0, none⟩)] 42)) (some g5) := gtrans gwa (World.grownBy_alloc wa _ _)
      have Twb := Lib.hid (Twa.out.below ((Below.refl _ _).alloc (Nat.le_refl _) (.cells #[.pointer (some ⟨bq, 0, none⟩)] 42)))
      have ep1 : (wa.alloc (.cells #[.pointer (some ⟨bq, 0, none⟩)] 42)).heap[wa.heap.size]? = some (.cells #[.pointer (some ⟨bq, 0, none⟩)] 42 (0, 0)) := heap_at rfl
      have bwb := heap_lt (o := (.cells #[.pointer (some ⟨bq, 0, none⟩)] 42)) bwa
      refine hK _ _ (grT_of HM4.out gwb) ?_
      clear hK K gwa Twa bwa
      generalize (wa.alloc (.cells #[.pointer (some ⟨bq, 0, none⟩)] 42)) = wb at *
      generalize wa.heap.size = p1 at *
      try simp only [Seg.wpPlan, List.map_cons, List.map_nil, Seg.opAt, List.drop_succ_cons, List.drop_zero, Array.getD_eq_getD_getElem?, List.getElem?_toArray, List.getElem?_cons_succ, List.getElem?_cons_zero, Option.getD_some]
      refine ⟨?_, ?_⟩
      · try unfold Seg.wpUp
        intro K hK
        rw [if_pos (by rfl)]
        refine wp_append_own _ (.tmp 66) (.tmp 68) 44 rfl R 42 i0 (.pointer none) 1 8 Try.underlying44 I0.out IZ0.out IZ1.out IZ2.out rfl (by decide) (.slice (some ⟨g5, 0, none⟩) n c5) n (ptrs Bs) rfl (by have h := Twb.out.own5; rw [← HBn.out] at h; exact h) ⟨p1, 0, none⟩ 1 1 (ptrs [bq]) rfl rfl (news_blk ep1) (ptrs_one _) (by unfold maxLen; omega) (by omega) Twb.out.size (fun v5' wc own5' hg5 _ => ?_)
        have gwc : wq.grownBy wc (some g5) := gtrans gwb hg5
        have Twc := Lib.hid (Twb.out.push5 (b := bq) (X := Z) (by rw [← HBn.out]; exact own5') hg5 bwb nbq.out (by have := Twb.out.size; have h2 := mbq; have h3 := HRM.out; omega))
        have bwc := grown_keep hg5 (own_ne Twb.out.own5 bwb (by decide)) bwb
        refine hK _ _ (grT_of HM4.out gwc) ?_
        clear hK K gwb Twb bwb own5' hg5 ep1
        try simp only [Seg.wpPlan, List.map_cons, List.map_nil, Seg.opAt, List.drop_succ_cons, List.drop_zero, Array.getD_eq_getD_getElem?, List.getElem?_toArray, List.getElem?_cons_succ, List.getElem?_cons_zero, Option.getD_some]
        try unfold Seg.wpUp
        intro K hK
        first | go_simp | skip
        go_wp2_with fail
        have gwd : wq.grownBy (wc.alloc (.cells #[.string ⟨Z.toArray⟩] 46)) (some g5) := gtrans gwc (World.grownBy_alloc wc _ _)
        have Twd := Lib.hid (Twc.out.below ((Below.refl _ _).alloc (Nat.le_refl _) (.cells #[.string ⟨Z.toArray⟩] 46)))
        have ep2 : (wc.alloc (.cells #[.string ⟨Z.toArray⟩] 46)).heap[wc.heap.size]? = some (.cells #[.string ⟨Z.toArray⟩] 46 (0, 0)) := heap_at rfl
        have bwd := heap_lt (o := (.cells #[.string ⟨Z.toArray⟩] 46)) bwc
        refine hK _ _ (grT_of HM4.out gwd) ?_
        clear hK K gwc Twc bwc
        generalize (wc.alloc (.cells #[.string ⟨Z.toArray⟩] 46)) = wd at *
        generalize wc.heap.size = p2 at *
        try simp only [Seg.wpPlan, List.map_cons, List.map_nil, Seg.opAt, List.drop_succ_cons, List.drop_zero, Array.getD_eq_getD_getElem?, List.getElem?_toArray, List.getElem?_cons_succ, List.getElem?_cons_zero, Option.getD_some]
        repeat (any_goals (first | go_big_quiet_step (fail) | quiet_step (fail)))
        refine wpQuiet_nil ?_
        try simp only [Seg.wpPlan, List.map_cons, List.map_nil, Seg.opAt, List.drop_succ_cons, List.drop_zero, Array.getD_eq_getD_getElem?, List.getElem?_toArray, List.getElem?_cons_succ, List.getElem?_cons_zero, Option.getD_some]
        go_wp2_with (at_builtin; refine wpList_append_own _ rfl (.tmp 70) (.tmp 72) 48 rfl R 46 j0 (.agg #[.string ⟨#[]⟩]) 1 16 Try.underlying48 J0.out JZ0.out JZ1.out JZ2.out rfl (by decide) (.slice (some ⟨g6, 0, none⟩) n c6) n (strs Ps) rfl (by have h := Twd.out.own6; rw [HLQ.out] at h; exact h) ⟨p2, 0, none⟩ 1 1 (strs [Z]) rfl rfl (news_blk ep2) (strs_one _) (by unfold maxLen; omega) (by omega) Twd.out.size ?_; intro v6' w9 own6' hg6 _)
        have T9 := Lib.hid (Twd.out.push6 (X := Z) (by rw [HLQ.out]; exact own6') hg6)
        clear Twd own6' hg6 gwd ep2
        go_wp2_with fail
        go_roundw
        case rel => exact ⟨k + 1, by omega, by go_num, Bs ++ [bq], Ps ++ [Z], T9.out, by simp, by rw [List.length_append, List.length_singleton, ← HBn.out]; omega, all32_push H32.out HZ.out⟩
        case measure => simp [intOf]; omega
      · try unfold Seg.wpUp
        intro K hK
        first | go_simp | skip
        go_wp2_with fail
        have gwc : wq.grownBy (wb.alloc (.cells #[.string ⟨Z.toArray⟩] 46)) (some g5) := gtrans gwb (World.grownBy_alloc wb _ _)
        have Twc := Lib.hid (Twb.out.below ((Below.refl _ _).alloc (Nat.le_refl _) (.cells #[.string ⟨Z.toArray⟩] 46)))
        have ep2 : (wb.alloc (.cells #[.string ⟨Z.toArray⟩] 46)).heap[wb.heap.size]? = some (.cells #[.string ⟨Z.toArray⟩] 46 (0, 0)) := heap_at rfl
        have bwc := heap_lt (o := (.cells #[.string ⟨Z.toArray⟩] 46)) bwb
        have kp1 := heap_lt (o := (.cells #[.string ⟨Z.toArray⟩] 46)) ep1
        clear ep1
        have ep1 := kp1
        clear kp1
        refine hK _ _ (grT_of HM4.out gwc) ?_
        clear hK K gwb Twb bwb
        generalize (wb.alloc (.cells #[.string ⟨Z.toArray⟩] 46)) = wc at *
        generalize wb.heap.size = p2 at *
        try simp only [Seg.wpPlan, List.map_cons, List.map_nil, Seg.opAt, List.drop_succ_cons, List.drop_zero, Array.getD_eq_getD_getElem?, List.getElem?_toArray, List.getElem?_cons_succ, List.getElem?_cons_zero, Option.getD_some]
        try unfold Seg.wpUp
        intro K hK
        rw [if_pos (by rfl)]
        refine wp_append_own _ (.tmp 66) (.tmp 68) 44 rfl R 42 i0 (.pointer none) 1 8 Try.underlying44 I0.out IZ0.out IZ1.out IZ2.out rfl (by decide) (.slice (some ⟨g5, 0, none⟩) n c5) n (ptrs Bs) rfl (by have h := Twc.out.own5; rw [← HBn.out] at h; exact h) ⟨p1, 0, none⟩ 1 1 (ptrs [bq]) rfl rfl (news_blk ep1) (ptrs_one _) (by unfold maxLen; omega) (by omega) Twc.out.size (fun v5' wd own5' hg5 _ => ?_)
        have gwd : wq.grownBy wd (some g5) := gtrans gwc hg5
        have Twd := Lib.hid (Twc.out.push5 (b := bq) (X := Z) (by rw [← HBn.out]; exact own5') hg5 bwc nbq.out (by have := Twc.out.size; have h2 := mbq; have h3 := HRM.out; omega))
        have kp2 := grown_keep hg5 (own_ne Twc.out.own5 ep2 (by decide)) ep2
        clear ep2
        have ep2 := kp2
        clear kp2
        have bwd := grown_keep hg5 (own_ne Twc.out.own5 bwc (by decide)) bwc
        refine hK _ _ (grT_of HM4.out gwd) ?_
        clear hK K gwc Twc bwc own5' hg5 ep1
        try simp only [Seg.wpPlan, List.map_cons, List.map_nil, Seg.opAt, List.drop_succ_cons, List.drop_zero, Array.getD_eq_getD_getElem?, List.getElem?_toArray, List.getElem?_cons_succ, List.getElem?_cons_zero, Option.getD_some]
        repeat (any_goals (first | go_big_quiet_step (fail) | quiet_step (fail)))
        refine wpQuiet_nil ?_
        try simp only [Seg.wpPlan, List.map_cons, List.map_nil, Seg.opAt, List.drop_succ_cons, List.drop_zero, Array.getD_eq_getD_getElem?, List.getElem?_toArray, List.getElem?_cons_succ, List.getElem?_cons_zero, Option.getD_some]
        go_wp2_with (at_builtin; refine wpList_append_own _ rfl (.tmp 70) (.tmp 72) 48 rfl R 46 j0 (.agg #[.string ⟨#[]⟩]) 1 16 Try.underlying48 J0.out JZ0.out JZ1.out JZ2.out rfl (by decide) (.slice (some ⟨g6, 0, none⟩) n c6) n (strs Ps) rfl (by have h := Twd.out.own6; rw [HLQ.out] at h; exact h) ⟨p2, 0, none⟩ 1 1 (strs [Z]) rfl rfl (news_blk ep2) (strs_one _) (by unfold maxLen; omega) (by omega) Twd.out.size ?_; intro v6' w9 own6' hg6 _)
        have T9 := Lib.hid (Twd.out.push6 (X := Z) (by rw [HLQ.out]; exact own6') hg6)
        clear Twd own6' hg6 gwd ep2
        go_wp2_with fail
        go_roundw
        case rel => exact ⟨k + 1, by omega, by go_num, Bs ++ [bq], Ps ++ [Z], T9.out, by simp, by rw [List.length_append, List.length_singleton, ← HBn.out]; omega, all32_push H32.out HZ.out⟩
        case measure => simp [intOf]; omega
    · try unfold Seg.wpUp
      intro K hK
      first | go_simp | skip
      go_wp2_with fail
      have gwb : wq.grownBy (wa.alloc (.cells #[.string ⟨Z.toArray⟩] 46)) (some g5) := gtrans gwa (World.grownBy_alloc wa _ _)
      have Twb := Lib.hid (Twa.out.below ((Below.refl _ _).alloc (Nat.le_refl _) (.cells #[.string ⟨Z.toArray⟩] 46)))
      have ep2 : (wa.alloc (.cells #[.string ⟨Z.toArray⟩] 46)).heap[wa.heap.size]? = some (.cells #[.string ⟨Z.toArray⟩] 46 (0, 0)) := heap_at rfl
      have bwb := heap_lt (o := (.cells #[.string ⟨Z.toArray⟩] 46)) bwa
      refine hK _ _ (grT_of HM4.out gwb) ?_
      clear hK K gwa Twa bwa
      generalize (wa.alloc (.cells #[.string ⟨Z.toArray⟩] 46)) = wb at *
      generalize wa.heap.size = p2 at *
      try simp only [Seg.wpPlan, List.map_cons, List.map_nil, Seg.opAt, List.drop_succ_cons, List.drop_zero, Array.getD_eq_getD_getElem?, List.getElem?_toArray, List.getElem?_cons_succ, List.getElem?_cons_zero, Option.getD_some]
      try unfold Seg.wpUp
      intro K hK
      first | go_simp | skip
      go_wp2_with fail
      have gwc : wq.grownBy (wb.alloc (.cells #[.pointer (some ⟨bq, 0, none⟩)] 42)) (some g5) := gtrans gwb (World.grownBy_alloc wb _ _)
      have Twc := Lib.hid (Twb.out.below ((Below.refl _ _).alloc (Nat.le_refl _) (.cells #[.pointer (some ⟨bq, 0, none⟩)] 42)))
      have ep1 : (wb.alloc (.cells #[.pointer (some ⟨bq, 0, none⟩)] 42)).heap[wb.heap.size]? = some (.cells #[.pointer (some ⟨bq, 0, none⟩)] 42 (0, 0)) := heap_at rfl
      have bwc := heap_lt (o := (.cells #[.pointer (some ⟨bq, 0, none⟩)] 42)) bwb
      have kp2 := heap_lt (o := (.cells #[.pointer (some ⟨bq, 0, none⟩)] 42)) ep2
      clear ep2
      have ep2 := kp2
      clear kp2
      refine hK _ _ (grT_of HM4.out gwc) ?_
      clear hK K gwb Twb bwb
      generalize (wb.alloc (.cells #[.pointer (some ⟨bq, 0, none⟩)] 42)) = wc at *
      generalize wb.heap.size = p1 at *
      try simp only [Seg.wpPlan, List.map_cons, List.map_nil, Seg.opAt, List.drop_succ_cons, List.drop_zero, Array.getD_eq_getD_getElem?, List.getElem?_toArray, List.getElem?_cons_succ, List.getElem?_cons_zero, Option.getD_some]
      try unfold Seg.wpUp
      intro K hK
      rw [if_pos (by rfl)]
      refine wp_append_own _ (.tmp 66) (.tmp 68) 44 rfl R 42 i0 (.pointer none) 1 8 Try.underlying44 I0.out IZ0.out IZ1.out IZ2.out rfl (by decide) (.slice (some ⟨g5, 0, none⟩) n c5) n (ptrs Bs) rfl (by have h := Twc.out.own5; rw [← HBn.out] at h; exact h) ⟨p1, 0, none⟩ 1 1 (ptrs [bq]) rfl rfl (news_blk ep1) (ptrs_one _) (by unfold maxLen; omega) (by omega) Twc.out.size (fun v5' wd own5' hg5 _ => ?_)
      have gwd : wq.grownBy wd (some g5) := gtrans gwc hg5
      have Twd := Lib.hid (Twc.out.push5 (b := bq) (X := Z) (by rw [← HBn.out]; exact own5') hg5 bwc nbq.out (by have := Twc.out.size; have h2 := mbq; have h3 := HRM.out; omega))
      have kp2 := grown_keep hg5 (own_ne Twc.out.own5 ep2 (by decide)) ep2
      clear ep2
      have ep2 := kp2
      clear kp2
      have bwd := grown_keep hg5 (own_ne Twc.out.own5 bwc (by decide)) bwc
      refine hK _ _ (grT_of HM4.out gwd) ?_
      clear hK K gwc Twc bwc own5' hg5 ep1
      try simp only [Seg.wpPlan, List.map_cons, List.map_nil, Seg.opAt, List.drop_succ_cons, List.drop_zero, Array.getD_eq_getD_getElem?, List.getElem?_toArray, List.getElem?_cons_succ, List.getElem?_cons_zero, Option.getD_some]
      repeat (any_goals (first | go_big_quiet_step (fail) | quiet_step (fail)))
      refine wpQuiet_nil ?_
      try simp only [Seg.wpPlan, List.map_cons, List.map_nil, Seg.opAt, List.drop_succ_cons, List.drop_zero, Array.getD_eq_getD_getElem?, List.getElem?_toArray, List.getElem?_cons_succ, List.getElem?_cons_zero, Option.getD_some]
      go_wp2_with (at_builtin; refine wpList_append_own _ rfl (.tmp 70) (.tmp 72) 48 rfl R 46 j0 (.agg #[.string ⟨#[]⟩]) 1 16 Try.underlying48 J0.out JZ0.out JZ1.out JZ2.out rfl (by decide) (.slice (some ⟨g6, 0, none⟩) n c6) n (strs Ps) rfl (by have h := Twd.out.own6; rw [HLQ.out] at h; exact h) ⟨p2, 0, none⟩ 1 1 (strs [Z]) rfl rfl (news_blk ep2) (strs_one _) (by unfold maxLen; omega) (by omega) Twd.out.size ?_; intro v6' w9 own6' hg6 _)
      have T9 := Lib.hid (Twd.out.push6 (X := Z) (by rw [HLQ.out]; exact own6') hg6)
      clear Twd own6' hg6 gwd ep2
      go_wp2_with fail
      go_roundw
      case rel => exact ⟨k + 1, by omega, by go_num, Bs ++ [bq], Ps ++ [Z], T9.out, by simp, by rw [List.length_append, List.length_singleton, ← HBn.out]; omega, all32_push H32.out HZ.out⟩
      case measure => simp [intOf]; omega
    -- END
  · have dk : decide ((k : Int) < (Ss.length : Int)) = false := decide_eq_false (by omega)
    have dk2 : decide (k < Ss.length) = false := decide_eq_false hlt
    rw [hlq] at T
    obtain ⟨n, hn2⟩ : ∃ n, n = Bs.length := ⟨_, rfl⟩
    rw [← hn2] at T hB0 hBn hlq ⊢
    have HBn := Lib.hid hn2
    have HT := Lib.hid T
    have HLQ := Lib.hid hlq
    have H32 := Lib.hid hP32
    have hn9 : n < 4000000000000 := by omega
    clear hn2 hlq T hP32 hlt hg5 hg6 HSS HS
    go_upto_region 28 with (fail)
    clear dk dk2
    go_loopw [125] (fun i wi => ∃ (j : Nat) (Zs : List Bytes), j ≤ n ∧ i = .int .i64 j ∧ TalkSt R w wi (.slice (some ⟨g5, 0, none⟩) n c5) (.slice (some ⟨g6, 0, none⟩) n c6) Bs Zs Ps ∧ ∀ q, j ≤ q → Zs.getD q [] = Ps.getD q []) (fun i _ => n - (intOf i).toNat)
    case atStart => exact ⟨0, Ps, by omega, rfl, HT.out, fun _ _ => rfl⟩
    case round =>
    clear HT
    generalize wr = wx at *
    obtain ⟨i, Zs, hi0, rfl, T, hZ⟩ := hrel
    by_cases hlt : i < n
    · have dl : decide ((i : Int) < (n : Int)) = true := decide_eq_true (by omega)
      have dl2 : decide (i < n) = true := decide_eq_true hlt
      have hii : (i : Int) < (n : Int) := by omega
      have hi : i < Bs.length := by rw [← HBn.out]; exact hlt
      have hiq : i < Ps.length := by rw [HLQ.out]; exact hlt
      obtain ⟨b, hbi⟩ : ∃ b, b = Bs[i] := ⟨_, rfl⟩
      obtain ⟨S, hSi⟩ : ∃ S, S = Ps.getD i [] := ⟨_, rfl⟩
      have hb6 := Lib.hid (show wx.heap[b]? = some (.cells #[.string ⟨S.toArray⟩] 82 (0, 0)) by rw [hbi, hSi, ← hZ i (Nat.le_refl _)]; exact T.cells i hi)
      have hS32 := Lib.hid (show S.length = 32 from H32.out S (by
        rw [hSi, List.getD_eq_getElem?_getD, List.getElem?_eq_getElem hiq]; exact List.getElem_mem _))
      have HBI := Lib.hid hbi
      have HSI := Lib.hid hSi
      have HZ := Lib.hid hZ
      have HT := Lib.hid T
      have QA := Lib.hid (fun w => refAsk_any S L w (by rw [hS32.out]; decide) HLL.out)
      have QB := Lib.hid (fun w h => ask_any b S L w h (by rw [hS32.out]; decide) HLL.out)
      generalize askT S L = A at *
      generalize askedT S L = Y at *
      clear hbi hSi hZ T
      go_upto_region 31 with (first
        | (refine wpList_load_mid rfl 46 _ rfl g6 i rfl [.string ⟨S.toArray⟩] _ (TalkSt.str HT.out hiq HSI.out) Try.underlying46 rfl size_rtalk ?_)
        | (go_at_call 27; refine (QA.out wx).mono ?_; rintro e w7 ⟨rfl, b7⟩)
        | (refine wpList_store_whole rfl rfl 46 _ _ rfl w7.heap.size #[.string ⟨#[]⟩] #[.string ⟨Y.toArray⟩] 46 rfl rfl (heap_at rfl) rfl size_rtalk (one_str _) ?_; intro w8 ho hp))
      have b8 : Below wx.heap.size wx w8 := bel_only (b7.alloc b7.size _) ho b7.size
      have T8 := Lib.hid (HT.out.below b8)
      have hb8 := Lib.hid (bel_keep b8 (lt_of_heap hb6.out) hb6.out)
      have c5w8 : w8.cell? ⟨g5, i, none⟩ = some (.pointer (some ⟨b, 0, none⟩)) := TalkSt.ptr T8.out hi HBI.out
      clear ho hp b7 b8 HT hb6
      go_wp2_with (go_at_call 28; refine (QB.out w8 hb8.out).mono ?_; rintro e w9 ⟨rfl, hu⟩; have T9 := Lib.hid (T8.out.turn (i := i) hi (by rw [← HBI.out]; exact hu)); clear hu)
      go_roundw
      case rel => exact ⟨i + 1, Zs.set i Y, by omega, by go_num, T9.out, fun q hq => by
        rw [← HZ.out q (by omega), List.getD_eq_getElem?_getD, List.getElem?_set_ne (by omega), ← List.getD_eq_getElem?_getD]⟩
      case measure => simp [intOf]; omega
    · have dl : decide ((i : Int) < (n : Int)) = false := decide_eq_false (by omega)
      have dl2 : decide (i < n) = false := decide_eq_false hlt
      have BEL := Lib.hid T.bel
      clear hZ T
      go_wp2_with fail
      go_ret
      exact ⟨rfl, by rw [HR.out]; exact BEL.out⟩
end Go.Proofs.Ytjajidbpfjhnbaa
