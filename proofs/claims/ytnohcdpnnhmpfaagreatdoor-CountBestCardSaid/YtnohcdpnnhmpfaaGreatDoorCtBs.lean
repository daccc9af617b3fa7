/-
  Chapter 13: CountBest walked. Printed by tools/genbest.py.
-/
import Derived.Test.YtnohcdpnnhmpfaaGreatDoorCtEl
namespace Go.Proofs.YtnohcdpnnhmpfaaGreatDoor
set_option linter.unusedVariables false
set_option linter.unusedSimpArgs false
open Go.RowKit ML FM AU CT

set_option maxHeartbeats 2000000 in
set_option maxRecDepth 100000 in
theorem lawIn_any (oa : Option Addr) (L : List Int) (cap : Nat) (x : Int) (w : World) (h : IsAt w oa L) (hl : L.length < 9223372036854775808) :
    Calls Tryz.prog 13 #[.slice oa L.length cap, .int .i64 x] w fun e w' => e = .returned (.bool (decide (x ∈ L))) ∧ w = w' := by
  have H := Lib.hid h
  clear h
  go_enter Tryz.func13, Tryz.ntmps13
  go_upto_region 2 with (fail)
  go_loop [9] (fun i => ∃ k : Nat, k ≤ L.length ∧ i = .int .i64 k ∧ x ∉ L.take k) (fun i => L.length - (intOf i).toNat)
  case atStart => exact ⟨0, by omega, rfl, by simp⟩
  case round =>
  obtain ⟨k, hk, rfl, hpre⟩ := hrel
  have HP := Lib.hid hpre
  clear hpre
  by_cases hlt : k < L.length
  · have dk : decide ((k : Int) < (L.length : Int)) = true := decide_eq_true (by omega)
    have dk2 : decide (k < L.length) = true := decide_eq_true hlt
    have hki : (k : Int) < (L.length : Int) := by omega
    obtain ⟨a, hoa, hab, hac⟩ := H.out.cells k hlt
    have hyes := Lib.hid (fun (hb : L[k] = x) => (show decide (x ∈ L) = true from decide_eq_true (hb ▸ List.getElem_mem hlt)))
    have hno := Lib.hid (fun (hb : ¬ L[k] = x) => (show x ∉ L.take (k + 1) by
      rw [List.take_succ_eq_append_getElem hlt, List.mem_append, List.mem_singleton]
      rintro (h | h)
      · exact HP.out h
      · exact hb h.symm))
    subst hoa
    generalize L[k] = y at *
    by_cases he : y = x
    · have h2 := Lib.hid (hyes.out he)
      have d1 : (y == x) = true := by rw [beq_iff_eq]; exact he
      clear he hyes hno
      go_wp2_with fail
      go_ret
      exact ⟨by rw [h2.out]; rfl, rfl⟩
    · have h2 := Lib.hid (hno.out he)
      have d1 : (y == x) = false := by rw [beq_eq_false_iff_ne]; exact he
      clear he hyes hno
      go_wp2_with fail
      go_round
      case rel => exact ⟨k + 1, by omega, by go_num, h2.out⟩
      case measure => simp [intOf]; omega
  · have dk : decide ((k : Int) < (L.length : Int)) = false := decide_eq_false (by omega)
    have dk2 : decide (k < L.length) = false := decide_eq_false hlt
    obtain rfl : k = L.length := by omega
    rw [List.take_length] at HP
    have h2 := Lib.hid (show decide (x ∈ L) = false from decide_eq_false HP.out)
    go_wp2_with fail
    go_ret
    exact ⟨by rw [h2.out]; rfl, rfl⟩

theorem way_congr {e e' : Mx} {n : Nat} (h : ∀ i j, i < n → j < n → e i j = e' i j) {s : Int} {i j : Nat} (hw : CT.Way e n s i j) : CT.Way e' n s i j := by
  induction hw with
  | one h1 h2 h3 => exact .one h1 h2 (by rw [← h _ _ h1 h2]; exact h3)
  | more h1 h2 h3 ih => exact .more ih h2 (by rw [← h _ _ h1.lt.2 h2]; exact h3)
theorem strong_congr {e e' w : Mx} {n : Nat} (h : ∀ i j, i < n → j < n → e i j = e' i j) (hs : Strong e n w) : Strong e' n w :=
  ⟨hs.zero, hs.nn, fun i j hi hj hij s h0 => ⟨fun hw => way_congr h ((hs.is i j hi hj hij s h0).1 hw), fun hw => (hs.is i j hi hj hij s h0).2 (way_congr (fun a b ha hb => (h a b ha hb).symm) hw)⟩⟩
/-- what Pairs tells can be asked for ways -/
theorem pairs_right {n : Nat} {K Q : List (Value × List Int)} (hn1 : 1 ≤ n) (hn12 : n ≤ 12) (hK : K.length ≤ 4096) (hQ : Q.map Prod.snd = (List.range n).map (rowI n (pairM K))) : Q.length = n ∧ wrE Q = 0 ∧ ∀ i j, i < n → j < n → mxP Q i j = pairM K i j := by
  have hl : Q.length = n := by have := congrArg List.length hQ; simpa using this
  have hr : ∀ i (h : i < Q.length), Q[i].2 = rowI n (pairM K) i := fun i h => by
    have h2 := congrArg (fun l => l[i]?) hQ
    have h3 : i < n := by omega
    simpa [h, h3] using h2
  have ha : allN Q.length Q := fun p hp => by
    obtain ⟨i, hi, rfl⟩ := List.mem_iff_getElem.1 hp
    rw [hr i hi, length_rowI, hl]
  refine ⟨hl, ?_, fun i j hi hj => ?_⟩
  · unfold wrE
    rw [if_neg (by rintro (h | h | h) <;> first | omega | exact h ha), if_neg]
    rw [List.any_eq_true]
    rintro ⟨x, hx, hb⟩
    obtain ⟨p, hp, hxp⟩ := List.mem_flatMap.1 hx
    obtain ⟨i, hi, rfl⟩ := List.mem_iff_getElem.1 hp
    rw [hr i hi] at hxp
    obtain ⟨j, _, rfl⟩ := List.mem_map.1 hxp
    have := cntP_le K i j
    unfold badI pairM at hb
    rw [decide_eq_false (by omega), decide_eq_false (by omega)] at hb
    cases hb
  · rw [mxP_get Q i j (by omega) (by rw [hr i (by omega), length_rowI]; exact hj)]
    have := hr i (by omega)
    simp only [this, rowI_get]
set_option maxHeartbeats 8000000 in
set_option maxRecDepth 100000 in
theorem countBest_any (c : CTest) (P : List (Value × List Int)) (lots : Bytes) (oa : Option Addr) (cap : Nat) (ob : Option Addr) (cb : Nat) (w : World) (hs : StrsAt w oa c.op) (hP : PsAt w ob P) (hf : c.Fits lots) (hnl : c.op.length < 9223372036854775807) :
    Calls Tryz.prog 8 #[.agg (c.cells oa cap).toArray, .slice ob P.length cb, .string ⟨lots.toArray⟩] w fun e w' => e = .returned (.bool true) ∧ Below w.heap.size w w' := by
  have hC : (c.cells oa cap).toArray = #[.string ⟨c.nm.toArray⟩, .slice oa c.op.length cap, .int .i64 c.rl, .int .i64 c.se, .int .i64 c.mo] := rfl
  rw [hC]
  have QE := Lib.hid (show ∀ (w : World) (h1 : StrsAt w oa c.op) (h2 : PsAt w ob P), Calls Tryz.prog 20 #[.agg #[.string ⟨c.nm.toArray⟩, .slice oa c.op.length cap, .int .i64 4, .int .i64 1, .int .i64 c.mo], .slice ob P.length cb, .string ⟨lots.toArray⟩] w (ElectGot ⟨c.nm, c.op, 4, 1, c.mo⟩ P w) from fun w h1 h2 => elect4_any ⟨c.nm, c.op, 4, 1, c.mo⟩ P lots oa cap ob cb w rfl h1 h2 ⟨hf.nm, hf.op, hf.lots⟩ hnl)
  have QP := Lib.hid (show ∀ (w : World) (h1 : StrsAt w oa c.op) (h2 : PsAt w ob P), Calls Tryz.prog 25 #[.agg #[.string ⟨c.nm.toArray⟩, .slice oa c.op.length cap, .int .i64 4, .int .i64 1, .int .i64 c.mo], .slice ob P.length cb] w (PairsGot ⟨c.nm, c.op, 4, 1, c.mo⟩ P w) from fun w h1 h2 => cPairs_any ⟨c.nm, c.op, 4, 1, c.mo⟩ P oa cap ob cb w h1 h2 ⟨hf.nm, hf.op, by decide⟩ hnl)
  have HS := Lib.hid hs
  have HP := Lib.hid hP
  clear hs hP hf hC
  have hnop : (CTest.mk c.nm c.op 4 1 c.mo).op.length = c.op.length := rfl
  have HNO := Lib.hid hnop
  clear hnop
  unfold ElectGot at QE
  unfold PairsGot at QP
  have HWC := Lib.hid (fun (h : prE ⟨c.nm, c.op, 4, 1, c.mo⟩ P = 0) => (show (1 ≤ c.op.length ∧ c.op.length ≤ 12) ∧ (prK ⟨c.nm, c.op, 4, 1, c.mo⟩ P).length ≤ 4096 by
    unfold prE at h
    cases hw : wrongC ⟨c.nm, c.op, 4, 1, c.mo⟩ with
    | true => rw [hw, if_pos rfl] at h; cases h
    | false =>
      rw [hw, if_neg (by decide)] at h
      have h1 := wrongC_no hw
      have h2 := filE_ok h
      exact ⟨⟨h1.1, h1.2.1⟩, Nat.le_trans (List.length_filter_le _ _) h2.2⟩))
  rw [HNO.out] at QE QP
  generalize CTest.mk c.nm c.op 4 1 c.mo = cr at *
  go_enter Tryz.func8, Tryz.ntmps8
  go_upto_region 1 with (fail)
  generalize hB : w.heap.size = B at *
  refine wp_abs (fun w1 => Below B w w1 ∧ w1.heap[B]? = some (.cells #[.string ⟨c.nm.toArray⟩, .slice oa c.op.length cap, .int .i64 c.rl, .int .i64 c.se, .int .i64 c.mo] 24 (0, 0))) ⟨by rw [← hB]; exact (Below.refl _ _).alloc (Nat.le_refl _) _, by rw [← hB]; exact heap_at rfl⟩ (fun w1 hw1 => ?_)
  have HB := Lib.hid hB
  have B1 := Lib.hid hw1.1
  have X1 := Lib.hid hw1.2
  have k2 : w1.cell? ⟨B, 2, none⟩ = some (.int .i64 c.rl) := cell_of_row w1 B 2 _ _ _ hw1.2
  have f2 : w1.frozen? ⟨B, 2, none⟩ = false := frozen_of_row w1 B 2 _ _ hw1.2
  have k3 : w1.cell? ⟨B, 3, none⟩ = some (.int .i64 c.se) := cell_of_row w1 B 3 _ _ _ hw1.2
  have f3 : w1.frozen? ⟨B, 3, none⟩ = false := frozen_of_row w1 B 3 _ _ hw1.2
  clear hB hw1
  go_upto_region 2 with (fail)
  refine wp_abs (fun w2 => Below B w w2 ∧ w2.heap[B]? = some (.cells #[.string ⟨c.nm.toArray⟩, .slice oa c.op.length cap, .int .i64 4, .int .i64 1, .int .i64 c.mo] 24 (0, 0))) ⟨(B1.out.setCell (Nat.le_refl _) _).setCell (Nat.le_refl _) _, by rw [heap_setCell_same _ _ _ _ _ _ (heap_setCell_same _ _ _ _ _ _ X1.out)]; rfl⟩ (fun w2 hw2 => ?_)
  have B2 := Lib.hid hw2.1
  have X2 := Lib.hid hw2.2
  have hBs : B < w2.heap.size := lt_of_heap hw2.2
  clear hw2 k2 f2 k3 f3 B1 X1
  have QE2 := Lib.hid (QE.out w2 (HS.out.below (HB.out.symm ▸ B2.out)) (HP.out.below (HB.out.symm ▸ B2.out)))
  clear QE
  by_cases h0 : prE cr P = 0
  case neg =>
    have H0 := Lib.hid h0
    have e1 : (prE cr P != prE cr P) = false := bne_self_eq_false _
    have e2 : (prE cr P != 0) = true := by rw [bne_iff_ne]; exact h0
    have e3 : (prE cr P == prE cr P) = true := beq_self_eq_true _
    clear h0 HWC
    go_upto_region 3 with (first
        | go_big_skip
        | ((with_reducible refine at_load 24 ?_); refine wpList_load_g ?_ 24 (.tmp 3) ?_ B _ _ _ _ ?_ X2.out Tryz.underlying24 ?_ size_contest ?_; rfl; rfl; rfl; rfl)
        | (go_at_call 20; refine (QE2.out).mono ?_; rintro e w3 ⟨b3, h3⟩; rw [if_neg H0.out] at h3; subst h3; dsimp only))
    have X3 := Lib.hid (bel_keep b3 hBs X2.out)
    have B3 := Lib.hid (B2.out.trans (b3.mono (Nat.le_of_lt hBs)))
    have hBs3 : B < w3.heap.size := lt_of_heap X3.out
    have QP2 := Lib.hid (QP.out w3 (HS.out.below (HB.out.symm ▸ B3.out)) (HP.out.below (HB.out.symm ▸ B3.out)))
    clear b3 QP
    go_wp2_with (first
        | go_big_skip
        | ((with_reducible refine at_load 24 ?_); refine wpList_load_g ?_ 24 (.tmp 3) ?_ B _ _ _ _ ?_ X3.out Tryz.underlying24 ?_ size_contest ?_; rfl; rfl; rfl; rfl)
        | (go_at_call 25; refine (QP2.out).mono ?_; rintro e w4 ⟨b4, h4⟩; rw [if_neg H0.out] at h4; subst h4; dsimp only))
    go_ret
    exact ⟨rfl, by rw [HB.out]; exact B3.out.trans (b4.mono (Nat.le_of_lt hBs3))⟩
  obtain ⟨⟨hn1, hn12⟩, hK4⟩ := HWC.out h0
  have H0 := Lib.hid h0
  clear h0 HWC
  go_upto_region 3 with (first
      | go_big_skip
      | ((with_reducible refine at_load 24 ?_); refine wpList_load_g ?_ 24 (.tmp 3) ?_ B _ _ _ _ ?_ X2.out Tryz.underlying24 ?_ size_contest ?_; rfl; rfl; rfl; rfl)
      | (go_at_call 20; refine (QE2.out).mono ?_; rintro e w3 ⟨b3, h3⟩; rw [if_pos H0.out] at h3; obtain ⟨i0, W0, oo, co, rfl, hI3, hst3, htop⟩ := h3; dsimp only))
  have X3 := Lib.hid (bel_keep b3 hBs X2.out)
  have B3 := Lib.hid (B2.out.trans (b3.mono (Nat.le_of_lt hBs)))
  have hBs3 : B < w3.heap.size := lt_of_heap X3.out
  have QP2 := Lib.hid (QP.out w3 (HS.out.below (HB.out.symm ▸ B3.out)) (HP.out.below (HB.out.symm ▸ B3.out)))
  have I3 := Lib.hid hI3
  have S3 := Lib.hid hst3
  have T3 := Lib.hid htop
  clear b3 QP QE2 X2 B2 hBs hI3 hst3 htop
  go_upto_region 4 with (first
      | go_big_skip
      | ((with_reducible refine at_load 24 ?_); refine wpList_load_g ?_ 24 (.tmp 3) ?_ B _ _ _ _ ?_ X3.out Tryz.underlying24 ?_ size_contest ?_; rfl; rfl; rfl; rfl)
      | (go_at_call 25; refine (QP2.out).mono ?_; rintro e w4 ⟨b4, h4⟩; rw [if_pos H0.out] at h4; obtain ⟨oq, cq, Q, rfl, hq4, hqs⟩ := h4; dsimp only))
  obtain ⟨hQl, hQw, hQm⟩ := pairs_right hn1 hn12 hK4 hqs
  have S4 := Lib.hid (strong_congr (e' := edge (mxP Q)) (fun i j hi hj => by unfold edge; rw [hQm i j hi hj, hQm j i hj hi]) S3.out)
  have hqa := (wrE_ok hQw).1
  have hQnn := (wrE_ok hQw).2.2.2
  have R4 := Lib.hid (psAt_read hq4 hqa)
  rw [← hQl] at S4 T3 hn1 hn12
  have I4 := Lib.hid (I3.out.below b4)
  have Q4 := Lib.hid hq4
  have B4 := Lib.hid (B3.out.trans (b4.mono (Nat.le_of_lt hBs3)))
  have hB4 : B ≤ w4.heap.size := Nat.le_trans (Nat.le_of_lt hBs3) b4.size
  have HW := Lib.hid hQw
  have HNN := Lib.hid (fun i j hi hj => (hQnn i j hi hj).1)
  have QPS := Lib.hid (fun w1 h => cPaths_any Q oq cq w1 h (by omega))
  have QSM := Lib.hid (fun w1 h => smith_any Q oq cq w1 h (by omega))
  unfold PathsGot at QPS
  unfold SmithGot at QSM
  obtain ⟨q, hoq, _, _⟩ := R4.out.cells 0 hn1
  subst hoq
  clear b4 QP2 I3 S3 X3 B3 hBs3 hq4 hqs hQl hQw hQm hqa hQnn hK4
  as_aux_lemma =>
  go_upto_region 7 with (first
      | go_big_skip
      | (go_at_call 26; refine (QPS.out w4 Q4.out).mono ?_; rintro e w5 ⟨b5, h5⟩; rw [if_pos HW.out] at h5; obtain ⟨F, gs, W, rfl, hm5, hst5⟩ := h5; dsimp only))
  have W5 := Lib.hid hm5.read
  have S5 := Lib.hid hst5
  have I5 := Lib.hid (I4.out.below b5)
  have Q5 := Lib.hid (Q4.out.below b5)
  have R5 := Lib.hid (R4.out.below b5)
  have B5 := Lib.hid (B4.out.trans (b5.mono hB4))
  have hB5 : B ≤ w5.heap.size := Nat.le_trans hB4 b5.size
  clear b5 hm5 hst5 QPS I4 Q4 R4 B4 hB4
  go_upto_region 8 with (first
      | go_big_skip
      | (go_at_call 27; refine (QSM.out w5 Q5.out).mono ?_; rintro e w6 ⟨b6, h6⟩; rw [if_pos HW.out] at h6; obtain ⟨os, cs, S, rfl, hi6, hsr6, hsm6⟩ := h6; dsimp only))
  have W6 := Lib.hid (W5.out.below b6)
  have I6 := Lib.hid (I5.out.below b6)
  have R6 := Lib.hid (R5.out.below b6)
  have B6 := Lib.hid (B5.out.trans (b6.mono hB5))
  have hB6 : B ≤ w6.heap.size := Nat.le_trans hB5 b6.size
  have IS6 := Lib.hid hi6
  have SM6 := Lib.hid hsm6
  have hin : i0 ∈ S := T3.out.mem S4.out HNN.out hsm6.dom hsm6.ne
  have hSl := (subset_len (B := List.range Q.length) hsm6.nd (fun x hx => List.mem_range.2 (hsm6.dom.1 x hx))).1
  rw [List.length_range] at hSl
  obtain ⟨ai, hai, haib, hac⟩ := I6.out.cells 0 (by simp)
  subst hai
  have QI := Lib.hid (lawIn_any os (natI S) cs (i0 : Int) w6 hi6 (by rw [length_natI]; omega))
  have HMEM := Lib.hid (show decide ((i0 : Int) ∈ natI S) = true from decide_eq_true ((mem_natI S i0).2 hin))
  rw [HMEM.out] at QI
  clear b6 QSM W5 I5 R5 Q5 B5 hB5 hi6 hsr6 hsm6 hin HMEM
  have hac0 : w6.cell? ai = some (.int .i64 (i0 : Int)) := by have := hac; rwa [show ai.add 0 = ai from by simp [Addr.add]] at this
  have HAC := Lib.hid hac0
  go_upto_region 10 with (first
      | go_big_skip
      | (go_at_call 13; refine (QI.out).mono ?_; rintro e w7 ⟨rfl, rfl⟩; dsimp only))
  clear QI hac0 hac
  have KA := Lib.hid haib
  clear haib
  as_aux_lemma =>
  go_wp2_with fail
  go_loopw [78] (fun v wr => ∃ i1 : Nat, v = .int .i64 i1 ∧ i1 ≤ Q.length ∧ Below w6.heap.size w6 wr) (fun v _ => Q.length - (intOf v).toNat)
  case atStart => exact ⟨0, rfl, Nat.zero_le _, Below.refl _ _⟩
  case round =>
  obtain ⟨i1, rfl, hi1, hb⟩ := hrel
  have BR := Lib.hid hb
  clear hb
  by_cases hlti : i1 < Q.length
  case neg =>
    have dk : decide ((i1 : Int) < (Q.length : Int)) = false := decide_eq_false (by omega)
    have dk2 : decide (i1 < Q.length) = false := decide_eq_false hlti
    go_wp2_with fail
    go_ret
    exact ⟨rfl, by rw [HB.out]; exact B6.out.trans (BR.out.mono hB6)⟩
  have dk : decide ((i1 : Int) < (Q.length : Int)) = true := decide_eq_true (by omega)
  have dk2 : decide (i1 < Q.length) = true := decide_eq_true hlti
  have dki : (i1 : Int) < (Q.length : Int) := by omega
  obtain ⟨wo, hwo⟩ : ∃ wo : World, wo = wr := ⟨_, rfl⟩
  subst hwo
  go_wp2_with fail
  clear dk dk2
  go_loopw [83, 14] (fun v al wr => ∃ (j1 : Nat) (ab : Bool), v = .int .i64 j1 ∧ al = .bool ab ∧ j1 ≤ Q.length ∧ (ab = true → ∀ j, j < j1 → i1 = j ∨ mxP Q j i1 < mxP Q i1 j) ∧ Below w6.heap.size w6 wr) (fun v _ _ => Q.length - (intOf v).toNat)
  case atStart => exact ⟨0, true, rfl, rfl, Nat.zero_le _, (fun _ j hj => absurd hj (Nat.not_lt_zero _)), BR.out⟩
  case round =>
  clear BR
  obtain ⟨j1, ab, rfl, rfl, hj1, hal, hb⟩ := hrel
  have BR := Lib.hid hb
  have HAL := Lib.hid hal
  clear hb hal
  by_cases hltj : j1 < Q.length
  case neg =>
    have ek : decide ((j1 : Int) < (Q.length : Int)) = false := decide_eq_false (by omega)
    have ek2 : decide (j1 < Q.length) = false := decide_eq_false hltj
    have hac1 := (BR.out.cell (p := ai) (KA.out)).trans HAC.out
    obtain rfl : j1 = Q.length := by omega
    cases ab with
    | false =>
      go_wp2_with go_big_skip
      go_roundw
      case rel => exact ⟨i1 + 1, by go_num, by omega, BR.out⟩
      case measure => simp [intOf]; omega
    | true =>
      have hS := alone hlti (fun j hj => HAL.out rfl j hj) SM6.out
      have hi0 : i0 = i1 := by
        have h1 := T3.out.mem S4.out HNN.out SM6.out.dom SM6.out.ne
        rw [hS] at h1
        exact List.mem_singleton.1 h1
      subst hi0
      subst hS
      have g1 : ((i0 : Int) != (i0 : Int)) = false := by simp
      have hbA : Below wr.heap.size wr (wr.alloc (.cells #[.int .i64 (i0 : Int)] 3)) := (Below.refl _ _).alloc (Nat.le_refl _) _
      have QSI := Lib.hid (show Calls Tryz.prog 19 #[.slice os (natI [i0]).length cs, .slice (some ⟨wr.heap.size, 0, none⟩) 1 1] (wr.alloc (.cells #[.int .i64 (i0 : Int)] 3)) (fun e w' => e = .returned (.bool true) ∧ Below (wr.alloc (.cells #[.int .i64 (i0 : Int)] 3)).heap.size (wr.alloc (.cells #[.int .i64 (i0 : Int)] 3)) w') from sameInts_any os (some ⟨wr.heap.size, 0, none⟩) (natI [i0]) cs 1 _ ((IS6.out.below BR.out).below hbA) (isAt_lone (heap_at rfl)) (by simp [natI]))
      have B2 := Lib.hid (BR.out.alloc BR.out.size (.cells #[.int .i64 (i0 : Int)] 3))
      clear hbA
      go_wp2_with (first
          | go_big_skip
          | (go_at_call 19; refine (QSI.out).mono ?_; rintro e w9 ⟨rfl, b9⟩; dsimp only))
      go_roundw
      case rel => exact ⟨i0 + 1, by go_num, by omega, B2.out.trans (b9.mono (by have := BR.out.size; simp; omega))⟩
      case measure => simp [intOf]; omega
  have ek : decide ((j1 : Int) < (Q.length : Int)) = true := decide_eq_true (by omega)
  have ek2 : decide (j1 < Q.length) = true := decide_eq_true hltj
  have eki : (j1 : Int) < (Q.length : Int) := by omega
  have HRr := Lib.hid (R6.out.below BR.out)
  obtain ⟨a, ha, _, b, cbi, _, hck, hcx⟩ := HRr.out.cells i1 hlti
  obtain rfl : q = a := by injection ha
  obtain ⟨a, ha, _, b', cbj, _, hcj, hcy⟩ := HRr.out.cells j1 hltj
  obtain rfl : q = a := by injection ha
  have kx := hcx j1 hltj
  have ky := hcy i1 hlti
  have HSTP := Lib.hid (show ∀ ab' : Bool, (ab' = true → ab = true ∧ (i1 = j1 ∨ mxP Q j1 i1 < mxP Q i1 j1)) → (ab' = true → ∀ j, j < j1 + 1 → i1 = j ∨ mxP Q j i1 < mxP Q i1 j) from fun ab' h h1 j hj => by
    obtain ⟨h2, h3⟩ := h h1
    by_cases e : j = j1
    · subst e; exact h3
    · exact HAL.out h2 j (by omega))
  clear hcx hcy ha HRr HAL
  generalize hx : mxP Q i1 j1 = x at *
  generalize hy : mxP Q j1 i1 = y at *
  clear hx hy
  cases ab with
  | false =>
    have HAL2 := Lib.hid (HSTP.out false (fun h => by cases h))
    clear HSTP
    go_upto_region 17 with (fail)
    refine Seg.wp_region_segs (fun w' => ∃ m, w' = wr.drewN m) [] [0, 1, 2, 3, 4, 5, 6, 7, 8, 9, 10, 11, 12, 13, 14, 15, 16, 17, 18, 19] 20 (by kernel_rfl) (by kernel_rfl) (fun _ _ d _ _ h => by cases d <;> exact h) (⟨1, rfl⟩) ?_
    simp only [List.map_cons, List.map_nil, Seg.opAt, List.drop_succ_cons, List.drop_zero, Seg.wpSegs, Array.getD_eq_getD_getElem?, List.getElem?_toArray, List.getElem?_cons_succ, List.getElem?_cons_zero, Option.getD_some]
    repeat (any_goals (first | go_big_quiet_step (fail) | quiet_step (fail)))
    refine wpQuiet_nil ?_
    go_upto_region 18 with go_big_skip
    refine wp_abs (fun w9 => Below w6.heap.size w6 w9) (bel_drewN BR.out _) (fun w9 hw9 => ?_)
    have B9 := Lib.hid hw9
    clear hw9 BR
    as_aux_lemma =>
    go_wp2_with fail
    go_loopw [111] (fun v wr => ∃ k1 : Nat, v = .int .i64 k1 ∧ k1 ≤ Q.length ∧ Below w6.heap.size w6 wr) (fun v _ => Q.length - (intOf v).toNat)
    case atStart => exact ⟨0, rfl, Nat.zero_le _, B9.out⟩
    case round =>
    clear B9
    obtain ⟨k1, rfl, hk1, hb⟩ := hrel
    have BR := Lib.hid hb
    clear hb
    by_cases hltk : k1 < Q.length
    case neg =>
      have fk : decide ((k1 : Int) < (Q.length : Int)) = false := decide_eq_false (by omega)
      have fk2 : decide (k1 < Q.length) = false := decide_eq_false hltk
      go_wp2_with fail
      go_roundw
      case rel => exact ⟨j1 + 1, false, by go_num, rfl, by omega, (fun h => HAL2.out (by first | exact h | trivial)), BR.out⟩
      case measure => simp [intOf]; omega
    have fk : decide ((k1 : Int) < (Q.length : Int)) = true := decide_eq_true (by omega)
    have fk2 : decide (k1 < Q.length) = true := decide_eq_true hltk
    have fki : (k1 : Int) < (Q.length : Int) := by omega
    have HWr := Lib.hid (W6.out.below BR.out)
    obtain ⟨a, ha, _, u1, d1, _, hc1, hx1⟩ := HWr.out.cells i1 hlti
    injection ha with ha; subst ha
    obtain ⟨a, ha, _, u2, d2, _, hc2, hx2⟩ := HWr.out.cells j1 hltj
    injection ha with ha; subst ha
    obtain ⟨a, ha, _, u3, d3, _, hc3, hx3⟩ := HWr.out.cells k1 hltk
    injection ha with ha; subst ha
    rw [Addr.add_mid, Nat.zero_add] at hc1 hc2 hc3
    have m12 := hx1 j1 hltj
    have m21 := hx2 i1 hlti
    have m23 := hx2 k1 hltk
    have m32 := hx3 j1 hltj
    have m13 := hx1 k1 hltk
    have m31 := hx3 i1 hlti
    have HTR := Lib.hid (fun h1 h2 => S5.out.trans_gt hlti hltj hltk h1 h2)
    clear hx1 hx2 hx3 HWr
    generalize W i1 j1 = a12 at *
    generalize W j1 i1 = a21 at *
    generalize W j1 k1 = a23 at *
    generalize W k1 j1 = a32 at *
    generalize W i1 k1 = a13 at *
    generalize W k1 i1 = a31 at *
    by_cases c1 : a21 < a12
    · have g1 : decide (a21 < a12) = true := decide_eq_true c1
      by_cases c2 : a32 < a23
      · have g2 : decide (a32 < a23) = true := decide_eq_true c2
        have c3 := HTR.out c1 c2
        have g3 : decide (a13 ≤ a31) = false := decide_eq_false (by omega)
        clear c1 c2 c3 HTR
        go_upto_region 21 with (fail)
        refine Seg.wp_region_segs (fun w' => ∃ m, w' = wr.drewN m) [] [0, 1, 2, 3, 4, 5, 6, 7, 8, 9, 10, 11, 12, 13, 14, 15, 16, 17, 18, 19, 20, 21, 22, 23, 24, 25, 26, 27, 28, 29, 30, 31, 32, 33, 34, 35, 36, 37, 38, 39, 40, 41, 42, 43, 44, 45, 46] 47 (by kernel_rfl) (by kernel_rfl) (fun _ _ d _ _ h => by cases d <;> exact h) (⟨1, rfl⟩) ?_
        simp only [List.map_cons, List.map_nil, Seg.opAt, List.drop_succ_cons, List.drop_zero, Seg.wpSegs, Array.getD_eq_getD_getElem?, List.getElem?_toArray, List.getElem?_cons_succ, List.getElem?_cons_zero, Option.getD_some]
        repeat (any_goals (first | go_big_quiet_step (fail) | quiet_step (fail)))
        refine wpQuiet_nil ?_
        go_wp2_with go_big_skip
        go_roundw
        case rel => exact ⟨k1 + 1, by go_num, by omega, bel_drewN BR.out _⟩
        case measure => simp [intOf]; omega
      · have g2 : decide (a32 < a23) = false := decide_eq_false c2
        clear c1 c2 HTR
        go_upto_region 21 with (fail)
        refine Seg.wp_region_segs (fun w' => ∃ m, w' = wr.drewN m) [] [0, 1, 2, 3, 4, 5, 6, 7, 8, 9, 10, 11, 12, 13, 14, 15, 16, 17, 18, 19, 20, 21, 22, 23, 24, 25, 26, 27, 28, 29, 30, 31, 32, 33, 34, 35, 36, 37, 38, 39, 40, 41, 42, 43, 44, 45, 46] 47 (by kernel_rfl) (by kernel_rfl) (fun _ _ d _ _ h => by cases d <;> exact h) (⟨1, rfl⟩) ?_
        simp only [List.map_cons, List.map_nil, Seg.opAt, List.drop_succ_cons, List.drop_zero, Seg.wpSegs, Array.getD_eq_getD_getElem?, List.getElem?_toArray, List.getElem?_cons_succ, List.getElem?_cons_zero, Option.getD_some]
        repeat (any_goals (first | go_big_quiet_step (fail) | quiet_step (fail)))
        refine wpQuiet_nil ?_
        go_wp2_with go_big_skip
        go_roundw
        case rel => exact ⟨k1 + 1, by go_num, by omega, bel_drewN BR.out _⟩
        case measure => simp [intOf]; omega
    · have g1 : decide (a21 < a12) = false := decide_eq_false c1
      clear c1 HTR
      go_upto_region 21 with (fail)
      refine Seg.wp_region_segs (fun w' => ∃ m, w' = wr.drewN m) [] [0, 1, 2, 3, 4, 5, 6, 7, 8, 9, 10, 11, 12, 13, 14, 15, 16, 17, 18, 19, 20, 21, 22, 23, 24, 25, 26, 27, 28, 29, 30, 31, 32, 33, 34, 35, 36, 37, 38, 39, 40, 41, 42, 43, 44, 45, 46] 47 (by kernel_rfl) (by kernel_rfl) (fun _ _ d _ _ h => by cases d <;> exact h) (⟨1, rfl⟩) ?_
      simp only [List.map_cons, List.map_nil, Seg.opAt, List.drop_succ_cons, List.drop_zero, Seg.wpSegs, Array.getD_eq_getD_getElem?, List.getElem?_toArray, List.getElem?_cons_succ, List.getElem?_cons_zero, Option.getD_some]
      repeat (any_goals (first | go_big_quiet_step (fail) | quiet_step (fail)))
      refine wpQuiet_nil ?_
      go_wp2_with go_big_skip
      go_roundw
      case rel => exact ⟨k1 + 1, by go_num, by omega, bel_drewN BR.out _⟩
      case measure => simp [intOf]; omega
  | true =>
    by_cases hij : i1 = j1
    · have g0 : ((i1 : Int) == (j1 : Int)) = true := by rw [hij]; simp
      have g0' : (i1 == j1) = true := by rw [hij]; simp
      have HAL2 := Lib.hid (HSTP.out true (fun _ => ⟨rfl, .inl hij⟩))
      clear HSTP hij
      go_upto_region 17 with (fail)
      refine Seg.wp_region_segs (fun w' => ∃ m, w' = wr.drewN m) [] [0, 1, 2, 3, 4, 5, 6, 7, 8, 9, 10, 11, 12, 13, 14, 15, 16, 17, 18, 19] 20 (by kernel_rfl) (by kernel_rfl) (fun _ _ d _ _ h => by cases d <;> exact h) (⟨1, rfl⟩) ?_
      simp only [List.map_cons, List.map_nil, Seg.opAt, List.drop_succ_cons, List.drop_zero, Seg.wpSegs, Array.getD_eq_getD_getElem?, List.getElem?_toArray, List.getElem?_cons_succ, List.getElem?_cons_zero, Option.getD_some]
      repeat (any_goals (first | go_big_quiet_step (fail) | quiet_step (fail)))
      refine wpQuiet_nil ?_
      go_upto_region 18 with go_big_skip
      refine wp_abs (fun w9 => Below w6.heap.size w6 w9) (bel_drewN BR.out _) (fun w9 hw9 => ?_)
      have B9 := Lib.hid hw9
      clear hw9 BR
      as_aux_lemma =>
      go_wp2_with fail
      go_loopw [111] (fun v wr => ∃ k1 : Nat, v = .int .i64 k1 ∧ k1 ≤ Q.length ∧ Below w6.heap.size w6 wr) (fun v _ => Q.length - (intOf v).toNat)
      case atStart => exact ⟨0, rfl, Nat.zero_le _, B9.out⟩
      case round =>
      clear B9
      obtain ⟨k1, rfl, hk1, hb⟩ := hrel
      have BR := Lib.hid hb
      clear hb
      by_cases hltk : k1 < Q.length
      case neg =>
        have fk : decide ((k1 : Int) < (Q.length : Int)) = false := decide_eq_false (by omega)
        have fk2 : decide (k1 < Q.length) = false := decide_eq_false hltk
        go_wp2_with fail
        go_roundw
        case rel => exact ⟨j1 + 1, true, by go_num, rfl, by omega, (fun h => HAL2.out (by first | exact h | trivial)), BR.out⟩
        case measure => simp [intOf]; omega
      have fk : decide ((k1 : Int) < (Q.length : Int)) = true := decide_eq_true (by omega)
      have fk2 : decide (k1 < Q.length) = true := decide_eq_true hltk
      have fki : (k1 : Int) < (Q.length : Int) := by omega
      have HWr := Lib.hid (W6.out.below BR.out)
      obtain ⟨a, ha, _, u1, d1, _, hc1, hx1⟩ := HWr.out.cells i1 hlti
      injection ha with ha; subst ha
      obtain ⟨a, ha, _, u2, d2, _, hc2, hx2⟩ := HWr.out.cells j1 hltj
      injection ha with ha; subst ha
      obtain ⟨a, ha, _, u3, d3, _, hc3, hx3⟩ := HWr.out.cells k1 hltk
      injection ha with ha; subst ha
      rw [Addr.add_mid, Nat.zero_add] at hc1 hc2 hc3
      have m12 := hx1 j1 hltj
      have m21 := hx2 i1 hlti
      have m23 := hx2 k1 hltk
      have m32 := hx3 j1 hltj
      have m13 := hx1 k1 hltk
      have m31 := hx3 i1 hlti
      have HTR := Lib.hid (fun h1 h2 => S5.out.trans_gt hlti hltj hltk h1 h2)
      clear hx1 hx2 hx3 HWr
      generalize W i1 j1 = a12 at *
      generalize W j1 i1 = a21 at *
      generalize W j1 k1 = a23 at *
      generalize W k1 j1 = a32 at *
      generalize W i1 k1 = a13 at *
      generalize W k1 i1 = a31 at *
      by_cases c1 : a21 < a12
      · have g1 : decide (a21 < a12) = true := decide_eq_true c1
        by_cases c2 : a32 < a23
        · have g2 : decide (a32 < a23) = true := decide_eq_true c2
          have c3 := HTR.out c1 c2
          have g3 : decide (a13 ≤ a31) = false := decide_eq_false (by omega)
          clear c1 c2 c3 HTR
          go_upto_region 21 with (fail)
          refine Seg.wp_region_segs (fun w' => ∃ m, w' = wr.drewN m) [] [0, 1, 2, 3, 4, 5, 6, 7, 8, 9, 10, 11, 12, 13, 14, 15, 16, 17, 18, 19, 20, 21, 22, 23, 24, 25, 26, 27, 28, 29, 30, 31, 32, 33, 34, 35, 36, 37, 38, 39, 40, 41, 42, 43, 44, 45, 46] 47 (by kernel_rfl) (by kernel_rfl) (fun _ _ d _ _ h => by cases d <;> exact h) (⟨1, rfl⟩) ?_
          simp only [List.map_cons, List.map_nil, Seg.opAt, List.drop_succ_cons, List.drop_zero, Seg.wpSegs, Array.getD_eq_getD_getElem?, List.getElem?_toArray, List.getElem?_cons_succ, List.getElem?_cons_zero, Option.getD_some]
          repeat (any_goals (first | go_big_quiet_step (fail) | quiet_step (fail)))
          refine wpQuiet_nil ?_
          go_wp2_with go_big_skip
          go_roundw
          case rel => exact ⟨k1 + 1, by go_num, by omega, bel_drewN BR.out _⟩
          case measure => simp [intOf]; omega
        · have g2 : decide (a32 < a23) = false := decide_eq_false c2
          clear c1 c2 HTR
          go_upto_region 21 with (fail)
          refine Seg.wp_region_segs (fun w' => ∃ m, w' = wr.drewN m) [] [0, 1, 2, 3, 4, 5, 6, 7, 8, 9, 10, 11, 12, 13, 14, 15, 16, 17, 18, 19, 20, 21, 22, 23, 24, 25, 26, 27, 28, 29, 30, 31, 32, 33, 34, 35, 36, 37, 38, 39, 40, 41, 42, 43, 44, 45, 46] 47 (by kernel_rfl) (by kernel_rfl) (fun _ _ d _ _ h => by cases d <;> exact h) (⟨1, rfl⟩) ?_
          simp only [List.map_cons, List.map_nil, Seg.opAt, List.drop_succ_cons, List.drop_zero, Seg.wpSegs, Array.getD_eq_getD_getElem?, List.getElem?_toArray, List.getElem?_cons_succ, List.getElem?_cons_zero, Option.getD_some]
          repeat (any_goals (first | go_big_quiet_step (fail) | quiet_step (fail)))
          refine wpQuiet_nil ?_
          go_wp2_with go_big_skip
          go_roundw
          case rel => exact ⟨k1 + 1, by go_num, by omega, bel_drewN BR.out _⟩
          case measure => simp [intOf]; omega
      · have g1 : decide (a21 < a12) = false := decide_eq_false c1
        clear c1 HTR
        go_upto_region 21 with (fail)
        refine Seg.wp_region_segs (fun w' => ∃ m, w' = wr.drewN m) [] [0, 1, 2, 3, 4, 5, 6, 7, 8, 9, 10, 11, 12, 13, 14, 15, 16, 17, 18, 19, 20, 21, 22, 23, 24, 25, 26, 27, 28, 29, 30, 31, 32, 33, 34, 35, 36, 37, 38, 39, 40, 41, 42, 43, 44, 45, 46] 47 (by kernel_rfl) (by kernel_rfl) (fun _ _ d _ _ h => by cases d <;> exact h) (⟨1, rfl⟩) ?_
        simp only [List.map_cons, List.map_nil, Seg.opAt, List.drop_succ_cons, List.drop_zero, Seg.wpSegs, Array.getD_eq_getD_getElem?, List.getElem?_toArray, List.getElem?_cons_succ, List.getElem?_cons_zero, Option.getD_some]
        repeat (any_goals (first | go_big_quiet_step (fail) | quiet_step (fail)))
        refine wpQuiet_nil ?_
        go_wp2_with go_big_skip
        go_roundw
        case rel => exact ⟨k1 + 1, by go_num, by omega, bel_drewN BR.out _⟩
        case measure => simp [intOf]; omega
    · have g0 : ((i1 : Int) == (j1 : Int)) = false := by rw [beq_eq_false_iff_ne]; omega
      have g0' : (i1 == j1) = false := by rw [beq_eq_false_iff_ne]; exact hij
      by_cases hxy : y < x
      · have g1 : decide (y < x) = true := decide_eq_true hxy
        have HAL2 := Lib.hid (HSTP.out true (fun _ => ⟨rfl, .inr hxy⟩))
        clear HSTP hij hxy
        go_upto_region 17 with (fail)
        refine Seg.wp_region_segs (fun w' => ∃ m, w' = wr.drewN m) [] [0, 1, 2, 3, 4, 5, 6, 7, 8, 9, 10, 11, 12, 13, 14, 15, 16, 17, 18, 19] 20 (by kernel_rfl) (by kernel_rfl) (fun _ _ d _ _ h => by cases d <;> exact h) (⟨1, rfl⟩) ?_
        simp only [List.map_cons, List.map_nil, Seg.opAt, List.drop_succ_cons, List.drop_zero, Seg.wpSegs, Array.getD_eq_getD_getElem?, List.getElem?_toArray, List.getElem?_cons_succ, List.getElem?_cons_zero, Option.getD_some]
        repeat (any_goals (first | go_big_quiet_step (fail) | quiet_step (fail)))
        refine wpQuiet_nil ?_
        go_upto_region 18 with go_big_skip
        refine wp_abs (fun w9 => Below w6.heap.size w6 w9) (bel_drewN BR.out _) (fun w9 hw9 => ?_)
        have B9 := Lib.hid hw9
        clear hw9 BR
        as_aux_lemma =>
        go_wp2_with fail
        go_loopw [111] (fun v wr => ∃ k1 : Nat, v = .int .i64 k1 ∧ k1 ≤ Q.length ∧ Below w6.heap.size w6 wr) (fun v _ => Q.length - (intOf v).toNat)
        case atStart => exact ⟨0, rfl, Nat.zero_le _, B9.out⟩
        case round =>
        clear B9
        obtain ⟨k1, rfl, hk1, hb⟩ := hrel
        have BR := Lib.hid hb
        clear hb
        by_cases hltk : k1 < Q.length
        case neg =>
          have fk : decide ((k1 : Int) < (Q.length : Int)) = false := decide_eq_false (by omega)
          have fk2 : decide (k1 < Q.length) = false := decide_eq_false hltk
          go_wp2_with fail
          go_roundw
          case rel => exact ⟨j1 + 1, true, by go_num, rfl, by omega, (fun h => HAL2.out (by first | exact h | trivial)), BR.out⟩
          case measure => simp [intOf]; omega
        have fk : decide ((k1 : Int) < (Q.length : Int)) = true := decide_eq_true (by omega)
        have fk2 : decide (k1 < Q.length) = true := decide_eq_true hltk
        have fki : (k1 : Int) < (Q.length : Int) := by omega
        have HWr := Lib.hid (W6.out.below BR.out)
        obtain ⟨a, ha, _, u1, d1, _, hc1, hx1⟩ := HWr.out.cells i1 hlti
        injection ha with ha; subst ha
        obtain ⟨a, ha, _, u2, d2, _, hc2, hx2⟩ := HWr.out.cells j1 hltj
        injection ha with ha; subst ha
        obtain ⟨a, ha, _, u3, d3, _, hc3, hx3⟩ := HWr.out.cells k1 hltk
        injection ha with ha; subst ha
        rw [Addr.add_mid, Nat.zero_add] at hc1 hc2 hc3
        have m12 := hx1 j1 hltj
        have m21 := hx2 i1 hlti
        have m23 := hx2 k1 hltk
        have m32 := hx3 j1 hltj
        have m13 := hx1 k1 hltk
        have m31 := hx3 i1 hlti
        have HTR := Lib.hid (fun h1 h2 => S5.out.trans_gt hlti hltj hltk h1 h2)
        clear hx1 hx2 hx3 HWr
        generalize W i1 j1 = a12 at *
        generalize W j1 i1 = a21 at *
        generalize W j1 k1 = a23 at *
        generalize W k1 j1 = a32 at *
        generalize W i1 k1 = a13 at *
        generalize W k1 i1 = a31 at *
        by_cases c1 : a21 < a12
        · have g1 : decide (a21 < a12) = true := decide_eq_true c1
          by_cases c2 : a32 < a23
          · have g2 : decide (a32 < a23) = true := decide_eq_true c2
            have c3 := HTR.out c1 c2
            have g3 : decide (a13 ≤ a31) = false := decide_eq_false (by omega)
            clear c1 c2 c3 HTR
            go_upto_region 21 with (fail)
            refine Seg.wp_region_segs (fun w' => ∃ m, w' = wr.drewN m) [] [0, 1, 2, 3, 4, 5, 6, 7, 8, 9, 10, 11, 12, 13, 14, 15, 16, 17, 18, 19, 20, 21, 22, 23, 24, 25, 26, 27, 28, 29, 30, 31, 32, 33, 34, 35, 36, 37, 38, 39, 40, 41, 42, 43, 44, 45, 46] 47 (by kernel_rfl) (by kernel_rfl) (fun _ _ d _ _ h => by cases d <;> exact h) (⟨1, rfl⟩) ?_
            simp only [List.map_cons, List.map_nil, Seg.opAt, List.drop_succ_cons, List.drop_zero, Seg.wpSegs, Array.getD_eq_getD_getElem?, List.getElem?_toArray, List.getElem?_cons_succ, List.getElem?_cons_zero, Option.getD_some]
            repeat (any_goals (first | go_big_quiet_step (fail) | quiet_step (fail)))
            refine wpQuiet_nil ?_
            go_wp2_with go_big_skip
            go_roundw
            case rel => exact ⟨k1 + 1, by go_num, by omega, bel_drewN BR.out _⟩
            case measure => simp [intOf]; omega
          · have g2 : decide (a32 < a23) = false := decide_eq_false c2
            clear c1 c2 HTR
            go_upto_region 21 with (fail)
            refine Seg.wp_region_segs (fun w' => ∃ m, w' = wr.drewN m) [] [0, 1, 2, 3, 4, 5, 6, 7, 8, 9, 10, 11, 12, 13, 14, 15, 16, 17, 18, 19, 20, 21, 22, 23, 24, 25, 26, 27, 28, 29, 30, 31, 32, 33, 34, 35, 36, 37, 38, 39, 40, 41, 42, 43, 44, 45, 46] 47 (by kernel_rfl) (by kernel_rfl) (fun _ _ d _ _ h => by cases d <;> exact h) (⟨1, rfl⟩) ?_
            simp only [List.map_cons, List.map_nil, Seg.opAt, List.drop_succ_cons, List.drop_zero, Seg.wpSegs, Array.getD_eq_getD_getElem?, List.getElem?_toArray, List.getElem?_cons_succ, List.getElem?_cons_zero, Option.getD_some]
            repeat (any_goals (first | go_big_quiet_step (fail) | quiet_step (fail)))
            refine wpQuiet_nil ?_
            go_wp2_with go_big_skip
            go_roundw
            case rel => exact ⟨k1 + 1, by go_num, by omega, bel_drewN BR.out _⟩
            case measure => simp [intOf]; omega
        · have g1 : decide (a21 < a12) = false := decide_eq_false c1
          clear c1 HTR
          go_upto_region 21 with (fail)
          refine Seg.wp_region_segs (fun w' => ∃ m, w' = wr.drewN m) [] [0, 1, 2, 3, 4, 5, 6, 7, 8, 9, 10, 11, 12, 13, 14, 15, 16, 17, 18, 19, 20, 21, 22, 23, 24, 25, 26, 27, 28, 29, 30, 31, 32, 33, 34, 35, 36, 37, 38, 39, 40, 41, 42, 43, 44, 45, 46] 47 (by kernel_rfl) (by kernel_rfl) (fun _ _ d _ _ h => by cases d <;> exact h) (⟨1, rfl⟩) ?_
          simp only [List.map_cons, List.map_nil, Seg.opAt, List.drop_succ_cons, List.drop_zero, Seg.wpSegs, Array.getD_eq_getD_getElem?, List.getElem?_toArray, List.getElem?_cons_succ, List.getElem?_cons_zero, Option.getD_some]
          repeat (any_goals (first | go_big_quiet_step (fail) | quiet_step (fail)))
          refine wpQuiet_nil ?_
          go_wp2_with go_big_skip
          go_roundw
          case rel => exact ⟨k1 + 1, by go_num, by omega, bel_drewN BR.out _⟩
          case measure => simp [intOf]; omega
      · have g1 : decide (y < x) = false := decide_eq_false hxy
        have HAL2 := Lib.hid (HSTP.out false (fun h => by cases h))
        clear HSTP hij hxy
        go_upto_region 17 with (fail)
        refine Seg.wp_region_segs (fun w' => ∃ m, w' = wr.drewN m) [] [0, 1, 2, 3, 4, 5, 6, 7, 8, 9, 10, 11, 12, 13, 14, 15, 16, 17, 18, 19] 20 (by kernel_rfl) (by kernel_rfl) (fun _ _ d _ _ h => by cases d <;> exact h) (⟨1, rfl⟩) ?_
        simp only [List.map_cons, List.map_nil, Seg.opAt, List.drop_succ_cons, List.drop_zero, Seg.wpSegs, Array.getD_eq_getD_getElem?, List.getElem?_toArray, List.getElem?_cons_succ, List.getElem?_cons_zero, Option.getD_some]
        repeat (any_goals (first | go_big_quiet_step (fail) | quiet_step (fail)))
        refine wpQuiet_nil ?_
        go_upto_region 18 with go_big_skip
        refine wp_abs (fun w9 => Below w6.heap.size w6 w9) (bel_drewN BR.out _) (fun w9 hw9 => ?_)
        have B9 := Lib.hid hw9
        clear hw9 BR
        as_aux_lemma =>
        go_wp2_with fail
        go_loopw [111] (fun v wr => ∃ k1 : Nat, v = .int .i64 k1 ∧ k1 ≤ Q.length ∧ Below w6.heap.size w6 wr) (fun v _ => Q.length - (intOf v).toNat)
        case atStart => exact ⟨0, rfl, Nat.zero_le _, B9.out⟩
        case round =>
        clear B9
        obtain ⟨k1, rfl, hk1, hb⟩ := hrel
        have BR := Lib.hid hb
        clear hb
        by_cases hltk : k1 < Q.length
        case neg =>
          have fk : decide ((k1 : Int) < (Q.length : Int)) = false := decide_eq_false (by omega)
          have fk2 : decide (k1 < Q.length) = false := decide_eq_false hltk
          go_wp2_with fail
          go_roundw
          case rel => exact ⟨j1 + 1, false, by go_num, rfl, by omega, (fun h => HAL2.out (by first | exact h | trivial)), BR.out⟩
          case measure => simp [intOf]; omega
        have fk : decide ((k1 : Int) < (Q.length : Int)) = true := decide_eq_true (by omega)
        have fk2 : decide (k1 < Q.length) = true := decide_eq_true hltk
        have fki : (k1 : Int) < (Q.length : Int) := by omega
        have HWr := Lib.hid (W6.out.below BR.out)
        obtain ⟨a, ha, _, u1, d1, _, hc1, hx1⟩ := HWr.out.cells i1 hlti
        injection ha with ha; subst ha
        obtain ⟨a, ha, _, u2, d2, _, hc2, hx2⟩ := HWr.out.cells j1 hltj
        injection ha with ha; subst ha
        obtain ⟨a, ha, _, u3, d3, _, hc3, hx3⟩ := HWr.out.cells k1 hltk
        injection ha with ha; subst ha
        rw [Addr.add_mid, Nat.zero_add] at hc1 hc2 hc3
        have m12 := hx1 j1 hltj
        have m21 := hx2 i1 hlti
        have m23 := hx2 k1 hltk
        have m32 := hx3 j1 hltj
        have m13 := hx1 k1 hltk
        have m31 := hx3 i1 hlti
        have HTR := Lib.hid (fun h1 h2 => S5.out.trans_gt hlti hltj hltk h1 h2)
        clear hx1 hx2 hx3 HWr
        generalize W i1 j1 = a12 at *
        generalize W j1 i1 = a21 at *
        generalize W j1 k1 = a23 at *
        generalize W k1 j1 = a32 at *
        generalize W i1 k1 = a13 at *
        generalize W k1 i1 = a31 at *
        by_cases c1 : a21 < a12
        · have g1 : decide (a21 < a12) = true := decide_eq_true c1
          by_cases c2 : a32 < a23
          · have g2 : decide (a32 < a23) = true := decide_eq_true c2
            have c3 := HTR.out c1 c2
            have g3 : decide (a13 ≤ a31) = false := decide_eq_false (by omega)
            clear c1 c2 c3 HTR
            go_upto_region 21 with (fail)
            refine Seg.wp_region_segs (fun w' => ∃ m, w' = wr.drewN m) [] [0, 1, 2, 3, 4, 5, 6, 7, 8, 9, 10, 11, 12, 13, 14, 15, 16, 17, 18, 19, 20, 21, 22, 23, 24, 25, 26, 27, 28, 29, 30, 31, 32, 33, 34, 35, 36, 37, 38, 39, 40, 41, 42, 43, 44, 45, 46] 47 (by kernel_rfl) (by kernel_rfl) (fun _ _ d _ _ h => by cases d <;> exact h) (⟨1, rfl⟩) ?_
            simp only [List.map_cons, List.map_nil, Seg.opAt, List.drop_succ_cons, List.drop_zero, Seg.wpSegs, Array.getD_eq_getD_getElem?, List.getElem?_toArray, List.getElem?_cons_succ, List.getElem?_cons_zero, Option.getD_some]
            repeat (any_goals (first | go_big_quiet_step (fail) | quiet_step (fail)))
            refine wpQuiet_nil ?_
            go_wp2_with go_big_skip
            go_roundw
            case rel => exact ⟨k1 + 1, by go_num, by omega, bel_drewN BR.out _⟩
            case measure => simp [intOf]; omega
          · have g2 : decide (a32 < a23) = false := decide_eq_false c2
            clear c1 c2 HTR
            go_upto_region 21 with (fail)
            refine Seg.wp_region_segs (fun w' => ∃ m, w' = wr.drewN m) [] [0, 1, 2, 3, 4, 5, 6, 7, 8, 9, 10, 11, 12, 13, 14, 15, 16, 17, 18, 19, 20, 21, 22, 23, 24, 25, 26, 27, 28, 29, 30, 31, 32, 33, 34, 35, 36, 37, 38, 39, 40, 41, 42, 43, 44, 45, 46] 47 (by kernel_rfl) (by kernel_rfl) (fun _ _ d _ _ h => by cases d <;> exact h) (⟨1, rfl⟩) ?_
            simp only [List.map_cons, List.map_nil, Seg.opAt, List.drop_succ_cons, List.drop_zero, Seg.wpSegs, Array.getD_eq_getD_getElem?, List.getElem?_toArray, List.getElem?_cons_succ, List.getElem?_cons_zero, Option.getD_some]
            repeat (any_goals (first | go_big_quiet_step (fail) | quiet_step (fail)))
            refine wpQuiet_nil ?_
            go_wp2_with go_big_skip
            go_roundw
            case rel => exact ⟨k1 + 1, by go_num, by omega, bel_drewN BR.out _⟩
            case measure => simp [intOf]; omega
        · have g1 : decide (a21 < a12) = false := decide_eq_false c1
          clear c1 HTR
          go_upto_region 21 with (fail)
          refine Seg.wp_region_segs (fun w' => ∃ m, w' = wr.drewN m) [] [0, 1, 2, 3, 4, 5, 6, 7, 8, 9, 10, 11, 12, 13, 14, 15, 16, 17, 18, 19, 20, 21, 22, 23, 24, 25, 26, 27, 28, 29, 30, 31, 32, 33, 34, 35, 36, 37, 38, 39, 40, 41, 42, 43, 44, 45, 46] 47 (by kernel_rfl) (by kernel_rfl) (fun _ _ d _ _ h => by cases d <;> exact h) (⟨1, rfl⟩) ?_
          simp only [List.map_cons, List.map_nil, Seg.opAt, List.drop_succ_cons, List.drop_zero, Seg.wpSegs, Array.getD_eq_getD_getElem?, List.getElem?_toArray, List.getElem?_cons_succ, List.getElem?_cons_zero, Option.getD_some]
          repeat (any_goals (first | go_big_quiet_step (fail) | quiet_step (fail)))
          refine wpQuiet_nil ?_
          go_wp2_with go_big_skip
          go_roundw
          case rel => exact ⟨k1 + 1, by go_num, by omega, bel_drewN BR.out _⟩
          case measure => simp [intOf]; omega
end Go.Proofs.YtnohcdpnnhmpfaaGreatDoor
