/-
  Chapter 13, for Pairs: the reference's WrongPairs, Pairs. Printed by tools/genrp.py.
-/
import Derived.Test.YtnohcdpnnhmpfaaCtSm
import Derived.Test.YtnohcdpnnhmpfaaCtR
namespace Go.Proofs.Ytnohcdpnnhmpfaa
set_option linter.unusedVariables false
set_option linter.unusedSimpArgs false
open Go.RowKit ML FM AU CT

theorem badI_iff (x : Int) : badI x = (decide (x < 0) || decide (1099511627776 < x)) := rfl
set_option maxHeartbeats 4000000 in
set_option maxRecDepth 100000 in
theorem refWrongPairs_any (P : List (Value × List Int)) (ob : Option Addr) (cb : Nat) (w : World) (hP : PsAt w ob P) (hl : P.length < 9223372036854775808) :
    Calls Try.prog 29 #[.slice ob P.length cb] w fun e w' => e = .returned (.int .i64 (wrE P)) ∧ w = w' := by
  have HP := Lib.hid hP
  clear hP
  by_cases h1 : P.length < 1
  · have d0 : decide ((P.length : Int) < 1) = true := decide_eq_true (by omega)
    have d0' : decide (P.length < 1) = true := decide_eq_true h1
    have HE := Lib.hid (show wrE P = 2 by unfold wrE; rw [if_pos (.inl h1)])
    clear h1
    go_enter Try.func29, Try.ntmps29
    go_wp2_with fail
    go_ret
    exact ⟨by rw [HE.out]; rfl, rfl⟩
  · by_cases h2 : 12 < P.length
    · have d0 : decide ((P.length : Int) < 1) = false := decide_eq_false (by omega)
      have d0' : decide (P.length < 1) = false := decide_eq_false h1
      have d1 : decide ((12 : Int) < (P.length : Int)) = true := decide_eq_true (by omega)
      have d1' : decide (12 < P.length) = true := decide_eq_true h2
      have HE := Lib.hid (show wrE P = 2 by unfold wrE; rw [if_pos (.inr (.inl h2))])
      clear h1 h2
      go_enter Try.func29, Try.ntmps29
      go_wp2_with fail
      go_ret
      exact ⟨by rw [HE.out]; rfl, rfl⟩
    · have d0 : decide ((P.length : Int) < 1) = false := decide_eq_false (by omega)
      have d0' : decide (P.length < 1) = false := decide_eq_false h1
      have d1 : decide ((12 : Int) < (P.length : Int)) = false := decide_eq_false (by omega)
      have d1' : decide (12 < P.length) = false := decide_eq_false h2
      have hp12 : P.length ≤ 12 := by omega
      have HAN := Lib.hid (show ¬ (P.length < 1 ∨ 12 < P.length ∨ ¬ allN P.length P) ↔ allN P.length P from ⟨fun h => Classical.byContradiction fun h3 => h (.inr (.inr h3)), fun h h4 => h4.elim h1 (fun h5 => h5.elim h2 (fun h6 => h6 h))⟩)
      clear h1 h2
      go_enter Try.func29, Try.ntmps29
      go_wp2_with fail
      clear d0 d0' d1 d1'
      go_loop [19] (fun i => ∃ k : Nat, k ≤ P.length ∧ i = .int .i64 k ∧ allN P.length (P.take k)) (fun i => P.length - (intOf i).toNat)
      case atStart => exact ⟨0, Nat.zero_le _, rfl, (fun x hx => by simp at hx)⟩
      case round =>
      obtain ⟨k, hk, rfl, ha⟩ := hrel
      have HA := Lib.hid ha
      clear ha
      by_cases hlt : k < P.length
      · have dk : decide ((k : Int) < (P.length : Int)) = true := decide_eq_true (by omega)
        have dk2 : decide (k < P.length) = true := decide_eq_true hlt
        have hki : (k : Int) < (P.length : Int) := by omega
        obtain ⟨q, hoa, hqb, hqc⟩ := HP.out.cells k hlt
        subst hoa
        have HTK := Lib.hid (show P.take (k + 1) = P.take k ++ [P[k]] from List.take_succ_eq_append_getElem hlt)
        have HMEM := Lib.hid (List.getElem_mem hlt)
        generalize P[k] = p at *
        obtain ⟨or, cr, hp1, hp2, hp3⟩ := HP.out.rows p HMEM.out
        rw [hp1] at hqc
        clear hp1 hp2
        by_cases hln : p.2.length = P.length
        · have e0 : ((p.2.length : Int) != (P.length : Int)) = false := by rw [hln]; simp
          have e0' : (p.2.length != P.length) = false := by rw [hln]; simp
          have HAN2 := Lib.hid (show allN P.length (P.take (k + 1)) by
            rw [HTK.out]
            intro x hx
            rcases List.mem_append.1 hx with h | h
            · exact HA.out x h
            · rw [List.mem_singleton.1 h]; exact hln)
          clear hln
          go_wp2_with fail
          go_round
          case rel => exact ⟨k + 1, by omega, by go_num, HAN2.out⟩
          case measure => simp [intOf]; omega
        · have e0 : ((p.2.length : Int) != (P.length : Int)) = true := by rw [bne_iff_ne]; omega
          have e0' : (p.2.length != P.length) = true := by rw [bne_iff_ne]; exact hln
          have HE := Lib.hid (show wrE P = 2 by unfold wrE; rw [if_pos (.inr (.inr (fun h => hln (h p HMEM.out))))])
          clear hln
          go_wp2_with fail
          go_ret
          exact ⟨by rw [HE.out]; rfl, rfl⟩
      · have dk : decide ((k : Int) < (P.length : Int)) = false := decide_eq_false (by omega)
        have dk2 : decide (k < P.length) = false := decide_eq_false hlt
        obtain rfl : k = P.length := by omega
        rw [List.take_length] at HA
        have HE := Lib.hid (show wrE P = if (flatP P).any badI = true then 4 else 0 by unfold wrE; rw [if_neg (HAN.out.2 HA.out)])
        clear HAN
        go_wp2_with fail
        clear hk hlt dk dk2
        go_loop [31] (fun i => ∃ k : Nat, k ≤ P.length ∧ i = .int .i64 k ∧ (flatP (P.take k)).any badI = false) (fun i => P.length - (intOf i).toNat)
        case atStart => exact ⟨0, Nat.zero_le _, rfl, rfl⟩
        case round =>
        obtain ⟨k, hk, rfl, ha⟩ := hrel
        have HF := Lib.hid ha
        clear ha
        by_cases hlt : k < P.length
        · have dk : decide ((k : Int) < (P.length : Int)) = true := decide_eq_true (by omega)
          have dk2 : decide (k < P.length) = true := decide_eq_true hlt
          have hki : (k : Int) < (P.length : Int) := by omega
          obtain ⟨q, hoa, hqb, hqc⟩ := HP.out.cells k hlt
          subst hoa
          have HTK := Lib.hid (show flatP (P.take (k + 1)) = flatP (P.take k) ++ P[k].2 by rw [List.take_succ_eq_append_getElem hlt, flatP_snoc])
          have HMEM := Lib.hid (show P[k] ∈ P from List.getElem_mem hlt)
          generalize P[k] = p at *
          obtain ⟨or, cr, hp1, hp2, hp3⟩ := HP.out.rows p HMEM.out
          rw [hp1] at hqc
          have HIS := Lib.hid hp2
          have HBAD := Lib.hid (show ∀ x ∈ p.2, badI x = true → (flatP P).any badI = true from fun x hx hb => List.any_eq_true.2 ⟨x, List.mem_flatMap.2 ⟨p, HMEM.out, hx⟩, hb⟩)
          clear hp1 hp2
          generalize p.2 = L at *
          go_wp2_with fail
          go_loop [37] (fun i => ∃ j : Nat, j ≤ L.length ∧ i = .int .i64 j ∧ (L.take j).any badI = false) (fun i => L.length - (intOf i).toNat)
          case atStart => exact ⟨0, Nat.zero_le _, rfl, rfl⟩
          case round =>
          obtain ⟨j, hj, rfl, ha⟩ := hrel
          have HJ := Lib.hid ha
          clear ha
          by_cases hjt : j < L.length
          · have ek : decide ((j : Int) < (L.length : Int)) = true := decide_eq_true (by omega)
            have ek2 : decide (j < L.length) = true := decide_eq_true hjt
            have hji : (j : Int) < (L.length : Int) := by omega
            obtain ⟨r, hor, hrb, hrc⟩ := HIS.out.cells j hjt
            subst hor
            have HJT := Lib.hid (show (L.take (j + 1)).any badI = badI L[j] by rw [List.take_succ_eq_append_getElem hjt, List.any_append, HJ.out]; simp)
            have HJM := Lib.hid (show badI L[j] = true → (flatP P).any badI = true from HBAD.out _ (List.getElem_mem hjt))
            generalize L[j] = x at *
            rw [badI_iff] at HJT HJM
            by_cases hx0 : x < 0
            · have g0 : decide (x < 0) = true := decide_eq_true hx0
              have HE2 := Lib.hid (show wrE P = 4 by rw [HE.out, if_pos (HJM.out (by rw [g0]; rfl))])
              clear hx0
              go_wp2_with fail
              go_ret
              exact ⟨by rw [HE2.out]; rfl, rfl⟩
            · have g0 : decide (x < 0) = false := decide_eq_false hx0
              by_cases hx1 : 1099511627776 < x
              · have g1 : decide (1099511627776 < x) = true := decide_eq_true hx1
                have HE2 := Lib.hid (show wrE P = 4 by rw [HE.out, if_pos (HJM.out (by rw [g1]; simp))])
                clear hx0 hx1
                go_wp2_with fail
                go_ret
                exact ⟨by rw [HE2.out]; rfl, rfl⟩
              · have g1 : decide (1099511627776 < x) = false := decide_eq_false hx1
                have HJ2 := Lib.hid (show (L.take (j + 1)).any badI = false by rw [HJT.out, g0, g1]; rfl)
                clear hx0 hx1
                go_wp2_with fail
                go_round
                case rel => exact ⟨j + 1, by omega, by go_num, HJ2.out⟩
                case measure => simp [intOf]; omega
          · have ek : decide ((j : Int) < (L.length : Int)) = false := decide_eq_false (by omega)
            have ek2 : decide (j < L.length) = false := decide_eq_false hjt
            obtain rfl : j = L.length := by omega
            rw [List.take_length] at HJ
            have HF2 := Lib.hid (show (flatP (P.take (k + 1))).any badI = false by rw [HTK.out, List.any_append, HF.out, HJ.out]; rfl)
            go_wp2_with fail
            go_round
            case rel => exact ⟨k + 1, by omega, by go_num, HF2.out⟩
            case measure => simp [intOf]; omega
        · have dk : decide ((k : Int) < (P.length : Int)) = false := decide_eq_false (by omega)
          have dk2 : decide (k < P.length) = false := decide_eq_false hlt
          obtain rfl : k = P.length := by omega
          rw [List.take_length] at HF
          have HE2 := Lib.hid (show wrE P = 0 by rw [HE.out, HF.out]; rfl)
          go_wp2_with fail
          go_ret
          exact ⟨by rw [HE2.out]; rfl, rfl⟩
/-- the rows of a matrix that was made row by row -/
structure RowsB (w : World) (D X : Nat) (Q : List (Value × List Int)) : Prop where
  own : ∀ p ∈ Q, w.ownsRow D 3 1 p.1 p.2.length (ivals p.2)
  lt : ∀ p ∈ Q, ∀ b, p.1.ownBlock = some b → b < X
theorem RowsB.grown {w w1 : World} {D X : Nat} {Q : List (Value × List Int)} {row : Option Nat} (h : RowsB w D X Q) (hg : w.grownBy w1 row) (hr : ∀ b, row = some b → X ≤ b) : RowsB w1 D X Q :=
  ⟨fun p hp => (h.own p hp).kept hg (by
    cases hv : p.1.ownBlock with
    | none => exact .inl rfl
    | some b => exact .inr (fun e => by have := h.lt p hp b hv; have := hr b e.symm; omega)), h.lt⟩
theorem RowsB.grownT {w w1 : World} {D X n : Nat} {Q : List (Value × List Int)} {v : Value} {xs : List Value} (h : RowsB w D X Q) (ho : w.ownsRow D 25 1 v n xs) (hg : w.grownBy w1 v.ownBlock) : RowsB w1 D X Q :=
  ⟨fun p hp => (h.own p hp).kept hg (apart_types (h.own p hp) ho (by decide)), h.lt⟩
theorem RowsB.below {w w1 : World} {D X : Nat} {Q : List (Value × List Int)} (h : RowsB w D X Q) (hb : Below w.heap.size w w1) : RowsB w1 D X Q := ⟨fun p hp => own_below (h.own p hp) hb, h.lt⟩
theorem RowsB.mono {w : World} {D X X' : Nat} {Q : List (Value × List Int)} (h : RowsB w D X Q) (hx : X ≤ X') : RowsB w D X' Q := ⟨h.own, fun p hp b hb => Nat.lt_of_lt_of_le (h.lt p hp b hb) hx⟩
theorem RowsB.now {w : World} {D X : Nat} {Q : List (Value × List Int)} (h : RowsB w D X Q) : RowsB w D w.heap.size Q := ⟨h.own, fun p hp b hb => ((h.own p hp).lt b hb).2⟩
theorem RowsB.rows {w : World} {D X : Nat} {Q : List (Value × List Int)} (h : RowsB w D X Q) (hl : ∀ p ∈ Q, p.2.length < 9223372036854775808) : ∀ p ∈ Q, RowV w p := fun p hp => by
  obtain ⟨oa, cap, hv, _, hI⟩ := isAt_own (h.own p hp)
  exact ⟨oa, cap, hv, hI, hl p hp⟩
theorem rowI_snoc (M : Mx) (i j : Nat) : rowI (j + 1) M i = rowI j M i ++ [M i j] := by simp [rowI, List.range_succ]
theorem keep_nn {c : CTest} {P : List (Value × List Int)} : ∀ p ∈ P.filter (keepP c), ∀ x ∈ p.2, 0 ≤ x := by
  intro p hp x hx
  have h := (List.mem_filter.1 hp).2
  unfold keepP keepB at h
  rw [Bool.and_eq_true, fits_ref] at h
  unfold refFitsB at h
  rw [Bool.and_eq_true, rangeL_iff] at h
  exact (h.1.1 x hx).1
set_option maxHeartbeats 8000000 in
set_option maxRecDepth 100000 in
theorem refPairs_any (c : CTest) (P : List (Value × List Int)) (oa : Option Addr) (cap : Nat) (ob : Option Addr) (cb : Nat) (w : World) (hP : PsAt w ob P) (hnl : c.op.length < 9223372036854775807) :
    Calls Try.prog 11 #[.agg #[.string ⟨c.nm.toArray⟩, .slice oa c.op.length cap, .int .i64 c.rl, .int .i64 c.se, .int .i64 c.mo], .slice ob P.length cb] w (PairsGot c P w) := by
  have QW := Lib.hid (show ∀ w, Calls Try.prog 18 #[.agg #[.string ⟨c.nm.toArray⟩, .slice oa c.op.length cap, .int .i64 c.rl, .int .i64 c.se, .int .i64 c.mo]] w (fun e w' => e = .returned (.int .i64 (wrongE c)) ∧ Below w.heap.size w w') from fun w => refWrong_any c oa cap w hnl)
  have HP := Lib.hid hP
  have HPR := Lib.hid (show prE c P = if wrongC c = true then 2 else filE c.op.length P from rfl)
  have HWE := Lib.hid (show wrongE c = if wrongC c = true then 2 else 0 from rfl)
  clear hP
  cases hW : wrongC c with
  | true =>
    rw [hW] at HPR HWE
    have HE := Lib.hid (HPR.out.trans (if_pos rfl))
    rw [show wrongE c = 2 from HWE.out.trans (if_pos rfl)] at QW
    clear hW HPR HWE
    go_enter Try.func11, Try.ntmps11
    go_upto_region 1 with (fail)
    generalize hB : w.heap.size = B at *
    refine wp_abs (fun w1 => Below B w w1 ∧ w1.heap[B]? = some (.cells #[.string ⟨c.nm.toArray⟩, .slice oa c.op.length cap, .int .i64 c.rl, .int .i64 c.se, .int .i64 c.mo] 24 (0, 0))) ⟨by rw [← hB]; exact (Below.refl _ _).alloc (Nat.le_refl _) _, by rw [← hB]; exact heap_at rfl⟩ (fun w1 hw1 => ?_)
    have HB := Lib.hid hB
    have B1 := Lib.hid hw1.1
    have X1 := Lib.hid hw1.2
    have hBs : B < w1.heap.size := lt_of_heap hw1.2
    clear hB hw1
    go_wp2_with (first
        | go_big_skip
        | ((with_reducible refine at_load 24 ?_); refine wpList_load_g ?_ 24 (.tmp 2) ?_ B _ _ _ _ ?_ X1.out Try.underlying24 ?_ size_contest ?_; rfl; rfl; rfl; rfl)
        | (go_at_call 18; refine (QW.out w1).mono ?_; rintro e w3 ⟨rfl, b3⟩; dsimp only; have B3 := Lib.hid (B1.out.trans (b3.mono (Nat.le_of_lt hBs))); clear b3))
    go_ret2
    exact PairsGot.bad HE.out (by decide) (by rw [HB.out]; exact B3.out)
  | false =>
    rw [hW] at HPR HWE
    obtain ⟨hn1, hn12, _⟩ := wrongC_no hW
    have HE := Lib.hid (HPR.out.trans (if_neg (by decide)))
    rw [show wrongE c = 0 from HWE.out.trans (if_neg (by decide))] at QW
    have QF := Lib.hid (fun w1 h => refFilled_any c 4 P oa cap ob cb w1 h hn12)
    clear hW HPR HWE
    unfold FilGot at QF
    have HKD := Lib.hid (show prK c P = P.filter (keepP (c.rule 4)) from rfl)
    go_enter Try.func11, Try.ntmps11
    go_upto_region 1 with (fail)
    generalize hB : w.heap.size = B at *
    refine wp_abs (fun w1 => Below B w w1 ∧ w1.heap[B]? = some (.cells #[.string ⟨c.nm.toArray⟩, .slice oa c.op.length cap, .int .i64 c.rl, .int .i64 c.se, .int .i64 c.mo] 24 (0, 0))) ⟨by rw [← hB]; exact (Below.refl _ _).alloc (Nat.le_refl _) _, by rw [← hB]; exact heap_at rfl⟩ (fun w1 hw1 => ?_)
    have HB := Lib.hid hB
    have B1 := Lib.hid hw1.1
    have X1 := Lib.hid hw1.2
    have hBs : B < w1.heap.size := lt_of_heap hw1.2
    clear hB hw1
    go_upto_region 2 with (first
        | go_big_skip
        | ((with_reducible refine at_load 24 ?_); refine wpList_load_g ?_ 24 (.tmp 2) ?_ B _ _ _ _ ?_ X1.out Try.underlying24 ?_ size_contest ?_; rfl; rfl; rfl; rfl)
        | (go_at_call 18; refine (QW.out w1).mono ?_; rintro e w4 ⟨rfl, b4⟩; dsimp only; have B4 := Lib.hid (B1.out.trans (b4.mono (Nat.le_of_lt hBs))); have X4 := Lib.hid (bel_keep b4 hBs X1.out); clear b4))
    have hB4 : B < w4.heap.size := lt_of_heap X4.out
    have HP4 := Lib.hid (HP.out.below (HB.out.symm ▸ B4.out))
    have Q4 := Lib.hid (QF.out w4 HP4.out)
    clear X1 B1 hBs QF QW
    as_aux_lemma =>
    by_cases h0 : filE c.op.length P = 0
    case neg =>
      have HD := Lib.hid (show (filE c.op.length P != 0) = true by rw [bne_iff_ne]; exact h0)
      have hd := HD.out
      have H0 := Lib.hid h0
      clear h0 HKD
      go_wp2_with (first
          | go_big_skip
          | ((with_reducible refine at_load 24 ?_); refine wpList_load_g ?_ 24 (.tmp 2) ?_ B _ _ _ _ ?_ X4.out Try.underlying24 ?_ size_contest ?_; rfl; rfl; rfl; rfl)
          | (go_at_call 26; refine (Q4.out).mono ?_; rintro e w5 ⟨b5, h5⟩; rw [if_neg H0.out] at h5; subst h5; dsimp only; have B5 := Lib.hid (B4.out.trans (b5.mono (Nat.le_of_lt hB4))); clear b5))
      go_ret2
      exact PairsGot.bad HE.out H0.out (by rw [HB.out]; exact B5.out)
    have HE0 := Lib.hid (HE.out.trans h0)
    obtain ⟨hA, h4096⟩ := filE_ok h0
    have HFE := Lib.hid h0
    have HKA := Lib.hid (allN_filter (keepP (c.rule 4)) hA)
    have HKN := Lib.hid (keep_nn (c := c.rule 4) (P := P))
    have hK4 : (P.filter (keepP (c.rule 4))).length ≤ 4096 := Nat.le_trans (List.length_filter_le _ _) h4096
    rw [← HKD.out] at Q4 HKA hK4 HKN
    have HOK := Lib.hid (show ∀ (Q : List (Value × List Int)) (w' : World) (oo : Option Addr) (co : Nat), Below w.heap.size w w' → Q.length = c.op.length → PsAt w' oo Q → Q.map Prod.snd = (List.range c.op.length).map (rowI c.op.length (pairM (prK c P))) → PairsGot c P w (.returned (.tuple #[.slice oo c.op.length co, .int .i64 0])) w' from fun Q w' oo co h1 h2 h3 h4 => PairsGot.ok HE0.out h1 h2 h3 h4)
    clear h0 hA h4096 HKD HE HE0
    generalize prK c P = K at *
    obtain ⟨i0, hi, hz0, hz1, hz2⟩ := info_parts info_int1
    obtain ⟨j0, ji, jz0, jz1, jz2⟩ := info_parts info_ints
    have HI := Lib.hid hi
    have HZ0 := Lib.hid hz0
    have HZ1 := Lib.hid hz1
    have HZ2 := Lib.hid hz2
    have JI := Lib.hid ji
    have JZ0 := Lib.hid jz0
    have JZ1 := Lib.hid jz1
    have JZ2 := Lib.hid jz2
    clear hi hz0 hz1 hz2 ji jz0 jz1 jz2
    go_upto_region 7 with (first
          | go_big_skip
          | ((with_reducible refine at_load 24 ?_); refine wpList_load_g ?_ 24 (.tmp 2) ?_ B _ _ _ _ ?_ X4.out Try.underlying24 ?_ size_contest ?_; rfl; rfl; rfl; rfl)
          | (go_at_call 26; refine (Q4.out).mono ?_; rintro e w5 ⟨b5, h5⟩; rw [if_pos HFE.out] at h5; obtain ⟨ol, cl, hp5, rfl⟩ := h5; dsimp only; have B5 := Lib.hid (B4.out.trans (b5.mono (Nat.le_of_lt hB4))); have P5 := Lib.hid hp5; have X5 := Lib.hid (bel_keep b5 hB4 X4.out); clear b5 hp5))
    clear Q4 HFE X4 B4 HP4 hB4
    as_aux_lemma =>
    have hB5 : B < w5.heap.size := lt_of_heap X5.out
    obtain ⟨D, hD⟩ : ∃ D, D = w5.heap.size := ⟨_, rfl⟩
    have HD := Lib.hid hD
    rw [← hD] at hB5
    clear hD
    have k1 : w5.cell? ⟨B, 1, none⟩ = some (.slice oa c.op.length cap) := cell_of_row _ _ _ _ _ _ X5.out
    go_wp2_with fail
    clear k1
    go_loopw [32, 8] (fun i v wr => ∃ (k : Nat) (Q : List (Value × List Int)) (vo : Value), i = .int .i64 k ∧ vo = v ∧ k ≤ c.op.length ∧ Q.map Prod.snd = (List.range k).map (rowI c.op.length (pairM K)) ∧ wr.ownsRow D 25 1 vo Q.length (Q.map Prod.fst) ∧ RowsB wr D wr.heap.size Q ∧ Below D w5 wr) (fun i _ _ => c.op.length - (intOf i).toNat)
    case atStart => exact ⟨0, [], _, rfl, rfl, Nat.zero_le _, rfl, World.ownsRow_nil _ _ _ _, ⟨fun p hp => by simp at hp, fun p hp => by simp at hp⟩, by rw [HD.out]; exact Below.refl _ _⟩
    case round =>
    obtain ⟨k, Q, vo, rfl, rfl, hk, hq, ho, hr, hb⟩ := hrel
    have HQ := Lib.hid hq
    have O2 := Lib.hid ho
    have R2 := Lib.hid hr
    have B2 := Lib.hid hb
    have HQL := Lib.hid (show Q.length = k by have := congrArg List.length hq; simpa using this)
    have hDr : D ≤ wr.heap.size := by have := hb.size; have := HD.out; omega
    have k1 : wr.cell? ⟨B, 1, none⟩ = some (.slice oa c.op.length cap) := cell_of_row _ _ _ _ _ _ (bel_keep hb hB5 X5.out)
    clear hq ho hr hb
    by_cases hlt : k < c.op.length
    · have dk : decide ((k : Int) < (c.op.length : Int)) = true := decide_eq_true (by omega)
      have dk2 : decide (k < c.op.length) = true := decide_eq_true hlt
      have dki : (k : Int) < (c.op.length : Int) := by omega
      go_wp2_with fail
      clear k1
      obtain ⟨X, hX⟩ : ∃ X, X = wr.heap.size := ⟨_, rfl⟩
      have HX := Lib.hid hX
      rw [← hX] at hDr R2
      clear hX
      obtain ⟨wo, hwo⟩ : ∃ wo : World, wo = wr := ⟨_, rfl⟩
      subst hwo
      go_loopw [38, 10] (fun j v wr => ∃ (j1 : Nat) (vr : Value), j = .int .i64 j1 ∧ vr = v ∧ j1 ≤ c.op.length ∧ wr.ownsRow X 3 1 vr (rowI j1 (pairM K) k).length (ivals (rowI j1 (pairM K) k)) ∧ wr.ownsRow D 25 1 vo Q.length (Q.map Prod.fst) ∧ RowsB wr D X Q ∧ Below D w5 wr ∧ X ≤ wr.heap.size) (fun j _ _ => c.op.length - (intOf j).toNat)
      case atStart => exact ⟨0, _, rfl, rfl, Nat.zero_le _, World.ownsRow_nil _ _ _ _, O2.out, R2.out, B2.out, Nat.le_of_eq HX.out⟩
      case round =>
      clear O2 R2 B2 HX
      obtain ⟨j1, vr, rfl, rfl, hj, hvr, ho, hr, hb, hXw⟩ := hrel
      have VR := Lib.hid hvr
      have O3 := Lib.hid ho
      have R3 := Lib.hid hr
      have B3 := Lib.hid hb
      have HP3 := Lib.hid (P5.out.below (HD.out ▸ hb))
      clear hvr ho hr hb
      by_cases hjt : j1 < c.op.length
      · have ek : decide ((j1 : Int) < (c.op.length : Int)) = true := decide_eq_true (by omega)
        have ek2 : decide (j1 < c.op.length) = true := decide_eq_true hjt
        have eki : (j1 : Int) < (c.op.length : Int) := by omega
        obtain ⟨wp, hwp⟩ : ∃ wp : World, wp = wr := ⟨_, rfl⟩
        subst hwp
        go_wp2_with fail
        go_loopw [43, 12] (fun t v wr => ∃ (t1 m d : Nat), t = .int .i64 t1 ∧ v = .int .i64 m ∧ t1 ≤ K.length ∧ m = cntP (K.take t1) k j1 ∧ m ≤ t1 ∧ wr = wp.drewN d) (fun t _ _ => K.length - (intOf t).toNat)
        case atStart => exact ⟨0, 0, 0, rfl, rfl, Nat.zero_le _, rfl, Nat.le_refl _, rfl⟩
        case round =>
        obtain ⟨t1, m, d, rfl, rfl, ht, hm, hmt, rfl⟩ := hrel
        have HM := Lib.hid hm
        clear hm
        by_cases htt : t1 < K.length
        · have fk : decide ((t1 : Int) < (K.length : Int)) = true := decide_eq_true (by omega)
          have fk2 : decide (t1 < K.length) = true := decide_eq_true htt
          have fki : (t1 : Int) < (K.length : Int) := by omega
          obtain ⟨q, hoa, hqb, hqc⟩ := HP3.out.cells t1 htt
          subst hoa
          have HTK := Lib.hid (show K.take (t1 + 1) = K.take t1 ++ [K[t1]] from List.take_succ_eq_append_getElem htt)
          have HMEM := Lib.hid (show K[t1] ∈ K from List.getElem_mem htt)
          generalize K[t1] = p at *
          obtain ⟨or, cr, hp1, hp2, hp3⟩ := HP3.out.rows p HMEM.out
          have hL : p.2.length = c.op.length := HKA.out p HMEM.out
          rw [hp1, hL] at hqc
          have HNN := Lib.hid (HKN.out p HMEM.out)
          have HCS := Lib.hid (cntP_snoc (K.take t1) p k j1)
          rw [← HTK.out, ← HM.out] at HCS
          have hkL : k < p.2.length := by omega
          have hjL : j1 < p.2.length := by omega
          obtain ⟨r, rfl, hrb, hrc⟩ := hp2.cells k hkL
          obtain ⟨r', hor, _, hrd⟩ := hp2.cells j1 hjL
          obtain rfl : r = r' := by injection hor
          have HX0 := Lib.hid (show p.2.getD k 0 = p.2[k] by simp [hkL])
          have HY0 := Lib.hid (show p.2.getD j1 0 = p.2[j1] by simp [hjL])
          have hx0 := HNN.out _ (List.getElem_mem hkL)
          have HAH := Lib.hid (show aheadI p.2 k j1 = (decide (0 < p.2.getD k 0) && (p.2.getD j1 0 == 0 || decide (p.2.getD k 0 < p.2.getD j1 0))) from rfl)
          rw [HX0.out, HY0.out] at HAH
          have HKJ := Lib.hid (show k = j1 → p.2[k] = p.2[j1] from fun e => by subst e; rfl)
          clear hp1 hp2 hp3 hor hL HX0 HY0
          generalize p.2[k] = x at *
          generalize p.2[j1] = y at *
          have hYES := Lib.hid (show aheadI p.2 k j1 = true → m + 1 = cntP (K.take (t1 + 1)) k j1 from fun h => by rw [HCS.out, if_pos h])
          have hNO := Lib.hid (show aheadI p.2 k j1 = false → m = cntP (K.take (t1 + 1)) k j1 from fun h => by rw [HCS.out, if_neg (by rw [h]; decide)]; rfl)
          generalize p.2.length = pl at *
          by_cases hkj : k = j1
          · have g0 : ((k : Int) != (j1 : Int)) = false := by rw [hkj]; simp
            have g0' : (k != j1) = false := by rw [hkj]; simp
            have HN := Lib.hid (hNO.out (by
              have := HKJ.out hkj
              rw [HAH.out, this]
              by_cases h : 0 < y
              · rw [show (y == 0) = false by rw [beq_eq_false_iff_ne]; omega, decide_eq_false (Int.lt_irrefl y), Bool.or_self, Bool.and_false]
              · rw [decide_eq_false h, Bool.false_and]))
            clear hkj HKJ hYES hNO HAH HCS
            go_upto_region 19 with (fail)
            refine Seg.wp_region_segs (fun w' => ∃ m, w' = (wp.drewN d).drewN m) [] [0, 1, 2, 3, 4, 5, 6, 7, 8, 9, 10, 11, 12, 13, 14, 15, 16, 17, 18, 19, 20, 21, 22, 23, 24] 25 (by kernel_rfl) (by kernel_rfl) (fun _ _ d _ _ h => by cases d <;> exact h) (⟨1, rfl⟩) ?_
            simp only [List.map_cons, List.map_nil, Seg.opAt, List.drop_succ_cons, List.drop_zero, Seg.wpSegs, Array.getD_eq_getD_getElem?, List.getElem?_toArray, List.getElem?_cons_succ, List.getElem?_cons_zero, Option.getD_some]
            repeat (any_goals (first | go_big_quiet_step (fail) | quiet_step (fail)))
            refine wpQuiet_nil ?_
            go_wp2_with go_big_skip
            go_roundw
            case rel => exact ⟨t1 + 1, m, _, by go_num, rfl, by omega, HN.out, by omega, rfl⟩
            case measure => simp [intOf]; omega
          · have g0 : ((k : Int) != (j1 : Int)) = true := by rw [bne_iff_ne]; omega
            have g0' : (k != j1) = true := by rw [bne_iff_ne]; exact hkj
            by_cases hxz : x = 0
            · have g1 : (x != 0) = false := by rw [hxz]; rfl
              have HN := Lib.hid (hNO.out (by rw [HAH.out, decide_eq_false (by omega), Bool.false_and]))
              clear hkj HKJ hYES hNO HAH HCS hxz
              go_upto_region 19 with (fail)
              refine Seg.wp_region_segs (fun w' => ∃ m, w' = (wp.drewN d).drewN m) [] [0, 1, 2, 3, 4, 5, 6, 7, 8, 9, 10, 11, 12, 13, 14, 15, 16, 17, 18, 19, 20, 21, 22, 23, 24] 25 (by kernel_rfl) (by kernel_rfl) (fun _ _ d _ _ h => by cases d <;> exact h) (⟨1, rfl⟩) ?_
              simp only [List.map_cons, List.map_nil, Seg.opAt, List.drop_succ_cons, List.drop_zero, Seg.wpSegs, Array.getD_eq_getD_getElem?, List.getElem?_toArray, List.getElem?_cons_succ, List.getElem?_cons_zero, Option.getD_some]
              repeat (any_goals (first | go_big_quiet_step (fail) | quiet_step (fail)))
              refine wpQuiet_nil ?_
              go_wp2_with go_big_skip
              go_roundw
              case rel => exact ⟨t1 + 1, m, _, by go_num, rfl, by omega, HN.out, by omega, rfl⟩
              case measure => simp [intOf]; omega
            · have g1 : (x != 0) = true := by rw [bne_iff_ne]; exact hxz
              by_cases hyz : y = 0
              · have g2 : (y == 0) = true := by rw [beq_iff_eq]; exact hyz
                have HY := Lib.hid (hYES.out (by rw [HAH.out, decide_eq_true (by omega), g2]; rfl))
                clear hkj HKJ hYES hNO HAH HCS hxz hyz
                go_upto_region 19 with (fail)
                refine Seg.wp_region_segs (fun w' => ∃ m, w' = (wp.drewN d).drewN m) [] [0, 1, 2, 3, 4, 5, 6, 7, 8, 9, 10, 11, 12, 13, 14, 15, 16, 17, 18, 19, 20, 21, 22, 23, 24] 25 (by kernel_rfl) (by kernel_rfl) (fun _ _ d _ _ h => by cases d <;> exact h) (⟨1, rfl⟩) ?_
                simp only [List.map_cons, List.map_nil, Seg.opAt, List.drop_succ_cons, List.drop_zero, Seg.wpSegs, Array.getD_eq_getD_getElem?, List.getElem?_toArray, List.getElem?_cons_succ, List.getElem?_cons_zero, Option.getD_some]
                repeat (any_goals (first | go_big_quiet_step (fail) | quiet_step (fail)))
                refine wpQuiet_nil ?_
                go_wp2_with go_big_skip
                go_roundw
                case rel => exact ⟨t1 + 1, m + 1, _, by go_num, by go_num, by omega, HY.out, by omega, rfl⟩
                case measure => simp [intOf]; omega
              · have g2 : (y == 0) = false := by rw [beq_eq_false_iff_ne]; exact hyz
                by_cases hxy : x < y
                · have g3 : decide (x < y) = true := decide_eq_true hxy
                  have HY := Lib.hid (hYES.out (by rw [HAH.out, decide_eq_true (by omega), g3, Bool.or_true]; rfl))
                  clear hkj HKJ hYES hNO HAH HCS hxz hyz hxy
                  go_upto_region 19 with (fail)
                  refine Seg.wp_region_segs (fun w' => ∃ m, w' = (wp.drewN d).drewN m) [] [0, 1, 2, 3, 4, 5, 6, 7, 8, 9, 10, 11, 12, 13, 14, 15, 16, 17, 18, 19, 20, 21, 22, 23, 24] 25 (by kernel_rfl) (by kernel_rfl) (fun _ _ d _ _ h => by cases d <;> exact h) (⟨1, rfl⟩) ?_
                  simp only [List.map_cons, List.map_nil, Seg.opAt, List.drop_succ_cons, List.drop_zero, Seg.wpSegs, Array.getD_eq_getD_getElem?, List.getElem?_toArray, List.getElem?_cons_succ, List.getElem?_cons_zero, Option.getD_some]
                  repeat (any_goals (first | go_big_quiet_step (fail) | quiet_step (fail)))
                  refine wpQuiet_nil ?_
                  go_wp2_with go_big_skip
                  go_roundw
                  case rel => exact ⟨t1 + 1, m + 1, _, by go_num, by go_num, by omega, HY.out, by omega, rfl⟩
                  case measure => simp [intOf]; omega
                · have g3 : decide (x < y) = false := decide_eq_false hxy
                  have HN := Lib.hid (hNO.out (by rw [HAH.out, g2, g3, Bool.or_self, Bool.and_false]))
                  clear hkj HKJ hYES hNO HAH HCS hxz hyz hxy
                  go_upto_region 19 with (fail)
                  refine Seg.wp_region_segs (fun w' => ∃ m, w' = (wp.drewN d).drewN m) [] [0, 1, 2, 3, 4, 5, 6, 7, 8, 9, 10, 11, 12, 13, 14, 15, 16, 17, 18, 19, 20, 21, 22, 23, 24] 25 (by kernel_rfl) (by kernel_rfl) (fun _ _ d _ _ h => by cases d <;> exact h) (⟨1, rfl⟩) ?_
                  simp only [List.map_cons, List.map_nil, Seg.opAt, List.drop_succ_cons, List.drop_zero, Seg.wpSegs, Array.getD_eq_getD_getElem?, List.getElem?_toArray, List.getElem?_cons_succ, List.getElem?_cons_zero, Option.getD_some]
                  repeat (any_goals (first | go_big_quiet_step (fail) | quiet_step (fail)))
                  refine wpQuiet_nil ?_
                  go_wp2_with go_big_skip
                  go_roundw
                  case rel => exact ⟨t1 + 1, m, _, by go_num, rfl, by omega, HN.out, by omega, rfl⟩
                  case measure => simp [intOf]; omega
        · have fk : decide ((t1 : Int) < (K.length : Int)) = false := decide_eq_false (by omega)
          have fk2 : decide (t1 < K.length) = false := decide_eq_false htt
          obtain rfl : t1 = K.length := by omega
          rw [List.take_length] at HM
          have HRS := Lib.hid (show rowI (j1 + 1) (pairM K) k = rowI j1 (pairM K) k ++ [(m : Int)] by rw [rowI_snoc, HM.out]; rfl)
          have hRL : (rowI j1 (pairM K) k).length = j1 := length_rowI _ _ _
          have hXw2 : X ≤ (wp.drewN d).heap.size := hXw
          have hDw : D ≤ (wp.drewN d).heap.size := Nat.le_trans hDr hXw
          have bd := bel_drewN (Below.refl wp.heap.size wp) d
          refine wp_abs (fun w6 => w6.ownsRow X 3 1 vr (rowI j1 (pairM K) k).length (ivals (rowI j1 (pairM K) k)) ∧ w6.ownsRow D 25 1 vo Q.length (Q.map Prod.fst) ∧ RowsB w6 D X Q ∧ Below D w5 w6 ∧ X ≤ w6.heap.size) ⟨own_below VR.out bd, own_below O3.out bd, R3.out.below bd, bel_drewN B3.out d, hXw⟩ (fun w6 hw6 => ?_)
          have H6 := Lib.hid hw6
          have hX6 := hw6.2.2.2.2
          have hD6 : D ≤ w6.heap.size := Nat.le_trans hDr hX6
          clear hw6 bd VR O3 R3 B3 HP3 hXw2 hDw hXw
          generalize rowI j1 (pairM K) k = L at *
          have HRL := Lib.hid hRL
          have hL12 : L.length ≤ 12 := by omega
          clear hRL
          go_wp2_with (at_builtin; refine wpList_append_lies _ rfl (.tmp 78) (.tmp 80) 25 rfl X 3 i0 (.int .i64 0) 1 8 Try.underlying25 HI.out HZ0.out HZ1.out HZ2.out rfl (by decide) vr L.length (ivals L) rfl (H6.out.1.alloc _) ⟨_, 0, none⟩ 1 1 (ivals [(m : Int)]) rfl rfl (news_blk (heap_at rfl)) (ivals_one _) (by decide) (by unfold maxLen; omega) (by omega) (by simp; omega) _ rfl (fun g cp w7 own7 hg7 hf7 hlt7 => ?_))
          have hne7 : ∀ b, vr.ownBlock = some b → X ≤ b := fun b hb => (H6.out.1.lt b hb).1
          have hne7' : ∀ b, vr.ownBlock = some b → D ≤ b := fun b hb => Nat.le_trans hDr (hne7 b hb)
          have bA : Below w6.heap.size w6 (w6.alloc (.cells #[.int .i64 (m : Int)] 3)) := (Below.refl _ _).alloc (Nat.le_refl _) _
          have B7 := Lib.hid ((H6.out.2.2.2.1.alloc hD6 (.cells #[.int .i64 (m : Int)] 3)).grown hg7 (by simp; omega) hne7')
          have R7 := Lib.hid ((H6.out.2.2.1.below bA).grown hg7 hne7)
          have O7 := Lib.hid ((own_below H6.out.2.1 bA).kept hg7 (apart_types (own_below H6.out.2.1 bA) (own_below H6.out.1 bA) (by decide)))
          have V7 := Lib.hid own7
          have hX7 : X ≤ w7.heap.size := by have := hg7.size; simp at this; omega
          clear own7 hg7 hf7 hlt7 bA
          go_wp2_with fail
          go_roundw
          case rel => exact ⟨j1 + 1, _, by go_num, rfl, by omega, by rw [HRS.out, List.length_append, ← ivals_append]; exact V7.out, O7.out, R7.out, B7.out, hX7⟩
          case measure => simp [intOf]; omega
      · have ek : decide ((j1 : Int) < (c.op.length : Int)) = false := decide_eq_false (by omega)
        have ek2 : decide (j1 < c.op.length) = false := decide_eq_false hjt
        obtain rfl : j1 = c.op.length := by omega
        have hRL : (rowI c.op.length (pairM K) k).length = c.op.length := length_rowI _ _ _
        have HQ2 := Lib.hid (show ∀ v : Value, (Q ++ [(v, rowI c.op.length (pairM K) k)]).map Prod.snd = (List.range (k + 1)).map (rowI c.op.length (pairM K)) from fun v => by rw [List.map_append, HQ.out, List.range_succ, List.map_append]; rfl)
        generalize rowI c.op.length (pairM K) k = L at *
        obtain ⟨or, cr, rfl, hcr, hIr⟩ := isAt_own VR.out
        have hQ12 : Q.length ≤ 12 := by have := HQL.out; omega
        clear hIr hRL
        have hD6 : D ≤ wr.heap.size := Nat.le_trans hDr hXw
        go_wp2_with (at_builtin; refine wpList_append_lies _ rfl (.tmp 83) (.tmp 85) 32 rfl D 25 j0 (.slice none 0 0) 1 24 Try.underlying32 JI.out JZ0.out JZ1.out JZ2.out rfl (by decide) vo Q.length (Q.map Prod.fst) rfl (O3.out.alloc _) ⟨_, 0, none⟩ 1 1 [.slice or L.length cr] rfl rfl (news_blk (heap_at rfl)) (by simp [Value.oneCell']) (by decide) (by unfold maxLen; omega) (by omega) (by simp; omega) _ rfl (fun g cp w7 own7 hg7 hf7 hlt7 => ?_))
        have hne7 : ∀ b, vo.ownBlock = some b → D ≤ b := fun b hb => (O3.out.lt b hb).1
        have bA : Below wr.heap.size wr (wr.alloc (.cells #[.slice or L.length cr] 25)) := (Below.refl _ _).alloc (Nat.le_refl _) _
        have B7 := Lib.hid ((B3.out.alloc hD6 (.cells #[.slice or L.length cr] 25)).grown hg7 (by simp; omega) hne7)
        have R7a := (R3.out.below bA).grownT (own_below O3.out bA) hg7
        have V7a : w7.ownsRow D 3 1 (.slice or L.length cr) L.length (ivals L) := by
          have h1 := (own_below VR.out bA).kept hg7 (apart_types (own_below VR.out bA) (own_below O3.out bA) (by decide))
          exact ⟨h1.1, h1.2.elim .inl (fun ⟨g, cp, cu, a1, a2, a3⟩ => .inr ⟨g, cp, cu, a1, Nat.le_trans hDr a2, a3⟩)⟩
        have R7 := Lib.hid (show RowsB w7 D w7.heap.size (Q ++ [(.slice or L.length cr, L)]) from ⟨fun p hp => by
          rcases List.mem_append.1 hp with h | h
          · exact R7a.own p h
          · rw [List.mem_singleton.1 h]; exact V7a, fun p hp b hb => by
          rcases List.mem_append.1 hp with h | h
          · exact ((R7a.own p h).lt b hb).2
          · rw [List.mem_singleton.1 h] at hb; exact (V7a.lt b hb).2⟩)
        have O7 := Lib.hid own7
        clear own7 hg7 hf7 hlt7 bA R7a V7a
        go_wp2_with fail
        go_roundw
        case rel => exact ⟨k + 1, Q ++ [(.slice or L.length cr, L)], _, by go_num, rfl, by omega, HQ2.out _, by rw [List.length_append, List.map_append]; exact O7.out, R7.out, B7.out⟩
        case measure => simp [intOf]; omega
    · have dk : decide ((k : Int) < (c.op.length : Int)) = false := decide_eq_false (by omega)
      have dk2 : decide (k < c.op.length) = false := decide_eq_false hlt
      obtain rfl : k = c.op.length := by omega
      obtain ⟨oo, co, rfl, hco, hps⟩ := psAt_own O2.out (R2.out.rows (fun p hp => by
        have : p.2 ∈ Q.map Prod.snd := List.mem_map.2 ⟨p, hp, rfl⟩
        rw [HQ.out] at this
        obtain ⟨i, _, e⟩ := List.mem_map.1 this
        rw [← e, length_rowI]; omega))
      have HF := Lib.hid (HOK.out Q wr oo co (by rw [HB.out]; exact B5.out.trans (B2.out.mono (Nat.le_of_lt hB5))) HQL.out hps HQ.out)
      rw [← HQL.out] at HF
      clear hps
      go_wp2_with fail
      go_ret2
      exact HF.out
end Go.Proofs.Ytnohcdpnnhmpfaa
