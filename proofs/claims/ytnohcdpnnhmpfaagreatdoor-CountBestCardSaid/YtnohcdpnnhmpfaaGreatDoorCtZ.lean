/-
  Chapter 13, for Pairs: count.Paths, count.Pairs. Printed by tools/genpp.py.
-/
import Derived.Test.YtnohcdpnnhmpfaaGreatDoorCtY
namespace Go.Proofs.YtnohcdpnnhmpfaaGreatDoor
set_option linter.unusedVariables false
set_option linter.unusedSimpArgs false
open Go.RowKit ML FM AU CT

theorem wrE_ok {P : List (Value × List Int)} (h : wrE P = 0) : allN P.length P ∧ P.length ≤ 12 ∧ 0 < P.length ∧ ∀ i j, i < P.length → j < P.length → 0 ≤ mxP P i j ∧ mxP P i j ≤ 1099511627776 := by
  unfold wrE at h
  split at h
  · cases h
  · rename_i h1
    have ha : allN P.length P := Classical.byContradiction fun h3 => h1 (.inr (.inr h3))
    refine ⟨ha, by omega, by omega, fun i j hi hj => ?_⟩
    split at h
    · cases h
    · rename_i h2
      have hl := ha P[i] (List.getElem_mem hi)
      rw [mxP_get P i j hi (by omega)]
      have hb : badI P[i].2[j] = false := by
        rw [← Bool.not_eq_true]
        intro hb
        exact h2 (List.any_eq_true.2 ⟨_, List.mem_flatMap.2 ⟨P[i], List.getElem_mem hi, List.getElem_mem _⟩, hb⟩)
      unfold badI at hb
      rw [Bool.or_eq_false_iff] at hb
      have h3 := of_decide_eq_false hb.1
      have h4 := of_decide_eq_false hb.2
      omega
/-- what Paths answers -/
def PathsGot (P : List (Value × List Int)) (w : World) (e : Ending) (w' : World) : Prop :=
  Below w.heap.size w w' ∧ if wrE P = 0 then ∃ F gs W, e = .returned (.tuple #[.slice (some ⟨F, 0, none⟩) P.length P.length, .int .i64 0]) ∧ MxO w.heap.size w' F P.length gs W ∧ Strong (edge (mxP P)) P.length W
  else e = .returned (.tuple #[.slice none 0 0, .int .i64 (wrE P)])
theorem PathsGot.bad {P : List (Value × List Int)} {w w' : World} (h0 : wrE P ≠ 0) (hb : Below w.heap.size w w') : PathsGot P w (.returned (.tuple #[.slice none 0 0, .int .i64 (wrE P)])) w' := by
  unfold PathsGot
  rw [if_neg h0]
  exact ⟨hb, rfl⟩
theorem PathsGot.ok {P : List (Value × List Int)} {w w' : World} (h0 : wrE P = 0) (hb : Below w.heap.size w w') {F : Nat} {gs : List Nat} {W : Mx} (hm : MxO w.heap.size w' F P.length gs W) (hs : Strong (edge (mxP P)) P.length W) : PathsGot P w (.returned (.tuple #[.slice (some ⟨F, 0, none⟩) P.length P.length, .int .i64 0])) w' := by
  unfold PathsGot
  rw [if_pos h0]
  exact ⟨hb, F, gs, W, rfl, hm, hs⟩
set_option maxHeartbeats 2000000 in
set_option maxRecDepth 100000 in
theorem cPaths_any (P : List (Value × List Int)) (ob : Option Addr) (cb : Nat) (w : World) (hP : PsAt w ob P) (hl : P.length < 9223372036854775808) :
    Calls Tryz.prog 26 #[.slice ob P.length cb] w (PathsGot P w) := by
  have HP := Lib.hid hP
  have QW := Lib.hid (wrong_any P ob cb w hP hl)
  clear hP hl
  by_cases h0 : wrE P = 0
  · obtain ⟨h1, h2, h3, h4⟩ := wrE_ok h0
    obtain ⟨q, rfl, _, _⟩ := HP.out.cells 0 h3
    have QP := Lib.hid (fun w1 hb => paths_any P.length (mxP P) q cb w1 (psAt_read (HP.out.below hb) h1) h2 (fun i j hi hj => (h4 i j hi hj).1))
    have H0 := Lib.hid h0
    rw [h0] at QW
    clear h0 h1 h2 h4
    go_enter Tryz.func26, Tryz.ntmps26
    go_wp2_with (first
        | go_big_skip
        | (go_at_call 62; refine (QW.out).mono ?_; rintro e w1 ⟨rfl, b1⟩; dsimp only; have B1 := Lib.hid b1; clear b1)
        | (go_at_call 52; refine (QP.out w1 B1.out).mono ?_; rintro e w2 ⟨F, gs, W, rfl, hm2, hs2, hb2⟩; dsimp only; have M2 := Lib.hid (hm2.mono B1.out.size); have S2 := Lib.hid hs2; have B2 := Lib.hid (B1.out.trans (hb2.mono B1.out.size)); clear hm2 hs2 hb2))
    go_ret2
    exact PathsGot.ok H0.out B2.out M2.out S2.out
  · have H0 := Lib.hid h0
    have HE := Lib.hid (show (wrE P != 0) = true by rw [bne_iff_ne]; exact h0)
    have hd := HE.out
    clear h0
    go_enter Tryz.func26, Tryz.ntmps26
    go_wp2_with (first
        | go_big_skip
        | (go_at_call 62; refine (QW.out).mono ?_; rintro e w1 ⟨rfl, b1⟩; dsimp only; have B1 := Lib.hid b1; clear b1))
    go_ret2
    exact PathsGot.bad H0.out B1.out
/-- what is wrong ahead of the pairs -/
def prE (c : CTest) (P : List (Value × List Int)) : Int := if wrongC c = true then 2 else filE c.op.length P
def prK (c : CTest) (P : List (Value × List Int)) : List (Value × List Int) := P.filter (keepP (c.rule 4))
/-- what Pairs answers -/
def PairsGot (c : CTest) (P : List (Value × List Int)) (w : World) (e : Ending) (w' : World) : Prop :=
  Below w.heap.size w w' ∧ if prE c P = 0 then ∃ oo co Q, e = .returned (.tuple #[.slice oo Q.length co, .int .i64 0]) ∧ PsAt w' oo Q ∧ Q.map Prod.snd = (List.range c.op.length).map (rowI c.op.length (pairM (prK c P)))
  else e = .returned (.tuple #[.slice none 0 0, .int .i64 (prE c P)])
theorem PairsGot.bad {c : CTest} {P : List (Value × List Int)} {w w' : World} {E : Int} (hE : prE c P = E) (h0 : E ≠ 0) (hb : Below w.heap.size w w') : PairsGot c P w (.returned (.tuple #[.slice none 0 0, .int .i64 E])) w' := by
  unfold PairsGot
  rw [hE, if_neg h0]
  exact ⟨hb, rfl⟩
theorem PairsGot.ok {c : CTest} {P Q : List (Value × List Int)} {w w' : World} (h0 : prE c P = 0) (hb : Below w.heap.size w w') {oo : Option Addr} {co n : Nat} (hn : Q.length = n) (hm : PsAt w' oo Q) (hs : Q.map Prod.snd = (List.range c.op.length).map (rowI c.op.length (pairM (prK c P)))) : PairsGot c P w (.returned (.tuple #[.slice oo n co, .int .i64 0])) w' := by
  unfold PairsGot
  rw [if_pos h0]
  exact ⟨hb, oo, co, Q, by rw [hn], hm, hs⟩
theorem wrongC_no {c : CTest} (h : wrongC c = false) : 1 ≤ c.op.length ∧ c.op.length ≤ 12 ∧ 1 ≤ c.rl ∧ c.rl ≤ 4 ∧ 1 ≤ c.se ∧ c.se ≤ c.op.length := by
  unfold wrongC at h
  have := of_decide_eq_false h
  omega
theorem allN_filter {n : Nat} {P : List (Value × List Int)} (f : Value × List Int → Bool) (h : allN n P) : allN n (P.filter f) := fun p hp => h p (List.mem_filter.1 hp).1
theorem filE_ok {n : Nat} {P : List (Value × List Int)} (h : filE n P = 0) : allN n P ∧ P.length ≤ 4096 := by
  unfold filE at h
  split at h
  · cases h
  · split at h
    · rename_i h1 h2; exact ⟨h2, by omega⟩
    · cases h
set_option maxHeartbeats 4000000 in
set_option maxRecDepth 100000 in
theorem cPairs_any (c : CTest) (P : List (Value × List Int)) (oa : Option Addr) (cap : Nat) (ob : Option Addr) (cb : Nat) (w : World) (hs : StrsAt w oa c.op) (hP : PsAt w ob P) (hf : c.Fits []) (hnl : c.op.length < 9223372036854775807) :
    Calls Tryz.prog 25 #[.agg #[.string ⟨c.nm.toArray⟩, .slice oa c.op.length cap, .int .i64 c.rl, .int .i64 c.se, .int .i64 c.mo], .slice ob P.length cb] w (PairsGot c P w) := by
  have QD := Lib.hid (show ∀ (w : World) (h : StrsAt w oa c.op), Calls Tryz.prog 28 #[.agg #[.string ⟨c.nm.toArray⟩, .slice oa c.op.length cap, .int .i64 c.rl, .int .i64 c.se, .int .i64 c.mo], .string ⟨#[]⟩] w (DrawGot c [] oa cap w) from fun w h => draw_any c [] oa cap w h hf hnl)
  have HS := Lib.hid hs
  have HP := Lib.hid hP
  have HPR := Lib.hid (show prE c P = if wrongC c = true then 2 else filE c.op.length P from rfl)
  clear hs hP hf
  unfold DrawGot at QD
  cases hW : wrongC c with
  | true =>
    rw [hW] at QD HPR
    have HE := Lib.hid (HPR.out.trans (if_pos rfl))
    clear hW HPR
    go_enter Tryz.func25, Tryz.ntmps25
    go_upto_region 1 with (fail)
    generalize hB : w.heap.size = B at *
    refine wp_abs (fun w1 => Below B w w1 ∧ w1.heap[B]? = some (.cells #[.string ⟨c.nm.toArray⟩, .slice oa c.op.length cap, .int .i64 c.rl, .int .i64 c.se, .int .i64 c.mo] 24 (0, 0))) ⟨by rw [← hB]; exact (Below.refl _ _).alloc (Nat.le_refl _) _, by rw [← hB]; exact heap_at rfl⟩ (fun w1 hw1 => ?_)
    have HB := Lib.hid hB
    have B1 := Lib.hid hw1.1
    have X1 := Lib.hid hw1.2
    have hBs : B < w1.heap.size := lt_of_heap hw1.2
    have Q1 := Lib.hid (QD.out w1 (HS.out.below (HB.out.symm ▸ B1.out)))
    clear hB hw1 QD
    go_wp2_with (first
        | go_big_skip
        | ((with_reducible refine at_load 24 ?_); refine wpList_load_g ?_ 24 (.tmp 2) ?_ B _ _ _ _ ?_ X1.out Tryz.underlying24 ?_ size_contest ?_; rfl; rfl; rfl; rfl)
        | (go_at_call 28; refine (Q1.out).mono ?_; rintro e w3 ⟨b3, h3⟩; rw [if_pos rfl] at h3; subst h3; dsimp only; have B3 := Lib.hid b3; clear b3)
        | (refine wpList_store_whole rfl rfl 62 _ _ rfl w3.heap.size #[.string ⟨#[]⟩, .slice none 0 0, .int .i64 0, .int .i64 0, .int .i64 0, .slice none 0 0, .slice none 0 0] #[.string ⟨#[]⟩, .slice none 0 0, .int .i64 0, .int .i64 0, .int .i64 0, .slice none 0 0, .slice none 0 0] 62 rfl rfl (heap_at rfl) rfl size_drawn (seven_a _ _ _ _ _ _ _ rfl rfl rfl rfl rfl rfl rfl) ?_; intro w4 ho hp))
    go_ret2
    have b4 : Below w3.heap.size w3 w4 := bel_only ((Below.refl _ _).alloc (Nat.le_refl _) _) ho (Nat.le_refl _)
    exact PairsGot.bad HE.out (by decide) (by rw [HB.out]; exact B1.out.trans ((B3.out.mono (Nat.le_of_lt hBs)).trans (b4.mono (by have := B3.out.size; omega))))
  | false =>
    rw [hW] at QD HPR
    obtain ⟨hn1, hn12, _⟩ := wrongC_no hW
    have HE := Lib.hid (HPR.out.trans (if_neg (by decide)))
    have QF := Lib.hid (fun w1 h => filled_any c 4 P oa cap ob cb w1 h hn12 hn1)
    clear hW HPR
    unfold FilGot at QF
    have HKD := Lib.hid (show prK c P = P.filter (keepP (c.rule 4)) from rfl)
    go_enter Tryz.func25, Tryz.ntmps25
    go_upto_region 1 with (fail)
    generalize hB : w.heap.size = B at *
    refine wp_abs (fun w1 => Below B w w1 ∧ w1.heap[B]? = some (.cells #[.string ⟨c.nm.toArray⟩, .slice oa c.op.length cap, .int .i64 c.rl, .int .i64 c.se, .int .i64 c.mo] 24 (0, 0))) ⟨by rw [← hB]; exact (Below.refl _ _).alloc (Nat.le_refl _) _, by rw [← hB]; exact heap_at rfl⟩ (fun w1 hw1 => ?_)
    have HB := Lib.hid hB
    have B1 := Lib.hid hw1.1
    have X1 := Lib.hid hw1.2
    have hBs : B < w1.heap.size := lt_of_heap hw1.2
    have Q1 := Lib.hid (QD.out w1 (HS.out.below (HB.out.symm ▸ B1.out)))
    clear hB hw1 QD
    go_upto_region 2 with (first
        | go_big_skip
        | ((with_reducible refine at_load 24 ?_); refine wpList_load_g ?_ 24 (.tmp 2) ?_ B _ _ _ _ ?_ X1.out Tryz.underlying24 ?_ size_contest ?_; rfl; rfl; rfl; rfl)
        | (go_at_call 28; refine (Q1.out).mono ?_; rintro e w3 ⟨b3, h3⟩; rw [if_neg (by decide)] at h3; obtain ⟨O, Pl, oO, cO, oP, cP, hO, hPl, hIO, hIP, rfl⟩ := h3; dsimp only; clear hO hPl hIO hIP; have B3 := Lib.hid b3; clear b3)
        | (refine wpList_store_whole rfl rfl 62 _ _ rfl w3.heap.size #[.string ⟨#[]⟩, .slice none 0 0, .int .i64 0, .int .i64 0, .int .i64 0, .slice none 0 0, .slice none 0 0] #[.string ⟨c.nm.toArray⟩, .slice oa c.op.length cap, .int .i64 c.rl, .int .i64 c.se, .int .i64 c.mo, .slice oO O.length cO, .slice oP Pl.length cP] 62 rfl rfl (heap_at rfl) rfl size_drawn (seven_a _ _ _ _ _ _ _ rfl rfl rfl rfl rfl rfl rfl) ?_; intro w4 ho hp))
    have b4 : Below w3.heap.size w3 w4 := bel_only ((Below.refl _ _).alloc (Nat.le_refl _) _) ho (Nat.le_refl _)
    have bw4 : Below w1.heap.size w1 w4 := B3.out.trans (b4.mono B3.out.size)
    have B4 := Lib.hid (B1.out.trans (bw4.mono (Nat.le_of_lt hBs)))
    have X4 := Lib.hid (bel_keep bw4 hBs X1.out)
    have hB4 : B < w4.heap.size := lt_of_heap X4.out
    have HP4 := Lib.hid (HP.out.below (HB.out.symm ▸ B4.out))
    have Q4 := Lib.hid (QF.out w4 HP4.out)
    clear ho hp b4 bw4 X1 B1 hBs Q1 QF B3
    as_aux_lemma =>
    by_cases h0 : filE c.op.length P = 0
    · have HE0 := Lib.hid (HE.out.trans h0)
      obtain ⟨hA, h4096⟩ := filE_ok h0
      have HFE := Lib.hid h0
      have HKA := Lib.hid (allN_filter (keepP (c.rule 4)) hA)
      have hK4 : (P.filter (keepP (c.rule 4))).length ≤ 4096 := Nat.le_trans (List.length_filter_le _ _) h4096
      rw [← HKD.out] at Q4 HKA hK4
      have HSN := Lib.hid (fun gs => mxRows_snd c.op.length gs (pairM (prK c P)))
      clear h0 hA h4096 HKD HE
      have QP := Lib.hid (fun w1 ob cb h => pairs_any c.op.length (prK c P) ob cb w1 h HKA.out hn12 hK4)
      generalize hK : prK c P = K at *
      have HKK := Lib.hid hK
      clear hK
      have hn63 : c.op.length < 9223372036854775808 := by omega
      go_wp2_with (first
          | go_big_skip
          | ((with_reducible refine at_load 24 ?_); refine wpList_load_g ?_ 24 (.tmp 2) ?_ B _ _ _ _ ?_ X4.out Tryz.underlying24 ?_ size_contest ?_; rfl; rfl; rfl; rfl)
          | (go_at_call 29; refine (Q4.out).mono ?_; rintro e w5 ⟨b5, h5⟩; rw [if_pos HFE.out] at h5; obtain ⟨oo, co, hp5, rfl⟩ := h5; dsimp only; have B5 := Lib.hid (B4.out.trans (b5.mono (Nat.le_of_lt hB4))); have P5 := Lib.hid hp5; have k1 : w5.cell? ⟨B, 1, none⟩ = some (.slice oa c.op.length cap) := cell_of_row _ _ _ _ _ _ (bel_keep b5 hB4 X4.out); have h5s := b5.size; clear b5 hp5)
          | (go_at_call 53; refine (QP.out w5 oo co P5.out).mono ?_; rintro e w6 ⟨F, gs, rfl, hm6, hb6⟩; dsimp only; have M6 := Lib.hid hm6; have B6 := Lib.hid (B5.out.trans (hb6.mono (Nat.le_trans (Nat.le_of_lt hB4) h5s))); clear hm6 hb6))
      go_ret2
      exact PairsGot.ok HE0.out (by rw [HB.out]; exact B6.out) (length_mxRows _ gs (pairM K)) (M6.out.rows hn63) (by rw [HSN.out, HKK.out])
    · have hx0 := h0
      have HD := Lib.hid (show (filE c.op.length P != 0) = true by rw [bne_iff_ne]; exact h0)
      have hd := HD.out
      have H0 := Lib.hid h0
      clear h0 hx0 HKD
      go_wp2_with (first
          | go_big_skip
          | ((with_reducible refine at_load 24 ?_); refine wpList_load_g ?_ 24 (.tmp 2) ?_ B _ _ _ _ ?_ X4.out Tryz.underlying24 ?_ size_contest ?_; rfl; rfl; rfl; rfl)
          | (go_at_call 29; refine (Q4.out).mono ?_; rintro e w5 ⟨b5, h5⟩; rw [if_neg H0.out] at h5; subst h5; dsimp only; have B5 := Lib.hid (B4.out.trans (b5.mono (Nat.le_of_lt hB4))); clear b5))
      go_ret2
      exact PairsGot.bad HE.out H0.out (by rw [HB.out]; exact B5.out)
end Go.Proofs.YtnohcdpnnhmpfaaGreatDoor
