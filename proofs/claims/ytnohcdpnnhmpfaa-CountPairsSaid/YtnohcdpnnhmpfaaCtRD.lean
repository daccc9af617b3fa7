/-
  Chapter 13: CountPairs walked. Printed by tools/genpl.py.
-/
import Derived.Test.YtnohcdpnnhmpfaaCtRC
namespace Go.Proofs.Ytnohcdpnnhmpfaa
set_option linter.unusedVariables false
set_option linter.unusedSimpArgs false
open Go.RowKit ML FM AU CT

set_option maxHeartbeats 2000000 in
set_option maxRecDepth 100000 in
theorem sameLists_any (P Q : List (Value × List Int)) (oa ob : Option Addr) (ca cb : Nat) (w : World) (hP : PsAt w oa P) (hQ : PsAt w ob Q) (hpq : Q.map Prod.snd = P.map Prod.snd) (hl : P.length < 9223372036854775808) :
    Calls Try.prog 12 #[.slice oa P.length ca, .slice ob Q.length cb] w fun e w' => e = .returned (.bool true) ∧ Below w.heap.size w w' := by
  have hql : Q.length = P.length := by have := congrArg List.length hpq; simpa using this
  have HEQ := Lib.hid (show ∀ i (h1 : i < P.length) (h2 : i < Q.length), Q[i].2 = P[i].2 from fun i h1 h2 => by
    have := congrArg (fun l => l[i]?) hpq
    simpa [h1, h2] using this)
  have HP := Lib.hid hP
  have HQ := Lib.hid hQ
  have HQL := Lib.hid hql
  rw [hql]
  clear hP hQ hpq hql
  obtain ⟨B, hB⟩ : ∃ B, B = w.heap.size := ⟨_, rfl⟩
  have HB := Lib.hid hB
  clear hB
  go_enter Try.func12, Try.ntmps12
  go_wp2_with fail
  go_loopw [13] (fun i wr => ∃ k : Nat, i = .int .i64 k ∧ k ≤ P.length ∧ Below B w wr) (fun i _ => P.length - (intOf i).toNat)
  case atStart => exact ⟨0, rfl, Nat.zero_le _, by rw [HB.out]; exact Below.refl _ _⟩
  case round =>
  obtain ⟨k, rfl, hk, hb⟩ := hrel
  have BB := Lib.hid hb
  have hBw : B ≤ wr.heap.size := by have := hb.size; have := HB.out; omega
  clear hb
  by_cases hlt : k < P.length
  · have dk : decide ((k : Int) < (P.length : Int)) = true := decide_eq_true (by omega)
    have dk2 : decide (k < P.length) = true := decide_eq_true hlt
    have dki : (k : Int) < (P.length : Int) := by omega
    have hltQ : k < Q.length := by rw [HQL.out]; exact hlt
    have HPr := Lib.hid (HP.out.below (HB.out ▸ BB.out))
    have HQr := Lib.hid (HQ.out.below (HB.out ▸ BB.out))
    obtain ⟨q, hoa, hqb, hqc⟩ := HPr.out.cells k hlt
    obtain ⟨r, hob, hrb, hrc⟩ := HQr.out.cells k hltQ
    obtain ⟨o1, c1, hp1, hp2, hp3⟩ := HPr.out.rows P[k] (List.getElem_mem hlt)
    obtain ⟨o2, c2, hq1, hq2, hq3⟩ := HQr.out.rows Q[k] (List.getElem_mem hltQ)
    rw [hp1] at hqc
    rw [hq1] at hrc
    rw [HEQ.out k hlt hltQ] at hq2 hrc
    subst hoa hob
    have QS := Lib.hid (fun m => sameInts_any o1 o2 P[k].2 c1 c2 (wr.drewN m) (hp2.below (bel_drewN (Below.refl _ _) m)) (hq2.below (bel_drewN (Below.refl _ _) m)) hp3)
    clear hp1 hp2 hp3 hq1 hq2 hq3
    generalize P[k].2 = L at *
    go_upto_region 6 with (fail)
    refine Seg.wp_region_segs (fun w' => ∃ m, w' = wr.drewN m) [] [0, 1, 2, 3, 4, 5, 6, 7] 8 (by kernel_rfl) (by kernel_rfl) (fun _ _ d _ _ h => by cases d <;> exact h) (⟨1, rfl⟩) ?_
    simp only [List.map_cons, List.map_nil, Seg.opAt, List.drop_succ_cons, List.drop_zero, Seg.wpSegs, Array.getD_eq_getD_getElem?, List.getElem?_toArray, List.getElem?_cons_succ, List.getElem?_cons_zero, Option.getD_some]
    repeat (any_goals (first | go_big_quiet_step (fail) | quiet_step (fail)))
    refine wpQuiet_nil ?_
    go_wp2_with (go_at_call 7; refine (QS.out _).mono ?_; rintro e w5 ⟨rfl, b5⟩; dsimp only; have B5 := Lib.hid b5; clear b5)
    go_roundw
    case rel => exact ⟨k + 1, by go_num, by omega, (bel_drewN BB.out _).trans (B5.out.mono hBw)⟩
    case measure => simp [intOf]; omega
  · have dk : decide ((k : Int) < (P.length : Int)) = false := decide_eq_false (by omega)
    have dk2 : decide (k < P.length) = false := decide_eq_false hlt
    go_wp2_with fail
    go_ret
    exact ⟨rfl, by rw [← HB.out]; exact BB.out⟩
/-! ### the answers, one as the other -/
def prR (c : CTest) (P : List (Value × List Int)) : List (List Int) := if prE c P = 0 then (List.range c.op.length).map (rowI c.op.length (pairM (prK c P))) else []
def IsPath (P : List (Value × List Int)) (R : List (List Int)) : Prop := if wrE P = 0 then ∃ W, Strong (edge (mxP P)) P.length W ∧ R = (List.range P.length).map (rowI P.length W) else R = []
theorem IsPath.one {P : List (Value × List Int)} {R R' : List (List Int)} (h : IsPath P R) (h' : IsPath P R') : R = R' := by
  unfold IsPath at h h'
  by_cases h0 : wrE P = 0
  · rw [if_pos h0] at h h'
    obtain ⟨W, hs, rfl⟩ := h
    obtain ⟨W', hs', rfl⟩ := h'
    apply List.map_congr_left
    intro i hi
    unfold rowI
    apply List.map_congr_left
    intro j hj
    exact hs.unique hs' i j (List.mem_range.1 hi) (List.mem_range.1 hj)
  · rw [if_neg h0] at h h'
    rw [h, h']
def IsSmith (P : List (Value × List Int)) (L : List Int) : Prop := if wrE P = 0 then ∃ S, S.Pairwise (· < ·) ∧ Smallest (mxP P) P.length S ∧ L = natI S else L = []
theorem IsSmith.one {P : List (Value × List Int)} {R R' : List Int} (h : IsSmith P R) (h' : IsSmith P R') : R = R' := by
  unfold IsSmith at h h'
  by_cases h0 : wrE P = 0
  · rw [if_pos h0] at h h'
    obtain ⟨S, h1, h2, rfl⟩ := h
    obtain ⟨S', h1', h2', rfl⟩ := h'
    rw [perm_srt (h2.perm h2') h1 h1']
  · rw [if_neg h0] at h h'
    rw [h, h']
theorem psAt_nil (w : World) : PsAt w none [] := ⟨fun i hi => by simp at hi, fun p hp => by simp at hp⟩
def RowsForm (R : List (List Int) → Prop) (E : Int) (w : World) (e : Ending) (w' : World) : Prop := ∃ oo co Q, e = .returned (.tuple #[.slice oo (List.length (α := Value × List Int) Q) co, .int .i64 E]) ∧ PsAt w' oo Q ∧ R (Q.map Prod.snd) ∧ Below w.heap.size w w' ∧ Q.length < 9223372036854775808
theorem PairsGot.form {c : CTest} {P : List (Value × List Int)} {w w' : World} {e : Ending} (h : PairsGot c P w e w') (hn : c.op.length < 9223372036854775808) : RowsForm (· = prR c P) (prE c P) w e w' := by
  unfold PairsGot at h
  unfold RowsForm prR
  by_cases h0 : prE c P = 0
  · rw [if_pos h0] at h
    obtain ⟨hb, oo, co, Q, rfl, hp, hq⟩ := h
    refine ⟨oo, co, Q, by rw [h0], hp, by rw [if_pos h0]; exact hq, hb, ?_⟩
    have := congrArg List.length hq
    simp at this
    omega
  · rw [if_neg h0] at h
    exact ⟨none, 0, [], h.2, psAt_nil _, by rw [if_neg h0]; rfl, h.1, by decide⟩
theorem PathsGot.form {P : List (Value × List Int)} {w w' : World} {e : Ending} (h : PathsGot P w e w') : RowsForm (IsPath P) (wrE P) w e w' := by
  unfold PathsGot at h
  unfold RowsForm IsPath
  by_cases h0 : wrE P = 0
  · rw [if_pos h0] at h
    obtain ⟨hb, F, gs, W, rfl, hm, hs⟩ := h
    have hn := (wrE_ok h0).2.1
    refine ⟨_, _, mxRows P.length gs W, by rw [h0, length_mxRows], hm.rows (by omega), by rw [if_pos h0]; exact ⟨W, hs, mxRows_snd _ _ _⟩, hb, by rw [length_mxRows]; omega⟩
  · rw [if_neg h0] at h
    exact ⟨none, 0, [], h.2, psAt_nil _, by rw [if_neg h0]; rfl, h.1, by decide⟩
def SmithForm (P : List (Value × List Int)) (w : World) (e : Ending) (w' : World) : Prop := ∃ oo co L, e = .returned (.tuple #[.slice oo (List.length (α := Int) L) co, .int .i64 (wrE P)]) ∧ IsAt w' oo L ∧ IsSmith P L ∧ Below w.heap.size w w' ∧ L.length < 9223372036854775808
theorem SmithGot.form {P : List (Value × List Int)} {w w' : World} {e : Ending} (h : SmithGot P w e w') : SmithForm P w e w' := by
  unfold SmithGot at h
  unfold SmithForm IsSmith
  by_cases h0 : wrE P = 0
  · rw [if_pos h0] at h
    obtain ⟨hb, oo, co, S, rfl, hi, hs, hm⟩ := h
    have hn := (wrE_ok h0).2.1
    have hl := (subset_len (B := List.range P.length) hm.nd (fun x hx => List.mem_range.2 (hm.dom.1 x hx))).1
    rw [List.length_range] at hl
    exact ⟨oo, co, natI S, by rw [h0], hi, by rw [if_pos h0]; exact ⟨S, hs, hm, rfl⟩, hb, by rw [length_natI]; omega⟩
  · rw [if_neg h0] at h
    exact ⟨none, 0, [], h.2, ⟨fun i hi => by simp at hi⟩, by rw [if_neg h0], h.1, by decide⟩
set_option maxHeartbeats 4000000 in
set_option maxRecDepth 100000 in
theorem countPairs_any (c : CTest) (P K : List (Value × List Int)) (oa : Option Addr) (cap : Nat) (ob : Option Addr) (cb : Nat) (ok : Option Addr) (ck : Nat) (w : World) (hs : StrsAt w oa c.op) (hP : PsAt w ob P) (hK : PsAt w ok K) (hf : c.Fits []) (hnl : c.op.length < 9223372036854775807) (hkl : K.length < 9223372036854775808) :
    Calls Try.prog 4 #[.agg (c.cells oa cap).toArray, .slice ob P.length cb, .slice ok K.length ck] w fun e w' => e = .returned (.bool true) ∧ Below w.heap.size w w' := by
  have hC : (c.cells oa cap).toArray = #[.string ⟨c.nm.toArray⟩, .slice oa c.op.length cap, .int .i64 c.rl, .int .i64 c.se, .int .i64 c.mo] := rfl
  rw [hC]
  have Q1 := Lib.hid (fun w h1 h2 => (cPairs_any c P oa cap ob cb w h1 h2 hf hnl).mono fun _ _ h => h.form (by omega))
  have Q2 := Lib.hid (fun w h2 => (refPairs_any c P oa cap ob cb w h2 hnl).mono fun _ _ h => h.form (by omega))
  have Q3 := Lib.hid (fun w h2 => (cPaths_any K ok ck w h2 hkl).mono fun _ _ h => h.form)
  have Q4 := Lib.hid (fun w h2 => (refPaths_any K ok ck w h2 hkl).mono fun _ _ h => h.form)
  have Q5 := Lib.hid (fun w h2 => (smith_any K ok ck w h2 hkl).mono fun _ _ h => h.form)
  have Q6 := Lib.hid (fun w h2 => (refSmith_any K ok ck w h2 hkl).mono fun _ _ h => h.form)
  have QL := Lib.hid (fun P Q oa ob ca cb w h1 h2 h3 h4 => sameLists_any P Q oa ob ca cb w h1 h2 h3 h4)
  have QI := Lib.hid (fun oa ob L ca cb w h1 h2 h3 => sameInts_any oa ob L ca cb w h1 h2 h3)
  have HS := Lib.hid hs
  have HP := Lib.hid hP
  have HK := Lib.hid hK
  clear hs hP hK hf hC
  generalize prE c P = E at *
  unfold SmithForm at Q5 Q6
  generalize wrE K = V at *
  have e1 : (E != E) = false := bne_self_eq_false E
  have e2 : (V != V) = false := bne_self_eq_false V
  have e3 : (V == V) = true := beq_self_eq_true V
  go_enter Try.func4, Try.ntmps4
  go_upto_region 1 with (fail)
  generalize hB : w.heap.size = B at *
  refine wp_abs (fun w1 => Below B w w1 ∧ w1.heap[B]? = some (.cells #[.string ⟨c.nm.toArray⟩, .slice oa c.op.length cap, .int .i64 c.rl, .int .i64 c.se, .int .i64 c.mo] 24 (0, 0))) ⟨by rw [← hB]; exact (Below.refl _ _).alloc (Nat.le_refl _) _, by rw [← hB]; exact heap_at rfl⟩ (fun w1 hw1 => ?_)
  have HB := Lib.hid hB
  have B1 := Lib.hid hw1.1
  have X1 := Lib.hid hw1.2
  have hB1 : B < w1.heap.size := lt_of_heap hw1.2
  clear hB hw1
  go_upto_region 2 with (first
      | go_big_skip
      | ((with_reducible refine at_load 24 ?_); refine wpList_load_g ?_ 24 (.tmp 3) ?_ B _ _ _ _ ?_ X1.out Try.underlying24 ?_ size_contest ?_; rfl; rfl; rfl; rfl)
      | (go_at_call 10; refine (Q1.out w1 (HS.out.below (HB.out.symm ▸ B1.out)) (HP.out.below (HB.out.symm ▸ B1.out))).mono ?_; rintro e w2 ⟨o1, c1, A1, rfl, hp1, hr1, b2, hl1⟩; dsimp only))
  have P1 := Lib.hid hp1
  have R1 := Lib.hid hr1
  have B2 := Lib.hid (B1.out.trans (b2.mono (Nat.le_of_lt hB1)))
  have X2 := Lib.hid (bel_keep b2 hB1 X1.out)
  have hB2 : B < w2.heap.size := lt_of_heap X2.out
  clear hp1 hr1 b2 B1 X1 hB1 Q1
  go_upto_region 3 with (first
      | go_big_skip
      | ((with_reducible refine at_load 24 ?_); refine wpList_load_g ?_ 24 (.tmp 3) ?_ B _ _ _ _ ?_ X2.out Try.underlying24 ?_ size_contest ?_; rfl; rfl; rfl; rfl)
      | (go_at_call 11; refine (Q2.out w2 (HP.out.below (HB.out.symm ▸ B2.out))).mono ?_; rintro e w3 ⟨o2, c2, A2, rfl, hp2, hr2, b3, hl2⟩; dsimp only))
  have QS1 := Lib.hid (QL.out A1 A2 o1 o2 c1 c2 w3 (P1.out.below b3) hp2 (hr2.trans R1.out.symm) hl1)
  have B3 := Lib.hid (B2.out.trans (b3.mono (Nat.le_of_lt hB2)))
  have hB3 : B ≤ w3.heap.size := Nat.le_trans (Nat.le_of_lt hB2) b3.size
  clear hp2 hr2 b3 B2 X2 hB2 Q2 P1 R1
  go_upto_region 5 with (first
      | go_big_skip
      | (go_at_call 12; refine (QS1.out).mono ?_; rintro e w4 ⟨rfl, b4⟩; dsimp only))
  have B4 := Lib.hid (B3.out.trans (b4.mono hB3))
  have hB4 : B ≤ w4.heap.size := Nat.le_trans hB3 b4.size
  clear b4 B3 hB3 QS1
  go_upto_region 6 with (first
      | go_big_skip
      | (go_at_call 13; refine (Q3.out w4 (HK.out.below (HB.out.symm ▸ B4.out))).mono ?_; rintro e w5 ⟨o3, c3, A3, rfl, hp3, hr3, b5, hl3⟩; dsimp only))
  have P3 := Lib.hid hp3
  have R3 := Lib.hid hr3
  have B5 := Lib.hid (B4.out.trans (b5.mono hB4))
  have hB5 : B ≤ w5.heap.size := Nat.le_trans hB4 b5.size
  clear hp3 hr3 b5 B4 hB4 Q3
  go_upto_region 7 with (first
      | go_big_skip
      | (go_at_call 14; refine (Q4.out w5 (HK.out.below (HB.out.symm ▸ B5.out))).mono ?_; rintro e w6 ⟨o4, c4, A4, rfl, hp4, hr4, b6, hl4⟩; dsimp only))
  have QS2 := Lib.hid (QL.out A3 A4 o3 o4 c3 c4 w6 (P3.out.below b6) hp4 (hr4.one R3.out) hl3)
  have B6 := Lib.hid (B5.out.trans (b6.mono hB5))
  have hB6 : B ≤ w6.heap.size := Nat.le_trans hB5 b6.size
  clear hp4 hr4 b6 B5 hB5 Q4 P3 R3
  go_upto_region 9 with (first
      | go_big_skip
      | (go_at_call 12; refine (QS2.out).mono ?_; rintro e w7 ⟨rfl, b7⟩; dsimp only))
  have B7 := Lib.hid (B6.out.trans (b7.mono hB6))
  have hB7 : B ≤ w7.heap.size := Nat.le_trans hB6 b7.size
  clear b7 B6 hB6 QS2
  go_upto_region 10 with (first
      | go_big_skip
      | (go_at_call 15; refine (Q5.out w7 (HK.out.below (HB.out.symm ▸ B7.out))).mono ?_; rintro e w8 ⟨o5, c5, L5, rfl, hp5, hr5, b8, hl5⟩; dsimp only))
  have P5 := Lib.hid hp5
  have R5 := Lib.hid hr5
  have B8 := Lib.hid (B7.out.trans (b8.mono hB7))
  have hB8 : B ≤ w8.heap.size := Nat.le_trans hB7 b8.size
  clear hp5 hr5 b8 B7 hB7 Q5
  go_upto_region 11 with (first
      | go_big_skip
      | (go_at_call 16; refine (Q6.out w8 (HK.out.below (HB.out.symm ▸ B8.out))).mono ?_; rintro e w9 ⟨o6, c6, L6, rfl, hp6, hr6, b9, hl6⟩; dsimp only))
  obtain rfl := R5.out.one hr6
  have QS3 := Lib.hid (QI.out o5 o6 L5 c5 c6 w9 (P5.out.below b9) hp6 hl5)
  have B9 := Lib.hid (B8.out.trans (b9.mono hB8))
  have hB9 : B ≤ w9.heap.size := Nat.le_trans hB8 b9.size
  clear hp6 hr6 b9 B8 hB8 Q6 P5 R5
  go_wp2_with (first
      | go_big_skip
      | (go_at_call 7; refine (QS3.out).mono ?_; rintro e w10 ⟨rfl, b10⟩; dsimp only))
  go_ret
  exact ⟨rfl, by rw [HB.out]; exact B9.out.trans (b10.mono hB9)⟩
end Go.Proofs.Ytnohcdpnnhmpfaa
