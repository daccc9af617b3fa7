/-
  Chapter 13, for Pairs: slices.Concat, count.wrong, Paths, Pairs. Printed by tools/genwrong2.py.
-/
import Derived.Test.YtnohcdpnnhmpfaaGreatDoorCtN
import Derived.Test.YtnohcdpnnhmpfaaGreatDoorCtX
namespace Go.Proofs.YtnohcdpnnhmpfaaGreatDoor
set_option linter.unusedVariables false
set_option linter.unusedSimpArgs false
open Go.RowKit ML FM AU CT

/-- all numbers of rows -/
def flatP (P : List (Value × List Int)) : List Int := P.flatMap Prod.snd
theorem flatP_snoc (P : List (Value × List Int)) (p : Value × List Int) : flatP (P ++ [p]) = flatP P ++ p.2 := by simp [flatP]
theorem length_flatP {n : Nat} {P : List (Value × List Int)} (h : allN n P) : (flatP P).length = P.length * n := by
  induction P with
  | nil => simp [flatP]
  | cons p r ih =>
    have := ih (fun x hx => h x (by simp [hx]))
    have h1 := h p (by simp)
    unfold flatP at this ⊢
    rw [List.flatMap_cons, List.length_append, this, h1, List.length_cons, Nat.succ_mul]; omega
def ConcGot (P : List (Value × List Int)) (w : World) (e : Ending) (w' : World) : Prop := ∃ oa cap, e = .returned (.slice oa (flatP P).length cap) ∧ IsAt w' oa (flatP P) ∧ Below w.heap.size w w'
set_option maxHeartbeats 4000000 in
set_option maxRecDepth 100000 in
theorem concat_any (P : List (Value × List Int)) (ob : Option Addr) (cb n : Nat) (w : World) (hP : PsAt w ob P) (hA : allN n P) (hn : n ≤ 12) (hn0 : 0 < n) (hp : P.length ≤ 12) (hp0 : 0 < P.length) :
    Calls Tryz.prog 108 #[.slice ob P.length cb] w (ConcGot P w) := by
  have HP := Lib.hid hP
  have HA := Lib.hid hA
  have QG := Lib.hid (fun n w h0 hn => growNil_any n w h0 hn)
  obtain ⟨i0, hi, hz0, hz1, hz2⟩ := info_parts info_int1
  have HI := Lib.hid hi
  have HZ0 := Lib.hid hz0
  have HZ1 := Lib.hid hz1
  have HZ2 := Lib.hid hz2
  clear hi hz0 hz1 hz2 hP hA
  obtain ⟨B, hB⟩ : ∃ B, B = w.heap.size := ⟨_, rfl⟩
  have HB := Lib.hid hB
  clear hB
  go_enter Tryz.func108, Tryz.ntmps108
  go_wp2_with fail
  go_loop [11, 3] (fun i v => ∃ k s : Nat, k ≤ P.length ∧ i = .int .i64 k ∧ v = .int .i64 s ∧ s = k * n ∧ s ≤ 144) (fun i _ => P.length - (intOf i).toNat)
  case atStart => exact ⟨0, 0, Nat.zero_le _, rfl, rfl, by simp, by omega⟩
  case round =>
  obtain ⟨k, s, hk, rfl, rfl, hs, hs144⟩ := hrel
  have HS := Lib.hid hs
  clear hs
  by_cases hlt : k < P.length
  · have dk : decide ((k : Int) < (P.length : Int)) = true := decide_eq_true (by omega)
    have dk2 : decide (k < P.length) = true := decide_eq_true hlt
    have hki : (k : Int) < (P.length : Int) := by omega
    obtain ⟨q, hoa, hqb, hqc⟩ := HP.out.cells k hlt
    obtain ⟨or, cr, hp1, hp2, hp3⟩ := HP.out.rows P[k] (List.getElem_mem hlt)
    have hpn := HA.out P[k] (List.getElem_mem hlt)
    rw [hp1, hpn] at hqc
    subst hoa
    have hs2 : s + n ≤ 144 := by
      rw [HS.out, ← Nat.succ_mul]
      exact Nat.mul_le_mul (Nat.le_trans hlt hp) hn
    have HS2 := Lib.hid (show s + n = (k + 1) * n by rw [HS.out, Nat.succ_mul])
    clear hp1 hp2 hp3 hpn
    have d0 : decide ((s : Int) + (n : Int) < 0) = false := decide_eq_false (by omega)
    go_wp2_with fail
    go_round
    case rel => exact ⟨k + 1, s + n, by omega, by go_num, by go_num, HS2.out, hs2⟩
    case measure => simp [intOf]; omega
  · have dk : decide ((k : Int) < (P.length : Int)) = false := decide_eq_false (by omega)
    have dk2 : decide (k < P.length) = false := decide_eq_false hlt
    obtain rfl : k = P.length := by omega
    have hs0 : 0 < s := by rw [HS.out]; exact Nat.mul_pos hp0 hn0
    clear HS
    go_upto_region 10 with (go_at_call 150; refine (QG.out s w hs0 (by omega)).mono ?_; rintro e w1 ⟨v, rfl, hv1, hb1⟩; dsimp only)
    have O1 := Lib.hid (show w1.ownsRow B 3 1 v 0 [] by rw [HB.out]; exact hv1)
    have B1 := Lib.hid (show Below B w w1 by rw [HB.out]; exact hb1)
    clear hv1 hb1
    go_wp2_with fail
    go_loopw [27, 6] (fun i v wr => ∃ (k : Nat) (vo : Value), k ≤ P.length ∧ i = .int .i64 k ∧ vo = v ∧ Below B w wr ∧ wr.ownsRow B 3 1 vo (flatP (P.take k)).length (ivals (flatP (P.take k)))) (fun i _ _ => P.length - (intOf i).toNat)
    case atStart => exact ⟨0, _, Nat.zero_le _, rfl, rfl, B1.out, O1.out⟩
    case round =>
    clear O1 B1
    obtain ⟨k, vo, hk, rfl, rfl, hb, ho⟩ := hrel
    have B2 := Lib.hid hb
    have O2 := Lib.hid ho
    have HP2 := Lib.hid (HP.out.below (HB.out ▸ hb))
    clear hb ho
    by_cases hlt : k < P.length
    · have dk : decide ((k : Int) < (P.length : Int)) = true := decide_eq_true (by omega)
      have dk2 : decide (k < P.length) = true := decide_eq_true hlt
      have hki : (k : Int) < (P.length : Int) := by omega
      obtain ⟨q, hoa, hqb, hqc⟩ := HP2.out.cells k hlt
      obtain ⟨or, cr, hp1, hp2, hp3⟩ := HP2.out.rows P[k] (List.getElem_mem hlt)
      have hpn := HA.out P[k] (List.getElem_mem hlt)
      have hfl := length_flatP (n := n) (P := P.take k) (fun x hx => HA.out x (List.mem_of_mem_take hx))
      have hfl5 : (P.take k).length ≤ 12 := by rw [List.length_take]; omega
      have hfl2 : (flatP (P.take k)).length ≤ 144 := by rw [hfl]; exact Nat.le_trans (Nat.mul_le_mul hfl5 hn) (by decide)
      have HFS := Lib.hid (show flatP (P.take (k + 1)) = flatP (P.take k) ++ P[k].2 by rw [List.take_succ_eq_append_getElem hlt, flatP_snoc])
      rw [hp1] at hqc
      clear hfl
      subst hoa
      generalize flatP (P.take k) = A at *
      generalize P[k].2 = L at *
      have hL0 : 0 < L.length := by omega
      have hL12 : L.length ≤ 12 := by omega
      clear hpn
      obtain ⟨ra, rfl, hrb, _⟩ := hp2.cells 0 hL0
      have HIS := Lib.hid hp2
      have hBs := B2.out.size
      have hBw : B ≤ wr.heap.size := by have := HB.out; omega
      have HNW := Lib.hid (show ∀ j u, (ivals L)[j]? = some u → wr.cell? (ra.add j) = some u from fun j u hu => by
        have hj : j < L.length := by have := (List.getElem?_eq_some_iff.1 hu).1; simpa [ivals] using this
        obtain ⟨a, ha, _, hc⟩ := HIS.out.cells j hj
        obtain rfl : ra = a := by injection ha
        rw [hc, ← hu]
        simp [ivals, hj])
      clear hp1 hp2 hp3
      go_wp2_with (at_builtin; go_loud (refine wpList_append_lies _ rfl (.tmp 31) (.tmp 32) 29 rfl B 3 i0 (.int .i64 0) 1 8 Tryz.underlying29 HI.out HZ0.out HZ1.out HZ2.out rfl (by decide) vo A.length (ivals A) rfl O2.out ra L.length cr (ivals L) rfl (by simp [ivals]) HNW.out (ivals_one L) (by omega) (by unfold maxLen; omega) (by omega) hBw _ rfl (fun g cp w7 own7 hg7 hf7 hlt7 => ?_)))
      have hne7 : ∀ j, vo.ownBlock = some j → B ≤ j := fun j hj => (O2.out.lt j hj).1
      have B7 := Lib.hid (B2.out.grown hg7 hBw (fun j hj => hne7 j hj))
      have O7 := Lib.hid own7
      clear own7 hg7 hf7 hlt7
      go_wp2_with fail
      go_roundw
      case rel => exact ⟨k + 1, _, by omega, by go_num, rfl, B7.out, by rw [HFS.out, List.length_append, ← ivals_append]; exact O7.out⟩
      case measure => simp [intOf]; omega
    · have dk : decide ((k : Int) < (P.length : Int)) = false := decide_eq_false (by omega)
      have dk2 : decide (k < P.length) = false := decide_eq_false hlt
      obtain rfl : k = P.length := by omega
      rw [List.take_length] at O2
      obtain ⟨oa, cap, rfl, hc, hI⟩ := isAt_own O2.out
      have HI2 := Lib.hid hI
      clear hI
      go_wp2_with fail
      go_ret
      exact ⟨oa, cap, rfl, HI2.out, by rw [← HB.out]; exact B2.out⟩
/-- what is wrong with pairs -/
def wrE (P : List (Value × List Int)) : Int := if P.length < 1 ∨ 12 < P.length ∨ ¬ allN P.length P then 2 else if (flatP P).any badI = true then 4 else 0
theorem any_badR (n : Nat) (P : List (Value × List Int)) : P.any (badR n) = !decide (allN n P) := by
  rw [Bool.eq_iff_iff, List.any_eq_true, Bool.not_eq_true', decide_eq_false_iff_not]
  unfold allN badR
  constructor
  · rintro ⟨x, hx, h⟩ h2
    rw [h2 x hx] at h
    simp at h
  · intro h
    refine Classical.byContradiction fun hn => h fun p hp => Classical.byContradiction fun hne => hn ⟨p, hp, by rw [bne_iff_ne]; exact hne⟩
set_option maxHeartbeats 4000000 in
set_option maxRecDepth 100000 in
theorem wrong_any (P : List (Value × List Int)) (ob : Option Addr) (cb : Nat) (w : World) (hP : PsAt w ob P) (hl : P.length < 9223372036854775808) :
    Calls Tryz.prog 62 #[.slice ob P.length cb] w fun e w' => e = .returned (.int .i64 (wrE P)) ∧ Below w.heap.size w w' := by
  have HP := Lib.hid hP
  clear hP
  have box : ∀ w1 : World, w1 = w.alloc (.cells #[.int .i64 (P.length : Int)] 3) → Below w.heap.size w w1 ∧ w1.cell? ⟨w.heap.size, 0, none⟩ = some (.int .i64 P.length) := by
    rintro w1 rfl
    exact ⟨(Below.refl _ _).alloc (Nat.le_refl _) _, cell_of_row _ _ 0 _ _ _ (heap_at rfl)⟩
  have HBX := Lib.hid (box _ rfl)
  clear box
  by_cases h1 : P.length < 1
  · have d0 : decide ((P.length : Int) < 1) = true := decide_eq_true (by omega)
    have d0' : decide (P.length < 1) = true := decide_eq_true h1
    have HE := Lib.hid (show wrE P = 2 by unfold wrE; rw [if_pos (.inl h1)])
    have HX := HBX.out
    clear h1
    go_enter Tryz.func62, Tryz.ntmps62
    go_upto_region 2 with (fail)
    generalize hB : w.heap.size = B at *
    refine wp_abs (fun w1 => Below B w w1 ∧ w1.cell? ⟨B, 0, none⟩ = some (.int .i64 P.length)) HX (fun w1 hw1 => ?_)
    have HB := Lib.hid hB
    have B1 := Lib.hid hw1.1
    have k1 := hw1.2
    clear hB hw1 HX HBX
    go_wp2_with fail
    go_ret
    exact ⟨by rw [HE.out]; rfl, by rw [HB.out]; exact B1.out⟩
  · by_cases h2 : 12 < P.length
    · have d0 : decide ((P.length : Int) < 1) = false := decide_eq_false (by omega)
      have d0' : decide (P.length < 1) = false := decide_eq_false h1
      have d1 : decide ((12 : Int) < (P.length : Int)) = true := decide_eq_true (by omega)
      have d1' : decide (12 < P.length) = true := decide_eq_true h2
      have HE := Lib.hid (show wrE P = 2 by unfold wrE; rw [if_pos (.inr (.inl h2))])
      have HX := HBX.out
      clear h1 h2
      go_enter Tryz.func62, Tryz.ntmps62
      go_upto_region 2 with (fail)
      generalize hB : w.heap.size = B at *
      refine wp_abs (fun w1 => Below B w w1 ∧ w1.cell? ⟨B, 0, none⟩ = some (.int .i64 P.length)) HX (fun w1 hw1 => ?_)
      have HB := Lib.hid hB
      have B1 := Lib.hid hw1.1
      have k1 := hw1.2
      clear hB hw1 HX HBX
      go_wp2_with fail
      go_ret
      exact ⟨by rw [HE.out]; rfl, by rw [HB.out]; exact B1.out⟩
    · have d0 : decide ((P.length : Int) < 1) = false := decide_eq_false (by omega)
      have d0' : decide (P.length < 1) = false := decide_eq_false h1
      have d1 : decide ((12 : Int) < (P.length : Int)) = false := decide_eq_false (by omega)
      have d1' : decide (12 < P.length) = false := decide_eq_false h2
      have hp12 : P.length ≤ 12 := by omega
      have hp0 : 0 < P.length := by omega
      have HX := HBX.out
      have QR := Lib.hid (fun w1 h hD => containsBadR_any ob P cb P.length w.heap.size w1 h hD hl)
      have HAR := Lib.hid (any_badR P.length P)
      have HAN := Lib.hid (show ¬ (P.length < 1 ∨ 12 < P.length ∨ ¬ allN P.length P) ↔ allN P.length P from ⟨fun h => Classical.byContradiction fun h3 => h (.inr (.inr h3)), fun h h4 => h4.elim h1 (fun h5 => h5.elim h2 (fun h6 => h6 h))⟩)
      clear h1 h2
      by_cases h3 : allN P.length P
      · have HA := Lib.hid h3
        rw [HAR.out, decide_eq_true h3] at QR
        have HE := Lib.hid (show wrE P = if (flatP P).any badI = true then 4 else 0 by unfold wrE; rw [if_neg (HAN.out.2 h3)])
        have hfl := length_flatP h3
        have hfl2 : (flatP P).length < 9223372036854775808 := by rw [hfl]; exact Nat.lt_of_le_of_lt (Nat.mul_le_mul hp12 hp12) (by decide)
        have QC := Lib.hid (fun w1 h => concat_any P ob cb P.length w1 h h3 hp12 hp0 hp12 hp0)
        have QI := Lib.hid (fun oa cap w1 h => containsBadI_any oa (flatP P) cap w1 h hfl2)
        clear h3 hfl HAN HAR
        unfold ConcGot at QC
        generalize flatP P = L at *
        generalize L.any badI = bi at *
        go_enter Tryz.func62, Tryz.ntmps62
        go_upto_region 2 with (fail)
        generalize hB : w.heap.size = B at *
        refine wp_abs (fun w1 => Below B w w1 ∧ w1.cell? ⟨B, 0, none⟩ = some (.int .i64 P.length)) HX (fun w1 hw1 => ?_)
        have HB := Lib.hid hB
        have B1 := Lib.hid hw1.1
        have k1 := hw1.2
        have K1 := Lib.hid hw1.2
        have HP1 := Lib.hid (HP.out.below (by rw [hB]; exact hw1.1))
        clear hB hw1 HX HBX
        cases bi with
        | true =>
          go_wp2_with (first
              | go_big_skip
              | (go_at_call 106; refine (QR.out w1 HP1.out K1.out).mono ?_; rintro e w2 ⟨rfl, rfl⟩; dsimp only)
              | (go_at_call 108; refine (QC.out w1 HP1.out).mono ?_; rintro e w2 ⟨oa, cap, rfl, hI2, hb2⟩; dsimp only; have I2 := Lib.hid hI2; have B2 := Lib.hid hb2; clear hI2 hb2)
              | (go_at_call 54; refine (QI.out oa cap w2 I2.out).mono ?_; rintro e w3 ⟨rfl, rfl⟩; dsimp only))
          go_ret
          exact ⟨by rw [HE.out]; rfl, by rw [HB.out]; exact B1.out.trans (B2.out.mono (by have := B1.out.size; have := HB.out; omega))⟩
        | false =>
          go_wp2_with (first
              | go_big_skip
              | (go_at_call 106; refine (QR.out w1 HP1.out K1.out).mono ?_; rintro e w2 ⟨rfl, rfl⟩; dsimp only)
              | (go_at_call 108; refine (QC.out w1 HP1.out).mono ?_; rintro e w2 ⟨oa, cap, rfl, hI2, hb2⟩; dsimp only; have I2 := Lib.hid hI2; have B2 := Lib.hid hb2; clear hI2 hb2)
              | (go_at_call 54; refine (QI.out oa cap w2 I2.out).mono ?_; rintro e w3 ⟨rfl, rfl⟩; dsimp only))
          go_ret
          exact ⟨by rw [HE.out]; rfl, by rw [HB.out]; exact B1.out.trans (B2.out.mono (by have := B1.out.size; have := HB.out; omega))⟩
      · rw [HAR.out, decide_eq_false h3] at QR
        have HE := Lib.hid (show wrE P = 2 by unfold wrE; rw [if_pos (.inr (.inr h3))])
        clear h3 HAN HAR
        go_enter Tryz.func62, Tryz.ntmps62
        go_upto_region 2 with (fail)
        generalize hB : w.heap.size = B at *
        refine wp_abs (fun w1 => Below B w w1 ∧ w1.cell? ⟨B, 0, none⟩ = some (.int .i64 P.length)) HX (fun w1 hw1 => ?_)
        have HB := Lib.hid hB
        have B1 := Lib.hid hw1.1
        have k1 := hw1.2
        have K1 := Lib.hid hw1.2
        have HP1 := Lib.hid (HP.out.below (by rw [hB]; exact hw1.1))
        clear hB hw1 HX HBX
        go_wp2_with (first
            | go_big_skip
            | (go_at_call 106; refine (QR.out w1 HP1.out K1.out).mono ?_; rintro e w2 ⟨rfl, rfl⟩; dsimp only))
        go_ret
        exact ⟨by rw [HE.out]; rfl, by rw [HB.out]; exact B1.out⟩
end Go.Proofs.YtnohcdpnnhmpfaaGreatDoor
