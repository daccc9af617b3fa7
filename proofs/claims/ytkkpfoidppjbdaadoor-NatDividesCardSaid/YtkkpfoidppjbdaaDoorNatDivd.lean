/-
  NatDivides: the walk.
-/
import Derived.Test.YtkkpfoidppjbdaaDoorNatReck
import Derived.Test.YtkkpfoidppjbdaaDoorNatF
import Derived.Test.YtkkpfoidppjbdaaDoorNGcd
namespace Go.Proofs.YtkkpfoidppjbdaaDoor
set_option linter.unusedVariables false
open Go.RowKit ML FM ND

set_option maxHeartbeats 4000000 in
set_option maxRecDepth 100000 in
theorem natDivides_any (A B : Bytes) (w : World) (hA : A.length < 140737488355328) (hB : B.length < 140737488355328) :
    Calls Tryd.prog 5 #[.string ⟨A.toArray⟩, .string ⟨B.toArray⟩] w fun e w' => e = .returned (.bool true) ∧ Below w.heap.size w w' := by
  have QW := Lib.hid (lawWrong_any A B w hA hB)
  have QNG := Lib.hid (fun w => natGcd_any A B w hA hB)
  have QND := Lib.hid (fun w => natDiv_any A B w hA hB)
  obtain ⟨n, hn⟩ : ∃ n, n = wrong2 A B := ⟨_, rfl⟩
  have QR : Hid (∀ F w, n = 0 → (F = A ∨ F = B) → Calls Tryd.prog 15 #[.string ⟨F.toArray⟩] w fun e w' => ∃ oc cc, e = .returned (.slice oc (dig (dv F)).length cc) ∧ IntsAt w' oc (dig (dv F)) ∧ Below w.heap.size w w' ∧ (∀ a, oc = some a → a.block < w'.heap.size)) := Lib.hid (fun F w h0 hF => by
    rw [hn] at h0
    obtain ⟨g1, g2⟩ := wrong2_good h0
    obtain ⟨g3, g4⟩ := wrongN_good g1
    obtain ⟨g5, g6⟩ := wrongN_good g2
    rcases hF with rfl | rfl
    · exact refRead_any F w (by omega) ((numB_iff F).1 g3).2.1
    · exact refRead_any F w (by omega) ((numB_iff F).1 g5).2.1)
  have HG : Hid (n = 0 → NB 4000 (dv A) ∧ NB 4000 (dv B)) := Lib.hid (fun h0 => by
    rw [hn] at h0
    obtain ⟨g1, g2⟩ := wrong2_good h0
    exact ⟨good_dv g1, good_dv g2⟩)
  rw [← hn] at QW
  have HN := Lib.hid hn
  clear hn hA hB
  go_enter Tryd.func5, Tryd.ntmps5
  go_upto_if 18 with (go_at_call 14; refine QW.out.mono ?_; rintro e w1 ⟨rfl, rfl⟩)
  go_cut [6, 7] (fun v1 v2 w' => ∃ (X Y : Nat) (oa ob : Option Addr) (ca cb : Nat), v1 = .slice oa (dig X).length ca ∧ v2 = .slice ob (dig Y).length cb ∧ IntsAt w' oa (dig X) ∧ IntsAt w' ob (dig Y) ∧ NB 4000 X ∧ NB 4000 Y ∧ (n = 0 → X = dv A ∧ Y = dv B) ∧ (n ≠ 0 → X = 0 ∧ Y = 0) ∧ Below w1.heap.size w1 w')
  case first =>
    by_cases h0 : n = 0
    · have e0 : ((n : Int) == 0) = true := by rw [beq_iff_eq]; omega
      have H0 := Lib.hid h0
      clear h0
      go_wp2_with (first
        | (go_at_call 15; refine (QR.out _ _ H0.out (by first | exact .inl rfl | exact .inr rfl)).mono ?_; rintro e w2 ⟨ob, cb, rfl, hI2, bel2, hu2⟩))
      rename_i w2a oa ca hI1 bel1 hu1
      go_meet
      exact ⟨dv A, dv B, oa, ob, ca, cb, rfl, rfl, hI1.below bel2, hI2, (HG.out H0.out).1, (HG.out H0.out).2, fun _ => ⟨rfl, rfl⟩, fun h => absurd H0.out h, bel_next bel1 bel2⟩
    · have e0 : ((n : Int) == 0) = false := by rw [beq_eq_false_iff_ne]; omega
      have H0 := Lib.hid h0
      clear h0
      go_wp2_with fail
      go_meet
      exact ⟨0, 0, none, none, 0, 0, by rw [dig_zero]; rfl, by rw [dig_zero]; rfl, by rw [dig_zero]; exact IntsAt.nil, by rw [dig_zero]; exact IntsAt.nil, NB.zero _, NB.zero _, fun h => absurd h H0.out, fun _ => ⟨rfl, rfl⟩, Below.refl _ _⟩
  case rest =>
  obtain ⟨X, Y, oa, ob, ca, cb, rfl, rfl, hX, hY, bX, bY, hg, hb, bel⟩ := hcut
  have l1 : (dig X).length < 1099511627775 := Nat.lt_of_le_of_lt bX.digs (by decide)
  have l2 : (dig Y).length < 1099511627775 := Nat.lt_of_le_of_lt bY.digs (by decide)
  have l3 : (dig (Nat.gcd X Y)).length < 1099511627776 := by
    by_cases hx : 0 < X
    · exact Nat.lt_of_le_of_lt (bX.mono (Nat.le_of_dvd hx (Nat.gcd_dvd_left X Y))).digs (by decide)
    · have : X = 0 := by omega
      subst this
      rw [Nat.gcd_zero_left]
      omega
  have l4 : (dig (X / Y)).length < 1099511627776 := Nat.lt_of_le_of_lt (bX.div Y).digs (by decide)
  have l5 : (dig (X % Y)).length < 1099511627776 := Nat.lt_of_le_of_lt (bX.mod Y).digs (by decide)
  clear bX bY
  have HX := Lib.hid hX
  have HY := Lib.hid hY
  have HGd := Lib.hid hg
  have HBd := Lib.hid hb
  clear hX hY hg hb
  have QT := Lib.hid (fun (m : Nat) (oc : Option Addr) (cc : Nat) (w : World) (h : IntsAt w oc (dig m)) (hl : (dig m).length < 1099511627776) => refText_any m oc cc w h hl)
  have hans1 := Lib.hid (show (n = 0 ∧ n = 0 ∧ (if n = 0 then strD (Nat.gcd (dv A) (dv B)) else []) = strD (Nat.gcd X Y)) ∨ (n ≠ 0 ∧ n = n ∧ (if n = 0 then strD (Nat.gcd (dv A) (dv B)) else []) = []) by
    by_cases h0 : n = 0
    · obtain ⟨e1, e2⟩ := HGd.out h0
      exact .inl ⟨h0, h0, by rw [if_pos h0, e1, e2]⟩
    · exact .inr ⟨h0, rfl, if_neg h0⟩)
  unfold ans2 at QNG
  rw [← HN.out] at QNG
  generalize hF1 : (if n = 0 then strD (Nat.gcd (dv A) (dv B)) else []) = F1 at *
  have HF1 := Lib.hid hF1
  clear hF1
  have QX1 := Lib.hid (fun w => lawText_any F1 (strD (Nat.gcd X Y)) n n w hans1.out)
  clear hans1
  -- the greatest common divisor
  go_upto_region 6 with (go_at_call 25; refine (QNG.out _).mono ?_; rintro e w2 ⟨rfl, b2⟩)
  have QA := Lib.hid (refGcd_any X Y oa ob ca cb w2 (HX.out.below b2) (HY.out.below b2) l1 l2)
  go_upto_region 8 with (first
    | (go_at_call 26; refine QA.out.mono ?_; rintro e w3 ⟨oc, cc, rfl, hI3, b3⟩)
    | (go_at_call 18; refine (QT.out _ oc cc w3 hI3 l3).mono ?_; rintro e w4 ⟨rfl, b4⟩)
    | (go_at_call 17; refine (QX1.out _).mono ?_; rintro e w5 ⟨rfl, rfl⟩))
  have B5 := Lib.hid (bel_next bel (bel_next (bel_next b2 b3) b4))
  have HX5 := Lib.hid (HX.out.below (bel_next (bel_next b2 b3) b4))
  have HY5 := Lib.hid (HY.out.below (bel_next (bel_next b2 b3) b4))
  clear b2 b3 b4 hI3 QA QNG QX1 bel
  -- the quotient
  by_cases h0 : n = 0
  · obtain ⟨e1, e2⟩ := HGd.out h0
    by_cases hY0 : Y = 0
    · have hq : wrongQ A B = 5 := by
        unfold wrongQ
        rw [if_pos (by rw [← HN.out]; exact h0), if_pos (by rw [← e2]; exact hY0)]
      rw [hq, if_neg (show ¬ 5 = 0 by decide), if_neg (show ¬ 5 = 0 by decide)] at QND
      have QX4 := Lib.hid (fun w => lawText_any [] [] 5 5 w (.inr ⟨by decide, rfl, rfl⟩))
      subst hY0
      have e0 : ((n : Int) == 0) = true := by rw [beq_iff_eq]; omega
      clear hq e1 e2 h0
      rw [dig_zero]
      go_wp2_with (first
        | (go_at_call 27; refine (QND.out _).mono ?_; rintro e w6 ⟨rfl, b6⟩)
        | (go_at_call 17; refine (QX4.out _).mono ?_; rintro e w7 ⟨rfl, rfl⟩))
      go_ret
      exact ⟨rfl, bel_next B5.out b6⟩
    · have hq : wrongQ A B = 0 := by
        unfold wrongQ
        rw [if_pos (by rw [← HN.out]; exact h0), if_neg (by rw [← e2]; exact hY0)]
      rw [hq, if_pos rfl, if_pos rfl, ← e1, ← e2] at QND
      have e0 : ((n : Int) == 0) = true := by rw [beq_iff_eq]; omega
      have hlz : (((dig Y).length : Int) == 0) = false := by
        rw [beq_eq_false_iff_ne]
        intro h
        have h1 : (dig Y).length = 0 := by omega
        have := lt_pow_length Y
        rw [h1] at this
        omega
      have H0Y := Lib.hid (show 0 < Y by omega)
      have QX4 := Lib.hid (fun w => lawText_any (strD (X % Y)) (strD (X % Y)) 0 0 w (.inl ⟨rfl, rfl, rfl⟩))
      clear hq e1 e2 h0 hY0
      go_upto_region 13 with (go_at_call 27; refine (QND.out _).mono ?_; rintro e w6 ⟨rfl, b6⟩)
      have QD := Lib.hid (refDiv_any X Y oa ob ca cb w6 H0Y.out (HX5.out.below b6) (HY5.out.below b6) (by omega) l2)
      go_upto_region 14 with (go_at_call 28; refine QD.out.mono ?_; rintro e w7 ⟨oq, cq, or, cr, rfl, hq, hr, b7⟩)
      have HQ := Lib.hid hq
      have HR := Lib.hid hr
      have QT1 := Lib.hid (fun w (h : IntsAt w oq (dig (X / Y))) => refText_any (X / Y) oq cq w h l4)
      have QT2 := Lib.hid (fun w (h : IntsAt w or (dig (X % Y))) => refText_any (X % Y) or cr w h l5)
      clear hq hr QD QT QND
      go_wp2_with (first
        | (go_at_call 18; (with_reducible refine (QT1.out w7 HQ.out).mono ?_); rintro e w8 ⟨rfl, b8⟩)
        | (go_at_call 18; (with_reducible refine (QT2.out w8 (HR.out.below b8)).mono ?_); rintro e w9 ⟨rfl, b9⟩)
        | (go_at_call 17; refine (QX4.out _).mono ?_; rintro e w10 ⟨rfl, rfl⟩))
      go_ret
      exact ⟨rfl, bel_next B5.out (bel_next b6 (bel_next b7 (bel_next b8 b9)))⟩
  · have hq : wrongQ A B = n := by
      unfold wrongQ
      rw [if_neg (by rw [← HN.out]; exact h0), ← HN.out]
    rw [hq, if_neg h0, if_neg h0] at QND
    have QX4 := Lib.hid (fun w => lawText_any [] [] n n w (.inr ⟨h0, rfl, rfl⟩))
    have e0 : ((n : Int) == 0) = false := by rw [beq_eq_false_iff_ne]; omega
    clear hq h0
    go_wp2_with (first
      | (go_at_call 27; refine (QND.out _).mono ?_; rintro e w6 ⟨rfl, b6⟩)
      | (go_at_call 17; refine (QX4.out _).mono ?_; rintro e w7 ⟨rfl, rfl⟩))
    go_ret
    exact ⟨rfl, bel_next B5.out b6⟩
end Go.Proofs.YtkkpfoidppjbdaaDoor
