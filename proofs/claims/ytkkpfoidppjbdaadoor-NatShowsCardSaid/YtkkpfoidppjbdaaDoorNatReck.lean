/-
  NatReckons: the walk.
-/
import Derived.Test.YtkkpfoidppjbdaaDoorBNat
namespace Go.Proofs.YtkkpfoidppjbdaaDoor
set_option linter.unusedVariables false
open Go.RowKit ML FM ND

theorem cmp_same (x y : Nat) : NL.cmpI x y = ND.cmpI x y := rfl
theorem bel_step {B : Nat} {w0 w1 w2 : World} (h : Below B w0 w1) (k : Below w1.heap.size w1 w2) (hB : B ≤ w1.heap.size) : Below B w0 w2 := h.trans (k.mono hB)
theorem bel_next {w0 w1 w2 : World} (h : Below w0.heap.size w0 w1) (k : Below w1.heap.size w1 w2) : Below w0.heap.size w0 w2 := h.trans (k.mono h.size)
set_option maxHeartbeats 4000000 in
set_option maxRecDepth 100000 in
theorem natReckons_any (A B : Bytes) (w : World) (hA : A.length < 140737488355328) (hB : B.length < 140737488355328) :
    Calls Tryd.prog 4 #[.string ⟨A.toArray⟩, .string ⟨B.toArray⟩] w fun e w' => e = .returned (.bool true) ∧ Below w.heap.size w w' := by
  have QW := Lib.hid (lawWrong_any A B w hA hB)
  have QNA := Lib.hid (fun w => natAdd_any A B w hA hB)
  have QNM := Lib.hid (fun w => natMul_any A B w hA hB)
  have QNC := Lib.hid (fun w => natCompare_any A B w hA hB)
  have QNS := Lib.hid (fun w => natSub_any A B w hA hB)
  obtain ⟨n, hn⟩ : ∃ n, n = wrong2 A B := ⟨_, rfl⟩
  have QR : Hid (∀ F w, n = 0 → (F = A ∨ F = B) → Calls Tryd.prog 15 #[.string ⟨F.toArray⟩] w fun e w' => ∃ oc cc, e = .returned (.slice oc (dig (dv F)).length cc) ∧ IntsAt w' oc (dig (dv F)) ∧ Below w.heap.size w w' ∧ (∀ a, oc = some a → a.block < w'.heap.size)) := Lib.hid (fun F w h0 hF => by
    rw [hn] at h0
    obtain ⟨g1, g2⟩ := wrong2_good h0
    obtain ⟨g3, g4⟩ := wrongN_good g1
    obtain ⟨g5, g6⟩ := wrongN_good g2
    rcases hF with rfl | rfl
    · exact refRead_any F w (by omega) ((numB_iff F).1 g3).2.1
    · exact refRead_any F w (by omega) ((numB_iff F).1 g5).2.1)
  have HG : Hid (n = 0 → NB 4000 (dv A) ∧ NB 4000 (dv B)) := Lib.hid (fun h0 => by
    rw [hn] at h0
    obtain ⟨g1, g2⟩ := wrong2_good h0
    exact ⟨good_dv g1, good_dv g2⟩)
  rw [← hn] at QW
  have HN := Lib.hid hn
  clear hn hA hB
  go_enter Tryd.func4, Tryd.ntmps4
  go_upto_if 15 with (go_at_call 14; refine QW.out.mono ?_; rintro e w1 ⟨rfl, rfl⟩)
  go_cut [6, 7] (fun v1 v2 w' => ∃ (X Y : Nat) (oa ob : Option Addr) (ca cb : Nat), v1 = .slice oa (dig X).length ca ∧ v2 = .slice ob (dig Y).length cb ∧ IntsAt w' oa (dig X) ∧ IntsAt w' ob (dig Y) ∧ NB 4000 X ∧ NB 4000 Y ∧ (n = 0 → X = dv A ∧ Y = dv B) ∧ (n ≠ 0 → X = 0 ∧ Y = 0) ∧ Below w1.heap.size w1 w')
  case first =>
    by_cases h0 : n = 0
    · have e0 : ((n : Int) == 0) = true := by rw [beq_iff_eq]; omega
      have H0 := Lib.hid h0
      clear h0
      go_wp2_with (first
        | (go_at_call 15; refine (QR.out _ _ H0.out (by first | exact .inl rfl | exact .inr rfl)).mono ?_; rintro e w2 ⟨ob, cb, rfl, hI2, bel2, hu2⟩))
      rename_i w2a oa ca hI1 bel1 hu1
      go_meet
      exact ⟨dv A, dv B, oa, ob, ca, cb, rfl, rfl, hI1.below bel2, hI2, (HG.out H0.out).1, (HG.out H0.out).2, fun _ => ⟨rfl, rfl⟩, fun h => absurd H0.out h, bel_next bel1 bel2⟩
    · have e0 : ((n : Int) == 0) = false := by rw [beq_eq_false_iff_ne]; omega
      have H0 := Lib.hid h0
      clear h0
      go_wp2_with fail
      go_meet
      exact ⟨0, 0, none, none, 0, 0, by rw [dig_zero]; rfl, by rw [dig_zero]; rfl, by rw [dig_zero]; exact IntsAt.nil, by rw [dig_zero]; exact IntsAt.nil, NB.zero _, NB.zero _, fun h => absurd h H0.out, fun _ => ⟨rfl, rfl⟩, Below.refl _ _⟩
  case rest =>
  obtain ⟨X, Y, oa, ob, ca, cb, rfl, rfl, hX, hY, bX, bY, hg, hb, bel⟩ := hcut
  have l1 : (dig X).length < 1099511627776 := Nat.lt_of_le_of_lt bX.digs (by decide)
  have l2 : (dig Y).length < 1099511627776 := Nat.lt_of_le_of_lt bY.digs (by decide)
  have l3 : (dig (X + Y)).length < 1099511627776 := Nat.lt_of_le_of_lt (bX.add bY).digs (by decide)
  have l4 : (dig (X * Y)).length < 1099511627776 := Nat.lt_of_le_of_lt (bX.mul bY).digs (by decide)
  have l5 : (dig (X - Y)).length < 1099511627776 := Nat.lt_of_le_of_lt (bX.mono (Nat.sub_le X Y)).digs (by decide)
  clear bX bY
  have HX := Lib.hid hX
  have HY := Lib.hid hY
  have HGd := Lib.hid hg
  have HBd := Lib.hid hb
  clear hX hY hg hb
  have QT := Lib.hid (fun (m : Nat) (oc : Option Addr) (cc : Nat) (w : World) (h : IntsAt w oc (dig m)) (hl : (dig m).length < 1099511627776) => refText_any m oc cc w h hl)
  have hans1 := Lib.hid (show (n = 0 ∧ n = 0 ∧ (if n = 0 then strD (dv A + dv B) else []) = strD (X + Y)) ∨ (n ≠ 0 ∧ n = n ∧ (if n = 0 then strD (dv A + dv B) else []) = []) by
    by_cases h0 : n = 0
    · obtain ⟨e1, e2⟩ := HGd.out h0
      exact .inl ⟨h0, h0, by rw [if_pos h0, e1, e2]⟩
    · exact .inr ⟨h0, rfl, if_neg h0⟩)
  have hans2 := Lib.hid (show (n = 0 ∧ n = 0 ∧ (if n = 0 then strD (dv A * dv B) else []) = strD (X * Y)) ∨ (n ≠ 0 ∧ n = n ∧ (if n = 0 then strD (dv A * dv B) else []) = []) by
    by_cases h0 : n = 0
    · obtain ⟨e1, e2⟩ := HGd.out h0
      exact .inl ⟨h0, h0, by rw [if_pos h0, e1, e2]⟩
    · exact .inr ⟨h0, rfl, if_neg h0⟩)
  have hcm := Lib.hid (show (if n = 0 then NL.cmpI (dv A) (dv B) else 0) = cmpI X Y by
    by_cases h0 : n = 0
    · obtain ⟨e1, e2⟩ := HGd.out h0
      rw [if_pos h0, e1, e2]; rfl
    · obtain ⟨e1, e2⟩ := HBd.out h0
      rw [if_neg h0, e1, e2]; rfl)
  unfold ans2 at QNA QNM
  rw [← HN.out] at QNA QNM QNC
  rw [hcm.out] at QNC
  generalize hF1 : (if n = 0 then strD (dv A + dv B) else []) = F1 at *
  generalize hF2 : (if n = 0 then strD (dv A * dv B) else []) = F2 at *
  have HF1 := Lib.hid hF1
  have HF2 := Lib.hid hF2
  clear hF1 hF2
  generalize hc : cmpI X Y = c at *
  have HC := Lib.hid hc
  clear hc
  have QX1 := Lib.hid (fun w => lawText_any F1 (strD (X + Y)) n n w hans1.out)
  have QX2 := Lib.hid (fun w => lawText_any F2 (strD (X * Y)) n n w hans2.out)
  clear hans1 hans2
  -- the sum
  go_upto_region 6 with (go_at_call 16; refine (QNA.out _).mono ?_; rintro e w2 ⟨rfl, b2⟩)
  have QA := Lib.hid (refAdd_any X Y oa ob ca cb w2 (HX.out.below b2) (HY.out.below b2) l1 l2)
  go_upto_region 8 with (first
    | (go_at_call 19; refine QA.out.mono ?_; rintro e w3 ⟨oc, cc, rfl, hI3, b3⟩)
    | (go_at_call 18; refine (QT.out _ oc cc w3 hI3 l3).mono ?_; rintro e w4 ⟨rfl, b4⟩)
    | (go_at_call 17; refine (QX1.out _).mono ?_; rintro e w5 ⟨rfl, rfl⟩))
  have B5 := Lib.hid (bel_next bel (bel_next (bel_next b2 b3) b4))
  have HX5 := Lib.hid (HX.out.below (bel_next (bel_next b2 b3) b4))
  have HY5 := Lib.hid (HY.out.below (bel_next (bel_next b2 b3) b4))
  clear b2 b3 b4 hI3 QA QNA QX1 bel
  -- the product
  go_upto_region 9 with (go_at_call 20; refine (QNM.out _).mono ?_; rintro e w6 ⟨rfl, b6⟩)
  have QM := Lib.hid (refMul_any X Y oa ob ca cb w6 (HX5.out.below b6) (HY5.out.below b6) l1 l2)
  go_upto_region 11 with (first
    | (go_at_call 21; refine QM.out.mono ?_; rintro e w7 ⟨oc2, cc2, rfl, hI7, b7⟩)
    | (go_at_call 18; refine (QT.out _ oc2 cc2 w7 hI7 l4).mono ?_; rintro e w8 ⟨rfl, b8⟩)
    | (go_at_call 17; refine (QX2.out _).mono ?_; rintro e w9 ⟨rfl, rfl⟩))
  have B9 := Lib.hid (bel_next B5.out (bel_next (bel_next b6 b7) b8))
  have HX9 := Lib.hid (HX5.out.below (bel_next (bel_next b6 b7) b8))
  have HY9 := Lib.hid (HY5.out.below (bel_next (bel_next b6 b7) b8))
  clear b6 b7 b8 hI7 QM QNM QX2 B5 HX5 HY5
  -- which is above the other
  go_upto_region 12 with (go_at_call 22; refine (QNC.out _).mono ?_; rintro e w10 ⟨rfl, b10⟩)
  have QC := Lib.hid (refCompare_any X Y oa ob ca cb w10 (HX9.out.below b10) (HY9.out.below b10) l1 l2)
  rw [HC.out] at QC
  go_upto_region 14 with (go_at_call 23; refine QC.out.mono ?_; rintro e w11 ⟨rfl, b11⟩)
  have B11 := Lib.hid (bel_next B9.out (bel_next b10 b11))
  have HX11 := Lib.hid (HX9.out.below (bel_next b10 b11))
  have HY11 := Lib.hid (HY9.out.below (bel_next b10 b11))
  clear b10 b11 QC QNC B9 HX9 HY9
  -- the difference
  by_cases hs : n = 0 ∧ X < Y
  · have hm : wrongS A B = 4 := by
      obtain ⟨e1, e2⟩ := HGd.out hs.1
      unfold wrongS
      rw [if_pos (by rw [← HN.out]; exact hs.1), if_pos (by rw [← e1, ← e2]; exact hs.2)]
    rw [hm, if_neg (show ¬ 4 = 0 by decide)] at QNS
    have hcn : c < 0 := by rw [← HC.out, cmpI_lt hs.2]; decide
    have e0 : ((n : Int) == 0) = true := by rw [beq_iff_eq]; omega
    have QX4 := Lib.hid (fun w => lawText_any [] [] 4 4 w (.inr ⟨by decide, rfl, rfl⟩))
    clear hm hs
    go_upto_region 15 with (go_at_call 13; refine (QNS.out _).mono ?_; rintro e w12 ⟨rfl, b12⟩)
    have QC := Lib.hid (refCompare_any X Y oa ob ca cb w12 (HX11.out.below b12) (HY11.out.below b12) l1 l2)
    rw [HC.out] at QC
    go_wp2_with (first
      | (go_at_call 23; refine QC.out.mono ?_; rintro e w13 ⟨rfl, b13⟩)
      | (go_at_call 17; refine (QX4.out _).mono ?_; rintro e w14 ⟨rfl, rfl⟩))
    go_ret
    exact ⟨rfl, bel_next B11.out (bel_next b12 b13)⟩
  · have hYX : n = 0 → Y ≤ X := fun h0 => by
      rcases Nat.lt_or_ge X Y with h1 | h1
      · exact absurd ⟨h0, h1⟩ hs
      · exact h1
    have hm : wrongS A B = n := by
      unfold wrongS
      by_cases h0 : n = 0
      · obtain ⟨e1, e2⟩ := HGd.out h0
        have := hYX h0
        rw [if_pos (by rw [← HN.out]; exact h0), if_neg (by rw [← e1, ← e2]; omega), h0]
      · rw [if_neg (by rw [← HN.out]; exact h0), ← HN.out]
    rw [hm] at QNS
    have hle : Y ≤ X := by
      by_cases h0 : n = 0
      · exact hYX h0
      · obtain ⟨e1, e2⟩ := HBd.out h0; omega
    have hcn : ¬ c < 0 := by
      rw [← HC.out]
      unfold cmpI
      rw [if_neg (by omega)]
      split <;> omega
    have hans := Lib.hid (show (n = 0 ∧ n = 0 ∧ (if n = 0 then strD (dv A - dv B) else []) = strD (X - Y)) ∨ (n ≠ 0 ∧ n = n ∧ (if n = 0 then strD (dv A - dv B) else []) = []) by
      by_cases h0 : n = 0
      · obtain ⟨e1, e2⟩ := HGd.out h0
        exact .inl ⟨h0, h0, by rw [if_pos h0, e1, e2]⟩
      · exact .inr ⟨h0, rfl, if_neg h0⟩)
    generalize hF4 : (if n = 0 then strD (dv A - dv B) else []) = F4 at *
    have HF4 := Lib.hid hF4
    have QX4 := Lib.hid (fun w => lawText_any F4 (strD (X - Y)) n n w hans.out)
    have HLE := Lib.hid hle
    clear hm hs hYX hF4 hans hle
    by_cases h0 : n = 0
    · have e0 : ((n : Int) == 0) = true := by rw [beq_iff_eq]; omega
      clear h0
      go_upto_region 15 with (go_at_call 13; refine (QNS.out _).mono ?_; rintro e w12 ⟨rfl, b12⟩)
      have QC := Lib.hid (refCompare_any X Y oa ob ca cb w12 (HX11.out.below b12) (HY11.out.below b12) l1 l2)
      rw [HC.out] at QC
      go_upto_region 17 with (go_at_call 23; refine QC.out.mono ?_; rintro e w13 ⟨rfl, b13⟩)
      have QS := Lib.hid (refSub_any X Y oa ob ca cb w13 HLE.out (HX11.out.below (bel_next b12 b13)) (HY11.out.below (bel_next b12 b13)) l1 l2)
      go_wp2_with (first
        | (go_at_call 24; refine QS.out.mono ?_; rintro e w15 ⟨oc4, cc4, rfl, hI15, b15, _⟩)
        | (go_at_call 18; refine (QT.out _ oc4 cc4 w15 hI15 l5).mono ?_; rintro e w16 ⟨rfl, b16⟩)
        | (go_at_call 17; refine (QX4.out _).mono ?_; rintro e w17 ⟨rfl, rfl⟩))
      go_ret
      exact ⟨rfl, bel_next B11.out (bel_next (bel_next b12 b13) (bel_next b15 b16))⟩
    · have e0 : ((n : Int) == 0) = false := by rw [beq_eq_false_iff_ne]; omega
      clear h0
      go_upto_region 15 with (go_at_call 13; refine (QNS.out _).mono ?_; rintro e w12 ⟨rfl, b12⟩)
      have QS := Lib.hid (refSub_any X Y oa ob ca cb w12 HLE.out (HX11.out.below b12) (HY11.out.below b12) l1 l2)
      go_wp2_with (first
        | (go_at_call 24; refine QS.out.mono ?_; rintro e w15 ⟨oc4, cc4, rfl, hI15, b15, _⟩)
        | (go_at_call 18; refine (QT.out _ oc4 cc4 w15 hI15 l5).mono ?_; rintro e w16 ⟨rfl, b16⟩)
        | (go_at_call 17; refine (QX4.out _).mono ?_; rintro e w17 ⟨rfl, rfl⟩))
      go_ret
      exact ⟨rfl, bel_next B11.out (bel_next b12 (bel_next b15 b16))⟩
end Go.Proofs.YtkkpfoidppjbdaaDoor
