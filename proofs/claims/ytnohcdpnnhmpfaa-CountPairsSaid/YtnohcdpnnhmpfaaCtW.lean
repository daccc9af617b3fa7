/-
  Chapter 13: CountMarks. Printed by tools/genmarks.py.
-/
import Derived.Test.YtnohcdpnnhmpfaaCtV
namespace Go.Proofs.Ytnohcdpnnhmpfaa
set_option linter.unusedVariables false
set_option linter.unusedSimpArgs false
open Go.RowKit ML FM AU CT

structure LotsF (c : CTest) (lots : Bytes) (R : List Int) : Prop where
  bad : wrongC c = true → R = []
  ok : wrongC c = false → Ord c.op.length (lotF c lots) R
theorem LotsF.one {c : CTest} {lots : Bytes} {R R' : List Int} (h : LotsF c lots R) (h' : LotsF c lots R') : R = R' := by
  cases hW : wrongC c with
  | true => rw [h.bad hW, h'.bad hW]
  | false => exact (h.ok hW).unique (h'.ok hW)
theorem LotsGot.form {c : CTest} {lots : Bytes} {w w' : World} {e : Ending} (h : LotsGot c lots w e w') : ∃ R oR cR, e = .returned (.tuple #[.slice oR R.length cR, .int .i64 (wrongE c)]) ∧ IsAt w' oR R ∧ LotsF c lots R ∧ Below w.heap.size w w' := by
  obtain ⟨hb, h⟩ := h
  unfold wrongE
  cases hW : wrongC c with
  | true =>
    rw [if_pos hW] at h
    exact ⟨[], none, 0, by rw [if_pos rfl]; exact h, IsAt.nil, ⟨fun _ => rfl, fun h => absurd (hW.symm.trans h) (by decide)⟩, hb⟩
  | false =>
    rw [if_neg (by rw [hW]; decide)] at h
    obtain ⟨O, oO, cO, hO, hI, he⟩ := h
    exact ⟨O, oO, cO, by rw [if_neg (by decide)]; exact he, hI, ⟨fun h => absurd (hW.symm.trans h) (by decide), fun _ => hO⟩, hb⟩
structure MostF (c : CTest) (T : List Int) (lots : Bytes) (R : List Int) : Prop where
  bad : mostE c T ≠ 0 → R = []
  ok : mostE c T = 0 → ∃ S, Best c.op.length T (lotF c lots) S ∧ R = S.take c.se.toNat
theorem MostF.one {c : CTest} {T : List Int} {lots : Bytes} {R R' : List Int} (h : MostF c T lots R) (h' : MostF c T lots R') : R = R' := by
  by_cases hW : mostE c T = 0
  · obtain ⟨S, hS, rfl⟩ := h.ok hW
    obtain ⟨S', hS', rfl⟩ := h'.ok hW
    rw [hS.unique hS']
  · rw [h.bad hW, h'.bad hW]
theorem MostF.best {c : CTest} {T : List Int} {lots : Bytes} {R : List Int} (h : MostF c T lots R) : ∃ S, mostE c T = 0 → Best c.op.length T (lotF c lots) S := by
  by_cases hW : mostE c T = 0
  · obtain ⟨S, hS, _⟩ := h.ok hW
    exact ⟨S, fun _ => hS⟩
  · exact ⟨[], fun h => absurd h hW⟩
theorem MostGot.form {c : CTest} {T : List Int} {lots : Bytes} {w w' : World} {e : Ending} (h : MostGot c lots T w e w') : ∃ R oR cR, e = .returned (.tuple #[.slice oR R.length cR, .int .i64 (mostE c T)]) ∧ IsAt w' oR R ∧ MostF c T lots R ∧ Below w.heap.size w w' := by
  obtain ⟨hb, h⟩ := h
  by_cases hW : mostE c T = 0
  · rw [if_pos hW] at h
    obtain ⟨S, oS, cS, hS, hI, he⟩ := h
    exact ⟨S.take c.se.toNat, oS, cS, by rw [hW]; exact he, hI, ⟨fun h => absurd hW h, fun _ => ⟨S, hS, rfl⟩⟩, hb⟩
  · rw [if_neg hW] at h
    exact ⟨[], none, 0, h, IsAt.nil, ⟨fun _ => rfl, fun h => absurd h hW⟩, hb⟩
theorem LotsF.short {c : CTest} {lots : Bytes} {R : List Int} (h : LotsF c lots R) : R.length < 1000 := by
  cases hW : wrongC c with
  | true => rw [h.bad hW]; decide
  | false =>
    have := (h.ok hW).len
    unfold wrongC at hW
    have := of_decide_eq_false hW
    omega
theorem MostF.short {c : CTest} {T : List Int} {lots : Bytes} {R : List Int} (h : MostF c T lots R) : R.length < 1000 := by
  by_cases hW : mostE c T = 0
  · obtain ⟨S, hS, rfl⟩ := h.ok hW
    have h1 := hS.len
    rw [List.length_take]
    unfold mostE wrongC at hW
    split at hW
    · cases hW
    · rename_i h2
      simp only [decide_eq_true_eq] at h2
      omega
  · rw [h.bad hW]; decide
set_option maxHeartbeats 4000000 in
set_option maxRecDepth 100000 in
theorem countMarks_any (c : CTest) (T : List Int) (lots : Bytes) (oa : Option Addr) (cap : Nat) (ot : Option Addr) (ct : Nat) (w : World) (hs : StrsAt w oa c.op) (hT : IsAt w ot T) (hf : c.Fits lots) (hnl : c.op.length < 9223372036854775807) (htl : T.length < 9223372036854775807) :
    Calls Try.prog 3 #[.agg (c.cells oa cap).toArray, .slice ot T.length ct, .string ⟨lots.toArray⟩] w fun e w' => e = .returned (.bool true) ∧ Below w.heap.size w w' := by
  have hC : (c.cells oa cap).toArray = #[.string ⟨c.nm.toArray⟩, .slice oa c.op.length cap, .int .i64 c.rl, .int .i64 c.se, .int .i64 c.mo] := rfl
  have Q1 := Lib.hid (fun w h => (lots_any c lots oa cap w h hf hnl).mono fun _ _ h => h.form)
  have Q2 := Lib.hid (fun w h => (refLots_any c lots oa cap w h hf hnl).mono fun _ _ h => h.form)
  have Q3 := Lib.hid (fun w h h2 => (most_any c T lots oa cap ot ct w h h2 hf hnl htl).mono fun _ _ h => h.form)
  have Q4 := Lib.hid (fun S hS w h h2 => (refMost_any c T lots S hS oa cap ot ct w h h2 hf hnl htl).mono fun _ _ h => h.form)
  rw [hC] at Q1 Q2 Q3 Q4 ⊢
  clear hC hf
  have HS := Lib.hid hs
  have HT := Lib.hid hT
  clear hs hT
  generalize hWE : wrongE c = we at *
  generalize hME : mostE c T = me at *
  clear hWE
  go_enter Try.func3, Try.ntmps3
  go_upto_region 1 with (fail)
  generalize hB : w.heap.size = B at *
  refine wp_abs (fun w1 => Below B w w1 ∧ w1.heap[B]? = some (.cells #[.string ⟨c.nm.toArray⟩, .slice oa c.op.length cap, .int .i64 c.rl, .int .i64 c.se, .int .i64 c.mo] 24 (0, 0))) ⟨by rw [← hB]; exact (Below.refl _ _).alloc (Nat.le_refl _) _, by rw [← hB]; exact heap_at rfl⟩ (fun w1 hw1 => ?_)
  have HB := Lib.hid hB
  have B1 := Lib.hid hw1.1
  have X1 := Lib.hid hw1.2
  have hBs : B < w1.heap.size := lt_of_heap hw1.2
  have k0 : w1.cell? ⟨B, 0, none⟩ = some (.string ⟨c.nm.toArray⟩) := cell_of_row w1 B 0 _ _ _ hw1.2
  have k1 : w1.cell? ⟨B, 1, none⟩ = some (.slice oa c.op.length cap) := cell_of_row w1 B 1 _ _ _ hw1.2
  have k2 : w1.cell? ⟨B, 2, none⟩ = some (.int .i64 c.rl) := cell_of_row w1 B 2 _ _ _ hw1.2
  have k3 : w1.cell? ⟨B, 3, none⟩ = some (.int .i64 c.se) := cell_of_row w1 B 3 _ _ _ hw1.2
  clear hB hw1
  clear k0 k1 k2 k3
  have P1 := Lib.hid (Q1.out w1 (HS.out.below (HB.out.symm ▸ B1.out)))
  clear Q1
  go_upto_region 2 with (first | (refine wpList_load_whole rfl 24 _ rfl B _ _ _ _ rfl X1.out Try.underlying24 rfl size_contest ?_) | (go_at_call 5; refine P1.out.mono ?_; rintro e w2 ⟨R, oR, cR, rfl, hI, hR, b2⟩))
  have HI2 := Lib.hid hI
  have HR := Lib.hid hR
  have X2 := Lib.hid (bel_keep b2 hBs X1.out)
  have B2 := Lib.hid (B1.out.trans (b2.mono (Nat.le_of_lt hBs)))
  have hBs2 : B < w2.heap.size := lt_of_heap X2.out
  clear hI hR b2 P1 B1 X1 hBs
  have P2 := Lib.hid (Q2.out w2 (HS.out.below (HB.out.symm ▸ B2.out)))
  clear Q2
  go_upto_region 3 with (first | (refine wpList_load_whole rfl 24 _ rfl B _ _ _ _ rfl X2.out Try.underlying24 rfl size_contest ?_) | (go_at_call 6; refine P2.out.mono ?_; rintro e w3 ⟨R', oR', cR', rfl, hI, hR', b3⟩))
  obtain rfl := HR.out.one hR'
  have HSI := Lib.hid (sameInts_any oR oR' R cR cR' w3 (HI2.out.below b3) hI (by have := HR.out.short; omega))
  have X3 := Lib.hid (bel_keep b3 hBs2 X2.out)
  have B3 := Lib.hid (B2.out.trans (b3.mono (Nat.le_of_lt hBs2)))
  have hBs3 : B < w3.heap.size := lt_of_heap X3.out
  clear hI hR' b3 P2 B2 X2 hBs2 HI2 HR
  have e1 : (we != we) = false := bne_self_eq_false we
  go_upto_region 5 with (go_at_call 7; refine HSI.out.mono ?_; rintro e w4 ⟨rfl, b4⟩)
  have X4 := Lib.hid (bel_keep b4 hBs3 X3.out)
  have B4 := Lib.hid (B3.out.trans (b4.mono (Nat.le_of_lt hBs3)))
  have hBs4 : B < w4.heap.size := lt_of_heap X4.out
  clear b4 B3 X3 hBs3 HSI e1
  have P3 := Lib.hid (Q3.out w4 (HS.out.below (HB.out.symm ▸ B4.out)) (HT.out.below (HB.out.symm ▸ B4.out)))
  clear Q3
  go_upto_region 6 with (first | (refine wpList_load_whole rfl 24 _ rfl B _ _ _ _ rfl X4.out Try.underlying24 rfl size_contest ?_) | (go_at_call 8; refine P3.out.mono ?_; rintro e w5 ⟨M, oM, cM, rfl, hI, hM, b5⟩))
  have HI5 := Lib.hid hI
  have HM := Lib.hid hM
  have X5 := Lib.hid (bel_keep b5 hBs4 X4.out)
  have B5 := Lib.hid (B4.out.trans (b5.mono (Nat.le_of_lt hBs4)))
  have hBs5 : B < w5.heap.size := lt_of_heap X5.out
  clear hI hM b5 P3 B4 X4 hBs4
  obtain ⟨S, hS⟩ := HM.out.best
  rw [hME] at hS
  have P4 := Lib.hid (Q4.out S hS w5 (HS.out.below (HB.out.symm ▸ B5.out)) (HT.out.below (HB.out.symm ▸ B5.out)))
  clear Q4 hS hME
  go_upto_region 7 with (first | (refine wpList_load_whole rfl 24 _ rfl B _ _ _ _ rfl X5.out Try.underlying24 rfl size_contest ?_) | (go_at_call 9; refine P4.out.mono ?_; rintro e w6 ⟨M', oM', cM', rfl, hI, hM', b6⟩))
  obtain rfl := HM.out.one hM'
  have HSI := Lib.hid (sameInts_any oM oM' M cM cM' w6 (HI5.out.below b6) hI (by have := HM.out.short; omega))
  have B6 := Lib.hid (B5.out.trans (b6.mono (Nat.le_of_lt hBs5)))
  have hBs6 : B ≤ w6.heap.size := by have := b6.size; omega
  clear hI hM' b6 P4 B5 X5 hBs5 HI5 HM
  have e1 : (me == me) = true := beq_self_eq_true me
  go_wp2_with (go_at_call 7; refine HSI.out.mono ?_; rintro e w7 ⟨rfl, b7⟩)
  go_ret
  exact ⟨rfl, by rw [HB.out]; exact B6.out.trans (b7.mono hBs6)⟩
end Go.Proofs.Ytnohcdpnnhmpfaa
