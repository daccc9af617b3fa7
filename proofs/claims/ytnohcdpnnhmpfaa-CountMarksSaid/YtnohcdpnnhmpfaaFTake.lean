/-
  (*folding).take: any text is taken, piece by piece; the last piece is held back.
-/
import Derived.Test.YtnohcdpnnhmpfaaFWords
namespace Go.Proofs.Ytnohcdpnnhmpfaa
open Go.RowKit ML FM

set_option maxHeartbeats 4000000 in
set_option maxRecDepth 100000 in
theorem take_any (b : Nat) (h0 : List U) (T S : Bytes) (w : World) (hT : TakenAt b h0 T w) (hlen : T.length + S.length < 9223372036854775808) :
    Calls Try.prog 79 #[.pointer (some ⟨b, 0, none⟩), .string ⟨S.toArray⟩] w fun e w' => e = .returned (.tuple #[]) ∧ TakenAt b h0 (T ++ S) w' ∧ w.grownBy w' (some b) := by
  have HT := Lib.hid hT
  have HL := Lib.hid hlen
  clear hT hlen
  go_enter Try.func79, Try.ntmps79
  go_wp2_with fail
  go_loopw [1] (fun i wr => ∃ A R : Bytes, S = A ++ R ∧ i = .string ⟨R.toArray⟩ ∧ TakenAt b h0 (T ++ A) wr ∧ w.grownBy wr (some b)) (fun i _ => match i with | .string s => s.size | _ => 0)
  case atStart => exact ⟨[], S, rfl, rfl, by simpa using HT.out, grown_only (Only.refl b w)⟩
  case round =>
  obtain ⟨A, R, hAR, rfl, tk, gr⟩ := hrel
  have hsz := size_mk R
  by_cases hR : R = []
  · subst hR
    simp only [List.append_nil] at hAR
    subst hAR
    go_wp2_with fail
    go_end0
    exact ⟨rfl, tk, gr⟩
  have hpos : 0 < R.length := List.length_pos_iff.2 hR
  have hd0 : decide (0 < (R.length : Int)) = true := by simp; omega
  obtain ⟨p, t, D, m, h0t, F⟩ := tk.ex
  have hb := lt_of_heap F.blk
  have cAt := F.cellAt
  have fAt := F.frozen 73
  go_upto_if 12 with (fail)
  go_cut [] (fun w' => ∃ p t D, MidL (T ++ A) p t D ∧ t < 64 ∧ FoldAt b (absorbK h0 (T ++ A) p) (64 * p) D t w' ∧ w.grownBy w' (some b))
  case first =>
    by_cases ht : t = 64
    · subst ht
      obtain ⟨N, hN⟩ : ∃ N, N = 64 * p := ⟨_, rfl⟩
      have hfull := Lib.hid (m.full h0)
      have mn := Lib.hid m.next
      have hb64 : N + 64 < 9223372036854775808 := by
        have h1 := m.len
        have h2 := HL.out
        rw [hAR] at h2
        simp only [List.length_append] at h1 h2
        omega
      rw [← hN] at F hfull
      have HN := Lib.hid hN
      clear hN
      have cN := F.cellN
      have fN := F.frozen 8
      have FF := Lib.hid F
      generalize absorbK h0 (T ++ A) p = H0 at *
      clear F cAt fAt tk h0t
      go_upto_region 3 with (fail)
      have hBs : b < wr.heap.size := hb
      refine wp_abs (fun w3 => FoldAt b H0 (N + 64) D 64 w3 ∧ Only b wr w3) ⟨by have := FF.out.setN (N + 64); simpa using this, (Only.refl b wr).setCell _ _⟩ (fun w3 hw3 => ?_)
      obtain ⟨F3, o3⟩ := hw3
      clear cN fN FF
      have hb3 : b < w3.heap.size := lt_of_heap F3.blk
      have cN := F3.cellN
      have FF := Lib.hid F3
      clear F3
      have iH := Lib.hid (show (Try.prog.info? 96).map (·.size) = some (H0.map uv).length by rw [List.length_map, FF.out.hl]; exact size_eight)
      have QW := Lib.hid (words_any b H0 (N + 64) D 64 w3.drew (FF.out.drewN 1))
      refine Seg.wp_region_segs (fun w' => ∃ x : BelowT w3.heap.size w3, w' = x.w) [([0, 1, 2, 3, 4, 5, 7, 8, 9, 10], 6), ([], 11)] [] 12 (by kernel_rfl) (by kernel_rfl) (fun _ _ d _ _ h => by cases d <;> exact h) (inB_of ((Below.refl _ _).drew)) ?_
      simp only [List.map_cons, List.map_nil, Seg.opAt, List.drop_succ_cons, List.drop_zero, Seg.wpSegs, Array.getD_eq_getD_getElem?, List.getElem?_toArray, List.getElem?_cons_succ, List.getElem?_cons_zero, Option.getD_some]
      first | go_big_quiet_step (fail) | quiet_step (fail)
      first | go_big_quiet_step (fail) | quiet_step (fail)
      first | go_big_quiet_step (fail) | quiet_step (fail)
      first | go_big_quiet_step (fail) | quiet_step (fail)
      refine wpQuiet_load_mid rfl 96 _ rfl b 0 (H0.map uv) _ rfl (fun w' hw' => (FF.out.below (InB.below hw') hb3).rangeH) Try.underlying96 rfl iH.out ?_
      first | go_big_quiet_step (fail) | quiet_step (fail)
      first | go_big_quiet_step (fail) | quiet_step (fail)
      first | go_big_quiet_step (fail) | quiet_step (fail)
      first | go_big_quiet_step (fail) | quiet_step (fail)
      first | go_big_quiet_step (fail) | quiet_step (fail)
      refine wpQuiet_nil ?_
      intro K hK
      simp only [Region.wanted, if_true]
      go_wp2_with (go_at_call 102; refine QW.out.mono ?_; rintro e w4 ⟨rfl, hb4⟩)
      have hb4' : Below w3.heap.size w3 w4 := ((Below.refl _ _).drew).trans hb4
      refine hK _ _ (inB_of hb4') ?_
      clear hK K
      refine wpQuiet_nil ?_
      intro K hK
      simp only [Region.wanted, if_true]
      have F4 := Lib.hid ((FF.out.drewN 1).below hb4 hb3)
      have QP := Lib.hid (press_any H0 (wordsL D) (N + 64) false w4 F4.out.hl (length_wordsL D) (by have := hb64; omega))
      go_wp2_with (go_at_call 101; refine QP.out.mono ?_; rintro e w5 ⟨rfl, hb5⟩)
      have hb5' : Below w3.heap.size w3 w5 := hb4'.trans (hb5.mono hb4'.size)
      refine hK _ _ (inB_of hb5') ?_
      clear hK K
      refine wpQuiet_nil ?_
      have F5 := Lib.hid (F4.out.below hb5 (Nat.lt_of_lt_of_le hb3 hb4'.size))
      have hl5 : (pressL H0 (wordsL D) (N + 64) false).length = 8 := by rw [length_pressL]; exact F4.out.hl
      have HL5 := Lib.hid hl5
      clear hl5
      have hsV := Lib.hid (show (Try.prog.info? 96).map (·.size) = some (vals (pressL H0 (wordsL D) (N + 64) false)).size by rw [size_vals, HL5.out]; exact size_eight)
      have thr := Lib.hid (F5.out.there 0 (vals (pressL H0 (wordsL D) (N + 64) false)).size (by rw [size_vals, HL5.out]; omega))
      go_upto_region 4 with (refine wpList_store_mid rfl 96 _ _ rfl b 0 (vals (pressL H0 (wordsL D) (N + 64) false)) rfl rfl thr.out hsV.out (oneCell_vals _) ?_)
      refine wp_abs (fun w6 => FoldAt b (pressL H0 (wordsL D) (N + 64) false) (N + 64) D 64 w6 ∧ Only b w5 w6) ⟨F5.out.setH _ HL5.out, setCells_only b _ 0 w5⟩ (fun w6 hw6 => ?_)
      obtain ⟨F6, o6⟩ := hw6
      have c6 := F6.cellAt
      have f6 := F6.frozen 73
      have FF6 := Lib.hid F6
      have g6 : w.grownBy w6 (some b) := gtrans (gtrans (gtrans gr (grown_only o3)) (grown_below hb5')) (grown_only o6)
      clear F6
      go_wp2_with fail
      go_meet
      rw [hfull.out, HN.out, ← Nat.mul_succ] at FF6
      exact ⟨p + 1, 0, D, mn.out, by omega, by simpa using FF6.out.setAt 0, gtrans g6 (grown_only ((Only.refl b w6).setCell _ _))⟩
    · have hle := m.le
      have ht2 : ((t : Int) == 64) = false := by simp; omega
      have FF := Lib.hid F
      have mm := Lib.hid m
      clear F m
      go_wp2_with fail
      go_meet
      exact ⟨p, t, D, mm.out, by omega, FF.out, gr⟩
  case rest =>
  clear cAt fAt tk h0t m F gr hb
  obtain ⟨p, t, D, m, ht, F, gr⟩ := hcut
  have hb : b < wc.heap.size := lt_of_heap F.blk
  have cAt := F.cellAt
  have fAt := F.frozen 73
  have FF := Lib.hid F
  have mm := Lib.hid m
  have hdl := F.dl
  have thr : wc.drew.there b (9 + t) (Nat.min (ByteArray.mk R.toArray).size (64 - t)) := fun j hj => (F.drewN 1).there (9 + t) (64 - t) (by omega) j (Nat.lt_of_lt_of_le hj (Nat.min_le_right _ _))
  have THR := Lib.hid thr
  clear thr F m hdl
  have HR := Lib.hid hAR
  clear hAR
  have hs0 : (0 : Int) ≤ t := by omega
  have hs1 : (t : Int) ≤ 64 := by omega
  have hs2 : decide ((t : Int) ≤ 64) = true := by simp; omega
  go_upto_region 5 with (fail)
  refine Seg.wp_region_segs (fun w' => ∃ n, w' = wc.drewN n) [] [0, 1, 2, 3, 4, 5, 6, 7, 8] 9 (by kernel_rfl) (by kernel_rfl) (fun _ _ d _ _ h => by cases d <;> exact h) (⟨1, rfl⟩) ?_
  simp only [List.map_cons, List.map_nil, Seg.opAt, List.drop_succ_cons, List.drop_zero, Seg.wpSegs, Array.getD_eq_getD_getElem?, List.getElem?_toArray, List.getElem?_cons_succ, List.getElem?_cons_zero, Option.getD_some]
  repeat (any_goals (first | go_big_quiet_step (fail) | quiet_step (fail)))
  refine wpQuiet_nil ?_
  refine wpList_copy_str rfl _ _ 120 9 rfl 5 Try.underlying120 size_byte b (9 + t) (64 - t) (64 - t) ⟨R.toArray⟩ ?_ rfl THR.out ?_
  · rfl
  generalize hk : Nat.min (ByteArray.mk R.toArray).size (64 - t) = k at *
  have hk2 : k = min R.length (64 - t) := by rw [← hk, hsz]
  clear hk
  obtain ⟨E, hE⟩ : ∃ E, E = R.take k := ⟨_, rfl⟩
  have hEl : E.length = k := by rw [hE, List.length_take]; omega
  have hEd : List.take k (ByteArray.mk R.toArray).data.toList = E := by rw [hE]
  rw [hEd]
  refine list_abs (fun w6 => FoldAt b (absorbK h0 (T ++ A) p) (64 * p) (D.take t ++ (E ++ D.drop (t + E.length))) t w6 ∧ Only b wc w6) ⟨(FF.out.drewN 1).setD t E (by omega), ((Only.refl b wc).drewN 1).trans (setCells_only b _ _ _)⟩ (fun w6 hw6 => ?_)
  obtain ⟨F6, o6⟩ := hw6
  have cAt := F6.cellAt
  have fAt := F6.frozen 73
  have FF6 := Lib.hid F6
  clear F6 FF THR hEd
  have hkR : k ≤ R.length := by omega
  have hsum : t + k ≤ 64 := by omega
  have hk0 : 0 < k := by omega
  clear hk2
  go_upto_region 7 with (fail)
  refine wp_abs (fun w7 => FoldAt b (absorbK h0 (T ++ A) p) (64 * p) (D.take t ++ (E ++ D.drop (t + E.length))) (t + k) w7 ∧ Only b wc w7) ⟨by have := FF6.out.setAt (t + k); push_cast at this; exact this, o6.setCell _ _⟩ (fun w7 hw7 => ?_)
  obtain ⟨F7, o7⟩ := hw7
  clear cAt fAt FF6 o6
  have F7 := Lib.hid F7
  go_wp2_with fail
  go_roundw
  case rel =>
    rw [extract_drop]
    have hER : R = E ++ R.drop k := by rw [hE, List.take_append_drop]
    have m7 : MidL (T ++ (A ++ E)) p (t + k) (D.take t ++ (E ++ D.drop (t + E.length))) := by
      have := mm.out.more E (by omega)
      rw [List.append_assoc] at this
      rw [hEl] at this ⊢
      exact this
    have f7 : FoldAt b (absorbK h0 (T ++ (A ++ E)) p) (64 * p) (D.take t ++ (E ++ D.drop (t + E.length))) (t + k) w7 := by
      rw [← List.append_assoc, absorbK_append _ _ _ p (by have := mm.out.len; omega)]
      exact F7.out
    exact ⟨A ++ E, R.drop k, by rw [HR.out, List.append_assoc, ← hER], rfl, ⟨p, t + k, _, m7, Or.inr (by omega), f7⟩, gtrans gr (grown_only o7)⟩
  case measure =>
    rw [extract_drop]
    show (ByteArray.mk (R.drop k).toArray).size < (ByteArray.mk R.toArray).size
    rw [size_mk, size_mk, List.length_drop]
    omega
end Go.Proofs.Ytnohcdpnnhmpfaa
