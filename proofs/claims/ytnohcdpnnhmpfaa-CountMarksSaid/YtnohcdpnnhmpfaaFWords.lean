/-
  (*folding).words: sixteen words out of the 64 bytes that are held.
-/
import Derived.Test.YtnohcdpnnhmpfaaFFold
namespace Go.Proofs.Ytnohcdpnnhmpfaa
open Go.RowKit ML FM

theorem info_64 : (Try.prog.info? 97).map (·.size) = some 64 := by kernel_rfl
set_option maxHeartbeats 4000000 in
set_option maxRecDepth 100000 in
theorem words_any (b : Nat) (H : List U) (n : Nat) (D : Bytes) (t : Nat) (w : World) (hF : FoldAt b H n D t w) :
    Calls Try.prog 102 #[.pointer (some ⟨b, 0, none⟩)] w fun e w' => e = .returned (.agg (vals (wordsL D))) ∧ Below w.heap.size w w' := by
  have HF := Lib.hid hF
  have HDL := Lib.hid hF.dl
  have hlt : b < w.heap.size := lt_of_heap hF.blk
  clear hF
  go_enter Try.func102, Try.ntmps102
  go_upto_region 1 with (fail)
  refine wp_abs (fun w1 => Below w.heap.size w w1 ∧ FoldAt b H n D t w1 ∧ w1.heap[w.heap.size]? = some (.cells (vals (List.replicate 16 0)) 123 (0, 0))) ?_ (fun w1 hw1 => ?_)
  · refine ⟨(Below.refl _ _).alloc (Nat.le_refl _) _, HF.out.below ((Below.refl _ _).alloc (Nat.le_refl _) _) hlt, heap_at rfl⟩
  obtain ⟨hbel, hf, hv⟩ := hw1
  have HI := Lib.hid (show (Try.prog.info? 97).map (·.size) = some (Lib.byteCells D).length by rw [length_byteCells, HDL.out]; exact info_64)
  go_upto_region 2 with (refine wpList_load_mid rfl 97 _ rfl b 9 rfl (Lib.byteCells D) _ hf.rangeD Try.underlying97 rfl HI.out ?_)
  generalize hB : w.heap.size = B at *
  have HB := Lib.hid hB
  clear hB
  go_loopw [9] (fun i wr => ∃ k : Nat, k ≤ 64 ∧ i = .int .i64 k ∧ Below B w wr ∧ FoldAt b H n D t wr ∧ wr.heap[B]? = some (.cells (vals (wordsL (D.take k))) 123 (0, 0))) (fun i _ => 64 - (intOf i).toNat)
  case atStart => exact ⟨0, by omega, rfl, hbel, hf, hv⟩
  case round =>
  obtain ⟨k, hk, rfl, bel, S, hV⟩ := hrel
  clear hbel hf hv
  by_cases hlt2 : k < 64
  · have hd64 : decide ((k : Int) < 64) = true := by simp; omega
    have hlen : (Lib.byteCells D).toArray.size = 64 := by simp [length_byteCells, HDL.out]
    have hidx : (Lib.byteCells D)[k]? = some (.int .u8 ((D.getD k 0).toNat : Int)) := by simp [Lib.byteCells, List.getD_eq_getElem?_getD, HDL.out, hlt2]
    have hix : ∀ w, (Instr.index 97 (.agg (Lib.byteCells D).toArray) (.int .i64 (k : Int))).run Try.prog w = .ok (.int .u8 ((D.getD k 0).toNat : Int)) w := fun w => run_index_row w 97 5 64 _ .i64 .u8 k _ Try.underlying97 hlt2 size_byte Try.underlying5 (by simpa using hidx)
    go_upto_region 4 with (fail)
    have hstep := wordsL_step D k
    have hc : byteN D k < 256 := byteN_lt D k
    unfold byteN at hstep hc
    rw [List.getD_eq_getElem?_getD] at hstep hc
    clear hidx hix
    generalize (D[k]?.getD 0).toNat = c at *
    have c0 := cell_get hV (k / 4) (by rw [length_wordsL]; omega)
    have f0 := frozen_get hV (k / 4)
    obtain ⟨q, hq⟩ : ∃ q, q = k / 4 := ⟨_, rfl⟩
    obtain ⟨r, hr⟩ : ∃ r, r = k % 4 := ⟨_, rfl⟩
    rw [← hq] at hstep c0 f0
    rw [← hr] at hstep
    have hor := or_word (wordN (D.take k) q) c (8 * r) (by rw [hq, hr]; exact wordN_part D k) hc (by omega)
    have hw := getD_wordsL (D.take k) q (by omega)
    rw [hw] at c0
    have q4 : (k : Int) / 4 = (q : Int) := by omega
    have r4 : (k : Int) % 4 = (r : Int) := by omega
    have q5 : Int.tdiv (k : Int) 4 = (q : Int) := by rw [Int.tdiv_eq_ediv_of_nonneg (by omega)]; exact q4
    have r5 : Int.tmod (k : Int) 4 = (r : Int) := by rw [Int.tmod_eq_emod_of_nonneg (by omega)]; exact r4
    have hq16 : q < 16 := by omega
    have hr4 : r < 4 := by omega
    clear hq hr
    clear hw
    generalize BitVec.ofNat 32 (wordN (D.take k) q + c * 2 ^ (8 * r)) = y0 at *
    generalize BitVec.ofNat 32 (wordN (D.take k) q) = x0 at *
    have HST := Lib.hid hstep
    clear hstep
    refine Seg.wp_region_segs (fun w' => ∃ n, w' = wr.drewN n) [] [0, 1, 2, 3, 4, 5, 6, 7, 8, 9] 10 (by kernel_rfl) (by kernel_rfl) (fun _ _ d _ _ h => by cases d <;> exact h) (⟨1, rfl⟩) ?_
    simp only [List.map_cons, List.map_nil, Seg.opAt, List.drop_succ_cons, List.drop_zero, Seg.wpSegs, Array.getD_eq_getD_getElem?, List.getElem?_toArray, List.getElem?_cons_succ, List.getElem?_cons_zero, Option.getD_some]
    repeat (any_goals (first | go_big_quiet_step (fail) | quiet_step (fail)))
    refine wpQuiet_nil ?_
    go_upto_region 5 with (fail)
    refine wp_abs (fun w5 => Below B w w5 ∧ FoldAt b H n D t w5 ∧ w5.heap[B]? = some (.cells (vals (wordsL (D.take (k + 1)))) 123 (0, 0))) ?_ (fun w5 hw5 => ?_)
    · have ho : Only B wr ((wr.drewN 1).setCell ⟨B, q, none⟩ (.int .u32 (un y0))) := ((Only.refl B wr).drewN 1).setCell _ _
      refine ⟨bel_only bel ho (Nat.le_refl _), S.only ho (by omega), ?_⟩
      rw [HST.out]
      exact heap_set (w := wr.drew) hV _ _
    obtain ⟨b5, S5, hV5⟩ := hw5
    clear S bel hV c0 f0 HST hor
    go_wp2_with fail
    go_roundw
    case rel => exact ⟨k + 1, by omega, by go_num, b5, S5, hV5⟩
    case measure => simp [intOf]; omega
  have hd64 : decide ((k : Int) < 64) = false := by simp; omega
  obtain rfl : k = 64 := by omega
  rw [List.take_of_length_le (by rw [HDL.out]; exact Nat.le_refl _)] at hV
  have hs := Lib.hid (show (Try.prog.info? 123).map (·.size) = some (vals (wordsL D)).size by rw [size_vals, length_wordsL]; exact size_words)
  go_upto_region 6 with (fail)
  apply wp_region_lit
  refine wpList_load_whole rfl 123 _ rfl B (vals (wordsL D)) _ _ _ rfl hV Try.underlying123 rfl hs.out ?_
  refine wpList_store_whole rfl rfl 123 _ _ rfl B (vals (wordsL D)) (vals (wordsL D)) 123 rfl rfl hV rfl hs.out (oneCell_vals _) ?_
  intro w6 ho hp
  go_wp2_with fail
  refine bodyPost_ret (results_cell_row rfl _ w6 B _ _ _ _ rfl hp Try.underlying123 rfl hs.out) rfl ⟨rfl, ?_⟩
  rw [HB.out]
  exact bel_only bel ho (Nat.le_refl _)
end Go.Proofs.Ytnohcdpnnhmpfaa
