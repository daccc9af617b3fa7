/-
  The reference's start and Press: for any words.
-/
import Derived.Test.YtnohcdpnnhmpfaaFPress
import Derived.Test.YtnohcdpnnhmpfaaFRStir
namespace Go.Proofs.Ytnohcdpnnhmpfaa
open Go.RowKit ML FM

set_option maxHeartbeats 1000000 in
set_option maxRecDepth 100000 in
theorem refStart_any (w : World) :
    Calls Try.prog 112 #[] w fun e w' => e = .returned (.agg (vals ivL)) ∧ Below w.heap.size w w' := by
  have HF := Lib.hid (show (Try.prog.info? 96).map (·.size) = some (vals ivL).size by kernel_rfl)
  go_enter Try.func112, Try.ntmps112
  go_wp2_with (refine wpList_store_whole rfl rfl 96 _ _ rfl w.heap.size (vals (List.replicate 8 0)) (vals ivL) 96 rfl rfl (heap_at rfl) rfl HF.out (oneCell_vals _) ?_; intro w2 ho hp)
  refine bodyPost_ret (results_cell_row rfl _ w2 w.heap.size _ _ _ _ rfl hp Try.underlying96 rfl HF.out) rfl ⟨rfl, ?_⟩
  exact bel_only ((Below.refl _ _).alloc (Nat.le_refl _) _) ho (Nat.le_refl _)

set_option maxHeartbeats 4000000 in
set_option maxRecDepth 100000 in
theorem refPress_any (H M : List U) (n : Nat) (last : Bool) (w : World) (hH : H.length = 8) (hM : M.length = 16) (hn : n < 18446744073709551616) :
    Calls Try.prog 114 #[.agg (vals H), .agg (vals M), .int .u64 (n : Int), .bool last] w fun e w' => e = .returned (.agg (vals (pressL H M n last))) ∧ Below w.heap.size w w' := by
  have HH := Lib.hid hH
  have HM := Lib.hid hM
  have HN := Lib.hid hn
  clear hH hM hn
  go_enter Try.func114, Try.ntmps114
  go_upto_region 2 with (fail)
  refine wp_abs (fun w1 => Below w.heap.size w w1 ∧ w1.heap.size = w.heap.size + 4 ∧ w1.heap[w.heap.size]? = some (.cells (vals H) 96 (0, 0)) ∧
    w1.heap[w.heap.size + 1]? = some (.cells (vals M) 123 (0, 0)) ∧ w1.heap[w.heap.size + 2]? = some (.cells (vals (List.replicate 8 0)) 96 (0, 0)) ∧
    w1.heap[w.heap.size + 3]? = some (.cells (vals (List.replicate 16 0)) 123 (0, 0))) ?_ (fun w1 hw1 => ?_)
  · refine ⟨((((Below.refl _ _).alloc (Nat.le_refl _) _).alloc (by simp) _).alloc (by simp; omega) _).alloc (by simp; omega) _, by simp, ?_, ?_, ?_, ?_⟩
    · exact heap_lt (heap_lt (heap_lt (heap_at rfl)))
    · exact heap_lt (heap_lt (heap_at (by simp)))
    · exact heap_lt (heap_at (by simp))
    · exact heap_at (by simp)
  obtain ⟨hbel, hsz, h0, h1, h2, h3⟩ := hw1
  generalize hB : w.heap.size = B at *
  have HB := Lib.hid hB
  have H0 := Lib.hid h0
  have H1 := Lib.hid h1
  have H2 := Lib.hid h2
  have H3 := Lib.hid h3
  have HBE := Lib.hid hbel
  have HSZ := Lib.hid hsz
  clear hB h0 h1 h2 h3 hbel hsz
  have HI8 := Lib.hid (show (Try.prog.info? 96).map (·.size) = some (vals ivL).size by kernel_rfl)
  go_upto_region 3 with (first
    | (go_at_call 112; refine (refStart_any _).mono ?_; rintro e w2 ⟨rfl, hb2⟩)
    | (refine wpList_store_whole rfl rfl 96 _ _ rfl w2.heap.size (vals (List.replicate 8 0)) (vals ivL) 96 rfl rfl (heap_at rfl) rfl HI8.out (oneCell_vals _) ?_; intro w3 ho3 hp3))
  have b3 : Below (B + 4) w1 w3 := by
    have := hb2.size
    rw [HSZ.out] at hb2 this
    exact (hb2.alloc (by omega) _).trans (ho3.below (by omega))
  have hD : B + 4 ≤ w2.heap.size := by have := hb2.size; rw [HSZ.out] at this; exact this
  generalize w2.heap.size = D at *
  have S3 : PressSt B w H M (List.replicate 16 0) w3 := ⟨HBE.out.trans (b3.mono (by omega)), bel_keep b3 (by omega) H0.out, bel_keep b3 (by omega) H1.out, bel_keep b3 (by omega) H2.out, bel_keep b3 (by omega) H3.out⟩
  have HP3 := Lib.hid hp3
  clear hb2 ho3 b3 H0 H1 H2 H3 HBE HSZ hp3
  go_wp2_with fail
  go_loopw [11] (fun i wr => ∃ k : Nat, k ≤ 8 ∧ i = .int .i64 k ∧ PressSt B w H M (fillK H k) wr ∧ wr.heap[D]? = some (.cells (vals ivL) 96 (0, 0))) (fun i _ => 8 - (intOf i).toNat)
  case atStart => exact ⟨0, by omega, rfl, S3, HP3.out⟩
  case round =>
  obtain ⟨k, hk, rfl, S, hE⟩ := hrel
  clear S3 HP3
  by_cases hlt : k < 8
  · have hd8 : decide ((k : Int) < 8) = true := by simp; omega
    have c0 := cell_get S.h k (by rw [HH.out]; exact hlt)
    have f1 := frozen_get S.v k
    have f2 := frozen_get S.v (k + 8)
    have g1 := cell_get S.v k (by rw [length_fillK]; omega)
    have g2 := cell_get S.v (k + 8) (by rw [length_fillK]; omega)
    have c1 := cell_get hE k hlt
    have hnext := fillK_succ H k
    generalize H.getD k 0 = x0 at *
    generalize ivL.getD k 0 = x1 at *
    generalize (fillK H k).getD k 0 = y0 at *
    generalize (fillK H k).getD (k + 8) 0 = y1 at *
    have HNX := Lib.hid hnext
    have HE := Lib.hid hE
    clear hnext hE
    go_upto_region 5 with (fail)
    refine wp_abs (fun w5 => PressSt B w H M (fillK H (k + 1)) w5 ∧ w5.heap[D]? = some (.cells (vals ivL) 96 (0, 0)))
      ⟨by rw [HNX.out]; exact S.turnedV (((Only.refl _ wr).setCell _ _).setCell _ _) (heap_set (heap_set S.v _ _) _ _), (((Only.refl _ wr).setCell _ _).setCell _ _).keep (by omega) HE.out⟩ (fun w5 hw5 => ?_)
    obtain ⟨S5, hE5⟩ := hw5
    clear S c0 f1 f2 g1 g2 c1 HE HNX
    go_wp2_with fail
    go_roundw
    case rel => exact ⟨k + 1, by omega, by go_num, S5, hE5⟩
    case measure => simp [intOf]; omega
  have hd8 : decide ((k : Int) < 8) = false := by simp; omega
  obtain rfl : k = 8 := by omega
  rw [fillK_all H HH.out] at S
  clear hE
  go_upto_region 8 with (fail)
  refine wp_abs (fun w6 => PressSt B w H M (H ++ ivL) w6) S (fun w6 S6 => ?_)
  clear S
  have hl : (H ++ ivL).length = 16 := by simp [HH.out, ivL]
  have hfin := fun x12 x13 h12 h13 => pressV_of H _ n last x12 x13 rfl h12 h13
  generalize H ++ ivL = V at *
  have c12 := cell_get S6.v 12 (by omega)
  have c13 := cell_get S6.v 13 (by omega)
  have f12 := frozen_get S6.v 12
  have f13 := frozen_get S6.v 13
  have u0 := un_low n
  have u1 := un_high64 n HN.out
  have RX := r_xor
  have hfin' := hfin _ _ rfl rfl
  clear hfin
  generalize V.getD 12 0 = x12 at *
  generalize V.getD 13 0 = x13 at *
  have HL := Lib.hid hl
  have HFIN := Lib.hid hfin'
  clear hl hfin'
  go_upto_region 10 with (fail)
  refine wp_abs (fun w7 => PressSt B w H M ((V.set 12 (x12 ^^^ BitVec.ofNat 32 n)).set 13 (x13 ^^^ BitVec.ofNat 32 (n / 4294967296))) w7)
    (S6.turnedV (((Only.refl _ w6).setCell _ _).setCell _ _) (heap_set (heap_set S6.v _ _) _ _)) (fun w7 S7 => ?_)
  have hfin := HFIN.out
  have hl2 : ((V.set 12 (x12 ^^^ BitVec.ofNat 32 n)).set 13 (x13 ^^^ BitVec.ofNat 32 (n / 4294967296))).length = 16 := by simp [HL.out]
  clear S6 c12 c13 f12 f13 u0 u1 HFIN HL
  generalize (V.set 12 (x12 ^^^ BitVec.ofNat 32 n)).set 13 (x13 ^^^ BitVec.ofNat 32 (n / 4294967296)) = V2 at *
  have HFIN := Lib.hid hfin
  clear hfin
  have c14 := cell_get S7.v 14 (by omega)
  have f14 := frozen_get S7.v 14
  have HLV := Lib.hid (length_pressV H n last HH.out)
  clear hl2
  generalize V2.getD 14 0 = x14 at *
  have RN := un_not x14
  have un0 := un_nonneg x14
  have un1 := un_lt x14
  go_upto_if 44 with (fail)
  go_cut [] (fun w' => PressSt B w H M (pressV H n last) w')
  case first =>
    cases last
    · go_wp2_with fail
      go_meet
      case rel => rw [HFIN.out]; exact S7
    · go_wp2_with fail
      go_meet
      case rel => rw [HFIN.out]; exact S7.turnedV ((Only.refl _ w7).setCell _ _) (heap_set S7.v _ _)
  case rest =>
    have S8 : PressSt B w H M (pressV H n last) wc := hcut
    clear hcut S7 c14 f14 RN un0 un1 HFIN
    have HZ := Lib.hid (show pressL H M n last = mixK H (stirK (pressV H n last) M 80) 8 from rfl)
    generalize pressV H n last = V3 at *
    have s1 := Lib.hid (show (Try.prog.info? 123).map (·.size) = some (vals V3).size by rw [size_vals, HLV.out]; exact size_words)
    have s2 := Lib.hid (show (Try.prog.info? 123).map (·.size) = some (vals M).size by rw [size_vals, HM.out]; exact size_words)
    have s3 := Lib.hid (show (Try.prog.info? 123).map (·.size) = some (vals (stirK V3 M 80)).size by rw [size_vals, length_stirK, HLV.out]; exact size_words)
    have hlW : (stirK V3 M 80).length = 16 := by rw [length_stirK, HLV.out]
    have hB4 : B + 4 ≤ wc.heap.size := lt_of_heap S8.v
    go_upto_region 12 with (fail)
    apply wp_region_lit
    refine wpList_load_whole rfl 123 _ rfl (B + 3) (vals V3) _ _ _ rfl S8.v Try.underlying123 rfl s1.out ?_
    refine wpList_load_whole rfl 123 _ rfl (B + 1) (vals M) _ _ _ rfl S8.m Try.underlying123 rfl s2.out ?_
    have QQ := Lib.hid (refStir_any V3 M wc HLV.out HM.out)
    generalize stirK V3 M 80 = Z at *
    go_upto_region 13 with (first
      | (go_at_call 118; refine QQ.out.mono ?_; rintro e w2 ⟨rfl, hb2⟩)
      | (refine wpList_store_whole rfl rfl 123 _ _ rfl w2.heap.size (vals (List.replicate 16 0)) (vals Z) 123 rfl rfl (heap_at rfl) (by rw [size_vals, size_vals, hlW]; rfl) s3.out (oneCell_vals _) ?_; intro w3 ho3 hp3))
    have hD2 : B + 4 ≤ w2.heap.size := Nat.le_trans hB4 hb2.size
    have b3 : Below (B + 4) wc w3 := ((hb2.mono hB4).alloc hD2 _).trans (ho3.below hD2)
    have S9 := S8.kept b3
    generalize w2.heap.size = E at *
    clear S8 b3 ho3 hb2 QQ hB4 s1 s2 s3
    go_wp2_with fail
    go_loopw [13] (fun i wr => ∃ k : Nat, k ≤ 8 ∧ i = .int .i64 k ∧ PressSt B w (mixK H Z k) M V3 wr ∧ wr.heap[E]? = some (.cells (vals Z) 123 (0, 0))) (fun i _ => 8 - (intOf i).toNat)
    case atStart => exact ⟨0, by omega, rfl, S9, hp3⟩
    case round =>
      obtain ⟨k, hk, rfl, S, hE⟩ := hrel
      clear S9 hp3
      by_cases hlt : k < 8
      · have hd8 : decide ((k : Int) < 8) = true := by simp; omega
        have hlk : (mixK H Z k).length = 8 := by rw [length_mixK, HH.out]
        have c0 := cell_get S.h k (by omega)
        have f0 := frozen_get S.h k
        have c1 := cell_get hE k (by omega)
        have c2 := cell_get hE (k + 8) (by omega)
        have hnext := mixK_succ H Z k
        rw [← BitVec.xor_assoc] at hnext
        generalize (mixK H Z k).getD k 0 = x0 at *
        generalize Z.getD k 0 = x1 at *
        generalize Z.getD (k + 8) 0 = x2 at *
        have HNX := Lib.hid hnext
        clear hnext hlk
        have HE := Lib.hid hE
        clear hE
        go_upto_region 16 with (fail)
        refine Seg.wp_region_segs (fun w' => ∃ n, w' = wr.drewN n) [] [0, 1, 2, 3, 4, 5, 6, 7, 8, 9, 10, 11, 12] 13 (by kernel_rfl) (by kernel_rfl) (fun _ _ d _ _ h => by cases d <;> exact h) (⟨1, rfl⟩) ?_
        simp only [List.map_cons, List.map_nil, Seg.opAt, List.drop_succ_cons, List.drop_zero, Seg.wpSegs, Array.getD_eq_getD_getElem?, List.getElem?_toArray, List.getElem?_cons_succ, List.getElem?_cons_zero, Option.getD_some]
        repeat (any_goals (first | go_big_quiet_step (fail) | quiet_step (fail)))
        refine wpQuiet_nil ?_
        go_upto_region 15 with (fail)
        refine wp_abs (fun w5 => PressSt B w (mixK H Z (k + 1)) M V3 w5 ∧ w5.heap[E]? = some (.cells (vals Z) 123 (0, 0)))
          ⟨by rw [HNX.out]; exact S.turnedH (((Only.refl B wr).drewN 1).setCell _ _) (heap_set (w := wr.drew) S.h _ _), (((Only.refl B wr).drewN 1).setCell k _).keep (by omega) HE.out⟩ (fun w5 hw5 => ?_)
        obtain ⟨S5, hE5⟩ := hw5
        clear S c0 f0 c1 c2 HE HNX
        go_wp2_with fail
        go_roundw
        case rel => exact ⟨k + 1, by omega, by go_num, S5, hE5⟩
        case measure => simp [intOf]; omega
      · have hd8 : decide ((k : Int) < 8) = false := by simp; omega
        obtain rfl : k = 8 := by omega
        have hs8 := Lib.hid (show (Try.prog.info? 96).map (·.size) = some (vals (mixK H Z 8)).size by rw [size_vals, length_mixK, HH.out]; exact size_eight)
        go_upto_region 17 with (fail)
        apply wp_region_lit
        refine wpList_load_whole rfl 96 _ rfl B (vals (mixK H Z 8)) _ _ _ rfl S.h Try.underlying96 rfl hs8.out ?_
        refine wpList_store_whole rfl rfl 96 _ _ rfl (B + 2) (vals (List.replicate 8 0)) (vals (mixK H Z 8)) 96 rfl rfl S.r ?_ hs8.out (oneCell_vals _) ?_
        · rw [size_vals, size_vals, length_mixK, HH.out]; rfl
        intro w6 ho hp
        go_wp2_with fail
        refine bodyPost_ret (results_cell_row rfl _ w6 (B + 2) _ _ _ _ rfl hp Try.underlying96 rfl hs8.out) rfl ⟨by rw [HZ.out], ?_⟩
        rw [HB.out]
        exact bel_only S.below ho (by omega)
end Go.Proofs.Ytnohcdpnnhmpfaa
