/-
  Chapter 14: audit.Begin. Printed by tools/genbeg.py.
-/
import Derived.Test.YtlbdcgnpkapncaaDoorAuB
import Derived.Test.YtlbdcgnpkapncaaDoorPlan
namespace Go.Proofs.YtlbdcgnpkapncaaDoor
set_option linter.unusedVariables false
set_option linter.unusedSimpArgs false
open Go.RowKit ML FM AU

def btwB (n lo hi : Int) : Bool := decide (lo ≤ n ∧ n ≤ hi)
theorem btw_any (n lo hi : Int) (w : World) :
    Calls Tryd.prog 22 #[.int .i64 n, .int .i64 lo, .int .i64 hi] w fun e w' => e = .returned (.bool (btwB n lo hi)) ∧ w = w' := between_any n lo hi w
theorem info_bool : (Tryd.prog.info? 4).map (fun i => (i.zero, i.size, i.bytes)) = some (some (.bool false), 1, 1) := by kernel_rfl
def winsL (n : Nat) (W : List Int) (k : Nat) : List Value := (List.range n).map (fun (x : Nat) => Value.bool (decide ((x : Int) ∈ W.take k)))
theorem length_winsL (n : Nat) (W : List Int) (k : Nat) : (winsL n W k).length = n := by simp [winsL]
theorem winsL_get (n : Nat) (W : List Int) (k y : Nat) (h : y < n) : (winsL n W k)[y]? = some (.bool (decide ((y : Int) ∈ W.take k))) := by simp [winsL, h]
theorem winsL_zero (n : Nat) (W : List Int) : winsL n W 0 = List.replicate n (.bool false) := by
  apply List.ext_getElem (by simp [winsL])
  intro i h1 h2
  simp [winsL]
theorem winsL_set (n : Nat) (W : List Int) (k y : Nat) (hk : k < W.length) (h : W[k] = (y : Int)) : (winsL n W k).set y (.bool true) = winsL n W (k + 1) := by
  apply List.ext_getElem (by simp [winsL])
  intro i h1 h2
  rw [List.getElem_set]
  simp only [winsL, List.getElem_map, List.getElem_range]
  rw [List.take_succ_eq_append_getElem hk, h]
  by_cases hy : y = i
  · rw [if_pos hy, hy]; simp
  · rw [if_neg hy]
    have : ((i : Int) ∈ List.take k W ++ [(y : Int)]) ↔ ((i : Int) ∈ List.take k W) := by
      rw [List.mem_append, List.mem_singleton]
      constructor
      · rintro (h3 | h3)
        · exact h3
        · omega
      · exact .inl
    simp only [this]
set_option maxHeartbeats 2000000 in
set_option maxRecDepth 100000 in
theorem audBegin_any (T W : List Int) (N D : Bytes) (oT oW : Option Addr) (cT cW : Nat) (w : World) (hT : IsAt w oT T) (hW : IsAt w oW W) (lT : T.length < 9223372036854775808) (lW : W.length < 9223372036854775808) (hN : N.length < 140737488355328) (hD : D.length < 140737488355328) :
    Calls Tryd.prog 8 #[.slice oT T.length cT, .slice oW W.length cW, .agg #[.string ⟨N.toArray⟩, .string ⟨D.toArray⟩]] w (BegGot T W N D w) := by
  have QB := Lib.hid btw_any
  have QC := Lib.hid (fun w h => containsBad_any oT T cT w h (by omega))
  have QR := Lib.hid (fun w => audRisk_any N D w hN hD)
  have HS := Lib.hid size_watch
  have HSF := Lib.hid size_lfr
  obtain ⟨j0, hi, hz0, hz1, hz2⟩ := info_parts info_i64
  have J0 := Lib.hid hi
  have JZ0 := Lib.hid hz0
  have JZ1 := Lib.hid hz1
  have JZ2 := Lib.hid hz2
  clear hi hz0 hz1 hz2
  obtain ⟨f0, hi, hz0, hz1, hz2⟩ := info_parts info_frac
  have F0 := Lib.hid hi
  have FZ0 := Lib.hid hz0
  have FZ1 := Lib.hid hz1
  have FZ2 := Lib.hid hz2
  clear hi hz0 hz1 hz2
  obtain ⟨i0, hi, hz0, hz1, hz2⟩ := info_parts info_bool
  have HI := Lib.hid hi
  have HZ0 := Lib.hid hz0
  have HZ1 := Lib.hid hz1
  have HZ2 := Lib.hid hz2
  have HT := Lib.hid hT
  have HW := Lib.hid hW
  unfold ARGot at QR
  clear hi hz0 hz1 hz2 hT hW hN hD
  go_enter Tryd.func8, Tryd.ntmps8
  go_upto_region 1 with (fail)
  have BX := BoxR.mk' w #[.string ⟨N.toArray⟩, .string ⟨D.toArray⟩] #[.slice none 0 0, .slice none 0 0, .slice none 0 0, .slice none 0 0, .string ⟨#[]⟩, .string ⟨#[]⟩, .int .i64 0] 24 27
  generalize hB : w.heap.size = B at *
  refine wp_abs (fun w1 => BoxR B w w1 #[.string ⟨N.toArray⟩, .string ⟨D.toArray⟩] #[.slice none 0 0, .slice none 0 0, .slice none 0 0, .slice none 0 0, .string ⟨#[]⟩, .string ⟨#[]⟩, .int .i64 0] 24 27) BX (fun w1 B1 => ?_)
  have HB := Lib.hid hB
  have hBs1 : B + 1 < w1.heap.size := lt_of_heap B1.z
  have HB1 := Lib.hid B1
  clear BX hB B1
  have hl1 : (T.length : Int) - 1 < 9223372036854775808 := by omega
  by_cases h1 : 2 ≤ T.length ∧ T.length ≤ 12
  case neg =>
    have HE := Lib.hid (show begE T W N D = 2 from if_pos (by omega))
    have b1 : btwB (T.length : Int) 2 12 = false := decide_eq_false (by omega)
    clear h1
    go_wp2_with (first | (go_at_call 22; refine (QB.out _ _ _ _).mono ?_; rintro e w3 ⟨rfl, rfl⟩) | (refine wpList_store_whole rfl rfl 27 _ _ rfl (B + 1) #[.slice none 0 0, .slice none 0 0, .slice none 0 0, .slice none 0 0, .string ⟨#[]⟩, .string ⟨#[]⟩, .int .i64 0] #[.slice none 0 0, .slice none 0 0, .slice none 0 0, .slice none 0 0, .string ⟨#[]⟩, .string ⟨#[]⟩, .int .i64 0] 27 rfl rfl HB1.out.z rfl HS.out (seven_one _ _ _ _ _ _ _ rfl rfl rfl rfl rfl rfl rfl) ?_; intro w9 ho hp))
    refine bodyPost_ret (results_cell_tmp rfl _ w9 (B + 1) _ _ _ _ _ rfl rfl hp Tryd.underlying27 rfl HS.out) rfl (begGot_bad HE.out (by decide) rfl (bel_only (by rw [HB.out]; exact HB1.out.bel) ho (by rw [HB.out]; omega)))
  have b1 : btwB (T.length : Int) 2 12 = true := decide_eq_true (by omega)
  by_cases h2 : 1 ≤ W.length ∧ W.length < T.length
  case neg =>
    have HE := Lib.hid (show begE T W N D = 2 from if_pos (by omega))
    have b2 : btwB (W.length : Int) 1 ((T.length : Int) - 1) = false := decide_eq_false (by omega)
    clear h1 h2
    go_wp2_with (first | (go_at_call 22; refine (QB.out _ _ _ _).mono ?_; rintro e w3 ⟨rfl, rfl⟩) | (refine wpList_store_whole rfl rfl 27 _ _ rfl (B + 1) #[.slice none 0 0, .slice none 0 0, .slice none 0 0, .slice none 0 0, .string ⟨#[]⟩, .string ⟨#[]⟩, .int .i64 0] #[.slice none 0 0, .slice none 0 0, .slice none 0 0, .slice none 0 0, .string ⟨#[]⟩, .string ⟨#[]⟩, .int .i64 0] 27 rfl rfl HB1.out.z rfl HS.out (seven_one _ _ _ _ _ _ _ rfl rfl rfl rfl rfl rfl rfl) ?_; intro w9 ho hp))
    refine bodyPost_ret (results_cell_tmp rfl _ w9 (B + 1) _ _ _ _ _ rfl rfl hp Tryd.underlying27 rfl HS.out) rfl (begGot_bad HE.out (by decide) rfl (bel_only (by rw [HB.out]; exact HB1.out.bel) ho (by rw [HB.out]; omega)))
  have b2 : btwB (W.length : Int) 1 ((T.length : Int) - 1) = true := decide_eq_true (by omega)
  have HE0 := Lib.hid (show begE T W N D = _ from if_neg (show ¬ (T.length < 2 ∨ 12 < T.length ∨ W.length < 1 ∨ T.length ≤ W.length) by omega))
  obtain ⟨n, hn⟩ : ∃ n, n = T.length := ⟨_, rfl⟩
  obtain ⟨m, hm⟩ : ∃ m, m = W.length := ⟨_, rfl⟩
  have HN := Lib.hid hn
  have HM := Lib.hid hm
  have hn12 : n ≤ 12 := by omega
  have hmn : m < n := by omega
  rw [← hn] at b1 b2 HE0 hl1
  rw [← hm] at b2 HE0
  rw [← hn] at QC
  rw [← hn, ← hm]
  clear h1 h2 lT lW hn hm
  go_upto_region 5 with (first | (go_at_call 22; refine (QB.out _ _ _ _).mono ?_; rintro e w3 ⟨rfl, rfl⟩) | (refine wpList_make_row _ rfl _ _ 47 rfl 4 i0 (.bool false) Tryd.underlying47 HI.out HZ0.out HZ1.out rfl .i64 .i64 n rfl rfl (by rw [HZ2.out]; omega) (by omega) ?_))
  generalize hF : w1.heap.size = F at *
  have hBF : B + 1 < F := hBs1
  refine wp_abs (fun w4 => BoxR B w w4 #[.string ⟨N.toArray⟩, .string ⟨D.toArray⟩] #[.slice none 0 0, .slice none 0 0, .slice none 0 0, .slice none 0 0, .string ⟨#[]⟩, .string ⟨#[]⟩, .int .i64 0] 24 27 ∧ w4.heap[F]? = some (.cells (winsL n W 0).toArray 4 (0, 0))) ⟨HB1.out.keep (by omega) ((Below.refl _ _).alloc (Nat.le_refl _) _), by
    have e : madeCells #[Value.bool false] n = (winsL n W 0).toArray := by
      rw [winsL_zero, ← toList_madeCells_one]
    rw [e, ← hF]; exact heap_at rfl⟩ (fun w4 hw4 => ?_)
  have HB4 := Lib.hid hw4.1
  have HF4 := Lib.hid hw4.2
  clear hw4 b1 b2 hF HB1 hBs1 HI HZ0 HZ1 HZ2
  go_upto_region 6 with (fail)
  go_loopw [37] (fun i wr => ∃ k : Nat, k ≤ m ∧ i = .int .i64 k ∧ BoxR B w wr #[.string ⟨N.toArray⟩, .string ⟨D.toArray⟩] #[.slice none 0 0, .slice none 0 0, .slice none 0 0, .slice none 0 0, .string ⟨#[]⟩, .string ⟨#[]⟩, .int .i64 0] 24 27 ∧ wr.heap[F]? = some (.cells (winsL n W k).toArray 4 (0, 0)) ∧ wOK n W k) (fun i _ => m - (intOf i).toNat)
  case atStart => exact ⟨0, by omega, rfl, HB4.out, HF4.out, fun j _ h => by omega⟩
  case round =>
  obtain ⟨k, hk, rfl, bxr, hfr, hok⟩ := hrel
  have HBR := Lib.hid bxr
  have HFR := Lib.hid hfr
  have HOK := Lib.hid hok
  clear hok HB4 HF4
  by_cases hlt : k < m
  · have dk : decide ((k : Int) < (m : Int)) = true := decide_eq_true (by omega)
    have dk2 : decide (k < m) = true := decide_eq_true hlt
    have hki : (k : Int) < (m : Int) := by omega
    have hkW : k < W.length := by rw [← HM.out]; exact hlt
    obtain ⟨a, hoa, hab, hac⟩ := (HW.out.below (HB.out ▸ bxr.bel)).cells k hkW
    have hBr : B + 1 < wr.heap.size := lt_of_heap bxr.z
    have hFw : F < wr.heap.size := lt_of_heap hfr
    clear bxr
    subst hoa
    obtain ⟨x, hx⟩ : ∃ x, x = W[k] := ⟨_, rfl⟩
    rw [← hx] at hac
    have HX := Lib.hid hx
    clear hx
    by_cases hr : 0 ≤ x ∧ x ≤ (n : Int) - 1
    case neg =>
      have HE := Lib.hid (show begE T W N D = 2 from HE0.out.trans (if_pos (fun h => by
        have h2 := h k hkW hlt
        rw [← HX.out] at h2
        omega)))
      have b1 : btwB x 0 ((n : Int) - 1) = false := decide_eq_false hr
      clear hr hfr
      go_wp2_with (first | (go_at_call 22; refine (QB.out _ _ _ _).mono ?_; rintro e w3 ⟨rfl, rfl⟩) | (refine wpList_store_whole rfl rfl 27 _ _ rfl (B + 1) #[.slice none 0 0, .slice none 0 0, .slice none 0 0, .slice none 0 0, .string ⟨#[]⟩, .string ⟨#[]⟩, .int .i64 0] #[.slice none 0 0, .slice none 0 0, .slice none 0 0, .slice none 0 0, .string ⟨#[]⟩, .string ⟨#[]⟩, .int .i64 0] 27 rfl rfl HBR.out.z rfl HS.out (seven_one _ _ _ _ _ _ _ rfl rfl rfl rfl rfl rfl rfl) ?_; intro w9 ho hp))
      refine bodyPost_ret (results_cell_tmp rfl _ w9 (B + 1) _ _ _ _ _ rfl rfl hp Tryd.underlying27 rfl HS.out) rfl (begGot_bad HE.out (by decide) rfl (bel_only (by rw [HB.out]; exact HBR.out.bel) ho (by rw [HB.out]; omega)))
    have b1 : btwB x 0 ((n : Int) - 1) = true := decide_eq_true hr
    obtain ⟨y, rfl⟩ := Int.eq_ofNat_of_zero_le hr.1
    have hyn : y < n := by omega
    have hyi : (y : Int) < (n : Int) := by omega
    have dy : decide ((y : Int) < (n : Int)) = true := decide_eq_true hyi
    have dy2 : decide (y < n) = true := decide_eq_true hyn
    have hcell : wr.cell? ⟨F, y, none⟩ = some (.bool (decide ((y : Int) ∈ W.take k))) := by
      rw [cell_of_row wr F y _ _ _ hfr]
      simpa using winsL_get n W k y hyn
    have hfz : wr.frozen? ⟨F, y, none⟩ = false := frozen_of_row wr F y _ _ hfr
    clear hr hfr
    cases hd : decide ((y : Int) ∈ W.take k) with
    | true =>
      rw [hd] at hcell
      have HE := Lib.hid (show begE T W N D = 2 from HE0.out.trans (if_pos (fun h => by
        have h2 := (h k hkW hlt).2.2
        rw [← HX.out] at h2
        exact h2 (of_decide_eq_true hd))))
      clear hd
      go_wp2_with (first | (go_at_call 22; refine (QB.out _ _ _ _).mono ?_; rintro e w3 ⟨rfl, rfl⟩) | (refine wpList_store_whole rfl rfl 27 _ _ rfl (B + 1) #[.slice none 0 0, .slice none 0 0, .slice none 0 0, .slice none 0 0, .string ⟨#[]⟩, .string ⟨#[]⟩, .int .i64 0] #[.slice none 0 0, .slice none 0 0, .slice none 0 0, .slice none 0 0, .string ⟨#[]⟩, .string ⟨#[]⟩, .int .i64 0] 27 rfl rfl HBR.out.z rfl HS.out (seven_one _ _ _ _ _ _ _ rfl rfl rfl rfl rfl rfl rfl) ?_; intro w9 ho hp))
      refine bodyPost_ret (results_cell_tmp rfl _ w9 (B + 1) _ _ _ _ _ rfl rfl hp Tryd.underlying27 rfl HS.out) rfl (begGot_bad HE.out (by decide) rfl (bel_only (by rw [HB.out]; exact HBR.out.bel) ho (by rw [HB.out]; omega)))
    | false =>
      rw [hd] at hcell
      have HOK2 := Lib.hid (wOK_succ HOK.out hkW (by rw [← HX.out]; omega) (by rw [← HX.out]; omega) (by rw [← HX.out]; exact of_decide_eq_false hd))
      have HSE := Lib.hid (winsL_set n W k y hkW HX.out.symm)
      clear hd
      go_wp2_with (go_at_call 22; refine (QB.out _ _ _ _).mono ?_; rintro e w3 ⟨rfl, rfl⟩)
      go_roundw
      case rel =>
        refine ⟨k + 1, by omega, by go_num, ⟨bel_only HBR.out.bel ((Only.refl F wr).setCell _ _) (by omega), ?_, ?_⟩, ?_, HOK2.out⟩
        · rw [((Only.refl F wr).setCell _ _).block B (by omega)]; exact HBR.out.x
        · rw [((Only.refl F wr).setCell _ _).block (B + 1) (by omega)]; exact HBR.out.z
        · rw [heap_setCell_same wr F y _ _ _ HFR.out, ← HSE.out]; simp
      case measure => simp [intOf]; omega
  · have dk : decide ((k : Int) < (m : Int)) = false := decide_eq_false (by omega)
    have dk2 : decide (k < m) = false := decide_eq_false hlt
    obtain rfl : m = k := by omega
    have HE1 := Lib.hid (show begE T W N D = _ from HE0.out.trans (if_neg (fun h => h HOK.out)))
    have HTR := Lib.hid (HT.out.below (HB.out ▸ bxr.bel))
    have hBr : B + 1 < wr.heap.size := lt_of_heap bxr.z
    have a0 : wr.cell? ⟨B, 0, none⟩ = some (.string ⟨N.toArray⟩) := cell_of_row wr B 0 _ _ _ bxr.x
    have a1 : wr.cell? ⟨B, 1, none⟩ = some (.string ⟨D.toArray⟩) := cell_of_row wr B 1 _ _ _ bxr.x
    clear HE0 hfr bxr
    cases hbd : T.any badT with
    | true =>
      have HE := Lib.hid (show begE T W N D = 4 by rw [HE1.out, if_pos hbd])
      rw [hbd] at QC
      clear hbd HE1
      go_wp2_with (first | (go_at_call 23; refine (QC.out wr HTR.out).mono ?_; rintro e w5 ⟨rfl, rfl⟩) | (refine wpList_store_whole rfl rfl 27 _ _ rfl (B + 1) #[.slice none 0 0, .slice none 0 0, .slice none 0 0, .slice none 0 0, .string ⟨#[]⟩, .string ⟨#[]⟩, .int .i64 0] #[.slice none 0 0, .slice none 0 0, .slice none 0 0, .slice none 0 0, .string ⟨#[]⟩, .string ⟨#[]⟩, .int .i64 0] 27 rfl rfl HBR.out.z rfl HS.out (seven_one _ _ _ _ _ _ _ rfl rfl rfl rfl rfl rfl rfl) ?_; intro w9 ho hp))
      refine bodyPost_ret (results_cell_tmp rfl _ w9 (B + 1) _ _ _ _ _ rfl rfl hp Tryd.underlying27 rfl HS.out) rfl (begGot_bad HE.out (by decide) rfl (bel_only (by rw [HB.out]; exact HBR.out.bel) ho (by rw [HB.out]; omega)))
    | false =>
    have HE2 := Lib.hid (show begE T W N D = _ from HE1.out.trans (if_neg (by rw [hbd]; decide)))
    have HBD := Lib.hid hbd
    rw [hbd] at QC
    clear hbd HE1
    go_upto_region 15 with (first
      | (go_at_call 23; refine (QC.out wr HTR.out).mono ?_; rintro e w5 ⟨rfl, rfl⟩)
      | (go_at_call 25; refine (QR.out wr).mono ?_; rintro e w5 ⟨on, nn, cn, od, nd, cd, rfl, _, b5⟩)
      | (refine wpList_store_whole rfl rfl 53 _ _ rfl w5.heap.size #[.slice none 0 0, .slice none 0 0] #[.slice on nn cn, .slice od nd cd] 53 rfl rfl (heap_at rfl) rfl HSF.out (two_slices _ _ _ _ _ _) ?_; intro w6 ho6 hp6))
    have b16 : Below wr.heap.size wr w6 := b5.trans ((bel_only ((Below.refl _ _).alloc (Nat.le_refl _) _) ho6 (Nat.le_refl _)).mono b5.size)
    have HB6 := Lib.hid (HBR.out.keep (by omega) b16)
    have HF6 := Lib.hid (bel_keep b16 (lt_of_heap HFR.out) HFR.out)
    have HT6 := Lib.hid (HT.out.below (HB.out ▸ HB6.out.bel))
    have HW6 := Lib.hid (HW.out.below (HB.out ▸ HB6.out.bel))
    have a0' : w6.cell? ⟨B, 0, none⟩ = some (.string ⟨N.toArray⟩) := cell_of_row w6 B 0 _ _ _ HB6.out.x
    have a1' : w6.cell? ⟨B, 1, none⟩ = some (.string ⟨D.toArray⟩) := cell_of_row w6 B 1 _ _ _ HB6.out.x
    have hB6 : B + 1 < w6.heap.size := lt_of_heap HB6.out.z
    have hF6 : F < w6.heap.size := lt_of_heap HF6.out
    clear b16 b5 ho6 hp6 HT HW HTR HBR HFR QC QR a0 a1 hBr
    generalize riskE N D = R at *
    by_cases hR : R = 0
    case neg =>
      have HE := Lib.hid (HE2.out.trans (if_pos hR))
      have hRb : (R == 0) = false := by rw [beq_eq_false_iff_ne]; exact hR
      go_wp2_with (refine wpList_store_whole rfl rfl 27 _ _ rfl (B + 1) #[.slice none 0 0, .slice none 0 0, .slice none 0 0, .slice none 0 0, .string ⟨#[]⟩, .string ⟨#[]⟩, .int .i64 0] #[.slice none 0 0, .slice none 0 0, .slice none 0 0, .slice none 0 0, .string ⟨#[]⟩, .string ⟨#[]⟩, .int .i64 0] 27 rfl rfl HB6.out.z rfl HS.out (seven_one _ _ _ _ _ _ _ rfl rfl rfl rfl rfl rfl rfl) ?_; intro w9 ho hp)
      refine bodyPost_ret (results_cell_tmp rfl _ w9 (B + 1) _ _ _ _ _ rfl rfl hp Tryd.underlying27 rfl HS.out) rfl (begGot_bad HE.out hR rfl (bel_only (by rw [HB.out]; exact HB6.out.bel) ho (by rw [HB.out]; omega)))
    subst hR
    have HE3 := Lib.hid (HE2.out.trans (if_neg (fun h => h rfl)))
    clear HE2
    go_upto_region 18 with (refine wpList_store_whole rfl rfl 27 _ _ rfl w6.heap.size #[.slice none 0 0, .slice none 0 0, .slice none 0 0, .slice none 0 0, .string ⟨#[]⟩, .string ⟨#[]⟩, .int .i64 0] #[.slice none 0 0, .slice none 0 0, .slice none 0 0, .slice none 0 0, .string ⟨N.toArray⟩, .string ⟨D.toArray⟩, .int .i64 0] 27 rfl rfl (heap_at rfl) rfl HS.out (seven_one _ _ _ _ _ _ _ rfl rfl rfl rfl rfl rfl rfl) ?_; intro w7 ho7 hp7)
    obtain ⟨X, hX⟩ : ∃ X, X = w6.heap.size := ⟨_, rfl⟩
    have HX := Lib.hid hX
    have hBW : BW X w6 w7 T N D (.slice none 0 0) (.slice none 0 0) (.slice none 0 0) (.slice none 0 0) [] := by
      rw [hX]
      exact ⟨bel_only ((Below.refl _ _).alloc (Nat.le_refl _) _) ho7 (Nat.le_refl _), lt_of_heap hp7, hp7, World.ownsRow_nil _ _ _ _, World.ownsRow_nil _ _ _ _, World.ownsRow_nil _ _ _ _, World.ownsRow_nil _ _ _ _, .inl rfl, .inl rfl⟩
    rw [← hX] at hB6 hF6 ⊢
    have HBW := Lib.hid hBW
    have HMW := Lib.hid (show W.take m = W by rw [HM.out]; exact List.take_length)
    clear hX hBW ho7 hp7 a0' a1'
    go_upto_region 19 with (fail)
    go_loopw [73] (fun i wr => ∃ (a : Nat) (v0 v1 v2 v3 : Value), a ≤ m ∧ i = .int .i64 a ∧ BW X w6 wr T N D v0 v1 v2 v3 (preP W n a) ∧ (preP W n a).any (tied T) = false) (fun i _ => m - (intOf i).toNat)
    case atStart => exact ⟨0, _, _, _, _, by omega, rfl, HBW.out, rfl⟩
    case round =>
    obtain ⟨a, v0, v1, v2, v3, ha, rfl, hbw, hnt⟩ := hrel
    clear HBW
    by_cases hlt : a < m
    · have dk : decide ((a : Int) < (m : Int)) = true := decide_eq_true (by omega)
      have dk2 : decide (a < m) = true := decide_eq_true hlt
      have hki : (a : Int) < (m : Int) := by omega
      have haW : a < W.length := by rw [← HM.out]; exact hlt
      obtain ⟨q, hoW, hqb, hqc⟩ := (HW6.out.below (HX.out ▸ hbw.bel)).cells a haW
      subst hoW
      have h3 := HOK.out a haW hlt
      obtain ⟨y, hy⟩ := Int.eq_ofNat_of_zero_le h3.1
      have hyn : y < n := by omega
      rw [hy] at hqc
      have HY := Lib.hid hy
      have HBW := Lib.hid hbw
      have HNT := Lib.hid hnt
      clear h3 hy hbw hnt
      go_upto_region 22 with (fail)
      go_loopw [79] (fun j wr => ∃ (k : Nat) (v0 v1 v2 v3 : Value), k ≤ n ∧ j = .int .i64 k ∧ BW X w6 wr T N D v0 v1 v2 v3 (preP W n a ++ rowP W (y : Int) k) ∧ (preP W n a ++ rowP W (y : Int) k).any (tied T) = false) (fun j _ => n - (intOf j).toNat)
      case atStart => exact ⟨0, v0, v1, v2, v3, by omega, rfl, by simpa [rowP] using HBW.out, by simpa [rowP] using HNT.out⟩
      case round =>
      clear HBW HNT hqc hqb
      obtain ⟨k, v0, v1, v2, v3, hk, rfl, hbw, hnt⟩ := hrel
      by_cases hkn : k < n
      · have ek : decide ((k : Int) < (n : Int)) = true := decide_eq_true (by omega)
        have ek2 : decide (k < n) = true := decide_eq_true hkn
        have eki : (k : Int) < (n : Int) := by omega
        have ey : decide ((y : Int) < (n : Int)) = true := decide_eq_true (by omega)
        have ey2 : decide (y < n) = true := decide_eq_true hyn
        have eyi : (y : Int) < (n : Int) := by omega
        have hkT : k < T.length := by rw [← HN.out]; exact hkn
        have hyT : y < T.length := by rw [← HN.out]; exact hyn
        have hTS := HT6.out.below (HX.out ▸ hbw.bel)
        obtain ⟨q2, hoT, q2b, q2c⟩ := hTS.cells k hkT
        obtain ⟨q3, hoT3, _, q3c⟩ := hTS.cells y hyT
        subst hoT
        obtain rfl : q2 = q3 := by injection hoT3
        have hq2X : q2.block < X := by
          obtain ⟨q4, h4, h5, _⟩ := HT6.out.cells k hkT
          obtain rfl : q2 = q4 := by injection h4
          rw [HX.out]; exact h5
        have hgk : T.getD k 0 = T[k] := by simp [hkT]
        have hgy : T.getD y 0 = T[y] := by simp [hyT]
        have hnb : ∀ i (h : i < T.length), 0 ≤ T[i] ∧ T[i] ≤ 1048576 := fun i h => by
          have h1 := List.any_eq_false.1 HBD.out T[i] (List.getElem_mem h)
          unfold badT at h1
          simpa using h1
        have hTk := hnb k hkT
        have hTy := hnb y hyT
        obtain ⟨tk, htk⟩ := Int.eq_ofNat_of_zero_le hTk.1
        obtain ⟨ty, hty⟩ := Int.eq_ofNat_of_zero_le hTy.1
        have HTY := Lib.hid hty
        rw [htk] at q2c hgk hTk
        rw [hty] at q3c hgy hTy
        have HGK := Lib.hid hgk
        have HGY := Lib.hid hgy
        have hcF : wr.cell? ⟨F, k, none⟩ = some (.bool (decide ((k : Int) ∈ W))) := by
          rw [hbw.bel.cell (by omega), cell_of_row w6 F k _ _ _ HF6.out]
          have h := winsL_get n W m k hkn
          rw [HMW.out] at h
          simpa using h
        have hfw : F < wr.heap.size := by have := hbw.size; omega
        clear hoT3 hTS hkT hnb htk hty hgk hgy
        cases hd : decide ((k : Int) ∈ W) with
        | true =>
          rw [hd] at hcF
          have HBW := Lib.hid hbw
          have HNT := Lib.hid hnt
          have HRW := Lib.hid (rowP_in (i := (y : Int)) (of_decide_eq_true hd))
          clear hd hbw hnt
          go_wp2_with fail
          go_roundw
          case rel => exact ⟨k + 1, v0, v1, v2, v3, by omega, by go_num, by rw [HRW.out]; exact HBW.out, by rw [HRW.out]; exact HNT.out⟩
          case measure => simp [intOf]; omega
        | false =>
          rw [hd] at hcF
          have HRW := Lib.hid (rowP_out (i := (y : Int)) (of_decide_eq_false hd))
          by_cases htie : ty ≤ tk
          · have HE := Lib.hid (show begE T W N D = 14 from HE3.out.trans (if_pos (by
              have h := tied_some (T := T) haW hkn (of_decide_eq_false hd) (by rw [HY.out]; exact decide_eq_true (by show T.getD y 0 ≤ T.getD k 0; rw [HGK.out, HGY.out]; omega))
              rw [← HM.out] at h
              exact h)))
            have et : decide ((ty : Int) ≤ (tk : Int)) = true := decide_eq_true (by omega)
            have et2 : decide (ty ≤ tk) = true := decide_eq_true htie
            have hz := bel_keep hbw.bel hB6 HB6.out.z
            have HBL := Lib.hid (HB6.out.bel.trans (hbw.bel.mono (by omega)))
            clear hd htie hbw hnt
            go_wp2_with (refine wpList_store_whole rfl rfl 27 _ _ rfl (B + 1) #[.slice none 0 0, .slice none 0 0, .slice none 0 0, .slice none 0 0, .string ⟨#[]⟩, .string ⟨#[]⟩, .int .i64 0] #[.slice none 0 0, .slice none 0 0, .slice none 0 0, .slice none 0 0, .string ⟨#[]⟩, .string ⟨#[]⟩, .int .i64 0] 27 rfl rfl hz rfl HS.out (seven_one _ _ _ _ _ _ _ rfl rfl rfl rfl rfl rfl rfl) ?_; intro w9 ho hp)
            refine bodyPost_ret (results_cell_tmp rfl _ w9 (B + 1) _ _ _ _ _ rfl rfl hp Tryd.underlying27 rfl HS.out) rfl (begGot_bad HE.out (by decide) rfl (bel_only (by rw [HB.out]; exact HBL.out) ho (by rw [HB.out]; omega)))
          have HTI := Lib.hid (show tied T ((y : Int), (k : Int)) = false from decide_eq_false (by show ¬ T.getD y 0 ≤ T.getD k 0; rw [HGK.out, HGY.out]; omega))
          have et : decide ((ty : Int) ≤ (tk : Int)) = false := decide_eq_false (by omega)
          have et2 : decide (ty ≤ tk) = false := decide_eq_false htie
          have HNT := Lib.hid hnt
          have hPl : (preP W n a ++ rowP W (y : Int) k).length ≤ 200 := by
            have h1 := length_preP W n a
            have h2 := length_rowP W (y : Int) k
            have h3 : a * n ≤ 12 * 12 := Nat.mul_le_mul (by omega) hn12
            rw [List.length_append]
            omega
          have hsh : shareOf T ((y : Int), (k : Int)) = (strD (ty / Nat.gcd ty (ty + tk)), strD ((ty + tk) / Nat.gcd ty (ty + tk))) := by
            unfold shareOf
            simp only [Int.toNat_natCast, HGK.out, HGY.out]
          have HSH := Lib.hid hsh
          unfold BW at hbw
          generalize hP : preP W n a ++ rowP W (y : Int) k = P at *
          have HP := Lib.hid hP
          have lA : (P.map (·.1)).length ≤ 200 := by rw [List.length_map]; exact hPl
          have lB : (P.map (·.2)).length ≤ 200 := by rw [List.length_map]; exact hPl
          have lS : (P.map (shareOf T)).length ≤ 200 := by rw [List.length_map]; exact hPl
          have lO : (P.map (fun _ => wholeT)).length ≤ 200 := by rw [List.length_map]; exact hPl
          have eA := Lib.hid (show P.map (·.1) ++ [(y : Int)] = (P ++ [((y : Int), (k : Int))]).map (·.1) by simp)
          have eB := Lib.hid (show P.map (·.2) ++ [(k : Int)] = (P ++ [((y : Int), (k : Int))]).map (·.2) by simp)
          have eS := Lib.hid (show P.map (shareOf T) ++ [shareOf T ((y : Int), (k : Int))] = (P ++ [((y : Int), (k : Int))]).map (shareOf T) by simp)
          have eO := Lib.hid (show P.map (fun _ => wholeT) ++ [wholeT] = (P ++ [((y : Int), (k : Int))]).map (fun _ => wholeT) by simp)
          generalize P.map (·.1) = LA at *
          generalize P.map (·.2) = LB at *
          generalize P.map (shareOf T) = LS at *
          generalize P.map (fun _ => wholeT) = LO at *
          have HBL := Lib.hid hbw
          have u0 : wr.cell? ⟨X, 0, none⟩ = some v0 := cell_of_row wr X 0 _ _ _ hbw.row
          have u1 : wr.cell? ⟨X, 1, none⟩ = some v1 := cell_of_row wr X 1 _ _ _ hbw.row
          have hXs : X < wr.heap.size := lt_of_heap hbw.row
          have hXX : X < X + 1 := by omega
          have p3 : 0 < ty := by omega
          clear hd htie hbw hnt hP hPl hsh
          go_upto_region 27 with (fail)
          go_cut [99, 104] (fun x99 x104 w' => ∃ v0' v1', Bld X w6 w' #[v0', v1', v2, v3, .string ⟨N.toArray⟩, .string ⟨D.toArray⟩, .int .i64 0] v0' v1' v2 v3 (LA ++ [(y : Int)]) (LB ++ [(k : Int)]) LS LO)
          case first =>
            have bwa : Below (X + 1) wr wr.drew := (Below.refl _ _).drew
            have Twa := Lib.hid (HBL.out.below (Below.refl _ _).drew)
            refine Seg.wp_region_plan (fun w' => ∃ x : BelowT (X + 1) wr, w' = x.w) (.quiet [0, 1, 2, 5, 6, 7] (.alt 3 (.alt 4 (.quiet [10] (.one 8 (.one 9 (.last [])))) (.one 8 (.one 4 (.quiet [10] (.one 9 (.last [])))))) (.one 8 (.one 3 (.one 4 (.quiet [10] (.one 9 (.last [])))))))) 11 (by kernel_rfl) (by kernel_rfl) (fun _ _ d _ _ h => by cases d <;> exact h) (⟨⟨_, bwa⟩, rfl⟩) ?_
            try simp only [Seg.wpPlan, List.map_cons, List.map_nil, Seg.opAt, List.drop_succ_cons, List.drop_zero, Array.getD_eq_getD_getElem?, List.getElem?_toArray, List.getElem?_cons_succ, List.getElem?_cons_zero, Option.getD_some]
            repeat (any_goals (first | go_big_quiet_step (fail) | quiet_step (fail)))
            refine wpQuiet_nil ?_
            try simp only [Seg.wpPlan, List.map_cons, List.map_nil, Seg.opAt, List.drop_succ_cons, List.drop_zero, Array.getD_eq_getD_getElem?, List.getElem?_toArray, List.getElem?_cons_succ, List.getElem?_cons_zero, Option.getD_some]
            generalize wr.drew = wa at *
            refine ⟨?_, ?_⟩
            · try unfold Seg.wpUp
              intro K hK
              first | go_simp | skip
              go_wp2_with fail
              have bwb : Below (X + 1) wr (wa.alloc (.cells #[.int .i64 (y : Int)] 3)) := bwa.alloc Twa.out.size _
              have Twb := Lib.hid (Twa.out.below ((Below.refl _ _).alloc (Nat.le_refl _) (.cells #[.int .i64 (y : Int)] 3)))
              have e3 : (wa.alloc (.cells #[.int .i64 (y : Int)] 3)).heap[wa.heap.size]? = some (.cells #[.int .i64 (y : Int)] 3 (0, 0)) := heap_at rfl
              try replace e8 := heap_lt (o := .cells #[.int .i64 (y : Int)] 3) e8
              skip
              refine hK _ _ ⟨⟨_, bwb⟩, rfl⟩ ?_
              clear hK K bwa Twa
              generalize (wa.alloc (.cells #[.int .i64 (y : Int)] 3)) = wb at *
              generalize wa.heap.size = p3 at *
              try simp only [Seg.wpPlan, List.map_cons, List.map_nil, Seg.opAt, List.drop_succ_cons, List.drop_zero, Array.getD_eq_getD_getElem?, List.getElem?_toArray, List.getElem?_cons_succ, List.getElem?_cons_zero, Option.getD_some]
              refine ⟨?_, ?_⟩
              · try unfold Seg.wpUp
                intro K hK
                rw [if_pos (by rfl)]
                refine wp_append_lies _ (.tmp 96) (.tmp 98) 22 rfl (X + 1) 3 j0 (.int .i64 0) 1 8 Tryd.underlying22 J0.out JZ0.out JZ1.out JZ2.out rfl (by decide) v0 LA.length (ivals LA) rfl Twb.out.own0 ⟨p3, 0, none⟩ 1 1 (ivals [(y : Int)]) rfl rfl (news_blk e3) (ivals_one _) (by decide) (by unfold maxLen; omega) (by omega) Twb.out.size _ rfl (fun gwc2 cwc2 wc2 own hg hf hlt => ?_)
                have bwc2 : Below (X + 1) wr wc2 := bwb.grown hg Twb.out.size (fun q hq => (Twb.out.own0.lt q hq).1)
                have Twc2 := Lib.hid (Twb.out.app0 (x := (y : Int)) rfl own hg hf)
                try replace e8 := grown_keep hg ne8 e8
                refine hK _ _ ⟨⟨_, bwc2⟩, rfl⟩ ?_
                clear hK K bwb Twb own hg hf hlt e3
                try simp only [Seg.wpPlan, List.map_cons, List.map_nil, Seg.opAt, List.drop_succ_cons, List.drop_zero, Array.getD_eq_getD_getElem?, List.getElem?_toArray, List.getElem?_cons_succ, List.getElem?_cons_zero, Option.getD_some]
                repeat (any_goals (first | go_big_quiet_step (fail) | quiet_step (fail)))
                refine wpQuiet_nil ?_
                try simp only [Seg.wpPlan, List.map_cons, List.map_nil, Seg.opAt, List.drop_succ_cons, List.drop_zero, Array.getD_eq_getD_getElem?, List.getElem?_toArray, List.getElem?_cons_succ, List.getElem?_cons_zero, Option.getD_some]
                try unfold Seg.wpUp
                intro K hK
                first | go_simp | skip
                go_wp2_with fail
                have bwd : Below (X + 1) wr (wc2.alloc (.cells #[.int .i64 (k : Int)] 3)) := bwc2.alloc Twc2.out.size _
                have Twd := Lib.hid (Twc2.out.below ((Below.refl _ _).alloc (Nat.le_refl _) (.cells #[.int .i64 (k : Int)] 3)))
                have e8 : (wc2.alloc (.cells #[.int .i64 (k : Int)] 3)).heap[wc2.heap.size]? = some (.cells #[.int .i64 (k : Int)] 3 (0, 0)) := heap_at rfl
                try replace e3 := heap_lt (o := .cells #[.int .i64 (k : Int)] 3) e3
                skip
                refine hK _ _ ⟨⟨_, bwd⟩, rfl⟩ ?_
                clear hK K bwc2 Twc2
                generalize (wc2.alloc (.cells #[.int .i64 (k : Int)] 3)) = wd at *
                generalize wc2.heap.size = p8 at *
                try simp only [Seg.wpPlan, List.map_cons, List.map_nil, Seg.opAt, List.drop_succ_cons, List.drop_zero, Array.getD_eq_getD_getElem?, List.getElem?_toArray, List.getElem?_cons_succ, List.getElem?_cons_zero, Option.getD_some]
                try unfold Seg.wpUp
                intro K hK
                rw [if_pos (by rfl)]
                refine wp_append_lies _ (.tmp 101) (.tmp 103) 22 rfl (X + 1) 3 j0 (.int .i64 0) 1 8 Tryd.underlying22 J0.out JZ0.out JZ1.out JZ2.out rfl (by decide) v1 LB.length (ivals LB) rfl Twd.out.own1 ⟨p8, 0, none⟩ 1 1 (ivals [(k : Int)]) rfl rfl (news_blk e8) (ivals_one _) (by decide) (by unfold maxLen; omega) (by omega) Twd.out.size _ rfl (fun gwe cwe we own hg hf hlt => ?_)
                have bwe : Below (X + 1) wr we := bwd.grown hg Twd.out.size (fun q hq => (Twd.out.own1.lt q hq).1)
                have Twe := Lib.hid (Twd.out.app1 (x := (k : Int)) rfl own hg hf)
                try replace e3 := grown_keep hg ne3 e3
                refine hK _ _ ⟨⟨_, bwe⟩, rfl⟩ ?_
                clear hK K bwd Twd own hg hf hlt e8
                try simp only [Seg.wpPlan, List.map_cons, List.map_nil, Seg.opAt, List.drop_succ_cons, List.drop_zero, Array.getD_eq_getD_getElem?, List.getElem?_toArray, List.getElem?_cons_succ, List.getElem?_cons_zero, Option.getD_some]
                repeat (any_goals (first | go_big_quiet_step (fail) | quiet_step (fail)))
                refine wpQuiet_nil ?_
                try simp only [Seg.wpPlan, List.map_cons, List.map_nil, Seg.opAt, List.drop_succ_cons, List.drop_zero, Array.getD_eq_getD_getElem?, List.getElem?_toArray, List.getElem?_cons_succ, List.getElem?_cons_zero, Option.getD_some]
                have n0 : we.cell? ⟨X, 0, none⟩ = some v0 := cell_of_row we X 0 _ _ _ Twe.out.row
                have n1 : we.cell? ⟨X, 1, none⟩ = some v1 := cell_of_row we X 1 _ _ _ Twe.out.row
                have z0 : we.frozen? ⟨X, 0, none⟩ = false := frozen_of_row we X 0 _ _ Twe.out.row
                have z1 : we.frozen? ⟨X, 1, none⟩ = false := frozen_of_row we X 1 _ _ Twe.out.row
                have hXc : X < we.heap.size := lt_of_heap Twe.out.row
                go_wp2_with fail
                go_meet
                exact ⟨_, _, (Twe.out.setAt 0 _).setAt 1 _⟩
              · try unfold Seg.wpUp
                intro K hK
                first | go_simp | skip
                go_wp2_with fail
                have bwc2 : Below (X + 1) wr (wb.alloc (.cells #[.int .i64 (k : Int)] 3)) := bwb.alloc Twb.out.size _
                have Twc2 := Lib.hid (Twb.out.below ((Below.refl _ _).alloc (Nat.le_refl _) (.cells #[.int .i64 (k : Int)] 3)))
                have e8 : (wb.alloc (.cells #[.int .i64 (k : Int)] 3)).heap[wb.heap.size]? = some (.cells #[.int .i64 (k : Int)] 3 (0, 0)) := heap_at rfl
                try replace e3 := heap_lt (o := .cells #[.int .i64 (k : Int)] 3) e3
                have ne8 : v0.ownBlock ≠ some wb.heap.size := fun he => by have := (Twb.out.own0.lt _ he).2; omega
                refine hK _ _ ⟨⟨_, bwc2⟩, rfl⟩ ?_
                clear hK K bwb Twb
                generalize (wb.alloc (.cells #[.int .i64 (k : Int)] 3)) = wc2 at *
                generalize wb.heap.size = p8 at *
                try simp only [Seg.wpPlan, List.map_cons, List.map_nil, Seg.opAt, List.drop_succ_cons, List.drop_zero, Array.getD_eq_getD_getElem?, List.getElem?_toArray, List.getElem?_cons_succ, List.getElem?_cons_zero, Option.getD_some]
                try unfold Seg.wpUp
                intro K hK
                rw [if_pos (by rfl)]
                refine wp_append_lies _ (.tmp 96) (.tmp 98) 22 rfl (X + 1) 3 j0 (.int .i64 0) 1 8 Tryd.underlying22 J0.out JZ0.out JZ1.out JZ2.out rfl (by decide) v0 LA.length (ivals LA) rfl Twc2.out.own0 ⟨p3, 0, none⟩ 1 1 (ivals [(y : Int)]) rfl rfl (news_blk e3) (ivals_one _) (by decide) (by unfold maxLen; omega) (by omega) Twc2.out.size _ rfl (fun gwd cwd wd own hg hf hlt => ?_)
                have bwd : Below (X + 1) wr wd := bwc2.grown hg Twc2.out.size (fun q hq => (Twc2.out.own0.lt q hq).1)
                have Twd := Lib.hid (Twc2.out.app0 (x := (y : Int)) rfl own hg hf)
                try replace e8 := grown_keep hg ne8 e8
                refine hK _ _ ⟨⟨_, bwd⟩, rfl⟩ ?_
                clear hK K bwc2 Twc2 own hg hf hlt e3
                try simp only [Seg.wpPlan, List.map_cons, List.map_nil, Seg.opAt, List.drop_succ_cons, List.drop_zero, Array.getD_eq_getD_getElem?, List.getElem?_toArray, List.getElem?_cons_succ, List.getElem?_cons_zero, Option.getD_some]
                repeat (any_goals (first | go_big_quiet_step (fail) | quiet_step (fail)))
                refine wpQuiet_nil ?_
                try simp only [Seg.wpPlan, List.map_cons, List.map_nil, Seg.opAt, List.drop_succ_cons, List.drop_zero, Array.getD_eq_getD_getElem?, List.getElem?_toArray, List.getElem?_cons_succ, List.getElem?_cons_zero, Option.getD_some]
                try unfold Seg.wpUp
                intro K hK
                rw [if_pos (by rfl)]
                refine wp_append_lies _ (.tmp 101) (.tmp 103) 22 rfl (X + 1) 3 j0 (.int .i64 0) 1 8 Tryd.underlying22 J0.out JZ0.out JZ1.out JZ2.out rfl (by decide) v1 LB.length (ivals LB) rfl Twd.out.own1 ⟨p8, 0, none⟩ 1 1 (ivals [(k : Int)]) rfl rfl (news_blk e8) (ivals_one _) (by decide) (by unfold maxLen; omega) (by omega) Twd.out.size _ rfl (fun gwe cwe we own hg hf hlt => ?_)
                have bwe : Below (X + 1) wr we := bwd.grown hg Twd.out.size (fun q hq => (Twd.out.own1.lt q hq).1)
                have Twe := Lib.hid (Twd.out.app1 (x := (k : Int)) rfl own hg hf)
                try replace e3 := grown_keep hg ne3 e3
                refine hK _ _ ⟨⟨_, bwe⟩, rfl⟩ ?_
                clear hK K bwd Twd own hg hf hlt e8
                try simp only [Seg.wpPlan, List.map_cons, List.map_nil, Seg.opAt, List.drop_succ_cons, List.drop_zero, Array.getD_eq_getD_getElem?, List.getElem?_toArray, List.getElem?_cons_succ, List.getElem?_cons_zero, Option.getD_some]
                repeat (any_goals (first | go_big_quiet_step (fail) | quiet_step (fail)))
                refine wpQuiet_nil ?_
                try simp only [Seg.wpPlan, List.map_cons, List.map_nil, Seg.opAt, List.drop_succ_cons, List.drop_zero, Array.getD_eq_getD_getElem?, List.getElem?_toArray, List.getElem?_cons_succ, List.getElem?_cons_zero, Option.getD_some]
                have n0 : we.cell? ⟨X, 0, none⟩ = some v0 := cell_of_row we X 0 _ _ _ Twe.out.row
                have n1 : we.cell? ⟨X, 1, none⟩ = some v1 := cell_of_row we X 1 _ _ _ Twe.out.row
                have z0 : we.frozen? ⟨X, 0, none⟩ = false := frozen_of_row we X 0 _ _ Twe.out.row
                have z1 : we.frozen? ⟨X, 1, none⟩ = false := frozen_of_row we X 1 _ _ Twe.out.row
                have hXc : X < we.heap.size := lt_of_heap Twe.out.row
                go_wp2_with fail
                go_meet
                exact ⟨_, _, (Twe.out.setAt 0 _).setAt 1 _⟩
            · try unfold Seg.wpUp
              intro K hK
              first | go_simp | skip
              go_wp2_with fail
              have bwb : Below (X + 1) wr (wa.alloc (.cells #[.int .i64 (k : Int)] 3)) := bwa.alloc Twa.out.size _
              have Twb := Lib.hid (Twa.out.below ((Below.refl _ _).alloc (Nat.le_refl _) (.cells #[.int .i64 (k : Int)] 3)))
              have e8 : (wa.alloc (.cells #[.int .i64 (k : Int)] 3)).heap[wa.heap.size]? = some (.cells #[.int .i64 (k : Int)] 3 (0, 0)) := heap_at rfl
              try replace e3 := heap_lt (o := .cells #[.int .i64 (k : Int)] 3) e3
              have ne8 : v0.ownBlock ≠ some wa.heap.size := fun he => by have := (Twa.out.own0.lt _ he).2; omega
              refine hK _ _ ⟨⟨_, bwb⟩, rfl⟩ ?_
              clear hK K bwa Twa
              generalize (wa.alloc (.cells #[.int .i64 (k : Int)] 3)) = wb at *
              generalize wa.heap.size = p8 at *
              try simp only [Seg.wpPlan, List.map_cons, List.map_nil, Seg.opAt, List.drop_succ_cons, List.drop_zero, Array.getD_eq_getD_getElem?, List.getElem?_toArray, List.getElem?_cons_succ, List.getElem?_cons_zero, Option.getD_some]
              try unfold Seg.wpUp
              intro K hK
              first | go_simp | skip
              go_wp2_with fail
              have bwc2 : Below (X + 1) wr (wb.alloc (.cells #[.int .i64 (y : Int)] 3)) := bwb.alloc Twb.out.size _
              have Twc2 := Lib.hid (Twb.out.below ((Below.refl _ _).alloc (Nat.le_refl _) (.cells #[.int .i64 (y : Int)] 3)))
              have e3 : (wb.alloc (.cells #[.int .i64 (y : Int)] 3)).heap[wb.heap.size]? = some (.cells #[.int .i64 (y : Int)] 3 (0, 0)) := heap_at rfl
              try replace e8 := heap_lt (o := .cells #[.int .i64 (y : Int)] 3) e8
              skip
              refine hK _ _ ⟨⟨_, bwc2⟩, rfl⟩ ?_
              clear hK K bwb Twb
              generalize (wb.alloc (.cells #[.int .i64 (y : Int)] 3)) = wc2 at *
              generalize wb.heap.size = p3 at *
              try simp only [Seg.wpPlan, List.map_cons, List.map_nil, Seg.opAt, List.drop_succ_cons, List.drop_zero, Array.getD_eq_getD_getElem?, List.getElem?_toArray, List.getElem?_cons_succ, List.getElem?_cons_zero, Option.getD_some]
              try unfold Seg.wpUp
              intro K hK
              rw [if_pos (by rfl)]
              refine wp_append_lies _ (.tmp 96) (.tmp 98) 22 rfl (X + 1) 3 j0 (.int .i64 0) 1 8 Tryd.underlying22 J0.out JZ0.out JZ1.out JZ2.out rfl (by decide) v0 LA.length (ivals LA) rfl Twc2.out.own0 ⟨p3, 0, none⟩ 1 1 (ivals [(y : Int)]) rfl rfl (news_blk e3) (ivals_one _) (by decide) (by unfold maxLen; omega) (by omega) Twc2.out.size _ rfl (fun gwd cwd wd own hg hf hlt => ?_)
              have bwd : Below (X + 1) wr wd := bwc2.grown hg Twc2.out.size (fun q hq => (Twc2.out.own0.lt q hq).1)
              have Twd := Lib.hid (Twc2.out.app0 (x := (y : Int)) rfl own hg hf)
              try replace e8 := grown_keep hg ne8 e8
              refine hK _ _ ⟨⟨_, bwd⟩, rfl⟩ ?_
              clear hK K bwc2 Twc2 own hg hf hlt e3
              try simp only [Seg.wpPlan, List.map_cons, List.map_nil, Seg.opAt, List.drop_succ_cons, List.drop_zero, Array.getD_eq_getD_getElem?, List.getElem?_toArray, List.getElem?_cons_succ, List.getElem?_cons_zero, Option.getD_some]
              repeat (any_goals (first | go_big_quiet_step (fail) | quiet_step (fail)))
              refine wpQuiet_nil ?_
              try simp only [Seg.wpPlan, List.map_cons, List.map_nil, Seg.opAt, List.drop_succ_cons, List.drop_zero, Array.getD_eq_getD_getElem?, List.getElem?_toArray, List.getElem?_cons_succ, List.getElem?_cons_zero, Option.getD_some]
              try unfold Seg.wpUp
              intro K hK
              rw [if_pos (by rfl)]
              refine wp_append_lies _ (.tmp 101) (.tmp 103) 22 rfl (X + 1) 3 j0 (.int .i64 0) 1 8 Tryd.underlying22 J0.out JZ0.out JZ1.out JZ2.out rfl (by decide) v1 LB.length (ivals LB) rfl Twd.out.own1 ⟨p8, 0, none⟩ 1 1 (ivals [(k : Int)]) rfl rfl (news_blk e8) (ivals_one _) (by decide) (by unfold maxLen; omega) (by omega) Twd.out.size _ rfl (fun gwe cwe we own hg hf hlt => ?_)
              have bwe : Below (X + 1) wr we := bwd.grown hg Twd.out.size (fun q hq => (Twd.out.own1.lt q hq).1)
              have Twe := Lib.hid (Twd.out.app1 (x := (k : Int)) rfl own hg hf)
              try replace e3 := grown_keep hg ne3 e3
              refine hK _ _ ⟨⟨_, bwe⟩, rfl⟩ ?_
              clear hK K bwd Twd own hg hf hlt e8
              try simp only [Seg.wpPlan, List.map_cons, List.map_nil, Seg.opAt, List.drop_succ_cons, List.drop_zero, Array.getD_eq_getD_getElem?, List.getElem?_toArray, List.getElem?_cons_succ, List.getElem?_cons_zero, Option.getD_some]
              repeat (any_goals (first | go_big_quiet_step (fail) | quiet_step (fail)))
              refine wpQuiet_nil ?_
              try simp only [Seg.wpPlan, List.map_cons, List.map_nil, Seg.opAt, List.drop_succ_cons, List.drop_zero, Array.getD_eq_getD_getElem?, List.getElem?_toArray, List.getElem?_cons_succ, List.getElem?_cons_zero, Option.getD_some]
              have n0 : we.cell? ⟨X, 0, none⟩ = some v0 := cell_of_row we X 0 _ _ _ Twe.out.row
              have n1 : we.cell? ⟨X, 1, none⟩ = some v1 := cell_of_row we X 1 _ _ _ Twe.out.row
              have z0 : we.frozen? ⟨X, 0, none⟩ = false := frozen_of_row we X 0 _ _ Twe.out.row
              have z1 : we.frozen? ⟨X, 1, none⟩ = false := frozen_of_row we X 1 _ _ Twe.out.row
              have hXc : X < we.heap.size := lt_of_heap Twe.out.row
              go_wp2_with fail
              go_meet
              exact ⟨_, _, (Twe.out.setAt 0 _).setAt 1 _⟩
          case rest =>
          generalize wc = w8 at *
          obtain ⟨zv0, zv1, h8⟩ := hcut
          have T8 := Lib.hid h8
          have hX8 : X < w8.heap.size := lt_of_heap h8.row
          have HT8 := Lib.hid (HT6.out.below (HX.out ▸ h8.bel))
          clear h8 HBL u0 u1 hXs ek ek2 eki dk dk2 hki hcF hfw lA lB et et2 q2c q3c q2b
          have p1 : ty ≤ 1048576 := by omega
          have p2 : tk ≤ 1048576 := by omega
          obtain ⟨sn, hsn⟩ : ∃ sn, sn = ty / Nat.gcd ty (ty + tk) := ⟨_, rfl⟩
          obtain ⟨sd, hsd⟩ : ∃ sd, sd = (ty + tk) / Nat.gcd ty (ty + tk) := ⟨_, rfl⟩
          have QSH := Lib.hid (fun w => audShare_any ty tk w p1 p2 p3)
          rw [← hsn, ← hsd] at QSH HSH
          have q1 : (NL.dig sn).length < 1099511627776 := Nat.lt_of_le_of_lt (NL.length_dig_le sn 1 (by have := Nat.div_le_self ty (Nat.gcd ty (ty + tk)); omega)) (by decide)
          have q2' : (NL.dig sd).length < 1099511627776 := Nat.lt_of_le_of_lt (NL.length_dig_le sd 1 (by have := Nat.div_le_self (ty + tk) (Nat.gcd ty (ty + tk)); omega)) (by decide)
          have QTO := Lib.hid (fun on od cn cd w h => audTold_any sn sd on od cn cd w h q1 q2')
          generalize strD sn = SN at *
          generalize strD sd = SD at *
          clear hsn hsd p1 p2 p3 q1 q2'
          go_upto_region 28 with (fail)
          have u2 : w8.cell? ⟨X, 2, none⟩ = some v2 := cell_of_row w8 X 2 _ _ _ T8.out.row
          have hcy : ∀ w', (∃ x : BelowT (X + 1) w8, w' = x.w) → w'.cell? (q2.add y) = some (.int .i64 (ty : Int)) := by
            intro w' hw'
            obtain ⟨q5, h5, h6, h7⟩ := HT8.out.cells y (by rw [← HN.out]; exact hyn)
            obtain rfl : q2 = q5 := by injection h5
            rw [(InB.below hw').cell (by rw [addr_block]; omega), h7]
            have := HTY.out
            rw [this]
          refine Seg.wp_region_segs (fun w' => ∃ x : BelowT (X + 1) w8, w' = x.w) [([0, 1, 2, 3, 4, 5, 6], 7), ([], 8), ([], 9)] [] 10 (by kernel_rfl) (by kernel_rfl) (fun _ _ d _ _ h => by cases d <;> exact h) (⟨⟨_, (Below.refl _ _).drew⟩, rfl⟩) ?_
          simp only [List.map_cons, List.map_nil, Seg.opAt, List.drop_succ_cons, List.drop_zero, Seg.wpSegs, Array.getD_eq_getD_getElem?, List.getElem?_toArray, List.getElem?_cons_succ, List.getElem?_cons_zero, Option.getD_some]
          first | go_big_quiet_step (fail) | quiet_step (fail)
          first | go_big_quiet_step (fail) | quiet_step (fail)
          first | go_big_quiet_step (fail) | quiet_step (fail)
          first | go_big_quiet_step (fail) | quiet_step (fail)
          first | go_big_quiet_step (fail) | quiet_step (fail)
          refine wpQuiet_load_one rfl 3 _ rfl (q2.add y) (.int .i64 (ty : Int)) _ rfl hcy Tryd.underlying3 rfl ?_
          first | go_big_quiet_step (fail) | quiet_step (fail)
          refine wpQuiet_nil ?_
          clear hcy u2 ey ey2 eyi hTk hTy hq2X
          intro K hK
          first | go_simp | skip
          go_wp2_with (go_at_call 27; refine (QSH.out w8.drew).mono ?_; rintro e wb ⟨on, od, cn, cd, rfl, hF, tb⟩)
          have tb' := undrew tb
          have Tb := Lib.hid (T8.out.below tb')
          have HFb := Lib.hid hF
          have cb : Below (X + 1) w8 wb := tb'.mono T8.out.size
          refine hK _ _ ⟨⟨wb, cb⟩, rfl⟩ ?_
          clear hK K hF tb tb'
          repeat (any_goals (first | go_big_quiet_step (fail) | quiet_step (fail)))
          refine wpQuiet_nil ?_
          intro K hK
          first | go_simp | skip
          go_wp2_with (go_at_call 26; refine (QTO.out on od cn cd wb HFb.out).mono ?_; rintro e wc3 ⟨rfl, tc⟩)
          have Tc := Lib.hid (Tb.out.below tc)
          have cc : Below (X + 1) w8 wc3 := cb.trans (tc.mono Tb.out.size)
          refine hK _ _ ⟨⟨wc3, cc⟩, rfl⟩ ?_
          clear hK K tc HFb Tb cb
          repeat (any_goals (first | go_big_quiet_step (fail) | quiet_step (fail)))
          refine wpQuiet_nil ?_
          intro K hK
          first | go_simp | skip
          go_wp2_with fail
          have cd2 : Below (X + 1) w8 (wc3.alloc (.cells #[.string ⟨SN.toArray⟩, .string ⟨SD.toArray⟩] 24)) := cc.alloc Tc.out.size _
          have Td := Lib.hid (Tc.out.below ((Below.refl _ _).alloc (Nat.le_refl _) (.cells #[.string ⟨SN.toArray⟩, .string ⟨SD.toArray⟩] 24)))
          have ed : (wc3.alloc (.cells #[.string ⟨SN.toArray⟩, .string ⟨SD.toArray⟩] 24)).heap[wc3.heap.size]? = some (.cells #[.string ⟨SN.toArray⟩, .string ⟨SD.toArray⟩] 24 (0, 0)) := heap_at rfl
          refine hK _ _ ⟨⟨_, cd2⟩, rfl⟩ ?_
          clear hK K cc Tc
          generalize (wc3.alloc (.cells #[.string ⟨SN.toArray⟩, .string ⟨SD.toArray⟩] 24)) = wd at *
          generalize wc3.heap.size = p9 at *
          repeat (any_goals (first | go_big_quiet_step (fail) | quiet_step (fail)))
          refine wpQuiet_nil ?_
          go_upto_region 29 with (at_builtin; refine wpList_append_lies _ rfl (.tmp 108) (.tmp 116) 25 rfl (X + 1) 24 f0 (.agg #[.string ⟨#[]⟩, .string ⟨#[]⟩]) 2 32 Tryd.underlying25 F0.out FZ0.out FZ1.out FZ2.out rfl (by decide) v2 LS.length (fvals LS) rfl Td.out.own2 ⟨p9, 0, none⟩ 1 1 (fvals [(SN, SD)]) rfl rfl (news_blk ed) (fvals_one _) (by decide) (by unfold maxLen; omega) (by omega) Td.out.size _ rfl ?_; intro g9 c9 w9 own hg hf hlt9; have T9 := Lib.hid (Td.out.app2 (x := (SN, SD)) rfl own hg hf); have n2 : w9.cell? ⟨X, 2, none⟩ = some v2 := cell_of_row w9 X 2 _ _ _ T9.out.row; have z2 : w9.frozen? ⟨X, 2, none⟩ = false := frozen_of_row w9 X 2 _ _ T9.out.row; have hX9 : X < w9.heap.size := lt_of_heap T9.out.row)
          have TA : Hid (Bld X w6 (w9.setCell ⟨X, 2, none⟩ (.slice (some ⟨g9, 0, none⟩) (LS.length + 1) c9)) #[zv0, zv1, .slice (some ⟨g9, 0, none⟩) (LS.length + 1) c9, v3, .string ⟨N.toArray⟩, .string ⟨D.toArray⟩, .int .i64 0] zv0 zv1 (.slice (some ⟨g9, 0, none⟩) (LS.length + 1) c9) v3 (LA ++ [(y : Int)]) (LB ++ [(k : Int)]) (LS ++ [(SN, SD)]) LO) := Lib.hid (T9.out.setAt 2 _)
          clear T9 Td own hg hf hlt9 n2 z2 hX9 ed cd2 T8 HT8 hX8 QTO QSH
          generalize (w9.setCell ⟨X, 2, none⟩ (.slice (some ⟨g9, 0, none⟩) (LS.length + 1) c9)) = we at *
          generalize (Value.slice (some ⟨g9, 0, none⟩) (LS.length + 1) c9) = zv2 at *
          have u3 : we.cell? ⟨X, 3, none⟩ = some v3 := cell_of_row we X 3 _ _ _ TA.out.row
          have hXe : X < we.heap.size := lt_of_heap TA.out.row
          have QWH := Lib.hid exWhole1_any
          have q1 : (NL.dig 1).length < 1099511627776 := Nat.lt_of_le_of_lt (NL.length_dig_le 1 1 (by decide)) (by decide)
          have QTO := Lib.hid (fun on od cn cd w h => audTold_any 1 1 on od cn cd w h q1 q1)
          have HWT := Lib.hid (show wholeT = (strD 1, strD 1) from rfl)
          generalize strD 1 = ST at *
          clear q1
          refine Seg.wp_region_segs (fun w' => ∃ x : BelowT (X + 1) we, w' = x.w) [([0, 1], 2), ([], 3), ([], 4)] [] 5 (by kernel_rfl) (by kernel_rfl) (fun _ _ d _ _ h => by cases d <;> exact h) (⟨⟨_, (Below.refl _ _).drew⟩, rfl⟩) ?_
          simp only [List.map_cons, List.map_nil, Seg.opAt, List.drop_succ_cons, List.drop_zero, Seg.wpSegs, Array.getD_eq_getD_getElem?, List.getElem?_toArray, List.getElem?_cons_succ, List.getElem?_cons_zero, Option.getD_some]
          repeat (any_goals (first | go_big_quiet_step (fail) | quiet_step (fail)))
          refine wpQuiet_nil ?_
          intro K hK
          simp only [Region.wanted, if_true]
          first | (intro K hK; first | go_simp | skip) | skip
          go_wp2_with (go_at_call 28; refine (QWH.out we.drew).mono ?_; rintro e wb ⟨on, od, cn, cd, rfl, hF, tb⟩)
          have tb' := undrew tb
          have Tb := Lib.hid (TA.out.below tb')
          have HFb := Lib.hid hF
          have cb : Below (X + 1) we wb := tb'.mono TA.out.size
          refine hK _ _ ⟨⟨wb, cb⟩, rfl⟩ ?_
          clear hK K hF tb tb' u3
          repeat (any_goals (first | go_big_quiet_step (fail) | quiet_step (fail)))
          refine wpQuiet_nil ?_
          intro K hK
          first | go_simp | skip
          go_wp2_with (go_at_call 26; refine (QTO.out on od cn cd wb HFb.out).mono ?_; rintro e wc3 ⟨rfl, tc⟩)
          have Tc := Lib.hid (Tb.out.below tc)
          have cc : Below (X + 1) we wc3 := cb.trans (tc.mono Tb.out.size)
          refine hK _ _ ⟨⟨wc3, cc⟩, rfl⟩ ?_
          clear hK K tc HFb Tb cb
          repeat (any_goals (first | go_big_quiet_step (fail) | quiet_step (fail)))
          refine wpQuiet_nil ?_
          intro K hK
          first | go_simp | skip
          go_wp2_with fail
          have cd2 : Below (X + 1) we (wc3.alloc (.cells #[.string ⟨ST.toArray⟩, .string ⟨ST.toArray⟩] 24)) := cc.alloc Tc.out.size _
          have Td := Lib.hid (Tc.out.below ((Below.refl _ _).alloc (Nat.le_refl _) (.cells #[.string ⟨ST.toArray⟩, .string ⟨ST.toArray⟩] 24)))
          have ed : (wc3.alloc (.cells #[.string ⟨ST.toArray⟩, .string ⟨ST.toArray⟩] 24)).heap[wc3.heap.size]? = some (.cells #[.string ⟨ST.toArray⟩, .string ⟨ST.toArray⟩] 24 (0, 0)) := heap_at rfl
          refine hK _ _ ⟨⟨_, cd2⟩, rfl⟩ ?_
          clear hK K cc Tc
          generalize (wc3.alloc (.cells #[.string ⟨ST.toArray⟩, .string ⟨ST.toArray⟩] 24)) = wd at *
          generalize wc3.heap.size = p9 at *
          repeat (any_goals (first | go_big_quiet_step (fail) | quiet_step (fail)))
          refine wpQuiet_nil ?_
          go_wp2_with (at_builtin; refine wpList_append_lies _ rfl (.tmp 120) (.tmp 123) 25 rfl (X + 1) 24 f0 (.agg #[.string ⟨#[]⟩, .string ⟨#[]⟩]) 2 32 Tryd.underlying25 F0.out FZ0.out FZ1.out FZ2.out rfl (by decide) v3 LO.length (fvals LO) rfl Td.out.own3 ⟨p9, 0, none⟩ 1 1 (fvals [(ST, ST)]) rfl rfl (news_blk ed) (fvals_one _) (by decide) (by unfold maxLen; omega) (by omega) Td.out.size _ rfl ?_; intro g9 c9 w9 own hg hf hlt9; have T9 := Lib.hid (Td.out.app3 (x := (ST, ST)) rfl own hg hf); have n2 : w9.cell? ⟨X, 3, none⟩ = some v3 := cell_of_row w9 X 3 _ _ _ T9.out.row; have z2 : w9.frozen? ⟨X, 3, none⟩ = false := frozen_of_row w9 X 3 _ _ T9.out.row; have hX9 : X < w9.heap.size := lt_of_heap T9.out.row)
          go_roundw
          case rel =>
            refine ⟨k + 1, zv0, zv1, zv2, .slice (some ⟨g9, 0, none⟩) (LO.length + 1) c9, by omega, by go_num, ?_, ?_⟩
            · rw [HRW.out, ← List.append_assoc, HP.out]
              unfold BW
              rw [← eA.out, ← eB.out, ← eS.out, ← eO.out, HSH.out, HWT.out]
              exact T9.out.setAt 3 _
            · rw [HRW.out, ← List.append_assoc, HP.out, List.any_append, HNT.out]
              simp [HTI.out]
          case measure => simp [intOf]; omega
      · have ek : decide ((k : Int) < (n : Int)) = false := decide_eq_false (by omega)
        have ek2 : decide (k < n) = false := decide_eq_false hkn
        obtain rfl : n = k := by omega
        have HPP := Lib.hid (show preP W n (a + 1) = preP W n a ++ rowP W (y : Int) n by rw [preP_succ haW, HY.out])
        have HBW := Lib.hid hbw
        have HNT := Lib.hid hnt
        clear hbw hnt
        go_wp2_with fail
        go_roundw
        case rel => exact ⟨a + 1, v0, v1, v2, v3, by omega, by go_num, by rw [HPP.out]; exact HBW.out, by rw [HPP.out]; exact HNT.out⟩
        case measure => simp [intOf]; omega
    · have dk : decide ((a : Int) < (m : Int)) = false := decide_eq_false (by omega)
      have dk2 : decide (a < m) = false := decide_eq_false hlt
      obtain rfl : m = a := by omega
      have HE := Lib.hid (show begE T W N D = 0 from HE3.out.trans (if_neg (by rw [hnt]; decide)))
      have HBL := Lib.hid (HB6.out.bel.trans (hbw.bel.mono (by omega)))
      have hz := bel_keep hbw.bel hB6 HB6.out.z
      obtain ⟨o0, c0, rfl, _, i0⟩ := isAt_own hbw.own0
      obtain ⟨o1, c1, rfl, _, i1⟩ := isAt_own hbw.own1
      obtain ⟨o2, c2, rfl, _, i2⟩ := fsAt_own hbw.own2
      obtain ⟨o3, c3, rfl, _, i3⟩ := fsAt_own hbw.own3
      have W0 := Lib.hid hbw.own0
      have W1 := Lib.hid hbw.own1
      have W2 := Lib.hid hbw.own2
      have W3 := Lib.hid hbw.own3
      have hrow := hbw.row
      have HPP := Lib.hid (show begP T W N D = preP W n m by unfold begP; rw [if_pos HE.out, HN.out, HM.out])
      have hXs : X < wr.heap.size := lt_of_heap hbw.row
      generalize hLA : (preP W n m).map (·.1) = LA at *
      generalize hLB : (preP W n m).map (·.2) = LB at *
      generalize hLS : (preP W n m).map (shareOf T) = LS at *
      generalize hLO : (preP W n m).map (fun _ => wholeT) = LO at *
      have HLA := Lib.hid hLA
      have HLB := Lib.hid hLB
      have HLS := Lib.hid hLS
      have HLO := Lib.hid hLO
      clear hbw hnt hLA hLB hLS hLO i0 i1 i2 i3
      have x0 : wr.cell? ⟨X, 0, none⟩ = some (.slice o0 LA.length c0) := cell_of_row wr X 0 _ _ _ hrow
      have x1 : wr.cell? ⟨X, 1, none⟩ = some (.slice o1 LB.length c1) := cell_of_row wr X 1 _ _ _ hrow
      have x2 : wr.cell? ⟨X, 2, none⟩ = some (.slice o2 LS.length c2) := cell_of_row wr X 2 _ _ _ hrow
      have x3 : wr.cell? ⟨X, 3, none⟩ = some (.slice o3 LO.length c3) := cell_of_row wr X 3 _ _ _ hrow
      have x4 : wr.cell? ⟨X, 4, none⟩ = some (.string ⟨N.toArray⟩) := cell_of_row wr X 4 _ _ _ hrow
      have x5 : wr.cell? ⟨X, 5, none⟩ = some (.string ⟨D.toArray⟩) := cell_of_row wr X 5 _ _ _ hrow
      have x6 : wr.cell? ⟨X, 6, none⟩ = some (.int .i64 0) := cell_of_row wr X 6 _ _ _ hrow
      clear hrow
      go_wp2_with (refine wpList_store_whole rfl rfl 27 _ _ rfl (B + 1) #[.slice none 0 0, .slice none 0 0, .slice none 0 0, .slice none 0 0, .string ⟨#[]⟩, .string ⟨#[]⟩, .int .i64 0] #[.slice o0 LA.length c0, .slice o1 LB.length c1, .slice o2 LS.length c2, .slice o3 LO.length c3, .string ⟨N.toArray⟩, .string ⟨D.toArray⟩, .int .i64 0] 27 rfl rfl hz rfl HS.out (seven_one _ _ _ _ _ _ _ rfl rfl rfl rfl rfl rfl rfl) ?_; intro w9 ho hp)
      refine bodyPost_ret (results_cell_tmp rfl _ w9 (B + 1) _ _ _ _ _ rfl rfl hp Tryd.underlying27 rfl HS.out) rfl ?_
      unfold BegGot
      rw [HE.out, HPP.out, HLA.out, HLB.out, HLS.out, HLO.out]
      exact ⟨o0, o1, o2, o3, c0, c1, c2, c3, rfl, isAt_own2 (own_spare W0.out ho (by omega)), isAt_own2 (own_spare W1.out ho (by omega)), fsAt_own2 (own_spare W2.out ho (by omega)), fsAt_own2 (own_spare W3.out ho (by omega)), bel_only (by rw [HB.out]; exact HBL.out) ho (by rw [HB.out]; omega)⟩
end Go.Proofs.YtlbdcgnpkapncaaDoor
