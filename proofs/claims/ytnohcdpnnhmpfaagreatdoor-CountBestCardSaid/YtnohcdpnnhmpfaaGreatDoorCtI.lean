/-
  Chapter 13, for Pairs: (ballot.field).fits. Printed by tools/genfits.py.
-/
import Derived.Test.YtnohcdpnnhmpfaaGreatDoorBGH
import Derived.Deep.OwnRows
namespace Go.Proofs.YtnohcdpnnhmpfaaGreatDoor
set_option linter.unusedVariables false
set_option linter.unusedSimpArgs false
open Go.RowKit ML FM AU CT

/-- which numbers have been seen -/
def seenL (L : List Int) (n : Nat) : List Value := (List.range n).map fun v : Nat => Value.bool (decide ((v : Int) ∈ L))
theorem length_seenL (L : List Int) (n : Nat) : (seenL L n).length = n := by simp [seenL]
theorem seenL_nil (n : Nat) : seenL [] n = List.replicate n (.bool false) := by
  unfold seenL
  apply List.ext_getElem (by simp)
  intro i h1 h2
  simp
theorem seenL_get (L : List Int) (n v : Nat) (h : v < n) : (seenL L n)[v]? = some (.bool (decide ((v : Int) ∈ L))) := by
  unfold seenL
  rw [List.getElem?_map, List.getElem?_range h]
  rfl
theorem seenL_snoc (L : List Int) (n v : Nat) (h : v < n) : (seenL L n).set v (.bool true) = seenL (L ++ [(v : Int)]) n := by
  unfold seenL
  apply List.ext_getElem (by simp)
  intro i h1 h2
  rw [List.getElem_set]
  simp only [List.getElem_map, List.getElem_range]
  by_cases e : v = i
  · subst e; simp
  · rw [if_neg e]
    have : ((i : Int) ∈ L ++ [(v : Int)]) ↔ ((i : Int) ∈ L) := by
      simp only [List.mem_append, List.mem_singleton]
      constructor
      · rintro (h | h)
        · exact h
        · omega
      · exact .inl
    simp only [this]
def posN (L : List Int) : Nat := (L.filter fun x => decide (0 < x)).length
theorem posN_snoc (L : List Int) (x : Int) : posN (L ++ [x]) = posN L + if 0 < x then 1 else 0 := by
  unfold posN
  rw [List.filter_append, List.length_append]
  by_cases h : 0 < x <;> simp [h]
theorem posN_le (L : List Int) : posN L ≤ L.length := List.length_filter_le _ _
/-- the first part of what 'fits' asks, of one number more -/
def okX (c : CTest) (L : List Int) (x : Int) : Bool := decide (0 ≤ x ∧ x ≤ topI c) && !(ranksB c.rl && decide (0 < x) && decide (x ∈ L))
def okL (c : CTest) : List Int → List Int → Bool
  | _, [] => true
  | L, x :: r => okX c L x && okL c (L ++ [x]) r
def gapL (b : List Int) (m : Nat) : Bool := (List.range m).all fun k : Nat => decide (((k + 1 : Nat) : Int) ∈ b)
/-- does a choice fit? -/
def fitsB (c : CTest) (b : List Int) : Bool := okL c [] b && (!ranksB c.rl || gapL b (posN b)) && (decide (c.rl ≠ 1) || decide ((posN b : Int) ≤ c.mo))
theorem okL_step (c : CTest) (b : List Int) (k : Nat) (h : k < b.length) : okL c (b.take k) (b.drop k) = (okX c (b.take k) b[k] && okL c (b.take (k + 1)) (b.drop (k + 1))) := by
  rw [List.drop_eq_getElem_cons h, List.take_succ_eq_append_getElem h]
  rfl
theorem topI_nat (c : CTest) : ∃ t : Nat, topI c = t ∧ (t = c.op.length ∨ t = 1) := by
  unfold topI
  split
  · exact ⟨_, rfl, .inl rfl⟩
  · exact ⟨1, rfl, .inr rfl⟩
theorem gapL_succ (b : List Int) (n : Nat) : gapL b (n + 1) = (gapL b n && decide (((n + 1 : Nat) : Int) ∈ b)) := by
  simp [gapL, List.range_succ, List.all_append]
theorem gapL_no (b : List Int) (n m : Nat) (h : n < m) (hb : ((n + 1 : Nat) : Int) ∉ b) : gapL b m = false := by
  rw [← Bool.not_eq_true]
  intro h2
  unfold gapL at h2
  rw [List.all_eq_true] at h2
  exact hb (of_decide_eq_true (h2 n (List.mem_range.2 h)))
theorem info_bool : (Tryz.prog.info? 4).map (fun i => (i.zero, i.size, i.bytes)) = some (some (.bool false), 1, 1) := by kernel_rfl
set_option maxHeartbeats 4000000 in
set_option maxRecDepth 100000 in
theorem fits_any (c : CTest) (b : List Int) (oa : Option Addr) (cap : Nat) (ob : Option Addr) (cb : Nat) (w : World) (hb : IsAt w ob b) (hn : c.op.length ≤ 12) (hbl : b.length = c.op.length) :
    Calls Tryz.prog 116 #[.agg #[.string ⟨c.nm.toArray⟩, .slice oa c.op.length cap, .int .i64 c.rl, .int .i64 c.se, .int .i64 c.mo, .int .i64 0], .slice ob b.length cb] w fun e w' => e = .returned (.bool (fitsB c b)) ∧ Below w.heap.size w w' := by
  have QT := Lib.hid (fun w => top_any c oa cap w)
  have QR := Lib.hid (fun w => ranks_any c oa cap w)
  obtain ⟨t, ht, htn⟩ := topI_nat c
  have HTL := Lib.hid (show ranksB c.rl = true → t = b.length from fun h => by unfold topI at ht; rw [if_pos h] at ht; omega)
  rw [ht] at QT
  have HTI := Lib.hid ht
  have hb12 : b.length ≤ 12 := by omega
  clear hbl
  have ht12 : t ≤ 12 := by omega
  have HIB := Lib.hid hb
  have HFB := Lib.hid (show fitsB c b = (okL c [] b && (!ranksB c.rl || gapL b (posN b)) && (decide (c.rl ≠ 1) || decide ((posN b : Int) ≤ c.mo))) from rfl)
  obtain ⟨i0, hi, hz0, hz1, hz2⟩ := info_parts info_bool
  have HI := Lib.hid hi
  have HZ0 := Lib.hid hz0
  have HZ1 := Lib.hid hz1
  have HZ2 := Lib.hid hz2
  clear hi hz0 hz1 hz2 hb ht htn
  generalize hrk : ranksB c.rl = rk at *
  have HRK := Lib.hid hrk
  clear hrk
  go_enter Tryz.func116, Tryz.ntmps116
  go_upto_region 1 with (fail)
  generalize hB : w.heap.size = B at *
  refine wp_abs (fun w1 => Below B w w1 ∧ w1.heap[B]? = some (.cells #[.string ⟨c.nm.toArray⟩, .slice oa c.op.length cap, .int .i64 c.rl, .int .i64 c.se, .int .i64 c.mo, .int .i64 0] 161 (0, 0))) ⟨by rw [← hB]; exact (Below.refl _ _).alloc (Nat.le_refl _) _, by rw [← hB]; exact heap_at rfl⟩ (fun w1 hw1 => ?_)
  have HB := Lib.hid hB
  have B1 := Lib.hid hw1.1
  have X1 := Lib.hid hw1.2
  have hBs : B < w1.heap.size := lt_of_heap hw1.2
  clear hB hw1
  have htz : (t : Int) + 1 < 9223372036854775808 := by omega
  obtain ⟨T1, hT1⟩ : ∃ T1 : Nat, (t : Int) + 1 = (T1 : Int) := ⟨t + 1, by omega⟩
  have hT12 : T1 ≤ 13 := by omega
  have HTT := Lib.hid (show T1 = t + 1 by omega)
  go_upto_region 2 with (first
    | (refine wpList_load_whole rfl 161 _ rfl B _ _ _ _ rfl X1.out Tryz.underlying161 rfl size_field ?_)
    | (go_at_call 168; refine (QT.out w1).mono ?_; rintro e w2 ⟨rfl, b2⟩)
    | (refine wpList_make_row _ rfl _ _ 39 rfl 4 i0 (.bool false) Tryz.underlying39 HI.out HZ0.out HZ1.out rfl .i64 .i64 T1 rfl rfl (by rw [HZ2.out]; omega) (by omega) ?_))
  clear hT1
  have hs2 := b2.size
  have hF0 : (w2.alloc (.cells (madeCells #[Value.bool false] T1) 4)).heap[w2.heap.size]? = some (.cells (seenL [] T1).toArray 4 (0, 0)) := by
    have e : madeCells #[Value.bool false] T1 = (seenL [] T1).toArray := by
      rw [seenL_nil, ← toList_madeCells_one]
    rw [e]; exact heap_at rfl
  have bF : Below B w (w2.alloc (.cells (madeCells #[Value.bool false] T1) 4)) := B1.out.trans ((b2.trans ((Below.refl _ _).alloc hs2 _)).mono (Nat.le_of_lt hBs))
  have xF : (w2.alloc (.cells (madeCells #[Value.bool false] T1) 4)).heap[B]? = some (.cells #[.string ⟨c.nm.toArray⟩, .slice oa c.op.length cap, .int .i64 c.rl, .int .i64 c.se, .int .i64 c.mo, .int .i64 0] 161 (0, 0)) := heap_lt (bel_keep b2 hBs X1.out)
  have hBF : B < w2.heap.size := by omega
  generalize hF : w2.heap.size = F at *
  refine wp_abs (fun w3 => Below B w w3 ∧ w3.heap[B]? = some (.cells #[.string ⟨c.nm.toArray⟩, .slice oa c.op.length cap, .int .i64 c.rl, .int .i64 c.se, .int .i64 c.mo, .int .i64 0] 161 (0, 0)) ∧ w3.heap[F]? = some (.cells (seenL [] T1).toArray 4 (0, 0))) ⟨bF, xF, hF0⟩ (fun w3 hw3 => ?_)
  have H3 := Lib.hid hw3
  clear hw3 bF xF hF0 hF hs2 b2 hBs X1 B1
  as_aux_lemma =>
  go_wp2_with fail
  go_loopw [16, 6] (fun i v wr => ∃ k m : Nat, k ≤ b.length ∧ m ≤ k ∧ i = .int .i64 k ∧ v = .int .i64 m ∧ m = posN (b.take k) ∧ okL c [] b = okL c (b.take k) (b.drop k) ∧ Below B w wr ∧ wr.heap[B]? = some (.cells #[.string ⟨c.nm.toArray⟩, .slice oa c.op.length cap, .int .i64 c.rl, .int .i64 c.se, .int .i64 c.mo, .int .i64 0] 161 (0, 0)) ∧ wr.heap[F]? = some (.cells (seenL (b.take k) T1).toArray 4 (0, 0))) (fun i _ _ => b.length - (intOf i).toNat)
  case atStart => exact ⟨0, 0, by omega, by omega, rfl, rfl, rfl, rfl, H3.out.1, H3.out.2.1, H3.out.2.2⟩
  case round =>
  clear H3
  obtain ⟨k, m, hk, hmk, rfl, rfl, hm, hok, hbel, hx, hf⟩ := hrel
  have HM := Lib.hid hm
  have HOK := Lib.hid hok
  have BB := Lib.hid hbel
  have XX := Lib.hid hx
  have FF := Lib.hid hf
  clear hm hok hbel hx hf
  by_cases hlt : k < b.length
  · as_aux_lemma =>
    have dk : decide ((k : Int) < (b.length : Int)) = true := decide_eq_true (by omega)
    have dk2 : decide (k < b.length) = true := decide_eq_true hlt
    have hki : (k : Int) < (b.length : Int) := by omega
    obtain ⟨q, hoa, hqb, hqc⟩ := (HIB.out.below (HB.out.symm ▸ BB.out)).cells k hlt
    subst hoa
    have HST := Lib.hid (HOK.out.trans (okL_step c b k hlt))
    have HTK := Lib.hid (show b.take (k + 1) = b.take k ++ [b[k]] from List.take_succ_eq_append_getElem hlt)
    have HPN := Lib.hid (show posN (b.take (k + 1)) = m + if 0 < b[k] then 1 else 0 by rw [HTK.out, posN_snoc, ← HM.out])
    have HOX := Lib.hid (show okX c (b.take k) b[k] = (decide (0 ≤ b[k] ∧ b[k] ≤ topI c) && !(ranksB c.rl && decide (0 < b[k]) && decide (b[k] ∈ b.take k))) from rfl)
    rw [HTI.out, HRK.out] at HOX
    generalize b[k] = x at *
    have hBr : B < wr.heap.size := lt_of_heap XX.out
    have hFr : F < wr.heap.size := lt_of_heap FF.out
    by_cases hx0 : x < 0
    · have d0 : decide (x < 0) = true := decide_eq_true hx0
      have HE := Lib.hid (show fitsB c b = false by rw [HFB.out, HST.out, HOX.out, decide_eq_false (by omega)]; rfl)
      clear hx0
      go_wp2_with fail
      go_ret
      exact ⟨by rw [HE.out]; rfl, by rw [HB.out]; exact BB.out⟩
    · obtain ⟨v, rfl⟩ : ∃ v : Nat, x = v := ⟨x.toNat, by omega⟩
      have d0 : decide ((v : Int) < 0) = false := decide_eq_false hx0
      by_cases hvt : t < v
      · have d1 : decide ((t : Int) < (v : Int)) = true := decide_eq_true (by omega)
        have d1' : decide (t < v) = true := decide_eq_true hvt
        have HE := Lib.hid (show fitsB c b = false by rw [HFB.out, HST.out, HOX.out, decide_eq_false (by omega)]; rfl)
        clear hx0 hvt
        go_wp2_with (first
          | go_big_skip
          | ((with_reducible refine at_load 161 ?_); refine wpList_load_g ?_ 161 (.tmp 2) ?_ B _ _ _ _ ?_ XX.out Tryz.underlying161 ?_ size_field ?_; rfl; rfl; rfl; rfl)
          | (go_at_call 168; refine (QT.out wr).mono ?_; rintro e w5 ⟨rfl, b5⟩; dsimp only))
        go_ret
        exact ⟨by rw [HE.out]; rfl, by rw [HB.out]; exact BB.out.trans (b5.mono (Nat.le_of_lt hBr))⟩
      · have d1 : decide ((t : Int) < (v : Int)) = false := decide_eq_false (by omega)
        have d1' : decide (t < v) = false := decide_eq_false hvt
        have hvT : v < T1 := by have := HTT.out; omega
        have hvi : (v : Int) < (T1 : Int) := by omega
        have HOX2 := Lib.hid (show okX c (b.take k) v = !(rk && decide (0 < (v : Int)) && decide ((v : Int) ∈ b.take k)) by rw [HOX.out, decide_eq_true (by omega)]; rfl)
        have HKF0 : wr.cell? ⟨F, v, none⟩ = some (.bool (decide ((v : Int) ∈ b.take k))) := by rw [cell_of_row _ _ _ _ _ _ FF.out, List.getElem?_toArray]; exact seenL_get _ _ _ hvT
        generalize hsv : decide ((v : Int) ∈ b.take k) = sv at *
        have HKF := Lib.hid HKF0
        clear hx0 hvt HKF0 hsv HOX
        by_cases hv0 : 0 < v
        · have d2 : decide ((0 : Int) < (v : Int)) = true := decide_eq_true (by omega)
          have d2' : decide (0 < v) = true := decide_eq_true hv0
          rw [d2] at HOX2
          cases rk with
          | false =>
            have HOK2 := Lib.hid (show okL c [] b = okL c (b.take (k + 1)) (b.drop (k + 1)) by rw [HST.out, HOX2.out]; rfl)
            clear HOX2
            go_upto_region 9 with (first
              | go_big_skip
              | ((with_reducible refine at_load 161 ?_); refine wpList_load_g ?_ 161 (.tmp 2) ?_ B _ _ _ _ ?_ X5.out Tryz.underlying161 ?_ size_field ?_; rfl; rfl; rfl; rfl)
              | ((with_reducible refine at_load 161 ?_); refine wpList_load_g ?_ 161 (.tmp 2) ?_ B _ _ _ _ ?_ XX.out Tryz.underlying161 ?_ size_field ?_; rfl; rfl; rfl; rfl)
              | (go_at_call 168; refine (QT.out wr).mono ?_; rintro e w5 ⟨rfl, b5⟩; dsimp only; have X5 := Lib.hid (bel_keep b5 hBr XX.out); have B5 := Lib.hid b5; clear b5)
              | (go_at_call 169; refine (QR.out w5).mono ?_; rintro e w6 ⟨rfl, b6⟩; dsimp only; have B6 := Lib.hid (B5.out.trans (b6.mono B5.out.size)); clear b6; have kF := (B6.out.cell (p := ⟨F, v, none⟩) hFr).trans HKF.out; have fF : w6.frozen? ⟨F, v, none⟩ = false := frozen_of_row _ _ _ _ _ (bel_keep B6.out hFr FF.out)))
            have hs6 := B6.out.size
            refine wp_abs (fun w7 => Below B w w7 ∧ w7.heap[B]? = some (.cells #[.string ⟨c.nm.toArray⟩, .slice oa c.op.length cap, .int .i64 c.rl, .int .i64 c.se, .int .i64 c.mo, .int .i64 0] 161 (0, 0)) ∧ w7.heap[F]? = some (.cells (seenL (b.take (k + 1)) T1).toArray 4 (0, 0))) ⟨(BB.out.trans (B6.out.mono (Nat.le_of_lt hBr))).setCell (Nat.le_of_lt hBF) _, (heap_setCell_other _ _ _ _ (by simp; omega)).trans (bel_keep B6.out hBr XX.out), by rw [heap_setCell_same _ _ _ _ _ _ (bel_keep B6.out hFr FF.out)]; rw [List.setIfInBounds_toArray, seenL_snoc _ _ _ hvT, HTK.out]⟩ (fun w7 hw7 => ?_)
            have H7 := Lib.hid hw7
            clear hw7 kF fF
            have HPM := Lib.hid (show m + 1 = posN (b.take (k + 1)) by rw [HPN.out, if_pos (by omega)])
            go_wp2_with fail
            go_roundw
            case rel => exact ⟨k + 1, m + 1, by omega, by omega, by go_num, by go_num, HPM.out, HOK2.out, H7.out.1, H7.out.2.1, H7.out.2.2⟩
            case measure => simp [intOf]; omega
          | true =>
            cases sv with
            | false =>
              have HOK2 := Lib.hid (show okL c [] b = okL c (b.take (k + 1)) (b.drop (k + 1)) by rw [HST.out, HOX2.out]; rfl)
              clear HOX2
              go_upto_region 9 with (first
                | go_big_skip
                | ((with_reducible refine at_load 161 ?_); refine wpList_load_g ?_ 161 (.tmp 2) ?_ B _ _ _ _ ?_ X5.out Tryz.underlying161 ?_ size_field ?_; rfl; rfl; rfl; rfl)
                | ((with_reducible refine at_load 161 ?_); refine wpList_load_g ?_ 161 (.tmp 2) ?_ B _ _ _ _ ?_ XX.out Tryz.underlying161 ?_ size_field ?_; rfl; rfl; rfl; rfl)
                | (go_at_call 168; refine (QT.out wr).mono ?_; rintro e w5 ⟨rfl, b5⟩; dsimp only; have X5 := Lib.hid (bel_keep b5 hBr XX.out); have B5 := Lib.hid b5; clear b5)
                | (go_at_call 169; refine (QR.out w5).mono ?_; rintro e w6 ⟨rfl, b6⟩; dsimp only; have B6 := Lib.hid (B5.out.trans (b6.mono B5.out.size)); clear b6; have kF := (B6.out.cell (p := ⟨F, v, none⟩) hFr).trans HKF.out; have fF : w6.frozen? ⟨F, v, none⟩ = false := frozen_of_row _ _ _ _ _ (bel_keep B6.out hFr FF.out)))
              have hs6 := B6.out.size
              refine wp_abs (fun w7 => Below B w w7 ∧ w7.heap[B]? = some (.cells #[.string ⟨c.nm.toArray⟩, .slice oa c.op.length cap, .int .i64 c.rl, .int .i64 c.se, .int .i64 c.mo, .int .i64 0] 161 (0, 0)) ∧ w7.heap[F]? = some (.cells (seenL (b.take (k + 1)) T1).toArray 4 (0, 0))) ⟨(BB.out.trans (B6.out.mono (Nat.le_of_lt hBr))).setCell (Nat.le_of_lt hBF) _, (heap_setCell_other _ _ _ _ (by simp; omega)).trans (bel_keep B6.out hBr XX.out), by rw [heap_setCell_same _ _ _ _ _ _ (bel_keep B6.out hFr FF.out)]; rw [List.setIfInBounds_toArray, seenL_snoc _ _ _ hvT, HTK.out]⟩ (fun w7 hw7 => ?_)
              have H7 := Lib.hid hw7
              clear hw7 kF fF
              have HPM := Lib.hid (show m + 1 = posN (b.take (k + 1)) by rw [HPN.out, if_pos (by omega)])
              go_wp2_with fail
              go_roundw
              case rel => exact ⟨k + 1, m + 1, by omega, by omega, by go_num, by go_num, HPM.out, HOK2.out, H7.out.1, H7.out.2.1, H7.out.2.2⟩
              case measure => simp [intOf]; omega
            | true =>
              have HE := Lib.hid (show fitsB c b = false by rw [HFB.out, HST.out, HOX2.out]; rfl)
              clear HOX2
              go_wp2_with (first
                | go_big_skip
                | ((with_reducible refine at_load 161 ?_); refine wpList_load_g ?_ 161 (.tmp 2) ?_ B _ _ _ _ ?_ X5.out Tryz.underlying161 ?_ size_field ?_; rfl; rfl; rfl; rfl)
                | ((with_reducible refine at_load 161 ?_); refine wpList_load_g ?_ 161 (.tmp 2) ?_ B _ _ _ _ ?_ XX.out Tryz.underlying161 ?_ size_field ?_; rfl; rfl; rfl; rfl)
                | (go_at_call 168; refine (QT.out wr).mono ?_; rintro e w5 ⟨rfl, b5⟩; dsimp only; have X5 := Lib.hid (bel_keep b5 hBr XX.out); have B5 := Lib.hid b5; clear b5)
                | (go_at_call 169; refine (QR.out w5).mono ?_; rintro e w6 ⟨rfl, b6⟩; dsimp only; have B6 := Lib.hid (B5.out.trans (b6.mono B5.out.size)); clear b6; have kF := (B6.out.cell (p := ⟨F, v, none⟩) hFr).trans HKF.out; have fF : w6.frozen? ⟨F, v, none⟩ = false := frozen_of_row _ _ _ _ _ (bel_keep B6.out hFr FF.out)))
              go_ret
              exact ⟨by rw [HE.out]; rfl, by rw [HB.out]; exact BB.out.trans (B6.out.mono (Nat.le_of_lt hBr))⟩
        · have d2 : decide ((0 : Int) < (v : Int)) = false := decide_eq_false (by omega)
          have d2' : decide (0 < v) = false := decide_eq_false hv0
          rw [d2] at HOX2
          have HOK2 := Lib.hid (show okL c [] b = okL c (b.take (k + 1)) (b.drop (k + 1)) by rw [HST.out, HOX2.out]; cases rk <;> rfl)
          clear HOX2
          cases rk with
          | false =>
            go_upto_region 9 with (first
              | go_big_skip
              | ((with_reducible refine at_load 161 ?_); refine wpList_load_g ?_ 161 (.tmp 2) ?_ B _ _ _ _ ?_ X5.out Tryz.underlying161 ?_ size_field ?_; rfl; rfl; rfl; rfl)
              | ((with_reducible refine at_load 161 ?_); refine wpList_load_g ?_ 161 (.tmp 2) ?_ B _ _ _ _ ?_ XX.out Tryz.underlying161 ?_ size_field ?_; rfl; rfl; rfl; rfl)
              | (go_at_call 168; refine (QT.out wr).mono ?_; rintro e w5 ⟨rfl, b5⟩; dsimp only; have X5 := Lib.hid (bel_keep b5 hBr XX.out); have B5 := Lib.hid b5; clear b5)
              | (go_at_call 169; refine (QR.out w5).mono ?_; rintro e w6 ⟨rfl, b6⟩; dsimp only; have B6 := Lib.hid (B5.out.trans (b6.mono B5.out.size)); clear b6; have kF := (B6.out.cell (p := ⟨F, v, none⟩) hFr).trans HKF.out; have fF : w6.frozen? ⟨F, v, none⟩ = false := frozen_of_row _ _ _ _ _ (bel_keep B6.out hFr FF.out)))
            have hs6 := B6.out.size
            refine wp_abs (fun w7 => Below B w w7 ∧ w7.heap[B]? = some (.cells #[.string ⟨c.nm.toArray⟩, .slice oa c.op.length cap, .int .i64 c.rl, .int .i64 c.se, .int .i64 c.mo, .int .i64 0] 161 (0, 0)) ∧ w7.heap[F]? = some (.cells (seenL (b.take (k + 1)) T1).toArray 4 (0, 0))) ⟨(BB.out.trans (B6.out.mono (Nat.le_of_lt hBr))).setCell (Nat.le_of_lt hBF) _, (heap_setCell_other _ _ _ _ (by simp; omega)).trans (bel_keep B6.out hBr XX.out), by rw [heap_setCell_same _ _ _ _ _ _ (bel_keep B6.out hFr FF.out)]; rw [List.setIfInBounds_toArray, seenL_snoc _ _ _ hvT, HTK.out]⟩ (fun w7 hw7 => ?_)
            have H7 := Lib.hid hw7
            clear hw7 kF fF
            have HPM := Lib.hid (show m = posN (b.take (k + 1)) by rw [HPN.out, if_neg (by omega)]; rfl)
            go_wp2_with fail
            go_roundw
            case rel => exact ⟨k + 1, m, by omega, by omega, by go_num, rfl, HPM.out, HOK2.out, H7.out.1, H7.out.2.1, H7.out.2.2⟩
            case measure => simp [intOf]; omega
          | true =>
            go_upto_region 9 with (first
              | go_big_skip
              | ((with_reducible refine at_load 161 ?_); refine wpList_load_g ?_ 161 (.tmp 2) ?_ B _ _ _ _ ?_ X5.out Tryz.underlying161 ?_ size_field ?_; rfl; rfl; rfl; rfl)
              | ((with_reducible refine at_load 161 ?_); refine wpList_load_g ?_ 161 (.tmp 2) ?_ B _ _ _ _ ?_ XX.out Tryz.underlying161 ?_ size_field ?_; rfl; rfl; rfl; rfl)
              | (go_at_call 168; refine (QT.out wr).mono ?_; rintro e w5 ⟨rfl, b5⟩; dsimp only; have X5 := Lib.hid (bel_keep b5 hBr XX.out); have B5 := Lib.hid b5; clear b5)
              | (go_at_call 169; refine (QR.out w5).mono ?_; rintro e w6 ⟨rfl, b6⟩; dsimp only; have B6 := Lib.hid (B5.out.trans (b6.mono B5.out.size)); clear b6; have kF := (B6.out.cell (p := ⟨F, v, none⟩) hFr).trans HKF.out; have fF : w6.frozen? ⟨F, v, none⟩ = false := frozen_of_row _ _ _ _ _ (bel_keep B6.out hFr FF.out)))
            have hs6 := B6.out.size
            refine wp_abs (fun w7 => Below B w w7 ∧ w7.heap[B]? = some (.cells #[.string ⟨c.nm.toArray⟩, .slice oa c.op.length cap, .int .i64 c.rl, .int .i64 c.se, .int .i64 c.mo, .int .i64 0] 161 (0, 0)) ∧ w7.heap[F]? = some (.cells (seenL (b.take (k + 1)) T1).toArray 4 (0, 0))) ⟨(BB.out.trans (B6.out.mono (Nat.le_of_lt hBr))).setCell (Nat.le_of_lt hBF) _, (heap_setCell_other _ _ _ _ (by simp; omega)).trans (bel_keep B6.out hBr XX.out), by rw [heap_setCell_same _ _ _ _ _ _ (bel_keep B6.out hFr FF.out)]; rw [List.setIfInBounds_toArray, seenL_snoc _ _ _ hvT, HTK.out]⟩ (fun w7 hw7 => ?_)
            have H7 := Lib.hid hw7
            clear hw7 kF fF
            have HPM := Lib.hid (show m = posN (b.take (k + 1)) by rw [HPN.out, if_neg (by omega)]; rfl)
            go_wp2_with fail
            go_roundw
            case rel => exact ⟨k + 1, m, by omega, by omega, by go_num, rfl, HPM.out, HOK2.out, H7.out.1, H7.out.2.1, H7.out.2.2⟩
            case measure => simp [intOf]; omega
  · have dk : decide ((k : Int) < (b.length : Int)) = false := decide_eq_false (by omega)
    have dk2 : decide (k < b.length) = false := decide_eq_false hlt
    obtain rfl : k = b.length := by omega
    rw [List.take_length] at HM FF
    rw [List.take_length, List.drop_length] at HOK
    have HFB2 := Lib.hid (show fitsB c b = ((!rk || gapL b m) && (decide (c.rl ≠ 1) || decide ((m : Int) ≤ c.mo))) by rw [HFB.out, HOK.out, show okL c b [] = true from rfl, Bool.true_and, ← HM.out])
    clear HFB HOK
    as_aux_lemma =>
    go_wp2_with fail
    go_loopw [9] (fun i wr => ∃ n : Nat, n ≤ m ∧ i = .int .i64 ((n : Int) + 1) ∧ gapL b n = true ∧ (rk = false → n = 0) ∧ Below B w wr ∧ wr.heap[B]? = some (.cells #[.string ⟨c.nm.toArray⟩, .slice oa c.op.length cap, .int .i64 c.rl, .int .i64 c.se, .int .i64 c.mo, .int .i64 0] 161 (0, 0)) ∧ wr.heap[F]? = some (.cells (seenL b T1).toArray 4 (0, 0))) (fun i _ => m + 2 - (intOf i).toNat)
    case atStart => exact ⟨0, Nat.zero_le _, rfl, rfl, fun _ => rfl, BB.out, XX.out, FF.out⟩
    case round =>
    clear BB XX FF
    obtain ⟨n, hn2, rfl, hg, hz, hb2, hx2, hf2⟩ := hrel
    have HG := Lib.hid hg
    have B2 := Lib.hid hb2
    have X2 := Lib.hid hx2
    have F2 := Lib.hid hf2
    have HZ := Lib.hid hz
    have hBr : B < wr.heap.size := lt_of_heap hx2
    have hFr : F < wr.heap.size := lt_of_heap hf2
    clear hg hb2 hx2 hf2 hz
    cases rk with
    | false =>
      have HFB3 := Lib.hid (show fitsB c b = (decide (c.rl ≠ 1) || decide ((m : Int) ≤ c.mo)) by rw [HFB2.out]; rfl)
      by_cases hr1 : c.rl = 1
      · have e1 : (c.rl != 1) = false := by rw [hr1]; rfl
        have HE := Lib.hid (show fitsB c b = decide ((m : Int) ≤ c.mo) by rw [HFB3.out, decide_eq_false (by simp [hr1])]; rfl)
        clear hr1
        go_wp2_with (first
          | go_big_skip
          | ((with_reducible refine at_load 161 ?_); refine wpList_load_g ?_ 161 (.tmp 2) ?_ B _ _ _ _ ?_ X2.out Tryz.underlying161 ?_ size_field ?_; rfl; rfl; rfl; rfl)
          | (go_at_call 169; refine (QR.out wr).mono ?_; rintro e w6 ⟨rfl, b6⟩; dsimp only; have B6 := Lib.hid (B2.out.trans (b6.mono (Nat.le_of_lt hBr))); have X6 := Lib.hid (bel_keep b6 hBr X2.out); have F6 := Lib.hid (bel_keep b6 hFr F2.out); clear b6; have k2 : w6.cell? ⟨B, 2, none⟩ = some (.int .i64 c.rl) := cell_of_row _ _ _ _ _ _ X6.out; have k4 : w6.cell? ⟨B, 4, none⟩ = some (.int .i64 c.mo) := cell_of_row _ _ _ _ _ _ X6.out))
        go_ret
        exact ⟨by rw [HE.out]; rfl, by rw [HB.out]; exact B6.out⟩
      · have e1 : (c.rl != 1) = true := by rw [bne_iff_ne]; exact hr1
        have HE := Lib.hid (show fitsB c b = true by rw [HFB3.out, decide_eq_true hr1]; rfl)
        clear hr1
        go_wp2_with (first
          | go_big_skip
          | ((with_reducible refine at_load 161 ?_); refine wpList_load_g ?_ 161 (.tmp 2) ?_ B _ _ _ _ ?_ X2.out Tryz.underlying161 ?_ size_field ?_; rfl; rfl; rfl; rfl)
          | (go_at_call 169; refine (QR.out wr).mono ?_; rintro e w6 ⟨rfl, b6⟩; dsimp only; have B6 := Lib.hid (B2.out.trans (b6.mono (Nat.le_of_lt hBr))); have X6 := Lib.hid (bel_keep b6 hBr X2.out); have F6 := Lib.hid (bel_keep b6 hFr F2.out); clear b6; have k2 : w6.cell? ⟨B, 2, none⟩ = some (.int .i64 c.rl) := cell_of_row _ _ _ _ _ _ X6.out; have k4 : w6.cell? ⟨B, 4, none⟩ = some (.int .i64 c.mo) := cell_of_row _ _ _ _ _ _ X6.out))
        go_ret
        exact ⟨by rw [HE.out]; rfl, by rw [HB.out]; exact B6.out⟩

    | true =>
      by_cases hnm : n < m
      · have d1 : decide ((n : Int) + 1 ≤ (m : Int)) = true := decide_eq_true (by omega)
        have d1' : decide (n < m) = true := decide_eq_true hnm
        have hT := HTT.out
        have htb := HTL.out rfl
        have hnT : n + 1 < T1 := by omega
        have hni : (n : Int) + 1 < (T1 : Int) := by omega
        have HKF0 : (seenL b T1).toArray[n + 1]? = some (.bool (decide (((n + 1 : Nat) : Int) ∈ b))) := by rw [List.getElem?_toArray]; exact seenL_get _ _ _ hnT
        have HGS := Lib.hid (gapL_succ b n)
        have HGN := Lib.hid (gapL_no b n m hnm)
        generalize hsv : decide (((n + 1 : Nat) : Int) ∈ b) = sv at *
        have HKF := Lib.hid HKF0
        clear HKF0 hT htb
        cases sv with
        | true =>
          have HG2 := Lib.hid (show gapL b (n + 1) = true by rw [HGS.out, HG.out]; rfl)
          clear hsv HGS HGN
          go_wp2_with (first
            | go_big_skip
            | ((with_reducible refine at_load 161 ?_); refine wpList_load_g ?_ 161 (.tmp 2) ?_ B _ _ _ _ ?_ X2.out Tryz.underlying161 ?_ size_field ?_; rfl; rfl; rfl; rfl)
            | (go_at_call 169; refine (QR.out wr).mono ?_; rintro e w6 ⟨rfl, b6⟩; dsimp only; have B6 := Lib.hid (B2.out.trans (b6.mono (Nat.le_of_lt hBr))); have X6 := Lib.hid (bel_keep b6 hBr X2.out); have F6 := Lib.hid (bel_keep b6 hFr F2.out); clear b6; have kF : w6.cell? ⟨F, n + 1, none⟩ = some (.bool true) := (cell_of_row _ _ _ _ _ _ F6.out).trans HKF.out))
          go_roundw
          case rel => exact ⟨n + 1, by omega, by go_num, HG2.out, (fun h => by cases h), B6.out, X6.out, F6.out⟩
          case measure => simp [intOf]; omega
        | false =>
          have HE := Lib.hid (show fitsB c b = false by rw [HFB2.out, HGN.out (of_decide_eq_false hsv)]; rfl)
          clear hsv HGS HGN
          go_wp2_with (first
            | go_big_skip
            | ((with_reducible refine at_load 161 ?_); refine wpList_load_g ?_ 161 (.tmp 2) ?_ B _ _ _ _ ?_ X2.out Tryz.underlying161 ?_ size_field ?_; rfl; rfl; rfl; rfl)
            | (go_at_call 169; refine (QR.out wr).mono ?_; rintro e w6 ⟨rfl, b6⟩; dsimp only; have B6 := Lib.hid (B2.out.trans (b6.mono (Nat.le_of_lt hBr))); have X6 := Lib.hid (bel_keep b6 hBr X2.out); have F6 := Lib.hid (bel_keep b6 hFr F2.out); clear b6; have kF : w6.cell? ⟨F, n + 1, none⟩ = some (.bool false) := (cell_of_row _ _ _ _ _ _ F6.out).trans HKF.out))
          go_ret
          exact ⟨by rw [HE.out]; rfl, by rw [HB.out]; exact B6.out⟩
      · have d1 : decide ((n : Int) + 1 ≤ (m : Int)) = false := decide_eq_false (by omega)
        have d1' : decide (n < m) = false := decide_eq_false hnm
        have hnm2 : n = m := by omega
        have HFB3 := Lib.hid (show fitsB c b = (decide (c.rl ≠ 1) || decide ((m : Int) ≤ c.mo)) by rw [HFB2.out, ← hnm2, HG.out]; rfl)
        clear hnm2 hnm
        by_cases hr1 : c.rl = 1
        · have e1 : (c.rl != 1) = false := by rw [hr1]; rfl
          have HE := Lib.hid (show fitsB c b = decide ((m : Int) ≤ c.mo) by rw [HFB3.out, decide_eq_false (by simp [hr1])]; rfl)
          clear hr1
          go_wp2_with (first
            | go_big_skip
            | ((with_reducible refine at_load 161 ?_); refine wpList_load_g ?_ 161 (.tmp 2) ?_ B _ _ _ _ ?_ X2.out Tryz.underlying161 ?_ size_field ?_; rfl; rfl; rfl; rfl)
            | (go_at_call 169; refine (QR.out wr).mono ?_; rintro e w6 ⟨rfl, b6⟩; dsimp only; have B6 := Lib.hid (B2.out.trans (b6.mono (Nat.le_of_lt hBr))); have X6 := Lib.hid (bel_keep b6 hBr X2.out); have F6 := Lib.hid (bel_keep b6 hFr F2.out); clear b6; have k2 : w6.cell? ⟨B, 2, none⟩ = some (.int .i64 c.rl) := cell_of_row _ _ _ _ _ _ X6.out; have k4 : w6.cell? ⟨B, 4, none⟩ = some (.int .i64 c.mo) := cell_of_row _ _ _ _ _ _ X6.out))
          go_ret
          exact ⟨by rw [HE.out]; rfl, by rw [HB.out]; exact B6.out⟩
        · have e1 : (c.rl != 1) = true := by rw [bne_iff_ne]; exact hr1
          have HE := Lib.hid (show fitsB c b = true by rw [HFB3.out, decide_eq_true hr1]; rfl)
          clear hr1
          go_wp2_with (first
            | go_big_skip
            | ((with_reducible refine at_load 161 ?_); refine wpList_load_g ?_ 161 (.tmp 2) ?_ B _ _ _ _ ?_ X2.out Tryz.underlying161 ?_ size_field ?_; rfl; rfl; rfl; rfl)
            | (go_at_call 169; refine (QR.out wr).mono ?_; rintro e w6 ⟨rfl, b6⟩; dsimp only; have B6 := Lib.hid (B2.out.trans (b6.mono (Nat.le_of_lt hBr))); have X6 := Lib.hid (bel_keep b6 hBr X2.out); have F6 := Lib.hid (bel_keep b6 hFr F2.out); clear b6; have k2 : w6.cell? ⟨B, 2, none⟩ = some (.int .i64 c.rl) := cell_of_row _ _ _ _ _ _ X6.out; have k4 : w6.cell? ⟨B, 4, none⟩ = some (.int .i64 c.mo) := cell_of_row _ _ _ _ _ _ X6.out))
          go_ret
          exact ⟨by rw [HE.out]; rfl, by rw [HB.out]; exact B6.out⟩

end Go.Proofs.YtnohcdpnnhmpfaaGreatDoor
