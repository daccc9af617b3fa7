/-
  The reference's Stir: its steps, one by one, for any words.
-/
import Derived.Test.YtnohcdpnnhmpfaaFRStirM
import Derived.Deep.RegionHeld
namespace Go.Proofs.Ytnohcdpnnhmpfaa
open Go.RowKit ML FM

theorem size_step : (Try.prog.info? 146).map (·.size) = some 4 := by kernel_rfl

/-- what the reference's Stir and Unstir have in memory: v, m, the room for the result; the steps -/
structure RefSt (B : Nat) (w : World) (g : Nat) (cur : Array Value) (M Z : List U) (wr : World) : Prop where
  below : Below B w wr
  v : wr.heap[B]? = some (.cells (vals Z) 123 (0, 0))
  m : wr.heap[B + 1]? = some (.cells (vals M) 123 (0, 0))
  r : wr.heap[B + 2]? = some (.cells (vals (List.replicate 16 0)) 123 (0, 0))
  s : wr.heap[g]? = some (.cells cur 146 (0, 0))
  ge : B + 3 ≤ g
theorem RefSt.drewN {B : Nat} {w : World} {g : Nat} {cur : Array Value} {M Z : List U} {wr : World} (h : RefSt B w g cur M Z wr) (n : Nat) : RefSt B w g cur M Z (wr.drewN n) := ⟨bel_drewN h.below n, h.v, h.m, h.r, h.s, h.ge⟩
theorem RefSt.turned {B : Nat} {w : World} {g : Nat} {cur : Array Value} {M Z Z' : List U} {wr w1 : World} (h : RefSt B w g cur M Z wr) (ho : Only B wr w1)
    (hp : w1.heap[B]? = some (.cells (vals Z') 123 (0, 0))) : RefSt B w g cur M Z' w1 :=
  ⟨bel_only h.below ho (Nat.le_refl _), hp, ho.keep (by omega) h.m, ho.keep (by omega) h.r, ho.keep (by have := h.ge; omega) h.s, h.ge⟩
theorem RefSt.alloc {B : Nat} {w : World} {g : Nat} {cur : Array Value} {M Z : List U} {wr : World} (h : RefSt B w g cur M Z wr) (o : Obj) : RefSt B w g cur M Z (wr.alloc o) :=
  ⟨h.below.alloc (Nat.le_of_lt (lt_of_heap h.v)) o, heap_lt h.v, heap_lt h.m, heap_lt h.r, heap_lt h.s, h.ge⟩

/-- step n, as the row of steps holds it -/
theorem steps_cell {w : World} {g : Nat} {cur : Array Value} {T : TypeId} (h : w.heap[g]? = some (.cells cur T (0, 0))) (hx : cur.toList.take 2560 = i64s (stepsK 80)) (n r : Nat) (x : Int) (hn : n < 640) (hr : r < 4)
    (hv : (row4 n)[r]? = some x) : w.cell? ⟨g, 4 * n + r, none⟩ = some (.int .i64 x) := by
  rw [cell_of_row w g _ _ _ _ h]
  have h1 : (cur.toList.take 2560)[4 * n + r]? = some (.int .i64 x) := by
    rw [hx, i64s, List.getElem?_map, steps_get n r hn hr, hv]; rfl
  rw [List.getElem?_take] at h1
  split at h1
  · simpa using h1
  · cases h1

set_option maxHeartbeats 4000000 in
set_option maxRecDepth 100000 in
theorem refStir_any (V M : List U) (w : World) (hV : V.length = 16) (hM : M.length = 16) :
    Calls Try.prog 118 #[.agg (vals V), .agg (vals M)] w fun e w' => e = .returned (.agg (vals (stirK V M 80))) ∧ Below w.heap.size w w' := by
  have HV := Lib.hid hV
  have HM := Lib.hid hM
  clear hV hM
  go_enter Try.func118, Try.ntmps118
  go_upto_region 1 with (fail)
  refine wp_abs (fun w1 => Below w.heap.size w w1 ∧ w1.heap.size = w.heap.size + 3 ∧ w1.heap[w.heap.size]? = some (.cells (vals V) 123 (0, 0)) ∧
    w1.heap[w.heap.size + 1]? = some (.cells (vals M) 123 (0, 0)) ∧ w1.heap[w.heap.size + 2]? = some (.cells (vals (List.replicate 16 0)) 123 (0, 0))) ?_ (fun w1 hw1 => ?_)
  · refine ⟨(((Below.refl _ _).alloc (Nat.le_refl _) _).alloc (by simp) _).alloc (by simp; omega) _, by simp, ?_, ?_, ?_⟩
    · exact heap_lt (heap_lt (heap_at rfl))
    · exact heap_lt (heap_at (by simp))
    · exact heap_at (by simp)
  obtain ⟨hbel, hsz, h0, h1, h2⟩ := hw1
  generalize hB : w.heap.size = B at *
  have HB := Lib.hid hB
  have QS := Lib.hid (steps_any w1)
  rw [hsz] at QS
  have HBE := Lib.hid hbel
  have H0 := Lib.hid h0
  have H1 := Lib.hid h1
  have H2 := Lib.hid h2
  clear hB hbel h0 h1 h2
  go_wp2_with (go_at_call 121; refine QS.out.mono ?_; rintro e w2 ⟨vs, rfl, hb2, hown⟩; have HOWN := Lib.hid hown; obtain ⟨g, cap, cur, hvs, hg, hh, _, _, _, hx⟩ := hown.2.resolve_left (by rintro ⟨_, h⟩; cases h); rw [hvs]; clear hown hvs)
  have S0 : RefSt B w g cur M V w2 := ⟨HBE.out.trans (hb2.mono (by omega)), bel_keep hb2 (by omega) H0.out, bel_keep hb2 (by omega) H1.out, bel_keep hb2 (by omega) H2.out, hh, by omega⟩
  have HX := Lib.hid hx
  clear HBE H0 H1 H2 QS HOWN hb2 hh hx hsz hg
  go_loopw [9] (fun i wr => ∃ n : Nat, n ≤ 640 ∧ i = .int .i64 n ∧ RefSt B w g cur M (refK V M n) wr) (fun i _ => 640 - (intOf i).toNat)
  case atStart => exact ⟨0, by omega, rfl, S0⟩
  case round =>
    obtain ⟨n, hn, rfl, S⟩ := hrel
    clear S0
    by_cases hlt : n < 640
    · have hd640 : decide ((n : Int) < 640) = true := by simp; omega
      have c0 : wr.cell? ⟨g, n * 4, none⟩ = some (.int .i64 (sA n : Int)) := by rw [Nat.mul_comm]; exact steps_cell S.s HX.out n 0 _ hlt (by decide) rfl
      have c1 : wr.cell? ⟨g, n * 4 + 1, none⟩ = some (.int .i64 (sO n : Int)) := by rw [Nat.mul_comm]; exact steps_cell S.s HX.out n 1 _ hlt (by decide) rfl
      have c2 : wr.cell? ⟨g, n * 4 + 2, none⟩ = some (.int .i64 (sM n)) := by rw [Nat.mul_comm]; exact steps_cell S.s HX.out n 2 _ hlt (by decide) rfl
      have c3 : wr.cell? ⟨g, n * 4 + 3, none⟩ = some (.int .i64 (sT n : Int)) := by rw [Nat.mul_comm]; exact steps_cell S.s HX.out n 3 _ hlt (by decide) rfl
      have la := sA_lt n
      have lo := sO_lt n
      have lm := sM_lt n hlt
      have lt := sT_lt n
      have hlen : (refK V M n).length = 16 := by rw [length_refK, HV.out]
      have hnext : refK V M (n + 1) = stepV (refK V M n) M n := rfl
      unfold stepV at hnext
      have cA := cell_get S.v (sA n) (by omega)
      have cO := cell_get S.v (sO n) (by omega)
      have cM := fun h : 0 ≤ sM n => cell_get S.m (sM n).toNat (by rw [HM.out]; omega)
      generalize hZ : refK V M n = Z at *
      generalize hsA : sA n = sa at *
      generalize hsO : sO n = so at *
      generalize hsM : sM n = sm at *
      generalize hsT : sT n = st at *
      have HN := Lib.hid hnext
      have hzl := hlen
      clear hZ hsA hsO hsM hsT hnext hlen
      go_upto_region 4 with (fail)
      refine wp_abs (fun w3 => RefSt B w g cur M Z w3 ∧ w3.heap[wr.heap.size]? = some (.cells #[.int .i64 (sa : Int), .int .i64 (so : Int), .int .i64 sm, .int .i64 (st : Int)] 146 (0, 0)) ∧
        w3.cell? ⟨B, sa, none⟩ = some (.int .u32 (un (Z.getD sa 0))) ∧ w3.cell? ⟨B, so, none⟩ = some (.int .u32 (un (Z.getD so 0))) ∧ (0 ≤ sm → w3.cell? ⟨B + 1, sm.toNat, none⟩ = some (.int .u32 (un (M.getD sm.toNat 0)))) ∧ w3.frozen? ⟨B, sa, none⟩ = false)
        ⟨S.alloc _, heap_at rfl, (World.cell?_alloc_some _ _ _ (by rw [cA]; rfl)).trans cA, (World.cell?_alloc_some _ _ _ (by rw [cO]; rfl)).trans cO, fun h => (World.cell?_alloc_some _ _ _ (by rw [cM h]; rfl)).trans (cM h), frozen_get (S.alloc _).v _⟩ (fun w3 hw3 => ?_)
      obtain ⟨S3, hD, cA3, cO3, cM3, fA3⟩ := hw3
      clear S cA cO cM c0 c1 c2 c3
      generalize wr.heap.size = D at *
      have d0 : w3.cell? ⟨D, 0, none⟩ = some (.int .i64 (sa : Int)) := by rw [cell_of_row w3 D 0 _ _ _ hD]; rfl
      have d1 : w3.cell? ⟨D, 1, none⟩ = some (.int .i64 (so : Int)) := by rw [cell_of_row w3 D 1 _ _ _ hD]; rfl
      have d2 : w3.cell? ⟨D, 2, none⟩ = some (.int .i64 sm) := by rw [cell_of_row w3 D 2 _ _ _ hD]; rfl
      have d3 : w3.cell? ⟨D, 3, none⟩ = some (.int .i64 (st : Int)) := by rw [cell_of_row w3 D 3 _ _ _ hD]; rfl
      have HD := Lib.hid hD
      clear hD
      generalize hxa : Z.getD sa 0 = xa at *
      generalize hxo : Z.getD so 0 = xo at *
      clear hxa hxo
      have RX := r_xor
      have RA := w_add
      by_cases ht : 0 < st
      · have hdt : decide ((0 : Int) < (st : Int)) = true := by simp; omega
        have hfin := HN.out
        rw [if_pos ht] at hfin
        have HFIN := Lib.hid hfin
        clear hfin HN hzl
        go_upto_region 5 with (fail)
        refine Seg.wp_region_segs (fun w' => ∃ n, w' = w3.drewN n) [([0, 1, 2, 3, 4, 5, 6, 7, 8, 9, 10, 11, 12], 13)] [] 14 (by kernel_rfl) (by kernel_rfl) (fun _ _ d _ _ h => by cases d <;> exact h) (⟨1, rfl⟩) ?_
        simp only [List.map_cons, List.map_nil, Seg.opAt, List.drop_succ_cons, List.drop_zero, Seg.wpSegs, Array.getD_eq_getD_getElem?, List.getElem?_toArray, List.getElem?_cons_succ, List.getElem?_cons_zero, Option.getD_some]
        repeat (any_goals (first | go_big_quiet_step (fail) | quiet_step (fail)))
        refine wpQuiet_nil ?_
        intro K hK
        simp only [Region.wanted, if_true]
        go_wp2_with (go_at_call 122; refine (right_any (xa ^^^ xo) st _ (by omega)).mono ?_; rintro e w' ⟨rfl, rfl⟩)
        rw [turnK_rot _ st lt] at *
        refine hK _ _ ⟨_, rfl⟩ ?_
        clear hK K
        repeat (any_goals (first | go_big_quiet_step (fail) | quiet_step (fail)))
        refine wpQuiet_nil ?_
        go_upto_region 9 with (fail)
        refine wp_abs (fun w4 => RefSt B w g cur M (refK V M (n + 1)) w4) (by rw [HFIN.out]; exact S3.turned (((Only.refl B w3).drewN 1).setCell _ _) (heap_set (w := w3.drew) S3.v _ _)) (fun w4 S4 => ?_)
        go_wp2_with fail
        go_roundw
        case rel => exact ⟨n + 1, by omega, by go_num, S4⟩
        case measure => simp [intOf]; omega
      · have hdt : decide ((0 : Int) < (st : Int)) = false := by simp; omega
        have hfin := HN.out
        rw [if_neg ht] at hfin
        have HFIN := Lib.hid hfin
        have HZL := Lib.hid hzl
        clear hfin HN hzl
        have hBD : D ≠ B := by intro e; subst e; have h1 := HD.out; rw [S3.v] at h1; simp at h1
        go_upto_region 6 with (fail)
        refine Seg.wp_region_segs (fun w' => ∃ n, w' = w3.drewN n) [] [0, 1, 2, 3, 4, 5, 6, 7, 8, 9, 10] 11 (by kernel_rfl) (by kernel_rfl) (fun _ _ d _ _ h => by cases d <;> exact h) (⟨1, rfl⟩) ?_
        simp only [List.map_cons, List.map_nil, Seg.opAt, List.drop_succ_cons, List.drop_zero, Seg.wpSegs, Array.getD_eq_getD_getElem?, List.getElem?_toArray, List.getElem?_cons_succ, List.getElem?_cons_zero, Option.getD_some]
        repeat (any_goals (first | go_big_quiet_step (fail) | quiet_step (fail)))
        refine wpQuiet_nil ?_
        go_upto_region 7 with (fail)
        refine wp_abs (fun w4 => RefSt B w g cur M (Z.set sa (xa + xo)) w4 ∧ w4.heap[D]? = some (.cells #[.int .i64 (sa : Int), .int .i64 (so : Int), .int .i64 sm, .int .i64 (st : Int)] 146 (0, 0)))
          ⟨S3.turned (((Only.refl B w3).drewN 1).setCell _ _) (heap_set (w := w3.drew) S3.v _ _), (((Only.refl B w3).drewN 1).setCell sa _).keep hBD HD.out⟩ (fun w4 hw4 => ?_)
        obtain ⟨S4, hD4⟩ := hw4
        clear S3 HD d0 d1 d2 d3 cA3 cO3 cM3 fA3 hBD
        have d0 : w4.cell? ⟨D, 0, none⟩ = some (.int .i64 (sa : Int)) := by rw [cell_of_row w4 D 0 _ _ _ hD4]; rfl
        have d2 : w4.cell? ⟨D, 2, none⟩ = some (.int .i64 sm) := by rw [cell_of_row w4 D 2 _ _ _ hD4]; rfl
        have cA4 : w4.cell? ⟨B, sa, none⟩ = some (.int .u32 (un (xa + xo))) := by rw [cell_get S4.v sa (by rw [List.length_set, HZL.out]; exact la), getD_set_eq _ _ _ (by rw [HZL.out]; exact la)]
        have fA4 : w4.frozen? ⟨B, sa, none⟩ = false := frozen_get S4.v _
        clear hD4
        generalize xa + xo = xs at *
        by_cases hm : 0 ≤ sm
        · have hdm : decide ((0 : Int) ≤ sm) = true := by simp; omega
          have cM4 : w4.cell? ⟨B + 1, sm.toNat, none⟩ = some (.int .u32 (un (M.getD sm.toNat 0))) := cell_get S4.m _ (by rw [HM.out]; omega)
          generalize M.getD sm.toNat 0 = xm at *
          obtain ⟨mn, rfl⟩ := Int.eq_ofNat_of_zero_le hm
          have hfin := HFIN.out
          rw [if_pos hm] at hfin
          have HF2 := Lib.hid hfin
          clear hfin HFIN
          simp only [Int.toNat_natCast] at cM4
          go_upto_region 8 with (fail)
          refine Seg.wp_region_segs (fun w' => ∃ n, w' = w4.drewN n) [] [0, 1, 2, 3, 4, 5, 6, 7, 8, 9, 10] 11 (by kernel_rfl) (by kernel_rfl) (fun _ _ d _ _ h => by cases d <;> exact h) (⟨1, rfl⟩) ?_
          simp only [List.map_cons, List.map_nil, Seg.opAt, List.drop_succ_cons, List.drop_zero, Seg.wpSegs, Array.getD_eq_getD_getElem?, List.getElem?_toArray, List.getElem?_cons_succ, List.getElem?_cons_zero, Option.getD_some]
          repeat (any_goals (first | go_big_quiet_step (fail) | quiet_step (fail)))
          refine wpQuiet_nil ?_
          go_upto_region 9 with (fail)
          refine wp_abs (fun w5 => RefSt B w g cur M (refK V M (n + 1)) w5) (by rw [HF2.out]; exact S4.turned (((Only.refl B w4).drewN 1).setCell _ _) (heap_set (w := w4.drew) S4.v _ _)) (fun w5 S5 => ?_)
          go_wp2_with fail
          go_roundw
          case rel => exact ⟨n + 1, by omega, by go_num, S5⟩
          case measure => simp [intOf]; omega
        · have hdm : decide ((0 : Int) ≤ sm) = false := by simp; omega
          have hfin := HFIN.out
          rw [if_neg hm] at hfin
          rw [← hfin] at S4
          clear hfin HFIN
          go_wp2_with fail
          go_roundw
          case rel => exact ⟨n + 1, by omega, by go_num, S4⟩
          case measure => simp [intOf]; omega
    · have hd640 : decide ((n : Int) < 640) = false := by simp; omega
      obtain rfl : n = 640 := by omega
      have hst := ref_stir V M HV.out 80
      have S' : RefSt B w g cur M (stirK V M 80) wr := by rw [← hst]; exact S
      clear hst S
      go_upto_region 10 with (fail)
      apply wp_region_lit
      have hl80 : (stirK V M 80).length = 16 := by rw [length_stirK, HV.out]
      have hs2 := Lib.hid (show (Try.prog.info? 123).map (·.size) = some (vals (stirK V M 80)).size by rw [size_vals, hl80]; exact size_words)
      clear hl80
      refine wpList_load_whole rfl 123 _ rfl B (vals (stirK V M 80)) _ _ _ rfl S'.v Try.underlying123 rfl hs2.out ?_
      refine wpList_store_whole rfl rfl 123 _ _ rfl (B + 2) (vals (List.replicate 16 0)) (vals (stirK V M 80)) 123 rfl rfl S'.r ?_ hs2.out (oneCell_vals _) ?_
      · rw [size_vals, size_vals, length_stirK, HV.out]; rfl
      intro w3 ho hp
      go_wp2_with fail
      refine bodyPost_ret (results_cell_row rfl _ w3 (B + 2) _ _ _ _ rfl hp Try.underlying123 rfl hs2.out) rfl ⟨rfl, ?_⟩
      rw [HB.out]
      exact bel_only S'.below ho (by omega)
end Go.Proofs.Ytnohcdpnnhmpfaa
