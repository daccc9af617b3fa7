/-
  fold.Stir: eighty quarters, for any words.
-/
import Derived.Test.YtnohcdpnnhmpfaaFQ
import Derived.Deep.Cut
namespace Go.Proofs.Ytnohcdpnnhmpfaa
open Go.RowKit ML FM

theorem info_words : (Try.prog.info? 123).map (fun i => (i.zero, i.size, i.bytes)) = some (some (.agg (vals (List.replicate 16 0))), 16, 64) := by kernel_rfl
theorem info_pool : (Try.prog.info? 136).map (fun i => (i.zero, i.size, i.bytes)) = some (some (.agg (vals (List.replicate 16 0))), 16, 64) := by kernel_rfl
theorem size_words : (Try.prog.info? 123).map (·.size) = some 16 := by kernel_rfl
theorem size_pool : (Try.prog.info? 136).map (·.size) = some 16 := by kernel_rfl

theorem place_of (r i : Nat) (ri ii : Int) (w : World) (h1 : ri = r) (h2 : ii = i) (hr : r < 10) (hi : i < 16) :
    Calls Try.prog 117 #[.int .i64 ri, .int .i64 ii] w fun e w' => e = .returned (.int .i64 (placeN r i : Int)) ∧ w' = w := by
  subst h1; subst h2; exact place_any r i w hr hi

/-- what Stir and Unstir have in memory: m, the room for the result, the pool -/
structure StirSt (B : Nat) (w : World) (M Z : List U) (wr : World) : Prop where
  below : Below B w wr
  m : wr.heap[B + 1]? = some (.cells (vals M) 123 (0, 0))
  r : wr.heap[B + 2]? = some (.cells (vals (List.replicate 16 0)) 123 (0, 0))
  p : wr.heap[B + 3]? = some (.cells (vals Z) 136 (0, 0))
theorem StirSt.drewN {B : Nat} {w : World} {M Z : List U} {wr : World} (h : StirSt B w M Z wr) (n : Nat) : StirSt B w M Z (wr.drewN n) := ⟨bel_drewN h.below n, h.m, h.r, h.p⟩
theorem StirSt.turned {B : Nat} {w : World} {M Z Z' : List U} {wr w1 : World} (h : StirSt B w M Z wr) (ho : Only (B + 3) wr w1)
    (hp : w1.heap[B + 3]? = some (.cells (vals Z') 136 (0, 0))) : StirSt B w M Z' w1 :=
  ⟨bel_only h.below ho (by omega), (ho.block _ (by omega)).trans h.m, (ho.block _ (by omega)).trans h.r, hp⟩

set_option maxHeartbeats 4000000 in
set_option maxRecDepth 100000 in
theorem stir_any (V M : List U) (w : World) (hV : V.length = 16) (hM : M.length = 16) :
    Calls Try.prog 110 #[.agg (vals V), .agg (vals M)] w fun e w' => e = .returned (.agg (vals (stirK V M 80))) ∧ Below w.heap.size w w' := by
  have HV := Lib.hid hV
  have HM := Lib.hid hM
  clear hV hM
  go_enter Try.func110, Try.ntmps110
  go_upto_region 1 with (fail)
  refine wp_abs (fun w1 => Below w.heap.size w w1 ∧ w1.heap.size = w.heap.size + 3 ∧ w1.heap[w.heap.size]? = some (.cells (vals V) 123 (0, 0)) ∧
    w1.heap[w.heap.size + 1]? = some (.cells (vals M) 123 (0, 0)) ∧ w1.heap[w.heap.size + 2]? = some (.cells (vals (List.replicate 16 0)) 123 (0, 0))) ?_ (fun w1 hw1 => ?_)
  · refine ⟨(((Below.refl _ _).alloc (Nat.le_refl _) _).alloc (by simp) _).alloc (by simp; omega) _, by simp, ?_, ?_, ?_⟩
    · exact heap_lt (heap_lt (heap_at rfl))
    · exact heap_lt (heap_at (by simp))
    · exact heap_at (by simp)
  obtain ⟨hbel, hsz, h0, h1, h2⟩ := hw1
  generalize hB : w.heap.size = B at *
  have HB := Lib.hid hB
  clear hB
  apply wp_region_lit
  refine wpList_load_whole rfl 123 _ rfl B _ _ _ _ rfl h0 Try.underlying123 rfl (by rw [size_vals, HV.out]; exact size_words) ?_
  have hsp := Lib.hid (show (Try.prog.info? 136).map (·.size) = some (vals V).size by rw [size_vals, HV.out]; exact size_pool)
  go_upto_region 2 with (refine wpList_store_whole rfl rfl 136 _ _ rfl (B + 3) (vals (List.replicate 16 0)) (vals V) 136 rfl rfl ?hb ?hs hsp.out (oneCell_vals V) ?_)
  case hb => exact heap_at hsz
  case hs => rw [size_vals, size_vals, HV.out]; rfl
  intro w2 ho hp
  have S0 : StirSt B w M V w2 := ⟨bel_only (hbel.alloc (by omega) _) ho (by omega), ho.keep (by omega) (heap_lt h1), ho.keep (by omega) (heap_lt h2), hp⟩
  clear ho hp hbel hsz h0 h1 h2 hsp
  go_wp2_with fail
  go_loopw [9] (fun r wr => ∃ k : Nat, k ≤ 10 ∧ r = .int .i64 k ∧ StirSt B w M (stirK V M (8 * k)) wr) (fun r _ => 10 - (intOf r).toNat)
  case atStart => exact ⟨0, by omega, rfl, S0⟩
  case round =>
    obtain ⟨k, hk, rfl, S⟩ := hrel
    clear S0
    by_cases hlt : k < 10
    · have hd10 : decide ((k : Int) < 10) = true := by simp; omega
      go_wp2_with fail
      obtain ⟨wo, rfl⟩ : ∃ wo : World, wo = wr := ⟨_, rfl⟩
      go_loopw [12] (fun i wi => ∃ j : Nat, j ≤ 8 ∧ i = .int .i64 j ∧ StirSt B w M (stirK V M (8 * k + j)) wi) (fun i _ => 8 - (intOf i).toNat)
      case atStart => exact ⟨0, by omega, rfl, S⟩
      case round =>
        obtain ⟨j, hj, rfl, Si⟩ := hrel
        clear S
        by_cases hjt : j < 8
        · have hd8 : decide ((j : Int) < 8) = true := by simp; omega
          have p1 := placeN_lt k (2 * j) hlt (by omega)
          have p2 := placeN_lt k (2 * j + 1) hlt (by omega)
          have c1 : wr.cell? ⟨B + 1, placeN k (2 * j), none⟩ = some (.int .u32 (un (M.getD (placeN k (2 * j)) 0))) := cell_get Si.m _ (by rw [HM.out]; exact p1)
          have c2 : wr.cell? ⟨B + 1, placeN k (2 * j + 1), none⟩ = some (.int .u32 (un (M.getD (placeN k (2 * j + 1)) 0))) := cell_get Si.m _ (by rw [HM.out]; exact p2)
          generalize hx1 : M.getD (placeN k (2 * j)) 0 = x1 at *
          generalize hx2 : M.getD (placeN k (2 * j + 1)) 0 = x2 at *
          generalize hn1 : placeN k (2 * j) = n1 at *
          generalize hn2 : placeN k (2 * j + 1) = n2 at *
          have Hx1 := Lib.hid hx1
          have Hx2 := Lib.hid hx2
          have Hn1 := Lib.hid hn1
          have Hn2 := Lib.hid hn2
          clear hx1 hx2 hn1 hn2
          go_upto_region 8 with (fail)
          refine Seg.wp_region_segs (fun w' => ∃ n, w' = wr.drewN n) [([0, 1, 2, 3, 7, 8, 9, 10], 4), ([5, 6], 11)] [12, 13] 14 (by kernel_rfl) (by kernel_rfl) (fun _ _ d _ _ h => by cases d <;> exact h) (⟨1, rfl⟩) ?_
          simp only [List.map_cons, List.map_nil, Seg.opAt, List.drop_succ_cons, List.drop_zero, Seg.wpSegs, Array.getD_eq_getD_getElem?, List.getElem?_toArray, List.getElem?_cons_succ, List.getElem?_cons_zero, Option.getD_some]
          repeat (any_goals (first | go_big_quiet_step (fail) | quiet_step (fail)))
          refine wpQuiet_nil ?_
          intro K hK
          simp only [Region.wanted, if_true]
          go_wp2_with (go_at_call 117; refine (place_of k (2 * j) _ _ _ (by omega) (by omega) hlt (by omega)).mono ?_; rw [Hn1.out]; rintro e w' ⟨rfl, rfl⟩)
          refine hK _ _ ⟨_, rfl⟩ ?_
          clear hK K
          repeat (any_goals (first | go_big_quiet_step (fail) | quiet_step (fail)))
          refine wpQuiet_nil ?_
          intro K hK
          simp only [Region.wanted, if_true]
          go_wp2_with (go_at_call 117; refine (place_of k (2 * j + 1) _ _ _ (by omega) (by omega) hlt (by omega)).mono ?_; rw [Hn2.out]; rintro e w' ⟨rfl, rfl⟩)
          refine hK _ _ ⟨_, rfl⟩ ?_
          clear hK K
          repeat (any_goals (first | go_big_quiet_step (fail) | quiet_step (fail)))
          refine wpQuiet_nil ?_
          have QQ := Lib.hid (quarter_any (B + 3) j wr.drew 136 (stirK V M (8 * k + j)) x1 x2 hjt (by rw [length_stirK, HV.out]) (by exact Si.p))
          go_wp2_with fail
          refine QQ.out.mono ?_
          clear QQ
          rintro e w3 ⟨rfl, ho, hp⟩
          have S' : StirSt B w M (stirK V M (8 * k + (j + 1))) w3 := by
            rw [show 8 * k + (j + 1) = 8 * k + j + 1 by omega, stirK_round V M k j hjt, Hn1.out, Hn2.out, Hx1.out, Hx2.out]
            exact (Si.drewN 1).turned ho hp
          clear ho hp c1 c2 Si
          go_wp2_with fail
          go_roundw
          case rel => exact ⟨j + 1, by omega, by go_num, S'⟩
          case measure => simp [intOf]; omega
        · have hd8 : decide ((j : Int) < 8) = false := by simp; omega
          go_wp2_with fail
          go_roundw
          case rel => exact ⟨k + 1, by omega, by go_num, by rw [show 8 * (k + 1) = 8 * k + j by omega]; exact Si⟩
          case measure => simp [intOf]; omega
    · have hd10 : decide ((k : Int) < 10) = false := by simp; omega
      obtain rfl : k = 10 := by omega
      go_upto_region 11 with (fail)
      apply wp_region_lit
      have hl80 : (stirK V M 80).length = 16 := by rw [length_stirK, HV.out]
      have hs1 := Lib.hid (show (Try.prog.info? 136).map (·.size) = some (vals (stirK V M 80)).size by rw [size_vals, hl80]; exact size_pool)
      have hs2 := Lib.hid (show (Try.prog.info? 123).map (·.size) = some (vals (stirK V M 80)).size by rw [size_vals, hl80]; exact size_words)
      clear hl80
      refine wpList_load_whole rfl 136 _ rfl (B + 3) (vals (stirK V M 80)) _ _ _ rfl S.p Try.underlying136 rfl hs1.out ?_
      refine wpList_store_whole rfl rfl 123 _ _ rfl (B + 2) (vals (List.replicate 16 0)) (vals (stirK V M 80)) 123 rfl rfl S.r ?_ hs2.out (oneCell_vals _) ?_
      · rw [size_vals, size_vals, length_stirK, HV.out]; rfl
      intro w3 ho hp
      go_wp2_with fail
      refine bodyPost_ret (results_cell_row rfl _ w3 (B + 2) _ _ _ _ rfl hp Try.underlying123 rfl hs2.out) rfl ⟨rfl, ?_⟩
      rw [HB.out]
      exact bel_only S.below ho (by omega)
end Go.Proofs.Ytnohcdpnnhmpfaa
