/-
  Chapter 4, WirePrints: wire.Print. Printed by tools/genpr.py.
-/
import Derived.Test.YtohemcdcmlngiaaDoorPrC
import Derived.Test.YtohemcdcmlngiaaDoorPrSh
import Derived.Tactics
import Derived.Tactics2
namespace Go.Proofs.YtohemcdcmlngiaaDoor.PR
set_option linter.unusedVariables false
set_option linter.unusedSimpArgs false
open Go.RowKit ML FM

set_option maxHeartbeats 8000000 in
set_option maxRecDepth 100000 in
theorem print_any (w : World) (hv : PVars w) (l : Bool) (t : Bytes) (oa : Option Addr) (n cap : Nat) (I : Inf) (h : NdAt w [.bool l, .string ⟨t.toArray⟩, .slice oa n cap] I) (hk : I.bulk ≤ 1048576) : Calls Tryd.prog 7 #[.agg #[.bool l, .string ⟨t.toArray⟩, .slice oa n cap]] w fun e w' => e = .returned (.tuple #[.string ⟨(prT I).toArray⟩, .int .i64 (prE I)]) ∧ Below w.heap.size w w' := by
  have hmf : ∀ (fn : Fn) (first cap : Array Value) (w : World), (Instr.makeFunc fn first cap).run Tryd.prog w = .ok (.func fn first cap) w := fun _ _ _ _ => rfl
  have HND := Lib.hid h
  have HV := Lib.hid hv
  have QL := Lib.hid (fun w' hb => (show Calls Tryd.prog 20 #[.agg #[.bool l, .string ⟨t.toArray⟩, .slice oa n cap]] w' _ from look_any w h w' hb))
  have HPE := Lib.hid (show prE I = if I.good = false then 2 else if 12 < I.dep ∨ 1048576 < I.siz then 3 else 0 from rfl)
  have HPT := Lib.hid (show prT I = if prE I = 0 then I.txt else [] from rfl)
  clear h hv
  go_enter_defers Tryd.func7, Tryd.ntmps7
  go_upto_region 3 with (fail)
  have hbA : Below w.heap.size w (((w.alloc (.cells #[.bool l, .string ⟨t.toArray⟩, .slice oa n cap] 24)).alloc (.cells #[.string ⟨#[]⟩] 9)).alloc (.cells #[.int .i64 0] 25)) := (((Below.refl _ _).alloc (Nat.le_refl _) _).alloc (by simp) _).alloc (by simp; omega) _
  have hc1 : (((w.alloc (.cells #[.bool l, .string ⟨t.toArray⟩, .slice oa n cap] 24)).alloc (.cells #[.string ⟨#[]⟩] 9)).alloc (.cells #[.int .i64 0] 25)).heap[w.heap.size]? = some (.cells #[.bool l, .string ⟨t.toArray⟩, .slice oa n cap] 24 (0, 0)) := heap_lt (heap_lt (heap_at rfl))
  have hc2 : (((w.alloc (.cells #[.bool l, .string ⟨t.toArray⟩, .slice oa n cap] 24)).alloc (.cells #[.string ⟨#[]⟩] 9)).alloc (.cells #[.int .i64 0] 25)).heap[w.heap.size + 1]? = some (.cells #[.string ⟨#[]⟩] 9 (0, 0)) := heap_lt (heap_at (by simp))
  have hc3 : (((w.alloc (.cells #[.bool l, .string ⟨t.toArray⟩, .slice oa n cap] 24)).alloc (.cells #[.string ⟨#[]⟩] 9)).alloc (.cells #[.int .i64 0] 25)).heap[w.heap.size + 1 + 1]? = some (.cells #[.int .i64 0] 25 (0, 0)) := heap_at (by simp)
  generalize hB : w.heap.size = B at *
  refine wp_abs (fun w1 => Below B w w1 ∧ w1.heap[B]? = some (.cells #[.bool l, .string ⟨t.toArray⟩, .slice oa n cap] 24 (0, 0)) ∧ w1.heap[B + 1]? = some (.cells #[.string ⟨#[]⟩] 9 (0, 0)) ∧ w1.heap[B + 1 + 1]? = some (.cells #[.int .i64 0] 25 (0, 0))) ⟨hbA, hc1, hc2, hc3⟩ (fun w1 hw1 => ?_)
  have HB := Lib.hid hB
  have B1 := Lib.hid hw1.1
  have X1 := Lib.hid hw1.2.1
  have S1 := Lib.hid hw1.2.2.1
  have E1 := Lib.hid hw1.2.2.2
  have hBs : B + 1 + 1 < w1.heap.size := lt_of_heap hw1.2.2.2
  have Q1 := Lib.hid (QL.out w1 B1.out)
  clear hB hw1 hbA hc1 hc2 hc3 QL
  cases hgd : I.good with
  | false =>
    rw [hgd] at Q1 HPE
    rw [if_pos rfl] at HPE
    have hpt := HPT.out
    rw [HPE.out, if_neg (by decide)] at hpt
    have HP2 := Lib.hid hpt
    clear hpt HPT hgd
    go_wp2_with (first
        | go_big_skip
        | ((with_reducible refine at_load 24 ?_); refine wpList_load_g ?_ 24 (.tmp 1) ?_ B _ _ _ _ ?_ X1.out Tryd.underlying24 ?_ size_node ?_; rfl; rfl; rfl; rfl)
        | (go_at_call 20; refine (Q1.out).mono ?_; rintro e w4 ⟨rfl, b4⟩; unfold lkE; rw [if_neg (by decide)]; dsimp only; have B4 := Lib.hid (B1.out.trans (b4.mono (by omega))); have S4 := Lib.hid (bel_keep b4 (by omega) S1.out); have E4 := Lib.hid (bel_keep b4 hBs E1.out); clear b4))
    refine leaves_cons (f := 19) (args := #[.pointer (some ⟨B + 1 + 1, 0, none⟩)]) (by simp) (by simp [go_sem]) ?_
    refine (caught_panicking (B + 1 + 1) 0 2 [] w4 (cell_of_row w4 (B + 1 + 1) 0 _ _ _ E4.out) (frozen_of_row w4 _ 0 _ _ E4.out)).mono ?_
    rintro e u' w5 ⟨rfl, rfl, rfl⟩
    have E5 := heap_setCell_same w4 (B + 1 + 1) 0 _ _ (.int .i64 2) E4.out
    have oE : Only (B + 1 + 1) w4 (w4.setCell ⟨B + 1 + 1, 0, none⟩ (.int .i64 2)) := (Only.refl _ w4).setCell 0 _
    have S5 := (oE.block (B + 1) (by omega)).trans S4.out
    have B5 := bel_only B4.out oE (by omega)
    generalize w4.setCell ⟨B + 1 + 1, 0, none⟩ (.int .i64 2) = w5 at *
    refine leaves_cons (f := 18) (args := #[.pointer (some ⟨B + 1 + 1, 0, none⟩), .pointer (some ⟨B + 1, 0, none⟩)]) (by simp [settle]) (by simp [go_sem]) ?_
    refine (strike_any (B + 1 + 1) (B + 1) 2 (.string ⟨#[]⟩) _ w5 rfl (cell_of_row w5 (B + 1 + 1) 0 _ _ _ E5) (cell_of_row w5 (B + 1) 0 _ _ _ S5) (frozen_of_row w5 _ 0 _ _ S5)).mono ?_
    rintro e u' w6 ⟨rfl, rfl, rfl⟩
    have S6 := heap_setCell_same w5 (B + 1) 0 _ _ (.string ⟨#[]⟩) S5
    have oS : Only (B + 1) w5 (w5.setCell ⟨B + 1, 0, none⟩ (.string ⟨#[]⟩)) := (Only.refl _ w5).setCell 0 _
    have E6 := (oS.block (B + 1 + 1) (by omega)).trans E5
    have B6 := bel_only B5 oS (by omega)
    generalize w5.setCell ⟨B + 1, 0, none⟩ (.string ⟨#[]⟩) = w6 at *
    have c1 : w6.cell? ⟨B + 1, 0, none⟩ = some (.string ⟨#[]⟩) := cell_of_row w6 (B + 1) 0 _ _ _ S6
    have c2 : w6.cell? ⟨B + 1 + 1, 0, none⟩ = some (.int .i64 2) := cell_of_row w6 (B + 1 + 1) 0 _ _ _ E6
    rw [HPE.out, HP2.out]
    simp [Leaves, settle, results, Tryd.results7, go_sem, c1, c2]
    rw [HB.out]
    exact B6
  | true =>
  rw [hgd] at Q1 HPE
  rw [if_neg (by decide)] at HPE
  have HGD := Lib.hid hgd
  clear hgd
  go_upto_region 4 with (first
        | go_big_skip
        | ((with_reducible refine at_load 24 ?_); refine wpList_load_g ?_ 24 (.tmp 1) ?_ B _ _ _ _ ?_ X1.out Tryd.underlying24 ?_ size_node ?_; rfl; rfl; rfl; rfl)
        | (go_at_call 20; refine (Q1.out).mono ?_; rintro e w4 ⟨rfl, b4⟩; unfold lkE; rw [if_pos rfl]; dsimp only; have B4 := Lib.hid (B1.out.trans (b4.mono (by omega))); have X4 := Lib.hid (bel_keep b4 (by omega) X1.out); have S4 := Lib.hid (bel_keep b4 (by omega) S1.out); have E4 := Lib.hid (bel_keep b4 hBs E1.out); clear b4))
  have hB4 : B + 1 + 1 < w4.heap.size := lt_of_heap E4.out
  clear X1 S1 E1 Q1 B1 hBs
  have HN4 := Lib.hid (HND.out.bel (HB.out.symm ▸ B4.out))
  have HV4 := Lib.hid (HV.out.below (HB.out.symm ▸ B4.out))
  go_upto_region 5 with (fail)
  have b5 : Below w4.heap.size w4 (w4.alloc (.cells #[.pointer none, .slice none 0 0] 46)) := (Below.refl _ _).alloc (Nat.le_refl _) _
  have hbd : Bd w4.heap.size w4.heap.size [] (w4.alloc (.cells #[.pointer none, .slice none 0 0] 46)) := .inl ⟨Nat.le_refl _, .slice none 0 0, heap_at rfl, World.ownsRow_nil _ _ _ _, fun h => by cases h⟩
  have QW := Lib.hid (show Calls Tryd.prog 21 #[.pointer (some ⟨w4.heap.size, 0, none⟩), .agg #[.bool l, .string ⟨t.toArray⟩, .slice oa n cap], .int .i64 0] (w4.alloc (.cells #[.pointer none, .slice none 0 0] 46)) _ from write_any w4 HV4.out HN4.out HGD.out hk 0 w4.heap.size [] _ b5 hbd (by omega) (by show 0 ≤ _; omega))
  have BB5 := Lib.hid (B4.out.trans (b5.mono (by omega)))
  have X5 := Lib.hid (bel_keep b5 (by omega) X4.out)
  have S5' := Lib.hid (bel_keep b5 (by omega) S4.out)
  have E5' := Lib.hid (bel_keep b5 hB4 E4.out)
  have hC := b5.size
  clear b5 hbd X4 S4 E4 HN4 HV4
  generalize (w4.alloc (.cells #[.pointer none, .slice none 0 0] 46)) = w5 at *
  generalize w4.heap.size = C at *
  by_cases hok : wrOk I 0 ([] : Bytes).length
  case neg =>
    have HPE2 : Hid (prE I = 3) := Lib.hid (by
      rw [HPE.out, if_pos]
      unfold wrOk at hok
      have hok2 : ¬ (I.dep + 0 ≤ 12 ∧ 0 + I.siz ≤ 1048576) := hok
      omega)
    have hpt := HPT.out
    rw [HPE2.out, if_neg (by decide)] at hpt
    have HP2 := Lib.hid hpt
    have HCK := Lib.hid hok
    clear hpt HPT hok HPE
    have HPE := HPE2
    go_wp2_with (first
        | go_big_skip
        | ((with_reducible refine at_load 24 ?_); refine wpList_load_g ?_ 24 (.tmp 1) ?_ B _ _ _ _ ?_ X5.out Tryd.underlying24 ?_ size_node ?_; rfl; rfl; rfl; rfl)
        | (go_at_call 21; refine (QW.out).mono ?_; rintro e w7 ⟨b7, _, h7⟩; rw [if_neg HCK.out] at h7; subst h7; dsimp only; have B7 := Lib.hid (BB5.out.trans (b7.mono (by omega))); have S7 := Lib.hid (bel_keep b7 (by omega) S5'.out); have E7 := Lib.hid (bel_keep b7 (by omega) E5'.out); clear b7))
    refine leaves_cons (f := 19) (args := #[.pointer (some ⟨B + 1 + 1, 0, none⟩)]) (by simp) (by simp [go_sem]) ?_
    refine (caught_panicking (B + 1 + 1) 0 3 [] w7 (cell_of_row w7 (B + 1 + 1) 0 _ _ _ E7.out) (frozen_of_row w7 _ 0 _ _ E7.out)).mono ?_
    rintro e u' w5 ⟨rfl, rfl, rfl⟩
    have E5 := heap_setCell_same w7 (B + 1 + 1) 0 _ _ (.int .i64 3) E7.out
    have oE : Only (B + 1 + 1) w7 (w7.setCell ⟨B + 1 + 1, 0, none⟩ (.int .i64 3)) := (Only.refl _ w7).setCell 0 _
    have S5 := (oE.block (B + 1) (by omega)).trans S7.out
    have B5 := bel_only B7.out oE (by omega)
    generalize w7.setCell ⟨B + 1 + 1, 0, none⟩ (.int .i64 3) = w5 at *
    refine leaves_cons (f := 18) (args := #[.pointer (some ⟨B + 1 + 1, 0, none⟩), .pointer (some ⟨B + 1, 0, none⟩)]) (by simp [settle]) (by simp [go_sem]) ?_
    refine (strike_any (B + 1 + 1) (B + 1) 3 (.string ⟨#[]⟩) _ w5 rfl (cell_of_row w5 (B + 1 + 1) 0 _ _ _ E5) (cell_of_row w5 (B + 1) 0 _ _ _ S5) (frozen_of_row w5 _ 0 _ _ S5)).mono ?_
    rintro e u' w6 ⟨rfl, rfl, rfl⟩
    have S6 := heap_setCell_same w5 (B + 1) 0 _ _ (.string ⟨#[]⟩) S5
    have oS : Only (B + 1) w5 (w5.setCell ⟨B + 1, 0, none⟩ (.string ⟨#[]⟩)) := (Only.refl _ w5).setCell 0 _
    have E6 := (oS.block (B + 1 + 1) (by omega)).trans E5
    have B6 := bel_only B5 oS (by omega)
    generalize w5.setCell ⟨B + 1, 0, none⟩ (.string ⟨#[]⟩) = w6 at *
    have c1 : w6.cell? ⟨B + 1, 0, none⟩ = some (.string ⟨#[]⟩) := cell_of_row w6 (B + 1) 0 _ _ _ S6
    have c2 : w6.cell? ⟨B + 1 + 1, 0, none⟩ = some (.int .i64 3) := cell_of_row w6 (B + 1 + 1) 0 _ _ _ E6
    rw [HPE.out, HP2.out]
    simp [Leaves, settle, results, Tryd.results7, go_sem, c1, c2]
    rw [HB.out]
    exact B6
  have HPE2 : Hid (prE I = 0) := Lib.hid (by
    rw [HPE.out, if_neg]
    have hok2 : I.dep + 0 ≤ 12 ∧ 0 + I.siz ≤ 1048576 := hok
    omega)
  have hpt := HPT.out
  rw [HPE2.out, if_pos rfl] at hpt
  have HP2 := Lib.hid hpt
  have HCK := Lib.hid hok
  clear hpt HPT hok HPE
  go_upto_region 6 with (first
        | go_big_skip
        | ((with_reducible refine at_load 24 ?_); refine wpList_load_g ?_ 24 (.tmp 1) ?_ B _ _ _ _ ?_ X5.out Tryd.underlying24 ?_ size_node ?_; rfl; rfl; rfl; rfl)
        | (go_at_call 21; refine (QW.out).mono ?_; rintro e w7 ⟨b7, _, h7⟩; rw [if_pos HCK.out] at h7; obtain ⟨rfl, d7⟩ := h7; dsimp only; have hC7 := b7.size; have B7 := Lib.hid (BB5.out.trans (b7.mono (by omega))); have S7 := Lib.hid (bel_keep b7 (by omega) S5'.out); have E7 := Lib.hid (bel_keep b7 (by omega) E5'.out); have D7 := Lib.hid d7; clear b7 d7))
  have QS := Lib.hid (Tryd.Builder_String_any C C I.txt w7 (show Lib.IsBuilder 46 5 C C (Lib.byteCells I.txt) w7 from D7.out) (by omega))
  have ks : ∀ w8, Below C w7 w8 → w8.cell? ⟨B + 1, 0, none⟩ = some (.string ⟨#[]⟩) ∧ w8.frozen? ⟨B + 1, 0, none⟩ = false ∧ w8.cell? ⟨B + 1 + 1, 0, none⟩ = some (.int .i64 0) ∧ w8.frozen? ⟨B + 1 + 1, 0, none⟩ = false := fun w8 h8 => by
    have s8 := bel_keep h8 (by omega : B + 1 < C) S7.out
    have e8 := bel_keep h8 hB4 E7.out
    exact ⟨cell_of_row w8 _ 0 _ _ _ s8, frozen_of_row w8 _ 0 _ _ s8, cell_of_row w8 _ 0 _ _ _ e8, frozen_of_row w8 _ 0 _ _ e8⟩
  have KS := Lib.hid ks
  clear ks
  go_wp2_with (first
        | go_big_skip
        | (go_at_call 22; refine (QS.out).mono ?_; rintro e w8 ⟨rfl, b8⟩; dsimp only; obtain ⟨n1, n2, n3, n4⟩ := KS.out w8 b8; have S8 := Lib.hid (bel_keep b8 (by omega) S7.out); have E8 := Lib.hid (bel_keep b8 hB4 E7.out); have B8 := Lib.hid (B7.out.trans (b8.mono (by omega))); clear b8))
  have oA : Only (B + 1) w8 (w8.setCell ⟨B + 1, 0, none⟩ (.string ⟨I.txt.toArray⟩)) := (Only.refl _ w8).setCell 0 _
  have SA := heap_setCell_same w8 (B + 1) 0 _ _ (.string ⟨I.txt.toArray⟩) S8.out
  have EA := (oA.block (B + 1 + 1) (by omega)).trans E8.out
  have BA := bel_only B8.out oA (by omega)
  generalize w8.setCell ⟨B + 1, 0, none⟩ (.string ⟨I.txt.toArray⟩) = wA at *
  have oC : Only (B + 1 + 1) wA (wA.setCell ⟨B + 1 + 1, 0, none⟩ (.int .i64 0)) := (Only.refl _ wA).setCell 0 _
  have EC := heap_setCell_same wA (B + 1 + 1) 0 _ _ (.int .i64 0) EA
  have SC := (oC.block (B + 1) (by omega)).trans SA
  have BC := bel_only BA oC (by omega)
  generalize wA.setCell ⟨B + 1 + 1, 0, none⟩ (.int .i64 0) = w9 at *
  have c1 : w9.cell? ⟨B + 1, 0, none⟩ = some (.string ⟨I.txt.toArray⟩) := cell_of_row w9 (B + 1) 0 _ _ _ SC
  have c2 : w9.cell? ⟨B + 1 + 1, 0, none⟩ = some (.int .i64 0) := cell_of_row w9 (B + 1 + 1) 0 _ _ _ EC
  refine leaves_cons (f := 19) (args := #[.pointer (some ⟨B + 1 + 1, 0, none⟩)]) (by simp) (by simp [go_sem]) ?_
  refine (caught_idle (B + 1 + 1) w9).mono ?_
  rintro e u' w10 ⟨rfl, rfl, rfl⟩
  refine leaves_cons (f := 18) (args := #[.pointer (some ⟨B + 1 + 1, 0, none⟩), .pointer (some ⟨B + 1, 0, none⟩)]) (by simp [settle]) (by simp [go_sem]) ?_
  refine (strike_idle (B + 1 + 1) (B + 1) _ w10 c2).mono ?_
  rintro e u' w11 ⟨rfl, rfl, rfl⟩
  rw [HPE2.out, HP2.out]
  simp [Leaves, settle, results, Tryd.results7, go_sem, c1, c2]
  rw [HB.out]
  exact BC
end Go.Proofs.YtohemcdcmlngiaaDoor.PR
