/-
  Chapter 14: the whole 1, and the winner's share, of both.
-/
import Derived.Test.YtlbdcgnpkapncaaDoorAuG
namespace Go.Proofs.YtlbdcgnpkapncaaDoor
set_option linter.unusedVariables false
set_option linter.unusedSimpArgs false
open Go.RowKit ML FM

section
open NL
set_option maxHeartbeats 400000 in
set_option maxRecDepth 100000 in
theorem exWhole1_any (w : World) :
    Calls Tryd.prog 28 #[.int .u64 1] w fun e w' => ∃ on od cn cd, e = .returned (.agg #[.slice on (dig 1).length cn, .slice od (dig 1).length cd]) ∧ LFr w' 1 1 on od ∧ Below w.heap.size w w' := by
  have QO := Lib.hid (fun w => exOf_any 1 w (by decide))
  have HS := Lib.hid size_lfr
  generalize hl : (dig 1).length = l1 at *
  have HL := Lib.hid hl
  clear hl
  go_enter Tryd.func28, Tryd.ntmps28
  go_upto_region 1 with (fail)
  generalize hB : w.heap.size = B at *
  refine wp_abs (fun w1 => Below B w w1 ∧ w1.heap[B]? = some (.cells #[.slice none 0 0, .slice none 0 0] 53 (0, 0))) ⟨by rw [← hB]; exact (Below.refl _ _).alloc (Nat.le_refl _) _, by rw [← hB]; exact heap_at rfl⟩ (fun w1 hw1 => ?_)
  have B1 := Lib.hid hw1.1
  have HC1 := Lib.hid hw1.2
  have HB := Lib.hid hB
  clear hw1 hB
  go_wp2_with (first
    | (refine wpList_store_whole rfl rfl 53 _ _ rfl B #[.slice none 0 0, .slice none 0 0] #[.slice oa l1 ca, .slice ob l1 cb] 53 rfl rfl HC3.out rfl HS.out (two_slices _ _ _ _ _ _) ?_; intro w7 ho hp)
    | (go_at_call 54; refine (QO.out w2).mono ?_; rintro e w3 ⟨ob, cb, rfl, h3, _, bel3⟩; have H3 := Lib.hid h3; have B3 := Lib.hid (B2.out.trans (bel3.mono (HB.out ▸ B2.out.size))); have HC3 := Lib.hid (bel_keep bel3 (lt_of_heap HC2.out) HC2.out); have H23 := Lib.hid (H2.out.below bel3); clear h3 bel3)
    | (go_at_call 54; refine (QO.out w1).mono ?_; rintro e w2 ⟨oa, ca, rfl, h2, _, bel2⟩; have H2 := Lib.hid h2; have B2 := Lib.hid (B1.out.trans (bel2.mono (HB.out ▸ B1.out.size))); have HC2 := Lib.hid (bel_keep bel2 (lt_of_heap HC1.out) HC1.out); clear h2 bel2))
  refine bodyPost_ret (results_cell_row rfl _ w7 B _ _ _ _ rfl hp Tryd.underlying53 rfl HS.out) rfl ⟨oa, ob, ca, cb, rfl, ⟨H23.out.spared HC3.out two_noInt ho, H3.out.spared HC3.out two_noInt ho⟩, by rw [HB.out]; exact bel_only B3.out ho (Nat.le_refl _)⟩
set_option maxHeartbeats 400000 in
set_option maxRecDepth 100000 in
theorem audShare_any (x y : Nat) (w : World) (hx : x ≤ 1048576) (hy : y ≤ 1048576) (h0 : 0 < x) :
    Calls Tryd.prog 27 #[.int .i64 (x : Int), .int .i64 (y : Int)] w fun e w' => ∃ on od cn cd, e = .returned (.agg #[.slice on (dig (x / Nat.gcd x (x + y))).length cn, .slice od (dig ((x + y) / Nat.gcd x (x + y))).length cd]) ∧ LFr w' (x / Nat.gcd x (x + y)) ((x + y) / Nat.gcd x (x + y)) on od ∧ Below w.heap.size w w' := by
  have QX := Lib.hid (fun w => exOf_any x w (by omega))
  have QY := Lib.hid (fun w => exOf_any (x + y) w (by omega))
  have lx : (dig x).length ≤ 2 := length_dig_le _ _ (by omega)
  have ly : (dig (x + y)).length ≤ 2 := length_dig_le _ _ (by omega)
  have QL := Lib.hid (fun oa ob ca cb w h1 h2 => exLowest_any x (x + y) oa ob ca cb w (by omega) h1 h2 (by omega) (by omega))
  have HS := Lib.hid size_lfr
  have hc1 : IntKind.u64.wrap (x : Int) = (x : Int) := by simp [IntKind.wrap, IntKind.bits, IntKind.signed]; omega
  have hc3 : IntKind.i64.wrap ((x : Int) + (y : Int)) = ((x + y : Nat) : Int) := by rw [IntWalk.i64_in _ (by omega)]; omega
  have hc2 : IntKind.u64.wrap ((x : Int) + (y : Int)) = ((x + y : Nat) : Int) := by simp [IntKind.wrap, IntKind.bits, IntKind.signed]; omega
  generalize x / Nat.gcd x (x + y) = N at *
  generalize (x + y) / Nat.gcd x (x + y) = D at *
  clear lx ly hx hy h0
  go_enter Tryd.func27, Tryd.ntmps27
  go_upto_region 1 with (fail)
  generalize hB : w.heap.size = B at *
  refine wp_abs (fun w1 => Below B w w1 ∧ w1.heap[B]? = some (.cells #[.slice none 0 0, .slice none 0 0] 53 (0, 0))) ⟨by rw [← hB]; exact (Below.refl _ _).alloc (Nat.le_refl _) _, by rw [← hB]; exact heap_at rfl⟩ (fun w1 hw1 => ?_)
  have B1 := Lib.hid hw1.1
  have HC1 := Lib.hid hw1.2
  have HB := Lib.hid hB
  clear hw1 hB
  go_wp2_with (first
    | (refine wpList_store_whole rfl rfl 53 _ _ rfl B #[.slice none 0 0, .slice none 0 0] #[.slice or (dig N).length cr, .slice os (dig D).length cs] 53 rfl rfl HC4.out rfl HS.out (two_slices _ _ _ _ _ _) ?_; intro w7 ho hp)
    | (go_at_call 53; refine (QL.out oa ob ca cb w3 H23.out H3.out).mono ?_; rintro e w4 ⟨or, os, cr, cs, rfl, hr, bel4⟩; have HR := Lib.hid hr; have B4 := Lib.hid (B3.out.trans (bel4.mono (HB.out ▸ B3.out.size))); have HC4 := Lib.hid (bel_keep bel4 (lt_of_heap HC3.out) HC3.out); clear hr bel4)
    | (go_at_call 54; (with_reducible refine (QX.out w1).mono ?_); rintro e w2 ⟨oa, ca, rfl, h2, _, bel2⟩; have H2 := Lib.hid h2; have B2 := Lib.hid (B1.out.trans (bel2.mono (HB.out ▸ B1.out.size))); have HC2 := Lib.hid (bel_keep bel2 (lt_of_heap HC1.out) HC1.out); clear h2 bel2)
    | (go_at_call 54; refine (QY.out w2).mono ?_; rintro e w3 ⟨ob, cb, rfl, h3, _, bel3⟩; have H3 := Lib.hid h3; have B3 := Lib.hid (B2.out.trans (bel3.mono (HB.out ▸ B2.out.size))); have HC3 := Lib.hid (bel_keep bel3 (lt_of_heap HC2.out) HC2.out); have H23 := Lib.hid (H2.out.below bel3); clear h3 bel3))
  refine bodyPost_ret (results_cell_row rfl _ w7 B _ _ _ _ rfl hp Tryd.underlying53 rfl HS.out) rfl ⟨or, os, cr, cs, rfl, ⟨HR.out.num.spared HC4.out two_noInt ho, HR.out.den.spared HC4.out two_noInt ho⟩, by rw [HB.out]; exact bel_only B4.out ho (Nat.le_refl _)⟩
end
section
open ND
set_option maxHeartbeats 400000 in
set_option maxRecDepth 100000 in
theorem refShare_any (x y : Nat) (w : World) (hx : x ≤ 1048576) (hy : y ≤ 1048576) (h0 : 0 < x) :
    Calls Tryd.prog 32 #[.int .i64 (x : Int), .int .i64 (y : Int)] w fun e w' => ∃ on od cn cd, e = .returned (.agg #[.slice on (dig (x / Nat.gcd x (x + y))).length cn, .slice od (dig ((x + y) / Nat.gcd x (x + y))).length cd]) ∧ NFr w' (x / Nat.gcd x (x + y)) ((x + y) / Nat.gcd x (x + y)) on od ∧ Below w.heap.size w w' := by
  have QX := Lib.hid (fun w => refOf_any x w (by omega))
  have QY := Lib.hid (fun w => refOf_any (x + y) w (by omega))
  have lx : (dig x).length ≤ 10 := length_dig_le _ _ (by omega)
  have ly : (dig (x + y)).length ≤ 10 := length_dig_le _ _ (by omega)
  have QL := Lib.hid (fun oa ob ca cb w h1 h2 => refLowest_any x (x + y) oa ob ca cb w (by omega) h1 h2 (by omega) (by omega))
  have HS := Lib.hid size_nfr
  have hc3 : IntKind.i64.wrap ((x : Int) + (y : Int)) = ((x + y : Nat) : Int) := by rw [IntWalk.i64_in _ (by omega)]; omega
  generalize x / Nat.gcd x (x + y) = N at *
  generalize (x + y) / Nat.gcd x (x + y) = D at *
  clear lx ly hx hy h0
  go_enter Tryd.func32, Tryd.ntmps32
  go_upto_region 1 with (fail)
  generalize hB : w.heap.size = B at *
  refine wp_abs (fun w1 => Below B w w1 ∧ w1.heap[B]? = some (.cells #[.slice none 0 0, .slice none 0 0] 63 (0, 0))) ⟨by rw [← hB]; exact (Below.refl _ _).alloc (Nat.le_refl _) _, by rw [← hB]; exact heap_at rfl⟩ (fun w1 hw1 => ?_)
  have B1 := Lib.hid hw1.1
  have HC1 := Lib.hid hw1.2
  have HB := Lib.hid hB
  clear hw1 hB
  go_wp2_with (first
    | (refine wpList_store_whole rfl rfl 63 _ _ rfl B #[.slice none 0 0, .slice none 0 0] #[.slice or (dig N).length cr, .slice os (dig D).length cs] 63 rfl rfl HC4.out rfl HS.out (two_slices _ _ _ _ _ _) ?_; intro w7 ho hp)
    | (go_at_call 60; refine (QL.out oa ob ca cb w3 H23.out H3.out).mono ?_; rintro e w4 ⟨or, os, cr, cs, rfl, hr, bel4⟩; have HR := Lib.hid hr; have B4 := Lib.hid (B3.out.trans (bel4.mono (HB.out ▸ B3.out.size))); have HC4 := Lib.hid (bel_keep bel4 (lt_of_heap HC3.out) HC3.out); clear hr bel4)
    | (go_at_call 61; (with_reducible refine (QX.out w1).mono ?_); rintro e w2 ⟨oa, ca, rfl, h2, bel2⟩; have H2 := Lib.hid h2; have B2 := Lib.hid (B1.out.trans (bel2.mono (HB.out ▸ B1.out.size))); have HC2 := Lib.hid (bel_keep bel2 (lt_of_heap HC1.out) HC1.out); clear h2 bel2)
    | (go_at_call 61; refine (QY.out w2).mono ?_; rintro e w3 ⟨ob, cb, rfl, h3, bel3⟩; have H3 := Lib.hid h3; have B3 := Lib.hid (B2.out.trans (bel3.mono (HB.out ▸ B2.out.size))); have HC3 := Lib.hid (bel_keep bel3 (lt_of_heap HC2.out) HC2.out); have H23 := Lib.hid (H2.out.below bel3); clear h3 bel3))
  refine bodyPost_ret (results_cell_row rfl _ w7 B _ _ _ _ rfl hp Tryd.underlying63 rfl HS.out) rfl ⟨or, os, cr, cs, rfl, ⟨HR.out.num.spared HC4.out two_noInt ho, HR.out.den.spared HC4.out two_noInt ho⟩, by rw [HB.out]; exact bel_only B4.out ho (Nat.le_refl _)⟩
end
end Go.Proofs.YtlbdcgnpkapncaaDoor
