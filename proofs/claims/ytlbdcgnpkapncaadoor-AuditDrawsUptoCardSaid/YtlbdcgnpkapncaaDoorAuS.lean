/-
  Chapter 14: the reference's Say: turned from told's walk by tools/mkaudit.sh
-/
import Derived.Test.YtlbdcgnpkapncaaDoorAuT
namespace Go.Proofs.YtlbdcgnpkapncaaDoor
set_option linter.unusedVariables false
open Go.RowKit ML FM ND
set_option maxHeartbeats 4000000 in
set_option maxRecDepth 100000 in
theorem refSay_any (n d : Nat) (on od : Option Addr) (cn cd : Nat) (w : World) (h : NFr w n d on od) (l1 : (dig n).length < 1099511627776) (l2 : (dig d).length < 1099511627776) :
    Calls Tryd.prog 31 #[.agg #[.slice on (dig n).length cn, .slice od (dig d).length cd]] w fun e w' => e = .returned (.agg #[.string ⟨(strD n).toArray⟩, .string ⟨(strD d).toArray⟩]) ∧ Below w.heap.size w w' := by
  have QN := Lib.hid (fun w h => refText_any n on cn w h l1)
  have QD := Lib.hid (fun w h => refText_any d od cd w h l2)
  have HS := Lib.hid size_api
  have H := Lib.hid h
  clear h l1 l2
  generalize strD n = N at *
  generalize strD d = D at *
  go_enter Tryd.func31, Tryd.ntmps31
  go_upto_region 1 with (fail)
  have BX := BoxR.mk' w #[.slice on (dig n).length cn, .slice od (dig d).length cd] #[.string ⟨#[]⟩, .string ⟨#[]⟩] 63 24
  generalize hB : w.heap.size = B at *
  refine wp_abs (fun w1 => BoxR B w w1 #[.slice on (dig n).length cn, .slice od (dig d).length cd] #[.string ⟨#[]⟩, .string ⟨#[]⟩] 63 24) BX (fun w1 B1 => ?_)
  have HB := Lib.hid hB
  have c1 := cell_of_row w1 B 0 _ _ _ B1.x
  have c2 := cell_of_row w1 B 1 _ _ _ B1.x
  have HB1 := Lib.hid B1
  clear BX hB B1
  refine Seg.wp_region_segs (fun w' => ∃ x : BelowT (B + 1) w1, w' = x.w) [([0, 1, 3, 4], 2)] [] 5 (by kernel_rfl) (by kernel_rfl) (fun _ _ d _ _ h => by cases d <;> exact h) (⟨⟨_, (Below.refl _ _).drew⟩, rfl⟩) ?_
  simp only [List.map_cons, List.map_nil, Seg.opAt, List.drop_succ_cons, List.drop_zero, Seg.wpSegs, Array.getD_eq_getD_getElem?, List.getElem?_toArray, List.getElem?_cons_succ, List.getElem?_cons_zero, Option.getD_some]
  repeat (any_goals (first | go_big_quiet_step (fail) | quiet_step (fail)))
  refine wpQuiet_nil ?_
  intro K hK
  simp only [Region.wanted, if_true]
  have hBs1 : B + 1 < w1.heap.size := lt_of_heap HB1.out.z
  have W1 := Lib.hid (show Below w.heap.size w w1 by rw [HB.out]; exact HB1.out.bel)
  have W1d := Lib.hid (show Below w.heap.size w w1.drew from W1.out.drew)
  go_wp2_with (go_at_call 73; (with_reducible refine (QN.out _ (H.out.num.below W1d.out)).mono ?_); rintro e w2 ⟨rfl, bel2⟩)
  have bel2' : Below w1.heap.size w1 w2 := undrew bel2
  refine hK _ _ ⟨⟨w2, bel2'.mono (by omega)⟩, rfl⟩ ?_
  have W2 := Lib.hid (W1.out.trans (bel2'.mono W1.out.size))
  have HB2 := Lib.hid (HB1.out.keep (by omega) bel2')
  have hBs2 : B + 1 < w2.heap.size := lt_of_heap HB2.out.z
  clear hK K c1 c2 bel2 bel2' QN
  repeat (any_goals (first | go_big_quiet_step (fail) | quiet_step (fail)))
  refine wpQuiet_nil ?_
  go_wp2_with (first
    | (go_at_call 73; refine (QD.out w2 (H.out.den.below W2.out)).mono ?_; rintro e w3 ⟨rfl, bel3⟩; have HB3 := Lib.hid (HB2.out.keep (by omega) bel3); have W3 := Lib.hid (W2.out.trans (bel3.mono W2.out.size)); clear bel3)
    | (refine wpList_store_whole rfl rfl 24 _ _ rfl (B + 1) #[.string ⟨#[]⟩, .string ⟨#[]⟩] #[.string ⟨N.toArray⟩, .string ⟨D.toArray⟩] 24 rfl rfl HB3.out.z rfl HS.out (two_strings _ _) ?_; intro w5 ho hp))
  refine bodyPost_ret (results_cell_row rfl _ w5 (B + 1) _ _ _ _ rfl hp Tryd.underlying24 rfl HS.out) rfl ⟨rfl, bel_only W3.out ho (by rw [HB.out]; omega)⟩
end Go.Proofs.YtlbdcgnpkapncaaDoor
