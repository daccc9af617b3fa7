/-
  Chapter 14, for Draw: whole numbers and quotients as fractions.
-/
import Derived.Test.YtlbdcgnpkapncaaDoorAuW
namespace Go.Proofs.YtlbdcgnpkapncaaDoor
set_option linter.unusedVariables false
set_option linter.unusedSimpArgs false
open Go.RowKit ML FM NL

theorem results_cell_cell {P : Program} {fn : Func} {p q : Tmp} {ty : TypeId} (h : fn.results = #[.cell p ty, .cell q ty]) (tmps : Array Value) (w : World) (g g2 : Nat) (t t2 : TypeId) (cs cs2 : Array Value) (fr fr2 : Nat × Nat) (d : TypeDesc)
    (hp : tmps.getD p undef = .pointer (some ⟨g, 0, none⟩)) (hq : tmps.getD q undef = .pointer (some ⟨g2, 0, none⟩)) (hg : w.heap[g]? = some (.cells cs t fr)) (hg2 : w.heap[g2]? = some (.cells cs2 t2 fr2))
    (hu : P.underlying ty = some d) (hd : (match d with | .struct _ | .array _ _ => true | _ => false) = true) (hi : (P.info? ty).map (·.size) = some cs.size) (hi2 : (P.info? ty).map (·.size) = some cs2.size) :
    (results fn tmps).run P w = .ok (.tuple #[.agg cs, .agg cs2]) w := by
  have hp' : tmps[p]?.getD undef = .pointer (some ⟨g, 0, none⟩) := by simpa using hp
  have hq' : tmps[q]?.getD undef = .pointer (some ⟨g2, 0, none⟩) := by simpa using hq
  simp [results, h, hp', hq', asAddr, run_loadVar_row w g t ty cs fr d hg hu hd hi, run_loadVar_row w g2 t2 ty cs2 fr2 d hg2 hu hd hi2]

set_option maxHeartbeats 4000000 in
set_option maxRecDepth 100000 in
theorem exWhole_any (n : Nat) (w : World) (hn : n < 18446744073709551616) :
    Calls Tryd.prog 28 #[.int .u64 (n : Int)] w fun e w' => ∃ on od cn cd, e = .returned (.agg #[.slice on (dig n).length cn, .slice od (dig 1).length cd]) ∧ LFr w' n 1 on od ∧ Below w.heap.size w w' := by
  have QN := Lib.hid (fun w => exOf_any n w hn)
  have QO := Lib.hid (fun w => exOf_any 1 w (by decide))
  have HS := Lib.hid size_lfr
  generalize hl : (dig 1).length = l1 at *
  clear hl hn
  go_enter Tryd.func28, Tryd.ntmps28
  go_upto_region 1 with (fail)
  generalize hB : w.heap.size = B at *
  refine wp_abs (fun w1 => Below B w w1 ∧ w1.heap[B]? = some (.cells #[.slice none 0 0, .slice none 0 0] 53 (0, 0))) ⟨by rw [← hB]; exact (Below.refl _ _).alloc (Nat.le_refl _) _, by rw [← hB]; exact heap_at rfl⟩ (fun w1 hw1 => ?_)
  have B1 := Lib.hid hw1.1
  have HC1 := Lib.hid hw1.2
  have HB := Lib.hid hB
  clear hw1 hB
  go_wp2_with (first
    | (refine wpList_store_whole rfl rfl 53 _ _ rfl B #[.slice none 0 0, .slice none 0 0] #[.slice oa (dig n).length ca, .slice ob l1 cb] 53 rfl rfl HC3.out rfl HS.out (two_slices _ _ _ _ _ _) ?_; intro w7 ho hp)
    | (go_at_call 54; refine (QO.out w2).mono ?_; rintro e w3 ⟨ob, cb, rfl, h3, _, bel3⟩; have H3 := Lib.hid h3; have B3 := Lib.hid (B2.out.trans (bel3.mono (HB.out ▸ B2.out.size))); have HC3 := Lib.hid (bel_keep bel3 (lt_of_heap HC2.out) HC2.out); have H23 := Lib.hid (H2.out.below bel3); clear h3 bel3)
    | (go_at_call 54; (with_reducible refine (QN.out w1).mono ?_); rintro e w2 ⟨oa, ca, rfl, h2, _, bel2⟩; have H2 := Lib.hid h2; have B2 := Lib.hid (B1.out.trans (bel2.mono (HB.out ▸ B1.out.size))); have HC2 := Lib.hid (bel_keep bel2 (lt_of_heap HC1.out) HC1.out); clear h2 bel2))
  refine bodyPost_ret (results_cell_row rfl _ w7 B _ _ _ _ rfl hp Tryd.underlying53 rfl HS.out) rfl ⟨oa, ob, ca, cb, rfl, ⟨H23.out.spared HC3.out two_noInt ho, H3.out.spared HC3.out two_noInt ho⟩, by rw [HB.out]; exact bel_only B3.out ho (Nat.le_refl _)⟩
set_option maxHeartbeats 4000000 in
set_option maxRecDepth 100000 in
/-- a / b over c / d -/
theorem exFOver_any (a b c d : Nat) (oa ob oc od : Option Addr) (ca cb cc cd : Nat) (w : World) (hX : LFr w a b oa ob) (hY : LFr w c d oc od) (h0 : 0 < b * c) (l1 : (dig a).length < 274877906944) (l2 : (dig b).length < 274877906944) (l3 : (dig c).length < 274877906944) (l4 : (dig d).length < 274877906944) :
    Calls Tryd.prog 50 #[.agg #[.slice oa (dig a).length ca, .slice ob (dig b).length cb], .agg #[.slice oc (dig c).length cc, .slice od (dig d).length cd]] w fun e w' => ∃ on om cn cm, e = .returned (.agg #[.slice on (dig (a * d / Nat.gcd (a * d) (b * c))).length cn, .slice om (dig (b * c / Nat.gcd (a * d) (b * c))).length cm]) ∧ LFr w' (a * d / Nat.gcd (a * d) (b * c)) (b * c / Nat.gcd (a * d) (b * c)) on om ∧ Below w.heap.size w w' := by
  have QT := Lib.hid (fun w h1 h2 => exFTimes_any a b d c oa ob od oc ca cb cd cc w h1 h2 h0 l1 l2 l4 l3)
  have HS := Lib.hid size_lfr
  have HX := Lib.hid hX
  have HY := Lib.hid hY
  generalize a * d / Nat.gcd (a * d) (b * c) = N at *
  generalize b * c / Nat.gcd (a * d) (b * c) = D at *
  clear hX hY h0 l1 l2 l3 l4
  go_enter Tryd.func50, Tryd.ntmps50
  go_upto_region 1 with (fail)
  have BX := Box3.mk' w #[.slice oa (dig a).length ca, .slice ob (dig b).length cb] #[.slice oc (dig c).length cc, .slice od (dig d).length cd] #[.slice none 0 0, .slice none 0 0] 53 53
  generalize hB : w.heap.size = B at *
  refine wp_abs (fun w1 => Box3 B w w1 #[.slice oa (dig a).length ca, .slice ob (dig b).length cb] #[.slice oc (dig c).length cc, .slice od (dig d).length cd] #[.slice none 0 0, .slice none 0 0] 53 53) BX (fun w1 B1 => ?_)
  have HB := Lib.hid hB
  have c1 := cell_of_row w1 B 0 _ _ _ B1.x
  have c2 := cell_of_row w1 B 1 _ _ _ B1.x
  have c3 := cell_of_row w1 (B + 1) 0 _ _ _ B1.y
  have c4 := cell_of_row w1 (B + 1) 1 _ _ _ B1.y
  have hBs1 : B + 1 + 1 < w1.heap.size := lt_of_heap B1.z
  have HB1 := Lib.hid B1
  have W1 := Lib.hid (show Below w.heap.size w w1 by rw [HB.out]; exact B1.bel)
  clear BX hB B1
  go_wp2_with (first
    | (go_at_call 46; refine (QT.out w1 (HX.out.below W1.out) ⟨HY.out.den.below W1.out, HY.out.num.below W1.out⟩).mono ?_; rintro e w4 ⟨or, os, cr, cs, rfl, hr, bel4⟩; have HR := Lib.hid hr; have HB4 := Lib.hid (HB1.out.keep (by omega) bel4); have W4 := Lib.hid (W1.out.trans (bel4.mono W1.out.size)); clear hr bel4)
    | (refine wpList_store_whole rfl rfl 53 _ _ rfl (B + 1 + 1) #[.slice none 0 0, .slice none 0 0] #[.slice or (dig N).length cr, .slice os (dig D).length cs] 53 rfl rfl HB4.out.z rfl HS.out (two_slices _ _ _ _ _ _) ?_; intro w5 ho hp))
  refine bodyPost_ret (results_cell_row rfl _ w5 (B + 1 + 1) _ _ _ _ rfl hp Tryd.underlying53 rfl HS.out) rfl ⟨or, os, cr, cs, rfl, ⟨HR.out.num.spared HB4.out.z two_noInt ho, HR.out.den.spared HB4.out.z two_noInt ho⟩, bel_only W4.out ho (by rw [HB.out]; omega)⟩
set_option maxHeartbeats 2000000 in
set_option maxRecDepth 100000 in
/-- odds a / b, limit c / d -/
theorem audSettled1_any (a b c d : Nat) (oa ob oc od : Option Addr) (ca cb cc cd : Nat) (ps s0 s1 : Value) (wi lo : Int) (w : World) (hX : LFr w a b oa ob) (hY : LFr w c d oc od) (l1 : (dig a).length < 274877906944) (l2 : (dig b).length < 274877906944) (l3 : (dig c).length < 274877906944) (l4 : (dig d).length < 274877906944) :
    Calls Tryd.prog 39 #[.agg #[ps, .slice oc (dig c).length cc, .slice od (dig d).length cd], .agg #[.int .i64 wi, .int .i64 lo, s0, s1, .slice oa (dig a).length ca, .slice ob (dig b).length cb]] w fun e w' => e = .returned (.bool (decide (c * b ≤ a * d))) ∧ Below w.heap.size w w' := by
  have QC := Lib.hid (fun w h1 h2 => exFCmp_any a b c d oa ob oc od ca cb cc cd w h1 h2 l1 l2 l3 l4)
  obtain ⟨k, hk⟩ : ∃ k, k = NL.cmpI (a * d) (c * b) := ⟨_, rfl⟩
  obtain ⟨r, hr⟩ : ∃ r, r = decide (c * b ≤ a * d) := ⟨_, rfl⟩
  have hkr : decide (0 ≤ k) = r := by
    rw [hk, hr]
    rcases Nat.lt_trichotomy (a * d) (c * b) with h | h | h
    · rw [NL.cmpI_lt h, decide_eq_false (Nat.not_le.2 h)]; rfl
    · rw [h, NL.cmpI_eq, decide_eq_true (Nat.le_refl _)]; rfl
    · rw [NL.cmpI_gt h, decide_eq_true (Nat.le_of_lt h)]; rfl
  rw [← hk] at QC
  rw [← hr]
  have HX := Lib.hid hX
  have HY := Lib.hid hY
  clear hX hY l1 l2 l3 l4 hk hr
  go_enter Tryd.func39, Tryd.ntmps39
  go_upto_region 1 with (fail)
  have BX := BoxR.mk' w #[ps, .slice oc (dig c).length cc, .slice od (dig d).length cd] #[.int .i64 wi, .int .i64 lo, s0, s1, .slice oa (dig a).length ca, .slice ob (dig b).length cb] 73 78
  generalize hB : w.heap.size = B at *
  refine wp_abs (fun w1 => BoxR B w w1 #[ps, .slice oc (dig c).length cc, .slice od (dig d).length cd] #[.int .i64 wi, .int .i64 lo, s0, s1, .slice oa (dig a).length ca, .slice ob (dig b).length cb] 73 78) BX (fun w1 B1 => ?_)
  have HB := Lib.hid hB
  have c1 : w1.cell? ⟨B, 1, none⟩ = some (.slice oc (dig c).length cc) := cell_of_row w1 B 1 _ _ _ B1.x
  have c2 : w1.cell? ⟨B, 2, none⟩ = some (.slice od (dig d).length cd) := cell_of_row w1 B 2 _ _ _ B1.x
  have c3 : w1.cell? ⟨B + 1, 4, none⟩ = some (.slice oa (dig a).length ca) := cell_of_row w1 (B + 1) 4 _ _ _ B1.z
  have c4 : w1.cell? ⟨B + 1, 5, none⟩ = some (.slice ob (dig b).length cb) := cell_of_row w1 (B + 1) 5 _ _ _ B1.z
  have hBs1 : B + 1 < w1.heap.size := lt_of_heap B1.z
  have W1 := Lib.hid (show Below w.heap.size w w1 by rw [HB.out]; exact B1.bel)
  clear BX hB B1
  go_wp2_with (go_at_call 51; refine (QC.out w1 (HX.out.below W1.out) (HY.out.below W1.out)).mono ?_; rintro e w4 ⟨rfl, bel4⟩; have W4 := Lib.hid (W1.out.trans (bel4.mono W1.out.size)); clear bel4)
  go_ret
  exact ⟨rfl, W4.out⟩
end Go.Proofs.YtlbdcgnpkapncaaDoor
