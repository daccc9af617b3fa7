/-
  exact.Over; what Minus and Over may not; nat.frac with each of its doings; nat.Plus, Times, Minus, Over, Order. Printed by tools/genfrac2.py.
-/
import Derived.Test.YtkkpfoidppjbdaaDoorBFrac
import Derived.Lib.SliceRun
namespace Go.Proofs.YtkkpfoidppjbdaaDoor
set_option linter.unusedVariables false
open Go.RowKit ML FM NL

theorem eqIn_nil (w : World) (d : Nat) : (Op.equalIn (d + 1) 95 .nilFunc .nilFunc).run Tryd.prog w = .ok true w := by
  simp [Op.equalIn, run_underlying Tryd.underlying95]
theorem eqIn_func (w : World) (d : Nat) (f : Fn) (a b : Array Value) : (Op.equalIn (d + 1) 95 (.func f a b) .nilFunc).run Tryd.prog w = .ok false w := by
  simp [Op.equalIn, run_underlying Tryd.underlying95]
theorem run_neq_nil (w : World) : (binOp .neq 95 .nilFunc .nilFunc).run Tryd.prog w = .ok (.bool false) w := by
  simp only [binOp]
  simp [Op.equal, Op.maxDepth, eqIn_nil w 9999]
theorem run_neq_func (f : Fn) (a b : Array Value) (w : World) : (binOp .neq 95 (.func f a b) .nilFunc).run Tryd.prog w = .ok (.bool true) w := by
  simp only [binOp]
  simp [Op.equal, Op.maxDepth, eqIn_func w 9999]
/-- an answer that is a fraction: an errno, or the two texts -/
def ansF (n : Nat) (N D : Bytes) : Value := .tuple #[.agg #[.string ⟨(if n = 0 then N else []).toArray⟩, .string ⟨(if n = 0 then D else []).toArray⟩], .int .i64 (n : Int)]
set_option maxHeartbeats 8000000 in
set_option maxRecDepth 100000 in
theorem exFOver_any (a b c d : Nat) (oa ob oc od : Option Addr) (ca cb cc cd : Nat) (w : World) (hX : LFr w a b oa ob) (hY : LFr w c d oc od) (h0 : 0 < b * c) (l1 : (dig a).length < 274877906944) (l2 : (dig b).length < 274877906944) (l3 : (dig c).length < 274877906944) (l4 : (dig d).length < 274877906944) :
    Calls Tryd.prog 76 #[.agg #[.slice oa (dig a).length ca, .slice ob (dig b).length cb], .agg #[.slice oc (dig c).length cc, .slice od (dig d).length cd]] w fun e w' => ∃ on om cn cm, e = .returned (.agg #[.slice on (dig (a * d / Nat.gcd (a * d) (b * c))).length cn, .slice om (dig (b * c / Nat.gcd (a * d) (b * c))).length cm]) ∧ LFr w' (a * d / Nat.gcd (a * d) (b * c)) (b * c / Nat.gcd (a * d) (b * c)) on om ∧ Below w.heap.size w w' := by
  have QT := Lib.hid (fun w h1 h2 => exFTimes_any a b d c oa ob od oc ca cb cd cc w h1 h2 h0 l1 l2 l4 l3)
  have HS := Lib.hid size_lfr
  have HX := Lib.hid hX
  have HY := Lib.hid (show LFr w d c od oc from ⟨hY.den, hY.num⟩)
  clear hX hY h0
  generalize a * d / Nat.gcd (a * d) (b * c) = N at *
  generalize b * c / Nat.gcd (a * d) (b * c) = D at *
  go_enter Tryd.func76, Tryd.ntmps76
  go_upto_region 1 with (fail)
  have BX := Box3.mk' w #[.slice oa (dig a).length ca, .slice ob (dig b).length cb] #[.slice oc (dig c).length cc, .slice od (dig d).length cd] #[.slice none 0 0, .slice none 0 0] 90 90
  generalize hB : w.heap.size = B at *
  refine wp_abs (fun w1 => Box3 B w w1 #[.slice oa (dig a).length ca, .slice ob (dig b).length cb] #[.slice oc (dig c).length cc, .slice od (dig d).length cd] #[.slice none 0 0, .slice none 0 0] 90 90) BX (fun w1 B1 => ?_)
  have HB := Lib.hid hB
  have c3 := cell_of_row w1 (B + 1) 0 _ _ _ B1.y
  have c4 := cell_of_row w1 (B + 1) 1 _ _ _ B1.y
  have HB1 := Lib.hid B1
  have hBs1 : B + 1 + 1 < w1.heap.size := lt_of_heap B1.z
  have W1 := Lib.hid (show Below w.heap.size w w1 by rw [hB]; exact B1.bel)
  clear BX hB B1
  go_wp2_with (first
    | (refine wpList_load_whole rfl 90 _ rfl B #[.slice oa (dig a).length ca, .slice ob (dig b).length cb] _ _ _ rfl HB1.out.x Tryd.underlying90 rfl HS.out ?_)
    | (go_at_call 69; refine (QT.out w1 (HX.out.below W1.out) (HY.out.below W1.out)).mono ?_; rintro e w2 ⟨on, om, cn, cm, rfl, hr, bel2⟩; have HR := Lib.hid hr; have HB2 := Lib.hid (HB1.out.keep (by omega) bel2); have W2 := Lib.hid (W1.out.trans (bel2.mono W1.out.size)); clear hr bel2)
    | (refine wpList_store_whole rfl rfl 90 _ _ rfl (B + 1 + 1) #[.slice none 0 0, .slice none 0 0] #[.slice on (dig N).length cn, .slice om (dig D).length cm] 90 rfl rfl HB2.out.z rfl HS.out (two_slices _ _ _ _ _ _) ?_; intro w5 ho hp))
  refine bodyPost_ret (results_cell_row rfl _ w5 (B + 1 + 1) _ _ _ _ rfl hp Tryd.underlying90 rfl HS.out) rfl ⟨on, om, cn, cm, rfl, ⟨HR.out.num.spared HB2.out.z two_noInt ho, HR.out.den.spared HB2.out.z two_noInt ho⟩, bel_only W2.out ho (by rw [HB.out]; omega)⟩
set_option maxHeartbeats 8000000 in
set_option maxRecDepth 100000 in
theorem minusMay_any (a b c d : Nat) (oa ob oc od : Option Addr) (ca cb cc cd : Nat) (w : World) (hX : LFr w a b oa ob) (hY : LFr w c d oc od) (l1 : (dig a).length < 274877906944) (l2 : (dig b).length < 274877906944) (l3 : (dig c).length < 274877906944) (l4 : (dig d).length < 274877906944) (n : Nat) (hn : n = if a * d < c * b then 4 else 0) :
    Calls Tryd.prog 73 #[.agg #[.slice oa (dig a).length ca, .slice ob (dig b).length cb], .agg #[.slice oc (dig c).length cc, .slice od (dig d).length cd]] w fun e w' => e = .returned (.int .i64 (n : Int)) ∧ Below w.heap.size w w' := by
  have QC := Lib.hid (fun w h1 h2 => exFCmp_any a b c d oa ob oc od ca cb cc cd w h1 h2 l1 l2 l3 l4)
  have HS := Lib.hid size_lfr
  have HX := Lib.hid hX
  have HY := Lib.hid hY
  have hc : Hid ((n = 4 ∧ NL.cmpI (a * d) (c * b) = -1) ∨ (n = 0 ∧ 0 ≤ NL.cmpI (a * d) (c * b))) := Lib.hid (by
    by_cases h : a * d < c * b
    · rw [if_pos h] at hn; exact .inl ⟨hn, NL.cmpI_lt h⟩
    · rw [if_neg h] at hn
      refine .inr ⟨hn, ?_⟩
      unfold NL.cmpI
      rw [if_neg h]
      split <;> omega)
  clear hX hY hn
  generalize NL.cmpI (a * d) (c * b) = z at *
  go_enter Tryd.func73, Tryd.ntmps73
  go_upto_region 1 with (fail)
  have BX := Box2.mk' w #[.slice oa (dig a).length ca, .slice ob (dig b).length cb] #[.slice oc (dig c).length cc, .slice od (dig d).length cd] 90
  generalize hB : w.heap.size = B at *
  refine wp_abs (fun w1 => Box2 B w w1 #[.slice oa (dig a).length ca, .slice ob (dig b).length cb] #[.slice oc (dig c).length cc, .slice od (dig d).length cd] 90) BX (fun w1 B1 => ?_)
  have HB := Lib.hid hB
  have HB1 := Lib.hid B1
  have W1 := Lib.hid (show Below w.heap.size w w1 by rw [hB]; exact B1.bel)
  clear BX hB B1
  rcases hc.out with ⟨rfl, rfl⟩ | ⟨rfl, hz⟩
  all_goals
    go_wp2_with (first
      | (refine wpList_load_whole rfl 90 _ rfl B #[.slice oa (dig a).length ca, .slice ob (dig b).length cb] _ _ _ rfl HB1.out.x Tryd.underlying90 rfl HS.out ?_)
      | (refine wpList_load_whole rfl 90 _ rfl (B + 1) #[.slice oc (dig c).length cc, .slice od (dig d).length cd] _ _ _ rfl HB1.out.y Tryd.underlying90 rfl HS.out ?_)
      | (go_at_call 72; refine (QC.out w1 (HX.out.below W1.out) (HY.out.below W1.out)).mono ?_; rintro e w2 ⟨rfl, bel2⟩; have W2 := Lib.hid (W1.out.trans (bel2.mono W1.out.size)); clear bel2))
    go_ret
    exact ⟨rfl, W2.out⟩
set_option maxHeartbeats 8000000 in
set_option maxRecDepth 100000 in
theorem overMay_any (a b c d : Nat) (oa ob oc od : Option Addr) (ca cb cc cd : Nat) (w : World) (n : Nat) (hn : n = if c = 0 then 5 else 0) :
    Calls Tryd.prog 75 #[.agg #[.slice oa (dig a).length ca, .slice ob (dig b).length cb], .agg #[.slice oc (dig c).length cc, .slice od (dig d).length cd]] w fun e w' => e = .returned (.int .i64 (n : Int)) ∧ Below w.heap.size w w' := by
  have QZ := Lib.hid (fun w => exZero_any oc (dig c).length cc w)
  have hc : Hid ((n = 5 ∧ (((dig c).length : Int) == 0) = true) ∨ (n = 0 ∧ (((dig c).length : Int) == 0) = false)) := Lib.hid (by
    by_cases h : c = 0
    · rw [if_pos h] at hn; exact .inl ⟨hn, by rw [h, dig_zero]; rfl⟩
    · rw [if_neg h] at hn
      refine .inr ⟨hn, ?_⟩
      rw [beq_eq_false_iff_ne]
      intro h1
      have h2 : (dig c).length = 0 := by omega
      have := lt_pow_length c
      rw [h2] at this
      omega)
  clear hn
  go_enter Tryd.func75, Tryd.ntmps75
  go_upto_region 1 with (fail)
  have BX := Box2.mk' w #[.slice oa (dig a).length ca, .slice ob (dig b).length cb] #[.slice oc (dig c).length cc, .slice od (dig d).length cd] 90
  generalize hB : w.heap.size = B at *
  refine wp_abs (fun w1 => Box2 B w w1 #[.slice oa (dig a).length ca, .slice ob (dig b).length cb] #[.slice oc (dig c).length cc, .slice od (dig d).length cd] 90) BX (fun w1 B1 => ?_)
  have HB := Lib.hid hB
  have c3 := cell_of_row w1 (B + 1) 0 _ _ _ B1.y
  have W1 := Lib.hid (show Below w.heap.size w w1 by rw [hB]; exact B1.bel)
  clear BX hB B1
  rcases hc.out with ⟨rfl, hz⟩ | ⟨rfl, hz⟩
  all_goals
    rw [hz] at QZ
    clear hz
    go_wp2_with (go_at_call 64; refine (QZ.out w1).mono ?_; rintro e w2 ⟨rfl, rfl⟩)
    go_ret
    exact ⟨rfl, W1.out⟩
/-- what is wrong with a difference, with a quotient -/
def wrongMinus (N D P Q : Bytes) : Nat := if wrongF2 N D P Q = 0 then (if dv N * dv Q < dv P * dv D then 4 else 0) else wrongF2 N D P Q
def wrongOver (N D P Q : Bytes) : Nat := if wrongF2 N D P Q = 0 then (if dv P = 0 then 5 else 0) else wrongF2 N D P Q
theorem wrongF2_good {N D P Q : Bytes} (h : wrongF2 N D P Q = 0) : wrongF N D = 0 ∧ wrongF P Q = 0 := by
  unfold wrongF2 at h
  by_cases h1 : wrongF N D = 0
  · rw [if_pos h1] at h; exact ⟨h1, h⟩
  · rw [if_neg h1] at h; exact absurd h h1
theorem good_frac {N D : Bytes} (h : wrongF N D = 0) : NB 4000 (dv N) ∧ NB 4000 (dv D) ∧ 0 < dv D := by
  obtain ⟨h1, h2, h3, h4, h5, h6⟩ := wrongF_good h
  exact ⟨⟨N.length, h3, dv_lt N ((numB_iff N).1 h1).2.1⟩, ⟨D.length, h4, dv_lt D ((numB_iff D).1 h2).2.1⟩, h5⟩
/-- the two fractions that were read, within 'frac' -/
structure FracMid (B C : Nat) (w w1 : World) (on od op oq : Option Addr) (nn cn nd cd np cp nq cq : Nat) : Prop where
  bel : Below B w w1
  z : w1.heap[B + 1 + 1]? = some (.cells #[.string ⟨#[]⟩, .string ⟨#[]⟩] 45 (0, 0))
  c : w1.heap[C]? = some (.cells #[.slice on nn cn, .slice od nd cd] 90 (0, 0))
  d : w1.heap[C + 1]? = some (.cells #[.slice op np cp, .slice oq nq cq] 90 (0, 0))
  lt : B + 1 + 1 < C
theorem FracMid.keep {B C : Nat} {w w1 w2 : World} {on od op oq : Option Addr} {nn cn nd cd np cp nq cq : Nat} (h : FracMid B C w w1 on od op oq nn cn nd cd np cp nq cq) (hb : Below w1.heap.size w1 w2) : FracMid B C w w2 on od op oq nn cn nd cd np cp nq cq :=
  ⟨h.bel.trans (hb.mono (by have := lt_of_heap h.z; omega)), bel_keep hb (lt_of_heap h.z) h.z, bel_keep hb (lt_of_heap h.c) h.c, bel_keep hb (lt_of_heap h.d) h.d, h.lt⟩
set_option maxHeartbeats 8000000 in
set_option maxRecDepth 100000 in
theorem fracPlus_any (N D P Q : Bytes) (w : World) (hN : N.length < 140737488355328) (hD : D.length < 140737488355328) (hP : P.length < 140737488355328) (hQ : Q.length < 140737488355328) :
    Calls Tryd.prog 67 #[.agg #[.string ⟨N.toArray⟩, .string ⟨D.toArray⟩], .agg #[.string ⟨P.toArray⟩, .string ⟨Q.toArray⟩], .nilFunc, .func (.func 68) #[] #[]] w fun e w' => e = .returned (ansF (wrongF2 N D P Q) (strD ((dv N * dv Q + dv P * dv D) / Nat.gcd (dv N * dv Q + dv P * dv D) (dv D * dv Q))) (strD ((dv D * dv Q) / Nat.gcd (dv N * dv Q + dv P * dv D) (dv D * dv Q)))) ∧ Below w.heap.size w w' := by
  have QB := Lib.hid (fun w => bothF_any N D P Q w hN hD hP hQ)
  have HS := Lib.hid size_api
  have HL := Lib.hid size_lfr
  clear hN hD hP hQ
  obtain ⟨AN, hAN⟩ : ∃ F, F = ansF (wrongF2 N D P Q) (strD ((dv N * dv Q + dv P * dv D) / Nat.gcd (dv N * dv Q + dv P * dv D) (dv D * dv Q))) (strD ((dv D * dv Q) / Nat.gcd (dv N * dv Q + dv P * dv D) (dv D * dv Q))) := ⟨_, rfl⟩
  rw [← hAN]
  have HAN := Lib.hid hAN
  have qT := run_neq_nil
  clear hAN
  go_enter Tryd.func67, Tryd.ntmps67
  go_upto_region 1 with (fail)
  have BX := Box3.mk' w #[.string ⟨N.toArray⟩, .string ⟨D.toArray⟩] #[.string ⟨P.toArray⟩, .string ⟨Q.toArray⟩] #[.string ⟨#[]⟩, .string ⟨#[]⟩] 45 45
  generalize hB : w.heap.size = B at *
  refine wp_abs (fun w1 => Box3 B w w1 #[.string ⟨N.toArray⟩, .string ⟨D.toArray⟩] #[.string ⟨P.toArray⟩, .string ⟨Q.toArray⟩] #[.string ⟨#[]⟩, .string ⟨#[]⟩] 45 45) BX (fun w1 B1 => ?_)
  have HB := Lib.hid hB
  have HB1 := Lib.hid B1
  have hBs1 : B + 1 + 1 < w1.heap.size := lt_of_heap B1.z
  clear BX hB B1
  go_upto_region 2 with (first
    | (refine wpList_load_whole rfl 45 _ rfl B #[.string ⟨N.toArray⟩, .string ⟨D.toArray⟩] _ _ _ rfl HB1.out.x Tryd.underlying45 rfl HS.out ?_)
    | (refine wpList_load_whole rfl 45 _ rfl (B + 1) #[.string ⟨P.toArray⟩, .string ⟨Q.toArray⟩] _ _ _ rfl HB1.out.y Tryd.underlying45 rfl HS.out ?_)
    | (go_at_call 70; refine (QB.out w1).mono ?_; rintro e w2 ⟨on, nn, cn, od, nd, cd, op, np, cp, oq, nq, cq, rfl, hg, bel2⟩; have HG := Lib.hid hg; have HB2 := Lib.hid (HB1.out.keep (by omega) bel2); have hBs2 : B + 1 + 1 < w2.heap.size := lt_of_heap HB2.out.z; clear hg bel2)
    | (refine wpList_store_whole rfl rfl 90 _ _ rfl w2.heap.size #[.slice none 0 0, .slice none 0 0] #[.slice on nn cn, .slice od nd cd] 90 rfl rfl (heap_lt (heap_at rfl)) rfl HL.out (two_slices _ _ _ _ _ _) ?_; intro w3 ho3 hp3; have HO3 := Lib.hid ho3; have HP3 := Lib.hid hp3; clear ho3 hp3)
    | (refine wpList_store_whole rfl rfl 90 _ _ rfl (w2.heap.size + 1) #[.slice none 0 0, .slice none 0 0] #[.slice op np cp, .slice oq nq cq] 90 rfl rfl (HO3.out.keep (by omega) (heap_at (by simp))) rfl HL.out (two_slices _ _ _ _ _ _) ?_; intro w4 ho4 hp4; have HO4 := Lib.hid ho4; have HP4 := Lib.hid hp4; clear ho4 hp4))
  have al : Below w2.heap.size w2 ((w2.alloc (.cells #[.slice none 0 0, .slice none 0 0] 90)).alloc (.cells #[.slice none 0 0, .slice none 0 0] 90)) := ((Below.refl _ _).alloc (Nat.le_refl _) _).alloc (by simp) _
  have b4 : Below w2.heap.size w2 w4 := bel_only (bel_only al HO3.out (Nat.le_refl _)) HO4.out (by omega)
  have M4 : FracMid B w2.heap.size w w4 on od op oq nn cn nd cd np cp nq cq := ⟨HB2.out.bel.trans (b4.mono (by omega)), bel_keep b4 (lt_of_heap HB2.out.z) HB2.out.z, HO4.out.keep (by omega) HP3.out, HP4.out, hBs2⟩
  have HM4 := Lib.hid M4
  have HG4 := Lib.hid (show wrongF2 N D P Q = 0 → nn = (dig (dv N)).length ∧ nd = (dig (dv D)).length ∧ np = (dig (dv P)).length ∧ nq = (dig (dv Q)).length ∧ LFr w4 (dv N) (dv D) on od ∧ LFr w4 (dv P) (dv Q) op oq from fun h => by
    obtain ⟨e1, e2, e3, e4, e5, e6⟩ := HG.out h
    exact ⟨e1, e2, e3, e4, e5.below b4, e6.below b4⟩)
  have hs4 : B + 1 + 1 < w4.heap.size := lt_of_heap M4.z
  clear M4 HO3 HP3 HO4 HP4 HB2 HG HB1 QB al b4
  generalize w2.heap.size = C at *
  by_cases h0 : wrongF2 N D P Q = 0
  · obtain ⟨rfl, rfl, rfl, rfl, h5, h6⟩ := HG4.out h0
    have H5 := Lib.hid h5
    have H6 := Lib.hid h6
    obtain ⟨w01, w02⟩ := wrongF2_good h0
    obtain ⟨bN, bD, hD0⟩ := good_frac w01
    obtain ⟨bP, bQ, hQ0⟩ := good_frac w02
    have l1 : (dig (dv N)).length < 274877906944 := Nat.lt_of_le_of_lt bN.limbs (by decide)
    have l2 : (dig (dv D)).length < 274877906944 := Nat.lt_of_le_of_lt bD.limbs (by decide)
    have l3 : (dig (dv P)).length < 274877906944 := Nat.lt_of_le_of_lt bP.limbs (by decide)
    have l4 : (dig (dv Q)).length < 274877906944 := Nat.lt_of_le_of_lt bQ.limbs (by decide)
    have H0 := Lib.hid h0
    have HD0 := Lib.hid hD0
    have HQ0 := Lib.hid hQ0
    have n1 : (dig ((dv N * dv Q + dv P * dv D) / Nat.gcd (dv N * dv Q + dv P * dv D) (dv D * dv Q))).length < 1099511627776 := Nat.lt_of_le_of_lt (((bN.mul bQ).add (bP.mul bD)).div _).limbs (by decide)
    have n2 : (dig ((dv D * dv Q) / Nat.gcd (dv N * dv Q + dv P * dv D) (dv D * dv Q))).length < 1099511627776 := Nat.lt_of_le_of_lt ((bD.mul bQ).div _).limbs (by decide)
    rw [h0]
    clear h5 h6 w01 w02 bN bD hD0 bP bQ hQ0 h0 HG4
    have QD := Lib.hid (exFPlus_any (dv N) (dv D) (dv P) (dv Q) on od op oq cn cd cp cq w4 H5.out H6.out (Nat.mul_pos HD0.out HQ0.out) l1 l2 l3 l4)
    have QT := Lib.hid (fun on od cn cd w h => natTold_any ((dv N * dv Q + dv P * dv D) / Nat.gcd (dv N * dv Q + dv P * dv D) (dv D * dv Q)) ((dv D * dv Q) / Nat.gcd (dv N * dv Q + dv P * dv D) (dv D * dv Q)) on od cn cd w h n1 n2)
    have hans := Lib.hid (show AN = .tuple #[.agg #[.string ⟨(strD ((dv N * dv Q + dv P * dv D) / Nat.gcd (dv N * dv Q + dv P * dv D) (dv D * dv Q))).toArray⟩, .string ⟨(strD ((dv D * dv Q) / Nat.gcd (dv N * dv Q + dv P * dv D) (dv D * dv Q))).toArray⟩], .int .i64 0] by rw [HAN.out, H0.out]; rfl)
    generalize (dv N * dv Q + dv P * dv D) / Nat.gcd (dv N * dv Q + dv P * dv D) (dv D * dv Q) = NN at *
    generalize (dv D * dv Q) / Nat.gcd (dv N * dv Q + dv P * dv D) (dv D * dv Q) = DD at *
    generalize strD NN = SN at *
    generalize strD DD = SD at *
    go_wp2_with (first
      | (refine wpList_load_whole rfl 90 _ rfl C #[.slice on (dig (dv N)).length cn, .slice od (dig (dv D)).length cd] _ _ _ rfl HM4.out.c Tryd.underlying90 rfl HL.out ?_)
      | (refine wpList_load_whole rfl 90 _ rfl (C + 1) #[.slice op (dig (dv P)).length cp, .slice oq (dig (dv Q)).length cq] _ _ _ rfl HM4.out.d Tryd.underlying90 rfl HL.out ?_)
      | (go_at_call 68; refine QD.out.mono ?_; rintro e w6 ⟨or, os, cr, cs, rfl, hr, bel6⟩; have HR := Lib.hid hr; have HM6 := Lib.hid (HM4.out.keep bel6); clear hr bel6)
      | (go_at_call 77; refine (QT.out or os cr cs w6 HR.out).mono ?_; rintro e w7 ⟨rfl, bel7⟩; have HM7 := Lib.hid (HM6.out.keep bel7); clear bel7)
      | (refine wpList_store_whole rfl rfl 45 _ _ rfl (B + 1 + 1) #[.string ⟨#[]⟩, .string ⟨#[]⟩] #[.string ⟨SN.toArray⟩, .string ⟨SD.toArray⟩] 45 rfl rfl HM7.out.z rfl HS.out (two_strings _ _) ?_; intro w8 ho hp))
    refine bodyPost_ret (results_cell_tmp rfl _ w8 (B + 1 + 1) _ _ _ _ _ rfl rfl hp Tryd.underlying45 rfl HS.out) rfl ⟨by first | (rw [hans.out]; done) | (rw [hans.out]; rfl), by rw [HB.out]; exact bel_only HM7.out.bel ho (by omega)⟩
  · have hans := Lib.hid (show AN = .tuple #[.agg #[.string ⟨#[]⟩, .string ⟨#[]⟩], .int .i64 (wrongF2 N D P Q : Int)] by rw [HAN.out]; unfold ansF; rw [if_neg h0, if_neg h0])
    have hne : ((wrongF2 N D P Q : Int) == 0) = false := by rw [beq_eq_false_iff_ne]; omega
    clear h0 HG4
    generalize wrongF2 N D P Q = n at *
    go_wp2_with ((refine wpList_store_whole rfl rfl 45 (.tmp 8) (.tmp 32) rfl (B + 1 + 1) #[.string ⟨#[]⟩, .string ⟨#[]⟩] #[.string ⟨#[]⟩, .string ⟨#[]⟩] 45 rfl rfl HM4.out.z rfl HS.out (two_strings _ _) ?_; intro w8 ho hp))
    refine bodyPost_ret (results_cell_tmp rfl _ w8 (B + 1 + 1) _ _ _ _ _ rfl rfl hp Tryd.underlying45 rfl HS.out) rfl ⟨by first | (rw [hans.out]; done) | (rw [hans.out]; rfl), by rw [HB.out]; exact bel_only HM4.out.bel ho (by omega)⟩
set_option maxHeartbeats 8000000 in
set_option maxRecDepth 100000 in
theorem fracTimes_any (N D P Q : Bytes) (w : World) (hN : N.length < 140737488355328) (hD : D.length < 140737488355328) (hP : P.length < 140737488355328) (hQ : Q.length < 140737488355328) :
    Calls Tryd.prog 67 #[.agg #[.string ⟨N.toArray⟩, .string ⟨D.toArray⟩], .agg #[.string ⟨P.toArray⟩, .string ⟨Q.toArray⟩], .nilFunc, .func (.func 69) #[] #[]] w fun e w' => e = .returned (ansF (wrongF2 N D P Q) (strD ((dv N * dv P) / Nat.gcd (dv N * dv P) (dv D * dv Q))) (strD ((dv D * dv Q) / Nat.gcd (dv N * dv P) (dv D * dv Q)))) ∧ Below w.heap.size w w' := by
  have QB := Lib.hid (fun w => bothF_any N D P Q w hN hD hP hQ)
  have HS := Lib.hid size_api
  have HL := Lib.hid size_lfr
  clear hN hD hP hQ
  obtain ⟨AN, hAN⟩ : ∃ F, F = ansF (wrongF2 N D P Q) (strD ((dv N * dv P) / Nat.gcd (dv N * dv P) (dv D * dv Q))) (strD ((dv D * dv Q) / Nat.gcd (dv N * dv P) (dv D * dv Q))) := ⟨_, rfl⟩
  rw [← hAN]
  have HAN := Lib.hid hAN
  have qT := run_neq_nil
  clear hAN
  go_enter Tryd.func67, Tryd.ntmps67
  go_upto_region 1 with (fail)
  have BX := Box3.mk' w #[.string ⟨N.toArray⟩, .string ⟨D.toArray⟩] #[.string ⟨P.toArray⟩, .string ⟨Q.toArray⟩] #[.string ⟨#[]⟩, .string ⟨#[]⟩] 45 45
  generalize hB : w.heap.size = B at *
  refine wp_abs (fun w1 => Box3 B w w1 #[.string ⟨N.toArray⟩, .string ⟨D.toArray⟩] #[.string ⟨P.toArray⟩, .string ⟨Q.toArray⟩] #[.string ⟨#[]⟩, .string ⟨#[]⟩] 45 45) BX (fun w1 B1 => ?_)
  have HB := Lib.hid hB
  have HB1 := Lib.hid B1
  have hBs1 : B + 1 + 1 < w1.heap.size := lt_of_heap B1.z
  clear BX hB B1
  go_upto_region 2 with (first
    | (refine wpList_load_whole rfl 45 _ rfl B #[.string ⟨N.toArray⟩, .string ⟨D.toArray⟩] _ _ _ rfl HB1.out.x Tryd.underlying45 rfl HS.out ?_)
    | (refine wpList_load_whole rfl 45 _ rfl (B + 1) #[.string ⟨P.toArray⟩, .string ⟨Q.toArray⟩] _ _ _ rfl HB1.out.y Tryd.underlying45 rfl HS.out ?_)
    | (go_at_call 70; refine (QB.out w1).mono ?_; rintro e w2 ⟨on, nn, cn, od, nd, cd, op, np, cp, oq, nq, cq, rfl, hg, bel2⟩; have HG := Lib.hid hg; have HB2 := Lib.hid (HB1.out.keep (by omega) bel2); have hBs2 : B + 1 + 1 < w2.heap.size := lt_of_heap HB2.out.z; clear hg bel2)
    | (refine wpList_store_whole rfl rfl 90 _ _ rfl w2.heap.size #[.slice none 0 0, .slice none 0 0] #[.slice on nn cn, .slice od nd cd] 90 rfl rfl (heap_lt (heap_at rfl)) rfl HL.out (two_slices _ _ _ _ _ _) ?_; intro w3 ho3 hp3; have HO3 := Lib.hid ho3; have HP3 := Lib.hid hp3; clear ho3 hp3)
    | (refine wpList_store_whole rfl rfl 90 _ _ rfl (w2.heap.size + 1) #[.slice none 0 0, .slice none 0 0] #[.slice op np cp, .slice oq nq cq] 90 rfl rfl (HO3.out.keep (by omega) (heap_at (by simp))) rfl HL.out (two_slices _ _ _ _ _ _) ?_; intro w4 ho4 hp4; have HO4 := Lib.hid ho4; have HP4 := Lib.hid hp4; clear ho4 hp4))
  have al : Below w2.heap.size w2 ((w2.alloc (.cells #[.slice none 0 0, .slice none 0 0] 90)).alloc (.cells #[.slice none 0 0, .slice none 0 0] 90)) := ((Below.refl _ _).alloc (Nat.le_refl _) _).alloc (by simp) _
  have b4 : Below w2.heap.size w2 w4 := bel_only (bel_only al HO3.out (Nat.le_refl _)) HO4.out (by omega)
  have M4 : FracMid B w2.heap.size w w4 on od op oq nn cn nd cd np cp nq cq := ⟨HB2.out.bel.trans (b4.mono (by omega)), bel_keep b4 (lt_of_heap HB2.out.z) HB2.out.z, HO4.out.keep (by omega) HP3.out, HP4.out, hBs2⟩
  have HM4 := Lib.hid M4
  have HG4 := Lib.hid (show wrongF2 N D P Q = 0 → nn = (dig (dv N)).length ∧ nd = (dig (dv D)).length ∧ np = (dig (dv P)).length ∧ nq = (dig (dv Q)).length ∧ LFr w4 (dv N) (dv D) on od ∧ LFr w4 (dv P) (dv Q) op oq from fun h => by
    obtain ⟨e1, e2, e3, e4, e5, e6⟩ := HG.out h
    exact ⟨e1, e2, e3, e4, e5.below b4, e6.below b4⟩)
  have hs4 : B + 1 + 1 < w4.heap.size := lt_of_heap M4.z
  clear M4 HO3 HP3 HO4 HP4 HB2 HG HB1 QB al b4
  generalize w2.heap.size = C at *
  by_cases h0 : wrongF2 N D P Q = 0
  · obtain ⟨rfl, rfl, rfl, rfl, h5, h6⟩ := HG4.out h0
    have H5 := Lib.hid h5
    have H6 := Lib.hid h6
    obtain ⟨w01, w02⟩ := wrongF2_good h0
    obtain ⟨bN, bD, hD0⟩ := good_frac w01
    obtain ⟨bP, bQ, hQ0⟩ := good_frac w02
    have l1 : (dig (dv N)).length < 274877906944 := Nat.lt_of_le_of_lt bN.limbs (by decide)
    have l2 : (dig (dv D)).length < 274877906944 := Nat.lt_of_le_of_lt bD.limbs (by decide)
    have l3 : (dig (dv P)).length < 274877906944 := Nat.lt_of_le_of_lt bP.limbs (by decide)
    have l4 : (dig (dv Q)).length < 274877906944 := Nat.lt_of_le_of_lt bQ.limbs (by decide)
    have H0 := Lib.hid h0
    have HD0 := Lib.hid hD0
    have HQ0 := Lib.hid hQ0
    have n1 : (dig ((dv N * dv P) / Nat.gcd (dv N * dv P) (dv D * dv Q))).length < 1099511627776 := Nat.lt_of_le_of_lt ((bN.mul bP).div _).limbs (by decide)
    have n2 : (dig ((dv D * dv Q) / Nat.gcd (dv N * dv P) (dv D * dv Q))).length < 1099511627776 := Nat.lt_of_le_of_lt ((bD.mul bQ).div _).limbs (by decide)
    rw [h0]
    clear h5 h6 w01 w02 bN bD hD0 bP bQ hQ0 h0 HG4
    have QD := Lib.hid (exFTimes_any (dv N) (dv D) (dv P) (dv Q) on od op oq cn cd cp cq w4 H5.out H6.out (Nat.mul_pos HD0.out HQ0.out) l1 l2 l3 l4)
    have QT := Lib.hid (fun on od cn cd w h => natTold_any ((dv N * dv P) / Nat.gcd (dv N * dv P) (dv D * dv Q)) ((dv D * dv Q) / Nat.gcd (dv N * dv P) (dv D * dv Q)) on od cn cd w h n1 n2)
    have hans := Lib.hid (show AN = .tuple #[.agg #[.string ⟨(strD ((dv N * dv P) / Nat.gcd (dv N * dv P) (dv D * dv Q))).toArray⟩, .string ⟨(strD ((dv D * dv Q) / Nat.gcd (dv N * dv P) (dv D * dv Q))).toArray⟩], .int .i64 0] by rw [HAN.out, H0.out]; rfl)
    generalize (dv N * dv P) / Nat.gcd (dv N * dv P) (dv D * dv Q) = NN at *
    generalize (dv D * dv Q) / Nat.gcd (dv N * dv P) (dv D * dv Q) = DD at *
    generalize strD NN = SN at *
    generalize strD DD = SD at *
    go_wp2_with (first
      | (refine wpList_load_whole rfl 90 _ rfl C #[.slice on (dig (dv N)).length cn, .slice od (dig (dv D)).length cd] _ _ _ rfl HM4.out.c Tryd.underlying90 rfl HL.out ?_)
      | (refine wpList_load_whole rfl 90 _ rfl (C + 1) #[.slice op (dig (dv P)).length cp, .slice oq (dig (dv Q)).length cq] _ _ _ rfl HM4.out.d Tryd.underlying90 rfl HL.out ?_)
      | (go_at_call 69; refine QD.out.mono ?_; rintro e w6 ⟨or, os, cr, cs, rfl, hr, bel6⟩; have HR := Lib.hid hr; have HM6 := Lib.hid (HM4.out.keep bel6); clear hr bel6)
      | (go_at_call 77; refine (QT.out or os cr cs w6 HR.out).mono ?_; rintro e w7 ⟨rfl, bel7⟩; have HM7 := Lib.hid (HM6.out.keep bel7); clear bel7)
      | (refine wpList_store_whole rfl rfl 45 _ _ rfl (B + 1 + 1) #[.string ⟨#[]⟩, .string ⟨#[]⟩] #[.string ⟨SN.toArray⟩, .string ⟨SD.toArray⟩] 45 rfl rfl HM7.out.z rfl HS.out (two_strings _ _) ?_; intro w8 ho hp))
    refine bodyPost_ret (results_cell_tmp rfl _ w8 (B + 1 + 1) _ _ _ _ _ rfl rfl hp Tryd.underlying45 rfl HS.out) rfl ⟨by first | (rw [hans.out]; done) | (rw [hans.out]; rfl), by rw [HB.out]; exact bel_only HM7.out.bel ho (by omega)⟩
  · have hans := Lib.hid (show AN = .tuple #[.agg #[.string ⟨#[]⟩, .string ⟨#[]⟩], .int .i64 (wrongF2 N D P Q : Int)] by rw [HAN.out]; unfold ansF; rw [if_neg h0, if_neg h0])
    have hne : ((wrongF2 N D P Q : Int) == 0) = false := by rw [beq_eq_false_iff_ne]; omega
    clear h0 HG4
    generalize wrongF2 N D P Q = n at *
    go_wp2_with ((refine wpList_store_whole rfl rfl 45 (.tmp 8) (.tmp 32) rfl (B + 1 + 1) #[.string ⟨#[]⟩, .string ⟨#[]⟩] #[.string ⟨#[]⟩, .string ⟨#[]⟩] 45 rfl rfl HM4.out.z rfl HS.out (two_strings _ _) ?_; intro w8 ho hp))
    refine bodyPost_ret (results_cell_tmp rfl _ w8 (B + 1 + 1) _ _ _ _ _ rfl rfl hp Tryd.underlying45 rfl HS.out) rfl ⟨by first | (rw [hans.out]; done) | (rw [hans.out]; rfl), by rw [HB.out]; exact bel_only HM4.out.bel ho (by omega)⟩
set_option maxHeartbeats 8000000 in
set_option maxRecDepth 100000 in
theorem fracMinus_any (N D P Q : Bytes) (w : World) (hN : N.length < 140737488355328) (hD : D.length < 140737488355328) (hP : P.length < 140737488355328) (hQ : Q.length < 140737488355328) :
    Calls Tryd.prog 67 #[.agg #[.string ⟨N.toArray⟩, .string ⟨D.toArray⟩], .agg #[.string ⟨P.toArray⟩, .string ⟨Q.toArray⟩], .func (.func 73) #[] #[], .func (.func 74) #[] #[]] w fun e w' => e = .returned (ansF (wrongMinus N D P Q) (strD ((dv N * dv Q - dv P * dv D) / Nat.gcd (dv N * dv Q - dv P * dv D) (dv D * dv Q))) (strD ((dv D * dv Q) / Nat.gcd (dv N * dv Q - dv P * dv D) (dv D * dv Q)))) ∧ Below w.heap.size w w' := by
  have QB := Lib.hid (fun w => bothF_any N D P Q w hN hD hP hQ)
  have HS := Lib.hid size_api
  have HL := Lib.hid size_lfr
  clear hN hD hP hQ
  obtain ⟨AN, hAN⟩ : ∃ F, F = ansF (wrongMinus N D P Q) (strD ((dv N * dv Q - dv P * dv D) / Nat.gcd (dv N * dv Q - dv P * dv D) (dv D * dv Q))) (strD ((dv D * dv Q) / Nat.gcd (dv N * dv Q - dv P * dv D) (dv D * dv Q))) := ⟨_, rfl⟩
  rw [← hAN]
  have HAN := Lib.hid hAN
  have qT := run_neq_func (.func 73) #[] #[]
  clear hAN
  go_enter Tryd.func67, Tryd.ntmps67
  go_upto_region 1 with (fail)
  have BX := Box3.mk' w #[.string ⟨N.toArray⟩, .string ⟨D.toArray⟩] #[.string ⟨P.toArray⟩, .string ⟨Q.toArray⟩] #[.string ⟨#[]⟩, .string ⟨#[]⟩] 45 45
  generalize hB : w.heap.size = B at *
  refine wp_abs (fun w1 => Box3 B w w1 #[.string ⟨N.toArray⟩, .string ⟨D.toArray⟩] #[.string ⟨P.toArray⟩, .string ⟨Q.toArray⟩] #[.string ⟨#[]⟩, .string ⟨#[]⟩] 45 45) BX (fun w1 B1 => ?_)
  have HB := Lib.hid hB
  have HB1 := Lib.hid B1
  have hBs1 : B + 1 + 1 < w1.heap.size := lt_of_heap B1.z
  clear BX hB B1
  go_upto_region 2 with (first
    | (refine wpList_load_whole rfl 45 _ rfl B #[.string ⟨N.toArray⟩, .string ⟨D.toArray⟩] _ _ _ rfl HB1.out.x Tryd.underlying45 rfl HS.out ?_)
    | (refine wpList_load_whole rfl 45 _ rfl (B + 1) #[.string ⟨P.toArray⟩, .string ⟨Q.toArray⟩] _ _ _ rfl HB1.out.y Tryd.underlying45 rfl HS.out ?_)
    | (go_at_call 70; refine (QB.out w1).mono ?_; rintro e w2 ⟨on, nn, cn, od, nd, cd, op, np, cp, oq, nq, cq, rfl, hg, bel2⟩; have HG := Lib.hid hg; have HB2 := Lib.hid (HB1.out.keep (by omega) bel2); have hBs2 : B + 1 + 1 < w2.heap.size := lt_of_heap HB2.out.z; clear hg bel2)
    | (refine wpList_store_whole rfl rfl 90 _ _ rfl w2.heap.size #[.slice none 0 0, .slice none 0 0] #[.slice on nn cn, .slice od nd cd] 90 rfl rfl (heap_lt (heap_at rfl)) rfl HL.out (two_slices _ _ _ _ _ _) ?_; intro w3 ho3 hp3; have HO3 := Lib.hid ho3; have HP3 := Lib.hid hp3; clear ho3 hp3)
    | (refine wpList_store_whole rfl rfl 90 _ _ rfl (w2.heap.size + 1) #[.slice none 0 0, .slice none 0 0] #[.slice op np cp, .slice oq nq cq] 90 rfl rfl (HO3.out.keep (by omega) (heap_at (by simp))) rfl HL.out (two_slices _ _ _ _ _ _) ?_; intro w4 ho4 hp4; have HO4 := Lib.hid ho4; have HP4 := Lib.hid hp4; clear ho4 hp4))
  have al : Below w2.heap.size w2 ((w2.alloc (.cells #[.slice none 0 0, .slice none 0 0] 90)).alloc (.cells #[.slice none 0 0, .slice none 0 0] 90)) := ((Below.refl _ _).alloc (Nat.le_refl _) _).alloc (by simp) _
  have b4 : Below w2.heap.size w2 w4 := bel_only (bel_only al HO3.out (Nat.le_refl _)) HO4.out (by omega)
  have M4 : FracMid B w2.heap.size w w4 on od op oq nn cn nd cd np cp nq cq := ⟨HB2.out.bel.trans (b4.mono (by omega)), bel_keep b4 (lt_of_heap HB2.out.z) HB2.out.z, HO4.out.keep (by omega) HP3.out, HP4.out, hBs2⟩
  have HM4 := Lib.hid M4
  have HG4 := Lib.hid (show wrongF2 N D P Q = 0 → nn = (dig (dv N)).length ∧ nd = (dig (dv D)).length ∧ np = (dig (dv P)).length ∧ nq = (dig (dv Q)).length ∧ LFr w4 (dv N) (dv D) on od ∧ LFr w4 (dv P) (dv Q) op oq from fun h => by
    obtain ⟨e1, e2, e3, e4, e5, e6⟩ := HG.out h
    exact ⟨e1, e2, e3, e4, e5.below b4, e6.below b4⟩)
  have hs4 : B + 1 + 1 < w4.heap.size := lt_of_heap M4.z
  clear M4 HO3 HP3 HO4 HP4 HB2 HG HB1 QB al b4
  generalize w2.heap.size = C at *
  by_cases h0 : wrongF2 N D P Q = 0
  · obtain ⟨rfl, rfl, rfl, rfl, h5, h6⟩ := HG4.out h0
    have H5 := Lib.hid h5
    have H6 := Lib.hid h6
    obtain ⟨w01, w02⟩ := wrongF2_good h0
    obtain ⟨bN, bD, hD0⟩ := good_frac w01
    obtain ⟨bP, bQ, hQ0⟩ := good_frac w02
    have l1 : (dig (dv N)).length < 274877906944 := Nat.lt_of_le_of_lt bN.limbs (by decide)
    have l2 : (dig (dv D)).length < 274877906944 := Nat.lt_of_le_of_lt bD.limbs (by decide)
    have l3 : (dig (dv P)).length < 274877906944 := Nat.lt_of_le_of_lt bP.limbs (by decide)
    have l4 : (dig (dv Q)).length < 274877906944 := Nat.lt_of_le_of_lt bQ.limbs (by decide)
    have H0 := Lib.hid h0
    have HD0 := Lib.hid hD0
    have HQ0 := Lib.hid hQ0
    have n1 : (dig ((dv N * dv Q - dv P * dv D) / Nat.gcd (dv N * dv Q - dv P * dv D) (dv D * dv Q))).length < 1099511627776 := Nat.lt_of_le_of_lt (((bN.mul bQ).mono (Nat.sub_le _ _)).div _).limbs (by decide)
    have n2 : (dig ((dv D * dv Q) / Nat.gcd (dv N * dv Q - dv P * dv D) (dv D * dv Q))).length < 1099511627776 := Nat.lt_of_le_of_lt ((bD.mul bQ).div _).limbs (by decide)
    rw [h0]
    clear h5 h6 w01 w02 bN bD hD0 bP bQ hQ0 h0 HG4
    have QM := fun n hn => minusMay_any (dv N) (dv D) (dv P) (dv Q) on od op oq cn cd cp cq w4 H5.out H6.out l1 l2 l3 l4 n hn
    by_cases hm : dv N * dv Q < dv P * dv D
    · have QM2 := Lib.hid (QM 4 (by rw [if_pos hm]))
      have hwt := Lib.hid (show wrongMinus N D P Q = 4 by unfold wrongMinus; rw [if_pos H0.out, if_pos hm])
      clear QM hm
      go_upto_region 4 with (first
        | (refine wpList_load_whole rfl 90 _ rfl C #[.slice on (dig (dv N)).length cn, .slice od (dig (dv D)).length cd] _ _ _ rfl HM4.out.c Tryd.underlying90 rfl HL.out ?_)
        | (refine wpList_load_whole rfl 90 _ rfl (C + 1) #[.slice op (dig (dv P)).length cp, .slice oq (dig (dv Q)).length cq] _ _ _ rfl HM4.out.d Tryd.underlying90 rfl HL.out ?_)
        | (go_at_call 73; refine QM2.out.mono ?_; rintro e w5 ⟨rfl, bel5⟩; have HM5 := Lib.hid (HM4.out.keep bel5); have hs5 : B + 1 + 1 < w5.heap.size := lt_of_heap HM5.out.z; clear bel5))
      have hans := Lib.hid (show AN = .tuple #[.agg #[.string ⟨#[]⟩, .string ⟨#[]⟩], .int .i64 (4 : Int)] by rw [HAN.out]; unfold ansF; rw [hwt.out]; rfl)
      go_wp2_with ((refine wpList_store_whole rfl rfl 45 (.tmp 8) (.tmp 32) rfl (B + 1 + 1) #[.string ⟨#[]⟩, .string ⟨#[]⟩] #[.string ⟨#[]⟩, .string ⟨#[]⟩] 45 rfl rfl HM5.out.z rfl HS.out (two_strings _ _) ?_; intro w8 ho hp))
      refine bodyPost_ret (results_cell_tmp rfl _ w8 (B + 1 + 1) _ _ _ _ _ rfl rfl hp Tryd.underlying45 rfl HS.out) rfl ⟨by first | (rw [hans.out]; done) | (rw [hans.out]; rfl), by rw [HB.out]; exact bel_only HM5.out.bel ho (by omega)⟩
    · have QM2 := Lib.hid (QM 0 (by rw [if_neg hm]))
      have hwt := Lib.hid (show wrongMinus N D P Q = 0 by unfold wrongMinus; rw [if_pos H0.out, if_neg hm])
      have hle : dv P * dv D ≤ dv N * dv Q := by omega
      clear QM hm
      go_upto_region 4 with (first
        | (refine wpList_load_whole rfl 90 _ rfl C #[.slice on (dig (dv N)).length cn, .slice od (dig (dv D)).length cd] _ _ _ rfl HM4.out.c Tryd.underlying90 rfl HL.out ?_)
        | (refine wpList_load_whole rfl 90 _ rfl (C + 1) #[.slice op (dig (dv P)).length cp, .slice oq (dig (dv Q)).length cq] _ _ _ rfl HM4.out.d Tryd.underlying90 rfl HL.out ?_)
        | (go_at_call 73; refine QM2.out.mono ?_; rintro e w5 ⟨rfl, bel5⟩; have HM5 := Lib.hid (HM4.out.keep bel5); have G5 := Lib.hid (H5.out.below bel5); have G6 := Lib.hid (H6.out.below bel5); have hs5 : B + 1 + 1 < w5.heap.size := lt_of_heap HM5.out.z; clear bel5))
      have QD := Lib.hid (exFMinus_any (dv N) (dv D) (dv P) (dv Q) on od op oq cn cd cp cq w5 G5.out G6.out (Nat.mul_pos HD0.out HQ0.out) hle l1 l2 l3 l4)
      have QT := Lib.hid (fun on od cn cd w h => natTold_any ((dv N * dv Q - dv P * dv D) / Nat.gcd (dv N * dv Q - dv P * dv D) (dv D * dv Q)) ((dv D * dv Q) / Nat.gcd (dv N * dv Q - dv P * dv D) (dv D * dv Q)) on od cn cd w h n1 n2)
      have hans := Lib.hid (show AN = .tuple #[.agg #[.string ⟨(strD ((dv N * dv Q - dv P * dv D) / Nat.gcd (dv N * dv Q - dv P * dv D) (dv D * dv Q))).toArray⟩, .string ⟨(strD ((dv D * dv Q) / Nat.gcd (dv N * dv Q - dv P * dv D) (dv D * dv Q))).toArray⟩], .int .i64 0] by rw [HAN.out, hwt.out]; rfl)
      generalize (dv N * dv Q - dv P * dv D) / Nat.gcd (dv N * dv Q - dv P * dv D) (dv D * dv Q) = NN at *
      generalize (dv D * dv Q) / Nat.gcd (dv N * dv Q - dv P * dv D) (dv D * dv Q) = DD at *
      generalize strD NN = SN at *
      generalize strD DD = SD at *
      go_wp2_with (first
        | (refine wpList_load_whole rfl 90 _ rfl C #[.slice on (dig (dv N)).length cn, .slice od (dig (dv D)).length cd] _ _ _ rfl HM5.out.c Tryd.underlying90 rfl HL.out ?_)
        | (refine wpList_load_whole rfl 90 _ rfl (C + 1) #[.slice op (dig (dv P)).length cp, .slice oq (dig (dv Q)).length cq] _ _ _ rfl HM5.out.d Tryd.underlying90 rfl HL.out ?_)
        | (go_at_call 74; refine QD.out.mono ?_; rintro e w6 ⟨or, os, cr, cs, rfl, hr, bel6⟩; have HR := Lib.hid hr; have HM6 := Lib.hid (HM5.out.keep bel6); clear hr bel6)
        | (go_at_call 77; refine (QT.out or os cr cs w6 HR.out).mono ?_; rintro e w7 ⟨rfl, bel7⟩; have HM7 := Lib.hid (HM6.out.keep bel7); clear bel7)
        | (refine wpList_store_whole rfl rfl 45 _ _ rfl (B + 1 + 1) #[.string ⟨#[]⟩, .string ⟨#[]⟩] #[.string ⟨SN.toArray⟩, .string ⟨SD.toArray⟩] 45 rfl rfl HM7.out.z rfl HS.out (two_strings _ _) ?_; intro w8 ho hp))
      refine bodyPost_ret (results_cell_tmp rfl _ w8 (B + 1 + 1) _ _ _ _ _ rfl rfl hp Tryd.underlying45 rfl HS.out) rfl ⟨by first | (rw [hans.out]; done) | (rw [hans.out]; rfl), by rw [HB.out]; exact bel_only HM7.out.bel ho (by omega)⟩
  · have hans := Lib.hid (show AN = .tuple #[.agg #[.string ⟨#[]⟩, .string ⟨#[]⟩], .int .i64 (wrongF2 N D P Q : Int)] by rw [HAN.out]; unfold ansF; rw [show wrongMinus N D P Q = wrongF2 N D P Q from if_neg h0, if_neg h0, if_neg h0])
    have hne : ((wrongF2 N D P Q : Int) == 0) = false := by rw [beq_eq_false_iff_ne]; omega
    clear h0 HG4
    generalize wrongF2 N D P Q = n at *
    go_wp2_with ((refine wpList_store_whole rfl rfl 45 (.tmp 8) (.tmp 32) rfl (B + 1 + 1) #[.string ⟨#[]⟩, .string ⟨#[]⟩] #[.string ⟨#[]⟩, .string ⟨#[]⟩] 45 rfl rfl HM4.out.z rfl HS.out (two_strings _ _) ?_; intro w8 ho hp))
    refine bodyPost_ret (results_cell_tmp rfl _ w8 (B + 1 + 1) _ _ _ _ _ rfl rfl hp Tryd.underlying45 rfl HS.out) rfl ⟨by first | (rw [hans.out]; done) | (rw [hans.out]; rfl), by rw [HB.out]; exact bel_only HM4.out.bel ho (by omega)⟩
set_option maxHeartbeats 8000000 in
set_option maxRecDepth 100000 in
theorem fracOver_any (N D P Q : Bytes) (w : World) (hN : N.length < 140737488355328) (hD : D.length < 140737488355328) (hP : P.length < 140737488355328) (hQ : Q.length < 140737488355328) :
    Calls Tryd.prog 67 #[.agg #[.string ⟨N.toArray⟩, .string ⟨D.toArray⟩], .agg #[.string ⟨P.toArray⟩, .string ⟨Q.toArray⟩], .func (.func 75) #[] #[], .func (.func 76) #[] #[]] w fun e w' => e = .returned (ansF (wrongOver N D P Q) (strD ((dv N * dv Q) / Nat.gcd (dv N * dv Q) (dv D * dv P))) (strD ((dv D * dv P) / Nat.gcd (dv N * dv Q) (dv D * dv P)))) ∧ Below w.heap.size w w' := by
  have QB := Lib.hid (fun w => bothF_any N D P Q w hN hD hP hQ)
  have HS := Lib.hid size_api
  have HL := Lib.hid size_lfr
  clear hN hD hP hQ
  obtain ⟨AN, hAN⟩ : ∃ F, F = ansF (wrongOver N D P Q) (strD ((dv N * dv Q) / Nat.gcd (dv N * dv Q) (dv D * dv P))) (strD ((dv D * dv P) / Nat.gcd (dv N * dv Q) (dv D * dv P))) := ⟨_, rfl⟩
  rw [← hAN]
  have HAN := Lib.hid hAN
  have qT := run_neq_func (.func 75) #[] #[]
  clear hAN
  go_enter Tryd.func67, Tryd.ntmps67
  go_upto_region 1 with (fail)
  have BX := Box3.mk' w #[.string ⟨N.toArray⟩, .string ⟨D.toArray⟩] #[.string ⟨P.toArray⟩, .string ⟨Q.toArray⟩] #[.string ⟨#[]⟩, .string ⟨#[]⟩] 45 45
  generalize hB : w.heap.size = B at *
  refine wp_abs (fun w1 => Box3 B w w1 #[.string ⟨N.toArray⟩, .string ⟨D.toArray⟩] #[.string ⟨P.toArray⟩, .string ⟨Q.toArray⟩] #[.string ⟨#[]⟩, .string ⟨#[]⟩] 45 45) BX (fun w1 B1 => ?_)
  have HB := Lib.hid hB
  have HB1 := Lib.hid B1
  have hBs1 : B + 1 + 1 < w1.heap.size := lt_of_heap B1.z
  clear BX hB B1
  go_upto_region 2 with (first
    | (refine wpList_load_whole rfl 45 _ rfl B #[.string ⟨N.toArray⟩, .string ⟨D.toArray⟩] _ _ _ rfl HB1.out.x Tryd.underlying45 rfl HS.out ?_)
    | (refine wpList_load_whole rfl 45 _ rfl (B + 1) #[.string ⟨P.toArray⟩, .string ⟨Q.toArray⟩] _ _ _ rfl HB1.out.y Tryd.underlying45 rfl HS.out ?_)
    | (go_at_call 70; refine (QB.out w1).mono ?_; rintro e w2 ⟨on, nn, cn, od, nd, cd, op, np, cp, oq, nq, cq, rfl, hg, bel2⟩; have HG := Lib.hid hg; have HB2 := Lib.hid (HB1.out.keep (by omega) bel2); have hBs2 : B + 1 + 1 < w2.heap.size := lt_of_heap HB2.out.z; clear hg bel2)
    | (refine wpList_store_whole rfl rfl 90 _ _ rfl w2.heap.size #[.slice none 0 0, .slice none 0 0] #[.slice on nn cn, .slice od nd cd] 90 rfl rfl (heap_lt (heap_at rfl)) rfl HL.out (two_slices _ _ _ _ _ _) ?_; intro w3 ho3 hp3; have HO3 := Lib.hid ho3; have HP3 := Lib.hid hp3; clear ho3 hp3)
    | (refine wpList_store_whole rfl rfl 90 _ _ rfl (w2.heap.size + 1) #[.slice none 0 0, .slice none 0 0] #[.slice op np cp, .slice oq nq cq] 90 rfl rfl (HO3.out.keep (by omega) (heap_at (by simp))) rfl HL.out (two_slices _ _ _ _ _ _) ?_; intro w4 ho4 hp4; have HO4 := Lib.hid ho4; have HP4 := Lib.hid hp4; clear ho4 hp4))
  have al : Below w2.heap.size w2 ((w2.alloc (.cells #[.slice none 0 0, .slice none 0 0] 90)).alloc (.cells #[.slice none 0 0, .slice none 0 0] 90)) := ((Below.refl _ _).alloc (Nat.le_refl _) _).alloc (by simp) _
  have b4 : Below w2.heap.size w2 w4 := bel_only (bel_only al HO3.out (Nat.le_refl _)) HO4.out (by omega)
  have M4 : FracMid B w2.heap.size w w4 on od op oq nn cn nd cd np cp nq cq := ⟨HB2.out.bel.trans (b4.mono (by omega)), bel_keep b4 (lt_of_heap HB2.out.z) HB2.out.z, HO4.out.keep (by omega) HP3.out, HP4.out, hBs2⟩
  have HM4 := Lib.hid M4
  have HG4 := Lib.hid (show wrongF2 N D P Q = 0 → nn = (dig (dv N)).length ∧ nd = (dig (dv D)).length ∧ np = (dig (dv P)).length ∧ nq = (dig (dv Q)).length ∧ LFr w4 (dv N) (dv D) on od ∧ LFr w4 (dv P) (dv Q) op oq from fun h => by
    obtain ⟨e1, e2, e3, e4, e5, e6⟩ := HG.out h
    exact ⟨e1, e2, e3, e4, e5.below b4, e6.below b4⟩)
  have hs4 : B + 1 + 1 < w4.heap.size := lt_of_heap M4.z
  clear M4 HO3 HP3 HO4 HP4 HB2 HG HB1 QB al b4
  generalize w2.heap.size = C at *
  by_cases h0 : wrongF2 N D P Q = 0
  · obtain ⟨rfl, rfl, rfl, rfl, h5, h6⟩ := HG4.out h0
    have H5 := Lib.hid h5
    have H6 := Lib.hid h6
    obtain ⟨w01, w02⟩ := wrongF2_good h0
    obtain ⟨bN, bD, hD0⟩ := good_frac w01
    obtain ⟨bP, bQ, hQ0⟩ := good_frac w02
    have l1 : (dig (dv N)).length < 274877906944 := Nat.lt_of_le_of_lt bN.limbs (by decide)
    have l2 : (dig (dv D)).length < 274877906944 := Nat.lt_of_le_of_lt bD.limbs (by decide)
    have l3 : (dig (dv P)).length < 274877906944 := Nat.lt_of_le_of_lt bP.limbs (by decide)
    have l4 : (dig (dv Q)).length < 274877906944 := Nat.lt_of_le_of_lt bQ.limbs (by decide)
    have H0 := Lib.hid h0
    have HD0 := Lib.hid hD0
    have HQ0 := Lib.hid hQ0
    have n1 : (dig ((dv N * dv Q) / Nat.gcd (dv N * dv Q) (dv D * dv P))).length < 1099511627776 := Nat.lt_of_le_of_lt ((bN.mul bQ).div _).limbs (by decide)
    have n2 : (dig ((dv D * dv P) / Nat.gcd (dv N * dv Q) (dv D * dv P))).length < 1099511627776 := Nat.lt_of_le_of_lt ((bD.mul bP).div _).limbs (by decide)
    rw [h0]
    clear h5 h6 w01 w02 bN bD hD0 bP bQ hQ0 h0 HG4
    have QM := fun n hn => overMay_any (dv N) (dv D) (dv P) (dv Q) on od op oq cn cd cp cq w4 n hn
    by_cases hm : dv P = 0
    · have QM2 := Lib.hid (QM 5 (by rw [if_pos hm]))
      have hwt := Lib.hid (show wrongOver N D P Q = 5 by unfold wrongOver; rw [if_pos H0.out, if_pos hm])
      clear QM hm
      go_upto_region 4 with (first
        | (refine wpList_load_whole rfl 90 _ rfl C #[.slice on (dig (dv N)).length cn, .slice od (dig (dv D)).length cd] _ _ _ rfl HM4.out.c Tryd.underlying90 rfl HL.out ?_)
        | (refine wpList_load_whole rfl 90 _ rfl (C + 1) #[.slice op (dig (dv P)).length cp, .slice oq (dig (dv Q)).length cq] _ _ _ rfl HM4.out.d Tryd.underlying90 rfl HL.out ?_)
        | (go_at_call 75; refine QM2.out.mono ?_; rintro e w5 ⟨rfl, bel5⟩; have HM5 := Lib.hid (HM4.out.keep bel5); have hs5 : B + 1 + 1 < w5.heap.size := lt_of_heap HM5.out.z; clear bel5))
      have hans := Lib.hid (show AN = .tuple #[.agg #[.string ⟨#[]⟩, .string ⟨#[]⟩], .int .i64 (5 : Int)] by rw [HAN.out]; unfold ansF; rw [hwt.out]; rfl)
      go_wp2_with ((refine wpList_store_whole rfl rfl 45 (.tmp 8) (.tmp 32) rfl (B + 1 + 1) #[.string ⟨#[]⟩, .string ⟨#[]⟩] #[.string ⟨#[]⟩, .string ⟨#[]⟩] 45 rfl rfl HM5.out.z rfl HS.out (two_strings _ _) ?_; intro w8 ho hp))
      refine bodyPost_ret (results_cell_tmp rfl _ w8 (B + 1 + 1) _ _ _ _ _ rfl rfl hp Tryd.underlying45 rfl HS.out) rfl ⟨by first | (rw [hans.out]; done) | (rw [hans.out]; rfl), by rw [HB.out]; exact bel_only HM5.out.bel ho (by omega)⟩
    · have QM2 := Lib.hid (QM 0 (by rw [if_neg hm]))
      have hwt := Lib.hid (show wrongOver N D P Q = 0 by unfold wrongOver; rw [if_pos H0.out, if_neg hm])
      have hP0 := Lib.hid (show 0 < dv P by omega)
      clear QM hm
      go_upto_region 4 with (first
        | (refine wpList_load_whole rfl 90 _ rfl C #[.slice on (dig (dv N)).length cn, .slice od (dig (dv D)).length cd] _ _ _ rfl HM4.out.c Tryd.underlying90 rfl HL.out ?_)
        | (refine wpList_load_whole rfl 90 _ rfl (C + 1) #[.slice op (dig (dv P)).length cp, .slice oq (dig (dv Q)).length cq] _ _ _ rfl HM4.out.d Tryd.underlying90 rfl HL.out ?_)
        | (go_at_call 75; refine QM2.out.mono ?_; rintro e w5 ⟨rfl, bel5⟩; have HM5 := Lib.hid (HM4.out.keep bel5); have G5 := Lib.hid (H5.out.below bel5); have G6 := Lib.hid (H6.out.below bel5); have hs5 : B + 1 + 1 < w5.heap.size := lt_of_heap HM5.out.z; clear bel5))
      have QD := Lib.hid (exFOver_any (dv N) (dv D) (dv P) (dv Q) on od op oq cn cd cp cq w5 G5.out G6.out (Nat.mul_pos HD0.out hP0.out) l1 l2 l3 l4)
      have QT := Lib.hid (fun on od cn cd w h => natTold_any ((dv N * dv Q) / Nat.gcd (dv N * dv Q) (dv D * dv P)) ((dv D * dv P) / Nat.gcd (dv N * dv Q) (dv D * dv P)) on od cn cd w h n1 n2)
      have hans := Lib.hid (show AN = .tuple #[.agg #[.string ⟨(strD ((dv N * dv Q) / Nat.gcd (dv N * dv Q) (dv D * dv P))).toArray⟩, .string ⟨(strD ((dv D * dv P) / Nat.gcd (dv N * dv Q) (dv D * dv P))).toArray⟩], .int .i64 0] by rw [HAN.out, hwt.out]; rfl)
      generalize (dv N * dv Q) / Nat.gcd (dv N * dv Q) (dv D * dv P) = NN at *
      generalize (dv D * dv P) / Nat.gcd (dv N * dv Q) (dv D * dv P) = DD at *
      generalize strD NN = SN at *
      generalize strD DD = SD at *
      go_wp2_with (first
        | (refine wpList_load_whole rfl 90 _ rfl C #[.slice on (dig (dv N)).length cn, .slice od (dig (dv D)).length cd] _ _ _ rfl HM5.out.c Tryd.underlying90 rfl HL.out ?_)
        | (refine wpList_load_whole rfl 90 _ rfl (C + 1) #[.slice op (dig (dv P)).length cp, .slice oq (dig (dv Q)).length cq] _ _ _ rfl HM5.out.d Tryd.underlying90 rfl HL.out ?_)
        | (go_at_call 76; refine QD.out.mono ?_; rintro e w6 ⟨or, os, cr, cs, rfl, hr, bel6⟩; have HR := Lib.hid hr; have HM6 := Lib.hid (HM5.out.keep bel6); clear hr bel6)
        | (go_at_call 77; refine (QT.out or os cr cs w6 HR.out).mono ?_; rintro e w7 ⟨rfl, bel7⟩; have HM7 := Lib.hid (HM6.out.keep bel7); clear bel7)
        | (refine wpList_store_whole rfl rfl 45 _ _ rfl (B + 1 + 1) #[.string ⟨#[]⟩, .string ⟨#[]⟩] #[.string ⟨SN.toArray⟩, .string ⟨SD.toArray⟩] 45 rfl rfl HM7.out.z rfl HS.out (two_strings _ _) ?_; intro w8 ho hp))
      refine bodyPost_ret (results_cell_tmp rfl _ w8 (B + 1 + 1) _ _ _ _ _ rfl rfl hp Tryd.underlying45 rfl HS.out) rfl ⟨by first | (rw [hans.out]; done) | (rw [hans.out]; rfl), by rw [HB.out]; exact bel_only HM7.out.bel ho (by omega)⟩
  · have hans := Lib.hid (show AN = .tuple #[.agg #[.string ⟨#[]⟩, .string ⟨#[]⟩], .int .i64 (wrongF2 N D P Q : Int)] by rw [HAN.out]; unfold ansF; rw [show wrongOver N D P Q = wrongF2 N D P Q from if_neg h0, if_neg h0, if_neg h0])
    have hne : ((wrongF2 N D P Q : Int) == 0) = false := by rw [beq_eq_false_iff_ne]; omega
    clear h0 HG4
    generalize wrongF2 N D P Q = n at *
    go_wp2_with ((refine wpList_store_whole rfl rfl 45 (.tmp 8) (.tmp 32) rfl (B + 1 + 1) #[.string ⟨#[]⟩, .string ⟨#[]⟩] #[.string ⟨#[]⟩, .string ⟨#[]⟩] 45 rfl rfl HM4.out.z rfl HS.out (two_strings _ _) ?_; intro w8 ho hp))
    refine bodyPost_ret (results_cell_tmp rfl _ w8 (B + 1 + 1) _ _ _ _ _ rfl rfl hp Tryd.underlying45 rfl HS.out) rfl ⟨by first | (rw [hans.out]; done) | (rw [hans.out]; rfl), by rw [HB.out]; exact bel_only HM4.out.bel ho (by omega)⟩
end Go.Proofs.YtkkpfoidppjbdaaDoor
