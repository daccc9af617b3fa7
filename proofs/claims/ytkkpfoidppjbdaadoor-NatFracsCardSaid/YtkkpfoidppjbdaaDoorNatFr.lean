/-
  NatFracs: the walk. Printed by tools/genfrac3.py.
-/
import Derived.Test.YtkkpfoidppjbdaaDoorNFracL
import Derived.Test.YtkkpfoidppjbdaaDoorNatReck
namespace Go.Proofs.YtkkpfoidppjbdaaDoor
set_option linter.unusedVariables false
open Go.RowKit ML FM ND

/-- the law's two fractions and the reference's two, in memory -/
structure LawF (B C : Nat) (w w1 : World) (N D P Q : Bytes) (a b c d : Nat) (oa ob oc od : Option Addr) (ca cb cc cd : Nat) : Prop where
  bel : Below B w w1
  x : w1.heap[B]? = some (.cells #[.string ⟨N.toArray⟩, .string ⟨D.toArray⟩] 45 (0, 0))
  y : w1.heap[B + 1]? = some (.cells #[.string ⟨P.toArray⟩, .string ⟨Q.toArray⟩] 45 (0, 0))
  p : w1.heap[C]? = some (.cells #[.slice oa (dig a).length ca, .slice ob (dig b).length cb] 47 (0, 0))
  q : w1.heap[C + 1]? = some (.cells #[.slice oc (dig c).length cc, .slice od (dig d).length cd] 47 (0, 0))
  X : NFr w1 a b oa ob
  Y : NFr w1 c d oc od
  lt : B + 1 < C
namespace LawF
variable {B C : Nat} {w w1 w2 : World} {N D P Q : Bytes} {a b c d : Nat} {oa ob oc od : Option Addr} {ca cb cc cd : Nat}
theorem keep (h : LawF B C w w1 N D P Q a b c d oa ob oc od ca cb cc cd) (hb : Below w1.heap.size w1 w2) : LawF B C w w2 N D P Q a b c d oa ob oc od ca cb cc cd :=
  ⟨h.bel.trans (hb.mono (by have := lt_of_heap h.y; omega)), bel_keep hb (lt_of_heap h.x) h.x, bel_keep hb (lt_of_heap h.y) h.y, bel_keep hb (lt_of_heap h.p) h.p, bel_keep hb (lt_of_heap h.q) h.q, h.X.below hb, h.Y.below hb, h.lt⟩
theorem other {E : Nat} {cs : Array Value} {t : TypeId} {fr : Nat × Nat} (h : LawF B C w w1 N D P Q a b c d oa ob oc od ca cb cc cd) (hE : C + 1 < E) (he : w1.heap[E]? = some (.cells cs t fr)) (hn : cs.all noInt = true) (ho : Only E w1 w2) : LawF B C w w2 N D P Q a b c d oa ob oc od ca cb cc cd :=
  ⟨bel_only h.bel ho (by have := h.lt; omega), ho.keep (by have := h.lt; omega) h.x, ho.keep (by have := h.lt; omega) h.y, ho.keep (by omega) h.p, ho.keep (by omega) h.q, ⟨h.X.num.spared he hn ho, h.X.den.spared he hn ho⟩, ⟨h.Y.num.spared he hn ho, h.Y.den.spared he hn ho⟩, h.lt⟩
end LawF
theorem cmp_eq (x y : Nat) : NL.cmpI x y = ND.cmpI x y := rfl
theorem told_yes {n : Nat} {S T : Bytes} {x y : Nat} (h : n = 0 → S = strD x ∧ T = strD y) : (n = 0 ∧ n = 0 ∧ (if n = 0 then S else []) = strD x ∧ (if n = 0 then T else []) = strD y) ∨ (n ≠ 0 ∧ n = n ∧ (if n = 0 then S else []) = [] ∧ (if n = 0 then T else []) = []) := by
  by_cases h0 : n = 0
  · obtain ⟨h1, h2⟩ := h h0
    exact .inl ⟨h0, h0, by rw [if_pos h0]; exact h1, by rw [if_pos h0]; exact h2⟩
  · exact .inr ⟨h0, rfl, if_neg h0, if_neg h0⟩
/-- what 'told' asks -/
def ToldOk (n : Nat) (S T : Bytes) (x y : Nat) : Prop := (n = 0 ∧ n = 0 ∧ S = strD x ∧ T = strD y) ∨ (n ≠ 0 ∧ n = n ∧ S = [] ∧ T = [])
theorem nf_len {K x : Nat} (h : NB K x) (hK : K < 274877906944) : (dig x).length < 274877906944 := Nat.lt_of_le_of_lt h.digs hK
set_option maxHeartbeats 16000000 in
set_option maxRecDepth 100000 in
theorem natFracs_any (N D P Q : Bytes) (w : World) (hN : N.length < 140737488355328) (hD : D.length < 140737488355328) (hP : P.length < 140737488355328) (hQ : Q.length < 140737488355328) :
    Calls Tryd.prog 7 #[.agg #[.string ⟨N.toArray⟩, .string ⟨D.toArray⟩], .agg #[.string ⟨P.toArray⟩, .string ⟨Q.toArray⟩]] w fun e w' => e = .returned (.bool true) ∧ Below w.heap.size w w' := by
  have QW1 := Lib.hid (fun w => refWrongFrac_any N D w hN hD)
  have QW2 := Lib.hid (fun w => refWrongFrac_any P Q w hP hQ)
  have QP := Lib.hid (fun w => natFPlus_any N D P Q w hN hD hP hQ)
  have QT := Lib.hid (fun w => natFTimes_any N D P Q w hN hD hP hQ)
  have QM := Lib.hid (fun w => natFMinus_any N D P Q w hN hD hP hQ)
  have QO := Lib.hid (fun w => natFOver_any N D P Q w hN hD hP hQ)
  have QC := Lib.hid (fun w => natOrder_any N D P Q w hN hD hP hQ)
  have QE := Lib.hid (fun w => refWhole_any 1 w (by decide))
  have HA := Lib.hid size_api
  have HR := Lib.hid size_nfr
  have hone := Lib.hid (show dig 1 = [1] by rw [dig_pos (by decide)]; simp [dig_zero])
  obtain ⟨n, hn⟩ : ∃ n, n = wrongF2 N D P Q := ⟨_, rfl⟩
  have HN := Lib.hid hn
  clear hn hN hD hP hQ
  go_enter Tryd.func7, Tryd.ntmps7
  go_upto_region 1 with (fail)
  have BX := Box2.mk' w #[.string ⟨N.toArray⟩, .string ⟨D.toArray⟩] #[.string ⟨P.toArray⟩, .string ⟨Q.toArray⟩] 45
  generalize hB : w.heap.size = B at *
  refine wp_abs (fun w1 => Box2 B w w1 #[.string ⟨N.toArray⟩, .string ⟨D.toArray⟩] #[.string ⟨P.toArray⟩, .string ⟨Q.toArray⟩] 45) BX (fun w1 B1 => ?_)
  have HB := Lib.hid hB
  have HB1 := Lib.hid B1
  have c1 := cell_of_row w1 B 0 _ _ _ B1.x
  have c2 := cell_of_row w1 B 1 _ _ _ B1.x
  have hBs1 : B + 1 < w1.heap.size := lt_of_heap B1.y
  clear BX hB B1
  go_upto_region 2 with (go_at_call 29; refine (QW1.out w1).mono ?_; rintro e w2 ⟨rfl, bel2⟩; have HB2 := Lib.hid (HB1.out.keep (by omega) bel2); clear bel2)
  clear c1 c2 HB1 QW1 hBs1
  have c3 := cell_of_row w2 (B + 1) 0 _ _ _ HB2.out.y
  have c4 := cell_of_row w2 (B + 1) 1 _ _ _ HB2.out.y
  have hBs2 : B + 1 < w2.heap.size := lt_of_heap HB2.out.y
  go_upto_if 17 with (fail)
  go_cut [5] (fun v w' => v = .int .i64 (n : Int) ∧ Box2 B w w' #[.string ⟨N.toArray⟩, .string ⟨D.toArray⟩] #[.string ⟨P.toArray⟩, .string ⟨Q.toArray⟩] 45)
  case first =>
    by_cases h0 : wrongF N D = 0
    · have hw := Lib.hid (show n = wrongF P Q by rw [HN.out]; exact if_pos h0)
      rw [h0]
      rw [← hw.out] at QW2
      clear h0
      go_wp2_with (go_at_call 29; refine (QW2.out w2).mono ?_; rintro e w3 ⟨rfl, bel3⟩; have HB3 := Lib.hid (HB2.out.keep (by omega) bel3); clear bel3)
      go_meet
      exact ⟨rfl, HB3.out⟩
    · have hw := Lib.hid (show n = wrongF N D by rw [HN.out]; exact if_neg h0)
      rw [← hw.out] at h0 ⊢
      have hne : ((n : Int) == 0) = false := by rw [beq_eq_false_iff_ne]; omega
      clear h0
      go_wp2_with fail
      go_meet
      exact ⟨rfl, HB2.out⟩
  case rest =>
  obtain ⟨rfl, B3⟩ := hcut
  have HB3 := Lib.hid B3
  have hBs3 : B + 1 < wc.heap.size := lt_of_heap B3.y
  clear c3 c4 HB2 hBs2 QW2 B3
  rw [hone.out, show ((1 : Nat) : Int) = 1 from rfl] at QE
  go_upto_region 5 with (first
    | (go_at_call 30; (with_reducible refine (QE.out wc).mono ?_); rintro e w4 ⟨oa, ob, ca, cb, rfl, hX, bel4⟩; have HX := Lib.hid hX; have HB4 := Lib.hid (HB3.out.keep (by omega) bel4); have hBs4 : B + 1 < w4.heap.size := lt_of_heap HB4.out.y; clear hX bel4)
    | (go_at_call 30; refine (QE.out w4).mono ?_; rintro e w5 ⟨oc, od, cc, cd, rfl, hY, bel5⟩; have HY := Lib.hid hY; have HB5 := Lib.hid (HB4.out.keep (by omega) bel5); have HX5 := Lib.hid (HX.out.below bel5); have hBs5 : B + 1 < w5.heap.size := lt_of_heap HB5.out.y; clear hY bel5)
    | (refine wpList_store_whole rfl rfl 47 _ _ rfl w5.heap.size #[.slice none 0 0, .slice none 0 0] #[.slice oa 1 ca, .slice ob 1 cb] 47 rfl rfl (heap_lt (heap_at rfl)) rfl HR.out (two_slices _ _ _ _ _ _) ?_; intro w6 ho6 hp6; have HO6 := Lib.hid ho6; have HP6 := Lib.hid hp6; clear ho6 hp6)
    | (refine wpList_store_whole rfl rfl 47 _ _ rfl (w5.heap.size + 1) #[.slice none 0 0, .slice none 0 0] #[.slice oc 1 cc, .slice od 1 cd] 47 rfl rfl (HO6.out.keep (by omega) (heap_at (by simp))) rfl HR.out (two_slices _ _ _ _ _ _) ?_; intro w7 ho7 hp7; have HO7 := Lib.hid ho7; have HP7 := Lib.hid hp7; clear ho7 hp7))
  have al : Below w5.heap.size w5 ((w5.alloc (.cells #[.slice none 0 0, .slice none 0 0] 47)).alloc (.cells #[.slice none 0 0, .slice none 0 0] 47)) := ((Below.refl _ _).alloc (Nat.le_refl _) _).alloc (by simp) _
  have b7 : Below w5.heap.size w5 w7 := bel_only (bel_only al HO6.out (Nat.le_refl _)) HO7.out (by omega)
  have B7 := Lib.hid (HB5.out.keep (by omega) b7)
  have L7 : LawF B w5.heap.size w w7 N D P Q 1 1 1 1 oa ob oc od ca cb cc cd :=
    ⟨B7.out.bel, B7.out.x, B7.out.y, by rw [hone.out]; exact HO7.out.keep (by omega) HP6.out, by rw [hone.out]; exact HP7.out, HX5.out.below b7, HY.out.below b7, hBs5⟩
  have HL7 := Lib.hid L7
  clear L7 al b7 B7 HO6 HP6 HO7 HP7 HX HY HX5 HB3 HB4 HB5 QE
  generalize w5.heap.size = C at *
  go_upto_if 26 with (fail)
  go_cut [] (fun w' => ∃ (a b c d : Nat) (oa ob oc od : Option Addr) (ca cb cc cd : Nat), LawF B C w w' N D P Q a b c d oa ob oc od ca cb cc cd ∧ (n = 0 → a = dv N ∧ b = dv D ∧ c = dv P ∧ d = dv Q) ∧ (n ≠ 0 → a = 1 ∧ b = 1 ∧ c = 1 ∧ d = 1) ∧ NB 4000 a ∧ NB 4000 b ∧ NB 4000 c ∧ NB 4000 d ∧ 0 < b ∧ 0 < d)
  case first =>
    by_cases h0 : n = 0
    · obtain ⟨w01, w02⟩ := wrongF2_good (show wrongF2 N D P Q = 0 by rw [← HN.out]; exact h0)
      obtain ⟨bN, bD, hD0⟩ := good_frac w01
      obtain ⟨bP, bQ, hQ0⟩ := good_frac w02
      obtain ⟨n1, n2, n3, n4, -, -⟩ := wrongF_good w01
      obtain ⟨m1, m2, m3, m4, -, -⟩ := wrongF_good w02
      have R1 := Lib.hid (fun w => lawRead_any N D w (by omega) (by omega) ((numB_iff N).1 n1).2.1 ((numB_iff D).1 n2).2.1)
      have R2 := Lib.hid (fun w => lawRead_any P Q w (by omega) (by omega) ((numB_iff P).1 m1).2.1 ((numB_iff Q).1 m2).2.1)
      have HBN := Lib.hid (show NB 4000 (dv N) ∧ NB 4000 (dv D) ∧ NB 4000 (dv P) ∧ NB 4000 (dv Q) ∧ 0 < dv D ∧ 0 < dv Q from ⟨bN, bD, bP, bQ, hD0, hQ0⟩)
      subst h0
      have hs7 := lt_of_heap HL7.out.q
      have hlt7 := HL7.out.lt
      have c1 := cell_of_row w7 B 0 _ _ _ HL7.out.x
      have c2 := cell_of_row w7 B 1 _ _ _ HL7.out.x
      have c3 := cell_of_row w7 (B + 1) 0 _ _ _ HL7.out.y
      have c4 := cell_of_row w7 (B + 1) 1 _ _ _ HL7.out.y
      clear w01 w02 bN bD hD0 bP bQ hQ0 n1 n2 n3 n4 m1 m2 m3 m4
      go_upto_region 6 with (fail)
      refine Seg.wp_region_segs (fun w' => ∃ x : BelowT (B + 2) w7, w' = x.w) [([0, 2], 1)] [] 3 (by kernel_rfl) (by kernel_rfl) (fun _ _ d _ _ h => by cases d <;> exact h) (⟨⟨_, (Below.refl _ _).drew⟩, rfl⟩) ?_
      simp only [List.map_cons, List.map_nil, Seg.opAt, List.drop_succ_cons, List.drop_zero, Seg.wpSegs, Array.getD_eq_getD_getElem?, List.getElem?_toArray, List.getElem?_cons_succ, List.getElem?_cons_zero, Option.getD_some]
      repeat (any_goals (first | go_big_quiet_step (fail) | quiet_step (fail)))
      refine wpQuiet_nil ?_
      intro K hK
      simp only [Region.wanted, if_true]
      go_wp2_with (go_at_call 31; (with_reducible refine (R1.out _).mono ?_); rintro e w8 ⟨pa, pb, da, db, rfl, hX, bel8⟩; have HX := Lib.hid hX; clear hX)
      have bel8' : Below w7.heap.size w7 w8 := undrew bel8
      refine hK _ _ ⟨⟨w8, bel8'.mono (by omega)⟩, rfl⟩ ?_
      have HL8 := Lib.hid (HL7.out.keep bel8')
      clear hK K c1 c2 c3 c4 bel8 bel8' HL7 R1
      repeat (any_goals (first | go_big_quiet_step (fail) | quiet_step (fail)))
      refine wpQuiet_nil ?_
      go_wp2_with (first
        | (go_at_call 31; refine (R2.out w8).mono ?_; rintro e w9 ⟨pc, pd, dc, dd, rfl, hY, bel9⟩; have HY := Lib.hid hY; have HX9 := Lib.hid (HX.out.below bel9); have HL9 := Lib.hid (HL8.out.keep bel9); clear hY bel9)
        | (refine wpList_store_whole rfl rfl 47 _ _ rfl C #[.slice oa (dig 1).length ca, .slice ob (dig 1).length cb] #[.slice pa (dig (dv N)).length da, .slice pb (dig (dv D)).length db] 47 rfl rfl HL9.out.p rfl HR.out (two_slices _ _ _ _ _ _) ?_; intro w10 ho hp; have HO10 := Lib.hid ho; have HP10 := Lib.hid hp; clear ho hp)
        | (refine wpList_store_whole rfl rfl 47 _ _ rfl (C + 1) #[.slice oc (dig 1).length cc, .slice od (dig 1).length cd] #[.slice pc (dig (dv P)).length dc, .slice pd (dig (dv Q)).length dd] 47 rfl rfl (HO10.out.keep (by omega) HL9.out.q) rfl HR.out (two_slices _ _ _ _ _ _) ?_; intro w11 ho hp; have HO11 := Lib.hid ho; have HP11 := Lib.hid hp; clear ho hp))
      go_meet
      have q10 := HO10.out.keep (k := C + 1) (by omega) HL9.out.q
      have ni := two_noInt2 oa ob (dig 1).length ca (dig 1).length cb
      have ni2 := two_noInt2 oc od (dig 1).length cc (dig 1).length cd
      exact ⟨dv N, dv D, dv P, dv Q, pa, pb, pc, pd, da, db, dc, dd,
        ⟨bel_only (bel_only HL9.out.bel HO10.out (by omega)) HO11.out (by omega), HO11.out.keep (by omega) (HO10.out.keep (by omega) HL9.out.x), HO11.out.keep (by omega) (HO10.out.keep (by omega) HL9.out.y), HO11.out.keep (by omega) HP10.out, HP11.out,
          ⟨(HX9.out.num.spared HL9.out.p ni HO10.out).spared q10 ni2 HO11.out, (HX9.out.den.spared HL9.out.p ni HO10.out).spared q10 ni2 HO11.out⟩,
          ⟨(HY.out.num.spared HL9.out.p ni HO10.out).spared q10 ni2 HO11.out, (HY.out.den.spared HL9.out.p ni HO10.out).spared q10 ni2 HO11.out⟩, hlt7⟩,
        fun _ => ⟨rfl, rfl, rfl, rfl⟩, fun h => absurd rfl h, HBN.out⟩
    · have hne : ((n : Int) == 0) = false := by rw [beq_eq_false_iff_ne]; omega
      have H0 := Lib.hid h0
      clear h0
      go_wp2_with fail
      go_meet
      exact ⟨1, 1, 1, 1, oa, ob, oc, od, ca, cb, cc, cd, HL7.out, fun h => absurd h H0.out, fun _ => ⟨rfl, rfl, rfl, rfl⟩, (NB.one 0).up (by decide), (NB.one 0).up (by decide), (NB.one 0).up (by decide), (NB.one 0).up (by decide), by decide, by decide⟩
  case rest =>
  clear HL7
  obtain ⟨a, b, c, d, oa, ob, oc, od, ca, cb, cc, cd, L8, hgood, hbad, ba, bb, bc, bd, hb0, hd0⟩ := hcut
  have HL8 := Lib.hid L8
  have HG := Lib.hid hgood
  have HBad := Lib.hid hbad
  have Ba := Lib.hid ba
  have Bb := Lib.hid bb
  have Bc := Lib.hid bc
  have Bd := Lib.hid bd
  have Hb0 := Lib.hid hb0
  have Hd0 := Lib.hid hd0
  have l1 : (dig a).length < 274877906944 := nf_len ba (by decide)
  have l2 : (dig b).length < 274877906944 := nf_len bb (by decide)
  have l3 : (dig c).length < 274877906944 := nf_len bc (by decide)
  have l4 : (dig d).length < 274877906944 := nf_len bd (by decide)
  unfold ansF at QP QT QM QO
  rw [← HN.out] at QP QT QC
  clear L8 hgood hbad ba bb bc bd hb0 hd0
  -- Plus
  obtain ⟨S1, hS1⟩ : ∃ S, S = if n = 0 then strD ((dv N * dv Q + dv P * dv D) / Nat.gcd (dv N * dv Q + dv P * dv D) (dv D * dv Q)) else [] := ⟨_, rfl⟩
  obtain ⟨S2, hS2⟩ : ∃ S, S = if n = 0 then strD ((dv D * dv Q) / Nat.gcd (dv N * dv Q + dv P * dv D) (dv D * dv Q)) else [] := ⟨_, rfl⟩
  rw [← hS1, ← hS2] at QP
  have HS1 := Lib.hid hS1
  have HS2 := Lib.hid hS2
  have HT : Hid (ToldOk n S1 S2 ((a * d + c * b) / Nat.gcd (a * d + c * b) (b * d)) ((b * d) / Nat.gcd (a * d + c * b) (b * d))) := Lib.hid (by
    rw [hS1, hS2]
    exact told_yes (fun h => by obtain ⟨e1, e2, e3, e4⟩ := HG.out h; rw [e1, e2, e3, e4]; exact ⟨rfl, rfl⟩))
  clear hS1 hS2
  go_upto_region 8 with (first
    | (refine wpList_load_whole rfl 45 _ rfl B #[.string ⟨N.toArray⟩, .string ⟨D.toArray⟩] _ _ _ rfl HL8.out.x Tryd.underlying45 rfl HA.out ?_)
    | (refine wpList_load_whole rfl 45 _ rfl (B + 1) #[.string ⟨P.toArray⟩, .string ⟨Q.toArray⟩] _ _ _ rfl HL8.out.y Tryd.underlying45 rfl HA.out ?_)
    | (go_at_call 32; refine (QP.out _).mono ?_; rintro e w9 ⟨rfl, bel9⟩; have HL9 := Lib.hid (HL8.out.keep bel9); clear bel9)
    | (refine wpList_store_whole rfl rfl 45 _ _ rfl w9.heap.size #[.string ⟨#[]⟩, .string ⟨#[]⟩] #[.string ⟨S1.toArray⟩, .string ⟨S2.toArray⟩] 45 rfl rfl (heap_at rfl) rfl HA.out (two_strings _ _) ?_; intro w10 ho hp; have HO10 := Lib.hid ho; have HP10 := Lib.hid hp; clear ho hp))
  have hE9 : C + 1 < w9.heap.size := lt_of_heap HL9.out.q
  have L10 := (HL9.out.keep ((Below.refl _ _).alloc (Nat.le_refl _) (.cells #[.string ⟨#[]⟩, .string ⟨#[]⟩] 45))).other (E := w9.heap.size) hE9 (heap_at rfl) (two_noInt' _ _) HO10.out
  generalize w9.heap.size = E at *
  refine wp_abs (fun w' => LawF B C w w' N D P Q a b c d oa ob oc od ca cb cc cd ∧ w'.heap[E]? = some (.cells #[.string ⟨S1.toArray⟩, .string ⟨S2.toArray⟩] 45 (0, 0))) ⟨L10, HP10.out⟩ (fun w12 hw12 => ?_)
  have HLk := Lib.hid hw12.1
  have HEk := Lib.hid hw12.2
  clear hw12 L10 HO10 HP10 HL9 HL8 QP
  have t1 : (dig ((a * d + c * b) / Nat.gcd (a * d + c * b) (b * d))).length < 1099511627776 := Nat.lt_of_le_of_lt (((Ba.out.mul Bd.out).add (Bc.out.mul Bb.out)).div _).digs (by decide)
  have t2 : (dig ((b * d) / Nat.gcd (a * d + c * b) (b * d))).length < 1099511627776 := Nat.lt_of_le_of_lt ((Bb.out.mul Bd.out).div _).digs (by decide)
  have QRf := Lib.hid (fun w h1 h2 => refPlus_any a b c d oa ob oc od ca cb cc cd w h1 h2 (Nat.mul_pos Hb0.out Hd0.out) l1 l2 l3 l4)
  have QTl := Lib.hid (fun ox oy cx cy w h => lawTold_any S1 S2 n n ((a * d + c * b) / Nat.gcd (a * d + c * b) (b * d)) ((b * d) / Nat.gcd (a * d + c * b) (b * d)) ox oy cx cy w HT.out h t1 t2)
  generalize (a * d + c * b) / Nat.gcd (a * d + c * b) (b * d) = NN at *
  generalize (b * d) / Nat.gcd (a * d + c * b) (b * d) = DD at *
  clear t1 t2
  have c1 := cell_of_row w12 C 0 _ _ _ HLk.out.p
  have c2 := cell_of_row w12 C 1 _ _ _ HLk.out.p
  have c3 := cell_of_row w12 (C + 1) 0 _ _ _ HLk.out.q
  have c4 := cell_of_row w12 (C + 1) 1 _ _ _ HLk.out.q
  have c5 := cell_of_row w12 E 0 _ _ _ HEk.out
  have c6 := cell_of_row w12 E 1 _ _ _ HEk.out
  have hsk := lt_of_heap HEk.out
  have hb1 : C < E + 1 := by omega
  have hb2 : C + 1 < E + 1 := by omega
  refine Seg.wp_region_segs (fun w' => ∃ x : BelowT (E + 1) w12, w' = x.w) [([0, 1, 2, 3, 4], 5)] [] 6 (by kernel_rfl) (by kernel_rfl) (fun _ _ d _ _ h => by cases d <;> exact h) (⟨⟨_, (Below.refl _ _).drew⟩, rfl⟩) ?_
  simp only [List.map_cons, List.map_nil, Seg.opAt, List.drop_succ_cons, List.drop_zero, Seg.wpSegs, Array.getD_eq_getD_getElem?, List.getElem?_toArray, List.getElem?_cons_succ, List.getElem?_cons_zero, Option.getD_some]
  repeat (any_goals (first | go_big_quiet_step (fail) | quiet_step (fail)))
  refine wpQuiet_nil ?_
  intro K hK
  simp only [Region.wanted, if_true]
  have HLd := Lib.hid (HLk.out.keep (w2 := w12.drew) ((Below.refl _ _).drew))
  go_wp2_with (go_at_call 34; refine (QRf.out _ HLd.out.X HLd.out.Y).mono ?_; rintro e w13 ⟨ox, oy, cx, cy, rfl, hr, bel13⟩; have HRr := Lib.hid hr; clear hr)
  have bel13' : Below w12.heap.size w12 w13 := undrew bel13
  refine hK _ _ ⟨⟨w13, bel13'.mono (by omega)⟩, rfl⟩ ?_
  have HL13 := Lib.hid (HLk.out.keep bel13')
  have HE13 := Lib.hid (bel_keep bel13' (lt_of_heap HEk.out) HEk.out)
  clear hK K c1 c2 c3 c4 c5 c6 bel13 bel13' QRf HLd hsk hb1 hb2 HLk HEk
  repeat (any_goals (first | go_big_quiet_step (fail) | quiet_step (fail)))
  refine wpQuiet_nil ?_
  go_upto_region 10 with (go_at_call 33; refine (QTl.out ox oy cx cy w13 HRr.out).mono ?_; rintro e w14 ⟨rfl, bel14⟩; have HL14 := Lib.hid (HL13.out.keep bel14); have HE14 := Lib.hid (bel_keep bel14 (lt_of_heap HE13.out) HE13.out); clear bel14)
  refine wp_abs (fun w' => LawF B C w w' N D P Q a b c d oa ob oc od ca cb cc cd ∧ ∃ s1 s2 : ByteArray, w'.heap[E]? = some (.cells #[.string s1, .string s2] 45 (0, 0))) ⟨HL14.out, _, _, HE14.out⟩ (fun w8 hw8 => ?_)
  have HL8 := Lib.hid hw8.1
  obtain ⟨s1, s2, he8⟩ := hw8.2
  have HE8 := Lib.hid he8
  clear hw8 he8 HL14 HE14 HL13 HE13 HRr QTl HT HS1 HS2
  -- Times
  obtain ⟨S1, hS1⟩ : ∃ S, S = if n = 0 then strD ((dv N * dv P) / Nat.gcd (dv N * dv P) (dv D * dv Q)) else [] := ⟨_, rfl⟩
  obtain ⟨S2, hS2⟩ : ∃ S, S = if n = 0 then strD ((dv D * dv Q) / Nat.gcd (dv N * dv P) (dv D * dv Q)) else [] := ⟨_, rfl⟩
  rw [← hS1, ← hS2] at QT
  have HS1 := Lib.hid hS1
  have HS2 := Lib.hid hS2
  have HT : Hid (ToldOk n S1 S2 ((a * c) / Nat.gcd (a * c) (b * d)) ((b * d) / Nat.gcd (a * c) (b * d))) := Lib.hid (by
    rw [hS1, hS2]
    exact told_yes (fun h => by obtain ⟨e1, e2, e3, e4⟩ := HG.out h; rw [e1, e2, e3, e4]; exact ⟨rfl, rfl⟩))
  clear hS1 hS2
  go_upto_region 11 with (first
    | (refine wpList_load_whole rfl 45 _ rfl B #[.string ⟨N.toArray⟩, .string ⟨D.toArray⟩] _ _ _ rfl HL8.out.x Tryd.underlying45 rfl HA.out ?_)
    | (refine wpList_load_whole rfl 45 _ rfl (B + 1) #[.string ⟨P.toArray⟩, .string ⟨Q.toArray⟩] _ _ _ rfl HL8.out.y Tryd.underlying45 rfl HA.out ?_)
    | (go_at_call 35; refine (QT.out _).mono ?_; rintro e w9 ⟨rfl, bel9⟩; have HL9 := Lib.hid (HL8.out.keep bel9); have HE9 := Lib.hid (bel_keep bel9 (lt_of_heap HE8.out) HE8.out); clear bel9)
    | (refine wpList_store_whole rfl rfl 45 _ _ rfl E #[.string s1, .string s2] #[.string ⟨S1.toArray⟩, .string ⟨S2.toArray⟩] 45 rfl rfl HE9.out rfl HA.out (two_strings _ _) ?_; intro w10 ho hp; have HO10 := Lib.hid ho; have HP10 := Lib.hid hp; clear ho hp))
  have L10 := HL9.out.other (E := E) hE9 HE9.out (two_noInt' _ _) HO10.out
  refine wp_abs (fun w' => LawF B C w w' N D P Q a b c d oa ob oc od ca cb cc cd ∧ w'.heap[E]? = some (.cells #[.string ⟨S1.toArray⟩, .string ⟨S2.toArray⟩] 45 (0, 0))) ⟨L10, HP10.out⟩ (fun w12 hw12 => ?_)
  have HLk := Lib.hid hw12.1
  have HEk := Lib.hid hw12.2
  clear hw12 L10 HO10 HP10 HL9 HE9 HL8 HE8 QT
  have t1 : (dig ((a * c) / Nat.gcd (a * c) (b * d))).length < 1099511627776 := Nat.lt_of_le_of_lt ((Ba.out.mul Bc.out).div _).digs (by decide)
  have t2 : (dig ((b * d) / Nat.gcd (a * c) (b * d))).length < 1099511627776 := Nat.lt_of_le_of_lt ((Bb.out.mul Bd.out).div _).digs (by decide)
  have QRf := Lib.hid (fun w h1 h2 => refTimes_any a b c d oa ob oc od ca cb cc cd w h1 h2 (Nat.mul_pos Hb0.out Hd0.out) l1 l2 l3 l4)
  have QTl := Lib.hid (fun ox oy cx cy w h => lawTold_any S1 S2 n n ((a * c) / Nat.gcd (a * c) (b * d)) ((b * d) / Nat.gcd (a * c) (b * d)) ox oy cx cy w HT.out h t1 t2)
  generalize (a * c) / Nat.gcd (a * c) (b * d) = NN at *
  generalize (b * d) / Nat.gcd (a * c) (b * d) = DD at *
  clear t1 t2
  have c1 := cell_of_row w12 C 0 _ _ _ HLk.out.p
  have c2 := cell_of_row w12 C 1 _ _ _ HLk.out.p
  have c3 := cell_of_row w12 (C + 1) 0 _ _ _ HLk.out.q
  have c4 := cell_of_row w12 (C + 1) 1 _ _ _ HLk.out.q
  have c5 := cell_of_row w12 E 0 _ _ _ HEk.out
  have c6 := cell_of_row w12 E 1 _ _ _ HEk.out
  have hsk := lt_of_heap HEk.out
  have hb1 : C < E + 1 := by omega
  have hb2 : C + 1 < E + 1 := by omega
  refine Seg.wp_region_segs (fun w' => ∃ x : BelowT (E + 1) w12, w' = x.w) [([0, 1, 2, 3, 4], 5)] [] 6 (by kernel_rfl) (by kernel_rfl) (fun _ _ d _ _ h => by cases d <;> exact h) (⟨⟨_, (Below.refl _ _).drew⟩, rfl⟩) ?_
  simp only [List.map_cons, List.map_nil, Seg.opAt, List.drop_succ_cons, List.drop_zero, Seg.wpSegs, Array.getD_eq_getD_getElem?, List.getElem?_toArray, List.getElem?_cons_succ, List.getElem?_cons_zero, Option.getD_some]
  repeat (any_goals (first | go_big_quiet_step (fail) | quiet_step (fail)))
  refine wpQuiet_nil ?_
  intro K hK
  simp only [Region.wanted, if_true]
  have HLd := Lib.hid (HLk.out.keep (w2 := w12.drew) ((Below.refl _ _).drew))
  go_wp2_with (go_at_call 36; refine (QRf.out _ HLd.out.X HLd.out.Y).mono ?_; rintro e w13 ⟨ox, oy, cx, cy, rfl, hr, bel13⟩; have HRr := Lib.hid hr; clear hr)
  have bel13' : Below w12.heap.size w12 w13 := undrew bel13
  refine hK _ _ ⟨⟨w13, bel13'.mono (by omega)⟩, rfl⟩ ?_
  have HL13 := Lib.hid (HLk.out.keep bel13')
  have HE13 := Lib.hid (bel_keep bel13' (lt_of_heap HEk.out) HEk.out)
  clear hK K c1 c2 c3 c4 c5 c6 bel13 bel13' QRf HLd hsk hb1 hb2 HLk HEk
  repeat (any_goals (first | go_big_quiet_step (fail) | quiet_step (fail)))
  refine wpQuiet_nil ?_
  go_upto_region 13 with (go_at_call 33; refine (QTl.out ox oy cx cy w13 HRr.out).mono ?_; rintro e w14 ⟨rfl, bel14⟩; have HL14 := Lib.hid (HL13.out.keep bel14); have HE14 := Lib.hid (bel_keep bel14 (lt_of_heap HE13.out) HE13.out); clear bel14)
  refine wp_abs (fun w' => LawF B C w w' N D P Q a b c d oa ob oc od ca cb cc cd ∧ ∃ s1 s2 : ByteArray, w'.heap[E]? = some (.cells #[.string s1, .string s2] 45 (0, 0))) ⟨HL14.out, _, _, HE14.out⟩ (fun w8 hw8 => ?_)
  have HL8 := Lib.hid hw8.1
  obtain ⟨s1, s2, he8⟩ := hw8.2
  have HE8 := Lib.hid he8
  clear hw8 he8 HL14 HE14 HL13 HE13 HRr QTl HT HS1 HS2
  -- Order
  have hz : (if n = 0 then NL.cmpI (dv N * dv Q) (dv P * dv D) else 0) = cmpI (a * d) (c * b) := by
    by_cases h0 : n = 0
    · obtain ⟨e1, e2, e3, e4⟩ := HG.out h0
      rw [if_pos h0, e1, e2, e3, e4]; rfl
    · obtain ⟨e1, e2, e3, e4⟩ := HBad.out h0
      rw [if_neg h0, e1, e2, e3, e4]; rfl
  rw [hz] at QC
  clear hz
  have QOr := Lib.hid (fun w h1 h2 => refOrder_any a b c d oa ob oc od ca cb cc cd w h1 h2 l1 l2 l3 l4)
  obtain ⟨z, hz⟩ : ∃ z, z = cmpI (a * d) (c * b) := ⟨_, rfl⟩
  rw [← hz] at QC QOr
  have HZ := Lib.hid hz
  clear hz
  go_upto_region 14 with (first
    | (refine wpList_load_whole rfl 45 _ rfl B #[.string ⟨N.toArray⟩, .string ⟨D.toArray⟩] _ _ _ rfl HL8.out.x Tryd.underlying45 rfl HA.out ?_)
    | (refine wpList_load_whole rfl 45 _ rfl (B + 1) #[.string ⟨P.toArray⟩, .string ⟨Q.toArray⟩] _ _ _ rfl HL8.out.y Tryd.underlying45 rfl HA.out ?_)
    | (go_at_call 37; refine (QC.out _).mono ?_; rintro e w9 ⟨rfl, bel9⟩; have HL9 := Lib.hid (HL8.out.keep bel9); have HE9 := Lib.hid (bel_keep bel9 (lt_of_heap HE8.out) HE8.out); clear bel9))
  have c1 := cell_of_row w9 C 0 _ _ _ HL9.out.p
  have c2 := cell_of_row w9 C 1 _ _ _ HL9.out.p
  have c3 := cell_of_row w9 (C + 1) 0 _ _ _ HL9.out.q
  have c4 := cell_of_row w9 (C + 1) 1 _ _ _ HL9.out.q
  go_upto_region 16 with (go_at_call 38; refine (QOr.out w9 HL9.out.X HL9.out.Y).mono ?_; rintro e w10 ⟨rfl, bel10⟩; have HL10 := Lib.hid (HL9.out.keep bel10); have HE10 := Lib.hid (bel_keep bel10 (lt_of_heap HE9.out) HE9.out); clear bel10)
  refine wp_abs (fun w' => LawF B C w w' N D P Q a b c d oa ob oc od ca cb cc cd ∧ w'.heap[E]? = some (.cells #[.string s1, .string s2] 45 (0, 0))) ⟨HL10.out, HE10.out⟩ (fun w8 hw8 => ?_)
  have HL8 := Lib.hid hw8.1
  have HE8 := Lib.hid hw8.2
  clear hw8 HL9 HE9 HL10 HE10 c1 c2 c3 c4 QC
  -- Minus
  obtain ⟨m, hm⟩ : ∃ m, m = wrongMinus N D P Q := ⟨_, rfl⟩
  rw [← hm] at QM
  obtain ⟨S1, hS1⟩ : ∃ S, S = if m = 0 then strD ((dv N * dv Q - dv P * dv D) / Nat.gcd (dv N * dv Q - dv P * dv D) (dv D * dv Q)) else [] := ⟨_, rfl⟩
  obtain ⟨S2, hS2⟩ : ∃ S, S = if m = 0 then strD ((dv D * dv Q) / Nat.gcd (dv N * dv Q - dv P * dv D) (dv D * dv Q)) else [] := ⟨_, rfl⟩
  rw [← hS1, ← hS2] at QM
  have HYes := Lib.hid (show n = 0 ∧ a * d < c * b → m = 4 ∧ S1 = [] ∧ S2 = [] from fun h => by
    obtain ⟨e1, e2, e3, e4⟩ := HG.out h.1
    have hm4 : m = 4 := by
      rw [hm]; unfold wrongMinus
      rw [if_pos (by rw [← HN.out]; exact h.1), if_pos (by first | (rw [← e1, ← e2, ← e3, ← e4]; exact h.2) | (rw [← e3]; exact h.2))]
    exact ⟨hm4, by rw [hS1, hm4]; rfl, by rw [hS2, hm4]; rfl⟩)
  have HNo := Lib.hid (show ¬ (n = 0 ∧ a * d < c * b) → m = n ∧ ToldOk n S1 S2 ((a * d - c * b) / Nat.gcd (a * d - c * b) (b * d)) ((b * d) / Nat.gcd (a * d - c * b) (b * d)) from fun h => by
    have hmn : m = n := by
      rw [hm]; unfold wrongMinus
      by_cases h0 : n = 0
      · obtain ⟨e1, e2, e3, e4⟩ := HG.out h0
        rw [if_pos (by rw [← HN.out]; exact h0), if_neg (by first | (rw [← e1, ← e2, ← e3, ← e4]; exact fun k => h ⟨h0, k⟩) | (rw [← e3]; exact fun k => h ⟨h0, k⟩)), h0]
      · rw [if_neg (by rw [← HN.out]; exact h0), ← HN.out]
    refine ⟨hmn, ?_⟩
    rw [hS1, hS2, hmn]
    exact told_yes (fun h => by obtain ⟨e1, e2, e3, e4⟩ := HG.out h; rw [e1, e2, e3, e4]; exact ⟨rfl, rfl⟩))
  clear hS1 hS2 hm
  go_upto_region 17 with (first
    | (refine wpList_load_whole rfl 45 _ rfl B #[.string ⟨N.toArray⟩, .string ⟨D.toArray⟩] _ _ _ rfl HL8.out.x Tryd.underlying45 rfl HA.out ?_)
    | (refine wpList_load_whole rfl 45 _ rfl (B + 1) #[.string ⟨P.toArray⟩, .string ⟨Q.toArray⟩] _ _ _ rfl HL8.out.y Tryd.underlying45 rfl HA.out ?_)
    | (go_at_call 39; refine (QM.out _).mono ?_; rintro e w9 ⟨rfl, bel9⟩; have HL9 := Lib.hid (HL8.out.keep bel9); have HE9 := Lib.hid (bel_keep bel9 (lt_of_heap HE8.out) HE8.out); clear bel9)
    | (refine wpList_store_whole rfl rfl 45 _ _ rfl E #[.string s1, .string s2] #[.string ⟨S1.toArray⟩, .string ⟨S2.toArray⟩] 45 rfl rfl HE9.out rfl HA.out (two_strings _ _) ?_; intro w10 ho hp; have HO10 := Lib.hid ho; have HP10 := Lib.hid hp; clear ho hp))
  have L10 := HL9.out.other (E := E) hE9 HE9.out (two_noInt' _ _) HO10.out
  refine wp_abs (fun w' => LawF B C w w' N D P Q a b c d oa ob oc od ca cb cc cd ∧ w'.heap[E]? = some (.cells #[.string ⟨S1.toArray⟩, .string ⟨S2.toArray⟩] 45 (0, 0))) ⟨L10, HP10.out⟩ (fun w12 hw12 => ?_)
  have HLk := Lib.hid hw12.1
  have HEk := Lib.hid hw12.2
  clear hw12 L10 HO10 HP10 HL9 HE9 HL8 HE8 QM
  have c1 := cell_of_row w12 C 0 _ _ _ HLk.out.p
  have c2 := cell_of_row w12 C 1 _ _ _ HLk.out.p
  have c3 := cell_of_row w12 (C + 1) 0 _ _ _ HLk.out.q
  have c4 := cell_of_row w12 (C + 1) 1 _ _ _ HLk.out.q
  go_cut [88] (fun v w' => v = .bool (decide (n = 0 ∧ a * d < c * b)) ∧ LawF B C w w' N D P Q a b c d oa ob oc od ca cb cc cd ∧ w'.heap[E]? = some (.cells #[.string ⟨S1.toArray⟩, .string ⟨S2.toArray⟩] 45 (0, 0)))
  case first =>
    by_cases h0 : n = 0
    · have e0 : ((n : Int) == 0) = true := by rw [beq_iff_eq]; omega
      by_cases hlt : a * d < c * b
      · have hzn : z = -1 := by rw [HZ.out]; exact cmpI_lt hlt
        have hb := Lib.hid (show decide (n = 0 ∧ a * d < c * b) = true by simp; exact ⟨h0, hlt⟩)
        subst hzn
        clear h0 hlt
        go_wp2_with (go_at_call 38; refine (QOr.out w12 HLk.out.X HLk.out.Y).mono ?_; rintro e w13 ⟨rfl, bel13⟩; have HL13 := Lib.hid (HLk.out.keep bel13); have HE13 := Lib.hid (bel_keep bel13 (lt_of_heap HEk.out) HEk.out); clear bel13)
        go_meet
        exact ⟨by rw [hb.out], HL13.out, HE13.out⟩
      · have hzn : ¬ z < 0 := by rw [HZ.out]; unfold cmpI; rw [if_neg hlt]; split <;> omega
        have hb := Lib.hid (show decide (n = 0 ∧ a * d < c * b) = false by simp; intro _; omega)
        clear h0 hlt
        go_wp2_with (go_at_call 38; refine (QOr.out w12 HLk.out.X HLk.out.Y).mono ?_; rintro e w13 ⟨rfl, bel13⟩; have HL13 := Lib.hid (HLk.out.keep bel13); have HE13 := Lib.hid (bel_keep bel13 (lt_of_heap HEk.out) HEk.out); clear bel13)
        go_meet
        exact ⟨by rw [hb.out]; first | rfl | (simp; omega), HL13.out, HE13.out⟩
    · have e0 : ((n : Int) == 0) = false := by rw [beq_eq_false_iff_ne]; omega
      have hb := Lib.hid (show decide (n = 0 ∧ a * d < c * b) = false by simp; intro h; exact absurd h h0)
      clear h0
      go_wp2_with fail
      go_meet
      exact ⟨by rw [hb.out], HLk.out, HEk.out⟩
  case rest =>
  clear c1 c2 c3 c4 HLk HEk
  obtain ⟨rfl, L12, E12⟩ := hcut
  have HLk := Lib.hid L12
  have HEk := Lib.hid E12
  clear L12 E12
  go_upto_if 88 with (fail)
  go_cut [] (fun w' => LawF B C w w' N D P Q a b c d oa ob oc od ca cb cc cd ∧ ∃ s1 s2 : ByteArray, w'.heap[E]? = some (.cells #[.string s1, .string s2] 45 (0, 0)))
  case first =>
    by_cases hs : n = 0 ∧ a * d < c * b
    · obtain ⟨rfl, rfl, rfl⟩ := HYes.out hs
      have hb : decide (n = 0 ∧ a * d < c * b) = true := by simp; exact hs
      rw [hb]
      have QTl := Lib.hid (fun w h => lawTold_any [] [] 4 4 a b oa ob ca cb w (.inr ⟨by decide, rfl, rfl, rfl⟩) h (by omega) (by omega))
      clear hb hs
      go_wp2_with (first
        | (refine wpList_load_whole rfl 45 _ rfl E #[.string ⟨#[]⟩, .string ⟨#[]⟩] _ _ _ rfl HEk.out Tryd.underlying45 rfl HA.out ?_)
        | (refine wpList_load_whole rfl 47 _ rfl C #[.slice oa (dig a).length ca, .slice ob (dig b).length cb] _ _ _ rfl HLk.out.p Tryd.underlying47 rfl HR.out ?_)
        | (go_at_call 33; refine (QTl.out wc HLk.out.X).mono ?_; rintro e w14 ⟨rfl, bel14⟩; have HL14 := Lib.hid (HLk.out.keep bel14); have HE14 := Lib.hid (bel_keep bel14 (lt_of_heap HEk.out) HEk.out); clear bel14))
      go_meet
      exact ⟨HL14.out, _, _, HE14.out⟩
    · obtain ⟨rfl, ht⟩ := HNo.out hs
      have HT := Lib.hid ht
      have hb : decide (m = 0 ∧ a * d < c * b) = false := by simpa using hs
      have hle : c * b ≤ a * d := by
        by_cases h0 : m = 0
        · rcases Nat.lt_or_ge (a * d) (c * b) with h | h
          · exact absurd ⟨h0, h⟩ hs
          · exact h
        · obtain ⟨e1, e2, e3, e4⟩ := HBad.out h0
          rw [e1, e2, e3, e4]
          exact Nat.le_refl _
      rw [hb]
      clear hb hs ht
      go_upto_region 20 with (fail)
      have t1 : (dig ((a * d - c * b) / Nat.gcd (a * d - c * b) (b * d))).length < 1099511627776 := Nat.lt_of_le_of_lt (((Ba.out.mul Bd.out).mono (Nat.sub_le _ _)).div _).digs (by decide)
      have t2 : (dig ((b * d) / Nat.gcd (a * d - c * b) (b * d))).length < 1099511627776 := Nat.lt_of_le_of_lt ((Bb.out.mul Bd.out).div _).digs (by decide)
      have QRf := Lib.hid (fun w h1 h2 => refMinus_any a b c d oa ob oc od ca cb cc cd w h1 h2 (Nat.mul_pos Hb0.out Hd0.out) hle l1 l2 l3 l4)
      have QTl := Lib.hid (fun ox oy cx cy w h => lawTold_any S1 S2 m m ((a * d - c * b) / Nat.gcd (a * d - c * b) (b * d)) ((b * d) / Nat.gcd (a * d - c * b) (b * d)) ox oy cx cy w HT.out h t1 t2)
      generalize (a * d - c * b) / Nat.gcd (a * d - c * b) (b * d) = NN at *
      generalize (b * d) / Nat.gcd (a * d - c * b) (b * d) = DD at *
      clear t1 t2
      have c1 := cell_of_row wc C 0 _ _ _ HLk.out.p
      have c2 := cell_of_row wc C 1 _ _ _ HLk.out.p
      have c3 := cell_of_row wc (C + 1) 0 _ _ _ HLk.out.q
      have c4 := cell_of_row wc (C + 1) 1 _ _ _ HLk.out.q
      have c5 := cell_of_row wc E 0 _ _ _ HEk.out
      have c6 := cell_of_row wc E 1 _ _ _ HEk.out
      have hsk := lt_of_heap HEk.out
      have hb1 : C < E + 1 := by omega
      have hb2 : C + 1 < E + 1 := by omega
      refine Seg.wp_region_segs (fun w' => ∃ x : BelowT (E + 1) wc, w' = x.w) [([0, 1, 2, 3, 4], 5)] [] 6 (by kernel_rfl) (by kernel_rfl) (fun _ _ d _ _ h => by cases d <;> exact h) (⟨⟨_, (Below.refl _ _).drew⟩, rfl⟩) ?_
      simp only [List.map_cons, List.map_nil, Seg.opAt, List.drop_succ_cons, List.drop_zero, Seg.wpSegs, Array.getD_eq_getD_getElem?, List.getElem?_toArray, List.getElem?_cons_succ, List.getElem?_cons_zero, Option.getD_some]
      repeat (any_goals (first | go_big_quiet_step (fail) | quiet_step (fail)))
      refine wpQuiet_nil ?_
      intro K hK
      simp only [Region.wanted, if_true]
      have HLd := Lib.hid (HLk.out.keep (w2 := wc.drew) ((Below.refl _ _).drew))
      go_wp2_with (go_at_call 40; refine (QRf.out _ HLd.out.X HLd.out.Y).mono ?_; rintro e w13 ⟨ox, oy, cx, cy, rfl, hr, bel13⟩; have HRr := Lib.hid hr; clear hr)
      have bel13' : Below wc.heap.size wc w13 := undrew bel13
      refine hK _ _ ⟨⟨w13, bel13'.mono (by omega)⟩, rfl⟩ ?_
      have HL13 := Lib.hid (HLk.out.keep bel13')
      have HE13 := Lib.hid (bel_keep bel13' (lt_of_heap HEk.out) HEk.out)
      clear hK K c1 c2 c3 c4 c5 c6 bel13 bel13' QRf HLd hsk hb1 hb2
      repeat (any_goals (first | go_big_quiet_step (fail) | quiet_step (fail)))
      refine wpQuiet_nil ?_
      go_wp2_with (go_at_call 33; refine (QTl.out ox oy cx cy w13 HRr.out).mono ?_; rintro e w14 ⟨rfl, bel14⟩; have HL14 := Lib.hid (HL13.out.keep bel14); have HE14 := Lib.hid (bel_keep bel14 (lt_of_heap HE13.out) HE13.out); clear bel14)
      go_meet
      exact ⟨HL14.out, _, _, HE14.out⟩
  case rest =>
  obtain ⟨L8, s3, s4, E8⟩ := hcut
  have HL8 := Lib.hid L8
  have HE8 := Lib.hid E8
  clear L8 E8 HLk HEk HYes HNo QOr HZ
  -- Over
  obtain ⟨m2, hm⟩ : ∃ m2, m2 = wrongOver N D P Q := ⟨_, rfl⟩
  rw [← hm] at QO
  obtain ⟨S3, hS1⟩ : ∃ S, S = if m2 = 0 then strD ((dv N * dv Q) / Nat.gcd (dv N * dv Q) (dv D * dv P)) else [] := ⟨_, rfl⟩
  obtain ⟨S4, hS2⟩ : ∃ S, S = if m2 = 0 then strD ((dv D * dv P) / Nat.gcd (dv N * dv Q) (dv D * dv P)) else [] := ⟨_, rfl⟩
  rw [← hS1, ← hS2] at QO
  have HYes := Lib.hid (show n = 0 ∧ c = 0 → m2 = 5 ∧ S3 = [] ∧ S4 = [] from fun h => by
    obtain ⟨e1, e2, e3, e4⟩ := HG.out h.1
    have hm4 : m2 = 5 := by
      rw [hm]; unfold wrongOver
      rw [if_pos (by rw [← HN.out]; exact h.1), if_pos (by first | (rw [← e1, ← e2, ← e3, ← e4]; exact h.2) | (rw [← e3]; exact h.2))]
    exact ⟨hm4, by rw [hS1, hm4]; rfl, by rw [hS2, hm4]; rfl⟩)
  have HNo := Lib.hid (show ¬ (n = 0 ∧ c = 0) → m2 = n ∧ ToldOk n S3 S4 ((a * d) / Nat.gcd (a * d) (b * c)) ((b * c) / Nat.gcd (a * d) (b * c)) from fun h => by
    have hmn : m2 = n := by
      rw [hm]; unfold wrongOver
      by_cases h0 : n = 0
      · obtain ⟨e1, e2, e3, e4⟩ := HG.out h0
        rw [if_pos (by rw [← HN.out]; exact h0), if_neg (by first | (rw [← e1, ← e2, ← e3, ← e4]; exact fun k => h ⟨h0, k⟩) | (rw [← e3]; exact fun k => h ⟨h0, k⟩)), h0]
      · rw [if_neg (by rw [← HN.out]; exact h0), ← HN.out]
    refine ⟨hmn, ?_⟩
    rw [hS1, hS2, hmn]
    exact told_yes (fun h => by obtain ⟨e1, e2, e3, e4⟩ := HG.out h; rw [e1, e2, e3, e4]; exact ⟨rfl, rfl⟩))
  clear hS1 hS2 hm
  go_upto_region 23 with (first
    | (refine wpList_load_whole rfl 45 _ rfl B #[.string ⟨N.toArray⟩, .string ⟨D.toArray⟩] _ _ _ rfl HL8.out.x Tryd.underlying45 rfl HA.out ?_)
    | (refine wpList_load_whole rfl 45 _ rfl (B + 1) #[.string ⟨P.toArray⟩, .string ⟨Q.toArray⟩] _ _ _ rfl HL8.out.y Tryd.underlying45 rfl HA.out ?_)
    | (go_at_call 41; refine (QO.out _).mono ?_; rintro e w9 ⟨rfl, bel9⟩; have HL9 := Lib.hid (HL8.out.keep bel9); have HE9 := Lib.hid (bel_keep bel9 (lt_of_heap HE8.out) HE8.out); clear bel9)
    | (refine wpList_store_whole rfl rfl 45 _ _ rfl E #[.string s3, .string s4] #[.string ⟨S3.toArray⟩, .string ⟨S4.toArray⟩] 45 rfl rfl HE9.out rfl HA.out (two_strings _ _) ?_; intro w10 ho hp; have HO10 := Lib.hid ho; have HP10 := Lib.hid hp; clear ho hp))
  have L10 := HL9.out.other (E := E) hE9 HE9.out (two_noInt' _ _) HO10.out
  refine wp_abs (fun w' => LawF B C w w' N D P Q a b c d oa ob oc od ca cb cc cd ∧ w'.heap[E]? = some (.cells #[.string ⟨S3.toArray⟩, .string ⟨S4.toArray⟩] 45 (0, 0))) ⟨L10, HP10.out⟩ (fun w15 hw12 => ?_)
  have HLk := Lib.hid hw12.1
  have HEk := Lib.hid hw12.2
  clear hw12 L10 HO10 HP10 HL9 HE9 HL8 HE8 QO
  have c3 := cell_of_row w15 (C + 1) 0 _ _ _ HLk.out.q
  by_cases hs : n = 0 ∧ c = 0
  · obtain ⟨rfl, rfl, rfl⟩ := HYes.out hs
    have e0 : ((n : Int) == 0) = true := by rw [beq_iff_eq]; omega
    have hl0 : (((dig c).length : Int) == 0) = true := by rw [hs.2, dig_zero]; rfl
    have QTl := Lib.hid (fun w h => lawTold_any [] [] 5 5 a b oa ob ca cb w (.inr ⟨by decide, rfl, rfl, rfl⟩) h (by omega) (by omega))
    clear hs
    go_upto_region 24 with (fail)
    go_wp2_with (first
      | (refine wpList_load_whole rfl 45 _ rfl E #[.string ⟨#[]⟩, .string ⟨#[]⟩] _ _ _ rfl HEk.out Tryd.underlying45 rfl HA.out ?_)
      | (refine wpList_load_whole rfl 47 _ rfl C #[.slice oa (dig a).length ca, .slice ob (dig b).length cb] _ _ _ rfl HLk.out.p Tryd.underlying47 rfl HR.out ?_)
      | (go_at_call 33; refine (QTl.out w15 HLk.out.X).mono ?_; rintro e w16 ⟨rfl, bel16⟩; have HL16 := Lib.hid (HLk.out.keep bel16); clear bel16))
    go_ret
    exact ⟨rfl, by rw [HB.out]; exact HL16.out.bel⟩
  · obtain ⟨rfl, ht⟩ := HNo.out hs
    have HT := Lib.hid ht
    have hc0 : 0 < c := by
      by_cases h0 : m2 = 0
      · rcases Nat.eq_zero_or_pos c with h | h
        · exact absurd ⟨h0, h⟩ hs
        · exact h
      · obtain ⟨e1, e2, e3, e4⟩ := HBad.out h0
        omega
    have hl0 : (((dig c).length : Int) == 0) = false := by
      rw [beq_eq_false_iff_ne]
      intro h
      have h1 : (dig c).length = 0 := by omega
      have := lt_pow_length c
      rw [h1] at this
      omega
    have Hc0 := Lib.hid hc0
    clear hs ht hc0
    obtain ⟨S1, rfl⟩ : ∃ S, S = S3 := ⟨_, rfl⟩
    obtain ⟨S2, rfl⟩ : ∃ S, S = S4 := ⟨_, rfl⟩
    by_cases h0 : m2 = 0
    · have e0 : ((m2 : Int) == 0) = true := by rw [beq_iff_eq]; omega
      clear h0
      go_upto_region 25 with (fail)
      clear hl0 e0 c3
      have t1 : (dig ((a * d) / Nat.gcd (a * d) (b * c))).length < 1099511627776 := Nat.lt_of_le_of_lt ((Ba.out.mul Bd.out).div _).digs (by decide)
      have t2 : (dig ((b * c) / Nat.gcd (a * d) (b * c))).length < 1099511627776 := Nat.lt_of_le_of_lt ((Bb.out.mul Bc.out).div _).digs (by decide)
      have QRf := Lib.hid (fun w h1 h2 => refOver_any a b c d oa ob oc od ca cb cc cd w h1 h2 (Nat.mul_pos Hb0.out Hc0.out) l1 l2 l3 l4)
      have QTl := Lib.hid (fun ox oy cx cy w h => lawTold_any S1 S2 m2 m2 ((a * d) / Nat.gcd (a * d) (b * c)) ((b * c) / Nat.gcd (a * d) (b * c)) ox oy cx cy w HT.out h t1 t2)
      generalize (a * d) / Nat.gcd (a * d) (b * c) = NN at *
      generalize (b * c) / Nat.gcd (a * d) (b * c) = DD at *
      clear t1 t2
      have c1 := cell_of_row w15 C 0 _ _ _ HLk.out.p
      have c2 := cell_of_row w15 C 1 _ _ _ HLk.out.p
      have c3 := cell_of_row w15 (C + 1) 0 _ _ _ HLk.out.q
      have c4 := cell_of_row w15 (C + 1) 1 _ _ _ HLk.out.q
      have c5 := cell_of_row w15 E 0 _ _ _ HEk.out
      have c6 := cell_of_row w15 E 1 _ _ _ HEk.out
      have hsk := lt_of_heap HEk.out
      have hb1 : C < E + 1 := by omega
      have hb2 : C + 1 < E + 1 := by omega
      refine Seg.wp_region_segs (fun w' => ∃ x : BelowT (E + 1) w15, w' = x.w) [([0, 1, 2, 3, 4], 5)] [] 6 (by kernel_rfl) (by kernel_rfl) (fun _ _ d _ _ h => by cases d <;> exact h) (⟨⟨_, (Below.refl _ _).drew⟩, rfl⟩) ?_
      simp only [List.map_cons, List.map_nil, Seg.opAt, List.drop_succ_cons, List.drop_zero, Seg.wpSegs, Array.getD_eq_getD_getElem?, List.getElem?_toArray, List.getElem?_cons_succ, List.getElem?_cons_zero, Option.getD_some]
      repeat (any_goals (first | go_big_quiet_step (fail) | quiet_step (fail)))
      refine wpQuiet_nil ?_
      intro K hK
      simp only [Region.wanted, if_true]
      have HLd := Lib.hid (HLk.out.keep (w2 := w15.drew) ((Below.refl _ _).drew))
      go_wp2_with (go_at_call 42; refine (QRf.out _ HLd.out.X HLd.out.Y).mono ?_; rintro e w13 ⟨ox, oy, cx, cy, rfl, hr, bel13⟩; have HRr := Lib.hid hr; clear hr)
      have bel13' : Below w15.heap.size w15 w13 := undrew bel13
      refine hK _ _ ⟨⟨w13, bel13'.mono (by omega)⟩, rfl⟩ ?_
      have HL13 := Lib.hid (HLk.out.keep bel13')
      have HE13 := Lib.hid (bel_keep bel13' (lt_of_heap HEk.out) HEk.out)
      clear hK K c1 c2 c3 c4 c5 c6 bel13 bel13' QRf HLd hsk hb1 hb2 HLk HEk
      repeat (any_goals (first | go_big_quiet_step (fail) | quiet_step (fail)))
      refine wpQuiet_nil ?_
      go_wp2_with (go_at_call 33; refine (QTl.out ox oy cx cy w13 HRr.out).mono ?_; rintro e w14 ⟨rfl, bel14⟩; have HL14 := Lib.hid (HL13.out.keep bel14); have HE14 := Lib.hid (bel_keep bel14 (lt_of_heap HE13.out) HE13.out); clear bel14)
      go_ret
      exact ⟨rfl, by rw [HB.out]; exact HL14.out.bel⟩
    · have e0 : ((m2 : Int) == 0) = false := by rw [beq_eq_false_iff_ne]; omega
      clear h0
      go_upto_region 25 with (fail)
      clear hl0 e0 c3
      have t1 : (dig ((a * d) / Nat.gcd (a * d) (b * c))).length < 1099511627776 := Nat.lt_of_le_of_lt ((Ba.out.mul Bd.out).div _).digs (by decide)
      have t2 : (dig ((b * c) / Nat.gcd (a * d) (b * c))).length < 1099511627776 := Nat.lt_of_le_of_lt ((Bb.out.mul Bc.out).div _).digs (by decide)
      have QRf := Lib.hid (fun w h1 h2 => refOver_any a b c d oa ob oc od ca cb cc cd w h1 h2 (Nat.mul_pos Hb0.out Hc0.out) l1 l2 l3 l4)
      have QTl := Lib.hid (fun ox oy cx cy w h => lawTold_any S1 S2 m2 m2 ((a * d) / Nat.gcd (a * d) (b * c)) ((b * c) / Nat.gcd (a * d) (b * c)) ox oy cx cy w HT.out h t1 t2)
      generalize (a * d) / Nat.gcd (a * d) (b * c) = NN at *
      generalize (b * c) / Nat.gcd (a * d) (b * c) = DD at *
      clear t1 t2
      have c1 := cell_of_row w15 C 0 _ _ _ HLk.out.p
      have c2 := cell_of_row w15 C 1 _ _ _ HLk.out.p
      have c3 := cell_of_row w15 (C + 1) 0 _ _ _ HLk.out.q
      have c4 := cell_of_row w15 (C + 1) 1 _ _ _ HLk.out.q
      have c5 := cell_of_row w15 E 0 _ _ _ HEk.out
      have c6 := cell_of_row w15 E 1 _ _ _ HEk.out
      have hsk := lt_of_heap HEk.out
      have hb1 : C < E + 1 := by omega
      have hb2 : C + 1 < E + 1 := by omega
      refine Seg.wp_region_segs (fun w' => ∃ x : BelowT (E + 1) w15, w' = x.w) [([0, 1, 2, 3, 4], 5)] [] 6 (by kernel_rfl) (by kernel_rfl) (fun _ _ d _ _ h => by cases d <;> exact h) (⟨⟨_, (Below.refl _ _).drew⟩, rfl⟩) ?_
      simp only [List.map_cons, List.map_nil, Seg.opAt, List.drop_succ_cons, List.drop_zero, Seg.wpSegs, Array.getD_eq_getD_getElem?, List.getElem?_toArray, List.getElem?_cons_succ, List.getElem?_cons_zero, Option.getD_some]
      repeat (any_goals (first | go_big_quiet_step (fail) | quiet_step (fail)))
      refine wpQuiet_nil ?_
      intro K hK
      simp only [Region.wanted, if_true]
      have HLd := Lib.hid (HLk.out.keep (w2 := w15.drew) ((Below.refl _ _).drew))
      go_wp2_with (go_at_call 42; refine (QRf.out _ HLd.out.X HLd.out.Y).mono ?_; rintro e w13 ⟨ox, oy, cx, cy, rfl, hr, bel13⟩; have HRr := Lib.hid hr; clear hr)
      have bel13' : Below w15.heap.size w15 w13 := undrew bel13
      refine hK _ _ ⟨⟨w13, bel13'.mono (by omega)⟩, rfl⟩ ?_
      have HL13 := Lib.hid (HLk.out.keep bel13')
      have HE13 := Lib.hid (bel_keep bel13' (lt_of_heap HEk.out) HEk.out)
      clear hK K c1 c2 c3 c4 c5 c6 bel13 bel13' QRf HLd hsk hb1 hb2 HLk HEk
      repeat (any_goals (first | go_big_quiet_step (fail) | quiet_step (fail)))
      refine wpQuiet_nil ?_
      go_wp2_with (go_at_call 33; refine (QTl.out ox oy cx cy w13 HRr.out).mono ?_; rintro e w14 ⟨rfl, bel14⟩; have HL14 := Lib.hid (HL13.out.keep bel14); have HE14 := Lib.hid (bel_keep bel14 (lt_of_heap HE13.out) HE13.out); clear bel14)
      go_ret
      exact ⟨rfl, by rw [HB.out]; exact HL14.out.bel⟩
end Go.Proofs.YtkkpfoidppjbdaaDoor
