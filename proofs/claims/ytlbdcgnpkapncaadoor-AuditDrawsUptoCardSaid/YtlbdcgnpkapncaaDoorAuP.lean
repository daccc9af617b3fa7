/-
  Chapter 14, for Draw: the reference's Done.
-/
import Derived.Test.YtlbdcgnpkapncaaDoorAuO
import Derived.Test.YtlbdcgnpkapncaaDoorAuB
namespace Go.Proofs.YtlbdcgnpkapncaaDoor
set_option linter.unusedVariables false
set_option linter.unusedSimpArgs false
open Go.RowKit ML FM ND AU
theorem wpList_load_at {P : Program} {ops : Array Oper} {rest : List Oper} {op : Oper} {a : Act} {w : World} {Q : Exit → Act → World → Prop} (hgd : op.guard = none) (ty : TypeId) (x : Operand) (ho : op.op = .load ty x)
    (p : Addr) (hx : a.eval x = .pointer (some p)) (cs : List Value) (d : TypeDesc) (hc : ∀ j v, cs[j]? = some v → w.cell? (p.add j) = some v)
    (hu : P.underlying ty = some d) (hd : d.isRow = true) (hi : (P.info? ty).map (·.size) = some cs.length)
    (h : wpList P ops Q rest (a.put op.dst (.agg cs.toArray)) w) : wpList P ops Q (op :: rest) a w := by
  refine wpList_plain hgd fun K hK => ?_
  have hl : (loadCells p cs.length).run P w = .ok cs.toArray w := run_loadCells_list (P := P) w p cs hc
  cases hq : P.info? ty with
  | none => simp [hq] at hi
  | some i =>
    have hs : i.size = cs.length := by simpa [hq] using hi
    have hagg : (isAgg ty).run P w = .ok true w := by
      unfold isAgg
      rw [Sem.run_bind, run_underlying hu w]
      cases d <;> simp_all
    have hrun : (loadVar ty p).run P w = .ok (.agg cs.toArray) w := by simp [loadVar, Sem.run_bind, hagg, sizeOf, typeInfo, hq, hs, hl]
    unfold Oper.wp execOp
    simp only [ho, hx, Instr.loadAt, Instr.sureAddr, Sem.run_bind, Sem.run_pure, Result.andThen_ok, hrun]
    exact hK _ _ h

set_option maxHeartbeats 2000000 in
set_option maxRecDepth 100000 in
theorem refDone_any (O : List (Bytes × Bytes)) (i : Nat) (hi : i < O.length) (N D : Bytes) (v0 v1 v2 dr : Value) (q : Addr) (c3 : Nat) (w : World) (hO : FsAt w (some q) O) (hlo : O.length < 9223372036854775808) (hr : frB 100 N D = true) (ho : frB 0 O[i].1 O[i].2 = true) (l1 : O[i].1.length < 100000000) (l2 : O[i].2.length < 100000000) :
    Calls Tryd.prog 41 #[.agg #[v0, v1, v2, .slice (some q) O.length c3, .string ⟨N.toArray⟩, .string ⟨D.toArray⟩, dr], .int .i64 (i : Int)] w fun e w' => e = .returned (.bool (decide (tD (dv O[i].1) (dv O[i].2) (dv N) (dv D) ≤ tN (dv O[i].1) (dv O[i].2) (dv N) (dv D)))) ∧ Below w.heap.size w w' := by
  obtain ⟨A, hA⟩ : ∃ A, A = O[i].1 := ⟨_, rfl⟩
  obtain ⟨B', hB'⟩ : ∃ B', B' = O[i].2 := ⟨_, rfl⟩
  have hcl := Lib.hid (fun (w : World) (h : FsAt w (some q) O) => h.cells i hi)
  have hfc := Lib.hid (show fcell O[i] = [.string ⟨A.toArray⟩, .string ⟨B'.toArray⟩] by rw [hA, hB']; rfl)
  rw [← hA, ← hB'] at ho
  rw [← hA] at l1
  rw [← hB'] at l2
  rw [← hA, ← hB']
  have hNl := frB_len hr
  have QR := Lib.hid (fun w => refRisk_any N D w (by omega) (by omega))
  have QF := Lib.hid (fun w => refFrac_any 0 A B' w (by omega) (by omega) (.inl (by omega)))
  unfold RRGot at QR
  unfold RFGot at QF
  obtain ⟨n1, n2, hd0, _, _⟩ := frB_good hr
  obtain ⟨m1, m2, hb0, _, _⟩ := frB_good ho
  have e1 : (dig (dv N)).length ≤ 100 := Nat.le_trans (dig_text N ((numB_iff N).1 n1).2.1) hNl.1
  have e2 : (dig (dv D)).length ≤ 100 := Nat.le_trans (dig_text D ((numB_iff D).1 n2).2.1) hNl.2
  have e3 := dig_text A ((numB_iff A).1 m1).2.1
  have e4 := dig_text B' ((numB_iff B').1 m2).2.1
  have HR := Lib.hid hr
  have HO' := Lib.hid ho
  have d1 : (dig 1).length ≤ 1 := length_dig_le 1 1 (by decide)
  have QW := Lib.hid (fun w => refWhole_any 1 w (by decide))
  have QT := Lib.hid (fun oa ob oc od ca cb cc cd w h1 h2 => refTimes_any (dv A) (dv B') (dv N) (dv D) oa ob oc od ca cb cc cd w h1 h2 (Nat.mul_pos hb0 hd0) (by omega) (by omega) (by omega) (by omega))
  have ht1 : (dig (tN (dv A) (dv B') (dv N) (dv D))).length < 274877906944 := Nat.lt_of_le_of_lt (length_dig_le _ _ (Nat.lt_of_le_of_lt (Nat.div_le_self _ _) (lt_pow_length _))) (Nat.lt_of_le_of_lt (ND.length_mul _ _) (by omega))
  have ht2 : (dig (tD (dv A) (dv B') (dv N) (dv D))).length < 274877906944 := Nat.lt_of_le_of_lt (length_dig_le _ _ (Nat.lt_of_le_of_lt (Nat.div_le_self _ _) (lt_pow_length _))) (Nat.lt_of_le_of_lt (ND.length_mul _ _) (by omega))
  change Hid (∀ oa ob oc od ca cb cc cd w _ _, Calls _ _ _ w (fun e w' => ∃ on om cn cm, e = .returned (.agg #[.slice on (dig (tN (dv A) (dv B') (dv N) (dv D))).length cn, .slice om (dig (tD (dv A) (dv B') (dv N) (dv D))).length cm]) ∧ NFr w' (tN (dv A) (dv B') (dv N) (dv D)) (tD (dv A) (dv B') (dv N) (dv D)) on om ∧ Below w.heap.size w w')) at QT
  generalize tN (dv A) (dv B') (dv N) (dv D) = PN at *
  generalize tD (dv A) (dv B') (dv N) (dv D) = PD at *
  have QO := Lib.hid (fun oa ob oc od ca cb cc cd w h1 h2 => refOrder_any PN PD 1 1 oa ob oc od ca cb cc cd w h1 h2 ht1 ht2 (by omega) (by omega))
  simp only [Nat.mul_one, Nat.one_mul] at QO
  obtain ⟨k, hk⟩ : ∃ k, k = ND.cmpI PN PD := ⟨_, rfl⟩
  obtain ⟨r, hr'⟩ : ∃ r, r = decide (PD ≤ PN) := ⟨_, rfl⟩
  have hkr : decide (0 ≤ k) = r := by
    rw [hk, hr']
    rcases Nat.lt_trichotomy PN PD with h | h | h
    · rw [ND.cmpI_lt h, decide_eq_false (Nat.not_le.2 h)]; rfl
    · rw [h, ND.cmpI_eq, decide_eq_true (Nat.le_refl _)]; rfl
    · rw [ND.cmpI_gt h, decide_eq_true (Nat.le_of_lt h)]; rfl
  rw [← hk] at QO
  rw [← hr']
  have HS := Lib.hid size_nfr
  have HOO := Lib.hid hO
  have hii : (i : Int) < (O.length : Int) := by omega
  have dii : decide ((i : Int) < (O.length : Int)) = true := decide_eq_true hii
  have dii2 : decide (i < O.length) = true := decide_eq_true hi
  clear hk hr' ht1 ht2 d1 e1 e2 e3 e4 hb0 hd0 hr ho l1 l2 hNl n1 n2 m1 m2 hO hA hB'
  go_enter Tryd.func41, Tryd.ntmps41
  go_upto_region 1 with (fail)
  generalize hB : w.heap.size = B at *
  refine wp_abs (fun w1 => Below B w w1 ∧ w1.heap[B]? = some (.cells #[v0, v1, v2, .slice (some q) O.length c3, .string ⟨N.toArray⟩, .string ⟨D.toArray⟩, dr] 27 (0, 0))) ⟨by rw [← hB]; exact (Below.refl _ _).alloc (Nat.le_refl _) _, by rw [← hB]; exact heap_at rfl⟩ (fun w1 hw1 => ?_)
  have HB := Lib.hid hB
  have B1 := Lib.hid hw1.1
  have HC1 := Lib.hid hw1.2
  have b4 : w1.cell? ⟨B, 4, none⟩ = some (.string ⟨N.toArray⟩) := cell_of_row w1 B 4 _ _ _ hw1.2
  have b5 : w1.cell? ⟨B, 5, none⟩ = some (.string ⟨D.toArray⟩) := cell_of_row w1 B 5 _ _ _ hw1.2
  have hb1 : B < w1.heap.size := lt_of_heap hw1.2
  clear hw1 hB
  go_upto_region 2 with (first
    | (go_at_call 30; refine (QR.out w1).mono ?_; rintro e w2 ⟨on, nn, cn, od, nd, cd, rfl, hg, b2⟩)
    | (refine wpList_store_whole rfl rfl 63 _ _ rfl w2.heap.size #[.slice none 0 0, .slice none 0 0] #[.slice on nn cn, .slice od nd cd] 63 rfl rfl (heap_at rfl) rfl HS.out (two_slices _ _ _ _ _ _) ?_; intro w3 ho hp))
  have b23 : Below w2.heap.size w2 w3 := bel_only ((Below.refl _ _).alloc (Nat.le_refl _) _) ho (Nat.le_refl _)
  have b13 := b2.trans (b23.mono b2.size)
  obtain ⟨rfl, rfl, hF⟩ := hg HR.out
  have HF3 := Lib.hid (hF.below b23)
  have HP3 := Lib.hid hp
  have B3 := Lib.hid (B1.out.trans (b13.mono (Nat.le_of_lt hb1)))
  have HC3 := Lib.hid (bel_keep b13 hb1 HC1.out)
  have b3 : w3.cell? ⟨B, 3, none⟩ = some (.slice (some q) O.length c3) := cell_of_row w3 B 3 _ _ _ HC3.out
  have hB3 : B < w3.heap.size := lt_of_heap HC3.out
  obtain ⟨q', hq', hqb, hqc⟩ := hcl.out w3 (HOO.out.below (HB.out ▸ B3.out))
  obtain rfl : q = q' := by injection hq'
  rw [hfc.out] at hqc
  have HQC := Lib.hid hqc
  clear hg hF b2 b23 b13 ho hp B1 HC1 b4 b5 hb1 hqc hq' QR hcl hfc HR
  generalize hE : w2.heap.size = E1 at *
  have hE3 : E1 < w3.heap.size := lt_of_heap HP3.out
  clear hE
  go_upto_region 3 with (first
    | (refine wpList_load_at rfl 24 _ rfl (q.add (i * 2)) rfl [.string ⟨A.toArray⟩, .string ⟨B'.toArray⟩] _ HQC.out Tryd.underlying24 rfl size_apiF ?_)
    | (go_at_call 47; refine (QF.out w3).mono ?_; rintro e w4 ⟨on2, nn2, cn2, od2, nd2, cd2, rfl, hg, b4⟩)
    | (refine wpList_store_whole rfl rfl 63 _ _ rfl w4.heap.size #[.slice none 0 0, .slice none 0 0] #[.slice on2 nn2 cn2, .slice od2 nd2 cd2] 63 rfl rfl (heap_at rfl) rfl HS.out (two_slices _ _ _ _ _ _) ?_; intro w5 ho hp))
  have b45 : Below w4.heap.size w4 w5 := bel_only ((Below.refl _ _).alloc (Nat.le_refl _) _) ho (Nat.le_refl _)
  have b35 := b4.trans (b45.mono b4.size)
  obtain ⟨rfl, rfl, hG⟩ := hg HO'.out
  have HG5 := Lib.hid (hG.below b45)
  have HF5 := Lib.hid (HF3.out.below b35)
  have hP5 := bel_keep b35 hE3 HP3.out
  have B5 := Lib.hid (B3.out.trans (b35.mono (Nat.le_of_lt hB3)))
  have x0 : w5.cell? ⟨E1, 0, none⟩ = some (.slice on (dig (dv N)).length cn) := cell_of_row w5 E1 0 _ _ _ hP5
  have x1 : w5.cell? ⟨E1, 1, none⟩ = some (.slice od (dig (dv D)).length cd) := cell_of_row w5 E1 1 _ _ _ hP5
  have y0 : w5.cell? ⟨w4.heap.size, 0, none⟩ = some (.slice on2 (dig (dv A)).length cn2) := cell_of_row w5 _ 0 _ _ _ hp
  have y1 : w5.cell? ⟨w4.heap.size, 1, none⟩ = some (.slice od2 (dig (dv B')).length cd2) := cell_of_row w5 _ 1 _ _ _ hp
  have hE5 : E1 < w5.heap.size := lt_of_heap hP5
  have hE6 : w4.heap.size < w5.heap.size := lt_of_heap hp
  clear hG hg b45 b35 ho hp hP5 b4 HF3 HP3 B3 HC3 b3 hB3 hE3 HQC QF HO' hqb dii dii2 hii
  generalize w4.heap.size = E2 at *
  go_wp2_with (first
    | (go_at_call 48; refine (QT.out on2 od2 on od cn2 cd2 cn cd w5 HG5.out HF5.out).mono ?_; rintro e w6 ⟨o1, o2, c1, c2, rfl, hU, b6⟩; have HU := Lib.hid hU; have B6 := Lib.hid (B5.out.trans (b6.mono (by have := B5.out.size; have := HB.out; omega))); clear hU b6)
    | (go_at_call 33; refine (QW.out w6).mono ?_; rintro e w7 ⟨o3, o4, c4, c5, rfl, hV, b7⟩; have HV := Lib.hid hV; have HU7 := Lib.hid (HU.out.below b7); have B7 := Lib.hid (B6.out.trans (b7.mono (by have := B6.out.size; have := HB.out; omega))); clear hV b7)
    | (go_at_call 72; refine (QO.out o1 o2 o3 o4 c1 c2 c4 c5 w7 HU7.out HV.out).mono ?_; rintro e w8 ⟨rfl, b8⟩; have B8 := Lib.hid (B7.out.trans (b8.mono (by have := B7.out.size; have := HB.out; omega))); clear b8))
  go_ret
  exact ⟨rfl, by rw [HB.out]; exact B8.out⟩
end Go.Proofs.YtlbdcgnpkapncaaDoor
