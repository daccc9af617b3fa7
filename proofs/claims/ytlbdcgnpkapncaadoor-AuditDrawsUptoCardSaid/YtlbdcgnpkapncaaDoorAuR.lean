/-
  Chapter 14, for Draw: the reference's Right.
-/
import Derived.Test.YtlbdcgnpkapncaaDoorAuQ
import Derived.Test.YtlbdcgnpkapncaaDoorAuL
namespace Go.Proofs.YtlbdcgnpkapncaaDoor
set_option linter.unusedVariables false
set_option linter.unusedSimpArgs false
open Go.RowKit ML FM ND AU

theorem int_bne {a b : Nat} : ((a : Int) != (b : Int)) = decide (a ≠ b) := by
  by_cases h : a = b
  · subst h; simp
  · have h2 : (a : Int) ≠ (b : Int) := by omega
    simp [h, h2]
set_option maxHeartbeats 4000000 in
set_option maxRecDepth 100000 in
theorem refRight_any (A B : List Int) (S O : List (Bytes × Bytes)) (N D : Bytes) (dr n : Int) (o0 o1 o2 o3 : Option Addr) (c0 c1 c2 c3 : Nat) (w : World) (hW : WAt w o0 o1 o2 o3 A B S O) (lA : A.length < 4611686018427387904) (hN : N.length < 140737488355328) (hD : D.length < 140737488355328) (lS : Short S 140737488355327) (lO : Short O 100000000) :
    Calls Tryd.prog 40 #[.agg #[.slice o0 A.length c0, .slice o1 B.length c1, .slice o2 S.length c2, .slice o3 O.length c3, .string ⟨N.toArray⟩, .string ⟨D.toArray⟩, .int .i64 dr], .int .i64 n] w fun e w' => e = .returned (.bool (rightW A B S O N D n)) ∧ Below w.heap.size w w' := by
  obtain ⟨R, hR⟩ : ∃ R, R = rightW A B S O N D n := ⟨_, rfl⟩
  rw [← hR]
  have HR := Lib.hid hR
  have QR := Lib.hid (fun w => refRisk_any N D w hN hD)
  unfold RRGot at QR
  have HS := Lib.hid size_nfr
  have HW := Lib.hid hW
  have LS := Lib.hid lS
  have LO := Lib.hid lO
  obtain ⟨re, hre⟩ : ∃ re, re = riskE N D := ⟨_, rfl⟩
  rw [← hre] at QR
  have HRE := Lib.hid hre
  clear hR hW lS lO hN hD hre
  go_enter Tryd.func40, Tryd.ntmps40
  go_upto_region 1 with (fail)
  generalize hB : w.heap.size = B0 at *
  refine wp_abs (fun w1 => Below B0 w w1 ∧ w1.heap[B0]? = some (.cells #[.slice o0 A.length c0, .slice o1 B.length c1, .slice o2 S.length c2, .slice o3 O.length c3, .string ⟨N.toArray⟩, .string ⟨D.toArray⟩, .int .i64 dr] 27 (0, 0))) ⟨by rw [← hB]; exact (Below.refl _ _).alloc (Nat.le_refl _) _, by rw [← hB]; exact heap_at rfl⟩ (fun w1 hw1 => ?_)
  have HB := Lib.hid hB
  have B1 := Lib.hid hw1.1
  have HC1 := Lib.hid hw1.2
  have b0 : w1.cell? ⟨B0, 0, none⟩ = some (.slice o0 A.length c0) := cell_of_row w1 B0 0 _ _ _ hw1.2
  have b4 : w1.cell? ⟨B0, 4, none⟩ = some (.string ⟨N.toArray⟩) := cell_of_row w1 B0 4 _ _ _ hw1.2
  have b5 : w1.cell? ⟨B0, 5, none⟩ = some (.string ⟨D.toArray⟩) := cell_of_row w1 B0 5 _ _ _ hw1.2
  have hb1 : B0 < w1.heap.size := lt_of_heap hw1.2
  clear hw1 hB
  go_upto_region 3 with (first
    | (go_at_call 30; refine (QR.out w1).mono ?_; rintro e w2 ⟨on, nn, cn, od, nd, cd, rfl, hg, b2⟩)
    | (refine wpList_store_whole rfl rfl 63 _ _ rfl w2.heap.size #[.slice none 0 0, .slice none 0 0] #[.slice on nn cn, .slice od nd cd] 63 rfl rfl (heap_at rfl) rfl HS.out (two_slices _ _ _ _ _ _) ?_; intro w3 ho hp))
  have b23 : Below w2.heap.size w2 w3 := bel_only ((Below.refl _ _).alloc (Nat.le_refl _) _) ho (Nat.le_refl _)
  have b13 := b2.trans (b23.mono b2.size)
  have B3 := Lib.hid (B1.out.trans (b13.mono (Nat.le_of_lt hb1)))
  have HC3 := Lib.hid (bel_keep b13 hb1 HC1.out)
  have a0 : w3.cell? ⟨B0, 0, none⟩ = some (.slice o0 A.length c0) := cell_of_row w3 B0 0 _ _ _ HC3.out
  have a1 : w3.cell? ⟨B0, 1, none⟩ = some (.slice o1 B.length c1) := cell_of_row w3 B0 1 _ _ _ HC3.out
  have a2 : w3.cell? ⟨B0, 2, none⟩ = some (.slice o2 S.length c2) := cell_of_row w3 B0 2 _ _ _ HC3.out
  have a3 : w3.cell? ⟨B0, 3, none⟩ = some (.slice o3 O.length c3) := cell_of_row w3 B0 3 _ _ _ HC3.out
  have hb3 : B0 < w3.heap.size := lt_of_heap HC3.out
  clear hg b2 b23 b13 ho hp QR B1 HC1 b0 b4 b5 hb1
  generalize w2.heap.size = E1 at *
  by_cases h1 : B.length = A.length
  case neg =>
    have d1 : ((B.length : Int) != (A.length : Int)) = true := by rw [int_bne]; exact decide_eq_true h1
    have hr := Lib.hid (show R = false from HR.out.trans (rightW_no (fun h => h1 h.lb)))
    clear h1
    go_wp2_with fail
    go_ret
    exact ⟨by rw [hr.out]; rfl, by rw [HB.out]; exact B3.out⟩
  have d1 : ((B.length : Int) != (A.length : Int)) = false := by rw [int_bne]; exact decide_eq_false (fun h => h h1)
  by_cases h2 : S.length = A.length
  case neg =>
    have d2 : ((S.length : Int) != (A.length : Int)) = true := by rw [int_bne]; exact decide_eq_true h2
    have hr := Lib.hid (show R = false from HR.out.trans (rightW_no (fun h => h2 h.ls)))
    clear h1 h2
    go_wp2_with fail
    go_ret
    exact ⟨by rw [hr.out]; rfl, by rw [HB.out]; exact B3.out⟩
  have d2 : ((S.length : Int) != (A.length : Int)) = false := by rw [int_bne]; exact decide_eq_false (fun h => h h2)
  by_cases h3 : O.length = A.length
  case neg =>
    have d3 : ((O.length : Int) != (A.length : Int)) = true := by rw [int_bne]; exact decide_eq_true h3
    have hr := Lib.hid (show R = false from HR.out.trans (rightW_no (fun h => h3 h.lo)))
    clear h1 h2 h3
    go_wp2_with fail
    go_ret
    exact ⟨by rw [hr.out]; rfl, by rw [HB.out]; exact B3.out⟩
  have d3 : ((O.length : Int) != (A.length : Int)) = false := by rw [int_bne]; exact decide_eq_false (fun h => h h3)
  by_cases h4 : re = 0
  case neg =>
    have d4 : (re != 0) = true := by simp [h4]
    have hr := Lib.hid (show R = false from HR.out.trans (rightW_no (fun h => h4 (HRE.out.trans h.risk))))
    clear h1 h2 h3 h4
    go_wp2_with fail
    go_ret
    exact ⟨by rw [hr.out]; rfl, by rw [HB.out]; exact B3.out⟩
  subst h4
  have H1 := Lib.hid h1
  have H2 := Lib.hid h2
  have H3 := Lib.hid h3
  clear h1 h2 h3
  go_upto_region 5 with (fail)
  have HCH := Lib.hid (show Below B0 w w3 ∧ w3.heap[B0]? = _ from ⟨B3.out, HC3.out⟩)
  clear d1 d2 d3 a0 a1 a2 a3 hb3 B3 HC3
  go_upto_region 6 with (fail)
  go_loopw [8] (fun i wr => ∃ k : Nat, k ≤ A.length ∧ i = .int .i64 k ∧ (∀ j, j < k → PairOk A B S O n j) ∧ Below w3.heap.size w3 wr) (fun i _ => A.length - (intOf i).toNat)
  case atStart => exact ⟨0, by omega, rfl, (fun j hj => by omega), Below.refl _ _⟩
  case round =>
  obtain ⟨k, hk, rfl, hok, bel⟩ := hrel
  have HOK := Lib.hid hok
  have hb3 : B0 < w3.heap.size := lt_of_heap HCH.out.2
  have BR := Lib.hid (HCH.out.1.trans (bel.mono (Nat.le_of_lt hb3)))
  have HCR := Lib.hid (bel_keep bel hb3 HCH.out.2)
  have hbR : B0 < wr.heap.size := lt_of_heap HCR.out
  have BL := Lib.hid bel
  clear hok bel
  by_cases hlt : k < A.length
  · have dk : decide ((k : Int) < (A.length : Int)) = true := decide_eq_true (by omega)
    have dk2 : decide (k < A.length) = true := decide_eq_true hlt
    have hki : (k : Int) < (A.length : Int) := by omega
    have hkS : k < S.length := by rw [H2.out]; exact hlt
    have hkO : k < O.length := by rw [H3.out]; exact hlt
    have hkB : k < B.length := by rw [H1.out]; exact hlt
    have ds : decide ((k : Int) < (S.length : Int)) = true := decide_eq_true (by omega)
    have ds2 : decide (k < S.length) = true := decide_eq_true hkS
    have hsi : (k : Int) < (S.length : Int) := by omega
    have do1 : decide ((k : Int) < (O.length : Int)) = true := decide_eq_true (by omega)
    have do2 : decide (k < O.length) = true := decide_eq_true hkO
    have hoi : (k : Int) < (O.length : Int) := by omega
    have db1 : decide ((k : Int) < (B.length : Int)) = true := decide_eq_true (by omega)
    have db2 : decide (k < B.length) = true := decide_eq_true hkB
    have hbi : (k : Int) < (B.length : Int) := by omega
    have WR := Lib.hid (HW.out.below (HB.out ▸ BR.out))
    have hbad := Lib.hid (fun (h : ¬ PairOk A B S O n k) => (show R = false from HR.out.trans (rightW_no (fun hh => h (hh.ok k hlt)))))
    have hgood := Lib.hid (fun (h : PairOk A B S O n k) => (show ∀ j, j < k + 1 → PairOk A B S O n j from fun j hj => (Nat.lt_or_eq_of_le (Nat.le_of_lt_succ hj)).elim (HOK.out j) (fun e => e ▸ h)))
    obtain ⟨qs, hqs, hqsb, hqsc⟩ := WR.out.f2.cells k hkS
    obtain ⟨qo, hqo, hqob, hqoc⟩ := WR.out.f3.cells k hkO
    obtain ⟨qa, hqa, hqab, hqac⟩ := WR.out.i0.cells k hlt
    obtain ⟨qb, hqb, hqbb, hqbc⟩ := WR.out.i1.cells k hkB
    have lsk := LS.out k hkS
    have lok := LO.out k hkO
    have hiff := Lib.hid (show PairOk A B S O n k ↔ _ from pairOk_iff.symm)
    unfold pairOk at hiff
    simp only [Bool.and_eq_true, decide_eq_true_eq] at hiff
    rw [fAt_get hkS] at hqsc
    rw [fAt_get hkO] at hqoc
    rw [iAt_get hlt] at hqac
    rw [iAt_get hkB] at hqbc
    clear WR
    generalize PairOk A B S O n k = PK at *
    generalize fAt S k = sk at *
    generalize fAt O k = ok at *
    generalize iAt A k = ak at *
    generalize iAt B k = bk at *
    obtain ⟨X, Y⟩ := sk
    obtain ⟨U, V⟩ := ok
    dsimp only at lsk lok hiff
    have QS1 := Lib.hid (fun w => refFrac_any 100 X Y w (by omega) (by omega) (.inr (by decide)))
    have QO1 := Lib.hid (fun w => refFrac_any 0 U V w (by omega) (by omega) (.inl (by omega)))
    unfold RFGot at QS1 QO1
    subst hqs hqo hqa hqb
    have HQS := Lib.hid hqsc
    have HQO := Lib.hid hqoc
    have HQA := Lib.hid hqac
    have HQB := Lib.hid hqbc
    have s2 : wr.cell? ⟨B0, 2, none⟩ = some (.slice (some qs) S.length c2) := cell_of_row wr B0 2 _ _ _ HCR.out
    clear hqsc hqoc hqac hqbc lsk lok
    go_upto_region 9 with (first
      | (refine wpList_load_at rfl 24 _ rfl (qs.add (k * 2)) rfl [.string ⟨X.toArray⟩, .string ⟨Y.toArray⟩] _ HQS.out Tryd.underlying24 rfl size_apiF ?_)
      | (go_at_call 47; refine (QS1.out wr).mono ?_; rintro e w4 ⟨on2, nn2, cn2, od2, nd2, cd2, rfl, hg, b4⟩)
      | (refine wpList_store_whole rfl rfl 63 _ _ rfl w4.heap.size #[.slice none 0 0, .slice none 0 0] #[.slice on2 nn2 cn2, .slice od2 nd2 cd2] 63 rfl rfl (heap_at rfl) rfl HS.out (two_slices _ _ _ _ _ _) ?_; intro w5 ho hp))
    have b45 : Below w4.heap.size w4 w5 := bel_only ((Below.refl _ _).alloc (Nat.le_refl _) _) ho (Nat.le_refl _)
    have b35 := b4.trans (b45.mono b4.size)
    have HG5 := Lib.hid (show frB 100 X Y = true → nn2 = (dig (dv X)).length ∧ nd2 = (dig (dv Y)).length ∧ NFr w5 (dv X) (dv Y) on2 od2 from fun h => ⟨(hg h).1, (hg h).2.1, (hg h).2.2.below b45⟩)
    have B5 := Lib.hid (BR.out.trans (b35.mono (Nat.le_of_lt hbR)))
    have HC5 := Lib.hid (bel_keep b35 hbR HCR.out)
    have BL5 := Lib.hid (BL.out.trans (b35.mono BL.out.size))
    have HP5 := Lib.hid hp
    have hqob5 := Nat.lt_of_lt_of_le hqob b35.size
    have HQO5 := Lib.hid (show ∀ j v, (fcell (U, V))[j]? = some v → w5.cell? ((qo.add (k * 2)).add j) = some v from fun j v hj => by rw [b35.cell (by rw [addr_block, addr_block]; exact hqob)]; exact HQO.out j v hj)
    have HQA5 := Lib.hid ((b35.cell (by rw [addr_block]; exact hqab)).trans HQA.out)
    have HQB5 := Lib.hid ((b35.cell (by rw [addr_block]; exact hqbb)).trans HQB.out)
    have hqab5 := Nat.lt_of_lt_of_le hqab b35.size
    have hqbb5 := Nat.lt_of_lt_of_le hqbb b35.size
    have s3 : w5.cell? ⟨B0, 3, none⟩ = some (.slice (some qo) O.length c3) := cell_of_row w5 B0 3 _ _ _ HC5.out
    have hb5 : B0 < w5.heap.size := lt_of_heap HC5.out
    clear hg b4 b45 b35 ho hp s2 HQO HQA HQB hqob hqab hqbb HCR BR hbR BL HQS hqsb QS1
    generalize w4.heap.size = E2 at *
    have hE2 : E2 < w5.heap.size := lt_of_heap HP5.out
    go_upto_region 10 with (first
      | (refine wpList_load_at rfl 24 _ rfl (qo.add (k * 2)) rfl [.string ⟨U.toArray⟩, .string ⟨V.toArray⟩] _ HQO5.out Tryd.underlying24 rfl size_apiF ?_)
      | (go_at_call 47; refine (QO1.out w5).mono ?_; rintro e w6 ⟨on3, nn3, cn3, od3, nd3, cd3, rfl, hg, b6⟩)
      | (refine wpList_store_whole rfl rfl 63 _ _ rfl w6.heap.size #[.slice none 0 0, .slice none 0 0] #[.slice on3 nn3 cn3, .slice od3 nd3 cd3] 63 rfl rfl (heap_at rfl) rfl HS.out (two_slices _ _ _ _ _ _) ?_; intro w7 ho hp))
    have b67 : Below w6.heap.size w6 w7 := bel_only ((Below.refl _ _).alloc (Nat.le_refl _) _) ho (Nat.le_refl _)
    have b57 := b6.trans (b67.mono b6.size)
    have HG7 := Lib.hid (show frB 100 X Y = true → nn2 = (dig (dv X)).length ∧ nd2 = (dig (dv Y)).length ∧ NFr w7 (dv X) (dv Y) on2 od2 from fun h => ⟨(HG5.out h).1, (HG5.out h).2.1, (HG5.out h).2.2.below b57⟩)
    have B7 := Lib.hid (B5.out.trans (b57.mono (Nat.le_of_lt hb5)))
    have HC7 := Lib.hid (bel_keep b57 hb5 HC5.out)
    have HP7 := Lib.hid (bel_keep b57 hE2 HP5.out)
    have BL7 := Lib.hid (BL5.out.trans (b57.mono BL5.out.size))
    have HQA7 := (b57.cell (by rw [addr_block]; exact hqab5)).trans HQA5.out
    have HQB7 := (b57.cell (by rw [addr_block]; exact hqbb5)).trans HQB5.out
    have s0 : w7.cell? ⟨B0, 0, none⟩ = some (.slice (some qa) A.length c0) := cell_of_row w7 B0 0 _ _ _ HC7.out
    have s1 : w7.cell? ⟨B0, 1, none⟩ = some (.slice (some qb) B.length c1) := cell_of_row w7 B0 1 _ _ _ HC7.out
    have hb7 : B0 < w7.heap.size := lt_of_heap HC7.out
    have hE7 : E2 < w7.heap.size := lt_of_heap HP7.out
    clear hg b6 b67 b57 ho hp s3 HQA5 HQB5 hqab5 hqbb5 HC5 B5 hb5 BL5 HQO5 hqob5 HP5 hE2 HG5 QO1
    generalize w6.heap.size = E3 at *
    cases hfs : frB 100 X Y with
    | false =>
      have hr := Lib.hid (hbad.out (fun h => by have := (hiff.out.1 h).1; rw [hfs] at this; cases this))
      clear hfs
      go_wp2_with fail
      go_ret
      exact ⟨by rw [hr.out]; rfl, by rw [HB.out]; exact B7.out⟩
    | true =>
    cases hfo : frB 0 U V with
    | false =>
      have hr := Lib.hid (hbad.out (fun h => by have := (hiff.out.1 h).2.1; rw [hfo] at this; cases this))
      clear hfs hfo
      go_wp2_with fail
      go_ret
      exact ⟨by rw [hr.out]; rfl, by rw [HB.out]; exact B7.out⟩
    | true =>
    by_cases ha0 : ak < 0
    · have da : decide (ak < 0) = true := decide_eq_true ha0
      have hr := Lib.hid (hbad.out (fun h => by have := (hiff.out.1 h).2.2.2.2; omega))
      clear hfs hfo ha0
      go_wp2_with fail
      go_ret
      exact ⟨by rw [hr.out]; rfl, by rw [HB.out]; exact B7.out⟩
    have da : decide (ak < 0) = false := decide_eq_false ha0
    by_cases ha1 : n ≤ ak
    · have da1 : decide (n ≤ ak) = true := decide_eq_true ha1
      have hr := Lib.hid (hbad.out (fun h => by have := (hiff.out.1 h).2.2.2.2; omega))
      clear hfs hfo ha0 ha1
      go_wp2_with fail
      go_ret
      exact ⟨by rw [hr.out]; rfl, by rw [HB.out]; exact B7.out⟩
    have da1 : decide (n ≤ ak) = false := decide_eq_false ha1
    by_cases hb0 : bk < 0
    · have db0 : decide (bk < 0) = true := decide_eq_true hb0
      have hr := Lib.hid (hbad.out (fun h => by have := (hiff.out.1 h).2.2.2.2; omega))
      clear hfs hfo ha0 ha1 hb0
      go_wp2_with fail
      go_ret
      exact ⟨by rw [hr.out]; rfl, by rw [HB.out]; exact B7.out⟩
    have db0 : decide (bk < 0) = false := decide_eq_false hb0
    by_cases hb1 : n ≤ bk
    · have db3 : decide (n ≤ bk) = true := decide_eq_true hb1
      have hr := Lib.hid (hbad.out (fun h => by have := (hiff.out.1 h).2.2.2.2; omega))
      clear hfs hfo ha0 ha1 hb0 hb1
      go_wp2_with fail
      go_ret
      exact ⟨by rw [hr.out]; rfl, by rw [HB.out]; exact B7.out⟩
    have db3 : decide (n ≤ bk) = false := decide_eq_false hb1
    have hlast := Lib.hid (show dv Y < dv X * 2 → dv X ≤ dv Y → PK from fun h1 h2 => hiff.out.2 ⟨hfs, hfo, h1, h2, by omega, by omega⟩)
    have hlast1 := Lib.hid (show ¬ dv Y < dv X * 2 → ¬ PK from fun h1 h => h1 (hiff.out.1 h).2.2.1)
    have hlast2 := Lib.hid (show ¬ dv X ≤ dv Y → ¬ PK from fun h1 h => h1 (hiff.out.1 h).2.2.2.1)
    obtain ⟨n1, n2, hY0, _, _⟩ := frB_good hfs
    have hsl := frB_len hfs
    obtain ⟨rfl, rfl, hF⟩ := HG7.out hfs
    have HF := Lib.hid hF
    clear ha0 ha1 hb0 hb1 HG7 hF hiff hfo hfs
    go_upto_region 12 with (fail)
    have e1 : (dig (dv X)).length ≤ 100 := Nat.le_trans (dig_text X ((numB_iff X).1 n1).2.1) hsl.1
    have e2 : (dig (dv Y)).length ≤ 100 := Nat.le_trans (dig_text Y ((numB_iff Y).1 n2).2.1) hsl.2
    have d1 : (dig 1).length ≤ 1 := length_dig_le 1 1 (by decide)
    have d2 : (dig 2).length ≤ 1 := length_dig_le 2 1 (by decide)
    have QW1 := Lib.hid (fun w => refWhole_any 1 w (by decide))
    have QW2 := Lib.hid (fun w => refWhole_any 2 w (by decide))
    have QT := Lib.hid (fun oa ob ca cb w h1 h2 => refTimes_any 2 1 (dv X) (dv Y) oa ob on2 od2 ca cb cn2 cd2 w h1 h2 (by omega) (by omega) (by omega) (by omega) (by omega))
    have ht1 : (dig (tN 2 1 (dv X) (dv Y))).length < 274877906944 := Nat.lt_of_le_of_lt (length_dig_le _ _ (Nat.lt_of_le_of_lt (Nat.div_le_self _ _) (lt_pow_length _))) (Nat.lt_of_le_of_lt (ND.length_mul _ _) (by omega))
    have ht2 : (dig (tD 2 1 (dv X) (dv Y))).length < 274877906944 := Nat.lt_of_le_of_lt (length_dig_le _ _ (Nat.lt_of_le_of_lt (Nat.div_le_self _ _) (lt_pow_length _))) (Nat.lt_of_le_of_lt (ND.length_mul _ _) (by omega))
    change Hid (∀ oa ob ca cb w _ _, Calls _ _ _ w (fun e w' => ∃ on om cn cm, e = .returned (.agg #[.slice on (dig (tN 2 1 (dv X) (dv Y))).length cn, .slice om (dig (tD 2 1 (dv X) (dv Y))).length cm]) ∧ NFr w' (tN 2 1 (dv X) (dv Y)) (tD 2 1 (dv X) (dv Y)) on om ∧ Below w.heap.size w w')) at QT
    have hhalf := half_ref (s := dv X) (t := dv Y) hY0
    generalize tN 2 1 (dv X) (dv Y) = PN at *
    generalize tD 2 1 (dv X) (dv Y) = PD at *
    have QO1 := Lib.hid (fun oa ob oc od ca cb cc cd w h1 h2 => refOrder_any PN PD 1 1 oa ob oc od ca cb cc cd w h1 h2 ht1 ht2 (by omega) (by omega))
    have QO2 := Lib.hid (fun oc od cc cd w h1 h2 => refOrder_any (dv X) (dv Y) 1 1 on2 od2 oc od cn2 cd2 cc cd w h1 h2 (by omega) (by omega) (by omega) (by omega))
    simp only [Nat.mul_one, Nat.one_mul] at QO1 QO2
    have hc1 : decide (ND.cmpI PN PD ≤ 0) = decide (dv X * 2 ≤ dv Y) := by
      rw [← hhalf]
      rcases Nat.lt_trichotomy PN PD with h | h | h
      · rw [ND.cmpI_lt h, decide_eq_true (Nat.le_of_lt h)]; rfl
      · rw [h, ND.cmpI_eq, decide_eq_true (Nat.le_refl _)]; rfl
      · rw [ND.cmpI_gt h, decide_eq_false (Nat.not_le.2 h)]; rfl
    have hc2 : decide (0 < ND.cmpI (dv X) (dv Y)) = decide (dv Y < dv X) := by
      rcases Nat.lt_trichotomy (dv X) (dv Y) with h | h | h
      · rw [ND.cmpI_lt h, decide_eq_false (Nat.not_lt.2 (Nat.le_of_lt h))]; rfl
      · rw [h, ND.cmpI_eq, decide_eq_false (Nat.lt_irrefl _)]; rfl
      · rw [ND.cmpI_gt h, decide_eq_true h]; rfl
    generalize ND.cmpI PN PD = k1 at *
    generalize ND.cmpI (dv X) (dv Y) = k2 at *
    clear hhalf ht1 ht2 d1 d2 e1 e2 hsl n1 n2 hY0
    generalize dv X = s at *
    generalize dv Y = t at *
    generalize hl2 : (dig 2).length = l2' at *
    generalize hl1 : (dig 1).length = l1' at *
    clear hl2 hl1
    obtain ⟨M, hM⟩ : ∃ M, M = w7.heap.size := ⟨_, rfl⟩
    have hEM : E2 < M := by rw [hM]; exact hE7
    have HM := Lib.hid hM
    clear hM
    refine Seg.wp_region_segs (fun w' => ∃ x : BelowT M w7, w' = x.w) [([1], 0), ([], 2), ([], 3), ([], 4), ([5, 6, 7], 8)] [] 9 (by kernel_rfl) (by kernel_rfl) (fun _ _ d _ _ h => by cases d <;> exact h) (⟨⟨w7.drew, by rw [HM.out]; exact (Below.refl _ _).drew⟩, rfl⟩) ?_
    simp only [List.map_cons, List.map_nil, Seg.opAt, List.drop_succ_cons, List.drop_zero, Seg.wpSegs, Array.getD_eq_getD_getElem?, List.getElem?_toArray, List.getElem?_cons_succ, List.getElem?_cons_zero, Option.getD_some]
    refine wpQuiet_load_at rfl 63 _ rfl ⟨E2, 0, none⟩ [.slice on2 (dig s).length cn2, .slice od2 (dig t).length cd2] _ rfl (fun w' hw' => by obtain ⟨x, rfl⟩ := hw'; exact news_blk (bel_keep x.2 hEM HP7.out)) Tryd.underlying63 rfl HS.out ?_
    refine wpQuiet_nil ?_
    intro K hK
    first | go_simp | skip
    go_wp2_with (go_at_call 33; refine (QW2.out w7.drew).mono ?_; rintro e wa ⟨p1, p2, k1', k2', rfl, hU, ba⟩)
    have Ba := Lib.hid (undrew ba)
    have HU := Lib.hid hU
    refine hK _ _ ⟨⟨wa, by rw [HM.out]; exact Ba.out⟩, rfl⟩ ?_
    clear hK K hU ba
    repeat (any_goals (first | go_big_quiet_step (fail) | quiet_step (fail)))
    refine wpQuiet_nil ?_
    intro K hK
    first | go_simp | skip
    go_wp2_with (go_at_call 48; refine (QT.out p1 p2 k1' k2' wa HU.out (HF.out.below Ba.out)).mono ?_; rintro e wb ⟨r1, r2, k3, k4, rfl, hT, bb⟩)
    have Bb := Lib.hid (Ba.out.trans (bb.mono Ba.out.size))
    have HT := Lib.hid hT
    refine hK _ _ ⟨⟨wb, by rw [HM.out]; exact Bb.out⟩, rfl⟩ ?_
    clear hK K hT bb
    repeat (any_goals (first | go_big_quiet_step (fail) | quiet_step (fail)))
    refine wpQuiet_nil ?_
    intro K hK
    first | go_simp | skip
    go_wp2_with (go_at_call 33; refine (QW1.out wb).mono ?_; rintro e wc ⟨q1, q2, k5, k6, rfl, hV, bc⟩)
    have Bc := Lib.hid (Bb.out.trans (bc.mono Bb.out.size))
    have HV := Lib.hid hV
    have HT2 := Lib.hid (HT.out.below bc)
    refine hK _ _ ⟨⟨wc, by rw [HM.out]; exact Bc.out⟩, rfl⟩ ?_
    clear hK K hV bc HT
    repeat (any_goals (first | go_big_quiet_step (fail) | quiet_step (fail)))
    refine wpQuiet_nil ?_
    intro K hK
    first | go_simp | skip
    go_wp2_with (go_at_call 72; refine (QO1.out r1 r2 q1 q2 k3 k4 k5 k6 wc HT2.out HV.out).mono ?_; rintro e wd ⟨rfl, bd⟩)
    have Bd := Lib.hid (Bc.out.trans (bd.mono Bc.out.size))
    refine hK _ _ ⟨⟨wd, by rw [HM.out]; exact Bd.out⟩, rfl⟩ ?_
    clear hK K bd
    by_cases hh : s * 2 ≤ t
    · rw [decide_eq_true hh] at hc1
      have hr := Lib.hid (hbad.out (hlast1.out (by omega)))
      clear hh hc2
      repeat (any_goals (first | go_big_quiet_step (fail) | quiet_step (fail)))
      refine wpQuiet_nil ?_
      first | (intro K hK) | skip
      first | go_simp | skip
      refine hK _ _ ⟨⟨wd, by rw [HM.out]; exact Bd.out⟩, rfl⟩ ?_
      clear hK K
      repeat (any_goals (first | go_big_quiet_step (fail) | quiet_step (fail)))
      refine wpQuiet_nil ?_
      go_wp2_with fail
      go_ret
      exact ⟨by rw [hr.out]; rfl, by rw [HB.out]; exact B7.out.trans (Bd.out.mono (Nat.le_of_lt hb7))⟩
    · rw [decide_eq_false hh] at hc1
      first | go_big_quiet_step (fail) | quiet_step (fail)
      first | go_big_quiet_step (fail) | quiet_step (fail)
      refine wpQuiet_load_at rfl 63 _ rfl ⟨E2, 0, none⟩ [.slice on2 (dig s).length cn2, .slice od2 (dig t).length cd2] _ rfl (fun w' hw' => by obtain ⟨x, rfl⟩ := hw'; exact news_blk (bel_keep x.2 hEM HP7.out)) Tryd.underlying63 rfl HS.out ?_
      refine wpQuiet_nil ?_
      intro K hK
      first | go_simp | skip
      go_wp2_with (go_at_call 33; refine (QW1.out wd).mono ?_; rintro e we ⟨q3, q4, k7, k8, rfl, hV, be⟩)
      have Be := Lib.hid (Bd.out.trans (be.mono Bd.out.size))
      have HV2 := Lib.hid hV
      refine hK _ _ ⟨⟨we, by rw [HM.out]; exact Be.out⟩, rfl⟩ ?_
      clear hK K hV be
      repeat (any_goals (first | go_big_quiet_step (fail) | quiet_step (fail)))
      refine wpQuiet_nil ?_
      by_cases ho : t < s
      · rw [decide_eq_true ho] at hc2
        have hr := Lib.hid (hbad.out (hlast2.out (by omega)))
        clear ho hh
        go_wp2_with (go_at_call 72; refine (QO2.out q3 q4 k7 k8 we (HF.out.below Be.out) HV2.out).mono ?_; rintro e wf ⟨rfl, bf⟩)
        go_ret
        exact ⟨by rw [hr.out]; rfl, by rw [HB.out]; exact B7.out.trans ((Be.out.trans (bf.mono Be.out.size)).mono (Nat.le_of_lt hb7))⟩
      · rw [decide_eq_false ho] at hc2
        have hok2 := Lib.hid (hgood.out (hlast.out (by omega) (by omega)))
        clear ho hh
        go_wp2_with (go_at_call 72; refine (QO2.out q3 q4 k7 k8 we (HF.out.below Be.out) HV2.out).mono ?_; rintro e wf ⟨rfl, bf⟩)
        go_roundw
        case rel => exact ⟨k + 1, by omega, by go_num, hok2.out, BL7.out.trans ((Be.out.trans (bf.mono Be.out.size)).mono BL7.out.size)⟩
        case measure => simp [intOf]; omega
  · have dk : decide ((k : Int) < (A.length : Int)) = false := decide_eq_false (by omega)
    have dk2 : decide (k < A.length) = false := decide_eq_false hlt
    obtain rfl : k = A.length := by omega
    have hr := Lib.hid (show R = true from HR.out.trans (rightW_iff.2 ⟨H1.out, H2.out, H3.out, HRE.out.symm, HOK.out⟩))
    go_wp2_with fail
    go_ret
    exact ⟨by rw [hr.out]; rfl, by rw [HB.out]; exact BR.out⟩
end Go.Proofs.YtlbdcgnpkapncaaDoor
