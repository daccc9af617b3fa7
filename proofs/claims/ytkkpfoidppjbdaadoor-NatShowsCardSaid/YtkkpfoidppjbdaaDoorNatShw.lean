/-
  NatShows: the walk. Printed by tools/genshw.py.
-/
import Derived.Test.YtkkpfoidppjbdaaDoorNFracL
import Derived.Test.YtkkpfoidppjbdaaDoorNatReck
import Derived.Test.YtkkpfoidppjbdaaDoorNLow
import Derived.Test.YtkkpfoidppjbdaaDoorNShow
import Derived.Test.YtkkpfoidppjbdaaDoorNRShow
namespace Go.Proofs.YtkkpfoidppjbdaaDoor
set_option linter.unusedVariables false
set_option linter.unusedSimpArgs false
open Go.RowKit ML FM ND

/-- the fraction that came in, the one that was told, the reference's one -/
structure ShSt (B E C : Nat) (w w1 : World) (N D S1 S2 : Bytes) (a b : Nat) (oa ob : Option Addr) (ca cb : Nat) : Prop where
  bel : Below B w w1
  x : w1.heap[B]? = some (.cells #[.string ⟨N.toArray⟩, .string ⟨D.toArray⟩] 45 (0, 0))
  f : w1.heap[E]? = some (.cells #[.string ⟨S1.toArray⟩, .string ⟨S2.toArray⟩] 45 (0, 0))
  p : w1.heap[C]? = some (.cells #[.slice oa (dig a).length ca, .slice ob (dig b).length cb] 47 (0, 0))
  X : NFr w1 a b oa ob
  lt1 : B < E
  lt2 : E < C
theorem ShSt.keep {B E C : Nat} {w w1 w2 : World} {N D S1 S2 : Bytes} {a b : Nat} {oa ob : Option Addr} {ca cb : Nat} (h : ShSt B E C w w1 N D S1 S2 a b oa ob ca cb) (hb : Below w1.heap.size w1 w2) : ShSt B E C w w2 N D S1 S2 a b oa ob ca cb :=
  ⟨h.bel.trans (hb.mono (by have := lt_of_heap h.x; omega)), bel_keep hb (lt_of_heap h.x) h.x, bel_keep hb (lt_of_heap h.f) h.f, bel_keep hb (lt_of_heap h.p) h.p, h.X.below hb, h.lt1, h.lt2⟩
theorem told_low (q : Nat) (S T : Bytes) (x y : Nat) (h : q = 0 → S = strD x ∧ T = strD y) : (q = 0 ∧ q = 0 ∧ (if q = 0 then S else []) = strD x ∧ (if q = 0 then T else []) = strD y) ∨ (q ≠ 0 ∧ q = q ∧ (if q = 0 then S else []) = [] ∧ (if q = 0 then T else []) = []) := by
  by_cases h0 : q = 0
  · obtain ⟨h1, h2⟩ := h h0
    exact .inl ⟨h0, h0, by rw [if_pos h0]; exact h1, by rw [if_pos h0]; exact h2⟩
  · exact .inr ⟨h0, rfl, if_neg h0, if_neg h0⟩
set_option maxHeartbeats 16000000 in
set_option maxRecDepth 100000 in
theorem natShows_any (A B0 N D : Bytes) (p : Int) (w : World) (hA : A.length < 140737488355328) (hB0 : B0.length < 140737488355328) (hN : N.length < 140737488355328) (hD : D.length < 140737488355328) :
    Calls Tryd.prog 9 #[.string ⟨A.toArray⟩, .string ⟨B0.toArray⟩, .agg #[.string ⟨N.toArray⟩, .string ⟨D.toArray⟩], .int .i64 p] w fun e w' => e = .returned (.bool true) ∧ Below w.heap.size w w' := by
  have QW := Lib.hid (fun w => lawWrong_any A B0 w hA hB0)
  have QL := Lib.hid (fun w => natLowest_any A B0 w hA hB0)
  have QE := Lib.hid (fun w => refWhole_any 0 w (by decide))
  have QF := Lib.hid (fun w => refWrongFrac_any N D w hN hD)
  have QFl := Lib.hid (fun w => natFloor_any N D w hN hD)
  have QSh := Lib.hid (fun w => natShow_any N D p w hN hD)
  have HA := Lib.hid size_api
  have HR := Lib.hid size_nfr
  have hone := Lib.hid (show dig 1 = [1] by rw [dig_pos (by decide)]; simp [dig_zero])
  obtain ⟨q, hq⟩ : ∃ q, q = wrongQ A B0 := ⟨_, rfl⟩
  have HQ := Lib.hid hq
  unfold ansF at QL
  rw [← hq] at QL
  obtain ⟨S1, hS1⟩ : ∃ S, S = (if q = 0 then strD (dv A / Nat.gcd (dv A) (dv B0)) else []) := ⟨_, rfl⟩
  obtain ⟨S2, hS2⟩ : ∃ S, S = (if q = 0 then strD (dv B0 / Nat.gcd (dv A) (dv B0)) else []) := ⟨_, rfl⟩
  rw [← hS1, ← hS2] at QL
  have HS1 := Lib.hid hS1
  have HS2 := Lib.hid hS2
  clear hq hA hB0 hN hD hS1 hS2
  rw [dig_zero, show (([] : List Nat).length) = 0 from rfl, hone.out, show ([1] : List Nat).length = 1 from rfl, show ((0 : Nat) : Int) = 0 from rfl] at QE
  go_enter Tryd.func9, Tryd.ntmps9
  go_upto_region 1 with (fail)
  generalize hB : w.heap.size = B at *
  have HB := Lib.hid hB
  refine wp_abs (fun w1 => Below B w w1 ∧ w1.heap[B]? = some (.cells #[.string ⟨N.toArray⟩, .string ⟨D.toArray⟩] 45 (0, 0))) ⟨by rw [← hB]; exact (Below.refl _ _).alloc (Nat.le_refl _) _, by rw [← hB]; exact heap_at rfl⟩ (fun w1 hw1 => ?_)
  have B1 := Lib.hid hw1.1
  have H1 := Lib.hid hw1.2
  have hs1 : B < w1.heap.size := lt_of_heap hw1.2
  clear hw1 hB
  go_upto_region 4 with (first
    | (go_at_call 14; refine (QW.out w1).mono ?_; rintro e w2 ⟨rfl, rfl⟩)
    | (go_at_call 46; refine (QL.out _).mono ?_; rintro e w3 ⟨rfl, bel3⟩)
    | (refine wpList_store_whole rfl rfl 45 _ _ rfl w3.heap.size #[.string ⟨#[]⟩, .string ⟨#[]⟩] #[.string ⟨S1.toArray⟩, .string ⟨S2.toArray⟩] 45 rfl rfl (heap_at rfl) rfl HA.out (two_strings _ _) ?_; intro w4 ho4 hp4)
    | (go_at_call 30; refine (QE.out _).mono ?_; rintro e w5 ⟨oa, ob, ca, cb, rfl, hX, bel5⟩)
    | (refine wpList_store_whole rfl rfl 47 _ _ rfl w5.heap.size #[.slice none 0 0, .slice none 0 0] #[.slice oa 0 ca, .slice ob 1 cb] 47 rfl rfl (heap_at rfl) rfl HR.out (two_slices _ _ _ _ _ _) ?_; intro w6 ho6 hp6))
  have hs3 : w2.heap.size < w3.heap.size + 1 := by have := bel3.size; omega
  have hs4 : w3.heap.size < w4.heap.size := lt_of_heap hp4
  have hs6 : w5.heap.size < w6.heap.size := lt_of_heap hp6
  have b4 : Below w3.heap.size w3 w4 := bel_only ((Below.refl _ _).alloc (Nat.le_refl _) _) ho4 (Nat.le_refl _)
  have b6 : Below w5.heap.size w5 w6 := bel_only ((Below.refl _ _).alloc (Nat.le_refl _) _) ho6 (Nat.le_refl _)
  have k1 := bel_keep b4 (lt_of_heap (bel_keep bel3 hs1 H1.out)) (bel_keep bel3 hs1 H1.out)
  have hs5 := bel5.size
  have St6 : ShSt B w3.heap.size w5.heap.size w w6 N D S1 S2 0 1 oa ob ca cb :=
    ⟨(B1.out.trans (bel3.mono (by omega))).trans ((b4.mono (by omega)).trans ((bel5.mono (by omega)).trans (b6.mono (by omega)))), bel_keep b6 (lt_of_heap (bel_keep bel5 (lt_of_heap k1) k1)) (bel_keep bel5 (lt_of_heap k1) k1),
      bel_keep b6 (lt_of_heap (bel_keep bel5 hs4 hp4)) (bel_keep bel5 hs4 hp4), by rw [dig_zero, hone.out]; exact hp6, hX.below b6, by omega, by omega⟩
  have HSt6 := Lib.hid St6
  clear hs3 hs4 hs6 b4 b6 k1 hs5 St6 hX bel3 bel5 ho4 hp4 ho6 hp6 B1 H1 hs1 QW QL QE
  generalize w3.heap.size = E at *
  generalize w5.heap.size = C at *
  by_cases hw : wrong2 A B0 = 0
  · obtain ⟨g1, g2⟩ := wrong2_good hw
    obtain ⟨n1, l1⟩ := wrongN_good g1
    obtain ⟨n2, l2⟩ := wrongN_good g2
    have hqq := HQ.out.trans (show wrongQ A B0 = if dv B0 = 0 then 5 else 0 from if_pos hw)
    have b1 := good_dv g1
    have b2 := good_dv g2
    rw [hw]
    by_cases hz : dv B0 = 0
    · have hb : B0 = [48] := (zero_text n2).1 hz
      have hb1 : (B0 == [48]) = true := by rw [beq_iff_eq]; exact hb
      rw [if_pos hz] at hqq
      have HT := Lib.hid (told_low q (strD (dv A / Nat.gcd (dv A) (dv B0))) (strD (dv B0 / Nat.gcd (dv A) (dv B0))) 0 1 (fun h => by rw [hqq] at h; cases h))
      rw [← HS1.out, ← HS2.out] at HT
      clear HS1 HS2
      rw [hqq] at HT
      have Hqq := Lib.hid hqq
      clear hw g1 g2 n1 l1 n2 l2 b1 b2 hz hb HQ
      subst hqq
      have QT := Lib.hid (fun w h => lawTold_any S1 S2 5 5 0 1 oa ob ca cb w HT.out h (by rw [dig_zero]; decide) (by rw [hone.out]; decide))
      go_upto_region 10 with (first
        | (refine wpList_load_whole rfl 45 _ rfl E #[.string ⟨S1.toArray⟩, .string ⟨S2.toArray⟩] _ _ _ rfl HSt6.out.f Tryd.underlying45 rfl HA.out ?_)
        | (refine wpList_load_whole rfl 47 _ rfl C #[.slice oa (dig 0).length ca, .slice ob (dig 1).length cb] _ _ _ rfl HSt6.out.p Tryd.underlying47 rfl HR.out ?_)
        | (go_at_call 33; refine (QT.out _ HSt6.out.X).mono ?_; rintro e w7 ⟨rfl, bel7⟩))
      have St7 := HSt6.out.keep bel7
      have B7 := Lib.hid St7.bel
      have H7 := Lib.hid St7.x
      have hs7 : B < w7.heap.size := lt_of_heap St7.x
      have c1 := cell_of_row w7 B 0 _ _ _ St7.x
      have c2 := cell_of_row w7 B 1 _ _ _ St7.x
      clear St7 bel7 HSt6 QT
      by_cases hn : wrongF N D = 0
      · have Z0 := Lib.hid (show showW N D 0 = 0 by unfold showW; rw [if_pos hn]; rfl)
        have T0 := Lib.hid (show showT N D 0 = SH.natT (dv N * 10 ^ 0 / dv D) 0 by unfold showT; rw [if_pos Z0.out]; rfl)
        have ZP := Lib.hid (show showW N D p = if p < 0 ∨ 100 < p then 4 else 0 from if_pos hn)
        obtain ⟨bN, bD, hD0⟩ := good_frac hn
        obtain ⟨n1, n2, n3, n4, -, -⟩ := wrongF_good hn
        have QRd := Lib.hid (fun w => lawRead_any N D w (by omega) (by omega) ((numB_iff N).1 n1).2.1 ((numB_iff D).1 n2).2.1)
        have QRS := Lib.hid (fun K (hK : K ≤ 100) on od cn cd w h => refShow_any (dv N) (dv D) on od cn cd K w h hD0 bN bD hK)
        have QRS0 := Lib.hid (QRS.out 0 (by decide))
        rw [show ((0 : Nat) : Int) = 0 from rfl] at QRS0
        have QTx0 := Lib.hid (fun w => lawText_any (showT N D 0) (SH.refT (dv N * 10 ^ 0 / dv D) 0) 0 0 w (.inl ⟨rfl, rfl, T0.out.trans (SH.same _ _)⟩))
        rw [show ((0 : Nat) : Int) = 0 from rfl] at QTx0
        rw [Z0.out, show ((0 : Nat) : Int) = 0 from rfl] at QFl
        clear T0 Z0
        generalize showT N D 0 = A0 at QFl QTx0
        generalize SH.refT (dv N * 10 ^ 0 / dv D) 0 = R0 at QRS0 QTx0
        rw [hn, show ((0 : Nat) : Int) = 0 from rfl] at QF
        have hn0 := Lib.hid hn
        clear hn bN bD hD0 n1 n2 n3 n4
        go_upto_region 11 with (go_at_call 29; refine (QF.out w7).mono ?_; rintro e w8 ⟨rfl, bel8⟩)
        have B8 := Lib.hid (B7.out.trans (bel8.mono (by omega)))
        have H8 := Lib.hid (bel_keep bel8 hs7 H7.out)
        have hs8 : B < w8.heap.size := lt_of_heap H8.out
        clear c1 c2 bel8 hs7 H7 B7 QF
        go_upto_region 15 with (first
          | (refine wpList_load_whole rfl 45 _ rfl B #[.string ⟨N.toArray⟩, .string ⟨D.toArray⟩] _ _ _ rfl H8.out Tryd.underlying45 rfl HA.out ?_)
          | (go_at_call 48; refine (QFl.out w8).mono ?_; rintro e w9 ⟨rfl, bel9⟩))
        have B9 := Lib.hid (B8.out.trans (bel9.mono (by omega)))
        have H9 := Lib.hid (bel_keep bel9 hs8 H8.out)
        have hs9 : B < w9.heap.size := lt_of_heap H9.out
        clear bel9 hs8 H8 B8 QFl
        go_upto_region 17 with (first
          | (refine wpList_load_whole rfl 45 _ rfl B #[.string ⟨N.toArray⟩, .string ⟨D.toArray⟩] _ _ _ rfl H9.out Tryd.underlying45 rfl HA.out ?_)
          | (go_at_call 31; refine (QRd.out w9).mono ?_; rintro e w10 ⟨on, od, cn, cd, rfl, hX, bel10⟩; have HX := Lib.hid hX; clear hX)
          | (go_at_call 50; refine (QRS0.out on od cn cd w10 HX.out).mono ?_; rintro e w11 ⟨rfl, bel11⟩)
          | (go_at_call 17; refine (QTx0.out w11).mono ?_; rintro e w12 ⟨rfl, rfl⟩))
        have bel12 := bel10.trans (bel11.mono bel10.size)
        have B12 := Lib.hid (B9.out.trans (bel12.mono (by omega)))
        have H12 := Lib.hid (bel_keep bel12 hs9 H9.out)
        have hs12 : B < w12.heap.size := lt_of_heap H12.out
        clear bel10 bel11 bel12 hs9 H9 B9 QRS0 QTx0 HX
        by_cases hp : p < 0 ∨ 100 < p
        · have hz4 := Lib.hid (ZP.out.trans (if_pos hp))
          have QTx := Lib.hid (fun w => lawText_any (showT N D p) [] 4 4 w (.inr ⟨by decide, rfl, by unfold showT; rw [hz4.out, if_neg (by decide)]⟩))
          rw [show ((4 : Nat) : Int) = 4 from rfl] at QTx
          rw [hz4.out, show ((4 : Nat) : Int) = 4 from rfl] at QSh
          clear ZP hz4
          generalize showT N D p = A0 at QSh QTx
          rcases Decidable.em (p < 0) with hp1 | hp1
          all_goals
            have hp2 : p < 0 ∨ 100 < p := hp
            clear hp
            first
              | (have hp3 : decide (p < 0) = true := decide_eq_true hp1)
              | (have hp3 : decide (p < 0) = false := decide_eq_false hp1; have hp4 : decide (100 < p) = true := decide_eq_true (by omega))
            clear hp2
            go_wp2_with (first
              | (refine wpList_load_whole rfl 45 _ rfl B #[.string ⟨N.toArray⟩, .string ⟨D.toArray⟩] _ _ _ rfl H12.out Tryd.underlying45 rfl HA.out ?_)
              | (go_at_call 49; refine (QSh.out w12).mono ?_; rintro e w13 ⟨rfl, bel13⟩)
              | (go_at_call 17; refine (QTx.out w13).mono ?_; rintro e w14 ⟨rfl, rfl⟩))
            go_ret
            exact ⟨rfl, by rw [HB.out]; exact B12.out.trans (bel13.mono (by omega))⟩
        · have hz0 := Lib.hid (ZP.out.trans (if_neg hp))
          have hp1 : ¬ p < 0 := by omega
          have hp3 : decide (p < 0) = false := decide_eq_false (by omega)
          have hp4 : decide (100 < p) = false := decide_eq_false (by omega)
          obtain ⟨k, rfl⟩ : ∃ k : Nat, p = (k : Int) := ⟨p.toNat, by omega⟩
          have hk : k ≤ 100 := by omega
          have QTx := Lib.hid (fun w => lawText_any (showT N D k) (SH.refT (dv N * 10 ^ k / dv D) k) 0 0 w (.inl ⟨rfl, rfl, by unfold showT; rw [hz0.out, if_pos rfl, Int.toNat_natCast, SH.same]⟩))
          rw [show ((0 : Nat) : Int) = 0 from rfl] at QTx
          rw [hz0.out, show ((0 : Nat) : Int) = 0 from rfl] at QSh
          have QRS2 := Lib.hid (QRS.out k hk)
          clear ZP hp QRS hz0
          generalize showT N D k = A0 at QSh QTx
          generalize SH.refT (dv N * 10 ^ k / dv D) k = R0 at QRS2 QTx
          go_upto_region 18 with (first
            | (refine wpList_load_whole rfl 45 _ rfl B #[.string ⟨N.toArray⟩, .string ⟨D.toArray⟩] _ _ _ rfl H12.out Tryd.underlying45 rfl HA.out ?_)
            | (go_at_call 49; refine (QSh.out w12).mono ?_; rintro e w13 ⟨rfl, bel13⟩))
          have B13 := Lib.hid (B12.out.trans (bel13.mono (by omega)))
          have H13 := Lib.hid (bel_keep bel13 hs12 H12.out)
          have hs13 : B < w13.heap.size := lt_of_heap H13.out
          clear bel13 hs12 H12 B12 QSh
          go_wp2_with (first
            | (refine wpList_load_whole rfl 45 _ rfl B #[.string ⟨N.toArray⟩, .string ⟨D.toArray⟩] _ _ _ rfl H13.out Tryd.underlying45 rfl HA.out ?_)
            | (go_at_call 31; refine (QRd.out w13).mono ?_; rintro e w14 ⟨on2, od2, cn2, cd2, rfl, hX, bel14⟩; have HX := Lib.hid hX; clear hX)
            | (go_at_call 50; refine (QRS2.out on2 od2 cn2 cd2 w14 HX.out).mono ?_; rintro e w15 ⟨rfl, bel15⟩)
            | (go_at_call 17; refine (QTx.out w15).mono ?_; rintro e w16 ⟨rfl, rfl⟩))
          go_ret
          exact ⟨rfl, by rw [HB.out]; exact B13.out.trans ((bel14.trans (bel15.mono bel14.size)).mono (by omega))⟩
      · have Z0 := Lib.hid (show showW N D 0 = wrongF N D from if_neg hn)
        have ZP := Lib.hid (show showW N D p = wrongF N D from if_neg hn)
        have T0 := Lib.hid (show showT N D 0 = [] by unfold showT; rw [Z0.out, if_neg hn])
        have TP := Lib.hid (show showT N D p = [] by unfold showT; rw [ZP.out, if_neg hn])
        rw [Z0.out, T0.out] at QFl
        rw [ZP.out, TP.out] at QSh
        generalize wrongF N D = n at *
        have QTx := Lib.hid (fun w => lawText_any [] [] n n w (.inr ⟨hn, rfl, rfl⟩))
        have hn0 : ((n : Int) == 0) = false := by rw [beq_eq_false_iff_ne]; omega
        clear hn Z0 ZP T0 TP
        go_upto_region 11 with (go_at_call 29; refine (QF.out w7).mono ?_; rintro e w8 ⟨rfl, bel8⟩)
        have B8 := Lib.hid (B7.out.trans (bel8.mono (by omega)))
        have H8 := Lib.hid (bel_keep bel8 hs7 H7.out)
        have hs8 : B < w8.heap.size := lt_of_heap H8.out
        clear c1 c2 bel8 hs7 H7 B7 QF
        go_upto_region 12 with (first
          | (refine wpList_load_whole rfl 45 _ rfl B #[.string ⟨N.toArray⟩, .string ⟨D.toArray⟩] _ _ _ rfl H8.out Tryd.underlying45 rfl HA.out ?_)
          | (go_at_call 48; refine (QFl.out w8).mono ?_; rintro e w9 ⟨rfl, bel9⟩))
        have B9 := Lib.hid (B8.out.trans (bel9.mono (by omega)))
        have H9 := Lib.hid (bel_keep bel9 hs8 H8.out)
        have hs9 : B < w9.heap.size := lt_of_heap H9.out
        clear bel9 hs8 H8 B8 QFl
        go_wp2_with (first
          | (refine wpList_load_whole rfl 45 _ rfl B #[.string ⟨N.toArray⟩, .string ⟨D.toArray⟩] _ _ _ rfl H9.out Tryd.underlying45 rfl HA.out ?_)
          | (go_at_call 49; refine (QSh.out w9).mono ?_; rintro e w10 ⟨rfl, bel10⟩)
          | (go_at_call 17; refine (QTx.out _).mono ?_; rintro e w11 ⟨rfl, rfl⟩))
        go_ret
        exact ⟨rfl, by rw [HB.out]; exact B9.out.trans (bel10.mono (by omega))⟩
    · have hb : ¬ B0 = [48] := fun h => hz ((zero_text n2).2 h)
      have hb1 : (B0 == [48]) = false := by rw [beq_eq_false_iff_ne]; exact hb
      rw [if_neg hz] at hqq
      have hy0 : 0 < dv B0 := by omega
      have HT := Lib.hid (told_low q (strD (dv A / Nat.gcd (dv A) (dv B0))) (strD (dv B0 / Nat.gcd (dv A) (dv B0))) (dv A / Nat.gcd (dv A) (dv B0)) (dv B0 / Nat.gcd (dv A) (dv B0)) (fun _ => ⟨rfl, rfl⟩))
      have e12 := Lib.hid (show S1 = strD (dv A / Nat.gcd (dv A) (dv B0)) ∧ S2 = strD (dv B0 / Nat.gcd (dv A) (dv B0)) from ⟨HS1.out.trans (if_pos hqq), HS2.out.trans (if_pos hqq)⟩)
      clear HS1 HS2 HT
      have m1 := Lib.hid (show (dig (dv A / Nat.gcd (dv A) (dv B0))).length < 1099511627776 from Nat.lt_of_le_of_lt (b1.div _).digs (by decide))
      have m2 := Lib.hid (show (dig (dv B0 / Nat.gcd (dv A) (dv B0))).length < 1099511627776 from Nat.lt_of_le_of_lt (b2.div _).digs (by decide))
      have QR1 := Lib.hid (fun w => refRead_any A w (by omega) ((numB_iff A).1 n1).2.1)
      have QR2 := Lib.hid (fun w => refRead_any B0 w (by omega) ((numB_iff B0).1 n2).2.1)
      have QLo := Lib.hid (fun oa ob ca cb w h1 h2 => refLowest_any (dv A) (dv B0) oa ob ca cb w hy0 h1 h2 (Nat.lt_of_le_of_lt b1.digs (by decide)) (Nat.lt_of_le_of_lt b2.digs (by decide)))
      clear hw g1 g2 n1 l1 n2 l2 b1 b2 hz hb HQ hy0
      subst hqq
      generalize dv A / Nat.gcd (dv A) (dv B0) = x at *
      generalize dv B0 / Nat.gcd (dv A) (dv B0) = y at *
      generalize dv A = x0 at *
      generalize dv B0 = y0 at *
      have hs6 := lt_of_heap HSt6.out.p
      have hl1 := HSt6.out.lt1
      have hl2 := HSt6.out.lt2
      go_upto_region 8 with (first
        | (go_at_call 15; (with_reducible refine (QR1.out w6).mono ?_); rintro e v1 ⟨o1, q1, rfl, hI1, be1, -⟩; have HI1 := Lib.hid hI1; have BE1 := Lib.hid be1; clear hI1 be1)
        | (go_at_call 15; refine (QR2.out v1).mono ?_; rintro e v2 ⟨o2, q2, rfl, hI2, be2, -⟩; have HI2 := Lib.hid hI2; have HI3 := Lib.hid (HI1.out.below be2); have BE2 := Lib.hid (BE1.out.trans (be2.mono BE1.out.size)); clear hI2 be2)
        | (go_at_call 47; refine (QLo.out o1 o2 q1 q2 v2 HI3.out HI2.out).mono ?_; rintro e v3 ⟨o3, o4, q3, q4, rfl, hL, be3⟩; have HL := Lib.hid hL; have BE3 := Lib.hid (BE2.out.trans (be3.mono BE2.out.size)); have HSt3 := Lib.hid (HSt6.out.keep BE3.out); clear hL be3)
        | (refine wpList_store_whole rfl rfl 47 _ _ rfl C #[.slice oa (dig 0).length ca, .slice ob (dig 1).length cb] #[.slice o3 (dig x).length q3, .slice o4 (dig y).length q4] 47 rfl rfl HSt3.out.p rfl HR.out (two_slices _ _ _ _ _ _) ?_; intro v4 ho hp; have HO := Lib.hid ho; have HP := Lib.hid hp; clear ho hp))
      have HSt8 := Lib.hid (show ShSt B E C w v4 N D S1 S2 x y o3 o4 q3 q4 from
        ⟨bel_only HSt3.out.bel HO.out (by omega), HO.out.keep (by omega) HSt3.out.x, HO.out.keep (by omega) HSt3.out.f, HP.out, ⟨HL.out.num.spared HSt3.out.p (two_noInt2 _ _ _ _ _ _) HO.out, HL.out.den.spared HSt3.out.p (two_noInt2 _ _ _ _ _ _) HO.out⟩, hl1, hl2⟩)
      have QT := Lib.hid (fun w h => lawTold_any S1 S2 0 0 x y o3 o4 q3 q4 w (.inl ⟨rfl, rfl, e12.out.1, e12.out.2⟩) h m1.out m2.out)
      rw [show ((0 : Nat) : Int) = 0 from rfl] at QT
      clear HSt6 HSt3 HO HP HL HI1 HI2 HI3 BE1 BE2 BE3 QR1 QR2 QLo hs6 hl1 hl2
      go_upto_region 10 with (first
        | (refine wpList_load_whole rfl 45 _ rfl E #[.string ⟨S1.toArray⟩, .string ⟨S2.toArray⟩] _ _ _ rfl HSt8.out.f Tryd.underlying45 rfl HA.out ?_)
        | (refine wpList_load_whole rfl 47 _ rfl C #[.slice o3 (dig x).length q3, .slice o4 (dig y).length q4] _ _ _ rfl HSt8.out.p Tryd.underlying47 rfl HR.out ?_)
        | (go_at_call 33; refine (QT.out _ HSt8.out.X).mono ?_; rintro e w7 ⟨rfl, bel7⟩))
      have St7 := HSt8.out.keep bel7
      have B7 := Lib.hid St7.bel
      have H7 := Lib.hid St7.x
      have hs7 : B < w7.heap.size := lt_of_heap St7.x
      have c1 := cell_of_row w7 B 0 _ _ _ St7.x
      have c2 := cell_of_row w7 B 1 _ _ _ St7.x
      clear St7 bel7 HSt8 QT
      by_cases hn : wrongF N D = 0
      · have Z0 := Lib.hid (show showW N D 0 = 0 by unfold showW; rw [if_pos hn]; rfl)
        have T0 := Lib.hid (show showT N D 0 = SH.natT (dv N * 10 ^ 0 / dv D) 0 by unfold showT; rw [if_pos Z0.out]; rfl)
        have ZP := Lib.hid (show showW N D p = if p < 0 ∨ 100 < p then 4 else 0 from if_pos hn)
        obtain ⟨bN, bD, hD0⟩ := good_frac hn
        obtain ⟨n1, n2, n3, n4, -, -⟩ := wrongF_good hn
        have QRd := Lib.hid (fun w => lawRead_any N D w (by omega) (by omega) ((numB_iff N).1 n1).2.1 ((numB_iff D).1 n2).2.1)
        have QRS := Lib.hid (fun K (hK : K ≤ 100) on od cn cd w h => refShow_any (dv N) (dv D) on od cn cd K w h hD0 bN bD hK)
        have QRS0 := Lib.hid (QRS.out 0 (by decide))
        rw [show ((0 : Nat) : Int) = 0 from rfl] at QRS0
        have QTx0 := Lib.hid (fun w => lawText_any (showT N D 0) (SH.refT (dv N * 10 ^ 0 / dv D) 0) 0 0 w (.inl ⟨rfl, rfl, T0.out.trans (SH.same _ _)⟩))
        rw [show ((0 : Nat) : Int) = 0 from rfl] at QTx0
        rw [Z0.out, show ((0 : Nat) : Int) = 0 from rfl] at QFl
        clear T0 Z0
        generalize showT N D 0 = A0 at QFl QTx0
        generalize SH.refT (dv N * 10 ^ 0 / dv D) 0 = R0 at QRS0 QTx0
        rw [hn, show ((0 : Nat) : Int) = 0 from rfl] at QF
        have hn0 := Lib.hid hn
        clear hn bN bD hD0 n1 n2 n3 n4
        go_upto_region 11 with (go_at_call 29; refine (QF.out w7).mono ?_; rintro e w8 ⟨rfl, bel8⟩)
        have B8 := Lib.hid (B7.out.trans (bel8.mono (by omega)))
        have H8 := Lib.hid (bel_keep bel8 hs7 H7.out)
        have hs8 : B < w8.heap.size := lt_of_heap H8.out
        clear c1 c2 bel8 hs7 H7 B7 QF
        go_upto_region 15 with (first
          | (refine wpList_load_whole rfl 45 _ rfl B #[.string ⟨N.toArray⟩, .string ⟨D.toArray⟩] _ _ _ rfl H8.out Tryd.underlying45 rfl HA.out ?_)
          | (go_at_call 48; refine (QFl.out w8).mono ?_; rintro e w9 ⟨rfl, bel9⟩))
        have B9 := Lib.hid (B8.out.trans (bel9.mono (by omega)))
        have H9 := Lib.hid (bel_keep bel9 hs8 H8.out)
        have hs9 : B < w9.heap.size := lt_of_heap H9.out
        clear bel9 hs8 H8 B8 QFl
        go_upto_region 17 with (first
          | (refine wpList_load_whole rfl 45 _ rfl B #[.string ⟨N.toArray⟩, .string ⟨D.toArray⟩] _ _ _ rfl H9.out Tryd.underlying45 rfl HA.out ?_)
          | (go_at_call 31; refine (QRd.out w9).mono ?_; rintro e w10 ⟨on, od, cn, cd, rfl, hX, bel10⟩; have HX := Lib.hid hX; clear hX)
          | (go_at_call 50; refine (QRS0.out on od cn cd w10 HX.out).mono ?_; rintro e w11 ⟨rfl, bel11⟩)
          | (go_at_call 17; refine (QTx0.out w11).mono ?_; rintro e w12 ⟨rfl, rfl⟩))
        have bel12 := bel10.trans (bel11.mono bel10.size)
        have B12 := Lib.hid (B9.out.trans (bel12.mono (by omega)))
        have H12 := Lib.hid (bel_keep bel12 hs9 H9.out)
        have hs12 : B < w12.heap.size := lt_of_heap H12.out
        clear bel10 bel11 bel12 hs9 H9 B9 QRS0 QTx0 HX
        by_cases hp : p < 0 ∨ 100 < p
        · have hz4 := Lib.hid (ZP.out.trans (if_pos hp))
          have QTx := Lib.hid (fun w => lawText_any (showT N D p) [] 4 4 w (.inr ⟨by decide, rfl, by unfold showT; rw [hz4.out, if_neg (by decide)]⟩))
          rw [show ((4 : Nat) : Int) = 4 from rfl] at QTx
          rw [hz4.out, show ((4 : Nat) : Int) = 4 from rfl] at QSh
          clear ZP hz4
          generalize showT N D p = A0 at QSh QTx
          rcases Decidable.em (p < 0) with hp1 | hp1
          all_goals
            have hp2 : p < 0 ∨ 100 < p := hp
            clear hp
            first
              | (have hp3 : decide (p < 0) = true := decide_eq_true hp1)
              | (have hp3 : decide (p < 0) = false := decide_eq_false hp1; have hp4 : decide (100 < p) = true := decide_eq_true (by omega))
            clear hp2
            go_wp2_with (first
              | (refine wpList_load_whole rfl 45 _ rfl B #[.string ⟨N.toArray⟩, .string ⟨D.toArray⟩] _ _ _ rfl H12.out Tryd.underlying45 rfl HA.out ?_)
              | (go_at_call 49; refine (QSh.out w12).mono ?_; rintro e w13 ⟨rfl, bel13⟩)
              | (go_at_call 17; refine (QTx.out w13).mono ?_; rintro e w14 ⟨rfl, rfl⟩))
            go_ret
            exact ⟨rfl, by rw [HB.out]; exact B12.out.trans (bel13.mono (by omega))⟩
        · have hz0 := Lib.hid (ZP.out.trans (if_neg hp))
          have hp1 : ¬ p < 0 := by omega
          have hp3 : decide (p < 0) = false := decide_eq_false (by omega)
          have hp4 : decide (100 < p) = false := decide_eq_false (by omega)
          obtain ⟨k, rfl⟩ : ∃ k : Nat, p = (k : Int) := ⟨p.toNat, by omega⟩
          have hk : k ≤ 100 := by omega
          have QTx := Lib.hid (fun w => lawText_any (showT N D k) (SH.refT (dv N * 10 ^ k / dv D) k) 0 0 w (.inl ⟨rfl, rfl, by unfold showT; rw [hz0.out, if_pos rfl, Int.toNat_natCast, SH.same]⟩))
          rw [show ((0 : Nat) : Int) = 0 from rfl] at QTx
          rw [hz0.out, show ((0 : Nat) : Int) = 0 from rfl] at QSh
          have QRS2 := Lib.hid (QRS.out k hk)
          clear ZP hp QRS hz0
          generalize showT N D k = A0 at QSh QTx
          generalize SH.refT (dv N * 10 ^ k / dv D) k = R0 at QRS2 QTx
          go_upto_region 18 with (first
            | (refine wpList_load_whole rfl 45 _ rfl B #[.string ⟨N.toArray⟩, .string ⟨D.toArray⟩] _ _ _ rfl H12.out Tryd.underlying45 rfl HA.out ?_)
            | (go_at_call 49; refine (QSh.out w12).mono ?_; rintro e w13 ⟨rfl, bel13⟩))
          have B13 := Lib.hid (B12.out.trans (bel13.mono (by omega)))
          have H13 := Lib.hid (bel_keep bel13 hs12 H12.out)
          have hs13 : B < w13.heap.size := lt_of_heap H13.out
          clear bel13 hs12 H12 B12 QSh
          go_wp2_with (first
            | (refine wpList_load_whole rfl 45 _ rfl B #[.string ⟨N.toArray⟩, .string ⟨D.toArray⟩] _ _ _ rfl H13.out Tryd.underlying45 rfl HA.out ?_)
            | (go_at_call 31; refine (QRd.out w13).mono ?_; rintro e w14 ⟨on2, od2, cn2, cd2, rfl, hX, bel14⟩; have HX := Lib.hid hX; clear hX)
            | (go_at_call 50; refine (QRS2.out on2 od2 cn2 cd2 w14 HX.out).mono ?_; rintro e w15 ⟨rfl, bel15⟩)
            | (go_at_call 17; refine (QTx.out w15).mono ?_; rintro e w16 ⟨rfl, rfl⟩))
          go_ret
          exact ⟨rfl, by rw [HB.out]; exact B13.out.trans ((bel14.trans (bel15.mono bel14.size)).mono (by omega))⟩
      · have Z0 := Lib.hid (show showW N D 0 = wrongF N D from if_neg hn)
        have ZP := Lib.hid (show showW N D p = wrongF N D from if_neg hn)
        have T0 := Lib.hid (show showT N D 0 = [] by unfold showT; rw [Z0.out, if_neg hn])
        have TP := Lib.hid (show showT N D p = [] by unfold showT; rw [ZP.out, if_neg hn])
        rw [Z0.out, T0.out] at QFl
        rw [ZP.out, TP.out] at QSh
        generalize wrongF N D = n at *
        have QTx := Lib.hid (fun w => lawText_any [] [] n n w (.inr ⟨hn, rfl, rfl⟩))
        have hn0 : ((n : Int) == 0) = false := by rw [beq_eq_false_iff_ne]; omega
        clear hn Z0 ZP T0 TP
        go_upto_region 11 with (go_at_call 29; refine (QF.out w7).mono ?_; rintro e w8 ⟨rfl, bel8⟩)
        have B8 := Lib.hid (B7.out.trans (bel8.mono (by omega)))
        have H8 := Lib.hid (bel_keep bel8 hs7 H7.out)
        have hs8 : B < w8.heap.size := lt_of_heap H8.out
        clear c1 c2 bel8 hs7 H7 B7 QF
        go_upto_region 12 with (first
          | (refine wpList_load_whole rfl 45 _ rfl B #[.string ⟨N.toArray⟩, .string ⟨D.toArray⟩] _ _ _ rfl H8.out Tryd.underlying45 rfl HA.out ?_)
          | (go_at_call 48; refine (QFl.out w8).mono ?_; rintro e w9 ⟨rfl, bel9⟩))
        have B9 := Lib.hid (B8.out.trans (bel9.mono (by omega)))
        have H9 := Lib.hid (bel_keep bel9 hs8 H8.out)
        have hs9 : B < w9.heap.size := lt_of_heap H9.out
        clear bel9 hs8 H8 B8 QFl
        go_wp2_with (first
          | (refine wpList_load_whole rfl 45 _ rfl B #[.string ⟨N.toArray⟩, .string ⟨D.toArray⟩] _ _ _ rfl H9.out Tryd.underlying45 rfl HA.out ?_)
          | (go_at_call 49; refine (QSh.out w9).mono ?_; rintro e w10 ⟨rfl, bel10⟩)
          | (go_at_call 17; refine (QTx.out _).mono ?_; rintro e w11 ⟨rfl, rfl⟩))
        go_ret
        exact ⟨rfl, by rw [HB.out]; exact B9.out.trans (bel10.mono (by omega))⟩
  · have hqq := HQ.out.trans (show wrongQ A B0 = wrong2 A B0 from if_neg hw)
    rw [← hqq] at hw ⊢
    have hq0 : ((q : Int) == 0) = false := by rw [beq_eq_false_iff_ne]; omega
    have HT := Lib.hid (told_low q (strD (dv A / Nat.gcd (dv A) (dv B0))) (strD (dv B0 / Nat.gcd (dv A) (dv B0))) 0 1 (fun h => absurd h hw))
    rw [← HS1.out, ← HS2.out] at HT
    have QT := Lib.hid (fun w h => lawTold_any S1 S2 q q 0 1 oa ob ca cb w HT.out h (by rw [dig_zero]; decide) (by rw [hone.out]; decide))
    clear HS1 HS2 hqq hw HQ
    go_upto_region 10 with (first
        | (refine wpList_load_whole rfl 45 _ rfl E #[.string ⟨S1.toArray⟩, .string ⟨S2.toArray⟩] _ _ _ rfl HSt6.out.f Tryd.underlying45 rfl HA.out ?_)
        | (refine wpList_load_whole rfl 47 _ rfl C #[.slice oa (dig 0).length ca, .slice ob (dig 1).length cb] _ _ _ rfl HSt6.out.p Tryd.underlying47 rfl HR.out ?_)
        | (go_at_call 33; refine (QT.out _ HSt6.out.X).mono ?_; rintro e w7 ⟨rfl, bel7⟩))
    have St7 := HSt6.out.keep bel7
    have B7 := Lib.hid St7.bel
    have H7 := Lib.hid St7.x
    have hs7 : B < w7.heap.size := lt_of_heap St7.x
    have c1 := cell_of_row w7 B 0 _ _ _ St7.x
    have c2 := cell_of_row w7 B 1 _ _ _ St7.x
    clear St7 bel7 HSt6 QT
    by_cases hn : wrongF N D = 0
    · have Z0 := Lib.hid (show showW N D 0 = 0 by unfold showW; rw [if_pos hn]; rfl)
      have T0 := Lib.hid (show showT N D 0 = SH.natT (dv N * 10 ^ 0 / dv D) 0 by unfold showT; rw [if_pos Z0.out]; rfl)
      have ZP := Lib.hid (show showW N D p = if p < 0 ∨ 100 < p then 4 else 0 from if_pos hn)
      obtain ⟨bN, bD, hD0⟩ := good_frac hn
      obtain ⟨n1, n2, n3, n4, -, -⟩ := wrongF_good hn
      have QRd := Lib.hid (fun w => lawRead_any N D w (by omega) (by omega) ((numB_iff N).1 n1).2.1 ((numB_iff D).1 n2).2.1)
      have QRS := Lib.hid (fun K (hK : K ≤ 100) on od cn cd w h => refShow_any (dv N) (dv D) on od cn cd K w h hD0 bN bD hK)
      have QRS0 := Lib.hid (QRS.out 0 (by decide))
      rw [show ((0 : Nat) : Int) = 0 from rfl] at QRS0
      have QTx0 := Lib.hid (fun w => lawText_any (showT N D 0) (SH.refT (dv N * 10 ^ 0 / dv D) 0) 0 0 w (.inl ⟨rfl, rfl, T0.out.trans (SH.same _ _)⟩))
      rw [show ((0 : Nat) : Int) = 0 from rfl] at QTx0
      rw [Z0.out, show ((0 : Nat) : Int) = 0 from rfl] at QFl
      clear T0 Z0
      generalize showT N D 0 = A0 at QFl QTx0
      generalize SH.refT (dv N * 10 ^ 0 / dv D) 0 = R0 at QRS0 QTx0
      rw [hn, show ((0 : Nat) : Int) = 0 from rfl] at QF
      have hn0 := Lib.hid hn
      clear hn bN bD hD0 n1 n2 n3 n4
      go_upto_region 11 with (go_at_call 29; refine (QF.out w7).mono ?_; rintro e w8 ⟨rfl, bel8⟩)
      have B8 := Lib.hid (B7.out.trans (bel8.mono (by omega)))
      have H8 := Lib.hid (bel_keep bel8 hs7 H7.out)
      have hs8 : B < w8.heap.size := lt_of_heap H8.out
      clear c1 c2 bel8 hs7 H7 B7 QF
      go_upto_region 15 with (first
        | (refine wpList_load_whole rfl 45 _ rfl B #[.string ⟨N.toArray⟩, .string ⟨D.toArray⟩] _ _ _ rfl H8.out Tryd.underlying45 rfl HA.out ?_)
        | (go_at_call 48; refine (QFl.out w8).mono ?_; rintro e w9 ⟨rfl, bel9⟩))
      have B9 := Lib.hid (B8.out.trans (bel9.mono (by omega)))
      have H9 := Lib.hid (bel_keep bel9 hs8 H8.out)
      have hs9 : B < w9.heap.size := lt_of_heap H9.out
      clear bel9 hs8 H8 B8 QFl
      go_upto_region 17 with (first
        | (refine wpList_load_whole rfl 45 _ rfl B #[.string ⟨N.toArray⟩, .string ⟨D.toArray⟩] _ _ _ rfl H9.out Tryd.underlying45 rfl HA.out ?_)
        | (go_at_call 31; refine (QRd.out w9).mono ?_; rintro e w10 ⟨on, od, cn, cd, rfl, hX, bel10⟩; have HX := Lib.hid hX; clear hX)
        | (go_at_call 50; refine (QRS0.out on od cn cd w10 HX.out).mono ?_; rintro e w11 ⟨rfl, bel11⟩)
        | (go_at_call 17; refine (QTx0.out w11).mono ?_; rintro e w12 ⟨rfl, rfl⟩))
      have bel12 := bel10.trans (bel11.mono bel10.size)
      have B12 := Lib.hid (B9.out.trans (bel12.mono (by omega)))
      have H12 := Lib.hid (bel_keep bel12 hs9 H9.out)
      have hs12 : B < w12.heap.size := lt_of_heap H12.out
      clear bel10 bel11 bel12 hs9 H9 B9 QRS0 QTx0 HX
      by_cases hp : p < 0 ∨ 100 < p
      · have hz4 := Lib.hid (ZP.out.trans (if_pos hp))
        have QTx := Lib.hid (fun w => lawText_any (showT N D p) [] 4 4 w (.inr ⟨by decide, rfl, by unfold showT; rw [hz4.out, if_neg (by decide)]⟩))
        rw [show ((4 : Nat) : Int) = 4 from rfl] at QTx
        rw [hz4.out, show ((4 : Nat) : Int) = 4 from rfl] at QSh
        clear ZP hz4
        generalize showT N D p = A0 at QSh QTx
        rcases Decidable.em (p < 0) with hp1 | hp1
        all_goals
          have hp2 : p < 0 ∨ 100 < p := hp
          clear hp
          first
            | (have hp3 : decide (p < 0) = true := decide_eq_true hp1)
            | (have hp3 : decide (p < 0) = false := decide_eq_false hp1; have hp4 : decide (100 < p) = true := decide_eq_true (by omega))
          clear hp2
          go_wp2_with (first
            | (refine wpList_load_whole rfl 45 _ rfl B #[.string ⟨N.toArray⟩, .string ⟨D.toArray⟩] _ _ _ rfl H12.out Tryd.underlying45 rfl HA.out ?_)
            | (go_at_call 49; refine (QSh.out w12).mono ?_; rintro e w13 ⟨rfl, bel13⟩)
            | (go_at_call 17; refine (QTx.out w13).mono ?_; rintro e w14 ⟨rfl, rfl⟩))
          go_ret
          exact ⟨rfl, by rw [HB.out]; exact B12.out.trans (bel13.mono (by omega))⟩
      · have hz0 := Lib.hid (ZP.out.trans (if_neg hp))
        have hp1 : ¬ p < 0 := by omega
        have hp3 : decide (p < 0) = false := decide_eq_false (by omega)
        have hp4 : decide (100 < p) = false := decide_eq_false (by omega)
        obtain ⟨k, rfl⟩ : ∃ k : Nat, p = (k : Int) := ⟨p.toNat, by omega⟩
        have hk : k ≤ 100 := by omega
        have QTx := Lib.hid (fun w => lawText_any (showT N D k) (SH.refT (dv N * 10 ^ k / dv D) k) 0 0 w (.inl ⟨rfl, rfl, by unfold showT; rw [hz0.out, if_pos rfl, Int.toNat_natCast, SH.same]⟩))
        rw [show ((0 : Nat) : Int) = 0 from rfl] at QTx
        rw [hz0.out, show ((0 : Nat) : Int) = 0 from rfl] at QSh
        have QRS2 := Lib.hid (QRS.out k hk)
        clear ZP hp QRS hz0
        generalize showT N D k = A0 at QSh QTx
        generalize SH.refT (dv N * 10 ^ k / dv D) k = R0 at QRS2 QTx
        go_upto_region 18 with (first
          | (refine wpList_load_whole rfl 45 _ rfl B #[.string ⟨N.toArray⟩, .string ⟨D.toArray⟩] _ _ _ rfl H12.out Tryd.underlying45 rfl HA.out ?_)
          | (go_at_call 49; refine (QSh.out w12).mono ?_; rintro e w13 ⟨rfl, bel13⟩))
        have B13 := Lib.hid (B12.out.trans (bel13.mono (by omega)))
        have H13 := Lib.hid (bel_keep bel13 hs12 H12.out)
        have hs13 : B < w13.heap.size := lt_of_heap H13.out
        clear bel13 hs12 H12 B12 QSh
        go_wp2_with (first
          | (refine wpList_load_whole rfl 45 _ rfl B #[.string ⟨N.toArray⟩, .string ⟨D.toArray⟩] _ _ _ rfl H13.out Tryd.underlying45 rfl HA.out ?_)
          | (go_at_call 31; refine (QRd.out w13).mono ?_; rintro e w14 ⟨on2, od2, cn2, cd2, rfl, hX, bel14⟩; have HX := Lib.hid hX; clear hX)
          | (go_at_call 50; refine (QRS2.out on2 od2 cn2 cd2 w14 HX.out).mono ?_; rintro e w15 ⟨rfl, bel15⟩)
          | (go_at_call 17; refine (QTx.out w15).mono ?_; rintro e w16 ⟨rfl, rfl⟩))
        go_ret
        exact ⟨rfl, by rw [HB.out]; exact B13.out.trans ((bel14.trans (bel15.mono bel14.size)).mono (by omega))⟩
    · have Z0 := Lib.hid (show showW N D 0 = wrongF N D from if_neg hn)
      have ZP := Lib.hid (show showW N D p = wrongF N D from if_neg hn)
      have T0 := Lib.hid (show showT N D 0 = [] by unfold showT; rw [Z0.out, if_neg hn])
      have TP := Lib.hid (show showT N D p = [] by unfold showT; rw [ZP.out, if_neg hn])
      rw [Z0.out, T0.out] at QFl
      rw [ZP.out, TP.out] at QSh
      generalize wrongF N D = n at *
      have QTx := Lib.hid (fun w => lawText_any [] [] n n w (.inr ⟨hn, rfl, rfl⟩))
      have hn0 : ((n : Int) == 0) = false := by rw [beq_eq_false_iff_ne]; omega
      clear hn Z0 ZP T0 TP
      go_upto_region 11 with (go_at_call 29; refine (QF.out w7).mono ?_; rintro e w8 ⟨rfl, bel8⟩)
      have B8 := Lib.hid (B7.out.trans (bel8.mono (by omega)))
      have H8 := Lib.hid (bel_keep bel8 hs7 H7.out)
      have hs8 : B < w8.heap.size := lt_of_heap H8.out
      clear c1 c2 bel8 hs7 H7 B7 QF
      go_upto_region 12 with (first
        | (refine wpList_load_whole rfl 45 _ rfl B #[.string ⟨N.toArray⟩, .string ⟨D.toArray⟩] _ _ _ rfl H8.out Tryd.underlying45 rfl HA.out ?_)
        | (go_at_call 48; refine (QFl.out w8).mono ?_; rintro e w9 ⟨rfl, bel9⟩))
      have B9 := Lib.hid (B8.out.trans (bel9.mono (by omega)))
      have H9 := Lib.hid (bel_keep bel9 hs8 H8.out)
      have hs9 : B < w9.heap.size := lt_of_heap H9.out
      clear bel9 hs8 H8 B8 QFl
      go_wp2_with (first
        | (refine wpList_load_whole rfl 45 _ rfl B #[.string ⟨N.toArray⟩, .string ⟨D.toArray⟩] _ _ _ rfl H9.out Tryd.underlying45 rfl HA.out ?_)
        | (go_at_call 49; refine (QSh.out w9).mono ?_; rintro e w10 ⟨rfl, bel10⟩)
        | (go_at_call 17; refine (QTx.out _).mono ?_; rintro e w11 ⟨rfl, rfl⟩))
      go_ret
      exact ⟨rfl, by rw [HB.out]; exact B9.out.trans (bel10.mono (by omega))⟩
end Go.Proofs.YtkkpfoidppjbdaaDoor
