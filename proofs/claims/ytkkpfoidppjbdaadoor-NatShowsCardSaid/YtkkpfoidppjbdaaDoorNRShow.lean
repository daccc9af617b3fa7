/-
  The reference's Show.
-/
import Derived.Test.YtkkpfoidppjbdaaDoorShPlain
import Derived.Test.YtkkpfoidppjbdaaDoorBFracN
import Derived.Test.YtkkpfoidppjbdaaDoorBPlain
namespace Go.Proofs.YtkkpfoidppjbdaaDoor
set_option linter.unusedVariables false
set_option linter.unusedSimpArgs false
open Go.RowKit ML FM ND

theorem ch_cells (d : Nat) (h : d < 10) : Lib.byteCells [SH.ch d] = [.int .u8 ((d : Int) + 48)] := by
  have e : ((SH.ch d).toNat : Int) = (d : Int) + 48 := by
    have : (SH.ch d).toNat = d + 48 := by unfold SH.ch; simp; omega
    omega
  simp [Lib.byteCells, e]
theorem length_refS (D : List Nat) (p : Nat) : ∀ k, (SH.refS D p k).length ≤ 2 * k := by
  intro k
  induction k with
  | zero => simp [SH.refS]
  | succ k ih => simp only [SH.refS, List.length_cons]; split <;> (try rw [List.length_cons]) <;> omega
theorem append_one (c : UInt8) (S : Bytes) : ByteArray.mk [c].toArray ++ ByteArray.mk S.toArray = ByteArray.mk (c :: S).toArray := append_mk [c] S
theorem append_dot' (S : Bytes) : ByteArray.mk #[46] ++ ByteArray.mk S.toArray = ByteArray.mk (46 :: S).toArray := append_mk [46] S
theorem append_nil' (S : Bytes) : ByteArray.mk #[48, 46] ++ ByteArray.mk S.toArray = ByteArray.mk ([48, 46] ++ S).toArray := append_mk [48, 46] S
theorem dig_ten : dig 10 = [0, 1] := by
  rw [dig_pos (by decide)]
  simp only [Nat.reduceMod, Nat.reduceDiv]
  rw [dig_pos (by decide)]
  simp [dig_zero]
theorem NB.ten' (p : Nat) : NB (p + 1) (10 ^ p) := ⟨p + 1, Nat.le_refl _, Nat.pow_lt_pow_right (by decide) (by omega)⟩
theorem refAt_same (oa : Option Addr) (L : List Nat) (cap i : Nat) (w : World) (h : IntsAt w oa L) (hl : L.length < 9223372036854775808) (hi : i < 9223372036854775808) :
    Calls Tryd.prog 61 #[.slice oa L.length cap, .int .i64 (i : Int)] w fun e w' => e = .returned (.int .i64 ((dAt L i : Nat) : Int)) ∧ w = w' :=
  (refAt_any oa L cap i w h hl hi).mono fun _ _ h => ⟨h.1, h.2.symm⟩
set_option maxHeartbeats 8000000 in
set_option maxRecDepth 100000 in
theorem refShow_any (x y : Nat) (on od : Option Addr) (cn cd K : Nat) (w : World) (hX : NFr w x y on od) (hy0 : 0 < y) (bx : NB 4000 x) (by0 : NB 4000 y) (hK : K ≤ 100) :
    Calls Tryd.prog 50 #[.agg #[.slice on (dig x).length cn, .slice od (dig y).length cd], .int .i64 (K : Int)] w fun e w' => e = .returned (.string ⟨(SH.refT (x * 10 ^ K / y) K).toArray⟩) ∧ Below w.heap.size w w' := by
  have QO := Lib.hid (fun w => refOf_any 10 w (by decide))
  rw [dig_ten] at QO
  have QM := Lib.hid (fun k (hk : k ≤ 100) oa ob ca cb w h1 h2 => refMul_any (x * 10 ^ k) 10 oa ob ca cb w h1 h2 (Nat.lt_of_le_of_lt (bx.mul (NB.ten' k)).digs (by omega)) (by rw [dig_ten]; decide))
  rw [dig_ten] at QM
  have bQ := (bx.mul (NB.ten' K))
  have QV := Lib.hid (fun oa ob ca cb w h1 h2 => refDiv_any (x * 10 ^ K) y oa ob ca cb w hy0 h1 h2 (Nat.lt_of_le_of_lt bQ.digs (by omega)) (Nat.lt_of_le_of_lt by0.digs (by decide)))
  have bq := bQ.div y
  have QT := Lib.hid (fun oa ca w h => refText_any (x * 10 ^ K / y) oa ca w h (Nat.lt_of_le_of_lt bq.digs (by omega)))
  have HX := Lib.hid hX
  have HK := Lib.hid hK
  have hql := Lib.hid (show (dig (x * 10 ^ K / y)).length ≤ 4101 from Nat.le_trans bq.digs (by omega))
  clear hX bx by0 bQ bq
  obtain ⟨R, hR⟩ : ∃ R, R = SH.refT (x * 10 ^ K / y) K := ⟨_, rfl⟩
  rw [← hR]
  have HR := Lib.hid hR
  clear hR
  go_enter Tryd.func50, Tryd.ntmps50
  go_upto_region 1 with (fail)
  generalize hB : w.heap.size = B at *
  have HB := Lib.hid hB
  refine wp_abs (fun w1 => Below B w w1 ∧ w1.heap[B]? = some (.cells #[.slice on (dig x).length cn, .slice od (dig y).length cd] 47 (0, 0))) ⟨by rw [← hB]; exact (Below.refl _ _).alloc (Nat.le_refl _) _, by rw [← hB]; exact heap_at rfl⟩ (fun w1 hw1 => ?_)
  have B1 := Lib.hid hw1.1
  have H1 := Lib.hid hw1.2
  have hs1 : B < w1.heap.size := lt_of_heap hw1.2
  have c1 := cell_of_row w1 B 0 _ _ _ hw1.2
  clear hw1 hB
  go_upto_region 3 with (fail)
  clear c1
  go_loopw [5, 6] (fun n i wr => ∃ (j : Nat) (oa : Option Addr) (ca : Nat), j ≤ K ∧ n = .slice oa (dig (x * 10 ^ j)).length ca ∧ i = .int .i64 j ∧ IntsAt wr oa (dig (x * 10 ^ j)) ∧ Below B w wr ∧ Below w1.heap.size w1 wr) (fun _ i _ => K - (intOf i).toNat)
  case atStart => exact ⟨0, on, cn, by omega, by simp, rfl, by simpa using HX.out.num.below (HB.out ▸ B1.out), B1.out, Below.refl _ _⟩
  case round =>
  obtain ⟨j, oa, ca, hj, rfl, rfl, hI, bel, bel1⟩ := hrel
  have HI := Lib.hid hI
  clear hI
  by_cases hlt : j < K
  · have hd : decide ((j : Int) < (K : Int)) = true := by simp; omega
    have hd2 : decide (j < K) = true := by simp; omega
    have hj1 : (j : Int) < 100 := by have := HK.out; omega
    have QM2 := Lib.hid (QM.out j (by have := HK.out; omega))
    rw [show x * 10 ^ j * 10 = x * 10 ^ (j + 1) by rw [Nat.pow_succ, Nat.mul_assoc]] at QM2
    generalize hJ : x * 10 ^ j = J at *
    generalize hJ2 : x * 10 ^ (j + 1) = J2 at *
    have HJ := Lib.hid hJ
    have HJ2 := Lib.hid hJ2
    clear hJ hJ2
    go_wp2_with (first
      | (go_at_call 66; refine (QO.out wr).mono ?_; rintro e w2 ⟨ot, ct, rfl, hT, bel2⟩; have HT := Lib.hid hT; have HI2 := Lib.hid (HI.out.below bel2); have B2 := Lib.hid bel2; clear hT bel2)
      | (go_at_call 21; refine (QM2.out oa ot ca ct w2 HI2.out HT.out).mono ?_; rintro e w3 ⟨om, cm, rfl, hm, bel3⟩; have HM := Lib.hid hm; have B3 := Lib.hid (B2.out.trans (bel3.mono B2.out.size)); clear hm bel3))
    go_roundw
    case rel => exact ⟨j + 1, om, cm, by omega, by rw [HJ2.out], by go_num, by rw [HJ2.out]; exact HM.out, bel.trans (B3.out.mono (by have := bel1.size; omega)), bel1.trans (B3.out.mono bel1.size)⟩
    case measure => simp [intOf]; omega
  · have hd : decide ((j : Int) < (K : Int)) = false := by simp; omega
    have hd2 : decide (j < K) = false := by simp; omega
    obtain rfl : j = K := by omega
    have c2 := cell_of_row wr B 1 _ _ _ (bel_keep bel1 hs1 H1.out)
    have HN := Lib.hid (HX.out.den.below (HB.out ▸ bel))
    have hBs : B < wr.heap.size := by have := bel1.size; omega
    clear QM QO hlt hj
    have HDD : Hid (x * 10 ^ j / y = x * 10 ^ j / y) := Lib.hid rfl
    generalize x * 10 ^ j % y = M at *
    generalize x * 10 ^ j / y = q at *
    generalize x * 10 ^ j = J at *
    go_upto_region 7 with (go_at_call 28; refine (QV.out oa od ca cd wr HI.out HN.out).mono ?_; rintro e w2 ⟨oq, cq, or, cr, rfl, hq, -, bel2⟩)
    have HQ := Lib.hid hq
    have B2 := Lib.hid (bel.trans (bel2.mono (by omega)))
    have hs2 : B < w2.heap.size := by have := bel2.size; omega
    clear hq bel2 c2 QV HN HI bel bel1
    by_cases hk0 : j = 0
    · have dk : ((j : Int) == 0) = true := by rw [beq_iff_eq]; omega
      have HR2 := Lib.hid (HR.out.trans (show SH.refT q j = strD q from if_pos hk0))
      clear hk0 HR
      go_wp2_with (go_at_call 18; refine (QT.out oq cq w2 HQ.out).mono ?_; rintro e w3 ⟨rfl, bel3⟩)
      go_ret
      exact ⟨by rw [HR2.out]; rfl, by rw [HB.out]; exact B2.out.trans (bel3.mono (by omega))⟩
    have dk : ((j : Int) == 0) = false := by rw [beq_eq_false_iff_ne]; omega
    have HR2 := Lib.hid (HR.out.trans (show SH.refT q j = if (dig q).length ≤ j then [48, 46] ++ SH.refS (dig q) j j else SH.refS (dig q) j (dig q).length from if_neg hk0))
    have hk1 := Lib.hid (show 0 < j by omega)
    have HA := Lib.hid (all_dig q)
    clear hk0 HR QT
    have hql2 : (dig q).length ≤ 4101 := hql.out
    have hj100 : j ≤ 100 := HK.out
    generalize dig q = D at *
    go_upto_region 11 with (fail)
    go_loopw [9, 10] (fun s i wr => ∃ k : Nat, k ≤ max j D.length ∧ s = .string ⟨(SH.refS D j k).toArray⟩ ∧ i = .int .i64 k ∧ Below w2.heap.size w2 wr) (fun _ i _ => max j D.length - (intOf i).toNat)
    case atStart => exact ⟨0, by omega, rfl, rfl, Below.refl _ _⟩
    case round =>
    obtain ⟨k, hk, rfl, rfl, bel⟩ := hrel
    have lS := length_refS D j k
    have lS2 := size_mk (SH.refS D j k)
    have QA := Lib.hid (fun w h => refAt_same oq D cq k w h (by omega) (by omega))
    by_cases hlt : k < max j D.length
    · have hdk : dAt D k < 10 := by
        unfold dAt
        rw [List.getD_eq_getElem?_getD]
        by_cases h : k < D.length
        · rw [List.getElem?_eq_getElem h]; exact HA.out _ (List.getElem_mem h)
        · rw [List.getElem?_eq_none (by omega)]; decide
      have HC := Lib.hid (ch_cells (dAt D k) hdk)
      have HS := Lib.hid (show SH.refS D j (k + 1) = SH.ch (dAt D k) :: (if k = j then 46 :: SH.refS D j k else SH.refS D j k) from rfl)
      have hq2 := Lib.hid (HQ.out.below bel)
      generalize SH.ch (dAt D k) = c at *
      generalize dAt D k = d at *
      generalize hT : SH.refS D j k = T at *
      have HT := Lib.hid hT
      clear hT
      by_cases hkj : k = j
      · have dl : decide (k < j) = false := by simp; omega
        have dl2 : decide ((k : Int) < (j : Int)) = false := by simp; omega
        have dm : decide (k < D.length) = true := by simp; omega
        have dm2 : decide ((k : Int) < (D.length : Int)) = true := by simp; omega
        have de : ((k : Int) == (j : Int)) = true := by rw [beq_iff_eq]; omega
        have HS2 := Lib.hid (HS.out.trans (by rw [if_pos hkj]))
        have a1 := append_dot' T
        have a2 := append_one c (46 :: T)
        have s2 := size_mk (46 :: T)
        have s3 := size_mk [c]
        rw [List.length_cons] at s2
        clear hkj HS
        go_wp2_with (first
          | (go_at_call 61; refine (QA.out wr hq2.out).mono ?_; rintro e w5 ⟨rfl, rfl⟩)
          | (refine wpList_bytes_back rfl _ 80 9 5 rfl Tryd.underlying80 Tryd.underlying5 Tryd.underlying9 wr.heap.size 1 1 [c] rfl rfl (by rw [HC.out]; exact rangeAt_block (heap_at rfl)) ?_))
        go_roundw
        case rel => exact ⟨k + 1, by omega, by rw [HS2.out], by go_num, bel.alloc bel.size _⟩
        case measure => simp [intOf] <;> omega
      · have de : ((k : Int) == (j : Int)) = false := by rw [beq_eq_false_iff_ne]; omega
        have HS2 := Lib.hid (HS.out.trans (by rw [if_neg hkj]))
        have a2 := append_one c T
        have s3 := size_mk [c]
        clear HS
        by_cases hl : k < j
        · have dl : decide (k < j) = true := by simp; omega
          have dl2 : decide ((k : Int) < (j : Int)) = true := by simp; omega
          clear hkj
          go_wp2_with (first
            | (go_at_call 61; refine (QA.out wr hq2.out).mono ?_; rintro e w5 ⟨rfl, rfl⟩)
            | (refine wpList_bytes_back rfl _ 80 9 5 rfl Tryd.underlying80 Tryd.underlying5 Tryd.underlying9 wr.heap.size 1 1 [c] rfl rfl (by rw [HC.out]; exact rangeAt_block (heap_at rfl)) ?_))
          go_roundw
          case rel => exact ⟨k + 1, by omega, by rw [HS2.out], by go_num, bel.alloc bel.size _⟩
          case measure => simp [intOf] <;> omega
        · have dl : decide (k < j) = false := by simp; omega
          have dl2 : decide ((k : Int) < (j : Int)) = false := by simp; omega
          have dm : decide (k < D.length) = true := by simp; omega
          have dm2 : decide ((k : Int) < (D.length : Int)) = true := by simp; omega
          clear hkj
          go_wp2_with (first
            | (go_at_call 61; refine (QA.out wr hq2.out).mono ?_; rintro e w5 ⟨rfl, rfl⟩)
            | (refine wpList_bytes_back rfl _ 80 9 5 rfl Tryd.underlying80 Tryd.underlying5 Tryd.underlying9 wr.heap.size 1 1 [c] rfl rfl (by rw [HC.out]; exact rangeAt_block (heap_at rfl)) ?_))
          go_roundw
          case rel => exact ⟨k + 1, by omega, by rw [HS2.out], by go_num, bel.alloc bel.size _⟩
          case measure => simp [intOf] <;> omega
    · have dl : decide (k < j) = false := by simp; omega
      have dl2 : decide ((k : Int) < (j : Int)) = false := by simp; omega
      have dm : decide (k < D.length) = false := by simp; omega
      have dm2 : decide ((k : Int) < (D.length : Int)) = false := by simp; omega
      obtain ⟨T, hT⟩ : ∃ T, T = SH.refS D j k := ⟨_, rfl⟩
      rw [← hT] at lS lS2 ⊢
      have lT : T.length < 100000 := by omega
      clear lS
      by_cases hl : D.length ≤ j
      · have dn : decide (D.length ≤ j) = true := by simp; omega
        have dn2 : decide ((D.length : Int) ≤ (j : Int)) = true := by simp; omega
        have a3 := append_nil' T
        have HR3 := Lib.hid (HR2.out.trans (by rw [if_pos hl, show j = k by omega] : _ = [48, 46] ++ SH.refS D k k))
        have HR4 := Lib.hid (show R = [48, 46] ++ T by rw [hT, HR3.out, show j = k by omega])
        clear hl hT HR3 HR2 QA hk hlt
        go_wp2_with fail
        go_ret
        exact ⟨by rw [HR4.out]; rfl, by rw [HB.out]; exact B2.out.trans (bel.mono (by omega))⟩
      · have dn : decide (D.length ≤ j) = false := by simp; omega
        have dn2 : decide ((D.length : Int) ≤ (j : Int)) = false := by simp; omega
        have HR4 := Lib.hid (show R = T by rw [hT, HR2.out, if_neg hl, show D.length = k by omega])
        clear hl hT HR2 QA hk hlt
        go_wp2_with fail
        go_ret
        exact ⟨by rw [HR4.out]; rfl, by rw [HB.out]; exact B2.out.trans (bel.mono (by omega))⟩
end Go.Proofs.YtkkpfoidppjbdaaDoor
