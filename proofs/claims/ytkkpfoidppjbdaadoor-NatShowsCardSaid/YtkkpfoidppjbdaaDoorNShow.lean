/-
  nat.Show, nat.Floor. Printed by tools/genshow.py.
-/
import Derived.Test.YtkkpfoidppjbdaaDoorFracD
import Derived.Test.YtkkpfoidppjbdaaDoorShPlain
import Derived.Test.YtkkpfoidppjbdaaDoorNRep
import Derived.Test.YtkkpfoidppjbdaaDoorFrPlain
namespace Go.Proofs.YtkkpfoidppjbdaaDoor
set_option linter.unusedVariables false
set_option linter.unusedSimpArgs false
open Go.RowKit ML FM NL

def showW (N D : Bytes) (p : Int) : Nat := if wrongF N D = 0 then (if p < 0 ∨ 100 < p then 4 else 0) else wrongF N D
def showT (N D : Bytes) (p : Int) : Bytes := if showW N D p = 0 then SH.natT (dv N * 10 ^ p.toNat / dv D) p.toNat else []
theorem length_rep (p : Nat) : (Lib.repeatL [48] p).length = p := by rw [Lib.repeatL_length]; simp
theorem mem_rep (p : Nat) : ∀ c ∈ Lib.repeatL [48] p, c = 48 := by
  induction p with
  | zero => intro c h; cases h
  | succ p ih =>
    intro c h
    simp only [Lib.repeatL, List.mem_append, List.mem_cons, List.not_mem_nil, or_false] at h
    rcases h with h | h
    · exact h
    · exact ih c h
theorem dv_rep (p : Nat) : dv (Lib.repeatL [48] p) = 0 := by
  induction p with
  | zero => rfl
  | succ p ih => simp only [Lib.repeatL]; rw [dv_append, ih]; simp [dv_one]
theorem dv_ten (p : Nat) : dv ([49] ++ Lib.repeatL [48] p) = 10 ^ p := by
  rw [dv_append, dv_rep, length_rep, dv_one]
  simp
theorem numB_ten (p : Nat) : numB ([49] ++ Lib.repeatL [48] p) = true := by
  rw [numB_iff]
  refine ⟨by simp, ?_, .inl (by simp)⟩
  intro c h
  simp only [List.mem_append, List.mem_cons, List.not_mem_nil, or_false] at h
  rcases h with h | h
  · subst h; decide
  · rw [mem_rep p c h]; decide
def tenT (k : Nat) : Bytes := [49] ++ Lib.repeatL [48] k
theorem append_ten (k : Nat) : ByteArray.mk #[49] ++ ByteArray.mk (Lib.repeatL [48] k).toArray = ByteArray.mk (tenT k).toArray := append_mk [49] _
theorem append_dot (P : Bytes) : ByteArray.mk P.toArray ++ ByteArray.mk #[46] = ByteArray.mk (P ++ [46]).toArray := append_mk P [46]
theorem len_strD3 {K x : Nat} (h : NB K x) (hK : 1 ≤ K) : (strD x).length ≤ K := by
  unfold strD
  by_cases h0 : x = 0
  · rw [if_pos h0]; exact hK
  · rw [if_neg h0, length_digB]; exact h.digs
theorem NB.ten (p : Nat) : NB (p + 1) (10 ^ p) := ⟨p + 1, Nat.le_refl _, Nat.pow_lt_pow_right (by decide) (by omega)⟩

set_option maxHeartbeats 8000000 in
set_option maxRecDepth 100000 in
theorem natShow_any (N D : Bytes) (p : Int) (w : World) (hN : N.length < 140737488355328) (hD : D.length < 140737488355328) :
    Calls Tryd.prog 49 #[.agg #[.string ⟨N.toArray⟩, .string ⟨D.toArray⟩], .int .i64 p] w fun e w' => e = .returned (.tuple #[.string ⟨(showT N D p).toArray⟩, .int .i64 (showW N D p : Int)]) ∧ Below w.heap.size w w' := by
  have QF := Lib.hid (fun w => fraction_any N D w hN hD)
  have HL := Lib.hid size_lfr
  unfold showT
  by_cases hw : wrongF N D = 0
  · have hsw : showW N D p = if p < 0 ∨ 100 < p then 4 else 0 := if_pos hw
    rw [hsw]
    by_cases hpb : p < 0 ∨ 100 < p
    · rw [if_pos hpb, if_neg (show ¬ 4 = 0 by decide)]
      unfold FracGot at QF
      rw [hw] at QF
      clear hw hsw hN hD
      by_cases hp0 : p < 0
      · clear hpb
        go_enter Tryd.func49, Tryd.ntmps49
        go_upto_region 1 with (fail)
        generalize hB : w.heap.size = B at *
        have HB := Lib.hid hB
        refine wp_abs (fun w1 => Below B w w1 ∧ w1.heap[B]? = some (.cells #[.string ⟨N.toArray⟩, .string ⟨D.toArray⟩] 45 (0, 0))) ⟨by rw [← hB]; exact (Below.refl _ _).alloc (Nat.le_refl _) _, by rw [← hB]; exact heap_at rfl⟩ (fun w1 hw1 => ?_)
        have B1 := Lib.hid hw1.1
        have c1 := cell_of_row w1 B 0 _ _ _ hw1.2
        have c2 := cell_of_row w1 B 1 _ _ _ hw1.2
        have hs1 : B < w1.heap.size := lt_of_heap hw1.2
        clear hw1 hB
        go_upto_block 0 with (first
          | (go_at_call 71; refine (QF.out w1).mono ?_; rintro e w2 ⟨on, nn, cn, od, nd, cd, rfl, hgot, bel2⟩; have HG := Lib.hid hgot; clear hgot)
          | (refine wpList_store_whole rfl rfl 90 _ _ rfl w2.heap.size #[.slice none 0 0, .slice none 0 0] #[.slice on nn cn, .slice od nd cd] 90 rfl rfl (heap_at rfl) rfl HL.out (two_slices _ _ _ _ _ _) ?_; intro w3 ho hp3))
        have hs2 : B < w2.heap.size := Nat.lt_of_lt_of_le hs1 bel2.size
        have b3 : Below w2.heap.size w2 w3 := bel_only ((Below.refl _ _).alloc (Nat.le_refl _) _) ho (Nat.le_refl _)
        have B3 := Lib.hid (B1.out.trans ((bel2.trans (b3.mono bel2.size)).mono (by omega)))
        go_wp2_with fail
        go_ret2
        exact ⟨rfl, by rw [HB.out]; exact B3.out⟩
      · have hp1 : 100 < p := by omega
        clear hpb
        go_enter Tryd.func49, Tryd.ntmps49
        go_upto_region 1 with (fail)
        generalize hB : w.heap.size = B at *
        have HB := Lib.hid hB
        refine wp_abs (fun w1 => Below B w w1 ∧ w1.heap[B]? = some (.cells #[.string ⟨N.toArray⟩, .string ⟨D.toArray⟩] 45 (0, 0))) ⟨by rw [← hB]; exact (Below.refl _ _).alloc (Nat.le_refl _) _, by rw [← hB]; exact heap_at rfl⟩ (fun w1 hw1 => ?_)
        have B1 := Lib.hid hw1.1
        have c1 := cell_of_row w1 B 0 _ _ _ hw1.2
        have c2 := cell_of_row w1 B 1 _ _ _ hw1.2
        have hs1 : B < w1.heap.size := lt_of_heap hw1.2
        clear hw1 hB
        go_upto_block 0 with (first
          | (go_at_call 71; refine (QF.out w1).mono ?_; rintro e w2 ⟨on, nn, cn, od, nd, cd, rfl, hgot, bel2⟩; have HG := Lib.hid hgot; clear hgot)
          | (refine wpList_store_whole rfl rfl 90 _ _ rfl w2.heap.size #[.slice none 0 0, .slice none 0 0] #[.slice on nn cn, .slice od nd cd] 90 rfl rfl (heap_at rfl) rfl HL.out (two_slices _ _ _ _ _ _) ?_; intro w3 ho hp3))
        have hs2 : B < w2.heap.size := Nat.lt_of_lt_of_le hs1 bel2.size
        have b3 : Below w2.heap.size w2 w3 := bel_only ((Below.refl _ _).alloc (Nat.le_refl _) _) ho (Nat.le_refl _)
        have B3 := Lib.hid (B1.out.trans ((bel2.trans (b3.mono bel2.size)).mono (by omega)))
        go_wp2_with fail
        go_ret2
        exact ⟨rfl, by rw [HB.out]; exact B3.out⟩
    · rw [if_neg hpb, if_pos rfl]
      obtain ⟨bN, bD, hD0⟩ := good_frac hw
      obtain ⟨k, rfl⟩ : ∃ k : Nat, p = (k : Int) := ⟨p.toNat, by omega⟩
      have hk : k ≤ 100 := by omega
      rw [Int.toNat_natCast]
      unfold FracGot at QF
      rw [hw] at QF
      clear hw hsw hN hD
      have bT := (NB.ten k).up (show k + 1 ≤ 101 by omega)
      have bM := bN.mul bT
      have QR := Lib.hid (fun c w (h : c ≤ 200) => Tryd.strings_Repeat ⟨#[48]⟩ c w (by omega) (by show 1 * c ≤ _; omega))
      have QP := Lib.hid (fun w => exParse_good (tenT k) w (by unfold tenT; simp [length_rep]; omega) (numB_ten k))
      unfold tenT at QP
      rw [dv_ten] at QP
      have QP := Lib.hid (show ∀ w, Calls Tryd.prog 79 #[.string ⟨(tenT k).toArray⟩] w fun e w' => ∃ oc cc, e = .returned (.tuple #[.slice oc (dig (10 ^ k)).length cc, .bool true]) ∧ LimbsAt w' oc (dig (10 ^ k)) ∧ (∀ a, oc = some a → a.block < w'.heap.size) ∧ Below w.heap.size w w' from QP.out)
      have HK := Lib.hid hk
      have sr : (ByteArray.mk (Lib.repeatL [48] k).toArray).size = k := by rw [size_mk, length_rep]
      have at1 := append_ten k
      have d0 : ¬ (k : Int) < 0 := by omega
      have d1 : ¬ 100 < (k : Int) := by omega
      have lN : (dig (dv N)).length < 1099511627776 := Nat.lt_of_le_of_lt bN.limbs (by decide)
      have lT : (dig (10 ^ k)).length < 1099511627776 := Nat.lt_of_le_of_lt bT.limbs (by decide)
      have lM : (dig (dv N * 10 ^ k)).length < 1099511627775 := Nat.lt_of_le_of_lt bM.limbs (by decide)
      have lD : (dig (dv D)).length < 1099511627775 := Nat.lt_of_le_of_lt bD.limbs (by decide)
      have bQ := bM.div (dv D)
      have lQ : (dig (dv N * 10 ^ k / dv D)).length < 1099511627776 := Nat.lt_of_le_of_lt bQ.limbs (by decide)
      have QM := Lib.hid (fun oa ob ca cb w h1 h2 => exMul_any (dv N) (10 ^ k) oa ob ca cb w h1 h2 lN lT)
      have QV := Lib.hid (fun oa ob ca cb w h1 h2 => exDiv_any (dv N * 10 ^ k) (dv D) oa ob ca cb w hD0 h1 h2 lM lD)
      have QS := Lib.hid (fun oa ca w h => exString_any (dv N * 10 ^ k / dv D) oa ca w h lQ)
      have hSl := Lib.hid (len_strD3 bQ (by decide))
      clear hpb bN bD bT bM hD0 lN lT lM lD bQ lQ
      generalize dv N * 10 ^ k / dv D = Q at *
      generalize dv N * 10 ^ k % dv D = R at *
      generalize dv N * 10 ^ k = M at *
      generalize 10 ^ k = T at *
      generalize dv N = x at *
      generalize dv D = y at *
      obtain ⟨A, hA⟩ : ∃ A, A = SH.natT Q k := ⟨_, rfl⟩
      rw [← hA]
      have HA := Lib.hid (show A = if k = 0 then strD Q else (SH.wide Q k).take ((SH.wide Q k).length - k) ++ [46] ++ (SH.wide Q k).drop ((SH.wide Q k).length - k) from hA)
      clear hA
      unfold SH.wide at HA
      have HA := Lib.hid HA.out
      go_enter Tryd.func49, Tryd.ntmps49
      go_upto_region 1 with (fail)
      generalize hB : w.heap.size = B at *
      have HB := Lib.hid hB
      refine wp_abs (fun w1 => Below B w w1 ∧ w1.heap[B]? = some (.cells #[.string ⟨N.toArray⟩, .string ⟨D.toArray⟩] 45 (0, 0))) ⟨by rw [← hB]; exact (Below.refl _ _).alloc (Nat.le_refl _) _, by rw [← hB]; exact heap_at rfl⟩ (fun w1 hw1 => ?_)
      have B1 := Lib.hid hw1.1
      have c1 := cell_of_row w1 B 0 _ _ _ hw1.2
      have c2 := cell_of_row w1 B 1 _ _ _ hw1.2
      have hs1 : B < w1.heap.size := lt_of_heap hw1.2
      clear hw1 hB
      go_upto_block 0 with (first
        | (go_at_call 71; refine (QF.out w1).mono ?_; rintro e w2 ⟨on, nn, cn, od, nd, cd, rfl, hgot, bel2⟩; have HG := Lib.hid hgot; clear hgot)
        | (refine wpList_store_whole rfl rfl 90 _ _ rfl w2.heap.size #[.slice none 0 0, .slice none 0 0] #[.slice on nn cn, .slice od nd cd] 90 rfl rfl (heap_at rfl) rfl HL.out (two_slices _ _ _ _ _ _) ?_; intro w3 ho hp3))
      have hs2 : B < w2.heap.size := Nat.lt_of_lt_of_le hs1 bel2.size
      have b3 : Below w2.heap.size w2 w3 := bel_only ((Below.refl _ _).alloc (Nat.le_refl _) _) ho (Nat.le_refl _)
      have B3 := Lib.hid (B1.out.trans ((bel2.trans (b3.mono bel2.size)).mono (by omega)))
      go_upto_region 7 with (first
        | (go_at_call 80; refine (QR.out k w3 (by have := HK.out; omega)).mono ?_; rintro e w4 ⟨rfl, bel4⟩)
        | (go_at_call 79; refine (QP.out w4).mono ?_; rintro e w5 ⟨ot, ct, rfl, hT, hTl, bel5⟩))
      obtain ⟨rfl, rfl, hF⟩ := HG.out trivial
      have W35 := bel4.trans (bel5.mono bel4.size)
      have hs3 : w2.heap.size < w3.heap.size := lt_of_heap hp3
      have HP5 := bel_keep W35 hs3 hp3
      have W25 := b3.trans (W35.mono (Nat.le_of_lt hs3))
      have HX := Lib.hid (hF.below W25)
      have B5 := Lib.hid (B3.out.trans (W35.mono (by omega)))
      have HT := Lib.hid hT
      have HB2 := Lib.hid hs2
      clear hF W35 W25 hp3 ho b3 bel2 bel4 bel5 hT hTl HG QF QP sr at1 c1 c2 hs3
      generalize w2.heap.size = E at *
      have c3 := cell_of_row w5 E 0 _ _ _ HP5
      have c4 := cell_of_row w5 E 1 _ _ _ HP5
      have hs5 : E < w5.heap.size := lt_of_heap HP5
      refine Seg.wp_region_segs (fun w' => ∃ x : BelowT (E + 1) w5, w' = x.w) [([0, 1, 2, 4, 5], 3), ([], 6)] [7, 8, 9, 10] 11 (by kernel_rfl) (by kernel_rfl) (fun _ _ d _ _ h => by cases d <;> exact h) (⟨⟨_, (Below.refl _ _).drew⟩, rfl⟩) ?_
      simp only [List.map_cons, List.map_nil, Seg.opAt, List.drop_succ_cons, List.drop_zero, Seg.wpSegs, Array.getD_eq_getD_getElem?, List.getElem?_toArray, List.getElem?_cons_succ, List.getElem?_cons_zero, Option.getD_some]
      repeat (any_goals (first | go_big_quiet_step (fail) | quiet_step (fail)))
      refine wpQuiet_nil ?_
      intro K hK
      simp only [Region.wanted, if_true]
      have W5d := Lib.hid (show Below w5.heap.size w5 w5.drew from (Below.refl _ _).drew)
      go_wp2_with (go_at_call 62; refine (QM.out _ _ _ _ _ (HX.out.num.below W5d.out) (HT.out.below W5d.out)).mono ?_; rintro e w6 ⟨om, cm, rfl, hm, bel6⟩)
      have bel6' : Below w5.heap.size w5 w6 := undrew bel6
      refine hK _ _ ⟨⟨w6, bel6'.mono (by omega)⟩, rfl⟩ ?_
      have HM := Lib.hid hm
      have HX6 := Lib.hid (HX.out.below bel6')
      have B6 := Lib.hid (B5.out.trans (bel6'.mono (by omega)))
      have hs6 : B < w6.heap.size := by have := bel6'.size; omega
      have hs6' : E < w6.heap.size := by have := bel6'.size; omega
      have TB6 := Lib.hid (show Below (E + 1) w5 w6 from bel6'.mono (by omega))
      clear hK K c3 c4 bel6 bel6' QM hm HT HX W5d HP5
      repeat (any_goals (first | go_big_quiet_step (fail) | quiet_step (fail)))
      refine wpQuiet_nil ?_
      intro K hK
      simp only [Region.wanted, if_true]
      go_wp2_with (go_at_call 65; refine (QV.out om od cm cd w6 HM.out HX6.out.den).mono ?_; rintro e w7 ⟨oq, cq, or, cr, rfl, hq, hr, bel7⟩)
      refine hK _ _ ⟨⟨w7, TB6.out.trans (bel7.mono (by omega))⟩, rfl⟩ ?_
      have HQ := Lib.hid hq
      have HB7 := Lib.hid bel7
      clear hK K hq hr bel7 TB6 HM HX6 QV
      repeat (any_goals (first | go_big_quiet_step (fail) | quiet_step (fail)))
      refine wpQuiet_nil ?_
      go_upto_region 9 with (go_at_call 56; refine (QS.out oq cq w7 HQ.out).mono ?_; rintro e w8 ⟨rfl, bel8⟩)
      have B8 := Lib.hid (B6.out.trans ((HB7.out.trans (bel8.mono HB7.out.size)).mono (by omega)))
      clear bel8 HQ
      generalize strD Q = S at *
      have sS := size_mk S
      by_cases hk0 : k = 0
      · have HA2 := Lib.hid (HA.out.trans (if_pos hk0))
        have dk : ((k : Int) == 0) = true := by rw [beq_iff_eq]; omega
        clear hk0 HA
        go_wp2_with fail
        go_ret2
        exact ⟨by rw [HA2.out]; rfl, by rw [HB.out]; exact B8.out⟩
      · have HA2 := Lib.hid (HA.out.trans (if_neg hk0))
        have dk : ((k : Int) == 0) = false := by rw [beq_eq_false_iff_ne]; omega
        have hk1 := Lib.hid (show 0 < k by omega)
        clear hk0 HA
        by_cases hl : S.length ≤ k
        · rw [if_pos hl] at HA2
          have dl : decide (S.length ≤ k) = true := decide_eq_true hl
          have dl2 : decide ((S.length : Int) ≤ (k : Int)) = true := decide_eq_true (by omega)
          obtain ⟨m, hm⟩ : ∃ m, m = k + 1 - S.length := ⟨_, rfl⟩
          rw [← hm] at HA2
          have hmi : (k : Int) + 1 - (S.length : Int) = (m : Int) := by omega
          have hm2 := Lib.hid (show m ≤ 200 by omega)
          obtain ⟨U, hU⟩ : ∃ U, U = Lib.repeatL [48] m ++ S := ⟨_, rfl⟩
          have at2 := append_mk (Lib.repeatL [48] m) S
          rw [← hU] at at2 HA2
          have hUl : U.length = k + 1 := by rw [hU, List.length_append, length_rep]; omega
          have sr2 : (ByteArray.mk (Lib.repeatL [48] m).toArray).size = m := by rw [size_mk, length_rep]
          have sU := size_mk U
          rw [hUl] at sU HA2
          rw [show k + 1 - k = 1 by omega] at HA2
          have kS : S.length < 200 := by omega
          have HU := Lib.hid hUl
          have HA3 := Lib.hid HA2.out
          clear hm hU hl hUl HA2
          go_upto_region 13 with (go_at_call 80; refine (QR.out m w8 hm2.out).mono ?_; rintro e w9 ⟨rfl, bel9⟩)
          have B9 := Lib.hid (B8.out.trans (bel9.mono (by have := B8.out.size; have := HB.out; omega)))
          clear bel9
          have h1 : (k : Int) + 1 - (k : Int) = 1 := by omega
          have x1 := extract_take U 1
          have x2 : (ByteArray.mk U.toArray).extract 1 (k + 1) = ⟨(U.drop 1).toArray⟩ := by rw [← HU.out]; exact extract_drop U 1
          have hUl := HU.out
          obtain ⟨P, hP⟩ : ∃ P, P = U.take 1 := ⟨_, rfl⟩
          obtain ⟨G, hG⟩ : ∃ G, G = U.drop 1 := ⟨_, rfl⟩
          rw [← hP] at x1
          rw [← hG] at x2
          have HA4 := Lib.hid (show A = P ++ 46 :: G by rw [hP, hG]; have := HA3.out; rw [List.append_assoc] at this; exact this)
          have p1 : P.length = 1 := by rw [hP, List.length_take]; omega
          have p2 : G.length = k := by rw [hG, List.length_drop]; omega
          have s1 := size_mk P
          have s2 := size_mk G
          have s3 := size_mk (P ++ [46])
          rw [List.length_append, List.length_singleton, p1] at s3
          rw [p1] at s1
          rw [p2] at s2
          have a1 := append_dot P
          have a2 := append_mk (P ++ [46]) G
          clear hP hG p1 p2 HA3
          clear hUl
          refine Seg.wp_region_segs (fun _ => True) [] [0, 1, 2, 3, 4, 5, 6, 7, 8, 9, 10, 11, 12] 13 (by kernel_rfl) (by kernel_rfl) (fun _ _ d _ _ h => by cases d <;> exact h) (trivial) ?_
          simp only [List.map_cons, List.map_nil, Seg.opAt, List.drop_succ_cons, List.drop_zero, Seg.wpSegs, Array.getD_eq_getD_getElem?, List.getElem?_toArray, List.getElem?_cons_succ, List.getElem?_cons_zero, Option.getD_some]
          repeat (any_goals (first | go_big_quiet_step (fail) | quiet_step (fail)))
          refine wpQuiet_nil ?_
          go_wp2_with fail
          go_ret2
          exact ⟨by rw [HA4.out]; rfl, by rw [HB.out]; exact B9.out.drew⟩
        · rw [if_neg hl] at HA2
          have dl : decide (S.length ≤ k) = false := decide_eq_false hl
          have dl2 : decide ((S.length : Int) ≤ (k : Int)) = false := decide_eq_false (by omega)
          obtain ⟨j, hj⟩ : ∃ j, j = S.length - k := ⟨_, rfl⟩
          rw [← hj] at HA2
          have hji : (S.length : Int) - (k : Int) = (j : Int) := by omega
          have hjl : j ≤ S.length := by omega
          have hSk : S.length - j = k := by omega
          have kS : S.length < 5000 := by have := hSl.out; omega
          have x1 := extract_take S j
          have x2 := extract_drop S j
          have HA3 := Lib.hid HA2.out
          obtain ⟨U, rfl⟩ : ∃ U, U = S := ⟨_, rfl⟩
          obtain ⟨P, hP⟩ : ∃ P, P = U.take j := ⟨_, rfl⟩
          obtain ⟨G, hG⟩ : ∃ G, G = U.drop j := ⟨_, rfl⟩
          rw [← hP] at x1
          rw [← hG] at x2
          have HA4 := Lib.hid (show A = P ++ 46 :: G by rw [hP, hG]; have := HA3.out; rw [List.append_assoc] at this; exact this)
          have p1 : P.length = j := by rw [hP, List.length_take]; omega
          have p2 : G.length = k := by rw [hG, List.length_drop]; omega
          have s1 := size_mk P
          have s2 := size_mk G
          have s3 := size_mk (P ++ [46])
          rw [List.length_append, List.length_singleton, p1] at s3
          rw [p1] at s1
          rw [p2] at s2
          have a1 := append_dot P
          have a2 := append_mk (P ++ [46]) G
          clear hP hG p1 p2 HA3
          have HSk := Lib.hid hSk
          clear hj hl hSk HA2
          go_upto_region 13 with (fail)
          refine Seg.wp_region_segs (fun _ => True) [] [0, 1, 2, 3, 4, 5, 6, 7, 8, 9, 10, 11, 12] 13 (by kernel_rfl) (by kernel_rfl) (fun _ _ d _ _ h => by cases d <;> exact h) (trivial) ?_
          simp only [List.map_cons, List.map_nil, Seg.opAt, List.drop_succ_cons, List.drop_zero, Seg.wpSegs, Array.getD_eq_getD_getElem?, List.getElem?_toArray, List.getElem?_cons_succ, List.getElem?_cons_zero, Option.getD_some]
          repeat (any_goals (first | go_big_quiet_step (fail) | quiet_step (fail)))
          refine wpQuiet_nil ?_
          go_wp2_with fail
          go_ret2
          exact ⟨by rw [HA4.out]; rfl, by rw [HB.out]; exact B8.out.drew⟩
  · have hsw : showW N D p = wrongF N D := if_neg hw
    rw [hsw, if_neg hw]
    have hn0 : ((wrongF N D : Int) == 0) = false := by rw [beq_eq_false_iff_ne]; omega
    unfold FracGot at QF
    clear hw hsw hN hD
    generalize wrongF N D = n at *
    go_enter Tryd.func49, Tryd.ntmps49
    go_upto_region 1 with (fail)
    generalize hB : w.heap.size = B at *
    have HB := Lib.hid hB
    refine wp_abs (fun w1 => Below B w w1 ∧ w1.heap[B]? = some (.cells #[.string ⟨N.toArray⟩, .string ⟨D.toArray⟩] 45 (0, 0))) ⟨by rw [← hB]; exact (Below.refl _ _).alloc (Nat.le_refl _) _, by rw [← hB]; exact heap_at rfl⟩ (fun w1 hw1 => ?_)
    have B1 := Lib.hid hw1.1
    have c1 := cell_of_row w1 B 0 _ _ _ hw1.2
    have c2 := cell_of_row w1 B 1 _ _ _ hw1.2
    have hs1 : B < w1.heap.size := lt_of_heap hw1.2
    clear hw1 hB
    go_upto_block 0 with (first
      | (go_at_call 71; refine (QF.out w1).mono ?_; rintro e w2 ⟨on, nn, cn, od, nd, cd, rfl, hgot, bel2⟩; have HG := Lib.hid hgot; clear hgot)
      | (refine wpList_store_whole rfl rfl 90 _ _ rfl w2.heap.size #[.slice none 0 0, .slice none 0 0] #[.slice on nn cn, .slice od nd cd] 90 rfl rfl (heap_at rfl) rfl HL.out (two_slices _ _ _ _ _ _) ?_; intro w3 ho hp3))
    have hs2 : B < w2.heap.size := Nat.lt_of_lt_of_le hs1 bel2.size
    have b3 : Below w2.heap.size w2 w3 := bel_only ((Below.refl _ _).alloc (Nat.le_refl _) _) ho (Nat.le_refl _)
    have B3 := Lib.hid (B1.out.trans ((bel2.trans (b3.mono bel2.size)).mono (by omega)))
    go_wp2_with fail
    go_ret2
    exact ⟨rfl, by rw [HB.out]; exact B3.out⟩
set_option maxHeartbeats 2000000 in
set_option maxRecDepth 100000 in
theorem natFloor_any (N D : Bytes) (w : World) (hN : N.length < 140737488355328) (hD : D.length < 140737488355328) :
    Calls Tryd.prog 48 #[.agg #[.string ⟨N.toArray⟩, .string ⟨D.toArray⟩]] w fun e w' => e = .returned (.tuple #[.string ⟨(showT N D 0).toArray⟩, .int .i64 (showW N D 0 : Int)]) ∧ Below w.heap.size w w' := by
  have QS := Lib.hid (fun w => natShow_any N D 0 w hN hD)
  have HA := Lib.hid size_api
  clear hN hD
  generalize showT N D 0 = A at *
  generalize showW N D 0 = n at *
  go_enter Tryd.func48, Tryd.ntmps48
  go_upto_region 1 with (fail)
  generalize hB : w.heap.size = B at *
  have HB := Lib.hid hB
  refine wp_abs (fun w1 => Below B w w1 ∧ w1.heap[B]? = some (.cells #[.string ⟨N.toArray⟩, .string ⟨D.toArray⟩] 45 (0, 0))) ⟨by rw [← hB]; exact (Below.refl _ _).alloc (Nat.le_refl _) _, by rw [← hB]; exact heap_at rfl⟩ (fun w1 hw1 => ?_)
  have B1 := Lib.hid hw1.1
  have c1 := cell_of_row w1 B 0 _ _ _ hw1.2
  have c2 := cell_of_row w1 B 1 _ _ _ hw1.2
  have hs1 : B < w1.heap.size := lt_of_heap hw1.2
  clear hw1 hB
  go_wp2_with (go_at_call 49; refine (QS.out w1).mono ?_; rintro e w2 ⟨rfl, bel2⟩)
  go_ret2
  exact ⟨rfl, by rw [HB.out]; exact B1.out.trans (bel2.mono (by omega))⟩
end Go.Proofs.YtkkpfoidppjbdaaDoor
