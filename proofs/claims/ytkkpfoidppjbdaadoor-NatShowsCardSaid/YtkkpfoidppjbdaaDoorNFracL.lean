/-
  The reference's WrongFrac; the law's told and read.
-/
import Derived.Test.YtkkpfoidppjbdaaDoorBFracN
import Derived.Test.YtkkpfoidppjbdaaDoorFracD
import Derived.Test.YtkkpfoidppjbdaaDoorBNat
namespace Go.Proofs.YtkkpfoidppjbdaaDoor
set_option linter.unusedVariables false
open Go.RowKit ML FM ND

theorem zero_text {D : Bytes} (h : numB D = true) : dv D = 0 ↔ D = [48] := by
  constructor
  · intro h0
    have := strD_dv D h
    rw [h0] at this
    exact this.symm
  · intro h0; rw [h0]; rfl
theorem gcd_text (g : Nat) : (strD g == [49]) = (g == 1) := by
  have e1 : ([49] : Bytes) = strD 1 := by
    unfold strD digB
    rw [if_neg (by decide), dig_pos (by decide)]
    simp [dig_zero]
  rw [Bool.eq_iff_iff, beq_iff_eq, beq_iff_eq, e1]
  exact ⟨fun h => by rw [← dv_strD g, ← dv_strD 1, h], fun h => by rw [h]⟩
set_option maxHeartbeats 4000000 in
set_option maxRecDepth 100000 in
theorem refWrongFrac_any (N D : Bytes) (w : World) (hN : N.length < 140737488355328) (hD : D.length < 140737488355328) :
    Calls Tryd.prog 29 #[.string ⟨N.toArray⟩, .string ⟨D.toArray⟩] w fun e w' => e = .returned (.int .i64 (wrongF N D : Int)) ∧ Below w.heap.size w w' := by
  have QN := Lib.hid (refIs_any N w hN)
  have QD := Lib.hid (refIs_any D w hD)
  obtain ⟨n, hn⟩ : ∃ n, n = wrongF N D := ⟨_, rfl⟩
  rw [← hn]
  have HNW := Lib.hid hn
  clear hn
  by_cases hnum : numB N = true ∧ numB D = true
  · obtain ⟨n1, n2⟩ := hnum
    have gN := (numB_iff N).1 n1
    have gD := (numB_iff D).1 n2
    by_cases hlong : 4000 < N.length ∨ 4000 < D.length
    · have hw : n = 3 := by rw [HNW.out]; unfold wrongF; rw [if_pos ⟨n1, n2⟩, if_pos hlong]
      subst hw
      rw [n1] at QN
      rw [n2] at QD
      clear hN hD HNW gN gD
      by_cases hl : 4000 < N.length
      · have d1 : (4000 : Int) < (N.length : Int) := by omega
        clear hlong n1 n2
        go_enter Tryd.func29, Tryd.ntmps29
        go_wp2_with (first
          | (go_at_call 51; (with_reducible refine QN.out.mono ?_); rintro e w1 ⟨rfl, rfl⟩)
          | (go_at_call 51; refine QD.out.mono ?_; rintro e w1 ⟨rfl, rfl⟩))
        go_ret
        exact ⟨rfl, Below.refl _ _⟩
      · have d1 : ¬ (4000 : Int) < (N.length : Int) := by omega
        have d2 : (4000 : Int) < (D.length : Int) := by omega
        clear hlong n1 n2
        go_enter Tryd.func29, Tryd.ntmps29
        go_wp2_with (first
          | (go_at_call 51; (with_reducible refine QN.out.mono ?_); rintro e w1 ⟨rfl, rfl⟩)
          | (go_at_call 51; refine QD.out.mono ?_; rintro e w1 ⟨rfl, rfl⟩))
        go_ret
        exact ⟨rfl, Below.refl _ _⟩
    · have d1 : ¬ (4000 : Int) < (N.length : Int) := by omega
      have d2 : ¬ (4000 : Int) < (D.length : Int) := by omega
      have hw : n = if dv D = 0 ∨ Nat.gcd (dv N) (dv D) ≠ 1 then 2 else 0 := by rw [HNW.out]; unfold wrongF; rw [if_pos ⟨n1, n2⟩, if_neg hlong]
      by_cases hz : dv D = 0
      · rw [if_pos (.inl hz)] at hw
        subst hw
        have hDz := (zero_text n2).1 hz
        subst hDz
        rw [n1] at QN
        rw [n2] at QD
        clear hN hD HNW gN gD n1 n2 hz hlong
        go_enter Tryd.func29, Tryd.ntmps29
        go_wp2_with (first
          | (go_at_call 51; (with_reducible refine QN.out.mono ?_); rintro e w1 ⟨rfl, rfl⟩)
          | (go_at_call 51; refine QD.out.mono ?_; rintro e w1 ⟨rfl, rfl⟩))
        go_ret
        exact ⟨rfl, Below.refl _ _⟩
      · have hD0 : ¬ D = [48] := fun h => hz ((zero_text n2).2 h)
        have hD1 : (D == [48]) = false := by rw [beq_eq_false_iff_ne]; exact hD0
        have RN := Lib.hid (fun w => refRead_any N w (by omega) gN.2.1)
        have RD := Lib.hid (fun w => refRead_any D w (by omega) gD.2.1)
        have bN : NB 4000 (dv N) := ⟨N.length, by omega, dv_lt N gN.2.1⟩
        have bD : NB 4000 (dv D) := ⟨D.length, by omega, dv_lt D gD.2.1⟩
        have lN : (dig (dv N)).length < 1099511627775 := Nat.lt_of_le_of_lt bN.digs (by decide)
        have lD : (dig (dv D)).length < 1099511627775 := Nat.lt_of_le_of_lt bD.digs (by decide)
        have lg : (dig (Nat.gcd (dv N) (dv D))).length < 1099511627776 := Nat.lt_of_le_of_lt (bD.mono (Nat.le_of_dvd (by omega) (Nat.gcd_dvd_right _ _))).digs (by decide)
        have QG := Lib.hid (fun oa ob ca cb w h1 h2 => refGcd_any (dv N) (dv D) oa ob ca cb w h1 h2 lN lD)
        have QT := Lib.hid (fun oc cc w h => refText_any (Nat.gcd (dv N) (dv D)) oc cc w h lg)
        have hgt : Hid ((n = 0 ∧ (strD (Nat.gcd (dv N) (dv D)) == [49]) = true) ∨ (n = 2 ∧ (strD (Nat.gcd (dv N) (dv D)) == [49]) = false)) := Lib.hid (by
          rw [gcd_text]
          by_cases hg : Nat.gcd (dv N) (dv D) = 1
          · rw [if_neg (by intro h; rcases h with h | h; exact hz h; exact h hg)] at hw
            exact .inl ⟨hw, by rw [hg]; rfl⟩
          · rw [if_pos (.inr hg)] at hw
            exact .inr ⟨hw, by rw [beq_eq_false_iff_ne]; exact hg⟩)
        rw [n1] at QN
        rw [n2] at QD
        clear hN hD HNW gN gD n1 n2 hz hlong hw bN bD lN lD lg
        generalize dv N = x at *
        generalize dv D = y at *
        obtain ⟨S, hS⟩ : ∃ S, S = strD (Nat.gcd x y) := ⟨_, rfl⟩
        rw [← hS] at hgt QT
        clear hS
        rcases hgt.out with ⟨rfl, hs⟩ | ⟨rfl, hs⟩
        · obtain rfl : S = [49] := by simpa using hs
          clear hs hgt
          go_enter Tryd.func29, Tryd.ntmps29
          go_wp2_with (first
            | (go_at_call 51; (with_reducible refine QN.out.mono ?_); rintro e w1 ⟨rfl, rfl⟩)
            | (go_at_call 51; refine QD.out.mono ?_; rintro e w1 ⟨rfl, rfl⟩)
            | (go_at_call 15; (with_reducible refine (RN.out _).mono ?_); rintro e w2 ⟨oa, ca, rfl, ha, bel2, -⟩; have HA := Lib.hid ha; clear ha)
            | (go_at_call 15; refine (RD.out w2).mono ?_; rintro e w3 ⟨ob, cb, rfl, hb, bel3, -⟩; have HBb := Lib.hid hb; have HA3 := Lib.hid (HA.out.below bel3); clear hb)
            | (go_at_call 26; refine (QG.out oa ob ca cb w3 HA3.out HBb.out).mono ?_; rintro e w4 ⟨oc, cc, rfl, hc, bel4⟩; have HC := Lib.hid hc; clear hc)
            | (go_at_call 18; refine (QT.out oc cc w4 HC.out).mono ?_; rintro e w5 ⟨rfl, bel5⟩))
          go_ret
          exact ⟨rfl, bel2.trans ((bel3.trans ((bel4.trans (bel5.mono bel4.size)).mono bel3.size)).mono bel2.size)⟩
        · have hs2 : ¬ S = [49] := by simpa using hs
          go_enter Tryd.func29, Tryd.ntmps29
          go_wp2_with (first
            | (go_at_call 51; (with_reducible refine QN.out.mono ?_); rintro e w1 ⟨rfl, rfl⟩)
            | (go_at_call 51; refine QD.out.mono ?_; rintro e w1 ⟨rfl, rfl⟩)
            | (go_at_call 15; (with_reducible refine (RN.out _).mono ?_); rintro e w2 ⟨oa, ca, rfl, ha, bel2, -⟩; have HA := Lib.hid ha; clear ha)
            | (go_at_call 15; refine (RD.out w2).mono ?_; rintro e w3 ⟨ob, cb, rfl, hb, bel3, -⟩; have HBb := Lib.hid hb; have HA3 := Lib.hid (HA.out.below bel3); clear hb)
            | (go_at_call 26; refine (QG.out oa ob ca cb w3 HA3.out HBb.out).mono ?_; rintro e w4 ⟨oc, cc, rfl, hc, bel4⟩; have HC := Lib.hid hc; clear hc)
            | (go_at_call 18; refine (QT.out oc cc w4 HC.out).mono ?_; rintro e w5 ⟨rfl, bel5⟩))
          go_ret
          exact ⟨rfl, bel2.trans ((bel3.trans ((bel4.trans (bel5.mono bel4.size)).mono bel3.size)).mono bel2.size)⟩
  · have hw : n = 2 := by rw [HNW.out]; unfold wrongF; rw [if_neg hnum]
    subst hw
    clear hN hD HNW
    generalize numB N = pn at *
    generalize numB D = pd at *
    cases pn <;> cases pd
    case true.true => exact absurd ⟨rfl, rfl⟩ hnum
    all_goals
      clear hnum
      go_enter Tryd.func29, Tryd.ntmps29
      go_wp2_with (first
        | (go_at_call 51; (with_reducible refine QN.out.mono ?_); rintro e w1 ⟨rfl, rfl⟩)
        | (go_at_call 51; refine QD.out.mono ?_; rintro e w1 ⟨rfl, rfl⟩))
      go_ret
      exact ⟨rfl, Below.refl _ _⟩
set_option maxHeartbeats 4000000 in
set_option maxRecDepth 100000 in
theorem lawRead_any (N D : Bytes) (w : World) (hN : N.length < 1099511627776) (hD : D.length < 1099511627776) (n1 : DigsB N) (n2 : DigsB D) :
    Calls Tryd.prog 31 #[.agg #[.string ⟨N.toArray⟩, .string ⟨D.toArray⟩]] w fun e w' => ∃ on od cn cd, e = .returned (.agg #[.slice on (dig (dv N)).length cn, .slice od (dig (dv D)).length cd]) ∧ NFr w' (dv N) (dv D) on od ∧ Below w.heap.size w w' := by
  have RN := Lib.hid (fun w => refRead_any N w hN n1)
  have RD := Lib.hid (fun w => refRead_any D w hD n2)
  have HS := Lib.hid size_nfr
  clear hN hD n1 n2
  go_enter Tryd.func31, Tryd.ntmps31
  go_upto_region 1 with (fail)
  have BX := BoxR.mk' w #[.string ⟨N.toArray⟩, .string ⟨D.toArray⟩] #[.slice none 0 0, .slice none 0 0] 45 47
  generalize hB : w.heap.size = B at *
  refine wp_abs (fun w1 => BoxR B w w1 #[.string ⟨N.toArray⟩, .string ⟨D.toArray⟩] #[.slice none 0 0, .slice none 0 0] 45 47) BX (fun w1 B1 => ?_)
  have HB := Lib.hid hB
  have c1 := cell_of_row w1 B 0 _ _ _ B1.x
  have c2 := cell_of_row w1 B 1 _ _ _ B1.x
  have HB1 := Lib.hid B1
  have hBs1 : B + 1 < w1.heap.size := lt_of_heap B1.z
  have W1 := Lib.hid (show Below w.heap.size w w1 by rw [hB]; exact B1.bel)
  clear BX hB B1
  refine Seg.wp_region_segs (fun w' => ∃ x : BelowT (B + 1) w1, w' = x.w) [([0, 1, 3, 4], 2)] [] 5 (by kernel_rfl) (by kernel_rfl) (fun _ _ d _ _ h => by cases d <;> exact h) (⟨⟨_, (Below.refl _ _).drew⟩, rfl⟩) ?_
  simp only [List.map_cons, List.map_nil, Seg.opAt, List.drop_succ_cons, List.drop_zero, Seg.wpSegs, Array.getD_eq_getD_getElem?, List.getElem?_toArray, List.getElem?_cons_succ, List.getElem?_cons_zero, Option.getD_some]
  repeat (any_goals (first | go_big_quiet_step (fail) | quiet_step (fail)))
  refine wpQuiet_nil ?_
  intro K hK
  simp only [Region.wanted, if_true]
  go_wp2_with (go_at_call 15; (with_reducible refine (RN.out _).mono ?_); rintro e w2 ⟨oa, ca, rfl, ha, bel2, -⟩; have HA := Lib.hid ha; clear ha)
  have bel2' : Below w1.heap.size w1 w2 := undrew bel2
  refine hK _ _ ⟨⟨w2, bel2'.mono (by omega)⟩, rfl⟩ ?_
  have W2 := Lib.hid (W1.out.trans (bel2'.mono W1.out.size))
  have HB2 := Lib.hid (HB1.out.keep (by omega) bel2')
  have hBs2 : B + 1 < w2.heap.size := lt_of_heap HB2.out.z
  clear hK K c1 c2 bel2 bel2' RN
  repeat (any_goals (first | go_big_quiet_step (fail) | quiet_step (fail)))
  refine wpQuiet_nil ?_
  go_wp2_with (first
    | (go_at_call 15; refine (RD.out w2).mono ?_; rintro e w3 ⟨ob, cb, rfl, hb, bel3, -⟩; have HBb := Lib.hid hb; have HA3 := Lib.hid (HA.out.below bel3); have HB3 := Lib.hid (HB2.out.keep (by omega) bel3); have W3 := Lib.hid (W2.out.trans (bel3.mono W2.out.size)); clear hb bel3)
    | (refine wpList_store_whole rfl rfl 47 _ _ rfl (B + 1) #[.slice none 0 0, .slice none 0 0] #[.slice oa (dig (dv N)).length ca, .slice ob (dig (dv D)).length cb] 47 rfl rfl HB3.out.z rfl HS.out (two_slices _ _ _ _ _ _) ?_; intro w5 ho hp))
  refine bodyPost_ret (results_cell_row rfl _ w5 (B + 1) _ _ _ _ rfl hp Tryd.underlying47 rfl HS.out) rfl ⟨oa, ob, ca, cb, rfl, ⟨HA3.out.spared HB3.out.z two_noInt ho, HBb.out.spared HB3.out.z two_noInt ho⟩, bel_only W3.out ho (by rw [HB.out]; omega)⟩
set_option maxHeartbeats 4000000 in
set_option maxRecDepth 100000 in
theorem lawTold_any (S1 S2 : Bytes) (e n x y : Nat) (ox oy : Option Addr) (cx cy : Nat) (w : World) (h : (n = 0 ∧ e = 0 ∧ S1 = strD x ∧ S2 = strD y) ∨ (n ≠ 0 ∧ e = n ∧ S1 = [] ∧ S2 = [])) (hW : NFr w x y ox oy) (l1 : (dig x).length < 1099511627776) (l2 : (dig y).length < 1099511627776) :
    Calls Tryd.prog 33 #[.agg #[.string ⟨S1.toArray⟩, .string ⟨S2.toArray⟩], .int .i64 (e : Int), .int .i64 (n : Int), .agg #[.slice ox (dig x).length cx, .slice oy (dig y).length cy]] w fun r w' => r = .returned (.bool true) ∧ Below w.heap.size w w' := by
  have QX := Lib.hid (fun w h => refText_any x ox cx w h l1)
  have QY := Lib.hid (fun w h => refText_any y oy cy w h l2)
  have HA := Lib.hid size_api
  have HW := Lib.hid hW
  clear hW l1 l2
  rcases h with ⟨rfl, rfl, hx, hy⟩ | ⟨hn, rfl, rfl, rfl⟩
  · rw [← hx] at QX
    rw [← hy] at QY
    clear hx hy
    go_enter Tryd.func33, Tryd.ntmps33
    go_upto_region 3 with (fail)
    have BX := BoxR.mk' w #[.string ⟨S1.toArray⟩, .string ⟨S2.toArray⟩] #[.slice ox (dig x).length cx, .slice oy (dig y).length cy] 45 47
    generalize hB : w.heap.size = B at *
    refine wp_abs (fun w1 => BoxR B w w1 #[.string ⟨S1.toArray⟩, .string ⟨S2.toArray⟩] #[.slice ox (dig x).length cx, .slice oy (dig y).length cy] 45 47) BX (fun w1 B1 => ?_)
    have HB := Lib.hid hB
    have c1 := cell_of_row w1 B 0 _ _ _ B1.x
    have c2 := cell_of_row w1 B 1 _ _ _ B1.x
    have c3 := cell_of_row w1 (B + 1) 0 _ _ _ B1.z
    have c4 := cell_of_row w1 (B + 1) 1 _ _ _ B1.z
    have HB1 := Lib.hid B1
    have hBs1 : B + 1 < w1.heap.size := lt_of_heap B1.z
    have W1 := Lib.hid (show Below w.heap.size w w1 by rw [hB]; exact B1.bel)
    have W1d := Lib.hid (show Below w.heap.size w w1.drew from W1.out.drew)
    clear BX hB B1
    refine Seg.wp_region_segs (fun w' => ∃ x : BelowT (B + 2) w1, w' = x.w) [([0, 1, 2, 4, 5], 3), ([], 6)] [7] 8 (by kernel_rfl) (by kernel_rfl) (fun _ _ d _ _ h => by cases d <;> exact h) (⟨⟨_, (Below.refl _ _).drew⟩, rfl⟩) ?_
    simp only [List.map_cons, List.map_nil, Seg.opAt, List.drop_succ_cons, List.drop_zero, Seg.wpSegs, Array.getD_eq_getD_getElem?, List.getElem?_toArray, List.getElem?_cons_succ, List.getElem?_cons_zero, Option.getD_some]
    repeat (any_goals (first | go_big_quiet_step (fail) | quiet_step (fail)))
    refine wpQuiet_nil ?_
    intro K hK
    simp only [Region.wanted, if_true]
    go_wp2_with (go_at_call 18; (with_reducible refine (QX.out _ (HW.out.num.below W1d.out)).mono ?_); rintro e w2 ⟨rfl, bel2⟩)
    have bel2' : Below w1.heap.size w1 w2 := undrew bel2
    have TB2 := Lib.hid (show Below (B + 2) w1 w2 from bel2'.mono (by omega))
    refine hK _ _ ⟨⟨w2, TB2.out⟩, rfl⟩ ?_
    have W2 := Lib.hid (W1.out.trans (bel2'.mono W1.out.size))
    have HB2 := Lib.hid (HB1.out.keep (by omega) bel2')
    have hBs2 : B + 1 < w2.heap.size := lt_of_heap HB2.out.z
    clear hK K c1 c2 c3 c4 bel2 bel2' QX
    refine wpQuiet_nil ?_
    intro K hK
    simp only [Region.wanted, if_true]
    go_wp2_with (go_at_call 18; refine (QY.out w2 (HW.out.den.below W2.out)).mono ?_; rintro e w3 ⟨rfl, bel3⟩)
    refine hK _ _ ⟨⟨w3, TB2.out.trans (bel3.mono (by omega))⟩, rfl⟩ ?_
    have W3 := Lib.hid (W2.out.trans (bel3.mono W2.out.size))
    clear hK K bel3 QY
    repeat (any_goals (first | go_big_quiet_step (fail) | quiet_step (fail)))
    refine wpQuiet_nil ?_
    go_wp2_with fail
    go_ret
    exact ⟨rfl, W3.out⟩
  · have h0 : ((e : Int) != 0) = true := by simp; omega
    go_enter Tryd.func33, Tryd.ntmps33
    go_upto_region 2 with (fail)
    go_wp2_with fail
    go_ret
    exact ⟨rfl, ((Below.refl _ _).alloc (Nat.le_refl _) _).alloc (by simp) _⟩
end Go.Proofs.YtkkpfoidppjbdaaDoor
