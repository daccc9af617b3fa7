/-
  The reference's Sub and Compare.
-/
import Derived.Test.YtkkpfoidppjbdaaDoorNAdd
namespace Go.Proofs.YtkkpfoidppjbdaaDoor
set_option linter.unusedVariables false
open Go.RowKit ML ND

set_option maxHeartbeats 4000000 in
set_option maxRecDepth 100000 in
theorem refSub_any (x y : Nat) (oa ob : Option Addr) (ca cb : Nat) (w : World) (hyx : y ≤ x) (ha : IntsAt w oa (dig x)) (hb : IntsAt w ob (dig y)) (hx : (dig x).length < 1099511627776) (hy : (dig y).length < 1099511627776) :
    Calls Tryd.prog 24 #[.slice oa (dig x).length ca, .slice ob (dig y).length cb] w fun e w' => ∃ oc cc, e = .returned (.slice oc (dig (x - y)).length cc) ∧ IntsAt w' oc (dig (x - y)) ∧ Below w.heap.size w w' ∧ (∀ a, oc = some a → w.heap.size ≤ a.block) := by
  obtain ⟨i0, hi, hz0, hz1, hz2⟩ := info_parts info_int
  have HI := Lib.hid hi
  have HZ0 := Lib.hid hz0
  have HZ1 := Lib.hid hz1
  have HZ2 := Lib.hid hz2
  have HA := Lib.hid ha
  have HBB := Lib.hid hb
  have HYX := Lib.hid hyx
  clear hi hz0 hz1 hz2 ha hb hyx
  go_enter Tryd.func24, Tryd.ntmps24
  go_upto_region 4 with (fail)
  go_loopw [5, 6, 7] (fun v z i wr => ∃ (O : List Nat) (u : Nat), z = .int .i64 u ∧ i = .int .i64 O.length ∧ O.length ≤ (dig x).length ∧ SubSt x y O u ∧ Below w.heap.size w wr ∧ wr.ownsRow w.heap.size 3 1 v O.length (nvals O)) (fun _ _ i _ => (dig x).length - (intOf i).toNat)
  case atStart => exact ⟨[], 0, rfl, rfl, by simp, SubSt.init x y, Below.refl _ _, World.ownsRow_nil _ _ _ _⟩
  case round =>
  obtain ⟨O, u, rfl, rfl, hOl, S, bel, own⟩ := hrel
  by_cases hm : O.length < (dig x).length
  · have d1 : decide ((O.length : Int) < ((dig x).length : Int)) = true := by simp; omega
    have hup := S.down
    obtain ⟨a0, hoa, hac⟩ := (HA.out.below bel).get O.length hm
    have hac2 : wr.cell? (a0.add O.length) = some (.int .i64 ((dAt (dig x) O.length : Nat) : Int)) := hac
    have QA := Lib.hid (refAt_any ob (dig y) cb O.length wr.drew ((HBB.out.below bel).drew) (by omega) (by omega))
    have h1 : dAt (dig x) O.length < 10 := getD_lt (all_dig x) O.length
    have h2 : dAt (dig y) O.length < 10 := getD_lt (all_dig y) O.length
    have SN := Lib.hid (fun s d' hs hd he => S.next s d' hs hd he)
    have bsz := bel.size
    clear S hac
    subst hoa
    have SN2 : Hid (∀ s d', s < 10 → d' ≤ 1 → dAt (dig x) O.length + 10 * d' = s + dAt (dig y) O.length + u → SubSt x y (O ++ [s]) d') := SN
    clear SN
    generalize dAt (dig x) O.length = a at *
    generalize dAt (dig y) O.length = b at *
    go_upto_region 6 with (fail)
    refine Seg.wp_region_segs (fun w' => ∃ n, w' = wr.drewN n) [([0, 1, 2, 3, 4, 5, 8], 6)] [7] 9 (by kernel_rfl) (by kernel_rfl) (fun _ _ d _ _ h => by cases d <;> exact h) (⟨1, rfl⟩) ?_
    simp only [List.map_cons, List.map_nil, Seg.opAt, List.drop_succ_cons, List.drop_zero, Seg.wpSegs, Array.getD_eq_getD_getElem?, List.getElem?_toArray, List.getElem?_cons_succ, List.getElem?_cons_zero, Option.getD_some]
    repeat (any_goals (first | go_big_quiet_step (fail) | quiet_step (fail)))
    refine wpQuiet_nil ?_
    intro K hK
    simp only [Region.wanted, if_true]
    go_wp2_with fail
    refine QA.out.mono ?_
    rintro e w5 ⟨rfl, rfl⟩
    refine hK _ _ ⟨1, rfl⟩ ?_
    clear hK K QA
    obtain ⟨z, hz⟩ : ∃ z : Int, (a : Int) - b - u = z := ⟨_, rfl⟩
    repeat (any_goals (first | go_big_quiet_step (fail) | quiet_step (fail)))
    refine wpQuiet_nil ?_
    by_cases hneg : z < 0
    · obtain ⟨sN, hsN⟩ : ∃ sN : Nat, z + 10 = (sN : Int) := ⟨(z + 10).toNat, by omega⟩
      have S2 := Lib.hid (SN2.out sN 1 (by omega) (by omega) (by omega))
      go_upto_region 5 with (at_builtin; refine wpList_append_own _ rfl (.tmp 29) (.tmp 31) 31 rfl w.heap.size 3 i0 (.int .i64 0) 1 8 Tryd.underlying31 HI.out HZ0.out HZ1.out HZ2.out rfl (by decide) u5 O.length (nvals O) rfl ((own.alloc _).drew) ⟨wr.heap.size, 0, none⟩ 1 1 (nvals [sN]) rfl rfl ?c1 ?c2 ?c3 ?c4 ?c5 ?_)
      case c1 => first | exact news_nvals wr [sN] _ _ rfl | exact fun _ _ h => h
      case c2 => exact nvals_one _
      case c3 => unfold maxLen; omega
      case c4 => omega
      case c5 => first | omega | (simp; omega)
      intro v5 w5 own5 hg5 _
      have bel5 : Below w.heap.size w w5 := ((bel.alloc bsz _).drew).grown hg5 (by simp; omega) (fun q hq => (own.lt q hq).1)
      rw [nvals_append] at own5
      have OWN5 : w5.ownsRow w.heap.size 3 1 v5 (O ++ [sN]).length (nvals (O ++ [sN])) := by rw [List.length_append]; exact own5
      clear own5 own hg5 bel hac2
      go_wp2_with fail
      go_roundw
      case rel => exact ⟨O ++ [sN], 1, rfl, by rw [List.length_append, List.length_singleton]; go_num, by rw [List.length_append, List.length_singleton]; omega, S2.out, bel5, OWN5⟩
      case measure => simp [intOf]; omega
    · obtain ⟨sN, hsN⟩ : ∃ sN : Nat, z = (sN : Int) := ⟨z.toNat, by omega⟩
      have S2 := Lib.hid (SN2.out sN 0 (by omega) (by omega) (by omega))
      subst hsN
      go_upto_region 5 with (at_builtin; refine wpList_append_own _ rfl (.tmp 29) (.tmp 31) 31 rfl w.heap.size 3 i0 (.int .i64 0) 1 8 Tryd.underlying31 HI.out HZ0.out HZ1.out HZ2.out rfl (by decide) u5 O.length (nvals O) rfl ((own.alloc _).drew) ⟨wr.heap.size, 0, none⟩ 1 1 (nvals [sN]) rfl rfl ?c1 ?c2 ?c3 ?c4 ?c5 ?_)
      case c1 => first | exact news_nvals wr [sN] _ _ rfl | exact fun _ _ h => h
      case c2 => exact nvals_one _
      case c3 => unfold maxLen; omega
      case c4 => omega
      case c5 => first | omega | (simp; omega)
      intro v5 w5 own5 hg5 _
      have bel5 : Below w.heap.size w w5 := ((bel.alloc bsz _).drew).grown hg5 (by simp; omega) (fun q hq => (own.lt q hq).1)
      rw [nvals_append] at own5
      have OWN5 : w5.ownsRow w.heap.size 3 1 v5 (O ++ [sN]).length (nvals (O ++ [sN])) := by rw [List.length_append]; exact own5
      clear own5 own hg5 bel hac2
      go_wp2_with fail
      go_roundw
      case rel => exact ⟨O ++ [sN], 0, rfl, by rw [List.length_append, List.length_singleton]; go_num, by rw [List.length_append, List.length_singleton]; omega, S2.out, bel5, OWN5⟩
      case measure => simp [intOf]; omega
  · have d1 : decide ((O.length : Int) < ((dig x).length : Int)) = false := by simp; omega
    have hO := Lib.hid (S.done (by omega) HYX.out)
    obtain ⟨oc, cc, rfl, hcc, hfr, hI⟩ := intsAt_own own
    have QT := Lib.hid (refTrim_any oc O cc wr hI (by omega) hcc S.all)
    rw [hO.out] at QT
    clear hI own S hO
    go_wp2_with (go_at_call 58; refine QT.out.mono ?_; rintro e w3 ⟨rfl, hI3, rfl⟩)
    go_ret
    exact ⟨oc, cc, rfl, hI3, bel, hfr⟩
set_option maxHeartbeats 4000000 in
set_option maxRecDepth 100000 in
theorem refCompare_any (x y : Nat) (oa ob : Option Addr) (ca cb : Nat) (w : World) (ha : IntsAt w oa (dig x)) (hb : IntsAt w ob (dig y)) (hx : (dig x).length < 1099511627776) (hy : (dig y).length < 1099511627776) :
    Calls Tryd.prog 23 #[.slice oa (dig x).length ca, .slice ob (dig y).length cb] w fun e w' => e = .returned (.int .i64 (cmpI x y)) ∧ Below w.heap.size w w' := by
  have HA := Lib.hid ha
  have HBB := Lib.hid hb
  clear ha hb
  go_enter Tryd.func23, Tryd.ntmps23
  by_cases hl : (dig x).length < (dig y).length
  · have hc := Lib.hid (cmpI_lt (lt_of_length_lt hl))
    have g1 : ¬ ((dig x).length : Int) = ((dig y).length : Int) := by omega
    have g2 : decide (((dig x).length : Int) < ((dig y).length : Int)) = true := by simp; omega
    go_wp2_with fail
    go_ret
    exact ⟨by rw [hc.out]; rfl, Below.refl _ _⟩
  by_cases hg : (dig y).length < (dig x).length
  · have hc := Lib.hid (cmpI_gt (lt_of_length_lt hg))
    have g1 : ¬ ((dig x).length : Int) = ((dig y).length : Int) := by omega
    have g2 : decide (((dig x).length : Int) < ((dig y).length : Int)) = false := by simp; omega
    go_wp2_with fail
    go_ret
    exact ⟨by rw [hc.out]; rfl, Below.refl _ _⟩
  have hll : (dig x).length = (dig y).length := by omega
  go_upto_region 6 with (fail)
  go_loopw [5] (fun i wr => ∃ (k : Nat) (z : Int), k ≤ (dig x).length ∧ z = (k : Int) - 1 ∧ i = .int .i64 z ∧ (dig x).drop k = (dig y).drop k ∧ Below w.heap.size w wr) (fun i _ => (intOf i + 1).toNat)
  case atStart => exact ⟨(dig x).length, (dig x).length - 1, Nat.le_refl _, rfl, by go_num, by rw [List.drop_of_length_le (Nat.le_refl _), List.drop_of_length_le (by omega)], Below.refl _ _⟩
  case round =>
  obtain ⟨k, z, hk, hz, rfl, hdr, bel⟩ := hrel
  by_cases h0 : k = 0
  · subst h0
    obtain rfl : z = -1 := by omega
    have hxy := eq_of_dig (by simpa using hdr)
    have hc := Lib.hid (show cmpI x y = 0 by rw [hxy]; exact cmpI_eq y)
    clear hz
    go_wp2_with fail
    go_ret
    exact ⟨by rw [hc.out]; rfl, bel⟩
  obtain ⟨j, rfl⟩ : ∃ j, k = j + 1 := ⟨k - 1, by omega⟩
  obtain rfl : z = (j : Int) := by omega
  have hjx : j < (dig x).length := by omega
  have hjy : j < (dig y).length := by omega
  obtain ⟨a0, hoa, hac⟩ := (HA.out.below bel).get j hjx
  obtain ⟨b0, hob, hbc⟩ := (HBB.out.below bel).get j hjy
  have hlt := Lib.hid (fun h => cmpI_lt (lt_of_digit hjx hjy hdr h))
  have hgt := Lib.hid (fun h => cmpI_gt (lt_of_digit hjy hjx hdr.symm h))
  have heq := Lib.hid (fun h => drop_same hjx hjy hdr h)
  have hj0 : (0 : Int) ≤ j := by omega
  have hjlx : (j : Int) < ((dig x).length : Int) := by omega
  have hjly : (j : Int) < ((dig y).length : Int) := by omega
  have HLL := Lib.hid hll
  have HK := Lib.hid hk
  subst hoa
  subst hob
  clear hz hdr h0 hll hk hl hg
  generalize (dig x).getD j 0 = a at *
  generalize (dig y).getD j 0 = b at *
  go_upto_region 8 with (fail)
  refine Seg.wp_region_segs (fun w' => ∃ n, w' = wr.drewN n) [] [0, 1, 2, 3, 4, 5, 6, 7] 8 (by kernel_rfl) (by kernel_rfl) (fun _ _ d _ _ h => by cases d <;> exact h) (⟨1, rfl⟩) ?_
  simp only [List.map_cons, List.map_nil, Seg.opAt, List.drop_succ_cons, List.drop_zero, Seg.wpSegs, Array.getD_eq_getD_getElem?, List.getElem?_toArray, List.getElem?_cons_succ, List.getElem?_cons_zero, Option.getD_some]
  repeat (any_goals (first | go_big_quiet_step (fail) | quiet_step (fail)))
  refine wpQuiet_nil ?_
  by_cases hab : a < b
  · have dl : decide ((a : Int) < (b : Int)) = true := by simp; omega
    have hc := Lib.hid (hlt.out hab)
    go_wp2_with fail
    go_ret
    exact ⟨by rw [hc.out]; rfl, bel.drew⟩
  have dl : decide ((a : Int) < (b : Int)) = false := by simp; omega
  go_upto_region 10 with (fail)
  refine Seg.wp_region_segs (fun w' => ∃ n, w' = wr.drewN n) [] [0, 1, 2, 3, 4, 5, 6, 7] 8 (by kernel_rfl) (by kernel_rfl) (fun _ _ d _ _ h => by cases d <;> exact h) (⟨2, rfl⟩) ?_
  simp only [List.map_cons, List.map_nil, Seg.opAt, List.drop_succ_cons, List.drop_zero, Seg.wpSegs, Array.getD_eq_getD_getElem?, List.getElem?_toArray, List.getElem?_cons_succ, List.getElem?_cons_zero, Option.getD_some]
  repeat (any_goals (first | go_big_quiet_step (fail) | quiet_step (fail)))
  refine wpQuiet_nil ?_
  by_cases hba : b < a
  · have dg : decide ((b : Int) < (a : Int)) = true := by simp; omega
    have hc := Lib.hid (hgt.out hba)
    go_wp2_with fail
    go_ret
    exact ⟨by rw [hc.out]; rfl, bel.drew.drew⟩
  · have dg : decide ((b : Int) < (a : Int)) = false := by simp; omega
    have he := Lib.hid (heq.out (by omega))
    go_wp2_with fail
    go_roundw
    case rel => exact ⟨j, (j : Int) - 1, by omega, rfl, by go_num, he.out, bel.drew.drew⟩
    case measure => simp [intOf]
end Go.Proofs.YtkkpfoidppjbdaaDoor
