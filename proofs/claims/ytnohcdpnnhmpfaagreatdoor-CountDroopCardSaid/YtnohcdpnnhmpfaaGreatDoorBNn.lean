/-
  The reference's Of, trim, at: rows of digits.
  The reference's Add, Sub, Compare.
  The reference's Sub and Compare.
  The reference's Mul.
  The reference's Div.
  The reference's Text: a number's digits as a text.
  Decimal texts: their value, which texts are numbers, a number's text. Plain law.
  '[]byte(s)': a new row that reads as the text.
-/
import Derived.Test.YtnohcdpnnhmpfaaGreatDoorBMem
import Derived.Test.YtnohcdpnnhmpfaaGreatDoorChecked
import Derived.OwnWalk
import Derived.WalkKit
import Derived.Deep.CutBlock
import Derived.Deep.DeepCutAuto
import Derived.Lib.Hide
import Derived.Deep.RegionWith
import Derived.Test.YtnohcdpnnhmpfaaGreatDoorBPlain
import Derived.Test.YtnohcdpnnhmpfaaGreatDoorBBase
import Derived.Deep.OwnRows
import Derived.Test.YtnohcdpnnhmpfaaGreatDoorBytes
namespace Go.Proofs.YtnohcdpnnhmpfaaGreatDoor
set_option linter.unusedVariables false
open Go.RowKit ML ND

theorem info_int : (Tryz.prog.info? 3).map (fun i => (i.zero, i.size, i.bytes)) = some (some (.int .i64 0), 1, 8) := by kernel_rfl
theorem news_nvals (w : World) (news : List Nat) (t : TypeId) (n : Nat) (hn : w.heap.size = n) : ∀ j u, (nvals news)[j]? = some u → (w.alloc (.cells (nvals news).toArray t)).cell? ((⟨n, 0, none⟩ : Addr).add j) = some u := news_new w (nvals news) t n hn
set_option maxHeartbeats 1000000 in
set_option maxRecDepth 100000 in
theorem refOf_any (n : Nat) (w : World) (hn : n < 9223372036854775808) :
    Calls Tryz.prog 80 #[.int .i64 (n : Int)] w fun e w' => ∃ oa cap, e = .returned (.slice oa (dig n).length cap) ∧ IntsAt w' oa (dig n) ∧ Below w.heap.size w w' := by
  obtain ⟨i0, hi, hz0, hz1, hz2⟩ := info_parts info_int
  have HI := Lib.hid hi
  have HZ0 := Lib.hid hz0
  have HZ1 := Lib.hid hz1
  have HZ2 := Lib.hid hz2
  clear hi hz0 hz1 hz2
  go_enter Tryz.func80, Tryz.ntmps80
  go_wp2_with fail
  generalize hB : w.heap.size = B at *
  have HB := Lib.hid hB
  clear hB
  go_loopw [0, 3] (fun z v wr => ∃ (L : List Nat) (k : Nat), z = .int .i64 k ∧ k ≤ n ∧ L ++ dig k = dig n ∧ L.length + k ≤ n ∧ Below B w wr ∧ wr.ownsRow B 3 1 v L.length (nvals L)) (fun z _ _ => (intOf z).toNat)
  case atStart => exact ⟨[], n, rfl, Nat.le_refl _, rfl, by simp, Below.refl _ _, World.ownsRow_nil _ _ _ _⟩
  case round =>
  obtain ⟨L, k, rfl, hk, hL, hl, bel, own⟩ := hrel
  by_cases h0 : 0 < k
  · have hd : decide ((0 : Int) < (k : Int)) = true := by simp; omega
    have hBw : B ≤ wr.heap.size := by have := bel.size; rw [HB.out] at this; exact this
    have hl19 : L.length ≤ 19 := by
      have h1 := length_dig_le n 19 (by omega)
      rw [← hL, List.length_append] at h1
      omega
    have hst := Lib.hid (show (L ++ [k % 10]) ++ dig (k / 10) = dig n by rw [List.append_assoc, List.singleton_append, ← dig_pos h0]; exact hL)
    go_upto_region 4 with (at_builtin; refine wpList_append_own _ rfl (.tmp 6) (.tmp 9) 67 rfl B 3 i0 (.int .i64 0) 1 8 Tryz.underlying67 HI.out HZ0.out HZ1.out HZ2.out rfl (by decide) u3 L.length (nvals L) rfl (own.alloc _) ⟨wr.heap.size, 0, none⟩ 1 1 (nvals [k % 10]) rfl rfl ?c1 ?c2 ?c3 ?c4 ?c5 ?_)
    case c1 => exact news_nvals wr [k % 10] _ _ rfl
    case c2 => exact nvals_one _
    case c3 => unfold maxLen; omega
    case c4 => omega
    case c5 => simp; omega
    intro v5 w5 own5 hg5 _
    have bel5 : Below B w w5 := (bel.alloc hBw _).grown hg5 (by simp; omega) (fun q hq => (own.lt q hq).1)
    rw [nvals_append] at own5
    have OWN5 : w5.ownsRow B 3 1 v5 (L ++ [k % 10]).length (nvals (L ++ [k % 10])) := by rw [List.length_append]; exact own5
    clear own5 own hg5 bel hL
    go_wp2_with fail
    go_roundw
    case rel => exact ⟨L ++ [k % 10], k / 10, by go_num, by omega, hst.out, by rw [List.length_append, List.length_singleton]; omega, bel5, OWN5⟩
    case measure => simp [intOf]; omega
  · have hd : decide ((0 : Int) < (k : Int)) = false := by simp; omega
    obtain rfl : k = 0 := by omega
    rw [dig_zero, List.append_nil] at hL
    obtain ⟨oa, cap, rfl, _, _, hI⟩ := intsAt_own own
    rw [hL] at hI
    have HLn := Lib.hid hL
    clear hL own
    go_wp2_with fail
    go_ret
    exact ⟨oa, cap, by rw [HLn.out]; rfl, hI, by rw [HB.out]; exact bel⟩
set_option maxHeartbeats 1000000 in
set_option maxRecDepth 100000 in
/-- 'at': the digit, 0 behind the end -/
theorem refAt_any (oa : Option Addr) (L : List Nat) (cap i : Nat) (w : World) (h : IntsAt w oa L) (hl : L.length < 9223372036854775808) (hi : i < 9223372036854775808) :
    Calls Tryz.prog 136 #[.slice oa L.length cap, .int .i64 (i : Int)] w fun e w' => e = .returned (.int .i64 ((dAt L i : Nat) : Int)) ∧ w' = w := by
  unfold dAt
  have H := Lib.hid h
  clear h
  go_enter Tryz.func136, Tryz.ntmps136
  by_cases hlt : i < L.length
  · obtain ⟨a, rfl, hc⟩ := H.out.get i hlt
    have hd : decide ((i : Int) < (L.length : Int)) = true := by simp; omega
    generalize L.getD i 0 = d at *
    go_wp2_with fail
    go_ret
    exact ⟨rfl, rfl⟩
  · have hd : decide ((i : Int) < (L.length : Int)) = false := by simp; omega
    have h0 : L.getD i 0 = 0 := by rw [List.getD_eq_getElem?_getD, List.getElem?_eq_none (by omega)]; rfl
    rw [h0]
    go_wp2_with fail
    go_ret
    exact ⟨rfl, rfl⟩
set_option maxHeartbeats 1000000 in
set_option maxRecDepth 100000 in
/-- 'trim': the zeros at the end are cut off -/
theorem refTrim_any (oa : Option Addr) (L : List Nat) (cap : Nat) (w : World) (h : IntsAt w oa L) (hl : L.length < 9223372036854775808) (hcap : L.length ≤ cap) (hA : AllD L) :
    Calls Tryz.prog 135 #[.slice oa L.length cap] w fun e w' => e = .returned (.slice oa (trimL L).length cap) ∧ IntsAt w oa (trimL L) ∧ w' = w := by
  have H := Lib.hid h
  have HA := Lib.hid hA
  clear h hA
  go_enter Tryz.func135, Tryz.ntmps135
  go_wp2_with fail
  go_loopw [0] (fun v wr => ∃ k : Nat, k ≤ L.length ∧ v = .slice oa k cap ∧ (∀ i, k ≤ i → L.getD i 0 = 0) ∧ wr = w) (fun v _ => match v with | .slice _ n _ => n | _ => 0)
  case atStart => exact ⟨L.length, Nat.le_refl _, rfl, fun i hi => by simp [List.getD_eq_getElem?_getD, List.getElem?_eq_none hi], rfl⟩
  case round =>
  obtain ⟨k, hk, rfl, hz, rfl⟩ := hrel
  have HZ := Lib.hid hz
  clear hz
  by_cases h0 : k = 0
  · subst h0
    have ht := take_trim L 0 HA.out (by omega) HZ.out (.inl rfl)
    rw [List.take_zero] at ht
    have HT := Lib.hid ht
    clear ht
    go_wp2_with fail
    go_ret
    rw [← HT.out]
    exact ⟨rfl, ⟨fun i hi => by simp at hi⟩, rfl⟩
  obtain ⟨j, rfl⟩ : ∃ j, k = j + 1 := ⟨k - 1, by omega⟩
  obtain ⟨a, rfl, hc⟩ := H.out.get j (by omega)
  have hk63 : (j : Int) + 1 < 9223372036854775808 := by omega
  have hjc : (j : Int) ≤ cap := by omega
  by_cases hd0 : L.getD j 0 = 0
  · have hz2 := Lib.hid (show ∀ i, j ≤ i → L.getD i 0 = 0 from fun i hi => by
      by_cases he : i = j
      · rw [he]; exact hd0
      · exact HZ.out i (by omega))
    rw [hd0] at hc
    clear hd0
    go_wp2_with fail
    go_roundw
    case rel => exact ⟨j, by omega, by go_num, hz2.out, trivial⟩
    case measure => simp
  · have ht := take_trim L (j + 1) HA.out hk HZ.out (.inr (by simpa using hd0))
    have hl2 : (trimL L).length = j + 1 := by rw [← ht, List.length_take]; omega
    have hI := H.out.take (j + 1)
    rw [ht] at hI
    have HI := Lib.hid hI
    have HL2 := Lib.hid hl2
    clear ht hl2 hI
    have hdf : (((L.getD j 0 : Nat) : Int) == 0) = false := by rw [beq_eq_false_iff_ne]; intro h; apply hd0; omega
    clear hd0 h0
    generalize L.getD j 0 = d at *
    go_wp2_with fail
    go_ret
    rw [HL2.out]
    exact ⟨rfl, HI.out, rfl⟩
end Go.Proofs.YtnohcdpnnhmpfaaGreatDoor
namespace Go.Proofs.YtnohcdpnnhmpfaaGreatDoor
set_option linter.unusedVariables false
open Go.RowKit ML ND

set_option maxHeartbeats 4000000 in
set_option maxRecDepth 100000 in
theorem refAdd_any (x y : Nat) (oa ob : Option Addr) (ca cb : Nat) (w : World) (ha : IntsAt w oa (dig x)) (hb : IntsAt w ob (dig y)) (hx : (dig x).length < 1099511627776) (hy : (dig y).length < 1099511627776) :
    Calls Tryz.prog 82 #[.slice oa (dig x).length ca, .slice ob (dig y).length cb] w fun e w' => ∃ oc cc, e = .returned (.slice oc (dig (x + y)).length cc) ∧ IntsAt w' oc (dig (x + y)) ∧ Below w.heap.size w w' := by
  obtain ⟨i0, hi, hz0, hz1, hz2⟩ := info_parts info_int
  have HI := Lib.hid hi
  have HZ0 := Lib.hid hz0
  have HZ1 := Lib.hid hz1
  have HZ2 := Lib.hid hz2
  have HA := Lib.hid ha
  have HBB := Lib.hid hb
  clear hi hz0 hz1 hz2 ha hb
  go_enter Tryz.func82, Tryz.ntmps82
  go_upto_region 4 with (fail)
  go_loopw [5, 6, 7] (fun v z i wr => ∃ (O : List Nat) (u : Nat), z = .int .i64 u ∧ i = .int .i64 O.length ∧ O.length ≤ (dig x).length + (dig y).length + 1 ∧ AddSt x y O u ∧ Below w.heap.size w wr ∧ wr.ownsRow w.heap.size 3 1 v O.length (nvals O)) (fun _ _ i _ => (dig x).length + (dig y).length + 1 - (intOf i).toNat)
  case atStart => exact ⟨[], 0, rfl, rfl, by simp, AddSt.init x y, Below.refl _ _, World.ownsRow_nil _ _ _ _⟩
  case round =>
  obtain ⟨O, u, rfl, rfl, hOl, S, bel, own⟩ := hrel
  by_cases hm : O.length < (dig x).length ∨ O.length < (dig y).length ∨ 0 < u
  · have hsh := S.short hm
    have SN := Lib.hid (S.next hm)
    have hup := S.up
    have QA := Lib.hid (fun (oz : Option Addr) (L : List Nat) (cz : Nat) (h : (oz = oa ∧ L = dig x) ∨ (oz = ob ∧ L = dig y)) => refAt_any oz L cz O.length wr (by
      rcases h with ⟨rfl, rfl⟩ | ⟨rfl, rfl⟩
      · exact HA.out.below bel
      · exact HBB.out.below bel) (by rcases h with ⟨rfl, rfl⟩ | ⟨rfl, rfl⟩ <;> omega) (by omega))
    have h1 : dAt (dig x) O.length < 10 := getD_lt (all_dig x) O.length
    have h2 : dAt (dig y) O.length < 10 := getD_lt (all_dig y) O.length
    clear S
    have hd : ((O.length : Int) < ((dig x).length : Int)) ∨ (¬ (O.length : Int) < ((dig x).length : Int) ∧ (O.length : Int) < ((dig y).length : Int)) ∨
        (¬ (O.length : Int) < ((dig x).length : Int) ∧ ¬ (O.length : Int) < ((dig y).length : Int) ∧ (0 : Int) < (u : Int)) := by omega
    have bsz := bel.size
    clear hm
    rcases hd with d1 | ⟨d1, d2⟩ | ⟨d1, d2, d3⟩
    all_goals (
      go_upto_region 8 with (first
        | (go_at_call 136; refine (QA.out _ _ _ ?ih).mono ?_; (case ih => first | exact .inl ⟨rfl, rfl⟩ | exact .inr ⟨rfl, rfl⟩); rintro e w3 ⟨rfl, rfl⟩)
        | (at_builtin; refine wpList_append_own _ rfl (.tmp 34) (.tmp 37) 67 rfl w.heap.size 3 i0 (.int .i64 0) 1 8 Tryz.underlying67 HI.out HZ0.out HZ1.out HZ2.out rfl (by decide) u5 O.length (nvals O) rfl (own.alloc _) ⟨w3.heap.size, 0, none⟩ 1 1 (nvals [(dAt (dig x) O.length + dAt (dig y) O.length + u) % 10]) rfl rfl ?c1 ?c2 ?c3 ?c4 ?c5 ?_))
      case c1 => exact news_nvals w3 [(dAt (dig x) O.length + dAt (dig y) O.length + u) % 10] _ _ rfl
      case c2 => exact nvals_one _
      case c3 => unfold maxLen; omega
      case c4 => omega
      case c5 => simp; omega
      intro v5 w5 own5 hg5 _
      have bel5 : Below w.heap.size w w5 := (bel.alloc bsz _).grown hg5 (by simp; omega) (fun q hq => (own.lt q hq).1)
      rw [nvals_append] at own5
      have OWN5 : w5.ownsRow w.heap.size 3 1 v5 (O ++ [(dAt (dig x) O.length + dAt (dig y) O.length + u) % 10]).length (nvals (O ++ [(dAt (dig x) O.length + dAt (dig y) O.length + u) % 10])) := by rw [List.length_append]; exact own5
      clear own5 own hg5 bel QA
      go_wp2_with fail
      go_roundw
      case rel => exact ⟨O ++ [(dAt (dig x) O.length + dAt (dig y) O.length + u) % 10], (dAt (dig x) O.length + dAt (dig y) O.length + u) / 10, by go_num, by rw [List.length_append, List.length_singleton]; go_num, by rw [List.length_append, List.length_singleton]; omega, SN.out, bel5, OWN5⟩
      case measure => simp [intOf]; omega)
  · have h3 : ¬ 0 < u := fun h => hm (.inr (.inr h))
    obtain rfl : u = 0 := by omega
    have h1 : ¬ O.length < (dig x).length := fun h => hm (.inl h)
    have h2 : ¬ O.length < (dig y).length := fun h => hm (.inr (.inl h))
    have hO := Lib.hid (S.done h1 h2)
    obtain ⟨oc, cc, rfl, _, _, hI⟩ := intsAt_own own
    have HII := Lib.hid hI
    have d1 : decide ((O.length : Int) < ((dig x).length : Int)) = false := by simp; omega
    have d2 : decide ((O.length : Int) < ((dig y).length : Int)) = false := by simp; omega
    clear hI own S hm h3
    go_wp2_with fail
    go_ret
    rw [← hO.out]
    exact ⟨oc, cc, rfl, HII.out, bel⟩
end Go.Proofs.YtnohcdpnnhmpfaaGreatDoor
namespace Go.Proofs.YtnohcdpnnhmpfaaGreatDoor
set_option linter.unusedVariables false
open Go.RowKit ML ND

set_option maxHeartbeats 4000000 in
set_option maxRecDepth 100000 in
theorem refSub_any (x y : Nat) (oa ob : Option Addr) (ca cb : Nat) (w : World) (hyx : y ≤ x) (ha : IntsAt w oa (dig x)) (hb : IntsAt w ob (dig y)) (hx : (dig x).length < 1099511627776) (hy : (dig y).length < 1099511627776) :
    Calls Tryz.prog 84 #[.slice oa (dig x).length ca, .slice ob (dig y).length cb] w fun e w' => ∃ oc cc, e = .returned (.slice oc (dig (x - y)).length cc) ∧ IntsAt w' oc (dig (x - y)) ∧ Below w.heap.size w w' ∧ (∀ a, oc = some a → w.heap.size ≤ a.block) := by
  obtain ⟨i0, hi, hz0, hz1, hz2⟩ := info_parts info_int
  have HI := Lib.hid hi
  have HZ0 := Lib.hid hz0
  have HZ1 := Lib.hid hz1
  have HZ2 := Lib.hid hz2
  have HA := Lib.hid ha
  have HBB := Lib.hid hb
  have HYX := Lib.hid hyx
  clear hi hz0 hz1 hz2 ha hb hyx
  go_enter Tryz.func84, Tryz.ntmps84
  go_upto_region 4 with (fail)
  go_loopw [5, 6, 7] (fun v z i wr => ∃ (O : List Nat) (u : Nat), z = .int .i64 u ∧ i = .int .i64 O.length ∧ O.length ≤ (dig x).length ∧ SubSt x y O u ∧ Below w.heap.size w wr ∧ wr.ownsRow w.heap.size 3 1 v O.length (nvals O)) (fun _ _ i _ => (dig x).length - (intOf i).toNat)
  case atStart => exact ⟨[], 0, rfl, rfl, by simp, SubSt.init x y, Below.refl _ _, World.ownsRow_nil _ _ _ _⟩
  case round =>
  obtain ⟨O, u, rfl, rfl, hOl, S, bel, own⟩ := hrel
  by_cases hm : O.length < (dig x).length
  · have d1 : decide ((O.length : Int) < ((dig x).length : Int)) = true := by simp; omega
    have hup := S.down
    obtain ⟨a0, hoa, hac⟩ := (HA.out.below bel).get O.length hm
    have hac2 : wr.cell? (a0.add O.length) = some (.int .i64 ((dAt (dig x) O.length : Nat) : Int)) := hac
    have QA := Lib.hid (refAt_any ob (dig y) cb O.length wr.drew ((HBB.out.below bel).drew) (by omega) (by omega))
    have h1 : dAt (dig x) O.length < 10 := getD_lt (all_dig x) O.length
    have h2 : dAt (dig y) O.length < 10 := getD_lt (all_dig y) O.length
    have SN := Lib.hid (fun s d' hs hd he => S.next s d' hs hd he)
    have bsz := bel.size
    clear S hac
    subst hoa
    have SN2 : Hid (∀ s d', s < 10 → d' ≤ 1 → dAt (dig x) O.length + 10 * d' = s + dAt (dig y) O.length + u → SubSt x y (O ++ [s]) d') := SN
    clear SN
    generalize dAt (dig x) O.length = a at *
    generalize dAt (dig y) O.length = b at *
    go_upto_region 6 with (fail)
    refine Seg.wp_region_segs (fun w' => ∃ n, w' = wr.drewN n) [([0, 1, 2, 3, 4, 5, 8], 6)] [7] 9 (by kernel_rfl) (by kernel_rfl) (fun _ _ d _ _ h => by cases d <;> exact h) (⟨1, rfl⟩) ?_
    simp only [List.map_cons, List.map_nil, Seg.opAt, List.drop_succ_cons, List.drop_zero, Seg.wpSegs, Array.getD_eq_getD_getElem?, List.getElem?_toArray, List.getElem?_cons_succ, List.getElem?_cons_zero, Option.getD_some]
    repeat (any_goals (first | go_big_quiet_step (fail) | quiet_step (fail)))
    refine wpQuiet_nil ?_
    intro K hK
    simp only [Region.wanted, if_true]
    go_wp2_with fail
    refine QA.out.mono ?_
    rintro e w5 ⟨rfl, rfl⟩
    refine hK _ _ ⟨1, rfl⟩ ?_
    clear hK K QA
    obtain ⟨z, hz⟩ : ∃ z : Int, (a : Int) - b - u = z := ⟨_, rfl⟩
    repeat (any_goals (first | go_big_quiet_step (fail) | quiet_step (fail)))
    refine wpQuiet_nil ?_
    by_cases hneg : z < 0
    · obtain ⟨sN, hsN⟩ : ∃ sN : Nat, z + 10 = (sN : Int) := ⟨(z + 10).toNat, by omega⟩
      have S2 := Lib.hid (SN2.out sN 1 (by omega) (by omega) (by omega))
      go_upto_region 5 with (at_builtin; refine wpList_append_own _ rfl (.tmp 29) (.tmp 31) 67 rfl w.heap.size 3 i0 (.int .i64 0) 1 8 Tryz.underlying67 HI.out HZ0.out HZ1.out HZ2.out rfl (by decide) u5 O.length (nvals O) rfl ((own.alloc _).drew) ⟨wr.heap.size, 0, none⟩ 1 1 (nvals [sN]) rfl rfl ?c1 ?c2 ?c3 ?c4 ?c5 ?_)
      case c1 => first | exact news_nvals wr [sN] _ _ rfl | exact fun _ _ h => h
      case c2 => exact nvals_one _
      case c3 => unfold maxLen; omega
      case c4 => omega
      case c5 => first | omega | (simp; omega)
      intro v5 w5 own5 hg5 _
      have bel5 : Below w.heap.size w w5 := ((bel.alloc bsz _).drew).grown hg5 (by simp; omega) (fun q hq => (own.lt q hq).1)
      rw [nvals_append] at own5
      have OWN5 : w5.ownsRow w.heap.size 3 1 v5 (O ++ [sN]).length (nvals (O ++ [sN])) := by rw [List.length_append]; exact own5
      clear own5 own hg5 bel hac2
      go_wp2_with fail
      go_roundw
      case rel => exact ⟨O ++ [sN], 1, rfl, by rw [List.length_append, List.length_singleton]; go_num, by rw [List.length_append, List.length_singleton]; omega, S2.out, bel5, OWN5⟩
      case measure => simp [intOf]; omega
    · obtain ⟨sN, hsN⟩ : ∃ sN : Nat, z = (sN : Int) := ⟨z.toNat, by omega⟩
      have S2 := Lib.hid (SN2.out sN 0 (by omega) (by omega) (by omega))
      subst hsN
      go_upto_region 5 with (at_builtin; refine wpList_append_own _ rfl (.tmp 29) (.tmp 31) 67 rfl w.heap.size 3 i0 (.int .i64 0) 1 8 Tryz.underlying67 HI.out HZ0.out HZ1.out HZ2.out rfl (by decide) u5 O.length (nvals O) rfl ((own.alloc _).drew) ⟨wr.heap.size, 0, none⟩ 1 1 (nvals [sN]) rfl rfl ?c1 ?c2 ?c3 ?c4 ?c5 ?_)
      case c1 => first | exact news_nvals wr [sN] _ _ rfl | exact fun _ _ h => h
      case c2 => exact nvals_one _
      case c3 => unfold maxLen; omega
      case c4 => omega
      case c5 => first | omega | (simp; omega)
      intro v5 w5 own5 hg5 _
      have bel5 : Below w.heap.size w w5 := ((bel.alloc bsz _).drew).grown hg5 (by simp; omega) (fun q hq => (own.lt q hq).1)
      rw [nvals_append] at own5
      have OWN5 : w5.ownsRow w.heap.size 3 1 v5 (O ++ [sN]).length (nvals (O ++ [sN])) := by rw [List.length_append]; exact own5
      clear own5 own hg5 bel hac2
      go_wp2_with fail
      go_roundw
      case rel => exact ⟨O ++ [sN], 0, rfl, by rw [List.length_append, List.length_singleton]; go_num, by rw [List.length_append, List.length_singleton]; omega, S2.out, bel5, OWN5⟩
      case measure => simp [intOf]; omega
  · have d1 : decide ((O.length : Int) < ((dig x).length : Int)) = false := by simp; omega
    have hO := Lib.hid (S.done (by omega) HYX.out)
    obtain ⟨oc, cc, rfl, hcc, hfr, hI⟩ := intsAt_own own
    have QT := Lib.hid (refTrim_any oc O cc wr hI (by omega) hcc S.all)
    rw [hO.out] at QT
    clear hI own S hO
    go_wp2_with (go_at_call 135; refine QT.out.mono ?_; rintro e w3 ⟨rfl, hI3, rfl⟩)
    go_ret
    exact ⟨oc, cc, rfl, hI3, bel, hfr⟩
set_option maxHeartbeats 4000000 in
set_option maxRecDepth 100000 in
theorem refCompare_any (x y : Nat) (oa ob : Option Addr) (ca cb : Nat) (w : World) (ha : IntsAt w oa (dig x)) (hb : IntsAt w ob (dig y)) (hx : (dig x).length < 1099511627776) (hy : (dig y).length < 1099511627776) :
    Calls Tryz.prog 83 #[.slice oa (dig x).length ca, .slice ob (dig y).length cb] w fun e w' => e = .returned (.int .i64 (cmpI x y)) ∧ Below w.heap.size w w' := by
  have HA := Lib.hid ha
  have HBB := Lib.hid hb
  clear ha hb
  go_enter Tryz.func83, Tryz.ntmps83
  by_cases hl : (dig x).length < (dig y).length
  · have hc := Lib.hid (cmpI_lt (lt_of_length_lt hl))
    have g1 : ¬ ((dig x).length : Int) = ((dig y).length : Int) := by omega
    have g2 : decide (((dig x).length : Int) < ((dig y).length : Int)) = true := by simp; omega
    go_wp2_with fail
    go_ret
    exact ⟨by rw [hc.out]; rfl, Below.refl _ _⟩
  by_cases hg : (dig y).length < (dig x).length
  · have hc := Lib.hid (cmpI_gt (lt_of_length_lt hg))
    have g1 : ¬ ((dig x).length : Int) = ((dig y).length : Int) := by omega
    have g2 : decide (((dig x).length : Int) < ((dig y).length : Int)) = false := by simp; omega
    go_wp2_with fail
    go_ret
    exact ⟨by rw [hc.out]; rfl, Below.refl _ _⟩
  have hll : (dig x).length = (dig y).length := by omega
  go_upto_region 6 with (fail)
  go_loopw [5] (fun i wr => ∃ (k : Nat) (z : Int), k ≤ (dig x).length ∧ z = (k : Int) - 1 ∧ i = .int .i64 z ∧ (dig x).drop k = (dig y).drop k ∧ Below w.heap.size w wr) (fun i _ => (intOf i + 1).toNat)
  case atStart => exact ⟨(dig x).length, (dig x).length - 1, Nat.le_refl _, rfl, by go_num, by rw [List.drop_of_length_le (Nat.le_refl _), List.drop_of_length_le (by omega)], Below.refl _ _⟩
  case round =>
  obtain ⟨k, z, hk, hz, rfl, hdr, bel⟩ := hrel
  by_cases h0 : k = 0
  · subst h0
    obtain rfl : z = -1 := by omega
    have hxy := eq_of_dig (by simpa using hdr)
    have hc := Lib.hid (show cmpI x y = 0 by rw [hxy]; exact cmpI_eq y)
    clear hz
    go_wp2_with fail
    go_ret
    exact ⟨by rw [hc.out]; rfl, bel⟩
  obtain ⟨j, rfl⟩ : ∃ j, k = j + 1 := ⟨k - 1, by omega⟩
  obtain rfl : z = (j : Int) := by omega
  have hjx : j < (dig x).length := by omega
  have hjy : j < (dig y).length := by omega
  obtain ⟨a0, hoa, hac⟩ := (HA.out.below bel).get j hjx
  obtain ⟨b0, hob, hbc⟩ := (HBB.out.below bel).get j hjy
  have hlt := Lib.hid (fun h => cmpI_lt (lt_of_digit hjx hjy hdr h))
  have hgt := Lib.hid (fun h => cmpI_gt (lt_of_digit hjy hjx hdr.symm h))
  have heq := Lib.hid (fun h => drop_same hjx hjy hdr h)
  have hj0 : (0 : Int) ≤ j := by omega
  have hjlx : (j : Int) < ((dig x).length : Int) := by omega
  have hjly : (j : Int) < ((dig y).length : Int) := by omega
  have HLL := Lib.hid hll
  have HK := Lib.hid hk
  subst hoa
  subst hob
  clear hz hdr h0 hll hk hl hg
  generalize (dig x).getD j 0 = a at *
  generalize (dig y).getD j 0 = b at *
  go_upto_region 8 with (fail)
  refine Seg.wp_region_segs (fun w' => ∃ n, w' = wr.drewN n) [] [0, 1, 2, 3, 4, 5, 6, 7] 8 (by kernel_rfl) (by kernel_rfl) (fun _ _ d _ _ h => by cases d <;> exact h) (⟨1, rfl⟩) ?_
  simp only [List.map_cons, List.map_nil, Seg.opAt, List.drop_succ_cons, List.drop_zero, Seg.wpSegs, Array.getD_eq_getD_getElem?, List.getElem?_toArray, List.getElem?_cons_succ, List.getElem?_cons_zero, Option.getD_some]
  repeat (any_goals (first | go_big_quiet_step (fail) | quiet_step (fail)))
  refine wpQuiet_nil ?_
  by_cases hab : a < b
  · have dl : decide ((a : Int) < (b : Int)) = true := by simp; omega
    have hc := Lib.hid (hlt.out hab)
    go_wp2_with fail
    go_ret
    exact ⟨by rw [hc.out]; rfl, bel.drew⟩
  have dl : decide ((a : Int) < (b : Int)) = false := by simp; omega
  go_upto_region 10 with (fail)
  refine Seg.wp_region_segs (fun w' => ∃ n, w' = wr.drewN n) [] [0, 1, 2, 3, 4, 5, 6, 7] 8 (by kernel_rfl) (by kernel_rfl) (fun _ _ d _ _ h => by cases d <;> exact h) (⟨2, rfl⟩) ?_
  simp only [List.map_cons, List.map_nil, Seg.opAt, List.drop_succ_cons, List.drop_zero, Seg.wpSegs, Array.getD_eq_getD_getElem?, List.getElem?_toArray, List.getElem?_cons_succ, List.getElem?_cons_zero, Option.getD_some]
  repeat (any_goals (first | go_big_quiet_step (fail) | quiet_step (fail)))
  refine wpQuiet_nil ?_
  by_cases hba : b < a
  · have dg : decide ((b : Int) < (a : Int)) = true := by simp; omega
    have hc := Lib.hid (hgt.out hba)
    go_wp2_with fail
    go_ret
    exact ⟨by rw [hc.out]; rfl, bel.drew.drew⟩
  · have dg : decide ((b : Int) < (a : Int)) = false := by simp; omega
    have he := Lib.hid (heq.out (by omega))
    go_wp2_with fail
    go_roundw
    case rel => exact ⟨j, (j : Int) - 1, by omega, rfl, by go_num, he.out, bel.drew.drew⟩
    case measure => simp [intOf]
end Go.Proofs.YtnohcdpnnhmpfaaGreatDoor
namespace Go.Proofs.YtnohcdpnnhmpfaaGreatDoor
set_option linter.unusedVariables false
open Go.RowKit ML ND

theorem made_nvals (n : Nat) : madeCells #[Value.int .i64 0] n = (nvals (List.replicate n 0)).toArray := by
  unfold madeCells nvals
  apply Array.ext
  · simp
  · intro i h1 h2
    simp [Nat.mod_one]
theorem size_nvals (L : List Nat) : (nvals L).toArray.size = L.length := by simp [nvals]
theorem cell_nvals {w : World} {b : Nat} {L : List Nat} {T : TypeId} (h : w.heap[b]? = some (.cells (nvals L).toArray T (0, 0))) (i : Nat) (hi : i < L.length) : w.cell? ⟨b, i, none⟩ = some (.int .i64 ((dAt L i : Nat) : Int)) := by
  rw [cell_of_row w b i _ _ _ h]
  simp [nvals, dAt, List.getD_eq_getElem?_getD, hi]
theorem set_nvals {w : World} {b : Nat} {L : List Nat} {T : TypeId} (h : w.heap[b]? = some (.cells (nvals L).toArray T (0, 0))) (i d : Nat) : (w.setCell ⟨b, i, none⟩ (.int .i64 (d : Int))).heap[b]? = some (.cells (nvals (L.set i d)).toArray T (0, 0)) := by
  rw [heap_setCell_same w b i _ _ _ h]
  congr 2
  simp [nvals, List.map_set]
set_option maxHeartbeats 4000000 in
set_option maxRecDepth 100000 in
theorem refMul_any (x y : Nat) (oa ob : Option Addr) (ca cb : Nat) (w : World) (ha : IntsAt w oa (dig x)) (hb : IntsAt w ob (dig y)) (hx : (dig x).length < 1099511627776) (hy : (dig y).length < 1099511627776) :
    Calls Tryz.prog 79 #[.slice oa (dig x).length ca, .slice ob (dig y).length cb] w fun e w' => ∃ oc cc, e = .returned (.slice oc (dig (x * y)).length cc) ∧ IntsAt w' oc (dig (x * y)) ∧ Below w.heap.size w w' := by
  obtain ⟨i0, hi, hz0, hz1, hz2⟩ := info_parts info_int
  have HI := Lib.hid hi
  have HZ0 := Lib.hid hz0
  have HZ1 := Lib.hid hz1
  have HZ2 := Lib.hid hz2
  have HA := Lib.hid ha
  have HBB := Lib.hid hb
  clear hi hz0 hz1 hz2 ha hb
  obtain ⟨n, hn⟩ : ∃ n, n = (dig x).length + (dig y).length := ⟨_, rfl⟩
  have hni : ((dig x).length : Int) + ((dig y).length : Int) = (n : Int) := by omega
  have hnb : n < 2199023255552 := by omega
  have HNN := Lib.hid hn
  clear hn
  go_enter Tryz.func79, Tryz.ntmps79
  go_upto_region 2 with (refine wpList_make_row _ rfl _ _ 67 rfl 3 i0 (.int .i64 0) Tryz.underlying67 HI.out HZ0.out HZ1.out rfl .i64 .i64 n rfl rfl (by rw [HZ2.out]; omega) (by omega) ?_)
  rw [made_nvals]
  generalize hB : w.heap.size = d at *
  refine wp_abs (fun w1 => Below d w w1 ∧ w1.heap[d]? = some (.cells (nvals (List.replicate n 0)).toArray 3 (0, 0))) ⟨by rw [← hB]; exact (Below.refl _ _).alloc (Nat.le_refl _) _, by rw [← hB]; exact heap_at rfl⟩ (fun w1 hw1 => ?_)
  obtain ⟨bel1, h1⟩ := hw1
  have S0 := MulSt.init x y
  rw [← HNN.out] at S0
  have HB := Lib.hid hB
  clear hB
  go_upto_region 3 with (fail)
  go_loopw [6] (fun i wr => ∃ (k : Nat) (W : List Nat), k ≤ (dig x).length ∧ i = .int .i64 k ∧ MulSt x y k W ∧ Below d w wr ∧ wr.heap[d]? = some (.cells (nvals W).toArray 3 (0, 0))) (fun i _ => (dig x).length - (intOf i).toNat)
  case atStart => exact ⟨0, _, by omega, rfl, S0, bel1, h1⟩
  case round =>
  obtain ⟨i, W, hk, rfl, S, bel, hW⟩ := hrel
  clear bel1 h1 S0
  by_cases hlt : i < (dig x).length
  · have hd1 : decide ((i : Int) < ((dig x).length : Int)) = true := by simp; omega
    obtain ⟨a0, hoa, hac⟩ := HA.out.get i hlt
    have hablk : a0.block < d := by
      obtain ⟨a1, h2, h3, _⟩ := HA.out.cells i hlt
      rw [hoa] at h2
      cases h2
      rw [HB.out] at h3
      exact h3
    have hac2 : w.cell? (a0.add i) = some (.int .i64 ((dAt (dig x) i : Nat) : Int)) := hac
    subst hoa
    clear hac
    go_upto_region 7 with (fail)
    go_loopw [7, 8] (fun u j wi => ∃ (k uN : Nat) (W : List Nat), k ≤ (dig y).length ∧ j = .int .i64 k ∧ u = .int .i64 uN ∧ RowSt x y i k W uN ∧ Below d w wi ∧ wi.heap[d]? = some (.cells (nvals W).toArray 3 (0, 0))) (fun _ j _ => (dig y).length - (intOf j).toNat)
    case atStart => exact ⟨0, 0, W, by omega, rfl, rfl, S.row, bel, hW⟩
    case round =>
    obtain ⟨j, u, W2, hj, rfl, rfl, R, bel2, hW2⟩ := hrel
    clear S bel hW
    by_cases hjt : j < (dig y).length
    · have hd2 : decide ((j : Int) < ((dig y).length : Int)) = true := by simp; omega
      obtain ⟨b0, hob, hbc⟩ := HBB.out.get j hjt
      have hbblk : b0.block < d := by
        obtain ⟨b1, h2, h3, _⟩ := HBB.out.cells j hjt
        rw [hob] at h2
        cases h2
        rw [HB.out] at h3
        exact h3
      have hac3 : wr.cell? (a0.add i) = some (.int .i64 ((dAt (dig x) i : Nat) : Int)) := by rw [bel2.cell (p := a0.add i) (by rw [addr_block]; exact hablk)]; exact hac2
      have hbc3 : wr.cell? (b0.add j) = some (.int .i64 ((dAt (dig y) j : Nat) : Int)) := by rw [bel2.cell (p := b0.add j) (by rw [addr_block]; exact hbblk)]; exact hbc
      have hnn := HNN.out
      have hijn : i + j < n := by omega
      have hc3 := cell_nvals hW2 (i + j) (by rw [R.len]; omega)
      have hf3 := frozen_of_row wr d (i + j) _ _ hW2
      have RN := Lib.hid (R.next hlt hjt)
      have hup := R.up
      have h1 : dAt (dig x) i < 10 := getD_lt (all_dig x) i
      have h2 : dAt (dig y) j < 10 := getD_lt (all_dig y) j
      have h3 : dAt W2 (i + j) < 10 := getD_lt R.all (i + j)
      have RN2 : Hid (RowSt x y i (j + 1) (W2.set (i + j) ((dAt W2 (i + j) + dAt (dig x) i * dAt (dig y) j + u) % 10)) ((dAt W2 (i + j) + dAt (dig x) i * dAt (dig y) j + u) / 10)) := RN
      have HW2 := Lib.hid hW2
      have HBEL := Lib.hid bel2
      subst hob
      clear RN R hbc hW2 bel2 hnn
      generalize dAt (dig x) i = a at *
      generalize dAt (dig y) j = b at *
      generalize dAt W2 (i + j) = c at *
      have hab : a * b ≤ 9 * 9 := Nat.mul_le_mul (by omega) (by omega)
      obtain ⟨m, hm⟩ : ∃ m, m = a * b := ⟨_, rfl⟩
      have hmi : (a : Int) * (b : Int) = (m : Int) := by rw [hm]; exact (Int.natCast_mul a b).symm
      rw [← hm] at RN2 hab
      have hm81 : m ≤ 81 := hab
      have hi0 : (0 : Int) ≤ (i : Int) + (j : Int) := by omega
      have hil : (i : Int) + (j : Int) < (n : Int) := by omega
      have hilx : (i : Int) < ((dig x).length : Int) := by omega
      have hjly : (j : Int) < ((dig y).length : Int) := by omega
      clear hm hab hac2
      go_upto_region 9 with (fail)
      refine Seg.wp_region_segs (fun w' => ∃ n, w' = wr.drewN n) [] [0, 1, 2, 3, 4, 5, 6, 7, 8, 9, 10, 11, 12, 13, 14, 15, 16] 17 (by kernel_rfl) (by kernel_rfl) (fun _ _ d _ _ h => by cases d <;> exact h) (⟨1, rfl⟩) ?_
      simp only [List.map_cons, List.map_nil, Seg.opAt, List.drop_succ_cons, List.drop_zero, Seg.wpSegs, Array.getD_eq_getD_getElem?, List.getElem?_toArray, List.getElem?_cons_succ, List.getElem?_cons_zero, Option.getD_some]
      repeat (any_goals (first | go_big_quiet_step (fail) | quiet_step (fail)))
      refine wpQuiet_nil ?_
      go_upto_region 11 with (fail)
      refine wp_abs (fun w4 => Below d w w4 ∧ w4.heap[d]? = some (.cells (nvals (W2.set (i + j) ((c + m + u) % 10))).toArray 3 (0, 0))) ?_ (fun w4 hw4 => ?_)
      · have e := set_nvals HW2.out (i + j) ((c + m + u) % 10)
        have hv : (((c + m + u) % 10 : Nat) : Int) = ((c : Int) + (m : Int) + (u : Int)) % 10 := by omega
        rw [hv] at e
        exact ⟨(bel_only HBEL.out ((Only.refl d wr).setCell _ _) (Nat.le_refl _)).drew, e⟩
      obtain ⟨bel4, hW4⟩ := hw4
      clear hac3 hbc3 hc3 hf3 HW2 HBEL
      go_wp2_with fail
      go_roundw
      case rel => exact ⟨j + 1, (c + m + u) / 10, _, by omega, by go_num, by go_num, RN2.out, bel4, hW4⟩
      case measure => simp [intOf]; omega
    · have hd2 : decide ((j : Int) < ((dig y).length : Int)) = false := by simp; omega
      obtain rfl : j = (dig y).length := by omega
      have hnn := HNN.out
      have hil : (i : Int) + ((dig y).length : Int) < (n : Int) := by omega
      have hi0 : (0 : Int) ≤ (i : Int) + ((dig y).length : Int) := by omega
      have hc3 := cell_nvals hW2 (i + (dig y).length) (by rw [R.len]; omega)
      have hf3 := frozen_of_row wr d (i + (dig y).length) _ _ hW2
      have RD := Lib.hid (R.done hlt)
      have HW2 := Lib.hid hW2
      clear R hW2 hnn hac2
      go_upto_region 4 with (fail)
      refine wp_abs (fun w4 => Below d w w4 ∧ w4.heap[d]? = some (.cells (nvals (W2.set (i + (dig y).length) u)).toArray 3 (0, 0))) ⟨bel_only bel2 ((Only.refl d wr).setCell _ _) (Nat.le_refl _), set_nvals HW2.out (i + (dig y).length) u⟩ (fun w4 hw4 => ?_)
      obtain ⟨bel4, hW4⟩ := hw4
      clear hc3 hf3 HW2 bel2
      go_wp2_with fail
      go_roundw
      case rel => exact ⟨i + 1, _, by omega, by go_num, RD.out, bel4, hW4⟩
      case measure => simp [intOf]; omega
  · have hd1 : decide ((i : Int) < ((dig x).length : Int)) = false := by simp; omega
    obtain rfl : i = (dig x).length := by omega
    have hO := Lib.hid S.done
    have hl : W.length = n := by rw [S.len, HNN.out]
    have QT := Lib.hid (refTrim_any (some ⟨d, 0, none⟩) W n wr (intsAt_block hW rfl) (by omega) (by omega) S.all)
    rw [hO.out, hl] at QT
    clear S hO hW
    go_wp2_with (go_at_call 135; refine QT.out.mono ?_; rintro e w3 ⟨rfl, hI3, rfl⟩)
    go_ret
    exact ⟨_, _, rfl, hI3, by rw [HB.out]; exact bel⟩
end Go.Proofs.YtnohcdpnnhmpfaaGreatDoor
namespace Go.Proofs.YtnohcdpnnhmpfaaGreatDoor
set_option linter.unusedVariables false
open Go.RowKit ML ND

theorem cmpI_ge {x y : Nat} (h : y ≤ x) : (0 : Int) ≤ cmpI x y := by
  rcases Nat.lt_or_ge y x with h1 | h1
  · rw [cmpI_gt h1]; decide
  · have : x = y := by omega
    rw [this, cmpI_eq]; decide
theorem cmpI_neg {x y : Nat} (h : x < y) : ¬ (0 : Int) ≤ cmpI x y := by rw [cmpI_lt h]; decide
theorem owns_one {w : World} {base g : Nat} {e : TypeId} {d : Nat} (hb : base ≤ g) (h : w.heap[g]? = some (.cells #[.int .i64 (d : Int)] e (0, 0))) : w.ownsRow base e 1 (.slice (some ⟨g, 0, none⟩) 1 1) 1 (nvals [d]) :=
  ⟨rfl, .inr ⟨g, 1, _, rfl, hb, h, Nat.le_refl _, by decide, rfl, rfl⟩⟩
theorem IntsAt.set {w : World} {oa : Option Addr} {L : List Nat} {d i : Nat} {v : Value} (h : IntsAt w oa L) (hne : ∀ a, oa = some a → d ≠ a.block) : IntsAt (w.setCell ⟨d, i, none⟩ v) oa L := ⟨fun j hj => by
  obtain ⟨a, h1, h2, h3⟩ := h.cells j hj
  have hb := (Only.refl d w).setCell i v
  refine ⟨a, h1, by rw [hb.size]; exact h2, ?_⟩
  have hblk : (a.add j).block ≠ d := by rw [addr_block]; exact fun e => hne a h1 e.symm
  rw [World.cell?_of_block (w := w) (hb.block _ hblk)]
  exact h3⟩
def cellN (w : World) (b i : Nat) : Nat := match w.cell? ⟨b, i, none⟩ with | some v => (intOf v).toNat | none => 0
theorem cellN_at {w : World} {b : Nat} {L : List Nat} {T : TypeId} (h : w.heap[b]? = some (.cells (nvals L).toArray T (0, 0))) (i : Nat) (hi : i < L.length) : cellN w b i = dAt L i := by
  unfold cellN
  rw [cell_nvals h i hi]
  simp [intOf]
set_option maxHeartbeats 4000000 in
set_option maxRecDepth 100000 in
theorem refDiv_any (x y : Nat) (oa ob : Option Addr) (ca cb : Nat) (w : World) (hy0 : 0 < y) (ha : IntsAt w oa (dig x)) (hb : IntsAt w ob (dig y)) (hx : (dig x).length < 1099511627776) (hy : (dig y).length < 1099511627775) :
    Calls Tryz.prog 134 #[.slice oa (dig x).length ca, .slice ob (dig y).length cb] w fun e w' => ∃ oq cq or cr, e = .returned (.tuple #[.slice oq (dig (x / y)).length cq, .slice or (dig (x % y)).length cr]) ∧ IntsAt w' oq (dig (x / y)) ∧ IntsAt w' or (dig (x % y)) ∧ Below w.heap.size w w' := by
  obtain ⟨i0, hi, hz0, hz1, hz2⟩ := info_parts info_int
  have HI := Lib.hid hi
  have HZ0 := Lib.hid hz0
  have HZ1 := Lib.hid hz1
  have HZ2 := Lib.hid hz2
  have HA := Lib.hid ha
  have HBB := Lib.hid hb
  clear hi hz0 hz1 hz2 ha hb
  have S0 := DivSt.init x y hy0
  go_enter Tryz.func134, Tryz.ntmps134
  go_upto_region 2 with (refine wpList_make_row _ rfl _ _ 67 rfl 3 i0 (.int .i64 0) Tryz.underlying67 HI.out HZ0.out HZ1.out rfl .i64 .i64 (dig x).length rfl rfl (by rw [HZ2.out]; omega) (by omega) ?_)
  rw [made_nvals]
  generalize hB : w.heap.size = d at *
  refine wp_abs (fun w1 => Below d w w1 ∧ w1.heap[d]? = some (.cells (nvals (List.replicate (dig x).length 0)).toArray 3 (0, 0))) ⟨by rw [← hB]; exact (Below.refl _ _).alloc (Nat.le_refl _) _, by rw [← hB]; exact heap_at rfl⟩ (fun w1 hw1 => ?_)
  obtain ⟨bel1, h1⟩ := hw1
  have HB := Lib.hid hB
  clear hB
  go_upto_region 4 with (fail)
  go_loopw [7, 8] (fun v i wr => ∃ (k r : Nat) (z : Int) (oc : Option Addr) (cc : Nat) (Q : List Nat), k ≤ (dig x).length ∧ z = (k : Int) - 1 ∧ i = .int .i64 z ∧ v = .slice oc (dig r).length cc ∧ DivSt x y k Q r ∧ IntsAt wr oc (dig r) ∧ Below d w wr ∧ wr.heap[d]? = some (.cells (nvals Q).toArray 3 (0, 0))) (fun _ i _ => (intOf i + 1).toNat)
  case atStart => exact ⟨(dig x).length, 0, (dig x).length - 1, none, 0, _, Nat.le_refl _, rfl, by go_num, by rw [dig_zero]; rfl, S0, by rw [dig_zero]; exact IntsAt.nil, bel1, h1⟩
  case round =>
  obtain ⟨k, r, z, oc, cc, Q, hk, hz, rfl, rfl, S, hr, bel, hQ⟩ := hrel
  clear bel1 h1 S0
  by_cases h0 : k = 0
  · subst h0
    obtain rfl : z = -1 := by omega
    have hd := Lib.hid S.done
    have hl := S.len
    have QT := Lib.hid (refTrim_any (some ⟨d, 0, none⟩) Q (dig x).length wr (intsAt_block hQ rfl) (by omega) (by omega) S.all)
    rw [hd.out.1, hl] at QT
    have HR := Lib.hid hr
    clear S hQ hr hz
    go_wp2_with (go_at_call 135; refine QT.out.mono ?_; rintro e w3 ⟨rfl, hI3, rfl⟩)
    go_ret2
    have HR2 := HR.out
    rw [hd.out.2] at HR2
    rw [hd.out.2]
    exact ⟨_, _, oc, cc, rfl, hI3, HR2, by rw [HB.out]; exact bel⟩
  obtain ⟨i, rfl⟩ : ∃ i, k = i + 1 := ⟨k - 1, by omega⟩
  obtain rfl : z = (i : Int) := by omega
  have hlt : i < (dig x).length := by omega
  have hi0 : (0 : Int) ≤ i := by omega
  have hix : (i : Int) < ((dig x).length : Int) := by omega
  obtain ⟨a0, hoa, hac⟩ := HA.out.get i hlt
  have hablk : a0.block < d := by
    obtain ⟨a1, h2, h3, _⟩ := HA.out.cells i hlt
    rw [hoa] at h2
    cases h2
    rw [HB.out] at h3
    exact h3
  have hac3 : wr.cell? (a0.add i) = some (.int .i64 ((dAt (dig x) i : Nat) : Int)) := by rw [bel.cell (p := a0.add i) (by rw [addr_block]; exact hablk)]; exact hac
  have D0 := S.digit hlt
  have hai : dAt (dig x) i < 10 := getD_lt (all_dig x) i
  have D1 : DigSt x y i Q (dAt (dig x) i + 10 * r) := D0
  have hrl : (dig r).length ≤ (dig y).length := length_dig_le _ _ (Nat.lt_trans S.lt (lt_pow_length y))
  subst hoa
  clear D0 S hac hz h0
  generalize dAt (dig x) i = a at *
  have hdw : d ≤ wr.heap.size := by have := lt_of_heap hQ; omega
  obtain ⟨w0, rfl⟩ : ∃ w0, w0 = wr := ⟨_, rfl⟩
  obtain ⟨B2, hB2⟩ : ∃ B2, B2 = w0.heap.size := ⟨_, rfl⟩
  go_upto_region 7 with (fail)
  refine wp_abs (fun w4 => Below B2 w0 w4 ∧ w4.heap[B2]? = some (.cells #[.int .i64 (a : Int)] 3 (0, 0))) ⟨by rw [hB2]; exact (Below.refl _ _).alloc (Nat.le_refl _) _, by rw [hB2]; exact heap_at rfl⟩ (fun w4 hw4 => ?_)
  obtain ⟨bel4, h4⟩ := hw4
  rw [← hB2]
  have own4 := owns_one (Nat.le_refl B2) h4
  have HB2 := Lib.hid hB2
  have HR := Lib.hid hr
  have HQ := Lib.hid hQ
  have HD1 := Lib.hid D1
  have HBEL := Lib.hid bel
  clear h4 hB2 hr hQ D1 bel hac3
  go_upto_region 8 with (fail)
  go_loopw [9, 29] (fun v j wi => ∃ k : Nat, k ≤ (dig r).length ∧ j = .int .i64 k ∧ Below B2 w0 wi ∧ wi.ownsRow B2 3 1 v (k + 1) (nvals (a :: (dig r).take k))) (fun _ j _ => (dig r).length - (intOf j).toNat)
  case atStart => exact ⟨0, by omega, rfl, bel4, by rw [List.take_zero]; exact own4⟩
  case round =>
  obtain ⟨j, hj, rfl, beli, own⟩ := hrel
  clear bel4 own4
  by_cases hjr : j < (dig r).length
  · have hdj : decide ((j : Int) < ((dig r).length : Int)) = true := by simp; omega
    have hIr : IntsAt wr oc (dig r) := HR.out.below (HB2.out ▸ beli)
    obtain ⟨r0, hor, hrc⟩ := hIr.get j hjr
    have hrc2 : wr.cell? (r0.add j) = some (.int .i64 ((dAt (dig r) j : Nat) : Int)) := hrc
    have hjl : (j : Int) < ((dig r).length : Int) := by omega
    have hj0 : (0 : Int) ≤ j := by omega
    have hbw : B2 ≤ wr.heap.size := by have := beli.size; rw [← HB2.out] at this; exact this
    have htk : (dig r).take (j + 1) = (dig r).take j ++ [dAt (dig r) j] := by
      rw [List.take_succ_eq_append_getElem hjr]
      simp [dAt, List.getD_eq_getElem?_getD, hjr]
    have HTK := Lib.hid htk
    subst hor
    clear hIr hrc htk
    generalize dAt (dig r) j = e0 at *
    go_upto_region 11 with (at_builtin; refine wpList_append_own _ rfl (.tmp 33) (.tmp 35) 67 rfl B2 3 i0 (.int .i64 0) 1 8 Tryz.underlying67 HI.out HZ0.out HZ1.out HZ2.out rfl (by decide) u9 (j + 1) _ rfl (own.alloc _) ⟨wr.heap.size, 0, none⟩ 1 1 (nvals [e0]) rfl rfl ?c1 ?c2 ?c3 ?c4 ?c5 ?_)
    case c1 => exact news_nvals wr [e0] _ _ rfl
    case c2 => exact nvals_one _
    case c3 => unfold maxLen; omega
    case c4 => omega
    case c5 => first | omega | (simp; omega)
    intro v5 w5 own5 hg5 _
    have bel5 : Below B2 w0 w5 := (beli.alloc hbw _).grown hg5 (by simp; omega) (fun q hq => (own.lt q hq).1)
    rw [nvals_append, List.cons_append, ← HTK.out] at own5
    have OWN5 := Lib.hid own5
    clear own5 own hg5 beli hrc2
    go_wp2_with fail
    go_roundw
    case rel => exact ⟨j + 1, by omega, by go_num, bel5, OWN5.out⟩
    case measure => simp [intOf]; omega
  · have hdj : decide ((j : Int) < ((dig r).length : Int)) = false := by simp; omega
    obtain rfl : j = (dig r).length := by omega
    rw [List.take_of_length_le (Nat.le_refl _)] at own
    have hcl : (a :: dig r).length = (dig r).length + 1 := rfl
    obtain ⟨on, cn, rfl, hcn, hfn, hIn⟩ := intsAt_own (L := a :: dig r) own
    obtain ⟨hAl, htr⟩ := trim_cons a r hai
    have QT := Lib.hid (refTrim_any on (a :: dig r) cn wr hIn (by rw [hcl]; omega) hcn hAl)
    rw [htr] at QT
    have hQ2 := bel_keep beli (lt_of_heap HQ.out |> fun h => by rw [HB2.out]; exact h) HQ.out
    have bel2 : Below d w wr := HBEL.out.trans (beli.mono (by rw [HB2.out]; exact hdw))
    have hdB : d < B2 := by rw [HB2.out]; exact lt_of_heap HQ.out
    obtain ⟨R, hR⟩ : ∃ R, R = a + 10 * r := ⟨_, rfl⟩
    rw [← hR] at QT HD1
    clear hIn own HQ HBEL HR beli hAl htr hR
    go_upto_region 13 with (go_at_call 135; refine QT.out.mono ?_; rintro e w6 ⟨rfl, hI6, rfl⟩)
    have hfd : ∀ a, on = some a → d < a.block := fun a h => Nat.lt_of_lt_of_le hdB (hfn a h)
    go_loopw [7] (fun v wi => ∃ (R : Nat) (oc : Option Addr) (cc : Nat) (Q : List Nat), v = .slice oc (dig R).length cc ∧ DigSt x y i Q R ∧ IntsAt wi oc (dig R) ∧ (∀ a, oc = some a → d < a.block) ∧ Below d w wi ∧ wi.heap[d]? = some (.cells (nvals Q).toArray 3 (0, 0))) (fun _ wi => 10 - cellN wi d i)
    case atStart => exact ⟨R, on, cn, Q, rfl, HD1.out, hI6, hfd, bel2, hQ2⟩
    case round =>
    clear hI6 bel2 hQ2 HD1 QT hfd hfn hcn hcl hjr hdj hj
    obtain ⟨R1, oc, cc, Q1, rfl, S, hI, hfd, bel, hQ⟩ := hrel
    have hRl : (dig R1).length ≤ (dig y).length + 1 := by
      refine length_dig_le _ _ ?_
      have h1 := S.lt
      have h2 := lt_pow_length y
      rw [Nat.pow_succ]
      omega
    have QC := Lib.hid (refCompare_any R1 y oc ob cc cb wr hI (HBB.out.below (by rw [HB.out]; exact bel)) (by omega) (by omega))
    have hdl : d < wr.heap.size := lt_of_heap hQ
    have hQl := S.len
    have HM := Lib.hid (cellN_at hQ i (by omega))
    by_cases hge : y ≤ R1
    · have hc0 := cmpI_ge hge
      have SN := Lib.hid (S.next hlt hge)
      have QS := Lib.hid (fun w7 h1 h2 => refSub_any R1 y oc ob cc cb w7 hge h1 h2 (by omega) (by omega))
      have HGE := Lib.hid hge
      clear S hge
      generalize cmpI R1 y = c1 at *
      have hdc : decide ((0 : Int) ≤ c1) = true := by simp; exact hc0
      go_upto_region 15 with (first
        | (go_at_call 83; refine QC.out.mono ?_; rintro e w7 ⟨rfl, hb7⟩; have hI7 := hI.below hb7; have hB7 := HBB.out.below (Below.trans (by rw [HB.out]; exact bel) (hb7.mono (by rw [HB.out]; omega))))
        | (go_at_call 84; refine (QS.out w7 hI7 hB7).mono ?_; rintro e w8 ⟨oc8, cc8, rfl, hI8, hb8, hf8⟩))
      have hd7 : d < w7.heap.size := Nat.lt_of_lt_of_le hdl hb7.size
      have hQ8 := bel_keep hb8 hd7 (bel_keep hb7 hdl hQ)
      have bel8 : Below d w w8 := (bel.trans (hb7.mono (Nat.le_of_lt hdl))).trans (hb8.mono (Nat.le_of_lt hd7))
      have hc8 := cell_nvals hQ8 i (by omega)
      have hfz := frozen_of_row w8 d i _ _ hQ8
      have hf8d : ∀ a, oc8 = some a → d < a.block := fun a h => Nat.lt_of_lt_of_le hd7 (hf8 a h)
      have SN2 : Hid (DigSt x y i (Q1.set i (dAt Q1 i + 1)) (R1 - y) ∧ dAt Q1 i + 1 < 10) := SN
      have hq10 : dAt Q1 i + 1 < 10 := SN.out.2
      have hmeas : dAt (Q1.set i (dAt Q1 i + 1)) i = dAt Q1 i + 1 := by
        have : i < Q1.length := by omega
        simp [dAt, List.getD_eq_getElem?_getD, this]
      have HMS := Lib.hid hmeas
      clear SN QS QC hI hfd bel hQ hb7 hI7 hB7 hb8 hf8 hmeas
      have hset := Lib.hid (fun q => set_nvals hQ8 i q)
      have HI8 := Lib.hid hI8
      have hls : i < (Q1.set i (dAt Q1 i + 1)).length := by rw [List.length_set]; omega
      clear hI8 hQ8
      generalize hq : dAt Q1 i = q at *
      have hQ9 : (w8.setCell ⟨d, i, none⟩ (.int .i64 ((q : Int) + 1))).heap[d]? = some (.cells (nvals (Q1.set i (q + 1))).toArray 3 (0, 0)) := by
        have := hset.out (q + 1)
        push_cast at this
        exact this
      have HQ9 := Lib.hid hQ9
      clear hQ9 hset
      go_wp2_with fail
      go_roundw
      case rel => exact ⟨R1 - y, oc8, cc8, _, rfl, SN2.out.1, HI8.out.set (fun a h => Nat.ne_of_lt (hf8d a h)), hf8d, bel_only bel8 ((Only.refl d w8).setCell _ _) (Nat.le_refl _), HQ9.out⟩
      case measure =>
        rw [HM.out, cellN_at HQ9.out i hls, HMS.out]
        omega
    · have hc0 := cmpI_neg (show R1 < y by omega)
      have SD := Lib.hid (S.done (by omega))
      clear S
      generalize cmpI R1 y = c1 at *
      have hdc : decide ((0 : Int) ≤ c1) = false := by simp; omega
      go_wp2_with (go_at_call 83; refine QC.out.mono ?_; rintro e w7 ⟨rfl, hb7⟩)
      have hI7 := hI.below hb7
      have bel7 := bel.trans (hb7.mono (Nat.le_of_lt hdl))
      have hQ7 := bel_keep hb7 hdl hQ
      clear QC hI bel hQ HM hb7
      go_roundw
      case rel => exact ⟨i, R1, (i : Int) - 1, oc, cc, Q1, by omega, rfl, by go_num, rfl, SD.out, hI7, bel7, hQ7⟩
      case measure => simp [intOf]
end Go.Proofs.YtnohcdpnnhmpfaaGreatDoor
namespace Go.Proofs.YtnohcdpnnhmpfaaGreatDoor
set_option linter.unusedVariables false
open Go.RowKit ML ND FM

def digB (n : Nat) : Bytes := (dig n).reverse.map fun d => UInt8.ofNat (d + 48)
def strD (n : Nat) : Bytes := if n = 0 then [48] else digB n
theorem length_digB (n : Nat) : (digB n).length = (dig n).length := by simp [digB]
def textRow (F : Bytes) (m : Nat) : Bytes := List.replicate m 0 ++ F.drop m
theorem length_textRow (F : Bytes) (m : Nat) (h : m ≤ F.length) : (textRow F m).length = F.length := by simp [textRow]; omega
theorem textRow_set (F : Bytes) (m : Nat) (h : m < F.length) : (textRow F (m + 1)).set m F[m] = textRow F m := by
  unfold textRow
  rw [List.drop_eq_getElem_cons h, List.replicate_succ', List.append_assoc, List.set_append_right _ _ (by simp)]
  simp
theorem made_bytes (n : Nat) : madeCells #[Value.int .u8 0] n = (Lib.byteCells (List.replicate n 0)).toArray := by
  unfold madeCells Lib.byteCells
  apply Array.ext
  · simp
  · intro i h1 h2
    simp [Nat.mod_one]
theorem set_bytes {w : World} {b : Nat} {L : Bytes} {T : TypeId} (h : w.heap[b]? = some (.cells (Lib.byteCells L).toArray T (0, 0))) (i : Nat) (c : UInt8) : (w.setCell ⟨b, i, none⟩ (.int .u8 (c.toNat : Int))).heap[b]? = some (.cells (Lib.byteCells (L.set i c)).toArray T (0, 0)) := by
  rw [heap_setCell_same w b i _ _ _ h]
  congr 2
  simp [Lib.byteCells, List.map_set]
theorem cell_bytes {w : World} {b : Nat} {L : Bytes} {T : TypeId} (h : w.heap[b]? = some (.cells (Lib.byteCells L).toArray T (0, 0))) (i : Nat) (hi : i < L.length) : ∃ v, w.cell? ⟨b, i, none⟩ = some v := by
  rw [cell_of_row w b i _ _ _ h]
  exact ⟨_, by simp [Lib.byteCells, hi]; rfl⟩
set_option maxHeartbeats 4000000 in
set_option maxRecDepth 100000 in
theorem refText_any (n : Nat) (oa : Option Addr) (ca : Nat) (w : World) (ha : IntsAt w oa (dig n)) (hx : (dig n).length < 1099511627776) :
    Calls Tryz.prog 81 #[.slice oa (dig n).length ca] w fun e w' => e = .returned (.string ⟨(strD n).toArray⟩) ∧ Below w.heap.size w w' := by
  obtain ⟨i0, hi, hz0, hz1, hz2⟩ := info_parts info_byte
  have HI := Lib.hid hi
  have HZ0 := Lib.hid hz0
  have HZ1 := Lib.hid hz1
  have HZ2 := Lib.hid hz2
  have HA := Lib.hid ha
  clear hi hz0 hz1 hz2 ha
  go_enter Tryz.func81, Tryz.ntmps81
  by_cases hn0 : n = 0
  · subst hn0
    have hs := Lib.hid (show strD 0 = [48] from rfl)
    have hl : (dig 0).length = 0 := by rw [dig_zero]; rfl
    rw [hl]
    go_wp2_with fail
    go_ret
    rw [hs.out]
    exact ⟨rfl, Below.refl _ _⟩
  have hs := Lib.hid (show strD n = digB n from if_neg hn0)
  have hpos : 0 < (dig n).length := by rw [dig_pos (by omega)]; simp
  have hnz : (((dig n).length : Int) == 0) = false := by rw [beq_eq_false_iff_ne]; omega
  have HFL := Lib.hid (length_digB n)
  have hdg := Lib.hid (fun (j : Nat) (hj : j < (dig n).length) => (show (digB n)[(dig n).length - 1 - j]'(by rw [length_digB]; omega) = UInt8.ofNat (dAt (dig n) j + 48) by
    simp [digB, dAt, List.getD_eq_getElem?_getD, hj]
    congr 2
    congr 1
    omega))
  obtain ⟨F, hF⟩ : ∃ F, F = digB n := ⟨_, rfl⟩
  go_upto_region 4 with (refine wpList_make_row _ rfl _ _ 91 rfl 5 i0 (.int .u8 0) Tryz.underlying91 HI.out HZ0.out HZ1.out rfl .i64 .i64 (dig n).length rfl rfl (by rw [HZ2.out]; omega) (by omega) ?_)
  rw [made_bytes]
  generalize hB : w.heap.size = d at *
  obtain ⟨l, hl⟩ : ∃ l, l = (dig n).length := ⟨_, rfl⟩
  have hFl : F.length = l := by rw [hF, HFL.out, hl]
  refine wp_abs (fun w1 => Below d w w1 ∧ w1.heap[d]? = some (.cells (Lib.byteCells (textRow F (dig n).length)).toArray 5 (0, 0))) ⟨by rw [← hB]; exact (Below.refl _ _).alloc (Nat.le_refl _) _, by
    rw [← hB]
    have e : textRow F (dig n).length = List.replicate (dig n).length 0 := by unfold textRow; rw [List.drop_of_length_le (by omega)]; simp
    rw [e]
    exact heap_at rfl⟩ (fun w1 hw1 => ?_)
  obtain ⟨bel1, h1⟩ := hw1
  have HB := Lib.hid hB
  have HF := Lib.hid hF
  have HL := Lib.hid hl
  have HFl := Lib.hid hFl
  clear hB hF hl hFl
  go_upto_region 5 with (fail)
  go_loopw [4] (fun i wr => ∃ k : Nat, k ≤ (dig n).length ∧ i = .int .i64 k ∧ Below d w wr ∧ wr.heap[d]? = some (.cells (Lib.byteCells (textRow F ((dig n).length - k))).toArray 5 (0, 0))) (fun i _ => (dig n).length - (intOf i).toNat)
  case atStart => exact ⟨0, by omega, rfl, bel1, h1⟩
  case round =>
  obtain ⟨k, hk, rfl, bel, hW⟩ := hrel
  clear bel1 h1
  by_cases hlt : k < (dig n).length
  · have hd1 : decide ((k : Int) < ((dig n).length : Int)) = true := by simp; omega
    obtain ⟨m, hm⟩ : ∃ m, (dig n).length - k = m + 1 := ⟨(dig n).length - k - 1, by omega⟩
    rw [hm] at hW
    obtain ⟨a0, hoa, hac⟩ := HA.out.get k hlt
    have hablk : a0.block < d := by
      obtain ⟨a1, h2, h3, _⟩ := HA.out.cells k hlt
      rw [hoa] at h2
      cases h2
      rw [HB.out] at h3
      exact h3
    have hac3 : wr.cell? (a0.add k) = some (.int .i64 ((dAt (dig n) k : Nat) : Int)) := by rw [bel.cell (p := a0.add k) (by rw [addr_block]; exact hablk)]; exact hac
    have hmF : m < F.length := by rw [HFl.out, HL.out]; omega
    have hFm := Lib.hid (show F[m] = UInt8.ofNat (dAt (dig n) k + 48) by
      have h := hdg.out k hlt
      have e : (dig n).length - 1 - k = m := by omega
      simp only [e] at h
      have h2 : ∀ (A B : Bytes) (hAB : A = B) (hA : m < A.length) (hB : m < B.length), A[m] = B[m] := by intro A B hAB hA hB; subst hAB; rfl
      exact (h2 F (digB n) HF.out hmF (by rw [← HF.out]; exact hmF)).trans h)
    have hdl : dAt (dig n) k < 10 := getD_lt (all_dig n) k
    obtain ⟨cv, hcv⟩ := cell_bytes hW m (by rw [length_textRow F (m + 1) (by omega)]; omega)
    have hfz := frozen_of_row wr d m _ _ hW
    have hmi : ((dig n).length : Int) - 1 - (k : Int) = (m : Int) := by omega
    have hml : (m : Int) < ((dig n).length : Int) := by omega
    have hts := Lib.hid (textRow_set F m hmF)
    have HW := Lib.hid hW
    have hkn : (dig n).length - (k + 1) = m := by omega
    have HKN := Lib.hid hkn
    subst hoa
    clear hac hW hm hkn
    generalize dAt (dig n) k = a at *
    go_upto_region 6 with (fail)
    refine wp_abs (fun w4 => Below d w w4 ∧ w4.heap[d]? = some (.cells (Lib.byteCells (textRow F m)).toArray 5 (0, 0))) ?_ (fun w4 hw4 => ?_)
    · have e := set_bytes HW.out m F[m]
      have hv : ((F[m]).toNat : Int) = (a : Int) + 48 := by
        rw [hFm.out]
        have : (UInt8.ofNat (a + 48)).toNat = a + 48 := by simp; omega
        rw [this]
        omega
      rw [hts.out, hv] at e
      exact ⟨bel_only bel ((Only.refl d wr).setCell _ _) (Nat.le_refl _), e⟩
    obtain ⟨bel4, hW4⟩ := hw4
    clear hac3 hcv hfz HW bel hts hFm
    go_wp2_with fail
    go_roundw
    case rel => exact ⟨k + 1, by omega, by go_num, bel4, by rw [HKN.out]; exact hW4⟩
    case measure => simp [intOf]; omega
  · have hd1 : decide ((k : Int) < ((dig n).length : Int)) = false := by simp; omega
    obtain rfl : k = (dig n).length := by omega
    have e : textRow F ((dig n).length - (dig n).length) = F := by rw [Nat.sub_self]; simp [textRow]
    rw [e] at hW
    have hFn : (dig n).length = F.length := by rw [HFl.out, HL.out]
    have hrange : wr.rangeAt d 0 (Lib.byteCells F) := fun j v hv => by
      rw [Nat.zero_add, cell_of_row wr d j _ _ _ hW]
      simpa using hv
    have HR := Lib.hid hrange
    have HFN := Lib.hid hFn
    clear hrange hW hFn e
    go_upto_region 8 with (fail)
    go_wp2_with (refine wpList_bytes_back rfl _ 91 9 5 rfl Tryz.underlying91 Tryz.underlying5 Tryz.underlying9 d (dig n).length (dig n).length F HFN.out rfl HR.out ?_)
    go_ret
    rw [hs.out, ← HF.out, HB.out]
    exact ⟨rfl, bel⟩
end Go.Proofs.YtnohcdpnnhmpfaaGreatDoor
namespace Go.Proofs.YtnohcdpnnhmpfaaGreatDoor
set_option linter.unusedVariables false
set_option linter.unusedSimpArgs false
open Go.RowKit ML ND FM

/-- a decimal text's value -/
def dv (F : Bytes) : Nat := F.foldl (fun k c => 10 * k + (c.toNat - 48)) 0
def DigsB (F : Bytes) : Prop := ∀ c ∈ F, 48 ≤ c.toNat ∧ c.toNat ≤ 57
/-- is a text a number? -/
def numB (F : Bytes) : Bool := decide (F ≠ []) && F.all (fun c => decide (48 ≤ c.toNat ∧ c.toNat ≤ 57)) && (decide (F.getD 0 0 ≠ 48) || decide (F.length = 1))
theorem numB_iff (F : Bytes) : numB F = true ↔ F ≠ [] ∧ DigsB F ∧ (F.getD 0 0 ≠ 48 ∨ F.length = 1) := by
  unfold numB DigsB
  simp only [Bool.and_eq_true, Bool.or_eq_true, decide_eq_true_eq, List.all_eq_true, and_assoc]
theorem numB_false (F : Bytes) (h : ¬ (F ≠ [] ∧ DigsB F ∧ (F.getD 0 0 ≠ 48 ∨ F.length = 1))) : numB F = false := by
  rw [Bool.eq_false_iff]
  intro h1
  exact h ((numB_iff F).1 h1)
theorem dv_foldl (F : Bytes) : ∀ k : Nat, F.foldl (fun k c => 10 * k + (c.toNat - 48)) k = k * 10 ^ F.length + dv F := by
  induction F with
  | nil => intro k; simp [dv]
  | cons c r ih =>
    intro k
    unfold dv
    rw [List.foldl_cons, List.foldl_cons, ih, ih (10 * 0 + (c.toNat - 48)), List.length_cons, Nat.pow_succ]
    generalize 10 ^ r.length = t
    rw [Nat.add_mul, Nat.add_mul]
    have : 10 * k * t = k * (t * 10) := by rw [Nat.mul_comm 10 k, Nat.mul_assoc, Nat.mul_comm 10 t]
    omega
theorem dv_append (A B : Bytes) : dv (A ++ B) = dv A * 10 ^ B.length + dv B := by
  unfold dv
  rw [List.foldl_append, dv_foldl B]
  rfl
theorem dv_one (c : UInt8) : dv [c] = c.toNat - 48 := by simp [dv]
theorem dv_snoc (F : Bytes) (p : Nat) (h : p < F.length) : dv (F.take (p + 1)) = 10 * dv (F.take p) + (F[p].toNat - 48) := by
  rw [List.take_succ_eq_append_getElem h, dv_append, dv_one]
  simp
  omega
theorem digs_take {F : Bytes} (h : DigsB F) (k : Nat) : DigsB (F.take k) := fun c hc => h c (List.mem_of_mem_take hc)
theorem digs_drop {F : Bytes} (h : DigsB F) (k : Nat) : DigsB (F.drop k) := fun c hc => h c (List.mem_of_mem_drop hc)
theorem dv_lt (F : Bytes) (h : DigsB F) : dv F < 10 ^ F.length := by
  induction F with
  | nil => simp [dv]
  | cons c r ih =>
    have hc := h c (List.mem_cons_self ..)
    have hr := ih (fun x hx => h x (List.mem_cons_of_mem _ hx))
    have e : dv (c :: r) = (c.toNat - 48) * 10 ^ r.length + dv r := by
      have := dv_append [c] r
      rw [dv_one] at this
      simpa using this
    rw [e, List.length_cons, Nat.pow_succ]
    generalize 10 ^ r.length = t at *
    have : (c.toNat - 48) * t ≤ 9 * t := Nat.mul_le_mul_right _ (by omega)
    omega
/-- the digits of a text, the lowest first -/
def digsOf (F : Bytes) : List Nat := F.reverse.map fun c => c.toNat - 48
theorem length_digsOf (F : Bytes) : (digsOf F).length = F.length := by simp [digsOf]
theorem all_digsOf {F : Bytes} (h : DigsB F) : AllD (digsOf F) := by
  intro d hd
  obtain ⟨c, hc, rfl⟩ := List.mem_map.1 hd
  have := h c (List.mem_reverse.1 hc)
  omega
theorem val_digsOf (F : Bytes) : val (digsOf F) = dv F := by
  induction F with
  | nil => rfl
  | cons c r ih =>
    unfold digsOf at *
    rw [List.reverse_cons, List.map_append, val_append, ih]
    have := dv_append [c] r
    rw [dv_one] at this
    simp only [List.singleton_append] at this
    rw [this]
    simp [val]
    rw [Nat.mul_comm]
    omega
theorem dig_dv {F : Bytes} (h : DigsB F) : trimL (digsOf F) = dig (dv F) := by
  unfold trimL
  rw [val_digsOf]
theorem dv_ge {F : Bytes} (h : DigsB F) (hn : F ≠ []) (h0 : F.getD 0 0 ≠ 48) : 10 ^ (F.length - 1) ≤ dv F := by
  cases F with
  | nil => exact absurd rfl hn
  | cons c r =>
    have hc := h c (List.mem_cons_self ..)
    have h1 : c ≠ 48 := by simpa using h0
    have h2 : c.toNat ≠ 48 := fun e => h1 (UInt8.toNat_inj.1 (by rw [e]; rfl))
    have := dv_append [c] r
    rw [dv_one] at this
    simp only [List.singleton_append] at this
    rw [this, List.length_cons, Nat.add_sub_cancel]
    have h3 : 1 * 10 ^ r.length ≤ (c.toNat - 48) * 10 ^ r.length := Nat.mul_le_mul_right _ (by omega)
    omega
/-- a number's text is the number's own -/
theorem strD_dv (F : Bytes) (h : numB F = true) : strD (dv F) = F := by
  obtain ⟨hn, hd, h0⟩ := (numB_iff F).1 h
  by_cases hz : F.getD 0 0 ≠ 48
  · have hg := dv_ge hd hn hz
    have hpos : 0 < 10 ^ (F.length - 1) := Nat.pow_pos (by decide)
    have hne : dv F ≠ 0 := by omega
    have hL : digsOf F = dig (dv F) := by
      rw [← val_digsOf F]
      exact dig_of_val _ (all_digsOf hd) (.inr (by rw [length_digsOf, val_digsOf]; exact hg))
    unfold strD digB
    rw [if_neg hne, ← hL]
    unfold digsOf
    rw [← List.map_reverse, List.reverse_reverse, List.map_map]
    conv => rhs; rw [← List.map_id F]
    apply List.map_congr_left
    intro c hc
    have hcd := hd c hc
    simp only [Function.comp, id]
    rw [show c.toNat - 48 + 48 = c.toNat by omega]
    exact UInt8.ofNat_toNat
  · have hz' : F.getD 0 0 = 48 := by simpa using hz
    have hl : F.length = 1 := by
      rcases h0 with h1 | h1
      · exact absurd hz' h1
      · exact h1
    obtain ⟨c, rfl⟩ := List.length_eq_one_iff.1 hl
    have hc : c = 48 := by simpa using hz'
    subst hc
    rfl
theorem mem_strD (n : Nat) : DigsB (strD n) := by
  intro c
  unfold strD digB
  split
  · intro hm
    have : c = 48 := by simpa using hm
    subst this; decide
  · intro hm
    obtain ⟨d, hd, rfl⟩ := List.mem_map.1 hm
    have := all_dig n d (List.mem_reverse.1 hd)
    have e : (UInt8.ofNat (d + 48)).toNat = d + 48 := by simp; omega
    rw [e]; omega
theorem dv_digB (n : Nat) : dv (digB n) = n := by
  rw [← val_digsOf]
  unfold digsOf digB
  rw [← List.map_reverse, List.reverse_reverse, List.map_map]
  conv => rhs; rw [← val_dig n]
  congr 1
  conv => rhs; rw [← List.map_id (dig n)]
  apply List.map_congr_left
  intro d hd
  have := all_dig n d hd
  simp only [Function.comp, id]
  have e : (UInt8.ofNat (d + 48)).toNat = d + 48 := by simp; omega
  rw [e]; omega
theorem dv_strD (n : Nat) : dv (strD n) = n := by
  unfold strD
  split
  · rename_i h; subst h; rfl
  · exact dv_digB n
theorem strD_ne (n : Nat) : strD n ≠ [] := by
  unfold strD
  split
  · simp
  · rename_i h
    intro e
    have e2 := congrArg List.length e
    rw [length_digB, dig_pos (by omega)] at e2
    simp at e2
theorem strD_head {n : Nat} (h : n ≠ 0) : (strD n).getD 0 0 ≠ 48 := by
  intro e0
  have hD := mem_strD n
  have hl := dv_strD n
  revert e0 hD hl
  unfold strD
  rw [if_neg h]
  intro e0 hD hl
  have hlen : (digB n).length = (dig n).length := length_digB n
  cases hq : digB n with
  | nil => rw [hq] at hl; exact h hl.symm
  | cons c r =>
    rw [hq] at e0 hl hD hlen
    have hc : c = 48 := by simpa using e0
    subst hc
    have := dv_append [48] r
    rw [dv_one] at this
    simp only [List.singleton_append] at this
    rw [hl] at this
    have hr := dv_lt r (fun x hx => hD x (List.mem_cons_of_mem _ hx))
    have hd : dig n ≠ [] := by intro e; rw [e] at hlen; simp at hlen
    have hg := dig_ge hd
    rw [← hlen, List.length_cons, Nat.add_sub_cancel] at hg
    simp at this
    omega
theorem numB_strD (n : Nat) : numB (strD n) = true := by
  rw [numB_iff]
  refine ⟨strD_ne n, mem_strD n, ?_⟩
  by_cases h : n = 0
  · subst h; exact .inr rfl
  · exact .inl (strD_head h)
end Go.Proofs.YtnohcdpnnhmpfaaGreatDoor
namespace Go.Proofs.YtnohcdpnnhmpfaaGreatDoor
open Go.RowKit ML FM

/-- '[]byte(s)': a new row that reads as the text -/
theorem wpList_bytes_of {P : Program} {w : World} {ops : Array Oper} {rest : List Oper} {o : Oper} {a : Act} {Q : Exit → Act → World → Prop} (hgd : o.guard = none) (x : Operand) (src dst e : TypeId)
    (ho : o.op = .convert src dst x) (hs : P.underlying src = some .string) (hd : P.underlying dst = some (.slice e)) (he : P.underlying e = some (.int .u8)) (D : Bytes) (hx : a.eval x = .string ⟨D.toArray⟩)
    (h : ∀ cap w', Below w.heap.size w w' → w.heap.size < w'.heap.size → (∀ j, j < D.length → w'.cell? ⟨w.heap.size, j, none⟩ = some (.int .u8 (byteN D j : Int))) → wpList P ops Q rest (a.put o.dst (.slice (some ⟨w.heap.size, 0, none⟩) D.length cap)) w') : wpList P ops Q (o :: rest) a w := by
  refine wpList_plain hgd fun K hK => ?_
  have hrun := run_bytes_of_string (P := P) w src dst e ⟨D.toArray⟩ hs hd he
  rw [size_mk] at hrun
  unfold Oper.wp
  simp only [execOp, ho, hx]
  generalize hc : grownCap w D.length 0 e = cap at *
  have hW := h cap _ (((Below.refl w.heap.size w).drew).alloc (Nat.le_refl _) (.cells (bytesRow ⟨D.toArray⟩ cap) e ((bytesRow ⟨D.toArray⟩ cap).size, (bytesRow ⟨D.toArray⟩ cap).size + 1))) (by simp) (fun j hj => by
    have hb := bytesRow_at ⟨D.toArray⟩ cap j (by simpa using hj)
    have hh : (w.drew.alloc (.cells (bytesRow ⟨D.toArray⟩ cap) e ((bytesRow ⟨D.toArray⟩ cap).size, (bytesRow ⟨D.toArray⟩ cap).size + 1))).heap[w.heap.size]? = some (.cells (bytesRow ⟨D.toArray⟩ cap) e ((bytesRow ⟨D.toArray⟩ cap).size, (bytesRow ⟨D.toArray⟩ cap).size + 1)) := heap_at rfl
    unfold World.cell?
    simp only [hh]
    rw [hb]
    simp [byteN, List.getD_eq_getElem?_getD, hj])
  simp [hrun, Result.andThen] at hK ⊢
  exact hK _ _ hW
end Go.Proofs.YtnohcdpnnhmpfaaGreatDoor
