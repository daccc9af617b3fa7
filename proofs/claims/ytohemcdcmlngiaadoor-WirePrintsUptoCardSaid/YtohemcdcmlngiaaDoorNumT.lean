/-
  The reference's Of, trim, Text, Compare, Is, Read, where the seat has no more of them (picked out of other templates by tools/pick.py).
-/
import Derived.Test.YtohemcdcmlngiaaDoorNMem
import Derived.Test.YtohemcdcmlngiaaDoorNDig2
import Derived.Test.YtohemcdcmlngiaaDoorBytes
import Derived.Test.YtohemcdcmlngiaaDoorChecked
import Derived.OwnWalk
import Derived.WalkKit
import Derived.Deep.CutBlock
import Derived.Deep.DeepCutAuto
import Derived.Lib.Hide
import Derived.Deep.RegionWith
import Derived.Deep.OwnRows
namespace Go.Proofs.YtohemcdcmlngiaaDoor
set_option linter.unusedVariables false
set_option linter.unusedSimpArgs false
open Go.RowKit ML ND FM
theorem info_int : (Tryd.prog.info? 3).map (fun i => (i.zero, i.size, i.bytes)) = some (some (.int .i64 0), 1, 8) := by kernel_rfl
theorem news_nvals (w : World) (news : List Nat) (t : TypeId) (n : Nat) (hn : w.heap.size = n) : ∀ j u, (nvals news)[j]? = some u → (w.alloc (.cells (nvals news).toArray t)).cell? ((⟨n, 0, none⟩ : Addr).add j) = some u := news_new w (nvals news) t n hn
set_option maxHeartbeats 1000000 in
set_option maxRecDepth 100000 in
theorem refOf_any (n : Nat) (w : World) (hn : n < 9223372036854775808) :
    Calls Tryd.prog 30 #[.int .i64 (n : Int)] w fun e w' => ∃ oa cap, e = .returned (.slice oa (dig n).length cap) ∧ IntsAt w' oa (dig n) ∧ Below w.heap.size w w' := by
  obtain ⟨i0, hi, hz0, hz1, hz2⟩ := info_parts info_int
  have HI := Lib.hid hi
  have HZ0 := Lib.hid hz0
  have HZ1 := Lib.hid hz1
  have HZ2 := Lib.hid hz2
  clear hi hz0 hz1 hz2
  go_enter Tryd.func30, Tryd.ntmps30
  go_wp2_with fail
  generalize hB : w.heap.size = B at *
  have HB := Lib.hid hB
  clear hB
  go_loopw [0, 3] (fun z v wr => ∃ (L : List Nat) (k : Nat), z = .int .i64 k ∧ k ≤ n ∧ L ++ dig k = dig n ∧ L.length + k ≤ n ∧ Below B w wr ∧ wr.ownsRow B 3 1 v L.length (nvals L)) (fun z _ _ => (intOf z).toNat)
  case atStart => exact ⟨[], n, rfl, Nat.le_refl _, rfl, by simp, Below.refl _ _, World.ownsRow_nil _ _ _ _⟩
  case round =>
  obtain ⟨L, k, rfl, hk, hL, hl, bel, own⟩ := hrel
  by_cases h0 : 0 < k
  · have hd : decide ((0 : Int) < (k : Int)) = true := by simp; omega
    have hBw : B ≤ wr.heap.size := by have := bel.size; rw [HB.out] at this; exact this
    have hl19 : L.length ≤ 19 := by
      have h1 := length_dig_le n 19 (by omega)
      rw [← hL, List.length_append] at h1
      omega
    have hst := Lib.hid (show (L ++ [k % 10]) ++ dig (k / 10) = dig n by rw [List.append_assoc, List.singleton_append, ← dig_pos h0]; exact hL)
    go_upto_region 4 with (at_builtin; refine wpList_append_own _ rfl (.tmp 6) (.tmp 9) 60 rfl B 3 i0 (.int .i64 0) 1 8 Tryd.underlying60 HI.out HZ0.out HZ1.out HZ2.out rfl (by decide) u3 L.length (nvals L) rfl (own.alloc _) ⟨wr.heap.size, 0, none⟩ 1 1 (nvals [k % 10]) rfl rfl ?c1 ?c2 ?c3 ?c4 ?c5 ?_)
    case c1 => exact news_nvals wr [k % 10] _ _ rfl
    case c2 => exact nvals_one _
    case c3 => unfold maxLen; omega
    case c4 => omega
    case c5 => simp; omega
    intro v5 w5 own5 hg5 _
    have bel5 : Below B w w5 := (bel.alloc hBw _).grown hg5 (by simp; omega) (fun q hq => (own.lt q hq).1)
    rw [nvals_append] at own5
    have OWN5 : w5.ownsRow B 3 1 v5 (L ++ [k % 10]).length (nvals (L ++ [k % 10])) := by rw [List.length_append]; exact own5
    clear own5 own hg5 bel hL
    go_wp2_with fail
    go_roundw
    case rel => exact ⟨L ++ [k % 10], k / 10, by go_num, by omega, hst.out, by rw [List.length_append, List.length_singleton]; omega, bel5, OWN5⟩
    case measure => simp [intOf]; omega
  · have hd : decide ((0 : Int) < (k : Int)) = false := by simp; omega
    obtain rfl : k = 0 := by omega
    rw [dig_zero, List.append_nil] at hL
    obtain ⟨oa, cap, rfl, _, _, hI⟩ := intsAt_own own
    rw [hL] at hI
    have HLn := Lib.hid hL
    clear hL own
    go_wp2_with fail
    go_ret
    exact ⟨oa, cap, by rw [HLn.out]; rfl, hI, by rw [HB.out]; exact bel⟩
set_option maxHeartbeats 1000000 in
set_option maxRecDepth 100000 in
/-- 'trim': the zeros at the end are cut off -/
theorem refTrim_any (oa : Option Addr) (L : List Nat) (cap : Nat) (w : World) (h : IntsAt w oa L) (hl : L.length < 9223372036854775808) (hcap : L.length ≤ cap) (hA : AllD L) :
    Calls Tryd.prog 49 #[.slice oa L.length cap] w fun e w' => e = .returned (.slice oa (trimL L).length cap) ∧ IntsAt w oa (trimL L) ∧ w' = w := by
  have H := Lib.hid h
  have HA := Lib.hid hA
  clear h hA
  go_enter Tryd.func49, Tryd.ntmps49
  go_wp2_with fail
  go_loopw [0] (fun v wr => ∃ k : Nat, k ≤ L.length ∧ v = .slice oa k cap ∧ (∀ i, k ≤ i → L.getD i 0 = 0) ∧ wr = w) (fun v _ => match v with | .slice _ n _ => n | _ => 0)
  case atStart => exact ⟨L.length, Nat.le_refl _, rfl, fun i hi => by simp [List.getD_eq_getElem?_getD, List.getElem?_eq_none hi], rfl⟩
  case round =>
  obtain ⟨k, hk, rfl, hz, rfl⟩ := hrel
  have HZ := Lib.hid hz
  clear hz
  by_cases h0 : k = 0
  · subst h0
    have ht := take_trim L 0 HA.out (by omega) HZ.out (.inl rfl)
    rw [List.take_zero] at ht
    have HT := Lib.hid ht
    clear ht
    go_wp2_with fail
    go_ret
    rw [← HT.out]
    exact ⟨rfl, ⟨fun i hi => by simp at hi⟩, rfl⟩
  obtain ⟨j, rfl⟩ : ∃ j, k = j + 1 := ⟨k - 1, by omega⟩
  obtain ⟨a, rfl, hc⟩ := H.out.get j (by omega)
  have hk63 : (j : Int) + 1 < 9223372036854775808 := by omega
  have hjc : (j : Int) ≤ cap := by omega
  by_cases hd0 : L.getD j 0 = 0
  · have hz2 := Lib.hid (show ∀ i, j ≤ i → L.getD i 0 = 0 from fun i hi => by
      by_cases he : i = j
      · rw [he]; exact hd0
      · exact HZ.out i (by omega))
    rw [hd0] at hc
    clear hd0
    go_wp2_with fail
    go_roundw
    case rel => exact ⟨j, by omega, by go_num, hz2.out, trivial⟩
    case measure => simp
  · have ht := take_trim L (j + 1) HA.out hk HZ.out (.inr (by simpa using hd0))
    have hl2 : (trimL L).length = j + 1 := by rw [← ht, List.length_take]; omega
    have hI := H.out.take (j + 1)
    rw [ht] at hI
    have HI := Lib.hid hI
    have HL2 := Lib.hid hl2
    clear ht hl2 hI
    have hdf : (((L.getD j 0 : Nat) : Int) == 0) = false := by rw [beq_eq_false_iff_ne]; intro h; apply hd0; omega
    clear hd0 h0
    generalize L.getD j 0 = d at *
    go_wp2_with fail
    go_ret
    rw [HL2.out]
    exact ⟨rfl, HI.out, rfl⟩
set_option maxHeartbeats 4000000 in
set_option maxRecDepth 100000 in
theorem refCompare_any (x y : Nat) (oa ob : Option Addr) (ca cb : Nat) (w : World) (ha : IntsAt w oa (dig x)) (hb : IntsAt w ob (dig y)) (hx : (dig x).length < 1099511627776) (hy : (dig y).length < 1099511627776) :
    Calls Tryd.prog 32 #[.slice oa (dig x).length ca, .slice ob (dig y).length cb] w fun e w' => e = .returned (.int .i64 (cmpI x y)) ∧ Below w.heap.size w w' := by
  have HA := Lib.hid ha
  have HBB := Lib.hid hb
  clear ha hb
  go_enter Tryd.func32, Tryd.ntmps32
  by_cases hl : (dig x).length < (dig y).length
  · have hc := Lib.hid (cmpI_lt (lt_of_length_lt hl))
    have g1 : ¬ ((dig x).length : Int) = ((dig y).length : Int) := by omega
    have g2 : decide (((dig x).length : Int) < ((dig y).length : Int)) = true := by simp; omega
    go_wp2_with fail
    go_ret
    exact ⟨by rw [hc.out]; rfl, Below.refl _ _⟩
  by_cases hg : (dig y).length < (dig x).length
  · have hc := Lib.hid (cmpI_gt (lt_of_length_lt hg))
    have g1 : ¬ ((dig x).length : Int) = ((dig y).length : Int) := by omega
    have g2 : decide (((dig x).length : Int) < ((dig y).length : Int)) = false := by simp; omega
    go_wp2_with fail
    go_ret
    exact ⟨by rw [hc.out]; rfl, Below.refl _ _⟩
  have hll : (dig x).length = (dig y).length := by omega
  go_upto_region 6 with (fail)
  go_loopw [5] (fun i wr => ∃ (k : Nat) (z : Int), k ≤ (dig x).length ∧ z = (k : Int) - 1 ∧ i = .int .i64 z ∧ (dig x).drop k = (dig y).drop k ∧ Below w.heap.size w wr) (fun i _ => (intOf i + 1).toNat)
  case atStart => exact ⟨(dig x).length, (dig x).length - 1, Nat.le_refl _, rfl, by go_num, by rw [List.drop_of_length_le (Nat.le_refl _), List.drop_of_length_le (by omega)], Below.refl _ _⟩
  case round =>
  obtain ⟨k, z, hk, hz, rfl, hdr, bel⟩ := hrel
  by_cases h0 : k = 0
  · subst h0
    obtain rfl : z = -1 := by omega
    have hxy := eq_of_dig (by simpa using hdr)
    have hc := Lib.hid (show cmpI x y = 0 by rw [hxy]; exact cmpI_eq y)
    clear hz
    go_wp2_with fail
    go_ret
    exact ⟨by rw [hc.out]; rfl, bel⟩
  obtain ⟨j, rfl⟩ : ∃ j, k = j + 1 := ⟨k - 1, by omega⟩
  obtain rfl : z = (j : Int) := by omega
  have hjx : j < (dig x).length := by omega
  have hjy : j < (dig y).length := by omega
  obtain ⟨a0, hoa, hac⟩ := (HA.out.below bel).get j hjx
  obtain ⟨b0, hob, hbc⟩ := (HBB.out.below bel).get j hjy
  have hlt := Lib.hid (fun h => cmpI_lt (lt_of_digit hjx hjy hdr h))
  have hgt := Lib.hid (fun h => cmpI_gt (lt_of_digit hjy hjx hdr.symm h))
  have heq := Lib.hid (fun h => drop_same hjx hjy hdr h)
  have hj0 : (0 : Int) ≤ j := by omega
  have hjlx : (j : Int) < ((dig x).length : Int) := by omega
  have hjly : (j : Int) < ((dig y).length : Int) := by omega
  have HLL := Lib.hid hll
  have HK := Lib.hid hk
  subst hoa
  subst hob
  clear hz hdr h0 hll hk hl hg
  generalize (dig x).getD j 0 = a at *
  generalize (dig y).getD j 0 = b at *
  go_upto_region 8 with (fail)
  refine Seg.wp_region_segs (fun w' => ∃ n, w' = wr.drewN n) [] [0, 1, 2, 3, 4, 5, 6, 7] 8 (by kernel_rfl) (by kernel_rfl) (fun _ _ d _ _ h => by cases d <;> exact h) (⟨1, rfl⟩) ?_
  simp only [List.map_cons, List.map_nil, Seg.opAt, List.drop_succ_cons, List.drop_zero, Seg.wpSegs, Array.getD_eq_getD_getElem?, List.getElem?_toArray, List.getElem?_cons_succ, List.getElem?_cons_zero, Option.getD_some]
  repeat (any_goals (first | go_big_quiet_step (fail) | quiet_step (fail)))
  refine wpQuiet_nil ?_
  by_cases hab : a < b
  · have dl : decide ((a : Int) < (b : Int)) = true := by simp; omega
    have hc := Lib.hid (hlt.out hab)
    go_wp2_with fail
    go_ret
    exact ⟨by rw [hc.out]; rfl, bel.drew⟩
  have dl : decide ((a : Int) < (b : Int)) = false := by simp; omega
  go_upto_region 10 with (fail)
  refine Seg.wp_region_segs (fun w' => ∃ n, w' = wr.drewN n) [] [0, 1, 2, 3, 4, 5, 6, 7] 8 (by kernel_rfl) (by kernel_rfl) (fun _ _ d _ _ h => by cases d <;> exact h) (⟨2, rfl⟩) ?_
  simp only [List.map_cons, List.map_nil, Seg.opAt, List.drop_succ_cons, List.drop_zero, Seg.wpSegs, Array.getD_eq_getD_getElem?, List.getElem?_toArray, List.getElem?_cons_succ, List.getElem?_cons_zero, Option.getD_some]
  repeat (any_goals (first | go_big_quiet_step (fail) | quiet_step (fail)))
  refine wpQuiet_nil ?_
  by_cases hba : b < a
  · have dg : decide ((b : Int) < (a : Int)) = true := by simp; omega
    have hc := Lib.hid (hgt.out hba)
    go_wp2_with fail
    go_ret
    exact ⟨by rw [hc.out]; rfl, bel.drew.drew⟩
  · have dg : decide ((b : Int) < (a : Int)) = false := by simp; omega
    have he := Lib.hid (heq.out (by omega))
    go_wp2_with fail
    go_roundw
    case rel => exact ⟨j, (j : Int) - 1, by omega, rfl, by go_num, he.out, bel.drew.drew⟩
    case measure => simp [intOf]
def digB (n : Nat) : Bytes := (dig n).reverse.map fun d => UInt8.ofNat (d + 48)
def strD (n : Nat) : Bytes := if n = 0 then [48] else digB n
theorem length_digB (n : Nat) : (digB n).length = (dig n).length := by simp [digB]
def textRow (F : Bytes) (m : Nat) : Bytes := List.replicate m 0 ++ F.drop m
theorem length_textRow (F : Bytes) (m : Nat) (h : m ≤ F.length) : (textRow F m).length = F.length := by simp [textRow]; omega
theorem textRow_set (F : Bytes) (m : Nat) (h : m < F.length) : (textRow F (m + 1)).set m F[m] = textRow F m := by
  unfold textRow
  rw [List.drop_eq_getElem_cons h, List.replicate_succ', List.append_assoc, List.set_append_right _ _ (by simp)]
  simp
theorem made_bytes (n : Nat) : madeCells #[Value.int .u8 0] n = (Lib.byteCells (List.replicate n 0)).toArray := by
  unfold madeCells Lib.byteCells
  apply Array.ext
  · simp
  · intro i h1 h2
    simp [Nat.mod_one]
theorem set_bytes {w : World} {b : Nat} {L : Bytes} {T : TypeId} (h : w.heap[b]? = some (.cells (Lib.byteCells L).toArray T (0, 0))) (i : Nat) (c : UInt8) : (w.setCell ⟨b, i, none⟩ (.int .u8 (c.toNat : Int))).heap[b]? = some (.cells (Lib.byteCells (L.set i c)).toArray T (0, 0)) := by
  rw [heap_setCell_same w b i _ _ _ h]
  congr 2
  simp [Lib.byteCells, List.map_set]
theorem cell_bytes {w : World} {b : Nat} {L : Bytes} {T : TypeId} (h : w.heap[b]? = some (.cells (Lib.byteCells L).toArray T (0, 0))) (i : Nat) (hi : i < L.length) : ∃ v, w.cell? ⟨b, i, none⟩ = some v := by
  rw [cell_of_row w b i _ _ _ h]
  exact ⟨_, by simp [Lib.byteCells, hi]; rfl⟩
set_option maxHeartbeats 4000000 in
set_option maxRecDepth 100000 in
theorem refText_any (n : Nat) (oa : Option Addr) (ca : Nat) (w : World) (ha : IntsAt w oa (dig n)) (hx : (dig n).length < 1099511627776) :
    Calls Tryd.prog 29 #[.slice oa (dig n).length ca] w fun e w' => e = .returned (.string ⟨(strD n).toArray⟩) ∧ Below w.heap.size w w' := by
  obtain ⟨i0, hi, hz0, hz1, hz2⟩ := info_parts info_byte
  have HI := Lib.hid hi
  have HZ0 := Lib.hid hz0
  have HZ1 := Lib.hid hz1
  have HZ2 := Lib.hid hz2
  have HA := Lib.hid ha
  clear hi hz0 hz1 hz2 ha
  go_enter Tryd.func29, Tryd.ntmps29
  by_cases hn0 : n = 0
  · subst hn0
    have hs := Lib.hid (show strD 0 = [48] from rfl)
    have hl : (dig 0).length = 0 := by rw [dig_zero]; rfl
    rw [hl]
    go_wp2_with fail
    go_ret
    rw [hs.out]
    exact ⟨rfl, Below.refl _ _⟩
  have hs := Lib.hid (show strD n = digB n from if_neg hn0)
  have hpos : 0 < (dig n).length := by rw [dig_pos (by omega)]; simp
  have hnz : (((dig n).length : Int) == 0) = false := by rw [beq_eq_false_iff_ne]; omega
  have HFL := Lib.hid (length_digB n)
  have hdg := Lib.hid (fun (j : Nat) (hj : j < (dig n).length) => (show (digB n)[(dig n).length - 1 - j]'(by rw [length_digB]; omega) = UInt8.ofNat (dAt (dig n) j + 48) by
    simp [digB, dAt, List.getD_eq_getElem?_getD, hj]
    congr 2
    congr 1
    omega))
  obtain ⟨F, hF⟩ : ∃ F, F = digB n := ⟨_, rfl⟩
  go_upto_region 4 with (refine wpList_make_row _ rfl _ _ 44 rfl 5 i0 (.int .u8 0) Tryd.underlying44 HI.out HZ0.out HZ1.out rfl .i64 .i64 (dig n).length rfl rfl (by rw [HZ2.out]; omega) (by omega) ?_)
  rw [made_bytes]
  generalize hB : w.heap.size = d at *
  obtain ⟨l, hl⟩ : ∃ l, l = (dig n).length := ⟨_, rfl⟩
  have hFl : F.length = l := by rw [hF, HFL.out, hl]
  refine wp_abs (fun w1 => Below d w w1 ∧ w1.heap[d]? = some (.cells (Lib.byteCells (textRow F (dig n).length)).toArray 5 (0, 0))) ⟨by rw [← hB]; exact (Below.refl _ _).alloc (Nat.le_refl _) _, by
    rw [← hB]
    have e : textRow F (dig n).length = List.replicate (dig n).length 0 := by unfold textRow; rw [List.drop_of_length_le (by omega)]; simp
    rw [e]
    exact heap_at rfl⟩ (fun w1 hw1 => ?_)
  obtain ⟨bel1, h1⟩ := hw1
  have HB := Lib.hid hB
  have HF := Lib.hid hF
  have HL := Lib.hid hl
  have HFl := Lib.hid hFl
  clear hB hF hl hFl
  go_upto_region 5 with (fail)
  go_loopw [4] (fun i wr => ∃ k : Nat, k ≤ (dig n).length ∧ i = .int .i64 k ∧ Below d w wr ∧ wr.heap[d]? = some (.cells (Lib.byteCells (textRow F ((dig n).length - k))).toArray 5 (0, 0))) (fun i _ => (dig n).length - (intOf i).toNat)
  case atStart => exact ⟨0, by omega, rfl, bel1, h1⟩
  case round =>
  obtain ⟨k, hk, rfl, bel, hW⟩ := hrel
  clear bel1 h1
  by_cases hlt : k < (dig n).length
  · have hd1 : decide ((k : Int) < ((dig n).length : Int)) = true := by simp; omega
    obtain ⟨m, hm⟩ : ∃ m, (dig n).length - k = m + 1 := ⟨(dig n).length - k - 1, by omega⟩
    rw [hm] at hW
    obtain ⟨a0, hoa, hac⟩ := HA.out.get k hlt
    have hablk : a0.block < d := by
      obtain ⟨a1, h2, h3, _⟩ := HA.out.cells k hlt
      rw [hoa] at h2
      cases h2
      rw [HB.out] at h3
      exact h3
    have hac3 : wr.cell? (a0.add k) = some (.int .i64 ((dAt (dig n) k : Nat) : Int)) := by rw [bel.cell (p := a0.add k) (by rw [addr_block]; exact hablk)]; exact hac
    have hmF : m < F.length := by rw [HFl.out, HL.out]; omega
    have hFm := Lib.hid (show F[m] = UInt8.ofNat (dAt (dig n) k + 48) by
      have h := hdg.out k hlt
      have e : (dig n).length - 1 - k = m := by omega
      simp only [e] at h
      have h2 : ∀ (A B : Bytes) (hAB : A = B) (hA : m < A.length) (hB : m < B.length), A[m] = B[m] := by intro A B hAB hA hB; subst hAB; rfl
      exact (h2 F (digB n) HF.out hmF (by rw [← HF.out]; exact hmF)).trans h)
    have hdl : dAt (dig n) k < 10 := getD_lt (all_dig n) k
    obtain ⟨cv, hcv⟩ := cell_bytes hW m (by rw [length_textRow F (m + 1) (by omega)]; omega)
    have hfz := frozen_of_row wr d m _ _ hW
    have hmi : ((dig n).length : Int) - 1 - (k : Int) = (m : Int) := by omega
    have hml : (m : Int) < ((dig n).length : Int) := by omega
    have hts := Lib.hid (textRow_set F m hmF)
    have HW := Lib.hid hW
    have hkn : (dig n).length - (k + 1) = m := by omega
    have HKN := Lib.hid hkn
    subst hoa
    clear hac hW hm hkn
    generalize dAt (dig n) k = a at *
    go_upto_region 6 with (fail)
    refine wp_abs (fun w4 => Below d w w4 ∧ w4.heap[d]? = some (.cells (Lib.byteCells (textRow F m)).toArray 5 (0, 0))) ?_ (fun w4 hw4 => ?_)
    · have e := set_bytes HW.out m F[m]
      have hv : ((F[m]).toNat : Int) = (a : Int) + 48 := by
        rw [hFm.out]
        have : (UInt8.ofNat (a + 48)).toNat = a + 48 := by simp; omega
        rw [this]
        omega
      rw [hts.out, hv] at e
      exact ⟨bel_only bel ((Only.refl d wr).setCell _ _) (Nat.le_refl _), e⟩
    obtain ⟨bel4, hW4⟩ := hw4
    clear hac3 hcv hfz HW bel hts hFm
    go_wp2_with fail
    go_roundw
    case rel => exact ⟨k + 1, by omega, by go_num, bel4, by rw [HKN.out]; exact hW4⟩
    case measure => simp [intOf]; omega
  · have hd1 : decide ((k : Int) < ((dig n).length : Int)) = false := by simp; omega
    obtain rfl : k = (dig n).length := by omega
    have e : textRow F ((dig n).length - (dig n).length) = F := by rw [Nat.sub_self]; simp [textRow]
    rw [e] at hW
    have hFn : (dig n).length = F.length := by rw [HFl.out, HL.out]
    have hrange : wr.rangeAt d 0 (Lib.byteCells F) := fun j v hv => by
      rw [Nat.zero_add, cell_of_row wr d j _ _ _ hW]
      simpa using hv
    have HR := Lib.hid hrange
    have HFN := Lib.hid hFn
    clear hrange hW hFn e
    go_upto_region 8 with (fail)
    go_wp2_with (refine wpList_bytes_back rfl _ 44 9 5 rfl Tryd.underlying44 Tryd.underlying5 Tryd.underlying9 d (dig n).length (dig n).length F HFN.out rfl HR.out ?_)
    go_ret
    rw [hs.out, ← HF.out, HB.out]
    exact ⟨rfl, bel⟩
/-- a decimal text's value -/
def dv (F : Bytes) : Nat := F.foldl (fun k c => 10 * k + (c.toNat - 48)) 0
def DigsB (F : Bytes) : Prop := ∀ c ∈ F, 48 ≤ c.toNat ∧ c.toNat ≤ 57
/-- is a text a number? -/
def numB (F : Bytes) : Bool := decide (F ≠ []) && F.all (fun c => decide (48 ≤ c.toNat ∧ c.toNat ≤ 57)) && (decide (F.getD 0 0 ≠ 48) || decide (F.length = 1))
theorem numB_iff (F : Bytes) : numB F = true ↔ F ≠ [] ∧ DigsB F ∧ (F.getD 0 0 ≠ 48 ∨ F.length = 1) := by
  unfold numB DigsB
  simp only [Bool.and_eq_true, Bool.or_eq_true, decide_eq_true_eq, List.all_eq_true, and_assoc]
theorem numB_false (F : Bytes) (h : ¬ (F ≠ [] ∧ DigsB F ∧ (F.getD 0 0 ≠ 48 ∨ F.length = 1))) : numB F = false := by
  rw [Bool.eq_false_iff]
  intro h1
  exact h ((numB_iff F).1 h1)
theorem dv_foldl (F : Bytes) : ∀ k : Nat, F.foldl (fun k c => 10 * k + (c.toNat - 48)) k = k * 10 ^ F.length + dv F := by
  induction F with
  | nil => intro k; simp [dv]
  | cons c r ih =>
    intro k
    unfold dv
    rw [List.foldl_cons, List.foldl_cons, ih, ih (10 * 0 + (c.toNat - 48)), List.length_cons, Nat.pow_succ]
    generalize 10 ^ r.length = t
    rw [Nat.add_mul, Nat.add_mul]
    have : 10 * k * t = k * (t * 10) := by rw [Nat.mul_comm 10 k, Nat.mul_assoc, Nat.mul_comm 10 t]
    omega
theorem dv_append (A B : Bytes) : dv (A ++ B) = dv A * 10 ^ B.length + dv B := by
  unfold dv
  rw [List.foldl_append, dv_foldl B]
  rfl
theorem dv_one (c : UInt8) : dv [c] = c.toNat - 48 := by simp [dv]
theorem dv_snoc (F : Bytes) (p : Nat) (h : p < F.length) : dv (F.take (p + 1)) = 10 * dv (F.take p) + (F[p].toNat - 48) := by
  rw [List.take_succ_eq_append_getElem h, dv_append, dv_one]
  simp
  omega
theorem digs_take {F : Bytes} (h : DigsB F) (k : Nat) : DigsB (F.take k) := fun c hc => h c (List.mem_of_mem_take hc)
theorem digs_drop {F : Bytes} (h : DigsB F) (k : Nat) : DigsB (F.drop k) := fun c hc => h c (List.mem_of_mem_drop hc)
theorem dv_lt (F : Bytes) (h : DigsB F) : dv F < 10 ^ F.length := by
  induction F with
  | nil => simp [dv]
  | cons c r ih =>
    have hc := h c (List.mem_cons_self ..)
    have hr := ih (fun x hx => h x (List.mem_cons_of_mem _ hx))
    have e : dv (c :: r) = (c.toNat - 48) * 10 ^ r.length + dv r := by
      have := dv_append [c] r
      rw [dv_one] at this
      simpa using this
    rw [e, List.length_cons, Nat.pow_succ]
    generalize 10 ^ r.length = t at *
    have : (c.toNat - 48) * t ≤ 9 * t := Nat.mul_le_mul_right _ (by omega)
    omega
/-- the digits of a text, the lowest first -/
def digsOf (F : Bytes) : List Nat := F.reverse.map fun c => c.toNat - 48
theorem length_digsOf (F : Bytes) : (digsOf F).length = F.length := by simp [digsOf]
theorem all_digsOf {F : Bytes} (h : DigsB F) : AllD (digsOf F) := by
  intro d hd
  obtain ⟨c, hc, rfl⟩ := List.mem_map.1 hd
  have := h c (List.mem_reverse.1 hc)
  omega
theorem val_digsOf (F : Bytes) : val (digsOf F) = dv F := by
  induction F with
  | nil => rfl
  | cons c r ih =>
    unfold digsOf at *
    rw [List.reverse_cons, List.map_append, val_append, ih]
    have := dv_append [c] r
    rw [dv_one] at this
    simp only [List.singleton_append] at this
    rw [this]
    simp [val]
    rw [Nat.mul_comm]
    omega
theorem dig_dv {F : Bytes} (h : DigsB F) : trimL (digsOf F) = dig (dv F) := by
  unfold trimL
  rw [val_digsOf]
theorem dv_ge {F : Bytes} (h : DigsB F) (hn : F ≠ []) (h0 : F.getD 0 0 ≠ 48) : 10 ^ (F.length - 1) ≤ dv F := by
  cases F with
  | nil => exact absurd rfl hn
  | cons c r =>
    have hc := h c (List.mem_cons_self ..)
    have h1 : c ≠ 48 := by simpa using h0
    have h2 : c.toNat ≠ 48 := fun e => h1 (UInt8.toNat_inj.1 (by rw [e]; rfl))
    have := dv_append [c] r
    rw [dv_one] at this
    simp only [List.singleton_append] at this
    rw [this, List.length_cons, Nat.add_sub_cancel]
    have h3 : 1 * 10 ^ r.length ≤ (c.toNat - 48) * 10 ^ r.length := Nat.mul_le_mul_right _ (by omega)
    omega
/-- a number's text is the number's own -/
theorem strD_dv (F : Bytes) (h : numB F = true) : strD (dv F) = F := by
  obtain ⟨hn, hd, h0⟩ := (numB_iff F).1 h
  by_cases hz : F.getD 0 0 ≠ 48
  · have hg := dv_ge hd hn hz
    have hpos : 0 < 10 ^ (F.length - 1) := Nat.pow_pos (by decide)
    have hne : dv F ≠ 0 := by omega
    have hL : digsOf F = dig (dv F) := by
      rw [← val_digsOf F]
      exact dig_of_val _ (all_digsOf hd) (.inr (by rw [length_digsOf, val_digsOf]; exact hg))
    unfold strD digB
    rw [if_neg hne, ← hL]
    unfold digsOf
    rw [← List.map_reverse, List.reverse_reverse, List.map_map]
    conv => rhs; rw [← List.map_id F]
    apply List.map_congr_left
    intro c hc
    have hcd := hd c hc
    simp only [Function.comp, id]
    rw [show c.toNat - 48 + 48 = c.toNat by omega]
    exact UInt8.ofNat_toNat
  · have hz' : F.getD 0 0 = 48 := by simpa using hz
    have hl : F.length = 1 := by
      rcases h0 with h1 | h1
      · exact absurd hz' h1
      · exact h1
    obtain ⟨c, rfl⟩ := List.length_eq_one_iff.1 hl
    have hc : c = 48 := by simpa using hz'
    subst hc
    rfl
theorem mem_strD (n : Nat) : DigsB (strD n) := by
  intro c
  unfold strD digB
  split
  · intro hm
    have : c = 48 := by simpa using hm
    subst this; decide
  · intro hm
    obtain ⟨d, hd, rfl⟩ := List.mem_map.1 hm
    have := all_dig n d (List.mem_reverse.1 hd)
    have e : (UInt8.ofNat (d + 48)).toNat = d + 48 := by simp; omega
    rw [e]; omega
theorem dv_digB (n : Nat) : dv (digB n) = n := by
  rw [← val_digsOf]
  unfold digsOf digB
  rw [← List.map_reverse, List.reverse_reverse, List.map_map]
  conv => rhs; rw [← val_dig n]
  congr 1
  conv => rhs; rw [← List.map_id (dig n)]
  apply List.map_congr_left
  intro d hd
  have := all_dig n d hd
  simp only [Function.comp, id]
  have e : (UInt8.ofNat (d + 48)).toNat = d + 48 := by simp; omega
  rw [e]; omega
theorem dv_strD (n : Nat) : dv (strD n) = n := by
  unfold strD
  split
  · rename_i h; subst h; rfl
  · exact dv_digB n
theorem strD_ne (n : Nat) : strD n ≠ [] := by
  unfold strD
  split
  · simp
  · rename_i h
    intro e
    have e2 := congrArg List.length e
    rw [length_digB, dig_pos (by omega)] at e2
    simp at e2
theorem strD_head {n : Nat} (h : n ≠ 0) : (strD n).getD 0 0 ≠ 48 := by
  intro e0
  have hD := mem_strD n
  have hl := dv_strD n
  revert e0 hD hl
  unfold strD
  rw [if_neg h]
  intro e0 hD hl
  have hlen : (digB n).length = (dig n).length := length_digB n
  cases hq : digB n with
  | nil => rw [hq] at hl; exact h hl.symm
  | cons c r =>
    rw [hq] at e0 hl hD hlen
    have hc : c = 48 := by simpa using e0
    subst hc
    have := dv_append [48] r
    rw [dv_one] at this
    simp only [List.singleton_append] at this
    rw [hl] at this
    have hr := dv_lt r (fun x hx => hD x (List.mem_cons_of_mem _ hx))
    have hd : dig n ≠ [] := by intro e; rw [e] at hlen; simp at hlen
    have hg := dig_ge hd
    rw [← hlen, List.length_cons, Nat.add_sub_cancel] at hg
    simp at this
    omega
theorem numB_strD (n : Nat) : numB (strD n) = true := by
  rw [numB_iff]
  refine ⟨strD_ne n, mem_strD n, ?_⟩
  by_cases h : n = 0
  · subst h; exact .inr rfl
  · exact .inl (strD_head h)
theorem digs_byteN {F : Bytes} (h : DigsB F) (k : Nat) (hk : k < F.length) : 48 ≤ byteN F k ∧ byteN F k ≤ 57 := by
  have hb : byteN F k = F[k].toNat := by simp [byteN, List.getD_eq_getElem?_getD, hk]
  rw [hb]
  exact h _ (List.getElem_mem hk)
theorem digs_of_byteN {F : Bytes} (h : ∀ i, i < F.length → 48 ≤ byteN F i ∧ byteN F i ≤ 57) : DigsB F := by
  intro c hc
  obtain ⟨i, hi, rfl⟩ := List.getElem_of_mem hc
  have := h i hi
  simpa [byteN, List.getD_eq_getElem?_getD, hi] using this
theorem getD_byteN (F : Bytes) (i : Nat) : (F.getD i 0 = 48) ↔ byteN F i = 48 := by
  unfold byteN
  constructor
  · intro h; rw [h]; rfl
  · intro h; exact UInt8.toNat_inj.1 (by rw [h]; rfl)
theorem strBN (T : Bytes) (i : Nat) (h : i < (ByteArray.mk T.toArray).size) : (((ByteArray.mk T.toArray)[i]'h).toNat : Int) = (byteN T i : Int) := by
  rw [size_mk] at h
  unfold byteN
  rw [List.getD_eq_getElem?_getD, List.getElem?_eq_getElem h]
  rfl
set_option maxHeartbeats 2000000 in
set_option maxRecDepth 100000 in
theorem refIs_any (F : Bytes) (w : World) (hF : F.length < 140737488355328) :
    Calls Tryd.prog 31 #[.string ⟨F.toArray⟩] w fun e w' => e = .returned (.bool (numB F)) ∧ w' = w := by
  go_enter Tryd.func31, Tryd.ntmps31
  by_cases hne : F = []
  · subst hne
    have hb := Lib.hid (show numB [] = false from rfl)
    go_wp2_with fail
    go_ret
    rw [hb.out]
    exact ⟨rfl, rfl⟩
  have hpos : 0 < F.length := List.length_pos_iff.2 hne
  have hnz : ((F.length : Int) == 0) = false := by rw [beq_eq_false_iff_ne]; omega
  have HNE := Lib.hid hne
  clear hne
  go_upto_region 4 with (fail)
  go_loopw [3] (fun j wi => ∃ k : Nat, k ≤ F.length ∧ j = .int .i64 k ∧ (∀ i, i < k → 48 ≤ byteN F i ∧ byteN F i ≤ 57) ∧ wi = w) (fun j _ => F.length - (intOf j).toNat)
  case atStart => exact ⟨0, by omega, rfl, fun i hi => by omega, rfl⟩
  case round =>
  obtain ⟨k, hk, rfl, hpre, hw⟩ := hrel
  replace hw := hw.symm
  subst hw
  by_cases hlt : k < F.length
  · have hdj : decide ((k : Int) < (F.length : Int)) = true := by simp; omega
    have hj0 : (0 : Int) ≤ k := by omega
    have hjl2 : (k : Int) < ((F.length : Nat) : Int) := by omega
    have hs0 : ∀ h, (((ByteArray.mk F.toArray)[k]'h).toNat : Int) = (byteN F k : Int) := fun h => strBN F k h
    have hbad := Lib.hid (fun (h : ¬ (48 ≤ byteN F k ∧ byteN F k ≤ 57)) => (show numB F = false from numB_false F (fun h2 => h (digs_byteN h2.2.1 k hlt))))
    have hgood := Lib.hid (fun (h : 48 ≤ byteN F k ∧ byteN F k ≤ 57) (i : Nat) (hi : i < k + 1) => (show 48 ≤ byteN F i ∧ byteN F i ≤ 57 by
      by_cases he : i = k
      · rw [he]; exact h
      · exact hpre i (by omega)))
    clear hpre
    generalize byteN F k = c at *
    by_cases h1 : c < 48
    · have e1 : (c : Int) < 48 := by omega
      have hb := Lib.hid (hbad.out (by omega))
      clear hbad hgood
      go_wp2_with fail
      go_ret
      rw [hb.out]
      exact ⟨rfl, rfl⟩
    by_cases h2 : 57 < c
    · have e1 : ¬ (c : Int) < 48 := by omega
      have e2 : (57 : Int) < c := by omega
      have hb := Lib.hid (hbad.out (by omega))
      clear hbad hgood
      go_wp2_with fail
      go_ret
      rw [hb.out]
      exact ⟨rfl, rfl⟩
    have e1 : ¬ (c : Int) < 48 := by omega
    have e2 : ¬ (57 : Int) < c := by omega
    have hg := Lib.hid (hgood.out (by omega))
    clear hbad hgood
    go_wp2_with fail
    go_roundw
    case rel => exact ⟨k + 1, by omega, by go_num, hg.out, trivial⟩
    case measure => simp [intOf]; omega
  · have hdj : decide ((k : Int) < (F.length : Int)) = false := by simp; omega
    obtain rfl : k = F.length := by omega
    have hD := Lib.hid (digs_of_byteN hpre)
    have hs0 : ∀ h, (((ByteArray.mk F.toArray)[0]'h).toNat : Int) = (byteN F 0 : Int) := fun h => strBN F 0 h
    clear hpre
    by_cases hz : byteN F 0 = 48
    · rw [hz] at hs0
      by_cases hl1 : F.length = 1
      · have hb := Lib.hid ((numB_iff F).2 ⟨HNE.out, hD.out, .inr hl1⟩)
        have e1 : ((F.length : Int) == 1) = true := by rw [beq_iff_eq]; omega
        go_wp2_with fail
        go_ret
        rw [hb.out]
        exact ⟨rfl, rfl⟩
      · have hb := Lib.hid (numB_false F (fun h => h.2.2.elim (fun h1 => h1 ((getD_byteN F 0).2 hz)) hl1))
        have e1 : ((F.length : Int) == 1) = false := by rw [beq_eq_false_iff_ne]; omega
        go_wp2_with fail
        go_ret
        rw [hb.out]
        exact ⟨rfl, rfl⟩
    · have hb := Lib.hid ((numB_iff F).2 ⟨HNE.out, hD.out, .inl (fun h => hz ((getD_byteN F 0).1 h))⟩)
      have e1 : ((byteN F 0 : Int) == 48) = false := by rw [beq_eq_false_iff_ne]; omega
      have e2 : ¬ (byteN F 0 : Int) = 48 := by omega
      go_wp2_with fail
      go_ret
      rw [hb.out]
      exact ⟨rfl, rfl⟩
set_option maxHeartbeats 2000000 in
set_option maxRecDepth 100000 in
theorem refRead_any (F : Bytes) (w : World) (hF : F.length < 1099511627776) (hn : DigsB F) :
    Calls Tryd.prog 33 #[.string ⟨F.toArray⟩] w fun e w' => ∃ oc cc, e = .returned (.slice oc (dig (dv F)).length cc) ∧ IntsAt w' oc (dig (dv F)) ∧ Below w.heap.size w w' ∧ (∀ a, oc = some a → a.block < w'.heap.size) := by
  obtain ⟨i0, hi, hz0, hz1, hz2⟩ := info_parts info_int
  have HI := Lib.hid hi
  have HZ0 := Lib.hid hz0
  have HZ1 := Lib.hid hz1
  have HZ2 := Lib.hid hz2
  have HD := Lib.hid hn
  clear hi hz0 hz1 hz2 hn
  go_enter Tryd.func33, Tryd.ntmps33
  go_upto_region 3 with (fail)
  go_loopw [3, 4] (fun v i wr => ∃ (k : Nat) (z : Int), k ≤ F.length ∧ z = (F.length : Int) - 1 - (k : Int) ∧ i = .int .i64 z ∧ Below w.heap.size w wr ∧ wr.ownsRow w.heap.size 3 1 v k (nvals ((digsOf F).take k))) (fun _ i _ => (intOf i + 1).toNat)
  case atStart => exact ⟨0, (F.length : Int) - 1, by omega, by omega, by go_num, Below.refl _ _, World.ownsRow_nil _ _ _ _⟩
  case round =>
  obtain ⟨k, z, hk, hz, rfl, bel, own⟩ := hrel
  by_cases hlt : k < F.length
  · obtain ⟨j, hj⟩ : ∃ j : Nat, z = (j : Int) := ⟨F.length - 1 - k, by omega⟩
    subst hj
    have hjl : j < F.length := by omega
    have hj0 : (0 : Int) ≤ j := by omega
    have hjl2 : (j : Int) < (F.length : Int) := by omega
    obtain ⟨h48, h57⟩ := digs_byteN HD.out j hjl
    have hs0 : ∀ h, (((ByteArray.mk F.toArray)[j]'h).toNat : Int) = (byteN F j : Int) := fun h => strBN F j h
    have htk : (digsOf F).take (k + 1) = (digsOf F).take k ++ [byteN F j - 48] := by
      have hkd : k < (digsOf F).length := by rw [length_digsOf]; exact hlt
      rw [List.take_succ_eq_append_getElem hkd]
      congr 2
      have e : F.length - 1 - k = j := by omega
      simp only [digsOf, List.getElem_map, List.getElem_reverse, e]
      simp [byteN, List.getD_eq_getElem?_getD, hjl]
    have HTK := Lib.hid htk
    have HZ := Lib.hid hz
    clear htk hz
    generalize byteN F j = c at *
    obtain ⟨d, hd⟩ : ∃ d : Nat, (c : Int) - 48 = (d : Int) := ⟨c - 48, by omega⟩
    have hd2 : c - 48 = d := by omega
    rw [hd2] at HTK
    have hbs := bel.size
    clear hd2
    generalize hO : (digsOf F).take k = O at *
    have hOl : O.length = k := by rw [← hO, List.length_take, length_digsOf]; omega
    have HOL := Lib.hid hOl
    clear hO hOl
    go_upto_region 4 with (at_builtin; refine wpList_append_own _ rfl (.tmp 12) (.tmp 18) 60 rfl w.heap.size 3 i0 (.int .i64 0) 1 8 Tryd.underlying60 HI.out HZ0.out HZ1.out HZ2.out rfl (by decide) u3 k (nvals O) rfl (own.alloc _) ⟨wr.heap.size, 0, none⟩ 1 1 (nvals [d]) rfl rfl ?c1 ?c2 ?c3 ?c4 ?c5 ?_)
    case c1 => exact news_nvals wr [d] _ _ rfl
    case c2 => exact nvals_one _
    case c3 => unfold maxLen; omega
    case c4 => omega
    case c5 => first | omega | (simp; omega)
    intro v5 w5 own5 hg5 _
    have bel5 : Below w.heap.size w w5 := (bel.alloc hbs _).grown hg5 (by simp; omega) (fun q hq => (own.lt q hq).1)
    rw [nvals_append] at own5
    have OWN5 := Lib.hid own5
    clear own5 own hg5 bel hd hs0
    go_wp2_with fail
    go_roundw
    case rel => exact ⟨k + 1, (j : Int) - 1, by omega, by have := HZ.out; omega, by go_num, bel5, by rw [HTK.out]; exact OWN5.out⟩
    case measure => simp [intOf]
  · obtain rfl : k = F.length := by omega
    obtain rfl : z = -1 := by omega
    have htl : (digsOf F).take F.length = digsOf F := List.take_of_length_le (by rw [length_digsOf]; omega)
    rw [htl] at own
    have hown := own.lt
    obtain ⟨oc, cc, rfl, hcc, _, hI⟩ := intsAt_own (L := digsOf F) own
    have hll := length_digsOf F
    have QT := Lib.hid (refTrim_any oc (digsOf F) cc wr hI (by omega) hcc (all_digsOf HD.out))
    rw [dig_dv HD.out, hll] at QT
    have hlt2 : ∀ a, oc = some a → a.block < wr.heap.size := fun a h => by subst h; exact (hown a.block rfl).2
    clear own hI hown htl hz
    go_wp2_with (go_at_call 49; refine QT.out.mono ?_; rintro e w3 ⟨rfl, hI3, rfl⟩)
    go_ret
    exact ⟨oc, cc, rfl, hI3, bel, hlt2⟩
end Go.Proofs.YtohemcdcmlngiaaDoor
