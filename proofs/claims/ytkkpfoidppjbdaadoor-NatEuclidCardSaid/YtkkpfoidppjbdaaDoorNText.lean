/-
  The reference's Text: a number's digits as a text.
-/
import Derived.Test.YtkkpfoidppjbdaaDoorNDiv
import Derived.Test.YtkkpfoidppjbdaaDoorBytes
namespace Go.Proofs.YtkkpfoidppjbdaaDoor
set_option linter.unusedVariables false
open Go.RowKit ML ND FM

def digB (n : Nat) : Bytes := (dig n).reverse.map fun d => UInt8.ofNat (d + 48)
def strD (n : Nat) : Bytes := if n = 0 then [48] else digB n
theorem length_digB (n : Nat) : (digB n).length = (dig n).length := by simp [digB]
def textRow (F : Bytes) (m : Nat) : Bytes := List.replicate m 0 ++ F.drop m
theorem length_textRow (F : Bytes) (m : Nat) (h : m ≤ F.length) : (textRow F m).length = F.length := by simp [textRow]; omega
theorem textRow_set (F : Bytes) (m : Nat) (h : m < F.length) : (textRow F (m + 1)).set m F[m] = textRow F m := by
  unfold textRow
  rw [List.drop_eq_getElem_cons h, List.replicate_succ', List.append_assoc, List.set_append_right _ _ (by simp)]
  simp
theorem made_bytes (n : Nat) : madeCells #[Value.int .u8 0] n = (Lib.byteCells (List.replicate n 0)).toArray := by
  unfold madeCells Lib.byteCells
  apply Array.ext
  · simp
  · intro i h1 h2
    simp [Nat.mod_one]
theorem set_bytes {w : World} {b : Nat} {L : Bytes} {T : TypeId} (h : w.heap[b]? = some (.cells (Lib.byteCells L).toArray T (0, 0))) (i : Nat) (c : UInt8) : (w.setCell ⟨b, i, none⟩ (.int .u8 (c.toNat : Int))).heap[b]? = some (.cells (Lib.byteCells (L.set i c)).toArray T (0, 0)) := by
  rw [heap_setCell_same w b i _ _ _ h]
  congr 2
  simp [Lib.byteCells, List.map_set]
theorem cell_bytes {w : World} {b : Nat} {L : Bytes} {T : TypeId} (h : w.heap[b]? = some (.cells (Lib.byteCells L).toArray T (0, 0))) (i : Nat) (hi : i < L.length) : ∃ v, w.cell? ⟨b, i, none⟩ = some v := by
  rw [cell_of_row w b i _ _ _ h]
  exact ⟨_, by simp [Lib.byteCells, hi]; rfl⟩
set_option maxHeartbeats 4000000 in
set_option maxRecDepth 100000 in
theorem refText_any (n : Nat) (oa : Option Addr) (ca : Nat) (w : World) (ha : IntsAt w oa (dig n)) (hx : (dig n).length < 1099511627776) :
    Calls Tryd.prog 18 #[.slice oa (dig n).length ca] w fun e w' => e = .returned (.string ⟨(strD n).toArray⟩) ∧ Below w.heap.size w w' := by
  obtain ⟨i0, hi, hz0, hz1, hz2⟩ := info_parts info_byte
  have HI := Lib.hid hi
  have HZ0 := Lib.hid hz0
  have HZ1 := Lib.hid hz1
  have HZ2 := Lib.hid hz2
  have HA := Lib.hid ha
  clear hi hz0 hz1 hz2 ha
  go_enter Tryd.func18, Tryd.ntmps18
  by_cases hn0 : n = 0
  · subst hn0
    have hs := Lib.hid (show strD 0 = [48] from rfl)
    have hl : (dig 0).length = 0 := by rw [dig_zero]; rfl
    rw [hl]
    go_wp2_with fail
    go_ret
    rw [hs.out]
    exact ⟨rfl, Below.refl _ _⟩
  have hs := Lib.hid (show strD n = digB n from if_neg hn0)
  have hpos : 0 < (dig n).length := by rw [dig_pos (by omega)]; simp
  have hnz : (((dig n).length : Int) == 0) = false := by rw [beq_eq_false_iff_ne]; omega
  have HFL := Lib.hid (length_digB n)
  have hdg := Lib.hid (fun (j : Nat) (hj : j < (dig n).length) => (show (digB n)[(dig n).length - 1 - j]'(by rw [length_digB]; omega) = UInt8.ofNat (dAt (dig n) j + 48) by
    simp [digB, dAt, List.getD_eq_getElem?_getD, hj]
    congr 2
    congr 1
    omega))
  obtain ⟨F, hF⟩ : ∃ F, F = digB n := ⟨_, rfl⟩
  go_upto_region 4 with (refine wpList_make_row _ rfl _ _ 80 rfl 5 i0 (.int .u8 0) Tryd.underlying80 HI.out HZ0.out HZ1.out rfl .i64 .i64 (dig n).length rfl rfl (by rw [HZ2.out]; omega) (by omega) ?_)
  rw [made_bytes]
  generalize hB : w.heap.size = d at *
  obtain ⟨l, hl⟩ : ∃ l, l = (dig n).length := ⟨_, rfl⟩
  have hFl : F.length = l := by rw [hF, HFL.out, hl]
  refine wp_abs (fun w1 => Below d w w1 ∧ w1.heap[d]? = some (.cells (Lib.byteCells (textRow F (dig n).length)).toArray 5 (0, 0))) ⟨by rw [← hB]; exact (Below.refl _ _).alloc (Nat.le_refl _) _, by
    rw [← hB]
    have e : textRow F (dig n).length = List.replicate (dig n).length 0 := by unfold textRow; rw [List.drop_of_length_le (by omega)]; simp
    rw [e]
    exact heap_at rfl⟩ (fun w1 hw1 => ?_)
  obtain ⟨bel1, h1⟩ := hw1
  have HB := Lib.hid hB
  have HF := Lib.hid hF
  have HL := Lib.hid hl
  have HFl := Lib.hid hFl
  clear hB hF hl hFl
  go_upto_region 5 with (fail)
  go_loopw [4] (fun i wr => ∃ k : Nat, k ≤ (dig n).length ∧ i = .int .i64 k ∧ Below d w wr ∧ wr.heap[d]? = some (.cells (Lib.byteCells (textRow F ((dig n).length - k))).toArray 5 (0, 0))) (fun i _ => (dig n).length - (intOf i).toNat)
  case atStart => exact ⟨0, by omega, rfl, bel1, h1⟩
  case round =>
  obtain ⟨k, hk, rfl, bel, hW⟩ := hrel
  clear bel1 h1
  by_cases hlt : k < (dig n).length
  · have hd1 : decide ((k : Int) < ((dig n).length : Int)) = true := by simp; omega
    obtain ⟨m, hm⟩ : ∃ m, (dig n).length - k = m + 1 := ⟨(dig n).length - k - 1, by omega⟩
    rw [hm] at hW
    obtain ⟨a0, hoa, hac⟩ := HA.out.get k hlt
    have hablk : a0.block < d := by
      obtain ⟨a1, h2, h3, _⟩ := HA.out.cells k hlt
      rw [hoa] at h2
      cases h2
      rw [HB.out] at h3
      exact h3
    have hac3 : wr.cell? (a0.add k) = some (.int .i64 ((dAt (dig n) k : Nat) : Int)) := by rw [bel.cell (p := a0.add k) (by rw [addr_block]; exact hablk)]; exact hac
    have hmF : m < F.length := by rw [HFl.out, HL.out]; omega
    have hFm := Lib.hid (show F[m] = UInt8.ofNat (dAt (dig n) k + 48) by
      have h := hdg.out k hlt
      have e : (dig n).length - 1 - k = m := by omega
      simp only [e] at h
      have h2 : ∀ (A B : Bytes) (hAB : A = B) (hA : m < A.length) (hB : m < B.length), A[m] = B[m] := by intro A B hAB hA hB; subst hAB; rfl
      exact (h2 F (digB n) HF.out hmF (by rw [← HF.out]; exact hmF)).trans h)
    have hdl : dAt (dig n) k < 10 := getD_lt (all_dig n) k
    obtain ⟨cv, hcv⟩ := cell_bytes hW m (by rw [length_textRow F (m + 1) (by omega)]; omega)
    have hfz := frozen_of_row wr d m _ _ hW
    have hmi : ((dig n).length : Int) - 1 - (k : Int) = (m : Int) := by omega
    have hml : (m : Int) < ((dig n).length : Int) := by omega
    have hts := Lib.hid (textRow_set F m hmF)
    have HW := Lib.hid hW
    have hkn : (dig n).length - (k + 1) = m := by omega
    have HKN := Lib.hid hkn
    subst hoa
    clear hac hW hm hkn
    generalize dAt (dig n) k = a at *
    go_upto_region 6 with (fail)
    refine wp_abs (fun w4 => Below d w w4 ∧ w4.heap[d]? = some (.cells (Lib.byteCells (textRow F m)).toArray 5 (0, 0))) ?_ (fun w4 hw4 => ?_)
    · have e := set_bytes HW.out m F[m]
      have hv : ((F[m]).toNat : Int) = (a : Int) + 48 := by
        rw [hFm.out]
        have : (UInt8.ofNat (a + 48)).toNat = a + 48 := by simp; omega
        rw [this]
        omega
      rw [hts.out, hv] at e
      exact ⟨bel_only bel ((Only.refl d wr).setCell _ _) (Nat.le_refl _), e⟩
    obtain ⟨bel4, hW4⟩ := hw4
    clear hac3 hcv hfz HW bel hts hFm
    go_wp2_with fail
    go_roundw
    case rel => exact ⟨k + 1, by omega, by go_num, bel4, by rw [HKN.out]; exact hW4⟩
    case measure => simp [intOf]; omega
  · have hd1 : decide ((k : Int) < ((dig n).length : Int)) = false := by simp; omega
    obtain rfl : k = (dig n).length := by omega
    have e : textRow F ((dig n).length - (dig n).length) = F := by rw [Nat.sub_self]; simp [textRow]
    rw [e] at hW
    have hFn : (dig n).length = F.length := by rw [HFl.out, HL.out]
    have hrange : wr.rangeAt d 0 (Lib.byteCells F) := fun j v hv => by
      rw [Nat.zero_add, cell_of_row wr d j _ _ _ hW]
      simpa using hv
    have HR := Lib.hid hrange
    have HFN := Lib.hid hFn
    clear hrange hW hFn e
    go_upto_region 8 with (fail)
    go_wp2_with (refine wpList_bytes_back rfl _ 80 9 5 rfl Tryd.underlying80 Tryd.underlying5 Tryd.underlying9 d (dig n).length (dig n).length F HFN.out rfl HR.out ?_)
    go_ret
    rw [hs.out, ← HF.out, HB.out]
    exact ⟨rfl, bel⟩
end Go.Proofs.YtkkpfoidppjbdaaDoor
