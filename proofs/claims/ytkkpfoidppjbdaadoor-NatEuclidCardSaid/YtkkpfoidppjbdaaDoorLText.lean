/-
  strings.TrimLeft by one byte; (exact.Nat).String.
-/
import Derived.Test.YtkkpfoidppjbdaaDoorLTextD
import Derived.Test.YtkkpfoidppjbdaaDoorLParse
namespace Go.Proofs.YtkkpfoidppjbdaaDoor
set_option linter.unusedVariables false
open Go.RowKit ML FM NL

theorem byteN_drop (S : Bytes) (k i : Nat) : byteN (S.drop k) i = byteN S (k + i) := by
  simp [byteN, List.getD_eq_getElem?_getD]
theorem extract_tail (S : Bytes) (k n : Nat) (h : n = S.length) : (ByteArray.mk S.toArray).extract k n = ⟨(S.drop k).toArray⟩ := by rw [h]; exact extract_drop S k
set_option maxHeartbeats 1000000 in
set_option maxRecDepth 100000 in
theorem trimByte_any (S : Bytes) (w : World) (hS : S.length < 9223372036854775808) :
    Calls Tryd.prog 99 #[.string ⟨S.toArray⟩, .int .u8 48] w fun e w' => e = .returned (.string ⟨(S.dropWhile (fun x => x == 48)).toArray⟩) ∧ w' = w := by
  go_enter Tryd.func99, Tryd.ntmps99
  go_upto_region 1 with (fail)
  go_loopw [0] (fun v wr => ∃ k : Nat, k ≤ S.length ∧ v = .string ⟨(S.drop k).toArray⟩ ∧ (∀ i, i < k → byteN S i = 48) ∧ wr = w) (fun v _ => match v with | .string b => b.size | _ => 0)
  case atStart => exact ⟨0, by omega, by rw [List.drop_zero], fun i hi => by omega, rfl⟩
  case round =>
  obtain ⟨k, hk, rfl, hpre, hw⟩ := hrel
  replace hw := hw.symm
  subst hw
  have hl : (S.drop k).length = S.length - k := List.length_drop
  by_cases hend : k = S.length
  · have hr := Lib.hid (drop_while (c := 48) k hk hpre (.inl hend))
    have hl0 : (S.drop k).length = 0 := by omega
    clear hpre hend hl
    go_wp2_with fail
    go_ret
    rw [hr.out]
    exact ⟨rfl, rfl⟩
  have hpos : (0 : Int) < ((S.drop k).length : Int) := by omega
  have hs0 : ∀ h, (((ByteArray.mk (S.drop k).toArray)[0]'h).toNat : Int) = (byteN S k : Int) := fun h => by rw [strBN (S.drop k) 0 h, byteN_drop]; rfl
  by_cases hc : byteN S k = 48
  · have hpre2 := Lib.hid (show ∀ i, i < k + 1 → byteN S i = 48 from fun i hi => by
      by_cases he : i = k
      · rw [he]; exact hc
      · exact hpre i (by omega))
    have hx := extract_tail (S.drop k) 1 (S.length - k) hl.symm
    rw [List.drop_drop] at hx
    have hsz1 := Lib.hid (size_mk (S.drop k))
    have hsz2 := Lib.hid (size_mk (S.drop (k + 1)))
    have hsz3 := Lib.hid hl
    rw [hc] at hs0
    have h1 : (1 : Int) ≤ ((S.drop k).length : Int) := by omega
    clear hpre hc hl
    go_wp2_with fail
    go_roundw
    case rel => exact ⟨k + 1, by omega, rfl, hpre2.out, trivial⟩
    case measure =>
      have e1 := hsz1.out
      have e2 := hsz2.out
      have e3 := hsz3.out
      have e4 : (S.drop (k + 1)).length = S.length - (k + 1) := List.length_drop
      simp
      omega
  · have hr := Lib.hid (drop_while (c := 48) k hk hpre (.inr hc))
    have hcf : ((byteN S k : Int) == 48) = false := by rw [beq_eq_false_iff_ne]; omega
    have hcf2 : ¬ (byteN S k : Int) = 48 := by omega
    clear hpre hc hl
    go_wp2_with fail
    go_ret
    rw [hr.out]
    exact ⟨rfl, rfl⟩
set_option maxHeartbeats 1000000 in
set_option maxRecDepth 100000 in
theorem trimLeft_any (S : Bytes) (w : World) (hS : S.length < 9223372036854775808) :
    Calls Tryd.prog 86 #[.string ⟨S.toArray⟩, .string ⟨#[48]⟩] w fun e w' => e = .returned (.string ⟨(S.dropWhile (fun x => x == 48)).toArray⟩) ∧ w' = w := by
  have QT := Lib.hid (trimByte_any S w hS)
  go_enter Tryd.func86, Tryd.ntmps86
  by_cases hne : S = []
  · subst hne
    clear QT
    go_wp2_with fail
    go_ret
    exact ⟨rfl, rfl⟩
  have hem : List.isEmpty S = false := by simpa using hne
  go_wp2_with (go_at_call 99; refine QT.out.mono ?_; rintro e w1 ⟨rfl, rfl⟩)
  go_ret
  exact ⟨rfl, rfl⟩
set_option maxHeartbeats 4000000 in
set_option maxRecDepth 100000 in
theorem exString_any (n : Nat) (oa : Option Addr) (ca : Nat) (w : World) (ha : LimbsAt w oa (dig n)) (hx : (dig n).length < 1099511627776) :
    Calls Tryd.prog 56 #[.slice oa (dig n).length ca] w fun e w' => e = .returned (.string ⟨(strD n).toArray⟩) ∧ Below w.heap.size w w' := by
  obtain ⟨i0, hi, hz0, hz1, hz2⟩ := info_parts info_byte
  have HI := Lib.hid hi
  have HZ0 := Lib.hid hz0
  have HZ1 := Lib.hid hz1
  have HZ2 := Lib.hid hz2
  have HA := Lib.hid ha
  clear hi hz0 hz1 hz2 ha
  go_enter Tryd.func56, Tryd.ntmps56
  by_cases hn0 : n = 0
  · subst hn0
    have hs := Lib.hid (show strD 0 = [48] from rfl)
    have hl : (dig 0).length = 0 := by rw [dig_zero]; rfl
    rw [hl]
    go_wp2_with fail
    go_ret
    rw [hs.out]
    exact ⟨rfl, Below.refl _ _⟩
  have hs := Lib.hid (padB_trim n hn0)
  have hpos : 0 < (dig n).length := by rw [dig_pos (by omega)]; simp
  have hnz : (((dig n).length : Int) == 0) = false := by rw [beq_eq_false_iff_ne]; omega
  have hdg := Lib.hid (fun (i k : Nat) hi hk h => getD_padB (dig n) i k hi hk h)
  obtain ⟨F, hF⟩ : ∃ F, F = padB (dig n) := ⟨_, rfl⟩
  obtain ⟨l, hl⟩ : ∃ l, l = (dig n).length := ⟨_, rfl⟩
  obtain ⟨l9, hl9⟩ : ∃ l9, l9 = 9 * l := ⟨_, rfl⟩
  have hFl : F.length = l9 := by rw [hF, length_padB, hl9, hl]
  have h9i : 9 * ((dig n).length : Int) = (l9 : Int) := by omega
  have hl9b : l9 < 9895604649984 := by omega
  have HF := Lib.hid hF
  have HL := Lib.hid hl
  have HL9 := Lib.hid hl9
  have HFl := Lib.hid hFl
  clear hF hl hl9 hFl
  go_upto_region 4 with (refine wpList_make_row _ rfl _ _ 80 rfl 5 i0 (.int .u8 0) Tryd.underlying80 HI.out HZ0.out HZ1.out rfl .i64 .i64 l9 rfl rfl (by rw [HZ2.out]; omega) (by omega) ?_)
  rw [made_bytes]
  generalize hB : w.heap.size = d at *
  refine wp_abs (fun w1 => Below d w w1 ∧ w1.heap[d]? = some (.cells (Lib.byteCells (textRow F l9)).toArray 5 (0, 0))) ⟨by rw [← hB]; exact (Below.refl _ _).alloc (Nat.le_refl _) _, by
    rw [← hB]
    have e : textRow F l9 = List.replicate l9 0 := by unfold textRow; rw [List.drop_of_length_le (by have := HFl.out; omega)]; simp
    rw [e]
    exact heap_at rfl⟩ (fun w1 hw1 => ?_)
  obtain ⟨bel1, h1⟩ := hw1
  have HB := Lib.hid hB
  clear hB h9i
  go_upto_region 6 with (fail)
  go_loopw [4, 18] (fun at_ i wr => ∃ (k m : Nat), k ≤ (dig n).length ∧ i = .int .i64 k ∧ at_ = .int .i64 m ∧ m + 9 * k = l9 ∧ Below d w wr ∧ wr.heap[d]? = some (.cells (Lib.byteCells (textRow F m)).toArray 5 (0, 0))) (fun _ i _ => (dig n).length - (intOf i).toNat)
  case atStart => exact ⟨0, l9, by omega, rfl, rfl, by omega, bel1, h1⟩
  case round =>
  obtain ⟨i, m, hk, rfl, rfl, hm, bel, hW⟩ := hrel
  clear bel1 h1
  have HM := Lib.hid hm
  clear hm
  by_cases hlt : i < (dig n).length
  · have hd1 : decide ((i : Int) < ((dig n).length : Int)) = true := by simp; omega
    obtain ⟨a0, hoa, hac⟩ := HA.out.get i hlt
    have hablk : a0.block < d := by
      obtain ⟨a1, h2, h3, _⟩ := HA.out.cells i hlt
      rw [hoa] at h2
      cases h2
      rw [HB.out] at h3
      exact h3
    have hac3 : wr.cell? (a0.add i) = some (.int .u32 ((lAt (dig n) i : Nat) : Int)) := by rw [bel.cell (p := a0.add i) (by rw [addr_block']; exact hablk)]; exact hac
    have h1 : lAt (dig n) i < 1000000000 := getD_lt (all_dig n) i
    have hi00 : (0 : Int) ≤ i := by omega
    have hilx : (i : Int) < ((dig n).length : Int) := by omega
    subst hoa
    clear hac
    obtain ⟨a, hae⟩ : ∃ a, a = lAt (dig n) i := ⟨_, rfl⟩
    rw [← hae] at hac3 h1
    have HAE := Lib.hid hae
    clear hae
    go_upto_region 9 with (fail)
    clear hac3
    obtain ⟨w0, hw0⟩ : ∃ w0, w0 = wr := ⟨_, rfl⟩
    rw [← hw0] at bel hW ⊢
    go_loopw [4, 6, 22] (fun at_ lv j wi => ∃ (k m' : Nat), k ≤ 9 ∧ j = .int .i64 k ∧ at_ = .int .i64 m' ∧ lv = .int .u32 ((a / 10 ^ k : Nat) : Int) ∧ m' + 9 * i + k = l9 ∧ Below d w wi ∧ wi.heap[d]? = some (.cells (Lib.byteCells (textRow F m')).toArray 5 (0, 0))) (fun _ _ j _ => 9 - (intOf j).toNat)
    case atStart => exact ⟨0, m, by omega, rfl, rfl, by simp, by have := HM.out; omega, bel, hW⟩
    case round =>
    obtain ⟨k, m', hk9, rfl, rfl, rfl, hm', bel2, hW2⟩ := hrel
    clear bel hW
    have HM2 := Lib.hid hm'
    clear hm'
    by_cases hk9t : k < 9
    · have hd2 : decide ((k : Int) < 9) = true := by simp; omega
      obtain ⟨p, hp⟩ : ∃ p, m' = p + 1 := ⟨m' - 1, by have := HM2.out; have := HL.out; have := HL9.out; omega⟩
      subst hp
      have hpF : p < F.length := by rw [HFl.out]; have := HM2.out; omega
      have hFp := Lib.hid (show F[p] = UInt8.ofNat (a / 10 ^ k % 10 + 48) by
        have h := hdg.out i k hlt hk9t (by rw [length_padB]; omega)
        have e : 9 * (dig n).length - 1 - (9 * i + k) = p := by have := HM2.out; have := HL.out; have := HL9.out; omega
        simp only [e] at h
        have h2 : ∀ (A B : Bytes) (hAB : A = B) (hA : p < A.length) (hB : p < B.length), A[p] = B[p] := by intro A B hAB hA hB; subst hAB; rfl
        rw [HAE.out]
        exact (h2 F (padB (dig n)) HF.out hpF (by rw [← HF.out]; exact hpF)).trans h)
      have hnext := Lib.hid (show a / 10 ^ (k + 1) = a / 10 ^ k / 10 by rw [Nat.pow_succ, Nat.div_div_eq_div_mul])
      have hlb : a / 10 ^ k < 1000000000 := Nat.lt_of_le_of_lt (Nat.div_le_self _ _) h1
      obtain ⟨cv, hcv⟩ := cell_bytes hW2 p (by rw [length_textRow F (p + 1) (by omega)]; omega)
      have hfz := frozen_of_row wr d p _ _ hW2
      have hts := Lib.hid (textRow_set F p hpF)
      have HW := Lib.hid hW2
      have hp0 : (0 : Int) ≤ (p : Int) := by omega
      have hpl : (p : Int) < (l9 : Int) := by have := HM2.out; omega
      have hp9 : p < 9895604649984 := by have := HM2.out; omega
      clear hW2
      generalize a / 10 ^ k = l1 at *
      go_upto_region 12 with (fail)
      refine wp_abs (fun w4 => Below d w w4 ∧ w4.heap[d]? = some (.cells (Lib.byteCells (textRow F p)).toArray 5 (0, 0))) ?_ (fun w4 hw4 => ?_)
      · have e := set_bytes HW.out p F[p]
        have hv : ((F[p]).toNat : Int) = 48 + (l1 : Int) % 10 := by
          rw [hFp.out]
          have : (UInt8.ofNat (l1 % 10 + 48)).toNat = l1 % 10 + 48 := by simp; omega
          rw [this]
          omega
        rw [hts.out, hv] at e
        exact ⟨bel_only bel2 ((Only.refl d wr).setCell _ _) (Nat.le_refl _), e⟩
      obtain ⟨bel4, hW4⟩ := hw4
      clear hcv hfz HW bel2 hts hFp
      go_wp2_with fail
      go_roundw
      case rel => exact ⟨k + 1, p, by omega, by go_num, rfl, by rw [hnext.out]; go_num, by have := HM2.out; omega, bel4, hW4⟩
      case measure => simp [intOf]; omega
    · have hd2 : decide ((k : Int) < 9) = false := by simp; omega
      go_wp2_with fail
      go_roundw
      case rel => exact ⟨i + 1, m', by omega, by go_num, rfl, by have := HM2.out; omega, bel2, hW2⟩
      case measure => simp [intOf]; omega
  · have hd1 : decide ((i : Int) < ((dig n).length : Int)) = false := by simp; omega
    obtain rfl : i = (dig n).length := by omega
    have hm0 : m = 0 := by have := HM.out; have := HL.out; have := HL9.out; omega
    subst hm0
    have e : textRow F 0 = F := by simp [textRow]
    rw [e] at hW
    have hrange : wr.rangeAt d 0 (Lib.byteCells F) := fun j v hv => by
      rw [Nat.zero_add, cell_of_row wr d j _ _ _ hW]
      simpa using hv
    have HR := Lib.hid hrange
    have QT := Lib.hid (trimLeft_any F wr (by rw [HFl.out]; omega))
    have e2 : F.dropWhile (fun x => x == 48) = strD n := by rw [HF.out]; exact hs.out
    rw [e2] at QT
    have hlF : l9 = F.length := HFl.out.symm
    have HLF := Lib.hid hlF
    clear hrange hW e e2 hlF hdg hs
    go_upto_region 15 with (fail)
    go_wp2_with (first
      | (refine wpList_bytes_back rfl _ 80 9 5 rfl Tryd.underlying80 Tryd.underlying5 Tryd.underlying9 d l9 l9 F HLF.out rfl HR.out ?_)
      | (go_at_call 86; refine QT.out.mono ?_; rintro e w3 ⟨rfl, rfl⟩))
    go_ret
    rw [HB.out]
    exact ⟨rfl, bel⟩
end Go.Proofs.YtkkpfoidppjbdaaDoor
