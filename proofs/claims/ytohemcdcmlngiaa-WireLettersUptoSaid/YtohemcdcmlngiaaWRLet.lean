/-
  Chapter 4, the reference: Letters.
-/
import Derived.Test.YtohemcdcmlngiaaWRef
namespace Go.Proofs.Ytohemcdcmlngiaa
set_option linter.unusedVariables false
set_option linter.unusedSimpArgs false
open Go.RowKit ML FM WL

namespace WL
/-- the values and the check -/
def sgsOf (B : Bytes) : List Nat := valsOf B ++ [ckV (valsOf B)]
theorem length_sgsOf (B : Bytes) : (sgsOf B).length = mV B.length + 1 := by unfold sgsOf; rw [List.length_append, length_valsOf]; rfl
theorem sgsOf_lt (B : Bytes) : ∀ v ∈ sgsOf B, v < 37 := by
  intro v hv
  rcases List.mem_append.1 hv with h | h
  · have := all_valsOf B v h; omega
  · rw [List.mem_singleton] at h; subst h; exact ckV_lt _
/-- the first k signs, with hyphens -/
def hyT (L : List Nat) : Nat → Bytes
  | 0 => []
  | k + 1 => if 0 < k ∧ k % 4 = 0 then hyT L k ++ [45] ++ [sgn (L.getD k 0)] else hyT L k ++ [sgn (L.getD k 0)]
theorem length_hyT (L : List Nat) : ∀ k, (hyT L k).length ≤ 2 * k := by
  intro k
  induction k with
  | zero => simp [hyT]
  | succ k ih => simp only [hyT]; split <;> simp <;> omega
def lettersT (B : Bytes) : Bytes := if 64 < B.length then [] else hyT (sgsOf B) (sgsOf B).length
def lettersE (B : Bytes) : Nat := if 64 < B.length then 3 else 0
end WL
theorem sg_cut (v : Nat) (h : v < 37) : (ByteArray.mk #[48, 49, 50, 51, 52, 53, 54, 55, 56, 57, 65, 66, 67, 68, 69, 70, 71, 72, 74, 75, 77, 78, 80, 81, 82, 83, 84, 86, 87, 88, 89, 90, 42, 126, 36, 61, 85]).extract v (v + 1) = ⟨[sgn v].toArray⟩ := by
  have : ∀ v : Fin 37, (ByteArray.mk #[48, 49, 50, 51, 52, 53, 54, 55, 56, 57, 65, 66, 67, 68, 69, 70, 71, 72, 74, 75, 77, 78, 80, 81, 82, 83, 84, 86, 87, 88, 89, 90, 42, 126, 36, 61, 85]).extract v (v + 1) = ⟨[sgn v].toArray⟩ := by decide +kernel
  exact this ⟨v, h⟩
theorem sg_size : (ByteArray.mk #[48, 49, 50, 51, 52, 53, 54, 55, 56, 57, 65, 66, 67, 68, 69, 70, 71, 72, 74, 75, 77, 78, 80, 81, 82, 83, 84, 86, 87, 88, 89, 90, 42, 126, 36, 61, 85]).size = 37 := by decide +kernel
theorem run_sg (v : Nat) (h : v < 37) (W : World) : (Instr.slice 9 (.string ⟨#[48, 49, 50, 51, 52, 53, 54, 55, 56, 57, 65, 66, 67, 68, 69, 70, 71, 72, 74, 75, 77, 78, 80, 81, 82, 83, 84, 86, 87, 88, 89, 90, 42, 126, 36, 61, 85]⟩) (some (.int .i64 (v : Int))) (some (.int .i64 ((v : Int) + 1))) none).run Try.prog W = .ok (.string ⟨[sgn v].toArray⟩) W := by
  have := run_slice_string (P := Try.prog) W 9 ⟨#[48, 49, 50, 51, 52, 53, 54, 55, 56, 57, 65, 66, 67, 68, 69, 70, 71, 72, 74, 75, 77, 78, 80, 81, 82, 83, 84, 86, 87, 88, 89, 90, 42, 126, 36, 61, 85]⟩ .i64 .i64 (v : Int) ((v : Int) + 1) Try.underlying9 (by omega) (by omega) (by rw [sg_size]; omega)
  rw [this]
  have e : ((v : Int) + 1).toNat = v + 1 := by omega
  rw [e, Int.toNat_natCast, sg_cut v h]
theorem app_hy (S : Bytes) : ByteArray.mk S.toArray ++ ByteArray.mk #[45] = ByteArray.mk (S ++ [45]).toArray := append_mk S [45]
set_option maxHeartbeats 4000000 in
set_option maxRecDepth 100000 in
theorem refLetters_any (B : Bytes) (w : World) (hB : B.length < 9223372036854775808) :
    Calls Try.prog 9 #[.string ⟨B.toArray⟩] w fun e w' => e = .returned (.tuple #[.string ⟨(lettersT B).toArray⟩, .int .i64 (lettersE B : Int)]) ∧ Below w.heap.size w w' := by
  obtain ⟨i0, hi, hz0, hz1, hz2⟩ := info_parts info_int
  have HI := Lib.hid hi
  have HZ0 := Lib.hid hz0
  have HZ1 := Lib.hid hz1
  have HZ2 := Lib.hid hz2
  clear hi hz0 hz1 hz2
  have hszB := size_mk B
  obtain ⟨T, hT⟩ : ∃ T, T = lettersT B := ⟨_, rfl⟩
  rw [← hT]
  unfold lettersE lettersT at *
  by_cases h64 : 64 < B.length
  · rw [if_pos h64] at hT ⊢
    have HT := Lib.hid hT
    have d : decide (64 < B.length) = true := decide_eq_true h64
    have d2 : decide ((64 : Int) < (B.length : Int)) = true := decide_eq_true (by omega)
    clear h64 hT
    go_enter Try.func9, Try.ntmps9
    go_wp2_with fail
    go_ret2
    exact ⟨by rw [HT.out]; rfl, Below.refl _ _⟩
  rw [if_neg h64] at hT ⊢
  have HT := Lib.hid hT
  have d : decide (64 < B.length) = false := decide_eq_false h64
  have d2 : decide ((64 : Int) < (B.length : Int)) = false := decide_eq_false (by omega)
  have QV := Lib.hid (fun w => refValues_any B w (by omega))
  have hml : mV B.length ≤ 103 := by unfold mV; omega
  have HM := Lib.hid hml
  have HLV := Lib.hid (length_valsOf B)
  have HAV := Lib.hid (all_valsOf B)
  clear h64 hT hml
  generalize hW : w.heap.size = W at *
  have HW := Lib.hid hW
  clear hW
  go_enter Try.func9, Try.ntmps9
  go_upto_region 4 with (go_at_call 20; refine (QV.out w).mono ?_; rintro e w1 ⟨v, rfl, own, bel1⟩)
  have OWN := Lib.hid own
  obtain ⟨oa, cap, rfl, hcap, _, hI⟩ := intsAt_own own
  rw [HW.out] at bel1
  have QC := Lib.hid (fun w h => refCheck_any oa (valsOf B) cap w h (by have := HLV.out; have := HM.out; omega) (fun v hv => by have := HAV.out v hv; omega))
  have HII := Lib.hid hI
  have hl3 : (valsOf B).length ≤ 103 := by rw [HLV.out]; exact HM.out
  have hW1 : W ≤ w1.heap.size := by have := bel1.size; rw [HW.out] at this; exact this
  have HSG := Lib.hid (show valsOf B ++ [ckV (valsOf B)] = sgsOf B from rfl)
  clear own hI QV hcap
  have hlS := length_sgsOf B
  have HLS := Lib.hid (show (valsOf B).length + 1 = (sgsOf B).length by rw [hlS, HLV.out])
  have hSb : (sgsOf B).length ≤ 104 := by rw [hlS]; have := HM.out; omega
  have HSL := Lib.hid (sgsOf_lt B)
  clear hlS
  have HWW := Lib.hid HW.out
  have own0 : w1.ownsRow w.heap.size 3 1 (.slice oa (valsOf B).length cap) (valsOf B).length (nvals (valsOf B)) := OWN.out
  have OWN := Lib.hid (show w1.ownsRow w.heap.size 3 1 (.slice oa (valsOf B).length cap) (valsOf B).length (nvals (valsOf B)) from own0)
  clear own0
  have bel1 : Below w.heap.size w w1 := by rw [HWW.out]; exact bel1
  have hW1 : w.heap.size ≤ w1.heap.size := by rw [HWW.out]; exact hW1
  generalize valsOf B = V at *
  generalize ckV V = c at *
  generalize sgsOf B = L at *
  go_upto_region 5 with (first
    | (go_at_call 21; refine (QC.out w1 HII.out).mono ?_; rintro e w2 ⟨rfl, rfl⟩)
    | (at_builtin; refine wpList_append_own _ rfl (.tmp 13) (.tmp 16) 45 rfl w.heap.size 3 i0 (.int .i64 0) 1 8 Try.underlying45 HI.out HZ0.out HZ1.out HZ2.out rfl (by decide) (.slice oa V.length cap) V.length (nvals V) rfl (OWN.out.alloc _) ⟨w1.heap.size, 0, none⟩ 1 1 (nvals [c]) rfl rfl ?c1 ?c2 ?c3 ?c4 ?c5 ?_))
  case c1 => first | exact news_nvals w1 [c] _ _ rfl | exact fun j u h => h
  case c2 => exact nvals_one _
  case c3 => unfold maxLen; omega
  case c4 => omega
  case c5 => first | omega | (simp; omega)
  intro v3 w3 own3 hg3 _
  have bel3 := Lib.hid ((bel1.alloc hW1 _).grown hg3 (by simp; omega) (fun q hq => (OWN.out.lt q hq).1))
  rw [nvals_append, HSG.out] at own3
  have own4 : w3.ownsRow w.heap.size 3 1 v3 L.length (nvals L) := by rw [← HLS.out]; exact own3
  obtain ⟨ob, cap2, rfl, _, _, hJ⟩ := intsAt_own own4
  have HJ := Lib.hid hJ
  clear own3 own4 hg3 hJ QC HII OWN bel1 hW1 hl3 HLS HSG HAV HLV HM
  go_upto_region 7 with (fail)
  go_loopw [5, 20] (fun s i wr => ∃ k : Nat, k ≤ L.length ∧ s = .string ⟨(hyT L k).toArray⟩ ∧ i = .int .i64 k ∧ wr = w3) (fun _ i _ => L.length - (intOf i).toNat)
  case atStart => exact ⟨0, by omega, rfl, rfl, rfl⟩
  case round =>
  obtain ⟨k, hk, rfl, rfl, rfl⟩ := hrel
  by_cases hlt : k < L.length
  · have dl : decide ((k : Int) < (L.length : Int)) = true := decide_eq_true (by omega)
    have dl2 : decide (k < L.length) = true := decide_eq_true hlt
    obtain ⟨a, hoa, hab, hac⟩ := HJ.out.cells k hlt
    have hvl := HSL.out _ (List.getElem_mem hlt)
    have hgd : L.getD k 0 = L[k] := by rw [List.getD_eq_getElem?_getD, List.getElem?_eq_getElem hlt]; rfl
    have hst := Lib.hid (show hyT L (k + 1) = if 0 < k ∧ k % 4 = 0 then hyT L k ++ [45] ++ [sgn L[k]] else hyT L k ++ [sgn L[k]] by rw [← hgd]; rfl)
    have lH := length_hyT L k
    have sH := size_mk (hyT L k)
    have hkl : k < 104 := by omega
    clear hgd
    subst hoa
    generalize L[k] = v at *
    generalize hH : hyT L k = H at *
    have HH := Lib.hid hH
    have xc := run_sg v hvl
    have s1 := size_mk [sgn v]
    have a1 := app_hy H
    have s2 := size_mk (H ++ [45])
    have a2 := append_mk (H ++ [45]) [sgn v]
    have a3 := append_mk H [sgn v]
    generalize sgn v = cs at *
    rw [List.length_append, List.length_singleton] at s2
    rw [List.length_singleton] at s1
    clear hH
    by_cases h0 : 0 < k
    · have e0 : decide ((0 : Int) < (k : Int)) = true := decide_eq_true (by omega)
      have e0' : decide (0 < k) = true := decide_eq_true h0
      by_cases h4 : k % 4 = 0
      · have e4 : (((k : Int) % 4) == 0) = true := by rw [beq_iff_eq]; omega
        have hs2 := Lib.hid (hst.out.trans (if_pos ⟨h0, h4⟩))
        clear h4 hst
        go_wp2_with fail
        go_roundw
        case rel => exact ⟨k + 1, by omega, by rw [hs2.out]; first | rfl | simp, by go_num, trivial⟩
        case measure => simp [intOf]; omega
      · have e4 : (((k : Int) % 4) == 0) = false := by rw [beq_eq_false_iff_ne]; omega
        have hs2 := Lib.hid (hst.out.trans (if_neg (fun h => h4 h.2)))
        clear h4 hst
        go_wp2_with fail
        go_roundw
        case rel => exact ⟨k + 1, by omega, by rw [hs2.out], by go_num, trivial⟩
        case measure => simp [intOf]; omega
    · have e0 : decide ((0 : Int) < (k : Int)) = false := decide_eq_false (by omega)
      have e0' : decide (0 < k) = false := decide_eq_false h0
      have hs2 := Lib.hid (hst.out.trans (if_neg (fun h => h0 h.1)))
      clear hst
      go_wp2_with fail
      go_roundw
      case rel => exact ⟨k + 1, by omega, by rw [hs2.out], by go_num, trivial⟩
      case measure => simp [intOf]; omega
  · have dl : decide ((k : Int) < (L.length : Int)) = false := decide_eq_false (by omega)
    have dl2 : decide (k < L.length) = false := decide_eq_false hlt
    obtain rfl : k = L.length := by omega
    rw [← HT.out]
    go_wp2_with fail
    go_ret2
    exact ⟨rfl, by rw [← HWW.out]; exact bel3.out⟩
end Go.Proofs.Ytohemcdcmlngiaa
