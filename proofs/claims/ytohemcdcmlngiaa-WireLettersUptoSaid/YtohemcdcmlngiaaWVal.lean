/-
  Chapter 4: a sign's value, by the reference.
-/
import Derived.Test.YtohemcdcmlngiaaBytes
import Derived.Test.YtohemcdcmlngiaaWPlain
import Derived.Lib.Bytealg
import Derived.Lib.IndexLaws
import Derived.Lib.Hide
import Derived.Deep.CutBlock
import Derived.Deep.DeepCutAuto
namespace Go.Proofs.Ytohemcdcmlngiaa
set_option linter.unusedVariables false
set_option linter.unusedSimpArgs false
open Go.RowKit ML FM

namespace WL
def signsL : Bytes := [48, 49, 50, 51, 52, 53, 54, 55, 56, 57, 65, 66, 67, 68, 69, 70, 71, 72, 74, 75, 77, 78, 80, 81, 82, 83, 84, 86, 87, 88, 89, 90, 42, 126, 36, 61, 85]
/-- a small letter as the great one -/
def upN (n : Nat) : Nat := if 97 ≤ n ∧ n ≤ 122 then n - 32 else n
/-- a sign's value; -1: it is none -/
def valR (n : Nat) : Int := if upN n = 79 then 0 else if upN n = 73 ∨ upN n = 76 then 1 else if upN n < 128 then Lib.indexByte signsL (UInt8.ofNat (upN n)) else -1
def sgn (v : Nat) : UInt8 := signsL.getD v 0
theorem sgn_lt (v : Nat) : (sgn v).toNat < 128 := by
  by_cases h : v < 37
  · have : ∀ v : Fin 37, (sgn v).toNat < 128 := by decide +kernel
    exact this ⟨v, h⟩
  · unfold sgn; rw [List.getD_eq_getElem?_getD, List.getElem?_eq_none (by show 37 ≤ v; omega)]; decide
theorem valR_sgn (v : Nat) (h : v < 37) : valR (sgn v).toNat = (v : Int) := by
  have : ∀ v : Fin 37, valR (sgn v).toNat = (v : Nat) := by decide +kernel
  exact this ⟨v, h⟩
theorem sgn_ne (v : Nat) (h : v < 37) : sgn v ≠ 45 := by
  have : ∀ v : Fin 37, sgn v ≠ 45 := by decide +kernel
  exact this ⟨v, h⟩
theorem valR_lt (n : Nat) : valR n < 37 := by
  unfold valR
  split
  · decide
  · split
    · decide
    · split
      · have hge := Lib.indexByte_ge signsL (UInt8.ofNat (upN n))
        by_cases h : Lib.indexByte signsL (UInt8.ofNat (upN n)) = -1
        · rw [h]; decide
        · obtain ⟨o, ho⟩ : ∃ o : Nat, Lib.indexByte signsL (UInt8.ofNat (upN n)) = o := ⟨(Lib.indexByte signsL (UInt8.ofNat (upN n))).toNat, by omega⟩
          have h1 := (Lib.indexByte_some ho).1
          have h2 := (List.getElem?_eq_some_iff.1 h1).1
          have h3 : signsL.length = 37 := rfl
          rw [ho]; omega
      · decide
theorem valR_ge (n : Nat) : -1 ≤ valR n := by
  unfold valR
  split
  · decide
  · split
    · decide
    · split
      · exact Lib.indexByte_ge _ _
      · decide
theorem indexByte_of (l : Bytes) (c : UInt8) (o : Nat) (h : o < l.length) (h1 : l[o]? = some c) (h2 : ∀ k, k < o → l[k]? ≠ some c) : Lib.indexByte l c = o := by
  by_cases hn : Lib.indexByte l c = -1
  · exact absurd h1 (Lib.indexByte_none hn o)
  · have hge := Lib.indexByte_ge l c
    obtain ⟨p, hp⟩ : ∃ p : Nat, Lib.indexByte l c = p := ⟨(Lib.indexByte l c).toNat, by omega⟩
    obtain ⟨e1, e2⟩ := Lib.indexByte_some hp
    rcases Nat.lt_trichotomy o p with hl | hl | hl
    · exact absurd h1 (e2 o hl)
    · rw [hp, hl]
    · exact absurd e1 (h2 p hl)
theorem indexByte_no (l : Bytes) (c : UInt8) (h2 : ∀ k, k < l.length → l[k]? ≠ some c) : Lib.indexByte l c = -1 := by
  by_cases hn : Lib.indexByte l c = -1
  · exact hn
  · have hge := Lib.indexByte_ge l c
    obtain ⟨p, hp⟩ : ∃ p : Nat, Lib.indexByte l c = p := ⟨(Lib.indexByte l c).toNat, by omega⟩
    obtain ⟨e1, e2⟩ := Lib.indexByte_some hp
    exact absurd e1 (h2 p (List.getElem?_eq_some_iff.1 e1).1)
theorem byteN_signs (k : Nat) (h : k < 37) : signsL[k]? = some (UInt8.ofNat (byteN signsL k)) ∧ byteN signsL k < 256 := by
  have : ∀ v : Fin 37, signsL[v.1]? = some (UInt8.ofNat (byteN signsL v.1)) ∧ byteN signsL v.1 < 256 := by decide +kernel
  exact this ⟨k, h⟩
theorem byteN_signs_lt (k : Nat) : byteN signsL k < 128 := sgn_lt k
end WL
open WL
theorem sg_at (k : Nat) (h : k < (ByteArray.mk #[48, 49, 50, 51, 52, 53, 54, 55, 56, 57, 65, 66, 67, 68, 69, 70, 71, 72, 74, 75, 77, 78, 80, 81, 82, 83, 84, 86, 87, 88, 89, 90, 42, 126, 36, 61, 85]).size) :
    (((ByteArray.mk #[48, 49, 50, 51, 52, 53, 54, 55, 56, 57, 65, 66, 67, 68, 69, 70, 71, 72, 74, 75, 77, 78, 80, 81, 82, 83, 84, 86, 87, 88, 89, 90, 42, 126, 36, 61, 85])[k]'h).toNat : Int) = (byteN signsL k : Int) := by
  have hk : k < 37 := h
  unfold byteN signsL
  rw [List.getD_eq_getElem?_getD, List.getElem?_eq_getElem (by exact hk)]
  rfl
set_option maxHeartbeats 4000000 in
set_option maxRecDepth 100000 in
theorem refValue_any (c : Nat) (w : World) (hc : c < 256) :
    Calls Try.prog 14 #[.int .u8 (c : Int)] w fun e w' => e = .returned (.int .i64 (valR c)) ∧ w = w' := by
  obtain ⟨m, hm⟩ : ∃ m, m = upN c := ⟨_, rfl⟩
  have hm256 : m < 256 := by rw [hm]; unfold upN; split <;> omega
  obtain ⟨R, hR⟩ : ∃ R, R = valR c := ⟨_, rfl⟩
  rw [← hR]
  have HR := Lib.hid (show R = if m = 79 then 0 else if m = 73 ∨ m = 76 then 1 else if m < 128 then Lib.indexByte signsL (UInt8.ofNat m) else -1 by rw [hR, hm]; rfl)
  have HM := Lib.hid hm
  clear hm hR
  go_enter Try.func14, Try.ntmps14
  have hc0 : (0 : Int) ≤ c := by omega
  have hc1 : (c : Int) < 256 := by omega
  go_upto_region 1 with (fail)
  obtain ⟨b, hb⟩ : ∃ b, b = decide (97 ≤ c ∧ c ≤ 122) := ⟨_, rfl⟩
  have HBB := Lib.hid hb
  clear hb
  go_cut [9] (fun v w' => v = .bool b ∧ w = w')
  case first =>
    by_cases h1 : 97 ≤ c
    · have d1 : decide ((97 : Int) ≤ c) = true := decide_eq_true (by omega)
      by_cases h2 : c ≤ 122
      · have d2 : decide ((c : Int) ≤ 122) = true := decide_eq_true (by omega)
        have e := Lib.hid (HBB.out.trans (decide_eq_true (⟨h1, h2⟩ : 97 ≤ c ∧ c ≤ 122)))
        clear h1 h2 HR HM HBB
        go_wp2_with fail
        go_meet
        exact ⟨by rw [e.out], rfl⟩
      · have d2 : decide ((c : Int) ≤ 122) = false := decide_eq_false (by omega)
        have e := Lib.hid (HBB.out.trans (decide_eq_false (by omega : ¬ (97 ≤ c ∧ c ≤ 122))))
        clear h1 h2 HR HM HBB
        go_wp2_with fail
        go_meet
        exact ⟨by rw [e.out], rfl⟩
    · have d1 : decide ((97 : Int) ≤ c) = false := decide_eq_false (by omega)
      have e := Lib.hid (HBB.out.trans (decide_eq_false (by omega : ¬ (97 ≤ c ∧ c ≤ 122))))
      clear h1 HR HM HBB
      go_wp2_with fail
      go_meet
      exact ⟨by rw [e.out], rfl⟩
  case rest =>
  obtain ⟨rfl, rfl⟩ := hcut
  go_upto_if 9 with (fail)
  go_cut [0] (fun v w' => v = .int .u8 (m : Int) ∧ w = w')
  case first =>
    by_cases h : 97 ≤ c ∧ c ≤ 122
    · have e := HBB.out.trans (decide_eq_true h)
      have hmc : ((c : Int) - 32) = (m : Int) := by rw [HM.out]; unfold upN; rw [if_pos h]; omega
      have h3 : (32 : Int) ≤ c := by omega
      clear HR HM HBB h
      subst e
      go_wp2_with fail
      go_meet
      exact ⟨rfl, rfl⟩
    · have e := HBB.out.trans (decide_eq_false h)
      have hmc := Lib.hid (show (c : Int) = (m : Int) by rw [HM.out]; unfold upN; rw [if_neg h])
      clear HR HM HBB h
      subst e
      go_wp2_with fail
      go_meet
      exact ⟨by rw [hmc.out], rfl⟩
  case rest =>
  obtain ⟨rfl, rfl⟩ := hcut
  clear HM hc0 hc1 hc
  by_cases e79 : m = 79
  · have d79 : ((m : Int) == 79) = true := by rw [beq_iff_eq]; omega
    have HR2 := Lib.hid (HR.out.trans (if_pos e79))
    clear e79 HR
    go_wp2_with fail
    go_ret
    exact ⟨by rw [HR2.out]; rfl, rfl⟩
  have d79 : ((m : Int) == 79) = false := by rw [beq_eq_false_iff_ne]; omega
  have HR1 := Lib.hid (HR.out.trans (if_neg e79))
  clear e79 HR
  by_cases e73 : m = 73 ∨ m = 76
  · have HR2 := Lib.hid (HR1.out.trans (if_pos e73))
    clear HR1
    rcases e73 with h | h
    · have d73 : ((m : Int) == 73) = true := by rw [beq_iff_eq]; omega
      clear h
      go_wp2_with fail
      go_ret
      exact ⟨by rw [HR2.out]; rfl, rfl⟩
    · have d73 : ((m : Int) == 73) = false := by rw [beq_eq_false_iff_ne]; omega
      have d76 : ((m : Int) == 76) = true := by rw [beq_iff_eq]; omega
      clear h
      go_wp2_with fail
      go_ret
      exact ⟨by rw [HR2.out]; rfl, rfl⟩
  have d73 : ((m : Int) == 73) = false := by rw [beq_eq_false_iff_ne]; omega
  have d76 : ((m : Int) == 76) = false := by rw [beq_eq_false_iff_ne]; omega
  have HR2 := Lib.hid (show R = Lib.indexByte signsL (UInt8.ofNat m) by
    rw [HR1.out, if_neg e73]
    by_cases h : m < 128
    · rw [if_pos h]
    · rw [if_neg h, indexByte_no]
      intro k hk he
      obtain ⟨e1, e2⟩ := byteN_signs k hk
      rw [e1] at he
      have h3 : UInt8.ofNat (byteN signsL k) = UInt8.ofNat m := Option.some.inj he
      have h4 := congrArg UInt8.toNat h3
      have h5 := byteN_signs_lt k
      rw [UInt8.toNat_ofNat', UInt8.toNat_ofNat'] at h4
      omega)
  clear e73 HR1
  go_upto_region 8 with (fail)
  go_loop [3] (fun i => ∃ k : Nat, k ≤ 37 ∧ i = .int .i64 k ∧ ∀ j, j < k → byteN signsL j ≠ m) (fun i => 37 - (intOf i).toNat)
  case atStart => exact ⟨0, by omega, rfl, fun j h => by omega⟩
  case round =>
  obtain ⟨k, hk, rfl, hno⟩ := hrel
  have HNO := Lib.hid hno
  clear hno
  by_cases hlt : k < 37
  · have dk : decide ((k : Int) < 37) = true := decide_eq_true (by omega)
    have hk2 : (k : Int) < 37 := by omega
    have hsg := sg_at k
    obtain ⟨e1, e2⟩ := byteN_signs k hlt
    by_cases he : byteN signsL k = m
    · have de : ((byteN signsL k : Int) == (m : Int)) = true := by rw [beq_iff_eq]; omega
      have HR3 := Lib.hid (HR2.out.trans (indexByte_of signsL _ k hlt (by rw [e1, he]) (fun j hj => by
        obtain ⟨f1, f2⟩ := byteN_signs j (by omega)
        rw [f1]
        intro h
        have h4 := congrArg UInt8.toNat (Option.some.inj h)
        rw [UInt8.toNat_ofNat', UInt8.toNat_ofNat'] at h4
        have := HNO.out j hj
        omega)))
      clear e1 e2 he
      go_wp2_with fail
      go_ret
      exact ⟨by rw [HR3.out]; rfl, rfl⟩
    · have de : ((byteN signsL k : Int) == (m : Int)) = false := by rw [beq_eq_false_iff_ne]; omega
      have HE := Lib.hid he
      clear e1 e2 he
      go_wp2_with fail
      go_round
      case rel => exact ⟨k + 1, by omega, by go_num, fun j hj => by
        by_cases h : j = k
        · rw [h]; exact HE.out
        · exact HNO.out j (by omega)⟩
      case measure => simp [intOf]; omega
  · have dk : decide ((k : Int) < 37) = false := decide_eq_false (by omega)
    obtain rfl : k = 37 := by omega
    have HR3 := Lib.hid (HR2.out.trans (indexByte_no signsL _ (fun j hj => by
        obtain ⟨f1, f2⟩ := byteN_signs j hj
        rw [f1]
        intro h
        have h4 := congrArg UInt8.toNat (Option.some.inj h)
        rw [UInt8.toNat_ofNat', UInt8.toNat_ofNat'] at h4
        have := HNO.out j hj
        omega)))
    clear HR2 HNO
    go_wp2_with fail
    go_ret
    exact ⟨by rw [HR3.out]; rfl, rfl⟩
end Go.Proofs.Ytohemcdcmlngiaa
