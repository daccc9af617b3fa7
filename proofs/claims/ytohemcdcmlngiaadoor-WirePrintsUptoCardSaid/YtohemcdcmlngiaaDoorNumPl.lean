/-
  Numbers, written and read: plain law: the library's words and the reference's.
-/
import Derived.Test.YtohemcdcmlngiaaDoorNumT
import Derived.Lib.AtoiAllCases
import Derived.Lib.ItoaNum
import Derived.Lib.SlTrimSet
namespace Go.Proofs.YtohemcdcmlngiaaDoor
set_option linter.unusedVariables false
set_option linter.unusedSimpArgs false
open Go.RowKit ML ND FM

theorem decDigits_strD : ∀ n : Nat, Lib.decDigits n = strD n := by
  intro n
  induction n using Nat.strongRecOn with
  | ind n ih =>
    rw [Lib.decDigits]
    by_cases h : n < 10
    · rw [dif_pos h]
      unfold strD
      by_cases h0 : n = 0
      · subst h0; rfl
      · rw [if_neg h0]
        unfold digB
        rw [dig_pos (by omega), show n / 10 = 0 by omega, dig_zero, Nat.mod_eq_of_lt h]
        simp [Nat.add_comm]
    · rw [dif_neg h, ih (n / 10) (by omega)]
      unfold strD
      rw [if_neg (by omega), if_neg (by omega)]
      unfold digB
      rw [dig_pos (show 0 < n by omega)]
      simp [Nat.add_comm]
theorem itoa_strD (n : Nat) : Lib.itoa (n : Int) = strD n := by
  unfold Lib.itoa
  rw [if_neg (by omega), Int.toNat_natCast, decDigits_strD]
def digL : Bytes := [48, 49, 50, 51, 52, 53, 54, 55, 56, 57]
theorem mem_digL (c : UInt8) : digL.contains c = decide (48 ≤ c.toNat ∧ c.toNat ≤ 57) := by
  have : ∀ n : Fin 256, digL.contains (UInt8.ofNat n) = decide (48 ≤ n.1 ∧ n.1 ≤ 57) := by decide +kernel
  have h := this ⟨c.toNat, c.toNat_lt⟩
  simpa using h
theorem dropWhile_ne {α : Type} {p : α → Bool} {l : List α} {x : α} (hx : x ∈ l) (hp : p x = false) : x ∈ l.dropWhile p := by
  induction l with
  | nil => cases hx
  | cons a l ih =>
    rw [List.dropWhile_cons]
    rcases List.mem_cons.1 hx with rfl | h
    · rw [hp]; simp
    · split
      · exact ih h
      · exact hx
theorem trim_digits (S : Bytes) (h : DigsB S) : Lib.trimS S digL = [] := by
  have h1 : ∀ l : Bytes, (∀ c ∈ l, 48 ≤ c.toNat ∧ c.toNat ≤ 57) → l.dropWhile (digL.contains ·) = [] := by
    intro l
    induction l with
    | nil => intro _; rfl
    | cons a l ih =>
      intro hl
      rw [List.dropWhile_cons, mem_digL, decide_eq_true (hl a (by simp))]
      exact ih (fun c hc => hl c (List.mem_cons_of_mem _ hc))
  unfold Lib.trimS Lib.trimRightS Lib.trimLeftS
  rw [h1 S.reverse (fun c hc => h c (List.mem_reverse.1 hc))]
  rfl
theorem trim_other (S : Bytes) (h : ¬ DigsB S) : Lib.trimS S digL ≠ [] := by
  have : ∃ c ∈ S, ¬ (48 ≤ c.toNat ∧ c.toNat ≤ 57) := by
    apply Classical.byContradiction
    intro hn
    exact h (fun c hc => Classical.byContradiction fun h2 => hn ⟨c, hc, h2⟩)
  obtain ⟨c, hc, hd⟩ := this
  have hp : digL.contains c = false := by rw [mem_digL]; exact decide_eq_false hd
  have h1 := dropWhile_ne (p := (digL.contains ·)) (List.mem_reverse.2 hc) hp
  have h2 := dropWhile_ne (p := (digL.contains ·)) (List.mem_reverse.2 h1) hp
  intro he
  unfold Lib.trimS Lib.trimRightS Lib.trimLeftS at he
  rw [he] at h2
  cases h2
theorem parse_digits : ∀ (S : Bytes) (acc : Nat), DigsB S → acc < 18446744073709551616 →
    (Lib.parseUint10 acc S = if acc * 10 ^ S.length + dv S < 18446744073709551616 then .ok (acc * 10 ^ S.length + dv S) else .range) := by
  intro S
  induction S with
  | nil => intro acc _ ha; simp [Lib.parseUint10, dv]; omega
  | cons c r ih =>
    intro acc hS ha
    have hc := hS c (by simp)
    have hr : DigsB r := fun x hx => hS x (List.mem_cons_of_mem _ hx)
    have hv : dv (c :: r) = (c.toNat - 48) * 10 ^ r.length + dv r := by
      have := dv_append [c] r
      rw [dv_one] at this
      exact this
    simp only [Lib.parseUint10]
    rw [if_pos hc, hv, List.length_cons, Nat.pow_succ]
    generalize hP : 10 ^ r.length = P at *
    have hP1 : 0 < P := by rw [← hP]; exact Nat.pow_pos (by decide)
    have e : acc * (P * 10) + ((c.toNat - 48) * P + dv r) = (acc * 10 + (c.toNat - 48)) * P + dv r := by
      rw [Nat.add_mul, Nat.mul_assoc, Nat.mul_comm 10 P]; omega
    rw [e]
    by_cases h1 : 1844674407370955162 ≤ acc
    · rw [if_pos h1, if_neg]
      have : 18446744073709551616 * 1 ≤ (acc * 10 + (c.toNat - 48)) * P := Nat.mul_le_mul (by omega) hP1
      omega
    · rw [if_neg h1]
      by_cases h2 : 18446744073709551616 ≤ acc * 10 + (c.toNat - 48)
      · rw [if_pos h2, if_neg]
        have : 18446744073709551616 * 1 ≤ (acc * 10 + (c.toNat - 48)) * P := Nat.mul_le_mul h2 hP1
        omega
      · rw [if_neg h2, ih _ hr (by omega)]
theorem atoi_digits (S : Bytes) (h0 : S ≠ []) (hS : DigsB S) : Lib.atoiAll S = if dv S < 9223372036854775808 then .ok (dv S : Int) else .range := by
  cases S with
  | nil => exact absurd rfl h0
  | cons c r =>
    have hc := hS c (by simp)
    rw [Lib.atoiAll_plain c r (by omega) (by omega)]
    unfold Lib.parseMag
    rw [if_neg (by simp), parse_digits _ 0 hS (by decide), Nat.zero_mul, Nat.zero_add]
    by_cases h1 : dv (c :: r) < 9223372036854775808
    · rw [if_pos (by omega), if_pos h1]
      unfold Lib.signless
      simp; omega
    · rw [if_neg h1]
      by_cases h2 : dv (c :: r) < 18446744073709551616
      · rw [if_pos h2]
        unfold Lib.signless
        simp; omega
      · rw [if_neg h2]
        rfl
/-- what ReadNumber answers -/
def rnE (S : Bytes) : Nat := if numB S = false then 2 else if 1099511627776 < dv S then 4 else 0
def rnV (S : Bytes) : Nat := if rnE S = 0 then dv S else 0
theorem rn_strD (n : Nat) (h : n ≤ 1099511627776) : rnE (strD n) = 0 ∧ rnV (strD n) = n := by
  have h1 : rnE (strD n) = 0 := by
    unfold rnE
    rw [numB_strD, if_neg (by simp), dv_strD, if_neg (by omega)]
  exact ⟨h1, by unfold rnV; rw [if_pos h1, dv_strD]⟩
end Go.Proofs.YtohemcdcmlngiaaDoor
