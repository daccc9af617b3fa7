/-
  Numbers as lists of their decimal digits, the lowest first: the plain law of the reference's chapter 2. No program in sight.
-/
import Derived.KernelRfl
namespace Go.Proofs.YtohemcdcmlngiaaDoor.ND
set_option linter.unusedSimpArgs false
set_option linter.unusedVariables false

def val : List Nat → Nat
  | [] => 0
  | d :: r => d + 10 * val r
def AllD (L : List Nat) : Prop := ∀ d ∈ L, d < 10
/-- the digits of a number -/
def dig (n : Nat) : List Nat := if h : n = 0 then [] else (n % 10) :: dig (n / 10)
termination_by n
decreasing_by omega
theorem dig_zero : dig 0 = [] := by unfold dig; simp
theorem dig_pos {n : Nat} (h : 0 < n) : dig n = (n % 10) :: dig (n / 10) := by
  conv => lhs; unfold dig
  rw [dif_neg (by omega)]
theorem val_dig (n : Nat) : val (dig n) = n := by
  induction n using Nat.strongRecOn with
  | ind n ih =>
    by_cases h : n = 0
    · subst h; rw [dig_zero]; rfl
    · rw [dig_pos (by omega), val, ih (n / 10) (by omega)]; omega
theorem all_dig (n : Nat) : AllD (dig n) := by
  induction n using Nat.strongRecOn with
  | ind n ih =>
    by_cases h : n = 0
    · subst h; rw [dig_zero]; intro d hd; cases hd
    · rw [dig_pos (by omega)]
      intro d hd
      rcases List.mem_cons.1 hd with rfl | hd
      · omega
      · exact ih (n / 10) (by omega) d hd
theorem val_append (A B : List Nat) : val (A ++ B) = val A + 10 ^ A.length * val B := by
  induction A with
  | nil => simp [val]
  | cons d r ih =>
    simp only [List.cons_append, val, ih, List.length_cons, Nat.pow_succ, Nat.mul_add]
    rw [Nat.mul_comm (10 ^ r.length) 10, Nat.mul_assoc]
    omega
theorem val_lt (L : List Nat) (h : AllD L) : val L < 10 ^ L.length := by
  induction L with
  | nil => simp [val]
  | cons d r ih =>
    have h1 := ih (fun x hx => h x (List.mem_cons_of_mem _ hx))
    have h2 := h d (List.mem_cons_self ..)
    simp only [val, List.length_cons, Nat.pow_succ]
    omega
theorem dig_of_val (L : List Nat) (h : AllD L) (hn : L = [] ∨ 10 ^ (L.length - 1) ≤ val L) : L = dig (val L) := by
  induction L with
  | nil => rw [val, dig_zero]
  | cons d r ih =>
    have hd := h d (List.mem_cons_self ..)
    have hr : AllD r := fun x hx => h x (List.mem_cons_of_mem _ hx)
    have hv : 10 ^ r.length ≤ val (d :: r) := by
      rcases hn with h0 | h0
      · cases h0
      · simpa using h0
    have hpos : 0 < val (d :: r) := Nat.lt_of_lt_of_le (Nat.pow_pos (by decide)) hv
    rw [dig_pos hpos]
    have e1 : val (d :: r) % 10 = d := by simp only [val]; omega
    have e2 : val (d :: r) / 10 = val r := by simp only [val]; omega
    rw [e1, e2, ← ih hr]
    by_cases hr0 : r = []
    · exact .inl hr0
    · right
      have hl : 0 < r.length := List.length_pos_iff.2 hr0
      have h3 : 10 ^ r.length = 10 * 10 ^ (r.length - 1) := by
        rw [← Nat.pow_succ']; congr 1; omega
      simp only [val] at hv
      omega
theorem length_dig_le (n k : Nat) (h : n < 10 ^ k) : (dig n).length ≤ k := by
  induction k generalizing n with
  | zero =>
    have : n = 0 := by simpa using h
    subst this; rw [dig_zero]; simp
  | succ k ih =>
    by_cases h0 : n = 0
    · subst h0; rw [dig_zero]; simp
    · rw [dig_pos (by omega), List.length_cons]
      have := ih (n / 10) (by rw [Nat.pow_succ] at h; omega)
      omega
theorem dig_ge {n : Nat} (h : dig n ≠ []) : 10 ^ ((dig n).length - 1) ≤ n := by
  induction n using Nat.strongRecOn with
  | ind n ih =>
    by_cases h0 : n = 0
    · subst h0; rw [dig_zero] at h; exact absurd rfl h
    · rw [dig_pos (by omega)]
      by_cases h1 : dig (n / 10) = []
      · rw [h1]; simp; omega
      · have h2 := ih (n / 10) (by omega) h1
        have hl : 0 < (dig (n / 10)).length := List.length_pos_iff.2 h1
        have h3 : 10 ^ (dig (n / 10)).length = 10 * 10 ^ ((dig (n / 10)).length - 1) := by
          rw [← Nat.pow_succ']; congr 1; omega
        simp only [List.length_cons, Nat.add_sub_cancel]
        omega
/-- trailing zeros taken off -/
def trimL (L : List Nat) : List Nat := dig (val L)
theorem val_take_zero (L : List Nat) (k : Nat) (h : ∀ i, k ≤ i → L.getD i 0 = 0) : val (L.take k) = val L := by
  induction L generalizing k with
  | nil => simp [val]
  | cons d r ih =>
    cases k with
    | zero =>
      have h0 : d = 0 := by simpa using h 0 (Nat.le_refl _)
      have hr := ih 0 (fun i _ => by simpa using h (i + 1) (by omega))
      simp only [List.take_zero, val] at hr ⊢
      omega
    | succ k =>
      simp only [List.take_succ_cons, val]
      rw [ih k (fun i hi => by simpa using h (i + 1) (by omega))]
theorem all_take {L : List Nat} (h : AllD L) (k : Nat) : AllD (L.take k) := fun d hd => h d (List.mem_of_mem_take hd)
/-- cut where the digit ahead is not 0 -/
theorem take_trim (L : List Nat) (k : Nat) (h : AllD L) (hk : k ≤ L.length) (h0 : ∀ i, k ≤ i → L.getD i 0 = 0) (hn : k = 0 ∨ L.getD (k - 1) 0 ≠ 0) : L.take k = trimL L := by
  unfold trimL
  rw [← val_take_zero L k h0]
  refine dig_of_val _ (all_take h k) ?_
  rcases hn with rfl | hn
  · left; simp
  · by_cases hk0 : k = 0
    · left; subst hk0; simp
    · right
      obtain ⟨j, rfl⟩ : ∃ j, k = j + 1 := ⟨k - 1, by omega⟩
      have hj : j < L.length := by omega
      rw [List.take_succ_eq_append_getElem hj, val_append, List.length_append, List.length_take, List.length_singleton]
      have e : L.getD j 0 = L[j] := by simp [List.getD_eq_getElem?_getD, hj]
      have : L[j] ≠ 0 := by rw [← e]; simpa using hn
      rw [show min j L.length = j by omega, Nat.add_sub_cancel]
      simp only [val, Nat.mul_zero, Nat.add_zero]
      have h1 : 10 ^ j * 1 ≤ 10 ^ j * L[j] := Nat.mul_le_mul_left _ (by omega)
      omega
/-- the first i digits -/
theorem val_take_mod (L : List Nat) (h : AllD L) (i : Nat) : val (L.take i) = val L % 10 ^ i := by
  have e := val_append (L.take i) (L.drop i)
  rw [List.take_append_drop] at e
  by_cases hi : i ≤ L.length
  · rw [List.length_take, Nat.min_eq_left hi] at e
    have hl := val_lt _ (all_take h i)
    rw [List.length_take, Nat.min_eq_left hi] at hl
    rw [e, Nat.add_mul_mod_self_left, Nat.mod_eq_of_lt hl]
  · rw [List.take_of_length_le (by omega)]
    have hl := val_lt _ h
    rw [Nat.mod_eq_of_lt (Nat.lt_of_lt_of_le hl (Nat.pow_le_pow_right (by decide) (by omega)))]
theorem val_take_succ (L : List Nat) (i : Nat) : val (L.take (i + 1)) = val (L.take i) + 10 ^ i * L.getD i 0 := by
  by_cases hi : i < L.length
  · rw [List.take_succ_eq_append_getElem hi, val_append, List.length_take, Nat.min_eq_left (by omega)]
    simp [val, List.getD_eq_getElem?_getD, hi]
  · rw [List.take_of_length_le (by omega), List.take_of_length_le (by omega)]
    simp [List.getD_eq_getElem?_getD, hi]
end Go.Proofs.YtohemcdcmlngiaaDoor.ND
