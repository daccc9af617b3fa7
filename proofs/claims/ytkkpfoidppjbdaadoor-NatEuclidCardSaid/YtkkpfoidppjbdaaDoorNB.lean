/-
  Numbers of so many decimal digits at most: both rows' lengths.
-/
import Derived.Test.YtkkpfoidppjbdaaDoorLDig2
import Derived.Test.YtkkpfoidppjbdaaDoorNDig2
namespace Go.Proofs.YtkkpfoidppjbdaaDoor

/-- below 10^k for a k that is K at most -/
def NB (K x : Nat) : Prop := ∃ k, k ≤ K ∧ x < 10 ^ k
namespace NB
variable {K L x y : Nat}
theorem limbs (h : NB K x) : (NL.dig x).length ≤ K := by
  obtain ⟨k, hk, hx⟩ := h
  have : x < 1000000000 ^ k := Nat.lt_of_lt_of_le hx (Nat.pow_le_pow_left (by decide) k)
  exact Nat.le_trans (NL.length_dig_le x k this) hk
theorem digs (h : NB K x) : (ND.dig x).length ≤ K := by
  obtain ⟨k, hk, hx⟩ := h
  exact Nat.le_trans (ND.length_dig_le x k hx) hk
theorem zero (K : Nat) : NB K 0 := ⟨0, Nat.zero_le _, Nat.pow_pos (by decide)⟩
theorem one (K : Nat) : NB (K + 1) 1 := ⟨1, by omega, by decide⟩
theorem mono (h : NB K x) (hy : y ≤ x) : NB K y := by
  obtain ⟨k, hk, hx⟩ := h
  exact ⟨k, hk, by omega⟩
theorem up (h : NB K x) (hL : K ≤ L) : NB L x := by
  obtain ⟨k, hk, hx⟩ := h
  exact ⟨k, by omega, hx⟩
theorem mul (h : NB K x) (g : NB L y) : NB (K + L) (x * y) := by
  obtain ⟨k, hk, hx⟩ := h
  obtain ⟨l, hl, hy⟩ := g
  exact ⟨k + l, by omega, by rw [Nat.pow_add]; exact Nat.mul_lt_mul'' hx hy⟩
theorem add (h : NB K x) (g : NB L y) : NB (K + L + 1) (x + y) := by
  obtain ⟨k, hk, hx⟩ := h
  obtain ⟨l, hl, hy⟩ := g
  refine ⟨k + l + 1, by omega, ?_⟩
  have e1 : 10 ^ k ≤ 10 ^ (k + l) := Nat.pow_le_pow_right (by decide) (by omega)
  have e2 : 10 ^ l ≤ 10 ^ (k + l) := Nat.pow_le_pow_right (by decide) (by omega)
  rw [Nat.pow_succ]; omega
/-- both sums' rows as texts of one length: a sum of two below 10^K is below 10^(K+1) -/
theorem add1 (h : NB K x) (g : NB K y) : NB (K + 1) (x + y) := by
  obtain ⟨k, hk, hx⟩ := h
  obtain ⟨l, hl, hy⟩ := g
  refine ⟨K + 1, by omega, ?_⟩
  have e1 : 10 ^ k ≤ 10 ^ K := Nat.pow_le_pow_right (by decide) hk
  have e2 : 10 ^ l ≤ 10 ^ K := Nat.pow_le_pow_right (by decide) hl
  rw [Nat.pow_succ]; omega
theorem div (h : NB K x) (y : Nat) : NB K (x / y) := h.mono (Nat.div_le_self x y)
theorem mod (h : NB K x) (y : Nat) : NB K (x % y) := h.mono (Nat.mod_le x y)
theorem lt (h : NB K x) : x < 10 ^ K := by
  obtain ⟨k, hk, hx⟩ := h
  exact Nat.lt_of_lt_of_le hx (Nat.pow_le_pow_right (by decide) hk)
end NB
end Go.Proofs.YtkkpfoidppjbdaaDoor
