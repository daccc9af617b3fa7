/-
  Chapter 4, WirePrints: nodes, plain: what is written of one, how deep it is, how long. No program in sight but the values.
-/
import Derived.Test.YtohemcdcmlngiaaDoorNum
namespace Go.Proofs.YtohemcdcmlngiaaDoor.PR
set_option linter.unusedVariables false
set_option linter.unusedSimpArgs false
open Go.RowKit ML FM

/-- what is to be said of a node: is it one, how deep, how long, how it is written; and its bulk (all texts and nodes in it) -/
structure Inf where
  good : Bool
  dep : Nat
  siz : Nat
  txt : Bytes
  bulk : Nat
def maxN (f : Nat → Nat) : Nat → Nat
  | 0 => 0
  | k + 1 => if maxN f k < f k then f k else maxN f k
def sumN (f : Nat → Nat) : Nat → Nat
  | 0 => 0
  | k + 1 => sumN f k + f k
def catN (f : Nat → Bytes) : Nat → Bytes
  | 0 => []
  | k + 1 => catN f k ++ f k
def goodN (f : Nat → Bool) : Nat → Bool
  | 0 => true
  | k + 1 => goodN f k && f k
theorem le_maxN (f : Nat → Nat) : ∀ n i, i < n → f i ≤ maxN f n
  | 0, i, h => by omega
  | n + 1, i, h => by
    unfold maxN
    rcases Nat.lt_or_ge i n with hl | hl
    · have := le_maxN f n i hl
      split <;> omega
    · obtain rfl : i = n := by omega
      split <;> omega
theorem maxN_le (f : Nat → Nat) (m : Nat) : ∀ n, (∀ i, i < n → f i ≤ m) → maxN f n ≤ m
  | 0, h => Nat.zero_le _
  | n + 1, h => by
    have h1 := maxN_le f m n (fun i hi => h i (by omega))
    have h2 := h n (by omega)
    unfold maxN
    split <;> omega
theorem sumN_mono (f : Nat → Nat) : ∀ n k, k ≤ n → sumN f k ≤ sumN f n
  | 0, k, h => by obtain rfl : k = 0 := by omega
                  exact Nat.le_refl _
  | n + 1, k, h => by
    rcases Nat.lt_or_ge k (n + 1) with hl | hl
    · have := sumN_mono f n k (by omega)
      show _ ≤ sumN f n + f n
      omega
    · obtain rfl : k = n + 1 := by omega
      exact Nat.le_refl _
theorem goodN_of (f : Nat → Bool) : ∀ n, (∀ i, i < n → f i = true) → goodN f n = true
  | 0, h => rfl
  | n + 1, h => by
    show (goodN f n && f n) = true
    rw [goodN_of f n (fun i hi => h i (by omega)), h n (by omega)]
    rfl
theorem goodN_at (f : Nat → Bool) : ∀ n, goodN f n = true → ∀ i, i < n → f i = true
  | 0, _, i, h => by omega
  | n + 1, hg, i, h => by
    have hg2 : (goodN f n && f n) = true := hg
    rw [Bool.and_eq_true] at hg2
    rcases Nat.lt_or_ge i n with hl | hl
    · exact goodN_at f n hg2.1 i hl
    · obtain rfl : i = n := by omega
      exact hg2.2
theorem goodN_no (f : Nat → Bool) (n i : Nat) (h : i < n) (hf : f i = false) : goodN f n = false := by
  cases hg : goodN f n with
  | false => rfl
  | true => rw [goodN_at f n hg i h] at hf; cases hf
/-- a node's out of its parts': a leaf's, a list's -/
def leafI (t : Bytes) (n : Nat) (I : Nat → Inf) : Inf := ⟨decide (n = 0), 0, (strD t.length).length + 1 + t.length, strD t.length ++ [58] ++ t, t.length + 1 + sumN (fun i => (I i).bulk) n⟩
def listI (t : Bytes) (n : Nat) (I : Nat → Inf) : Inf := ⟨decide (t = []) && goodN (fun i => (I i).good) n, maxN (fun i => (I i).dep) n + 1, 2 + sumN (fun i => (I i).siz) n, [40] ++ catN (fun i => (I i).txt) n ++ [41], t.length + 1 + sumN (fun i => (I i).bulk) n⟩
def nodeI (l : Bool) (t : Bytes) (n : Nat) (I : Nat → Inf) : Inf := if l then leafI t n I else listI t n I
theorem length_catN (f : Nat → Bytes) : ∀ n, (catN f n).length = sumN (fun i => (f i).length) n
  | 0 => rfl
  | n + 1 => by
    show (catN f n ++ f n).length = _
    rw [List.length_append, length_catN f n]
    rfl
theorem sumN_congr {f g : Nat → Nat} : ∀ n, (∀ i, i < n → f i = g i) → sumN f n = sumN g n
  | 0, _ => rfl
  | n + 1, h => by
    show sumN f n + f n = sumN g n + g n
    rw [sumN_congr n (fun i hi => h i (by omega)), h n (by omega)]
theorem sumN_le {f g : Nat → Nat} : ∀ n, (∀ i, i < n → f i ≤ g i) → sumN f n ≤ sumN g n
  | 0, _ => Nat.le_refl _
  | n + 1, h => by
    have h1 := sumN_le n (fun i hi => h i (by omega) : ∀ i, i < n → f i ≤ g i)
    have h2 := h n (by omega)
    show sumN f n + f n ≤ sumN g n + g n
    omega
theorem sumN_mul (f : Nat → Nat) (c : Nat) : ∀ n, sumN (fun i => c * f i) n = c * sumN f n
  | 0 => rfl
  | n + 1 => by
    show sumN (fun i => c * f i) n + c * f n = c * (sumN f n + f n)
    rw [sumN_mul f c n, Nat.mul_add]
/-- a node in memory: its three cells -/
inductive NdAt (w : World) : List Value → Inf → Prop
  | mk (l : Bool) (t : Bytes) (oa : Option Addr) (n cap : Nat) (C : Nat → List Value) (I : Nat → Inf)
    (hn : n < 9223372036854775808)
    (hc : ∀ i, i < n → ∃ a, oa = some a ∧ a.block < w.heap.size ∧ (C i).length = 3 ∧ ∀ j u, (C i)[j]? = some u → w.cell? ((a.add (i * 3)).add j) = some u)
    (hr : ∀ i, i < n → NdAt w (C i) (I i)) : NdAt w [.bool l, .string ⟨t.toArray⟩, .slice oa n cap] (nodeI l t n I)
theorem NdAt.bel {w w1 : World} (hb : Below w.heap.size w w1) {cs : List Value} {I : Inf} (h : NdAt w cs I) : NdAt w1 cs I := by
  induction h with
  | mk l t oa n cap C I hn hc hr ih =>
    refine .mk l t oa n cap C I hn (fun i hi => ?_) ih
    obtain ⟨a, h1, h2, h3, h4⟩ := hc i hi
    refine ⟨a, h1, Nat.lt_of_lt_of_le h2 hb.size, h3, fun j u hu => ?_⟩
    rw [hb.cell (by rw [addr_block, addr_block]; exact h2)]
    exact h4 j u hu
/-- it is written in as many bytes as are said -/
theorem NdAt.len {w : World} {cs : List Value} {I : Inf} (h : NdAt w cs I) : I.txt.length = I.siz := by
  induction h with
  | mk l t oa n cap C I hn hc hr ih =>
    unfold nodeI
    cases l with
    | true => simp [leafI]; omega
    | false =>
      have : sumN (fun i => (I i).txt.length) n = sumN (fun i => (I i).siz) n := sumN_congr n ih
      simp [listI, length_catN, this]
      omega
theorem strD_len (n : Nat) : (strD n).length ≤ n + 1 := by
  by_cases h : n = 0
  · subst h; exact Nat.le_refl _
  · have h1 := dv_ge (mem_strD n) (strD_ne n) (strD_head h)
    rw [dv_strD] at h1
    have h2 : (strD n).length - 1 < 10 ^ ((strD n).length - 1) := Nat.lt_pow_self (by omega)
    omega
theorem le_sumN (f : Nat → Nat) (n i : Nat) (h : i < n) : f i ≤ sumN f n := by
  have h1 := sumN_mono f n (i + 1) h
  have h2 : sumN f (i + 1) = sumN f i + f i := rfl
  omega
/-- no longer than twice its bulk, no deeper than that -/
theorem NdAt.small {w : World} {cs : List Value} {I : Inf} (h : NdAt w cs I) : I.siz ≤ 2 * I.bulk ∧ I.dep ≤ I.bulk := by
  induction h with
  | mk l t oa n cap C I hn hc hr ih =>
    unfold nodeI
    cases l with
    | true =>
      have := strD_len t.length
      simp only [if_true, leafI]
      omega
    | false =>
      have h1 : sumN (fun i => (I i).siz) n ≤ sumN (fun i => 2 * (I i).bulk) n := sumN_le n (fun i hi => (ih i hi).1)
      rw [sumN_mul] at h1
      have h2 : maxN (fun i => (I i).dep) n ≤ sumN (fun i => (I i).bulk) n := maxN_le _ _ n (fun i hi => Nat.le_trans (ih i hi).2 (le_sumN (fun i => (I i).bulk) n i hi))
      simp only [Bool.false_eq_true, if_false, listI]
      omega
end Go.Proofs.YtohemcdcmlngiaaDoor.PR
