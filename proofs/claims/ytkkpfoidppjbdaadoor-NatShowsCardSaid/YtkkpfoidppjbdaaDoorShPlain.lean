/-
  NatShows: plain law: the text of a number with so many places.
-/
import Derived.Test.YtkkpfoidppjbdaaDoorBText
import Derived.Shelf.Strings.Repeat
namespace Go.Proofs.YtkkpfoidppjbdaaDoor
namespace SH
open ML FM ND
set_option linter.unusedVariables false

def ch (d : Nat) : UInt8 := UInt8.ofNat (d + 48)
/-- the k lowest digits, the highest first -/
def pad (D : List Nat) : Nat → Bytes
  | 0 => []
  | k + 1 => ch (D.getD k 0) :: pad D k
theorem length_pad (D : List Nat) (k : Nat) : (pad D k).length = k := by
  induction k with
  | zero => rfl
  | succ k ih => simp [pad, ih]
theorem pad_append (A : List Nat) (d : Nat) (k : Nat) (h : k ≤ A.length) : pad (A ++ [d]) k = pad A k := by
  induction k with
  | zero => rfl
  | succ k ih =>
    simp only [pad]
    rw [ih (by omega), List.getD_eq_getElem?_getD, List.getD_eq_getElem?_getD, List.getElem?_append_left (by omega)]
theorem pad_take (D : List Nat) (k : Nat) (h : k ≤ D.length) : pad D k = ((D.take k).map ch).reverse := by
  induction k with
  | zero => simp [pad]
  | succ k ih =>
    simp only [pad]
    rw [ih (by omega), List.take_add_one, List.getD_eq_getElem?_getD, List.getElem?_eq_getElem (by omega : k < D.length)]
    simp only [Option.toList_some, List.map_append, List.map_cons, List.map_nil, List.reverse_append, List.reverse_cons, List.reverse_nil, List.nil_append, List.cons_append, Option.getD_some]
theorem pad_whole (D : List Nat) : pad D D.length = (D.map ch).reverse := by
  rw [pad_take D _ (Nat.le_refl _), List.take_length]
theorem pad_drop (D : List Nat) (p : Nat) : ∀ m, p ≤ m → (pad D m).drop (m - p) = pad D p := by
  intro m
  induction m with
  | zero => intro h; rw [show p = 0 by omega]; rfl
  | succ m ih =>
    intro h
    by_cases he : p = m + 1
    · rw [he, Nat.sub_self]; rfl
    · rw [show m + 1 - p = (m - p) + 1 by omega]
      simp only [pad, List.drop_succ_cons]
      exact ih (by omega)
/-- digits above the highest are noughts -/
theorem pad_more (D : List Nat) (k : Nat) : pad D (D.length + k) = Lib.repeatL [48] k ++ pad D D.length := by
  induction k with
  | zero => rfl
  | succ k ih =>
    rw [← Nat.add_assoc]
    simp only [pad, Lib.repeatL]
    rw [ih, List.getD_eq_getElem?_getD, List.getElem?_eq_none (by omega)]
    rfl
/-- the reference's text, k rounds on -/
def refS (D : List Nat) (p : Nat) : Nat → Bytes
  | 0 => []
  | k + 1 => ch (D.getD k 0) :: (if k = p then 46 :: refS D p k else refS D p k)
theorem refS_low (D : List Nat) (p : Nat) : ∀ k, k ≤ p → refS D p k = pad D k := by
  intro k
  induction k with
  | zero => intro _; rfl
  | succ k ih => intro h; simp only [refS, pad]; rw [if_neg (by omega), ih (by omega)]
theorem refS_high (D : List Nat) (p : Nat) : ∀ k, p < k → refS D p k = (pad D k).take (k - p) ++ 46 :: pad D p := by
  intro k
  induction k with
  | zero => intro h; omega
  | succ k ih =>
    intro h
    simp only [refS, pad]
    rw [show k + 1 - p = (k - p) + 1 by omega, List.take_succ_cons]
    by_cases he : k = p
    · rw [if_pos he, refS_low D p k (by omega), he, Nat.sub_self]; rfl
    · rw [if_neg he, ih (by omega)]; rfl
/-- the reference's text -/
def refT (q p : Nat) : Bytes :=
  if p = 0 then strD q else
    if (dig q).length ≤ p then [48, 46] ++ refS (dig q) p p else refS (dig q) p (dig q).length
/-- the document's text -/
def wide (q p : Nat) : Bytes := if (strD q).length ≤ p then Lib.repeatL [48] (p + 1 - (strD q).length) ++ strD q else strD q
def natT (q p : Nat) : Bytes :=
  if p = 0 then strD q else (wide q p).take ((wide q p).length - p) ++ [46] ++ (wide q p).drop ((wide q p).length - p)
theorem wide_pad (q p : Nat) (hp : 0 < p) : wide q p = pad (dig q) (max (p + 1) (dig q).length) := by
  unfold wide
  by_cases hq : q = 0
  · subst hq
    have h1 : strD 0 = [48] := rfl
    rw [h1, dig_zero, if_pos (by simp; omega)]
    have h2 : ∀ k, pad [] k = Lib.repeatL [48] k := by
      intro k
      have := pad_more [] k
      rw [List.length_nil, Nat.zero_add] at this
      rw [this]
      exact List.append_nil _
    rw [show max (p + 1) ([] : List Nat).length = p + 1 by simp, h2]
    clear h1 h2
    show Lib.repeatL [48] (p + 1 - 1) ++ [48] = Lib.repeatL [48] (p + 1)
    rw [Nat.add_sub_cancel]
    clear hp
    induction p with
    | zero => rfl
    | succ p ih => simp only [Lib.repeatL]; rw [List.append_assoc, ih]; simp only [Lib.repeatL]
  · have h1 : strD q = pad (dig q) (dig q).length := by unfold strD; rw [if_neg hq, pad_whole]; unfold digB; rw [List.map_reverse]; rfl
    rw [h1, length_pad]
    by_cases hl : (dig q).length ≤ p
    · rw [if_pos hl, ← pad_more, show (dig q).length + (p + 1 - (dig q).length) = max (p + 1) (dig q).length by omega]
    · rw [if_neg hl, show max (p + 1) (dig q).length = (dig q).length by omega]
theorem same (q p : Nat) : natT q p = refT q p := by
  unfold natT refT
  by_cases hp : p = 0
  · rw [if_pos hp, if_pos hp]
  · rw [if_neg hp, if_neg hp, wide_pad q p (by omega), length_pad, pad_drop _ _ _ (by omega)]
    by_cases hl : (dig q).length ≤ p
    · rw [if_pos hl, refS_low _ _ _ (Nat.le_refl _), show max (p + 1) (dig q).length = p + 1 by omega, show p + 1 - p = 1 by omega]
      simp only [pad, List.take_succ_cons, List.take_zero]
      rw [List.getD_eq_getElem?_getD, List.getElem?_eq_none hl]
      rfl
    · rw [if_neg hl, refS_high _ _ _ (by omega), show max (p + 1) (dig q).length = (dig q).length by omega]
      simp
end SH
end Go.Proofs.YtkkpfoidppjbdaaDoor
