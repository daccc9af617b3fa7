/-
  Chapter 4: what FromLetters answers: plain law.
-/
import Derived.Test.YtohemcdcmlngiaaWVal
namespace Go.Proofs.Ytohemcdcmlngiaa
set_option linter.unusedVariables false
set_option linter.unusedSimpArgs false
namespace WL
open ML FM

/-- the values of the signs that are no hyphens -/
def rdT (T : Bytes) : List Int := (T.filter (fun c => c != 45)).map fun c => valR c.toNat
theorem rdT_append (A B : Bytes) : rdT (A ++ B) = rdT A ++ rdT B := by simp [rdT]
theorem rdT_hyphen (A : Bytes) : rdT (A ++ [45]) = rdT A := by rw [rdT_append]; simp [rdT]
theorem rdT_sign (A : Bytes) (c : UInt8) (h : c ≠ 45) : rdT (A ++ [c]) = rdT A ++ [valR c.toNat] := by
  rw [rdT_append]
  congr 1
  unfold rdT
  rw [List.filter_cons, if_pos (by simpa using h)]
  rfl
/-- all are values, those ahead of the last one below 32 -/
def OkV (L : List Int) : Prop := ∀ i (h : i < L.length), 0 ≤ L[i] ∧ (i + 1 < L.length → L[i] < 32)
theorem OkV.init {L M : List Int} (h : OkV (L ++ M)) : OkV L := by
  intro i hi
  have := h i (by rw [List.length_append]; omega)
  rw [List.getElem_append_left hi] at this
  exact ⟨this.1, fun h2 => this.2 (by rw [List.length_append]; omega)⟩
theorem okV_nil : OkV [] := fun i h => by simp at h
theorem okV_snoc {L : List Int} {v : Int} (h : OkV L) (hl : ∀ i (hi : i < L.length), i + 1 = L.length → L[i] < 32) (hv : 0 ≤ v) : OkV (L ++ [v]) := by
  intro i hi
  rw [List.length_append, List.length_singleton] at hi
  by_cases he : i < L.length
  · rw [List.getElem_append_left he]
    refine ⟨(h i he).1, fun _ => ?_⟩
    by_cases h2 : i + 1 < L.length
    · exact (h i he).2 h2
    · exact hl i he (by omega)
  · have : i = L.length := by omega
    subst this
    rw [List.getElem_append_right (Nat.le_refl _)]
    simp only [Nat.sub_self, List.getElem_singleton]
    refine ⟨hv, fun h3 => ?_⟩
    rw [List.length_append, List.length_singleton] at h3
    omega
theorem not_okV_neg {L : List Int} {v : Int} (hv : v < 0) : ¬ OkV (L ++ [v]) := by
  intro h
  have := (h L.length (by simp)).1
  rw [List.getElem_append_right (Nat.le_refl _)] at this
  simp only [Nat.sub_self, List.getElem_singleton] at this
  omega
theorem not_okV_high {L : List Int} {v a : Int} (i : Nat) (hi : i < L.length) (hl : i + 1 = L.length) (ha : L[i] = a) (h32 : 32 ≤ a) : ¬ OkV (L ++ [v]) := by
  intro h
  have := (h i (by simp; omega)).2 (by simp; omega)
  rw [List.getElem_append_left hi, ha] at this
  omega
/-- the answer: the error -/
noncomputable def fromE (T : Bytes) : Nat :=
  open Classical in
  if rdT T = [] ∨ ¬ OkV (rdT T) then 2 else
  if 103 < (rdT T).length - 1 then 3 else
  if 5 ≤ 5 * ((rdT T).length - 1) % 8 then 2 else
  if (ckV ((rdT T).dropLast.map Int.toNat) : Int) ≠ (rdT T).getLastD 0 then 8 else
  if restV ((rdT T).dropLast.map Int.toNat) ≠ 0 then 2 else 0
/-- the answer: the bytes -/
noncomputable def fromB (T : Bytes) : Bytes := if fromE T = 0 then bytesOf ((rdT T).dropLast.map Int.toNat) else []
theorem fromE_bad {T A : Bytes} {M : Bytes} (hT : T = A ++ M) (h : ¬ OkV (rdT A)) : fromE T = 2 := by
  unfold fromE
  rw [if_pos (.inr (fun h2 => h (by rw [hT, rdT_append] at h2; exact h2.init)))]
theorem fromE_nil {T : Bytes} (h : rdT T = []) : fromE T = 2 := by
  unfold fromE
  rw [if_pos (.inl h)]
/-- of a list that is right: k digits and a check -/
theorem fromE_of {T : Bytes} {l : List Nat} {c : Nat} (h : rdT T = (l ++ [c]).map (fun v : Nat => (v : Int))) (hok : OkV (rdT T)) :
    fromE T = (if 103 < l.length then 3 else if 5 ≤ 5 * l.length % 8 then 2 else if ckV l ≠ c then 8 else if restV l ≠ 0 then 2 else 0) ∧ (rdT T).dropLast.map Int.toNat = l := by
  have e1 : (rdT T).dropLast.map Int.toNat = l := by
    rw [h, List.map_append, List.map_cons, List.map_nil, List.dropLast_concat, List.map_map]
    have : (Int.toNat ∘ fun v : Nat => (v : Int)) = id := by funext v; simp
    rw [this, List.map_id]
  have e2 : (rdT T).getLastD 0 = (c : Int) := by rw [h, List.map_append, List.map_cons, List.map_nil]; simp
  have e3 : (rdT T).length - 1 = l.length := by rw [h]; simp
  refine ⟨?_, e1⟩
  unfold fromE
  rw [if_neg (by rintro (h1 | h1); · rw [h] at h1; simp at h1
                 · exact h1 hok), e1, e2, e3]
  have hiff : ((ckV l : Int) ≠ (c : Int)) ↔ (ckV l ≠ c) := by
    constructor
    · intro h1 h2; exact h1 (by rw [h2])
    · intro h1 h2; exact h1 (by omega)
  simp only [hiff]
end WL
end Go.Proofs.Ytohemcdcmlngiaa
