/-
  A number's text out of its limbs: nine digits each, the zeros ahead cut off. Plain law.
-/
import Derived.Test.YtkkpfoidppjbdaaDoorLParseD
namespace Go.Proofs.YtkkpfoidppjbdaaDoor
set_option linter.unusedVariables false
set_option linter.unusedSimpArgs false
open Go.RowKit ML FM

/-- the k lowest digits -/
def padK : Nat → Nat → List Nat
  | 0, _ => []
  | k + 1, l => l % 10 :: padK k (l / 10)
theorem length_padK (k : Nat) : ∀ l, (padK k l).length = k := by
  induction k with
  | zero => intro l; rfl
  | succ k ih => intro l; simp [padK, ih]
theorem getD_padK (k : Nat) : ∀ l j, j < k → (padK k l).getD j 0 = l / 10 ^ j % 10 := by
  induction k with
  | zero => intro l j hj; omega
  | succ k ih =>
    intro l j hj
    cases j with
    | zero => simp [padK]
    | succ j =>
      have e := ih (l / 10) j (by omega)
      simp only [padK, List.getD_cons_succ]
      rw [e, Nat.div_div_eq_div_mul, Nat.pow_succ, Nat.mul_comm 10]
theorem all_padK (k : Nat) : ∀ l, ND.AllD (padK k l) := by
  induction k with
  | zero => intro l d hd; cases hd
  | succ k ih =>
    intro l d hd
    rcases List.mem_cons.1 hd with rfl | hd
    · omega
    · exact ih _ d hd
theorem val_padK (k : Nat) : ∀ l, l < 10 ^ k → ND.val (padK k l) = l := by
  induction k with
  | zero => intro l hl; simp at hl; subst hl; rfl
  | succ k ih =>
    intro l hl
    rw [Nat.pow_succ] at hl
    simp only [padK, ND.val]
    rw [ih (l / 10) (by omega)]
    omega
def padD : List Nat → List Nat
  | [] => []
  | l :: r => padK 9 l ++ padD r
theorem length_padD (L : List Nat) : (padD L).length = 9 * L.length := by
  induction L with
  | nil => rfl
  | cons l r ih => simp [padD, length_padK, ih]; omega
theorem getD_padD (L : List Nat) : ∀ i k, i < L.length → k < 9 → (padD L).getD (9 * i + k) 0 = L.getD i 0 / 10 ^ k % 10 := by
  induction L with
  | nil => intro i k hi; simp at hi
  | cons l r ih =>
    intro i k hi hk
    cases i with
    | zero =>
      have := getD_padK 9 l k hk
      rw [← show (padK 9 l ++ padD r).getD k 0 = (padK 9 l).getD k 0 by
        rw [List.getD_eq_getElem?_getD, List.getElem?_append_left (by rw [length_padK]; exact hk), ← List.getD_eq_getElem?_getD]] at this
      simpa [padD] using this
    | succ i =>
      have e := ih i k (by simpa using hi) hk
      have e2 : (padK 9 l ++ padD r).getD (9 * (i + 1) + k) 0 = (padD r).getD (9 * i + k) 0 := by
        rw [List.getD_eq_getElem?_getD, List.getElem?_append_right (by rw [length_padK]; omega), length_padK, ← List.getD_eq_getElem?_getD]
        rw [show 9 * (i + 1) + k - 9 = 9 * i + k by omega]
      rw [List.getD_cons_succ]
      exact e2.trans e
theorem all_padD (L : List Nat) : ND.AllD (padD L) := by
  induction L with
  | nil => intro d hd; cases hd
  | cons l r ih =>
    intro d hd
    rcases List.mem_append.1 hd with hd | hd
    · exact all_padK 9 l d hd
    · exact ih d hd
theorem val_padD (L : List Nat) (h : NL.AllD L) : ND.val (padD L) = NL.val L := by
  induction L with
  | nil => rfl
  | cons l r ih =>
    have hl := h l (List.mem_cons_self ..)
    have hr := ih (fun x hx => h x (List.mem_cons_of_mem _ hx))
    unfold padD
    rw [ND.val_append, length_padK, val_padK 9 l (by omega), hr, NL.val]
/-- the bytes that are written -/
def padB (L : List Nat) : Bytes := (padD L).reverse.map fun d => UInt8.ofNat (d + 48)
theorem length_padB (L : List Nat) : (padB L).length = 9 * L.length := by simp [padB, length_padD]
theorem getD_padB (L : List Nat) (i k : Nat) (hi : i < L.length) (hk : k < 9) (h : 9 * L.length - 1 - (9 * i + k) < (padB L).length) : (padB L)[9 * L.length - 1 - (9 * i + k)] = UInt8.ofNat (L.getD i 0 / 10 ^ k % 10 + 48) := by
  rw [← getD_padD L i k hi hk]
  have hj : 9 * i + k < (padD L).length := by rw [length_padD]; omega
  simp only [padB, List.getElem_map, List.getElem_reverse]
  congr 2
  rw [List.getD_eq_getElem?_getD, List.getElem?_eq_getElem hj]
  simp only [Option.getD_some]
  congr 1
  rw [length_padD]
  omega
theorem mem_tw {α : Type} (p : α → Bool) (l : List α) : ∀ b ∈ l.takeWhile p, p b = true := by
  induction l with
  | nil => intro b hb; simp at hb
  | cons a r ih =>
    intro b hb
    rw [List.takeWhile_cons] at hb
    split at hb
    · rcases List.mem_cons.1 hb with rfl | hb
      · assumption
      · exact ih b hb
    · simp at hb
theorem drop_trim (L : List Nat) (h : ND.AllD L) : L.reverse.dropWhile (fun d => d == 0) = (ND.trimL L).reverse := by
  obtain ⟨k, hk⟩ : ∃ k, k = (L.reverse.dropWhile (fun d => d == 0)).length := ⟨_, rfl⟩
  have hsplit := List.takeWhile_append_dropWhile (p := fun d => d == 0) (l := L.reverse)
  have hT : L.reverse.takeWhile (fun d => d == 0) = List.replicate (L.reverse.takeWhile (fun d => d == 0)).length 0 := by
    apply List.eq_replicate_iff.2
    refine ⟨rfl, fun b hb => ?_⟩
    have := mem_tw _ _ b hb
    simpa using this
  generalize hA : L.reverse.takeWhile (fun d => d == 0) = A at *
  generalize hB : L.reverse.dropWhile (fun d => d == 0) = B at *
  have hL : L = B.reverse ++ A.reverse := by
    have := congrArg List.reverse hsplit
    rw [List.reverse_append, List.reverse_reverse] at this
    exact this.symm
  have hAr : A.reverse = List.replicate A.length 0 := by rw [hT]; simp
  have ht := ND.take_trim L k h (by rw [hL, List.length_append, List.length_reverse]; omega) (fun i hi => by
    rw [hL, List.getD_eq_getElem?_getD, List.getElem?_append_right (by rw [List.length_reverse]; omega), hAr, List.getElem?_replicate]
    split <;> rfl) (by
    by_cases hk0 : k = 0
    · exact .inl hk0
    · refine .inr ?_
      cases hBq : B with
      | nil => rw [hBq] at hk; simp at hk; exact absurd hk hk0
      | cons b r =>
        have hb0 : (b == 0) = false := by
          have := List.head_dropWhile_not (p := fun d => d == 0) (l := L.reverse) (by rw [hB, hBq]; simp)
          simpa [hB, hBq] using this
        rw [hBq, List.length_cons] at hk
        rw [hL, hBq, List.reverse_cons, List.getD_eq_getElem?_getD, List.append_assoc, List.getElem?_append_right (by rw [List.length_reverse]; omega), List.length_reverse, hk]
        simp
        simpa using hb0)
  have htk : L.take k = B.reverse := by
    conv => lhs; rw [hL]
    rw [hk, ← List.length_reverse, List.take_left]
  rw [← ht, htk, List.reverse_reverse]
theorem padB_trim (n : Nat) (h : n ≠ 0) : (padB (NL.dig n)).dropWhile (fun c => c == 48) = strD n := by
  unfold padB strD digB
  rw [if_neg h, List.dropWhile_map]
  have hp : ∀ l : List Nat, ND.AllD l → l.dropWhile ((fun c : UInt8 => c == 48) ∘ fun d => UInt8.ofNat (d + 48)) = l.dropWhile (fun d => d == 0) := by
    intro l
    induction l with
    | nil => intro _; rfl
    | cons a r ih =>
      intro hA
      have ha := hA a (List.mem_cons_self ..)
      have e : ((fun c : UInt8 => c == 48) ∘ fun d => UInt8.ofNat (d + 48)) a = (a == 0) := by
        have : a = 0 ∨ a = 1 ∨ a = 2 ∨ a = 3 ∨ a = 4 ∨ a = 5 ∨ a = 6 ∨ a = 7 ∨ a = 8 ∨ a = 9 := by omega
        rcases this with rfl | rfl | rfl | rfl | rfl | rfl | rfl | rfl | rfl | rfl <;> rfl
      rw [List.dropWhile_cons, List.dropWhile_cons, e]
      split
      · exact ih (fun x hx => hA x (List.mem_cons_of_mem _ hx))
      · rfl
  rw [hp _ (fun d hd => all_padD _ d (List.mem_reverse.1 hd)), drop_trim _ (all_padD _)]
  unfold ND.trimL
  rw [val_padD _ (NL.all_dig n), NL.val_dig]
/-- what is left once c is cut off ahead -/
theorem drop_while {S : Bytes} {c : UInt8} : ∀ k, k ≤ S.length → (∀ i, i < k → byteN S i = c.toNat) → (k = S.length ∨ byteN S k ≠ c.toNat) → S.drop k = S.dropWhile (fun x => x == c) := by
  induction S with
  | nil => intro k hk _ _; simp
  | cons a r ih =>
    intro k hk h1 h2
    cases k with
    | zero =>
      rcases h2 with h2 | h2
      · simp at h2
      · have : (a == c) = false := by
          rw [beq_eq_false_iff_ne]
          intro e
          apply h2
          rw [e]
          simp [byteN]
        rw [List.dropWhile_cons, this]
        simp
    | succ k =>
      have ha : (a == c) = true := by
        rw [beq_iff_eq]
        apply UInt8.toNat_inj.1
        simpa [byteN] using h1 0 (by omega)
      rw [List.dropWhile_cons, ha, List.drop_succ_cons]
      simp only [if_true]
      refine ih k (by simpa using hk) (fun i hi => by simpa [byteN] using h1 (i + 1) (by omega)) ?_
      rcases h2 with h2 | h2
      · exact .inl (by simpa using h2)
      · exact .inr (by simpa [byteN] using h2)
end Go.Proofs.YtkkpfoidppjbdaaDoor
