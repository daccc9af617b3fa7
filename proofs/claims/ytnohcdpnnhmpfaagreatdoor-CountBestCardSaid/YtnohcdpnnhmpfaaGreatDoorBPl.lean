/-
  Chapter 13: plain law: the strengths of the strongest ways.
  Chapter 13: plain law: the least set that beats all others.
  Chapter 13: plain law: the sets that are grown, and all sets.
-/
import Derived.Test.YtnohcdpnnhmpfaaGreatDoorBBase
namespace Go.Proofs.YtnohcdpnnhmpfaaGreatDoor
set_option linter.unusedVariables false

namespace CT
/-- a matrix, by places -/
abbrev Mx := Nat → Nat → Int
/-- how strongly i beats j -/
def edge (p : Mx) (i j : Nat) : Int := if p j i < p i j then p i j else 0
/-- there is a way from i to j whose steps are all of strength s at the least -/
inductive Way (e : Mx) (n : Nat) (s : Int) : Nat → Nat → Prop
  | one {i j} : i < n → j < n → s ≤ e i j → Way e n s i j
  | more {i k j} : Way e n s i k → j < n → s ≤ e k j → Way e n s i j
theorem Way.lt {e : Mx} {n : Nat} {s : Int} {i j : Nat} (h : Way e n s i j) : i < n ∧ j < n := by
  induction h with
  | one h1 h2 _ => exact ⟨h1, h2⟩
  | more _ h2 _ ih => exact ⟨ih.1, h2⟩
theorem Way.trans {e : Mx} {n : Nat} {s : Int} {i k j : Nat} (h : Way e n s i k) (h2 : Way e n s k j) : Way e n s i j := by
  induction h2 with
  | one _ h2 h3 => exact h.more h2 h3
  | more _ h2 h3 ih => exact ih.more h2 h3
theorem Way.mono {e : Mx} {n : Nat} {s t : Int} {i j : Nat} (h : Way e n s i j) (ht : t ≤ s) : Way e n t i j := by
  induction h with
  | one h1 h2 h3 => exact .one h1 h2 (by omega)
  | more _ h2 h3 ih => exact ih.more h2 (by omega)
/-- the strengths of the strongest ways -/
structure Strong (e : Mx) (n : Nat) (w : Mx) : Prop where
  zero : ∀ i, i < n → w i i = 0
  nn : ∀ i j, i < n → j < n → 0 ≤ w i j
  is : ∀ i j, i < n → j < n → i ≠ j → ∀ s, 0 < s → (s ≤ w i j ↔ Way e n s i j)
theorem Strong.unique {e : Mx} {n : Nat} {w w' : Mx} (h : Strong e n w) (h' : Strong e n w') (i j : Nat) (hi : i < n) (hj : j < n) : w i j = w' i j := by
  by_cases hij : i = j
  · subst hij; rw [h.zero i hi, h'.zero i hi]
  · have h1 := h.nn i j hi hj
    have h2 := h'.nn i j hi hj
    by_cases a : 0 < w i j
    · have := (h'.is i j hi hj hij _ a).2 ((h.is i j hi hj hij _ a).1 (Int.le_refl _))
      have b : 0 < w' i j := by omega
      have := (h.is i j hi hj hij _ b).2 ((h'.is i j hi hj hij _ b).1 (Int.le_refl _))
      omega
    · by_cases b : 0 < w' i j
      · have := (h.is i j hi hj hij _ b).2 ((h'.is i j hi hj hij _ b).1 (Int.le_refl _))
        omega
      · omega
/-- what holds all along: nothing is told that is not -/
structure Sound (e : Mx) (n : Nat) (w : Mx) : Prop where
  zero : ∀ i, i < n → w i i = 0
  nn : ∀ i j, i < n → j < n → 0 ≤ w i j
  way : ∀ i j, i < n → j < n → i ≠ j → 0 < w i j → Way e n (w i j) i j
def upd (w : Mx) (i j : Nat) (v : Int) : Mx := fun a b => if a = i ∧ b = j then v else w a b
theorem Sound.upd {e : Mx} {n : Nat} {w : Mx} (h : Sound e n w) {i j : Nat} {v : Int} (hij : i ≠ j) (h0 : 0 ≤ v) (hw : 0 < v → Way e n v i j) : Sound e n (upd w i j v) := by
  refine ⟨fun a ha => ?_, fun a b ha hb => ?_, fun a b ha hb hab hp => ?_⟩
  · unfold CT.upd; rw [if_neg (by omega)]; exact h.zero a ha
  · unfold CT.upd; split
    · exact h0
    · exact h.nn a b ha hb
  · unfold CT.upd at hp ⊢
    split
    · rename_i hc; rw [if_pos hc] at hp; obtain ⟨rfl, rfl⟩ := hc; exact hw hp
    · rename_i hc; rw [if_neg hc] at hp; exact h.way a b ha hb hab hp
/-- closed under one step more (what the reference ends with) -/
theorem strong_of_step {e : Mx} {n : Nat} {w : Mx} (h : Sound e n w) (h1 : ∀ i j, i < n → j < n → i ≠ j → e i j ≤ w i j) (h2 : ∀ i j k, i < n → j < n → k < n → i ≠ j → k ≠ i → min (w i k) (e k j) ≤ w i j) : Strong e n w := by
  have key : ∀ i j s, 0 < s → Way e n s i j → i ≠ j → s ≤ w i j := by
    intro i j s hs hw
    induction hw with
    | one ha hb h3 => intro hij; have := h1 _ _ ha hb hij; omega
    | @more k b hk hb h3 ih =>
      intro hij
      have hkn := hk.lt
      by_cases hki : k = i
      · subst hki; have := h1 k b hkn.2 hb hij; omega
      · have c := ih (Ne.symm hki)
        have d := h2 i b k hkn.1 hb hkn.2 hij hki
        omega
  exact ⟨h.zero, h.nn, fun i j hi hj hij s hs => ⟨fun hw => (h.way i j hi hj hij (by omega)).mono hw, fun hw => key i j s hs hw hij⟩⟩
/-- closed under the first m as places between -/
def Closed (n : Nat) (w : Mx) (m : Nat) : Prop := ∀ i j k, i < n → j < n → k < n → k < m → i ≠ j → min (w i k) (w k j) ≤ w i j
theorem mm_le (ij ik kj im mj mk km : Int) (c1 : min ik kj ≤ ij) (c2 : min ik km ≤ im) (c3 : min mk kj ≤ mj) : min (max ik (min im mk)) (max kj (min km mj)) ≤ max ij (min im mj) := by
  generalize hs : min (max ik (min im mk)) (max kj (min km mj)) = s
  have h1 : s ≤ ik ∨ (s ≤ im ∧ s ≤ mk) := by
    have : s ≤ max ik (min im mk) := by rw [← hs]; exact Int.min_le_left _ _
    omega
  have h2 : s ≤ kj ∨ (s ≤ km ∧ s ≤ mj) := by
    have : s ≤ max kj (min km mj) := by rw [← hs]; exact Int.min_le_right _ _
    omega
  clear hs
  rcases h1 with h1 | ⟨h1, h1'⟩ <;> rcases h2 with h2 | ⟨h2, h2'⟩ <;> omega
theorem closed_step {n m : Nat} {w w' : Mx} (hm : m < n) (hz : ∀ i, i < n → w i i = 0) (hnn : ∀ i j, i < n → j < n → 0 ≤ w i j) (hs : ∀ i j, i < n → j < n → i ≠ j → w' i j = max (w i j) (min (w i m) (w m j))) (hz' : ∀ i, i < n → w' i i = 0) (hc : Closed n w m) : Closed n w' (m + 1) := by
  intro i j k hi hj hk hkm hij
  have e1 := hs i j hi hj hij
  by_cases hik : i = k
  · subst hik
    have := hz' i hi
    have a := hnn i j hi hj
    omega
  by_cases hkj : k = j
  · subst hkj
    have := hz' k hk
    have a := hnn i k hi hk
    omega
  have e2 := hs i k hi hk hik
  have e3 := hs k j hk hj hkj
  have zm := hz m hm
  have nij := hnn i j hi hj
  have nik := hnn i k hi hk
  have nkj := hnn k j hk hj
  have nim := hnn i m hi hm
  have nmj := hnn m j hm hj
  have nmk := hnn m k hm hk
  have nkm := hnn k m hk hm
  by_cases hkm2 : k = m
  · subst hkm2
    omega
  · have hlt : k < m := by omega
    have c1 := hc i j k hi hj hk hlt hij
    by_cases him : i = m
    · subst him; omega
    · by_cases hjm : j = m
      · subst hjm; omega
      · have c2 := hc i m k hi hm hk hlt him
        have c3 := hc m j k hm hj hk hlt (Ne.symm hjm)
        rw [e1, e2, e3]
        exact mm_le _ _ _ _ _ _ _ c1 c2 c3
theorem strong_of_closed {e : Mx} {n : Nat} {w : Mx} (h : Sound e n w) (h1 : ∀ i j, i < n → j < n → i ≠ j → e i j ≤ w i j) (h2 : Closed n w n) : Strong e n w :=
  strong_of_step h h1 (fun i j k hi hj hk hij hki => by
    by_cases hkj : k = j
    · subst hkj; omega
    · have := h2 i j k hi hj hk hk hij
      have := h1 k j hk hj hkj
      omega)
/-- the strongest ways' strengths are passed on -/
theorem Strong.closed {e : Mx} {n : Nat} {w : Mx} (h : Strong e n w) : Closed n w n := by
  intro i j k hi hj hk _ hij
  by_cases hik : i = k
  · subst hik; have := h.zero i hi; have := h.nn i j hi hj; omega
  by_cases hkj : k = j
  · subst hkj; have := h.zero k hk; have := h.nn i k hi hk; omega
  have a := h.nn i k hi hk
  have b := h.nn k j hk hj
  have c := h.nn i j hi hj
  by_cases hs : 0 < min (w i k) (w k j)
  · exact (h.is i j hi hj hij _ hs).2 (((h.is i k hi hk hik _ hs).1 (by omega)).trans ((h.is k j hk hj hkj _ hs).1 (by omega)))
  · omega
end CT
end Go.Proofs.YtnohcdpnnhmpfaaGreatDoor
namespace Go.Proofs.YtnohcdpnnhmpfaaGreatDoor
set_option linter.unusedVariables false

namespace CT
/-- i beats j -/
def beats (p : Nat → Nat → Int) (i j : Nat) : Prop := p j i < p i j
/-- whoever is in D beats all who are not -/
def Dom (p : Nat → Nat → Int) (n : Nat) (D : List Nat) : Prop := (∀ i ∈ D, i < n) ∧ ∀ i ∈ D, ∀ j, j < n → j ∉ D → beats p i j
theorem Dom.chain {p : Nat → Nat → Int} {n : Nat} {A B : List Nat} (ha : Dom p n A) (hb : Dom p n B) : (∀ x ∈ A, x ∈ B) ∨ (∀ x ∈ B, x ∈ A) := by
  by_cases h : ∀ x ∈ A, x ∈ B
  · exact .inl h
  · right
    intro b hbB
    by_cases hbA : b ∈ A
    · exact hbA
    · exfalso
      have h' : ∃ a, a ∈ A ∧ a ∉ B := by
        refine Classical.byContradiction fun hn => h fun x hx => Classical.byContradiction fun hxB => hn ⟨x, hx, hxB⟩
      obtain ⟨a, haA, haB⟩ := h'
      have h1 := ha.2 a haA b (hb.1 b hbB) hbA
      have h2 := hb.2 b hbB a (ha.1 a haA) haB
      unfold beats at h1 h2
      omega
theorem subset_len : ∀ {A B : List Nat}, A.Nodup → (∀ x ∈ A, x ∈ B) → A.length ≤ B.length ∧ (B.length ≤ A.length → A.Perm B)
  | [], B, _, _ => ⟨Nat.zero_le _, fun h => by
    have : B = [] := List.length_eq_zero_iff.1 (Nat.le_zero.1 h)
    rw [this]⟩
  | a :: A, B, hA, h => by
    obtain ⟨h1, h2⟩ := List.nodup_cons.1 hA
    have haB : a ∈ B := h a (by simp)
    have hp := List.perm_cons_erase haB
    have hl : (B.erase a).length = B.length - 1 := List.length_erase_of_mem haB
    have hB0 : 0 < B.length := List.length_pos_of_mem haB
    have ih := subset_len (B := B.erase a) h2 (fun x hx => by
      have hne : x ≠ a := fun e => h1 (e ▸ hx)
      exact (List.mem_erase_of_ne hne).2 (h x (by simp [hx])))
    refine ⟨by rw [List.length_cons]; omega, fun hle => ?_⟩
    rw [List.length_cons] at hle
    exact ((ih.2 (by omega)).cons a).trans hp.symm
theorem same_of_len {A B : List Nat} (hA : A.Nodup) (h : ∀ x ∈ A, x ∈ B) (hl : B.length ≤ A.length) : A.Perm B := (subset_len hA h).2 hl
/-- of one length there is one such set at the most -/
theorem Dom.perm {p : Nat → Nat → Int} {n : Nat} {A B : List Nat} (ha : Dom p n A) (hb : Dom p n B) (hA : A.Nodup) (hB : B.Nodup) (hl : A.length = B.length) : A.Perm B := by
  rcases ha.chain hb with h | h
  · exact same_of_len hA h (by omega)
  · exact (same_of_len hB h (by omega)).symm
/-- the least one with i in it: each that is in it is beaten by none outside -/
structure Clo (p : Nat → Nat → Int) (n i : Nat) (D : List Nat) : Prop where
  dom : Dom p n D
  mem : i ∈ D
  nd : D.Nodup
  least : ∀ B, Dom p n B → i ∈ B → ∀ x ∈ D, x ∈ B
/-- the least of all -/
structure Smallest (p : Nat → Nat → Int) (n : Nat) (D : List Nat) : Prop where
  dom : Dom p n D
  ne : D ≠ []
  nd : D.Nodup
  least : ∀ B, Dom p n B → B ≠ [] → B.Nodup → D.length ≤ B.length
theorem Smallest.perm {p : Nat → Nat → Int} {n : Nat} {A B : List Nat} (ha : Smallest p n A) (hb : Smallest p n B) : A.Perm B :=
  ha.dom.perm hb.dom ha.nd hb.nd (Nat.le_antisymm (ha.least B hb.dom hb.ne hb.nd) (hb.least A ha.dom ha.ne ha.nd))
/-- the shortest of the closures is the smallest set -/
theorem smallest_of_clo {p : Nat → Nat → Int} {n : Nat} {D : List Nat} {i : Nat} (h : Clo p n i D) (hm : ∀ j B, j < n → Clo p n j B → D.length ≤ B.length) (hex : ∀ j, j < n → ∃ B, Clo p n j B) : Smallest p n D := by
  refine ⟨h.dom, List.ne_nil_of_mem h.mem, h.nd, fun B hB hne hBn => ?_⟩
  obtain ⟨b, hb⟩ := List.exists_mem_of_ne_nil B hne
  obtain ⟨C, hC⟩ := hex b (hB.1 b hb)
  exact Nat.le_trans (hm b C (hB.1 b hb) hC) (subset_len hC.nd (hC.least B hB hb)).1
end CT
end Go.Proofs.YtnohcdpnnhmpfaaGreatDoor
namespace Go.Proofs.YtnohcdpnnhmpfaaGreatDoor
set_option linter.unusedVariables false

namespace CT
theorem Clo.len {p : Nat → Nat → Int} {n i : Nat} {A B : List Nat} (ha : Clo p n i A) (hb : Clo p n i B) : A.length = B.length :=
  Nat.le_antisymm (subset_len ha.nd (ha.least B hb.dom hb.mem)).1 (subset_len hb.nd (hb.least A ha.dom ha.mem)).1
/-- whom i's set reaches, as far as it was looked at: the first k of D -/
structure BfsI (p : Nat → Nat → Int) (n i : Nat) (D : List Nat) (k : Nat) : Prop where
  nd : D.Nodup
  mem : i ∈ D
  bd : ∀ x ∈ D, x < n
  clo : ∀ t (h : t < D.length), t < k → ∀ j, j < n → j ∉ D → beats p D[t] j
  least : ∀ B, Dom p n B → i ∈ B → ∀ x ∈ D, x ∈ B
structure BfsJ (p : Nat → Nat → Int) (n i : Nat) (D : List Nat) (k j : Nat) : Prop where
  inv : BfsI p n i D k
  lt : k < D.length
  row : ∀ c, c < j → c < n → c ∉ D → beats p D[k] c
theorem BfsI.start {p : Nat → Nat → Int} {n i : Nat} (h : i < n) : BfsI p n i [i] 0 :=
  ⟨by simp, by simp, fun x hx => by rw [List.mem_singleton.1 hx]; exact h, fun t _ h0 => absurd h0 (Nat.not_lt_zero _), fun B _ hB x hx => by rw [List.mem_singleton.1 hx]; exact hB⟩
theorem BfsI.len {p : Nat → Nat → Int} {n i : Nat} {D : List Nat} {k : Nat} (h : BfsI p n i D k) : D.length ≤ n := by
  have := (subset_len (B := List.range n) h.nd (fun x hx => List.mem_range.2 (h.bd x hx))).1
  rwa [List.length_range] at this
theorem BfsI.begin_ {p : Nat → Nat → Int} {n i : Nat} {D : List Nat} {k : Nat} (h : BfsI p n i D k) (hk : k < D.length) : BfsJ p n i D k 0 := ⟨h, hk, fun c hc => absurd hc (Nat.not_lt_zero _)⟩
theorem BfsJ.skip {p : Nat → Nat → Int} {n i : Nat} {D : List Nat} {k j : Nat} (h : BfsJ p n i D k j) (hs : beats p (D[k]'h.lt) j ∨ j ∈ D) : BfsJ p n i D k (j + 1) :=
  ⟨h.inv, h.lt, fun c hc hn hD => by
    by_cases e : c = j
    · subst e; exact hs.elim id (fun h => absurd h hD)
    · exact h.row c (by omega) hn hD⟩
theorem BfsJ.add {p : Nat → Nat → Int} {n i : Nat} {D : List Nat} {k j : Nat} (h : BfsJ p n i D k j) (hj : j < n) (hb : ¬ beats p (D[k]'h.lt) j) (hD : j ∉ D) : BfsJ p n i (D ++ [j]) k (j + 1) := by
  have hl : k < (D ++ [j]).length := by simp; have := h.lt; omega
  have hk : (D ++ [j])[k] = D[k]'h.lt := List.getElem_append_left h.lt
  refine ⟨⟨?_, by simp [h.inv.mem], fun x hx => ?_, fun t ht htk c hc hcD => ?_, fun B hB hi x hx => ?_⟩, hl, fun c hc hn hcD => ?_⟩
  · rw [List.nodup_append]
    exact ⟨h.inv.nd, by simp, fun a ha b hb e => by rw [List.mem_singleton.1 hb] at e; subst e; exact hD ha⟩
  · rcases List.mem_append.1 hx with hx | hx
    · exact h.inv.bd x hx
    · rw [List.mem_singleton.1 hx]; exact hj
  · have ht2 : t < D.length := by have := h.lt; omega
    have e : (D ++ [j])[t] = D[t] := List.getElem_append_left ht2
    rw [e]
    exact h.inv.clo t ht2 htk c hc (fun hc2 => hcD (List.mem_append_left _ hc2))
  · rcases List.mem_append.1 hx with hx | hx
    · exact h.inv.least B hB hi x hx
    · rw [List.mem_singleton.1 hx]
      exact Classical.byContradiction fun hn => hb (hB.2 _ (h.inv.least B hB hi _ (List.getElem_mem h.lt)) j hj hn)
  · rw [hk]
    by_cases e : c = j
    · subst e; exact absurd (List.mem_append_right _ (List.mem_singleton.2 rfl)) hcD
    · exact h.row c (by omega) hn (fun hc2 => hcD (List.mem_append_left _ hc2))
theorem BfsJ.next {p : Nat → Nat → Int} {n i : Nat} {D : List Nat} {k : Nat} (h : BfsJ p n i D k n) : BfsI p n i D (k + 1) :=
  ⟨h.inv.nd, h.inv.mem, h.inv.bd, fun t ht htk c hc hcD => by
    by_cases e : t = k
    · subst e; exact h.row c hc hc hcD
    · exact h.inv.clo t ht (by omega) c hc hcD, h.inv.least⟩
theorem BfsI.done {p : Nat → Nat → Int} {n i : Nat} {D : List Nat} (h : BfsI p n i D D.length) : Clo p n i D :=
  ⟨⟨h.bd, fun x hx j hj hjD => by
    obtain ⟨t, ht, rfl⟩ := List.mem_iff_getElem.1 hx
    exact h.clo t ht ht j hj hjD⟩, h.mem, h.nd, h.least⟩
/-- the shortest of the closures so far -/
structure BestD (p : Nat → Nat → Int) (n i : Nat) (D : List Nat) : Prop where
  is : ∃ i0, i0 < i ∧ Clo p n i0 D
  le : ∀ j, j < i → ∀ B, Clo p n j B → D.length ≤ B.length
  ex : ∀ j, j < i → ∃ B, Clo p n j B
theorem BestD.first {p : Nat → Nat → Int} {n : Nat} {D : List Nat} (h : Clo p n 0 D) : BestD p n 1 D :=
  ⟨⟨0, by omega, h⟩, fun j hj B hB => by obtain rfl : j = 0 := by omega
                                         exact Nat.le_of_eq (h.len hB), fun j hj => by obtain rfl : j = 0 := by omega
                                                                                       exact ⟨D, h⟩⟩
theorem BestD.turn {p : Nat → Nat → Int} {n i : Nat} {D E : List Nat} (h : BestD p n i D) (he : Clo p n i E) (hl : E.length < D.length) : BestD p n (i + 1) E :=
  ⟨⟨i, by omega, he⟩, fun j hj B hB => by
    by_cases e : j = i
    · subst e; exact Nat.le_of_eq (he.len hB)
    · exact Nat.le_trans (Nat.le_of_lt hl) (h.le j (by omega) B hB), fun j hj => by
    by_cases e : j = i
    · subst e; exact ⟨E, he⟩
    · exact h.ex j (by omega)⟩
theorem BestD.stay {p : Nat → Nat → Int} {n i : Nat} {D E : List Nat} (h : BestD p n i D) (he : Clo p n i E) (hl : ¬ E.length < D.length) : BestD p n (i + 1) D :=
  ⟨(by obtain ⟨i0, h1, h2⟩ := h.is; exact ⟨i0, by omega, h2⟩), fun j hj B hB => by
    by_cases e : j = i
    · subst e; rw [← he.len hB]; omega
    · exact h.le j (by omega) B hB, fun j hj => by
    by_cases e : j = i
    · subst e; exact ⟨E, he⟩
    · exact h.ex j (by omega)⟩
theorem BestD.small {p : Nat → Nat → Int} {n : Nat} {D : List Nat} (h : BestD p n n D) : Smallest p n D := by
  obtain ⟨i, hi, hc⟩ := h.is
  exact smallest_of_clo hc (fun j B hj hB => h.le j hj B hB) h.ex
theorem BestD.bd {p : Nat → Nat → Int} {n i : Nat} {D : List Nat} (h : BestD p n i D) : (∀ x ∈ D, x < n) ∧ D.Nodup ∧ D.length ≤ n ∧ D ≠ [] := by
  obtain ⟨i0, _, hc⟩ := h.is
  have := (subset_len (B := List.range n) hc.nd (fun x hx => List.mem_range.2 (hc.dom.1 x hx))).1
  rw [List.length_range] at this
  exact ⟨hc.dom.1, hc.nd, this, List.ne_nil_of_mem hc.mem⟩
/-! ### all sets -/
def bitB (s i : Nat) : Bool := s / 2 ^ i % 2 == 1
def bitsL (n s : Nat) : List Nat := (List.range n).filter (bitB s)
theorem bits_ex (n : Nat) (f : Nat → Bool) : ∃ s, s < 2 ^ n ∧ ∀ i, i < n → bitB s i = f i := by
  induction n with
  | zero => exact ⟨0, by simp, fun i hi => absurd hi (Nat.not_lt_zero _)⟩
  | succ n ih =>
    obtain ⟨s, hs, hf⟩ := ih
    cases hn : f n with
    | false =>
      refine ⟨s, by rw [Nat.pow_succ]; omega, fun i hi => ?_⟩
      by_cases e : i = n
      · subst e; rw [hn]; unfold bitB; rw [Nat.div_eq_of_lt hs]; rfl
      · exact hf i (by omega)
    | true =>
      refine ⟨s + 2 ^ n, by rw [Nat.pow_succ]; omega, fun i hi => ?_⟩
      by_cases e : i = n
      · subst e; rw [hn]; unfold bitB
        rw [Nat.add_div_right _ (Nat.two_pow_pos i), Nat.div_eq_of_lt hs]; rfl
      · rw [← hf i (by omega)]
        unfold bitB
        have e2 : 2 ^ n = 2 ^ i * (2 * 2 ^ (n - i - 1)) := by
          rw [← Nat.mul_assoc, ← Nat.pow_succ, ← Nat.pow_add]; congr 1; omega
        rw [e2, Nat.add_mul_div_left _ _ (Nat.two_pow_pos i), Nat.add_mul_mod_self_left]
theorem bitsL_srt (n s : Nat) : (bitsL n s).Pairwise (· < ·) := List.Pairwise.filter _ List.pairwise_lt_range
theorem bitsL_bd (n s : Nat) : ∀ x ∈ bitsL n s, x < n := fun x hx => List.mem_range.1 (List.mem_filter.1 hx).1
theorem bitsL_nd (n s : Nat) : (bitsL n s).Nodup := (bitsL_srt n s).imp (fun {a b} h e => by omega)
theorem bits_of (n : Nat) (B : List Nat) (hB : ∀ x ∈ B, x < n) (hn : B.Nodup) : ∃ s, s < 2 ^ n ∧ (bitsL n s).Perm B := by
  obtain ⟨s, hs, hf⟩ := bits_ex n (fun i => decide (i ∈ B))
  refine ⟨s, hs, same_of_len (bitsL_nd n s) (fun x hx => ?_) ?_⟩
  · obtain ⟨h1, h2⟩ := List.mem_filter.1 hx
    rw [hf x (List.mem_range.1 h1)] at h2
    exact of_decide_eq_true h2
  · refine (subset_len hn (fun x hx => ?_)).1
    exact List.mem_filter.2 ⟨List.mem_range.2 (hB x hx), by rw [hf x (hB x hx)]; exact decide_eq_true hx⟩
theorem bitsL_zero (n : Nat) : bitsL n 0 = [] := by
  unfold bitsL
  rw [List.filter_eq_nil_iff]
  intro i _
  simp [bitB]
def domB (p : Nat → Nat → Int) (n : Nat) (l : List Nat) : Bool := l.all fun i => (List.range n).all fun j => decide (j ∈ l) || decide (p j i < p i j)
theorem domB_iff {p : Nat → Nat → Int} {n : Nat} {l : List Nat} (hl : ∀ x ∈ l, x < n) : domB p n l = true ↔ Dom p n l := by
  unfold domB Dom beats
  rw [List.all_eq_true]
  constructor
  · intro h
    refine ⟨hl, fun i hi j hj hjl => ?_⟩
    have := List.all_eq_true.1 (h i hi) j (List.mem_range.2 hj)
    rw [Bool.or_eq_true] at this
    rcases this with h1 | h1
    · exact absurd (of_decide_eq_true h1) hjl
    · exact of_decide_eq_true h1
  · rintro ⟨_, h⟩ i hi
    rw [List.all_eq_true]
    intro j hj
    rw [Bool.or_eq_true]
    by_cases hjl : j ∈ l
    · exact .inl (decide_eq_true hjl)
    · exact .inr (decide_eq_true (h i hi j (List.mem_range.1 hj) hjl))
theorem Dom.perm_iff {p : Nat → Nat → Int} {n : Nat} {A B : List Nat} (h : A.Perm B) (ha : Dom p n A) : Dom p n B :=
  ⟨fun x hx => ha.1 x (h.mem_iff.2 hx), fun i hi j hj hjB => ha.2 i (h.mem_iff.2 hi) j hj (fun hj2 => hjB (h.mem_iff.1 hj2))⟩
/-- no set with fewer than m beats all others -/
def NoneL (p : Nat → Nat → Int) (n m : Nat) : Prop := ∀ s, 1 ≤ s → s < 2 ^ n → (bitsL n s).length < m → domB p n (bitsL n s) = false
theorem small_of_none {p : Nat → Nat → Int} {n m s : Nat} (h : NoneL p n m) (hs0 : 1 ≤ s) (hs : s < 2 ^ n) (hl : (bitsL n s).length = m) (hd : domB p n (bitsL n s) = true) (hm : 0 < m) : Smallest p n (bitsL n s) := by
  refine ⟨(domB_iff (bitsL_bd n s)).1 hd, fun e => by rw [e] at hl; simp at hl; omega, bitsL_nd n s, fun B hB hne hBn => ?_⟩
  refine Classical.byContradiction fun hlt => ?_
  obtain ⟨t, ht, hp⟩ := bits_of n B hB.1 hBn
  have ht0 : 1 ≤ t := by
    refine Nat.pos_of_ne_zero fun e => ?_
    subst e
    rw [bitsL_zero] at hp
    exact hne (List.nil_perm.1 hp)
  have h2 := h t ht0 ht (by rw [hp.length_eq]; omega)
  rw [(domB_iff (bitsL_bd n t)).2 (Dom.perm_iff hp.symm hB)] at h2
  cases h2
/-- the set of all is there in the end -/
theorem none_all {p : Nat → Nat → Int} {n : Nat} (hn : 0 < n) (h : NoneL p n (n + 1)) : False := by
  obtain ⟨t, ht, hp⟩ := bits_of n (List.range n) (fun x hx => List.mem_range.1 hx) List.nodup_range
  have hd : Dom p n (List.range n) := ⟨fun x hx => List.mem_range.1 hx, fun i _ j hj hjn => absurd (List.mem_range.2 hj) hjn⟩
  have ht0 : 1 ≤ t := by
    refine Nat.pos_of_ne_zero fun e => ?_
    subst e
    rw [bitsL_zero] at hp
    have := hp.length_eq
    simp at this; omega
  have h2 := h t ht0 ht (by rw [hp.length_eq, List.length_range]; omega)
  rw [(domB_iff (bitsL_bd n t)).2 (Dom.perm_iff hp.symm hd)] at h2
  cases h2
theorem perm_srt {A B : List Nat} (h : A.Perm B) (ha : A.Pairwise (· < ·)) (hb : B.Pairwise (· < ·)) : A = B :=
  h.eq_of_pairwise (fun a b _ _ h1 h2 => by omega) ha hb
end CT
end Go.Proofs.YtnohcdpnnhmpfaaGreatDoor
