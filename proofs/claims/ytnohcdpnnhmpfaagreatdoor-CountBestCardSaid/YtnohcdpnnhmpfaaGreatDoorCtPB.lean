/-
  Chapter 13: plain law: who is not beaten by ways.
-/
import Derived.Test.YtnohcdpnnhmpfaaGreatDoorBPl
namespace Go.Proofs.YtnohcdpnnhmpfaaGreatDoor
set_option linter.unusedVariables false

namespace CT
/-- that one way is stronger than the way back is a thing that is passed on -/
theorem Strong.trans_gt {e : Mx} {n : Nat} {w : Mx} (h : Strong e n w) {i j k : Nat} (hi : i < n) (hj : j < n) (hk : k < n) (h1 : w j i < w i j) (h2 : w k j < w j k) : w k i < w i k := by
  have hij : i ≠ j := fun e => by subst e; omega
  have hjk : j ≠ k := fun e => by subst e; omega
  have hik : i ≠ k := fun e => by subst e; omega
  have c := h.closed
  have c1 := c i k j hi hk hj hj hik
  have c2 := c j i k hj hi hk hk (Ne.symm hij)
  have c3 := c k j i hk hj hi hi (Ne.symm hjk)
  have c4 := c k i j hk hi hj hj (Ne.symm hik)
  omega
/-- whoever is not beaten by ways -/
def Top (n : Nat) (w : Mx) (i : Nat) : Prop := i < n ∧ ∀ j, j < n → ¬ w i j < w j i
/-- somebody is not beaten -/
theorem Strong.top_ex {e : Mx} {n : Nat} {w : Mx} (h : Strong e n w) (hn : 0 < n) : ∃ i, Top n w i := by
  have key : ∀ m, m ≤ n → 0 < m → ∃ i, i < m ∧ ∀ j, j < m → ¬ w i j < w j i := by
    intro m
    induction m with
    | zero => intro _ h0; omega
    | succ m ih =>
      intro hm _
      by_cases h0 : m = 0
      · subst h0; exact ⟨0, by omega, fun j hj => by obtain rfl : j = 0 := by omega
                                                     omega⟩
      · obtain ⟨i, hi, hb⟩ := ih (by omega) (by omega)
        by_cases hmi : w i m < w m i
        · refine ⟨m, by omega, fun j hj hlt => ?_⟩
          by_cases e : j = m
          · subst e; omega
          · exact hb j (by omega) (h.trans_gt (by omega) (by omega) (by omega) hlt hmi)
        · refine ⟨i, by omega, fun j hj => ?_⟩
          by_cases e : j = m
          · subst e; exact hmi
          · exact hb j (by omega)
  obtain ⟨i, hi, hb⟩ := key n (Nat.le_refl _) hn
  exact ⟨i, hi, hb⟩
/-- no way leads from outside into a set that beats all others -/
theorem way_out {p : Mx} {n : Nat} {D : List Nat} (hD : Dom p n D) {s : Int} (hs : 0 < s) {i j : Nat} (h : Way (edge p) n s i j) (hi : i ∉ D) : j ∉ D := by
  have step : ∀ a b, a < n → b < n → s ≤ edge p a b → a ∉ D → b ∉ D := by
    intro a b ha hb he ha2 hb2
    have h1 := hD.2 b hb2 a ha ha2
    unfold beats at h1
    unfold edge at he
    rw [if_neg (by omega)] at he
    omega
  induction h with
  | one ha hb h3 => exact step _ _ ha hb h3 hi
  | more h1 hb h3 ih => exact step _ _ h1.lt.2 hb h3 ih
/-- whoever is not beaten by ways is one of those who together beat all others -/
theorem Top.mem {p w : Mx} {n : Nat} (hs : Strong (edge p) n w) (hp : ∀ i j, i < n → j < n → 0 ≤ p i j) {D : List Nat} (hD : Dom p n D) (hne : D ≠ []) {i : Nat} (h : Top n w i) : i ∈ D := by
  refine Classical.byContradiction fun hi => ?_
  obtain ⟨s, hsD⟩ := List.exists_mem_of_ne_nil D hne
  have hsn := hD.1 s hsD
  have hb := hD.2 s hsD i h.1 hi
  unfold beats at hb
  have hsi : s ≠ i := fun e => hi (e ▸ hsD)
  have h0 := hp i s h.1 hsn
  have h1 : 0 < w s i := by
    have he : edge p s i = p s i := by unfold edge; rw [if_pos hb]
    have : p s i ≤ w s i := (hs.is s i hsn h.1 hsi (p s i) (by omega)).2 (.one hsn h.1 (by rw [he]; exact Int.le_refl _))
    omega
  have h2 : w i s ≤ 0 := by
    refine Classical.byContradiction fun hn => ?_
    have := (hs.is i s h.1 hsn (Ne.symm hsi) (w i s) (by omega)).1 (Int.le_refl _)
    exact way_out hD (by omega) this hi hsD
  have h3 := hs.nn i s h.1 hsn
  exact h.2 s hsn (by omega)
/-- whoever beats all others is alone -/
theorem alone {p : Mx} {n i : Nat} (hi : i < n) (h : ∀ j, j < n → i = j ∨ p j i < p i j) {S : List Nat} (hS : Smallest p n S) : S = [i] := by
  have hd : Dom p n [i] := ⟨fun x hx => by rw [List.mem_singleton.1 hx]; exact hi, fun x hx j hj hjn => by
    rw [List.mem_singleton.1 hx]
    rcases h j hj with e | e
    · exact absurd (List.mem_singleton.2 e.symm) hjn
    · exact e⟩
  have hl := hS.least [i] hd (by simp) (by simp)
  have h1 : Smallest p n [i] := ⟨hd, by simp, by simp, fun B _ hne _ => List.length_pos_iff.2 hne⟩
  exact (hS.perm h1).eq_singleton
end CT
end Go.Proofs.YtnohcdpnnhmpfaaGreatDoor
