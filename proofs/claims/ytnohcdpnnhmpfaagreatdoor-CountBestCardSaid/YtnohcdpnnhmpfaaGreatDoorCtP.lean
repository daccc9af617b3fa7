/-
  Chapter 13: plain laws: the order of bytes; a row sorted by insertion; the order of lots.
-/
import Derived.Test.YtnohcdpnnhmpfaaGreatDoorBBase
namespace Go.Proofs.YtnohcdpnnhmpfaaGreatDoor
set_option linter.unusedVariables false
open FM

namespace CT
theorem bl_irrefl (x : List UInt8) : Op.bytesLess x x = false := by
  induction x with
  | nil => rfl
  | cons a r ih => simp [Op.bytesLess, ih]
theorem bl_trans : ∀ (x y z : List UInt8), Op.bytesLess x y = true → Op.bytesLess y z = true → Op.bytesLess x z = true
  | _, _, [], _, h => by cases ‹List UInt8› <;> simp [Op.bytesLess] at h
  | _, [], _ :: _, h, _ => by cases ‹List UInt8› <;> simp [Op.bytesLess] at h
  | [], _ :: _, _ :: _, _, _ => rfl
  | a :: x, b :: y, c :: z, h1, h2 => by
    simp only [Op.bytesLess, Bool.or_eq_true, decide_eq_true_eq, Bool.and_eq_true, beq_iff_eq] at h1 h2 ⊢
    rcases h1 with h1 | ⟨rfl, h1⟩
    · rcases h2 with h2 | ⟨rfl, h2⟩
      · exact .inl (UInt8.lt_trans h1 h2)
      · exact .inl h1
    · rcases h2 with h2 | ⟨rfl, h2⟩
      · exact .inl h2
      · exact .inr ⟨rfl, bl_trans x y z h1 h2⟩
theorem bl_tri : ∀ (x y : List UInt8), Op.bytesLess x y = false → Op.bytesLess y x = false → x = y
  | [], [], _, _ => rfl
  | [], _ :: _, h, _ => by simp [Op.bytesLess] at h
  | _ :: _, [], _, h => by simp [Op.bytesLess] at h
  | a :: x, b :: y, h1, h2 => by
    simp only [Op.bytesLess, Bool.or_eq_false_iff, decide_eq_false_iff_not, Bool.and_eq_false_iff, beq_eq_false_iff_ne] at h1 h2
    have hab : a = b := UInt8.le_antisymm (UInt8.not_lt.1 h2.1) (UInt8.not_lt.1 h1.1)
    subst hab
    rw [bl_tri x y (h1.2.resolve_left (fun h => h rfl)) (h2.2.resolve_left (fun h => h rfl))]
theorem bl_asymm (x y : List UInt8) (h : Op.bytesLess x y = true) : Op.bytesLess y x = false := by
  cases hb : Op.bytesLess y x with
  | false => rfl
  | true => have := bl_trans x y x h hb; rw [bl_irrefl] at this; cases this
def cmpB (x y : List UInt8) : Int := if Op.bytesLess x y = true then -1 else if Op.bytesLess y x = true then 1 else 0
theorem bl_gt (x y : List UInt8) : (!(Op.bytesLess x y || x == y)) = Op.bytesLess y x := by
  cases h1 : Op.bytesLess x y with
  | true => simp [bl_asymm x y h1]
  | false =>
    cases h2 : Op.bytesLess y x with
    | true =>
      have : x ≠ y := by rintro rfl; rw [bl_irrefl] at h2; cases h2
      simp [this]
    | false => simp [bl_tri x y h1 h2]
theorem cmpB_neg (x y : List UInt8) : decide (cmpB x y < 0) = Op.bytesLess x y := by
  unfold cmpB
  cases h1 : Op.bytesLess x y with
  | true => simp
  | false => cases h2 : Op.bytesLess y x <;> simp

/-- one more, laid into a sorted row -/
theorem pw_ins {α : Type} {le : α → α → Prop} (tr : ∀ a b c, le a b → le b c → le a c) (A C : List α) (x : α) (h : (A ++ C).Pairwise le) (hc : ∀ y ∈ C, le x y) (ha : ∀ A' z, A = A' ++ [z] → le z x) : (A ++ x :: C).Pairwise le := by
  obtain ⟨h1, h2, h3⟩ := List.pairwise_append.1 h
  refine List.pairwise_append.2 ⟨h1, List.pairwise_cons.2 ⟨hc, h2⟩, fun a hA b hb => ?_⟩
  rcases List.mem_cons.1 hb with rfl | hb
  · rcases List.eq_nil_or_concat A with rfl | ⟨A', z, rfl⟩
    · cases hA
    · rw [List.concat_eq_append] at hA h1
      have hz := ha A' z (by simp)
      rcases List.mem_append.1 hA with h | h
      · exact tr _ _ _ ((List.pairwise_append.1 h1).2.2 a h z (by simp)) hz
      · obtain rfl : a = z := by simpa using h
        exact hz
  · exact h3 a hA b hb
theorem swap_list {α : Type} (A : List α) (y x : α) (R : List α) : ((A ++ y :: x :: R).set (A.length + 1) y).set A.length x = A ++ x :: y :: R := by
  induction A with
  | nil => rfl
  | cons a A ih => simp only [List.cons_append, List.length_cons, List.set_cons_succ, ih]
def iota (n : Nat) : List Int := (List.range n).map fun k : Nat => (k : Int)
theorem length_iota (n : Nat) : (iota n).length = n := by simp [iota]
theorem iota_snoc (n : Nat) : iota (n + 1) = iota n ++ [(n : Int)] := by simp [iota, List.range_succ]
theorem mem_iota (n : Nat) (x : Int) : x ∈ iota n ↔ 0 ≤ x ∧ x < n := by
  simp only [iota, List.mem_map, List.mem_range]
  constructor
  · rintro ⟨k, hk, rfl⟩; omega
  · rintro ⟨h1, h2⟩; exact ⟨x.toNat, by omega, by omega⟩
/-- is option a drawn ahead of option b? -/
def ltL (lot : Int → List UInt8) (a b : Int) : Prop := Op.bytesLess (lot a) (lot b) = true ∨ lot a = lot b ∧ a < b
theorem ltL_trans (lot : Int → List UInt8) (a b c : Int) (h1 : ltL lot a b) (h2 : ltL lot b c) : ltL lot a c := by
  rcases h1 with h1 | ⟨e1, h1⟩ <;> rcases h2 with h2 | ⟨e2, h2⟩
  · exact .inl (bl_trans _ _ _ h1 h2)
  · exact .inl (e2 ▸ h1)
  · exact .inl (e1.symm ▸ h2)
  · exact .inr ⟨e1.trans e2, by omega⟩
theorem ltL_asymm (lot : Int → List UInt8) (a b : Int) (h1 : ltL lot a b) (h2 : ltL lot b a) : False := by
  rcases h1 with h1 | ⟨e1, h1⟩ <;> rcases h2 with h2 | ⟨e2, h2⟩
  · rw [bl_asymm _ _ h1] at h2; cases h2
  · rw [e2, bl_irrefl] at h1; cases h1
  · rw [e1, bl_irrefl] at h2; cases h2
  · omega
theorem ltL_total (lot : Int → List UInt8) (a b : Int) (hne : a ≠ b) (h : ¬ ltL lot a b) : ltL lot b a := by
  unfold ltL at *
  cases h1 : Op.bytesLess (lot a) (lot b) with
  | true => exact absurd (.inl h1) h
  | false =>
    cases h2 : Op.bytesLess (lot b) (lot a) with
    | true => exact .inl rfl
    | false =>
      have e := bl_tri _ _ h1 h2
      exact .inr ⟨e.symm, by
        have : ¬ a < b := fun hl => h (.inr ⟨e, hl⟩)
        omega⟩
def aheadB (lot : Int → List UInt8) (a b : Int) : Bool := Op.bytesLess (lot a) (lot b) || (lot a == lot b && decide (a < b))
theorem aheadB_iff (lot : Int → List UInt8) (a b : Int) : aheadB lot a b = true ↔ ltL lot a b := by
  simp [aheadB, ltL, Bool.or_eq_true]
/-- options, as they are drawn -/
structure Ord (n : Nat) (lot : Int → List UInt8) (O : List Int) : Prop where
  perm : O.Perm (iota n)
  srt : O.Pairwise (ltL lot)
theorem Ord.unique {n : Nat} {lot : Int → List UInt8} {O O' : List Int} (h : Ord n lot O) (h' : Ord n lot O') : O = O' :=
  List.Perm.eq_of_pairwise (fun a b _ _ h1 h2 => (ltL_asymm lot a b h1 h2).elim) h.srt h'.srt (h.perm.trans h'.perm.symm)
theorem Ord.len {n : Nat} {lot : Int → List UInt8} {O : List Int} (h : Ord n lot O) : O.length = n := by rw [h.perm.length_eq, length_iota]
theorem Ord.mem {n : Nat} {lot : Int → List UInt8} {O : List Int} (h : Ord n lot O) {x : Int} : x ∈ O ↔ 0 ≤ x ∧ x < n := by rw [h.perm.mem_iff, mem_iota]
/-- one more, from the left -/
theorem Ord.ins {n : Nat} {lot : Int → List UInt8} {A C : List Int} (h : Ord n lot (A ++ C)) (ha : ∀ a ∈ A, ltL lot a n) (hc : ∀ c C', C = c :: C' → ¬ ltL lot c n) : Ord (n + 1) lot (A ++ (n : Int) :: C) := by
  constructor
  · rw [iota_snoc]
    refine (List.perm_middle).trans ?_
    exact ((List.Perm.cons _ h.perm).trans (List.perm_append_comm (l₁ := [(n : Int)]) (l₂ := iota n)))
  · refine pw_ins (ltL_trans lot) A C _ h.srt (fun y hy => ?_) (fun A' z e => ha z (by simp [e]))
    cases C with
    | nil => cases hy
    | cons c C' =>
      have hcn : c ≠ (n : Int) := by
        have := (h.mem (x := c)).1 (by simp)
        omega
      have h1 := ltL_total lot c n hcn (hc c C' rfl)
      rcases List.mem_cons.1 hy with rfl | hy
      · exact h1
      · exact ltL_trans lot _ _ _ h1 ((List.pairwise_cons.1 (List.pairwise_append.1 h.srt).2.1).1 y hy)
theorem iota_lt (n : Nat) : (iota n).Pairwise (· < ·) := by
  induction n with
  | zero => exact List.Pairwise.nil
  | succ n ih =>
    rw [iota_snoc]
    refine List.pairwise_append.2 ⟨ih, List.pairwise_singleton _ _, fun a ha b hb => ?_⟩
    obtain rfl : b = (n : Int) := by simpa using hb
    exact ((mem_iota n a).1 ha).2
theorem iota_cmp (n : Nat) (lot : Int → List UInt8) : (iota n).Pairwise fun y x => (cmpB (lot x) (lot y) < 0 → ltL lot x y) ∧ (0 ≤ cmpB (lot x) (lot y) → ltL lot y x) := by
  refine (iota_lt n).imp (fun {y x} h => ⟨fun hc => ?_, fun hc => ?_⟩)
  · have := cmpB_neg (lot x) (lot y)
    rw [decide_eq_true hc] at this
    exact .inl this.symm
  · refine ltL_total lot x y (by omega) ?_
    rintro (h1 | ⟨h1, h2⟩)
    · have := cmpB_neg (lot x) (lot y)
      rw [h1, decide_eq_false (by omega)] at this
      cases this
    · omega
/-- the first k places are set -/
structure PlaceK (n : Nat) (O P : List Int) (k : Nat) : Prop where
  len : P.length = n
  at_ : ∀ j (h : j < O.length), j < k → P[O[j].toNat]? = some (j : Int)
theorem PlaceK.zero {n : Nat} {O P : List Int} (h : P.length = n) : PlaceK n O P 0 := ⟨h, fun j _ h => by omega⟩
theorem PlaceK.succ {n k : Nat} {lot : Int → List UInt8} {O P : List Int} (h : PlaceK n O P k) (ho : Ord n lot O) (hk : k < O.length) : PlaceK n O (P.set O[k].toNat (k : Int)) (k + 1) := by
  refine ⟨by simp [h.len], fun j hj hjk => ?_⟩
  have hb := ho.mem.1 (List.getElem_mem hk)
  by_cases e : j = k
  · subst e
    rw [List.getElem?_set_self (by rw [h.len]; omega)]
  · have hlt : j < k := by omega
    have hne : O[j] ≠ O[k] := fun he => by
      have := List.pairwise_iff_getElem.1 ho.srt j k hj hk hlt
      rw [he] at this
      exact ltL_asymm lot _ _ this this
    have hb2 := ho.mem.1 (List.getElem_mem hj)
    rw [List.getElem?_set_ne (by omega)]
    exact h.at_ j hj hlt
theorem PlaceK.all {n : Nat} {O P : List Int} (h : PlaceK n O P O.length) : P.length = n ∧ ∀ k (hk : k < O.length), P[O[k].toNat]? = some (k : Int) := ⟨h.len, fun k hk => h.at_ k hk hk⟩
theorem Ord.ins_at {n : Nat} {lot : Int → List UInt8} {O : List Int} (h : Ord n lot O) (m : Nat) (ha : ∀ a ∈ O.take m, ltL lot a n) (hc : ∀ c C', O.drop m = c :: C' → ¬ ltL lot c n) : Ord (n + 1) lot (O.take m ++ (n : Int) :: O.drop m) :=
  Ord.ins (by rw [List.take_append_drop]; exact h) ha hc
end CT
end Go.Proofs.YtnohcdpnnhmpfaaGreatDoor
