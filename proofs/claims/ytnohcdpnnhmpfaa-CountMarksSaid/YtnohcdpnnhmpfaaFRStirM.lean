/-
  The reference's steps as plain functions: which words each step takes; eight steps are one quarter. No program in sight.
-/
import Derived.Test.YtnohcdpnnhmpfaaFSteps
namespace Go.Proofs.Ytnohcdpnnhmpfaa.FM
open Go.RowKit ML
set_option linter.unusedSimpArgs false

def sA (n : Nat) : Nat := if n % 4 = 0 then ca (n / 8 % 8) else if n % 4 = 1 then cd (n / 8 % 8) else if n % 4 = 2 then cc (n / 8 % 8) else cb (n / 8 % 8)
def sO (n : Nat) : Nat := if n % 4 = 0 then cb (n / 8 % 8) else if n % 4 = 1 then ca (n / 8 % 8) else if n % 4 = 2 then cd (n / 8 % 8) else cc (n / 8 % 8)
def sM (n : Nat) : Int := if n % 8 = 0 then placeN (n / 8 / 8) (2 * (n / 8 % 8)) else if n % 8 = 4 then placeN (n / 8 / 8) (2 * (n / 8 % 8) + 1) else -1
def sT (n : Nat) : Nat := if n % 8 = 1 then 16 else if n % 8 = 3 then 12 else if n % 8 = 5 then 8 else if n % 8 = 7 then 7 else 0
theorem sA_lt (n : Nat) : sA n < 16 := by
  have D := dist (n / 8 % 8)
  unfold sA; repeat' split
  · exact D.la
  · exact D.ld
  · exact D.lc
  · exact D.lb
theorem sO_lt (n : Nat) : sO n < 16 := by
  have D := dist (n / 8 % 8)
  unfold sO; repeat' split
  · exact D.lb
  · exact D.la
  · exact D.ld
  · exact D.lc
theorem sT_lt (n : Nat) : sT n < 32 := by
  unfold sT; repeat' split
  all_goals decide
theorem sM_lt (n : Nat) (h : n < 640) : sM n < 16 := by
  unfold sM; repeat' split
  · have := placeN_lt (n / 8 / 8) (2 * (n / 8 % 8)) (by omega) (by omega); omega
  · have := placeN_lt (n / 8 / 8) (2 * (n / 8 % 8) + 1) (by omega) (by omega); omega
  · decide
def row4 (n : Nat) : List Int := [(sA n : Int), (sO n : Int), sM n, (sT n : Int)]

theorem stepsK_prefix : ∀ (m k : Nat), k ≤ m → ∃ r, stepsK m = stepsK k ++ r
  | 0, k, h => ⟨[], by obtain rfl : k = 0 := by omega
                       simp⟩
  | m + 1, k, h => by
    rcases Nat.lt_or_ge m k with h1 | h1
    · obtain rfl : k = m + 1 := by omega
      exact ⟨[], by simp⟩
    · obtain ⟨r, hr⟩ := stepsK_prefix m k h1
      exact ⟨r ++ eight m, by rw [stepsK, hr, List.append_assoc]⟩
theorem eight_get (k q r : Nat) (hq : q < 8) (hr : r < 4) : (eight k)[4 * q + r]? = (row4 (8 * k + q))[r]? := by
  unfold row4 sA sO sM sT
  rw [show (8 * k + q) / 8 = k by omega, show (8 * k + q) % 8 = q by omega, show (8 * k + q) % 4 = q % 4 by omega]
  match q, hq with
  | 0, _ => match r, hr with
    | 0, _ => simp [eight, stp]
    | 1, _ => simp [eight, stp]
    | 2, _ => simp [eight, stp]
    | 3, _ => simp [eight, stp]
  | 1, _ => match r, hr with
    | 0, _ => simp [eight, stp]
    | 1, _ => simp [eight, stp]
    | 2, _ => simp [eight, stp]
    | 3, _ => simp [eight, stp]
  | 2, _ => match r, hr with
    | 0, _ => simp [eight, stp]
    | 1, _ => simp [eight, stp]
    | 2, _ => simp [eight, stp]
    | 3, _ => simp [eight, stp]
  | 3, _ => match r, hr with
    | 0, _ => simp [eight, stp]
    | 1, _ => simp [eight, stp]
    | 2, _ => simp [eight, stp]
    | 3, _ => simp [eight, stp]
  | 4, _ => match r, hr with
    | 0, _ => simp [eight, stp]
    | 1, _ => simp [eight, stp]
    | 2, _ => simp [eight, stp]
    | 3, _ => simp [eight, stp]
  | 5, _ => match r, hr with
    | 0, _ => simp [eight, stp]
    | 1, _ => simp [eight, stp]
    | 2, _ => simp [eight, stp]
    | 3, _ => simp [eight, stp]
  | 6, _ => match r, hr with
    | 0, _ => simp [eight, stp]
    | 1, _ => simp [eight, stp]
    | 2, _ => simp [eight, stp]
    | 3, _ => simp [eight, stp]
  | 7, _ => match r, hr with
    | 0, _ => simp [eight, stp]
    | 1, _ => simp [eight, stp]
    | 2, _ => simp [eight, stp]
    | 3, _ => simp [eight, stp]
theorem length_eight (k : Nat) : (eight k).length = 32 := rfl
theorem steps_get (n r : Nat) (hn : n < 640) (hr : r < 4) : (stepsK 80)[4 * n + r]? = (row4 n)[r]? := by
  obtain ⟨t, ht⟩ := stepsK_prefix 80 (n / 8 + 1) (by omega)
  have hl := length_stepsK (n / 8)
  rw [ht, stepsK, List.append_assoc, List.getElem?_append_right (by omega), List.getElem?_append_left (by rw [length_eight]; omega), hl,
    show 4 * n + r - 32 * (n / 8) = 4 * (n % 8) + r by omega, eight_get _ _ _ (by omega) hr, show 8 * (n / 8) + n % 8 = n by omega]

/-- one step of the reference -/
def stepV (V M : List U) (n : Nat) : List U :=
  if 0 < sT n then V.set (sA n) ((V.getD (sA n) 0 ^^^ V.getD (sO n) 0).rotateRight (sT n))
  else if 0 ≤ sM n then (V.set (sA n) (V.getD (sA n) 0 + V.getD (sO n) 0)).set (sA n) ((V.getD (sA n) 0 + V.getD (sO n) 0) + M.getD (sM n).toNat 0)
  else V.set (sA n) (V.getD (sA n) 0 + V.getD (sO n) 0)
def refK (V M : List U) : Nat → List U
  | 0 => V
  | n + 1 => stepV (refK V M n) M n
theorem length_stepV (V M : List U) (n : Nat) : (stepV V M n).length = V.length := by
  unfold stepV; repeat' split
  all_goals simp
theorem length_refK (V M : List U) : ∀ n, (refK V M n).length = V.length
  | 0 => rfl
  | n + 1 => by rw [refK, length_stepV, length_refK V M n]

/-- one step undone -/
def backV (V M : List U) (n : Nat) : List U :=
  if 0 < sT n then V.set (sA n) ((V.getD (sA n) 0).rotateRight (32 - sT n) ^^^ V.getD (sO n) 0)
  else if 0 ≤ sM n then (V.set (sA n) (V.getD (sA n) 0 - V.getD (sO n) 0)).set (sA n) ((V.getD (sA n) 0 - V.getD (sO n) 0) - M.getD (sM n).toNat 0)
  else V.set (sA n) (V.getD (sA n) 0 - V.getD (sO n) 0)
def backK (V M : List U) : Nat → List U
  | 0 => V
  | n + 1 => backV (backK V M n) M (639 - n)
theorem length_backV (V M : List U) (n : Nat) : (backV V M n).length = V.length := by
  unfold backV; repeat' split
  all_goals simp
theorem length_backK (V M : List U) : ∀ n, (backK V M n).length = V.length
  | 0 => rfl
  | n + 1 => by rw [backK, length_backV, length_backK V M n]

theorem stepV_q (V M : List U) (k q : Nat) (hq : q < 8) : stepV V M (8 * k + q) =
    (let i := k % 8
     if q = 0 then (V.set (ca i) (V.getD (ca i) 0 + V.getD (cb i) 0)).set (ca i) ((V.getD (ca i) 0 + V.getD (cb i) 0) + M.getD (placeN (k / 8) (2 * i)) 0)
     else if q = 1 then V.set (cd i) ((V.getD (cd i) 0 ^^^ V.getD (ca i) 0).rotateRight 16)
     else if q = 2 then V.set (cc i) (V.getD (cc i) 0 + V.getD (cd i) 0)
     else if q = 3 then V.set (cb i) ((V.getD (cb i) 0 ^^^ V.getD (cc i) 0).rotateRight 12)
     else if q = 4 then (V.set (ca i) (V.getD (ca i) 0 + V.getD (cb i) 0)).set (ca i) ((V.getD (ca i) 0 + V.getD (cb i) 0) + M.getD (placeN (k / 8) (2 * i + 1)) 0)
     else if q = 5 then V.set (cd i) ((V.getD (cd i) 0 ^^^ V.getD (ca i) 0).rotateRight 8)
     else if q = 6 then V.set (cc i) (V.getD (cc i) 0 + V.getD (cd i) 0)
     else V.set (cb i) ((V.getD (cb i) 0 ^^^ V.getD (cc i) 0).rotateRight 7)) := by
  unfold stepV sA sO sM sT
  rw [show (8 * k + q) / 8 = k by omega, show (8 * k + q) % 8 = q by omega, show (8 * k + q) % 4 = q % 4 by omega]
  match q, hq with
  | 0, _ => simp
  | 1, _ => simp
  | 2, _ => simp
  | 3, _ => simp
  | 4, _ => simp
  | 5, _ => simp
  | 6, _ => simp
  | 7, _ => simp
theorem put4_seta (V : List U) (a b c d : Nat) (xa xb xc xd y : U) (hl : V.length = 16) (D : Dist a b c d) : (put4 V a b c d xa xb xc xd).set a y = put4 V a b c d y xb xc xd := by
  refine ext16 _ _ (by simp [put4_length]) (fun j _ => ?_)
  rw [getD_set _ _ _ _ (by rw [put4_length, hl]; exact D.la), put4_get _ _ _ _ _ _ _ _ _ hl D, put4_get _ _ _ _ _ _ _ _ _ hl D]
  have := D.ab; have := D.ac; have := D.ad
  repeat' split
  all_goals first | rfl | omega
theorem put4_setb (V : List U) (a b c d : Nat) (xa xb xc xd y : U) (hl : V.length = 16) (D : Dist a b c d) : (put4 V a b c d xa xb xc xd).set b y = put4 V a b c d xa y xc xd := by
  refine ext16 _ _ (by simp [put4_length]) (fun j _ => ?_)
  rw [getD_set _ _ _ _ (by rw [put4_length, hl]; exact D.lb), put4_get _ _ _ _ _ _ _ _ _ hl D, put4_get _ _ _ _ _ _ _ _ _ hl D]
  have := D.ab; have := D.bc; have := D.bd
  repeat' split
  all_goals first | rfl | omega
theorem put4_setc (V : List U) (a b c d : Nat) (xa xb xc xd y : U) (hl : V.length = 16) (D : Dist a b c d) : (put4 V a b c d xa xb xc xd).set c y = put4 V a b c d xa xb y xd := by
  refine ext16 _ _ (by simp [put4_length]) (fun j _ => ?_)
  rw [getD_set _ _ _ _ (by rw [put4_length, hl]; exact D.lc), put4_get _ _ _ _ _ _ _ _ _ hl D, put4_get _ _ _ _ _ _ _ _ _ hl D]
  have := D.ac; have := D.bc; have := D.cd
  repeat' split
  all_goals first | rfl | omega
theorem put4_setd (V : List U) (a b c d : Nat) (xa xb xc xd y : U) (hl : V.length = 16) (D : Dist a b c d) : (put4 V a b c d xa xb xc xd).set d y = put4 V a b c d xa xb xc y := by
  refine ext16 _ _ (by simp [put4_length]) (fun j _ => ?_)
  rw [getD_set _ _ _ _ (by rw [put4_length, hl]; exact D.ld), put4_get _ _ _ _ _ _ _ _ _ hl D, put4_get _ _ _ _ _ _ _ _ _ hl D]
  have := D.ad; have := D.bd; have := D.cd
  repeat' split
  all_goals first | rfl | omega
theorem step_put0 (V M : List U) (k : Nat) (xa xb xc xd : U) (hl : V.length = 16) :
    stepV (put4 V (ca (k % 8)) (cb (k % 8)) (cc (k % 8)) (cd (k % 8)) xa xb xc xd) M (8 * k + 0) = put4 V (ca (k % 8)) (cb (k % 8)) (cc (k % 8)) (cd (k % 8)) (xa + (xb + M.getD (placeN (k / 8) (2 * (k % 8))) 0)) xb xc xd := by
  have D := dist (k % 8)
  obtain ⟨g1, g2, g3, g4⟩ := put4_gets V _ _ _ _ xa xb xc xd hl D
  rw [stepV_q _ _ k 0 (by decide)]
  simp only [if_true, if_false, Nat.reduceEqDiff, List.set_set, g1, g2, g3, g4, put4_seta _ _ _ _ _ _ _ _ _ _ hl D, BitVec.add_assoc]
theorem step_put1 (V M : List U) (k : Nat) (xa xb xc xd : U) (hl : V.length = 16) :
    stepV (put4 V (ca (k % 8)) (cb (k % 8)) (cc (k % 8)) (cd (k % 8)) xa xb xc xd) M (8 * k + 1) = put4 V (ca (k % 8)) (cb (k % 8)) (cc (k % 8)) (cd (k % 8)) xa xb xc ((xd ^^^ xa).rotateRight 16) := by
  have D := dist (k % 8)
  obtain ⟨g1, g2, g3, g4⟩ := put4_gets V _ _ _ _ xa xb xc xd hl D
  rw [stepV_q _ _ k 1 (by decide)]
  simp only [if_true, if_false, Nat.reduceEqDiff, List.set_set, g1, g2, g3, g4, put4_setd _ _ _ _ _ _ _ _ _ _ hl D, BitVec.add_assoc]
theorem step_put2 (V M : List U) (k : Nat) (xa xb xc xd : U) (hl : V.length = 16) :
    stepV (put4 V (ca (k % 8)) (cb (k % 8)) (cc (k % 8)) (cd (k % 8)) xa xb xc xd) M (8 * k + 2) = put4 V (ca (k % 8)) (cb (k % 8)) (cc (k % 8)) (cd (k % 8)) xa xb (xc + xd) xd := by
  have D := dist (k % 8)
  obtain ⟨g1, g2, g3, g4⟩ := put4_gets V _ _ _ _ xa xb xc xd hl D
  rw [stepV_q _ _ k 2 (by decide)]
  simp only [if_true, if_false, Nat.reduceEqDiff, List.set_set, g1, g2, g3, g4, put4_setc _ _ _ _ _ _ _ _ _ _ hl D, BitVec.add_assoc]
theorem step_put3 (V M : List U) (k : Nat) (xa xb xc xd : U) (hl : V.length = 16) :
    stepV (put4 V (ca (k % 8)) (cb (k % 8)) (cc (k % 8)) (cd (k % 8)) xa xb xc xd) M (8 * k + 3) = put4 V (ca (k % 8)) (cb (k % 8)) (cc (k % 8)) (cd (k % 8)) xa ((xb ^^^ xc).rotateRight 12) xc xd := by
  have D := dist (k % 8)
  obtain ⟨g1, g2, g3, g4⟩ := put4_gets V _ _ _ _ xa xb xc xd hl D
  rw [stepV_q _ _ k 3 (by decide)]
  simp only [if_true, if_false, Nat.reduceEqDiff, List.set_set, g1, g2, g3, g4, put4_setb _ _ _ _ _ _ _ _ _ _ hl D, BitVec.add_assoc]
theorem step_put4 (V M : List U) (k : Nat) (xa xb xc xd : U) (hl : V.length = 16) :
    stepV (put4 V (ca (k % 8)) (cb (k % 8)) (cc (k % 8)) (cd (k % 8)) xa xb xc xd) M (8 * k + 4) = put4 V (ca (k % 8)) (cb (k % 8)) (cc (k % 8)) (cd (k % 8)) (xa + (xb + M.getD (placeN (k / 8) (2 * (k % 8) + 1)) 0)) xb xc xd := by
  have D := dist (k % 8)
  obtain ⟨g1, g2, g3, g4⟩ := put4_gets V _ _ _ _ xa xb xc xd hl D
  rw [stepV_q _ _ k 4 (by decide)]
  simp only [if_true, if_false, Nat.reduceEqDiff, List.set_set, g1, g2, g3, g4, put4_seta _ _ _ _ _ _ _ _ _ _ hl D, BitVec.add_assoc]
theorem step_put5 (V M : List U) (k : Nat) (xa xb xc xd : U) (hl : V.length = 16) :
    stepV (put4 V (ca (k % 8)) (cb (k % 8)) (cc (k % 8)) (cd (k % 8)) xa xb xc xd) M (8 * k + 5) = put4 V (ca (k % 8)) (cb (k % 8)) (cc (k % 8)) (cd (k % 8)) xa xb xc ((xd ^^^ xa).rotateRight 8) := by
  have D := dist (k % 8)
  obtain ⟨g1, g2, g3, g4⟩ := put4_gets V _ _ _ _ xa xb xc xd hl D
  rw [stepV_q _ _ k 5 (by decide)]
  simp only [if_true, if_false, Nat.reduceEqDiff, List.set_set, g1, g2, g3, g4, put4_setd _ _ _ _ _ _ _ _ _ _ hl D, BitVec.add_assoc]
theorem step_put6 (V M : List U) (k : Nat) (xa xb xc xd : U) (hl : V.length = 16) :
    stepV (put4 V (ca (k % 8)) (cb (k % 8)) (cc (k % 8)) (cd (k % 8)) xa xb xc xd) M (8 * k + 6) = put4 V (ca (k % 8)) (cb (k % 8)) (cc (k % 8)) (cd (k % 8)) xa xb (xc + xd) xd := by
  have D := dist (k % 8)
  obtain ⟨g1, g2, g3, g4⟩ := put4_gets V _ _ _ _ xa xb xc xd hl D
  rw [stepV_q _ _ k 6 (by decide)]
  simp only [if_true, if_false, Nat.reduceEqDiff, List.set_set, g1, g2, g3, g4, put4_setc _ _ _ _ _ _ _ _ _ _ hl D, BitVec.add_assoc]
theorem step_put7 (V M : List U) (k : Nat) (xa xb xc xd : U) (hl : V.length = 16) :
    stepV (put4 V (ca (k % 8)) (cb (k % 8)) (cc (k % 8)) (cd (k % 8)) xa xb xc xd) M (8 * k + 7) = put4 V (ca (k % 8)) (cb (k % 8)) (cc (k % 8)) (cd (k % 8)) xa ((xb ^^^ xc).rotateRight 7) xc xd := by
  have D := dist (k % 8)
  obtain ⟨g1, g2, g3, g4⟩ := put4_gets V _ _ _ _ xa xb xc xd hl D
  rw [stepV_q _ _ k 7 (by decide)]
  simp only [if_true, if_false, Nat.reduceEqDiff, List.set_set, g1, g2, g3, g4, put4_setb _ _ _ _ _ _ _ _ _ _ hl D, BitVec.add_assoc]
theorem quarter_put (V : List U) (a b c d : Nat) (x y : U) (hl : V.length = 16) (D : Dist a b c d) : quarterL V a b c d x y =
    (let va := V.getD a 0; let vb := V.getD b 0; let vc := V.getD c 0; let vd := V.getD d 0
     let a1 := va + (vb + x); let d1 := (vd ^^^ a1).rotateRight 16; let c1 := vc + d1; let b1 := (vb ^^^ c1).rotateRight 12
     let a2 := a1 + (b1 + y); let d2 := (d1 ^^^ a2).rotateRight 8; let c2 := c1 + d2; let b2 := (b1 ^^^ c2).rotateRight 7
     put4 V a b c d a2 b2 c2 d2) := set8_q V a b c d _ _ _ _ _ _ _ _ hl D
theorem ref_quarter (V M : List U) (k : Nat) (hl : V.length = 16) :
    stepV (stepV (stepV (stepV (stepV (stepV (stepV (stepV V M (8 * k + 0)) M (8 * k + 1)) M (8 * k + 2)) M (8 * k + 3)) M (8 * k + 4)) M (8 * k + 5)) M (8 * k + 6)) M (8 * k + 7) = qstep V M k := by
  have D := dist (k % 8)
  have hv : V = put4 V (ca (k % 8)) (cb (k % 8)) (cc (k % 8)) (cd (k % 8)) (V.getD (ca (k % 8)) 0) (V.getD (cb (k % 8)) 0) (V.getD (cc (k % 8)) 0) (V.getD (cd (k % 8)) 0) := (put4_same V _ _ _ _ hl D).symm
  have h0 : stepV V M (8 * k + 0) = _ := (congrArg (fun W => stepV W M (8 * k + 0)) hv).trans (step_put0 V M k _ _ _ _ hl)
  rw [h0, step_put1 _ _ _ _ _ _ _ hl, step_put2 _ _ _ _ _ _ _ hl, step_put3 _ _ _ _ _ _ _ hl, step_put4 _ _ _ _ _ _ _ hl, step_put5 _ _ _ _ _ _ _ hl, step_put6 _ _ _ _ _ _ _ hl, step_put7 _ _ _ _ _ _ _ hl]
  exact (quarter_put V _ _ _ _ _ _ hl D).symm
theorem ref_stir (V M : List U) (hl : V.length = 16) : ∀ k, refK V M (8 * k) = stirK V M k
  | 0 => rfl
  | k + 1 => by
    rw [show 8 * (k + 1) = 8 * k + 1 + 1 + 1 + 1 + 1 + 1 + 1 + 1 by omega]
    simp only [refK]
    rw [ref_stir V M hl k, stirK]
    exact ref_quarter _ _ _ (by rw [length_stirK, hl])
theorem sA_ne_sO (n : Nat) : sA n ≠ sO n := by
  have D := dist (n / 8 % 8)
  unfold sA sO
  by_cases h0 : n % 4 = 0
  · rw [if_pos h0, if_pos h0]; exact D.ab
  by_cases h1 : n % 4 = 1
  · rw [if_neg h0, if_neg h0, if_pos h1, if_pos h1]; exact D.ad.symm
  by_cases h2 : n % 4 = 2
  · rw [if_neg h0, if_neg h0, if_neg h1, if_neg h1, if_pos h2, if_pos h2]; exact D.cd
  · rw [if_neg h0, if_neg h0, if_neg h1, if_neg h1, if_neg h2, if_neg h2]; exact D.bc
theorem set_self (V : List U) (i : Nat) (h : i < V.length) : V.set i (V.getD i 0) = V := by
  refine ext16 _ _ (by simp) (fun j _ => ?_)
  rw [getD_set _ _ _ _ h]
  split
  · subst_vars; rfl
  · rfl
theorem back_step (V M : List U) (n : Nat) (hl : V.length = 16) : backV (stepV V M n) M n = V := by
  have la := sA_lt n
  have hne := sA_ne_sO n
  have ht := sT_lt n
  unfold backV stepV
  by_cases h1 : 0 < sT n
  · simp only [if_pos h1]
    rw [getD_set_eq _ _ _ (by omega), getD_set_ne _ _ _ _ hne, rot_rot _ (sT n) (32 - sT n) (by omega) h1 (by omega), xor_back, List.set_set]
    exact set_self V _ (by omega)
  · simp only [if_neg h1]
    by_cases h2 : 0 ≤ sM n
    · simp only [if_pos h2, List.set_set]
      rw [getD_set_eq _ _ _ (by omega), getD_set_ne _ _ _ _ hne]
      have e : ∀ x o m : U, x + o + m - o - m = x := by
        intro x o m
        rw [BitVec.add_assoc, BitVec.add_comm o m, ← BitVec.add_assoc, BitVec.add_sub_cancel, BitVec.add_sub_cancel]
      rw [e]
      exact set_self V _ (by omega)
    · simp only [if_neg h2, List.set_set]
      rw [getD_set_eq _ _ _ (by omega), getD_set_ne _ _ _ _ hne, BitVec.add_sub_cancel]
      exact set_self V _ (by omega)
theorem back_ref_step (V M : List U) (hl : V.length = 16) : ∀ n, n ≤ 640 → backK (refK V M 640) M n = refK V M (640 - n)
  | 0, _ => rfl
  | n + 1, h => by
    rw [backK, back_ref_step V M hl n (by omega), show 640 - n = (639 - n) + 1 by omega, refK, back_step _ _ _ (by rw [length_refK, hl])]
    congr 1; omega
theorem ref_unstir (V M : List U) (hl : V.length = 16) : backK V M 640 = unK V M 80 := by
  have h1 : refK (unK V M 80) M 640 = V := by
    rw [show 640 = 8 * 80 by rfl, ref_stir _ M (by rw [length_unK, hl]) 80, stir_un V M hl]
  have h2 := back_ref_step (unK V M 80) M (by rw [length_unK, hl]) 640 (by omega)
  rw [h1] at h2
  exact h2
end Go.Proofs.Ytnohcdpnnhmpfaa.FM
