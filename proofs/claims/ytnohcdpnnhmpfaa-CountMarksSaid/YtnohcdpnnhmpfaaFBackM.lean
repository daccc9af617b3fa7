/-
  The way back: back undoes quarter, quarter undoes back; so Unstir and Stir undo each other. No program in sight.
-/
import Derived.Test.YtnohcdpnnhmpfaaBBase
namespace Go.Proofs.Ytnohcdpnnhmpfaa.FM
open Go.RowKit ML

theorem rot_rot (x : U) (m n : Nat) (h : m + n = 32) (hm : 0 < m) (hn : 0 < n) : (x.rotateRight m).rotateRight n = x := by
  apply BitVec.eq_of_getLsbD_eq
  intro i hi
  simp only [BitVec.getLsbD_rotateRight, Nat.mod_eq_of_lt (show n < 32 by omega), Nat.mod_eq_of_lt (show m < 32 by omega), Bool.cond_decide]
  by_cases h1 : i < 32 - n
  · rw [if_pos h1, if_neg (by omega)]
    simp only [show n + i < 32 by omega, decide_true, Bool.true_and]
    congr 1; omega
  · rw [if_neg h1, if_pos (by omega)]
    simp only [hi, decide_true, Bool.true_and]
    congr 1; omega
theorem xor_back (a b : U) : (a ^^^ b) ^^^ b = a := by rw [BitVec.xor_assoc, BitVec.xor_self, BitVec.xor_zero]
/-- four words written -/
def put4 (V : List U) (a b c d : Nat) (xa xb xc xd : U) : List U := (((V.set a xa).set b xb).set c xc).set d xd
theorem put4_length (V : List U) (a b c d : Nat) (xa xb xc xd : U) : (put4 V a b c d xa xb xc xd).length = V.length := by simp [put4]
theorem ext16 (V W : List U) (h : V.length = W.length) (hg : ∀ j, j < V.length → V.getD j 0 = W.getD j 0) : V = W := by
  apply List.ext_getElem h
  intro i h1 h2
  have := hg i h1
  simpa [List.getD_eq_getElem?_getD, h1, h2] using this
theorem getD_set (V : List U) (i j : Nat) (x : U) (h : i < V.length) : (V.set i x).getD j 0 = if i = j then x else V.getD j 0 := by
  by_cases e : i = j
  · subst e; rw [if_pos rfl, getD_set_eq _ _ _ h]
  · rw [if_neg e, getD_set_ne _ _ _ _ e]

theorem put4_get (V : List U) (a b c d : Nat) (xa xb xc xd : U) (hl : V.length = 16) (D : Dist a b c d) (j : Nat) :
    (put4 V a b c d xa xb xc xd).getD j 0 = if d = j then xd else if c = j then xc else if b = j then xb else if a = j then xa else V.getD j 0 := by
  unfold put4
  rw [getD_set _ _ _ _ (by simp [hl, D.ld]), getD_set _ _ _ _ (by simp [hl, D.lc]), getD_set _ _ _ _ (by simp [hl, D.lb]), getD_set _ _ _ _ (by simp [hl, D.la])]
theorem put4_put4 (V : List U) (a b c d : Nat) (xa xb xc xd ya yb yc yd : U) (hl : V.length = 16) (D : Dist a b c d) :
    put4 (put4 V a b c d xa xb xc xd) a b c d ya yb yc yd = put4 V a b c d ya yb yc yd := by
  refine ext16 _ _ (by simp [put4_length]) (fun j _ => ?_)
  rw [put4_get _ _ _ _ _ _ _ _ _ (by rw [put4_length, hl]) D, put4_get _ _ _ _ _ _ _ _ _ hl D, put4_get _ _ _ _ _ _ _ _ _ hl D]
  repeat' split
  all_goals rfl
theorem put4_same (V : List U) (a b c d : Nat) (hl : V.length = 16) (D : Dist a b c d) :
    put4 V a b c d (V.getD a 0) (V.getD b 0) (V.getD c 0) (V.getD d 0) = V := by
  refine ext16 _ _ (by simp [put4_length]) (fun j _ => ?_)
  rw [put4_get _ _ _ _ _ _ _ _ _ hl D]
  repeat' split
  all_goals (first | (subst_vars; rfl))
theorem put4_gets (V : List U) (a b c d : Nat) (xa xb xc xd : U) (hl : V.length = 16) (D : Dist a b c d) :
    (put4 V a b c d xa xb xc xd).getD a 0 = xa ∧ (put4 V a b c d xa xb xc xd).getD b 0 = xb ∧ (put4 V a b c d xa xb xc xd).getD c 0 = xc ∧ (put4 V a b c d xa xb xc xd).getD d 0 = xd := by
  refine ⟨?_, ?_, ?_, ?_⟩ <;> rw [put4_get _ _ _ _ _ _ _ _ _ hl D]
  · rw [if_neg D.ad.symm, if_neg D.ac.symm, if_neg D.ab.symm, if_pos rfl]
  · rw [if_neg D.bd.symm, if_neg D.bc.symm, if_pos rfl]
  · rw [if_neg D.cd.symm, if_pos rfl]
  · rw [if_pos rfl]
/-- eight words written in two rounds: the last of each counts -/
theorem set8_q (V : List U) (a b c d : Nat) (xa xb xc xd ya yb yc yd : U) (hl : V.length = 16) (D : Dist a b c d) :
    (((((((V.set a xa).set d xd).set c xc).set b xb).set a ya).set d yd).set c yc).set b yb = put4 V a b c d ya yb yc yd := by
  refine ext16 _ _ (by simp [put4_length]) (fun j _ => ?_)
  rw [put4_get _ _ _ _ _ _ _ _ _ hl D]
  rw [getD_set _ _ _ _ (by simp [hl, D.lb]), getD_set _ _ _ _ (by simp [hl, D.lc]), getD_set _ _ _ _ (by simp [hl, D.ld]), getD_set _ _ _ _ (by simp [hl, D.la]),
    getD_set _ _ _ _ (by simp [hl, D.lb]), getD_set _ _ _ _ (by simp [hl, D.lc]), getD_set _ _ _ _ (by simp [hl, D.ld]), getD_set _ _ _ _ (by simp [hl, D.la])]
  have := D.ab; have := D.ac; have := D.ad; have := D.bc; have := D.bd; have := D.cd
  repeat' split
  all_goals first | rfl | omega
theorem set8_b (V : List U) (a b c d : Nat) (xa xb xc xd ya yb yc yd : U) (hl : V.length = 16) (D : Dist a b c d) :
    (((((((V.set b xb).set c xc).set d xd).set a xa).set b yb).set c yc).set d yd).set a ya = put4 V a b c d ya yb yc yd := by
  refine ext16 _ _ (by simp [put4_length]) (fun j _ => ?_)
  rw [put4_get _ _ _ _ _ _ _ _ _ hl D]
  rw [getD_set _ _ _ _ (by simp [hl, D.la]), getD_set _ _ _ _ (by simp [hl, D.ld]), getD_set _ _ _ _ (by simp [hl, D.lc]), getD_set _ _ _ _ (by simp [hl, D.lb]),
    getD_set _ _ _ _ (by simp [hl, D.la]), getD_set _ _ _ _ (by simp [hl, D.ld]), getD_set _ _ _ _ (by simp [hl, D.lc]), getD_set _ _ _ _ (by simp [hl, D.lb])]
  have := D.ab; have := D.ac; have := D.ad; have := D.bc; have := D.bd; have := D.cd
  repeat' split
  all_goals first | rfl | omega

theorem back_quarter (V : List U) (a b c d : Nat) (x y : U) (hl : V.length = 16) (D : Dist a b c d) : backL (quarterL V a b c d x y) a b c d x y = V := by
  have h : quarterL V a b c d x y = _ := set8_q V a b c d _ _ _ _ _ _ _ _ hl D
  rw [h]
  unfold backL
  rw [set8_b _ _ _ _ _ _ _ _ _ _ _ _ _ (by rw [put4_length, hl]) D, put4_put4 _ _ _ _ _ _ _ _ _ _ _ _ _ hl D]
  have g1 := fun xa xb xc xd => (put4_gets V a b c d xa xb xc xd hl D).1
  have g2 := fun xa xb xc xd => (put4_gets V a b c d xa xb xc xd hl D).2.1
  have g3 := fun xa xb xc xd => (put4_gets V a b c d xa xb xc xd hl D).2.2.1
  have g4 := fun xa xb xc xd => (put4_gets V a b c d xa xb xc xd hl D).2.2.2
  simp only [g1, g2, g3, g4]
  refine Eq.trans ?_ (put4_same V a b c d hl D)
  simp only [rot_rot _ 7 25 rfl (by decide) (by decide), rot_rot _ 8 24 rfl (by decide) (by decide), rot_rot _ 12 20 rfl (by decide) (by decide), rot_rot _ 16 16 rfl (by decide) (by decide),
    xor_back, BitVec.add_sub_cancel]
theorem quarter_back (V : List U) (a b c d : Nat) (x y : U) (hl : V.length = 16) (D : Dist a b c d) : quarterL (backL V a b c d x y) a b c d x y = V := by
  have h : backL V a b c d x y = _ := set8_b V a b c d _ _ _ _ _ _ _ _ hl D
  rw [h]
  unfold quarterL
  rw [set8_q _ _ _ _ _ _ _ _ _ _ _ _ _ (by rw [put4_length, hl]) D, put4_put4 _ _ _ _ _ _ _ _ _ _ _ _ _ hl D]
  have g1 := fun xa xb xc xd => (put4_gets V a b c d xa xb xc xd hl D).1
  have g2 := fun xa xb xc xd => (put4_gets V a b c d xa xb xc xd hl D).2.1
  have g3 := fun xa xb xc xd => (put4_gets V a b c d xa xb xc xd hl D).2.2.1
  have g4 := fun xa xb xc xd => (put4_gets V a b c d xa xb xc xd hl D).2.2.2
  simp only [g1, g2, g3, g4]
  refine Eq.trans ?_ (put4_same V a b c d hl D)
  simp only [rot_rot _ 25 7 rfl (by decide) (by decide), rot_rot _ 24 8 rfl (by decide) (by decide), rot_rot _ 20 12 rfl (by decide) (by decide), rot_rot _ 16 16 rfl (by decide) (by decide),
    xor_back, BitVec.sub_add_cancel]

theorem b_q (V M : List U) (k : Nat) (hl : V.length = 16) : bstep (qstep V M k) M k = V := back_quarter _ _ _ _ _ _ _ hl (dist _)
theorem q_b (V M : List U) (k : Nat) (hl : V.length = 16) : qstep (bstep V M k) M k = V := quarter_back _ _ _ _ _ _ _ hl (dist _)

theorem un_stir_step (V M : List U) (hl : V.length = 16) : ∀ k, k ≤ 80 → unK (stirK V M 80) M k = stirK V M (80 - k)
  | 0, _ => rfl
  | k + 1, h => by
    rw [unK, un_stir_step V M hl k (by omega), show 80 - k = (79 - k) + 1 by omega, stirK, show 79 - (k) = 79 - k by rfl, b_q _ _ _ (by rw [length_stirK, hl])]
    congr 1; omega
theorem un_stir (V M : List U) (hl : V.length = 16) : unK (stirK V M 80) M 80 = V := un_stir_step V M hl 80 (by omega)
theorem stir_un_step (V M : List U) (hl : V.length = 16) : ∀ k, k ≤ 80 → stirK (unK V M 80) M k = unK V M (80 - k)
  | 0, _ => rfl
  | k + 1, h => by
    rw [stirK, stir_un_step V M hl k (by omega), show 80 - k = (79 - k) + 1 by omega, unK, show 79 - (79 - k) = k by omega, q_b _ _ _ (by rw [length_unK, hl])]
    congr 1; omega
theorem stir_un (V M : List U) (hl : V.length = 16) : stirK (unK V M 80) M 80 = V := stir_un_step V M hl 80 (by omega)
theorem stir_inj (V W M : List U) (hV : V.length = 16) (hW : W.length = 16) : stirK V M 80 = stirK W M 80 ↔ V = W :=
  ⟨fun h => by rw [← un_stir V M hV, h, un_stir W M hW], fun h => by rw [h]⟩

end Go.Proofs.Ytnohcdpnnhmpfaa.FM
