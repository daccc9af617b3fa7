/-
  hustingsref4.FromLetters: plain law: the bits of values, put into bytes one by one.
-/
import Derived.Test.YtohemcdcmlngiaaWFPlain
namespace Go.Proofs.Ytohemcdcmlngiaa
set_option linter.unusedVariables false
set_option linter.unusedSimpArgs false
namespace WL
open ML FM

/-- bit i of the values -/
def bV (l : List Nat) (i : Nat) : Nat := l.getD (i / 5) 0 / 2 ^ (4 - i % 5) % 2
theorem bV_lt (l : List Nat) (i : Nat) : bV l i < 2 := Nat.mod_lt _ (by decide)
def fB (b : Nat → Nat) : Nat → Nat
  | 0 => 0
  | i + 1 => 2 * fB b i + b i
def pB (b : Nat → Nat) (a : Nat) : Nat → Nat
  | 0 => 0
  | k + 1 => 2 * pB b a k + b (a + k)
theorem pB_lt {b : Nat → Nat} (hb : ∀ i, b i < 2) (a k : Nat) : pB b a k < 2 ^ k := by
  induction k with
  | zero => exact Nat.one_pos
  | succ k ih => simp only [pB]; have := hb (a + k); rw [Nat.pow_succ]; omega
theorem pB_mono (b : Nat → Nat) (a k m : Nat) : pB b a k ≤ pB b a (k + m) := by
  induction m with
  | zero => exact Nat.le_refl _
  | succ m ih => rw [← Nat.add_assoc]; simp only [pB]; omega
theorem fB_pB (b : Nat → Nat) (a k : Nat) : fB b (a + k) = fB b a * 2 ^ k + pB b a k := by
  induction k with
  | zero => simp [pB]
  | succ k ih => rw [← Nat.add_assoc]; simp only [fB, pB]; rw [ih, Nat.pow_succ, ← Nat.mul_assoc]; omega
theorem pB_five (l : List Nat) (k : Nat) (h : l.getD k 0 < 32) : pB (bV l) (5 * k) 5 = l.getD k 0 := by
  have e : ∀ j, j < 5 → bV l (5 * k + j) = l.getD k 0 / 2 ^ (4 - j) % 2 := fun j hj => by
    unfold bV; rw [show (5 * k + j) / 5 = k by omega, show (5 * k + j) % 5 = j by omega]
  have e0 := e 0 (by omega)
  simp only [Nat.add_zero] at e0
  simp only [pB, Nat.add_zero]
  rw [e0, e 1 (by omega), e 2 (by omega), e 3 (by omega), e 4 (by omega)]
  generalize l.getD k 0 = x at *
  simp only [Nat.reducePow, Nat.reduceSub]
  omega
theorem fB_five (l : List Nat) (h : AllV l) : ∀ k, k ≤ l.length → fB (bV l) (5 * k) = nV (l.take k) := by
  intro k
  induction k with
  | zero => intro _; simp [fB, nV]
  | succ k ih =>
    intro hk
    have hlt : k < l.length := by omega
    have hg : l.getD k 0 = l[k] := by rw [List.getD_eq_getElem?_getD, List.getElem?_eq_getElem hlt]; rfl
    have h32 := h _ (List.getElem_mem hlt)
    rw [show 5 * (k + 1) = 5 * k + 5 by omega, fB_pB, ih (by omega), pB_five l k (by rw [hg]; exact h32), hg, List.take_succ_eq_append_getElem hlt, nV_snoc]
    omega
/-- the bytes when i bits are in -/
def oB (l : List Nat) (N i : Nat) : Bytes := (List.range N).map fun j => UInt8.ofNat (pB (bV l) (8 * j) (min 8 (i - 8 * j)))
theorem length_oB (l : List Nat) (N i : Nat) : (oB l N i).length = N := by simp [oB]
theorem oB_zero (l : List Nat) (N : Nat) : oB l N 0 = List.replicate N 0 := by
  unfold oB
  apply List.ext_getElem (by simp)
  intro j h1 h2
  simp [pB]
theorem pB8 (l : List Nat) (a k : Nat) (h : k ≤ 8) : pB (bV l) a k < 256 := Nat.lt_of_lt_of_le (pB_lt (bV_lt l) a k) (Nat.pow_le_pow_right (by decide) h)
theorem oB_get (l : List Nat) (N i : Nat) (h : i / 8 < N) : ((oB l N i)[i / 8]'(by rw [length_oB]; exact h)).toNat = pB (bV l) (8 * (i / 8)) (i % 8) := by
  unfold oB
  rw [List.getElem_map, List.getElem_range, UInt8.toNat_ofNat', show min 8 (i - 8 * (i / 8)) = i % 8 by omega]
  exact Nat.mod_eq_of_lt (pB8 l _ _ (by omega))
theorem oB_step (l : List Nat) (N i : Nat) (h : i / 8 < N) : oB l N (i + 1) = (oB l N i).set (i / 8) (UInt8.ofNat (2 * pB (bV l) (8 * (i / 8)) (i % 8) + bV l i)) := by
  apply List.ext_getElem (by rw [List.length_set, length_oB, length_oB])
  intro j h1 h2
  have g : ∀ i', (oB l N i')[j]? = some (UInt8.ofNat (pB (bV l) (8 * j) (min 8 (i' - 8 * j)))) := fun i' => by
    rw [length_oB] at h1
    unfold oB
    rw [List.getElem?_map, List.getElem?_range h1]; rfl
  rw [List.getElem_set]
  apply Option.some.inj
  rw [← List.getElem?_eq_getElem, g]
  split
  · rename_i he
    subst he
    rw [show min 8 (i + 1 - 8 * (i / 8)) = i % 8 + 1 by omega]
    simp only [pB]
    rw [show 8 * (i / 8) + i % 8 = i by omega]
  · rename_i he
    rw [← List.getElem?_eq_getElem, g, show min 8 (i + 1 - 8 * j) = min 8 (i - 8 * j) by omega]
theorem oB_full (l : List Nat) (i : Nat) : ∀ N, 8 * N ≤ i → oB l N i = bd N (fB (bV l) (8 * N)) := by
  intro N
  induction N with
  | zero => intro _; rfl
  | succ N ih =>
    intro h
    have e : oB l (N + 1) i = oB l N i ++ [UInt8.ofNat (pB (bV l) (8 * N) 8)] := by
      unfold oB
      rw [List.range_succ, List.map_append, List.map_cons, List.map_nil, show min 8 (i - 8 * N) = 8 by omega]
    have hp := pB8 l (8 * N) 8 (Nat.le_refl _)
    rw [e, ih (by omega), show 8 * (N + 1) = 8 * N + 8 by omega, fB_pB]
    show _ = bd N ((fB (bV l) (8 * N) * 2 ^ 8 + pB (bV l) (8 * N) 8) / 256) ++ [UInt8.ofNat ((fB (bV l) (8 * N) * 2 ^ 8 + pB (bV l) (8 * N) 8) % 256)]
    generalize fB (bV l) (8 * N) = x at *
    generalize pB (bV l) (8 * N) 8 = y at *
    rw [show (x * 2 ^ 8 + y) / 256 = x by omega, show (x * 2 ^ 8 + y) % 256 = y by omega]
theorem oB_done (l : List Nat) (h : AllV l) (N : Nat) (hN : N = 5 * l.length / 8) : oB l N (5 * l.length) = bytesOf l ∧ restV l = pB (bV l) (8 * N) (5 * l.length - 8 * N) := by
  have h1 := fB_five l h l.length (Nat.le_refl _)
  rw [List.take_length] at h1
  have e : 5 * l.length = 8 * N + 5 * l.length % 8 := by omega
  have h2 : nV l = fB (bV l) (8 * N) * 2 ^ (5 * l.length % 8) + pB (bV l) (8 * N) (5 * l.length % 8) := by rw [← fB_pB, ← e, h1]
  have h3 := pB_lt (bV_lt l) (8 * N) (5 * l.length % 8)
  have e2 : 5 * l.length - 8 * N = 5 * l.length % 8 := by omega
  rw [oB_full _ _ _ (by omega), e2]
  unfold bytesOf restV nBy
  rw [← hN, h2]
  constructor
  · rw [Nat.mul_comm (fB (bV l) (8 * N)), Nat.mul_add_div (Nat.two_pow_pos _), Nat.div_eq_of_lt h3, Nat.add_zero]
  · rw [Nat.mul_comm (fB (bV l) (8 * N)), Nat.mul_add_mod, Nat.mod_eq_of_lt h3]
/-- a bit behind the last byte -/
theorem rest_bit (l : List Nat) (h : AllV l) (N i : Nat) (hN : N = 5 * l.length / 8) (h1 : 8 * N ≤ i) (h2 : i < 5 * l.length) (hb : bV l i = 1) : restV l ≠ 0 := by
  rw [(oB_done l h N hN).2]
  have e : pB (bV l) (8 * N) (i - 8 * N + 1) = 2 * pB (bV l) (8 * N) (i - 8 * N) + bV l i := by
    show 2 * pB (bV l) (8 * N) (i - 8 * N) + bV l (8 * N + (i - 8 * N)) = _
    rw [show 8 * N + (i - 8 * N) = i by omega]
  have hm := pB_mono (bV l) (8 * N) (i - 8 * N + 1) (5 * l.length - 8 * N - (i - 8 * N + 1))
  rw [show i - 8 * N + 1 + (5 * l.length - 8 * N - (i - 8 * N + 1)) = 5 * l.length - 8 * N by omega] at hm
  omega
theorem rest_next (l : List Nat) (N i : Nat) (h1 : 8 * N ≤ i) (h0 : pB (bV l) (8 * N) (i - 8 * N) = 0) (hb : bV l i = 0) : pB (bV l) (8 * N) (i + 1 - 8 * N) = 0 := by
  rw [show i + 1 - 8 * N = (i - 8 * N) + 1 by omega]
  simp only [pB]
  rw [h0, show 8 * N + (i - 8 * N) = i by omega, hb]
theorem oB_more (l : List Nat) (N i : Nat) (h1 : 8 * N ≤ i) : oB l N (i + 1) = oB l N i := by rw [oB_full _ _ _ h1, oB_full _ _ _ (by omega)]
end WL
end Go.Proofs.Ytohemcdcmlngiaa
