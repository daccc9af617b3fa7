/-
  What a text is folded into: pieces of 64 bytes, words out of bytes, the last piece held back. No program in sight.
-/
import Derived.Test.YtkkpfoidppjbdaaDoorFMath
namespace Go.Proofs.YtkkpfoidppjbdaaDoor.FM
open Go.RowKit ML
set_option linter.unusedSimpArgs false

abbrev Bytes := List UInt8
/-- byte i, 0 behind the end -/
def byteN (B : Bytes) (i : Nat) : Nat := (B.getD i 0).toNat
def wordN (B : Bytes) (k : Nat) : Nat := byteN B (4 * k) + 256 * byteN B (4 * k + 1) + 65536 * byteN B (4 * k + 2) + 16777216 * byteN B (4 * k + 3)
/-- sixteen words out of 64 bytes, the lowest byte first; zeros behind the end -/
def wordsL (B : Bytes) : List U := (List.range 16).map fun k => BitVec.ofNat 32 (wordN B k)
theorem length_wordsL (B : Bytes) : (wordsL B).length = 16 := by simp [wordsL]
theorem byteN_lt (B : Bytes) (i : Nat) : byteN B i < 256 := (B.getD i 0).toNat_lt

/-- piece p of a text -/
def pieceL (T : Bytes) (p : Nat) : Bytes := (T.drop (64 * p)).take 64
/-- what the first p pieces come to -/
def absorbK (h : List U) (T : Bytes) : Nat → List U
  | 0 => h
  | p + 1 => pressL (absorbK h T p) (wordsL (pieceL T p)) (64 * (p + 1)) false
theorem length_absorbK (h : List U) (T : Bytes) (hh : h.length = 8) : ∀ p, (absorbK h T p).length = 8
  | 0 => hh
  | p + 1 => by rw [absorbK, length_pressL, length_absorbK h T hh p]
/-- how many pieces are done when T has been taken: the last one is held back -/
def doneP (T : Bytes) : Nat := (T.length - 1) / 64
/-- the text folded -/
def foldL (h : List U) (T : Bytes) : List U := pressL (absorbK h T (doneP T)) (wordsL (T.drop (64 * doneP T))) T.length true
/-- words as bytes -/
def outB (V : List U) : Bytes := V.flatMap fun x => [UInt8.ofNat (x.toNat % 256), UInt8.ofNat (x.toNat / 256 % 256), UInt8.ofNat (x.toNat / 65536 % 256), UInt8.ofNat (x.toNat / 16777216 % 256)]
/-- what folding with a key of n bytes begins with -/
def beginH (n : Nat) : List U := ivL.set 0 (ivL.getD 0 0 ^^^ (0x01010020 + BitVec.ofNat 32 (256 * n)))
/-- the key's piece -/
def keyPiece (K : Bytes) : Bytes := if K = [] then [] else K ++ List.replicate (64 - K.length) 0
def digestL (K B : Bytes) : Bytes := outB (foldL (beginH K.length) (keyPiece K ++ B))

theorem pieceL_append (T S : Bytes) (p : Nat) (h : 64 * (p + 1) ≤ T.length) : pieceL (T ++ S) p = pieceL T p := by
  unfold pieceL
  rw [List.drop_append_of_le_length (by omega), List.take_append_of_le_length (by simp; omega)]
theorem absorbK_append (h : List U) (T S : Bytes) : ∀ p, 64 * p ≤ T.length → absorbK h (T ++ S) p = absorbK h T p
  | 0, _ => rfl
  | p + 1, hp => by rw [absorbK, absorbK, absorbK_append h T S p (by omega), pieceL_append T S p hp]
theorem length_outB (V : List U) : (outB V).length = 4 * V.length := by
  unfold outB
  induction V with
  | nil => rfl
  | cons x V ih => simp only [List.flatMap_cons, List.length_append, List.length_cons, ih]; simp; omega
theorem length_foldL (h : List U) (T : Bytes) (hh : h.length = 8) : (foldL h T).length = 8 := by
  unfold foldL; rw [length_pressL, length_absorbK h T hh]
theorem length_digestL (K B : Bytes) : (digestL K B).length = 32 := by
  unfold digestL; rw [length_outB, length_foldL _ _ (by simp [beginH, ivL])]

/-! ### how far a text has been taken: p pieces done, t bytes held of D -/
structure MidL (T : Bytes) (p t : Nat) (D : Bytes) : Prop where
  len : T.length = 64 * p + t
  le : t ≤ 64
  dl : D.length = 64
  held : D.take t = T.drop (64 * p)
theorem MidL.full {T D : Bytes} {p : Nat} (m : MidL T p 64 D) (h : List U) : pressL (absorbK h T p) (wordsL D) (64 * p + 64) false = absorbK h T (p + 1) := by
  have e : D = pieceL T p := by
    have h1 := m.held
    rw [List.take_of_length_le (by rw [m.dl]; exact Nat.le_refl _)] at h1
    rw [pieceL, ← h1, List.take_of_length_le (by rw [m.dl]; exact Nat.le_refl _)]
  rw [absorbK, ← e, Nat.mul_add]
theorem MidL.next {T D : Bytes} {p : Nat} (m : MidL T p 64 D) : MidL T (p + 1) 0 D :=
  ⟨by have := m.len; omega, by omega, m.dl, by rw [List.take_zero]; symm; rw [List.drop_eq_nil_iff]; have := m.len; omega⟩
theorem MidL.more {T D : Bytes} {p t : Nat} (m : MidL T p t D) (E : Bytes) (hE : t + E.length ≤ 64) : MidL (T ++ E) p (t + E.length) (D.take t ++ (E ++ D.drop (t + E.length))) := by
  have hl := m.len
  have hd := m.dl
  refine ⟨by rw [List.length_append, hl]; omega, hE, by simp [hd]; omega, ?_⟩
  rw [List.drop_append_of_le_length (by omega), ← m.held]
  have h1 : (D.take t).length = t := by simp [hd]; have := m.le; omega
  rw [← List.append_assoc, List.take_append_of_le_length (by simp [hd]; omega), List.take_of_length_le (by simp [hd]; omega)]
theorem MidL.done {T D : Bytes} {p t : Nat} (m : MidL T p t D) (h0 : T = [] ∨ 0 < t) : p = doneP T := by
  have hl := m.len
  have := m.le
  clear m
  unfold doneP
  rcases h0 with rfl | h
  · simp only [List.length_nil] at *; omega
  · omega

/-! ### words, byte by byte -/
theorem wordN_take (B : Bytes) (i k : Nat) : wordN (B.take i) k = (if 4 * k < i then byteN B (4 * k) else 0) + 256 * (if 4 * k + 1 < i then byteN B (4 * k + 1) else 0) + 65536 * (if 4 * k + 2 < i then byteN B (4 * k + 2) else 0) + 16777216 * (if 4 * k + 3 < i then byteN B (4 * k + 3) else 0) := by
  have key : ∀ j, byteN (B.take i) j = if j < i then byteN B j else 0 := by
    intro j
    unfold byteN
    by_cases h : j < i
    · rw [if_pos h]; simp [List.getD_eq_getElem?_getD, List.getElem?_take, h]
    · rw [if_neg h]; simp [List.getD_eq_getElem?_getD, List.getElem?_take, h]
  unfold wordN
  rw [key, key, key, key]
theorem wordN_lt (B : Bytes) (k : Nat) : wordN B k < 4294967296 := by
  unfold wordN
  have := byteN_lt B (4 * k); have := byteN_lt B (4 * k + 1); have := byteN_lt B (4 * k + 2); have := byteN_lt B (4 * k + 3)
  omega
theorem getD_wordsL (B : Bytes) (k : Nat) (hk : k < 16) : (wordsL B).getD k 0 = BitVec.ofNat 32 (wordN B k) := by
  simp [wordsL, List.getD_eq_getElem?_getD, hk]
/-- one more byte: word i/4 gains it -/
theorem wordsL_step (B : Bytes) (i : Nat) :
    wordsL (B.take (i + 1)) = (wordsL (B.take i)).set (i / 4) (BitVec.ofNat 32 (wordN (B.take i) (i / 4) + byteN B i * 2 ^ (8 * (i % 4)))) := by
  apply List.ext_getElem (by simp [length_wordsL])
  intro k h1 h2
  have hk : k < 16 := by rw [length_wordsL] at h1; exact h1
  rw [List.getElem_set]
  have e : ∀ (B : Bytes) (h : k < (wordsL B).length), (wordsL B)[k] = BitVec.ofNat 32 (wordN B k) := by intro B h; simp [wordsL]
  rw [e]
  split
  · rename_i h
    subst h
    congr 1
    rw [wordN_take, wordN_take]
    generalize hq : i / 4 = q
    have h4 : i = 4 * q ∨ i = 4 * q + 1 ∨ i = 4 * q + 2 ∨ i = 4 * q + 3 := by omega
    clear hq h1 h2 hk e
    rcases h4 with h4 | h4 | h4 | h4 <;> subst h4
    · rw [show (4 * q) % 4 = 0 by omega, if_pos (show 4 * q < 4 * q + 1 by omega), if_neg (show ¬ 4 * q + 1 < 4 * q + 1 by omega), if_neg (show ¬ 4 * q + 2 < 4 * q + 1 by omega), if_neg (show ¬ 4 * q + 3 < 4 * q + 1 by omega), if_neg (show ¬ 4 * q < 4 * q by omega), if_neg (show ¬ 4 * q + 1 < 4 * q by omega), if_neg (show ¬ 4 * q + 2 < 4 * q by omega), if_neg (show ¬ 4 * q + 3 < 4 * q by omega)]
      simp
    · rw [show (4 * q + 1) % 4 = 1 by omega, if_pos (show 4 * q < 4 * q + 1 + 1 by omega), if_pos (show 4 * q + 1 < 4 * q + 1 + 1 by omega), if_neg (show ¬ 4 * q + 2 < 4 * q + 1 + 1 by omega), if_neg (show ¬ 4 * q + 3 < 4 * q + 1 + 1 by omega), if_pos (show 4 * q < 4 * q + 1 by omega), if_neg (show ¬ 4 * q + 1 < 4 * q + 1 by omega), if_neg (show ¬ 4 * q + 2 < 4 * q + 1 by omega), if_neg (show ¬ 4 * q + 3 < 4 * q + 1 by omega)]
      simp; omega
    · rw [show (4 * q + 2) % 4 = 2 by omega, if_pos (show 4 * q < 4 * q + 2 + 1 by omega), if_pos (show 4 * q + 1 < 4 * q + 2 + 1 by omega), if_pos (show 4 * q + 2 < 4 * q + 2 + 1 by omega), if_neg (show ¬ 4 * q + 3 < 4 * q + 2 + 1 by omega), if_pos (show 4 * q < 4 * q + 2 by omega), if_pos (show 4 * q + 1 < 4 * q + 2 by omega), if_neg (show ¬ 4 * q + 2 < 4 * q + 2 by omega), if_neg (show ¬ 4 * q + 3 < 4 * q + 2 by omega)]
      simp; omega
    · rw [show (4 * q + 3) % 4 = 3 by omega, if_pos (show 4 * q < 4 * q + 3 + 1 by omega), if_pos (show 4 * q + 1 < 4 * q + 3 + 1 by omega), if_pos (show 4 * q + 2 < 4 * q + 3 + 1 by omega), if_pos (show 4 * q + 3 < 4 * q + 3 + 1 by omega), if_pos (show 4 * q < 4 * q + 3 by omega), if_pos (show 4 * q + 1 < 4 * q + 3 by omega), if_pos (show 4 * q + 2 < 4 * q + 3 by omega), if_neg (show ¬ 4 * q + 3 < 4 * q + 3 by omega)]
      simp; omega
  · rename_i h
    rw [e]
    congr 1
    rw [wordN_take, wordN_take]
    have : i / 4 ≠ k := h
    have c0 : (4 * k < i + 1) ↔ (4 * k < i) := by omega
    have c1 : (4 * k + 1 < i + 1) ↔ (4 * k + 1 < i) := by omega
    have c2 : (4 * k + 2 < i + 1) ↔ (4 * k + 2 < i) := by omega
    have c3 : (4 * k + 3 < i + 1) ↔ (4 * k + 3 < i) := by omega
    simp only [c0, c1, c2, c3]
/-- a word that is not full yet -/
theorem wordN_part (B : Bytes) (i : Nat) : wordN (B.take i) (i / 4) < 2 ^ (8 * (i % 4)) := by
  rw [wordN_take]
  generalize hq : i / 4 = q
  have h4 : i = 4 * q ∨ i = 4 * q + 1 ∨ i = 4 * q + 2 ∨ i = 4 * q + 3 := by omega
  clear hq
  have b0 := byteN_lt B (4 * q)
  have b1 := byteN_lt B (4 * q + 1)
  have b2 := byteN_lt B (4 * q + 2)
  rcases h4 with h4 | h4 | h4 | h4 <;> subst h4
  · rw [show (4 * q) % 4 = 0 by omega, if_neg (show ¬ 4 * q < 4 * q by omega), if_neg (show ¬ 4 * q + 1 < 4 * q by omega), if_neg (show ¬ 4 * q + 2 < 4 * q by omega), if_neg (show ¬ 4 * q + 3 < 4 * q by omega)]
    decide
  · rw [show (4 * q + 1) % 4 = 1 by omega, if_pos (show 4 * q < 4 * q + 1 by omega), if_neg (show ¬ 4 * q + 1 < 4 * q + 1 by omega), if_neg (show ¬ 4 * q + 2 < 4 * q + 1 by omega), if_neg (show ¬ 4 * q + 3 < 4 * q + 1 by omega)]
    omega
  · rw [show (4 * q + 2) % 4 = 2 by omega, if_pos (show 4 * q < 4 * q + 2 by omega), if_pos (show 4 * q + 1 < 4 * q + 2 by omega), if_neg (show ¬ 4 * q + 2 < 4 * q + 2 by omega), if_neg (show ¬ 4 * q + 3 < 4 * q + 2 by omega)]
    omega
  · rw [show (4 * q + 3) % 4 = 3 by omega, if_pos (show 4 * q < 4 * q + 3 by omega), if_pos (show 4 * q + 1 < 4 * q + 3 by omega), if_pos (show 4 * q + 2 < 4 * q + 3 by omega), if_neg (show ¬ 4 * q + 3 < 4 * q + 3 by omega)]
    omega
theorem or_word (x c m : Nat) (hx : x < 2 ^ m) (hc : c < 256) (hm : m + 8 ≤ 32) :
    bits BinOp.or IntKind.u32 (un (BitVec.ofNat 32 x)) ((c : Int) * 2 ^ m % 4294967296) = un (BitVec.ofNat 32 (x + c * 2 ^ m)) := by
  have hp : 2 ^ m * 256 ≤ 4294967296 := by
    have := Nat.pow_le_pow_right (show 0 < 2 by decide) hm
    rw [Nat.pow_add] at this
    exact this
  have hpos : 0 < 2 ^ m := Nat.pow_pos (by decide)
  have h2 : c * 2 ^ m + 2 ^ m ≤ 4294967296 := by
    have : (c + 1) * 2 ^ m ≤ 256 * 2 ^ m := Nat.mul_le_mul_right _ (by omega)
    rw [Nat.add_mul] at this
    omega
  rw [un_ofNat _ (by omega), un_ofNat _ (by omega)]
  have e : ((c : Int) * 2 ^ m % 4294967296) = ((c * 2 ^ m : Nat) : Int) := by
    have : ((c : Int) * 2 ^ m) = ((c * 2 ^ m : Nat) : Int) := by push_cast; rfl
    rw [this]; omega
  rw [e, u32_or_nat _ _ (by omega) (by omega)]
  congr 1
  rw [Nat.or_comm, Nat.add_comm, ← Nat.shiftLeft_eq, Nat.shiftLeft_add_eq_or_of_lt hx]
end Go.Proofs.YtkkpfoidppjbdaaDoor.FM
