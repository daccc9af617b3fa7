/-
  The reference's Keyed, its plain law: piece by piece, the last one with what is there; words taken apart. No program in sight.
-/
import Derived.Test.YtnohcdpnnhmpfaaFEnd
namespace Go.Proofs.Ytnohcdpnnhmpfaa.FM
open Go.RowKit ML
set_option linter.unusedSimpArgs false

/-- what k pieces come to -/
def refH (h : List U) (T : Bytes) (k : Nat) : List U := if k ≤ doneP T then absorbK h T k else foldL h T
theorem refH_zero (h : List U) (T : Bytes) : refH h T 0 = h := if_pos (Nat.zero_le _)
theorem refH_last (h : List U) (T : Bytes) : refH h T (doneP T + 1) = foldL h T := if_neg (by omega)
theorem length_refH (h : List U) (T : Bytes) (k : Nat) (hh : h.length = 8) : (refH h T k).length = 8 := by
  unfold refH
  split
  · exact length_absorbK h T hh k
  · exact length_foldL h T hh
/-- where piece k ends -/
def endP (T : Bytes) (k : Nat) : Nat := if T.length < 64 * k + 64 then T.length else 64 * k + 64
theorem refH_next (h : List U) (T : Bytes) (k : Nat) (hk : k ≤ doneP T) : refH h T (k + 1) = pressL (refH h T k) (wordsL (pieceL T k)) (endP T k) (decide (k = doneP T)) := by
  have hd : doneP T = (T.length - 1) / 64 := rfl
  unfold refH endP
  rw [if_pos hk]
  by_cases h1 : k = doneP T
  · rw [if_neg (by omega)]
    have e : (if T.length < 64 * k + 64 then T.length else 64 * k + 64) = T.length := by split <;> omega
    rw [e, foldL, ← h1, pieceL, List.take_of_length_le (by rw [List.length_drop]; omega)]
    simp
  · rw [if_pos (by omega), absorbK, if_neg (by omega), Nat.mul_add]
    simp [h1]
theorem pieces_pos (T : Bytes) (h : 0 < T.length) : (T.length + 63) / 64 = doneP T + 1 := by unfold doneP; omega
/-- the bytes of piece k -/
theorem piece_byte (T : Bytes) (k i : Nat) : byteN (T.drop (64 * k)) i = byteN T (64 * k + i) := by
  unfold byteN
  rw [List.getD_eq_getElem?_getD, List.getD_eq_getElem?_getD, List.getElem?_drop]
theorem piece_end (T : Bytes) (k i : Nat) (h1 : i ≤ 64) (h2 : i = 64 ∨ T.length ≤ 64 * k + i) : (T.drop (64 * k)).take i = pieceL T k := by
  unfold pieceL
  rcases h2 with rfl | h2
  · rfl
  · rw [List.take_of_length_le (by rw [List.length_drop]; omega), List.take_of_length_le (by rw [List.length_drop]; omega)]
theorem add_word (x c r : Nat) (_hc : c < 256) (_hr : r < 4) : (un (BitVec.ofNat 32 x) + ((c : Int) * ((256 ^ r : Nat) : Int)) % 4294967296) % 4294967296 = un (BitVec.ofNat 32 (x + c * 2 ^ (8 * r))) := by
  unfold un
  rw [BitVec.toNat_ofNat, BitVec.toNat_ofNat, Nat.pow_mul]
  have e : ((c : Int) * ((256 ^ r : Nat) : Int)) = ((c * 256 ^ r : Nat) : Int) := (Int.natCast_mul _ _).symm
  rw [e]
  show _ = (((x + c * 256 ^ r) % 4294967296 : Nat) : Int)
  generalize c * 256 ^ r = y
  omega
theorem outB_get (V : List U) : ∀ i, i < 4 * V.length → (outB V)[i]? = some (UInt8.ofNat ((V.getD (i / 4) 0).toNat / 256 ^ (i % 4) % 256)) := by
  induction V with
  | nil => intro i h; simp at h
  | cons x V ih =>
    intro i h
    have e : outB (x :: V) = fourB x ++ outB V := by simp [outB, fourB]
    rw [e]
    by_cases h4 : i < 4
    · rw [List.getElem?_append_left (by simp [fourB]; exact h4)]
      have : i = 0 ∨ i = 1 ∨ i = 2 ∨ i = 3 := by omega
      rcases this with rfl | rfl | rfl | rfl
      · rw [show 0 % 4 = 0 by rfl, Nat.pow_zero, Nat.div_one]; rfl
      · rfl
      · rfl
      · rfl
    · obtain ⟨j, rfl⟩ : ∃ j, i = j + 4 := ⟨i - 4, by omega⟩
      rw [List.getElem?_append_right (by simp [fourB]), show j + 4 - (fourB x).length = j by simp [fourB], ih j (by simp at h; omega), show (j + 4) / 4 = j / 4 + 1 by omega, show (j + 4) % 4 = j % 4 by omega]
      simp
end Go.Proofs.Ytnohcdpnnhmpfaa.FM
