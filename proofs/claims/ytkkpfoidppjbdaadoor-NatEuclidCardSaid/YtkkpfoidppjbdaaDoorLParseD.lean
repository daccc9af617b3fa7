/-
  Parse: a text's limbs, nine digits each, from the end on. Plain law.
-/
import Derived.Test.YtkkpfoidppjbdaaDoorNDec
import Derived.Test.YtkkpfoidppjbdaaDoorLSub
namespace Go.Proofs.YtkkpfoidppjbdaaDoor
set_option linter.unusedVariables false
set_option linter.unusedSimpArgs false
open Go.RowKit ML FM

/-- what is parsed so far: the first m bytes are left -/
structure ParseSt (F : Bytes) (m : Nat) (O : List Nat) : Prop where
  le : m ≤ F.length
  all : NL.AllD O
  len : 0 < m → F.length - m = 9 * O.length
  short : 9 * O.length ≤ F.length + 8
  eq : NL.val O = dv (F.drop m)
theorem ParseSt.init (F : Bytes) : ParseSt F F.length [] := ⟨Nat.le_refl _, (fun d h => by cases h), fun _ => by simp, by simp, by simp [NL.val, dv]⟩
def pieceF (F : Bytes) (m : Nat) : Bytes := (F.take m).drop (m - 9)
theorem length_pieceF (F : Bytes) (m : Nat) (h : m ≤ F.length) : (pieceF F m).length = min m 9 := by
  unfold pieceF
  rw [List.length_drop, List.length_take]
  omega
theorem pow9 (k : Nat) : 1000000000 ^ k = 10 ^ (9 * k) := by rw [Nat.pow_mul]
theorem ParseSt.next {F : Bytes} {m : Nat} {O : List Nat} (S : ParseSt F m O) (hD : DigsB F) (h : 0 < m) : ParseSt F (m - 9) (O ++ [dv (pieceF F m)]) := by
  have hl := S.le
  have hp := length_pieceF F m hl
  have hlt := dv_lt (pieceF F m) (digs_drop (digs_take hD m) (m - 9))
  have h9 : dv (pieceF F m) < 1000000000 := by
    rw [hp] at hlt
    have : 10 ^ min m 9 ≤ 10 ^ 9 := Nat.pow_le_pow_right (by decide) (by omega)
    omega
  have hle := S.len h
  refine ⟨by omega, NL.all_snoc S.all h9, fun hm => ?_, ?_, ?_⟩
  · rw [List.length_append, List.length_singleton]; omega
  · rw [List.length_append, List.length_singleton]; omega
  · have hsplit : F.drop (m - 9) = pieceF F m ++ F.drop m := by
      unfold pieceF
      have e := List.take_append_drop m F
      conv => lhs; rw [← e]
      rw [List.drop_append_of_le_length (by rw [List.length_take]; omega)]
    rw [NL.val_snoc, S.eq, hsplit, dv_append, List.length_drop, hle, pow9, Nat.mul_comm]
    omega
theorem ParseSt.done {F : Bytes} {O : List Nat} (S : ParseSt F 0 O) : NL.trimL O = NL.dig (dv F) := by
  unfold NL.trimL
  rw [S.eq, List.drop_zero]
theorem dv_step (F : Bytes) (hD : DigsB F) (p : Nat) (h : p < F.length) (h9 : F.length ≤ 9) : dv (F.take p) ≤ 99999999 ∧ dv (F.take (p + 1)) ≤ 999999999 ∧ dv (F.take (p + 1)) = 10 * dv (F.take p) + (byteN F p - 48) ∧ 48 ≤ byteN F p ∧ byteN F p ≤ 57 := by
  have h1 := dv_lt _ (digs_take hD p)
  have h2 := dv_lt _ (digs_take hD (p + 1))
  have hl1 : (F.take p).length ≤ 8 := by rw [List.length_take]; omega
  have hl2 : (F.take (p + 1)).length ≤ 9 := by rw [List.length_take]; omega
  have e1 : 10 ^ (F.take p).length ≤ 10 ^ 8 := Nat.pow_le_pow_right (by decide) hl1
  have e2 : 10 ^ (F.take (p + 1)).length ≤ 10 ^ 9 := Nat.pow_le_pow_right (by decide) hl2
  have hb : byteN F p = F[p].toNat := by simp [byteN, List.getD_eq_getElem?_getD, h]
  have hd := hD F[p] (List.getElem_mem h)
  refine ⟨by omega, by omega, ?_, by omega, by omega⟩
  rw [hb]
  exact dv_snoc F p h
end Go.Proofs.YtkkpfoidppjbdaaDoor
