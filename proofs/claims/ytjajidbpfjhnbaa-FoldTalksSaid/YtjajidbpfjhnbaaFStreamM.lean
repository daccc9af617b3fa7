/-
  What a stream is, its plain law: digests behind one another, cut to the length. No program in sight.
-/
import Derived.Test.YtjajidbpfjhnbaaFTag
namespace Go.Proofs.Ytjajidbpfjhnbaa
open Go.RowKit ML FM

def streamS : Bytes := [115, 116, 114, 101, 97, 109]
def partsL (S L : Bytes) (i : Nat) : List Bytes := [S, L, fourN i]
def blockL (S L : Bytes) (i : Nat) : Bytes := digestL [] (joinL streamS (partsL S L i))
def streamK (S L : Bytes) : Nat → Bytes
  | 0 => []
  | i + 1 => streamK S L i ++ blockL S L i
theorem length_streamK (S L : Bytes) : ∀ i, (streamK S L i).length = 32 * i
  | 0 => rfl
  | i + 1 => by rw [streamK, List.length_append, length_streamK S L i, blockL, length_digestL]; omega
theorem take_streamK (S L : Bytes) (i : Nat) : ∀ j, (streamK S L (i + j)).take (32 * i) = streamK S L i
  | 0 => by rw [Nat.add_zero, List.take_of_length_le (by rw [length_streamK]; exact Nat.le_refl _)]
  | j + 1 => by rw [← Nat.add_assoc, streamK, List.take_append_of_le_length (by rw [length_streamK]; omega), take_streamK S L i j]
def streamB (S L : Bytes) (n : Nat) : Bytes := (streamK S L ((n + 31) / 32)).take n
theorem length_streamB (S L : Bytes) (n : Nat) : (streamB S L n).length = n := by rw [streamB, List.length_take, length_streamK]; omega
/-- fewer bytes are the beginning of more -/
theorem streamB_begin (S L : Bytes) (n m : Nat) : (streamB S L (n + m)).take n = streamB S L n := by
  unfold streamB
  rw [List.take_take, Nat.min_eq_left (by omega)]
  have h := take_streamK S L ((n + 31) / 32) ((n + m + 31) / 32 - (n + 31) / 32)
  rw [show (n + 31) / 32 + ((n + m + 31) / 32 - (n + 31) / 32) = (n + m + 31) / 32 by omega] at h
  conv => rhs; rw [← h, List.take_take, Nat.min_eq_left (by omega)]
theorem streamB_at (S L : Bytes) (n i : Nat) (h1 : n ≤ 32 * i) (h2 : i = 0 ∨ 32 * i < n + 32) : (streamK S L i).take n = streamB S L n := by
  unfold streamB
  rw [show (n + 31) / 32 = i by omega]
theorem length_joined (S L : Bytes) (i : Nat) : (joinL streamS (partsL S L i)).length = S.length + L.length + 26 := by
  simp only [joinL, partsL, streamS, fourN, List.flatMap_cons, List.flatMap_nil, List.length_append, List.length_cons, List.length_nil]
  omega
end Go.Proofs.Ytjajidbpfjhnbaa
