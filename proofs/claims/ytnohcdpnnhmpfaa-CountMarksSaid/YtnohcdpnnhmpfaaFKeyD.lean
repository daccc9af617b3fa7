/-
  What Keyed tells, its plain law.
-/
import Derived.Test.YtnohcdpnnhmpfaaFBegin
namespace Go.Proofs.Ytnohcdpnnhmpfaa
open Go.RowKit ML FM

def keyedD (K B : Bytes) : Bytes := if K.length ≤ 32 then digestL K B else []
def keyedE (K : Bytes) : Int := if K.length ≤ 32 then 0 else 3
theorem length_keyPiece (K : Bytes) (h : K.length ≤ 64) : (keyPiece K).length ≤ 64 := by
  unfold keyPiece
  split
  · simp
  · simp; omega
theorem absorb_zero (h : List U) (T : Bytes) : absorbK h T 0 = h := rfl
theorem oneCell_foldRow (H : List U) (n : Nat) (D : Bytes) (t : Nat) : (foldRow H n D t).toArray.all (·.oneCell') = true := by
  refine all_oneCell_toArray (fun v hv => ?_)
  simp only [foldRow, Lib.byteCells, List.mem_append, List.mem_map, List.mem_cons, List.not_mem_nil, or_false] at hv
  rcases hv with ⟨x, _, rfl⟩ | rfl | ⟨x, _, rfl⟩ | rfl <;> rfl
end Go.Proofs.Ytnohcdpnnhmpfaa
