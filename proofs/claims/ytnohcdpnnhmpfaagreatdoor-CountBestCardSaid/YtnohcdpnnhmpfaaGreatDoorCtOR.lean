/-
  Rows of ints among the arguments.
-/
import Derived.Test.YtnohcdpnnhmpfaaGreatDoorCtO
import Derived.Test.YtnohcdpnnhmpfaaGreatDoorCtK
namespace Go.Proofs.YtnohcdpnnhmpfaaGreatDoor.FR
open Go.RowKit ML FM AU CT
open Go.ChangeShapes Go.WideShapes Go.ChangeAt Go.Deep
set_option linter.unusedVariables false
section
variable {H : Type} {enc : TypeId × Value → H} {w : World} {base : Nat} {spare : Nat → Bool} {held : Bool}
set_option maxRecDepth 100000 in
/-- lists of ints -/
theorem open_rowsP {r : Reach} {b0 : Nat} {v : Value} {d : DataW H} {ps : List MemPlace} (hval : Value.okWide Tryz.prog w r b0 25 v) (hd : DataW.Trod enc Tryz.prog w base spare held 25 v d ps) :
    ∃ (oa : Option Addr) (cap : Nat) (P : List (Value × List Int)), v = .slice oa P.length cap ∧ P.length < 9223372036854775808 ∧ PsAt w oa P := by
  have hC : Tryz.prog.cellsOf 29 = 1 := by kernel_rfl
  obtain ⟨oa, len, cap, rfl⟩ := okWide_slice Tryz.underlying25 hval
  obtain ⟨fuel, hf⟩ := hd
  rcases open_slice1 Tryz.underlying25 hC hf with ⟨hcs, hx⟩ | ⟨a, len', cap', m, n, V, D, Pl, hcs, _, hl, hcm, hm, hx, hel⟩
  · simp [Value.cells] at hcs
    obtain ⟨rfl, rfl, rfl⟩ := hcs
    exact ⟨none, 0, [], rfl, (show (0 : Nat) < 9223372036854775808 by omega), ⟨fun i hi => by simp at hi, fun p hp => by simp at hp⟩⟩
  · simp [Value.cells] at hcs
    obtain ⟨rfl, rfl, rfl⟩ := hcs
    have hlm : len ≤ m := by rw [hm]; split <;> omega
    obtain ⟨R, hRl, hRs⟩ := listOf (P := fun i (p : Value × List Int) => w.cell? (a.add i) = some p.1 ∧ RowV w p) len (fun i hi => by
      obtain ⟨h1, h2⟩ := hel i (by omega)
      obtain ⟨ob, cb, L, e, hb, hi, _⟩ := ints_t h2
      simp only [List.cons.injEq, and_true] at e
      exact ⟨(V i, L), h1, ob, cb, e, hi, hb⟩)
    refine ⟨some a, cap, R, by rw [hRl], by rw [hRl]; unfold maxLen at hcm; omega, ⟨fun i hi => ⟨a, rfl, ?_, (hRs i hi).1⟩, fun p hp => ?_⟩⟩
    · have hb := lt_of_cell (hRs i hi).1
      rw [addr_block] at hb
      exact hb
    · obtain ⟨i, hi, rfl⟩ := List.mem_iff_getElem.1 hp
      exact (hRs i hi).2
end
end Go.Proofs.YtnohcdpnnhmpfaaGreatDoor.FR
