/-
  A slice of strings among the arguments, as a list of texts; what the bulk gives.
-/
import Derived.Test.YtnohcdpnnhmpfaaGreatDoorRows
import Derived.Test.YtnohcdpnnhmpfaaGreatDoorFrame
import Derived.Test.YtnohcdpnnhmpfaaGreatDoorBFb
import Derived.SliceStrings
namespace Go.Proofs.YtnohcdpnnhmpfaaGreatDoor.FR
open Go.RowKit ML FM
open Go.ChangeShapes Go.WideShapes Go.ChangeAt

section
variable {H : Type} {enc : TypeId × Value → H} {P : Program} {w : World} {base : Nat} {spare : Nat → Bool} {held : Bool}
theorem lt_of_cell {w : World} {p : Addr} {v : Value} (h : w.cell? p = some v) : p.block < w.heap.size := by
  by_cases hlt : p.block < w.heap.size
  · exact hlt
  · have h0 : w.heap[p.block]? = none := Array.getElem?_eq_none (by omega)
    unfold World.cell? at h
    simp [h0] at h
def strD (Ps : List Bytes) : List (DataW H) := Ps.map fun p => .lit (.string p)
theorem open_strs {r : Reach} {b0 : Nat} {t e : TypeId} {v : Value} {d : DataW H} {ps : List MemPlace} (ht : P.underlying t = some (.slice e)) (he : P.underlying e = some .string) (hc : P.cellsOf e = 1)
    (hval : Value.okWide P w r b0 t v) (hd : DataW.Trod enc P w base spare held t v d ps) :
    ∃ (oa : Option Addr) (cap : Nat) (Ps : List Bytes), v = .slice oa Ps.length cap ∧ StrsAt w oa Ps ∧ ((d = .nil ∧ Ps = []) ∨ ∃ sp, d = .slice (strD Ps) sp) := by
  obtain ⟨oa, len, cap, rfl⟩ := okWide_slice ht hval
  obtain ⟨fuel, hf⟩ := hd
  rcases open_strings ht he hc hf with ⟨hcs, hx⟩ | ⟨a, len', cap', ss, hcs, _, hl, hm, hz, hx, hcell, hsz⟩
  · simp [Value.cells] at hcs
    obtain ⟨rfl, rfl, rfl⟩ := hcs
    simp only [Prod.mk.injEq] at hx
    exact ⟨none, 0, [], rfl, ⟨fun i hi => by simp at hi⟩, .inl ⟨hx.1, rfl⟩⟩
  · simp [Value.cells] at hcs
    obtain ⟨rfl, rfl, rfl⟩ := hcs
    simp only [Prod.mk.injEq] at hx
    have hlen : len ≤ ss.length := by rw [hz]; split <;> omega
    refine ⟨some a, cap, (ss.take len).map (fun s => s.data.toList), by simp [hlen], ⟨fun i hi => ?_⟩, .inr ⟨_, by rw [hx.1]; congr 1; simp only [strD, strs, List.map_map]; rfl⟩⟩
    have hi2 : i < len := by simp at hi; omega
    have hc2 := hcell i (by omega)
    have hb : (a.add i).block < w.heap.size := lt_of_cell hc2
    rw [add_block] at hb
    refine ⟨a, rfl, hb, ?_⟩
    rw [hc2]
    have hi3 : i < ss.length := by omega
    simp [List.getD_eq_getElem?_getD, hi3]
end
theorem bulk_strD {H : Type} (Ps : List Bytes) : ((Ps.flatMap fun x => fourN x.length ++ x).length ≤ 4 * Rows.uptoBulkAll (strD (H := H) Ps)) ∧ Ps.length ≤ Rows.uptoBulkAll (strD (H := H) Ps) := by
  induction Ps with
  | nil => simp [strD]
  | cons p r ih =>
    simp only [strD, List.map_cons, Rows.uptoBulkAll, Rows.uptoBulk, List.flatMap_cons, List.length_append, List.length_cons] at ih ⊢
    have h4 : (fourN p.length).length = 4 := rfl
    rw [h4]
    omega
theorem bulk_joinL {H : Type} (L : Bytes) (Ps : List Bytes) : (joinL L Ps).length ≤ 4 * (L.length + 1 + Rows.uptoBulkAll (strD (H := H) Ps)) := by
  have hb := (bulk_strD (H := H) Ps).1
  unfold joinL
  rw [List.flatMap_cons, List.length_append, List.length_append]
  have h4 : (fourN (List.length L)).length = 4 := rfl
  refine Nat.le_trans (Nat.add_le_add_left hb _) ?_
  rw [h4]
  omega
end Go.Proofs.YtnohcdpnnhmpfaaGreatDoor.FR
