/-
  Rows of ints in memory: what an argument reads as, what an own row gives; the plain law of digits with it.
-/
import Derived.Test.YtohemcdcmlngiaaDoorBBase
import Derived.Test.YtohemcdcmlngiaaDoorNDig
import Derived.Laws.AppendOwn
namespace Go.Proofs.YtohemcdcmlngiaaDoor
open Go.RowKit ML

def nvals (L : List Nat) : List Value := L.map fun d : Nat => Value.int .i64 (d : Int)
/-- digit i, 0 behind the end -/
def dAt (L : List Nat) (i : Nat) : Nat := L.getD i 0
theorem length_nvals (L : List Nat) : (nvals L).length = L.length := by simp [nvals]
theorem nvals_append (A B : List Nat) : nvals A ++ nvals B = nvals (A ++ B) := by simp [nvals]
theorem nvals_one (L : List Nat) : ∀ v ∈ nvals L, v.oneCell' = true := by
  intro v hv; simp only [nvals, List.mem_map] at hv; obtain ⟨x, _, rfl⟩ := hv; rfl
theorem addr_block (a : Addr) (i : Nat) : (a.add i).block = a.block := by unfold Addr.add; split <;> rfl
/-- ints in memory, behind one another -/
structure IntsAt (w : World) (oa : Option Addr) (L : List Nat) : Prop where
  cells : ∀ i (h : i < L.length), ∃ a, oa = some a ∧ a.block < w.heap.size ∧ w.cell? (a.add i) = some (.int .i64 (L[i] : Int))
namespace IntsAt
variable {w w1 : World} {oa : Option Addr} {L : List Nat}
theorem below (h : IntsAt w oa L) (hb : Below w.heap.size w w1) : IntsAt w1 oa L := ⟨fun i hi => by
  obtain ⟨a, h1, h2, h3⟩ := h.cells i hi
  exact ⟨a, h1, Nat.lt_of_lt_of_le h2 hb.size, by rw [hb.cell (by rw [addr_block]; exact h2)]; exact h3⟩⟩
theorem take (h : IntsAt w oa L) (k : Nat) : IntsAt w oa (L.take k) := ⟨fun i hi => by
  have hi2 : i < L.length := by rw [List.length_take] at hi; omega
  obtain ⟨a, h1, h2, h3⟩ := h.cells i hi2
  exact ⟨a, h1, h2, by rw [h3]; simp⟩⟩
theorem nil : IntsAt w none [] := ⟨fun i hi => by simp at hi⟩
theorem drew (h : IntsAt w oa L) : IntsAt w.drew oa L := ⟨h.cells⟩
theorem get (h : IntsAt w oa L) (i : Nat) (hi : i < L.length) : ∃ a, oa = some a ∧ w.cell? (a.add i) = some (.int .i64 ((L.getD i 0 : Nat) : Int)) := by
  obtain ⟨a, h1, _, h3⟩ := h.cells i hi
  exact ⟨a, h1, by rw [h3]; simp [List.getD_eq_getElem?_getD, hi]⟩
end IntsAt
theorem add_cell (g i : Nat) : (⟨g, 0, none⟩ : Addr).add i = ⟨g, i, none⟩ := by unfold Addr.add; split <;> simp_all
/-- an own row as a row that is read -/
theorem intsAt_own {w : World} {base : Nat} {e : TypeId} {v : Value} {n : Nat} {L : List Nat} (h : w.ownsRow base e 1 v n (nvals L)) : ∃ oa cap, v = .slice oa L.length cap ∧ L.length ≤ cap ∧ (∀ a, oa = some a → base ≤ a.block) ∧ IntsAt w oa L := by
  have hl : L.length = n := by have := h.1; rw [length_nvals] at this; omega
  rcases h.2 with ⟨hv, h0⟩ | ⟨g, cap, cur, hv, hb, hg, hnc, _, hc, ht⟩
  · have : L = [] := List.length_eq_zero_iff.1 (by omega)
    subst this
    exact ⟨none, 0, hv, Nat.le_refl _, (fun a h => by cases h), IntsAt.nil⟩
  · refine ⟨some ⟨g, 0, none⟩, cap, by rw [hl]; exact hv, by rw [hl]; exact hnc, (fun a h => by cases h; exact hb), ⟨fun i hi => ⟨_, rfl, lt_of_heap hg, ?_⟩⟩⟩
    have hx := h.cells (g := g) (by rw [hv]; rfl) i (.int .i64 (L[i] : Int)) (by simp [nvals, hi])
    exact hx
theorem intsAt_block {w : World} {g : Nat} {t : TypeId} {cs : Array Value} {L : List Nat} (h : w.heap[g]? = some (.cells cs t (0, 0))) (hc : cs = (nvals L).toArray) : IntsAt w (some ⟨g, 0, none⟩) L := ⟨fun i hi => by
  refine ⟨_, rfl, lt_of_heap h, ?_⟩
  rw [add_cell, cell_of_row w g i _ _ _ h, hc]
  simp [nvals, hi]⟩
end Go.Proofs.YtohemcdcmlngiaaDoor
