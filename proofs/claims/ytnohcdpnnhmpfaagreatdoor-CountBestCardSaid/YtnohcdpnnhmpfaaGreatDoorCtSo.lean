/-
  Chapter 13, for Pairs: slices.Sort of ints, off the shelf.
-/
import Derived.Test.YtnohcdpnnhmpfaaGreatDoorCtL
import Derived.Test.YtnohcdpnnhmpfaaGreatDoorCtSh
namespace Go.Proofs.YtnohcdpnnhmpfaaGreatDoor
set_option linter.unusedVariables false
set_option linter.unusedSimpArgs false
open Go.RowKit ML FM AU CT

def sortI (L : List Int) : List Int := L.mergeSort fun x y => decide (x ≤ y)
theorem length_sortI (L : List Int) : (sortI L).length = L.length := (List.mergeSort_perm L _).length_eq
theorem onCells_cells (f : Array Value → Array Value) (c : Array Value) (e : TypeId) (fr : Nat × Nat) : Go.Sort.onCells f (.cells c e fr) = .cells (f c) e fr := rfl
/-- a row that was put anew, and what was added behind -/
theorem put_own {w w' : World} {n base X cap : Nat} {e : TypeId} {L S : List Int} {os : Array Obj} (hw : w' = Go.Sort.grow (Go.Sort.putRow (Value.int .i64) (Go.Sort.ahead w n) X 0 S.toArray) os) (hl : S.length = L.length)
    (h : w.ownsRow base e 1 (.slice (some ⟨X, 0, none⟩) L.length cap) L.length (ivals L)) (h0 : 0 < L.length) : w.grownBy w' (some X) ∧ w'.ownsRow base e 1 (.slice (some ⟨X, 0, none⟩) L.length cap) L.length (ivals S) := by
  subst hw
  have hh : (Go.Sort.grow (Go.Sort.putRow (Value.int .i64) (Go.Sort.ahead w n) X 0 S.toArray) os).heap = w.heap.modify X (Go.Sort.onCells (Go.Sort.putCells (Value.int .i64) 0 S.toArray)) ++ os := rfl
  have hs : (w.heap.modify X (Go.Sort.onCells (Go.Sort.putCells (Value.int .i64) 0 S.toArray))).size = w.heap.size := by simp
  have hk : ∀ k, k < w.heap.size → (Go.Sort.grow (Go.Sort.putRow (Value.int .i64) (Go.Sort.ahead w n) X 0 S.toArray) os).heap[k]? = if X = k then (w.heap[k]?).map (Go.Sort.onCells (Go.Sort.putCells (Value.int .i64) 0 S.toArray)) else w.heap[k]? := by
    intro k hk
    rw [hh, Array.getElem?_append, if_pos (by rw [hs]; exact hk), Array.getElem?_modify]
  rcases h.2 with ⟨hv, _⟩ | ⟨g, cp, cur, hv, hb, hg, hnc, hcm, hsz, ht⟩
  · cases hv
  · injection hv with hv1 _ hv2
    injection hv1 with hv1
    injection hv1 with hv1
    subst hv1
    subst hv2
    have hX : X < w.heap.size := lt_of_heap hg
    refine ⟨⟨rfl, rfl, rfl, by rw [hh, Array.size_append, hs]; omega, fun k hkl hne => ?_⟩, ?_, Or.inr ⟨X, cap, Go.Sort.putCells (Value.int .i64) 0 S.toArray cur, rfl, hb, ?_, hnc, hcm, ?_, ?_⟩⟩
    · rw [hk k hkl, if_neg (fun e => hne (by rw [e]))]
    · simp [ivals, hl]
    · rw [hk X hX, if_pos rfl, hg]
      simp only [Option.map_some, onCells_cells]
    · simp [Go.Sort.putCells, hsz]
    · apply List.ext_getElem?
      intro j
      rw [List.getElem?_take, Nat.mul_one]
      by_cases hj : j < L.length
      · rw [if_pos hj]
        have hjc : j < cur.size := by rw [hsz, Nat.mul_one]; omega
        have hjS : j < S.length := by omega
        simp [Go.Sort.putCells, hjc, ivals, hjS, hl, hj]
      · rw [if_neg hj]
        exact (List.getElem?_eq_none (by simp [ivals]; omega)).symm
theorem sort_any (L : List Int) (X cap base : Nat) (w : World) (h0 : 0 < L.length) (hl : L.length ≤ 1048576) (hD : w.ownsRow base 3 1 (.slice (some ⟨X, 0, none⟩) L.length cap) L.length (ivals L)) :
    Calls Tryz.prog 64 #[.slice (some ⟨X, 0, none⟩) L.length cap] w fun e w' => e = .returned (.tuple #[]) ∧ w.grownBy w' (some X) ∧ w'.ownsRow base 3 1 (.slice (some ⟨X, 0, none⟩) L.length cap) L.length (ivals (sortI L)) := by
  obtain ⟨oa, cp, he, _, hI⟩ := isAt_own hD
  injection he with he _ _
  have hlt : X < w.heap.size := (hD.lt X rfl).2
  have hH : Go.Sort.Holds (Value.int .i64) w X 0 L.toArray := fun j hj => by
    have hj : j < L.length := hj
    rw [Nat.zero_add]
    obtain ⟨a, ha, _, hc⟩ := hI.cells j hj
    rw [← he] at ha
    injection ha with ha
    subst ha
    rw [Addr.add_mid, Nat.zero_add] at hc
    refine ⟨by rw [hc]; simp [hj], ?_⟩
    have := hD.frozenAt (g := X) j
    exact this
  refine (Tryz.slices_Sort_int X 0 cap L w hH hlt (by omega)).mono ?_
  rintro e w' ⟨rfl, n, os, hw⟩
  exact ⟨rfl, put_own hw (length_sortI L) hD h0⟩
end Go.Proofs.YtnohcdpnnhmpfaaGreatDoor
