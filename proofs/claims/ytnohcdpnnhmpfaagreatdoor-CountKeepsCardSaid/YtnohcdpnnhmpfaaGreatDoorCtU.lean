/-
  Chapter 13: copies of lists of ints. (Picked out of AuE.)
-/
import Derived.Test.YtnohcdpnnhmpfaaGreatDoorCtD
import Derived.Lib.SliceRun
namespace Go.Proofs.YtnohcdpnnhmpfaaGreatDoor
set_option linter.unusedVariables false
set_option linter.unusedSimpArgs false
open Go.RowKit ML FM AU CT
theorem ints_flat {w : World} {a : Addr} {L : List Int} (h : IsAt w (some a) L) : ∀ j u, (ivals L)[j]? = some u → w.cell? (a.add j) = some u := fun j u hj => by
  unfold ivals at hj
  rw [List.getElem?_map] at hj
  obtain ⟨x, hx, rfl⟩ := Option.map_eq_some_iff.1 hj
  obtain ⟨hl, rfl⟩ := List.getElem?_eq_some_iff.1 hx
  obtain ⟨a', ha, _, hc⟩ := h.cells j hl
  cases ha
  exact hc
set_option maxHeartbeats 1000000 in
set_option maxRecDepth 100000 in
theorem cloneInts_any (oa : Option Addr) (L : List Int) (cap : Nat) (w : World) (h : IsAt w oa L) (hl : L.length < 140737488355) :
    Calls Tryz.prog 126 #[.slice oa L.length cap] w fun e w' => ∃ ob cb, e = .returned (.slice ob L.length cb) ∧ w'.ownsRow w.heap.size 3 1 (.slice ob L.length cb) L.length (ivals L) ∧ Below w.heap.size w w' := by
  obtain ⟨i0, hi, hz0, hz1, hz2⟩ := info_parts info_i64
  have I0 := Lib.hid hi
  have IZ0 := Lib.hid hz0
  have IZ1 := Lib.hid hz1
  have IZ2 := Lib.hid hz2
  clear hi hz0 hz1 hz2
  have H := Lib.hid h
  clear h
  cases oa with
  | none =>
    have hL : L = [] := by
      cases L with
      | nil => rfl
      | cons x r => obtain ⟨a, ha, _⟩ := H.out.cells 0 (by simp); cases ha
    subst hL
    have qE := Lib.run_eql_slice_nil (P := Tryz.prog) w 29 3 none 0 cap 0 0 Tryz.underlying29
    simp only [Option.isNone_none] at qE
    go_enter Tryz.func126, Tryz.ntmps126
    go_wp2_with fail
    go_ret
    exact ⟨none, 0, rfl, World.ownsRow_nil _ _ _ _, Below.refl _ _⟩
  | some a =>
    have qE := Lib.run_eql_slice_nil (P := Tryz.prog) w 29 3 (some a) L.length cap 0 0 Tryz.underlying29
    simp only [Option.isNone_some] at qE
    go_enter Tryz.func126, Tryz.ntmps126
    go_wp2_with (at_builtin; refine wpList_append_own _ rfl (.tmp 5) (.tmp 6) 29 rfl w.heap.size 3 i0 (.int .i64 0) 1 8 Tryz.underlying29 I0.out IZ0.out IZ1.out IZ2.out rfl (by decide) (.slice (some ⟨w.heap.size, 0, none⟩) 0 0) 0 [] rfl (World.ownsRow_lit w #[] 0 (Nat.le_refl _) (by unfold maxLen; omega) rfl) a L.length cap (ivals L) rfl (by simp [ivals]) (ints_flat (H.out.below ((Below.refl _ _).alloc (Nat.le_refl _) _))) (ivals_one _) (by unfold maxLen; omega) (by omega) (by simp) ?_; intro v' w2 own hg _)
    go_ret
    simp only [Nat.zero_add, List.nil_append] at own
    obtain ⟨ob, cb, rfl, _, _⟩ := isAt_own own
    exact ⟨ob, cb, rfl, own, ((Below.refl _ _).alloc (Nat.le_refl _) _).grown hg (by simp) (fun q hq => by simp [Value.ownBlock] at hq; omega)⟩
end Go.Proofs.YtnohcdpnnhmpfaaGreatDoor
