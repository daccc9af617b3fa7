/-
  Chapter 14, for Draw: copies of lists.
-/
import Derived.Test.YtlbdcgnpkapncaaDoorAuQ
import Derived.Test.YtlbdcgnpkapncaaDoorGood
import Derived.Lib.SliceRun
namespace Go.Proofs.YtlbdcgnpkapncaaDoor
set_option linter.unusedVariables false
set_option linter.unusedSimpArgs false
open Go.RowKit ML FM AU

/-- texts -/
def isStr : Value → Bool
  | .string _ => true
  | _ => false
theorem fvals_str (F : List (Bytes × Bytes)) : ∀ v ∈ fvals F, isStr v = true := by
  intro v hv
  unfold fvals at hv
  obtain ⟨p, _, h⟩ := List.mem_flatMap.1 hv
  simp only [fcell, List.mem_cons, List.not_mem_nil, or_false] at h
  rcases h with rfl | rfl <;> rfl
theorem zero_str : ∀ u ∈ (Value.agg #[.string ⟨#[]⟩, .string ⟨#[]⟩]).cells.toList, isStr u = true := by
  intro u hu
  simp only [Value.cells, List.mem_cons, List.not_mem_nil, or_false] at hu
  rcases hu with rfl | rfl <;> rfl
theorem ints_flat {w : World} {a : Addr} {L : List Int} (h : IsAt w (some a) L) : ∀ j u, (ivals L)[j]? = some u → w.cell? (a.add j) = some u := fun j u hj => by
  unfold ivals at hj
  rw [List.getElem?_map] at hj
  obtain ⟨x, hx, rfl⟩ := Option.map_eq_some_iff.1 hj
  obtain ⟨hl, rfl⟩ := List.getElem?_eq_some_iff.1 hx
  obtain ⟨a', ha, _, hc⟩ := h.cells j hl
  cases ha
  exact hc
theorem fs_flat {w : World} {a : Addr} {F : List (Bytes × Bytes)} (h : FsAt w (some a) F) : ∀ j u, (fvals F)[j]? = some u → w.cell? (a.add j) = some u := fun j u hj => by
  have hl := (List.getElem?_eq_some_iff.1 hj).1
  rw [length_fvals] at hl
  have hk : j / 2 < F.length := by omega
  obtain ⟨a', ha, _, hc⟩ := h.cells (j / 2) hk
  cases ha
  have hr : j % 2 < 2 := Nat.mod_lt _ (by decide)
  have hx : ∃ v, (fcell F[j / 2])[j % 2]? = some v := by
    have : j % 2 = 0 ∨ j % 2 = 1 := by omega
    rcases this with e | e <;> rw [e] <;> exact ⟨_, rfl⟩
  obtain ⟨v, hv⟩ := hx
  have h1 := hc (j % 2) v hv
  have h2 := fvals_get F (j / 2) hk (j % 2) v hv
  rw [show j / 2 * 2 + j % 2 = j by omega] at h2
  rw [Go.Deep.add_add, show j / 2 * 2 + j % 2 = j by omega] at h1
  rw [h2] at hj
  cases hj
  exact h1
set_option maxHeartbeats 1000000 in
set_option maxRecDepth 100000 in
theorem cloneInts_any (oa : Option Addr) (L : List Int) (cap : Nat) (w : World) (h : IsAt w oa L) (hl : L.length < 140737488355) :
    Calls Tryd.prog 43 #[.slice oa L.length cap] w fun e w' => ∃ ob cb, e = .returned (.slice ob L.length cb) ∧ w'.ownsRow w.heap.size 3 1 (.slice ob L.length cb) L.length (ivals L) ∧ Below w.heap.size w w' := by
  obtain ⟨i0, hi, hz0, hz1, hz2⟩ := info_parts info_i64
  have I0 := Lib.hid hi
  have IZ0 := Lib.hid hz0
  have IZ1 := Lib.hid hz1
  have IZ2 := Lib.hid hz2
  clear hi hz0 hz1 hz2
  have H := Lib.hid h
  clear h
  cases oa with
  | none =>
    have hL : L = [] := by
      cases L with
      | nil => rfl
      | cons x r => obtain ⟨a, ha, _⟩ := H.out.cells 0 (by simp); cases ha
    subst hL
    have qE := Lib.run_eql_slice_nil (P := Tryd.prog) w 22 3 none 0 cap 0 0 Tryd.underlying22
    simp only [Option.isNone_none] at qE
    go_enter Tryd.func43, Tryd.ntmps43
    go_wp2_with fail
    go_ret
    exact ⟨none, 0, rfl, World.ownsRow_nil _ _ _ _, Below.refl _ _⟩
  | some a =>
    have qE := Lib.run_eql_slice_nil (P := Tryd.prog) w 22 3 (some a) L.length cap 0 0 Tryd.underlying22
    simp only [Option.isNone_some] at qE
    go_enter Tryd.func43, Tryd.ntmps43
    go_wp2_with (at_builtin; refine wpList_append_own _ rfl (.tmp 5) (.tmp 6) 22 rfl w.heap.size 3 i0 (.int .i64 0) 1 8 Tryd.underlying22 I0.out IZ0.out IZ1.out IZ2.out rfl (by decide) (.slice (some ⟨w.heap.size, 0, none⟩) 0 0) 0 [] rfl (World.ownsRow_lit w #[] 0 (Nat.le_refl _) (by unfold maxLen; omega) rfl) a L.length cap (ivals L) rfl (by simp [ivals]) (ints_flat (H.out.below ((Below.refl _ _).alloc (Nat.le_refl _) _))) (ivals_one _) (by unfold maxLen; omega) (by omega) (by simp) ?_; intro v' w2 own hg _)
    go_ret
    simp only [Nat.zero_add, List.nil_append] at own
    obtain ⟨ob, cb, rfl, _, _⟩ := isAt_own own
    exact ⟨ob, cb, rfl, own, ((Below.refl _ _).alloc (Nat.le_refl _) _).grown hg (by simp) (fun q hq => by simp [Value.ownBlock] at hq; omega)⟩
set_option maxHeartbeats 1000000 in
set_option maxRecDepth 100000 in
theorem cloneFracs_any (oa : Option Addr) (F : List (Bytes × Bytes)) (cap : Nat) (w : World) (h : FsAt w oa F) (hl : F.length < 140737488355) :
    Calls Tryd.prog 44 #[.slice oa F.length cap] w fun e w' => ∃ ob cb, e = .returned (.slice ob F.length cb) ∧ GRow isStr w' w.heap.size 24 2 (.slice ob F.length cb) F.length (fvals F) ∧ Below w.heap.size w w' := by
  obtain ⟨i0, hi, hz0, hz1, hz2⟩ := info_parts info_frac
  have I0 := Lib.hid hi
  have IZ0 := Lib.hid hz0
  have IZ1 := Lib.hid hz1
  have IZ2 := Lib.hid hz2
  clear hi hz0 hz1 hz2
  have H := Lib.hid h
  clear h
  cases oa with
  | none =>
    have hL : F = [] := by
      cases F with
      | nil => rfl
      | cons x r => obtain ⟨a, ha, _⟩ := H.out.cells 0 (by simp); cases ha
    subst hL
    have qE := Lib.run_eql_slice_nil (P := Tryd.prog) w 25 24 none 0 cap 0 0 Tryd.underlying25
    simp only [Option.isNone_none] at qE
    go_enter Tryd.func44, Tryd.ntmps44
    go_wp2_with fail
    go_ret
    exact ⟨none, 0, rfl, GRow.nil, Below.refl _ _⟩
  | some a =>
    have GN : GRow isStr (w.alloc (.cells #[] 24)) w.heap.size 24 2 (.slice (some ⟨w.heap.size, 0, none⟩) 0 0) 0 [] := ⟨World.ownsRow_lit w #[] 0 (Nat.le_refl _) (by unfold maxLen; omega) rfl, fun g cur t fr hv hc => by
      have hg : w.heap.size = g := by simpa [Value.ownBlock] using hv
      subst hg
      rw [heap_alloc_new w] at hc
      injection hc with hc
      injection hc with hc
      subst hc
      intro u hu
      simp at hu⟩
    have HGN := Lib.hid GN
    clear GN
    have qE := Lib.run_eql_slice_nil (P := Tryd.prog) w 25 24 (some a) F.length cap 0 0 Tryd.underlying25
    simp only [Option.isNone_some] at qE
    go_enter Tryd.func44, Tryd.ntmps44
    go_wp2_with (at_builtin; refine wpList_append_good _ rfl (.tmp 5) (.tmp 6) 25 rfl w.heap.size 24 i0 (.agg #[.string ⟨#[]⟩, .string ⟨#[]⟩]) 2 32 Tryd.underlying25 I0.out IZ0.out IZ1.out IZ2.out rfl (by decide) zero_str (.slice (some ⟨w.heap.size, 0, none⟩) 0 0) 0 [] rfl HGN.out a F.length cap (fvals F) rfl (length_fvals F) (fs_flat (H.out.below ((Below.refl _ _).alloc (Nat.le_refl _) _))) (fvals_one _) (fvals_str _) (fun h => by cases h) (by unfold maxLen; omega) (by omega) (by simp) _ rfl ?_; intro g9 c9 w2 own hg hf hlt)
    go_ret
    simp only [Nat.zero_add, List.nil_append] at own
    refine ⟨some ⟨g9, 0, none⟩, c9, by simp, own, ((Below.refl _ _).alloc (Nat.le_refl _) _).grown hg (by simp) (fun q hq => by simp [Value.ownBlock] at hq; omega)⟩
end Go.Proofs.YtlbdcgnpkapncaaDoor
