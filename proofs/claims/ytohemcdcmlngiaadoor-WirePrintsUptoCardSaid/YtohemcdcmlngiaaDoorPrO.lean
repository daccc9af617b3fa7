/-
  Chapter 4, WirePrints: a node among the arguments.
-/
import Derived.Test.YtohemcdcmlngiaaDoorRows
import Derived.Test.YtohemcdcmlngiaaDoorFrame
import Derived.Test.YtohemcdcmlngiaaDoorPrP
import Derived.Deep.Slices
import Derived.Deep.Fields
import Derived.ChangeSame
import Derived.SizedLaws
namespace Go.Proofs.YtohemcdcmlngiaaDoor.PR
set_option linter.unusedVariables false
set_option linter.unusedSimpArgs false
open Go.RowKit ML FM
open Go.ChangeShapes Go.WideShapes Go.ChangeAt Go.Deep

theorem choose2 {α β : Type} {P : Nat → α → β → Prop} (a0 : α) (b0 : β) (n : Nat) (h : ∀ i, i < n → ∃ x y, P i x y) : ∃ (f : Nat → α) (g : Nat → β), ∀ i, i < n → P i (f i) (g i) := by
  classical
  refine ⟨fun i => if hi : i < n then (h i hi).choose else a0, fun i => if hi : i < n then (h i hi).choose_spec.choose else b0, fun i hi => ?_⟩
  simp only [hi, dif_pos]
  exact (h i hi).choose_spec.choose_spec
def inf0 : Inf := ⟨true, 0, 0, [], 0⟩
theorem bulk_list {H : Type} : ∀ (L : List (DataW H)) (f : Nat → Nat), (∀ i (h : i < L.length), f i ≤ Rows.uptoBulk L[i]) → sumN f L.length ≤ Rows.uptoBulkAll L
  | [], f, _ => Nat.zero_le _
  | d :: L, f, h => by
    have h1 := bulk_list L (fun i => f (i + 1)) (fun i hi => h (i + 1) (by simp; omega))
    have h2 : f 0 ≤ Rows.uptoBulk d := h 0 (by simp)
    have h3 : ∀ n, sumN f (n + 1) = f 0 + sumN (fun i => f (i + 1)) n := by
      intro n
      induction n with
      | zero => show 0 + f 0 = f 0 + 0; omega
      | succ n ih =>
        show sumN f (n + 1) + f (n + 1) = f 0 + (sumN (fun i => f (i + 1)) n + f (n + 1))
        rw [ih]; omega
    rw [List.length_cons, h3]
    simp only [Rows.uptoBulkAll]
    omega
section
variable {H : Type} {enc : TypeId × Value → H} {w : World} {base : Nat} {spare : Nat → Bool} {held : Bool}
set_option maxRecDepth 100000 in
theorem node_t : ∀ (fuel : Nat) (cs : List Value) (x : DataW H × List MemPlace), DataW.trod enc Tryd.prog w base spare held fuel 24 cs = some x → ∃ I, NdAt w cs I ∧ I.bulk ≤ Rows.uptoBulk x.1 := by
  intro fuel
  induction fuel using Nat.strongRecOn with
  | ind fuel ih =>
  intro cs x h
  obtain ⟨ys, n', hfu, hx, hlen, hyl, hf⟩ := DataW.trod_struct Tryd.underlying24 h
  have hC : Tryd.prog.cellsOf 24 = 3 := by kernel_rfl
  have hI : Tryd.prog.cellsOf 4 = 1 := by kernel_rfl
  have hS : Tryd.prog.cellsOf 9 = 1 := by kernel_rfl
  have hL : Tryd.prog.cellsOf 22 = 1 := by kernel_rfl
  rw [hC] at hlen
  match cs, hlen, ys, hyl with
  | [c0, c1, c2], _, [y0, y1, y2], _ =>
    have h0 : DataW.trod enc Tryd.prog w base spare held n' 4 ((List.drop 0 [c0, c1, c2]).take (Tryd.prog.cellsOf 4)) = some y0 := hf 0 _ rfl
    rw [hI] at h0
    have g0 : DataW.trod enc Tryd.prog w base spare held n' 4 [c0] = some y0 := h0
    have h1 : DataW.trod enc Tryd.prog w base spare held n' 9 ((List.drop 1 [c0, c1, c2]).take (Tryd.prog.cellsOf 9)) = some y1 := hf 1 _ rfl
    rw [hS] at h1
    have g1 : DataW.trod enc Tryd.prog w base spare held n' 9 [c1] = some y1 := h1
    have h2 : DataW.trod enc Tryd.prog w base spare held n' 22 ((List.drop 2 [c0, c1, c2]).take (Tryd.prog.cellsOf 22)) = some y2 := hf 2 _ rfl
    rw [hL] at h2
    have g2 : DataW.trod enc Tryd.prog w base spare held n' 22 [c2] = some y2 := h2
    obtain ⟨l, e0, f0⟩ := DataW.trod_bool Tryd.underlying4 g0
    obtain ⟨T, e1, f1, _⟩ := DataW.trod_string Tryd.underlying9 g1
    simp only [List.cons.injEq, and_true] at e0 e1
    subst e0
    subst e1
    rcases DataW.trod_slice Tryd.underlying22 g2 with ⟨e2, f2⟩ | ⟨a, len, cap, elems, rest, n2, hn2, e2, f2, hb, hlc, hcm, hel, hels, _, _⟩
    · simp only [List.cons.injEq, and_true] at e2
      subst e2
      refine ⟨nodeI l T.data.toList 0 (fun _ => inf0), ?_, ?_⟩
      · exact NdAt.mk l T.data.toList none 0 0 (fun _ => []) (fun _ => inf0) (by omega) (fun i hi => by omega) (fun i hi => by omega)
      · rw [hx]
        have h3 : (nodeI l T.data.toList 0 (fun _ => inf0)).bulk = T.data.toList.length + 1 + 0 := by unfold nodeI; cases l <;> rfl
        rw [h3]
        simp only [List.map_cons, List.map_nil, f0, f1, f2, Rows.uptoBulk, Rows.uptoBulkAll]
        omega
    · simp only [List.cons.injEq, and_true] at e2
      subst e2
      obtain ⟨C, I, hCI⟩ := choose2 (P := fun i cs' (I : Inf) => (cs'.length = 3 ∧ ∀ j u, cs'[j]? = some u → w.cell? ((a.add (i * 3)).add j) = some u) ∧ NdAt w cs' I ∧ ∀ h : i < elems.length, I.bulk ≤ Rows.uptoBulk elems[i].1) [] inf0 len (fun i hi => by
        have hi' : i < elems.length := by omega
        have h3 := hels i hi
        rw [List.getElem?_eq_getElem hi', hC] at h3
        cases hcs : w.cells? base (a.add (i * 3)) 3 with
        | none => rw [hcs] at h3; cases h3
        | some cs' =>
          rw [hcs] at h3
          obtain ⟨I, hI1, hI2⟩ := ih n2 (by omega) cs' elems[i] h3
          obtain ⟨_, hcl, hat⟩ := World.cells?_some hcs
          refine ⟨cs', I, ⟨hcl, fun j u hu => ?_⟩, hI1, fun _ => hI2⟩
          have hj := (List.getElem?_eq_some_iff.1 hu).1
          rw [hat j (by omega)]
          exact hu)
      refine ⟨nodeI l T.data.toList len I, ?_, ?_⟩
      · refine NdAt.mk l T.data.toList (some a) len cap C I (by have := hcm; unfold maxLen at this; omega) (fun i hi => ?_) (fun i hi => (hCI i hi).2.1)
        obtain ⟨⟨h1, h2⟩, _⟩ := hCI i hi
        refine ⟨a, rfl, ?_, h1, h2⟩
        match hq : C i, h1 with
        | u :: _, _ =>
          have h4 := h2 0 u (by rw [hq]; rfl)
          by_cases hlt : a.block < w.heap.size
          · exact hlt
          · exfalso
            have h5 : w.heap[a.block]? = none := Array.getElem?_eq_none (by omega)
            have h6 : ((a.add (i * 3)).add 0).block = a.block := by rw [addr_block, addr_block]
            unfold World.cell? at h4
            simp [h6, h5] at h4
      · rw [hx]
        have h3 : (nodeI l T.data.toList len I).bulk = T.data.toList.length + 1 + sumN (fun i => (I i).bulk) len := by unfold nodeI; cases l <;> rfl
        have h4 : sumN (fun i => (I i).bulk) len ≤ Rows.uptoBulkAll (elems.map (·.1)) := by
          have := bulk_list (elems.map (·.1)) (fun i => (I i).bulk) (fun i hi => by
            have hi' : i < elems.length := by simpa using hi
            have := (hCI i (by omega)).2.2 hi'
            simpa using this)
          rw [List.length_map, hel] at this
          exact this
        rw [h3]
        simp only [List.map_cons, List.map_nil, f0, f1, f2, Rows.uptoBulk, Rows.uptoBulkAll]
        omega
end
end Go.Proofs.YtohemcdcmlngiaaDoor.PR
