/-
  A slice of strings among the arguments, as a list of texts; what the bulk gives.
  A contest among the arguments: what it reads as, how great it is. Printed by tools/genopen.py.
  Rows of ints among the arguments.
-/
import Derived.Test.YtnohcdpnnhmpfaaGreatDoorRows
import Derived.Test.YtnohcdpnnhmpfaaGreatDoorFrame
import Derived.Test.YtnohcdpnnhmpfaaGreatDoorBFb
import Derived.SliceStrings
import Derived.Test.YtnohcdpnnhmpfaaGreatDoorCtD
import Derived.Deep.Slices
import Derived.Deep.Fields
import Derived.ChangeSame
import Derived.SizedLaws
import Derived.Test.YtnohcdpnnhmpfaaGreatDoorBCf
namespace Go.Proofs.YtnohcdpnnhmpfaaGreatDoor.FR
open Go.RowKit ML FM
open Go.ChangeShapes Go.WideShapes Go.ChangeAt

section
variable {H : Type} {enc : TypeId × Value → H} {P : Program} {w : World} {base : Nat} {spare : Nat → Bool} {held : Bool}
theorem lt_of_cell {w : World} {p : Addr} {v : Value} (h : w.cell? p = some v) : p.block < w.heap.size := by
  by_cases hlt : p.block < w.heap.size
  · exact hlt
  · have h0 : w.heap[p.block]? = none := Array.getElem?_eq_none (by omega)
    unfold World.cell? at h
    simp [h0] at h
def strD (Ps : List Bytes) : List (DataW H) := Ps.map fun p => .lit (.string p)
theorem open_strs {r : Reach} {b0 : Nat} {t e : TypeId} {v : Value} {d : DataW H} {ps : List MemPlace} (ht : P.underlying t = some (.slice e)) (he : P.underlying e = some .string) (hc : P.cellsOf e = 1)
    (hval : Value.okWide P w r b0 t v) (hd : DataW.Trod enc P w base spare held t v d ps) :
    ∃ (oa : Option Addr) (cap : Nat) (Ps : List Bytes), v = .slice oa Ps.length cap ∧ StrsAt w oa Ps ∧ ((d = .nil ∧ Ps = []) ∨ ∃ sp, d = .slice (strD Ps) sp) := by
  obtain ⟨oa, len, cap, rfl⟩ := okWide_slice ht hval
  obtain ⟨fuel, hf⟩ := hd
  rcases open_strings ht he hc hf with ⟨hcs, hx⟩ | ⟨a, len', cap', ss, hcs, _, hl, hm, hz, hx, hcell, hsz⟩
  · simp [Value.cells] at hcs
    obtain ⟨rfl, rfl, rfl⟩ := hcs
    simp only [Prod.mk.injEq] at hx
    exact ⟨none, 0, [], rfl, ⟨fun i hi => by simp at hi⟩, .inl ⟨hx.1, rfl⟩⟩
  · simp [Value.cells] at hcs
    obtain ⟨rfl, rfl, rfl⟩ := hcs
    simp only [Prod.mk.injEq] at hx
    have hlen : len ≤ ss.length := by rw [hz]; split <;> omega
    refine ⟨some a, cap, (ss.take len).map (fun s => s.data.toList), by simp [hlen], ⟨fun i hi => ?_⟩, .inr ⟨_, by rw [hx.1]; congr 1; simp only [strD, strs, List.map_map]; rfl⟩⟩
    have hi2 : i < len := by simp at hi; omega
    have hc2 := hcell i (by omega)
    have hb : (a.add i).block < w.heap.size := lt_of_cell hc2
    rw [add_block] at hb
    refine ⟨a, rfl, hb, ?_⟩
    rw [hc2]
    have hi3 : i < ss.length := by omega
    simp [List.getD_eq_getElem?_getD, hi3]
end
theorem bulk_strD {H : Type} (Ps : List Bytes) : ((Ps.flatMap fun x => fourN x.length ++ x).length ≤ 4 * Rows.uptoBulkAll (strD (H := H) Ps)) ∧ Ps.length ≤ Rows.uptoBulkAll (strD (H := H) Ps) := by
  induction Ps with
  | nil => simp [strD]
  | cons p r ih =>
    simp only [strD, List.map_cons, Rows.uptoBulkAll, Rows.uptoBulk, List.flatMap_cons, List.length_append, List.length_cons] at ih ⊢
    have h4 : (fourN p.length).length = 4 := rfl
    rw [h4]
    omega
theorem bulk_joinL {H : Type} (L : Bytes) (Ps : List Bytes) : (joinL L Ps).length ≤ 4 * (L.length + 1 + Rows.uptoBulkAll (strD (H := H) Ps)) := by
  have hb := (bulk_strD (H := H) Ps).1
  unfold joinL
  rw [List.flatMap_cons, List.length_append, List.length_append]
  have h4 : (fourN (List.length L)).length = 4 := rfl
  refine Nat.le_trans (Nat.add_le_add_left hb _) ?_
  rw [h4]
  omega
end Go.Proofs.YtnohcdpnnhmpfaaGreatDoor.FR
namespace Go.Proofs.YtnohcdpnnhmpfaaGreatDoor.FR
open Go.RowKit ML FM AU CT
open Go.ChangeShapes Go.WideShapes Go.ChangeAt Go.Deep
set_option linter.unusedVariables false
section
variable {H : Type} {enc : TypeId × Value → H} {w : World} {base : Nat} {spare : Nat → Bool} {held : Bool}
theorem listOf {α : Type} {P : Nat → α → Prop} : ∀ n, (∀ i, i < n → ∃ x, P i x) → ∃ l : List α, l.length = n ∧ ∀ i (h : i < l.length), P i l[i] := by
  intro n
  induction n with
  | zero => intro _; exact ⟨[], rfl, fun i h => by simp at h⟩
  | succ n ih =>
    intro h
    obtain ⟨l, hl, hp⟩ := ih (fun i hi => h i (by omega))
    obtain ⟨x, hx⟩ := h n (by omega)
    refine ⟨l ++ [x], by simp [hl], fun i hi => ?_⟩
    by_cases hlt : i < l.length
    · rw [List.getElem_append_left hlt]; exact hp i hlt
    · have : i = l.length := by simp at hi; omega
      subst this
      rw [List.getElem_append_right (Nat.le_refl _)]
      simp only [Nat.sub_self, List.getElem_singleton]
      rw [hl]; exact hx
def intD {H : Type} (v : Int) : DataW H := .lit (.int .i64 v)
set_option maxRecDepth 100000 in
theorem ints_t {n : Nat} {cs : List Value} {x : DataW H × List MemPlace} (h : DataW.trod enc Tryz.prog w base spare held n 29 cs = some x) :
    ∃ (oa : Option Addr) (cap : Nat) (L : List Int), cs = [.slice oa L.length cap] ∧ L.length < 9223372036854775808 ∧ IsAt w oa L ∧ ((x.1 = .nil ∧ L = []) ∨ ∃ sp, x.1 = .slice (L.map intD) sp) := by
  have hC : Tryz.prog.cellsOf 3 = 1 := by kernel_rfl
  rcases open_slice1 Tryz.underlying29 hC h with ⟨hcs, hx⟩ | ⟨a, len, cap, m, n', V, D, Pl, hcs, _, hl, hcm, hm, hx, hel⟩
  · subst hcs
    exact ⟨none, 0, [], rfl, (show (0 : Nat) < 9223372036854775808 by omega), ⟨fun i hi => by simp at hi⟩, .inl ⟨by rw [hx], rfl⟩⟩
  · subst hcs
    have hlm : len ≤ m := by rw [hm]; split <;> omega
    obtain ⟨L, hLl, hLs⟩ := listOf (P := fun i (x : Int) => w.cell? (a.add i) = some (.int .i64 x) ∧ D i = intD x) len (fun i hi => by
      obtain ⟨h1, h2⟩ := hel i (by omega)
      obtain ⟨x, e, f, _⟩ := DataW.trod_int Tryz.underlying3 h2
      simp only [List.cons.injEq, and_true] at e
      exact ⟨x, by rw [h1, e], (Prod.mk.inj f).1⟩)
    have hDl : (List.range len).map D = L.map intD := by
      apply List.ext_getElem (by simp [hLl])
      intro i h1 h2
      simp only [List.getElem_map, List.getElem_range]
      exact (hLs i (by simpa using h2)).2
    refine ⟨some a, cap, L, by rw [hLl], by rw [hLl]; unfold maxLen at hcm; omega, ⟨fun i hi => ⟨a, rfl, ?_, (hLs i hi).1⟩⟩, .inr ⟨_, by rw [hx, hDl]⟩⟩
    have hb := lt_of_cell (hLs i hi).1
    rw [addr_block] at hb
    exact hb
set_option maxRecDepth 100000 in
theorem strs_t {n : Nat} {cs : List Value} {x : DataW H × List MemPlace} (h : DataW.trod enc Tryz.prog w base spare held n 22 cs = some x) :
    ∃ (oa : Option Addr) (cap : Nat) (Ps : List Bytes), cs = [.slice oa Ps.length cap] ∧ StrsAt w oa Ps ∧ ((x.1 = .nil ∧ Ps = []) ∨ ∃ sp, x.1 = .slice (strD Ps) sp) := by
  have hC : Tryz.prog.cellsOf 9 = 1 := by kernel_rfl
  rcases open_strings Tryz.underlying22 Tryz.underlying9 hC h with ⟨hcs, hx⟩ | ⟨a, len, cap, ss, hcs, _, hl, hm, hz, hx, hcell, hsz⟩
  · subst hcs
    exact ⟨none, 0, [], rfl, ⟨fun i hi => by simp at hi⟩, .inl ⟨by rw [hx], rfl⟩⟩
  · subst hcs
    have hlen : len ≤ ss.length := by rw [hz]; split <;> omega
    refine ⟨some a, cap, (ss.take len).map (fun s => s.data.toList), by simp [hlen], ⟨fun i hi => ?_⟩, .inr ⟨_, by rw [hx]; congr 1; simp only [strD, strs, List.map_map]; rfl⟩⟩
    have hi2 : i < len := by simp at hi; omega
    have hc2 := hcell i (by omega)
    have hb : (a.add i).block < w.heap.size := lt_of_cell hc2
    rw [add_block] at hb
    refine ⟨a, rfl, hb, ?_⟩
    rw [hc2]
    have hi3 : i < ss.length := by omega
    simp [List.getD_eq_getElem?_getD, hi3]
theorem weights_strD (P : Program) (t : TypeId) (op : List Bytes) : ∀ o ∈ op, o.length ∈ DataW.weightsAll P t (strD (H := H) op) := by
  induction op with
  | nil => intro o h; cases h
  | cons p r ih =>
    intro o ho
    simp only [strD, List.map_cons, DataW.weightsAll, DataW.weights, List.mem_append, List.mem_singleton]
    rcases List.mem_cons.1 ho with rfl | ho
    · exact .inl rfl
    · exact .inr (ih o ho)
set_option maxRecDepth 100000 in
/-- a contest -/
theorem open_contest {r : Reach} {b0 : Nat} {v : Value} {d : DataW H} {ps : List MemPlace} (hval : Value.okWide Tryz.prog w r b0 24 v) (hd : DataW.Trod enc Tryz.prog w base spare held 24 v d ps) :
    ∃ (c : CTest) (oa : Option Addr) (cap : Nat), v = .agg (c.cells oa cap).toArray ∧ StrsAt w oa c.op ∧ ∀ N, (∀ n ∈ d.weights Tryz.prog 24, n ≤ N) → c.nm.length ≤ N ∧ (∀ o ∈ c.op, o.length ≤ N) ∧ c.op.length * 16 ≤ N := by
  have hC : Tryz.prog.cellsOf 24 = 5 := by kernel_rfl
  obtain ⟨cs, rfl, hsz⟩ := okWide_struct Tryz.underlying24 hval
  rw [hC] at hsz
  obtain ⟨l⟩ := cs
  obtain ⟨fuel, hf⟩ := hd
  obtain ⟨ys, n', _, hx, hlen, hyl, hf⟩ := DataW.trod_struct Tryz.underlying24 hf
  have hI : Tryz.prog.cellsOf 3 = 1 := by kernel_rfl
  have hS : Tryz.prog.cellsOf 9 = 1 := by kernel_rfl
  have hL : Tryz.prog.cellsOf 22 = 1 := by kernel_rfl
  have hBy : Tryz.prog.bytesOf 9 = 16 := by kernel_rfl
  match l, hsz, ys, hyl with
  | [a0, a1, a2, a3, a4], _, [y0, y1, y2, y3, y4], _ =>
    have h0 : DataW.trod enc Tryz.prog w base spare held n' 9 ((List.drop 0 [a0, a1, a2, a3, a4]).take (Tryz.prog.cellsOf 9)) = some y0 := hf 0 _ rfl
    rw [hS] at h0
    have h0 : DataW.trod enc Tryz.prog w base spare held n' 9 [a0] = some y0 := h0
    have h1 : DataW.trod enc Tryz.prog w base spare held n' 22 ((List.drop 1 [a0, a1, a2, a3, a4]).take (Tryz.prog.cellsOf 22)) = some y1 := hf 1 _ rfl
    rw [hL] at h1
    have h1 : DataW.trod enc Tryz.prog w base spare held n' 22 [a1] = some y1 := h1
    have h2 : DataW.trod enc Tryz.prog w base spare held n' 3 ((List.drop 2 [a0, a1, a2, a3, a4]).take (Tryz.prog.cellsOf 3)) = some y2 := hf 2 _ rfl
    rw [hI] at h2
    have h2 : DataW.trod enc Tryz.prog w base spare held n' 3 [a2] = some y2 := h2
    have h3 : DataW.trod enc Tryz.prog w base spare held n' 3 ((List.drop 3 [a0, a1, a2, a3, a4]).take (Tryz.prog.cellsOf 3)) = some y3 := hf 3 _ rfl
    rw [hI] at h3
    have h3 : DataW.trod enc Tryz.prog w base spare held n' 3 [a3] = some y3 := h3
    have h4 : DataW.trod enc Tryz.prog w base spare held n' 3 ((List.drop 4 [a0, a1, a2, a3, a4]).take (Tryz.prog.cellsOf 3)) = some y4 := hf 4 _ rfl
    rw [hI] at h4
    have h4 : DataW.trod enc Tryz.prog w base spare held n' 3 [a4] = some y4 := h4
    obtain ⟨X, e0, g0, _⟩ := DataW.trod_string Tryz.underlying9 h0
    obtain ⟨oa, cap, Ps, e1, hs, g1⟩ := strs_t h1
    obtain ⟨rl, e2, g2, _⟩ := DataW.trod_int Tryz.underlying3 h2
    obtain ⟨se, e3, g3, _⟩ := DataW.trod_int Tryz.underlying3 h3
    obtain ⟨mo, e4, g4, _⟩ := DataW.trod_int Tryz.underlying3 h4
    simp only [List.cons.injEq, and_true] at e0 e1 e2 e3 e4
    have hd : d = .agg [y0.1, y1.1, y2.1, y3.1, y4.1] := by
      simp only [Prod.mk.injEq] at hx
      exact hx.1
    have hw : ∀ n, (n ∈ y0.1.weights Tryz.prog 9 ∨ n ∈ y1.1.weights Tryz.prog 22) → n ∈ d.weights Tryz.prog 24 := by
      intro n hn
      rw [hd]
      rcases hn with hn | hn <;> simp [DataW.weights, DataW.weightsEach, Tryz.underlying24, hn]
    refine ⟨⟨X.data.toList, Ps, rl, se, mo⟩, oa, cap, by rw [e0, e1, e2, e3, e4]; rfl, hs, fun N hN => ⟨?_, ?_, ?_⟩⟩
    · refine hN _ (hw _ (.inl ?_))
      rw [g0]
      simp [DataW.weights]
    · intro o ho
      refine hN _ (hw _ (.inr ?_))
      rcases g1 with ⟨_, rfl⟩ | ⟨sp, g1⟩
      · cases ho
      · rw [g1]
        simp only [DataW.weights, Tryz.underlying22, List.mem_cons, List.mem_append]
        exact .inr (.inl (weights_strD _ _ _ o ho))
    · rcases g1 with ⟨_, rfl⟩ | ⟨sp, g1⟩
      · show (0 : Nat) * 16 ≤ N; omega
      · have h1 := hN ((Ps.length + sp.length) * 16) (hw _ (.inr (by
          rw [g1]
          simp only [DataW.weights, Tryz.underlying22, List.mem_cons, hBy]
          left
          simp [strD])))
        show Ps.length * 16 ≤ N
        omega
set_option maxRecDepth 100000 in
/-- ints -/
theorem open_intsA {r : Reach} {b0 : Nat} {v : Value} {d : DataW H} {ps : List MemPlace} (hval : Value.okWide Tryz.prog w r b0 29 v) (hd : DataW.Trod enc Tryz.prog w base spare held 29 v d ps) :
    ∃ (oa : Option Addr) (cap : Nat) (L : List Int), v = .slice oa L.length cap ∧ IsAt w oa L ∧ ∀ N, (∀ n ∈ d.weights Tryz.prog 29, n ≤ N) → L.length * 8 ≤ N := by
  have hBy : Tryz.prog.bytesOf 3 = 8 := by kernel_rfl
  obtain ⟨oa, len, cap, rfl⟩ := okWide_slice Tryz.underlying29 hval
  obtain ⟨fuel, hf⟩ := hd
  obtain ⟨oa', cap', L, hcs, _, hI, g⟩ := ints_t hf
  simp [Value.cells] at hcs
  obtain ⟨rfl, rfl, rfl⟩ := hcs
  refine ⟨oa, cap, L, rfl, hI, fun N hN => ?_⟩
  rcases g with ⟨_, rfl⟩ | ⟨sp, g⟩
  · show (0 : Nat) * 8 ≤ N; omega
  · dsimp only at g
    have h1 := hN ((L.length + sp.length) * 8) (by
      rw [g]
      simp only [DataW.weights, Tryz.underlying29, List.mem_cons, hBy]
      left
      simp)
    omega
end
end Go.Proofs.YtnohcdpnnhmpfaaGreatDoor.FR
namespace Go.Proofs.YtnohcdpnnhmpfaaGreatDoor.FR
open Go.RowKit ML FM AU CT
open Go.ChangeShapes Go.WideShapes Go.ChangeAt Go.Deep
set_option linter.unusedVariables false
section
variable {H : Type} {enc : TypeId × Value → H} {w : World} {base : Nat} {spare : Nat → Bool} {held : Bool}
set_option maxRecDepth 100000 in
/-- lists of ints -/
theorem open_rowsP {r : Reach} {b0 : Nat} {v : Value} {d : DataW H} {ps : List MemPlace} (hval : Value.okWide Tryz.prog w r b0 25 v) (hd : DataW.Trod enc Tryz.prog w base spare held 25 v d ps) :
    ∃ (oa : Option Addr) (cap : Nat) (P : List (Value × List Int)), v = .slice oa P.length cap ∧ P.length < 9223372036854775808 ∧ PsAt w oa P := by
  have hC : Tryz.prog.cellsOf 29 = 1 := by kernel_rfl
  obtain ⟨oa, len, cap, rfl⟩ := okWide_slice Tryz.underlying25 hval
  obtain ⟨fuel, hf⟩ := hd
  rcases open_slice1 Tryz.underlying25 hC hf with ⟨hcs, hx⟩ | ⟨a, len', cap', m, n, V, D, Pl, hcs, _, hl, hcm, hm, hx, hel⟩
  · simp [Value.cells] at hcs
    obtain ⟨rfl, rfl, rfl⟩ := hcs
    exact ⟨none, 0, [], rfl, (show (0 : Nat) < 9223372036854775808 by omega), ⟨fun i hi => by simp at hi, fun p hp => by simp at hp⟩⟩
  · simp [Value.cells] at hcs
    obtain ⟨rfl, rfl, rfl⟩ := hcs
    have hlm : len ≤ m := by rw [hm]; split <;> omega
    obtain ⟨R, hRl, hRs⟩ := listOf (P := fun i (p : Value × List Int) => w.cell? (a.add i) = some p.1 ∧ RowV w p) len (fun i hi => by
      obtain ⟨h1, h2⟩ := hel i (by omega)
      obtain ⟨ob, cb, L, e, hb, hi, _⟩ := ints_t h2
      simp only [List.cons.injEq, and_true] at e
      exact ⟨(V i, L), h1, ob, cb, e, hi, hb⟩)
    refine ⟨some a, cap, R, by rw [hRl], by rw [hRl]; unfold maxLen at hcm; omega, ⟨fun i hi => ⟨a, rfl, ?_, (hRs i hi).1⟩, fun p hp => ?_⟩⟩
    · have hb := lt_of_cell (hRs i hi).1
      rw [addr_block] at hb
      exact hb
    · obtain ⟨i, hi, rfl⟩ := List.mem_iff_getElem.1 hp
      exact (hRs i hi).2
end
end Go.Proofs.YtnohcdpnnhmpfaaGreatDoor.FR
