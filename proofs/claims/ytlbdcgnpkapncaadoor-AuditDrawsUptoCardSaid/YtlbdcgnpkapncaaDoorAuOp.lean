/-
  A watch, and lists of ints, among the arguments: what they read as, how great they are.
-/
import Derived.Test.YtlbdcgnpkapncaaDoorRows
import Derived.Test.YtlbdcgnpkapncaaDoorFrame
import Derived.Test.YtlbdcgnpkapncaaDoorAuDr
import Derived.Deep.Slices
import Derived.Deep.Fields
import Derived.ChangeSame
namespace Go.Proofs.YtlbdcgnpkapncaaDoor.FR
open Go.RowKit ML FM AU
open Go.ChangeShapes Go.WideShapes Go.ChangeAt Go.Deep
set_option linter.unusedVariables false

theorem ltCell {w : World} {p : Addr} {v : Value} (h : w.cell? p = some v) : p.block < w.heap.size := by
  by_cases hlt : p.block < w.heap.size
  · exact hlt
  · have h0 : w.heap[p.block]? = none := Array.getElem?_eq_none (by omega)
    unfold World.cell? at h
    simp [h0] at h
theorem listOf {α : Type} {P : Nat → α → Prop} : ∀ n, (∀ i, i < n → ∃ x, P i x) → ∃ l : List α, l.length = n ∧ ∀ i (h : i < l.length), P i l[i] := by
  intro n
  induction n with
  | zero => intro _; exact ⟨[], rfl, fun i h => by simp at h⟩
  | succ n ih =>
    intro h
    obtain ⟨l, hl, hp⟩ := ih (fun i hi => h i (by omega))
    obtain ⟨x, hx⟩ := h n (by omega)
    refine ⟨l ++ [x], by simp [hl], fun i hi => ?_⟩
    by_cases hlt : i < l.length
    · rw [List.getElem_append_left hlt]; exact hp i hlt
    · have : i = l.length := by simp at hi; omega
      subst this
      rw [List.getElem_append_right (Nat.le_refl _)]
      simp only [Nat.sub_self, List.getElem_singleton]
      rw [hl]; exact hx
def intD {H : Type} (v : Int) : DataW H := .lit (.int .i64 v)
def fracD {H : Type} (p : Bytes × Bytes) : DataW H := .agg [.lit (.string p.1), .lit (.string p.2)]
section
variable {H : Type} {enc : TypeId × Value → H} {w : World} {base : Nat} {spare : Nat → Bool} {held : Bool}
set_option maxRecDepth 100000 in
theorem ints_t {n : Nat} {cs : List Value} {x : DataW H × List MemPlace} (h : DataW.trod enc Tryd.prog w base spare held n 22 cs = some x) :
    ∃ (oa : Option Addr) (cap : Nat) (L : List Int), cs = [.slice oa L.length cap] ∧ L.length < 9223372036854775808 ∧ IsAt w oa L ∧ ((x.1 = .nil ∧ L = []) ∨ ∃ sp, x.1 = .slice (L.map intD) sp) := by
  have hC : Tryd.prog.cellsOf 3 = 1 := by kernel_rfl
  rcases open_slice1 Tryd.underlying22 hC h with ⟨hcs, hx⟩ | ⟨a, len, cap, m, n', V, D, Pl, hcs, _, hl, hcm, hm, hx, hel⟩
  · subst hcs
    exact ⟨none, 0, [], rfl, (show (0 : Nat) < 9223372036854775808 by omega), ⟨fun i hi => by simp at hi⟩, .inl ⟨by rw [hx], rfl⟩⟩
  · subst hcs
    have hlm : len ≤ m := by rw [hm]; split <;> omega
    obtain ⟨L, hLl, hLs⟩ := listOf (P := fun i (x : Int) => w.cell? (a.add i) = some (.int .i64 x) ∧ D i = intD x) len (fun i hi => by
      obtain ⟨h1, h2⟩ := hel i (by omega)
      obtain ⟨x, e, f, _⟩ := DataW.trod_int Tryd.underlying3 h2
      simp only [List.cons.injEq, and_true] at e
      exact ⟨x, by rw [h1, e], (Prod.mk.inj f).1⟩)
    have hDl : (List.range len).map D = L.map intD := by
      apply List.ext_getElem (by simp [hLl])
      intro i h1 h2
      simp only [List.getElem_map, List.getElem_range]
      exact (hLs i (by simpa using h2)).2
    refine ⟨some a, cap, L, by rw [hLl], by rw [hLl]; unfold maxLen at hcm; omega, ⟨fun i hi => ⟨a, rfl, ?_, (hLs i hi).1⟩⟩, .inr ⟨_, by rw [hx, hDl]⟩⟩
    have hb := ltCell (hLs i hi).1
    rw [addr_block'] at hb
    exact hb
set_option maxRecDepth 100000 in
theorem frac_t {n : Nat} {cs : List Value} {x : DataW H × List MemPlace} (h : DataW.trod enc Tryd.prog w base spare held n 24 cs = some x) : ∃ p : Bytes × Bytes, cs = fcell p ∧ x.1 = fracD p := by
  obtain ⟨ys, n', _, hx, hlen, hyl, hf⟩ := DataW.trod_struct Tryd.underlying24 h
  have hC : Tryd.prog.cellsOf 24 = 2 := by kernel_rfl
  have hS : Tryd.prog.cellsOf 9 = 1 := by kernel_rfl
  rw [hC] at hlen
  match cs, hlen, ys, hyl with
  | [c0, c1], _, [y0, y1], _ =>
    have h0 : DataW.trod enc Tryd.prog w base spare held n' 9 ((List.drop 0 [c0, c1]).take (Tryd.prog.cellsOf 9)) = some y0 := hf 0 _ rfl
    rw [hS] at h0
    have h0 : DataW.trod enc Tryd.prog w base spare held n' 9 [c0] = some y0 := h0
    have h1 : DataW.trod enc Tryd.prog w base spare held n' 9 ((List.drop 1 [c0, c1]).take (Tryd.prog.cellsOf 9)) = some y1 := hf 1 _ rfl
    rw [hS] at h1
    have h1 : DataW.trod enc Tryd.prog w base spare held n' 9 [c1] = some y1 := h1
    obtain ⟨L, e0, f0, _⟩ := DataW.trod_string Tryd.underlying9 h0
    obtain ⟨X, e1, f1, _⟩ := DataW.trod_string Tryd.underlying9 h1
    refine ⟨(L.data.toList, X.data.toList), ?_, ?_⟩
    · simp only [List.cons.injEq, and_true] at e0 e1
      rw [e0, e1]; rfl
    · rw [hx]
      simp only [List.map_cons, List.map_nil, f0, f1]
      rfl
set_option maxRecDepth 100000 in
theorem fracs_t {n : Nat} {cs : List Value} {x : DataW H × List MemPlace} (h : DataW.trod enc Tryd.prog w base spare held n 25 cs = some x) :
    ∃ (oa : Option Addr) (cap : Nat) (F : List (Bytes × Bytes)), cs = [.slice oa F.length cap] ∧ FsAt w oa F ∧ ((x.1 = .nil ∧ F = []) ∨ ∃ sp, x.1 = .slice (F.map fracD) sp) := by
  have hC : Tryd.prog.cellsOf 24 = 2 := by kernel_rfl
  rcases open_slice Tryd.underlying25 h with ⟨hcs, hx⟩ | ⟨a, len, cap, m, n', D, Pl, hcs, _, hl, _, hm, hx, hel⟩
  · subst hcs
    exact ⟨none, 0, [], rfl, ⟨fun i hi => by simp at hi⟩, .inl ⟨by rw [hx], rfl⟩⟩
  · subst hcs
    have hlm : len ≤ m := by rw [hm]; split <;> omega
    obtain ⟨F, hFl, hFs⟩ := listOf (P := fun i (p : Bytes × Bytes) => (∀ j v, (fcell p)[j]? = some v → w.cell? ((a.add (i * 2)).add j) = some v) ∧ D i = fracD p) len (fun i hi => by
      obtain ⟨cs', hc, ht'⟩ := hel i (by omega)
      rw [hC] at hc
      obtain ⟨s, e1, e2⟩ := frac_t ht'
      obtain ⟨_, hcl, hat⟩ := World.cells?_some hc
      refine ⟨s, fun j v hj => ?_, e2⟩
      have hj2 : j < 2 := by have := (List.getElem?_eq_some_iff.1 hj).1; exact this
      rw [hat j hj2, e1, hj])
    have hDl : (List.range len).map D = F.map fracD := by
      apply List.ext_getElem (by simp [hFl])
      intro i h1 h2
      simp only [List.getElem_map, List.getElem_range]
      exact (hFs i (by simpa using h2)).2
    refine ⟨some a, cap, F, by rw [hFl], ⟨fun i hi => ⟨a, rfl, ?_, (hFs i hi).1⟩⟩, .inr ⟨_, by rw [hx, hDl]⟩⟩
    have hb := ltCell ((hFs i hi).1 0 _ rfl)
    rw [addr_block', addr_block'] at hb
    exact hb
set_option maxRecDepth 100000 in
/-- lists of ints -/
theorem open_rows {r : Reach} {b0 : Nat} {v : Value} {d : DataW H} {ps : List MemPlace} (hval : Value.okWide Tryd.prog w r b0 33 v) (hd : DataW.Trod enc Tryd.prog w base spare held 33 v d ps) :
    ∃ (oa : Option Addr) (cap : Nat) (R : List (List Int)), v = .slice oa R.length cap ∧ R.length < 9223372036854775808 ∧ RsAt w oa R := by
  have hC : Tryd.prog.cellsOf 22 = 1 := by kernel_rfl
  obtain ⟨oa, len, cap, rfl⟩ := okWide_slice Tryd.underlying33 hval
  obtain ⟨fuel, hf⟩ := hd
  rcases open_slice1 Tryd.underlying33 hC hf with ⟨hcs, hx⟩ | ⟨a, len', cap', m, n, V, D, Pl, hcs, _, hl, hcm, hm, hx, hel⟩
  · simp [Value.cells] at hcs
    obtain ⟨rfl, rfl, rfl⟩ := hcs
    exact ⟨none, 0, [], rfl, (show (0 : Nat) < 9223372036854775808 by omega), ⟨fun i hi => by simp at hi⟩⟩
  · simp [Value.cells] at hcs
    obtain ⟨rfl, rfl, rfl⟩ := hcs
    have hlm : len ≤ m := by rw [hm]; split <;> omega
    obtain ⟨R, hRl, hRs⟩ := listOf (P := fun i (L : List Int) => ∃ ob cb, w.cell? (a.add i) = some (.slice ob L.length cb) ∧ IsAt w ob L ∧ L.length < 9223372036854775808) len (fun i hi => by
      obtain ⟨h1, h2⟩ := hel i (by omega)
      obtain ⟨ob, cb, L, e, hb, hi, _⟩ := ints_t h2
      simp only [List.cons.injEq, and_true] at e
      exact ⟨L, ob, cb, by rw [h1, e], hi, hb⟩)
    refine ⟨some a, cap, R, by rw [hRl], by rw [hRl]; unfold maxLen at hcm; omega, ⟨fun i hi => ⟨a, rfl, ?_, hRs i hi⟩⟩⟩
    obtain ⟨ob, cb, hc, _, _⟩ := hRs i hi
    have hb := ltCell hc
    rw [addr_block'] at hb
    exact hb
/-! ### bulk -/
theorem bulk_ints (L : List Int) : Rows.uptoBulkAll (L.map (intD (H := H))) = L.length := by
  induction L with
  | nil => rfl
  | cons x r ih => simp only [List.map_cons, Rows.uptoBulkAll, ih, List.length_cons, intD, Rows.uptoBulk]; omega
theorem bulk_fracs (F : List (Bytes × Bytes)) : F.length ≤ Rows.uptoBulkAll (F.map (fracD (H := H))) ∧ ∀ k, k < F.length → (fAt F k).1.length ≤ Rows.uptoBulkAll (F.map (fracD (H := H))) ∧ (fAt F k).2.length ≤ Rows.uptoBulkAll (F.map (fracD (H := H))) := by
  induction F with
  | nil => exact ⟨Nat.le_refl _, fun k hk => by simp at hk⟩
  | cons p r ih =>
    have e : Rows.uptoBulkAll ((p :: r).map (fracD (H := H))) = p.1.length + 1 + (p.2.length + 1) + 1 + Rows.uptoBulkAll (r.map (fracD (H := H))) := by
      simp only [List.map_cons, Rows.uptoBulkAll, fracD, Rows.uptoBulk]
      try omega
    rw [e]
    refine ⟨by rw [List.length_cons]; omega, fun k hk => ?_⟩
    cases k with
    | zero => simp only [fAt, List.getD_cons_zero]; omega
    | succ k =>
      have := ih.2 k (by simpa using hk)
      have e2 : fAt (p :: r) (k + 1) = fAt r k := by simp [fAt]
      rw [e2]
      omega
theorem bulk_ints_of {x : DataW H} {L : List Int} (h : (x = .nil ∧ L = []) ∨ ∃ sp, x = .slice (L.map intD) sp) : L.length ≤ Rows.uptoBulk x := by
  rcases h with ⟨_, rfl⟩ | ⟨sp, rfl⟩
  · simp
  · simp only [Rows.uptoBulk, bulk_ints]; omega
theorem bulk_fracs_of {x : DataW H} {F : List (Bytes × Bytes)} (h : (x = .nil ∧ F = []) ∨ ∃ sp, x = .slice (F.map fracD) sp) : F.length ≤ Rows.uptoBulk x ∧ Short F (Rows.uptoBulk x) := by
  rcases h with ⟨_, rfl⟩ | ⟨sp, rfl⟩
  · exact ⟨by simp, fun k hk => by simp at hk⟩
  · have := bulk_fracs (H := H) F
    refine ⟨by simp only [Rows.uptoBulk]; omega, fun k hk => ?_⟩
    have h2 := this.2 k hk
    simp only [Rows.uptoBulk]
    omega
set_option maxRecDepth 100000 in
/-- a watch -/
theorem open_watch {r : Reach} {b0 : Nat} {v : Value} {d : DataW H} {ps : List MemPlace} (hval : Value.okWide Tryd.prog w r b0 27 v) (hd : DataW.Trod enc Tryd.prog w base spare held 27 v d ps) :
    ∃ (o0 o1 o2 o3 : Option Addr) (c0 c1 c2 c3 : Nat) (A B : List Int) (S O : List (Bytes × Bytes)) (N D : Bytes) (dr : Int), v = .agg #[.slice o0 A.length c0, .slice o1 B.length c1, .slice o2 S.length c2, .slice o3 O.length c3, .string ⟨N.toArray⟩, .string ⟨D.toArray⟩, .int .i64 dr] ∧ WAt w o0 o1 o2 o3 A B S O ∧
      A.length ≤ Rows.uptoBulk d ∧ B.length ≤ Rows.uptoBulk d ∧ S.length ≤ Rows.uptoBulk d ∧ O.length ≤ Rows.uptoBulk d ∧ Short S (Rows.uptoBulk d) ∧ Short O (Rows.uptoBulk d) ∧ N.length ≤ Rows.uptoBulk d ∧ D.length ≤ Rows.uptoBulk d := by
  have hC : Tryd.prog.cellsOf 27 = 7 := by kernel_rfl
  obtain ⟨cs, rfl, hsz⟩ := okWide_struct Tryd.underlying27 hval
  rw [hC] at hsz
  obtain ⟨l⟩ := cs
  obtain ⟨fuel, hf⟩ := hd
  obtain ⟨ys, n', _, hx, hlen, hyl, hf⟩ := DataW.trod_struct Tryd.underlying27 hf
  have hI : Tryd.prog.cellsOf 3 = 1 := by kernel_rfl
  have hIs : Tryd.prog.cellsOf 22 = 1 := by kernel_rfl
  have hFs : Tryd.prog.cellsOf 25 = 1 := by kernel_rfl
  have hF : Tryd.prog.cellsOf 24 = 2 := by kernel_rfl
  match l, hsz, ys, hyl with
  | [a0, a1, a2, a3, a4, a5, a6], _, [y0, y1, y2, y3, y4, y5], _ =>
    have h0 : DataW.trod enc Tryd.prog w base spare held n' 22 ((List.drop 0 [a0, a1, a2, a3, a4, a5, a6]).take (Tryd.prog.cellsOf 22)) = some y0 := hf 0 _ rfl
    rw [hIs] at h0
    have h1 : DataW.trod enc Tryd.prog w base spare held n' 22 ((List.drop 1 [a0, a1, a2, a3, a4, a5, a6]).take (Tryd.prog.cellsOf 22)) = some y1 := hf 1 _ rfl
    rw [hIs] at h1
    have h2 : DataW.trod enc Tryd.prog w base spare held n' 25 ((List.drop 2 [a0, a1, a2, a3, a4, a5, a6]).take (Tryd.prog.cellsOf 25)) = some y2 := hf 2 _ rfl
    rw [hFs] at h2
    have h3 : DataW.trod enc Tryd.prog w base spare held n' 25 ((List.drop 3 [a0, a1, a2, a3, a4, a5, a6]).take (Tryd.prog.cellsOf 25)) = some y3 := hf 3 _ rfl
    rw [hFs] at h3
    have h4 : DataW.trod enc Tryd.prog w base spare held n' 24 ((List.drop 4 [a0, a1, a2, a3, a4, a5, a6]).take (Tryd.prog.cellsOf 24)) = some y4 := hf 4 _ rfl
    rw [hF] at h4
    have h5 : DataW.trod enc Tryd.prog w base spare held n' 3 ((List.drop 6 [a0, a1, a2, a3, a4, a5, a6]).take (Tryd.prog.cellsOf 3)) = some y5 := hf 5 _ rfl
    rw [hI] at h5
    have h0 : DataW.trod enc Tryd.prog w base spare held n' 22 [a0] = some y0 := h0
    have h1 : DataW.trod enc Tryd.prog w base spare held n' 22 [a1] = some y1 := h1
    have h2 : DataW.trod enc Tryd.prog w base spare held n' 25 [a2] = some y2 := h2
    have h3 : DataW.trod enc Tryd.prog w base spare held n' 25 [a3] = some y3 := h3
    have h4 : DataW.trod enc Tryd.prog w base spare held n' 24 [a4, a5] = some y4 := h4
    have h5 : DataW.trod enc Tryd.prog w base spare held n' 3 [a6] = some y5 := h5
    obtain ⟨o0, c0, A, e0, _, i0, g0⟩ := ints_t h0
    obtain ⟨o1, c1, B, e1, _, i1, g1⟩ := ints_t h1
    obtain ⟨o2, c2, S, e2, i2, g2⟩ := fracs_t h2
    obtain ⟨o3, c3, O, e3, i3, g3⟩ := fracs_t h3
    obtain ⟨⟨N, D⟩, e4, g4⟩ := frac_t h4
    obtain ⟨dr, e5, g5, _⟩ := DataW.trod_int Tryd.underlying3 h5
    simp only [fcell, List.cons.injEq, and_true] at e0 e1 e2 e3 e4 e5
    have hd : d = .agg [y0.1, y1.1, y2.1, y3.1, y4.1, y5.1] := by
      simp only [Prod.mk.injEq] at hx
      exact hx.1
    have hb : Rows.uptoBulk d = Rows.uptoBulk y0.1 + (Rows.uptoBulk y1.1 + (Rows.uptoBulk y2.1 + (Rows.uptoBulk y3.1 + (Rows.uptoBulk y4.1 + (Rows.uptoBulk y5.1 + 0))))) + 1 := by
      rw [hd]; simp only [Rows.uptoBulk, Rows.uptoBulkAll]
    have k0 := bulk_ints_of g0
    have k1 := bulk_ints_of g1
    have k2 := bulk_fracs_of g2
    have k3 := bulk_fracs_of g3
    have k4 : Rows.uptoBulk y4.1 = N.length + 1 + (D.length + 1) + 1 := by
      rw [g4]; simp only [fracD, Rows.uptoBulk, Rows.uptoBulkAll]
    refine ⟨o0, o1, o2, o3, c0, c1, c2, c3, A, B, S, O, N, D, dr, ?_, ⟨i0, i1, i2, i3⟩, by omega, by omega, by omega, by omega, ?_, ?_, by omega, by omega⟩
    · rw [e0, e1, e2, e3, e4.1, e4.2, e5]
    · intro k hk; have := k2.2 k hk; omega
    · intro k hk; have := k3.2 k hk; omega
end
end Go.Proofs.YtlbdcgnpkapncaaDoor.FR
