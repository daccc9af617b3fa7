/-
  A slice of steps among the arguments, as a list; what the reach gives of their texts.
-/
import Derived.Test.YtjajidbpfjhnbaaRows
import Derived.Test.YtjajidbpfjhnbaaFrame
import Derived.Test.YtjajidbpfjhnbaaFTalkS
import Derived.Test.YtjajidbpfjhnbaaFStrs
import Derived.Deep.Slices
import Derived.Deep.Fields
import Derived.ChangeSame
import Derived.SizedLaws
namespace Go.Proofs.Ytjajidbpfjhnbaa.FR
open Go.RowKit ML FM
open Go.ChangeShapes Go.WideShapes Go.ChangeAt Go.Deep

theorem list_of {α : Type} {P : Nat → α → Prop} : ∀ n, (∀ i, i < n → ∃ x, P i x) → ∃ l : List α, l.length = n ∧ ∀ i (h : i < l.length), P i l[i] := by
  intro n
  induction n with
  | zero => intro _; exact ⟨[], rfl, fun i h => by simp at h⟩
  | succ n ih =>
    intro h
    obtain ⟨l, hl, hp⟩ := ih (fun i hi => h i (by omega))
    obtain ⟨x, hx⟩ := h n (by omega)
    refine ⟨l ++ [x], by simp [hl], fun i hi => ?_⟩
    by_cases hlt : i < l.length
    · rw [List.getElem_append_left hlt]; exact hp i hlt
    · have : i = l.length := by simp at hi; omega
      subst this
      rw [List.getElem_append_right (Nat.le_refl _)]
      simp only [Nat.sub_self, List.getElem_singleton]
      rw [hl]; exact hx
def stepD {H : Type} (s : StepD) : DataW H := .agg [.lit (.int .i64 s.d), .lit (.int .i64 s.k), .lit (.string s.L), .lit (.string s.X)]
section
variable {H : Type} {enc : TypeId × Value → H} {w : World} {base : Nat} {spare : Nat → Bool} {held : Bool}
theorem one_step {n : Nat} {cs : List Value} {x : DataW H × List MemPlace} (h : DataW.trod enc Try.prog w base spare held n 50 cs = some x) : ∃ s : StepD, cs = s.cells ∧ x.1 = stepD s := by
  obtain ⟨ys, n', _, hx, hlen, hyl, hf⟩ := DataW.trod_struct Try.underlying50 h
  have hC : Try.prog.cellsOf 50 = 4 := by kernel_rfl
  have hI : Try.prog.cellsOf 3 = 1 := by kernel_rfl
  have hS : Try.prog.cellsOf 9 = 1 := by kernel_rfl
  rw [hC] at hlen
  match cs, hlen, ys, hyl with
  | [c0, c1, c2, c3], _, [y0, y1, y2, y3], _ =>
    have h0 : DataW.trod enc Try.prog w base spare held n' 3 ((List.drop 0 [c0, c1, c2, c3]).take (Try.prog.cellsOf 3)) = some y0 := hf 0 _ rfl
    rw [hI] at h0
    have h0 : DataW.trod enc Try.prog w base spare held n' 3 [c0] = some y0 := h0
    have h1 : DataW.trod enc Try.prog w base spare held n' 3 ((List.drop 1 [c0, c1, c2, c3]).take (Try.prog.cellsOf 3)) = some y1 := hf 1 _ rfl
    rw [hI] at h1
    have h1 : DataW.trod enc Try.prog w base spare held n' 3 [c1] = some y1 := h1
    have h2 : DataW.trod enc Try.prog w base spare held n' 9 ((List.drop 2 [c0, c1, c2, c3]).take (Try.prog.cellsOf 9)) = some y2 := hf 2 _ rfl
    rw [hS] at h2
    have h2 : DataW.trod enc Try.prog w base spare held n' 9 [c2] = some y2 := h2
    have h3 : DataW.trod enc Try.prog w base spare held n' 9 ((List.drop 3 [c0, c1, c2, c3]).take (Try.prog.cellsOf 9)) = some y3 := hf 3 _ rfl
    rw [hS] at h3
    have h3 : DataW.trod enc Try.prog w base spare held n' 9 [c3] = some y3 := h3
    obtain ⟨d, e0, f0, _⟩ := DataW.trod_int Try.underlying3 h0
    obtain ⟨k, e1, f1, _⟩ := DataW.trod_int Try.underlying3 h1
    obtain ⟨L, e2, f2, _⟩ := DataW.trod_string Try.underlying9 h2
    obtain ⟨X, e3, f3, _⟩ := DataW.trod_string Try.underlying9 h3
    refine ⟨⟨d, k, L.data.toList, X.data.toList⟩, ?_, ?_⟩
    · simp only [List.cons.injEq, and_true] at e0 e1 e2 e3
      rw [e0, e1, e2, e3]; rfl
    · rw [hx]
      simp only [List.map_cons, List.map_nil, f0, f1, f2, f3]
      rfl
theorem open_steps {r : Reach} {b0 : Nat} {v : Value} {d : DataW H} {ps : List MemPlace} (hval : Value.okWide Try.prog w r b0 41 v) (hd : DataW.Trod enc Try.prog w base spare held 41 v d ps) :
    ∃ (oa : Option Addr) (cap : Nat) (Ss : List StepD), v = .slice oa Ss.length cap ∧ StepsAt w oa Ss ∧ ((d = .nil ∧ Ss = []) ∨ ∃ sp, d = .slice (Ss.map stepD) sp) := by
  have hC : Try.prog.cellsOf 50 = 4 := by kernel_rfl
  obtain ⟨oa, len, cap, rfl⟩ := okWide_slice Try.underlying41 hval
  obtain ⟨fuel, hf⟩ := hd
  rcases open_slice Try.underlying41 hf with ⟨hcs, hx⟩ | ⟨a, len', cap', m, n, D, Pl, hcs, _, hl, _, hm, hx, hel⟩
  · simp [Value.cells] at hcs
    obtain ⟨rfl, rfl, rfl⟩ := hcs
    simp only [Prod.mk.injEq] at hx
    exact ⟨none, 0, [], rfl, ⟨fun i hi => by simp at hi⟩, .inl ⟨hx.1, rfl⟩⟩
  · simp [Value.cells] at hcs
    obtain ⟨rfl, rfl, rfl⟩ := hcs
    simp only [Prod.mk.injEq] at hx
    have hlm : len ≤ m := by rw [hm]; split <;> omega
    obtain ⟨Ss, hSl, hSs⟩ := list_of (P := fun i (s : StepD) => (∀ j v, s.cells[j]? = some v → w.cell? (a.add (i * 4 + j)) = some v) ∧ D i = stepD s) len (fun i hi => by
      obtain ⟨cs', hc, ht'⟩ := hel i (by omega)
      rw [hC] at hc
      obtain ⟨s, e1, e2⟩ := one_step ht'
      obtain ⟨_, hcl, hat⟩ := World.cells?_some hc
      refine ⟨s, fun j v hj => ?_, e2⟩
      have hj4 : j < 4 := by have := (List.getElem?_eq_some_iff.1 hj).1; exact this
      rw [← Go.Deep.add_add, hat j hj4, e1, hj])
    have hDl : (List.range len).map D = Ss.map stepD := by
      apply List.ext_getElem (by simp [hSl])
      intro i h1 h2
      simp only [List.getElem_map, List.getElem_range]
      exact (hSs i (by simpa using h2)).2
    refine ⟨some a, cap, Ss, by rw [hSl], ⟨fun i hi => ⟨a, rfl, ?_, (hSs i hi).1⟩⟩, .inr ⟨_, by rw [hx.1, hDl]⟩⟩
    have hb := lt_of_cell ((hSs i hi).1 0 _ rfl)
    rw [add_block] at hb
    exact hb
end
section
variable {H : Type} {P : Program}
theorem weights_mem_all : ∀ {ds : List (DataW H)} {e : TypeId} {d : DataW H}, d ∈ ds → ∀ n ∈ d.weights P e, n ∈ DataW.weightsAll P e ds
  | d0 :: ds, e, d, hd, n, hn => by
    simp only [DataW.weightsAll, List.mem_append]
    rcases List.mem_cons.1 hd with rfl | hd
    · exact .inl hn
    · exact .inr (weights_mem_all hd n hn)
theorem sized_steps {ts : List TypeId} {ds : List (DataW H)} (h : (DataW.weightsEach Try.prog ts ds).all (· ≤ reachBytes) = true) {j : Nat} {Ss : List StepD} {sp : List (DataW H)} (ht : ts[j]? = some 41) (hd : ds[j]? = some (.slice (Ss.map stepD) sp)) :
    Ss.length * 48 ≤ reachBytes ∧ ∀ s ∈ Ss, s.L.length ≤ reachBytes ∧ s.X.length ≤ reachBytes := by
  have hB : Try.prog.bytesOf 50 = 48 := by kernel_rfl
  constructor
  · have := sized_slice h ht hd Try.underlying41
    rw [hB, List.length_map] at this
    exact Nat.le_trans (Nat.mul_le_mul_right _ (by omega)) this
  · intro s hs
    have key : ∀ n ∈ (stepD (H := H) s).weights Try.prog 50, n ≤ reachBytes := fun n hn => by
      have h1 := weights_mem_all (P := Try.prog) (List.mem_map.2 ⟨s, hs, rfl⟩ : stepD (H := H) s ∈ Ss.map stepD) n hn
      have h2 : n ∈ (DataW.slice (Ss.map (stepD (H := H))) sp).weights Try.prog 41 := by
        simp only [DataW.weights, Try.underlying41, List.mem_cons, List.mem_append]
        exact .inr (.inl h1)
      have h3 := List.all_eq_true.1 h _ (DataW.weights_mem_each ht hd n h2)
      simpa using h3
    have hw : (stepD (H := H) s).weights Try.prog 50 = [s.L.length, s.X.length] := by
      simp [stepD, DataW.weights, DataW.weightsEach, Try.underlying50]
    rw [hw] at key
    exact ⟨key _ (by simp), key _ (by simp)⟩
end
end Go.Proofs.Ytjajidbpfjhnbaa.FR
