/-
  Rows of ints in memory: what an argument reads as, what an own row gives; the plain law of digits with it.
  Rows of ints in memory: what an argument reads as, what an own row gives; the plain law of digits with it.
  The boxes of struct arguments and of a struct result; results that lie in memory; rows beside a block without ints.
-/
import Derived.Test.YtnohcdpnnhmpfaaGreatDoorBBase
import Derived.Test.YtnohcdpnnhmpfaaGreatDoorBPlain
import Derived.Laws.AppendOwn
import Derived.Laws.Rows
namespace Go.Proofs.YtnohcdpnnhmpfaaGreatDoor
open Go.RowKit ML

def nvals (L : List Nat) : List Value := L.map fun d : Nat => Value.int .i64 (d : Int)
/-- digit i, 0 behind the end -/
def dAt (L : List Nat) (i : Nat) : Nat := L.getD i 0
theorem length_nvals (L : List Nat) : (nvals L).length = L.length := by simp [nvals]
theorem nvals_append (A B : List Nat) : nvals A ++ nvals B = nvals (A ++ B) := by simp [nvals]
theorem nvals_one (L : List Nat) : ∀ v ∈ nvals L, v.oneCell' = true := by
  intro v hv; simp only [nvals, List.mem_map] at hv; obtain ⟨x, _, rfl⟩ := hv; rfl
theorem addr_block (a : Addr) (i : Nat) : (a.add i).block = a.block := by unfold Addr.add; split <;> rfl
/-- ints in memory, behind one another -/
structure IntsAt (w : World) (oa : Option Addr) (L : List Nat) : Prop where
  cells : ∀ i (h : i < L.length), ∃ a, oa = some a ∧ a.block < w.heap.size ∧ w.cell? (a.add i) = some (.int .i64 (L[i] : Int))
namespace IntsAt
variable {w w1 : World} {oa : Option Addr} {L : List Nat}
theorem below (h : IntsAt w oa L) (hb : Below w.heap.size w w1) : IntsAt w1 oa L := ⟨fun i hi => by
  obtain ⟨a, h1, h2, h3⟩ := h.cells i hi
  exact ⟨a, h1, Nat.lt_of_lt_of_le h2 hb.size, by rw [hb.cell (by rw [addr_block]; exact h2)]; exact h3⟩⟩
theorem take (h : IntsAt w oa L) (k : Nat) : IntsAt w oa (L.take k) := ⟨fun i hi => by
  have hi2 : i < L.length := by rw [List.length_take] at hi; omega
  obtain ⟨a, h1, h2, h3⟩ := h.cells i hi2
  exact ⟨a, h1, h2, by rw [h3]; simp⟩⟩
theorem nil : IntsAt w none [] := ⟨fun i hi => by simp at hi⟩
theorem drew (h : IntsAt w oa L) : IntsAt w.drew oa L := ⟨h.cells⟩
theorem get (h : IntsAt w oa L) (i : Nat) (hi : i < L.length) : ∃ a, oa = some a ∧ w.cell? (a.add i) = some (.int .i64 ((L.getD i 0 : Nat) : Int)) := by
  obtain ⟨a, h1, _, h3⟩ := h.cells i hi
  exact ⟨a, h1, by rw [h3]; simp [List.getD_eq_getElem?_getD, hi]⟩
end IntsAt
theorem add_cell (g i : Nat) : (⟨g, 0, none⟩ : Addr).add i = ⟨g, i, none⟩ := by unfold Addr.add; split <;> simp_all
/-- an own row as a row that is read -/
theorem intsAt_own {w : World} {base : Nat} {e : TypeId} {v : Value} {n : Nat} {L : List Nat} (h : w.ownsRow base e 1 v n (nvals L)) : ∃ oa cap, v = .slice oa L.length cap ∧ L.length ≤ cap ∧ (∀ a, oa = some a → base ≤ a.block) ∧ IntsAt w oa L := by
  have hl : L.length = n := by have := h.1; rw [length_nvals] at this; omega
  rcases h.2 with ⟨hv, h0⟩ | ⟨g, cap, cur, hv, hb, hg, hnc, _, hc, ht⟩
  · have : L = [] := List.length_eq_zero_iff.1 (by omega)
    subst this
    exact ⟨none, 0, hv, Nat.le_refl _, (fun a h => by cases h), IntsAt.nil⟩
  · refine ⟨some ⟨g, 0, none⟩, cap, by rw [hl]; exact hv, by rw [hl]; exact hnc, (fun a h => by cases h; exact hb), ⟨fun i hi => ⟨_, rfl, lt_of_heap hg, ?_⟩⟩⟩
    have hx := h.cells (g := g) (by rw [hv]; rfl) i (.int .i64 (L[i] : Int)) (by simp [nvals, hi])
    exact hx
theorem intsAt_block {w : World} {g : Nat} {t : TypeId} {cs : Array Value} {L : List Nat} (h : w.heap[g]? = some (.cells cs t (0, 0))) (hc : cs = (nvals L).toArray) : IntsAt w (some ⟨g, 0, none⟩) L := ⟨fun i hi => by
  refine ⟨_, rfl, lt_of_heap h, ?_⟩
  rw [add_cell, cell_of_row w g i _ _ _ h, hc]
  simp [nvals, hi]⟩
end Go.Proofs.YtnohcdpnnhmpfaaGreatDoor
namespace Go.Proofs.YtnohcdpnnhmpfaaGreatDoor
open Go.RowKit ML

def uvals (L : List Nat) : List Value := L.map fun d : Nat => Value.int .u32 (d : Int)
/-- digit i, 0 behind the end -/
def lAt (L : List Nat) (i : Nat) : Nat := L.getD i 0
theorem length_uvals (L : List Nat) : (uvals L).length = L.length := by simp [uvals]
theorem uvals_append (A B : List Nat) : uvals A ++ uvals B = uvals (A ++ B) := by simp [uvals]
theorem uvals_one (L : List Nat) : ∀ v ∈ uvals L, v.oneCell' = true := by
  intro v hv; simp only [uvals, List.mem_map] at hv; obtain ⟨x, _, rfl⟩ := hv; rfl
theorem addr_block' (a : Addr) (i : Nat) : (a.add i).block = a.block := by unfold Addr.add; split <;> rfl
/-- ints in memory, behind one another -/
structure LimbsAt (w : World) (oa : Option Addr) (L : List Nat) : Prop where
  cells : ∀ i (h : i < L.length), ∃ a, oa = some a ∧ a.block < w.heap.size ∧ w.cell? (a.add i) = some (.int .u32 (L[i] : Int))
namespace LimbsAt
variable {w w1 : World} {oa : Option Addr} {L : List Nat}
theorem below (h : LimbsAt w oa L) (hb : Below w.heap.size w w1) : LimbsAt w1 oa L := ⟨fun i hi => by
  obtain ⟨a, h1, h2, h3⟩ := h.cells i hi
  exact ⟨a, h1, Nat.lt_of_lt_of_le h2 hb.size, by rw [hb.cell (by rw [addr_block']; exact h2)]; exact h3⟩⟩
theorem take (h : LimbsAt w oa L) (k : Nat) : LimbsAt w oa (L.take k) := ⟨fun i hi => by
  have hi2 : i < L.length := by rw [List.length_take] at hi; omega
  obtain ⟨a, h1, h2, h3⟩ := h.cells i hi2
  exact ⟨a, h1, h2, by rw [h3]; simp⟩⟩
theorem nil : LimbsAt w none [] := ⟨fun i hi => by simp at hi⟩
theorem drew (h : LimbsAt w oa L) : LimbsAt w.drew oa L := ⟨h.cells⟩
theorem get (h : LimbsAt w oa L) (i : Nat) (hi : i < L.length) : ∃ a, oa = some a ∧ w.cell? (a.add i) = some (.int .u32 ((L.getD i 0 : Nat) : Int)) := by
  obtain ⟨a, h1, _, h3⟩ := h.cells i hi
  exact ⟨a, h1, by rw [h3]; simp [List.getD_eq_getElem?_getD, hi]⟩
end LimbsAt
theorem add_cell' (g i : Nat) : (⟨g, 0, none⟩ : Addr).add i = ⟨g, i, none⟩ := by unfold Addr.add; split <;> simp_all
/-- an own row as a row that is read -/
theorem limbsAt_own {w : World} {base : Nat} {e : TypeId} {v : Value} {n : Nat} {L : List Nat} (h : w.ownsRow base e 1 v n (uvals L)) : ∃ oa cap, v = .slice oa L.length cap ∧ L.length ≤ cap ∧ (∀ a, oa = some a → base ≤ a.block) ∧ LimbsAt w oa L := by
  have hl : L.length = n := by have := h.1; rw [length_uvals] at this; omega
  rcases h.2 with ⟨hv, h0⟩ | ⟨g, cap, cur, hv, hb, hg, hnc, _, hc, ht⟩
  · have : L = [] := List.length_eq_zero_iff.1 (by omega)
    subst this
    exact ⟨none, 0, hv, Nat.le_refl _, (fun a h => by cases h), LimbsAt.nil⟩
  · refine ⟨some ⟨g, 0, none⟩, cap, by rw [hl]; exact hv, by rw [hl]; exact hnc, (fun a h => by cases h; exact hb), ⟨fun i hi => ⟨_, rfl, lt_of_heap hg, ?_⟩⟩⟩
    have hx := h.cells (g := g) (by rw [hv]; rfl) i (.int .u32 (L[i] : Int)) (by simp [uvals, hi])
    exact hx
theorem limbsAt_block {w : World} {g : Nat} {t : TypeId} {cs : Array Value} {L : List Nat} (h : w.heap[g]? = some (.cells cs t (0, 0))) (hc : cs = (uvals L).toArray) : LimbsAt w (some ⟨g, 0, none⟩) L := ⟨fun i hi => by
  refine ⟨_, rfl, lt_of_heap h, ?_⟩
  rw [add_cell', cell_of_row w g i _ _ _ h, hc]
  simp [uvals, hi]⟩
end Go.Proofs.YtnohcdpnnhmpfaaGreatDoor
namespace Go.Proofs.YtnohcdpnnhmpfaaGreatDoor
set_option linter.unusedVariables false
open Go.RowKit ML

theorem undrew {w w2 : World} (h : Below w.drew.heap.size w.drew w2) : Below w.heap.size w w2 := ⟨h.os, h.tape, h.output, h.size, h.block⟩
/-- two struct arguments and the result -/
structure Box3 (B : Nat) (w w1 : World) (X Y Z : Array Value) (T U : TypeId) : Prop where
  bel : Below B w w1
  x : w1.heap[B]? = some (.cells X T (0, 0))
  y : w1.heap[B + 1]? = some (.cells Y T (0, 0))
  z : w1.heap[B + 1 + 1]? = some (.cells Z U (0, 0))
theorem Box3.mk' (w : World) (X Y Z : Array Value) (T U : TypeId) : Box3 w.heap.size w (((w.alloc (.cells X T)).alloc (.cells Y T)).alloc (.cells Z U)) X Y Z T U := by
  have b1 := (Below.refl w.heap.size w).alloc (Nat.le_refl _) (.cells X T)
  have b2 := b1.alloc (by simp) (.cells Y T)
  refine ⟨b2.alloc (by simp; omega) _, heap_lt (heap_lt (heap_at rfl)), heap_lt (heap_at (by simp)), heap_at (by simp)⟩
theorem Box3.keep {B : Nat} {w w1 w2 : World} {X Y Z : Array Value} {T U : TypeId} (h : Box3 B w w1 X Y Z T U) (hB : B ≤ w1.heap.size) (hb : Below w1.heap.size w1 w2) : Box3 B w w2 X Y Z T U :=
  ⟨h.bel.trans (hb.mono hB), bel_keep hb (lt_of_heap h.x) h.x, bel_keep hb (lt_of_heap h.y) h.y, bel_keep hb (lt_of_heap h.z) h.z⟩
/-- two struct arguments -/
structure Box2 (B : Nat) (w w1 : World) (X Y : Array Value) (T : TypeId) : Prop where
  bel : Below B w w1
  x : w1.heap[B]? = some (.cells X T (0, 0))
  y : w1.heap[B + 1]? = some (.cells Y T (0, 0))
theorem Box2.mk' (w : World) (X Y : Array Value) (T : TypeId) : Box2 w.heap.size w ((w.alloc (.cells X T)).alloc (.cells Y T)) X Y T := by
  have b1 := (Below.refl w.heap.size w).alloc (Nat.le_refl _) (.cells X T)
  exact ⟨b1.alloc (by simp) _, heap_lt (heap_at rfl), heap_at (by simp)⟩
theorem Box2.keep {B : Nat} {w w1 w2 : World} {X Y : Array Value} {T : TypeId} (h : Box2 B w w1 X Y T) (hB : B ≤ w1.heap.size) (hb : Below w1.heap.size w1 w2) : Box2 B w w2 X Y T :=
  ⟨h.bel.trans (hb.mono hB), bel_keep hb (lt_of_heap h.x) h.x, bel_keep hb (lt_of_heap h.y) h.y⟩
/-! ### results that lie in memory, one behind another -/
theorem results_cell_tmp {P : Program} {fn : Func} {p q : Tmp} {ty : TypeId} (h : fn.results = #[.cell p ty, .tmp q]) (tmps : Array Value) (w : World) (g : Nat) (t : TypeId) (cs : Array Value) (fr : Nat × Nat) (d : TypeDesc) (v : Value)
    (hp : tmps.getD p undef = .pointer (some ⟨g, 0, none⟩)) (hq : tmps.getD q undef = v) (hg : w.heap[g]? = some (.cells cs t fr))
    (hu : P.underlying ty = some d) (hd : (match d with | .struct _ | .array _ _ => true | _ => false) = true) (hi : (P.info? ty).map (·.size) = some cs.size) :
    (results fn tmps).run P w = .ok (.tuple #[.agg cs, v]) w := by
  have hp' : tmps[p]?.getD undef = .pointer (some ⟨g, 0, none⟩) := by simpa using hp
  have hq' : tmps[q]?.getD undef = v := by simpa using hq
  simp [results, h, hp', hq', asAddr, run_loadVar_row w g t ty cs fr d hg hu hd hi]
theorem two_slices (o1 o2 : Option Addr) (n1 c1 n2 c2 : Nat) : (#[Value.slice o1 n1 c1, Value.slice o2 n2 c2] : Array Value).all (·.oneCell') = true := by simp [Value.oneCell']
def noInt : Value → Bool
  | .int _ _ => false
  | _ => true
theorem two_noInt : (#[Value.slice none 0 0, Value.slice none 0 0] : Array Value).all noInt = true := by simp [noInt]
/-- a block without ints is turned: rows of limbs stay -/
theorem LimbsAt.spared {w w1 : World} {oc : Option Addr} {L : List Nat} {B : Nat} {cs : Array Value} {t : TypeId} {fr : Nat × Nat} (h : LimbsAt w oc L) (hb : w.heap[B]? = some (.cells cs t fr)) (hn : cs.all noInt = true) (ho : Only B w w1) : LimbsAt w1 oc L := ⟨fun i hi => by
  obtain ⟨a, h1, h2, h3⟩ := h.cells i hi
  have hne : (a.add i).block ≠ B := by
    intro he
    unfold World.cell? at h3
    rw [he, hb] at h3
    simp only at h3
    split at h3
    · cases h3
    · obtain ⟨hlt, hv⟩ := Array.getElem?_eq_some_iff.1 h3
      rw [Array.all_eq_true] at hn
      have := hn _ hlt
      rw [hv] at this
      cases this
  refine ⟨a, h1, by rw [ho.size]; exact h2, ?_⟩
  rw [World.cell?_of_block (w := w) (ho.block _ hne)]
  exact h3⟩
end Go.Proofs.YtnohcdpnnhmpfaaGreatDoor
