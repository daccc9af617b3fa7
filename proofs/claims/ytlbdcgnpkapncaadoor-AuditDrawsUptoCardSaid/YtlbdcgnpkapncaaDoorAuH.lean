/-
  Chapter 14, for Draw: a watch under way, its pairs beside it.
-/
import Derived.Test.YtlbdcgnpkapncaaDoorAuX
import Derived.Test.YtlbdcgnpkapncaaDoorAuE
namespace Go.Proofs.YtlbdcgnpkapncaaDoor
set_option linter.unusedVariables false
set_option linter.unusedSimpArgs false
open Go.RowKit ML FM NL AU

theorem fvals_set : ∀ (F : List (Bytes × Bytes)) (k : Nat) (a b : Bytes), k < F.length → ((fvals F).set (k * 2) (.string ⟨a.toArray⟩)).set (k * 2 + 1) (.string ⟨b.toArray⟩) = fvals (F.set k (a, b)) := by
  intro F
  induction F with
  | nil => intro k a b h; simp at h
  | cons p r ih =>
    intro k a b h
    have e : fvals (p :: r) = .string ⟨p.1.toArray⟩ :: .string ⟨p.2.toArray⟩ :: fvals r := rfl
    cases k with
    | zero => rw [e]; rfl
    | succ k =>
      have := ih k a b (by simpa using h)
      rw [e, show (k + 1) * 2 = k * 2 + 1 + 1 by omega, List.set_cons_succ, List.set_cons_succ, List.set_cons_succ, List.set_cons_succ, this]
      rfl
def oddsAt (A B : List Int) (S O : List (Bytes × Bytes)) (N D : Bytes) (M : List Int) (k : Nat) : List (Bytes × Bytes) := (List.range O.length).map (fun j => if j < k then nextAt A B S O N D M j else fAt O j)
section
variable {A B : List Int} {S O : List (Bytes × Bytes)} {N D : Bytes} {M : List Int}
theorem length_oddsAt (k : Nat) : (oddsAt A B S O N D M k).length = O.length := by simp [oddsAt]
theorem oddsAt_zero : oddsAt A B S O N D M 0 = O := by
  apply List.ext_getElem
  · simp [oddsAt]
  · intro i h1 h2
    simp [oddsAt, fAt, h2]
theorem oddsAt_all : oddsAt A B S O N D M O.length = nextOs A B S O N D M := by
  unfold oddsAt nextOs
  apply List.map_congr_left
  intro j hj
  rw [if_pos (List.mem_range.1 hj)]
theorem oddsAt_succ {k : Nat} : oddsAt A B S O N D M (k + 1) = (oddsAt A B S O N D M k).set k (nextAt A B S O N D M k) := by
  apply List.ext_getElem
  · simp [oddsAt]
  · intro i h1 h2
    simp only [oddsAt, List.getElem_map, List.getElem_range, List.getElem_set]
    by_cases h : k = i
    · subst h; rw [if_pos (Nat.lt_succ_self _), if_pos rfl]
    · rw [if_neg h]
      by_cases h3 : i < k
      · rw [if_pos (by omega), if_pos h3]
      · rw [if_neg (by omega), if_neg h3]
theorem oddsAt_same {k : Nat} (h : nextAt A B S O N D M k = fAt O k) : oddsAt A B S O N D M (k + 1) = oddsAt A B S O N D M k := by
  unfold oddsAt
  apply List.map_congr_left
  intro j hj
  by_cases h3 : j < k
  · rw [if_pos (by omega), if_pos h3]
  · rw [if_neg h3]
    by_cases h4 : j < k + 1
    · rw [if_pos h4]
      have : j = k := by omega
      subst this; exact h
    · rw [if_neg h4]
end
theorem LimbsAt.grownS {w w1 : World} {oc : Option Addr} {L : List Nat} {base : Nat} {e : TypeId} {size n : Nat} {v : Value} {xs : List Value} (h : LimbsAt w oc L) (hr : GRow isStr w base e size v n xs) (hg : w.grownBy w1 v.ownBlock) : LimbsAt w1 oc L := ⟨fun i hi => by
  obtain ⟨a, h1, h2, h3⟩ := h.cells i hi
  exact ⟨a, h1, Nat.lt_of_lt_of_le h2 hg.size, hr.cell hg h3 rfl (by rw [addr_block']; exact h2)⟩⟩
theorem LFr.grownS {w w1 : World} {n d : Nat} {on od : Option Addr} {base : Nat} {e : TypeId} {size k : Nat} {v : Value} {xs : List Value} (h : LFr w n d on od) (hr : GRow isStr w base e size v k xs) (hg : w.grownBy w1 v.ownBlock) : LFr w1 n d on od := ⟨h.num.grownS hr hg, h.den.grownS hr hg⟩
theorem PsAt.grownS {w w1 : World} {oc : Option Addr} {L : List PD} {base : Nat} {e : TypeId} {size n : Nat} {v : Value} {xs : List Value} (h : PsAt w oc L) (hr : GRow isStr w base e size v n xs) (hg : w.grownBy w1 v.ownBlock) : PsAt w1 oc L := ⟨fun i hi => by
  obtain ⟨a, h1, h2, h3⟩ := h.cells i hi
  refine ⟨a, h1, Nat.lt_of_lt_of_le h2 hg.size, fun j u hj => ?_⟩
  have hu : isStr u = false := by
    have hm := List.mem_of_getElem? hj
    simp only [PD.cells, List.mem_cons, List.not_mem_nil, or_false] at hm
    rcases hm with rfl | rfl | rfl | rfl | rfl | rfl <;> rfl
  exact hr.cell hg (h3 j u hj) hu (by rw [addr_block', addr_block']; exact h2), fun p hp => ⟨(h.at' p hp).share.grownS hr hg, (h.at' p hp).odds.grownS hr hg⟩⟩
/-- a watch under way (block X), what was read beside it (block E), the argument's box (B), the answer's (B + 1) -/
structure DrSt (B X E : Nat) (w w1 : World) (AG RW : Array Value) (v0 v1 v2 v3 nv dv' drv : Value) (A B' : List Int) (S O : List (Bytes × Bytes)) (op : Option Addr) (L : List PD) (ln ld : Nat) (ol om : Option Addr) : Prop where
  bel : Below B w w1
  arg : w1.heap[B]? = some (.cells AG 27 (0, 0))
  ans : w1.heap[B + 1]? = some (.cells #[.slice none 0 0, .slice none 0 0, .slice none 0 0, .slice none 0 0, .string ⟨#[]⟩, .string ⟨#[]⟩, .int .i64 0] 27 (0, 0))
  rd : w1.heap[E]? = some (.cells RW 73 (0, 0))
  row : w1.heap[X]? = some (.cells #[v0, v1, v2, v3, nv, dv', drv] 27 (0, 0))
  own0 : w1.ownsRow (B + 1 + 1) 3 1 v0 A.length (ivals A)
  own1 : w1.ownsRow (B + 1 + 1) 3 1 v1 B'.length (ivals B')
  own2 : w1.ownsRow (B + 1 + 1) 24 2 v2 S.length (fvals S)
  own3 : GRow isStr w1 (B + 1 + 1) 24 2 v3 O.length (fvals O)
  d23 : Apart v2 v3
  ps : PsAt w1 op L
  lim : LFr w1 ln ld ol om
  hE : B + 1 < E
  hX : E < X
namespace DrSt
variable {B X E : Nat} {w w1 w2 : World} {AG RW : Array Value} {v0 v1 v2 v3 nv dv' drv : Value} {A B' : List Int} {S O : List (Bytes × Bytes)} {op : Option Addr} {L : List PD} {ln ld : Nat} {ol om : Option Addr}
theorem below (h : DrSt B X E w w1 AG RW v0 v1 v2 v3 nv dv' drv A B' S O op L ln ld ol om) (hb : Below w1.heap.size w1 w2) : DrSt B X E w w2 AG RW v0 v1 v2 v3 nv dv' drv A B' S O op L ln ld ol om :=
  ⟨h.bel.trans (hb.mono (Nat.le_of_lt (lt_of_heap h.arg))), bel_keep hb (lt_of_heap h.arg) h.arg, bel_keep hb (lt_of_heap h.ans) h.ans, bel_keep hb (lt_of_heap h.rd) h.rd, bel_keep hb (lt_of_heap h.row) h.row, own_below h.own0 hb, own_below h.own1 hb, own_below h.own2 hb, h.own3.below hb, h.d23, h.ps.below hb, h.lim.below hb, h.hE, h.hX⟩
theorem put {g n cap : Nat} (h : DrSt B X E w w1 AG RW v0 v1 v2 (.slice (some ⟨g, 0, none⟩) n cap) nv dv' drv A B' S O op L ln ld ol om) {k : Nat} (hk : k < O.length) (a b : Bytes) : DrSt B X E w ((w1.setCell ⟨g, k * 2, none⟩ (.string ⟨a.toArray⟩)).setCell ⟨g, k * 2 + 1, none⟩ (.string ⟨b.toArray⟩)) AG RW v0 v1 v2 (.slice (some ⟨g, 0, none⟩) n cap) nv dv' drv A B' S (O.set k (a, b)) op L ln ld ol om := by
  obtain ⟨cap', cur, hv, hbg, hgc⟩ : ∃ cap' cur, (n = O.length ∧ cap = cap') ∧ B + 1 + 1 ≤ g ∧ w1.heap[g]? = some (.cells cur 24 (0, 0)) := by
    rcases h.own3.own.2 with ⟨h0, _⟩ | ⟨g2, cap2, cur2, h0, hb2, hg2, _⟩
    · cases h0
    · injection h0 with h0 h1 h2
      injection h0 with h0
      injection h0 with h0
      subst h0
      exact ⟨cap2, cur2, ⟨h1, h2⟩, hb2, hg2⟩
  obtain ⟨rfl, rfl⟩ := hv
  have ho : Only g w1 ((w1.setCell ⟨g, k * 2, none⟩ (.string ⟨a.toArray⟩)).setCell ⟨g, k * 2 + 1, none⟩ (.string ⟨b.toArray⟩)) := ((Only.refl g w1).setCell _ _).setCell _ _
  have hgr : w1.grownBy ((w1.setCell ⟨g, k * 2, none⟩ (.string ⟨a.toArray⟩)).setCell ⟨g, k * 2 + 1, none⟩ (.string ⟨b.toArray⟩)) (Value.slice (some ⟨g, 0, none⟩) O.length cap).ownBlock := grown_only ho
  have own3' := (h.own3.stored (k * 2) (.string ⟨a.toArray⟩) rfl).stored (k * 2 + 1) (.string ⟨b.toArray⟩) rfl
  rw [fvals_set O k a b hk] at own3'
  have ne : ∀ {i : Nat} {cs : Array Value} {t : TypeId}, w1.heap[i]? = some (.cells cs t (0, 0)) → t ≠ 24 → i ≠ g := fun {i cs t} hi ht he => by
    subst he
    rw [hgc] at hi
    injection hi with hi
    injection hi with _ h2
    exact ht h2.symm
  have hE := h.hE
  have hX := h.hX
  exact ⟨bel_only h.bel ho (by omega), (ho.block _ (ne h.arg (by decide))).trans h.arg, (ho.block _ (ne h.ans (by decide))).trans h.ans, (ho.block _ (ne h.rd (by decide))).trans h.rd, (ho.block _ (ne h.row (by decide))).trans h.row,
    h.own0.kept hgr (apart_types h.own0 h.own3.own (by decide)), h.own1.kept hgr (apart_types h.own1 h.own3.own (by decide)), h.own2.kept hgr h.d23, by rw [List.length_set]; exact own3', h.d23, h.ps.grownS h.own3 hgr, h.lim.grownS h.own3 hgr, hE, hX⟩
end DrSt
end Go.Proofs.YtlbdcgnpkapncaaDoor
