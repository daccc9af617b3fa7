/-
  Chapter 14, for Draw: pairs of a watch that was read, in memory.
-/
import Derived.Test.YtlbdcgnpkapncaaDoorAuQ
import Derived.Test.YtlbdcgnpkapncaaDoorGood
namespace Go.Proofs.YtlbdcgnpkapncaaDoor
set_option linter.unusedVariables false
set_option linter.unusedSimpArgs false
open Go.RowKit ML FM NL AU

theorem mid_blk {w : World} {g off : Nat} {cs : Array Value} {t : TypeId} {fr : Nat × Nat} (h : w.heap[g]? = some (.cells cs t fr)) (news : List Value) (hn : ∀ j u, news[j]? = some u → cs[off + j]? = some u) : ∀ j u, news[j]? = some u → w.cell? ((⟨g, off, none⟩ : Addr).add j) = some u := fun j u hj => by
  rw [Addr.add_mid, cell_of_row w g (off + j) _ _ _ h]
  exact hn j u hj
theorem setCells_two (w : World) (b o : Nat) (v0 v1 : Value) : w.setCells b o [v0, v1] = (w.setCell ⟨b, o, none⟩ v0).setCell ⟨b, o + 1, none⟩ v1 := rfl
theorem wpList_store_two {P : Program} {ops : Array Oper} {rest : List Oper} {o : Oper} {a : Act} {w : World} {Q : Exit → Act → World → Prop} (hgd : o.guard = none) (hdst : o.dst = none) (ty : TypeId) (x y : Operand) (ho : o.op = .store ty x y) (b off : Nat) (cs : Array Value) (v0 v1 : Value) (t : TypeId)
    (hx : a.eval x = .pointer (some ⟨b, off, none⟩)) (hy : a.eval y = .agg #[v0, v1]) (hb : w.heap[b]? = some (.cells cs t (0, 0))) (hs : off + 1 < cs.size)
    (hi : (P.info? ty).map (·.size) = some 2) (h1 : (#[v0, v1] : Array Value).all (·.oneCell') = true)
    (h : ∀ w1, Only b w w1 → w1.heap[b]? = some (.cells ((cs.setIfInBounds off v0).setIfInBounds (off + 1) v1) t (0, 0)) → wpList P ops Q rest a w1) : wpList P ops Q (o :: rest) a w :=
  wpList_store_mid hgd ty x y ho b off #[v0, v1] hx hy
    (fun j hj => by
      have hj2 : j < 2 := hj
      rw [cell_of_row w b (off + j) cs t _ hb]
      exact ⟨by simp; omega, frozen_of_row w b (off + j) cs t hb⟩) hi h1 (by
    rw [hdst]
    exact h _ (((Only.refl b w).setCell _ _).setCell _ _) (heap_setCell_same _ b (off + 1) _ _ _ (heap_setCell_same w b off _ _ _ hb)))

/-- a pair that was read -/
structure PD where
  wi : Int
  lo : Int
  s : Nat
  t : Nat
  a : Nat
  b : Nat
  os : Option Addr
  ot : Option Addr
  oa : Option Addr
  ob : Option Addr
  cs : Nat
  ct : Nat
  ca : Nat
  cb : Nat
namespace PD
def cells (p : PD) : List Value := [.int .i64 p.wi, .int .i64 p.lo, .slice p.os (dig p.s).length p.cs, .slice p.ot (dig p.t).length p.ct, .slice p.oa (dig p.a).length p.ca, .slice p.ob (dig p.b).length p.cb]
structure At (w : World) (p : PD) : Prop where
  share : LFr w p.s p.t p.os p.ot
  odds : LFr w p.a p.b p.oa p.ob
theorem At.below {w w1 : World} {p : PD} (h : At w p) (hb : Below w.heap.size w w1) : At w1 p := ⟨h.share.below hb, h.odds.below hb⟩
end PD
def pvals (L : List PD) : List Value := L.flatMap PD.cells
theorem pvals_append (A B : List PD) : pvals A ++ pvals B = pvals (A ++ B) := by simp [pvals]
theorem pvals_single (p : PD) : pvals [p] = p.cells := by simp [pvals]
theorem length_pvals (L : List PD) : (pvals L).length = L.length * 6 := by
  unfold pvals
  induction L with
  | nil => rfl
  | cons p r ih => rw [List.flatMap_cons, List.length_append, ih, List.length_cons]; simp [PD.cells]; omega
theorem pvals_one (L : List PD) : ∀ v ∈ pvals L, v.oneCell' = true := by
  intro v hv
  unfold pvals at hv
  obtain ⟨p, _, h⟩ := List.mem_flatMap.1 hv
  simp only [PD.cells, List.mem_cons, List.not_mem_nil, or_false] at h
  rcases h with rfl | rfl | rfl | rfl | rfl | rfl <;> rfl
theorem pvals_good (L : List PD) : ∀ v ∈ pvals L, noLimb v = true := by
  intro v hv
  unfold pvals at hv
  obtain ⟨p, _, h⟩ := List.mem_flatMap.1 hv
  simp only [PD.cells, List.mem_cons, List.not_mem_nil, or_false] at h
  rcases h with rfl | rfl | rfl | rfl | rfl | rfl <;> rfl
theorem pvals_get (L : List PD) : ∀ (i : Nat) (h : i < L.length) (j : Nat) (v : Value), (L[i].cells)[j]? = some v → (pvals L)[i * 6 + j]? = some v := by
  induction L with
  | nil => intro i h; simp at h
  | cons p r ih =>
    intro i h j v hj
    have hj2 : j < 6 := by have := (List.getElem?_eq_some_iff.1 hj).1; simpa [PD.cells] using this
    unfold pvals
    rw [List.flatMap_cons]
    cases i with
    | zero =>
      rw [List.getElem?_append_left (by simp [PD.cells]; omega)]
      simpa using hj
    | succ i =>
      rw [List.getElem?_append_right (by simp [PD.cells]; omega)]
      have e : (i + 1) * 6 + j - p.cells.length = i * 6 + j := by simp [PD.cells]; omega
      rw [e]
      exact ih i (by simpa using h) j v (by simpa using hj)
/-- the pairs are those of the watch -/
def PMatch (A B : List Int) (S O : List (Bytes × Bytes)) (L : List PD) : Prop := ∀ j p, L[j]? = some p → p.wi = iAt A j ∧ p.lo = iAt B j ∧ p.s = dv (fAt S j).1 ∧ p.t = dv (fAt S j).2 ∧ p.a = dv (fAt O j).1 ∧ p.b = dv (fAt O j).2
theorem pmatch_snoc {A B : List Int} {S O : List (Bytes × Bytes)} {L : List PD} {p : PD} (h : PMatch A B S O L) (hp : p.wi = iAt A L.length ∧ p.lo = iAt B L.length ∧ p.s = dv (fAt S L.length).1 ∧ p.t = dv (fAt S L.length).2 ∧ p.a = dv (fAt O L.length).1 ∧ p.b = dv (fAt O L.length).2) : PMatch A B S O (L ++ [p]) := fun j q hj => by
  by_cases hlt : j < L.length
  · rw [List.getElem?_append_left hlt] at hj
    exact h j q hj
  · have hle : j < (L ++ [p]).length := (List.getElem?_eq_some_iff.1 hj).1
    have : j = L.length := by simp at hle; omega
    subst this
    rw [List.getElem?_append_right (Nat.le_refl _)] at hj
    simp only [Nat.sub_self, List.getElem?_cons_zero, Option.some.injEq] at hj
    subst hj
    exact hp
/-- pairs in memory, behind one another -/
structure PsAt (w : World) (oa : Option Addr) (L : List PD) : Prop where
  cells : ∀ i (h : i < L.length), ∃ a, oa = some a ∧ a.block < w.heap.size ∧ ∀ j v, (L[i].cells)[j]? = some v → w.cell? ((a.add (i * 6)).add j) = some v
  at' : ∀ p ∈ L, p.At w
theorem PsAt.below {w w1 : World} {oa : Option Addr} {L : List PD} (h : PsAt w oa L) (hb : Below w.heap.size w w1) : PsAt w1 oa L := ⟨fun i hi => by
  obtain ⟨a, h1, h2, h3⟩ := h.cells i hi
  exact ⟨a, h1, Nat.lt_of_lt_of_le h2 hb.size, fun j v hj => by rw [hb.cell (by rw [addr_block', addr_block']; exact h2)]; exact h3 j v hj⟩, fun p hp => (h.at' p hp).below hb⟩
theorem psAt_own {w : World} {base : Nat} {e : TypeId} {v : Value} {n : Nat} {L : List PD} (h : w.ownsRow base e 6 v n (pvals L)) (hat : ∀ p ∈ L, p.At w) : ∃ oa cap, v = .slice oa L.length cap ∧ PsAt w oa L := by
  have hl : L.length = n := by have := h.1; rw [length_pvals] at this; omega
  rcases h.2 with ⟨hv, h0⟩ | ⟨g, cap, cur, hv, hb, hg, hnc, _, hc, ht⟩
  · have : L = [] := List.length_eq_zero_iff.1 (by omega)
    subst this
    exact ⟨none, 0, hv, ⟨fun i hi => by simp at hi, hat⟩⟩
  · refine ⟨some ⟨g, 0, none⟩, cap, by rw [hl]; exact hv, ⟨fun i hi => ⟨_, rfl, lt_of_heap hg, fun j v hj => ?_⟩, hat⟩⟩
    rw [Go.Deep.add_add]
    exact h.cells (g := g) (by rw [hv]; rfl) (i * 6 + j) v (pvals_get L i hi j v hj)
theorem LFr.spared {w w1 : World} {n d : Nat} {on od : Option Addr} {B : Nat} {cs : Array Value} {t : TypeId} {fr : Nat × Nat} (h : LFr w n d on od) (hb : w.heap[B]? = some (.cells cs t fr)) (hn : cs.all noInt = true) (ho : Only B w w1) : LFr w1 n d on od := ⟨h.num.spared hb hn ho, h.den.spared hb hn ho⟩
theorem LFr.grown {w w1 : World} {n d : Nat} {on od : Option Addr} {base : Nat} {e : TypeId} {size k : Nat} {v : Value} {xs : List Value} (h : LFr w n d on od) (hr : GRow noLimb w base e size v k xs) (hg : w.grownBy w1 v.ownBlock) : LFr w1 n d on od := ⟨h.num.grown hr hg, h.den.grown hr hg⟩
/-- rows of limbs stay, where a block without limbs is turned -/
theorem LimbsAt.sparedL {w w1 : World} {oc : Option Addr} {L : List Nat} {B : Nat} {cs : Array Value} {t : TypeId} {fr : Nat × Nat} (h : LimbsAt w oc L) (hb : w.heap[B]? = some (.cells cs t fr)) (hn : cs.all noLimb = true) (ho : Only B w w1) : LimbsAt w1 oc L := ⟨fun i hi => by
  obtain ⟨a, h1, h2, h3⟩ := h.cells i hi
  have hne : (a.add i).block ≠ B := by
    intro he
    unfold World.cell? at h3
    rw [he, hb] at h3
    simp only at h3
    split at h3
    · cases h3
    · obtain ⟨hlt, hv⟩ := Array.getElem?_eq_some_iff.1 h3
      rw [Array.all_eq_true] at hn
      have := hn _ hlt
      rw [hv] at this
      cases this
  refine ⟨a, h1, by rw [ho.size]; exact h2, ?_⟩
  rw [World.cell?_of_block (w := w) (ho.block _ hne)]
  exact h3⟩
theorem LFr.sparedL {w w1 : World} {n d : Nat} {on od : Option Addr} {B : Nat} {cs : Array Value} {t : TypeId} {fr : Nat × Nat} (h : LFr w n d on od) (hb : w.heap[B]? = some (.cells cs t fr)) (hn : cs.all noLimb = true) (ho : Only B w w1) : LFr w1 n d on od := ⟨h.num.sparedL hb hn ho, h.den.sparedL hb hn ho⟩
theorem all_noLimb {cs : Array Value} (h : cs.all noInt = true) : cs.all noLimb = true := by
  rw [Array.all_eq_true] at h ⊢
  intro i hi
  have := h i hi
  cases hc : cs[i] <;> rw [hc] at this <;> first | rfl | cases this
/-- a watch being read: the argument's box at B, the answer's at B + 1, the watch at X, a half at E -/
structure RdSt (B X E : Nat) (w w1 : World) (AG HV : Array Value) (l1 l2 v : Value) (ln ld : Nat) (oln old o1 o2 : Option Addr) (L : List PD) : Prop where
  bel : Below B w w1
  arg : w1.heap[B]? = some (.cells AG 27 (0, 0))
  ans : w1.heap[B + 1]? = some (.cells #[.slice none 0 0, .slice none 0 0, .slice none 0 0] 73 (0, 0))
  row : w1.heap[X]? = some (.cells #[v, l1, l2] 73 (0, 0))
  half : w1.heap[E]? = some (.cells HV 53 (0, 0))
  own : GRow noLimb w1 (E + 1) 78 6 v L.length (pvals L)
  lim : LFr w1 ln ld oln old
  hlf : LFr w1 1 2 o1 o2
  ps : ∀ p ∈ L, p.At w1
  hB : B + 1 < X
  hX : X < E
namespace RdSt
variable {B X E : Nat} {w w1 w2 : World} {AG HV : Array Value} {l1 l2 v : Value} {ln ld : Nat} {oln old o1 o2 : Option Addr} {L : List PD}
theorem below (h : RdSt B X E w w1 AG HV l1 l2 v ln ld oln old o1 o2 L) (hb : Below w1.heap.size w1 w2) : RdSt B X E w w2 AG HV l1 l2 v ln ld oln old o1 o2 L :=
  ⟨h.bel.trans (hb.mono (Nat.le_of_lt (lt_of_heap h.arg))), bel_keep hb (lt_of_heap h.arg) h.arg, bel_keep hb (lt_of_heap h.ans) h.ans, bel_keep hb (lt_of_heap h.row) h.row, bel_keep hb (lt_of_heap h.half) h.half, h.own.below hb, h.lim.below hb, h.hlf.below hb, fun p hp => (h.ps p hp).below hb, h.hB, h.hX⟩
theorem turn (h : RdSt B X E w w1 AG HV l1 l2 v ln ld oln old o1 o2 L) {P : Nat} {cs : Array Value} {t : TypeId} {fr : Nat × Nat} (ho : Only P w1 w2) (hb : w1.heap[P]? = some (.cells cs t fr)) (hn : cs.all noLimb = true) (hPE : E < P) (hv : v.ownBlock ≠ some P) : RdSt B X E w w2 AG HV l1 l2 v ln ld oln old o1 o2 L := by
  have hB := h.hB
  have hX := h.hX
  have keep : ∀ {k : Nat} {o : Obj}, k ≠ P → w1.heap[k]? = some o → w2.heap[k]? = some o := fun {k o} hne hh => (ho.block k hne).trans hh
  exact ⟨bel_only h.bel ho (by omega), keep (by omega) h.arg, keep (by omega) h.ans, keep (by omega) h.row, keep (by omega) h.half, h.own.kept (grown_only ho) (.inr hv), h.lim.sparedL hb hn ho, h.hlf.sparedL hb hn ho, fun p hp => ⟨(h.ps p hp).share.sparedL hb hn ho, (h.ps p hp).odds.sparedL hb hn ho⟩, hB, hX⟩
/-- one more pair, the watch's field not yet set -/
theorem app (h : RdSt B X E w w1 AG HV l1 l2 v ln ld oln old o1 o2 L) {p : PD} {v' : Value} {n : Nat} (hn : n = L.length + 1) (own : GRow noLimb w2 (E + 1) 78 6 v' n (pvals L ++ p.cells)) (hg : w1.grownBy w2 v.ownBlock) (hp : p.At w1) (hno : #[v, l1, l2].all noInt = true)
    {w3 : World} (ho : Only X w2 w3) (hr : w3.heap[X]? = some (.cells #[v', l1, l2] 73 (0, 0))) : RdSt B X E w w3 AG HV l1 l2 v' ln ld oln old o1 o2 (L ++ [p]) := by
  subst hn
  have hB := h.hB
  have hX := h.hX
  have hv : ∀ k, k < E + 1 → some k ≠ v.ownBlock := fun k hk he => by have := (h.own.own.lt k he.symm).1; omega
  have keep : ∀ {k : Nat} {o : Obj}, k < E + 1 → k ≠ X → w1.heap[k]? = some o → w3.heap[k]? = some o := fun {k o} hk hne hh => (ho.block k hne).trans ((hg.block k (lt_of_heap hh) (hv k hk)).trans hh)
  have row2 : w2.heap[X]? = some (.cells #[v, l1, l2] 73 (0, 0)) := (hg.block X (lt_of_heap h.row) (hv X (by omega))).trans h.row
  have ob : v'.ownBlock = none ∨ v'.ownBlock ≠ some X := .inr (fun he => by have := (own.own.lt _ he).1; omega)
  refine ⟨bel_only (h.bel.grown hg (Nat.le_of_lt (lt_of_heap h.arg)) (fun q hq => by have := (h.own.own.lt q hq).1; omega)) ho (by omega), keep (by omega) (by omega) h.arg, keep (by omega) (by omega) h.ans, hr, keep (by omega) (by omega) h.half, ?_, (h.lim.grown h.own hg).spared row2 hno ho, (h.hlf.grown h.own hg).spared row2 hno ho, ?_, hB, hX⟩
  · have := own.kept (grown_only ho) ob
    rw [List.length_append, List.length_singleton, ← pvals_append, pvals_single]
    exact this
  · intro q hq
    rcases List.mem_append.1 hq with hq | hq
    · exact ⟨((h.ps q hq).share.grown h.own hg).spared row2 hno ho, ((h.ps q hq).odds.grown h.own hg).spared row2 hno ho⟩
    · rw [List.mem_singleton] at hq
      subst hq
      exact ⟨(hp.share.grown h.own hg).spared row2 hno ho, (hp.odds.grown h.own hg).spared row2 hno ho⟩
end RdSt
/-- what audit.read answers -/
def RdGot (A B : List Int) (S O : List (Bytes × Bytes)) (N D : Bytes) (n : Int) (w : World) (e : Ending) (w' : World) : Prop :=
  ∃ op np cp ol nl cl om nm cm, e = .returned (.tuple #[.agg #[.slice op np cp, .slice ol nl cl, .slice om nm cm], .bool (rightW A B S O N D n)]) ∧
    (rightW A B S O N D n = true → ∃ L : List PD, np = L.length ∧ L.length = A.length ∧ PMatch A B S O L ∧ PsAt w' op L ∧ nl = (dig (limN (dv N) (dv D))).length ∧ nm = (dig (limD (dv N) (dv D))).length ∧ LFr w' (limN (dv N) (dv D)) (limD (dv N) (dv D)) ol om) ∧ Below w.heap.size w w'
theorem rdGot_bad {A B : List Int} {S O : List (Bytes × Bytes)} {N D : Bytes} {n : Int} {w w' : World} {e : Ending} (hR : rightW A B S O N D n = false) (he : e = .returned (.tuple #[.agg #[.slice none 0 0, .slice none 0 0, .slice none 0 0], .bool false])) (hb : Below w.heap.size w w') : RdGot A B S O N D n w e w' :=
  ⟨none, 0, 0, none, 0, 0, none, 0, 0, by rw [hR]; exact he, fun h => by (rw [hR] at h; cases h), hb⟩
theorem size_awatch : (Tryd.prog.info? 73).map (·.size) = some 3 := by kernel_rfl
theorem size_apair : (Tryd.prog.info? 78).map (·.size) = some 6 := by kernel_rfl
theorem info_apair : (Tryd.prog.info? 78).map (fun i => (i.zero, i.size, i.bytes)) = some (some (.agg #[.int .i64 0, .int .i64 0, .slice none 0 0, .slice none 0 0, .slice none 0 0, .slice none 0 0]), 6, 112) := by kernel_rfl
theorem pair_good : ∀ u ∈ (Value.agg #[.int .i64 0, .int .i64 0, .slice none 0 0, .slice none 0 0, .slice none 0 0, .slice none 0 0]).cells.toList, noLimb u = true := by
  intro u hu
  simp only [Value.cells, List.mem_cons, List.not_mem_nil, or_false] at hu
  rcases hu with rfl | rfl | rfl | rfl | rfl | rfl <;> rfl
theorem three_one (a b c : Value) (h0 : a.oneCell' = true) (h1 : b.oneCell' = true) (h2 : c.oneCell' = true) : (#[a, b, c] : Array Value).all (·.oneCell') = true := by simp [h0, h1, h2]
theorem six_one (a b c d e f : Value) (h0 : a.oneCell' = true) (h1 : b.oneCell' = true) (h2 : c.oneCell' = true) (h3 : d.oneCell' = true) (h4 : e.oneCell' = true) (h5 : f.oneCell' = true) : (#[a, b, c, d, e, f] : Array Value).all (·.oneCell') = true := by simp [h0, h1, h2, h3, h4, h5]
end Go.Proofs.YtlbdcgnpkapncaaDoor
