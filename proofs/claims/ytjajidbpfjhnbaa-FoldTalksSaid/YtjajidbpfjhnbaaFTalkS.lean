/-
  FoldTalks: the talks and what is wanted of them, in memory.
-/
import Derived.Test.YtjajidbpfjhnbaaFTalkA
import Derived.Laws.OwnMore
import Derived.Deep.AppendLies
namespace Go.Proofs.Ytjajidbpfjhnbaa
set_option linter.unusedVariables false
set_option linter.unusedSimpArgs false
open Go.RowKit ML FM

def ptrs (Bs : List Nat) : List Value := Bs.map fun b => Value.pointer (some ⟨b, 0, none⟩)
def strs (Ss : List Bytes) : List Value := Ss.map fun s => Value.string ⟨s.toArray⟩
theorem ptrs_append (A B : List Nat) : ptrs A ++ ptrs B = ptrs (A ++ B) := by simp [ptrs]
theorem strs_append (A B : List Bytes) : strs A ++ strs B = strs (A ++ B) := by simp [strs]
theorem ptrs_one (L : List Nat) : ∀ v ∈ ptrs L, v.oneCell' = true := by
  intro v hv; simp only [ptrs, List.mem_map] at hv; obtain ⟨x, _, rfl⟩ := hv; rfl
theorem strs_one (L : List Bytes) : ∀ v ∈ strs L, v.oneCell' = true := by
  intro v hv; simp only [strs, List.mem_map] at hv; obtain ⟨x, _, rfl⟩ := hv; rfl
theorem heap_own {w : World} {base : Nat} {e : TypeId} {g n c : Nat} {m : Nat} {xs : List Value} (h : w.ownsRow base e 1 (.slice (some ⟨g, 0, none⟩) n c) m xs) : ∃ cur, w.heap[g]? = some (.cells cur e (0, 0)) := by
  rcases h.2 with ⟨h1, _⟩ | ⟨g', cap, cur, h1, _, hg, _⟩
  · cases h1
  · injection h1 with h2
    injection h2 with h3
    injection h3 with h4
    subst h4
    exact ⟨cur, hg⟩
structure TalkSt (R : Nat) (w0 w : World) (v5 v6 : Value) (Bs : List Nat) (Ps Qs : List Bytes) : Prop where
  own5 : w.ownsRow R 42 1 v5 Bs.length (ptrs Bs)
  own6 : w.ownsRow R 46 1 v6 Qs.length (strs Qs)
  len : Ps.length = Bs.length
  nd : Bs.Nodup
  cells : ∀ i (h : i < Bs.length), w.heap[Bs[i]]? = some (.cells #[.string ⟨(Ps.getD i []).toArray⟩] 82 (0, 0))
  ge : ∀ b ∈ Bs, R ≤ b
  bel : Below R w0 w
  size : R ≤ w.heap.size
namespace TalkSt
variable {R : Nat} {w0 w w1 : World} {v5 v6 : Value} {Bs : List Nat} {Ps Qs : List Bytes}
theorem below (h : TalkSt R w0 w v5 v6 Bs Ps Qs) (hb : Below w.heap.size w w1) : TalkSt R w0 w1 v5 v6 Bs Ps Qs :=
  ⟨own_below h.own5 hb, own_below h.own6 hb, h.len, h.nd, fun i hi => bel_keep hb (lt_of_heap (h.cells i hi)) (h.cells i hi), h.ge, h.bel.trans (hb.mono h.size), Nat.le_trans h.size hb.size⟩
theorem turn (h : TalkSt R w0 w v5 v6 Bs Ps Qs) {i : Nat} (hi : i < Bs.length) {X : Bytes} (hu : TalkUp Bs[i] X 82 w w1) : TalkSt R w0 w1 v5 v6 Bs (Ps.set i X) Qs := by
  refine ⟨h.own5.kept hu.2 (.inr (own_ne h.own5 (h.cells i hi) (by decide))), h.own6.kept hu.2 (.inr (own_ne h.own6 (h.cells i hi) (by decide))), by rw [List.length_set]; exact h.len, h.nd, fun j hj => ?_, h.ge,
    h.bel.grown hu.2 h.size (fun q hq => by cases hq; exact h.ge _ (List.getElem_mem hi)), Nat.le_trans h.size hu.2.size⟩
  by_cases hij : j = i
  · subst hij
    rw [hu.1]
    have : (Ps.set j X).getD j [] = X := by rw [List.getD_eq_getElem?_getD, List.getElem?_set_self (by rw [h.len]; exact hi)]; rfl
    rw [this]
  · have e : (Ps.set i X).getD j [] = Ps.getD j [] := by rw [List.getD_eq_getElem?_getD, List.getElem?_set_ne (Ne.symm hij), ← List.getD_eq_getElem?_getD]
    rw [e]
    refine grown_keep hu.2 (fun he => ?_) (h.cells j hj)
    injection he with he
    exact hij ((List.getElem_inj h.nd).1 he).symm
theorem want {g5 n5 c5 g n c : Nat} (h : TalkSt R w0 w (.slice (some ⟨g5, 0, none⟩) n5 c5) (.slice (some ⟨g, 0, none⟩) n c) Bs Ps Qs) (j : Nat) (X : Bytes) : TalkSt R w0 (w.setCell ⟨g, j, none⟩ (.string ⟨X.toArray⟩)) (.slice (some ⟨g5, 0, none⟩) n5 c5) (.slice (some ⟨g, 0, none⟩) n c) Bs Ps (Qs.set j X) := by
  have hn : n = Qs.length := by
    rcases h.own6.2 with ⟨h1, _⟩ | ⟨g', cap, cur, h1, _⟩
    · cases h1
    · injection h1
  subst hn
  have o6 := h.own6
  obtain ⟨s1, s2⟩ := World.ownsRow.stored o6 j (.string ⟨X.toArray⟩)
  obtain ⟨cur, hg⟩ := heap_own o6
  have s3 : strs (Qs.set j X) = (strs Qs).set j (.string ⟨X.toArray⟩) := by simp [strs, List.map_set]
  refine ⟨h.own5.kept s2 (.inr (own_ne h.own5 hg (by decide))), by rw [s3, List.length_set]; exact s1, h.len, h.nd, fun i hi => grown_keep s2 (fun he => ?_) (h.cells i hi), h.ge,
    h.bel.grown s2 h.size (fun q hq => by cases hq; exact (o6.lt g rfl).1), Nat.le_trans h.size s2.size⟩
  injection he with he
  have := h.cells i hi
  rw [← he, hg] at this
  simp at this
theorem push5 (h : TalkSt R w0 w v5 v6 Bs Ps Qs) {v5' : Value} {b : Nat} {X : Bytes} (own : w1.ownsRow R 42 1 v5' (Bs.length + 1) (ptrs Bs ++ ptrs [b])) (hg : w.grownBy w1 v5.ownBlock)
    (hb : w.heap[b]? = some (.cells #[.string ⟨X.toArray⟩] 82 (0, 0))) (hn : b ∉ Bs) (hR : R ≤ b) : TalkSt R w0 w1 v5' v6 (Bs ++ [b]) (Ps ++ [X]) Qs := by
  refine ⟨by rw [← ptrs_append, List.length_append]; exact own, h.own6.kept hg ?_, by simp [h.len], ?_, fun i hi => ?_, fun c hc => ?_, h.bel.grown hg h.size (fun q hq => (h.own5.lt q hq).1), Nat.le_trans h.size hg.size⟩
  · cases hv : v5.ownBlock with
    | none => cases v6.ownBlock <;> simp
    | some g5 =>
      refine .inr ?_
      obtain ⟨g, hg5⟩ : ∃ cur, w.heap[g5]? = some (.cells cur 42 (0, 0)) := by
        rcases h.own5.2 with ⟨rfl, _⟩ | ⟨g, cap, cur, rfl, _, h1, _⟩
        · simp [Value.ownBlock] at hv
        · simp [Value.ownBlock] at hv
          subst hv
          exact ⟨cur, h1⟩
      exact own_ne h.own6 hg5 (by decide)
  · rw [List.nodup_append]
    refine ⟨h.nd, by simp, fun a ha c hc => ?_⟩
    rw [List.mem_singleton] at hc
    subst hc
    intro he
    subst he
    exact hn ha
  · by_cases hlt : i < Bs.length
    · have e1 : (Bs ++ [b])[i] = Bs[i] := List.getElem_append_left hlt
      have e2 : (Ps ++ [X]).getD i [] = Ps.getD i [] := by rw [List.getD_eq_getElem?_getD, List.getElem?_append_left (by rw [h.len]; exact hlt), ← List.getD_eq_getElem?_getD]
      rw [e2]
      simp only [e1]
      exact grown_keep hg (own_ne h.own5 (h.cells i hlt) (by decide)) (h.cells i hlt)
    · have hi2 : i = Bs.length := by rw [List.length_append, List.length_singleton] at hi; omega
      subst hi2
      have e1 : (Bs ++ [b])[Bs.length] = b := by rw [List.getElem_append_right (Nat.le_refl _)]; simp
      have e2 : (Ps ++ [X]).getD Bs.length [] = X := by rw [List.getD_eq_getElem?_getD, ← h.len, List.getElem?_append_right (Nat.le_refl _)]; simp
      rw [e2]
      simp only [e1]
      exact grown_keep hg (own_ne h.own5 hb (by decide)) hb
  · rcases List.mem_append.1 hc with h1 | h1
    · exact h.ge c h1
    · rw [List.mem_singleton] at h1; subst h1; exact hR
theorem push6 (h : TalkSt R w0 w v5 v6 Bs Ps Qs) {v6' : Value} {X : Bytes} (own : w1.ownsRow R 46 1 v6' (Qs.length + 1) (strs Qs ++ strs [X])) (hg : w.grownBy w1 v6.ownBlock) : TalkSt R w0 w1 v5 v6' Bs Ps (Qs ++ [X]) := by
  refine ⟨h.own5.kept hg ?_, by rw [← strs_append, List.length_append]; exact own, h.len, h.nd, fun i hi => grown_keep hg (own_ne h.own6 (h.cells i hi) (by decide)) (h.cells i hi), h.ge,
    h.bel.grown hg h.size (fun q hq => (h.own6.lt q hq).1), Nat.le_trans h.size hg.size⟩
  cases hv : v6.ownBlock with
  | none => cases v5.ownBlock <;> simp
  | some g5 =>
    refine .inr ?_
    obtain ⟨g, hg5⟩ : ∃ cur, w.heap[g5]? = some (.cells cur 46 (0, 0)) := by
      rcases h.own6.2 with ⟨rfl, _⟩ | ⟨g, cap, cur, rfl, _, h1, _⟩
      · simp [Value.ownBlock] at hv
      · simp [Value.ownBlock] at hv
        subst hv
        exact ⟨cur, h1⟩
    exact own_ne h.own5 hg5 (by decide)
theorem blk5 {g5 n5 c5 : Nat} (h : TalkSt R w0 w (.slice (some ⟨g5, 0, none⟩) n5 c5) v6 Bs Ps Qs) : w.heap[g5]? = some (.cells (Classical.choose (heap_own h.own5)) 42 (0, 0)) := Classical.choose_spec (heap_own h.own5)
theorem lts (h : TalkSt R w0 w v5 v6 Bs Ps Qs) : ∀ b ∈ Bs, b < w.heap.size := fun b hb => by
  obtain ⟨i, hi, rfl⟩ := List.getElem_of_mem hb
  exact lt_of_heap (h.cells i hi)
theorem keep6 {g n c : Nat} (h : TalkSt R w0 w v5 (.slice (some ⟨g, 0, none⟩) n c) Bs Ps Qs) {k : Nat} {cs : Array Value} {e : TypeId} {fr : Nat × Nat} (hk : w.heap[k]? = some (.cells cs e fr)) (hne : e ≠ 46) (j : Nat) (v : Value) :
    (w.setCell ⟨g, j, none⟩ v).heap[k]? = some (.cells cs e fr) := by
  obtain ⟨cur, hg⟩ := heap_own h.own6
  rw [heap_setCell_other w ⟨g, j, none⟩ k v (fun he => ?_)]
  · exact hk
  · simp only at he
    subst he
    rw [hg] at hk
    injection hk with hk
    injection hk with _ h2
    exact hne h2.symm
theorem ptr {g5 n5 c5 : Nat} (h : TalkSt R w0 w (.slice (some ⟨g5, 0, none⟩) n5 c5) v6 Bs Ps Qs) {i b : Nat} (hi : i < Bs.length) (hb : b = Bs[i]) : w.cell? ⟨g5, i, none⟩ = some (.pointer (some ⟨b, 0, none⟩)) := by
  have hn : n5 = Bs.length := by
    rcases h.own5.2 with ⟨h1, _⟩ | ⟨g', cap, cur, h1, _⟩
    · cases h1
    · injection h1
  subst hn
  rw [World.ownsRow.cellAt h.own5 i (by omega), hb]
  simp [ptrs, hi]
theorem str {g6 n6 c6 : Nat} (h : TalkSt R w0 w v5 (.slice (some ⟨g6, 0, none⟩) n6 c6) Bs Ps Qs) {i : Nat} {S : Bytes} (hiq : i < Qs.length) (hS : S = Qs.getD i []) : w.rangeAt g6 i [.string ⟨S.toArray⟩] := fun j v hj => by
  have hn : n6 = Qs.length := by
    rcases h.own6.2 with ⟨h1, _⟩ | ⟨g', cap, cur, h1, _⟩
    · cases h1
    · injection h1
  subst hn
  have hj0 : j = 0 := by have := (List.getElem?_eq_some_iff.1 hj).1; simp at this; exact this
  subst hj0
  rw [Nat.add_zero, World.ownsRow.cellAt h.own6 i (by omega), ← hj, hS]
  simp [strs, hiq, List.getD_eq_getElem?_getD]
theorem there {g6 n6 c6 : Nat} (h : TalkSt R w0 w v5 (.slice (some ⟨g6, 0, none⟩) n6 c6) Bs Ps Qs) {i : Nat} (hiq : i < Qs.length) : w.there g6 i 1 := fun j hj => by
  have hn : n6 = Qs.length := by
    rcases h.own6.2 with ⟨h1, _⟩ | ⟨g', cap, cur, h1, _⟩
    · cases h1
    · injection h1
  subst hn
  have hj0 : j = 0 := by omega
  subst hj0
  rw [Nat.add_zero]
  exact ⟨by rw [World.ownsRow.cellAt h.own6 i (by omega)]; simp [strs, hiq], World.ownsRow.frozenAt h.own6 i⟩
theorem lt5 {g5 n5 c5 : Nat} (h : TalkSt R w0 w (.slice (some ⟨g5, 0, none⟩) n5 c5) v6 Bs Ps Qs) : g5 < w.heap.size := (h.own5.lt g5 rfl).2
theorem lt6 {g6 n6 c6 : Nat} (h : TalkSt R w0 w v5 (.slice (some ⟨g6, 0, none⟩) n6 c6) Bs Ps Qs) : g6 < w.heap.size := (h.own6.lt g6 rfl).2
end TalkSt
theorem all32_set {Ps : List Bytes} (h : ∀ p ∈ Ps, p.length = 32) (i : Nat) {X : Bytes} (hX : X.length = 32) : ∀ p ∈ Ps.set i X, p.length = 32 := fun p hp => by
  rcases List.mem_or_eq_of_mem_set hp with h1 | h1
  · exact h p h1
  · rw [h1]; exact hX
theorem all32_push {Ps : List Bytes} (h : ∀ p ∈ Ps, p.length = 32) {X : Bytes} (hX : X.length = 32) : ∀ p ∈ Ps ++ [X], p.length = 32 := fun p hp => by
  rcases List.mem_append.1 hp with h1 | h1
  · exact h p h1
  · rw [List.mem_singleton] at h1; rw [h1]; exact hX
theorem talk_keep {b D : Nat} {X : Bytes} {t e : TypeId} {w w1 : World} {cs : Array Value} {ds : Array Value} (h : TalkUp b X t w w1) (hb : w.heap[b]? = some (.cells cs t (0, 0))) (hD : w.heap[D]? = some (.cells ds e (0, 0))) (hne : e ≠ t) : w1.heap[D]? = some (.cells ds e (0, 0)) := by
  refine grown_keep h.2 (fun he => ?_) hD
  injection he with he
  rw [← he, hb] at hD
  injection hD with hD
  injection hD with _ h2
  exact hne h2.symm
theorem ne_types {w : World} {a b : Nat} {cs ds : Array Value} {t u : TypeId} {f g : Nat × Nat} (h1 : w.heap[a]? = some (.cells cs t f)) (h2 : w.heap[b]? = some (.cells ds u g)) (hne : t ≠ u) : a ≠ b := by
  rintro rfl
  rw [h1] at h2
  injection h2 with h2
  injection h2 with _ h3
  exact hne h3
theorem news_blk {w : World} {g : Nat} {news : List Value} {t : TypeId} (h : w.heap[g]? = some (.cells news.toArray t (0, 0))) : ∀ j u, news[j]? = some u → w.cell? ((⟨g, 0, none⟩ : Addr).add j) = some u := fun j u hj => by
  rw [Addr.add_mid]
  exact rangeAt_block h j u hj
/-- the worlds that are w0 below M, but for block b -/
def GrT (b M : Nat) (w0 : World) : Type := { w' : World // ∀ k, k < M → k ≠ b → w'.heap[k]? = w0.heap[k]? }
instance {b M : Nat} {w0 : World} : Nonempty (GrT b M w0) := ⟨⟨w0, fun _ _ _ => rfl⟩⟩
def GrT.w {b M : Nat} {w0 : World} (x : GrT b M w0) : World := x.1
@[go_sem] theorem GrT.cell {b M : Nat} {w0 : World} (x : GrT b M w0) (k o : Nat) (h : k < M) (hne : k ≠ b) : x.w.cell? ⟨k, o, none⟩ = w0.cell? ⟨k, o, none⟩ := World.cell?_of_block (x.2 k h hne)
theorem GrT.block {b M : Nat} {w0 w' : World} (h : ∃ x : GrT b M w0, w' = x.w) {k : Nat} {o : Obj} (hk : k < M) (hne : k ≠ b) (ho : w0.heap[k]? = some o) : w'.heap[k]? = some o := by
  obtain ⟨x, rfl⟩ := h
  exact (x.2 k hk hne).trans ho
theorem grT_of {b M : Nat} {w0 w' : World} (hM : M = w0.heap.size) (h : w0.grownBy w' (some b)) : ∃ x : GrT b M w0, w' = x.w := ⟨⟨w', fun k hk hne => h.block k (by rw [← hM]; exact hk) (fun he => hne (by injection he))⟩, rfl⟩
structure StepD where
  d : Int
  k : Int
  L : Bytes
  X : Bytes
def StepD.cells (s : StepD) : List Value := [.int .i64 s.d, .int .i64 s.k, .string ⟨s.L.toArray⟩, .string ⟨s.X.toArray⟩]
structure StepsAt (w : World) (oa : Option Addr) (Ss : List StepD) : Prop where
  cells : ∀ i (h : i < Ss.length), ∃ a, oa = some a ∧ a.block < w.heap.size ∧ ∀ j v, (Ss[i].cells)[j]? = some v → w.cell? (a.add (i * 4 + j)) = some v
theorem StepsAt.below {w w1 : World} {oa : Option Addr} {Ss : List StepD} (h : StepsAt w oa Ss) (hb : Below w.heap.size w w1) : StepsAt w1 oa Ss := ⟨fun i hi => by
  obtain ⟨a, h1, h2, h3⟩ := h.cells i hi
  exact ⟨a, h1, Nat.lt_of_lt_of_le h2 hb.size, fun j v hj => by rw [hb.cell (by rw [add_block]; exact h2)]; exact h3 j v hj⟩⟩
/-- a struct loaded from wherever its cells lie -/
theorem wpList_load_at {P : Program} {ops : Array Oper} {rest : List Oper} {op : Oper} {a : Act} {w : World} {Q : Exit → Act → World → Prop} (hgd : op.guard = none) (ty : TypeId) (x : Operand) (ho : op.op = .load ty x)
    (p : Addr) (hx : a.eval x = .pointer (some p)) (cs : List Value) (d : TypeDesc) (hc : ∀ j v, cs[j]? = some v → w.cell? (p.add j) = some v)
    (hu : P.underlying ty = some d) (hd : d.isRow = true) (hi : (P.info? ty).map (·.size) = some cs.length)
    (h : wpList P ops Q rest (a.put op.dst (.agg cs.toArray)) w) : wpList P ops Q (op :: rest) a w := by
  refine wpList_plain hgd fun K hK => ?_
  have hl : (loadCells p cs.length).run P w = .ok cs.toArray w := run_loadCells_list (P := P) w p cs hc
  cases hq : P.info? ty with
  | none => simp [hq] at hi
  | some i =>
    have hs : i.size = cs.length := by simpa [hq] using hi
    have hagg : (isAgg ty).run P w = .ok true w := by
      unfold isAgg
      rw [Sem.run_bind, run_underlying hu w]
      cases d <;> simp_all
    have hrun : (loadVar ty p).run P w = .ok (.agg cs.toArray) w := by simp [loadVar, Sem.run_bind, hagg, sizeOf, typeInfo, hq, hs, hl]
    unfold Oper.wp execOp
    simp only [ho, hx, Instr.loadAt, Instr.sureAddr, Sem.run_bind, Sem.run_pure, Result.andThen_ok, hrun]
    exact hK _ _ h
end Go.Proofs.Ytjajidbpfjhnbaa
