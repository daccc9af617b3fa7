/-
  Chapter 13: tools of earlier parts that name no function. (Picked out of AuT, AuB, AuM, AuU, AuJ, HBox.)
-/
import Derived.Test.YtnohcdpnnhmpfaaGreatDoorCtB
import Derived.Deep.AppendLies
import Derived.Deep.DeepCutAuto
import Derived.Deep.CutBlock
namespace Go.Proofs.YtnohcdpnnhmpfaaGreatDoor
set_option linter.unusedVariables false
set_option linter.unusedSimpArgs false
open Go.RowKit ML FM AU CT
/-- a struct argument and a struct result -/
structure BoxR (B : Nat) (w w1 : World) (X Z : Array Value) (T U : TypeId) : Prop where
  bel : Below B w w1
  x : w1.heap[B]? = some (.cells X T (0, 0))
  z : w1.heap[B + 1]? = some (.cells Z U (0, 0))
theorem BoxR.mk' (w : World) (X Z : Array Value) (T U : TypeId) : BoxR w.heap.size w ((w.alloc (.cells X T)).alloc (.cells Z U)) X Z T U := by
  have b1 := (Below.refl w.heap.size w).alloc (Nat.le_refl _) (.cells X T)
  exact ⟨b1.alloc (by simp) _, heap_lt (heap_at rfl), heap_at (by simp)⟩
theorem BoxR.keep {B : Nat} {w w1 w2 : World} {X Z : Array Value} {T U : TypeId} (h : BoxR B w w1 X Z T U) (hB : B ≤ w1.heap.size) (hb : Below w1.heap.size w1 w2) : BoxR B w w2 X Z T U :=
  ⟨h.bel.trans (hb.mono hB), bel_keep hb (lt_of_heap h.x) h.x, bel_keep hb (lt_of_heap h.z) h.z⟩
theorem wp_store_whole {P : Program} {o : Oper} {a : Act} {w : World} {K : Act → World → Prop} {Q : Exit → Act → World → Prop} (hdst : o.dst = none) (ty : TypeId) (x y : Operand) (ho : o.op = .store ty x y) (b : Nat) (cs new : Array Value) (t : TypeId)
    (hx : a.eval x = .pointer (some ⟨b, 0, none⟩)) (hy : a.eval y = .agg new) (hb : w.heap[b]? = some (.cells cs t (0, 0))) (hs : cs.size = new.size)
    (hi : (P.info? ty).map (·.size) = some new.size) (h1 : new.all (·.oneCell') = true)
    (h : ∀ w1, Only b w w1 → w1.heap[b]? = some (.cells new t (0, 0)) → K a w1) : o.wp P a w K Q :=
  wp_store_mid ty x y ho b 0 new hx hy
    (fun j hj => by
      rw [Nat.zero_add, cell_of_row w b j cs t _ hb]
      exact ⟨by simp [hs, hj], frozen_of_row w b j cs t hb⟩) hi h1 (by rw [hdst]; exact h _ (setCells_only b _ _ _) (setCells_whole hb hs))
/-- two slices that do not own one block -/
def Apart (v v' : Value) : Prop := v.ownBlock = none ∨ v.ownBlock ≠ v'.ownBlock
theorem Apart.symm {v v' : Value} (h : Apart v v') : Apart v' v := by
  rcases h with h | h
  · cases h2 : v'.ownBlock with
    | none => exact .inl h2
    | some k => right; rw [h, h2]; simp
  · exact .inr h.symm
theorem apart_types {w : World} {b b' : Nat} {e e' : TypeId} {s s' n n' : Nat} {v v' : Value} {xs xs' : List Value} (h : w.ownsRow b e s v n xs) (h' : w.ownsRow b' e' s' v' n' xs') (hne : e ≠ e') : Apart v v' := by
  rcases h'.2 with ⟨rfl, _⟩ | ⟨g, cap, cur, rfl, _, hg, _⟩
  · cases hv : v.ownBlock with
    | none => exact .inl hv
    | some k => exact .inr (by rw [hv]; simp [Value.ownBlock])
  · exact .inr (by simpa [Value.ownBlock] using own_ne h hg hne)
theorem apart_new {w : World} {b : Nat} {e : TypeId} {s n : Nat} {v v0 v1 : Value} {xs : List Value} {g : Nat} (hv1 : v1.ownBlock = some g) (h : w.ownsRow b e s v n xs) (ha : Apart v0 v) (hf : v0.ownBlock = some g ∨ g = w.heap.size) : Apart v1 v := by
  right
  rcases hf with hf | hf
  · rw [hv1, ← hf]
    rcases ha with h0 | h0
    · rw [h0] at hf; cases hf
    · exact h0
  · rw [hv1, hf]
    intro he
    have := (h.lt _ he.symm).2
    omega
theorem isAt_own2 {w : World} {base : Nat} {e : TypeId} {oa : Option Addr} {m cap n : Nat} {L : List Int} (h : w.ownsRow base e 1 (.slice oa m cap) n (ivals L)) : IsAt w oa L := by
  obtain ⟨oa', cap', hv, _, hi⟩ := isAt_own h
  injection hv with h1 h2 h3
  rw [h1]; exact hi
theorem own_spare {w w1 : World} {base b : Nat} {e : TypeId} {s : Nat} {v : Value} {n : Nat} {xs : List Value} (h : w.ownsRow base e s v n xs) (ho : Only b w w1) (hb : b < base) : w1.ownsRow base e s v n xs := h.kept (grown_only ho) (.inr (fun he => by have := (h.lt _ he).1; omega))
theorem seven_one (v0 v1 v2 v3 a b c : Value) (h0 : v0.oneCell' = true) (h1 : v1.oneCell' = true) (h2 : v2.oneCell' = true) (h3 : v3.oneCell' = true) (h4 : a.oneCell' = true) (h5 : b.oneCell' = true) (h6 : c.oneCell' = true) : (#[v0, v1, v2, v3, a, b, c] : Array Value).all (·.oneCell') = true := by simp [h0, h1, h2, h3, h4, h5, h6]
theorem wpQuiet_load_one {P : Program} {ops : Array Oper} {rest : List Oper} {o : Oper} {a : Act} {S : World → Prop} {K : Act → Prop} (hw : Region.wanted o (yielded ops a.tmps) = true) (ty : TypeId) (y : Operand) (ho : o.op = .load ty y) (p : Addr) (v : Value) (d : TypeDesc)
    (hx : a.eval y = .pointer (some p)) (hb : ∀ w', S w' → w'.cell? p = some v) (hu : P.underlying ty = some d) (hd : d.isRow = false) (h : wpQuiet P ops S K rest (a.put o.dst v)) :
    wpQuiet P ops S K (o :: rest) a := by
  unfold wpQuiet
  rw [if_pos hw]
  refine ⟨v, fun w' hw' => ?_, h⟩
  have hagg : (isAgg ty).run P w' = .ok false w' := by
    unfold isAgg
    rw [Sem.run_bind, run_underlying hu w']
    cases d <;> simp_all
  have hr : (loadVar ty p).run P w' = .ok v w' := by simp [loadVar, Sem.run_bind, hagg, hb w' hw']
  unfold Oper.quietAt execOp
  simp only [ho, hx, Instr.loadAt, Instr.sureAddr, Sem.run_bind, Sem.run_pure, Result.andThen_ok, hr]
  exact ⟨rfl, rfl⟩
theorem info_i64 : (Tryz.prog.info? 3).map (fun i => (i.zero, i.size, i.bytes)) = some (some (.int .i64 0), 1, 8) := by kernel_rfl
theorem IsAt.nil {w : World} : IsAt w none [] := ⟨fun i hi => by simp at hi⟩
theorem wpQuiet_load_at {P : Program} {ops : Array Oper} {rest : List Oper} {o : Oper} {a : Act} {S : World → Prop} {K : Act → Prop} (hw : Region.wanted o (yielded ops a.tmps) = true) (ty : TypeId) (y : Operand) (ho : o.op = .load ty y) (p : Addr) (cs : List Value) (d : TypeDesc)
    (hx : a.eval y = .pointer (some p)) (hb : ∀ w', S w' → ∀ j v, cs[j]? = some v → w'.cell? (p.add j) = some v) (hu : P.underlying ty = some d) (hd : d.isRow = true)
    (hi : (P.info? ty).map (·.size) = some cs.length) (h : wpQuiet P ops S K rest (a.put o.dst (.agg cs.toArray))) :
    wpQuiet P ops S K (o :: rest) a := by
  unfold wpQuiet
  rw [if_pos hw]
  refine ⟨.agg cs.toArray, fun w' hw' => ?_, h⟩
  have hl : (loadCells p cs.length).run P w' = .ok cs.toArray w' := run_loadCells_list (P := P) w' p cs (hb w' hw')
  cases hq : P.info? ty with
  | none => simp [hq] at hi
  | some i =>
    have hs : i.size = cs.length := by simpa [hq] using hi
    have hagg : (isAgg ty).run P w' = .ok true w' := by
      unfold isAgg
      rw [Sem.run_bind, run_underlying hu w']
      cases d <;> simp_all
    have hr : (loadVar ty p).run P w' = .ok (.agg cs.toArray) w' := by simp [loadVar, Sem.run_bind, hagg, sizeOf, typeInfo, hq, hs, hl]
    unfold Oper.quietAt execOp
    simp only [ho, hx, Instr.loadAt, Instr.sureAddr, Sem.run_bind, Sem.run_pure, Result.andThen_ok, hr]
    exact ⟨rfl, rfl⟩
theorem mid_blk {w : World} {g off : Nat} {cs : Array Value} {t : TypeId} {fr : Nat × Nat} (h : w.heap[g]? = some (.cells cs t fr)) (news : List Value) (hn : ∀ j u, news[j]? = some u → cs[off + j]? = some u) : ∀ j u, news[j]? = some u → w.cell? ((⟨g, off, none⟩ : Addr).add j) = some u := fun j u hj => by
  rw [Addr.add_mid, cell_of_row w g (off + j) _ _ _ h]
  exact hn j u hj
theorem own_base {w : World} {base base' : Nat} {e : TypeId} {s : Nat} {v : Value} {n : Nat} {xs : List Value} (h : w.ownsRow base e s v n xs) (hb : base' ≤ base) : w.ownsRow base' e s v n xs := ⟨h.1, by
  rcases h.2 with h0 | ⟨g, cap, cur, hv, hg, rest⟩
  · exact .inl h0
  · exact .inr ⟨g, cap, cur, hv, Nat.le_trans hb hg, rest⟩⟩
theorem wpList_load_at {P : Program} {ops : Array Oper} {rest : List Oper} {op : Oper} {a : Act} {w : World} {Q : Exit → Act → World → Prop} (hgd : op.guard = none) (ty : TypeId) (x : Operand) (ho : op.op = .load ty x)
    (p : Addr) (hx : a.eval x = .pointer (some p)) (cs : List Value) (d : TypeDesc) (hc : ∀ j v, cs[j]? = some v → w.cell? (p.add j) = some v)
    (hu : P.underlying ty = some d) (hd : d.isRow = true) (hi : (P.info? ty).map (·.size) = some cs.length)
    (h : wpList P ops Q rest (a.put op.dst (.agg cs.toArray)) w) : wpList P ops Q (op :: rest) a w := by
  refine wpList_plain hgd fun K hK => ?_
  have hl : (loadCells p cs.length).run P w = .ok cs.toArray w := run_loadCells_list (P := P) w p cs hc
  cases hq : P.info? ty with
  | none => simp [hq] at hi
  | some i =>
    have hs : i.size = cs.length := by simpa [hq] using hi
    have hagg : (isAgg ty).run P w = .ok true w := by
      unfold isAgg
      rw [Sem.run_bind, run_underlying hu w]
      cases d <;> simp_all
    have hrun : (loadVar ty p).run P w = .ok (.agg cs.toArray) w := by simp [loadVar, Sem.run_bind, hagg, sizeOf, typeInfo, hq, hs, hl]
    unfold Oper.wp execOp
    simp only [ho, hx, Instr.loadAt, Instr.sureAddr, Sem.run_bind, Sem.run_pure, Result.andThen_ok, hrun]
    exact hK _ _ h
theorem results_cell_tmp3 {P : Program} {fn : Func} {p q r s : Tmp} {ty : TypeId} (h : fn.results = #[.cell p ty, .tmp q, .tmp r, .tmp s]) (tmps : Array Value) (w : World) (g : Nat) (t : TypeId) (cs : Array Value) (fr : Nat × Nat) (d : TypeDesc) (v1 v2 v3 : Value)
    (hp : tmps.getD p undef = .pointer (some ⟨g, 0, none⟩)) (hq : tmps.getD q undef = v1) (hr : tmps.getD r undef = v2) (hs : tmps.getD s undef = v3) (hg : w.heap[g]? = some (.cells cs t fr))
    (hu : P.underlying ty = some d) (hd : (match d with | .struct _ | .array _ _ => true | _ => false) = true) (hi : (P.info? ty).map (·.size) = some cs.size) :
    (results fn tmps).run P w = .ok (.tuple #[.agg cs, v1, v2, v3]) w := by
  have hp' : tmps[p]?.getD undef = .pointer (some ⟨g, 0, none⟩) := by simpa using hp
  have hq' : tmps[q]?.getD undef = v1 := by simpa using hq
  have hr' : tmps[r]?.getD undef = v2 := by simpa using hr
  have hs' : tmps[s]?.getD undef = v3 := by simpa using hs
  simp [results, h, hp', hq', hr', hs', asAddr, run_loadVar_row w g t ty cs fr d hg hu hd hi]
end Go.Proofs.YtnohcdpnnhmpfaaGreatDoor
