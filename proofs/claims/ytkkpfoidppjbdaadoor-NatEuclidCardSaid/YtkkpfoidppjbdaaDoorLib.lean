/-
  Small laws on memory, over any program: one block that turns, whole rows loaded and stored, the world behind a name.
-/
import Derived.WalkKit
import Derived.Deep.Draws
import Derived.Deep.MidRow
import Derived.BigQuiet
import Derived.Laws.Rows
import Derived.Lib.Hide
import Derived.Laws.CopyOwn
namespace Go.Proofs.YtkkpfoidppjbdaaDoor.ML
open Go.RowKit

/-! ### of all blocks, b alone may have turned -/
structure Only (b : Nat) (w w' : World) : Prop where
  os : w'.os = w.os
  tape : w'.tape = w.tape
  output : w'.output = w.output
  size : w'.heap.size = w.heap.size
  block : ∀ k, k ≠ b → w'.heap[k]? = w.heap[k]?
theorem Only.refl (b : Nat) (w : World) : Only b w w := ⟨rfl, rfl, rfl, rfl, fun _ _ => rfl⟩
theorem Only.trans {b : Nat} {w w1 w2 : World} (h : Only b w w1) (k : Only b w1 w2) : Only b w w2 :=
  ⟨k.os.trans h.os, k.tape.trans h.tape, k.output.trans h.output, k.size.trans h.size, fun i hi => (k.block i hi).trans (h.block i hi)⟩
theorem Only.drewN {b : Nat} {w w1 : World} (h : Only b w w1) (n : Nat) : Only b w (w1.drewN n) := ⟨h.os, h.tape, h.output, h.size, h.block⟩
theorem Only.drew {b : Nat} {w w1 : World} (h : Only b w w1) : Only b w w1.drew := ⟨h.os, h.tape, h.output, h.size, h.block⟩
theorem Only.setCell {b : Nat} {w w1 : World} (h : Only b w w1) (o : Nat) (v : Value) : Only b w (w1.setCell ⟨b, o, none⟩ v) :=
  h.trans ⟨rfl, rfl, rfl, by simp, fun k hk => heap_setCell_other _ _ _ _ hk⟩
theorem Only.below {b : Nat} {w w1 : World} (h : Only b w w1) {B : Nat} (hB : B ≤ b) : Below B w w1 :=
  ⟨h.os, h.tape, h.output, Nat.le_of_eq h.size.symm, fun k hk => h.block k (by omega)⟩
theorem bel_drewN {B : Nat} {a w : World} (h : Below B a w) (n : Nat) : Below B a (w.drewN n) := ⟨h.os, h.tape, h.output, h.size, h.block⟩
theorem bel_only {B b : Nat} {a w w1 : World} (h : Below B a w) (k : Only b w w1) (hb : B ≤ b) : Below B a w1 := h.trans (k.below hb)

theorem setCells_only (b : Nat) : ∀ (vs : List Value) (o : Nat) (w : World), Only b w (w.setCells b o vs)
  | [], _, w => Only.refl b w
  | v :: r, o, w => ((Only.refl b w).setCell o v).trans (setCells_only b r (o + 1) _)

theorem splice_nil (cs : Array Value) (o : Nat) : cs = (cs.toList.take o ++ ([] : List Value) ++ cs.toList.drop (o + 0)).toArray := by simp

theorem setCells_row (b : Nat) (t : TypeId) : ∀ (vs : List Value) (o : Nat) (w : World) (cs : Array Value), w.heap[b]? = some (.cells cs t (0, 0)) → o + vs.length ≤ cs.size →
    (w.setCells b o vs).heap[b]? = some (.cells (cs.toList.take o ++ vs ++ cs.toList.drop (o + vs.length)).toArray t (0, 0))
  | [], o, w, cs, h, _ => by
    show w.heap[b]? = _
    rw [h]; simp
  | v :: r, o, w, cs, h, hl => by
    show ((w.setCell ⟨b, o, none⟩ v).setCells b (o + 1) r).heap[b]? = _
    rw [setCells_row b t r (o + 1) _ _ (heap_setCell_same w b o cs t v h) (by simp at hl ⊢; omega)]
    congr 2
    simp only [List.length_cons] at hl
    have ho : o < cs.toList.length := by simp; omega
    have e1 : (cs.setIfInBounds o v).toList = cs.toList.take o ++ v :: cs.toList.drop (o + 1) := by
      rw [Array.toList_setIfInBounds, List.set_eq_take_append_cons_drop, if_pos ho]
    rw [e1]
    have e2 : (cs.toList.take o).length = o := by simp; omega
    rw [List.take_append, e2, List.drop_append, e2]
    have e3 : List.take (o + 1) (cs.toList.take o) = cs.toList.take o := by rw [List.take_take]; congr 1; omega
    have e4 : List.drop (o + 1 + r.length) (cs.toList.take o) = [] := by rw [List.drop_eq_nil_iff]; omega
    rw [e3, e4]
    have e5 : o + 1 - o = 1 := by omega
    have e6 : o + 1 + r.length - o = r.length + 1 := by omega
    rw [e5, e6]
    simp [List.drop_drop]
    congr 1; omega

/-- a whole row written anew -/
theorem setCells_whole {b : Nat} {t : TypeId} {w : World} {cs new : Array Value} (h : w.heap[b]? = some (.cells cs t (0, 0))) (hs : cs.size = new.size) :
    (w.setCells b 0 new.toList).heap[b]? = some (.cells new t (0, 0)) := by
  rw [setCells_row b t new.toList 0 w cs h (by simp [hs])]
  congr 2
  have e : List.drop (0 + new.toList.length) cs.toList = [] := by rw [List.drop_eq_nil_iff]; simp [hs]
  rw [e]; simp

section
variable {P : Program} {ops : Array Oper} {rest : List Oper} {o : Oper} {a : Act} {w : World} {Q : Exit → Act → World → Prop}

/-- 'x = row', x a whole block: the world behind it is known by what block b holds and by what has not turned -/
theorem wpList_store_whole (hgd : o.guard = none) (hdst : o.dst = none) (ty : TypeId) (x y : Operand) (ho : o.op = .store ty x y) (b : Nat) (cs new : Array Value) (t : TypeId)
    (hx : a.eval x = .pointer (some ⟨b, 0, none⟩)) (hy : a.eval y = .agg new) (hb : w.heap[b]? = some (.cells cs t (0, 0))) (hs : cs.size = new.size)
    (hi : (P.info? ty).map (·.size) = some new.size) (h1 : new.all (·.oneCell') = true)
    (h : ∀ w1, Only b w w1 → w1.heap[b]? = some (.cells new t (0, 0)) → wpList P ops Q rest a w1) : wpList P ops Q (o :: rest) a w :=
  wpList_store_mid hgd ty x y ho b 0 new hx hy
    (fun j hj => by
      rw [Nat.zero_add, cell_of_row w b j cs t _ hb]
      exact ⟨by simp [hs, hj], frozen_of_row w b j cs t hb⟩) hi h1 (by rw [hdst]; exact h _ (setCells_only b _ _ _) (setCells_whole hb hs))

theorem setRow_only (w : World) (g : Nat) (cs : Array Value) : Only g w (w.setRow g cs) :=
  ⟨rfl, rfl, rfl, by simp [World.setRow], fun k hk => setRow_other w g k cs hk⟩
/-- copy into block g: what it holds then, and that no other has turned -/
theorem wpList_copy_only (hgd : o.guard = none) (d s : Operand) (dT sT : TypeId)
    (ho : o.op = .call { callee := .builtin .copy, args := #[d, s], argTypes := #[dT, sT] }) (elem : TypeId) (hu : P.underlying dT = some (.slice elem)) (hsz : (P.info? elem).map (·.size) = some 1)
    (g off dLen dCap : Nat) (ad : Addr) (sLen sCap : Nat) (hd : a.eval d = .slice (some ⟨g, off, none⟩) dLen dCap) (hs : a.eval s = .slice (some ad) sLen sCap)
    (cur : Array Value) (t : TypeId) (hg : w.heap[g]? = some (.cells cur t (0, 0))) (cs : List Value) (hn : cs.length = Nat.min sLen dLen)
    (hsrc : ∀ j v, cs[j]? = some v → w.cell? (ad.add j) = some v) (hfit : off + cs.length ≤ cur.size) (h1 : ∀ v ∈ cs, v.oneCell' = true)
    (h : ∀ w1, Only g w w1 → w1.heap[g]? = some (.cells (cur.toList.take off ++ (cs ++ cur.toList.drop (off + cs.length))).toArray t (0, 0)) → wpList P ops Q rest (a.put o.dst (goInt cs.length)) w1) :
    wpList P ops Q (o :: rest) a w :=
  wpList_copy_own hgd d s dT sT ho elem hu hsz g off dLen dCap ad sLen sCap hd hs cur t hg cs hn hsrc hfit h1 (h _ (setRow_only w g _) (setRow_heap w g _ _ t _ hg))

/-- a whole block loaded -/
theorem wpList_load_whole (hgd : o.guard = none) (ty : TypeId) (x : Operand) (ho : o.op = .load ty x) (b : Nat) (cs : Array Value) (t : TypeId) (fr : Nat × Nat) (d : TypeDesc)
    (hx : a.eval x = .pointer (some ⟨b, 0, none⟩)) (hb : w.heap[b]? = some (.cells cs t fr)) (hu : P.underlying ty = some d) (hd : (match d with | .struct _ => true | .array _ _ => true | _ => false) = true)
    (hi : (P.info? ty).map (·.size) = some cs.size) (h : wpList P ops Q rest (a.put o.dst (.agg cs)) w) : wpList P ops Q (o :: rest) a w :=
  wpList_load_row hgd ty x ho b hx t cs fr d hb hu (by cases d <;> first | rfl | exact hd) hi h
end

/-- a new block, and those that were there -/
theorem heap_at {w : World} {o : Obj} {n : Nat} (h : w.heap.size = n) : (w.alloc o).heap[n]? = some o := by subst h; exact heap_alloc_new w o
theorem lt_of_heap {w : World} {k : Nat} {x : Obj} (h : w.heap[k]? = some x) : k < w.heap.size := (Array.getElem?_eq_some_iff.1 h).1
theorem heap_lt {w : World} {o : Obj} {k : Nat} {x : Obj} (h : w.heap[k]? = some x) : (w.alloc o).heap[k]? = some x := by
  rw [Below.heap_alloc w o k (lt_of_heap h)]; exact h
theorem Only.keep {b : Nat} {w w1 : World} (h : Only b w w1) {k : Nat} {x : Obj} (hk : k ≠ b) (hx : w.heap[k]? = some x) : w1.heap[k]? = some x := (h.block k hk).trans hx
theorem bel_keep {B : Nat} {w w1 : World} (h : Below B w w1) {k : Nat} {x : Obj} (hk : k < B) (hx : w.heap[k]? = some x) : w1.heap[k]? = some x := (h.block k hk).trans hx

/-- the world behind a name: what is known of it, F, and no more -/
theorem wp_abs {P : Program} {c : Code} {Q : Exit → Act → World → Prop} {a : Act} {W : World} (F : World → Prop) (hF : F W) (h : ∀ w1, F w1 → c.wp P Q a w1) : c.wp P Q a W := h W hF
theorem post_abs {P : Program} {fn : Func} {R : Ending → World → Prop} {e : Exit} {a : Act} {W : World} (F : World → Prop) (hF : F W) (h : ∀ w1, F w1 → bodyPost P fn R e a w1) : bodyPost P fn R e a W := h W hF
theorem list_abs {P : Program} {ops : Array Oper} {l : List Oper} {Q : Exit → Act → World → Prop} {a : Act} {W : World} (F : World → Prop) (hF : F W) (h : ∀ w1, F w1 → wpList P ops Q l a w1) : wpList P ops Q l a W := h W hF

theorem news_new (w : World) (news : List Value) (t : TypeId) (n : Nat) (hn : w.heap.size = n) : ∀ j u, news[j]? = some u → (w.alloc (.cells news.toArray t)).cell? ((⟨n, 0, none⟩ : Addr).add j) = some u := by
  intro j u h
  subst hn
  rw [Addr.add_mid, Nat.zero_add, cell_of_row _ _ _ _ _ _ (heap_at rfl)]
  simpa using h
theorem own_ne {w : World} {base : Nat} {e e' : TypeId} {size : Nat} {v : Value} {n D : Nat} {xs : List Value} {cs : Array Value} {fr : Nat × Nat} (h : w.ownsRow base e size v n xs) (hD : w.heap[D]? = some (.cells cs e' fr)) (hne : e ≠ e') : v.ownBlock ≠ some D := by
  rintro hv
  rcases h.2 with ⟨rfl, _⟩ | ⟨g, cap, cur, rfl, _, hg, _⟩
  · simp [Value.ownBlock] at hv
  · simp [Value.ownBlock] at hv
    subst hv
    rw [hg] at hD
    simp at hD
    exact hne hD.2.1
theorem own_ge {w : World} {base : Nat} {e : TypeId} {size : Nat} {v : Value} {n D : Nat} {xs : List Value} (h : w.ownsRow base e size v n xs) (hD : D < base) : v.ownBlock ≠ some D := by
  intro hv
  have := (h.lt D hv).1
  omega
theorem own_below {w w' : World} {base : Nat} {e : TypeId} {size : Nat} {v : Value} {n : Nat} {xs : List Value} (h : w.ownsRow base e size v n xs) (hb : Below w.heap.size w w') : w'.ownsRow base e size v n xs := by
  refine ⟨h.1, ?_⟩
  rcases h.2 with h' | ⟨g, cap, cur, h1, h2, h3, h4⟩
  · exact Or.inl h'
  · exact Or.inr ⟨g, cap, cur, h1, h2, bel_keep hb (lt_of_heap h3) h3, h4⟩
theorem grown_keep {w w' : World} {row : Option Nat} (h : w.grownBy w' row) {k : Nat} {x : Obj} (hne : row ≠ some k) (hx : w.heap[k]? = some x) : w'.heap[k]? = some x :=
  (h.block k (lt_of_heap hx) (Ne.symm hne)).trans hx

/-! ### a region whose operations and callees leave alone what was there below B: one walk, in the text's order -/
/-- the worlds that are w0 below B -/
def BelowT (B : Nat) (w0 : World) : Type := { w' : World // Below B w0 w' }
def BelowT.w {B : Nat} {w0 : World} (x : BelowT B w0) : World := x.1
instance {B : Nat} {w0 : World} : Nonempty (BelowT B w0) := ⟨⟨w0, Below.refl _ _⟩⟩
def InB (B : Nat) (w0 w' : World) : Prop := ∃ x : BelowT B w0, w' = x.w
theorem inB_of {B : Nat} {w0 w' : World} (h : Below B w0 w') : InB B w0 w' := ⟨⟨w', h⟩, rfl⟩
theorem InB.below {B : Nat} {w0 w' : World} (h : InB B w0 w') : Below B w0 w' := by obtain ⟨x, rfl⟩ := h; exact x.2
@[go_sem] theorem BelowT.cell {B : Nat} {w0 : World} (x : BelowT B w0) (b o : Nat) (h : b < B) : x.w.cell? ⟨b, o, none⟩ = w0.cell? ⟨b, o, none⟩ := x.2.cell h
@[go_sem] theorem BelowT.frozen {B : Nat} {w0 : World} (x : BelowT B w0) (b o : Nat) (h : b < B) : x.w.frozen? ⟨b, o, none⟩ = w0.frozen? ⟨b, o, none⟩ := x.2.frozen h

section
variable {P : Program} {ops : Array Oper} {rest : List Oper} {o : Oper} {a : Act} {w w0 : World} {Q : Exit → Act → World → Prop} {B : Nat} {K : Act → Prop}

theorem wp_region_quietB {id : Nat} {l : List Oper} (w0 : World) (B : Nat) (hm : P.follows .mixedOrders = true) (hB : Region.lexB .any l.toArray = true) (hC : Below B w0 w.drew)
    (h : wpQuiet P l.toArray (fun w' => ∃ x : BelowT B w0, w' = x.w) (fun a' => ∀ w', Below B w0 w' → Q .normal a' w') l a) : (Code.region id l.toArray true).wp P Q a w :=
  wp_region_quiet (C := fun w' => ∃ x : BelowT B w0, w' = x.w) hm hB (inB_of hC)
    (by
      have key : ∀ (l' : List Oper) (a : Act), wpQuiet P l.toArray (fun w' => ∃ x : BelowT B w0, w' = x.w) (fun a' => ∀ w', Below B w0 w' → Q .normal a' w') l' a →
          wpQuiet P l.toArray (fun w' => ∃ x : BelowT B w0, w' = x.w) (fun a' => ∀ w', (∃ x : BelowT B w0, w' = x.w) → Q .normal a' w') l' a := by
        intro l'
        induction l' with
        | nil => intro a h w' hw'; exact h w' (InB.below hw')
        | cons o l' ih =>
          intro a h
          unfold wpQuiet at h ⊢
          split
          · rename_i hw; rw [if_pos hw] at h; exact Oper.quiet_mono (fun a => ih a) h
          · rename_i hw; rw [if_neg hw] at h; exact ih _ h
      simpa using key l a h)

/-- a callee that leaves alone what was there -/
theorem quietB {f : FuncId} {args : Array Value} {v : Value} {x : BelowT B w0} (hB : B ≤ w0.heap.size)
    (h : Calls P f args x.w fun e w' => e = .returned v ∧ Below x.w.heap.size x.w w') : Calls P f args x.w fun e w'' => e = .returned v ∧ ∃ y : BelowT B w0, w'' = y.w :=
  h.mono fun _ w' ⟨he, hw⟩ => ⟨he, ⟨w', x.2.trans (hw.mono (Nat.le_trans hB x.2.size))⟩, rfl⟩

/-- a whole block below B loaded -/
theorem wpQuiet_load_whole (hw : Region.wanted o (yielded ops a.tmps) = true) (ty : TypeId) (y : Operand) (ho : o.op = .load ty y) (b : Nat) (cs : Array Value) (t : TypeId) (fr : Nat × Nat) (d : TypeDesc)
    (hx : a.eval y = .pointer (some ⟨b, 0, none⟩)) (hb : w0.heap[b]? = some (.cells cs t fr)) (hlt : b < B) (hu : P.underlying ty = some d) (hd : (match d with | .struct _ => true | .array _ _ => true | _ => false) = true)
    (hi : (P.info? ty).map (·.size) = some cs.size) (h : wpQuiet P ops (fun w' => ∃ x : BelowT B w0, w' = x.w) K rest (a.put o.dst (.agg cs))) :
    wpQuiet P ops (fun w' => ∃ x : BelowT B w0, w' = x.w) K (o :: rest) a := by
  unfold wpQuiet
  rw [if_pos hw]
  refine ⟨.agg cs, fun w' hw' => ?_, h⟩
  have hb' : w'.heap[b]? = some (.cells cs t fr) := bel_keep (InB.below hw') hlt hb
  have hr := run_loadVar_row (P := P) w' b t ty cs fr d hb' hu (by cases d <;> first | rfl | exact hd) hi
  unfold Oper.quietAt execOp
  simp only [ho, hx, Instr.loadAt, Instr.sureAddr, Sem.run_bind, Sem.run_pure, Result.andThen_ok, hr]
  exact ⟨rfl, rfl⟩
end

end Go.Proofs.YtkkpfoidppjbdaaDoor.ML
