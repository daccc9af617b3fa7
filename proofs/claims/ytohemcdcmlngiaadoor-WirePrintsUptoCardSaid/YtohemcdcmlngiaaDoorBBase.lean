/-
  Small laws on memory, over any program: one block that turns, whole rows loaded and stored, the world behind a name.
  Words of 32 bits as BitVec 32: the walk's Int forms, one word of memory after another, what quarter and back do to sixteen words. No program in sight.
  What a text is folded into: pieces of 64 bytes, words out of bytes, the last piece held back. No program in sight.
  A region that draws its order, walked by one schedule: quiet operations first, whatever comes up alone next, a forced tail last.
  Conditions: the schedule is checked by a Bool ('segsB'); the class S holds of the world at the start and behind each operation that is not quiet.
-/
import Derived.WalkKit
import Derived.Deep.Draws
import Derived.Deep.MidRow
import Derived.BigQuiet
import Derived.Laws.Rows
import Derived.Lib.Hide
import Derived.Laws.CopyOwn
import Derived.Laws.BitsAllLaws
import Derived.StillTail
import Derived.OrdersHeld
import Derived.Deep.Quiet
namespace Go.Proofs.YtohemcdcmlngiaaDoor.ML
open Go.RowKit

/-! ### of all blocks, b alone may have turned -/
structure Only (b : Nat) (w w' : World) : Prop where
  os : w'.os = w.os
  tape : w'.tape = w.tape
  output : w'.output = w.output
  size : w'.heap.size = w.heap.size
  block : ∀ k, k ≠ b → w'.heap[k]? = w.heap[k]?
theorem Only.refl (b : Nat) (w : World) : Only b w w := ⟨rfl, rfl, rfl, rfl, fun _ _ => rfl⟩
theorem Only.trans {b : Nat} {w w1 w2 : World} (h : Only b w w1) (k : Only b w1 w2) : Only b w w2 :=
  ⟨k.os.trans h.os, k.tape.trans h.tape, k.output.trans h.output, k.size.trans h.size, fun i hi => (k.block i hi).trans (h.block i hi)⟩
theorem Only.drewN {b : Nat} {w w1 : World} (h : Only b w w1) (n : Nat) : Only b w (w1.drewN n) := ⟨h.os, h.tape, h.output, h.size, h.block⟩
theorem Only.drew {b : Nat} {w w1 : World} (h : Only b w w1) : Only b w w1.drew := ⟨h.os, h.tape, h.output, h.size, h.block⟩
theorem Only.setCell {b : Nat} {w w1 : World} (h : Only b w w1) (o : Nat) (v : Value) : Only b w (w1.setCell ⟨b, o, none⟩ v) :=
  h.trans ⟨rfl, rfl, rfl, by simp, fun k hk => heap_setCell_other _ _ _ _ hk⟩
theorem Only.below {b : Nat} {w w1 : World} (h : Only b w w1) {B : Nat} (hB : B ≤ b) : Below B w w1 :=
  ⟨h.os, h.tape, h.output, Nat.le_of_eq h.size.symm, fun k hk => h.block k (by omega)⟩
theorem bel_drewN {B : Nat} {a w : World} (h : Below B a w) (n : Nat) : Below B a (w.drewN n) := ⟨h.os, h.tape, h.output, h.size, h.block⟩
theorem bel_only {B b : Nat} {a w w1 : World} (h : Below B a w) (k : Only b w w1) (hb : B ≤ b) : Below B a w1 := h.trans (k.below hb)

theorem setCells_only (b : Nat) : ∀ (vs : List Value) (o : Nat) (w : World), Only b w (w.setCells b o vs)
  | [], _, w => Only.refl b w
  | v :: r, o, w => ((Only.refl b w).setCell o v).trans (setCells_only b r (o + 1) _)

theorem splice_nil (cs : Array Value) (o : Nat) : cs = (cs.toList.take o ++ ([] : List Value) ++ cs.toList.drop (o + 0)).toArray := by simp

theorem setCells_row (b : Nat) (t : TypeId) : ∀ (vs : List Value) (o : Nat) (w : World) (cs : Array Value), w.heap[b]? = some (.cells cs t (0, 0)) → o + vs.length ≤ cs.size →
    (w.setCells b o vs).heap[b]? = some (.cells (cs.toList.take o ++ vs ++ cs.toList.drop (o + vs.length)).toArray t (0, 0))
  | [], o, w, cs, h, _ => by
    show w.heap[b]? = _
    rw [h]; simp
  | v :: r, o, w, cs, h, hl => by
    show ((w.setCell ⟨b, o, none⟩ v).setCells b (o + 1) r).heap[b]? = _
    rw [setCells_row b t r (o + 1) _ _ (heap_setCell_same w b o cs t v h) (by simp at hl ⊢; omega)]
    congr 2
    simp only [List.length_cons] at hl
    have ho : o < cs.toList.length := by simp; omega
    have e1 : (cs.setIfInBounds o v).toList = cs.toList.take o ++ v :: cs.toList.drop (o + 1) := by
      rw [Array.toList_setIfInBounds, List.set_eq_take_append_cons_drop, if_pos ho]
    rw [e1]
    have e2 : (cs.toList.take o).length = o := by simp; omega
    rw [List.take_append, e2, List.drop_append, e2]
    have e3 : List.take (o + 1) (cs.toList.take o) = cs.toList.take o := by rw [List.take_take]; congr 1; omega
    have e4 : List.drop (o + 1 + r.length) (cs.toList.take o) = [] := by rw [List.drop_eq_nil_iff]; omega
    rw [e3, e4]
    have e5 : o + 1 - o = 1 := by omega
    have e6 : o + 1 + r.length - o = r.length + 1 := by omega
    rw [e5, e6]
    simp [List.drop_drop]
    congr 1; omega

/-- a whole row written anew -/
theorem setCells_whole {b : Nat} {t : TypeId} {w : World} {cs new : Array Value} (h : w.heap[b]? = some (.cells cs t (0, 0))) (hs : cs.size = new.size) :
    (w.setCells b 0 new.toList).heap[b]? = some (.cells new t (0, 0)) := by
  rw [setCells_row b t new.toList 0 w cs h (by simp [hs])]
  congr 2
  have e : List.drop (0 + new.toList.length) cs.toList = [] := by rw [List.drop_eq_nil_iff]; simp [hs]
  rw [e]; simp

section
variable {P : Program} {ops : Array Oper} {rest : List Oper} {o : Oper} {a : Act} {w : World} {Q : Exit → Act → World → Prop}

/-- 'x = row', x a whole block: the world behind it is known by what block b holds and by what has not turned -/
theorem wpList_store_whole (hgd : o.guard = none) (hdst : o.dst = none) (ty : TypeId) (x y : Operand) (ho : o.op = .store ty x y) (b : Nat) (cs new : Array Value) (t : TypeId)
    (hx : a.eval x = .pointer (some ⟨b, 0, none⟩)) (hy : a.eval y = .agg new) (hb : w.heap[b]? = some (.cells cs t (0, 0))) (hs : cs.size = new.size)
    (hi : (P.info? ty).map (·.size) = some new.size) (h1 : new.all (·.oneCell') = true)
    (h : ∀ w1, Only b w w1 → w1.heap[b]? = some (.cells new t (0, 0)) → wpList P ops Q rest a w1) : wpList P ops Q (o :: rest) a w :=
  wpList_store_mid hgd ty x y ho b 0 new hx hy
    (fun j hj => by
      rw [Nat.zero_add, cell_of_row w b j cs t _ hb]
      exact ⟨by simp [hs, hj], frozen_of_row w b j cs t hb⟩) hi h1 (by rw [hdst]; exact h _ (setCells_only b _ _ _) (setCells_whole hb hs))

theorem setRow_only (w : World) (g : Nat) (cs : Array Value) : Only g w (w.setRow g cs) :=
  ⟨rfl, rfl, rfl, by simp [World.setRow], fun k hk => setRow_other w g k cs hk⟩
/-- copy into block g: what it holds then, and that no other has turned -/
theorem wpList_copy_only (hgd : o.guard = none) (d s : Operand) (dT sT : TypeId)
    (ho : o.op = .call { callee := .builtin .copy, args := #[d, s], argTypes := #[dT, sT] }) (elem : TypeId) (hu : P.underlying dT = some (.slice elem)) (hsz : (P.info? elem).map (·.size) = some 1)
    (g off dLen dCap : Nat) (ad : Addr) (sLen sCap : Nat) (hd : a.eval d = .slice (some ⟨g, off, none⟩) dLen dCap) (hs : a.eval s = .slice (some ad) sLen sCap)
    (cur : Array Value) (t : TypeId) (hg : w.heap[g]? = some (.cells cur t (0, 0))) (cs : List Value) (hn : cs.length = Nat.min sLen dLen)
    (hsrc : ∀ j v, cs[j]? = some v → w.cell? (ad.add j) = some v) (hfit : off + cs.length ≤ cur.size) (h1 : ∀ v ∈ cs, v.oneCell' = true)
    (h : ∀ w1, Only g w w1 → w1.heap[g]? = some (.cells (cur.toList.take off ++ (cs ++ cur.toList.drop (off + cs.length))).toArray t (0, 0)) → wpList P ops Q rest (a.put o.dst (goInt cs.length)) w1) :
    wpList P ops Q (o :: rest) a w :=
  wpList_copy_own hgd d s dT sT ho elem hu hsz g off dLen dCap ad sLen sCap hd hs cur t hg cs hn hsrc hfit h1 (h _ (setRow_only w g _) (setRow_heap w g _ _ t _ hg))

/-- a whole block loaded -/
theorem wpList_load_whole (hgd : o.guard = none) (ty : TypeId) (x : Operand) (ho : o.op = .load ty x) (b : Nat) (cs : Array Value) (t : TypeId) (fr : Nat × Nat) (d : TypeDesc)
    (hx : a.eval x = .pointer (some ⟨b, 0, none⟩)) (hb : w.heap[b]? = some (.cells cs t fr)) (hu : P.underlying ty = some d) (hd : (match d with | .struct _ => true | .array _ _ => true | _ => false) = true)
    (hi : (P.info? ty).map (·.size) = some cs.size) (h : wpList P ops Q rest (a.put o.dst (.agg cs)) w) : wpList P ops Q (o :: rest) a w :=
  wpList_load_row hgd ty x ho b hx t cs fr d hb hu (by cases d <;> first | rfl | exact hd) hi h
end

/-- a new block, and those that were there -/
theorem heap_at {w : World} {o : Obj} {n : Nat} (h : w.heap.size = n) : (w.alloc o).heap[n]? = some o := by subst h; exact heap_alloc_new w o
theorem lt_of_heap {w : World} {k : Nat} {x : Obj} (h : w.heap[k]? = some x) : k < w.heap.size := (Array.getElem?_eq_some_iff.1 h).1
theorem heap_lt {w : World} {o : Obj} {k : Nat} {x : Obj} (h : w.heap[k]? = some x) : (w.alloc o).heap[k]? = some x := by
  rw [Below.heap_alloc w o k (lt_of_heap h)]; exact h
theorem Only.keep {b : Nat} {w w1 : World} (h : Only b w w1) {k : Nat} {x : Obj} (hk : k ≠ b) (hx : w.heap[k]? = some x) : w1.heap[k]? = some x := (h.block k hk).trans hx
theorem bel_keep {B : Nat} {w w1 : World} (h : Below B w w1) {k : Nat} {x : Obj} (hk : k < B) (hx : w.heap[k]? = some x) : w1.heap[k]? = some x := (h.block k hk).trans hx

/-- the world behind a name: what is known of it, F, and no more -/
theorem wp_abs {P : Program} {c : Code} {Q : Exit → Act → World → Prop} {a : Act} {W : World} (F : World → Prop) (hF : F W) (h : ∀ w1, F w1 → c.wp P Q a w1) : c.wp P Q a W := h W hF
theorem post_abs {P : Program} {fn : Func} {R : Ending → World → Prop} {e : Exit} {a : Act} {W : World} (F : World → Prop) (hF : F W) (h : ∀ w1, F w1 → bodyPost P fn R e a w1) : bodyPost P fn R e a W := h W hF
theorem list_abs {P : Program} {ops : Array Oper} {l : List Oper} {Q : Exit → Act → World → Prop} {a : Act} {W : World} (F : World → Prop) (hF : F W) (h : ∀ w1, F w1 → wpList P ops Q l a w1) : wpList P ops Q l a W := h W hF

theorem news_new (w : World) (news : List Value) (t : TypeId) (n : Nat) (hn : w.heap.size = n) : ∀ j u, news[j]? = some u → (w.alloc (.cells news.toArray t)).cell? ((⟨n, 0, none⟩ : Addr).add j) = some u := by
  intro j u h
  subst hn
  rw [Addr.add_mid, Nat.zero_add, cell_of_row _ _ _ _ _ _ (heap_at rfl)]
  simpa using h
theorem own_ne {w : World} {base : Nat} {e e' : TypeId} {size : Nat} {v : Value} {n D : Nat} {xs : List Value} {cs : Array Value} {fr : Nat × Nat} (h : w.ownsRow base e size v n xs) (hD : w.heap[D]? = some (.cells cs e' fr)) (hne : e ≠ e') : v.ownBlock ≠ some D := by
  rintro hv
  rcases h.2 with ⟨rfl, _⟩ | ⟨g, cap, cur, rfl, _, hg, _⟩
  · simp [Value.ownBlock] at hv
  · simp [Value.ownBlock] at hv
    subst hv
    rw [hg] at hD
    simp at hD
    exact hne hD.2.1
theorem own_ge {w : World} {base : Nat} {e : TypeId} {size : Nat} {v : Value} {n D : Nat} {xs : List Value} (h : w.ownsRow base e size v n xs) (hD : D < base) : v.ownBlock ≠ some D := by
  intro hv
  have := (h.lt D hv).1
  omega
theorem own_below {w w' : World} {base : Nat} {e : TypeId} {size : Nat} {v : Value} {n : Nat} {xs : List Value} (h : w.ownsRow base e size v n xs) (hb : Below w.heap.size w w') : w'.ownsRow base e size v n xs := by
  refine ⟨h.1, ?_⟩
  rcases h.2 with h' | ⟨g, cap, cur, h1, h2, h3, h4⟩
  · exact Or.inl h'
  · exact Or.inr ⟨g, cap, cur, h1, h2, bel_keep hb (lt_of_heap h3) h3, h4⟩
theorem grown_keep {w w' : World} {row : Option Nat} (h : w.grownBy w' row) {k : Nat} {x : Obj} (hne : row ≠ some k) (hx : w.heap[k]? = some x) : w'.heap[k]? = some x :=
  (h.block k (lt_of_heap hx) (Ne.symm hne)).trans hx

/-! ### a region whose operations and callees leave alone what was there below B: one walk, in the text's order -/
/-- the worlds that are w0 below B -/
def BelowT (B : Nat) (w0 : World) : Type := { w' : World // Below B w0 w' }
def BelowT.w {B : Nat} {w0 : World} (x : BelowT B w0) : World := x.1
instance {B : Nat} {w0 : World} : Nonempty (BelowT B w0) := ⟨⟨w0, Below.refl _ _⟩⟩
def InB (B : Nat) (w0 w' : World) : Prop := ∃ x : BelowT B w0, w' = x.w
theorem inB_of {B : Nat} {w0 w' : World} (h : Below B w0 w') : InB B w0 w' := ⟨⟨w', h⟩, rfl⟩
theorem InB.below {B : Nat} {w0 w' : World} (h : InB B w0 w') : Below B w0 w' := by obtain ⟨x, rfl⟩ := h; exact x.2
@[go_sem] theorem BelowT.cell {B : Nat} {w0 : World} (x : BelowT B w0) (b o : Nat) (h : b < B) : x.w.cell? ⟨b, o, none⟩ = w0.cell? ⟨b, o, none⟩ := x.2.cell h
@[go_sem] theorem BelowT.frozen {B : Nat} {w0 : World} (x : BelowT B w0) (b o : Nat) (h : b < B) : x.w.frozen? ⟨b, o, none⟩ = w0.frozen? ⟨b, o, none⟩ := x.2.frozen h

section
variable {P : Program} {ops : Array Oper} {rest : List Oper} {o : Oper} {a : Act} {w w0 : World} {Q : Exit → Act → World → Prop} {B : Nat} {K : Act → Prop}

theorem wp_region_quietB {id : Nat} {l : List Oper} (w0 : World) (B : Nat) (hm : P.follows .mixedOrders = true) (hB : Region.lexB .any l.toArray = true) (hC : Below B w0 w.drew)
    (h : wpQuiet P l.toArray (fun w' => ∃ x : BelowT B w0, w' = x.w) (fun a' => ∀ w', Below B w0 w' → Q .normal a' w') l a) : (Code.region id l.toArray true).wp P Q a w :=
  wp_region_quiet (C := fun w' => ∃ x : BelowT B w0, w' = x.w) hm hB (inB_of hC)
    (by
      have key : ∀ (l' : List Oper) (a : Act), wpQuiet P l.toArray (fun w' => ∃ x : BelowT B w0, w' = x.w) (fun a' => ∀ w', Below B w0 w' → Q .normal a' w') l' a →
          wpQuiet P l.toArray (fun w' => ∃ x : BelowT B w0, w' = x.w) (fun a' => ∀ w', (∃ x : BelowT B w0, w' = x.w) → Q .normal a' w') l' a := by
        intro l'
        induction l' with
        | nil => intro a h w' hw'; exact h w' (InB.below hw')
        | cons o l' ih =>
          intro a h
          unfold wpQuiet at h ⊢
          split
          · rename_i hw; rw [if_pos hw] at h; exact Oper.quiet_mono (fun a => ih a) h
          · rename_i hw; rw [if_neg hw] at h; exact ih _ h
      simpa using key l a h)

/-- a callee that leaves alone what was there -/
theorem quietB {f : FuncId} {args : Array Value} {v : Value} {x : BelowT B w0} (hB : B ≤ w0.heap.size)
    (h : Calls P f args x.w fun e w' => e = .returned v ∧ Below x.w.heap.size x.w w') : Calls P f args x.w fun e w'' => e = .returned v ∧ ∃ y : BelowT B w0, w'' = y.w :=
  h.mono fun _ w' ⟨he, hw⟩ => ⟨he, ⟨w', x.2.trans (hw.mono (Nat.le_trans hB x.2.size))⟩, rfl⟩

/-- a whole block below B loaded -/
theorem wpQuiet_load_whole (hw : Region.wanted o (yielded ops a.tmps) = true) (ty : TypeId) (y : Operand) (ho : o.op = .load ty y) (b : Nat) (cs : Array Value) (t : TypeId) (fr : Nat × Nat) (d : TypeDesc)
    (hx : a.eval y = .pointer (some ⟨b, 0, none⟩)) (hb : w0.heap[b]? = some (.cells cs t fr)) (hlt : b < B) (hu : P.underlying ty = some d) (hd : (match d with | .struct _ => true | .array _ _ => true | _ => false) = true)
    (hi : (P.info? ty).map (·.size) = some cs.size) (h : wpQuiet P ops (fun w' => ∃ x : BelowT B w0, w' = x.w) K rest (a.put o.dst (.agg cs))) :
    wpQuiet P ops (fun w' => ∃ x : BelowT B w0, w' = x.w) K (o :: rest) a := by
  unfold wpQuiet
  rw [if_pos hw]
  refine ⟨.agg cs, fun w' hw' => ?_, h⟩
  have hb' : w'.heap[b]? = some (.cells cs t fr) := bel_keep (InB.below hw') hlt hb
  have hr := run_loadVar_row (P := P) w' b t ty cs fr d hb' hu (by cases d <;> first | rfl | exact hd) hi
  unfold Oper.quietAt execOp
  simp only [ho, hx, Instr.loadAt, Instr.sureAddr, Sem.run_bind, Sem.run_pure, Result.andThen_ok, hr]
  exact ⟨rfl, rfl⟩
end

end Go.Proofs.YtohemcdcmlngiaaDoor.ML
namespace Go.Proofs.YtohemcdcmlngiaaDoor.FM
open Go.RowKit ML
abbrev U := BitVec 32

/-- a word as the walk's number: a plain definition, which simp does not open -/
def un (x : U) : Int := (x.toNat : Int)
theorem un_nonneg (x : U) : 0 ≤ un x := Int.natCast_nonneg _
theorem un_lt (x : U) : un x < 4294967296 := by have := x.isLt; unfold un; omega
theorem un_ofNat (n : Nat) (h : n < 4294967296) : un (BitVec.ofNat 32 n) = n := by unfold un; rw [BitVec.toNat_ofNat]; omega
def uv (x : U) : Value := .int .u32 (un x)
def vals (V : List U) : Array Value := (V.map uv).toArray

theorem w_add (x y : U) : IntKind.u32.wrap (un x + un y) = un (x + y) := by unfold un; rw [IntKind.wrap_u32', BitVec.toNat_add]; omega
theorem w_sub (x y : U) : IntKind.u32.wrap (un x - un y) = un (x - y) := by unfold un; rw [IntKind.wrap_u32', BitVec.toNat_sub]; have := x.isLt; have := y.isLt; omega
theorem r_xor (x y : U) : bits BinOp.xor IntKind.u32 (un x) (un y) = un (x ^^^ y) := by
  unfold un; rw [u32_xor_nat _ _ x.isLt y.isLt, BitVec.toNat_xor]
theorem r_rot (x : U) (n : Nat) (h : n < 32) :
    bits BinOp.or IntKind.u32 (un x / 2 ^ n) (un x * 2 ^ (32 - n) % 4294967296) = un (x.rotateRight n) := by
  unfold un
  have e1 : ((x.toNat : Int) / 2 ^ n) = ((x.toNat / 2 ^ n : Nat) : Int) := by norm_cast
  have e2 : ((x.toNat : Int) * 2 ^ (32 - n) % 4294967296) = ((x.toNat * 2 ^ (32 - n) % 4294967296 : Nat) : Int) := by
    rw [Int.natCast_emod, Int.natCast_mul, Int.natCast_pow]; rfl
  have l1 : x.toNat / 2 ^ n < 4294967296 := Nat.lt_of_le_of_lt (Nat.div_le_self _ _) x.isLt
  rw [e1, e2, u32_or_nat _ _ l1 (Nat.mod_lt _ (by decide)), BitVec.rotateRight_def, BitVec.toNat_or, BitVec.toNat_ushiftRight, BitVec.toNat_shiftLeft, Nat.shiftRight_eq_div_pow, Nat.shiftLeft_eq, Nat.mod_eq_of_lt h]

/-! ### one block -/
theorem heap_set {w : World} {b : Nat} {V : List U} {T : TypeId} (h : w.heap[b]? = some (.cells (vals V) T (0, 0))) (o : Nat) (x : U) :
    (w.setCell ⟨b, o, none⟩ (.int .u32 (un x))).heap[b]? = some (.cells (vals (V.set o x)) T (0, 0)) := by
  rw [heap_setCell_same w b o _ T _ h]
  congr 2
  simp [vals, uv, List.map_set]
theorem cell_get {w : World} {b : Nat} {V : List U} {T : TypeId} (h : w.heap[b]? = some (.cells (vals V) T (0, 0))) (o : Nat) (ho : o < V.length) :
    w.cell? ⟨b, o, none⟩ = some (.int .u32 (un (V.getD o 0))) := by
  rw [cell_of_row w b o _ T _ h]
  simp [vals, uv, ho, List.getD_eq_getElem?_getD]
theorem frozen_get {w : World} {b : Nat} {V : List U} {T : TypeId} (h : w.heap[b]? = some (.cells (vals V) T (0, 0))) (o : Nat) : w.frozen? ⟨b, o, none⟩ = false := frozen_of_row w b o _ T h

/-! ### four words of a block, and the world behind a store into one of them -/
structure Four (b : Nat) (T : TypeId) (oa ob oc od : Nat) (w0 w : World) (V : List U) (xa xb xc xd : U) : Prop where
  only : Only b w0 w
  blk : w.heap[b]? = some (.cells (vals V) T (0, 0))
  len : V.length = 16
  ga : V.getD oa 0 = xa
  gb : V.getD ob 0 = xb
  gc : V.getD oc 0 = xc
  gd : V.getD od 0 = xd
structure Dist (oa ob oc od : Nat) : Prop where
  la : oa < 16
  lb : ob < 16
  lc : oc < 16
  ld : od < 16
  ab : oa ≠ ob
  ac : oa ≠ oc
  ad : oa ≠ od
  bc : ob ≠ oc
  bd : ob ≠ od
  cd : oc ≠ od
theorem getD_set_ne (V : List U) (i j : Nat) (x : U) (h : i ≠ j) : (V.set i x).getD j 0 = V.getD j 0 := by
  simp [List.getD_eq_getElem?_getD, List.getElem?_set_ne h]
theorem getD_set_eq (V : List U) (i : Nat) (x : U) (h : i < V.length) : (V.set i x).getD i 0 = x := by
  simp [List.getD_eq_getElem?_getD, h]
section
variable {b : Nat} {T : TypeId} {oa ob oc od : Nat} {w0 w : World} {V : List U} {xa xb xc xd : U}
theorem Four.cells (h : Four b T oa ob oc od w0 w V xa xb xc xd) (D : Dist oa ob oc od) :
    w.cell? ⟨b, oa, none⟩ = some (.int .u32 (un xa)) ∧ w.cell? ⟨b, ob, none⟩ = some (.int .u32 (un xb)) ∧
    w.cell? ⟨b, oc, none⟩ = some (.int .u32 (un xc)) ∧ w.cell? ⟨b, od, none⟩ = some (.int .u32 (un xd)) ∧
    w.frozen? ⟨b, oa, none⟩ = false ∧ w.frozen? ⟨b, ob, none⟩ = false ∧ w.frozen? ⟨b, oc, none⟩ = false ∧ w.frozen? ⟨b, od, none⟩ = false := by
  refine ⟨?_, ?_, ?_, ?_, frozen_get h.blk _, frozen_get h.blk _, frozen_get h.blk _, frozen_get h.blk _⟩
  · rw [cell_get h.blk oa (by rw [h.len]; exact D.la), h.ga]
  · rw [cell_get h.blk ob (by rw [h.len]; exact D.lb), h.gb]
  · rw [cell_get h.blk oc (by rw [h.len]; exact D.lc), h.gc]
  · rw [cell_get h.blk od (by rw [h.len]; exact D.ld), h.gd]
theorem Four.seta (h : Four b T oa ob oc od w0 w V xa xb xc xd) (D : Dist oa ob oc od) (m : Nat) (x : U) :
    Four b T oa ob oc od w0 ((w.drewN m).setCell ⟨b, oa, none⟩ (.int .u32 (un x))) (V.set oa x) x xb xc xd :=
  ⟨(h.only.drewN m).setCell _ _, heap_set (w := w.drewN m) h.blk _ _, by simp [h.len], getD_set_eq _ _ _ (by rw [h.len]; exact D.la),
   (getD_set_ne _ _ _ _ D.ab).trans h.gb, (getD_set_ne _ _ _ _ D.ac).trans h.gc, (getD_set_ne _ _ _ _ D.ad).trans h.gd⟩
theorem Four.setb (h : Four b T oa ob oc od w0 w V xa xb xc xd) (D : Dist oa ob oc od) (m : Nat) (x : U) :
    Four b T oa ob oc od w0 ((w.drewN m).setCell ⟨b, ob, none⟩ (.int .u32 (un x))) (V.set ob x) xa x xc xd :=
  ⟨(h.only.drewN m).setCell _ _, heap_set (w := w.drewN m) h.blk _ _, by simp [h.len], (getD_set_ne _ _ _ _ D.ab.symm).trans h.ga, getD_set_eq _ _ _ (by rw [h.len]; exact D.lb),
   (getD_set_ne _ _ _ _ D.bc).trans h.gc, (getD_set_ne _ _ _ _ D.bd).trans h.gd⟩
theorem Four.setc (h : Four b T oa ob oc od w0 w V xa xb xc xd) (D : Dist oa ob oc od) (m : Nat) (x : U) :
    Four b T oa ob oc od w0 ((w.drewN m).setCell ⟨b, oc, none⟩ (.int .u32 (un x))) (V.set oc x) xa xb x xd :=
  ⟨(h.only.drewN m).setCell _ _, heap_set (w := w.drewN m) h.blk _ _, by simp [h.len], (getD_set_ne _ _ _ _ D.ac.symm).trans h.ga, (getD_set_ne _ _ _ _ D.bc.symm).trans h.gb,
   getD_set_eq _ _ _ (by rw [h.len]; exact D.lc), (getD_set_ne _ _ _ _ D.cd).trans h.gd⟩
theorem Four.setd (h : Four b T oa ob oc od w0 w V xa xb xc xd) (D : Dist oa ob oc od) (m : Nat) (x : U) :
    Four b T oa ob oc od w0 ((w.drewN m).setCell ⟨b, od, none⟩ (.int .u32 (un x))) (V.set od x) xa xb xc x :=
  ⟨(h.only.drewN m).setCell _ _, heap_set (w := w.drewN m) h.blk _ _, by simp [h.len], (getD_set_ne _ _ _ _ D.ad.symm).trans h.ga, (getD_set_ne _ _ _ _ D.bd.symm).trans h.gb,
   (getD_set_ne _ _ _ _ D.cd.symm).trans h.gc, getD_set_eq _ _ _ (by rw [h.len]; exact D.ld)⟩
end
/-! ### quarter and back -/
def quarterL (V : List U) (a b c d : Nat) (x y : U) : List U :=
  let va := V.getD a 0; let vb := V.getD b 0; let vc := V.getD c 0; let vd := V.getD d 0
  let a1 := va + (vb + x); let d1 := (vd ^^^ a1).rotateRight 16; let c1 := vc + d1; let b1 := (vb ^^^ c1).rotateRight 12
  let a2 := a1 + (b1 + y); let d2 := (d1 ^^^ a2).rotateRight 8; let c2 := c1 + d2; let b2 := (b1 ^^^ c2).rotateRight 7
  (((((((V.set a a1).set d d1).set c c1).set b b1).set a a2).set d d2).set c c2).set b b2

def backL (V : List U) (a b c d : Nat) (x y : U) : List U :=
  let va := V.getD a 0; let vb := V.getD b 0; let vc := V.getD c 0; let vd := V.getD d 0
  let b1 := vb.rotateRight 25 ^^^ vc; let c1 := vc - vd; let d1 := vd.rotateRight 24 ^^^ va; let a1 := va - (b1 + y)
  let b2 := b1.rotateRight 20 ^^^ c1; let c2 := c1 - d1; let d2 := d1.rotateRight 16 ^^^ a1; let a2 := a1 - (b2 + x)
  (((((((V.set b b1).set c c1).set d d1).set a a1).set b b2).set c c2).set d d2).set a a2

theorem length_quarterL (V : List U) (a b c d : Nat) (x y : U) : (quarterL V a b c d x y).length = V.length := by simp [quarterL]
theorem length_backL (V : List U) (a b c d : Nat) (x y : U) : (backL V a b c d x y).length = V.length := by simp [backL]

/-- the corners of quarter i -/
def ca (i : Nat) : Nat := i % 4
def cb (i : Nat) : Nat := 4 + (i + i / 4) % 4
def cc (i : Nat) : Nat := 8 + (i + 2 * (i / 4)) % 4
def cd (i : Nat) : Nat := 12 + (i + 3 * (i / 4)) % 4

theorem dist (i : Nat) : Dist (ca i) (cb i) (cc i) (cd i) := by
  unfold ca cb cc cd
  refine ⟨?_, ?_, ?_, ?_, ?_, ?_, ?_, ?_, ?_, ?_⟩ <;> omega

/-- the orders' signs, as bytes -/
def ordS : ByteArray := ⟨#[48, 49, 50, 51, 52, 53, 54, 55, 56, 57, 97, 98, 99, 100, 101, 102, 101, 97, 52, 56, 57, 102, 100, 54, 49, 99, 48, 50, 98, 55, 53, 51, 98, 56, 99, 48, 53, 50, 102, 100, 97, 101, 51, 54, 55, 49, 57, 52, 55, 57, 51, 49, 100, 99, 98, 101, 50, 54, 53, 97, 52, 48, 102, 56, 57, 48, 53, 55, 50, 52, 97, 102, 101, 49, 98, 99, 54, 56, 51, 100, 50, 99, 54, 97, 48, 98, 56, 51, 52, 100, 55, 53, 102, 101, 49, 57, 99, 53, 49, 102, 101, 100, 52, 97, 48, 55, 54, 51, 57, 50, 56, 98, 100, 98, 55, 101, 99, 49, 51, 57, 53, 48, 102, 52, 56, 54, 50, 97, 54, 102, 101, 57, 98, 51, 48, 56, 99, 50, 100, 55, 49, 52, 97, 53, 97, 50, 56, 52, 55, 54, 49, 53, 102, 98, 57, 101, 51, 99, 100, 48]⟩
/-- the entry number k of the orders -/
def placeK (k : Nat) : Nat := if 97 ≤ (ordS.get! k).toNat then (ordS.get! k).toNat - 87 else (ordS.get! k).toNat - 48
def placeN (r i : Nat) : Nat := placeK (16 * r + i)
set_option maxRecDepth 100000 in
theorem ordS_size : ordS.size = 160 := by decide +kernel
set_option maxRecDepth 100000 in
theorem place_tab1 : ∀ k, (hk : k < ordS.size) → (97 : Int) ≤ ((ordS[k]'hk).toNat : Int) → (((ordS[k]'hk).toNat : Int) - 97) % 256 + 10 = (placeK k : Int) := by decide +kernel
set_option maxRecDepth 100000 in
theorem place_tab2 : ∀ k, (hk : k < ordS.size) → ((ordS[k]'hk).toNat : Int) < 97 → (((ordS[k]'hk).toNat : Int) - 48) % 256 = (placeK k : Int) := by decide +kernel
set_option maxRecDepth 100000 in
theorem placeK_lt : ∀ k, k < 160 → placeK k < 16 := by decide +kernel
theorem placeN_lt (r i : Nat) (hr : r < 10) (hi : i < 16) : placeN r i < 16 := placeK_lt _ (by omega)

/-- one step of a stir, and of the way back -/
def qstep (V M : List U) (k : Nat) : List U :=
  quarterL V (ca (k % 8)) (cb (k % 8)) (cc (k % 8)) (cd (k % 8)) (M.getD (placeN (k / 8) (2 * (k % 8))) 0) (M.getD (placeN (k / 8) (2 * (k % 8) + 1)) 0)
def bstep (V M : List U) (k : Nat) : List U :=
  backL V (ca (k % 8)) (cb (k % 8)) (cc (k % 8)) (cd (k % 8)) (M.getD (placeN (k / 8) (2 * (k % 8))) 0) (M.getD (placeN (k / 8) (2 * (k % 8) + 1)) 0)
/-- k steps -/
def stirK (V M : List U) : Nat → List U
  | 0 => V
  | k + 1 => qstep (stirK V M k) M k
/-- k steps back, the last one first -/
def unK (V M : List U) : Nat → List U
  | 0 => V
  | k + 1 => bstep (unK V M k) M (79 - k)
theorem length_stirK (V M : List U) : ∀ k, (stirK V M k).length = V.length
  | 0 => rfl
  | k + 1 => by rw [stirK, qstep, length_quarterL, length_stirK V M k]
theorem length_unK (V M : List U) : ∀ k, (unK V M k).length = V.length
  | 0 => rfl
  | k + 1 => by rw [unK, bstep, length_backL, length_unK V M k]
theorem size_vals (V : List U) : (vals V).size = V.length := by simp [vals]
theorem oneCell_vals (V : List U) : (vals V).all (·.oneCell') = true := by
  simp [vals, uv, Value.oneCell']
theorem stirK_round (V M : List U) (k j : Nat) (hj : j < 8) : stirK V M (8 * k + j + 1) = quarterL (stirK V M (8 * k + j)) (ca j) (cb j) (cc j) (cd j) (M.getD (placeN k (2 * j)) 0) (M.getD (placeN k (2 * j + 1)) 0) := by
  rw [stirK, qstep, show (8 * k + j) % 8 = j by omega, show (8 * k + j) / 8 = k by omega]
theorem unK_round (V M : List U) (k j : Nat) (hk : k < 10) (hj : j < 8) : unK V M (8 * k + j + 1) = backL (unK V M (8 * k + j)) (ca (7 - j)) (cb (7 - j)) (cc (7 - j)) (cd (7 - j)) (M.getD (placeN (9 - k) (2 * (7 - j))) 0) (M.getD (placeN (9 - k) (2 * (7 - j) + 1)) 0) := by
  rw [unK, bstep, show (79 - (8 * k + j)) % 8 = 7 - j by omega, show (79 - (8 * k + j)) / 8 = 9 - k by omega]

/-! ### press -/
def ivL : List U := [0x6a09e667, 0xbb67ae85, 0x3c6ef372, 0xa54ff53a, 0x510e527f, 0x9b05688c, 0x1f83d9ab, 0x5be0cd19]
/-- the sixteen words that are stirred -/
def pressV (H : List U) (n : Nat) (last : Bool) : List U :=
  let v := H ++ ivL
  let v := v.set 12 (v.getD 12 0 ^^^ BitVec.ofNat 32 n)
  let v := v.set 13 (v.getD 13 0 ^^^ BitVec.ofNat 32 (n / 4294967296))
  if last then v.set 14 (~~~ v.getD 14 0) else v
def fillK (H : List U) : Nat → List U
  | 0 => List.replicate 16 0
  | k + 1 => ((fillK H k).set k (H.getD k 0)).set (k + 8) (ivL.getD k 0)
theorem fillK_succ (H : List U) (k : Nat) : fillK H (k + 1) = ((fillK H k).set k (H.getD k 0)).set (k + 8) (ivL.getD k 0) := rfl
theorem length_fillK (H : List U) : ∀ k, (fillK H k).length = 16
  | 0 => rfl
  | k + 1 => by rw [fillK, List.length_set, List.length_set, length_fillK H k]
theorem fillK_all (H : List U) (h : H.length = 8) : fillK H 8 = H ++ ivL := by
  match H, h with
  | [a, b, c, d, e, f, g, i], _ => rfl
def mixK (H W : List U) : Nat → List U
  | 0 => H
  | k + 1 => (mixK H W k).set k ((mixK H W k).getD k 0 ^^^ (W.getD k 0 ^^^ W.getD (k + 8) 0))
def pressL (H M : List U) (n : Nat) (last : Bool) : List U := mixK H (stirK (pressV H n last) M 80) 8
theorem mixK_succ (H W : List U) (k : Nat) : mixK H W (k + 1) = (mixK H W k).set k ((mixK H W k).getD k 0 ^^^ (W.getD k 0 ^^^ W.getD (k + 8) 0)) := rfl
theorem length_mixK (H W : List U) : ∀ k, (mixK H W k).length = H.length
  | 0 => rfl
  | k + 1 => by rw [mixK, List.length_set, length_mixK H W k]
theorem length_pressL (H M : List U) (n : Nat) (last : Bool) : (pressL H M n last).length = H.length := length_mixK _ _ _
theorem length_pressV (H : List U) (n : Nat) (last : Bool) (h : H.length = 8) : (pressV H n last).length = 16 := by
  unfold pressV; cases last <;> simp [h, ivL]
theorem pressV_of (H V : List U) (n : Nat) (last : Bool) (x12 x13 : U) (hV : H ++ ivL = V) (h12 : V.getD 12 0 = x12) (h13 : V.getD 13 0 = x13) :
    pressV H n last = (if last then (((V.set 12 (x12 ^^^ BitVec.ofNat 32 n)).set 13 (x13 ^^^ BitVec.ofNat 32 (n / 4294967296))).set 14 (~~~ (((V.set 12 (x12 ^^^ BitVec.ofNat 32 n)).set 13 (x13 ^^^ BitVec.ofNat 32 (n / 4294967296))).getD 14 0)))
      else ((V.set 12 (x12 ^^^ BitVec.ofNat 32 n)).set 13 (x13 ^^^ BitVec.ofNat 32 (n / 4294967296)))) := by
  subst hV; subst h12; subst h13
  unfold pressV
  simp only [FM.getD_set_ne _ 12 13 _ (by decide)]
theorem un_not (x : U) : 4294967295 - un x = un (~~~ x) := by
  unfold un; rw [BitVec.toNat_not]; have := x.isLt; omega
theorem un_compl (x : U) : bits BinOp.xor IntKind.u32 (if IntKind.u32.signed = true then -1 else IntKind.u32.max) (un x) = un (~~~ x) := by
  have h : (if IntKind.u32.signed = true then -1 else IntKind.u32.max) = un (BitVec.allOnes 32) := by decide
  rw [h, r_xor, BitVec.allOnes_xor]
theorem un_low (n : Nat) : (n : Int) % 4294967296 = un (BitVec.ofNat 32 n) := by
  unfold un; rw [BitVec.toNat_ofNat]; omega
theorem un_high (n : Nat) : (n : Int) / 4294967296 % 4294967296 = un (BitVec.ofNat 32 (n / 4294967296)) := by
  have h := un_low (n / 4294967296); rw [Int.natCast_ediv] at h; exact h
theorem un_high64 (n : Nat) (h : n < 18446744073709551616) : IntKind.u64.wrap ((n : Int) / 4294967296) % 4294967296 = un (BitVec.ofNat 32 (n / 4294967296)) := by
  have e : IntKind.u64.wrap ((n : Int) / 4294967296) = (n : Int) / 4294967296 := by
    have h1 : IntKind.u64.wrap ((n : Int) / 4294967296) = ((n : Int) / 4294967296) % 18446744073709551616 := by simp [IntKind.wrap, IntKind.bits, IntKind.signed]
    rw [h1]; omega
  rw [e, un_high]
theorem copy_vals (V X : List U) (off : Nat) : ((vals V).toList.take off ++ (X.map uv ++ (vals V).toList.drop (off + (X.map uv).length))).toArray = vals (V.take off ++ (X ++ V.drop (off + X.length))) := by
  simp [vals, List.map_take, List.map_drop]
theorem src_vals {w : World} {b : Nat} {V : List U} {T : TypeId} {fr : Nat × Nat} (h : w.heap[b]? = some (.cells (vals V) T fr)) : ∀ j v, (V.map uv)[j]? = some v → w.cell? ((⟨b, 0, none⟩ : Addr).add j) = some v := by
  intro j v hj
  rw [Addr.add_mid, Nat.zero_add, cell_of_row _ b j _ _ _ h]
  simpa [vals] using hj
theorem vals_append (V W : List U) : vals (V ++ W) = vals V ++ vals W := by simp [vals]
theorem uv_oneCell (V : List U) : ∀ v ∈ V.map uv, v.oneCell' = true := by
  intro v hv; simp only [List.mem_map] at hv; obtain ⟨x, _, rfl⟩ := hv; rfl

end Go.Proofs.YtohemcdcmlngiaaDoor.FM
namespace Go.Proofs.YtohemcdcmlngiaaDoor.FM
open Go.RowKit ML
set_option linter.unusedSimpArgs false

abbrev Bytes := List UInt8
/-- byte i, 0 behind the end -/
def byteN (B : Bytes) (i : Nat) : Nat := (B.getD i 0).toNat
def wordN (B : Bytes) (k : Nat) : Nat := byteN B (4 * k) + 256 * byteN B (4 * k + 1) + 65536 * byteN B (4 * k + 2) + 16777216 * byteN B (4 * k + 3)
/-- sixteen words out of 64 bytes, the lowest byte first; zeros behind the end -/
def wordsL (B : Bytes) : List U := (List.range 16).map fun k => BitVec.ofNat 32 (wordN B k)
theorem length_wordsL (B : Bytes) : (wordsL B).length = 16 := by simp [wordsL]
theorem byteN_lt (B : Bytes) (i : Nat) : byteN B i < 256 := (B.getD i 0).toNat_lt

/-- piece p of a text -/
def pieceL (T : Bytes) (p : Nat) : Bytes := (T.drop (64 * p)).take 64
/-- what the first p pieces come to -/
def absorbK (h : List U) (T : Bytes) : Nat → List U
  | 0 => h
  | p + 1 => pressL (absorbK h T p) (wordsL (pieceL T p)) (64 * (p + 1)) false
theorem length_absorbK (h : List U) (T : Bytes) (hh : h.length = 8) : ∀ p, (absorbK h T p).length = 8
  | 0 => hh
  | p + 1 => by rw [absorbK, length_pressL, length_absorbK h T hh p]
/-- how many pieces are done when T has been taken: the last one is held back -/
def doneP (T : Bytes) : Nat := (T.length - 1) / 64
/-- the text folded -/
def foldL (h : List U) (T : Bytes) : List U := pressL (absorbK h T (doneP T)) (wordsL (T.drop (64 * doneP T))) T.length true
/-- words as bytes -/
def outB (V : List U) : Bytes := V.flatMap fun x => [UInt8.ofNat (x.toNat % 256), UInt8.ofNat (x.toNat / 256 % 256), UInt8.ofNat (x.toNat / 65536 % 256), UInt8.ofNat (x.toNat / 16777216 % 256)]
/-- what folding with a key of n bytes begins with -/
def beginH (n : Nat) : List U := ivL.set 0 (ivL.getD 0 0 ^^^ (0x01010020 + BitVec.ofNat 32 (256 * n)))
/-- the key's piece -/
def keyPiece (K : Bytes) : Bytes := if K = [] then [] else K ++ List.replicate (64 - K.length) 0
def digestL (K B : Bytes) : Bytes := outB (foldL (beginH K.length) (keyPiece K ++ B))

theorem pieceL_append (T S : Bytes) (p : Nat) (h : 64 * (p + 1) ≤ T.length) : pieceL (T ++ S) p = pieceL T p := by
  unfold pieceL
  rw [List.drop_append_of_le_length (by omega), List.take_append_of_le_length (by simp; omega)]
theorem absorbK_append (h : List U) (T S : Bytes) : ∀ p, 64 * p ≤ T.length → absorbK h (T ++ S) p = absorbK h T p
  | 0, _ => rfl
  | p + 1, hp => by rw [absorbK, absorbK, absorbK_append h T S p (by omega), pieceL_append T S p hp]
theorem length_outB (V : List U) : (outB V).length = 4 * V.length := by
  unfold outB
  induction V with
  | nil => rfl
  | cons x V ih => simp only [List.flatMap_cons, List.length_append, List.length_cons, ih]; simp; omega
theorem length_foldL (h : List U) (T : Bytes) (hh : h.length = 8) : (foldL h T).length = 8 := by
  unfold foldL; rw [length_pressL, length_absorbK h T hh]
theorem length_digestL (K B : Bytes) : (digestL K B).length = 32 := by
  unfold digestL; rw [length_outB, length_foldL _ _ (by simp [beginH, ivL])]

/-! ### how far a text has been taken: p pieces done, t bytes held of D -/
structure MidL (T : Bytes) (p t : Nat) (D : Bytes) : Prop where
  len : T.length = 64 * p + t
  le : t ≤ 64
  dl : D.length = 64
  held : D.take t = T.drop (64 * p)
theorem MidL.full {T D : Bytes} {p : Nat} (m : MidL T p 64 D) (h : List U) : pressL (absorbK h T p) (wordsL D) (64 * p + 64) false = absorbK h T (p + 1) := by
  have e : D = pieceL T p := by
    have h1 := m.held
    rw [List.take_of_length_le (by rw [m.dl]; exact Nat.le_refl _)] at h1
    rw [pieceL, ← h1, List.take_of_length_le (by rw [m.dl]; exact Nat.le_refl _)]
  rw [absorbK, ← e, Nat.mul_add]
theorem MidL.next {T D : Bytes} {p : Nat} (m : MidL T p 64 D) : MidL T (p + 1) 0 D :=
  ⟨by have := m.len; omega, by omega, m.dl, by rw [List.take_zero]; symm; rw [List.drop_eq_nil_iff]; have := m.len; omega⟩
theorem MidL.more {T D : Bytes} {p t : Nat} (m : MidL T p t D) (E : Bytes) (hE : t + E.length ≤ 64) : MidL (T ++ E) p (t + E.length) (D.take t ++ (E ++ D.drop (t + E.length))) := by
  have hl := m.len
  have hd := m.dl
  refine ⟨by rw [List.length_append, hl]; omega, hE, by simp [hd]; omega, ?_⟩
  rw [List.drop_append_of_le_length (by omega), ← m.held]
  have h1 : (D.take t).length = t := by simp [hd]; have := m.le; omega
  rw [← List.append_assoc, List.take_append_of_le_length (by simp [hd]; omega), List.take_of_length_le (by simp [hd]; omega)]
theorem MidL.done {T D : Bytes} {p t : Nat} (m : MidL T p t D) (h0 : T = [] ∨ 0 < t) : p = doneP T := by
  have hl := m.len
  have := m.le
  clear m
  unfold doneP
  rcases h0 with rfl | h
  · simp only [List.length_nil] at *; omega
  · omega

/-! ### words, byte by byte -/
theorem wordN_take (B : Bytes) (i k : Nat) : wordN (B.take i) k = (if 4 * k < i then byteN B (4 * k) else 0) + 256 * (if 4 * k + 1 < i then byteN B (4 * k + 1) else 0) + 65536 * (if 4 * k + 2 < i then byteN B (4 * k + 2) else 0) + 16777216 * (if 4 * k + 3 < i then byteN B (4 * k + 3) else 0) := by
  have key : ∀ j, byteN (B.take i) j = if j < i then byteN B j else 0 := by
    intro j
    unfold byteN
    by_cases h : j < i
    · rw [if_pos h]; simp [List.getD_eq_getElem?_getD, List.getElem?_take, h]
    · rw [if_neg h]; simp [List.getD_eq_getElem?_getD, List.getElem?_take, h]
  unfold wordN
  rw [key, key, key, key]
theorem wordN_lt (B : Bytes) (k : Nat) : wordN B k < 4294967296 := by
  unfold wordN
  have := byteN_lt B (4 * k); have := byteN_lt B (4 * k + 1); have := byteN_lt B (4 * k + 2); have := byteN_lt B (4 * k + 3)
  omega
theorem getD_wordsL (B : Bytes) (k : Nat) (hk : k < 16) : (wordsL B).getD k 0 = BitVec.ofNat 32 (wordN B k) := by
  simp [wordsL, List.getD_eq_getElem?_getD, hk]
/-- one more byte: word i/4 gains it -/
theorem wordsL_step (B : Bytes) (i : Nat) :
    wordsL (B.take (i + 1)) = (wordsL (B.take i)).set (i / 4) (BitVec.ofNat 32 (wordN (B.take i) (i / 4) + byteN B i * 2 ^ (8 * (i % 4)))) := by
  apply List.ext_getElem (by simp [length_wordsL])
  intro k h1 h2
  have hk : k < 16 := by rw [length_wordsL] at h1; exact h1
  rw [List.getElem_set]
  have e : ∀ (B : Bytes) (h : k < (wordsL B).length), (wordsL B)[k] = BitVec.ofNat 32 (wordN B k) := by intro B h; simp [wordsL]
  rw [e]
  split
  · rename_i h
    subst h
    congr 1
    rw [wordN_take, wordN_take]
    generalize hq : i / 4 = q
    have h4 : i = 4 * q ∨ i = 4 * q + 1 ∨ i = 4 * q + 2 ∨ i = 4 * q + 3 := by omega
    clear hq h1 h2 hk e
    rcases h4 with h4 | h4 | h4 | h4 <;> subst h4
    · rw [show (4 * q) % 4 = 0 by omega, if_pos (show 4 * q < 4 * q + 1 by omega), if_neg (show ¬ 4 * q + 1 < 4 * q + 1 by omega), if_neg (show ¬ 4 * q + 2 < 4 * q + 1 by omega), if_neg (show ¬ 4 * q + 3 < 4 * q + 1 by omega), if_neg (show ¬ 4 * q < 4 * q by omega), if_neg (show ¬ 4 * q + 1 < 4 * q by omega), if_neg (show ¬ 4 * q + 2 < 4 * q by omega), if_neg (show ¬ 4 * q + 3 < 4 * q by omega)]
      simp
    · rw [show (4 * q + 1) % 4 = 1 by omega, if_pos (show 4 * q < 4 * q + 1 + 1 by omega), if_pos (show 4 * q + 1 < 4 * q + 1 + 1 by omega), if_neg (show ¬ 4 * q + 2 < 4 * q + 1 + 1 by omega), if_neg (show ¬ 4 * q + 3 < 4 * q + 1 + 1 by omega), if_pos (show 4 * q < 4 * q + 1 by omega), if_neg (show ¬ 4 * q + 1 < 4 * q + 1 by omega), if_neg (show ¬ 4 * q + 2 < 4 * q + 1 by omega), if_neg (show ¬ 4 * q + 3 < 4 * q + 1 by omega)]
      simp; omega
    · rw [show (4 * q + 2) % 4 = 2 by omega, if_pos (show 4 * q < 4 * q + 2 + 1 by omega), if_pos (show 4 * q + 1 < 4 * q + 2 + 1 by omega), if_pos (show 4 * q + 2 < 4 * q + 2 + 1 by omega), if_neg (show ¬ 4 * q + 3 < 4 * q + 2 + 1 by omega), if_pos (show 4 * q < 4 * q + 2 by omega), if_pos (show 4 * q + 1 < 4 * q + 2 by omega), if_neg (show ¬ 4 * q + 2 < 4 * q + 2 by omega), if_neg (show ¬ 4 * q + 3 < 4 * q + 2 by omega)]
      simp; omega
    · rw [show (4 * q + 3) % 4 = 3 by omega, if_pos (show 4 * q < 4 * q + 3 + 1 by omega), if_pos (show 4 * q + 1 < 4 * q + 3 + 1 by omega), if_pos (show 4 * q + 2 < 4 * q + 3 + 1 by omega), if_pos (show 4 * q + 3 < 4 * q + 3 + 1 by omega), if_pos (show 4 * q < 4 * q + 3 by omega), if_pos (show 4 * q + 1 < 4 * q + 3 by omega), if_pos (show 4 * q + 2 < 4 * q + 3 by omega), if_neg (show ¬ 4 * q + 3 < 4 * q + 3 by omega)]
      simp; omega
  · rename_i h
    rw [e]
    congr 1
    rw [wordN_take, wordN_take]
    have : i / 4 ≠ k := h
    have c0 : (4 * k < i + 1) ↔ (4 * k < i) := by omega
    have c1 : (4 * k + 1 < i + 1) ↔ (4 * k + 1 < i) := by omega
    have c2 : (4 * k + 2 < i + 1) ↔ (4 * k + 2 < i) := by omega
    have c3 : (4 * k + 3 < i + 1) ↔ (4 * k + 3 < i) := by omega
    simp only [c0, c1, c2, c3]
/-- a word that is not full yet -/
theorem wordN_part (B : Bytes) (i : Nat) : wordN (B.take i) (i / 4) < 2 ^ (8 * (i % 4)) := by
  rw [wordN_take]
  generalize hq : i / 4 = q
  have h4 : i = 4 * q ∨ i = 4 * q + 1 ∨ i = 4 * q + 2 ∨ i = 4 * q + 3 := by omega
  clear hq
  have b0 := byteN_lt B (4 * q)
  have b1 := byteN_lt B (4 * q + 1)
  have b2 := byteN_lt B (4 * q + 2)
  rcases h4 with h4 | h4 | h4 | h4 <;> subst h4
  · rw [show (4 * q) % 4 = 0 by omega, if_neg (show ¬ 4 * q < 4 * q by omega), if_neg (show ¬ 4 * q + 1 < 4 * q by omega), if_neg (show ¬ 4 * q + 2 < 4 * q by omega), if_neg (show ¬ 4 * q + 3 < 4 * q by omega)]
    decide
  · rw [show (4 * q + 1) % 4 = 1 by omega, if_pos (show 4 * q < 4 * q + 1 by omega), if_neg (show ¬ 4 * q + 1 < 4 * q + 1 by omega), if_neg (show ¬ 4 * q + 2 < 4 * q + 1 by omega), if_neg (show ¬ 4 * q + 3 < 4 * q + 1 by omega)]
    omega
  · rw [show (4 * q + 2) % 4 = 2 by omega, if_pos (show 4 * q < 4 * q + 2 by omega), if_pos (show 4 * q + 1 < 4 * q + 2 by omega), if_neg (show ¬ 4 * q + 2 < 4 * q + 2 by omega), if_neg (show ¬ 4 * q + 3 < 4 * q + 2 by omega)]
    omega
  · rw [show (4 * q + 3) % 4 = 3 by omega, if_pos (show 4 * q < 4 * q + 3 by omega), if_pos (show 4 * q + 1 < 4 * q + 3 by omega), if_pos (show 4 * q + 2 < 4 * q + 3 by omega), if_neg (show ¬ 4 * q + 3 < 4 * q + 3 by omega)]
    omega
theorem or_word (x c m : Nat) (hx : x < 2 ^ m) (hc : c < 256) (hm : m + 8 ≤ 32) :
    bits BinOp.or IntKind.u32 (un (BitVec.ofNat 32 x)) ((c : Int) * 2 ^ m % 4294967296) = un (BitVec.ofNat 32 (x + c * 2 ^ m)) := by
  have hp : 2 ^ m * 256 ≤ 4294967296 := by
    have := Nat.pow_le_pow_right (show 0 < 2 by decide) hm
    rw [Nat.pow_add] at this
    exact this
  have hpos : 0 < 2 ^ m := Nat.pow_pos (by decide)
  have h2 : c * 2 ^ m + 2 ^ m ≤ 4294967296 := by
    have : (c + 1) * 2 ^ m ≤ 256 * 2 ^ m := Nat.mul_le_mul_right _ (by omega)
    rw [Nat.add_mul] at this
    omega
  rw [un_ofNat _ (by omega), un_ofNat _ (by omega)]
  have e : ((c : Int) * 2 ^ m % 4294967296) = ((c * 2 ^ m : Nat) : Int) := by
    have : ((c : Int) * 2 ^ m) = ((c * 2 ^ m : Nat) : Int) := by push_cast; rfl
    rw [this]; omega
  rw [e, u32_or_nat _ _ (by omega) (by omega)]
  congr 1
  rw [Nat.or_comm, Nat.add_comm, ← Nat.shiftLeft_eq, Nat.shiftLeft_add_eq_or_of_lt hx]
end Go.Proofs.YtohemcdcmlngiaaDoor.FM
namespace Go
namespace Seg
section
variable {P : Program} {ops : Array Oper} {Q : Exit → Act → World → Prop} {md : Region.Mode} {S : World → Prop}

/-- any order of the head; behind each operation the class holds; behind the head 'E' -/
def anyX (P : Program) (md : Region.Mode) (ops : Array Oper) (Q : Exit → Act → World → Prop) (S : World → Prop) (n : Nat) (E : Array Bool → Act → World → Prop) :
    Nat → Array Bool → Act → World → Prop
  | 0, listed, a, w => E listed a w
  | f + 1, listed, a, w => Region.ready md ops listed ≠ [] ∧
    ∀ i ∈ Region.ready md ops listed, i < n ∧ wpOp P ops Q i (fun a' w' => S w' ∧ anyX P md ops Q S n E f (listed.setIfInBounds i true) a' w') a w

theorem wpAny_of_anyX {n g : Nat} {E : Array Bool → Act → World → Prop} (hE : ∀ listed a w, E listed a w → wpAny P md ops Q g listed a w) :
    ∀ (f : Nat) (listed : Array Bool) (a : Act) (w : World), anyX P md ops Q S n E f listed a w → wpAny P md ops Q (f + g) listed a w
  | 0, listed, a, w, h => by rw [Nat.zero_add]; exact hE _ _ _ h
  | f + 1, listed, a, w, h => by
    rw [show f + 1 + g = (f + g) + 1 by omega]
    exact ⟨fun h0 => absurd h0 h.1, fun i hi => wpOp_mono (fun a' w' h' => wpAny_of_anyX hE f _ a' w' h'.2) (h.2 i hi).2⟩

/-- the tail waits for the head -/
def Waits (md : Region.Mode) (ops : Array Oper) (n : Nat) : Prop := n < ops.size → Region.sinkB md ops n = true ∧ Region.chainB md ops n = true

theorem ready_lt {n i : Nat} {listed : Array Bool} (hw : Waits md ops n) (inv : HeadInv md ops n listed) (hin : i < n) (hi : i ∈ Region.ready md ops listed) :
    ∀ j ∈ Region.ready md ops listed, j < n := fun j hj => by
  rcases Nat.lt_or_ge j n with h | h
  · exact h
  · obtain ⟨_, o, ho, _⟩ := mem_ready.1 hj
    have hlt : j < ops.size := (Array.getElem?_eq_some_iff.1 ho).1
    obtain ⟨h1, h2⟩ := hw (by omega)
    exact absurd hj (tail_waits h1 h2 (by omega) inv _ i rfl hin (mem_ready.1 hi).1 j h)

theorem anyX_first {n i : Nat} {oi : Oper} {v : Value} {E : Array Bool → Act → World → Prop} (hi : ops[i]? = some oi)
    (hsel : ∀ (j : Nat) (o : Oper) cs b, ops[j]? = some o → o.op ≠ .select cs b)
    (hQ : ∀ c a w, Q (.panic c) (a.put oi.dst v) w → Q (.panic c) a w) (hwt : Waits md ops n) (hin : i < n)
    (hdone : ∀ listed a w, E listed a w → ∀ j ∈ Region.ready md ops listed, n ≤ j) :
    ∀ (f : Nat) (listed : Array Bool) (a : Act) (w : World), HeadInv md ops n listed →
      (∀ j oj, ops[j]? = some oj → j ≠ i → listed.getD j true = false → (∀ e ∈ oj.after, Region.binds md e = true → e.on ≠ i) → oi.apart ops oj = true) →
      i ∈ Region.ready md ops listed → YieldsIf P ops S oi v a → S w →
      anyX P md ops Q S n E f (listed.setIfInBounds i true) (a.put oi.dst v) w → anyX P md ops Q S n E (f + 1) listed a w := by
  intro f
  induction f with
  | zero =>
    intro listed a w inv _ hr hy hS H
    refine ⟨fun h => (by rw [h] at hr; cases hr), fun j hj => ?_⟩
    have hjn := ready_lt hwt inv hin hr j hj
    refine ⟨hjn, ?_⟩
    by_cases hji : j = i
    · subst hji; exact hy.wpOp hi hS ⟨hS, H⟩
    · have := hdone _ _ _ H j (ready_mono hj hji)
      omega
  | succ f ih =>
    intro listed a w inv hfree hr hy hS H
    refine ⟨fun h => (by rw [h] at hr; cases hr), fun j hj => ?_⟩
    have hjn := ready_lt hwt inv hin hr j hj
    refine ⟨hjn, ?_⟩
    by_cases hji : j = i
    · subst hji; exact hy.wpOp hi hS ⟨hS, H⟩
    · have h1 := (H.2 j (ready_mono hj hji)).2
      obtain ⟨hjun, oj, hoj, hall⟩ := mem_ready.1 hj
      have hnot : ∀ e ∈ oj.after, Region.binds md e = true → e.on ≠ i := fun e he hb heq => by
        have h1 := hall e he hb
        rw [heq, getD_both (mem_ready.1 hr).1] at h1
        cases h1
      have h2 := wpOp_putIf hoj (hfree j oj hoj hji hjun hnot) (fun cs b => hsel i oi cs b hi) (fun cs b => hsel j oj cs b hoj) hQ hy h1
      have hfree' : ∀ k ok, ops[k]? = some ok → k ≠ i → (listed.setIfInBounds j true).getD k true = false →
          (∀ e ∈ ok.after, Region.binds md e = true → e.on ≠ i) → oi.apart ops ok = true := fun k ok hk hki hun hno => by
        refine hfree k ok hk hki ?_ hno
        by_cases hjk : j = k
        · subst hjk; exact hjun
        · rw [getD_set_ne true hjk] at hun; exact hun
      refine wpOp_mono (fun a' w' h3 => ⟨h3.2.1, ih (listed.setIfInBounds j true) a' w' (inv.set hj hjn) hfree' (ready_mono hr (Ne.symm hji)) h3.1 h3.2.1 ?_⟩) h2
      rw [Array.setIfInBounds_comm _ _ hji]
      exact h3.2.2

theorem anyX_all {n j : Nat} {E : Array Bool → Act → World → Prop} {f : Nat} {listed : Array Bool} {a : Act} {w : World} (hr : Region.ready md ops listed = [j]) (hj : j < n)
    (h : wpOp P ops Q j (fun a' w' => S w' ∧ anyX P md ops Q S n E f (listed.setIfInBounds j true) a' w') a w) : anyX P md ops Q S n E (f + 1) listed a w := by
  refine ⟨by rw [hr]; simp, fun i hi => ?_⟩
  rw [hr] at hi
  obtain rfl : i = j := by simpa using hi
  exact ⟨hj, h⟩

/-- an operation whose run, where it ends, ends in a value: no call of a Go function among them -/
def plainOp (o : Oper) : Bool := match o.op with
  | .move _ | .assign _ | .pick .. | .load .. | .nilCheck _ | .binOp .. | .unOp .. | .convert .. | .makeInterface .. | .slice .. | .fieldAddr .. | .field ..
  | .indexAddr .. | .index .. | .lookup .. | .extract .. | .typeAssert .. | .build .. | .sliceToArrayPointer .. | .makeFunc .. => true
  | .call c => (match c.callee with | .builtin .len => true | .builtin .cap => true | .builtin .min => true | .builtin .max => true | _ => false)
  | _ => false

theorem run_value {s : Sem Value} {w w' : World} {n : Next} (h : (do pure (Next.value (← s)) : Sem Next).run P w = .ok n w') : ∃ u, n = .value u := by
  simp only [Sem.run_bind] at h
  cases hr : s.run P w with
  | ok u w1 => rw [hr] at h; simp at h; exact ⟨u, h.1.symm⟩
  | halt x w1 => rw [hr] at h; simp at h

theorem plain_value {o : Oper} (hp : plainOp o = true) {ρ : Operand → Value} {w w' : World} {n : Next} (h : (execOp ρ o).run P w = .ok n w') : ∃ u, n = .value u := by
  obtain ⟨dst, op, type, pos, after, guard⟩ := o
  unfold plainOp at hp
  cases op <;> (try (simp at hp; done))
  all_goals simp only [execOp] at h
  case move x => simp at h; exact ⟨_, h.1.symm⟩
  case assign x => simp at h; exact ⟨_, h.1.symm⟩
  case pick c a b =>
    simp only [Sem.run_bind] at h
    cases hr : (asBool (ρ c)).run P w with
    | ok u w1 => rw [hr] at h; simp at h; exact ⟨_, h.1.symm⟩
    | halt x w1 => rw [hr] at h; simp at h
  case nilCheck x =>
    have hrt : ∀ (w : World), ¬ ∃ n w', (runtimePanic .nilDeref : Sem Next).run P w = .ok n w' := by
      intro w ⟨n, w', h⟩
      unfold runtimePanic at h
      simp [goPanic] at h
    split at h
    · exact absurd ⟨_, _, h⟩ (hrt _)
    · exact absurd ⟨_, _, h⟩ (hrt _)
    · exact absurd ⟨_, _, h⟩ (hrt _)
    · split at h
      · exact absurd ⟨_, _, h⟩ (hrt _)
      · simp only [Sem.run_bind] at h
        cases h1 : (program).run P w with
        | halt x w1 => rw [h1] at h; simp at h
        | ok p w1 =>
          rw [h1] at h
          simp only [Result.andThen_ok] at h
          revert h
          generalize (nilAhead _ _ _ _).run P w1 = r
          intro h
          cases r with
          | halt x w1 => simp at h
          | ok p w1 =>
            simp only [Result.andThen_ok] at h
            split at h
            · simp [unsupported] at h
            · simp at h; exact ⟨_, h.1.symm⟩
      · simp at h; exact ⟨_, h.1.symm⟩
    · simp at h; exact ⟨_, h.1.symm⟩
  case call c =>
    cases hc : c.callee with
    | builtin b => cases b <;> simp [hc] at hp <;> simp only [resolve, hc, Sem.run_bind, Sem.run_pure, Result.andThen_ok, invoke, builtin] at h <;> exact run_value (by simpa [Sem.run_bind] using h)
    | value f => simp [hc] at hp
    | invoke f m => simp [hc] at hp
  all_goals exact run_value h

theorem yieldsIf_of_quiet {o : Oper} {a : Act} {K : Act → Prop} (hp : plainOp o = true)
    (h : if Region.wanted o (yielded ops a.tmps) then o.quiet P a S K else K (a.put o.dst undef)) : ∃ v, YieldsIf P ops S o v a ∧ K (a.put o.dst v) := by
  by_cases hw : Region.wanted o (yielded ops a.tmps) = true
  · rw [if_pos hw] at h
    obtain ⟨v, h1, h2⟩ := h
    refine ⟨v, .inl ⟨hw, fun w hS => ?_⟩, h2⟩
    have h3 := h1 w hS
    unfold Oper.quietAt at h3
    cases hr : (execOp a.eval o).run P w with
    | halt x w1 => rw [hr] at h3; simp [Oper.quietUpon] at h3
    | ok n w1 =>
      obtain ⟨u, rfl⟩ := plain_value hp hr
      rw [hr] at h3
      simp only [Oper.quietUpon] at h3
      rw [h3.1, h3.2]
  · rw [if_neg hw] at h
    exact ⟨undef, .inr ⟨by simpa using hw, rfl⟩, h⟩

/-! ### the schedule -/
def opAt (ops : Array Oper) (i : Nat) : Oper := ops.getD i ⟨none, .move (.const undef), 0, "", #[], none⟩

def runQ (md : Region.Mode) (ops : Array Oper) (n : Nat) : List Nat → Array Bool → Option (Array Bool)
  | [], l => some l
  | i :: r, l => if (Region.ready md ops l).contains i && Region.free md ops l i && plainOp (opAt ops i) && decide (i < n) then runQ md ops n r (l.setIfInBounds i true) else none

def okSegs (md : Region.Mode) (ops : Array Oper) (n : Nat) : List (List Nat × Nat) → List Nat → Array Bool → Bool
  | [], last, l => match runQ md ops n last l with | some l' => Region.seqB md ops (ops.size - n) n l' | none => false
  | (q, j) :: r, last, l => match runQ md ops n q l with | some l' => decide (Region.ready md ops l' = [j]) && decide (j < n) && okSegs md ops n r last (l'.setIfInBounds j true) | none => false

def headLen : List (List Nat × Nat) → List Nat → Nat
  | [], last => last.length
  | (q, _) :: r, last => q.length + (headLen r last + 1)

def segsB (ops : Array Oper) (n : Nat) (segs : List (List Nat × Nat)) (last : List Nat) : Bool :=
  Region.noSelect ops && decide (n ≤ ops.size) && (decide (n = ops.size) || (Region.sinkB .any ops n && Region.chainB .any ops n)) &&
  okSegs .any ops n segs last (Array.replicate ops.size false) && decide (headLen segs last = n)

/-- what the walk shows: the quiet operations of each segment, in every world of the class; the one behind them, in the world at hand, the class shown anew; then the tail -/
def wpSegs (P : Program) (ops : Array Oper) (Q : Exit → Act → World → Prop) (S : World → Prop) (tail : List Oper) (last : List Oper) : List (List Oper × Oper) → Act → World → Prop
  | [], a, w => wpQuiet P ops S (fun a' => wpList P ops Q tail a' w) last a
  | (q, o) :: r, a, w => wpQuiet P ops S (fun a' => ∀ K : Act → World → Prop, (∀ a'' w'', S w'' → wpSegs P ops Q S tail last r a'' w'' → K a'' w'') →
      if Region.wanted o (yielded ops a'.tmps) then o.wp P a' w K Q else K (a'.put o.dst undef) w) q a

theorem opAt_of_ready {i : Nat} {listed : Array Bool} (h : i ∈ Region.ready md ops listed) : ops[i]? = some (opAt ops i) := by
  obtain ⟨_, o, ho, _⟩ := mem_ready.1 h
  have hlt : i < ops.size := (Array.getElem?_eq_some_iff.1 ho).1
  unfold opAt
  simp [hlt]

theorem run_seg {n : Nat} {E : Array Bool → Act → World → Prop} (hsel : Region.noSelect ops = true)
    (hQ : ∀ i c (a : Act) v w, Q (.panic c) (a.put (opAt ops i).dst v) w → Q (.panic c) a w) (hwt : Waits md ops n)
    (hdone : ∀ listed a w, E listed a w → ∀ j ∈ Region.ready md ops listed, n ≤ j) {f : Nat} {w : World} (hS : S w) {L : Act → Prop} {listed' : Array Bool} :
    ∀ (q : List Nat) (listed : Array Bool) (a : Act), HeadInv md ops n listed → runQ md ops n q listed = some listed' →
      (∀ a', HeadInv md ops n listed' → L a' → anyX P md ops Q S n E f listed' a' w) →
      wpQuiet P ops S L (q.map (opAt ops)) a → anyX P md ops Q S n E (q.length + f) listed a w
  | [], listed, a, inv, hr, hL, h => by
    simp only [runQ, Option.some.injEq] at hr
    subst hr
    simpa using hL a inv h
  | i :: q, listed, a, inv, hr, hL, h => by
    unfold runQ at hr
    split at hr
    · rename_i hc
      simp only [Bool.and_eq_true, decide_eq_true_eq] at hc
      obtain ⟨⟨⟨hrd, hfr⟩, hp⟩, hin⟩ := hc
      have hrd' : i ∈ Region.ready md ops listed := by simpa using hrd
      have h0 := opAt_of_ready hrd'
      obtain ⟨v, hy, hK⟩ := yieldsIf_of_quiet hp h
      have H := run_seg hsel hQ hwt hdone hS q _ _ (inv.set hrd' hin) hr hL hK
      rw [List.length_cons, show q.length + 1 + f = (q.length + f) + 1 by omega]
      exact anyX_first h0 (Region.noSelect_spec hsel) (fun c a w => hQ i c a v w) hwt hin hdone _ listed a w inv (Region.free_spec h0 hfr) hrd' hy hS H
    · cases hr

theorem run_segs {n : Nat} {tail : List Oper} {last : List Nat} (hsel : Region.noSelect ops = true)
    (hQ : ∀ i c (a : Act) v w, Q (.panic c) (a.put (opAt ops i).dst v) w → Q (.panic c) a w) (hwt : Waits md ops n) :
    ∀ (segs : List (List Nat × Nat)) (listed : Array Bool) (a : Act) (w : World), HeadInv md ops n listed → okSegs md ops n segs last listed = true → S w →
      wpSegs P ops Q S tail (last.map (opAt ops)) (segs.map fun (q, j) => (q.map (opAt ops), opAt ops j)) a w →
      anyX P md ops Q S n (fun listed' a' w' => Region.seqB md ops (ops.size - n) n listed' = true ∧ wpList P ops Q tail a' w') (headLen segs last) listed a w
  | [], listed, a, w, inv, hok, hS, h => by
    unfold okSegs at hok
    split at hok
    · rename_i l' hr
      have := run_seg (E := fun listed' a' w' => Region.seqB md ops (ops.size - n) n listed' = true ∧ wpList P ops Q tail a' w') (f := 0) hsel hQ hwt
        (fun listed a w hE => seqB_ready hE.1) hS last listed a inv hr (fun a' _ hL => ⟨hok, hL⟩) h
      simpa [headLen] using this
    · cases hok
  | (q, j) :: r, listed, a, w, inv, hok, hS, h => by
    unfold okSegs at hok
    split at hok
    · rename_i l' hr
      simp only [Bool.and_eq_true, decide_eq_true_eq] at hok
      obtain ⟨⟨hrd, hj⟩, hok'⟩ := hok
      have hjr : j ∈ Region.ready md ops l' := by rw [hrd]; simp
      have h0 := opAt_of_ready hjr
      refine run_seg (f := headLen r last + 1) hsel hQ hwt (fun listed a w hE => seqB_ready hE.1) hS q listed a inv hr (fun a' inv' hL => ?_) h
      refine anyX_all hrd hj ?_
      unfold wpOp
      simp only [h0]
      have hL' := hL (fun a'' w'' => S w'' ∧ anyX P md ops Q S n (fun listed' a' w' => Region.seqB md ops (ops.size - n) n listed' = true ∧ wpList P ops Q tail a' w') (headLen r last) (l'.setIfInBounds j true) a'' w'')
        (fun a'' w'' hS'' hW => ⟨hS'', run_segs hsel hQ hwt r _ a'' w'' (inv'.set hjr hj) hok' hS'' hW⟩)
      split
      · rename_i hw; rw [if_pos hw] at hL'; exact .inl hL'
      · rename_i hw; rw [if_neg hw] at hL'; exact hL'
    · cases hok

/-- **A REGION THAT DRAWS, BY A SCHEDULE**: 'segs': quiet operations, then one that must come up alone; 'last': quiet operations; the operations from n on: the tail, in their order. -/
theorem wp_region_segs {id : Nat} {a : Act} {w : World} {l : List Oper} (S : World → Prop) (segs : List (List Nat × Nat)) (last : List Nat) (n : Nat)
    (hm : P.follows .mixedOrders = true) (hB : segsB l.toArray n segs last = true)
    (hQ : ∀ c (a : Act) d v w, Q (.panic c) (a.put d v) w → Q (.panic c) a w) (hS : S w.drew)
    (h : wpSegs P l.toArray Q S (l.drop n) (last.map (opAt l.toArray)) (segs.map fun (q, j) => (q.map (opAt l.toArray), opAt l.toArray j)) a w.drew) :
    (Code.region id l.toArray true).wp P Q a w := by
  simp only [segsB, Bool.and_eq_true, Bool.or_eq_true, decide_eq_true_eq] at hB
  obtain ⟨⟨⟨⟨hsel, hn⟩, hw⟩, hok⟩, hlen⟩ := hB
  have hn' : n ≤ l.length := by simpa using hn
  have hwt : Waits .any l.toArray n := fun hlt => by
    rcases hw with hw | hw
    · omega
    · exact hw
  have inv0 : HeadInv .any l.toArray n (Array.replicate l.toArray.size false) :=
    ⟨by simp, fun j oj _ hl => (by rw [getD_replicate_false] at hl; cases hl), fun t _ ht => getD_in (by simpa using ht) (getD_replicate_false _ _)⟩
  have H := run_segs (tail := l.drop n) (md := .any) hsel (fun i c a v w => hQ c a _ v w) hwt segs _ a _ inv0 hok hS h
  refine wp_region_any hm ?_
  have hdl : (l.drop n).length = l.toArray.size - n := by simp
  have := wpAny_of_anyX (Q := Q) (g := l.toArray.size - n) (fun listed a' w' hE => by
    have := wpAny_of_seq (md := .any) (Q' := Q) (l.drop n) n listed a' w' (fun j => by simp [List.getElem?_drop]) (by rw [hdl]; exact hE.1) hE.2
    rwa [hdl] at this) _ _ _ _ H
  rw [hlen, show n + (l.toArray.size - n) = l.toArray.size by simp; omega] at this
  exact this
end
end Seg
end Go
