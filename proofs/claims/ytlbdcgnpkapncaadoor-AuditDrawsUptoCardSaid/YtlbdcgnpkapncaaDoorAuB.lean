/-
  Chapter 14: a watch under way, in memory; what Begin tells, in plain Lean.
-/
import Derived.Test.YtlbdcgnpkapncaaDoorAuK
namespace Go.Proofs.YtlbdcgnpkapncaaDoor
set_option linter.unusedVariables false
set_option linter.unusedSimpArgs false
open Go.RowKit ML FM AU

namespace AU
/-- two slices that do not own one block -/
def Apart (v v' : Value) : Prop := v.ownBlock = none ∨ v.ownBlock ≠ v'.ownBlock
theorem Apart.symm {v v' : Value} (h : Apart v v') : Apart v' v := by
  rcases h with h | h
  · cases h2 : v'.ownBlock with
    | none => exact .inl h2
    | some k => right; rw [h, h2]; simp
  · exact .inr h.symm
theorem apart_types {w : World} {b b' : Nat} {e e' : TypeId} {s s' n n' : Nat} {v v' : Value} {xs xs' : List Value} (h : w.ownsRow b e s v n xs) (h' : w.ownsRow b' e' s' v' n' xs') (hne : e ≠ e') : Apart v v' := by
  rcases h'.2 with ⟨rfl, _⟩ | ⟨g, cap, cur, rfl, _, hg, _⟩
  · cases hv : v.ownBlock with
    | none => exact .inl hv
    | some k => exact .inr (by rw [hv]; simp [Value.ownBlock])
  · exact .inr (by simpa [Value.ownBlock] using own_ne h hg hne)
theorem apart_new {w : World} {b : Nat} {e : TypeId} {s n : Nat} {v v0 v1 : Value} {xs : List Value} {g : Nat} (hv1 : v1.ownBlock = some g) (h : w.ownsRow b e s v n xs) (ha : Apart v0 v) (hf : v0.ownBlock = some g ∨ g = w.heap.size) : Apart v1 v := by
  right
  rcases hf with hf | hf
  · rw [hv1, ← hf]
    rcases ha with h0 | h0
    · rw [h0] at hf; cases hf
    · exact h0
  · rw [hv1, hf]
    intro he
    have := (h.lt _ he.symm).2
    omega
/-- a watch that is put together: its block X, its lists -/
structure Bld (X : Nat) (w0 w : World) (U : Array Value) (v0 v1 v2 v3 : Value) (A B : List Int) (S O : List (Bytes × Bytes)) : Prop where
  bel : Below X w0 w
  size : X + 1 ≤ w.heap.size
  row : w.heap[X]? = some (.cells U 27 (0, 0))
  own0 : w.ownsRow (X + 1) 3 1 v0 A.length (ivals A)
  own1 : w.ownsRow (X + 1) 3 1 v1 B.length (ivals B)
  own2 : w.ownsRow (X + 1) 24 2 v2 S.length (fvals S)
  own3 : w.ownsRow (X + 1) 24 2 v3 O.length (fvals O)
  d01 : Apart v0 v1
  d23 : Apart v2 v3
namespace Bld
variable {X : Nat} {w0 w w1 : World} {U : Array Value} {v0 v1 v2 v3 : Value} {A B : List Int} {S O : List (Bytes × Bytes)}
theorem below (h : Bld X w0 w U v0 v1 v2 v3 A B S O) (hb : Below w.heap.size w w1) : Bld X w0 w1 U v0 v1 v2 v3 A B S O :=
  ⟨h.bel.trans (hb.mono (by have := h.size; omega)), Nat.le_trans h.size hb.size, bel_keep hb (lt_of_heap h.row) h.row, own_below h.own0 hb, own_below h.own1 hb, own_below h.own2 hb, own_below h.own3 hb, h.d01, h.d23⟩
theorem belX (h : Bld X w0 w U v0 v1 v2 v3 A B S O) (hg : w.grownBy w1 v0.ownBlock) : True := trivial
theorem app0 (h : Bld X w0 w U v0 v1 v2 v3 A B S O) {x : Int} {g n c : Nat} (hn : n = A.length + 1) (own : w1.ownsRow (X + 1) 3 1 (.slice (some ⟨g, 0, none⟩) n c) n (ivals A ++ ivals [x])) (hg : w.grownBy w1 v0.ownBlock) (hf : v0.ownBlock = some g ∨ g = w.heap.size) :
    Bld X w0 w1 U (.slice (some ⟨g, 0, none⟩) n c) v1 v2 v3 (A ++ [x]) B S O := by
  refine ⟨h.bel.grown hg (by have := h.size; omega) (fun q hq => by have := (h.own0.lt q hq).1; omega), Nat.le_trans h.size hg.size, grown_keep hg (fun he => by have := (h.own0.lt _ he).1; omega) h.row,
    by rw [← ivals_append, List.length_append, List.length_singleton, ← hn]; exact own, h.own1.kept hg h.d01.symm, h.own2.kept hg (apart_types h.own2 h.own0 (by decide)), h.own3.kept hg (apart_types h.own3 h.own0 (by decide)), apart_new (v0 := v0) rfl h.own1 h.d01 hf, h.d23⟩
theorem app1 (h : Bld X w0 w U v0 v1 v2 v3 A B S O) {x : Int} {g n c : Nat} (hn : n = B.length + 1) (own : w1.ownsRow (X + 1) 3 1 (.slice (some ⟨g, 0, none⟩) n c) n (ivals B ++ ivals [x])) (hg : w.grownBy w1 v1.ownBlock) (hf : v1.ownBlock = some g ∨ g = w.heap.size) :
    Bld X w0 w1 U v0 (.slice (some ⟨g, 0, none⟩) n c) v2 v3 A (B ++ [x]) S O := by
  refine ⟨h.bel.grown hg (by have := h.size; omega) (fun q hq => by have := (h.own1.lt q hq).1; omega), Nat.le_trans h.size hg.size, grown_keep hg (fun he => by have := (h.own1.lt _ he).1; omega) h.row,
    h.own0.kept hg h.d01, by rw [← ivals_append, List.length_append, List.length_singleton, ← hn]; exact own, h.own2.kept hg (apart_types h.own2 h.own1 (by decide)), h.own3.kept hg (apart_types h.own3 h.own1 (by decide)), (apart_new (v0 := v1) rfl h.own0 h.d01.symm hf).symm, h.d23⟩
theorem app2 (h : Bld X w0 w U v0 v1 v2 v3 A B S O) {x : Bytes × Bytes} {g n c : Nat} (hn : n = S.length + 1) (own : w1.ownsRow (X + 1) 24 2 (.slice (some ⟨g, 0, none⟩) n c) n (fvals S ++ fvals [x])) (hg : w.grownBy w1 v2.ownBlock) (hf : v2.ownBlock = some g ∨ g = w.heap.size) :
    Bld X w0 w1 U v0 v1 (.slice (some ⟨g, 0, none⟩) n c) v3 A B (S ++ [x]) O := by
  refine ⟨h.bel.grown hg (by have := h.size; omega) (fun q hq => by have := (h.own2.lt q hq).1; omega), Nat.le_trans h.size hg.size, grown_keep hg (fun he => by have := (h.own2.lt _ he).1; omega) h.row,
    h.own0.kept hg (apart_types h.own0 h.own2 (by decide)), h.own1.kept hg (apart_types h.own1 h.own2 (by decide)), by rw [← fvals_append, List.length_append, List.length_singleton, ← hn]; exact own, h.own3.kept hg h.d23.symm, h.d01, apart_new (v0 := v2) rfl h.own3 h.d23 hf⟩
theorem app3 (h : Bld X w0 w U v0 v1 v2 v3 A B S O) {x : Bytes × Bytes} {g n c : Nat} (hn : n = O.length + 1) (own : w1.ownsRow (X + 1) 24 2 (.slice (some ⟨g, 0, none⟩) n c) n (fvals O ++ fvals [x])) (hg : w.grownBy w1 v3.ownBlock) (hf : v3.ownBlock = some g ∨ g = w.heap.size) :
    Bld X w0 w1 U v0 v1 v2 (.slice (some ⟨g, 0, none⟩) n c) A B S (O ++ [x]) := by
  refine ⟨h.bel.grown hg (by have := h.size; omega) (fun q hq => by have := (h.own3.lt q hq).1; omega), Nat.le_trans h.size hg.size, grown_keep hg (fun he => by have := (h.own3.lt _ he).1; omega) h.row,
    h.own0.kept hg (apart_types h.own0 h.own3 (by decide)), h.own1.kept hg (apart_types h.own1 h.own3 (by decide)), h.own2.kept hg h.d23, by rw [← fvals_append, List.length_append, List.length_singleton, ← hn]; exact own, h.d01, (apart_new (v0 := v3) rfl h.own2 h.d23.symm hf).symm⟩
theorem set (h : Bld X w0 w U v0 v1 v2 v3 A B S O) (ho : Only X w w1) {U' : Array Value} (hr : w1.heap[X]? = some (.cells U' 27 (0, 0))) : Bld X w0 w1 U' v0 v1 v2 v3 A B S O := by
  have hg : w.grownBy w1 (some X) := grown_only ho
  have k : ∀ {e : TypeId} {s n : Nat} {v : Value} {xs : List Value}, w.ownsRow (X + 1) e s v n xs → v.ownBlock = none ∨ v.ownBlock ≠ some X := fun hw => .inr (fun he => by have := (hw.lt _ he).1; omega)
  exact ⟨bel_only h.bel ho (Nat.le_refl _), Nat.le_trans h.size hg.size, hr, h.own0.kept hg (k h.own0), h.own1.kept hg (k h.own1), h.own2.kept hg (k h.own2), h.own3.kept hg (k h.own3), h.d01, h.d23⟩
theorem setAt (h : Bld X w0 w U v0 v1 v2 v3 A B S O) (i : Nat) (v : Value) : Bld X w0 (w.setCell ⟨X, i, none⟩ v) (U.setIfInBounds i v) v0 v1 v2 v3 A B S O :=
  h.set ((Only.refl X w).setCell _ _) (heap_setCell_same w X i _ _ _ h.row)
end Bld
/-! ### what Begin tells -/
def wOK (n : Nat) (W : List Int) (k : Nat) : Prop := ∀ j (h : j < W.length), j < k → 0 ≤ W[j] ∧ W[j] < n ∧ W[j] ∉ W.take j
theorem wOK_succ {n k : Nat} {W : List Int} (h : wOK n W k) (hk : k < W.length) (h1 : 0 ≤ W[k]) (h2 : W[k] < n) (h3 : W[k] ∉ W.take k) : wOK n W (k + 1) := fun j hj hlt => by
  rcases Nat.lt_or_eq_of_le (Nat.le_of_lt_succ hlt) with h4 | h4
  · exact h j hj h4
  · subst h4; exact ⟨h1, h2, h3⟩
def rowP (W : List Int) (i : Int) (k : Nat) : List (Int × Int) := ((List.range k).filter (fun (x : Nat) => decide ((x : Int) ∉ W))).map (fun (x : Nat) => (i, (x : Int)))
theorem rowP_in {W : List Int} {i : Int} {k : Nat} (h : (k : Int) ∈ W) : rowP W i (k + 1) = rowP W i k := by
  unfold rowP; rw [List.range_succ, List.filter_append]; simp [h]
theorem rowP_out {W : List Int} {i : Int} {k : Nat} (h : (k : Int) ∉ W) : rowP W i (k + 1) = rowP W i k ++ [(i, (k : Int))] := by
  unfold rowP; rw [List.range_succ, List.filter_append]; simp [h]
def preP (W : List Int) (n a : Nat) : List (Int × Int) := (W.take a).flatMap (fun i => rowP W i n)
theorem preP_succ {W : List Int} {n a : Nat} (h : a < W.length) : preP W n (a + 1) = preP W n a ++ rowP W W[a] n := by
  unfold preP; rw [List.take_succ_eq_append_getElem h, List.flatMap_append]; simp
def tied (T : List Int) (p : Int × Int) : Bool := decide (T.getD p.1.toNat 0 ≤ T.getD p.2.toNat 0)
instance (n : Nat) (W : List Int) (k : Nat) : Decidable (wOK n W k) := by unfold wOK; infer_instance
def begE (T W : List Int) (N D : Bytes) : Int :=
  if T.length < 2 ∨ 12 < T.length ∨ W.length < 1 ∨ T.length ≤ W.length then 2
  else if ¬ wOK T.length W W.length then 2
  else if T.any badT = true then 4
  else if riskE N D ≠ 0 then riskE N D
  else if (preP W T.length W.length).any (tied T) = true then 14 else 0
def begP (T W : List Int) (N D : Bytes) : List (Int × Int) := if begE T W N D = 0 then preP W T.length W.length else []
def shareOf (T : List Int) (p : Int × Int) : Bytes × Bytes :=
  let x := (T.getD p.1.toNat 0).toNat
  let y := (T.getD p.2.toNat 0).toNat
  (strD (x / Nat.gcd x (x + y)), strD ((x + y) / Nat.gcd x (x + y)))
def wholeT : Bytes × Bytes := (strD 1, strD 1)
/-- a watch as an answer -/
def WGot (A B : List Int) (S O : List (Bytes × Bytes)) (N D : Bytes) (E : Int) (w : World) (e : Ending) (w' : World) : Prop :=
  ∃ o0 o1 o2 o3 c0 c1 c2 c3, e = .returned (.tuple #[.agg #[.slice o0 A.length c0, .slice o1 B.length c1, .slice o2 S.length c2, .slice o3 O.length c3, .string ⟨N.toArray⟩, .string ⟨D.toArray⟩, .int .i64 0], .int .i64 E]) ∧
    IsAt w' o0 A ∧ IsAt w' o1 B ∧ FsAt w' o2 S ∧ FsAt w' o3 O ∧ Below w.heap.size w w'
def BegGot (T W : List Int) (N D : Bytes) (w : World) : Ending → World → Prop :=
  WGot ((begP T W N D).map (·.1)) ((begP T W N D).map (·.2)) ((begP T W N D).map (shareOf T)) ((begP T W N D).map (fun _ => wholeT)) (if begE T W N D = 0 then N else []) (if begE T W N D = 0 then D else []) (begE T W N D) w
theorem IsAt.nil {w : World} : IsAt w none [] := ⟨fun i hi => by simp at hi⟩
theorem FsAt.nil {w : World} : FsAt w none [] := ⟨fun i hi => by simp at hi⟩
theorem begGot_bad {T W : List Int} {N D : Bytes} {w w' : World} {E : Int} {e : Ending} (hE : begE T W N D = E) (h0 : E ≠ 0) (he : e = .returned (.tuple #[.agg #[.slice none 0 0, .slice none 0 0, .slice none 0 0, .slice none 0 0, .string ⟨#[]⟩, .string ⟨#[]⟩, .int .i64 0], .int .i64 E])) (hb : Below w.heap.size w w') : BegGot T W N D w e w' := by
  unfold BegGot begP
  rw [hE, if_neg h0, if_neg h0, if_neg h0]
  exact ⟨none, none, none, none, 0, 0, 0, 0, he, IsAt.nil, IsAt.nil, FsAt.nil, FsAt.nil, hb⟩
end AU
open AU
theorem size_watch : (Tryd.prog.info? 27).map (·.size) = some 7 := by kernel_rfl
theorem seven_one (v0 v1 v2 v3 a b c : Value) (h0 : v0.oneCell' = true) (h1 : v1.oneCell' = true) (h2 : v2.oneCell' = true) (h3 : v3.oneCell' = true) (h4 : a.oneCell' = true) (h5 : b.oneCell' = true) (h6 : c.oneCell' = true) : (#[v0, v1, v2, v3, a, b, c] : Array Value).all (·.oneCell') = true := by simp [h0, h1, h2, h3, h4, h5, h6]
theorem wpQuiet_load_one {P : Program} {ops : Array Oper} {rest : List Oper} {o : Oper} {a : Act} {S : World → Prop} {K : Act → Prop} (hw : Region.wanted o (yielded ops a.tmps) = true) (ty : TypeId) (y : Operand) (ho : o.op = .load ty y) (p : Addr) (v : Value) (d : TypeDesc)
    (hx : a.eval y = .pointer (some p)) (hb : ∀ w', S w' → w'.cell? p = some v) (hu : P.underlying ty = some d) (hd : d.isRow = false) (h : wpQuiet P ops S K rest (a.put o.dst v)) :
    wpQuiet P ops S K (o :: rest) a := by
  unfold wpQuiet
  rw [if_pos hw]
  refine ⟨v, fun w' hw' => ?_, h⟩
  have hagg : (isAgg ty).run P w' = .ok false w' := by
    unfold isAgg
    rw [Sem.run_bind, run_underlying hu w']
    cases d <;> simp_all
  have hr : (loadVar ty p).run P w' = .ok v w' := by simp [loadVar, Sem.run_bind, hagg, hb w' hw']
  unfold Oper.quietAt execOp
  simp only [ho, hx, Instr.loadAt, Instr.sureAddr, Sem.run_bind, Sem.run_pure, Result.andThen_ok, hr]
  exact ⟨rfl, rfl⟩
namespace AU
theorem length_rowP (W : List Int) (i : Int) (k : Nat) : (rowP W i k).length ≤ k := by
  unfold rowP
  rw [List.length_map]
  exact Nat.le_trans (List.length_filter_le _ _) (by simp)
theorem length_preP (W : List Int) (n a : Nat) : (preP W n a).length ≤ a * n := by
  induction a with
  | zero => simp [preP]
  | succ a ih =>
    by_cases h : a < W.length
    · rw [preP_succ h, List.length_append, Nat.add_mul, Nat.one_mul]
      have := length_rowP W W[a] n
      omega
    · have : preP W n (a + 1) = preP W n a := by unfold preP; rw [List.take_of_length_le (by omega), List.take_of_length_le (by omega)]
      rw [this, Nat.add_mul]
      omega
theorem mem_rowP {W : List Int} {i : Int} {n k : Nat} (hk : k < n) (h : (k : Int) ∉ W) : (i, (k : Int)) ∈ rowP W i n := by
  unfold rowP
  rw [List.mem_map]
  exact ⟨k, by simp [List.mem_filter, hk, h], rfl⟩
theorem mem_preP {W : List Int} {n k a : Nat} (ha : a < W.length) (hk : k < n) (h : (k : Int) ∉ W) : (W[a], (k : Int)) ∈ preP W n W.length := by
  unfold preP
  rw [List.take_length, List.mem_flatMap]
  exact ⟨W[a], List.getElem_mem ha, mem_rowP hk h⟩
theorem tied_some {T W : List Int} {n k a : Nat} (ha : a < W.length) (hk : k < n) (h : (k : Int) ∉ W) (ht : tied T (W[a], (k : Int)) = true) : (preP W n W.length).any (tied T) = true := by
  rw [List.any_eq_true]
  exact ⟨_, mem_preP ha hk h, ht⟩
/-- a watch of these pairs -/
def BW (X : Nat) (w0 w : World) (T : List Int) (N D : Bytes) (v0 v1 v2 v3 : Value) (P : List (Int × Int)) : Prop :=
  Bld X w0 w #[v0, v1, v2, v3, .string ⟨N.toArray⟩, .string ⟨D.toArray⟩, .int .i64 0] v0 v1 v2 v3 (P.map (·.1)) (P.map (·.2)) (P.map (shareOf T)) (P.map (fun _ => wholeT))
theorem isAt_own2 {w : World} {base : Nat} {e : TypeId} {oa : Option Addr} {m cap n : Nat} {L : List Int} (h : w.ownsRow base e 1 (.slice oa m cap) n (ivals L)) : IsAt w oa L := by
  obtain ⟨oa', cap', hv, _, hi⟩ := isAt_own h
  injection hv with h1 h2 h3
  rw [h1]; exact hi
theorem fsAt_own2 {w : World} {base : Nat} {e : TypeId} {oa : Option Addr} {m cap n : Nat} {F : List (Bytes × Bytes)} (h : w.ownsRow base e 2 (.slice oa m cap) n (fvals F)) : FsAt w oa F := by
  obtain ⟨oa', cap', hv, _, hi⟩ := fsAt_own h
  injection hv with h1 h2 h3
  rw [h1]; exact hi
theorem own_spare {w w1 : World} {base b : Nat} {e : TypeId} {s : Nat} {v : Value} {n : Nat} {xs : List Value} (h : w.ownsRow base e s v n xs) (ho : Only b w w1) (hb : b < base) : w1.ownsRow base e s v n xs := h.kept (grown_only ho) (.inr (fun he => by have := (h.lt _ he).1; omega))
end AU
theorem info_frac : (Tryd.prog.info? 24).map (fun i => (i.zero, i.size, i.bytes)) = some (some (.agg #[.string ⟨#[]⟩, .string ⟨#[]⟩]), 2, 32) := by kernel_rfl
theorem info_i64 : (Tryd.prog.info? 3).map (fun i => (i.zero, i.size, i.bytes)) = some (some (.int .i64 0), 1, 8) := by kernel_rfl
end Go.Proofs.YtlbdcgnpkapncaaDoor
