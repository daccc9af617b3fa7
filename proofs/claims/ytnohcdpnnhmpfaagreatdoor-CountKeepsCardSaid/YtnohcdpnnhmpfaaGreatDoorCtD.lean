/-
  Chapter 13: a contest in memory; count.draw. Printed by tools/gendrw.py.
-/
import Derived.Test.YtnohcdpnnhmpfaaGreatDoorCtC
import Derived.Test.YtnohcdpnnhmpfaaGreatDoorPlan
namespace Go.Proofs.YtnohcdpnnhmpfaaGreatDoor
set_option linter.unusedVariables false
set_option linter.unusedSimpArgs false
open Go.RowKit ML FM AU CT

/-- a contest -/
structure CTest where
  nm : Bytes
  op : List Bytes
  rl : Int
  se : Int
  mo : Int
def CTest.cells (c : CTest) (oa : Option Addr) (cap : Nat) : List Value := [.string ⟨c.nm.toArray⟩, .slice oa c.op.length cap, .int .i64 c.rl, .int .i64 c.se, .int .i64 c.mo]
def wrongC (c : CTest) : Bool := decide (c.op.length < 1 ∨ 12 < c.op.length ∨ c.rl < 1 ∨ 4 < c.rl ∨ c.se < 1 ∨ (c.op.length : Int) < c.se)
def lotT : Bytes := [108, 111, 116]
def lotN (c : CTest) (lots : Bytes) (k : Nat) : Bytes := digestL [] (joinL lotT [lots, c.nm, c.op.getD k []])
def lotF (c : CTest) (lots : Bytes) (i : Int) : Bytes := lotN c lots i.toNat
/-- texts that are not too long -/
structure CTest.Fits (c : CTest) (lots : Bytes) : Prop where
  nm : c.nm.length < 1152921504606846976
  op : ∀ o ∈ c.op, o.length < 1152921504606846976
  lots : lots.length < 1152921504606846976
theorem CTest.Fits.join {c : CTest} {lots : Bytes} (h : c.Fits lots) (k : Nat) (hk : k < c.op.length) : (joinL lotT [lots, c.nm, c.op.getD k []]).length < 4611686018427387904 := by
  have h1 := h.nm
  have h2 := h.lots
  have h3 : (c.op.getD k []).length < 1152921504606846976 := h.op _ (by rw [List.getD_eq_getElem?_getD, List.getElem?_eq_getElem hk]; exact List.getElem_mem hk)
  generalize c.op.getD k [] = o at *
  simp only [joinL, List.flatMap_cons, List.flatMap_nil, List.length_append, fourN, List.length_cons, List.length_nil, lotT]
  omega
def svals (L : List Bytes) : List Value := L.map fun s => Value.string ⟨s.toArray⟩
theorem svals_append (A B : List Bytes) : svals A ++ svals B = svals (A ++ B) := by simp [svals]
theorem svals_one (L : List Bytes) : ∀ v ∈ svals L, v.oneCell' = true := by
  intro v hv; simp only [svals, List.mem_map] at hv; obtain ⟨x, _, rfl⟩ := hv; rfl
theorem strsAt_own {w : World} {base : Nat} {e : TypeId} {v : Value} {n : Nat} {L : List Bytes} (h : w.ownsRow base e 1 v n (svals L)) : ∃ oa cap, v = .slice oa L.length cap ∧ StrsAt w oa L := by
  have hl : L.length = n := by have := h.1; simp [svals] at this; omega
  rcases h.2 with ⟨hv, h0⟩ | ⟨g, cap, cur, hv, hb, hg, hnc, _, hc, ht⟩
  · have : L = [] := List.length_eq_zero_iff.1 (by omega)
    subst this
    exact ⟨none, 0, hv, ⟨fun i hi => by simp at hi⟩⟩
  · refine ⟨some ⟨g, 0, none⟩, cap, by rw [hl]; exact hv, ⟨fun i hi => ⟨_, rfl, lt_of_heap hg, ?_⟩⟩⟩
    exact h.cells (g := g) (by rw [hv]; rfl) i (.string ⟨L[i].toArray⟩) (by simp [svals, hi])
theorem own_only {w w1 : World} {base b : Nat} {e : TypeId} {s : Nat} {v : Value} {n : Nat} {xs : List Value} (h : w.ownsRow base e s v n xs) (ho : Only b w w1) (hne : v.ownBlock ≠ some b) : w1.ownsRow base e s v n xs := h.kept (grown_only ho) (.inr hne)
theorem wpQuiet_build {P : Program} {ops : Array Oper} {rest : List Oper} {o : Oper} {a : Act} {S : World → Prop} {K : Act → Prop} (hw : Region.wanted o (yielded ops a.tmps) = true) (t : TypeId) (parts : Array (Nat × Operand)) (ho : o.op = .build t parts) (l : List (Nat × Value)) (hp : (parts.map fun (i, x) => (i, a.eval x)).toList = l) (cells : Array Value) (hf : P.built t l = some cells)
    (h : wpQuiet P ops S K rest (a.put o.dst (.agg cells))) : wpQuiet P ops S K (o :: rest) a := by
  unfold wpQuiet
  rw [if_pos hw]
  refine ⟨.agg cells, fun w' _ => ?_, h⟩
  have hr := run_build (P := P) w' t (parts.map fun (i, x) => (i, a.eval x)) cells (by rw [hp]; exact hf)
  unfold Oper.quietAt execOp
  simp only [ho, Sem.run_bind, hr, Result.andThen_ok]
  exact ⟨rfl, rfl⟩
theorem built_drawn (nm : ByteArray) (oa : Option Addr) (n cap : Nat) (r s m : Int) (V N : Nat) : Tryz.prog.built 62 [(0, .agg #[.string nm, .slice oa n cap, .int .i64 r, .int .i64 s, .int .i64 m]), (2, .slice (some ⟨V, 0, none⟩) N N)] = some #[.string nm, .slice oa n cap, .int .i64 r, .int .i64 s, .int .i64 m, .slice none 0 0, .slice (some ⟨V, 0, none⟩) N N] := by kernel_rfl
theorem own_zero {w : World} {base : Nat} {e : TypeId} {v : Value} (n : Nat) (h : w.ownsRow base e 1 v n (madeCells (Value.int .i64 0).cells (n * 1)).toList) : w.ownsRow base e 1 v n (List.replicate n (.int .i64 0)) := by
  have e2 : (madeCells (Value.int .i64 0).cells (n * 1)).toList = List.replicate n (.int .i64 0) := by rw [Nat.mul_one]; exact toList_madeCells_one _ _
  rwa [e2] at h
theorem own_kept {w w1 : World} {base b : Nat} {e e' : TypeId} {s : Nat} {v : Value} {n : Nat} {xs : List Value} {cs : Array Value} {fr : Nat × Nat} (h : w.ownsRow base e s v n xs) (hb : w.heap[b]? = some (.cells cs e' fr)) (hne : e ≠ e') (ho : Only b w w1) : w1.ownsRow base e s v n xs := own_only h ho (own_ne h hb hne)
theorem info_str : (Tryz.prog.info? 9).map (fun i => (i.zero, i.size, i.bytes)) = some (some (.string ⟨#[]⟩), 1, 16) := by kernel_rfl
theorem size_drawn : (Tryz.prog.info? 62).map (·.size) = some 7 := by kernel_rfl
theorem size_contest : (Tryz.prog.info? 24).map (·.size) = some 5 := by kernel_rfl
/-- what draw makes, under way: d's block D, the variable of the lots L -/
structure Drw (B D L : Nat) (w0 w : World) (r5 z7 : List Value) (vo vp vl : Value) (O P : List Int) (Ls : List Bytes) : Prop where
  box : BoxR B w0 w r5.toArray z7.toArray 24 62
  lt : B + 1 < D
  row : w.heap[D]? = some (.cells (r5 ++ [vo, vp]).toArray 62 (0, 0))
  lot : w.heap[L]? = some (.cells #[vl] 22 (0, 0))
  ltL : B + 1 < L
  own0 : w.ownsRow (B + 2) 3 1 vo O.length (ivals O)
  own1 : w.ownsRow (B + 2) 3 1 vp P.length (ivals P)
  own2 : w.ownsRow (B + 2) 9 1 vl Ls.length (svals Ls)
  ap : Apart vo vp
namespace Drw
variable {B D L : Nat} {w0 w w1 w2 : World} {r5 z7 : List Value} {vo vp vl : Value} {O P : List Int} {Ls : List Bytes}
theorem size (h : Drw B D L w0 w r5 z7 vo vp vl O P Ls) : B + 2 ≤ w.heap.size := by have := lt_of_heap h.box.z; omega
theorem below (h : Drw B D L w0 w r5 z7 vo vp vl O P Ls) (hb : Below w.heap.size w w1) : Drw B D L w0 w1 r5 z7 vo vp vl O P Ls :=
  ⟨h.box.keep (by have := h.size; omega) hb, h.lt, bel_keep hb (lt_of_heap h.row) h.row, bel_keep hb (lt_of_heap h.lot) h.lot, h.ltL, own_below h.own0 hb, own_below h.own1 hb, own_below h.own2 hb, h.ap⟩
/-- one more in the order, stored -/
theorem appO (h : Drw B D L w0 w r5 z7 vo vp vl O P Ls) {x : Int} {g n c : Nat} (hn : n = O.length + 1) (own : w1.ownsRow (B + 2) 3 1 (.slice (some ⟨g, 0, none⟩) n c) n (ivals O ++ ivals [x])) (hg : w.grownBy w1 vo.ownBlock) (hf : vo.ownBlock = some g ∨ g = w.heap.size)
    (ho : Only D w1 w2) (hr : w2.heap[D]? = some (.cells (r5 ++ [.slice (some ⟨g, 0, none⟩) n c, vp]).toArray 62 (0, 0))) : Drw B D L w0 w2 r5 z7 (.slice (some ⟨g, 0, none⟩) n c) vp vl (O ++ [x]) P Ls := by
  have hne : ∀ k, vo.ownBlock = some k → B + 2 ≤ k := fun k hk => (h.own0.lt k hk).1
  have hs := h.size
  have hD : vo.ownBlock ≠ some D := own_ne h.own0 h.row (by decide)
  have hL : vo.ownBlock ≠ some L := own_ne h.own0 h.lot (by decide)
  have bx1 : BoxR B w0 w1 r5.toArray z7.toArray 24 62 := ⟨h.box.bel.grown hg (by omega) (fun k hk => by have := hne k hk; omega), grown_keep hg (fun e => by have := hne _ e; omega) h.box.x, grown_keep hg (fun e => by have := hne _ e; omega) h.box.z⟩
  have row1 := grown_keep hg hD h.row
  have lot1 := grown_keep hg hL h.lot
  have own1 := h.own1.kept hg h.ap.symm
  have own2 := h.own2.kept hg (apart_types h.own2 h.own0 (by decide))
  have hLD : L ≠ D := fun e => by
    have h1 := h.row
    have h2 := h.lot
    rw [e, h1] at h2
    injection h2 with h2; injection h2 with _ h2; exact absurd h2 (by decide)
  have hlt := h.lt
  refine ⟨⟨bel_only bx1.bel ho (by omega), (ho.block B (by omega)).trans bx1.x, (ho.block (B + 1) (by omega)).trans bx1.z⟩, h.lt, hr, (ho.block L hLD).trans lot1, h.ltL, ?_, own_only own1 ho (own_ne own1 row1 (by decide)), own_only own2 ho (own_ne own2 row1 (by decide)), apart_new (v0 := vo) rfl h.own1 h.ap hf⟩
  rw [← ivals_append, List.length_append, List.length_singleton, ← hn]
  exact own_only own ho (own_ne own row1 (by decide))
/-- one more lot, stored -/
theorem appL (h : Drw B D L w0 w r5 z7 vo vp vl O P Ls) {x : Bytes} {g n c : Nat} (hn : n = Ls.length + 1) (own : w1.ownsRow (B + 2) 9 1 (.slice (some ⟨g, 0, none⟩) n c) n (svals Ls ++ svals [x])) (hg : w.grownBy w1 vl.ownBlock)
    (ho : Only L w1 w2) (hr : w2.heap[L]? = some (.cells #[.slice (some ⟨g, 0, none⟩) n c] 22 (0, 0))) : Drw B D L w0 w2 r5 z7 vo vp (.slice (some ⟨g, 0, none⟩) n c) O P (Ls ++ [x]) := by
  have hne : ∀ k, vl.ownBlock = some k → B + 2 ≤ k := fun k hk => (h.own2.lt k hk).1
  have hs := h.size
  have hD : vl.ownBlock ≠ some D := own_ne h.own2 h.row (by decide)
  have hL : vl.ownBlock ≠ some L := own_ne h.own2 h.lot (by decide)
  have bx1 : BoxR B w0 w1 r5.toArray z7.toArray 24 62 := ⟨h.box.bel.grown hg (by omega) (fun k hk => by have := hne k hk; omega), grown_keep hg (fun e => by have := hne _ e; omega) h.box.x, grown_keep hg (fun e => by have := hne _ e; omega) h.box.z⟩
  have row1 := grown_keep hg hD h.row
  have lot1 := grown_keep hg hL h.lot
  have own0 := h.own0.kept hg (apart_types h.own0 h.own2 (by decide))
  have own1 := h.own1.kept hg (apart_types h.own1 h.own2 (by decide))
  have hLD : D ≠ L := fun e => by
    have h1 := h.row
    have h2 := h.lot
    rw [← e, h1] at h2
    injection h2 with h2; injection h2 with _ h2; exact absurd h2 (by decide)
  have hlt := h.ltL
  refine ⟨⟨bel_only bx1.bel ho (by omega), (ho.block B (by omega)).trans bx1.x, (ho.block (B + 1) (by omega)).trans bx1.z⟩, h.lt, (ho.block D hLD).trans row1, hr, h.ltL, own_only own0 ho (own_ne own0 lot1 (by decide)), own_only own1 ho (own_ne own1 lot1 (by decide)), ?_, h.ap⟩
  rw [← svals_append, List.length_append, List.length_singleton, ← hn]
  exact own_only own ho (own_ne own lot1 (by decide))
/-- the order, sorted -/
theorem sorted (h : Drw B D L w0 w r5 z7 vo vp vl O P Ls) {O' : List Int} {X n cap : Nat} (hv : vo = .slice (some ⟨X, 0, none⟩) n cap) (hl : O'.length = O.length) (own : w1.ownsRow (B + 2) 3 1 vo O.length (ivals O')) (hk : Kept X w w1) : Drw B D L w0 w1 r5 z7 vo vp vl O' P Ls := by
  have hX : vo.ownBlock = some X := by rw [hv]; rfl
  have hg : w.grownBy w1 vo.ownBlock := by rw [hX]; exact hk
  have hne : ∀ k, vo.ownBlock = some k → B + 2 ≤ k := fun k hk => (h.own0.lt k hk).1
  have hs := h.size
  have hD : vo.ownBlock ≠ some D := own_ne h.own0 h.row (by decide)
  have hL : vo.ownBlock ≠ some L := own_ne h.own0 h.lot (by decide)
  exact ⟨⟨h.box.bel.grown hg (by omega) (fun k hk => by have := hne k hk; omega), grown_keep hg (fun e => by have := hne _ e; omega) h.box.x, grown_keep hg (fun e => by have := hne _ e; omega) h.box.z⟩,
    h.lt, grown_keep hg hD h.row, grown_keep hg hL h.lot, h.ltL, by rw [hl]; exact own, h.own1.kept hg h.ap.symm, h.own2.kept hg (apart_types h.own2 h.own0 (by decide)), h.ap⟩
/-- a place, set -/
theorem placed (h : Drw B D L w0 w r5 z7 vo vp vl O P Ls) {X n cap : Nat} (hv : vp = .slice (some ⟨X, 0, none⟩) n cap) (hn : n = P.length) (i : Nat) (x : Int) : Drw B D L w0 (w.setCell ⟨X, i, none⟩ (.int .i64 x)) r5 z7 vo vp vl O (P.set i x) Ls := by
  have hX : vp.ownBlock = some X := by rw [hv]; rfl
  have own := h.own1
  rw [hv, hn] at own
  obtain ⟨own', hg0⟩ := own.stored i (.int .i64 x)
  have hg : w.grownBy (w.setCell ⟨X, i, none⟩ (.int .i64 x)) vp.ownBlock := by rw [hX]; exact hg0
  have hne : ∀ k, vp.ownBlock = some k → B + 2 ≤ k := fun k hk => (h.own1.lt k hk).1
  have hs := h.size
  have hD : vp.ownBlock ≠ some D := own_ne h.own1 h.row (by decide)
  have hL : vp.ownBlock ≠ some L := own_ne h.own1 h.lot (by decide)
  exact ⟨⟨h.box.bel.grown hg (by omega) (fun k hk => by have := hne k hk; omega), grown_keep hg (fun e => by have := hne _ e; omega) h.box.x, grown_keep hg (fun e => by have := hne _ e; omega) h.box.z⟩,
    h.lt, grown_keep hg hD h.row, grown_keep hg hL h.lot, h.ltL, h.own0.kept hg h.ap, by rw [List.length_set, hv, hn, show ivals (P.set i x) = (ivals P).set i (.int .i64 x) by simp [ivals, List.map_set]]; exact own', h.own2.kept hg (apart_types h.own2 h.own1 (by decide)), h.ap⟩
end Drw
def lotsK (c : CTest) (lots : Bytes) (k : Nat) : List Bytes := (List.range k).map (lotN c lots)
theorem length_lotsK (c : CTest) (lots : Bytes) (k : Nat) : (lotsK c lots k).length = k := by simp [lotsK]
theorem lotsK_succ (c : CTest) (lots : Bytes) (k : Nat) : lotsK c lots (k + 1) = lotsK c lots k ++ [lotN c lots k] := by simp [lotsK, List.range_succ]
theorem lotsK_get (c : CTest) (lots : Bytes) (n k : Nat) (h : k < (lotsK c lots n).length) : (lotsK c lots n)[k] = lotN c lots k := by simp [lotsK]
theorem strsAt_three {w : World} {g : Nat} {t : TypeId} {A B C : Bytes} (h : w.heap[g]? = some (.cells #[.string ⟨A.toArray⟩, .string ⟨B.toArray⟩, .string ⟨C.toArray⟩] t (0, 0))) : StrsAt w (some ⟨g, 0, none⟩) [A, B, C] := ⟨fun i hi => ⟨_, rfl, lt_of_heap h, by
  have hi' : i < 3 := hi
  rw [Addr.add_mid]
  rcases i with _ | _ | _ | i
  · exact cell_of_row w g 0 _ _ _ h
  · exact cell_of_row w g 1 _ _ _ h
  · exact cell_of_row w g 2 _ _ _ h
  · omega⟩⟩
/-- place: where each option stands -/
def Place (O P : List Int) : Prop := P.length = O.length ∧ ∀ k (h : k < O.length), P[O[k].toNat]? = some (k : Int)
/-- what draw answers -/
def DrawGot (c : CTest) (lots : Bytes) (oa : Option Addr) (cap : Nat) (w : World) (e : Ending) (w' : World) : Prop :=
  Below w.heap.size w w' ∧ if wrongC c = true then e = .returned (.tuple #[.agg #[.string ⟨#[]⟩, .slice none 0 0, .int .i64 0, .int .i64 0, .int .i64 0, .slice none 0 0, .slice none 0 0], .int .i64 2])
  else ∃ O P oO cO oP cP, Ord c.op.length (lotF c lots) O ∧ Place O P ∧ IsAt w' oO O ∧ IsAt w' oP P ∧ e = .returned (.tuple #[.agg (c.cells oa cap ++ [Value.slice oO O.length cO, Value.slice oP P.length cP]).toArray, .int .i64 0])
theorem seven_a (a b c d e f g : Value) (h0 : a.oneCell' = true) (h1 : b.oneCell' = true) (h2 : c.oneCell' = true) (h3 : d.oneCell' = true) (h4 : e.oneCell' = true) (h5 : f.oneCell' = true) (h6 : g.oneCell' = true) : (#[a, b, c, d, e, f, g] : Array Value).all (·.oneCell') = true := by simp [h0, h1, h2, h3, h4, h5, h6]
set_option maxHeartbeats 8000000 in
set_option maxRecDepth 100000 in
theorem draw_any (c : CTest) (lots : Bytes) (oa : Option Addr) (cap : Nat) (w : World) (hs : StrsAt w oa c.op) (hf : c.Fits lots) (hnl : c.op.length < 9223372036854775807) :
    Calls Tryz.prog 28 #[.agg (c.cells oa cap).toArray, .string ⟨lots.toArray⟩] w (DrawGot c lots oa cap w) := by
  have hC : (c.cells oa cap).toArray = #[.string ⟨c.nm.toArray⟩, .slice oa c.op.length cap, .int .i64 c.rl, .int .i64 c.se, .int .i64 c.mo] := rfl
  rw [hC]
  clear hC
  have HS := Lib.hid hs
  have HF := Lib.hid hf
  clear hs hf
  go_enter Tryz.func28, Tryz.ntmps28
  go_upto_region 1 with (fail)
  have BX := BoxR.mk' w #[.string ⟨c.nm.toArray⟩, .slice oa c.op.length cap, .int .i64 c.rl, .int .i64 c.se, .int .i64 c.mo] #[.string ⟨#[]⟩, .slice none 0 0, .int .i64 0, .int .i64 0, .int .i64 0, .slice none 0 0, .slice none 0 0] 24 62
  generalize hB : w.heap.size = B at *
  refine wp_abs (fun w1 => BoxR B w w1 #[.string ⟨c.nm.toArray⟩, .slice oa c.op.length cap, .int .i64 c.rl, .int .i64 c.se, .int .i64 c.mo] #[.string ⟨#[]⟩, .slice none 0 0, .int .i64 0, .int .i64 0, .int .i64 0, .slice none 0 0, .slice none 0 0] 24 62) BX (fun w1 B1 => ?_)
  have HB := Lib.hid hB
  have HB1 := Lib.hid B1
  have hBs1 : B + 1 < w1.heap.size := lt_of_heap B1.z
  have k1 : w1.cell? ⟨B, 1, none⟩ = some (.slice oa c.op.length cap) := cell_of_row w1 B 1 _ _ _ B1.x
  have k2 : w1.cell? ⟨B, 2, none⟩ = some (.int .i64 c.rl) := cell_of_row w1 B 2 _ _ _ B1.x
  have k3 : w1.cell? ⟨B, 3, none⟩ = some (.int .i64 c.se) := cell_of_row w1 B 3 _ _ _ B1.x
  clear BX hB B1
  go_upto_region 2 with (fail)
  go_cut [42] (fun v w' => v = .bool (wrongC c) ∧ w1 = w')
  case first =>
    by_cases hc1 : c.op.length < 1
    · have dhc1 : decide ((c.op.length : Int) < 1) = true := decide_eq_true (by omega)
      have ehc1 : decide (c.op.length < 1) = true := decide_eq_true hc1
      have hW := Lib.hid (show wrongC c = true from decide_eq_true (by omega))
      clear hc1
      go_wp2_with fail
      go_meet
      exact ⟨by rw [hW.out], rfl⟩
    have dhc1 : decide ((c.op.length : Int) < 1) = false := decide_eq_false (by omega)
    have ehc1 : decide (c.op.length < 1) = false := decide_eq_false hc1
    by_cases hc2 : 12 < c.op.length
    · have dhc2 : decide (12 < (c.op.length : Int)) = true := decide_eq_true (by omega)
      have ehc2 : decide (12 < c.op.length) = true := decide_eq_true hc2
      have hW := Lib.hid (show wrongC c = true from decide_eq_true (by omega))
      clear hc1 hc2
      go_wp2_with fail
      go_meet
      exact ⟨by rw [hW.out], rfl⟩
    have dhc2 : decide (12 < (c.op.length : Int)) = false := decide_eq_false (by omega)
    have ehc2 : decide (12 < c.op.length) = false := decide_eq_false hc2
    by_cases hc3 : c.rl < 1
    · have dhc3 : decide (c.rl < 1) = true := decide_eq_true (by omega)
      have hW := Lib.hid (show wrongC c = true from decide_eq_true (by omega))
      clear hc1 hc2 hc3
      go_wp2_with fail
      go_meet
      exact ⟨by rw [hW.out], rfl⟩
    have dhc3 : decide (c.rl < 1) = false := decide_eq_false (by omega)
    by_cases hc4 : 4 < c.rl
    · have dhc4 : decide (4 < c.rl) = true := decide_eq_true (by omega)
      have hW := Lib.hid (show wrongC c = true from decide_eq_true (by omega))
      clear hc1 hc2 hc3 hc4
      go_wp2_with fail
      go_meet
      exact ⟨by rw [hW.out], rfl⟩
    have dhc4 : decide (4 < c.rl) = false := decide_eq_false (by omega)
    by_cases hc5 : c.se < 1
    · have dhc5 : decide (c.se < 1) = true := decide_eq_true (by omega)
      have hW := Lib.hid (show wrongC c = true from decide_eq_true (by omega))
      clear hc1 hc2 hc3 hc4 hc5
      go_wp2_with fail
      go_meet
      exact ⟨by rw [hW.out], rfl⟩
    have dhc5 : decide (c.se < 1) = false := decide_eq_false (by omega)
    by_cases hc6 : (c.op.length : Int) < c.se
    · have dhc6 : decide ((c.op.length : Int) < c.se) = true := decide_eq_true (by omega)
      have hW := Lib.hid (show wrongC c = true from decide_eq_true (by omega))
      clear hc1 hc2 hc3 hc4 hc5 hc6
      go_wp2_with fail
      go_meet
      exact ⟨by rw [hW.out], rfl⟩
    have dhc6 : decide ((c.op.length : Int) < c.se) = false := decide_eq_false (by omega)
    have hW := Lib.hid (show wrongC c = false from decide_eq_false (by omega))
    clear hc1 hc2 hc3 hc4 hc5 hc6
    go_wp2_with fail
    go_meet
    exact ⟨by rw [hW.out], rfl⟩
  case rest =>
  generalize wc = wo at *
  obtain ⟨rfl, rfl⟩ := hcut
  cases hW : wrongC c with
  | true =>
    have HW := Lib.hid hW
    clear hW
    go_wp2_with (refine wpList_store_whole rfl rfl 62 _ _ rfl (B + 1) #[.string ⟨#[]⟩, .slice none 0 0, .int .i64 0, .int .i64 0, .int .i64 0, .slice none 0 0, .slice none 0 0] #[.string ⟨#[]⟩, .slice none 0 0, .int .i64 0, .int .i64 0, .int .i64 0, .slice none 0 0, .slice none 0 0] 62 rfl rfl HB1.out.z rfl size_drawn (seven_a _ _ _ _ _ _ _ rfl rfl rfl rfl rfl rfl rfl) ?_; intro w9 ho hp)
    refine bodyPost_ret (results_cell_tmp rfl _ w9 (B + 1) _ _ _ _ _ rfl rfl hp Tryz.underlying62 rfl size_drawn) rfl ⟨bel_only (by rw [HB.out]; exact HB1.out.bel) ho (by rw [HB.out]; omega), ?_⟩
    exact (if_pos HW.out).mpr rfl
  | false =>
  have HW := Lib.hid hW
  have hn := Lib.hid (show 1 ≤ c.op.length ∧ c.op.length ≤ 12 by unfold wrongC at hW; have := of_decide_eq_false hW; omega)
  clear hW
  as_aux_lemma =>
  obtain ⟨i0, hi, hz0, hz1, hz2⟩ := info_parts info_i64
  have HI := Lib.hid hi
  have HZ0 := Lib.hid hz0
  have HZ1 := Lib.hid hz1
  have HZ2 := Lib.hid hz2
  clear hi hz0 hz1 hz2
  go_upto_region 4 with (fail)
  generalize hM0 : w1.heap.size = M0 at *
  have HM0 := Lib.hid hM0
  have hx0 : Below M0 w1 w1.drew := (Below.refl _ _).drew
  have sx0 : M0 ≤ w1.drew.heap.size := Nat.le_of_eq hM0.symm
  have hBM : B < M0 := by omega
  clear hM0
  go_cut [7] (fun v w' => ∃ D vp, v = .pointer (some ⟨D, 0, none⟩) ∧ M0 ≤ D ∧ w'.heap[D]? = some (.cells #[.string ⟨c.nm.toArray⟩, .slice oa c.op.length cap, .int .i64 c.rl, .int .i64 c.se, .int .i64 c.mo, .slice none 0 0, vp] 62 (0, 0)) ∧ w'.ownsRow M0 3 1 vp c.op.length (List.replicate c.op.length (.int .i64 0)) ∧ Below M0 w1 w')
  case first =>
    refine Seg.wp_region_plan (fun w' => ∃ x : BelowT M0 w1, w' = x.w) (.quiet [0, 1] (.alt 2 (.quiet [3] (.one 4 (.last []))) (.one 4 (.one 2 (.last [3]))))) 5 (by kernel_rfl) (by kernel_rfl) (fun _ _ d _ _ h => by cases d <;> exact h) (⟨⟨_, hx0⟩, rfl⟩) ?_
    try simp only [Seg.wpPlan, List.map_cons, List.map_nil, Seg.opAt, List.drop_succ_cons, List.drop_zero, Array.getD_eq_getD_getElem?, List.getElem?_toArray, List.getElem?_cons_succ, List.getElem?_cons_zero, Option.getD_some]
    refine wpQuiet_load_whole rfl 24 _ rfl B #[.string ⟨c.nm.toArray⟩, .slice oa c.op.length cap, .int .i64 c.rl, .int .i64 c.se, .int .i64 c.mo] _ _ _ rfl HB1.out.x hBM Tryz.underlying24 rfl size_contest ?_
    first | go_big_quiet_step (fail) | quiet_step (fail)
    refine wpQuiet_nil ?_
    try simp only [Seg.wpPlan, List.map_cons, List.map_nil, Seg.opAt, List.drop_succ_cons, List.drop_zero, Array.getD_eq_getD_getElem?, List.getElem?_toArray, List.getElem?_cons_succ, List.getElem?_cons_zero, Option.getD_some]
    generalize w1.drew = x0 at *
    refine ⟨?_, ?_⟩
    · try unfold Seg.wpUp
      intro K hK
      first | go_simp | skip
      obtain ⟨x1, hr, own, hg⟩ := run_make_full (P := Tryz.prog) (w := x0) M0 29 3 i0 (.int .i64 0) 1 Tryz.underlying29 HI.out HZ0.out HZ1.out .i64 .i64 c.op.length (by rw [HZ2.out]; have := hn.out; omega) (by unfold maxLen; have := hn.out; omega) sx0
      try rw [hr]
      go_wp2_with fail
      clear hr
      have twx1 : Below x0.heap.size x0 x1 := (Below.refl _ _).grown hg (Nat.le_refl _) (fun _ h => by cases h)
      have hx1 := hx0.trans (twx1.mono sx0)
      have sx1 := Nat.le_trans sx0 twx1.size
      have mV : M0 ≤ x0.heap.size := sx0
      refine hK _ _ ⟨⟨_, hx1⟩, rfl⟩ ?_
      clear hK K hx0 sx0 twx1 hg
      generalize x0.heap.size = V at *
      try simp only [Seg.wpPlan, List.map_cons, List.map_nil, Seg.opAt, List.drop_succ_cons, List.drop_zero, Array.getD_eq_getD_getElem?, List.getElem?_toArray, List.getElem?_cons_succ, List.getElem?_cons_zero, Option.getD_some]
      refine wpQuiet_build rfl 62 _ rfl [(0, .agg #[.string ⟨c.nm.toArray⟩, .slice oa c.op.length cap, .int .i64 c.rl, .int .i64 c.se, .int .i64 c.mo]), (2, .slice (some ⟨V, 0, none⟩) c.op.length c.op.length)] (by first | (simp; done) | (simp [Act.eval]; done)) _ (built_drawn ⟨c.nm.toArray⟩ oa c.op.length cap c.rl c.se c.mo V c.op.length) ?_
      refine wpQuiet_nil ?_
      try simp only [Seg.wpPlan, List.map_cons, List.map_nil, Seg.opAt, List.drop_succ_cons, List.drop_zero, Array.getD_eq_getD_getElem?, List.getElem?_toArray, List.getElem?_cons_succ, List.getElem?_cons_zero, Option.getD_some]
      try unfold Seg.wpUp
      intro K hK
      first | go_simp | skip
      go_wp2_with fail
      have hx2 : Below M0 w1 (x1.alloc (.cells #[.string ⟨#[]⟩, .slice none 0 0, .int .i64 0, .int .i64 0, .int .i64 0, .slice none 0 0, .slice none 0 0] 62)) := hx1.alloc sx1 _
      have sx2 : M0 ≤ (x1.alloc (.cells #[.string ⟨#[]⟩, .slice none 0 0, .int .i64 0, .int .i64 0, .int .i64 0, .slice none 0 0, .slice none 0 0] 62)).heap.size := by simp; omega
      have twx2 : Below x1.heap.size x1 (x1.alloc (.cells #[.string ⟨#[]⟩, .slice none 0 0, .int .i64 0, .int .i64 0, .int .i64 0, .slice none 0 0, .slice none 0 0] 62)) := (Below.refl _ _).alloc (Nat.le_refl _) _
      have eD : (x1.alloc (.cells #[.string ⟨#[]⟩, .slice none 0 0, .int .i64 0, .int .i64 0, .int .i64 0, .slice none 0 0, .slice none 0 0] 62)).heap[x1.heap.size]? = some (.cells #[.string ⟨#[]⟩, .slice none 0 0, .int .i64 0, .int .i64 0, .int .i64 0, .slice none 0 0, .slice none 0 0] 62 (0, 0)) := heap_at rfl
      have mD : M0 ≤ x1.heap.size := sx1
      have kk := own_below own twx2
      clear own
      have own := kk
      clear kk
      refine hK _ _ ⟨⟨_, hx2⟩, rfl⟩ ?_
      clear hK K hx1 sx1 twx2
      generalize (x1.alloc (.cells #[.string ⟨#[]⟩, .slice none 0 0, .int .i64 0, .int .i64 0, .int .i64 0, .slice none 0 0, .slice none 0 0] 62)) = x2 at *
      generalize x1.heap.size = D at *
      try simp only [Seg.wpPlan, List.map_cons, List.map_nil, Seg.opAt, List.drop_succ_cons, List.drop_zero, Array.getD_eq_getD_getElem?, List.getElem?_toArray, List.getElem?_cons_succ, List.getElem?_cons_zero, Option.getD_some]
      refine wpQuiet_nil ?_
      go_wp2_with (refine wpList_store_whole rfl rfl 62 _ _ rfl D #[.string ⟨#[]⟩, .slice none 0 0, .int .i64 0, .int .i64 0, .int .i64 0, .slice none 0 0, .slice none 0 0] #[.string ⟨c.nm.toArray⟩, .slice oa c.op.length cap, .int .i64 c.rl, .int .i64 c.se, .int .i64 c.mo, .slice none 0 0, .slice (some ⟨V, 0, none⟩) c.op.length c.op.length] 62 rfl rfl eD rfl size_drawn (seven_a _ _ _ _ _ _ _ rfl rfl rfl rfl rfl rfl rfl) ?_; intro w8 ho hp)
      go_meet
      exact ⟨D, _, rfl, mD, hp, own_zero c.op.length (own_kept own eD (by decide) ho), bel_only hx2 ho mD⟩
    · try unfold Seg.wpUp
      intro K hK
      first | go_simp | skip
      go_wp2_with fail
      have hx1 : Below M0 w1 (x0.alloc (.cells #[.string ⟨#[]⟩, .slice none 0 0, .int .i64 0, .int .i64 0, .int .i64 0, .slice none 0 0, .slice none 0 0] 62)) := hx0.alloc sx0 _
      have sx1 : M0 ≤ (x0.alloc (.cells #[.string ⟨#[]⟩, .slice none 0 0, .int .i64 0, .int .i64 0, .int .i64 0, .slice none 0 0, .slice none 0 0] 62)).heap.size := by simp; omega
      have twx1 : Below x0.heap.size x0 (x0.alloc (.cells #[.string ⟨#[]⟩, .slice none 0 0, .int .i64 0, .int .i64 0, .int .i64 0, .slice none 0 0, .slice none 0 0] 62)) := (Below.refl _ _).alloc (Nat.le_refl _) _
      have eD : (x0.alloc (.cells #[.string ⟨#[]⟩, .slice none 0 0, .int .i64 0, .int .i64 0, .int .i64 0, .slice none 0 0, .slice none 0 0] 62)).heap[x0.heap.size]? = some (.cells #[.string ⟨#[]⟩, .slice none 0 0, .int .i64 0, .int .i64 0, .int .i64 0, .slice none 0 0, .slice none 0 0] 62 (0, 0)) := heap_at rfl
      have mD : M0 ≤ x0.heap.size := sx0
      refine hK _ _ ⟨⟨_, hx1⟩, rfl⟩ ?_
      clear hK K hx0 sx0 twx1
      generalize (x0.alloc (.cells #[.string ⟨#[]⟩, .slice none 0 0, .int .i64 0, .int .i64 0, .int .i64 0, .slice none 0 0, .slice none 0 0] 62)) = x1 at *
      generalize x0.heap.size = D at *
      try simp only [Seg.wpPlan, List.map_cons, List.map_nil, Seg.opAt, List.drop_succ_cons, List.drop_zero, Array.getD_eq_getD_getElem?, List.getElem?_toArray, List.getElem?_cons_succ, List.getElem?_cons_zero, Option.getD_some]
      try unfold Seg.wpUp
      intro K hK
      first | go_simp | skip
      obtain ⟨x2, hr, own, hg⟩ := run_make_full (P := Tryz.prog) (w := x1) M0 29 3 i0 (.int .i64 0) 1 Tryz.underlying29 HI.out HZ0.out HZ1.out .i64 .i64 c.op.length (by rw [HZ2.out]; have := hn.out; omega) (by unfold maxLen; have := hn.out; omega) sx1
      try rw [hr]
      go_wp2_with fail
      clear hr
      have twx2 : Below x1.heap.size x1 x2 := (Below.refl _ _).grown hg (Nat.le_refl _) (fun _ h => by cases h)
      have hx2 := hx1.trans (twx2.mono sx1)
      have sx2 := Nat.le_trans sx1 twx2.size
      have mV : M0 ≤ x1.heap.size := sx1
      have kk := bel_keep twx2 (lt_of_heap eD) eD
      clear eD
      have eD := kk
      clear kk
      refine hK _ _ ⟨⟨_, hx2⟩, rfl⟩ ?_
      clear hK K hx1 sx1 twx2 hg
      generalize x1.heap.size = V at *
      try simp only [Seg.wpPlan, List.map_cons, List.map_nil, Seg.opAt, List.drop_succ_cons, List.drop_zero, Array.getD_eq_getD_getElem?, List.getElem?_toArray, List.getElem?_cons_succ, List.getElem?_cons_zero, Option.getD_some]
      refine wpQuiet_build rfl 62 _ rfl [(0, .agg #[.string ⟨c.nm.toArray⟩, .slice oa c.op.length cap, .int .i64 c.rl, .int .i64 c.se, .int .i64 c.mo]), (2, .slice (some ⟨V, 0, none⟩) c.op.length c.op.length)] (by first | (simp; done) | (simp [Act.eval]; done)) _ (built_drawn ⟨c.nm.toArray⟩ oa c.op.length cap c.rl c.se c.mo V c.op.length) ?_
      refine wpQuiet_nil ?_
      go_wp2_with (refine wpList_store_whole rfl rfl 62 _ _ rfl D #[.string ⟨#[]⟩, .slice none 0 0, .int .i64 0, .int .i64 0, .int .i64 0, .slice none 0 0, .slice none 0 0] #[.string ⟨c.nm.toArray⟩, .slice oa c.op.length cap, .int .i64 c.rl, .int .i64 c.se, .int .i64 c.mo, .slice none 0 0, .slice (some ⟨V, 0, none⟩) c.op.length c.op.length] 62 rfl rfl eD rfl size_drawn (seven_a _ _ _ _ _ _ _ rfl rfl rfl rfl rfl rfl rfl) ?_; intro w8 ho hp)
      go_meet
      exact ⟨D, _, rfl, mD, hp, own_zero c.op.length (own_kept own eD (by decide) ho), bel_only hx2 ho mD⟩
  case rest =>
  clear hx0 sx0
  generalize wc = w2 at *
  obtain ⟨D, vp, rfl, hMD, hD, hvp, hb2⟩ := hcut
  have hDlt : D < w2.heap.size := lt_of_heap hD
  have hM2 := hb2.size
  rw [HM0.out] at hM2
  obtain ⟨L, hL⟩ : ∃ L, L = w2.heap.size := ⟨_, rfl⟩
  have DR0 : Drw B D L w (w2.alloc (.cells #[.slice none 0 0] 22)) [.string ⟨c.nm.toArray⟩, .slice oa c.op.length cap, .int .i64 c.rl, .int .i64 c.se, .int .i64 c.mo] [.string ⟨#[]⟩, .slice none 0 0, .int .i64 0, .int .i64 0, .int .i64 0, .slice none 0 0, .slice none 0 0] (.slice none 0 0) vp (.slice none 0 0) [] (List.replicate c.op.length 0) [] := by
    have ba : Below w2.heap.size w2 (w2.alloc (.cells #[.slice none 0 0] 22)) := (Below.refl _ _).alloc (Nat.le_refl _) _
    refine ⟨(HB1.out.keep (by rw [HM0.out]; omega) (HM0.out.symm ▸ hb2)).keep (by omega) ba, by omega, bel_keep ba hDlt hD, by rw [hL]; exact heap_at rfl, by omega, World.ownsRow_nil _ _ _ _, ?_, World.ownsRow_nil _ _ _ _, .inl rfl⟩
    have := own_base (own_below hvp ba) (show B + 2 ≤ M0 by omega)
    rw [show ivals (List.replicate c.op.length 0) = List.replicate c.op.length (.int .i64 0) by simp [ivals], List.length_replicate]
    exact this
  clear hb2 hD hvp hM2 hDlt hMD k1 k2 k3
  go_upto_region 6 with (fail)
  rw [← hL]
  refine wp_abs (fun w3 => Drw B D L w w3 [.string ⟨c.nm.toArray⟩, .slice oa c.op.length cap, .int .i64 c.rl, .int .i64 c.se, .int .i64 c.mo] [.string ⟨#[]⟩, .slice none 0 0, .int .i64 0, .int .i64 0, .int .i64 0, .slice none 0 0, .slice none 0 0] (.slice none 0 0) vp (.slice none 0 0) [] (List.replicate c.op.length 0) []) DR0 (fun w3 hw3 => ?_)
  have DR := Lib.hid hw3
  clear hw3 DR0 hL HB1 hBs1 hBM HM0
  have k1 : w3.cell? ⟨B, 1, none⟩ = some (.slice oa c.op.length cap) := cell_of_row w3 B 1 _ _ _ DR.out.box.x
  clear w1 w2
  obtain ⟨j0, hi, hz0, hz1, hz2⟩ := info_parts info_str
  have JI := Lib.hid hi
  have JZ0 := Lib.hid hz0
  have JZ1 := Lib.hid hz1
  have JZ2 := Lib.hid hz2
  clear hi hz0 hz1 hz2
  as_aux_lemma =>
  go_wp2_with fail
  clear k1
  go_loopw [51] (fun i wr => ∃ (k : Nat) (vo vl : Value), k ≤ c.op.length ∧ i = .int .i64 k ∧ Drw B D L w wr [.string ⟨c.nm.toArray⟩, .slice oa c.op.length cap, .int .i64 c.rl, .int .i64 c.se, .int .i64 c.mo] [.string ⟨#[]⟩, .slice none 0 0, .int .i64 0, .int .i64 0, .int .i64 0, .slice none 0 0, .slice none 0 0] vo vp vl (iota k) (List.replicate c.op.length 0) (lotsK c lots k)) (fun i _ => c.op.length - (intOf i).toNat)
  case atStart => exact ⟨0, _, _, by omega, rfl, DR.out⟩
  case round =>
  clear DR
  obtain ⟨k, vo, vl, hk, rfl, hdr⟩ := hrel
  have DR := Lib.hid hdr
  clear hdr
  by_cases hlt : k < c.op.length
  · as_aux_lemma =>
    have dk : decide ((k : Int) < (c.op.length : Int)) = true := decide_eq_true (by omega)
    have dk2 : decide (k < c.op.length) = true := decide_eq_true hlt
    have hki : (k : Int) < (c.op.length : Int) := by omega
    obtain ⟨q, hoa, hqb, hqc⟩ := (HS.out.below (HB.out.symm ▸ DR.out.box.bel)).cells k hlt
    subst hoa
    have ho := Lib.hid (show c.op.getD k [] = c.op[k] by rw [List.getD_eq_getElem?_getD, List.getElem?_eq_getElem hlt]; rfl)
    have HJ := Lib.hid (HF.out.join k hlt)
    have HLK := Lib.hid (lotsK_succ c lots k)
    have HLN := Lib.hid (show lotN c lots k = digestL [] (joinL lotT [lots, c.nm, c.op.getD k []]) from rfl)
    rw [ho.out] at HJ HLN
    generalize c.op[k] = opt at *
    have k5 : wr.cell? ⟨D, 5, none⟩ = some vo := cell_of_row wr D 5 _ _ _ DR.out.row
    have kB0 : wr.cell? ⟨B, 0, none⟩ = some (.string ⟨c.nm.toArray⟩) := cell_of_row wr B 0 _ _ _ DR.out.box.x
    have hDs : D < wr.heap.size := lt_of_heap DR.out.row
    have hBs : B + 1 < wr.heap.size := by have := DR.out.size; omega
    have hs2 := DR.out.size
    have hk12 : k ≤ 12 := by have := hn.out; omega
    have DRA := Lib.hid (DR.out.below ((Below.refl wr.heap.size wr).alloc (Nat.le_refl _) (.cells #[.int .i64 (k : Int)] 3)))
    have hil := length_iota k
    go_upto_region 10 with (at_builtin; refine wpList_append_lies _ rfl (.tmp 57) (.tmp 59) 29 rfl (B + 2) 3 i0 (.int .i64 0) 1 8 Tryz.underlying29 HI.out HZ0.out HZ1.out HZ2.out rfl (by decide) vo (iota k).length (ivals (iota k)) rfl DRA.out.own0 ⟨wr.heap.size, 0, none⟩ 1 1 (ivals [(k : Int)]) rfl rfl (news_blk (heap_at rfl)) (ivals_one _) (by decide) (by unfold maxLen; omega) (by omega) DRA.out.size _ rfl (fun g cp w4 own hg hf hglt => ?_); have hrow4 := grown_keep hg (own_ne DRA.out.own0 DRA.out.row (by decide)) DRA.out.row; have c5 : w4.cell? ⟨D, 5, none⟩ = some vo := cell_of_row w4 D 5 _ _ _ hrow4; have f5 : w4.frozen? ⟨D, 5, none⟩ = false := frozen_of_row w4 D 5 _ _ hrow4)
    have DR5 : Drw B D L w (w4.setCell ⟨D, 5, none⟩ (.slice (some ⟨g, 0, none⟩) ((iota k).length + 1) cp)) [.string ⟨c.nm.toArray⟩, .slice (some q) c.op.length cap, .int .i64 c.rl, .int .i64 c.se, .int .i64 c.mo] [.string ⟨#[]⟩, .slice none 0 0, .int .i64 0, .int .i64 0, .int .i64 0, .slice none 0 0, .slice none 0 0] (.slice (some ⟨g, 0, none⟩) ((iota k).length + 1) cp) vp vl (iota (k + 1)) (List.replicate c.op.length 0) (lotsK c lots k) := by
      rw [iota_snoc]
      exact DRA.out.appO rfl own hg hf ((Only.refl D w4).setCell _ _) (heap_setCell_same w4 D 5 _ _ _ hrow4)
    rw [hil] at DR5
    clear own hg hf hglt hrow4 c5 f5 DRA DR k5 kB0 hs2 hDs hBs hqc hqb
    refine wp_abs (fun w5 => Drw B D L w w5 [.string ⟨c.nm.toArray⟩, .slice (some q) c.op.length cap, .int .i64 c.rl, .int .i64 c.se, .int .i64 c.mo] [.string ⟨#[]⟩, .slice none 0 0, .int .i64 0, .int .i64 0, .int .i64 0, .slice none 0 0, .slice none 0 0] (.slice (some ⟨g, 0, none⟩) (k + 1) cp) vp vl (iota (k + 1)) (List.replicate c.op.length 0) (lotsK c lots k)) DR5 (fun w5 hw5 => ?_)
    have DR := Lib.hid hw5
    clear hw5 DR5 hil
    as_aux_lemma =>
    have kB0 : w5.cell? ⟨B, 0, none⟩ = some (.string ⟨c.nm.toArray⟩) := cell_of_row w5 B 0 _ _ _ DR.out.box.x
    have kL0 : w5.cell? ⟨L, 0, none⟩ = some vl := cell_of_row w5 L 0 _ _ _ DR.out.lot
    have hBs : B < w5.heap.size := by have := DR.out.size; omega
    have hLs : L < w5.heap.size := lt_of_heap DR.out.lot
    obtain ⟨M5, hM5⟩ : ∃ M5, M5 = w5.heap.size := ⟨_, rfl⟩
    rw [← hM5] at hBs hLs
    have hx0 : Below M5 w5 w5.drew := (Below.refl _ _).drew
    have sx0 : M5 ≤ w5.drew.heap.size := Nat.le_of_eq hM5
    have HM5 := Lib.hid hM5
    clear hM5
    have QDR := Lib.hid (fun w' (h : Below M5 w5 w') => DR.out.below (HM5.out ▸ h))
    have QT := Lib.hid (fun (g : Nat) (w6 : World) (h : w6.heap[g]? = some (.cells #[.string ⟨lots.toArray⟩, .string ⟨c.nm.toArray⟩, .string ⟨opt.toArray⟩] 9 (0, 0))) => Tag_any lotT (some ⟨g, 0, none⟩) [lots, c.nm, opt] 3 w6 (strsAt_three h) (by have := HJ.out; omega) (by show 3 < 9223372036854775807; decide))
    rw [← HLN.out] at QT
    have hll := length_lotsK c lots k
    refine Seg.wp_region_segs (fun w' => ∃ x : BelowT M5 w5, w' = x.w) [([0, 1, 2, 3, 4], 5), ([], 6), ([], 7)] [] 8 (by kernel_rfl) (by kernel_rfl) (fun _ _ d _ _ h => by cases d <;> exact h) (⟨⟨_, hx0⟩, rfl⟩) ?_
    simp only [List.map_cons, List.map_nil, Seg.opAt, List.drop_succ_cons, List.drop_zero, Seg.wpSegs, Array.getD_eq_getD_getElem?, List.getElem?_toArray, List.getElem?_cons_succ, List.getElem?_cons_zero, Option.getD_some]
    repeat (any_goals (first | go_big_quiet_step (fail) | quiet_step (fail)))
    refine wpQuiet_nil ?_
    intro K hK
    simp only [Region.wanted, if_true]
    go_wp2_with fail
    have hx1 : Below M5 w5 (w5.alloc (.cells #[.string ⟨lots.toArray⟩, .string ⟨c.nm.toArray⟩, .string ⟨opt.toArray⟩] 9)).drew := ((Below.refl M5 w5).alloc (Nat.le_of_eq HM5.out) _).drew
    have sx1 : M5 ≤ (w5.alloc (.cells #[.string ⟨lots.toArray⟩, .string ⟨c.nm.toArray⟩, .string ⟨opt.toArray⟩] 9)).drew.heap.size := by rw [HM5.out]; exact hx1.size
    have hb1 : (w5.alloc (.cells #[.string ⟨lots.toArray⟩, .string ⟨c.nm.toArray⟩, .string ⟨opt.toArray⟩] 9)).drew.heap[w5.heap.size]? = some (.cells #[.string ⟨lots.toArray⟩, .string ⟨c.nm.toArray⟩, .string ⟨opt.toArray⟩] 9 (0, 0)) := heap_at rfl
    refine hK _ _ ⟨⟨_, hx1⟩, rfl⟩ ?_
    clear hK K hx0 sx0
    generalize (w5.alloc (.cells #[.string ⟨lots.toArray⟩, .string ⟨c.nm.toArray⟩, .string ⟨opt.toArray⟩] 9)).drew = x1 at *
    generalize w5.heap.size = G1 at *
    repeat (any_goals (first | go_big_quiet_step (fail) | quiet_step (fail)))
    refine wpQuiet_nil ?_
    intro K hK
    simp only [Region.wanted, if_true]
    go_wp2_with (go_at_call 65; refine (QT.out G1 x1 hb1).mono ?_; rintro e x2 ⟨rfl, b2⟩)
    have hx2 := hx1.trans (b2.mono sx1)
    have sx2 := Nat.le_trans sx1 b2.size
    refine hK _ _ ⟨⟨_, hx2⟩, rfl⟩ ?_
    clear hK K hx1 sx1 hb1 b2 QT
    repeat (any_goals (first | go_big_quiet_step (fail) | quiet_step (fail)))
    refine wpQuiet_nil ?_
    intro K hK
    simp only [Region.wanted, if_true]
    go_wp2_with fail
    have hx3 := hx2.alloc sx2 (.cells #[.string ⟨(lotN c lots k).toArray⟩] 9)
    have DRX := Lib.hid (QDR.out _ hx3)
    refine hK _ _ ⟨⟨_, hx3⟩, rfl⟩ ?_
    clear hK K hx2 sx2
    repeat (any_goals (first | go_big_quiet_step (fail) | quiet_step (fail)))
    refine wpQuiet_nil ?_
    go_wp2_with (at_builtin; refine wpList_append_lies _ rfl (.tmp 62) (.tmp 69) 22 rfl (B + 2) 9 j0 (.string ⟨#[]⟩) 1 16 Tryz.underlying22 JI.out JZ0.out JZ1.out JZ2.out rfl (by decide) vl (lotsK c lots k).length (svals (lotsK c lots k)) rfl DRX.out.own2 ⟨x2.heap.size, 0, none⟩ 1 1 (svals [lotN c lots k]) rfl rfl (news_blk (heap_at rfl)) (svals_one _) (by decide) (by unfold maxLen; omega) (by omega) DRX.out.size _ rfl (fun g2 cp2 w7 own hg hf hglt => ?_); have hrow7 := grown_keep hg (own_ne DRX.out.own2 DRX.out.lot (by decide)) DRX.out.lot; have c8 : w7.cell? ⟨L, 0, none⟩ = some vl := cell_of_row w7 L 0 _ _ _ hrow7; have f8 : w7.frozen? ⟨L, 0, none⟩ = false := frozen_of_row w7 L 0 _ _ hrow7)
    have DR8 := Lib.hid (DRX.out.appL rfl own hg ((Only.refl L w7).setCell 0 (.slice (some ⟨g2, 0, none⟩) ((lotsK c lots k).length + 1) cp2)) (heap_setCell_same w7 L 0 _ _ _ hrow7))
    rw [← HLK.out] at DR8
    clear own hg hf hglt hrow7 c8 f8 DRX DR QDR kB0 kL0 hx3 HM5 hBs hLs
    go_roundw
    case rel => exact ⟨k + 1, _, _, by omega, by go_num, by have h8 := DR8.out; rw [length_lotsK] at h8; exact h8⟩
    case measure => simp [intOf]; omega
  · as_aux_lemma =>
    have dk : decide ((k : Int) < (c.op.length : Int)) = false := decide_eq_false (by omega)
    have dk2 : decide (k < c.op.length) = false := decide_eq_false hlt
    obtain rfl : k = c.op.length := by omega
    obtain ⟨X, xc, rfl, hBX, hXlt⟩ := DR.out.own0.form (by rw [length_iota]; have := hn.out; omega)
    obtain ⟨oL, cL, rfl, hSL⟩ := strsAt_own DR.out.own2
    have hn12 := hn.out
    have QC := Lib.hid (show ∀ (x y : Int) (w' : World), x ∈ iota c.op.length → y ∈ iota c.op.length → Kept X wr w' → Calls Tryz.prog 67 #[.int .i64 x, .int .i64 y, .pointer (some ⟨L, 0, none⟩)] w' fun e w'' => e = .returned (.int .i64 (cmpB (lotF c lots x) (lotF c lots y))) ∧ Below w'.heap.size w' w'' from by
      intro x y w' hx hy hk
      have hx := (mem_iota _ _).1 hx
      have hy := (mem_iota _ _).1 hy
      obtain ⟨i, rfl⟩ : ∃ i : Nat, x = i := ⟨x.toNat, by omega⟩
      obtain ⟨j, rfl⟩ : ∃ j : Nat, y = j := ⟨y.toNat, by omega⟩
      have hL' := grown_keep hk (fun e => own_ne DR.out.own0 DR.out.lot (by decide) (by rw [← e]; rfl)) DR.out.lot
      have own2 := DR.out.own2.kept (row := some X) hk (by
        have := apart_types DR.out.own2 DR.out.own0 (by decide)
        exact this)
      obtain ⟨oL2, cL2, he, hS2⟩ := strsAt_own own2
      obtain ⟨rfl, rfl⟩ : oL = oL2 ∧ cL = cL2 := by injection he with h1 _ h3; exact ⟨h1, h3⟩
      have := drawCmp_any i j (lotsK c lots c.op.length) L oL cL w' hL' hS2 (by rw [length_lotsK]; omega) (by rw [length_lotsK]; omega) (by rw [length_lotsK]; omega)
      rw [lotsK_get, lotsK_get] at this
      exact this)
    have QS := Lib.hid (sortStable_any (fun x y => cmpB (lotF c lots x) (lotF c lots y)) (ltL (lotF c lots)) (ltL_trans _) (iota c.op.length) X xc (B + 2) L wr QC.out (iota_cmp _ _) (by rw [length_iota]; omega) (by have := DR.out.own0; exact this))
    have k5 : wr.cell? ⟨D, 5, none⟩ = some (.slice (some ⟨X, 0, none⟩) (iota c.op.length).length xc) := cell_of_row wr D 5 _ _ _ DR.out.row
    clear QC hSL
    have hil := length_iota c.op.length
    rw [hil] at QS k5
    go_upto_region 13 with (go_at_call 66; refine QS.out.mono ?_; rintro e w6 ⟨rfl, hs⟩; have HS6 := Lib.hid hs; clear hs)
    obtain ⟨S, hperm, hsrt, hown, hkept⟩ := HS6.out
    have HO := Lib.hid (show Ord c.op.length (lotF c lots) S from ⟨hperm, hsrt⟩)
    have DR6 := Lib.hid (DR.out.sorted rfl hperm.length_eq hown hkept)
    clear hperm hsrt hown hkept HS6 DR k5 QS hlt dk dk2 hk hil
    have hSl := HO.out.len
    obtain ⟨Y, yc, rfl, hBY, hYlt⟩ := DR6.out.own1.form (by rw [List.length_replicate]; omega)
    rw [length_iota, List.length_replicate] at DR6
    generalize hvo : Value.slice (some ⟨X, 0, none⟩) c.op.length xc = vo at *
    as_aux_lemma =>
    have k5 : w6.cell? ⟨D, 5, none⟩ = some (.slice (some ⟨X, 0, none⟩) c.op.length xc) := by rw [hvo]; exact cell_of_row w6 D 5 _ _ _ DR6.out.row
    have HVO := Lib.hid hvo
    clear hvo
    go_wp2_with fail
    clear k5
    go_loopw [79] (fun i wr => ∃ (k : Nat) (P : List Int), k ≤ c.op.length ∧ i = .int .i64 k ∧ Drw B D L w wr [.string ⟨c.nm.toArray⟩, .slice oa c.op.length cap, .int .i64 c.rl, .int .i64 c.se, .int .i64 c.mo] [.string ⟨#[]⟩, .slice none 0 0, .int .i64 0, .int .i64 0, .int .i64 0, .slice none 0 0, .slice none 0 0] vo (.slice (some ⟨Y, 0, none⟩) c.op.length yc) (.slice oL (lotsK c lots c.op.length).length cL) S P (lotsK c lots c.op.length) ∧ PlaceK c.op.length S P k) (fun i _ => c.op.length - (intOf i).toNat)
    case atStart => exact ⟨0, _, by omega, rfl, DR6.out, PlaceK.zero (by simp)⟩
    case round =>
    clear DR6
    obtain ⟨k, P, hk, rfl, hdr, hpl⟩ := hrel
    have DR := Lib.hid hdr
    have HP := Lib.hid hpl
    clear hdr hpl
    by_cases hlt : k < c.op.length
    · have dk : decide ((k : Int) < (c.op.length : Int)) = true := decide_eq_true (by omega)
      have dk2 : decide (k < c.op.length) = true := decide_eq_true hlt
      have hki : (k : Int) < (c.op.length : Int) := by omega
      have hkS : k < S.length := by omega
      obtain ⟨o, ho⟩ : ∃ o : Nat, S[k] = (o : Int) := ⟨S[k].toNat, by have := HO.out.mem.1 (List.getElem_mem hkS); omega⟩
      have hon : o < c.op.length := by have := HO.out.mem.1 (List.getElem_mem hkS); rw [ho] at this; omega
      have hoz : (o : Int) < (c.op.length : Int) := by omega
      have own0 := DR.out.own0
      rw [← HVO.out, hSl] at own0
      have kx : wr.cell? ⟨X, k, none⟩ = some (.int .i64 o) := by rw [own0.cellAt k (by omega)]; simp [ivals, hkS, ho]
      have HPL := HP.out.len
      have own1 := DR.out.own1
      rw [HPL] at own1
      obtain ⟨pv, ky⟩ : ∃ pv, wr.cell? ⟨Y, o, none⟩ = some (.int .i64 pv) := ⟨P[o]'(by omega), by rw [own1.cellAt o (by omega)]; simp [ivals, HPL, hon]⟩
      have fy := own1.frozenAt o
      have k6 : wr.cell? ⟨D, 6, none⟩ = some (.slice (some ⟨Y, 0, none⟩) c.op.length yc) := cell_of_row wr D 6 _ _ _ DR.out.row
      have DRN := Lib.hid (DR.out.placed rfl HPL.symm o (k : Int))
      have HPN := Lib.hid (show PlaceK c.op.length S (P.set o (k : Int)) (k + 1) by have := HP.out.succ HO.out hkS; rw [ho] at this; exact this)
      clear ho own0 own1 HPL DR HP
      go_wp2_with fail
      go_roundw
      case rel => exact ⟨k + 1, _, by omega, by go_num, DRN.out, HPN.out⟩
      case measure => simp [intOf]; omega
    · have dk : decide ((k : Int) < (c.op.length : Int)) = false := decide_eq_false (by omega)
      have dk2 : decide (k < c.op.length) = false := decide_eq_false hlt
      obtain rfl : k = c.op.length := by omega
      have hPl := HP.out.len
      have HPL := Lib.hid (show Place S P from ⟨by rw [HP.out.len, hSl], fun j hj => HP.out.at_ j hj (by omega)⟩)
      have hz := DR.out.box.z
      have hrow : wr.heap[D]? = some (.cells #[.string ⟨c.nm.toArray⟩, .slice oa c.op.length cap, .int .i64 c.rl, .int .i64 c.se, .int .i64 c.mo, vo, .slice (some ⟨Y, 0, none⟩) c.op.length yc] 62 (0, 0)) := DR.out.row
      obtain ⟨oO, cO, hvo2, hIO⟩ : ∃ oO cO, vo = .slice oO S.length cO ∧ True := ⟨_, _, by rw [← HVO.out, hSl], trivial⟩
      have h1 : vo.oneCell' = true := by rw [hvo2]; rfl
      clear hvo2 hIO
      go_wp2_with (first
        | (refine wpList_load_whole rfl 62 _ rfl D _ _ _ _ rfl hrow Tryz.underlying62 rfl size_drawn ?_)
        | (refine wpList_store_whole rfl rfl 62 _ _ rfl (B + 1) #[.string ⟨#[]⟩, .slice none 0 0, .int .i64 0, .int .i64 0, .int .i64 0, .slice none 0 0, .slice none 0 0] #[.string ⟨c.nm.toArray⟩, .slice oa c.op.length cap, .int .i64 c.rl, .int .i64 c.se, .int .i64 c.mo, vo, .slice (some ⟨Y, 0, none⟩) c.op.length yc] 62 rfl rfl hz rfl size_drawn (seven_a _ _ _ _ _ _ _ rfl rfl rfl rfl rfl h1 rfl) ?_; intro w9 ho hp))
      have own0 := own_only DR.out.own0 ho (own_ne DR.out.own0 DR.out.box.z (by decide))
      have own1 := own_only DR.out.own1 ho (own_ne DR.out.own1 DR.out.box.z (by decide))
      obtain ⟨oO, cO, hvo2, -, hIO⟩ := isAt_own own0
      obtain ⟨oP, cP, hvp2, -, hIP⟩ := isAt_own own1
      refine bodyPost_ret (results_cell_tmp rfl _ w9 (B + 1) _ _ _ _ _ rfl rfl hp Tryz.underlying62 rfl size_drawn) rfl ⟨bel_only (by rw [HB.out]; exact DR.out.box.bel) ho (by rw [HB.out]; omega), ?_⟩
      rw [if_neg (by rw [HW.out]; decide)]
      exact ⟨S, P, oO, cO, oP, cP, HO.out, HPL.out, hIO, hIP, by rw [← hvo2, ← hvp2]; rfl⟩
end Go.Proofs.YtnohcdpnnhmpfaaGreatDoor
