/-
  What is being folded, in memory: one block, eight words, a count, 64 bytes, how many are held. Its parts read and written.
-/
import Derived.Test.YtnohcdpnnhmpfaaBBase
import Derived.Test.YtnohcdpnnhmpfaaBytes
import Derived.Test.YtnohcdpnnhmpfaaFPress
import Derived.Lib.UnsafeStr
import Derived.Lib.BufferWrite
import Derived.Lib.SliceRun
namespace Go.Proofs.Ytnohcdpnnhmpfaa
open Go.RowKit ML FM

/-- 'a[i]', a an array by value of numbers -/
theorem run_index_row {P : Program} (w : World) (t e : TypeId) (n : Nat) (cs : Array Value) (k q : IntKind) (i : Nat) (v : Value) (h : P.underlying t = some (.array n e)) (hi : i < n) (hs : (P.info? e).map (·.size) = some 1) (hu : P.underlying e = some (.int q))
    (hv : cs[i]? = some v) : (Instr.index t (.agg cs) (.int k (i : Int))).run P w = .ok v w := by
  have hn : (0 : Int) ≤ i ∧ (i : Int) < (n : Int) := by omega
  cases hq : P.info? e with
  | none => simp [hq] at hs
  | some x =>
    have hx : x.size = 1 := by simpa [hq] using hs
    simp [Instr.index, run_underlying h, asIntOf, hn, sizeOf, typeInfo, hq, hx, hi]
    unfold part
    simp [isAgg, Sem.run_bind, run_underlying hu, hv]
/-- 'copy(dst, s)', s a string: as many bytes as there is room for -/
theorem run_copy_str {P : Program} (w : World) (dT sT ty elem : TypeId) (b o dLen dCap : Nat) (s : ByteArray)
    (hu : P.underlying dT = some (.slice elem)) (hz : (P.info? elem).map (·.size) = some 1) (ht : w.there b o (Nat.min s.size dLen)) :
    (Builtin.copy_ #[dT, sT] ty #[.slice (some ⟨b, o, none⟩) dLen dCap, .string s]).run P w = .ok (goInt (Nat.min s.size dLen)) (w.setCells b o (Lib.byteCells (s.data.toList.take (Nat.min s.size dLen)))) := by
  have hl : (Lib.byteCells (s.data.toList.take (Nat.min s.size dLen))).length = Nat.min s.size dLen := by
    rw [Lib.byteCells_length, List.length_take, ← Lib.size_eq]
    have : Nat.min s.size dLen ≤ s.size := Nat.min_le_left _ _
    omega
  have hst := run_storeCells_cells (P := P) b o (Lib.byteCells (s.data.toList.take (Nat.min s.size dLen))) 0 w (by rw [hl]; intro j hj; simpa using (ht j hj).1) (by rw [hl]; intro j hj; simpa using (ht j hj).2) (Lib.byteCells_one _)
  have htk : List.take (Nat.min s.size dLen) (List.map (fun b : UInt8 => Value.int IntKind.u8 (b.toNat : Int)) s.data.toList) = Lib.byteCells (s.data.toList.take (Nat.min s.size dLen)) := by
    unfold Lib.byteCells; rw [List.map_take]
  simp only [Nat.add_zero] at hst
  cases hq : P.info? elem with
  | none => simp [hq] at hz
  | some i =>
    have hi : i.size = 1 := by simpa [hq] using hz
    simp [Builtin.copy_, run_underlying hu, Builtin.lenOf, Builtin.firstCells, sizeOf, typeInfo, hq, hi]
    rw [htk, hst]
    simp [Result.andThen]
theorem wpList_copy_str {P : Program} {w : World} {ops : Array Oper} {rest : List Oper} {o : Oper} {a : Act} {Q : Exit → Act → World → Prop} (hgd : o.guard = none) (d s : Operand) (dT sT : TypeId)
    (ho : o.op = .call { callee := .builtin .copy, args := #[d, s], argTypes := #[dT, sT] }) (elem : TypeId) (hu : P.underlying dT = some (.slice elem)) (hsz : (P.info? elem).map (·.size) = some 1)
    (g off dLen dCap : Nat) (S : ByteArray) (hd : a.eval d = .slice (some ⟨g, off, none⟩) dLen dCap) (hs : a.eval s = .string S) (ht : w.there g off (Nat.min S.size dLen))
    (h : wpList P ops Q rest (a.put o.dst (goInt (Nat.min S.size dLen))) (w.setCells g off (Lib.byteCells (S.data.toList.take (Nat.min S.size dLen))))) : wpList P ops Q (o :: rest) a w := by
  refine wpList_plain hgd fun K hK => ?_
  have hrun := run_copy_str (P := P) w dT sT o.type elem g off dLen dCap S hu hsz ht
  unfold Oper.wp
  simp [execOp, ho, resolve, invoke, builtin, hd, hs, hrun, Result.andThen]
  exact hK _ _ h
/-- an array at an offset of a block below B loaded -/
theorem wpQuiet_load_mid {P : Program} {ops : Array Oper} {rest : List Oper} {o : Oper} {a : Act} {S : World → Prop} {K : Act → Prop} (hw : Region.wanted o (yielded ops a.tmps) = true) (ty : TypeId) (y : Operand) (ho : o.op = .load ty y) (b off : Nat) (cs : List Value) (d : TypeDesc)
    (hx : a.eval y = .pointer (some ⟨b, off, none⟩)) (hb : ∀ w', S w' → w'.rangeAt b off cs) (hu : P.underlying ty = some d) (hd : d.isRow = true)
    (hi : (P.info? ty).map (·.size) = some cs.length) (h : wpQuiet P ops S K rest (a.put o.dst (.agg cs.toArray))) :
    wpQuiet P ops S K (o :: rest) a := by
  unfold wpQuiet
  rw [if_pos hw]
  refine ⟨.agg cs.toArray, fun w' hw' => ?_, h⟩
  have hr := run_loadVar_mid (P := P) w' b off ty cs d (hb w' hw') hu hd hi
  unfold Oper.quietAt execOp
  simp only [ho, hx, Instr.loadAt, Instr.sureAddr, Sem.run_bind, Sem.run_pure, Result.andThen_ok, hr]
  exact ⟨rfl, rfl⟩
def foldRow (H : List U) (n : Nat) (D : Bytes) (t : Nat) : List Value := H.map uv ++ (Value.int .u64 (n : Int) :: (Lib.byteCells D ++ [Value.int .i64 (t : Int)]))
structure FoldAt (b : Nat) (H : List U) (n : Nat) (D : Bytes) (t : Nat) (w : World) : Prop where
  blk : w.heap[b]? = some (.cells (foldRow H n D t).toArray 99 (0, 0))
  hl : H.length = 8
  dl : D.length = 64

theorem length_foldRow {H : List U} {n : Nat} {D : Bytes} {t : Nat} (hl : H.length = 8) (dl : D.length = 64) : (foldRow H n D t).length = 74 := by
  simp [foldRow, length_byteCells, hl, dl]
theorem foldRow_h {H : List U} {n : Nat} {D : Bytes} {t : Nat} (hl : H.length = 8) (j : Nat) (hj : j < 8) : (foldRow H n D t)[j]? = (H.map uv)[j]? := by
  unfold foldRow
  rw [List.getElem?_append_left (by simp [hl]; omega)]
theorem foldRow_n {H : List U} {n : Nat} {D : Bytes} {t : Nat} (hl : H.length = 8) : (foldRow H n D t)[8]? = some (.int .u64 n) := by
  unfold foldRow
  rw [List.getElem?_append_right (by simp [hl])]
  simp [hl]
theorem foldRow_d {H : List U} {n : Nat} {D : Bytes} {t : Nat} (hl : H.length = 8) (dl : D.length = 64) (j : Nat) (hj : j < 64) : (foldRow H n D t)[9 + j]? = (Lib.byteCells D)[j]? := by
  unfold foldRow
  rw [List.getElem?_append_right (by simp [hl]; omega)]
  rw [show 9 + j - (H.map uv).length = j + 1 by simp [hl]; omega, List.getElem?_cons_succ, List.getElem?_append_left (by rw [length_byteCells, dl]; exact hj)]
theorem foldRow_at {H : List U} {n : Nat} {D : Bytes} {t : Nat} (hl : H.length = 8) (dl : D.length = 64) : (foldRow H n D t)[73]? = some (.int .i64 t) := by
  unfold foldRow
  rw [List.getElem?_append_right (by simp [hl])]
  rw [show 73 - (H.map uv).length = 64 + 1 by simp [hl], List.getElem?_cons_succ, List.getElem?_append_right (by rw [length_byteCells, dl]; exact Nat.le_refl _), length_byteCells, dl]
  rfl

namespace FoldAt
variable {b : Nat} {H : List U} {n : Nat} {D : Bytes} {t : Nat} {w w1 : World}
theorem cell (h : FoldAt b H n D t w) (j : Nat) (_ : j < 74) : w.cell? ⟨b, j, none⟩ = (foldRow H n D t)[j]? := by
  rw [cell_of_row w b j _ _ _ h.blk]; simp
theorem frozen (h : FoldAt b H n D t w) (j : Nat) : w.frozen? ⟨b, j, none⟩ = false := frozen_of_row w b j _ _ h.blk
theorem cellN (h : FoldAt b H n D t w) : w.cell? ⟨b, 8, none⟩ = some (.int .u64 n) := by rw [h.cell 8 (by omega), foldRow_n h.hl]
theorem cellAt (h : FoldAt b H n D t w) : w.cell? ⟨b, 73, none⟩ = some (.int .i64 t) := by rw [h.cell 73 (by omega), foldRow_at h.hl h.dl]
theorem rangeH (h : FoldAt b H n D t w) : w.rangeAt b 0 (H.map uv) := fun j v hv => by
  have hj : j < 8 := by have := (List.getElem?_eq_some_iff.1 hv).1; simpa [h.hl] using this
  rw [Nat.zero_add, h.cell j (by omega), foldRow_h h.hl j hj, hv]
theorem rangeD (h : FoldAt b H n D t w) : w.rangeAt b 9 (Lib.byteCells D) := fun j v hv => by
  have hj : j < 64 := by have := (List.getElem?_eq_some_iff.1 hv).1; rwa [length_byteCells, h.dl] at this
  rw [h.cell (9 + j) (by omega), foldRow_d h.hl h.dl j hj, hv]
theorem there (h : FoldAt b H n D t w) (o k : Nat) (hk : o + k ≤ 74) : w.there b o k := fun j hj => by
  refine ⟨?_, h.frozen _⟩
  rw [h.cell (o + j) (by omega)]
  simp [length_foldRow h.hl h.dl]; omega
theorem kept (h : FoldAt b H n D t w) (hb : w1.heap[b]? = w.heap[b]?) : FoldAt b H n D t w1 := ⟨hb.trans h.blk, h.hl, h.dl⟩
theorem drewN (h : FoldAt b H n D t w) (k : Nat) : FoldAt b H n D t (w.drewN k) := ⟨h.blk, h.hl, h.dl⟩
theorem below {B : Nat} (h : FoldAt b H n D t w) (hb : Below B w w1) (hlt : b < B) : FoldAt b H n D t w1 := h.kept (hb.block b hlt)
theorem only {c : Nat} (h : FoldAt b H n D t w) (ho : Only c w w1) (hne : b ≠ c) : FoldAt b H n D t w1 := h.kept (ho.block b hne)
theorem setN (h : FoldAt b H n D t w) (m : Nat) : FoldAt b H m D t (w.setCell ⟨b, 8, none⟩ (.int .u64 (m : Int))) := by
  refine ⟨?_, h.hl, h.dl⟩
  rw [heap_setCell_same w b 8 _ _ _ h.blk]
  congr 2
  simp [foldRow, h.hl]
theorem setAt (h : FoldAt b H n D t w) (m : Nat) : FoldAt b H n D m (w.setCell ⟨b, 73, none⟩ (.int .i64 (m : Int))) := by
  refine ⟨?_, h.hl, h.dl⟩
  rw [heap_setCell_same w b 73 _ _ _ h.blk]
  congr 2
  simp [foldRow, h.hl, h.dl, length_byteCells]
theorem setH (h : FoldAt b H n D t w) (H' : List U) (hl : H'.length = 8) : FoldAt b H' n D t (w.setCells b 0 (H'.map uv)) := by
  refine ⟨?_, hl, h.dl⟩
  rw [setCells_row b _ _ 0 w _ h.blk (by simp [hl, length_foldRow h.hl h.dl])]
  congr 2
  simp [foldRow, hl, h.hl]
theorem setD (h : FoldAt b H n D t w) (o : Nat) (E : Bytes) (ho : o + E.length ≤ 64) : FoldAt b H n (D.take o ++ (E ++ D.drop (o + E.length))) t (w.setCells b (9 + o) (Lib.byteCells E)) := by
  refine ⟨?_, h.hl, by simp [h.dl]; omega⟩
  rw [setCells_row b _ _ (9 + o) w _ h.blk (by simp [length_byteCells, length_foldRow h.hl h.dl]; omega)]
  congr 2
  have dl := h.dl
  have hl := h.hl
  have e1 : List.take (9 + o) (foldRow H n D t) = H.map uv ++ (Value.int .u64 (n : Int) :: Lib.byteCells (D.take o)) := by
    unfold foldRow
    rw [List.take_append, show 9 + o - (H.map uv).length = o + 1 by simp [hl]; omega, List.take_of_length_le (by simp [hl]; omega), List.take_succ_cons, List.take_append_of_le_length (by rw [length_byteCells]; omega)]
    simp [Lib.byteCells, List.map_take]
  have e2 : List.drop (9 + o + E.length) (foldRow H n D t) = Lib.byteCells (D.drop (o + E.length)) ++ [.int .i64 (t : Int)] := by
    unfold foldRow
    rw [List.drop_append, show 9 + o + E.length - (H.map uv).length = (o + E.length) + 1 by simp [hl]; omega, List.drop_of_length_le (by simp [hl]; omega), List.drop_succ_cons, List.drop_append_of_le_length (by rw [length_byteCells]; omega)]
    simp [Lib.byteCells, List.map_drop]
  rw [List.toList_toArray, length_byteCells, e1, e2]
  simp [foldRow, Lib.byteCells]
end FoldAt

/-- the text T has been taken, with h0 at the beginning -/
structure TakenAt (b : Nat) (h0 : List U) (T : Bytes) (w : World) : Prop where
  ex : ∃ p t D, MidL T p t D ∧ (T = [] ∨ 0 < t) ∧ FoldAt b (absorbK h0 T p) (64 * p) D t w
theorem grown_only {b : Nat} {w w1 : World} (h : Only b w w1) : w.grownBy w1 (some b) := ⟨h.os, h.tape, h.output, by rw [h.size]; exact Nat.le_refl _, fun k _ hk => h.block k (fun e => hk (by rw [e]))⟩
theorem grown_below {b : Nat} {w w1 : World} (h : Below w.heap.size w w1) : w.grownBy w1 (some b) := ⟨h.os, h.tape, h.output, h.size, fun k hk _ => h.block k hk⟩
end Go.Proofs.Ytnohcdpnnhmpfaa
