/-
  Bytes and texts in memory: small laws.
-/
import Derived.Test.YtohemcdcmlngiaaDoorBBase
import Derived.Test.YtohemcdcmlngiaaDoorChecked
import Derived.Lib.UnsafeStr
import Derived.Lib.BufferWrite
import Derived.Lib.SliceRun
import Derived.Deep.MidRow
import Derived.Laws.IdiomStrings
namespace Go.Proofs.YtohemcdcmlngiaaDoor
open Go.RowKit ML FM

theorem size_byte : (Tryd.prog.info? 5).map (·.size) = some 1 := by kernel_rfl

theorem length_byteCells (D : Bytes) : (Lib.byteCells D).length = D.length := by simp [Lib.byteCells]
theorem size_mk (R : Bytes) : (ByteArray.mk R.toArray).size = R.length := by simp [ByteArray.size]
theorem extract_drop (R : Bytes) (k : Nat) : (ByteArray.mk R.toArray).extract k R.length = ⟨(R.drop k).toArray⟩ := by
  rw [Lib.extract_eq]
  congr 1
  simp
  rw [List.take_of_length_le (by simp)]
theorem gtrans {a w w' : World} {row : Option Nat} (h : a.grownBy w row) (k : w.grownBy w' row) : a.grownBy w' row :=
  ⟨k.os.trans h.os, k.tape.trans h.tape, k.output.trans h.output, Nat.le_trans h.size k.size, fun i hi hr => (k.block i (Nat.lt_of_lt_of_le hi h.size) hr).trans (h.block i hi hr)⟩
/-- 'string(b)', b a slice of bytes that lie there -/
theorem wpList_bytes_back {P : Program} {w : World} {ops : Array Oper} {rest : List Oper} {o : Oper} {a : Act} {Q : Exit → Act → World → Prop} (hgd : o.guard = none) (x : Operand) (src dst e : TypeId)
    (ho : o.op = .convert src dst x) (hs : P.underlying src = some (.slice e)) (he : P.underlying e = some (.int .u8)) (hd : P.underlying dst = some .string)
    (g cap n : Nat) (l : Bytes) (hn : n = l.length) (hx : a.eval x = .slice (some ⟨g, 0, none⟩) n cap) (hc : w.rangeAt g 0 (Lib.byteCells l))
    (h : wpList P ops Q rest (a.put o.dst (.string ⟨l.toArray⟩)) w) : wpList P ops Q (o :: rest) a w := by
  subst hn
  refine wpList_plain hgd fun K hK => ?_
  have hrun := run_convert_bytes_back (P := P) w src dst e ⟨g, 0, none⟩ cap l hs he hd (fun j hj => by
    have := hc j (.int .u8 (l[j].toNat : Int)) (by simp [Lib.byteCells, hj])
    rw [show (⟨g, 0, none⟩ : Addr).add j = ⟨g, 0 + j, none⟩ by unfold Addr.add; split <;> simp_all]
    exact this)
  unfold Oper.wp
  simp [execOp, ho, hx, hrun, Result.andThen]
  exact hK _ _ h
theorem info_byte : (Tryd.prog.info? 5).map (fun i => (i.zero, i.size, i.bytes)) = some (some (.int .u8 0), 1, 1) := by kernel_rfl
theorem rangeAt_block {w : World} {b : Nat} {l : List Value} {t : TypeId} (h : w.heap[b]? = some (.cells l.toArray t (0, 0))) : w.rangeAt b 0 l := fun j v hj => by
  rw [Nat.zero_add, cell_of_row w b j _ _ _ h]
  simpa using hj
theorem append_mk (A B : Bytes) : ByteArray.mk A.toArray ++ ByteArray.mk B.toArray = ByteArray.mk (A ++ B).toArray := by
  apply ByteArray.ext
  simp
theorem extract_take (R : Bytes) (k : Nat) : (ByteArray.mk R.toArray).extract 0 k = ⟨(R.take k).toArray⟩ := by
  rw [Lib.extract_eq]
  simp
theorem byteCells_append (A B : Bytes) : Lib.byteCells A ++ Lib.byteCells B = Lib.byteCells (A ++ B) := by simp [Lib.byteCells]
end Go.Proofs.YtohemcdcmlngiaaDoor
