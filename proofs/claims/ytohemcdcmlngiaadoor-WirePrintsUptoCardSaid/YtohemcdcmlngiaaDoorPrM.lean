/-
  Chapter 4, WirePrints: nodes in memory: how they are loaded. Printed by tools/genpr.py.
-/
import Derived.Test.YtohemcdcmlngiaaDoorPrP
import Derived.Laws.OwnMore
import Derived.Deep.AppendLies
import Derived.Deep.MidRow
namespace Go.Proofs.YtohemcdcmlngiaaDoor.PR
set_option linter.unusedVariables false
set_option linter.unusedSimpArgs false
open Go.RowKit ML FM

theorem size_node : (Tryd.prog.info? 24).map (·.size) = some 3 := by kernel_rfl
/-- a struct loaded from wherever its cells lie -/
theorem wpList_load_at {P : Program} {ops : Array Oper} {rest : List Oper} {op : Oper} {a : Act} {w : World} {Q : Exit → Act → World → Prop} (hgd : op.guard = none) (ty : TypeId) (x : Operand) (ho : op.op = .load ty x)
    (p : Addr) (hx : a.eval x = .pointer (some p)) (cs : List Value) (d : TypeDesc) (hc : ∀ j v, cs[j]? = some v → w.cell? (p.add j) = some v)
    (hu : P.underlying ty = some d) (hd : d.isRow = true) (hi : (P.info? ty).map (·.size) = some cs.length)
    (h : wpList P ops Q rest (a.put op.dst (.agg cs.toArray)) w) : wpList P ops Q (op :: rest) a w := by
  refine wpList_plain hgd fun K hK => ?_
  have hl : (loadCells p cs.length).run P w = .ok cs.toArray w := run_loadCells_list (P := P) w p cs hc
  cases hq : P.info? ty with
  | none => simp [hq] at hi
  | some i =>
    have hs : i.size = cs.length := by simpa [hq] using hi
    have hagg : (isAgg ty).run P w = .ok true w := by
      unfold isAgg
      rw [Sem.run_bind, run_underlying hu w]
      cases d <;> simp_all
    have hrun : (loadVar ty p).run P w = .ok (.agg cs.toArray) w := by simp [loadVar, Sem.run_bind, hagg, sizeOf, typeInfo, hq, hs, hl]
    unfold Oper.wp execOp
    simp only [ho, hx, Instr.loadAt, Instr.sureAddr, Sem.run_bind, Sem.run_pure, Result.andThen_ok, hrun]
    exact hK _ _ h
theorem wpList_load_g {P : Program} {ops : Array Oper} {rest : List Oper} {o : Oper} {a : Act} {w : World} {Q : Exit → Act → World → Prop} (hw : Region.wanted o (yielded ops a.tmps) = true) (ty : TypeId) (x : Operand) (ho : o.op = .load ty x) (b : Nat) (cs : Array Value) (t : TypeId) (fr : Nat × Nat) (d : TypeDesc)
    (hx : a.eval x = .pointer (some ⟨b, 0, none⟩)) (hb : w.heap[b]? = some (.cells cs t fr)) (hu : P.underlying ty = some d) (hd : (match d with | .struct _ => true | .array _ _ => true | _ => false) = true)
    (hi : (P.info? ty).map (·.size) = some cs.size) (h : wpList P ops Q rest (a.put o.dst (.agg cs)) w) : wpList P ops Q (o :: rest) a w :=
  wpList_step fun K hK => by
    rw [if_pos hw]
    have hr := run_loadVar_row (P := P) w b t ty cs fr d hb hu (by cases d <;> first | rfl | exact hd) hi
    unfold Oper.wp execOp
    simp only [ho, hx, Instr.loadAt, Instr.sureAddr, Sem.run_bind, Sem.run_pure, Result.andThen_ok, hr]
    exact hK _ _ h
/-- a guard for arms: the next operation is a load of this type -/
theorem at_load (ty : TypeId) {P : Program} {ops : Array Oper} {rest : List Oper} {dst : Option Tmp} {x : Operand} {t : TypeId} {pos : String} {af : Array Edge} {g : Option (Nat × Bool)} {a : Act} {w : World} {Q : Exit → Act → World → Prop} (h : wpList P ops Q (⟨dst, .load ty x, t, pos, af, g⟩ :: rest) a w) : wpList P ops Q (⟨dst, .load ty x, t, pos, af, g⟩ :: rest) a w := h
theorem three_one (l : Bool) (s : ByteArray) (oa : Option Addr) (n cap : Nat) : (#[Value.bool l, Value.string s, Value.slice oa n cap] : Array Value).all (·.oneCell') = true := by simp [Value.oneCell']
theorem NdAt.form {w : World} {cs : List Value} {I : Inf} (h : NdAt w cs I) : ∃ (l : Bool) (t : Bytes) (oa : Option Addr) (n cap : Nat), cs = [.bool l, .string ⟨t.toArray⟩, .slice oa n cap] := by
  cases h with
  | mk l t oa n cap C I hn hc hr => exact ⟨l, t, oa, n, cap, rfl⟩
end Go.Proofs.YtohemcdcmlngiaaDoor.PR
