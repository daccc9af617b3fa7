/-
  Chapter 4, WirePrints: what is deferred: wire.caught, and the text struck out where there is an error.
-/
import Derived.Test.YtohemcdcmlngiaaDoorPrY
import Derived.Defers
import Derived.Recover
import Derived.Laws.Pointers
namespace Go.Proofs.YtohemcdcmlngiaaDoor.PR
set_option linter.unusedVariables false
set_option linter.unusedSimpArgs false
open Go.RowKit ML FM

theorem assert_trouble (k : Int) (xt : TypeId) (w : World) : (Instr.typeAssert (.iface 65 (.int .i64 k)) xt 65 true).run Tryd.prog w = .ok (.tuple #[.int .i64 k, .bool true]) w := by
  simp [Instr.typeAssert, Sem.run_bind, run_underlying Tryd.underlying65]
set_option maxHeartbeats 2000000 in
set_option maxRecDepth 100000 in
theorem caught_panicking (p : Nat) (x k : Int) (older : List PanicEntry) (w : World) (hc : w.cell? ⟨p, 0, none⟩ = some (.int .i64 x)) (hz : w.frozen? ⟨p, 0, none⟩ = false) :
    CallsD Tryd.prog 19 #[.pointer (some ⟨p, 0, none⟩)] (.panicking ({ v := .iface 65 (.int .i64 k), recovered := false } :: older)) w fun e u' w' =>
      e = .returned (.tuple #[]) ∧ u' = .panicking ({ v := .iface 65 (.int .i64 k), recovered := true } :: older) ∧ w' = w.setCell ⟨p, 0, none⟩ (.int .i64 k) := by
  refine callsD_of_wpS Tryd.func19 rfl fun c₀ cs hu => ?_
  apply wpS_seq
  apply wpS_region
  simp [wpOpsS, go_sem, recoverD, hu, Tryd.ntmps19, Exit.thenS]
  have hA := assert_trouble k
  refine wpS_of_wp ?_
  go_wp2_with fail
  simp [bodyPostS, results, Tryd.results19]
set_option maxHeartbeats 2000000 in
set_option maxRecDepth 100000 in
theorem caught_idle (p : Nat) (w : World) :
    CallsD Tryd.prog 19 #[.pointer (some ⟨p, 0, none⟩)] .returning w fun e u' w' => e = .returned (.tuple #[]) ∧ u' = .returning ∧ w' = w := by
  refine callsD_of_wpS Tryd.func19 rfl fun c₀ cs hu => ?_
  apply wpS_seq
  apply wpS_region
  simp [wpOpsS, go_sem, recoverD, hu, Tryd.ntmps19, Exit.thenS]
  refine wpS_of_wp ?_
  go_wp2_with fail
  simp [bodyPostS, results, Tryd.results19]
  cases c₀
  simp only at hu
  subst hu
  rfl
set_option maxHeartbeats 2000000 in
set_option maxRecDepth 100000 in
theorem strike_idle (p q : Nat) (u : FrameMode) (w : World) (hc : w.cell? ⟨p, 0, none⟩ = some (.int .i64 0)) :
    CallsD Tryd.prog 18 #[.pointer (some ⟨p, 0, none⟩), .pointer (some ⟨q, 0, none⟩)] u w fun e u' w' => u' = u ∧ (e = .returned (.tuple #[]) ∧ w' = w) := by
  go_enter_d Tryd.func18, Tryd.ntmps18
  go_wp2_with fail
  go_end0
  exact ⟨rfl, rfl⟩
set_option maxHeartbeats 2000000 in
set_option maxRecDepth 100000 in
theorem strike_any (p q : Nat) (k : Int) (s : Value) (u : FrameMode) (w : World) (hk : (k != 0) = true) (hc : w.cell? ⟨p, 0, none⟩ = some (.int .i64 k)) (hs : w.cell? ⟨q, 0, none⟩ = some s) (hz : w.frozen? ⟨q, 0, none⟩ = false) :
    CallsD Tryd.prog 18 #[.pointer (some ⟨p, 0, none⟩), .pointer (some ⟨q, 0, none⟩)] u w fun e u' w' => u' = u ∧ (e = .returned (.tuple #[]) ∧ w' = w.setCell ⟨q, 0, none⟩ (.string ⟨#[]⟩)) := by
  go_enter_d Tryd.func18, Tryd.ntmps18
  go_wp2_with fail
  go_end0
  exact ⟨rfl, rfl⟩
end Go.Proofs.YtohemcdcmlngiaaDoor.PR
