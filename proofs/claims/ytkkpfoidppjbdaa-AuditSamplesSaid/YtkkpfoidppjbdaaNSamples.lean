/-
  AuditSamples: Sample answers as the reference.
  Conditions: the seed is within the reach.
-/
import Derived.Test.YtkkpfoidppjbdaaNRSamp
import Derived.OpenShut
namespace Go.Proofs.Ytkkpfoidppjbdaa
set_option linter.unusedVariables false
open Go.RowKit ML ND FM

set_option maxHeartbeats 4000000 in
set_option maxRecDepth 100000 in
/-- 'sameInts' of rows that read the same -/
theorem sameInts_any (L : List Nat) (oa ob : Option Addr) (ca cb : Nat) (w : World) (ha : IntsAt w oa L) (hb : IntsAt w ob L) (hl : L.length < 1099511627776) :
    Calls Try.prog 6 #[.slice oa L.length ca, .slice ob L.length cb] w fun e w' => e = .returned (.bool true) ∧ Below w.heap.size w w' := by
  have HA := Lib.hid ha
  have HBB := Lib.hid hb
  clear ha hb
  go_enter Try.func6, Try.ntmps6
  go_upto_region 4 with (fail)
  go_loopw [13] (fun i wr => ∃ k : Nat, k ≤ L.length ∧ i = .int .i64 k ∧ Below w.heap.size w wr) (fun i _ => L.length - (intOf i).toNat)
  case atStart => exact ⟨0, by omega, rfl, Below.refl _ _⟩
  case round =>
  obtain ⟨k, hk, rfl, bel⟩ := hrel
  by_cases hlt : k < L.length
  · have hd : decide ((k : Int) < (L.length : Int)) = true := by simp; omega
    have hk0 : (0 : Int) ≤ k := by omega
    have hkl : (k : Int) < (L.length : Int) := by omega
    obtain ⟨a0, hoa, hac⟩ := (HA.out.below bel).get k hlt
    obtain ⟨b0, hob, hbc⟩ := (HBB.out.below bel).get k hlt
    subst hoa
    subst hob
    generalize L.getD k 0 = a at *
    go_upto_region 6 with (fail)
    refine Seg.wp_region_segs (fun w' => ∃ n, w' = wr.drewN n) [] [0, 1, 2, 3, 4, 5, 6, 7] 8 (by kernel_rfl) (by kernel_rfl) (fun _ _ d _ _ h => by cases d <;> exact h) (⟨1, rfl⟩) ?_
    simp only [List.map_cons, List.map_nil, Seg.opAt, List.drop_succ_cons, List.drop_zero, Seg.wpSegs, Array.getD_eq_getD_getElem?, List.getElem?_toArray, List.getElem?_cons_succ, List.getElem?_cons_zero, Option.getD_some]
    repeat (any_goals (first | go_big_quiet_step (fail) | quiet_step (fail)))
    refine wpQuiet_nil ?_
    have bel2 := bel.drew
    clear hac hbc bel
    go_wp2_with fail
    go_roundw
    case rel => exact ⟨k + 1, by omega, by go_num, bel2⟩
    case measure => simp [intOf]; omega
  · have hd : decide ((k : Int) < (L.length : Int)) = false := by simp; omega
    obtain rfl : k = L.length := by omega
    go_wp2_with fail
    go_ret
    exact ⟨rfl, bel⟩
set_option maxHeartbeats 4000000 in
set_option maxRecDepth 100000 in
theorem auditSamples_core (S : Bytes) (t n : Int) (w : World) (hS : S.length < 1152921504606846976) :
    Calls Try.prog 3 #[.string ⟨S.toArray⟩, .int .i64 t, .int .i64 n] w fun e w' => e = .returned (.bool true) ∧ Below w.heap.size w w' := by
  have Q1 := Lib.hid (fun w => audSample_any S t n w hS)
  have Q2 := Lib.hid (fun w => refSample_any S t n w hS)
  have hll : (sampR S t n).length < 1099511627776 := by
    unfold sampR
    split
    · rename_i h
      rw [length_sampL]
      have := h.2
      omega
    · simp
  have Q3 := Lib.hid (fun oa ob ca cb w h1 h2 => sameInts_any (sampR S t n) oa ob ca cb w h1 h2 hll)
  clear hS
  generalize sampR S t n = L at *
  generalize sampE t n = E at *
  go_enter Try.func3, Try.ntmps3
  go_wp2_with (first
    | (go_at_call 4; refine (Q1.out _).mono ?_; rintro e w1 ⟨oa, ca, rfl, hIa, hb1⟩)
    | (go_at_call 5; refine (Q2.out _).mono ?_; rintro e w2 ⟨ob, cb, rfl, hIb, hb2⟩)
    | (go_at_call 6; refine (Q3.out oa ob ca cb w2 (hIa.below hb2) hIb).mono ?_; rintro e w3 ⟨rfl, hb3⟩))
  go_ret
  exact ⟨rfl, (hb1.trans (hb2.mono hb1.size)).trans (hb3.mono (Nat.le_trans hb1.size hb2.size))⟩
theorem auditSamples_walk (S : ByteArray) (t n : Int) (w : World) (hS : S.data.toList.length ≤ reachBytes) (_ht : (Lit.int .i64 t).wf = true) (_hn : (Lit.int .i64 n).wf = true) :
    Calls Try.prog 3 #[.string S, .int .i64 t, .int .i64 n] w fun e w' => e = .returned (.bool true) ∧ Below w.heap.size w w' :=
  auditSamples_core S.data.toList t n w (by unfold reachBytes at hS; omega)
end Go.Proofs.Ytkkpfoidppjbdaa
