/-
  CountPairs: Pairs of any ballots, Paths and Smith of any pairs answer as the reference: true for every input. No condition.
-/
import Derived.Test.YtnohcdpnnhmpfaaRows
import Derived.Test.YtnohcdpnnhmpfaaFrame
import Derived.Test.YtnohcdpnnhmpfaaCtOR
import Derived.Test.YtnohcdpnnhmpfaaCtRD
import Derived.SizedLaws
namespace Go.Proofs.Ytnohcdpnnhmpfaa.countPairs
open Go.ChangeShapes Go.WideShapes Go.ChangeAt Go.RowKit ML FM FR AU CT
open Go.ChangeMaps (open_string shut_string)
set_option linter.unusedVariables false

theorem own : ownKnob Try.prog.godebug = none := by kernel_rfl
theorem laidOut : laidOutB Try.prog = true := by kernel_rfl

set_option maxRecDepth 100000 in
theorem lifted (os : Os) (started : os.Started) (H : Type) (enc : TypeId × Value → H) :
    ReturnsInHanded {} Try.checked os 4 .any (Rows.countPairsSpec.pre6 enc Try.prog Try.f4 Rows.countPairsRow.domain false) (Rows.countPairsSpec.post enc Try.prog Try.f4 false true false false) := by
  refine returnsInHanded_of_change_sized (C := Try.checked) own started (by kernel_rfl) Try.func4
    (ChangeSpec.witness6 (enc := enc) (C := Try.checked) false ⟨#[], #[.agg #[.string ByteArray.empty, .slice none 0 0, .int .i64 0, .int .i64 0, .int .i64 0], .slice none 0 0, .slice none 0 0], []⟩ 8 (by kernel_rfl) (by kernel_rfl) (by kernel_rfl) (by kernel_rfl)) ?_
  intro W base args ds gs before hval0 hW hcnd hsz0 _
  have hval : ∀ (j : Nat) t v, Try.f4.params[j]? = some t → args[j]? = some v → Value.okWide Try.prog W .any base t v := hval0
  have hW' := hW
  obtain ⟨p, q, hA0, hV, rfl, hfz, hnd⟩ := hW
  have hA : DataW.TrodAll enc Try.prog W 0 (fun _ => true) true Try.f4.params.toList args.toList ds p := hA0
  rw [Try.params4] at hA hval
  obtain ⟨v0, vs0, d0, ds0, p0, q0, hargs, rfl, rfl, h0, r0⟩ := trodAll_cons hA
  obtain ⟨v1, vs1, d1, ds1, p1, q1, rfl, rfl, rfl, h1, r1⟩ := trodAll_cons r0
  obtain ⟨v2, vs2, d2, ds2, p2, q2, rfl, rfl, rfl, h2, r2⟩ := trodAll_cons r1
  obtain ⟨rfl, rfl, rfl⟩ := trodAll_nil r2
  obtain rfl : args = #[v0, v1, v2] := by cases args; simp_all
  obtain ⟨rfl, rfl⟩ := trodVars_none hV
  have k0 := h0
  have lt0 : ∀ x ∈ p0, x.block < W.heap.size := by obtain ⟨m, hm⟩ := k0; exact DataW.trod_lt m _ _ _ hm
  have k1 := h1
  have lt1 : ∀ x ∈ p1, x.block < W.heap.size := by obtain ⟨m, hm⟩ := k1; exact DataW.trod_lt m _ _ _ hm
  have k2 := h2
  have lt2 : ∀ x ∈ p2, x.block < W.heap.size := by obtain ⟨m, hm⟩ := k2; exact DataW.trod_lt m _ _ _ hm
  obtain ⟨c0, oa0, cap0, rfl, hs0, hw0⟩ := open_contest (hval 0 24 v0 rfl rfl) h0
  have hN0 := hw0 reachBytes (fun n hn => by have := List.all_eq_true.1 hsz0 _ (DataW.weights_mem_each (j := 0) (t := 24) (by kernel_rfl) rfl n hn); simpa using this)
  rw [show reachBytes = 140737488351232 from rfl] at hN0
  obtain ⟨oa1, cap1, P1, rfl, hl1, hs1⟩ := open_rowsP (hval 1 32 v1 rfl rfl) h1
  obtain ⟨oa2, cap2, P2, rfl, hl2, hs2⟩ := open_rowsP (hval 2 32 v2 rfl rfl) h2
  clear hA0 hval0
  refine (countPairs_any c0 P1 P2 oa0 cap0 oa1 cap1 oa2 cap2 W hs0 hs1 hs2 ⟨by have := hN0.1; omega, fun o ho => by have := hN0.2.1 o ho; omega, by decide⟩ (by have := hN0.2.2; omega) hl2).mono fun e W' ⟨he, bel⟩ => ?_
  subst he
  exact ⟨_, rfl, _, _, _, [], _, [], hW', trodAll_mk1 (shut_bool Try.underlying4 _),
    (trodAll_cons_mk (Below.trod laidOut (by kernel_rfl) (of_decide_eq_true (by kernel_rfl)) k0 bel lt0) (trodAll_cons_mk (Below.trod laidOut (by kernel_rfl) (of_decide_eq_true (by kernel_rfl)) k1 bel lt1) (trodAll_cons_mk (Below.trod laidOut (by kernel_rfl) (of_decide_eq_true (by kernel_rfl)) k2 bel lt2) trodAll_mk0))),
    rfl, bel.frame _, fun h => by cases h⟩

theorem over : Rows.countPairsRow.holds Try.pinned (OpenSpec.ofChange Rows.countPairsSpec) :=
  OpenClaim.holds_of_wide 4 Try.f4 rfl rfl rfl rfl rfl rfl rfl ⟨rfl, rfl, rfl, rfl, rfl⟩ rfl rfl rfl rfl rfl (by kernel_rfl) Try.func4 (by kernel_rfl)
    (of_decide_eq_true (by kernel_rfl)) (by unfold Func.isWrapper; first | (rw [if_pos (by decide +kernel)]; kernel_rfl) | (rw [if_neg (by decide +kernel)]; exact ⟨rfl, rfl⟩))
    (fun os started H enc _ => lifted os started H enc)

theorem proved : Rows.CountPairsSaid := over
#print axioms proved
end Go.Proofs.Ytnohcdpnnhmpfaa.countPairs
