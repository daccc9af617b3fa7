/-
  NatField: the frame and the card.
-/
import Derived.Test.YtkkpfoidppjbdaaDoorCards
import Derived.Test.YtkkpfoidppjbdaaDoorTie
import Derived.Test.YtkkpfoidppjbdaaDoorFrame
import Derived.Test.YtkkpfoidppjbdaaDoorNatFld
import Derived.SizedLaws
import Derived.WalkKit
import Derived.ProofKit
import Derived.OpenShut
import Derived.Deep.DeepHandedRow
import Derived.Lib.LaidTab
import Derived.Lib.SmallJoins
namespace Go.Proofs.YtkkpfoidppjbdaaDoor.natField
open Go.ChangeShapes Go.WideShapes Go.ChangeAt Go.RowKit Go.Joins Go.Deep ML
open Go.ChangeMaps (open_string shut_string)
set_option linter.unusedVariables false

theorem own : ownKnob Tryd.prog.godebug = none := by kernel_rfl
theorem laidOut : laidOutB Tryd.prog = true := by kernel_rfl

def lay2 : Obj → Obj
  | .cells _ t frozen => .cells (([128, 191, 160, 191, 128, 159, 144, 191, 128, 143] ++ List.replicate 22 0).map fun n : Nat => Value.int .u8 (n : Int)).toArray t frozen
  | o => o
def lay1 : Obj → Obj
  | .cells _ t frozen => .cells (Go.Pinned.utf8FirstZ.map fun n : Nat => Value.int .u8 (n : Int)).toArray t frozen
  | o => o
noncomputable def laidWorld (os : Os) : World :=
  { World.holding Tryd.prog os ⟨#[], #[], []⟩ with heap := ((World.holding Tryd.prog os ⟨#[], #[], []⟩).heap.modify 2 lay2).modify 1 lay1 }
set_option maxRecDepth 100000 in
theorem laid_met (os : Os) : laidMet Tryd.prog Rows.natFieldRow.laid ((laidWorld os).forCall (fun _ _ => 0) ⟨#[], #[.agg #[.string .empty, .string .empty], .agg #[.string .empty, .string .empty], .agg #[.string .empty, .string .empty]], []⟩).memory :=
  laidMet_of_run' 8 (by kernel_rfl) (by kernel_rfl)
set_option maxRecDepth 100000 in
theorem reads (os : Os) {H : Type} (enc : TypeId × Value → H) : ∃ places, DataW.whole enc Tryd.prog ((laidWorld os).forCall (fun _ _ => 0) ⟨#[], #[.agg #[.string .empty, .string .empty], .agg #[.string .empty, .string .empty], .agg #[.string .empty, .string .empty]], []⟩).memory Tryd.f8.params.toList Rows.natFieldSpec.vars false #[Value.agg #[.string .empty, .string .empty], Value.agg #[.string .empty, .string .empty], Value.agg #[.string .empty, .string .empty]].toList 8 = some ([.agg [.lit (.string []), .lit (.string [])], .agg [.lit (.string []), .lit (.string [])], .agg [.lit (.string []), .lit (.string [])]], [], places) :=
  ⟨[], by kernel_rfl⟩

set_option maxRecDepth 100000 in
theorem contract (H : Type) (enc : TypeId × Value → H) (W : World) (base : Nat) (args : Array Value) (ds gs : List (DataW H)) (before : List MemPlace)
    (hval0 : ∀ (j : Nat) t v, Tryd.f8.params[j]? = some t → args[j]? = some v → Value.okWide Tryd.prog W .any base t v)
    (hW : DataW.Whole enc Tryd.prog Tryd.f8.params.toList Rows.natFieldSpec.vars false W args.toList ds gs before)
    (hsz0 : (DataW.weightsEach Tryd.prog (Tryd.f8.params.toList ++ Rows.natFieldSpec.plain.varTypes Tryd.prog) (ds ++ gs)).all (· ≤ reachBytes) = true) :
    Calls Tryd.prog 8 args W fun e W' => ∃ v, e = .returned v ∧ Rows.natFieldSpec.post enc Tryd.prog Tryd.f8 false true false false W args v W' := by
  have hval : ∀ (j : Nat) t v, Tryd.f8.params[j]? = some t → args[j]? = some v → Value.okWide Tryd.prog W .any base t v := hval0
  have hW' := hW
  obtain ⟨p, q, hA0, hV, rfl, hfz, hnd⟩ := hW
  have hA : DataW.TrodAll enc Tryd.prog W 0 (fun _ => true) true Tryd.f8.params.toList args.toList ds p := hA0
  rw [Tryd.params8] at hA hval
  obtain ⟨v0, vs0, d0, ds0, p0, q0, hargs, rfl, rfl, h0, r0⟩ := trodAll_cons hA
  obtain ⟨v1, vs1, d1, ds1, p1, q1, rfl, rfl, rfl, h1, r1⟩ := trodAll_cons r0
  obtain ⟨v2, vs2, d2, ds2, p2, q2, rfl, rfl, rfl, h2, r2⟩ := trodAll_cons r1
  obtain ⟨rfl, rfl, rfl⟩ := trodAll_nil r2
  obtain rfl : args = #[v0, v1, v2] := by cases args; simp_all
  obtain ⟨rfl, rfl⟩ := trodVars_none hV
  have k0 := h0
  have lt0 : ∀ x ∈ p0, x.block < W.heap.size := by obtain ⟨m, hm⟩ := k0; exact DataW.trod_lt m _ _ _ hm
  have k1 := h1
  have lt1 : ∀ x ∈ p1, x.block < W.heap.size := by obtain ⟨m, hm⟩ := k1; exact DataW.trod_lt m _ _ _ hm
  have k2 := h2
  have lt2 : ∀ x ∈ p2, x.block < W.heap.size := by obtain ⟨m, hm⟩ := k2; exact DataW.trod_lt m _ _ _ hm
  obtain ⟨u0, z0, y0, g0, n0, rfl, hd0, hp0, ta0, tb0⟩ := open_agg2 Tryd.underlying45 (by kernel_rfl) (by kernel_rfl) (hval 0 45 v0 rfl rfl) h0
  obtain ⟨s0, hs0, hys0, -⟩ := DataW.trod_string Tryd.underlying9 ta0
  obtain rfl : u0 = .string s0 := by simpa using hs0
  obtain ⟨t0, ht0, hyt0, -⟩ := DataW.trod_string Tryd.underlying9 tb0
  obtain rfl : z0 = .string t0 := by simpa using ht0
  rw [hys0, hyt0] at hd0
  have ws0 : s0.data.toList.length ≤ reachBytes := by
    have := List.all_eq_true.1 hsz0 _ (DataW.weights_mem_each (j := 0) (t := 45) (by kernel_rfl) (by rw [hd0]; rfl) s0.data.toList.length (by simp [DataW.weights, DataW.weightsEach, Tryd.underlying45]))
    simpa using this
  rw [show reachBytes = 140737488351232 from rfl] at ws0
  have wt0 : t0.data.toList.length ≤ reachBytes := by
    have := List.all_eq_true.1 hsz0 _ (DataW.weights_mem_each (j := 0) (t := 45) (by kernel_rfl) (by rw [hd0]; rfl) t0.data.toList.length (by simp [DataW.weights, DataW.weightsEach, Tryd.underlying45]))
    simpa using this
  rw [show reachBytes = 140737488351232 from rfl] at wt0
  obtain ⟨u1, z1, y1, g1, n1, rfl, hd1, hp1, ta1, tb1⟩ := open_agg2 Tryd.underlying45 (by kernel_rfl) (by kernel_rfl) (hval 1 45 v1 rfl rfl) h1
  obtain ⟨s1, hs1, hys1, -⟩ := DataW.trod_string Tryd.underlying9 ta1
  obtain rfl : u1 = .string s1 := by simpa using hs1
  obtain ⟨t1, ht1, hyt1, -⟩ := DataW.trod_string Tryd.underlying9 tb1
  obtain rfl : z1 = .string t1 := by simpa using ht1
  rw [hys1, hyt1] at hd1
  have ws1 : s1.data.toList.length ≤ reachBytes := by
    have := List.all_eq_true.1 hsz0 _ (DataW.weights_mem_each (j := 1) (t := 45) (by kernel_rfl) (by rw [hd1]; rfl) s1.data.toList.length (by simp [DataW.weights, DataW.weightsEach, Tryd.underlying45]))
    simpa using this
  rw [show reachBytes = 140737488351232 from rfl] at ws1
  have wt1 : t1.data.toList.length ≤ reachBytes := by
    have := List.all_eq_true.1 hsz0 _ (DataW.weights_mem_each (j := 1) (t := 45) (by kernel_rfl) (by rw [hd1]; rfl) t1.data.toList.length (by simp [DataW.weights, DataW.weightsEach, Tryd.underlying45]))
    simpa using this
  rw [show reachBytes = 140737488351232 from rfl] at wt1
  obtain ⟨u2, z2, y2, g2, n2, rfl, hd2, hp2, ta2, tb2⟩ := open_agg2 Tryd.underlying45 (by kernel_rfl) (by kernel_rfl) (hval 2 45 v2 rfl rfl) h2
  obtain ⟨s2, hs2, hys2, -⟩ := DataW.trod_string Tryd.underlying9 ta2
  obtain rfl : u2 = .string s2 := by simpa using hs2
  obtain ⟨t2, ht2, hyt2, -⟩ := DataW.trod_string Tryd.underlying9 tb2
  obtain rfl : z2 = .string t2 := by simpa using ht2
  rw [hys2, hyt2] at hd2
  have ws2 : s2.data.toList.length ≤ reachBytes := by
    have := List.all_eq_true.1 hsz0 _ (DataW.weights_mem_each (j := 2) (t := 45) (by kernel_rfl) (by rw [hd2]; rfl) s2.data.toList.length (by simp [DataW.weights, DataW.weightsEach, Tryd.underlying45]))
    simpa using this
  rw [show reachBytes = 140737488351232 from rfl] at ws2
  have wt2 : t2.data.toList.length ≤ reachBytes := by
    have := List.all_eq_true.1 hsz0 _ (DataW.weights_mem_each (j := 2) (t := 45) (by kernel_rfl) (by rw [hd2]; rfl) t2.data.toList.length (by simp [DataW.weights, DataW.weightsEach, Tryd.underlying45]))
    simpa using this
  rw [show reachBytes = 140737488351232 from rfl] at wt2
  clear hA0 hval0 hval
  have walk := natField_any s0.data.toList t0.data.toList s1.data.toList t1.data.toList s2.data.toList t2.data.toList W (by omega) (by omega) (by omega) (by omega) (by omega) (by omega)
  refine walk.mono fun e W' ⟨he, bel⟩ => ?_
  subst he
  exact ⟨_, rfl, _, _, _, [], _, [], hW', trodAll_mk1 (shut_bool Tryd.underlying4 _),
    (trodAll_cons_mk (Below.trod laidOut (by kernel_rfl) (of_decide_eq_true (by kernel_rfl)) k0 bel lt0) (trodAll_cons_mk (Below.trod laidOut (by kernel_rfl) (of_decide_eq_true (by kernel_rfl)) k1 bel lt1) (trodAll_cons_mk (Below.trod laidOut (by kernel_rfl) (of_decide_eq_true (by kernel_rfl)) k2 bel lt2) trodAll_mk0))),
    rfl, bel.frame _, fun h => by cases h⟩

set_option maxRecDepth 100000 in
theorem lifted (os : Os) (started : os.Started) (H : Type) (enc : TypeId × Value → H) (F : Stop.Interp) :
    ReturnsInHanded {} Tryd.checked os 8 .any ((OpenSpec.ofChange Rows.natFieldSpec).preRow enc Tryd.prog Tryd.f8 Rows.natFieldRow.domain false Rows.natFieldRow.laid) (((OpenSpec.ofChange Rows.natFieldSpec).at F).post enc Tryd.prog Tryd.f8 false true false false) := by
  obtain ⟨places, hx⟩ := reads os enc
  refine returnsInHanded_of_row (C := Tryd.checked) (s := OpenSpec.ofChange Rows.natFieldSpec) own started (by kernel_rfl) Tryd.func8
    (witness_row_at (enc := enc) (C := Tryd.checked) false (laidWorld os) #[.agg #[.string .empty, .string .empty], .agg #[.string .empty, .string .empty], .agg #[.string .empty, .string .empty]] rfl (by kernel_rfl) (by kernel_rfl) (by kernel_rfl)
      (OpenSpec.preRow_of_cond 8 hx (by kernel_rfl) (fun k hk => by cases hk) (by kernel_rfl) (laid_met os))) ?_
  intro W base args ds gs before hval hW _ _ hsz _ _ _
  exact contract H enc W base args ds gs before hval hW hsz

theorem said : Rows.NatFieldSaid :=
  OpenClaim.holds_of_cond 8 Tryd.f8 rfl rfl rfl rfl rfl rfl rfl ⟨rfl, rfl, rfl, rfl, rfl⟩ rfl rfl rfl rfl rfl (by kernel_rfl) Tryd.func8 (by kernel_rfl)
    (of_decide_eq_true (by kernel_rfl)) (by unfold Func.isWrapper; first | (rw [if_pos (by decide +kernel)]; kernel_rfl) | (rw [if_neg (by decide +kernel)]; exact ⟨rfl, rfl⟩))
    (fun os started H enc _ F => by rw [OpenClaim.pre_eq_preRow]; exact lifted os started H enc F)

theorem plain (f : FuncId) (fn : Func) (hf : Tryd.pinned.checked.prog.funcNamed "hustings/hustingslaw2.NatField" = some f) (hfn : Tryd.pinned.checked.prog.funcs[f]? = some fn) :
    false = Tryd.pinned.checked.prog.looks [] ∧ ∀ (j : Nat) t, fn.params[j]? = some t → Tryd.pinned.checked.prog.wantsStandIn t = false := by
  obtain rfl : f = 8 := Option.some.inj ((show Tryd.prog.funcNamed "hustings/hustingslaw2.NatField" = some 8 by kernel_rfl).symm.trans hf) |>.symm
  obtain rfl : fn = Tryd.f8 := (Option.some.inj (Tryd.func8.symm.trans hfn)).symm
  refine ⟨by kernel_rfl, fun j t ht => ?_⟩
  rw [Tryd.params8] at ht
  obtain rfl : t = 45 := by simpa using Array.mem_of_getElem? ht
  exact (show Tryd.prog.wantsStandIn 45 = false by kernel_rfl)

theorem proved : Rows.NatFieldCardSaid :=
  Claim7.holds_tied_plain_at .later [] _ _ _ _ said (fun _ h => by cases h) (by kernel_rfl) (fun _ h => by cases h) natField_row_tie rfl ⟨rfl, rfl⟩ (by kernel_rfl) rfl plain (by kernel_rfl)
#print axioms proved
end Go.Proofs.YtkkpfoidppjbdaaDoor.natField
