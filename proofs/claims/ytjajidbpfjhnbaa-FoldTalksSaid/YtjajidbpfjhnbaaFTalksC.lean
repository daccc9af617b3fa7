/-
  FoldTalks: for any label and steps: true. No condition.
-/
import Derived.Test.YtjajidbpfjhnbaaRows
import Derived.Test.YtjajidbpfjhnbaaFrame
import Derived.Test.YtjajidbpfjhnbaaFTalks
import Derived.Test.YtjajidbpfjhnbaaFSteps2
import Derived.SizedLaws
namespace Go.Proofs.Ytjajidbpfjhnbaa.foldTalks
open Go.ChangeShapes Go.WideShapes Go.ChangeAt Go.RowKit ML FM FR
open Go.ChangeMaps (open_string shut_string)
set_option linter.unusedVariables false

theorem own : ownKnob Try.prog.godebug = none := by kernel_rfl
theorem laidOut : laidOutB Try.prog = true := by kernel_rfl

set_option maxRecDepth 100000 in
theorem lifted (os : Os) (started : os.Started) (H : Type) (enc : TypeId × Value → H) :
    ReturnsInHanded {} Try.checked os 8 .any (Rows.foldTalksSpec.pre6 enc Try.prog Try.f8 Rows.foldTalksRow.domain false) (Rows.foldTalksSpec.post enc Try.prog Try.f8 false true false false) := by
  refine returnsInHanded_of_change_sized (C := Try.checked) own started (by kernel_rfl) Try.func8
    (ChangeSpec.witness6 (enc := enc) (C := Try.checked) false ⟨#[], #[.string ByteArray.empty, .slice none 0 0], []⟩ 8 (by kernel_rfl) (by kernel_rfl) (by kernel_rfl) (by kernel_rfl)) ?_
  intro W base args ds gs before hval0 hW hcnd hsz0 _
  have hval : ∀ (j : Nat) t v, Try.f8.params[j]? = some t → args[j]? = some v → Value.okWide Try.prog W .any base t v := hval0
  have hW' := hW
  obtain ⟨p, q, hA0, hV, rfl, hfz, hnd⟩ := hW
  have hA : DataW.TrodAll enc Try.prog W 0 (fun _ => true) true Try.f8.params.toList args.toList ds p := hA0
  rw [Try.params8] at hA hval
  obtain ⟨v0, vs0, d0, ds0, p0, q0, hargs, rfl, rfl, h0, r0⟩ := trodAll_cons hA
  obtain ⟨v1, vs1, d1, ds1, p1, q1, rfl, rfl, rfl, h1, r1⟩ := trodAll_cons r0
  obtain ⟨rfl, rfl, rfl⟩ := trodAll_nil r1
  obtain rfl : args = #[v0, v1] := by cases args; simp_all
  obtain ⟨rfl, rfl⟩ := trodVars_none hV
  have k0 := h0
  have lt0 : ∀ x ∈ p0, x.block < W.heap.size := by obtain ⟨m, hm⟩ := k0; exact DataW.trod_lt m _ _ _ hm
  have k1 := h1
  have lt1 : ∀ x ∈ p1, x.block < W.heap.size := by obtain ⟨m, hm⟩ := k1; exact DataW.trod_lt m _ _ _ hm
  obtain ⟨x0, rfl, hd0, -, wx0⟩ := open_string Try.underlying9 (hval 0 9 v0 rfl rfl) h0
  have ws0 : x0.data.toList.length ≤ reachBytes := sized_string (j := 0) (t := 9) hsz0 (by kernel_rfl) (by rw [hd0]; rfl)
  obtain ⟨oa, cap, Ss, rfl, hs, hd1⟩ := open_steps (hval 1 41 v1 rfl rfl) h1
  clear hA0 hval0
  have hb : Ss.length * 48 ≤ reachBytes ∧ ∀ s ∈ Ss, s.L.length ≤ reachBytes ∧ s.X.length ≤ reachBytes := by
    rcases hd1 with ⟨_, rfl⟩ | ⟨sp, hd1⟩
    · exact ⟨by simp, fun s hs => by simp at hs⟩
    · exact sized_steps (j := 1) hsz0 (by kernel_rfl) (by rw [hd1]; rfl)
  rw [show reachBytes = 140737488351232 from rfl] at hb ws0
  refine (foldTalks_any x0.data.toList oa Ss cap W hs (by omega) (by omega) (fun s hs => by have := hb.2 s hs; exact ⟨by omega, by omega⟩)).mono fun e W' ⟨he, bel⟩ => ?_
  subst he
  exact ⟨_, rfl, _, _, _, [], _, [], hW', trodAll_mk1 (shut_bool Try.underlying4 _),
    (trodAll_cons_mk (Below.trod laidOut (by kernel_rfl) (of_decide_eq_true (by kernel_rfl)) k0 bel lt0) (trodAll_cons_mk (Below.trod laidOut (by kernel_rfl) (of_decide_eq_true (by kernel_rfl)) k1 bel lt1) trodAll_mk0)),
    rfl, bel.frame _, fun h => by cases h⟩

theorem over : Rows.foldTalksRow.holds Try.pinned (OpenSpec.ofChange Rows.foldTalksSpec) :=
  OpenClaim.holds_of_wide 8 Try.f8 rfl rfl rfl rfl rfl rfl rfl ⟨rfl, rfl, rfl, rfl, rfl⟩ rfl rfl rfl rfl rfl (by kernel_rfl) Try.func8 (by kernel_rfl)
    (of_decide_eq_true (by kernel_rfl)) (by unfold Func.isWrapper; first | (rw [if_pos (by decide +kernel)]; kernel_rfl) | (rw [if_neg (by decide +kernel)]; exact ⟨rfl, rfl⟩))
    (fun os started H enc _ => lifted os started H enc)

theorem proved : Rows.FoldTalksSaid := over
#print axioms proved
end Go.Proofs.Ytjajidbpfjhnbaa.foldTalks
