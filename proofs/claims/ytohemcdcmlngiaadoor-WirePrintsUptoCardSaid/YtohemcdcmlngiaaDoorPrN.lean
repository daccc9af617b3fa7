/-
  Chapter 4, WirePrints: the node that is handed in.
-/
import Derived.Test.YtohemcdcmlngiaaDoorPrO
import Derived.Test.YtohemcdcmlngiaaDoorPrQ
namespace Go.Proofs.YtohemcdcmlngiaaDoor.PR
set_option linter.unusedVariables false
set_option linter.unusedSimpArgs false
open Go.RowKit ML FM
open Go.ChangeShapes Go.WideShapes Go.ChangeAt Go.Deep

section
variable {H : Type} {enc : TypeId × Value → H} {w : World} {base : Nat} {spare : Nat → Bool} {held : Bool}
set_option maxRecDepth 100000 in
theorem open_node {r : Reach} {b0 : Nat} {v : Value} {d : DataW H} {ps : List MemPlace} (hval : Value.okWide Tryd.prog w r b0 24 v) (hd : DataW.Trod enc Tryd.prog w base spare held 24 v d ps) :
    ∃ (l : Bool) (t : Bytes) (oa : Option Addr) (n cap : Nat) (I : Inf), v = .agg #[.bool l, .string ⟨t.toArray⟩, .slice oa n cap] ∧ NdAt w [.bool l, .string ⟨t.toArray⟩, .slice oa n cap] I ∧ I.bulk ≤ Rows.uptoBulk d := by
  obtain ⟨cs, rfl, hsz⟩ := okWide_struct Tryd.underlying24 hval
  obtain ⟨l0⟩ := cs
  obtain ⟨fuel, hf⟩ := hd
  obtain ⟨I, hI, hb⟩ := node_t fuel _ _ hf
  have hI2 : NdAt w l0 I := by simpa [Value.cells] using hI
  obtain ⟨l, t, oa, n, cap, e⟩ := hI2.form
  subst e
  exact ⟨l, t, oa, n, cap, I, rfl, hI2, hb⟩
end
end Go.Proofs.YtohemcdcmlngiaaDoor.PR
