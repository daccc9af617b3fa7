/-
  Chapter 4, WirePrints: wire.write. Printed by tools/genpr.py.
-/
import Derived.Test.YtohemcdcmlngiaaDoorPrL
import Derived.Test.YtohemcdcmlngiaaDoorPrB
namespace Go.Proofs.YtohemcdcmlngiaaDoor.PR
set_option linter.unusedVariables false
set_option linter.unusedSimpArgs false
open Go.RowKit ML FM

/-- a builder that holds S -/
def Bd (B0 b : Nat) (S : Bytes) (w : World) : Prop := Lib.IsBuilder 46 5 B0 b (Lib.byteCells S) w
theorem Bd.below {B0 b : Nat} {S : Bytes} {w w' : World} (h : Bd B0 b S w) (hb : Below w.heap.size w w') : Bd B0 b S w' := isBuilder_below h hb
theorem wByte_any (B0 b : Nat) (S : Bytes) (x : UInt8) (k : Int) (hx : k = (x.toNat : Int)) (w : World) (h : Bd B0 b S w) (hl : S.length ≤ 4000000) (hBw : B0 ≤ w.heap.size) :
    Calls Tryd.prog 35 #[.pointer (some ⟨b, 0, none⟩), .int .u8 k] w fun e w' => e = .returned .nilIface ∧ Bd B0 b (S ++ [x]) w' ∧ Below B0 w w' ∧ KT w w' := by
  subst hx
  refine (writeByte_any B0 b _ x.toNat w h (by rw [Lib.byteCells_length]; omega) hBw).mono ?_
  rintro e w' ⟨rfl, h1, h2, h3⟩
  refine ⟨rfl, ?_, h2, h3⟩
  have : Lib.byteCells (S ++ [x]) = Lib.byteCells S ++ [.int .u8 (x.toNat : Int)] := by simp [Lib.byteCells]
  unfold Bd
  rw [this]
  exact .inr h1
theorem wStr_any (B0 b : Nat) (S T : Bytes) (w : World) (h : Bd B0 b S w) (hl : S.length ≤ 4000000) (hT : T.length ≤ 4000000) (hBw : B0 ≤ w.heap.size) :
    Calls Tryd.prog 34 #[.pointer (some ⟨b, 0, none⟩), .string ⟨T.toArray⟩] w fun e w' => (∃ v, e = .returned v) ∧ Bd B0 b (S ++ T) w' ∧ Below B0 w w' ∧ KT w w' := by
  refine (writeString_any B0 b _ ⟨T.toArray⟩ w h (by rw [Lib.byteCells_length]; show S.length + T.toArray.size ≤ _; simp; omega) hBw).mono ?_
  rintro e w' ⟨rfl, h1, h2, h3⟩
  refine ⟨⟨_, rfl⟩, ?_, h2, h3⟩
  have : Lib.byteCells (S ++ T) = Lib.byteCells S ++ Lib.strCells ⟨T.toArray⟩ := by simp [Lib.byteCells, Lib.strCells]
  unfold Bd
  rw [this]
  exact .inr h1
set_option maxHeartbeats 1000000 in
set_option maxRecDepth 100000 in
theorem bLen_any (B0 b : Nat) (S : Bytes) (w : World) (h : Bd B0 b S w) : Calls Tryd.prog 36 #[.pointer (some ⟨b, 0, none⟩)] w fun e w' => e = .returned (.int .i64 (S.length : Int)) ∧ w = w' := by
  have hc : ∃ oa cap, w.cell? ⟨b, 1, none⟩ = some (.slice oa S.length cap) := by
    have key : ∀ p, Lib.BuilderAt 46 5 B0 b p (Lib.byteCells S) w → ∃ oa cap, w.cell? ⟨b, 1, none⟩ = some (.slice oa S.length cap) := by
      intro p hp
      obtain ⟨_, v, hb, hown, _⟩ := hp
      have h1 : w.cell? ⟨b, 1, none⟩ = some v := by rw [Lib.cell_of_heap hb]; rfl
      rcases hown.2 with ⟨hv, h0⟩ | ⟨g, cap, cur, hv, _⟩
      · rw [Lib.byteCells_length] at h0
        exact ⟨none, 0, by rw [h1, hv, h0]⟩
      · rw [Lib.byteCells_length] at hv
        exact ⟨_, cap, by rw [h1, hv]⟩
    rcases h with h | h
    · exact key _ h
    · exact key _ h
  obtain ⟨oa, cap, c1⟩ := hc
  clear h
  go_enter Tryd.func36, Tryd.ntmps36
  go_wp2_with fail
  go_ret
  exact ⟨rfl, rfl⟩
/-- is there room for it, and is it not too deep? -/
def wrOk (I : Inf) (above k : Nat) : Prop := I.dep + above ≤ 12 ∧ k + I.siz ≤ 1048576
instance (I : Inf) (above k : Nat) : Decidable (wrOk I above k) := by unfold wrOk; infer_instance
def WrGot (I : Inf) (above b B0 : Nat) (S : Bytes) (w : World) (e : Ending) (w' : World) : Prop :=
  Below B0 w w' ∧ KT w w' ∧ if wrOk I above S.length then e = .returned (.tuple #[]) ∧ Bd B0 b (S ++ I.txt) w' else e = .panicked [{ v := .iface 65 (.int .i64 3), recovered := false }]
end Go.Proofs.YtohemcdcmlngiaaDoor.PR
