/-
  What a statement's arguments are, as values: arrays of 32-bit words.
-/
import Derived.Test.YtohemcdcmlngiaaDoorRows
import Derived.Test.YtohemcdcmlngiaaDoorBBase
import Derived.WalkKit
import Derived.ProofKit
import Derived.OpenShut
import Derived.ShutString
import Derived.ChangeOld
import Derived.Below
namespace Go.Proofs.YtohemcdcmlngiaaDoor.FR
open Go.RowKit ML FM
open Go.ChangeShapes Go.WideShapes Go.ChangeAt

section
variable {H : Type} {enc : TypeId × Value → H} {P : Program} {w : World} {base : Nat} {spare : TypeId → Bool} {held : Bool}

theorem okWide_array {r : Reach} {b0 : Nat} {t e : TypeId} {n : Nat} {v : Value} (ht : P.underlying t = some (.array n e)) (h : Value.okWide P w r b0 t v) :
    ∃ cs, v = .agg cs ∧ cs.size = P.cellsOf t := by
  unfold Value.okWide at h
  rw [ht] at h
  obtain ⟨cs, h1, h2, _⟩ := h
  exact ⟨cs, h1, h2⟩

theorem open_words {r : Reach} {b0 : Nat} {t e : TypeId} {n : Nat} {v : Value} {d : DataW H} {p : List MemPlace} (ht : P.underlying t = some (.array n e)) (he : P.underlying e = some (.int .u32))
    (hce : P.cellsOf e = 1) (hct : P.cellsOf t = n) (hval : Value.okWide P w r b0 t v) (hd : DataW.Trod enc P w base spare held t v d p) :
    ∃ V : List U, v = .agg (vals V) ∧ V.length = n := by
  obtain ⟨cs, rfl, hsz⟩ := okWide_array ht hval
  obtain ⟨fuel, hf⟩ := hd
  obtain ⟨xs, m, _, _, _, hl, hel⟩ := DataW.trod_array ht hf
  have hsz' : cs.size = n := hsz.trans hct
  have key : ∀ i (hi : i < n), ∃ x : U, cs[i]? = some (uv x) := by
    intro i hi
    have h1 := hel i hi
    rw [hce, Nat.mul_one] at h1
    have hxi : i < xs.length := by omega
    rw [List.getElem?_eq_getElem hxi] at h1
    obtain ⟨k, hk, _, hw⟩ := DataW.trod_int he h1
    have hlt : i < cs.size := by omega
    have h2 : ((Value.agg cs).cells.toList.drop i).take 1 = [cs[i]] := by
      show (cs.toList.drop i).take 1 = [cs[i]]
      rw [List.drop_eq_getElem_cons (by simpa using hlt)]
      simp
    rw [h2] at hk
    have h3 : cs[i] = .int .u32 k := by simpa using hk
    have hb := bounds_u32 hw
    refine ⟨BitVec.ofNat 32 k.toNat, ?_⟩
    rw [Array.getElem?_eq_getElem hlt, h3]
    unfold uv
    rw [un_ofNat _ (by omega)]
    congr 2
    omega
  refine ⟨cs.toList.map fun v => BitVec.ofNat 32 (intOf v).toNat, ?_, by simp [hsz']⟩
  congr 1
  apply Array.ext (by simp [vals])
  intro i h1 h2
  obtain ⟨x, hx⟩ := key i (by omega)
  rw [Array.getElem?_eq_getElem h1] at hx
  have hx' : cs[i] = uv x := by simpa using hx
  simp only [vals, List.map_map, List.getElem_toArray, List.getElem_map, Function.comp]
  have h4 : cs.toList[i]'(by simpa using h1) = uv x := by simpa using hx'
  rw [hx', h4]
  unfold uv
  simp only [intOf]
  have := un_nonneg x
  have hl := un_lt x
  rw [un_ofNat _ (by omega), Int.toNat_of_nonneg (un_nonneg x)]
end
end Go.Proofs.YtohemcdcmlngiaaDoor.FR
