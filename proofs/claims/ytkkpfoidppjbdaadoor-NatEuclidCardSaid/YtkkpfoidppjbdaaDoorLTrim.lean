/-
  exact.trim: rows of limbs.
-/
import Derived.Test.YtkkpfoidppjbdaaDoorLMem
import Derived.Test.YtkkpfoidppjbdaaDoorLDig3
import Derived.Test.YtkkpfoidppjbdaaDoorChecked
import Derived.OwnWalk
import Derived.WalkKit
import Derived.Deep.CutBlock
import Derived.Deep.DeepCutAuto
import Derived.Lib.Hide
import Derived.Deep.RegionWith
import Derived.Deep.OwnRows
namespace Go.Proofs.YtkkpfoidppjbdaaDoor
set_option linter.unusedVariables false
open Go.RowKit ML NL

theorem info_limb : (Tryd.prog.info? 105).map (fun i => (i.zero, i.size, i.bytes)) = some (some (.int .u32 0), 1, 4) := by kernel_rfl
theorem news_uvals (w : World) (news : List Nat) (t : TypeId) (n : Nat) (hn : w.heap.size = n) : ∀ j u, (uvals news)[j]? = some u → (w.alloc (.cells (uvals news).toArray t)).cell? ((⟨n, 0, none⟩ : Addr).add j) = some u := news_new w (uvals news) t n hn
set_option maxHeartbeats 1000000 in
set_option maxRecDepth 100000 in
/-- 'trim': the zeros at the end are cut off -/
theorem exTrim_any (oa : Option Addr) (L : List Nat) (cap : Nat) (w : World) (h : LimbsAt w oa L) (hl : L.length < 9223372036854775808) (hcap : L.length ≤ cap) (hA : AllD L) :
    Calls Tryd.prog 85 #[.slice oa L.length cap] w fun e w' => e = .returned (.slice oa (trimL L).length cap) ∧ LimbsAt w oa (trimL L) ∧ w' = w := by
  have H := Lib.hid h
  have HA := Lib.hid hA
  clear h hA
  go_enter Tryd.func85, Tryd.ntmps85
  go_wp2_with fail
  go_loopw [0] (fun v wr => ∃ k : Nat, k ≤ L.length ∧ v = .slice oa k cap ∧ (∀ i, k ≤ i → L.getD i 0 = 0) ∧ wr = w) (fun v _ => match v with | .slice _ n _ => n | _ => 0)
  case atStart => exact ⟨L.length, Nat.le_refl _, rfl, fun i hi => by simp [List.getD_eq_getElem?_getD, List.getElem?_eq_none hi], rfl⟩
  case round =>
  obtain ⟨k, hk, rfl, hz, rfl⟩ := hrel
  have HZ := Lib.hid hz
  clear hz
  by_cases h0 : k = 0
  · subst h0
    have ht := take_trim L 0 HA.out (by omega) HZ.out (.inl rfl)
    rw [List.take_zero] at ht
    have HT := Lib.hid ht
    clear ht
    go_wp2_with fail
    go_ret
    rw [← HT.out]
    exact ⟨rfl, ⟨fun i hi => by simp at hi⟩, rfl⟩
  obtain ⟨j, rfl⟩ : ∃ j, k = j + 1 := ⟨k - 1, by omega⟩
  obtain ⟨a, rfl, hc⟩ := H.out.get j (by omega)
  have hk63 : (j : Int) + 1 < 9223372036854775808 := by omega
  have hjc : (j : Int) ≤ cap := by omega
  by_cases hd0 : L.getD j 0 = 0
  · have hz2 := Lib.hid (show ∀ i, j ≤ i → L.getD i 0 = 0 from fun i hi => by
      by_cases he : i = j
      · rw [he]; exact hd0
      · exact HZ.out i (by omega))
    rw [hd0] at hc
    clear hd0
    go_wp2_with fail
    go_roundw
    case rel => exact ⟨j, by omega, by go_num, hz2.out, trivial⟩
    case measure => simp
  · have ht := take_trim L (j + 1) HA.out hk HZ.out (.inr (by simpa using hd0))
    have hl2 : (trimL L).length = j + 1 := by rw [← ht, List.length_take]; omega
    have hI := H.out.take (j + 1)
    rw [ht] at hI
    have HI := Lib.hid hI
    have HL2 := Lib.hid hl2
    clear ht hl2 hI
    have hdf : (((L.getD j 0 : Nat) : Int) == 0) = false := by rw [beq_eq_false_iff_ne]; intro h; apply hd0; omega
    clear hd0 h0
    generalize L.getD j 0 = d at *
    go_wp2_with fail
    go_ret
    rw [HL2.out]
    exact ⟨rfl, HI.out, rfl⟩
end Go.Proofs.YtkkpfoidppjbdaaDoor
