/-
  The reference's Of, trim, at: rows of digits.
-/
import Derived.Test.YtkkpfoidppjbdaaDoorNMem
import Derived.Test.YtkkpfoidppjbdaaDoorChecked
import Derived.OwnWalk
import Derived.WalkKit
import Derived.Deep.CutBlock
import Derived.Deep.DeepCutAuto
import Derived.Lib.Hide
import Derived.Deep.RegionWith
namespace Go.Proofs.YtkkpfoidppjbdaaDoor
set_option linter.unusedVariables false
open Go.RowKit ML ND

theorem info_int : (Tryd.prog.info? 3).map (fun i => (i.zero, i.size, i.bytes)) = some (some (.int .i64 0), 1, 8) := by kernel_rfl
theorem news_nvals (w : World) (news : List Nat) (t : TypeId) (n : Nat) (hn : w.heap.size = n) : ∀ j u, (nvals news)[j]? = some u → (w.alloc (.cells (nvals news).toArray t)).cell? ((⟨n, 0, none⟩ : Addr).add j) = some u := news_new w (nvals news) t n hn
set_option maxHeartbeats 1000000 in
set_option maxRecDepth 100000 in
theorem refOf_any (n : Nat) (w : World) (hn : n < 9223372036854775808) :
    Calls Tryd.prog 66 #[.int .i64 (n : Int)] w fun e w' => ∃ oa cap, e = .returned (.slice oa (dig n).length cap) ∧ IntsAt w' oa (dig n) ∧ Below w.heap.size w w' := by
  obtain ⟨i0, hi, hz0, hz1, hz2⟩ := info_parts info_int
  have HI := Lib.hid hi
  have HZ0 := Lib.hid hz0
  have HZ1 := Lib.hid hz1
  have HZ2 := Lib.hid hz2
  clear hi hz0 hz1 hz2
  go_enter Tryd.func66, Tryd.ntmps66
  go_wp2_with fail
  generalize hB : w.heap.size = B at *
  have HB := Lib.hid hB
  clear hB
  go_loopw [0, 3] (fun z v wr => ∃ (L : List Nat) (k : Nat), z = .int .i64 k ∧ k ≤ n ∧ L ++ dig k = dig n ∧ L.length + k ≤ n ∧ Below B w wr ∧ wr.ownsRow B 3 1 v L.length (nvals L)) (fun z _ _ => (intOf z).toNat)
  case atStart => exact ⟨[], n, rfl, Nat.le_refl _, rfl, by simp, Below.refl _ _, World.ownsRow_nil _ _ _ _⟩
  case round =>
  obtain ⟨L, k, rfl, hk, hL, hl, bel, own⟩ := hrel
  by_cases h0 : 0 < k
  · have hd : decide ((0 : Int) < (k : Int)) = true := by simp; omega
    have hBw : B ≤ wr.heap.size := by have := bel.size; rw [HB.out] at this; exact this
    have hl19 : L.length ≤ 19 := by
      have h1 := length_dig_le n 19 (by omega)
      rw [← hL, List.length_append] at h1
      omega
    have hst := Lib.hid (show (L ++ [k % 10]) ++ dig (k / 10) = dig n by rw [List.append_assoc, List.singleton_append, ← dig_pos h0]; exact hL)
    go_upto_region 4 with (at_builtin; refine wpList_append_own _ rfl (.tmp 6) (.tmp 9) 31 rfl B 3 i0 (.int .i64 0) 1 8 Tryd.underlying31 HI.out HZ0.out HZ1.out HZ2.out rfl (by decide) u3 L.length (nvals L) rfl (own.alloc _) ⟨wr.heap.size, 0, none⟩ 1 1 (nvals [k % 10]) rfl rfl ?c1 ?c2 ?c3 ?c4 ?c5 ?_)
    case c1 => exact news_nvals wr [k % 10] _ _ rfl
    case c2 => exact nvals_one _
    case c3 => unfold maxLen; omega
    case c4 => omega
    case c5 => simp; omega
    intro v5 w5 own5 hg5 _
    have bel5 : Below B w w5 := (bel.alloc hBw _).grown hg5 (by simp; omega) (fun q hq => (own.lt q hq).1)
    rw [nvals_append] at own5
    have OWN5 : w5.ownsRow B 3 1 v5 (L ++ [k % 10]).length (nvals (L ++ [k % 10])) := by rw [List.length_append]; exact own5
    clear own5 own hg5 bel hL
    go_wp2_with fail
    go_roundw
    case rel => exact ⟨L ++ [k % 10], k / 10, by go_num, by omega, hst.out, by rw [List.length_append, List.length_singleton]; omega, bel5, OWN5⟩
    case measure => simp [intOf]; omega
  · have hd : decide ((0 : Int) < (k : Int)) = false := by simp; omega
    obtain rfl : k = 0 := by omega
    rw [dig_zero, List.append_nil] at hL
    obtain ⟨oa, cap, rfl, _, _, hI⟩ := intsAt_own own
    rw [hL] at hI
    have HLn := Lib.hid hL
    clear hL own
    go_wp2_with fail
    go_ret
    exact ⟨oa, cap, by rw [HLn.out]; rfl, hI, by rw [HB.out]; exact bel⟩
set_option maxHeartbeats 1000000 in
set_option maxRecDepth 100000 in
/-- 'at': the digit, 0 behind the end -/
theorem refAt_any (oa : Option Addr) (L : List Nat) (cap i : Nat) (w : World) (h : IntsAt w oa L) (hl : L.length < 9223372036854775808) (hi : i < 9223372036854775808) :
    Calls Tryd.prog 61 #[.slice oa L.length cap, .int .i64 (i : Int)] w fun e w' => e = .returned (.int .i64 ((dAt L i : Nat) : Int)) ∧ w' = w := by
  unfold dAt
  have H := Lib.hid h
  clear h
  go_enter Tryd.func61, Tryd.ntmps61
  by_cases hlt : i < L.length
  · obtain ⟨a, rfl, hc⟩ := H.out.get i hlt
    have hd : decide ((i : Int) < (L.length : Int)) = true := by simp; omega
    generalize L.getD i 0 = d at *
    go_wp2_with fail
    go_ret
    exact ⟨rfl, rfl⟩
  · have hd : decide ((i : Int) < (L.length : Int)) = false := by simp; omega
    have h0 : L.getD i 0 = 0 := by rw [List.getD_eq_getElem?_getD, List.getElem?_eq_none (by omega)]; rfl
    rw [h0]
    go_wp2_with fail
    go_ret
    exact ⟨rfl, rfl⟩
set_option maxHeartbeats 1000000 in
set_option maxRecDepth 100000 in
/-- 'trim': the zeros at the end are cut off -/
theorem refTrim_any (oa : Option Addr) (L : List Nat) (cap : Nat) (w : World) (h : IntsAt w oa L) (hl : L.length < 9223372036854775808) (hcap : L.length ≤ cap) (hA : AllD L) :
    Calls Tryd.prog 58 #[.slice oa L.length cap] w fun e w' => e = .returned (.slice oa (trimL L).length cap) ∧ IntsAt w oa (trimL L) ∧ w' = w := by
  have H := Lib.hid h
  have HA := Lib.hid hA
  clear h hA
  go_enter Tryd.func58, Tryd.ntmps58
  go_wp2_with fail
  go_loopw [0] (fun v wr => ∃ k : Nat, k ≤ L.length ∧ v = .slice oa k cap ∧ (∀ i, k ≤ i → L.getD i 0 = 0) ∧ wr = w) (fun v _ => match v with | .slice _ n _ => n | _ => 0)
  case atStart => exact ⟨L.length, Nat.le_refl _, rfl, fun i hi => by simp [List.getD_eq_getElem?_getD, List.getElem?_eq_none hi], rfl⟩
  case round =>
  obtain ⟨k, hk, rfl, hz, rfl⟩ := hrel
  have HZ := Lib.hid hz
  clear hz
  by_cases h0 : k = 0
  · subst h0
    have ht := take_trim L 0 HA.out (by omega) HZ.out (.inl rfl)
    rw [List.take_zero] at ht
    have HT := Lib.hid ht
    clear ht
    go_wp2_with fail
    go_ret
    rw [← HT.out]
    exact ⟨rfl, ⟨fun i hi => by simp at hi⟩, rfl⟩
  obtain ⟨j, rfl⟩ : ∃ j, k = j + 1 := ⟨k - 1, by omega⟩
  obtain ⟨a, rfl, hc⟩ := H.out.get j (by omega)
  have hk63 : (j : Int) + 1 < 9223372036854775808 := by omega
  have hjc : (j : Int) ≤ cap := by omega
  by_cases hd0 : L.getD j 0 = 0
  · have hz2 := Lib.hid (show ∀ i, j ≤ i → L.getD i 0 = 0 from fun i hi => by
      by_cases he : i = j
      · rw [he]; exact hd0
      · exact HZ.out i (by omega))
    rw [hd0] at hc
    clear hd0
    go_wp2_with fail
    go_roundw
    case rel => exact ⟨j, by omega, by go_num, hz2.out, trivial⟩
    case measure => simp
  · have ht := take_trim L (j + 1) HA.out hk HZ.out (.inr (by simpa using hd0))
    have hl2 : (trimL L).length = j + 1 := by rw [← ht, List.length_take]; omega
    have hI := H.out.take (j + 1)
    rw [ht] at hI
    have HI := Lib.hid hI
    have HL2 := Lib.hid hl2
    clear ht hl2 hI
    have hdf : (((L.getD j 0 : Nat) : Int) == 0) = false := by rw [beq_eq_false_iff_ne]; intro h; apply hd0; omega
    clear hd0 h0
    generalize L.getD j 0 = d at *
    go_wp2_with fail
    go_ret
    rw [HL2.out]
    exact ⟨rfl, HI.out, rfl⟩
end Go.Proofs.YtkkpfoidppjbdaaDoor
