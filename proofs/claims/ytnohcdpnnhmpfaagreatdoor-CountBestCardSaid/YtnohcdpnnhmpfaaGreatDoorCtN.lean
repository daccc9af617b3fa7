/-
  Chapter 13, for Pairs: count.wrong. Printed by tools/genwrong.py.
-/
import Derived.Test.YtnohcdpnnhmpfaaGreatDoorCtL
import Derived.Lib.AppendZerosOnto
import Derived.Lib.Walk
import Derived.Lib.SliceRun
namespace Go.Proofs.YtnohcdpnnhmpfaaGreatDoor
set_option linter.unusedVariables false
set_option linter.unusedSimpArgs false
open Go.RowKit ML FM AU CT

def badR (n : Nat) (p : Value × List Int) : Bool := p.2.length != n
def badI (x : Int) : Bool := decide (x < 0) || decide (1099511627776 < x)
set_option maxHeartbeats 1000000 in
set_option maxRecDepth 100000 in
theorem wrong1_any (oa : Option Addr) (l cap n D : Nat) (w : World) (h : w.cell? ⟨D, 0, none⟩ = some (.int .i64 n)) (hl : l < 9223372036854775808) :
    Calls Tryz.prog 107 #[.slice oa l cap, .pointer (some ⟨D, 0, none⟩)] w fun e w' => e = .returned (.bool (l != n)) ∧ w = w' := by
  by_cases he : l = n
  · have d1 : ((l : Int) != (n : Int)) = false := by rw [he]; simp
    have d2 : (l != n) = false := by rw [he]; simp
    have HD := Lib.hid d2
    clear he
    go_enter Tryz.func107, Tryz.ntmps107
    go_wp2_with fail
    go_ret
    exact ⟨by rw [HD.out]; rfl, rfl⟩
  · have d1 : ((l : Int) != (n : Int)) = true := by rw [bne_iff_ne]; omega
    have d2 : (l != n) = true := by rw [bne_iff_ne]; exact he
    have HD := Lib.hid d2
    clear he
    go_enter Tryz.func107, Tryz.ntmps107
    go_wp2_with fail
    go_ret
    exact ⟨by rw [HD.out]; rfl, rfl⟩
set_option maxHeartbeats 1000000 in
set_option maxRecDepth 100000 in
theorem wrong2_any (x : Int) (w : World) : Calls Tryz.prog 109 #[.int .i64 x] w fun e w' => e = .returned (.bool (badI x)) ∧ w = w' := by
  have HX := Lib.hid (show badI x = (decide (x < 0) || decide (1099511627776 < x)) from rfl)
  by_cases h0 : x < 0
  · have d0 : decide (x < 0) = true := decide_eq_true h0
    have HE := Lib.hid (show badI x = true by rw [HX.out, d0]; rfl)
    clear h0
    go_enter Tryz.func109, Tryz.ntmps109
    go_wp2_with fail
    go_ret
    exact ⟨by rw [HE.out]; rfl, rfl⟩
  · have d0 : decide (x < 0) = false := decide_eq_false h0
    by_cases h1 : 1099511627776 < x
    · have d1 : decide (1099511627776 < x) = true := decide_eq_true h1
      have HE := Lib.hid (show badI x = true by rw [HX.out, d1]; simp)
      clear h0 h1
      go_enter Tryz.func109, Tryz.ntmps109
      go_wp2_with fail
      go_ret
      exact ⟨by rw [HE.out]; rfl, rfl⟩
    · have d1 : decide (1099511627776 < x) = false := decide_eq_false h1
      have HE := Lib.hid (show badI x = false by rw [HX.out, d0, d1]; rfl)
      clear h0 h1
      go_enter Tryz.func109, Tryz.ntmps109
      go_wp2_with fail
      go_ret
      exact ⟨by rw [HE.out]; rfl, rfl⟩
set_option maxHeartbeats 1000000 in
set_option maxRecDepth 100000 in
theorem indexBadR_any (oa : Option Addr) (P : List (Value × List Int)) (cap n D : Nat) (w : World) (h : PsAt w oa P) (hD : w.cell? ⟨D, 0, none⟩ = some (.int .i64 n)) (hl : P.length < 9223372036854775808) :
    Calls Tryz.prog 149 #[.slice oa P.length cap, (.func (.func 107) #[] #[.pointer (some ⟨D, 0, none⟩)])] w fun e w' => (∃ r : Int, e = .returned (.int .i64 r) ∧ decide (0 ≤ r) = P.any (badR n)) ∧ w = w' := by
  have H := Lib.hid h
  have QB := Lib.hid (fun o l c (h : l < 9223372036854775808) => wrong1_any o l c n D w hD h)
  clear h hD
  go_enter Tryz.func149, Tryz.ntmps149
  go_upto_region 2 with (fail)
  go_loop [8] (fun i => ∃ k : Nat, k ≤ P.length ∧ i = .int .i64 k ∧ (P.take k).any (badR n) = false) (fun i => P.length - (intOf i).toNat)
  case atStart => exact ⟨0, by omega, rfl, rfl⟩
  case round =>
  obtain ⟨k, hk, rfl, hpre⟩ := hrel
  have HP := Lib.hid hpre
  clear hpre
  by_cases hlt : k < P.length
  · have dk : decide ((k : Int) < (P.length : Int)) = true := decide_eq_true (by omega)
    have dk2 : decide (k < P.length) = true := decide_eq_true hlt
    have hki : (k : Int) < (P.length : Int) := by omega
    obtain ⟨a, hoa, hab, hac⟩ := H.out.cells k hlt
    have hsn := Lib.hid (show (P.take (k + 1)).any (badR n) = badR n P[k] by rw [List.take_succ_eq_append_getElem hlt, List.any_append, HP.out]; simp)
    have hany := Lib.hid (fun (hb : badR n P[k] = true) => (show P.any (badR n) = true from List.any_eq_true.2 ⟨P[k], List.getElem_mem hlt, hb⟩))
    obtain ⟨or, cr, hp1, hp2, hp3⟩ := H.out.rows P[k] (List.getElem_mem hlt)
    rw [hp1] at hac
    have HBR := Lib.hid (show badR n P[k] = (P[k].2.length != n) from rfl)
    clear hp1 hp2
    subst hoa
    generalize P[k] = p at *
    have QBP := Lib.hid (QB.out or p.2.length cr hp3)
    rw [HBR.out] at hsn hany
    clear HBR
    cases hb : (p.2.length != n) with
    | true =>
      have h2 := Lib.hid (hany.out hb)
      rw [hb] at hsn QBP
      clear hb hany
      go_wp2_with (first | (go_at_call 107; refine (QBP.out).mono ?_; rintro e w1 ⟨rfl, rfl⟩))
      go_ret
      exact ⟨⟨_, rfl, by rw [h2.out]; exact decide_eq_true (by omega)⟩, rfl⟩
    | false =>
      rw [hb] at hsn QBP
      clear hb hany
      go_wp2_with (first | (go_at_call 107; refine (QBP.out).mono ?_; rintro e w1 ⟨rfl, rfl⟩))
      go_round
      case rel => exact ⟨k + 1, by omega, by go_num, hsn.out⟩
      case measure => simp [intOf]; omega
  · have dk : decide ((k : Int) < (P.length : Int)) = false := decide_eq_false (by omega)
    have dk2 : decide (k < P.length) = false := decide_eq_false hlt
    obtain rfl : k = P.length := by omega
    rw [List.take_length] at HP
    go_wp2_with fail
    go_ret
    exact ⟨⟨_, rfl, by rw [HP.out]; decide⟩, rfl⟩
set_option maxHeartbeats 1000000 in
set_option maxRecDepth 100000 in
theorem containsBadR_any (oa : Option Addr) (P : List (Value × List Int)) (cap n D : Nat) (w : World) (h : PsAt w oa P) (hD : w.cell? ⟨D, 0, none⟩ = some (.int .i64 n)) (hl : P.length < 9223372036854775808) :
    Calls Tryz.prog 106 #[.slice oa P.length cap, (.func (.func 107) #[] #[.pointer (some ⟨D, 0, none⟩)])] w fun e w' => e = .returned (.bool (P.any (badR n))) ∧ w = w' := by
  have Q := Lib.hid (indexBadR_any oa P cap n D w h hD hl)
  clear h hl hD
  generalize P.any (badR n) = b at *
  go_enter Tryz.func106, Tryz.ntmps106
  go_wp2_with (go_at_call 149; refine Q.out.mono ?_; rintro e w1 ⟨⟨r, rfl, hr⟩, rfl⟩)
  go_ret
  exact ⟨rfl, rfl⟩
set_option maxHeartbeats 1000000 in
set_option maxRecDepth 100000 in
theorem indexBadI_any (oa : Option Addr) (L : List Int) (cap : Nat) (w : World) (h : IsAt w oa L) (hl : L.length < 9223372036854775808) :
    Calls Tryz.prog 98 #[.slice oa L.length cap, (.func (.func 109) #[] #[])] w fun e w' => (∃ r : Int, e = .returned (.int .i64 r) ∧ decide (0 ≤ r) = L.any badI) ∧ w = w' := by
  have H := Lib.hid h
  have QB := Lib.hid (fun x w => wrong2_any x w)
  clear h
  go_enter Tryz.func98, Tryz.ntmps98
  go_upto_region 2 with (fail)
  go_loop [8] (fun i => ∃ k : Nat, k ≤ L.length ∧ i = .int .i64 k ∧ (L.take k).any badI = false) (fun i => L.length - (intOf i).toNat)
  case atStart => exact ⟨0, by omega, rfl, rfl⟩
  case round =>
  obtain ⟨k, hk, rfl, hpre⟩ := hrel
  have HP := Lib.hid hpre
  clear hpre
  by_cases hlt : k < L.length
  · have dk : decide ((k : Int) < (L.length : Int)) = true := decide_eq_true (by omega)
    have dk2 : decide (k < L.length) = true := decide_eq_true hlt
    have hki : (k : Int) < (L.length : Int) := by omega
    obtain ⟨a, hoa, hab, hac⟩ := H.out.cells k hlt
    have hsn := Lib.hid (show (L.take (k + 1)).any badI = badI L[k] by rw [List.take_succ_eq_append_getElem hlt, List.any_append, HP.out]; simp)
    have hany := Lib.hid (fun (hb : badI L[k] = true) => (show L.any badI = true from List.any_eq_true.2 ⟨L[k], List.getElem_mem hlt, hb⟩))
    subst hoa
    generalize L[k] = x at *
    have QBP := Lib.hid (QB.out x w)
    cases hb : badI x with
    | true =>
      have h2 := Lib.hid (hany.out hb)
      rw [hb] at hsn QBP
      clear hb hany
      go_wp2_with (first | (go_at_call 109; refine (QBP.out).mono ?_; rintro e w1 ⟨rfl, rfl⟩))
      go_ret
      exact ⟨⟨_, rfl, by rw [h2.out]; exact decide_eq_true (by omega)⟩, rfl⟩
    | false =>
      rw [hb] at hsn QBP
      clear hb hany
      go_wp2_with (first | (go_at_call 109; refine (QBP.out).mono ?_; rintro e w1 ⟨rfl, rfl⟩))
      go_round
      case rel => exact ⟨k + 1, by omega, by go_num, hsn.out⟩
      case measure => simp [intOf]; omega
  · have dk : decide ((k : Int) < (L.length : Int)) = false := decide_eq_false (by omega)
    have dk2 : decide (k < L.length) = false := decide_eq_false hlt
    obtain rfl : k = L.length := by omega
    rw [List.take_length] at HP
    go_wp2_with fail
    go_ret
    exact ⟨⟨_, rfl, by rw [HP.out]; decide⟩, rfl⟩
set_option maxHeartbeats 1000000 in
set_option maxRecDepth 100000 in
theorem containsBadI_any (oa : Option Addr) (L : List Int) (cap : Nat) (w : World) (h : IsAt w oa L) (hl : L.length < 9223372036854775808) :
    Calls Tryz.prog 54 #[.slice oa L.length cap, (.func (.func 109) #[] #[])] w fun e w' => e = .returned (.bool (L.any badI)) ∧ w = w' := by
  have Q := Lib.hid (indexBadI_any oa L cap w h hl)
  clear h hl
  generalize L.any badI = b at *
  go_enter Tryz.func54, Tryz.ntmps54
  go_wp2_with (go_at_call 98; refine Q.out.mono ?_; rintro e w1 ⟨⟨r, rfl, hr⟩, rfl⟩)
  go_ret
  exact ⟨rfl, rfl⟩
def GrowGot (w : World) (e : Ending) (w' : World) : Prop := ∃ v, e = .returned v ∧ w'.ownsRow w.heap.size 3 1 v 0 [] ∧ Below w.heap.size w w'
set_option maxHeartbeats 2000000 in
set_option maxRecDepth 100000 in
theorem growNil_any (n : Nat) (w : World) (h0 : 0 < n) (hn : n ≤ 1048576) : Calls Tryz.prog 150 #[.slice none 0 0, .int .i64 n] w (GrowGot w) := by
  obtain ⟨i0, hi, hz0, hz1, hz2⟩ := info_parts info_int1
  have hfit : Builtin.nextslicecap (0 + n) 0 * i0.bytes ≤ 281474976710656 := growslice_fits (by omega) (by rw [hz2]; omega)
  have hrz : ∀ ty, (Builtin.append_ #[29, 3] ty #[.slice none 0 0, .int .i64 (n : Int)]).run Tryz.prog w =
      .ok (.slice (some ⟨w.heap.size, 0, none⟩) n (grownCap w n 0 3)) (w.drew.alloc (.cells (#[] ++ Builtin.zeroCells (Value.int .i64 0).cells n ++ Builtin.zeroCells (Value.int .i64 0).cells (grownCap w n 0 3 - n)) 3)) := fun ty => by
    have h := Lib.run_append_grow_zeros w 29 3 ty 3 i0 (.int .i64 0) .i64 .i64 Tryz.underlying29 Tryz.underlying3 hi hz0 none 0 0 [] (run_firstCells_none w.drew i0.size 0 0 0) n h0 (by rw [hz1]; decide) (by omega) (by omega) (by rw [hz2]; omega) hfit
    rw [Nat.zero_add] at h
    exact h
  have hGn : n ≤ grownCap w n 0 3 := grownCap_ge w _ _ _
  have hGm := grownCap_le_maxLen w n 0 3 (by unfold maxLen; omega)
  have hsz : (#[] ++ Builtin.zeroCells (Value.int .i64 0).cells n ++ Builtin.zeroCells (Value.int .i64 0).cells (grownCap w n 0 3 - n)).size = grownCap w n 0 3 := by simp [Builtin.zeroCells, Value.cells]; omega
  generalize (#[] ++ Builtin.zeroCells (Value.int .i64 0).cells n ++ Builtin.zeroCells (Value.int .i64 0).cells (grownCap w n 0 3 - n)) = cs at *
  generalize grownCap w n 0 3 = G at *
  unfold maxLen at hGm
  have HR := Lib.hid hrz
  have HS := Lib.hid hsz
  clear hrz hsz hfit hi hz0 hz1 hz2
  have d0 : decide ((0 : Int) < (n : Int)) = true := decide_eq_true (by omega)
  have d1 : decide (0 < n) = true := decide_eq_true h0
  go_enter Tryz.func150, Tryz.ntmps150
  go_wp2_with (at_builtin; refine Lib.wpList_append_run _ rfl _ _ _ _ rfl _ _ rfl rfl _ _ (HR.out _) ?_)
  all_goals (go_ret; exact ⟨_, rfl, ⟨rfl, .inr ⟨w.heap.size, G, cs, rfl, Nat.le_refl _, heap_at rfl, Nat.zero_le _, by unfold maxLen; omega, by rw [HS.out, Nat.mul_one], by simp⟩⟩, (Below.refl _ _).drew.alloc (Nat.le_refl _) _⟩)
end Go.Proofs.YtnohcdpnnhmpfaaGreatDoor
