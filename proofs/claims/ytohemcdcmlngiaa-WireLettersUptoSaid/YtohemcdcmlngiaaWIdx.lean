/-
  strings.IndexRune of a rune that is no ASCII one, in a text of ASCII bytes: -1; wire.value.
-/
import Derived.Test.YtohemcdcmlngiaaWShelf
import Derived.Test.YtohemcdcmlngiaaWVal
import Derived.Laws.RangeAny
import Derived.Laws.Runes
import Derived.Deep.QuietTactic
import Derived.BigQuiet
import Derived.IntWalk
import Derived.Deep.RegionWith
namespace Go.Proofs.Ytohemcdcmlngiaa
set_option linter.unusedVariables false
set_option linter.unusedSimpArgs false
open Go.RowKit ML FM WL

theorem asc_at {S : ByteArray} (hS : ∀ b ∈ S.data.toList, b.toNat < 128) (k : Nat) (h : k < S.size) : (S[k]'h).toNat < 128 :=
  hS _ (Array.getElem_mem_toList (xs := S.data) h)
theorem idx_asc {S : ByteArray} (hS : ∀ b ∈ S.data.toList, b.toNat < 128) (a e : Nat) (c : UInt8) (hc : 128 ≤ c.toNat) : Lib.indexByte (S.extract a e).data.toList c = -1 := by
  rw [← Lib.firstIdx_eq, firstIdx_ascii S a e c hS hc]
set_option maxHeartbeats 4000000 in
set_option maxRecDepth 100000 in
theorem indexRune_high (S : ByteArray) (r : Int) (w : World) (hS : ∀ b ∈ S.data.toList, b.toNat < 128) (h4 : 4 ≤ S.size) (hn : S.size < 1000) (h : 128 ≤ r) (hr : r ≤ 2147483647) :
    Calls Try.prog 31 #[.string S, .int .i32 r] w fun e w' => e = .returned (.int .i64 (-1)) ∧ Below w.heap.size w w' := by
  have HS := Lib.hid hS
  have d0 : (0 : Int) ≤ r := by omega
  have d1 : decide (r < 128) = false := decide_eq_false (by omega)
  clear hS
  by_cases he : r = 65533
  · subst he
    go_enter Try.func31, Try.ntmps31
    go_upto_region 38 with (fail)
    go_loopw [] (fun wr => ∃ k : Nat, k ≤ S.size ∧ wr = w.iter S k) (fun wr => S.size - wr.iterPos w.heap.size)
    case atStart => exact ⟨0, by omega, rfl⟩
    case round =>
    obtain ⟨k, hk, rfl⟩ := hrel
    by_cases hlt : k < S.size
    · have hnx := fun ty => run_next_ascii (P := Try.prog) w S k ty hlt (asc_at HS.out k hlt)
      have hne : (((S[k]'hlt).toNat : Int) == 65533) = false := by rw [beq_eq_false_iff_ne]; have := asc_at HS.out k hlt; omega
      go_wp2_with fail
      go_roundw
      case rel => exact ⟨k + 1, by omega, rfl⟩
      case measure => simp; omega
    · obtain rfl : k = S.size := by omega
      have hnx := fun ty => run_next_end (P := Try.prog) w S S.size ty (by omega)
      go_wp2_with fail
      go_ret
      exact ⟨rfl, (Below.refl _ _).alloc (Nat.le_refl _) _⟩
  · have de : (r == 65533) = false := by rw [beq_eq_false_iff_ne]; exact he
    cases hv : Lib.validRune r with
    | false =>
      have QV := Lib.hid (fun w => Try.utf8_ValidRune r w)
      rw [hv] at QV
      clear hv
      go_enter Try.func31, Try.ntmps31
      go_wp2_with (go_at_call 34; refine (QV.out w).mono ?_; rintro e w2 ⟨rfl, rfl⟩)
      go_ret
      exact ⟨rfl, Below.refl _ _⟩
    | true =>
      have QV := Lib.hid (fun w => Try.utf8_ValidRune r w)
      rw [hv] at QV
      obtain ⟨f1, f2, f3⟩ := encode_facts r (by rw [validRune_eq]; exact hv) h
      clear hv
      obtain ⟨E, hE⟩ : ∃ E, Utf8.encode r = E := ⟨_, rfl⟩
      rw [hE] at f1 f2 f3
      obtain ⟨n, hn1⟩ : ∃ n, n = E.size - 1 := ⟨_, rfl⟩
      rw [← hn1] at f3
      have hni : (E.size : Int) - 1 = (n : Int) := by omega
      have hnE : n < E.size := by omega
      have hnS : n < S.size := by omega
      have hc1 := f3 hnE
      have hc0 := asc_at HS.out n hnS
      have hne : (((S[n]'hnS).toNat : Int) == ((E[n]'hnE).toNat : Int)) = false := by rw [beq_eq_false_iff_ne]; omega
      have hnSi : (n : Int) < (S.size : Int) := by omega
      have hnEi : (n : Int) < (E.size : Int) := by omega
      have QI := Lib.hid (fun w => Try.strings_IndexByte (S.extract (n + 1) S.size) ((E[n]'hnE).toNat : Int) w)
      have hcv : (((E[n]'hnE).toNat : Int)).toNat.toUInt8 = E[n]'hnE := by rw [Int.toNat_natCast]; exact UInt8.ofNat_toNat
      rw [hcv, idx_asc HS.out _ _ _ hc1] at QI
      clear hn1 f1 f2 f3 hc1 hc0 hcv
      go_enter Try.func31, Try.ntmps31
      go_upto_region 5 with (go_at_call 34; refine (QV.out w).mono ?_; rintro e w2 ⟨rfl, rfl⟩)
      go_step3
      go_upto_region 5 with (fail)
      go_loopw [9] (fun i wr => i = .int .i64 n ∧ wr = w2) (fun _ _ => 0)
      case atStart => exact ⟨rfl, rfl⟩
      case round =>
      obtain ⟨rfl, rfl⟩ := hrel
      have dS : decide ((n : Int) < (S.size : Int)) = true := decide_eq_true hnSi
      go_upto_region 6 with (fail)
      go_step3
      go_upto_region 6 with (fail)
      go_quiet (fail)
      go_upto_region 7 with (fail)
      refine wp_abs (fun w3 => Below wr.heap.size wr w3) (bel_drewN (Below.refl _ _) _) (fun w3 b3 => ?_)
      have B3 := Lib.hid b3
      have n1 : (n : Int) + 1 ≤ (S.size : Int) := by omega
      have n2 : (0 : Int) ≤ (n : Int) + 1 := by omega
      have n3 : ((n : Int) + 1).toNat = n + 1 := by omega
      have n4 : IntKind.i64.wrap ((n : Int) + 1) = (n : Int) + 1 := IntWalk.i64_in _ (by omega)
      clear b3
      go_quiet ((go_at_call 33; exact Calls.quiet_of_same (QI.out _)))
      go_wp2_with fail
      rw [Exit.noGoto_ret]
      go_wp2_with fail
      rw [Exit.noGoto_ret]
      go_wp2_with fail
      go_ret
      exact ⟨rfl, bel_drewN B3.out _⟩
theorem signs_asc : ∀ b ∈ (ByteArray.mk signsL.toArray).data.toList, b.toNat < 128 := by decide +kernel
theorem signs_size : (ByteArray.mk signsL.toArray).size = 37 := by decide +kernel
/-- the same, told for any rune: its value among the signs -/
theorem indexRune_any (r : Nat) (w : World) (hr : r ≤ 2147483647) :
    Calls Try.prog 31 #[.string ⟨signsL.toArray⟩, .int .i32 (r : Int)] w fun e w' => e = .returned (.int .i64 (if r < 128 then Lib.indexByte signsL (UInt8.ofNat r) else -1)) ∧ Below w.heap.size w w' := by
  by_cases h : r < 128
  · rw [if_pos h]
    refine (Try.strings_IndexRune_ascii _ (r : Int) w (by omega) (by omega)).mono ?_
    rintro e w' ⟨rfl, rfl⟩
    exact ⟨rfl, Below.refl _ _⟩
  · rw [if_neg h]
    exact indexRune_high _ _ w signs_asc (by rw [signs_size]; decide) (by rw [signs_size]; decide) (by omega) (by omega)
set_option maxHeartbeats 4000000 in
set_option maxRecDepth 100000 in
theorem wireValue_any (c : Nat) (w : World) (hc : c ≤ 2147483647) :
    Calls Try.prog 25 #[.int .i32 (c : Int)] w fun e w' => e = .returned (.int .i64 (valR c)) ∧ Below w.heap.size w w' := by
  obtain ⟨m, hm⟩ : ∃ m, m = upN c := ⟨_, rfl⟩
  have hm2 : m ≤ 2147483647 := by rw [hm]; unfold upN; split <;> omega
  obtain ⟨R, hR⟩ : ∃ R, R = valR c := ⟨_, rfl⟩
  rw [← hR]
  have HR := Lib.hid (show R = if m = 79 then 0 else if m = 73 ∨ m = 76 then 1 else if m < 128 then Lib.indexByte signsL (UInt8.ofNat m) else -1 by rw [hR, hm]; rfl)
  have QI := Lib.hid (show ∀ w, Calls Try.prog 31 #[.string ⟨#[48, 49, 50, 51, 52, 53, 54, 55, 56, 57, 65, 66, 67, 68, 69, 70, 71, 72, 74, 75, 77, 78, 80, 81, 82, 83, 84, 86, 87, 88, 89, 90, 42, 126, 36, 61, 85]⟩, .int .i32 (m : Int)] w fun e w' => e = .returned (.int .i64 (if m < 128 then Lib.indexByte signsL (UInt8.ofNat m) else -1)) ∧ Below w.heap.size w w' from fun w => indexRune_any m w hm2)
  have HM := Lib.hid hm
  clear hm hR
  go_enter Try.func25, Try.ntmps25
  have hc0 : (0 : Int) ≤ c := by omega
  go_upto_region 1 with (fail)
  obtain ⟨b, hb⟩ : ∃ b, b = decide (97 ≤ c ∧ c ≤ 122) := ⟨_, rfl⟩
  have HBB := Lib.hid hb
  clear hb
  go_cut [8] (fun v w' => v = .bool b ∧ w = w')
  case first =>
    by_cases h1 : 97 ≤ c
    · have d1 : decide ((97 : Int) ≤ c) = true := decide_eq_true (by omega)
      by_cases h2 : c ≤ 122
      · have d2 : decide ((c : Int) ≤ 122) = true := decide_eq_true (by omega)
        have e := Lib.hid (HBB.out.trans (decide_eq_true (⟨h1, h2⟩ : 97 ≤ c ∧ c ≤ 122)))
        clear h1 h2 HR HM HBB
        go_wp2_with fail
        go_meet
        exact ⟨by rw [e.out], rfl⟩
      · have d2 : decide ((c : Int) ≤ 122) = false := decide_eq_false (by omega)
        have e := Lib.hid (HBB.out.trans (decide_eq_false (by omega : ¬ (97 ≤ c ∧ c ≤ 122))))
        clear h1 h2 HR HM HBB
        go_wp2_with fail
        go_meet
        exact ⟨by rw [e.out], rfl⟩
    · have d1 : decide ((97 : Int) ≤ c) = false := decide_eq_false (by omega)
      have e := Lib.hid (HBB.out.trans (decide_eq_false (by omega : ¬ (97 ≤ c ∧ c ≤ 122))))
      clear h1 HR HM HBB
      go_wp2_with fail
      go_meet
      exact ⟨by rw [e.out], rfl⟩
  case rest =>
  obtain ⟨rfl, rfl⟩ := hcut
  go_upto_if 8 with (fail)
  go_cut [0] (fun v w' => v = .int .i32 (m : Int) ∧ w = w')
  case first =>
    by_cases h : 97 ≤ c ∧ c ≤ 122
    · have e := HBB.out.trans (decide_eq_true h)
      have hmc : ((c : Int) - 32) = (m : Int) := by rw [HM.out]; unfold upN; rw [if_pos h]; omega
      have h3 : (32 : Int) ≤ c := by omega
      have h4 : (c : Int) ≤ 122 := by omega
      clear HR HM HBB h
      subst e
      go_wp2_with fail
      go_meet
      exact ⟨rfl, rfl⟩
    · have e := HBB.out.trans (decide_eq_false h)
      have hmc := Lib.hid (show (c : Int) = (m : Int) by rw [HM.out]; unfold upN; rw [if_neg h])
      clear HR HM HBB h
      subst e
      go_wp2_with fail
      go_meet
      exact ⟨by rw [hmc.out], rfl⟩
  case rest =>
  obtain ⟨rfl, rfl⟩ := hcut
  clear HM hc0 hc
  by_cases e79 : m = 79
  · have d79 : ((m : Int) == 79) = true := by rw [beq_iff_eq]; omega
    have HR2 := Lib.hid (HR.out.trans (if_pos e79))
    clear e79 HR
    go_wp2_with fail
    go_ret
    exact ⟨by rw [HR2.out]; rfl, Below.refl _ _⟩
  have d79 : ((m : Int) == 79) = false := by rw [beq_eq_false_iff_ne]; omega
  have HR1 := Lib.hid (HR.out.trans (if_neg e79))
  clear e79 HR
  by_cases e73 : m = 73 ∨ m = 76
  · have HR2 := Lib.hid (HR1.out.trans (if_pos e73))
    clear HR1
    rcases e73 with h | h
    · have d73 : ((m : Int) == 73) = true := by rw [beq_iff_eq]; omega
      clear h
      go_wp2_with fail
      go_ret
      exact ⟨by rw [HR2.out]; rfl, Below.refl _ _⟩
    · have d73 : ((m : Int) == 73) = false := by rw [beq_eq_false_iff_ne]; omega
      have d76 : ((m : Int) == 76) = true := by rw [beq_iff_eq]; omega
      clear h
      go_wp2_with fail
      go_ret
      exact ⟨by rw [HR2.out]; rfl, Below.refl _ _⟩
  have d73 : ((m : Int) == 73) = false := by rw [beq_eq_false_iff_ne]; omega
  have d76 : ((m : Int) == 76) = false := by rw [beq_eq_false_iff_ne]; omega
  have HR2 := Lib.hid (HR1.out.trans (if_neg e73))
  rw [← HR2.out] at QI
  clear e73 HR1 HR2
  go_wp2_with (go_at_call 31; refine (QI.out w).mono ?_; rintro e w2 ⟨rfl, b2⟩)
  go_ret
  exact ⟨rfl, b2⟩
end Go.Proofs.Ytohemcdcmlngiaa
