/-
  Numbers, written and read: the walks.
-/
import Derived.Test.YtohemcdcmlngiaaDoorNumPl
import Derived.Test.YtohemcdcmlngiaaDoorNumSh
import Derived.OpenShut
import Derived.IntWalk
import Derived.Lib.SmallJoins
namespace Go.Proofs.YtohemcdcmlngiaaDoor
set_option linter.unusedVariables false
set_option linter.unusedSimpArgs false
open Go.RowKit ML ND FM Go.Sort

theorem below_grow (w : World) (k : Nat) (os : Array Obj) : Below w.heap.size w (grow (w.drewN k) os) :=
  ⟨rfl, rfl, rfl, by simp [grow], fun i hi => by simp [grow, Array.getElem?_append_left hi]⟩
/-- what the variables of Go's library hold that the calls read -/
structure NumVars (w : World) : Prop where
  pow : Lib.TabIs Tryd.prog w "internal/strconv.uint64pow10" .u64 Lib.pow10Tab
  rng : ∃ tp p, w.var? Tryd.prog "strconv.ErrRange" = some #[.iface tp p]
theorem NumVars.below {w w' : World} (h : NumVars w) (hb : Below w.heap.size w w') : NumVars w' := by
  have hg1 : Tryd.prog.globalNamed "internal/strconv.uint64pow10" = some 2 := by kernel_rfl
  have hg2 : Tryd.prog.globalNamed "strconv.ErrRange" = some 1 := by kernel_rfl
  obtain ⟨tp, p, h2⟩ := h.rng
  exact ⟨Go.Joins.var_stays hg1 h.pow hb (Nat.le_refl _), ⟨tp, p, Go.Joins.var_stays hg2 h2 hb (Nat.le_refl _)⟩⟩
def numT (n : Int) : Bytes := if 0 ≤ n ∧ n ≤ 1099511627776 then strD n.toNat else []
def numE (n : Int) : Int := if 0 ≤ n ∧ n ≤ 1099511627776 then 0 else 4
set_option maxHeartbeats 2000000 in
set_option maxRecDepth 100000 in
theorem wireNumber_any (n : Int) (w : World) (hv : NumVars w) :
    Calls Tryd.prog 13 #[.int .i64 n] w fun e w' => e = .returned (.tuple #[.string ⟨(numT n).toArray⟩, .int .i64 (numE n)]) ∧ Below w.heap.size w w' := by
  by_cases h0 : n < 0
  · have d0 : decide (n < 0) = true := decide_eq_true h0
    have e1 := Lib.hid (show numT n = [] from if_neg (by omega))
    have e2 := Lib.hid (show numE n = 4 from if_neg (by omega))
    clear h0
    go_enter Tryd.func13, Tryd.ntmps13
    go_wp2_with fail
    go_ret2
    exact ⟨by rw [e1.out, e2.out]; rfl, Below.refl _ _⟩
  have d0 : decide (n < 0) = false := decide_eq_false h0
  by_cases h1 : 1099511627776 < n
  · have d1 : decide (1099511627776 < n) = true := decide_eq_true h1
    have e1 := Lib.hid (show numT n = [] from if_neg (by omega))
    have e2 := Lib.hid (show numE n = 4 from if_neg (by omega))
    clear h1 h0
    go_enter Tryd.func13, Tryd.ntmps13
    go_wp2_with fail
    go_ret2
    exact ⟨by rw [e1.out, e2.out]; rfl, Below.refl _ _⟩
  have d1 : decide (1099511627776 < n) = false := decide_eq_false h1
  have e1 := Lib.hid (show numT n = strD n.toNat from if_pos (by omega))
  have e2 := Lib.hid (show numE n = 0 from if_pos (by omega))
  have QI := Lib.hid (Tryd.strconv_Itoa n (by omega) (by omega) w hv.pow)
  have hit : Lib.itoa n = strD n.toNat := by
    have := itoa_strD n.toNat
    rwa [Int.toNat_of_nonneg (by omega)] at this
  rw [hit] at QI
  clear hit h0 h1 hv
  go_enter Tryd.func13, Tryd.ntmps13
  go_wp2_with (go_at_call 26; refine QI.out.mono ?_; rintro e w2 ⟨rfl, k, os, rfl⟩)
  go_ret2
  exact ⟨by rw [e1.out, e2.out]; rfl, below_grow w k os⟩
set_option maxHeartbeats 4000000 in
set_option maxRecDepth 100000 in
theorem wireRead_any (S : Bytes) (w : World) (hS : S.length < 140737488355328) (hv : NumVars w) :
    Calls Tryd.prog 14 #[.string ⟨S.toArray⟩] w fun e w' => e = .returned (.tuple #[.int .i64 ((rnV S : Nat) : Int), .int .i64 (rnE S : Int)]) ∧ Below w.heap.size w w' := by
  have HNV := Lib.hid hv
  clear hv
  have hszS := size_mk S
  obtain ⟨E, hE⟩ : ∃ E, E = rnE S := ⟨_, rfl⟩
  obtain ⟨V, hV⟩ : ∃ V, V = rnV S := ⟨_, rfl⟩
  rw [← hE, ← hV]
  have HV := Lib.hid (show V = if E = 0 then dv S else 0 by rw [hV, hE]; rfl)
  have HE := Lib.hid (show E = if numB S = false then 2 else if 1099511627776 < dv S then 4 else 0 by rw [hE]; rfl)
  clear hE hV
  have QT := Lib.hid (fun w => Tryd.strings_Trim_laid ⟨S.toArray⟩ ⟨#[48, 49, 50, 51, 52, 53, 54, 55, 56, 57]⟩ w (by rw [hszS]; omega) (by decide) (ascii_of_all (by decide)))
  by_cases hne : S = []
  · have e1 := Lib.hid (HE.out.trans (if_pos (show numB S = false by rw [hne]; rfl)))
    have e2 := Lib.hid (HV.out.trans (if_neg (by rw [e1.out]; decide)))
    clear HE HV
    subst hne
    go_enter Tryd.func14, Tryd.ntmps14
    go_wp2_with fail
    go_ret2
    exact ⟨by rw [e1.out, e2.out]; rfl, Below.refl _ _⟩
  have hpos : 0 < S.length := List.length_pos_iff.2 hne
  have hem : List.isEmpty S = false := by simpa using hne
  by_cases hz : 1 < S.length ∧ byteN S 0 = 48
  · have e1 := Lib.hid (HE.out.trans (if_pos (numB_false S (fun h => by
      rcases h.2.2 with h1 | h1
      · exact h1 ((getD_byteN S 0).2 hz.2)
      · omega))))
    have e2 := Lib.hid (HV.out.trans (if_neg (by rw [e1.out]; decide)))
    obtain ⟨hz1, hz2⟩ := hz
    have d1 : decide (1 < S.length) = true := decide_eq_true hz1
    have d2 : decide ((1 : Int) < (S.length : Int)) = true := decide_eq_true (by omega)
    have hs0 : ∀ h, (((ByteArray.mk S.toArray)[0]'h).toNat : Int) = 48 := fun h => by rw [strBN S 0 h, hz2]; rfl
    clear HE HV hz1 hz2
    go_enter Tryd.func14, Tryd.ntmps14
    go_wp2_with fail
    go_ret2
    exact ⟨by rw [e1.out, e2.out]; rfl, Below.refl _ _⟩
  have hhead := Lib.hid (show S.getD 0 0 ≠ 48 ∨ S.length = 1 by
    by_cases h1 : S.length = 1
    · exact .inr h1
    · exact .inl (fun h => hz ⟨by omega, (getD_byteN S 0).1 h⟩))
  by_cases hD : DigsB S
  case neg =>
    have e1 := Lib.hid (HE.out.trans (if_pos (numB_false S (fun h => hD h.2.1))))
    have e2 := Lib.hid (HV.out.trans (if_neg (by rw [e1.out]; decide)))
    have ht := trim_other S hD
    have ht2 : List.isEmpty (Lib.trimS S digL) = false := by simpa using ht
    have QT2 : Hid (∀ w, Calls Tryd.prog 27 #[.string ⟨S.toArray⟩, .string ⟨#[48, 49, 50, 51, 52, 53, 54, 55, 56, 57]⟩] w fun e w' => e = .returned (.string ⟨(Lib.trimS S digL).toArray⟩) ∧ Below w.heap.size w w') := QT
    generalize Lib.trimS S digL = T at *
    clear QT HE HV hD
    by_cases hl1 : S.length = 1
    · have d1 : decide (1 < S.length) = false := decide_eq_false (by omega)
      have d2 : decide ((1 : Int) < (S.length : Int)) = false := decide_eq_false (by omega)
      clear hz hl1
      go_enter Tryd.func14, Tryd.ntmps14
      go_wp2_with (go_at_call 27; refine (QT2.out w).mono ?_; rintro e w2 ⟨rfl, b2⟩)
      go_ret2
      exact ⟨by rw [e1.out, e2.out]; rfl, b2⟩
    · have d1 : decide (1 < S.length) = true := decide_eq_true (by omega)
      have d2 : decide ((1 : Int) < (S.length : Int)) = true := decide_eq_true (by omega)
      have h48 : byteN S 0 ≠ 48 := fun h => hz ⟨by omega, h⟩
      have hs0 := fun h => strBN S 0 h
      have d3 : ((byteN S 0 : Int) == 48) = false := by rw [beq_eq_false_iff_ne]; omega
      clear hz hl1 h48
      generalize byteN S 0 = c at *
      go_enter Tryd.func14, Tryd.ntmps14
      go_wp2_with (go_at_call 27; refine (QT2.out w).mono ?_; rintro e w2 ⟨rfl, b2⟩)
      go_ret2
      exact ⟨by rw [e1.out, e2.out]; rfl, b2⟩
  have e0 := Lib.hid (HE.out.trans (if_neg (by rw [(numB_iff S).2 ⟨hne, hD, hhead.out⟩]; decide)))
  have QT2 : Hid (∀ w, Calls Tryd.prog 27 #[.string ⟨S.toArray⟩, .string ⟨#[48, 49, 50, 51, 52, 53, 54, 55, 56, 57]⟩] w fun e w' => e = .returned (.string ⟨#[]⟩) ∧ Below w.heap.size w w') := Lib.hid (fun w => by
    have h := QT.out w
    have e : Lib.trimS (ByteArray.mk S.toArray).data.toList (ByteArray.mk #[48, 49, 50, 51, 52, 53, 54, 55, 56, 57]).data.toList = [] := trim_digits S hD
    rw [e] at h
    exact h)
  have hat := atoi_digits S hne hD
  clear QT HE hD hhead
  go_enter Tryd.func14, Tryd.ntmps14
  go_upto_region 1 with (fail)
  go_cut [22] (fun v w' => v = .bool false ∧ Below w.heap.size w w')
  case first =>
    by_cases hl1 : S.length = 1
    · have d1 : decide (1 < S.length) = false := decide_eq_false (by omega)
      have d2 : decide ((1 : Int) < (S.length : Int)) = false := decide_eq_false (by omega)
      clear hz hl1 hat
      go_wp2_with (go_at_call 27; refine (QT2.out w).mono ?_; rintro e w2 ⟨rfl, b2⟩)
      go_meet
      exact ⟨rfl, b2⟩
    · have d1 : decide (1 < S.length) = true := decide_eq_true (by omega)
      have d2 : decide ((1 : Int) < (S.length : Int)) = true := decide_eq_true (by omega)
      have h48 : byteN S 0 ≠ 48 := fun h => hz ⟨by omega, h⟩
      have hs0 := fun h => strBN S 0 h
      have d3 : ((byteN S 0 : Int) == 48) = false := by rw [beq_eq_false_iff_ne]; omega
      clear hz hl1 h48 hat
      generalize byteN S 0 = c at *
      go_wp2_with (go_at_call 27; refine (QT2.out w).mono ?_; rintro e w2 ⟨rfl, b2⟩)
      go_meet
      exact ⟨rfl, b2⟩
  case rest =>
  generalize wc = w2 at *
  obtain ⟨rfl, b2⟩ := hcut
  have B2 := Lib.hid b2
  have NV2 := HNV.out.below b2
  clear b2 hz QT2
  by_cases h63 : dv S < 9223372036854775808
  · rw [if_pos h63] at hat
    have QA := Lib.hid (Tryd.strconv_Atoi_ok ⟨S.toArray⟩ (by rw [hszS]; omega) _ hat w2)
    clear hat NV2
    generalize dv S = n at *
    by_cases h40 : 1099511627776 < n
    · have d1 : decide ((1099511627776 : Int) < (n : Int)) = true := decide_eq_true (by omega)
      have d1' : decide (1099511627776 < n) = true := decide_eq_true h40
      have e1 := Lib.hid (e0.out.trans (if_pos h40))
      have e2 := Lib.hid (HV.out.trans (if_neg (by rw [e1.out]; decide)))
      clear e0 HV h40
      go_wp2_with (go_at_call 28; refine QA.out.mono ?_; rintro e w3 ⟨rfl, hw3⟩; have B3 := Lib.hid (show Below w2.heap.size w2 w3 from hw3.elim (fun h => h ▸ Below.refl _ _) (fun ⟨t, h⟩ => h ▸ Lib.bytesWorld_below _ _ _)); clear hw3)
      go_ret2
      exact ⟨by rw [e1.out, e2.out]; rfl, B2.out.trans (B3.out.mono B2.out.size)⟩
    · have d1 : decide ((1099511627776 : Int) < (n : Int)) = false := decide_eq_false (by omega)
      have d1' : decide (1099511627776 < n) = false := decide_eq_false h40
      have e1 := Lib.hid (e0.out.trans (if_neg h40))
      have e2 := Lib.hid (HV.out.trans (if_pos e1.out))
      clear e0 HV h40
      go_wp2_with (go_at_call 28; refine QA.out.mono ?_; rintro e w3 ⟨rfl, hw3⟩; have B3 := Lib.hid (show Below w2.heap.size w2 w3 from hw3.elim (fun h => h ▸ Below.refl _ _) (fun ⟨t, h⟩ => h ▸ Lib.bytesWorld_below _ _ _)); clear hw3)
      go_ret2
      exact ⟨by rw [e1.out, e2.out]; rfl, B2.out.trans (B3.out.mono B2.out.size)⟩
  · rw [if_neg h63] at hat
    obtain ⟨tp, pv, hvar⟩ := NV2.rng
    have QA := Lib.hid (Tryd.strconv_Atoi_range_var ⟨S.toArray⟩ (by rw [hszS]; omega) hat tp pv w2 hvar)
    have e1 := Lib.hid (e0.out.trans (if_pos (by omega)))
    have e2 := Lib.hid (HV.out.trans (if_neg (by rw [e1.out]; decide)))
    clear e0 HV h63 hat hvar NV2
    generalize Lib.atoiSat _ = z at *
    go_wp2_with (go_at_call 28; refine QA.out.mono ?_; rintro e w3 ⟨N, rfl, _, _, b3⟩)
    go_ret2
    exact ⟨by rw [e1.out, e2.out]; rfl, B2.out.trans (b3.mono B2.out.size)⟩
theorem len_dig (n : Nat) (h : n < 9223372036854775808) : (dig n).length < 1099511627776 := by
  have h1 : ∀ k m : Nat, m < 10 ^ k → (dig m).length ≤ k := by
    intro k
    induction k with
    | zero => intro m hm; simp at hm; subst hm; rw [dig_zero]; simp
    | succ k ih =>
      intro m hm
      by_cases h0 : m = 0
      · subst h0; rw [dig_zero]; simp
      · rw [dig_pos (by omega), List.length_cons]
        have := ih (m / 10) (by rw [Nat.pow_succ] at hm; omega)
        omega
  have := h1 19 n (by omega)
  omega
set_option maxHeartbeats 2000000 in
set_option maxRecDepth 100000 in
theorem refDigits_any (n : Nat) (w : World) (hn : n < 9223372036854775808) :
    Calls Tryd.prog 15 #[.int .i64 (n : Int)] w fun e w' => e = .returned (.string ⟨(strD n).toArray⟩) ∧ Below w.heap.size w w' := by
  have QO := Lib.hid (fun w => refOf_any n w hn)
  have QT := Lib.hid (fun oa ca w h => refText_any n oa ca w h (len_dig n hn))
  clear hn
  go_enter Tryd.func15, Tryd.ntmps15
  go_wp2_with (first
    | (go_at_call 30; refine (QO.out w).mono ?_; rintro e w2 ⟨oa, ca, rfl, hI, b2⟩; have HI := Lib.hid hI; have B2 := Lib.hid b2; clear hI b2)
    | (go_at_call 29; refine (QT.out oa ca w2 HI.out).mono ?_; rintro e w3 ⟨rfl, b3⟩))
  go_ret
  exact ⟨rfl, B2.out.trans (b3.mono B2.out.size)⟩
theorem dv_take_le (S : Bytes) (k : Nat) : dv (S.take k) ≤ dv S := by
  have h := dv_append (S.take k) (S.drop k)
  rw [List.take_append_drop] at h
  have : dv (S.take k) * 1 ≤ dv (S.take k) * 10 ^ (S.drop k).length := Nat.mul_le_mul_left _ (Nat.pow_pos (by decide))
  omega
def limL : Bytes := [49, 48, 57, 57, 53, 49, 49, 54, 50, 55, 55, 55, 54]
theorem dv_lim : dv limL = 1099511627776 := by decide +kernel
theorem digs_lim : DigsB limL := by
  intro c hc
  simp only [limL, List.mem_cons, List.not_mem_nil, or_false] at hc
  rcases hc with rfl | rfl | rfl | rfl | rfl | rfl | rfl | rfl | rfl | rfl | rfl | rfl | rfl <;> decide
set_option maxHeartbeats 4000000 in
set_option maxRecDepth 100000 in
theorem refRdNum_any (S : Bytes) (w : World) (hS : S.length < 1099511627776) :
    Calls Tryd.prog 16 #[.string ⟨S.toArray⟩] w fun e w' => e = .returned (.tuple #[.int .i64 ((rnV S : Nat) : Int), .int .i64 (rnE S : Int)]) ∧ Below w.heap.size w w' := by
  have hszS := size_mk S
  obtain ⟨E, hE⟩ : ∃ E, E = rnE S := ⟨_, rfl⟩
  obtain ⟨V, hV⟩ : ∃ V, V = rnV S := ⟨_, rfl⟩
  rw [← hE, ← hV]
  have HV := Lib.hid (show V = if E = 0 then dv S else 0 by rw [hV, hE]; rfl)
  have HE := Lib.hid (show E = if numB S = false then 2 else if 1099511627776 < dv S then 4 else 0 by rw [hE]; rfl)
  clear hE hV
  have QI := Lib.hid (fun w => refIs_any S w (by omega))
  by_cases hn : numB S = false
  · have e1 := Lib.hid (HE.out.trans (if_pos hn))
    have e2 := Lib.hid (HV.out.trans (if_neg (by rw [e1.out]; decide)))
    rw [hn] at QI
    clear HE HV hn
    go_enter Tryd.func16, Tryd.ntmps16
    go_wp2_with (go_at_call 31; refine (QI.out w).mono ?_; rintro e w1 ⟨rfl, rfl⟩)
    go_ret2
    exact ⟨by rw [e1.out, e2.out]; rfl, Below.refl _ _⟩
  have e0 := Lib.hid (HE.out.trans (if_neg hn))
  have hn2 : numB S = true := by simpa using hn
  obtain ⟨hne, hD, _⟩ := (numB_iff S).1 hn2
  rw [hn2] at QI
  have QR := Lib.hid (fun w => refRead_any S w hS hD)
  have QL := Lib.hid (fun w => refRead_any limL w (by decide) digs_lim)
  rw [dv_lim] at QL
  have hl1 : (dig (dv S)).length < 1099511627776 := Nat.lt_of_le_of_lt (length_dig_le _ _ (dv_lt S hD)) hS
  have QC := Lib.hid (fun oa ob ca cb w h1 h2 => refCompare_any (dv S) 1099511627776 oa ob ca cb w h1 h2 hl1 (len_dig _ (by decide)))
  have HLT := Lib.hid (fun k (hk : k < S.length) => (⟨digs_byteN hD k hk, dv_snoc S k hk, dv_take_le S (k + 1)⟩ : (48 ≤ byteN S k ∧ byteN S k ≤ 57) ∧ dv (S.take (k + 1)) = 10 * dv (S.take k) + (S[k].toNat - 48) ∧ dv (S.take (k + 1)) ≤ dv S))
  have HS2 := Lib.hid hS
  clear HE hn hn2 hne hl1 hD hS
  go_enter Tryd.func16, Tryd.ntmps16
  go_upto_if 13 with (first
    | (go_at_call 31; refine (QI.out w).mono ?_; rintro e w1 ⟨rfl, rfl⟩)
    | (go_at_call 33; with_reducible refine (QR.out w1).mono ?_; rintro e w2 ⟨oa, ca, rfl, hI, b2, _⟩; have HI := Lib.hid hI; have B2 := Lib.hid b2; clear hI b2)
    | (go_at_call 33; refine (QL.out w2).mono ?_; rintro e w3 ⟨ob, cb, rfl, hJ, b3, _⟩; have HI3 := Lib.hid (HI.out.below b3); have HJ := Lib.hid hJ; have B3 := Lib.hid (B2.out.trans (b3.mono B2.out.size)); clear hJ b3)
    | (go_at_call 32; refine (QC.out oa ob ca cb w3 HI3.out HJ.out).mono ?_; rintro e w4 ⟨rfl, b4⟩; have B4 := Lib.hid (B3.out.trans (b4.mono B3.out.size)); clear b4))
  clear QI QR QL QC HI HI3 HJ B2 B3
  by_cases h40 : 1099511627776 < dv S
  · have hc := cmpI_gt h40
    have e1 := Lib.hid (e0.out.trans (if_pos h40))
    have e2 := Lib.hid (HV.out.trans (if_neg (by rw [e1.out]; decide)))
    clear e0 HV h40
    rw [hc]
    clear hc
    go_wp2_with fail
    go_ret2
    exact ⟨by rw [e1.out, e2.out]; rfl, B4.out⟩
  have hc0 : decide (0 < cmpI (dv S) 1099511627776) = false := by
    rcases Nat.lt_or_ge (dv S) 1099511627776 with h | h
    · rw [cmpI_lt h]; decide
    · rw [show dv S = 1099511627776 by omega, cmpI_eq]; decide
  have e1 := Lib.hid (e0.out.trans (if_neg h40))
  have e2 := Lib.hid (HV.out.trans (if_pos e1.out))
  have H40 := Lib.hid (show dv S ≤ 1099511627776 by omega)
  clear e0 HV h40
  generalize cmpI (dv S) 1099511627776 = c at *
  rw [hc0]
  clear hc0
  go_upto_region 7 with (fail)
  go_loop [4, 5] (fun n i => ∃ k : Nat, k ≤ S.length ∧ i = .int .i64 k ∧ n = .int .i64 ((dv (S.take k) : Nat) : Int)) (fun _ i => S.length - (intOf i).toNat)
  case atStart => exact ⟨0, by omega, rfl, rfl⟩
  case round =>
  obtain ⟨k, hk, rfl, rfl⟩ := hrel
  have hS2 := HS2.out
  by_cases hlt : k < S.length
  · have dk : decide ((k : Int) < (S.length : Int)) = true := decide_eq_true (by omega)
    have dk2 : decide (k < S.length) = true := decide_eq_true hlt
    obtain ⟨hc1, hsn, hle⟩ := HLT.out k hlt
    have hbk : S[k].toNat = byteN S k := by unfold byteN; rw [List.getD_eq_getElem?_getD, List.getElem?_eq_getElem hlt]; rfl
    rw [hbk] at hsn
    have h40 := H40.out
    have hb := fun hh => strBN S k hh
    have hki : (k : Int) < (S.length : Int) := by omega
    obtain ⟨c1, c2⟩ := hc1
    have hbig : dv (S.take (k + 1)) ≤ 1099511627776 := by omega
    have HSN := Lib.hid hsn
    clear hsn hle hbk h40
    generalize byteN S k = c at *
    have hv0 : 10 * dv (S.take k) + (c - 48) ≤ 1099511627776 := by rw [← HSN.out]; exact hbig
    clear hbig
    generalize dv (S.take k) = v at *
    go_wp2_with fail
    go_round
    case rel => exact ⟨k + 1, by omega, by go_num, by rw [HSN.out]; congr 1; omega⟩
    case measure => simp [intOf]; omega
  · have dk : decide ((k : Int) < (S.length : Int)) = false := decide_eq_false (by omega)
    have dk2 : decide (k < S.length) = false := decide_eq_false hlt
    obtain rfl : k = S.length := by omega
    rw [List.take_length]
    go_wp2_with fail
    go_ret2
    exact ⟨by rw [e1.out, e2.out]; rfl, B4.out⟩
set_option maxHeartbeats 4000000 in
set_option maxRecDepth 100000 in
theorem wireNumbers_any (n : Int) (S : Bytes) (w : World) (hS : S.length < 1099511627776) (hv : NumVars w) :
    Calls Tryd.prog 5 #[.int .i64 n, .string ⟨S.toArray⟩] w fun e w' => e = .returned (.bool true) ∧ Below w.heap.size w w' := by
  have Q1 := Lib.hid (wireNumber_any n w hv)
  have Q3 := Lib.hid (fun w => refRdNum_any S w hS)
  have Q4 := Lib.hid (fun w hv => wireRead_any S w (by omega) hv)
  have HV := Lib.hid hv
  clear hv hS
  generalize rnV S = V at *
  generalize rnE S = E at *
  by_cases h0 : n < 0
  · have d0 : decide (n < 0) = true := decide_eq_true h0
    have e1 : numT n = [] := if_neg (by omega)
    have e2 : numE n = 4 := if_neg (by omega)
    rw [e1, e2] at Q1
    clear h0 e1 e2
    go_enter Tryd.func5, Tryd.ntmps5
    go_wp2_with (first
      | (go_at_call 13; refine Q1.out.mono ?_; rintro e w1 ⟨rfl, b1⟩; have V1 := Lib.hid (HV.out.below b1); have B1 := Lib.hid b1; clear b1)
      | (go_at_call 16; refine (Q3.out w1).mono ?_; rintro e w2 ⟨rfl, b2⟩; have V2 := Lib.hid (V1.out.below b2); have B2 := Lib.hid (B1.out.trans (b2.mono B1.out.size)); clear b2)
      | (go_at_call 14; refine (Q4.out w2 V2.out).mono ?_; rintro e w3 ⟨rfl, b3⟩; have B3 := Lib.hid (B2.out.trans (b3.mono B2.out.size)); clear b3))
    go_ret
    exact ⟨rfl, B3.out⟩
  have d0 : decide (n < 0) = false := decide_eq_false h0
  by_cases h1 : 1099511627776 < n
  · have d1 : decide (1099511627776 < n) = true := decide_eq_true h1
    have e1 : numT n = [] := if_neg (by omega)
    have e2 : numE n = 4 := if_neg (by omega)
    rw [e1, e2] at Q1
    clear h0 h1 e1 e2
    go_enter Tryd.func5, Tryd.ntmps5
    go_wp2_with (first
      | (go_at_call 13; refine Q1.out.mono ?_; rintro e w1 ⟨rfl, b1⟩; have V1 := Lib.hid (HV.out.below b1); have B1 := Lib.hid b1; clear b1)
      | (go_at_call 16; refine (Q3.out w1).mono ?_; rintro e w2 ⟨rfl, b2⟩; have V2 := Lib.hid (V1.out.below b2); have B2 := Lib.hid (B1.out.trans (b2.mono B1.out.size)); clear b2)
      | (go_at_call 14; refine (Q4.out w2 V2.out).mono ?_; rintro e w3 ⟨rfl, b3⟩; have B3 := Lib.hid (B2.out.trans (b3.mono B2.out.size)); clear b3))
    go_ret
    exact ⟨rfl, B3.out⟩
  have d1 : decide (1099511627776 < n) = false := decide_eq_false h1
  obtain ⟨m, rfl⟩ : ∃ m : Nat, n = (m : Int) := ⟨n.toNat, by omega⟩
  have e1 : numT (m : Int) = strD m := by unfold numT; rw [if_pos (by omega), Int.toNat_natCast]
  have e2 : numE (m : Int) = 0 := if_pos (by omega)
  rw [e1, e2] at Q1
  obtain ⟨r1, r2⟩ := rn_strD m (by omega)
  have hl : (strD m).length < 140737488355328 := by
    have h2 := len_dig m (by omega)
    unfold strD
    split
    · simp
    · rw [length_digB]; omega
  have Q2 := Lib.hid (fun w hv => wireRead_any (strD m) w hl hv)
  rw [r1, r2] at Q2
  have QD := Lib.hid (fun w => refDigits_any m w (by omega))
  clear e1 e2 r1 r2 hl h0 h1
  generalize strD m = D at *
  go_enter Tryd.func5, Tryd.ntmps5
  go_upto_region 6 with (first
    | (go_at_call 13; refine Q1.out.mono ?_; rintro e w1 ⟨rfl, b1⟩; have V1 := Lib.hid (HV.out.below b1); have B1 := Lib.hid b1; clear b1)
    | (go_at_call 14; refine (Q2.out w1 V1.out).mono ?_; rintro e w2 ⟨rfl, b2⟩; have V2 := Lib.hid (V1.out.below b2); have B2 := Lib.hid (B1.out.trans (b2.mono B1.out.size)); clear b2))
  clear Q1 Q2 B1 V1
  go_wp2_with (first
    | (go_at_call 15; refine (QD.out w2).mono ?_; rintro e w3 ⟨rfl, b3⟩; have V3 := Lib.hid (V2.out.below b3); have B3 := Lib.hid (B2.out.trans (b3.mono B2.out.size)); clear b3)
    | (go_at_call 16; refine (Q3.out w3).mono ?_; rintro e w4 ⟨rfl, b4⟩; have V4 := Lib.hid (V3.out.below b4); have B4 := Lib.hid (B3.out.trans (b4.mono B3.out.size)); clear b4)
    | (go_at_call 14; refine (Q4.out w4 V4.out).mono ?_; rintro e w5 ⟨rfl, b5⟩; have B5 := Lib.hid (B4.out.trans (b5.mono B4.out.size)); clear b5))
  go_ret
  exact ⟨rfl, B5.out⟩
end Go.Proofs.YtohemcdcmlngiaaDoor
