/-
  nat.number, nat.both, nat.reckon.
-/
import Derived.Test.YtkkpfoidppjbdaaDoorLText
import Derived.Test.YtkkpfoidppjbdaaDoorNB
namespace Go.Proofs.YtkkpfoidppjbdaaDoor
set_option linter.unusedVariables false
open Go.RowKit ML FM NL

/-- what is wrong with a number's text -/
def wrongN (F : Bytes) : Nat := if numB F = true then (if 4000 < F.length then 3 else 0) else 2
theorem wrongN_good {F : Bytes} (h : wrongN F = 0) : numB F = true ∧ F.length ≤ 4000 := by
  unfold wrongN at h
  by_cases h1 : numB F = true
  · rw [if_pos h1] at h
    by_cases h2 : 4000 < F.length
    · rw [if_pos h2] at h; omega
    · exact ⟨h1, by omega⟩
  · rw [if_neg h1] at h; omega
/-- what was read of a text: a number, or nothing -/
structure NatAt (w : World) (F : Bytes) (v : Value) : Prop where
  val : ∃ oc cc, v = .slice oc (dig (dv F)).length cc ∧ LimbsAt w oc (dig (dv F)) ∧ (∀ a, oc = some a → a.block < w.heap.size)
theorem exParse_bad (F : Bytes) (w : World) (hF : F.length < 140737488355328) (h : numB F = false) :
    Calls Tryd.prog 79 #[.string ⟨F.toArray⟩] w fun e w' => e = .returned (.tuple #[.slice none 0 0, .bool false]) ∧ Below w.heap.size w w' :=
  (exParse_any F w hF).mono (by
    rintro e w' ⟨bel, ⟨_, rfl⟩ | ⟨hn, _⟩⟩
    · exact ⟨rfl, bel⟩
    · rw [h] at hn; cases hn)
theorem exParse_good (F : Bytes) (w : World) (hF : F.length < 140737488355328) (h : numB F = true) :
    Calls Tryd.prog 79 #[.string ⟨F.toArray⟩] w fun e w' => ∃ oc cc, e = .returned (.tuple #[.slice oc (dig (dv F)).length cc, .bool true]) ∧ LimbsAt w' oc (dig (dv F)) ∧ (∀ a, oc = some a → a.block < w'.heap.size) ∧ Below w.heap.size w w' :=
  (exParse_any F w hF).mono (by
    rintro e w' ⟨bel, ⟨hn, _⟩ | ⟨_, oc, cc, rfl, h1, h2⟩⟩
    · rw [h] at hn; cases hn
    · exact ⟨oc, cc, rfl, h1, h2, bel⟩)
set_option maxHeartbeats 1000000 in
set_option maxRecDepth 100000 in
theorem number_bad (F : Bytes) (w : World) (hF : F.length < 140737488355328) (n : Nat) (hn : wrongN F = n) (h0 : n ≠ 0) :
    Calls Tryd.prog 53 #[.string ⟨F.toArray⟩] w fun e w' => e = .returned (.tuple #[.slice none 0 0, .int .i64 (n : Int)]) ∧ Below w.heap.size w w' := by
  unfold wrongN at hn
  by_cases h1 : numB F = true
  · rw [if_pos h1] at hn
    by_cases h2 : 4000 < F.length
    · rw [if_pos h2] at hn
      have QP := Lib.hid (exParse_good F w hF h1)
      subst hn
      have d1 : (4000 : Int) < (F.length : Int) := by omega
      clear h1 h0
      go_enter Tryd.func53, Tryd.ntmps53
      go_wp2_with (go_at_call 79; refine QP.out.mono ?_; rintro e w1 ⟨oc, cc, rfl, hI, hlt, bel⟩)
      go_ret2
      exact ⟨rfl, bel⟩
    · rw [if_neg h2] at hn; exact absurd hn.symm h0
  · rw [if_neg h1] at hn
    have QP := Lib.hid (exParse_bad F w hF (by simpa using h1))
    subst hn
    clear h1 h0
    go_enter Tryd.func53, Tryd.ntmps53
    go_wp2_with (go_at_call 79; refine QP.out.mono ?_; rintro e w1 ⟨rfl, bel⟩)
    go_ret2
    exact ⟨rfl, bel⟩
set_option maxHeartbeats 1000000 in
set_option maxRecDepth 100000 in
theorem number_good (F : Bytes) (w : World) (h : wrongN F = 0) :
    Calls Tryd.prog 53 #[.string ⟨F.toArray⟩] w fun e w' => ∃ oc cc, e = .returned (.tuple #[.slice oc (dig (dv F)).length cc, .int .i64 0]) ∧ LimbsAt w' oc (dig (dv F)) ∧ (∀ a, oc = some a → a.block < w'.heap.size) ∧ Below w.heap.size w w' := by
  obtain ⟨h1, h2⟩ := wrongN_good h
  have QP := Lib.hid (exParse_good F w (by omega) h1)
  have d1 : ¬ (4000 : Int) < (F.length : Int) := by omega
  clear h h1 h2
  go_enter Tryd.func53, Tryd.ntmps53
  go_wp2_with (go_at_call 79; refine QP.out.mono ?_; rintro e w1 ⟨oc, cc, rfl, hI, hlt, bel⟩)
  go_ret2
  exact ⟨oc, cc, rfl, hI, hlt, bel⟩
/-- what is wrong with two -/
def wrong2 (A B : Bytes) : Nat := if wrongN A = 0 then wrongN B else wrongN A
set_option maxHeartbeats 1000000 in
set_option maxRecDepth 100000 in
theorem both_good (A B : Bytes) (w : World) (h : wrong2 A B = 0) :
    Calls Tryd.prog 52 #[.func (.func 53) #[] #[], .string ⟨A.toArray⟩, .string ⟨B.toArray⟩] w fun e w' => ∃ oa ca ob cb, e = .returned (.tuple #[.slice oa (dig (dv A)).length ca, .slice ob (dig (dv B)).length cb, .int .i64 0]) ∧ LimbsAt w' oa (dig (dv A)) ∧ LimbsAt w' ob (dig (dv B)) ∧ (∀ a, oa = some a → a.block < w'.heap.size) ∧ (∀ a, ob = some a → a.block < w'.heap.size) ∧ Below w.heap.size w w' := by
  have hA : wrongN A = 0 := by
    unfold wrong2 at h
    by_cases h1 : wrongN A = 0
    · exact h1
    · rw [if_neg h1] at h; exact absurd h h1
  have hB : wrongN B = 0 := by
    unfold wrong2 at h
    rw [if_pos hA] at h
    exact h
  have QA := Lib.hid (number_good A w hA)
  have QB := Lib.hid (fun w => number_good B w hB)
  clear h hA hB
  go_enter Tryd.func52, Tryd.ntmps52
  go_upto_region 2 with (go_at_call 53; refine QA.out.mono ?_; rintro e w1 ⟨oa, ca, rfl, hI1, hlt1, bel1⟩)
  clear QA
  go_wp2_with (go_at_call 53; refine (QB.out w1).mono ?_; rintro e w2 ⟨ob, cb, rfl, hI2, hlt2, bel2⟩)
  go_ret3
  exact ⟨oa, ca, ob, cb, rfl, hI1.below bel2, hI2, fun a h => Nat.lt_of_lt_of_le (hlt1 a h) bel2.size, hlt2, bel1.trans (bel2.mono bel1.size)⟩
set_option maxHeartbeats 1000000 in
set_option maxRecDepth 100000 in
theorem both_bad (A B : Bytes) (w : World) (hA : A.length < 140737488355328) (hB : B.length < 140737488355328) (n : Nat) (h : wrong2 A B = n) (h0 : n ≠ 0) :
    Calls Tryd.prog 52 #[.func (.func 53) #[] #[], .string ⟨A.toArray⟩, .string ⟨B.toArray⟩] w fun e w' => ∃ x y, e = .returned (.tuple #[x, y, .int .i64 (n : Int)]) ∧ Below w.heap.size w w' := by
  unfold wrong2 at h
  have hn0 : ((n : Int) == 0) = false := by rw [beq_eq_false_iff_ne]; omega
  by_cases h1 : wrongN A = 0
  · rw [if_pos h1] at h
    have QA := Lib.hid (number_good A w h1)
    have QB := Lib.hid (fun w => number_bad B w hB n h h0)
    clear h h1 h0
    go_enter Tryd.func52, Tryd.ntmps52
    go_upto_region 2 with (go_at_call 53; refine QA.out.mono ?_; rintro e w1 ⟨oa, ca, rfl, hI1, hlt1, bel1⟩)
    clear QA
    go_wp2_with (go_at_call 53; refine (QB.out w1).mono ?_; rintro e w2 ⟨rfl, bel2⟩)
    go_ret3
    exact ⟨_, _, rfl, bel1.trans (bel2.mono bel1.size)⟩
  · rw [if_neg h1] at h
    have QA := Lib.hid (number_bad A w hA n h h0)
    clear h h1 h0
    go_enter Tryd.func52, Tryd.ntmps52
    go_wp2_with (go_at_call 53; refine QA.out.mono ?_; rintro e w1 ⟨rfl, bel1⟩)
    go_ret3
    exact ⟨_, _, rfl, bel1⟩
theorem wrong2_good {A B : Bytes} (h : wrong2 A B = 0) : wrongN A = 0 ∧ wrongN B = 0 := by
  unfold wrong2 at h
  by_cases h1 : wrongN A = 0
  · rw [if_pos h1] at h; exact ⟨h1, h⟩
  · rw [if_neg h1] at h; exact absurd h h1
theorem good_dv {A : Bytes} (h : wrongN A = 0) : NB 4000 (dv A) := by
  obtain ⟨h1, h2⟩ := wrongN_good h
  exact ⟨_, h2, dv_lt A ((numB_iff A).1 h1).2.1⟩
/-- an answer of two texts: an errno, or a text -/
def ans2 (A B : Bytes) (F : Bytes) : Value := .tuple #[.string ⟨(if wrong2 A B = 0 then F else []).toArray⟩, .int .i64 (wrong2 A B : Int)]
set_option maxHeartbeats 1000000 in
set_option maxRecDepth 100000 in
theorem reckonAdd_any (A B : Bytes) (w : World) (hA : A.length < 140737488355328) (hB : B.length < 140737488355328) :
    Calls Tryd.prog 59 #[.string ⟨A.toArray⟩, .string ⟨B.toArray⟩, .func (.func 60) #[] #[]] w fun e w' => e = .returned (ans2 A B (strD (dv A + dv B))) ∧ Below w.heap.size w w' := by
  by_cases hw : wrong2 A B = 0
  · obtain ⟨g1, g2⟩ := wrong2_good hw
    have b1 := good_dv g1
    have b2 := good_dv g2
    have QB := Lib.hid (both_good A B w hw)
    have hans := Lib.hid (show ans2 A B (strD (dv A + dv B)) = .tuple #[.string ⟨(strD (dv A + dv B)).toArray⟩, .int .i64 0] by unfold ans2; rw [if_pos hw, hw]; rfl)
    generalize dv A = x at *
    generalize dv B = y at *
    have l1 : (dig x).length < 1099511627776 := Nat.lt_of_le_of_lt b1.limbs (by decide)
    have l2 : (dig y).length < 1099511627776 := Nat.lt_of_le_of_lt b2.limbs (by decide)
    have l3 : (dig (x + y)).length < 1099511627776 := Nat.lt_of_le_of_lt (b1.add b2).limbs (by decide)
    have B1 := Lib.hid b1
    have B2 := Lib.hid b2
    clear hw g1 g2 hA hB b1 b2
    go_enter Tryd.func59, Tryd.ntmps59
    go_upto_region 4 with (go_at_call 52; refine QB.out.mono ?_; rintro e w1 ⟨oa, ca, ob, cb, rfl, hI1, hI2, hlt1, hlt2, bel1⟩)
    clear QB
    have QC := Lib.hid (exAdd_any x y oa ob ca cb w1 hI1 hI2 l1 l2)
    have QS := Lib.hid (fun oc cc w h => exString_any (x + y) oc cc w h l3)
    clear hI1 hI2 hlt1 hlt2
    go_wp2_with (first
      | (go_at_call 60; refine QC.out.mono ?_; rintro e w2 ⟨oc, cc, rfl, hI3, bel2⟩)
      | (go_at_call 56; refine (QS.out oc cc w2 hI3).mono ?_; rintro e w3 ⟨rfl, bel3⟩))
    go_ret2
    rw [hans.out]
    exact ⟨rfl, bel1.trans ((bel2.trans (bel3.mono bel2.size)).mono bel1.size)⟩
  · have QB := Lib.hid (both_bad A B w hA hB _ rfl hw)
    have hans := Lib.hid (show ∀ F, ans2 A B F = .tuple #[.string ⟨#[]⟩, .int .i64 (wrong2 A B : Int)] from fun F => by unfold ans2; rw [if_neg hw])
    have hn0 : ((wrong2 A B : Int) == 0) = false := by rw [beq_eq_false_iff_ne]; omega
    clear hw hA hB
    generalize wrong2 A B = n at *
    go_enter Tryd.func59, Tryd.ntmps59
    go_wp2_with (go_at_call 52; refine QB.out.mono ?_; rintro e w1 ⟨x, y, rfl, bel1⟩)
    go_ret2
    rw [hans.out]
    exact ⟨rfl, bel1⟩
set_option maxHeartbeats 1000000 in
set_option maxRecDepth 100000 in
theorem reckonMul_any (A B : Bytes) (w : World) (hA : A.length < 140737488355328) (hB : B.length < 140737488355328) :
    Calls Tryd.prog 59 #[.string ⟨A.toArray⟩, .string ⟨B.toArray⟩, .func (.func 62) #[] #[]] w fun e w' => e = .returned (ans2 A B (strD (dv A * dv B))) ∧ Below w.heap.size w w' := by
  by_cases hw : wrong2 A B = 0
  · obtain ⟨g1, g2⟩ := wrong2_good hw
    have b1 := good_dv g1
    have b2 := good_dv g2
    have QB := Lib.hid (both_good A B w hw)
    have hans := Lib.hid (show ans2 A B (strD (dv A * dv B)) = .tuple #[.string ⟨(strD (dv A * dv B)).toArray⟩, .int .i64 0] by unfold ans2; rw [if_pos hw, hw]; rfl)
    generalize dv A = x at *
    generalize dv B = y at *
    have l1 : (dig x).length < 1099511627776 := Nat.lt_of_le_of_lt b1.limbs (by decide)
    have l2 : (dig y).length < 1099511627776 := Nat.lt_of_le_of_lt b2.limbs (by decide)
    have l3 : (dig (x * y)).length < 1099511627776 := Nat.lt_of_le_of_lt (b1.mul b2).limbs (by decide)
    have B1 := Lib.hid b1
    have B2 := Lib.hid b2
    clear hw g1 g2 hA hB b1 b2
    go_enter Tryd.func59, Tryd.ntmps59
    go_upto_region 4 with (go_at_call 52; refine QB.out.mono ?_; rintro e w1 ⟨oa, ca, ob, cb, rfl, hI1, hI2, hlt1, hlt2, bel1⟩)
    clear QB
    have QC := Lib.hid (exMul_any x y oa ob ca cb w1 hI1 hI2 l1 l2)
    have QS := Lib.hid (fun oc cc w h => exString_any (x * y) oc cc w h l3)
    clear hI1 hI2 hlt1 hlt2
    go_wp2_with (first
      | (go_at_call 62; refine QC.out.mono ?_; rintro e w2 ⟨oc, cc, rfl, hI3, bel2⟩)
      | (go_at_call 56; refine (QS.out oc cc w2 hI3).mono ?_; rintro e w3 ⟨rfl, bel3⟩))
    go_ret2
    rw [hans.out]
    exact ⟨rfl, bel1.trans ((bel2.trans (bel3.mono bel2.size)).mono bel1.size)⟩
  · have QB := Lib.hid (both_bad A B w hA hB _ rfl hw)
    have hans := Lib.hid (show ∀ F, ans2 A B F = .tuple #[.string ⟨#[]⟩, .int .i64 (wrong2 A B : Int)] from fun F => by unfold ans2; rw [if_neg hw])
    have hn0 : ((wrong2 A B : Int) == 0) = false := by rw [beq_eq_false_iff_ne]; omega
    clear hw hA hB
    generalize wrong2 A B = n at *
    go_enter Tryd.func59, Tryd.ntmps59
    go_wp2_with (go_at_call 52; refine QB.out.mono ?_; rintro e w1 ⟨x, y, rfl, bel1⟩)
    go_ret2
    rw [hans.out]
    exact ⟨rfl, bel1⟩
end Go.Proofs.YtkkpfoidppjbdaaDoor
