/-
  nat.number, nat.both, nat.reckon.
  nat.Add, Mul, Compare, Sub.
  nat.Gcd, nat.Div.
  The reference's Is, Wrong, Read.
  The law's text and wrong.
-/
import Derived.Test.YtkkpfoidppjbdaaDoorBLParse
import Derived.Test.YtkkpfoidppjbdaaDoorBPlain
import Derived.Test.YtkkpfoidppjbdaaDoorBLDiv
namespace Go.Proofs.YtkkpfoidppjbdaaDoor
set_option linter.unusedVariables false
open Go.RowKit ML FM NL

/-- what is wrong with a number's text -/
def wrongN (F : Bytes) : Nat := if numB F = true then (if 4000 < F.length then 3 else 0) else 2
theorem wrongN_good {F : Bytes} (h : wrongN F = 0) : numB F = true ∧ F.length ≤ 4000 := by
  unfold wrongN at h
  by_cases h1 : numB F = true
  · rw [if_pos h1] at h
    by_cases h2 : 4000 < F.length
    · rw [if_pos h2] at h; omega
    · exact ⟨h1, by omega⟩
  · rw [if_neg h1] at h; omega
/-- what was read of a text: a number, or nothing -/
structure NatAt (w : World) (F : Bytes) (v : Value) : Prop where
  val : ∃ oc cc, v = .slice oc (dig (dv F)).length cc ∧ LimbsAt w oc (dig (dv F)) ∧ (∀ a, oc = some a → a.block < w.heap.size)
theorem exParse_bad (F : Bytes) (w : World) (hF : F.length < 140737488355328) (h : numB F = false) :
    Calls Tryd.prog 79 #[.string ⟨F.toArray⟩] w fun e w' => e = .returned (.tuple #[.slice none 0 0, .bool false]) ∧ Below w.heap.size w w' :=
  (exParse_any F w hF).mono (by
    rintro e w' ⟨bel, ⟨_, rfl⟩ | ⟨hn, _⟩⟩
    · exact ⟨rfl, bel⟩
    · rw [h] at hn; cases hn)
theorem exParse_good (F : Bytes) (w : World) (hF : F.length < 140737488355328) (h : numB F = true) :
    Calls Tryd.prog 79 #[.string ⟨F.toArray⟩] w fun e w' => ∃ oc cc, e = .returned (.tuple #[.slice oc (dig (dv F)).length cc, .bool true]) ∧ LimbsAt w' oc (dig (dv F)) ∧ (∀ a, oc = some a → a.block < w'.heap.size) ∧ Below w.heap.size w w' :=
  (exParse_any F w hF).mono (by
    rintro e w' ⟨bel, ⟨hn, _⟩ | ⟨_, oc, cc, rfl, h1, h2⟩⟩
    · rw [h] at hn; cases hn
    · exact ⟨oc, cc, rfl, h1, h2, bel⟩)
set_option maxHeartbeats 1000000 in
set_option maxRecDepth 100000 in
theorem number_bad (F : Bytes) (w : World) (hF : F.length < 140737488355328) (n : Nat) (hn : wrongN F = n) (h0 : n ≠ 0) :
    Calls Tryd.prog 53 #[.string ⟨F.toArray⟩] w fun e w' => e = .returned (.tuple #[.slice none 0 0, .int .i64 (n : Int)]) ∧ Below w.heap.size w w' := by
  unfold wrongN at hn
  by_cases h1 : numB F = true
  · rw [if_pos h1] at hn
    by_cases h2 : 4000 < F.length
    · rw [if_pos h2] at hn
      have QP := Lib.hid (exParse_good F w hF h1)
      subst hn
      have d1 : (4000 : Int) < (F.length : Int) := by omega
      clear h1 h0
      go_enter Tryd.func53, Tryd.ntmps53
      go_wp2_with (go_at_call 79; refine QP.out.mono ?_; rintro e w1 ⟨oc, cc, rfl, hI, hlt, bel⟩)
      go_ret2
      exact ⟨rfl, bel⟩
    · rw [if_neg h2] at hn; exact absurd hn.symm h0
  · rw [if_neg h1] at hn
    have QP := Lib.hid (exParse_bad F w hF (by simpa using h1))
    subst hn
    clear h1 h0
    go_enter Tryd.func53, Tryd.ntmps53
    go_wp2_with (go_at_call 79; refine QP.out.mono ?_; rintro e w1 ⟨rfl, bel⟩)
    go_ret2
    exact ⟨rfl, bel⟩
set_option maxHeartbeats 1000000 in
set_option maxRecDepth 100000 in
theorem number_good (F : Bytes) (w : World) (h : wrongN F = 0) :
    Calls Tryd.prog 53 #[.string ⟨F.toArray⟩] w fun e w' => ∃ oc cc, e = .returned (.tuple #[.slice oc (dig (dv F)).length cc, .int .i64 0]) ∧ LimbsAt w' oc (dig (dv F)) ∧ (∀ a, oc = some a → a.block < w'.heap.size) ∧ Below w.heap.size w w' := by
  obtain ⟨h1, h2⟩ := wrongN_good h
  have QP := Lib.hid (exParse_good F w (by omega) h1)
  have d1 : ¬ (4000 : Int) < (F.length : Int) := by omega
  clear h h1 h2
  go_enter Tryd.func53, Tryd.ntmps53
  go_wp2_with (go_at_call 79; refine QP.out.mono ?_; rintro e w1 ⟨oc, cc, rfl, hI, hlt, bel⟩)
  go_ret2
  exact ⟨oc, cc, rfl, hI, hlt, bel⟩
/-- what is wrong with two -/
def wrong2 (A B : Bytes) : Nat := if wrongN A = 0 then wrongN B else wrongN A
set_option maxHeartbeats 1000000 in
set_option maxRecDepth 100000 in
theorem both_good (A B : Bytes) (w : World) (h : wrong2 A B = 0) :
    Calls Tryd.prog 52 #[.func (.func 53) #[] #[], .string ⟨A.toArray⟩, .string ⟨B.toArray⟩] w fun e w' => ∃ oa ca ob cb, e = .returned (.tuple #[.slice oa (dig (dv A)).length ca, .slice ob (dig (dv B)).length cb, .int .i64 0]) ∧ LimbsAt w' oa (dig (dv A)) ∧ LimbsAt w' ob (dig (dv B)) ∧ (∀ a, oa = some a → a.block < w'.heap.size) ∧ (∀ a, ob = some a → a.block < w'.heap.size) ∧ Below w.heap.size w w' := by
  have hA : wrongN A = 0 := by
    unfold wrong2 at h
    by_cases h1 : wrongN A = 0
    · exact h1
    · rw [if_neg h1] at h; exact absurd h h1
  have hB : wrongN B = 0 := by
    unfold wrong2 at h
    rw [if_pos hA] at h
    exact h
  have QA := Lib.hid (number_good A w hA)
  have QB := Lib.hid (fun w => number_good B w hB)
  clear h hA hB
  go_enter Tryd.func52, Tryd.ntmps52
  go_upto_region 2 with (go_at_call 53; refine QA.out.mono ?_; rintro e w1 ⟨oa, ca, rfl, hI1, hlt1, bel1⟩)
  clear QA
  go_wp2_with (go_at_call 53; refine (QB.out w1).mono ?_; rintro e w2 ⟨ob, cb, rfl, hI2, hlt2, bel2⟩)
  go_ret3
  exact ⟨oa, ca, ob, cb, rfl, hI1.below bel2, hI2, fun a h => Nat.lt_of_lt_of_le (hlt1 a h) bel2.size, hlt2, bel1.trans (bel2.mono bel1.size)⟩
set_option maxHeartbeats 1000000 in
set_option maxRecDepth 100000 in
theorem both_bad (A B : Bytes) (w : World) (hA : A.length < 140737488355328) (hB : B.length < 140737488355328) (n : Nat) (h : wrong2 A B = n) (h0 : n ≠ 0) :
    Calls Tryd.prog 52 #[.func (.func 53) #[] #[], .string ⟨A.toArray⟩, .string ⟨B.toArray⟩] w fun e w' => ∃ x y, e = .returned (.tuple #[x, y, .int .i64 (n : Int)]) ∧ Below w.heap.size w w' := by
  unfold wrong2 at h
  have hn0 : ((n : Int) == 0) = false := by rw [beq_eq_false_iff_ne]; omega
  by_cases h1 : wrongN A = 0
  · rw [if_pos h1] at h
    have QA := Lib.hid (number_good A w h1)
    have QB := Lib.hid (fun w => number_bad B w hB n h h0)
    clear h h1 h0
    go_enter Tryd.func52, Tryd.ntmps52
    go_upto_region 2 with (go_at_call 53; refine QA.out.mono ?_; rintro e w1 ⟨oa, ca, rfl, hI1, hlt1, bel1⟩)
    clear QA
    go_wp2_with (go_at_call 53; refine (QB.out w1).mono ?_; rintro e w2 ⟨rfl, bel2⟩)
    go_ret3
    exact ⟨_, _, rfl, bel1.trans (bel2.mono bel1.size)⟩
  · rw [if_neg h1] at h
    have QA := Lib.hid (number_bad A w hA n h h0)
    clear h h1 h0
    go_enter Tryd.func52, Tryd.ntmps52
    go_wp2_with (go_at_call 53; refine QA.out.mono ?_; rintro e w1 ⟨rfl, bel1⟩)
    go_ret3
    exact ⟨_, _, rfl, bel1⟩
theorem wrong2_good {A B : Bytes} (h : wrong2 A B = 0) : wrongN A = 0 ∧ wrongN B = 0 := by
  unfold wrong2 at h
  by_cases h1 : wrongN A = 0
  · rw [if_pos h1] at h; exact ⟨h1, h⟩
  · rw [if_neg h1] at h; exact absurd h h1
theorem good_dv {A : Bytes} (h : wrongN A = 0) : NB 4000 (dv A) := by
  obtain ⟨h1, h2⟩ := wrongN_good h
  exact ⟨_, h2, dv_lt A ((numB_iff A).1 h1).2.1⟩
/-- an answer of two texts: an errno, or a text -/
def ans2 (A B : Bytes) (F : Bytes) : Value := .tuple #[.string ⟨(if wrong2 A B = 0 then F else []).toArray⟩, .int .i64 (wrong2 A B : Int)]
set_option maxHeartbeats 1000000 in
set_option maxRecDepth 100000 in
theorem reckonAdd_any (A B : Bytes) (w : World) (hA : A.length < 140737488355328) (hB : B.length < 140737488355328) :
    Calls Tryd.prog 59 #[.string ⟨A.toArray⟩, .string ⟨B.toArray⟩, .func (.func 60) #[] #[]] w fun e w' => e = .returned (ans2 A B (strD (dv A + dv B))) ∧ Below w.heap.size w w' := by
  by_cases hw : wrong2 A B = 0
  · obtain ⟨g1, g2⟩ := wrong2_good hw
    have b1 := good_dv g1
    have b2 := good_dv g2
    have QB := Lib.hid (both_good A B w hw)
    have hans := Lib.hid (show ans2 A B (strD (dv A + dv B)) = .tuple #[.string ⟨(strD (dv A + dv B)).toArray⟩, .int .i64 0] by unfold ans2; rw [if_pos hw, hw]; rfl)
    generalize dv A = x at *
    generalize dv B = y at *
    have l1 : (dig x).length < 1099511627776 := Nat.lt_of_le_of_lt b1.limbs (by decide)
    have l2 : (dig y).length < 1099511627776 := Nat.lt_of_le_of_lt b2.limbs (by decide)
    have l3 : (dig (x + y)).length < 1099511627776 := Nat.lt_of_le_of_lt (b1.add b2).limbs (by decide)
    have B1 := Lib.hid b1
    have B2 := Lib.hid b2
    clear hw g1 g2 hA hB b1 b2
    go_enter Tryd.func59, Tryd.ntmps59
    go_upto_region 4 with (go_at_call 52; refine QB.out.mono ?_; rintro e w1 ⟨oa, ca, ob, cb, rfl, hI1, hI2, hlt1, hlt2, bel1⟩)
    clear QB
    have QC := Lib.hid (exAdd_any x y oa ob ca cb w1 hI1 hI2 l1 l2)
    have QS := Lib.hid (fun oc cc w h => exString_any (x + y) oc cc w h l3)
    clear hI1 hI2 hlt1 hlt2
    go_wp2_with (first
      | (go_at_call 60; refine QC.out.mono ?_; rintro e w2 ⟨oc, cc, rfl, hI3, bel2⟩)
      | (go_at_call 56; refine (QS.out oc cc w2 hI3).mono ?_; rintro e w3 ⟨rfl, bel3⟩))
    go_ret2
    rw [hans.out]
    exact ⟨rfl, bel1.trans ((bel2.trans (bel3.mono bel2.size)).mono bel1.size)⟩
  · have QB := Lib.hid (both_bad A B w hA hB _ rfl hw)
    have hans := Lib.hid (show ∀ F, ans2 A B F = .tuple #[.string ⟨#[]⟩, .int .i64 (wrong2 A B : Int)] from fun F => by unfold ans2; rw [if_neg hw])
    have hn0 : ((wrong2 A B : Int) == 0) = false := by rw [beq_eq_false_iff_ne]; omega
    clear hw hA hB
    generalize wrong2 A B = n at *
    go_enter Tryd.func59, Tryd.ntmps59
    go_wp2_with (go_at_call 52; refine QB.out.mono ?_; rintro e w1 ⟨x, y, rfl, bel1⟩)
    go_ret2
    rw [hans.out]
    exact ⟨rfl, bel1⟩
set_option maxHeartbeats 1000000 in
set_option maxRecDepth 100000 in
theorem reckonMul_any (A B : Bytes) (w : World) (hA : A.length < 140737488355328) (hB : B.length < 140737488355328) :
    Calls Tryd.prog 59 #[.string ⟨A.toArray⟩, .string ⟨B.toArray⟩, .func (.func 62) #[] #[]] w fun e w' => e = .returned (ans2 A B (strD (dv A * dv B))) ∧ Below w.heap.size w w' := by
  by_cases hw : wrong2 A B = 0
  · obtain ⟨g1, g2⟩ := wrong2_good hw
    have b1 := good_dv g1
    have b2 := good_dv g2
    have QB := Lib.hid (both_good A B w hw)
    have hans := Lib.hid (show ans2 A B (strD (dv A * dv B)) = .tuple #[.string ⟨(strD (dv A * dv B)).toArray⟩, .int .i64 0] by unfold ans2; rw [if_pos hw, hw]; rfl)
    generalize dv A = x at *
    generalize dv B = y at *
    have l1 : (dig x).length < 1099511627776 := Nat.lt_of_le_of_lt b1.limbs (by decide)
    have l2 : (dig y).length < 1099511627776 := Nat.lt_of_le_of_lt b2.limbs (by decide)
    have l3 : (dig (x * y)).length < 1099511627776 := Nat.lt_of_le_of_lt (b1.mul b2).limbs (by decide)
    have B1 := Lib.hid b1
    have B2 := Lib.hid b2
    clear hw g1 g2 hA hB b1 b2
    go_enter Tryd.func59, Tryd.ntmps59
    go_upto_region 4 with (go_at_call 52; refine QB.out.mono ?_; rintro e w1 ⟨oa, ca, ob, cb, rfl, hI1, hI2, hlt1, hlt2, bel1⟩)
    clear QB
    have QC := Lib.hid (exMul_any x y oa ob ca cb w1 hI1 hI2 l1 l2)
    have QS := Lib.hid (fun oc cc w h => exString_any (x * y) oc cc w h l3)
    clear hI1 hI2 hlt1 hlt2
    go_wp2_with (first
      | (go_at_call 62; refine QC.out.mono ?_; rintro e w2 ⟨oc, cc, rfl, hI3, bel2⟩)
      | (go_at_call 56; refine (QS.out oc cc w2 hI3).mono ?_; rintro e w3 ⟨rfl, bel3⟩))
    go_ret2
    rw [hans.out]
    exact ⟨rfl, bel1.trans ((bel2.trans (bel3.mono bel2.size)).mono bel1.size)⟩
  · have QB := Lib.hid (both_bad A B w hA hB _ rfl hw)
    have hans := Lib.hid (show ∀ F, ans2 A B F = .tuple #[.string ⟨#[]⟩, .int .i64 (wrong2 A B : Int)] from fun F => by unfold ans2; rw [if_neg hw])
    have hn0 : ((wrong2 A B : Int) == 0) = false := by rw [beq_eq_false_iff_ne]; omega
    clear hw hA hB
    generalize wrong2 A B = n at *
    go_enter Tryd.func59, Tryd.ntmps59
    go_wp2_with (go_at_call 52; refine QB.out.mono ?_; rintro e w1 ⟨x, y, rfl, bel1⟩)
    go_ret2
    rw [hans.out]
    exact ⟨rfl, bel1⟩
end Go.Proofs.YtkkpfoidppjbdaaDoor
namespace Go.Proofs.YtkkpfoidppjbdaaDoor
set_option linter.unusedVariables false
open Go.RowKit ML FM NL

set_option maxHeartbeats 1000000 in
set_option maxRecDepth 100000 in
theorem natAdd_any (A B : Bytes) (w : World) (hA : A.length < 140737488355328) (hB : B.length < 140737488355328) :
    Calls Tryd.prog 16 #[.string ⟨A.toArray⟩, .string ⟨B.toArray⟩] w fun e w' => e = .returned (ans2 A B (strD (dv A + dv B))) ∧ Below w.heap.size w w' := by
  have QR := Lib.hid (reckonAdd_any A B w hA hB)
  obtain ⟨F, hF⟩ : ∃ F, F = strD (dv A + dv B) := ⟨_, rfl⟩
  rw [← hF] at QR ⊢
  unfold ans2 at QR ⊢
  clear hA hB hF
  generalize (if wrong2 A B = 0 then F else []) = X at *
  go_enter Tryd.func16, Tryd.ntmps16
  go_wp2_with (go_at_call 59; refine QR.out.mono ?_; rintro e w1 ⟨rfl, bel⟩)
  go_ret2
  exact ⟨rfl, bel⟩
set_option maxHeartbeats 1000000 in
set_option maxRecDepth 100000 in
theorem natMul_any (A B : Bytes) (w : World) (hA : A.length < 140737488355328) (hB : B.length < 140737488355328) :
    Calls Tryd.prog 20 #[.string ⟨A.toArray⟩, .string ⟨B.toArray⟩] w fun e w' => e = .returned (ans2 A B (strD (dv A * dv B))) ∧ Below w.heap.size w w' := by
  have QR := Lib.hid (reckonMul_any A B w hA hB)
  obtain ⟨F, hF⟩ : ∃ F, F = strD (dv A * dv B) := ⟨_, rfl⟩
  rw [← hF] at QR ⊢
  unfold ans2 at QR ⊢
  clear hA hB hF
  generalize (if wrong2 A B = 0 then F else []) = X at *
  go_enter Tryd.func20, Tryd.ntmps20
  go_wp2_with (go_at_call 59; refine QR.out.mono ?_; rintro e w1 ⟨rfl, bel⟩)
  go_ret2
  exact ⟨rfl, bel⟩
set_option maxHeartbeats 1000000 in
set_option maxRecDepth 100000 in
theorem natCompare_any (A B : Bytes) (w : World) (hA : A.length < 140737488355328) (hB : B.length < 140737488355328) :
    Calls Tryd.prog 22 #[.string ⟨A.toArray⟩, .string ⟨B.toArray⟩] w fun e w' => e = .returned (.tuple #[.int .i64 (if wrong2 A B = 0 then cmpI (dv A) (dv B) else 0), .int .i64 (wrong2 A B : Int)]) ∧ Below w.heap.size w w' := by
  by_cases hw : wrong2 A B = 0
  · obtain ⟨g1, g2⟩ := wrong2_good hw
    have b1 := good_dv g1
    have b2 := good_dv g2
    have QB := Lib.hid (both_good A B w hw)
    rw [if_pos hw, hw]
    generalize dv A = x at *
    generalize dv B = y at *
    have l1 : (dig x).length < 1099511627776 := Nat.lt_of_le_of_lt b1.limbs (by decide)
    have l2 : (dig y).length < 1099511627776 := Nat.lt_of_le_of_lt b2.limbs (by decide)
    clear hw g1 g2 hA hB b1 b2
    go_enter Tryd.func22, Tryd.ntmps22
    go_upto_region 4 with (go_at_call 52; refine QB.out.mono ?_; rintro e w1 ⟨oa, ca, ob, cb, rfl, hI1, hI2, hlt1, hlt2, bel1⟩)
    clear QB
    have QC := Lib.hid (exCmp_any x y oa ob ca cb w1 hI1 hI2 l1 l2)
    clear hI1 hI2 hlt1 hlt2
    go_wp2_with (go_at_call 54; refine QC.out.mono ?_; rintro e w2 ⟨rfl, bel2⟩)
    go_ret2
    exact ⟨rfl, bel1.trans (bel2.mono bel1.size)⟩
  · have QB := Lib.hid (both_bad A B w hA hB _ rfl hw)
    rw [if_neg hw]
    have hn0 : ((wrong2 A B : Int) == 0) = false := by rw [beq_eq_false_iff_ne]; omega
    clear hw hA hB
    generalize wrong2 A B = n at *
    go_enter Tryd.func22, Tryd.ntmps22
    go_wp2_with (go_at_call 52; refine QB.out.mono ?_; rintro e w1 ⟨x, y, rfl, bel1⟩)
    go_ret2
    exact ⟨rfl, bel1⟩
/-- what is wrong with a difference -/
def wrongS (A B : Bytes) : Nat := if wrong2 A B = 0 then (if dv A < dv B then 4 else 0) else wrong2 A B
set_option maxHeartbeats 1000000 in
set_option maxRecDepth 100000 in
theorem natSub_any (A B : Bytes) (w : World) (hA : A.length < 140737488355328) (hB : B.length < 140737488355328) :
    Calls Tryd.prog 13 #[.string ⟨A.toArray⟩, .string ⟨B.toArray⟩] w fun e w' => e = .returned (.tuple #[.string ⟨(if wrongS A B = 0 then strD (dv A - dv B) else []).toArray⟩, .int .i64 (wrongS A B : Int)]) ∧ Below w.heap.size w w' := by
  by_cases hw : wrong2 A B = 0
  · obtain ⟨g1, g2⟩ := wrong2_good hw
    have b1 := good_dv g1
    have b2 := good_dv g2
    have QB := Lib.hid (both_good A B w hw)
    have hS : wrongS A B = if dv A < dv B then 4 else 0 := if_pos hw
    rw [hS]
    clear hS
    generalize dv A = x at *
    generalize dv B = y at *
    have l1 : (dig x).length < 1099511627776 := Nat.lt_of_le_of_lt b1.limbs (by decide)
    have l2 : (dig y).length < 1099511627776 := Nat.lt_of_le_of_lt b2.limbs (by decide)
    have l3 : (dig (x - y)).length < 1099511627776 := Nat.lt_of_le_of_lt (b1.mono (Nat.sub_le x y)).limbs (by decide)
    clear hw g1 g2 hA hB b1 b2
    by_cases hxy : x < y
    · have hc := Lib.hid (cmpI_lt hxy)
      rw [show (if x < y then 4 else 0) = 4 from if_pos hxy, if_neg (show ¬ 4 = 0 by decide)]
      clear hxy
      go_enter Tryd.func13, Tryd.ntmps13
      go_upto_region 4 with (go_at_call 52; refine QB.out.mono ?_; rintro e w1 ⟨oa, ca, ob, cb, rfl, hI1, hI2, hlt1, hlt2, bel1⟩)
      clear QB
      have QC := Lib.hid (exCmp_any x y oa ob ca cb w1 hI1 hI2 l1 l2)
      rw [hc.out] at QC
      clear hI1 hI2 hlt1 hlt2
      go_wp2_with (go_at_call 54; refine QC.out.mono ?_; rintro e w2 ⟨rfl, bel2⟩)
      go_ret2
      exact ⟨rfl, bel1.trans (bel2.mono bel1.size)⟩
    · have hX := Lib.hid (show (if x < y then 4 else 0) = 0 from if_neg hxy)
      have hcn : ¬ cmpI x y < 0 := by
        unfold cmpI
        rw [if_neg hxy]
        split <;> omega
      have HXY := Lib.hid (show y ≤ x by omega)
      clear hxy
      go_enter Tryd.func13, Tryd.ntmps13
      go_upto_region 4 with (go_at_call 52; refine QB.out.mono ?_; rintro e w1 ⟨oa, ca, ob, cb, rfl, hI1, hI2, hlt1, hlt2, bel1⟩)
      clear QB
      have QC := Lib.hid (exCmp_any x y oa ob ca cb w1 hI1 hI2 l1 l2)
      have QD := Lib.hid (fun w2 (b : Below w1.heap.size w1 w2) => exSub_any x y oa ob ca cb w2 HXY.out (hI1.below b) (hI2.below b) l1 l2)
      have QS := Lib.hid (fun oc cc w h => exString_any (x - y) oc cc w h l3)
      clear hI1 hI2 hlt1 hlt2
      generalize cmpI x y = c at *
      go_wp2_with (first
        | (go_at_call 54; refine QC.out.mono ?_; rintro e w2 ⟨rfl, bel2⟩)
        | (go_at_call 55; refine (QD.out w2 bel2).mono ?_; rintro e w3 ⟨oc, cc, rfl, hI3, bel3⟩)
        | (go_at_call 56; refine (QS.out oc cc w3 hI3).mono ?_; rintro e w4 ⟨rfl, bel4⟩))
      go_ret2
      exact ⟨rfl, bel1.trans ((bel2.trans ((bel3.trans (bel4.mono bel3.size)).mono bel2.size)).mono bel1.size)⟩
  · have QB := Lib.hid (both_bad A B w hA hB _ rfl hw)
    have hS : wrongS A B = wrong2 A B := if_neg hw
    rw [hS, if_neg hw]
    have hn0 : ((wrong2 A B : Int) == 0) = false := by rw [beq_eq_false_iff_ne]; omega
    clear hw hA hB hS
    generalize wrong2 A B = n at *
    go_enter Tryd.func13, Tryd.ntmps13
    go_wp2_with (go_at_call 52; refine QB.out.mono ?_; rintro e w1 ⟨x, y, rfl, bel1⟩)
    go_ret2
    exact ⟨rfl, bel1⟩
end Go.Proofs.YtkkpfoidppjbdaaDoor
namespace Go.Proofs.YtkkpfoidppjbdaaDoor
set_option linter.unusedVariables false
open Go.RowKit ML FM NL

set_option maxHeartbeats 1000000 in
set_option maxRecDepth 100000 in
theorem reckonGcd_any (A B : Bytes) (w : World) (hA : A.length < 140737488355328) (hB : B.length < 140737488355328) :
    Calls Tryd.prog 59 #[.string ⟨A.toArray⟩, .string ⟨B.toArray⟩, .func (.func 63) #[] #[]] w fun e w' => e = .returned (ans2 A B (strD (Nat.gcd (dv A) (dv B)))) ∧ Below w.heap.size w w' := by
  by_cases hw : wrong2 A B = 0
  · obtain ⟨g1, g2⟩ := wrong2_good hw
    have b1 := good_dv g1
    have b2 := good_dv g2
    have QB := Lib.hid (both_good A B w hw)
    have hans := Lib.hid (show ans2 A B (strD (Nat.gcd (dv A) (dv B))) = .tuple #[.string ⟨(strD (Nat.gcd (dv A) (dv B))).toArray⟩, .int .i64 0] by unfold ans2; rw [if_pos hw, hw]; rfl)
    generalize dv A = x at *
    generalize dv B = y at *
    have l1 : (dig x).length < 1099511627775 := Nat.lt_of_le_of_lt b1.limbs (by decide)
    have l2 : (dig y).length < 1099511627775 := Nat.lt_of_le_of_lt b2.limbs (by decide)
    have l3 : (dig (Nat.gcd x y)).length < 1099511627776 := by
      by_cases hx : 0 < x
      · exact Nat.lt_of_le_of_lt (b1.mono (Nat.le_of_dvd hx (Nat.gcd_dvd_left x y))).limbs (by decide)
      · have : x = 0 := by omega
        subst this
        rw [Nat.gcd_zero_left]
        omega
    clear hw g1 g2 hA hB b1 b2
    go_enter Tryd.func59, Tryd.ntmps59
    go_upto_region 4 with (go_at_call 52; refine QB.out.mono ?_; rintro e w1 ⟨oa, ca, ob, cb, rfl, hI1, hI2, hlt1, hlt2, bel1⟩)
    clear QB
    have QC := Lib.hid (exGcd_any x y oa ob ca cb w1 hI1 hI2 l1 l2)
    have QS := Lib.hid (fun oc cc w h => exString_any (Nat.gcd x y) oc cc w h l3)
    clear hI1 hI2 hlt1 hlt2
    go_wp2_with (first
      | (go_at_call 63; refine QC.out.mono ?_; rintro e w2 ⟨oc, cc, rfl, hI3, bel2⟩)
      | (go_at_call 56; refine (QS.out oc cc w2 hI3).mono ?_; rintro e w3 ⟨rfl, bel3⟩))
    go_ret2
    rw [hans.out]
    exact ⟨rfl, bel1.trans ((bel2.trans (bel3.mono bel2.size)).mono bel1.size)⟩
  · have QB := Lib.hid (both_bad A B w hA hB _ rfl hw)
    have hans := Lib.hid (show ∀ F, ans2 A B F = .tuple #[.string ⟨#[]⟩, .int .i64 (wrong2 A B : Int)] from fun F => by unfold ans2; rw [if_neg hw])
    have hn0 : ((wrong2 A B : Int) == 0) = false := by rw [beq_eq_false_iff_ne]; omega
    clear hw hA hB
    generalize wrong2 A B = n at *
    go_enter Tryd.func59, Tryd.ntmps59
    go_wp2_with (go_at_call 52; refine QB.out.mono ?_; rintro e w1 ⟨x, y, rfl, bel1⟩)
    go_ret2
    rw [hans.out]
    exact ⟨rfl, bel1⟩
set_option maxHeartbeats 1000000 in
set_option maxRecDepth 100000 in
theorem natGcd_any (A B : Bytes) (w : World) (hA : A.length < 140737488355328) (hB : B.length < 140737488355328) :
    Calls Tryd.prog 25 #[.string ⟨A.toArray⟩, .string ⟨B.toArray⟩] w fun e w' => e = .returned (ans2 A B (strD (Nat.gcd (dv A) (dv B)))) ∧ Below w.heap.size w w' := by
  have QR := Lib.hid (reckonGcd_any A B w hA hB)
  obtain ⟨F, hF⟩ : ∃ F, F = strD (Nat.gcd (dv A) (dv B)) := ⟨_, rfl⟩
  rw [← hF] at QR ⊢
  unfold ans2 at QR ⊢
  clear hA hB hF
  generalize (if wrong2 A B = 0 then F else []) = X at *
  go_enter Tryd.func25, Tryd.ntmps25
  go_wp2_with (go_at_call 59; refine QR.out.mono ?_; rintro e w1 ⟨rfl, bel⟩)
  go_ret2
  exact ⟨rfl, bel⟩
/-- what is wrong with a quotient -/
def wrongQ (A B : Bytes) : Nat := if wrong2 A B = 0 then (if dv B = 0 then 5 else 0) else wrong2 A B
set_option maxHeartbeats 1000000 in
set_option maxRecDepth 100000 in
theorem natDiv_any (A B : Bytes) (w : World) (hA : A.length < 140737488355328) (hB : B.length < 140737488355328) :
    Calls Tryd.prog 27 #[.string ⟨A.toArray⟩, .string ⟨B.toArray⟩] w fun e w' => e = .returned (.tuple #[.string ⟨(if wrongQ A B = 0 then strD (dv A / dv B) else []).toArray⟩, .string ⟨(if wrongQ A B = 0 then strD (dv A % dv B) else []).toArray⟩, .int .i64 (wrongQ A B : Int)]) ∧ Below w.heap.size w w' := by
  by_cases hw : wrong2 A B = 0
  · obtain ⟨g1, g2⟩ := wrong2_good hw
    have b1 := good_dv g1
    have b2 := good_dv g2
    have QB := Lib.hid (both_good A B w hw)
    have hS : wrongQ A B = if dv B = 0 then 5 else 0 := if_pos hw
    rw [hS]
    clear hS
    generalize dv A = x at *
    generalize dv B = y at *
    have l1 : (dig x).length < 1099511627775 := Nat.lt_of_le_of_lt b1.limbs (by decide)
    have l2 : (dig y).length < 1099511627775 := Nat.lt_of_le_of_lt b2.limbs (by decide)
    have l3 : (dig (x / y)).length < 1099511627776 := Nat.lt_of_le_of_lt (b1.div y).limbs (by decide)
    have l4 : (dig (x % y)).length < 1099511627776 := Nat.lt_of_le_of_lt (b1.mod y).limbs (by decide)
    clear hw g1 g2 hA hB b1 b2
    by_cases hy : y = 0
    · rw [if_pos hy, if_neg (show ¬ 5 = 0 by decide), if_neg (show ¬ 5 = 0 by decide)]
      subst hy
      have QZ := Lib.hid (fun o c w => exZero_any o 0 c w)
      go_enter Tryd.func27, Tryd.ntmps27
      go_upto_block 0 with (go_at_call 52; refine QB.out.mono ?_; rintro e w1 ⟨oa, ca, ob, cb, rfl, hI1, hI2, hlt1, hlt2, bel1⟩)
      clear QB hI1 hI2 hlt1 hlt2
      rw [dig_zero]
      go_wp2_with (go_at_call 64; refine (QZ.out _ _ _).mono ?_; rintro e w2 ⟨rfl, rfl⟩)
      go_ret3
      exact ⟨rfl, bel1⟩
    · rw [if_neg hy, if_pos rfl, if_pos rfl]
      have hlz : (((dig y).length : Int) == 0) = false := by
        rw [beq_eq_false_iff_ne]
        intro h
        have h1 : (dig y).length = 0 := by omega
        have := lt_pow_length y
        rw [h1] at this
        omega
      have QZ := Lib.hid (fun o c w => exZero_any o (dig y).length c w)
      have QS1 := Lib.hid (fun oc cc w h => exString_any (x / y) oc cc w h l3)
      have QS2 := Lib.hid (fun oc cc w h => exString_any (x % y) oc cc w h l4)
      have HY := Lib.hid (show 0 < y by omega)
      rw [hlz] at QZ
      clear hy hlz
      go_enter Tryd.func27, Tryd.ntmps27
      go_upto_block 0 with (go_at_call 52; refine QB.out.mono ?_; rintro e w1 ⟨oa, ca, ob, cb, rfl, hI1, hI2, hlt1, hlt2, bel1⟩)
      have QD := Lib.hid (exDiv_any x y oa ob ca cb w1 HY.out hI1 hI2 l1 l2)
      clear QB hI1 hI2 hlt1 hlt2
      go_upto_region 7 with (first
        | (go_at_call 64; refine (QZ.out _ _ _).mono ?_; rintro e w2 ⟨rfl, rfl⟩)
        | (go_at_call 65; refine QD.out.mono ?_; rintro e w3 ⟨oq, cq, or, cr, rfl, hq, hr, bel3⟩))
      have HR := Lib.hid hr
      have HQ := Lib.hid hq
      clear hr hq QD QZ
      go_wp2_with (first
        | (go_at_call 56; (with_reducible refine (QS1.out oq cq w3 HQ.out).mono ?_); rintro e w4 ⟨rfl, bel4⟩)
        | (go_at_call 56; (with_reducible refine (QS2.out or cr w4 (HR.out.below bel4)).mono ?_); rintro e w5 ⟨rfl, bel5⟩))
      go_ret3
      exact ⟨rfl, bel1.trans ((bel3.trans ((bel4.trans (bel5.mono bel4.size)).mono bel3.size)).mono bel1.size)⟩
  · have QB := Lib.hid (both_bad A B w hA hB _ rfl hw)
    have hS : wrongQ A B = wrong2 A B := if_neg hw
    rw [hS, if_neg hw, if_neg hw]
    have hn0 : ((wrong2 A B : Int) == 0) = false := by rw [beq_eq_false_iff_ne]; omega
    clear hw hA hB hS
    generalize wrong2 A B = n at *
    go_enter Tryd.func27, Tryd.ntmps27
    go_wp2_with (go_at_call 52; refine QB.out.mono ?_; rintro e w1 ⟨x, y, rfl, bel1⟩)
    go_ret3
    exact ⟨rfl, bel1⟩
end Go.Proofs.YtkkpfoidppjbdaaDoor
namespace Go.Proofs.YtkkpfoidppjbdaaDoor
set_option linter.unusedVariables false
open Go.RowKit ML FM ND

set_option maxHeartbeats 2000000 in
set_option maxRecDepth 100000 in
theorem refIs_any (F : Bytes) (w : World) (hF : F.length < 140737488355328) :
    Calls Tryd.prog 51 #[.string ⟨F.toArray⟩] w fun e w' => e = .returned (.bool (numB F)) ∧ w' = w := by
  go_enter Tryd.func51, Tryd.ntmps51
  by_cases hne : F = []
  · subst hne
    have hb := Lib.hid (show numB [] = false from rfl)
    go_wp2_with fail
    go_ret
    rw [hb.out]
    exact ⟨rfl, rfl⟩
  have hpos : 0 < F.length := List.length_pos_iff.2 hne
  have hnz : ((F.length : Int) == 0) = false := by rw [beq_eq_false_iff_ne]; omega
  have HNE := Lib.hid hne
  clear hne
  go_upto_region 4 with (fail)
  go_loopw [3] (fun j wi => ∃ k : Nat, k ≤ F.length ∧ j = .int .i64 k ∧ (∀ i, i < k → 48 ≤ byteN F i ∧ byteN F i ≤ 57) ∧ wi = w) (fun j _ => F.length - (intOf j).toNat)
  case atStart => exact ⟨0, by omega, rfl, fun i hi => by omega, rfl⟩
  case round =>
  obtain ⟨k, hk, rfl, hpre, hw⟩ := hrel
  replace hw := hw.symm
  subst hw
  by_cases hlt : k < F.length
  · have hdj : decide ((k : Int) < (F.length : Int)) = true := by simp; omega
    have hj0 : (0 : Int) ≤ k := by omega
    have hjl2 : (k : Int) < ((F.length : Nat) : Int) := by omega
    have hs0 : ∀ h, (((ByteArray.mk F.toArray)[k]'h).toNat : Int) = (byteN F k : Int) := fun h => strBN F k h
    have hbad := Lib.hid (fun (h : ¬ (48 ≤ byteN F k ∧ byteN F k ≤ 57)) => (show numB F = false from numB_false F (fun h2 => h (digs_byteN h2.2.1 k hlt))))
    have hgood := Lib.hid (fun (h : 48 ≤ byteN F k ∧ byteN F k ≤ 57) (i : Nat) (hi : i < k + 1) => (show 48 ≤ byteN F i ∧ byteN F i ≤ 57 by
      by_cases he : i = k
      · rw [he]; exact h
      · exact hpre i (by omega)))
    clear hpre
    generalize byteN F k = c at *
    by_cases h1 : c < 48
    · have e1 : (c : Int) < 48 := by omega
      have hb := Lib.hid (hbad.out (by omega))
      clear hbad hgood
      go_wp2_with fail
      go_ret
      rw [hb.out]
      exact ⟨rfl, rfl⟩
    by_cases h2 : 57 < c
    · have e1 : ¬ (c : Int) < 48 := by omega
      have e2 : (57 : Int) < c := by omega
      have hb := Lib.hid (hbad.out (by omega))
      clear hbad hgood
      go_wp2_with fail
      go_ret
      rw [hb.out]
      exact ⟨rfl, rfl⟩
    have e1 : ¬ (c : Int) < 48 := by omega
    have e2 : ¬ (57 : Int) < c := by omega
    have hg := Lib.hid (hgood.out (by omega))
    clear hbad hgood
    go_wp2_with fail
    go_roundw
    case rel => exact ⟨k + 1, by omega, by go_num, hg.out, trivial⟩
    case measure => simp [intOf]; omega
  · have hdj : decide ((k : Int) < (F.length : Int)) = false := by simp; omega
    obtain rfl : k = F.length := by omega
    have hD := Lib.hid (digs_of_byteN hpre)
    have hs0 : ∀ h, (((ByteArray.mk F.toArray)[0]'h).toNat : Int) = (byteN F 0 : Int) := fun h => strBN F 0 h
    clear hpre
    by_cases hz : byteN F 0 = 48
    · rw [hz] at hs0
      by_cases hl1 : F.length = 1
      · have hb := Lib.hid ((numB_iff F).2 ⟨HNE.out, hD.out, .inr hl1⟩)
        have e1 : ((F.length : Int) == 1) = true := by rw [beq_iff_eq]; omega
        go_wp2_with fail
        go_ret
        rw [hb.out]
        exact ⟨rfl, rfl⟩
      · have hb := Lib.hid (numB_false F (fun h => h.2.2.elim (fun h1 => h1 ((getD_byteN F 0).2 hz)) hl1))
        have e1 : ((F.length : Int) == 1) = false := by rw [beq_eq_false_iff_ne]; omega
        go_wp2_with fail
        go_ret
        rw [hb.out]
        exact ⟨rfl, rfl⟩
    · have hb := Lib.hid ((numB_iff F).2 ⟨HNE.out, hD.out, .inl (fun h => hz ((getD_byteN F 0).1 h))⟩)
      have e1 : ((byteN F 0 : Int) == 48) = false := by rw [beq_eq_false_iff_ne]; omega
      have e2 : ¬ (byteN F 0 : Int) = 48 := by omega
      go_wp2_with fail
      go_ret
      rw [hb.out]
      exact ⟨rfl, rfl⟩
set_option maxHeartbeats 1000000 in
set_option maxRecDepth 100000 in
theorem refWrong_any (F : Bytes) (w : World) (hF : F.length < 140737488355328) :
    Calls Tryd.prog 57 #[.string ⟨F.toArray⟩] w fun e w' => e = .returned (.int .i64 (wrongN F : Int)) ∧ w' = w := by
  have QI := Lib.hid (refIs_any F w hF)
  by_cases h1 : numB F = true
  · by_cases h2 : 4000 < F.length
    · have hx := Lib.hid (show wrongN F = 3 by unfold wrongN; rw [if_pos h1, if_pos h2])
      have d1 : (4000 : Int) < (F.length : Int) := by omega
      rw [h1] at QI
      clear h1 h2
      go_enter Tryd.func57, Tryd.ntmps57
      go_wp2_with (go_at_call 51; refine QI.out.mono ?_; rintro e w1 ⟨rfl, rfl⟩)
      go_ret
      rw [hx.out]
      exact ⟨rfl, rfl⟩
    · have hx := Lib.hid (show wrongN F = 0 by unfold wrongN; rw [if_pos h1, if_neg h2])
      have d1 : ¬ (4000 : Int) < (F.length : Int) := by omega
      rw [h1] at QI
      clear h1 h2
      go_enter Tryd.func57, Tryd.ntmps57
      go_wp2_with (go_at_call 51; refine QI.out.mono ?_; rintro e w1 ⟨rfl, rfl⟩)
      go_ret
      rw [hx.out]
      exact ⟨rfl, rfl⟩
  · have hx := Lib.hid (show wrongN F = 2 by unfold wrongN; rw [if_neg h1])
    have h1' : numB F = false := by simpa using h1
    rw [h1'] at QI
    clear h1 h1'
    go_enter Tryd.func57, Tryd.ntmps57
    go_wp2_with (go_at_call 51; refine QI.out.mono ?_; rintro e w1 ⟨rfl, rfl⟩)
    go_ret
    rw [hx.out]
    exact ⟨rfl, rfl⟩
set_option maxHeartbeats 2000000 in
set_option maxRecDepth 100000 in
theorem refRead_any (F : Bytes) (w : World) (hF : F.length < 1099511627776) (hn : DigsB F) :
    Calls Tryd.prog 15 #[.string ⟨F.toArray⟩] w fun e w' => ∃ oc cc, e = .returned (.slice oc (dig (dv F)).length cc) ∧ IntsAt w' oc (dig (dv F)) ∧ Below w.heap.size w w' ∧ (∀ a, oc = some a → a.block < w'.heap.size) := by
  obtain ⟨i0, hi, hz0, hz1, hz2⟩ := info_parts info_int
  have HI := Lib.hid hi
  have HZ0 := Lib.hid hz0
  have HZ1 := Lib.hid hz1
  have HZ2 := Lib.hid hz2
  have HD := Lib.hid hn
  clear hi hz0 hz1 hz2 hn
  go_enter Tryd.func15, Tryd.ntmps15
  go_upto_region 3 with (fail)
  go_loopw [3, 4] (fun v i wr => ∃ (k : Nat) (z : Int), k ≤ F.length ∧ z = (F.length : Int) - 1 - (k : Int) ∧ i = .int .i64 z ∧ Below w.heap.size w wr ∧ wr.ownsRow w.heap.size 3 1 v k (nvals ((digsOf F).take k))) (fun _ i _ => (intOf i + 1).toNat)
  case atStart => exact ⟨0, (F.length : Int) - 1, by omega, by omega, by go_num, Below.refl _ _, World.ownsRow_nil _ _ _ _⟩
  case round =>
  obtain ⟨k, z, hk, hz, rfl, bel, own⟩ := hrel
  by_cases hlt : k < F.length
  · obtain ⟨j, hj⟩ : ∃ j : Nat, z = (j : Int) := ⟨F.length - 1 - k, by omega⟩
    subst hj
    have hjl : j < F.length := by omega
    have hj0 : (0 : Int) ≤ j := by omega
    have hjl2 : (j : Int) < (F.length : Int) := by omega
    obtain ⟨h48, h57⟩ := digs_byteN HD.out j hjl
    have hs0 : ∀ h, (((ByteArray.mk F.toArray)[j]'h).toNat : Int) = (byteN F j : Int) := fun h => strBN F j h
    have htk : (digsOf F).take (k + 1) = (digsOf F).take k ++ [byteN F j - 48] := by
      have hkd : k < (digsOf F).length := by rw [length_digsOf]; exact hlt
      rw [List.take_succ_eq_append_getElem hkd]
      congr 2
      have e : F.length - 1 - k = j := by omega
      simp only [digsOf, List.getElem_map, List.getElem_reverse, e]
      simp [byteN, List.getD_eq_getElem?_getD, hjl]
    have HTK := Lib.hid htk
    have HZ := Lib.hid hz
    clear htk hz
    generalize byteN F j = c at *
    obtain ⟨d, hd⟩ : ∃ d : Nat, (c : Int) - 48 = (d : Int) := ⟨c - 48, by omega⟩
    have hd2 : c - 48 = d := by omega
    rw [hd2] at HTK
    have hbs := bel.size
    clear hd2
    generalize hO : (digsOf F).take k = O at *
    have hOl : O.length = k := by rw [← hO, List.length_take, length_digsOf]; omega
    have HOL := Lib.hid hOl
    clear hO hOl
    go_upto_region 4 with (at_builtin; refine wpList_append_own _ rfl (.tmp 12) (.tmp 18) 31 rfl w.heap.size 3 i0 (.int .i64 0) 1 8 Tryd.underlying31 HI.out HZ0.out HZ1.out HZ2.out rfl (by decide) u3 k (nvals O) rfl (own.alloc _) ⟨wr.heap.size, 0, none⟩ 1 1 (nvals [d]) rfl rfl ?c1 ?c2 ?c3 ?c4 ?c5 ?_)
    case c1 => exact news_nvals wr [d] _ _ rfl
    case c2 => exact nvals_one _
    case c3 => unfold maxLen; omega
    case c4 => omega
    case c5 => first | omega | (simp; omega)
    intro v5 w5 own5 hg5 _
    have bel5 : Below w.heap.size w w5 := (bel.alloc hbs _).grown hg5 (by simp; omega) (fun q hq => (own.lt q hq).1)
    rw [nvals_append] at own5
    have OWN5 := Lib.hid own5
    clear own5 own hg5 bel hd hs0
    go_wp2_with fail
    go_roundw
    case rel => exact ⟨k + 1, (j : Int) - 1, by omega, by have := HZ.out; omega, by go_num, bel5, by rw [HTK.out]; exact OWN5.out⟩
    case measure => simp [intOf]
  · obtain rfl : k = F.length := by omega
    obtain rfl : z = -1 := by omega
    have htl : (digsOf F).take F.length = digsOf F := List.take_of_length_le (by rw [length_digsOf]; omega)
    rw [htl] at own
    have hown := own.lt
    obtain ⟨oc, cc, rfl, hcc, _, hI⟩ := intsAt_own (L := digsOf F) own
    have hll := length_digsOf F
    have QT := Lib.hid (refTrim_any oc (digsOf F) cc wr hI (by omega) hcc (all_digsOf HD.out))
    rw [dig_dv HD.out, hll] at QT
    have hlt2 : ∀ a, oc = some a → a.block < wr.heap.size := fun a h => by subst h; exact (hown a.block rfl).2
    clear own hI hown htl hz
    go_wp2_with (go_at_call 58; refine QT.out.mono ?_; rintro e w3 ⟨rfl, hI3, rfl⟩)
    go_ret
    exact ⟨oc, cc, rfl, hI3, bel, hlt2⟩
end Go.Proofs.YtkkpfoidppjbdaaDoor
namespace Go.Proofs.YtkkpfoidppjbdaaDoor
set_option linter.unusedVariables false
open Go.RowKit ML FM ND

set_option maxHeartbeats 1000000 in
set_option maxRecDepth 100000 in
theorem lawText_any (S W : Bytes) (e n : Nat) (w : World) (h : (n = 0 ∧ e = 0 ∧ S = W) ∨ (n ≠ 0 ∧ e = n ∧ S = [])) :
    Calls Tryd.prog 17 #[.string ⟨S.toArray⟩, .int .i64 (e : Int), .int .i64 (n : Int), .string ⟨W.toArray⟩] w fun r w' => r = .returned (.bool true) ∧ w' = w := by
  rcases h with ⟨rfl, rfl, rfl⟩ | ⟨hn, rfl, rfl⟩
  · go_enter Tryd.func17, Tryd.ntmps17
    go_wp2_with fail
    go_ret
    exact ⟨rfl, rfl⟩
  · have h0 : ((e : Int) == 0) = false := by rw [beq_eq_false_iff_ne]; omega
    go_enter Tryd.func17, Tryd.ntmps17
    go_wp2_with fail
    go_ret
    exact ⟨rfl, rfl⟩
set_option maxHeartbeats 1000000 in
set_option maxRecDepth 100000 in
theorem lawWrong_any (A B : Bytes) (w : World) (hA : A.length < 140737488355328) (hB : B.length < 140737488355328) :
    Calls Tryd.prog 14 #[.string ⟨A.toArray⟩, .string ⟨B.toArray⟩] w fun r w' => r = .returned (.int .i64 (wrong2 A B : Int)) ∧ w' = w := by
  have QA := Lib.hid (fun w => refWrong_any A w hA)
  have QB := Lib.hid (fun w => refWrong_any B w hB)
  by_cases h1 : wrongN A = 0
  · have hx := Lib.hid (show wrong2 A B = wrongN B from if_pos h1)
    rw [h1] at QA
    clear h1
    go_enter Tryd.func14, Tryd.ntmps14
    go_upto_region 4 with (go_at_call 57; refine (QA.out _).mono ?_; rintro e w1 ⟨rfl, rfl⟩)
    go_wp2_with (go_at_call 57; refine (QB.out _).mono ?_; rintro e w1 ⟨rfl, rfl⟩)
    go_ret
    rw [hx.out]
    exact ⟨rfl, rfl⟩
  · have hx := Lib.hid (show wrong2 A B = wrongN A from if_neg h1)
    have h0 : ((wrongN A : Int) == 0) = false := by rw [beq_eq_false_iff_ne]; omega
    clear h1
    generalize wrongN A = n at *
    go_enter Tryd.func14, Tryd.ntmps14
    go_wp2_with (go_at_call 57; refine (QA.out _).mono ?_; rintro e w1 ⟨rfl, rfl⟩)
    go_ret
    rw [hx.out]
    exact ⟨rfl, rfl⟩
end Go.Proofs.YtkkpfoidppjbdaaDoor
