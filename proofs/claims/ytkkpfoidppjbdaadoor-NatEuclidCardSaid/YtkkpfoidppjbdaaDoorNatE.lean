/-
  nat.Add, Mul, Compare, Sub.
-/
import Derived.Test.YtkkpfoidppjbdaaDoorNatD
namespace Go.Proofs.YtkkpfoidppjbdaaDoor
set_option linter.unusedVariables false
open Go.RowKit ML FM NL

set_option maxHeartbeats 1000000 in
set_option maxRecDepth 100000 in
theorem natAdd_any (A B : Bytes) (w : World) (hA : A.length < 140737488355328) (hB : B.length < 140737488355328) :
    Calls Tryd.prog 16 #[.string ⟨A.toArray⟩, .string ⟨B.toArray⟩] w fun e w' => e = .returned (ans2 A B (strD (dv A + dv B))) ∧ Below w.heap.size w w' := by
  have QR := Lib.hid (reckonAdd_any A B w hA hB)
  obtain ⟨F, hF⟩ : ∃ F, F = strD (dv A + dv B) := ⟨_, rfl⟩
  rw [← hF] at QR ⊢
  unfold ans2 at QR ⊢
  clear hA hB hF
  generalize (if wrong2 A B = 0 then F else []) = X at *
  go_enter Tryd.func16, Tryd.ntmps16
  go_wp2_with (go_at_call 59; refine QR.out.mono ?_; rintro e w1 ⟨rfl, bel⟩)
  go_ret2
  exact ⟨rfl, bel⟩
set_option maxHeartbeats 1000000 in
set_option maxRecDepth 100000 in
theorem natMul_any (A B : Bytes) (w : World) (hA : A.length < 140737488355328) (hB : B.length < 140737488355328) :
    Calls Tryd.prog 20 #[.string ⟨A.toArray⟩, .string ⟨B.toArray⟩] w fun e w' => e = .returned (ans2 A B (strD (dv A * dv B))) ∧ Below w.heap.size w w' := by
  have QR := Lib.hid (reckonMul_any A B w hA hB)
  obtain ⟨F, hF⟩ : ∃ F, F = strD (dv A * dv B) := ⟨_, rfl⟩
  rw [← hF] at QR ⊢
  unfold ans2 at QR ⊢
  clear hA hB hF
  generalize (if wrong2 A B = 0 then F else []) = X at *
  go_enter Tryd.func20, Tryd.ntmps20
  go_wp2_with (go_at_call 59; refine QR.out.mono ?_; rintro e w1 ⟨rfl, bel⟩)
  go_ret2
  exact ⟨rfl, bel⟩
set_option maxHeartbeats 1000000 in
set_option maxRecDepth 100000 in
theorem natCompare_any (A B : Bytes) (w : World) (hA : A.length < 140737488355328) (hB : B.length < 140737488355328) :
    Calls Tryd.prog 22 #[.string ⟨A.toArray⟩, .string ⟨B.toArray⟩] w fun e w' => e = .returned (.tuple #[.int .i64 (if wrong2 A B = 0 then cmpI (dv A) (dv B) else 0), .int .i64 (wrong2 A B : Int)]) ∧ Below w.heap.size w w' := by
  by_cases hw : wrong2 A B = 0
  · obtain ⟨g1, g2⟩ := wrong2_good hw
    have b1 := good_dv g1
    have b2 := good_dv g2
    have QB := Lib.hid (both_good A B w hw)
    rw [if_pos hw, hw]
    generalize dv A = x at *
    generalize dv B = y at *
    have l1 : (dig x).length < 1099511627776 := Nat.lt_of_le_of_lt b1.limbs (by decide)
    have l2 : (dig y).length < 1099511627776 := Nat.lt_of_le_of_lt b2.limbs (by decide)
    clear hw g1 g2 hA hB b1 b2
    go_enter Tryd.func22, Tryd.ntmps22
    go_upto_region 4 with (go_at_call 52; refine QB.out.mono ?_; rintro e w1 ⟨oa, ca, ob, cb, rfl, hI1, hI2, hlt1, hlt2, bel1⟩)
    clear QB
    have QC := Lib.hid (exCmp_any x y oa ob ca cb w1 hI1 hI2 l1 l2)
    clear hI1 hI2 hlt1 hlt2
    go_wp2_with (go_at_call 54; refine QC.out.mono ?_; rintro e w2 ⟨rfl, bel2⟩)
    go_ret2
    exact ⟨rfl, bel1.trans (bel2.mono bel1.size)⟩
  · have QB := Lib.hid (both_bad A B w hA hB _ rfl hw)
    rw [if_neg hw]
    have hn0 : ((wrong2 A B : Int) == 0) = false := by rw [beq_eq_false_iff_ne]; omega
    clear hw hA hB
    generalize wrong2 A B = n at *
    go_enter Tryd.func22, Tryd.ntmps22
    go_wp2_with (go_at_call 52; refine QB.out.mono ?_; rintro e w1 ⟨x, y, rfl, bel1⟩)
    go_ret2
    exact ⟨rfl, bel1⟩
/-- what is wrong with a difference -/
def wrongS (A B : Bytes) : Nat := if wrong2 A B = 0 then (if dv A < dv B then 4 else 0) else wrong2 A B
set_option maxHeartbeats 1000000 in
set_option maxRecDepth 100000 in
theorem natSub_any (A B : Bytes) (w : World) (hA : A.length < 140737488355328) (hB : B.length < 140737488355328) :
    Calls Tryd.prog 13 #[.string ⟨A.toArray⟩, .string ⟨B.toArray⟩] w fun e w' => e = .returned (.tuple #[.string ⟨(if wrongS A B = 0 then strD (dv A - dv B) else []).toArray⟩, .int .i64 (wrongS A B : Int)]) ∧ Below w.heap.size w w' := by
  by_cases hw : wrong2 A B = 0
  · obtain ⟨g1, g2⟩ := wrong2_good hw
    have b1 := good_dv g1
    have b2 := good_dv g2
    have QB := Lib.hid (both_good A B w hw)
    have hS : wrongS A B = if dv A < dv B then 4 else 0 := if_pos hw
    rw [hS]
    clear hS
    generalize dv A = x at *
    generalize dv B = y at *
    have l1 : (dig x).length < 1099511627776 := Nat.lt_of_le_of_lt b1.limbs (by decide)
    have l2 : (dig y).length < 1099511627776 := Nat.lt_of_le_of_lt b2.limbs (by decide)
    have l3 : (dig (x - y)).length < 1099511627776 := Nat.lt_of_le_of_lt (b1.mono (Nat.sub_le x y)).limbs (by decide)
    clear hw g1 g2 hA hB b1 b2
    by_cases hxy : x < y
    · have hc := Lib.hid (cmpI_lt hxy)
      rw [show (if x < y then 4 else 0) = 4 from if_pos hxy, if_neg (show ¬ 4 = 0 by decide)]
      clear hxy
      go_enter Tryd.func13, Tryd.ntmps13
      go_upto_region 4 with (go_at_call 52; refine QB.out.mono ?_; rintro e w1 ⟨oa, ca, ob, cb, rfl, hI1, hI2, hlt1, hlt2, bel1⟩)
      clear QB
      have QC := Lib.hid (exCmp_any x y oa ob ca cb w1 hI1 hI2 l1 l2)
      rw [hc.out] at QC
      clear hI1 hI2 hlt1 hlt2
      go_wp2_with (go_at_call 54; refine QC.out.mono ?_; rintro e w2 ⟨rfl, bel2⟩)
      go_ret2
      exact ⟨rfl, bel1.trans (bel2.mono bel1.size)⟩
    · have hX := Lib.hid (show (if x < y then 4 else 0) = 0 from if_neg hxy)
      have hcn : ¬ cmpI x y < 0 := by
        unfold cmpI
        rw [if_neg hxy]
        split <;> omega
      have HXY := Lib.hid (show y ≤ x by omega)
      clear hxy
      go_enter Tryd.func13, Tryd.ntmps13
      go_upto_region 4 with (go_at_call 52; refine QB.out.mono ?_; rintro e w1 ⟨oa, ca, ob, cb, rfl, hI1, hI2, hlt1, hlt2, bel1⟩)
      clear QB
      have QC := Lib.hid (exCmp_any x y oa ob ca cb w1 hI1 hI2 l1 l2)
      have QD := Lib.hid (fun w2 (b : Below w1.heap.size w1 w2) => exSub_any x y oa ob ca cb w2 HXY.out (hI1.below b) (hI2.below b) (fun a h => Nat.lt_of_lt_of_le (hlt2 a h) b.size) l1 l2)
      have QS := Lib.hid (fun oc cc w h => exString_any (x - y) oc cc w h l3)
      clear hI1 hI2 hlt1 hlt2
      generalize cmpI x y = c at *
      go_wp2_with (first
        | (go_at_call 54; refine QC.out.mono ?_; rintro e w2 ⟨rfl, bel2⟩)
        | (go_at_call 55; refine (QD.out w2 bel2).mono ?_; rintro e w3 ⟨oc, cc, rfl, hI3, bel3⟩)
        | (go_at_call 56; refine (QS.out oc cc w3 hI3).mono ?_; rintro e w4 ⟨rfl, bel4⟩))
      go_ret2
      exact ⟨rfl, bel1.trans ((bel2.trans ((bel3.trans (bel4.mono bel3.size)).mono bel2.size)).mono bel1.size)⟩
  · have QB := Lib.hid (both_bad A B w hA hB _ rfl hw)
    have hS : wrongS A B = wrong2 A B := if_neg hw
    rw [hS, if_neg hw]
    have hn0 : ((wrong2 A B : Int) == 0) = false := by rw [beq_eq_false_iff_ne]; omega
    clear hw hA hB hS
    generalize wrong2 A B = n at *
    go_enter Tryd.func13, Tryd.ntmps13
    go_wp2_with (go_at_call 52; refine QB.out.mono ?_; rintro e w1 ⟨x, y, rfl, bel1⟩)
    go_ret2
    exact ⟨rfl, bel1⟩
end Go.Proofs.YtkkpfoidppjbdaaDoor
