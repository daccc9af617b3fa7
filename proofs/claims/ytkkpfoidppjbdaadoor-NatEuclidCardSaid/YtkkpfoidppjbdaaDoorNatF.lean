/-
  nat.Gcd, nat.Div.
-/
import Derived.Test.YtkkpfoidppjbdaaDoorNatE
import Derived.Test.YtkkpfoidppjbdaaDoorLGcd
namespace Go.Proofs.YtkkpfoidppjbdaaDoor
set_option linter.unusedVariables false
open Go.RowKit ML FM NL

set_option maxHeartbeats 1000000 in
set_option maxRecDepth 100000 in
theorem reckonGcd_any (A B : Bytes) (w : World) (hA : A.length < 140737488355328) (hB : B.length < 140737488355328) :
    Calls Tryd.prog 59 #[.string ⟨A.toArray⟩, .string ⟨B.toArray⟩, .func (.func 63) #[] #[]] w fun e w' => e = .returned (ans2 A B (strD (Nat.gcd (dv A) (dv B)))) ∧ Below w.heap.size w w' := by
  by_cases hw : wrong2 A B = 0
  · obtain ⟨g1, g2⟩ := wrong2_good hw
    have b1 := good_dv g1
    have b2 := good_dv g2
    have QB := Lib.hid (both_good A B w hw)
    have hans := Lib.hid (show ans2 A B (strD (Nat.gcd (dv A) (dv B))) = .tuple #[.string ⟨(strD (Nat.gcd (dv A) (dv B))).toArray⟩, .int .i64 0] by unfold ans2; rw [if_pos hw, hw]; rfl)
    generalize dv A = x at *
    generalize dv B = y at *
    have l1 : (dig x).length < 1099511627775 := Nat.lt_of_le_of_lt b1.limbs (by decide)
    have l2 : (dig y).length < 1099511627775 := Nat.lt_of_le_of_lt b2.limbs (by decide)
    have l3 : (dig (Nat.gcd x y)).length < 1099511627776 := by
      by_cases hx : 0 < x
      · exact Nat.lt_of_le_of_lt (b1.mono (Nat.le_of_dvd hx (Nat.gcd_dvd_left x y))).limbs (by decide)
      · have : x = 0 := by omega
        subst this
        rw [Nat.gcd_zero_left]
        omega
    clear hw g1 g2 hA hB b1 b2
    go_enter Tryd.func59, Tryd.ntmps59
    go_upto_region 4 with (go_at_call 52; refine QB.out.mono ?_; rintro e w1 ⟨oa, ca, ob, cb, rfl, hI1, hI2, hlt1, hlt2, bel1⟩)
    clear QB
    have QC := Lib.hid (exGcd_any x y oa ob ca cb w1 hI1 hI2 l1 l2)
    have QS := Lib.hid (fun oc cc w h => exString_any (Nat.gcd x y) oc cc w h l3)
    clear hI1 hI2 hlt1 hlt2
    go_wp2_with (first
      | (go_at_call 63; refine QC.out.mono ?_; rintro e w2 ⟨oc, cc, rfl, hI3, bel2⟩)
      | (go_at_call 56; refine (QS.out oc cc w2 hI3).mono ?_; rintro e w3 ⟨rfl, bel3⟩))
    go_ret2
    rw [hans.out]
    exact ⟨rfl, bel1.trans ((bel2.trans (bel3.mono bel2.size)).mono bel1.size)⟩
  · have QB := Lib.hid (both_bad A B w hA hB _ rfl hw)
    have hans := Lib.hid (show ∀ F, ans2 A B F = .tuple #[.string ⟨#[]⟩, .int .i64 (wrong2 A B : Int)] from fun F => by unfold ans2; rw [if_neg hw])
    have hn0 : ((wrong2 A B : Int) == 0) = false := by rw [beq_eq_false_iff_ne]; omega
    clear hw hA hB
    generalize wrong2 A B = n at *
    go_enter Tryd.func59, Tryd.ntmps59
    go_wp2_with (go_at_call 52; refine QB.out.mono ?_; rintro e w1 ⟨x, y, rfl, bel1⟩)
    go_ret2
    rw [hans.out]
    exact ⟨rfl, bel1⟩
set_option maxHeartbeats 1000000 in
set_option maxRecDepth 100000 in
theorem natGcd_any (A B : Bytes) (w : World) (hA : A.length < 140737488355328) (hB : B.length < 140737488355328) :
    Calls Tryd.prog 25 #[.string ⟨A.toArray⟩, .string ⟨B.toArray⟩] w fun e w' => e = .returned (ans2 A B (strD (Nat.gcd (dv A) (dv B)))) ∧ Below w.heap.size w w' := by
  have QR := Lib.hid (reckonGcd_any A B w hA hB)
  obtain ⟨F, hF⟩ : ∃ F, F = strD (Nat.gcd (dv A) (dv B)) := ⟨_, rfl⟩
  rw [← hF] at QR ⊢
  unfold ans2 at QR ⊢
  clear hA hB hF
  generalize (if wrong2 A B = 0 then F else []) = X at *
  go_enter Tryd.func25, Tryd.ntmps25
  go_wp2_with (go_at_call 59; refine QR.out.mono ?_; rintro e w1 ⟨rfl, bel⟩)
  go_ret2
  exact ⟨rfl, bel⟩
/-- what is wrong with a quotient -/
def wrongQ (A B : Bytes) : Nat := if wrong2 A B = 0 then (if dv B = 0 then 5 else 0) else wrong2 A B
set_option maxHeartbeats 1000000 in
set_option maxRecDepth 100000 in
theorem natDiv_any (A B : Bytes) (w : World) (hA : A.length < 140737488355328) (hB : B.length < 140737488355328) :
    Calls Tryd.prog 27 #[.string ⟨A.toArray⟩, .string ⟨B.toArray⟩] w fun e w' => e = .returned (.tuple #[.string ⟨(if wrongQ A B = 0 then strD (dv A / dv B) else []).toArray⟩, .string ⟨(if wrongQ A B = 0 then strD (dv A % dv B) else []).toArray⟩, .int .i64 (wrongQ A B : Int)]) ∧ Below w.heap.size w w' := by
  by_cases hw : wrong2 A B = 0
  · obtain ⟨g1, g2⟩ := wrong2_good hw
    have b1 := good_dv g1
    have b2 := good_dv g2
    have QB := Lib.hid (both_good A B w hw)
    have hS : wrongQ A B = if dv B = 0 then 5 else 0 := if_pos hw
    rw [hS]
    clear hS
    generalize dv A = x at *
    generalize dv B = y at *
    have l1 : (dig x).length < 1099511627775 := Nat.lt_of_le_of_lt b1.limbs (by decide)
    have l2 : (dig y).length < 1099511627775 := Nat.lt_of_le_of_lt b2.limbs (by decide)
    have l3 : (dig (x / y)).length < 1099511627776 := Nat.lt_of_le_of_lt (b1.div y).limbs (by decide)
    have l4 : (dig (x % y)).length < 1099511627776 := Nat.lt_of_le_of_lt (b1.mod y).limbs (by decide)
    clear hw g1 g2 hA hB b1 b2
    by_cases hy : y = 0
    · rw [if_pos hy, if_neg (show ¬ 5 = 0 by decide), if_neg (show ¬ 5 = 0 by decide)]
      subst hy
      have QZ := Lib.hid (fun o c w => exZero_any o 0 c w)
      go_enter Tryd.func27, Tryd.ntmps27
      go_upto_block 0 with (go_at_call 52; refine QB.out.mono ?_; rintro e w1 ⟨oa, ca, ob, cb, rfl, hI1, hI2, hlt1, hlt2, bel1⟩)
      clear QB hI1 hI2 hlt1 hlt2
      rw [dig_zero]
      go_wp2_with (go_at_call 64; refine (QZ.out _ _ _).mono ?_; rintro e w2 ⟨rfl, rfl⟩)
      go_ret3
      exact ⟨rfl, bel1⟩
    · rw [if_neg hy, if_pos rfl, if_pos rfl]
      have hlz : (((dig y).length : Int) == 0) = false := by
        rw [beq_eq_false_iff_ne]
        intro h
        have h1 : (dig y).length = 0 := by omega
        have := lt_pow_length y
        rw [h1] at this
        omega
      have QZ := Lib.hid (fun o c w => exZero_any o (dig y).length c w)
      have QS1 := Lib.hid (fun oc cc w h => exString_any (x / y) oc cc w h l3)
      have QS2 := Lib.hid (fun oc cc w h => exString_any (x % y) oc cc w h l4)
      have HY := Lib.hid (show 0 < y by omega)
      rw [hlz] at QZ
      clear hy hlz
      go_enter Tryd.func27, Tryd.ntmps27
      go_upto_block 0 with (go_at_call 52; refine QB.out.mono ?_; rintro e w1 ⟨oa, ca, ob, cb, rfl, hI1, hI2, hlt1, hlt2, bel1⟩)
      have QD := Lib.hid (exDiv_any x y oa ob ca cb w1 HY.out hI1 hI2 l1 l2)
      clear QB hI1 hI2 hlt1 hlt2
      go_upto_region 7 with (first
        | (go_at_call 64; refine (QZ.out _ _ _).mono ?_; rintro e w2 ⟨rfl, rfl⟩)
        | (go_at_call 65; refine QD.out.mono ?_; rintro e w3 ⟨oq, cq, or, cr, rfl, hq, hr, bel3⟩))
      have HR := Lib.hid hr
      have HQ := Lib.hid hq
      clear hr hq QD QZ
      go_wp2_with (first
        | (go_at_call 56; (with_reducible refine (QS1.out oq cq w3 HQ.out).mono ?_); rintro e w4 ⟨rfl, bel4⟩)
        | (go_at_call 56; (with_reducible refine (QS2.out or cr w4 (HR.out.below bel4)).mono ?_); rintro e w5 ⟨rfl, bel5⟩))
      go_ret3
      exact ⟨rfl, bel1.trans ((bel3.trans ((bel4.trans (bel5.mono bel4.size)).mono bel3.size)).mono bel1.size)⟩
  · have QB := Lib.hid (both_bad A B w hA hB _ rfl hw)
    have hS : wrongQ A B = wrong2 A B := if_neg hw
    rw [hS, if_neg hw, if_neg hw]
    have hn0 : ((wrong2 A B : Int) == 0) = false := by rw [beq_eq_false_iff_ne]; omega
    clear hw hA hB hS
    generalize wrong2 A B = n at *
    go_enter Tryd.func27, Tryd.ntmps27
    go_wp2_with (go_at_call 52; refine QB.out.mono ?_; rintro e w1 ⟨x, y, rfl, bel1⟩)
    go_ret3
    exact ⟨rfl, bel1⟩
end Go.Proofs.YtkkpfoidppjbdaaDoor
