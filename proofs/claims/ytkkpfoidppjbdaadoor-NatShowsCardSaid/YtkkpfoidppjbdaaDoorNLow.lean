/-
  nat.Lowest.
-/
import Derived.Test.YtkkpfoidppjbdaaDoorFracD
import Derived.Test.YtkkpfoidppjbdaaDoorBNat
namespace Go.Proofs.YtkkpfoidppjbdaaDoor
set_option linter.unusedVariables false
open Go.RowKit ML FM NL

set_option maxHeartbeats 8000000 in
set_option maxRecDepth 100000 in
theorem natLowest_any (A B : Bytes) (w : World) (hA : A.length < 140737488355328) (hB : B.length < 140737488355328) :
    Calls Tryd.prog 46 #[.string ⟨A.toArray⟩, .string ⟨B.toArray⟩] w fun e w' => e = .returned (ansF (wrongQ A B) (strD (dv A / Nat.gcd (dv A) (dv B))) (strD (dv B / Nat.gcd (dv A) (dv B)))) ∧ Below w.heap.size w w' := by
  have HS := Lib.hid size_api
  by_cases hw : wrong2 A B = 0
  · obtain ⟨g1, g2⟩ := wrong2_good hw
    have b1 := good_dv g1
    have b2 := good_dv g2
    have QB := Lib.hid (fun w => both_good A B w hw)
    have hS : wrongQ A B = if dv B = 0 then 5 else 0 := if_pos hw
    rw [hS]
    clear hS
    generalize dv A = x at *
    generalize dv B = y at *
    have l1 : (dig x).length < 1099511627775 := Nat.lt_of_le_of_lt b1.limbs (by decide)
    have l2 : (dig y).length < 1099511627775 := Nat.lt_of_le_of_lt b2.limbs (by decide)
    have l3 : (dig (x / Nat.gcd x y)).length < 1099511627776 := Nat.lt_of_le_of_lt (b1.mono (Nat.div_le_self _ _)).limbs (by decide)
    have l4 : (dig (y / Nat.gcd x y)).length < 1099511627776 := Nat.lt_of_le_of_lt (b2.mono (Nat.div_le_self _ _)).limbs (by decide)
    clear hw g1 g2 hA hB b1 b2
    unfold ansF
    by_cases hy : y = 0
    · rw [if_pos hy, if_neg (show ¬ 5 = 0 by decide), if_neg (show ¬ 5 = 0 by decide)]
      subst hy
      have QZ := Lib.hid (fun o c w => exZero_any o 0 c w)
      clear l1 l2 l3 l4
      go_enter Tryd.func46, Tryd.ntmps46
      go_upto_region 1 with (fail)
      generalize hE : w.heap.size = E at *
      have HE := Lib.hid hE
      refine wp_abs (fun w1 => Below E w w1 ∧ w1.heap[E]? = some (.cells #[.string ⟨#[]⟩, .string ⟨#[]⟩] 45 (0, 0))) ⟨by rw [← hE]; exact (Below.refl _ _).alloc (Nat.le_refl _) _, by rw [← hE]; exact heap_at rfl⟩ (fun w1 hw1 => ?_)
      have HW1 := Lib.hid hw1
      clear hw1 hE
      go_upto_block 0 with (go_at_call 52; refine (QB.out w1).mono ?_; rintro e w2 ⟨oa, ca, ob, cb, rfl, hI1, hI2, hlt1, hlt2, bel1⟩)
      have B2 := Lib.hid (HW1.out.1.trans (bel1.mono (HE.out ▸ HW1.out.1.size)))
      have HC2 := Lib.hid (bel_keep bel1 (lt_of_heap HW1.out.2) HW1.out.2)
      clear bel1 HW1 QB
      clear hI1 hI2 hlt1 hlt2
      rw [dig_zero]
      go_wp2_with (first
        | (go_at_call 64; refine (QZ.out _ _ _).mono ?_; rintro e w3 ⟨rfl, rfl⟩)
        | (refine wpList_store_whole rfl rfl 45 _ _ rfl E #[.string ⟨#[]⟩, .string ⟨#[]⟩] #[.string ⟨#[]⟩, .string ⟨#[]⟩] 45 rfl rfl HC2.out rfl HS.out (two_strings _ _) ?_; intro w9 ho hp))
      refine bodyPost_ret (results_cell_tmp rfl _ w9 E _ _ _ _ _ rfl rfl hp Tryd.underlying45 rfl HS.out) rfl ⟨rfl, by rw [HE.out]; exact bel_only B2.out ho (Nat.le_refl _)⟩
    · rw [if_neg hy, if_pos rfl, if_pos rfl]
      have hlz : (((dig y).length : Int) == 0) = false := by
        rw [beq_eq_false_iff_ne]
        intro h
        have h1 : (dig y).length = 0 := by omega
        have := lt_pow_length y
        rw [h1] at this
        omega
      have QZ := Lib.hid (fun o c w => exZero_any o (dig y).length c w)
      have HY := Lib.hid (show 0 < y by omega)
      rw [hlz] at QZ
      clear hy hlz
      have QT := Lib.hid (fun on od cn cd w h => natTold_any (x / Nat.gcd x y) (y / Nat.gcd x y) on od cn cd w h l3 l4)
      generalize hn : x / Nat.gcd x y = n at *
      generalize hd : y / Nat.gcd x y = d at *
      have HN := Lib.hid hn
      have HD := Lib.hid hd
      clear hn hd
      go_enter Tryd.func46, Tryd.ntmps46
      go_upto_region 1 with (fail)
      generalize hE : w.heap.size = E at *
      have HE := Lib.hid hE
      refine wp_abs (fun w1 => Below E w w1 ∧ w1.heap[E]? = some (.cells #[.string ⟨#[]⟩, .string ⟨#[]⟩] 45 (0, 0))) ⟨by rw [← hE]; exact (Below.refl _ _).alloc (Nat.le_refl _) _, by rw [← hE]; exact heap_at rfl⟩ (fun w1 hw1 => ?_)
      have HW1 := Lib.hid hw1
      clear hw1 hE
      go_upto_block 0 with (go_at_call 52; refine (QB.out w1).mono ?_; rintro e w2 ⟨oa, ca, ob, cb, rfl, hI1, hI2, hlt1, hlt2, bel1⟩)
      have B2 := Lib.hid (HW1.out.1.trans (bel1.mono (HE.out ▸ HW1.out.1.size)))
      have HC2 := Lib.hid (bel_keep bel1 (lt_of_heap HW1.out.2) HW1.out.2)
      clear bel1 HW1 QB
      have QL := Lib.hid (exLowest_any x y oa ob ca cb w2 HY.out hI1 hI2 l1 l2)
      rw [HN.out, HD.out] at QL
      clear hI1 hI2 hlt1 hlt2 l1 l2 l3 l4
      go_upto_region 6 with (go_at_call 64; refine (QZ.out _ _ _).mono ?_; rintro e w3 ⟨rfl, rfl⟩)
      go_wp2_with (first
        | (go_at_call 78; refine QL.out.mono ?_; rintro e w4 ⟨on, od, cn, cd, rfl, hL, bel4⟩; have HL := Lib.hid hL; have HC4 := Lib.hid (bel_keep bel4 (lt_of_heap HC2.out) HC2.out); have B4 := Lib.hid (B2.out.trans (bel4.mono (HE.out ▸ B2.out.size))); clear hL bel4)
        | (go_at_call 77; refine (QT.out on od cn cd w4 HL.out).mono ?_; rintro e w5 ⟨rfl, bel5⟩; have HC5 := Lib.hid (bel_keep bel5 (lt_of_heap HC4.out) HC4.out); have B5 := Lib.hid (B4.out.trans (bel5.mono (HE.out ▸ B4.out.size))); clear bel5)
        | (refine wpList_store_whole rfl rfl 45 _ _ rfl E #[.string ⟨#[]⟩, .string ⟨#[]⟩] #[.string ⟨(strD n).toArray⟩, .string ⟨(strD d).toArray⟩] 45 rfl rfl HC5.out rfl HS.out (two_strings _ _) ?_; intro w9 ho hp))
      refine bodyPost_ret (results_cell_tmp rfl _ w9 E _ _ _ _ _ rfl rfl hp Tryd.underlying45 rfl HS.out) rfl ⟨rfl, by rw [HE.out]; exact bel_only B5.out ho (Nat.le_refl _)⟩
  · have QB := Lib.hid (fun w => both_bad A B w hA hB _ rfl hw)
    have hS : wrongQ A B = wrong2 A B := if_neg hw
    unfold ansF
    rw [hS, if_neg hw, if_neg hw]
    have hn0 : ((wrong2 A B : Int) == 0) = false := by rw [beq_eq_false_iff_ne]; omega
    clear hw hA hB hS
    generalize wrong2 A B = n at *
    go_enter Tryd.func46, Tryd.ntmps46
    go_upto_region 1 with (fail)
    generalize hE : w.heap.size = E at *
    have HE := Lib.hid hE
    refine wp_abs (fun w1 => Below E w w1 ∧ w1.heap[E]? = some (.cells #[.string ⟨#[]⟩, .string ⟨#[]⟩] 45 (0, 0))) ⟨by rw [← hE]; exact (Below.refl _ _).alloc (Nat.le_refl _) _, by rw [← hE]; exact heap_at rfl⟩ (fun w1 hw1 => ?_)
    have HW1 := Lib.hid hw1
    clear hw1 hE
    go_upto_block 0 with (go_at_call 52; refine (QB.out w1).mono ?_; rintro e w2 ⟨x, y, rfl, bel1⟩)
    have B2 := Lib.hid (HW1.out.1.trans (bel1.mono (HE.out ▸ HW1.out.1.size)))
    have HC2 := Lib.hid (bel_keep bel1 (lt_of_heap HW1.out.2) HW1.out.2)
    clear bel1 HW1 QB
    go_wp2_with (refine wpList_store_whole rfl rfl 45 _ _ rfl E #[.string ⟨#[]⟩, .string ⟨#[]⟩] #[.string ⟨#[]⟩, .string ⟨#[]⟩] 45 rfl rfl HC2.out rfl HS.out (two_strings _ _) ?_; intro w9 ho hp)
    refine bodyPost_ret (results_cell_tmp rfl _ w9 E _ _ _ _ _ rfl rfl hp Tryd.underlying45 rfl HS.out) rfl ⟨rfl, by rw [HE.out]; exact bel_only B2.out ho (Nat.le_refl _)⟩
end Go.Proofs.YtkkpfoidppjbdaaDoor
