/-
  nat.Plus, Times, Minus, Over, Order. Printed by tools/genfrac2.py.
-/
import Derived.Test.YtkkpfoidppjbdaaDoorFracC
namespace Go.Proofs.YtkkpfoidppjbdaaDoor
set_option linter.unusedVariables false
open Go.RowKit ML FM NL

set_option maxHeartbeats 8000000 in
set_option maxRecDepth 100000 in
theorem natFPlus_any (N D P Q : Bytes) (w : World) (hN : N.length < 140737488355328) (hD : D.length < 140737488355328) (hP : P.length < 140737488355328) (hQ : Q.length < 140737488355328) :
    Calls Tryd.prog 32 #[.agg #[.string ⟨N.toArray⟩, .string ⟨D.toArray⟩], .agg #[.string ⟨P.toArray⟩, .string ⟨Q.toArray⟩]] w fun e w' => e = .returned (ansF (wrongF2 N D P Q) (strD ((dv N * dv Q + dv P * dv D) / Nat.gcd (dv N * dv Q + dv P * dv D) (dv D * dv Q))) (strD ((dv D * dv Q) / Nat.gcd (dv N * dv Q + dv P * dv D) (dv D * dv Q)))) ∧ Below w.heap.size w w' := by
  have QR := Lib.hid (fun w => fracPlus_any N D P Q w hN hD hP hQ)
  have HS := Lib.hid size_api
  clear hN hD hP hQ
  unfold ansF at QR ⊢
  generalize (if wrongF2 N D P Q = 0 then strD ((dv N * dv Q + dv P * dv D) / Nat.gcd (dv N * dv Q + dv P * dv D) (dv D * dv Q)) else []) = SN at *
  generalize (if wrongF2 N D P Q = 0 then strD ((dv D * dv Q) / Nat.gcd (dv N * dv Q + dv P * dv D) (dv D * dv Q)) else []) = SD at *
  generalize wrongF2 N D P Q = n at *
  go_enter Tryd.func32, Tryd.ntmps32
  go_upto_region 1 with (fail)
  have BX := Box3.mk' w #[.string ⟨N.toArray⟩, .string ⟨D.toArray⟩] #[.string ⟨P.toArray⟩, .string ⟨Q.toArray⟩] #[.string ⟨#[]⟩, .string ⟨#[]⟩] 45 45
  generalize hB : w.heap.size = B at *
  refine wp_abs (fun w1 => Box3 B w w1 #[.string ⟨N.toArray⟩, .string ⟨D.toArray⟩] #[.string ⟨P.toArray⟩, .string ⟨Q.toArray⟩] #[.string ⟨#[]⟩, .string ⟨#[]⟩] 45 45) BX (fun w1 B1 => ?_)
  have HB := Lib.hid hB
  have HB1 := Lib.hid B1
  have hBs1 : B + 1 + 1 < w1.heap.size := lt_of_heap B1.z
  clear BX hB B1
  go_wp2_with (first
    | (refine wpList_load_whole rfl 45 _ rfl B #[.string ⟨N.toArray⟩, .string ⟨D.toArray⟩] _ _ _ rfl HB1.out.x Tryd.underlying45 rfl HS.out ?_)
    | (refine wpList_load_whole rfl 45 _ rfl (B + 1) #[.string ⟨P.toArray⟩, .string ⟨Q.toArray⟩] _ _ _ rfl HB1.out.y Tryd.underlying45 rfl HS.out ?_)
    | (go_at_call 67; refine (QR.out w1).mono ?_; rintro e w2 ⟨rfl, bel2⟩; have HB2 := Lib.hid (HB1.out.keep (by omega) bel2); clear bel2)
    | (refine wpList_store_whole rfl rfl 45 _ _ rfl (B + 1 + 1) #[.string ⟨#[]⟩, .string ⟨#[]⟩] #[.string ⟨SN.toArray⟩, .string ⟨SD.toArray⟩] 45 rfl rfl HB2.out.z rfl HS.out (two_strings _ _) ?_; intro w8 ho hp))
  refine bodyPost_ret (results_cell_tmp rfl _ w8 (B + 1 + 1) _ _ _ _ _ rfl rfl hp Tryd.underlying45 rfl HS.out) rfl ⟨rfl, by rw [HB.out]; exact bel_only HB2.out.bel ho (by omega)⟩
set_option maxHeartbeats 8000000 in
set_option maxRecDepth 100000 in
theorem natFTimes_any (N D P Q : Bytes) (w : World) (hN : N.length < 140737488355328) (hD : D.length < 140737488355328) (hP : P.length < 140737488355328) (hQ : Q.length < 140737488355328) :
    Calls Tryd.prog 35 #[.agg #[.string ⟨N.toArray⟩, .string ⟨D.toArray⟩], .agg #[.string ⟨P.toArray⟩, .string ⟨Q.toArray⟩]] w fun e w' => e = .returned (ansF (wrongF2 N D P Q) (strD ((dv N * dv P) / Nat.gcd (dv N * dv P) (dv D * dv Q))) (strD ((dv D * dv Q) / Nat.gcd (dv N * dv P) (dv D * dv Q)))) ∧ Below w.heap.size w w' := by
  have QR := Lib.hid (fun w => fracTimes_any N D P Q w hN hD hP hQ)
  have HS := Lib.hid size_api
  clear hN hD hP hQ
  unfold ansF at QR ⊢
  generalize (if wrongF2 N D P Q = 0 then strD ((dv N * dv P) / Nat.gcd (dv N * dv P) (dv D * dv Q)) else []) = SN at *
  generalize (if wrongF2 N D P Q = 0 then strD ((dv D * dv Q) / Nat.gcd (dv N * dv P) (dv D * dv Q)) else []) = SD at *
  generalize wrongF2 N D P Q = n at *
  go_enter Tryd.func35, Tryd.ntmps35
  go_upto_region 1 with (fail)
  have BX := Box3.mk' w #[.string ⟨N.toArray⟩, .string ⟨D.toArray⟩] #[.string ⟨P.toArray⟩, .string ⟨Q.toArray⟩] #[.string ⟨#[]⟩, .string ⟨#[]⟩] 45 45
  generalize hB : w.heap.size = B at *
  refine wp_abs (fun w1 => Box3 B w w1 #[.string ⟨N.toArray⟩, .string ⟨D.toArray⟩] #[.string ⟨P.toArray⟩, .string ⟨Q.toArray⟩] #[.string ⟨#[]⟩, .string ⟨#[]⟩] 45 45) BX (fun w1 B1 => ?_)
  have HB := Lib.hid hB
  have HB1 := Lib.hid B1
  have hBs1 : B + 1 + 1 < w1.heap.size := lt_of_heap B1.z
  clear BX hB B1
  go_wp2_with (first
    | (refine wpList_load_whole rfl 45 _ rfl B #[.string ⟨N.toArray⟩, .string ⟨D.toArray⟩] _ _ _ rfl HB1.out.x Tryd.underlying45 rfl HS.out ?_)
    | (refine wpList_load_whole rfl 45 _ rfl (B + 1) #[.string ⟨P.toArray⟩, .string ⟨Q.toArray⟩] _ _ _ rfl HB1.out.y Tryd.underlying45 rfl HS.out ?_)
    | (go_at_call 67; refine (QR.out w1).mono ?_; rintro e w2 ⟨rfl, bel2⟩; have HB2 := Lib.hid (HB1.out.keep (by omega) bel2); clear bel2)
    | (refine wpList_store_whole rfl rfl 45 _ _ rfl (B + 1 + 1) #[.string ⟨#[]⟩, .string ⟨#[]⟩] #[.string ⟨SN.toArray⟩, .string ⟨SD.toArray⟩] 45 rfl rfl HB2.out.z rfl HS.out (two_strings _ _) ?_; intro w8 ho hp))
  refine bodyPost_ret (results_cell_tmp rfl _ w8 (B + 1 + 1) _ _ _ _ _ rfl rfl hp Tryd.underlying45 rfl HS.out) rfl ⟨rfl, by rw [HB.out]; exact bel_only HB2.out.bel ho (by omega)⟩
set_option maxHeartbeats 8000000 in
set_option maxRecDepth 100000 in
theorem natFMinus_any (N D P Q : Bytes) (w : World) (hN : N.length < 140737488355328) (hD : D.length < 140737488355328) (hP : P.length < 140737488355328) (hQ : Q.length < 140737488355328) :
    Calls Tryd.prog 39 #[.agg #[.string ⟨N.toArray⟩, .string ⟨D.toArray⟩], .agg #[.string ⟨P.toArray⟩, .string ⟨Q.toArray⟩]] w fun e w' => e = .returned (ansF (wrongMinus N D P Q) (strD ((dv N * dv Q - dv P * dv D) / Nat.gcd (dv N * dv Q - dv P * dv D) (dv D * dv Q))) (strD ((dv D * dv Q) / Nat.gcd (dv N * dv Q - dv P * dv D) (dv D * dv Q)))) ∧ Below w.heap.size w w' := by
  have QR := Lib.hid (fun w => fracMinus_any N D P Q w hN hD hP hQ)
  have HS := Lib.hid size_api
  clear hN hD hP hQ
  unfold ansF at QR ⊢
  generalize (if wrongMinus N D P Q = 0 then strD ((dv N * dv Q - dv P * dv D) / Nat.gcd (dv N * dv Q - dv P * dv D) (dv D * dv Q)) else []) = SN at *
  generalize (if wrongMinus N D P Q = 0 then strD ((dv D * dv Q) / Nat.gcd (dv N * dv Q - dv P * dv D) (dv D * dv Q)) else []) = SD at *
  generalize wrongMinus N D P Q = n at *
  go_enter Tryd.func39, Tryd.ntmps39
  go_upto_region 1 with (fail)
  have BX := Box3.mk' w #[.string ⟨N.toArray⟩, .string ⟨D.toArray⟩] #[.string ⟨P.toArray⟩, .string ⟨Q.toArray⟩] #[.string ⟨#[]⟩, .string ⟨#[]⟩] 45 45
  generalize hB : w.heap.size = B at *
  refine wp_abs (fun w1 => Box3 B w w1 #[.string ⟨N.toArray⟩, .string ⟨D.toArray⟩] #[.string ⟨P.toArray⟩, .string ⟨Q.toArray⟩] #[.string ⟨#[]⟩, .string ⟨#[]⟩] 45 45) BX (fun w1 B1 => ?_)
  have HB := Lib.hid hB
  have HB1 := Lib.hid B1
  have hBs1 : B + 1 + 1 < w1.heap.size := lt_of_heap B1.z
  clear BX hB B1
  go_wp2_with (first
    | (refine wpList_load_whole rfl 45 _ rfl B #[.string ⟨N.toArray⟩, .string ⟨D.toArray⟩] _ _ _ rfl HB1.out.x Tryd.underlying45 rfl HS.out ?_)
    | (refine wpList_load_whole rfl 45 _ rfl (B + 1) #[.string ⟨P.toArray⟩, .string ⟨Q.toArray⟩] _ _ _ rfl HB1.out.y Tryd.underlying45 rfl HS.out ?_)
    | (go_at_call 67; refine (QR.out w1).mono ?_; rintro e w2 ⟨rfl, bel2⟩; have HB2 := Lib.hid (HB1.out.keep (by omega) bel2); clear bel2)
    | (refine wpList_store_whole rfl rfl 45 _ _ rfl (B + 1 + 1) #[.string ⟨#[]⟩, .string ⟨#[]⟩] #[.string ⟨SN.toArray⟩, .string ⟨SD.toArray⟩] 45 rfl rfl HB2.out.z rfl HS.out (two_strings _ _) ?_; intro w8 ho hp))
  refine bodyPost_ret (results_cell_tmp rfl _ w8 (B + 1 + 1) _ _ _ _ _ rfl rfl hp Tryd.underlying45 rfl HS.out) rfl ⟨rfl, by rw [HB.out]; exact bel_only HB2.out.bel ho (by omega)⟩
set_option maxHeartbeats 8000000 in
set_option maxRecDepth 100000 in
theorem natFOver_any (N D P Q : Bytes) (w : World) (hN : N.length < 140737488355328) (hD : D.length < 140737488355328) (hP : P.length < 140737488355328) (hQ : Q.length < 140737488355328) :
    Calls Tryd.prog 41 #[.agg #[.string ⟨N.toArray⟩, .string ⟨D.toArray⟩], .agg #[.string ⟨P.toArray⟩, .string ⟨Q.toArray⟩]] w fun e w' => e = .returned (ansF (wrongOver N D P Q) (strD ((dv N * dv Q) / Nat.gcd (dv N * dv Q) (dv D * dv P))) (strD ((dv D * dv P) / Nat.gcd (dv N * dv Q) (dv D * dv P)))) ∧ Below w.heap.size w w' := by
  have QR := Lib.hid (fun w => fracOver_any N D P Q w hN hD hP hQ)
  have HS := Lib.hid size_api
  clear hN hD hP hQ
  unfold ansF at QR ⊢
  generalize (if wrongOver N D P Q = 0 then strD ((dv N * dv Q) / Nat.gcd (dv N * dv Q) (dv D * dv P)) else []) = SN at *
  generalize (if wrongOver N D P Q = 0 then strD ((dv D * dv P) / Nat.gcd (dv N * dv Q) (dv D * dv P)) else []) = SD at *
  generalize wrongOver N D P Q = n at *
  go_enter Tryd.func41, Tryd.ntmps41
  go_upto_region 1 with (fail)
  have BX := Box3.mk' w #[.string ⟨N.toArray⟩, .string ⟨D.toArray⟩] #[.string ⟨P.toArray⟩, .string ⟨Q.toArray⟩] #[.string ⟨#[]⟩, .string ⟨#[]⟩] 45 45
  generalize hB : w.heap.size = B at *
  refine wp_abs (fun w1 => Box3 B w w1 #[.string ⟨N.toArray⟩, .string ⟨D.toArray⟩] #[.string ⟨P.toArray⟩, .string ⟨Q.toArray⟩] #[.string ⟨#[]⟩, .string ⟨#[]⟩] 45 45) BX (fun w1 B1 => ?_)
  have HB := Lib.hid hB
  have HB1 := Lib.hid B1
  have hBs1 : B + 1 + 1 < w1.heap.size := lt_of_heap B1.z
  clear BX hB B1
  go_wp2_with (first
    | (refine wpList_load_whole rfl 45 _ rfl B #[.string ⟨N.toArray⟩, .string ⟨D.toArray⟩] _ _ _ rfl HB1.out.x Tryd.underlying45 rfl HS.out ?_)
    | (refine wpList_load_whole rfl 45 _ rfl (B + 1) #[.string ⟨P.toArray⟩, .string ⟨Q.toArray⟩] _ _ _ rfl HB1.out.y Tryd.underlying45 rfl HS.out ?_)
    | (go_at_call 67; refine (QR.out w1).mono ?_; rintro e w2 ⟨rfl, bel2⟩; have HB2 := Lib.hid (HB1.out.keep (by omega) bel2); clear bel2)
    | (refine wpList_store_whole rfl rfl 45 _ _ rfl (B + 1 + 1) #[.string ⟨#[]⟩, .string ⟨#[]⟩] #[.string ⟨SN.toArray⟩, .string ⟨SD.toArray⟩] 45 rfl rfl HB2.out.z rfl HS.out (two_strings _ _) ?_; intro w8 ho hp))
  refine bodyPost_ret (results_cell_tmp rfl _ w8 (B + 1 + 1) _ _ _ _ _ rfl rfl hp Tryd.underlying45 rfl HS.out) rfl ⟨rfl, by rw [HB.out]; exact bel_only HB2.out.bel ho (by omega)⟩
set_option maxHeartbeats 8000000 in
set_option maxRecDepth 100000 in
theorem natOrder_any (N D P Q : Bytes) (w : World) (hN : N.length < 140737488355328) (hD : D.length < 140737488355328) (hP : P.length < 140737488355328) (hQ : Q.length < 140737488355328) :
    Calls Tryd.prog 37 #[.agg #[.string ⟨N.toArray⟩, .string ⟨D.toArray⟩], .agg #[.string ⟨P.toArray⟩, .string ⟨Q.toArray⟩]] w fun e w' => e = .returned (.tuple #[.int .i64 (if wrongF2 N D P Q = 0 then NL.cmpI (dv N * dv Q) (dv P * dv D) else 0), .int .i64 (wrongF2 N D P Q : Int)]) ∧ Below w.heap.size w w' := by
  have QB := Lib.hid (fun w => bothF_any N D P Q w hN hD hP hQ)
  have HS := Lib.hid size_api
  have HL := Lib.hid size_lfr
  clear hN hD hP hQ
  obtain ⟨AN, hAN⟩ : ∃ v, v = Value.tuple #[.int .i64 (if wrongF2 N D P Q = 0 then NL.cmpI (dv N * dv Q) (dv P * dv D) else 0), .int .i64 (wrongF2 N D P Q : Int)] := ⟨_, rfl⟩
  rw [← hAN]
  have HAN := Lib.hid hAN
  clear hAN
  go_enter Tryd.func37, Tryd.ntmps37
  go_upto_region 1 with (fail)
  have BX := Box2.mk' w #[.string ⟨N.toArray⟩, .string ⟨D.toArray⟩] #[.string ⟨P.toArray⟩, .string ⟨Q.toArray⟩] 45
  generalize hB : w.heap.size = B at *
  refine wp_abs (fun w1 => Box2 B w w1 #[.string ⟨N.toArray⟩, .string ⟨D.toArray⟩] #[.string ⟨P.toArray⟩, .string ⟨Q.toArray⟩] 45) BX (fun w1 B1 => ?_)
  have HB := Lib.hid hB
  have HB1 := Lib.hid B1
  have hBs1 : B + 1 < w1.heap.size := lt_of_heap B1.y
  clear BX hB B1
  go_upto_region 2 with (first
    | (refine wpList_load_whole rfl 45 _ rfl B #[.string ⟨N.toArray⟩, .string ⟨D.toArray⟩] _ _ _ rfl HB1.out.x Tryd.underlying45 rfl HS.out ?_)
    | (refine wpList_load_whole rfl 45 _ rfl (B + 1) #[.string ⟨P.toArray⟩, .string ⟨Q.toArray⟩] _ _ _ rfl HB1.out.y Tryd.underlying45 rfl HS.out ?_)
    | (go_at_call 70; refine (QB.out w1).mono ?_; rintro e w2 ⟨on, nn, cn, od, nd, cd, op, np, cp, oq, nq, cq, rfl, hg, bel2⟩; have HG := Lib.hid hg; have HB2 := Lib.hid (HB1.out.keep (by omega) bel2); have hBs2 : B + 1 < w2.heap.size := lt_of_heap HB2.out.y; clear hg bel2)
    | (refine wpList_store_whole rfl rfl 90 _ _ rfl w2.heap.size #[.slice none 0 0, .slice none 0 0] #[.slice on nn cn, .slice od nd cd] 90 rfl rfl (heap_lt (heap_at rfl)) rfl HL.out (two_slices _ _ _ _ _ _) ?_; intro w3 ho3 hp3; have HO3 := Lib.hid ho3; have HP3 := Lib.hid hp3; clear ho3 hp3)
    | (refine wpList_store_whole rfl rfl 90 _ _ rfl (w2.heap.size + 1) #[.slice none 0 0, .slice none 0 0] #[.slice op np cp, .slice oq nq cq] 90 rfl rfl (HO3.out.keep (by omega) (heap_at (by simp))) rfl HL.out (two_slices _ _ _ _ _ _) ?_; intro w4 ho4 hp4; have HO4 := Lib.hid ho4; have HP4 := Lib.hid hp4; clear ho4 hp4))
  have al : Below w2.heap.size w2 ((w2.alloc (.cells #[.slice none 0 0, .slice none 0 0] 90)).alloc (.cells #[.slice none 0 0, .slice none 0 0] 90)) := ((Below.refl _ _).alloc (Nat.le_refl _) _).alloc (by simp) _
  have b4 : Below w2.heap.size w2 w4 := bel_only (bel_only al HO3.out (Nat.le_refl _)) HO4.out (by omega)
  have B4 := Lib.hid (HB2.out.bel.trans (b4.mono (by omega)))
  have hc : w4.heap[w2.heap.size]? = _ := HO4.out.keep (by omega) HP3.out
  have HC := Lib.hid hc
  have HD := Lib.hid HP4.out
  have HG4 := Lib.hid (show wrongF2 N D P Q = 0 → nn = (dig (dv N)).length ∧ nd = (dig (dv D)).length ∧ np = (dig (dv P)).length ∧ nq = (dig (dv Q)).length ∧ LFr w4 (dv N) (dv D) on od ∧ LFr w4 (dv P) (dv Q) op oq from fun h => by
    obtain ⟨e1, e2, e3, e4, e5, e6⟩ := HG.out h
    exact ⟨e1, e2, e3, e4, e5.below b4, e6.below b4⟩)
  clear HO3 HP3 HO4 HP4 HB2 HG HB1 QB al b4 hc
  generalize w2.heap.size = C at *
  by_cases h0 : wrongF2 N D P Q = 0
  · obtain ⟨rfl, rfl, rfl, rfl, h5, h6⟩ := HG4.out h0
    obtain ⟨w01, w02⟩ := wrongF2_good h0
    obtain ⟨bN, bD, hD0⟩ := good_frac w01
    obtain ⟨bP, bQ, hQ0⟩ := good_frac w02
    have QC := Lib.hid (exFCmp_any (dv N) (dv D) (dv P) (dv Q) on od op oq cn cd cp cq w4 h5 h6 (Nat.lt_of_le_of_lt bN.limbs (by decide)) (Nat.lt_of_le_of_lt bD.limbs (by decide)) (Nat.lt_of_le_of_lt bP.limbs (by decide)) (Nat.lt_of_le_of_lt bQ.limbs (by decide)))
    have hans := Lib.hid (show AN = .tuple #[.int .i64 (NL.cmpI (dv N * dv Q) (dv P * dv D)), .int .i64 0] by rw [HAN.out, if_pos h0, h0]; rfl)
    rw [h0]
    generalize NL.cmpI (dv N * dv Q) (dv P * dv D) = z at *
    clear h5 h6 w01 w02 bN bD hD0 bP bQ hQ0 h0 HG4
    go_wp2_with (first
      | (refine wpList_load_whole rfl 90 _ rfl C #[.slice on (dig (dv N)).length cn, .slice od (dig (dv D)).length cd] _ _ _ rfl HC.out Tryd.underlying90 rfl HL.out ?_)
      | (refine wpList_load_whole rfl 90 _ rfl (C + 1) #[.slice op (dig (dv P)).length cp, .slice oq (dig (dv Q)).length cq] _ _ _ rfl HD.out Tryd.underlying90 rfl HL.out ?_)
      | (go_at_call 72; refine QC.out.mono ?_; rintro e w6 ⟨rfl, bel6⟩; have B6 := Lib.hid (B4.out.trans (bel6.mono (HB.out ▸ B4.out.size))); clear bel6))
    go_ret2
    exact ⟨by first | (rw [hans.out]; done) | (rw [hans.out]; rfl), by rw [HB.out]; exact B6.out⟩
  · have hans := Lib.hid (show AN = .tuple #[.int .i64 0, .int .i64 (wrongF2 N D P Q : Int)] by rw [HAN.out, if_neg h0])
    have hne : ((wrongF2 N D P Q : Int) == 0) = false := by rw [beq_eq_false_iff_ne]; omega
    clear h0 HG4
    generalize wrongF2 N D P Q = n at *
    go_wp2_with fail
    go_ret2
    exact ⟨by first | (rw [hans.out]; done) | (rw [hans.out]; rfl), by rw [HB.out]; exact B4.out⟩
end Go.Proofs.YtkkpfoidppjbdaaDoor
