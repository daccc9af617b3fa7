/-
  Chapter 4, WirePrints: the reference's Size, Written. Printed by tools/genpr.py.
-/
import Derived.Test.YtohemcdcmlngiaaDoorPrD
namespace Go.Proofs.YtohemcdcmlngiaaDoor.PR
set_option linter.unusedVariables false
set_option linter.unusedSimpArgs false
open Go.RowKit ML FM

def accW (f : Nat → Bytes) (i : Nat) : Bytes := [40] ++ catN f i
theorem accW_succ (f : Nat → Bytes) (i : Nat) : accW f (i + 1) = accW f i ++ f i := (List.append_assoc _ _ _).symm
theorem undrewP {w w' : World} (h : Below w.drew.heap.size w.drew w') : Below w.heap.size w w' := (Below.refl _ _).drew.trans h
set_option maxHeartbeats 4000000 in
set_option maxRecDepth 100000 in
theorem refSize_any (w0 : World) : ∀ {cs : List Value} {I : Inf} (h : NdAt w0 cs I) (hk : I.bulk ≤ 1048576) (w : World) (hb : Below w0.heap.size w0 w), Calls Tryd.prog 12 #[.agg cs.toArray] w fun e w' => e = .returned (.int .i64 (I.siz : Int)) ∧ Below w.heap.size w w' := by
  intro cs I h
  induction h with
  | mk l t oa n cap C I hn hc hr ih =>
  intro hk w hb
  show Calls Tryd.prog 12 #[.agg #[.bool l, .string ⟨t.toArray⟩, .slice oa n cap]] w _
  have hbk : t.length + 1 + sumN (fun i => (I i).bulk) n ≤ 1048576 := by
    have : (nodeI l t n I).bulk = t.length + 1 + sumN (fun i => (I i).bulk) n := by unfold nodeI; cases l <;> rfl
    omega
  have hkid : ∀ i, i < n → (I i).bulk ≤ 1048576 := fun i hi => by
    have h1 : (I i).bulk ≤ sumN (fun i => (I i).bulk) n := le_sumN (fun i => (I i).bulk) n i hi
    omega
  have QI := Lib.hid (fun i hi w hb => ih i hi (hkid i hi) w hb)
  have HSM := Lib.hid (fun k (hk : k ≤ n) => (show sumN (fun i => (I i).siz) k ≤ 2097152 by
    have h1 : sumN (fun i => (I i).siz) n ≤ sumN (fun i => 2 * (I i).bulk) n := sumN_le n (fun i hi => (hr i hi).small.1)
    rw [sumN_mul] at h1
    have h2 := sumN_mono (fun i => (I i).siz) n k hk
    omega))
  have HC := Lib.hid hc
  have HR := Lib.hid hr
  have HB0 := Lib.hid hb
  have ht : t.length ≤ 1048576 := by omega
  clear ih hc hr hb hk hbk hkid
  cases l with
  | true =>
    have hs1 := strD_len t.length
    go_enter Tryd.func12, Tryd.ntmps12
    go_upto_region 1 with (fail)
    generalize hB : w.heap.size = B at *
    refine wp_abs (fun w1 => Below B w w1 ∧ w1.heap[B]? = some (.cells #[.bool true, .string ⟨t.toArray⟩, .slice oa n cap] 24 (0, 0))) ⟨by rw [← hB]; exact (Below.refl _ _).alloc (Nat.le_refl _) _, by rw [← hB]; exact heap_at rfl⟩ (fun w1 hw1 => ?_)
    have HB := Lib.hid hB
    have B1 := Lib.hid hw1.1
    have X1 := Lib.hid hw1.2
    have k0 : w1.cell? ⟨B, 0, none⟩ = some (.bool true) := cell_of_row w1 B 0 _ _ _ hw1.2
    have k1 : w1.cell? ⟨B, 1, none⟩ = some (.string ⟨t.toArray⟩) := cell_of_row w1 B 1 _ _ _ hw1.2
    have k2 : w1.cell? ⟨B, 2, none⟩ = some (.slice oa n cap) := cell_of_row w1 B 2 _ _ _ hw1.2
    clear hB hw1
    have hBs : B < w1.heap.size := lt_of_heap X1.out
    have j1 : ∀ x : BelowT w1.heap.size w1, x.w.cell? ⟨B, 1, none⟩ = some (.string ⟨t.toArray⟩) := fun x => cell_of_row _ B 1 _ _ _ (bel_keep x.2 hBs X1.out)
    have QD := Lib.hid (refDigits_any t.length w1.drew (by omega))
    clear k1 k2
    go_upto_region 2 with (fail)
    refine Seg.wp_region_segs (fun w' => ∃ x : BelowT w1.heap.size w1, w' = x.w) [([0, 1, 2, 6, 7, 8], 3)] [4, 5] 9 (by kernel_rfl) (by kernel_rfl) (fun _ _ d _ _ h => by cases d <;> exact h) (⟨⟨_, (Below.refl _ _).drew⟩, rfl⟩) ?_
    simp only [List.map_cons, List.map_nil, Seg.opAt, List.drop_succ_cons, List.drop_zero, Seg.wpSegs, Array.getD_eq_getD_getElem?, List.getElem?_toArray, List.getElem?_cons_succ, List.getElem?_cons_zero, Option.getD_some]
    repeat (any_goals (first | go_big_quiet_step (fail) | quiet_step (fail)))
    refine wpQuiet_nil ?_
    intro K hK
    simp only [Region.wanted, if_true]
    go_wp2_with (go_at_call 15; refine QD.out.mono ?_; rintro e w2 ⟨rfl, b2⟩)
    have B2 := Lib.hid (B1.out.trans ((undrewP b2).mono (Nat.le_of_lt hBs)))
    refine hK _ _ ⟨⟨w2, undrewP b2⟩, rfl⟩ ?_
    clear hK K b2 QD j1
    repeat (any_goals (first | go_big_quiet_step (fail) | quiet_step (fail)))
    refine wpQuiet_nil ?_
    go_wp2_with fail
    go_ret
    exact ⟨by show _ = Ending.returned (.int .i64 (((strD t.length).length + 1 + t.length : Nat) : Int)); simp, by rw [HB.out]; exact B2.out⟩
  | false =>
  go_enter Tryd.func12, Tryd.ntmps12
  go_upto_region 1 with (fail)
  generalize hB : w.heap.size = B at *
  refine wp_abs (fun w1 => Below B w w1 ∧ w1.heap[B]? = some (.cells #[.bool false, .string ⟨t.toArray⟩, .slice oa n cap] 24 (0, 0))) ⟨by rw [← hB]; exact (Below.refl _ _).alloc (Nat.le_refl _) _, by rw [← hB]; exact heap_at rfl⟩ (fun w1 hw1 => ?_)
  have HB := Lib.hid hB
  have B1 := Lib.hid hw1.1
  have X1 := Lib.hid hw1.2
  have k0 : w1.cell? ⟨B, 0, none⟩ = some (.bool false) := cell_of_row w1 B 0 _ _ _ hw1.2
  have k1 : w1.cell? ⟨B, 1, none⟩ = some (.string ⟨t.toArray⟩) := cell_of_row w1 B 1 _ _ _ hw1.2
  have k2 : w1.cell? ⟨B, 2, none⟩ = some (.slice oa n cap) := cell_of_row w1 B 2 _ _ _ hw1.2
  clear hB hw1
  go_wp2_with fail
  go_loopw [21, 3] (fun v u wr => ∃ i : Nat, v = .int .i64 i ∧ u = .int .i64 ((2 + sumN (fun i => (I i).siz) i : Nat) : Int) ∧ i ≤ n ∧ Below B w wr) (fun v _ _ => n - (intOf v).toNat)
  case atStart => exact ⟨0, rfl, rfl, Nat.zero_le _, B1.out⟩
  case round =>
  clear B1 X1 k0 k1 k2
  obtain ⟨i, rfl, rfl, hi, hbr⟩ := hrel
  have BR := Lib.hid hbr
  have hm := HSM.out i hi
  clear hbr
  by_cases hlt : i < n
  case neg =>
    obtain rfl : i = n := by omega
    have dk : decide ((i : Int) < (i : Int)) = false := decide_eq_false (by omega)
    have dk2 : decide (i < i) = false := decide_eq_false (by omega)
    generalize hmm : sumN (fun i_1 => (I i_1).siz) i = mm at *
    have HM := Lib.hid hmm
    clear hmm
    go_wp2_with fail
    go_ret
    exact ⟨by show _ = Ending.returned (.int .i64 ((2 + sumN (fun i_1 => (I i_1).siz) i : Nat) : Int)); rw [HM.out]; simp, by rw [HB.out]; exact BR.out⟩
  have hm2 := HSM.out (i + 1) hlt
  have HNX := Lib.hid (show sumN (fun i => (I i).siz) (i + 1) = sumN (fun i => (I i).siz) i + (I i).siz from rfl)
  rw [HNX.out] at hm2
  have dk : decide ((i : Int) < (n : Int)) = true := decide_eq_true (by omega)
  have dk2 : decide (i < n) = true := decide_eq_true hlt
  have hki : (i : Int) < (n : Int) := by omega
  obtain ⟨a, hoa, hab, hcl, hcc⟩ := HC.out i hlt
  obtain ⟨l2, t2, oa2, n2, cap2, hCi⟩ := (HR.out i hlt).form
  have hb0r : Below w0.heap.size w0 wr := HB0.out.trans (BR.out.mono (by rw [← HB.out]; exact HB0.out.size))
  have HCC := Lib.hid (show ∀ j v, ([.bool l2, .string ⟨t2.toArray⟩, .slice oa2 n2 cap2] : List Value)[j]? = some v → wr.cell? ((a.add (i * 3)).add j) = some v by
    intro j v hv
    rw [hb0r.cell (by rw [addr_block, addr_block]; exact hab)]
    exact hcc j v (by rw [hCi]; exact hv))
  have QC := Lib.hid (QI.out i hlt)
  rw [hCi] at QC
  subst hoa
  clear hab hcl hcc hCi
  go_upto_region 7 with (first
        | go_big_skip
        | ((with_reducible refine at_load 24 ?_); refine wpList_load_at rfl 24 _ rfl (a.add (i * 3)) rfl [.bool l2, .string ⟨t2.toArray⟩, .slice oa2 n2 cap2] _ HCC.out Tryd.underlying24 rfl size_node ?_)
        | (refine wpList_store_whole rfl rfl 24 _ _ rfl wr.heap.size #[.bool false, .string ⟨#[]⟩, .slice none 0 0] #[.bool l2, .string ⟨t2.toArray⟩, .slice oa2 n2 cap2] 24 rfl rfl (heap_at rfl) rfl size_node (three_one ..) ?_; intro w3 ho hp))
  have b3 : Below wr.heap.size wr w3 := bel_only ((Below.refl _ _).alloc (Nat.le_refl _) _) ho (Nat.le_refl _)
  have B3 := Lib.hid (BR.out.trans (b3.mono (by have := BR.out.size; have := HB.out; omega)))
  have hb03 := Lib.hid (hb0r.trans (b3.mono hb0r.size))
  have D3 := Lib.hid hp
  have hD3 : wr.heap.size < w3.heap.size := lt_of_heap hp
  have Q3 := Lib.hid (QC.out w3 hb03.out)
  clear b3 ho hp hb0r HCC QC BR
  generalize wr.heap.size = D at *
  generalize sumN (fun i => (I i).siz) i = mm at *
  generalize (I i).siz = dd at *
  go_wp2_with (first
        | go_big_skip
        | ((with_reducible refine at_load 24 ?_); refine wpList_load_g ?_ 24 (.tmp 5) ?_ D _ _ _ _ ?_ D3.out Tryd.underlying24 ?_ size_node ?_; rfl; rfl; rfl; rfl)
        | (go_at_call 12; refine (Q3.out).mono ?_; rintro e w4 ⟨rfl, b4⟩; dsimp only; have B4 := Lib.hid (B3.out.trans (b4.mono (by have := B3.out.size; have := HB.out; omega))); have hb4 := Lib.hid (hb03.out.trans (b4.mono hb03.out.size)); clear b4))
  go_roundw
  case rel => exact ⟨i + 1, by go_num, by rw [HNX.out]; go_num, by omega, B4.out⟩
  case measure => simp [intOf]; omega
set_option maxHeartbeats 4000000 in
set_option maxRecDepth 100000 in
theorem refWritten_any (w0 : World) : ∀ {cs : List Value} {I : Inf} (h : NdAt w0 cs I) (hk : I.siz ≤ 1048576) (w : World) (hb : Below w0.heap.size w0 w), Calls Tryd.prog 17 #[.agg cs.toArray] w fun e w' => e = .returned (.string ⟨I.txt.toArray⟩) ∧ Below w.heap.size w w' := by
  intro cs I h
  induction h with
  | mk l t oa n cap C I hn hc hr ih =>
  intro hk w hb
  show Calls Tryd.prog 17 #[.agg #[.bool l, .string ⟨t.toArray⟩, .slice oa n cap]] w _
  have HC := Lib.hid hc
  have HR := Lib.hid hr
  have HB0 := Lib.hid hb
  cases l with
  | true =>
    have hk2 : (strD t.length).length + 1 + t.length ≤ 1048576 := hk
    have QI := Lib.hid hb
    clear ih hc hr hb hk
    go_enter Tryd.func17, Tryd.ntmps17
    go_upto_region 1 with (fail)
    generalize hB : w.heap.size = B at *
    refine wp_abs (fun w1 => Below B w w1 ∧ w1.heap[B]? = some (.cells #[.bool true, .string ⟨t.toArray⟩, .slice oa n cap] 24 (0, 0))) ⟨by rw [← hB]; exact (Below.refl _ _).alloc (Nat.le_refl _) _, by rw [← hB]; exact heap_at rfl⟩ (fun w1 hw1 => ?_)
    have HB := Lib.hid hB
    have B1 := Lib.hid hw1.1
    have X1 := Lib.hid hw1.2
    have k0 : w1.cell? ⟨B, 0, none⟩ = some (.bool true) := cell_of_row w1 B 0 _ _ _ hw1.2
    have k1 : w1.cell? ⟨B, 1, none⟩ = some (.string ⟨t.toArray⟩) := cell_of_row w1 B 1 _ _ _ hw1.2
    have k2 : w1.cell? ⟨B, 2, none⟩ = some (.slice oa n cap) := cell_of_row w1 B 2 _ _ _ hw1.2
    clear hB hw1
    have hBs : B < w1.heap.size := lt_of_heap X1.out
    have j1 : ∀ x : BelowT w1.heap.size w1, x.w.cell? ⟨B, 1, none⟩ = some (.string ⟨t.toArray⟩) := fun x => cell_of_row _ B 1 _ _ _ (bel_keep x.2 hBs X1.out)
    have QD := Lib.hid (refDigits_any t.length w1.drew (by omega))
    clear k1 k2
    go_upto_region 2 with (fail)
    refine Seg.wp_region_segs (fun w' => ∃ x : BelowT w1.heap.size w1, w' = x.w) [([0, 1, 2, 5, 6], 3)] [4] 7 (by kernel_rfl) (by kernel_rfl) (fun _ _ d _ _ h => by cases d <;> exact h) (⟨⟨_, (Below.refl _ _).drew⟩, rfl⟩) ?_
    simp only [List.map_cons, List.map_nil, Seg.opAt, List.drop_succ_cons, List.drop_zero, Seg.wpSegs, Array.getD_eq_getD_getElem?, List.getElem?_toArray, List.getElem?_cons_succ, List.getElem?_cons_zero, Option.getD_some]
    repeat (any_goals (first | go_big_quiet_step (fail) | quiet_step (fail)))
    refine wpQuiet_nil ?_
    intro K hK
    simp only [Region.wanted, if_true]
    go_wp2_with (go_at_call 15; refine QD.out.mono ?_; rintro e w2 ⟨rfl, b2⟩)
    have B2 := Lib.hid (B1.out.trans ((undrewP b2).mono (Nat.le_of_lt hBs)))
    refine hK _ _ ⟨⟨w2, undrewP b2⟩, rfl⟩ ?_
    clear hK K b2 QD j1
    repeat (any_goals (first | go_big_quiet_step (fail) | quiet_step (fail)))
    refine wpQuiet_nil ?_
    go_wp2_with fail
    go_ret
    exact ⟨by show _ = Ending.returned (.string ⟨(strD t.length ++ [58] ++ t).toArray⟩); rw [← append_mk, ← append_mk]; rfl, by rw [HB.out]; exact B2.out⟩
  | false =>
  have hk2 : 2 + sumN (fun i => (I i).siz) n ≤ 1048576 := hk
  have hkid : ∀ i, i < n → (I i).siz ≤ 1048576 := fun i hi => by
    have h1 : (I i).siz ≤ sumN (fun i => (I i).siz) n := le_sumN (fun i => (I i).siz) n i hi
    omega
  have QI := Lib.hid (fun i hi w hb => ih i hi (hkid i hi) w hb)
  have HSM := Lib.hid (fun k (hk : k ≤ n) => (show (accW (fun i => (I i).txt) k).length ≤ 1048577 by
    have h1 : (accW (fun i => (I i).txt) k).length = 1 + (catN (fun i => (I i).txt) k).length := by unfold accW; rw [List.length_append]; rfl
    rw [length_catN] at h1
    have h2 := sumN_mono (fun i => (I i).txt.length) n k hk
    have h3 : sumN (fun i => (I i).txt.length) n = sumN (fun i => (I i).siz) n := sumN_congr n (fun i hi => (hr i hi).len)
    omega))
  clear ih hc hr hb hk hk2 hkid
  go_enter Tryd.func17, Tryd.ntmps17
  go_upto_region 1 with (fail)
  generalize hB : w.heap.size = B at *
  refine wp_abs (fun w1 => Below B w w1 ∧ w1.heap[B]? = some (.cells #[.bool false, .string ⟨t.toArray⟩, .slice oa n cap] 24 (0, 0))) ⟨by rw [← hB]; exact (Below.refl _ _).alloc (Nat.le_refl _) _, by rw [← hB]; exact heap_at rfl⟩ (fun w1 hw1 => ?_)
  have HB := Lib.hid hB
  have B1 := Lib.hid hw1.1
  have X1 := Lib.hid hw1.2
  have k0 : w1.cell? ⟨B, 0, none⟩ = some (.bool false) := cell_of_row w1 B 0 _ _ _ hw1.2
  have k1 : w1.cell? ⟨B, 1, none⟩ = some (.string ⟨t.toArray⟩) := cell_of_row w1 B 1 _ _ _ hw1.2
  have k2 : w1.cell? ⟨B, 2, none⟩ = some (.slice oa n cap) := cell_of_row w1 B 2 _ _ _ hw1.2
  clear hB hw1
  go_wp2_with fail
  go_loopw [19, 3] (fun v u wr => ∃ i : Nat, v = .int .i64 i ∧ u = .string ⟨(accW (fun i => (I i).txt) i).toArray⟩ ∧ i ≤ n ∧ Below B w wr) (fun v _ _ => n - (intOf v).toNat)
  case atStart => exact ⟨0, rfl, rfl, Nat.zero_le _, B1.out⟩
  case round =>
  clear B1 X1 k0 k1 k2
  obtain ⟨i, rfl, rfl, hi, hbr⟩ := hrel
  have BR := Lib.hid hbr
  have hm := HSM.out i hi
  clear hbr
  by_cases hlt : i < n
  case neg =>
    obtain rfl : i = n := by omega
    have dk : decide ((i : Int) < (i : Int)) = false := decide_eq_false (by omega)
    have dk2 : decide (i < i) = false := decide_eq_false (by omega)
    generalize hmm : accW (fun i_1 => (I i_1).txt) i = mm at *
    have HM := Lib.hid hmm
    clear hmm
    go_wp2_with fail
    go_ret
    exact ⟨by show _ = Ending.returned (.string ⟨(accW (fun i_1 => (I i_1).txt) i ++ [41]).toArray⟩); rw [HM.out, ← append_mk]; rfl, by rw [HB.out]; exact BR.out⟩
  have hm2 := HSM.out (i + 1) hlt
  have HNX := Lib.hid (accW_succ (fun i => (I i).txt) i)
  rw [accW_succ, List.length_append] at hm2
  have dk : decide ((i : Int) < (n : Int)) = true := decide_eq_true (by omega)
  have dk2 : decide (i < n) = true := decide_eq_true hlt
  have hki : (i : Int) < (n : Int) := by omega
  obtain ⟨a, hoa, hab, hcl, hcc⟩ := HC.out i hlt
  obtain ⟨l2, t2, oa2, n2, cap2, hCi⟩ := (HR.out i hlt).form
  have hb0r : Below w0.heap.size w0 wr := HB0.out.trans (BR.out.mono (by rw [← HB.out]; exact HB0.out.size))
  have HCC := Lib.hid (show ∀ j v, ([.bool l2, .string ⟨t2.toArray⟩, .slice oa2 n2 cap2] : List Value)[j]? = some v → wr.cell? ((a.add (i * 3)).add j) = some v by
    intro j v hv
    rw [hb0r.cell (by rw [addr_block, addr_block]; exact hab)]
    exact hcc j v (by rw [hCi]; exact hv))
  have QC := Lib.hid (QI.out i hlt)
  rw [hCi] at QC
  subst hoa
  clear hab hcl hcc hCi
  go_upto_region 7 with (first
        | go_big_skip
        | ((with_reducible refine at_load 24 ?_); refine wpList_load_at rfl 24 _ rfl (a.add (i * 3)) rfl [.bool l2, .string ⟨t2.toArray⟩, .slice oa2 n2 cap2] _ HCC.out Tryd.underlying24 rfl size_node ?_)
        | (refine wpList_store_whole rfl rfl 24 _ _ rfl wr.heap.size #[.bool false, .string ⟨#[]⟩, .slice none 0 0] #[.bool l2, .string ⟨t2.toArray⟩, .slice oa2 n2 cap2] 24 rfl rfl (heap_at rfl) rfl size_node (three_one ..) ?_; intro w3 ho hp))
  have b3 : Below wr.heap.size wr w3 := bel_only ((Below.refl _ _).alloc (Nat.le_refl _) _) ho (Nat.le_refl _)
  have B3 := Lib.hid (BR.out.trans (b3.mono (by have := BR.out.size; have := HB.out; omega)))
  have hb03 := Lib.hid (hb0r.trans (b3.mono hb0r.size))
  have D3 := Lib.hid hp
  have hD3 : wr.heap.size < w3.heap.size := lt_of_heap hp
  have Q3 := Lib.hid (QC.out w3 hb03.out)
  clear b3 ho hp hb0r HCC QC BR
  generalize wr.heap.size = D at *
  generalize accW (fun i => (I i).txt) i = mm at *
  generalize (I i).txt = dd at *
  have hnl : ¬ 9223372036854775807 < mm.length + dd.length := by omega
  have hnl2 : ¬ (9223372036854775807 : Int) < (mm.length : Int) + (dd.length : Int) := by omega
  go_wp2_with (first
        | go_big_skip
        | ((with_reducible refine at_load 24 ?_); refine wpList_load_g ?_ 24 (.tmp 5) ?_ D _ _ _ _ ?_ D3.out Tryd.underlying24 ?_ size_node ?_; rfl; rfl; rfl; rfl)
        | (go_at_call 17; refine (Q3.out).mono ?_; rintro e w4 ⟨rfl, b4⟩; dsimp only; have B4 := Lib.hid (B3.out.trans (b4.mono (by have := B3.out.size; have := HB.out; omega))); have hb4 := Lib.hid (hb03.out.trans (b4.mono hb03.out.size)); clear b4))
  go_roundw
  case rel => exact ⟨i + 1, by go_num, by rw [HNX.out, append_mk], by omega, B4.out⟩
  case measure => simp [intOf]; omega
end Go.Proofs.YtohemcdcmlngiaaDoor.PR
