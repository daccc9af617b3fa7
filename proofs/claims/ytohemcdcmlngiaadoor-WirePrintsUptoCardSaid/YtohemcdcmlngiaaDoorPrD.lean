/-
  Chapter 4, WirePrints: the reference's Depth. Printed by tools/genpr.py.
-/
import Derived.Test.YtohemcdcmlngiaaDoorPrG
namespace Go.Proofs.YtohemcdcmlngiaaDoor.PR
set_option linter.unusedVariables false
set_option linter.unusedSimpArgs false
open Go.RowKit ML FM

set_option maxHeartbeats 4000000 in
set_option maxRecDepth 100000 in
theorem refDepth_any (w0 : World) : ∀ {cs : List Value} {I : Inf} (h : NdAt w0 cs I) (hk : I.bulk ≤ 1048576) (w : World) (hb : Below w0.heap.size w0 w), Calls Tryd.prog 11 #[.agg cs.toArray] w fun e w' => e = .returned (.int .i64 (I.dep : Int)) ∧ Below w.heap.size w w' := by
  intro cs I h
  have hsm := h.small
  induction h with
  | mk l t oa n cap C I hn hc hr ih =>
  intro hk w hb
  show Calls Tryd.prog 11 #[.agg #[.bool l, .string ⟨t.toArray⟩, .slice oa n cap]] w _
  have hbk : t.length + 1 + sumN (fun i => (I i).bulk) n ≤ 1048576 := by
    have : (nodeI l t n I).bulk = t.length + 1 + sumN (fun i => (I i).bulk) n := by unfold nodeI; cases l <;> rfl
    omega
  have hkid : ∀ i, i < n → (I i).bulk ≤ 1048576 ∧ (I i).dep ≤ 1048576 := fun i hi => by
    have h1 := le_sumN (fun i => (I i).bulk) n i hi
    have h2 := (hr i hi).small
    have h1 : (I i).bulk ≤ sumN (fun i => (I i).bulk) n := h1
    omega
  have QI := Lib.hid (fun i hi w hb => ih i hi (hr i hi).small (hkid i hi).1 w hb)
  have HKD := Lib.hid hkid
  have HMX := Lib.hid (fun k (hk : k ≤ n) => (maxN_le (fun i => (I i).dep) 1048576 k (fun i hi => (hkid i (by omega)).2)))
  have HC := Lib.hid hc
  have HR := Lib.hid hr
  have HB0 := Lib.hid hb
  clear ih hc hr hb hsm hk hbk hkid
  cases l with
  | true =>
    go_enter Tryd.func11, Tryd.ntmps11
    go_upto_region 1 with (fail)
    generalize hB : w.heap.size = B at *
    refine wp_abs (fun w1 => Below B w w1 ∧ w1.heap[B]? = some (.cells #[.bool true, .string ⟨t.toArray⟩, .slice oa n cap] 24 (0, 0))) ⟨by rw [← hB]; exact (Below.refl _ _).alloc (Nat.le_refl _) _, by rw [← hB]; exact heap_at rfl⟩ (fun w1 hw1 => ?_)
    have HB := Lib.hid hB
    have B1 := Lib.hid hw1.1
    have X1 := Lib.hid hw1.2
    have k0 : w1.cell? ⟨B, 0, none⟩ = some (.bool true) := cell_of_row w1 B 0 _ _ _ hw1.2
    have k1 : w1.cell? ⟨B, 1, none⟩ = some (.string ⟨t.toArray⟩) := cell_of_row w1 B 1 _ _ _ hw1.2
    have k2 : w1.cell? ⟨B, 2, none⟩ = some (.slice oa n cap) := cell_of_row w1 B 2 _ _ _ hw1.2
    clear hB hw1
    go_wp2_with fail
    go_ret
    exact ⟨rfl, by rw [HB.out]; exact B1.out⟩
  | false =>
  go_enter Tryd.func11, Tryd.ntmps11
  go_upto_region 1 with (fail)
  generalize hB : w.heap.size = B at *
  refine wp_abs (fun w1 => Below B w w1 ∧ w1.heap[B]? = some (.cells #[.bool false, .string ⟨t.toArray⟩, .slice oa n cap] 24 (0, 0))) ⟨by rw [← hB]; exact (Below.refl _ _).alloc (Nat.le_refl _) _, by rw [← hB]; exact heap_at rfl⟩ (fun w1 hw1 => ?_)
  have HB := Lib.hid hB
  have B1 := Lib.hid hw1.1
  have X1 := Lib.hid hw1.2
  have k0 : w1.cell? ⟨B, 0, none⟩ = some (.bool false) := cell_of_row w1 B 0 _ _ _ hw1.2
  have k1 : w1.cell? ⟨B, 1, none⟩ = some (.string ⟨t.toArray⟩) := cell_of_row w1 B 1 _ _ _ hw1.2
  have k2 : w1.cell? ⟨B, 2, none⟩ = some (.slice oa n cap) := cell_of_row w1 B 2 _ _ _ hw1.2
  clear hB hw1
  go_wp2_with fail
  go_loopw [11, 3] (fun v u wr => ∃ i : Nat, v = .int .i64 i ∧ u = .int .i64 (maxN (fun i => (I i).dep) i : Int) ∧ i ≤ n ∧ Below B w wr) (fun v _ _ => n - (intOf v).toNat)
  case atStart => exact ⟨0, rfl, rfl, Nat.zero_le _, B1.out⟩
  case round =>
  clear B1 X1 k0 k1 k2
  obtain ⟨i, rfl, rfl, hi, hbr⟩ := hrel
  have BR := Lib.hid hbr
  have hm := HMX.out i hi
  clear hbr
  by_cases hlt : i < n
  case neg =>
    obtain rfl : i = n := by omega
    have dk : decide ((i : Int) < (i : Int)) = false := decide_eq_false (by omega)
    have dk2 : decide (i < i) = false := decide_eq_false (by omega)
    generalize hmm : maxN (fun i_1 => (I i_1).dep) i = mm at *
    have HM := Lib.hid hmm
    clear hmm
    go_wp2_with fail
    go_ret
    exact ⟨by show _ = Ending.returned (.int .i64 ((maxN (fun i_1 => (I i_1).dep) i + 1 : Nat) : Int)); rw [HM.out]; simp, by rw [HB.out]; exact BR.out⟩
  have hdi := (HKD.out i hlt).2
  have HNX := Lib.hid (show maxN (fun i => (I i).dep) (i + 1) = if maxN (fun i => (I i).dep) i < (I i).dep then (I i).dep else maxN (fun i => (I i).dep) i from rfl)
  have dk : decide ((i : Int) < (n : Int)) = true := decide_eq_true (by omega)
  have dk2 : decide (i < n) = true := decide_eq_true hlt
  have hki : (i : Int) < (n : Int) := by omega
  obtain ⟨a, hoa, hab, hcl, hcc⟩ := HC.out i hlt
  obtain ⟨l2, t2, oa2, n2, cap2, hCi⟩ := (HR.out i hlt).form
  have hb0r : Below w0.heap.size w0 wr := HB0.out.trans (BR.out.mono (by rw [← HB.out]; exact HB0.out.size))
  have HCC := Lib.hid (show ∀ j v, ([.bool l2, .string ⟨t2.toArray⟩, .slice oa2 n2 cap2] : List Value)[j]? = some v → wr.cell? ((a.add (i * 3)).add j) = some v by
    intro j v hv
    rw [hb0r.cell (by rw [addr_block, addr_block]; exact hab)]
    exact hcc j v (by rw [hCi]; exact hv))
  have QC := Lib.hid (QI.out i hlt)
  rw [hCi] at QC
  subst hoa
  clear hab hcl hcc hCi
  go_upto_region 7 with (first
        | go_big_skip
        | ((with_reducible refine at_load 24 ?_); refine wpList_load_at rfl 24 _ rfl (a.add (i * 3)) rfl [.bool l2, .string ⟨t2.toArray⟩, .slice oa2 n2 cap2] _ HCC.out Tryd.underlying24 rfl size_node ?_)
        | (refine wpList_store_whole rfl rfl 24 _ _ rfl wr.heap.size #[.bool false, .string ⟨#[]⟩, .slice none 0 0] #[.bool l2, .string ⟨t2.toArray⟩, .slice oa2 n2 cap2] 24 rfl rfl (heap_at rfl) rfl size_node (three_one ..) ?_; intro w3 ho hp))
  have b3 : Below wr.heap.size wr w3 := bel_only ((Below.refl _ _).alloc (Nat.le_refl _) _) ho (Nat.le_refl _)
  have B3 := Lib.hid (BR.out.trans (b3.mono (by have := BR.out.size; have := HB.out; omega)))
  have hb03 := Lib.hid (hb0r.trans (b3.mono hb0r.size))
  have D3 := Lib.hid hp
  have hD3 : wr.heap.size < w3.heap.size := lt_of_heap hp
  have Q3 := Lib.hid (QC.out w3 hb03.out)
  clear b3 ho hp hb0r HCC BR
  generalize wr.heap.size = D at *
  generalize maxN (fun i => (I i).dep) i = mm at *
  generalize (I i).dep = dd at *
  by_cases hlt2 : mm < dd
  case pos =>
    have g1 : decide ((mm : Int) < (dd : Int)) = true := decide_eq_true (by omega)
    have g2 : decide (mm < dd) = true := decide_eq_true hlt2
    rw [if_pos hlt2] at HNX
    clear hlt2
    go_upto_region 8 with (first
        | go_big_skip
        | ((with_reducible refine at_load 24 ?_); refine wpList_load_g ?_ 24 (.tmp 5) ?_ D _ _ _ _ ?_ D3.out Tryd.underlying24 ?_ size_node ?_; rfl; rfl; rfl; rfl)
        | (go_at_call 11; refine (Q3.out).mono ?_; rintro e w4 ⟨rfl, b4⟩; dsimp only; have B4 := Lib.hid (B3.out.trans (b4.mono (by have := B3.out.size; have := HB.out; omega))); have hb4 := Lib.hid (hb03.out.trans (b4.mono hb03.out.size)); have D4 := Lib.hid (bel_keep b4 hD3 D3.out); clear b4))
    have hD4 : D < w4.heap.size := lt_of_heap D4.out
    have Q4 := Lib.hid (QC.out w4 hb4.out)
    clear Q3 D3 B3 hb03
    go_wp2_with (first
        | go_big_skip
        | ((with_reducible refine at_load 24 ?_); refine wpList_load_g ?_ 24 (.tmp 5) ?_ D _ _ _ _ ?_ D4.out Tryd.underlying24 ?_ size_node ?_; rfl; rfl; rfl; rfl)
        | (go_at_call 11; refine (Q4.out).mono ?_; rintro e w5 ⟨rfl, b5⟩; dsimp only; have B5 := Lib.hid (B4.out.trans (b5.mono (by have := B4.out.size; have := HB.out; omega))); clear b5))
    go_roundw
    case rel => exact ⟨i + 1, by go_num, by rw [HNX.out], by omega, B5.out⟩
    case measure => simp [intOf]; omega
  have g1 : decide ((mm : Int) < (dd : Int)) = false := decide_eq_false (by omega)
  have g2 : decide (mm < dd) = false := decide_eq_false hlt2
  rw [if_neg hlt2] at HNX
  clear hlt2 QC
  go_wp2_with (first
        | go_big_skip
        | ((with_reducible refine at_load 24 ?_); refine wpList_load_g ?_ 24 (.tmp 5) ?_ D _ _ _ _ ?_ D3.out Tryd.underlying24 ?_ size_node ?_; rfl; rfl; rfl; rfl)
        | (go_at_call 11; refine (Q3.out).mono ?_; rintro e w4 ⟨rfl, b4⟩; dsimp only; have B4 := Lib.hid (B3.out.trans (b4.mono (by have := B3.out.size; have := HB.out; omega))); have hb4 := Lib.hid (hb03.out.trans (b4.mono hb03.out.size)); clear b4))
  go_roundw
  case rel => exact ⟨i + 1, by go_num, by rw [HNX.out], by omega, B4.out⟩
  case measure => simp [intOf]; omega
end Go.Proofs.YtohemcdcmlngiaaDoor.PR
