/-
  Chapter 4, WirePrints: the reference's Good, Depth. Printed by tools/genpr.py.
-/
import Derived.Test.YtohemcdcmlngiaaDoorPrM
namespace Go.Proofs.YtohemcdcmlngiaaDoor.PR
set_option linter.unusedVariables false
set_option linter.unusedSimpArgs false
open Go.RowKit ML FM

set_option maxHeartbeats 4000000 in
set_option maxRecDepth 100000 in
theorem refGood_any (w0 : World) : ∀ {cs : List Value} {I : Inf} (h : NdAt w0 cs I) (w : World) (hb : Below w0.heap.size w0 w), Calls Tryd.prog 10 #[.agg cs.toArray] w fun e w' => e = .returned (.bool I.good) ∧ Below w.heap.size w w' := by
  intro cs I h
  induction h with
  | mk l t oa n cap C I hn hc hr ih =>
  intro w hb
  show Calls Tryd.prog 10 #[.agg #[.bool l, .string ⟨t.toArray⟩, .slice oa n cap]] w _
  have QI := Lib.hid ih
  have HC := Lib.hid hc
  have HR := Lib.hid hr
  have HB0 := Lib.hid hb
  clear ih hc hr hb
  cases l with
  | true =>
    have hg : ((n : Int) == 0) = decide (n = 0) := by by_cases h : n = 0 <;> simp [h]
    go_enter Tryd.func10, Tryd.ntmps10
    go_upto_region 1 with (fail)
    generalize hB : w.heap.size = B at *
    refine wp_abs (fun w1 => Below B w w1 ∧ w1.heap[B]? = some (.cells #[.bool true, .string ⟨t.toArray⟩, .slice oa n cap] 24 (0, 0))) ⟨by rw [← hB]; exact (Below.refl _ _).alloc (Nat.le_refl _) _, by rw [← hB]; exact heap_at rfl⟩ (fun w1 hw1 => ?_)
    have HB := Lib.hid hB
    have B1 := Lib.hid hw1.1
    have X1 := Lib.hid hw1.2
    have k0 : w1.cell? ⟨B, 0, none⟩ = some (.bool true) := cell_of_row w1 B 0 _ _ _ hw1.2
    have k1 : w1.cell? ⟨B, 1, none⟩ = some (.string ⟨t.toArray⟩) := cell_of_row w1 B 1 _ _ _ hw1.2
    have k2 : w1.cell? ⟨B, 2, none⟩ = some (.slice oa n cap) := cell_of_row w1 B 2 _ _ _ hw1.2
    clear hB hw1
    go_wp2_with fail
    go_ret
    exact ⟨rfl, by rw [HB.out]; exact B1.out⟩
  | false =>
  by_cases ht : t = []
  case neg =>
    have hte : t.isEmpty = false := by cases t with
      | nil => exact absurd rfl ht
      | cons a b => rfl
    have HT := Lib.hid (show decide (t = []) = false from decide_eq_false ht)
    clear ht
    go_enter Tryd.func10, Tryd.ntmps10
    go_upto_region 1 with (fail)
    generalize hB : w.heap.size = B at *
    refine wp_abs (fun w1 => Below B w w1 ∧ w1.heap[B]? = some (.cells #[.bool false, .string ⟨t.toArray⟩, .slice oa n cap] 24 (0, 0))) ⟨by rw [← hB]; exact (Below.refl _ _).alloc (Nat.le_refl _) _, by rw [← hB]; exact heap_at rfl⟩ (fun w1 hw1 => ?_)
    have HB := Lib.hid hB
    have B1 := Lib.hid hw1.1
    have X1 := Lib.hid hw1.2
    have k0 : w1.cell? ⟨B, 0, none⟩ = some (.bool false) := cell_of_row w1 B 0 _ _ _ hw1.2
    have k1 : w1.cell? ⟨B, 1, none⟩ = some (.string ⟨t.toArray⟩) := cell_of_row w1 B 1 _ _ _ hw1.2
    have k2 : w1.cell? ⟨B, 2, none⟩ = some (.slice oa n cap) := cell_of_row w1 B 2 _ _ _ hw1.2
    clear hB hw1
    go_wp2_with fail
    go_ret
    exact ⟨by show _ = Ending.returned (.bool (decide (t = []) && goodN (fun i => (I i).good) n)); rw [HT.out]; rfl, by rw [HB.out]; exact B1.out⟩
  subst ht
  go_enter Tryd.func10, Tryd.ntmps10
  go_upto_region 1 with (fail)
  generalize hB : w.heap.size = B at *
  refine wp_abs (fun w1 => Below B w w1 ∧ w1.heap[B]? = some (.cells #[.bool false, .string ⟨([] : Bytes).toArray⟩, .slice oa n cap] 24 (0, 0))) ⟨by rw [← hB]; exact (Below.refl _ _).alloc (Nat.le_refl _) _, by rw [← hB]; exact heap_at rfl⟩ (fun w1 hw1 => ?_)
  have HB := Lib.hid hB
  have B1 := Lib.hid hw1.1
  have X1 := Lib.hid hw1.2
  have k0 : w1.cell? ⟨B, 0, none⟩ = some (.bool false) := cell_of_row w1 B 0 _ _ _ hw1.2
  have k1 : w1.cell? ⟨B, 1, none⟩ = some (.string ⟨([] : Bytes).toArray⟩) := cell_of_row w1 B 1 _ _ _ hw1.2
  have k2 : w1.cell? ⟨B, 2, none⟩ = some (.slice oa n cap) := cell_of_row w1 B 2 _ _ _ hw1.2
  clear hB hw1
  go_wp2_with fail
  go_loopw [17] (fun v wr => ∃ i : Nat, v = .int .i64 i ∧ i ≤ n ∧ goodN (fun i => (I i).good) i = true ∧ Below B w wr) (fun v _ => n - (intOf v).toNat)
  case atStart => exact ⟨0, rfl, Nat.zero_le _, rfl, B1.out⟩
  case round =>
  clear B1 X1 k0 k1 k2
  obtain ⟨i, rfl, hi, hg, hbr⟩ := hrel
  have HG := Lib.hid hg
  have BR := Lib.hid hbr
  clear hg hbr
  by_cases hlt : i < n
  case neg =>
    obtain rfl : i = n := by omega
    have dk : decide ((i : Int) < (i : Int)) = false := decide_eq_false (by omega)
    have dk2 : decide (i < i) = false := decide_eq_false (by omega)
    go_wp2_with fail
    go_ret
    exact ⟨by show _ = Ending.returned (.bool (decide (([] : Bytes) = []) && goodN (fun i => (I i).good) i)); rw [HG.out]; rfl, by rw [HB.out]; exact BR.out⟩
  have dk : decide ((i : Int) < (n : Int)) = true := decide_eq_true (by omega)
  have dk2 : decide (i < n) = true := decide_eq_true hlt
  have hki : (i : Int) < (n : Int) := by omega
  obtain ⟨a, hoa, hab, hcl, hcc⟩ := HC.out i hlt
  obtain ⟨l2, t2, oa2, n2, cap2, hCi⟩ := (HR.out i hlt).form
  have hb0r : Below w0.heap.size w0 wr := HB0.out.trans (BR.out.mono (by rw [← HB.out]; exact HB0.out.size))
  have HCC := Lib.hid (show ∀ j v, ([.bool l2, .string ⟨t2.toArray⟩, .slice oa2 n2 cap2] : List Value)[j]? = some v → wr.cell? ((a.add (i * 3)).add j) = some v by
    intro j v hv
    rw [hb0r.cell (by rw [addr_block, addr_block]; exact hab)]
    exact hcc j v (by rw [hCi]; exact hv))
  have QC := Lib.hid (QI.out i hlt)
  rw [hCi] at QC
  subst hoa
  clear hab hcl hcc hCi
  go_upto_region 8 with (first
        | go_big_skip
        | ((with_reducible refine at_load 24 ?_); refine wpList_load_at rfl 24 _ rfl (a.add (i * 3)) rfl [.bool l2, .string ⟨t2.toArray⟩, .slice oa2 n2 cap2] _ HCC.out Tryd.underlying24 rfl size_node ?_)
        | (refine wpList_store_whole rfl rfl 24 _ _ rfl wr.heap.size #[.bool false, .string ⟨#[]⟩, .slice none 0 0] #[.bool l2, .string ⟨t2.toArray⟩, .slice oa2 n2 cap2] 24 rfl rfl (heap_at rfl) rfl size_node (three_one ..) ?_; intro w3 ho hp))
  have b3 : Below wr.heap.size wr w3 := bel_only ((Below.refl _ _).alloc (Nat.le_refl _) _) ho (Nat.le_refl _)
  have B3 := Lib.hid (BR.out.trans (b3.mono (by have := BR.out.size; have := HB.out; omega)))
  have hb03 := Lib.hid (hb0r.trans (b3.mono hb0r.size))
  have D3 := Lib.hid hp
  have hD3 : wr.heap.size < w3.heap.size := lt_of_heap hp
  have Q3 := Lib.hid (QC.out w3 hb03.out)
  clear b3 ho hp hb0r HCC QC BR
  generalize wr.heap.size = D at *
  cases hg : (I i).good with
  | true =>
    rw [hg] at Q3
    go_wp2_with (first
        | go_big_skip
        | ((with_reducible refine at_load 24 ?_); refine wpList_load_g ?_ 24 (.tmp 4) ?_ D _ _ _ _ ?_ D3.out Tryd.underlying24 ?_ size_node ?_; rfl; rfl; rfl; rfl)
        | (go_at_call 10; refine (Q3.out).mono ?_; rintro e w4 ⟨rfl, b4⟩; dsimp only; have B4 := Lib.hid (B3.out.trans (b4.mono (by have := B3.out.size; have := HB.out; omega))); clear b4))
    go_roundw
    case rel => exact ⟨i + 1, by go_num, by omega, by show (goodN (fun i => (I i).good) i && (I i).good) = true; rw [HG.out, hg]; rfl, B4.out⟩
    case measure => simp [intOf]; omega
  | false =>
    rw [hg] at Q3
    have HF := Lib.hid (goodN_no (fun i => (I i).good) n i hlt hg)
    clear hg
    go_wp2_with (first
        | go_big_skip
        | ((with_reducible refine at_load 24 ?_); refine wpList_load_g ?_ 24 (.tmp 4) ?_ D _ _ _ _ ?_ D3.out Tryd.underlying24 ?_ size_node ?_; rfl; rfl; rfl; rfl)
        | (go_at_call 10; refine (Q3.out).mono ?_; rintro e w4 ⟨rfl, b4⟩; dsimp only; have B4 := Lib.hid (B3.out.trans (b4.mono (by have := B3.out.size; have := HB.out; omega))); clear b4))
    go_ret
    exact ⟨by show _ = Ending.returned (.bool (decide (([] : Bytes) = []) && goodN (fun i => (I i).good) n)); rw [HF.out]; rfl, by rw [HB.out]; exact B4.out⟩
end Go.Proofs.YtohemcdcmlngiaaDoor.PR
