/-
  Chapter 4, WirePrints: wire.write of a list. Printed by tools/genpr.py.
-/
import Derived.Test.YtohemcdcmlngiaaDoorPrX
namespace Go.Proofs.YtohemcdcmlngiaaDoor.PR
set_option linter.unusedVariables false
set_option linter.unusedSimpArgs false
open Go.RowKit ML FM

set_option maxHeartbeats 8000000 in
set_option maxRecDepth 100000 in
theorem write_any (w0 : World) (hv : PVars w0) : ∀ {cs : List Value} {I : Inf} (h : NdAt w0 cs I) (hg : I.good = true) (hk : I.bulk ≤ 1048576) (above b : Nat) (S : Bytes) (w : World) (hb : Below w0.heap.size w0 w) (hB : Bd w0.heap.size b S w) (ha : above ≤ 12) (hl : S.length ≤ 1048576 + above),
    Calls Tryd.prog 21 #[.pointer (some ⟨b, 0, none⟩), .agg cs.toArray, .int .i64 (above : Int)] w (WrGot I above b w0.heap.size S w) := by
  intro cs I h
  induction h with
  | mk l t oa n cap C I hn hc hr ih =>
  intro hg hk above b S w hb hB ha hl
  show Calls Tryd.prog 21 #[.pointer (some ⟨b, 0, none⟩), .agg #[.bool l, .string ⟨t.toArray⟩, .slice oa n cap], .int .i64 (above : Int)] w _
  have hbk : t.length + 1 + sumN (fun i => (I i).bulk) n ≤ 1048576 := by
    have : (nodeI l t n I).bulk = t.length + 1 + sumN (fun i => (I i).bulk) n := by unfold nodeI; cases l <;> rfl
    omega
  cases l with
  | true => exact writeLeaf_any w0 hv t oa n cap (nodeI true t n I) rfl rfl rfl (by omega) above b S w hb hB ha (by omega)
  | false =>
  have hg2 : (decide (t = []) && goodN (fun i => (I i).good) n) = true := hg
  rw [Bool.and_eq_true] at hg2
  obtain ⟨ht, hgn⟩ := hg2
  have ht := of_decide_eq_true ht
  subst ht
  have hkid : ∀ i, i < n → (I i).bulk ≤ 1048576 := fun i hi => by
    have h1 : (I i).bulk ≤ sumN (fun i => (I i).bulk) n := le_sumN (fun i => (I i).bulk) n i hi
    omega
  have HAL := Lib.hid (fun i (hi : i ≤ n) => (show (accW (fun i => (I i).txt) i).length = 1 + sumN (fun i => (I i).siz) i by
    have h1 : (accW (fun i => (I i).txt) i).length = 1 + (catN (fun i => (I i).txt) i).length := by unfold accW; rw [List.length_append]; rfl
    rw [h1, length_catN]
    congr 1
    exact sumN_congr i (fun j hj => (hr j (by omega)).len)))
  have HOK := Lib.hid (show wrOk (nodeI false [] n I) above S.length ↔ maxN (fun i => (I i).dep) n + 1 + above ≤ 12 ∧ S.length + (2 + sumN (fun i => (I i).siz) n) ≤ 1048576 from Iff.rfl)
  have HTX := Lib.hid (show S ++ (nodeI false [] n I).txt = S ++ accW (fun i => (I i).txt) n ++ [41] from (List.append_assoc _ _ _).symm)
  have HB0 := Lib.hid hb
  have HBD := Lib.hid hB
  have HC := Lib.hid hc
  have HR := Lib.hid hr
  by_cases h12 : above = 12
  case pos =>
    subst h12
    clear ih hg hk hb hB hc hr hgn hkid hbk
    go_enter Tryd.func21, Tryd.ntmps21
    go_upto_region 1 with (fail)
    generalize hB : w.heap.size = B at *
    refine wp_abs (fun w1 => Below B w w1 ∧ w1.heap[B]? = some (.cells #[.bool false, .string ⟨([] : Bytes).toArray⟩, .slice oa n cap] 24 (0, 0))) ⟨by rw [← hB]; exact (Below.refl _ _).alloc (Nat.le_refl _) _, by rw [← hB]; exact heap_at rfl⟩ (fun w1 hw1 => ?_)
    have HB := Lib.hid hB
    have hs0 : w0.heap.size ≤ B := by rw [← hB]; exact HB0.out.size
    have hbb : Below w.heap.size w w1 := hB.symm ▸ hw1.1
    have P1 := Lib.hid (hw1.1.mono hs0)
    have K1 := Lib.hid (KT.of_below hbb)
    have X1 := Lib.hid hw1.2
    have BD1 := Lib.hid (HBD.out.below hbb)
    have hs1 : w0.heap.size ≤ w1.heap.size := by have := hbb.size; omega
    have k0 : w1.cell? ⟨B, 0, none⟩ = some (.bool false) := cell_of_row w1 B 0 _ _ _ hw1.2
    have k1 : w1.cell? ⟨B, 1, none⟩ = some (.string ⟨([] : Bytes).toArray⟩) := cell_of_row w1 B 1 _ _ _ hw1.2
    clear hB hw1 hbb
    go_wp2_with go_big_skip
    exact ⟨rfl, P1.out, K1.out, by rw [if_neg (fun h => by have := (HOK.out.1 h).1; omega)]⟩
  have e1 : ((above + 1 : Nat) : Int) = (above : Int) + 1 := by omega
  have QI := Lib.hid (fun i hi S' (hl' : S'.length ≤ 1048576 + (above + 1)) w hb hB => ih i hi (goodN_at _ n hgn i hi) (hkid i hi) (above + 1) b S' w hb hB (by omega) hl')
  have QB := Lib.hid (fun w h hs => wByte_any w0.heap.size b S 40 40 rfl w h (by omega) hs)
  have QE := Lib.hid (fun w h hs hl => wByte_any w0.heap.size b (S ++ accW (fun i => (I i).txt) n) 41 41 rfl w h hl hs)
  have d0 : ((above : Int) == 12) = false := by rw [beq_eq_false_iff_ne]; omega
  have d00 : (above == 12) = false := by rw [beq_eq_false_iff_ne]; exact h12
  clear ih hg hk hb hB hc hr hgn hkid hbk
  go_enter Tryd.func21, Tryd.ntmps21
  go_upto_region 1 with (fail)
  generalize hB : w.heap.size = B at *
  refine wp_abs (fun w1 => Below B w w1 ∧ w1.heap[B]? = some (.cells #[.bool false, .string ⟨([] : Bytes).toArray⟩, .slice oa n cap] 24 (0, 0))) ⟨by rw [← hB]; exact (Below.refl _ _).alloc (Nat.le_refl _) _, by rw [← hB]; exact heap_at rfl⟩ (fun w1 hw1 => ?_)
  have HB := Lib.hid hB
  have hs0 : w0.heap.size ≤ B := by rw [← hB]; exact HB0.out.size
  have hbb : Below w.heap.size w w1 := hB.symm ▸ hw1.1
  have P1 := Lib.hid (hw1.1.mono hs0)
  have K1 := Lib.hid (KT.of_below hbb)
  have X1 := Lib.hid hw1.2
  have BD1 := Lib.hid (HBD.out.below hbb)
  have hs1 : w0.heap.size ≤ w1.heap.size := by have := hbb.size; omega
  have k0 : w1.cell? ⟨B, 0, none⟩ = some (.bool false) := cell_of_row w1 B 0 _ _ _ hw1.2
  have k1 : w1.cell? ⟨B, 1, none⟩ = some (.string ⟨([] : Bytes).toArray⟩) := cell_of_row w1 B 1 _ _ _ hw1.2
  clear hB hw1 hbb
  go_upto_region 8 with (first
        | go_big_skip
        | (go_at_call 35; refine ((QB.out w1 BD1.out hs1)).mono ?_; rintro e w2 ⟨rfl, d2, b2, kt2⟩; dsimp only; have P2 := Lib.hid (P1.out.trans b2); have K2 := Lib.hid (K1.out.trans kt2); have X2 := Lib.hid (kt2 B _ _ _ (by decide) (by decide) X1.out); have BD2 := Lib.hid d2; have hs2 := Nat.le_trans hs1 b2.size; clear b2 kt2 d2))
  have k2 : w2.cell? ⟨B, 2, none⟩ = some (.slice oa n cap) := cell_of_row w2 B 2 _ _ _ X2.out
  clear k0 k1 P1 K1 X1 BD1 QB d0 d00
  go_wp2_with fail
  go_loopw [30] (fun v wr => ∃ i : Nat, v = .int .i64 i ∧ i ≤ n ∧ Below w0.heap.size w wr ∧ KT w wr ∧ Bd w0.heap.size b (S ++ accW (fun i => (I i).txt) i) wr ∧ maxN (fun i => (I i).dep) i + (above + 1) ≤ 12 ∧ (i = 0 ∨ S.length + (1 + sumN (fun i => (I i).siz) i) ≤ 1048576)) (fun v _ => n - (intOf v).toNat)
  case atStart => exact ⟨0, rfl, Nat.zero_le _, P2.out, K2.out, BD2.out, by show 0 + (above + 1) ≤ 12; omega, .inl rfl⟩
  case round =>
  clear P2 K2 X2 BD2 k2
  obtain ⟨i, rfl, hi, hbr, hkr, hdr, hmr, hlr⟩ := hrel
  have BR := Lib.hid hbr
  have KR := Lib.hid hkr
  have DR := Lib.hid hdr
  have HM := Lib.hid hmr
  have hlS : (S ++ accW (fun i => (I i).txt) i).length ≤ 1048576 + (above + 1) := by
    rw [List.length_append, HAL.out i hi]
    rcases hlr with rfl | h
    · show S.length + (1 + 0) ≤ _; omega
    · omega
  have HLR := Lib.hid hlr
  clear hbr hkr hdr hmr hlr
  by_cases hlt : i < n
  case neg =>
    obtain rfl : i = n := by omega
    have dk : decide ((i : Int) < (i : Int)) = false := decide_eq_false (by omega)
    have dk2 : decide (i < i) = false := decide_eq_false (by omega)
    have hsr : w0.heap.size ≤ wr.heap.size := (HB0.out.trans BR.out).size
    have Q1 := Lib.hid (QE.out wr DR.out hsr (by omega))
    clear QE DR
    go_upto_region 14 with (first
        | go_big_skip
        | (go_at_call 35; refine (Q1.out).mono ?_; rintro e w3 ⟨rfl, d3, b3, kt3⟩; dsimp only; have P3 := Lib.hid (BR.out.trans b3); have K3 := Lib.hid (KR.out.trans kt3); have D3 := Lib.hid d3; clear b3 kt3 d3))
    have QL := Lib.hid (bLen_any _ _ _ w3 D3.out)
    have hlen : (S ++ accW (fun i_1 => (I i_1).txt) i ++ [41]).length = S.length + (2 + sumN (fun i_1 => (I i_1).siz) i) := by
      rw [List.length_append, List.length_append, HAL.out i (Nat.le_refl _), List.length_singleton]; omega
    rw [hlen] at QL
    have HMM := Lib.hid (HM.out)
    clear hlen
    by_cases hok : S.length + (2 + sumN (fun i_1 => (I i_1).siz) i) ≤ 1048576
    case pos =>
      have HW := Lib.hid (HOK.out.2 ⟨by have := HM.out; omega, hok⟩)
      generalize S.length + (2 + sumN (fun i_1 => (I i_1).siz) i) = m at *
      have d1 : decide ((1048576 : Int) < (m : Int)) = false := decide_eq_false (by omega)
      have d2 : decide (1048576 < m) = false := decide_eq_false (by omega)
      go_wp2_with (first
        | go_big_skip
        | (go_at_call 36; refine (QL.out).mono ?_; rintro e w6 ⟨rfl, rfl⟩; dsimp only))
      go_end0
      exact ⟨P3.out, K3.out, by rw [if_pos HW.out]; exact ⟨rfl, by rw [HTX.out]; exact D3.out⟩⟩
    have HW := Lib.hid (fun h => hok (HOK.out.1 h).2)
    generalize S.length + (2 + sumN (fun i_1 => (I i_1).siz) i) = m at *
    have d1 : decide ((1048576 : Int) < (m : Int)) = true := decide_eq_true (by omega)
    have d2 : decide (1048576 < m) = true := decide_eq_true (by omega)
    go_wp2_with (first
        | go_big_skip
        | (go_at_call 36; refine (QL.out).mono ?_; rintro e w6 ⟨rfl, rfl⟩; dsimp only))
    exact ⟨rfl, P3.out, K3.out, by rw [if_neg HW.out]⟩
  have dk : decide ((i : Int) < (n : Int)) = true := decide_eq_true (by omega)
  have dk2 : decide (i < n) = true := decide_eq_true hlt
  have hki : (i : Int) < (n : Int) := by omega
  obtain ⟨a, hoa, hab, hcl, hcc⟩ := HC.out i hlt
  obtain ⟨l2, t2, oa2, n2, cap2, hCi⟩ := (HR.out i hlt).form
  have hb0r : Below w0.heap.size w0 wr := HB0.out.trans BR.out
  have HCC := Lib.hid (show ∀ j v, ([.bool l2, .string ⟨t2.toArray⟩, .slice oa2 n2 cap2] : List Value)[j]? = some v → wr.cell? ((a.add (i * 3)).add j) = some v by
    intro j v hv
    rw [hb0r.cell (by rw [addr_block, addr_block]; exact hab)]
    exact hcc j v (by rw [hCi]; exact hv))
  have QC := Lib.hid (QI.out i hlt (S ++ accW (fun i => (I i).txt) i) hlS)
  rw [hCi, e1] at QC
  subst hoa
  clear hab hcl hcc hCi
  go_upto_region 11 with (first
        | go_big_skip
        | ((with_reducible refine at_load 24 ?_); refine wpList_load_at rfl 24 _ rfl (a.add (i * 3)) rfl [.bool l2, .string ⟨t2.toArray⟩, .slice oa2 n2 cap2] _ HCC.out Tryd.underlying24 rfl size_node ?_)
        | (refine wpList_store_whole rfl rfl 24 _ _ rfl wr.heap.size #[.bool false, .string ⟨#[]⟩, .slice none 0 0] #[.bool l2, .string ⟨t2.toArray⟩, .slice oa2 n2 cap2] 24 rfl rfl (heap_at rfl) rfl size_node (three_one ..) ?_; intro w3 ho hp))
  have b3 : Below wr.heap.size wr w3 := bel_only ((Below.refl _ _).alloc (Nat.le_refl _) _) ho (Nat.le_refl _)
  have hsr : w0.heap.size ≤ wr.heap.size := hb0r.size
  have P3 := Lib.hid (BR.out.trans (b3.mono hsr))
  have K3 := Lib.hid (KR.out.trans (KT.of_below b3))
  have BD3 := Lib.hid (DR.out.below b3)
  have hs3 := Nat.le_trans hsr b3.size
  have hb03 := Lib.hid (hb0r.trans (b3.mono hb0r.size))
  have D3 := Lib.hid hp
  have hD3 : wr.heap.size < w3.heap.size := lt_of_heap hp
  have Q3 := Lib.hid (QC.out w3 hb03.out BD3.out)
  clear b3 ho hp hb0r hsr HCC QC BR KR DR
  generalize wr.heap.size = D at *
  by_cases hck : wrOk (I i) (above + 1) (S ++ accW (fun i => (I i).txt) i).length
  case pos =>
    have hc2 : (I i).dep + (above + 1) ≤ 12 ∧ (S ++ accW (fun i => (I i).txt) i).length + (I i).siz ≤ 1048576 := hck
    rw [List.length_append, HAL.out i hi] at hc2
    have HC2 := Lib.hid hc2
    have HAS := Lib.hid (show S ++ accW (fun i => (I i).txt) (i + 1) = S ++ accW (fun i => (I i).txt) i ++ (I i).txt by rw [accW_succ, List.append_assoc])
    have HCK := Lib.hid hck
    clear hc2 hck
    go_wp2_with (first
        | go_big_skip
        | ((with_reducible refine at_load 24 ?_); refine wpList_load_g ?_ 24 (.tmp 7) ?_ D _ _ _ _ ?_ D3.out Tryd.underlying24 ?_ size_node ?_; rfl; rfl; rfl; rfl)
        | (go_at_call 21; refine (Q3.out).mono ?_; rintro e w4 ⟨b4, kt4, h4⟩; rw [if_pos HCK.out] at h4; obtain ⟨rfl, d4⟩ := h4; dsimp only; have P4 := Lib.hid (P3.out.trans b4); have K4 := Lib.hid (K3.out.trans kt4); have D4 := Lib.hid d4; clear b4 kt4 d4))
    go_roundw
    case rel =>
      refine ⟨i + 1, by go_num, by omega, P4.out, K4.out, by rw [HAS.out]; exact D4.out, ?_, .inr ?_⟩
      · have h1 := HC2.out.1
        have h2 := HM.out
        show (if maxN (fun i => (I i).dep) i < (I i).dep then (I i).dep else maxN (fun i => (I i).dep) i) + (above + 1) ≤ 12
        split <;> omega
      · have h1 := HC2.out.2
        show S.length + (1 + (sumN (fun i => (I i).siz) i + (I i).siz)) ≤ 1048576
        omega
    case measure => simp [intOf]; omega
  have HCK := Lib.hid hck
  have HW := Lib.hid (fun h : wrOk (nodeI false [] n I) above S.length => hck (by
    obtain ⟨h1, h2⟩ := HOK.out.1 h
    have h3 : (I i).dep ≤ maxN (fun i => (I i).dep) n := le_maxN (fun i => (I i).dep) n i hlt
    have h4 := sumN_mono (fun i => (I i).siz) n (i + 1) hlt
    have h5 : sumN (fun i => (I i).siz) (i + 1) = sumN (fun i => (I i).siz) i + (I i).siz := rfl
    refine ⟨by omega, ?_⟩
    rw [List.length_append, HAL.out i hi]
    omega))
  clear hck
  go_wp2_with (first
        | go_big_skip
        | ((with_reducible refine at_load 24 ?_); refine wpList_load_g ?_ 24 (.tmp 7) ?_ D _ _ _ _ ?_ D3.out Tryd.underlying24 ?_ size_node ?_; rfl; rfl; rfl; rfl)
        | (go_at_call 21; refine (Q3.out).mono ?_; rintro e w4 ⟨b4, kt4, h4⟩; rw [if_neg HCK.out] at h4; subst h4; dsimp only; have P4 := Lib.hid (P3.out.trans b4); have K4 := Lib.hid (K3.out.trans kt4); clear b4 kt4))
  exact ⟨rfl, P4.out, K4.out, by rw [if_neg HW.out]⟩
end Go.Proofs.YtohemcdcmlngiaaDoor.PR
