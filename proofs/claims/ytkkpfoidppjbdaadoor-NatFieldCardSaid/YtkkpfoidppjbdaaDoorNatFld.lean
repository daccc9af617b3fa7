/-
  NatField: the walk.
-/
import Derived.Test.YtkkpfoidppjbdaaDoorNField2
import Derived.Test.YtkkpfoidppjbdaaDoorPlan
namespace Go.Proofs.YtkkpfoidppjbdaaDoor
set_option linter.unusedVariables false
set_option linter.unusedSimpArgs false
open Go.RowKit ML FM ND FRP

/-- a callee that leaves alone what was there: told of the world at the start -/
theorem acc' {P : Program} {f : FuncId} {args : Array Value} {v : Value} {B : Nat} {w0 : World} (hB : B ≤ w0.heap.size)
    (q : ∀ W, Calls P f args W fun e w' => e = .returned v ∧ Below W.heap.size W w') : ∀ W, Below B w0 W → Calls P f args W fun e w' => e = .returned v ∧ Below B w0 w' :=
  fun W h => (q W).mono fun e w' ⟨he, hb⟩ => ⟨he, h.trans (hb.mono (Nat.le_trans hB h.size))⟩
theorem fracs3 (A1 A2 B1 B2 C1 C2 : Bytes) : ∀ i (h : i < [(A1, A2), (B1, B2), (C1, C2)].length), (#[Value.string ⟨A1.toArray⟩, Value.string ⟨A2.toArray⟩, Value.string ⟨B1.toArray⟩, Value.string ⟨B2.toArray⟩, Value.string ⟨C1.toArray⟩, Value.string ⟨C2.toArray⟩] : Array Value)[i * 2]? = some (.string ⟨([(A1, A2), (B1, B2), (C1, C2)][i].1).toArray⟩) ∧
    (#[Value.string ⟨A1.toArray⟩, Value.string ⟨A2.toArray⟩, Value.string ⟨B1.toArray⟩, Value.string ⟨B2.toArray⟩, Value.string ⟨C1.toArray⟩, Value.string ⟨C2.toArray⟩] : Array Value)[i * 2 + 1]? = some (.string ⟨([(A1, A2), (B1, B2), (C1, C2)][i].2).toArray⟩) := by
  intro i h
  have : i < 3 := h
  match i, h with
  | 0, _ => exact ⟨rfl, rfl⟩
  | 1, _ => exact ⟨rfl, rfl⟩
  | 2, _ => exact ⟨rfl, rfl⟩
theorem txt0 : ([48] : Bytes) = strD 0 := rfl
theorem txt1 : ([49] : Bytes) = strD 1 := by
  unfold strD digB
  rw [if_neg (by decide), dig_pos (by decide)]
  simp [dig_zero]
theorem txt2 : ([50] : Bytes) = strD 2 := by
  unfold strD digB
  rw [if_neg (by decide), dig_pos (by decide)]
  simp [dig_zero]
theorem one_ok : FOk 4000 ⟨1, 1⟩ := ⟨⟨by decide, by decide⟩, (NB.one 0).up (by decide), (NB.one 0).up (by decide)⟩
theorem zero_ok : FOk 4000 ⟨0, 1⟩ := ⟨⟨by decide, by decide⟩, NB.zero _, (NB.one 0).up (by decide)⟩
set_option maxHeartbeats 16000000 in
set_option maxRecDepth 100000 in
theorem natField_any (A1 A2 B1 B2 C1 C2 : Bytes) (w : World) (h1 : A1.length < 140737488355328) (h2 : A2.length < 140737488355328) (h3 : B1.length < 140737488355328) (h4 : B2.length < 140737488355328) (h5 : C1.length < 140737488355328) (h6 : C2.length < 140737488355328) :
    Calls Tryd.prog 8 #[.agg #[.string ⟨A1.toArray⟩, .string ⟨A2.toArray⟩], .agg #[.string ⟨B1.toArray⟩, .string ⟨B2.toArray⟩], .agg #[.string ⟨C1.toArray⟩, .string ⟨C2.toArray⟩]] w fun e w' => e = .returned (.bool true) ∧ Below w.heap.size w w' := by
  have QG := Lib.hid (fun W d (h : W.heap[d]? = some (.cells #[.string ⟨A1.toArray⟩, .string ⟨A2.toArray⟩, .string ⟨B1.toArray⟩, .string ⟨B2.toArray⟩, .string ⟨C1.toArray⟩, .string ⟨C2.toArray⟩] 45 (0, 0))) =>
    (show Calls Tryd.prog 43 #[.slice (some ⟨d, 0, none⟩) 3 3, .int .i64 600] W fun e w' => e = .returned (.bool (goodB [(A1, A2), (B1, B2), (C1, C2)] 600)) ∧ Below W.heap.size W w' from
      lawGood_any [(A1, A2), (B1, B2), (C1, C2)] 600 d 45 (0, 0) _ 3 W h (fracs3 A1 A2 B1 B2 C1 C2) (fun x hx => by
        simp only [List.mem_cons, List.not_mem_nil, or_false] at hx
        rcases hx with rfl | rfl | rfl
        · exact ⟨h1, h2⟩
        · exact ⟨h3, h4⟩
        · exact ⟨h5, h6⟩) (show 3 < 1099511627776 by decide)))
  have HA := Lib.hid size_api
  clear h1 h2 h3 h4 h5 h6
  cases hg : goodB [(A1, A2), (B1, B2), (C1, C2)] 600 with
  | false =>
    rw [hg] at QG
    clear hg
    go_enter Tryd.func8, Tryd.ntmps8
    go_upto_region 1 with (fail)
    have BX := Box3.mk' w #[.string ⟨A1.toArray⟩, .string ⟨A2.toArray⟩] #[.string ⟨B1.toArray⟩, .string ⟨B2.toArray⟩] #[.string ⟨C1.toArray⟩, .string ⟨C2.toArray⟩] 45 45
    generalize hB : w.heap.size = B at *
    refine wp_abs (fun w1 => Box3 B w w1 #[.string ⟨A1.toArray⟩, .string ⟨A2.toArray⟩] #[.string ⟨B1.toArray⟩, .string ⟨B2.toArray⟩] #[.string ⟨C1.toArray⟩, .string ⟨C2.toArray⟩] 45 45) BX (fun w1 B1' => ?_)
    have HB := Lib.hid hB
    have HB1 := Lib.hid B1'
    have hBs1 : B + 1 + 1 < w1.heap.size := lt_of_heap B1'.z
    have c1 := cell_of_row w1 B 0 _ _ _ B1'.x
    have c2 := cell_of_row w1 B 1 _ _ _ B1'.x
    have c3 := cell_of_row w1 (B + 1) 0 _ _ _ B1'.y
    have c4 := cell_of_row w1 (B + 1) 1 _ _ _ B1'.y
    have c5 := cell_of_row w1 (B + 1 + 1) 0 _ _ _ B1'.z
    have c6 := cell_of_row w1 (B + 1 + 1) 1 _ _ _ B1'.z
    clear BX hB B1'
    go_wp2_with (go_at_call 43; refine (QG.out _ w1.heap.size (heap_at rfl)).mono ?_; rintro e w2 ⟨rfl, bel2⟩)
    go_ret
    exact ⟨rfl, by rw [HB.out]; exact (HB1.out.bel.alloc (by omega) _).trans (bel2.mono (by simp; omega))⟩
  | true =>
    obtain ⟨x, hx1, hx2, ox⟩ := goodB_yes hg (N := A1) (D := A2) (by simp)
    obtain ⟨y, hy1, hy2, oy⟩ := goodB_yes hg (N := B1) (D := B2) (by simp)
    obtain ⟨z, hz1, hz2, oz⟩ := goodB_yes hg (N := C1) (D := C2) (by simp)
    rw [hg] at QG
    clear hg
    have kx := ox.up (show 600 ≤ 4000 by decide)
    have ky := oy.up (show 600 ≤ 4000 by decide)
    have kz := oz.up (show 600 ≤ 4000 by decide)
    have ks := (ox.add oy).up (show 2 * (600 + 600) + 1 ≤ 4000 by decide)
    have ku := (oy.add oz).up (show 2 * (600 + 600) + 1 ≤ 4000 by decide)
    have kg := (ox.add oz).up (show 2 * (600 + 600) + 1 ≤ 4000 by decide)
    have km := (ox.mul oy).up (show 600 + 600 ≤ 4000 by decide)
    have kn := (oy.mul oz).up (show 600 + 600 ≤ 4000 by decide)
    have ko := (ox.mul oz).up (show 600 + 600 ≤ 4000 by decide)
    obtain ⟨S1, hs1⟩ : ∃ F, F = strD (x.add y).n := ⟨_, rfl⟩
    obtain ⟨S2, hs2⟩ : ∃ F, F = strD (x.add y).d := ⟨_, rfl⟩
    obtain ⟨T1, ht1⟩ : ∃ F, F = strD ((x.add y).add z).n := ⟨_, rfl⟩
    obtain ⟨T2, ht2⟩ : ∃ F, F = strD ((x.add y).add z).d := ⟨_, rfl⟩
    obtain ⟨U1, hu1⟩ : ∃ F, F = strD (y.add z).n := ⟨_, rfl⟩
    obtain ⟨U2, hu2⟩ : ∃ F, F = strD (y.add z).d := ⟨_, rfl⟩
    obtain ⟨M1, hm1⟩ : ∃ F, F = strD (x.mul y).n := ⟨_, rfl⟩
    obtain ⟨M2, hm2⟩ : ∃ F, F = strD (x.mul y).d := ⟨_, rfl⟩
    obtain ⟨P1, hp1⟩ : ∃ F, F = strD ((x.mul y).mul z).n := ⟨_, rfl⟩
    obtain ⟨P2, hp2⟩ : ∃ F, F = strD ((x.mul y).mul z).d := ⟨_, rfl⟩
    obtain ⟨N1, hn1⟩ : ∃ F, F = strD (y.mul z).n := ⟨_, rfl⟩
    obtain ⟨N2, hn2⟩ : ∃ F, F = strD (y.mul z).d := ⟨_, rfl⟩
    obtain ⟨V1, hv1⟩ : ∃ F, F = strD (x.mul (y.add z)).n := ⟨_, rfl⟩
    obtain ⟨V2, hv2⟩ : ∃ F, F = strD (x.mul (y.add z)).d := ⟨_, rfl⟩
    obtain ⟨O1, ho1⟩ : ∃ F, F = strD (x.mul z).n := ⟨_, rfl⟩
    obtain ⟨O2, ho2⟩ : ∃ F, F = strD (x.mul z).d := ⟨_, rfl⟩
    obtain ⟨G1, hg1⟩ : ∃ F, F = strD (x.add z).n := ⟨_, rfl⟩
    obtain ⟨G2, hg2⟩ : ∃ F, F = strD (x.add z).d := ⟨_, rfl⟩
    have q1 := Lib.hid (fun (w4 : World) => acc' (w0 := w4) (Nat.le_refl _) (fun w => lawFTimes_any _ _ _ _ _ _ w (timesT (x := x) (y := (⟨1, 1⟩ : Fr)) (R := A1) (S := A2) hx1 hx2 txt1 txt1 (by rw [Fr.mul_one ox.ok]; exact hx1) (by rw [Fr.mul_one ox.ok]; exact hx2) kx one_ok)))
    have q2 := Lib.hid (fun (w4 : World) => acc' (w0 := w4) (Nat.le_refl _) (fun w => lawFPlus_any _ _ _ _ _ _ w (plusT (x := x) (y := (⟨0, 1⟩ : Fr)) (R := A1) (S := A2) hx1 hx2 txt0 txt1 (by rw [Fr.add_zero ox.ok]; exact hx1) (by rw [Fr.add_zero ox.ok]; exact hx2) kx zero_ok)))
    have q3 := Lib.hid (fun (w4 : World) => acc' (w0 := w4) (Nat.le_refl _) (fun w => lawFPlus_any _ _ _ _ _ _ w (plusT (x := (⟨1, 1⟩ : Fr)) (y := (⟨1, 1⟩ : Fr)) (R := [50]) (S := [49]) txt1 txt1 txt1 txt1 (by rw [Fr.two]; exact txt2) (by rw [Fr.two]; exact txt1) one_ok one_ok)))
    have q4 := Lib.hid (fun (w4 : World) => acc' (w0 := w4) (Nat.le_refl _) (fun w => lawFPlus_any _ _ _ _ _ _ w (plusT (x := x) (y := y) (R := S1) (S := S2) hx1 hx2 hy1 hy2 hs1 hs2 kx ky)))
    have q5 := Lib.hid (fun (w4 : World) => acc' (w0 := w4) (Nat.le_refl _) (fun w => lawFPlus_any _ _ _ _ _ _ w (plusT (x := (x.add y)) (y := z) (R := T1) (S := T2) hs1 hs2 hz1 hz2 ht1 ht2 ks kz)))
    have q6 := Lib.hid (fun (w4 : World) => acc' (w0 := w4) (Nat.le_refl _) (fun w => lawFPlus_any _ _ _ _ _ _ w (plusT (x := y) (y := z) (R := U1) (S := U2) hy1 hy2 hz1 hz2 hu1 hu2 ky kz)))
    have q7 := Lib.hid (fun (w4 : World) => acc' (w0 := w4) (Nat.le_refl _) (fun w => lawFPlus_any _ _ _ _ _ _ w (plusT (x := x) (y := (y.add z)) (R := T1) (S := T2) hx1 hx2 hu1 hu2 (by rw [← Fr.add_assoc ox.ok oy.ok oz.ok]; exact ht1) (by rw [← Fr.add_assoc ox.ok oy.ok oz.ok]; exact ht2) kx ku)))
    have q8 := Lib.hid (fun (w4 : World) => acc' (w0 := w4) (Nat.le_refl _) (fun w => lawFTimes_any _ _ _ _ _ _ w (timesT (x := x) (y := y) (R := M1) (S := M2) hx1 hx2 hy1 hy2 hm1 hm2 kx ky)))
    have q9 := Lib.hid (fun (w4 : World) => acc' (w0 := w4) (Nat.le_refl _) (fun w => lawFTimes_any _ _ _ _ _ _ w (timesT (x := (x.mul y)) (y := z) (R := P1) (S := P2) hm1 hm2 hz1 hz2 hp1 hp2 km kz)))
    have q10 := Lib.hid (fun (w4 : World) => acc' (w0 := w4) (Nat.le_refl _) (fun w => lawFTimes_any _ _ _ _ _ _ w (timesT (x := y) (y := z) (R := N1) (S := N2) hy1 hy2 hz1 hz2 hn1 hn2 ky kz)))
    have q11 := Lib.hid (fun (w4 : World) => acc' (w0 := w4) (Nat.le_refl _) (fun w => lawFTimes_any _ _ _ _ _ _ w (timesT (x := x) (y := (y.mul z)) (R := P1) (S := P2) hx1 hx2 hn1 hn2 (by rw [← Fr.mul_assoc ox.ok oy.ok oz.ok]; exact hp1) (by rw [← Fr.mul_assoc ox.ok oy.ok oz.ok]; exact hp2) kx kn)))
    have q12 := Lib.hid (fun (w4 : World) => acc' (w0 := w4) (Nat.le_refl _) (fun w => lawFTimes_any _ _ _ _ _ _ w (timesT (x := x) (y := (y.add z)) (R := V1) (S := V2) hx1 hx2 hu1 hu2 hv1 hv2 kx ku)))
    have q13 := Lib.hid (fun (w4 : World) => acc' (w0 := w4) (Nat.le_refl _) (fun w => lawFTimes_any _ _ _ _ _ _ w (timesT (x := x) (y := z) (R := O1) (S := O2) hx1 hx2 hz1 hz2 ho1 ho2 kx kz)))
    have q14 := Lib.hid (fun (w4 : World) => acc' (w0 := w4) (Nat.le_refl _) (fun w => lawFPlus_any _ _ _ _ _ _ w (plusT (x := (x.mul y)) (y := (x.mul z)) (R := V1) (S := V2) hm1 hm2 ho1 ho2 (by rw [← Fr.mul_add ox.ok oy.ok oz.ok]; exact hv1) (by rw [← Fr.mul_add ox.ok oy.ok oz.ok]; exact hv2) km ko)))
    have q15 := Lib.hid (fun (w4 : World) => acc' (w0 := w4) (Nat.le_refl _) (fun w => lawFPlus_any _ _ _ _ _ _ w (plusT (x := y) (y := x) (R := S1) (S := S2) hy1 hy2 hx1 hx2 (by rw [Fr.add_comm y x]; exact hs1) (by rw [Fr.add_comm y x]; exact hs2) ky kx)))
    have q16 := Lib.hid (fun (w4 : World) => acc' (w0 := w4) (Nat.le_refl _) (fun w => lawFTimes_any _ _ _ _ _ _ w (timesT (x := y) (y := x) (R := M1) (S := M2) hy1 hy2 hx1 hx2 (by rw [Fr.mul_comm y x]; exact hm1) (by rw [Fr.mul_comm y x]; exact hm2) ky kx)))
    have q17 := Lib.hid (fun (w4 : World) => acc' (w0 := w4) (Nat.le_refl _) (minusT (x := (x.add y)) (y := y) (R := A1) (S := A2) hs1 hs2 hy1 hy2 (by rw [(Fr.add_sub ox.ok oy.ok).2]; exact hx1) (by rw [(Fr.add_sub ox.ok oy.ok).2]; exact hx2) ks ky (Fr.add_sub ox.ok oy.ok).1))
    have q19 := Lib.hid (fun (w4 : World) => acc' (w0 := w4) (Nat.le_refl _) (fun w => lawFPlus_any _ _ _ _ _ _ w (plusT (x := x) (y := z) (R := G1) (S := G2) hx1 hx2 hz1 hz2 hg1 hg2 kx kz)))
    have q18 := Lib.hid (fun (hy0 : 0 < y.n) => fun (w4 : World) => acc' (w0 := w4) (Nat.le_refl _) (overT (x := (x.mul y)) (y := y) (R := A1) (S := A2) hm1 hm2 hy1 hy2 (by rw [Fr.mul_div ox.ok oy.ok hy0]; exact hx1) (by rw [Fr.mul_div ox.ok oy.ok hy0]; exact hx2) km ky hy0))
    have q20 := Lib.hid (fun (w4 : World) => acc' (w0 := w4) (Nat.le_refl _) (orderT (x := x) (y := y) hx1 hx2 hy1 hy2 kx ky))
    have q21 := Lib.hid (fun (w4 : World) => acc' (w0 := w4) (Nat.le_refl _) (orderT (x := x.add z) (y := y.add z) hg1 hg2 hu1 hu2 kg ku))
    have hcz : NL.cmpI ((x.add z).n * (y.add z).d) ((y.add z).n * (x.add z).d) = NL.cmpI (x.n * y.d) (y.n * x.d) := by
      obtain ⟨k, m, hk, hm, t, e1, e2⟩ := Fr.order_add ox.ok oy.ok oz.ok
      generalize (x.add z).n * (y.add z).d = a at *
      generalize (y.add z).n * (x.add z).d = b at *
      generalize x.n * y.d = c at *
      generalize y.n * x.d = d at *
      rcases Nat.lt_trichotomy c d with h | h | h
      · have h2 : k * c < k * d := Nat.mul_lt_mul_of_pos_left h hk
        have h3 : m * a < m * b := by omega
        rw [NL.cmpI_lt h, NL.cmpI_lt (Nat.lt_of_mul_lt_mul_left h3)]
      · subst h
        have h3 : m * a = m * b := by omega
        rw [Nat.eq_of_mul_eq_mul_left hm h3]; rw [NL.cmpI_eq, NL.cmpI_eq]
      · have h2 : k * d < k * c := Nat.mul_lt_mul_of_pos_left h hk
        have h3 : m * b < m * a := by omega
        rw [NL.cmpI_gt h, NL.cmpI_gt (Nat.lt_of_mul_lt_mul_left h3)]
    rw [hcz] at q21
    have hsame : Hid ((NL.cmpI (x.n * y.d) (y.n * x.d) = 0 ∧ A1 = B1 ∧ A2 = B2) ∨ (NL.cmpI (x.n * y.d) (y.n * x.d) ≠ 0 ∧ ¬ (A1 = B1 ∧ A2 = B2))) := Lib.hid (by
      by_cases he : x.n * y.d = y.n * x.d
      · obtain ⟨f1, f2⟩ := cop_eq ox.ok.2 oy.ok.2 ox.ok.1 oy.ok.1 he
        exact .inl ⟨by rw [he, NL.cmpI_eq], by rw [hx1, hy1, f1], by rw [hx2, hy2, f2]⟩
      · refine .inr ⟨?_, fun h => ?_⟩
        · unfold NL.cmpI
          rw [if_neg he]
          split <;> decide
        · have f1 : x.n = y.n := by rw [← dv_strD x.n, ← dv_strD y.n, ← hx1, ← hy1, h.1]
          have f2 : x.d = y.d := by rw [← dv_strD x.d, ← dv_strD y.d, ← hx2, ← hy2, h.2]
          rw [f1, f2] at he
          exact he rfl)
    have hyz : Hid ((B1 = [48] ∧ True) ∨ (¬ B1 = [48] ∧ 0 < y.n)) := Lib.hid (by
      by_cases h0 : y.n = 0
      · exact .inl ⟨by rw [hy1, h0]; rfl, trivial⟩
      · refine .inr ⟨fun h => h0 ?_, by omega⟩
        have : dv B1 = y.n := by rw [hy1, dv_strD]
        rw [h] at this
        exact this.symm)
    clear hcz
    generalize NL.cmpI (x.n * y.d) (y.n * x.d) = c at *
    clear hx1 hx2 hy1 hy2 hz1 hz2 hs1 hs2 ht1 ht2 hu1 hu2 hm1 hm2 hp1 hp2 hn1 hn2 hv1 hv2 ho1 ho2 hg1 hg2 ox oy oz kx ky kz ks ku kg km kn ko
    go_enter Tryd.func8, Tryd.ntmps8
    go_upto_region 1 with (fail)
    have BX := Box3.mk' w #[.string ⟨A1.toArray⟩, .string ⟨A2.toArray⟩] #[.string ⟨B1.toArray⟩, .string ⟨B2.toArray⟩] #[.string ⟨C1.toArray⟩, .string ⟨C2.toArray⟩] 45 45
    generalize hB : w.heap.size = B at *
    refine wp_abs (fun w1 => Box3 B w w1 #[.string ⟨A1.toArray⟩, .string ⟨A2.toArray⟩] #[.string ⟨B1.toArray⟩, .string ⟨B2.toArray⟩] #[.string ⟨C1.toArray⟩, .string ⟨C2.toArray⟩] 45 45) BX (fun w1 B1' => ?_)
    have HB := Lib.hid hB
    have HB1 := Lib.hid B1'
    have hBs1 : B + 1 + 1 < w1.heap.size := lt_of_heap B1'.z
    have c1 := cell_of_row w1 B 0 _ _ _ B1'.x
    have c2 := cell_of_row w1 B 1 _ _ _ B1'.x
    have c3 := cell_of_row w1 (B + 1) 0 _ _ _ B1'.y
    have c4 := cell_of_row w1 (B + 1) 1 _ _ _ B1'.y
    have c5 := cell_of_row w1 (B + 1 + 1) 0 _ _ _ B1'.z
    have c6 := cell_of_row w1 (B + 1 + 1) 1 _ _ _ B1'.z
    clear BX hB B1'
    go_upto_region 3 with (go_at_call 43; refine (QG.out _ w1.heap.size (heap_at rfl)).mono ?_; rintro e w2 ⟨rfl, bel2⟩)
    have b2 : Below w1.heap.size w1 w2 := ((Below.refl _ _).alloc (Nat.le_refl _) _).trans (bel2.mono (by simp))
    have HB2 := Lib.hid (HB1.out.keep (by omega) b2)
    have hBs2 : B + 1 + 1 < w2.heap.size := lt_of_heap HB2.out.z
    clear c1 c2 c3 c4 c5 c6 bel2 b2 HB1 hBs1 QG
    go_upto_region 4 with (refine wpList_store_whole rfl rfl 45 _ _ rfl w2.heap.size #[.string ⟨#[]⟩, .string ⟨#[]⟩] #[.string ⟨#[49]⟩, .string ⟨#[49]⟩] 45 rfl rfl (heap_at rfl) rfl HA.out (two_strings _ _) ?_; intro w3 ho hp; have HO3 := Lib.hid ho; have HP3 := Lib.hid hp; clear ho hp)
    have b3 : Below w2.heap.size w2 w3 := bel_only ((Below.refl _ _).alloc (Nat.le_refl _) _) HO3.out (Nat.le_refl _)
    have B3' := HB2.out.keep (by omega) b3
    generalize w2.heap.size = E at *
    refine wp_abs (fun w4 => Box3 B w w4 #[.string ⟨A1.toArray⟩, .string ⟨A2.toArray⟩] #[.string ⟨B1.toArray⟩, .string ⟨B2.toArray⟩] #[.string ⟨C1.toArray⟩, .string ⟨C2.toArray⟩] 45 45 ∧ w4.heap[E]? = some (.cells #[.string ⟨#[49]⟩, .string ⟨#[49]⟩] 45 (0, 0))) ⟨B3', HP3.out⟩ (fun w4 hw4 => ?_)
    have HB4 := Lib.hid hw4.1
    have HE4 := Lib.hid hw4.2
    obtain ⟨M, hM⟩ : ∃ M, M = w4.heap.size := ⟨_, rfl⟩
    have d1 : B < M := by rw [hM]; exact lt_of_heap hw4.1.x
    have d2 : B + 1 < M := by rw [hM]; exact lt_of_heap hw4.1.y
    have d3 : B + 1 + 1 < M := by rw [hM]; exact lt_of_heap hw4.1.z
    have d4 : E < M := by rw [hM]; exact lt_of_heap hw4.2
    have c1 := cell_of_row w4 B 0 _ _ _ hw4.1.x
    have c2 := cell_of_row w4 B 1 _ _ _ hw4.1.x
    have c3 := cell_of_row w4 (B + 1) 0 _ _ _ hw4.1.y
    have c4 := cell_of_row w4 (B + 1) 1 _ _ _ hw4.1.y
    have c5 := cell_of_row w4 (B + 1 + 1) 0 _ _ _ hw4.1.z
    have c6 := cell_of_row w4 (B + 1 + 1) 1 _ _ _ hw4.1.z
    have c7 := cell_of_row w4 E 0 _ _ _ hw4.2
    have c8 := cell_of_row w4 E 1 _ _ _ hw4.2
    clear hw4 B3' b3 HO3 HP3 HB2 hBs2
    have r1 := Lib.hid (q1.out w4)
    rw [← hM] at r1
    clear q1
    have r2 := Lib.hid (q2.out w4)
    rw [← hM] at r2
    clear q2
    have r3 := Lib.hid (q3.out w4)
    rw [← hM] at r3
    clear q3
    have r4 := Lib.hid (q4.out w4)
    rw [← hM] at r4
    have r5 := Lib.hid (q5.out w4)
    rw [← hM] at r5
    clear q5
    have r6 := Lib.hid (q6.out w4)
    rw [← hM] at r6
    have r7 := Lib.hid (q7.out w4)
    rw [← hM] at r7
    clear q7
    have r8 := Lib.hid (q8.out w4)
    rw [← hM] at r8
    have r9 := Lib.hid (q9.out w4)
    rw [← hM] at r9
    clear q9
    have r10 := Lib.hid (q10.out w4)
    rw [← hM] at r10
    clear q10
    have r11 := Lib.hid (q11.out w4)
    rw [← hM] at r11
    clear q11
    have r12 := Lib.hid (q12.out w4)
    rw [← hM] at r12
    clear q12
    have r13 := Lib.hid (q13.out w4)
    rw [← hM] at r13
    clear q13
    have r14 := Lib.hid (q14.out w4)
    rw [← hM] at r14
    clear q14
    have r15 := Lib.hid (q15.out w4)
    rw [← hM] at r15
    clear q15
    have r16 := Lib.hid (q16.out w4)
    rw [← hM] at r16
    clear q16
    have r17 := Lib.hid (q17.out w4)
    rw [← hM] at r17
    have r19 := Lib.hid (q19.out w4)
    rw [← hM] at r19
    have r20 := Lib.hid (q20.out w4)
    rw [← hM] at r20
    have r21 := Lib.hid (q21.out w4)
    rw [← hM] at r21
    have HM := Lib.hid hM
    have hb0 : Below M w4 w4 := Below.refl _ _
    clear hM
    have hd : Below M w4 w4.drew := (by assumption : Below M w4 w4).drew
    refine Seg.wp_region_segs (fun w' => ∃ x : BelowT M w4, w' = x.w) [([0, 1, 3], 2), ([4, 5, 6, 7, 9], 8), ([10, 11, 12, 13, 14, 16], 15)] [] 17 (by kernel_rfl) (by kernel_rfl) (fun _ _ d _ _ h => by cases d <;> exact h) (⟨⟨_, hd⟩, rfl⟩) ?_
    simp only [List.map_cons, List.map_nil, Seg.opAt, List.drop_succ_cons, List.drop_zero, Seg.wpSegs, Array.getD_eq_getD_getElem?, List.getElem?_toArray, List.getElem?_cons_succ, List.getElem?_cons_zero, Option.getD_some]
    repeat (any_goals (first | go_big_quiet_step (fail) | quiet_step (fail)))
    refine wpQuiet_nil ?_
    intro K hK
    simp only [Region.wanted, if_true]
    go_wp2_with (go_at_call 44; refine (r1.out _ (by assumption)).mono ?_; rintro e w5 ⟨rfl, hb5⟩)
    refine hK _ _ ⟨⟨_, hb5⟩, rfl⟩ ?_
    clear hK K
    repeat (any_goals (first | go_big_quiet_step (fail) | quiet_step (fail)))
    refine wpQuiet_nil ?_
    intro K hK
    first | go_simp | skip
    go_wp2_with (go_at_call 45; refine (r2.out _ (by assumption)).mono ?_; rintro e w6 ⟨rfl, hb6⟩)
    refine hK _ _ ⟨⟨_, hb6⟩, rfl⟩ ?_
    clear hK K
    repeat (any_goals (first | go_big_quiet_step (fail) | quiet_step (fail)))
    refine wpQuiet_nil ?_
    intro K hK
    first | go_simp | skip
    go_wp2_with (go_at_call 45; refine (r3.out _ (by assumption)).mono ?_; rintro e w7 ⟨rfl, hb7⟩)
    refine hK _ _ ⟨⟨_, hb7⟩, rfl⟩ ?_
    clear hK K
    repeat (any_goals (first | go_big_quiet_step (fail) | quiet_step (fail)))
    refine wpQuiet_nil ?_

    go_upto_region 6 with (fail)

    have hd : Below M w4 w7.drew := (by assumption : Below M w4 w7).drew
    refine Seg.wp_region_segs (fun w' => ∃ x : BelowT M w4, w' = x.w) [([0, 1, 3, 5, 6, 7], 2), ([], 4), ([], 8), ([], 9), ([10, 11, 12, 13, 15, 17, 18, 19], 14), ([], 16), ([], 20), ([], 21), ([22, 23, 24, 25, 26, 27, 30, 31, 33, 34], 28), ([], 29), ([], 32)] [] 35 (by kernel_rfl) (by kernel_rfl) (fun _ _ d _ _ h => by cases d <;> exact h) (⟨⟨_, hd⟩, rfl⟩) ?_
    simp only [List.map_cons, List.map_nil, Seg.opAt, List.drop_succ_cons, List.drop_zero, Seg.wpSegs, Array.getD_eq_getD_getElem?, List.getElem?_toArray, List.getElem?_cons_succ, List.getElem?_cons_zero, Option.getD_some]
    repeat (any_goals (first | go_big_quiet_step (fail) | quiet_step (fail)))
    refine wpQuiet_nil ?_
    intro K hK
    simp only [Region.wanted, if_true]
    go_wp2_with (go_at_call 45; refine (r4.out _ (by assumption)).mono ?_; rintro e w9 ⟨rfl, hb9⟩)
    refine hK _ _ ⟨⟨_, hb9⟩, rfl⟩ ?_
    clear hK K
    repeat (any_goals (first | go_big_quiet_step (fail) | quiet_step (fail)))
    refine wpQuiet_nil ?_
    intro K hK
    first | go_simp | skip
    go_wp2_with (go_at_call 45; refine (r5.out _ (by assumption)).mono ?_; rintro e w10 ⟨rfl, hb10⟩)
    refine hK _ _ ⟨⟨_, hb10⟩, rfl⟩ ?_
    clear hK K
    repeat (any_goals (first | go_big_quiet_step (fail) | quiet_step (fail)))
    refine wpQuiet_nil ?_
    intro K hK
    first | go_simp | skip
    go_wp2_with (go_at_call 45; refine (r6.out _ (by assumption)).mono ?_; rintro e w11 ⟨rfl, hb11⟩)
    refine hK _ _ ⟨⟨_, hb11⟩, rfl⟩ ?_
    clear hK K
    repeat (any_goals (first | go_big_quiet_step (fail) | quiet_step (fail)))
    refine wpQuiet_nil ?_
    intro K hK
    first | go_simp | skip
    go_wp2_with (go_at_call 45; refine (r7.out _ (by assumption)).mono ?_; rintro e w12 ⟨rfl, hb12⟩)
    refine hK _ _ ⟨⟨_, hb12⟩, rfl⟩ ?_
    clear hK K
    repeat (any_goals (first | go_big_quiet_step (fail) | quiet_step (fail)))
    refine wpQuiet_nil ?_
    intro K hK
    first | go_simp | skip
    go_wp2_with (go_at_call 44; refine (r8.out _ (by assumption)).mono ?_; rintro e w13 ⟨rfl, hb13⟩)
    refine hK _ _ ⟨⟨_, hb13⟩, rfl⟩ ?_
    clear hK K
    repeat (any_goals (first | go_big_quiet_step (fail) | quiet_step (fail)))
    refine wpQuiet_nil ?_
    intro K hK
    first | go_simp | skip
    go_wp2_with (go_at_call 44; refine (r9.out _ (by assumption)).mono ?_; rintro e w14 ⟨rfl, hb14⟩)
    refine hK _ _ ⟨⟨_, hb14⟩, rfl⟩ ?_
    clear hK K
    repeat (any_goals (first | go_big_quiet_step (fail) | quiet_step (fail)))
    refine wpQuiet_nil ?_
    intro K hK
    first | go_simp | skip
    go_wp2_with (go_at_call 44; refine (r10.out _ (by assumption)).mono ?_; rintro e w15 ⟨rfl, hb15⟩)
    refine hK _ _ ⟨⟨_, hb15⟩, rfl⟩ ?_
    clear hK K
    repeat (any_goals (first | go_big_quiet_step (fail) | quiet_step (fail)))
    refine wpQuiet_nil ?_
    intro K hK
    first | go_simp | skip
    go_wp2_with (go_at_call 44; refine (r11.out _ (by assumption)).mono ?_; rintro e w16 ⟨rfl, hb16⟩)
    refine hK _ _ ⟨⟨_, hb16⟩, rfl⟩ ?_
    clear hK K
    repeat (any_goals (first | go_big_quiet_step (fail) | quiet_step (fail)))
    refine wpQuiet_nil ?_
    intro K hK
    first | go_simp | skip
    go_wp2_with (go_at_call 45; refine (r6.out _ (by assumption)).mono ?_; rintro e w17 ⟨rfl, hb17⟩)
    refine hK _ _ ⟨⟨_, hb17⟩, rfl⟩ ?_
    clear hK K
    repeat (any_goals (first | go_big_quiet_step (fail) | quiet_step (fail)))
    refine wpQuiet_nil ?_
    intro K hK
    first | go_simp | skip
    go_wp2_with (go_at_call 44; refine (r12.out _ (by assumption)).mono ?_; rintro e w18 ⟨rfl, hb18⟩)
    refine hK _ _ ⟨⟨_, hb18⟩, rfl⟩ ?_
    clear hK K
    repeat (any_goals (first | go_big_quiet_step (fail) | quiet_step (fail)))
    refine wpQuiet_nil ?_
    intro K hK
    first | go_simp | skip
    go_wp2_with (go_at_call 44; refine (r8.out _ (by assumption)).mono ?_; rintro e w19 ⟨rfl, hb19⟩)
    refine hK _ _ ⟨⟨_, hb19⟩, rfl⟩ ?_
    clear hK K
    repeat (any_goals (first | go_big_quiet_step (fail) | quiet_step (fail)))
    refine wpQuiet_nil ?_

    go_upto_region 8 with (first | (go_at_call 44; refine (r13.out _ (by assumption)).mono ?_; rintro e w21 ⟨rfl, hb21⟩) | (go_at_call 45; refine (r14.out _ (by assumption)).mono ?_; rintro e w22 ⟨rfl, hb22⟩))

    have hd : Below M w4 w22.drew := (by assumption : Below M w4 w22).drew
    refine Seg.wp_region_segs (fun w' => ∃ x : BelowT M w4, w' = x.w) [([0, 1, 3, 4], 2), ([], 5), ([6, 7, 8, 9, 11, 12], 10)] [] 13 (by kernel_rfl) (by kernel_rfl) (fun _ _ d _ _ h => by cases d <;> exact h) (⟨⟨_, hd⟩, rfl⟩) ?_
    simp only [List.map_cons, List.map_nil, Seg.opAt, List.drop_succ_cons, List.drop_zero, Seg.wpSegs, Array.getD_eq_getD_getElem?, List.getElem?_toArray, List.getElem?_cons_succ, List.getElem?_cons_zero, Option.getD_some]
    repeat (any_goals (first | go_big_quiet_step (fail) | quiet_step (fail)))
    refine wpQuiet_nil ?_
    intro K hK
    simp only [Region.wanted, if_true]
    go_wp2_with (go_at_call 45; refine (r4.out _ (by assumption)).mono ?_; rintro e w23 ⟨rfl, hb23⟩)
    refine hK _ _ ⟨⟨_, hb23⟩, rfl⟩ ?_
    clear hK K
    repeat (any_goals (first | go_big_quiet_step (fail) | quiet_step (fail)))
    refine wpQuiet_nil ?_
    intro K hK
    first | go_simp | skip
    go_wp2_with (go_at_call 45; refine (r15.out _ (by assumption)).mono ?_; rintro e w24 ⟨rfl, hb24⟩)
    refine hK _ _ ⟨⟨_, hb24⟩, rfl⟩ ?_
    clear hK K
    repeat (any_goals (first | go_big_quiet_step (fail) | quiet_step (fail)))
    refine wpQuiet_nil ?_
    intro K hK
    first | go_simp | skip
    go_wp2_with (go_at_call 44; refine (r8.out _ (by assumption)).mono ?_; rintro e w25 ⟨rfl, hb25⟩)
    refine hK _ _ ⟨⟨_, hb25⟩, rfl⟩ ?_
    clear hK K
    repeat (any_goals (first | go_big_quiet_step (fail) | quiet_step (fail)))
    refine wpQuiet_nil ?_

    go_upto_region 10 with (go_at_call 44; refine (r16.out _ (by assumption)).mono ?_; rintro e w27 ⟨rfl, hb27⟩)

    have hs0 : M ≤ w27.drew.heap.size := by have := hb27.size; rw [← HM.out] at this; exact this
    have hd0 : Below M w4 w27.drew := hb27.drew
    have HD0 := Lib.hid hd0
    go_cut [8, 9] (fun v8 v9 w' => ∃ E8, v8 = .pointer (some ⟨E8, 0, none⟩) ∧ v9 = .int .i64 0 ∧ M ≤ E8 ∧ w'.heap[E8]? = some (.cells #[.string ⟨A1.toArray⟩, .string ⟨A2.toArray⟩] 45 (0, 0)) ∧ Below M w4 w')
    case first =>
      refine Seg.wp_region_plan (fun w' => ∃ x : BelowT M w4, w' = x.w) (.quiet [0, 1, 3] (.alt 2 (.alt 4 (.quiet [5, 6, 7] (.one 8 (.one 9 (.last [])))) (.one 8 (.one 4 (.quiet [5, 6, 7] (.one 9 (.last [])))))) (.one 8 (.one 2 (.one 4 (.quiet [5, 6, 7] (.one 9 (.last [])))))))) 10 (by kernel_rfl) (by kernel_rfl) (fun _ _ d _ _ h => by cases d <;> exact h) ⟨⟨_, hd0⟩, rfl⟩ ?_
      try simp only [Seg.wpPlan, List.map_cons, List.map_nil, Seg.opAt, List.drop_succ_cons, List.drop_zero, Array.getD_eq_getD_getElem?, List.getElem?_toArray, List.getElem?_cons_succ, List.getElem?_cons_zero, Option.getD_some]
      repeat (any_goals (first | go_big_quiet_step (fail) | quiet_step (fail)))
      refine wpQuiet_nil ?_
      try simp only [Seg.wpPlan, List.map_cons, List.map_nil, Seg.opAt, List.drop_succ_cons, List.drop_zero, Array.getD_eq_getD_getElem?, List.getElem?_toArray, List.getElem?_cons_succ, List.getElem?_cons_zero, Option.getD_some]
      refine ⟨?_, ?_⟩
      · obtain ⟨wa, qwa⟩ : ∃ W, W = w27.drew := ⟨_, rfl⟩
        have hwa : Below M w4 wa := by rw [qwa]; exact hd0
        have swa : M ≤ wa.heap.size := by rw [qwa]; exact hs0
        rw [← qwa]
        clear qwa hd0 hs0
        try unfold Seg.wpUp
        intro K hK
        first | go_simp | skip
        go_wp2_with (go_at_call 45; refine (q4.out _ _ (Below.refl _ _)).mono ?_; rintro e wb ⟨rfl, bwb⟩)
        have hwb : Below M w4 wb := hwa.trans (bwb.mono swa)
        have swb : M ≤ wb.heap.size := Nat.le_trans swa bwb.size
        refine hK _ _ ⟨⟨wb, hwb⟩, rfl⟩ ?_
        clear hK K bwb hwa swa
        try simp only [Seg.wpPlan, List.map_cons, List.map_nil, Seg.opAt, List.drop_succ_cons, List.drop_zero, Array.getD_eq_getD_getElem?, List.getElem?_toArray, List.getElem?_cons_succ, List.getElem?_cons_zero, Option.getD_some]
        refine ⟨?_, ?_⟩
        · try unfold Seg.wpUp
          intro K hK
          first | go_simp | skip
          go_wp2_with (go_at_call 39; refine (q17.out _ _ (Below.refl _ _)).mono ?_; rintro e wc ⟨rfl, bwc⟩)
          have hwc : Below M w4 wc := hwb.trans (bwc.mono swb)
          have swc : M ≤ wc.heap.size := Nat.le_trans swb bwc.size
          refine hK _ _ ⟨⟨wc, hwc⟩, rfl⟩ ?_
          clear hK K bwc hwb swb
          try simp only [Seg.wpPlan, List.map_cons, List.map_nil, Seg.opAt, List.drop_succ_cons, List.drop_zero, Array.getD_eq_getD_getElem?, List.getElem?_toArray, List.getElem?_cons_succ, List.getElem?_cons_zero, Option.getD_some]
          repeat (any_goals (first | go_big_quiet_step (fail) | quiet_step (fail)))
          refine wpQuiet_nil ?_
          try simp only [Seg.wpPlan, List.map_cons, List.map_nil, Seg.opAt, List.drop_succ_cons, List.drop_zero, Array.getD_eq_getD_getElem?, List.getElem?_toArray, List.getElem?_cons_succ, List.getElem?_cons_zero, Option.getD_some]
          try unfold Seg.wpUp
          intro K hK
          first | go_simp | skip
          go_wp2_with fail
          have awe : Below M w4 (wc.alloc (.cells #[.string ⟨#[]⟩, .string ⟨#[]⟩] 45)) := hwc.alloc swc _
          have twe : M ≤ (wc.alloc (.cells #[.string ⟨#[]⟩, .string ⟨#[]⟩] 45)).heap.size := by simp; omega
          have fwe : (wc.alloc (.cells #[.string ⟨#[]⟩, .string ⟨#[]⟩] 45)).heap[wc.heap.size]? = some (.cells #[.string ⟨#[]⟩, .string ⟨#[]⟩] 45 (0, 0)) := heap_at rfl
          refine hK _ _ ⟨⟨_, awe⟩, rfl⟩ ?_
          clear hK K hwc
          generalize wc.heap.size = E8 at *
          obtain ⟨we, hwee⟩ : ∃ W, W = wc.alloc (.cells #[.string ⟨#[]⟩, .string ⟨#[]⟩] 45) := ⟨_, rfl⟩
          rw [← hwee] at awe twe fwe ⊢
          clear hwee
          have hwe := awe
          have swe := twe
          have ewe := fwe
          have hE8 : M ≤ E8 := swc
          clear awe twe fwe
          try simp only [Seg.wpPlan, List.map_cons, List.map_nil, Seg.opAt, List.drop_succ_cons, List.drop_zero, Array.getD_eq_getD_getElem?, List.getElem?_toArray, List.getElem?_cons_succ, List.getElem?_cons_zero, Option.getD_some]
          try unfold Seg.wpUp
          intro K hK
          rw [if_pos (by rfl)]
          refine wp_store_whole rfl 45 _ _ rfl E8 #[.string ⟨#[]⟩, .string ⟨#[]⟩] #[.string ⟨A1.toArray⟩, .string ⟨A2.toArray⟩] 45 rfl rfl ewe rfl HA.out (two_strings _ _) (fun w9 ho hp => ?_)
          have h9 : Below M w4 w9 := bel_only hwe ho hE8
          refine hK _ _ ⟨⟨w9, h9⟩, rfl⟩ ?_
          clear hK K ho
          try simp only [Seg.wpPlan, List.map_cons, List.map_nil, Seg.opAt, List.drop_succ_cons, List.drop_zero, Array.getD_eq_getD_getElem?, List.getElem?_toArray, List.getElem?_cons_succ, List.getElem?_cons_zero, Option.getD_some]
          repeat (any_goals (first | go_big_quiet_step (fail) | quiet_step (fail)))
          refine wpQuiet_nil ?_
          go_wp2_with fail
          go_meet
          exact ⟨E8, rfl, rfl, hE8, hp, h9⟩
        · try unfold Seg.wpUp
          intro K hK
          first | go_simp | skip
          go_wp2_with fail
          have awc : Below M w4 (wb.alloc (.cells #[.string ⟨#[]⟩, .string ⟨#[]⟩] 45)) := hwb.alloc swb _
          have twc : M ≤ (wb.alloc (.cells #[.string ⟨#[]⟩, .string ⟨#[]⟩] 45)).heap.size := by simp; omega
          have fwc : (wb.alloc (.cells #[.string ⟨#[]⟩, .string ⟨#[]⟩] 45)).heap[wb.heap.size]? = some (.cells #[.string ⟨#[]⟩, .string ⟨#[]⟩] 45 (0, 0)) := heap_at rfl
          refine hK _ _ ⟨⟨_, awc⟩, rfl⟩ ?_
          clear hK K hwb
          generalize wb.heap.size = E8 at *
          obtain ⟨wc, hwce⟩ : ∃ W, W = wb.alloc (.cells #[.string ⟨#[]⟩, .string ⟨#[]⟩] 45) := ⟨_, rfl⟩
          rw [← hwce] at awc twc fwc ⊢
          clear hwce
          have hwc := awc
          have swc := twc
          have ewc := fwc
          have hE8 : M ≤ E8 := swb
          clear awc twc fwc
          try simp only [Seg.wpPlan, List.map_cons, List.map_nil, Seg.opAt, List.drop_succ_cons, List.drop_zero, Array.getD_eq_getD_getElem?, List.getElem?_toArray, List.getElem?_cons_succ, List.getElem?_cons_zero, Option.getD_some]
          try unfold Seg.wpUp
          intro K hK
          first | go_simp | skip
          go_wp2_with (go_at_call 39; refine (q17.out _ _ (Below.refl _ _)).mono ?_; rintro e we ⟨rfl, bwe⟩)
          have hwe : Below M w4 we := hwc.trans (bwe.mono swc)
          have swe : M ≤ we.heap.size := Nat.le_trans swc bwe.size
          have ewe := bel_keep bwe (lt_of_heap ewc) ewc
          refine hK _ _ ⟨⟨we, hwe⟩, rfl⟩ ?_
          clear hK K bwe hwc swc ewc
          try simp only [Seg.wpPlan, List.map_cons, List.map_nil, Seg.opAt, List.drop_succ_cons, List.drop_zero, Array.getD_eq_getD_getElem?, List.getElem?_toArray, List.getElem?_cons_succ, List.getElem?_cons_zero, Option.getD_some]
          repeat (any_goals (first | go_big_quiet_step (fail) | quiet_step (fail)))
          refine wpQuiet_nil ?_
          try simp only [Seg.wpPlan, List.map_cons, List.map_nil, Seg.opAt, List.drop_succ_cons, List.drop_zero, Array.getD_eq_getD_getElem?, List.getElem?_toArray, List.getElem?_cons_succ, List.getElem?_cons_zero, Option.getD_some]
          try unfold Seg.wpUp
          intro K hK
          rw [if_pos (by rfl)]
          refine wp_store_whole rfl 45 _ _ rfl E8 #[.string ⟨#[]⟩, .string ⟨#[]⟩] #[.string ⟨A1.toArray⟩, .string ⟨A2.toArray⟩] 45 rfl rfl ewe rfl HA.out (two_strings _ _) (fun w9 ho hp => ?_)
          have h9 : Below M w4 w9 := bel_only hwe ho hE8
          refine hK _ _ ⟨⟨w9, h9⟩, rfl⟩ ?_
          clear hK K ho
          try simp only [Seg.wpPlan, List.map_cons, List.map_nil, Seg.opAt, List.drop_succ_cons, List.drop_zero, Array.getD_eq_getD_getElem?, List.getElem?_toArray, List.getElem?_cons_succ, List.getElem?_cons_zero, Option.getD_some]
          repeat (any_goals (first | go_big_quiet_step (fail) | quiet_step (fail)))
          refine wpQuiet_nil ?_
          go_wp2_with fail
          go_meet
          exact ⟨E8, rfl, rfl, hE8, hp, h9⟩
      · obtain ⟨wa, qwa⟩ : ∃ W, W = w27.drew := ⟨_, rfl⟩
        have hwa : Below M w4 wa := by rw [qwa]; exact hd0
        have swa : M ≤ wa.heap.size := by rw [qwa]; exact hs0
        rw [← qwa]
        clear qwa hd0 hs0
        try unfold Seg.wpUp
        intro K hK
        first | go_simp | skip
        go_wp2_with fail
        have awb : Below M w4 (wa.alloc (.cells #[.string ⟨#[]⟩, .string ⟨#[]⟩] 45)) := hwa.alloc swa _
        have twb : M ≤ (wa.alloc (.cells #[.string ⟨#[]⟩, .string ⟨#[]⟩] 45)).heap.size := by simp; omega
        have fwb : (wa.alloc (.cells #[.string ⟨#[]⟩, .string ⟨#[]⟩] 45)).heap[wa.heap.size]? = some (.cells #[.string ⟨#[]⟩, .string ⟨#[]⟩] 45 (0, 0)) := heap_at rfl
        refine hK _ _ ⟨⟨_, awb⟩, rfl⟩ ?_
        clear hK K hwa
        generalize wa.heap.size = E8 at *
        obtain ⟨wb, hwbe⟩ : ∃ W, W = wa.alloc (.cells #[.string ⟨#[]⟩, .string ⟨#[]⟩] 45) := ⟨_, rfl⟩
        rw [← hwbe] at awb twb fwb ⊢
        clear hwbe
        have hwb := awb
        have swb := twb
        have ewb := fwb
        have hE8 : M ≤ E8 := swa
        clear awb twb fwb
        try simp only [Seg.wpPlan, List.map_cons, List.map_nil, Seg.opAt, List.drop_succ_cons, List.drop_zero, Array.getD_eq_getD_getElem?, List.getElem?_toArray, List.getElem?_cons_succ, List.getElem?_cons_zero, Option.getD_some]
        try unfold Seg.wpUp
        intro K hK
        first | go_simp | skip
        go_wp2_with (go_at_call 45; refine (q4.out _ _ (Below.refl _ _)).mono ?_; rintro e wc ⟨rfl, bwc⟩)
        have hwc : Below M w4 wc := hwb.trans (bwc.mono swb)
        have swc : M ≤ wc.heap.size := Nat.le_trans swb bwc.size
        have ewc := bel_keep bwc (lt_of_heap ewb) ewb
        refine hK _ _ ⟨⟨wc, hwc⟩, rfl⟩ ?_
        clear hK K bwc hwb swb ewb
        try simp only [Seg.wpPlan, List.map_cons, List.map_nil, Seg.opAt, List.drop_succ_cons, List.drop_zero, Array.getD_eq_getD_getElem?, List.getElem?_toArray, List.getElem?_cons_succ, List.getElem?_cons_zero, Option.getD_some]
        try unfold Seg.wpUp
        intro K hK
        first | go_simp | skip
        go_wp2_with (go_at_call 39; refine (q17.out _ _ (Below.refl _ _)).mono ?_; rintro e we ⟨rfl, bwe⟩)
        have hwe : Below M w4 we := hwc.trans (bwe.mono swc)
        have swe : M ≤ we.heap.size := Nat.le_trans swc bwe.size
        have ewe := bel_keep bwe (lt_of_heap ewc) ewc
        refine hK _ _ ⟨⟨we, hwe⟩, rfl⟩ ?_
        clear hK K bwe hwc swc ewc
        try simp only [Seg.wpPlan, List.map_cons, List.map_nil, Seg.opAt, List.drop_succ_cons, List.drop_zero, Array.getD_eq_getD_getElem?, List.getElem?_toArray, List.getElem?_cons_succ, List.getElem?_cons_zero, Option.getD_some]
        repeat (any_goals (first | go_big_quiet_step (fail) | quiet_step (fail)))
        refine wpQuiet_nil ?_
        try simp only [Seg.wpPlan, List.map_cons, List.map_nil, Seg.opAt, List.drop_succ_cons, List.drop_zero, Array.getD_eq_getD_getElem?, List.getElem?_toArray, List.getElem?_cons_succ, List.getElem?_cons_zero, Option.getD_some]
        try unfold Seg.wpUp
        intro K hK
        rw [if_pos (by rfl)]
        refine wp_store_whole rfl 45 _ _ rfl E8 #[.string ⟨#[]⟩, .string ⟨#[]⟩] #[.string ⟨A1.toArray⟩, .string ⟨A2.toArray⟩] 45 rfl rfl ewe rfl HA.out (two_strings _ _) (fun w9 ho hp => ?_)
        have h9 : Below M w4 w9 := bel_only hwe ho hE8
        refine hK _ _ ⟨⟨w9, h9⟩, rfl⟩ ?_
        clear hK K ho
        try simp only [Seg.wpPlan, List.map_cons, List.map_nil, Seg.opAt, List.drop_succ_cons, List.drop_zero, Array.getD_eq_getD_getElem?, List.getElem?_toArray, List.getElem?_cons_succ, List.getElem?_cons_zero, Option.getD_some]
        repeat (any_goals (first | go_big_quiet_step (fail) | quiet_step (fail)))
        refine wpQuiet_nil ?_
        go_wp2_with fail
        go_meet
        exact ⟨E8, rfl, rfl, hE8, hp, h9⟩
    case rest =>
    clear r1 r2 r3 r4 r5 r6 r7 r8 r9 r10 r11 r12 r13 r14 r15 r16 r19 r20 r21 r17 q4 q17
    generalize wc = wo at *
    obtain ⟨E8, rfl, rfl, hE8, he8, hbc⟩ := hcut
    have g1 := bel_keep hbc d1 HB4.out.x
    have g2 := bel_keep hbc d2 HB4.out.y
    have g3 := bel_keep hbc d3 HB4.out.z
    have hwc := Lib.hid (HB4.out.bel.trans (hbc.mono (by omega)))
    clear c1 c2 c3 c4 c5 c6 c7 c8 hbc HB4 HE4 HM d1 d2 d3 d4 hE8
    obtain ⟨R, hR⟩ : ∃ R, R = wo.heap.size := ⟨_, rfl⟩
    have k1 : B < R := by rw [hR]; exact lt_of_heap g1
    have k2 : B + 1 < R := by rw [hR]; exact lt_of_heap g2
    have k3 : B + 1 + 1 < R := by rw [hR]; exact lt_of_heap g3
    have k8 : E8 < R := by rw [hR]; exact lt_of_heap he8
    have c1 := cell_of_row wo B 0 _ _ _ g1
    have c2 := cell_of_row wo B 1 _ _ _ g1
    have c3 := cell_of_row wo (B + 1) 0 _ _ _ g2
    have c4 := cell_of_row wo (B + 1) 1 _ _ _ g2
    have c5 := cell_of_row wo (B + 1 + 1) 0 _ _ _ g3
    have c6 := cell_of_row wo (B + 1 + 1) 1 _ _ _ g3
    have c7 := cell_of_row wo E8 0 _ _ _ he8
    have c8 := cell_of_row wo E8 1 _ _ _ he8
    have HE8 := Lib.hid he8
    have HG1 := Lib.hid g1
    have HG2 := Lib.hid g2
    have HG3 := Lib.hid g3
    clear g1 g2 g3 he8
    have r8 := Lib.hid (q8.out wo)
    rw [← hR] at r8
    clear q8
    have r20 := Lib.hid (q20.out wo)
    rw [← hR] at r20
    clear q20
    have r19 := Lib.hid (q19.out wo)
    rw [← hR] at r19
    clear q19
    have r6 := Lib.hid (q6.out wo)
    rw [← hR] at r6
    clear q6
    have r21 := Lib.hid (q21.out wo)
    rw [← hR] at r21
    clear q21
    have hb0 : Below R wo wo := Below.refl _ _
    have HR := Lib.hid hR
    have hBR : B ≤ R := by omega
    clear hR
    go_upto_region 13 with (fail)
    go_upto_if 111 with (fail)
    go_cut [9] (fun v9 w' => v9 = .int .i64 0 ∧ Below R wo w')
    case first =>
      rcases hyz.out with ⟨h0, _⟩ | ⟨h0, hp⟩
      · have e0 : (!B1 == [48]) = false := by rw [show (B1 == [48]) = true from by rw [beq_iff_eq]; exact h0]; rfl
        clear h0
        rw [e0]
        go_wp2_with fail
        go_meet
        exact ⟨rfl, hb0⟩
      · have e0 : (!B1 == [48]) = true := by rw [show (B1 == [48]) = false from by rw [beq_eq_false_iff_ne]; exact h0]; rfl
        clear h0
        rw [e0]
        have r18 := Lib.hid (q18.out hp wo)
        rw [← HR.out] at r18
        go_upto_region 14 with (fail)
        have hd : Below R wo wo.drew := hb0.drew
        refine Seg.wp_region_segs (fun w' => ∃ x : BelowT R wo, w' = x.w) [([0, 1, 3], 2), ([], 4), ([5, 6, 7], 8)] [] 9 (by kernel_rfl) (by kernel_rfl) (fun _ _ d _ _ h => by cases d <;> exact h) (⟨⟨_, hd⟩, rfl⟩) ?_
        simp only [List.map_cons, List.map_nil, Seg.opAt, List.drop_succ_cons, List.drop_zero, Seg.wpSegs, Array.getD_eq_getD_getElem?, List.getElem?_toArray, List.getElem?_cons_succ, List.getElem?_cons_zero, Option.getD_some]
        repeat (any_goals (first | go_big_quiet_step (fail) | quiet_step (fail)))
        refine wpQuiet_nil ?_
        intro K hK
        simp only [Region.wanted, if_true]
        go_wp2_with (go_at_call 44; refine (r8.out _ (by assumption)).mono ?_; rintro e w80 ⟨rfl, hb80⟩)
        refine hK _ _ ⟨⟨_, hb80⟩, rfl⟩ ?_
        clear hK K
        repeat (any_goals (first | go_big_quiet_step (fail) | quiet_step (fail)))
        refine wpQuiet_nil ?_
        intro K hK
        first | go_simp | skip
        go_wp2_with (go_at_call 41; refine (r18.out _ (by assumption)).mono ?_; rintro e w81 ⟨rfl, hb81⟩)
        refine hK _ _ ⟨⟨_, hb81⟩, rfl⟩ ?_
        clear hK K
        repeat (any_goals (first | go_big_quiet_step (fail) | quiet_step (fail)))
        refine wpQuiet_nil ?_
        intro K hK
        rw [if_pos (by rfl)]
        have e81 := bel_keep hb81 k8 HE8.out
        refine wp_store_whole rfl 45 _ _ rfl E8 #[.string ⟨A1.toArray⟩, .string ⟨A2.toArray⟩] #[.string ⟨A1.toArray⟩, .string ⟨A2.toArray⟩] 45 rfl rfl e81 rfl HA.out (two_strings _ _) (fun w82 ho hp => ?_)
        have hb82 : Below R wo w82 := hb81.trans (below_same ho e81 hp)
        refine hK _ _ ⟨⟨_, hb82⟩, rfl⟩ ?_
        clear hK K ho hp e81 hb80 hb81 hd hb0
        have f1 := cell_of_row w82 B 0 _ _ _ (bel_keep hb82 k1 HG1.out)
        have f2 := cell_of_row w82 B 1 _ _ _ (bel_keep hb82 k1 HG1.out)
        have f3 := cell_of_row w82 E8 0 _ _ _ (bel_keep hb82 k8 HE8.out)
        have f4 := cell_of_row w82 E8 1 _ _ _ (bel_keep hb82 k8 HE8.out)
        clear c1 c2 c3 c4 c5 c6 c7 c8
        repeat (any_goals (first | go_big_quiet_step (fail) | quiet_step (fail)))
        refine wpQuiet_nil ?_
        go_wp2_with fail
        go_meet
        exact ⟨rfl, hb82⟩
    case rest =>
    obtain ⟨rfl, hbd⟩ := hcut
    clear hb0 r8 q18 hyz c1 c2 c3 c4 c5 c6 c7 c8
    have f1 := cell_of_row wc (B) 0 _ _ _ (bel_keep hbd k1 HG1.out)
    have f2 := cell_of_row wc (B) 1 _ _ _ (bel_keep hbd k1 HG1.out)
    have f3 := cell_of_row wc (B + 1) 0 _ _ _ (bel_keep hbd k2 HG2.out)
    have f4 := cell_of_row wc (B + 1) 1 _ _ _ (bel_keep hbd k2 HG2.out)
    have f5 := cell_of_row wc (B + 1 + 1) 0 _ _ _ (bel_keep hbd k3 HG3.out)
    have f6 := cell_of_row wc (B + 1 + 1) 1 _ _ _ (bel_keep hbd k3 HG3.out)
    go_upto_region 18 with (go_at_call 37; refine (r20.out _ (by assumption)).mono ?_; rintro e w90 ⟨rfl, hb90⟩)
    have g1 := cell_of_row w90 B 0 _ _ _ (bel_keep hb90 k1 HG1.out)
    have g2 := cell_of_row w90 B 1 _ _ _ (bel_keep hb90 k1 HG1.out)
    have g3 := cell_of_row w90 (B + 1) 0 _ _ _ (bel_keep hb90 k2 HG2.out)
    have g4 := cell_of_row w90 (B + 1) 1 _ _ _ (bel_keep hb90 k2 HG2.out)
    clear f1 f2 f3 f4 f5 f6 hbd
    have c1 := cell_of_row wo B 0 _ _ _ HG1.out
    have c2 := cell_of_row wo B 1 _ _ _ HG1.out
    have c3 := cell_of_row wo (B + 1) 0 _ _ _ HG2.out
    have c4 := cell_of_row wo (B + 1) 1 _ _ _ HG2.out
    have c5 := cell_of_row wo (B + 1 + 1) 0 _ _ _ HG3.out
    have c6 := cell_of_row wo (B + 1 + 1) 1 _ _ _ HG3.out
    have hd : Below R wo w90.drew := hb90.drew
    clear g1 g2 g3 g4 r20
    refine Seg.wp_region_segs (fun w' => ∃ x : BelowT R wo, w' = x.w) [([0, 1, 3, 4], 2), ([], 5), ([], 6)] [7, 8, 9, 10] 11 (by kernel_rfl) (by kernel_rfl) (fun _ _ d _ _ h => by cases d <;> exact h) (⟨⟨_, hd⟩, rfl⟩) ?_
    simp only [List.map_cons, List.map_nil, Seg.opAt, List.drop_succ_cons, List.drop_zero, Seg.wpSegs, Array.getD_eq_getD_getElem?, List.getElem?_toArray, List.getElem?_cons_succ, List.getElem?_cons_zero, Option.getD_some]
    repeat (any_goals (first | go_big_quiet_step (fail) | quiet_step (fail)))
    refine wpQuiet_nil ?_
    intro K hK
    simp only [Region.wanted, if_true]
    go_wp2_with (go_at_call 45; refine (r19.out _ (by assumption)).mono ?_; rintro e w91 ⟨rfl, hb91⟩)
    refine hK _ _ ⟨⟨_, hb91⟩, rfl⟩ ?_
    clear hK K
    repeat (any_goals (first | go_big_quiet_step (fail) | quiet_step (fail)))
    refine wpQuiet_nil ?_
    intro K hK
    first | go_simp | skip
    go_wp2_with (go_at_call 45; refine (r6.out _ (by assumption)).mono ?_; rintro e w92 ⟨rfl, hb92⟩)
    refine hK _ _ ⟨⟨_, hb92⟩, rfl⟩ ?_
    clear hK K
    repeat (any_goals (first | go_big_quiet_step (fail) | quiet_step (fail)))
    refine wpQuiet_nil ?_
    intro K hK
    first | go_simp | skip
    go_wp2_with (go_at_call 37; refine (r21.out _ (by assumption)).mono ?_; rintro e w93 ⟨rfl, hb93⟩)
    refine hK _ _ ⟨⟨_, hb93⟩, rfl⟩ ?_
    clear hK K
    repeat (any_goals (first | go_big_quiet_step (fail) | quiet_step (fail)))
    refine wpQuiet_nil ?_
    have g1 := cell_of_row w93 B 0 _ _ _ (bel_keep hb93 k1 HG1.out)
    have g2 := cell_of_row w93 B 1 _ _ _ (bel_keep hb93 k1 HG1.out)
    have g3 := cell_of_row w93 (B + 1) 0 _ _ _ (bel_keep hb93 k2 HG2.out)
    have g4 := cell_of_row w93 (B + 1) 1 _ _ _ (bel_keep hb93 k2 HG2.out)
    clear c1 c2 c3 c4 c5 c6 hd
    have hend := Lib.hid (show Below w.heap.size w w93 by rw [HB.out]; exact hwc.out.trans (hb93.mono hBR))
    rcases hsame.out with ⟨hc0, ha, hb⟩ | ⟨hc0, hne⟩
    · subst ha hb hc0
      clear hsame
      go_wp2_with fail
      go_ret
      exact ⟨rfl, hend.out⟩
    · have e0 : (c == 0) = false := by rw [beq_eq_false_iff_ne]; exact hc0
      have e1 : ((A1 == B1) && (A2 == B2)) = false := by
        rw [Bool.and_eq_false_iff, beq_eq_false_iff_ne, beq_eq_false_iff_ne]
        by_cases h : A1 = B1
        · exact .inr (fun h2 => hne ⟨h, h2⟩)
        · exact .inl h
      have HNE := Lib.hid hne
      clear hne hsame hc0
      go_wp2_with fail
      all_goals go_ret
      all_goals first
        | exact ⟨rfl, hend.out⟩
        | exact absurd ⟨by assumption, by assumption⟩ HNE.out
end Go.Proofs.YtkkpfoidppjbdaaDoor
