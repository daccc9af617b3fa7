/-
  nat.Plus and nat.Order of fractions' texts (picked out of other templates by tools/mkkpfr.sh).
-/
import Derived.Test.YtnohcdpnnhmpfaaGreatDoorTrG
import Derived.Lib.SliceRun
namespace Go.Proofs.YtnohcdpnnhmpfaaGreatDoor.KF
set_option linter.unusedVariables false
set_option linter.unusedSimpArgs false
open Go.RowKit ML FM NL
theorem exParse_bad (F : Bytes) (w : World) (hF : F.length < 140737488355328) (h : numB F = false) :
    Calls Tryz.prog 92 #[.string ⟨F.toArray⟩] w fun e w' => e = .returned (.tuple #[.slice none 0 0, .bool false]) ∧ Below w.heap.size w w' :=
  (exParse_any F w hF).mono (by
    rintro e w' ⟨bel, ⟨_, rfl⟩ | ⟨hn, _⟩⟩
    · exact ⟨rfl, bel⟩
    · rw [h] at hn; cases hn)
theorem exParse_good (F : Bytes) (w : World) (hF : F.length < 140737488355328) (h : numB F = true) :
    Calls Tryz.prog 92 #[.string ⟨F.toArray⟩] w fun e w' => ∃ oc cc, e = .returned (.tuple #[.slice oc (dig (dv F)).length cc, .bool true]) ∧ LimbsAt w' oc (dig (dv F)) ∧ (∀ a, oc = some a → a.block < w'.heap.size) ∧ Below w.heap.size w w' :=
  (exParse_any F w hF).mono (by
    rintro e w' ⟨bel, ⟨hn, _⟩ | ⟨_, oc, cc, rfl, h1, h2⟩⟩
    · rw [h] at hn; cases hn
    · exact ⟨oc, cc, rfl, h1, h2, bel⟩)
/-- what is wrong with a fraction's texts -/
def wrongF (N D : Bytes) : Nat :=
  if numB N = true ∧ numB D = true then (if 4000 < N.length ∨ 4000 < D.length then 3 else (if dv D = 0 ∨ Nat.gcd (dv N) (dv D) ≠ 1 then 2 else 0)) else 2
theorem wrongF_good {N D : Bytes} (h : wrongF N D = 0) : numB N = true ∧ numB D = true ∧ N.length ≤ 4000 ∧ D.length ≤ 4000 ∧ 0 < dv D ∧ Nat.gcd (dv N) (dv D) = 1 := by
  unfold wrongF at h
  by_cases h1 : numB N = true ∧ numB D = true
  · rw [if_pos h1] at h
    by_cases h2 : 4000 < N.length ∨ 4000 < D.length
    · rw [if_pos h2] at h; omega
    · rw [if_neg h2] at h
      by_cases h3 : dv D = 0 ∨ Nat.gcd (dv N) (dv D) ≠ 1
      · rw [if_pos h3] at h; omega
      · exact ⟨h1.1, h1.2, by omega, by omega, by omega, by omega⟩
  · rw [if_neg h1] at h; omega
/-- what was read of a text -/
structure ParsedAt (w : World) (F : Bytes) (v : Value) : Prop where
  good : numB F = true → ∃ oc cc, v = .slice oc (dig (dv F)).length cc ∧ LimbsAt w oc (dig (dv F))
theorem ParsedAt.below {w w1 : World} {F : Bytes} {v : Value} (h : ParsedAt w F v) (hb : Below w.heap.size w w1) : ParsedAt w1 F v := ⟨fun hn => by
  obtain ⟨oc, cc, h1, h2⟩ := h.good hn
  exact ⟨oc, cc, h1, h2.below hb⟩⟩
theorem exParse_both (F : Bytes) (w : World) (hF : F.length < 140737488355328) :
    Calls Tryz.prog 92 #[.string ⟨F.toArray⟩] w fun e w' => ∃ v, e = .returned (.tuple #[v, .bool (numB F)]) ∧ ParsedAt w' F v ∧ Below w.heap.size w w' := by
  cases hn : numB F with
  | false => exact (exParse_bad F w hF hn).mono (by rintro e w' ⟨rfl, bel⟩; exact ⟨_, rfl, ⟨fun h => by rw [hn] at h; cases h⟩, bel⟩)
  | true => exact (exParse_good F w hF hn).mono (by rintro e w' ⟨oc, cc, rfl, h1, h2, bel⟩; exact ⟨_, rfl, ⟨fun _ => ⟨oc, cc, rfl, h1⟩⟩, bel⟩)
theorem zero_cells : (Tryz.prog.info? 90).map (·.size) = some (#[Value.slice none 0 0, Value.slice none 0 0] : Array Value).size := by kernel_rfl
/-- a struct argument and a struct result -/
structure BoxR (B : Nat) (w w1 : World) (X Z : Array Value) (T U : TypeId) : Prop where
  bel : Below B w w1
  x : w1.heap[B]? = some (.cells X T (0, 0))
  z : w1.heap[B + 1]? = some (.cells Z U (0, 0))
theorem BoxR.mk' (w : World) (X Z : Array Value) (T U : TypeId) : BoxR w.heap.size w ((w.alloc (.cells X T)).alloc (.cells Z U)) X Z T U := by
  have b1 := (Below.refl w.heap.size w).alloc (Nat.le_refl _) (.cells X T)
  exact ⟨b1.alloc (by simp) _, heap_lt (heap_at rfl), heap_at (by simp)⟩
theorem BoxR.keep {B : Nat} {w w1 w2 : World} {X Z : Array Value} {T U : TypeId} (h : BoxR B w w1 X Z T U) (hB : B ≤ w1.heap.size) (hb : Below w1.heap.size w1 w2) : BoxR B w w2 X Z T U :=
  ⟨h.bel.trans (hb.mono hB), bel_keep hb (lt_of_heap h.x) h.x, bel_keep hb (lt_of_heap h.z) h.z⟩
/-- what 'fraction' answers -/
def FracGot (N D : Bytes) (w : World) (e : Ending) (w' : World) : Prop :=
  ∃ on nn cn od nd cd, e = .returned (.tuple #[.agg #[.slice on nn cn, .slice od nd cd], .int .i64 (wrongF N D : Int)]) ∧ (wrongF N D = 0 → nn = (dig (dv N)).length ∧ nd = (dig (dv D)).length ∧ LFr w' (dv N) (dv D) on od) ∧ Below w.heap.size w w'
set_option maxHeartbeats 4000000 in
set_option maxRecDepth 100000 in
theorem fraction_any (N D : Bytes) (w : World) (hN : N.length < 140737488355328) (hD : D.length < 140737488355328) :
    Calls Tryz.prog 50 #[.agg #[.string ⟨N.toArray⟩, .string ⟨D.toArray⟩]] w (FracGot N D w) := by
  have QN := Lib.hid (fun w => exParse_both N w hN)
  have QD := Lib.hid (fun w => exParse_both D w hD)
  have HS := Lib.hid zero_cells
  clear hN hD
  go_enter Tryz.func50, Tryz.ntmps50
  go_upto_region 1 with (fail)
  have BX := BoxR.mk' w #[.string ⟨N.toArray⟩, .string ⟨D.toArray⟩] #[.slice none 0 0, .slice none 0 0] 27 90
  generalize hB : w.heap.size = B at *
  refine wp_abs (fun w1 => BoxR B w w1 #[.string ⟨N.toArray⟩, .string ⟨D.toArray⟩] #[.slice none 0 0, .slice none 0 0] 27 90) BX (fun w1 B1 => ?_)
  have HB := Lib.hid hB
  have c1 := cell_of_row w1 B 0 _ _ _ B1.x
  have hBs1 : B + 1 < w1.heap.size := lt_of_heap B1.z
  have HB1 := Lib.hid B1
  clear BX hB B1
  go_upto_region 2 with (go_at_call 92; refine (QN.out w1).mono ?_; rintro e w2 ⟨vn, rfl, hp, bel2⟩; have HPN := Lib.hid hp; clear hp)
  have HB2 := Lib.hid (HB1.out.keep (by omega) bel2)
  have c2 := cell_of_row w2 B 1 _ _ _ HB2.out.x
  have hBs2 : B + 1 < w2.heap.size := lt_of_heap HB2.out.z
  clear c1 bel2 QN
  go_upto_block 0 with (go_at_call 92; refine (QD.out w2).mono ?_; rintro e w3 ⟨vd, rfl, hp, bel3⟩; have HPD := Lib.hid hp; clear hp)
  have HB3 := Lib.hid (HB2.out.keep (by omega) bel3)
  have HPN3 := Lib.hid (HPN.out.below bel3)
  have c1 := cell_of_row w3 B 0 _ _ _ HB3.out.x
  have c2 := cell_of_row w3 B 1 _ _ _ HB3.out.x
  have hBs3 : B + 1 < w3.heap.size := lt_of_heap HB3.out.z
  clear bel3 QD HPN HB2 HB1
  by_cases hnum : numB N = true ∧ numB D = true
  · obtain ⟨on, cn, rfl, hn⟩ := HPN3.out.good hnum.1
    obtain ⟨od, cd, rfl, hd⟩ := HPD.out.good hnum.2
    have HN3 := Lib.hid hn
    have HD3 := Lib.hid hd
    obtain ⟨n1, n2⟩ := hnum
    have dN := dv_lt N ((numB_iff N).1 n1).2.1
    have dD := dv_lt D ((numB_iff D).1 n2).2.1
    rw [n1, n2]
    clear hn hd HPN3 HPD
    by_cases hlong : 4000 < N.length ∨ 4000 < D.length
    · have hw : wrongF N D = 3 := by unfold wrongF; rw [if_pos ⟨n1, n2⟩, if_pos hlong]
      clear n1 n2 dN dD
      by_cases hl : 4000 < N.length
      · have d1 : (4000 : Int) < (N.length : Int) := by omega
        clear hlong
        have HW := Lib.hid hw
        clear hw
        go_wp2_with (refine wpList_store_whole rfl rfl 90 _ _ rfl (B + 1) #[.slice none 0 0, .slice none 0 0] #[.slice none 0 0, .slice none 0 0] 90 rfl rfl HB3.out.z rfl HS.out (two_slices _ _ _ _ _ _) ?_; intro w5 ho hp)
        refine bodyPost_ret (results_cell_tmp rfl _ w5 (B + 1) _ _ _ _ _ rfl rfl hp Tryz.underlying90 rfl HS.out) rfl ⟨none, 0, 0, none, 0, 0, by rw [HW.out]; rfl, fun h => by (rw [HW.out] at h; omega), bel_only (by rw [HB.out]; exact HB3.out.bel) ho (by rw [HB.out]; omega)⟩
      · have d1 : ¬ (4000 : Int) < (N.length : Int) := by omega
        have d2 : (4000 : Int) < (D.length : Int) := by omega
        clear hlong
        have HW := Lib.hid hw
        clear hw
        go_wp2_with (refine wpList_store_whole rfl rfl 90 _ _ rfl (B + 1) #[.slice none 0 0, .slice none 0 0] #[.slice none 0 0, .slice none 0 0] 90 rfl rfl HB3.out.z rfl HS.out (two_slices _ _ _ _ _ _) ?_; intro w5 ho hp)
        refine bodyPost_ret (results_cell_tmp rfl _ w5 (B + 1) _ _ _ _ _ rfl rfl hp Tryz.underlying90 rfl HS.out) rfl ⟨none, 0, 0, none, 0, 0, by rw [HW.out]; rfl, fun h => by (rw [HW.out] at h; omega), bel_only (by rw [HB.out]; exact HB3.out.bel) ho (by rw [HB.out]; omega)⟩
    · have d1 : ¬ (4000 : Int) < (N.length : Int) := by omega
      have d2 : ¬ (4000 : Int) < (D.length : Int) := by omega
      have bN : NB 4000 (dv N) := ⟨N.length, by omega, dN⟩
      have bD : NB 4000 (dv D) := ⟨D.length, by omega, dD⟩
      have lN : (dig (dv N)).length < 1099511627775 := Nat.lt_of_le_of_lt bN.limbs (by decide)
      have lD : (dig (dv D)).length < 1099511627775 := Nat.lt_of_le_of_lt bD.limbs (by decide)
      have hwr : wrongF N D = if dv D = 0 ∨ Nat.gcd (dv N) (dv D) ≠ 1 then 2 else 0 := by unfold wrongF; rw [if_pos ⟨n1, n2⟩, if_neg hlong]
      clear n1 n2 dN dD hlong bN bD
      by_cases hy : dv D = 0
      · rw [if_pos (.inl hy)] at hwr
        have HW := Lib.hid hwr
        have QZ := Lib.hid (fun o c w => exZero_any o 0 c w)
        clear hwr
        rw [hy, dig_zero]
        clear hy
        go_wp2_with (first
          | (go_at_call 93; refine (QZ.out _ _ _).mono ?_; rintro e w4 ⟨rfl, rfl⟩)
          | (refine wpList_store_whole rfl rfl 90 _ _ rfl (B + 1) #[.slice none 0 0, .slice none 0 0] #[.slice none 0 0, .slice none 0 0] 90 rfl rfl HB3.out.z rfl HS.out (two_slices _ _ _ _ _ _) ?_; intro w5 ho hp))
        refine bodyPost_ret (results_cell_tmp rfl _ w5 (B + 1) _ _ _ _ _ rfl rfl hp Tryz.underlying90 rfl HS.out) rfl ⟨none, 0, 0, none, 0, 0, by rw [HW.out]; rfl, fun h => by (rw [HW.out] at h; omega), bel_only (by rw [HB.out]; exact HB3.out.bel) ho (by rw [HB.out]; omega)⟩
      · have hlz : (((dig (dv D)).length : Int) == 0) = false := by
          rw [beq_eq_false_iff_ne]
          intro h
          have h1 : (dig (dv D)).length = 0 := by omega
          have := lt_pow_length (dv D)
          rw [h1] at this
          omega
        have QZ := Lib.hid (fun o c w => exZero_any o (dig (dv D)).length c w)
        rw [hlz] at QZ
        have hgl : (dig (Nat.gcd (dv N) (dv D))).length ≤ (dig (dv D)).length := length_dig_le _ _ (Nat.lt_of_le_of_lt (Nat.le_of_dvd (by omega) (Nat.gcd_dvd_right (dv N) (dv D))) (lt_pow_length (dv D)))
        have QG := Lib.hid (exGcd_any (dv N) (dv D) on od cn cd w3 HN3.out HD3.out lN lD)
        have hg0 : 0 < Nat.gcd (dv N) (dv D) := Nat.gcd_pos_of_pos_right (dv N) (by omega)
        have hwr2 : (Nat.gcd (dv N) (dv D) = 1 → wrongF N D = 0) ∧ (Nat.gcd (dv N) (dv D) ≠ 1 → wrongF N D = 2) := by
          rw [hwr]
          exact ⟨fun hq => if_neg (by intro h; rcases h with h | h; exact hy h; exact h hq), fun hq => if_pos (.inr hq)⟩
        clear hwr hlz hy
        obtain ⟨g, hgx⟩ : ∃ g, g = Nat.gcd (dv N) (dv D) := ⟨_, rfl⟩
        rw [← hgx] at hgl hg0 hwr2 QG
        clear hgx
        have HWR := Lib.hid hwr2
        have hone := Lib.hid (show dig 1 = [1] by rw [dig_pos (by decide)]; simp [dig_zero])
        have QO := Lib.hid (fun w => exOf_any 1 w (by decide))
        have QC := Lib.hid (fun og cg o1 c1 w h1 h2 => exCmp_any g 1 og o1 cg c1 w h1 h2 (by omega) (by rw [hone.out]; decide))
        rw [hone.out] at QO QC
        clear hwr2
        by_cases hg1 : g = 1
        · have HW := Lib.hid (show wrongF N D = 0 from HWR.out.1 hg1)
          have hc : NL.cmpI g 1 = 0 := by rw [hg1, NL.cmpI_eq]
          rw [hc] at QC
          clear hg1 hc hg0
          go_upto_region 9 with (first
            | (go_at_call 93; refine (QZ.out _ _ _).mono ?_; rintro e w4 ⟨rfl, rfl⟩)
            | (go_at_call 94; refine QG.out.mono ?_; rintro e w5 ⟨og, cg, rfl, hg, bel5⟩; have HG := Lib.hid hg; have HB5 := Lib.hid (HB3.out.keep (by omega) bel5); have N5 := Lib.hid (HN3.out.below bel5); have D5 := Lib.hid (HD3.out.below bel5); clear hg bel5; have hBs5 : B + 1 < w5.heap.size := lt_of_heap HB5.out.z)
            | (go_at_call 96; refine (QO.out w5).mono ?_; rintro e w6 ⟨o1, cc1, rfl, h1, -, bel6⟩; have H1 := Lib.hid h1; have HB6 := Lib.hid (HB5.out.keep (by omega) bel6); have HG6 := Lib.hid (HG.out.below bel6); have N6 := Lib.hid (N5.out.below bel6); have D6 := Lib.hid (D5.out.below bel6); clear h1 bel6; have hBs6 : B + 1 < w6.heap.size := lt_of_heap HB6.out.z)
            | (go_at_call 95; refine (QC.out og cg o1 cc1 w6 HG6.out H1.out).mono ?_; rintro e w7 ⟨rfl, bel7⟩; have HB7 := Lib.hid (HB6.out.keep (by omega) bel7); have N7 := Lib.hid (N6.out.below bel7); have D7 := Lib.hid (D6.out.below bel7); clear bel7; have hBs7 : B + 1 < w7.heap.size := lt_of_heap HB7.out.z))
          go_wp2_with (refine wpList_store_whole rfl rfl 90 _ _ rfl (B + 1) #[.slice none 0 0, .slice none 0 0] #[.slice on (dig (dv N)).length cn, .slice od (dig (dv D)).length cd] 90 rfl rfl HB7.out.z rfl HS.out (two_slices _ _ _ _ _ _) ?_; intro w8 ho hp)
          refine bodyPost_ret (results_cell_tmp rfl _ w8 (B + 1) _ _ _ _ _ rfl rfl hp Tryz.underlying90 rfl HS.out) rfl ⟨on, _, cn, od, _, cd, by rw [HW.out]; rfl, fun _ => ⟨rfl, rfl, N7.out.spared HB7.out.z two_noInt ho, D7.out.spared HB7.out.z two_noInt ho⟩, bel_only (by rw [HB.out]; exact HB7.out.bel) ho (by rw [HB.out]; omega)⟩
        · have HW := Lib.hid (show wrongF N D = 2 from HWR.out.2 hg1)
          have hc : NL.cmpI g 1 = 1 := NL.cmpI_gt (by omega)
          rw [hc] at QC
          clear hg1 hc hg0
          go_wp2_with (first
            | (go_at_call 93; refine (QZ.out _ _ _).mono ?_; rintro e w4 ⟨rfl, rfl⟩)
            | (go_at_call 94; refine QG.out.mono ?_; rintro e w5 ⟨og, cg, rfl, hg, bel5⟩; have HG := Lib.hid hg; have HB5 := Lib.hid (HB3.out.keep (by omega) bel5); clear hg bel5; have hBs5 : B + 1 < w5.heap.size := lt_of_heap HB5.out.z)
            | (go_at_call 96; refine (QO.out w5).mono ?_; rintro e w6 ⟨o1, cc1, rfl, h1, -, bel6⟩; have H1 := Lib.hid h1; have HB6 := Lib.hid (HB5.out.keep (by omega) bel6); have HG6 := Lib.hid (HG.out.below bel6); clear h1 bel6; have hBs6 : B + 1 < w6.heap.size := lt_of_heap HB6.out.z)
            | (go_at_call 95; refine (QC.out og cg o1 cc1 w6 HG6.out H1.out).mono ?_; rintro e w7 ⟨rfl, bel7⟩; have HB7 := Lib.hid (HB6.out.keep (by omega) bel7); clear bel7; have hBs7 : B + 1 < w7.heap.size := lt_of_heap HB7.out.z)
            | (refine wpList_store_whole rfl rfl 90 _ _ rfl (B + 1) #[.slice none 0 0, .slice none 0 0] #[.slice none 0 0, .slice none 0 0] 90 rfl rfl HB7.out.z rfl HS.out (two_slices _ _ _ _ _ _) ?_; intro w8 ho hp))
          refine bodyPost_ret (results_cell_tmp rfl _ w8 (B + 1) _ _ _ _ _ rfl rfl hp Tryz.underlying90 rfl HS.out) rfl ⟨none, 0, 0, none, 0, 0, by rw [HW.out]; rfl, fun h => by (rw [HW.out] at h; omega), bel_only (by rw [HB.out]; exact HB7.out.bel) ho (by rw [HB.out]; omega)⟩
  · have hw : wrongF N D = 2 := by unfold wrongF; rw [if_neg hnum]
    have HW := Lib.hid hw
    clear hw HPN3 HPD
    generalize numB N = pn at *
    generalize numB D = pd at *
    cases pn <;> cases pd
    case true.true => exact absurd ⟨rfl, rfl⟩ hnum
    all_goals
      clear hnum
      go_wp2_with (refine wpList_store_whole rfl rfl 90 _ _ rfl (B + 1) #[.slice none 0 0, .slice none 0 0] #[.slice none 0 0, .slice none 0 0] 90 rfl rfl HB3.out.z rfl HS.out (two_slices _ _ _ _ _ _) ?_; intro w5 ho hp)
      refine bodyPost_ret (results_cell_tmp rfl _ w5 (B + 1) _ _ _ _ _ rfl rfl hp Tryz.underlying90 rfl HS.out) rfl ⟨none, 0, 0, none, 0, 0, by rw [HW.out]; rfl, fun h => by (rw [HW.out] at h; omega), bel_only (by rw [HB.out]; exact HB3.out.bel) ho (by rw [HB.out]; omega)⟩
theorem size_api : (Tryz.prog.info? 27).map (·.size) = some 2 := by kernel_rfl
theorem two_strings (a b : ByteArray) : (#[Value.string a, Value.string b] : Array Value).all (·.oneCell') = true := by simp [Value.oneCell']
theorem two_noInt' (a b : ByteArray) : (#[Value.string a, Value.string b] : Array Value).all noInt = true := by simp [noInt]
theorem two_noInt2 (o1 o2 : Option Addr) (n1 c1 n2 c2 : Nat) : (#[Value.slice o1 n1 c1, Value.slice o2 n2 c2] : Array Value).all noInt = true := by simp [noInt]
theorem wp_store_whole {P : Program} {o : Oper} {a : Act} {w : World} {K : Act → World → Prop} {Q : Exit → Act → World → Prop} (hdst : o.dst = none) (ty : TypeId) (x y : Operand) (ho : o.op = .store ty x y) (b : Nat) (cs new : Array Value) (t : TypeId)
    (hx : a.eval x = .pointer (some ⟨b, 0, none⟩)) (hy : a.eval y = .agg new) (hb : w.heap[b]? = some (.cells cs t (0, 0))) (hs : cs.size = new.size)
    (hi : (P.info? ty).map (·.size) = some new.size) (h1 : new.all (·.oneCell') = true)
    (h : ∀ w1, Only b w w1 → w1.heap[b]? = some (.cells new t (0, 0)) → K a w1) : o.wp P a w K Q :=
  wp_store_mid ty x y ho b 0 new hx hy
    (fun j hj => by
      rw [Nat.zero_add, cell_of_row w b j cs t _ hb]
      exact ⟨by simp [hs, hj], frozen_of_row w b j cs t hb⟩) hi h1 (by rw [hdst]; exact h _ (setCells_only b _ _ _) (setCells_whole hb hs))
/-- a block that is written as it was -/
theorem below_same {B b : Nat} {w w1 : World} {x : Obj} (ho : Only b w w1) (hx : w.heap[b]? = some x) (hx1 : w1.heap[b]? = some x) : Below B w w1 :=
  ⟨ho.os, ho.tape, ho.output, Nat.le_of_eq ho.size.symm, fun k _ => by
    by_cases hk : k = b
    · subst hk; rw [hx, hx1]
    · exact ho.block k hk⟩
set_option maxHeartbeats 4000000 in
set_option maxRecDepth 100000 in
theorem natTold_any (n d : Nat) (on od : Option Addr) (cn cd : Nat) (w : World) (h : LFr w n d on od) (l1 : (dig n).length < 1099511627776) (l2 : (dig d).length < 1099511627776) :
    Calls Tryz.prog 88 #[.agg #[.slice on (dig n).length cn, .slice od (dig d).length cd]] w fun e w' => e = .returned (.agg #[.string ⟨(strD n).toArray⟩, .string ⟨(strD d).toArray⟩]) ∧ Below w.heap.size w w' := by
  have QN := Lib.hid (fun w h => exString_any n on cn w h l1)
  have QD := Lib.hid (fun w h => exString_any d od cd w h l2)
  have HS := Lib.hid size_api
  have H := Lib.hid h
  clear h l1 l2
  generalize strD n = N at *
  generalize strD d = D at *
  go_enter Tryz.func88, Tryz.ntmps88
  go_upto_region 1 with (fail)
  have BX := BoxR.mk' w #[.slice on (dig n).length cn, .slice od (dig d).length cd] #[.string ⟨#[]⟩, .string ⟨#[]⟩] 90 27
  generalize hB : w.heap.size = B at *
  refine wp_abs (fun w1 => BoxR B w w1 #[.slice on (dig n).length cn, .slice od (dig d).length cd] #[.string ⟨#[]⟩, .string ⟨#[]⟩] 90 27) BX (fun w1 B1 => ?_)
  have HB := Lib.hid hB
  have c1 := cell_of_row w1 B 0 _ _ _ B1.x
  have c2 := cell_of_row w1 B 1 _ _ _ B1.x
  have HB1 := Lib.hid B1
  clear BX hB B1
  refine Seg.wp_region_segs (fun w' => ∃ x : BelowT (B + 1) w1, w' = x.w) [([0, 1, 3, 4], 2)] [] 5 (by kernel_rfl) (by kernel_rfl) (fun _ _ d _ _ h => by cases d <;> exact h) (⟨⟨_, (Below.refl _ _).drew⟩, rfl⟩) ?_
  simp only [List.map_cons, List.map_nil, Seg.opAt, List.drop_succ_cons, List.drop_zero, Seg.wpSegs, Array.getD_eq_getD_getElem?, List.getElem?_toArray, List.getElem?_cons_succ, List.getElem?_cons_zero, Option.getD_some]
  repeat (any_goals (first | go_big_quiet_step (fail) | quiet_step (fail)))
  refine wpQuiet_nil ?_
  intro K hK
  simp only [Region.wanted, if_true]
  have hBs1 : B + 1 < w1.heap.size := lt_of_heap HB1.out.z
  have W1 := Lib.hid (show Below w.heap.size w w1 by rw [HB.out]; exact HB1.out.bel)
  have W1d := Lib.hid (show Below w.heap.size w w1.drew from W1.out.drew)
  go_wp2_with (go_at_call 122; (with_reducible refine (QN.out _ (H.out.num.below W1d.out)).mono ?_); rintro e w2 ⟨rfl, bel2⟩)
  have bel2' : Below w1.heap.size w1 w2 := undrew bel2
  refine hK _ _ ⟨⟨w2, bel2'.mono (by omega)⟩, rfl⟩ ?_
  have W2 := Lib.hid (W1.out.trans (bel2'.mono W1.out.size))
  have HB2 := Lib.hid (HB1.out.keep (by omega) bel2')
  have hBs2 : B + 1 < w2.heap.size := lt_of_heap HB2.out.z
  clear hK K c1 c2 bel2 bel2' QN
  repeat (any_goals (first | go_big_quiet_step (fail) | quiet_step (fail)))
  refine wpQuiet_nil ?_
  go_wp2_with (first
    | (go_at_call 122; refine (QD.out w2 (H.out.den.below W2.out)).mono ?_; rintro e w3 ⟨rfl, bel3⟩; have HB3 := Lib.hid (HB2.out.keep (by omega) bel3); have W3 := Lib.hid (W2.out.trans (bel3.mono W2.out.size)); clear bel3)
    | (refine wpList_store_whole rfl rfl 27 _ _ rfl (B + 1) #[.string ⟨#[]⟩, .string ⟨#[]⟩] #[.string ⟨N.toArray⟩, .string ⟨D.toArray⟩] 27 rfl rfl HB3.out.z rfl HS.out (two_strings _ _) ?_; intro w5 ho hp))
  refine bodyPost_ret (results_cell_row rfl _ w5 (B + 1) _ _ _ _ rfl hp Tryz.underlying27 rfl HS.out) rfl ⟨rfl, bel_only W3.out ho (by rw [HB.out]; omega)⟩
/-- the first that is wrong of two fractions -/
def wrongF2 (N D P Q : Bytes) : Nat := if wrongF N D = 0 then wrongF P Q else wrongF N D
/-- what 'both' answers -/
def BothGot (N D P Q : Bytes) (w : World) (e : Ending) (w' : World) : Prop :=
  ∃ on nn cn od nd cd op np cp oq nq cq, e = .returned (.tuple #[.agg #[.slice on nn cn, .slice od nd cd], .agg #[.slice op np cp, .slice oq nq cq], .int .i64 (wrongF2 N D P Q : Int)]) ∧
    (wrongF2 N D P Q = 0 → nn = (dig (dv N)).length ∧ nd = (dig (dv D)).length ∧ np = (dig (dv P)).length ∧ nq = (dig (dv Q)).length ∧ LFr w' (dv N) (dv D) on od ∧ LFr w' (dv P) (dv Q) op oq) ∧ Below w.heap.size w w'
theorem results_cell_cell_tmp {P : Program} {fn : Func} {p q r : Tmp} {ty : TypeId} (h : fn.results = #[.cell p ty, .cell q ty, .tmp r]) (tmps : Array Value) (w : World) (g g2 : Nat) (t t2 : TypeId) (cs cs2 : Array Value) (fr fr2 : Nat × Nat) (d : TypeDesc) (v : Value)
    (hp : tmps.getD p undef = .pointer (some ⟨g, 0, none⟩)) (hq : tmps.getD q undef = .pointer (some ⟨g2, 0, none⟩)) (hr : tmps.getD r undef = v) (hg : w.heap[g]? = some (.cells cs t fr)) (hg2 : w.heap[g2]? = some (.cells cs2 t2 fr2))
    (hu : P.underlying ty = some d) (hd : (match d with | .struct _ | .array _ _ => true | _ => false) = true) (hi : (P.info? ty).map (·.size) = some cs.size) (hi2 : (P.info? ty).map (·.size) = some cs2.size) :
    (results fn tmps).run P w = .ok (.tuple #[.agg cs, .agg cs2, v]) w := by
  have hp' : tmps[p]?.getD undef = .pointer (some ⟨g, 0, none⟩) := by simpa using hp
  have hq' : tmps[q]?.getD undef = .pointer (some ⟨g2, 0, none⟩) := by simpa using hq
  have hr' : tmps[r]?.getD undef = v := by simpa using hr
  simp [results, h, hp', hq', hr', asAddr, run_loadVar_row w g t ty cs fr d hg hu hd hi, run_loadVar_row w g2 t2 ty cs2 fr2 d hg2 hu hd hi2]
/-- the boxes of two struct arguments and of two struct results -/
structure Box4 (B : Nat) (w w1 : World) (X Y Z V : Array Value) (T U : TypeId) : Prop where
  bel : Below B w w1
  x : w1.heap[B]? = some (.cells X T (0, 0))
  y : w1.heap[B + 1]? = some (.cells Y T (0, 0))
  z : w1.heap[B + 1 + 1]? = some (.cells Z U (0, 0))
  v : w1.heap[B + 1 + 1 + 1]? = some (.cells V U (0, 0))
theorem Box4.mk' (w : World) (X Y Z V : Array Value) (T U : TypeId) : Box4 w.heap.size w ((((w.alloc (.cells X T)).alloc (.cells Y T)).alloc (.cells Z U)).alloc (.cells V U)) X Y Z V T U := by
  have b1 := (Below.refl w.heap.size w).alloc (Nat.le_refl _) (.cells X T)
  have b2 := b1.alloc (by simp) (.cells Y T)
  have b3 := b2.alloc (by simp; omega) (.cells Z U)
  refine ⟨b3.alloc (by simp; omega) _, heap_lt (heap_lt (heap_lt (heap_at rfl))), heap_lt (heap_lt (heap_at (by simp))), heap_lt (heap_at (by simp)), heap_at (by simp)⟩
theorem Box4.keep {B : Nat} {w w1 w2 : World} {X Y Z V : Array Value} {T U : TypeId} (h : Box4 B w w1 X Y Z V T U) (hb : Below w1.heap.size w1 w2) : Box4 B w w2 X Y Z V T U :=
  ⟨h.bel.trans (hb.mono (by have := lt_of_heap h.v; omega)), bel_keep hb (lt_of_heap h.x) h.x, bel_keep hb (lt_of_heap h.y) h.y, bel_keep hb (lt_of_heap h.z) h.z, bel_keep hb (lt_of_heap h.v) h.v⟩
theorem Box4.setZ {B : Nat} {w w1 w2 : World} {X Y Z V Z2 : Array Value} {T U : TypeId} (h : Box4 B w w1 X Y Z V T U) (ho : Only (B + 1 + 1) w1 w2) (hz : w2.heap[B + 1 + 1]? = some (.cells Z2 U (0, 0))) : Box4 B w w2 X Y Z2 V T U :=
  ⟨bel_only h.bel ho (by omega), ho.keep (by omega) h.x, ho.keep (by omega) h.y, hz, ho.keep (by omega) h.v⟩
theorem Box4.setV {B : Nat} {w w1 w2 : World} {X Y Z V V2 : Array Value} {T U : TypeId} (h : Box4 B w w1 X Y Z V T U) (ho : Only (B + 1 + 1 + 1) w1 w2) (hv : w2.heap[B + 1 + 1 + 1]? = some (.cells V2 U (0, 0))) : Box4 B w w2 X Y Z V2 T U :=
  ⟨bel_only h.bel ho (by omega), ho.keep (by omega) h.x, ho.keep (by omega) h.y, ho.keep (by omega) h.z, hv⟩
set_option maxHeartbeats 4000000 in
set_option maxRecDepth 100000 in
theorem bothF_any (N D P Q : Bytes) (w : World) (hN : N.length < 140737488355328) (hD : D.length < 140737488355328) (hP : P.length < 140737488355328) (hQ : Q.length < 140737488355328) :
    Calls Tryz.prog 49 #[.func (.func 50) #[] #[], .agg #[.string ⟨N.toArray⟩, .string ⟨D.toArray⟩], .agg #[.string ⟨P.toArray⟩, .string ⟨Q.toArray⟩]] w (BothGot N D P Q w) := by
  have QA := Lib.hid (fun w => fraction_any N D w hN hD)
  have QB := Lib.hid (fun w => fraction_any P Q w hP hQ)
  have HS := Lib.hid size_api
  have HL := Lib.hid size_lfr
  clear hN hD hP hQ
  go_enter Tryz.func49, Tryz.ntmps49
  go_upto_region 1 with (fail)
  have BX := Box4.mk' w #[.string ⟨N.toArray⟩, .string ⟨D.toArray⟩] #[.string ⟨P.toArray⟩, .string ⟨Q.toArray⟩] #[.slice none 0 0, .slice none 0 0] #[.slice none 0 0, .slice none 0 0] 27 90
  generalize hB : w.heap.size = B at *
  refine wp_abs (fun w1 => Box4 B w w1 #[.string ⟨N.toArray⟩, .string ⟨D.toArray⟩] #[.string ⟨P.toArray⟩, .string ⟨Q.toArray⟩] #[.slice none 0 0, .slice none 0 0] #[.slice none 0 0, .slice none 0 0] 27 90) BX (fun w1 B1 => ?_)
  have HB := Lib.hid hB
  have HB1 := Lib.hid B1
  clear BX hB B1
  go_upto_region 2 with (first
    | (refine wpList_load_whole rfl 27 _ rfl B #[.string ⟨N.toArray⟩, .string ⟨D.toArray⟩] _ _ _ rfl HB1.out.x Tryz.underlying27 rfl HS.out ?_)
    | (go_at_call 50; refine (QA.out w1).mono ?_; rintro e w2 ⟨on, nn, cn, od, nd, cd, rfl, hg, bel2⟩; have HG := Lib.hid hg; have HB2 := Lib.hid (HB1.out.keep bel2); clear hg bel2)
    | (refine wpList_store_whole rfl rfl 90 _ _ rfl (B + 1 + 1) #[.slice none 0 0, .slice none 0 0] #[.slice on nn cn, .slice od nd cd] 90 rfl rfl HB2.out.z rfl HL.out (two_slices _ _ _ _ _ _) ?_; intro w3 ho hp; have HB3 := Lib.hid (HB2.out.setZ ho hp); have HO3 := Lib.hid ho; clear ho hp))
  have HG3 := Lib.hid (show wrongF N D = 0 → nn = (dig (dv N)).length ∧ nd = (dig (dv D)).length ∧ LFr w3 (dv N) (dv D) on od from fun h => by
    obtain ⟨e1, e2, e3⟩ := HG.out h
    exact ⟨e1, e2, e3.num.spared HB2.out.z two_noInt HO3.out, e3.den.spared HB2.out.z two_noInt HO3.out⟩)
  clear HB1 HB2 HG HO3 QA
  go_upto_if 16 with (fail)
  go_cut [8] (fun v8 w' => ∃ op np cp oq nq cq, v8 = .int .i64 (wrongF2 N D P Q : Int) ∧ Box4 B w w' #[.string ⟨N.toArray⟩, .string ⟨D.toArray⟩] #[.string ⟨P.toArray⟩, .string ⟨Q.toArray⟩] #[.slice on nn cn, .slice od nd cd] #[.slice op np cp, .slice oq nq cq] 27 90 ∧
    (wrongF2 N D P Q = 0 → nn = (dig (dv N)).length ∧ nd = (dig (dv D)).length ∧ np = (dig (dv P)).length ∧ nq = (dig (dv Q)).length ∧ LFr w' (dv N) (dv D) on od ∧ LFr w' (dv P) (dv Q) op oq))
  case first =>
    by_cases h0 : wrongF N D = 0
    · have e2 := Lib.hid (show wrongF2 N D P Q = wrongF P Q from if_pos h0)
      have H0 := Lib.hid h0
      rw [h0]
      clear h0
      go_wp2_with (first
        | (refine wpList_load_whole rfl 27 _ rfl (B + 1) #[.string ⟨P.toArray⟩, .string ⟨Q.toArray⟩] _ _ _ rfl HB3.out.y Tryz.underlying27 rfl HS.out ?_)
        | (go_at_call 50; refine (QB.out w3).mono ?_; rintro e w4 ⟨op, np, cp, oq, nq, cq, rfl, hg, bel4⟩; have HG4 := Lib.hid hg; have HB4 := Lib.hid (HB3.out.keep bel4); have HN4 := Lib.hid (show nn = (dig (dv N)).length ∧ nd = (dig (dv D)).length ∧ LFr w4 (dv N) (dv D) on od from ⟨(HG3.out H0.out).1, (HG3.out H0.out).2.1, (HG3.out H0.out).2.2.below bel4⟩); clear hg bel4)
        | (refine wpList_store_whole rfl rfl 90 _ _ rfl (B + 1 + 1 + 1) #[.slice none 0 0, .slice none 0 0] #[.slice op np cp, .slice oq nq cq] 90 rfl rfl HB4.out.v rfl HL.out (two_slices _ _ _ _ _ _) ?_; intro w5 ho hp; have HB5 := Lib.hid (HB4.out.setV ho hp); have HO5 := Lib.hid ho; clear ho hp))
      go_meet
      refine ⟨op, np, cp, oq, nq, cq, by rw [e2.out], HB5.out, fun h => ?_⟩
      rw [e2.out] at h
      obtain ⟨f1, f2, f3⟩ := HG4.out h
      obtain ⟨g1, g2, g3⟩ := HN4.out
      exact ⟨g1, g2, f1, f2, ⟨g3.num.spared HB4.out.v two_noInt HO5.out, g3.den.spared HB4.out.v two_noInt HO5.out⟩, ⟨f3.num.spared HB4.out.v two_noInt HO5.out, f3.den.spared HB4.out.v two_noInt HO5.out⟩⟩
    · have e2 := Lib.hid (show wrongF2 N D P Q = wrongF N D from if_neg h0)
      have hne : ((wrongF N D : Int) == 0) = false := by rw [beq_eq_false_iff_ne]; omega
      have H0 := Lib.hid h0
      clear h0 QB
      generalize wrongF N D = n at *
      go_wp2_with fail
      go_meet
      exact ⟨none, 0, 0, none, 0, 0, by rw [e2.out], HB3.out, fun h => absurd (e2.out ▸ h) H0.out⟩
  case rest =>
  obtain ⟨op, np, cp, oq, nq, cq, rfl, B5, G5⟩ := hcut
  have HB5 := Lib.hid B5
  have HG5 := Lib.hid G5
  have hs5 : B + 1 + 1 + 1 < wc.heap.size := lt_of_heap B5.v
  have c1 := cell_of_row wc (B + 1 + 1) 0 _ _ _ B5.z
  have c2 := cell_of_row wc (B + 1 + 1) 1 _ _ _ B5.z
  have c3 := cell_of_row wc (B + 1 + 1 + 1) 0 _ _ _ B5.v
  have c4 := cell_of_row wc (B + 1 + 1 + 1) 1 _ _ _ B5.v
  clear B5 G5 HB3 HG3 QB
  go_upto_region 4 with (fail)
  refine Seg.wp_region_segs (fun w' => ∃ x : BelowT (B + 4) wc, w' = x.w) [([0, 1, 2], 3), ([], 4)] [] 5 (by kernel_rfl) (by kernel_rfl) (fun _ _ d _ _ h => by cases d <;> exact h) (⟨⟨_, (Below.refl _ _).drew⟩, rfl⟩) ?_
  simp only [List.map_cons, List.map_nil, Seg.opAt, List.drop_succ_cons, List.drop_zero, Seg.wpSegs, Array.getD_eq_getD_getElem?, List.getElem?_toArray, List.getElem?_cons_succ, List.getElem?_cons_zero, Option.getD_some]
  repeat (any_goals (first | go_big_quiet_step (fail) | quiet_step (fail)))
  refine wpQuiet_nil ?_
  intro K hK
  simp only [Region.wanted, if_true]
  have HB5d : wc.drew.heap[B + 1 + 1]? = some (.cells #[.slice on nn cn, .slice od nd cd] 90 (0, 0)) := HB5.out.z
  refine wp_store_whole rfl 90 _ _ rfl (B + 1 + 1) #[.slice on nn cn, .slice od nd cd] #[.slice on nn cn, .slice od nd cd] 90 rfl rfl HB5d rfl HL.out (two_slices _ _ _ _ _ _) (fun w6 ho hp => ?_)
  have s6 : ∀ A, Below A wc w6 := fun A => ⟨ho.os, ho.tape, ho.output, Nat.le_of_eq ho.size.symm, (below_same (B := A) ho HB5d hp).block⟩
  have S6 := Lib.hid s6
  have HB6 := Lib.hid (HB5.out.keep (s6 _))
  refine hK _ _ ⟨⟨w6, s6 _⟩, rfl⟩ ?_
  clear hK K ho hp s6 HB5d c1 c2 c3 c4 HB5
  refine wpQuiet_nil ?_
  intro K hK
  simp only [Region.wanted, if_true]
  refine wp_store_whole rfl 90 _ _ rfl (B + 1 + 1 + 1) #[.slice op np cp, .slice oq nq cq] #[.slice op np cp, .slice oq nq cq] 90 rfl rfl HB6.out.v rfl HL.out (two_slices _ _ _ _ _ _) (fun w7 ho hp => ?_)
  have s7 : ∀ A, Below A w6 w7 := fun A => below_same ho HB6.out.v hp
  have S7 := Lib.hid s7
  have HB7 := Lib.hid (HB6.out.keep (s7 _))
  refine hK _ _ ⟨⟨w7, (S6.out _).trans (s7 _)⟩, rfl⟩ ?_
  clear hK K ho hp s7 HB6
  repeat (any_goals (first | go_big_quiet_step (fail) | quiet_step (fail)))
  refine wpQuiet_nil ?_
  go_wp2_with fail
  refine bodyPost_ret (results_cell_cell_tmp rfl _ w7 (B + 1 + 1) (B + 1 + 1 + 1) _ _ _ _ _ _ _ _ rfl rfl rfl HB7.out.z HB7.out.v Tryz.underlying90 rfl HL.out HL.out) rfl ⟨on, nn, cn, od, nd, cd, op, np, cp, oq, nq, cq, rfl, fun h => ?_, by rw [HB.out]; exact HB7.out.bel⟩
  obtain ⟨e1, e2, e3, e4, e5, e6⟩ := HG5.out h
  exact ⟨e1, e2, e3, e4, (e5.below (S6.out _)).below (S7.out _), (e6.below (S6.out _)).below (S7.out _)⟩
theorem eqIn_nil (w : World) (d : Nat) : (Op.equalIn (d + 1) 131 .nilFunc .nilFunc).run Tryz.prog w = .ok true w := by
  simp [Op.equalIn, run_underlying Tryz.underlying131]
theorem run_neq_nil (w : World) : (binOp .neq 131 .nilFunc .nilFunc).run Tryz.prog w = .ok (.bool false) w := by
  simp only [binOp]
  simp [Op.equal, Op.maxDepth, eqIn_nil w 9999]
/-- an answer that is a fraction: an errno, or the two texts -/
def ansF (n : Nat) (N D : Bytes) : Value := .tuple #[.agg #[.string ⟨(if n = 0 then N else []).toArray⟩, .string ⟨(if n = 0 then D else []).toArray⟩], .int .i64 (n : Int)]
theorem wrongF2_good {N D P Q : Bytes} (h : wrongF2 N D P Q = 0) : wrongF N D = 0 ∧ wrongF P Q = 0 := by
  unfold wrongF2 at h
  by_cases h1 : wrongF N D = 0
  · rw [if_pos h1] at h; exact ⟨h1, h⟩
  · rw [if_neg h1] at h; exact absurd h h1
theorem good_frac {N D : Bytes} (h : wrongF N D = 0) : NB 4000 (dv N) ∧ NB 4000 (dv D) ∧ 0 < dv D := by
  obtain ⟨h1, h2, h3, h4, h5, h6⟩ := wrongF_good h
  exact ⟨⟨N.length, h3, dv_lt N ((numB_iff N).1 h1).2.1⟩, ⟨D.length, h4, dv_lt D ((numB_iff D).1 h2).2.1⟩, h5⟩
/-- the two fractions that were read, within 'frac' -/
structure FracMid (B C : Nat) (w w1 : World) (on od op oq : Option Addr) (nn cn nd cd np cp nq cq : Nat) : Prop where
  bel : Below B w w1
  z : w1.heap[B + 1 + 1]? = some (.cells #[.string ⟨#[]⟩, .string ⟨#[]⟩] 27 (0, 0))
  c : w1.heap[C]? = some (.cells #[.slice on nn cn, .slice od nd cd] 90 (0, 0))
  d : w1.heap[C + 1]? = some (.cells #[.slice op np cp, .slice oq nq cq] 90 (0, 0))
  lt : B + 1 + 1 < C
theorem FracMid.keep {B C : Nat} {w w1 w2 : World} {on od op oq : Option Addr} {nn cn nd cd np cp nq cq : Nat} (h : FracMid B C w w1 on od op oq nn cn nd cd np cp nq cq) (hb : Below w1.heap.size w1 w2) : FracMid B C w w2 on od op oq nn cn nd cd np cp nq cq :=
  ⟨h.bel.trans (hb.mono (by have := lt_of_heap h.z; omega)), bel_keep hb (lt_of_heap h.z) h.z, bel_keep hb (lt_of_heap h.c) h.c, bel_keep hb (lt_of_heap h.d) h.d, h.lt⟩
set_option maxHeartbeats 8000000 in
set_option maxRecDepth 100000 in
theorem fracPlus_any (N D P Q : Bytes) (w : World) (hN : N.length < 140737488355328) (hD : D.length < 140737488355328) (hP : P.length < 140737488355328) (hQ : Q.length < 140737488355328) :
    Calls Tryz.prog 47 #[.agg #[.string ⟨N.toArray⟩, .string ⟨D.toArray⟩], .agg #[.string ⟨P.toArray⟩, .string ⟨Q.toArray⟩], .nilFunc, .func (.func 48) #[] #[]] w fun e w' => e = .returned (ansF (wrongF2 N D P Q) (strD ((dv N * dv Q + dv P * dv D) / Nat.gcd (dv N * dv Q + dv P * dv D) (dv D * dv Q))) (strD ((dv D * dv Q) / Nat.gcd (dv N * dv Q + dv P * dv D) (dv D * dv Q)))) ∧ Below w.heap.size w w' := by
  have QB := Lib.hid (fun w => bothF_any N D P Q w hN hD hP hQ)
  have HS := Lib.hid size_api
  have HL := Lib.hid size_lfr
  clear hN hD hP hQ
  obtain ⟨AN, hAN⟩ : ∃ F, F = ansF (wrongF2 N D P Q) (strD ((dv N * dv Q + dv P * dv D) / Nat.gcd (dv N * dv Q + dv P * dv D) (dv D * dv Q))) (strD ((dv D * dv Q) / Nat.gcd (dv N * dv Q + dv P * dv D) (dv D * dv Q))) := ⟨_, rfl⟩
  rw [← hAN]
  have HAN := Lib.hid hAN
  have qT := run_neq_nil
  clear hAN
  go_enter Tryz.func47, Tryz.ntmps47
  go_upto_region 1 with (fail)
  have BX := Box3.mk' w #[.string ⟨N.toArray⟩, .string ⟨D.toArray⟩] #[.string ⟨P.toArray⟩, .string ⟨Q.toArray⟩] #[.string ⟨#[]⟩, .string ⟨#[]⟩] 27 27
  generalize hB : w.heap.size = B at *
  refine wp_abs (fun w1 => Box3 B w w1 #[.string ⟨N.toArray⟩, .string ⟨D.toArray⟩] #[.string ⟨P.toArray⟩, .string ⟨Q.toArray⟩] #[.string ⟨#[]⟩, .string ⟨#[]⟩] 27 27) BX (fun w1 B1 => ?_)
  have HB := Lib.hid hB
  have HB1 := Lib.hid B1
  have hBs1 : B + 1 + 1 < w1.heap.size := lt_of_heap B1.z
  clear BX hB B1
  go_upto_region 2 with (first
    | (refine wpList_load_whole rfl 27 _ rfl B #[.string ⟨N.toArray⟩, .string ⟨D.toArray⟩] _ _ _ rfl HB1.out.x Tryz.underlying27 rfl HS.out ?_)
    | (refine wpList_load_whole rfl 27 _ rfl (B + 1) #[.string ⟨P.toArray⟩, .string ⟨Q.toArray⟩] _ _ _ rfl HB1.out.y Tryz.underlying27 rfl HS.out ?_)
    | (go_at_call 49; refine (QB.out w1).mono ?_; rintro e w2 ⟨on, nn, cn, od, nd, cd, op, np, cp, oq, nq, cq, rfl, hg, bel2⟩; have HG := Lib.hid hg; have HB2 := Lib.hid (HB1.out.keep (by omega) bel2); have hBs2 : B + 1 + 1 < w2.heap.size := lt_of_heap HB2.out.z; clear hg bel2)
    | (refine wpList_store_whole rfl rfl 90 _ _ rfl w2.heap.size #[.slice none 0 0, .slice none 0 0] #[.slice on nn cn, .slice od nd cd] 90 rfl rfl (heap_lt (heap_at rfl)) rfl HL.out (two_slices _ _ _ _ _ _) ?_; intro w3 ho3 hp3; have HO3 := Lib.hid ho3; have HP3 := Lib.hid hp3; clear ho3 hp3)
    | (refine wpList_store_whole rfl rfl 90 _ _ rfl (w2.heap.size + 1) #[.slice none 0 0, .slice none 0 0] #[.slice op np cp, .slice oq nq cq] 90 rfl rfl (HO3.out.keep (by omega) (heap_at (by simp))) rfl HL.out (two_slices _ _ _ _ _ _) ?_; intro w4 ho4 hp4; have HO4 := Lib.hid ho4; have HP4 := Lib.hid hp4; clear ho4 hp4))
  have al : Below w2.heap.size w2 ((w2.alloc (.cells #[.slice none 0 0, .slice none 0 0] 90)).alloc (.cells #[.slice none 0 0, .slice none 0 0] 90)) := ((Below.refl _ _).alloc (Nat.le_refl _) _).alloc (by simp) _
  have b4 : Below w2.heap.size w2 w4 := bel_only (bel_only al HO3.out (Nat.le_refl _)) HO4.out (by omega)
  have M4 : FracMid B w2.heap.size w w4 on od op oq nn cn nd cd np cp nq cq := ⟨HB2.out.bel.trans (b4.mono (by omega)), bel_keep b4 (lt_of_heap HB2.out.z) HB2.out.z, HO4.out.keep (by omega) HP3.out, HP4.out, hBs2⟩
  have HM4 := Lib.hid M4
  have HG4 := Lib.hid (show wrongF2 N D P Q = 0 → nn = (dig (dv N)).length ∧ nd = (dig (dv D)).length ∧ np = (dig (dv P)).length ∧ nq = (dig (dv Q)).length ∧ LFr w4 (dv N) (dv D) on od ∧ LFr w4 (dv P) (dv Q) op oq from fun h => by
    obtain ⟨e1, e2, e3, e4, e5, e6⟩ := HG.out h
    exact ⟨e1, e2, e3, e4, e5.below b4, e6.below b4⟩)
  have hs4 : B + 1 + 1 < w4.heap.size := lt_of_heap M4.z
  clear M4 HO3 HP3 HO4 HP4 HB2 HG HB1 QB al b4
  generalize w2.heap.size = C at *
  by_cases h0 : wrongF2 N D P Q = 0
  · obtain ⟨rfl, rfl, rfl, rfl, h5, h6⟩ := HG4.out h0
    have H5 := Lib.hid h5
    have H6 := Lib.hid h6
    obtain ⟨w01, w02⟩ := wrongF2_good h0
    obtain ⟨bN, bD, hD0⟩ := good_frac w01
    obtain ⟨bP, bQ, hQ0⟩ := good_frac w02
    have l1 : (dig (dv N)).length < 274877906944 := Nat.lt_of_le_of_lt bN.limbs (by decide)
    have l2 : (dig (dv D)).length < 274877906944 := Nat.lt_of_le_of_lt bD.limbs (by decide)
    have l3 : (dig (dv P)).length < 274877906944 := Nat.lt_of_le_of_lt bP.limbs (by decide)
    have l4 : (dig (dv Q)).length < 274877906944 := Nat.lt_of_le_of_lt bQ.limbs (by decide)
    have H0 := Lib.hid h0
    have HD0 := Lib.hid hD0
    have HQ0 := Lib.hid hQ0
    have n1 : (dig ((dv N * dv Q + dv P * dv D) / Nat.gcd (dv N * dv Q + dv P * dv D) (dv D * dv Q))).length < 1099511627776 := Nat.lt_of_le_of_lt (((bN.mul bQ).add (bP.mul bD)).div _).limbs (by decide)
    have n2 : (dig ((dv D * dv Q) / Nat.gcd (dv N * dv Q + dv P * dv D) (dv D * dv Q))).length < 1099511627776 := Nat.lt_of_le_of_lt ((bD.mul bQ).div _).limbs (by decide)
    rw [h0]
    clear h5 h6 w01 w02 bN bD hD0 bP bQ hQ0 h0 HG4
    have QD := Lib.hid (exFPlus_any (dv N) (dv D) (dv P) (dv Q) on od op oq cn cd cp cq w4 H5.out H6.out (Nat.mul_pos HD0.out HQ0.out) l1 l2 l3 l4)
    have QT := Lib.hid (fun on od cn cd w h => natTold_any ((dv N * dv Q + dv P * dv D) / Nat.gcd (dv N * dv Q + dv P * dv D) (dv D * dv Q)) ((dv D * dv Q) / Nat.gcd (dv N * dv Q + dv P * dv D) (dv D * dv Q)) on od cn cd w h n1 n2)
    have hans := Lib.hid (show AN = .tuple #[.agg #[.string ⟨(strD ((dv N * dv Q + dv P * dv D) / Nat.gcd (dv N * dv Q + dv P * dv D) (dv D * dv Q))).toArray⟩, .string ⟨(strD ((dv D * dv Q) / Nat.gcd (dv N * dv Q + dv P * dv D) (dv D * dv Q))).toArray⟩], .int .i64 0] by rw [HAN.out, H0.out]; rfl)
    generalize (dv N * dv Q + dv P * dv D) / Nat.gcd (dv N * dv Q + dv P * dv D) (dv D * dv Q) = NN at *
    generalize (dv D * dv Q) / Nat.gcd (dv N * dv Q + dv P * dv D) (dv D * dv Q) = DD at *
    generalize strD NN = SN at *
    generalize strD DD = SD at *
    go_wp2_with (first
      | (refine wpList_load_whole rfl 90 _ rfl C #[.slice on (dig (dv N)).length cn, .slice od (dig (dv D)).length cd] _ _ _ rfl HM4.out.c Tryz.underlying90 rfl HL.out ?_)
      | (refine wpList_load_whole rfl 90 _ rfl (C + 1) #[.slice op (dig (dv P)).length cp, .slice oq (dig (dv Q)).length cq] _ _ _ rfl HM4.out.d Tryz.underlying90 rfl HL.out ?_)
      | (go_at_call 48; refine QD.out.mono ?_; rintro e w6 ⟨or, os, cr, cs, rfl, hr, bel6⟩; have HR := Lib.hid hr; have HM6 := Lib.hid (HM4.out.keep bel6); clear hr bel6)
      | (go_at_call 88; refine (QT.out or os cr cs w6 HR.out).mono ?_; rintro e w7 ⟨rfl, bel7⟩; have HM7 := Lib.hid (HM6.out.keep bel7); clear bel7)
      | (refine wpList_store_whole rfl rfl 27 _ _ rfl (B + 1 + 1) #[.string ⟨#[]⟩, .string ⟨#[]⟩] #[.string ⟨SN.toArray⟩, .string ⟨SD.toArray⟩] 27 rfl rfl HM7.out.z rfl HS.out (two_strings _ _) ?_; intro w8 ho hp))
    refine bodyPost_ret (results_cell_tmp rfl _ w8 (B + 1 + 1) _ _ _ _ _ rfl rfl hp Tryz.underlying27 rfl HS.out) rfl ⟨by first | (rw [hans.out]; done) | (rw [hans.out]; rfl), by rw [HB.out]; exact bel_only HM7.out.bel ho (by omega)⟩
  · have hans := Lib.hid (show AN = .tuple #[.agg #[.string ⟨#[]⟩, .string ⟨#[]⟩], .int .i64 (wrongF2 N D P Q : Int)] by rw [HAN.out]; unfold ansF; rw [if_neg h0, if_neg h0])
    have hne : ((wrongF2 N D P Q : Int) == 0) = false := by rw [beq_eq_false_iff_ne]; omega
    clear h0 HG4
    generalize wrongF2 N D P Q = n at *
    go_wp2_with ((refine wpList_store_whole rfl rfl 27 (.tmp 8) (.tmp 32) rfl (B + 1 + 1) #[.string ⟨#[]⟩, .string ⟨#[]⟩] #[.string ⟨#[]⟩, .string ⟨#[]⟩] 27 rfl rfl HM4.out.z rfl HS.out (two_strings _ _) ?_; intro w8 ho hp))
    refine bodyPost_ret (results_cell_tmp rfl _ w8 (B + 1 + 1) _ _ _ _ _ rfl rfl hp Tryz.underlying27 rfl HS.out) rfl ⟨by first | (rw [hans.out]; done) | (rw [hans.out]; rfl), by rw [HB.out]; exact bel_only HM4.out.bel ho (by omega)⟩
set_option maxHeartbeats 8000000 in
set_option maxRecDepth 100000 in
theorem natFPlus_any (N D P Q : Bytes) (w : World) (hN : N.length < 140737488355328) (hD : D.length < 140737488355328) (hP : P.length < 140737488355328) (hQ : Q.length < 140737488355328) :
    Calls Tryz.prog 16 #[.agg #[.string ⟨N.toArray⟩, .string ⟨D.toArray⟩], .agg #[.string ⟨P.toArray⟩, .string ⟨Q.toArray⟩]] w fun e w' => e = .returned (ansF (wrongF2 N D P Q) (strD ((dv N * dv Q + dv P * dv D) / Nat.gcd (dv N * dv Q + dv P * dv D) (dv D * dv Q))) (strD ((dv D * dv Q) / Nat.gcd (dv N * dv Q + dv P * dv D) (dv D * dv Q)))) ∧ Below w.heap.size w w' := by
  have QR := Lib.hid (fun w => fracPlus_any N D P Q w hN hD hP hQ)
  have HS := Lib.hid size_api
  clear hN hD hP hQ
  unfold ansF at QR ⊢
  generalize (if wrongF2 N D P Q = 0 then strD ((dv N * dv Q + dv P * dv D) / Nat.gcd (dv N * dv Q + dv P * dv D) (dv D * dv Q)) else []) = SN at *
  generalize (if wrongF2 N D P Q = 0 then strD ((dv D * dv Q) / Nat.gcd (dv N * dv Q + dv P * dv D) (dv D * dv Q)) else []) = SD at *
  generalize wrongF2 N D P Q = n at *
  go_enter Tryz.func16, Tryz.ntmps16
  go_upto_region 1 with (fail)
  have BX := Box3.mk' w #[.string ⟨N.toArray⟩, .string ⟨D.toArray⟩] #[.string ⟨P.toArray⟩, .string ⟨Q.toArray⟩] #[.string ⟨#[]⟩, .string ⟨#[]⟩] 27 27
  generalize hB : w.heap.size = B at *
  refine wp_abs (fun w1 => Box3 B w w1 #[.string ⟨N.toArray⟩, .string ⟨D.toArray⟩] #[.string ⟨P.toArray⟩, .string ⟨Q.toArray⟩] #[.string ⟨#[]⟩, .string ⟨#[]⟩] 27 27) BX (fun w1 B1 => ?_)
  have HB := Lib.hid hB
  have HB1 := Lib.hid B1
  have hBs1 : B + 1 + 1 < w1.heap.size := lt_of_heap B1.z
  clear BX hB B1
  go_wp2_with (first
    | (refine wpList_load_whole rfl 27 _ rfl B #[.string ⟨N.toArray⟩, .string ⟨D.toArray⟩] _ _ _ rfl HB1.out.x Tryz.underlying27 rfl HS.out ?_)
    | (refine wpList_load_whole rfl 27 _ rfl (B + 1) #[.string ⟨P.toArray⟩, .string ⟨Q.toArray⟩] _ _ _ rfl HB1.out.y Tryz.underlying27 rfl HS.out ?_)
    | (go_at_call 47; refine (QR.out w1).mono ?_; rintro e w2 ⟨rfl, bel2⟩; have HB2 := Lib.hid (HB1.out.keep (by omega) bel2); clear bel2)
    | (refine wpList_store_whole rfl rfl 27 _ _ rfl (B + 1 + 1) #[.string ⟨#[]⟩, .string ⟨#[]⟩] #[.string ⟨SN.toArray⟩, .string ⟨SD.toArray⟩] 27 rfl rfl HB2.out.z rfl HS.out (two_strings _ _) ?_; intro w8 ho hp))
  refine bodyPost_ret (results_cell_tmp rfl _ w8 (B + 1 + 1) _ _ _ _ _ rfl rfl hp Tryz.underlying27 rfl HS.out) rfl ⟨rfl, by rw [HB.out]; exact bel_only HB2.out.bel ho (by omega)⟩
set_option maxHeartbeats 8000000 in
set_option maxRecDepth 100000 in
theorem natOrder_any (N D P Q : Bytes) (w : World) (hN : N.length < 140737488355328) (hD : D.length < 140737488355328) (hP : P.length < 140737488355328) (hQ : Q.length < 140737488355328) :
    Calls Tryz.prog 18 #[.agg #[.string ⟨N.toArray⟩, .string ⟨D.toArray⟩], .agg #[.string ⟨P.toArray⟩, .string ⟨Q.toArray⟩]] w fun e w' => e = .returned (.tuple #[.int .i64 (if wrongF2 N D P Q = 0 then NL.cmpI (dv N * dv Q) (dv P * dv D) else 0), .int .i64 (wrongF2 N D P Q : Int)]) ∧ Below w.heap.size w w' := by
  have QB := Lib.hid (fun w => bothF_any N D P Q w hN hD hP hQ)
  have HS := Lib.hid size_api
  have HL := Lib.hid size_lfr
  clear hN hD hP hQ
  obtain ⟨AN, hAN⟩ : ∃ v, v = Value.tuple #[.int .i64 (if wrongF2 N D P Q = 0 then NL.cmpI (dv N * dv Q) (dv P * dv D) else 0), .int .i64 (wrongF2 N D P Q : Int)] := ⟨_, rfl⟩
  rw [← hAN]
  have HAN := Lib.hid hAN
  clear hAN
  go_enter Tryz.func18, Tryz.ntmps18
  go_upto_region 1 with (fail)
  have BX := Box2.mk' w #[.string ⟨N.toArray⟩, .string ⟨D.toArray⟩] #[.string ⟨P.toArray⟩, .string ⟨Q.toArray⟩] 27
  generalize hB : w.heap.size = B at *
  refine wp_abs (fun w1 => Box2 B w w1 #[.string ⟨N.toArray⟩, .string ⟨D.toArray⟩] #[.string ⟨P.toArray⟩, .string ⟨Q.toArray⟩] 27) BX (fun w1 B1 => ?_)
  have HB := Lib.hid hB
  have HB1 := Lib.hid B1
  have hBs1 : B + 1 < w1.heap.size := lt_of_heap B1.y
  clear BX hB B1
  go_upto_region 2 with (first
    | (refine wpList_load_whole rfl 27 _ rfl B #[.string ⟨N.toArray⟩, .string ⟨D.toArray⟩] _ _ _ rfl HB1.out.x Tryz.underlying27 rfl HS.out ?_)
    | (refine wpList_load_whole rfl 27 _ rfl (B + 1) #[.string ⟨P.toArray⟩, .string ⟨Q.toArray⟩] _ _ _ rfl HB1.out.y Tryz.underlying27 rfl HS.out ?_)
    | (go_at_call 49; refine (QB.out w1).mono ?_; rintro e w2 ⟨on, nn, cn, od, nd, cd, op, np, cp, oq, nq, cq, rfl, hg, bel2⟩; have HG := Lib.hid hg; have HB2 := Lib.hid (HB1.out.keep (by omega) bel2); have hBs2 : B + 1 < w2.heap.size := lt_of_heap HB2.out.y; clear hg bel2)
    | (refine wpList_store_whole rfl rfl 90 _ _ rfl w2.heap.size #[.slice none 0 0, .slice none 0 0] #[.slice on nn cn, .slice od nd cd] 90 rfl rfl (heap_lt (heap_at rfl)) rfl HL.out (two_slices _ _ _ _ _ _) ?_; intro w3 ho3 hp3; have HO3 := Lib.hid ho3; have HP3 := Lib.hid hp3; clear ho3 hp3)
    | (refine wpList_store_whole rfl rfl 90 _ _ rfl (w2.heap.size + 1) #[.slice none 0 0, .slice none 0 0] #[.slice op np cp, .slice oq nq cq] 90 rfl rfl (HO3.out.keep (by omega) (heap_at (by simp))) rfl HL.out (two_slices _ _ _ _ _ _) ?_; intro w4 ho4 hp4; have HO4 := Lib.hid ho4; have HP4 := Lib.hid hp4; clear ho4 hp4))
  have al : Below w2.heap.size w2 ((w2.alloc (.cells #[.slice none 0 0, .slice none 0 0] 90)).alloc (.cells #[.slice none 0 0, .slice none 0 0] 90)) := ((Below.refl _ _).alloc (Nat.le_refl _) _).alloc (by simp) _
  have b4 : Below w2.heap.size w2 w4 := bel_only (bel_only al HO3.out (Nat.le_refl _)) HO4.out (by omega)
  have B4 := Lib.hid (HB2.out.bel.trans (b4.mono (by omega)))
  have hc : w4.heap[w2.heap.size]? = _ := HO4.out.keep (by omega) HP3.out
  have HC := Lib.hid hc
  have HD := Lib.hid HP4.out
  have HG4 := Lib.hid (show wrongF2 N D P Q = 0 → nn = (dig (dv N)).length ∧ nd = (dig (dv D)).length ∧ np = (dig (dv P)).length ∧ nq = (dig (dv Q)).length ∧ LFr w4 (dv N) (dv D) on od ∧ LFr w4 (dv P) (dv Q) op oq from fun h => by
    obtain ⟨e1, e2, e3, e4, e5, e6⟩ := HG.out h
    exact ⟨e1, e2, e3, e4, e5.below b4, e6.below b4⟩)
  clear HO3 HP3 HO4 HP4 HB2 HG HB1 QB al b4 hc
  generalize w2.heap.size = C at *
  by_cases h0 : wrongF2 N D P Q = 0
  · obtain ⟨rfl, rfl, rfl, rfl, h5, h6⟩ := HG4.out h0
    obtain ⟨w01, w02⟩ := wrongF2_good h0
    obtain ⟨bN, bD, hD0⟩ := good_frac w01
    obtain ⟨bP, bQ, hQ0⟩ := good_frac w02
    have QC := Lib.hid (exFCmp_any (dv N) (dv D) (dv P) (dv Q) on od op oq cn cd cp cq w4 h5 h6 (Nat.lt_of_le_of_lt bN.limbs (by decide)) (Nat.lt_of_le_of_lt bD.limbs (by decide)) (Nat.lt_of_le_of_lt bP.limbs (by decide)) (Nat.lt_of_le_of_lt bQ.limbs (by decide)))
    have hans := Lib.hid (show AN = .tuple #[.int .i64 (NL.cmpI (dv N * dv Q) (dv P * dv D)), .int .i64 0] by rw [HAN.out, if_pos h0, h0]; rfl)
    rw [h0]
    generalize NL.cmpI (dv N * dv Q) (dv P * dv D) = z at *
    clear h5 h6 w01 w02 bN bD hD0 bP bQ hQ0 h0 HG4
    go_wp2_with (first
      | (refine wpList_load_whole rfl 90 _ rfl C #[.slice on (dig (dv N)).length cn, .slice od (dig (dv D)).length cd] _ _ _ rfl HC.out Tryz.underlying90 rfl HL.out ?_)
      | (refine wpList_load_whole rfl 90 _ rfl (C + 1) #[.slice op (dig (dv P)).length cp, .slice oq (dig (dv Q)).length cq] _ _ _ rfl HD.out Tryz.underlying90 rfl HL.out ?_)
      | (go_at_call 51; refine QC.out.mono ?_; rintro e w6 ⟨rfl, bel6⟩; have B6 := Lib.hid (B4.out.trans (bel6.mono (HB.out ▸ B4.out.size))); clear bel6))
    go_ret2
    exact ⟨by first | (rw [hans.out]; done) | (rw [hans.out]; rfl), by rw [HB.out]; exact B6.out⟩
  · have hans := Lib.hid (show AN = .tuple #[.int .i64 0, .int .i64 (wrongF2 N D P Q : Int)] by rw [HAN.out, if_neg h0])
    have hne : ((wrongF2 N D P Q : Int) == 0) = false := by rw [beq_eq_false_iff_ne]; omega
    clear h0 HG4
    generalize wrongF2 N D P Q = n at *
    go_wp2_with fail
    go_ret2
    exact ⟨by first | (rw [hans.out]; done) | (rw [hans.out]; rfl), by rw [HB.out]; exact B4.out⟩
end Go.Proofs.YtnohcdpnnhmpfaaGreatDoor.KF
