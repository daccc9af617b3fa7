/-
  Chapter 14: audit.Draw. Printed by tools/gendraw.py.
-/
import Derived.Test.YtlbdcgnpkapncaaDoorAuH
import Derived.Test.YtlbdcgnpkapncaaDoorAuI
namespace Go.Proofs.YtlbdcgnpkapncaaDoor
set_option linter.unusedVariables false
set_option linter.unusedSimpArgs false
open Go.RowKit ML FM NL AU

theorem own_base {w : World} {base base' : Nat} {e : TypeId} {s : Nat} {v : Value} {n : Nat} {xs : List Value} (h : w.ownsRow base e s v n xs) (hb : base' ≤ base) : w.ownsRow base' e s v n xs := ⟨h.1, by
  rcases h.2 with h0 | ⟨g, cap, cur, hv, hg, rest⟩
  · exact .inl h0
  · exact .inr ⟨g, cap, cur, hv, Nat.le_trans hb hg, rest⟩⟩
theorem grow_base {good : Value → Bool} {w : World} {base base' : Nat} {e : TypeId} {s : Nat} {v : Value} {n : Nat} {xs : List Value} (h : GRow good w base e s v n xs) (hb : base' ≤ base) : GRow good w base' e s v n xs := ⟨own_base h.own hb, h.all⟩
theorem apart_later {w w1 : World} {base : Nat} {e e' : TypeId} {s s' : Nat} {v v' : Value} {n n' : Nat} {xs xs' : List Value} (h : w.ownsRow base e s v n xs) (h' : w1.ownsRow w.heap.size e' s' v' n' xs') : Apart v v' := by
  cases hv : v.ownBlock with
  | none => exact .inl hv
  | some k =>
    right
    rw [hv]
    intro he
    have h1 := (h.lt k hv).2
    have h2 := (h'.lt k he.symm).1
    omega
theorem own_kept {w w1 : World} {base X : Nat} {e : TypeId} {s : Nat} {v : Value} {n : Nat} {xs : List Value} {cs : Array Value} {t : TypeId} (h : w.ownsRow base e s v n xs) (hX : w.heap[X]? = some (.cells cs t (0, 0))) (hne : e ≠ t) (ho : Only X w w1) : w1.ownsRow base e s v n xs := h.kept (grown_only ho) (.inr (own_ne h hX hne))
theorem own_there {w : World} {base g n n' cap k : Nat} {e : TypeId} {xs : List Value} (h : w.ownsRow base e 2 (.slice (some ⟨g, 0, none⟩) n' cap) n xs) (hk : k < n) : w.there g (k * 2) 2 := fun j hj => by
  rcases h.2 with ⟨h0, _⟩ | ⟨g2, cap2, cur, h0, _, hg, hnc, _, hcs, _⟩
  · cases h0
  · injection h0 with h0
    injection h0 with h0
    injection h0 with h0
    subst h0
    rw [cell_of_row w g (k * 2 + j) cur e _ hg]
    exact ⟨by simp; omega, frozen_of_row w g (k * 2 + j) cur e hg⟩
theorem tD_pos {a b c d : Nat} (h : 0 < b * d) : 0 < tD a b c d := Nat.div_pos (Nat.le_of_dvd h (Nat.gcd_dvd_right _ _)) (Nat.gcd_pos_of_pos_right _ h)
theorem tN_dig (a b c d : Nat) : (dig (tN a b c d)).length ≤ (dig a).length + (dig c).length := Nat.le_trans (dig_le (Nat.div_le_self _ _)) (NL.length_mul _ _)
theorem tD_dig (a b c d : Nat) : (dig (tD a b c d)).length ≤ (dig b).length + (dig d).length := Nat.le_trans (dig_le (Nat.div_le_self _ _)) (NL.length_mul _ _)
set_option maxHeartbeats 8000000 in
set_option maxRecDepth 100000 in
theorem audDraw_any (A B : List Int) (S O : List (Bytes × Bytes)) (N D : Bytes) (dr : Int) (M : List Int) (o0 o1 o2 o3 oM : Option Addr) (c0 c1 c2 c3 cM : Nat) (w : World) (hW : WAt w o0 o1 o2 o3 A B S O) (hM : IsAt w oM M) (lA : A.length < 140737488355) (lM : M.length < 9223372036854775808) (hN : N.length < 140737488355328) (hD : D.length < 140737488355328) (lS : Short S 140737488355327) (lO : Short O 99999999) :
    Calls Tryd.prog 13 #[.agg #[.slice o0 A.length c0, .slice o1 B.length c1, .slice o2 S.length c2, .slice o3 O.length c3, .string ⟨N.toArray⟩, .string ⟨D.toArray⟩, .int .i64 dr], .slice oM M.length cM] w (DrawGot A B S O N D dr M w) := by
  have QBL := Lib.hid (fun w => between_any (M.length : Int) 2 12 w)
  have QCM := Lib.hid (fun w h => containsBadM_any oM M cM w h lM)
  have QBD := Lib.hid (fun w => between_any dr 0 1023 w)
  have HS := Lib.hid size_watch
  have HW := Lib.hid hW
  have HMM := Lib.hid hM
  have HE0 := Lib.hid (show drawE A B S O N D dr M = _ from rfl)
  unfold drawE at HE0
  have LS := Lib.hid lS
  have LO := Lib.hid lO
  clear hW hM lS lO
  go_enter Tryd.func13, Tryd.ntmps13
  go_upto_region 1 with (fail)
  have BX := BoxR.mk' w #[.slice o0 A.length c0, .slice o1 B.length c1, .slice o2 S.length c2, .slice o3 O.length c3, .string ⟨N.toArray⟩, .string ⟨D.toArray⟩, .int .i64 dr] #[.slice none 0 0, .slice none 0 0, .slice none 0 0, .slice none 0 0, .string ⟨#[]⟩, .string ⟨#[]⟩, .int .i64 0] 27 27
  generalize hB : w.heap.size = B0 at *
  refine wp_abs (fun w1 => BoxR B0 w w1 #[.slice o0 A.length c0, .slice o1 B.length c1, .slice o2 S.length c2, .slice o3 O.length c3, .string ⟨N.toArray⟩, .string ⟨D.toArray⟩, .int .i64 dr] #[.slice none 0 0, .slice none 0 0, .slice none 0 0, .slice none 0 0, .string ⟨#[]⟩, .string ⟨#[]⟩, .int .i64 0] 27 27) BX (fun w1 B1 => ?_)
  have HB := Lib.hid hB
  have hb1 : B0 + 1 < w1.heap.size := lt_of_heap B1.z
  have HBX := Lib.hid B1
  have HM1 := Lib.hid (HMM.out.below (by rw [hB]; exact B1.bel))
  have HW1 := Lib.hid (HW.out.below (by rw [hB]; exact B1.bel))
  clear BX hB B1
  by_cases hl : 2 ≤ M.length ∧ M.length ≤ 12
  case neg =>
    have HE := Lib.hid (show drawE A B S O N D dr M = 2 from if_pos (by omega))
    have dl : decide ((2 : Int) ≤ (M.length : Int) ∧ (M.length : Int) ≤ 12) = false := decide_eq_false (by omega)
    rw [dl] at QBL
    clear dl hl
    go_wp2_with (first | (go_at_call 22; refine (QBL.out w1).mono ?_; rintro e w7 ⟨rfl, rfl⟩) | (refine wpList_store_whole rfl rfl 27 _ _ rfl (B0 + 1) #[.slice none 0 0, .slice none 0 0, .slice none 0 0, .slice none 0 0, .string ⟨#[]⟩, .string ⟨#[]⟩, .int .i64 0] #[.slice none 0 0, .slice none 0 0, .slice none 0 0, .slice none 0 0, .string ⟨#[]⟩, .string ⟨#[]⟩, .int .i64 0] 27 rfl rfl HBX.out.z rfl HS.out (seven_one _ _ _ _ _ _ _ rfl rfl rfl rfl rfl rfl rfl) ?_; intro w9 ho9 hp9))
    refine bodyPost_ret (results_cell_tmp rfl _ w9 (B0 + 1) _ _ _ _ _ rfl rfl hp9 Tryd.underlying27 rfl HS.out) rfl (drawGot_bad HE.out (by decide) rfl (bel_only (by rw [HB.out]; exact HBX.out.bel) ho9 (by rw [HB.out]; omega)))
  have dl : decide ((2 : Int) ≤ (M.length : Int) ∧ (M.length : Int) ≤ 12) = true := decide_eq_true (by omega)
  rw [dl] at QBL
  clear dl
  have HE1 := Lib.hid (show drawE A B S O N D dr M = _ from if_neg (show ¬ (M.length < 2 ∨ 12 < M.length) by omega))
  clear HE0
  cases hbm : M.any badM with
  | true =>
    have HE := Lib.hid (show drawE A B S O N D dr M = 2 from HE1.out.trans (if_pos hbm))
    rw [hbm] at QCM
    clear hbm
    go_wp2_with (first | (go_at_call 22; refine (QBL.out w1).mono ?_; rintro e w7 ⟨rfl, rfl⟩) | (go_at_call 23; refine (QCM.out w1 HM1.out).mono ?_; rintro e w7 ⟨rfl, rfl⟩) | (refine wpList_store_whole rfl rfl 27 _ _ rfl (B0 + 1) #[.slice none 0 0, .slice none 0 0, .slice none 0 0, .slice none 0 0, .string ⟨#[]⟩, .string ⟨#[]⟩, .int .i64 0] #[.slice none 0 0, .slice none 0 0, .slice none 0 0, .slice none 0 0, .string ⟨#[]⟩, .string ⟨#[]⟩, .int .i64 0] 27 rfl rfl HBX.out.z rfl HS.out (seven_one _ _ _ _ _ _ _ rfl rfl rfl rfl rfl rfl rfl) ?_; intro w9 ho9 hp9))
    refine bodyPost_ret (results_cell_tmp rfl _ w9 (B0 + 1) _ _ _ _ _ rfl rfl hp9 Tryd.underlying27 rfl HS.out) rfl (drawGot_bad HE.out (by decide) rfl (bel_only (by rw [HB.out]; exact HBX.out.bel) ho9 (by rw [HB.out]; omega)))
  | false =>
  have HE2 := Lib.hid (show drawE A B S O N D dr M = _ from HE1.out.trans (if_neg (by rw [hbm]; decide)))
  have HBM := Lib.hid hbm
  rw [hbm] at QCM
  clear hbm HE1
  have QR := Lib.hid (fun w h => audRead_any A B S O N D dr (M.length : Int) o0 o1 o2 o3 c0 c1 c2 c3 w h lA hN hD LS.out (LO.out.mono (by decide)) (by omega))
  unfold RdGot at QR
  obtain ⟨R, hR⟩ : ∃ R, R = rightW A B S O N D M.length := ⟨_, rfl⟩
  rw [← hR] at QR HE2
  have HR := Lib.hid hR
  clear hR hN hD
  go_upto_region 4 with (first
    | (go_at_call 22; refine (QBL.out w1).mono ?_; rintro e w7 ⟨rfl, rfl⟩)
    | (go_at_call 23; refine (QCM.out w1 HM1.out).mono ?_; rintro e w7 ⟨rfl, rfl⟩)
    | (refine wpList_load_whole rfl 27 _ rfl B0 _ _ _ _ rfl HBX.out.x Tryd.underlying27 rfl size_watch ?_)
    | (go_at_call 36; refine (QR.out w1 HW1.out).mono ?_; rintro e w4 ⟨op, np, cp, ol, nl, cl, om, nm, cm, rfl, hg, b4⟩)
    | (refine wpList_store_whole rfl rfl 73 _ _ rfl w4.heap.size #[.slice none 0 0, .slice none 0 0, .slice none 0 0] #[.slice op np cp, .slice ol nl cl, .slice om nm cm] 73 rfl rfl (heap_at rfl) rfl size_awatch (three_one _ _ _ rfl rfl rfl) ?_; intro w6 ho hp))
  have b46 : Below w4.heap.size w4 w6 := bel_only ((Below.refl _ _).alloc (Nat.le_refl _) _) ho (Nat.le_refl _)
  have b16 := b4.trans (b46.mono b4.size)
  have HBY := Lib.hid (HBX.out.keep (by omega) b16)
  have HRD := Lib.hid hp
  have HG6 := Lib.hid (show R = true → ∃ L : List PD, np = L.length ∧ L.length = A.length ∧ PMatch A B S O L ∧ PsAt w6 op L ∧ nl = (dig (limN (dv N) (dv D))).length ∧ nm = (dig (limD (dv N) (dv D))).length ∧ LFr w6 (limN (dv N) (dv D)) (limD (dv N) (dv D)) ol om from fun h => by
    obtain ⟨L, h1, h2, h3, h4, h5, h6, h7⟩ := hg h
    exact ⟨L, h1, h2, h3, h4.below b46, h5, h6, h7.below b46⟩)
  have HM6 := Lib.hid (HM1.out.below b16)
  have HW6 := Lib.hid (HW1.out.below b16)
  have hb6 : B0 + 1 < w6.heap.size := lt_of_heap HBY.out.z
  have hEB : B0 + 1 < w4.heap.size := Nat.lt_of_lt_of_le hb1 b4.size
  have hE6 : w4.heap.size < w6.heap.size := lt_of_heap hp
  clear hg b4 b46 b16 ho hp QR HBX HM1 HW1 HW hb1 QBL QCM
  generalize w4.heap.size = E at *
  cases hR : R with
  | false =>
    have HE := Lib.hid (show drawE A B S O N D dr M = 2 from HE2.out.trans (if_pos hR))
    clear hR
    go_wp2_with (first | (refine wpList_store_whole rfl rfl 27 _ _ rfl (B0 + 1) #[.slice none 0 0, .slice none 0 0, .slice none 0 0, .slice none 0 0, .string ⟨#[]⟩, .string ⟨#[]⟩, .int .i64 0] #[.slice none 0 0, .slice none 0 0, .slice none 0 0, .slice none 0 0, .string ⟨#[]⟩, .string ⟨#[]⟩, .int .i64 0] 27 rfl rfl HBY.out.z rfl HS.out (seven_one _ _ _ _ _ _ _ rfl rfl rfl rfl rfl rfl rfl) ?_; intro w9 ho9 hp9))
    refine bodyPost_ret (results_cell_tmp rfl _ w9 (B0 + 1) _ _ _ _ _ rfl rfl hp9 Tryd.underlying27 rfl HS.out) rfl (drawGot_bad HE.out (by decide) rfl (bel_only (by rw [HB.out]; exact HBY.out.bel) ho9 (by rw [HB.out]; omega)))
  | true =>
  have HE3 := Lib.hid (show drawE A B S O N D dr M = _ from HE2.out.trans (if_neg (by rw [hR]; decide)))
  have HRW := Lib.hid (rightW_iff.1 (HR.out.symm.trans hR))
  obtain ⟨L, rfl, hL, hPM, hPS, rfl, rfl, hLF⟩ := HG6.out hR
  subst hR
  have d5 : w6.cell? ⟨B0, 5 + 1, none⟩ = some (.int .i64 dr) := cell_of_row w6 B0 6 _ _ _ HBY.out.x
  have d5' : w6.cell? ⟨B0, 6, none⟩ = some (.int .i64 dr) := d5
  by_cases hd : 0 ≤ dr ∧ dr ≤ 1023
  case neg =>
    have HE := Lib.hid (show drawE A B S O N D dr M = 3 from HE3.out.trans (if_pos hd))
    have dl : decide ((0 : Int) ≤ dr ∧ dr ≤ 1023) = false := decide_eq_false hd
    rw [dl] at QBD
    clear dl hd
    go_wp2_with (first | (go_at_call 22; refine (QBD.out w6).mono ?_; rintro e w7 ⟨rfl, rfl⟩) | (refine wpList_store_whole rfl rfl 27 _ _ rfl (B0 + 1) #[.slice none 0 0, .slice none 0 0, .slice none 0 0, .slice none 0 0, .string ⟨#[]⟩, .string ⟨#[]⟩, .int .i64 0] #[.slice none 0 0, .slice none 0 0, .slice none 0 0, .slice none 0 0, .string ⟨#[]⟩, .string ⟨#[]⟩, .int .i64 0] 27 rfl rfl HBY.out.z rfl HS.out (seven_one _ _ _ _ _ _ _ rfl rfl rfl rfl rfl rfl rfl) ?_; intro w9 ho9 hp9))
    refine bodyPost_ret (results_cell_tmp rfl _ w9 (B0 + 1) _ _ _ _ _ rfl rfl hp9 Tryd.underlying27 rfl HS.out) rfl (drawGot_bad HE.out (by decide) rfl (bel_only (by rw [HB.out]; exact HBY.out.bel) ho9 (by rw [HB.out]; omega)))
  have HE := Lib.hid (show drawE A B S O N D dr M = 0 from HE3.out.trans (if_neg (fun h => h hd)))
  have dl : decide ((0 : Int) ≤ dr ∧ dr ≤ 1023) = true := decide_eq_true hd
  rw [dl] at QBD
  have HL := Lib.hid hL
  have HPM := Lib.hid hPM
  have HPS := Lib.hid hPS
  have HLF := Lib.hid hLF
  have hL2 := lim_small HRW.out.risk
  have HL2 := Lib.hid (And.intro hL2.1 hL2.2.1)
  have HD0 := Lib.hid hL2.2.2
  have HSM := Lib.hid (pairs_small HRW.out hL hPM LO.out)
  have HNX := Lib.hid (fun (p : Bytes × Bytes) => done_aud (o := p) (N := N) HD0.out.1)
  generalize limN (dv N) (dv D) = LN at *
  generalize limD (dv N) (dv D) = LD at *
  clear dl HE2 HE3 hL hPM hPS hLF hL2 HG6
  have hd1 := hd.1
  have hd2 := hd.2
  clear hd
  go_upto_region 8 with (first | (go_at_call 22; refine (QBD.out w6).mono ?_; rintro e w7 ⟨rfl, rfl⟩))
  obtain ⟨M0, hM0⟩ : ∃ M0, M0 = w6.heap.size := ⟨_, rfl⟩
  have HM0 := Lib.hid hM0
  have hBM : B0 < M0 := by omega
  have hEM : E < M0 := by omega
  have hBM2 : B0 + 1 + 1 ≤ M0 := by omega
  clear hM0 d5 d5'
  have hx0 : Below M0 w6 w6.drew := (Below.refl _ _).drew
  have sx0 : M0 ≤ w6.drew.heap.size := Nat.le_of_eq HM0.out
  have lBB := Lib.hid HRW.out.lb
  have lSS := Lib.hid HRW.out.ls
  have lOO := Lib.hid HRW.out.lo
  have QA := Lib.hid (fun w h => cloneInts_any o0 A c0 w h lA)
  have QB := Lib.hid (fun w h => cloneInts_any o1 B c1 w h (by rw [lBB.out]; exact lA))
  have QS := Lib.hid (fun w h => cloneFracs_any o2 S c2 w h (by rw [lSS.out]; exact lA))
  have QO := Lib.hid (fun w h => cloneFracs_any o3 O c3 w h (by rw [lOO.out]; exact lA))
  go_cut [8] (fun v w' => ∃ (X : Nat) (b0 b1 b2 b3 : Option Addr) (k0 k1 k2 k3 : Nat), v = .pointer (some ⟨X, 0, none⟩) ∧ w'.heap[X]? = some (.cells #[.slice b0 A.length k0, .slice b1 B.length k1, .slice b2 S.length k2, .slice b3 O.length k3, .string ⟨N.toArray⟩, .string ⟨D.toArray⟩, .int .i64 (dr + 1)] 27 (0, 0)) ∧ M0 ≤ X ∧ w'.ownsRow M0 3 1 (.slice b0 A.length k0) A.length (ivals A) ∧ w'.ownsRow M0 3 1 (.slice b1 B.length k1) B.length (ivals B) ∧ w'.ownsRow M0 24 2 (.slice b2 S.length k2) S.length (fvals S) ∧ GRow isStr w' M0 24 2 (.slice b3 O.length k3) O.length (fvals O) ∧ Apart (.slice b2 S.length k2) (.slice b3 O.length k3) ∧ Below M0 w6 w')
  case first =>
    refine Seg.wp_region_plan (fun w' => ∃ x : BelowT M0 w6, w' = x.w) (.quiet [0, 1, 3, 4, 6, 7, 9, 10, 12, 13, 14, 15, 16] (.alt 2 (.alt 5 (.alt 8 (.alt 11 (.quiet [17] (.one 18 (.last []))) (.one 18 (.one 11 (.last [17])))) (.one 18 (.one 8 (.one 11 (.last [17]))))) (.one 18 (.one 5 (.one 8 (.one 11 (.last [17])))))) (.one 18 (.one 2 (.one 5 (.one 8 (.one 11 (.last [17])))))))) 19 (by kernel_rfl) (by kernel_rfl) (fun _ _ d _ _ h => by cases d <;> exact h) (⟨⟨_, hx0⟩, rfl⟩) ?_
    try simp only [Seg.wpPlan, List.map_cons, List.map_nil, Seg.opAt, List.drop_succ_cons, List.drop_zero, Array.getD_eq_getD_getElem?, List.getElem?_toArray, List.getElem?_cons_succ, List.getElem?_cons_zero, Option.getD_some]
    first | go_big_quiet_step (fail) | quiet_step (fail)
    refine wpQuiet_load_one rfl 22 _ rfl ⟨B0, 0, none⟩ (.slice o0 A.length c0) _ rfl (fun w' hw' => by obtain ⟨x, rfl⟩ := hw'; exact cell_of_row _ B0 0 _ _ _ (bel_keep x.2 hBM HBY.out.x)) Tryd.underlying22 rfl ?_
    first | go_big_quiet_step (fail) | quiet_step (fail)
    refine wpQuiet_load_one rfl 22 _ rfl ⟨B0, 1, none⟩ (.slice o1 B.length c1) _ rfl (fun w' hw' => by obtain ⟨x, rfl⟩ := hw'; exact cell_of_row _ B0 1 _ _ _ (bel_keep x.2 hBM HBY.out.x)) Tryd.underlying22 rfl ?_
    first | go_big_quiet_step (fail) | quiet_step (fail)
    refine wpQuiet_load_one rfl 25 _ rfl ⟨B0, 2, none⟩ (.slice o2 S.length c2) _ rfl (fun w' hw' => by obtain ⟨x, rfl⟩ := hw'; exact cell_of_row _ B0 2 _ _ _ (bel_keep x.2 hBM HBY.out.x)) Tryd.underlying25 rfl ?_
    first | go_big_quiet_step (fail) | quiet_step (fail)
    refine wpQuiet_load_one rfl 25 _ rfl ⟨B0, 3, none⟩ (.slice o3 O.length c3) _ rfl (fun w' hw' => by obtain ⟨x, rfl⟩ := hw'; exact cell_of_row _ B0 3 _ _ _ (bel_keep x.2 hBM HBY.out.x)) Tryd.underlying25 rfl ?_
    first | go_big_quiet_step (fail) | quiet_step (fail)
    refine wpQuiet_load_at rfl 24 _ rfl ⟨B0, 4, none⟩ [.string ⟨N.toArray⟩, .string ⟨D.toArray⟩] _ rfl (fun w' hw' => by obtain ⟨x, rfl⟩ := hw'; exact mid_blk (bel_keep x.2 hBM HBY.out.x) _ (fun j u hj => by match j with | 0 => exact hj | 1 => exact hj | _ + 2 => cases hj)) Tryd.underlying24 rfl size_apiF ?_
    first | go_big_quiet_step (fail) | quiet_step (fail)
    refine wpQuiet_load_one rfl 3 _ rfl ⟨B0, 6, none⟩ (.int .i64 dr) _ rfl (fun w' hw' => by obtain ⟨x, rfl⟩ := hw'; exact cell_of_row _ B0 6 _ _ _ (bel_keep x.2 hBM HBY.out.x)) Tryd.underlying3 rfl ?_
    first | go_big_quiet_step (fail) | quiet_step (fail)
    refine wpQuiet_nil ?_
    try simp only [Seg.wpPlan, List.map_cons, List.map_nil, Seg.opAt, List.drop_succ_cons, List.drop_zero, Array.getD_eq_getD_getElem?, List.getElem?_toArray, List.getElem?_cons_succ, List.getElem?_cons_zero, Option.getD_some]
    generalize w6.drew = x0 at *
    refine ⟨?_, ?_⟩
    · try unfold Seg.wpUp
      intro K hK
      first | go_simp | skip
      go_wp2_with (go_at_call 43; refine (QA.out x0 (HW6.out.i0.below (HM0.out ▸ hx0))).mono ?_; rintro e x1 ⟨b0, k0, rfl, owq, twx1⟩)
      have hx1 := hx0.trans (twx1.mono sx0)
      have sx1 := Nat.le_trans sx0 twx1.size
      have own0 := own_base owq sx0
      clear owq
      refine hK _ _ ⟨⟨_, hx1⟩, rfl⟩ ?_
      clear hK K hx0 sx0 twx1
      try simp only [Seg.wpPlan, List.map_cons, List.map_nil, Seg.opAt, List.drop_succ_cons, List.drop_zero, Array.getD_eq_getD_getElem?, List.getElem?_toArray, List.getElem?_cons_succ, List.getElem?_cons_zero, Option.getD_some]
      refine ⟨?_, ?_⟩
      · try unfold Seg.wpUp
        intro K hK
        first | go_simp | skip
        go_wp2_with (go_at_call 43; refine (QB.out x1 (HW6.out.i1.below (HM0.out ▸ hx1))).mono ?_; rintro e x2 ⟨b1, k1, rfl, owq, twx2⟩)
        have hx2 := hx1.trans (twx2.mono sx1)
        have sx2 := Nat.le_trans sx1 twx2.size
        have own1 := own_base owq sx1
        clear owq
        have kk := own_below own0 twx2
        clear own0
        have own0 := kk
        clear kk
        refine hK _ _ ⟨⟨_, hx2⟩, rfl⟩ ?_
        clear hK K hx1 sx1 twx2
        try simp only [Seg.wpPlan, List.map_cons, List.map_nil, Seg.opAt, List.drop_succ_cons, List.drop_zero, Array.getD_eq_getD_getElem?, List.getElem?_toArray, List.getElem?_cons_succ, List.getElem?_cons_zero, Option.getD_some]
        refine ⟨?_, ?_⟩
        · try unfold Seg.wpUp
          intro K hK
          first | go_simp | skip
          go_wp2_with (go_at_call 44; refine (QS.out x2 (HW6.out.f2.below (HM0.out ▸ hx2))).mono ?_; rintro e x3 ⟨b2, k2, rfl, gr2, twx3⟩)
          have hx3 := hx2.trans (twx3.mono sx2)
          have sx3 := Nat.le_trans sx2 twx3.size
          have own2 := own_base gr2.own sx2
          clear gr2
          have kk := own_below own0 twx3
          clear own0
          have own0 := kk
          clear kk
          have kk := own_below own1 twx3
          clear own1
          have own1 := kk
          clear kk
          refine hK _ _ ⟨⟨_, hx3⟩, rfl⟩ ?_
          clear hK K hx2 sx2 twx3
          try simp only [Seg.wpPlan, List.map_cons, List.map_nil, Seg.opAt, List.drop_succ_cons, List.drop_zero, Array.getD_eq_getD_getElem?, List.getElem?_toArray, List.getElem?_cons_succ, List.getElem?_cons_zero, Option.getD_some]
          refine ⟨?_, ?_⟩
          · try unfold Seg.wpUp
            intro K hK
            first | go_simp | skip
            go_wp2_with (go_at_call 44; refine (QO.out x3 (HW6.out.f3.below (HM0.out ▸ hx3))).mono ?_; rintro e x4 ⟨b3, k3, rfl, gr3, twx4⟩)
            have hx4 := hx3.trans (twx4.mono sx3)
            have sx4 := Nat.le_trans sx3 twx4.size
            have d23 := apart_later own2 gr3.own
            have own3 := grow_base gr3 sx3
            clear gr3
            have kk := own_below own0 twx4
            clear own0
            have own0 := kk
            clear kk
            have kk := own_below own1 twx4
            clear own1
            have own1 := kk
            clear kk
            have kk := own_below own2 twx4
            clear own2
            have own2 := kk
            clear kk
            refine hK _ _ ⟨⟨_, hx4⟩, rfl⟩ ?_
            clear hK K hx3 sx3 twx4
            try simp only [Seg.wpPlan, List.map_cons, List.map_nil, Seg.opAt, List.drop_succ_cons, List.drop_zero, Array.getD_eq_getD_getElem?, List.getElem?_toArray, List.getElem?_cons_succ, List.getElem?_cons_zero, Option.getD_some]
            repeat (any_goals (first | go_big_quiet_step (fail) | quiet_step (fail)))
            refine wpQuiet_nil ?_
            try simp only [Seg.wpPlan, List.map_cons, List.map_nil, Seg.opAt, List.drop_succ_cons, List.drop_zero, Array.getD_eq_getD_getElem?, List.getElem?_toArray, List.getElem?_cons_succ, List.getElem?_cons_zero, Option.getD_some]
            try unfold Seg.wpUp
            intro K hK
            first | go_simp | skip
            go_wp2_with fail
            have hx5 : Below M0 w6 (x4.alloc (.cells #[.slice none 0 0, .slice none 0 0, .slice none 0 0, .slice none 0 0, .string ⟨#[]⟩, .string ⟨#[]⟩, .int .i64 0] 27)) := hx4.alloc sx4 _
            have sx5 : M0 ≤ (x4.alloc (.cells #[.slice none 0 0, .slice none 0 0, .slice none 0 0, .slice none 0 0, .string ⟨#[]⟩, .string ⟨#[]⟩, .int .i64 0] 27)).heap.size := by simp; omega
            have twx5 : Below x4.heap.size x4 (x4.alloc (.cells #[.slice none 0 0, .slice none 0 0, .slice none 0 0, .slice none 0 0, .string ⟨#[]⟩, .string ⟨#[]⟩, .int .i64 0] 27)) := (Below.refl _ _).alloc (Nat.le_refl _) _
            have eX : (x4.alloc (.cells #[.slice none 0 0, .slice none 0 0, .slice none 0 0, .slice none 0 0, .string ⟨#[]⟩, .string ⟨#[]⟩, .int .i64 0] 27)).heap[x4.heap.size]? = some (.cells #[.slice none 0 0, .slice none 0 0, .slice none 0 0, .slice none 0 0, .string ⟨#[]⟩, .string ⟨#[]⟩, .int .i64 0] 27 (0, 0)) := heap_at rfl
            have mX : M0 ≤ x4.heap.size := sx4
            have kk := own_below own0 twx5
            clear own0
            have own0 := kk
            clear kk
            have kk := own_below own1 twx5
            clear own1
            have own1 := kk
            clear kk
            have kk := own_below own2 twx5
            clear own2
            have own2 := kk
            clear kk
            have kk := own3.below twx5
            clear own3
            have own3 := kk
            clear kk
            refine hK _ _ ⟨⟨_, hx5⟩, rfl⟩ ?_
            clear hK K hx4 sx4 twx5
            generalize (x4.alloc (.cells #[.slice none 0 0, .slice none 0 0, .slice none 0 0, .slice none 0 0, .string ⟨#[]⟩, .string ⟨#[]⟩, .int .i64 0] 27)) = x5 at *
            generalize x4.heap.size = X at *
            try simp only [Seg.wpPlan, List.map_cons, List.map_nil, Seg.opAt, List.drop_succ_cons, List.drop_zero, Array.getD_eq_getD_getElem?, List.getElem?_toArray, List.getElem?_cons_succ, List.getElem?_cons_zero, Option.getD_some]
            repeat (any_goals (first | go_big_quiet_step (fail) | quiet_step (fail)))
            refine wpQuiet_nil ?_
            try simp only [Seg.wpPlan, List.map_cons, List.map_nil, Seg.opAt, List.drop_succ_cons, List.drop_zero, Array.getD_eq_getD_getElem?, List.getElem?_toArray, List.getElem?_cons_succ, List.getElem?_cons_zero, Option.getD_some]
            go_wp2_with (refine wpList_store_whole rfl rfl 27 _ _ rfl X #[.slice none 0 0, .slice none 0 0, .slice none 0 0, .slice none 0 0, .string ⟨#[]⟩, .string ⟨#[]⟩, .int .i64 0] #[.slice b0 A.length k0, .slice b1 B.length k1, .slice b2 S.length k2, .slice b3 O.length k3, .string ⟨N.toArray⟩, .string ⟨D.toArray⟩, .int .i64 (dr + 1)] 27 rfl rfl eX rfl HS.out (seven_one _ _ _ _ _ _ _ rfl rfl rfl rfl rfl rfl rfl) ?_; intro w8 ho hp)
            go_meet
            exact ⟨X, b0, b1, b2, b3, k0, k1, k2, k3, rfl, hp, mX, own_kept own0 eX (by decide) ho, own_kept own1 eX (by decide) ho, own_kept own2 eX (by decide) ho, own3.kept (grown_only ho) (.inr (own_ne own3.own eX (by decide))), d23, bel_only hx5 ho mX⟩
          · try unfold Seg.wpUp
            intro K hK
            first | go_simp | skip
            go_wp2_with fail
            have hx4 : Below M0 w6 (x3.alloc (.cells #[.slice none 0 0, .slice none 0 0, .slice none 0 0, .slice none 0 0, .string ⟨#[]⟩, .string ⟨#[]⟩, .int .i64 0] 27)) := hx3.alloc sx3 _
            have sx4 : M0 ≤ (x3.alloc (.cells #[.slice none 0 0, .slice none 0 0, .slice none 0 0, .slice none 0 0, .string ⟨#[]⟩, .string ⟨#[]⟩, .int .i64 0] 27)).heap.size := by simp; omega
            have twx4 : Below x3.heap.size x3 (x3.alloc (.cells #[.slice none 0 0, .slice none 0 0, .slice none 0 0, .slice none 0 0, .string ⟨#[]⟩, .string ⟨#[]⟩, .int .i64 0] 27)) := (Below.refl _ _).alloc (Nat.le_refl _) _
            have eX : (x3.alloc (.cells #[.slice none 0 0, .slice none 0 0, .slice none 0 0, .slice none 0 0, .string ⟨#[]⟩, .string ⟨#[]⟩, .int .i64 0] 27)).heap[x3.heap.size]? = some (.cells #[.slice none 0 0, .slice none 0 0, .slice none 0 0, .slice none 0 0, .string ⟨#[]⟩, .string ⟨#[]⟩, .int .i64 0] 27 (0, 0)) := heap_at rfl
            have mX : M0 ≤ x3.heap.size := sx3
            have kk := own_below own0 twx4
            clear own0
            have own0 := kk
            clear kk
            have kk := own_below own1 twx4
            clear own1
            have own1 := kk
            clear kk
            have kk := own_below own2 twx4
            clear own2
            have own2 := kk
            clear kk
            refine hK _ _ ⟨⟨_, hx4⟩, rfl⟩ ?_
            clear hK K hx3 sx3 twx4
            generalize (x3.alloc (.cells #[.slice none 0 0, .slice none 0 0, .slice none 0 0, .slice none 0 0, .string ⟨#[]⟩, .string ⟨#[]⟩, .int .i64 0] 27)) = x4 at *
            generalize x3.heap.size = X at *
            try simp only [Seg.wpPlan, List.map_cons, List.map_nil, Seg.opAt, List.drop_succ_cons, List.drop_zero, Array.getD_eq_getD_getElem?, List.getElem?_toArray, List.getElem?_cons_succ, List.getElem?_cons_zero, Option.getD_some]
            try unfold Seg.wpUp
            intro K hK
            first | go_simp | skip
            go_wp2_with (go_at_call 44; refine (QO.out x4 (HW6.out.f3.below (HM0.out ▸ hx4))).mono ?_; rintro e x5 ⟨b3, k3, rfl, gr3, twx5⟩)
            have hx5 := hx4.trans (twx5.mono sx4)
            have sx5 := Nat.le_trans sx4 twx5.size
            have d23 := apart_later own2 gr3.own
            have own3 := grow_base gr3 sx4
            clear gr3
            have kk := own_below own0 twx5
            clear own0
            have own0 := kk
            clear kk
            have kk := own_below own1 twx5
            clear own1
            have own1 := kk
            clear kk
            have kk := own_below own2 twx5
            clear own2
            have own2 := kk
            clear kk
            have kk := bel_keep twx5 (lt_of_heap eX) eX
            clear eX
            have eX := kk
            clear kk
            refine hK _ _ ⟨⟨_, hx5⟩, rfl⟩ ?_
            clear hK K hx4 sx4 twx5
            try simp only [Seg.wpPlan, List.map_cons, List.map_nil, Seg.opAt, List.drop_succ_cons, List.drop_zero, Array.getD_eq_getD_getElem?, List.getElem?_toArray, List.getElem?_cons_succ, List.getElem?_cons_zero, Option.getD_some]
            repeat (any_goals (first | go_big_quiet_step (fail) | quiet_step (fail)))
            refine wpQuiet_nil ?_
            try simp only [Seg.wpPlan, List.map_cons, List.map_nil, Seg.opAt, List.drop_succ_cons, List.drop_zero, Array.getD_eq_getD_getElem?, List.getElem?_toArray, List.getElem?_cons_succ, List.getElem?_cons_zero, Option.getD_some]
            go_wp2_with (refine wpList_store_whole rfl rfl 27 _ _ rfl X #[.slice none 0 0, .slice none 0 0, .slice none 0 0, .slice none 0 0, .string ⟨#[]⟩, .string ⟨#[]⟩, .int .i64 0] #[.slice b0 A.length k0, .slice b1 B.length k1, .slice b2 S.length k2, .slice b3 O.length k3, .string ⟨N.toArray⟩, .string ⟨D.toArray⟩, .int .i64 (dr + 1)] 27 rfl rfl eX rfl HS.out (seven_one _ _ _ _ _ _ _ rfl rfl rfl rfl rfl rfl rfl) ?_; intro w8 ho hp)
            go_meet
            exact ⟨X, b0, b1, b2, b3, k0, k1, k2, k3, rfl, hp, mX, own_kept own0 eX (by decide) ho, own_kept own1 eX (by decide) ho, own_kept own2 eX (by decide) ho, own3.kept (grown_only ho) (.inr (own_ne own3.own eX (by decide))), d23, bel_only hx5 ho mX⟩
        · try unfold Seg.wpUp
          intro K hK
          first | go_simp | skip
          go_wp2_with fail
          have hx3 : Below M0 w6 (x2.alloc (.cells #[.slice none 0 0, .slice none 0 0, .slice none 0 0, .slice none 0 0, .string ⟨#[]⟩, .string ⟨#[]⟩, .int .i64 0] 27)) := hx2.alloc sx2 _
          have sx3 : M0 ≤ (x2.alloc (.cells #[.slice none 0 0, .slice none 0 0, .slice none 0 0, .slice none 0 0, .string ⟨#[]⟩, .string ⟨#[]⟩, .int .i64 0] 27)).heap.size := by simp; omega
          have twx3 : Below x2.heap.size x2 (x2.alloc (.cells #[.slice none 0 0, .slice none 0 0, .slice none 0 0, .slice none 0 0, .string ⟨#[]⟩, .string ⟨#[]⟩, .int .i64 0] 27)) := (Below.refl _ _).alloc (Nat.le_refl _) _
          have eX : (x2.alloc (.cells #[.slice none 0 0, .slice none 0 0, .slice none 0 0, .slice none 0 0, .string ⟨#[]⟩, .string ⟨#[]⟩, .int .i64 0] 27)).heap[x2.heap.size]? = some (.cells #[.slice none 0 0, .slice none 0 0, .slice none 0 0, .slice none 0 0, .string ⟨#[]⟩, .string ⟨#[]⟩, .int .i64 0] 27 (0, 0)) := heap_at rfl
          have mX : M0 ≤ x2.heap.size := sx2
          have kk := own_below own0 twx3
          clear own0
          have own0 := kk
          clear kk
          have kk := own_below own1 twx3
          clear own1
          have own1 := kk
          clear kk
          refine hK _ _ ⟨⟨_, hx3⟩, rfl⟩ ?_
          clear hK K hx2 sx2 twx3
          generalize (x2.alloc (.cells #[.slice none 0 0, .slice none 0 0, .slice none 0 0, .slice none 0 0, .string ⟨#[]⟩, .string ⟨#[]⟩, .int .i64 0] 27)) = x3 at *
          generalize x2.heap.size = X at *
          try simp only [Seg.wpPlan, List.map_cons, List.map_nil, Seg.opAt, List.drop_succ_cons, List.drop_zero, Array.getD_eq_getD_getElem?, List.getElem?_toArray, List.getElem?_cons_succ, List.getElem?_cons_zero, Option.getD_some]
          try unfold Seg.wpUp
          intro K hK
          first | go_simp | skip
          go_wp2_with (go_at_call 44; refine (QS.out x3 (HW6.out.f2.below (HM0.out ▸ hx3))).mono ?_; rintro e x4 ⟨b2, k2, rfl, gr2, twx4⟩)
          have hx4 := hx3.trans (twx4.mono sx3)
          have sx4 := Nat.le_trans sx3 twx4.size
          have own2 := own_base gr2.own sx3
          clear gr2
          have kk := own_below own0 twx4
          clear own0
          have own0 := kk
          clear kk
          have kk := own_below own1 twx4
          clear own1
          have own1 := kk
          clear kk
          have kk := bel_keep twx4 (lt_of_heap eX) eX
          clear eX
          have eX := kk
          clear kk
          refine hK _ _ ⟨⟨_, hx4⟩, rfl⟩ ?_
          clear hK K hx3 sx3 twx4
          try simp only [Seg.wpPlan, List.map_cons, List.map_nil, Seg.opAt, List.drop_succ_cons, List.drop_zero, Array.getD_eq_getD_getElem?, List.getElem?_toArray, List.getElem?_cons_succ, List.getElem?_cons_zero, Option.getD_some]
          try unfold Seg.wpUp
          intro K hK
          first | go_simp | skip
          go_wp2_with (go_at_call 44; refine (QO.out x4 (HW6.out.f3.below (HM0.out ▸ hx4))).mono ?_; rintro e x5 ⟨b3, k3, rfl, gr3, twx5⟩)
          have hx5 := hx4.trans (twx5.mono sx4)
          have sx5 := Nat.le_trans sx4 twx5.size
          have d23 := apart_later own2 gr3.own
          have own3 := grow_base gr3 sx4
          clear gr3
          have kk := own_below own0 twx5
          clear own0
          have own0 := kk
          clear kk
          have kk := own_below own1 twx5
          clear own1
          have own1 := kk
          clear kk
          have kk := bel_keep twx5 (lt_of_heap eX) eX
          clear eX
          have eX := kk
          clear kk
          have kk := own_below own2 twx5
          clear own2
          have own2 := kk
          clear kk
          refine hK _ _ ⟨⟨_, hx5⟩, rfl⟩ ?_
          clear hK K hx4 sx4 twx5
          try simp only [Seg.wpPlan, List.map_cons, List.map_nil, Seg.opAt, List.drop_succ_cons, List.drop_zero, Array.getD_eq_getD_getElem?, List.getElem?_toArray, List.getElem?_cons_succ, List.getElem?_cons_zero, Option.getD_some]
          repeat (any_goals (first | go_big_quiet_step (fail) | quiet_step (fail)))
          refine wpQuiet_nil ?_
          try simp only [Seg.wpPlan, List.map_cons, List.map_nil, Seg.opAt, List.drop_succ_cons, List.drop_zero, Array.getD_eq_getD_getElem?, List.getElem?_toArray, List.getElem?_cons_succ, List.getElem?_cons_zero, Option.getD_some]
          go_wp2_with (refine wpList_store_whole rfl rfl 27 _ _ rfl X #[.slice none 0 0, .slice none 0 0, .slice none 0 0, .slice none 0 0, .string ⟨#[]⟩, .string ⟨#[]⟩, .int .i64 0] #[.slice b0 A.length k0, .slice b1 B.length k1, .slice b2 S.length k2, .slice b3 O.length k3, .string ⟨N.toArray⟩, .string ⟨D.toArray⟩, .int .i64 (dr + 1)] 27 rfl rfl eX rfl HS.out (seven_one _ _ _ _ _ _ _ rfl rfl rfl rfl rfl rfl rfl) ?_; intro w8 ho hp)
          go_meet
          exact ⟨X, b0, b1, b2, b3, k0, k1, k2, k3, rfl, hp, mX, own_kept own0 eX (by decide) ho, own_kept own1 eX (by decide) ho, own_kept own2 eX (by decide) ho, own3.kept (grown_only ho) (.inr (own_ne own3.own eX (by decide))), d23, bel_only hx5 ho mX⟩
      · try unfold Seg.wpUp
        intro K hK
        first | go_simp | skip
        go_wp2_with fail
        have hx2 : Below M0 w6 (x1.alloc (.cells #[.slice none 0 0, .slice none 0 0, .slice none 0 0, .slice none 0 0, .string ⟨#[]⟩, .string ⟨#[]⟩, .int .i64 0] 27)) := hx1.alloc sx1 _
        have sx2 : M0 ≤ (x1.alloc (.cells #[.slice none 0 0, .slice none 0 0, .slice none 0 0, .slice none 0 0, .string ⟨#[]⟩, .string ⟨#[]⟩, .int .i64 0] 27)).heap.size := by simp; omega
        have twx2 : Below x1.heap.size x1 (x1.alloc (.cells #[.slice none 0 0, .slice none 0 0, .slice none 0 0, .slice none 0 0, .string ⟨#[]⟩, .string ⟨#[]⟩, .int .i64 0] 27)) := (Below.refl _ _).alloc (Nat.le_refl _) _
        have eX : (x1.alloc (.cells #[.slice none 0 0, .slice none 0 0, .slice none 0 0, .slice none 0 0, .string ⟨#[]⟩, .string ⟨#[]⟩, .int .i64 0] 27)).heap[x1.heap.size]? = some (.cells #[.slice none 0 0, .slice none 0 0, .slice none 0 0, .slice none 0 0, .string ⟨#[]⟩, .string ⟨#[]⟩, .int .i64 0] 27 (0, 0)) := heap_at rfl
        have mX : M0 ≤ x1.heap.size := sx1
        have kk := own_below own0 twx2
        clear own0
        have own0 := kk
        clear kk
        refine hK _ _ ⟨⟨_, hx2⟩, rfl⟩ ?_
        clear hK K hx1 sx1 twx2
        generalize (x1.alloc (.cells #[.slice none 0 0, .slice none 0 0, .slice none 0 0, .slice none 0 0, .string ⟨#[]⟩, .string ⟨#[]⟩, .int .i64 0] 27)) = x2 at *
        generalize x1.heap.size = X at *
        try simp only [Seg.wpPlan, List.map_cons, List.map_nil, Seg.opAt, List.drop_succ_cons, List.drop_zero, Array.getD_eq_getD_getElem?, List.getElem?_toArray, List.getElem?_cons_succ, List.getElem?_cons_zero, Option.getD_some]
        try unfold Seg.wpUp
        intro K hK
        first | go_simp | skip
        go_wp2_with (go_at_call 43; refine (QB.out x2 (HW6.out.i1.below (HM0.out ▸ hx2))).mono ?_; rintro e x3 ⟨b1, k1, rfl, owq, twx3⟩)
        have hx3 := hx2.trans (twx3.mono sx2)
        have sx3 := Nat.le_trans sx2 twx3.size
        have own1 := own_base owq sx2
        clear owq
        have kk := own_below own0 twx3
        clear own0
        have own0 := kk
        clear kk
        have kk := bel_keep twx3 (lt_of_heap eX) eX
        clear eX
        have eX := kk
        clear kk
        refine hK _ _ ⟨⟨_, hx3⟩, rfl⟩ ?_
        clear hK K hx2 sx2 twx3
        try simp only [Seg.wpPlan, List.map_cons, List.map_nil, Seg.opAt, List.drop_succ_cons, List.drop_zero, Array.getD_eq_getD_getElem?, List.getElem?_toArray, List.getElem?_cons_succ, List.getElem?_cons_zero, Option.getD_some]
        try unfold Seg.wpUp
        intro K hK
        first | go_simp | skip
        go_wp2_with (go_at_call 44; refine (QS.out x3 (HW6.out.f2.below (HM0.out ▸ hx3))).mono ?_; rintro e x4 ⟨b2, k2, rfl, gr2, twx4⟩)
        have hx4 := hx3.trans (twx4.mono sx3)
        have sx4 := Nat.le_trans sx3 twx4.size
        have own2 := own_base gr2.own sx3
        clear gr2
        have kk := own_below own0 twx4
        clear own0
        have own0 := kk
        clear kk
        have kk := bel_keep twx4 (lt_of_heap eX) eX
        clear eX
        have eX := kk
        clear kk
        have kk := own_below own1 twx4
        clear own1
        have own1 := kk
        clear kk
        refine hK _ _ ⟨⟨_, hx4⟩, rfl⟩ ?_
        clear hK K hx3 sx3 twx4
        try simp only [Seg.wpPlan, List.map_cons, List.map_nil, Seg.opAt, List.drop_succ_cons, List.drop_zero, Array.getD_eq_getD_getElem?, List.getElem?_toArray, List.getElem?_cons_succ, List.getElem?_cons_zero, Option.getD_some]
        try unfold Seg.wpUp
        intro K hK
        first | go_simp | skip
        go_wp2_with (go_at_call 44; refine (QO.out x4 (HW6.out.f3.below (HM0.out ▸ hx4))).mono ?_; rintro e x5 ⟨b3, k3, rfl, gr3, twx5⟩)
        have hx5 := hx4.trans (twx5.mono sx4)
        have sx5 := Nat.le_trans sx4 twx5.size
        have d23 := apart_later own2 gr3.own
        have own3 := grow_base gr3 sx4
        clear gr3
        have kk := own_below own0 twx5
        clear own0
        have own0 := kk
        clear kk
        have kk := bel_keep twx5 (lt_of_heap eX) eX
        clear eX
        have eX := kk
        clear kk
        have kk := own_below own1 twx5
        clear own1
        have own1 := kk
        clear kk
        have kk := own_below own2 twx5
        clear own2
        have own2 := kk
        clear kk
        refine hK _ _ ⟨⟨_, hx5⟩, rfl⟩ ?_
        clear hK K hx4 sx4 twx5
        try simp only [Seg.wpPlan, List.map_cons, List.map_nil, Seg.opAt, List.drop_succ_cons, List.drop_zero, Array.getD_eq_getD_getElem?, List.getElem?_toArray, List.getElem?_cons_succ, List.getElem?_cons_zero, Option.getD_some]
        repeat (any_goals (first | go_big_quiet_step (fail) | quiet_step (fail)))
        refine wpQuiet_nil ?_
        try simp only [Seg.wpPlan, List.map_cons, List.map_nil, Seg.opAt, List.drop_succ_cons, List.drop_zero, Array.getD_eq_getD_getElem?, List.getElem?_toArray, List.getElem?_cons_succ, List.getElem?_cons_zero, Option.getD_some]
        go_wp2_with (refine wpList_store_whole rfl rfl 27 _ _ rfl X #[.slice none 0 0, .slice none 0 0, .slice none 0 0, .slice none 0 0, .string ⟨#[]⟩, .string ⟨#[]⟩, .int .i64 0] #[.slice b0 A.length k0, .slice b1 B.length k1, .slice b2 S.length k2, .slice b3 O.length k3, .string ⟨N.toArray⟩, .string ⟨D.toArray⟩, .int .i64 (dr + 1)] 27 rfl rfl eX rfl HS.out (seven_one _ _ _ _ _ _ _ rfl rfl rfl rfl rfl rfl rfl) ?_; intro w8 ho hp)
        go_meet
        exact ⟨X, b0, b1, b2, b3, k0, k1, k2, k3, rfl, hp, mX, own_kept own0 eX (by decide) ho, own_kept own1 eX (by decide) ho, own_kept own2 eX (by decide) ho, own3.kept (grown_only ho) (.inr (own_ne own3.own eX (by decide))), d23, bel_only hx5 ho mX⟩
    · try unfold Seg.wpUp
      intro K hK
      first | go_simp | skip
      go_wp2_with fail
      have hx1 : Below M0 w6 (x0.alloc (.cells #[.slice none 0 0, .slice none 0 0, .slice none 0 0, .slice none 0 0, .string ⟨#[]⟩, .string ⟨#[]⟩, .int .i64 0] 27)) := hx0.alloc sx0 _
      have sx1 : M0 ≤ (x0.alloc (.cells #[.slice none 0 0, .slice none 0 0, .slice none 0 0, .slice none 0 0, .string ⟨#[]⟩, .string ⟨#[]⟩, .int .i64 0] 27)).heap.size := by simp; omega
      have twx1 : Below x0.heap.size x0 (x0.alloc (.cells #[.slice none 0 0, .slice none 0 0, .slice none 0 0, .slice none 0 0, .string ⟨#[]⟩, .string ⟨#[]⟩, .int .i64 0] 27)) := (Below.refl _ _).alloc (Nat.le_refl _) _
      have eX : (x0.alloc (.cells #[.slice none 0 0, .slice none 0 0, .slice none 0 0, .slice none 0 0, .string ⟨#[]⟩, .string ⟨#[]⟩, .int .i64 0] 27)).heap[x0.heap.size]? = some (.cells #[.slice none 0 0, .slice none 0 0, .slice none 0 0, .slice none 0 0, .string ⟨#[]⟩, .string ⟨#[]⟩, .int .i64 0] 27 (0, 0)) := heap_at rfl
      have mX : M0 ≤ x0.heap.size := sx0
      refine hK _ _ ⟨⟨_, hx1⟩, rfl⟩ ?_
      clear hK K hx0 sx0 twx1
      generalize (x0.alloc (.cells #[.slice none 0 0, .slice none 0 0, .slice none 0 0, .slice none 0 0, .string ⟨#[]⟩, .string ⟨#[]⟩, .int .i64 0] 27)) = x1 at *
      generalize x0.heap.size = X at *
      try simp only [Seg.wpPlan, List.map_cons, List.map_nil, Seg.opAt, List.drop_succ_cons, List.drop_zero, Array.getD_eq_getD_getElem?, List.getElem?_toArray, List.getElem?_cons_succ, List.getElem?_cons_zero, Option.getD_some]
      try unfold Seg.wpUp
      intro K hK
      first | go_simp | skip
      go_wp2_with (go_at_call 43; refine (QA.out x1 (HW6.out.i0.below (HM0.out ▸ hx1))).mono ?_; rintro e x2 ⟨b0, k0, rfl, owq, twx2⟩)
      have hx2 := hx1.trans (twx2.mono sx1)
      have sx2 := Nat.le_trans sx1 twx2.size
      have own0 := own_base owq sx1
      clear owq
      have kk := bel_keep twx2 (lt_of_heap eX) eX
      clear eX
      have eX := kk
      clear kk
      refine hK _ _ ⟨⟨_, hx2⟩, rfl⟩ ?_
      clear hK K hx1 sx1 twx2
      try simp only [Seg.wpPlan, List.map_cons, List.map_nil, Seg.opAt, List.drop_succ_cons, List.drop_zero, Array.getD_eq_getD_getElem?, List.getElem?_toArray, List.getElem?_cons_succ, List.getElem?_cons_zero, Option.getD_some]
      try unfold Seg.wpUp
      intro K hK
      first | go_simp | skip
      go_wp2_with (go_at_call 43; refine (QB.out x2 (HW6.out.i1.below (HM0.out ▸ hx2))).mono ?_; rintro e x3 ⟨b1, k1, rfl, owq, twx3⟩)
      have hx3 := hx2.trans (twx3.mono sx2)
      have sx3 := Nat.le_trans sx2 twx3.size
      have own1 := own_base owq sx2
      clear owq
      have kk := bel_keep twx3 (lt_of_heap eX) eX
      clear eX
      have eX := kk
      clear kk
      have kk := own_below own0 twx3
      clear own0
      have own0 := kk
      clear kk
      refine hK _ _ ⟨⟨_, hx3⟩, rfl⟩ ?_
      clear hK K hx2 sx2 twx3
      try simp only [Seg.wpPlan, List.map_cons, List.map_nil, Seg.opAt, List.drop_succ_cons, List.drop_zero, Array.getD_eq_getD_getElem?, List.getElem?_toArray, List.getElem?_cons_succ, List.getElem?_cons_zero, Option.getD_some]
      try unfold Seg.wpUp
      intro K hK
      first | go_simp | skip
      go_wp2_with (go_at_call 44; refine (QS.out x3 (HW6.out.f2.below (HM0.out ▸ hx3))).mono ?_; rintro e x4 ⟨b2, k2, rfl, gr2, twx4⟩)
      have hx4 := hx3.trans (twx4.mono sx3)
      have sx4 := Nat.le_trans sx3 twx4.size
      have own2 := own_base gr2.own sx3
      clear gr2
      have kk := bel_keep twx4 (lt_of_heap eX) eX
      clear eX
      have eX := kk
      clear kk
      have kk := own_below own0 twx4
      clear own0
      have own0 := kk
      clear kk
      have kk := own_below own1 twx4
      clear own1
      have own1 := kk
      clear kk
      refine hK _ _ ⟨⟨_, hx4⟩, rfl⟩ ?_
      clear hK K hx3 sx3 twx4
      try simp only [Seg.wpPlan, List.map_cons, List.map_nil, Seg.opAt, List.drop_succ_cons, List.drop_zero, Array.getD_eq_getD_getElem?, List.getElem?_toArray, List.getElem?_cons_succ, List.getElem?_cons_zero, Option.getD_some]
      try unfold Seg.wpUp
      intro K hK
      first | go_simp | skip
      go_wp2_with (go_at_call 44; refine (QO.out x4 (HW6.out.f3.below (HM0.out ▸ hx4))).mono ?_; rintro e x5 ⟨b3, k3, rfl, gr3, twx5⟩)
      have hx5 := hx4.trans (twx5.mono sx4)
      have sx5 := Nat.le_trans sx4 twx5.size
      have d23 := apart_later own2 gr3.own
      have own3 := grow_base gr3 sx4
      clear gr3
      have kk := bel_keep twx5 (lt_of_heap eX) eX
      clear eX
      have eX := kk
      clear kk
      have kk := own_below own0 twx5
      clear own0
      have own0 := kk
      clear kk
      have kk := own_below own1 twx5
      clear own1
      have own1 := kk
      clear kk
      have kk := own_below own2 twx5
      clear own2
      have own2 := kk
      clear kk
      refine hK _ _ ⟨⟨_, hx5⟩, rfl⟩ ?_
      clear hK K hx4 sx4 twx5
      try simp only [Seg.wpPlan, List.map_cons, List.map_nil, Seg.opAt, List.drop_succ_cons, List.drop_zero, Array.getD_eq_getD_getElem?, List.getElem?_toArray, List.getElem?_cons_succ, List.getElem?_cons_zero, Option.getD_some]
      repeat (any_goals (first | go_big_quiet_step (fail) | quiet_step (fail)))
      refine wpQuiet_nil ?_
      try simp only [Seg.wpPlan, List.map_cons, List.map_nil, Seg.opAt, List.drop_succ_cons, List.drop_zero, Array.getD_eq_getD_getElem?, List.getElem?_toArray, List.getElem?_cons_succ, List.getElem?_cons_zero, Option.getD_some]
      go_wp2_with (refine wpList_store_whole rfl rfl 27 _ _ rfl X #[.slice none 0 0, .slice none 0 0, .slice none 0 0, .slice none 0 0, .string ⟨#[]⟩, .string ⟨#[]⟩, .int .i64 0] #[.slice b0 A.length k0, .slice b1 B.length k1, .slice b2 S.length k2, .slice b3 O.length k3, .string ⟨N.toArray⟩, .string ⟨D.toArray⟩, .int .i64 (dr + 1)] 27 rfl rfl eX rfl HS.out (seven_one _ _ _ _ _ _ _ rfl rfl rfl rfl rfl rfl rfl) ?_; intro w8 ho hp)
      go_meet
      exact ⟨X, b0, b1, b2, b3, k0, k1, k2, k3, rfl, hp, mX, own_kept own0 eX (by decide) ho, own_kept own1 eX (by decide) ho, own_kept own2 eX (by decide) ho, own3.kept (grown_only ho) (.inr (own_ne own3.own eX (by decide))), d23, bel_only hx5 ho mX⟩
  case rest =>
  clear hx0 sx0 QA QB QS QO
  generalize wc = w7 at *
  obtain ⟨X, b0, b1, b2, b3, k0, k1, k2, k3, rfl, eX, mX, own0, own1, own2, own3, d23, bw⟩ := hcut
  have bw' : Below w6.heap.size w6 w7 := HM0.out ▸ bw
  have HDR : Hid (DrSt B0 X E w w7 #[.slice o0 A.length c0, .slice o1 B.length c1, .slice o2 S.length c2, .slice o3 O.length c3, .string ⟨N.toArray⟩, .string ⟨D.toArray⟩, .int .i64 dr] #[.slice op L.length cp, .slice ol (dig LN).length cl, .slice om (dig LD).length cm] (.slice b0 A.length k0) (.slice b1 B.length k1) (.slice b2 S.length k2) (.slice b3 O.length k3) (.string ⟨N.toArray⟩) (.string ⟨D.toArray⟩) (.int .i64 (dr + 1)) A B S O op L LN LD ol om) := Lib.hid ⟨HBY.out.bel.trans (bw'.mono (by omega)), bel_keep bw' (by omega) HBY.out.x, bel_keep bw' hb6 HBY.out.z, bel_keep bw' hE6 HRD.out, eX, own_base own0 hBM2, own_base own1 hBM2, own_base own2 hBM2, grow_base own3 hBM2, d23, HPS.out.below bw', HLF.out.below bw', hEB, by omega⟩
  clear eX mX own0 own1 own2 own3 d23 bw bw' HM0 hBM hEM hBM2 HBY HRD HPS HLF hEB hb6 hE6 HW6 HM6
  have x0 : w7.cell? ⟨E, 0, none⟩ = some (.slice op L.length cp) := cell_of_row w7 E 0 _ _ _ HDR.out.rd
  have hE7 : E < w7.heap.size := lt_of_heap HDR.out.rd
  go_upto_region 10 with (fail)
  clear x0 hE7
  go_loopw [60] (fun i wr => ∃ k : Nat, k ≤ L.length ∧ i = .int .i64 k ∧ DrSt B0 X E w wr #[.slice o0 A.length c0, .slice o1 B.length c1, .slice o2 S.length c2, .slice o3 O.length c3, .string ⟨N.toArray⟩, .string ⟨D.toArray⟩, .int .i64 dr] #[.slice op L.length cp, .slice ol (dig LN).length cl, .slice om (dig LD).length cm] (.slice b0 A.length k0) (.slice b1 B.length k1) (.slice b2 S.length k2) (.slice b3 O.length k3) (.string ⟨N.toArray⟩) (.string ⟨D.toArray⟩) (.int .i64 (dr + 1)) A B S (oddsAt A B S O N D M k) op L LN LD ol om) (fun i _ => L.length - (intOf i).toNat)
  case atStart => exact ⟨0, by omega, rfl, by rw [oddsAt_zero]; exact HDR.out⟩
  case round =>
  clear HDR
  obtain ⟨k, hk, rfl, hst⟩ := hrel
  have hLl : L.length < 140737488355 := by rw [HL.out]; exact lA
  have SR := Lib.hid hst
  clear hst
  by_cases hlt : k < L.length
  · have dk : decide ((k : Int) < (L.length : Int)) = true := decide_eq_true (by omega)
    have dk2 : decide (k < L.length) = true := decide_eq_true hlt
    have hki : (k : Int) < (L.length : Int) := by omega
    have hkA : k < A.length := by rw [← HL.out]; exact hlt
    have hkO : k < O.length := by rw [lOO.out]; exact hkA
    have hkO' : k < (oddsAt A B S O N D M k).length := by rw [length_oddsAt]; exact hkO
    have PO := Lib.hid (HRW.out.ok k hkA)
    have dko : decide ((k : Int) < (O.length : Int)) = true := decide_eq_true (by omega)
    have dko2 : decide (k < O.length) = true := decide_eq_true hkO
    have hkoi : (k : Int) < (O.length : Int) := by omega
    obtain ⟨g, hg3⟩ : ∃ g, b3 = some ⟨g, 0, none⟩ := by
      obtain ⟨g, cap, hv, _, _⟩ := SR.out.own3.own.form (by rw [length_oddsAt]; omega)
      injection hv with hv1 _ _
      exact ⟨g, hv1⟩
    subst hg3
    obtain ⟨q, hq, hqb, hqc⟩ := SR.out.ps.cells k hlt
    subst hq
    have hat := Lib.hid (SR.out.ps.at' L[k] (List.getElem_mem hlt))
    obtain ⟨f1, f2, f3, f4, f5, f6⟩ := HPM.out k L[k] (by simp [hlt])
    have hsm := HSM.out L[k] (List.getElem_mem hlt)
    obtain ⟨p, hp⟩ : ∃ p, p = L[k] := ⟨_, rfl⟩
    rw [← hp] at hqc hat f1 f2 f3 f4 f5 f6 hsm
    clear hp
    obtain ⟨pwi, plo, ps, pt, pa, pb, pos, pot, poa, pob, pcs, pct, pca, pcb⟩ := p
    dsimp only at f1 f2 f3 f4 f5 f6 hsm
    obtain ⟨ia, hia⟩ : ∃ ia : Nat, pwi = (ia : Int) := ⟨pwi.toNat, by have := PO.out.a; omega⟩
    obtain ⟨ib, hib⟩ : ∃ ib : Nat, plo = (ib : Int) := ⟨plo.toNat, by have := PO.out.b; omega⟩
    have hiaM : ia < M.length := by have := PO.out.a; omega
    have hibM : ib < M.length := by have := PO.out.b; omega
    subst hia
    subst hib
    have HQC : Hid (∀ j v, ([.int .i64 (ia : Int), .int .i64 (ib : Int), .slice pos (dig ps).length pcs, .slice pot (dig pt).length pct, .slice poa (dig pa).length pca, .slice pob (dig pb).length pcb] : List Value)[j]? = some v → wr.cell? ((q.add (k * 6)).add j) = some v) := Lib.hid hqc
    obtain ⟨qm, hqm, _, _⟩ := HMM.out.cells ia hiaM
    subst hqm
    have HMA := Lib.hid (fun (w : World) (h : IsAt w (some qm) M) => (show qm.block < w.heap.size ∧ w.cell? (qm.add ia) = some (.int .i64 (iAt M ia)) ∧ w.cell? (qm.add ib) = some (.int .i64 (iAt M ib)) by
      obtain ⟨x1, e1, h1, h2⟩ := h.cells ia hiaM
      obtain ⟨x2, e2, h3, h4⟩ := h.cells ib hibM
      cases e1
      cases e2
      rw [iAt_get hiaM] at h2
      rw [iAt_get hibM] at h4
      exact ⟨h1, h2, h4⟩))
    have hmm : ∀ i, i < M.length → 0 ≤ iAt M i ∧ iAt M i ≤ 1 := fun i hi => by
      have h := List.any_eq_false.1 HBM.out M[i] (List.getElem_mem hi)
      rw [iAt_get hi] at h
      unfold badM at h
      simpa using h
    have hma := hmm ia hiaM
    have hmb := hmm ib hibM
    obtain ⟨dn, hdn⟩ : ∃ dn, dn = doneW (fAt O k) N D := ⟨_, rfl⟩
    have hset : decide (LN * pb ≤ pa * LD) = dn := by rw [hdn, f5, f6]; exact HNX.out (fAt O k)
    have HNA := Lib.hid (show nextAt A B S O N D M k = if dn = true then fAt O k else if iAt M ia = iAt M ib then fAt O k else if iAt M ib < iAt M ia then upO (fAt O k) (fAt S k) else downO (fAt O k) (fAt S k) by
      unfold nextAt nextO
      rw [← hdn, ← f1, ← f2]
      rfl)
    obtain ⟨_, _, hb0, _, _⟩ := frB_good PO.out.o
    obtain ⟨_, s2', ht0, _, _⟩ := frB_good PO.out.s
    obtain ⟨s1', _, _, _, _⟩ := frB_good PO.out.s
    have hsl := frB_len PO.out.s
    have hle := PO.out.one
    have e1 : (dig ps).length ≤ 100 := by rw [f3]; exact Nat.le_trans (limbs_dv _ ((numB_iff _).1 s1').2.1) hsl.1
    have e2 : (dig pt).length ≤ 100 := by rw [f4]; exact Nat.le_trans (limbs_dv _ ((numB_iff _).1 s2').2.1) hsl.2
    rw [← f4] at ht0 hle
    rw [← f3] at hle
    rw [← f6] at hb0
    have HUP := Lib.hid (show upO (fAt O k) (fAt S k) = (strD (tN pa pb (tN 2 1 ps pt) (tD 2 1 ps pt)), strD (tD pa pb (tN 2 1 ps pt) (tD 2 1 ps pt))) by rw [f3, f4, f5, f6]; rfl)
    have HDN := Lib.hid (show downO (fAt O k) (fAt S k) = (strD (tN pa pb (tN 2 1 (mN 1 1 ps pt) (mD 1 1 ps pt)) (tD 2 1 (mN 1 1 ps pt) (mD 1 1 ps pt))), strD (tD pa pb (tN 2 1 (mN 1 1 ps pt) (mD 1 1 ps pt)) (tD 2 1 (mN 1 1 ps pt) (mD 1 1 ps pt)))) by rw [f3, f4, f5, f6]; rfl)
    have d1 : (dig 1).length ≤ 1 := length_dig_le 1 1 (by decide)
    have d2 : (dig 2).length ≤ 1 := length_dig_le 2 1 (by decide)
    have m1 := dig_le (mN_le ps pt)
    have m2 := dig_le (mD_le ps pt)
    have mp := mD_pos ps pt ht0
    have up := tD_pos (a := 2) (b := 1) (c := ps) (d := pt) (by omega)
    have dp := tD_pos (a := 2) (b := 1) (c := mN 1 1 ps pt) (d := mD 1 1 ps pt) (by omega)
    have g1 := tN_dig 2 1 ps pt
    have g2 := tD_dig 2 1 ps pt
    have g3 := tN_dig 2 1 (mN 1 1 ps pt) (mD 1 1 ps pt)
    have g4 := tD_dig 2 1 (mN 1 1 ps pt) (mD 1 1 ps pt)
    have QST := Lib.hid (fun w h => audSteps_any ps pt pos pot pcs pct w h ht0 hle (by omega) (by omega))
    generalize tN 2 1 ps pt = UN at *
    generalize tD 2 1 ps pt = UD at *
    generalize tN 2 1 (mN 1 1 ps pt) (mD 1 1 ps pt) = DN at *
    generalize tD 2 1 (mN 1 1 ps pt) (mD 1 1 ps pt) = DD at *
    have QSE := Lib.hid (fun w h1 h2 => audSettled1_any pa pb LN LD poa pob ol om pca pcb cl cm (.slice (some q) L.length cp) (.slice pos (dig ps).length pcs) (.slice pot (dig pt).length pct) ia ib w h1 h2 (by omega) (by omega) (by have := HL2.out; omega) (by have := HL2.out; omega))
    rw [hset] at QSE
    have QTU := Lib.hid (fun oc od cc cd w h1 h2 => exFTimes_any pa pb UN UD poa pob oc od pca pcb cc cd w h1 h2 (Nat.mul_pos hb0 up) (by omega) (by omega) (by omega) (by omega))
    have QTD := Lib.hid (fun oc od cc cd w h1 h2 => exFTimes_any pa pb DN DD poa pob oc od pca pcb cc cd w h1 h2 (Nat.mul_pos hb0 dp) (by omega) (by omega) (by omega) (by omega))
    change Hid (∀ oc od cc cd w _ _, Calls _ _ _ w (fun e w' => ∃ on om cn cm, e = .returned (.agg #[.slice on (dig (tN pa pb UN UD)).length cn, .slice om (dig (tD pa pb UN UD)).length cm]) ∧ LFr w' (tN pa pb UN UD) (tD pa pb UN UD) on om ∧ Below w.heap.size w w')) at QTU
    change Hid (∀ oc od cc cd w _ _, Calls _ _ _ w (fun e w' => ∃ on om cn cm, e = .returned (.agg #[.slice on (dig (tN pa pb DN DD)).length cn, .slice om (dig (tD pa pb DN DD)).length cm]) ∧ LFr w' (tN pa pb DN DD) (tD pa pb DN DD) on om ∧ Below w.heap.size w w')) at QTD
    have h1 := tN_dig pa pb UN UD
    have h2 := tD_dig pa pb UN UD
    have h3 := tN_dig pa pb DN DD
    have h4 := tD_dig pa pb DN DD
    have QTOU := Lib.hid (fun on od cn cd w h => audTold_any (tN pa pb UN UD) (tD pa pb UN UD) on od cn cd w h (by omega) (by omega))
    have QTOD := Lib.hid (fun on od cn cd w h => audTold_any (tN pa pb DN DD) (tD pa pb DN DD) on od cn cd w h (by omega) (by omega))
    generalize strD (tN pa pb UN UD) = SNU at *
    generalize strD (tD pa pb UN UD) = SDU at *
    generalize strD (tN pa pb DN DD) = SNV at *
    generalize strD (tD pa pb DN DD) = SDV at *
    generalize tN pa pb UN UD = PUN at *
    generalize tD pa pb UN UD = PUD at *
    generalize tN pa pb DN DD = PDN at *
    generalize tD pa pb DN DD = PDD at *
    have HAT := Lib.hid (show LFr wr ps pt pos pot ∧ LFr wr pa pb poa pob from ⟨hat.out.share, hat.out.odds⟩)
    have HSX := Lib.hid size_lfr
    have dia : decide ((ia : Int) < (M.length : Int)) = true := decide_eq_true (by omega)
    have dia2 : decide (ia < M.length) = true := decide_eq_true hiaM
    have hiaI : (ia : Int) < (M.length : Int) := by omega
    have dib : decide ((ib : Int) < (M.length : Int)) = true := decide_eq_true (by omega)
    have dib2 : decide (ib < M.length) = true := decide_eq_true hibM
    have hibI : (ib : Int) < (M.length : Int) := by omega
    clear h1 h2 h3 h4 g1 g2 g3 g4 up dp mp m1 m2 d1 d2 e1 e2 hsl hle ht0 hb0 s1' s2' f1 f2 f3 f4 f5 f6 hsm hset hdn hat hqc hmm
    generalize iAt M ia = ma at *
    generalize iAt M ib = mb at *
    go_upto_region 12 with (first
      | (refine wpList_load_at rfl 78 _ rfl (q.add (k * 6)) rfl [.int .i64 (ia : Int), .int .i64 (ib : Int), .slice pos (dig ps).length pcs, .slice pot (dig pt).length pct, .slice poa (dig pa).length pca, .slice pob (dig pb).length pcb] _ HQC.out Tryd.underlying78 rfl size_apair ?_)
      | (refine wpList_store_whole rfl rfl 78 _ _ rfl wr.heap.size #[.int .i64 0, .int .i64 0, .slice none 0 0, .slice none 0 0, .slice none 0 0, .slice none 0 0] #[.int .i64 (ia : Int), .int .i64 (ib : Int), .slice pos (dig ps).length pcs, .slice pot (dig pt).length pct, .slice poa (dig pa).length pca, .slice pob (dig pb).length pcb] 78 rfl rfl (heap_at rfl) rfl size_apair (six_one _ _ _ _ _ _ rfl rfl rfl rfl rfl rfl) ?_; intro w8 ho hp))
    have b8 : Below wr.heap.size wr w8 := bel_only ((Below.refl _ _).alloc (Nat.le_refl _) _) ho (Nat.le_refl _)
    have S8 := Lib.hid (SR.out.below b8)
    have HP8 := Lib.hid hp
    have HA8 := Lib.hid (show LFr w8 ps pt pos pot ∧ LFr w8 pa pb poa pob from ⟨HAT.out.1.below b8, HAT.out.2.below b8⟩)
    have hP8 : wr.heap.size < w8.heap.size := lt_of_heap hp
    clear ho hp b8 SR HAT HQC hqb
    generalize wr.heap.size = P at *
    go_upto_region 14 with (first
      | (refine wpList_load_at rfl 53 _ rfl ⟨P, 2, none⟩ rfl [.slice pos (dig ps).length pcs, .slice pot (dig pt).length pct] _ (mid_blk HP8.out _ (fun j u hj => by match j with | 0 => exact hj | 1 => exact hj | _ + 2 => cases hj)) Tryd.underlying53 rfl HSX.out ?_)
      | (go_at_call 45; refine (QST.out w8 HA8.out.1).mono ?_; rintro e w9 ⟨u1, u2, u3, u4, y1, y2, y3, y4, rfl, hU, hV, b9⟩)
      | (refine wpList_store_whole rfl rfl 53 _ _ rfl (w9.heap.size + 1) #[.slice none 0 0, .slice none 0 0] #[.slice u3 (dig DN).length y3, .slice u4 (dig DD).length y4] 53 rfl rfl ((hoa.block _ (by omega)).trans (heap_at (by simp))) rfl HSX.out (two_slices _ _ _ _ _ _) ?_; intro wt hob hpb)
      | (refine wpList_store_whole rfl rfl 53 _ _ rfl w9.heap.size #[.slice none 0 0, .slice none 0 0] #[.slice u1 (dig UN).length y1, .slice u2 (dig UD).length y2] 53 rfl rfl (heap_lt (heap_at rfl)) rfl HSX.out (two_slices _ _ _ _ _ _) ?_; intro wo hoa hpa))
    have b9t : Below w9.heap.size w9 wt := bel_only (bel_only (((Below.refl _ _).alloc (Nat.le_refl _) _).alloc (by simp) _) hoa (Nat.le_refl _)) hob (by omega)
    have b8t := b9.trans (b9t.mono b9.size)
    have ST := Lib.hid (S8.out.below b8t)
    have HPP := Lib.hid (bel_keep b8t hP8 HP8.out)
    have HPA := Lib.hid (show PD.At wt ⟨(ia : Int), (ib : Int), ps, pt, pa, pb, pos, pot, poa, pob, pcs, pct, pca, pcb⟩ from ⟨HA8.out.1.below b8t, HA8.out.2.below b8t⟩)
    have HU := Lib.hid (hU.below b9t)
    have HV := Lib.hid (hV.below b9t)
    have HF1 := Lib.hid ((hob.block _ (by omega)).trans hpa)
    have HG1 := Lib.hid hpb
    have HMT := Lib.hid (HMA.out wt (HMM.out.below (HB.out ▸ ST.out.bel)))
    clear b9t b8t hU hV hoa hpa hob hpb b9 S8 HA8 HP8 hP8 HMA
    generalize w9.heap.size = F1 at *
    obtain ⟨M3, hM3⟩ : ∃ M3, M3 = wt.heap.size := ⟨_, rfl⟩
    have HM3 := Lib.hid hM3
    have hPM : P < M3 := by rw [hM3]; exact lt_of_heap HPP.out
    have hEM : E < M3 := by rw [hM3]; exact lt_of_heap ST.out.rd
    have hXM : X < M3 := by rw [hM3]; exact lt_of_heap ST.out.row
    have hF1M : F1 < M3 := by rw [hM3]; exact lt_of_heap HF1.out
    have hG1M : F1 + 1 < M3 := by rw [hM3]; exact lt_of_heap HG1.out
    have hqM : qm.block < M3 := by rw [hM3]; exact HMT.out.1
    clear hM3
    refine Seg.wp_region_segs (fun w' => ∃ x : BelowT M3 wt, w' = x.w) [([0, 1], 2)] [3, 4, 5, 6, 7, 8, 9, 10, 11, 12, 13] 14 (by kernel_rfl) (by kernel_rfl) (fun _ _ d _ _ h => by cases d <;> exact h) (⟨⟨wt.drew, by rw [HM3.out]; exact (Below.refl _ _).drew⟩, rfl⟩) ?_
    simp only [List.map_cons, List.map_nil, Seg.opAt, List.drop_succ_cons, List.drop_zero, Seg.wpSegs, Array.getD_eq_getD_getElem?, List.getElem?_toArray, List.getElem?_cons_succ, List.getElem?_cons_zero, Option.getD_some]
    refine wpQuiet_load_at rfl 73 _ rfl ⟨E, 0, none⟩ [.slice (some q) L.length cp, .slice ol (dig LN).length cl, .slice om (dig LD).length cm] _ rfl (fun w' hw' => by obtain ⟨x, rfl⟩ := hw'; exact news_blk (bel_keep x.2 hEM ST.out.rd)) Tryd.underlying73 rfl size_awatch ?_
    refine wpQuiet_load_at rfl 78 _ rfl ⟨P, 0, none⟩ [.int .i64 (ia : Int), .int .i64 (ib : Int), .slice pos (dig ps).length pcs, .slice pot (dig pt).length pct, .slice poa (dig pa).length pca, .slice pob (dig pb).length pcb] _ rfl (fun w' hw' => by obtain ⟨x, rfl⟩ := hw'; exact news_blk (bel_keep x.2 hPM HPP.out)) Tryd.underlying78 rfl size_apair ?_
    refine wpQuiet_nil ?_
    intro K hK
    first | go_simp | skip
    go_wp2_with (go_at_call 39; refine (QSE.out wt.drew (HPA.out.odds.below (Below.refl _ _).drew) (ST.out.lim.below (Below.refl _ _).drew)).mono ?_; rintro e wa ⟨rfl, ba'⟩)
    have Ba := Lib.hid (undrew ba')
    refine hK _ _ ⟨⟨wa, by rw [HM3.out]; exact Ba.out⟩, rfl⟩ ?_
    clear hK K ba'
    have Sa := Lib.hid (ST.out.below Ba.out)
    cases dn with
    | true =>
      have HSAME := Lib.hid (show nextAt A B S O N D M k = fAt O k from HNA.out.trans (if_pos rfl))
      first | go_big_quiet_step (fail) | quiet_step (fail)
      first | go_big_quiet_step (fail) | quiet_step (fail)
      first | go_big_quiet_step (fail) | quiet_step (fail)
      first | go_big_quiet_step (fail) | quiet_step (fail)
      first | go_big_quiet_step (fail) | quiet_step (fail)
      first | go_big_quiet_step (fail) | quiet_step (fail)
      first | go_big_quiet_step (fail) | quiet_step (fail)
      first | go_big_quiet_step (fail) | quiet_step (fail)
      first | go_big_quiet_step (fail) | quiet_step (fail)
      first | go_big_quiet_step (fail) | quiet_step (fail)
      first | go_big_quiet_step (fail) | quiet_step (fail)
      refine wpQuiet_nil ?_
      go_wp2_with fail
      go_roundw
      case rel => exact ⟨k + 1, by omega, by go_num, by rw [oddsAt_same HSAME.out]; exact Sa.out⟩
      case measure => simp [intOf]; omega
    | false =>
    have HNB := Lib.hid (show nextAt A B S O N D M k = _ from HNA.out.trans (if_neg (by decide)))
    by_cases hmm : ma = mb
    · have HSAME := Lib.hid (show nextAt A B S O N D M k = fAt O k from HNB.out.trans (if_pos hmm))
      have dm : (ma == mb) = true := by rw [hmm]; simp
      clear hmm
      first | go_big_quiet_step (fail) | quiet_step (fail)
      first | go_big_quiet_step (fail) | quiet_step (fail)
      first | go_big_quiet_step (fail) | quiet_step (fail)
      refine wpQuiet_load_one rfl 3 _ rfl ⟨P, 0, none⟩ (.int .i64 (ia : Int)) _ rfl (fun w' hw' => by obtain ⟨x, rfl⟩ := hw'; exact cell_of_row _ P 0 _ _ _ (bel_keep x.2 hPM HPP.out)) Tryd.underlying3 rfl ?_
      first | go_big_quiet_step (fail) | quiet_step (fail)
      refine wpQuiet_load_one rfl 3 _ rfl (qm.add ia) (.int .i64 ma) _ rfl (fun w' hw' => by obtain ⟨x, rfl⟩ := hw'; exact (x.2.cell (by rw [addr_block']; exact hqM)).trans HMT.out.2.1) Tryd.underlying3 rfl ?_
      first | go_big_quiet_step (fail) | quiet_step (fail)
      first | go_big_quiet_step (fail) | quiet_step (fail)
      refine wpQuiet_load_one rfl 3 _ rfl ⟨P, 1, none⟩ (.int .i64 (ib : Int)) _ rfl (fun w' hw' => by obtain ⟨x, rfl⟩ := hw'; exact cell_of_row _ P 1 _ _ _ (bel_keep x.2 hPM HPP.out)) Tryd.underlying3 rfl ?_
      first | go_big_quiet_step (fail) | quiet_step (fail)
      refine wpQuiet_load_one rfl 3 _ rfl (qm.add ib) (.int .i64 mb) _ rfl (fun w' hw' => by obtain ⟨x, rfl⟩ := hw'; exact (x.2.cell (by rw [addr_block']; exact hqM)).trans HMT.out.2.2) Tryd.underlying3 rfl ?_
      refine wpQuiet_nil ?_
      go_wp2_with fail
      go_roundw
      case rel => exact ⟨k + 1, by omega, by go_num, by rw [oddsAt_same HSAME.out]; exact Sa.out⟩
      case measure => simp [intOf]; omega
    have HNC := Lib.hid (show nextAt A B S O N D M k = _ from HNB.out.trans (if_neg hmm))
    have dm : (ma == mb) = false := by rw [beq_eq_false_iff_ne]; exact hmm
    first | go_big_quiet_step (fail) | quiet_step (fail)
    first | go_big_quiet_step (fail) | quiet_step (fail)
    first | go_big_quiet_step (fail) | quiet_step (fail)
    refine wpQuiet_load_one rfl 3 _ rfl ⟨P, 0, none⟩ (.int .i64 (ia : Int)) _ rfl (fun w' hw' => by obtain ⟨x, rfl⟩ := hw'; exact cell_of_row _ P 0 _ _ _ (bel_keep x.2 hPM HPP.out)) Tryd.underlying3 rfl ?_
    first | go_big_quiet_step (fail) | quiet_step (fail)
    refine wpQuiet_load_one rfl 3 _ rfl (qm.add ia) (.int .i64 ma) _ rfl (fun w' hw' => by obtain ⟨x, rfl⟩ := hw'; exact (x.2.cell (by rw [addr_block']; exact hqM)).trans HMT.out.2.1) Tryd.underlying3 rfl ?_
    first | go_big_quiet_step (fail) | quiet_step (fail)
    first | go_big_quiet_step (fail) | quiet_step (fail)
    refine wpQuiet_load_one rfl 3 _ rfl ⟨P, 1, none⟩ (.int .i64 (ib : Int)) _ rfl (fun w' hw' => by obtain ⟨x, rfl⟩ := hw'; exact cell_of_row _ P 1 _ _ _ (bel_keep x.2 hPM HPP.out)) Tryd.underlying3 rfl ?_
    first | go_big_quiet_step (fail) | quiet_step (fail)
    refine wpQuiet_load_one rfl 3 _ rfl (qm.add ib) (.int .i64 mb) _ rfl (fun w' hw' => by obtain ⟨x, rfl⟩ := hw'; exact (x.2.cell (by rw [addr_block']; exact hqM)).trans HMT.out.2.2) Tryd.underlying3 rfl ?_
    refine wpQuiet_nil ?_
    have hwe : ∃ x : BelowT M3 wt, wa.drew = x.w := ⟨⟨wa.drew, by rw [HM3.out]; exact Ba.out.trans ((Below.refl _ _).drew.mono Ba.out.size)⟩, rfl⟩
    have w0a : wa.cell? ⟨P, 0, none⟩ = some (.int .i64 (ia : Int)) := cell_of_row wa P 0 _ _ _ (bel_keep Ba.out (lt_of_heap HPP.out) HPP.out)
    have hPa : P < wa.heap.size := Nat.lt_of_lt_of_le (lt_of_heap HPP.out) Ba.out.size
    have mca : wa.cell? (qm.add ia) = some (.int .i64 ma) := (Ba.out.cell (by rw [addr_block']; exact HMT.out.1)).trans HMT.out.2.1
    by_cases hm1 : ma = 1
    · have dm1 : (ma == 1) = true := by rw [hm1]; rfl
      have HNEXT := Lib.hid (show nextAt A B S O N D M k = (SNU, SDU) from HNC.out.trans ((if_pos (by omega)).trans HUP.out))
      clear hmm hm1 hma hmb
      go_upto_region 16 with (fail)
      clear w0a hPa mca
      refine Seg.wp_region_segs (fun w' => ∃ x : BelowT M3 wt, w' = x.w) [([0, 1, 2, 3, 4, 5], 6), ([], 7)] [] 8 (by kernel_rfl) (by kernel_rfl) (fun _ _ d _ _ h => by cases d <;> exact h) (hwe) ?_
      simp only [List.map_cons, List.map_nil, Seg.opAt, List.drop_succ_cons, List.drop_zero, Seg.wpSegs, Array.getD_eq_getD_getElem?, List.getElem?_toArray, List.getElem?_cons_succ, List.getElem?_cons_zero, Option.getD_some]
      first | go_big_quiet_step (fail) | quiet_step (fail)
      refine wpQuiet_load_one rfl 25 _ rfl ⟨X, 3, none⟩ (.slice (some ⟨g, 0, none⟩) O.length k3) _ rfl (fun w' hw' => by obtain ⟨x, rfl⟩ := hw'; exact cell_of_row _ X 3 _ _ _ (bel_keep x.2 hXM ST.out.row)) Tryd.underlying25 rfl ?_
      first | go_big_quiet_step (fail) | quiet_step (fail)
      first | go_big_quiet_step (fail) | quiet_step (fail)
      refine wpQuiet_load_at rfl 53 _ rfl ⟨P, 4, none⟩ [.slice poa (dig pa).length pca, .slice pob (dig pb).length pcb] _ rfl (fun w' hw' => by obtain ⟨x, rfl⟩ := hw'; exact mid_blk (bel_keep x.2 hPM HPP.out) _ (fun j u hj => by match j with | 0 => exact hj | 1 => exact hj | _ + 2 => cases hj)) Tryd.underlying53 rfl HSX.out ?_
      refine wpQuiet_load_at rfl 53 _ rfl ⟨F1, 0, none⟩ [.slice u1 (dig UN).length y1, .slice u2 (dig UD).length y2] _ rfl (fun w' hw' => by obtain ⟨x, rfl⟩ := hw'; exact news_blk (bel_keep x.2 hF1M HF1.out)) Tryd.underlying53 rfl HSX.out ?_
      refine wpQuiet_nil ?_
      intro K hK
      first | go_simp | skip
      go_wp2_with (go_at_call 46; refine (QTU.out u1 u2 y1 y2 wa.drew ((HPA.out.odds.below Ba.out).below (Below.refl _ _).drew) ((HU.out.below Ba.out).below (Below.refl _ _).drew)).mono ?_; rintro e wb ⟨z1, z2, j1, j2, rfl, hT, bb'⟩)
      have Bb := Lib.hid (Ba.out.trans ((undrew bb').mono Ba.out.size))
      have HT := Lib.hid hT
      refine hK _ _ ⟨⟨wb, by rw [HM3.out]; exact Bb.out⟩, rfl⟩ ?_
      clear hK K hT bb'
      repeat (any_goals (first | go_big_quiet_step (fail) | quiet_step (fail)))
      refine wpQuiet_nil ?_
      intro K hK
      first | go_simp | skip
      go_wp2_with (go_at_call 26; refine (QTOU.out z1 z2 j1 j2 wb HT.out).mono ?_; rintro e wc ⟨rfl, bc'⟩)
      have Bc := Lib.hid (Bb.out.trans (bc'.mono Bb.out.size))
      refine hK _ _ ⟨⟨wc, by rw [HM3.out]; exact Bc.out⟩, rfl⟩ ?_
      clear hK K bc'
      have Sc := Lib.hid (ST.out.below Bc.out)
      repeat (any_goals (first | go_big_quiet_step (fail) | quiet_step (fail)))
      refine wpQuiet_nil ?_
      go_wp2_with (refine wpList_store_mid rfl 24 _ _ rfl g (k * 2) #[.string ⟨SNU.toArray⟩, .string ⟨SDU.toArray⟩] rfl rfl (own_there Sc.out.own3.own hkO') size_apiF (two_strings _ _) ?_)
      go_roundw
      case rel => exact ⟨k + 1, by omega, by go_num, by rw [oddsAt_succ, HNEXT.out]; exact DrSt.put Sc.out hkO' _ _⟩
      case measure => simp [intOf]; omega
    · have dm1 : (ma == 1) = false := by rw [beq_eq_false_iff_ne]; exact hm1
      have HNEXT := Lib.hid (show nextAt A B S O N D M k = (SNV, SDV) from HNC.out.trans ((if_neg (by omega)).trans HDN.out))
      clear hmm hm1 hma hmb
      go_upto_region 13 with (fail)
      clear w0a hPa mca
      refine Seg.wp_region_segs (fun w' => ∃ x : BelowT M3 wt, w' = x.w) [([0, 1, 2, 3, 4, 5], 6), ([], 7)] [] 8 (by kernel_rfl) (by kernel_rfl) (fun _ _ d _ _ h => by cases d <;> exact h) (hwe) ?_
      simp only [List.map_cons, List.map_nil, Seg.opAt, List.drop_succ_cons, List.drop_zero, Seg.wpSegs, Array.getD_eq_getD_getElem?, List.getElem?_toArray, List.getElem?_cons_succ, List.getElem?_cons_zero, Option.getD_some]
      first | go_big_quiet_step (fail) | quiet_step (fail)
      refine wpQuiet_load_one rfl 25 _ rfl ⟨X, 3, none⟩ (.slice (some ⟨g, 0, none⟩) O.length k3) _ rfl (fun w' hw' => by obtain ⟨x, rfl⟩ := hw'; exact cell_of_row _ X 3 _ _ _ (bel_keep x.2 hXM ST.out.row)) Tryd.underlying25 rfl ?_
      first | go_big_quiet_step (fail) | quiet_step (fail)
      first | go_big_quiet_step (fail) | quiet_step (fail)
      refine wpQuiet_load_at rfl 53 _ rfl ⟨P, 4, none⟩ [.slice poa (dig pa).length pca, .slice pob (dig pb).length pcb] _ rfl (fun w' hw' => by obtain ⟨x, rfl⟩ := hw'; exact mid_blk (bel_keep x.2 hPM HPP.out) _ (fun j u hj => by match j with | 0 => exact hj | 1 => exact hj | _ + 2 => cases hj)) Tryd.underlying53 rfl HSX.out ?_
      refine wpQuiet_load_at rfl 53 _ rfl ⟨F1 + 1, 0, none⟩ [.slice u3 (dig DN).length y3, .slice u4 (dig DD).length y4] _ rfl (fun w' hw' => by obtain ⟨x, rfl⟩ := hw'; exact news_blk (bel_keep x.2 hG1M HG1.out)) Tryd.underlying53 rfl HSX.out ?_
      refine wpQuiet_nil ?_
      intro K hK
      first | go_simp | skip
      go_wp2_with (go_at_call 46; refine (QTD.out u3 u4 y3 y4 wa.drew ((HPA.out.odds.below Ba.out).below (Below.refl _ _).drew) ((HV.out.below Ba.out).below (Below.refl _ _).drew)).mono ?_; rintro e wb ⟨z1, z2, j1, j2, rfl, hT, bb'⟩)
      have Bb := Lib.hid (Ba.out.trans ((undrew bb').mono Ba.out.size))
      have HT := Lib.hid hT
      refine hK _ _ ⟨⟨wb, by rw [HM3.out]; exact Bb.out⟩, rfl⟩ ?_
      clear hK K hT bb'
      repeat (any_goals (first | go_big_quiet_step (fail) | quiet_step (fail)))
      refine wpQuiet_nil ?_
      intro K hK
      first | go_simp | skip
      go_wp2_with (go_at_call 26; refine (QTOD.out z1 z2 j1 j2 wb HT.out).mono ?_; rintro e wc ⟨rfl, bc'⟩)
      have Bc := Lib.hid (Bb.out.trans (bc'.mono Bb.out.size))
      refine hK _ _ ⟨⟨wc, by rw [HM3.out]; exact Bc.out⟩, rfl⟩ ?_
      clear hK K bc'
      have Sc := Lib.hid (ST.out.below Bc.out)
      repeat (any_goals (first | go_big_quiet_step (fail) | quiet_step (fail)))
      refine wpQuiet_nil ?_
      go_wp2_with (refine wpList_store_mid rfl 24 _ _ rfl g (k * 2) #[.string ⟨SNV.toArray⟩, .string ⟨SDV.toArray⟩] rfl rfl (own_there Sc.out.own3.own hkO') size_apiF (two_strings _ _) ?_)
      go_roundw
      case rel => exact ⟨k + 1, by omega, by go_num, by rw [oddsAt_succ, HNEXT.out]; exact DrSt.put Sc.out hkO' _ _⟩
      case measure => simp [intOf]; omega
  · have dk : decide ((k : Int) < (L.length : Int)) = false := decide_eq_false (by omega)
    have dk2 : decide (k < L.length) = false := decide_eq_false hlt
    obtain rfl : k = L.length := by omega
    have HOA := Lib.hid (show oddsAt A B S O N D M L.length = nextOs A B S O N D M by rw [HL.out, ← lOO.out]; exact oddsAt_all)
    have hXr : X < wr.heap.size := lt_of_heap SR.out.row
    go_wp2_with (first
      | (refine wpList_load_whole rfl 27 _ rfl X _ _ _ _ rfl SR.out.row Tryd.underlying27 rfl size_watch ?_)
      | (refine wpList_store_whole rfl rfl 27 _ _ rfl (B0 + 1) #[.slice none 0 0, .slice none 0 0, .slice none 0 0, .slice none 0 0, .string ⟨#[]⟩, .string ⟨#[]⟩, .int .i64 0] #[.slice b0 A.length k0, .slice b1 B.length k1, .slice b2 S.length k2, .slice b3 O.length k3, .string ⟨N.toArray⟩, .string ⟨D.toArray⟩, .int .i64 (dr + 1)] 27 rfl rfl SR.out.ans rfl HS.out (seven_one _ _ _ _ _ _ _ rfl rfl rfl rfl rfl rfl rfl) ?_; intro w9 ho hp))
    refine bodyPost_ret (results_cell_tmp rfl _ w9 (B0 + 1) _ _ _ _ _ rfl rfl hp Tryd.underlying27 rfl HS.out) rfl ?_
    unfold DrawGot
    rw [if_pos HE.out, ← HOA.out]
    exact ⟨b0, b1, b2, b3, k0, k1, k2, k3, by rw [length_oddsAt]; rfl, isAt_own2 (own_kept SR.out.own0 SR.out.ans (by decide) ho), isAt_own2 (own_kept SR.out.own1 SR.out.ans (by decide) ho), fsAt_own2 (own_kept SR.out.own2 SR.out.ans (by decide) ho), fsAt_own2 (own_kept SR.out.own3.own SR.out.ans (by decide) ho), bel_only (by rw [HB.out]; exact SR.out.bel) ho (by rw [HB.out]; omega)⟩
end Go.Proofs.YtlbdcgnpkapncaaDoor
