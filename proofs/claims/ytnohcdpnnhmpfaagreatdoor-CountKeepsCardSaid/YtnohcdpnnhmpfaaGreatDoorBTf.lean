/-
  Chapter 13: count.Transfer. Printed by tools/gentf.py.
  Chapter 13: the law's own 'in'. Printed by tools/genli.py.
-/
import Derived.Test.YtnohcdpnnhmpfaaGreatDoorBTz
import Derived.Test.YtnohcdpnnhmpfaaGreatDoorTrZ
namespace Go.Proofs.YtnohcdpnnhmpfaaGreatDoor.TR
set_option linter.unusedVariables false
set_option linter.unusedSimpArgs false
open Go.RowKit ML FRP AU CT FM

theorem size_trans4 : (Tryz.prog.info? 31).map (·.size) = some 4 := by kernel_rfl
theorem built_zero : Tryz.prog.built 31 [] = some #[.string ⟨#[]⟩, .string ⟨#[]⟩, .slice none 0 0, .slice none 0 0] := by kernel_rfl
set_option maxHeartbeats 8000000 in
set_option maxRecDepth 100000 in
theorem cTransfer_any (c : CTest) (P : List (Value × List Int)) (lots : Bytes) (oa : Option Addr) (cap : Nat) (ob : Option Addr) (cb : Nat) (w : World) (hs : StrsAt w oa c.op) (hP : PsAt w ob P) (hf : c.Fits lots) (hnl : c.op.length < 9223372036854775807) :
    Calls Tryz.prog 9 #[.agg #[.string ⟨c.nm.toArray⟩, .slice oa c.op.length cap, .int .i64 c.rl, .int .i64 c.se, .int .i64 c.mo], .slice ob P.length cb, .string ⟨lots.toArray⟩] w (TrGot c P lots w) := by
  have QD := Lib.hid (show ∀ (w : World) (h : StrsAt w oa c.op), Calls Tryz.prog 28 #[.agg #[.string ⟨c.nm.toArray⟩, .slice oa c.op.length cap, .int .i64 c.rl, .int .i64 c.se, .int .i64 c.mo], .string ⟨lots.toArray⟩] w (DrawGot c lots oa cap w) from fun w h => draw_any c lots oa cap w h hf hnl)
  have HS := Lib.hid hs
  have HP := Lib.hid hP
  have HPR := Lib.hid (show prE c P = if wrongC c = true then 2 else filE c.op.length P from rfl)
  clear hs hP hf
  unfold DrawGot at QD
  cases hW : wrongC c with
  | true =>
    rw [hW] at QD HPR
    have HE := Lib.hid (HPR.out.trans (if_pos rfl))
    clear hW HPR
    go_enter Tryz.func9, Tryz.ntmps9
    go_upto_region 1 with (fail)
    have hbA : Below w.heap.size w ((w.alloc (.cells #[.string ⟨c.nm.toArray⟩, .slice oa c.op.length cap, .int .i64 c.rl, .int .i64 c.se, .int .i64 c.mo] 24)).alloc (.cells #[.string ⟨#[]⟩, .string ⟨#[]⟩, .slice none 0 0, .slice none 0 0] 31)) := ((Below.refl _ _).alloc (Nat.le_refl _) _).alloc (by simp) _
    have hc1 : ((w.alloc (.cells #[.string ⟨c.nm.toArray⟩, .slice oa c.op.length cap, .int .i64 c.rl, .int .i64 c.se, .int .i64 c.mo] 24)).alloc (.cells #[.string ⟨#[]⟩, .string ⟨#[]⟩, .slice none 0 0, .slice none 0 0] 31)).heap[w.heap.size]? = some (.cells #[.string ⟨c.nm.toArray⟩, .slice oa c.op.length cap, .int .i64 c.rl, .int .i64 c.se, .int .i64 c.mo] 24 (0, 0)) := heap_lt (heap_at rfl)
    have hc2 : ((w.alloc (.cells #[.string ⟨c.nm.toArray⟩, .slice oa c.op.length cap, .int .i64 c.rl, .int .i64 c.se, .int .i64 c.mo] 24)).alloc (.cells #[.string ⟨#[]⟩, .string ⟨#[]⟩, .slice none 0 0, .slice none 0 0] 31)).heap[w.heap.size + 1]? = some (.cells #[.string ⟨#[]⟩, .string ⟨#[]⟩, .slice none 0 0, .slice none 0 0] 31 (0, 0)) := heap_at (by simp)
    generalize hB : w.heap.size = B at *
    refine wp_abs (fun w1 => Below B w w1 ∧ w1.heap[B]? = some (.cells #[.string ⟨c.nm.toArray⟩, .slice oa c.op.length cap, .int .i64 c.rl, .int .i64 c.se, .int .i64 c.mo] 24 (0, 0)) ∧ w1.heap[B + 1]? = some (.cells #[.string ⟨#[]⟩, .string ⟨#[]⟩, .slice none 0 0, .slice none 0 0] 31 (0, 0))) ⟨hbA, hc1, hc2⟩ (fun w1 hw1 => ?_)
    have HB := Lib.hid hB
    have B1 := Lib.hid hw1.1
    have X1 := Lib.hid hw1.2.1
    have Y1 := Lib.hid hw1.2.2
    have hBs : B + 1 < w1.heap.size := lt_of_heap hw1.2.2
    have Q1 := Lib.hid (QD.out w1 (HS.out.below (HB.out.symm ▸ B1.out)))
    clear hB hw1 QD hbA hc1 hc2
    go_upto_region 3 with (first
          | go_big_skip
          | ((with_reducible refine at_load 24 ?_); refine wpList_load_g ?_ 24 (.tmp 3) ?_ B _ _ _ _ ?_ X1.out Tryz.underlying24 ?_ size_contest ?_; rfl; rfl; rfl; rfl)
          | (go_at_call 28; refine (Q1.out).mono ?_; rintro e w3 ⟨b3, h3⟩; rw [if_pos rfl] at h3; subst h3; dsimp only; have B3 := Lib.hid b3; clear b3)
          | (refine wpList_store_whole rfl rfl 62 _ _ rfl w3.heap.size #[.string ⟨#[]⟩, .slice none 0 0, .int .i64 0, .int .i64 0, .int .i64 0, .slice none 0 0, .slice none 0 0] #[.string ⟨#[]⟩, .slice none 0 0, .int .i64 0, .int .i64 0, .int .i64 0, .slice none 0 0, .slice none 0 0] 62 rfl rfl (heap_at rfl) rfl size_drawn (seven_a _ _ _ _ _ _ _ rfl rfl rfl rfl rfl rfl rfl) ?_; intro w4 ho3 hp3))
    have b4 : Below w3.heap.size w3 w4 := bel_only ((Below.refl _ _).alloc (Nat.le_refl _) _) ho3 (Nat.le_refl _)
    have b14 := B3.out.trans (b4.mono B3.out.size)
    have Y4 := Lib.hid (bel_keep b14 hBs Y1.out)
    have B4 := Lib.hid (B1.out.trans (b14.mono (Nat.le_of_lt (by omega))))
    clear b4 b14 ho3 hp3
    go_wp2_with (first
          | go_big_skip
          | (with_reducible refine wpList_build rfl 31 _ rfl [] (by first | (simp; done) | (simp [Act.eval]; done)) _ built_zero ?_)
          | (refine wpList_store_whole rfl rfl 31 _ _ rfl (B + 1) #[.string ⟨#[]⟩, .string ⟨#[]⟩, .slice none 0 0, .slice none 0 0] #[.string ⟨#[]⟩, .string ⟨#[]⟩, .slice none 0 0, .slice none 0 0] 31 rfl rfl Y4.out rfl size_trans4 (four_one _ _ _ _ rfl rfl) ?_; intro w5 ho hp))
    refine bodyPost_ret (results_cell_tmp rfl _ w5 (B + 1) _ _ _ _ _ rfl rfl hp Tryz.underlying31 rfl size_trans4) rfl ?_
    exact TrGot.bad HE.out (by decide) (by rw [HB.out]; exact bel_only B4.out ho (by omega))
  | false =>
    rw [hW] at QD HPR
    obtain ⟨hn1, hn12, _, _, hs1, hsn⟩ := wrongC_no hW
    have HE := Lib.hid (HPR.out.trans (if_neg (by decide)))
    have QF := Lib.hid (fun w1 h => filled_any c 3 P oa cap ob cb w1 h hn12 hn1)
    clear hW HPR
    unfold FilGot at QF
    go_enter Tryz.func9, Tryz.ntmps9
    go_upto_region 1 with (fail)
    have hbA : Below w.heap.size w ((w.alloc (.cells #[.string ⟨c.nm.toArray⟩, .slice oa c.op.length cap, .int .i64 c.rl, .int .i64 c.se, .int .i64 c.mo] 24)).alloc (.cells #[.string ⟨#[]⟩, .string ⟨#[]⟩, .slice none 0 0, .slice none 0 0] 31)) := ((Below.refl _ _).alloc (Nat.le_refl _) _).alloc (by simp) _
    have hc1 : ((w.alloc (.cells #[.string ⟨c.nm.toArray⟩, .slice oa c.op.length cap, .int .i64 c.rl, .int .i64 c.se, .int .i64 c.mo] 24)).alloc (.cells #[.string ⟨#[]⟩, .string ⟨#[]⟩, .slice none 0 0, .slice none 0 0] 31)).heap[w.heap.size]? = some (.cells #[.string ⟨c.nm.toArray⟩, .slice oa c.op.length cap, .int .i64 c.rl, .int .i64 c.se, .int .i64 c.mo] 24 (0, 0)) := heap_lt (heap_at rfl)
    have hc2 : ((w.alloc (.cells #[.string ⟨c.nm.toArray⟩, .slice oa c.op.length cap, .int .i64 c.rl, .int .i64 c.se, .int .i64 c.mo] 24)).alloc (.cells #[.string ⟨#[]⟩, .string ⟨#[]⟩, .slice none 0 0, .slice none 0 0] 31)).heap[w.heap.size + 1]? = some (.cells #[.string ⟨#[]⟩, .string ⟨#[]⟩, .slice none 0 0, .slice none 0 0] 31 (0, 0)) := heap_at (by simp)
    generalize hB : w.heap.size = B at *
    refine wp_abs (fun w1 => Below B w w1 ∧ w1.heap[B]? = some (.cells #[.string ⟨c.nm.toArray⟩, .slice oa c.op.length cap, .int .i64 c.rl, .int .i64 c.se, .int .i64 c.mo] 24 (0, 0)) ∧ w1.heap[B + 1]? = some (.cells #[.string ⟨#[]⟩, .string ⟨#[]⟩, .slice none 0 0, .slice none 0 0] 31 (0, 0))) ⟨hbA, hc1, hc2⟩ (fun w1 hw1 => ?_)
    have HB := Lib.hid hB
    have B1 := Lib.hid hw1.1
    have X1 := Lib.hid hw1.2.1
    have Y1 := Lib.hid hw1.2.2
    have hBs : B + 1 < w1.heap.size := lt_of_heap hw1.2.2
    have Q1 := Lib.hid (QD.out w1 (HS.out.below (HB.out.symm ▸ B1.out)))
    clear hB hw1 QD hbA hc1 hc2
    go_upto_region 2 with (first
          | go_big_skip
          | ((with_reducible refine at_load 24 ?_); refine wpList_load_g ?_ 24 (.tmp 3) ?_ B _ _ _ _ ?_ X1.out Tryz.underlying24 ?_ size_contest ?_; rfl; rfl; rfl; rfl)
          | (go_at_call 28; refine (Q1.out).mono ?_; rintro e w3 ⟨b3, h3⟩; rw [if_neg (by decide)] at h3; obtain ⟨O, Pl, oO, cO, oP, cP, hO, hPl, hIO, hIP, rfl⟩ := h3; dsimp only; have B3 := Lib.hid b3; have HO := Lib.hid hO; have HPL := Lib.hid hPl; have HIO := Lib.hid hIO; have HIP := Lib.hid hIP; clear hO hPl hIO hIP b3)
          | (refine wpList_store_whole rfl rfl 62 _ _ rfl w3.heap.size #[.string ⟨#[]⟩, .slice none 0 0, .int .i64 0, .int .i64 0, .int .i64 0, .slice none 0 0, .slice none 0 0] #[.string ⟨c.nm.toArray⟩, .slice oa c.op.length cap, .int .i64 c.rl, .int .i64 c.se, .int .i64 c.mo, .slice oO O.length cO, .slice oP Pl.length cP] 62 rfl rfl (heap_at rfl) rfl size_drawn (seven_a _ _ _ _ _ _ _ rfl rfl rfl rfl rfl rfl rfl) ?_; intro w4 ho3 hp3))
    have b4 : Below w3.heap.size w3 w4 := bel_only ((Below.refl _ _).alloc (Nat.le_refl _) _) ho3 (Nat.le_refl _)
    have bw4 : Below w1.heap.size w1 w4 := B3.out.trans (b4.mono B3.out.size)
    have B4 := Lib.hid (B1.out.trans (bw4.mono (by omega)))
    have X4 := Lib.hid (bel_keep bw4 (by omega) X1.out)
    have Y4 := Lib.hid (bel_keep bw4 hBs Y1.out)
    have hB4 : B + 1 < w4.heap.size := lt_of_heap Y4.out
    have HP4 := Lib.hid (HP.out.below (HB.out.symm ▸ B4.out))
    have Q4 := Lib.hid (QF.out w4 HP4.out)
    have IOr := Lib.hid (HIO.out.below b4)
    have IP := Lib.hid (HIP.out.below b4)
    have RD := Lib.hid hp3
    have hDlt : w3.heap.size < w4.heap.size := lt_of_heap hp3
    generalize w3.heap.size = D at *
    clear ho3 hp3 b4 bw4 X1 Y1 B1 hBs Q1 QF B3 HIO HIP
    as_aux_lemma =>
    by_cases h0 : filE c.op.length P = 0
    case neg =>
      have hd : (filE c.op.length P != 0) = true := by rw [bne_iff_ne]; exact h0
      have H0 := Lib.hid h0
      clear h0
      go_upto_region 6 with (first
            | go_big_skip
            | ((with_reducible refine at_load 24 ?_); refine wpList_load_g ?_ 24 (.tmp 3) ?_ B _ _ _ _ ?_ X4.out Tryz.underlying24 ?_ size_contest ?_; rfl; rfl; rfl; rfl)
            | (go_at_call 29; refine (Q4.out).mono ?_; rintro e w5 ⟨b5, h5⟩; rw [if_neg H0.out] at h5; subst h5; dsimp only; have Y5 := Lib.hid (bel_keep b5 hB4 Y4.out); have B5 := Lib.hid (B4.out.trans (b5.mono (by omega))); clear b5))
      go_wp2_with (first
            | go_big_skip
            | (with_reducible refine wpList_build rfl 31 _ rfl [] (by first | (simp; done) | (simp [Act.eval]; done)) _ built_zero ?_)
            | (refine wpList_store_whole rfl rfl 31 _ _ rfl (B + 1) #[.string ⟨#[]⟩, .string ⟨#[]⟩, .slice none 0 0, .slice none 0 0] #[.string ⟨#[]⟩, .string ⟨#[]⟩, .slice none 0 0, .slice none 0 0] 31 rfl rfl Y5.out rfl size_trans4 (four_one _ _ _ _ rfl rfl) ?_; intro w6 ho hp))
      refine bodyPost_ret (results_cell_tmp rfl _ w6 (B + 1) _ _ _ _ _ rfl rfl hp Tryz.underlying31 rfl size_trans4) rfl ?_
      exact TrGot.bad HE.out H0.out (by rw [HB.out]; exact bel_only B5.out ho (by omega))
    have HE0 := Lib.hid (HE.out.trans h0)
    obtain ⟨hA, h4096⟩ := filE_ok h0
    have HFE := Lib.hid h0
    have hR : ∀ p ∈ P.filter (keepP (c.rule 3)), Rnk c.op.length p.2 := fun p hp => by
      obtain ⟨h1, h2⟩ := List.mem_filter.1 hp
      have h3 : fitsB (c.rule 3) p.2 = true := by
        have h4 : (fitsB (c.rule 3) p.2 && somePos p.2) = true := h2
        rw [Bool.and_eq_true] at h4; exact h4.1
      exact rnk_of (c := c.rule 3) rfl (hA p h1) h3
    have hK4 : (P.filter (keepP (c.rule 3))).length ≤ 4096 := Nat.le_trans (List.length_filter_le _ _) h4096
    have HOK := Lib.hid (fun (w4 : World) (e : Ending) (w5 : World) ht => TrGot.ok (w := w) (lots := lots) HE0.out HO.out (Bs := P.filter (keepP (c.rule 3))) rfl (w4 := w4) (e := e) (w5 := w5) ht)
    have hd0 : (filE c.op.length P != 0) = false := by rw [h0]; rfl
    clear h0 hA h4096 HE HE0
    generalize P.filter (keepP (c.rule 3)) = Bs at *
    have HR := Lib.hid hR
    have hol := HO.out.len
    have QT := Lib.hid (fun w1 ok ck h1 h2 h3 => transfer_any c oa cap oO cO oP cP O Pl Bs ok ck w1 h1 h2 h3 hn1 hn12 hK4 HR.out ⟨hs1, hsn⟩ hol (by rw [HPL.out.1]; exact hol) (fun x => HO.out.mem) (fun k hk => HPL.out.2 k hk) (ord_nodup HO.out))
    clear hR hol
    go_upto_region 7 with (first
          | go_big_skip
          | ((with_reducible refine at_load 24 ?_); refine wpList_load_g ?_ 24 (.tmp 3) ?_ B _ _ _ _ ?_ X4.out Tryz.underlying24 ?_ size_contest ?_; rfl; rfl; rfl; rfl)
          | (go_at_call 29; refine (Q4.out).mono ?_; rintro e w5 ⟨b5, h5⟩; rw [if_pos HFE.out] at h5; obtain ⟨oo, co, hp5, rfl⟩ := h5; dsimp only; have B5 := Lib.hid (B4.out.trans (b5.mono (by omega))); have P5 := Lib.hid hp5; have Y5 := Lib.hid (bel_keep b5 hB4 Y4.out); have R5 := Lib.hid (bel_keep b5 hDlt RD.out); have IO5 := Lib.hid (IOr.out.below b5); have IP5 := Lib.hid (IP.out.below b5); clear b5 hp5))
    have hB5 : B + 1 < w5.heap.size := lt_of_heap Y5.out
    have Q5 := Lib.hid (QT.out w5 oo co IO5.out IP5.out P5.out)
    have hBl : B ≤ w5.heap.size := by omega
    clear Q4 HFE X4 Y4 B4 HP4 RD IOr IP QT hB4 hDlt HR
    go_wp2_with (first
          | go_big_skip
          | ((with_reducible refine at_load 62 ?_); refine wpList_load_g ?_ 62 (.tmp 8) ?_ D _ _ _ _ ?_ R5.out Tryz.underlying62 ?_ size_drawn ?_; rfl; rfl; rfl; rfl)
          | (go_at_call 30; refine (Q5.out).mono ?_; rintro e w6 hgot; obtain ⟨aq, bq, vR, vE, rfl, hv1, hv2, b6, hfin⟩ := HOK.out w5 e w6 hgot; have HFN := Lib.hid hfin; have B6 := Lib.hid (B5.out.trans (b6.mono hBl)); have Y6 := Lib.hid (bel_keep b6 hB5 Y5.out); have hS6 : B + 1 < w6.heap.size := lt_of_heap Y6.out; clear hfin b6 hgot; dsimp only)
          | (refine wpList_store_whole rfl rfl 31 _ _ rfl (B + 1) #[.string ⟨#[]⟩, .string ⟨#[]⟩, .slice none 0 0, .slice none 0 0] #[.string ⟨aq⟩, .string ⟨bq⟩, vR, vE] 31 rfl rfl Y6.out rfl size_trans4 (four_one _ _ _ _ hv1 hv2) ?_; intro w7 ho hp))
    refine bodyPost_ret (results_cell_tmp rfl _ w7 (B + 1) _ _ _ _ _ rfl rfl hp Tryz.underlying31 rfl size_trans4) rfl ?_
    have tV : Trn 31 (B + 1) (some (B + 1)) w6 w7 := Trn.of_only ho Y6.out (Nat.le_refl _) (fun u hu => by
      simp only [List.mem_cons, List.not_mem_nil, or_false] at hu
      rcases hu with rfl | rfl | rfl | rfl <;> rfl)
    exact HFN.out _ _ _ tV (by rw [HB.out]; exact bel_only B6.out ho (by omega))
end Go.Proofs.YtnohcdpnnhmpfaaGreatDoor.TR
namespace Go.Proofs.YtnohcdpnnhmpfaaGreatDoor.TR
set_option linter.unusedVariables false
set_option linter.unusedSimpArgs false
open Go.RowKit ML FRP AU CT FM

set_option maxHeartbeats 2000000 in
set_option maxRecDepth 100000 in
theorem lawIn_any (oa : Option Addr) (L : List Int) (cap : Nat) (x : Int) (w : World) (h : IsAt w oa L) (hl : L.length < 9223372036854775808) :
    Calls Tryz.prog 13 #[.slice oa L.length cap, .int .i64 x] w fun e w' => e = .returned (.bool (decide (x ∈ L))) ∧ w = w' := by
  have H := Lib.hid h
  clear h
  go_enter Tryz.func13, Tryz.ntmps13
  go_upto_region 2 with (fail)
  go_loop [9] (fun i => ∃ k : Nat, k ≤ L.length ∧ i = .int .i64 k ∧ x ∉ L.take k) (fun i => L.length - (intOf i).toNat)
  case atStart => exact ⟨0, by omega, rfl, by simp⟩
  case round =>
  obtain ⟨k, hk, rfl, hpre⟩ := hrel
  have HP := Lib.hid hpre
  clear hpre
  by_cases hlt : k < L.length
  · have dk : decide ((k : Int) < (L.length : Int)) = true := decide_eq_true (by omega)
    have dk2 : decide (k < L.length) = true := decide_eq_true hlt
    have hki : (k : Int) < (L.length : Int) := by omega
    obtain ⟨a, hoa, hab, hac⟩ := H.out.cells k hlt
    have hyes := Lib.hid (fun (hb : L[k] = x) => (show decide (x ∈ L) = true from decide_eq_true (hb ▸ List.getElem_mem hlt)))
    have hno := Lib.hid (fun (hb : ¬ L[k] = x) => (show x ∉ L.take (k + 1) by
      rw [List.take_succ_eq_append_getElem hlt, List.mem_append, List.mem_singleton]
      rintro (h | h)
      · exact HP.out h
      · exact hb h.symm))
    subst hoa
    generalize L[k] = y at *
    by_cases he : y = x
    · have h2 := Lib.hid (hyes.out he)
      have d1 : (y == x) = true := by rw [beq_iff_eq]; exact he
      clear he hyes hno
      go_wp2_with fail
      go_ret
      exact ⟨by rw [h2.out]; rfl, rfl⟩
    · have h2 := Lib.hid (hno.out he)
      have d1 : (y == x) = false := by rw [beq_eq_false_iff_ne]; exact he
      clear he hyes hno
      go_wp2_with fail
      go_round
      case rel => exact ⟨k + 1, by omega, by go_num, h2.out⟩
      case measure => simp [intOf]; omega
  · have dk : decide ((k : Int) < (L.length : Int)) = false := decide_eq_false (by omega)
    have dk2 : decide (k < L.length) = false := decide_eq_false hlt
    obtain rfl : k = L.length := by omega
    rw [List.take_length] at HP
    have h2 := Lib.hid (show decide (x ∈ L) = false from decide_eq_false HP.out)
    go_wp2_with fail
    go_ret
    exact ⟨by rw [h2.out]; rfl, rfl⟩

end Go.Proofs.YtnohcdpnnhmpfaaGreatDoor.TR
