/-
  Chapter 13: count.Transfer. Printed by tools/gentf.py.
  Chapter 13, CountDroop: who have more than k quotas elect k: the plain law. No program in sight.
  Chapter 13, CountDroop: sets as bits, solid ballots: the plain law for the walk. No program in sight.
  Chapter 13: the law's small helpers: in, solid. Printed by tools/genli.py.
  Chapter 13: CountDroop walked. Printed by tools/gendroop.py.
-/
import Derived.Test.YtnohcdpnnhmpfaaGreatDoorBTz
import Derived.Test.YtnohcdpnnhmpfaaGreatDoorTrZ
import Derived.Test.YtnohcdpnnhmpfaaGreatDoorBTx
namespace Go.Proofs.YtnohcdpnnhmpfaaGreatDoor.TR
set_option linter.unusedVariables false
set_option linter.unusedSimpArgs false
open Go.RowKit ML FRP AU CT FM

theorem size_trans4 : (Tryz.prog.info? 31).map (·.size) = some 4 := by kernel_rfl
theorem built_zero : Tryz.prog.built 31 [] = some #[.string ⟨#[]⟩, .string ⟨#[]⟩, .slice none 0 0, .slice none 0 0] := by kernel_rfl
set_option maxHeartbeats 8000000 in
set_option maxRecDepth 100000 in
theorem cTransfer_any (c : CTest) (P : List (Value × List Int)) (lots : Bytes) (oa : Option Addr) (cap : Nat) (ob : Option Addr) (cb : Nat) (w : World) (hs : StrsAt w oa c.op) (hP : PsAt w ob P) (hf : c.Fits lots) (hnl : c.op.length < 9223372036854775807) :
    Calls Tryz.prog 9 #[.agg #[.string ⟨c.nm.toArray⟩, .slice oa c.op.length cap, .int .i64 c.rl, .int .i64 c.se, .int .i64 c.mo], .slice ob P.length cb, .string ⟨lots.toArray⟩] w (TrGot c P lots w) := by
  have QD := Lib.hid (show ∀ (w : World) (h : StrsAt w oa c.op), Calls Tryz.prog 28 #[.agg #[.string ⟨c.nm.toArray⟩, .slice oa c.op.length cap, .int .i64 c.rl, .int .i64 c.se, .int .i64 c.mo], .string ⟨lots.toArray⟩] w (DrawGot c lots oa cap w) from fun w h => draw_any c lots oa cap w h hf hnl)
  have HS := Lib.hid hs
  have HP := Lib.hid hP
  have HPR := Lib.hid (show prE c P = if wrongC c = true then 2 else filE c.op.length P from rfl)
  clear hs hP hf
  unfold DrawGot at QD
  cases hW : wrongC c with
  | true =>
    rw [hW] at QD HPR
    have HE := Lib.hid (HPR.out.trans (if_pos rfl))
    clear hW HPR
    go_enter Tryz.func9, Tryz.ntmps9
    go_upto_region 1 with (fail)
    have hbA : Below w.heap.size w ((w.alloc (.cells #[.string ⟨c.nm.toArray⟩, .slice oa c.op.length cap, .int .i64 c.rl, .int .i64 c.se, .int .i64 c.mo] 24)).alloc (.cells #[.string ⟨#[]⟩, .string ⟨#[]⟩, .slice none 0 0, .slice none 0 0] 31)) := ((Below.refl _ _).alloc (Nat.le_refl _) _).alloc (by simp) _
    have hc1 : ((w.alloc (.cells #[.string ⟨c.nm.toArray⟩, .slice oa c.op.length cap, .int .i64 c.rl, .int .i64 c.se, .int .i64 c.mo] 24)).alloc (.cells #[.string ⟨#[]⟩, .string ⟨#[]⟩, .slice none 0 0, .slice none 0 0] 31)).heap[w.heap.size]? = some (.cells #[.string ⟨c.nm.toArray⟩, .slice oa c.op.length cap, .int .i64 c.rl, .int .i64 c.se, .int .i64 c.mo] 24 (0, 0)) := heap_lt (heap_at rfl)
    have hc2 : ((w.alloc (.cells #[.string ⟨c.nm.toArray⟩, .slice oa c.op.length cap, .int .i64 c.rl, .int .i64 c.se, .int .i64 c.mo] 24)).alloc (.cells #[.string ⟨#[]⟩, .string ⟨#[]⟩, .slice none 0 0, .slice none 0 0] 31)).heap[w.heap.size + 1]? = some (.cells #[.string ⟨#[]⟩, .string ⟨#[]⟩, .slice none 0 0, .slice none 0 0] 31 (0, 0)) := heap_at (by simp)
    generalize hB : w.heap.size = B at *
    refine wp_abs (fun w1 => Below B w w1 ∧ w1.heap[B]? = some (.cells #[.string ⟨c.nm.toArray⟩, .slice oa c.op.length cap, .int .i64 c.rl, .int .i64 c.se, .int .i64 c.mo] 24 (0, 0)) ∧ w1.heap[B + 1]? = some (.cells #[.string ⟨#[]⟩, .string ⟨#[]⟩, .slice none 0 0, .slice none 0 0] 31 (0, 0))) ⟨hbA, hc1, hc2⟩ (fun w1 hw1 => ?_)
    have HB := Lib.hid hB
    have B1 := Lib.hid hw1.1
    have X1 := Lib.hid hw1.2.1
    have Y1 := Lib.hid hw1.2.2
    have hBs : B + 1 < w1.heap.size := lt_of_heap hw1.2.2
    have Q1 := Lib.hid (QD.out w1 (HS.out.below (HB.out.symm ▸ B1.out)))
    clear hB hw1 QD hbA hc1 hc2
    go_upto_region 3 with (first
          | go_big_skip
          | ((with_reducible refine at_load 24 ?_); refine wpList_load_g ?_ 24 (.tmp 3) ?_ B _ _ _ _ ?_ X1.out Tryz.underlying24 ?_ size_contest ?_; rfl; rfl; rfl; rfl)
          | (go_at_call 28; refine (Q1.out).mono ?_; rintro e w3 ⟨b3, h3⟩; rw [if_pos rfl] at h3; subst h3; dsimp only; have B3 := Lib.hid b3; clear b3)
          | (refine wpList_store_whole rfl rfl 62 _ _ rfl w3.heap.size #[.string ⟨#[]⟩, .slice none 0 0, .int .i64 0, .int .i64 0, .int .i64 0, .slice none 0 0, .slice none 0 0] #[.string ⟨#[]⟩, .slice none 0 0, .int .i64 0, .int .i64 0, .int .i64 0, .slice none 0 0, .slice none 0 0] 62 rfl rfl (heap_at rfl) rfl size_drawn (seven_a _ _ _ _ _ _ _ rfl rfl rfl rfl rfl rfl rfl) ?_; intro w4 ho3 hp3))
    have b4 : Below w3.heap.size w3 w4 := bel_only ((Below.refl _ _).alloc (Nat.le_refl _) _) ho3 (Nat.le_refl _)
    have b14 := B3.out.trans (b4.mono B3.out.size)
    have Y4 := Lib.hid (bel_keep b14 hBs Y1.out)
    have B4 := Lib.hid (B1.out.trans (b14.mono (Nat.le_of_lt (by omega))))
    clear b4 b14 ho3 hp3
    go_wp2_with (first
          | go_big_skip
          | (with_reducible refine wpList_build rfl 31 _ rfl [] (by first | (simp; done) | (simp [Act.eval]; done)) _ built_zero ?_)
          | (refine wpList_store_whole rfl rfl 31 _ _ rfl (B + 1) #[.string ⟨#[]⟩, .string ⟨#[]⟩, .slice none 0 0, .slice none 0 0] #[.string ⟨#[]⟩, .string ⟨#[]⟩, .slice none 0 0, .slice none 0 0] 31 rfl rfl Y4.out rfl size_trans4 (four_one _ _ _ _ rfl rfl) ?_; intro w5 ho hp))
    refine bodyPost_ret (results_cell_tmp rfl _ w5 (B + 1) _ _ _ _ _ rfl rfl hp Tryz.underlying31 rfl size_trans4) rfl ?_
    exact TrGot.bad HE.out (by decide) (by rw [HB.out]; exact bel_only B4.out ho (by omega))
  | false =>
    rw [hW] at QD HPR
    obtain ⟨hn1, hn12, _, _, hs1, hsn⟩ := wrongC_no hW
    have HE := Lib.hid (HPR.out.trans (if_neg (by decide)))
    have QF := Lib.hid (fun w1 h => filled_any c 3 P oa cap ob cb w1 h hn12 hn1)
    clear hW HPR
    unfold FilGot at QF
    go_enter Tryz.func9, Tryz.ntmps9
    go_upto_region 1 with (fail)
    have hbA : Below w.heap.size w ((w.alloc (.cells #[.string ⟨c.nm.toArray⟩, .slice oa c.op.length cap, .int .i64 c.rl, .int .i64 c.se, .int .i64 c.mo] 24)).alloc (.cells #[.string ⟨#[]⟩, .string ⟨#[]⟩, .slice none 0 0, .slice none 0 0] 31)) := ((Below.refl _ _).alloc (Nat.le_refl _) _).alloc (by simp) _
    have hc1 : ((w.alloc (.cells #[.string ⟨c.nm.toArray⟩, .slice oa c.op.length cap, .int .i64 c.rl, .int .i64 c.se, .int .i64 c.mo] 24)).alloc (.cells #[.string ⟨#[]⟩, .string ⟨#[]⟩, .slice none 0 0, .slice none 0 0] 31)).heap[w.heap.size]? = some (.cells #[.string ⟨c.nm.toArray⟩, .slice oa c.op.length cap, .int .i64 c.rl, .int .i64 c.se, .int .i64 c.mo] 24 (0, 0)) := heap_lt (heap_at rfl)
    have hc2 : ((w.alloc (.cells #[.string ⟨c.nm.toArray⟩, .slice oa c.op.length cap, .int .i64 c.rl, .int .i64 c.se, .int .i64 c.mo] 24)).alloc (.cells #[.string ⟨#[]⟩, .string ⟨#[]⟩, .slice none 0 0, .slice none 0 0] 31)).heap[w.heap.size + 1]? = some (.cells #[.string ⟨#[]⟩, .string ⟨#[]⟩, .slice none 0 0, .slice none 0 0] 31 (0, 0)) := heap_at (by simp)
    generalize hB : w.heap.size = B at *
    refine wp_abs (fun w1 => Below B w w1 ∧ w1.heap[B]? = some (.cells #[.string ⟨c.nm.toArray⟩, .slice oa c.op.length cap, .int .i64 c.rl, .int .i64 c.se, .int .i64 c.mo] 24 (0, 0)) ∧ w1.heap[B + 1]? = some (.cells #[.string ⟨#[]⟩, .string ⟨#[]⟩, .slice none 0 0, .slice none 0 0] 31 (0, 0))) ⟨hbA, hc1, hc2⟩ (fun w1 hw1 => ?_)
    have HB := Lib.hid hB
    have B1 := Lib.hid hw1.1
    have X1 := Lib.hid hw1.2.1
    have Y1 := Lib.hid hw1.2.2
    have hBs : B + 1 < w1.heap.size := lt_of_heap hw1.2.2
    have Q1 := Lib.hid (QD.out w1 (HS.out.below (HB.out.symm ▸ B1.out)))
    clear hB hw1 QD hbA hc1 hc2
    go_upto_region 2 with (first
          | go_big_skip
          | ((with_reducible refine at_load 24 ?_); refine wpList_load_g ?_ 24 (.tmp 3) ?_ B _ _ _ _ ?_ X1.out Tryz.underlying24 ?_ size_contest ?_; rfl; rfl; rfl; rfl)
          | (go_at_call 28; refine (Q1.out).mono ?_; rintro e w3 ⟨b3, h3⟩; rw [if_neg (by decide)] at h3; obtain ⟨O, Pl, oO, cO, oP, cP, hO, hPl, hIO, hIP, rfl⟩ := h3; dsimp only; have B3 := Lib.hid b3; have HO := Lib.hid hO; have HPL := Lib.hid hPl; have HIO := Lib.hid hIO; have HIP := Lib.hid hIP; clear hO hPl hIO hIP b3)
          | (refine wpList_store_whole rfl rfl 62 _ _ rfl w3.heap.size #[.string ⟨#[]⟩, .slice none 0 0, .int .i64 0, .int .i64 0, .int .i64 0, .slice none 0 0, .slice none 0 0] #[.string ⟨c.nm.toArray⟩, .slice oa c.op.length cap, .int .i64 c.rl, .int .i64 c.se, .int .i64 c.mo, .slice oO O.length cO, .slice oP Pl.length cP] 62 rfl rfl (heap_at rfl) rfl size_drawn (seven_a _ _ _ _ _ _ _ rfl rfl rfl rfl rfl rfl rfl) ?_; intro w4 ho3 hp3))
    have b4 : Below w3.heap.size w3 w4 := bel_only ((Below.refl _ _).alloc (Nat.le_refl _) _) ho3 (Nat.le_refl _)
    have bw4 : Below w1.heap.size w1 w4 := B3.out.trans (b4.mono B3.out.size)
    have B4 := Lib.hid (B1.out.trans (bw4.mono (by omega)))
    have X4 := Lib.hid (bel_keep bw4 (by omega) X1.out)
    have Y4 := Lib.hid (bel_keep bw4 hBs Y1.out)
    have hB4 : B + 1 < w4.heap.size := lt_of_heap Y4.out
    have HP4 := Lib.hid (HP.out.below (HB.out.symm ▸ B4.out))
    have Q4 := Lib.hid (QF.out w4 HP4.out)
    have IOr := Lib.hid (HIO.out.below b4)
    have IP := Lib.hid (HIP.out.below b4)
    have RD := Lib.hid hp3
    have hDlt : w3.heap.size < w4.heap.size := lt_of_heap hp3
    generalize w3.heap.size = D at *
    clear ho3 hp3 b4 bw4 X1 Y1 B1 hBs Q1 QF B3 HIO HIP
    as_aux_lemma =>
    by_cases h0 : filE c.op.length P = 0
    case neg =>
      have hd : (filE c.op.length P != 0) = true := by rw [bne_iff_ne]; exact h0
      have H0 := Lib.hid h0
      clear h0
      go_upto_region 6 with (first
            | go_big_skip
            | ((with_reducible refine at_load 24 ?_); refine wpList_load_g ?_ 24 (.tmp 3) ?_ B _ _ _ _ ?_ X4.out Tryz.underlying24 ?_ size_contest ?_; rfl; rfl; rfl; rfl)
            | (go_at_call 29; refine (Q4.out).mono ?_; rintro e w5 ⟨b5, h5⟩; rw [if_neg H0.out] at h5; subst h5; dsimp only; have Y5 := Lib.hid (bel_keep b5 hB4 Y4.out); have B5 := Lib.hid (B4.out.trans (b5.mono (by omega))); clear b5))
      go_wp2_with (first
            | go_big_skip
            | (with_reducible refine wpList_build rfl 31 _ rfl [] (by first | (simp; done) | (simp [Act.eval]; done)) _ built_zero ?_)
            | (refine wpList_store_whole rfl rfl 31 _ _ rfl (B + 1) #[.string ⟨#[]⟩, .string ⟨#[]⟩, .slice none 0 0, .slice none 0 0] #[.string ⟨#[]⟩, .string ⟨#[]⟩, .slice none 0 0, .slice none 0 0] 31 rfl rfl Y5.out rfl size_trans4 (four_one _ _ _ _ rfl rfl) ?_; intro w6 ho hp))
      refine bodyPost_ret (results_cell_tmp rfl _ w6 (B + 1) _ _ _ _ _ rfl rfl hp Tryz.underlying31 rfl size_trans4) rfl ?_
      exact TrGot.bad HE.out H0.out (by rw [HB.out]; exact bel_only B5.out ho (by omega))
    have HE0 := Lib.hid (HE.out.trans h0)
    obtain ⟨hA, h4096⟩ := filE_ok h0
    have HFE := Lib.hid h0
    have hR : ∀ p ∈ P.filter (keepP (c.rule 3)), Rnk c.op.length p.2 := fun p hp => by
      obtain ⟨h1, h2⟩ := List.mem_filter.1 hp
      have h3 : fitsB (c.rule 3) p.2 = true := by
        have h4 : (fitsB (c.rule 3) p.2 && somePos p.2) = true := h2
        rw [Bool.and_eq_true] at h4; exact h4.1
      exact rnk_of (c := c.rule 3) rfl (hA p h1) h3
    have hK4 : (P.filter (keepP (c.rule 3))).length ≤ 4096 := Nat.le_trans (List.length_filter_le _ _) h4096
    have HOK := Lib.hid (fun (w4 : World) (e : Ending) (w5 : World) ht => TrGot.ok (w := w) (lots := lots) HE0.out HO.out (Bs := P.filter (keepP (c.rule 3))) rfl (w4 := w4) (e := e) (w5 := w5) ht)
    have hd0 : (filE c.op.length P != 0) = false := by rw [h0]; rfl
    clear h0 hA h4096 HE HE0
    generalize P.filter (keepP (c.rule 3)) = Bs at *
    have HR := Lib.hid hR
    have hol := HO.out.len
    have QT := Lib.hid (fun w1 ok ck h1 h2 h3 => transfer_any c oa cap oO cO oP cP O Pl Bs ok ck w1 h1 h2 h3 hn1 hn12 hK4 HR.out ⟨hs1, hsn⟩ hol (by rw [HPL.out.1]; exact hol) (fun x => HO.out.mem) (fun k hk => HPL.out.2 k hk) (ord_nodup HO.out))
    clear hR hol
    go_upto_region 7 with (first
          | go_big_skip
          | ((with_reducible refine at_load 24 ?_); refine wpList_load_g ?_ 24 (.tmp 3) ?_ B _ _ _ _ ?_ X4.out Tryz.underlying24 ?_ size_contest ?_; rfl; rfl; rfl; rfl)
          | (go_at_call 29; refine (Q4.out).mono ?_; rintro e w5 ⟨b5, h5⟩; rw [if_pos HFE.out] at h5; obtain ⟨oo, co, hp5, rfl⟩ := h5; dsimp only; have B5 := Lib.hid (B4.out.trans (b5.mono (by omega))); have P5 := Lib.hid hp5; have Y5 := Lib.hid (bel_keep b5 hB4 Y4.out); have R5 := Lib.hid (bel_keep b5 hDlt RD.out); have IO5 := Lib.hid (IOr.out.below b5); have IP5 := Lib.hid (IP.out.below b5); clear b5 hp5))
    have hB5 : B + 1 < w5.heap.size := lt_of_heap Y5.out
    have Q5 := Lib.hid (QT.out w5 oo co IO5.out IP5.out P5.out)
    have hBl : B ≤ w5.heap.size := by omega
    clear Q4 HFE X4 Y4 B4 HP4 RD IOr IP QT hB4 hDlt HR
    go_wp2_with (first
          | go_big_skip
          | ((with_reducible refine at_load 62 ?_); refine wpList_load_g ?_ 62 (.tmp 8) ?_ D _ _ _ _ ?_ R5.out Tryz.underlying62 ?_ size_drawn ?_; rfl; rfl; rfl; rfl)
          | (go_at_call 30; refine (Q5.out).mono ?_; rintro e w6 hgot; obtain ⟨aq, bq, vR, vE, rfl, hv1, hv2, b6, hfin⟩ := HOK.out w5 e w6 hgot; have HFN := Lib.hid hfin; have B6 := Lib.hid (B5.out.trans (b6.mono hBl)); have Y6 := Lib.hid (bel_keep b6 hB5 Y5.out); have hS6 : B + 1 < w6.heap.size := lt_of_heap Y6.out; clear hfin b6 hgot; dsimp only)
          | (refine wpList_store_whole rfl rfl 31 _ _ rfl (B + 1) #[.string ⟨#[]⟩, .string ⟨#[]⟩, .slice none 0 0, .slice none 0 0] #[.string ⟨aq⟩, .string ⟨bq⟩, vR, vE] 31 rfl rfl Y6.out rfl size_trans4 (four_one _ _ _ _ hv1 hv2) ?_; intro w7 ho hp))
    refine bodyPost_ret (results_cell_tmp rfl _ w7 (B + 1) _ _ _ _ _ rfl rfl hp Tryz.underlying31 rfl size_trans4) rfl ?_
    have tV : Trn 31 (B + 1) (some (B + 1)) w6 w7 := Trn.of_only ho Y6.out (Nat.le_refl _) (fun u hu => by
      simp only [List.mem_cons, List.not_mem_nil, or_false] at hu
      rcases hu with rfl | rfl | rfl | rfl <;> rfl)
    exact HFN.out _ _ _ tV (by rw [HB.out]; exact bel_only B6.out ho (by omega))
end Go.Proofs.YtnohcdpnnhmpfaaGreatDoor.TR
namespace Go.Proofs.YtnohcdpnnhmpfaaGreatDoor.TR
set_option linter.unusedVariables false
open FRP

/-- the next that goes on, seen from the whole ballot -/
theorem seek_all (c : Nat → Bool) : ∀ (l pre : List Nat), (∀ j ∈ pre, c j = false) →
    (∀ j ∈ (pre ++ l).take (seek c l pre.length).1, c j = true → (seek c l pre.length).2 = some j) ∧
    ∀ z, (∃ j ∈ (pre ++ l).take z, c j = true) → ∃ j, (seek c l pre.length).2 = some j ∧ j ∈ (pre ++ l).take z
  | [], pre, h => by
    refine ⟨fun j hj hc => ?_, fun z ⟨j, hj, hc⟩ => ?_⟩
    · have := h j (by have := List.mem_of_mem_take hj; simpa using this)
      rw [this] at hc; cases hc
    · have := h j (by have := List.mem_of_mem_take hj; simpa using this)
      rw [this] at hc; cases hc
  | i :: r, pre, h => by
    unfold seek
    by_cases hc : c i = true
    · rw [if_pos hc]
      refine ⟨fun j hj hcj => ?_, fun z ⟨j, hj, hcj⟩ => ⟨i, rfl, ?_⟩⟩
      · have hj' : j ∈ (pre ++ i :: r).take (pre.length + 1) := hj
        rw [List.take_append, List.mem_append] at hj'
        rcases hj' with hj' | hj'
        · rw [h j (List.mem_of_mem_take hj')] at hcj; cases hcj
        · rw [Nat.add_sub_cancel_left] at hj'
          have : j = i := by simpa using hj'
          subst this; rfl
      · rw [List.take_append, List.mem_append] at hj
        rcases hj with hj | hj
        · rw [h j (List.mem_of_mem_take hj)] at hcj; cases hcj
        · rw [List.take_append, List.mem_append]
          right
          cases hz : z - pre.length with
          | zero => rw [hz] at hj; simp at hj
          | succ y => simp
    · rw [if_neg hc]
      have h1 := seek_all c r (pre ++ [i]) (fun j hj => by
        rcases List.mem_append.1 hj with hj | hj
        · exact h j hj
        · rw [List.mem_singleton.1 hj]; simpa using hc)
      have e : pre ++ [i] ++ r = pre ++ i :: r := by simp
      rw [e, List.length_append, List.length_singleton] at h1
      exact h1
/-- all that was looked at goes on no more, but with whom it lies -/
def Past (c : Nat → Bool) (x : Vo) : Prop := ∀ j ∈ x.rk.take x.nx, c j = true → x.wi = some j
theorem go_past {c : Nat → Bool} {x : Vo} (h : ∀ j ∈ x.rk.take x.nx, c j = false) (hn : x.nx ≤ x.rk.length) : Past c (x.go c) ∧ ∀ z, (∃ j ∈ x.rk.take z, c j = true) → ∃ j, (x.go c).wi = some j ∧ j ∈ x.rk.take z := by
  have h1 := seek_all c (x.rk.drop x.nx) (x.rk.take x.nx) h
  rw [List.take_append_drop, List.length_take, Nat.min_eq_left hn] at h1
  exact h1
theorem seek_le (c : Nat → Bool) : ∀ (l : List Nat) (a : Nat), (seek c l a).1 ≤ a + l.length
  | [], a => Nat.le_refl _
  | i :: r, a => by
    unfold seek
    split
    · show a + 1 ≤ a + (r.length + 1); omega
    · have := seek_le c r (a + 1); simp; omega
theorem go_le {c : Nat → Bool} {x : Vo} (hn : x.nx ≤ x.rk.length) : (x.go c).nx ≤ (x.go c).rk.length := by
  have := seek_le c (x.rk.drop x.nx) x.nx
  rw [List.length_drop] at this
  show (seek c (x.rk.drop x.nx) x.nx).1 ≤ x.rk.length
  omega
/-- who are in A fill the first z ranks -/
structure Sol (n : Nat) (A : Nat → Bool) (z : Nat) (rk : List Nat) : Prop where
  in_ : ∀ i ∈ rk.take z, A i = true
  all : ∀ i, i < n → A i = true → i ∈ rk.take z
def St.cA (O : List Nat) (A : Nat → Bool) (S : St) : List Nat := O.filter fun i => S.cont i && A i
def St.mA (A : Nat → Bool) (S : St) : List Nat := S.el.filter fun i => S.moved i && A i
structure JA (n m k0 : Nat) (q : Fr) (O : List Nat) (A : Nat → Bool) (z : Nat) (P : List Nat) (S : St) : Prop where
  nx : ∀ k, k < m → (S.V k).nx ≤ (S.V k).rk.length
  past : ∀ k, k < m → Past S.cont (S.V k)
  sol : ∀ k ∈ P, Sol n A z (S.V k).rk
  many : k0 ≤ (S.cA O A).length + (S.el.filter A).length
  lie : S.cA O A ≠ [] → (∀ k ∈ P, ∃ i, (S.V k).wi = some i ∧ A i = true) ∧ (P.length : Rat) ≤ rs P (fun k => (S.V k).wt.v) + ((S.mA A).length : Rat) * q.v
section
variable {n s m k0 : Nat} {q : Fr} {O : List Nat} {S : St} {A : Nat → Bool} {z : Nat} {P : List Nat}
theorem Inv.lieA (h : Inv n s m q O S) (hP : P.Nodup) (hPm : ∀ k ∈ P, k < m) {X : List Nat} (hX : X.Nodup) (hl : ∀ k ∈ P, ∃ i ∈ X, (S.V k).wi = some i) : rs P (fun k => (S.V k).wt.v) ≤ rs X (fun i => (S.tot m i).v) := by
  rw [rs_congr X _ _ (fun i _ => h.totv i), rs_add, rs_swap X hX]
  have h1 := rs_nonneg X (fun i => (S.kept i).v) (fun i _ => h.knn i)
  have h2 := rs_sub (fun k => if (∃ i ∈ X, (S.V k).wi = some i) then (S.V k).wt.v else 0) hP (fun k hk => List.mem_range.2 (hPm k hk)) List.nodup_range (fun k hk => by
    have := h.wnn k (List.mem_range.1 hk)
    split <;> grind)
  have h3 := rs_congr P (fun k => if (∃ i ∈ X, (S.V k).wi = some i) then (S.V k).wt.v else 0) (fun k => (S.V k).wt.v) (fun k hk => if_pos (hl k hk))
  rw [h3] at h2
  grind
theorem mem_cA : ∀ {i : Nat}, i ∈ S.cA O A ↔ i ∈ O ∧ S.cont i = true ∧ A i = true := by
  intro i
  simp [St.cA]
theorem JA.excl_many (h : Inv n s m q O S) (J : JA n m k0 q O A z P S) (hP : P.Nodup) (hPm : ∀ k ∈ P, k < m) (hk : (k0 : Rat) * q.v < (P.length : Rat)) (hne : S.cA O A ≠ []) (ho : S.over m q O = []) (hw : S.wait O = []) :
    k0 < (S.cA O A).length + (S.el.filter A).length := by
  obtain ⟨h1, h2⟩ := J.lie hne
  have hnd : (S.cA O A).Nodup := nodup_filter _ h.ond
  have h3 := h.lieA hP hPm hnd (fun k hkP => by
    obtain ⟨i, hi, hA⟩ := h1 k hkP
    obtain ⟨h4, h5⟩ := h.at_ k (hPm k hkP) i hi
    refine ⟨i, mem_cA.2 ⟨(h.omem i).2 h4, ?_, hA⟩, hi⟩
    rcases h5 with h5 | h5
    · exact h5
    · exfalso
      have := h.mem_wait.2 ⟨h4, h5⟩
      rw [hw] at this; cases this)
  have h4 : rs (S.cA O A) (fun i => (S.tot m i).v) ≤ ((S.cA O A).length : Rat) * q.v := by
    rw [← rs_const]
    exact rs_le _ _ _ fun i hi => h.over_nil ho ((h.omem i).1 (mem_cA.1 hi).1) (mem_cA.1 hi).2.1
  have h5 : (S.mA A).length ≤ (S.el.filter A).length := by
    have : S.mA A = (S.el.filter A).filter S.moved := by unfold St.mA; rw [List.filter_filter]
    rw [this]; exact List.length_filter_le _ _
  have h6 := Fr.v_nonneg h.qok.1
  have h7 : ((S.mA A).length : Rat) * q.v ≤ ((S.el.filter A).length : Rat) * q.v := Rat.mul_le_mul_of_nonneg_right (Rat.natCast_le_natCast.2 h5) h6
  have h8 : (k0 : Rat) * q.v < (((S.cA O A).length + (S.el.filter A).length : Nat) : Rat) * q.v := by
    rw [Rat.natCast_add]; grind
  exact Rat.natCast_lt_natCast.1 (Rat.lt_of_mul_lt_mul_right h8 h6)
theorem len_and (l : List Nat) (p : Nat → Bool) (r : List Nat) (hl : l.Nodup) (hr : r.Nodup) (hs : ∀ x ∈ r, x ∈ l) : (l.filter fun x => (p x) && !decide (x ∈ r)).length + (r.filter p).length = (l.filter p).length := by
  have h1 := len_split (l.filter p) (r.filter p) (nodup_filter _ hl) (nodup_filter _ hr) (fun x hx => by
    rw [List.mem_filter] at hx ⊢
    exact ⟨hs x hx.1, hx.2⟩)
  rw [← h1]
  congr 2
  rw [List.filter_filter]
  refine List.filter_congr fun x hx => ?_
  simp only [List.mem_filter]
  cases hp : p x <;> simp
theorem JA.elects (h : Inv n s m q O S) (J : JA n m k0 q O A z P S) {r : List Nat} (hnd : r.Nodup) (hr : ∀ i ∈ r, i ∈ S.still O) : JA n m k0 q O A z P (S.elect r) := by
  have e1 : ((S.elect r).cA O A).length + (r.filter A).length = (S.cA O A).length := by
    have h1 := len_and O (fun i => S.cont i && A i) r h.ond hnd (fun x hx => mem_of_filter (hr x hx))
    rw [show r.filter (fun i => S.cont i && A i) = r.filter A from List.filter_congr fun x hx => by rw [(h.mem_still.1 (hr x hx)).2]; rfl] at h1
    unfold St.cA
    rw [← h1]
    congr 2
    refine List.filter_congr fun x _ => ?_
    show (S.cont x && !decide (x ∈ r) && A x) = (S.cont x && A x && !decide (x ∈ r))
    cases S.cont x <;> cases A x <;> simp
  have hco : ∀ j, (S.elect r).cont j = true → S.cont j = true := fun j hj => by
    have : (S.cont j && !decide (j ∈ r)) = true := hj
    rw [Bool.and_eq_true] at this
    exact this.1
  refine ⟨J.nx, fun k hk j hj hc => J.past k hk j hj (hco j hc), J.sol, ?_, fun hne => ?_⟩
  · show k0 ≤ _ + ((S.el ++ r).filter A).length
    rw [List.filter_append, List.length_append]
    have := J.many
    omega
  · have hne' : S.cA O A ≠ [] := fun e => by
      rw [e] at e1
      exact hne (List.length_eq_zero_iff.1 (by rw [List.length_nil] at e1; omega))
    obtain ⟨h1, h2⟩ := J.lie hne'
    refine ⟨h1, ?_⟩
    have h3 : (S.mA A).length ≤ ((S.elect r).mA A).length := by
      show _ ≤ ((S.el ++ r).filter _).length
      rw [List.filter_append, List.length_append]
      exact Nat.le_add_right _ _
    have h4 : ((S.mA A).length : Rat) * q.v ≤ (((S.elect r).mA A).length : Rat) * q.v := Rat.mul_le_mul_of_nonneg_right (Rat.natCast_le_natCast.2 h3) (Fr.v_nonneg h.qok.1)
    show _ ≤ rs P (fun k => (S.V k).wt.v) + _
    grind
theorem past_goOn {c c' : Nat → Bool} {i k : Nat} {f : Fr} (hp : Past c (S.V k)) (hn : (S.V k).nx ≤ (S.V k).rk.length) (hc : ∀ j, c' j = true → c j = true) (hi : c' i = false) :
    Past c' (S.goOn c' i f k) ∧ (S.goOn c' i f k).nx ≤ (S.goOn c' i f k).rk.length ∧ ((S.V k).wi = some i → ∀ z, (∃ j ∈ (S.V k).rk.take z, c' j = true) → ∃ j, (S.goOn c' i f k).wi = some j ∧ j ∈ (S.V k).rk.take z) := by
  by_cases hw : (S.V k).wi = some i
  · rw [St.goOn_in hw]
    have h1 : ∀ j ∈ ((S.V k).by f).rk.take ((S.V k).by f).nx, c' j = false := fun j hj => by
      cases hcj : c' j with
      | false => rfl
      | true =>
        have h2 := hp j hj (hc j hcj)
        rw [hw] at h2; injection h2 with h2; subst h2
        rw [hi] at hcj; cases hcj
    obtain ⟨h3, h4⟩ := go_past h1 hn
    exact ⟨h3, go_le hn, fun _ => h4⟩
  · rw [St.goOn_out hw]
    exact ⟨fun j hj hcj => hp j hj (hc j hcj), hn, fun h => absurd h hw⟩
theorem JA.moves (h : Inv n s m q O S) (J : JA n m k0 q O A z P S) (hP : P.Nodup) (hPm : ∀ k ∈ P, k < m) {i : Nat} (hi : i < n) (hie : i ∈ S.el) (him : S.moved i = false) (hit : q.v < (S.tot m i).v) : JA n m k0 q O A z P (S.move m q i) := by
  have hic := (h.elc i hie).2
  have hpg := fun k (hk : k < m) => past_goOn (S := S) (f := S.surplus m q i) (J.past k hk) (J.nx k hk) (fun _ hj => hj) hic
  refine ⟨fun k hk => (hpg k hk).2.1, fun k hk => (hpg k hk).1, fun k hk => ?_, J.many, fun hne => ?_⟩
  · rw [show ((S.move m q i).V k).rk = (S.V k).rk from goOn_rk _ _ _ _]
    exact J.sol k hk
  have hne' : S.cA O A ≠ [] := hne
  obtain ⟨h1, h2⟩ := J.lie hne'
  obtain ⟨j0, hj0⟩ := List.exists_mem_of_ne_nil _ hne'
  obtain ⟨g1, g2, g3⟩ := mem_cA.1 hj0
  constructor
  · intro k hk
    by_cases hw : (S.V k).wi = some i
    · obtain ⟨j, hj1, hj2⟩ := (hpg k (hPm k hk)).2.2 hw z ⟨j0, (J.sol k hk).all j0 ((h.omem j0).1 g1) g3, g2⟩
      exact ⟨j, hj1, (J.sol k hk).in_ j hj2⟩
    · rw [show (S.move m q i).V k = S.V k from St.goOn_out hw]
      exact h1 k hk
  · obtain ⟨fok, tpos, fv, tn⟩ := h.surplus_ok hit
    have hwv : ∀ k ∈ P, ((S.move m q i).V k).wt.v = (S.V k).wt.v + (if (S.V k).wi = some i then (S.V k).wt.v else 0) * ((S.surplus m q i).v - 1) := fun k hk => by
      show (S.goOn S.cont i (S.surplus m q i) k).wt.v = _
      rw [goOn_wt]
      split
      · rw [Fr.v_mul (h.wok k (hPm k hk)) fok]; grind
      · grind
    rw [rs_congr P _ _ hwv, rs_add, rs_mul]
    have e6 : ((S.tot m i).v - q.v) / (S.tot m i).v * (S.tot m i).v = (S.tot m i).v - q.v := Rat.div_mul_cancel (fun e => by rw [e] at tpos; exact absurd tpos (by decide))
    have hq0 := Fr.v_nonneg h.qok.1
    cases hA : A i with
    | false =>
      have e1 : rs P (fun k => if (S.V k).wi = some i then (S.V k).wt.v else 0) = 0 := by
        rw [rs_congr P _ (fun _ => 0) (fun k hk => if_neg (fun e => by
          obtain ⟨j, hj1, hj2⟩ := h1 k hk
          rw [e] at hj1; injection hj1 with hj1; subst hj1
          rw [hA] at hj2; cases hj2)), rs_zero]
      have e2 : (S.mA A).length ≤ ((S.move m q i).mA A).length := by
        have : ((S.move m q i).mA A) = S.mA A := by
          refine List.filter_congr fun x _ => ?_
          show ((S.moved x || decide (x = i)) && A x) = _
          by_cases hx : x = i
          · subst hx; rw [hA]; simp
          · rw [decide_eq_false hx, Bool.or_false]
        rw [this]; exact Nat.le_refl _
      have h4 : ((S.mA A).length : Rat) * q.v ≤ (((S.move m q i).mA A).length : Rat) * q.v := Rat.mul_le_mul_of_nonneg_right (Rat.natCast_le_natCast.2 e2) hq0
      rw [e1]
      grind
    | true =>
      have e1 : rs P (fun k => if (S.V k).wi = some i then (S.V k).wt.v else 0) ≤ (S.tot m i).v := by
        have e5 := h.totv i
        rw [h.kp i him, v_zero] at e5
        have e7 := rs_sub (fun k => if (S.V k).wi = some i then (S.V k).wt.v else 0) hP (fun k hk => List.mem_range.2 (hPm k hk)) List.nodup_range (fun k hk => by
          have := h.wnn k (List.mem_range.1 hk)
          split <;> grind)
        grind
      have e2 : ((S.move m q i).mA A).length = (S.mA A).length + 1 := by
        have hp : ((S.move m q i).mA A).Perm (i :: S.mA A) := (List.perm_ext_iff_of_nodup (nodup_filter _ h.nd) (List.nodup_cons.2 ⟨fun hx => (by have h9 := (List.mem_filter.1 hx).2; rw [him] at h9; simp at h9), nodup_filter _ h.nd⟩)).2 fun x => by
          show x ∈ S.el.filter (fun x => (S.moved x || decide (x = i)) && A x) ↔ x ∈ i :: S.el.filter (fun x => S.moved x && A x)
          simp only [List.mem_filter, List.mem_cons, Bool.and_eq_true, Bool.or_eq_true, decide_eq_true_eq]
          constructor
          · rintro ⟨hx, hy | hy, hz⟩
            · exact .inr ⟨hx, hy, hz⟩
            · exact .inl hy
          · rintro (hx | ⟨hx, hy, hz⟩)
            · subst hx; exact ⟨hie, .inr rfl, hA⟩
            · exact ⟨hx, .inl hy, hz⟩
        rw [hp.length_eq]; rfl
      rw [e2, Rat.natCast_add, fv]
      generalize rs P (fun k => if (S.V k).wi = some i then (S.V k).wt.v else 0) = x at *
      have tne : (S.tot m i).v ≠ 0 := fun e => by rw [e] at tpos; exact absurd tpos (by decide)
      have e9 : q.v / (S.tot m i).v * (S.tot m i).v = q.v := Rat.div_mul_cancel tne
      have e8 : ((S.tot m i).v - q.v) / (S.tot m i).v = 1 - q.v / (S.tot m i).v := div_eq_of tne (by grind)
      have e10 : 0 ≤ q.v / (S.tot m i).v := Rat.le_of_mul_le_mul_right (c := (S.tot m i).v) (by rw [e9]; grind) tpos
      rw [e8]
      generalize q.v / (S.tot m i).v = g at *
      have e11 : x * g ≤ (S.tot m i).v * g := Rat.mul_le_mul_of_nonneg_right e1 e10
      grind
theorem JA.excls (h : Inv n s m q O S) (J : JA n m k0 q O A z P S) (hP : P.Nodup) (hPm : ∀ k ∈ P, k < m) (hk : (k0 : Rat) * q.v < (P.length : Rat)) {i : Nat} (hi : i < n) (hic : S.cont i = true) (ho : S.over m q O = []) (hw : S.wait O = []) : JA n m k0 q O A z P (S.excl i) := by
  have hout : ∀ j, out S.cont i j = true → S.cont j = true := fun j hj => by
    have : (S.cont j && !decide (j = i)) = true := hj
    rw [Bool.and_eq_true] at this
    exact this.1
  have hoi : out S.cont i i = false := by show (S.cont i && !decide (i = i)) = false; simp
  have hpg := fun k (hk : k < m) => past_goOn (S := S) (f := one) (J.past k hk) (J.nx k hk) hout hoi
  have e1 : ((S.excl i).cA O A).length + ([i].filter A).length = (S.cA O A).length := by
    have h1 := len_and O (fun i => S.cont i && A i) [i] h.ond (by simp) (fun x hx => by rw [List.mem_singleton.1 hx]; exact (h.omem i).2 hi)
    rw [show [i].filter (fun i => S.cont i && A i) = [i].filter A from List.filter_congr fun x hx => by rw [List.mem_singleton.1 hx, hic]; rfl] at h1
    unfold St.cA
    rw [← h1]
    congr 2
    refine List.filter_congr fun x _ => ?_
    show (S.cont x && !decide (x = i) && A x) = (S.cont x && A x && !decide (x ∈ [i]))
    simp only [List.mem_singleton]
    cases S.cont x <;> cases A x <;> simp
  refine ⟨fun k hk => (hpg k hk).2.1, fun k hk => (hpg k hk).1, fun k hk => ?_, ?_, fun hne => ?_⟩
  · rw [show ((S.excl i).V k).rk = (S.V k).rk from goOn_rk _ _ _ _]
    exact J.sol k hk
  · show k0 ≤ _ + (S.el.filter A).length
    cases hA : A i with
    | false =>
      have : [i].filter A = [] := by simp [hA]
      rw [this] at e1
      have := J.many
      simp at e1; omega
    | true =>
      have : [i].filter A = [i] := by simp [hA]
      rw [this] at e1
      have h2 := JA.excl_many h J hP hPm hk (fun e => by rw [e] at e1; simp at e1) ho hw
      simp at e1; omega
  · have hne' : S.cA O A ≠ [] := fun e => by
      rw [e] at e1
      exact hne (List.length_eq_zero_iff.1 (by rw [List.length_nil] at e1; omega))
    obtain ⟨h1, h2⟩ := J.lie hne'
    obtain ⟨j0, hj0⟩ := List.exists_mem_of_ne_nil _ hne
    obtain ⟨g1, g2, g3⟩ := mem_cA.1 hj0
    constructor
    · intro k hk
      by_cases hw : (S.V k).wi = some i
      · obtain ⟨j, hj1, hj2⟩ := (hpg k (hPm k hk)).2.2 hw z ⟨j0, (J.sol k hk).all j0 ((h.omem j0).1 g1) g3, g2⟩
        exact ⟨j, hj1, (J.sol k hk).in_ j hj2⟩
      · rw [show (S.excl i).V k = S.V k from St.goOn_out hw]
        exact h1 k hk
    · rw [rs_congr P (fun k => ((S.excl i).V k).wt.v) (fun k => (S.V k).wt.v) (fun k hk => by
        show (S.goOn (out S.cont i) i one k).wt.v = _
        rw [goOn_wt]
        split
        · exact congrArg Fr.v (Fr.mul_one (h.wok k (hPm k hk)))
        · rfl)]
      exact h2
theorem JA.next (h : Inv n s m q O S) (J : JA n m k0 q O A z P S) (hP : P.Nodup) (hPm : ∀ k ∈ P, k < m) (hk : (k0 : Rat) * q.v < (P.length : Rat)) {d : Nat} {r : List Nat} (hd : Dec m s q O S d r) : JA n m k0 q O A z P (S.next m q d r) := by
  cases hd with
  | elect r ho hr =>
    obtain ⟨a, b, c⟩ := h.rnd h.over_nd hr
    exact J.elects h a fun i hi => mem_of_filter ((b i).1 hi)
  | fill r ho h1 h2 hr =>
    obtain ⟨a, b, c⟩ := h.rnd h.still_nd hr
    exact J.elects h a fun i hi => (b i).1 hi
  | move i r ho h1 h2 hr =>
    have hi := h.mem_wait.1 (hr.perm.mem_iff.1 (List.mem_cons_self))
    have hit : q.v < (S.tot m i).v := by
      rcases h.high with hh | hh
      · exact hh i hi.2.1 hi.2.2
      · exact absurd hh.1 h1
    exact J.moves h hP hPm hi.1 hi.2.1 hi.2.2 hit
  | excl i r ho h1 h2 h3 hr =>
    have hi := h.mem_still.1 (hr.perm.mem_iff.1 (show i ∈ r ++ [i] by simp))
    exact J.excls h hP hPm hk hi.1 hi.2 ho h3
/-- at the end at least k0 of A are elected -/
theorem JA.fin (h : Inv n s m q O S) (J : JA n m k0 q O A z P S) (hP : P.Nodup) (hPm : ∀ k ∈ P, k < m) (hk : (k0 : Rat) * q.v < (P.length : Rat)) (he : End m s q O S) : k0 ≤ (S.el.filter A).length := by
  have hmany := J.many
  by_cases hne : S.cA O A = []
  · rw [hne] at hmany; simpa using hmany
  obtain ⟨h1, h2⟩ := J.lie hne
  obtain ⟨j0, hj0⟩ := List.exists_mem_of_ne_nil _ hne
  obtain ⟨g1, g2, g3⟩ := mem_cA.1 hj0
  have hhi : ∀ i ∈ S.el, S.moved i = false → q.v < (S.tot m i).v := by
    rcases h.high with hh | hh
    · exact hh
    · rw [hh.2 j0 ((h.omem j0).1 g1)] at g2; cases g2
  have hall : ∀ i ∈ S.el, q.v ≤ (S.tot m i).v := fun i hi => by
    cases hm : S.moved i with
    | true => exact h.tot_ge hm
    | false => exact Rat.le_of_lt (hhi i hi hm)
  -- where the votes of P lie
  have hXd : (S.cA O A ++ S.el.filter fun i => !S.moved i && A i).Nodup := List.nodup_append.2 ⟨nodup_filter _ h.ond, nodup_filter _ h.nd, fun a ha b hb e => by
    subst e
    have q1 := (h.elc a (mem_of_filter hb)).2
    rw [(mem_cA.1 ha).2.1] at q1; cases q1⟩
  have h3 := h.lieA hP hPm hXd (fun k hkP => by
    obtain ⟨i, hi, hA⟩ := h1 k hkP
    obtain ⟨h4, h5⟩ := h.at_ k (hPm k hkP) i hi
    refine ⟨i, List.mem_append.2 ?_, hi⟩
    rcases h5 with h5 | h5
    · exact .inl (mem_cA.2 ⟨(h.omem i).2 h4, h5, hA⟩)
    · exact .inr (List.mem_filter.2 ⟨h5.1, by rw [h5.2, hA]; rfl⟩))
  have h4 : ((S.mA A).length : Rat) * q.v ≤ rs (S.mA A) (fun i => (S.tot m i).v) := by
    rw [← rs_const]
    exact rs_le _ _ _ fun i hi => hall i (mem_of_filter hi)
  have h5 : ((S.el.filter fun i => !A i).length : Rat) * q.v ≤ rs (S.el.filter fun i => !A i) (fun i => (S.tot m i).v) := by
    rw [← rs_const]
    exact rs_le _ _ _ fun i hi => hall i (mem_of_filter hi)
  have hL : (S.cA O A ++ S.el).Nodup := List.nodup_append.2 ⟨nodup_filter _ h.ond, h.nd, fun a ha b hb e => by
    subst e
    have q1 := (h.elc a hb).2
    rw [(mem_cA.1 ha).2.1] at q1; cases q1⟩
  have h6 := h.tot_le hL (fun i hi => by
    rcases List.mem_append.1 hi with hi | hi
    · exact (h.omem i).1 (mem_cA.1 hi).1
    · exact (h.elc i hi).1)
  have h7 : rs S.el (fun i => (S.tot m i).v) = rs (S.el.filter fun i => !S.moved i && A i) (fun i => (S.tot m i).v) + rs (S.mA A) (fun i => (S.tot m i).v) + rs (S.el.filter fun i => !A i) (fun i => (S.tot m i).v) := by
    unfold St.mA
    rw [rs_filter, rs_filter, rs_filter, ← rs_add, ← rs_add]
    refine rs_congr _ _ _ fun i _ => ?_
    cases S.moved i <;> cases A i <;> simp <;> grind
  rw [rs_append] at h3 h6
  have h8 := len_filter S.el A
  have h9 := he.2
  have hq := h.qv
  have hq0 := Fr.v_nonneg h.qok.1
  have h10 : ((k0 + (S.el.filter fun i => !A i).length : Nat) : Rat) * q.v < ((s + 1 : Nat) : Rat) * q.v := by
    rw [Rat.natCast_add, Rat.natCast_add]
    have : ((1 : Nat) : Rat) = 1 := rfl
    rw [this]
    grind
  have h11 := Rat.natCast_lt_natCast.1 (Rat.lt_of_mul_lt_mul_right h10 hq0)
  omega
theorem JA.init {Rs : List (List Nat)} (hO : ∀ i, i ∈ O ↔ i < n) (hP : P.Nodup) (hPm : ∀ k ∈ P, k < Rs.length) (hs : ∀ k ∈ P, Sol n A z (Rs.getD k [])) (hk : k0 ≤ (O.filter A).length) : JA n Rs.length k0 q O A z P (S0 n Rs Rs.length) := by
  have hV : ∀ k, k < Rs.length → (S0 n Rs Rs.length).V k = (start (Rs.getD k [])).go (c0 n) := fun k hk => if_pos hk
  have hgp := fun k => go_past (c := c0 n) (x := start (Rs.getD k [])) (fun j hj => by
    have : j ∈ (Rs.getD k []).take 0 := hj
    simp at this) (Nat.zero_le _)
  have hca : (S0 n Rs Rs.length).cA O A = O.filter A := List.filter_congr fun x hx => by
    show (decide (x < n) && A x) = A x
    rw [decide_eq_true ((hO x).1 hx)]; rfl
  refine ⟨fun k hk => ?_, fun k hk => ?_, fun k hk => ?_, ?_, fun hne => ⟨fun k hk => ?_, ?_⟩⟩
  · rw [hV k hk]; exact go_le (Nat.zero_le _)
  · rw [hV k hk]; exact (hgp k).1
  · rw [hV k (hPm k hk)]; exact hs k hk
  · rw [hca]; exact Nat.le_trans hk (Nat.le_add_right _ _)
  · rw [hV k (hPm k hk)]
    obtain ⟨j0, hj0⟩ := List.exists_mem_of_ne_nil _ hne
    obtain ⟨g1, g2, g3⟩ := mem_cA.1 hj0
    obtain ⟨j, hj1, hj2⟩ := (hgp k).2 z ⟨j0, (hs k hk).all j0 ((hO j0).1 g1) g3, g2⟩
    exact ⟨j, hj1, (hs k hk).in_ j hj2⟩
  · rw [rs_congr P _ (fun _ => (1 : Rat)) (fun k hk => by rw [hV k (hPm k hk)]; exact v_one), rs_const]
    have h0 : (S0 n Rs Rs.length).mA A = [] := rfl
    rw [h0]
    show (P.length : Rat) ≤ (P.length : Rat) * 1 + ((0 : Nat) : Rat) * q.v
    have : ((0 : Nat) : Rat) = 0 := rfl
    grind
end
/-- who have more than k0 quotas elect k0 -/
theorem droop {n s : Nat} {O : List Nat} {Rs : List (List Nat)} {R : List Rd} {S : St} (hs : s ≤ n) (hn : n ≤ 12) (hm : Rs.length ≤ 4096) (hd : O.Nodup) (hO : ∀ i, i ∈ O ↔ i < n) (hR : ∀ rk ∈ Rs, ∀ i ∈ rk, i < n)
    (h : Runs n Rs.length s (quotaF Rs.length s) O (S0 n Rs Rs.length) R S) (he : End Rs.length s (quotaF Rs.length s) O S)
    (A : Nat → Bool) (z k0 : Nat) (P : List Nat) (hP : P.Nodup) (hPm : ∀ k ∈ P, k < Rs.length) (hS : ∀ k ∈ P, Sol n A z (Rs.getD k [])) (hk0 : k0 ≤ (O.filter A).length) (hk : k0 * Rs.length < P.length * (s + 1)) : k0 ≤ (S.el.filter A).length := by
  have hi0 := inv_start (s := s) hs hn hd hO hR
  have hq := (quota_v Rs.length s).2
  have hk' : (k0 : Rat) * (quotaF Rs.length s).v < (P.length : Rat) := by
    have h1 : ((k0 * Rs.length : Nat) : Rat) < ((P.length * (s + 1) : Nat) : Rat) := Rat.natCast_lt_natCast.2 hk
    rw [Rat.natCast_mul, Rat.natCast_mul, ← hq, Rat.natCast_add] at h1
    have h2 : (0 : Rat) ≤ (s : Rat) + ((1 : Nat) : Rat) := by
      have : (0 : Rat) ≤ (s : Rat) := Rat.natCast_nonneg
      have e : ((1 : Nat) : Rat) = 1 := rfl
      grind
    have h3 : (k0 : Rat) * (quotaF Rs.length s).v * ((s : Rat) + ((1 : Nat) : Rat)) < (P.length : Rat) * ((s : Rat) + ((1 : Nat) : Rat)) := by
      have e : ((1 : Nat) : Rat) = 1 := rfl
      rw [e] at h1 ⊢
      grind
    exact Rat.lt_of_mul_lt_mul_right h3 h2
  have key : ∀ {R' : List Rd} {S' : St}, Runs n Rs.length s (quotaF Rs.length s) O (S0 n Rs Rs.length) R' S' → JA n Rs.length k0 (quotaF Rs.length s) O A z P S' := by
    intro R' S' h'
    induction h' with
    | nil => exact JA.init hO hP hPm hS hk0
    | snoc h1 hd1 ih => exact ih.next (h1.inv hi0 hm).1 hP hPm hk' hd1
  exact (key h).fin (h.inv hi0 hm).1 hP hPm hk' he
end Go.Proofs.YtnohcdpnnhmpfaaGreatDoor.TR
namespace Go.Proofs.YtnohcdpnnhmpfaaGreatDoor.TR
set_option linter.unusedVariables false
open FRP AU CT

theorem nodup_map {α β : Type} {f : α → β} {l : List α} (hf : ∀ x y, f x = f y → x = y) (h : l.Nodup) : (l.map f).Nodup := List.Pairwise.map f (fun a b hne e => hne (hf a b e)) h
/-- those that are so, by number -/
theorem idx_of {α : Type} (f : α → Bool) : ∀ Bs : List α, ∃ P : List Nat, P.Nodup ∧ (∀ k ∈ P, k < Bs.length) ∧ (∀ k ∈ P, ∃ p, Bs[k]? = some p ∧ f p = true) ∧ P.length = (Bs.filter f).length
  | [] => ⟨[], List.nodup_nil, fun k hk => (by cases hk), fun k hk => (by cases hk), rfl⟩
  | p :: Bs => by
    obtain ⟨P, h1, h2, h3, h4⟩ := idx_of f Bs
    have hmd : (P.map (· + 1)).Nodup := nodup_map (fun x y e => by omega) h1
    have hml : ∀ k ∈ P.map (· + 1), k < (p :: Bs).length := fun k hk => by
      obtain ⟨j, hj, rfl⟩ := List.mem_map.1 hk
      have := h2 j hj
      simp; omega
    have hms : ∀ k ∈ P.map (· + 1), ∃ q, (p :: Bs)[k]? = some q ∧ f q = true := fun k hk => by
      obtain ⟨j, hj, rfl⟩ := List.mem_map.1 hk
      obtain ⟨q, hq⟩ := h3 j hj
      exact ⟨q, by simpa using hq⟩
    cases hf : f p with
    | false => exact ⟨P.map (· + 1), hmd, hml, hms, by rw [List.filter_cons_of_neg (by rw [hf]; decide), List.length_map, h4]⟩
    | true =>
      refine ⟨0 :: P.map (· + 1), List.nodup_cons.2 ⟨fun h0 => ?_, hmd⟩, fun k hk => ?_, fun k hk => ?_, by rw [List.filter_cons_of_pos hf, List.length_cons, List.length_cons, List.length_map, h4]⟩
      · obtain ⟨j, _, hj⟩ := List.mem_map.1 h0
        omega
      · rcases List.mem_cons.1 hk with rfl | hk
        · simp
        · exact hml k hk
      · rcases List.mem_cons.1 hk with rfl | hk
        · exact ⟨p, rfl, hf⟩
        · exact hms k hk
theorem Rnk.le_pos {n : Nat} {b : List Int} (h : Rnk n b) {i : Nat} (hi : i < b.length) (h0 : 0 < b[i]) : b[i] ≤ (posN b : Int) := by
  rw [← Int.not_lt]
  intro hlt
  have hnd : ((List.range (posN b)).map (fun r : Nat => ((r + 1 : Nat) : Int)) ++ [b[i]]).Nodup := List.nodup_append.2 ⟨nodup_map (fun x y e => by omega) List.nodup_range, by simp, fun x hx y hy e => by
    obtain ⟨r, hr, rfl⟩ := List.mem_map.1 hx
    have h1 := List.mem_range.1 hr
    rw [List.mem_singleton.1 hy] at e
    omega⟩
  have hsub : ∀ x ∈ (List.range (posN b)).map (fun r : Nat => ((r + 1 : Nat) : Int)) ++ [b[i]], x ∈ b.filter fun x => decide (0 < x) := fun x hx => by
    rcases List.mem_append.1 hx with hx | hx
    · obtain ⟨r, hr, rfl⟩ := List.mem_map.1 hx
      exact List.mem_filter.2 ⟨h.gap r (List.mem_range.1 hr), by rw [decide_eq_true_eq]; omega⟩
    · rw [List.mem_singleton.1 hx]
      exact List.mem_filter.2 ⟨List.getElem_mem hi, by rw [decide_eq_true_eq]; exact h0⟩
  have := List.Nodup.length_le_of_subset hnd hsub
  rw [List.length_append, List.length_map, List.length_range] at this
  have e : (b.filter fun x => decide (0 < x)).length = posN b := rfl
  rw [e] at this
  simp at this
  omega
/-- how many below n are so -/
def cnt (p : Nat → Bool) (n : Nat) : Nat := ((List.range n).filter p).length
theorem cnt_succ (p : Nat → Bool) (n : Nat) : cnt p (n + 1) = cnt p n + if p n = true then 1 else 0 := by
  unfold cnt
  rw [List.range_succ, List.filter_append, List.length_append]
  cases h : p n <;> simp [h]
theorem cnt_le (p : Nat → Bool) (n : Nat) : cnt p n ≤ n := by
  have := List.length_filter_le p (List.range n)
  rw [List.length_range] at this
  exact this
theorem cnt_filter {p : Nat → Bool} {n : Nat} {O : List Nat} (hd : O.Nodup) (hO : ∀ i, i ∈ O ↔ i < n) : (O.filter p).length = cnt p n := by
  refine ((List.perm_ext_iff_of_nodup (nodup_filter _ hd) (nodup_filter _ List.nodup_range)).2 fun i => ?_).length_eq
  rw [List.mem_filter, List.mem_filter, hO, List.mem_range]
theorem cnt_el {p : Nat → Bool} {n : Nat} {E : List Nat} (hd : E.Nodup) (hE : ∀ i ∈ E, i < n) : (E.filter p).length = cnt (fun i => p i && decide (i ∈ E)) n := by
  refine ((List.perm_ext_iff_of_nodup (nodup_filter _ hd) (nodup_filter _ List.nodup_range)).2 fun i => ?_).length_eq
  simp only [List.mem_filter, List.mem_range, Bool.and_eq_true, decide_eq_true_eq]
  exact ⟨fun h => ⟨hE i h.1, h.2, h.1⟩, fun h => ⟨h.2.2, h.2.1⟩⟩
def bit (s i : Nat) : Bool := s / 2 ^ i % 2 == 1
/-- does a set fill the first ranks of a ballot? -/
def solL (A : Nat → Bool) (z : Nat) (b : List Int) (k : Nat) : Bool := (List.range k).all fun i => A i == decide (1 ≤ b.getD i 0 ∧ b.getD i 0 ≤ (z : Int))
theorem solL_succ (A : Nat → Bool) (z : Nat) (b : List Int) (k : Nat) : solL A z b (k + 1) = (solL A z b k && (A k == decide (1 ≤ b.getD k 0 ∧ b.getD k 0 ≤ (z : Int)))) := by
  simp [solL, List.range_succ, List.all_append]
theorem solL_no {A : Nat → Bool} {z : Nat} {b : List Int} {k m : Nat} (hk : k < m) (h : (A k == decide (1 ≤ b.getD k 0 ∧ b.getD k 0 ≤ (z : Int))) = false) : solL A z b m = false := by
  rw [← Bool.not_eq_true]
  intro h2
  unfold solL at h2
  rw [List.all_eq_true] at h2
  rw [h2 k (List.mem_range.2 hk)] at h
  cases h
theorem sol_of {n z : Nat} {A : Nat → Bool} {b : List Int} (h : Rnk n b) (hs : solL A z b b.length = true) : Sol n A z (rkOf b) := by
  unfold solL at hs
  rw [List.all_eq_true] at hs
  have key : ∀ i (hi : i < b.length), A i = true ↔ (1 ≤ b[i] ∧ b[i] ≤ (z : Int)) := fun i hi => by
    have h1 := hs i (List.mem_range.2 hi)
    rw [List.getD_eq_getElem?_getD, List.getElem?_eq_getElem hi, Option.getD_some, beq_iff_eq] at h1
    rw [h1, decide_eq_true_eq]
  refine ⟨fun i hi => ?_, fun i hi hA => ?_⟩
  · obtain ⟨r, hr, hx⟩ := List.mem_take_iff_getElem.1 hi
    have hrp : r < posN b := by rw [← rkOf_len]; omega
    have hm := h.gap r hrp
    have hlt := List.idxOf_lt_length_of_mem hm
    have he := List.getElem_idxOf (x := ((r + 1 : Nat) : Int)) (xs := b) hlt
    have hi2 : i = b.idxOf ((r + 1 : Nat) : Int) := by
      rw [← hx]; simp [rkOf]
    subst hi2
    rw [key _ hlt, he]
    have : r < z := by omega
    omega
  · have hib : i < b.length := by rw [h.len]; exact hi
    have h1 := (key i hib).1 hA
    have h2 := h.le_pos hib (by omega)
    have h3 := h.at_ hib (by omega) (by omega)
    refine List.mem_take_iff_getElem.2 ⟨b[i].toNat - 1, ?_, ?_⟩
    · rw [rkOf_len]; omega
    · exact (List.getElem?_eq_some_iff.1 h3).2
/-- the law, for one set: what the walk wants -/
theorem droop_walk {n s : Nat} {O : List Nat} {Bs : List (Value × List Int)} {R : List Rd} {S : St} (hs : s ≤ n) (hn : n ≤ 12) (hm : Bs.length ≤ 4096) (hd : O.Nodup) (hO : ∀ i, i ∈ O ↔ i < n) (hR : ∀ p ∈ Bs, Rnk n p.2)
    (h : Runs n Bs.length s (quotaF Bs.length s) O (S0 n (ranksOf Bs) Bs.length) R S) (he : End Bs.length s (quotaF Bs.length s) O S)
    (A : Nat → Bool) (k0 : Nat) (hk0 : k0 ≤ cnt A n) (hk : k0 * Bs.length < (Bs.filter fun p => solL A (cnt A n) p.2 n).length * (s + 1)) : k0 ≤ cnt (fun i => A i && decide (i ∈ S.el)) n := by
  have hl : (ranksOf Bs).length = Bs.length := by unfold ranksOf; rw [List.length_map]
  have hRk : ∀ rk ∈ ranksOf Bs, ∀ i ∈ rk, i < n := fun rk hrk i hi => by
    unfold ranksOf at hrk
    obtain ⟨p, hp, rfl⟩ := List.mem_map.1 hrk
    exact (hR p hp).lt i hi
  have hi0 := inv_start (s := s) hs hn hd hO hRk
  rw [← hl] at h he hm
  have hI := (h.inv hi0 hm).1
  rw [← cnt_el (p := A) hI.nd (fun i hi => (hI.elc i hi).1)]
  -- the ballots that are solid, by number
  obtain ⟨P, hPd, hPm, hPs, hPl⟩ : ∃ P : List Nat, P.Nodup ∧ (∀ k ∈ P, k < Bs.length) ∧ (∀ k ∈ P, ∃ p, Bs[k]? = some p ∧ solL A (cnt A n) p.2 n = true) ∧ P.length = (Bs.filter fun p => solL A (cnt A n) p.2 n).length := idx_of (fun p : Value × List Int => solL A (cnt A n) p.2 n) Bs
  refine droop hs hn hm hd hO hRk h he A (cnt A n) k0 P hPd (fun k hk => by rw [hl]; exact hPm k hk) (fun k hk => ?_) (by rw [cnt_filter hd hO]; exact hk0) (by rw [hl, hPl]; exact hk)
  obtain ⟨p, hp1, hp2⟩ := hPs k hk
  have hkl := (List.getElem?_eq_some_iff.1 hp1)
  have hpm : p ∈ Bs := List.mem_of_getElem? hp1
  have e : (ranksOf Bs).getD k [] = rkOf p.2 := by
    unfold ranksOf
    rw [List.getD_eq_getElem?_getD, List.getElem?_map, hp1]; rfl
  rw [e]
  exact sol_of (hR p hpm) (by rw [(hR p hpm).len]; exact hp2)
end Go.Proofs.YtnohcdpnnhmpfaaGreatDoor.TR
namespace Go.Proofs.YtnohcdpnnhmpfaaGreatDoor.TR
set_option linter.unusedVariables false
set_option linter.unusedSimpArgs false
open Go.RowKit ML FRP AU CT FM

set_option maxHeartbeats 2000000 in
set_option maxRecDepth 100000 in
theorem lawIn_any (oa : Option Addr) (L : List Int) (cap : Nat) (x : Int) (w : World) (h : IsAt w oa L) (hl : L.length < 9223372036854775808) :
    Calls Tryz.prog 13 #[.slice oa L.length cap, .int .i64 x] w fun e w' => e = .returned (.bool (decide (x ∈ L))) ∧ w = w' := by
  have H := Lib.hid h
  clear h
  go_enter Tryz.func13, Tryz.ntmps13
  go_upto_region 2 with (fail)
  go_loop [9] (fun i => ∃ k : Nat, k ≤ L.length ∧ i = .int .i64 k ∧ x ∉ L.take k) (fun i => L.length - (intOf i).toNat)
  case atStart => exact ⟨0, by omega, rfl, by simp⟩
  case round =>
  obtain ⟨k, hk, rfl, hpre⟩ := hrel
  have HP := Lib.hid hpre
  clear hpre
  by_cases hlt : k < L.length
  · have dk : decide ((k : Int) < (L.length : Int)) = true := decide_eq_true (by omega)
    have dk2 : decide (k < L.length) = true := decide_eq_true hlt
    have hki : (k : Int) < (L.length : Int) := by omega
    obtain ⟨a, hoa, hab, hac⟩ := H.out.cells k hlt
    have hyes := Lib.hid (fun (hb : L[k] = x) => (show decide (x ∈ L) = true from decide_eq_true (hb ▸ List.getElem_mem hlt)))
    have hno := Lib.hid (fun (hb : ¬ L[k] = x) => (show x ∉ L.take (k + 1) by
      rw [List.take_succ_eq_append_getElem hlt, List.mem_append, List.mem_singleton]
      rintro (h | h)
      · exact HP.out h
      · exact hb h.symm))
    subst hoa
    generalize L[k] = y at *
    by_cases he : y = x
    · have h2 := Lib.hid (hyes.out he)
      have d1 : (y == x) = true := by rw [beq_iff_eq]; exact he
      clear he hyes hno
      go_wp2_with fail
      go_ret
      exact ⟨by rw [h2.out]; rfl, rfl⟩
    · have h2 := Lib.hid (hno.out he)
      have d1 : (y == x) = false := by rw [beq_eq_false_iff_ne]; exact he
      clear he hyes hno
      go_wp2_with fail
      go_round
      case rel => exact ⟨k + 1, by omega, by go_num, h2.out⟩
      case measure => simp [intOf]; omega
  · have dk : decide ((k : Int) < (L.length : Int)) = false := decide_eq_false (by omega)
    have dk2 : decide (k < L.length) = false := decide_eq_false hlt
    obtain rfl : k = L.length := by omega
    rw [List.take_length] at HP
    have h2 := Lib.hid (show decide (x ∈ L) = false from decide_eq_false HP.out)
    go_wp2_with fail
    go_ret
    exact ⟨by rw [h2.out]; rfl, rfl⟩

def bvals (n : Nat) (A : Nat → Bool) : List Value := (List.range n).map fun i => Value.bool (A i)
theorem length_bvals (n : Nat) (A : Nat → Bool) : (bvals n A).length = n := by simp [bvals]
theorem bvals_get (n : Nat) (A : Nat → Bool) (i : Nat) (h : i < n) : (bvals n A)[i]? = some (.bool (A i)) := by
  unfold bvals
  rw [List.getElem?_map, List.getElem?_range h]
  rfl
set_option maxHeartbeats 2000000 in
set_option maxRecDepth 100000 in
theorem solid_any (A : Nat → Bool) (n z : Nat) (L : List Int) (ob : Option Addr) (cb g cg : Nat) (w : World) (h : IsAt w ob L) (hl : L.length = n) (hn : n ≤ 12) (hg : w.heap[g]? = some (.cells (bvals n A).toArray 4 (0, 0))) :
    Calls Tryz.prog 14 #[.slice ob L.length cb, .slice (some ⟨g, 0, none⟩) n cg, .int .i64 z] w fun e w' => e = .returned (.bool (solL A z L n)) ∧ w' = w := by
  have H := Lib.hid h
  have HG := Lib.hid hg
  clear h hg
  go_enter Tryz.func14, Tryz.ntmps14
  go_wp2_with fail
  go_loopw [11] (fun v wr => ∃ k : Nat, v = .int .i64 k ∧ k ≤ L.length ∧ solL A z L k = true ∧ wr = w) (fun v _ => L.length - (intOf v).toNat)
  case atStart => exact ⟨0, rfl, Nat.zero_le _, rfl, rfl⟩
  case round =>
  obtain ⟨k, rfl, hk, hs, rfl⟩ := hrel
  have HS := Lib.hid hs
  clear hs
  by_cases hlt : k < L.length
  case neg =>
    have dk : decide ((k : Int) < (L.length : Int)) = false := decide_eq_false (by omega)
    have dk2 : decide (k < L.length) = false := decide_eq_false hlt
    obtain rfl : k = L.length := by omega
    go_wp2_with fail
    go_ret
    exact ⟨by rw [← hl, HS.out]; rfl, rfl⟩
  have dk : decide ((k : Int) < (L.length : Int)) = true := decide_eq_true (by omega)
  have dk2 : decide (k < L.length) = true := decide_eq_true hlt
  have hki : (k : Int) < (L.length : Int) := by omega
  have hkn : k < n := by omega
  have hkni : (k : Int) < (n : Int) := by omega
  obtain ⟨a, hoa, hab, hac⟩ := H.out.cells k hlt
  subst hoa
  have hS : wr.cell? ⟨g, k, none⟩ = some (.bool (A k)) := by rw [cell_of_row _ _ _ _ _ _ HG.out, List.getElem?_toArray]; exact bvals_get n A k hkn
  have HN := Lib.hid (solL_succ A z L k)
  have HF := Lib.hid (fun h => solL_no (A := A) (z := z) (b := L) (k := k) hkn h)
  have e : L.getD k 0 = L[k] := by rw [List.getD_eq_getElem?_getD, List.getElem?_eq_getElem hlt]; rfl
  rw [HS.out, e, Bool.true_and] at HN
  rw [e] at HF
  clear e
  generalize L[k] = x at *
  generalize A k = b at *
  by_cases h1 : 1 ≤ x
  · have d1 : decide (1 ≤ x) = true := decide_eq_true h1
    by_cases h2 : x ≤ (z : Int)
    · have d2 : decide (x ≤ (z : Int)) = true := decide_eq_true h2
      have d3 : decide (1 ≤ x ∧ x ≤ (z : Int)) = true := decide_eq_true ⟨h1, h2⟩
      rw [d3] at HN HF
      clear h1 h2 d3
      cases b with
      | false =>
        go_wp2_with go_big_skip
        go_ret
        exact ⟨by rw [HF.out rfl]; rfl, rfl⟩
      | true =>
        go_wp2_with go_big_skip
        go_roundw
        case rel => exact ⟨k + 1, by go_num, by omega, HN.out, by trivial⟩
        case measure => simp [intOf]; omega
    · have d2 : decide (x ≤ (z : Int)) = false := decide_eq_false h2
      have d3 : decide (1 ≤ x ∧ x ≤ (z : Int)) = false := decide_eq_false (fun h => h2 h.2)
      rw [d3] at HN HF
      clear h1 h2 d3
      cases b with
      | true =>
        go_wp2_with go_big_skip
        go_ret
        exact ⟨by rw [HF.out rfl]; rfl, rfl⟩
      | false =>
        go_wp2_with go_big_skip
        go_roundw
        case rel => exact ⟨k + 1, by go_num, by omega, HN.out, by trivial⟩
        case measure => simp [intOf]; omega
  · have d1 : decide (1 ≤ x) = false := decide_eq_false h1
    have d3 : decide (1 ≤ x ∧ x ≤ (z : Int)) = false := decide_eq_false (fun h => h1 h.1)
    rw [d3] at HN HF
    clear h1 d3
    cases b with
    | true =>
      go_wp2_with go_big_skip
      go_ret
      exact ⟨by rw [HF.out rfl]; rfl, rfl⟩
    | false =>
      go_wp2_with go_big_skip
      go_roundw
      case rel => exact ⟨k + 1, by go_num, by omega, HN.out, by trivial⟩
      case measure => simp [intOf]; omega
end Go.Proofs.YtnohcdpnnhmpfaaGreatDoor.TR
namespace Go.Proofs.YtnohcdpnnhmpfaaGreatDoor.TR
set_option linter.unusedVariables false
set_option linter.unusedSimpArgs false
open Go.RowKit ML FRP AU CT FM

/-- the first k of a set -/
def below (u k : Nat) : Nat → Bool := fun i => decide (i < k) && bit u i
theorem below_zero (u n : Nat) : bvals n (below u 0) = List.replicate n (.bool false) := by
  unfold bvals below
  apply List.ext_getElem (by simp)
  intro i h1 h2
  simp
theorem below_all (u n : Nat) : bvals n (below u n) = bvals n (bit u) := by
  unfold bvals below
  refine List.map_congr_left fun i hi => ?_
  rw [decide_eq_true (List.mem_range.1 hi)]; rfl
theorem below_succ (u n i : Nat) (b : Bool) (hb : bit u i = b) (h : i < n) : (bvals n (below u i)).set i (.bool b) = bvals n (below u (i + 1)) := by
  unfold bvals below
  apply List.ext_getElem (by simp)
  intro j h1 h2
  rw [List.getElem_set]
  simp only [List.getElem_map, List.getElem_range]
  by_cases e : i = j
  · subst e; rw [if_pos rfl, decide_eq_true (Nat.lt_succ_self i), hb]; rfl
  · rw [if_neg e]
    have : decide (j < i + 1) = decide (j < i) := by
      by_cases h3 : j < i
      · rw [decide_eq_true h3, decide_eq_true (by omega)]
      · rw [decide_eq_false h3, decide_eq_false (by omega)]
    rw [this]
set_option maxHeartbeats 8000000 in
set_option maxRecDepth 100000 in
theorem countDroop_any (c : CTest) (P : List (Value × List Int)) (lots : Bytes) (oa : Option Addr) (cap : Nat) (ob : Option Addr) (cb : Nat) (w : World) (hs : StrsAt w oa c.op) (hP : PsAt w ob P) (hf : c.Fits lots) (hnl : c.op.length < 9223372036854775807) :
    Calls Tryz.prog 4 #[.agg (c.cells oa cap).toArray, .slice ob P.length cb, .string ⟨lots.toArray⟩] w fun e w' => e = .returned (.bool true) ∧ Below w.heap.size w w' := by
  have hC : (c.cells oa cap).toArray = #[.string ⟨c.nm.toArray⟩, .slice oa c.op.length cap, .int .i64 c.rl, .int .i64 c.se, .int .i64 c.mo] := rfl
  rw [hC]
  have QT := Lib.hid (fun w1 h1 h2 => cTransfer_any c P lots oa cap ob cb w1 h1 h2 hf hnl)
  unfold TrGot at QT
  have HS := Lib.hid hs
  have HP := Lib.hid hP
  have HWC := Lib.hid (fun (h : prE c P = 0) => (show (1 ≤ c.op.length ∧ c.op.length ≤ 12 ∧ 1 ≤ c.se ∧ c.se ≤ c.op.length) ∧ filE c.op.length P = 0 by
    unfold prE at h
    cases hw : wrongC c with
    | true => rw [hw, if_pos rfl] at h; cases h
    | false =>
      rw [hw, if_neg (by decide)] at h
      have h1 := wrongC_no hw
      exact ⟨⟨h1.1, h1.2.1, h1.2.2.2.2⟩, h⟩))
  clear hs hP hf hC
  go_enter Tryz.func4, Tryz.ntmps4
  go_upto_region 1 with (fail)
  generalize hB : w.heap.size = B at *
  refine wp_abs (fun w1 => Below B w w1 ∧ w1.heap[B]? = some (.cells #[.string ⟨c.nm.toArray⟩, .slice oa c.op.length cap, .int .i64 c.rl, .int .i64 c.se, .int .i64 c.mo] 24 (0, 0))) ⟨by rw [← hB]; exact (Below.refl _ _).alloc (Nat.le_refl _) _, by rw [← hB]; exact heap_at rfl⟩ (fun w1 hw1 => ?_)
  have HB := Lib.hid hB
  have B1 := Lib.hid hw1.1
  have X1 := Lib.hid hw1.2
  have hBs : B < w1.heap.size := lt_of_heap hw1.2
  have Q1 := Lib.hid (QT.out w1 (HS.out.below (HB.out.symm ▸ B1.out)) (HP.out.below (HB.out.symm ▸ B1.out)))
  clear hB hw1 QT
  by_cases h0 : prE c P = 0
  case neg =>
    have H0 := Lib.hid h0
    have e2 : (prE c P != 0) = true := by rw [bne_iff_ne]; exact h0
    clear h0 HWC
    go_upto_region 2 with (first
        | go_big_skip
        | ((with_reducible refine at_load 24 ?_); refine wpList_load_g ?_ 24 (.tmp 3) ?_ B _ _ _ _ ?_ X1.out Tryz.underlying24 ?_ size_contest ?_; rfl; rfl; rfl; rfl)
        | (go_at_call 9; refine (Q1.out).mono ?_; rintro e w3 ⟨b3, h3⟩; rw [if_neg H0.out] at h3; subst h3; dsimp only; have B3 := Lib.hid b3; clear b3)
        | (refine wpList_store_whole rfl rfl 31 _ _ rfl w3.heap.size #[.string ⟨#[]⟩, .string ⟨#[]⟩, .slice none 0 0, .slice none 0 0] #[.string ⟨#[]⟩, .string ⟨#[]⟩, .slice none 0 0, .slice none 0 0] 31 rfl rfl (heap_at rfl) rfl size_trans4 (four_one _ _ _ _ rfl rfl) ?_; intro w4 ho hp))
    go_wp2_with go_big_skip
    go_ret
    exact ⟨rfl, by rw [HB.out]; exact bel_only ((B1.out.trans (B3.out.mono (Nat.le_of_lt hBs))).alloc (by have := B3.out.size; omega) _) ho (by have := B3.out.size; omega)⟩
  obtain ⟨⟨hn1, hn12, hs1, hsn⟩, hfe⟩ := HWC.out h0
  have H0 := Lib.hid h0
  have HFE := Lib.hid hfe
  clear h0 HWC hfe
  go_upto_region 2 with (first
      | go_big_skip
      | ((with_reducible refine at_load 24 ?_); refine wpList_load_g ?_ 24 (.tmp 3) ?_ B _ _ _ _ ?_ X1.out Tryz.underlying24 ?_ size_contest ?_; rfl; rfl; rfl; rfl)
      | (go_at_call 9; refine (Q1.out).mono ?_; rintro e w3 ⟨b3, h3⟩; rw [if_pos H0.out] at h3; obtain ⟨O, R, S, oR, cR, oE, cE, hO, hru, hen, rfl, hrd, hie⟩ := h3; dsimp only; have B3 := Lib.hid b3; have HO := Lib.hid hO; have HRU := Lib.hid hru; have HEN := Lib.hid hen; have IE := Lib.hid hie; clear b3 hO hru hen hrd hie)
      | (refine wpList_store_whole rfl rfl 31 _ _ rfl w3.heap.size #[.string ⟨#[]⟩, .string ⟨#[]⟩, .slice none 0 0, .slice none 0 0] #[.string ⟨(txt (quotaF (P.filter (keepP (c.rule 3))).length c.se.toNat)).1.toArray⟩, .string ⟨(txt (quotaF (P.filter (keepP (c.rule 3))).length c.se.toNat)).2.toArray⟩, .slice oR R.length cR, .slice oE S.el.length cE] 31 rfl rfl (heap_at rfl) rfl size_trans4 (four_one _ _ _ _ rfl rfl) ?_; intro w4 ho hp))
  have b4 : Below w3.heap.size w3 w4 := bel_only ((Below.refl _ _).alloc (Nat.le_refl _) _) ho (Nat.le_refl _)
  have b14 := B3.out.trans (b4.mono B3.out.size)
  have B4 := Lib.hid (B1.out.trans (b14.mono (Nat.le_of_lt hBs)))
  have X4 := Lib.hid (bel_keep b14 hBs X1.out)
  have hB4 : B < w4.heap.size := lt_of_heap X4.out
  have I4 := Lib.hid (IE.out.below b4)
  have Y4 := Lib.hid (show w4.cell? ⟨w3.heap.size, 3, none⟩ = some (.slice oE S.el.length cE) from cell_of_row w4 w3.heap.size 3 _ _ _ hp)
  have hD4 : w3.heap.size < w4.heap.size := lt_of_heap hp
  generalize w3.heap.size = D at *
  have k1 : w4.cell? ⟨B, 1, none⟩ = some (.slice oa c.op.length cap) := cell_of_row w4 B 1 _ _ _ X4.out
  clear b4 b14 ho hp B1 X1 Q1 IE B3 hBs
  by_cases h8 : 8 < c.op.length
  · have d8 : decide ((8 : Int) < (c.op.length : Int)) = true := decide_eq_true (by omega)
    have d8' : decide (8 < c.op.length) = true := decide_eq_true h8
    go_wp2_with go_big_skip
    go_ret
    exact ⟨rfl, by rw [HB.out]; exact B4.out⟩
  have d8 : decide ((8 : Int) < (c.op.length : Int)) = false := decide_eq_false (by omega)
  have d8' : decide (8 < c.op.length) = false := decide_eq_false h8
  have Q4 := Lib.hid (refFilled_any c 3 P oa cap ob cb w4 (HP.out.below (HB.out.symm ▸ B4.out)) hn12)
  unfold FilGot at Q4
  -- what the law says, in plain words
  obtain ⟨hA, h4096⟩ := filE_ok HFE.out
  have hR : ∀ p ∈ P.filter (keepP (c.rule 3)), Rnk c.op.length p.2 := fun p hp => by
    obtain ⟨h1, h2⟩ := List.mem_filter.1 hp
    have h3 : fitsB (c.rule 3) p.2 = true := by
      have h4 : (fitsB (c.rule 3) p.2 && somePos p.2) = true := h2
      rw [Bool.and_eq_true] at h4; exact h4.1
    exact rnk_of (c := c.rule 3) rfl (hA p h1) h3
  have hK4 : (P.filter (keepP (c.rule 3))).length ≤ 4096 := Nat.le_trans (List.length_filter_le _ _) h4096
  have DW := Lib.hid (fun A k0 h1 h2 => droop_walk (s := c.se.toNat) (by omega) hn12 hK4 (ord_nats HO.out).1 (ord_nats HO.out).2 hR HRU.out HEN.out A k0 h1 h2)
  have HRL := Lib.hid (fun p hp => (hR p hp).len)
  have hel12 : S.el.length ≤ 12 := by have := HEN.out.2; omega
  clear hR hA h4096 HRU HEN HO
  generalize P.filter (keepP (c.rule 3)) = Bs at *
  obtain ⟨s, hs⟩ : ∃ s : Nat, c.se = (s : Int) := ⟨c.se.toNat, by omega⟩
  have hsN : c.se.toNat = s := by omega
  rw [hsN] at DW
  have HSE := Lib.hid hs
  have hs12 : s ≤ 12 := by omega
  clear hs hsN hs1 hsn
  go_upto_region 5 with (first
      | go_big_skip
      | ((with_reducible refine at_load 24 ?_); refine wpList_load_g ?_ 24 (.tmp 3) ?_ B _ _ _ _ ?_ X4.out Tryz.underlying24 ?_ size_contest ?_; rfl; rfl; rfl; rfl)
      | (go_at_call 12; refine (Q4.out).mono ?_; rintro e w5 ⟨b5, h5⟩; rw [if_pos HFE.out] at h5; obtain ⟨oo, co, hp5, rfl⟩ := h5; dsimp only; have P5 := Lib.hid hp5; have B5 := Lib.hid (B4.out.trans (b5.mono (Nat.le_of_lt hB4))); have X5 := Lib.hid (bel_keep b5 hB4 X4.out); have I5 := Lib.hid (I4.out.below b5); have Y5 := Lib.hid ((b5.cell (p := ⟨D, 3, none⟩) hD4).trans Y4.out); have hD5 : D < w5.heap.size := Nat.lt_of_lt_of_le hD4 b5.size; have hB5 : B < w5.heap.size := lt_of_heap X5.out; clear hp5 b5))
  clear Q4 HFE H0 X4 Y4 I4 B4 hB4 hD4 k1 d8 d8'
  obtain ⟨N2, hN2⟩ : ∃ N2 : Nat, N2 = 2 ^ c.op.length := ⟨_, rfl⟩
  have hN2b : N2 ≤ 256 := by
    rw [hN2]
    exact Nat.le_trans (Nat.pow_le_pow_right (by decide) (by omega : c.op.length ≤ 8)) (by decide)
  have hN2i : (2 : Int) ^ c.op.length = (N2 : Int) := by rw [hN2]; simp
  have HN2 := Lib.hid (show 1 ≤ N2 by rw [hN2]; exact Nat.one_le_two_pow)
  clear hN2
  obtain ⟨i0, hi, hz0, hz1, hz2⟩ := info_parts info_bool
  have HI := Lib.hid hi
  have HZ0 := Lib.hid hz0
  have HZ1 := Lib.hid hz1
  have HZ2 := Lib.hid hz2
  clear hi hz0 hz1 hz2
  as_aux_lemma =>
  go_wp2_with fail
  go_loopw [11] (fun v wr => ∃ u : Nat, v = .int .i64 u ∧ 1 ≤ u ∧ u ≤ N2 ∧ Below w5.heap.size w5 wr) (fun v _ => N2 - (intOf v).toNat)
  case atStart => exact ⟨1, rfl, Nat.le_refl _, HN2.out, Below.refl _ _⟩
  case round =>
  obtain ⟨u, rfl, hu1, hu2, hb⟩ := hrel
  have BR := Lib.hid hb
  have k1 : wr.cell? ⟨B, 1, none⟩ = some (.slice oa c.op.length cap) := cell_of_row wr B 1 _ _ _ (bel_keep hb hB5 X5.out)
  clear hb
  by_cases hlt : u < N2
  case neg =>
    have ek : decide ((u : Int) < (N2 : Int)) = false := decide_eq_false (by omega)
    have ek2 : decide (u < N2) = false := decide_eq_false hlt
    go_wp2_with fail
    go_ret
    exact ⟨rfl, by rw [HB.out]; exact B5.out.trans (BR.out.mono (Nat.le_of_lt hB5))⟩
  have ek : decide ((u : Int) < (N2 : Int)) = true := decide_eq_true (by omega)
  have ek2 : decide (u < N2) = true := decide_eq_true hlt
  obtain ⟨wo, hwo⟩ : ∃ wo : World, wo = wr := ⟨_, rfl⟩
  subst hwo
  go_upto_region 9 with (refine wpList_make_row _ rfl _ _ 39 rfl 4 i0 (.bool false) Tryz.underlying39 HI.out HZ0.out HZ1.out rfl .i64 .i64 c.op.length rfl rfl (by rw [HZ2.out]; omega) (by omega) ?_)
  have hF0 : (wo.alloc (.cells (madeCells #[Value.bool false] c.op.length) 4)).heap[wo.heap.size]? = some (.cells (bvals c.op.length (below u 0)).toArray 4 (0, 0)) := by
    have e : madeCells #[Value.bool false] c.op.length = (bvals c.op.length (below u 0)).toArray := by
      rw [below_zero, ← toList_madeCells_one]
    rw [e]; exact heap_at rfl
  have bF : Below w5.heap.size w5 (wo.alloc (.cells (madeCells #[Value.bool false] c.op.length) 4)) := BR.out.alloc BR.out.size _
  have hF5 : w5.heap.size ≤ wo.heap.size := BR.out.size
  generalize hF : wo.heap.size = F at *
  refine wp_abs (fun w6 => Below w5.heap.size w5 w6 ∧ w6.heap[F]? = some (.cells (bvals c.op.length (below u 0)).toArray 4 (0, 0))) ⟨bF, hF0⟩ (fun w6 hw6 => ?_)
  have H6 := Lib.hid hw6
  clear hw6 bF hF0 hF k1 ek ek2 BR
  as_aux_lemma =>
  go_wp2_with fail
  go_loopw [55, 13, 14] (fun v a b wr => ∃ i : Nat, v = .int .i64 i ∧ a = .int .i64 (cnt (bit u) i : Nat) ∧ b = .int .i64 (cnt (fun j => bit u j && decide (j ∈ S.el)) i : Nat) ∧ i ≤ c.op.length ∧ Below w5.heap.size w5 wr ∧ wr.heap[F]? = some (.cells (bvals c.op.length (below u i)).toArray 4 (0, 0))) (fun v _ _ _ => c.op.length - (intOf v).toNat)
  case atStart => exact ⟨0, rfl, rfl, rfl, Nat.zero_le _, H6.out.1, H6.out.2⟩
  case round =>
  clear H6
  obtain ⟨i, rfl, rfl, rfl, hi, hb, hf⟩ := hrel
  have BR := Lib.hid hb
  have FF := Lib.hid hf
  clear hb hf
  by_cases hit : i < c.op.length
  · have fk : decide ((i : Int) < (c.op.length : Int)) = true := decide_eq_true (by omega)
    have fk2 : decide (i < c.op.length) = true := decide_eq_true hit
    have fki : (i : Int) < (c.op.length : Int) := by omega
    obtain ⟨z, hz⟩ : ∃ z : Nat, z = u / 2 ^ i := ⟨_, rfl⟩
    have hsh : (u : Int) / 2 ^ i = (z : Int) := by rw [hz]; simp
    have hbb : bit u i = (z % 2 == 1) := by rw [hz]; rfl
    clear hz
    have hz0 : (z : Int) % 2 = ((z % 2 : Nat) : Int) := by omega
    have HC1 := Lib.hid (cnt_succ (bit u) i)
    have HC2 := Lib.hid (cnt_succ (fun j => bit u j && decide (j ∈ S.el)) i)
    have hc1 := cnt_le (bit u) i
    have hc2 := cnt_le (fun j => bit u j && decide (j ∈ S.el)) i
    generalize cnt (bit u) i = a1 at *
    generalize cnt (fun j => bit u j && decide (j ∈ S.el)) i = a2 at *
    have kF : wr.cell? ⟨F, i, none⟩ = some (.bool (below u i i)) := by rw [cell_of_row _ _ _ _ _ _ FF.out, List.getElem?_toArray]; exact bvals_get _ _ _ hit
    have fF : wr.frozen? ⟨F, i, none⟩ = false := frozen_of_row _ _ _ _ _ FF.out
    have hFr : F < wr.heap.size := lt_of_heap FF.out
    rcases Nat.mod_two_eq_zero_or_one z with hz | hz
    · rw [hz] at hz0 hbb
      have HBT := Lib.hid (show bit u i = false from hbb)
      rw [HBT.out] at HC1 HC2
      clear hbb hz
      go_upto_region 14 with go_big_skip
      refine wp_abs (fun w7 => Below w5.heap.size w5 w7 ∧ w7.heap[F]? = some (.cells (bvals c.op.length (below u (i + 1))).toArray 4 (0, 0))) ⟨BR.out.setCell hF5 _, (heap_setCell_same wr F i _ _ (.bool false) FF.out).trans (by rw [← below_succ u _ i false HBT.out hit]; simp)⟩ (fun w7 hw7 => ?_)
      have B7 := Lib.hid hw7.1
      have F7 := Lib.hid hw7.2
      have k7 : w7.cell? ⟨F, i, none⟩ = some (.bool false) := by
        rw [cell_of_row _ _ _ _ _ _ hw7.2, List.getElem?_toArray, bvals_get _ _ _ hit]
        unfold below
        rw [decide_eq_true (Nat.lt_succ_self i), HBT.out]; rfl
      clear hw7 kF fF hsh hz0 BR FF
      rw [if_neg (by decide)] at HC1
      rw [Bool.false_and, if_neg (by decide)] at HC2
      go_wp2_with fail
      go_roundw
      case rel => exact ⟨i + 1, by go_num, by rw [HC1.out]; rfl, by rw [HC2.out]; rfl, by omega, B7.out, F7.out⟩
      case measure => simp [intOf]; omega
    · rw [hz] at hz0 hbb
      have HBT := Lib.hid (show bit u i = true from hbb)
      rw [HBT.out] at HC1 HC2
      clear hbb hz
      go_upto_region 14 with go_big_skip
      refine wp_abs (fun w7 => Below w5.heap.size w5 w7 ∧ w7.heap[F]? = some (.cells (bvals c.op.length (below u (i + 1))).toArray 4 (0, 0))) ⟨BR.out.setCell hF5 _, (heap_setCell_same wr F i _ _ (.bool true) FF.out).trans (by rw [← below_succ u _ i true HBT.out hit]; simp)⟩ (fun w7 hw7 => ?_)
      have B7 := Lib.hid hw7.1
      have F7 := Lib.hid hw7.2
      have k7 : w7.cell? ⟨F, i, none⟩ = some (.bool true) := by
        rw [cell_of_row _ _ _ _ _ _ hw7.2, List.getElem?_toArray, bvals_get _ _ _ hit]
        unfold below
        rw [decide_eq_true (Nat.lt_succ_self i), HBT.out]; rfl
      have y7 : w7.cell? ⟨D, 3, none⟩ = some (.slice oE S.el.length cE) := (hw7.1.cell (p := ⟨D, 3, none⟩) hD5).trans Y5.out
      have QI := Lib.hid (lawIn_any oE (nats S.el) cE (i : Int) w7 (I5.out.below hw7.1) (by rw [length_nats]; omega))
      rw [length_nats] at QI
      have em : decide ((i : Int) ∈ nats S.el) = decide (i ∈ S.el) := by
        unfold nats
        have : ((i : Int) ∈ S.el.map fun i : Nat => (i : Int)) ↔ i ∈ S.el := by
          rw [List.mem_map]
          exact ⟨fun ⟨a, ha, e⟩ => by rw [show i = a by omega]; exact ha, fun h => ⟨i, h, rfl⟩⟩
        by_cases h : i ∈ S.el
        · rw [decide_eq_true h, decide_eq_true (this.2 h)]
        · rw [decide_eq_false h, decide_eq_false (fun h2 => h (this.1 h2))]
      rw [em] at QI
      clear hw7 kF fF hsh hz0 em BR FF
      rw [if_pos rfl] at HC1
      rw [Bool.true_and] at HC2
      generalize decide (i ∈ S.el) = bi at *
      cases bi with
      | false =>
        rw [if_neg (by decide)] at HC2
        go_wp2_with (first
              | go_big_skip
              | (go_at_call 13; refine (QI.out).mono ?_; rintro e w8 ⟨rfl, rfl⟩; dsimp only))
        go_roundw
        case rel => exact ⟨i + 1, by go_num, by rw [HC1.out]; go_num, by rw [HC2.out]; rfl, by omega, B7.out, F7.out⟩
        case measure => simp [intOf]; omega
      | true =>
        rw [if_pos rfl] at HC2
        go_wp2_with (first
              | go_big_skip
              | (go_at_call 13; refine (QI.out).mono ?_; rintro e w8 ⟨rfl, rfl⟩; dsimp only))
        go_roundw
        case rel => exact ⟨i + 1, by go_num, by rw [HC1.out]; go_num, by rw [HC2.out]; go_num, by omega, B7.out, F7.out⟩
        case measure => simp [intOf]; omega
  have fk : decide ((i : Int) < (c.op.length : Int)) = false := decide_eq_false (by omega)
  have fk2 : decide (i < c.op.length) = false := decide_eq_false hit
  obtain rfl : i = c.op.length := by omega
  have DU := Lib.hid (fun k0 => DW.out (bit u) k0)
  rw [below_all] at FF
  have hz12 := cnt_le (bit u) c.op.length
  have he12 := cnt_le (fun j => bit u j && decide (j ∈ S.el)) c.op.length
  generalize cnt (fun j => bit u j && decide (j ∈ S.el)) c.op.length = el at *
  generalize cnt (bit u) c.op.length = sz at *
  obtain ⟨wq, hwq⟩ : ∃ wq : World, wq = wr := ⟨_, rfl⟩
  subst hwq
  have P6 := Lib.hid (P5.out.below BR.out)
  have QS := Lib.hid (fun L ob cb h hl => solid_any (bit u) c.op.length sz L ob cb F c.op.length wq h hl hn12 FF.out)
  clear fk2
  go_upto_region 20 with fail
  go_wp2_with fail
  clear fk
  go_loopw [81, 16] (fun v a wr => ∃ k : Nat, v = .int .i64 k ∧ a = .int .i64 (((Bs.take k).filter fun p => solL (bit u) sz p.2 c.op.length).length : Nat) ∧ k ≤ Bs.length ∧ wr = wq) (fun v _ _ => Bs.length - (intOf v).toNat)
  case atStart => exact ⟨0, rfl, rfl, Nat.zero_le _, rfl⟩
  case round =>
  obtain ⟨k, rfl, rfl, hk, rfl⟩ := hrel
  have hnk : ((Bs.take k).filter fun p => solL (bit u) sz p.2 c.op.length).length ≤ 4096 := Nat.le_trans (List.length_filter_le _ _) (by rw [List.length_take]; omega)
  by_cases hkt : k < Bs.length
  · have gk : decide ((k : Int) < (Bs.length : Int)) = true := decide_eq_true (by omega)
    have gk2 : decide (k < Bs.length) = true := decide_eq_true hkt
    have gki : (k : Int) < (Bs.length : Int) := by omega
    have HNX := Lib.hid (show ((Bs.take (k + 1)).filter fun p => solL (bit u) sz p.2 c.op.length).length = ((Bs.take k).filter fun p => solL (bit u) sz p.2 c.op.length).length + if solL (bit u) sz Bs[k].2 c.op.length = true then 1 else 0 by
      rw [List.take_succ_eq_append_getElem hkt, List.filter_append, List.length_append]
      cases h : solL (bit u) sz Bs[k].2 c.op.length <;> simp [h])
    obtain ⟨a, hoo, _, hac⟩ := P6.out.cells k hkt
    obtain ⟨ox, cx, hx1, hx2, _⟩ := P6.out.rows _ (List.getElem_mem hkt)
    rw [hx1] at hac
    have hlen := HRL.out _ (List.getElem_mem hkt)
    have QX := Lib.hid (QS.out Bs[k].2 ox cx hx2 hlen)
    rw [hlen] at hac QX
    subst hoo
    clear hx1 hx2 hlen
    generalize solL (bit u) sz Bs[k].2 c.op.length = sb at *
    generalize ((Bs.take k).filter fun p => solL (bit u) sz p.2 c.op.length).length = nn at *
    cases sb with
    | false =>
      rw [if_neg (by decide)] at HNX
      go_wp2_with (first
          | go_big_skip
          | (go_at_call 14; refine (QX.out).mono ?_; rintro e w8 ⟨rfl, rfl⟩; dsimp only))
      go_roundw
      case rel => exact ⟨k + 1, by go_num, by rw [HNX.out]; rfl, by omega, by trivial⟩
      case measure => simp [intOf]; omega
    | true =>
      rw [if_pos rfl] at HNX
      go_wp2_with (first
          | go_big_skip
          | (go_at_call 14; refine (QX.out).mono ?_; rintro e w8 ⟨rfl, rfl⟩; dsimp only))
      go_roundw
      case rel => exact ⟨k + 1, by go_num, by rw [HNX.out]; go_num, by omega, by trivial⟩
      case measure => simp [intOf]; omega
  have gk : decide ((k : Int) < (Bs.length : Int)) = false := decide_eq_false (by omega)
  have gk2 : decide (k < Bs.length) = false := decide_eq_false hkt
  obtain rfl : k = Bs.length := by omega
  rw [List.take_length] at hnk ⊢
  generalize (Bs.filter fun p => solL (bit u) sz p.2 c.op.length).length = nn at *
  have k3 : wr.cell? ⟨B, 3, none⟩ = some (.int .i64 (s : Int)) := by
    rw [← HSE.out]; exact cell_of_row wr B 3 _ _ _ (bel_keep BR.out hB5 X5.out)
  obtain ⟨wt, hwt⟩ : ∃ wt : World, wt = wr := ⟨_, rfl⟩
  subst hwt
  clear gk2 QS
  go_upto_region 26 with fail
  go_wp2_with fail
  clear gk
  go_loopw [19] (fun v wr => ∃ k0 : Nat, v = .int .i64 k0 ∧ 1 ≤ k0 ∧ k0 ≤ 13 ∧ wr = wt) (fun v _ => 14 - (intOf v).toNat)
  case atStart => exact ⟨1, rfl, Nat.le_refl _, by decide, rfl⟩
  case round =>
  obtain ⟨k0, rfl, hk1, hk13, rfl⟩ := hrel
  by_cases g1 : k0 ≤ sz
  case neg =>
    have gd : decide ((k0 : Int) ≤ (sz : Int)) = false := decide_eq_false (by omega)
    have gd2 : decide (k0 ≤ sz) = false := decide_eq_false g1
    go_wp2_with go_big_skip
    go_roundw
    case rel => exact ⟨u + 1, by go_num, by omega, by omega, BR.out⟩
    case measure => simp [intOf]; omega
  have gd : decide ((k0 : Int) ≤ (sz : Int)) = true := decide_eq_true (by omega)
  have gd2 : decide (k0 ≤ sz) = true := decide_eq_true g1
  by_cases g2 : k0 ≤ s
  case neg =>
    have ge : decide ((k0 : Int) ≤ (s : Int)) = false := decide_eq_false (by omega)
    have ge2 : decide (k0 ≤ s) = false := decide_eq_false g2
    go_wp2_with go_big_skip
    go_roundw
    case rel => exact ⟨u + 1, by go_num, by omega, by omega, BR.out⟩
    case measure => simp [intOf]; omega
  have ge : decide ((k0 : Int) ≤ (s : Int)) = true := decide_eq_true (by omega)
  have ge2 : decide (k0 ≤ s) = true := decide_eq_true g2
  obtain ⟨s1, hs1⟩ : ∃ s1 : Nat, (s : Int) + 1 = (s1 : Int) := ⟨s + 1, by omega⟩
  have hs1b : s1 = s + 1 := by omega
  obtain ⟨X1, hX1⟩ : ∃ X1 : Nat, X1 = nn * s1 := ⟨_, rfl⟩
  obtain ⟨X2, hX2⟩ : ∃ X2 : Nat, X2 = k0 * Bs.length := ⟨_, rfl⟩
  have hm1 : (nn : Int) * (s1 : Int) = (X1 : Int) := by rw [hX1, Int.natCast_mul]
  have hm2 : (k0 : Int) * (Bs.length : Int) = (X2 : Int) := by rw [hX2, Int.natCast_mul]
  have hb1 : X1 ≤ 4096 * 13 := by rw [hX1]; exact Nat.mul_le_mul hnk (by omega)
  have hb2 : X2 ≤ 13 * 4096 := by rw [hX2]; exact Nat.mul_le_mul hk13 hK4
  have DK := Lib.hid (show X2 < X1 → k0 ≤ el from fun h => DU.out k0 g1 (by rw [← hX2, ← hs1b, ← hX1]; exact h))
  have hk12 : k0 ≤ 12 := by omega
  clear hX1 hX2 hs1b g1 g2 DU
  by_cases hlt2 : X2 < X1
  · have l1 : decide ((X2 : Int) < (X1 : Int)) = true := decide_eq_true (by omega)
    have l2 : decide (X2 < X1) = true := decide_eq_true hlt2
    have hke := DK.out hlt2
    have l3 : decide ((el : Int) < (k0 : Int)) = false := decide_eq_false (by omega)
    have l4 : decide (el < k0) = false := decide_eq_false (by omega)
    go_wp2_with go_big_skip
    go_roundw
    case rel => exact ⟨k0 + 1, by go_num, by omega, by omega, by trivial⟩
    case measure => simp [intOf]; omega
  · have l1 : decide ((X2 : Int) < (X1 : Int)) = false := decide_eq_false (by omega)
    have l2 : decide (X2 < X1) = false := decide_eq_false hlt2
    go_wp2_with go_big_skip
    go_roundw
    case rel => exact ⟨k0 + 1, by go_num, by omega, by omega, by trivial⟩
    case measure => simp [intOf]; omega
end Go.Proofs.YtnohcdpnnhmpfaaGreatDoor.TR
