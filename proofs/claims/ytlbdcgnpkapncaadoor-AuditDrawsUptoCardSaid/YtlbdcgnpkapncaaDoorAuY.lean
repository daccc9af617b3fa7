/-
  Chapter 14, for Draw: the reference's Settled.
-/
import Derived.Test.YtlbdcgnpkapncaaDoorAuX
namespace Go.Proofs.YtlbdcgnpkapncaaDoor
set_option linter.unusedVariables false
set_option linter.unusedSimpArgs false
open Go.RowKit ML FM ND AU

/-- the reference's Done, of a watch that is one -/
theorem refDoneW_any (A B : List Int) (S O : List (Bytes × Bytes)) (N D : Bytes) (n : Int) (dr : Int) (o0 o1 o2 o3 : Option Addr) (c0 c1 c2 c3 : Nat) (w : World) (hW : WAt w o0 o1 o2 o3 A B S O) (hR : RightW A B S O N D n) (lA : A.length < 140737488355) (lO : Short O 99999999) (k : Nat) (hk : k < O.length) :
    Calls Tryd.prog 41 #[.agg #[.slice o0 A.length c0, .slice o1 B.length c1, .slice o2 S.length c2, .slice o3 O.length c3, .string ⟨N.toArray⟩, .string ⟨D.toArray⟩, .int .i64 dr], .int .i64 (k : Int)] w fun e w' => e = .returned (.bool (doneW (fAt O k) N D)) ∧ Below w.heap.size w w' := by
  obtain ⟨q, rfl, _, _⟩ := hW.f3.cells k hk
  have P := hR.ok k (by rw [← hR.lo]; exact hk)
  have hf : frB 100 N D = true := by
    have h := hR.risk
    cases hf : frB 100 N D
    · unfold riskE at h; rw [hf] at h; cases h
    · rfl
  obtain ⟨_, _, hD0, _, _⟩ := frB_good hf
  obtain ⟨_, _, hO0, _, _⟩ := frB_good P.o
  have hl := lO k hk
  have e := fAt_get hk
  have Q := refDone_any O k hk N D (.slice o0 A.length c0) (.slice o1 B.length c1) (.slice o2 S.length c2) (.int .i64 dr) q c3 w hW.f3 (by rw [hR.lo]; omega) hf (by rw [e]; exact P.o) (by rw [e]; omega) (by rw [e]; omega)
  rw [e, done_ref (Nat.mul_pos hO0 hD0)] at Q
  exact Q
set_option maxHeartbeats 2000000 in
set_option maxRecDepth 100000 in
theorem refSettled_any (A B : List Int) (S O : List (Bytes × Bytes)) (N D : Bytes) (dr : Int) (o0 o1 o2 o3 : Option Addr) (c0 c1 c2 c3 : Nat) (w : World) (hW : WAt w o0 o1 o2 o3 A B S O) (lA : A.length < 140737488355) (hN : N.length < 140737488355328) (hD : D.length < 140737488355328) (lS : Short S 140737488355327) (lO : Short O 99999999) :
    Calls Tryd.prog 12 #[.agg #[.slice o0 A.length c0, .slice o1 B.length c1, .slice o2 S.length c2, .slice o3 O.length c3, .string ⟨N.toArray⟩, .string ⟨D.toArray⟩, .int .i64 dr]] w fun e w' => e = .returned (.bool (settledW A B S O N D)) ∧ Below w.heap.size w w' := by
  have QR := Lib.hid (fun w h => refRight_any A B S O N D dr 12 o0 o1 o2 o3 c0 c1 c2 c3 w h (by omega) hN hD lS (lO.mono (by decide)))
  have QD := Lib.hid (fun w h hR k hk => refDoneW_any A B S O N D 12 dr o0 o1 o2 o3 c0 c1 c2 c3 w h hR lA lO k hk)
  have HR0 := Lib.hid (fun (h : rightW A B S O N D 12 = false) => (show settledW A B S O N D = false by unfold settledW; rw [h]; rfl))
  have HR1 := Lib.hid (fun (h : rightW A B S O N D 12 = true) => (show settledW A B S O N D = (List.range A.length).all (fun k => doneW (fAt O k) N D) by unfold settledW; rw [h, Bool.true_and]))
  have HRR := Lib.hid (fun (h : rightW A B S O N D 12 = true) => rightW_iff.1 h)
  generalize rightW A B S O N D 12 = R at *
  generalize settledW A B S O N D = T at *
  have HW := Lib.hid hW
  clear hW hN hD lS lO
  go_enter Tryd.func12, Tryd.ntmps12
  go_upto_region 1 with (fail)
  generalize hB : w.heap.size = B0 at *
  refine wp_abs (fun w1 => Below B0 w w1 ∧ w1.heap[B0]? = some (.cells #[.slice o0 A.length c0, .slice o1 B.length c1, .slice o2 S.length c2, .slice o3 O.length c3, .string ⟨N.toArray⟩, .string ⟨D.toArray⟩, .int .i64 dr] 27 (0, 0))) ⟨by rw [← hB]; exact (Below.refl _ _).alloc (Nat.le_refl _) _, by rw [← hB]; exact heap_at rfl⟩ (fun w1 hw1 => ?_)
  have HB := Lib.hid hB
  have B1 := Lib.hid hw1.1
  have HC1 := Lib.hid hw1.2
  have hb1 : B0 < w1.heap.size := lt_of_heap hw1.2
  clear hw1 hB
  cases hR : R with
  | false =>
    have hT := Lib.hid (HR0.out hR)
    rw [hR] at QR
    clear hR
    go_wp2_with (first
      | (refine wpList_load_whole rfl 27 _ rfl B0 _ _ _ _ rfl HC1.out Tryd.underlying27 rfl size_watch ?_)
      | (go_at_call 40; refine (QR.out w1 (HW.out.below (HB.out ▸ B1.out))).mono ?_; rintro e w2 ⟨rfl, b2⟩))
    go_ret
    exact ⟨by rw [hT.out]; rfl, by rw [HB.out]; exact B1.out.trans (b2.mono (Nat.le_of_lt hb1))⟩
  | true =>
    have HT := Lib.hid (HR1.out hR)
    have HRW := Lib.hid (HRR.out hR)
    have hlo : Hid (O.length = A.length) := Lib.hid HRW.out.lo
    rw [hR] at QR
    have hOb : O.length < 140737488355 := by rw [hlo.out]; exact lA
    clear hR HR0 HR1 HRR
    go_upto_region 3 with (first
      | (refine wpList_load_whole rfl 27 _ rfl B0 _ _ _ _ rfl HC1.out Tryd.underlying27 rfl size_watch ?_)
      | (go_at_call 40; refine (QR.out w1 (HW.out.below (HB.out ▸ B1.out))).mono ?_; rintro e w2 ⟨rfl, b2⟩))
    have B2 := Lib.hid (B1.out.trans (b2.mono (Nat.le_of_lt hb1)))
    have HC2 := Lib.hid (bel_keep b2 hb1 HC1.out)
    have a3 : w2.cell? ⟨B0, 3, none⟩ = some (.slice o3 O.length c3) := cell_of_row w2 B0 3 _ _ _ HC2.out
    have hb2 : B0 < w2.heap.size := lt_of_heap HC2.out
    clear b2 B1 HC1 hb1 QR
    go_upto_region 4 with (fail)
    clear a3
    go_loopw [10] (fun i wr => ∃ k : Nat, k ≤ O.length ∧ i = .int .i64 k ∧ (∀ j, j < k → doneW (fAt O j) N D = true) ∧ Below w2.heap.size w2 wr) (fun i _ => O.length - (intOf i).toNat)
    case atStart => exact ⟨0, by omega, rfl, (fun j hj => by omega), Below.refl _ _⟩
    case round =>
    obtain ⟨k, hk, rfl, hpre, bel⟩ := hrel
    have HPRE := Lib.hid hpre
    have BEL := Lib.hid (B2.out.trans (bel.mono (Nat.le_of_lt hb2)))
    have BL := Lib.hid bel
    have HCR := Lib.hid (bel_keep bel hb2 HC2.out)
    have hbr : B0 < wr.heap.size := lt_of_heap HCR.out
    clear hpre bel
    by_cases hlt : k < O.length
    · have dk : decide ((k : Int) < (O.length : Int)) = true := decide_eq_true (by omega)
      have dk2 : decide (k < O.length) = true := decide_eq_true hlt
      have hki : (k : Int) < (O.length : Int) := by omega
      have QK := Lib.hid (QD.out wr (HW.out.below (HB.out ▸ BEL.out)) HRW.out k hlt)
      cases hd : doneW (fAt O k) N D with
      | false =>
        have hT := Lib.hid (show T = false by
          rw [HT.out]
          apply Bool.eq_false_iff.2
          intro h
          have := List.all_eq_true.1 h k (List.mem_range.2 (by rw [← hlo.out]; exact hlt))
          rw [hd] at this; cases this)
        rw [hd] at QK
        clear hd
        go_wp2_with (first
          | (refine wpList_load_whole rfl 27 _ rfl B0 _ _ _ _ rfl HCR.out Tryd.underlying27 rfl size_watch ?_)
          | (go_at_call 41; refine QK.out.mono ?_; rintro e w3 ⟨rfl, b3⟩))
        go_ret
        exact ⟨by rw [hT.out]; rfl, by rw [HB.out]; exact BEL.out.trans (b3.mono (Nat.le_of_lt hbr))⟩
      | true =>
        have hN := Lib.hid (show ∀ j, j < k + 1 → doneW (fAt O j) N D = true from fun j hj => (Nat.lt_or_eq_of_le (Nat.le_of_lt_succ hj)).elim (HPRE.out j) (fun e => e ▸ hd))
        rw [hd] at QK
        clear hd
        go_wp2_with (first
          | (refine wpList_load_whole rfl 27 _ rfl B0 _ _ _ _ rfl HCR.out Tryd.underlying27 rfl size_watch ?_)
          | (go_at_call 41; refine QK.out.mono ?_; rintro e w3 ⟨rfl, b3⟩))
        go_roundw
        case rel => exact ⟨k + 1, by omega, by go_num, hN.out, BL.out.trans (b3.mono BL.out.size)⟩
        case measure => simp [intOf]; omega
    · have dk : decide ((k : Int) < (O.length : Int)) = false := decide_eq_false (by omega)
      have dk2 : decide (k < O.length) = false := decide_eq_false hlt
      have hT := Lib.hid (show T = true by
        rw [HT.out]
        apply List.all_eq_true.2
        intro j hj
        exact HPRE.out j (by have := List.mem_range.1 hj; have := hlo.out; omega))
      go_wp2_with fail
      go_ret
      exact ⟨by rw [hT.out]; rfl, by rw [HB.out]; exact BEL.out⟩
end Go.Proofs.YtlbdcgnpkapncaaDoor
