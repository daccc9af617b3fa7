/-
  Chapter 13: count.Elect where pairs are counted. Printed by tools/genel.py.
-/
import Derived.Test.YtnohcdpnnhmpfaaGreatDoorCtSm
import Derived.Test.YtnohcdpnnhmpfaaGreatDoorCtPB
namespace Go.Proofs.YtnohcdpnnhmpfaaGreatDoor
set_option linter.unusedVariables false
set_option linter.unusedSimpArgs false
open Go.RowKit ML FM AU CT

/-- j stands above i -/
def above (M : Mx) (i : Nat) (j : Int) : Bool := decide (M i j.toNat < M j.toNat i)
set_option maxHeartbeats 2000000 in
set_option maxRecDepth 100000 in
theorem elect1_any (n i j : Nat) (M : Mx) (q : Addr) (cb Pb Ib : Nat) (w : World) (hM : MxR w (some q) n M) (hn : n ≤ 12) (hi : i < n) (hj : j < n) (hP : w.cell? ⟨Pb, 0, none⟩ = some (.slice (some q) n cb)) (hI : w.cell? ⟨Ib, 0, none⟩ = some (.int .i64 i)) :
    Calls Tryz.prog 55 #[.int .i64 j, .pointer (some ⟨Pb, 0, none⟩), .pointer (some ⟨Ib, 0, none⟩)] w fun e w' => e = .returned (.bool (above M i j)) ∧ ∃ m, w' = w.drewN m := by
  obtain ⟨a, ha, _, b, cbi, hbb, hci, hcx⟩ := hM.cells i hi
  obtain rfl : q = a := by injection ha
  obtain ⟨a, ha, _, b', cbj, hbb', hcj, hcy⟩ := hM.cells j hj
  obtain rfl : q = a := by injection ha
  have kx := hcx j hj
  have ky := hcy i hi
  have e1 : (i : Int) < (n : Int) := by omega
  have e2 : (j : Int) < (n : Int) := by omega
  have HA := Lib.hid (show above M i (j : Int) = decide (M i j < M j i) from rfl)
  clear hcx hcy ha hM
  generalize M i j = x at *
  generalize M j i = y at *
  go_enter Tryz.func55, Tryz.ntmps55
  go_wp2_with fail
  refine Seg.wp_region_segs (fun w' => ∃ m, w' = w.drewN m) [] [0, 1, 2, 3, 4, 5, 6, 7, 8, 9, 10, 11, 12, 13] 14 (by kernel_rfl) (by kernel_rfl) (fun _ _ d _ _ h => by cases d <;> exact h) (⟨1, rfl⟩) ?_
  simp only [List.map_cons, List.map_nil, Seg.opAt, List.drop_succ_cons, List.drop_zero, Seg.wpSegs, Array.getD_eq_getD_getElem?, List.getElem?_toArray, List.getElem?_cons_succ, List.getElem?_cons_zero, Option.getD_some]
  repeat (any_goals (first | go_big_quiet_step (fail) | quiet_step (fail)))
  refine wpQuiet_nil ?_
  go_wp2_with fail
  go_ret
  exact ⟨by rw [HA.out]; rfl, _, rfl⟩
set_option maxHeartbeats 2000000 in
set_option maxRecDepth 100000 in
theorem indexAbove_any (n i : Nat) (M : Mx) (q : Addr) (cb Pb Ib : Nat) (oa : Option Addr) (L : List Int) (cap : Nat) (w : World) (hL : IsAt w oa L) (hlb : ∀ x ∈ L, 0 ≤ x ∧ x < n) (hl : L.length ≤ 12) (hM : MxR w (some q) n M) (hn : n ≤ 12) (hi : i < n) (hP : w.cell? ⟨Pb, 0, none⟩ = some (.slice (some q) n cb)) (hI : w.cell? ⟨Ib, 0, none⟩ = some (.int .i64 i)) :
    Calls Tryz.prog 98 #[.slice oa L.length cap, (.func (.func 55) #[] #[.pointer (some ⟨Pb, 0, none⟩), .pointer (some ⟨Ib, 0, none⟩)])] w fun e w' => (∃ r : Int, e = .returned (.int .i64 r) ∧ decide (0 ≤ r) = L.any (above M i)) ∧ ∃ m, w' = w.drewN m := by
  have H := Lib.hid hL
  have QB := Lib.hid (fun (j d : Nat) hj => elect1_any n i j M q cb Pb Ib (w.drewN d) (hM.below (bel_drewN (Below.refl _ _) d)) hn hi hj hP hI)
  have HLB := Lib.hid hlb
  clear hL hM hP hI hlb
  go_enter Tryz.func98, Tryz.ntmps98
  go_upto_region 2 with (fail)
  go_loopw [8] (fun v wr => ∃ k d : Nat, k ≤ L.length ∧ v = .int .i64 k ∧ (L.take k).any (above M i) = false ∧ wr = w.drewN d) (fun v _ => L.length - (intOf v).toNat)
  case atStart => exact ⟨0, 0, by omega, rfl, rfl, rfl⟩
  case round =>
  obtain ⟨k, d, hk, rfl, hpre, rfl⟩ := hrel
  have HP := Lib.hid hpre
  clear hpre
  by_cases hlt : k < L.length
  · have dk : decide ((k : Int) < (L.length : Int)) = true := decide_eq_true (by omega)
    have dk2 : decide (k < L.length) = true := decide_eq_true hlt
    have hki : (k : Int) < (L.length : Int) := by omega
    obtain ⟨a, hoa, hab, hac⟩ := H.out.cells k hlt
    have hsn := Lib.hid (show (L.take (k + 1)).any (above M i) = above M i L[k] by rw [List.take_succ_eq_append_getElem hlt, List.any_append, HP.out]; simp)
    have hany := Lib.hid (fun (hb : above M i L[k] = true) => (show L.any (above M i) = true from List.any_eq_true.2 ⟨L[k], List.getElem_mem hlt, hb⟩))
    have hxb := HLB.out _ (List.getElem_mem hlt)
    subst hoa
    generalize L[k] = x at *
    obtain ⟨j, rfl⟩ : ∃ j : Nat, x = j := ⟨x.toNat, by omega⟩
    have QBP := Lib.hid (QB.out j d (by omega))
    clear hxb
    cases hb : above M i (j : Int) with
    | true =>
      have h2 := Lib.hid (hany.out hb)
      rw [hb] at hsn QBP
      clear hb hany
      go_wp2_with (first | (go_at_call 55; refine (QBP.out).mono ?_; rintro e w1 ⟨rfl, m, rfl⟩))
      go_ret
      exact ⟨⟨_, rfl, by rw [h2.out]; exact decide_eq_true (by omega)⟩, _, rfl⟩
    | false =>
      rw [hb] at hsn QBP
      clear hb hany
      go_wp2_with (first | (go_at_call 55; refine (QBP.out).mono ?_; rintro e w1 ⟨rfl, m, rfl⟩))
      go_roundw
      case rel => exact ⟨k + 1, _, by omega, by go_num, hsn.out, rfl⟩
      case measure => simp [intOf]; omega
  · have dk : decide ((k : Int) < (L.length : Int)) = false := decide_eq_false (by omega)
    have dk2 : decide (k < L.length) = false := decide_eq_false hlt
    obtain rfl : k = L.length := by omega
    rw [List.take_length] at HP
    go_wp2_with fail
    go_ret
    exact ⟨⟨_, rfl, by rw [HP.out]; decide⟩, _, rfl⟩
set_option maxHeartbeats 1000000 in
set_option maxRecDepth 100000 in
theorem containsAbove_any (n i : Nat) (M : Mx) (q : Addr) (cb Pb Ib : Nat) (oa : Option Addr) (L : List Int) (cap : Nat) (w : World) (hL : IsAt w oa L) (hlb : ∀ x ∈ L, 0 ≤ x ∧ x < n) (hl : L.length ≤ 12) (hM : MxR w (some q) n M) (hn : n ≤ 12) (hi : i < n) (hP : w.cell? ⟨Pb, 0, none⟩ = some (.slice (some q) n cb)) (hI : w.cell? ⟨Ib, 0, none⟩ = some (.int .i64 i)) :
    Calls Tryz.prog 54 #[.slice oa L.length cap, (.func (.func 55) #[] #[.pointer (some ⟨Pb, 0, none⟩), .pointer (some ⟨Ib, 0, none⟩)])] w fun e w' => e = .returned (.bool (L.any (above M i))) ∧ ∃ m, w' = w.drewN m := by
  have Q := Lib.hid (indexAbove_any n i M q cb Pb Ib oa L cap w hL hlb hl hM hn hi hP hI)
  clear hL hlb hl hM hP hI hn hi
  generalize L.any (above M i) = b at *
  go_enter Tryz.func54, Tryz.ntmps54
  go_wp2_with (go_at_call 98; refine Q.out.mono ?_; rintro e w1 ⟨⟨r, rfl, hr⟩, m, rfl⟩)
  go_ret
  exact ⟨rfl, _, rfl⟩
/-- what Elect answers where pairs are counted -/
def ElectGot (c : CTest) (P : List (Value × List Int)) (w : World) (e : Ending) (w' : World) : Prop :=
  Below w.heap.size w w' ∧ if prE c P = 0 then ∃ (i : Nat) (W : Mx) (oo : Option Addr) (co : Nat), e = .returned (.tuple #[.slice oo 1 co, .int .i64 0]) ∧ IsAt w' oo [(i : Int)] ∧ Strong (edge (pairM (prK c P))) c.op.length W ∧ Top c.op.length W i
  else e = .returned (.tuple #[.slice none 0 0, .int .i64 (prE c P)])
theorem ElectGot.bad {c : CTest} {P : List (Value × List Int)} {w w' : World} {E : Int} (hE : prE c P = E) (h0 : E ≠ 0) (hb : Below w.heap.size w w') : ElectGot c P w (.returned (.tuple #[.slice none 0 0, .int .i64 E])) w' := by
  unfold ElectGot
  rw [hE, if_neg h0]
  exact ⟨hb, rfl⟩
theorem ElectGot.ok {c : CTest} {P : List (Value × List Int)} {w w' : World} (hE : prE c P = 0) (hb : Below w.heap.size w w') {i : Nat} {W : Mx} {oo : Option Addr} {co : Nat} (hi : IsAt w' oo [(i : Int)]) (hs : Strong (edge (pairM (prK c P))) c.op.length W) (ht : Top c.op.length W i) : ElectGot c P w (.returned (.tuple #[.slice oo 1 co, .int .i64 0])) w' := by
  unfold ElectGot
  rw [hE, if_pos rfl]
  exact ⟨hb, i, W, oo, co, rfl, hi, hs, ht⟩
theorem isAt_lone {w : World} {F : Nat} {x : Int} {e : TypeId} (h : w.heap[F]? = some (.cells #[.int .i64 x] e (0, 0))) : IsAt w (some ⟨F, 0, none⟩) [x] := ⟨fun i hi => ⟨_, rfl, lt_of_heap h, by
  have hi' : i < 1 := hi
  obtain rfl : i = 0 := by omega
  rw [Addr.add_mid]
  exact cell_of_row w F 0 _ _ _ h⟩⟩
theorem top_of_any {n i : Nat} {W : Mx} {O : List Int} (hi : i < n) (hO : ∀ j, j < n → ((j : Nat) : Int) ∈ O) (h : O.any (above W i) = false) : Top n W i := ⟨hi, fun j hj hlt => by
  have h1 : O.any (above W i) = true := List.any_eq_true.2 ⟨(j : Int), hO j hj, by unfold above; rw [Int.toNat_natCast]; exact decide_eq_true hlt⟩
  rw [h] at h1; cases h1⟩
theorem above_top {n i : Nat} {W : Mx} {O : List Int} (hO : ∀ x ∈ O, 0 ≤ x ∧ x < n) (h : Top n W i) : O.any (above W i) = false := by
  rw [← Bool.not_eq_true, List.any_eq_true]
  rintro ⟨x, hx, ha⟩
  have := hO x hx
  unfold above at ha
  exact h.2 x.toNat (by omega) (of_decide_eq_true ha)
set_option maxHeartbeats 8000000 in
set_option maxRecDepth 100000 in
theorem elect4_any (c : CTest) (P : List (Value × List Int)) (lots : Bytes) (oa : Option Addr) (cap : Nat) (ob : Option Addr) (cb : Nat) (w : World) (hrl : c.rl = 4) (hs : StrsAt w oa c.op) (hP : PsAt w ob P) (hf : c.Fits lots) (hnl : c.op.length < 9223372036854775807) :
    Calls Tryz.prog 20 #[.agg #[.string ⟨c.nm.toArray⟩, .slice oa c.op.length cap, .int .i64 c.rl, .int .i64 c.se, .int .i64 c.mo], .slice ob P.length cb, .string ⟨lots.toArray⟩] w (ElectGot c P w) := by
  have QD := Lib.hid (show ∀ (w : World) (h : StrsAt w oa c.op), Calls Tryz.prog 28 #[.agg #[.string ⟨c.nm.toArray⟩, .slice oa c.op.length cap, .int .i64 c.rl, .int .i64 c.se, .int .i64 c.mo], .string ⟨lots.toArray⟩] w (DrawGot c lots oa cap w) from fun w h => draw_any c lots oa cap w h hf hnl)
  have HS := Lib.hid hs
  have HP := Lib.hid hP
  have HPR := Lib.hid (show prE c P = if wrongC c = true then 2 else filE c.op.length P from rfl)
  have r3 : (c.rl == 3) = false := by rw [hrl]; rfl
  have r4 : (c.rl == 4) = true := by rw [hrl]; rfl
  have HRL := Lib.hid hrl
  clear hs hP hf hrl
  unfold DrawGot at QD
  cases hW : wrongC c with
  | true =>
    rw [hW] at QD HPR
    have HE := Lib.hid (HPR.out.trans (if_pos rfl))
    clear hW HPR
    go_enter Tryz.func20, Tryz.ntmps20
    go_upto_region 1 with (fail)
    generalize hB : w.heap.size = B at *
    refine wp_abs (fun w1 => Below B w w1 ∧ w1.heap[B]? = some (.cells #[.string ⟨c.nm.toArray⟩, .slice oa c.op.length cap, .int .i64 c.rl, .int .i64 c.se, .int .i64 c.mo] 24 (0, 0))) ⟨by rw [← hB]; exact (Below.refl _ _).alloc (Nat.le_refl _) _, by rw [← hB]; exact heap_at rfl⟩ (fun w1 hw1 => ?_)
    have HB := Lib.hid hB
    have B1 := Lib.hid hw1.1
    have X1 := Lib.hid hw1.2
    have hBs : B < w1.heap.size := lt_of_heap hw1.2
    have Q1 := Lib.hid (QD.out w1 (HS.out.below (HB.out.symm ▸ B1.out)))
    clear hB hw1 QD
    go_wp2_with (first
        | go_big_skip
        | ((with_reducible refine at_load 24 ?_); refine wpList_load_g ?_ 24 (.tmp 3) ?_ B _ _ _ _ ?_ X1.out Tryz.underlying24 ?_ size_contest ?_; rfl; rfl; rfl; rfl)
        | (go_at_call 28; refine (Q1.out).mono ?_; rintro e w3 ⟨b3, h3⟩; rw [if_pos rfl] at h3; subst h3; dsimp only; have B3 := Lib.hid b3; clear b3)
        | (refine wpList_store_whole rfl rfl 62 _ _ rfl w3.heap.size #[.string ⟨#[]⟩, .slice none 0 0, .int .i64 0, .int .i64 0, .int .i64 0, .slice none 0 0, .slice none 0 0] #[.string ⟨#[]⟩, .slice none 0 0, .int .i64 0, .int .i64 0, .int .i64 0, .slice none 0 0, .slice none 0 0] 62 rfl rfl (heap_at rfl) rfl size_drawn (seven_a _ _ _ _ _ _ _ rfl rfl rfl rfl rfl rfl rfl) ?_; intro w4 ho hp))
    go_ret2
    have b4 : Below w3.heap.size w3 w4 := bel_only ((Below.refl _ _).alloc (Nat.le_refl _) _) ho (Nat.le_refl _)
    exact ElectGot.bad HE.out (by decide) (by rw [HB.out]; exact B1.out.trans ((B3.out.mono (Nat.le_of_lt hBs)).trans (b4.mono (by have := B3.out.size; omega))))
  | false =>
    rw [hW] at QD HPR
    obtain ⟨hn1, hn12, _⟩ := wrongC_no hW
    have HE := Lib.hid (HPR.out.trans (if_neg (by decide)))
    have QF := Lib.hid (fun w1 h => filled_any c c.rl P oa cap ob cb w1 h hn12 hn1)
    clear hW HPR
    unfold FilGot at QF
    have HKD := Lib.hid (show prK c P = P.filter (keepP (c.rule c.rl)) by unfold prK; rw [HRL.out])
    go_enter Tryz.func20, Tryz.ntmps20
    go_upto_region 1 with (fail)
    generalize hB : w.heap.size = B at *
    refine wp_abs (fun w1 => Below B w w1 ∧ w1.heap[B]? = some (.cells #[.string ⟨c.nm.toArray⟩, .slice oa c.op.length cap, .int .i64 c.rl, .int .i64 c.se, .int .i64 c.mo] 24 (0, 0))) ⟨by rw [← hB]; exact (Below.refl _ _).alloc (Nat.le_refl _) _, by rw [← hB]; exact heap_at rfl⟩ (fun w1 hw1 => ?_)
    have HB := Lib.hid hB
    have B1 := Lib.hid hw1.1
    have X1 := Lib.hid hw1.2
    have hBs : B < w1.heap.size := lt_of_heap hw1.2
    have Q1 := Lib.hid (QD.out w1 (HS.out.below (HB.out.symm ▸ B1.out)))
    clear hB hw1 QD
    go_upto_region 2 with (first
        | go_big_skip
        | ((with_reducible refine at_load 24 ?_); refine wpList_load_g ?_ 24 (.tmp 3) ?_ B _ _ _ _ ?_ X1.out Tryz.underlying24 ?_ size_contest ?_; rfl; rfl; rfl; rfl)
        | (go_at_call 28; refine (Q1.out).mono ?_; rintro e w3 ⟨b3, h3⟩; rw [if_neg (by decide)] at h3; obtain ⟨O, Pl, oO, cO, oP, cP, hO, hPl, hIO, hIP, rfl⟩ := h3; dsimp only; have B3 := Lib.hid b3; have HO := Lib.hid hO; have HIO := Lib.hid hIO; clear hO hPl hIO hIP b3)
        | (refine wpList_store_whole rfl rfl 62 _ _ rfl w3.heap.size #[.string ⟨#[]⟩, .slice none 0 0, .int .i64 0, .int .i64 0, .int .i64 0, .slice none 0 0, .slice none 0 0] #[.string ⟨c.nm.toArray⟩, .slice oa c.op.length cap, .int .i64 c.rl, .int .i64 c.se, .int .i64 c.mo, .slice oO O.length cO, .slice oP Pl.length cP] 62 rfl rfl (heap_at rfl) rfl size_drawn (seven_a _ _ _ _ _ _ _ rfl rfl rfl rfl rfl rfl rfl) ?_; intro w4 ho hp))
    have b4 : Below w3.heap.size w3 w4 := bel_only ((Below.refl _ _).alloc (Nat.le_refl _) _) ho (Nat.le_refl _)
    have bw4 : Below w1.heap.size w1 w4 := B3.out.trans (b4.mono B3.out.size)
    have B4 := Lib.hid (B1.out.trans (bw4.mono (Nat.le_of_lt hBs)))
    have X4 := Lib.hid (bel_keep bw4 hBs X1.out)
    have hB4 : B < w4.heap.size := lt_of_heap X4.out
    have HP4 := Lib.hid (HP.out.below (HB.out.symm ▸ B4.out))
    have Q4 := Lib.hid (QF.out w4 HP4.out)
    have IOr := Lib.hid (HIO.out.below b4)
    have RD := Lib.hid hp
    have hDlt : w3.heap.size < w4.heap.size := lt_of_heap hp
    have k2 : w4.cell? ⟨B, 2, none⟩ = some (.int .i64 c.rl) := cell_of_row _ _ _ _ _ _ X4.out
    have HOL := Lib.hid HO.out.len
    have hOl12 : O.length ≤ 12 := by rw [HO.out.len]; exact hn12
    generalize w3.heap.size = D at *
    clear ho hp b4 bw4 X1 B1 hBs Q1 QF B3 HIO
    as_aux_lemma =>
    by_cases h0 : filE c.op.length P = 0
    case neg =>
      have hd : (filE c.op.length P != 0) = true := by rw [bne_iff_ne]; exact h0
      have H0 := Lib.hid h0
      clear h0 HKD
      go_wp2_with (first
          | go_big_skip
          | ((with_reducible refine at_load 24 ?_); refine wpList_load_g ?_ 24 (.tmp 3) ?_ B _ _ _ _ ?_ X4.out Tryz.underlying24 ?_ size_contest ?_; rfl; rfl; rfl; rfl)
          | (go_at_call 29; refine (Q4.out).mono ?_; rintro e w5 ⟨b5, h5⟩; rw [if_neg H0.out] at h5; subst h5; dsimp only; have B5 := Lib.hid (B4.out.trans (b5.mono (Nat.le_of_lt hB4))); clear b5))
      go_ret2
      exact ElectGot.bad HE.out H0.out (by rw [HB.out]; exact B5.out)
    have HE0 := Lib.hid (HE.out.trans h0)
    obtain ⟨hA, h4096⟩ := filE_ok h0
    have HFE := Lib.hid h0
    have HKA := Lib.hid (allN_filter (keepP (c.rule c.rl)) hA)
    have hK4 : (P.filter (keepP (c.rule c.rl))).length ≤ 4096 := Nat.le_trans (List.length_filter_le _ _) h4096
    rw [← HKD.out] at Q4 HKA hK4
    have HOK := Lib.hid (show ∀ (w' : World) (i : Nat) (W : Mx) (oo : Option Addr) (co : Nat), Below w.heap.size w w' → IsAt w' oo [(i : Int)] → Strong (edge (pairM (prK c P))) c.op.length W → Top c.op.length W i → ElectGot c P w (.returned (.tuple #[.slice oo 1 co, .int .i64 0])) w' from fun w' i W oo co h1 h2 h3 h4 => ElectGot.ok HE0.out h1 h2 h3 h4)
    clear h0 hA h4096 HKD HE HE0
    generalize prK c P = K at *
    have QP := Lib.hid (fun w1 ob cb h => pairs_any c.op.length K ob cb w1 h HKA.out hn12 hK4)
    have QA := Lib.hid (fun w1 F h => paths_any c.op.length (pairM K) ⟨F, 0, none⟩ c.op.length w1 h hn12 (fun i j _ _ => by unfold pairM; omega))
    go_upto_region 7 with (first
          | go_big_skip
          | ((with_reducible refine at_load 24 ?_); refine wpList_load_g ?_ 24 (.tmp 3) ?_ B _ _ _ _ ?_ X4.out Tryz.underlying24 ?_ size_contest ?_; rfl; rfl; rfl; rfl)
          | (go_at_call 29; refine (Q4.out).mono ?_; rintro e w5 ⟨b5, h5⟩; rw [if_pos HFE.out] at h5; obtain ⟨oo, co, hp5, rfl⟩ := h5; dsimp only; have B5 := Lib.hid (B4.out.trans (b5.mono (Nat.le_of_lt hB4))); have P5 := Lib.hid hp5; have X5 := Lib.hid (bel_keep b5 hB4 X4.out); have R5 := Lib.hid (bel_keep b5 hDlt RD.out); have IO5 := Lib.hid (IOr.out.below b5); clear b5 hp5))
    clear Q4 HFE X4 B4 HP4 k2 RD IOr
    have hB5 : B < w5.heap.size := lt_of_heap X5.out
    have hD5 : D < w5.heap.size := lt_of_heap R5.out
    clear hB4 hDlt
    as_aux_lemma =>
    have k1 : w5.cell? ⟨B, 1, none⟩ = some (.slice oa c.op.length cap) := cell_of_row _ _ _ _ _ _ X5.out
    have k2 : w5.cell? ⟨B, 2, none⟩ = some (.int .i64 c.rl) := cell_of_row _ _ _ _ _ _ X5.out
    go_upto_region 12 with (first
          | go_big_skip
          | (go_at_call 53; refine (QP.out w5 oo co P5.out).mono ?_; rintro e w6 ⟨F, gs, rfl, hm6, hb6⟩; dsimp only)
          | (go_at_call 52; refine (QA.out w6 F hm6.read).mono ?_; rintro e w7 ⟨G, hs7, W, rfl, hm7, hst7, hb7⟩; dsimp only))
    have M7 := Lib.hid hm7.read
    have ST7 := Lib.hid hst7
    have B7 := Lib.hid (B5.out.trans ((hb6.trans (hb7.mono hb6.size)).mono (Nat.le_of_lt hB5)))
    have R7 := Lib.hid (bel_keep hb7 (Nat.lt_of_lt_of_le hD5 hb6.size) (bel_keep hb6 hD5 R5.out))
    have IO7 := Lib.hid ((IO5.out.below hb6).below hb7)
    have hB7 : B ≤ w7.heap.size := Nat.le_trans (Nat.le_of_lt hB5) (Nat.le_trans hb6.size hb7.size)
    clear hm6 hb6 hm7 hst7 hb7 B5 R5 IO5 P5 X5 k1 k2 QP QA hB5 hD5
    have hbA : Below w7.heap.size w7 (w7.alloc (.cells #[.slice (some ⟨G, 0, none⟩) c.op.length c.op.length] 25)) := (Below.refl _ _).alloc (Nat.le_refl _) _
    have hpb : (w7.alloc (.cells #[.slice (some ⟨G, 0, none⟩) c.op.length c.op.length] 25)).cell? ⟨w7.heap.size, 0, none⟩ = some (.slice (some ⟨G, 0, none⟩) c.op.length c.op.length) := cell_of_row _ _ 0 _ _ _ (heap_at rfl)
    refine wp_abs (fun w8 => Below B w w8 ∧ Below w7.heap.size w7 w8 ∧ w8.cell? ⟨w7.heap.size, 0, none⟩ = some (.slice (some ⟨G, 0, none⟩) c.op.length c.op.length)) ⟨B7.out.trans (hbA.mono hB7), hbA, hpb⟩ (fun w8 hw8 => ?_)
    have B8 := Lib.hid hw8.1
    have M8 := Lib.hid (M7.out.below hw8.2.1)
    have R8 := Lib.hid (bel_keep hw8.2.1 (lt_of_heap R7.out) R7.out)
    have IO8 := Lib.hid (IO7.out.below hw8.2.1)
    have K8 := Lib.hid hw8.2.2
    have hPl : w7.heap.size < w8.heap.size := by
      have := hw8.2.2
      unfold World.cell? at this
      cases h : w8.heap[w7.heap.size]? with
      | none => rw [h] at this; cases this
      | some o => exact lt_of_heap h
    clear hw8 hbA hpb M7 R7 IO7 B7
    generalize w7.heap.size = Pb at *
    have hD8 : D < w8.heap.size := lt_of_heap R8.out
    have hB8 : B ≤ w8.heap.size := Nat.le_trans hB7 (Nat.le_of_lt hPl)
    clear hB7
    as_aux_lemma =>
    have k5 : w8.cell? ⟨D, 5, none⟩ = some (.slice oO O.length cO) := cell_of_row _ _ _ _ _ _ R8.out
    go_wp2_with fail
    clear k5
    have HOB := Lib.hid (show ∀ x ∈ O, 0 ≤ x ∧ x < (c.op.length : Int) from fun x hx => HO.out.mem.1 hx)
    go_loopw [58] (fun v wr => ∃ k : Nat, v = .int .i64 k ∧ k ≤ O.length ∧ (∀ x ∈ O.take k, O.any (above W x.toNat) = true) ∧ Below w8.heap.size w8 wr) (fun v _ => O.length - (intOf v).toNat)
    case atStart => exact ⟨0, rfl, Nat.zero_le _, (fun x hx => by simp at hx), Below.refl _ _⟩
    case round =>
    obtain ⟨k, rfl, hk, hbt, hb⟩ := hrel
    have HBT := Lib.hid hbt
    have BR := Lib.hid hb
    have hs8 := hb.size
    clear hbt hb
    by_cases hlt : k < O.length
    case neg =>
      exfalso
      obtain ⟨i, hi⟩ := ST7.out.top_ex (by omega)
      have hiO : (i : Int) ∈ O := HO.out.mem.2 ⟨by omega, by have := hi.1; omega⟩
      have h1 := HBT.out (i : Int) (by rw [List.take_of_length_le (by omega)]; exact hiO)
      rw [Int.toNat_natCast, above_top HOB.out hi] at h1
      cases h1
    have dk : decide ((k : Int) < (O.length : Int)) = true := decide_eq_true (by omega)
    have dk2 : decide (k < O.length) = true := decide_eq_true hlt
    have dki : (k : Int) < (O.length : Int) := by omega
    obtain ⟨a, hoa, hab, hac⟩ := (IO8.out.below BR.out).cells k hlt
    have HTK := Lib.hid (show O.take (k + 1) = O.take k ++ [O[k]] from List.take_succ_eq_append_getElem hlt)
    have hxb := HOB.out _ (List.getElem_mem hlt)
    subst hoa
    generalize O[k] = x at *
    obtain ⟨i, rfl⟩ : ∃ i : Nat, x = i := ⟨x.toNat, by omega⟩
    have hin : i < c.op.length := by omega
    clear hxb
    go_upto_region 15 with (fail)
    have hbA : Below wr.heap.size wr (wr.alloc (.cells #[.int .i64 (i : Int)] 3)) := (Below.refl _ _).alloc (Nat.le_refl _) _
    have hib : (wr.alloc (.cells #[.int .i64 (i : Int)] 3)).cell? ⟨wr.heap.size, 0, none⟩ = some (.int .i64 (i : Int)) := cell_of_row _ _ 0 _ _ _ (heap_at rfl)
    refine wp_abs (fun w9 => Below w8.heap.size w8 w9 ∧ w9.cell? ⟨wr.heap.size, 0, none⟩ = some (.int .i64 (i : Int))) ⟨BR.out.trans (hbA.mono hs8), hib⟩ (fun w9 hw9 => ?_)
    have B9 := Lib.hid hw9.1
    have k6 := hw9.2
    have K6 := Lib.hid hw9.2
    have k5 : w9.cell? ⟨D, 5, none⟩ = some (.slice (some a) O.length cO) := cell_of_row _ _ _ _ _ _ (bel_keep hw9.1 hD8 R8.out)
    have K9 := Lib.hid ((hw9.1.cell (p := ⟨Pb, 0, none⟩) hPl).trans K8.out)
    clear hw9 hbA hib BR hs8 hab hac
    generalize wr.heap.size = Ib at *
    have QC := Lib.hid (containsAbove_any c.op.length i W ⟨G, 0, none⟩ c.op.length Pb Ib (some a) O cO w9 (IO8.out.below B9.out) HOB.out hOl12 (M8.out.below B9.out) hn12 hin K9.out K6.out)
    cases hab : O.any (above W i) with
    | true =>
      rw [hab] at QC
      have HBT2 := Lib.hid (show ∀ x ∈ O.take (k + 1), O.any (above W x.toNat) = true by
        rw [HTK.out]
        intro x hx
        rcases List.mem_append.1 hx with h | h
        · exact HBT.out x h
        · rw [List.mem_singleton.1 h, Int.toNat_natCast]; exact hab)
      clear hab
      go_wp2_with (first
          | go_big_skip
          | (go_at_call 54; refine (QC.out).mono ?_; rintro e w10 ⟨rfl, m, rfl⟩; dsimp only))
      go_roundw
      case rel => exact ⟨k + 1, by go_num, by omega, HBT2.out, bel_drewN B9.out m⟩
      case measure => simp [intOf]; omega
    | false =>
      rw [hab] at QC
      have HT := Lib.hid (top_of_any hin (fun j hj => HO.out.mem.2 ⟨by omega, by omega⟩) hab)
      clear hab
      go_wp2_with (first
          | go_big_skip
          | (go_at_call 54; refine (QC.out).mono ?_; rintro e w10 ⟨rfl, m, rfl⟩; dsimp only))
      go_ret2
      exact HOK.out _ i W _ _ (by rw [HB.out]; exact (B8.out.trans ((bel_drewN B9.out m).mono hB8)).alloc (by have := B9.out.size; exact Nat.le_trans hB8 this) _) (isAt_lone (heap_at rfl)) ST7.out HT.out
end Go.Proofs.YtnohcdpnnhmpfaaGreatDoor
