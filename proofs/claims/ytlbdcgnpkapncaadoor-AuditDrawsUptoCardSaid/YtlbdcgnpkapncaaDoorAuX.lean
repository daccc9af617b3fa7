/-
  Chapter 14, for Draw: the program's Settled.
-/
import Derived.Test.YtlbdcgnpkapncaaDoorAuV
namespace Go.Proofs.YtlbdcgnpkapncaaDoor
set_option linter.unusedVariables false
set_option linter.unusedSimpArgs false
open Go.RowKit ML FM NL AU

theorem AU.Short.mono {O : List (Bytes × Bytes)} {K M : Nat} (h : Short O K) (hk : K ≤ M) : Short O M := fun k hk2 => by have := h k hk2; omega
/-- a pair that is not settled -/
def notP (LN LD : Nat) (p : PD) : Bool := !decide (LN * p.b ≤ p.a * LD)
set_option maxHeartbeats 2000000 in
set_option maxRecDepth 100000 in
theorem audSettledC_any (p : PD) (LN LD E : Nat) (ol om : Option Addr) (cl cm : Nat) (ps : Value) (w : World) (hE : w.heap[E]? = some (.cells #[ps, .slice ol (dig LN).length cl, .slice om (dig LD).length cm] 73 (0, 0))) (hp : p.At w) (hl : LFr w LN LD ol om) (l1 : (dig p.a).length < 274877906944) (l2 : (dig p.b).length < 274877906944) (l3 : (dig LN).length < 274877906944) (l4 : (dig LD).length < 274877906944) :
    Calls Tryd.prog 38 #[.agg p.cells.toArray, .pointer (some ⟨E, 0, none⟩)] w fun e w' => e = .returned (.bool (notP LN LD p)) ∧ Below w.heap.size w w' := by
  have Q := Lib.hid (fun w h1 h2 => audSettled1_any p.a p.b LN LD p.oa p.ob ol om p.ca p.cb cl cm ps (.slice p.os (dig p.s).length p.cs) (.slice p.ot (dig p.t).length p.ct) p.wi p.lo w h1 h2 l1 l2 l3 l4)
  have HN := Lib.hid (show notP LN LD p = !decide (LN * p.b ≤ p.a * LD) from rfl)
  generalize decide (LN * p.b ≤ p.a * LD) = r at *
  have HE := Lib.hid hE
  have HP := Lib.hid hp
  have HL := Lib.hid hl
  have hC : p.cells = [.int .i64 p.wi, .int .i64 p.lo, .slice p.os (dig p.s).length p.cs, .slice p.ot (dig p.t).length p.ct, .slice p.oa (dig p.a).length p.ca, .slice p.ob (dig p.b).length p.cb] := rfl
  rw [hC]
  clear hE hp hl l1 l2 l3 l4 hC
  go_enter Tryd.func38, Tryd.ntmps38
  go_upto_region 1 with (fail)
  generalize hB : w.heap.size = B at *
  refine wp_abs (fun w1 => Below B w w1 ∧ w1.heap[B]? = some (.cells #[.int .i64 p.wi, .int .i64 p.lo, .slice p.os (dig p.s).length p.cs, .slice p.ot (dig p.t).length p.ct, .slice p.oa (dig p.a).length p.ca, .slice p.ob (dig p.b).length p.cb] 78 (0, 0))) ⟨by rw [← hB]; exact (Below.refl _ _).alloc (Nat.le_refl _) _, by rw [← hB]; exact heap_at rfl⟩ (fun w1 hw1 => ?_)
  have HB := Lib.hid hB
  have B1 := Lib.hid hw1.1
  have HC1 := Lib.hid hw1.2
  have W1 := Lib.hid (show Below w.heap.size w w1 by rw [hB]; exact hw1.1)
  have HE1 := Lib.hid (bel_keep W1.out (lt_of_heap HE.out) HE.out)
  have hb1 : B < w1.heap.size := lt_of_heap hw1.2
  have hE1 : E < w1.heap.size := lt_of_heap HE1.out
  clear hw1 hB
  go_wp2_with (first
    | (refine wpList_load_whole rfl 73 _ rfl E _ _ _ _ rfl HE1.out Tryd.underlying73 rfl size_awatch ?_)
    | (refine wpList_load_whole rfl 78 _ rfl B _ _ _ _ rfl HC1.out Tryd.underlying78 rfl size_apair ?_)
    | (go_at_call 39; refine (Q.out w1 (HP.out.odds.below W1.out) (HL.out.below W1.out)).mono ?_; rintro e w2 ⟨rfl, b2⟩; have B2 := Lib.hid (B1.out.trans (b2.mono (Nat.le_of_lt hb1))); clear b2))
  go_ret
  exact ⟨by rw [HN.out]; rfl, by rw [HB.out]; exact B2.out⟩
set_option maxHeartbeats 2000000 in
set_option maxRecDepth 100000 in
theorem indexPairs_any (L : List PD) (LN LD E : Nat) (op ol om : Option Addr) (cp cl cm : Nat) (ps : Value) (w : World) (hE : w.heap[E]? = some (.cells #[ps, .slice ol (dig LN).length cl, .slice om (dig LD).length cm] 73 (0, 0))) (hps : PsAt w op L) (hl : LFr w LN LD ol om) (hLl : L.length < 9223372036854775808) (hs : ∀ p ∈ L, (dig p.a).length < 274877906944 ∧ (dig p.b).length < 274877906944) (l3 : (dig LN).length < 274877906944) (l4 : (dig LD).length < 274877906944) :
    Calls Tryd.prog 74 #[.slice op L.length cp, .func (.func 38) #[] #[.pointer (some ⟨E, 0, none⟩)]] w fun e w' => (∃ r : Int, e = .returned (.int .i64 r) ∧ decide (0 ≤ r) = L.any (notP LN LD)) ∧ Below w.heap.size w w' := by
  have QC := Lib.hid (fun p hp w h1 h2 h3 => audSettledC_any p LN LD E ol om cl cm ps w h1 h2 h3 (hs p hp).1 (hs p hp).2 l3 l4)
  have HE := Lib.hid hE
  have HP := Lib.hid hps
  have HL := Lib.hid hl
  clear hE hps hl hs l3 l4
  go_enter Tryd.func74, Tryd.ntmps74
  go_upto_region 2 with (fail)
  go_loopw [8] (fun i wr => ∃ k : Nat, k ≤ L.length ∧ i = .int .i64 k ∧ (L.take k).any (notP LN LD) = false ∧ Below w.heap.size w wr) (fun i _ => L.length - (intOf i).toNat)
  case atStart => exact ⟨0, by omega, rfl, rfl, Below.refl _ _⟩
  case round =>
  obtain ⟨k, hk, rfl, hpre, bel⟩ := hrel
  have HPRE := Lib.hid hpre
  have BEL := Lib.hid bel
  clear hpre bel
  by_cases hlt : k < L.length
  · have dk : decide ((k : Int) < (L.length : Int)) = true := decide_eq_true (by omega)
    have dk2 : decide (k < L.length) = true := decide_eq_true hlt
    have hki : (k : Int) < (L.length : Int) := by omega
    obtain ⟨a, hoa, hab, hac⟩ := (HP.out.below BEL.out).cells k hlt
    have hat := Lib.hid ((HP.out.below BEL.out).at' L[k] (List.getElem_mem hlt))
    have hsn := Lib.hid (show (L.take (k + 1)).any (notP LN LD) = notP LN LD L[k] by rw [List.take_succ_eq_append_getElem hlt, List.any_append, HPRE.out]; simp)
    have hany := Lib.hid (fun (hb : notP LN LD L[k] = true) => (show L.any (notP LN LD) = true from List.any_eq_true.2 ⟨L[k], List.getElem_mem hlt, hb⟩))
    have QK := Lib.hid (QC.out L[k] (List.getElem_mem hlt) wr (bel_keep BEL.out (lt_of_heap HE.out) HE.out) hat.out (HL.out.below BEL.out))
    have hC : L[k].cells = [.int .i64 L[k].wi, .int .i64 L[k].lo, .slice L[k].os (dig L[k].s).length L[k].cs, .slice L[k].ot (dig L[k].t).length L[k].ct, .slice L[k].oa (dig L[k].a).length L[k].ca, .slice L[k].ob (dig L[k].b).length L[k].cb] := rfl
    have HAC := Lib.hid hac
    subst hoa
    obtain ⟨C, hCC⟩ : ∃ C : List Value, C = L[k].cells := ⟨_, rfl⟩
    rw [← hCC] at QK HAC
    have hCl : (Tryd.prog.info? 78).map (·.size) = some C.length := by rw [hCC, hC]; exact size_apair
    have HCL := Lib.hid hCl
    clear hac hC hCC hat hCl
    cases hb : notP LN LD L[k] with
    | true =>
      have h2 := Lib.hid (hany.out hb)
      rw [hb] at QK
      clear hb hany hsn
      go_wp2_with (first
        | (refine wpList_load_at rfl 78 _ rfl (a.add (k * 6)) rfl C _ HAC.out Tryd.underlying78 rfl HCL.out ?_)
        | (go_at_call 38; refine QK.out.mono ?_; rintro e w2 ⟨rfl, b2⟩))
      go_ret
      exact ⟨⟨_, rfl, by rw [h2.out]; exact decide_eq_true (by omega)⟩, BEL.out.trans (b2.mono BEL.out.size)⟩
    | false =>
      rw [hb] at QK hsn
      clear hb hany
      go_wp2_with (first
        | (refine wpList_load_at rfl 78 _ rfl (a.add (k * 6)) rfl C _ HAC.out Tryd.underlying78 rfl HCL.out ?_)
        | (go_at_call 38; refine QK.out.mono ?_; rintro e w2 ⟨rfl, b2⟩))
      go_roundw
      case rel => exact ⟨k + 1, by omega, by go_num, hsn.out, BEL.out.trans (b2.mono BEL.out.size)⟩
      case measure => simp [intOf]; omega
  · have dk : decide ((k : Int) < (L.length : Int)) = false := decide_eq_false (by omega)
    have dk2 : decide (k < L.length) = false := decide_eq_false hlt
    obtain rfl : k = L.length := by omega
    rw [List.take_length] at HPRE
    go_wp2_with fail
    go_ret
    exact ⟨⟨_, rfl, by rw [HPRE.out]; decide⟩, BEL.out⟩
set_option maxHeartbeats 1000000 in
set_option maxRecDepth 100000 in
theorem containsPairs_any (L : List PD) (LN LD E : Nat) (op ol om : Option Addr) (cp cl cm : Nat) (ps : Value) (w : World) (hE : w.heap[E]? = some (.cells #[ps, .slice ol (dig LN).length cl, .slice om (dig LD).length cm] 73 (0, 0))) (hps : PsAt w op L) (hl : LFr w LN LD ol om) (hLl : L.length < 9223372036854775808) (hs : ∀ p ∈ L, (dig p.a).length < 274877906944 ∧ (dig p.b).length < 274877906944) (l3 : (dig LN).length < 274877906944) (l4 : (dig LD).length < 274877906944) :
    Calls Tryd.prog 37 #[.slice op L.length cp, .func (.func 38) #[] #[.pointer (some ⟨E, 0, none⟩)]] w fun e w' => e = .returned (.bool (L.any (notP LN LD))) ∧ Below w.heap.size w w' := by
  have Q := Lib.hid (indexPairs_any L LN LD E op ol om cp cl cm ps w hE hps hl hLl hs l3 l4)
  clear hE hps hl hLl hs l3 l4
  generalize L.any (notP LN LD) = b at *
  go_enter Tryd.func37, Tryd.ntmps37
  go_wp2_with (go_at_call 74; refine Q.out.mono ?_; rintro e w1 ⟨⟨r, rfl, hr⟩, b1⟩)
  go_ret
  exact ⟨rfl, b1⟩
/-- a watch of which all pairs are settled -/
def settledW (A B : List Int) (S O : List (Bytes × Bytes)) (N D : Bytes) : Bool := rightW A B S O N D 12 && (List.range A.length).all (fun k => doneW (fAt O k) N D)
theorem settled_pairs {A B : List Int} {S O : List (Bytes × Bytes)} {N D : Bytes} {L : List PD} (hl : L.length = A.length) (hm : PMatch A B S O L) (hD : 0 < dv D) : (!L.any (notP (limN (dv N) (dv D)) (limD (dv N) (dv D)))) = (List.range A.length).all (fun k => doneW (fAt O k) N D) := by
  have hnot : ∀ k (h : k < L.length), notP (limN (dv N) (dv D)) (limD (dv N) (dv D)) L[k] = !doneW (fAt O k) N D := fun k h => by
    obtain ⟨_, _, _, _, ha, hb⟩ := hm k L[k] (by simp [h])
    unfold notP
    rw [ha, hb, done_aud hD]
  rw [List.any_eq_not_all_not, Bool.not_not]
  apply Bool.eq_iff_iff.2
  rw [List.all_eq_true, List.all_eq_true]
  constructor
  · intro h k hk
    have hk2 : k < L.length := by rw [hl]; exact List.mem_range.1 hk
    have := h L[k] (List.getElem_mem hk2)
    rw [hnot k hk2] at this
    simpa using this
  · intro h p hp
    obtain ⟨k, hk, rfl⟩ := List.getElem_of_mem hp
    rw [hnot k hk]
    have := h k (List.mem_range.2 (by rw [← hl]; exact hk))
    simpa using this
theorem pairs_small {A B : List Int} {S O : List (Bytes × Bytes)} {N D : Bytes} {n : Int} {L : List PD} {K : Nat} (hR : RightW A B S O N D n) (hl : L.length = A.length) (hm : PMatch A B S O L) (hK : Short O K) : ∀ p ∈ L, (dig p.a).length ≤ K ∧ (dig p.b).length ≤ K := by
  intro p hp
  obtain ⟨k, hk, rfl⟩ := List.getElem_of_mem hp
  obtain ⟨_, _, _, _, ha, hb⟩ := hm k L[k] (by simp [hk])
  have P := hR.ok k (by omega)
  obtain ⟨m1, m2, _, _, _⟩ := frB_good P.o
  have hs := hK k (by rw [hR.lo]; omega)
  rw [ha, hb]
  exact ⟨Nat.le_trans (limbs_dv _ ((numB_iff _).1 m1).2.1) hs.1, Nat.le_trans (limbs_dv _ ((numB_iff _).1 m2).2.1) hs.2⟩
theorem lim_small {N D : Bytes} (h : riskE N D = 0) : (dig (limN (dv N) (dv D))).length ≤ 100 ∧ (dig (limD (dv N) (dv D))).length ≤ 100 ∧ 0 < dv D ∧ 0 < dv N := by
  have hf : frB 100 N D = true := by
    cases hf : frB 100 N D
    · unfold riskE at h; rw [hf] at h; cases h
    · rfl
  have hN0 : dv N ≠ 0 := fun h0 => by unfold riskE at h; rw [hf, if_pos rfl, if_pos (.inl h0)] at h; cases h
  obtain ⟨n1, n2, hD0, _, _⟩ := frB_good hf
  have hsl := frB_len hf
  have e1 : (dig (dv N)).length ≤ 100 := Nat.le_trans (limbs_dv N ((numB_iff N).1 n1).2.1) hsl.1
  have e2 : (dig (dv D)).length ≤ 100 := Nat.le_trans (limbs_dv D ((numB_iff D).1 n2).2.1) hsl.2
  exact ⟨Nat.le_trans (length_dig_le _ _ (Nat.lt_of_le_of_lt (limN_le _ _) (lt_pow_length _))) e2, Nat.le_trans (length_dig_le _ _ (Nat.lt_of_le_of_lt (limD_le _ _) (lt_pow_length _))) e1, hD0, by omega⟩
set_option maxHeartbeats 2000000 in
set_option maxRecDepth 100000 in
theorem audSettled_any (A B : List Int) (S O : List (Bytes × Bytes)) (N D : Bytes) (dr : Int) (o0 o1 o2 o3 : Option Addr) (c0 c1 c2 c3 : Nat) (w : World) (hW : WAt w o0 o1 o2 o3 A B S O) (lA : A.length < 140737488355) (hN : N.length < 140737488355328) (hD : D.length < 140737488355328) (lS : Short S 140737488355327) (lO : Short O 99999999) :
    Calls Tryd.prog 11 #[.agg #[.slice o0 A.length c0, .slice o1 B.length c1, .slice o2 S.length c2, .slice o3 O.length c3, .string ⟨N.toArray⟩, .string ⟨D.toArray⟩, .int .i64 dr]] w fun e w' => e = .returned (.bool (settledW A B S O N D)) ∧ Below w.heap.size w w' := by
  have QR := Lib.hid (fun w h => audRead_any A B S O N D dr 12 o0 o1 o2 o3 c0 c1 c2 c3 w h lA hN hD lS (lO.mono (by decide)) (by decide))
  unfold RdGot at QR
  have HR0 := Lib.hid (fun (h : rightW A B S O N D 12 = false) => (show settledW A B S O N D = false by unfold settledW; rw [h]; rfl))
  have HR1 := Lib.hid (fun (h : rightW A B S O N D 12 = true) (L : List PD) (hl : L.length = A.length) (hm : PMatch A B S O L) => (show (settledW A B S O N D = !L.any (notP (limN (dv N) (dv D)) (limD (dv N) (dv D)))) ∧ (∀ p ∈ L, (dig p.a).length ≤ 99999999 ∧ (dig p.b).length ≤ 99999999) ∧ (dig (limN (dv N) (dv D))).length ≤ 100 ∧ (dig (limD (dv N) (dv D))).length ≤ 100 by
    have hR := rightW_iff.1 h
    have hL := lim_small hR.risk
    refine ⟨?_, pairs_small hR hl hm lO, hL.1, hL.2.1⟩
    unfold settledW
    rw [h, Bool.true_and, settled_pairs hl hm hL.2.2.1]))
  generalize rightW A B S O N D 12 = R at *
  generalize settledW A B S O N D = T at *
  have HS := Lib.hid size_awatch
  have HW := Lib.hid hW
  clear hW hN hD lS lO
  go_enter Tryd.func11, Tryd.ntmps11
  go_upto_region 1 with (fail)
  generalize hB : w.heap.size = B0 at *
  refine wp_abs (fun w1 => Below B0 w w1 ∧ w1.heap[B0]? = some (.cells #[.slice o0 A.length c0, .slice o1 B.length c1, .slice o2 S.length c2, .slice o3 O.length c3, .string ⟨N.toArray⟩, .string ⟨D.toArray⟩, .int .i64 dr] 27 (0, 0))) ⟨by rw [← hB]; exact (Below.refl _ _).alloc (Nat.le_refl _) _, by rw [← hB]; exact heap_at rfl⟩ (fun w1 hw1 => ?_)
  have HB := Lib.hid hB
  have B1 := Lib.hid hw1.1
  have HC1 := Lib.hid hw1.2
  have hb1 : B0 < w1.heap.size := lt_of_heap hw1.2
  clear hw1 hB
  go_upto_region 2 with (first
    | (refine wpList_load_whole rfl 27 _ rfl B0 _ _ _ _ rfl HC1.out Tryd.underlying27 rfl size_watch ?_)
    | (go_at_call 36; refine (QR.out w1 (HW.out.below (HB.out ▸ B1.out))).mono ?_; rintro e w2 ⟨op, np, cp, ol, nl, cl, om, nm, cm, rfl, hg, b2⟩)
    | (refine wpList_store_whole rfl rfl 73 _ _ rfl w2.heap.size #[.slice none 0 0, .slice none 0 0, .slice none 0 0] #[.slice op np cp, .slice ol nl cl, .slice om nm cm] 73 rfl rfl (heap_at rfl) rfl HS.out (three_one _ _ _ rfl rfl rfl) ?_; intro w3 ho hp))
  have b23 : Below w2.heap.size w2 w3 := bel_only ((Below.refl _ _).alloc (Nat.le_refl _) _) ho (Nat.le_refl _)
  have b13 := b2.trans (b23.mono b2.size)
  have B3 := Lib.hid (B1.out.trans (b13.mono (Nat.le_of_lt hb1)))
  have HP3 := Lib.hid hp
  have HG3 := Lib.hid hg
  have BB := Lib.hid b23
  have h23 : w2.heap.size < w3.heap.size := lt_of_heap hp
  have HB3 : B0 ≤ w3.heap.size := by have := B3.out.size; have := HB.out; omega
  clear ho hp hg b2 b23 b13
  cases hR : R with
  | false =>
    have hT := Lib.hid (HR0.out hR)
    go_wp2_with fail
    go_ret
    exact ⟨by rw [hT.out]; rfl, by rw [HB.out]; exact B3.out⟩
  | true =>
    obtain ⟨L, rfl, hL, hM, hPS, rfl, rfl, hLF⟩ := HG3.out hR
    obtain ⟨hT, hs, l1, l2⟩ := HR1.out hR L hL hM
    have HT := Lib.hid hT
    have HPS := Lib.hid (hPS.below BB.out)
    have HLF := Lib.hid (hLF.below BB.out)
    have QC := Lib.hid (containsPairs_any L _ _ _ op ol om cp cl cm _ w3 HP3.out HPS.out HLF.out (by omega) (fun p hp => by have := hs p hp; omega) (by omega) (by omega))
    generalize limN (dv N) (dv D) = LN at *
    generalize limD (dv N) (dv D) = LD at *
    clear hT hs l1 l2 hPS hLF hM hL HG3 BB
    have x0 : w3.cell? ⟨w2.heap.size, 0, none⟩ = some (.slice op L.length cp) := cell_of_row w3 _ 0 _ _ _ HP3.out
    generalize w2.heap.size = E at *
    go_wp2_with (go_at_call 37; refine QC.out.mono ?_; rintro e w4 ⟨rfl, b4⟩)
    go_ret
    exact ⟨by rw [HT.out]; rfl, by rw [HB.out]; exact B3.out.trans (b4.mono HB3)⟩
end Go.Proofs.YtlbdcgnpkapncaaDoor
