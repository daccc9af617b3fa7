/-
  The reference's Sample.
-/
import Derived.Test.YtkkpfoidppjbdaaNSamp
import Derived.Test.YtkkpfoidppjbdaaFJoined
import Derived.Lib.OthersKept
namespace Go.Proofs.Ytkkpfoidppjbdaa
set_option linter.unusedVariables false
open Go.RowKit ML ND FM

/-- a decimal text's value -/
def decV (F : Bytes) : Nat := F.foldl (fun k c => 10 * k + (c.toNat - 48)) 0
theorem decV_snoc (F : Bytes) (p : Nat) (h : p < F.length) : decV (F.take (p + 1)) = 10 * decV (F.take p) + (F[p].toNat - 48) := by
  unfold decV
  rw [List.take_succ_eq_append_getElem h, List.foldl_append]
  rfl
theorem foldl_ge (F : Bytes) : ∀ k : Nat, k ≤ F.foldl (fun k c => 10 * k + (c.toNat - 48)) k := by
  induction F with
  | nil => intro k; exact Nat.le_refl _
  | cons c r ih => intro k; exact Nat.le_trans (by omega) (ih (10 * k + (c.toNat - 48)))
theorem decV_take_le (F : Bytes) (p : Nat) : decV (F.take p) ≤ decV F := by
  conv => rhs; rw [← List.take_append_drop p F]
  unfold decV
  rw [List.foldl_append]
  exact foldl_ge _ _
theorem decV_digits (L : List Nat) (h : AllD L) : decV (L.reverse.map fun d => UInt8.ofNat (d + 48)) = val L := by
  induction L with
  | nil => rfl
  | cons d r ih =>
    have hd := h d (List.mem_cons_self ..)
    have hr : AllD r := fun x hx => h x (List.mem_cons_of_mem _ hx)
    have e := ih hr
    unfold decV at e ⊢
    rw [List.reverse_cons, List.map_append, List.foldl_append, e]
    have : (UInt8.ofNat (d + 48)).toNat = d + 48 := by simp; omega
    simp only [List.map_cons, List.map_nil, List.foldl_cons, List.foldl_nil, this, val]
    omega
theorem decV_strD (n : Nat) : decV (strD n) = n := by
  unfold strD digB
  split
  · rename_i h; subst h; rfl
  · rw [decV_digits _ (all_dig n), val_dig]
theorem strD_digit (n i : Nat) (h : i < (strD n).length) : 48 ≤ ((strD n)[i]).toNat ∧ ((strD n)[i]).toNat < 58 := by
  have hm : (strD n)[i] ∈ strD n := List.getElem_mem h
  revert hm
  generalize (strD n)[i] = c
  unfold strD digB
  split
  · intro hm
    have : c = 48 := by simpa using hm
    subst this; decide
  · intro hm
    obtain ⟨d, hd, rfl⟩ := List.mem_map.1 hm
    have := all_dig n d (List.mem_reverse.1 hd)
    have e : (UInt8.ofNat (d + 48)).toNat = d + 48 := by simp; omega
    rw [e]; omega
theorem byVal_lt (D : Bytes) : ∀ k, byVal (D.take k) < 256 ^ k := by
  intro k
  induction k with
  | zero => simp [byVal]
  | succ k ih =>
    by_cases h : k < D.length
    · rw [byVal_snoc D k h, Nat.pow_succ]
      have := byteN_lt D k
      omega
    · rw [List.take_of_length_le (by omega)]
      rw [List.take_of_length_le (by omega)] at ih
      exact Nat.lt_of_lt_of_le ih (Nat.pow_le_pow_right (by decide) (by omega))
theorem digs_byVal (D : Bytes) (k : Nat) (h : k ≤ 32) : (dig (byVal (D.take k))).length ≤ 78 := by
  refine length_dig_le _ _ (Nat.lt_of_lt_of_le (byVal_lt D k) (Nat.le_trans (Nat.pow_le_pow_right (by decide) h) (by decide)))
set_option maxHeartbeats 4000000 in
set_option maxRecDepth 100000 in
theorem refSample_any (S : Bytes) (t n : Int) (w : World) (hS : S.length < 1152921504606846976) :
    Calls Try.prog 5 #[.string ⟨S.toArray⟩, .int .i64 t, .int .i64 n] w fun e w' => ∃ oa cap, e = .returned (.tuple #[.slice oa (sampR S t n).length cap, .int .i64 (sampE t n)]) ∧ IntsAt w' oa (sampR S t n) ∧ Below w.heap.size w w' := by
  obtain ⟨i0, hi, hz0, hz1, hz2⟩ := info_parts info_int
  have HI := Lib.hid hi
  have HZ0 := Lib.hid hz0
  have HZ1 := Lib.hid hz1
  have HZ2 := Lib.hid hz2
  clear hi hz0 hz1 hz2
  go_enter Try.func5, Try.ntmps5
  by_cases hok : ¬ SampOk t n
  · have hR := Lib.hid (show sampR S t n = [] from if_neg hok)
    have hE := Lib.hid (show sampE t n = 4 from if_neg hok)
    have h4 : t < 1 ∨ (¬ t < 1 ∧ 1048576 < t) ∨ (¬ t < 1 ∧ ¬ 1048576 < t ∧ n < 0) ∨ (¬ t < 1 ∧ ¬ 1048576 < t ∧ ¬ n < 0 ∧ 1024 < n) := by
      unfold SampOk at hok
      omega
    clear hok
    rcases h4 with h | ⟨h1, h⟩ | ⟨h1, h2, h⟩ | ⟨h1, h2, h3, h⟩
    all_goals (
      go_wp2_with fail
      go_ret2
      rw [hR.out, hE.out]
      first | exact ⟨none, 0, rfl, IntsAt.nil, Below.refl _ _⟩ | exact ⟨none, ⟨0, rfl⟩, IntsAt.nil, Below.refl _ _⟩)
  have hok2 := Decidable.not_not.1 hok
  obtain ⟨⟨ht1, ht2⟩, hn1, hn2⟩ := hok2
  obtain ⟨T, rfl⟩ := Int.eq_ofNat_of_zero_le (show 0 ≤ t by omega)
  obtain ⟨m, rfl⟩ := Int.eq_ofNat_of_zero_le hn1
  have hR := Lib.hid (show sampR S (T : Int) (m : Int) = sampL S T m from if_pos ⟨⟨ht1, ht2⟩, hn1, hn2⟩)
  have hE := Lib.hid (show sampE (T : Int) (m : Int) = 0 from if_pos ⟨⟨ht1, ht2⟩, hn1, hn2⟩)
  have g1 : ¬ (T : Int) < 1 := by omega
  have g2 : ¬ 1048576 < (T : Int) := by omega
  have g3 : ¬ (m : Int) < 0 := by omega
  have g4 : ¬ 1024 < (m : Int) := by omega
  have hT0 : 0 < T := by omega
  clear hok
  go_upto_region 5 with (fail)
  go_loopw [8, 9] (fun v i wr => ∃ k : Nat, k ≤ m ∧ i = .int .i64 k ∧ Below w.heap.size w wr ∧ wr.ownsRow w.heap.size 3 1 v k (nvals (sampL S T k))) (fun _ i _ => m - (intOf i).toNat)
  case atStart => exact ⟨0, by omega, rfl, Below.refl _ _, World.ownsRow_nil _ _ _ _⟩
  case round =>
  obtain ⟨k, hk, rfl, bel, own⟩ := hrel
  by_cases hlt : k < m
  · have hd : decide ((k : Int) < (m : Int)) = true := by simp; omega
    have QF := Lib.hid (refFour_any k wr (by omega))
    have QT := Lib.hid (fun (g : Nat) (w5 : World) (h : w5.heap[g]? = some (.cells #[.string ⟨S.toArray⟩, .string ⟨(fourN k).toArray⟩] 9 (0, 0))) =>
      refTag_any sampleS (some ⟨g, 0, none⟩) [S, fourN k] 2 w5 (strsAt_two h) (by rw [length_joinS]; omega) (by show 2 < 9223372036854775807; decide))
    have hbw : w.heap.size ≤ wr.heap.size := bel.size
    have hbl := Lib.hid (length_blockS S k)
    have hsv := Lib.hid (show sampV S T k = byVal (blockS S k) % T from rfl)
    rw [show digestL [] (joinL sampleS [S, fourN k]) = blockS S k from rfl] at QT
    have Q0 := Lib.hid (fun w => refOf_any 0 w (by decide))
    generalize blockS S k = D at *
    go_upto_region 10 with (first
      | (go_at_call 11; refine QF.out.mono ?_; rintro e w5 ⟨rfl, hb5⟩)
      | (go_at_call 10; refine (QT.out w5.heap.size _ (heap_at rfl)).mono ?_; rintro e w6 ⟨rfl, hb6⟩)
      | (go_at_call 12; refine (Q0.out _).mono ?_; rintro e w7 ⟨oc0, cc0, rfl, hI0, hb7⟩))
    have hb6' : Below w5.heap.size w5 w6 := ((Below.refl _ _).alloc (Nat.le_refl _) _).trans (hb6.mono (by simp))
    have b7 : Below wr.heap.size wr w7 := (hb5.trans (hb6'.mono hb5.size)).trans (hb7.mono (Nat.le_trans hb5.size hb6'.size))
    have own7 := Lib.hid (own_below own b7)
    have bel7 := Lib.hid (bel.trans (b7.mono hbw))
    have hBw7 : w.heap.size ≤ w7.heap.size := Nat.le_trans hbw b7.size
    have hDs := size_mk D
    have HI0 := Lib.hid hI0
    clear own bel QF QT hb5 hb6 hb6' hb7 b7 Q0 hI0
    go_loopw [11, 45] (fun x j wi => ∃ (k : Nat) (oc : Option Addr) (cc : Nat), k ≤ 32 ∧ j = .int .i64 k ∧ x = .slice oc (dig (byVal (D.take k))).length cc ∧ IntsAt wi oc (dig (byVal (D.take k))) ∧ Below w7.heap.size w7 wi) (fun _ j _ => 32 - (intOf j).toNat)
    case atStart => exact ⟨0, oc0, cc0, by omega, rfl, rfl, HI0.out, Below.refl _ _⟩
    case round =>
    obtain ⟨j, oc, cc, hj, rfl, rfl, hIx, beli⟩ := hrel
    clear HI0
    have hx78 := digs_byVal D j hj
    by_cases hj32 : j < 32
    · have hjl : j < D.length := by have := hbl.out; omega
      have hdj : decide ((j : Int) < ((List.length D : Nat) : Int)) = true := by simp; omega
      have hj0 : (0 : Int) ≤ j := by omega
      have hjs : (j : Int) < ((ByteArray.mk D.toArray).size : Int) := by rw [hDs]; omega
      have hjd : (j : Int) < ((List.length D : Nat) : Int) := by omega
      have hbv := Lib.hid (byVal_snoc D j hjl)
      have hc8 : byteN D j < 256 := byteN_lt D j
      have hcb : ∀ h, (((ByteArray.mk D.toArray)[j]'h).toNat : Int) = (byteN D j : Int) := fun h => by
        unfold byteN
        rw [List.getD_eq_getElem?_getD, List.getElem?_eq_getElem hjl]
        rfl
      have QO := Lib.hid (refOf_any 256 wr.drew (by decide))
      have h256 : (dig 256).length ≤ 3 := length_dig_le 256 3 (by decide)
      have hcd : (dig (byteN D j)).length ≤ 3 := length_dig_le _ 3 (by omega)
      have HIX := Lib.hid hIx
      clear hIx
      have hX := Lib.hid (byVal_lt D j)
      generalize hXX : byVal (D.take j) = X at *
      have hp78 : (dig (X * 256)).length ≤ 80 := by
        refine length_dig_le _ _ ?_
        have h1 := hX.out
        have h2 : 256 ^ j ≤ 256 ^ 32 := Nat.pow_le_pow_right (by decide) hj
        have h3 : 256 ^ 32 * 256 ≤ 10 ^ 80 := by decide
        exact Nat.lt_of_lt_of_le (Nat.mul_lt_mul_of_pos_right (Nat.lt_of_lt_of_le h1 h2) (by decide)) h3
      generalize byteN D j = c at *
      go_upto_region 12 with (fail)
      refine Seg.wp_region_segs (fun w' => ∃ x : BelowT wr.heap.size wr, w' = x.w) [([0, 3, 4, 5, 6], 1), ([], 2)] [] 7 (by kernel_rfl) (by kernel_rfl) (fun _ _ d _ _ h => by cases d <;> exact h) (inB_of ((Below.refl _ _).drew)) ?_
      simp only [List.map_cons, List.map_nil, Seg.opAt, List.drop_succ_cons, List.drop_zero, Seg.wpSegs, Array.getD_eq_getD_getElem?, List.getElem?_toArray, List.getElem?_cons_succ, List.getElem?_cons_zero, Option.getD_some]
      first | go_big_quiet_step (fail) | quiet_step (fail)
      first | go_big_quiet_step (fail) | quiet_step (fail)
      first | go_big_quiet_step (fail) | quiet_step (fail)
      first | go_big_quiet_step (fail) | quiet_step (fail)
      first | go_big_quiet_step (fail) | quiet_step (fail)
      refine wpQuiet_nil ?_
      intro K hK
      simp only [Region.wanted, if_true]
      go_wp2_with (go_at_call 12; refine QO.out.mono ?_; rintro e w8 ⟨o1, c1, rfl, hI8, hb8⟩)
      have hb8' : Below wr.heap.size wr w8 := ((Below.refl _ _).drew).trans hb8
      refine hK _ _ (inB_of hb8') ?_
      clear hK K
      refine wpQuiet_nil ?_
      intro K hK
      simp only [Region.wanted, if_true]
      have QM := Lib.hid (refMul_any X 256 oc o1 cc c1 w8 (HIX.out.below hb8') hI8 (by omega) (by omega))
      go_wp2_with (go_at_call 14; refine QM.out.mono ?_; rintro e w9 ⟨o2, c2, rfl, hI9, hb9⟩)
      have hb9' : Below wr.heap.size wr w9 := hb8'.trans (hb9.mono hb8'.size)
      refine hK _ _ (inB_of hb9') ?_
      clear hK K
      refine wpQuiet_nil ?_
      have QC := Lib.hid (refOf_any c w9 (by omega))
      have QA := Lib.hid (fun (o3 : Option Addr) (c3 : Nat) (w10 : World) (h1 : IntsAt w10 o2 (dig (X * 256))) (h2 : IntsAt w10 o3 (dig c)) => refAdd_any (X * 256) c o2 o3 c2 c3 w10 h1 h2 (by omega) (by omega))
      clear QO QM
      go_upto_region 13 with (first
        | (go_at_call 12; refine QC.out.mono ?_; rintro e w10 ⟨o3, c3, rfl, hI10, hb10⟩)
        | (go_at_call 13; refine (QA.out o3 c3 w10 (hI9.below hb10) hI10).mono ?_; rintro e w11 ⟨o4, c4, rfl, hI11, hb11⟩))
      have hb11' : Below wr.heap.size wr w11 := (hb9'.trans (hb10.mono hb9'.size)).trans (hb11.mono (Nat.le_trans hb9'.size hb10.size))
      have beli11 := beli.trans (hb11'.mono beli.size)
      rw [show X * 256 + c = byVal (D.take (j + 1)) by rw [hbv.out, Nat.mul_comm]] at hI11 ⊢
      clear QC QA hb11' hb11 hb10 hI10 hb9' hb9 hI9 hb8' hb8 hI8 beli HIX
      go_wp2_with fail
      go_roundw
      case rel => exact ⟨j + 1, o4, c4, by omega, by go_num, rfl, hI11, beli11⟩
      case measure => simp [intOf]; omega
    · have hdj : decide ((j : Int) < ((List.length D : Nat) : Int)) = false := by have := hbl.out; simp; omega
      obtain rfl : j = 32 := by omega
      rw [List.take_of_length_le (by have := hbl.out; omega)] at hIx hx78 ⊢
      obtain ⟨X, hX⟩ : ∃ X, X = byVal D := ⟨_, rfl⟩
      rw [← hX] at hIx hx78 ⊢
      rw [← hX] at hsv
      have hle : ¬ (32 : Int) < ((List.length D : Nat) : Int) := by have := hbl.out; omega
      have QO := Lib.hid (refOf_any T wr (by omega))
      have hT7 : (dig T).length ≤ 7 := length_dig_le T 7 (by omega)
      have hR7 : (dig (X % T)).length ≤ 7 := length_dig_le _ 7 (by have := Nat.mod_lt X hT0; omega)
      have QD := Lib.hid (fun (o3 : Option Addr) (c3 : Nat) (w10 : World) (h1 : IntsAt w10 oc (dig X)) (h2 : IntsAt w10 o3 (dig T)) => refDiv_any X T oc o3 cc c3 w10 hT0 h1 h2 (by omega) (by omega))
      have HIX := Lib.hid hIx
      clear hIx hX
      go_upto_region 15 with (first
        | (go_at_call 12; refine QO.out.mono ?_; rintro e w8 ⟨o1, c1, rfl, hI8, hb8⟩)
        | (go_at_call 15; refine (QD.out o1 c1 w8 (HIX.out.below hb8) hI8).mono ?_; rintro e w9 ⟨oq, cq, ors, crs, rfl, hIq, hIr, hb9⟩))
      have QTx := Lib.hid (refText_any (X % T) ors crs w9 hIr (by omega))
      have bel9 : Below w7.heap.size w7 w9 := (beli.trans (hb8.mono beli.size)).trans (hb9.mono (Nat.le_trans beli.size hb8.size))
      clear QO QD HIX hI8 hb8 hb9 beli hIq hIr
      have hsr := Lib.hid (decV_strD (X % T))
      have hdg := Lib.hid (strD_digit (X % T))
      have hsl : (strD (X % T)).length ≤ 7 := by unfold strD; split; (· simp); rw [length_digB]; exact hR7
      have hrT : X % T < T := Nat.mod_lt _ hT0
      generalize hr : X % T = r at *
      generalize strD r = F at *
      go_upto_region 17 with (go_at_call 16; refine QTx.out.mono ?_; rintro e w10 ⟨rfl, hb10⟩)
      have bel10 : Below w7.heap.size w7 w10 := bel9.trans (hb10.mono bel9.size)
      have hFs := size_mk F
      obtain ⟨g, hg⟩ : ∃ g, g = w10.heap.size := ⟨_, rfl⟩
      refine wp_abs (fun w11 => Below g w10 w11 ∧ w11.heap[g]? = some (.stringIter ⟨F.toArray⟩ 0)) ⟨by rw [hg]; exact (Below.refl _ _).alloc (Nat.le_refl _) _, by rw [hg]; exact World.iter_heap w10 ⟨F.toArray⟩ 0⟩ (fun w11 hw11 => ?_)
      obtain ⟨bel11, hit11⟩ := hw11
      rw [← hg]
      have hgw : w7.heap.size ≤ g := by rw [hg]; exact bel10.size
      have HG := Lib.hid hg
      have HFs := Lib.hid hFs
      clear hg hFs bel9 hb10 QTx hr
      go_loopw [15] (fun v wi => ∃ q : Nat, q ≤ F.length ∧ v = .int .i64 ((decV (F.take q) : Nat) : Int) ∧ wi.heap[g]? = some (.stringIter ⟨F.toArray⟩ q) ∧ Below g w10 wi) (fun _ wi => match wi.heap[g]? with | some (.stringIter _ q) => F.length - q | _ => 0)
      case atStart => exact ⟨0, by omega, rfl, hit11, bel11⟩
      case round =>
      obtain ⟨q, hq, rfl, hit, beli⟩ := hrel
      clear bel11 hit11
      by_cases hqF : q < F.length
      · have hps : q < (ByteArray.mk F.toArray).size := by rw [HFs.out]; exact hqF
        obtain ⟨hc1, hc2⟩ := hdg.out q hqF
        have hdv := Lib.hid (decV_snoc F q hqF)
        have hle1 : decV (F.take q) ≤ r := by have h := decV_take_le F q; rw [hsr.out] at h; exact h
        have hnx0 : ∀ ty, (Instr.next (.pointer (some ⟨g, 0, none⟩)) true ty).run Try.prog wr = .ok (.tuple #[.bool true, .int .i64 (q : Int), .int .i32 ((F[q].toNat : Nat) : Int)]) (wr.iterAt g ⟨F.toArray⟩ (q + 1)) := fun ty => by
          have h := Lib.run_next_ascii_at (P := Try.prog) wr g ⟨F.toArray⟩ q ty hit hps (by show F[q].toNat < 128; omega)
          exact h
        have hit2 := Lib.hid (Lib.iterAt_heap wr g ⟨F.toArray⟩ q (q + 1) hit)
        have bel2 := Lib.hid (Lib.below_iterAt beli (k := g) (Nat.le_refl _) ⟨F.toArray⟩ (q + 1))
        have HIT := Lib.hid hit
        clear hit
        generalize hk0 : decV (F.take q) = kk at *
        generalize hc0 : F[q].toNat = c at *
        generalize wr.iterAt g ⟨F.toArray⟩ (q + 1) = w12 at *
        have hkT : (kk : Int) ≤ 1048576 := by omega
        go_wp2_with fail
        go_roundw
        case rel =>
          refine ⟨q + 1, by omega, ?_, hit2.out, bel2.out⟩
          rw [hdv.out]
          congr 1
          omega
        case measure =>
          rw [hit2.out, HIT.out]
          show F.length - (q + 1) < F.length - q
          omega
      · have hps : ¬ q < (ByteArray.mk F.toArray).size := by rw [HFs.out]; exact hqF
        have hnx0 : ∀ ty, (Instr.next (.pointer (some ⟨g, 0, none⟩)) true ty).run Try.prog wr = .ok (.tuple #[.bool false]) wr := fun ty => Lib.run_next_end_at (P := Try.prog) wr g ⟨F.toArray⟩ q ty hit hps
        have hFq : F.take q = F := List.take_of_length_le (by omega)
        rw [hFq, hsr.out]
        have belw : Below w7.heap.size w7 wr := bel10.trans (beli.mono hgw)
        have own9 := Lib.hid (own_below own7.out belw)
        have bel9 := Lib.hid (bel7.out.trans (belw.mono hBw7))
        have hBw9 : w.heap.size ≤ wr.heap.size := Nat.le_trans hBw7 belw.size
        have hs1 := Lib.hid (sampL_succ S T k)
        rw [hsv.out] at hs1
        clear hit hps hFq belw beli bel10 own7 bel7 hle
        go_upto_region 6 with (at_builtin; refine wpList_append_own _ rfl (.tmp 77) (.tmp 79) 22 rfl w.heap.size 3 i0 (.int .i64 0) 1 8 Try.underlying22 HI.out HZ0.out HZ1.out HZ2.out rfl (by decide) u8 k (nvals (sampL S T k)) rfl (own9.out.alloc _) ⟨wr.heap.size, 0, none⟩ 1 1 (nvals [r]) rfl rfl ?c1 ?c2 ?c3 ?c4 ?c5 ?_)
        case c1 => exact news_nvals wr [r] _ _ rfl
        case c2 => exact nvals_one _
        case c3 => unfold maxLen; omega
        case c4 => omega
        case c5 => first | omega | (simp; omega)
        intro v13 w13 own13 hg13 _
        have bel13 : Below w.heap.size w w13 := (bel9.out.alloc hBw9 _).grown hg13 (by simp; omega) (fun q hq => (own9.out.lt q hq).1)
        rw [nvals_append, ← hs1.out] at own13
        have OWN13 := Lib.hid own13
        clear own13 own9 hg13 bel9
        go_wp2_with fail
        go_roundw
        case rel => exact ⟨k + 1, by omega, by go_num, bel13, OWN13.out⟩
        case measure => simp [intOf]; omega
  · have hd : decide ((k : Int) < (m : Int)) = false := by simp; omega
    obtain rfl : k = m := by omega
    obtain ⟨oa, cap, rfl, _, _, hI⟩ := intsAt_own own
    have hll : (sampL S T k).length = k := length_sampL _ _ _
    have HII := Lib.hid hI
    clear own hI
    go_wp2_with fail
    go_ret2
    rw [hR.out, hE.out]
    exact ⟨oa, cap, rfl, HII.out, bel⟩
end Go.Proofs.Ytkkpfoidppjbdaa
