/-
  Chapter 13, for Pairs: slices.Contains, count.Smith. Printed by tools/gensmith.py.
-/
import Derived.Test.YtnohcdpnnhmpfaaGreatDoorCtZ
import Derived.Test.YtnohcdpnnhmpfaaGreatDoorBPl
import Derived.Test.YtnohcdpnnhmpfaaGreatDoorCtSo
namespace Go.Proofs.YtnohcdpnnhmpfaaGreatDoor
set_option linter.unusedVariables false
set_option linter.unusedSimpArgs false
open Go.RowKit ML FM AU CT

def memI (L : List Int) (v : Int) : Bool := decide (v ∈ L)
set_option maxHeartbeats 1000000 in
set_option maxRecDepth 100000 in
theorem index_any (oa : Option Addr) (L : List Int) (cap : Nat) (v : Int) (w : World) (h : IsAt w oa L) (hl : L.length < 9223372036854775808) :
    Calls Tryz.prog 110 #[.slice oa L.length cap, .int .i64 v] w fun e w' => (∃ r : Int, e = .returned (.int .i64 r) ∧ decide (0 ≤ r) = memI L v) ∧ w = w' := by
  have H := Lib.hid h
  clear h
  go_enter Tryz.func110, Tryz.ntmps110
  go_upto_region 2 with (fail)
  go_loop [8] (fun i => ∃ k : Nat, k ≤ L.length ∧ i = .int .i64 k ∧ v ∉ L.take k) (fun i => L.length - (intOf i).toNat)
  case atStart => exact ⟨0, by omega, rfl, by simp⟩
  case round =>
  obtain ⟨k, hk, rfl, hpre⟩ := hrel
  have HP := Lib.hid hpre
  clear hpre
  by_cases hlt : k < L.length
  · have dk : decide ((k : Int) < (L.length : Int)) = true := decide_eq_true (by omega)
    have dk2 : decide (k < L.length) = true := decide_eq_true hlt
    have hki : (k : Int) < (L.length : Int) := by omega
    obtain ⟨a, hoa, hab, hac⟩ := H.out.cells k hlt
    have hsn := Lib.hid (fun (hb : ¬ L[k] = v) => (show v ∉ L.take (k + 1) by
      rw [List.take_succ_eq_append_getElem hlt, List.mem_append, List.mem_singleton]
      exact fun h => h.elim HP.out (fun h => hb h.symm)))
    have hyes := Lib.hid (fun (hb : L[k] = v) => (show memI L v = true from decide_eq_true (hb ▸ List.getElem_mem hlt)))
    subst hoa
    generalize L[k] = x at *
    by_cases hb : x = v
    · have d1 : (v == x) = true := by rw [beq_iff_eq]; exact hb.symm
      have h2 := Lib.hid (hyes.out hb)
      clear hb hsn hyes
      go_wp2_with fail
      go_ret
      exact ⟨⟨_, rfl, by rw [h2.out]; exact decide_eq_true (by omega)⟩, rfl⟩
    · have d1 : (v == x) = false := by rw [beq_eq_false_iff_ne]; exact fun h => hb h.symm
      have h2 := Lib.hid (hsn.out hb)
      clear hb hsn hyes
      go_wp2_with fail
      go_round
      case rel => exact ⟨k + 1, by omega, by go_num, h2.out⟩
      case measure => simp [intOf]; omega
  · have dk : decide ((k : Int) < (L.length : Int)) = false := decide_eq_false (by omega)
    have dk2 : decide (k < L.length) = false := decide_eq_false hlt
    obtain rfl : k = L.length := by omega
    rw [List.take_length] at HP
    have h2 := Lib.hid (show memI L v = false from decide_eq_false HP.out)
    go_wp2_with fail
    go_ret
    exact ⟨⟨_, rfl, by rw [h2.out]; decide⟩, rfl⟩
set_option maxHeartbeats 1000000 in
set_option maxRecDepth 100000 in
theorem contains_any (oa : Option Addr) (L : List Int) (cap : Nat) (v : Int) (w : World) (h : IsAt w oa L) (hl : L.length < 9223372036854775808) :
    Calls Tryz.prog 63 #[.slice oa L.length cap, .int .i64 v] w fun e w' => e = .returned (.bool (memI L v)) ∧ w = w' := by
  have Q := Lib.hid (index_any oa L cap v w h hl)
  clear h hl
  generalize memI L v = b at *
  go_enter Tryz.func63, Tryz.ntmps63
  go_wp2_with (go_at_call 110; refine Q.out.mono ?_; rintro e w1 ⟨⟨r, rfl, hr⟩, rfl⟩)
  go_ret
  exact ⟨rfl, rfl⟩
def natI (D : List Nat) : List Int := D.map fun k : Nat => (k : Int)
theorem length_natI (D : List Nat) : (natI D).length = D.length := by simp [natI]
theorem natI_snoc (D : List Nat) (k : Nat) : natI (D ++ [k]) = natI D ++ [(k : Int)] := by simp [natI]
theorem natI_get (D : List Nat) (k : Nat) (h : k < (natI D).length) : (natI D)[k] = ((D[k]'(by rwa [length_natI] at h) : Nat) : Int) := by simp [natI]
theorem mem_natI (D : List Nat) (j : Nat) : ((j : Int) ∈ natI D) ↔ j ∈ D := by
  unfold natI
  rw [List.mem_map]
  constructor
  · rintro ⟨k, hk, e⟩
    have : k = j := by omega
    exact this ▸ hk
  · intro h; exact ⟨j, h, rfl⟩
def sortN (D : List Nat) : List Nat := D.mergeSort fun a b => decide (a ≤ b)
theorem sortN_perm (D : List Nat) : (sortN D).Perm D := List.mergeSort_perm D _
theorem sortN_srt (D : List Nat) (h : D.Nodup) : (sortN D).Pairwise (· < ·) := by
  have h1 : (sortN D).Pairwise (fun a b => decide (a ≤ b) = true) := List.pairwise_mergeSort (fun a b c h1 h2 => by simp at *; omega) (fun a b => by simp; omega) D
  have h2 : (sortN D).Nodup := (sortN_perm D).nodup_iff.2 h
  exact (h1.and h2).imp (fun {a b} h => by have := of_decide_eq_true h.1; have := h.2; omega)
theorem sortI_nat (D : List Nat) : sortI (natI D) = natI (sortN D) := by
  have h1 : (sortI (natI D)).Perm (natI D) := List.mergeSort_perm _ _
  have h2 : (natI (sortN D)).Perm (natI D) := (sortN_perm D).map _
  have s1 : (sortI (natI D)).Pairwise (fun a b => a ≤ b) := (List.pairwise_mergeSort (le := fun a b : Int => decide (a ≤ b)) (fun a b c h1 h2 => by simp at *; omega) (fun a b => by simp; omega) (natI D)).imp (fun {a b} h => of_decide_eq_true h)
  have s2 : (natI (sortN D)).Pairwise (fun a b => a ≤ b) := by
    unfold natI
    rw [List.pairwise_map]
    exact (List.pairwise_mergeSort (le := fun a b : Nat => decide (a ≤ b)) (fun a b c h1 h2 => by simp at *; omega) (fun a b => by simp; omega) D).imp (fun {a b} h => by have := of_decide_eq_true h; omega)
  exact (h1.trans h2.symm).eq_of_pairwise (fun a b _ _ h1 h2 => by omega) s1 s2
/-- the best so far -/
def BestV (p : Mx) (n B : Nat) (w : World) (v : Value) (i : Nat) : Prop := (i = 0 ∧ v = .slice none 0 0) ∨ ∃ D, BestD p n i D ∧ w.ownsRow B 3 1 v D.length (ivals (natI D))
theorem BestV.grown {p : Mx} {n B : Nat} {w w1 : World} {v : Value} {i : Nat} {row : Option Nat} (h : BestV p n B w v i) (hg : w.grownBy w1 row) (hne : v.ownBlock = none ∨ v.ownBlock ≠ row) : BestV p n B w1 v i := by
  rcases h with h | ⟨D, h1, h2⟩
  · exact .inl h
  · exact .inr ⟨D, h1, h2.kept hg hne⟩
theorem BestV.below {p : Mx} {n B : Nat} {w w1 : World} {v : Value} {i : Nat} (h : BestV p n B w v i) (hb : Below w.heap.size w w1) : BestV p n B w1 v i := by
  rcases h with h | ⟨D, h1, h2⟩
  · exact .inl h
  · exact .inr ⟨D, h1, own_below h2 hb⟩
theorem BestV.lt {p : Mx} {n B : Nat} {w : World} {v : Value} {i : Nat} (h : BestV p n B w v i) : v.ownBlock = none ∨ ∃ k, v.ownBlock = some k ∧ k < w.heap.size := by
  rcases h with ⟨_, h⟩ | ⟨D, h1, h2⟩
  · exact .inl (by rw [h]; rfl)
  · cases hv : v.ownBlock with
    | none => exact .inl rfl
    | some k => exact .inr ⟨k, rfl, (h2.lt k hv).2⟩
/-- what Smith answers -/
def SmithGot (P : List (Value × List Int)) (w : World) (e : Ending) (w' : World) : Prop :=
  Below w.heap.size w w' ∧ if wrE P = 0 then ∃ oo co S, e = .returned (.tuple #[.slice oo (natI S).length co, .int .i64 0]) ∧ IsAt w' oo (natI S) ∧ S.Pairwise (· < ·) ∧ Smallest (mxP P) P.length S
  else e = .returned (.tuple #[.slice none 0 0, .int .i64 (wrE P)])
theorem SmithGot.bad {P : List (Value × List Int)} {w w' : World} (h0 : wrE P ≠ 0) (hb : Below w.heap.size w w') : SmithGot P w (.returned (.tuple #[.slice none 0 0, .int .i64 (wrE P)])) w' := by
  unfold SmithGot
  rw [if_neg h0]
  exact ⟨hb, rfl⟩
theorem SmithGot.ok {P : List (Value × List Int)} {w w' : World} (h0 : wrE P = 0) (hb : Below w.heap.size w w') {oo : Option Addr} {co : Nat} {S : List Nat} (hi : IsAt w' oo (natI S)) (hs : S.Pairwise (· < ·)) (hm : Smallest (mxP P) P.length S) : SmithGot P w (.returned (.tuple #[.slice oo (natI S).length co, .int .i64 0])) w' := by
  unfold SmithGot
  rw [if_pos h0]
  exact ⟨hb, oo, co, S, rfl, hi, hs, hm⟩
theorem small_perm {p : Mx} {n : Nat} {A B : List Nat} (h : A.Perm B) (hs : Smallest p n A) : Smallest p n B :=
  ⟨Dom.perm_iff h hs.dom, fun e => hs.ne (by rw [e] at h; exact h.eq_nil), h.nodup_iff.1 hs.nd, fun C hC hne hn => by rw [← h.length_eq]; exact hs.least C hC hne hn⟩
set_option maxHeartbeats 8000000 in
set_option maxRecDepth 100000 in
theorem smith_any (P : List (Value × List Int)) (ob : Option Addr) (cb : Nat) (w : World) (hP : PsAt w ob P) (hl : P.length < 9223372036854775808) :
    Calls Tryz.prog 27 #[.slice ob P.length cb] w (SmithGot P w) := by
  have HP := Lib.hid hP
  have QW := Lib.hid (wrong_any P ob cb w hP hl)
  clear hP hl
  by_cases h0 : wrE P = 0
  case neg =>
    have H0 := Lib.hid h0
    have HE := Lib.hid (show (wrE P != 0) = true by rw [bne_iff_ne]; exact h0)
    have hd := HE.out
    clear h0
    go_enter Tryz.func27, Tryz.ntmps27
    go_wp2_with (first
        | go_big_skip
        | (go_at_call 62; refine (QW.out).mono ?_; rintro e w1 ⟨rfl, b1⟩; dsimp only; have B1 := Lib.hid b1; clear b1))
    go_ret2
    exact SmithGot.bad H0.out B1.out
  obtain ⟨h1, hn, hn0, _⟩ := wrE_ok h0
  obtain ⟨q, rfl, _, _⟩ := HP.out.cells 0 hn0
  have HM := Lib.hid (psAt_read HP.out h1)
  have H0 := Lib.hid h0
  rw [h0] at QW
  obtain ⟨i0, hi, hz0, hz1, hz2⟩ := info_parts info_int1
  have HI := Lib.hid hi
  have HZ0 := Lib.hid hz0
  have HZ1 := Lib.hid hz1
  have HZ2 := Lib.hid hz2
  clear hi hz0 hz1 hz2 h0 h1
  have HOK := Lib.hid (show ∀ (w' : World) (oo : Option Addr) (co : Nat) (S : List Nat), Below w.heap.size w w' → IsAt w' oo (natI S) → S.Pairwise (· < ·) → Smallest (mxP P) P.length S → SmithGot P w (.returned (.tuple #[.slice oo (natI S).length co, .int .i64 0])) w' from fun w' oo co S h1 h2 h3 h4 => SmithGot.ok H0.out h1 h2 h3 h4)
  have hnl := fun (w : World) (a : Option Addr) (n c : Nat) => Lib.run_eql_slice_nil (P := Tryz.prog) w 29 3 a n c 0 0 Tryz.underlying29
  clear HP H0
  obtain ⟨B, hB⟩ : ∃ B, B = w.heap.size := ⟨_, rfl⟩
  have HB := Lib.hid hB
  clear hB
  generalize mxP P = M at *
  go_enter Tryz.func27, Tryz.ntmps27
  go_upto_region 4 with (first
        | go_big_skip
        | (go_at_call 62; refine (QW.out).mono ?_; rintro e w1 ⟨rfl, b1⟩; dsimp only; have B1 := Lib.hid b1; clear b1))
  rw [← HB.out] at B1
  clear QW
  go_wp2_with fail
  go_loopw [17, 5] (fun i v wr => ∃ (i1 : Nat) (vb : Value), i1 ≤ P.length ∧ i = .int .i64 i1 ∧ vb = v ∧ Below B w wr ∧ BestV M P.length B wr vb i1) (fun i _ _ => P.length - (intOf i).toNat)
  case atStart => exact ⟨0, _, Nat.zero_le _, rfl, rfl, B1.out, .inl ⟨rfl, rfl⟩⟩
  case round =>
  clear B1
  obtain ⟨i1, vb, hi1, rfl, rfl, hb, hv⟩ := hrel
  have B2 := Lib.hid hb
  have V2 := Lib.hid hv
  clear hb hv
  have hBw2 : B ≤ wr.heap.size := by have := B2.out.size; have := HB.out; omega
  by_cases hlt : i1 < P.length
  · have dk : decide ((i1 : Int) < (P.length : Int)) = true := decide_eq_true (by omega)
    have dk2 : decide (i1 < P.length) = true := decide_eq_true hlt
    have dki : (i1 : Int) < (P.length : Int) := by omega
    go_upto_region 9 with (fail)
    have ho3 : (wr.alloc (.cells #[.int .i64 (i1 : Int)] 3)).ownsRow B 3 1 (.slice (some ⟨wr.heap.size, 0, none⟩) 1 1) [i1].length (ivals (natI [i1])) := World.ownsRow_lit wr #[.int .i64 (i1 : Int)] 1 hBw2 (by decide) rfl
    have hap : vb.ownBlock = none ∨ vb.ownBlock ≠ some wr.heap.size := by
      rcases V2.out.lt with h | ⟨k, h1, h2⟩
      · exact .inl h
      · exact .inr (by rw [h1]; intro e; injection e with e; omega)
    refine wp_abs (fun w3 => Below B w w3 ∧ BestV M P.length B w3 vb i1 ∧ w3.ownsRow B 3 1 (.slice (some ⟨wr.heap.size, 0, none⟩) 1 1) [i1].length (ivals (natI [i1]))) ⟨B2.out.alloc hBw2 _, V2.out.below ((Below.refl _ _).alloc (Nat.le_refl _) _), ho3⟩ (fun w3 hw3 => ?_)
    have H3 := Lib.hid hw3
    have HAP := Lib.hid (show vb.ownBlock = none ∨ vb.ownBlock ≠ (Value.slice (some ⟨wr.heap.size, 0, none⟩) 1 1).ownBlock from hap)
    clear hw3 ho3 hap V2 B2 hBw2
    generalize wr.heap.size = X at *
    have HS0 := Lib.hid (BfsI.start (p := M) hlt)
    clear wr
    go_wp2_with fail
    go_loopw [8, 7] (fun kk v wr => ∃ (k : Nat) (D : List Nat) (vi : Value), kk = .int .i64 k ∧ vi = v ∧ k ≤ D.length ∧ BfsI M P.length i1 D k ∧ wr.ownsRow B 3 1 vi D.length (ivals (natI D)) ∧ Below B w wr ∧ BestV M P.length B wr vb i1 ∧ (vb.ownBlock = none ∨ vb.ownBlock ≠ vi.ownBlock)) (fun kk _ _ => P.length + 1 - (intOf kk).toNat)
    case atStart => exact ⟨0, [i1], _, rfl, rfl, Nat.zero_le _, HS0.out, H3.out.2.2, H3.out.1, H3.out.2.1, HAP.out⟩
    case round =>
    clear HS0 H3 HAP
    obtain ⟨k, D, vi, rfl, rfl, hk, hbf, ho, hb, hv, hap⟩ := hrel
    have BF := Lib.hid hbf
    have O2 := Lib.hid ho
    have B2 := Lib.hid hb
    have V2 := Lib.hid hv
    have AP := Lib.hid hap
    have hDn := hbf.len
    clear hbf hb hv hap
    obtain ⟨oi, ci, rfl, hci, hII⟩ := isAt_own ho
    rw [length_natI] at *
    clear ho
    by_cases hkt : k < D.length
    · have ek : decide ((k : Int) < (D.length : Int)) = true := decide_eq_true (by omega)
      have ek2 : decide (k < D.length) = true := decide_eq_true hkt
      have BJ := Lib.hid (BF.out.begin_ hkt)
      clear hII
      go_wp2_with fail
      obtain ⟨wo, hwo⟩ : ∃ wo : World, wo = wr := ⟨_, rfl⟩
      subst hwo
      have HVI := Lib.hid (show ∃ vi, vi = Value.slice oi D.length ci from ⟨_, rfl⟩)
      go_loopw [30, 7] (fun jj v wr => ∃ (j : Nat) (E : List Nat) (vi : Value), jj = .int .i64 j ∧ vi = v ∧ j ≤ P.length ∧ BfsJ M P.length i1 E k j ∧ wr.ownsRow B 3 1 vi E.length (ivals (natI E)) ∧ Below B w wr ∧ BestV M P.length B wr vb i1 ∧ (vb.ownBlock = none ∨ vb.ownBlock ≠ vi.ownBlock)) (fun jj _ _ => P.length - (intOf jj).toNat)
      case atStart => exact ⟨0, D, _, rfl, rfl, Nat.zero_le _, BJ.out, O2.out, B2.out, V2.out, AP.out⟩
      case round =>
      clear BF O2 B2 V2 AP BJ HVI
      obtain ⟨j, E, vi, rfl, rfl, hj, hbj, ho, hb, hv, hap⟩ := hrel
      have BJ := Lib.hid hbj
      have O2 := Lib.hid ho
      have B2 := Lib.hid hb
      have V2 := Lib.hid hv
      have AP := Lib.hid hap
      have hEn := hbj.inv.len
      have hkE := hbj.lt
      clear hb hv hap hDn hkt ek ek2
      obtain ⟨oi, ci, rfl, hci, hII⟩ := isAt_own ho
      rw [length_natI] at *
      have II := Lib.hid hII
      clear ho
      by_cases hjt : j < P.length
      · have fk : decide ((j : Int) < (P.length : Int)) = true := decide_eq_true (by omega)
        have fk2 : decide (j < P.length) = true := decide_eq_true hjt
        have fki : (j : Int) < (P.length : Int) := by omega
        have hxn := hbj.inv.bd _ (List.getElem_mem hkE)
        have hki : (k : Int) < (E.length : Int) := by omega
        obtain ⟨a, rfl, hab, hac⟩ := hII.cells k (by rw [length_natI]; exact hkE)
        rw [natI_get] at hac
        have HSK := Lib.hid (show ∀ hs : beats M (E[k]'hkE) j ∨ j ∈ E, BfsJ M P.length i1 E k (j + 1) from fun hs => hbj.skip hs)
        have HAD := Lib.hid (show ∀ (hb : ¬ beats M (E[k]'hkE) j) (hD : j ∉ E), BfsJ M P.length i1 (E ++ [j]) k (j + 1) from fun hb hD => hbj.add hjt hb hD)
        clear hII hbj
        generalize E[k] = x at *
        have hxi : (x : Int) < (P.length : Int) := by omega
        have HMr := Lib.hid (HM.out.below (HB.out ▸ B2.out))
        obtain ⟨a1, ha, _, b1, cb1, hbb1, hc1, hcx⟩ := HMr.out.cells x hxn
        obtain rfl : q = a1 := by injection ha
        obtain ⟨a1, ha, _, b2, cb2, hbb2, hc2, hcj⟩ := HMr.out.cells j hjt
        obtain rfl : q = a1 := by injection ha
        have k1 := hcx j hjt
        have k2 := hcj x hxn
        have hE12 : E.length ≤ 12 := by omega
        have QC := Lib.hid (fun m => contains_any (some a) (natI E) ci j (wr.drewN m) (II.out.below (bel_drewN (Below.refl _ _) m)) (by rw [length_natI]; omega))
        rw [length_natI] at QC
        have HME := Lib.hid (show memI (natI E) j = decide (j ∈ E) by unfold memI; simp only [mem_natI])
        rw [HME.out] at QC
        unfold beats at HSK HAD
        clear hcx hcj ha HMr
        generalize M x j = y at *
        generalize M j x = z at *
        by_cases hyz : y ≤ z
        · have g0 : decide (y ≤ z) = true := decide_eq_true hyz
          by_cases hjE : j ∈ E
          · rw [decide_eq_true hjE] at QC
            have BJ2 := Lib.hid (HSK.out (.inr hjE))
            clear hyz hjE HSK HAD HME
            go_upto_region 15 with (fail)
            refine Seg.wp_region_segs (fun w' => ∃ m, w' = wr.drewN m) [] [0, 1, 2, 3, 4, 5, 6, 7, 8, 9, 10, 11, 12, 13, 14, 15, 16, 17, 18, 19, 20, 21, 22, 23] 24 (by kernel_rfl) (by kernel_rfl) (fun _ _ d _ _ h => by cases d <;> exact h) (⟨1, rfl⟩) ?_
            simp only [List.map_cons, List.map_nil, Seg.opAt, List.drop_succ_cons, List.drop_zero, Seg.wpSegs, Array.getD_eq_getD_getElem?, List.getElem?_toArray, List.getElem?_cons_succ, List.getElem?_cons_zero, Option.getD_some]
            repeat (any_goals (first | go_big_quiet_step (fail) | quiet_step (fail)))
            refine wpQuiet_nil ?_
            go_wp2_with (first
                | go_big_skip
                | (go_at_call 63; refine (QC.out _).mono ?_; rintro e w5 ⟨rfl, rfl⟩; dsimp only))
            go_roundw
            case rel => exact ⟨j + 1, E, _, by go_num, rfl, by omega, BJ2.out, own_below O2.out (bel_drewN (Below.refl _ _) _), bel_drewN B2.out _, V2.out.below (bel_drewN (Below.refl _ _) _), AP.out⟩
            case measure => simp [intOf]; omega
          · rw [decide_eq_false hjE] at QC
            have BJ2 := Lib.hid (HAD.out (by omega) hjE)
            clear hyz hjE HSK HAD HME
            go_upto_region 15 with (fail)
            refine Seg.wp_region_segs (fun w' => ∃ m, w' = wr.drewN m) [] [0, 1, 2, 3, 4, 5, 6, 7, 8, 9, 10, 11, 12, 13, 14, 15, 16, 17, 18, 19, 20, 21, 22, 23] 24 (by kernel_rfl) (by kernel_rfl) (fun _ _ d _ _ h => by cases d <;> exact h) (⟨1, rfl⟩) ?_
            simp only [List.map_cons, List.map_nil, Seg.opAt, List.drop_succ_cons, List.drop_zero, Seg.wpSegs, Array.getD_eq_getD_getElem?, List.getElem?_toArray, List.getElem?_cons_succ, List.getElem?_cons_zero, Option.getD_some]
            repeat (any_goals (first | go_big_quiet_step (fail) | quiet_step (fail)))
            refine wpQuiet_nil ?_
            go_upto_region 16 with (first
                | go_big_skip
                | (go_at_call 63; refine (QC.out _).mono ?_; rintro e w5 ⟨rfl, rfl⟩; dsimp only))
            refine wp_abs (fun w5 => Below B w w5 ∧ w5.ownsRow B 3 1 (.slice (some a) E.length ci) E.length (ivals (natI E)) ∧ BestV M P.length B w5 vb i1) ⟨bel_drewN B2.out _, own_below O2.out (bel_drewN (Below.refl _ _) _), V2.out.below (bel_drewN (Below.refl _ _) _)⟩ (fun w5 hw5 => ?_)
            have H5 := Lib.hid hw5
            have hBw5 : B ≤ w5.heap.size := by have := hw5.1.size; have := HB.out; omega
            clear hw5 O2 B2 V2 II QC BJ
            go_wp2_with (at_builtin; refine wpList_append_lies _ rfl (.tmp 60) (.tmp 62) 29 rfl B 3 i0 (.int .i64 0) 1 8 Tryz.underlying29 HI.out HZ0.out HZ1.out HZ2.out rfl (by decide) (.slice (some a) E.length ci) E.length (ivals (natI E)) rfl (H5.out.2.1.alloc _) ⟨_, 0, none⟩ 1 1 (ivals [(j : Int)]) rfl rfl (news_blk (heap_at rfl)) (ivals_one _) (by decide) (by unfold maxLen; omega) (by omega) (by simp; omega) _ rfl (fun g cp w7 own7 hg7 hf7 hlt7 => ?_))
            have hne7 : ∀ i, (Value.slice (some a) E.length ci).ownBlock = some i → B ≤ i := fun i hi => (H5.out.2.1.lt i hi).1
            have B7 := Lib.hid ((H5.out.1.alloc hBw5 (.cells #[.int .i64 (j : Int)] 3)).grown hg7 (by simp; omega) hne7)
            have V7 := Lib.hid ((H5.out.2.2.below ((Below.refl _ _).alloc (Nat.le_refl _) (.cells #[.int .i64 (j : Int)] 3))).grown hg7 AP.out)
            have AP7 := Lib.hid (show vb.ownBlock = none ∨ vb.ownBlock ≠ (Value.slice (some ⟨g, 0, none⟩) (E.length + 1) cp).ownBlock by
              rcases AP.out with h | h
              · exact .inl h
              · right
                rcases hf7 with h7 | h7
                · rw [h7] at h; exact h
                · rcases H5.out.2.2.lt with h8 | ⟨i, h8, h9⟩
                  · rw [h8]; exact fun e => by cases e
                  · rw [h8]
                    intro e
                    injection e with e
                    simp at h7
                    have e2 : i = g := e
                    omega)
            have O7 := Lib.hid own7
            clear own7 hg7 hf7 hlt7 AP
            go_wp2_with fail
            go_roundw
            case rel => exact ⟨j + 1, E ++ [j], _, by go_num, rfl, by omega, BJ2.out, by rw [List.length_append, natI_snoc, ← ivals_append]; exact O7.out, B7.out, V7.out, AP7.out⟩
            case measure => simp [intOf]; omega
        · have g0 : decide (y ≤ z) = false := decide_eq_false hyz
          have BJ2 := Lib.hid (HSK.out (.inl (by omega)))
          clear hyz HSK HAD HME
          go_upto_region 15 with (fail)
          refine Seg.wp_region_segs (fun w' => ∃ m, w' = wr.drewN m) [] [0, 1, 2, 3, 4, 5, 6, 7, 8, 9, 10, 11, 12, 13, 14, 15, 16, 17, 18, 19, 20, 21, 22, 23] 24 (by kernel_rfl) (by kernel_rfl) (fun _ _ d _ _ h => by cases d <;> exact h) (⟨1, rfl⟩) ?_
          simp only [List.map_cons, List.map_nil, Seg.opAt, List.drop_succ_cons, List.drop_zero, Seg.wpSegs, Array.getD_eq_getD_getElem?, List.getElem?_toArray, List.getElem?_cons_succ, List.getElem?_cons_zero, Option.getD_some]
          repeat (any_goals (first | go_big_quiet_step (fail) | quiet_step (fail)))
          refine wpQuiet_nil ?_
          go_wp2_with go_big_skip
          go_roundw
          case rel => exact ⟨j + 1, E, _, by go_num, rfl, by omega, BJ2.out, own_below O2.out (bel_drewN (Below.refl _ _) _), bel_drewN B2.out _, V2.out.below (bel_drewN (Below.refl _ _) _), AP.out⟩
          case measure => simp [intOf]; omega
      · have fk : decide ((j : Int) < (P.length : Int)) = false := decide_eq_false (by omega)
        have fk2 : decide (j < P.length) = false := decide_eq_false hjt
        obtain rfl : j = P.length := by omega
        have BF := Lib.hid hbj.next
        clear hII hbj
        go_wp2_with fail
        go_roundw
        case rel => exact ⟨k + 1, E, _, by go_num, rfl, by omega, BF.out, O2.out, B2.out, V2.out, AP.out⟩
        case measure => simp [intOf]; omega
    · have ek : decide ((k : Int) < (D.length : Int)) = false := decide_eq_false (by omega)
      have ek2 : decide (k < D.length) = false := decide_eq_false hkt
      obtain rfl : k = D.length := by omega
      have CL := Lib.hid BF.out.done
      clear BF hII
      rcases V2.out with ⟨hi0, hvb⟩ | ⟨D0, hbd, hod⟩
      · subst hvb
        have V3 := Lib.hid (show BestV M P.length B wr (.slice oi D.length ci) (i1 + 1) from .inr ⟨D, by subst hi0; exact BestD.first CL.out, O2.out⟩)
        clear hi0
        go_wp2_with fail
        go_roundw
        case rel => exact ⟨i1 + 1, _, by omega, by go_num, rfl, B2.out, V3.out⟩
        case measure => simp [intOf]; omega
      · have hD0 := hbd.bd
        have hD0p : 0 < D0.length := List.length_pos_iff.2 hD0.2.2.2
        obtain ⟨X0, c0, rfl, _, _⟩ := hod.form hD0p
        have hD0n := hD0.2.2.1
        have HBD := Lib.hid hbd
        have HOD := Lib.hid hod
        clear hD0 hbd hod hD0p
        by_cases hdd : D.length < D0.length
        · have g1 : decide ((D.length : Int) < (D0.length : Int)) = true := decide_eq_true (by omega)
          have g2 : decide (D.length < D0.length) = true := decide_eq_true hdd
          have V3 := Lib.hid (show BestV M P.length B wr (.slice oi D.length ci) (i1 + 1) from .inr ⟨D, HBD.out.turn CL.out hdd, O2.out⟩)
          clear hdd
          go_wp2_with fail
          go_roundw
          case rel => exact ⟨i1 + 1, _, by omega, by go_num, rfl, B2.out, V3.out⟩
          case measure => simp [intOf]; omega
        · have g1 : decide ((D.length : Int) < (D0.length : Int)) = false := decide_eq_false (by omega)
          have g2 : decide (D.length < D0.length) = false := decide_eq_false hdd
          have V3 := Lib.hid (show BestV M P.length B wr (.slice (some ⟨X0, 0, none⟩) D0.length c0) (i1 + 1) from .inr ⟨D0, HBD.out.stay CL.out hdd, HOD.out⟩)
          clear hdd
          go_wp2_with fail
          go_roundw
          case rel => exact ⟨i1 + 1, _, by omega, by go_num, rfl, B2.out, V3.out⟩
          case measure => simp [intOf]; omega
  · have dk : decide ((i1 : Int) < (P.length : Int)) = false := decide_eq_false (by omega)
    have dk2 : decide (i1 < P.length) = false := decide_eq_false hlt
    obtain rfl : i1 = P.length := by omega
    rcases V2.out with ⟨hi0, _⟩ | ⟨D0, hbd, hod⟩
    · omega
    have hD0 := hbd.bd
    have hD0p : 0 < D0.length := List.length_pos_iff.2 hD0.2.2.2
    obtain ⟨X0, c0, rfl, hX1, hX2⟩ := hod.form hD0p
    have hD0n := hD0.2.2.1
    have QS := Lib.hid (sort_any (natI D0) X0 c0 B wr (by rw [length_natI]; exact hD0p) (by rw [length_natI]; omega) (by rw [length_natI]; exact hod))
    have HND := Lib.hid hD0.2.1
    have HSM := Lib.hid (small_perm (sortN_perm D0).symm hbd.small)
    rw [length_natI, sortI_nat] at QS
    have HLS := Lib.hid (show (natI (sortN D0)).length = D0.length by rw [length_natI, (sortN_perm D0).length_eq])
    clear hD0 hbd hod hD0p V2
    go_upto_region 22 with (go_at_call 64; refine QS.out.mono ?_; rintro e w5 ⟨rfl, hg5, ho5⟩; dsimp only)
    have B5 := Lib.hid (B2.out.grown hg5 hBw2 (fun k hk => by injection hk with hk; omega))
    rw [← HLS.out] at ho5
    obtain ⟨oo, co, he5, _, hI5⟩ := isAt_own ho5
    rw [HLS.out] at he5
    injection he5 with he1 _ he2
    subst he1 he2
    have HI5 := Lib.hid hI5
    have HF := Lib.hid (HOK.out w5 (some ⟨X0, 0, none⟩) c0 (sortN D0) (by rw [← HB.out]; exact B5.out) HI5.out (sortN_srt D0 HND.out) HSM.out)
    rw [HLS.out] at HF
    clear hI5 ho5
    go_wp2_with fail
    go_ret2
    exact HF.out
end Go.Proofs.YtnohcdpnnhmpfaaGreatDoor
