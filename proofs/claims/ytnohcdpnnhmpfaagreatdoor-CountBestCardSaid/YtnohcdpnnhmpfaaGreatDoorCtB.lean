/-
  Chapter 13: slices.insertionSortCmpFunc with two comparers. Printed by tools/gensort.py.
-/
import Derived.Test.YtnohcdpnnhmpfaaGreatDoorCtA
import Derived.BigRegion
namespace Go.Proofs.YtnohcdpnnhmpfaaGreatDoor
set_option linter.unusedVariables false
set_option linter.unusedSimpArgs false
open Go.RowKit ML FM AU CT

/-- all that was there stands, but for block X -/
def Kept (X : Nat) (w w' : World) : Prop := w.grownBy w' (some X)
theorem Kept.refl (X : Nat) (w : World) : Kept X w w := grown_below (Below.refl _ _)
theorem Kept.drew {X : Nat} {w w' : World} (h : Kept X w w') : Kept X w w'.drew := ⟨h.os, h.tape, h.output, h.size, h.block⟩
theorem Kept.below {X : Nat} {w w1 w2 : World} (h : Kept X w w1) (hb : Below w1.heap.size w1 w2) : Kept X w w2 :=
  ⟨hb.os.trans h.os, hb.tape.trans h.tape, hb.output.trans h.output, Nat.le_trans h.size hb.size, fun k hk hne => (hb.block k (Nat.lt_of_lt_of_le hk h.size)).trans (h.block k hk hne)⟩
theorem Kept.set {X : Nat} {w w1 : World} (h : Kept X w w1) (o : Nat) (v : Value) : Kept X w (w1.setCell ⟨X, o, none⟩ v) := by
  have hb := (Below.refl X w1).setCell (p := ⟨X, o, none⟩) (Nat.le_refl _) v
  exact ⟨hb.os.trans h.os, hb.tape.trans h.tape, hb.output.trans h.output, Nat.le_trans h.size hb.size, fun k hk hne => (Below.heap_setCell w1 ⟨X, o, none⟩ v k (fun e => hne (by rw [e]))).trans (h.block k hk hne)⟩
theorem Kept.bel {X B : Nat} {w w1 : World} (h : Kept X w w1) (hB : B ≤ X) (hX : X < w.heap.size) : Below B w w1 := (Below.refl B w).grown h (by omega) (fun k hk => by cases hk; exact hB)
theorem ownsRow_lt {w : World} {base X cap n : Nat} {e : TypeId} {size : Nat} {xs : List Value} (h : w.ownsRow base e size (.slice (some ⟨X, 0, none⟩) n cap) n xs) : X < w.heap.size := by
  rcases h.2 with ⟨h, _⟩ | ⟨g, cap', cur, hv, _, hg, _⟩
  · cases h
  · have : X = g := by simp at hv; exact hv.1
    subst this
    exact lt_of_heap hg
theorem ownsRow_drew {w : World} {base n : Nat} {e : TypeId} {size : Nat} {v : Value} {xs : List Value} (h : w.ownsRow base e size v n xs) : w.drew.ownsRow base e size v n xs := h
/-- S: the first k of D, sorted -/
structure InsAt (le : Int → Int → Prop) (D S : List Int) (k : Nat) : Prop where
  perm : S.Perm (D.take k)
  srt : S.Pairwise le
theorem insAt_one (le : Int → Int → Prop) (D : List Int) : InsAt le D (D.take 1) 1 := ⟨List.Perm.refl _, by cases D <;> simp⟩
theorem InsAt.len {le : Int → Int → Prop} {D S : List Int} {k : Nat} (h : InsAt le D S k) (hk : k ≤ D.length) : S.length = k := by rw [h.perm.length_eq, List.length_take]; omega
theorem InsAt.next {le : Int → Int → Prop} {D S A C : List Int} {x : Int} {k : Nat} (h : InsAt le D S k) (hk : k < D.length) (hAC : A ++ C = S) (hx : x = D[k]) (hp : (A ++ x :: C).Pairwise le) : InsAt le D (A ++ x :: C) (k + 1) := ⟨by
  rw [List.take_succ_eq_append_getElem hk, ← hx]
  refine List.perm_middle.trans ?_
  rw [hAC]
  exact (List.Perm.cons x h.perm).trans (List.perm_append_comm (l₁ := [x]) (l₂ := D.take k)), hp⟩
theorem pairwise_take {r : Int → Int → Prop} {D : List Int} (h : D.Pairwise r) (k : Nat) (hk : k < D.length) (y : Int) (hy : y ∈ D.take k) : r y D[k] := by
  have h2 := h.sublist (List.take_sublist (k + 1) D)
  rw [List.take_succ_eq_append_getElem hk] at h2
  exact (List.pairwise_append.1 h2).2.2 y hy D[k] (by simp)
def SortedRow (le : Int → Int → Prop) (D : List Int) (X cap base : Nat) (T : TypeId) (w w' : World) : Prop :=
  ∃ S, S.Perm D ∧ S.Pairwise le ∧ w'.ownsRow base T 1 (.slice (some ⟨X, 0, none⟩) D.length cap) D.length (ivals S) ∧ Kept X w w'
set_option maxHeartbeats 4000000 in
set_option maxRecDepth 100000 in
theorem insSortD_any (c : Int → Int → Int) (le : Int → Int → Prop) (tr : ∀ a b c, le a b → le b c → le a c) (D : List Int) (X cap base : Nat) (p : Nat) (w : World)
    (HC : ∀ (x y : Int) (w' : World), x ∈ D → y ∈ D → Kept X w w' → Calls Tryz.prog 67 #[.int .i64 x, .int .i64 y, .pointer (some ⟨p, 0, none⟩)] w' fun e w'' => e = .returned (.int .i64 (c x y)) ∧ Below w'.heap.size w' w'')
    (hc : D.Pairwise fun y x => (c x y < 0 → le x y) ∧ (0 ≤ c x y → le y x)) (hl : D.length < 4611686018427387904) (hD : w.ownsRow base 3 1 (.slice (some ⟨X, 0, none⟩) D.length cap) D.length (ivals D)) :
    Calls Tryz.prog 166 #[.slice (some ⟨X, 0, none⟩) D.length cap, .int .i64 0, .int .i64 D.length, .func (.func 67) #[] #[.pointer (some ⟨p, 0, none⟩)]] w fun e w' => e = .returned (.tuple #[]) ∧ SortedRow le D X cap base 3 w w' := by
  have TR := Lib.hid tr
  have QC := Lib.hid HC
  have PC := Lib.hid hc
  have RD := Lib.hid hD
  have hX : X < w.heap.size := ownsRow_lt hD
  clear tr HC hc hD
  go_enter Tryz.func166, Tryz.ntmps166
  go_wp2_with fail
  go_loopw [8] (fun i wr => ∃ (k : Nat) (S : List Int), 1 ≤ k ∧ (k ≤ D.length ∨ k = 1) ∧ i = .int .i64 k ∧ InsAt le D S k ∧ wr.ownsRow base 3 1 (.slice (some ⟨X, 0, none⟩) D.length cap) D.length (ivals (S ++ D.drop k)) ∧ Kept X w wr) (fun i _ => D.length - (intOf i).toNat)
  case atStart => exact ⟨1, D.take 1, by omega, .inr rfl, rfl, insAt_one le D, by rw [List.take_append_drop]; exact RD.out, Kept.refl X w⟩
  case round =>
  clear RD
  obtain ⟨k, S, hk1, hk2, rfl, hS, hR, hK⟩ := hrel
  have HS := Lib.hid hS
  have HR := Lib.hid hR
  have HK := Lib.hid hK
  clear hS hR hK
  by_cases hlt : k < D.length
  · have dk : decide ((k : Int) < (D.length : Int)) = true := decide_eq_true (by omega)
    have dk2 : decide (k < D.length) = true := decide_eq_true hlt
    have hki : (k : Int) < (D.length : Int) := by omega
    obtain ⟨x, hx⟩ : ∃ x, x = D[k] := ⟨_, rfl⟩
    have hdr : D.drop k = x :: D.drop (k + 1) := by rw [hx, List.drop_eq_getElem_cons hlt]
    have hSl := HS.out.len (by omega)
    have HXD := Lib.hid (show x ∈ D by rw [hx]; exact List.getElem_mem hlt)
    have HCS := Lib.hid (show ∀ y ∈ S, (c x y < 0 → le x y) ∧ (0 ≤ c x y → le y x) from fun y hy => by
      rw [hx]; exact pairwise_take PC.out k hlt y (HS.out.perm.mem_iff.1 hy))
    have HSD := Lib.hid (show ∀ y ∈ S, y ∈ D from fun y hy => List.mem_of_mem_take (HS.out.perm.mem_iff.1 hy))
    have HNX := Lib.hid (show ∀ A C, A ++ C = S → (A ++ x :: C).Pairwise le → InsAt le D (A ++ x :: C) (k + 1) from fun A C hAC hp => HS.out.next hlt hAC (hx ▸ rfl) hp)
    have HRX := Lib.hid (show wr.ownsRow base 3 1 (.slice (some ⟨X, 0, none⟩) D.length cap) D.length (ivals (S ++ x :: D.drop (k + 1))) by rw [← hdr]; exact HR.out)
    clear HR hdr hx
    have hLR : S.length + (1 + (D.drop (k + 1)).length) = D.length := by rw [List.length_drop]; omega
    obtain ⟨R, hR⟩ : ∃ R, R = D.drop (k + 1) := ⟨_, rfl⟩
    rw [← hR] at hLR HRX
    have HRR := Lib.hid hR
    clear hR
    generalize hsz : w.heap.size = W at *
    clear hsz
    go_wp2_with fail
    go_loopw [9] (fun j wr => ∃ (A C : List Int), j = .int .i64 (A.length : Int) ∧ A ++ C = S ∧ (∀ y ∈ C, le x y) ∧ wr.ownsRow base 3 1 (.slice (some ⟨X, 0, none⟩) D.length cap) D.length (ivals (A ++ x :: (C ++ R))) ∧ Kept X w wr) (fun j _ => (intOf j).toNat)
    case atStart => exact ⟨S, [], by rw [hSl], by simp, by simp, by simpa using HRX.out, HK.out⟩
    case round =>
    clear HRX HK
    obtain ⟨A, C, rfl, hAC, hC, hR, hK⟩ := hrel
    have HAC := Lib.hid hAC
    have HCC := Lib.hid hC
    have HR := Lib.hid hR
    have HK := Lib.hid hK
    have hAl : A.length ≤ S.length := by rw [← hAC]; simp
    clear hAC hC hR hK
    have HPW := Lib.hid (fun h => pw_ins TR.out A C x (HAC.out ▸ HS.out.srt) HCC.out h)
    rcases List.eq_nil_or_concat A with hA | ⟨A', y, hA⟩
    · subst hA
      have d0 : decide ((0 : Int) < 0) = false := rfl
      have HF := Lib.hid (HNX.out [] C HAC.out (HPW.out (fun A' z h => by simp at h)))
      go_wp2_with fail
      refine Seg.wp_region_segs (fun w' => ∃ m, w' = wr.drewN m) [] [0, 1, 2, 3, 4, 5, 6, 7, 8, 9, 10, 11, 12, 13] 14 (by kernel_rfl) (by kernel_rfl) (fun _ _ d _ _ h => by cases d <;> exact h) (⟨1, rfl⟩) ?_
      simp only [List.map_cons, List.map_nil, Seg.opAt, List.drop_succ_cons, List.drop_zero, Seg.wpSegs, Array.getD_eq_getD_getElem?, List.getElem?_toArray, List.getElem?_cons_succ, List.getElem?_cons_zero, Option.getD_some]
      repeat (any_goals (first | go_big_quiet_step (fail) | quiet_step (fail)))
      refine wpQuiet_nil ?_
      go_wp2_with fail
      go_roundw
      case rel => exact ⟨k + 1, x :: C, by omega, .inl (by omega), by go_num, HF.out, by rw [← HRR.out]; exact ownsRow_drew HR.out, HK.out.drew⟩
      case measure => simp [intOf]; omega
    · rw [List.concat_eq_append] at hA
      obtain ⟨jp, hjp⟩ : ∃ jp, jp = A'.length := ⟨_, rfl⟩
      have hAl2 : A.length = jp + 1 := by rw [hA, hjp]; simp
      have hc1 := HR.out.cellAt (jp + 1) (by omega)
      have hc0 := HR.out.cellAt jp (by omega)
      have hf1 := HR.out.frozenAt (jp + 1)
      have hf0 := HR.out.frozenAt jp
      have e1 : (ivals (A ++ x :: (C ++ R)))[jp + 1]? = some (.int .i64 x) := by rw [← hAl2]; simp [ivals]
      have e0 : (ivals (A ++ x :: (C ++ R)))[jp]? = some (.int .i64 y) := by rw [hA, hjp]; simp [ivals]
      rw [e1] at hc1
      rw [e0] at hc0
      clear e1 e0
      have hyS : y ∈ S := by rw [← HAC.out, hA]; simp
      have QQ := Lib.hid (fun w' (hk : Kept X w w') => QC.out x y w' HXD.out (HSD.out y hyS) hk)
      have CS := Lib.hid (HCS.out y hyS)
      have HLA := Lib.hid (show ∀ A2 z, A = A2 ++ [z] → 0 ≤ c x y → le z x from fun A2 z h h0 => by
        rw [hA] at h
        have hz := (List.append_inj' h rfl).2
        simp at hz
        subst hz
        exact CS.out.2 h0)
      have HSW := Lib.hid (show ((ivals (A ++ x :: (C ++ R))).set (jp + 1) (.int .i64 y)).set jp (.int .i64 x) = ivals (A' ++ x :: (y :: C ++ R)) by
        have := swap_list (ivals A') (.int .i64 y) (.int .i64 x) (ivals (C ++ R))
        rw [show (ivals A').length = jp by simp [ivals, hjp]] at this
        rw [hA]
        simpa [ivals] using this)
      have HAC2 := Lib.hid (show A' ++ y :: C = S by rw [← HAC.out, hA]; simp)
      have z1 : decide ((0 : Int) < (jp : Int) + 1) = true := decide_eq_true (by omega)
      have z2 : (0 : Int) < (jp : Int) + 1 := by omega
      have z3 : (jp : Int) + 1 < (D.length : Int) := by omega
      have z4 : (jp : Int) < (D.length : Int) := by omega
      have z5 : (A.length : Int) = (jp : Int) + 1 := by omega
      rw [z5]
      clear z5
      have HJ := Lib.hid hjp
      have HAA := Lib.hid hA
      obtain ⟨iN, hiN⟩ : ∃ q, q = jp + 1 := ⟨_, rfl⟩
      have ea : ((jp : Int) + 1).toNat = iN := by omega
      rw [← hiN] at hc1 hf1 HSW
      have HIN := Lib.hid hiN
      clear hjp hA hiN hyS
      have HC1 := Lib.hid hc1
      have HC0 := Lib.hid hc0
      by_cases hneg : c x y < 0
      · have dn : decide (c x y < 0) = true := decide_eq_true hneg
        have HLE := Lib.hid (CS.out.1 hneg)
        clear CS HLA HNX HPW hneg
        go_wp2_with fail
        refine Seg.wp_region_segs (fun w' => ∃ m, w' = wr.drewN m) [] [0, 1, 2, 3, 4, 5, 6, 7, 8, 9, 10, 11, 12, 13] 14 (by kernel_rfl) (by kernel_rfl) (fun _ _ d _ _ h => by cases d <;> exact h) (⟨1, rfl⟩) ?_
        simp only [List.map_cons, List.map_nil, Seg.opAt, List.drop_succ_cons, List.drop_zero, Seg.wpSegs, Array.getD_eq_getD_getElem?, List.getElem?_toArray, List.getElem?_cons_succ, List.getElem?_cons_zero, Option.getD_some]
        repeat (any_goals (first | go_big_quiet_step (fail) | quiet_step (fail)))
        refine wpQuiet_nil ?_
        go_wp2_with (go_at_call 67; refine (QQ.out _ HK.out.drew).mono ?_; rintro e w2 ⟨rfl, b2⟩; have B2 := Lib.hid b2; clear b2)
        have hXr : X < wr.drew.heap.size := by have := ownsRow_lt HR.out; exact this
        have K2 := Lib.hid (HK.out.drew.below B2.out)
        have R2 := Lib.hid (own_below (ownsRow_drew HR.out) B2.out)
        clear hc1 hc0 hf1 hf0
        have hc1 := (B2.out.cell (p := ⟨X, iN, none⟩) hXr).trans HC1.out
        have hc0 := (B2.out.cell (p := ⟨X, jp, none⟩) hXr).trans HC0.out
        have hf1 := R2.out.frozenAt iN
        have hf0 := R2.out.frozenAt jp
        have hiN := HIN.out
        obtain ⟨u, hcu⟩ : ∃ u, (w2.setCell ⟨X, iN, none⟩ (.int .i64 y)).cell? ⟨X, jp, none⟩ = some u := ⟨_, (World.cell?_setCell_other _ _ _ _ (by intro e'; simp only [Addr.mk.injEq] at e'; omega)).trans hc0⟩
        have HR3 := Lib.hid (ownsRow_drew ((R2.out.stored iN (.int .i64 y)).1.stored jp (.int .i64 x)).1)
        have K3 := Lib.hid (((K2.out.set iN (.int .i64 y)).set jp (.int .i64 x)).drew)
        clear B2 K2 R2 HR HK HC1 HC0 hXr hiN QQ
        rw [HSW.out] at HR3
        clear HSW
        go_big_region
        clear hc1 hc0 hf1 hf0 hcu ea
        generalize ((w2.setCell ⟨X, iN, none⟩ (.int .i64 y)).setCell ⟨X, jp, none⟩ (.int .i64 x)).drew = w3 at *
        go_wp2_with fail
        go_roundw
        case rel => exact ⟨A', y :: C, by rw [← HJ.out], HAC2.out, fun v hv => (List.mem_cons.1 hv).elim (fun h => h ▸ HLE.out) (HCC.out v), HR3.out, K3.out⟩
        case measure => simp [intOf]
      · have dn : decide (c x y < 0) = false := decide_eq_false hneg
        have HF := Lib.hid (HNX.out A C HAC.out (HPW.out (fun A2 z h => HLA.out A2 z h (by omega))))
        clear CS HLA HNX HPW hneg
        go_wp2_with fail
        refine Seg.wp_region_segs (fun w' => ∃ m, w' = wr.drewN m) [] [0, 1, 2, 3, 4, 5, 6, 7, 8, 9, 10, 11, 12, 13] 14 (by kernel_rfl) (by kernel_rfl) (fun _ _ d _ _ h => by cases d <;> exact h) (⟨1, rfl⟩) ?_
        simp only [List.map_cons, List.map_nil, Seg.opAt, List.drop_succ_cons, List.drop_zero, Seg.wpSegs, Array.getD_eq_getD_getElem?, List.getElem?_toArray, List.getElem?_cons_succ, List.getElem?_cons_zero, Option.getD_some]
        repeat (any_goals (first | go_big_quiet_step (fail) | quiet_step (fail)))
        refine wpQuiet_nil ?_
        go_wp2_with (go_at_call 67; refine (QQ.out _ HK.out.drew).mono ?_; rintro e w2 ⟨rfl, b2⟩; have B2 := Lib.hid b2; clear b2)
        have K2 := Lib.hid (HK.out.drew.below B2.out)
        have R2 := Lib.hid (own_below (ownsRow_drew HR.out) B2.out)
        clear hc1 hc0 hf1 hf0
        go_roundw
        case rel => exact ⟨k + 1, A ++ x :: C, by omega, .inl (by omega), by go_num, HF.out, by rw [← HRR.out, List.append_assoc]; exact R2.out, K2.out⟩
        case measure => simp [intOf]; omega
  · have dk : decide ((k : Int) < (D.length : Int)) = false := decide_eq_false (by omega)
    have dk2 : decide (k < D.length) = false := decide_eq_false hlt
    have HDT := Lib.hid (show D.take k = D from List.take_of_length_le (by omega))
    have HDD := Lib.hid (show D.drop k = [] from List.drop_eq_nil_of_le (by omega))
    go_wp2_with fail
    go_end0
    exact ⟨rfl, S, by have := HS.out.perm; rwa [HDT.out] at this, HS.out.srt, by have := HR.out; rwa [HDD.out, List.append_nil] at this, HK.out⟩
end Go.Proofs.YtnohcdpnnhmpfaaGreatDoor
