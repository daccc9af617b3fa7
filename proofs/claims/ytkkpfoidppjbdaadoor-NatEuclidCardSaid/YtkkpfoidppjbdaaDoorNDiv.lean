/-
  The reference's Div.
-/
import Derived.Test.YtkkpfoidppjbdaaDoorNMul
namespace Go.Proofs.YtkkpfoidppjbdaaDoor
set_option linter.unusedVariables false
open Go.RowKit ML ND

theorem cmpI_ge {x y : Nat} (h : y ≤ x) : (0 : Int) ≤ cmpI x y := by
  rcases Nat.lt_or_ge y x with h1 | h1
  · rw [cmpI_gt h1]; decide
  · have : x = y := by omega
    rw [this, cmpI_eq]; decide
theorem cmpI_neg {x y : Nat} (h : x < y) : ¬ (0 : Int) ≤ cmpI x y := by rw [cmpI_lt h]; decide
theorem owns_one {w : World} {base g : Nat} {e : TypeId} {d : Nat} (hb : base ≤ g) (h : w.heap[g]? = some (.cells #[.int .i64 (d : Int)] e (0, 0))) : w.ownsRow base e 1 (.slice (some ⟨g, 0, none⟩) 1 1) 1 (nvals [d]) :=
  ⟨rfl, .inr ⟨g, 1, _, rfl, hb, h, Nat.le_refl _, by decide, rfl, rfl⟩⟩
theorem IntsAt.set {w : World} {oa : Option Addr} {L : List Nat} {d i : Nat} {v : Value} (h : IntsAt w oa L) (hne : ∀ a, oa = some a → d ≠ a.block) : IntsAt (w.setCell ⟨d, i, none⟩ v) oa L := ⟨fun j hj => by
  obtain ⟨a, h1, h2, h3⟩ := h.cells j hj
  have hb := (Only.refl d w).setCell i v
  refine ⟨a, h1, by rw [hb.size]; exact h2, ?_⟩
  have hblk : (a.add j).block ≠ d := by rw [addr_block]; exact fun e => hne a h1 e.symm
  rw [World.cell?_of_block (w := w) (hb.block _ hblk)]
  exact h3⟩
def cellN (w : World) (b i : Nat) : Nat := match w.cell? ⟨b, i, none⟩ with | some v => (intOf v).toNat | none => 0
theorem cellN_at {w : World} {b : Nat} {L : List Nat} {T : TypeId} (h : w.heap[b]? = some (.cells (nvals L).toArray T (0, 0))) (i : Nat) (hi : i < L.length) : cellN w b i = dAt L i := by
  unfold cellN
  rw [cell_nvals h i hi]
  simp [intOf]
set_option maxHeartbeats 4000000 in
set_option maxRecDepth 100000 in
theorem refDiv_any (x y : Nat) (oa ob : Option Addr) (ca cb : Nat) (w : World) (hy0 : 0 < y) (ha : IntsAt w oa (dig x)) (hb : IntsAt w ob (dig y)) (hx : (dig x).length < 1099511627776) (hy : (dig y).length < 1099511627775) :
    Calls Tryd.prog 28 #[.slice oa (dig x).length ca, .slice ob (dig y).length cb] w fun e w' => ∃ oq cq or cr, e = .returned (.tuple #[.slice oq (dig (x / y)).length cq, .slice or (dig (x % y)).length cr]) ∧ IntsAt w' oq (dig (x / y)) ∧ IntsAt w' or (dig (x % y)) ∧ Below w.heap.size w w' := by
  obtain ⟨i0, hi, hz0, hz1, hz2⟩ := info_parts info_int
  have HI := Lib.hid hi
  have HZ0 := Lib.hid hz0
  have HZ1 := Lib.hid hz1
  have HZ2 := Lib.hid hz2
  have HA := Lib.hid ha
  have HBB := Lib.hid hb
  clear hi hz0 hz1 hz2 ha hb
  have S0 := DivSt.init x y hy0
  go_enter Tryd.func28, Tryd.ntmps28
  go_upto_region 2 with (refine wpList_make_row _ rfl _ _ 31 rfl 3 i0 (.int .i64 0) Tryd.underlying31 HI.out HZ0.out HZ1.out rfl .i64 .i64 (dig x).length rfl rfl (by rw [HZ2.out]; omega) (by omega) ?_)
  rw [made_nvals]
  generalize hB : w.heap.size = d at *
  refine wp_abs (fun w1 => Below d w w1 ∧ w1.heap[d]? = some (.cells (nvals (List.replicate (dig x).length 0)).toArray 3 (0, 0))) ⟨by rw [← hB]; exact (Below.refl _ _).alloc (Nat.le_refl _) _, by rw [← hB]; exact heap_at rfl⟩ (fun w1 hw1 => ?_)
  obtain ⟨bel1, h1⟩ := hw1
  have HB := Lib.hid hB
  clear hB
  go_upto_region 4 with (fail)
  go_loopw [7, 8] (fun v i wr => ∃ (k r : Nat) (z : Int) (oc : Option Addr) (cc : Nat) (Q : List Nat), k ≤ (dig x).length ∧ z = (k : Int) - 1 ∧ i = .int .i64 z ∧ v = .slice oc (dig r).length cc ∧ DivSt x y k Q r ∧ IntsAt wr oc (dig r) ∧ Below d w wr ∧ wr.heap[d]? = some (.cells (nvals Q).toArray 3 (0, 0))) (fun _ i _ => (intOf i + 1).toNat)
  case atStart => exact ⟨(dig x).length, 0, (dig x).length - 1, none, 0, _, Nat.le_refl _, rfl, by go_num, by rw [dig_zero]; rfl, S0, by rw [dig_zero]; exact IntsAt.nil, bel1, h1⟩
  case round =>
  obtain ⟨k, r, z, oc, cc, Q, hk, hz, rfl, rfl, S, hr, bel, hQ⟩ := hrel
  clear bel1 h1 S0
  by_cases h0 : k = 0
  · subst h0
    obtain rfl : z = -1 := by omega
    have hd := Lib.hid S.done
    have hl := S.len
    have QT := Lib.hid (refTrim_any (some ⟨d, 0, none⟩) Q (dig x).length wr (intsAt_block hQ rfl) (by omega) (by omega) S.all)
    rw [hd.out.1, hl] at QT
    have HR := Lib.hid hr
    clear S hQ hr hz
    go_wp2_with (go_at_call 58; refine QT.out.mono ?_; rintro e w3 ⟨rfl, hI3, rfl⟩)
    go_ret2
    have HR2 := HR.out
    rw [hd.out.2] at HR2
    rw [hd.out.2]
    exact ⟨_, _, oc, cc, rfl, hI3, HR2, by rw [HB.out]; exact bel⟩
  obtain ⟨i, rfl⟩ : ∃ i, k = i + 1 := ⟨k - 1, by omega⟩
  obtain rfl : z = (i : Int) := by omega
  have hlt : i < (dig x).length := by omega
  have hi0 : (0 : Int) ≤ i := by omega
  have hix : (i : Int) < ((dig x).length : Int) := by omega
  obtain ⟨a0, hoa, hac⟩ := HA.out.get i hlt
  have hablk : a0.block < d := by
    obtain ⟨a1, h2, h3, _⟩ := HA.out.cells i hlt
    rw [hoa] at h2
    cases h2
    rw [HB.out] at h3
    exact h3
  have hac3 : wr.cell? (a0.add i) = some (.int .i64 ((dAt (dig x) i : Nat) : Int)) := by rw [bel.cell (p := a0.add i) (by rw [addr_block]; exact hablk)]; exact hac
  have D0 := S.digit hlt
  have hai : dAt (dig x) i < 10 := getD_lt (all_dig x) i
  have D1 : DigSt x y i Q (dAt (dig x) i + 10 * r) := D0
  have hrl : (dig r).length ≤ (dig y).length := length_dig_le _ _ (Nat.lt_trans S.lt (lt_pow_length y))
  subst hoa
  clear D0 S hac hz h0
  generalize dAt (dig x) i = a at *
  have hdw : d ≤ wr.heap.size := by have := lt_of_heap hQ; omega
  obtain ⟨w0, rfl⟩ : ∃ w0, w0 = wr := ⟨_, rfl⟩
  obtain ⟨B2, hB2⟩ : ∃ B2, B2 = w0.heap.size := ⟨_, rfl⟩
  go_upto_region 7 with (fail)
  refine wp_abs (fun w4 => Below B2 w0 w4 ∧ w4.heap[B2]? = some (.cells #[.int .i64 (a : Int)] 3 (0, 0))) ⟨by rw [hB2]; exact (Below.refl _ _).alloc (Nat.le_refl _) _, by rw [hB2]; exact heap_at rfl⟩ (fun w4 hw4 => ?_)
  obtain ⟨bel4, h4⟩ := hw4
  rw [← hB2]
  have own4 := owns_one (Nat.le_refl B2) h4
  have HB2 := Lib.hid hB2
  have HR := Lib.hid hr
  have HQ := Lib.hid hQ
  have HD1 := Lib.hid D1
  have HBEL := Lib.hid bel
  clear h4 hB2 hr hQ D1 bel hac3
  go_upto_region 8 with (fail)
  go_loopw [9, 29] (fun v j wi => ∃ k : Nat, k ≤ (dig r).length ∧ j = .int .i64 k ∧ Below B2 w0 wi ∧ wi.ownsRow B2 3 1 v (k + 1) (nvals (a :: (dig r).take k))) (fun _ j _ => (dig r).length - (intOf j).toNat)
  case atStart => exact ⟨0, by omega, rfl, bel4, by rw [List.take_zero]; exact own4⟩
  case round =>
  obtain ⟨j, hj, rfl, beli, own⟩ := hrel
  clear bel4 own4
  by_cases hjr : j < (dig r).length
  · have hdj : decide ((j : Int) < ((dig r).length : Int)) = true := by simp; omega
    have hIr : IntsAt wr oc (dig r) := HR.out.below (HB2.out ▸ beli)
    obtain ⟨r0, hor, hrc⟩ := hIr.get j hjr
    have hrc2 : wr.cell? (r0.add j) = some (.int .i64 ((dAt (dig r) j : Nat) : Int)) := hrc
    have hjl : (j : Int) < ((dig r).length : Int) := by omega
    have hj0 : (0 : Int) ≤ j := by omega
    have hbw : B2 ≤ wr.heap.size := by have := beli.size; rw [← HB2.out] at this; exact this
    have htk : (dig r).take (j + 1) = (dig r).take j ++ [dAt (dig r) j] := by
      rw [List.take_succ_eq_append_getElem hjr]
      simp [dAt, List.getD_eq_getElem?_getD, hjr]
    have HTK := Lib.hid htk
    subst hor
    clear hIr hrc htk
    generalize dAt (dig r) j = e0 at *
    go_upto_region 11 with (at_builtin; refine wpList_append_own _ rfl (.tmp 33) (.tmp 35) 31 rfl B2 3 i0 (.int .i64 0) 1 8 Tryd.underlying31 HI.out HZ0.out HZ1.out HZ2.out rfl (by decide) u9 (j + 1) _ rfl (own.alloc _) ⟨wr.heap.size, 0, none⟩ 1 1 (nvals [e0]) rfl rfl ?c1 ?c2 ?c3 ?c4 ?c5 ?_)
    case c1 => exact news_nvals wr [e0] _ _ rfl
    case c2 => exact nvals_one _
    case c3 => unfold maxLen; omega
    case c4 => omega
    case c5 => first | omega | (simp; omega)
    intro v5 w5 own5 hg5 _
    have bel5 : Below B2 w0 w5 := (beli.alloc hbw _).grown hg5 (by simp; omega) (fun q hq => (own.lt q hq).1)
    rw [nvals_append, List.cons_append, ← HTK.out] at own5
    have OWN5 := Lib.hid own5
    clear own5 own hg5 beli hrc2
    go_wp2_with fail
    go_roundw
    case rel => exact ⟨j + 1, by omega, by go_num, bel5, OWN5.out⟩
    case measure => simp [intOf]; omega
  · have hdj : decide ((j : Int) < ((dig r).length : Int)) = false := by simp; omega
    obtain rfl : j = (dig r).length := by omega
    rw [List.take_of_length_le (Nat.le_refl _)] at own
    have hcl : (a :: dig r).length = (dig r).length + 1 := rfl
    obtain ⟨on, cn, rfl, hcn, hfn, hIn⟩ := intsAt_own (L := a :: dig r) own
    obtain ⟨hAl, htr⟩ := trim_cons a r hai
    have QT := Lib.hid (refTrim_any on (a :: dig r) cn wr hIn (by rw [hcl]; omega) hcn hAl)
    rw [htr] at QT
    have hQ2 := bel_keep beli (lt_of_heap HQ.out |> fun h => by rw [HB2.out]; exact h) HQ.out
    have bel2 : Below d w wr := HBEL.out.trans (beli.mono (by rw [HB2.out]; exact hdw))
    have hdB : d < B2 := by rw [HB2.out]; exact lt_of_heap HQ.out
    obtain ⟨R, hR⟩ : ∃ R, R = a + 10 * r := ⟨_, rfl⟩
    rw [← hR] at QT HD1
    clear hIn own HQ HBEL HR beli hAl htr hR
    go_upto_region 13 with (go_at_call 58; refine QT.out.mono ?_; rintro e w6 ⟨rfl, hI6, rfl⟩)
    have hfd : ∀ a, on = some a → d < a.block := fun a h => Nat.lt_of_lt_of_le hdB (hfn a h)
    go_loopw [7] (fun v wi => ∃ (R : Nat) (oc : Option Addr) (cc : Nat) (Q : List Nat), v = .slice oc (dig R).length cc ∧ DigSt x y i Q R ∧ IntsAt wi oc (dig R) ∧ (∀ a, oc = some a → d < a.block) ∧ Below d w wi ∧ wi.heap[d]? = some (.cells (nvals Q).toArray 3 (0, 0))) (fun _ wi => 10 - cellN wi d i)
    case atStart => exact ⟨R, on, cn, Q, rfl, HD1.out, hI6, hfd, bel2, hQ2⟩
    case round =>
    clear hI6 bel2 hQ2 HD1 QT hfd hfn hcn hcl hjr hdj hj
    obtain ⟨R1, oc, cc, Q1, rfl, S, hI, hfd, bel, hQ⟩ := hrel
    have hRl : (dig R1).length ≤ (dig y).length + 1 := by
      refine length_dig_le _ _ ?_
      have h1 := S.lt
      have h2 := lt_pow_length y
      rw [Nat.pow_succ]
      omega
    have QC := Lib.hid (refCompare_any R1 y oc ob cc cb wr hI (HBB.out.below (by rw [HB.out]; exact bel)) (by omega) (by omega))
    have hdl : d < wr.heap.size := lt_of_heap hQ
    have hQl := S.len
    have HM := Lib.hid (cellN_at hQ i (by omega))
    by_cases hge : y ≤ R1
    · have hc0 := cmpI_ge hge
      have SN := Lib.hid (S.next hlt hge)
      have QS := Lib.hid (fun w7 h1 h2 => refSub_any R1 y oc ob cc cb w7 hge h1 h2 (by omega) (by omega))
      have HGE := Lib.hid hge
      clear S hge
      generalize cmpI R1 y = c1 at *
      have hdc : decide ((0 : Int) ≤ c1) = true := by simp; exact hc0
      go_upto_region 15 with (first
        | (go_at_call 23; refine QC.out.mono ?_; rintro e w7 ⟨rfl, hb7⟩; have hI7 := hI.below hb7; have hB7 := HBB.out.below (Below.trans (by rw [HB.out]; exact bel) (hb7.mono (by rw [HB.out]; omega))))
        | (go_at_call 24; refine (QS.out w7 hI7 hB7).mono ?_; rintro e w8 ⟨oc8, cc8, rfl, hI8, hb8, hf8⟩))
      have hd7 : d < w7.heap.size := Nat.lt_of_lt_of_le hdl hb7.size
      have hQ8 := bel_keep hb8 hd7 (bel_keep hb7 hdl hQ)
      have bel8 : Below d w w8 := (bel.trans (hb7.mono (Nat.le_of_lt hdl))).trans (hb8.mono (Nat.le_of_lt hd7))
      have hc8 := cell_nvals hQ8 i (by omega)
      have hfz := frozen_of_row w8 d i _ _ hQ8
      have hf8d : ∀ a, oc8 = some a → d < a.block := fun a h => Nat.lt_of_lt_of_le hd7 (hf8 a h)
      have SN2 : Hid (DigSt x y i (Q1.set i (dAt Q1 i + 1)) (R1 - y) ∧ dAt Q1 i + 1 < 10) := SN
      have hq10 : dAt Q1 i + 1 < 10 := SN.out.2
      have hmeas : dAt (Q1.set i (dAt Q1 i + 1)) i = dAt Q1 i + 1 := by
        have : i < Q1.length := by omega
        simp [dAt, List.getD_eq_getElem?_getD, this]
      have HMS := Lib.hid hmeas
      clear SN QS QC hI hfd bel hQ hb7 hI7 hB7 hb8 hf8 hmeas
      have hset := Lib.hid (fun q => set_nvals hQ8 i q)
      have HI8 := Lib.hid hI8
      have hls : i < (Q1.set i (dAt Q1 i + 1)).length := by rw [List.length_set]; omega
      clear hI8 hQ8
      generalize hq : dAt Q1 i = q at *
      have hQ9 : (w8.setCell ⟨d, i, none⟩ (.int .i64 ((q : Int) + 1))).heap[d]? = some (.cells (nvals (Q1.set i (q + 1))).toArray 3 (0, 0)) := by
        have := hset.out (q + 1)
        push_cast at this
        exact this
      have HQ9 := Lib.hid hQ9
      clear hQ9 hset
      go_wp2_with fail
      go_roundw
      case rel => exact ⟨R1 - y, oc8, cc8, _, rfl, SN2.out.1, HI8.out.set (fun a h => Nat.ne_of_lt (hf8d a h)), hf8d, bel_only bel8 ((Only.refl d w8).setCell _ _) (Nat.le_refl _), HQ9.out⟩
      case measure =>
        rw [HM.out, cellN_at HQ9.out i hls, HMS.out]
        omega
    · have hc0 := cmpI_neg (show R1 < y by omega)
      have SD := Lib.hid (S.done (by omega))
      clear S
      generalize cmpI R1 y = c1 at *
      have hdc : decide ((0 : Int) ≤ c1) = false := by simp; omega
      go_wp2_with (go_at_call 23; refine QC.out.mono ?_; rintro e w7 ⟨rfl, hb7⟩)
      have hI7 := hI.below hb7
      have bel7 := bel.trans (hb7.mono (Nat.le_of_lt hdl))
      have hQ7 := bel_keep hb7 hdl hQ
      clear QC hI bel hQ HM hb7
      go_roundw
      case rel => exact ⟨i, R1, (i : Int) - 1, oc, cc, Q1, by omega, rfl, by go_num, rfl, SD.out, hI7, bel7, hQ7⟩
      case measure => simp [intOf]
end Go.Proofs.YtkkpfoidppjbdaaDoor
