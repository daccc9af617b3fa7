/-
  Chapter 13, for Pairs: the reference's Paths. Printed by tools/genrpa.py.
-/
import Derived.Test.YtnohcdpnnhmpfaaCtRA
import Derived.Deep.LoopGhost
namespace Go.Proofs.Ytnohcdpnnhmpfaa
set_option linter.unusedVariables false
set_option linter.unusedSimpArgs false
open Go.RowKit ML FM AU CT

/-! ### plain law: ways get longer, as long as one becomes stronger -/
def sumN (n : Nat) (f : Nat → Nat) : Nat := ((List.range n).map f).sum
theorem sumN_succ (n : Nat) (f : Nat → Nat) : sumN (n + 1) f = sumN n f + f n := by simp [sumN, List.range_succ]
theorem sumN_le {n : Nat} {f g : Nat → Nat} (h : ∀ i, i < n → f i ≤ g i) : sumN n f ≤ sumN n g := by
  induction n with
  | zero => simp [sumN]
  | succ n ih => rw [sumN_succ, sumN_succ]; have := ih (fun i hi => h i (by omega)); have := h n (by omega); omega
theorem sumN_lt {n : Nat} {f g : Nat → Nat} (h : ∀ i, i < n → f i ≤ g i) {k : Nat} (hk : k < n) (hs : f k < g k) : sumN n f < sumN n g := by
  induction n with
  | zero => omega
  | succ n ih =>
    rw [sumN_succ, sumN_succ]
    by_cases e : k = n
    · subst e; have := sumN_le (n := k) (f := f) (g := g) (fun i hi => h i (by omega)); omega
    · have := ih (fun i hi => h i (by omega)) (by omega); have := h n (by omega); omega
/-- how far it is to T -/
def pot (n : Nat) (T : Int) (W : Mx) : Nat := sumN n fun i => sumN n fun j => (T - W i j).toNat
theorem pot_set {n : Nat} {T : Int} {W : Mx} {i j : Nat} {s : Int} (hi : i < n) (hj : j < n) (h1 : W i j < s) (h2 : s ≤ T) : pot n T (upd W i j s) < pot n T W := by
  unfold pot
  refine sumN_lt (fun a _ => sumN_le (fun b _ => ?_)) hi (sumN_lt (fun b _ => ?_) hj ?_)
  · unfold upd; split
    · rename_i h; rw [h.1, h.2]; omega
    · omega
  · unfold upd; split
    · rename_i h; rw [h.2]; omega
    · omega
  · unfold upd; rw [if_pos ⟨rfl, rfl⟩]; omega
def Tri (e W : Mx) (a b c : Nat) : Prop := a ≠ b → (c = a → e a b ≤ W a b) ∧ (c ≠ a → min (W a c) (e c b) ≤ W a b)
def ahead3 (i j k a b c : Nat) : Prop := a < i ∨ a = i ∧ (b < j ∨ b = j ∧ c < k)
structure PathR (e : Mx) (n : Nat) (T : Int) (W : Mx) : Prop where
  sound : Sound e n W
  bd : ∀ i j, i < n → j < n → W i j ≤ T
structure PassR (e : Mx) (n : Nat) (T : Int) (p0 : Nat) (W : Mx) (ag : Bool) (i j k : Nat) : Prop where
  st : PathR e n T W
  le : pot n T W ≤ p0
  lt : ag = true → pot n T W < p0
  tri : ag = false → ∀ a b c, a < n → b < n → c < n → ahead3 i j k a b c → Tri e W a b c
theorem PassR.start {e : Mx} {n : Nat} {T : Int} {W : Mx} (h : PathR e n T W) : PassR e n T (pot n T W) W false 0 0 0 :=
  ⟨h, Nat.le_refl _, (fun h => by cases h), fun _ a b c _ _ _ h => by unfold ahead3 at h; omega⟩
theorem PassR.skip {e : Mx} {n : Nat} {T : Int} {p0 : Nat} {W : Mx} {ag : Bool} {i j k : Nat} (h : PassR e n T p0 W ag i j k) (ht : Tri e W i j k) : PassR e n T p0 W ag i j (k + 1) :=
  ⟨h.st, h.le, h.lt, fun hg a b c ha hb hc hh => by
    by_cases e : a = i ∧ b = j ∧ c = k
    · obtain ⟨rfl, rfl, rfl⟩ := e; exact ht
    · exact h.tri hg a b c ha hb hc (by unfold ahead3 at hh ⊢; omega)⟩
theorem PassR.set {e : Mx} {n : Nat} {T : Int} {p0 : Nat} {W : Mx} {ag : Bool} {i j k : Nat} {s : Int} (h : PassR e n T p0 W ag i j k) (hi : i < n) (hj : j < n) (hij : i ≠ j) (h1 : W i j < s) (h2 : s ≤ T) (hw : CT.Way e n s i j) : PassR e n T p0 (upd W i j s) true i j (k + 1) := by
  have h0 := h.st.sound.nn i j hi hj
  have hp := pot_set hi hj h1 h2
  have hl := h.le
  exact ⟨⟨h.st.sound.upd hij (by omega) (fun _ => hw), fun a b ha hb => by unfold upd; split; exact h2; exact h.st.bd a b ha hb⟩, by omega, fun _ => by omega, fun hg => by cases hg⟩
theorem PassR.rowk {e : Mx} {n : Nat} {T : Int} {p0 : Nat} {W : Mx} {ag : Bool} {i j : Nat} (h : PassR e n T p0 W ag i j n) : PassR e n T p0 W ag i (j + 1) 0 :=
  ⟨h.st, h.le, h.lt, fun hg a b c ha hb hc hh => h.tri hg a b c ha hb hc (by unfold ahead3 at hh ⊢; omega)⟩
theorem PassR.rowj {e : Mx} {n : Nat} {T : Int} {p0 : Nat} {W : Mx} {ag : Bool} {i : Nat} (h : PassR e n T p0 W ag i n 0) : PassR e n T p0 W ag (i + 1) 0 0 :=
  ⟨h.st, h.le, h.lt, fun hg a b c ha hb hc hh => h.tri hg a b c ha hb hc (by unfold ahead3 at hh ⊢; omega)⟩
/-- what holds at the head of each pass -/
structure HeadR (e : Mx) (n : Nat) (T : Int) (W : Mx) (ag : Bool) : Prop where
  st : PathR e n T W
  tri : ag = false → ∀ a b c, a < n → b < n → c < n → Tri e W a b c
theorem PassR.head {e : Mx} {n : Nat} {T : Int} {p0 : Nat} {W : Mx} {ag : Bool} (h : PassR e n T p0 W ag n 0 0) : HeadR e n T W ag := ⟨h.st, fun hg a b c ha hb hc => h.tri hg a b c ha hb hc (.inl ha)⟩
def potB (n : Nat) (T : Int) (W : Mx) (ag : Bool) : Nat := pot n T W + if ag = true then 1 else 0
theorem PassR.less {e : Mx} {n : Nat} {T : Int} {W0 W : Mx} {ag : Bool} {i j k : Nat} (h : PassR e n T (pot n T W0) W ag i j k) : potB n T W ag < potB n T W0 true := by
  unfold potB
  rw [if_pos rfl]
  have := h.le
  cases ag with
  | true => have := h.lt rfl; simp; omega
  | false => simp; omega
theorem HeadR.done {e : Mx} {n : Nat} {T : Int} {W : Mx} (h : HeadR e n T W false) : Strong e n W :=
  strong_of_step h.st.sound (fun i j hi hj hij => (h.tri rfl i j i hi hj hi hij).1 rfl) (fun i j k hi hj hk hij hki => (h.tri rfl i j k hi hj hk hij).2 hki)
theorem HeadR.start {e : Mx} {n : Nat} {T : Int} (hT : 0 ≤ T) : HeadR e n T (fun _ _ => 0) true :=
  ⟨⟨⟨fun _ _ => rfl, fun _ _ _ _ => Int.le_refl _, fun i j _ _ _ h => absurd h (Int.lt_irrefl _)⟩, fun _ _ _ _ => hT⟩, fun h => by cases h⟩
set_option maxHeartbeats 8000000 in
set_option maxRecDepth 100000 in
theorem refPaths_any (P : List (Value × List Int)) (ob : Option Addr) (cb : Nat) (w : World) (hP : PsAt w ob P) (hl : P.length < 9223372036854775808) :
    Calls Try.prog 14 #[.slice ob P.length cb] w (PathsGot P w) := by
  have HP := Lib.hid hP
  have QW := Lib.hid (refWrongPairs_any P ob cb w hP hl)
  clear hP hl
  by_cases h0 : wrE P = 0
  case neg =>
    have H0 := Lib.hid h0
    have HE := Lib.hid (show (wrE P != 0) = true by rw [bne_iff_ne]; exact h0)
    have hd := HE.out
    clear h0
    go_enter Try.func14, Try.ntmps14
    go_wp2_with (first
        | go_big_skip
        | (go_at_call 29; refine (QW.out).mono ?_; rintro e w1 ⟨rfl, rfl⟩; dsimp only))
    go_ret2
    exact PathsGot.bad H0.out (Below.refl _ _)
  obtain ⟨h1, hn, hn0, hbd⟩ := wrE_ok h0
  obtain ⟨q, rfl, _, _⟩ := HP.out.cells 0 hn0
  have HM := Lib.hid (psAt_read HP.out h1)
  have H0 := Lib.hid h0
  rw [h0] at QW
  have HBD := Lib.hid hbd
  have HOK := Lib.hid (show ∀ (w' : World) (F : Nat) (gs : List Nat) (W : Mx), Below w.heap.size w w' → MxO w.heap.size w' F P.length gs W → Strong (edge (mxP P)) P.length W → PathsGot P w (.returned (.tuple #[.slice (some ⟨F, 0, none⟩) P.length P.length, .int .i64 0])) w' from fun w' F gs W h1 h2 h3 => PathsGot.ok H0.out h1 h2 h3)
  obtain ⟨i0, hi, hz0, hz1, hz2⟩ := info_parts info_int1
  obtain ⟨j0, ji, jz0, jz1, jz2⟩ := info_parts info_ints
  have HI := Lib.hid hi
  have HZ0 := Lib.hid hz0
  have HZ1 := Lib.hid hz1
  have HZ2 := Lib.hid hz2
  have JI := Lib.hid ji
  have JZ0 := Lib.hid jz0
  have JZ1 := Lib.hid jz1
  have JZ2 := Lib.hid jz2
  clear hi hz0 hz1 hz2 ji jz0 jz1 jz2 h0 h1 hbd HP H0
  generalize mxP P = M at *
  go_enter Try.func14, Try.ntmps14
  go_upto_region 4 with (first
        | go_big_skip
        | (go_at_call 29; refine (QW.out).mono ?_; rintro e w1 ⟨rfl, rfl⟩; dsimp only))
  clear QW
  go_upto_region 6 with (refine wpList_make_row _ rfl _ _ 32 rfl 25 j0 (.slice none 0 0) Try.underlying32 JI.out JZ0.out JZ1.out rfl .i64 .i64 P.length rfl rfl (by rw [JZ2.out]; omega) (by omega) ?_)
  have hS : SqK w.heap.size (w.alloc (.cells (madeCells #[Value.slice none 0 0] P.length) 25)) w.heap.size P.length [] := ⟨by rw [heap_at rfl]; simp [headL, ← toList_madeCells_one], by simp, Nat.le_refl _, fun g hg => by simp at hg, List.nodup_nil, fun g hg => by simp at hg⟩
  have hb0 : Below w.heap.size w (w.alloc (.cells (madeCells #[Value.slice none 0 0] P.length) 25)) := (Below.refl _ _).alloc (Nat.le_refl _) _
  generalize hB : w.heap.size = B at *
  have HB := Lib.hid hB
  clear hB
  refine wp_abs (fun w1 => SqK B w1 B P.length [] ∧ Below B w w1) ⟨hS, hb0⟩ (fun w1 hw1 => ?_)
  have H1 := Lib.hid hw1
  clear hw1 hS hb0
  go_wp2_with fail
  go_loopw [24] (fun i wr => ∃ (k : Nat) (gs : List Nat), k = gs.length ∧ i = .int .i64 k ∧ k ≤ P.length ∧ SqK B wr B P.length gs ∧ Below B w wr) (fun i _ => P.length - (intOf i).toNat)
  case atStart => exact ⟨0, [], rfl, rfl, Nat.zero_le _, H1.out.1, H1.out.2⟩
  case round =>
  clear H1
  obtain ⟨k, gs, hkg, rfl, hk, hs, hb⟩ := hrel
  have HK := Lib.hid hkg
  have S := Lib.hid hs
  have BB := Lib.hid hb
  have hBr : B < wr.heap.size := lt_of_heap hs.head
  clear hkg hs hb
  by_cases hlt : k < P.length
  · have dk : decide ((k : Int) < (P.length : Int)) = true := decide_eq_true (by omega)
    have dk2 : decide (k < P.length) = true := decide_eq_true hlt
    have hki : (k : Int) < (P.length : Int) := by omega
    have c1 : wr.cell? ⟨B, k, none⟩ = some (.slice none 0 0) := by
      rw [cell_of_row _ _ _ _ _ _ S.out.head, List.getElem?_toArray, List.getElem?_append_right (by simp [headL, ← HK.out])]
      rw [show k - (headL P.length gs).length = 0 by simp [headL, ← HK.out], List.getElem?_replicate, if_pos (by rw [← HK.out]; omega)]
    have f1 : wr.frozen? ⟨B, k, none⟩ = false := frozen_of_row _ _ _ _ _ S.out.head
    have SN := Lib.hid (S.out.next (by rw [← HK.out]; exact hlt) (Nat.le_of_lt hBr))
    rw [← HK.out] at SN
    go_upto_region 10 with (refine wpList_make_row _ rfl _ _ 25 rfl 3 i0 (.int .i64 0) Try.underlying25 HI.out HZ0.out HZ1.out rfl .i64 .i64 P.length rfl rfl (by rw [HZ2.out]; omega) (by omega) ?_)
    go_wp2_with fail
    go_roundw
    case rel => exact ⟨k + 1, _, by simp [HK.out], by go_num, by omega, SN.out, (BB.out.setCell (Nat.le_refl _) _).alloc (by simp; omega) _⟩
    case measure => simp [intOf]; omega
  have dk : decide ((k : Int) < (P.length : Int)) = false := decide_eq_false (by omega)
  have dk2 : decide (k < P.length) = false := decide_eq_false hlt
  have hgl : gs.length = P.length := by rw [← HK.out]; omega
  have HL := Lib.hid hgl
  have M1 := Lib.hid (S.out.all hgl)
  have HH := Lib.hid (HeadR.start (e := edge M) (n := P.length) (T := 1099511627776) (by decide))
  clear hgl S HK hlt hk HI HZ0 HZ1 HZ2 JI JZ0 JZ1 JZ2
  as_aux_lemma =>
  go_wp2_with fail
  clear dk dk2
  go_loopg [8] (potB P.length 1099511627776 (fun _ _ => 0) true) (fun N v wr => ∃ (ag : Bool) (W : Mx), v = .bool ag ∧ N = potB P.length 1099511627776 W ag ∧ HeadR (edge M) P.length 1099511627776 W ag ∧ MxO B wr B P.length gs W ∧ Below B w wr)
  case atStart => exact ⟨true, _, rfl, rfl, HH.out, M1.out, BB.out⟩
  case round =>
  clear HH M1 BB hBr
  obtain ⟨ag0, W0, rfl, rfl, hh, hm, hb⟩ := hrel
  cases ag0 with
  | false =>
    have HD := Lib.hid hh.done
    have M2 := Lib.hid hm
    have B2 := Lib.hid hb
    clear hh hm hb
    go_wp2_with fail
    go_ret2
    exact HOK.out _ B gs W0 B2.out M2.out HD.out
  | true =>
    have PS := Lib.hid (PassR.start hh.st)
    have M2 := Lib.hid hm
    have B2 := Lib.hid hb
    clear hh hm hb
    obtain ⟨wo, hwo⟩ : ∃ wo : World, wo = wr := ⟨_, rfl⟩
    subst hwo
    go_wp2_with fail
    go_loopw [9, 8] (fun i v wr => ∃ (i1 : Nat) (ag : Bool) (W : Mx), i = .int .i64 i1 ∧ v = .bool ag ∧ i1 ≤ P.length ∧ PassR (edge M) P.length 1099511627776 (pot P.length 1099511627776 W0) W ag i1 0 0 ∧ MxO B wr B P.length gs W ∧ Below B w wr) (fun i _ _ => P.length - (intOf i).toNat)
    case atStart => exact ⟨0, false, W0, rfl, rfl, Nat.zero_le _, PS.out, M2.out, B2.out⟩
    case round =>
    clear PS M2 B2
    obtain ⟨i1, ag, W, rfl, rfl, hi1, hps, hm, hb⟩ := hrel
    have PS := Lib.hid hps
    have M3 := Lib.hid hm
    have B3 := Lib.hid hb
    clear hps hm hb
    by_cases hlti : i1 < P.length
    case neg =>
      have dk : decide ((i1 : Int) < (P.length : Int)) = false := decide_eq_false (by omega)
      have dk2 : decide (i1 < P.length) = false := decide_eq_false hlti
      obtain rfl : i1 = P.length := by omega
      have HD2 := Lib.hid PS.out.head
      have HLS := Lib.hid PS.out.less
      clear PS
      go_wp2_with fail
      go_roundg (potB P.length 1099511627776 W ag)
      case rel => exact ⟨ag, W, rfl, rfl, HD2.out, M3.out, B3.out⟩
      case measure => exact HLS.out
    have dk : decide ((i1 : Int) < (P.length : Int)) = true := decide_eq_true (by omega)
    have dk2 : decide (i1 < P.length) = true := decide_eq_true hlti
    have dki : (i1 : Int) < (P.length : Int) := by omega
    have hig : i1 < gs.length := by rw [HL.out]; exact hlti
    obtain ⟨wp, hwp⟩ : ∃ wp : World, wp = wr := ⟨_, rfl⟩
    subst hwp
    go_wp2_with fail
    go_loopw [10, 8] (fun i v wr => ∃ (j1 : Nat) (ag : Bool) (W : Mx), i = .int .i64 j1 ∧ v = .bool ag ∧ j1 ≤ P.length ∧ PassR (edge M) P.length 1099511627776 (pot P.length 1099511627776 W0) W ag i1 j1 0 ∧ MxO B wr B P.length gs W ∧ Below B w wr) (fun i _ _ => P.length - (intOf i).toNat)
    case atStart => exact ⟨0, ag, W, rfl, rfl, Nat.zero_le _, PS.out, M3.out, B3.out⟩
    case round =>
    clear PS M3 B3
    obtain ⟨j1, ag, W, rfl, rfl, hj1, hps, hm, hb⟩ := hrel
    have PS := Lib.hid hps
    have M4 := Lib.hid hm
    have B4 := Lib.hid hb
    clear hps hm hb
    by_cases hltj : j1 < P.length
    case neg =>
      have ek : decide ((j1 : Int) < (P.length : Int)) = false := decide_eq_false (by omega)
      have ek2 : decide (j1 < P.length) = false := decide_eq_false hltj
      obtain rfl : j1 = P.length := by omega
      have PS2 := Lib.hid PS.out.rowj
      clear PS
      go_wp2_with fail
      go_roundw
      case rel => exact ⟨i1 + 1, ag, W, by go_num, rfl, by omega, PS2.out, M4.out, B4.out⟩
      case measure => simp [intOf]; omega
    have ek : decide ((j1 : Int) < (P.length : Int)) = true := decide_eq_true (by omega)
    have ek2 : decide (j1 < P.length) = true := decide_eq_true hltj
    have eki : (j1 : Int) < (P.length : Int) := by omega
    obtain ⟨wq, hwq⟩ : ∃ wq : World, wq = wr := ⟨_, rfl⟩
    subst hwq
    go_wp2_with fail
    go_loopw [11, 8] (fun i v wr => ∃ (k1 : Nat) (ag : Bool) (W : Mx), i = .int .i64 k1 ∧ v = .bool ag ∧ k1 ≤ P.length ∧ PassR (edge M) P.length 1099511627776 (pot P.length 1099511627776 W0) W ag i1 j1 k1 ∧ MxO B wr B P.length gs W ∧ Below B w wr) (fun i _ _ => P.length - (intOf i).toNat)
    case atStart => exact ⟨0, ag, W, rfl, rfl, Nat.zero_le _, PS.out, M4.out, B4.out⟩
    case round =>
    clear PS M4 B4
    obtain ⟨k1, ag, W, rfl, rfl, hk1, hps, hm, hb⟩ := hrel
    have PS := Lib.hid hps
    have M5 := Lib.hid hm
    have B5 := Lib.hid hb
    clear hps hm hb
    by_cases hltk : k1 < P.length
    case neg =>
      have fk : decide ((k1 : Int) < (P.length : Int)) = false := decide_eq_false (by omega)
      have fk2 : decide (k1 < P.length) = false := decide_eq_false hltk
      obtain rfl : k1 = P.length := by omega
      have PS2 := Lib.hid PS.out.rowk
      clear PS
      go_wp2_with fail
      go_roundw
      case rel => exact ⟨j1 + 1, ag, W, by go_num, rfl, by omega, PS2.out, M5.out, B5.out⟩
      case measure => simp [intOf]; omega
    have fk : decide ((k1 : Int) < (P.length : Int)) = true := decide_eq_true (by omega)
    have fk2 : decide (k1 < P.length) = true := decide_eq_true hltk
    have fki : (k1 : Int) < (P.length : Int) := by omega
    have HMr := Lib.hid (HM.out.below (HB.out.symm ▸ B5.out))
    obtain ⟨a, ha, _, b, cbi, hbb, hck, hcx⟩ := HMr.out.cells k1 hltk
    obtain rfl : q = a := by injection ha
    obtain ⟨a, ha, _, b', cbj, hbb', hcj, hcy⟩ := HMr.out.cells j1 hltj
    obtain rfl : q = a := by injection ha
    have kx := hcx j1 hltj
    have ky := hcy k1 hltk
    have kF : wr.cell? ⟨B, i1, none⟩ = some (.slice (some ⟨gs[i1], 0, none⟩) P.length P.length) := M5.out.cellF i1 hig
    have kz := M5.out.cellG i1 k1 hig hltk
    have kv := M5.out.cellG i1 j1 hig hltj
    have fG : wr.frozen? ⟨gs[i1], j1, none⟩ = false := M5.out.froz i1 j1 hig
    have hGB := (M5.out.gge _ (List.getElem_mem hig)).1
    have hSET := Lib.hid (fun (s : Int) m => (M5.out.drewN m).set i1 j1 hig hltj s)
    have hsnd := PS.out.st.sound
    have hvn := hsnd.nn i1 j1 hlti hltj
    have hzn := hsnd.nn i1 k1 hlti hltk
    have hxT := (HBD.out k1 j1 hltk hltj).2
    have hyn := (HBD.out j1 k1 hltj hltk).1
    have HE := Lib.hid (show edge M k1 j1 = if M j1 k1 < M k1 j1 then M k1 j1 else 0 from rfl)
    have HWAY := Lib.hid (show M j1 k1 < M k1 j1 → k1 = i1 → CT.Way (edge M) P.length (M k1 j1) i1 j1 from fun h e => by subst e; exact .one hltk hltj (by rw [HE.out, if_pos h]; exact Int.le_refl _))
    have HWAY2 := Lib.hid (show M j1 k1 < M k1 j1 → k1 ≠ i1 → 0 < W i1 k1 → ∀ s, s ≤ W i1 k1 → s ≤ M k1 j1 → CT.Way (edge M) P.length s i1 j1 from fun h hne hz s h1 h2 => ((hsnd.way i1 k1 hlti hltk (Ne.symm hne) hz).mono h1).more hltj (by rw [HE.out, if_pos h]; exact h2))
    have HTRI := Lib.hid (show (i1 ≠ j1 → (k1 = i1 → (if M j1 k1 < M k1 j1 then M k1 j1 else 0) ≤ W i1 j1) ∧ (k1 ≠ i1 → min (W i1 k1) (if M j1 k1 < M k1 j1 then M k1 j1 else 0) ≤ W i1 j1)) → PassR (edge M) P.length 1099511627776 (pot P.length 1099511627776 W0) W ag i1 j1 (k1 + 1) from fun h => PS.out.skip (fun hij => ⟨fun e => by
      have := (h hij).1 e
      subst e
      rw [← HE.out] at this
      exact this, fun e => by
      have := (h hij).2 e
      rw [← HE.out] at this
      exact this⟩))
    have HPS := Lib.hid (show ∀ s, i1 ≠ j1 → W i1 j1 < s → s ≤ 1099511627776 → CT.Way (edge M) P.length s i1 j1 → PassR (edge M) P.length 1099511627776 (pot P.length 1099511627776 W0) (upd W i1 j1 s) true i1 j1 (k1 + 1) from fun s h1 h2 h3 h4 => PS.out.set hlti hltj h1 h2 h3 h4)
    clear hcx hcy ha HMr hsnd PS HE
    generalize hx : M k1 j1 = x at *
    generalize hy : M j1 k1 = y at *
    generalize hz : W i1 k1 = z at *
    generalize hv : W i1 j1 = v at *
    generalize gs[i1] = G at *
    clear hx hy hz hv
    by_cases hij : i1 = j1
    · have g0 : ((i1 : Int) == (j1 : Int)) = true := by rw [hij]; simp
      have g0' : (i1 == j1) = true := by rw [hij]; simp
      have PS2 := Lib.hid (HTRI.out (fun h => absurd hij h))
      clear hij HTRI HPS HWAY HWAY2 hSET
      go_upto_region 23 with (fail)
      refine Seg.wp_region_segs (fun w' => ∃ m, w' = wr.drewN m) [] [0, 1, 2, 3, 4, 5, 6, 7, 8, 9, 10, 11, 12, 13, 14, 15, 16, 17, 18, 19, 20, 21, 22, 23, 24, 25, 26, 27, 28, 29] 30 (by kernel_rfl) (by kernel_rfl) (fun _ _ d _ _ h => by cases d <;> exact h) (⟨1, rfl⟩) ?_
      simp only [List.map_cons, List.map_nil, Seg.opAt, List.drop_succ_cons, List.drop_zero, Seg.wpSegs, Array.getD_eq_getD_getElem?, List.getElem?_toArray, List.getElem?_cons_succ, List.getElem?_cons_zero, Option.getD_some]
      repeat (any_goals (first | go_big_quiet_step (fail) | quiet_step (fail)))
      refine wpQuiet_nil ?_
      go_wp2_with go_big_skip
      go_roundw
      case rel => exact ⟨k1 + 1, ag, W, by go_num, rfl, by omega, PS2.out, M5.out.drewN _, bel_drewN B5.out _⟩
      case measure => simp [intOf]; omega
    have g0 : ((i1 : Int) == (j1 : Int)) = false := by rw [beq_eq_false_iff_ne]; omega
    have g0' : (i1 == j1) = false := by rw [beq_eq_false_iff_ne]; exact hij
    by_cases hxy : x ≤ y
    · have g1 : decide (x ≤ y) = true := decide_eq_true hxy
      have PS2 := Lib.hid (HTRI.out (fun _ => ⟨fun _ => by rw [if_neg (by omega)]; exact hvn, fun _ => by rw [if_neg (by omega)]; omega⟩))
      clear hij hxy HTRI HPS HWAY HWAY2 hSET
      go_upto_region 23 with (fail)
      refine Seg.wp_region_segs (fun w' => ∃ m, w' = wr.drewN m) [] [0, 1, 2, 3, 4, 5, 6, 7, 8, 9, 10, 11, 12, 13, 14, 15, 16, 17, 18, 19, 20, 21, 22, 23, 24, 25, 26, 27, 28, 29] 30 (by kernel_rfl) (by kernel_rfl) (fun _ _ d _ _ h => by cases d <;> exact h) (⟨1, rfl⟩) ?_
      simp only [List.map_cons, List.map_nil, Seg.opAt, List.drop_succ_cons, List.drop_zero, Seg.wpSegs, Array.getD_eq_getD_getElem?, List.getElem?_toArray, List.getElem?_cons_succ, List.getElem?_cons_zero, Option.getD_some]
      repeat (any_goals (first | go_big_quiet_step (fail) | quiet_step (fail)))
      refine wpQuiet_nil ?_
      go_wp2_with go_big_skip
      go_roundw
      case rel => exact ⟨k1 + 1, ag, W, by go_num, rfl, by omega, PS2.out, M5.out.drewN _, bel_drewN B5.out _⟩
      case measure => simp [intOf]; omega
    have g1 : decide (x ≤ y) = false := decide_eq_false hxy
    have hxy2 : y < x := by omega
    by_cases hki : k1 = i1
    · have g2 : ((k1 : Int) != (i1 : Int)) = false := by rw [hki]; simp
      have g2' : (k1 != i1) = false := by rw [hki]; simp
      by_cases hvx : v < x
      · have g3 : decide (v < x) = true := decide_eq_true hvx
        have PS2 := Lib.hid (HPS.out x hij hvx hxT (HWAY.out hxy2 hki))
        have MS := Lib.hid (hSET.out x)
        clear hij hxy hxy2 hki hvx HTRI HPS HWAY HWAY2 hSET
        go_upto_region 23 with (fail)
        refine Seg.wp_region_segs (fun w' => ∃ m, w' = wr.drewN m) [] [0, 1, 2, 3, 4, 5, 6, 7, 8, 9, 10, 11, 12, 13, 14, 15, 16, 17, 18, 19, 20, 21, 22, 23, 24, 25, 26, 27, 28, 29] 30 (by kernel_rfl) (by kernel_rfl) (fun _ _ d _ _ h => by cases d <;> exact h) (⟨1, rfl⟩) ?_
        simp only [List.map_cons, List.map_nil, Seg.opAt, List.drop_succ_cons, List.drop_zero, Seg.wpSegs, Array.getD_eq_getD_getElem?, List.getElem?_toArray, List.getElem?_cons_succ, List.getElem?_cons_zero, Option.getD_some]
        repeat (any_goals (first | go_big_quiet_step (fail) | quiet_step (fail)))
        refine wpQuiet_nil ?_
        go_wp2_with go_big_skip
        go_roundw
        case rel => exact ⟨k1 + 1, true, _, by go_num, rfl, by omega, PS2.out, MS.out _, (bel_drewN B5.out _).setCell hGB _⟩
        case measure => simp [intOf]; omega
      · have g3 : decide (v < x) = false := decide_eq_false hvx
        have PS2 := Lib.hid (HTRI.out (fun _ => ⟨fun _ => by rw [if_pos hxy2]; omega, fun h => absurd hki h⟩))
        clear hij hxy hxy2 hki hvx HTRI HPS HWAY HWAY2 hSET
        go_upto_region 23 with (fail)
        refine Seg.wp_region_segs (fun w' => ∃ m, w' = wr.drewN m) [] [0, 1, 2, 3, 4, 5, 6, 7, 8, 9, 10, 11, 12, 13, 14, 15, 16, 17, 18, 19, 20, 21, 22, 23, 24, 25, 26, 27, 28, 29] 30 (by kernel_rfl) (by kernel_rfl) (fun _ _ d _ _ h => by cases d <;> exact h) (⟨1, rfl⟩) ?_
        simp only [List.map_cons, List.map_nil, Seg.opAt, List.drop_succ_cons, List.drop_zero, Seg.wpSegs, Array.getD_eq_getD_getElem?, List.getElem?_toArray, List.getElem?_cons_succ, List.getElem?_cons_zero, Option.getD_some]
        repeat (any_goals (first | go_big_quiet_step (fail) | quiet_step (fail)))
        refine wpQuiet_nil ?_
        go_wp2_with go_big_skip
        go_roundw
        case rel => exact ⟨k1 + 1, ag, W, by go_num, rfl, by omega, PS2.out, M5.out.drewN _, bel_drewN B5.out _⟩
        case measure => simp [intOf]; omega
    have g2 : ((k1 : Int) != (i1 : Int)) = true := by rw [bne_iff_ne]; omega
    have g2' : (k1 != i1) = true := by rw [bne_iff_ne]; exact hki
    by_cases hz0 : z = 0
    · have g3 : (z == 0) = true := by rw [beq_iff_eq]; exact hz0
      have PS2 := Lib.hid (HTRI.out (fun _ => ⟨fun h => absurd h hki, fun _ => by omega⟩))
      clear hij hxy hxy2 hki hz0 HTRI HPS HWAY HWAY2 hSET
      go_upto_region 23 with (fail)
      refine Seg.wp_region_segs (fun w' => ∃ m, w' = wr.drewN m) [] [0, 1, 2, 3, 4, 5, 6, 7, 8, 9, 10, 11, 12, 13, 14, 15, 16, 17, 18, 19, 20, 21, 22, 23, 24, 25, 26, 27, 28, 29] 30 (by kernel_rfl) (by kernel_rfl) (fun _ _ d _ _ h => by cases d <;> exact h) (⟨1, rfl⟩) ?_
      simp only [List.map_cons, List.map_nil, Seg.opAt, List.drop_succ_cons, List.drop_zero, Seg.wpSegs, Array.getD_eq_getD_getElem?, List.getElem?_toArray, List.getElem?_cons_succ, List.getElem?_cons_zero, Option.getD_some]
      repeat (any_goals (first | go_big_quiet_step (fail) | quiet_step (fail)))
      refine wpQuiet_nil ?_
      go_wp2_with go_big_skip
      go_roundw
      case rel => exact ⟨k1 + 1, ag, W, by go_num, rfl, by omega, PS2.out, M5.out.drewN _, bel_drewN B5.out _⟩
      case measure => simp [intOf]; omega
    have g3 : (z == 0) = false := by rw [beq_eq_false_iff_ne]; exact hz0
    by_cases hzx : z < x
    · have g4 : decide (z < x) = true := decide_eq_true hzx
      by_cases hvz : v < z
      · have g5 : decide (v < z) = true := decide_eq_true hvz
        have PS2 := Lib.hid (HPS.out z hij hvz (by omega) (HWAY2.out hxy2 hki (by omega) z (Int.le_refl _) (by omega)))
        have MS := Lib.hid (hSET.out z)
        clear hij hxy hxy2 hki hz0 hzx hvz HTRI HPS HWAY HWAY2 hSET
        go_upto_region 23 with (fail)
        refine Seg.wp_region_segs (fun w' => ∃ m, w' = wr.drewN m) [] [0, 1, 2, 3, 4, 5, 6, 7, 8, 9, 10, 11, 12, 13, 14, 15, 16, 17, 18, 19, 20, 21, 22, 23, 24, 25, 26, 27, 28, 29] 30 (by kernel_rfl) (by kernel_rfl) (fun _ _ d _ _ h => by cases d <;> exact h) (⟨1, rfl⟩) ?_
        simp only [List.map_cons, List.map_nil, Seg.opAt, List.drop_succ_cons, List.drop_zero, Seg.wpSegs, Array.getD_eq_getD_getElem?, List.getElem?_toArray, List.getElem?_cons_succ, List.getElem?_cons_zero, Option.getD_some]
        repeat (any_goals (first | go_big_quiet_step (fail) | quiet_step (fail)))
        refine wpQuiet_nil ?_
        go_wp2_with go_big_skip
        go_roundw
        case rel => exact ⟨k1 + 1, true, _, by go_num, rfl, by omega, PS2.out, MS.out _, (bel_drewN B5.out _).setCell hGB _⟩
        case measure => simp [intOf]; omega
      · have g5 : decide (v < z) = false := decide_eq_false hvz
        have PS2 := Lib.hid (HTRI.out (fun _ => ⟨fun h => absurd h hki, fun _ => by rw [if_pos hxy2]; omega⟩))
        clear hij hxy hxy2 hki hz0 hzx hvz HTRI HPS HWAY HWAY2 hSET
        go_upto_region 23 with (fail)
        refine Seg.wp_region_segs (fun w' => ∃ m, w' = wr.drewN m) [] [0, 1, 2, 3, 4, 5, 6, 7, 8, 9, 10, 11, 12, 13, 14, 15, 16, 17, 18, 19, 20, 21, 22, 23, 24, 25, 26, 27, 28, 29] 30 (by kernel_rfl) (by kernel_rfl) (fun _ _ d _ _ h => by cases d <;> exact h) (⟨1, rfl⟩) ?_
        simp only [List.map_cons, List.map_nil, Seg.opAt, List.drop_succ_cons, List.drop_zero, Seg.wpSegs, Array.getD_eq_getD_getElem?, List.getElem?_toArray, List.getElem?_cons_succ, List.getElem?_cons_zero, Option.getD_some]
        repeat (any_goals (first | go_big_quiet_step (fail) | quiet_step (fail)))
        refine wpQuiet_nil ?_
        go_wp2_with go_big_skip
        go_roundw
        case rel => exact ⟨k1 + 1, ag, W, by go_num, rfl, by omega, PS2.out, M5.out.drewN _, bel_drewN B5.out _⟩
        case measure => simp [intOf]; omega
    · have g4 : decide (z < x) = false := decide_eq_false hzx
      by_cases hvx : v < x
      · have g5 : decide (v < x) = true := decide_eq_true hvx
        have PS2 := Lib.hid (HPS.out x hij hvx hxT (HWAY2.out hxy2 hki (by omega) x (by omega) (Int.le_refl _)))
        have MS := Lib.hid (hSET.out x)
        clear hij hxy hxy2 hki hz0 hzx hvx HTRI HPS HWAY HWAY2 hSET
        go_upto_region 23 with (fail)
        refine Seg.wp_region_segs (fun w' => ∃ m, w' = wr.drewN m) [] [0, 1, 2, 3, 4, 5, 6, 7, 8, 9, 10, 11, 12, 13, 14, 15, 16, 17, 18, 19, 20, 21, 22, 23, 24, 25, 26, 27, 28, 29] 30 (by kernel_rfl) (by kernel_rfl) (fun _ _ d _ _ h => by cases d <;> exact h) (⟨1, rfl⟩) ?_
        simp only [List.map_cons, List.map_nil, Seg.opAt, List.drop_succ_cons, List.drop_zero, Seg.wpSegs, Array.getD_eq_getD_getElem?, List.getElem?_toArray, List.getElem?_cons_succ, List.getElem?_cons_zero, Option.getD_some]
        repeat (any_goals (first | go_big_quiet_step (fail) | quiet_step (fail)))
        refine wpQuiet_nil ?_
        go_wp2_with go_big_skip
        go_roundw
        case rel => exact ⟨k1 + 1, true, _, by go_num, rfl, by omega, PS2.out, MS.out _, (bel_drewN B5.out _).setCell hGB _⟩
        case measure => simp [intOf]; omega
      · have g5 : decide (v < x) = false := decide_eq_false hvx
        have PS2 := Lib.hid (HTRI.out (fun _ => ⟨fun h => absurd h hki, fun _ => by rw [if_pos hxy2]; omega⟩))
        clear hij hxy hxy2 hki hz0 hzx hvx HTRI HPS HWAY HWAY2 hSET
        go_upto_region 23 with (fail)
        refine Seg.wp_region_segs (fun w' => ∃ m, w' = wr.drewN m) [] [0, 1, 2, 3, 4, 5, 6, 7, 8, 9, 10, 11, 12, 13, 14, 15, 16, 17, 18, 19, 20, 21, 22, 23, 24, 25, 26, 27, 28, 29] 30 (by kernel_rfl) (by kernel_rfl) (fun _ _ d _ _ h => by cases d <;> exact h) (⟨1, rfl⟩) ?_
        simp only [List.map_cons, List.map_nil, Seg.opAt, List.drop_succ_cons, List.drop_zero, Seg.wpSegs, Array.getD_eq_getD_getElem?, List.getElem?_toArray, List.getElem?_cons_succ, List.getElem?_cons_zero, Option.getD_some]
        repeat (any_goals (first | go_big_quiet_step (fail) | quiet_step (fail)))
        refine wpQuiet_nil ?_
        go_wp2_with go_big_skip
        go_roundw
        case rel => exact ⟨k1 + 1, ag, W, by go_num, rfl, by omega, PS2.out, M5.out.drewN _, bel_drewN B5.out _⟩
        case measure => simp [intOf]; omega
end Go.Proofs.Ytnohcdpnnhmpfaa
