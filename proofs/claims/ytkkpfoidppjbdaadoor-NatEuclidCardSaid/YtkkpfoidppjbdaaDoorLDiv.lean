/-
  (exact.Nat).Div.
-/
import Derived.Test.YtkkpfoidppjbdaaDoorLTimes
import Derived.Test.YtkkpfoidppjbdaaDoorLSub
import Derived.Test.YtkkpfoidppjbdaaDoorLMore
import Derived.Test.YtkkpfoidppjbdaaDoorLOf
import Derived.Deep.QuietTactic
import Derived.BigQuiet
namespace Go.Proofs.YtkkpfoidppjbdaaDoor
set_option linter.unusedVariables false
open Go.RowKit ML NL

theorem limbs_ownsRow {w : World} {base : Nat} {e : TypeId} {oc : Option Addr} {n cc : Nat} {L : List Nat} (h : w.ownsRow base e 1 (.slice oc n cc) n (uvals L)) : L.length = n ∧ LimbsAt w oc L ∧ (∀ a, oc = some a → base ≤ a.block ∧ a.block < w.heap.size) ∧ n ≤ cc := by
  have hl : L.length = n := by have := h.1; rw [length_uvals] at this; omega
  subst hl
  obtain ⟨oc2, cc2, he, hcc, hb, hI⟩ := limbsAt_own h
  simp only [Value.slice.injEq] at he
  obtain ⟨rfl, _, rfl⟩ := he
  refine ⟨rfl, hI, fun a ha => ⟨hb a ha, ?_⟩, hcc⟩
  rcases h.2 with ⟨hv, _⟩ | ⟨g, cap, cur, hv, _, hg, _⟩
  · rw [ha] at hv; simp at hv
  · rw [ha] at hv
    simp only [Value.slice.injEq, Option.some.injEq] at hv
    rw [hv.1]
    exact lt_of_heap hg
/-- the row of limbs that is written in place -/
theorem own_cells {w : World} {base : Nat} {e : TypeId} {v : Value} {L : List Nat} (h : w.ownsRow base e 1 v L.length (uvals L)) (h0 : L ≠ []) : ∃ g cc cs, v = .slice (some ⟨g, 0, none⟩) L.length cc ∧ base ≤ g ∧ w.heap[g]? = some (.cells cs e (0, 0)) ∧ RowIs cs 0 L ∧ L.length ≤ cc ∧ cs.size = cc := by
  rcases h.2 with ⟨hv, h1⟩ | ⟨g, cap, cur, hv, hb, hg, hnc, hm, hc, ht⟩
  · exact absurd (List.length_eq_zero_iff.1 h1) h0
  · rw [Nat.mul_one] at ht hc
    exact ⟨g, cap, cur, hv, hb, hg, rowIs_own ht, hnc, hc⟩
theorem rowIs_drop {cs : Array Value} {R : List Nat} {i k : Nat} (h : RowIs cs 0 R) (hi : i + k ≤ R.length) : RowIs cs i ((R.drop i).take k) := by
  intro j hj
  rw [List.length_take, List.length_drop] at hj
  have := h (i + j) (by omega)
  rw [Nat.zero_add] at this
  rw [this]
  have hjk : j < k := by omega
  simp [lAt, List.getD_eq_getElem?_getD, List.getElem?_drop, hjk]
theorem rowIs_put {w w' : World} {g i k : Nat} {T : TypeId} {cs cs' : Array Value} {R W : List Nat} (h : RowIs cs 0 R) (hU : Turned w w' g i T cs cs' k) (hW : RowIs cs' i W) (hl : W.length = k) (hi : i + k ≤ R.length) : RowIs cs' 0 (putL R W i) := by
  intro j hj
  rw [length_putL (by omega)] at hj
  rw [Nat.zero_add]
  have e1 : (R.take i).length = i := by rw [List.length_take]; omega
  rcases Nat.lt_or_ge j i with h1 | h1
  · rw [hU.out j (.inl h1)]
    have := h j hj
    rw [Nat.zero_add] at this
    rw [this]
    simp [lAt, putL, List.getD_eq_getElem?_getD, List.getElem?_append, e1, h1, hj]
  · rcases Nat.lt_or_ge j (i + k) with h2 | h2
    · have := hW (j - i) (by omega)
      rw [show i + (j - i) = j by omega] at this
      rw [this]
      have h3 : j - i < W.length := by omega
      have h4 : ¬ j < i := by omega
      simp [lAt, putL, List.getD_eq_getElem?_getD, List.getElem?_append, e1, h3, h4]
    · rw [hU.out j (.inr h2)]
      have := h j hj
      rw [Nat.zero_add] at this
      rw [this]
      have h3 : ¬ j - i < W.length := by omega
      have h4 : ¬ j < i := by omega
      have h5 : i + W.length + (j - i - W.length) = j := by omega
      simp [lAt, putL, List.getD_eq_getElem?_getD, List.getElem?_append, e1, h3, h4, List.getElem?_drop, h5]
theorem lAt_part (R : List Nat) (i k j : Nat) (hj : j < k) : lAt ((R.drop i).take k) j = lAt R (i + j) := by
  simp [lAt, List.getD_eq_getElem?_getD, List.getElem?_drop, hj]
/-- what is known of a world within the division: the divisor, what is left, the quotient so far -/
structure DivW (B0 : Nat) (w wr : World) (g gq : Nat) (od : Option Addr) (v : Nat) (R Q : List Nat) : Prop where
  bel : Below B0 w wr
  div : LimbsAt wr od (dig v)
  dlt : ∀ a, od = some a → a.block < g
  rest : ∃ cs : Array Value, wr.heap[g]? = some (.cells cs 105 (0, 0)) ∧ RowIs cs 0 R
  quot : wr.heap[gq]? = some (.cells (uvals Q).toArray 105 (0, 0))
  ne : g < gq
  base : B0 ≤ g
theorem DivW.below {B0 g gq v : Nat} {w wr w2 : World} {od : Option Addr} {R Q : List Nat} (H : DivW B0 w wr g gq od v R Q) (hb : Below wr.heap.size wr w2) : DivW B0 w w2 g gq od v R Q := by
  obtain ⟨cs, h1, h2⟩ := H.rest
  have := lt_of_heap h1
  have := H.base
  exact ⟨H.bel.trans (hb.mono (by omega)), H.div.below hb, H.dlt, ⟨cs, bel_keep hb (lt_of_heap h1) h1, h2⟩, bel_keep hb (lt_of_heap H.quot) H.quot, H.ne, H.base⟩

theorem Turned.trans {w w1 w2 : World} {d o n : Nat} {T : TypeId} {cs cs1 cs2 : Array Value} (h : Turned w w1 d o T cs cs1 n) (k : Turned w1 w2 d o T cs1 cs2 n) : Turned w w2 d o T cs cs2 n :=
  ⟨h.only.trans k.only, k.heap, k.size.trans h.size, fun j hj => (k.out j hj).trans (h.out j hj)⟩
/-- the part of what is left that was turned in place -/
theorem DivW.turned {B0 g gq v i k : Nat} {w wr w2 : World} {od : Option Addr} {R Q W : List Nat} {cs cs' : Array Value} (H : DivW B0 w wr g gq od v R Q) (hr : RowIs cs 0 R)
    (U : Turned wr w2 g i 105 cs cs' k) (hW : RowIs cs' i W) (hl : W.length = k) (hi : i + k ≤ R.length) : DivW B0 w w2 g gq od v (putL R W i) Q :=
  ⟨bel_only H.bel U.only H.base, H.div.only U.only (fun a h => Nat.ne_of_lt (H.dlt a h)), H.dlt, ⟨cs', U.heap, rowIs_put hr U hW hl hi⟩, U.only.keep (Nat.ne_of_gt H.ne) H.quot, H.ne, H.base⟩
/-- a limb of the quotient written -/
theorem DivW.limb {B0 g gq v : Nat} {w wr : World} {od : Option Addr} {R Q : List Nat} (H : DivW B0 w wr g gq od v R Q) (i q : Nat) : DivW B0 w (wr.setCell ⟨gq, i, none⟩ (.int .u32 (q : Int))) g gq od v R (Q.set i q) := by
  have O := (Only.refl gq wr).setCell i (.int .u32 (q : Int))
  obtain ⟨cs, h1, h2⟩ := H.rest
  have := H.ne
  exact ⟨bel_only H.bel O (by have := H.base; omega), H.div.only O (fun a h => by have := H.dlt a h; omega), H.dlt, ⟨cs, O.keep (by omega) h1, h2⟩, set_uvals H.quot i q, H.ne, H.base⟩
set_option maxHeartbeats 4000000 in
set_option maxRecDepth 100000 in
theorem exDiv_small (x y : Nat) (oa ob : Option Addr) (ca cb : Nat) (w : World) (hxy : x < y) (ha : LimbsAt w oa (dig x)) (hb : LimbsAt w ob (dig y)) (hx : (dig x).length < 1099511627775) (hy : (dig y).length < 1099511627775) :
    Calls Tryd.prog 65 #[.slice oa (dig x).length ca, .slice ob (dig y).length cb] w fun e w' => ∃ oq cq or cr, e = .returned (.tuple #[.slice oq (dig (x / y)).length cq, .slice or (dig (x % y)).length cr]) ∧ LimbsAt w' oq (dig (x / y)) ∧ LimbsAt w' or (dig (x % y)) ∧ Below w.heap.size w w' := by
  have QC := Lib.hid (exCmp_any x y oa ob ca cb w ha hb (by omega) (by omega))
  rw [cmpI_lt hxy] at QC
  have QL := Lib.hid (fun w h => exClone_any (dig x) oa ca w h (by omega))
  have HA := Lib.hid ha
  have e1 := Lib.hid (Nat.div_eq_of_lt hxy)
  have e2 := Lib.hid (Nat.mod_eq_of_lt hxy)
  clear hxy ha hb
  go_enter Tryd.func65, Tryd.ntmps65
  go_upto_region 2 with (go_at_call 54; refine QC.out.mono ?_; rintro e w1 ⟨rfl, bel1⟩)
  go_wp2_with (go_at_call 83; refine (QL.out w1 (HA.out.below bel1)).mono ?_; rintro e w2 ⟨v, rfl, hv⟩)
  go_ret2
  rw [e1.out, e2.out, dig_zero]
  rcases hv with ⟨_, hL, rfl, rfl⟩ | ⟨g, cc, cs, rfl, hg, hh, hr, hcc, bel⟩
  · rw [hL]
    exact ⟨none, 0, none, 0, rfl, LimbsAt.nil, LimbsAt.nil, bel1⟩
  · exact ⟨none, 0, _, _, rfl, LimbsAt.nil, rowIs_limbs hh hr, bel1.trans (bel.mono bel1.size)⟩
theorem one_limb {y : Nat} (h : (dig y).length = 1) : lAt (dig y) 0 = y ∧ 0 < y ∧ y < 1000000000 := by
  have e := val_take_succ (dig y) 0
  rw [List.take_of_length_le (by omega), val_dig] at e
  simp [val] at e
  have h1 := getD_lt (all_dig y) 0
  have h2 := dig_ge (n := y) (by intro h0; rw [h0] at h; simp at h)
  rw [h] at h2
  refine ⟨?_, Nat.lt_of_lt_of_le (by decide) h2, ?_⟩
  · unfold lAt; rw [List.getD_eq_getElem?_getD]; exact e.symm
  · rw [e]; rw [List.getD_eq_getElem?_getD] at h1; exact h1
set_option maxHeartbeats 4000000 in
set_option maxRecDepth 100000 in
theorem exDiv_limb (x y : Nat) (oa ob : Option Addr) (ca cb : Nat) (w : World) (hxy : y ≤ x) (h1 : (dig y).length = 1) (ha : LimbsAt w oa (dig x)) (hb : LimbsAt w ob (dig y)) (hx : (dig x).length < 1099511627775) (hy : (dig y).length < 1099511627775) :
    Calls Tryd.prog 65 #[.slice oa (dig x).length ca, .slice ob (dig y).length cb] w fun e w' => ∃ oq cq or cr, e = .returned (.tuple #[.slice oq (dig (x / y)).length cq, .slice or (dig (x % y)).length cr]) ∧ LimbsAt w' oq (dig (x / y)) ∧ LimbsAt w' or (dig (x % y)) ∧ Below w.heap.size w w' := by
  have QC := Lib.hid (exCmp_any x y oa ob ca cb w ha hb (by omega) (by omega))
  have hc0 : ¬ cmpI x y < 0 := by
    unfold cmpI
    rw [if_neg (by omega)]
    split <;> omega
  obtain ⟨hy1, hy0, hy9⟩ := one_limb h1
  obtain ⟨b0, hob, hbc⟩ := hb.get 0 (by omega)
  have hbc2 : w.cell? (b0.add 0) = some (.int .u32 ((lAt (dig y) 0 : Nat) : Int)) := hbc
  rw [hy1] at hbc2
  have hblk : b0.block < w.heap.size := by
    obtain ⟨a1, h2, h3, _⟩ := hb.cells 0 (by omega)
    rw [hob] at h2
    cases h2
    exact h3
  have QB := Lib.hid (fun w h => exBy_any x y oa ca w h (by omega) hy0 hy9)
  have QO := Lib.hid (fun n (hn : n < 1000000000) w => exOf_any n w (by omega))
  have HA := Lib.hid ha
  have hm9 := Lib.hid (show x % y < 1000000000 by have := Nat.mod_lt x hy0; omega)
  subst hob
  clear hxy ha hb hbc hy1
  generalize cmpI x y = c at *
  rw [h1] at QC ⊢
  have H1 := Lib.hid h1
  clear h1
  go_enter Tryd.func65, Tryd.ntmps65
  go_upto_region 3 with (go_at_call 54; refine QC.out.mono ?_; rintro e w1 ⟨rfl, bel1⟩)
  have hbc3 : w1.cell? (b0.add 0) = some (.int .u32 (y : Int)) := by rw [bel1.cell (p := b0.add 0) (by rw [addr_block']; exact hblk)]; exact hbc2
  rw [show b0.add 0 = b0 by unfold Addr.add; exact if_pos rfl] at hbc3
  clear hbc2 QC
  go_upto_region 5 with (go_at_call 87; refine (QB.out w1 (HA.out.below bel1)).mono ?_; rintro e w2 ⟨oq, cq, m, rfl, hm, hI2, -, bel2⟩; have HM := Lib.hid hm; clear hm)
  have hm8 : m < 1000000000 := by rw [HM.out]; exact hm9.out
  clear QB
  go_wp2_with (go_at_call 88; refine (QO.out m hm8 w2).mono ?_; rintro e w3 ⟨or, cr, rfl, hI3, -, bel3⟩)
  go_ret2
  rw [← HM.out]
  exact ⟨oq, cq, or, cr, rfl, hI2.below bel3, hI3, bel1.trans ((bel2.trans (bel3.mono bel2.size)).mono bel1.size)⟩
end Go.Proofs.YtkkpfoidppjbdaaDoor
