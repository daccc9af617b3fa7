/-
  The reference's Gcd.
-/
import Derived.Test.YtkkpfoidppjbdaaDoorNDiv
namespace Go.Proofs.YtkkpfoidppjbdaaDoor
set_option linter.unusedVariables false
open Go.RowKit ML ND

theorem ints_none {w : World} {L : List Nat} (h : IntsAt w none L) : L = [] := by
  cases hq : L with
  | nil => rfl
  | cons x r =>
    obtain ⟨a, h1, _⟩ := h.cells 0 (by rw [hq]; simp)
    cases h1
/-- the number that a row of ints holds -/
def intsN (w : World) (v : Value) : Nat := match v with
  | .slice (some a) n _ => val ((List.range n).map fun i => match w.cell? (a.add i) with | some v => (intOf v).toNat | none => 0)
  | _ => 0
theorem intsN_at {w : World} {oc : Option Addr} {L : List Nat} (h : IntsAt w oc L) (cc : Nat) : intsN w (.slice oc L.length cc) = val L := by
  cases oc with
  | none => rw [ints_none h]; rfl
  | some a =>
    have e : ((List.range L.length).map fun i => match w.cell? (a.add i) with | some v => (intOf v).toNat | none => 0) = L := by
      refine List.ext_getElem (by rw [List.length_map, List.length_range]) (fun i h1 h2 => ?_)
      obtain ⟨a', he, _, hc⟩ := h.cells i h2
      cases he
      rw [List.getElem_map, List.getElem_range, hc]
      simp [intOf]
    show val ((List.range L.length).map fun i => match w.cell? (a.add i) with | some v => (intOf v).toNat | none => 0) = val L
    rw [e]
set_option maxHeartbeats 1000000 in
set_option maxRecDepth 100000 in
theorem refGcd_any (x y : Nat) (oa ob : Option Addr) (ca cb : Nat) (w : World) (ha : IntsAt w oa (dig x)) (hb : IntsAt w ob (dig y)) (hx : (dig x).length < 1099511627775) (hy : (dig y).length < 1099511627775) :
    Calls Tryd.prog 26 #[.slice oa (dig x).length ca, .slice ob (dig y).length cb] w fun e w' => ∃ oc cc, e = .returned (.slice oc (dig (Nat.gcd x y)).length cc) ∧ IntsAt w' oc (dig (Nat.gcd x y)) ∧ Below w.heap.size w w' := by
  have HA := Lib.hid ha
  have HBB := Lib.hid hb
  clear ha hb
  go_enter Tryd.func26, Tryd.ntmps26
  go_upto_region 1 with (fail)
  go_loopw [0, 1] (fun va vb wr => ∃ (X Y : Nat) (oX oY : Option Addr) (cX cY : Nat), va = .slice oX (dig X).length cX ∧ vb = .slice oY (dig Y).length cY ∧ Nat.gcd X Y = Nat.gcd x y ∧ (dig X).length < 1099511627775 ∧ (dig Y).length < 1099511627775 ∧ IntsAt wr oX (dig X) ∧ IntsAt wr oY (dig Y) ∧ Below w.heap.size w wr) (fun _ vb wr => intsN wr vb)
  case atStart => exact ⟨x, y, oa, ob, ca, cb, rfl, rfl, rfl, hx, hy, HA.out, HBB.out, Below.refl _ _⟩
  case round =>
  obtain ⟨X, Y, oX, oY, cX, cY, rfl, rfl, hg, hX, hY, hIX, hIY, bel⟩ := hrel
  clear HA HBB hx hy
  have HG := Lib.hid hg
  have HM := Lib.hid (intsN_at hIY cY)
  rw [val_dig] at HM
  by_cases h0 : Y = 0
  · subst h0
    have HIX := Lib.hid hIX
    rw [dig_zero]
    rw [Nat.gcd_zero_right] at HG
    clear hg hIX hIY HM
    go_wp2_with fail
    go_ret
    rw [← HG.out]
    exact ⟨oX, cX, rfl, HIX.out, bel⟩
  · have hY0 : 0 < Y := by omega
    have hlz : 0 < (dig Y).length := by
      rcases Nat.eq_zero_or_pos (dig Y).length with h1 | h1
      · have := lt_pow_length Y
        rw [h1] at this
        omega
      · exact h1
    have hlz2 : decide ((0 : Int) < ((dig Y).length : Int)) = true := by simp; omega
    have QD := Lib.hid (refDiv_any X Y oX oY cX cY wr hY0 hIX hIY (by omega) hY)
    have HIY := Lib.hid hIY
    have HML := Lib.hid (Nat.mod_lt X hY0)
    have HL := Lib.hid (show (dig (X % Y)).length ≤ (dig Y).length from length_dig_le _ _ (Nat.lt_trans (Nat.mod_lt X hY0) (lt_pow_length Y)))
    have hG2 := Lib.hid (show Nat.gcd Y (X % Y) = Nat.gcd x y by rw [Nat.gcd_comm, ← Nat.gcd_rec, Nat.gcd_comm]; exact hg)
    clear hg hIX hIY h0
    go_wp2_with (go_at_call 28; refine QD.out.mono ?_; rintro e w2 ⟨oq, cq, or, cr, rfl, hq, hr, bel2⟩; have HR := Lib.hid hr; clear hq hr)
    have hm2 := Lib.hid (intsN_at HR.out cr)
    go_roundw
    case rel => exact ⟨Y, X % Y, oY, or, cY, cr, rfl, rfl, hG2.out, hY, by have := HL.out; omega, HIY.out.below bel2, HR.out, bel.trans (bel2.mono bel.size)⟩
    case measure =>
      have e := hm2.out
      rw [val_dig] at e
      show intsN w2 (.slice or (dig (X % Y)).length cr) < intsN _ (.slice oY (dig Y).length cY)
      rw [e, HM.out]
      exact HML.out
end Go.Proofs.YtkkpfoidppjbdaaDoor
