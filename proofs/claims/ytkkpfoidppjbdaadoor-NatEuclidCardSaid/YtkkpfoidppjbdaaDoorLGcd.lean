/-
  (exact.Nat).Div in all cases, exact.Gcd.
-/
import Derived.Test.YtkkpfoidppjbdaaDoorLDivL
namespace Go.Proofs.YtkkpfoidppjbdaaDoor
set_option linter.unusedVariables false
open Go.RowKit ML NL

theorem exDiv_any (x y : Nat) (oa ob : Option Addr) (ca cb : Nat) (w : World) (hy0 : 0 < y) (ha : LimbsAt w oa (dig x)) (hb : LimbsAt w ob (dig y)) (hx : (dig x).length < 1099511627775) (hy : (dig y).length < 1099511627775) :
    Calls Tryd.prog 65 #[.slice oa (dig x).length ca, .slice ob (dig y).length cb] w fun e w' => ∃ oq cq or cr, e = .returned (.tuple #[.slice oq (dig (x / y)).length cq, .slice or (dig (x % y)).length cr]) ∧ LimbsAt w' oq (dig (x / y)) ∧ LimbsAt w' or (dig (x % y)) ∧ Below w.heap.size w w' := by
  rcases Nat.lt_or_ge x y with h | h
  · exact exDiv_small x y oa ob ca cb w h ha hb hx hy
  · have hl : 0 < (dig y).length := by
      rcases Nat.eq_zero_or_pos (dig y).length with h0 | h0
      · have := lt_pow_length y; rw [h0] at this; omega
      · exact h0
    by_cases h1 : (dig y).length = 1
    · exact exDiv_limb x y oa ob ca cb w h h1 ha hb hx hy
    · exact exDiv_long x y ((dig y).length - 2) oa ob ca cb w h (by omega) ha hb hx hy
/-- the number that a row of limbs holds -/
def limbsN (w : World) (v : Value) : Nat := match v with
  | .slice (some a) n _ => val ((List.range n).map fun i => match w.cell? (a.add i) with | some v => (intOf v).toNat | none => 0)
  | _ => 0
theorem limbsN_at {w : World} {oc : Option Addr} {L : List Nat} (h : LimbsAt w oc L) (cc : Nat) : limbsN w (.slice oc L.length cc) = val L := by
  cases oc with
  | none => rw [limbs_none h]; rfl
  | some a =>
    have e : ((List.range L.length).map fun i => match w.cell? (a.add i) with | some v => (intOf v).toNat | none => 0) = L := by
      refine List.ext_getElem (by rw [List.length_map, List.length_range]) (fun i h1 h2 => ?_)
      obtain ⟨a', he, _, hc⟩ := h.cells i h2
      cases he
      rw [List.getElem_map, List.getElem_range, hc]
      simp [intOf]
    show val ((List.range L.length).map fun i => match w.cell? (a.add i) with | some v => (intOf v).toNat | none => 0) = val L
    rw [e]
set_option maxHeartbeats 1000000 in
set_option maxRecDepth 100000 in
theorem exGcd_any (x y : Nat) (oa ob : Option Addr) (ca cb : Nat) (w : World) (ha : LimbsAt w oa (dig x)) (hb : LimbsAt w ob (dig y)) (hx : (dig x).length < 1099511627775) (hy : (dig y).length < 1099511627775) :
    Calls Tryd.prog 63 #[.slice oa (dig x).length ca, .slice ob (dig y).length cb] w fun e w' => ∃ oc cc, e = .returned (.slice oc (dig (Nat.gcd x y)).length cc) ∧ LimbsAt w' oc (dig (Nat.gcd x y)) ∧ Below w.heap.size w w' := by
  have HA := Lib.hid ha
  have HBB := Lib.hid hb
  clear ha hb
  go_enter Tryd.func63, Tryd.ntmps63
  go_upto_region 1 with (fail)
  go_loopw [0, 1] (fun va vb wr => ∃ (X Y : Nat) (oX oY : Option Addr) (cX cY : Nat), va = .slice oX (dig X).length cX ∧ vb = .slice oY (dig Y).length cY ∧ Nat.gcd X Y = Nat.gcd x y ∧ (dig X).length < 1099511627775 ∧ (dig Y).length < 1099511627775 ∧ LimbsAt wr oX (dig X) ∧ LimbsAt wr oY (dig Y) ∧ Below w.heap.size w wr) (fun _ vb wr => limbsN wr vb)
  case atStart => exact ⟨x, y, oa, ob, ca, cb, rfl, rfl, rfl, hx, hy, HA.out, HBB.out, Below.refl _ _⟩
  case round =>
  obtain ⟨X, Y, oX, oY, cX, cY, rfl, rfl, hg, hX, hY, hIX, hIY, bel⟩ := hrel
  clear HA HBB hx hy
  have HG := Lib.hid hg
  have HM := Lib.hid (limbsN_at hIY cY)
  rw [val_dig] at HM
  have QZ := Lib.hid (exZero_any oY (dig Y).length cY wr)
  by_cases h0 : Y = 0
  · subst h0
    have HIX := Lib.hid hIX
    rw [dig_zero] at QZ ⊢
    rw [Nat.gcd_zero_right] at HG
    clear hg hIX hIY HM
    go_wp2_with (go_at_call 64; refine QZ.out.mono ?_; rintro e w1 ⟨rfl, rfl⟩)
    go_ret
    rw [← HG.out]
    exact ⟨oX, cX, rfl, HIX.out, bel⟩
  · have hY0 : 0 < Y := by omega
    have hlz : (((dig Y).length : Int) == 0) = false := by
      rw [beq_eq_false_iff_ne]
      intro h
      have h1 : (dig Y).length = 0 := by omega
      have := lt_pow_length Y
      rw [h1] at this
      omega
    have QD := Lib.hid (exDiv_any X Y oX oY cX cY wr hY0 hIX hIY hX hY)
    have HIY := Lib.hid hIY
    have HML := Lib.hid (Nat.mod_lt X hY0)
    have HL := Lib.hid (show (dig (X % Y)).length ≤ (dig Y).length from length_dig_le _ _ (Nat.lt_trans (Nat.mod_lt X hY0) (lt_pow_length Y)))
    have hG2 := Lib.hid (show Nat.gcd Y (X % Y) = Nat.gcd x y by rw [Nat.gcd_comm, ← Nat.gcd_rec, Nat.gcd_comm]; exact hg)
    rw [hlz] at QZ
    clear hg hIX hIY h0 hlz
    go_wp2_with (first
      | (go_at_call 64; refine QZ.out.mono ?_; rintro e w1 ⟨rfl, rfl⟩)
      | (go_at_call 65; refine QD.out.mono ?_; rintro e w2 ⟨oq, cq, or, cr, rfl, hq, hr, bel2⟩; have HR := Lib.hid hr; clear hq hr))
    have hm2 := Lib.hid (limbsN_at HR.out cr)
    go_roundw
    case rel => exact ⟨Y, X % Y, oY, or, cY, cr, rfl, rfl, hG2.out, hY, by have := HL.out; omega, HIY.out.below bel2, HR.out, bel.trans (bel2.mono bel.size)⟩
    case measure =>
      have e := hm2.out
      rw [val_dig] at e
      show limbsN w2 (.slice or (dig (X % Y)).length cr) < limbsN _ (.slice oY (dig Y).length cY)
      rw [e, HM.out]
      exact HML.out
end Go.Proofs.YtkkpfoidppjbdaaDoor
