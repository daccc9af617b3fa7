/-
  (exact.Nat).more, in place.
-/
import Derived.Test.YtkkpfoidppjbdaaDoorLLess
namespace Go.Proofs.YtkkpfoidppjbdaaDoor
set_option linter.unusedVariables false
open Go.RowKit ML NL

set_option maxHeartbeats 4000000 in
set_option maxRecDepth 100000 in
theorem exMore_any (L M : List Nat) (d o cap : Nat) (T : TypeId) (cs : Array Value) (ob : Option Addr) (cb : Nat) (w : World) (hL : AllD L) (hM : AllD M) (hd : w.heap[d]? = some (.cells cs T (0, 0))) (hr : RowIs cs o L) (hb : LimbsAt w ob M) (hne : ∀ a, ob = some a → a.block ≠ d) (hlL : L.length < 4398046511104) (hlM : M.length < 4398046511104) :
    Calls Tryd.prog 90 #[.slice (some ⟨d, o, none⟩) L.length cap, .slice ob M.length cb] w fun e w' => e = .returned (.tuple #[]) ∧ ∃ W u cs', MoreSt L M L.length W u ∧ RowIs cs' o W ∧ Turned w w' d o T cs cs' L.length := by
  have HR := Lib.hid hr
  have HD := Lib.hid hd
  have HB := Lib.hid hb
  have HNE := Lib.hid hne
  have HL := Lib.hid hL
  have HM := Lib.hid hM
  clear hr hd hb hne hL hM
  go_enter Tryd.func90, Tryd.ntmps90
  go_upto_region 2 with (fail)
  go_loopw [4, 9] (fun v i wr => ∃ (W : List Nat) (u k : Nat) (cs' : Array Value), k ≤ L.length ∧ v = .int .u32 u ∧ i = .int .i64 k ∧ MoreSt L M k W u ∧ RowIs cs' o W ∧ Turned w wr d o T cs cs' L.length) (fun _ i _ => L.length - (intOf i).toNat)
  case atStart => exact ⟨L, 0, 0, cs, by omega, rfl, rfl, MoreSt.init M HL.out, HR.out, Turned.refl HD.out⟩
  case round =>
  obtain ⟨W, u, k, cs', hk, rfl, rfl, S, R, U⟩ := hrel
  have hup := S.up
  by_cases hm : k < L.length
  · have d1 : decide ((k : Int) < (L.length : Int)) = true := by simp; omega
    have hkW : k < W.length := by rw [S.len]; exact hm
    have SN : Hid (MoreSt L M (k + 1) (W.set k ((lAt W k + u + lAt M k) % 1000000000)) ((lAt W k + u + lAt M k) / 1000000000)) := Lib.hid (S.next HM.out hm)
    have hcell : wr.cell? ⟨d, o + k, none⟩ = some (.int .u32 ((lAt W k : Nat) : Int)) := by
      rw [cell_of_row wr d (o + k) _ _ _ U.heap]; exact R k hkW
    have hfr := frozen_of_row wr d (o + k) _ _ U.heap
    have h1 : lAt W k < 1000000000 := getD_lt S.all k
    have h2 : lAt M k < 1000000000 := getD_lt HM.out k
    have RN := Lib.hid (fun s => R.set k s hkW)
    have UN := Lib.hid (fun v => U.set k v hm)
    have ho0 : (0 : Int) ≤ k := by omega
    have hkL : (k : Int) < (L.length : Int) := by omega
    have hbM := Lib.hid (fun (h : k < M.length) => (HB.out.only U.only HNE.out).get k h)
    have hM0 := Lib.hid (fun (h : ¬ k < M.length) => (show lAt M k = 0 by unfold lAt; rw [List.getD_eq_getElem?_getD, List.getElem?_eq_none (by omega)]; rfl))
    clear S R U hkW
    obtain ⟨b, hbe⟩ : ∃ b, b = lAt M k := ⟨_, rfl⟩
    rw [← hbe] at SN h2
    generalize lAt W k = a at *
    go_upto_if 21 with (fail)
    go_cut [6] (fun v w' => v = .int .u32 ((a : Int) + (u : Int) + (b : Int)) ∧ w' = wr)
    case first =>
      by_cases hM : k < M.length
      · have d2 : decide ((k : Int) < (M.length : Int)) = true := by simp; omega
        obtain ⟨b0, hob, hbc⟩ := hbM.out hM
        have hbc2 : wr.cell? (b0.add k) = some (.int .u32 (b : Int)) := by rw [hbe]; exact hbc
        have hjl : (k : Int) < (M.length : Int) := by omega
        subst hob
        clear hbc hbe hcell hfr
        go_wp2_with fail
        go_meet
        exact ⟨by go_num, rfl⟩
      · have d2 : decide ((k : Int) < (M.length : Int)) = false := by simp; omega
        have d3 : ¬ ((k : Int) < (M.length : Int)) := by omega
        have hb0 : b = 0 := by rw [hbe]; exact hM0.out hM
        subst hb0
        clear hbe hcell hfr
        go_wp2_with fail
        go_meet
        exact ⟨by go_num, rfl⟩
    case rest =>
    obtain ⟨rfl, hw0⟩ := hcut
    replace hw0 := hw0.symm
    subst hw0
    clear hbM hM0 hbe
    obtain ⟨D, hD⟩ : ∃ D : Nat, a + u + b = D := ⟨_, rfl⟩
    have hDi : (a : Int) + (u : Int) + (b : Int) = (D : Int) := by omega
    have hDb : D < 4000000000 := by omega
    rw [hD] at SN
    rw [hDi]
    clear hDi hD h1 h2
    obtain ⟨s, hs⟩ : ∃ s : Nat, D % 1000000000 = s := ⟨_, rfl⟩
    have hsi : (D : Int) % 1000000000 = (s : Int) := by omega
    rw [hs] at SN
    have R2 := Lib.hid (RN.out s)
    have U2 := Lib.hid (UN.out (.int .u32 s))
    clear RN UN
    go_upto_region 8 with (fail)
    refine wp_abs (fun w4 => Turned w w4 d o T cs (cs'.setIfInBounds (o + k) (.int .u32 s)) L.length) U2.out (fun w4 U4 => ?_)
    clear hcell hfr U2 hs hsi
    go_wp2_with fail
    go_roundw
    case rel => exact ⟨W.set k s, D / 1000000000, k + 1, _, by omega, by go_num, by go_num, SN.out, R2.out, U4⟩
    case measure => simp [intOf]; omega
  · have d1 : decide ((k : Int) < (L.length : Int)) = false := by simp; omega
    obtain rfl : k = L.length := by omega
    have hE := Lib.hid S
    clear S
    go_wp2_with fail
    go_end0
    exact ⟨rfl, W, u, cs', hE.out, R, U⟩
end Go.Proofs.YtkkpfoidppjbdaaDoor
