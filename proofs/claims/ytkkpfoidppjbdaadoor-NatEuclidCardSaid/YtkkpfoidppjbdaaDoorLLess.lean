/-
  (exact.Nat).less, in place.
-/
import Derived.Test.YtkkpfoidppjbdaaDoorLMul
import Derived.Test.YtkkpfoidppjbdaaDoorLLessD
namespace Go.Proofs.YtkkpfoidppjbdaaDoor
set_option linter.unusedVariables false
open Go.RowKit ML NL

/-- limbs within a block, from o on -/
def RowIs (cs : Array Value) (o : Nat) (W : List Nat) : Prop := ∀ i, i < W.length → cs[o + i]? = some (.int .u32 ((lAt W i : Nat) : Int))
theorem RowIs.set {cs : Array Value} {o : Nat} {W : List Nat} (h : RowIs cs o W) (k s : Nat) (hk : k < W.length) : RowIs (cs.setIfInBounds (o + k) (.int .u32 (s : Int))) o (W.set k s) := by
  intro i hi
  rw [List.length_set] at hi
  have hx := h i hi
  have hy := h k hk
  have hl : o + k < cs.size := by
    rcases Nat.lt_or_ge (o + k) cs.size with h1 | h1
    · exact h1
    · rw [Array.getElem?_eq_none h1] at hy; cases hy
  by_cases he : k = i
  · subst he
    rw [Array.getElem?_setIfInBounds_self_of_lt hl]
    simp [lAt, List.getD_eq_getElem?_getD, hk]
  · rw [Array.getElem?_setIfInBounds_ne (by omega), hx]
    simp [lAt, List.getD_eq_getElem?_getD, List.getElem?_set_ne he]
/-- the block behind a row that was turned in place: what lies outside is as it was -/
structure Turned (w w' : World) (d o : Nat) (T : TypeId) (cs cs' : Array Value) (n : Nat) : Prop where
  only : Only d w w'
  heap : w'.heap[d]? = some (.cells cs' T (0, 0))
  size : cs'.size = cs.size
  out : ∀ j, j < o ∨ o + n ≤ j → cs'[j]? = cs[j]?
theorem Turned.refl {w : World} {d o n : Nat} {T : TypeId} {cs : Array Value} (h : w.heap[d]? = some (.cells cs T (0, 0))) : Turned w w d o T cs cs n := ⟨Only.refl _ _, h, rfl, fun _ _ => rfl⟩
theorem Turned.set {w w' : World} {d o n : Nat} {T : TypeId} {cs cs' : Array Value} (S : Turned w w' d o T cs cs' n) (k : Nat) (v : Value) (hk : k < n) : Turned w (w'.setCell ⟨d, o + k, none⟩ v) d o T cs (cs'.setIfInBounds (o + k) v) n :=
  ⟨S.only.setCell _ _, heap_setCell_same _ _ _ _ _ _ S.heap, by rw [Array.size_setIfInBounds]; exact S.size, fun j hj => by rw [Array.getElem?_setIfInBounds_ne (by omega)]; exact S.out j hj⟩
theorem LimbsAt.only {w w1 : World} {oa : Option Addr} {L : List Nat} {d : Nat} (h : LimbsAt w oa L) (hb : Only d w w1) (hne : ∀ a, oa = some a → a.block ≠ d) : LimbsAt w1 oa L := ⟨fun i hi => by
  obtain ⟨a, h1, h2, h3⟩ := h.cells i hi
  refine ⟨a, h1, by rw [hb.size]; exact h2, ?_⟩
  rw [← h3]
  unfold World.cell?
  have := hb.block (a.add i).block (by rw [addr_block']; exact hne a h1)
  rw [this]⟩
set_option maxHeartbeats 4000000 in
set_option maxRecDepth 100000 in
theorem exLess_any (L M : List Nat) (d o cap : Nat) (T : TypeId) (cs : Array Value) (ob : Option Addr) (cb : Nat) (w : World) (hL : AllD L) (hM : AllD M) (hd : w.heap[d]? = some (.cells cs T (0, 0))) (hr : RowIs cs o L) (hb : LimbsAt w ob M) (hne : ∀ a, ob = some a → a.block ≠ d) (hlL : L.length < 4398046511104) (hlM : M.length < 4398046511104) :
    Calls Tryd.prog 84 #[.slice (some ⟨d, o, none⟩) L.length cap, .slice ob M.length cb] w fun e w' => ∃ W dn, e = .returned (.bool (decide (0 < dn))) ∧ LessEnd L M W dn ∧ ∃ cs', RowIs cs' o W ∧ Turned w w' d o T cs cs' L.length := by
  have HR := Lib.hid hr
  have HD := Lib.hid hd
  have HB := Lib.hid hb
  have HNE := Lib.hid hne
  have HL := Lib.hid hL
  have HM := Lib.hid hM
  clear hr hd hb hne hL hM
  go_enter Tryd.func84, Tryd.ntmps84
  go_upto_region 3 with (fail)
  go_loopw [5, 10] (fun v i wr => ∃ (W : List Nat) (dn k : Nat) (cs' : Array Value), k ≤ L.length ∧ v = .int .u32 dn ∧ i = .int .i64 k ∧ LessSt L M k W dn ∧ RowIs cs' o W ∧ Turned w wr d o T cs cs' L.length) (fun _ i _ => L.length - (intOf i).toNat)
  case atStart => exact ⟨L, 0, 0, cs, by omega, rfl, rfl, LessSt.init M HL.out, HR.out, Turned.refl HD.out⟩
  case round =>
  obtain ⟨W, dn, k, cs', hk, rfl, rfl, S, R, U⟩ := hrel
  have hdn := S.down
  by_cases hm : k < L.length
  · have d1 : decide ((k : Int) < (L.length : Int)) = true := by simp; omega
    have SN := Lib.hid (fun s d' hs hd he => S.next hm s d' hs hd he)
    have hkW : k < W.length := by rw [S.len]; exact hm
    have hcell : wr.cell? ⟨d, o + k, none⟩ = some (.int .u32 ((lAt W k : Nat) : Int)) := by
      rw [cell_of_row wr d (o + k) _ _ _ U.heap]; exact R k hkW
    have hfr := frozen_of_row wr d (o + k) _ _ U.heap
    have h1 : lAt W k < 1000000000 := getD_lt S.all k
    have h2 : lAt M k < 1000000000 := getD_lt HM.out k
    have SN2 : Hid (∀ s d', s < 1000000000 → d' ≤ 1 → lAt W k + 1000000000 * d' = s + lAt M k + dn → LessSt L M (k + 1) (W.set k s) d') := SN
    have RN := Lib.hid (fun s => R.set k s hkW)
    have UN := Lib.hid (fun v => U.set k v hm)
    have ho0 : (0 : Int) ≤ k := by omega
    have hkL : (k : Int) < (L.length : Int) := by omega
    have hbM := Lib.hid (fun (h : k < M.length) => (HB.out.only U.only HNE.out).get k h)
    have hM0 := Lib.hid (fun (h : ¬ k < M.length) => (show lAt M k = 0 by unfold lAt; rw [List.getD_eq_getElem?_getD, List.getElem?_eq_none (by omega)]; rfl))
    have hstop := Lib.hid (fun (h : ¬ k < M.length) (h0 : dn = 0) => (show LessEnd L M W 0 from LessSt.stop (h0 ▸ S) (by omega) (by omega)))
    have HU := Lib.hid U
    have HRR := Lib.hid R
    clear S SN R U hkW
    obtain ⟨b, hbe⟩ : ∃ b, b = lAt M k := ⟨_, rfl⟩
    rw [← hbe] at SN2 h2
    generalize lAt W k = a at *
    by_cases hq : ¬ k < M.length ∧ dn = 0
    · obtain ⟨hq1, rfl⟩ := hq
      have d2 : decide ((k : Int) < (M.length : Int)) = false := by simp; omega
      have hE := Lib.hid (hstop.out hq1 rfl)
      have d3 : ¬ ((k : Int) < (M.length : Int)) := by omega
      clear hcell hfr hstop hbM hM0 SN2 RN UN
      go_wp2_with fail
      go_ret
      exact ⟨W, 0, rfl, hE.out, cs', HRR.out, HU.out⟩
    · go_upto_if 17 with (fail)
      go_cut [7] (fun v w' => v = .int .u32 ((dn : Int) + (b : Int)) ∧ w' = wr)
      case first =>
        by_cases hM : k < M.length
        · have d2 : decide ((k : Int) < (M.length : Int)) = true := by simp; omega
          obtain ⟨b0, hob, hbc⟩ := hbM.out hM
          have hbc2 : wr.cell? (b0.add k) = some (.int .u32 (b : Int)) := by rw [hbe]; exact hbc
          have hjl : (k : Int) < (M.length : Int) := by omega
          subst hob
          clear hbc hbe hcell hfr
          go_wp2_with fail
          go_meet
          exact ⟨by go_num, rfl⟩
        · have d2 : decide ((k : Int) < (M.length : Int)) = false := by simp; omega
          have d3 : ¬ ((k : Int) < (M.length : Int)) := by omega
          obtain rfl : dn = 1 := by omega
          have hb0 : b = 0 := by rw [hbe]; exact hM0.out hM
          subst hb0
          clear hbe hcell hfr
          go_wp2_with fail
          go_meet
          exact ⟨by go_num, rfl⟩
      case rest =>
      obtain ⟨rfl, hw0⟩ := hcut
      replace hw0 := hw0.symm
      subst hw0
      clear hbM hM0 hbe hstop HRR HU
      obtain ⟨D, hD⟩ : ∃ D : Nat, D = dn + b := ⟨_, rfl⟩
      have hDi : (dn : Int) + (b : Int) = (D : Int) := by omega
      have SN3 : Hid (∀ s d', s < 1000000000 → d' ≤ 1 → a + 1000000000 * d' = s + D → LessSt L M (k + 1) (W.set k s) d') := Lib.hid (fun s d' x1 x2 x3 => SN2.out s d' x1 x2 (show a + 1000000000 * d' = s + b + dn by omega))
      have hDb : D ≤ 1000000000 := by omega
      rw [hDi]
      clear hDi SN2 hD hq h2
      by_cases hge : D ≤ a
      · have d4 : (D : Int) ≤ (a : Int) := by omega
        have d5 : decide ((D : Int) ≤ (a : Int)) = true := by simp; omega
        obtain ⟨s, hs⟩ : ∃ s : Nat, (a : Int) - (D : Int) = (s : Int) := ⟨a - D, by omega⟩
        have S2 := Lib.hid (SN3.out s 0 (by omega) (by omega) (by omega))
        have R2 := Lib.hid (RN.out s)
        have U2 := Lib.hid (UN.out (.int .u32 s))
        have hs9 : s < 1000000000 := by omega
        clear SN3 RN UN
        go_upto_region 12 with (fail)

        refine wp_abs (fun w4 => Turned w w4 d o T cs (cs'.setIfInBounds (o + k) (.int .u32 s)) L.length) U2.out (fun w4 U4 => ?_)
        clear hcell hfr U2 hs d4 d5 hge
        go_wp2_with fail
        go_roundw
        case rel => exact ⟨W.set k s, 0, k + 1, _, by omega, rfl, by go_num, S2.out, R2.out, U4⟩
        case measure => simp [intOf]; omega
      · have d4 : ¬ (D : Int) ≤ (a : Int) := by omega
        have d5 : decide ((D : Int) ≤ (a : Int)) = false := by simp; omega
        obtain ⟨s, hs⟩ : ∃ s : Nat, (a : Int) + 1000000000 - (D : Int) = (s : Int) := ⟨a + 1000000000 - D, by omega⟩
        have S2 := Lib.hid (SN3.out s 1 (by omega) (by omega) (by omega))
        have R2 := Lib.hid (RN.out s)
        have U2 := Lib.hid (UN.out (.int .u32 s))
        have hs9 : s < 1000000000 := by omega
        clear SN3 RN UN
        go_upto_region 12 with (fail)

        refine wp_abs (fun w4 => Turned w w4 d o T cs (cs'.setIfInBounds (o + k) (.int .u32 s)) L.length) U2.out (fun w4 U4 => ?_)
        clear hcell hfr U2 hs d4 d5 hge
        go_wp2_with fail
        go_roundw
        case rel => exact ⟨W.set k s, 1, k + 1, _, by omega, rfl, by go_num, S2.out, R2.out, U4⟩
        case measure => simp [intOf]; omega
  · have d1 : decide ((k : Int) < (L.length : Int)) = false := by simp; omega
    obtain rfl : k = L.length := by omega
    have hE := Lib.hid S.done
    clear S
    by_cases h0 : dn = 0
    · subst h0
      go_wp2_with fail
      go_ret
      exact ⟨W, 0, rfl, hE.out, cs', R, U⟩
    · obtain rfl : dn = 1 := by omega
      go_wp2_with fail
      go_ret
      exact ⟨W, 1, rfl, hE.out, cs', R, U⟩
set_option maxHeartbeats 1000000 in
set_option maxRecDepth 100000 in
theorem exLess_nil (ob : Option Addr) (cap n cb : Nat) (w : World) (hn : n < 4398046511104) :
    Calls Tryd.prog 84 #[.slice none 0 cap, .slice ob n cb] w fun e w' => e = .returned (.bool false) ∧ w' = w := by
  go_enter Tryd.func84, Tryd.ntmps84
  go_upto_region 3 with (fail)
  go_loopw [5, 10] (fun v i wr => v = .int .u32 0 ∧ i = .int .i64 0 ∧ wr = w) (fun _ i _ => 0)
  case atStart => exact ⟨rfl, rfl, rfl⟩
  case round =>
  obtain ⟨rfl, rfl, hw⟩ := hrel
  replace hw := hw.symm
  subst hw
  go_wp2_with fail
  go_ret
  exact ⟨rfl, rfl⟩
end Go.Proofs.YtkkpfoidppjbdaaDoor
