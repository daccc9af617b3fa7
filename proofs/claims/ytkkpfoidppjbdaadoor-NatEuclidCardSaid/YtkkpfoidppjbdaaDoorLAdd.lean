/-
  exact.Add.
-/
import Derived.Test.YtkkpfoidppjbdaaDoorLCmp
namespace Go.Proofs.YtkkpfoidppjbdaaDoor
set_option linter.unusedVariables false
open Go.RowKit ML NL

theorem AddSt_fin {x y u : Nat} {O : List Nat} (S : AddSt x y O u) (h1 : (dig x).length ≤ O.length) (h2 : (dig y).length ≤ O.length) : AllD (O ++ [u]) ∧ trimL (O ++ [u]) = dig (x + y) := by
  have hu := S.up
  have e := S.eq
  rw [List.take_of_length_le h1, List.take_of_length_le h2, val_dig, val_dig] at e
  refine ⟨all_snoc S.all (by omega), ?_⟩
  unfold trimL
  rw [val_snoc, e]
set_option maxHeartbeats 4000000 in
set_option maxRecDepth 100000 in
theorem exAdd_any (x y : Nat) (oa ob : Option Addr) (ca cb : Nat) (w : World) (ha : LimbsAt w oa (dig x)) (hb : LimbsAt w ob (dig y)) (hx : (dig x).length < 1099511627776) (hy : (dig y).length < 1099511627776) :
    Calls Tryd.prog 60 #[.slice oa (dig x).length ca, .slice ob (dig y).length cb] w fun e w' => ∃ oc cc, e = .returned (.slice oc (dig (x + y)).length cc) ∧ LimbsAt w' oc (dig (x + y)) ∧ Below w.heap.size w w' := by
  obtain ⟨i0, hi, hz0, hz1, hz2⟩ := info_parts info_limb
  have HI := Lib.hid hi
  have HZ0 := Lib.hid hz0
  have HZ1 := Lib.hid hz1
  have HZ2 := Lib.hid hz2
  have HA := Lib.hid ha
  have HBB := Lib.hid hb
  clear hi hz0 hz1 hz2 ha hb
  go_enter Tryd.func60, Tryd.ntmps60
  go_upto_if 13 with (fail)
  go_cut [0, 1] (fun v0 v1 w' => ∃ (X Y : Nat) (oA oB : Option Addr) (cA cB : Nat), v0 = .slice oA (dig X).length cA ∧ v1 = .slice oB (dig Y).length cB ∧ X + Y = x + y ∧ (dig Y).length ≤ (dig X).length ∧ (dig X).length < 1099511627776 ∧ LimbsAt w oA (dig X) ∧ LimbsAt w oB (dig Y) ∧ w' = w)
  case first =>
    by_cases hl : (dig x).length < (dig y).length
    · have hd : decide (((dig x).length : Int) < ((dig y).length : Int)) = true := by simp; omega
      go_wp2_with fail
      go_meet
      exact ⟨y, x, ob, oa, cb, ca, rfl, rfl, Nat.add_comm _ _, by omega, hy, HBB.out, HA.out, rfl⟩
    · have hd : decide (((dig x).length : Int) < ((dig y).length : Int)) = false := by simp; omega
      go_wp2_with fail
      go_meet
      exact ⟨x, y, oa, ob, ca, cb, rfl, rfl, rfl, by omega, hx, HA.out, HBB.out, rfl⟩
  case rest =>
  clear HA HBB
  obtain ⟨X, Y, oA, oB, cA, cB, rfl, rfl, hXY, hYX, hXl, hA, hBb, hw0⟩ := hcut
  replace hw0 := hw0.symm
  subst hw0
  have HA := Lib.hid hA
  have HBB := Lib.hid hBb
  have HXY := Lib.hid hXY
  clear hA hBb hXY hx hy
  have hC : ((dig X).length : Int) + 1 = (((dig X).length + 1 : Nat) : Int) := by omega
  have HC := Lib.hid hC
  clear hC
  go_upto_region 4 with (refine wpList_make_own _ rfl _ _ 69 rfl w.heap.size 105 i0 (.int .u32 0) 1 Tryd.underlying69 HI.out HZ0.out HZ1.out .i64 .i64 (((dig X).length : Int) + 1) ((dig X).length + 1) rfl rfl HC.out (by rw [HZ2.out]; omega) (by unfold maxLen; omega) (Nat.le_refl _) ?_)
  intro w1 own1 hg1
  have bel1 : Below w.heap.size w w1 := (Below.refl _ _).grown hg1 (Nat.le_refl _) (by simp)
  have S0 := AddSt.init X Y
  clear hg1
  go_upto_region 6 with (fail)
  go_loopw [5, 6, 22] (fun v z i wr => ∃ (O : List Nat) (u : Nat), z = .int .u32 u ∧ i = .int .i64 O.length ∧ O.length ≤ (dig X).length ∧ AddSt X Y O u ∧ Below w.heap.size w wr ∧ wr.ownsRow w.heap.size 105 1 v O.length (uvals O)) (fun _ _ i _ => (dig X).length - (intOf i).toNat)
  case atStart => exact ⟨[], 0, rfl, rfl, by simp, S0, bel1, own1⟩
  case round =>
  obtain ⟨O, u, rfl, rfl, hOl, S, bel, own⟩ := hrel
  clear S0 bel1 own1
  have hup := S.up
  by_cases hm : O.length < (dig X).length
  · have SN := Lib.hid (S.next (.inl hm))
    have SN2 : Hid (AddSt X Y (O ++ [(lAt (dig X) O.length + lAt (dig Y) O.length + u) % 1000000000]) ((lAt (dig X) O.length + lAt (dig Y) O.length + u) / 1000000000)) := SN
    have h1 : lAt (dig X) O.length < 1000000000 := getD_lt (all_dig X) O.length
    have h2 : lAt (dig Y) O.length < 1000000000 := getD_lt (all_dig Y) O.length
    obtain ⟨a0, hoa, hac⟩ := (HA.out.below bel).get O.length hm
    have hac2 : wr.cell? (a0.add O.length) = some (.int .u32 ((lAt (dig X) O.length : Nat) : Int)) := hac
    have hil : (O.length : Int) < ((dig X).length : Int) := by omega
    have hi0 : (0 : Int) ≤ O.length := by omega
    have hbY := Lib.hid (fun (h : O.length < (dig Y).length) => (HBB.out.below bel).get O.length h)
    have hY0 := Lib.hid (fun (h : ¬ O.length < (dig Y).length) => (show lAt (dig Y) O.length = 0 by unfold lAt; rw [List.getD_eq_getElem?_getD, List.getElem?_eq_none (by omega)]; rfl))
    have bsz := bel.size
    clear S SN hac
    subst hoa
    obtain ⟨b, hbe⟩ : ∃ b, b = lAt (dig Y) O.length := ⟨_, rfl⟩
    rw [← hbe] at SN2 h2
    generalize lAt (dig X) O.length = a at *
    go_upto_if 33 with (fail)
    go_cut [8] (fun v w' => v = .int .u32 ((a : Int) + (u : Int) + (b : Int)) ∧ w' = wr)
    case first =>
      by_cases hY : O.length < (dig Y).length
      · have hd : decide ((O.length : Int) < ((dig Y).length : Int)) = true := by simp; omega
        obtain ⟨b0, hob, hbc⟩ := hbY.out hY
        have hbc2 : wr.cell? (b0.add O.length) = some (.int .u32 (b : Int)) := by rw [hbe]; exact hbc
        have hjl : (O.length : Int) < ((dig Y).length : Int) := by omega
        subst hob
        clear hbc hbe
        go_wp2_with fail
        go_meet
        exact ⟨by go_num, rfl⟩
      · have hd : decide ((O.length : Int) < ((dig Y).length : Int)) = false := by simp; omega
        have hb0 : b = 0 := by rw [hbe]; exact hY0.out hY
        subst hb0
        clear hbe
        go_wp2_with fail
        go_meet
        exact ⟨by go_num, rfl⟩
    case rest =>
    obtain ⟨rfl, hw0⟩ := hcut
    replace hw0 := hw0.symm
    subst hw0
    rw [show a + b + u = a + u + b by omega] at SN2
    clear hbY hY0 hbe hac2
    go_upto_region 13 with (at_builtin; refine wpList_append_own _ rfl (.tmp 42) (.tmp 45) 69 rfl w.heap.size 105 i0 (.int .u32 0) 1 4 Tryd.underlying69 HI.out HZ0.out HZ1.out HZ2.out rfl (by decide) u5 O.length (uvals O) rfl (own.alloc _) ⟨wr.heap.size, 0, none⟩ 1 1 (uvals [(a + u + b) % 1000000000]) rfl rfl ?c1 ?c2 ?c3 ?c4 ?c5 ?_)
    case c1 => exact news_uvals wr [(a + u + b) % 1000000000] _ _ rfl
    case c2 => exact uvals_one _
    case c3 => unfold maxLen; omega
    case c4 => omega
    case c5 => first | omega | (simp; omega)
    intro v5 w5 own5 hg5 _
    have bel5 : Below w.heap.size w w5 := (bel.alloc bsz _).grown hg5 (by simp; omega) (fun q hq => (own.lt q hq).1)
    rw [uvals_append] at own5
    have OWN5 : w5.ownsRow w.heap.size 105 1 v5 (O ++ [(a + u + b) % 1000000000]).length (uvals (O ++ [(a + u + b) % 1000000000])) := by rw [List.length_append]; exact own5
    clear own5 own hg5 bel
    go_wp2_with fail
    go_roundw
    case rel => exact ⟨O ++ [(a + u + b) % 1000000000], (a + u + b) / 1000000000, by go_num, by rw [List.length_append, List.length_singleton]; go_num, by rw [List.length_append, List.length_singleton]; omega, SN2.out, bel5, OWN5⟩
    case measure => simp [intOf]; omega
  · have hd : decide ((O.length : Int) < ((dig X).length : Int)) = false := by simp; omega
    have hOX : O.length = (dig X).length := by omega
    obtain ⟨hAl, htr⟩ := AddSt_fin S (by omega) (by omega)
    rw [HXY.out] at htr
    have HAl := Lib.hid hAl
    have HTR := Lib.hid htr
    have bsz := bel.size
    clear S hAl htr hOX
    go_upto_region 15 with (first
      | (at_builtin; refine wpList_append_own _ rfl (.tmp 48) (.tmp 50) 69 rfl w.heap.size 105 i0 (.int .u32 0) 1 4 Tryd.underlying69 HI.out HZ0.out HZ1.out HZ2.out rfl (by decide) u5 O.length (uvals O) rfl (own.alloc _) ⟨wr.heap.size, 0, none⟩ 1 1 (uvals [u]) rfl rfl ?c1 ?c2 ?c3 ?c4 ?c5 ?_))
    case c1 => exact news_uvals wr [u] _ _ rfl
    case c2 => exact uvals_one _
    case c3 => unfold maxLen; omega
    case c4 => omega
    case c5 => first | omega | (simp; omega)
    intro v5 w5 own5 hg5 _
    have bel5 : Below w.heap.size w w5 := (bel.alloc bsz _).grown hg5 (by simp; omega) (fun q hq => (own.lt q hq).1)
    rw [uvals_append] at own5
    have hol : (O ++ [u]).length = O.length + 1 := by simp
    obtain ⟨oc, cc, rfl, hcc, _, hI⟩ := limbsAt_own (L := O ++ [u]) own5
    have QT := Lib.hid (exTrim_any oc (O ++ [u]) cc w5 hI (by omega) hcc HAl.out)
    rw [HTR.out, hol] at QT
    have HOL := Lib.hid hol
    clear own5 own hg5 bel hI hol
    go_wp2_with (go_at_call 85; refine QT.out.mono ?_; rintro e w6 ⟨rfl, hI6, rfl⟩)
    go_ret
    exact ⟨oc, cc, rfl, hI6, bel5⟩
end Go.Proofs.YtkkpfoidppjbdaaDoor
