/-
  The reference's Is, Wrong, Read.
-/
import Derived.Test.YtkkpfoidppjbdaaDoorNatE
namespace Go.Proofs.YtkkpfoidppjbdaaDoor
set_option linter.unusedVariables false
open Go.RowKit ML FM ND

set_option maxHeartbeats 2000000 in
set_option maxRecDepth 100000 in
theorem refIs_any (F : Bytes) (w : World) (hF : F.length < 140737488355328) :
    Calls Tryd.prog 51 #[.string ⟨F.toArray⟩] w fun e w' => e = .returned (.bool (numB F)) ∧ w' = w := by
  go_enter Tryd.func51, Tryd.ntmps51
  by_cases hne : F = []
  · subst hne
    have hb := Lib.hid (show numB [] = false from rfl)
    go_wp2_with fail
    go_ret
    rw [hb.out]
    exact ⟨rfl, rfl⟩
  have hpos : 0 < F.length := List.length_pos_iff.2 hne
  have hnz : ((F.length : Int) == 0) = false := by rw [beq_eq_false_iff_ne]; omega
  have HNE := Lib.hid hne
  clear hne
  go_upto_region 4 with (fail)
  go_loopw [3] (fun j wi => ∃ k : Nat, k ≤ F.length ∧ j = .int .i64 k ∧ (∀ i, i < k → 48 ≤ byteN F i ∧ byteN F i ≤ 57) ∧ wi = w) (fun j _ => F.length - (intOf j).toNat)
  case atStart => exact ⟨0, by omega, rfl, fun i hi => by omega, rfl⟩
  case round =>
  obtain ⟨k, hk, rfl, hpre, hw⟩ := hrel
  replace hw := hw.symm
  subst hw
  by_cases hlt : k < F.length
  · have hdj : decide ((k : Int) < (F.length : Int)) = true := by simp; omega
    have hj0 : (0 : Int) ≤ k := by omega
    have hjl2 : (k : Int) < ((F.length : Nat) : Int) := by omega
    have hs0 : ∀ h, (((ByteArray.mk F.toArray)[k]'h).toNat : Int) = (byteN F k : Int) := fun h => strBN F k h
    have hbad := Lib.hid (fun (h : ¬ (48 ≤ byteN F k ∧ byteN F k ≤ 57)) => (show numB F = false from numB_false F (fun h2 => h (digs_byteN h2.2.1 k hlt))))
    have hgood := Lib.hid (fun (h : 48 ≤ byteN F k ∧ byteN F k ≤ 57) (i : Nat) (hi : i < k + 1) => (show 48 ≤ byteN F i ∧ byteN F i ≤ 57 by
      by_cases he : i = k
      · rw [he]; exact h
      · exact hpre i (by omega)))
    clear hpre
    generalize byteN F k = c at *
    by_cases h1 : c < 48
    · have e1 : (c : Int) < 48 := by omega
      have hb := Lib.hid (hbad.out (by omega))
      clear hbad hgood
      go_wp2_with fail
      go_ret
      rw [hb.out]
      exact ⟨rfl, rfl⟩
    by_cases h2 : 57 < c
    · have e1 : ¬ (c : Int) < 48 := by omega
      have e2 : (57 : Int) < c := by omega
      have hb := Lib.hid (hbad.out (by omega))
      clear hbad hgood
      go_wp2_with fail
      go_ret
      rw [hb.out]
      exact ⟨rfl, rfl⟩
    have e1 : ¬ (c : Int) < 48 := by omega
    have e2 : ¬ (57 : Int) < c := by omega
    have hg := Lib.hid (hgood.out (by omega))
    clear hbad hgood
    go_wp2_with fail
    go_roundw
    case rel => exact ⟨k + 1, by omega, by go_num, hg.out, trivial⟩
    case measure => simp [intOf]; omega
  · have hdj : decide ((k : Int) < (F.length : Int)) = false := by simp; omega
    obtain rfl : k = F.length := by omega
    have hD := Lib.hid (digs_of_byteN hpre)
    have hs0 : ∀ h, (((ByteArray.mk F.toArray)[0]'h).toNat : Int) = (byteN F 0 : Int) := fun h => strBN F 0 h
    clear hpre
    by_cases hz : byteN F 0 = 48
    · rw [hz] at hs0
      by_cases hl1 : F.length = 1
      · have hb := Lib.hid ((numB_iff F).2 ⟨HNE.out, hD.out, .inr hl1⟩)
        have e1 : ((F.length : Int) == 1) = true := by rw [beq_iff_eq]; omega
        go_wp2_with fail
        go_ret
        rw [hb.out]
        exact ⟨rfl, rfl⟩
      · have hb := Lib.hid (numB_false F (fun h => h.2.2.elim (fun h1 => h1 ((getD_byteN F 0).2 hz)) hl1))
        have e1 : ((F.length : Int) == 1) = false := by rw [beq_eq_false_iff_ne]; omega
        go_wp2_with fail
        go_ret
        rw [hb.out]
        exact ⟨rfl, rfl⟩
    · have hb := Lib.hid ((numB_iff F).2 ⟨HNE.out, hD.out, .inl (fun h => hz ((getD_byteN F 0).1 h))⟩)
      have e1 : ((byteN F 0 : Int) == 48) = false := by rw [beq_eq_false_iff_ne]; omega
      have e2 : ¬ (byteN F 0 : Int) = 48 := by omega
      go_wp2_with fail
      go_ret
      rw [hb.out]
      exact ⟨rfl, rfl⟩
set_option maxHeartbeats 1000000 in
set_option maxRecDepth 100000 in
theorem refWrong_any (F : Bytes) (w : World) (hF : F.length < 140737488355328) :
    Calls Tryd.prog 57 #[.string ⟨F.toArray⟩] w fun e w' => e = .returned (.int .i64 (wrongN F : Int)) ∧ w' = w := by
  have QI := Lib.hid (refIs_any F w hF)
  by_cases h1 : numB F = true
  · by_cases h2 : 4000 < F.length
    · have hx := Lib.hid (show wrongN F = 3 by unfold wrongN; rw [if_pos h1, if_pos h2])
      have d1 : (4000 : Int) < (F.length : Int) := by omega
      rw [h1] at QI
      clear h1 h2
      go_enter Tryd.func57, Tryd.ntmps57
      go_wp2_with (go_at_call 51; refine QI.out.mono ?_; rintro e w1 ⟨rfl, rfl⟩)
      go_ret
      rw [hx.out]
      exact ⟨rfl, rfl⟩
    · have hx := Lib.hid (show wrongN F = 0 by unfold wrongN; rw [if_pos h1, if_neg h2])
      have d1 : ¬ (4000 : Int) < (F.length : Int) := by omega
      rw [h1] at QI
      clear h1 h2
      go_enter Tryd.func57, Tryd.ntmps57
      go_wp2_with (go_at_call 51; refine QI.out.mono ?_; rintro e w1 ⟨rfl, rfl⟩)
      go_ret
      rw [hx.out]
      exact ⟨rfl, rfl⟩
  · have hx := Lib.hid (show wrongN F = 2 by unfold wrongN; rw [if_neg h1])
    have h1' : numB F = false := by simpa using h1
    rw [h1'] at QI
    clear h1 h1'
    go_enter Tryd.func57, Tryd.ntmps57
    go_wp2_with (go_at_call 51; refine QI.out.mono ?_; rintro e w1 ⟨rfl, rfl⟩)
    go_ret
    rw [hx.out]
    exact ⟨rfl, rfl⟩
set_option maxHeartbeats 2000000 in
set_option maxRecDepth 100000 in
theorem refRead_any (F : Bytes) (w : World) (hF : F.length < 1099511627776) (hn : DigsB F) :
    Calls Tryd.prog 15 #[.string ⟨F.toArray⟩] w fun e w' => ∃ oc cc, e = .returned (.slice oc (dig (dv F)).length cc) ∧ IntsAt w' oc (dig (dv F)) ∧ Below w.heap.size w w' ∧ (∀ a, oc = some a → a.block < w'.heap.size) := by
  obtain ⟨i0, hi, hz0, hz1, hz2⟩ := info_parts info_int
  have HI := Lib.hid hi
  have HZ0 := Lib.hid hz0
  have HZ1 := Lib.hid hz1
  have HZ2 := Lib.hid hz2
  have HD := Lib.hid hn
  clear hi hz0 hz1 hz2 hn
  go_enter Tryd.func15, Tryd.ntmps15
  go_upto_region 3 with (fail)
  go_loopw [3, 4] (fun v i wr => ∃ (k : Nat) (z : Int), k ≤ F.length ∧ z = (F.length : Int) - 1 - (k : Int) ∧ i = .int .i64 z ∧ Below w.heap.size w wr ∧ wr.ownsRow w.heap.size 3 1 v k (nvals ((digsOf F).take k))) (fun _ i _ => (intOf i + 1).toNat)
  case atStart => exact ⟨0, (F.length : Int) - 1, by omega, by omega, by go_num, Below.refl _ _, World.ownsRow_nil _ _ _ _⟩
  case round =>
  obtain ⟨k, z, hk, hz, rfl, bel, own⟩ := hrel
  by_cases hlt : k < F.length
  · obtain ⟨j, hj⟩ : ∃ j : Nat, z = (j : Int) := ⟨F.length - 1 - k, by omega⟩
    subst hj
    have hjl : j < F.length := by omega
    have hj0 : (0 : Int) ≤ j := by omega
    have hjl2 : (j : Int) < (F.length : Int) := by omega
    obtain ⟨h48, h57⟩ := digs_byteN HD.out j hjl
    have hs0 : ∀ h, (((ByteArray.mk F.toArray)[j]'h).toNat : Int) = (byteN F j : Int) := fun h => strBN F j h
    have htk : (digsOf F).take (k + 1) = (digsOf F).take k ++ [byteN F j - 48] := by
      have hkd : k < (digsOf F).length := by rw [length_digsOf]; exact hlt
      rw [List.take_succ_eq_append_getElem hkd]
      congr 2
      have e : F.length - 1 - k = j := by omega
      simp only [digsOf, List.getElem_map, List.getElem_reverse, e]
      simp [byteN, List.getD_eq_getElem?_getD, hjl]
    have HTK := Lib.hid htk
    have HZ := Lib.hid hz
    clear htk hz
    generalize byteN F j = c at *
    obtain ⟨d, hd⟩ : ∃ d : Nat, (c : Int) - 48 = (d : Int) := ⟨c - 48, by omega⟩
    have hd2 : c - 48 = d := by omega
    rw [hd2] at HTK
    have hbs := bel.size
    clear hd2
    generalize hO : (digsOf F).take k = O at *
    have hOl : O.length = k := by rw [← hO, List.length_take, length_digsOf]; omega
    have HOL := Lib.hid hOl
    clear hO hOl
    go_upto_region 4 with (at_builtin; refine wpList_append_own _ rfl (.tmp 12) (.tmp 18) 31 rfl w.heap.size 3 i0 (.int .i64 0) 1 8 Tryd.underlying31 HI.out HZ0.out HZ1.out HZ2.out rfl (by decide) u3 k (nvals O) rfl (own.alloc _) ⟨wr.heap.size, 0, none⟩ 1 1 (nvals [d]) rfl rfl ?c1 ?c2 ?c3 ?c4 ?c5 ?_)
    case c1 => exact news_nvals wr [d] _ _ rfl
    case c2 => exact nvals_one _
    case c3 => unfold maxLen; omega
    case c4 => omega
    case c5 => first | omega | (simp; omega)
    intro v5 w5 own5 hg5 _
    have bel5 : Below w.heap.size w w5 := (bel.alloc hbs _).grown hg5 (by simp; omega) (fun q hq => (own.lt q hq).1)
    rw [nvals_append] at own5
    have OWN5 := Lib.hid own5
    clear own5 own hg5 bel hd hs0
    go_wp2_with fail
    go_roundw
    case rel => exact ⟨k + 1, (j : Int) - 1, by omega, by have := HZ.out; omega, by go_num, bel5, by rw [HTK.out]; exact OWN5.out⟩
    case measure => simp [intOf]
  · obtain rfl : k = F.length := by omega
    obtain rfl : z = -1 := by omega
    have htl : (digsOf F).take F.length = digsOf F := List.take_of_length_le (by rw [length_digsOf]; omega)
    rw [htl] at own
    have hown := own.lt
    obtain ⟨oc, cc, rfl, hcc, _, hI⟩ := intsAt_own (L := digsOf F) own
    have hll := length_digsOf F
    have QT := Lib.hid (refTrim_any oc (digsOf F) cc wr hI (by omega) hcc (all_digsOf HD.out))
    rw [dig_dv HD.out, hll] at QT
    have hlt2 : ∀ a, oc = some a → a.block < wr.heap.size := fun a h => by subst h; exact (hown a.block rfl).2
    clear own hI hown htl hz
    go_wp2_with (go_at_call 58; refine QT.out.mono ?_; rintro e w3 ⟨rfl, hI3, rfl⟩)
    go_ret
    exact ⟨oc, cc, rfl, hI3, bel, hlt2⟩
end Go.Proofs.YtkkpfoidppjbdaaDoor
