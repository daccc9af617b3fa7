/-
  exact.Parse.
-/
import Derived.Test.YtkkpfoidppjbdaaDoorLParseD
import Derived.Test.YtkkpfoidppjbdaaDoorBytesOf
namespace Go.Proofs.YtkkpfoidppjbdaaDoor
set_option linter.unusedVariables false
open Go.RowKit ML FM NL

theorem digs_byteN {F : Bytes} (h : DigsB F) (k : Nat) (hk : k < F.length) : 48 ≤ byteN F k ∧ byteN F k ≤ 57 := by
  have hb : byteN F k = F[k].toNat := by simp [byteN, List.getD_eq_getElem?_getD, hk]
  rw [hb]
  exact h _ (List.getElem_mem hk)
theorem digs_of_byteN {F : Bytes} (h : ∀ i, i < F.length → 48 ≤ byteN F i ∧ byteN F i ≤ 57) : DigsB F := by
  intro c hc
  obtain ⟨i, hi, rfl⟩ := List.getElem_of_mem hc
  have := h i hi
  simpa [byteN, List.getD_eq_getElem?_getD, hi] using this
theorem getD_byteN (F : Bytes) (i : Nat) : (F.getD i 0 = 48) ↔ byteN F i = 48 := by
  unfold byteN
  constructor
  · intro h; rw [h]; rfl
  · intro h; exact UInt8.toNat_inj.1 (by rw [h]; rfl)
theorem strBN (T : Bytes) (i : Nat) (h : i < (ByteArray.mk T.toArray).size) : (((ByteArray.mk T.toArray)[i]'h).toNat : Int) = (byteN T i : Int) := by
  rw [size_mk] at h
  unfold byteN
  rw [List.getD_eq_getElem?_getD, List.getElem?_eq_getElem h]
  rfl
set_option maxHeartbeats 4000000 in
set_option maxRecDepth 100000 in
theorem exParse_any (F : Bytes) (w : World) (hF : F.length < 140737488355328) :
    Calls Tryd.prog 79 #[.string ⟨F.toArray⟩] w fun e w' => Below w.heap.size w w' ∧ ((numB F = false ∧ e = .returned (.tuple #[.slice none 0 0, .bool false])) ∨ (numB F = true ∧ ∃ oc cc, e = .returned (.tuple #[.slice oc (dig (dv F)).length cc, .bool true]) ∧ LimbsAt w' oc (dig (dv F)) ∧ (∀ a, oc = some a → a.block < w'.heap.size))) := by
  obtain ⟨i0, hi, hz0, hz1, hz2⟩ := info_parts info_limb
  have HI := Lib.hid hi
  have HZ0 := Lib.hid hz0
  have HZ1 := Lib.hid hz1
  have HZ2 := Lib.hid hz2
  clear hi hz0 hz1 hz2
  go_enter Tryd.func79, Tryd.ntmps79
  by_cases hne : F = []
  · subst hne
    have hb := Lib.hid (show numB [] = false from rfl)
    go_wp2_with fail
    go_ret2
    exact ⟨Below.refl _ _, .inl ⟨hb.out, rfl⟩⟩
  have hpos : 0 < F.length := List.length_pos_iff.2 hne
  have hem : List.isEmpty F = false := by simpa using hne
  by_cases hz : 1 < F.length ∧ byteN F 0 = 48
  · have hb := Lib.hid (show numB F = false from numB_false F (fun h => by
      rcases h.2.2 with h1 | h1
      · exact h1 ((getD_byteN F 0).2 hz.2)
      · omega))
    obtain ⟨hz1, hz2⟩ := hz
    have d1 : (1 : Int) < (F.length : Int) := by omega
    have hs0 : ∀ h, (((ByteArray.mk F.toArray)[0]'h).toNat : Int) = 48 := fun h => by rw [strBN F 0 h, hz2]; rfl
    go_wp2_with fail
    go_ret2
    exact ⟨Below.refl _ _, .inl ⟨hb.out, rfl⟩⟩
  have hhead := Lib.hid (show F.getD 0 0 ≠ 48 ∨ F.length = 1 by
    by_cases h1 : F.length = 1
    · exact .inr h1
    · exact .inl (fun h => hz ⟨by omega, (getD_byteN F 0).1 h⟩))
  by_cases hl1 : F.length = 1
  · have d1 : ¬ (1 : Int) < (F.length : Int) := by omega
    have hs0 : True := trivial
    clear hz hl1
    have QF := Lib.hid hF
    go_upto_region 4 with (refine wpList_bytes_of rfl _ 9 80 5 rfl Tryd.underlying9 Tryd.underlying80 Tryd.underlying5 F rfl ?_; intro cap w7 hb7 hg7 hby)
    have HBY := Lib.hid hby
    clear hby hs0
    generalize hgg : w.heap.size = g at *
    have HG := Lib.hid hgg
    clear hgg
    go_loopw [26] (fun j wi => ∃ k : Nat, k ≤ F.length ∧ j = .int .i64 k ∧ (∀ i, i < k → 48 ≤ byteN F i ∧ byteN F i ≤ 57) ∧ wi = w7) (fun j _ => F.length - (intOf j).toNat)
    case atStart => exact ⟨0, by omega, rfl, fun i hi => by omega, rfl⟩
    case round =>
    obtain ⟨k, hk, rfl, hpre, rfl⟩ := hrel
    by_cases hlt : k < F.length
    · have hdj : decide ((k : Int) < (F.length : Int)) = true := by simp; omega
      have hcj := HBY.out k hlt
      have hc8 : byteN F k < 256 := byteN_lt F k
      have hj0 : (0 : Int) ≤ k := by omega
      have hjl2 : (k : Int) < ((F.length : Nat) : Int) := by omega
      have hbad := Lib.hid (fun (h : ¬ (48 ≤ byteN F k ∧ byteN F k ≤ 57)) => (show numB F = false from numB_false F (fun h2 => h (digs_byteN h2.2.1 k hlt))))
      have hgood := Lib.hid (fun (h : 48 ≤ byteN F k ∧ byteN F k ≤ 57) (i : Nat) (hi : i < k + 1) => (show 48 ≤ byteN F i ∧ byteN F i ≤ 57 by
        by_cases he : i = k
        · rw [he]; exact h
        · exact hpre i (by omega)))
      clear hpre
      generalize byteN F k = c at *
      by_cases h1 : c < 48
      · have e1 : (c : Int) < 48 := by omega
        have hb := Lib.hid (hbad.out (by omega))
        clear hbad hgood
        go_wp2_with fail
        go_ret2
        exact ⟨by rw [HG.out]; exact hb7, .inl ⟨hb.out, rfl⟩⟩
      by_cases h2 : 57 < c
      · have e1 : ¬ (c : Int) < 48 := by omega
        have e2 : (57 : Int) < c := by omega
        have hb := Lib.hid (hbad.out (by omega))
        clear hbad hgood
        go_wp2_with fail
        go_ret2
        exact ⟨by rw [HG.out]; exact hb7, .inl ⟨hb.out, rfl⟩⟩
      have e1 : ¬ (c : Int) < 48 := by omega
      have e2 : ¬ (57 : Int) < c := by omega
      have hg := Lib.hid (hgood.out (by omega))
      clear hbad hgood
      go_wp2_with fail
      go_roundw
      case rel => exact ⟨k + 1, by omega, by go_num, hg.out, trivial⟩
      case measure => simp [intOf]; omega
    · have hdj : decide ((k : Int) < (F.length : Int)) = false := by simp; omega
      obtain rfl : k = F.length := by omega
      have hD : DigsB F := digs_of_byteN hpre
      have hnum := Lib.hid ((numB_iff F).2 ⟨hne, hD, hhead.out⟩)
      have HD := Lib.hid hD
      clear hpre hD HBY
      have hgle : g ≤ wr.heap.size := by omega
      go_upto_region 10 with (fail)
      clear hdj hg7 d1
      go_loopw [0, 6] (fun sv v wi => ∃ (m : Nat) (O : List Nat), sv = .string ⟨(F.take m).toArray⟩ ∧ ParseSt F m O ∧ Below g w wi ∧ wi.ownsRow g 105 1 v O.length (uvals O)) (fun sv _ _ => match sv with | .string b => b.size | _ => 0)
      case atStart => exact ⟨F.length, [], by rw [List.take_length], ParseSt.init F, hb7, World.ownsRow_nil _ _ _ _⟩
      case round =>
      obtain ⟨m, O, rfl, S, bel, own⟩ := hrel
      clear hb7
      have hml := S.le
      have htl : (F.take m).length = m := by rw [List.length_take]; omega
      have hsz := size_mk (F.take m)
      by_cases hm0 : m = 0
      · subst hm0
        have hO := Lib.hid S.done
        have hown := own.lt
        obtain ⟨oc, cc, rfl, hcc, _, hI⟩ := limbsAt_own (L := O) own
        have QT := Lib.hid (exTrim_any oc O cc wr hI (by have := S.short; omega) hcc S.all)
        rw [hO.out] at QT
        have hlt2 : ∀ a, oc = some a → a.block < wr.heap.size := fun a h => by subst h; exact (hown a.block rfl).2
        clear own hI S hO hown
        go_wp2_with (go_at_call 85; refine QT.out.mono ?_; rintro e w3 ⟨rfl, hI3, rfl⟩)
        go_ret2
        exact ⟨by rw [HG.out]; exact bel, .inr ⟨hnum.out, oc, cc, rfl, hI3, hlt2⟩⟩
      · have hmi : (0 : Int) < (m : Int) := by omega
        have hsh := S.short
        have SN := Lib.hid (S.next HD.out (by omega))
        obtain ⟨p, hp⟩ : ∃ p : Nat, m - 9 = p := ⟨_, rfl⟩
        rw [hp] at SN
        have hmx : (if (9 : Int) < (m : Int) then (m : Int) - 9 else 0) = (p : Int) := by split <;> omega
        have hex : (ByteArray.mk (F.take m).toArray).extract p m = ⟨(pieceF F m).toArray⟩ := by
          have e := extract_drop (F.take m) p
          rw [htl] at e
          rw [e]
          unfold pieceF
          rw [hp]
        have hext : (ByteArray.mk (F.take m).toArray).extract 0 p = ⟨(F.take p).toArray⟩ := by
          rw [extract_take, List.take_take, Nat.min_eq_left (by omega)]
        have hpm : (p : Int) ≤ (m : Int) := by omega
        have hp0 : (0 : Int) ≤ (p : Int) := by omega
        have hlp := length_pieceF F m hml
        have hDP := Lib.hid (show DigsB (pieceF F m) from digs_drop (digs_take HD.out m) (m - 9))
        have HP := Lib.hid hp
        have hpl : p < m := by omega
        clear S hp
        generalize pieceF F m = P at *
        go_upto_region 14 with (refine wpList_bytes_of rfl _ 9 80 5 rfl Tryd.underlying9 Tryd.underlying80 Tryd.underlying5 P rfl ?_; intro cap2 w8 hb8 hg8 hby8)
        have hgw : g ≤ wr.heap.size := by rw [← HG.out]; exact bel.size
        have HBY8 := Lib.hid hby8
        have OWN8 := Lib.hid (own_below own hb8)
        have BEL8 := Lib.hid (bel.trans (hb8.mono hgw))
        have hg8' : g ≤ w8.heap.size := Nat.le_trans hgw hb8.size
        clear hby8 own bel hb8 hg8 hmx hex hsz
        generalize wr.heap.size = q at *
        go_loopw [8, 49] (fun l j wi => ∃ k : Nat, k ≤ P.length ∧ j = .int .i64 k ∧ l = .int .u32 ((dv (P.take k) : Nat) : Int) ∧ wi = w8) (fun _ j _ => P.length - (intOf j).toNat)
        case atStart => exact ⟨0, by omega, rfl, rfl, rfl⟩
        case round =>
        obtain ⟨k, hk8, rfl, rfl, rfl⟩ := hrel
        by_cases hlt8 : k < P.length
        · have hdj : decide ((k : Int) < (P.length : Int)) = true := by simp; omega
          have hcj := HBY8.out k hlt8
          obtain ⟨s1, s2, s3, s4, s5⟩ := dv_step P hDP.out k hlt8 (by omega)
          have hj0 : (0 : Int) ≤ k := by omega
          have hjl2 : (k : Int) < ((P.length : Nat) : Int) := by omega
          generalize byteN P k = c at *
          generalize dv (P.take k) = l at *
          obtain ⟨l2, hl2⟩ : ∃ l2, l2 = dv (P.take (k + 1)) := ⟨_, rfl⟩
          rw [← hl2] at s2 s3
          have HL2 := Lib.hid hl2
          have c48 : (48 : Int) ≤ (c : Int) := by omega
          have hsum : 10 * (l : Int) + ((c : Int) - 48) = (l2 : Int) := by omega
          clear hl2 s3
          go_wp2_with fail
          go_roundw
          case rel => exact ⟨k + 1, by omega, by go_num, by rw [← HL2.out], trivial⟩
          case measure => simp [intOf]; omega
        · have hdj : decide ((k : Int) < (P.length : Int)) = false := by simp; omega
          obtain rfl : k = P.length := by omega
          rw [List.take_length]
          obtain ⟨u, hu⟩ : ∃ u, dv P = u := ⟨_, rfl⟩
          rw [hu] at SN ⊢
          clear hu
          have hol : O.length ≤ 140737488355328 := by omega
          clear HBY8 hDP
          go_upto_region 18 with (fail)
          refine Seg.wp_region_segs (fun w' => True) [([0, 1, 4, 5, 6], 2), ([], 3)] [7] 8 (by kernel_rfl) (by kernel_rfl) (fun _ _ d _ _ h => by cases d <;> exact h) (trivial) ?_
          simp only [List.map_cons, List.map_nil, Seg.opAt, List.drop_succ_cons, List.drop_zero, Seg.wpSegs, Array.getD_eq_getD_getElem?, List.getElem?_toArray, List.getElem?_cons_succ, List.getElem?_cons_zero, Option.getD_some]
          repeat (any_goals (first | go_big_quiet_step (fail) | quiet_step (fail)))
          refine wpQuiet_nil ?_
          intro K hK
          simp only [Region.wanted, if_true]
          go_wp2_with fail
          refine hK _ _ trivial ?_
          clear hK K
          refine wpQuiet_nil ?_
          intro K hK
          simp only [Region.wanted, if_true]
          refine wp_append_own _ (.tmp 60) (.tmp 62) 69 rfl g 105 i0 (.int .u32 0) 1 4 Tryd.underlying69 HI.out HZ0.out HZ1.out HZ2.out rfl (by decide) u6 O.length (uvals O) rfl ((OWN8.out.drew).alloc _) ⟨wr.heap.size, 0, none⟩ 1 1 (uvals [u]) rfl rfl ?c1 ?c2 ?c3 ?c4 ?c5 ?_
          case c1 => exact news_uvals wr.drew [u] _ _ rfl
          case c2 => exact uvals_one _
          case c3 => unfold maxLen; omega
          case c4 => omega
          case c5 => first | omega | (simp; omega)
          intro v5 w5 own5 hg5 _
          have bel5 : Below g w w5 := ((BEL8.out.drew).alloc hg8' _).grown hg5 (by simp; omega) (fun q hq => (OWN8.out.lt q hq).1)
          rw [uvals_append] at own5
          have OWN5 : w5.ownsRow g 105 1 v5 (O ++ [u]).length (uvals (O ++ [u])) := by rw [List.length_append]; exact own5
          refine hK _ _ trivial ?_
          clear hK K own5 hg5 OWN8 BEL8
          repeat (any_goals (first | go_big_quiet_step (fail) | quiet_step (fail)))
          refine wpQuiet_nil ?_
          have hszp := size_mk (F.take p)
          have hszm := size_mk (F.take m)
          have hlpt : (F.take p).length = p := by rw [List.length_take]; omega
          rw [hlpt] at hszp
          rw [htl] at hszm
          have HS1 := Lib.hid hszp
          have HS2 := Lib.hid hszm
          clear hszp hszm hext
          go_wp2_with fail
          go_roundw
          case rel => exact ⟨p, O ++ [u], rfl, SN.out, bel5, OWN5⟩
          case measure => simp [HS1.out, HS2.out]; omega

  · have d1 : (1 : Int) < (F.length : Int) := by omega
    have hz2 : ¬ byteN F 0 = 48 := fun h => hz ⟨by omega, h⟩
    have hs0 : ∀ h, (((ByteArray.mk F.toArray)[0]'h).toNat : Int) = (byteN F 0 : Int) := fun h => strBN F 0 h
    have hs1 : ((byteN F 0 : Int) == 48) = false := by rw [beq_eq_false_iff_ne]; omega
    clear hz hl1 hz2
    have QF := Lib.hid hF
    go_upto_region 4 with (refine wpList_bytes_of rfl _ 9 80 5 rfl Tryd.underlying9 Tryd.underlying80 Tryd.underlying5 F rfl ?_; intro cap w7 hb7 hg7 hby)
    have HBY := Lib.hid hby
    clear hby hs0
    generalize hgg : w.heap.size = g at *
    have HG := Lib.hid hgg
    clear hgg
    go_loopw [26] (fun j wi => ∃ k : Nat, k ≤ F.length ∧ j = .int .i64 k ∧ (∀ i, i < k → 48 ≤ byteN F i ∧ byteN F i ≤ 57) ∧ wi = w7) (fun j _ => F.length - (intOf j).toNat)
    case atStart => exact ⟨0, by omega, rfl, fun i hi => by omega, rfl⟩
    case round =>
    obtain ⟨k, hk, rfl, hpre, rfl⟩ := hrel
    by_cases hlt : k < F.length
    · have hdj : decide ((k : Int) < (F.length : Int)) = true := by simp; omega
      have hcj := HBY.out k hlt
      have hc8 : byteN F k < 256 := byteN_lt F k
      have hj0 : (0 : Int) ≤ k := by omega
      have hjl2 : (k : Int) < ((F.length : Nat) : Int) := by omega
      have hbad := Lib.hid (fun (h : ¬ (48 ≤ byteN F k ∧ byteN F k ≤ 57)) => (show numB F = false from numB_false F (fun h2 => h (digs_byteN h2.2.1 k hlt))))
      have hgood := Lib.hid (fun (h : 48 ≤ byteN F k ∧ byteN F k ≤ 57) (i : Nat) (hi : i < k + 1) => (show 48 ≤ byteN F i ∧ byteN F i ≤ 57 by
        by_cases he : i = k
        · rw [he]; exact h
        · exact hpre i (by omega)))
      clear hpre
      generalize byteN F k = c at *
      by_cases h1 : c < 48
      · have e1 : (c : Int) < 48 := by omega
        have hb := Lib.hid (hbad.out (by omega))
        clear hbad hgood
        go_wp2_with fail
        go_ret2
        exact ⟨by rw [HG.out]; exact hb7, .inl ⟨hb.out, rfl⟩⟩
      by_cases h2 : 57 < c
      · have e1 : ¬ (c : Int) < 48 := by omega
        have e2 : (57 : Int) < c := by omega
        have hb := Lib.hid (hbad.out (by omega))
        clear hbad hgood
        go_wp2_with fail
        go_ret2
        exact ⟨by rw [HG.out]; exact hb7, .inl ⟨hb.out, rfl⟩⟩
      have e1 : ¬ (c : Int) < 48 := by omega
      have e2 : ¬ (57 : Int) < c := by omega
      have hg := Lib.hid (hgood.out (by omega))
      clear hbad hgood
      go_wp2_with fail
      go_roundw
      case rel => exact ⟨k + 1, by omega, by go_num, hg.out, trivial⟩
      case measure => simp [intOf]; omega
    · have hdj : decide ((k : Int) < (F.length : Int)) = false := by simp; omega
      obtain rfl : k = F.length := by omega
      have hD : DigsB F := digs_of_byteN hpre
      have hnum := Lib.hid ((numB_iff F).2 ⟨hne, hD, hhead.out⟩)
      have HD := Lib.hid hD
      clear hpre hD HBY
      have hgle : g ≤ wr.heap.size := by omega
      go_upto_region 10 with (fail)
      clear hdj hg7 d1
      go_loopw [0, 6] (fun sv v wi => ∃ (m : Nat) (O : List Nat), sv = .string ⟨(F.take m).toArray⟩ ∧ ParseSt F m O ∧ Below g w wi ∧ wi.ownsRow g 105 1 v O.length (uvals O)) (fun sv _ _ => match sv with | .string b => b.size | _ => 0)
      case atStart => exact ⟨F.length, [], by rw [List.take_length], ParseSt.init F, hb7, World.ownsRow_nil _ _ _ _⟩
      case round =>
      obtain ⟨m, O, rfl, S, bel, own⟩ := hrel
      clear hb7
      have hml := S.le
      have htl : (F.take m).length = m := by rw [List.length_take]; omega
      have hsz := size_mk (F.take m)
      by_cases hm0 : m = 0
      · subst hm0
        have hO := Lib.hid S.done
        have hown := own.lt
        obtain ⟨oc, cc, rfl, hcc, _, hI⟩ := limbsAt_own (L := O) own
        have QT := Lib.hid (exTrim_any oc O cc wr hI (by have := S.short; omega) hcc S.all)
        rw [hO.out] at QT
        have hlt2 : ∀ a, oc = some a → a.block < wr.heap.size := fun a h => by subst h; exact (hown a.block rfl).2
        clear own hI S hO hown
        go_wp2_with (go_at_call 85; refine QT.out.mono ?_; rintro e w3 ⟨rfl, hI3, rfl⟩)
        go_ret2
        exact ⟨by rw [HG.out]; exact bel, .inr ⟨hnum.out, oc, cc, rfl, hI3, hlt2⟩⟩
      · have hmi : (0 : Int) < (m : Int) := by omega
        have hsh := S.short
        have SN := Lib.hid (S.next HD.out (by omega))
        obtain ⟨p, hp⟩ : ∃ p : Nat, m - 9 = p := ⟨_, rfl⟩
        rw [hp] at SN
        have hmx : (if (9 : Int) < (m : Int) then (m : Int) - 9 else 0) = (p : Int) := by split <;> omega
        have hex : (ByteArray.mk (F.take m).toArray).extract p m = ⟨(pieceF F m).toArray⟩ := by
          have e := extract_drop (F.take m) p
          rw [htl] at e
          rw [e]
          unfold pieceF
          rw [hp]
        have hext : (ByteArray.mk (F.take m).toArray).extract 0 p = ⟨(F.take p).toArray⟩ := by
          rw [extract_take, List.take_take, Nat.min_eq_left (by omega)]
        have hpm : (p : Int) ≤ (m : Int) := by omega
        have hp0 : (0 : Int) ≤ (p : Int) := by omega
        have hlp := length_pieceF F m hml
        have hDP := Lib.hid (show DigsB (pieceF F m) from digs_drop (digs_take HD.out m) (m - 9))
        have HP := Lib.hid hp
        have hpl : p < m := by omega
        clear S hp
        generalize pieceF F m = P at *
        go_upto_region 14 with (refine wpList_bytes_of rfl _ 9 80 5 rfl Tryd.underlying9 Tryd.underlying80 Tryd.underlying5 P rfl ?_; intro cap2 w8 hb8 hg8 hby8)
        have hgw : g ≤ wr.heap.size := by rw [← HG.out]; exact bel.size
        have HBY8 := Lib.hid hby8
        have OWN8 := Lib.hid (own_below own hb8)
        have BEL8 := Lib.hid (bel.trans (hb8.mono hgw))
        have hg8' : g ≤ w8.heap.size := Nat.le_trans hgw hb8.size
        clear hby8 own bel hb8 hg8 hmx hex hsz
        generalize wr.heap.size = q at *
        go_loopw [8, 49] (fun l j wi => ∃ k : Nat, k ≤ P.length ∧ j = .int .i64 k ∧ l = .int .u32 ((dv (P.take k) : Nat) : Int) ∧ wi = w8) (fun _ j _ => P.length - (intOf j).toNat)
        case atStart => exact ⟨0, by omega, rfl, rfl, rfl⟩
        case round =>
        obtain ⟨k, hk8, rfl, rfl, rfl⟩ := hrel
        by_cases hlt8 : k < P.length
        · have hdj : decide ((k : Int) < (P.length : Int)) = true := by simp; omega
          have hcj := HBY8.out k hlt8
          obtain ⟨s1, s2, s3, s4, s5⟩ := dv_step P hDP.out k hlt8 (by omega)
          have hj0 : (0 : Int) ≤ k := by omega
          have hjl2 : (k : Int) < ((P.length : Nat) : Int) := by omega
          generalize byteN P k = c at *
          generalize dv (P.take k) = l at *
          obtain ⟨l2, hl2⟩ : ∃ l2, l2 = dv (P.take (k + 1)) := ⟨_, rfl⟩
          rw [← hl2] at s2 s3
          have HL2 := Lib.hid hl2
          have c48 : (48 : Int) ≤ (c : Int) := by omega
          have hsum : 10 * (l : Int) + ((c : Int) - 48) = (l2 : Int) := by omega
          clear hl2 s3
          go_wp2_with fail
          go_roundw
          case rel => exact ⟨k + 1, by omega, by go_num, by rw [← HL2.out], trivial⟩
          case measure => simp [intOf]; omega
        · have hdj : decide ((k : Int) < (P.length : Int)) = false := by simp; omega
          obtain rfl : k = P.length := by omega
          rw [List.take_length]
          obtain ⟨u, hu⟩ : ∃ u, dv P = u := ⟨_, rfl⟩
          rw [hu] at SN ⊢
          clear hu
          have hol : O.length ≤ 140737488355328 := by omega
          clear HBY8 hDP
          go_upto_region 18 with (fail)
          refine Seg.wp_region_segs (fun w' => True) [([0, 1, 4, 5, 6], 2), ([], 3)] [7] 8 (by kernel_rfl) (by kernel_rfl) (fun _ _ d _ _ h => by cases d <;> exact h) (trivial) ?_
          simp only [List.map_cons, List.map_nil, Seg.opAt, List.drop_succ_cons, List.drop_zero, Seg.wpSegs, Array.getD_eq_getD_getElem?, List.getElem?_toArray, List.getElem?_cons_succ, List.getElem?_cons_zero, Option.getD_some]
          repeat (any_goals (first | go_big_quiet_step (fail) | quiet_step (fail)))
          refine wpQuiet_nil ?_
          intro K hK
          simp only [Region.wanted, if_true]
          go_wp2_with fail
          refine hK _ _ trivial ?_
          clear hK K
          refine wpQuiet_nil ?_
          intro K hK
          simp only [Region.wanted, if_true]
          refine wp_append_own _ (.tmp 60) (.tmp 62) 69 rfl g 105 i0 (.int .u32 0) 1 4 Tryd.underlying69 HI.out HZ0.out HZ1.out HZ2.out rfl (by decide) u6 O.length (uvals O) rfl ((OWN8.out.drew).alloc _) ⟨wr.heap.size, 0, none⟩ 1 1 (uvals [u]) rfl rfl ?c1 ?c2 ?c3 ?c4 ?c5 ?_
          case c1 => exact news_uvals wr.drew [u] _ _ rfl
          case c2 => exact uvals_one _
          case c3 => unfold maxLen; omega
          case c4 => omega
          case c5 => first | omega | (simp; omega)
          intro v5 w5 own5 hg5 _
          have bel5 : Below g w w5 := ((BEL8.out.drew).alloc hg8' _).grown hg5 (by simp; omega) (fun q hq => (OWN8.out.lt q hq).1)
          rw [uvals_append] at own5
          have OWN5 : w5.ownsRow g 105 1 v5 (O ++ [u]).length (uvals (O ++ [u])) := by rw [List.length_append]; exact own5
          refine hK _ _ trivial ?_
          clear hK K own5 hg5 OWN8 BEL8
          repeat (any_goals (first | go_big_quiet_step (fail) | quiet_step (fail)))
          refine wpQuiet_nil ?_
          have hszp := size_mk (F.take p)
          have hszm := size_mk (F.take m)
          have hlpt : (F.take p).length = p := by rw [List.length_take]; omega
          rw [hlpt] at hszp
          rw [htl] at hszm
          have HS1 := Lib.hid hszp
          have HS2 := Lib.hid hszm
          clear hszp hszm hext
          go_wp2_with fail
          go_roundw
          case rel => exact ⟨p, O ++ [u], rfl, SN.out, bel5, OWN5⟩
          case measure => simp [HS1.out, HS2.out]; omega

end Go.Proofs.YtkkpfoidppjbdaaDoor
