/-
  (exact.Nat).times, (exact.Nat).by, exact.Of.
-/
import Derived.Test.YtkkpfoidppjbdaaDoorLMul
import Derived.Test.YtkkpfoidppjbdaaDoorLKnuth
namespace Go.Proofs.YtkkpfoidppjbdaaDoor
set_option linter.unusedVariables false
open Go.RowKit ML NL

theorem own_take {w : World} {base : Nat} {e : TypeId} {v : Value} {L : List Nat} (h : w.ownsRow base e 1 v L.length (uvals L)) (k : Nat) (hk : k ≤ L.length) : ∃ oc cc, v = .slice oc L.length cc ∧ L.length ≤ cc ∧ w.ownsRow base e 1 (.slice oc k cc) k (uvals (L.take k)) := by
  have hl : (uvals (L.take k)).length = k * 1 := by rw [length_uvals, List.length_take]; omega
  rcases h.2 with ⟨hv, h0⟩ | ⟨g, cap, cur, hv, hb, hg, hnc, hm, hc, ht⟩
  · have hk0 : k = 0 := by omega
    subst hk0
    exact ⟨none, 0, by rw [hv, h0], by omega, hl, .inl ⟨rfl, rfl⟩⟩
  · refine ⟨some ⟨g, 0, none⟩, cap, hv, hnc, hl, .inr ⟨g, cap, cur, rfl, hb, hg, by omega, hm, hc, ?_⟩⟩
    have : (cur.toList.take (L.length * 1)).take (k * 1) = (uvals L).take (k * 1) := by rw [ht]
    rw [List.take_take, Nat.min_eq_left (by omega)] at this
    rw [this]
    simp [uvals]
theorem trim_take (L : List Nat) (h : AllD L) : ∃ k, k ≤ L.length ∧ (trimL L).length = k ∧ L.take k = trimL L := by
  have H : ∀ (n : Nat) (L : List Nat), L.length = n → AllD L → ∃ k, k ≤ L.length ∧ L.take k = trimL L := by
    intro n
    induction n with
    | zero =>
      intro L hl _
      have : L = [] := List.length_eq_zero_iff.1 hl
      subst this
      exact ⟨0, by simp, by unfold trimL; simp [val, dig_zero]⟩
    | succ n ih =>
      intro L hl hA
      by_cases h0 : L.getD n 0 = 0
      · obtain ⟨k, hk, he⟩ := ih (L.take n) (by rw [List.length_take]; omega) (all_take hA n)
        rw [List.length_take] at hk
        refine ⟨k, by omega, ?_⟩
        rw [List.take_take, Nat.min_eq_left (by omega)] at he
        rw [he]
        unfold trimL
        congr 1
        refine val_take_zero L n (fun i hi => ?_)
        rcases Nat.lt_or_ge n i with h1 | h1
        · rw [List.getD_eq_getElem?_getD, List.getElem?_eq_none (by omega)]; rfl
        · have : i = n := by omega
          rw [this]; exact h0
      · exact ⟨n + 1, by omega, take_trim L (n + 1) hA (by omega) (fun i hi => by rw [List.getD_eq_getElem?_getD, List.getElem?_eq_none (by omega)]; rfl) (.inr (by simpa using h0))⟩
  obtain ⟨k, hk, he⟩ := H L.length L rfl h
  exact ⟨k, hk, by rw [← he, List.length_take]; omega, he⟩
set_option maxHeartbeats 4000000 in
set_option maxRecDepth 100000 in
theorem exTimes_any (x b : Nat) (oa : Option Addr) (ca : Nat) (w : World) (ha : LimbsAt w oa (dig x)) (hx : (dig x).length < 1099511627776) (hb : b < 1000000000) :
    Calls Tryd.prog 89 #[.slice oa (dig x).length ca, .int .u32 b] w fun e w' => ∃ oc cc, e = .returned (.slice oc (dig (x * b)).length cc) ∧ w'.ownsRow w.heap.size 105 1 (.slice oc (dig (x * b)).length cc) (dig (x * b)).length (uvals (dig (x * b))) ∧ Below w.heap.size w w' := by
  obtain ⟨i0, hi, hz0, hz1, hz2⟩ := info_parts info_limb
  have HI := Lib.hid hi
  have HZ0 := Lib.hid hz0
  have HZ1 := Lib.hid hz1
  have HZ2 := Lib.hid hz2
  have HA := Lib.hid ha
  clear hi hz0 hz1 hz2 ha
  have hC : ((dig x).length : Int) + 1 = (((dig x).length + 1 : Nat) : Int) := by omega
  have HC := Lib.hid hC
  clear hC
  go_enter Tryd.func89, Tryd.ntmps89
  go_upto_region 2 with (refine wpList_make_own _ rfl _ _ 69 rfl w.heap.size 105 i0 (.int .u32 0) 1 Tryd.underlying69 HI.out HZ0.out HZ1.out .i64 .i64 (((dig x).length : Int) + 1) ((dig x).length + 1) rfl rfl HC.out (by rw [HZ2.out]; omega) (by unfold maxLen; omega) (Nat.le_refl _) ?_)
  intro w1 own1 hg1
  have bel1 : Below w.heap.size w w1 := (Below.refl _ _).grown hg1 (Nat.le_refl _) (by simp)
  have S0 := TimesSt.init x b
  clear hg1
  go_upto_region 4 with (fail)
  go_loopw [5, 6, 15] (fun v z i wr => ∃ (O : List Nat) (u : Nat), z = .int .u64 u ∧ i = .int .i64 O.length ∧ O.length ≤ (dig x).length ∧ TimesSt x b O u ∧ Below w.heap.size w wr ∧ wr.ownsRow w.heap.size 105 1 v O.length (uvals O)) (fun _ _ i _ => (dig x).length - (intOf i).toNat)
  case atStart => exact ⟨[], 0, rfl, rfl, by simp, S0, bel1, own1⟩
  case round =>
  obtain ⟨O, u, rfl, rfl, hOl, S, bel, own⟩ := hrel
  clear S0 bel1 own1
  have hup := S.up
  have bsz := bel.size
  by_cases hm : O.length < (dig x).length
  · have hdm : decide ((O.length : Int) < ((dig x).length : Int)) = true := by simp; omega
    have SN2 : Hid (TimesSt x b (O ++ [(u + lAt (dig x) O.length * b) % 1000000000]) ((u + lAt (dig x) O.length * b) / 1000000000)) := Lib.hid (S.next hb hm)
    have h1 : lAt (dig x) O.length < 1000000000 := getD_lt (all_dig x) O.length
    have h2 := S.bound hb (lAt (dig x) O.length) h1
    obtain ⟨a0, hoa, hac⟩ := (HA.out.below bel).get O.length hm
    have hac2 : wr.cell? (a0.add O.length) = some (.int .u32 ((lAt (dig x) O.length : Nat) : Int)) := hac
    have hil : (O.length : Int) < ((dig x).length : Int) := by omega
    have hi0 : (0 : Int) ≤ O.length := by omega
    clear S hac
    subst hoa
    generalize lAt (dig x) O.length = a at *
    obtain ⟨m, hmm⟩ : ∃ m, m = a * b := ⟨_, rfl⟩
    have hmi : (a : Int) * (b : Int) = (m : Int) := by rw [hmm]; exact (Int.natCast_mul a b).symm
    rw [← hmm] at SN2 h2
    have hab : a * b ≤ 999999999 * 999999999 := Nat.mul_le_mul (by omega) (by omega)
    rw [← hmm, show 999999999 * 999999999 = 999999998000000001 by decide] at hab
    clear hmm
    go_upto_region 7 with (fail)
    obtain ⟨D, hD⟩ : ∃ D : Nat, D = u + m := ⟨_, rfl⟩
    have hDi : (u : Int) + (m : Int) = (D : Int) := by omega
    rw [← hD] at SN2 h2
    rw [hDi]
    clear hmi hac2 hD hDi hab
    go_upto_region 8 with (at_builtin; refine wpList_append_own _ rfl (.tmp 26) (.tmp 30) 69 rfl w.heap.size 105 i0 (.int .u32 0) 1 4 Tryd.underlying69 HI.out HZ0.out HZ1.out HZ2.out rfl (by decide) u5 O.length (uvals O) rfl (own.alloc _) ⟨wr.heap.size, 0, none⟩ 1 1 (uvals [D % 1000000000]) rfl rfl ?c1 ?c2 ?c3 ?c4 ?c5 ?_)
    case c1 => exact news_uvals wr [D % 1000000000] _ _ rfl
    case c2 => exact uvals_one _
    case c3 => unfold maxLen; omega
    case c4 => omega
    case c5 => first | omega | (simp; omega)
    intro v5 w5 own5 hg5 _
    have bel5 : Below w.heap.size w w5 := (bel.alloc bsz _).grown hg5 (by simp; omega) (fun q hq => (own.lt q hq).1)
    rw [uvals_append] at own5
    have OWN5 : w5.ownsRow w.heap.size 105 1 v5 (O ++ [D % 1000000000]).length (uvals (O ++ [D % 1000000000])) := by rw [List.length_append]; exact own5
    clear own5 own hg5 bel
    go_wp2_with fail
    go_roundw
    case rel => exact ⟨O ++ [D % 1000000000], D / 1000000000, by go_num, by rw [List.length_append, List.length_singleton]; go_num, by rw [List.length_append, List.length_singleton]; omega, SN2.out, bel5, OWN5⟩
    case measure => simp [intOf]; omega
  · have hdm : decide ((O.length : Int) < ((dig x).length : Int)) = false := by simp; omega
    obtain ⟨hAl, htr⟩ := S.done (by omega)
    have HAl := Lib.hid hAl
    have HTR := Lib.hid htr
    clear S hAl htr hb
    go_upto_region 99 with (first
      | (at_builtin; refine wpList_append_own _ rfl (.tmp 35) (.tmp 38) 69 rfl w.heap.size 105 i0 (.int .u32 0) 1 4 Tryd.underlying69 HI.out HZ0.out HZ1.out HZ2.out rfl (by decide) u5 O.length (uvals O) rfl (own.alloc _) ⟨wr.heap.size, 0, none⟩ 1 1 (uvals [u]) rfl rfl ?c1 ?c2 ?c3 ?c4 ?c5 ?_))
    case c1 => exact news_uvals wr [u] _ _ rfl
    case c2 => exact uvals_one _
    case c3 => unfold maxLen; omega
    case c4 => omega
    case c5 => first | omega | (simp; omega)
    intro v5 w5 own5 hg5 _
    have bel5 : Below w.heap.size w w5 := (bel.alloc bsz _).grown hg5 (by simp; omega) (fun q hq => (own.lt q hq).1)
    rw [uvals_append] at own5
    have hol : (O ++ [u]).length = O.length + 1 := by simp
    obtain ⟨oc, cc, rfl, hcc, _, hI⟩ := limbsAt_own (L := O ++ [u]) own5
    have own6 : w5.ownsRow w.heap.size 105 1 (.slice oc (O ++ [u]).length cc) (O ++ [u]).length (uvals (O ++ [u])) := by rw [hol] at own5 ⊢; exact own5
    obtain ⟨k, hk, hk2, hk3⟩ := trim_take _ HAl.out
    obtain ⟨oc2, cc2, he2, _, ownk⟩ := own_take own6 k hk
    simp only [Value.slice.injEq] at he2
    obtain ⟨rfl, _, rfl⟩ := he2
    rw [hk3, ← hk2, HTR.out] at ownk
    have OWNK := Lib.hid ownk
    have QT := Lib.hid (exTrim_any oc (O ++ [u]) cc w5 hI (by omega) hcc HAl.out)
    rw [HTR.out, hol] at QT
    have HOL := Lib.hid hol
    clear own5 own6 own hg5 bel hI hol hk hk2 hk3 ownk
    go_wp2_with (go_at_call 85; refine QT.out.mono ?_; rintro e w6 ⟨rfl, hI6, rfl⟩)
    go_ret
    exact ⟨oc, cc, rfl, OWNK.out, bel5⟩
set_option maxHeartbeats 4000000 in
set_option maxRecDepth 100000 in
theorem exBy_any (x b : Nat) (oa : Option Addr) (ca : Nat) (w : World) (ha : LimbsAt w oa (dig x)) (hx : (dig x).length < 1099511627776) (hb0 : 0 < b) (hb : b < 1000000000) :
    Calls Tryd.prog 87 #[.slice oa (dig x).length ca, .int .u32 b] w fun e w' => ∃ oc cc r, e = .returned (.tuple #[.slice oc (dig (x / b)).length cc, .int .u32 (r : Nat)]) ∧ r = x % b ∧ LimbsAt w' oc (dig (x / b)) ∧ (∀ a, oc = some a → w.heap.size ≤ a.block) ∧ Below w.heap.size w w' := by
  obtain ⟨i0, hi, hz0, hz1, hz2⟩ := info_parts info_limb
  have HI := Lib.hid hi
  have HZ0 := Lib.hid hz0
  have HZ1 := Lib.hid hz1
  have HZ2 := Lib.hid hz2
  have HA := Lib.hid ha
  clear hi hz0 hz1 hz2 ha
  have S0 := DivSt.init x b hb0
  have hbz : ((b : Int) == 0) = false := by rw [beq_eq_false_iff_ne]; omega
  go_enter Tryd.func87, Tryd.ntmps87
  go_upto_region 2 with (refine wpList_make_row _ rfl _ _ 69 rfl 105 i0 (.int .u32 0) Tryd.underlying69 HI.out HZ0.out HZ1.out rfl .i64 .i64 (dig x).length rfl rfl (by rw [HZ2.out]; omega) (by omega) ?_)
  rw [made_uvals]
  generalize hB : w.heap.size = d at *
  refine wp_abs (fun w1 => Below d w w1 ∧ w1.heap[d]? = some (.cells (uvals (List.replicate (dig x).length 0)).toArray 105 (0, 0))) ⟨by rw [← hB]; exact (Below.refl _ _).alloc (Nat.le_refl _) _, by rw [← hB]; exact heap_at rfl⟩ (fun w1 hw1 => ?_)
  obtain ⟨bel1, h1⟩ := hw1
  have HB := Lib.hid hB
  clear hB
  go_upto_region 4 with (fail)
  go_loopw [7, 8] (fun v i wr => ∃ (k r : Nat) (z : Int) (Q : List Nat), k ≤ (dig x).length ∧ z = (k : Int) - 1 ∧ i = .int .i64 z ∧ v = .int .u64 r ∧ DivSt x b k Q r ∧ Below d w wr ∧ wr.heap[d]? = some (.cells (uvals Q).toArray 105 (0, 0))) (fun _ i _ => (intOf i + 1).toNat)
  case atStart => exact ⟨(dig x).length, 0, (dig x).length - 1, _, Nat.le_refl _, rfl, by go_num, rfl, S0, bel1, h1⟩
  case round =>
  obtain ⟨k, r, z, Q, hk, hz, rfl, rfl, S, bel, hQ⟩ := hrel
  clear bel1 h1 S0
  have hrb := S.lt
  by_cases h0 : k = 0
  · subst h0
    obtain rfl : z = -1 := by omega
    have hd := Lib.hid S.done
    have hl := S.len
    have QT := Lib.hid (exTrim_any (some ⟨d, 0, none⟩) Q (dig x).length wr (limbsAt_block hQ rfl) (by omega) (by omega) S.all)
    rw [hd.out.1, hl] at QT
    clear S hQ hz
    go_wp2_with (go_at_call 85; refine QT.out.mono ?_; rintro e w3 ⟨rfl, hI3, rfl⟩)
    go_ret2
    exact ⟨_, _, r, rfl, hd.out.2, hI3, fun a h => by cases h; rw [HB.out]; exact Nat.le_refl _, by rw [HB.out]; exact bel⟩
  obtain ⟨i, rfl⟩ : ∃ i, k = i + 1 := ⟨k - 1, by omega⟩
  obtain rfl : z = (i : Int) := by omega
  have hlt : i < (dig x).length := by omega
  have hi0 : (0 : Int) ≤ i := by omega
  have hix : (i : Int) < ((dig x).length : Int) := by omega
  obtain ⟨a0, hoa, hac⟩ := HA.out.get i hlt
  have hablk : a0.block < d := by
    obtain ⟨a1, h2, h3, _⟩ := HA.out.cells i hlt
    rw [hoa] at h2
    cases h2
    rw [HB.out] at h3
    exact h3
  have hac3 : wr.cell? (a0.add i) = some (.int .u32 ((lAt (dig x) i : Nat) : Int)) := by rw [bel.cell (p := a0.add i) (by rw [addr_block']; exact hablk)]; exact hac
  have SN : Hid (DivSt x b i (Q.set i ((r * 1000000000 + lAt (dig x) i) / b)) ((r * 1000000000 + lAt (dig x) i) % b) ∧ (r * 1000000000 + lAt (dig x) i) / b < 1000000000) := Lib.hid (S.step hlt)
  have hai : lAt (dig x) i < 1000000000 := getD_lt (all_dig x) i
  have hQl : i < Q.length := by rw [S.len]; exact hlt
  have hc3 := cell_uvals hQ i hQl
  have hf3 := frozen_of_row wr d i _ _ hQ
  have HSET := Lib.hid (fun q => set_uvals hQ i q)
  have HBEL := Lib.hid bel
  subst hoa
  clear S hac hz h0 hQ bel
  generalize lAt (dig x) i = a at *
  go_upto_region 7 with (fail)
  obtain ⟨D, hD⟩ : ∃ D : Nat, D = r * 1000000000 + a := ⟨_, rfl⟩
  have hDi : (r : Int) * 1000000000 + (a : Int) = (D : Int) := by omega
  have hDb : D < 1000000000000000000 := by omega
  rw [← hD] at SN
  rw [hDi]
  clear hac3 hD hDi
  have hq : ((D : Int) / (b : Int)) = ((D / b : Nat) : Int) := (Int.natCast_ediv D b).symm
  have hr : ((D : Int) % (b : Int)) = ((D % b : Nat) : Int) := (Int.natCast_emod D b).symm
  have hq9 := SN.out.2
  generalize hqq : D / b = q at *
  generalize hrr : D % b = r2 at *
  have HQQ := Lib.hid hqq
  have HRR := Lib.hid hrr
  clear hqq hrr
  go_upto_region 8 with (fail)
  refine wp_abs (fun w4 => Below d w w4 ∧ w4.heap[d]? = some (.cells (uvals (Q.set i q)).toArray 105 (0, 0))) ⟨bel_only HBEL.out ((Only.refl d wr).setCell _ _) (Nat.le_refl _), HSET.out q⟩ (fun w4 hw4 => ?_)
  obtain ⟨bel4, hW4⟩ := hw4
  clear hc3 hf3 HSET HBEL
  go_wp2_with fail
  go_roundw
  case rel => exact ⟨i, r2, (i : Int) - 1, _, by omega, rfl, by go_num, by go_num, SN.out.1, bel4, hW4⟩
  case measure => simp [intOf]
end Go.Proofs.YtkkpfoidppjbdaaDoor
