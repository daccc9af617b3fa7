/-
  Chapter 13, for Pairs: the reference's beatsAll, Smith. Printed by tools/genrs.py.
-/
import Derived.Test.YtnohcdpnnhmpfaaCtRB
namespace Go.Proofs.Ytnohcdpnnhmpfaa
set_option linter.unusedVariables false
set_option linter.unusedSimpArgs false
open Go.RowKit ML FM AU CT

def rowB (p : Mx) (n : Nat) (l : List Nat) (i : Nat) : Bool := (List.range n).all fun j => decide (j ∈ l) || decide (p j i < p i j)
theorem domB_rows (p : Mx) (n : Nat) (l : List Nat) : domB p n l = l.all (rowB p n l) := rfl
theorem rowB_no {p : Mx} {n : Nat} {l : List Nat} {i j : Nat} (hi : i ∈ l) (hj : j < n) (h1 : j ∉ l) (h2 : ¬ p j i < p i j) : domB p n l = false := by
  rw [← Bool.not_eq_true, domB_rows, List.all_eq_true]
  intro h
  have := List.all_eq_true.1 (h i hi) j (List.mem_range.2 hj)
  rw [decide_eq_false h1, decide_eq_false h2] at this
  cases this
theorem bits_ne {n s : Nat} (h0 : 1 ≤ s) (h : s < 2 ^ n) : bitsL n s ≠ [] := by
  intro he
  have key : ∀ n s, s < 2 ^ n → (∀ i, i < n → bitB s i = false) → s = 0 := by
    intro n
    induction n with
    | zero => intro s hs _; simp at hs; exact hs
    | succ n ih =>
      intro s hs hb
      have h1 := hb n (by omega)
      unfold bitB at h1
      have h2 : s / 2 ^ n < 2 := by rw [Nat.div_lt_iff_lt_mul (Nat.two_pow_pos n)]; rw [Nat.pow_succ] at hs; omega
      have h3 : s / 2 ^ n = 0 := by
        rcases Nat.lt_or_ge (s / 2 ^ n) 1 with h | h
        · exact Nat.lt_one_iff.1 h
        · have : s / 2 ^ n = 1 := by omega
          rw [this] at h1; cases h1
      have h4 : s < 2 ^ n := (Nat.div_eq_zero_iff_lt (Nat.two_pow_pos n)).1 h3
      exact ih s h4 (fun i hi => hb i (by omega))
  unfold bitsL at he
  rw [List.filter_eq_nil_iff] at he
  have := key n s h (fun i hi => by have := he i (List.mem_range.2 hi); simpa using this)
  omega
theorem none_one (p : Mx) (n : Nat) : NoneL p n 1 := fun s h0 h1 h2 => by
  have := List.length_pos_iff.2 (bits_ne h0 h1)
  omega
theorem bitsL_succ (n s : Nat) : bitsL (n + 1) s = bitsL n s ++ if bitB s n = true then [n] else [] := by
  unfold bitsL
  rw [List.range_succ, List.filter_append]
  congr 1
  by_cases h : bitB s n = true <;> simp [h]
theorem length_bitsL (n s : Nat) : (bitsL n s).length ≤ n := by
  unfold bitsL
  exact Nat.le_trans (List.length_filter_le _ _) (by simp)
set_option maxHeartbeats 4000000 in
set_option maxRecDepth 100000 in
theorem beatsAll_any (n : Nat) (M : Mx) (q : Addr) (cb : Nat) (l : List Nat) (ol : Option Addr) (cl : Nat) (w : World) (hM : MxR w (some q) n M) (hL : IsAt w ol (natI l)) (hn : n ≤ 12) (hl : ∀ x ∈ l, x < n) (hll : l.length ≤ 12) :
    Calls Try.prog 32 #[.slice (some q) n cb, .slice ol l.length cl] w fun e w' => e = .returned (.bool (domB M n l)) ∧ Below w.heap.size w w' := by
  have HM := Lib.hid hM
  have HLL := Lib.hid hL
  have HX := Lib.hid hl
  have HD := Lib.hid (domB_rows M n l)
  have HNO := Lib.hid (fun i j (h1 : i ∈ l) (h2 : j < n) (h3 : j ∉ l) (h4 : ¬ M j i < M i j) => rowB_no (p := M) h1 h2 h3 h4)
  have QIN := Lib.hid (fun j m => refIn_any ol (natI l) cl ((j : Nat) : Int) (w.drewN m) (hL.below (bel_drewN (Below.refl _ _) m)) (by rw [length_natI]; omega))
  rw [length_natI] at QIN
  clear hM hL hl
  go_enter Try.func32, Try.ntmps32
  go_wp2_with fail
  go_loopw [10] (fun i wr => ∃ k d : Nat, i = .int .i64 k ∧ k ≤ l.length ∧ (∀ x ∈ l.take k, rowB M n l x = true) ∧ wr = w.drewN d) (fun i _ => l.length - (intOf i).toNat)
  case atStart => exact ⟨0, 0, rfl, Nat.zero_le _, (fun x hx => by simp at hx), rfl⟩
  case round =>
  obtain ⟨k, d0, rfl, hk, hr, rfl⟩ := hrel
  have HR := Lib.hid hr
  clear hr
  by_cases hlt : k < l.length
  · have dk : decide ((k : Int) < (l.length : Int)) = true := decide_eq_true (by omega)
    have dk2 : decide (k < l.length) = true := decide_eq_true hlt
    have dki : (k : Int) < (l.length : Int) := by omega
    obtain ⟨a, rfl, hab, hac⟩ := HLL.out.cells k (by rw [length_natI]; exact hlt)
    rw [natI_get] at hac
    have HMEM := Lib.hid (List.getElem_mem hlt)
    have hin := HX.out _ (List.getElem_mem hlt)
    have HTK := Lib.hid (show l.take (k + 1) = l.take k ++ [l[k]] from List.take_succ_eq_append_getElem hlt)
    generalize l[k] = i1 at *
    have hii : (i1 : Int) < (n : Int) := by omega
    obtain ⟨a', ha, _, b, cbi, hbb, hck, hcx⟩ := HM.out.cells i1 hin
    obtain rfl : q = a' := by injection ha
    have HCX := Lib.hid hcx
    clear hcx ha
    go_wp2_with fail
    go_loopw [16] (fun j wr => ∃ j1 d : Nat, j = .int .i64 j1 ∧ j1 ≤ n ∧ (∀ c, c < j1 → c ∈ l ∨ M c i1 < M i1 c) ∧ wr = w.drewN d) (fun j _ => n - (intOf j).toNat)
    case atStart => exact ⟨0, d0, rfl, Nat.zero_le _, (fun c hc => absurd hc (Nat.not_lt_zero _)), rfl⟩
    case round =>
    obtain ⟨j1, d, rfl, hj, hs, rfl⟩ := hrel
    have HS := Lib.hid hs
    clear hs
    by_cases hjt : j1 < n
    · have ek : decide ((j1 : Int) < (n : Int)) = true := decide_eq_true (by omega)
      have ek2 : decide (j1 < n) = true := decide_eq_true hjt
      have eki : (j1 : Int) < (n : Int) := by omega
      obtain ⟨a', ha', _, b', cbj, hbb', hcj, hcy⟩ := HM.out.cells j1 hjt
      obtain rfl : q = a' := by injection ha'
      have kx := HCX.out j1 hjt
      have ky := hcy i1 hin
      have HN := Lib.hid (HNO.out i1 j1 HMEM.out hjt)
      have HSS := Lib.hid (show (j1 ∈ l ∨ M j1 i1 < M i1 j1) → ∀ c, c < j1 + 1 → c ∈ l ∨ M c i1 < M i1 c from fun h c hc => by
        by_cases e : c = j1
        · subst e; exact h
        · exact HS.out c (by omega))
      have QI := Lib.hid (QIN.out j1)
      have HMI := Lib.hid (mem_natI l j1)
      clear hcy ha'
      generalize M i1 j1 = x at *
      generalize M j1 i1 = y at *
      by_cases hm : j1 ∈ l
      · have hd : decide (((j1 : Nat) : Int) ∈ natI l) = true := decide_eq_true (HMI.out.2 hm)
        rw [hd] at QI
        have HS2 := Lib.hid (HSS.out (.inl hm))
        clear hd hm HN HSS HMI
        go_upto_region 7 with (fail)
        refine Seg.wp_region_segs (fun w' => ∃ m, w' = (w.drewN d).drewN m) [([0, 1], 2)] [3, 4, 5, 6, 7, 8, 9, 10, 11, 12, 13, 14, 15, 16, 17, 18] 19 (by kernel_rfl) (by kernel_rfl) (fun _ _ d _ _ h => by cases d <;> exact h) (⟨1, rfl⟩) ?_
        simp only [List.map_cons, List.map_nil, Seg.opAt, List.drop_succ_cons, List.drop_zero, Seg.wpSegs, Array.getD_eq_getD_getElem?, List.getElem?_toArray, List.getElem?_cons_succ, List.getElem?_cons_zero, Option.getD_some]
        repeat (any_goals (first | go_big_quiet_step (fail) | quiet_step (fail)))
        refine wpQuiet_nil ?_
        intro K hK
        simp only [Region.wanted, if_true]
        go_wp2_with (go_at_call 23; refine (QI.out _).mono ?_; rintro e w5 ⟨rfl, rfl⟩)
        refine hK _ _ ⟨1, rfl⟩ ?_
        clear hK K
        repeat (any_goals (first | go_big_quiet_step (fail) | quiet_step (fail)))
        refine wpQuiet_nil ?_
        go_wp2_with go_big_skip
        go_roundw
        case rel => exact ⟨j1 + 1, _, by go_num, by omega, HS2.out, rfl⟩
        case measure => simp [intOf]; omega
      · have hd : decide (((j1 : Nat) : Int) ∈ natI l) = false := decide_eq_false (fun h => hm (HMI.out.1 h))
        rw [hd] at QI
        by_cases hxy : y < x
        · have g1 : decide (x ≤ y) = false := decide_eq_false (by omega)
          have HS2 := Lib.hid (HSS.out (.inr hxy))
          clear hd hm HN HSS HMI hxy
          go_upto_region 7 with (fail)
          refine Seg.wp_region_segs (fun w' => ∃ m, w' = (w.drewN d).drewN m) [([0, 1], 2)] [3, 4, 5, 6, 7, 8, 9, 10, 11, 12, 13, 14, 15, 16, 17, 18] 19 (by kernel_rfl) (by kernel_rfl) (fun _ _ d _ _ h => by cases d <;> exact h) (⟨1, rfl⟩) ?_
          simp only [List.map_cons, List.map_nil, Seg.opAt, List.drop_succ_cons, List.drop_zero, Seg.wpSegs, Array.getD_eq_getD_getElem?, List.getElem?_toArray, List.getElem?_cons_succ, List.getElem?_cons_zero, Option.getD_some]
          repeat (any_goals (first | go_big_quiet_step (fail) | quiet_step (fail)))
          refine wpQuiet_nil ?_
          intro K hK
          simp only [Region.wanted, if_true]
          go_wp2_with (go_at_call 23; refine (QI.out _).mono ?_; rintro e w5 ⟨rfl, rfl⟩)
          refine hK _ _ ⟨1, rfl⟩ ?_
          clear hK K
          repeat (any_goals (first | go_big_quiet_step (fail) | quiet_step (fail)))
          refine wpQuiet_nil ?_
          go_wp2_with go_big_skip
          go_roundw
          case rel => exact ⟨j1 + 1, _, by go_num, by omega, HS2.out, rfl⟩
          case measure => simp [intOf]; omega
        · have g1 : decide (x ≤ y) = true := decide_eq_true (by omega)
          have hxy3 : ¬ y < x := hxy
          have HF := Lib.hid (HN.out hm (by omega))
          clear hd hm HN HSS HMI hxy
          go_upto_region 7 with (fail)
          refine Seg.wp_region_segs (fun w' => ∃ m, w' = (w.drewN d).drewN m) [([0, 1], 2)] [3, 4, 5, 6, 7, 8, 9, 10, 11, 12, 13, 14, 15, 16, 17, 18] 19 (by kernel_rfl) (by kernel_rfl) (fun _ _ d _ _ h => by cases d <;> exact h) (⟨1, rfl⟩) ?_
          simp only [List.map_cons, List.map_nil, Seg.opAt, List.drop_succ_cons, List.drop_zero, Seg.wpSegs, Array.getD_eq_getD_getElem?, List.getElem?_toArray, List.getElem?_cons_succ, List.getElem?_cons_zero, Option.getD_some]
          repeat (any_goals (first | go_big_quiet_step (fail) | quiet_step (fail)))
          refine wpQuiet_nil ?_
          intro K hK
          simp only [Region.wanted, if_true]
          go_wp2_with (go_at_call 23; refine (QI.out _).mono ?_; rintro e w5 ⟨rfl, rfl⟩)
          refine hK _ _ ⟨1, rfl⟩ ?_
          clear hK K
          repeat (any_goals (first | go_big_quiet_step (fail) | quiet_step (fail)))
          refine wpQuiet_nil ?_
          go_wp2_with go_big_skip
          go_ret
          exact ⟨by rw [HF.out]; rfl, bel_drewN (Below.refl _ _) _⟩
    · have ek : decide ((j1 : Int) < (n : Int)) = false := decide_eq_false (by omega)
      have ek2 : decide (j1 < n) = false := decide_eq_false hjt
      obtain rfl : j1 = n := by omega
      have HR2 := Lib.hid (show ∀ x ∈ l.take (k + 1), rowB M j1 l x = true by
        rw [HTK.out]
        intro x hx
        rcases List.mem_append.1 hx with h | h
        · exact HR.out x h
        · rw [List.mem_singleton.1 h]
          unfold rowB
          rw [List.all_eq_true]
          intro c hc
          rw [Bool.or_eq_true]
          rcases HS.out c (List.mem_range.1 hc) with h | h
          · exact .inl (decide_eq_true h)
          · exact .inr (decide_eq_true h))
      go_wp2_with fail
      go_roundw
      case rel => exact ⟨k + 1, _, by go_num, by omega, HR2.out, rfl⟩
      case measure => simp [intOf]; omega
  · have dk : decide ((k : Int) < (l.length : Int)) = false := decide_eq_false (by omega)
    have dk2 : decide (k < l.length) = false := decide_eq_false hlt
    have HT := Lib.hid (show domB M n l = true by
      rw [HD.out, List.all_eq_true]
      intro x hx
      refine HR.out x ?_
      rw [List.take_of_length_le (by omega)]; exact hx)
    go_wp2_with fail
    go_ret
    exact ⟨by rw [HT.out]; rfl, bel_drewN (Below.refl _ _) _⟩
set_option maxHeartbeats 8000000 in
set_option maxRecDepth 100000 in
theorem refSmith_any (P : List (Value × List Int)) (ob : Option Addr) (cb : Nat) (w : World) (hP : PsAt w ob P) (hl : P.length < 9223372036854775808) :
    Calls Try.prog 16 #[.slice ob P.length cb] w (SmithGot P w) := by
  have HP := Lib.hid hP
  have QW := Lib.hid (refWrongPairs_any P ob cb w hP hl)
  clear hP hl
  by_cases h0 : wrE P = 0
  case neg =>
    have H0 := Lib.hid h0
    have HE := Lib.hid (show (wrE P != 0) = true by rw [bne_iff_ne]; exact h0)
    have hd := HE.out
    clear h0
    go_enter Try.func16, Try.ntmps16
    go_wp2_with (first
        | go_big_skip
        | (go_at_call 29; refine (QW.out).mono ?_; rintro e w1 ⟨rfl, rfl⟩; dsimp only))
    go_ret2
    exact SmithGot.bad H0.out (Below.refl _ _)
  obtain ⟨h1, hn, hn0, _⟩ := wrE_ok h0
  obtain ⟨q, rfl, _, _⟩ := HP.out.cells 0 hn0
  have HM := Lib.hid (psAt_read HP.out h1)
  have H0 := Lib.hid h0
  rw [h0] at QW
  obtain ⟨i0, hi, hz0, hz1, hz2⟩ := info_parts info_int1
  have HI := Lib.hid hi
  have HZ0 := Lib.hid hz0
  have HZ1 := Lib.hid hz1
  have HZ2 := Lib.hid hz2
  clear hi hz0 hz1 hz2 h0 h1
  have HOK := Lib.hid (show ∀ (w' : World) (oo : Option Addr) (co : Nat) (S : List Nat), Below w.heap.size w w' → IsAt w' oo (natI S) → S.Pairwise (· < ·) → Smallest (mxP P) P.length S → SmithGot P w (.returned (.tuple #[.slice oo (natI S).length co, .int .i64 0])) w' from fun w' oo co S h1 h2 h3 h4 => SmithGot.ok H0.out h1 h2 h3 h4)
  clear HP H0
  obtain ⟨B, hB⟩ : ∃ B, B = w.heap.size := ⟨_, rfl⟩
  have HB := Lib.hid hB
  clear hB
  generalize mxP P = M at *
  have QB := Lib.hid (fun w1 (hb : Below w.heap.size w w1) l ol cl hL hl hll => beatsAll_any P.length M q cb l ol cl w1 (HM.out.below hb) hL hn hl hll)
  obtain ⟨N2, hN2⟩ : ∃ N2 : Nat, N2 = 2 ^ P.length := ⟨_, rfl⟩
  have hN2b : N2 ≤ 4096 := by
    rw [hN2]
    exact Nat.le_trans (Nat.pow_le_pow_right (by decide) hn) (by decide)
  have hN2i : (2 : Int) ^ P.length = (N2 : Int) := by rw [hN2]; simp
  have HN2 := Lib.hid hN2
  clear hN2
  go_enter Try.func16, Try.ntmps16
  go_upto_region 4 with (first
        | go_big_skip
        | (go_at_call 29; refine (QW.out).mono ?_; rintro e w1 ⟨rfl, rfl⟩; dsimp only))
  clear QW
  go_wp2_with fail
  go_loopw [6] (fun v wr => ∃ sz : Nat, v = .int .i64 sz ∧ 1 ≤ sz ∧ sz ≤ P.length + 1 ∧ NoneL M P.length sz ∧ Below B w wr) (fun v _ => P.length + 1 - (intOf v).toNat)
  case atStart => exact ⟨1, rfl, Nat.le_refl _, by omega, none_one _ _, by rw [HB.out]; exact Below.refl _ _⟩
  case round =>
  obtain ⟨sz, rfl, hz1, hz2, hno, hb⟩ := hrel
  have NO := Lib.hid hno
  have B2 := Lib.hid hb
  clear hno hb
  by_cases hlt : sz ≤ P.length
  case neg =>
    obtain rfl : sz = P.length + 1 := by omega
    exact (none_all hn0 NO.out).elim
  have dk : decide ((sz : Int) ≤ (P.length : Int)) = true := decide_eq_true (by omega)
  have dk2 : decide (sz ≤ P.length) = true := decide_eq_true hlt
  obtain ⟨wo, hwo⟩ : ∃ wo : World, wo = wr := ⟨_, rfl⟩
  subst hwo
  go_wp2_with fail
  clear dk dk2
  go_loopw [7] (fun v wr => ∃ s : Nat, v = .int .i64 s ∧ 1 ≤ s ∧ s ≤ N2 ∧ (∀ t, 1 ≤ t → t < s → (bitsL P.length t).length = sz → domB M P.length (bitsL P.length t) = false) ∧ Below B w wr) (fun v _ => N2 - (intOf v).toNat)
  case atStart => exact ⟨1, rfl, Nat.le_refl _, by rw [HN2.out]; exact Nat.one_le_two_pow, (fun t h1 h2 => by omega), B2.out⟩
  case round =>
  clear B2
  obtain ⟨s, rfl, hs1, hs2, hf, hb⟩ := hrel
  have HF := Lib.hid hf
  have B3 := Lib.hid hb
  clear hf hb
  by_cases hst : s < N2
  case neg =>
    have ek : decide ((s : Int) < (N2 : Int)) = false := decide_eq_false (by omega)
    have ek2 : decide (s < N2) = false := decide_eq_false hst
    have NO2 := Lib.hid (show NoneL M P.length (sz + 1) from fun t h1 h2 h3 => by
      by_cases e : (bitsL P.length t).length = sz
      · exact HF.out t h1 (by rw [← HN2.out] at h2; omega) e
      · exact NO.out t h1 h2 (by omega))
    go_wp2_with fail
    go_roundw
    case rel => exact ⟨sz + 1, by go_num, by omega, by omega, NO2.out, B3.out⟩
    case measure => simp [intOf]; omega
  have ek : decide ((s : Int) < (N2 : Int)) = true := decide_eq_true (by omega)
  have ek2 : decide (s < N2) = true := decide_eq_true hst
  obtain ⟨wp, hwp⟩ : ∃ wp : World, wp = wr := ⟨_, rfl⟩
  subst hwp
  go_wp2_with fail
  clear ek ek2
  go_loopw [9, 8] (fun v vl wr => ∃ (i1 : Nat) (vo : Value), v = .int .i64 i1 ∧ vo = vl ∧ i1 ≤ P.length ∧ wr.ownsRow B 3 1 vo (bitsL i1 s).length (ivals (natI (bitsL i1 s))) ∧ Below B w wr) (fun v _ _ => P.length - (intOf v).toNat)
  case atStart => exact ⟨0, _, rfl, rfl, Nat.zero_le _, World.ownsRow_nil _ _ _ _, B3.out⟩
  case round =>
  clear B3
  obtain ⟨i1, vo, rfl, rfl, hi1, ho, hb⟩ := hrel
  have O4 := Lib.hid ho
  have B4 := Lib.hid hb
  have hBw : B ≤ wr.heap.size := by have := hb.size; have := HB.out; omega
  clear ho hb
  by_cases hit : i1 < P.length
  · have fk : decide ((i1 : Int) < (P.length : Int)) = true := decide_eq_true (by omega)
    have fk2 : decide (i1 < P.length) = true := decide_eq_true hit
    obtain ⟨z, hz⟩ : ∃ z : Nat, z = s / 2 ^ i1 := ⟨_, rfl⟩
    have hsh : (s : Int) / 2 ^ i1 = (z : Int) := by rw [hz]; simp
    have HBS := Lib.hid (bitsL_succ i1 s)
    have HBB := Lib.hid (show bitB s i1 = (z % 2 == 1) by rw [hz]; rfl)
    rw [HBB.out] at HBS
    have hbl := length_bitsL i1 s
    clear hz HBB
    generalize bitsL i1 s = L at *
    have hz0 : (z : Int) % 2 = ((z % 2 : Nat) : Int) := by omega
    rcases Nat.mod_two_eq_zero_or_one z with hz | hz
    · rw [hz] at hz0 HBS
      have HB2 := Lib.hid (show bitsL (i1 + 1) s = L by rw [HBS.out]; simp)
      clear hz HBS
      go_wp2_with fail
      go_roundw
      case rel => exact ⟨i1 + 1, _, by go_num, rfl, by omega, by rw [HB2.out]; exact O4.out, B4.out⟩
      case measure => simp [intOf]; omega
    · rw [hz] at hz0 HBS
      have HB2 := Lib.hid (show bitsL (i1 + 1) s = L ++ [i1] by rw [HBS.out]; simp)
      have hLb : L.length ≤ 12 := by omega
      clear hz HBS
      go_wp2_with (at_builtin; refine wpList_append_lies _ rfl (.tmp 38) (.tmp 40) 25 rfl B 3 i0 (.int .i64 0) 1 8 Try.underlying25 HI.out HZ0.out HZ1.out HZ2.out rfl (by decide) vo L.length (ivals (natI L)) rfl (O4.out.alloc _) ⟨_, 0, none⟩ 1 1 (ivals [(i1 : Int)]) rfl rfl (news_blk (heap_at rfl)) (ivals_one _) (by decide) (by unfold maxLen; omega) (by omega) (by simp; omega) _ rfl (fun g cp w7 own7 hg7 hf7 hlt7 => ?_))
      have hne7 : ∀ b, vo.ownBlock = some b → B ≤ b := fun b hb => (O4.out.lt b hb).1
      have B7 := Lib.hid ((B4.out.alloc hBw (.cells #[.int .i64 (i1 : Int)] 3)).grown hg7 (by simp; omega) hne7)
      have O7 := Lib.hid own7
      clear own7 hg7 hf7 hlt7
      go_wp2_with fail
      go_roundw
      case rel => exact ⟨i1 + 1, _, by go_num, rfl, by omega, by rw [HB2.out, List.length_append, natI_snoc, ← ivals_append]; exact O7.out, B7.out⟩
      case measure => simp [intOf]; omega
  · have fk : decide ((i1 : Int) < (P.length : Int)) = false := decide_eq_false (by omega)
    have fk2 : decide (i1 < P.length) = false := decide_eq_false hit
    obtain rfl : i1 = P.length := by omega
    obtain ⟨oi, ci, rfl, hci, hII⟩ := isAt_own O4.out
    rw [length_natI]
    have HBD := bitsL_bd P.length s
    have hbl := length_bitsL P.length s
    have QBB := Lib.hid (QB.out wr (by rw [← HB.out]; exact B4.out) (bitsL P.length s) oi ci hII HBD (by omega))
    have II := Lib.hid hII
    have HFS := Lib.hid (show ((bitsL P.length s).length = sz → domB M P.length (bitsL P.length s) = false) → ∀ t, 1 ≤ t → t < s + 1 → (bitsL P.length t).length = sz → domB M P.length (bitsL P.length t) = false from fun h t h1 h2 h3 => by
      by_cases e : t = s
      · subst e; exact h h3
      · exact HF.out t h1 (by omega) h3)
    have HSM := Lib.hid (show (bitsL P.length s).length = sz → domB M P.length (bitsL P.length s) = true → Smallest M P.length (bitsL P.length s) from fun h1 h2 => small_of_none NO.out hs1 (by rw [← HN2.out]; exact hst) h1 h2 (by omega))
    have HSR := Lib.hid (bitsL_srt P.length s)
    clear HBD hII O4
    generalize bitsL P.length s = L at *
    by_cases hls : L.length = sz
    · have g1 : ((L.length : Int) == (sz : Int)) = true := by rw [hls]; simp
      have g1' : (L.length == sz) = true := by rw [hls]; simp
      cases hd : domB M P.length L with
      | true =>
        rw [hd] at QBB
        have HS := Lib.hid (HSM.out hls hd)
        have HLN := Lib.hid (length_natI L)
        clear hls hd HSM HFS
        go_wp2_with (first
            | go_big_skip
            | (go_at_call 32; refine (QBB.out).mono ?_; rintro e w6 ⟨rfl, b6⟩; dsimp only; have B6 := Lib.hid (B4.out.trans (b6.mono hBw)); have I6 := Lib.hid (II.out.below b6); clear b6))
        have HFIN := Lib.hid (HOK.out w6 oi ci L (by rw [← HB.out]; exact B6.out) I6.out HSR.out HS.out)
        rw [HLN.out] at HFIN
        go_ret2
        exact HFIN.out
      | false =>
        rw [hd] at QBB
        have HF2 := Lib.hid (HFS.out (fun _ => hd))
        clear hls hd HSM HFS
        go_wp2_with (first
            | go_big_skip
            | (go_at_call 32; refine (QBB.out).mono ?_; rintro e w6 ⟨rfl, b6⟩; dsimp only; have B6 := Lib.hid (B4.out.trans (b6.mono hBw)); clear b6))
        go_roundw
        case rel => exact ⟨s + 1, by go_num, by omega, by omega, HF2.out, B6.out⟩
        case measure => simp [intOf]; omega
    · have g1 : ((L.length : Int) == (sz : Int)) = false := by rw [beq_eq_false_iff_ne]; omega
      have g1' : (L.length == sz) = false := by rw [beq_eq_false_iff_ne]; exact hls
      have HF2 := Lib.hid (HFS.out (fun h => absurd h hls))
      clear hls HSM HFS
      go_wp2_with go_big_skip
      go_roundw
      case rel => exact ⟨s + 1, by go_num, by omega, by omega, HF2.out, B4.out⟩
      case measure => simp [intOf]; omega
end Go.Proofs.Ytnohcdpnnhmpfaa
