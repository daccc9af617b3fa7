/-
  The program's numbers by their canonical texts; the law's small, sum, product.
-/
import Derived.Test.YtkkpfoidppjbdaaDoorNatReck
import Derived.Test.YtkkpfoidppjbdaaDoorNatF
namespace Go.Proofs.YtkkpfoidppjbdaaDoor
set_option linter.unusedVariables false
open Go.RowKit ML FM ND

theorem len_strD {K x : Nat} (h : NB K x) (hK : 1 ≤ K) : (strD x).length ≤ K := by
  unfold strD
  by_cases h0 : x = 0
  · rw [if_pos h0]; exact hK
  · rw [if_neg h0, length_digB]; exact h.digs
theorem wrongN_strD {x : Nat} (h : NB 4000 x) : wrongN (strD x) = 0 := by
  have := len_strD h (by decide)
  unfold wrongN
  rw [if_pos (numB_strD x), if_neg (by omega)]
theorem wrong2_strD {x y : Nat} (hx : NB 4000 x) (hy : NB 4000 y) : wrong2 (strD x) (strD y) = 0 := by
  unfold wrong2
  rw [if_pos (wrongN_strD hx)]; exact wrongN_strD hy
theorem reach_strD {x : Nat} (h : NB 4000 x) : (strD x).length < 140737488355328 := Nat.lt_of_le_of_lt (len_strD h (by decide)) (by decide)
section
variable {x y : Nat} {F G H : Bytes}
theorem addT (hF : F = strD x) (hG : G = strD y) (hH : H = strD (x + y)) (hx : NB 4000 x) (hy : NB 4000 y) (w : World) :
    Calls Tryd.prog 16 #[.string ⟨F.toArray⟩, .string ⟨G.toArray⟩] w fun e w' => e = .returned (.tuple #[.string ⟨H.toArray⟩, .int .i64 0]) ∧ Below w.heap.size w w' := by
  have q := natAdd_any F G w (by rw [hF]; exact reach_strD hx) (by rw [hG]; exact reach_strD hy)
  have e : ans2 F G (strD (dv F + dv G)) = .tuple #[.string ⟨H.toArray⟩, .int .i64 0] := by
    unfold ans2
    rw [hF, hG, hH, wrong2_strD hx hy, if_pos rfl, dv_strD, dv_strD]; rfl
  rw [e] at q
  exact q
theorem mulT (hF : F = strD x) (hG : G = strD y) (hH : H = strD (x * y)) (hx : NB 4000 x) (hy : NB 4000 y) (w : World) :
    Calls Tryd.prog 20 #[.string ⟨F.toArray⟩, .string ⟨G.toArray⟩] w fun e w' => e = .returned (.tuple #[.string ⟨H.toArray⟩, .int .i64 0]) ∧ Below w.heap.size w w' := by
  have q := natMul_any F G w (by rw [hF]; exact reach_strD hx) (by rw [hG]; exact reach_strD hy)
  have e : ans2 F G (strD (dv F * dv G)) = .tuple #[.string ⟨H.toArray⟩, .int .i64 0] := by
    unfold ans2
    rw [hF, hG, hH, wrong2_strD hx hy, if_pos rfl, dv_strD, dv_strD]; rfl
  rw [e] at q
  exact q
theorem gcdT (hF : F = strD x) (hG : G = strD y) (hH : H = strD (Nat.gcd x y)) (hx : NB 4000 x) (hy : NB 4000 y) (w : World) :
    Calls Tryd.prog 25 #[.string ⟨F.toArray⟩, .string ⟨G.toArray⟩] w fun e w' => e = .returned (.tuple #[.string ⟨H.toArray⟩, .int .i64 0]) ∧ Below w.heap.size w w' := by
  have q := natGcd_any F G w (by rw [hF]; exact reach_strD hx) (by rw [hG]; exact reach_strD hy)
  have e : ans2 F G (strD (Nat.gcd (dv F) (dv G))) = .tuple #[.string ⟨H.toArray⟩, .int .i64 0] := by
    unfold ans2
    rw [hF, hG, hH, wrong2_strD hx hy, if_pos rfl, dv_strD, dv_strD]; rfl
  rw [e] at q
  exact q
theorem subT (hF : F = strD x) (hG : G = strD y) (hH : H = strD (x - y)) (hx : NB 4000 x) (hy : NB 4000 y) (hyx : y ≤ x) (w : World) :
    Calls Tryd.prog 13 #[.string ⟨F.toArray⟩, .string ⟨G.toArray⟩] w fun e w' => e = .returned (.tuple #[.string ⟨H.toArray⟩, .int .i64 0]) ∧ Below w.heap.size w w' := by
  have q := natSub_any F G w (by rw [hF]; exact reach_strD hx) (by rw [hG]; exact reach_strD hy)
  have e : wrongS F G = 0 := by
    unfold wrongS
    rw [hF, hG, wrong2_strD hx hy, if_pos rfl, dv_strD, dv_strD, if_neg (by omega)]
  rw [e, if_pos rfl, hF, hG, dv_strD, dv_strD] at q
  rw [hH, hF, hG]
  exact q
theorem divT {J : Bytes} (hF : F = strD x) (hG : G = strD y) (hH : H = strD (x / y)) (hJ : J = strD (x % y)) (hx : NB 4000 x) (hy : NB 4000 y) (hy0 : 0 < y) (w : World) :
    Calls Tryd.prog 27 #[.string ⟨F.toArray⟩, .string ⟨G.toArray⟩] w fun e w' => e = .returned (.tuple #[.string ⟨H.toArray⟩, .string ⟨J.toArray⟩, .int .i64 0]) ∧ Below w.heap.size w w' := by
  have q := natDiv_any F G w (by rw [hF]; exact reach_strD hx) (by rw [hG]; exact reach_strD hy)
  have e : wrongQ F G = 0 := by
    unfold wrongQ
    rw [hF, hG, wrong2_strD hx hy, if_pos rfl, dv_strD, if_neg (by omega)]
  rw [e, if_pos rfl, if_pos rfl, hF, hG, dv_strD, dv_strD] at q
  rw [hH, hJ, hF, hG]
  exact q
theorem cmpT (hF : F = strD x) (hG : G = strD y) (hx : NB 4000 x) (hy : NB 4000 y) (w : World) :
    Calls Tryd.prog 22 #[.string ⟨F.toArray⟩, .string ⟨G.toArray⟩] w fun e w' => e = .returned (.tuple #[.int .i64 (NL.cmpI x y), .int .i64 0]) ∧ Below w.heap.size w w' := by
  have q := natCompare_any F G w (by rw [hF]; exact reach_strD hx) (by rw [hG]; exact reach_strD hy)
  rw [hF, hG, wrong2_strD hx hy, if_pos rfl, dv_strD, dv_strD] at q
  rw [hF, hG]
  exact q
set_option maxHeartbeats 1000000 in
set_option maxRecDepth 100000 in
theorem lawSum_any (hF : F = strD x) (hG : G = strD y) (hH : H = strD (x + y)) (hx : NB 4000 x) (hy : NB 4000 y) (w : World) :
    Calls Tryd.prog 11 #[.string ⟨F.toArray⟩, .string ⟨G.toArray⟩] w fun e w' => e = .returned (.string ⟨H.toArray⟩) ∧ Below w.heap.size w w' := by
  have Q := Lib.hid (addT hF hG hH hx hy w)
  clear hF hG hH hx hy
  go_enter Tryd.func11, Tryd.ntmps11
  go_wp2_with (go_at_call 16; refine Q.out.mono ?_; rintro e w1 ⟨rfl, b⟩)
  go_ret
  exact ⟨rfl, b⟩
set_option maxHeartbeats 1000000 in
set_option maxRecDepth 100000 in
theorem lawProduct_any (hF : F = strD x) (hG : G = strD y) (hH : H = strD (x * y)) (hx : NB 4000 x) (hy : NB 4000 y) (w : World) :
    Calls Tryd.prog 12 #[.string ⟨F.toArray⟩, .string ⟨G.toArray⟩] w fun e w' => e = .returned (.string ⟨H.toArray⟩) ∧ Below w.heap.size w w' := by
  have Q := Lib.hid (mulT hF hG hH hx hy w)
  clear hF hG hH hx hy
  go_enter Tryd.func12, Tryd.ntmps12
  go_wp2_with (go_at_call 20; refine Q.out.mono ?_; rintro e w1 ⟨rfl, b⟩)
  go_ret
  exact ⟨rfl, b⟩
end
/-- all are numbers, of n digits at most? -/
def smallB (L : List Bytes) (n : Nat) : Bool := L.all fun F => numB F && decide (F.length ≤ n)
theorem smallB_no {L : List Bytes} {n : Nat} {F : Bytes} (hF : F ∈ L) (h : (numB F && decide (F.length ≤ n)) = false) : smallB L n = false := by
  unfold smallB
  rw [List.all_eq_false]
  exact ⟨F, hF, by rw [h]; decide⟩
theorem smallB_yes {L : List Bytes} {n : Nat} (h : smallB L n = true) {F : Bytes} (hF : F ∈ L) : ∃ x, F = strD x ∧ NB n x := by
  unfold smallB at h
  rw [List.all_eq_true] at h
  have := h F hF
  simp only [Bool.and_eq_true, decide_eq_true_eq] at this
  exact ⟨dv F, (strD_dv F this.1).symm, F.length, this.2, dv_lt F ((numB_iff F).1 this.1).2.1⟩
set_option maxHeartbeats 2000000 in
set_option maxRecDepth 100000 in
theorem lawSmall_any (L : List Bytes) (n d : Nat) (T : TypeId) (fr : Nat × Nat) (cs : Array Value) (cap : Nat) (w : World) (hd : w.heap[d]? = some (.cells cs T fr)) (hcs : ∀ i (h : i < L.length), cs[i]? = some (.string ⟨(L[i]).toArray⟩)) (hl : ∀ F ∈ L, F.length < 140737488355328) (hL : L.length < 1099511627776) :
    Calls Tryd.prog 10 #[.slice (some ⟨d, 0, none⟩) L.length cap, .int .i64 (n : Int)] w fun e w' => e = .returned (.bool (smallB L n)) ∧ w' = w := by
  have HD := Lib.hid hd
  have HC := Lib.hid hcs
  have HLl := Lib.hid hl
  have QI := Lib.hid (fun F w h => refIs_any F w h)
  clear hd hcs hl
  go_enter Tryd.func10, Tryd.ntmps10
  go_upto_region 2 with (fail)
  go_loopw [9] (fun i wr => ∃ k : Nat, k ≤ L.length ∧ i = .int .i64 k ∧ smallB (L.take k) n = true ∧ wr = w) (fun i _ => L.length - (intOf i).toNat)
  case atStart => exact ⟨0, by omega, rfl, rfl, rfl⟩
  case round =>
  obtain ⟨k, hk, rfl, hs, hw⟩ := hrel
  replace hw := hw.symm
  subst hw
  have HS := Lib.hid hs
  clear hs
  by_cases hm : k < L.length
  · have hdm : decide ((k : Int) < (L.length : Int)) = true := by simp; omega
    have hkl : (k : Int) < (L.length : Int) := by omega
    have hk0 : (0 : Int) ≤ k := by omega
    have hcell := cell_of_row w d k _ _ _ HD.out
    rw [HC.out k hm] at hcell
    have hlF := HLl.out L[k] (List.getElem_mem hm)
    have hmem : L[k] ∈ L := List.getElem_mem hm
    have hts : L.take (k + 1) = L.take k ++ [L[k]] := List.take_succ_eq_append_getElem hm
    have hno := Lib.hid (fun h => smallB_no (n := n) hmem h)
    have hyes := Lib.hid (fun (h : (numB L[k] && decide (L[k].length ≤ n)) = true) => (show smallB (L.take (k + 1)) n = true by
      have := HS.out
      unfold smallB at this ⊢
      rw [hts, List.all_append, this]
      simp only [List.all_cons, List.all_nil, Bool.and_true, Bool.true_and]
      exact h))
    clear hts hmem
    generalize L[k] = F at *
    have QF := Lib.hid (QI.out F w hlF)
    cases hnb : numB F with
    | false =>
      rw [hnb] at QF
      have hf := Lib.hid (hno.out (by rw [hnb]; rfl))
      clear hnb
      go_wp2_with (go_at_call 51; refine QF.out.mono ?_; rintro e w1 ⟨rfl, rfl⟩)
      go_ret
      rw [hf.out]
      exact ⟨rfl, rfl⟩
    | true =>
      rw [hnb] at QF
      by_cases hn : F.length ≤ n
      · have hdn : decide (n < F.length) = false := by simp; omega
        have ht := Lib.hid (hyes.out (by rw [hnb]; simp [hn]))
        clear hnb hn
        go_wp2_with (go_at_call 51; refine QF.out.mono ?_; rintro e w1 ⟨rfl, rfl⟩)
        go_roundw
        case rel => exact ⟨k + 1, by omega, by go_num, ht.out, trivial⟩
        case measure => simp [intOf]; omega
      · have hdn : decide (n < F.length) = true := by simp; omega
        have hf := Lib.hid (hno.out (by rw [hnb]; simp; omega))
        clear hnb hn
        go_wp2_with (go_at_call 51; refine QF.out.mono ?_; rintro e w1 ⟨rfl, rfl⟩)
        go_ret
        rw [hf.out]
        exact ⟨rfl, rfl⟩
  · have hdm : decide ((k : Int) < (L.length : Int)) = false := by simp; omega
    have hs2 := HS.out
    rw [List.take_of_length_le (by omega)] at hs2
    have HS2 := Lib.hid hs2
    clear hs2
    go_wp2_with fail
    go_ret
    rw [HS2.out]
    exact ⟨rfl, rfl⟩
end Go.Proofs.YtkkpfoidppjbdaaDoor
