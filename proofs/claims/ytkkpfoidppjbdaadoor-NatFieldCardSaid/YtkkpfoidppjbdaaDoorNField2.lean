/-
  The law's good.
-/
import Derived.Test.YtkkpfoidppjbdaaDoorNField1
namespace Go.Proofs.YtkkpfoidppjbdaaDoor
set_option linter.unusedVariables false
open Go.RowKit ML FM ND FRP

/-- a fraction of n digits at most? -/
def good1 (n : Nat) (x : Bytes × Bytes) : Bool := decide (wrongF x.1 x.2 = 0) && decide (x.1.length ≤ n) && decide (x.2.length ≤ n)
def goodB (L : List (Bytes × Bytes)) (n : Nat) : Bool := L.all (good1 n)
theorem goodB_no {L : List (Bytes × Bytes)} {n : Nat} {x : Bytes × Bytes} (hx : x ∈ L) (h : good1 n x = false) : goodB L n = false := by
  unfold goodB
  rw [List.all_eq_false]
  exact ⟨x, hx, by rw [h]; decide⟩
theorem goodB_yes {L : List (Bytes × Bytes)} {n : Nat} (h : goodB L n = true) {N D : Bytes} (hx : (N, D) ∈ L) : ∃ x : Fr, N = strD x.n ∧ D = strD x.d ∧ FOk n x := by
  unfold goodB at h
  rw [List.all_eq_true] at h
  have := h _ hx
  simp only [good1, Bool.and_eq_true, decide_eq_true_eq] at this
  obtain ⟨⟨h1, h2⟩, h3⟩ := this
  obtain ⟨n1, n2, -, -, hd, hg⟩ := wrongF_good h1
  exact ⟨⟨dv N, dv D⟩, (strD_dv N n1).symm, (strD_dv D n2).symm, ⟨hd, hg⟩, ⟨N.length, h2, dv_lt N ((numB_iff N).1 n1).2.1⟩, ⟨D.length, h3, dv_lt D ((numB_iff D).1 n2).2.1⟩⟩
set_option maxHeartbeats 4000000 in
set_option maxRecDepth 100000 in
theorem lawGood_any (L : List (Bytes × Bytes)) (n d : Nat) (T : TypeId) (fr : Nat × Nat) (cs : Array Value) (cap : Nat) (w : World) (hd : w.heap[d]? = some (.cells cs T fr)) (hcs : ∀ i (h : i < L.length), cs[i * 2]? = some (.string ⟨(L[i].1).toArray⟩) ∧ cs[i * 2 + 1]? = some (.string ⟨(L[i].2).toArray⟩)) (hl : ∀ x ∈ L, x.1.length < 140737488355328 ∧ x.2.length < 140737488355328) (hL : L.length < 1099511627776) :
    Calls Tryd.prog 43 #[.slice (some ⟨d, 0, none⟩) L.length cap, .int .i64 (n : Int)] w fun e w' => e = .returned (.bool (goodB L n)) ∧ Below w.heap.size w w' := by
  have HD := Lib.hid hd
  have HC := Lib.hid hcs
  have HLl := Lib.hid hl
  have QW := Lib.hid (fun N D w h1 h2 => refWrongFrac_any N D w h1 h2)
  have HS := Lib.hid size_api
  clear hd hcs hl
  go_enter Tryd.func43, Tryd.ntmps43
  go_upto_region 2 with (fail)
  go_loopw [9] (fun i wr => ∃ k : Nat, k ≤ L.length ∧ i = .int .i64 k ∧ goodB (L.take k) n = true ∧ Below w.heap.size w wr) (fun i _ => L.length - (intOf i).toNat)
  case atStart => exact ⟨0, by omega, rfl, rfl, Below.refl _ _⟩
  case round =>
  obtain ⟨k, hk, rfl, hs, bel⟩ := hrel
  have HG := Lib.hid hs
  clear hs
  by_cases hm : k < L.length
  · have hdm : decide ((k : Int) < (L.length : Int)) = true := by simp; omega
    have hkl : (k : Int) < (L.length : Int) := by omega
    have hk0 : (0 : Int) ≤ k := by omega
    have hdr := bel_keep bel (lt_of_heap HD.out) HD.out
    have c0 := cell_of_row wr d (k * 2) _ _ _ hdr
    have c1 := cell_of_row wr d (k * 2 + 1) _ _ _ hdr
    rw [(HC.out k hm).1] at c0
    rw [(HC.out k hm).2] at c1
    obtain ⟨l1, l2⟩ := HLl.out L[k] (List.getElem_mem hm)
    have hmem : L[k] ∈ L := List.getElem_mem hm
    have hts : L.take (k + 1) = L.take k ++ [L[k]] := List.take_succ_eq_append_getElem hm
    have hno := Lib.hid (fun h => goodB_no (n := n) hmem h)
    have hyes := Lib.hid (fun (h : good1 n L[k] = true) => (show goodB (L.take (k + 1)) n = true by
      have := HG.out
      unfold goodB at this ⊢
      rw [hts, List.all_append, this]
      simp only [List.all_cons, List.all_nil, Bool.and_true, Bool.true_and]
      exact h))
    clear hts hmem hdr
    generalize L[k] = x at *
    obtain ⟨N, D⟩ := x
    have QF := Lib.hid (fun w => QW.out N D w l1 l2)
    have bsz := bel.size
    go_upto_region 4 with (refine wpList_store_whole rfl rfl 45 _ _ rfl wr.heap.size #[.string ⟨#[]⟩, .string ⟨#[]⟩] #[.string ⟨N.toArray⟩, .string ⟨D.toArray⟩] 45 rfl rfl (heap_at rfl) rfl HS.out (two_strings _ _) ?_; intro w3 ho hp; have HO3 := Lib.hid ho; have HP3 := Lib.hid hp; clear ho hp)
    have b3 : Below w.heap.size w w3 := bel_only (bel.alloc bsz _) HO3.out bsz
    generalize wr.heap.size = C at *
    have e0 := cell_of_row w3 C 0 _ _ _ HP3.out
    have e1 := cell_of_row w3 C 1 _ _ _ HP3.out
    have hC3 := lt_of_heap HP3.out
    have bs3 := b3.size
    have HB3 := Lib.hid b3
    clear HO3 c0 c1 b3 bel
    by_cases hw : wrongF N D = 0
    · rw [hw] at QF
      by_cases hn : N.length ≤ n
      · have dn : decide (n < N.length) = false := by simp; omega
        by_cases hd : D.length ≤ n
        · have dd : decide (n < D.length) = false := by simp; omega
          have hy := Lib.hid (hyes.out (by simp [good1, hw, hn, hd]))
          clear hw hn hd
          go_upto_if 32 with (go_at_call 29; refine (QF.out w3).mono ?_; rintro e w4 ⟨rfl, bel4⟩; have B4 := Lib.hid (HB3.out.trans (bel4.mono bs3)); have f0 := cell_of_row w4 C 0 _ _ _ (bel_keep bel4 hC3 HP3.out); have f1 := cell_of_row w4 C 1 _ _ _ (bel_keep bel4 hC3 HP3.out); clear bel4 e0 e1)
          go_wp2_with fail
          go_roundw
          case rel => exact ⟨k + 1, by omega, by go_num, hy.out, B4.out⟩
          case measure => simp [intOf]; omega
        · have dd : decide (n < D.length) = true := by simp; omega
          have hf := Lib.hid (hno.out (by simp [good1]; omega))
          clear hw hn hd
          go_wp2_with (go_at_call 29; refine (QF.out w3).mono ?_; rintro e w4 ⟨rfl, bel4⟩; have B4 := Lib.hid (HB3.out.trans (bel4.mono bs3)); have f0 := cell_of_row w4 C 0 _ _ _ (bel_keep bel4 hC3 HP3.out); have f1 := cell_of_row w4 C 1 _ _ _ (bel_keep bel4 hC3 HP3.out); clear bel4 e0 e1)
          go_ret
          rw [hf.out]
          exact ⟨rfl, B4.out⟩
      · have dn : decide (n < N.length) = true := by simp; omega
        have hf := Lib.hid (hno.out (by simp [good1]; omega))
        clear hw hn
        go_wp2_with (go_at_call 29; refine (QF.out w3).mono ?_; rintro e w4 ⟨rfl, bel4⟩; have B4 := Lib.hid (HB3.out.trans (bel4.mono bs3)); have f0 := cell_of_row w4 C 0 _ _ _ (bel_keep bel4 hC3 HP3.out); have f1 := cell_of_row w4 C 1 _ _ _ (bel_keep bel4 hC3 HP3.out); clear bel4 e0 e1)
        go_ret
        rw [hf.out]
        exact ⟨rfl, B4.out⟩
    · have hne : ((wrongF N D : Int) != 0) = true := by simp; omega
      have hf := Lib.hid (hno.out (by simp [good1, hw]))
      clear hw
      generalize wrongF N D = z at *
      go_wp2_with (go_at_call 29; refine (QF.out w3).mono ?_; rintro e w4 ⟨rfl, bel4⟩; have B4 := Lib.hid (HB3.out.trans (bel4.mono bs3)); clear bel4 e0 e1)
      go_ret
      rw [hf.out]
      exact ⟨rfl, B4.out⟩
  · have hdm : decide ((k : Int) < (L.length : Int)) = false := by simp; omega
    have hs2 := HG.out
    rw [List.take_of_length_le (by omega)] at hs2
    have HS2 := Lib.hid hs2
    clear hs2
    go_wp2_with fail
    go_ret
    rw [HS2.out]
    exact ⟨rfl, bel⟩
end Go.Proofs.YtkkpfoidppjbdaaDoor
