/-
  exact.Mul.
-/
import Derived.Test.YtkkpfoidppjbdaaDoorLAdd
import Derived.Deep.OwnRows
namespace Go.Proofs.YtkkpfoidppjbdaaDoor
set_option linter.unusedVariables false
open Go.RowKit ML NL

theorem made_uvals (n : Nat) : madeCells #[Value.int .u32 0] n = (uvals (List.replicate n 0)).toArray := by
  unfold madeCells uvals
  apply Array.ext
  · simp
  · intro i h1 h2
    simp [Nat.mod_one]
theorem size_uvals (L : List Nat) : (uvals L).toArray.size = L.length := by simp [uvals]
theorem cell_uvals {w : World} {b : Nat} {L : List Nat} {T : TypeId} (h : w.heap[b]? = some (.cells (uvals L).toArray T (0, 0))) (i : Nat) (hi : i < L.length) : w.cell? ⟨b, i, none⟩ = some (.int .u32 ((lAt L i : Nat) : Int)) := by
  rw [cell_of_row w b i _ _ _ h]
  simp [uvals, lAt, List.getD_eq_getElem?_getD, hi]
theorem set_uvals {w : World} {b : Nat} {L : List Nat} {T : TypeId} (h : w.heap[b]? = some (.cells (uvals L).toArray T (0, 0))) (i d : Nat) : (w.setCell ⟨b, i, none⟩ (.int .u32 (d : Int))).heap[b]? = some (.cells (uvals (L.set i d)).toArray T (0, 0)) := by
  rw [heap_setCell_same w b i _ _ _ h]
  congr 2
  simp [uvals, List.map_set]
set_option maxHeartbeats 4000000 in
set_option maxRecDepth 100000 in
theorem exMul_any (x y : Nat) (oa ob : Option Addr) (ca cb : Nat) (w : World) (ha : LimbsAt w oa (dig x)) (hb : LimbsAt w ob (dig y)) (hx : (dig x).length < 1099511627776) (hy : (dig y).length < 1099511627776) :
    Calls Tryd.prog 62 #[.slice oa (dig x).length ca, .slice ob (dig y).length cb] w fun e w' => ∃ oc cc, e = .returned (.slice oc (dig (x * y)).length cc) ∧ LimbsAt w' oc (dig (x * y)) ∧ Below w.heap.size w w' := by
  obtain ⟨i0, hi, hz0, hz1, hz2⟩ := info_parts info_limb
  have HI := Lib.hid hi
  have HZ0 := Lib.hid hz0
  have HZ1 := Lib.hid hz1
  have HZ2 := Lib.hid hz2
  have HA := Lib.hid ha
  have HBB := Lib.hid hb
  clear hi hz0 hz1 hz2 ha hb
  obtain ⟨n, hn⟩ : ∃ n, n = (dig x).length + (dig y).length := ⟨_, rfl⟩
  have hni : ((dig x).length : Int) + ((dig y).length : Int) = (n : Int) := by omega
  have hnb : n < 2199023255552 := by omega
  have HNN := Lib.hid hn
  clear hn
  go_enter Tryd.func62, Tryd.ntmps62
  go_upto_region 2 with (refine wpList_make_row _ rfl _ _ 69 rfl 105 i0 (.int .u32 0) Tryd.underlying69 HI.out HZ0.out HZ1.out rfl .i64 .i64 n rfl rfl (by rw [HZ2.out]; omega) (by omega) ?_)
  rw [made_uvals]
  generalize hB : w.heap.size = d at *
  refine wp_abs (fun w1 => Below d w w1 ∧ w1.heap[d]? = some (.cells (uvals (List.replicate n 0)).toArray 105 (0, 0))) ⟨by rw [← hB]; exact (Below.refl _ _).alloc (Nat.le_refl _) _, by rw [← hB]; exact heap_at rfl⟩ (fun w1 hw1 => ?_)
  obtain ⟨bel1, h1⟩ := hw1
  have S0 := MulSt.init x y
  rw [← HNN.out] at S0
  have HB := Lib.hid hB
  clear hB
  go_upto_region 3 with (fail)
  go_loopw [19] (fun i wr => ∃ (k : Nat) (W : List Nat), k ≤ (dig x).length ∧ i = .int .i64 k ∧ MulSt x y k W ∧ Below d w wr ∧ wr.heap[d]? = some (.cells (uvals W).toArray 105 (0, 0))) (fun i _ => (dig x).length - (intOf i).toNat)
  case atStart => exact ⟨0, _, by omega, rfl, S0, bel1, h1⟩
  case round =>
  obtain ⟨i, W, hk, rfl, S, bel, hW⟩ := hrel
  clear bel1 h1 S0
  by_cases hlt : i < (dig x).length
  · have hd1 : decide ((i : Int) < ((dig x).length : Int)) = true := by simp; omega
    have hi00 : (0 : Int) ≤ i := by omega
    have hilx : (i : Int) < ((dig x).length : Int) := by omega
    obtain ⟨a0, hoa, hac⟩ := HA.out.get i hlt
    have hablk : a0.block < d := by
      obtain ⟨a1, h2, h3, _⟩ := HA.out.cells i hlt
      rw [hoa] at h2
      cases h2
      rw [HB.out] at h3
      exact h3
    have hac2 : w.cell? (a0.add i) = some (.int .u32 ((lAt (dig x) i : Nat) : Int)) := hac
    have hac3 : wr.cell? (a0.add i) = some (.int .u32 ((lAt (dig x) i : Nat) : Int)) := by rw [bel.cell (p := a0.add i) (by rw [addr_block']; exact hablk)]; exact hac2
    have h1 : lAt (dig x) i < 1000000000 := getD_lt (all_dig x) i
    subst hoa
    clear hac
    obtain ⟨a, hae⟩ : ∃ a, a = lAt (dig x) i := ⟨_, rfl⟩
    rw [← hae] at hac3 h1
    have HAE := Lib.hid hae
    clear hae hac2
    go_upto_region 7 with (fail)
    clear hac3
    go_loopw [8, 26] (fun u j wi => ∃ (k uN : Nat) (W : List Nat), k ≤ (dig y).length ∧ j = .int .i64 k ∧ u = .int .u64 uN ∧ RowSt x y i k W uN ∧ Below d w wi ∧ wi.heap[d]? = some (.cells (uvals W).toArray 105 (0, 0))) (fun _ j _ => (dig y).length - (intOf j).toNat)
    case atStart => exact ⟨0, 0, W, by omega, rfl, rfl, S.row, bel, hW⟩
    case round =>
    obtain ⟨j, u, W2, hj, rfl, rfl, R, bel2, hW2⟩ := hrel
    clear S bel hW
    by_cases hjt : j < (dig y).length
    · have hd2 : decide ((j : Int) < ((dig y).length : Int)) = true := by simp; omega
      obtain ⟨b0, hob, hbc⟩ := HBB.out.get j hjt
      have hbblk : b0.block < d := by
        obtain ⟨b1, h2, h3, _⟩ := HBB.out.cells j hjt
        rw [hob] at h2
        cases h2
        rw [HB.out] at h3
        exact h3
      have hbc3 : wr.cell? (b0.add j) = some (.int .u32 ((lAt (dig y) j : Nat) : Int)) := by rw [bel2.cell (p := b0.add j) (by rw [addr_block']; exact hbblk)]; exact hbc
      have hnn := HNN.out
      have hijn : i + j < n := by omega
      have hc3 := cell_uvals hW2 (i + j) (by rw [R.len]; omega)
      have hf3 := frozen_of_row wr d (i + j) _ _ hW2
      have RN := Lib.hid (R.next hlt hjt)
      have hup := R.up
      have h2 : lAt (dig y) j < 1000000000 := getD_lt (all_dig y) j
      have h3 : lAt W2 (i + j) < 1000000000 := getD_lt R.all (i + j)
      have RN2 : Hid (RowSt x y i (j + 1) (W2.set (i + j) ((lAt W2 (i + j) + a * lAt (dig y) j + u) % 1000000000)) ((lAt W2 (i + j) + a * lAt (dig y) j + u) / 1000000000)) := by rw [HAE.out]; exact RN
      have HW2 := Lib.hid hW2
      have HBEL := Lib.hid bel2
      subst hob
      clear RN R hbc hW2 bel2 hnn
      generalize lAt (dig y) j = b at *
      generalize lAt W2 (i + j) = c at *
      have hab : a * b ≤ 999999999 * 999999999 := Nat.mul_le_mul (by omega) (by omega)
      rw [show 999999999 * 999999999 = 999999998000000001 by decide] at hab
      obtain ⟨m, hm⟩ : ∃ m, m = a * b := ⟨_, rfl⟩
      have hmi : (a : Int) * (b : Int) = (m : Int) := by rw [hm]; exact (Int.natCast_mul a b).symm
      rw [← hm] at RN2 hab
      have hm81 : m ≤ 999999998000000001 := hab
      have hi0 : (0 : Int) ≤ (i : Int) + (j : Int) := by omega
      have hil : (i : Int) + (j : Int) < (n : Int) := by omega
      have hilx : (i : Int) < ((dig x).length : Int) := by omega
      have hjly : (j : Int) < ((dig y).length : Int) := by omega
      clear hm hab
      go_upto_region 11 with (fail)
      refine wp_abs (fun w4 => Below d w w4 ∧ w4.heap[d]? = some (.cells (uvals (W2.set (i + j) ((c + m + u) % 1000000000))).toArray 105 (0, 0))) ?_ (fun w4 hw4 => ?_)
      · have e := set_uvals HW2.out (i + j) ((c + m + u) % 1000000000)
        have hv : (((c + m + u) % 1000000000 : Nat) : Int) = ((u : Int) + ((m : Int) + (c : Int))) % 1000000000 := by omega
        rw [hv] at e
        exact ⟨(bel_only HBEL.out ((Only.refl d wr).setCell _ _) (Nat.le_refl _)), e⟩
      obtain ⟨bel4, hW4⟩ := hw4
      clear hbc3 hc3 hf3 HW2 HBEL
      go_wp2_with fail
      go_roundw
      case rel => exact ⟨j + 1, (c + m + u) / 1000000000, _, by omega, by go_num, by go_num, RN2.out, bel4, hW4⟩
      case measure => simp [intOf]; omega
    · have hd2 : decide ((j : Int) < ((dig y).length : Int)) = false := by simp; omega
      obtain rfl : j = (dig y).length := by omega
      have hnn := HNN.out
      have hil : (i : Int) + ((dig y).length : Int) < (n : Int) := by omega
      have hi0 : (0 : Int) ≤ (i : Int) + ((dig y).length : Int) := by omega
      have hc3 := cell_uvals hW2 (i + (dig y).length) (by rw [R.len]; omega)
      have hf3 := frozen_of_row wr d (i + (dig y).length) _ _ hW2
      have RD := Lib.hid (R.done hlt)
      have hup := R.up
      have HW2 := Lib.hid hW2
      clear R hW2 hnn
      go_upto_region 14 with (fail)
      refine wp_abs (fun w4 => Below d w w4 ∧ w4.heap[d]? = some (.cells (uvals (W2.set (i + (dig y).length) u)).toArray 105 (0, 0))) ⟨bel_only bel2 ((Only.refl d wr).setCell _ _) (Nat.le_refl _), set_uvals HW2.out (i + (dig y).length) u⟩ (fun w4 hw4 => ?_)
      obtain ⟨bel4, hW4⟩ := hw4
      clear hc3 hf3 HW2 bel2
      go_wp2_with fail
      go_roundw
      case rel => exact ⟨i + 1, _, by omega, by go_num, RD.out, bel4, hW4⟩
      case measure => simp [intOf]; omega
  · have hd1 : decide ((i : Int) < ((dig x).length : Int)) = false := by simp; omega
    obtain rfl : i = (dig x).length := by omega
    have hO := Lib.hid S.done
    have hl : W.length = n := by rw [S.len, HNN.out]
    have QT := Lib.hid (exTrim_any (some ⟨d, 0, none⟩) W n wr (limbsAt_block hW rfl) (by omega) (by omega) S.all)
    rw [hO.out, hl] at QT
    clear S hO hW
    go_wp2_with (go_at_call 85; refine QT.out.mono ?_; rintro e w3 ⟨rfl, hI3, rfl⟩)
    go_ret
    exact ⟨_, _, rfl, hI3, by rw [HB.out]; exact bel⟩
end Go.Proofs.YtkkpfoidppjbdaaDoor
