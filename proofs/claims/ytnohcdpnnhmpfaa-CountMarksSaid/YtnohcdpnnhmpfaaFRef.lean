/-
  The reference's small functions: right, digit, four, rows.
-/
import Derived.Test.YtnohcdpnnhmpfaaFStir
import Derived.Test.YtnohcdpnnhmpfaaFBackM
namespace Go.Proofs.Ytnohcdpnnhmpfaa
open Go.RowKit ML FM

/-- k turns by one bit -/
def turnK (x : U) : Nat → U
  | 0 => x
  | k + 1 => (turnK x k).rotateRight 1
theorem rot_succ (x : U) (m : Nat) (h : m + 1 < 32) : (x.rotateRight m).rotateRight 1 = x.rotateRight (m + 1) := by
  apply BitVec.eq_of_getLsbD_eq
  intro i hi
  simp only [BitVec.getLsbD_rotateRight, Nat.mod_eq_of_lt (show (1 : Nat) < 32 by omega), Nat.mod_eq_of_lt (show m < 32 by omega), Nat.mod_eq_of_lt h, Bool.cond_decide]
  by_cases h1 : i < 31
  · rw [if_pos (by omega)]
    by_cases h2 : 1 + i < 32 - m
    · rw [if_pos h2, if_pos (by omega)]; congr 1; omega
    · rw [if_neg h2, if_neg (by omega)]
      simp only [show 1 + i < 32 by omega, hi, decide_true, Bool.true_and]
      congr 1; omega
  · rw [if_neg (by omega), if_pos (by omega), if_neg (by omega)]
    simp only [hi, decide_true, Bool.true_and]
    congr 1; omega
theorem turnK_rot (x : U) : ∀ n, n < 32 → turnK x n = x.rotateRight n
  | 0, _ => by rw [turnK]; apply BitVec.eq_of_getLsbD_eq; intro i hi; rw [BitVec.getLsbD_rotateRight]; simp [hi]
  | n + 1, h => by rw [turnK, turnK_rot x n (by omega), rot_succ x n h]
theorem un_rot1 (y : U) : un y / 2 + un y % 2 * 2147483648 = un (y.rotateRight 1) := by
  have h := r_rot y 1 (by decide)
  rw [← h]
  unfold un
  have e1 : ((y.toNat : Int) / 2 ^ 1) = ((y.toNat / 2 : Nat) : Int) := by norm_cast
  have e2 : ((y.toNat : Int) * 2 ^ (32 - 1) % 4294967296) = ((y.toNat % 2 * 2147483648 : Nat) : Int) := by
    have := y.isLt
    have e : (2 : Int) ^ (32 - 1) = 2147483648 := by decide
    rw [e]; omega
  have := y.isLt
  rw [e1, e2, u32_or_nat _ _ (by omega) (by omega), Nat.or_comm, nat_join 31 _ _ (by simp) (by omega)]
  omega
set_option maxHeartbeats 1000000 in
theorem right_any (x : U) (n : Nat) (w : World) (h1 : n < 64) :
    Calls Try.prog 122 #[.int .u32 (un x), .int .i64 (n : Int)] w fun e w' => e = .returned (.int .u32 (un (turnK x n))) ∧ w' = w := by
  go_enter Try.func122, Try.ntmps122
  go_wp2
  go_loop [0, 5] (fun y i => ∃ k : Nat, k ≤ n ∧ i = .int .i64 k ∧ y = .int .u32 (un (turnK x k))) (fun _ i => n - (intOf i).toNat)
  case atStart => exact ⟨0, Nat.zero_le _, rfl, rfl⟩
  case round =>
    obtain ⟨k, hk, rfl, rfl⟩ := hrel
    have b0 := un_nonneg (turnK x k)
    have b1 := un_lt (turnK x k)
    by_cases hlt : k < n
    · have hd : decide ((k : Int) < n) = true := by simp; omega
      go_wp2
      go_round
      case rel => exact ⟨k + 1, by omega, by go_num, by rw [un_rot1]; rfl⟩
      case measure => simp [intOf]; omega
    · have hd : decide ((k : Int) < n) = false := by simp; omega
      go_wp2
      go_ret
      obtain rfl : k = n := by omega
      exact ⟨rfl, rfl⟩

def hexS : ByteArray := ⟨#[48, 49, 50, 51, 52, 53, 54, 55, 56, 57, 97, 98, 99, 100, 101, 102]⟩
def hexI (v : Nat) : Int := if v < 10 then 48 + v else 87 + v
theorem hexS_size : hexS.size = 16 := by decide +kernel
theorem hex_tab : ∀ i, (h : i < hexS.size) → ((hexS[i]'h).toNat : Int) = hexI i := by decide +kernel
theorem hexI_inj {i j : Nat} (hi : i < 16) (hj : j < 16) (h : hexI i = hexI j) : i = j := by
  unfold hexI at h; split at h <;> split at h <;> omega
set_option maxHeartbeats 1000000 in
theorem digit_any (v : Nat) (w : World) (hv : v < 16) :
    Calls Try.prog 125 #[.int .u8 (hexI v)] w fun e w' => e = .returned (.int .i64 (v : Int)) ∧ w' = w := by
  have HT := hex_tab
  unfold hexS at HT
  go_enter Try.func125, Try.ntmps125
  go_wp2
  go_loop [3] (fun i => ∃ k : Nat, k ≤ v ∧ i = .int .i64 k) (fun i => v - (intOf i).toNat)
  case atStart => exact ⟨0, Nat.zero_le _, rfl⟩
  case round =>
    obtain ⟨k, hk, rfl⟩ := hrel
    have hd : decide ((k : Int) < 16) = true := by simp; omega
    by_cases hlt : k < v
    · have he : (hexI k == hexI v) = false := by
        rw [beq_eq_false_iff_ne]; exact fun h => absurd (hexI_inj (by omega) hv h) (by omega)
      go_wp2
      go_round
      case rel => exact ⟨k + 1, by omega, by go_num⟩
      case measure => simp [intOf]; omega
    · obtain rfl : k = v := by omega
      have he : (hexI k == hexI k) = true := by simp
      go_wp2
      go_ret
      exact ⟨rfl, rfl⟩

def i64s (l : List Int) : List Value := l.map (Value.int .i64)
theorem oneCell_i64s (l : List Int) : (i64s l).toArray.all (·.oneCell') = true := by simp [i64s, Value.oneCell']
/-- the table of four, row by row -/
def fourTab : List Int := [0, 4, 8, 12, 1, 5, 9, 13, 2, 6, 10, 14, 3, 7, 11, 15, 0, 5, 10, 15, 1, 6, 11, 12, 2, 7, 8, 13, 3, 4, 9, 14]
def fourRow (i : Nat) : List Int := [(ca i : Int), (cb i : Int), (cc i : Int), (cd i : Int)]
theorem fourTab_row : ∀ i, i < 8 → ∀ j, j < 4 → fourTab[4 * i + j]? = (fourRow i)[j]? := by decide +kernel
theorem size_four : (Try.prog.info? 148).map (·.size) = some 4 := by kernel_rfl
set_option maxHeartbeats 1000000 in
set_option maxRecDepth 100000 in
theorem four_any (i : Nat) (w : World) (hi : i < 8) :
    Calls Try.prog 124 #[.int .i64 (i : Int)] w fun e w' =>
      e = .returned (.agg (i64s (fourRow i)).toArray) ∧ Below w.heap.size w w' := by
  go_enter Try.func124, Try.ntmps124
  generalize hB : w.heap.size = B at *
  have HB := Lib.hid hB
  have hs0 : (w.alloc (Obj.cells (i64s [0, 0, 0, 0]).toArray 148)).heap.size = B + 1 := by simp [hB]
  have HS0 := Lib.hid hs0
  have HBL := Lib.hid ((Below.refl w.heap.size w).alloc (Nat.le_refl _) (Obj.cells (i64s [0, 0, 0, 0]).toArray 148))
  have HH0 := Lib.hid (heap_at (o := Obj.cells (i64s [0, 0, 0, 0]).toArray 148) hB)
  clear hs0
  have HI := Lib.hid (show (Try.prog.info? 151).map (·.size) = some (i64s fourTab).toArray.size by kernel_rfl)
  go_upto_region 1 with (fail)
  refine wp_abs (fun w1 => w1.heap.size = B + 1 ∧ Below B w w1 ∧ w1.heap[B]? = some (.cells (i64s [0, 0, 0, 0]).toArray 148 (0, 0))) ⟨HS0.out, by have := HBL.out; rw [hB] at this; exact this, HH0.out⟩ (fun w0 hw0 => ?_)
  obtain ⟨hs, hb0, hh0⟩ := hw0
  have HB0 := Lib.hid hb0
  have HH := Lib.hid hh0
  clear HS0 HBL HH0 hb0 hh0 hB
  go_upto_region 2 with (refine wpList_store_whole rfl rfl 151 _ _ rfl (B + 1) (i64s (List.replicate 32 0)).toArray (i64s fourTab).toArray 151 rfl rfl ?hb ?hs HI.out ?h1 ?_)
  case hb => exact heap_at hs
  case hs => rfl
  case h1 => exact oneCell_i64s _
  intro w1 ho h1
  have hbel : Below B w w1 := bel_only (HB0.out.alloc (by omega) _) ho (by omega)
  have H0 := Lib.hid (ho.keep (k := B) (by omega) (heap_lt HH.out))
  have HBE := Lib.hid hbel
  clear HB0 HH ho hbel hs
  have hr : w1.rangeAt (B + 1) (i * 4) (i64s (fourRow i)) := fun j v hj => by
    rw [cell_of_row w1 (B + 1) _ _ _ _ h1]
    have hj4 : j < 4 := by
      rcases Nat.lt_or_ge j 4 with h | h
      · exact h
      · rw [List.getElem?_eq_none (by simp [i64s, fourRow]; omega)] at hj; cases hj
    have := fourTab_row i hi j hj4
    simp only [i64s, List.getElem?_map, List.getElem?_toArray] at hj ⊢
    rw [Nat.mul_comm i 4, this]; exact hj
  have HR := Lib.hid hr
  clear hr h1
  have HF := Lib.hid (show (Try.prog.info? 148).map (·.size) = some (i64s (fourRow i)).toArray.size by rw [size_four]; rfl)
  go_upto_region 2 with (fail)
  apply wp_region_lit
  go_wp2_with (first
    | (refine wpList_load_mid rfl 148 _ rfl (B + 1) (i * 4) rfl (i64s (fourRow i)) _ HR.out Try.underlying148 rfl HF.out ?_)
    | (refine wpList_store_whole rfl rfl 148 _ _ rfl B (i64s [0, 0, 0, 0]).toArray (i64s (fourRow i)).toArray 148 rfl rfl H0.out rfl HF.out (oneCell_i64s _) ?_; intro w2 ho2 hp2))
  refine bodyPost_ret (results_cell_row rfl _ w2 B _ _ _ _ rfl hp2 Try.underlying148 rfl HF.out) rfl ⟨rfl, ?_⟩
  exact bel_only HBE.out ho2 (by omega)
end Go.Proofs.Ytnohcdpnnhmpfaa
