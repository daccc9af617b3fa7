/-
  Chapter 14, for Draw: the plain law. What a watch is, when a pair is settled, what its next odds are.
-/
import Derived.Test.YtlbdcgnpkapncaaDoorAuP
namespace Go.Proofs.YtlbdcgnpkapncaaDoor
set_option linter.unusedVariables false
set_option linter.unusedSimpArgs false
open Go.RowKit ML FM AU

namespace AU
def fAt (F : List (Bytes × Bytes)) (k : Nat) : Bytes × Bytes := F.getD k ([], [])
def iAt (L : List Int) (k : Nat) : Int := L.getD k 0
theorem fAt_get {F : List (Bytes × Bytes)} {k : Nat} (h : k < F.length) : F[k] = fAt F k := by simp [fAt, h]
theorem iAt_get {L : List Int} {k : Nat} (h : k < L.length) : L[k] = iAt L k := by simp [iAt, h]
def pairOk (A B : List Int) (S O : List (Bytes × Bytes)) (n : Int) (k : Nat) : Bool :=
  frB 100 (fAt S k).1 (fAt S k).2 && (frB 0 (fAt O k).1 (fAt O k).2 && (decide (dv (fAt S k).2 < dv (fAt S k).1 * 2) && (decide (dv (fAt S k).1 ≤ dv (fAt S k).2) && (decide (0 ≤ iAt A k ∧ iAt A k < n) && decide (0 ≤ iAt B k ∧ iAt B k < n)))))
structure PairOk (A B : List Int) (S O : List (Bytes × Bytes)) (n : Int) (k : Nat) : Prop where
  s : frB 100 (fAt S k).1 (fAt S k).2 = true
  o : frB 0 (fAt O k).1 (fAt O k).2 = true
  half : dv (fAt S k).2 < dv (fAt S k).1 * 2
  one : dv (fAt S k).1 ≤ dv (fAt S k).2
  a : 0 ≤ iAt A k ∧ iAt A k < n
  b : 0 ≤ iAt B k ∧ iAt B k < n
theorem pairOk_iff {A B : List Int} {S O : List (Bytes × Bytes)} {n : Int} {k : Nat} : pairOk A B S O n k = true ↔ PairOk A B S O n k := by
  unfold pairOk
  simp only [Bool.and_eq_true, decide_eq_true_eq]
  exact ⟨fun ⟨h1, h2, h3, h4, h5, h6⟩ => ⟨h1, h2, h3, h4, h5, h6⟩, fun h => ⟨h.s, h.o, h.half, h.one, h.a, h.b⟩⟩
/-- is it a watch, for so many marks? -/
def rightW (A B : List Int) (S O : List (Bytes × Bytes)) (N D : Bytes) (n : Int) : Bool :=
  decide (B.length = A.length) && (decide (S.length = A.length) && (decide (O.length = A.length) && (decide (riskE N D = 0) && (List.range A.length).all (pairOk A B S O n))))
structure RightW (A B : List Int) (S O : List (Bytes × Bytes)) (N D : Bytes) (n : Int) : Prop where
  lb : B.length = A.length
  ls : S.length = A.length
  lo : O.length = A.length
  risk : riskE N D = 0
  ok : ∀ k, k < A.length → PairOk A B S O n k
theorem rightW_iff {A B : List Int} {S O : List (Bytes × Bytes)} {N D : Bytes} {n : Int} : rightW A B S O N D n = true ↔ RightW A B S O N D n := by
  unfold rightW
  simp only [Bool.and_eq_true, decide_eq_true_eq, List.all_eq_true, List.mem_range, pairOk_iff]
  exact ⟨fun ⟨h1, h2, h3, h4, h5⟩ => ⟨h1, h2, h3, h4, h5⟩, fun h => ⟨h.lb, h.ls, h.lo, h.risk, h.ok⟩⟩
theorem rightW_no {A B : List Int} {S O : List (Bytes × Bytes)} {N D : Bytes} {n : Int} (h : ¬ RightW A B S O N D n) : rightW A B S O N D n = false := by
  cases hc : rightW A B S O N D n
  · rfl
  · exact absurd (rightW_iff.1 hc) h
/-- a pair is settled: its odds times the risk are not below 1 -/
def doneW (o : Bytes × Bytes) (N D : Bytes) : Bool := decide (dv o.2 * dv D ≤ dv o.1 * dv N)
theorem le_of_div {x y g : Nat} (h0 : 0 < g) (hx : g ∣ x) (hy : g ∣ y) : x / g ≤ y / g ↔ x ≤ y := by
  obtain ⟨a, rfl⟩ := hx
  obtain ⟨b, rfl⟩ := hy
  rw [Nat.mul_div_cancel_left _ h0, Nat.mul_div_cancel_left _ h0]
  exact ⟨fun h => Nat.mul_le_mul_left _ h, fun h => Nat.le_of_mul_le_mul_left h h0⟩
theorem done_ref {o : Bytes × Bytes} {N D : Bytes} (h : 0 < dv o.2 * dv D) : decide (tD (dv o.1) (dv o.2) (dv N) (dv D) ≤ tN (dv o.1) (dv o.2) (dv N) (dv D)) = doneW o N D := by
  unfold doneW tN tD
  exact decide_eq_decide.2 (le_of_div (Nat.gcd_pos_of_pos_right _ h) (Nat.gcd_dvd_right _ _) (Nat.gcd_dvd_left _ _))
/-- the limit is 1 / risk -/
def limN (n d : Nat) : Nat := 1 * d / Nat.gcd (1 * d) (1 * n)
def limD (n d : Nat) : Nat := 1 * n / Nat.gcd (1 * d) (1 * n)
theorem done_aud {o : Bytes × Bytes} {N D : Bytes} (h : 0 < dv D) : decide (limN (dv N) (dv D) * dv o.2 ≤ dv o.1 * limD (dv N) (dv D)) = doneW o N D := by
  unfold doneW limN limD
  rw [Nat.one_mul, Nat.one_mul]
  have h0 : 0 < Nat.gcd (dv D) (dv N) := Nat.gcd_pos_of_pos_left _ h
  have e1 : dv D = Nat.gcd (dv D) (dv N) * (dv D / Nat.gcd (dv D) (dv N)) := (Nat.mul_div_cancel' (Nat.gcd_dvd_left _ _)).symm
  have e2 : dv N = Nat.gcd (dv D) (dv N) * (dv N / Nat.gcd (dv D) (dv N)) := (Nat.mul_div_cancel' (Nat.gcd_dvd_right _ _)).symm
  generalize hg : Nat.gcd (dv D) (dv N) = g at *
  generalize dv D / g = y at *
  generalize dv N / g = x at *
  apply decide_eq_decide.2
  rw [e1, e2]
  have f1 : dv o.2 * (g * y) = g * (y * dv o.2) := by rw [Nat.mul_comm (dv o.2), Nat.mul_assoc]
  have f2 : dv o.1 * (g * x) = g * (dv o.1 * x) := by rw [Nat.mul_left_comm]
  rw [f1, f2]
  exact ⟨fun h => Nat.mul_le_mul_left _ h, fun h => Nat.le_of_mul_le_mul_left h h0⟩
theorem limN_le (n d : Nat) : limN n d ≤ d := Nat.le_trans (Nat.div_le_self _ _) (by omega)
theorem limD_le (n d : Nat) : limD n d ≤ n := Nat.le_trans (Nat.div_le_self _ _) (by omega)
/-- the share is above 1/2, as the reference asks it -/
theorem half_ref {s t : Nat} (ht : 0 < t) : decide (tN 2 1 s t ≤ tD 2 1 s t) = decide (s * 2 ≤ t) := by
  unfold tN tD
  have e : 2 * s ≤ 1 * t ↔ s * 2 ≤ t := by omega
  exact decide_eq_decide.2 ((le_of_div (Nat.gcd_pos_of_pos_right _ (by omega)) (Nat.gcd_dvd_left _ _) (Nat.gcd_dvd_right _ _)).trans e)
def upO (o s : Bytes × Bytes) : Bytes × Bytes := (strD (tN (dv o.1) (dv o.2) (tN 2 1 (dv s.1) (dv s.2)) (tD 2 1 (dv s.1) (dv s.2))), strD (tD (dv o.1) (dv o.2) (tN 2 1 (dv s.1) (dv s.2)) (tD 2 1 (dv s.1) (dv s.2))))
def downO (o s : Bytes × Bytes) : Bytes × Bytes := (strD (tN (dv o.1) (dv o.2) (tN 2 1 (mN 1 1 (dv s.1) (dv s.2)) (mD 1 1 (dv s.1) (dv s.2))) (tD 2 1 (mN 1 1 (dv s.1) (dv s.2)) (mD 1 1 (dv s.1) (dv s.2)))), strD (tD (dv o.1) (dv o.2) (tN 2 1 (mN 1 1 (dv s.1) (dv s.2)) (mD 1 1 (dv s.1) (dv s.2))) (tD 2 1 (mN 1 1 (dv s.1) (dv s.2)) (mD 1 1 (dv s.1) (dv s.2)))))
/-- the odds of a pair behind a ballot -/
def nextO (o s : Bytes × Bytes) (N D : Bytes) (x y : Int) : Bytes × Bytes :=
  if doneW o N D = true then o else if x = y then o else if y < x then upO o s else downO o s
def nextAt (A B : List Int) (S O : List (Bytes × Bytes)) (N D : Bytes) (M : List Int) (k : Nat) : Bytes × Bytes := nextO (fAt O k) (fAt S k) N D (iAt M (iAt A k).toNat) (iAt M (iAt B k).toNat)
def nextOs (A B : List Int) (S O : List (Bytes × Bytes)) (N D : Bytes) (M : List Int) : List (Bytes × Bytes) := (List.range O.length).map (nextAt A B S O N D M)
theorem length_nextOs (A B : List Int) (S O : List (Bytes × Bytes)) (N D : Bytes) (M : List Int) : (nextOs A B S O N D M).length = O.length := by simp [nextOs]
def badM (x : Int) : Bool := !decide (0 ≤ x ∧ x ≤ 1)
/-- what Draw answers -/
def drawE (A B : List Int) (S O : List (Bytes × Bytes)) (N D : Bytes) (dr : Int) (M : List Int) : Int :=
  if M.length < 2 ∨ 12 < M.length then 2 else if M.any badM = true then 2 else if rightW A B S O N D M.length = false then 2 else if ¬ (0 ≤ dr ∧ dr ≤ 1023) then 3 else 0
/-- a watch as an answer, with so many drawn -/
def DGot (A B : List Int) (S O : List (Bytes × Bytes)) (N D : Bytes) (dr : Int) (E : Int) (w : World) (e : Ending) (w' : World) : Prop :=
  ∃ o0 o1 o2 o3 c0 c1 c2 c3, e = .returned (.tuple #[.agg #[.slice o0 A.length c0, .slice o1 B.length c1, .slice o2 S.length c2, .slice o3 O.length c3, .string ⟨N.toArray⟩, .string ⟨D.toArray⟩, .int .i64 dr], .int .i64 E]) ∧
    IsAt w' o0 A ∧ IsAt w' o1 B ∧ FsAt w' o2 S ∧ FsAt w' o3 O ∧ Below w.heap.size w w'
def DrawGot (A B : List Int) (S O : List (Bytes × Bytes)) (N D : Bytes) (dr : Int) (M : List Int) (w : World) (e : Ending) (w' : World) : Prop :=
  if drawE A B S O N D dr M = 0 then DGot A B S (nextOs A B S O N D M) N D (dr + 1) 0 w e w' else DGot [] [] [] [] [] [] 0 (drawE A B S O N D dr M) w e w'
theorem drawGot_bad {A B : List Int} {S O : List (Bytes × Bytes)} {N D : Bytes} {dr : Int} {M : List Int} {w w' : World} {E : Int} {e : Ending} (hE : drawE A B S O N D dr M = E) (h0 : E ≠ 0) (he : e = .returned (.tuple #[.agg #[.slice none 0 0, .slice none 0 0, .slice none 0 0, .slice none 0 0, .string ⟨#[]⟩, .string ⟨#[]⟩, .int .i64 0], .int .i64 E])) (hb : Below w.heap.size w w') : DrawGot A B S O N D dr M w e w' := by
  unfold DrawGot
  rw [hE, if_neg h0]
  exact ⟨none, none, none, none, 0, 0, 0, 0, he, IsAt.nil, IsAt.nil, FsAt.nil, FsAt.nil, hb⟩
/-! ### sizes -/
theorem length_strD (n : Nat) : (strD n).length ≤ (ND.dig n).length + 1 := by
  unfold strD
  split
  · simp
  · have : (digB n).length = (ND.dig n).length := by unfold digB; simp
    omega
theorem strD_short {n : Nat} {k : Nat} (hk : 0 < k) (h : n < 10 ^ k) : (strD n).length ≤ k := by
  unfold strD
  split
  · simp; omega
  · have h1 : (digB n).length = (ND.dig n).length := by unfold digB; simp
    have := ND.length_dig_le n k h
    omega
theorem prod_lt {a b x y : Nat} (h1 : a < 10 ^ x) (h2 : b < 10 ^ y) : a * b < 10 ^ (x + y) := by
  rw [Nat.pow_add]
  rcases Nat.eq_zero_or_pos b with h | h
  · subst h; rw [Nat.mul_zero]; exact Nat.mul_pos (Nat.pow_pos (by decide)) (Nat.pow_pos (by decide))
  · exact Nat.lt_of_lt_of_le (Nat.mul_lt_mul_of_pos_right h1 h) (Nat.mul_le_mul_left _ (Nat.le_of_lt h2))
theorem upO_len {o s : Bytes × Bytes} (h1 : DigsB o.1) (h2 : DigsB o.2) (hs : dv s.1 ≤ dv s.2) (hd : DigsB s.2) (l : s.2.length ≤ 100) : (upO o s).1.length ≤ o.1.length + 101 ∧ (upO o s).2.length ≤ o.2.length + 101 := by
  have k1 := dv_lt o.1 h1
  have k2 := dv_lt o.2 h2
  have k3 : dv s.2 < 10 ^ 100 := Nat.lt_of_lt_of_le (dv_lt s.2 hd) (Nat.pow_le_pow_right (by decide) l)
  have k4 : tN 2 1 (dv s.1) (dv s.2) < 10 ^ 101 := Nat.lt_of_le_of_lt (Nat.div_le_self _ _) (by rw [show (101 : Nat) = 1 + 100 from rfl]; exact prod_lt (by decide) (Nat.lt_of_le_of_lt hs k3))
  have k5 : tD 2 1 (dv s.1) (dv s.2) < 10 ^ 101 := Nat.lt_of_le_of_lt (Nat.div_le_self _ _) (by rw [show (101 : Nat) = 1 + 100 from rfl]; exact prod_lt (by decide) k3)
  exact ⟨strD_short (by omega) (Nat.lt_of_le_of_lt (Nat.div_le_self _ _) (prod_lt k1 k4)), strD_short (by omega) (Nat.lt_of_le_of_lt (Nat.div_le_self _ _) (prod_lt k2 k5))⟩
theorem downO_len {o s : Bytes × Bytes} (h1 : DigsB o.1) (h2 : DigsB o.2) (hs : dv s.1 ≤ dv s.2) (hd : DigsB s.2) (l : s.2.length ≤ 100) : (downO o s).1.length ≤ o.1.length + 101 ∧ (downO o s).2.length ≤ o.2.length + 101 := by
  have k1 := dv_lt o.1 h1
  have k2 := dv_lt o.2 h2
  have k3 : dv s.2 < 10 ^ 100 := Nat.lt_of_lt_of_le (dv_lt s.2 hd) (Nat.pow_le_pow_right (by decide) l)
  have m1 := Nat.lt_of_le_of_lt (mN_le (dv s.1) (dv s.2)) k3
  have m2 := Nat.lt_of_le_of_lt (mD_le (dv s.1) (dv s.2)) k3
  have k4 : tN 2 1 (mN 1 1 (dv s.1) (dv s.2)) (mD 1 1 (dv s.1) (dv s.2)) < 10 ^ 101 := Nat.lt_of_le_of_lt (Nat.div_le_self _ _) (by rw [show (101 : Nat) = 1 + 100 from rfl]; exact prod_lt (by decide) m1)
  have k5 : tD 2 1 (mN 1 1 (dv s.1) (dv s.2)) (mD 1 1 (dv s.1) (dv s.2)) < 10 ^ 101 := Nat.lt_of_le_of_lt (Nat.div_le_self _ _) (by rw [show (101 : Nat) = 1 + 100 from rfl]; exact prod_lt (by decide) m2)
  exact ⟨strD_short (by omega) (Nat.lt_of_le_of_lt (Nat.div_le_self _ _) (prod_lt k1 k4)), strD_short (by omega) (Nat.lt_of_le_of_lt (Nat.div_le_self _ _) (prod_lt k2 k5))⟩
/-- the odds' texts are at most so long -/
def Short (O : List (Bytes × Bytes)) (K : Nat) : Prop := ∀ k, k < O.length → (fAt O k).1.length ≤ K ∧ (fAt O k).2.length ≤ K
theorem nextOs_short {A B : List Int} {S O : List (Bytes × Bytes)} {N D : Bytes} {n : Int} {M : List Int} {K : Nat} (hR : RightW A B S O N D n) (h : Short O K) : Short (nextOs A B S O N D M) (K + 101) := by
  intro k hk
  rw [length_nextOs] at hk
  have e : fAt (nextOs A B S O N D M) k = nextAt A B S O N D M k := by
    unfold nextOs fAt
    simp [hk]
  rw [e]
  have P := hR.ok k (by rw [← hR.lo]; exact hk)
  obtain ⟨m1, m2, _, _, _⟩ := frB_good P.o
  obtain ⟨s1, s2, _, _, _⟩ := frB_good P.s
  have sl := frB_len P.s
  have hu := upO_len (s := fAt S k) ((numB_iff _).1 m1).2.1 ((numB_iff _).1 m2).2.1 P.one ((numB_iff _).1 s2).2.1 sl.2
  have hd := downO_len (s := fAt S k) ((numB_iff _).1 m1).2.1 ((numB_iff _).1 m2).2.1 P.one ((numB_iff _).1 s2).2.1 sl.2
  have h1 := h k hk
  unfold nextAt nextO
  split
  · omega
  · split
    · omega
    · split <;> omega
end AU
end Go.Proofs.YtlbdcgnpkapncaaDoor
