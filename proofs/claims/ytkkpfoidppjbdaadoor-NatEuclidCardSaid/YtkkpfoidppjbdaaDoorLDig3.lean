/-
  Mul and Div by hand: their plain law. No program in sight.
-/
import Derived.Test.YtkkpfoidppjbdaaDoorLDig2
namespace Go.Proofs.YtkkpfoidppjbdaaDoor.NL
set_option linter.unusedSimpArgs false
set_option linter.unusedVariables false

theorem val_set (L : List Nat) (k d : Nat) (hk : k < L.length) : val (L.set k d) + 1000000000 ^ k * L.getD k 0 = val L + 1000000000 ^ k * d := by
  induction L generalizing k with
  | nil => simp at hk
  | cons a r ih =>
    cases k with
    | zero => simp [val]; omega
    | succ k =>
      have := ih k (by simpa using hk)
      simp only [List.set_cons_succ, val, List.getD_cons_succ, Nat.pow_succ]
      rw [Nat.mul_comm (1000000000 ^ k) 1000000000, Nat.mul_assoc, Nat.mul_assoc]
      omega
theorem all_set {L : List Nat} {k d : Nat} (h : AllD L) (hd : d < 1000000000) : AllD (L.set k d) := by
  intro x hx
  rcases List.mem_or_eq_of_mem_set hx with hx | rfl
  · exact h x hx
  · exact hd
theorem getD_set_ne {L : List Nat} {k i d : Nat} (h : k ≠ i) : (L.set k d).getD i 0 = L.getD i 0 := by
  simp [List.getD_eq_getElem?_getD, List.getElem?_set_ne h]
theorem val_zeros (n : Nat) : val (List.replicate n 0) = 0 := by
  induction n with
  | zero => rfl
  | succ n ih => rw [List.replicate_succ, val, ih]
theorem all_zeros (n : Nat) : AllD (List.replicate n 0) := by
  intro x hx
  have := List.eq_of_mem_replicate hx
  omega

/-! ### the product -/
structure MulSt (x y i : Nat) (W : List Nat) : Prop where
  len : W.length = (dig x).length + (dig y).length
  all : AllD W
  eq : val W = val ((dig x).take i) * y
  zero : ∀ k, i + (dig y).length ≤ k → W.getD k 0 = 0
structure RowSt (x y i j : Nat) (W : List Nat) (u : Nat) : Prop where
  len : W.length = (dig x).length + (dig y).length
  all : AllD W
  up : u < 1000000000
  eq : val W + 1000000000 ^ (i + j) * u = val ((dig x).take i) * y + 1000000000 ^ i * (dig x).getD i 0 * val ((dig y).take j)
  zero : ∀ k, i + (dig y).length ≤ k → W.getD k 0 = 0
theorem MulSt.init (x y : Nat) : MulSt x y 0 (List.replicate ((dig x).length + (dig y).length) 0) := by
  refine ⟨by simp, all_zeros _, by simp [val_zeros, val], fun k _ => ?_⟩
  rw [List.getD_eq_getElem?_getD, List.getElem?_replicate]
  split <;> rfl
theorem MulSt.row {x y i : Nat} {W : List Nat} (S : MulSt x y i W) : RowSt x y i 0 W 0 := ⟨S.len, S.all, by omega, by simp [val, S.eq], S.zero⟩
theorem RowSt.next {x y i j u : Nat} {W : List Nat} (S : RowSt x y i j W u) (hi : i < (dig x).length) (hj : j < (dig y).length) :
    RowSt x y i (j + 1) (W.set (i + j) ((W.getD (i + j) 0 + (dig x).getD i 0 * (dig y).getD j 0 + u) % 1000000000)) ((W.getD (i + j) 0 + (dig x).getD i 0 * (dig y).getD j 0 + u) / 1000000000) := by
  have ha := getD_lt (all_dig x) i
  have hb := getD_lt (all_dig y) j
  have hw := getD_lt S.all (i + j)
  have hu := S.up
  have hab : (dig x).getD i 0 * (dig y).getD j 0 ≤ 999999999 * 999999999 := Nat.mul_le_mul (by omega) (by omega)
  have hk : i + j < W.length := by rw [S.len]; omega
  refine ⟨by rw [List.length_set]; exact S.len, all_set S.all (by omega), by omega, ?_, fun k hk2 => by rw [getD_set_ne (by omega)]; exact S.zero k hk2⟩
  have e := S.eq
  have es := val_set W (i + j) ((W.getD (i + j) 0 + (dig x).getD i 0 * (dig y).getD j 0 + u) % 1000000000) hk
  rw [val_take_succ]
  generalize (dig x).getD i 0 = a at *
  generalize (dig y).getD j 0 = b at *
  generalize W.getD (i + j) 0 = c at *
  generalize val (W.set (i + j) ((c + a * b + u) % 1000000000)) = v2 at *
  generalize val W = v at *
  generalize val ((dig y).take j) = q at *
  generalize val ((dig x).take i) * y = p at *
  generalize hs : c + a * b + u = s at *
  have e3 : 1000000000 ^ i * a * (q + 1000000000 ^ j * b) = 1000000000 ^ i * a * q + 1000000000 ^ (i + j) * (a * b) := by
    rw [Nat.mul_add, Nat.pow_add]
    congr 1
    rw [Nat.mul_assoc, Nat.mul_assoc, Nat.mul_left_comm a (1000000000 ^ j) b]
  rw [e3, ← Nat.add_assoc i j 1, Nat.pow_succ]
  generalize 1000000000 ^ i * a * q = m at *
  have e4 : 1000000000 ^ (i + j) * s = 1000000000 ^ (i + j) * (s % 1000000000) + 1000000000 ^ (i + j) * 1000000000 * (s / 1000000000) := by
    rw [Nat.mul_assoc, ← Nat.mul_add, Nat.mod_add_div]
  rw [← hs] at e4
  rw [Nat.mul_add, Nat.mul_add] at e4
  rw [hs] at e4
  generalize 1000000000 ^ (i + j) * (a * b) = t1 at *
  generalize 1000000000 ^ (i + j) * c = t2 at *
  generalize 1000000000 ^ (i + j) * u = t3 at *
  generalize 1000000000 ^ (i + j) * (s % 1000000000) = t4 at *
  generalize 1000000000 ^ (i + j) * 1000000000 * (s / 1000000000) = t5 at *
  omega
theorem RowSt.done {x y i u : Nat} {W : List Nat} (S : RowSt x y i (dig y).length W u) (hi : i < (dig x).length) : MulSt x y (i + 1) (W.set (i + (dig y).length) u) := by
  have hk : i + (dig y).length < W.length := by rw [S.len]; omega
  refine ⟨by rw [List.length_set]; exact S.len, all_set S.all S.up, ?_, fun k hk2 => by rw [getD_set_ne (by omega)]; exact S.zero k (by omega)⟩
  have e := S.eq
  have es := val_set W (i + (dig y).length) u hk
  rw [S.zero _ (Nat.le_refl _), Nat.mul_zero, Nat.add_zero] at es
  rw [List.take_of_length_le (Nat.le_refl _), val_dig] at e
  rw [es, e, val_take_succ, Nat.add_mul]
theorem MulSt.done {x y : Nat} {W : List Nat} (S : MulSt x y (dig x).length W) : trimL W = dig (x * y) := by
  have e := S.eq
  rw [List.take_of_length_le (Nat.le_refl _), val_dig] at e
  unfold trimL
  rw [e]

/-! ### the quotient and what is left -/
structure DivSt (x y k : Nat) (Q : List Nat) (r : Nat) : Prop where
  len : Q.length = (dig x).length
  all : AllD Q
  lt : r < y
  eq : val ((dig x).drop k) = y * val (Q.drop k) + r
  zero : ∀ i, i < k → Q.getD i 0 = 0
structure DigSt (x y i : Nat) (Q : List Nat) (r : Nat) : Prop where
  len : Q.length = (dig x).length
  all : AllD Q
  lt : y * Q.getD i 0 + r < 1000000000 * y
  eq : val ((dig x).drop i) = y * val (Q.drop i) + r
  zero : ∀ j, j < i → Q.getD j 0 = 0
theorem DivSt.init (x y : Nat) (hy : 0 < y) : DivSt x y (dig x).length (List.replicate (dig x).length 0) 0 := by
  refine ⟨by simp, all_zeros _, hy, ?_, fun k _ => ?_⟩
  · rw [List.drop_of_length_le (Nat.le_refl _), List.drop_of_length_le (by simp)]; simp [val]
  · rw [List.getD_eq_getElem?_getD, List.getElem?_replicate]; split <;> rfl
theorem val_drop (L : List Nat) (i : Nat) (h : i < L.length) : val (L.drop i) = L.getD i 0 + 1000000000 * val (L.drop (i + 1)) := by
  rw [List.drop_eq_getElem_cons h, val]
  simp [List.getD_eq_getElem?_getD, h]
theorem DivSt.digit {x y i r : Nat} {Q : List Nat} (S : DivSt x y (i + 1) Q r) (hi : i < (dig x).length) : DigSt x y i Q ((dig x).getD i 0 + 1000000000 * r) := by
  have hz := S.zero i (by omega)
  have ha := getD_lt (all_dig x) i
  have hl := S.lt
  refine ⟨S.len, S.all, by rw [hz]; omega, ?_, fun j hj => S.zero j (by omega)⟩
  rw [val_drop _ i hi, val_drop Q i (by rw [S.len]; exact hi), hz, S.eq, Nat.zero_add, Nat.mul_add, ← Nat.mul_assoc, ← Nat.mul_assoc, Nat.mul_comm 1000000000 y]
  omega
theorem DigSt.next {x y i r : Nat} {Q : List Nat} (S : DigSt x y i Q r) (hi : i < (dig x).length) (h : y ≤ r) : DigSt x y i (Q.set i (Q.getD i 0 + 1)) (r - y) ∧ Q.getD i 0 + 1 < 1000000000 := by
  have hl := S.lt
  have hq : Q.getD i 0 + 1 < 1000000000 := by
    have h2 : y * (Q.getD i 0 + 1) < y * 1000000000 := by rw [Nat.mul_add, Nat.mul_one]; omega
    exact Nat.lt_of_mul_lt_mul_left h2
  have hik : i < Q.length := by rw [S.len]; exact hi
  have e1 : (Q.set i (Q.getD i 0 + 1)).getD i 0 = Q.getD i 0 + 1 := by simp [List.getD_eq_getElem?_getD, hik]
  refine ⟨⟨by rw [List.length_set]; exact S.len, all_set S.all hq, ?_, ?_, fun j hj => by rw [getD_set_ne (by omega)]; exact S.zero j hj⟩, hq⟩
  · rw [e1, Nat.mul_add, Nat.mul_one]; omega
  · have e := S.eq
    rw [val_drop Q i hik] at e
    rw [val_drop (Q.set i (Q.getD i 0 + 1)) i (by rw [List.length_set]; exact hik), e1, List.drop_set_of_lt (by omega)]
    rw [Nat.mul_add] at e ⊢
    rw [Nat.mul_add, Nat.mul_one]
    omega
theorem DigSt.done {x y i r : Nat} {Q : List Nat} (S : DigSt x y i Q r) (h : r < y) : DivSt x y i Q r := ⟨S.len, S.all, h, S.eq, S.zero⟩
theorem DivSt.done {x y r : Nat} {Q : List Nat} (S : DivSt x y 0 Q r) : trimL Q = dig (x / y) ∧ r = x % y := by
  have e := S.eq
  have hl := S.lt
  rw [List.drop_zero, List.drop_zero, val_dig] at e
  have h1 : x / y = val Q := by rw [e, Nat.mul_add_div (by omega), Nat.div_eq_of_lt hl, Nat.add_zero]
  have h2 : x % y = r := by rw [e, Nat.mul_add_mod, Nat.mod_eq_of_lt hl]
  exact ⟨by unfold trimL; rw [h1], h2.symm⟩
/-- the digit ahead of what is left -/
theorem trim_cons (d r : Nat) (hd : d < 1000000000) : AllD (d :: dig r) ∧ trimL (d :: dig r) = dig (d + 1000000000 * r) := by
  refine ⟨?_, by unfold trimL; rw [val, val_dig]⟩
  intro x hx
  rcases List.mem_cons.1 hx with rfl | hx
  · exact hd
  · exact all_dig r x hx
end Go.Proofs.YtkkpfoidppjbdaaDoor.NL
