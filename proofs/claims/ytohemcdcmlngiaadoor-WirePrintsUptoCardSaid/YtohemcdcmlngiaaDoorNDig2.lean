/-
  Add, Sub, Compare by hand, digit by digit: their plain law. No program in sight.
-/
import Derived.Test.YtohemcdcmlngiaaDoorNDig
namespace Go.Proofs.YtohemcdcmlngiaaDoor.ND
set_option linter.unusedSimpArgs false
set_option linter.unusedVariables false

theorem getD_lt {L : List Nat} (h : AllD L) (i : Nat) : L.getD i 0 < 10 := by
  rw [List.getD_eq_getElem?_getD]
  cases hq : L[i]? with
  | none => simp
  | some v => simp; exact h v (List.mem_of_getElem? hq)
theorem all_snoc {L : List Nat} {d : Nat} (h : AllD L) (hd : d < 10) : AllD (L ++ [d]) := by
  intro x hx
  rcases List.mem_append.1 hx with hx | hx
  · exact h x hx
  · have : x = d := by simpa using hx
    omega
theorem val_snoc (L : List Nat) (d : Nat) : val (L ++ [d]) = val L + 10 ^ L.length * d := by rw [val_append]; simp [val]
theorem pow_le_of_lt_length {x i : Nat} (h : i < (dig x).length) : 10 ^ i ≤ x := by
  have h0 : dig x ≠ [] := fun e => by rw [e] at h; simp at h
  exact Nat.le_trans (Nat.pow_le_pow_right (by decide) (by omega)) (dig_ge h0)
theorem lt_pow_length (x : Nat) : x < 10 ^ (dig x).length := by
  have := val_lt _ (all_dig x)
  rwa [val_dig] at this

/-! ### the sum -/
structure AddSt (x y : Nat) (O : List Nat) (u : Nat) : Prop where
  all : AllD O
  up : u ≤ 1
  eq : val O + 10 ^ O.length * u = val ((dig x).take O.length) + val ((dig y).take O.length)
  big : O = [] ∨ 10 ^ (O.length - 1) ≤ x + y
theorem AddSt.init (x y : Nat) : AddSt x y [] 0 := ⟨(fun d hd => by cases hd), by omega, by simp [val], .inl rfl⟩
theorem AddSt.more {x y u : Nat} {O : List Nat} (S : AddSt x y O u) (h : O.length < (dig x).length ∨ O.length < (dig y).length ∨ 0 < u) : 10 ^ O.length ≤ x + y := by
  by_cases h1 : O.length < (dig x).length
  · exact Nat.le_trans (pow_le_of_lt_length h1) (by omega)
  · by_cases h2 : O.length < (dig y).length
    · exact Nat.le_trans (pow_le_of_lt_length h2) (by omega)
    · have hu : u = 1 := by have := S.up; omega
      have e := S.eq
      rw [List.take_of_length_le (by omega), List.take_of_length_le (by omega), val_dig, val_dig, hu] at e
      omega
theorem AddSt.short {x y u : Nat} {O : List Nat} (S : AddSt x y O u) (h : O.length < (dig x).length ∨ O.length < (dig y).length ∨ 0 < u) : O.length ≤ (dig x).length + (dig y).length := by
  have h1 := S.more h
  have h2 := lt_pow_length x
  have h3 := lt_pow_length y
  have e : ∀ a b : Nat, 10 ^ a ≤ 10 ^ (a + b) := fun a b => Nat.pow_le_pow_right (by decide) (by omega)
  have e1 := e (dig x).length (dig y).length
  have e2 := e (dig y).length (dig x).length
  rw [Nat.add_comm (dig y).length] at e2
  have h4 : 10 ^ O.length < 10 ^ ((dig x).length + (dig y).length + 1) := by
    rw [Nat.pow_succ]
    omega
  have := (Nat.pow_lt_pow_iff_right (by decide : 1 < 10)).1 h4
  omega
theorem AddSt.next {x y u : Nat} {O : List Nat} (S : AddSt x y O u) (h : O.length < (dig x).length ∨ O.length < (dig y).length ∨ 0 < u) :
    AddSt x y (O ++ [((dig x).getD O.length 0 + (dig y).getD O.length 0 + u) % 10]) (((dig x).getD O.length 0 + (dig y).getD O.length 0 + u) / 10) := by
  have ha := getD_lt (all_dig x) O.length
  have hb := getD_lt (all_dig y) O.length
  have hu := S.up
  have hm := S.more h
  refine ⟨all_snoc S.all (by omega), by omega, ?_, .inr (by simpa using hm)⟩
  rw [List.length_append, List.length_singleton, val_snoc, val_take_succ, val_take_succ]
  have e := S.eq
  generalize (dig x).getD O.length 0 = a at *
  generalize (dig y).getD O.length 0 = b at *
  generalize val ((dig x).take O.length) = p at *
  generalize val ((dig y).take O.length) = q at *
  rw [Nat.pow_succ, Nat.mul_assoc, Nat.add_assoc, ← Nat.mul_add, Nat.mod_add_div]
  generalize 10 ^ O.length = t at *
  rw [Nat.mul_add, Nat.mul_add]
  omega
theorem AddSt.done {x y : Nat} {O : List Nat} (S : AddSt x y O 0) (h1 : ¬ O.length < (dig x).length) (h2 : ¬ O.length < (dig y).length) : O = dig (x + y) := by
  have e := S.eq
  rw [List.take_of_length_le (by omega), List.take_of_length_le (by omega), val_dig, val_dig] at e
  have hv : val O = x + y := by omega
  rw [← hv]
  exact dig_of_val O S.all (by rw [hv]; exact S.big)

/-! ### the difference -/
structure SubSt (x y : Nat) (O : List Nat) (d : Nat) : Prop where
  all : AllD O
  down : d ≤ 1
  eq : val ((dig x).take O.length) + 10 ^ O.length * d = val O + val ((dig y).take O.length)
theorem SubSt.init (x y : Nat) : SubSt x y [] 0 := ⟨(fun d hd => by cases hd), by omega, by simp [val]⟩
/-- the digit, and what is missing -/
theorem SubSt.next {x y d : Nat} {O : List Nat} (S : SubSt x y O d) (s d' : Nat) (hs : s < 10) (hd' : d' ≤ 1) (he : (dig x).getD O.length 0 + 10 * d' = s + (dig y).getD O.length 0 + d) : SubSt x y (O ++ [s]) d' := by
  refine ⟨all_snoc S.all hs, hd', ?_⟩
  rw [List.length_append, List.length_singleton, val_snoc, val_take_succ, val_take_succ]
  have e := S.eq
  generalize (dig x).getD O.length 0 = a at *
  generalize (dig y).getD O.length 0 = b at *
  generalize val ((dig x).take O.length) = p at *
  generalize val ((dig y).take O.length) = q at *
  rw [Nat.pow_succ, Nat.mul_assoc, Nat.add_assoc, ← Nat.mul_add, he]
  generalize 10 ^ O.length = t at *
  rw [Nat.mul_add, Nat.mul_add]
  omega
theorem SubSt.done {x y d : Nat} {O : List Nat} (S : SubSt x y O d) (h : O.length = (dig x).length) (hyx : y ≤ x) : trimL O = dig (x - y) := by
  have e := S.eq
  have hy : val ((dig y).take O.length) = y := by
    rw [val_take_mod _ (all_dig y), val_dig, Nat.mod_eq_of_lt]
    rw [h]
    exact Nat.lt_of_le_of_lt hyx (lt_pow_length x)
  have hO := val_lt _ S.all
  rw [hy, List.take_of_length_le (by omega), val_dig] at e
  have hd : d = 0 := by
    have := S.down
    rcases Nat.lt_or_ge 0 d with h0 | h0
    · have : d = 1 := by omega
      rw [this] at e
      omega
    · omega
  rw [hd] at e
  unfold trimL
  congr 1
  omega

/-! ### which is above the other -/
def cmpI (x y : Nat) : Int := if x < y then -1 else if x = y then 0 else 1
theorem cmpI_lt {x y : Nat} (h : x < y) : cmpI x y = -1 := if_pos h
theorem cmpI_gt {x y : Nat} (h : y < x) : cmpI x y = 1 := by unfold cmpI; rw [if_neg (by omega), if_neg (by omega)]
theorem cmpI_eq (x : Nat) : cmpI x x = 0 := by unfold cmpI; rw [if_neg (by omega), if_pos rfl]
theorem lt_of_length_lt {x y : Nat} (h : (dig x).length < (dig y).length) : x < y := Nat.lt_of_lt_of_le (lt_pow_length x) (pow_le_of_lt_length h)
theorem val_split (L : List Nat) (j : Nat) (h : j < L.length) : val L = val (L.take j) + 10 ^ j * (L.getD j 0 + 10 * val (L.drop (j + 1))) := by
  have e := val_append (L.take j) (L.drop j)
  rw [List.take_append_drop, List.length_take, Nat.min_eq_left (by omega), List.drop_eq_getElem_cons h, val] at e
  rw [e]
  simp [List.getD_eq_getElem?_getD, h]
/-- all digits above place j are the same, the one at j is less -/
theorem lt_of_digit {x y j : Nat} (hx : j < (dig x).length) (hy : j < (dig y).length) (hd : (dig x).drop (j + 1) = (dig y).drop (j + 1)) (hl : (dig x).getD j 0 < (dig y).getD j 0) : x < y := by
  have e1 := val_split (dig x) j hx
  have e2 := val_split (dig y) j hy
  have hlt := val_lt _ (all_take (all_dig x) j)
  rw [List.length_take, Nat.min_eq_left (by omega)] at hlt
  rw [val_dig] at e1 e2
  rw [hd] at e1
  generalize val ((dig y).drop (j + 1)) = r at *
  generalize (dig x).getD j 0 = a at *
  generalize (dig y).getD j 0 = b at *
  generalize val ((dig x).take j) = p at *
  generalize val ((dig y).take j) = q at *
  have h3 : 10 ^ j * (a + 10 * r) + 10 ^ j ≤ 10 ^ j * (b + 10 * r) := by
    have : 10 ^ j * ((a + 10 * r) + 1) ≤ 10 ^ j * (b + 10 * r) := Nat.mul_le_mul_left _ (by omega)
    rwa [Nat.mul_add, Nat.mul_one] at this
  omega
theorem drop_same {A B : List Nat} {j : Nat} (hA : j < A.length) (hB : j < B.length) (h : A.drop (j + 1) = B.drop (j + 1)) (hd : A.getD j 0 = B.getD j 0) : A.drop j = B.drop j := by
  rw [List.drop_eq_getElem_cons hA, List.drop_eq_getElem_cons hB, h]
  congr 1
  simpa [List.getD_eq_getElem?_getD, hA, hB] using hd
theorem eq_of_dig {x y : Nat} (h : dig x = dig y) : x = y := by rw [← val_dig x, ← val_dig y, h]
end Go.Proofs.YtohemcdcmlngiaaDoor.ND
