/-
  less and more by hand: their plain law. No program in sight.
-/
import Derived.Test.YtkkpfoidppjbdaaDoorLDig3
namespace Go.Proofs.YtkkpfoidppjbdaaDoor.NL
set_option linter.unusedSimpArgs false
set_option linter.unusedVariables false

/-- 'less' so far: limb k is next, d is missing -/
structure LessSt (L M : List Nat) (k : Nat) (W : List Nat) (d : Nat) : Prop where
  len : W.length = L.length
  all : AllD W
  down : d ≤ 1
  eq : val W + val (M.take k) = val L + 1000000000 ^ k * d
theorem LessSt.init {L : List Nat} (M : List Nat) (h : AllD L) : LessSt L M 0 L 0 := ⟨rfl, h, by omega, by simp [val]⟩
theorem LessSt.next {L M W : List Nat} {k d : Nat} (S : LessSt L M k W d) (hk : k < L.length) (s d' : Nat) (hs : s < 1000000000) (hd : d' ≤ 1) (he : W.getD k 0 + 1000000000 * d' = s + M.getD k 0 + d) : LessSt L M (k + 1) (W.set k s) d' := by
  refine ⟨by rw [List.length_set]; exact S.len, all_set S.all hs, hd, ?_⟩
  have e := S.eq
  have es := val_set W k s (by rw [S.len]; exact hk)
  rw [val_take_succ, Nat.pow_succ, Nat.mul_assoc]
  generalize W.getD k 0 = a at *
  generalize M.getD k 0 = b at *
  have e2 : 1000000000 ^ k * a + 1000000000 ^ k * (1000000000 * d') = 1000000000 ^ k * s + 1000000000 ^ k * b + 1000000000 ^ k * d := by
    rw [← Nat.mul_add, ← Nat.mul_add, ← Nat.mul_add, he]
  generalize 1000000000 ^ k * (1000000000 * d') = t1 at *
  generalize 1000000000 ^ k * a = t2 at *
  generalize 1000000000 ^ k * b = t3 at *
  generalize 1000000000 ^ k * s = t4 at *
  generalize 1000000000 ^ k * d = t5 at *
  omega
/-- what 'less' has done -/
structure LessEnd (L M W : List Nat) (d : Nat) : Prop where
  len : W.length = L.length
  all : AllD W
  down : d ≤ 1
  eq : val W + val (M.take L.length) = val L + 1000000000 ^ L.length * d
theorem LessSt.done {L M W : List Nat} {d : Nat} (S : LessSt L M L.length W d) : LessEnd L M W d := ⟨S.len, S.all, S.down, S.eq⟩
theorem LessSt.stop {L M W : List Nat} {k : Nat} (S : LessSt L M k W 0) (hk : k ≤ L.length) (hM : M.length ≤ k) : LessEnd L M W 0 := by
  refine ⟨S.len, S.all, by omega, ?_⟩
  have e := S.eq
  rw [List.take_of_length_le hM] at e
  rw [List.take_of_length_le (by omega)]
  simpa using e
theorem LessEnd.sub {x y d : Nat} {W : List Nat} (S : LessEnd (dig x) (dig y) W d) (hyx : y ≤ x) : trimL W = dig (x - y) := by
  have e := S.eq
  have hy : val ((dig y).take (dig x).length) = y := by
    rw [val_take_mod _ (all_dig y), val_dig, Nat.mod_eq_of_lt]
    exact Nat.lt_of_le_of_lt hyx (lt_pow_length x)
  have hO := val_lt _ S.all
  rw [S.len] at hO
  rw [hy, val_dig] at e
  have hd : d = 0 := by
    have := S.down
    rcases Nat.lt_or_ge 0 d with h0 | h0
    · have h1 : d = 1 := by omega
      rw [h1] at e
      omega
    · omega
  rw [hd] at e
  unfold trimL
  congr 1
  omega

/-- 'more' so far -/
structure MoreSt (L M : List Nat) (k : Nat) (W : List Nat) (u : Nat) : Prop where
  len : W.length = L.length
  all : AllD W
  up : u ≤ 1
  eq : val W + 1000000000 ^ k * u = val L + val (M.take k)
theorem MoreSt.init {L : List Nat} (M : List Nat) (h : AllD L) : MoreSt L M 0 L 0 := ⟨rfl, h, by omega, by simp [val]⟩
theorem MoreSt.next {L M W : List Nat} {k u : Nat} (S : MoreSt L M k W u) (hM : AllD M) (hk : k < L.length) : MoreSt L M (k + 1) (W.set k ((W.getD k 0 + u + M.getD k 0) % 1000000000)) ((W.getD k 0 + u + M.getD k 0) / 1000000000) := by
  have ha := getD_lt S.all k
  have hb := getD_lt hM k
  have hu := S.up
  refine ⟨by rw [List.length_set]; exact S.len, all_set S.all (by omega), by omega, ?_⟩
  have e := S.eq
  have es := val_set W k ((W.getD k 0 + u + M.getD k 0) % 1000000000) (by rw [S.len]; exact hk)
  rw [val_take_succ, Nat.pow_succ, Nat.mul_assoc]
  generalize W.getD k 0 = a at *
  generalize M.getD k 0 = b at *
  have e2 : 1000000000 ^ k * a + 1000000000 ^ k * u + 1000000000 ^ k * b = 1000000000 ^ k * ((a + u + b) % 1000000000) + 1000000000 ^ k * (1000000000 * ((a + u + b) / 1000000000)) := by
    rw [← Nat.mul_add, ← Nat.mul_add, ← Nat.mul_add, Nat.mod_add_div]
  generalize 1000000000 ^ k * (1000000000 * ((a + u + b) / 1000000000)) = t1 at *
  generalize 1000000000 ^ k * a = t2 at *
  generalize 1000000000 ^ k * b = t3 at *
  generalize 1000000000 ^ k * ((a + u + b) % 1000000000) = t4 at *
  generalize 1000000000 ^ k * u = t5 at *
  omega
end Go.Proofs.YtkkpfoidppjbdaaDoor.NL
