/-
  Chapter 4, the letters: plain law: bytes as signs of five bits, and back. No program in sight.
-/
import Derived.Test.YtohemcdcmlngiaaBBase
namespace Go.Proofs.Ytohemcdcmlngiaa
namespace WL
open ML FM
set_option linter.unusedVariables false
set_option linter.unusedSimpArgs false

/-- bytes as a number, the highest first -/
def nB (B : Bytes) : Nat := B.foldl (fun n c => 256 * n + c.toNat) 0
theorem nB_snoc (B : Bytes) (c : UInt8) : nB (B ++ [c]) = 256 * nB B + c.toNat := by simp [nB]
/-- values as a number to the base 32 -/
def nV (l : List Nat) : Nat := l.foldl (fun n v => 32 * n + v) 0
theorem nV_snoc (l : List Nat) (v : Nat) : nV (l ++ [v]) = 32 * nV l + v := by simp [nV]
/-- the check -/
def ckV (l : List Nat) : Nat := l.foldl (fun n v => (n * 32 + v) % 37) 0
theorem ckV_snoc (l : List Nat) (v : Nat) : ckV (l ++ [v]) = (ckV l * 32 + v) % 37 := by simp [ckV]
theorem ckV_nil : ckV [] = 0 := rfl
theorem snoc_ind {α : Type} {P : List α → Prop} (h0 : P []) (h1 : ∀ l a, P l → P (l ++ [a])) (l : List α) : P l := by
  have h : ∀ m : List α, P m.reverse := by
    intro m
    induction m with
    | nil => exact h0
    | cons a m ih => rw [List.reverse_cons]; exact h1 _ _ ih
  have := h l.reverse
  rwa [List.reverse_reverse] at this
theorem ckV_mod (l : List Nat) : ckV l = nV l % 37 := by
  induction l using snoc_ind with
  | h0 => rfl
  | h1 l v ih => rw [ckV_snoc, nV_snoc, ih]; omega
theorem ckV_lt (l : List Nat) : ckV l < 37 := by rw [ckV_mod]; exact Nat.mod_lt _ (by decide)
def AllV (l : List Nat) : Prop := ∀ v ∈ l, v < 32
theorem AllV.snoc {l : List Nat} {v : Nat} (h : AllV l) (hv : v < 32) : AllV (l ++ [v]) := by
  intro x hx
  rcases List.mem_append.1 hx with hx | hx
  · exact h x hx
  · rw [List.mem_singleton] at hx; subst hx; exact hv
theorem AllV.init {l : List Nat} {v : Nat} (h : AllV (l ++ [v])) : AllV l := fun x hx => h x (List.mem_append_left _ hx)
theorem AllV.last {l : List Nat} {v : Nat} (h : AllV (l ++ [v])) : v < 32 := h v (by simp)
/-- the values of a number, so many -/
def vd : Nat → Nat → List Nat
  | 0, _ => []
  | m + 1, V => vd m (V / 32) ++ [V % 32]
theorem length_vd (m : Nat) : ∀ V, (vd m V).length = m := by
  induction m with
  | zero => intro V; rfl
  | succ m ih => intro V; simp [vd, ih]
theorem all_vd (m : Nat) : ∀ V, AllV (vd m V) := by
  induction m with
  | zero => intro V v hv; cases hv
  | succ m ih => intro V; exact (ih _).snoc (Nat.mod_lt _ (by decide))
theorem vd_nV (l : List Nat) (h : AllV l) : vd l.length (nV l) = l := by
  induction l using snoc_ind with
  | h0 => rfl
  | h1 l v ih =>
    rw [List.length_append, List.length_singleton, nV_snoc]
    have hv := h.last
    show vd l.length ((32 * nV l + v) / 32) ++ [(32 * nV l + v) % 32] = l ++ [v]
    rw [show (32 * nV l + v) / 32 = nV l by omega, show (32 * nV l + v) % 32 = v by omega, ih h.init]
theorem nV_vd (m : Nat) : ∀ V, V < 32 ^ m → nV (vd m V) = V := by
  induction m with
  | zero => intro V h; simp at h; subst h; rfl
  | succ m ih =>
    intro V h
    rw [Nat.pow_succ] at h
    show nV (vd m (V / 32) ++ [V % 32]) = V
    rw [nV_snoc, ih _ (by omega)]
    omega
theorem nV_lt (l : List Nat) (h : AllV l) : nV l < 32 ^ l.length := by
  induction l using snoc_ind with
  | h0 => decide
  | h1 l v ih =>
    have := ih h.init
    have := h.last
    rw [nV_snoc, List.length_append, List.length_singleton, Nat.pow_succ]
    omega
theorem nB_lt (B : Bytes) : nB B < 256 ^ B.length := by
  induction B using snoc_ind with
  | h0 => decide
  | h1 l v ih =>
    have := v.toNat_lt
    rw [nB_snoc, List.length_append, List.length_singleton, Nat.pow_succ]
    omega
/-- the bytes of a number, so many -/
def bd : Nat → Nat → Bytes
  | 0, _ => []
  | m + 1, V => bd m (V / 256) ++ [UInt8.ofNat (V % 256)]
theorem length_bd (m : Nat) : ∀ V, (bd m V).length = m := by
  induction m with
  | zero => intro V; rfl
  | succ m ih => intro V; simp [bd, ih]
theorem bd_nB (B : Bytes) : bd B.length (nB B) = B := by
  induction B using snoc_ind with
  | h0 => rfl
  | h1 l v ih =>
    have hv := v.toNat_lt
    rw [List.length_append, List.length_singleton, nB_snoc]
    show bd l.length ((256 * nB l + v.toNat) / 256) ++ [UInt8.ofNat ((256 * nB l + v.toNat) % 256)] = l ++ [v]
    rw [show (256 * nB l + v.toNat) / 256 = nB l by omega, show (256 * nB l + v.toNat) % 256 = v.toNat by omega, ih, UInt8.ofNat_toNat]
/-- how many values so many bytes have -/
def mV (n : Nat) : Nat := (8 * n + 4) / 5
/-- what bytes are written in -/
def valsOf (B : Bytes) : List Nat := vd (mV B.length) (nB B * 2 ^ (5 * mV B.length - 8 * B.length))
theorem length_valsOf (B : Bytes) : (valsOf B).length = mV B.length := length_vd _ _
theorem all_valsOf (B : Bytes) : AllV (valsOf B) := all_vd _ _
theorem pow256 (n : Nat) : 256 ^ n = 2 ^ (8 * n) := by rw [Nat.pow_mul]
theorem pow32 (n : Nat) : 32 ^ n = 2 ^ (5 * n) := by rw [Nat.pow_mul]
theorem nV_valsOf (B : Bytes) : nV (valsOf B) = nB B * 2 ^ (5 * mV B.length - 8 * B.length) := by
  refine nV_vd _ _ ?_
  rw [pow32]
  have h := nB_lt B
  rw [pow256] at h
  have hm : 8 * B.length ≤ 5 * mV B.length := by unfold mV; omega
  calc nB B * 2 ^ (5 * mV B.length - 8 * B.length) < 2 ^ (8 * B.length) * 2 ^ (5 * mV B.length - 8 * B.length) := Nat.mul_lt_mul_of_pos_right h (Nat.two_pow_pos _)
    _ = 2 ^ (5 * mV B.length) := by rw [← Nat.pow_add, Nat.add_sub_cancel' hm]
/-- whoever has so many values, below 32, with this number, has these -/
theorem valsOf_eq (B : Bytes) (l : List Nat) (h : AllV l) (hl : l.length = mV B.length) (hn : nV l = nB B * 2 ^ (5 * mV B.length - 8 * B.length)) : l = valsOf B := by
  rw [← vd_nV l h, hl, hn]; rfl

/-! The program's way: values are put as soon as there are five bits. -/
/-- behind bytes B, of which t bits are not put yet -/
structure PutV (B : Bytes) (t : Nat) (l : List Nat) : Prop where
  all : AllV l
  num : nV l = nB B / 2 ^ t
  len : 5 * l.length + t = 8 * B.length
theorem PutV.nil : PutV [] 0 [] := ⟨(fun v h => by cases h), rfl, rfl⟩
theorem PutV.byte {B : Bytes} {t : Nat} {l : List Nat} (h : PutV B t l) (c : UInt8) : PutV (B ++ [c]) (t + 8) l := by
  refine ⟨h.all, ?_, by rw [List.length_append, List.length_singleton]; have := h.len; omega⟩
  rw [nB_snoc, h.num, Nat.pow_add, Nat.mul_comm (2 ^ t), ← Nat.div_div_eq_div_mul]
  have := c.toNat_lt
  rw [show (256 * nB B + c.toNat) / 2 ^ 8 = nB B by omega]
theorem PutV.put {B : Bytes} {t : Nat} {l : List Nat} (h : PutV B (t + 5) l) : PutV B t (l ++ [nB B / 2 ^ t % 32]) := by
  refine ⟨h.all.snoc (Nat.mod_lt _ (by decide)), ?_, by rw [List.length_append, List.length_singleton]; have := h.len; omega⟩
  rw [nV_snoc, h.num, Nat.pow_add, ← Nat.div_div_eq_div_mul]
  show 32 * (nB B / 2 ^ t / 32) + nB B / 2 ^ t % 32 = _
  omega
/-- what is held -/
theorem held_mod (B : Bytes) (c : UInt8) (x : Nat) (h : x % 32 = nB B % 32) : (x * 256 + c.toNat) % 8192 = nB (B ++ [c]) % 8192 := by rw [nB_snoc]; omega
theorem held_div (a b t : Nat) (h : a % 8192 = b % 8192) (ht : t < 8) : a / 2 ^ t % 32 = b / 2 ^ t % 32 := by
  have h2 : t = 0 ∨ t = 1 ∨ t = 2 ∨ t = 3 ∨ t = 4 ∨ t = 5 ∨ t = 6 ∨ t = 7 := by omega
  rcases h2 with rfl | rfl | rfl | rfl | rfl | rfl | rfl | rfl <;> simp only [Nat.reducePow] <;> omega
theorem PutV.done {B : Bytes} {l : List Nat} (h : PutV B 0 l) : l = valsOf B := by
  have := h.len
  refine valsOf_eq B l h.all (by unfold mV; omega) ?_
  rw [h.num, show 5 * mV B.length - 8 * B.length = 0 by unfold mV; omega]
  simp
theorem PutV.rest {B : Bytes} {t x : Nat} {l : List Nat} (h : PutV B t l) (h0 : 0 < t) (h5 : t < 5) (hx : x % 32 = nB B % 32) : l ++ [x * 2 ^ (5 - t) % 32] = valsOf B := by
  have hl := h.len
  have hm : mV B.length = l.length + 1 := by unfold mV; omega
  refine valsOf_eq B _ (h.all.snoc (Nat.mod_lt _ (by decide))) (by simp [hm]) ?_
  rw [nV_snoc, h.num, show 5 * mV B.length - 8 * B.length = 5 - t by rw [hm]; omega]
  generalize nB B = N at *
  have h2 : t = 1 ∨ t = 2 ∨ t = 3 ∨ t = 4 := by omega
  rcases h2 with rfl | rfl | rfl | rfl <;> simp only [Nat.reducePow, Nat.reduceSub] <;> omega

/-! The reference's way: bit by bit. -/
def bitN (B : Bytes) (i : Nat) : Nat := if i / 8 < B.length then byteN B (i / 8) / 2 ^ (7 - i % 8) % 2 else 0
/-- the number of the first i bits -/
def fstN : Bytes → Nat → Nat
  | _, 0 => 0
  | B, i + 1 => 2 * fstN B i + bitN B i
theorem bitN_lt (B : Bytes) (i : Nat) : bitN B i < 2 := by
  unfold bitN; split
  · exact Nat.mod_lt _ (by decide)
  · decide
theorem byteN_snoc_lt (B : Bytes) (c : UInt8) (i : Nat) (h : i < B.length) : byteN (B ++ [c]) i = byteN B i := by
  unfold byteN; rw [List.getD_eq_getElem?_getD, List.getD_eq_getElem?_getD, List.getElem?_append_left h]
theorem byteN_snoc_eq (B : Bytes) (c : UInt8) : byteN (B ++ [c]) B.length = c.toNat := by
  unfold byteN; rw [List.getD_eq_getElem?_getD, List.getElem?_append_right (Nat.le_refl _)]; simp
theorem fstN_snoc (B : Bytes) (c : UInt8) (i : Nat) (h : i ≤ 8 * B.length) : fstN (B ++ [c]) i = fstN B i := by
  induction i with
  | zero => rfl
  | succ i ih =>
    simp only [fstN]
    rw [ih (by omega)]
    unfold bitN
    rw [if_pos (by rw [List.length_append, List.length_singleton]; omega), if_pos (by omega), byteN_snoc_lt B c _ (by omega)]
theorem fstN_byte (B : Bytes) (c : UInt8) : ∀ k, k ≤ 8 → fstN (B ++ [c]) (8 * B.length + k) = fstN B (8 * B.length) * 2 ^ k + c.toNat / 2 ^ (8 - k) := by
  intro k
  induction k with
  | zero => intro _; have := c.toNat_lt; rw [Nat.add_zero, fstN_snoc _ _ _ (Nat.le_refl _)]; simp; omega
  | succ k ih =>
    intro h
    rw [← Nat.add_assoc]
    simp only [fstN]
    rw [ih (by omega)]
    unfold bitN
    rw [if_pos (by rw [List.length_append, List.length_singleton]; omega), show (8 * B.length + k) / 8 = B.length by omega, show (8 * B.length + k) % 8 = k by omega, byteN_snoc_eq,
      show 8 - k = (7 - k) + 1 by omega, show 8 - (k + 1) = 7 - k by omega, Nat.pow_succ, Nat.pow_succ, ← Nat.div_div_eq_div_mul]
    rw [show fstN B (8 * B.length) * (2 ^ k * 2) = (fstN B (8 * B.length) * 2 ^ k) * 2 by rw [Nat.mul_assoc]]
    generalize c.toNat / 2 ^ (7 - k) = x
    generalize fstN B (8 * B.length) * 2 ^ k = y
    omega
theorem fstN_whole (B : Bytes) : fstN B (8 * B.length) = nB B := by
  induction B using snoc_ind with
  | h0 => rfl
  | h1 B c ih =>
    rw [List.length_append, List.length_singleton, Nat.mul_add, Nat.mul_one, fstN_byte B c 8 (Nat.le_refl _), ih, nB_snoc]
    simp
    omega
theorem fstN_more (B : Bytes) (k : Nat) : fstN B (8 * B.length + k) = nB B * 2 ^ k := by
  induction k with
  | zero => rw [Nat.add_zero, fstN_whole]; simp
  | succ k ih =>
    rw [← Nat.add_assoc]
    simp only [fstN]
    rw [ih]
    unfold bitN
    rw [if_neg (by omega), Nat.pow_succ, show nB B * (2 ^ k * 2) = nB B * 2 ^ k * 2 by rw [Nat.mul_assoc]]
    generalize nB B * 2 ^ k = y
    omega
/-- the reference's values, g of them -/
structure RefV (B : Bytes) (g : Nat) (l : List Nat) : Prop where
  all : AllV l
  num : nV l = fstN B (5 * g)
  len : l.length = g
theorem RefV.nil (B : Bytes) : RefV B 0 [] := ⟨(fun v h => by cases h), rfl, rfl⟩
def five (B : Bytes) (i : Nat) : Nat → Nat
  | 0 => 0
  | k + 1 => 2 * five B i k + bitN B (i + k)
theorem five_lt (B : Bytes) (i : Nat) : ∀ k, five B i k < 2 ^ k := by
  intro k
  induction k with
  | zero => exact Nat.one_pos
  | succ k ih => simp only [five]; have := bitN_lt B (i + k); rw [Nat.pow_succ]; omega
theorem fstN_five (B : Bytes) (i : Nat) : ∀ k, fstN B (i + k) = fstN B i * 2 ^ k + five B i k := by
  intro k
  induction k with
  | zero => simp [five]
  | succ k ih =>
    rw [← Nat.add_assoc]
    simp only [fstN, five]
    rw [ih, Nat.pow_succ, ← Nat.mul_assoc]
    omega
theorem RefV.next {B : Bytes} {g : Nat} {l : List Nat} (h : RefV B g l) : RefV B (g + 1) (l ++ [five B (5 * g) 5]) := by
  refine ⟨h.all.snoc (five_lt B _ 5), ?_, by rw [List.length_append, List.length_singleton, h.len]⟩
  rw [nV_snoc, h.num, show 5 * (g + 1) = 5 * g + 5 by omega, fstN_five]
  omega
theorem RefV.done {B : Bytes} {g : Nat} {l : List Nat} (h : RefV B g l) (h1 : 8 * B.length ≤ 5 * g) (h2 : 5 * g < 8 * B.length + 5) : l = valsOf B := by
  have hg : g = mV B.length := by unfold mV; omega
  refine valsOf_eq B l h.all (by rw [h.len, hg]) ?_
  rw [h.num, ← hg, show 5 * g = 8 * B.length + (5 * g - 8 * B.length) by omega, fstN_more, show 8 * B.length + (5 * g - 8 * B.length) - 8 * B.length = 5 * g - 8 * B.length by omega]

/-! The way back. -/
/-- so many bytes of values -/
def nBy (m : Nat) : Nat := 5 * m / 8
def restV (l : List Nat) : Nat := nV l % 2 ^ (5 * l.length % 8)
def bytesOf (l : List Nat) : Bytes := bd (nBy l.length) (nV l / 2 ^ (5 * l.length % 8))
theorem bytesOf_valsOf (B : Bytes) : bytesOf (valsOf B) = B ∧ restV (valsOf B) = 0 ∧ 5 * (valsOf B).length % 8 < 5 := by
  have e1 : 5 * mV B.length / 8 = B.length := by unfold mV; omega
  have e2 : 5 * mV B.length % 8 = 5 * mV B.length - 8 * B.length := by unfold mV; omega
  unfold bytesOf restV nBy
  rw [length_valsOf, e1, e2, nV_valsOf, Nat.mul_div_cancel _ (Nat.two_pow_pos _), bd_nB, Nat.mul_mod_left]
  exact ⟨rfl, rfl, by unfold mV; omega⟩
/-- the program's: k values on: the bytes so far, what is held, how many bits -/
structure GetV (l : List Nat) (O : Bytes) (x t : Nat) : Prop where
  num : nV l = nB O * 2 ^ t + x
  len : 5 * l.length = 8 * O.length + t
  low : x < 2 ^ t
  few : t < 8
theorem GetV.nil : GetV [] [] 0 0 := ⟨rfl, rfl, by decide, by decide⟩
theorem GetV.keep {l : List Nat} {O : Bytes} {x t v : Nat} (h : GetV l O x t) (hv : v < 32) (ht : t + 5 < 8) : GetV (l ++ [v]) O (x * 32 + v) (t + 5) := by
  refine ⟨?_, by rw [List.length_append, List.length_singleton]; have := h.len; omega, ?_, ht⟩
  · rw [nV_snoc, h.num, Nat.pow_add, ← Nat.mul_assoc]
    generalize nB O * 2 ^ t = y
    omega
  · have := h.low
    rw [Nat.pow_add]
    omega
theorem GetV.take {l : List Nat} {O : Bytes} {x t v : Nat} (h : GetV l O x t) (hv : v < 32) (ht : 8 ≤ t + 5) : GetV (l ++ [v]) (O ++ [UInt8.ofNat ((x * 32 + v) / 2 ^ (t + 5 - 8))]) ((x * 32 + v) % 2 ^ (t + 5 - 8)) (t + 5 - 8) ∧ (x * 32 + v) / 2 ^ (t + 5 - 8) < 256 := by
  have hlow := h.low
  have hfew := h.few
  have hlen := h.len
  have hb : (x * 32 + v) / 2 ^ (t + 5 - 8) < 256 := by
    rw [Nat.div_lt_iff_lt_mul (Nat.two_pow_pos _)]
    have : 256 * 2 ^ (t + 5 - 8) = 2 ^ (t + 5) := by rw [show (256 : Nat) = 2 ^ 8 from rfl, ← Nat.pow_add]; congr 1; omega
    rw [this, Nat.pow_add]
    omega
  refine ⟨⟨?_, by simp only [List.length_append, List.length_singleton]; omega, Nat.mod_lt _ (Nat.two_pow_pos _), by omega⟩, hb⟩
  rw [nV_snoc, h.num, nB_snoc]
  have e : (UInt8.ofNat ((x * 32 + v) / 2 ^ (t + 5 - 8))).toNat = (x * 32 + v) / 2 ^ (t + 5 - 8) := by
    rw [UInt8.toNat_ofNat']; exact Nat.mod_eq_of_lt hb
  rw [e]
  have hd := Nat.div_add_mod (x * 32 + v) (2 ^ (t + 5 - 8))
  have hp : 256 * 2 ^ (t + 5 - 8) = 32 * 2 ^ t := by
    rw [show (256 : Nat) = 2 ^ 8 from rfl, show (32 : Nat) = 2 ^ 5 from rfl, ← Nat.pow_add, ← Nat.pow_add]; congr 1; omega
  generalize (x * 32 + v) / 2 ^ (t + 5 - 8) = q at *
  generalize (x * 32 + v) % 2 ^ (t + 5 - 8) = r at *
  generalize hP : 2 ^ (t + 5 - 8) = P at *
  generalize hT : 2 ^ t = T at *
  have e2 : (256 * nB O + q) * P = nB O * (256 * P) + P * q := by
    rw [Nat.add_mul, Nat.mul_comm 256 (nB O), Nat.mul_assoc, Nat.mul_comm q P]
  rw [e2, hp]
  have e3 : nB O * (32 * T) = 32 * (nB O * T) := by rw [Nat.mul_left_comm]
  rw [e3]
  generalize nB O * T = y at *
  generalize P * q = z at *
  omega
theorem GetV.done {l : List Nat} {O : Bytes} {x t : Nat} (h : GetV l O x t) : x = restV l ∧ O = bytesOf l := by
  have hlow := h.low
  have hfew := h.few
  have hlen := h.len
  have e1 : 5 * l.length % 8 = t := by omega
  have e2 : nBy l.length = O.length := by unfold nBy; omega
  unfold restV bytesOf
  rw [e1, e2, h.num]
  constructor
  · rw [Nat.mul_comm, Nat.mul_add_mod, Nat.mod_eq_of_lt hlow]
  · rw [Nat.mul_comm, Nat.mul_add_div (Nat.two_pow_pos _), Nat.div_eq_of_lt hlow, Nat.add_zero, bd_nB]
end WL
end Go.Proofs.Ytohemcdcmlngiaa
