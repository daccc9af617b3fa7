/-
  Fractions in lowest terms: the plain law. No program in sight.
-/
import Derived.KernelRfl
namespace Go.Proofs.YtkkpfoidppjbdaaDoor.FRP

def low1 (n d : Nat) : Nat := n / Nat.gcd n d
def low2 (n d : Nat) : Nat := d / Nat.gcd n d
theorem low_gcd {n d : Nat} (hd : 0 < d) : 0 < Nat.gcd n d := Nat.gcd_pos_of_pos_right n hd
theorem low_repr {n d : Nat} : n = Nat.gcd n d * low1 n d ∧ d = Nat.gcd n d * low2 n d :=
  ⟨(Nat.mul_div_cancel' (Nat.gcd_dvd_left n d)).symm, (Nat.mul_div_cancel' (Nat.gcd_dvd_right n d)).symm⟩
theorem low_pos {n d : Nat} (hd : 0 < d) : 0 < low2 n d := Nat.div_pos (Nat.le_of_dvd hd (Nat.gcd_dvd_right n d)) (low_gcd hd)
theorem low_cop {n d : Nat} (hd : 0 < d) : Nat.gcd (low1 n d) (low2 n d) = 1 := by
  unfold low1 low2
  rw [Nat.gcd_div (Nat.gcd_dvd_left n d) (Nat.gcd_dvd_right n d), Nat.div_self (low_gcd hd)]
theorem cop_eq {a b c d : Nat} (h1 : Nat.gcd a b = 1) (h2 : Nat.gcd c d = 1) (hb : 0 < b) (hd : 0 < d) (h : a * d = c * b) : a = c ∧ b = d := by
  have e1 : b ∣ d := by
    have : b ∣ a * d := by rw [h]; exact Nat.dvd_mul_left b c
    exact Nat.Coprime.dvd_of_dvd_mul_left (show Nat.Coprime b a from by rw [Nat.coprime_comm]; exact h1) this
  have e2 : d ∣ b := by
    have : d ∣ c * b := by rw [← h]; exact Nat.dvd_mul_left d a
    exact Nat.Coprime.dvd_of_dvd_mul_left (show Nat.Coprime d c from by rw [Nat.coprime_comm]; exact h2) this
  have e3 : b = d := Nat.dvd_antisymm e1 e2
  subst e3
  exact ⟨Nat.eq_of_mul_eq_mul_right hb h, rfl⟩
theorem low_cross {n d m e : Nat} (hd : 0 < d) (he : 0 < e) (h : n * e = m * d) : low1 n d = low1 m e ∧ low2 n d = low2 m e := by
  refine cop_eq (low_cop hd) (low_cop he) (low_pos hd) (low_pos he) ?_
  obtain ⟨r1, r2⟩ := low_repr (n := n) (d := d)
  obtain ⟨r3, r4⟩ := low_repr (n := m) (d := e)
  have g1 := low_gcd (n := n) hd
  have g2 := low_gcd (n := m) he
  generalize low1 n d = a at *
  generalize low2 n d = b at *
  generalize low1 m e = c at *
  generalize low2 m e = f at *
  generalize Nat.gcd n d = g at *
  generalize Nat.gcd m e = k at *
  subst r1 r2 r3 r4
  have e1 : (g * k) * (a * f) = (g * k) * (c * b) := by
    have l : (g * k) * (a * f) = g * a * (k * f) := by ac_rfl
    have r : (g * k) * (c * b) = k * c * (g * b) := by ac_rfl
    rw [l, r]; exact h
  exact Nat.eq_of_mul_eq_mul_left (Nat.mul_pos g1 g2) e1
theorem low_self {n d : Nat} (h : Nat.gcd n d = 1) : low1 n d = n ∧ low2 n d = d := by
  unfold low1 low2; rw [h, Nat.div_one, Nat.div_one]; exact ⟨rfl, rfl⟩

/-- a fraction in lowest terms -/
structure Fr where
  n : Nat
  d : Nat
def Fr.ok (x : Fr) : Prop := 0 < x.d ∧ Nat.gcd x.n x.d = 1
def Fr.low (n d : Nat) : Fr := ⟨low1 n d, low2 n d⟩
def Fr.add (x y : Fr) : Fr := Fr.low (x.n * y.d + y.n * x.d) (x.d * y.d)
def Fr.mul (x y : Fr) : Fr := Fr.low (x.n * y.n) (x.d * y.d)
def Fr.sub (x y : Fr) : Fr := Fr.low (x.n * y.d - y.n * x.d) (x.d * y.d)
def Fr.div (x y : Fr) : Fr := Fr.low (x.n * y.d) (x.d * y.n)
theorem Fr.low_ok {n d : Nat} (hd : 0 < d) : (Fr.low n d).ok := ⟨low_pos hd, low_cop hd⟩
theorem Fr.low_eq {n d m e : Nat} (hd : 0 < d) (he : 0 < e) (h : n * e = m * d) : Fr.low n d = Fr.low m e := by
  obtain ⟨h1, h2⟩ := low_cross hd he h
  unfold Fr.low; rw [h1, h2]
theorem Fr.low_self {x : Fr} (h : x.ok) : Fr.low x.n x.d = x := by
  obtain ⟨h1, h2⟩ := FRP.low_self h.2
  unfold Fr.low; rw [h1, h2]
/-- what is reckoned with a fraction in lowest terms is what is reckoned with any that is the same -/
theorem low_prop (n d : Nat) : ∃ g, n = g * (Fr.low n d).n ∧ d = g * (Fr.low n d).d := ⟨Nat.gcd n d, low_repr.1, low_repr.2⟩
theorem low_cr (n d : Nat) : (Fr.low n d).n * d = n * (Fr.low n d).d := by
  obtain ⟨g, h1, h2⟩ := low_prop n d
  generalize (Fr.low n d).n = a at *
  generalize (Fr.low n d).d = b at *
  subst h1 h2
  ac_rfl
theorem Fr.add_ok {x y : Fr} (hx : x.ok) (hy : y.ok) : (x.add y).ok := Fr.low_ok (Nat.mul_pos hx.1 hy.1)
theorem Fr.mul_ok {x y : Fr} (hx : x.ok) (hy : y.ok) : (x.mul y).ok := Fr.low_ok (Nat.mul_pos hx.1 hy.1)
theorem Fr.add_low {n d : Nat} {y : Fr} (hd : 0 < d) (hy : y.ok) : (Fr.low n d).add y = Fr.low (n * y.d + y.n * d) (d * y.d) := by
  have h1 := low_cr n d
  have hp := (Fr.low_ok (n := n) hd).1
  unfold Fr.add
  refine Fr.low_eq (Nat.mul_pos hp hy.1) (Nat.mul_pos hd hy.1) ?_
  generalize (Fr.low n d).n = a at *
  generalize (Fr.low n d).d = b at *
  rw [Nat.add_mul, Nat.add_mul]
  have e1 : a * y.d * (d * y.d) = (a * d) * (y.d * y.d) := by ac_rfl
  have e2 : n * y.d * (b * y.d) = (n * b) * (y.d * y.d) := by ac_rfl
  have e3 : y.n * b * (d * y.d) = y.n * d * (b * y.d) := by ac_rfl
  rw [e1, e2, e3, h1]
theorem Fr.mul_low {n d : Nat} {y : Fr} (hd : 0 < d) (hy : y.ok) : (Fr.low n d).mul y = Fr.low (n * y.n) (d * y.d) := by
  have h1 := low_cr n d
  have hp := (Fr.low_ok (n := n) hd).1
  unfold Fr.mul
  refine Fr.low_eq (Nat.mul_pos hp hy.1) (Nat.mul_pos hd hy.1) ?_
  generalize (Fr.low n d).n = a at *
  generalize (Fr.low n d).d = b at *
  have e1 : a * y.n * (d * y.d) = (a * d) * (y.n * y.d) := by ac_rfl
  have e2 : n * y.n * (b * y.d) = (n * b) * (y.n * y.d) := by ac_rfl
  rw [e1, e2, h1]
theorem Fr.add_comm (x y : Fr) : x.add y = y.add x := by
  unfold Fr.add; rw [Nat.add_comm, Nat.mul_comm x.d y.d]
theorem Fr.mul_comm (x y : Fr) : x.mul y = y.mul x := by
  unfold Fr.mul; rw [Nat.mul_comm x.n, Nat.mul_comm x.d]
theorem Fr.add_assoc {x y z : Fr} (hx : x.ok) (hy : y.ok) (hz : z.ok) : (x.add y).add z = x.add (y.add z) := by
  rw [Fr.add_comm x (y.add z)]
  show (Fr.low (x.n * y.d + y.n * x.d) (x.d * y.d)).add z = (Fr.low (y.n * z.d + z.n * y.d) (y.d * z.d)).add x
  rw [Fr.add_low (Nat.mul_pos hx.1 hy.1) hz, Fr.add_low (Nat.mul_pos hy.1 hz.1) hx]
  congr 1
  · rw [Nat.add_mul, Nat.add_mul]
    have e1 : x.n * y.d * z.d = x.n * (y.d * z.d) := by ac_rfl
    have e2 : y.n * x.d * z.d = y.n * z.d * x.d := by ac_rfl
    have e3 : z.n * (x.d * y.d) = z.n * y.d * x.d := by ac_rfl
    rw [e1, e2, e3]; ac_rfl
  · ac_rfl
theorem Fr.mul_assoc {x y z : Fr} (hx : x.ok) (hy : y.ok) (hz : z.ok) : (x.mul y).mul z = x.mul (y.mul z) := by
  rw [Fr.mul_comm x (y.mul z)]
  show (Fr.low (x.n * y.n) (x.d * y.d)).mul z = (Fr.low (y.n * z.n) (y.d * z.d)).mul x
  rw [Fr.mul_low (Nat.mul_pos hx.1 hy.1) hz, Fr.mul_low (Nat.mul_pos hy.1 hz.1) hx]
  congr 1 <;> ac_rfl
theorem Fr.mul_add {x y z : Fr} (hx : x.ok) (hy : y.ok) (hz : z.ok) : x.mul (y.add z) = (x.mul y).add (x.mul z) := by
  rw [Fr.mul_comm x (y.add z)]
  show (Fr.low (y.n * z.d + z.n * y.d) (y.d * z.d)).mul x = (Fr.low (x.n * y.n) (x.d * y.d)).add (x.mul z)
  rw [Fr.mul_low (Nat.mul_pos hy.1 hz.1) hx, Fr.add_low (Nat.mul_pos hx.1 hy.1) (Fr.mul_ok hx hz)]
  have h1 := low_cr (x.n * z.n) (x.d * z.d)
  have hp := (Fr.mul_ok hx hz).1
  show Fr.low _ _ = Fr.low (x.n * y.n * (Fr.low (x.n * z.n) (x.d * z.d)).d + (Fr.low (x.n * z.n) (x.d * z.d)).n * (x.d * y.d)) (x.d * y.d * (Fr.low (x.n * z.n) (x.d * z.d)).d)
  have hp2 : 0 < (Fr.low (x.n * z.n) (x.d * z.d)).d := hp
  refine Fr.low_eq (Nat.mul_pos (Nat.mul_pos hy.1 hz.1) hx.1) (Nat.mul_pos (Nat.mul_pos hx.1 hy.1) hp2) ?_
  generalize (Fr.low (x.n * z.n) (x.d * z.d)).n = a at *
  generalize (Fr.low (x.n * z.n) (x.d * z.d)).d = b at *
  -- a * (x.d * z.d) = x.n * z.n * b
  have e1 : (y.n * z.d + z.n * y.d) * x.n * (x.d * y.d * b) = (x.n * y.n * b) * (y.d * z.d * x.d) + (x.n * z.n * b) * (x.d * y.d * y.d) := by
    rw [Nat.add_mul, Nat.add_mul]
    congr 1 <;> ac_rfl
  have e2 : (x.n * y.n * b + a * (x.d * y.d)) * (y.d * z.d * x.d) = (x.n * y.n * b) * (y.d * z.d * x.d) + (a * (x.d * z.d)) * (x.d * y.d * y.d) := by
    rw [Nat.add_mul]
    congr 1; ac_rfl
  rw [e1, e2, h1]
theorem Fr.mul_one {x : Fr} (hx : x.ok) : x.mul ⟨1, 1⟩ = x := by
  unfold Fr.mul
  show Fr.low (x.n * 1) (x.d * 1) = x
  rw [Nat.mul_one, Nat.mul_one]; exact Fr.low_self hx
theorem Fr.add_zero {x : Fr} (hx : x.ok) : x.add ⟨0, 1⟩ = x := by
  unfold Fr.add
  show Fr.low (x.n * 1 + 0 * x.d) (x.d * 1) = x
  rw [Nat.mul_one, Nat.mul_one, Nat.zero_mul, Nat.add_zero]; exact Fr.low_self hx
theorem Fr.two : (Fr.mk 1 1).add ⟨1, 1⟩ = ⟨2, 1⟩ := by
  show Fr.mk (2 / Nat.gcd 2 1) (1 / Nat.gcd 2 1) = Fr.mk 2 1
  rw [Nat.gcd_one_right]
theorem Fr.add_sub {x y : Fr} (hx : x.ok) (hy : y.ok) : y.n * (x.add y).d ≤ (x.add y).n * y.d ∧ (x.add y).sub y = x := by
  have h1 := low_cr (x.n * y.d + y.n * x.d) (x.d * y.d)
  have hp := (Fr.add_ok hx hy).1
  have hp2 : 0 < (Fr.low (x.n * y.d + y.n * x.d) (x.d * y.d)).d := hp
  have key : y.n * (x.add y).d ≤ (x.add y).n * y.d ∧ ((x.add y).n * y.d - y.n * (x.add y).d) * x.d = x.n * ((x.add y).d * y.d) := by
    show y.n * (Fr.low (x.n * y.d + y.n * x.d) (x.d * y.d)).d ≤ (Fr.low (x.n * y.d + y.n * x.d) (x.d * y.d)).n * y.d ∧ ((Fr.low (x.n * y.d + y.n * x.d) (x.d * y.d)).n * y.d - y.n * (Fr.low (x.n * y.d + y.n * x.d) (x.d * y.d)).d) * x.d = x.n * ((Fr.low (x.n * y.d + y.n * x.d) (x.d * y.d)).d * y.d)
    generalize (Fr.low (x.n * y.d + y.n * x.d) (x.d * y.d)).n = a at *
    generalize (Fr.low (x.n * y.d + y.n * x.d) (x.d * y.d)).d = b at *
    have e : (a * y.d) * x.d = (y.n * b) * x.d + x.n * (b * y.d) := by
      have l : (a * y.d) * x.d = a * (x.d * y.d) := by ac_rfl
      rw [l, h1, Nat.add_mul]
      have e1 : x.n * y.d * b = x.n * (b * y.d) := by ac_rfl
      have e2 : y.n * x.d * b = y.n * b * x.d := by ac_rfl
      rw [e1, e2, Nat.add_comm]
    refine ⟨?_, ?_⟩
    · have : (y.n * b) * x.d ≤ (a * y.d) * x.d := by omega
      exact Nat.le_of_mul_le_mul_right this hx.1
    · rw [Nat.sub_mul]; omega
  refine ⟨key.1, ?_⟩
  have : (x.add y).sub y = Fr.low x.n x.d := by
    unfold Fr.sub
    exact Fr.low_eq (Nat.mul_pos hp hy.1) hx.1 key.2
  rw [this]; exact Fr.low_self hx
theorem Fr.mul_div {x y : Fr} (hx : x.ok) (hy : y.ok) (h0 : 0 < y.n) : (x.mul y).div y = x := by
  have h1 := low_cr (x.n * y.n) (x.d * y.d)
  have hp := (Fr.mul_ok hx hy).1
  have hp2 : 0 < (Fr.low (x.n * y.n) (x.d * y.d)).d := hp
  have : (x.mul y).div y = Fr.low x.n x.d := by
    show Fr.low ((Fr.low (x.n * y.n) (x.d * y.d)).n * y.d) ((Fr.low (x.n * y.n) (x.d * y.d)).d * y.n) = _
    refine Fr.low_eq (Nat.mul_pos hp2 h0) hx.1 ?_
    generalize (Fr.low (x.n * y.n) (x.d * y.d)).n = a at *
    generalize (Fr.low (x.n * y.n) (x.d * y.d)).d = b at *
    have l : a * y.d * x.d = a * (x.d * y.d) := by ac_rfl
    rw [l, h1]; ac_rfl
  rw [this]; exact Fr.low_self hx
/-- the order does not turn with a sum: cross products -/
theorem Fr.order_add {x y z : Fr} (hx : x.ok) (hy : y.ok) (hz : z.ok) : ∃ k m : Nat, 0 < k ∧ 0 < m ∧ ∃ t, m * ((x.add z).n * (y.add z).d) = k * (x.n * y.d) + t ∧ m * ((y.add z).n * (x.add z).d) = k * (y.n * x.d) + t := by
  have h1 := low_cr (x.n * z.d + z.n * x.d) (x.d * z.d)
  have h2 := low_cr (y.n * z.d + z.n * y.d) (y.d * z.d)
  have p1 : 0 < (Fr.low (x.n * z.d + z.n * x.d) (x.d * z.d)).d := (Fr.add_ok hx hz).1
  have p2 : 0 < (Fr.low (y.n * z.d + z.n * y.d) (y.d * z.d)).d := (Fr.add_ok hy hz).1
  show ∃ k m : Nat, 0 < k ∧ 0 < m ∧ ∃ t, m * ((Fr.low (x.n * z.d + z.n * x.d) (x.d * z.d)).n * (Fr.low (y.n * z.d + z.n * y.d) (y.d * z.d)).d) = k * (x.n * y.d) + t ∧ m * ((Fr.low (y.n * z.d + z.n * y.d) (y.d * z.d)).n * (Fr.low (x.n * z.d + z.n * x.d) (x.d * z.d)).d) = k * (y.n * x.d) + t
  generalize (Fr.low (x.n * z.d + z.n * x.d) (x.d * z.d)).n = a at *
  generalize (Fr.low (x.n * z.d + z.n * x.d) (x.d * z.d)).d = b at *
  generalize (Fr.low (y.n * z.d + z.n * y.d) (y.d * z.d)).n = c at *
  generalize (Fr.low (y.n * z.d + z.n * y.d) (y.d * z.d)).d = e at *
  -- a * (x.d * z.d) = (x.n * z.d + z.n * x.d) * b ; c * (y.d * z.d) = (y.n * z.d + z.n * y.d) * e
  refine ⟨b * e * z.d * z.d, x.d * z.d * y.d * z.d * 1, Nat.mul_pos (Nat.mul_pos (Nat.mul_pos p1 p2) hz.1) hz.1, by have := Nat.mul_pos (Nat.mul_pos (Nat.mul_pos hx.1 hz.1) hy.1) hz.1; omega, z.n * x.d * b * e * y.d * z.d, ?_, ?_⟩
  · have l : x.d * z.d * y.d * z.d * 1 * (a * e) = (a * (x.d * z.d)) * (e * y.d * z.d) := by rw [Nat.mul_one]; ac_rfl
    rw [l, h1, Nat.add_mul, Nat.add_mul]
    congr 1 <;> ac_rfl
  · have l : x.d * z.d * y.d * z.d * 1 * (c * b) = (c * (y.d * z.d)) * (b * x.d * z.d) := by rw [Nat.mul_one]; ac_rfl
    rw [l, h2, Nat.add_mul, Nat.add_mul]
    congr 1 <;> ac_rfl
end Go.Proofs.YtkkpfoidppjbdaaDoor.FRP
