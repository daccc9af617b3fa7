/-
  NatEuclid: the walk.
-/
import Derived.Test.YtkkpfoidppjbdaaDoorNatRing
namespace Go.Proofs.YtkkpfoidppjbdaaDoor
set_option linter.unusedVariables false
open Go.RowKit ML FM ND

theorem strD_inj {x y : Nat} (h : strD x = strD y) : x = y := by rw [← dv_strD x, ← dv_strD y, h]
/-- is it nothing, as text? -/
theorem ne_str0 {x : Nat} (h : x ≠ 0) : strD x ≠ [48] := fun e => h (strD_inj (e.trans str0))
set_option maxHeartbeats 8000000 in
set_option maxRecDepth 100000 in
theorem natEuclid_any (A B C : Bytes) (w : World) (hA : A.length < 140737488355328) (hB : B.length < 140737488355328) (hC : C.length < 140737488355328) :
    Calls Tryd.prog 6 #[.string ⟨A.toArray⟩, .string ⟨B.toArray⟩, .string ⟨C.toArray⟩] w fun e w' => e = .returned (.bool true) ∧ Below w.heap.size w w' := by
  have QS := Lib.hid (fun W (h : W.heap[w.heap.size]? = some (.cells #[.string ⟨A.toArray⟩, .string ⟨B.toArray⟩, .string ⟨C.toArray⟩] 9 (0, 0))) =>
    (show Calls Tryd.prog 10 #[.slice (some ⟨w.heap.size, 0, none⟩) 3 3, .int .i64 1900] W fun e w' => e = .returned (.bool (smallB [A, B, C] 1900)) ∧ w' = W from
      lawSmall_any [A, B, C] 1900 w.heap.size 9 (0, 0) _ 3 W h (strs3 A B C) (fun F hF => by
        simp only [List.mem_cons, List.not_mem_nil, or_false] at hF
        rcases hF with rfl | rfl | rfl <;> assumption) (show 3 < 1099511627776 by decide)))
  cases hs : smallB [A, B, C] 1900 with
  | false =>
    rw [hs] at QS
    clear hs hA hB hC
    go_enter Tryd.func6, Tryd.ntmps6
    go_wp2_with (go_at_call 10; refine (QS.out _ (heap_at rfl)).mono ?_; rintro e w1 ⟨rfl, rfl⟩)
    go_ret
    exact ⟨rfl, (Below.refl _ _).alloc (Nat.le_refl _) _⟩
  | true =>
    rw [hs] at QS
    obtain ⟨a, ha, na⟩ := smallB_yes hs (F := A) (by simp)
    obtain ⟨b, hb, nb⟩ := smallB_yes hs (F := B) (by simp)
    obtain ⟨k, hk, nk⟩ := smallB_yes hs (F := C) (by simp)
    by_cases hb0 : b = 0
    · have hB0 : B = [48] := by rw [hb, hb0]; rfl
      subst hB0
      clear hs hA hB hC ha hb hk hb0
      go_enter Tryd.func6, Tryd.ntmps6
      go_wp2_with (go_at_call 10; refine (QS.out _ (heap_at rfl)).mono ?_; rintro e w1 ⟨rfl, rfl⟩)
      go_ret
      exact ⟨rfl, (Below.refl _ _).alloc (Nat.le_refl _) _⟩
    have hbp : 0 < b := by omega
    have u1 := na.up (show 1900 ≤ 4000 by decide)
    have u2 := nb.up (show 1900 ≤ 4000 by decide)
    have u3 := nk.up (show 1900 ≤ 4000 by decide)
    have n0 : NB 4000 0 := NB.zero _
    have nq : NB 4000 (a / b) := u1.div b
    have nr : NB 4000 (a % b) := u1.mod b
    have nqb : NB 4000 (a / b * b) := u1.mono (Nat.div_mul_le_self a b)
    have ng : NB 4000 (Nat.gcd a b) := u2.mono (Nat.le_of_dvd hbp (Nat.gcd_dvd_right a b))
    have nka := (nk.mul na).up (show 1900 + 1900 ≤ 4000 by decide)
    have nkb := (nk.mul nb).up (show 1900 + 1900 ≤ 4000 by decide)
    have hgp : 0 < Nat.gcd a b := Nat.gcd_pos_of_pos_right a hbp
    obtain ⟨Q, hQ⟩ : ∃ Q, Q = strD (a / b) := ⟨_, rfl⟩
    obtain ⟨R, hR⟩ : ∃ R, R = strD (a % b) := ⟨_, rfl⟩
    obtain ⟨M, hM⟩ : ∃ M, M = strD (a / b * b) := ⟨_, rfl⟩
    obtain ⟨G, hG⟩ : ∃ G, G = strD (Nat.gcd a b) := ⟨_, rfl⟩
    obtain ⟨N, hN⟩ : ∃ N, N = strD (k * a) := ⟨_, rfl⟩
    obtain ⟨O, hO⟩ : ∃ O, O = strD (k * b) := ⟨_, rfl⟩
    obtain ⟨U, hU⟩ : ∃ U, U = strD (k * Nat.gcd a b) := ⟨_, rfl⟩
    obtain ⟨V, hV⟩ : ∃ V, V = strD (a / Nat.gcd a b) := ⟨_, rfl⟩
    obtain ⟨X, hX⟩ : ∃ X, X = strD (b / Nat.gcd a b) := ⟨_, rfl⟩
    have le := Nat.le_refl w.heap.size
    have hgb : b % Nat.gcd a b = 0 := Nat.mod_eq_zero_of_dvd (Nat.gcd_dvd_right a b)
    have hga : a % Nat.gcd a b = 0 := Nat.mod_eq_zero_of_dvd (Nat.gcd_dvd_left a b)
    have e1 : Nat.gcd b (a % b) = Nat.gcd a b := by rw [Nat.gcd_comm, ← Nat.gcd_rec, Nat.gcd_comm]
    have e2 : a / b * b + a % b = a := by rw [Nat.mul_comm]; exact Nat.div_add_mod a b
    have e3 : Nat.gcd (k * a) (k * b) = k * Nat.gcd a b := Nat.gcd_mul_left k a b
    have d1 := Lib.hid (acc le (divT (H := Q) (J := R) ha hb hQ hR u1 u2 hbp))
    have p1 := Lib.hid (acc le (lawProduct_any (H := M) hQ hb hM nq u2))
    have s1 := Lib.hid (acc le (lawSum_any (H := A) hM hR (by rw [e2]; exact ha) nqb nr))
    have c1 := Lib.hid (acc le (cmpT hR hb nr u2))
    rw [NL.cmpI_lt (Nat.mod_lt a hbp)] at c1
    have g1 := Lib.hid (acc le (gcdT (H := G) ha hb hG u1 u2))
    have g2 := Lib.hid (acc le (gcdT (H := G) hb hR (by rw [e1]; exact hG) u2 nr))
    have d2 := Lib.hid (acc le (divT (H := V) (J := [48]) ha hG hV (by rw [hga]; rfl) u1 ng hgp))
    have d3 := Lib.hid (acc le (divT (H := X) (J := [48]) hb hG hX (by rw [hgb]; rfl) u2 ng hgp))
    have p2 := Lib.hid (acc le (lawProduct_any (H := N) hk ha hN u3 u1))
    have p3 := Lib.hid (acc le (lawProduct_any (H := O) hk hb hO u3 u2))
    have g3 := Lib.hid (acc le (gcdT (H := U) hN hO (by rw [e3]; exact hU) nka nkb))
    have p4 := Lib.hid (acc le (lawProduct_any (H := U) hk hG hU u3 ng))
    have hB0 : ¬ B = [48] := by rw [hb]; exact ne_str0 hb0
    have hB1 : (B == [48]) = false := by rw [beq_eq_false_iff_ne]; exact hB0
    have hG0 : ¬ G = [] := by rw [hG]; exact strD_ne _
    have hG1 : (G == []) = false := by rw [beq_eq_false_iff_ne]; exact hG0
    have hG2 : G.isEmpty = false := by rw [List.isEmpty_eq_false_iff]; exact hG0
    clear hs hA hB hC ha hb hk na nb nk u1 u2 u3 n0 nq nr nqb ng nka nkb hgp hQ hR hM hG hN hO hU hV hX le hgb hga e1 e2 e3 hb0 hbp
    go_enter Tryd.func6, Tryd.ntmps6
    go_upto_region 3 with (go_at_call 10; refine (QS.out _ (heap_at rfl)).mono ?_; rintro e w1 ⟨rfl, rfl⟩)
    refine wp_abs (fun w1 => Below w.heap.size w w1) ((Below.refl _ _).alloc (Nat.le_refl _) _) (fun w1 h1 => ?_)
    go_upto_region 9 with (first
      | (go_at_call 27; refine (d1.out _ (by assumption)).mono ?_; rintro e w2 ⟨rfl, h2⟩)
      | (go_at_call 11; refine (s1.out _ (by assumption)).mono ?_; rintro e w2 ⟨rfl, h2⟩)
      | (go_at_call 12; refine (p1.out _ (by assumption)).mono ?_; rintro e w2 ⟨rfl, h2⟩)
      | (go_at_call 22; refine (c1.out _ (by assumption)).mono ?_; rintro e w2 ⟨rfl, h2⟩))
    refine wp_abs (fun w1 => Below w.heap.size w w1) (by assumption) (fun w1 h1 => ?_)
    go_upto_region 17 with (first
      | (go_at_call 25; (first | (with_reducible refine (g1.out _ (by assumption)).mono ?_) | (with_reducible refine (g2.out _ (by assumption)).mono ?_)); rintro e w2 ⟨rfl, h2⟩)
      | (go_at_call 27; (first | (with_reducible refine (d2.out _ (by assumption)).mono ?_) | (with_reducible refine (d3.out _ (by assumption)).mono ?_)); rintro e w2 ⟨rfl, h2⟩))
    refine wp_abs (fun w1 => Below w.heap.size w w1) (by assumption) (fun w1 h1 => ?_)
    go_wp2_with (first
      | (go_at_call 12; (first | (with_reducible refine (p2.out _ (by assumption)).mono ?_) | (with_reducible refine (p3.out _ (by assumption)).mono ?_) | (with_reducible refine (p4.out _ (by assumption)).mono ?_)); rintro e w2 ⟨rfl, h2⟩)
      | (go_at_call 25; refine (g3.out _ (by assumption)).mono ?_; rintro e w2 ⟨rfl, h2⟩))
    go_ret
    exact ⟨rfl, by assumption⟩
end Go.Proofs.YtkkpfoidppjbdaaDoor
