/-
  NatRing: the walk.
-/
import Derived.Test.YtkkpfoidppjbdaaDoorNatC
namespace Go.Proofs.YtkkpfoidppjbdaaDoor
set_option linter.unusedVariables false
open Go.RowKit ML FM ND

/-- a callee that leaves alone what was there: told of the world at the start -/
theorem acc {P : Program} {f : FuncId} {args : Array Value} {v : Value} {B : Nat} {w0 : World} (hB : B ≤ w0.heap.size)
    (q : ∀ W, Calls P f args W fun e w' => e = .returned v ∧ Below W.heap.size W w') : ∀ W, Below B w0 W → Calls P f args W fun e w' => e = .returned v ∧ Below B w0 w' :=
  fun W h => (q W).mono fun e w' ⟨he, hb⟩ => ⟨he, h.trans (hb.mono (Nat.le_trans hB h.size))⟩
theorem strs3 (A B C : Bytes) : ∀ i (h : i < [A, B, C].length), (#[Value.string ⟨A.toArray⟩, Value.string ⟨B.toArray⟩, Value.string ⟨C.toArray⟩] : Array Value)[i]? = some (.string ⟨([A, B, C][i]).toArray⟩) := by
  intro i h
  have : i < 3 := h
  match i, h with
  | 0, _ => rfl
  | 1, _ => rfl
  | 2, _ => rfl
theorem str0 : ([48] : Bytes) = strD 0 := rfl
theorem str1 : ([49] : Bytes) = strD 1 := by
  unfold strD digB
  rw [if_neg (by decide), dig_pos (by decide)]
  simp [dig_zero]
theorem str2 : ([50] : Bytes) = strD 2 := by
  unfold strD digB
  rw [if_neg (by decide), dig_pos (by decide)]
  simp [dig_zero]
set_option maxHeartbeats 8000000 in
set_option maxRecDepth 100000 in
theorem natRing_any (A B C : Bytes) (w : World) (hA : A.length < 140737488355328) (hB : B.length < 140737488355328) (hC : C.length < 140737488355328) :
    Calls Tryd.prog 3 #[.string ⟨A.toArray⟩, .string ⟨B.toArray⟩, .string ⟨C.toArray⟩] w fun e w' => e = .returned (.bool true) ∧ Below w.heap.size w w' := by
  have QS := Lib.hid (fun W (h : W.heap[w.heap.size]? = some (.cells #[.string ⟨A.toArray⟩, .string ⟨B.toArray⟩, .string ⟨C.toArray⟩] 9 (0, 0))) =>
    (show Calls Tryd.prog 10 #[.slice (some ⟨w.heap.size, 0, none⟩) 3 3, .int .i64 1300] W fun e w' => e = .returned (.bool (smallB [A, B, C] 1300)) ∧ w' = W from
      lawSmall_any [A, B, C] 1300 w.heap.size 9 (0, 0) _ 3 W h (strs3 A B C) (fun F hF => by
        simp only [List.mem_cons, List.not_mem_nil, or_false] at hF
        rcases hF with rfl | rfl | rfl <;> assumption) (show 3 < 1099511627776 by decide)))
  cases hs : smallB [A, B, C] 1300 with
  | false =>
    rw [hs] at QS
    clear hs hA hB hC
    go_enter Tryd.func3, Tryd.ntmps3
    go_wp2_with (go_at_call 10; refine (QS.out _ (heap_at rfl)).mono ?_; rintro e w1 ⟨rfl, rfl⟩)
    go_ret
    exact ⟨rfl, (Below.refl _ _).alloc (Nat.le_refl _) _⟩
  | true =>
    rw [hs] at QS
    obtain ⟨a, ha, na⟩ := smallB_yes hs (F := A) (by simp)
    obtain ⟨b, hb, nb⟩ := smallB_yes hs (F := B) (by simp)
    obtain ⟨c, hc, nc⟩ := smallB_yes hs (F := C) (by simp)
    have u1 := na.up (show 1300 ≤ 4000 by decide)
    have u2 := nb.up (show 1300 ≤ 4000 by decide)
    have u3 := nc.up (show 1300 ≤ 4000 by decide)
    have n0 : NB 4000 0 := NB.zero _
    have n1 : NB 4000 1 := (NB.one 0).up (by decide)
    have nab := (na.add nb).up (show 1300 + 1300 + 1 ≤ 4000 by decide)
    have nbc := (nb.add nc).up (show 1300 + 1300 + 1 ≤ 4000 by decide)
    have mab := (na.mul nb).up (show 1300 + 1300 ≤ 4000 by decide)
    have mbc := (nb.mul nc).up (show 1300 + 1300 ≤ 4000 by decide)
    have mac := (na.mul nc).up (show 1300 + 1300 ≤ 4000 by decide)
    obtain ⟨S, hS⟩ : ∃ S, S = strD (a + b) := ⟨_, rfl⟩
    obtain ⟨T, hT⟩ : ∃ T, T = strD (b + c) := ⟨_, rfl⟩
    obtain ⟨M, hM⟩ : ∃ M, M = strD (a * b) := ⟨_, rfl⟩
    obtain ⟨N, hN⟩ : ∃ N, N = strD (b * c) := ⟨_, rfl⟩
    obtain ⟨O, hO⟩ : ∃ O, O = strD (a * c) := ⟨_, rfl⟩
    obtain ⟨U, hU⟩ : ∃ U, U = strD (a + b + c) := ⟨_, rfl⟩
    obtain ⟨V, hV⟩ : ∃ V, V = strD (a * b * c) := ⟨_, rfl⟩
    obtain ⟨X, hX⟩ : ∃ X, X = strD (a * (b + c)) := ⟨_, rfl⟩
    have le := Nat.le_refl w.heap.size
    have s1 := Lib.hid (acc le (lawSum_any (H := A) ha str0 (by rw [ha]; rfl) u1 n0))
    have p1 := Lib.hid (acc le (lawProduct_any (H := A) ha str1 (by rw [ha, Nat.mul_one]) u1 n1))
    have p2 := Lib.hid (acc le (lawProduct_any (H := [48]) ha str0 (by rw [Nat.mul_zero]; rfl) u1 n0))
    have s2 := Lib.hid (acc le (lawSum_any (H := [50]) str1 str1 str2 n1 n1))
    have s3 := Lib.hid (acc le (lawSum_any (H := S) ha hb hS u1 u2))
    have s4 := Lib.hid (acc le (lawSum_any (H := S) hb ha (by rw [Nat.add_comm]; exact hS) u2 u1))
    have d1 := Lib.hid (acc le (subT (H := A) hS hb (by rw [Nat.add_sub_cancel]; exact ha) nab u2 (by omega)))
    have p3 := Lib.hid (acc le (lawProduct_any (H := M) ha hb hM u1 u2))
    have p4 := Lib.hid (acc le (lawProduct_any (H := M) hb ha (by rw [Nat.mul_comm]; exact hM) u2 u1))
    have s5 := Lib.hid (acc le (lawSum_any (H := U) hS hc hU nab u3))
    have s6 := Lib.hid (acc le (lawSum_any (H := T) hb hc hT u2 u3))
    have s7 := Lib.hid (acc le (lawSum_any (H := U) ha hT (by rw [← Nat.add_assoc]; exact hU) u1 nbc))
    have p5 := Lib.hid (acc le (lawProduct_any (H := V) hM hc hV mab u3))
    have p6 := Lib.hid (acc le (lawProduct_any (H := N) hb hc hN u2 u3))
    have p7 := Lib.hid (acc le (lawProduct_any (H := V) ha hN (by rw [← Nat.mul_assoc]; exact hV) u1 mbc))
    have p8 := Lib.hid (acc le (lawProduct_any (H := X) ha hT hX u1 nbc))
    have p9 := Lib.hid (acc le (lawProduct_any (H := O) ha hc hO u1 u3))
    have s8 := Lib.hid (acc le (lawSum_any (H := X) hM hO (by rw [← Nat.mul_add]; exact hX) mab mac))
    clear hs hA hB hC ha hb hc na nb nc u1 u2 u3 n0 n1 nab nbc mab mbc mac hS hT hM hN hO hU hV hX le
    go_enter Tryd.func3, Tryd.ntmps3
    go_upto_region 3 with (go_at_call 10; refine (QS.out _ (heap_at rfl)).mono ?_; rintro e w1 ⟨rfl, rfl⟩)
    refine wp_abs (fun w1 => Below w.heap.size w w1) ((Below.refl _ _).alloc (Nat.le_refl _) _) (fun w1 h1 => ?_)
    go_upto_region 5 with (first
      | (go_at_call 11; (first | (with_reducible refine (s1.out _ (by assumption)).mono ?_) | (with_reducible refine (s2.out _ (by assumption)).mono ?_)); rintro e w2 ⟨rfl, h2⟩)
      | (go_at_call 12; (first | (with_reducible refine (p1.out _ (by assumption)).mono ?_) | (with_reducible refine (p2.out _ (by assumption)).mono ?_)); rintro e w2 ⟨rfl, h2⟩))
    refine wp_abs (fun w1 => Below w.heap.size w w1) (by assumption) (fun w1 h1 => ?_)
    go_upto_region 8 with (first
      | (go_at_call 11; (first | (with_reducible refine (s3.out _ (by assumption)).mono ?_) | (with_reducible refine (s4.out _ (by assumption)).mono ?_)); rintro e w2 ⟨rfl, h2⟩)
      | (go_at_call 12; (first | (with_reducible refine (p3.out _ (by assumption)).mono ?_) | (with_reducible refine (p4.out _ (by assumption)).mono ?_)); rintro e w2 ⟨rfl, h2⟩)
      | (go_at_call 13; refine (d1.out _ (by assumption)).mono ?_; rintro e w2 ⟨rfl, h2⟩))
    refine wp_abs (fun w1 => Below w.heap.size w w1) (by assumption) (fun w1 h1 => ?_)
    go_wp2_with (first
      | (go_at_call 11; (first | (with_reducible refine (s3.out _ (by assumption)).mono ?_) | (with_reducible refine (s5.out _ (by assumption)).mono ?_) | (with_reducible refine (s6.out _ (by assumption)).mono ?_) | (with_reducible refine (s7.out _ (by assumption)).mono ?_) | (with_reducible refine (s8.out _ (by assumption)).mono ?_)); rintro e w2 ⟨rfl, h2⟩)
      | (go_at_call 12; (first | (with_reducible refine (p3.out _ (by assumption)).mono ?_) | (with_reducible refine (p5.out _ (by assumption)).mono ?_) | (with_reducible refine (p6.out _ (by assumption)).mono ?_) | (with_reducible refine (p7.out _ (by assumption)).mono ?_) | (with_reducible refine (p8.out _ (by assumption)).mono ?_) | (with_reducible refine (p9.out _ (by assumption)).mono ?_)); rintro e w2 ⟨rfl, h2⟩))
    go_ret
    exact ⟨rfl, by assumption⟩
end Go.Proofs.YtkkpfoidppjbdaaDoor
