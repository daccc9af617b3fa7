/-
  Chapter 13: how lots are compared; the stable sort of twelve options, or fewer.
-/
import Derived.Test.YtnohcdpnnhmpfaaGreatDoorBCm
import Derived.Test.YtnohcdpnnhmpfaaGreatDoorBFb
namespace Go.Proofs.YtnohcdpnnhmpfaaGreatDoor
set_option linter.unusedVariables false
set_option linter.unusedSimpArgs false
open Go.RowKit ML FM AU CT

set_option maxHeartbeats 1000000 in
set_option maxRecDepth 100000 in
theorem drawCmp_any (i j : Nat) (Ls : List Bytes) (p : Nat) (oa : Option Addr) (cap : Nat) (w : World) (hp : w.heap[p]? = some (.cells #[.slice oa Ls.length cap] 22 (0, 0))) (hs : StrsAt w oa Ls) (hi : i < Ls.length) (hj : j < Ls.length) (hl : Ls.length < 9223372036854775808) :
    Calls Tryz.prog 67 #[.int .i64 i, .int .i64 j, .pointer (some ⟨p, 0, none⟩)] w fun e w' => e = .returned (.int .i64 (cmpB Ls[i] Ls[j])) ∧ Below w.heap.size w w' := by
  obtain ⟨q, hoa, hqb, hq⟩ := hs.cells i hi
  obtain ⟨q2, hoa2, hqb2, hq2⟩ := hs.cells j hj
  subst hoa
  obtain rfl : q = q2 := by injection hoa2
  have c1 : w.cell? ⟨p, 0, none⟩ = some (.slice (some q) Ls.length cap) := cell_of_row w p 0 _ _ _ hp
  have Q := Lib.hid (fun w => cmpS_any Ls[i] Ls[j] w)
  have z1 : (i : Int) < (Ls.length : Int) := by omega
  have z2 : (j : Int) < (Ls.length : Int) := by omega
  clear hs hp hoa2 hqb hqb2
  generalize Ls[i] = x at *
  generalize Ls[j] = y at *
  generalize Ls.length = n at *
  go_enter Tryz.func67, Tryz.ntmps67
  go_wp2_with fail
  refine Seg.wp_region_segs (fun w' => ∃ m, w' = w.drewN m) [] [0, 1, 2, 3, 4, 5, 6, 7] 8 (by kernel_rfl) (by kernel_rfl) (fun _ _ d _ _ h => by cases d <;> exact h) (⟨1, rfl⟩) ?_
  simp only [List.map_cons, List.map_nil, Seg.opAt, List.drop_succ_cons, List.drop_zero, Seg.wpSegs, Array.getD_eq_getD_getElem?, List.getElem?_toArray, List.getElem?_cons_succ, List.getElem?_cons_zero, Option.getD_some]
  repeat (any_goals (first | go_big_quiet_step (fail) | quiet_step (fail)))
  refine wpQuiet_nil ?_
  go_wp2_with (go_at_call 68; refine (Q.out _).mono ?_; rintro e w1 ⟨rfl, rfl⟩)
  go_ret
  exact ⟨rfl, (Below.refl _ _).drew⟩
set_option maxHeartbeats 1000000 in
set_option maxRecDepth 100000 in
theorem stable_any (c : Int → Int → Int) (le : Int → Int → Prop) (tr : ∀ a b c, le a b → le b c → le a c) (D : List Int) (X cap base : Nat) (p : Nat) (w : World)
    (HC : ∀ (x y : Int) (w' : World), x ∈ D → y ∈ D → Kept X w w' → Calls Tryz.prog 67 #[.int .i64 x, .int .i64 y, .pointer (some ⟨p, 0, none⟩)] w' fun e w'' => e = .returned (.int .i64 (c x y)) ∧ Below w'.heap.size w' w'')
    (hc : D.Pairwise fun y x => (c x y < 0 → le x y) ∧ (0 ≤ c x y → le y x)) (hl : D.length ≤ 12) (hD : w.ownsRow base 3 1 (.slice (some ⟨X, 0, none⟩) D.length cap) D.length (ivals D)) :
    Calls Tryz.prog 114 #[.slice (some ⟨X, 0, none⟩) D.length cap, .int .i64 D.length, .func (.func 67) #[] #[.pointer (some ⟨p, 0, none⟩)]] w fun e w' => e = .returned (.tuple #[]) ∧ SortedRow le D X cap base 3 w w' := by
  have Q := Lib.hid (insSortD_any c le tr D X cap base p w HC hc (by omega) hD)
  have d1 : decide ((20 : Int) ≤ (D.length : Int)) = false := decide_eq_false (by omega)
  have d2 : decide (20 ≤ D.length) = false := decide_eq_false (by omega)
  have d3 : decide ((20 : Int) < (D.length : Int)) = false := decide_eq_false (by omega)
  have d4 : decide (20 < D.length) = false := decide_eq_false (by omega)
  clear tr HC hc hD
  generalize D.length = n at *
  go_enter Tryz.func114, Tryz.ntmps114
  go_wp2_with fail
  go_loop [7, 8] (fun a b => a = .int .i64 0 ∧ b = .int .i64 20) (fun _ _ => 0)
  case atStart => exact ⟨rfl, rfl⟩
  case round =>
  obtain ⟨rfl, rfl⟩ := hrel
  go_wp2_with (go_at_call 166; refine Q.out.mono ?_; rintro e w1 ⟨rfl, hs⟩; have HS := Lib.hid hs; clear hs)
  go_loop [6] (fun a => a = .int .i64 20) (fun _ => 0)
  case atStart => rfl
  case round =>
  subst hrel
  go_wp2_with fail
  go_end0
  exact ⟨rfl, HS.out⟩
set_option maxHeartbeats 1000000 in
set_option maxRecDepth 100000 in
theorem sortStable_any (c : Int → Int → Int) (le : Int → Int → Prop) (tr : ∀ a b c, le a b → le b c → le a c) (D : List Int) (X cap base : Nat) (p : Nat) (w : World)
    (HC : ∀ (x y : Int) (w' : World), x ∈ D → y ∈ D → Kept X w w' → Calls Tryz.prog 67 #[.int .i64 x, .int .i64 y, .pointer (some ⟨p, 0, none⟩)] w' fun e w'' => e = .returned (.int .i64 (c x y)) ∧ Below w'.heap.size w' w'')
    (hc : D.Pairwise fun y x => (c x y < 0 → le x y) ∧ (0 ≤ c x y → le y x)) (hl : D.length ≤ 12) (hD : w.ownsRow base 3 1 (.slice (some ⟨X, 0, none⟩) D.length cap) D.length (ivals D)) :
    Calls Tryz.prog 66 #[.slice (some ⟨X, 0, none⟩) D.length cap, .func (.func 67) #[] #[.pointer (some ⟨p, 0, none⟩)]] w fun e w' => e = .returned (.tuple #[]) ∧ SortedRow le D X cap base 3 w w' := by
  have Q := Lib.hid (stable_any c le tr D X cap base p w HC hc hl hD)
  clear tr HC hc hD
  generalize D.length = n at *
  go_enter Tryz.func66, Tryz.ntmps66
  go_wp2_with (go_at_call 114; refine Q.out.mono ?_; rintro e w1 ⟨rfl, hs⟩; have HS := Lib.hid hs; clear hs)
  go_end0
  exact ⟨rfl, HS.out⟩
end Go.Proofs.YtnohcdpnnhmpfaaGreatDoor
