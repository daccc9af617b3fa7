/-
  Chapter 13: cmp.Compare of strings and of ints; the least of ints.
-/
import Derived.Test.YtnohcdpnnhmpfaaGreatDoorCtM
import Derived.Test.YtnohcdpnnhmpfaaGreatDoorCtP
namespace Go.Proofs.YtnohcdpnnhmpfaaGreatDoor
set_option linter.unusedVariables false
set_option linter.unusedSimpArgs false
open Go.RowKit ML FM AU CT

@[go_sem] theorem binOp_string_gtr (t : TypeId) (x y : List UInt8) : binOp .gtr t (.string ⟨x.toArray⟩) (.string ⟨y.toArray⟩) = pure (.bool (Op.bytesLess y x)) := by
  rw [← bl_gt]
  simp [binOp, Op.stringOp]
set_option maxHeartbeats 1000000 in
set_option maxRecDepth 100000 in
theorem nanS_any (x : Bytes) (w : World) : Calls Tryz.prog 115 #[.string ⟨x.toArray⟩] w fun e w' => e = .returned (.bool false) ∧ w = w' := by
  have h : (x != x) = false := bne_self_eq_false x
  go_enter Tryz.func115, Tryz.ntmps115
  go_wp2_with fail
  go_ret
  exact ⟨rfl, rfl⟩
set_option maxHeartbeats 1000000 in
set_option maxRecDepth 100000 in
theorem nanI_any (x : Int) (w : World) : Calls Tryz.prog 143 #[.int .i64 x] w fun e w' => e = .returned (.bool false) ∧ w = w' := by
  have h : (x != x) = false := bne_self_eq_false x
  go_enter Tryz.func143, Tryz.ntmps143
  go_wp2_with fail
  go_ret
  exact ⟨rfl, rfl⟩
set_option maxHeartbeats 1000000 in
set_option maxRecDepth 100000 in
theorem cmpS_any (x y : Bytes) (w : World) : Calls Tryz.prog 68 #[.string ⟨x.toArray⟩, .string ⟨y.toArray⟩] w fun e w' => e = .returned (.int .i64 (cmpB x y)) ∧ w = w' := by
  have Q := Lib.hid (fun x w => nanS_any x w)
  have HC := Lib.hid (show cmpB x y = if Op.bytesLess x y = true then -1 else if Op.bytesLess y x = true then 1 else 0 from rfl)
  cases h1 : Op.bytesLess x y with
  | true =>
    rw [h1] at HC
    go_enter Tryz.func68, Tryz.ntmps68
    go_wp2_with (go_at_call 115; refine (Q.out _ _).mono ?_; rintro e w1 ⟨rfl, rfl⟩)
    go_ret
    exact ⟨by rw [HC.out]; rfl, rfl⟩
  | false =>
    cases h2 : Op.bytesLess y x with
    | true =>
      rw [h1, h2] at HC
      go_enter Tryz.func68, Tryz.ntmps68
      go_wp2_with (go_at_call 115; refine (Q.out _ _).mono ?_; rintro e w1 ⟨rfl, rfl⟩)
      go_ret
      exact ⟨by rw [HC.out]; rfl, rfl⟩
    | false =>
      rw [h1, h2] at HC
      go_enter Tryz.func68, Tryz.ntmps68
      go_wp2_with (go_at_call 115; refine (Q.out _ _).mono ?_; rintro e w1 ⟨rfl, rfl⟩)
      go_ret
      exact ⟨by rw [HC.out]; rfl, rfl⟩
def cmpI (x y : Int) : Int := if x < y then -1 else if y < x then 1 else 0
set_option maxHeartbeats 1000000 in
set_option maxRecDepth 100000 in
theorem cmpI_any (x y : Int) (w : World) : Calls Tryz.prog 101 #[.int .i64 x, .int .i64 y] w fun e w' => e = .returned (.int .i64 (cmpI x y)) ∧ w = w' := by
  have Q := Lib.hid (fun x w => nanI_any x w)
  have HC := Lib.hid (show cmpI x y = if x < y then -1 else if y < x then 1 else 0 from rfl)
  by_cases h1 : x < y
  · have d1 : decide (x < y) = true := decide_eq_true h1
    have HD := Lib.hid (HC.out.trans (if_pos h1))
    clear h1
    go_enter Tryz.func101, Tryz.ntmps101
    go_wp2_with (go_at_call 143; refine (Q.out _ _).mono ?_; rintro e w1 ⟨rfl, rfl⟩)
    go_ret
    exact ⟨by rw [HD.out]; rfl, rfl⟩
  · have d1 : decide (x < y) = false := decide_eq_false h1
    by_cases h2 : y < x
    · have d2 : decide (y < x) = true := decide_eq_true h2
      have HD := Lib.hid (HC.out.trans ((if_neg h1).trans (if_pos h2)))
      clear h1 h2
      go_enter Tryz.func101, Tryz.ntmps101
      go_wp2_with (go_at_call 143; refine (Q.out _ _).mono ?_; rintro e w1 ⟨rfl, rfl⟩)
      go_ret
      exact ⟨by rw [HD.out]; rfl, rfl⟩
    · have d2 : decide (y < x) = false := decide_eq_false h2
      have HD := Lib.hid (HC.out.trans ((if_neg h1).trans (if_neg h2)))
      clear h1 h2
      go_enter Tryz.func101, Tryz.ntmps101
      go_wp2_with (go_at_call 143; refine (Q.out _ _).mono ?_; rintro e w1 ⟨rfl, rfl⟩)
      go_ret
      exact ⟨by rw [HD.out]; rfl, rfl⟩
/-- is one of them below nought? -/
def negB (L : List Int) : Bool := L.any fun x => decide (x < 0)
/-- m is the least of L -/
structure Least (L : List Int) (m : Int) : Prop where
  mem : m ∈ L
  le : ∀ x ∈ L, m ≤ x
theorem Least.snoc {L : List Int} {m : Int} (h : Least L m) (x : Int) : Least (L ++ [x]) (if x < m then x else m) := by
  refine ⟨?_, fun y hy => ?_⟩
  · by_cases hx : x < m
    · rw [if_pos hx]; simp
    · rw [if_neg hx]; exact List.mem_append_left _ h.mem
  · rcases List.mem_append.1 hy with h1 | h1
    · have := h.le y h1; split <;> omega
    · obtain rfl : y = x := by simpa using h1
      split <;> omega
theorem Least.neg {L : List Int} {m : Int} (h : Least L m) : decide (m < 0) = negB L := by
  unfold negB
  rw [Bool.eq_iff_iff, decide_eq_true_eq, List.any_eq_true]
  constructor
  · intro hm; exact ⟨m, h.mem, by simpa using hm⟩
  · rintro ⟨x, hx, hl⟩
    have := h.le x hx
    have hl : x < 0 := by simpa using hl
    omega
set_option maxHeartbeats 2000000 in
set_option maxRecDepth 100000 in
theorem min_any (oa : Option Addr) (L : List Int) (cap : Nat) (w : World) (h : IsAt w oa L) (h0 : 0 < L.length) (hl : L.length < 9223372036854775807) :
    Calls Tryz.prog 99 #[.slice oa L.length cap] w fun e w' => (∃ m, e = .returned (.int .i64 m) ∧ Least L m) ∧ w = w' := by
  obtain ⟨a, rfl, hab, hac⟩ := h.cells 0 h0
  have H := Lib.hid h
  have d0 : decide ((L.length : Int) < 1) = false := decide_eq_false (by omega)
  have d1 : decide (L.length < 1) = false := decide_eq_false (by omega)
  have hz : (0 : Int) < (L.length : Int) := by omega
  have hac2 : w.cell? a = some (.int .i64 L[0]) := by have := hac; rwa [show a.add 0 = a from by simp [Addr.add]] at this
  clear h
  have HS := Lib.hid (show Least (L.take 1) L[0] from ⟨by rw [List.take_succ_eq_append_getElem h0]; simp, fun x hx => by rw [List.take_succ_eq_append_getElem h0] at hx; simp at hx; omega⟩)
  generalize L[0] = x0 at *
  go_enter Tryz.func99, Tryz.ntmps99
  go_wp2_with fail
  clear hac hac2 d0 d1 hz
  go_loop [3, 4] (fun v i => ∃ (k : Nat) (m : Int), 1 ≤ k ∧ k ≤ L.length ∧ i = .int .i64 k ∧ v = .int .i64 m ∧ Least (L.take k) m) (fun _ i => L.length - (intOf i).toNat)
  case atStart => exact ⟨1, x0, by omega, by omega, rfl, rfl, HS.out⟩
  case round =>
  obtain ⟨k, m, hk1, hk, rfl, rfl, hm⟩ := hrel
  have HM := Lib.hid hm
  clear hm
  by_cases hlt : k < L.length
  · have dk : decide ((k : Int) < (L.length : Int)) = true := decide_eq_true (by omega)
    have dk2 : decide (k < L.length) = true := decide_eq_true hlt
    have hki : (k : Int) < (L.length : Int) := by omega
    obtain ⟨b, hoa, hab2, hac2⟩ := H.out.cells k hlt
    obtain rfl : a = b := by injection hoa
    have HN := Lib.hid (show Least (L.take (k + 1)) (if L[k] < m then L[k] else m) by rw [List.take_succ_eq_append_getElem hlt]; exact HM.out.snoc _)
    generalize L[k] = y at *
    go_wp2_with fail
    go_round
    case rel => exact ⟨k + 1, if y < m then y else m, by omega, by omega, by go_num, rfl, HN.out⟩
    case measure => simp [intOf]; omega
  · have dk : decide ((k : Int) < (L.length : Int)) = false := decide_eq_false (by omega)
    have dk2 : decide (k < L.length) = false := decide_eq_false hlt
    obtain rfl : k = L.length := by omega
    rw [List.take_length] at HM
    go_wp2_with fail
    go_ret
    exact ⟨⟨m, rfl, HM.out⟩, rfl⟩
end Go.Proofs.YtnohcdpnnhmpfaaGreatDoor
