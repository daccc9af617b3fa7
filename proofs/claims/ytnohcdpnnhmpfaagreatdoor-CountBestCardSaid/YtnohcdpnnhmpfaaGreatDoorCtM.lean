/-
  Chapter 13: lists of ints in memory; the small callees. (Turned from AuM.)
-/
import Derived.Test.YtnohcdpnnhmpfaaGreatDoorBMem
import Derived.Test.YtnohcdpnnhmpfaaGreatDoorBytes
import Derived.Deep.MidRow
import Derived.Deep.Fields
import Derived.Laws.OwnMore
import Derived.Deep.AppendLies
import Derived.Deep.RegionWith
import Derived.Deep.DeepCutAuto
namespace Go.Proofs.YtnohcdpnnhmpfaaGreatDoor
set_option linter.unusedVariables false
set_option linter.unusedSimpArgs false
open Go.RowKit ML FM

namespace AU
def ivals (L : List Int) : List Value := L.map fun v => Value.int .i64 v
theorem ivals_append (A B : List Int) : ivals A ++ ivals B = ivals (A ++ B) := by simp [ivals]
theorem ivals_one (L : List Int) : ∀ v ∈ ivals L, v.oneCell' = true := by
  intro v hv; simp only [ivals, List.mem_map] at hv; obtain ⟨x, _, rfl⟩ := hv; rfl
/-- ints in memory, behind one another -/
structure IsAt (w : World) (oa : Option Addr) (L : List Int) : Prop where
  cells : ∀ i (h : i < L.length), ∃ a, oa = some a ∧ a.block < w.heap.size ∧ w.cell? (a.add i) = some (.int .i64 L[i])
theorem IsAt.below {w w1 : World} {oa : Option Addr} {L : List Int} (h : IsAt w oa L) (hb : Below w.heap.size w w1) : IsAt w1 oa L := ⟨fun i hi => by
  obtain ⟨a, h1, h2, h3⟩ := h.cells i hi
  exact ⟨a, h1, Nat.lt_of_lt_of_le h2 hb.size, by rw [hb.cell (by rw [addr_block]; exact h2)]; exact h3⟩⟩
theorem IsAt.take {w : World} {oa : Option Addr} {L : List Int} (h : IsAt w oa L) (k : Nat) : IsAt w oa (L.take k) := ⟨fun i hi => by
  have hi2 : i < L.length := by rw [List.length_take] at hi; omega
  obtain ⟨a, h1, h2, h3⟩ := h.cells i hi2
  exact ⟨a, h1, h2, by rw [h3]; simp⟩⟩
theorem IsAt.drew {w : World} {oa : Option Addr} {L : List Int} (h : IsAt w oa L) : IsAt w.drew oa L := ⟨h.cells⟩
theorem isAt_own {w : World} {base : Nat} {e : TypeId} {v : Value} {n : Nat} {L : List Int} (h : w.ownsRow base e 1 v n (ivals L)) : ∃ oa cap, v = .slice oa L.length cap ∧ L.length ≤ cap ∧ IsAt w oa L := by
  have hl : L.length = n := by have := h.1; simp [ivals] at this; omega
  rcases h.2 with ⟨hv, h0⟩ | ⟨g, cap, cur, hv, hb, hg, hnc, _, hc, ht⟩
  · have : L = [] := List.length_eq_zero_iff.1 (by omega)
    subst this
    exact ⟨none, 0, hv, Nat.le_refl _, ⟨fun i hi => by simp at hi⟩⟩
  · refine ⟨some ⟨g, 0, none⟩, cap, by rw [hl]; exact hv, by rw [hl]; exact hnc, ⟨fun i hi => ⟨_, rfl, lt_of_heap hg, ?_⟩⟩⟩
    exact h.cells (g := g) (by rw [hv]; rfl) i (.int .i64 L[i]) (by simp [ivals, hi])
def fcell (p : Bytes × Bytes) : List Value := [.string ⟨p.1.toArray⟩, .string ⟨p.2.toArray⟩]
def fvals (F : List (Bytes × Bytes)) : List Value := F.flatMap fcell
theorem fvals_append (A B : List (Bytes × Bytes)) : fvals A ++ fvals B = fvals (A ++ B) := by simp [fvals]
theorem length_fvals (F : List (Bytes × Bytes)) : (fvals F).length = F.length * 2 := by
  unfold fvals
  induction F with
  | nil => rfl
  | cons p r ih => rw [List.flatMap_cons, List.length_append, ih, List.length_cons]; simp [fcell]; omega
theorem fvals_one (F : List (Bytes × Bytes)) : ∀ v ∈ fvals F, v.oneCell' = true := by
  intro v hv
  unfold fvals at hv
  obtain ⟨p, _, h⟩ := List.mem_flatMap.1 hv
  simp only [fcell, List.mem_cons, List.not_mem_nil, or_false] at h
  rcases h with rfl | rfl <;> rfl
theorem fvals_get (F : List (Bytes × Bytes)) : ∀ (i : Nat) (h : i < F.length) (j : Nat) (v : Value), (fcell F[i])[j]? = some v → (fvals F)[i * 2 + j]? = some v := by
  induction F with
  | nil => intro i h; simp at h
  | cons p r ih =>
    intro i h j v hj
    have hj2 : j < 2 := by have := (List.getElem?_eq_some_iff.1 hj).1; simpa [fcell] using this
    unfold fvals
    rw [List.flatMap_cons]
    cases i with
    | zero =>
      rw [List.getElem?_append_left (by simp [fcell]; omega)]
      simpa using hj
    | succ i =>
      rw [List.getElem?_append_right (by simp [fcell]; omega)]
      have e : (i + 1) * 2 + j - (fcell p).length = i * 2 + j := by simp [fcell]; omega
      rw [e]
      exact ih i (by simpa using h) j v (by simpa using hj)
/-- fractions' texts in memory, behind one another -/
structure FsAt (w : World) (oa : Option Addr) (F : List (Bytes × Bytes)) : Prop where
  cells : ∀ i (h : i < F.length), ∃ a, oa = some a ∧ a.block < w.heap.size ∧ ∀ j v, (fcell F[i])[j]? = some v → w.cell? ((a.add (i * 2)).add j) = some v
theorem FsAt.below {w w1 : World} {oa : Option Addr} {F : List (Bytes × Bytes)} (h : FsAt w oa F) (hb : Below w.heap.size w w1) : FsAt w1 oa F := ⟨fun i hi => by
  obtain ⟨a, h1, h2, h3⟩ := h.cells i hi
  exact ⟨a, h1, Nat.lt_of_lt_of_le h2 hb.size, fun j v hj => by rw [hb.cell (by rw [addr_block, addr_block]; exact h2)]; exact h3 j v hj⟩⟩
theorem FsAt.drew {w : World} {oa : Option Addr} {F : List (Bytes × Bytes)} (h : FsAt w oa F) : FsAt w.drew oa F := ⟨h.cells⟩
theorem fsAt_own {w : World} {base : Nat} {e : TypeId} {v : Value} {n : Nat} {F : List (Bytes × Bytes)} (h : w.ownsRow base e 2 v n (fvals F)) : ∃ oa cap, v = .slice oa F.length cap ∧ F.length ≤ cap ∧ FsAt w oa F := by
  have hl : F.length = n := by have := h.1; rw [length_fvals] at this; omega
  rcases h.2 with ⟨hv, h0⟩ | ⟨g, cap, cur, hv, hb, hg, hnc, _, hc, ht⟩
  · have : F = [] := List.length_eq_zero_iff.1 (by omega)
    subst this
    exact ⟨none, 0, hv, Nat.le_refl _, ⟨fun i hi => by simp at hi⟩⟩
  · refine ⟨some ⟨g, 0, none⟩, cap, by rw [hl]; exact hv, by rw [hl]; exact hnc, ⟨fun i hi => ⟨_, rfl, lt_of_heap hg, fun j v hj => ?_⟩⟩⟩
    rw [Go.Deep.add_add]
    exact h.cells (g := g) (by rw [hv]; rfl) (i * 2 + j) v (fvals_get F i hi j v hj)
end AU
open AU
/-- the worlds that are w0 below M, but for block b -/
def GrT (b M : Nat) (w0 : World) : Type := { w' : World // ∀ k, k < M → k ≠ b → w'.heap[k]? = w0.heap[k]? }
instance {b M : Nat} {w0 : World} : Nonempty (GrT b M w0) := ⟨⟨w0, fun _ _ _ => rfl⟩⟩
def GrT.w {b M : Nat} {w0 : World} (x : GrT b M w0) : World := x.1
@[go_sem] theorem GrT.cell {b M : Nat} {w0 : World} (x : GrT b M w0) (k o : Nat) (h : k < M) (hne : k ≠ b) : x.w.cell? ⟨k, o, none⟩ = w0.cell? ⟨k, o, none⟩ := World.cell?_of_block (x.2 k h hne)
theorem GrT.block {b M : Nat} {w0 w' : World} (h : ∃ x : GrT b M w0, w' = x.w) {k : Nat} {o : Obj} (hk : k < M) (hne : k ≠ b) (ho : w0.heap[k]? = some o) : w'.heap[k]? = some o := by
  obtain ⟨x, rfl⟩ := h
  exact (x.2 k hk hne).trans ho
theorem grT_of {b M : Nat} {w0 w' : World} (hM : M = w0.heap.size) (h : w0.grownBy w' (some b)) : ∃ x : GrT b M w0, w' = x.w := ⟨⟨w', fun k hk hne => h.block k (by rw [← hM]; exact hk) (fun he => hne (by injection he))⟩, rfl⟩
theorem news_blk {w : World} {g : Nat} {news : List Value} {t : TypeId} (h : w.heap[g]? = some (.cells news.toArray t (0, 0))) : ∀ j u, news[j]? = some u → w.cell? ((⟨g, 0, none⟩ : Addr).add j) = some u := fun j u hj => by
  rw [Addr.add_mid]
  exact rangeAt_block h j u hj
theorem grown_only {b : Nat} {w w1 : World} (h : Only b w w1) : w.grownBy w1 (some b) := ⟨h.os, h.tape, h.output, by rw [h.size]; exact Nat.le_refl _, fun k _ hk => h.block k (fun he => hk (by rw [he]))⟩
theorem grown_below {b : Nat} {w w1 : World} (h : Below w.heap.size w w1) : w.grownBy w1 (some b) := ⟨h.os, h.tape, h.output, h.size, fun k hk _ => h.block k hk⟩

set_option maxHeartbeats 2000000 in
set_option maxRecDepth 100000 in
theorem refIn_any (oa : Option Addr) (L : List Int) (cap : Nat) (x : Int) (w : World) (h : IsAt w oa L) (hl : L.length < 9223372036854775808) :
    Calls Tryz.prog 38 #[.slice oa L.length cap, .int .i64 x] w fun e w' => e = .returned (.bool (decide (x ∈ L))) ∧ w = w' := by
  have H := Lib.hid h
  clear h
  go_enter Tryz.func38, Tryz.ntmps38
  go_upto_region 2 with (fail)
  go_loop [9] (fun i => ∃ k : Nat, k ≤ L.length ∧ i = .int .i64 k ∧ x ∉ L.take k) (fun i => L.length - (intOf i).toNat)
  case atStart => exact ⟨0, by omega, rfl, by simp⟩
  case round =>
  obtain ⟨k, hk, rfl, hpre⟩ := hrel
  have HP := Lib.hid hpre
  clear hpre
  by_cases hlt : k < L.length
  · have dk : decide ((k : Int) < (L.length : Int)) = true := decide_eq_true (by omega)
    have dk2 : decide (k < L.length) = true := decide_eq_true hlt
    have hki : (k : Int) < (L.length : Int) := by omega
    obtain ⟨a, hoa, hab, hac⟩ := H.out.cells k hlt
    have hyes := Lib.hid (fun (hb : L[k] = x) => (show decide (x ∈ L) = true from decide_eq_true (hb ▸ List.getElem_mem hlt)))
    have hno := Lib.hid (fun (hb : ¬ L[k] = x) => (show x ∉ L.take (k + 1) by
      rw [List.take_succ_eq_append_getElem hlt, List.mem_append, List.mem_singleton]
      rintro (h | h)
      · exact HP.out h
      · exact hb h.symm))
    subst hoa
    generalize L[k] = y at *
    by_cases he : y = x
    · have h2 := Lib.hid (hyes.out he)
      have d1 : (y == x) = true := by rw [beq_iff_eq]; exact he
      clear he hyes hno
      go_wp2_with fail
      go_ret
      exact ⟨by rw [h2.out]; rfl, rfl⟩
    · have h2 := Lib.hid (hno.out he)
      have d1 : (y == x) = false := by rw [beq_eq_false_iff_ne]; exact he
      clear he hyes hno
      go_wp2_with fail
      go_round
      case rel => exact ⟨k + 1, by omega, by go_num, h2.out⟩
      case measure => simp [intOf]; omega
  · have dk : decide ((k : Int) < (L.length : Int)) = false := decide_eq_false (by omega)
    have dk2 : decide (k < L.length) = false := decide_eq_false hlt
    obtain rfl : k = L.length := by omega
    rw [List.take_length] at HP
    have h2 := Lib.hid (show decide (x ∈ L) = false from decide_eq_false HP.out)
    go_wp2_with fail
    go_ret
    exact ⟨by rw [h2.out]; rfl, rfl⟩
set_option maxHeartbeats 2000000 in
set_option maxRecDepth 100000 in
theorem sameInts_any (oa ob : Option Addr) (L : List Int) (ca cb : Nat) (w : World) (ha : IsAt w oa L) (hb : IsAt w ob L) (hl : L.length < 9223372036854775808) :
    Calls Tryz.prog 19 #[.slice oa L.length ca, .slice ob L.length cb] w fun e w' => e = .returned (.bool true) ∧ Below w.heap.size w w' := by
  have HA := Lib.hid ha
  have HBB := Lib.hid hb
  clear ha hb
  go_enter Tryz.func19, Tryz.ntmps19
  go_upto_region 4 with (fail)
  go_loopw [13] (fun i wr => ∃ k : Nat, k ≤ L.length ∧ i = .int .i64 k ∧ Below w.heap.size w wr) (fun i _ => L.length - (intOf i).toNat)
  case atStart => exact ⟨0, by omega, rfl, Below.refl _ _⟩
  case round =>
  obtain ⟨k, hk, rfl, bel⟩ := hrel
  by_cases hlt : k < L.length
  · have dk : decide ((k : Int) < (L.length : Int)) = true := decide_eq_true (by omega)
    have dk2 : decide (k < L.length) = true := decide_eq_true hlt
    have hki : (k : Int) < (L.length : Int) := by omega
    obtain ⟨a, hoa, hab, hac⟩ := (HA.out.below bel).cells k hlt
    obtain ⟨b, hob, hbb, hbc⟩ := (HBB.out.below bel).cells k hlt
    subst hoa
    subst hob
    have BL := Lib.hid bel
    clear bel
    generalize L[k] = x at *
    go_upto_region 6 with (fail)
    refine Seg.wp_region_segs (fun w' => ∃ m, w' = wr.drewN m) [] [0, 1, 2, 3, 4, 5, 6, 7] 8 (by kernel_rfl) (by kernel_rfl) (fun _ _ d _ _ h => by cases d <;> exact h) (⟨1, rfl⟩) ?_
    simp only [List.map_cons, List.map_nil, Seg.opAt, List.drop_succ_cons, List.drop_zero, Seg.wpSegs, Array.getD_eq_getD_getElem?, List.getElem?_toArray, List.getElem?_cons_succ, List.getElem?_cons_zero, Option.getD_some]
    repeat (any_goals (first | go_big_quiet_step (fail) | quiet_step (fail)))
    refine wpQuiet_nil ?_
    go_wp2_with fail
    go_roundw
    case rel => exact ⟨k + 1, by omega, by go_num, BL.out.drew⟩
    case measure => simp [intOf]; omega
  · have dk : decide ((k : Int) < (L.length : Int)) = false := decide_eq_false (by omega)
    have dk2 : decide (k < L.length) = false := decide_eq_false hlt
    go_wp2_with fail
    go_ret
    exact ⟨rfl, bel⟩
end Go.Proofs.YtnohcdpnnhmpfaaGreatDoor
