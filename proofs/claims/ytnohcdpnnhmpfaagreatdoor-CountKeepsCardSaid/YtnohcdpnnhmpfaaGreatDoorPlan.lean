/-
  A region that draws its order, walked by a plan: quiet operations; one of several that may come up next, each with the plan behind it; a forced tail.
  Conditions: the plan is checked by a Bool ('planB'); the class S holds of the world at the start and behind each operation that is not quiet.
-/
import Derived.Test.YtnohcdpnnhmpfaaGreatDoorBBase
namespace Go
namespace Seg
section
variable {P : Program} {ops : Array Oper} {Q : Exit → Act → World → Prop} {md : Region.Mode} {S : World → Prop}

/-- 'last': quiet operations, then the tail; 'quiet': quiet operations; 'one': j comes up, the others that may are told before; 'alt': j comes up, or what 'r' tells -/
inductive Plan where
  | last (q : List Nat)
  | quiet (q : List Nat) (p : Plan)
  | one (j : Nat) (p : Plan)
  | alt (j : Nat) (p : Plan) (r : Plan)

def Plan.isAlt : Plan → Bool
  | .one _ _ => true
  | .alt _ _ _ => true
  | _ => false

def okPlan (md : Region.Mode) (ops : Array Oper) (n : Nat) : Plan → Nat → Array Bool → List Nat → Bool
  | .last q, f, l, cov => cov.isEmpty && decide (f = q.length) && (match runQ md ops n q l with | some l' => Region.seqB md ops (ops.size - n) n l' | none => false)
  | .quiet q p, f, l, cov => cov.isEmpty && decide (q.length ≤ f) && (match runQ md ops n q l with | some l' => okPlan md ops n p (f - q.length) l' [] | none => false)
  | .one j p, f, l, cov => decide (0 < f) && (Region.ready md ops l).contains j && (Region.ready md ops l).all (fun i => i == j || cov.contains i) && decide (j < n) && okPlan md ops n p (f - 1) (l.setIfInBounds j true) []
  | .alt j p r, f, l, cov => decide (0 < f) && (Region.ready md ops l).contains j && decide (j < n) && okPlan md ops n p (f - 1) (l.setIfInBounds j true) [] && r.isAlt && okPlan md ops n r f l (j :: cov)

def planB (ops : Array Oper) (n : Nat) (p : Plan) : Bool :=
  Region.noSelect ops && decide (n ≤ ops.size) && (decide (n = ops.size) || (Region.sinkB .any ops n && Region.chainB .any ops n)) &&
  okPlan .any ops n p n (Array.replicate ops.size false) []

/-- one operation that comes up: behind it the class is shown anew -/
def wpUp (P : Program) (ops : Array Oper) (Q : Exit → Act → World → Prop) (S : World → Prop) (o : Oper) (N : Act → World → Prop) (a : Act) (w : World) : Prop :=
  ∀ K : Act → World → Prop, (∀ a'' w'', S w'' → N a'' w'' → K a'' w'') → if Region.wanted o (yielded ops a.tmps) then o.wp P a w K Q else K (a.put o.dst undef) w

def wpPlan (P : Program) (ops : Array Oper) (Q : Exit → Act → World → Prop) (S : World → Prop) (tail : List Oper) : Plan → Act → World → Prop
  | .last q, a, w => wpQuiet P ops S (fun a' => wpList P ops Q tail a' w) (q.map (opAt ops)) a
  | .quiet q p, a, w => wpQuiet P ops S (fun a' => wpPlan P ops Q S tail p a' w) (q.map (opAt ops)) a
  | .one j p, a, w => wpUp P ops Q S (opAt ops j) (wpPlan P ops Q S tail p) a w
  | .alt j p r, a, w => wpUp P ops Q S (opAt ops j) (wpPlan P ops Q S tail p) a w ∧ wpPlan P ops Q S tail r a w

theorem wpOp_of_up {j : Nat} {N : Act → World → Prop} {a : Act} {w : World} {G : Act → World → Prop} (h0 : ops[j]? = some (opAt ops j)) (hG : ∀ a'' w'', S w'' → N a'' w'' → G a'' w'') (h : wpUp P ops Q S (opAt ops j) N a w) : wpOp P ops Q j G a w := by
  unfold wpOp
  simp only [h0]
  have h' := h G hG
  split
  · rename_i hw; rw [if_pos hw] at h'; exact .inl h'
  · rename_i hw; rw [if_neg hw] at h'; exact h'

theorem run_plan {n : Nat} {tail : List Oper} (hsel : Region.noSelect ops = true)
    (hQ : ∀ i c (a : Act) v w, Q (.panic c) (a.put (opAt ops i).dst v) w → Q (.panic c) a w) (hwt : Waits md ops n) :
    ∀ (p : Plan) (f : Nat) (listed : Array Bool) (cov : List Nat) (a : Act) (w : World), HeadInv md ops n listed → okPlan md ops n p f listed cov = true → S w → wpPlan P ops Q S tail p a w →
      (cov = [] → anyX P md ops Q S n (fun listed' a' w' => Region.seqB md ops (ops.size - n) n listed' = true ∧ wpList P ops Q tail a' w') f listed a w) ∧
      (p.isAlt = true → ∃ f', f = f' + 1 ∧ Region.ready md ops listed ≠ [] ∧ ∀ i ∈ Region.ready md ops listed, i ∉ cov → i < n ∧
        wpOp P ops Q i (fun a' w' => S w' ∧ anyX P md ops Q S n (fun listed' a' w' => Region.seqB md ops (ops.size - n) n listed' = true ∧ wpList P ops Q tail a' w') f' (listed.setIfInBounds i true) a' w') a w) := by
  intro p
  induction p with
  | last q =>
    intro f listed cov a w inv hok hS h
    refine ⟨fun hcov => ?_, fun hx => by cases hx⟩
    simp only [okPlan, Bool.and_eq_true, decide_eq_true_eq] at hok
    obtain ⟨⟨_, hf⟩, hok⟩ := hok
    subst hf
    split at hok
    · rename_i l' hr
      have := run_seg (E := fun listed' a' w' => Region.seqB md ops (ops.size - n) n listed' = true ∧ wpList P ops Q tail a' w') (f := 0) hsel hQ hwt
        (fun listed a w hE => seqB_ready hE.1) hS q listed a inv hr (fun a' _ hL => ⟨hok, hL⟩) h
      simpa using this
    · cases hok
  | quiet q p ih =>
    intro f listed cov a w inv hok hS h
    refine ⟨fun hcov => ?_, fun hx => by cases hx⟩
    simp only [okPlan, Bool.and_eq_true, decide_eq_true_eq] at hok
    obtain ⟨⟨_, hf⟩, hok⟩ := hok
    split at hok
    · rename_i l' hr
      have := run_seg (E := fun listed' a' w' => Region.seqB md ops (ops.size - n) n listed' = true ∧ wpList P ops Q tail a' w') (f := f - q.length) hsel hQ hwt
        (fun listed a w hE => seqB_ready hE.1) hS q listed a inv hr (fun a' inv' hL => (ih (f - q.length) l' [] a' w inv' hok hS hL).1 rfl) h
      rwa [show q.length + (f - q.length) = f by omega] at this
    · cases hok
  | one j p ih =>
    intro f listed cov a w inv hok hS h
    simp only [okPlan, Bool.and_eq_true, decide_eq_true_eq] at hok
    obtain ⟨⟨⟨⟨hf, hrd⟩, hall⟩, hj⟩, hok⟩ := hok
    have hjr : j ∈ Region.ready md ops listed := by simpa using hrd
    have key : ∃ f', f = f' + 1 ∧ Region.ready md ops listed ≠ [] ∧ ∀ i ∈ Region.ready md ops listed, i ∉ cov → i < n ∧
        wpOp P ops Q i (fun a' w' => S w' ∧ anyX P md ops Q S n (fun listed' a' w' => Region.seqB md ops (ops.size - n) n listed' = true ∧ wpList P ops Q tail a' w') f' (listed.setIfInBounds i true) a' w') a w := by
      refine ⟨f - 1, by omega, (fun h0 => by rw [h0] at hjr; cases hjr), fun i hi hic => ?_⟩
      have hij : i = j := by
        have := List.all_eq_true.1 hall i hi
        simp only [Bool.or_eq_true, beq_iff_eq, List.contains_iff_mem] at this
        rcases this with h1 | h1
        · exact h1
        · exact absurd h1 hic
      subst hij
      exact ⟨hj, wpOp_of_up (opAt_of_ready hjr) (fun a'' w'' hS'' hN => ⟨hS'', (ih (f - 1) _ [] a'' w'' (inv.set hjr hj) hok hS'' hN).1 rfl⟩) h⟩
    refine ⟨fun hcov => ?_, fun _ => key⟩
    obtain ⟨f', rfl, hne, hk⟩ := key
    refine ⟨hne, fun i hi => ?_⟩
    exact hk i hi (by rw [hcov]; simp)
  | alt j p r ihp ihr =>
    intro f listed cov a w inv hok hS h
    simp only [okPlan, Bool.and_eq_true, decide_eq_true_eq] at hok
    obtain ⟨⟨⟨⟨⟨hf, hrd⟩, hj⟩, hokp⟩, halt⟩, hokr⟩ := hok
    have hjr : j ∈ Region.ready md ops listed := by simpa using hrd
    have key : ∃ f', f = f' + 1 ∧ Region.ready md ops listed ≠ [] ∧ ∀ i ∈ Region.ready md ops listed, i ∉ cov → i < n ∧
        wpOp P ops Q i (fun a' w' => S w' ∧ anyX P md ops Q S n (fun listed' a' w' => Region.seqB md ops (ops.size - n) n listed' = true ∧ wpList P ops Q tail a' w') f' (listed.setIfInBounds i true) a' w') a w := by
      obtain ⟨f', hf', hne, hk⟩ := (ihr f listed (j :: cov) a w inv hokr hS h.2).2 halt
      subst hf'
      refine ⟨f', rfl, hne, fun i hi hic => ?_⟩
      by_cases hij : i = j
      · subst hij
        exact ⟨hj, wpOp_of_up (opAt_of_ready hjr) (fun a'' w'' hS'' hN => ⟨hS'', (ihp f' _ [] a'' w'' (inv.set hjr hj) (by simpa using hokp) hS'' hN).1 rfl⟩) h.1⟩
      · exact hk i hi (by simp only [List.mem_cons, not_or]; exact ⟨hij, hic⟩)
    refine ⟨fun hcov => ?_, fun _ => key⟩
    obtain ⟨f', rfl, hne, hk⟩ := key
    refine ⟨hne, fun i hi => ?_⟩
    exact hk i hi (by rw [hcov]; simp)

/-- **A REGION THAT DRAWS, BY A PLAN**: the operations from n on: the tail, in their order. -/
theorem wp_region_plan {id : Nat} {a : Act} {w : World} {l : List Oper} (S : World → Prop) (p : Plan) (n : Nat)
    (hm : P.follows .mixedOrders = true) (hB : planB l.toArray n p = true)
    (hQ : ∀ c (a : Act) d v w, Q (.panic c) (a.put d v) w → Q (.panic c) a w) (hS : S w.drew)
    (h : wpPlan P l.toArray Q S (l.drop n) p a w.drew) :
    (Code.region id l.toArray true).wp P Q a w := by
  simp only [planB, Bool.and_eq_true, Bool.or_eq_true, decide_eq_true_eq] at hB
  obtain ⟨⟨⟨hsel, hn⟩, hw⟩, hok⟩ := hB
  have hn' : n ≤ l.length := by simpa using hn
  have hwt : Waits .any l.toArray n := fun hlt => by
    rcases hw with hw | hw
    · omega
    · exact hw
  have inv0 : HeadInv .any l.toArray n (Array.replicate l.toArray.size false) :=
    ⟨by simp, fun j oj _ hl => (by rw [getD_replicate_false] at hl; cases hl), fun t _ ht => getD_in (by simpa using ht) (getD_replicate_false _ _)⟩
  have H := (run_plan (tail := l.drop n) (md := .any) hsel (fun i c a v w => hQ c a _ v w) hwt p n _ [] a _ inv0 hok hS h).1 rfl
  refine wp_region_any hm ?_
  have hdl : (l.drop n).length = l.toArray.size - n := by simp
  have := wpAny_of_anyX (Q := Q) (g := l.toArray.size - n) (fun listed a' w' hE => by
    have := wpAny_of_seq (md := .any) (Q' := Q) (l.drop n) n listed a' w' (fun j => by simp [List.getElem?_drop]) (by rw [hdl]; exact hE.1) hE.2
    rwa [hdl] at this) _ _ _ _ H
  rw [show n + (l.toArray.size - n) = l.toArray.size by simp; omega] at this
  exact this
end
end Seg
end Go
