/-
  A region that draws its order, walked by one schedule: quiet operations first, whatever comes up alone next, a forced tail last.
  Conditions: the schedule is checked by a Bool ('segsB'); the class S holds of the world at the start and behind each operation that is not quiet.
-/
import Derived.StillTail
import Derived.OrdersHeld
import Derived.Deep.Quiet
namespace Go
namespace Seg
section
variable {P : Program} {ops : Array Oper} {Q : Exit → Act → World → Prop} {md : Region.Mode} {S : World → Prop}

/-- any order of the head; behind each operation the class holds; behind the head 'E' -/
def anyX (P : Program) (md : Region.Mode) (ops : Array Oper) (Q : Exit → Act → World → Prop) (S : World → Prop) (n : Nat) (E : Array Bool → Act → World → Prop) :
    Nat → Array Bool → Act → World → Prop
  | 0, listed, a, w => E listed a w
  | f + 1, listed, a, w => Region.ready md ops listed ≠ [] ∧
    ∀ i ∈ Region.ready md ops listed, i < n ∧ wpOp P ops Q i (fun a' w' => S w' ∧ anyX P md ops Q S n E f (listed.setIfInBounds i true) a' w') a w

theorem wpAny_of_anyX {n g : Nat} {E : Array Bool → Act → World → Prop} (hE : ∀ listed a w, E listed a w → wpAny P md ops Q g listed a w) :
    ∀ (f : Nat) (listed : Array Bool) (a : Act) (w : World), anyX P md ops Q S n E f listed a w → wpAny P md ops Q (f + g) listed a w
  | 0, listed, a, w, h => by rw [Nat.zero_add]; exact hE _ _ _ h
  | f + 1, listed, a, w, h => by
    rw [show f + 1 + g = (f + g) + 1 by omega]
    exact ⟨fun h0 => absurd h0 h.1, fun i hi => wpOp_mono (fun a' w' h' => wpAny_of_anyX hE f _ a' w' h'.2) (h.2 i hi).2⟩

/-- the tail waits for the head -/
def Waits (md : Region.Mode) (ops : Array Oper) (n : Nat) : Prop := n < ops.size → Region.sinkB md ops n = true ∧ Region.chainB md ops n = true

theorem ready_lt {n i : Nat} {listed : Array Bool} (hw : Waits md ops n) (inv : HeadInv md ops n listed) (hin : i < n) (hi : i ∈ Region.ready md ops listed) :
    ∀ j ∈ Region.ready md ops listed, j < n := fun j hj => by
  rcases Nat.lt_or_ge j n with h | h
  · exact h
  · obtain ⟨_, o, ho, _⟩ := mem_ready.1 hj
    have hlt : j < ops.size := (Array.getElem?_eq_some_iff.1 ho).1
    obtain ⟨h1, h2⟩ := hw (by omega)
    exact absurd hj (tail_waits h1 h2 (by omega) inv _ i rfl hin (mem_ready.1 hi).1 j h)

theorem anyX_first {n i : Nat} {oi : Oper} {v : Value} {E : Array Bool → Act → World → Prop} (hi : ops[i]? = some oi)
    (hsel : ∀ (j : Nat) (o : Oper) cs b, ops[j]? = some o → o.op ≠ .select cs b)
    (hQ : ∀ c a w, Q (.panic c) (a.put oi.dst v) w → Q (.panic c) a w) (hwt : Waits md ops n) (hin : i < n)
    (hdone : ∀ listed a w, E listed a w → ∀ j ∈ Region.ready md ops listed, n ≤ j) :
    ∀ (f : Nat) (listed : Array Bool) (a : Act) (w : World), HeadInv md ops n listed →
      (∀ j oj, ops[j]? = some oj → j ≠ i → listed.getD j true = false → (∀ e ∈ oj.after, Region.binds md e = true → e.on ≠ i) → oi.apart ops oj = true) →
      i ∈ Region.ready md ops listed → YieldsIf P ops S oi v a → S w →
      anyX P md ops Q S n E f (listed.setIfInBounds i true) (a.put oi.dst v) w → anyX P md ops Q S n E (f + 1) listed a w := by
  intro f
  induction f with
  | zero =>
    intro listed a w inv _ hr hy hS H
    refine ⟨fun h => (by rw [h] at hr; cases hr), fun j hj => ?_⟩
    have hjn := ready_lt hwt inv hin hr j hj
    refine ⟨hjn, ?_⟩
    by_cases hji : j = i
    · subst hji; exact hy.wpOp hi hS ⟨hS, H⟩
    · have := hdone _ _ _ H j (ready_mono hj hji)
      omega
  | succ f ih =>
    intro listed a w inv hfree hr hy hS H
    refine ⟨fun h => (by rw [h] at hr; cases hr), fun j hj => ?_⟩
    have hjn := ready_lt hwt inv hin hr j hj
    refine ⟨hjn, ?_⟩
    by_cases hji : j = i
    · subst hji; exact hy.wpOp hi hS ⟨hS, H⟩
    · have h1 := (H.2 j (ready_mono hj hji)).2
      obtain ⟨hjun, oj, hoj, hall⟩ := mem_ready.1 hj
      have hnot : ∀ e ∈ oj.after, Region.binds md e = true → e.on ≠ i := fun e he hb heq => by
        have h1 := hall e he hb
        rw [heq, getD_both (mem_ready.1 hr).1] at h1
        cases h1
      have h2 := wpOp_putIf hoj (hfree j oj hoj hji hjun hnot) (fun cs b => hsel i oi cs b hi) (fun cs b => hsel j oj cs b hoj) hQ hy h1
      have hfree' : ∀ k ok, ops[k]? = some ok → k ≠ i → (listed.setIfInBounds j true).getD k true = false →
          (∀ e ∈ ok.after, Region.binds md e = true → e.on ≠ i) → oi.apart ops ok = true := fun k ok hk hki hun hno => by
        refine hfree k ok hk hki ?_ hno
        by_cases hjk : j = k
        · subst hjk; exact hjun
        · rw [getD_set_ne true hjk] at hun; exact hun
      refine wpOp_mono (fun a' w' h3 => ⟨h3.2.1, ih (listed.setIfInBounds j true) a' w' (inv.set hj hjn) hfree' (ready_mono hr (Ne.symm hji)) h3.1 h3.2.1 ?_⟩) h2
      rw [Array.setIfInBounds_comm _ _ hji]
      exact h3.2.2

theorem anyX_all {n j : Nat} {E : Array Bool → Act → World → Prop} {f : Nat} {listed : Array Bool} {a : Act} {w : World} (hr : Region.ready md ops listed = [j]) (hj : j < n)
    (h : wpOp P ops Q j (fun a' w' => S w' ∧ anyX P md ops Q S n E f (listed.setIfInBounds j true) a' w') a w) : anyX P md ops Q S n E (f + 1) listed a w := by
  refine ⟨by rw [hr]; simp, fun i hi => ?_⟩
  rw [hr] at hi
  obtain rfl : i = j := by simpa using hi
  exact ⟨hj, h⟩

/-- an operation whose run, where it ends, ends in a value: no call of a Go function among them -/
def plainOp (o : Oper) : Bool := match o.op with
  | .move _ | .assign _ | .pick .. | .load .. | .nilCheck _ | .binOp .. | .unOp .. | .convert .. | .makeInterface .. | .slice .. | .fieldAddr .. | .field ..
  | .indexAddr .. | .index .. | .lookup .. | .extract .. | .typeAssert .. | .build .. | .sliceToArrayPointer .. | .makeFunc .. => true
  | .call c => (match c.callee with | .builtin .len => true | .builtin .cap => true | .builtin .min => true | .builtin .max => true | _ => false)
  | _ => false

theorem run_value {s : Sem Value} {w w' : World} {n : Next} (h : (do pure (Next.value (← s)) : Sem Next).run P w = .ok n w') : ∃ u, n = .value u := by
  simp only [Sem.run_bind] at h
  cases hr : s.run P w with
  | ok u w1 => rw [hr] at h; simp at h; exact ⟨u, h.1.symm⟩
  | halt x w1 => rw [hr] at h; simp at h

theorem plain_value {o : Oper} (hp : plainOp o = true) {ρ : Operand → Value} {w w' : World} {n : Next} (h : (execOp ρ o).run P w = .ok n w') : ∃ u, n = .value u := by
  obtain ⟨dst, op, type, pos, after, guard⟩ := o
  unfold plainOp at hp
  cases op <;> (try (simp at hp; done))
  all_goals simp only [execOp] at h
  case move x => simp at h; exact ⟨_, h.1.symm⟩
  case assign x => simp at h; exact ⟨_, h.1.symm⟩
  case pick c a b =>
    simp only [Sem.run_bind] at h
    cases hr : (asBool (ρ c)).run P w with
    | ok u w1 => rw [hr] at h; simp at h; exact ⟨_, h.1.symm⟩
    | halt x w1 => rw [hr] at h; simp at h
  case nilCheck x =>
    have hrt : ∀ (w : World), ¬ ∃ n w', (runtimePanic .nilDeref : Sem Next).run P w = .ok n w' := by
      intro w ⟨n, w', h⟩
      unfold runtimePanic at h
      simp [goPanic] at h
    split at h
    · exact absurd ⟨_, _, h⟩ (hrt _)
    · exact absurd ⟨_, _, h⟩ (hrt _)
    · exact absurd ⟨_, _, h⟩ (hrt _)
    · split at h
      · exact absurd ⟨_, _, h⟩ (hrt _)
      · simp only [Sem.run_bind] at h
        cases h1 : (program).run P w with
        | halt x w1 => rw [h1] at h; simp at h
        | ok p w1 =>
          rw [h1] at h
          simp only [Result.andThen_ok] at h
          revert h
          generalize (nilAhead _ _ _ _).run P w1 = r
          intro h
          cases r with
          | halt x w1 => simp at h
          | ok p w1 =>
            simp only [Result.andThen_ok] at h
            split at h
            · simp [unsupported] at h
            · simp at h; exact ⟨_, h.1.symm⟩
      · simp at h; exact ⟨_, h.1.symm⟩
    · simp at h; exact ⟨_, h.1.symm⟩
  case call c =>
    cases hc : c.callee with
    | builtin b => cases b <;> simp [hc] at hp <;> simp only [resolve, hc, Sem.run_bind, Sem.run_pure, Result.andThen_ok, invoke, builtin] at h <;> exact run_value (by simpa [Sem.run_bind] using h)
    | value f => simp [hc] at hp
    | invoke f m => simp [hc] at hp
  all_goals exact run_value h

theorem yieldsIf_of_quiet {o : Oper} {a : Act} {K : Act → Prop} (hp : plainOp o = true)
    (h : if Region.wanted o (yielded ops a.tmps) then o.quiet P a S K else K (a.put o.dst undef)) : ∃ v, YieldsIf P ops S o v a ∧ K (a.put o.dst v) := by
  by_cases hw : Region.wanted o (yielded ops a.tmps) = true
  · rw [if_pos hw] at h
    obtain ⟨v, h1, h2⟩ := h
    refine ⟨v, .inl ⟨hw, fun w hS => ?_⟩, h2⟩
    have h3 := h1 w hS
    unfold Oper.quietAt at h3
    cases hr : (execOp a.eval o).run P w with
    | halt x w1 => rw [hr] at h3; simp [Oper.quietUpon] at h3
    | ok n w1 =>
      obtain ⟨u, rfl⟩ := plain_value hp hr
      rw [hr] at h3
      simp only [Oper.quietUpon] at h3
      rw [h3.1, h3.2]
  · rw [if_neg hw] at h
    exact ⟨undef, .inr ⟨by simpa using hw, rfl⟩, h⟩

/-! ### the schedule -/
def opAt (ops : Array Oper) (i : Nat) : Oper := ops.getD i ⟨none, .move (.const undef), 0, "", #[], none⟩

def runQ (md : Region.Mode) (ops : Array Oper) (n : Nat) : List Nat → Array Bool → Option (Array Bool)
  | [], l => some l
  | i :: r, l => if (Region.ready md ops l).contains i && Region.free md ops l i && plainOp (opAt ops i) && decide (i < n) then runQ md ops n r (l.setIfInBounds i true) else none

def okSegs (md : Region.Mode) (ops : Array Oper) (n : Nat) : List (List Nat × Nat) → List Nat → Array Bool → Bool
  | [], last, l => match runQ md ops n last l with | some l' => Region.seqB md ops (ops.size - n) n l' | none => false
  | (q, j) :: r, last, l => match runQ md ops n q l with | some l' => decide (Region.ready md ops l' = [j]) && decide (j < n) && okSegs md ops n r last (l'.setIfInBounds j true) | none => false

def headLen : List (List Nat × Nat) → List Nat → Nat
  | [], last => last.length
  | (q, _) :: r, last => q.length + (headLen r last + 1)

def segsB (ops : Array Oper) (n : Nat) (segs : List (List Nat × Nat)) (last : List Nat) : Bool :=
  Region.noSelect ops && decide (n ≤ ops.size) && (decide (n = ops.size) || (Region.sinkB .any ops n && Region.chainB .any ops n)) &&
  okSegs .any ops n segs last (Array.replicate ops.size false) && decide (headLen segs last = n)

/-- what the walk shows: the quiet operations of each segment, in every world of the class; the one behind them, in the world at hand, the class shown anew; then the tail -/
def wpSegs (P : Program) (ops : Array Oper) (Q : Exit → Act → World → Prop) (S : World → Prop) (tail : List Oper) (last : List Oper) : List (List Oper × Oper) → Act → World → Prop
  | [], a, w => wpQuiet P ops S (fun a' => wpList P ops Q tail a' w) last a
  | (q, o) :: r, a, w => wpQuiet P ops S (fun a' => ∀ K : Act → World → Prop, (∀ a'' w'', S w'' → wpSegs P ops Q S tail last r a'' w'' → K a'' w'') →
      if Region.wanted o (yielded ops a'.tmps) then o.wp P a' w K Q else K (a'.put o.dst undef) w) q a

theorem opAt_of_ready {i : Nat} {listed : Array Bool} (h : i ∈ Region.ready md ops listed) : ops[i]? = some (opAt ops i) := by
  obtain ⟨_, o, ho, _⟩ := mem_ready.1 h
  have hlt : i < ops.size := (Array.getElem?_eq_some_iff.1 ho).1
  unfold opAt
  simp [hlt]

theorem run_seg {n : Nat} {E : Array Bool → Act → World → Prop} (hsel : Region.noSelect ops = true)
    (hQ : ∀ i c (a : Act) v w, Q (.panic c) (a.put (opAt ops i).dst v) w → Q (.panic c) a w) (hwt : Waits md ops n)
    (hdone : ∀ listed a w, E listed a w → ∀ j ∈ Region.ready md ops listed, n ≤ j) {f : Nat} {w : World} (hS : S w) {L : Act → Prop} {listed' : Array Bool} :
    ∀ (q : List Nat) (listed : Array Bool) (a : Act), HeadInv md ops n listed → runQ md ops n q listed = some listed' →
      (∀ a', HeadInv md ops n listed' → L a' → anyX P md ops Q S n E f listed' a' w) →
      wpQuiet P ops S L (q.map (opAt ops)) a → anyX P md ops Q S n E (q.length + f) listed a w
  | [], listed, a, inv, hr, hL, h => by
    simp only [runQ, Option.some.injEq] at hr
    subst hr
    simpa using hL a inv h
  | i :: q, listed, a, inv, hr, hL, h => by
    unfold runQ at hr
    split at hr
    · rename_i hc
      simp only [Bool.and_eq_true, decide_eq_true_eq] at hc
      obtain ⟨⟨⟨hrd, hfr⟩, hp⟩, hin⟩ := hc
      have hrd' : i ∈ Region.ready md ops listed := by simpa using hrd
      have h0 := opAt_of_ready hrd'
      obtain ⟨v, hy, hK⟩ := yieldsIf_of_quiet hp h
      have H := run_seg hsel hQ hwt hdone hS q _ _ (inv.set hrd' hin) hr hL hK
      rw [List.length_cons, show q.length + 1 + f = (q.length + f) + 1 by omega]
      exact anyX_first h0 (Region.noSelect_spec hsel) (fun c a w => hQ i c a v w) hwt hin hdone _ listed a w inv (Region.free_spec h0 hfr) hrd' hy hS H
    · cases hr

theorem run_segs {n : Nat} {tail : List Oper} {last : List Nat} (hsel : Region.noSelect ops = true)
    (hQ : ∀ i c (a : Act) v w, Q (.panic c) (a.put (opAt ops i).dst v) w → Q (.panic c) a w) (hwt : Waits md ops n) :
    ∀ (segs : List (List Nat × Nat)) (listed : Array Bool) (a : Act) (w : World), HeadInv md ops n listed → okSegs md ops n segs last listed = true → S w →
      wpSegs P ops Q S tail (last.map (opAt ops)) (segs.map fun (q, j) => (q.map (opAt ops), opAt ops j)) a w →
      anyX P md ops Q S n (fun listed' a' w' => Region.seqB md ops (ops.size - n) n listed' = true ∧ wpList P ops Q tail a' w') (headLen segs last) listed a w
  | [], listed, a, w, inv, hok, hS, h => by
    unfold okSegs at hok
    split at hok
    · rename_i l' hr
      have := run_seg (E := fun listed' a' w' => Region.seqB md ops (ops.size - n) n listed' = true ∧ wpList P ops Q tail a' w') (f := 0) hsel hQ hwt
        (fun listed a w hE => seqB_ready hE.1) hS last listed a inv hr (fun a' _ hL => ⟨hok, hL⟩) h
      simpa [headLen] using this
    · cases hok
  | (q, j) :: r, listed, a, w, inv, hok, hS, h => by
    unfold okSegs at hok
    split at hok
    · rename_i l' hr
      simp only [Bool.and_eq_true, decide_eq_true_eq] at hok
      obtain ⟨⟨hrd, hj⟩, hok'⟩ := hok
      have hjr : j ∈ Region.ready md ops l' := by rw [hrd]; simp
      have h0 := opAt_of_ready hjr
      refine run_seg (f := headLen r last + 1) hsel hQ hwt (fun listed a w hE => seqB_ready hE.1) hS q listed a inv hr (fun a' inv' hL => ?_) h
      refine anyX_all hrd hj ?_
      unfold wpOp
      simp only [h0]
      have hL' := hL (fun a'' w'' => S w'' ∧ anyX P md ops Q S n (fun listed' a' w' => Region.seqB md ops (ops.size - n) n listed' = true ∧ wpList P ops Q tail a' w') (headLen r last) (l'.setIfInBounds j true) a'' w'')
        (fun a'' w'' hS'' hW => ⟨hS'', run_segs hsel hQ hwt r _ a'' w'' (inv'.set hjr hj) hok' hS'' hW⟩)
      split
      · rename_i hw; rw [if_pos hw] at hL'; exact .inl hL'
      · rename_i hw; rw [if_neg hw] at hL'; exact hL'
    · cases hok

/-- **A REGION THAT DRAWS, BY A SCHEDULE**: 'segs': quiet operations, then one that must come up alone; 'last': quiet operations; the operations from n on: the tail, in their order. -/
theorem wp_region_segs {id : Nat} {a : Act} {w : World} {l : List Oper} (S : World → Prop) (segs : List (List Nat × Nat)) (last : List Nat) (n : Nat)
    (hm : P.follows .mixedOrders = true) (hB : segsB l.toArray n segs last = true)
    (hQ : ∀ c (a : Act) d v w, Q (.panic c) (a.put d v) w → Q (.panic c) a w) (hS : S w.drew)
    (h : wpSegs P l.toArray Q S (l.drop n) (last.map (opAt l.toArray)) (segs.map fun (q, j) => (q.map (opAt l.toArray), opAt l.toArray j)) a w.drew) :
    (Code.region id l.toArray true).wp P Q a w := by
  simp only [segsB, Bool.and_eq_true, Bool.or_eq_true, decide_eq_true_eq] at hB
  obtain ⟨⟨⟨⟨hsel, hn⟩, hw⟩, hok⟩, hlen⟩ := hB
  have hn' : n ≤ l.length := by simpa using hn
  have hwt : Waits .any l.toArray n := fun hlt => by
    rcases hw with hw | hw
    · omega
    · exact hw
  have inv0 : HeadInv .any l.toArray n (Array.replicate l.toArray.size false) :=
    ⟨by simp, fun j oj _ hl => (by rw [getD_replicate_false] at hl; cases hl), fun t _ ht => getD_in (by simpa using ht) (getD_replicate_false _ _)⟩
  have H := run_segs (tail := l.drop n) (md := .any) hsel (fun i c a v w => hQ c a _ v w) hwt segs _ a _ inv0 hok hS h
  refine wp_region_any hm ?_
  have hdl : (l.drop n).length = l.toArray.size - n := by simp
  have := wpAny_of_anyX (Q := Q) (g := l.toArray.size - n) (fun listed a' w' hE => by
    have := wpAny_of_seq (md := .any) (Q' := Q) (l.drop n) n listed a' w' (fun j => by simp [List.getElem?_drop]) (by rw [hdl]; exact hE.1) hE.2
    rwa [hdl] at this) _ _ _ _ H
  rw [hlen, show n + (l.toArray.size - n) = l.toArray.size by simp; omega] at this
  exact this
end
end Seg
end Go
