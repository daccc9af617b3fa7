/-
  Chapter 13, for Pairs: does a choice fit? ballot.Fits and the reference's Fits. Printed by tools/genfit2.py.
-/
import Derived.Test.YtnohcdpnnhmpfaaGreatDoorCtI
namespace Go.Proofs.YtnohcdpnnhmpfaaGreatDoor
set_option linter.unusedVariables false
set_option linter.unusedSimpArgs false
open Go.RowKit ML FM AU CT

def iotaP (m : Nat) : List Int := (List.range m).map fun k : Nat => ((k + 1 : Nat) : Int)
theorem subset_perm {α : Type} [DecidableEq α] : ∀ {A B : List α}, A.Nodup → (∀ x ∈ A, x ∈ B) → A.length ≤ B.length ∧ (B.length ≤ A.length → A.Perm B)
  | [], B, _, _ => ⟨Nat.zero_le _, fun h => by
    have : B = [] := List.length_eq_zero_iff.1 (Nat.le_zero.1 h)
    rw [this]⟩
  | a :: A, B, hA, h => by
    obtain ⟨h1, h2⟩ := List.nodup_cons.1 hA
    have haB : a ∈ B := h a (by simp)
    have hp := List.perm_cons_erase haB
    have hl : (B.erase a).length = B.length - 1 := List.length_erase_of_mem haB
    have hB0 : 0 < B.length := List.length_pos_of_mem haB
    have ih := subset_perm (B := B.erase a) h2 (fun x hx => by
      have hne : x ≠ a := fun e => h1 (e ▸ hx)
      exact (List.mem_erase_of_ne hne).2 (h x (by simp [hx])))
    refine ⟨by rw [List.length_cons]; omega, fun hle => ?_⟩
    rw [List.length_cons] at hle
    exact ((ih.2 (by omega)).cons a).trans hp.symm
theorem iotaP_nodup (m : Nat) : (iotaP m).Nodup := by
  unfold iotaP
  rw [List.nodup_iff_pairwise_ne, List.pairwise_map]
  exact (List.nodup_range (n := m)).imp (fun {a b} h e => h (by omega))
theorem mem_iotaP (m : Nat) (x : Int) : x ∈ iotaP m ↔ 1 ≤ x ∧ x ≤ m := by
  unfold iotaP
  rw [List.mem_map]
  constructor
  · rintro ⟨k, hk, rfl⟩
    have := List.mem_range.1 hk
    omega
  · rintro ⟨h1, h2⟩
    exact ⟨(x - 1).toNat, List.mem_range.2 (by omega), by omega⟩
def posL (b : List Int) : List Int := b.filter fun x => decide (0 < x)
theorem cnt_count (L : List Int) (n : Int) : cntI L n = L.count n := by
  unfold cntI
  rw [← List.countP_eq_length_filter]; rfl
/-- the numbers from 1 to m, each just once, where m is how many are above 0: -/
theorem once_iff (b : List Int) : ((posL b).Nodup ∧ ∀ n, 1 ≤ n → n ≤ (posL b).length → (n : Int) ∈ b) ↔ ∀ n, 1 ≤ n → n ≤ (posL b).length → cntI b (n : Nat) = 1 := by
  constructor
  · rintro ⟨h1, h2⟩ n hn hm
    rw [cnt_count]
    have hc : (posL b).count (n : Int) = b.count (n : Int) := by
      unfold posL; rw [List.count_filter]; simp; omega
    rw [← hc]
    have a := List.nodup_iff_count.1 h1 (n : Int)
    have hp : (n : Int) ∈ posL b := List.mem_filter.2 ⟨h2 n hn hm, by simp; omega⟩
    have := List.count_pos_iff.2 hp
    omega
  · intro h
    have hin : ∀ n : Nat, 1 ≤ n → n ≤ (posL b).length → (n : Int) ∈ b := fun n h1 h2 => by
      have := h n h1 h2
      rw [cnt_count] at this
      exact List.count_pos_iff.1 (by omega)
    refine ⟨?_, hin⟩
    have hp := (subset_perm (B := posL b) (iotaP_nodup (posL b).length) (fun x hx => by
      obtain ⟨h1, h2⟩ := (mem_iotaP _ _).1 hx
      obtain ⟨n, rfl⟩ : ∃ n : Nat, x = n := ⟨x.toNat, by omega⟩
      exact List.mem_filter.2 ⟨hin n (by omega) (by omega), by simp; omega⟩)).2 (by simp [iotaP])
    exact hp.nodup_iff.1 (iotaP_nodup _)
theorem posL_snoc (L : List Int) (x : Int) : posL (L ++ [x]) = posL L ++ if 0 < x then [x] else [] := by
  unfold posL; rw [List.filter_append]; by_cases h : 0 < x <;> simp [h]
theorem okL_iff (c : CTest) : ∀ (r L : List Int), ((posL L).Nodup ∨ ranksB c.rl = false) → (okL c L r = true ↔ (∀ x ∈ r, 0 ≤ x ∧ x ≤ topI c) ∧ (ranksB c.rl = true → (posL (L ++ r)).Nodup))
  | [], L, h => by
    simp only [okL, List.append_nil, List.not_mem_nil, false_imp_iff, implies_true, true_and, true_iff]
    intro h1; rcases h with h | h
    · exact h
    · rw [h] at h1; cases h1
  | x :: r, L, h => by
    have key : okX c L x = true ↔ (0 ≤ x ∧ x ≤ topI c) ∧ (ranksB c.rl = true → (posL (L ++ [x])).Nodup) := by
      unfold okX
      rw [posL_snoc]
      cases hr : ranksB c.rl with
      | false => simp
      | true =>
        have hL : (posL L).Nodup := by rcases h with h | h; exact h; rw [hr] at h; cases h
        by_cases hx : 0 < x
        · have : x ∈ posL L ↔ x ∈ L := by unfold posL; simp [hx]
          simp only [hx, if_true, List.nodup_append]
          simp [hL, this, hx]
          intro _ _
          constructor
          · intro h a ha e; subst e; exact h (this.1 ha)
          · intro h hm; exact h x (this.2 hm) rfl
        · simp [hx, hL]
    have e : L ++ x :: r = (L ++ [x]) ++ r := by simp
    simp only [okL, Bool.and_eq_true]
    rw [key, e]
    constructor
    · rintro ⟨⟨h1, h2⟩, h3⟩
      have hh : (posL (L ++ [x])).Nodup ∨ ranksB c.rl = false := by
        cases hr : ranksB c.rl with
        | false => exact .inr rfl
        | true => exact .inl (h2 hr)
      have := (okL_iff c r (L ++ [x]) hh).1 h3
      refine ⟨fun y hy => ?_, this.2⟩
      rcases List.mem_cons.1 hy with rfl | hy
      · exact h1
      · exact this.1 y hy
    · rintro ⟨h1, h2⟩
      have h2' : ranksB c.rl = true → (posL (L ++ [x])).Nodup := fun hr => by
        have := h2 hr
        unfold posL at this ⊢
        rw [List.filter_append] at this
        exact (List.nodup_append.1 this).1
      have hh : (posL (L ++ [x])).Nodup ∨ ranksB c.rl = false := by
        cases hr : ranksB c.rl with
        | false => exact .inr rfl
        | true => exact .inl (h2' hr)
      exact ⟨⟨h1 x (by simp), h2'⟩, (okL_iff c r (L ++ [x]) hh).2 ⟨fun y hy => h1 y (by simp [hy]), h2⟩⟩
/-- the reference's word -/
def onceL (b : List Int) (m : Nat) : Bool := (List.range m).all fun k : Nat => decide (cntI b ((k + 1 : Nat) : Int) = 1)
def rangeL (c : CTest) (b : List Int) : Bool := b.all fun x => decide (0 ≤ x ∧ x ≤ topI c)
def refFitsB (c : CTest) (b : List Int) : Bool := rangeL c b && if ranksB c.rl = true then onceL b (b.length - cntI b 0) else (decide (c.rl ≠ 1) || decide (((b.length - cntI b 0 : Nat) : Int) ≤ c.mo))
theorem marks_eq (b : List Int) (h : ∀ x ∈ b, 0 ≤ x) : b.length - cntI b 0 = posN b := by
  unfold cntI posN
  induction b with
  | nil => rfl
  | cons x r ih =>
    have ih := ih (fun y hy => h y (by simp [hy]))
    have hx := h x (by simp)
    have h1 := List.length_filter_le (fun y : Int => y == 0) r
    by_cases h0 : x = 0
    · subst h0; simp at ih ⊢; omega
    · have : 0 < x := by omega
      simp [h0, this] at ih ⊢; omega
theorem gapL_iff (b : List Int) (m : Nat) : gapL b m = true ↔ ∀ n : Nat, 1 ≤ n → n ≤ m → (n : Int) ∈ b := by
  unfold gapL
  rw [List.all_eq_true]
  constructor
  · intro h n h1 h2
    have := h (n - 1) (List.mem_range.2 (by omega))
    have e : n - 1 + 1 = n := by omega
    rw [e] at this
    exact of_decide_eq_true this
  · intro h k hk
    have := List.mem_range.1 hk
    exact decide_eq_true (h (k + 1) (by omega) (by omega))
theorem onceL_iff (b : List Int) (m : Nat) : onceL b m = true ↔ ∀ n : Nat, 1 ≤ n → n ≤ m → cntI b (n : Nat) = 1 := by
  unfold onceL
  rw [List.all_eq_true]
  constructor
  · intro h n h1 h2
    have := h (n - 1) (List.mem_range.2 (by omega))
    have e : n - 1 + 1 = n := by omega
    rw [e] at this
    exact of_decide_eq_true this
  · intro h k hk
    have := List.mem_range.1 hk
    exact decide_eq_true (h (k + 1) (by omega) (by omega))
theorem rangeL_iff (c : CTest) (b : List Int) : rangeL c b = true ↔ ∀ x ∈ b, 0 ≤ x ∧ x ≤ topI c := by
  unfold rangeL
  rw [List.all_eq_true]
  exact ⟨fun h x hx => of_decide_eq_true (h x hx), fun h x hx => decide_eq_true (h x hx)⟩
theorem fits_ref (c : CTest) (b : List Int) : fitsB c b = refFitsB c b := by
  rw [Bool.eq_iff_iff]
  unfold fitsB refFitsB
  simp only [Bool.and_eq_true, Bool.or_eq_true]
  rw [okL_iff c b [] (.inl (by simp [posL])), rangeL_iff, List.nil_append]
  by_cases hR : ∀ x ∈ b, 0 ≤ x ∧ x ≤ topI c
  · have hm := marks_eq b (fun x hx => (hR x hx).1)
    rw [hm]
    cases hr : ranksB c.rl with
    | false => simp
    | true =>
      have h1 : c.rl ≠ 1 := by intro e; rw [e] at hr; revert hr; decide
      have := once_iff b
      rw [if_pos rfl, onceL_iff, gapL_iff]
      simp [h1]
      constructor
      · rintro ⟨⟨h1, h2⟩, h3⟩
        exact ⟨h1, this.1 ⟨h2, h3⟩⟩
      · rintro ⟨h1, h2⟩
        have := this.2 h2
        exact ⟨⟨h1, this.1⟩, this.2⟩
  · simp [hR]

theorem wpList_build {P : Program} {ops : Array Oper} {rest : List Oper} {o : Oper} {a : Act} {w : World} {Q : Exit → Act → World → Prop} (hw : Region.wanted o (yielded ops a.tmps) = true) (t : TypeId) (parts : Array (Nat × Operand)) (ho : o.op = .build t parts) (l : List (Nat × Value)) (hp : (parts.map fun (i, x) => (i, a.eval x)).toList = l) (cells : Array Value) (hf : P.built t l = some cells)
    (h : wpList P ops Q rest (a.put o.dst (.agg cells)) w) : wpList P ops Q (o :: rest) a w :=
  wpList_step fun K hK => by
    rw [if_pos hw]
    have hr := run_build (P := P) w t (parts.map fun (i, x) => (i, a.eval x)) cells (by rw [hp]; exact hf)
    unfold Oper.wp execOp
    simp only [ho, Sem.run_bind, hr, Result.andThen_ok]
    exact hK _ _ h
theorem at_build (ty : TypeId) {P : Program} {ops : Array Oper} {rest : List Oper} {dst : Option Tmp} {x : Array (Nat × Operand)} {t : TypeId} {pos : String} {af : Array Edge} {g : Option (Nat × Bool)} {a : Act} {w : World} {Q : Exit → Act → World → Prop} (h : wpList P ops Q (⟨dst, .build ty x, t, pos, af, g⟩ :: rest) a w) : wpList P ops Q (⟨dst, .build ty x, t, pos, af, g⟩ :: rest) a w := h
theorem built_field (nm : ByteArray) (oa : Option Addr) (n cap : Nat) (r s m : Int) : Tryz.prog.built 161 [(0, .agg #[.string nm, .slice oa n cap, .int .i64 r, .int .i64 s, .int .i64 m])] = some #[.string nm, .slice oa n cap, .int .i64 r, .int .i64 s, .int .i64 m, .int .i64 0] := by kernel_rfl
/-- what Fits answers -/
def fitE (c : CTest) (b : List Int) : Int := if b.length ≠ c.op.length then 2 else if fitsB c b = true then 0 else 4
set_option maxHeartbeats 2000000 in
set_option maxRecDepth 100000 in
theorem balFits_any (c : CTest) (b : List Int) (oa : Option Addr) (cap : Nat) (ob : Option Addr) (cb : Nat) (w : World) (hb : IsAt w ob b) (hn : c.op.length ≤ 12) :
    Calls Tryz.prog 69 #[.agg #[.string ⟨c.nm.toArray⟩, .slice oa c.op.length cap, .int .i64 c.rl, .int .i64 c.se, .int .i64 c.mo], .slice ob b.length cb] w fun e w' => e = .returned (.int .i64 (fitE c b)) ∧ Below w.heap.size w w' := by
  have HIB := Lib.hid hb
  clear hb
  by_cases hl : b.length = c.op.length
  · have QF := Lib.hid (fun w h => fits_any c b oa cap ob cb w h hn hl)
    have HE := Lib.hid (show fitE c b = if fitsB c b = true then 0 else 4 by unfold fitE; rw [if_neg (fun h => h hl)])
    have d0 : ((b.length : Int) != (c.op.length : Int)) = false := by rw [hl]; simp
    have d0' : (b.length != c.op.length) = false := by rw [hl]; simp
    clear hl
    generalize fitsB c b = f at *
    go_enter Tryz.func69, Tryz.ntmps69
    go_upto_block 0 with (fail)
    generalize hB : w.heap.size = B at *
    refine wp_abs (fun w1 => Below B w w1 ∧ w1.heap[B]? = some (.cells #[.string ⟨c.nm.toArray⟩, .slice oa c.op.length cap, .int .i64 c.rl, .int .i64 c.se, .int .i64 c.mo] 24 (0, 0))) ⟨by rw [← hB]; exact (Below.refl _ _).alloc (Nat.le_refl _) _, by rw [← hB]; exact heap_at rfl⟩ (fun w1 hw1 => ?_)
    have HB := Lib.hid hB
    have B1 := Lib.hid hw1.1
    have X1 := Lib.hid hw1.2
    have hBs : B < w1.heap.size := lt_of_heap hw1.2
    have k1 : w1.cell? ⟨B, 1, none⟩ = some (.slice oa c.op.length cap) := cell_of_row w1 B 1 _ _ _ X1.out
    clear hB hw1
    have HI1 := Lib.hid (HIB.out.below (by rw [HB.out]; exact B1.out))
    cases f with
    | true =>
      go_wp2_with (first
        | go_big_skip
        | ((with_reducible refine at_load 24 ?_); refine wpList_load_g ?_ 24 (.tmp 2) ?_ B _ _ _ _ ?_ X1.out Tryz.underlying24 ?_ size_contest ?_; rfl; rfl; rfl; rfl)
        | ((with_reducible refine at_build 161 ?_); refine wpList_build ?_ 161 _ ?_ _ ?_ _ (built_field _ _ _ _ _ _ _) ?_; rfl; rfl; rfl)
        | (go_at_call 116; refine (QF.out w1 HI1.out).mono ?_; rintro e w2 ⟨rfl, b2⟩; dsimp only))
      go_ret
      exact ⟨by rw [HE.out]; rfl, by rw [HB.out]; exact B1.out.trans (b2.mono (Nat.le_of_lt hBs))⟩
    | false =>
      go_wp2_with (first
        | go_big_skip
        | ((with_reducible refine at_load 24 ?_); refine wpList_load_g ?_ 24 (.tmp 2) ?_ B _ _ _ _ ?_ X1.out Tryz.underlying24 ?_ size_contest ?_; rfl; rfl; rfl; rfl)
        | ((with_reducible refine at_build 161 ?_); refine wpList_build ?_ 161 _ ?_ _ ?_ _ (built_field _ _ _ _ _ _ _) ?_; rfl; rfl; rfl)
        | (go_at_call 116; refine (QF.out w1 HI1.out).mono ?_; rintro e w2 ⟨rfl, b2⟩; dsimp only))
      go_ret
      exact ⟨by rw [HE.out]; rfl, by rw [HB.out]; exact B1.out.trans (b2.mono (Nat.le_of_lt hBs))⟩
  · have HE := Lib.hid (show fitE c b = 2 by unfold fitE; rw [if_pos hl])
    have d0 : ((b.length : Int) != (c.op.length : Int)) = true := by rw [bne_iff_ne]; omega
    have d0' : (b.length != c.op.length) = true := by rw [bne_iff_ne]; exact hl
    clear hl
    go_enter Tryz.func69, Tryz.ntmps69
    go_upto_block 0 with (fail)
    generalize hB : w.heap.size = B at *
    refine wp_abs (fun w1 => Below B w w1 ∧ w1.heap[B]? = some (.cells #[.string ⟨c.nm.toArray⟩, .slice oa c.op.length cap, .int .i64 c.rl, .int .i64 c.se, .int .i64 c.mo] 24 (0, 0))) ⟨by rw [← hB]; exact (Below.refl _ _).alloc (Nat.le_refl _) _, by rw [← hB]; exact heap_at rfl⟩ (fun w1 hw1 => ?_)
    have HB := Lib.hid hB
    have B1 := Lib.hid hw1.1
    have X1 := Lib.hid hw1.2
    have hBs : B < w1.heap.size := lt_of_heap hw1.2
    have k1 : w1.cell? ⟨B, 1, none⟩ = some (.slice oa c.op.length cap) := cell_of_row w1 B 1 _ _ _ X1.out
    clear hB hw1
    go_wp2_with fail
    go_ret
    exact ⟨by rw [HE.out]; rfl, by rw [HB.out]; exact B1.out⟩
theorem onceL_succ (b : List Int) (n : Nat) : onceL b (n + 1) = (onceL b n && decide (cntI b ((n + 1 : Nat) : Int) = 1)) := by
  simp [onceL, List.range_succ, List.all_append]
theorem onceL_no (b : List Int) (n m : Nat) (h : n < m) (hb : ¬ cntI b ((n + 1 : Nat) : Int) = 1) : onceL b m = false := by
  rw [← Bool.not_eq_true]
  intro h2
  unfold onceL at h2
  rw [List.all_eq_true] at h2
  exact hb (of_decide_eq_true (h2 n (List.mem_range.2 h)))
theorem rangeL_no {c : CTest} {b : List Int} {x : Int} (hx : x ∈ b) (h : ¬ (0 ≤ x ∧ x ≤ topI c)) : rangeL c b = false := by
  rw [← Bool.not_eq_true, rangeL_iff]
  exact fun h2 => h (h2 x hx)
theorem cntI_le (b : List Int) (n : Int) : cntI b n ≤ b.length := List.length_filter_le _ _
set_option maxHeartbeats 4000000 in
set_option maxRecDepth 100000 in
theorem refFits_any (c : CTest) (b : List Int) (oa : Option Addr) (cap : Nat) (ob : Option Addr) (cb : Nat) (w : World) (hb : IsAt w ob b) (hn : c.op.length ≤ 12) :
    Calls Tryz.prog 46 #[.agg #[.string ⟨c.nm.toArray⟩, .slice oa c.op.length cap, .int .i64 c.rl, .int .i64 c.se, .int .i64 c.mo], .slice ob b.length cb] w fun e w' => e = .returned (.int .i64 (fitE c b)) ∧ Below w.heap.size w w' := by
  have HIB := Lib.hid hb
  clear hb
  by_cases hl : b.length = c.op.length
  · have QT := Lib.hid (fun w => refTop_any c oa cap w)
    have QR := Lib.hid (fun w => refRanks_any c oa cap w)
    have hb12 : b.length ≤ 12 := by omega
    have QC := Lib.hid (fun w n h => times_any ob b cb n w h (by omega))
    have HE := Lib.hid (show fitE c b = if refFitsB c b = true then 0 else 4 by unfold fitE; rw [if_neg (fun h => h hl), fits_ref])
    have d0 : ((b.length : Int) != (c.op.length : Int)) = false := by rw [hl]; simp
    have d0' : (b.length != c.op.length) = false := by rw [hl]; simp
    have HRF := Lib.hid (show refFitsB c b = (rangeL c b && if ranksB c.rl = true then onceL b (b.length - cntI b 0) else (decide (c.rl ≠ 1) || decide (((b.length - cntI b 0 : Nat) : Int) ≤ c.mo))) from rfl)
    obtain ⟨t, ht, htn⟩ := topI_nat c
    rw [ht] at QT
    have HTI := Lib.hid ht
    have ht12 : t ≤ 12 := by omega
    clear hl ht htn
    go_enter Tryz.func46, Tryz.ntmps46
    go_upto_region 1 with (fail)
    generalize hB : w.heap.size = B at *
    refine wp_abs (fun w1 => Below B w w1 ∧ w1.heap[B]? = some (.cells #[.string ⟨c.nm.toArray⟩, .slice oa c.op.length cap, .int .i64 c.rl, .int .i64 c.se, .int .i64 c.mo] 24 (0, 0))) ⟨by rw [← hB]; exact (Below.refl _ _).alloc (Nat.le_refl _) _, by rw [← hB]; exact heap_at rfl⟩ (fun w1 hw1 => ?_)
    have HB := Lib.hid hB
    have B1 := Lib.hid hw1.1
    have X1 := Lib.hid hw1.2
    have hBs : B < w1.heap.size := lt_of_heap hw1.2
    have k1 : w1.cell? ⟨B, 1, none⟩ = some (.slice oa c.op.length cap) := cell_of_row w1 B 1 _ _ _ X1.out
    clear hB hw1
    go_wp2_with fail
    go_loopw [17] (fun i wr => ∃ k : Nat, k ≤ b.length ∧ i = .int .i64 k ∧ (∀ x ∈ b.take k, 0 ≤ x ∧ x ≤ topI c) ∧ Below B w wr ∧ wr.heap[B]? = some (.cells #[.string ⟨c.nm.toArray⟩, .slice oa c.op.length cap, .int .i64 c.rl, .int .i64 c.se, .int .i64 c.mo] 24 (0, 0))) (fun i _ => b.length - (intOf i).toNat)
    case atStart => exact ⟨0, Nat.zero_le _, rfl, (fun x hx => by simp at hx), B1.out, X1.out⟩
    case round =>
    clear B1 X1 k1 hBs
    obtain ⟨k, hk, rfl, hr, hb2, hx2⟩ := hrel
    have HR := Lib.hid hr
    have B2 := Lib.hid hb2
    have X2 := Lib.hid hx2
    have hBr : B < wr.heap.size := lt_of_heap hx2
    have HI2 := Lib.hid (HIB.out.below (HB.out.symm ▸ hb2))
    clear hr hb2 hx2
    by_cases hlt : k < b.length
    · have dk : decide ((k : Int) < (b.length : Int)) = true := decide_eq_true (by omega)
      have dk2 : decide (k < b.length) = true := decide_eq_true hlt
      have hki : (k : Int) < (b.length : Int) := by omega
      obtain ⟨q, hoa, hqb, hqc⟩ := HI2.out.cells k hlt
      subst hoa
      have HM := Lib.hid (List.getElem_mem hlt)
      have HTK := Lib.hid (show b.take (k + 1) = b.take k ++ [b[k]] from List.take_succ_eq_append_getElem hlt)
      generalize b[k] = x at *
      by_cases hx0 : x < 0
      · have e0 : decide (x < 0) = true := decide_eq_true hx0
        have HE2 := Lib.hid (show fitE c b = 4 by rw [HE.out, HRF.out, rangeL_no HM.out (by omega)]; rfl)
        clear hx0
        go_wp2_with (first
            | go_big_skip
            | ((with_reducible refine at_load 24 ?_); refine wpList_load_g ?_ 24 (.tmp 2) ?_ B _ _ _ _ ?_ X2.out Tryz.underlying24 ?_ size_contest ?_; rfl; rfl; rfl; rfl)
            | (go_at_call 85; refine (QT.out wr).mono ?_; rintro e w3 ⟨rfl, b3⟩; dsimp only))
        go_ret
        exact ⟨by rw [HE2.out]; rfl, by rw [HB.out]; exact B2.out⟩
      · obtain ⟨v, rfl⟩ : ∃ v : Nat, x = v := ⟨x.toNat, by omega⟩
        have e0 : decide ((v : Int) < 0) = false := decide_eq_false hx0
        by_cases hvt : t < v
        · have e1 : decide ((t : Int) < (v : Int)) = true := decide_eq_true (by omega)
          have e1' : decide (t < v) = true := decide_eq_true hvt
          have HE2 := Lib.hid (show fitE c b = 4 by rw [HE.out, HRF.out, rangeL_no HM.out (by rw [HTI.out]; omega)]; rfl)
          clear hx0 hvt
          go_wp2_with (first
            | go_big_skip
            | ((with_reducible refine at_load 24 ?_); refine wpList_load_g ?_ 24 (.tmp 2) ?_ B _ _ _ _ ?_ X2.out Tryz.underlying24 ?_ size_contest ?_; rfl; rfl; rfl; rfl)
            | (go_at_call 85; refine (QT.out wr).mono ?_; rintro e w3 ⟨rfl, b3⟩; dsimp only))
          go_ret
          exact ⟨by rw [HE2.out]; rfl, by rw [HB.out]; exact B2.out.trans (b3.mono (Nat.le_of_lt hBr))⟩
        · have e1 : decide ((t : Int) < (v : Int)) = false := decide_eq_false (by omega)
          have e1' : decide (t < v) = false := decide_eq_false hvt
          have HR2 := Lib.hid (show ∀ x ∈ b.take (k + 1), 0 ≤ x ∧ x ≤ topI c by
            rw [HTK.out]
            intro x hx
            rcases List.mem_append.1 hx with h | h
            · exact HR.out x h
            · rw [List.mem_singleton.1 h, HTI.out]; omega)
          clear hx0 hvt
          go_wp2_with (first
            | go_big_skip
            | ((with_reducible refine at_load 24 ?_); refine wpList_load_g ?_ 24 (.tmp 2) ?_ B _ _ _ _ ?_ X2.out Tryz.underlying24 ?_ size_contest ?_; rfl; rfl; rfl; rfl)
            | (go_at_call 85; refine (QT.out wr).mono ?_; rintro e w3 ⟨rfl, b3⟩; dsimp only))
          go_roundw
          case rel => exact ⟨k + 1, by omega, by go_num, HR2.out, B2.out.trans (b3.mono (Nat.le_of_lt hBr)), bel_keep b3 hBr X2.out⟩
          case measure => simp [intOf]; omega
    · have dk : decide ((k : Int) < (b.length : Int)) = false := decide_eq_false (by omega)
      have dk2 : decide (k < b.length) = false := decide_eq_false hlt
      obtain rfl : k = b.length := by omega
      rw [List.take_length] at HR
      have hz := cntI_le b 0
      have HRF2 := Lib.hid (show refFitsB c b = if ranksB c.rl = true then onceL b (b.length - cntI b 0) else (decide (c.rl ≠ 1) || decide (((b.length - cntI b 0 : Nat) : Int) ≤ c.mo)) by rw [HRF.out, (rangeL_iff c b).2 HR.out, Bool.true_and])
      have QC0 := Lib.hid (QC.out wr 0 HI2.out)
      clear HRF HR
      generalize cntI b 0 = z at *
      have hsub : (b.length : Int) - (z : Int) = ((b.length - z : Nat) : Int) := by omega
      have hsle : b.length - z ≤ 12 := by omega
      generalize b.length - z = m at *
      go_upto_region 10 with (go_at_call 86; refine (QC0.out).mono ?_; rintro e w3 ⟨rfl, rfl⟩; dsimp only)
      clear hsub hz
      as_aux_lemma =>
      generalize hrk : ranksB c.rl = rk at *
      clear hrk
      cases rk with
      | true =>
        have HE3 := Lib.hid (show fitE c b = if onceL b m = true then 0 else 4 by rw [HE.out, HRF2.out]; rfl)
        clear HRF2 HE
        go_wp2_with (first
            | go_big_skip
            | ((with_reducible refine at_load 24 ?_); refine wpList_load_g ?_ 24 (.tmp 2) ?_ B _ _ _ _ ?_ X2.out Tryz.underlying24 ?_ size_contest ?_; rfl; rfl; rfl; rfl)
            | (go_at_call 87; refine (QR.out wr).mono ?_; rintro e w4 ⟨rfl, b4⟩; dsimp only; have HI4 := Lib.hid (HI2.out.below b4); have B4 := Lib.hid (B2.out.trans (b4.mono (Nat.le_of_lt hBr))); clear b4))
        go_loop [8] (fun i => ∃ n : Nat, n ≤ m ∧ i = .int .i64 ((n : Int) + 1) ∧ onceL b n = true) (fun i => m + 2 - (intOf i).toNat)
        case atStart => exact ⟨0, Nat.zero_le _, rfl, rfl⟩
        case round =>
        obtain ⟨n, hn2, rfl, hg⟩ := hrel
        have HG := Lib.hid hg
        clear hg
        by_cases hnm : n < m
        · have d1 : decide ((n : Int) + 1 ≤ (m : Int)) = true := decide_eq_true (by omega)
          have d1' : decide (n < m) = true := decide_eq_true hnm
          have HGS := Lib.hid (onceL_succ b n)
          have HGN := Lib.hid (onceL_no b n m hnm)
          have QCN := Lib.hid (QC.out w4 ((n : Int) + 1) HI4.out)
          have hc12 := cntI_le b ((n : Int) + 1)
          rw [show ((n + 1 : Nat) : Int) = (n : Int) + 1 from rfl] at HGS HGN
          generalize cntI b ((n : Int) + 1) = y at *
          by_cases hy : y = 1
          · have d2 : ((y : Int) != 1) = false := by rw [hy]; rfl
            have d2' : (y != 1) = false := by rw [hy]; rfl
            have HG2 := Lib.hid (show onceL b (n + 1) = true by rw [HGS.out, HG.out, decide_eq_true hy]; rfl)
            clear hy HGS HGN
            go_wp2_with (go_at_call 86; refine (QCN.out).mono ?_; rintro e w5 ⟨rfl, rfl⟩; dsimp only)
            go_round
            case rel => exact ⟨n + 1, by omega, by go_num, HG2.out⟩
            case measure => simp [intOf]; omega
          · have d2 : ((y : Int) != 1) = true := by rw [bne_iff_ne]; omega
            have d2' : (y != 1) = true := by rw [bne_iff_ne]; exact hy
            have HE4 := Lib.hid (show fitE c b = 4 by rw [HE3.out, HGN.out hy]; rfl)
            clear hy HGS HGN
            go_wp2_with (go_at_call 86; refine (QCN.out).mono ?_; rintro e w5 ⟨rfl, rfl⟩; dsimp only)
            go_ret
            exact ⟨by rw [HE4.out]; rfl, by rw [HB.out]; exact B4.out⟩
        · have d1 : decide ((n : Int) + 1 ≤ (m : Int)) = false := decide_eq_false (by omega)
          have d1' : decide (n < m) = false := decide_eq_false hnm
          obtain rfl : n = m := by omega
          have HE4 := Lib.hid (show fitE c b = 0 by rw [HE3.out, HG.out]; rfl)
          clear hnm
          go_wp2_with fail
          go_ret
          exact ⟨by rw [HE4.out]; rfl, by rw [HB.out]; exact B4.out⟩
      | false =>
        have HE3 := Lib.hid (show fitE c b = if (decide (c.rl ≠ 1) || decide ((m : Int) ≤ c.mo)) = true then 0 else 4 by rw [HE.out, HRF2.out]; rfl)
        clear HRF2 HE
        by_cases hr1 : c.rl = 1
        · have e1 : (c.rl == 1) = true := by rw [hr1]; rfl
          by_cases hmo : (m : Int) ≤ c.mo
          · have e2 : decide (c.mo < (m : Int)) = false := decide_eq_false (by omega)
            have HE4 := Lib.hid (show fitE c b = 0 by rw [HE3.out, decide_eq_true hmo, Bool.or_true]; rfl)
            clear hr1 hmo
            go_wp2_with (first
                | go_big_skip
                | ((with_reducible refine at_load 24 ?_); refine wpList_load_g ?_ 24 (.tmp 2) ?_ B _ _ _ _ ?_ X2.out Tryz.underlying24 ?_ size_contest ?_; rfl; rfl; rfl; rfl)
                | (go_at_call 87; refine (QR.out wr).mono ?_; rintro e w4 ⟨rfl, b4⟩; dsimp only; have B4 := Lib.hid (B2.out.trans (b4.mono (Nat.le_of_lt hBr))); have k2 : w4.cell? ⟨B, 2, none⟩ = some (.int .i64 c.rl) := cell_of_row _ _ _ _ _ _ (bel_keep b4 hBr X2.out); have k4 : w4.cell? ⟨B, 4, none⟩ = some (.int .i64 c.mo) := cell_of_row _ _ _ _ _ _ (bel_keep b4 hBr X2.out); clear b4))
            go_ret
            exact ⟨by rw [HE4.out]; rfl, by rw [HB.out]; exact B4.out⟩
          · have e2 : decide (c.mo < (m : Int)) = true := decide_eq_true (by omega)
            have HE4 := Lib.hid (show fitE c b = 4 by rw [HE3.out, decide_eq_false hmo, decide_eq_false (fun h => h hr1)]; rfl)
            clear hr1 hmo
            go_wp2_with (first
                | go_big_skip
                | ((with_reducible refine at_load 24 ?_); refine wpList_load_g ?_ 24 (.tmp 2) ?_ B _ _ _ _ ?_ X2.out Tryz.underlying24 ?_ size_contest ?_; rfl; rfl; rfl; rfl)
                | (go_at_call 87; refine (QR.out wr).mono ?_; rintro e w4 ⟨rfl, b4⟩; dsimp only; have B4 := Lib.hid (B2.out.trans (b4.mono (Nat.le_of_lt hBr))); have k2 : w4.cell? ⟨B, 2, none⟩ = some (.int .i64 c.rl) := cell_of_row _ _ _ _ _ _ (bel_keep b4 hBr X2.out); have k4 : w4.cell? ⟨B, 4, none⟩ = some (.int .i64 c.mo) := cell_of_row _ _ _ _ _ _ (bel_keep b4 hBr X2.out); clear b4))
            go_ret
            exact ⟨by rw [HE4.out]; rfl, by rw [HB.out]; exact B4.out⟩
        · have e1 : (c.rl == 1) = false := by rw [beq_eq_false_iff_ne]; exact hr1
          have HE4 := Lib.hid (show fitE c b = 0 by rw [HE3.out, decide_eq_true hr1]; rfl)
          clear hr1
          go_wp2_with (first
              | go_big_skip
              | ((with_reducible refine at_load 24 ?_); refine wpList_load_g ?_ 24 (.tmp 2) ?_ B _ _ _ _ ?_ X2.out Tryz.underlying24 ?_ size_contest ?_; rfl; rfl; rfl; rfl)
              | (go_at_call 87; refine (QR.out wr).mono ?_; rintro e w4 ⟨rfl, b4⟩; dsimp only; have B4 := Lib.hid (B2.out.trans (b4.mono (Nat.le_of_lt hBr))); have k2 : w4.cell? ⟨B, 2, none⟩ = some (.int .i64 c.rl) := cell_of_row _ _ _ _ _ _ (bel_keep b4 hBr X2.out); have k4 : w4.cell? ⟨B, 4, none⟩ = some (.int .i64 c.mo) := cell_of_row _ _ _ _ _ _ (bel_keep b4 hBr X2.out); clear b4))
          go_ret
          exact ⟨by rw [HE4.out]; rfl, by rw [HB.out]; exact B4.out⟩
  · have HE := Lib.hid (show fitE c b = 2 by unfold fitE; rw [if_pos hl])
    have d0 : ((b.length : Int) != (c.op.length : Int)) = true := by rw [bne_iff_ne]; omega
    have d0' : (b.length != c.op.length) = true := by rw [bne_iff_ne]; exact hl
    clear hl
    go_enter Tryz.func46, Tryz.ntmps46
    go_upto_region 1 with (fail)
    generalize hB : w.heap.size = B at *
    refine wp_abs (fun w1 => Below B w w1 ∧ w1.heap[B]? = some (.cells #[.string ⟨c.nm.toArray⟩, .slice oa c.op.length cap, .int .i64 c.rl, .int .i64 c.se, .int .i64 c.mo] 24 (0, 0))) ⟨by rw [← hB]; exact (Below.refl _ _).alloc (Nat.le_refl _) _, by rw [← hB]; exact heap_at rfl⟩ (fun w1 hw1 => ?_)
    have HB := Lib.hid hB
    have B1 := Lib.hid hw1.1
    have X1 := Lib.hid hw1.2
    have hBs : B < w1.heap.size := lt_of_heap hw1.2
    have k1 : w1.cell? ⟨B, 1, none⟩ = some (.slice oa c.op.length cap) := cell_of_row w1 B 1 _ _ _ X1.out
    clear hB hw1
    go_wp2_with fail
    go_ret
    exact ⟨by rw [HE.out]; rfl, by rw [HB.out]; exact B1.out⟩
end Go.Proofs.YtnohcdpnnhmpfaaGreatDoor
