/-
  Chapter 13, for Pairs: rows of ints; count.filled and the reference's Filled. Printed by tools/genfill.py.
-/
import Derived.Test.YtnohcdpnnhmpfaaGreatDoorCtJ
namespace Go.Proofs.YtnohcdpnnhmpfaaGreatDoor
set_option linter.unusedVariables false
set_option linter.unusedSimpArgs false
open Go.RowKit ML FM AU CT

/-- a row: its slice, its numbers -/
def RowV (w : World) (p : Value × List Int) : Prop := ∃ ob cb, p.1 = .slice ob p.2.length cb ∧ IsAt w ob p.2 ∧ p.2.length < 9223372036854775808
theorem RowV.below {w w1 : World} {p : Value × List Int} (h : RowV w p) (hb : Below w.heap.size w w1) : RowV w1 p := by
  obtain ⟨ob, cb, h1, h2, h3⟩ := h
  exact ⟨ob, cb, h1, h2.below hb, h3⟩
/-- rows in memory, behind one another -/
structure PsAt (w : World) (oa : Option Addr) (P : List (Value × List Int)) : Prop where
  cells : ∀ i (h : i < P.length), ∃ a, oa = some a ∧ a.block < w.heap.size ∧ w.cell? (a.add i) = some P[i].1
  rows : ∀ p ∈ P, RowV w p
theorem PsAt.below {w w1 : World} {oa : Option Addr} {P : List (Value × List Int)} (h : PsAt w oa P) (hb : Below w.heap.size w w1) : PsAt w1 oa P := ⟨fun i hi => by
  obtain ⟨a, h1, h2, h3⟩ := h.cells i hi
  exact ⟨a, h1, Nat.lt_of_lt_of_le h2 hb.size, by rw [hb.cell (by rw [addr_block]; exact h2)]; exact h3⟩, fun p hp => (h.rows p hp).below hb⟩
theorem psAt_own {w : World} {base : Nat} {e : TypeId} {v : Value} {n : Nat} {P : List (Value × List Int)} (h : w.ownsRow base e 1 v n (P.map Prod.fst)) (hr : ∀ p ∈ P, RowV w p) : ∃ oa cap, v = .slice oa P.length cap ∧ P.length ≤ cap ∧ PsAt w oa P := by
  have hl : P.length = n := by have := h.1; simp at this; omega
  rcases h.2 with ⟨hv, h0⟩ | ⟨g, cap, cur, hv, hb, hg, hnc, _, hc, ht⟩
  · have : P = [] := List.length_eq_zero_iff.1 (by omega)
    subst this
    exact ⟨none, 0, hv, Nat.le_refl _, ⟨fun i hi => by simp at hi, fun p hp => by simp at hp⟩⟩
  · refine ⟨some ⟨g, 0, none⟩, cap, by rw [hl]; exact hv, by rw [hl]; exact hnc, ⟨fun i hi => ⟨_, rfl, lt_of_heap hg, ?_⟩, hr⟩⟩
    exact h.cells (g := g) (by rw [hv]; rfl) i P[i].1 (by simp [hi])
theorem info_ints : (Tryz.prog.info? 29).map (fun i => (i.zero, i.size, i.bytes)) = some (some (.slice none 0 0), 1, 24) := by kernel_rfl
def CTest.rule (c : CTest) (rl : Int) : CTest := ⟨c.nm, c.op, rl, c.se, c.mo⟩
def somePos (b : List Int) : Bool := decide (∃ x ∈ b, 0 < x)
/-- a ballot that counts -/
def keepB (c : CTest) (b : List Int) : Bool := fitsB c b && somePos b
def keepP (c : CTest) (p : Value × List Int) : Bool := keepB c p.2
def allN (n : Nat) (P : List (Value × List Int)) : Prop := ∀ p ∈ P, p.2.length = n
instance (n : Nat) (P : List (Value × List Int)) : Decidable (allN n P) := by unfold allN; infer_instance
def filE (n : Nat) (P : List (Value × List Int)) : Int := if 4096 < P.length then 3 else if allN n P then 0 else 2
/-- what 'filled' answers -/
def FilGot (n : Nat) (c : CTest) (P : List (Value × List Int)) (w : World) (e : Ending) (w' : World) : Prop :=
  Below w.heap.size w w' ∧ if filE n P = 0 then ∃ oo co, PsAt w' oo (P.filter (keepP c)) ∧ e = .returned (.tuple #[.slice oo (P.filter (keepP c)).length co, .int .i64 0])
  else e = .returned (.tuple #[.slice none 0 0, .int .i64 (filE n P)])
theorem FilGot.bad {n : Nat} {c : CTest} {P : List (Value × List Int)} {w w' : World} {E : Int} (hE : filE n P = E) (h0 : E ≠ 0) (hb : Below w.heap.size w w') : FilGot n c P w (.returned (.tuple #[.slice none 0 0, .int .i64 E])) w' := by
  unfold FilGot
  rw [hE, if_neg h0]
  exact ⟨hb, rfl⟩
theorem FilGot.ok {n : Nat} {c : CTest} {P : List (Value × List Int)} {w w' : World} (hE : filE n P = 0) (hb : Below w.heap.size w w') {oo : Option Addr} {co : Nat} (hp : PsAt w' oo (P.filter (keepP c))) : FilGot n c P w (.returned (.tuple #[.slice oo (P.filter (keepP c)).length co, .int .i64 0])) w' := by
  unfold FilGot
  rw [hE, if_pos rfl]
  exact ⟨hb, oo, co, hp, rfl⟩
theorem filter_snoc {α : Type} (P : List α) (f : α → Bool) (k : Nat) (h : k < P.length) : (P.take (k + 1)).filter f = (P.take k).filter f ++ if f P[k] = true then [P[k]] else [] := by
  rw [List.take_succ_eq_append_getElem h, List.filter_append]
  by_cases hf : f P[k] = true <;> simp [hf]
theorem fitE_zero {c : CTest} {b : List Int} (hl : b.length = c.op.length) : fitE c b = if fitsB c b = true then 0 else 4 := by unfold fitE; rw [if_neg (fun h => h hl)]
theorem most_pos {b : List Int} {m : Int} (h : Most b m) : somePos b = decide (0 < m) := by
  unfold somePos
  by_cases hm : 0 < m
  · rw [decide_eq_true hm, decide_eq_true ⟨m, h.mem, hm⟩]
  · rw [decide_eq_false hm, decide_eq_false]
    rintro ⟨x, hx, h0⟩
    have := h.le x hx
    omega
set_option maxHeartbeats 4000000 in
set_option maxRecDepth 100000 in
theorem filled_any (c : CTest) (rl : Int) (P : List (Value × List Int)) (oa : Option Addr) (cap : Nat) (ob : Option Addr) (cb : Nat) (w : World) (hP : PsAt w ob P) (hn : c.op.length ≤ 12) (hn0 : 1 ≤ c.op.length) :
    Calls Tryz.prog 29 #[.agg #[.string ⟨c.nm.toArray⟩, .slice oa c.op.length cap, .int .i64 c.rl, .int .i64 c.se, .int .i64 c.mo], .int .i64 rl, .slice ob P.length cb] w (FilGot c.op.length (c.rule rl) P w) := by
  have HP := Lib.hid hP
  have QF := Lib.hid (show ∀ (w : World) (b : List Int) (ob : Option Addr) (cb : Nat) (h : IsAt w ob b), Calls Tryz.prog 69 #[.agg #[.string ⟨c.nm.toArray⟩, .slice oa c.op.length cap, .int .i64 rl, .int .i64 c.se, .int .i64 c.mo], .slice ob b.length cb] w (fun e w' => e = .returned (.int .i64 (fitE (c.rule rl) b)) ∧ Below w.heap.size w w') from fun w b ob cb h => balFits_any (c.rule rl) b oa cap ob cb w h hn)
  have hnop : (c.rule rl).op.length = c.op.length := rfl
  have HNO := Lib.hid hnop
  clear hP hnop
  have HC := Lib.hid (fun b : List Int => fitE_zero (c := c.rule rl) (b := b))
  rw [HNO.out] at HC
  generalize c.rule rl = cr at *
  obtain ⟨i0, hi, hz0, hz1, hz2⟩ := info_parts info_ints
  have HI := Lib.hid hi
  have HZ0 := Lib.hid hz0
  have HZ1 := Lib.hid hz1
  have HZ2 := Lib.hid hz2
  clear hi hz0 hz1 hz2
  by_cases hl : 4096 < P.length
  · have d0 : decide ((4096 : Int) < (P.length : Int)) = true := decide_eq_true (by omega)
    have d0' : decide (4096 < P.length) = true := decide_eq_true hl
    have HE := Lib.hid (show filE c.op.length P = 3 by unfold filE; rw [if_pos hl])
    clear hl
    go_enter Tryz.func29, Tryz.ntmps29
    go_upto_region 1 with (fail)
    generalize hB : w.heap.size = B at *
    refine wp_abs (fun w1 => Below B w w1 ∧ w1.heap[B]? = some (.cells #[.string ⟨c.nm.toArray⟩, .slice oa c.op.length cap, .int .i64 c.rl, .int .i64 c.se, .int .i64 c.mo] 24 (0, 0))) ⟨by rw [← hB]; exact (Below.refl _ _).alloc (Nat.le_refl _) _, by rw [← hB]; exact heap_at rfl⟩ (fun w1 hw1 => ?_)
    have HB := Lib.hid hB
    have B1 := Lib.hid hw1.1
    have X1 := Lib.hid hw1.2
    have hBs : B < w1.heap.size := lt_of_heap hw1.2
    clear hB hw1
    go_wp2_with fail
    go_ret2
    exact FilGot.bad HE.out (by decide) (by rw [HB.out]; exact B1.out)
  · have d0 : decide ((4096 : Int) < (P.length : Int)) = false := decide_eq_false (by omega)
    have d0' : decide (4096 < P.length) = false := decide_eq_false hl
    have hp4 : P.length ≤ 4096 := by omega
    have HE := Lib.hid (show filE c.op.length P = if allN c.op.length P then 0 else 2 by unfold filE; rw [if_neg hl])
    clear hl
    go_enter Tryz.func29, Tryz.ntmps29
    go_upto_region 1 with (fail)
    generalize hB : w.heap.size = B at *
    refine wp_abs (fun w1 => Below B w w1 ∧ w1.heap[B]? = some (.cells #[.string ⟨c.nm.toArray⟩, .slice oa c.op.length cap, .int .i64 c.rl, .int .i64 c.se, .int .i64 c.mo] 24 (0, 0))) ⟨by rw [← hB]; exact (Below.refl _ _).alloc (Nat.le_refl _) _, by rw [← hB]; exact heap_at rfl⟩ (fun w1 hw1 => ?_)
    have HB := Lib.hid hB
    have B1 := Lib.hid hw1.1
    have X1 := Lib.hid hw1.2
    have hBs : B < w1.heap.size := lt_of_heap hw1.2
    clear hB hw1
    have k2 : w1.cell? ⟨B, 2, none⟩ = some (.int .i64 c.rl) := cell_of_row w1 B 2 _ _ _ X1.out
    have f2 : w1.frozen? ⟨B, 2, none⟩ = false := frozen_of_row w1 B 2 _ _ X1.out
    go_upto_region 4 with (fail)
    refine wp_abs (fun w2 => Below B w w2 ∧ w2.heap[B]? = some (.cells #[.string ⟨c.nm.toArray⟩, .slice oa c.op.length cap, .int .i64 rl, .int .i64 c.se, .int .i64 c.mo] 24 (0, 0))) ⟨B1.out.setCell (Nat.le_refl _) _, by rw [heap_setCell_same _ _ _ _ _ _ X1.out]; rfl⟩ (fun w2 hw2 => ?_)
    have B2 := Lib.hid hw2.1
    have X2 := Lib.hid hw2.2
    have hBs : B < w2.heap.size := lt_of_heap hw2.2
    clear hw2 k2 f2 B1 X1
    clear d0 d0'
    go_wp2_with fail
    go_loopw [18, 8] (fun i v wr => ∃ (k : Nat) (vo : Value), k ≤ P.length ∧ i = .int .i64 k ∧ vo = v ∧ allN c.op.length (P.take k) ∧ Below B w wr ∧ wr.heap[B]? = some (.cells #[.string ⟨c.nm.toArray⟩, .slice oa c.op.length cap, .int .i64 rl, .int .i64 c.se, .int .i64 c.mo] 24 (0, 0)) ∧ wr.ownsRow (B + 1) 29 1 vo ((P.take k).filter (keepP cr)).length (((P.take k).filter (keepP cr)).map Prod.fst)) (fun i _ _ => P.length - (intOf i).toNat)
    case atStart => exact ⟨0, _, Nat.zero_le _, rfl, rfl, (fun x hx => by simp at hx), B2.out, X2.out, World.ownsRow_nil _ _ _ _⟩
    case round =>
    clear B2 X2 hBs
    obtain ⟨k, vo, hk, rfl, rfl, ha, hb3, hx3, ho3⟩ := hrel
    have HA := Lib.hid ha
    have B3 := Lib.hid hb3
    have X3 := Lib.hid hx3
    have O3 := Lib.hid ho3
    have hBr : B < wr.heap.size := lt_of_heap hx3
    have HP3 := Lib.hid (HP.out.below (HB.out.symm ▸ hb3))
    have k1 : wr.cell? ⟨B, 1, none⟩ = some (.slice oa c.op.length cap) := cell_of_row wr B 1 _ _ _ hx3
    clear ha hb3 hx3 ho3
    by_cases hlt : k < P.length
    · have dk : decide ((k : Int) < (P.length : Int)) = true := decide_eq_true (by omega)
      have dk2 : decide (k < P.length) = true := decide_eq_true hlt
      have hki : (k : Int) < (P.length : Int) := by omega
      obtain ⟨q, hoa, hqb, hqc⟩ := HP3.out.cells k hlt
      subst hoa
      have HFS0 := Lib.hid (filter_snoc P (keepP cr) k hlt)
      have HTK := Lib.hid (show P.take (k + 1) = P.take k ++ [P[k]] from List.take_succ_eq_append_getElem hlt)
      have HMEM := Lib.hid (List.getElem_mem hlt)
      have hOl : ((P.take k).filter (keepP cr)).length ≤ k := Nat.le_trans (List.length_filter_le _ _) (List.length_take_le _ _)
      generalize P[k] = p at *
      obtain ⟨or, cr2, hp1, hp2, hp3⟩ := HP3.out.rows p HMEM.out
      rw [hp1] at hqc
      have HIS := Lib.hid hp2
      have HK := Lib.hid (show keepP cr p = (fitsB cr p.2 && somePos p.2) from rfl)
      have HP1 := Lib.hid hp1
      clear hp1 hp2
      by_cases hln : p.2.length = c.op.length
      · have e0 : ((p.2.length : Int) != (c.op.length : Int)) = false := by rw [hln]; simp
        have e0' : (p.2.length != c.op.length) = false := by rw [hln]; simp
        have HAN := Lib.hid (show allN c.op.length (P.take (k + 1)) by
          rw [HTK.out]
          intro x hx
          rcases List.mem_append.1 hx with h | h
          · exact HA.out x h
          · rw [List.mem_singleton.1 h]; exact hln)
        have QM := Lib.hid (fun w h => max_any or p.2 cr2 w h (by omega) (by omega))
        have HF := Lib.hid (HC.out p.2 hln)
        clear hln
        generalize p.2 = L at *
        have QFL := Lib.hid (QF.out wr L or cr2 HIS.out)
        generalize fitsB cr L = f at *
        cases f with
        | false =>
          have HFS := Lib.hid (show (P.take (k + 1)).filter (keepP cr) = (P.take k).filter (keepP cr) by rw [HFS0.out, HK.out]; simp)
          rw [show fitE cr L = 4 by rw [HF.out]; rfl] at QFL
          clear HFS0 HK HF QF HC
          go_wp2_with (first
              | go_big_skip
              | ((with_reducible refine at_load 24 ?_); refine wpList_load_g ?_ 24 (.tmp 3) ?_ B _ _ _ _ ?_ X3.out Tryz.underlying24 ?_ size_contest ?_; rfl; rfl; rfl; rfl)
              | (go_at_call 69; refine (QFL.out).mono ?_; rintro e w4 ⟨rfl, b4⟩; dsimp only; have B4 := Lib.hid b4; clear b4))
          go_roundw
          case rel => exact ⟨k + 1, vo, by omega, by go_num, rfl, HAN.out, B3.out.trans (B4.out.mono (Nat.le_of_lt hBr)), bel_keep B4.out hBr X3.out, by rw [HFS.out]; exact own_below O3.out B4.out⟩
          case measure => simp [intOf]; omega
        | true =>
          rw [show fitE cr L = 0 by rw [HF.out]; rfl] at QFL
          generalize hsp : somePos L = sp at *
          have HSP := Lib.hid hsp
          clear hsp
          cases sp with
          | false =>
            have HFS := Lib.hid (show (P.take (k + 1)).filter (keepP cr) = (P.take k).filter (keepP cr) by rw [HFS0.out, HK.out]; simp)
            clear HFS0 HK HF QF HC
            go_wp2_with (first
                | go_big_skip
                | ((with_reducible refine at_load 24 ?_); refine wpList_load_g ?_ 24 (.tmp 3) ?_ B _ _ _ _ ?_ X3.out Tryz.underlying24 ?_ size_contest ?_; rfl; rfl; rfl; rfl)
                | (go_at_call 69; refine (QFL.out).mono ?_; rintro e w4 ⟨rfl, b4⟩; dsimp only; have B4 := Lib.hid b4; clear b4)
                | (go_at_call 70; refine (QM.out w4 (HIS.out.below B4.out)).mono ?_; rintro e w5 ⟨⟨m, rfl, hm⟩, rfl⟩; dsimp only; have e5 := (most_pos hm).symm.trans HSP.out; clear hm))
            go_roundw
            case rel => exact ⟨k + 1, vo, by omega, by go_num, rfl, HAN.out, B3.out.trans (B4.out.mono (Nat.le_of_lt hBr)), bel_keep B4.out hBr X3.out, by rw [HFS.out]; exact own_below O3.out B4.out⟩
            case measure => simp [intOf]; omega
          | true =>
            have HFS := Lib.hid (show (P.take (k + 1)).filter (keepP cr) = (P.take k).filter (keepP cr) ++ [p] by rw [HFS0.out, HK.out]; simp)
            clear HFS0 HK HF QF HC
            generalize (P.take k).filter (keepP cr) = O at *
            go_upto_region 11 with (first
                | go_big_skip
                | ((with_reducible refine at_load 24 ?_); refine wpList_load_g ?_ 24 (.tmp 3) ?_ B _ _ _ _ ?_ X3.out Tryz.underlying24 ?_ size_contest ?_; rfl; rfl; rfl; rfl)
                | (go_at_call 69; refine (QFL.out).mono ?_; rintro e w4 ⟨rfl, b4⟩; dsimp only; have B4 := Lib.hid b4; clear b4)
                | (go_at_call 70; refine (QM.out w4 (HIS.out.below B4.out)).mono ?_; rintro e w5 ⟨⟨m, rfl, hm⟩, rfl⟩; dsimp only; have e5 := (most_pos hm).symm.trans HSP.out; clear hm))
            have B34 := Lib.hid (B3.out.trans (B4.out.mono (Nat.le_of_lt hBr)))
            have hB4 := B34.out.size
            have hBw4 : B < w4.heap.size := Nat.lt_of_lt_of_le hBr B4.out.size
            go_wp2_with (at_builtin; go_loud (refine wpList_append_lies _ rfl (.tmp 37) (.tmp 39) 25 rfl (B + 1) 29 i0 (.slice none 0 0) 1 24 Tryz.underlying25 HI.out HZ0.out HZ1.out HZ2.out rfl (by decide) vo O.length (O.map Prod.fst) rfl ((own_below O3.out B4.out).alloc _) ⟨_, 0, none⟩ 1 1 [.slice or L.length cr2] rfl rfl (news_blk (heap_at rfl)) (by simp [Value.oneCell']) (by decide) (by unfold maxLen; omega) (by omega) (by simp; omega) _ rfl (fun g cp w7 own7 hg7 hf7 hlt7 => ?_)))
            have hne7 : ∀ j, vo.ownBlock = some j → B + 1 ≤ j := fun j hj => (O3.out.lt j hj).1
            have B7 := Lib.hid ((B34.out.alloc (by omega) (.cells #[.slice or L.length cr2] 29)).grown hg7 (by simp; omega) (fun j hj => by have := hne7 j hj; omega))
            have X7 := Lib.hid (grown_keep hg7 (fun e => by have := hne7 _ e; omega) (heap_lt (bel_keep B4.out hBr X3.out)))
            have O7 := Lib.hid own7
            clear own7 hg7 hf7 hlt7
            go_wp2_with fail
            go_roundw
            case rel => exact ⟨k + 1, _, by omega, by go_num, rfl, HAN.out, B7.out, X7.out, by rw [HFS.out, List.length_append, List.map_append, List.map_singleton, HP1.out]; exact O7.out⟩
            case measure => simp [intOf]; omega
      · have e0 : ((p.2.length : Int) != (c.op.length : Int)) = true := by rw [bne_iff_ne]; omega
        have e0' : (p.2.length != c.op.length) = true := by rw [bne_iff_ne]; exact hln
        have HE2 := Lib.hid (show filE c.op.length P = 2 by rw [HE.out, if_neg (fun h => hln (h p HMEM.out))])
        clear hln
        go_wp2_with fail
        go_ret2
        exact FilGot.bad HE2.out (by decide) (by rw [HB.out]; exact B3.out)
    · have dk : decide ((k : Int) < (P.length : Int)) = false := decide_eq_false (by omega)
      have dk2 : decide (k < P.length) = false := decide_eq_false hlt
      obtain rfl : k = P.length := by omega
      rw [List.take_length] at HA O3
      have HE2 := Lib.hid (show filE c.op.length P = 0 by rw [HE.out, if_pos HA.out])
      obtain ⟨oo, co, rfl, hco, hps⟩ := psAt_own O3.out (fun p hp => HP3.out.rows p (List.mem_filter.1 hp).1)
      have HPS := Lib.hid hps
      clear hps
      go_wp2_with fail
      go_ret2
      exact FilGot.ok HE2.out (by rw [HB.out]; exact B3.out) HPS.out
def anyL (b : List Int) : Bool := b.any fun x => x != 0
theorem anyL_snoc (b : List Int) (x : Int) : anyL (b ++ [x]) = (anyL b || x != 0) := by simp [anyL, List.any_append]
theorem keepP_ref (c : CTest) (p : Value × List Int) : keepP c p = (anyL p.2 && fitsB c p.2) := by
  unfold keepP keepB
  cases hf : fitsB c p.2 with
  | false => simp
  | true =>
    rw [Bool.true_and, Bool.and_true]
    have h0 : ∀ x ∈ p.2, 0 ≤ x := by
      rw [fits_ref] at hf
      unfold refFitsB at hf
      rw [Bool.and_eq_true, rangeL_iff] at hf
      exact fun x hx => (hf.1 x hx).1
    unfold somePos anyL
    rw [Bool.eq_iff_iff, decide_eq_true_eq, List.any_eq_true]
    constructor
    · rintro ⟨x, hx, h⟩; exact ⟨x, hx, by rw [bne_iff_ne]; omega⟩
    · rintro ⟨x, hx, h⟩
      rw [bne_iff_ne] at h
      have := h0 x hx
      exact ⟨x, hx, by omega⟩
set_option maxHeartbeats 8000000 in
set_option maxRecDepth 100000 in
theorem refFilled_any (c : CTest) (rl : Int) (P : List (Value × List Int)) (oa : Option Addr) (cap : Nat) (ob : Option Addr) (cb : Nat) (w : World) (hP : PsAt w ob P) (hn : c.op.length ≤ 12) :
    Calls Tryz.prog 12 #[.agg #[.string ⟨c.nm.toArray⟩, .slice oa c.op.length cap, .int .i64 c.rl, .int .i64 c.se, .int .i64 c.mo], .int .i64 rl, .slice ob P.length cb] w (FilGot c.op.length (c.rule rl) P w) := by
  have HP := Lib.hid hP
  have QF := Lib.hid (show ∀ (w : World) (b : List Int) (ob : Option Addr) (cb : Nat) (h : IsAt w ob b), Calls Tryz.prog 46 #[.agg #[.string ⟨c.nm.toArray⟩, .slice oa c.op.length cap, .int .i64 rl, .int .i64 c.se, .int .i64 c.mo], .slice ob b.length cb] w (fun e w' => e = .returned (.int .i64 (fitE (c.rule rl) b)) ∧ Below w.heap.size w w') from fun w b ob cb h => refFits_any (c.rule rl) b oa cap ob cb w h hn)
  have hnop : (c.rule rl).op.length = c.op.length := rfl
  have HNO := Lib.hid hnop
  clear hP hnop
  have HC := Lib.hid (fun b : List Int => fitE_zero (c := c.rule rl) (b := b))
  rw [HNO.out] at HC
  generalize c.rule rl = cr at *
  obtain ⟨i0, hi, hz0, hz1, hz2⟩ := info_parts info_ints
  have HI := Lib.hid hi
  have HZ0 := Lib.hid hz0
  have HZ1 := Lib.hid hz1
  have HZ2 := Lib.hid hz2
  clear hi hz0 hz1 hz2
  by_cases hl : 4096 < P.length
  · have d0 : decide ((4096 : Int) < (P.length : Int)) = true := decide_eq_true (by omega)
    have d0' : decide (4096 < P.length) = true := decide_eq_true hl
    have HE := Lib.hid (show filE c.op.length P = 3 by unfold filE; rw [if_pos hl])
    clear hl
    go_enter Tryz.func12, Tryz.ntmps12
    go_upto_region 1 with (fail)
    generalize hB : w.heap.size = B at *
    refine wp_abs (fun w1 => Below B w w1 ∧ w1.heap[B]? = some (.cells #[.string ⟨c.nm.toArray⟩, .slice oa c.op.length cap, .int .i64 c.rl, .int .i64 c.se, .int .i64 c.mo] 24 (0, 0))) ⟨by rw [← hB]; exact (Below.refl _ _).alloc (Nat.le_refl _) _, by rw [← hB]; exact heap_at rfl⟩ (fun w1 hw1 => ?_)
    have HB := Lib.hid hB
    have B1 := Lib.hid hw1.1
    have X1 := Lib.hid hw1.2
    have hBs : B < w1.heap.size := lt_of_heap hw1.2
    clear hB hw1
    go_wp2_with fail
    go_ret2
    exact FilGot.bad HE.out (by decide) (by rw [HB.out]; exact B1.out)
  · have d0 : decide ((4096 : Int) < (P.length : Int)) = false := decide_eq_false (by omega)
    have d0' : decide (4096 < P.length) = false := decide_eq_false hl
    have hp4 : P.length ≤ 4096 := by omega
    have HE := Lib.hid (show filE c.op.length P = if allN c.op.length P then 0 else 2 by unfold filE; rw [if_neg hl])
    clear hl
    go_enter Tryz.func12, Tryz.ntmps12
    go_upto_region 1 with (fail)
    generalize hB : w.heap.size = B at *
    refine wp_abs (fun w1 => Below B w w1 ∧ w1.heap[B]? = some (.cells #[.string ⟨c.nm.toArray⟩, .slice oa c.op.length cap, .int .i64 c.rl, .int .i64 c.se, .int .i64 c.mo] 24 (0, 0))) ⟨by rw [← hB]; exact (Below.refl _ _).alloc (Nat.le_refl _) _, by rw [← hB]; exact heap_at rfl⟩ (fun w1 hw1 => ?_)
    have HB := Lib.hid hB
    have B1 := Lib.hid hw1.1
    have X1 := Lib.hid hw1.2
    have hBs : B < w1.heap.size := lt_of_heap hw1.2
    clear hB hw1
    have k2 : w1.cell? ⟨B, 2, none⟩ = some (.int .i64 c.rl) := cell_of_row w1 B 2 _ _ _ X1.out
    have f2 : w1.frozen? ⟨B, 2, none⟩ = false := frozen_of_row w1 B 2 _ _ X1.out
    go_upto_region 4 with (fail)
    refine wp_abs (fun w2 => Below B w w2 ∧ w2.heap[B]? = some (.cells #[.string ⟨c.nm.toArray⟩, .slice oa c.op.length cap, .int .i64 rl, .int .i64 c.se, .int .i64 c.mo] 24 (0, 0))) ⟨B1.out.setCell (Nat.le_refl _) _, by rw [heap_setCell_same _ _ _ _ _ _ X1.out]; rfl⟩ (fun w2 hw2 => ?_)
    have B2 := Lib.hid hw2.1
    have X2 := Lib.hid hw2.2
    have hBs : B < w2.heap.size := lt_of_heap hw2.2
    clear hw2 k2 f2 B1 X1
    clear d0 d0'
    have HP2 := Lib.hid (HP.out.below (HB.out.symm ▸ B2.out))
    have k1 : w2.cell? ⟨B, 1, none⟩ = some (.slice oa c.op.length cap) := cell_of_row w2 B 1 _ _ _ X2.out
    go_wp2_with fail
    go_loop [23] (fun i => ∃ k : Nat, k ≤ P.length ∧ i = .int .i64 k ∧ allN c.op.length (P.take k)) (fun i => P.length - (intOf i).toNat)
    case atStart => exact ⟨0, Nat.zero_le _, rfl, (fun x hx => by simp at hx)⟩
    case round =>
    obtain ⟨k, hk, rfl, ha⟩ := hrel
    have HA := Lib.hid ha
    clear ha
    by_cases hlt : k < P.length
    · have dk : decide ((k : Int) < (P.length : Int)) = true := decide_eq_true (by omega)
      have dk2 : decide (k < P.length) = true := decide_eq_true hlt
      have hki : (k : Int) < (P.length : Int) := by omega
      obtain ⟨q, hoa, hqb, hqc⟩ := HP2.out.cells k hlt
      subst hoa
      have HTK := Lib.hid (show P.take (k + 1) = P.take k ++ [P[k]] from List.take_succ_eq_append_getElem hlt)
      have HMEM := Lib.hid (List.getElem_mem hlt)
      generalize P[k] = p at *
      obtain ⟨or, cr2, hp1, hp2, hp3⟩ := HP2.out.rows p HMEM.out
      rw [hp1] at hqc
      clear hp1 hp2
      by_cases hln : p.2.length = c.op.length
      · have e0 : ((p.2.length : Int) != (c.op.length : Int)) = false := by rw [hln]; simp
        have e0' : (p.2.length != c.op.length) = false := by rw [hln]; simp
        have HAN := Lib.hid (show allN c.op.length (P.take (k + 1)) by
          rw [HTK.out]
          intro x hx
          rcases List.mem_append.1 hx with h | h
          · exact HA.out x h
          · rw [List.mem_singleton.1 h]; exact hln)
        clear hln
        go_wp2_with fail
        go_round
        case rel => exact ⟨k + 1, by omega, by go_num, HAN.out⟩
        case measure => simp [intOf]; omega
      · have e0 : ((p.2.length : Int) != (c.op.length : Int)) = true := by rw [bne_iff_ne]; omega
        have e0' : (p.2.length != c.op.length) = true := by rw [bne_iff_ne]; exact hln
        have HE2 := Lib.hid (show filE c.op.length P = 2 by rw [HE.out, if_neg (fun h => hln (h p HMEM.out))])
        clear hln
        go_wp2_with fail
        go_ret2
        exact FilGot.bad HE2.out (by decide) (by rw [HB.out]; exact B2.out)
    · have dk : decide ((k : Int) < (P.length : Int)) = false := decide_eq_false (by omega)
      have dk2 : decide (k < P.length) = false := decide_eq_false hlt
      obtain rfl : k = P.length := by omega
      rw [List.take_length] at HA
      have HE2 := Lib.hid (show filE c.op.length P = 0 by rw [HE.out, if_pos HA.out])
      clear HE
      as_aux_lemma =>
      go_wp2_with fail
      clear k1 hlt dk dk2 hk
      go_loopw [36, 8] (fun i v wr => ∃ (k : Nat) (vo : Value), k ≤ P.length ∧ i = .int .i64 k ∧ vo = v ∧ Below B w wr ∧ wr.heap[B]? = some (.cells #[.string ⟨c.nm.toArray⟩, .slice oa c.op.length cap, .int .i64 rl, .int .i64 c.se, .int .i64 c.mo] 24 (0, 0)) ∧ wr.ownsRow (B + 1) 29 1 vo ((P.take k).filter (keepP cr)).length (((P.take k).filter (keepP cr)).map Prod.fst)) (fun i _ _ => P.length - (intOf i).toNat)
      case atStart => exact ⟨0, _, Nat.zero_le _, rfl, rfl, B2.out, X2.out, World.ownsRow_nil _ _ _ _⟩
      case round =>
      clear B2 X2 hBs HP2
      obtain ⟨k, vo, hk, rfl, rfl, hb3, hx3, ho3⟩ := hrel
      have B3 := Lib.hid hb3
      have X3 := Lib.hid hx3
      have O3 := Lib.hid ho3
      have hBr : B < wr.heap.size := lt_of_heap hx3
      have HP3 := Lib.hid (HP.out.below (HB.out.symm ▸ hb3))
      clear hb3 hx3 ho3
      by_cases hlt : k < P.length
      · have dk : decide ((k : Int) < (P.length : Int)) = true := decide_eq_true (by omega)
        have dk2 : decide (k < P.length) = true := decide_eq_true hlt
        have hki : (k : Int) < (P.length : Int) := by omega
        obtain ⟨q, hoa, hqb, hqc⟩ := HP3.out.cells k hlt
        subst hoa
        have HFS0 := Lib.hid (filter_snoc P (keepP cr) k hlt)
        have HMEM := Lib.hid (List.getElem_mem hlt)
        have hOl : ((P.take k).filter (keepP cr)).length ≤ k := Nat.le_trans (List.length_filter_le _ _) (List.length_take_le _ _)
        generalize P[k] = p at *
        obtain ⟨or, cr2, hp1, hp2, hp3⟩ := HP3.out.rows p HMEM.out
        rw [hp1] at hqc
        have HIS := Lib.hid hp2
        have HK := Lib.hid (keepP_ref cr p)
        have HP1 := Lib.hid hp1
        have HF := Lib.hid (HC.out p.2 (HA.out p HMEM.out))
        have hl12 : p.2.length ≤ 12 := by rw [HA.out p HMEM.out]; exact hn
        clear hp1 hp2 hp3
        generalize p.2 = L at *
        have QFL := Lib.hid (QF.out wr L or cr2 HIS.out)
        generalize (P.take k).filter (keepP cr) = O at *
        go_wp2_with fail
        obtain ⟨wo, hwo⟩ : ∃ wo : World, wo = wr := ⟨_, rfl⟩
        subst hwo
        go_loop [42, 13] (fun i v => ∃ j : Nat, j ≤ L.length ∧ i = .int .i64 j ∧ v = .bool (anyL (L.take j))) (fun i _ => L.length - (intOf i).toNat)
        case atStart => exact ⟨0, Nat.zero_le _, rfl, rfl⟩
        case round =>
        obtain ⟨j, hj, rfl, rfl⟩ := hrel
        by_cases hjt : j < L.length
        · have ek : decide ((j : Int) < (L.length : Int)) = true := decide_eq_true (by omega)
          have ek2 : decide (j < L.length) = true := decide_eq_true hjt
          have hji : (j : Int) < (L.length : Int) := by omega
          obtain ⟨r, hor, hrb, hrc⟩ := HIS.out.cells j hjt
          subst hor
          have HAS := Lib.hid (show anyL (L.take (j + 1)) = (anyL (L.take j) || L[j] != 0) by rw [List.take_succ_eq_append_getElem hjt, anyL_snoc])
          generalize L[j] = y at *
          generalize anyL (L.take j) = sb at *
          cases sb with
          | true =>
            have HA2 := Lib.hid (show true = anyL (L.take (j + 1)) by rw [HAS.out]; rfl)
            clear HAS
            go_wp2_with fail
            go_round
            case rel => exact ⟨j + 1, by omega, by go_num, by rw [← HA2.out]⟩
            case measure => simp [intOf]; omega
          | false =>
            have HA2 := Lib.hid (show (y != 0) = anyL (L.take (j + 1)) by rw [HAS.out]; rfl)
            clear HAS
            go_wp2_with fail
            go_round
            case rel => exact ⟨j + 1, by omega, by go_num, by rw [← HA2.out]⟩
            case measure => simp [intOf]; omega
        · have ek : decide ((j : Int) < (L.length : Int)) = false := decide_eq_false (by omega)
          have ek2 : decide (j < L.length) = false := decide_eq_false hjt
          obtain rfl : j = L.length := by omega
          rw [List.take_length]
          generalize anyL L = sb at *
          clear hjt ek ek2 hj
          cases sb with
          | false =>
            have HFS := Lib.hid (show (P.take (k + 1)).filter (keepP cr) = O by rw [HFS0.out, HK.out]; simp)
            clear HFS0 HK HF QF HC
            go_wp2_with (first
                | go_big_skip
                | ((with_reducible refine at_load 24 ?_); refine wpList_load_g ?_ 24 (.tmp 3) ?_ B _ _ _ _ ?_ X3.out Tryz.underlying24 ?_ size_contest ?_; rfl; rfl; rfl; rfl)
                | (go_at_call 46; refine (QFL.out).mono ?_; rintro e w4 ⟨rfl, b4⟩; dsimp only; have B4 := Lib.hid b4; clear b4))
            go_roundw
            case rel => exact ⟨k + 1, vo, by omega, by go_num, rfl, B3.out, X3.out, by rw [HFS.out]; exact O3.out⟩
            case measure => simp [intOf]; omega
          | true =>
            generalize fitsB cr L = f at *
            cases f with
            | false =>
              have HFS := Lib.hid (show (P.take (k + 1)).filter (keepP cr) = O by rw [HFS0.out, HK.out]; simp)
              rw [show fitE cr L = 4 by rw [HF.out]; rfl] at QFL
              clear HFS0 HK HF QF HC
              go_wp2_with (first
                  | go_big_skip
                  | ((with_reducible refine at_load 24 ?_); refine wpList_load_g ?_ 24 (.tmp 3) ?_ B _ _ _ _ ?_ X3.out Tryz.underlying24 ?_ size_contest ?_; rfl; rfl; rfl; rfl)
                  | (go_at_call 46; refine (QFL.out).mono ?_; rintro e w4 ⟨rfl, b4⟩; dsimp only; have B4 := Lib.hid b4; clear b4))
              go_roundw
              case rel => exact ⟨k + 1, vo, by omega, by go_num, rfl, B3.out.trans (B4.out.mono (Nat.le_of_lt hBr)), bel_keep B4.out hBr X3.out, by rw [HFS.out]; exact own_below O3.out B4.out⟩
              case measure => simp [intOf]; omega
            | true =>
              have HFS := Lib.hid (show (P.take (k + 1)).filter (keepP cr) = O ++ [p] by rw [HFS0.out, HK.out]; simp)
              rw [show fitE cr L = 0 by rw [HF.out]; rfl] at QFL
              clear HFS0 HK HF QF HC
              go_upto_region 21 with (first
                  | go_big_skip
                  | ((with_reducible refine at_load 24 ?_); refine wpList_load_g ?_ 24 (.tmp 3) ?_ B _ _ _ _ ?_ X3.out Tryz.underlying24 ?_ size_contest ?_; rfl; rfl; rfl; rfl)
                  | (go_at_call 46; refine (QFL.out).mono ?_; rintro e w4 ⟨rfl, b4⟩; dsimp only; have B4 := Lib.hid b4; clear b4))
              have B34 := Lib.hid (B3.out.trans (B4.out.mono (Nat.le_of_lt hBr)))
              have hB4 := B34.out.size
              have hBw4 : B < w4.heap.size := Nat.lt_of_lt_of_le hBr B4.out.size
              go_wp2_with (at_builtin; go_loud (refine wpList_append_lies _ rfl (.tmp 59) (.tmp 61) 25 rfl (B + 1) 29 i0 (.slice none 0 0) 1 24 Tryz.underlying25 HI.out HZ0.out HZ1.out HZ2.out rfl (by decide) vo O.length (O.map Prod.fst) rfl ((own_below O3.out B4.out).alloc _) ⟨_, 0, none⟩ 1 1 [.slice or L.length cr2] rfl rfl (news_blk (heap_at rfl)) (by simp [Value.oneCell']) (by decide) (by unfold maxLen; omega) (by omega) (by simp; omega) _ rfl (fun g cp w7 own7 hg7 hf7 hlt7 => ?_)))
              have hne7 : ∀ j, vo.ownBlock = some j → B + 1 ≤ j := fun j hj => (O3.out.lt j hj).1
              have B7 := Lib.hid ((B34.out.alloc (by omega) (.cells #[.slice or L.length cr2] 29)).grown hg7 (by simp; omega) (fun j hj => by have := hne7 j hj; omega))
              have X7 := Lib.hid (grown_keep hg7 (fun e => by have := hne7 _ e; omega) (heap_lt (bel_keep B4.out hBr X3.out)))
              have O7 := Lib.hid own7
              clear own7 hg7 hf7 hlt7
              go_wp2_with fail
              go_roundw
              case rel => exact ⟨k + 1, _, by omega, by go_num, rfl, B7.out, X7.out, by rw [HFS.out, List.length_append, List.map_append, List.map_singleton, HP1.out]; exact O7.out⟩
              case measure => simp [intOf]; omega
      · have dk : decide ((k : Int) < (P.length : Int)) = false := decide_eq_false (by omega)
        have dk2 : decide (k < P.length) = false := decide_eq_false hlt
        obtain rfl : k = P.length := by omega
        rw [List.take_length] at O3
        obtain ⟨oo, co, rfl, hco, hps⟩ := psAt_own O3.out (fun p hp => HP3.out.rows p (List.mem_filter.1 hp).1)
        have HPS := Lib.hid hps
        clear hps
        go_wp2_with fail
        go_ret2
        exact FilGot.ok HE2.out (by rw [HB.out]; exact B3.out) HPS.out
end Go.Proofs.YtnohcdpnnhmpfaaGreatDoor
