/-
  Chapter 13: the reference's Lots. Printed by tools/genrlots2.py.
-/
import Derived.Test.YtnohcdpnnhmpfaaCtR
import Derived.Deep.AppendSrc
import Derived.Lib.SlFresh
namespace Go.Proofs.Ytnohcdpnnhmpfaa
set_option linter.unusedVariables false
set_option linter.unusedSimpArgs false
open Go.RowKit ML FM AU CT

theorem isAt_flat {w : World} {a : Addr} {L : List Int} (h : IsAt w (some a) L) : ∀ j u, (ivals L)[j]? = some u → w.cell? (a.add j) = some u := ints_flat h
/-- ints appended, from whatever source -/
theorem run_append_ints {w : World} (i : TypeInfo) (hi : Try.prog.info? 3 = some i) (hz : i.zero = some (.int .i64 0)) (hsize : i.size = 1) (hby : i.bytes = 8) (base g n cap : Nat) (xs : List Value) (hown : w.ownsRow base 3 1 (.slice (some ⟨g, 0, none⟩) n cap) n xs) (oS : Option Addr) (L : List Int) (lS c : Nat) (hlS : lS = L.length) (hS : IsAt w oS L) (h : n + L.length < 1000) (hbase : base ≤ w.heap.size) :
    ∃ g' cap' w', (Builtin.append_ #[25, 25] 25 #[.slice (some ⟨g, 0, none⟩) n cap, .slice oS lS c]).run Try.prog w = .ok (.slice (some ⟨g', 0, none⟩) (n + lS) cap') w' ∧
      w'.ownsRow base 3 1 (.slice (some ⟨g', 0, none⟩) (n + lS) cap') (n + lS) (xs ++ ivals L) ∧ w.grownBy w' (some g) ∧ (g' = g ∨ g' = w.heap.size) := by
  subst hlS
  cases oS with
  | none =>
    have hL : L = [] := by
      cases L with
      | nil => rfl
      | cons x r => obtain ⟨a, ha, _⟩ := hS.cells 0 (by simp); cases ha
    subst hL
    have hcap : n ≤ cap := by
      rcases hown.2 with ⟨h, _⟩ | ⟨g2, c2, cur, hv, _, _, hnc, _⟩
      · cases h
      · obtain ⟨_, rfl⟩ : _ ∧ cap = c2 := by simpa using hv
        exact hnc
    have hr := run_append_room_src (P := Try.prog) (w := w) 25 25 25 3 i Try.underlying25 hi g 0 n cap (.slice none 0 c) 0 [] (Src.ofNil _ Try.underlying25 c) (by omega) (fun j hj => by simp at hj) (fun j hj => by simp at hj)
    refine ⟨g, cap, _, hr, ?_, ?_, .inl rfl⟩
    · simpa [ivals, World.setCells] using hown
    · simpa [World.setCells] using grown_below (Below.refl w.heap.size w)
  | some a =>
    obtain ⟨v', w', hr, h2, h3, h4, h5⟩ := run_append_own_at (P := Try.prog) (w := w) base 25 25 3 i (.int .i64 0) 1 8 Try.underlying25 hi hz hsize hby rfl (by decide) _ n xs hown a L.length c (ivals L) (by simp [ivals]) (isAt_flat hS) (ivals_one _) (by unfold maxLen; omega) (by omega) hbase
    rcases h2.2 with ⟨hv, h0⟩ | ⟨g', cap', cur, hv, _⟩
    · have := (h4.1 hv).1
      cases this
    · subst hv
      refine ⟨g', cap', w', hr, h2, h3, ?_⟩
      rcases h5 with h5 | h5
      · left; simpa [Value.ownBlock] using h5
      · right; simpa [Value.ownBlock] using h5
theorem isAt_drop {w : World} {ol : Option Addr} {O : List Int} (h : IsAt w ol O) (m cl : Nat) (hcl : O.length ≤ cl) : IsAt w (if cl = m then ol else Option.map (fun x => x.add m) ol) (O.drop m) := ⟨fun i hi => by
  have hi2 : m + i < O.length := by rw [List.length_drop] at hi; omega
  rw [if_neg (by omega)]
  obtain ⟨a, h1, h2, h3⟩ := h.cells (m + i) hi2
  subst h1
  refine ⟨a.add m, rfl, by rw [addr_block]; exact h2, ?_⟩
  rw [Go.Deep.add_add, h3]
  simp⟩
theorem own_empty {w : World} {base E : Nat} {e : TypeId} (h : w.heap[E]? = some (.cells #[] e (0, 0))) (hb : base ≤ E) : w.ownsRow base e 1 (.slice (some ⟨E, 0, none⟩) 0 0) 0 [] := ⟨rfl, .inr ⟨E, 0, #[], rfl, hb, h, Nat.le_refl _, by unfold maxLen; omega, rfl, rfl⟩⟩
theorem isAt_one {w : World} {F : Nat} {x : Int} {e : TypeId} (h : w.heap[F]? = some (.cells #[.int .i64 x] e (0, 0))) : IsAt w (some ⟨F, 0, none⟩) [x] := ⟨fun i hi => ⟨_, rfl, lt_of_heap h, by
  have hi' : i < 1 := hi
  obtain rfl : i = 0 := by omega
  rw [Addr.add_mid]
  exact cell_of_row w F 0 _ _ _ h⟩⟩

def LotsRel (c : CTest) (lots : Bytes) (oa : Option Addr) (cap : Nat) (B : Nat) (w : World) (i vl : Value) (wr : World) : Prop :=
  ∃ (k : Nat) (O : List Int) (ol : Option Addr) (cl : Nat), k ≤ c.op.length ∧ i = .int .i64 k ∧ Ord k (lotF c lots) O ∧ vl = .slice ol O.length cl ∧ O.length ≤ cl ∧ IsAt wr ol O ∧ Below B w wr ∧ wr.heap[B]? = some (.cells #[.string ⟨c.nm.toArray⟩, .slice oa c.op.length cap, .int .i64 c.rl, .int .i64 c.se, .int .i64 c.mo] 24 (0, 0))
theorem lots_rel {c : CTest} {lots : Bytes} {oa : Option Addr} {cap B k n g base c3 : Nat} {w w9 : World} {A C : List Int} {i : Value} (hk : k + 1 ≤ c.op.length) (hi : i = .int .i64 ((k + 1 : Nat) : Int)) (ho : Ord (k + 1) (lotF c lots) (A ++ (k : Int) :: C)) (hl : A.length + 1 + C.length = n)
    (own : w9.ownsRow base 3 1 (.slice (some ⟨g, 0, none⟩) n c3) n (ivals (A ++ [(k : Int)] ++ C))) (hb : Below B w w9) (hx : w9.heap[B]? = some (.cells #[.string ⟨c.nm.toArray⟩, .slice oa c.op.length cap, .int .i64 c.rl, .int .i64 c.se, .int .i64 c.mo] 24 (0, 0))) : LotsRel c lots oa cap B w i (.slice (some ⟨g, 0, none⟩) n c3) w9 := by
  have e : A ++ [(k : Int)] ++ C = A ++ (k : Int) :: C := by simp
  rw [e] at own
  have hln : (A ++ (k : Int) :: C).length = n := by simp; omega
  obtain ⟨oa', ca', hv, hc, hI⟩ := isAt_own own
  obtain ⟨rfl, _, rfl⟩ : some ⟨g, 0, none⟩ = oa' ∧ n = _ ∧ c3 = ca' := by injection hv with h1 h2 h3; exact ⟨h1, h2, h3⟩
  exact ⟨k + 1, _, _, c3, hk, hi, ho, by rw [hln], hc, hI, hb, hx⟩
set_option maxHeartbeats 4000000 in
set_option maxRecDepth 100000 in
theorem refLots_any (c : CTest) (lots : Bytes) (oa : Option Addr) (cap : Nat) (w : World) (hs : StrsAt w oa c.op) (hf : c.Fits lots) (hnl : c.op.length < 9223372036854775807) :
    Calls Try.prog 6 #[.agg (c.cells oa cap).toArray, .string ⟨lots.toArray⟩] w (LotsGot c lots w) := by
  have hC : (c.cells oa cap).toArray = #[.string ⟨c.nm.toArray⟩, .slice oa c.op.length cap, .int .i64 c.rl, .int .i64 c.se, .int .i64 c.mo] := rfl
  have QW := Lib.hid (fun w => refWrong_any c oa cap w hnl)
  have QA := Lib.hid (fun i k w h hi hk => refAhead_any c lots i k oa cap w h hf hi hk hnl)
  rw [hC] at QW QA ⊢
  clear hC hf
  have HS := Lib.hid hs
  clear hs
  go_enter Try.func6, Try.ntmps6
  go_upto_region 1 with (fail)
  generalize hB : w.heap.size = B at *
  refine wp_abs (fun w1 => Below B w w1 ∧ w1.heap[B]? = some (.cells #[.string ⟨c.nm.toArray⟩, .slice oa c.op.length cap, .int .i64 c.rl, .int .i64 c.se, .int .i64 c.mo] 24 (0, 0))) ⟨by rw [← hB]; exact (Below.refl _ _).alloc (Nat.le_refl _) _, by rw [← hB]; exact heap_at rfl⟩ (fun w1 hw1 => ?_)
  have HB := Lib.hid hB
  have B1 := Lib.hid hw1.1
  have X1 := Lib.hid hw1.2
  have hBs : B < w1.heap.size := lt_of_heap hw1.2
  have k0 : w1.cell? ⟨B, 0, none⟩ = some (.string ⟨c.nm.toArray⟩) := cell_of_row w1 B 0 _ _ _ hw1.2
  have k1 : w1.cell? ⟨B, 1, none⟩ = some (.slice oa c.op.length cap) := cell_of_row w1 B 1 _ _ _ hw1.2
  have k2 : w1.cell? ⟨B, 2, none⟩ = some (.int .i64 c.rl) := cell_of_row w1 B 2 _ _ _ hw1.2
  have k3 : w1.cell? ⟨B, 3, none⟩ = some (.int .i64 c.se) := cell_of_row w1 B 3 _ _ _ hw1.2
  clear hB hw1
  clear k0 k2 k3
  have HWE := Lib.hid (show wrongE c = if wrongC c = true then 2 else 0 from rfl)
  cases hW : wrongC c with
  | true =>
    have HW := Lib.hid hW
    have HE := Lib.hid (show wrongE c = 2 from HWE.out.trans (if_pos hW))
    have e1 : (wrongE c != 0) = true := by rw [HE.out]; rfl
    clear hW HWE
    go_wp2_with (first | (refine wpList_load_whole rfl 24 _ rfl B _ _ _ _ rfl X1.out Try.underlying24 rfl size_contest ?_) | (go_at_call 18; refine (QW.out w1).mono ?_; rintro e w2 ⟨rfl, b2⟩))
    go_ret2
    exact ⟨by rw [HB.out]; exact B1.out.trans (b2.mono (Nat.le_of_lt hBs)), by rw [if_pos HW.out, ← HE.out]; rfl⟩
  | false =>
    have HW := Lib.hid hW
    have HE := Lib.hid (show wrongE c = 0 from HWE.out.trans (if_neg (by rw [hW]; decide)))
    have hn := Lib.hid (show 1 ≤ c.op.length ∧ c.op.length ≤ 12 by unfold wrongC at hW; have := of_decide_eq_false hW; omega)
    have e1 : (wrongE c != 0) = false := by rw [HE.out]; rfl
    clear hW HWE
    go_upto_region 5 with (first | (refine wpList_load_whole rfl 24 _ rfl B _ _ _ _ rfl X1.out Try.underlying24 rfl size_contest ?_) | (go_at_call 18; refine (QW.out w1).mono ?_; rintro e w2 ⟨rfl, b2⟩))
    have X2 := Lib.hid (bel_keep b2 hBs X1.out)
    have B2 := Lib.hid (B1.out.trans (b2.mono (Nat.le_of_lt hBs)))
    have k1 : w2.cell? ⟨B, 1, none⟩ = some (.slice oa c.op.length cap) := cell_of_row w2 B 1 _ _ _ X2.out
    clear e1 b2 hBs QW B1 X1
    obtain ⟨i0, hi, hz0, hz1, hz2⟩ := info_parts info_i64
    have HI := Lib.hid hi
    have HZ0 := Lib.hid hz0
    have HZ1 := Lib.hid hz1
    have HZ2 := Lib.hid hz2
    clear hi hz0 hz1 hz2
    go_wp2_with fail
    clear k1
    go_loopw [18, 7] (fun i vl wr => LotsRel c lots oa cap B w i vl wr) (fun i _ _ => c.op.length - (intOf i).toNat)
    case atStart => exact ⟨0, [], none, 0, by omega, rfl, ⟨List.Perm.refl _, List.Pairwise.nil⟩, rfl, by simp, IsAt.nil, B2.out, X2.out⟩
    case round =>
    clear B2 X2
    obtain ⟨k, O, ol, cl, hk, rfl, ho, rfl, hcl, hIO, hbel, hx⟩ := hrel
    have HO := Lib.hid ho
    have IOr := Lib.hid hIO
    have BB := Lib.hid hbel
    have XX := Lib.hid hx
    clear ho hIO hbel hx
    by_cases hlt : k < c.op.length
    · as_aux_lemma =>
      have dk : decide ((k : Int) < (c.op.length : Int)) = true := decide_eq_true (by omega)
      have dk2 : decide (k < c.op.length) = true := decide_eq_true hlt
      have hki : (k : Int) < (c.op.length : Int) := by omega
      have hOl := Lib.hid (HO.out.len)
      have hn12 := hn.out
      have hO12 : O.length ≤ 12 := by have := hOl.out; omega
      clear hlt
      go_wp2_with fail
      go_loopw [9] (fun j wr => ∃ m : Nat, m ≤ O.length ∧ j = .int .i64 m ∧ (∀ a ∈ O.take m, ltL (lotF c lots) a k) ∧ IsAt wr ol O ∧ Below B w wr ∧ wr.heap[B]? = some (.cells #[.string ⟨c.nm.toArray⟩, .slice oa c.op.length cap, .int .i64 c.rl, .int .i64 c.se, .int .i64 c.mo] 24 (0, 0))) (fun j _ => O.length - (intOf j).toNat)
      case atStart => exact ⟨0, by omega, rfl, by simp, IOr.out, BB.out, XX.out⟩
      case round =>
      clear IOr BB XX
      obtain ⟨m, hm, rfl, hA, hIO, hbel, hx⟩ := hrel
      have HA := Lib.hid hA
      have IOr := Lib.hid hIO
      have BB := Lib.hid hbel
      have XX := Lib.hid hx
      clear hA hIO hbel hx
      have hBr : B < wr.heap.size := lt_of_heap XX.out
      obtain ⟨M, hM⟩ : ∃ M, M = wr.heap.size := ⟨_, rfl⟩
      have hx0 : Below M wr wr.drew := (Below.refl _ _).drew
      have hBM : B < M := by omega
      have HM := Lib.hid hM
      clear hM
      by_cases hlt : m < O.length
      · as_aux_lemma =>
        have dm : decide ((m : Int) < (O.length : Int)) = true := decide_eq_true (by omega)
        have dm2 : decide (m < O.length) = true := decide_eq_true hlt
        have hmi : (m : Int) < (O.length : Int) := by omega
        obtain ⟨q, hoa, hqb, hqc⟩ := IOr.out.cells m hlt
        subst hoa
        obtain ⟨o, ho⟩ : ∃ o : Nat, O[m] = (o : Int) := ⟨O[m].toNat, by have := HO.out.mem.1 (List.getElem_mem hlt); omega⟩
        have hok : o < k := by have := HO.out.mem.1 (List.getElem_mem hlt); rw [ho] at this; omega
        have HTK := Lib.hid (show O.take (m + 1) = O.take m ++ [(o : Int)] by rw [List.take_succ_eq_append_getElem hlt, ho])
        have HDR := Lib.hid (show O.drop m = (o : Int) :: O.drop (m + 1) by rw [← ho]; exact List.drop_eq_getElem_cons hlt)
        rw [ho] at hqc
        have hqM : (q.add m).block < M := by rw [addr_block, HM.out]; exact hqb
        have HQC := Lib.hid hqc
        have dq : ∀ x : BelowT M wr, x.w.cell? (q.add m) = some (.int .i64 o) := fun x => bel_cell ⟨x, rfl⟩ hqM HQC.out
        have QA2 := Lib.hid (QA.out o k wr.drew ((HS.out.below (HB.out.symm ▸ BB.out)).below (HM.out ▸ hx0)) (by omega) (by omega))
        clear ho hqc hqb
        cases ha : aheadB (lotF c lots) o k with
        | true =>
          rw [ha] at QA2
          have HAH := Lib.hid ((aheadB_iff _ _ _).1 ha)
          clear ha
          go_wp2_with fail
          refine Seg.wp_region_segs (fun w' => ∃ x : BelowT M wr, w' = x.w) [] [0, 1, 2, 3, 4, 5, 6, 7, 8, 9, 10, 11] 12 (by kernel_rfl) (by kernel_rfl) (fun _ _ d _ _ h => by cases d <;> exact h) (⟨⟨_, hx0⟩, rfl⟩) ?_
          simp only [List.map_cons, List.map_nil, Seg.opAt, List.drop_succ_cons, List.drop_zero, Seg.wpSegs, Array.getD_eq_getD_getElem?, List.getElem?_toArray, List.getElem?_cons_succ, List.getElem?_cons_zero, Option.getD_some]
          first | go_big_quiet_step (fail) | quiet_step (fail)
          first | go_big_quiet_step (fail) | quiet_step (fail)
          first | go_big_quiet_step (fail) | quiet_step (fail)
          first | go_big_quiet_step (fail) | quiet_step (fail)
          first | go_big_quiet_step (fail) | quiet_step (fail)
          refine wpQuiet_load_whole rfl 24 _ rfl B #[.string ⟨c.nm.toArray⟩, .slice oa c.op.length cap, .int .i64 c.rl, .int .i64 c.se, .int .i64 c.mo] _ _ _ rfl XX.out hBM Try.underlying24 rfl size_contest ?_
          first | go_big_quiet_step (fail) | quiet_step (fail)
          first | go_big_quiet_step (fail) | quiet_step (fail)
          first | go_big_quiet_step (fail) | quiet_step (fail)
          first | go_big_quiet_step (fail) | quiet_step (fail)
          first | go_big_quiet_step (fail) | quiet_step (fail)
          first | go_big_quiet_step (fail) | quiet_step (fail)
          refine wpQuiet_nil ?_
          go_wp2_with (go_at_call 19; refine QA2.out.mono ?_; rintro e w3 ⟨rfl, b3⟩)
          go_roundw
          have bw : Below wr.heap.size wr w3 := (Below.refl _ _).drew.trans b3
          case rel => exact ⟨m + 1, by omega, by go_num, by rw [HTK.out]; intro a h; rcases List.mem_append.1 h with h | h; exact HA.out a h; (obtain rfl : a = (o : Int) := by simpa using h); exact HAH.out, IOr.out.below bw, BB.out.trans (bw.mono (by omega)), bel_keep bw hBr XX.out⟩
          case measure => simp [intOf]; omega
        | false =>
          rw [ha] at QA2
          have HAH := Lib.hid (show ¬ ltL (lotF c lots) o k from fun h => by rw [(aheadB_iff _ _ _).2 h] at ha; cases ha)
          clear ha
          go_wp2_with fail
          refine Seg.wp_region_segs (fun w' => ∃ x : BelowT M wr, w' = x.w) [] [0, 1, 2, 3, 4, 5, 6, 7, 8, 9, 10, 11] 12 (by kernel_rfl) (by kernel_rfl) (fun _ _ d _ _ h => by cases d <;> exact h) (⟨⟨_, hx0⟩, rfl⟩) ?_
          simp only [List.map_cons, List.map_nil, Seg.opAt, List.drop_succ_cons, List.drop_zero, Seg.wpSegs, Array.getD_eq_getD_getElem?, List.getElem?_toArray, List.getElem?_cons_succ, List.getElem?_cons_zero, Option.getD_some]
          first | go_big_quiet_step (fail) | quiet_step (fail)
          first | go_big_quiet_step (fail) | quiet_step (fail)
          first | go_big_quiet_step (fail) | quiet_step (fail)
          first | go_big_quiet_step (fail) | quiet_step (fail)
          first | go_big_quiet_step (fail) | quiet_step (fail)
          refine wpQuiet_load_whole rfl 24 _ rfl B #[.string ⟨c.nm.toArray⟩, .slice oa c.op.length cap, .int .i64 c.rl, .int .i64 c.se, .int .i64 c.mo] _ _ _ rfl XX.out hBM Try.underlying24 rfl size_contest ?_
          first | go_big_quiet_step (fail) | quiet_step (fail)
          first | go_big_quiet_step (fail) | quiet_step (fail)
          first | go_big_quiet_step (fail) | quiet_step (fail)
          first | go_big_quiet_step (fail) | quiet_step (fail)
          first | go_big_quiet_step (fail) | quiet_step (fail)
          first | go_big_quiet_step (fail) | quiet_step (fail)
          refine wpQuiet_nil ?_
          go_wp2_with (go_at_call 19; refine QA2.out.mono ?_; rintro e w3 ⟨rfl, b3⟩)
          have HXW : Below M wr w3 := hx0.trans (b3.mono (Nat.le_of_eq HM.out))
          have HIN := Lib.hid (HO.out.ins_at m HA.out (fun a C' e => by rw [HDR.out] at e; injection e with e; rw [← e]; exact HAH.out))
          clear dm dm2 hmi dq QA2 b3 hx0 hqM HQC HTK HDR HAH
          have hxW : Below M wr (w3) := HXW
          refine Seg.wp_region_plan (fun w' => ∃ x : BelowT M wr, w' = x.w) (.quiet [1, 2, 3, 5, 8, 9, 10] (.alt 0 (.alt 4 (.one 6 (.one 7 (.last []))) (.one 6 (.one 4 (.one 7 (.last []))))) (.one 6 (.one 0 (.one 4 (.one 7 (.last []))))))) 11 (by kernel_rfl) (by kernel_rfl) (fun _ _ d _ _ h => by cases d <;> exact h) (⟨⟨_, hxW.drew⟩, rfl⟩) ?_
          try simp only [Seg.wpPlan, List.map_cons, List.map_nil, Seg.opAt, List.drop_succ_cons, List.drop_zero, Array.getD_eq_getD_getElem?, List.getElem?_toArray, List.getElem?_cons_succ, List.getElem?_cons_zero, Option.getD_some]
          repeat (any_goals (first | go_big_quiet_step (fail) | quiet_step (fail)))
          refine wpQuiet_nil ?_
          try simp only [Seg.wpPlan, List.map_cons, List.map_nil, Seg.opAt, List.drop_succ_cons, List.drop_zero, Array.getD_eq_getD_getElem?, List.getElem?_toArray, List.getElem?_cons_succ, List.getElem?_cons_zero, Option.getD_some]
          have hx0 := hxW.drew
          generalize (w3).drew = x0 at *
          have sx0 : M ≤ x0.heap.size := by have := hx0.size; rw [← HM.out] at this; exact this
          clear hxW
          refine ⟨?_, ?_⟩
          · try unfold Seg.wpUp
            intro K hK
            first | go_simp | skip
            go_wp2_with fail
            have tw1 : Below x0.heap.size x0 (x0.alloc (.cells #[] 3)) := (Below.refl _ _).alloc (Nat.le_refl _) _
            have hx1 : Below M wr (x0.alloc (.cells #[] 3)) := hx0.trans (tw1.mono sx0)
            have sx1 := Nat.le_trans sx0 tw1.size
            have eE : (x0.alloc (.cells #[] 3)).heap[x0.heap.size]? = some (.cells #[] 3 (0, 0)) := heap_at rfl
            have mE : M ≤ x0.heap.size := sx0
            refine hK _ _ ⟨⟨_, hx1⟩, rfl⟩ ?_
            clear hK K hx0 sx0 tw1
            generalize (x0.alloc (.cells #[] 3)) = x1 at *
            generalize x0.heap.size = E at *
            try simp only [Seg.wpPlan, List.map_cons, List.map_nil, Seg.opAt, List.drop_succ_cons, List.drop_zero, Array.getD_eq_getD_getElem?, List.getElem?_toArray, List.getElem?_cons_succ, List.getElem?_cons_zero, Option.getD_some]
            refine ⟨?_, ?_⟩
            · try unfold Seg.wpUp
              intro K hK
              rw [if_pos (by rfl)]
              obtain ⟨g1, c1, x2, hr, own1, hg, hl1⟩ := run_append_ints (w := x1) i0 HI.out HZ0.out HZ1.out HZ2.out M E 0 0 [] (own_empty eE mE) (some q) (O.take m) m cl (by rw [List.length_take]; omega) ((IOr.out.below (HM.out ▸ hx1)).take m) (by rw [List.length_take]; omega) sx1
              simp only [Nat.zero_add, List.nil_append] at hr own1
              refine Lib.wp_append_run_sl _ (.tmp 37) (.tmp 40) 25 rfl _ _ rfl rfl hr ?_
              clear hr
              have hx2 := hx1.grown hg sx1 (fun j hj => by cases hj; exact mE)
              have sx2 := Nat.le_trans sx1 hg.size
              refine hK _ _ ⟨⟨_, hx2⟩, rfl⟩ ?_
              clear hK K hx1 sx1 hg eE hl1
              try simp only [Seg.wpPlan, List.map_cons, List.map_nil, Seg.opAt, List.drop_succ_cons, List.drop_zero, Array.getD_eq_getD_getElem?, List.getElem?_toArray, List.getElem?_cons_succ, List.getElem?_cons_zero, Option.getD_some]
              try unfold Seg.wpUp
              intro K hK
              first | go_simp | skip
              go_wp2_with fail
              have tw3 : Below x2.heap.size x2 (x2.alloc (.cells #[.int .i64 (k : Int)] 3)) := (Below.refl _ _).alloc (Nat.le_refl _) _
              have hx3 : Below M wr (x2.alloc (.cells #[.int .i64 (k : Int)] 3)) := hx2.trans (tw3.mono sx2)
              have sx3 := Nat.le_trans sx2 tw3.size
              have eF : (x2.alloc (.cells #[.int .i64 (k : Int)] 3)).heap[x2.heap.size]? = some (.cells #[.int .i64 (k : Int)] 3 (0, 0)) := heap_at rfl
              have mF : M ≤ x2.heap.size := sx2
              have kk := own_below own1 tw3
              clear own1
              have own1 := kk
              clear kk
              refine hK _ _ ⟨⟨_, hx3⟩, rfl⟩ ?_
              clear hK K hx2 sx2 tw3
              generalize (x2.alloc (.cells #[.int .i64 (k : Int)] 3)) = x3 at *
              generalize x2.heap.size = F at *
              try simp only [Seg.wpPlan, List.map_cons, List.map_nil, Seg.opAt, List.drop_succ_cons, List.drop_zero, Array.getD_eq_getD_getElem?, List.getElem?_toArray, List.getElem?_cons_succ, List.getElem?_cons_zero, Option.getD_some]
              try unfold Seg.wpUp
              intro K hK
              rw [if_pos (by rfl)]
              obtain ⟨g2, c2, x4, hr, own2, hg, hl2⟩ := run_append_ints (w := x3) i0 HI.out HZ0.out HZ1.out HZ2.out M g1 m c1 _ own1 (some ⟨F, 0, none⟩) [(k : Int)] 1 1 rfl (isAt_one eF) (by simp; omega) sx3
              refine Lib.wp_append_run_sl _ (.tmp 41) (.tmp 43) 25 rfl _ _ rfl rfl hr ?_
              clear hr
              have mg1 : M ≤ g1 := (own1.lt g1 rfl).1
              have hx4 := hx3.grown hg sx3 (fun j hj => by cases hj; exact mg1)
              have sx4 := Nat.le_trans sx3 hg.size
              refine hK _ _ ⟨⟨_, hx4⟩, rfl⟩ ?_
              clear hK K hx3 sx3 hg hl2 own1 eF
              try simp only [Seg.wpPlan, List.map_cons, List.map_nil, Seg.opAt, List.drop_succ_cons, List.drop_zero, Array.getD_eq_getD_getElem?, List.getElem?_toArray, List.getElem?_cons_succ, List.getElem?_cons_zero, Option.getD_some]
              obtain ⟨g3, c3, w9, hr, own3, hg, hl3⟩ := run_append_ints (w := x4) i0 HI.out HZ0.out HZ1.out HZ2.out M g2 (m + 1) c2 _ own2 (some (q.add m)) (O.drop m) (O.length - m) (cl - m) (by rw [List.length_drop]) (by have hdr := isAt_drop (IOr.out.below (HM.out ▸ hx4)) m cl hcl; rw [if_neg (by omega)] at hdr; exact hdr) (by rw [List.length_drop]; omega) sx4
              repeat (any_goals (first | go_big_quiet_step (fail) | quiet_step (fail)))
              refine wpQuiet_nil ?_
              try simp only [Seg.wpPlan, List.map_cons, List.map_nil, Seg.opAt, List.drop_succ_cons, List.drop_zero, Array.getD_eq_getD_getElem?, List.getElem?_toArray, List.getElem?_cons_succ, List.getElem?_cons_zero, Option.getD_some]
              go_wp2_with (at_builtin; refine Lib.wpList_append_run_sl _ rfl (.tmp 44) (.tmp 47) 25 rfl _ _ rfl rfl hr ?_)
              have mg2 : M ≤ g2 := (own2.lt g2 rfl).1
              have b9 := Lib.hid (hx4.grown hg sx4 (fun j hj => by cases hj; exact mg2))
              have own3' := Lib.hid own3
              clear hr own3 own2 hg hl3 hx4 sx4
              go_roundw
              case rel => exact lots_rel (by omega) (by go_num) HIN.out (by rw [List.length_take, List.length_drop]; omega) (by have h9 := own3'.out; rw [ivals_append, ivals_append] at h9; exact h9) (BB.out.trans (b9.out.mono (Nat.le_of_lt hBM))) (bel_keep b9.out hBM XX.out)
              case measure => simp [intOf]; omega
            · try unfold Seg.wpUp
              intro K hK
              first | go_simp | skip
              go_wp2_with fail
              have tw2 : Below x1.heap.size x1 (x1.alloc (.cells #[.int .i64 (k : Int)] 3)) := (Below.refl _ _).alloc (Nat.le_refl _) _
              have hx2 : Below M wr (x1.alloc (.cells #[.int .i64 (k : Int)] 3)) := hx1.trans (tw2.mono sx1)
              have sx2 := Nat.le_trans sx1 tw2.size
              have eF : (x1.alloc (.cells #[.int .i64 (k : Int)] 3)).heap[x1.heap.size]? = some (.cells #[.int .i64 (k : Int)] 3 (0, 0)) := heap_at rfl
              have mF : M ≤ x1.heap.size := sx1
              have kk := bel_keep tw2 (lt_of_heap eE) eE
              clear eE
              have eE := kk
              clear kk
              refine hK _ _ ⟨⟨_, hx2⟩, rfl⟩ ?_
              clear hK K hx1 sx1 tw2
              generalize (x1.alloc (.cells #[.int .i64 (k : Int)] 3)) = x2 at *
              generalize x1.heap.size = F at *
              try simp only [Seg.wpPlan, List.map_cons, List.map_nil, Seg.opAt, List.drop_succ_cons, List.drop_zero, Array.getD_eq_getD_getElem?, List.getElem?_toArray, List.getElem?_cons_succ, List.getElem?_cons_zero, Option.getD_some]
              try unfold Seg.wpUp
              intro K hK
              rw [if_pos (by rfl)]
              obtain ⟨g1, c1, x3, hr, own1, hg, hl1⟩ := run_append_ints (w := x2) i0 HI.out HZ0.out HZ1.out HZ2.out M E 0 0 [] (own_empty eE mE) (some q) (O.take m) m cl (by rw [List.length_take]; omega) ((IOr.out.below (HM.out ▸ hx2)).take m) (by rw [List.length_take]; omega) sx2
              simp only [Nat.zero_add, List.nil_append] at hr own1
              refine Lib.wp_append_run_sl _ (.tmp 37) (.tmp 40) 25 rfl _ _ rfl rfl hr ?_
              clear hr
              have hx3 := hx2.grown hg sx2 (fun j hj => by cases hj; exact mE)
              have sx3 := Nat.le_trans sx2 hg.size
              have kk := grown_keep hg (fun e => by injection e with e; rw [e] at eE; rw [eE] at eF; cases eF) eF
              clear eF
              have eF := kk
              clear kk
              refine hK _ _ ⟨⟨_, hx3⟩, rfl⟩ ?_
              clear hK K hx2 sx2 hg eE hl1
              try simp only [Seg.wpPlan, List.map_cons, List.map_nil, Seg.opAt, List.drop_succ_cons, List.drop_zero, Array.getD_eq_getD_getElem?, List.getElem?_toArray, List.getElem?_cons_succ, List.getElem?_cons_zero, Option.getD_some]
              try unfold Seg.wpUp
              intro K hK
              rw [if_pos (by rfl)]
              obtain ⟨g2, c2, x4, hr, own2, hg, hl2⟩ := run_append_ints (w := x3) i0 HI.out HZ0.out HZ1.out HZ2.out M g1 m c1 _ own1 (some ⟨F, 0, none⟩) [(k : Int)] 1 1 rfl (isAt_one eF) (by simp; omega) sx3
              refine Lib.wp_append_run_sl _ (.tmp 41) (.tmp 43) 25 rfl _ _ rfl rfl hr ?_
              clear hr
              have mg1 : M ≤ g1 := (own1.lt g1 rfl).1
              have hx4 := hx3.grown hg sx3 (fun j hj => by cases hj; exact mg1)
              have sx4 := Nat.le_trans sx3 hg.size
              refine hK _ _ ⟨⟨_, hx4⟩, rfl⟩ ?_
              clear hK K hx3 sx3 hg hl2 own1 eF
              try simp only [Seg.wpPlan, List.map_cons, List.map_nil, Seg.opAt, List.drop_succ_cons, List.drop_zero, Array.getD_eq_getD_getElem?, List.getElem?_toArray, List.getElem?_cons_succ, List.getElem?_cons_zero, Option.getD_some]
              obtain ⟨g3, c3, w9, hr, own3, hg, hl3⟩ := run_append_ints (w := x4) i0 HI.out HZ0.out HZ1.out HZ2.out M g2 (m + 1) c2 _ own2 (some (q.add m)) (O.drop m) (O.length - m) (cl - m) (by rw [List.length_drop]) (by have hdr := isAt_drop (IOr.out.below (HM.out ▸ hx4)) m cl hcl; rw [if_neg (by omega)] at hdr; exact hdr) (by rw [List.length_drop]; omega) sx4
              repeat (any_goals (first | go_big_quiet_step (fail) | quiet_step (fail)))
              refine wpQuiet_nil ?_
              try simp only [Seg.wpPlan, List.map_cons, List.map_nil, Seg.opAt, List.drop_succ_cons, List.drop_zero, Array.getD_eq_getD_getElem?, List.getElem?_toArray, List.getElem?_cons_succ, List.getElem?_cons_zero, Option.getD_some]
              go_wp2_with (at_builtin; refine Lib.wpList_append_run_sl _ rfl (.tmp 44) (.tmp 47) 25 rfl _ _ rfl rfl hr ?_)
              have mg2 : M ≤ g2 := (own2.lt g2 rfl).1
              have b9 := Lib.hid (hx4.grown hg sx4 (fun j hj => by cases hj; exact mg2))
              have own3' := Lib.hid own3
              clear hr own3 own2 hg hl3 hx4 sx4
              go_roundw
              case rel => exact lots_rel (by omega) (by go_num) HIN.out (by rw [List.length_take, List.length_drop]; omega) (by have h9 := own3'.out; rw [ivals_append, ivals_append] at h9; exact h9) (BB.out.trans (b9.out.mono (Nat.le_of_lt hBM))) (bel_keep b9.out hBM XX.out)
              case measure => simp [intOf]; omega
          · try unfold Seg.wpUp
            intro K hK
            first | go_simp | skip
            go_wp2_with fail
            have tw1 : Below x0.heap.size x0 (x0.alloc (.cells #[.int .i64 (k : Int)] 3)) := (Below.refl _ _).alloc (Nat.le_refl _) _
            have hx1 : Below M wr (x0.alloc (.cells #[.int .i64 (k : Int)] 3)) := hx0.trans (tw1.mono sx0)
            have sx1 := Nat.le_trans sx0 tw1.size
            have eF : (x0.alloc (.cells #[.int .i64 (k : Int)] 3)).heap[x0.heap.size]? = some (.cells #[.int .i64 (k : Int)] 3 (0, 0)) := heap_at rfl
            have mF : M ≤ x0.heap.size := sx0
            refine hK _ _ ⟨⟨_, hx1⟩, rfl⟩ ?_
            clear hK K hx0 sx0 tw1
            generalize (x0.alloc (.cells #[.int .i64 (k : Int)] 3)) = x1 at *
            generalize x0.heap.size = F at *
            try simp only [Seg.wpPlan, List.map_cons, List.map_nil, Seg.opAt, List.drop_succ_cons, List.drop_zero, Array.getD_eq_getD_getElem?, List.getElem?_toArray, List.getElem?_cons_succ, List.getElem?_cons_zero, Option.getD_some]
            try unfold Seg.wpUp
            intro K hK
            first | go_simp | skip
            go_wp2_with fail
            have tw2 : Below x1.heap.size x1 (x1.alloc (.cells #[] 3)) := (Below.refl _ _).alloc (Nat.le_refl _) _
            have hx2 : Below M wr (x1.alloc (.cells #[] 3)) := hx1.trans (tw2.mono sx1)
            have sx2 := Nat.le_trans sx1 tw2.size
            have eE : (x1.alloc (.cells #[] 3)).heap[x1.heap.size]? = some (.cells #[] 3 (0, 0)) := heap_at rfl
            have mE : M ≤ x1.heap.size := sx1
            have kk := bel_keep tw2 (lt_of_heap eF) eF
            clear eF
            have eF := kk
            clear kk
            refine hK _ _ ⟨⟨_, hx2⟩, rfl⟩ ?_
            clear hK K hx1 sx1 tw2
            generalize (x1.alloc (.cells #[] 3)) = x2 at *
            generalize x1.heap.size = E at *
            try simp only [Seg.wpPlan, List.map_cons, List.map_nil, Seg.opAt, List.drop_succ_cons, List.drop_zero, Array.getD_eq_getD_getElem?, List.getElem?_toArray, List.getElem?_cons_succ, List.getElem?_cons_zero, Option.getD_some]
            try unfold Seg.wpUp
            intro K hK
            rw [if_pos (by rfl)]
            obtain ⟨g1, c1, x3, hr, own1, hg, hl1⟩ := run_append_ints (w := x2) i0 HI.out HZ0.out HZ1.out HZ2.out M E 0 0 [] (own_empty eE mE) (some q) (O.take m) m cl (by rw [List.length_take]; omega) ((IOr.out.below (HM.out ▸ hx2)).take m) (by rw [List.length_take]; omega) sx2
            simp only [Nat.zero_add, List.nil_append] at hr own1
            refine Lib.wp_append_run_sl _ (.tmp 37) (.tmp 40) 25 rfl _ _ rfl rfl hr ?_
            clear hr
            have hx3 := hx2.grown hg sx2 (fun j hj => by cases hj; exact mE)
            have sx3 := Nat.le_trans sx2 hg.size
            have kk := grown_keep hg (fun e => by injection e with e; rw [e] at eE; rw [eE] at eF; cases eF) eF
            clear eF
            have eF := kk
            clear kk
            refine hK _ _ ⟨⟨_, hx3⟩, rfl⟩ ?_
            clear hK K hx2 sx2 hg eE hl1
            try simp only [Seg.wpPlan, List.map_cons, List.map_nil, Seg.opAt, List.drop_succ_cons, List.drop_zero, Array.getD_eq_getD_getElem?, List.getElem?_toArray, List.getElem?_cons_succ, List.getElem?_cons_zero, Option.getD_some]
            try unfold Seg.wpUp
            intro K hK
            rw [if_pos (by rfl)]
            obtain ⟨g2, c2, x4, hr, own2, hg, hl2⟩ := run_append_ints (w := x3) i0 HI.out HZ0.out HZ1.out HZ2.out M g1 m c1 _ own1 (some ⟨F, 0, none⟩) [(k : Int)] 1 1 rfl (isAt_one eF) (by simp; omega) sx3
            refine Lib.wp_append_run_sl _ (.tmp 41) (.tmp 43) 25 rfl _ _ rfl rfl hr ?_
            clear hr
            have mg1 : M ≤ g1 := (own1.lt g1 rfl).1
            have hx4 := hx3.grown hg sx3 (fun j hj => by cases hj; exact mg1)
            have sx4 := Nat.le_trans sx3 hg.size
            refine hK _ _ ⟨⟨_, hx4⟩, rfl⟩ ?_
            clear hK K hx3 sx3 hg hl2 own1 eF
            try simp only [Seg.wpPlan, List.map_cons, List.map_nil, Seg.opAt, List.drop_succ_cons, List.drop_zero, Array.getD_eq_getD_getElem?, List.getElem?_toArray, List.getElem?_cons_succ, List.getElem?_cons_zero, Option.getD_some]
            obtain ⟨g3, c3, w9, hr, own3, hg, hl3⟩ := run_append_ints (w := x4) i0 HI.out HZ0.out HZ1.out HZ2.out M g2 (m + 1) c2 _ own2 (some (q.add m)) (O.drop m) (O.length - m) (cl - m) (by rw [List.length_drop]) (by have hdr := isAt_drop (IOr.out.below (HM.out ▸ hx4)) m cl hcl; rw [if_neg (by omega)] at hdr; exact hdr) (by rw [List.length_drop]; omega) sx4
            repeat (any_goals (first | go_big_quiet_step (fail) | quiet_step (fail)))
            refine wpQuiet_nil ?_
            try simp only [Seg.wpPlan, List.map_cons, List.map_nil, Seg.opAt, List.drop_succ_cons, List.drop_zero, Array.getD_eq_getD_getElem?, List.getElem?_toArray, List.getElem?_cons_succ, List.getElem?_cons_zero, Option.getD_some]
            go_wp2_with (at_builtin; refine Lib.wpList_append_run_sl _ rfl (.tmp 44) (.tmp 47) 25 rfl _ _ rfl rfl hr ?_)
            have mg2 : M ≤ g2 := (own2.lt g2 rfl).1
            have b9 := Lib.hid (hx4.grown hg sx4 (fun j hj => by cases hj; exact mg2))
            have own3' := Lib.hid own3
            clear hr own3 own2 hg hl3 hx4 sx4
            go_roundw
            case rel => exact lots_rel (by omega) (by go_num) HIN.out (by rw [List.length_take, List.length_drop]; omega) (by have h9 := own3'.out; rw [ivals_append, ivals_append] at h9; exact h9) (BB.out.trans (b9.out.mono (Nat.le_of_lt hBM))) (bel_keep b9.out hBM XX.out)
            case measure => simp [intOf]; omega
      · as_aux_lemma =>
        have dm : decide ((m : Int) < (O.length : Int)) = false := decide_eq_false (by omega)
        have dm2 : decide (m < O.length) = false := decide_eq_false hlt
        go_wp2_with fail
        refine Seg.wp_region_segs (fun w' => ∃ x : BelowT M wr, w' = x.w) [] [0, 1, 2, 3, 4, 5, 6, 7, 8, 9, 10, 11] 12 (by kernel_rfl) (by kernel_rfl) (fun _ _ d _ _ h => by cases d <;> exact h) (⟨⟨_, hx0⟩, rfl⟩) ?_
        simp only [List.map_cons, List.map_nil, Seg.opAt, List.drop_succ_cons, List.drop_zero, Seg.wpSegs, Array.getD_eq_getD_getElem?, List.getElem?_toArray, List.getElem?_cons_succ, List.getElem?_cons_zero, Option.getD_some]
        repeat (any_goals (first | go_big_quiet_step (fail) | quiet_step (fail)))
        refine wpQuiet_nil ?_
        go_wp2_with fail
        have HXW : Below M wr wr.drew := hx0
        have HIN := Lib.hid (HO.out.ins_at m HA.out (fun a C' e => by rw [List.drop_eq_nil_of_le (by omega)] at e; cases e))
        clear dm dm2 hx0
        by_cases hcm : cl = m
        · subst hcm
          have HIN := Lib.hid (show Ord (k + 1) (lotF c lots) (O.take cl ++ (k : Int) :: []) by have h := HIN.out; rwa [List.drop_eq_nil_of_le (by omega)] at h)
          have hxW : Below M wr (wr.drew) := HXW
          refine Seg.wp_region_plan (fun w' => ∃ x : BelowT M wr, w' = x.w) (.quiet [1, 2, 3, 5, 8, 9, 10] (.alt 0 (.alt 4 (.one 6 (.one 7 (.last []))) (.one 6 (.one 4 (.one 7 (.last []))))) (.one 6 (.one 0 (.one 4 (.one 7 (.last []))))))) 11 (by kernel_rfl) (by kernel_rfl) (fun _ _ d _ _ h => by cases d <;> exact h) (⟨⟨_, hxW.drew⟩, rfl⟩) ?_
          try simp only [Seg.wpPlan, List.map_cons, List.map_nil, Seg.opAt, List.drop_succ_cons, List.drop_zero, Array.getD_eq_getD_getElem?, List.getElem?_toArray, List.getElem?_cons_succ, List.getElem?_cons_zero, Option.getD_some]
          repeat (any_goals (first | go_big_quiet_step (fail) | quiet_step (fail)))
          refine wpQuiet_nil ?_
          try simp only [Seg.wpPlan, List.map_cons, List.map_nil, Seg.opAt, List.drop_succ_cons, List.drop_zero, Array.getD_eq_getD_getElem?, List.getElem?_toArray, List.getElem?_cons_succ, List.getElem?_cons_zero, Option.getD_some]
          have hx0 := hxW.drew
          generalize (wr.drew).drew = x0 at *
          have sx0 : M ≤ x0.heap.size := by have := hx0.size; rw [← HM.out] at this; exact this
          clear hxW
          refine ⟨?_, ?_⟩
          · try unfold Seg.wpUp
            intro K hK
            first | go_simp | skip
            go_wp2_with fail
            have tw1 : Below x0.heap.size x0 (x0.alloc (.cells #[] 3)) := (Below.refl _ _).alloc (Nat.le_refl _) _
            have hx1 : Below M wr (x0.alloc (.cells #[] 3)) := hx0.trans (tw1.mono sx0)
            have sx1 := Nat.le_trans sx0 tw1.size
            have eE : (x0.alloc (.cells #[] 3)).heap[x0.heap.size]? = some (.cells #[] 3 (0, 0)) := heap_at rfl
            have mE : M ≤ x0.heap.size := sx0
            refine hK _ _ ⟨⟨_, hx1⟩, rfl⟩ ?_
            clear hK K hx0 sx0 tw1
            generalize (x0.alloc (.cells #[] 3)) = x1 at *
            generalize x0.heap.size = E at *
            try simp only [Seg.wpPlan, List.map_cons, List.map_nil, Seg.opAt, List.drop_succ_cons, List.drop_zero, Array.getD_eq_getD_getElem?, List.getElem?_toArray, List.getElem?_cons_succ, List.getElem?_cons_zero, Option.getD_some]
            refine ⟨?_, ?_⟩
            · try unfold Seg.wpUp
              intro K hK
              rw [if_pos (by rfl)]
              obtain ⟨g1, c1, x2, hr, own1, hg, hl1⟩ := run_append_ints (w := x1) i0 HI.out HZ0.out HZ1.out HZ2.out M E 0 0 [] (own_empty eE mE) ol (O.take cl) cl cl (by rw [List.length_take]; omega) ((IOr.out.below (HM.out ▸ hx1)).take cl) (by rw [List.length_take]; omega) sx1
              simp only [Nat.zero_add, List.nil_append] at hr own1
              refine Lib.wp_append_run_sl _ (.tmp 37) (.tmp 40) 25 rfl _ _ rfl rfl hr ?_
              clear hr
              have hx2 := hx1.grown hg sx1 (fun j hj => by cases hj; exact mE)
              have sx2 := Nat.le_trans sx1 hg.size
              refine hK _ _ ⟨⟨_, hx2⟩, rfl⟩ ?_
              clear hK K hx1 sx1 hg eE hl1
              try simp only [Seg.wpPlan, List.map_cons, List.map_nil, Seg.opAt, List.drop_succ_cons, List.drop_zero, Array.getD_eq_getD_getElem?, List.getElem?_toArray, List.getElem?_cons_succ, List.getElem?_cons_zero, Option.getD_some]
              try unfold Seg.wpUp
              intro K hK
              first | go_simp | skip
              go_wp2_with fail
              have tw3 : Below x2.heap.size x2 (x2.alloc (.cells #[.int .i64 (k : Int)] 3)) := (Below.refl _ _).alloc (Nat.le_refl _) _
              have hx3 : Below M wr (x2.alloc (.cells #[.int .i64 (k : Int)] 3)) := hx2.trans (tw3.mono sx2)
              have sx3 := Nat.le_trans sx2 tw3.size
              have eF : (x2.alloc (.cells #[.int .i64 (k : Int)] 3)).heap[x2.heap.size]? = some (.cells #[.int .i64 (k : Int)] 3 (0, 0)) := heap_at rfl
              have mF : M ≤ x2.heap.size := sx2
              have kk := own_below own1 tw3
              clear own1
              have own1 := kk
              clear kk
              refine hK _ _ ⟨⟨_, hx3⟩, rfl⟩ ?_
              clear hK K hx2 sx2 tw3
              generalize (x2.alloc (.cells #[.int .i64 (k : Int)] 3)) = x3 at *
              generalize x2.heap.size = F at *
              try simp only [Seg.wpPlan, List.map_cons, List.map_nil, Seg.opAt, List.drop_succ_cons, List.drop_zero, Array.getD_eq_getD_getElem?, List.getElem?_toArray, List.getElem?_cons_succ, List.getElem?_cons_zero, Option.getD_some]
              try unfold Seg.wpUp
              intro K hK
              rw [if_pos (by rfl)]
              obtain ⟨g2, c2, x4, hr, own2, hg, hl2⟩ := run_append_ints (w := x3) i0 HI.out HZ0.out HZ1.out HZ2.out M g1 cl c1 _ own1 (some ⟨F, 0, none⟩) [(k : Int)] 1 1 rfl (isAt_one eF) (by simp; omega) sx3
              refine Lib.wp_append_run_sl _ (.tmp 41) (.tmp 43) 25 rfl _ _ rfl rfl hr ?_
              clear hr
              have mg1 : M ≤ g1 := (own1.lt g1 rfl).1
              have hx4 := hx3.grown hg sx3 (fun j hj => by cases hj; exact mg1)
              have sx4 := Nat.le_trans sx3 hg.size
              refine hK _ _ ⟨⟨_, hx4⟩, rfl⟩ ?_
              clear hK K hx3 sx3 hg hl2 own1 eF
              try simp only [Seg.wpPlan, List.map_cons, List.map_nil, Seg.opAt, List.drop_succ_cons, List.drop_zero, Array.getD_eq_getD_getElem?, List.getElem?_toArray, List.getElem?_cons_succ, List.getElem?_cons_zero, Option.getD_some]
              obtain ⟨g3, c3, w9, hr, own3, hg, hl3⟩ := run_append_ints (w := x4) i0 HI.out HZ0.out HZ1.out HZ2.out M g2 (cl + 1) c2 _ own2 ol [] 0 0 rfl ⟨fun i hi => by simp at hi⟩ (by simp; omega) sx4
              repeat (any_goals (first | go_big_quiet_step (fail) | quiet_step (fail)))
              refine wpQuiet_nil ?_
              try simp only [Seg.wpPlan, List.map_cons, List.map_nil, Seg.opAt, List.drop_succ_cons, List.drop_zero, Array.getD_eq_getD_getElem?, List.getElem?_toArray, List.getElem?_cons_succ, List.getElem?_cons_zero, Option.getD_some]
              go_wp2_with (at_builtin; refine Lib.wpList_append_run_sl _ rfl (.tmp 44) (.tmp 47) 25 rfl _ _ rfl rfl hr ?_)
              have mg2 : M ≤ g2 := (own2.lt g2 rfl).1
              have b9 := Lib.hid (hx4.grown hg sx4 (fun j hj => by cases hj; exact mg2))
              have own3' := Lib.hid own3
              clear hr own3 own2 hg hl3 hx4 sx4
              go_roundw
              case rel => exact lots_rel (by omega) (by go_num) HIN.out (by rw [List.length_take, List.length_nil]; omega) (by have h9 := own3'.out; rw [ivals_append, ivals_append] at h9; exact h9) (BB.out.trans (b9.out.mono (Nat.le_of_lt hBM))) (bel_keep b9.out hBM XX.out)
              case measure => simp [intOf]; omega
            · try unfold Seg.wpUp
              intro K hK
              first | go_simp | skip
              go_wp2_with fail
              have tw2 : Below x1.heap.size x1 (x1.alloc (.cells #[.int .i64 (k : Int)] 3)) := (Below.refl _ _).alloc (Nat.le_refl _) _
              have hx2 : Below M wr (x1.alloc (.cells #[.int .i64 (k : Int)] 3)) := hx1.trans (tw2.mono sx1)
              have sx2 := Nat.le_trans sx1 tw2.size
              have eF : (x1.alloc (.cells #[.int .i64 (k : Int)] 3)).heap[x1.heap.size]? = some (.cells #[.int .i64 (k : Int)] 3 (0, 0)) := heap_at rfl
              have mF : M ≤ x1.heap.size := sx1
              have kk := bel_keep tw2 (lt_of_heap eE) eE
              clear eE
              have eE := kk
              clear kk
              refine hK _ _ ⟨⟨_, hx2⟩, rfl⟩ ?_
              clear hK K hx1 sx1 tw2
              generalize (x1.alloc (.cells #[.int .i64 (k : Int)] 3)) = x2 at *
              generalize x1.heap.size = F at *
              try simp only [Seg.wpPlan, List.map_cons, List.map_nil, Seg.opAt, List.drop_succ_cons, List.drop_zero, Array.getD_eq_getD_getElem?, List.getElem?_toArray, List.getElem?_cons_succ, List.getElem?_cons_zero, Option.getD_some]
              try unfold Seg.wpUp
              intro K hK
              rw [if_pos (by rfl)]
              obtain ⟨g1, c1, x3, hr, own1, hg, hl1⟩ := run_append_ints (w := x2) i0 HI.out HZ0.out HZ1.out HZ2.out M E 0 0 [] (own_empty eE mE) ol (O.take cl) cl cl (by rw [List.length_take]; omega) ((IOr.out.below (HM.out ▸ hx2)).take cl) (by rw [List.length_take]; omega) sx2
              simp only [Nat.zero_add, List.nil_append] at hr own1
              refine Lib.wp_append_run_sl _ (.tmp 37) (.tmp 40) 25 rfl _ _ rfl rfl hr ?_
              clear hr
              have hx3 := hx2.grown hg sx2 (fun j hj => by cases hj; exact mE)
              have sx3 := Nat.le_trans sx2 hg.size
              have kk := grown_keep hg (fun e => by injection e with e; rw [e] at eE; rw [eE] at eF; cases eF) eF
              clear eF
              have eF := kk
              clear kk
              refine hK _ _ ⟨⟨_, hx3⟩, rfl⟩ ?_
              clear hK K hx2 sx2 hg eE hl1
              try simp only [Seg.wpPlan, List.map_cons, List.map_nil, Seg.opAt, List.drop_succ_cons, List.drop_zero, Array.getD_eq_getD_getElem?, List.getElem?_toArray, List.getElem?_cons_succ, List.getElem?_cons_zero, Option.getD_some]
              try unfold Seg.wpUp
              intro K hK
              rw [if_pos (by rfl)]
              obtain ⟨g2, c2, x4, hr, own2, hg, hl2⟩ := run_append_ints (w := x3) i0 HI.out HZ0.out HZ1.out HZ2.out M g1 cl c1 _ own1 (some ⟨F, 0, none⟩) [(k : Int)] 1 1 rfl (isAt_one eF) (by simp; omega) sx3
              refine Lib.wp_append_run_sl _ (.tmp 41) (.tmp 43) 25 rfl _ _ rfl rfl hr ?_
              clear hr
              have mg1 : M ≤ g1 := (own1.lt g1 rfl).1
              have hx4 := hx3.grown hg sx3 (fun j hj => by cases hj; exact mg1)
              have sx4 := Nat.le_trans sx3 hg.size
              refine hK _ _ ⟨⟨_, hx4⟩, rfl⟩ ?_
              clear hK K hx3 sx3 hg hl2 own1 eF
              try simp only [Seg.wpPlan, List.map_cons, List.map_nil, Seg.opAt, List.drop_succ_cons, List.drop_zero, Array.getD_eq_getD_getElem?, List.getElem?_toArray, List.getElem?_cons_succ, List.getElem?_cons_zero, Option.getD_some]
              obtain ⟨g3, c3, w9, hr, own3, hg, hl3⟩ := run_append_ints (w := x4) i0 HI.out HZ0.out HZ1.out HZ2.out M g2 (cl + 1) c2 _ own2 ol [] 0 0 rfl ⟨fun i hi => by simp at hi⟩ (by simp; omega) sx4
              repeat (any_goals (first | go_big_quiet_step (fail) | quiet_step (fail)))
              refine wpQuiet_nil ?_
              try simp only [Seg.wpPlan, List.map_cons, List.map_nil, Seg.opAt, List.drop_succ_cons, List.drop_zero, Array.getD_eq_getD_getElem?, List.getElem?_toArray, List.getElem?_cons_succ, List.getElem?_cons_zero, Option.getD_some]
              go_wp2_with (at_builtin; refine Lib.wpList_append_run_sl _ rfl (.tmp 44) (.tmp 47) 25 rfl _ _ rfl rfl hr ?_)
              have mg2 : M ≤ g2 := (own2.lt g2 rfl).1
              have b9 := Lib.hid (hx4.grown hg sx4 (fun j hj => by cases hj; exact mg2))
              have own3' := Lib.hid own3
              clear hr own3 own2 hg hl3 hx4 sx4
              go_roundw
              case rel => exact lots_rel (by omega) (by go_num) HIN.out (by rw [List.length_take, List.length_nil]; omega) (by have h9 := own3'.out; rw [ivals_append, ivals_append] at h9; exact h9) (BB.out.trans (b9.out.mono (Nat.le_of_lt hBM))) (bel_keep b9.out hBM XX.out)
              case measure => simp [intOf]; omega
          · try unfold Seg.wpUp
            intro K hK
            first | go_simp | skip
            go_wp2_with fail
            have tw1 : Below x0.heap.size x0 (x0.alloc (.cells #[.int .i64 (k : Int)] 3)) := (Below.refl _ _).alloc (Nat.le_refl _) _
            have hx1 : Below M wr (x0.alloc (.cells #[.int .i64 (k : Int)] 3)) := hx0.trans (tw1.mono sx0)
            have sx1 := Nat.le_trans sx0 tw1.size
            have eF : (x0.alloc (.cells #[.int .i64 (k : Int)] 3)).heap[x0.heap.size]? = some (.cells #[.int .i64 (k : Int)] 3 (0, 0)) := heap_at rfl
            have mF : M ≤ x0.heap.size := sx0
            refine hK _ _ ⟨⟨_, hx1⟩, rfl⟩ ?_
            clear hK K hx0 sx0 tw1
            generalize (x0.alloc (.cells #[.int .i64 (k : Int)] 3)) = x1 at *
            generalize x0.heap.size = F at *
            try simp only [Seg.wpPlan, List.map_cons, List.map_nil, Seg.opAt, List.drop_succ_cons, List.drop_zero, Array.getD_eq_getD_getElem?, List.getElem?_toArray, List.getElem?_cons_succ, List.getElem?_cons_zero, Option.getD_some]
            try unfold Seg.wpUp
            intro K hK
            first | go_simp | skip
            go_wp2_with fail
            have tw2 : Below x1.heap.size x1 (x1.alloc (.cells #[] 3)) := (Below.refl _ _).alloc (Nat.le_refl _) _
            have hx2 : Below M wr (x1.alloc (.cells #[] 3)) := hx1.trans (tw2.mono sx1)
            have sx2 := Nat.le_trans sx1 tw2.size
            have eE : (x1.alloc (.cells #[] 3)).heap[x1.heap.size]? = some (.cells #[] 3 (0, 0)) := heap_at rfl
            have mE : M ≤ x1.heap.size := sx1
            have kk := bel_keep tw2 (lt_of_heap eF) eF
            clear eF
            have eF := kk
            clear kk
            refine hK _ _ ⟨⟨_, hx2⟩, rfl⟩ ?_
            clear hK K hx1 sx1 tw2
            generalize (x1.alloc (.cells #[] 3)) = x2 at *
            generalize x1.heap.size = E at *
            try simp only [Seg.wpPlan, List.map_cons, List.map_nil, Seg.opAt, List.drop_succ_cons, List.drop_zero, Array.getD_eq_getD_getElem?, List.getElem?_toArray, List.getElem?_cons_succ, List.getElem?_cons_zero, Option.getD_some]
            try unfold Seg.wpUp
            intro K hK
            rw [if_pos (by rfl)]
            obtain ⟨g1, c1, x3, hr, own1, hg, hl1⟩ := run_append_ints (w := x2) i0 HI.out HZ0.out HZ1.out HZ2.out M E 0 0 [] (own_empty eE mE) ol (O.take cl) cl cl (by rw [List.length_take]; omega) ((IOr.out.below (HM.out ▸ hx2)).take cl) (by rw [List.length_take]; omega) sx2
            simp only [Nat.zero_add, List.nil_append] at hr own1
            refine Lib.wp_append_run_sl _ (.tmp 37) (.tmp 40) 25 rfl _ _ rfl rfl hr ?_
            clear hr
            have hx3 := hx2.grown hg sx2 (fun j hj => by cases hj; exact mE)
            have sx3 := Nat.le_trans sx2 hg.size
            have kk := grown_keep hg (fun e => by injection e with e; rw [e] at eE; rw [eE] at eF; cases eF) eF
            clear eF
            have eF := kk
            clear kk
            refine hK _ _ ⟨⟨_, hx3⟩, rfl⟩ ?_
            clear hK K hx2 sx2 hg eE hl1
            try simp only [Seg.wpPlan, List.map_cons, List.map_nil, Seg.opAt, List.drop_succ_cons, List.drop_zero, Array.getD_eq_getD_getElem?, List.getElem?_toArray, List.getElem?_cons_succ, List.getElem?_cons_zero, Option.getD_some]
            try unfold Seg.wpUp
            intro K hK
            rw [if_pos (by rfl)]
            obtain ⟨g2, c2, x4, hr, own2, hg, hl2⟩ := run_append_ints (w := x3) i0 HI.out HZ0.out HZ1.out HZ2.out M g1 cl c1 _ own1 (some ⟨F, 0, none⟩) [(k : Int)] 1 1 rfl (isAt_one eF) (by simp; omega) sx3
            refine Lib.wp_append_run_sl _ (.tmp 41) (.tmp 43) 25 rfl _ _ rfl rfl hr ?_
            clear hr
            have mg1 : M ≤ g1 := (own1.lt g1 rfl).1
            have hx4 := hx3.grown hg sx3 (fun j hj => by cases hj; exact mg1)
            have sx4 := Nat.le_trans sx3 hg.size
            refine hK _ _ ⟨⟨_, hx4⟩, rfl⟩ ?_
            clear hK K hx3 sx3 hg hl2 own1 eF
            try simp only [Seg.wpPlan, List.map_cons, List.map_nil, Seg.opAt, List.drop_succ_cons, List.drop_zero, Array.getD_eq_getD_getElem?, List.getElem?_toArray, List.getElem?_cons_succ, List.getElem?_cons_zero, Option.getD_some]
            obtain ⟨g3, c3, w9, hr, own3, hg, hl3⟩ := run_append_ints (w := x4) i0 HI.out HZ0.out HZ1.out HZ2.out M g2 (cl + 1) c2 _ own2 ol [] 0 0 rfl ⟨fun i hi => by simp at hi⟩ (by simp; omega) sx4
            repeat (any_goals (first | go_big_quiet_step (fail) | quiet_step (fail)))
            refine wpQuiet_nil ?_
            try simp only [Seg.wpPlan, List.map_cons, List.map_nil, Seg.opAt, List.drop_succ_cons, List.drop_zero, Array.getD_eq_getD_getElem?, List.getElem?_toArray, List.getElem?_cons_succ, List.getElem?_cons_zero, Option.getD_some]
            go_wp2_with (at_builtin; refine Lib.wpList_append_run_sl _ rfl (.tmp 44) (.tmp 47) 25 rfl _ _ rfl rfl hr ?_)
            have mg2 : M ≤ g2 := (own2.lt g2 rfl).1
            have b9 := Lib.hid (hx4.grown hg sx4 (fun j hj => by cases hj; exact mg2))
            have own3' := Lib.hid own3
            clear hr own3 own2 hg hl3 hx4 sx4
            go_roundw
            case rel => exact lots_rel (by omega) (by go_num) HIN.out (by rw [List.length_take, List.length_nil]; omega) (by have h9 := own3'.out; rw [ivals_append, ivals_append] at h9; exact h9) (BB.out.trans (b9.out.mono (Nat.le_of_lt hBM))) (bel_keep b9.out hBM XX.out)
            case measure => simp [intOf]; omega
        · skip
          have hxW : Below M wr (wr.drew) := HXW
          refine Seg.wp_region_plan (fun w' => ∃ x : BelowT M wr, w' = x.w) (.quiet [1, 2, 3, 5, 8, 9, 10] (.alt 0 (.alt 4 (.one 6 (.one 7 (.last []))) (.one 6 (.one 4 (.one 7 (.last []))))) (.one 6 (.one 0 (.one 4 (.one 7 (.last []))))))) 11 (by kernel_rfl) (by kernel_rfl) (fun _ _ d _ _ h => by cases d <;> exact h) (⟨⟨_, hxW.drew⟩, rfl⟩) ?_
          try simp only [Seg.wpPlan, List.map_cons, List.map_nil, Seg.opAt, List.drop_succ_cons, List.drop_zero, Array.getD_eq_getD_getElem?, List.getElem?_toArray, List.getElem?_cons_succ, List.getElem?_cons_zero, Option.getD_some]
          repeat (any_goals (first | go_big_quiet_step (fail) | quiet_step (fail)))
          refine wpQuiet_nil ?_
          try simp only [Seg.wpPlan, List.map_cons, List.map_nil, Seg.opAt, List.drop_succ_cons, List.drop_zero, Array.getD_eq_getD_getElem?, List.getElem?_toArray, List.getElem?_cons_succ, List.getElem?_cons_zero, Option.getD_some]
          have hx0 := hxW.drew
          generalize (wr.drew).drew = x0 at *
          have sx0 : M ≤ x0.heap.size := by have := hx0.size; rw [← HM.out] at this; exact this
          clear hxW
          refine ⟨?_, ?_⟩
          · try unfold Seg.wpUp
            intro K hK
            first | go_simp | skip
            go_wp2_with fail
            have tw1 : Below x0.heap.size x0 (x0.alloc (.cells #[] 3)) := (Below.refl _ _).alloc (Nat.le_refl _) _
            have hx1 : Below M wr (x0.alloc (.cells #[] 3)) := hx0.trans (tw1.mono sx0)
            have sx1 := Nat.le_trans sx0 tw1.size
            have eE : (x0.alloc (.cells #[] 3)).heap[x0.heap.size]? = some (.cells #[] 3 (0, 0)) := heap_at rfl
            have mE : M ≤ x0.heap.size := sx0
            refine hK _ _ ⟨⟨_, hx1⟩, rfl⟩ ?_
            clear hK K hx0 sx0 tw1
            generalize (x0.alloc (.cells #[] 3)) = x1 at *
            generalize x0.heap.size = E at *
            try simp only [Seg.wpPlan, List.map_cons, List.map_nil, Seg.opAt, List.drop_succ_cons, List.drop_zero, Array.getD_eq_getD_getElem?, List.getElem?_toArray, List.getElem?_cons_succ, List.getElem?_cons_zero, Option.getD_some]
            refine ⟨?_, ?_⟩
            · try unfold Seg.wpUp
              intro K hK
              rw [if_pos (by rfl)]
              obtain ⟨g1, c1, x2, hr, own1, hg, hl1⟩ := run_append_ints (w := x1) i0 HI.out HZ0.out HZ1.out HZ2.out M E 0 0 [] (own_empty eE mE) ol (O.take m) m cl (by rw [List.length_take]; omega) ((IOr.out.below (HM.out ▸ hx1)).take m) (by rw [List.length_take]; omega) sx1
              simp only [Nat.zero_add, List.nil_append] at hr own1
              refine Lib.wp_append_run_sl _ (.tmp 37) (.tmp 40) 25 rfl _ _ rfl rfl hr ?_
              clear hr
              have hx2 := hx1.grown hg sx1 (fun j hj => by cases hj; exact mE)
              have sx2 := Nat.le_trans sx1 hg.size
              refine hK _ _ ⟨⟨_, hx2⟩, rfl⟩ ?_
              clear hK K hx1 sx1 hg eE hl1
              try simp only [Seg.wpPlan, List.map_cons, List.map_nil, Seg.opAt, List.drop_succ_cons, List.drop_zero, Array.getD_eq_getD_getElem?, List.getElem?_toArray, List.getElem?_cons_succ, List.getElem?_cons_zero, Option.getD_some]
              try unfold Seg.wpUp
              intro K hK
              first | go_simp | skip
              go_wp2_with fail
              have tw3 : Below x2.heap.size x2 (x2.alloc (.cells #[.int .i64 (k : Int)] 3)) := (Below.refl _ _).alloc (Nat.le_refl _) _
              have hx3 : Below M wr (x2.alloc (.cells #[.int .i64 (k : Int)] 3)) := hx2.trans (tw3.mono sx2)
              have sx3 := Nat.le_trans sx2 tw3.size
              have eF : (x2.alloc (.cells #[.int .i64 (k : Int)] 3)).heap[x2.heap.size]? = some (.cells #[.int .i64 (k : Int)] 3 (0, 0)) := heap_at rfl
              have mF : M ≤ x2.heap.size := sx2
              have kk := own_below own1 tw3
              clear own1
              have own1 := kk
              clear kk
              refine hK _ _ ⟨⟨_, hx3⟩, rfl⟩ ?_
              clear hK K hx2 sx2 tw3
              generalize (x2.alloc (.cells #[.int .i64 (k : Int)] 3)) = x3 at *
              generalize x2.heap.size = F at *
              try simp only [Seg.wpPlan, List.map_cons, List.map_nil, Seg.opAt, List.drop_succ_cons, List.drop_zero, Array.getD_eq_getD_getElem?, List.getElem?_toArray, List.getElem?_cons_succ, List.getElem?_cons_zero, Option.getD_some]
              try unfold Seg.wpUp
              intro K hK
              rw [if_pos (by rfl)]
              obtain ⟨g2, c2, x4, hr, own2, hg, hl2⟩ := run_append_ints (w := x3) i0 HI.out HZ0.out HZ1.out HZ2.out M g1 m c1 _ own1 (some ⟨F, 0, none⟩) [(k : Int)] 1 1 rfl (isAt_one eF) (by simp; omega) sx3
              refine Lib.wp_append_run_sl _ (.tmp 41) (.tmp 43) 25 rfl _ _ rfl rfl hr ?_
              clear hr
              have mg1 : M ≤ g1 := (own1.lt g1 rfl).1
              have hx4 := hx3.grown hg sx3 (fun j hj => by cases hj; exact mg1)
              have sx4 := Nat.le_trans sx3 hg.size
              refine hK _ _ ⟨⟨_, hx4⟩, rfl⟩ ?_
              clear hK K hx3 sx3 hg hl2 own1 eF
              try simp only [Seg.wpPlan, List.map_cons, List.map_nil, Seg.opAt, List.drop_succ_cons, List.drop_zero, Array.getD_eq_getD_getElem?, List.getElem?_toArray, List.getElem?_cons_succ, List.getElem?_cons_zero, Option.getD_some]
              obtain ⟨g3, c3, w9, hr, own3, hg, hl3⟩ := run_append_ints (w := x4) i0 HI.out HZ0.out HZ1.out HZ2.out M g2 (m + 1) c2 _ own2 (Option.map (fun x => x.add m) ol) (O.drop m) (O.length - m) (cl - m) (by rw [List.length_drop]) (by have hdr := isAt_drop (IOr.out.below (HM.out ▸ hx4)) m cl hcl; rw [if_neg hcm] at hdr; exact hdr) (by rw [List.length_drop]; omega) sx4
              repeat (any_goals (first | go_big_quiet_step (fail) | quiet_step (fail)))
              refine wpQuiet_nil ?_
              try simp only [Seg.wpPlan, List.map_cons, List.map_nil, Seg.opAt, List.drop_succ_cons, List.drop_zero, Array.getD_eq_getD_getElem?, List.getElem?_toArray, List.getElem?_cons_succ, List.getElem?_cons_zero, Option.getD_some]
              go_wp2_with (at_builtin; refine Lib.wpList_append_run_sl _ rfl (.tmp 44) (.tmp 47) 25 rfl _ _ rfl rfl hr ?_)
              have mg2 : M ≤ g2 := (own2.lt g2 rfl).1
              have b9 := Lib.hid (hx4.grown hg sx4 (fun j hj => by cases hj; exact mg2))
              have own3' := Lib.hid own3
              clear hr own3 own2 hg hl3 hx4 sx4
              go_roundw
              case rel => exact lots_rel (by omega) (by go_num) HIN.out (by rw [List.length_take, List.length_drop]; omega) (by have h9 := own3'.out; rw [ivals_append, ivals_append] at h9; exact h9) (BB.out.trans (b9.out.mono (Nat.le_of_lt hBM))) (bel_keep b9.out hBM XX.out)
              case measure => simp [intOf]; omega
            · try unfold Seg.wpUp
              intro K hK
              first | go_simp | skip
              go_wp2_with fail
              have tw2 : Below x1.heap.size x1 (x1.alloc (.cells #[.int .i64 (k : Int)] 3)) := (Below.refl _ _).alloc (Nat.le_refl _) _
              have hx2 : Below M wr (x1.alloc (.cells #[.int .i64 (k : Int)] 3)) := hx1.trans (tw2.mono sx1)
              have sx2 := Nat.le_trans sx1 tw2.size
              have eF : (x1.alloc (.cells #[.int .i64 (k : Int)] 3)).heap[x1.heap.size]? = some (.cells #[.int .i64 (k : Int)] 3 (0, 0)) := heap_at rfl
              have mF : M ≤ x1.heap.size := sx1
              have kk := bel_keep tw2 (lt_of_heap eE) eE
              clear eE
              have eE := kk
              clear kk
              refine hK _ _ ⟨⟨_, hx2⟩, rfl⟩ ?_
              clear hK K hx1 sx1 tw2
              generalize (x1.alloc (.cells #[.int .i64 (k : Int)] 3)) = x2 at *
              generalize x1.heap.size = F at *
              try simp only [Seg.wpPlan, List.map_cons, List.map_nil, Seg.opAt, List.drop_succ_cons, List.drop_zero, Array.getD_eq_getD_getElem?, List.getElem?_toArray, List.getElem?_cons_succ, List.getElem?_cons_zero, Option.getD_some]
              try unfold Seg.wpUp
              intro K hK
              rw [if_pos (by rfl)]
              obtain ⟨g1, c1, x3, hr, own1, hg, hl1⟩ := run_append_ints (w := x2) i0 HI.out HZ0.out HZ1.out HZ2.out M E 0 0 [] (own_empty eE mE) ol (O.take m) m cl (by rw [List.length_take]; omega) ((IOr.out.below (HM.out ▸ hx2)).take m) (by rw [List.length_take]; omega) sx2
              simp only [Nat.zero_add, List.nil_append] at hr own1
              refine Lib.wp_append_run_sl _ (.tmp 37) (.tmp 40) 25 rfl _ _ rfl rfl hr ?_
              clear hr
              have hx3 := hx2.grown hg sx2 (fun j hj => by cases hj; exact mE)
              have sx3 := Nat.le_trans sx2 hg.size
              have kk := grown_keep hg (fun e => by injection e with e; rw [e] at eE; rw [eE] at eF; cases eF) eF
              clear eF
              have eF := kk
              clear kk
              refine hK _ _ ⟨⟨_, hx3⟩, rfl⟩ ?_
              clear hK K hx2 sx2 hg eE hl1
              try simp only [Seg.wpPlan, List.map_cons, List.map_nil, Seg.opAt, List.drop_succ_cons, List.drop_zero, Array.getD_eq_getD_getElem?, List.getElem?_toArray, List.getElem?_cons_succ, List.getElem?_cons_zero, Option.getD_some]
              try unfold Seg.wpUp
              intro K hK
              rw [if_pos (by rfl)]
              obtain ⟨g2, c2, x4, hr, own2, hg, hl2⟩ := run_append_ints (w := x3) i0 HI.out HZ0.out HZ1.out HZ2.out M g1 m c1 _ own1 (some ⟨F, 0, none⟩) [(k : Int)] 1 1 rfl (isAt_one eF) (by simp; omega) sx3
              refine Lib.wp_append_run_sl _ (.tmp 41) (.tmp 43) 25 rfl _ _ rfl rfl hr ?_
              clear hr
              have mg1 : M ≤ g1 := (own1.lt g1 rfl).1
              have hx4 := hx3.grown hg sx3 (fun j hj => by cases hj; exact mg1)
              have sx4 := Nat.le_trans sx3 hg.size
              refine hK _ _ ⟨⟨_, hx4⟩, rfl⟩ ?_
              clear hK K hx3 sx3 hg hl2 own1 eF
              try simp only [Seg.wpPlan, List.map_cons, List.map_nil, Seg.opAt, List.drop_succ_cons, List.drop_zero, Array.getD_eq_getD_getElem?, List.getElem?_toArray, List.getElem?_cons_succ, List.getElem?_cons_zero, Option.getD_some]
              obtain ⟨g3, c3, w9, hr, own3, hg, hl3⟩ := run_append_ints (w := x4) i0 HI.out HZ0.out HZ1.out HZ2.out M g2 (m + 1) c2 _ own2 (Option.map (fun x => x.add m) ol) (O.drop m) (O.length - m) (cl - m) (by rw [List.length_drop]) (by have hdr := isAt_drop (IOr.out.below (HM.out ▸ hx4)) m cl hcl; rw [if_neg hcm] at hdr; exact hdr) (by rw [List.length_drop]; omega) sx4
              repeat (any_goals (first | go_big_quiet_step (fail) | quiet_step (fail)))
              refine wpQuiet_nil ?_
              try simp only [Seg.wpPlan, List.map_cons, List.map_nil, Seg.opAt, List.drop_succ_cons, List.drop_zero, Array.getD_eq_getD_getElem?, List.getElem?_toArray, List.getElem?_cons_succ, List.getElem?_cons_zero, Option.getD_some]
              go_wp2_with (at_builtin; refine Lib.wpList_append_run_sl _ rfl (.tmp 44) (.tmp 47) 25 rfl _ _ rfl rfl hr ?_)
              have mg2 : M ≤ g2 := (own2.lt g2 rfl).1
              have b9 := Lib.hid (hx4.grown hg sx4 (fun j hj => by cases hj; exact mg2))
              have own3' := Lib.hid own3
              clear hr own3 own2 hg hl3 hx4 sx4
              go_roundw
              case rel => exact lots_rel (by omega) (by go_num) HIN.out (by rw [List.length_take, List.length_drop]; omega) (by have h9 := own3'.out; rw [ivals_append, ivals_append] at h9; exact h9) (BB.out.trans (b9.out.mono (Nat.le_of_lt hBM))) (bel_keep b9.out hBM XX.out)
              case measure => simp [intOf]; omega
          · try unfold Seg.wpUp
            intro K hK
            first | go_simp | skip
            go_wp2_with fail
            have tw1 : Below x0.heap.size x0 (x0.alloc (.cells #[.int .i64 (k : Int)] 3)) := (Below.refl _ _).alloc (Nat.le_refl _) _
            have hx1 : Below M wr (x0.alloc (.cells #[.int .i64 (k : Int)] 3)) := hx0.trans (tw1.mono sx0)
            have sx1 := Nat.le_trans sx0 tw1.size
            have eF : (x0.alloc (.cells #[.int .i64 (k : Int)] 3)).heap[x0.heap.size]? = some (.cells #[.int .i64 (k : Int)] 3 (0, 0)) := heap_at rfl
            have mF : M ≤ x0.heap.size := sx0
            refine hK _ _ ⟨⟨_, hx1⟩, rfl⟩ ?_
            clear hK K hx0 sx0 tw1
            generalize (x0.alloc (.cells #[.int .i64 (k : Int)] 3)) = x1 at *
            generalize x0.heap.size = F at *
            try simp only [Seg.wpPlan, List.map_cons, List.map_nil, Seg.opAt, List.drop_succ_cons, List.drop_zero, Array.getD_eq_getD_getElem?, List.getElem?_toArray, List.getElem?_cons_succ, List.getElem?_cons_zero, Option.getD_some]
            try unfold Seg.wpUp
            intro K hK
            first | go_simp | skip
            go_wp2_with fail
            have tw2 : Below x1.heap.size x1 (x1.alloc (.cells #[] 3)) := (Below.refl _ _).alloc (Nat.le_refl _) _
            have hx2 : Below M wr (x1.alloc (.cells #[] 3)) := hx1.trans (tw2.mono sx1)
            have sx2 := Nat.le_trans sx1 tw2.size
            have eE : (x1.alloc (.cells #[] 3)).heap[x1.heap.size]? = some (.cells #[] 3 (0, 0)) := heap_at rfl
            have mE : M ≤ x1.heap.size := sx1
            have kk := bel_keep tw2 (lt_of_heap eF) eF
            clear eF
            have eF := kk
            clear kk
            refine hK _ _ ⟨⟨_, hx2⟩, rfl⟩ ?_
            clear hK K hx1 sx1 tw2
            generalize (x1.alloc (.cells #[] 3)) = x2 at *
            generalize x1.heap.size = E at *
            try simp only [Seg.wpPlan, List.map_cons, List.map_nil, Seg.opAt, List.drop_succ_cons, List.drop_zero, Array.getD_eq_getD_getElem?, List.getElem?_toArray, List.getElem?_cons_succ, List.getElem?_cons_zero, Option.getD_some]
            try unfold Seg.wpUp
            intro K hK
            rw [if_pos (by rfl)]
            obtain ⟨g1, c1, x3, hr, own1, hg, hl1⟩ := run_append_ints (w := x2) i0 HI.out HZ0.out HZ1.out HZ2.out M E 0 0 [] (own_empty eE mE) ol (O.take m) m cl (by rw [List.length_take]; omega) ((IOr.out.below (HM.out ▸ hx2)).take m) (by rw [List.length_take]; omega) sx2
            simp only [Nat.zero_add, List.nil_append] at hr own1
            refine Lib.wp_append_run_sl _ (.tmp 37) (.tmp 40) 25 rfl _ _ rfl rfl hr ?_
            clear hr
            have hx3 := hx2.grown hg sx2 (fun j hj => by cases hj; exact mE)
            have sx3 := Nat.le_trans sx2 hg.size
            have kk := grown_keep hg (fun e => by injection e with e; rw [e] at eE; rw [eE] at eF; cases eF) eF
            clear eF
            have eF := kk
            clear kk
            refine hK _ _ ⟨⟨_, hx3⟩, rfl⟩ ?_
            clear hK K hx2 sx2 hg eE hl1
            try simp only [Seg.wpPlan, List.map_cons, List.map_nil, Seg.opAt, List.drop_succ_cons, List.drop_zero, Array.getD_eq_getD_getElem?, List.getElem?_toArray, List.getElem?_cons_succ, List.getElem?_cons_zero, Option.getD_some]
            try unfold Seg.wpUp
            intro K hK
            rw [if_pos (by rfl)]
            obtain ⟨g2, c2, x4, hr, own2, hg, hl2⟩ := run_append_ints (w := x3) i0 HI.out HZ0.out HZ1.out HZ2.out M g1 m c1 _ own1 (some ⟨F, 0, none⟩) [(k : Int)] 1 1 rfl (isAt_one eF) (by simp; omega) sx3
            refine Lib.wp_append_run_sl _ (.tmp 41) (.tmp 43) 25 rfl _ _ rfl rfl hr ?_
            clear hr
            have mg1 : M ≤ g1 := (own1.lt g1 rfl).1
            have hx4 := hx3.grown hg sx3 (fun j hj => by cases hj; exact mg1)
            have sx4 := Nat.le_trans sx3 hg.size
            refine hK _ _ ⟨⟨_, hx4⟩, rfl⟩ ?_
            clear hK K hx3 sx3 hg hl2 own1 eF
            try simp only [Seg.wpPlan, List.map_cons, List.map_nil, Seg.opAt, List.drop_succ_cons, List.drop_zero, Array.getD_eq_getD_getElem?, List.getElem?_toArray, List.getElem?_cons_succ, List.getElem?_cons_zero, Option.getD_some]
            obtain ⟨g3, c3, w9, hr, own3, hg, hl3⟩ := run_append_ints (w := x4) i0 HI.out HZ0.out HZ1.out HZ2.out M g2 (m + 1) c2 _ own2 (Option.map (fun x => x.add m) ol) (O.drop m) (O.length - m) (cl - m) (by rw [List.length_drop]) (by have hdr := isAt_drop (IOr.out.below (HM.out ▸ hx4)) m cl hcl; rw [if_neg hcm] at hdr; exact hdr) (by rw [List.length_drop]; omega) sx4
            repeat (any_goals (first | go_big_quiet_step (fail) | quiet_step (fail)))
            refine wpQuiet_nil ?_
            try simp only [Seg.wpPlan, List.map_cons, List.map_nil, Seg.opAt, List.drop_succ_cons, List.drop_zero, Array.getD_eq_getD_getElem?, List.getElem?_toArray, List.getElem?_cons_succ, List.getElem?_cons_zero, Option.getD_some]
            go_wp2_with (at_builtin; refine Lib.wpList_append_run_sl _ rfl (.tmp 44) (.tmp 47) 25 rfl _ _ rfl rfl hr ?_)
            have mg2 : M ≤ g2 := (own2.lt g2 rfl).1
            have b9 := Lib.hid (hx4.grown hg sx4 (fun j hj => by cases hj; exact mg2))
            have own3' := Lib.hid own3
            clear hr own3 own2 hg hl3 hx4 sx4
            go_roundw
            case rel => exact lots_rel (by omega) (by go_num) HIN.out (by rw [List.length_take, List.length_drop]; omega) (by have h9 := own3'.out; rw [ivals_append, ivals_append] at h9; exact h9) (BB.out.trans (b9.out.mono (Nat.le_of_lt hBM))) (bel_keep b9.out hBM XX.out)
            case measure => simp [intOf]; omega
    · have dk : decide ((k : Int) < (c.op.length : Int)) = false := decide_eq_false (by omega)
      have dk2 : decide (k < c.op.length) = false := decide_eq_false hlt
      obtain rfl : k = c.op.length := by omega
      go_wp2_with fail
      go_ret2
      exact ⟨by rw [HB.out]; exact BB.out, by rw [if_neg (by rw [HW.out]; decide)]; exact ⟨O, ol, cl, HO.out, IOr.out, rfl⟩⟩
end Go.Proofs.Ytnohcdpnnhmpfaa
