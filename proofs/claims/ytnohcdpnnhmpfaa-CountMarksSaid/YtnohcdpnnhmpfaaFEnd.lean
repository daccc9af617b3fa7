/-
  (*folding).end: the last piece is folded, and the words are told as bytes.
-/
import Derived.Test.YtnohcdpnnhmpfaaFTake
namespace Go.Proofs.Ytnohcdpnnhmpfaa
open Go.RowKit ML FM

/-- 'clear(s)' of a slice of one cell each, also of an empty one -/
theorem run_clear_any {P : Program} (w : World) (t e ty : TypeId) (z : Value) (ht : P.underlying t = some (.slice e)) (hv : ∀ w, (zeroValue e).run P w = .ok z w) (hz : z.cells = #[z]) (h1 : z.oneCell' = true) (b o n c : Nat) (hth : w.there b o n) :
    (Builtin.clear_ #[t] ty #[.slice (some ⟨b, o, none⟩) n c]).run P w = .ok (.tuple #[]) (w.setCells b o (List.replicate n z)) := by
  by_cases hn : n = 0
  · subst hn
    simp [Builtin.clear_, run_underlying ht, World.setCells]
  · exact Lib.run_clear_slice w t e ty z ht hv hz h1 b o n c (by omega) (fun j hj => (hth j hj).1) (fun j hj => (hth j hj).2)
theorem wpList_clear {P : Program} {w : World} {ops : Array Oper} {rest : List Oper} {o : Oper} {a : Act} {Q : Exit → Act → World → Prop} (hgd : o.guard = none) (d : Operand) (dT e : TypeId)
    (ho : o.op = .call { callee := .builtin .clear, args := #[d], argTypes := #[dT] }) (z : Value) (hu : P.underlying dT = some (.slice e)) (hv : ∀ w, (zeroValue e).run P w = .ok z w) (hz : z.cells = #[z]) (h1 : z.oneCell' = true)
    (g off n cap : Nat) (hd : a.eval d = .slice (some ⟨g, off, none⟩) n cap) (ht : w.there g off n)
    (h : wpList P ops Q rest (a.put o.dst (.tuple #[])) (w.setCells g off (List.replicate n z))) : wpList P ops Q (o :: rest) a w := by
  refine wpList_plain hgd fun K hK => ?_
  have hrun := run_clear_any (P := P) w dT e o.type z hu hv hz h1 g off n cap ht
  unfold Oper.wp
  simp [execOp, ho, resolve, invoke, builtin, hd, hrun, Result.andThen]
  exact hK _ _ h
theorem wpList_slice_low {P : Program} {w : World} {ops : Array Oper} {rest : List Oper} {o : Oper} {a : Act} {Q : Exit → Act → World → Prop} (hgd : o.guard = none) (t : TypeId) (x y : Operand)
    (ho : o.op = .slice t x (some y) none none) (v : Value) (hr : (Instr.sliceAt t (a.eval x) (some (a.eval y)) none none).run P w = .ok v w) (h : wpList P ops Q rest (a.put o.dst v) w) : wpList P ops Q (o :: rest) a w := by
  refine wpList_plain hgd fun K hK => ?_
  unfold Oper.wp
  simp [execOp, ho, hr, Result.andThen]
  exact hK _ _ h
theorem arr_64 : Try.prog.arrayLen 97 = 64 ∧ Try.prog.elem 97 = 5 := ⟨by kernel_rfl, by kernel_rfl⟩
/-- where the empty rest of a row points to is not told -/
theorem slice_rest (b t : Nat) (ht : t ≤ 64) : ∃ off, (t = 64 ∨ off = 9 + t) ∧ ∀ w, (Instr.sliceAt 97 (.pointer (some ⟨b, 9, none⟩)) (some (.int .i64 (t : Int))) none none).run Try.prog w = .ok (.slice (some ⟨b, off, none⟩) (64 - t) (64 - t)) w := by
  obtain ⟨e1, e2⟩ := arr_64
  have hu : Try.prog.underlying 97 = some (.array (Try.prog.arrayLen 97) (Try.prog.elem 97)) := by rw [e1, e2]; exact Try.underlying97
  have hs : ∀ w, (sizeOf 5).run Try.prog w = .ok 1 w := by
    intro w
    have h := size_byte
    cases hq : Try.prog.info? 5 with
    | none => simp [hq] at h
    | some i =>
      have hz : i.size = 1 := by simpa [hq] using h
      simp [sizeOf, typeInfo, hq, hz]
  by_cases h64 : t = 64
  · refine ⟨9, .inl h64, fun w => ?_⟩
    rw [run_sliceAt_array_l w _ _ hu .i64 (t : Int) (by omega) (by rw [e1]; omega), e2, hs, e1]
    simp [slicedAt, h64]
  · refine ⟨9 + t, .inr rfl, fun w => ?_⟩
    rw [run_sliceAt_array_l w _ _ hu .i64 (t : Int) (by omega) (by rw [e1]; omega), e2, hs, e1]
    have : ¬ 64 = t := fun h => h64 h.symm
    simp [slicedAt, this, Addr.add]
theorem zero_byte : ∀ w : World, (zeroValue 5).run Try.prog w = .ok (.int .u8 0) w := by
  intro w
  have h : (Try.prog.info? 5).map (·.zero) = some (some (.int .u8 0)) := by kernel_rfl
  cases hq : Try.prog.info? 5 with
  | none => simp [hq] at h
  | some i =>
    have hz : i.zero = some (.int .u8 0) := by simpa [hq] using h
    simp [zeroValue, typeInfo, hq, hz]
theorem byteN_pad (X : Bytes) (n i : Nat) : byteN (X ++ List.replicate n 0) i = byteN X i := by
  unfold byteN
  rw [List.getD_eq_getElem?_getD, List.getD_eq_getElem?_getD]
  by_cases h : i < X.length
  · rw [List.getElem?_append_left h]
  · rw [List.getElem?_append_right (by omega), List.getElem?_replicate]
    rw [List.getElem?_eq_none (l := X) (by omega)]
    split <;> rfl
theorem wordsL_pad (X : Bytes) (n : Nat) : wordsL (X ++ List.replicate n 0) = wordsL X := by
  unfold wordsL wordN
  simp only [byteN_pad]
def fourB (x : U) : Bytes := [UInt8.ofNat (x.toNat % 256), UInt8.ofNat (x.toNat / 256 % 256), UInt8.ofNat (x.toNat / 65536 % 256), UInt8.ofNat (x.toNat / 16777216 % 256)]
theorem outB_take (V : List U) (k : Nat) (h : k < V.length) : outB (V.take (k + 1)) = outB (V.take k) ++ fourB V[k] := by
  unfold outB
  rw [List.take_succ_eq_append_getElem h, List.flatMap_append, List.flatMap_singleton]
  rfl
theorem fourB_cells (x : U) : Lib.byteCells (fourB x) = [.int .u8 (un x % 256), .int .u8 (un x / 256 % 256), .int .u8 (un x / 65536 % 256), .int .u8 (un x / 16777216)] := by
  have e : ∀ n : Nat, n < 256 → ((UInt8.ofNat n).toNat : Int) = (n : Int) := by
    intro n h
    simp [Nat.mod_eq_of_lt h]
  unfold fourB Lib.byteCells un
  simp only [List.map_cons, List.map_nil]
  rw [e _ (by omega), e _ (by omega), e _ (by omega), e _ (by omega)]
  have h1 : ((x.toNat % 256 : Nat) : Int) = (x.toNat : Int) % 256 := by omega
  have h2 : ((x.toNat / 256 % 256 : Nat) : Int) = (x.toNat : Int) / 256 % 256 := by omega
  have h3 : ((x.toNat / 65536 % 256 : Nat) : Int) = (x.toNat : Int) / 65536 % 256 := by omega
  have h4 : ((x.toNat / 16777216 % 256 : Nat) : Int) = (x.toNat : Int) / 16777216 := by have := x.isLt; omega
  rw [h1, h2, h3, h4]
set_option maxHeartbeats 4000000 in
set_option maxRecDepth 100000 in
theorem end_any (b : Nat) (h0 : List U) (T : Bytes) (w : World) (hT : TakenAt b h0 T w) (hlen : T.length < 9223372036854775808) :
    Calls Try.prog 81 #[.pointer (some ⟨b, 0, none⟩)] w fun e w' => e = .returned (.string ⟨(outB (foldL h0 T)).toArray⟩) ∧ w.grownBy w' (some b) := by
  obtain ⟨p, t, D, m, h0t, F⟩ := hT.ex
  have hp := m.done h0t
  have hb := lt_of_heap F.blk
  have cAt := F.cellAt
  have cN := F.cellN
  have fN := F.frozen 8
  have htl := m.le
  obtain ⟨N, hN⟩ : ∃ N, N = 64 * p := ⟨_, rfl⟩
  have hNt : T.length = N + t := by rw [hN]; exact m.len
  have hb64 : N + t < 9223372036854775808 := by omega
  have hfold : foldL h0 T = pressL (absorbK h0 T p) (wordsL (D.take t)) (N + t) true := by
    rw [foldL, ← hp, ← m.held, hNt]
  rw [← hN] at F cN
  have hdl := F.dl
  have hl8 := F.hl
  have HFO := Lib.hid hfold
  have HL8 := Lib.hid hl8
  have HDL := Lib.hid hdl
  have FF := Lib.hid F
  clear hT m h0t hp hlen hN hNt hfold F hl8 hdl
  generalize absorbK h0 T p = H0 at *
  go_enter Try.func81, Try.ntmps81
  go_upto_region 1 with (fail)
  refine Seg.wp_region_segs (fun w' => ∃ n, w' = w.drewN n) [] [0, 1, 2, 3, 4, 5, 6, 7, 8] 9 (by kernel_rfl) (by kernel_rfl) (fun _ _ d _ _ h => by cases d <;> exact h) (⟨1, rfl⟩) ?_
  simp only [List.map_cons, List.map_nil, Seg.opAt, List.drop_succ_cons, List.drop_zero, Seg.wpSegs, Array.getD_eq_getD_getElem?, List.getElem?_toArray, List.getElem?_cons_succ, List.getElem?_cons_zero, Option.getD_some]
  repeat (any_goals (first | go_big_quiet_step (fail) | quiet_step (fail)))
  refine wpQuiet_nil ?_
  go_upto_region 2 with (fail)
  refine wp_abs (fun w2 => FoldAt b H0 (N + t) D t w2 ∧ Only b w w2) ⟨by have := FF.out.setN (N + t); push_cast at this; exact this.drewN 1, ((Only.refl b w).setCell _ _).drew⟩ (fun w2 hw2 => ?_)
  obtain ⟨F2, o2⟩ := hw2
  clear cAt cN fN FF
  have cAt := F2.cellAt
  have cN := F2.cellN
  have FF := Lib.hid F2
  have THR := Lib.hid (F2.drewN 1 |>.there (9 + t) (64 - t) (by omega))
  clear F2
  have hs0 : (0 : Int) ≤ t := by omega
  have hs1 : (t : Int) ≤ 64 := by omega
  have hs2 : decide ((t : Int) ≤ 64) = true := by simp; omega
  refine Seg.wp_region_segs (fun w' => ∃ n, w' = w2.drewN n) [] [0, 1, 2, 3, 4, 5, 6] 7 (by kernel_rfl) (by kernel_rfl) (fun _ _ d _ _ h => by cases d <;> exact h) (⟨1, rfl⟩) ?_
  simp only [List.map_cons, List.map_nil, Seg.opAt, List.drop_succ_cons, List.drop_zero, Seg.wpSegs, Array.getD_eq_getD_getElem?, List.getElem?_toArray, List.getElem?_cons_succ, List.getElem?_cons_zero, Option.getD_some]
  repeat (any_goals (first | go_big_quiet_step (fail) | quiet_step (fail)))
  refine wpQuiet_nil ?_
  obtain ⟨off, hoff, hsl⟩ := slice_rest b t htl
  refine wpList_slice_low rfl 97 _ _ rfl _ (hsl _) ?_
  have HSL := Lib.hid hsl
  clear hsl
  refine wpList_clear rfl _ 120 5 rfl (.int .u8 0) Try.underlying120 zero_byte rfl rfl b off (64 - t) (64 - t) rfl ?_ ?_
  · rcases hoff with h | h
    · subst h; intro j hj; omega
    · subst h; exact THR.out
  clear HSL
  go_upto_region 3 with (fail)
  obtain ⟨Z, hZ⟩ : ∃ Z : Bytes, Z = List.replicate (64 - t) 0 := ⟨_, rfl⟩
  have hZl : Z.length = 64 - t := by rw [hZ, List.length_replicate]
  have hZc : List.replicate (64 - t) (Value.int .u8 0) = Lib.byteCells Z := by rw [hZ]; simp [Lib.byteCells]
  obtain ⟨D2, hD2⟩ : ∃ D2, D2 = D.take t ++ Z := ⟨_, rfl⟩
  have hwD : wordsL (D.take t) = wordsL D2 := by rw [hD2, hZ, wordsL_pad]
  refine wp_abs (fun w3 => FoldAt b H0 (N + t) D2 t w3 ∧ Only b w2 w3) ?_ (fun w3 hw3 => ?_)
  · rw [hZc]
    refine ⟨?_, ((Only.refl b w2).drewN 1).trans (setCells_only b _ _ _)⟩
    have e : (w2.drewN 1).setCells b off (Lib.byteCells Z) = (w2.drewN 1).setCells b (9 + t) (Lib.byteCells Z) := by
      rcases hoff with h | h
      · have : Z = [] := by rw [hZ, h]; rfl
        subst this; rfl
      · rw [h]
    show FoldAt b H0 (N + t) D2 t ((w2.drewN 1).setCells b off (Lib.byteCells Z))
    rw [e]
    have := (FF.out.drewN 1).setD t Z (by omega)
    rw [List.drop_of_length_le (by rw [HDL.out]; omega), List.append_nil, ← hD2] at this
    exact this
  obtain ⟨F3, o3⟩ := hw3
  clear hZc hZ hZl hs0 hs1 hs2 THR FF cAt cN
  have hb3 : b < w3.heap.size := lt_of_heap F3.blk
  have cN := F3.cellN
  have FF := Lib.hid F3
  have hg3 : w.grownBy w3 (some b) := gtrans (grown_only o2) (grown_only o3)
  clear F3 o2 o3 hD2 hoff
  obtain ⟨M, hM⟩ : ∃ M, M = N + t := ⟨_, rfl⟩
  rw [← hM] at FF cN hb64 HFO
  clear hM
  rw [hwD] at HFO
  clear hwD HDL HL8
  have iH := Lib.hid (show (Try.prog.info? 96).map (·.size) = some (H0.map uv).length by rw [List.length_map, FF.out.hl]; exact size_eight)
  have QW := Lib.hid (words_any b H0 M D2 t w3.drew (FF.out.drewN 1))
  refine Seg.wp_region_segs (fun w' => ∃ x : BelowT w3.heap.size w3, w' = x.w) [([0, 1, 2, 3, 4, 5, 7, 8, 9, 10], 6), ([], 11)] [] 12 (by kernel_rfl) (by kernel_rfl) (fun _ _ d _ _ h => by cases d <;> exact h) (inB_of ((Below.refl _ _).drew)) ?_
  simp only [List.map_cons, List.map_nil, Seg.opAt, List.drop_succ_cons, List.drop_zero, Seg.wpSegs, Array.getD_eq_getD_getElem?, List.getElem?_toArray, List.getElem?_cons_succ, List.getElem?_cons_zero, Option.getD_some]
  first | go_big_quiet_step (fail) | quiet_step (fail)
  first | go_big_quiet_step (fail) | quiet_step (fail)
  first | go_big_quiet_step (fail) | quiet_step (fail)
  first | go_big_quiet_step (fail) | quiet_step (fail)
  refine wpQuiet_load_mid rfl 96 _ rfl b 0 (H0.map uv) _ rfl (fun w' hw' => (FF.out.below (InB.below hw') hb3).rangeH) Try.underlying96 rfl iH.out ?_
  first | go_big_quiet_step (fail) | quiet_step (fail)
  first | go_big_quiet_step (fail) | quiet_step (fail)
  first | go_big_quiet_step (fail) | quiet_step (fail)
  first | go_big_quiet_step (fail) | quiet_step (fail)
  first | go_big_quiet_step (fail) | quiet_step (fail)
  refine wpQuiet_nil ?_
  intro K hK
  simp only [Region.wanted, if_true]
  go_wp2_with (go_at_call 102; refine QW.out.mono ?_; rintro e w4 ⟨rfl, hb4⟩)
  have hb4' : Below w3.heap.size w3 w4 := ((Below.refl _ _).drew).trans hb4
  refine hK _ _ (inB_of hb4') ?_
  clear hK K
  refine wpQuiet_nil ?_
  intro K hK
  simp only [Region.wanted, if_true]
  have F4 := Lib.hid ((FF.out.drewN 1).below hb4 hb3)
  have QP := Lib.hid (press_any H0 (wordsL D2) M true w4 F4.out.hl (length_wordsL D2) (by have := hb64; omega))
  go_wp2_with (go_at_call 101; refine QP.out.mono ?_; rintro e w5 ⟨rfl, hb5⟩)
  have hb5' : Below w3.heap.size w3 w5 := hb4'.trans (hb5.mono hb4'.size)
  refine hK _ _ (inB_of hb5') ?_
  clear hK K
  refine wpQuiet_nil ?_
  have F5 := Lib.hid (F4.out.below hb5 (Nat.lt_of_lt_of_le hb3 hb4'.size))
  have hl5 : (pressL H0 (wordsL D2) M true).length = 8 := by rw [length_pressL]; exact F4.out.hl
  have hsV := Lib.hid (show (Try.prog.info? 96).map (·.size) = some (vals (pressL H0 (wordsL D2) M true)).size by rw [size_vals, hl5]; exact size_eight)
  have thr := Lib.hid (F5.out.there 0 (vals (pressL H0 (wordsL D2) M true)).size (by rw [size_vals, hl5]; omega))
  have HL5 := Lib.hid hl5
  clear hl5
  go_upto_region 4 with (refine wpList_store_mid rfl 96 _ _ rfl b 0 (vals (pressL H0 (wordsL D2) M true)) rfl rfl thr.out hsV.out (oneCell_vals _) ?_)
  refine wp_abs (fun w6 => FoldAt b (pressL H0 (wordsL D2) M true) M D2 t w6 ∧ Only b w5 w6) ⟨F5.out.setH _ HL5.out, setCells_only b _ 0 w5⟩ (fun w6 hw6 => ?_)
  obtain ⟨F6, o6⟩ := hw6
  have g6 := Lib.hid (gtrans (gtrans hg3 (grown_below hb5')) (grown_only o6))
  rw [← HFO.out] at F6
  have hl8 : (foldL h0 T).length = 8 := by rw [HFO.out]; exact HL5.out
  clear HFO QP QW F4 F5 hsV thr HL5 hb4 hb4' hb5 hb5' o6 FF hg3 iH cN
  obtain ⟨V, hV⟩ : ∃ V, V = foldL h0 T := ⟨_, rfl⟩
  rw [← hV] at F6 hl8
  have HV := Lib.hid hV
  clear hV
  have hb6 : b < w6.heap.size := lt_of_heap F6.blk
  obtain ⟨i0, hi, hz0, hz1, hz2⟩ := info_parts info_byte
  have HI := Lib.hid hi
  have HZ0 := Lib.hid hz0
  have HZ1 := Lib.hid hz1
  have HZ2 := Lib.hid hz2
  clear hi hz0 hz1 hz2
  go_upto_region 5 with (refine wpList_make_own _ rfl _ _ 120 rfl w6.heap.size 5 i0 (.int .u8 0) 1 Try.underlying120 HI.out HZ0.out HZ1.out .i64 .i64 32 32 rfl rfl rfl (by rw [HZ2.out]; decide) (by decide) (Nat.le_refl _) ?_)
  intro w7 own7 hg7
  have F7 : FoldAt b V M D2 t w7 := F6.kept (hg7.block b hb6 (by simp))
  have bel7 : Below w6.heap.size w6 w7 := (Below.refl _ _).grown hg7 (Nat.le_refl _) (by simp)
  have iV := Lib.hid (show (Try.prog.info? 96).map (·.size) = some (V.map uv).length by rw [List.length_map, hl8]; exact size_eight)
  clear F6 hg7
  generalize hB : w6.heap.size = B at *
  go_upto_region 6 with (refine wpList_load_mid rfl 96 _ rfl b 0 rfl (V.map uv) _ F7.rangeH Try.underlying96 rfl iV.out ?_)
  have HB := Lib.hid hB
  clear hB iV F7
  go_loopw [3, 45] (fun v i wr => ∃ k : Nat, k ≤ 8 ∧ i = .int .i64 k ∧ Below B w6 wr ∧ wr.ownsRow B 5 1 v (4 * k) (Lib.byteCells (outB (V.take k)))) (fun _ i _ => 8 - (intOf i).toNat)
  case atStart => exact ⟨0, by omega, rfl, bel7, own7⟩
  case round =>
  obtain ⟨k, hk, rfl, bel, own⟩ := hrel
  clear bel7 own7
  by_cases hlt : k < 8
  · have hd8 : decide ((k : Int) < 8) = true := by simp; omega
    have hkl : k < V.length := by omega
    have hidx : (V.map uv)[k]? = some (.int .u32 (un V[k])) := by simp [hkl, uv]
    have hix : ∀ w, (Instr.index 96 (.agg (V.map uv).toArray) (.int .i64 (k : Int))).run Try.prog w = .ok (.int .u32 (un V[k])) w := fun w => run_index_row w 96 93 8 _ .i64 .u32 k _ Try.underlying96 hlt size_one Try.underlying93 (by simpa using hidx)
    go_upto_region 8 with (fail)
    have hst := Lib.hid (outB_take V k hkl)
    have hfc := Lib.hid (fourB_cells V[k])
    have hx0 := un_nonneg V[k]
    have hx1 := un_lt V[k]
    have hol : (outB (V.take k)).length = 4 * k := by rw [length_outB, List.length_take]; omega
    have HOL := Lib.hid hol
    have hBw : B ≤ wr.heap.size := by have := bel.size; rw [HB.out] at this; exact this
    clear hidx hix hd8 hol
    generalize V[k] = y at *
    generalize un y = x at *
    go_upto_region 9 with (at_builtin; refine wpList_append_own _ rfl (.tmp 48) (.tmp 60) 120 rfl B 5 i0 (.int .u8 0) 1 1 Try.underlying120 HI.out HZ0.out HZ1.out HZ2.out rfl (by decide) u3 (4 * k) _ rfl (own.alloc _) ⟨wr.heap.size, 0, none⟩ 4 4 [.int .u8 (x % 256), .int .u8 (x / 256 % 256), .int .u8 (x / 65536 % 256), .int .u8 (x / 16777216)] rfl rfl ?c1 ?c2 ?c3 ?c4 ?c5 ?_)
    case c1 => exact news_new wr _ _ _ rfl
    case c2 => simp [Value.oneCell']
    case c3 => unfold maxLen; omega
    case c4 => omega
    case c5 => simp; omega
    intro v9 w9 own9 hg9 _
    have bel9 : Below B w6 w9 := (bel.alloc (by have := bel.size; rw [HB.out] at this; exact this) _).grown hg9 (by have := bel.size; rw [HB.out] at this; simp; omega) (fun q hq => (own.lt q hq).1)
    rw [← hfc.out, show Lib.byteCells (outB (V.take k)) ++ Lib.byteCells (fourB y) = Lib.byteCells (outB (V.take k) ++ fourB y) by simp [Lib.byteCells], ← hst.out] at own9
    have OWN9 := Lib.hid own9
    have BEL9 := Lib.hid bel9
    clear own9 bel9 own bel hg9 hfc
    go_wp2_with fail
    go_roundw
    case rel => exact ⟨k + 1, by omega, by go_num, BEL9.out, by rw [show 4 * (k + 1) = 4 * k + 4 by omega]; exact OWN9.out⟩
    case measure => simp [intOf]; omega
  have hd8 : decide ((k : Int) < 8) = false := by simp; omega
  obtain rfl : k = 8 := by omega
  rw [List.take_of_length_le (by omega)] at own
  have hol : (outB V).length = 32 := by rw [length_outB]; omega
  obtain ⟨g, cap, cur, rfl, hBg, hgh, hcap, hmax, hcs, htk⟩ := own.2.resolve_left (by rintro ⟨_, h⟩; omega)
  have hrange : wr.rangeAt g 0 (Lib.byteCells (outB V)) := fun j v hj => by
    have := own.cells (g := g) rfl j v hj
    rw [show (⟨g, 0, none⟩ : Addr).add j = ⟨g, 0 + j, none⟩ by unfold Addr.add; split <;> simp_all] at this
    exact this
  have HR := Lib.hid hrange
  clear hrange own hgh htk
  go_wp2_with (refine wpList_bytes_back rfl _ 120 9 5 rfl Try.underlying120 Try.underlying5 Try.underlying9 g cap 32 (outB V) hol.symm rfl HR.out ?_)
  go_ret
  refine ⟨?_, gtrans g6.out (grown_below (HB.out ▸ bel))⟩
  rw [← HV.out]
  rfl
end Go.Proofs.Ytnohcdpnnhmpfaa
