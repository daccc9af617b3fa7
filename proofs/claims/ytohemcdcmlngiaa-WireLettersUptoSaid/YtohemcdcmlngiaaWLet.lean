/-
  Chapter 4: wire.Letters.
-/
import Derived.Test.YtohemcdcmlngiaaWRLet
import Derived.Test.YtohemcdcmlngiaaWBuild
import Derived.Test.YtohemcdcmlngiaaBytesOf
import Derived.Lib.SlBytesConst
import Derived.WalkSpells
import Derived.Deep.AppendLies
import Derived.WalkLawsBesides
namespace Go.Proofs.Ytohemcdcmlngiaa
set_option linter.unusedVariables false
set_option linter.unusedSimpArgs false
open Go.RowKit ML FM WL

theorem or64 (x c : Nat) (hx : x < 1099511627776) (hc : c < 256) : bits BinOp.or IntKind.i64 ((x : Int) * 256) (c : Int) = ((x * 256 + c : Nat) : Int) := by
  have e : ((x : Int) * 256) = ((x * 256 : Nat) : Int) := by omega
  rw [e]
  show IntKind.i64.wrap ((BitVec.ofInt 64 ((x * 256 : Nat) : Int) ||| BitVec.ofInt 64 (c : Int)).toNat : Int) = _
  rw [BitVec.toNat_or, ofInt_u64 (x * 256) (by omega), ofInt_u64 c (by omega)]
  have h1 : x * 256 ||| c = x * 256 + c := by
    have := Nat.shiftLeft_add_eq_or_of_lt (show c < 2 ^ 8 by omega) x
    rw [Nat.shiftLeft_eq] at this
    exact this.symm
  rw [h1, IntKind.wrap_i64]
  omega
theorem ofInt_i64 (a : Nat) (ha : a < 9223372036854775808) : (BitVec.ofInt 64 (a : Int)).toNat = a := by
  rw [BitVec.ofInt_natCast, BitVec.toNat_ofNat]; exact Nat.mod_eq_of_lt (by omega)
theorem and31 (z : Nat) (h : z < 9223372036854775808) : bits BinOp.and IntKind.i64 (z : Int) 31 = ((z % 32 : Nat) : Int) := by
  have e : (BitVec.ofInt 64 (31 : Int)).toNat = 31 := ofInt_i64 31 (by decide)
  show IntKind.i64.wrap ((BitVec.ofInt 64 (z : Int) &&& BitVec.ofInt 64 (31 : Int)).toNat : Int) = _
  rw [BitVec.toNat_and, ofInt_i64 z h, e, show (31 : Nat) = 2 ^ 5 - 1 from rfl, Nat.and_two_pow_sub_one_eq_mod, IntKind.wrap_i64]
  omega
def sgB (l : List Nat) : Bytes := l.map sgn
theorem sgB_snoc (l : List Nat) (v : Nat) : sgB (l ++ [v]) = sgB l ++ [sgn v] := by simp [sgB]
theorem length_sgB (l : List Nat) : (sgB l).length = l.length := by simp [sgB]
/-- the check and the signs so far, in the closure's two variables -/
structure PutW (B c o : Nat) (l : List Nat) (w : World) : Prop where
  ck : w.heap[c]? = some (.cells #[.int .i64 ((ckV l : Nat) : Int)] 3 (0, 0))
  out : ∃ v, w.heap[o]? = some (.cells #[v] 35 (0, 0)) ∧ w.ownsRow B 5 1 v l.length (Lib.byteCells (sgB l))
  ne : c ≠ o
/-- below R all but two blocks is as it was -/
structure Kp (R c o : Nat) (w w' : World) : Prop where
  os : w'.os = w.os
  tape : w'.tape = w.tape
  output : w'.output = w.output
  size : w.heap.size ≤ w'.heap.size
  block : ∀ k, k < R → k ≠ c → k ≠ o → w'.heap[k]? = w.heap[k]?
namespace Kp
variable {R c o : Nat} {w w1 w2 : World}
theorem refl (w : World) : Kp R c o w w := ⟨rfl, rfl, rfl, Nat.le_refl _, fun _ _ _ _ => rfl⟩
theorem trans (h : Kp R c o w w1) (k : Kp R c o w1 w2) : Kp R c o w w2 :=
  ⟨k.os.trans h.os, k.tape.trans h.tape, k.output.trans h.output, Nat.le_trans h.size k.size, fun i a b d => (k.block i a b d).trans (h.block i a b d)⟩
theorem only1 (h : Only c w w1) : Kp R c o w w1 := ⟨h.os, h.tape, h.output, Nat.le_of_eq h.size.symm, fun i _ b _ => h.block i b⟩
theorem only2 (h : Only o w w1) : Kp R c o w w1 := ⟨h.os, h.tape, h.output, Nat.le_of_eq h.size.symm, fun i _ _ d => h.block i d⟩
theorem below (h : Below R w w1) : Kp R c o w w1 := ⟨h.os, h.tape, h.output, h.size, fun i a _ _ => h.block i a⟩
theorem keep (h : Kp R c o w w1) {k : Nat} {x : Obj} (hk : k < R) (h1 : k ≠ c) (h2 : k ≠ o) (hx : w.heap[k]? = some x) : w1.heap[k]? = some x := (h.block k hk h1 h2).trans hx
theorem bel {W : Nat} (h : Kp R c o w w1) (hc : W ≤ c) (ho : W ≤ o) (hR : W ≤ R) : Below W w w1 := ⟨h.os, h.tape, h.output, h.size, fun i hi => h.block i (by omega) (by omega) (by omega)⟩
end Kp
theorem own_only {w w' : World} {b base : Nat} {e : TypeId} {size : Nat} {v : Value} {n : Nat} {xs : List Value} (h : w.ownsRow base e size v n xs) (hb : Only b w w') (hne : v.ownBlock ≠ some b) : w'.ownsRow base e size v n xs := by
  refine ⟨h.1, ?_⟩
  rcases h.2 with h' | ⟨g, cap, cur, h1, h2, h3, h4⟩
  · exact Or.inl h'
  · refine Or.inr ⟨g, cap, cur, h1, h2, ?_, h4⟩
    refine hb.keep ?_ h3
    rintro rfl
    exact hne (by rw [h1]; rfl)
theorem own_slice {w : World} {base : Nat} {e : TypeId} {size : Nat} {v : Value} {n : Nat} {xs : List Value} (h : w.ownsRow base e size v n xs) : ∃ ao n' cap, v = .slice ao n' cap := by
  rcases h.2 with ⟨hv, _⟩ | ⟨g, cap, cur, hv, _⟩
  · exact ⟨_, _, _, hv⟩
  · exact ⟨_, _, _, hv⟩
theorem news_bytes (w : World) (news : Bytes) (t : TypeId) (n : Nat) (hn : w.heap.size = n) : ∀ j u, (Lib.byteCells news)[j]? = some u → (w.alloc (.cells (Lib.byteCells news).toArray t)).cell? ((⟨n, 0, none⟩ : Addr).add j) = some u := news_new w (Lib.byteCells news) t n hn
theorem byteCells_one (news : Bytes) : ∀ v ∈ Lib.byteCells news, v.oneCell' = true := by
  intro v hv; simp only [Lib.byteCells, List.mem_map] at hv; obtain ⟨x, _, rfl⟩ := hv; rfl
theorem run_sgi (v : Nat) (h : v < 37) (W : World) : (Instr.index 9 (.string ⟨#[48, 49, 50, 51, 52, 53, 54, 55, 56, 57, 65, 66, 67, 68, 69, 70, 71, 72, 74, 75, 77, 78, 80, 81, 82, 83, 84, 86, 87, 88, 89, 90, 42, 126, 36, 61, 85]⟩) (.int .i64 (v : Int))).run Try.prog W = .ok (.int .u8 ((sgn v).toNat : Int)) W := by
  have hs : v < (ByteArray.mk #[48, 49, 50, 51, 52, 53, 54, 55, 56, 57, 65, 66, 67, 68, 69, 70, 71, 72, 74, 75, 77, 78, 80, 81, 82, 83, 84, 86, 87, 88, 89, 90, 42, 126, 36, 61, 85]).size := by rw [sg_size]; exact h
  have e := sg_at v hs
  rw [show (byteN signsL v : Int) = ((sgn v).toNat : Int) from rfl] at e
  rw [run_index_string (P := Try.prog) (w := W) 9 ⟨#[48, 49, 50, 51, 52, 53, 54, 55, 56, 57, 65, 66, 67, 68, 69, 70, 71, 72, 74, 75, 77, 78, 80, 81, 82, 83, 84, 86, 87, 88, 89, 90, 42, 126, 36, 61, 85]⟩ .i64 (v : Int) Try.underlying9, dif_pos ⟨by omega, by omega⟩]
  rw [← e]
  rfl
set_option maxHeartbeats 4000000 in
set_option maxRecDepth 100000 in
theorem wirePut_any (B c o : Nat) (l : List Nat) (v : Nat) (w : World) (H : PutW B c o l w) (hv : v < 37) (hl : l.length < 1000000) (hB : B ≤ w.heap.size) :
    Calls Try.prog 22 #[.int .i64 (v : Int), .pointer (some ⟨c, 0, none⟩), .pointer (some ⟨o, 0, none⟩)] w fun e w' => e = .returned (.tuple #[]) ∧ PutW B c o (l ++ [v]) w' ∧ Kp B c o w w' := by
  obtain ⟨i0, hi, hz0, hz1, hz2⟩ := info_parts info_byte
  have HI := Lib.hid hi
  have HZ0 := Lib.hid hz0
  have HZ1 := Lib.hid hz1
  have HZ2 := Lib.hid hz2
  clear hi hz0 hz1 hz2
  obtain ⟨ck, ⟨s, hs, own⟩, hne⟩ := H
  have c1 := cell_of_row w c 0 _ _ _ ck
  have f1 := frozen_of_row w c 0 _ _ ck
  have hckl := ckV_lt l
  have hm : (((ckV l : Nat) : Int) * 32 + (v : Int)) % 37 = ((ckV (l ++ [v]) : Nat) : Int) := by rw [ckV_snoc]; omega
  have HSN := Lib.hid (sgB_snoc l v)
  go_enter Try.func22, Try.ntmps22
  generalize hy2 : ckV (l ++ [v]) = y2 at *
  have HY2 := Lib.hid hy2
  clear hy2
  generalize ckV l = y at *
  go_upto_region 1 with (fail)
  refine wp_abs (fun w1 => Only c w w1 ∧ w1.heap[c]? = some (.cells #[.int .i64 (y2 : Int)] 3 (0, 0))) ⟨(Only.refl c w).setCell _ _, heap_setCell_same w c 0 _ _ _ ck⟩ (fun w1 hw1 => ?_)
  obtain ⟨ho, ck1⟩ := hw1
  have hs1 := ho.keep (Ne.symm hne) hs
  have own1 := own_only own ho (own_ne own ck (by decide))
  have bel1 : Kp B c o w w1 := Kp.only1 ho
  have hB1 : B ≤ w1.heap.size := by rw [ho.size]; exact hB
  have OWN := Lib.hid own1
  have CK := Lib.hid ck1
  have HS := Lib.hid hs1
  have BEL := Lib.hid bel1
  clear ho own hs c1 f1 ck own1 ck1 bel1 hckl hm
  have c2 := cell_of_row w1 o 0 _ _ _ hs1
  have f2 := frozen_of_row w1 o 0 _ _ hs1
  have sgi := run_sgi v hv
  have HCB := Lib.hid (show Lib.byteCells [sgn v] = [.int .u8 ((sgn v).toNat : Int)] from rfl)
  clear hs1
  generalize sgn v = z at *
  have ho1 : o < w1.heap.size := lt_of_heap HS.out
  refine Seg.wp_region_segs (fun w' => ∃ x : BelowT w1.heap.size w1, w' = x.w) [([0, 1, 2], 3)] [] 4 (by kernel_rfl) (by kernel_rfl) (fun _ _ d _ _ h => by cases d <;> exact h) (⟨⟨_, (Below.refl _ _).drew⟩, rfl⟩) ?_
  simp only [List.map_cons, List.map_nil, Seg.opAt, List.drop_succ_cons, List.drop_zero, Seg.wpSegs, Array.getD_eq_getD_getElem?, List.getElem?_toArray, List.getElem?_cons_succ, List.getElem?_cons_zero, Option.getD_some]
  repeat (any_goals (first | go_big_quiet_step (fail) | quiet_step (fail)))
  refine wpQuiet_nil ?_
  intro K hK
  simp only [Region.wanted, if_true]
  go_wp2_with fail
  refine hK _ _ ⟨⟨_, (Below.refl _ _).drew.alloc (Nat.le_refl _) _⟩, rfl⟩ ?_
  clear hK K c2 f2 sgi
  repeat (any_goals (first | go_big_quiet_step (fail) | quiet_step (fail)))
  refine wpQuiet_nil ?_
  have OWN2 := Lib.hid (show (w1.drew.alloc (.cells #[.int .u8 (z.toNat : Int)] 5)).ownsRow B 5 1 s l.length (Lib.byteCells (sgB l)) from (OWN.out.drew).alloc _)
  have HS2 := Lib.hid (heap_lt (o := .cells #[.int .u8 (z.toNat : Int)] 5) (show w1.drew.heap[o]? = some (.cells #[s] 35 (0, 0)) from HS.out))
  have CK2 := Lib.hid (heap_lt (o := .cells #[.int .u8 (z.toNat : Int)] 5) (show w1.drew.heap[c]? = some (.cells #[.int .i64 (y2 : Int)] 3 (0, 0)) from CK.out))
  have BEL2 := Lib.hid (show Below B w1 (w1.drew.alloc (.cells #[.int .u8 (z.toNat : Int)] 5)) from ((Below.refl B w1).drew).alloc hB1 _)
  go_wp2_with (at_builtin; refine wpList_append_own _ rfl (.tmp 9) (.tmp 12) 35 rfl B 5 i0 (.int .u8 0) 1 1 Try.underlying35 HI.out HZ0.out HZ1.out HZ2.out rfl (by decide) s l.length (Lib.byteCells (sgB l)) rfl OWN2.out ⟨w1.heap.size, 0, none⟩ 1 1 (Lib.byteCells [z]) rfl rfl (by first | exact news_bytes w1.drew [z] _ _ rfl | exact fun j u h => h) (byteCells_one _) (by unfold maxLen; omega) (by omega) (by first | omega | (simp; omega)) ?_; intro v5 w5 own5 hg5 _; obtain ⟨ao, n', cap, rfl⟩ := own_slice own5; have h5 : w5.heap[o]? = some (.cells #[s] 35 (0, 0)) := grown_keep hg5 (own_ne OWN2.out HS2.out (by decide)) HS2.out; have k5 : w5.heap[c]? = some (.cells #[.int .i64 (y2 : Int)] 3 (0, 0)) := grown_keep hg5 (own_ne OWN2.out CK2.out (by decide)) CK2.out; have d5 := cell_of_row w5 o 0 _ _ _ h5; have e5 := frozen_of_row w5 o 0 _ _ h5; have O5 := Lib.hid own5; have G5 := Lib.hid hg5; have H5 := Lib.hid h5; have K5 := Lib.hid k5; clear own5 hg5 h5 k5)
  go_end0
  have h6 : (w5.setCell ⟨o, 0, none⟩ (.slice ao n' cap)).heap[o]? = some (.cells #[.slice ao n' cap] 35 (0, 0)) := heap_setCell_same w5 o 0 _ _ _ H5.out
  have o6 : Only o w5 (w5.setCell ⟨o, 0, none⟩ (.slice ao n' cap)) := (Only.refl o w5).setCell _ _
  have bel5 : Below B w1 w5 := BEL2.out.grown G5.out (by simp; omega) (fun q hq => (OWN2.out.lt q hq).1)
  refine ⟨rfl, ⟨by rw [HY2.out]; exact o6.keep hne K5.out, ⟨_, h6, ?_⟩, hne⟩, (BEL.out.trans (Kp.below bel5)).trans (Kp.only2 o6)⟩
  have := O5.out
  rw [byteCells_append, ← HSN.out] at this
  rw [List.length_append, List.length_singleton]
  exact own_only this o6 (own_ne this H5.out (by decide))
theorem wrByte (b : Nat) (A : Bytes) (z : UInt8) (w : World) (h : Lib.IsBuilder 52 5 b b (Lib.byteCells A) w) (hA : A.length < 100000) (hb : b ≤ w.heap.size) :
    Calls Try.prog 23 #[.pointer (some ⟨b, 0, none⟩), .int .u8 ((z.toNat : Nat) : Int)] w fun e w' => e = .returned .nilIface ∧ Lib.IsBuilder 52 5 b b (Lib.byteCells (A ++ [z])) w' ∧ Below b w w' :=
  (writeByte_any b b (Lib.byteCells A) z.toNat w h (by rw [length_byteCells]; omega) hb).mono fun e w' ⟨h1, h2, h3⟩ => ⟨h1, .inr (by rw [← byteCells_append]; exact h2), h3⟩
set_option maxHeartbeats 8000000 in
set_option maxRecDepth 100000 in
theorem wireLetters_any (B : Bytes) (w : World) (hB : B.length < 9223372036854775808) :
    Calls Try.prog 10 #[.string ⟨B.toArray⟩] w fun e w' => e = .returned (.tuple #[.string ⟨(lettersT B).toArray⟩, .int .i64 (lettersE B : Int)]) ∧ Below w.heap.size w w' := by
  have hszB := size_mk B
  obtain ⟨T, hT⟩ : ∃ T, T = lettersT B := ⟨_, rfl⟩
  rw [← hT]
  unfold lettersE lettersT at *
  by_cases h64 : 64 < B.length
  · rw [if_pos h64] at hT ⊢
    have HT := Lib.hid hT
    have d : decide (64 < B.length) = true := decide_eq_true h64
    have d2 : decide ((64 : Int) < (B.length : Int)) = true := decide_eq_true (by omega)
    clear h64 hT
    go_enter Try.func10, Try.ntmps10
    go_wp2_with fail
    go_ret2
    exact ⟨by rw [HT.out]; rfl, Below.refl _ _⟩
  rw [if_neg h64] at hT ⊢
  have HT := Lib.hid hT
  have d : decide (64 < B.length) = false := decide_eq_false h64
  have d2 : decide ((64 : Int) < (B.length : Int)) = false := decide_eq_false (by omega)
  have hl : B.length ≤ 64 := by omega
  clear h64 hT
  generalize hW : w.heap.size = W at *
  have HW := Lib.hid hW
  go_enter Try.func10, Try.ntmps10
  go_upto_region 7 with (refine wpList_bytes_of rfl _ 9 35 5 rfl Try.underlying9 Try.underlying35 Try.underlying5 B rfl ?_; intro cap w7 hb7 hg7 hby)
  have hz2 : ((w.alloc (.cells #[.slice none 0 0] 35)).alloc (.cells #[.int .i64 0] 3)).heap.size = W + 2 := by simp [hW]
  rw [hz2] at hb7 hg7 hby
  have P0 : PutW (W + 3) (W + 1) W [] w7 := by
    refine ⟨bel_keep hb7 (by omega) (heap_at (by simp [hW])), ⟨.slice none 0 0, bel_keep hb7 (by omega) (heap_lt (heap_at hW)), World.ownsRow_nil _ _ _ _⟩, by omega⟩
  have bel7 : Below W w w7 := (((Below.refl W w).alloc (by omega) _).alloc (by simp; omega) _).trans (hb7.mono (by omega))
  have HBY := Lib.hid hby
  have HP0 := Lib.hid P0
  have BEL7 := Lib.hid bel7
  clear hb7 hby P0 bel7 hz2 hW
  have hzz : (w.alloc (.cells #[.slice none 0 0] 35)).heap.size = W + 1 := by simp [HW.out]
  go_loopw [5, 6, 21] (fun h b i wr => ∃ (k t x : Nat) (l : List Nat), k ≤ B.length ∧ h = .int .i64 x ∧ b = .int .i64 t ∧ i = .int .i64 k ∧ PutV (B.take k) t l ∧ t < 5 ∧ x < 32 ∧ x % 32 = nB (B.take k) % 32 ∧ PutW (W + 3) (W + 1) W l wr ∧ Kp (W + 3) (W + 1) W w7 wr) (fun _ _ i _ => B.length - (intOf i).toNat)
  case atStart => exact ⟨0, 0, 0, [], by omega, rfl, rfl, rfl, PutV.nil, by omega, by omega, rfl, HP0.out, Kp.refl _⟩
  case round =>
  obtain ⟨k, t, x, l, hk, rfl, rfl, rfl, hV, ht5, hx32, hxm, hP, hKp⟩ := hrel
  by_cases hlt : k < B.length
  · have dl : decide ((k : Int) < (B.length : Int)) = true := decide_eq_true (by omega)
    have dl2 : decide (k < B.length) = true := decide_eq_true hlt
    have hsn : B.take (k + 1) = B.take k ++ [B[k]] := by rw [List.take_succ_eq_append_getElem hlt]
    have hbk : byteN B k = B[k].toNat := by unfold byteN; rw [List.getD_eq_getElem?_getD, List.getElem?_eq_getElem hlt]; rfl
    have hV2 := hV.byte B[k]
    rw [← hsn] at hV2
    have hH := held_mod (B.take k) B[k] x hxm
    rw [← hsn, ← hbk] at hH
    have hc8 := byteN_lt B k
    obtain ⟨v0, hcell, hblk⟩ : ∃ v0 : Int, w7.cell? ⟨W + 2, k, none⟩ = some (.int .u8 v0) ∧ v0 = (byteN B k : Int) := ⟨_, HBY.out k hlt, rfl⟩
    have hcell2 : wr.cell? ⟨W + 2, k, none⟩ = some (.int .u8 (byteN B k : Int)) := by
      rw [World.cell?_of_block (w := w7) (hKp.block (W + 2) (by omega) (by omega) (by omega)), hcell, hblk]
    have hor := or64 x (byteN B k) (by omega) hc8
    have hki : (k : Int) < (B.length : Int) := by omega
    have HV2 := Lib.hid hV2
    have HP := Lib.hid hP
    have HK := Lib.hid hKp
    have HH := Lib.hid hH
    clear hsn hbk hV hV2 hxm hcell hblk hP hKp hH
    generalize byteN B k = c at *
    obtain ⟨y, hy⟩ : ∃ y, y = x * 256 + c := ⟨_, rfl⟩
    rw [← hy] at hor HH
    have hyl : y < 8192 := by omega
    clear hy
    go_upto_region 10 with (fail)
    obtain ⟨wo, rfl⟩ : ∃ wo : World, wo = wr := ⟨_, rfl⟩
    go_loopw [6] (fun b wr => ∃ (t : Nat) (l : List Nat), b = .int .i64 t ∧ t ≤ 12 ∧ PutV (B.take (k + 1)) t l ∧ PutW (W + 3) (W + 1) W l wr ∧ Kp (W + 3) (W + 1) W w7 wr) (fun b _ => (intOf b).toNat)
    case atStart => exact ⟨t + 8, l, by go_num, by omega, HV2.out, HP.out, HK.out⟩
    case round =>
    clear HV2 HP HK hcell2
    obtain ⟨t2, l2, rfl, ht2, hV2, hP2, hK2⟩ := hrel
    by_cases h5 : 5 ≤ t2
    · have d5 : decide ((5 : Int) ≤ (t2 : Int)) = true := decide_eq_true (by omega)
      obtain ⟨s, rfl⟩ : ∃ s, t2 = s + 5 := ⟨t2 - 5, by omega⟩
      have hs5 : (((s + 5 : Nat) : Int)) - 5 = (s : Int) := by omega
      have hs7 : s ≤ 7 := by omega
      have hl2 := hV2.len
      have hl3 : l2.length < 1000 := by rw [List.length_take] at hl2; omega
      have hdv : ((y : Int) / 2 ^ s) = ((y / 2 ^ s : Nat) : Int) := by norm_cast
      have hand : bits BinOp.and IntKind.i64 ((y : Int) / 2 ^ s) 31 = ((y / 2 ^ s % 32 : Nat) : Int) := by
        rw [hdv]
        exact and31 _ (Nat.lt_of_le_of_lt (Nat.div_le_self _ _) (by omega))
      have hput := Lib.hid (by have := hV2.put; rwa [← held_div y (nB (B.take (k + 1))) s HH.out (by omega)] at this : PutV (B.take (k + 1)) s (l2 ++ [y / 2 ^ s % 32]))
      have hv37 : y / 2 ^ s % 32 < 37 := by omega
      have hWs : W + 3 ≤ wr.heap.size := by have := hK2.size; omega
      have QP := Lib.hid (wirePut_any (W + 3) (W + 1) W l2 (y / 2 ^ s % 32) wr hP2 hv37 (by omega) hWs)
      have HK2 := Lib.hid hK2
      clear hV2 hl2 hdv hP2 hK2
      generalize y / 2 ^ s % 32 = v at *
      go_wp2_with (go_at_call 22; refine QP.out.mono ?_; rintro e w9 ⟨rfl, hP3, hK3⟩)
      go_roundw
      case rel => exact ⟨s, l2 ++ [v], rfl, by omega, hput.out, hP3, HK2.out.trans hK3⟩
      case measure => simp [intOf] <;> omega
    · have d5 : decide ((5 : Int) ≤ (t2 : Int)) = false := decide_eq_false (by omega)
      have hand : bits BinOp.and IntKind.i64 (y : Int) 31 = ((y % 32 : Nat) : Int) := and31 y (by omega)
      have hV3 := Lib.hid hV2
      have hP3 := Lib.hid hP2
      have hK3 := Lib.hid hK2
      have hym := Lib.hid (show y % 32 % 32 = nB (B.take (k + 1)) % 32 by have := HH.out; omega)
      have hyl2 : y % 32 < 32 := by omega
      clear hV2 hP2 hK2 hor
      generalize hz : y % 32 = z at *
      have HZ := Lib.hid hz
      clear hz
      go_wp2_with fail
      go_roundw
      case rel => exact ⟨k + 1, t2, z, l2, by omega, rfl, rfl, by go_num, hV3.out, by omega, by omega, hym.out, hP3.out, hK3.out⟩
      case measure => simp [intOf]; omega
  · have dl : decide ((k : Int) < (B.length : Int)) = false := decide_eq_false (by omega)
    have dl2 : decide (k < B.length) = false := decide_eq_false hlt
    obtain rfl : k = B.length := by omega
    rw [List.take_length] at hV hxm
    clear hlt HBY HP0
    have HV := Lib.hid hV
    have HXM := Lib.hid hxm
    have HP := Lib.hid hP
    have HK := Lib.hid hKp
    have hWs : W + 3 ≤ wr.heap.size := by have := hKp.size; omega
    clear hV hxm hP hKp
    go_upto_if 47 with (fail)
    go_cut [] (fun w' => PutW (W + 3) (W + 1) W (valsOf B) w' ∧ Kp (W + 3) (W + 1) W w7 w')
    case first =>
      by_cases h0 : 0 < t
      · have d0 : decide ((0 : Int) < (t : Int)) = true := decide_eq_true (by omega)
        have hrest := HV.out.rest h0 ht5 HXM.out
        have hl2 := HV.out.len
        have hl3 : l.length < 1000 := by omega
        have h4 : t = 1 ∨ t = 2 ∨ t = 3 ∨ t = 4 := by omega
        clear hl2 h0
        rcases h4 with rfl | rfl | rfl | rfl
        · have hrest' : l ++ [x * 16 % 32] = valsOf B := hrest
          have hv37 : x * 16 % 32 < 37 := by omega
          have QP := Lib.hid (wirePut_any (W + 3) (W + 1) W l (x * 16 % 32) wr HP.out hv37 (by omega) hWs)
          rw [hrest'] at QP
          have hand : bits BinOp.and IntKind.i64 ((x : Int) * 16) 31 = ((x * 16 % 32 : Nat) : Int) := by
            rw [show ((x : Int) * 16) = ((x * 16 : Nat) : Int) by omega]
            exact and31 _ (by omega)
          clear hrest hrest'
          generalize x * 16 % 32 = v at *
          go_wp2_with (go_at_call 22; refine QP.out.mono ?_; rintro e w9 ⟨rfl, hP3, hK3⟩)
          go_meet
          exact ⟨hP3, HK.out.trans hK3⟩
        · have hrest' : l ++ [x * 8 % 32] = valsOf B := hrest
          have hv37 : x * 8 % 32 < 37 := by omega
          have QP := Lib.hid (wirePut_any (W + 3) (W + 1) W l (x * 8 % 32) wr HP.out hv37 (by omega) hWs)
          rw [hrest'] at QP
          have hand : bits BinOp.and IntKind.i64 ((x : Int) * 8) 31 = ((x * 8 % 32 : Nat) : Int) := by
            rw [show ((x : Int) * 8) = ((x * 8 : Nat) : Int) by omega]
            exact and31 _ (by omega)
          clear hrest hrest'
          generalize x * 8 % 32 = v at *
          go_wp2_with (go_at_call 22; refine QP.out.mono ?_; rintro e w9 ⟨rfl, hP3, hK3⟩)
          go_meet
          exact ⟨hP3, HK.out.trans hK3⟩
        · have hrest' : l ++ [x * 4 % 32] = valsOf B := hrest
          have hv37 : x * 4 % 32 < 37 := by omega
          have QP := Lib.hid (wirePut_any (W + 3) (W + 1) W l (x * 4 % 32) wr HP.out hv37 (by omega) hWs)
          rw [hrest'] at QP
          have hand : bits BinOp.and IntKind.i64 ((x : Int) * 4) 31 = ((x * 4 % 32 : Nat) : Int) := by
            rw [show ((x : Int) * 4) = ((x * 4 : Nat) : Int) by omega]
            exact and31 _ (by omega)
          clear hrest hrest'
          generalize x * 4 % 32 = v at *
          go_wp2_with (go_at_call 22; refine QP.out.mono ?_; rintro e w9 ⟨rfl, hP3, hK3⟩)
          go_meet
          exact ⟨hP3, HK.out.trans hK3⟩
        · have hrest' : l ++ [x * 2 % 32] = valsOf B := hrest
          have hv37 : x * 2 % 32 < 37 := by omega
          have QP := Lib.hid (wirePut_any (W + 3) (W + 1) W l (x * 2 % 32) wr HP.out hv37 (by omega) hWs)
          rw [hrest'] at QP
          have hand : bits BinOp.and IntKind.i64 ((x : Int) * 2) 31 = ((x * 2 % 32 : Nat) : Int) := by
            rw [show ((x : Int) * 2) = ((x * 2 : Nat) : Int) by omega]
            exact and31 _ (by omega)
          clear hrest hrest'
          generalize x * 2 % 32 = v at *
          go_wp2_with (go_at_call 22; refine QP.out.mono ?_; rintro e w9 ⟨rfl, hP3, hK3⟩)
          go_meet
          exact ⟨hP3, HK.out.trans hK3⟩
      · have d0 : decide ((0 : Int) < (t : Int)) = false := decide_eq_false (by omega)
        obtain rfl : t = 0 := by omega
        have hdn := HV.out.done
        subst hdn
        go_wp2_with fail
        go_meet
        exact ⟨HP.out, HK.out⟩
    case rest =>
    obtain ⟨⟨ck, ⟨s, hs, own⟩, hne⟩, hKp⟩ := hcut
    obtain ⟨i0, hi, hz0, hz1, hz2⟩ := info_parts info_byte
    have HI := Lib.hid hi
    have HZ0 := Lib.hid hz0
    have HZ1 := Lib.hid hz1
    have HZ2 := Lib.hid hz2
    have hbel := BEL7.out.trans (hKp.bel (W := W) (by omega) (by omega) (by omega)  |>.mono (by omega))
    have BEL := Lib.hid hbel
    have hWc : W + 3 ≤ wc.heap.size := by have := hKp.size; omega
    have OWN := Lib.hid own
    have HS := Lib.hid hs
    have ho1 : W < wc.heap.size := by omega
    have ho2 : W + 1 < wc.heap.size := by omega
    have c2 := cell_of_row wc W 0 _ _ _ hs
    have f2 := frozen_of_row wc W 0 _ _ hs
    have c3 := cell_of_row wc (W + 1) 0 _ _ _ ck
    have sgi := run_sgi (ckV (valsOf B)) (ckV_lt _)
    have HLS := length_sgsOf B
    have HSN := Lib.hid (show sgB (valsOf B) ++ [sgn (ckV (valsOf B))] = sgB (sgsOf B) by unfold sgsOf; rw [sgB_snoc])
    have HLV := length_valsOf B
    have hml : mV B.length ≤ 103 := by unfold mV; omega
    have HNL := Lib.hid (show (valsOf B).length + 1 = (sgsOf B).length by omega)
    have hvl : (valsOf B).length ≤ 103 := by omega
    have hsl := Lib.hid (show (sgsOf B).length ≤ 104 ∧ 0 < (sgsOf B).length by omega)
    have HSL := Lib.hid (sgsOf_lt B)
    clear hi hz0 hz1 hz2 hbel own hs ck hKp HLS HLV hml HV HXM HP HK hWs hne
    generalize sgn (ckV (valsOf B)) = z at *
    generalize ckV (valsOf B) = cv at *
    generalize valsOf B = V at *
    generalize sgsOf B = S at *
    go_upto_region 17 with (fail)
    refine Seg.wp_region_segs (fun w' => ∃ x : BelowT wc.heap.size wc, w' = x.w) [([0, 1, 2], 3)] [] 4 (by kernel_rfl) (by kernel_rfl) (fun _ _ d _ _ h => by cases d <;> exact h) (⟨⟨_, (Below.refl _ _).drew⟩, rfl⟩) ?_
    simp only [List.map_cons, List.map_nil, Seg.opAt, List.drop_succ_cons, List.drop_zero, Seg.wpSegs, Array.getD_eq_getD_getElem?, List.getElem?_toArray, List.getElem?_cons_succ, List.getElem?_cons_zero, Option.getD_some]
    repeat (any_goals (first | go_big_quiet_step (fail) | quiet_step (fail)))
    refine wpQuiet_nil ?_
    intro K hK
    simp only [Region.wanted, if_true]
    go_wp2_with fail
    refine hK _ _ ⟨⟨_, (Below.refl _ _).drew.alloc (Nat.le_refl _) _⟩, rfl⟩ ?_
    clear hK K c2 c3 f2 sgi
    repeat (any_goals (first | go_big_quiet_step (fail) | quiet_step (fail)))
    refine wpQuiet_nil ?_
    have OWN2 := Lib.hid (show (wc.drew.alloc (.cells #[.int .u8 (z.toNat : Int)] 5)).ownsRow (W + 3) 5 1 s V.length (Lib.byteCells (sgB V)) from (OWN.out.drew).alloc _)
    have HS2 := Lib.hid (heap_lt (o := .cells #[.int .u8 (z.toNat : Int)] 5) (show wc.drew.heap[W]? = some (.cells #[s] 35 (0, 0)) from HS.out))
    have BEL2 := Lib.hid (show Below W wc (wc.drew.alloc (.cells #[.int .u8 (z.toNat : Int)] 5)) from ((Below.refl W wc).drew).alloc (by show W ≤ wc.heap.size; omega) _)
    go_upto_region 19 with (at_builtin; refine wpList_append_own _ rfl (.tmp 55) (.tmp 58) 35 rfl (W + 3) 5 i0 (.int .u8 0) 1 1 Try.underlying35 HI.out HZ0.out HZ1.out HZ2.out rfl (by decide) s V.length (Lib.byteCells (sgB V)) rfl OWN2.out ⟨wc.heap.size, 0, none⟩ 1 1 (Lib.byteCells [z]) rfl rfl (by first | exact news_bytes wc.drew [z] _ _ rfl | exact fun j u h => h) (byteCells_one _) (by unfold maxLen; omega) (by omega) (by first | omega | (simp; omega)) ?_; intro v5 w5 own5 hg5 _; obtain ⟨ao, n', cap5, rfl⟩ := own_slice own5; have h5 : w5.heap[W]? = some (.cells #[s] 35 (0, 0)) := grown_keep hg5 (own_ne OWN2.out HS2.out (by decide)) HS2.out; have d5 := cell_of_row w5 W 0 _ _ _ h5; have e5 := frozen_of_row w5 W 0 _ _ h5; have O5 := Lib.hid own5; have G5 := Lib.hid hg5; have H5 := Lib.hid h5; clear own5 hg5 h5)
    have h6 : (w5.setCell ⟨W, 0, none⟩ (.slice ao n' cap5)).heap[W]? = some (.cells #[.slice ao n' cap5] 35 (0, 0)) := heap_setCell_same w5 W 0 _ _ _ H5.out
    have o6 : Only W w5 (w5.setCell ⟨W, 0, none⟩ (.slice ao n' cap5)) := (Only.refl W w5).setCell _ _
    have bel5 : Below W wc w5 := BEL2.out.grown G5.out (by simp; omega) (fun q hq => by have := (OWN2.out.lt q hq).1; omega)
    have bel6 : Below W w (w5.setCell ⟨W, 0, none⟩ (.slice ao n' cap5)) := bel_only (BEL.out.trans bel5) o6 (Nat.le_refl _)
    have own6 : (w5.setCell ⟨W, 0, none⟩ (.slice ao n' cap5)).ownsRow (W + 3) 5 1 (.slice ao n' cap5) S.length (Lib.byteCells (sgB S)) := by
      have := O5.out
      rw [byteCells_append, HSN.out, HNL.out] at this
      exact own_only this o6 (own_ne this H5.out (by decide))
    have sz6 : (w5.setCell ⟨W, 0, none⟩ (.slice ao n' cap5)).heap.size = w5.heap.size := o6.size
    have hWb : W + 3 ≤ w5.heap.size := by have := bel5.size; omega
    refine wp_abs (fun w1 => Below W w w1 ∧ w1.heap[W]? = some (.cells #[.slice ao n' cap5] 35 (0, 0)) ∧ w1.ownsRow (W + 3) 5 1 (.slice ao n' cap5) S.length (Lib.byteCells (sgB S)) ∧ Lib.IsBuilder 52 5 w5.heap.size w5.heap.size [] w1 ∧ (∀ k, (Value.slice ao n' cap5).ownBlock = some k → k < w5.heap.size) ∧ w5.heap.size < w1.heap.size)
      ⟨bel6.alloc (by rw [sz6]; omega) _, heap_lt h6, own6.alloc _, by have := Lib.fresh_isBuilder 52 5 (w5.setCell ⟨W, 0, none⟩ (.slice ao n' cap5)); rw [sz6] at this; exact this, fun k hk => by rw [← sz6]; exact (own6.lt k hk).2, by simp [sz6]⟩ (fun w7 hw7 => ?_)
    obtain ⟨bel7, h7, own7, ib7, hlt7, hsz7⟩ := hw7
    generalize w5.heap.size = b at *
    obtain ⟨g, cap6, hv6, hg6, hg7⟩ := own7.form hsl.out.2
    cases hv6
    have hgb : g < b := hlt7 g rfl
    have hcells := Lib.hid (show ∀ j (h : j < S.length), w7.cell? ⟨g, j, none⟩ = some (.int .u8 ((sgn S[j]).toNat : Int)) from fun j h => by
      have := own7.cells (g := g) rfl j (.int .u8 ((sgn S[j]).toNat : Int)) (by simp [Lib.byteCells, sgB, h])
      rwa [add_cell] at this)
    have BEL7' := Lib.hid bel7
    have c7 := cell_of_row w7 W 0 _ _ _ h7
    clear h6 o6 bel5 bel6 own6 sz6 d5 e5 O5 G5 H5 OWN2 HS2 BEL2 OWN HS h7 own7 hlt7 bel7 BEL7 BEL HSN HNL hzz
    go_upto_region 20 with (fail)
    clear c7
    go_loopw [62] (fun i wr => ∃ k : Nat, k ≤ S.length ∧ i = .int .i64 k ∧ Lib.IsBuilder 52 5 b b (Lib.byteCells (hyT S k)) wr ∧ Below b w7 wr) (fun i _ => S.length - (intOf i).toNat)
    case atStart => exact ⟨0, by omega, rfl, ib7, Below.refl _ _⟩
    case round =>
    clear ib7
    obtain ⟨k, hk, rfl, ib, bel⟩ := hrel
    have hbr : b ≤ wr.heap.size := by have := bel.size; omega
    by_cases hlt : k < S.length
    · have dk : decide ((k : Int) < (S.length : Int)) = true := decide_eq_true (by omega)
      have dk2 : decide (k < S.length) = true := decide_eq_true hlt
      have hcell := hcells.out k hlt
      have hcell2 : wr.cell? ⟨g, k, none⟩ = some (.int .u8 ((sgn S[k]).toNat : Int)) := by rw [bel.cell (p := ⟨g, k, none⟩) hgb]; exact hcell
      have hgd : S.getD k 0 = S[k] := by rw [List.getD_eq_getElem?_getD, List.getElem?_eq_getElem hlt]; rfl
      have hst := Lib.hid (show hyT S (k + 1) = if 0 < k ∧ k % 4 = 0 then hyT S k ++ [45] ++ [sgn S[k]] else hyT S k ++ [sgn S[k]] by rw [← hgd]; rfl)
      have lH := length_hyT S k
      have hkl : k < 104 := by have := hsl.out.1; omega
      have hki : (k : Int) < (S.length : Int) := by omega
      clear hgd hcell
      generalize sgn S[k] = zz at *
      have IB := Lib.hid ib
      have BL := Lib.hid bel
      have HH : Hid (hyT S k = hyT S k) := Lib.hid rfl
      generalize hyT S k = H at *
      clear ib bel
      have Q45 := Lib.hid (wrByte b H 45 wr IB.out (by omega) hbr)
      rw [show (((45 : UInt8).toNat : Nat) : Int) = 45 from rfl] at Q45
      have Qz := Lib.hid (fun A w h hA hb => wrByte b A zz w h hA hb)
      by_cases h0 : 0 < k
      · have e0 : decide ((0 : Int) < (k : Int)) = true := decide_eq_true (by omega)
        have e0' : decide (0 < k) = true := decide_eq_true h0
        by_cases h4 : k % 4 = 0
        · have e4 : (((k : Int) % 4) == 0) = true := by rw [beq_iff_eq]; omega
          have hs2 := Lib.hid (hst.out.trans (if_pos ⟨h0, h4⟩))
          have hlA : (H ++ [45]).length < 100000 := by rw [List.length_append, List.length_singleton]; omega
          clear h4 hst
          go_wp2_with (first
            | (go_at_call 23; (with_reducible refine Q45.out.mono ?_); rintro e w8 ⟨rfl, ib8, bel8⟩; have IB8 := Lib.hid ib8; have BL8 := Lib.hid (BL.out.trans bel8); clear ib8 bel8)
            | (go_at_call 23; refine (Qz.out (H ++ [45]) w8 IB8.out hlA (by have := BL8.out.size; omega)).mono ?_; rintro e w9 ⟨rfl, ib9, bel9⟩))
          go_roundw
          case rel => exact ⟨k + 1, by omega, by go_num, by rw [hs2.out]; exact ib9, BL8.out.trans bel9⟩
          case measure => simp [intOf]; omega
        · have e4 : (((k : Int) % 4) == 0) = false := by rw [beq_eq_false_iff_ne]; omega
          have hs2 := Lib.hid (hst.out.trans (if_neg (fun h => h4 h.2)))
          clear h4 hst Q45
          go_wp2_with (go_at_call 23; refine (Qz.out H wr IB.out (by omega) hbr).mono ?_; rintro e w9 ⟨rfl, ib9, bel9⟩)
          go_roundw
          case rel => exact ⟨k + 1, by omega, by go_num, by rw [hs2.out]; exact ib9, BL.out.trans bel9⟩
          case measure => simp [intOf]; omega
      · have e0 : decide ((0 : Int) < (k : Int)) = false := decide_eq_false (by omega)
        have e0' : decide (0 < k) = false := decide_eq_false h0
        have hs2 := Lib.hid (hst.out.trans (if_neg (fun h => h0 h.1)))
        clear hst Q45
        go_wp2_with (go_at_call 23; refine (Qz.out H wr IB.out (by omega) hbr).mono ?_; rintro e w9 ⟨rfl, ib9, bel9⟩)
        go_roundw
        case rel => exact ⟨k + 1, by omega, by go_num, by rw [hs2.out]; exact ib9, BL.out.trans bel9⟩
        case measure => simp [intOf]; omega
    · have dk : decide ((k : Int) < (S.length : Int)) = false := decide_eq_false (by omega)
      have dk2 : decide (k < S.length) = false := decide_eq_false hlt
      obtain rfl : k = S.length := by omega
      rw [← HT.out] at ib
      have QS := Lib.hid (Try.Builder_String_any b b T wr ib hbr)
      clear ib hlt
      go_wp2_with (go_at_call 24; refine QS.out.mono ?_; rintro e w9 ⟨rfl, bel9⟩)
      go_ret2
      exact ⟨rfl, BEL7'.out.trans ((bel.trans bel9).mono (by omega))⟩
end Go.Proofs.Ytohemcdcmlngiaa
