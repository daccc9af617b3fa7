/-
  fold.begin: what a text is folded into, with a key of at most 64 bytes.
-/
import Derived.Test.YtnohcdpnnhmpfaaFEnd
namespace Go.Proofs.Ytnohcdpnnhmpfaa
open Go.RowKit ML FM

theorem wpList_build_v {P : Program} {ops : Array Oper} {rest : List Oper} {o : Oper} {a : Act} {w : World} {Q : Exit → Act → World → Prop} (hg : o.guard = none) (t : TypeId) (parts : Array (Nat × Operand)) (ho : o.op = .build t parts)
    (l : List (Nat × Value)) (hp : (parts.map fun (i, x) => (i, a.eval x)).toList = l) (cells : Array Value) (hf : P.built t l = some cells)
    (h : wpList P ops Q rest (a.put o.dst (.agg cells)) w) : wpList P ops Q (o :: rest) a w := by
  subst hp
  exact wpList_build hg t parts ho (by rw [hf]; rfl) (by rw [hf]; exact h)
def zeroD : Bytes := List.replicate 64 0
def beginRow : Array Value := (foldRow ivL 0 zeroD 0).toArray
theorem built_begin : Try.prog.built 99 [(0, .agg (vals ivL))] = some beginRow := by kernel_rfl
theorem size_folding : (Try.prog.info? 99).map (·.size) = some 74 := by kernel_rfl
def zeroRow : Array Value := (foldRow (List.replicate 8 0) 0 zeroD 0).toArray
theorem FoldAt.setW {b : Nat} {H : List U} {n : Nat} {D : Bytes} {t : Nat} {w : World} (h : FoldAt b H n D t w) (i : Nat) (hi : i < 8) (x : U) : FoldAt b (H.set i x) n D t (w.setCell ⟨b, i, none⟩ (.int .u32 (un x))) := by
  refine ⟨?_, by rw [List.length_set]; exact h.hl, h.dl⟩
  rw [heap_setCell_same w b i _ _ _ h.blk]
  congr 2
  have hl := h.hl
  simp only [foldRow, List.setIfInBounds_toArray]
  rw [List.set_append_left _ _ (by simp [hl]; exact hi), List.map_set]
  rfl
theorem zero_folding : ∀ w : World, (zeroValue 99).run Try.prog w = .ok (.agg zeroRow) w := by
  intro w
  have h : (Try.prog.info? 99).map (·.zero) = some (some (.agg zeroRow)) := by kernel_rfl
  cases hq : Try.prog.info? 99 with
  | none => simp [hq] at h
  | some i =>
    have hz : i.zero = some (.agg zeroRow) := by simpa [hq] using h
    simp [zeroValue, typeInfo, hq, hz]
set_option maxHeartbeats 4000000 in
set_option maxRecDepth 100000 in
theorem begin_any (K : Bytes) (w : World) (hK : K.length ≤ 64) :
    Calls Try.prog 78 #[.string ⟨K.toArray⟩] w fun e w' => ∃ D t, e = .returned (.agg (foldRow (beginH K.length) 0 D t).toArray) ∧ MidL (keyPiece K) 0 t D ∧ (keyPiece K = [] ∨ 0 < t) ∧ Below w.heap.size w w' := by
  have HK := Lib.hid hK
  have hsz := size_mk K
  clear hK
  have hzf := zero_folding
  go_enter Try.func78, Try.ntmps78
  have hsF := Lib.hid (show (Try.prog.info? 99).map (·.size) = some beginRow.size by kernel_rfl)
  have hone := Lib.hid (show beginRow.all (·.oneCell') = true by kernel_rfl)
  go_upto_region 2 with (first
    | (go_at_call 100; refine (start_any _).mono ?_; rintro e w1 ⟨rfl, hb1⟩)
    | (refine wpList_build_v rfl 99 _ rfl [(0, .agg (vals ivL))] rfl beginRow built_begin ?_)
    | (refine wpList_store_whole rfl rfl 99 _ _ rfl w1.heap.size zeroRow beginRow 99 rfl rfl (heap_at rfl) rfl hsF.out hone.out ?_; intro w2 ho2 hp2))
  have F2 : FoldAt w1.heap.size ivL 0 zeroD 0 w2 := ⟨hp2, rfl, rfl⟩
  have b2 : Below w.heap.size w w2 := (((Below.refl _ _).alloc (Nat.le_refl _) _).trans (hb1.mono (by simp))).trans (((Below.refl _ _).alloc (by have := hb1.size; simp at this; omega) _).trans (ho2.below (by have := hb1.size; simp at this; omega)))
  have hB1 : w.heap.size < w1.heap.size := by have := hb1.size; simp at this; omega
  have hR : w2.heap[w.heap.size]? = some (.cells zeroRow 99 (0, 0)) := ho2.keep (by omega) (heap_lt (bel_keep hb1 (by simp) (heap_at rfl)))
  generalize w1.heap.size = B at *
  clear ho2 hp2 hb1
  have c0 : w2.cell? ⟨B, 0, none⟩ = some (.int .u32 (un (ivL.getD 0 0))) := F2.cell 0 (by omega)
  have f0 := F2.frozen 0
  have x1 : (K.length : Int) * 256 % 4294967296 = K.length * 256 := by have := HK.out; omega
  have r1 := Lib.hid (r_xor (ivL.getD 0 0) (0x01010020 + BitVec.ofNat 32 (256 * K.length)))
  have hxn : un (0x01010020 + BitVec.ofNat 32 (256 * K.length)) = (16842784 + (K.length : Int) * 256) % 4294967296 := by
    unfold un
    rw [BitVec.toNat_add, BitVec.toNat_ofNat]
    show ((((16842784 + 256 * K.length % 4294967296) % 4294967296 : Nat)) : Int) = _
    omega
  have hH := Lib.hid (show beginH K.length = ivL.set 0 (ivL.getD 0 0 ^^^ (0x01010020 + BitVec.ofNat 32 (256 * K.length))) from rfl)
  have r2 : bits BinOp.xor IntKind.u32 (un (ivL.getD 0 0)) ((16842784 + (K.length : Int) * 256) % 4294967296) = un (ivL.getD 0 0 ^^^ (0x01010020 + BitVec.ofNat 32 (256 * K.length))) := by rw [← hxn]; exact r1.out
  have R2 := Lib.hid r2
  clear hxn r1 r2
  generalize hx0 : ivL.getD 0 0 = x0 at *
  go_upto_region 3 with (fail)
  rw [R2.out]
  refine wp_abs (fun w3 => FoldAt B (beginH K.length) 0 zeroD 0 w3 ∧ Only B w2 w3) ⟨by rw [hH.out]; exact F2.setW 0 (by omega) _, (Only.refl B w2).setCell _ _⟩ (fun w3 hw3 => ?_)
  obtain ⟨F3, o3⟩ := hw3
  clear c0 f0 R2 hx0 x1 F2
  have FF := Lib.hid F3
  clear F3
  go_upto_if 19 with (fail)
  go_cut [] (fun w' => ∃ D t, MidL (keyPiece K) 0 t D ∧ (keyPiece K = [] ∨ 0 < t) ∧ FoldAt B (beginH K.length) 0 D t w' ∧ Only B w2 w')
  case first =>
    by_cases hK0 : K = []
    · subst hK0
      go_wp2_with fail
      go_meet
      exact ⟨zeroD, 0, ⟨rfl, by omega, rfl, rfl⟩, .inl rfl, FF.out, o3⟩
    · have hpos : 0 < K.length := List.length_pos_iff.2 hK0
      have thr : w3.there B 9 (Nat.min (ByteArray.mk K.toArray).size 64) := fun j hj => FF.out.there 9 64 (by omega) j (Nat.lt_of_lt_of_le hj (Nat.min_le_right _ _))
      have THR := Lib.hid thr
      clear thr
      go_upto_region 5 with (refine wpList_copy_str rfl _ _ 120 9 rfl 5 Try.underlying120 size_byte B 9 64 64 ⟨K.toArray⟩ rfl rfl THR.out ?_)
      have hmin : Nat.min (ByteArray.mk K.toArray).size 64 = K.length := by rw [hsz]; exact Nat.min_eq_left HK.out
      have hkp : keyPiece K = K ++ List.replicate (64 - K.length) 0 := by unfold keyPiece; rw [if_neg hK0]
      have hkl : (keyPiece K).length = 64 := by rw [hkp, List.length_append, List.length_replicate]; have := HK.out; omega
      have hkz : zeroD.take 0 ++ (K ++ zeroD.drop (0 + K.length)) = keyPiece K := by rw [hkp, zeroD, List.take_zero, List.nil_append, List.drop_replicate, Nat.zero_add]
      have hdt : List.take K.length (ByteArray.mk K.toArray).data.toList = K := by simp
      rw [hmin, hdt]
      refine wp_abs (fun w4 => FoldAt B (beginH K.length) 0 (keyPiece K) 0 w4 ∧ Only B w3 w4) ⟨by have := FF.out.setD 0 K (by have := HK.out; omega); rw [hkz] at this; exact this, setCells_only B _ _ _⟩ (fun w4 hw4 => ?_)
      obtain ⟨F4, o4⟩ := hw4
      have c4 := F4.cellAt
      have f4 := F4.frozen 73
      have FF4 := Lib.hid F4
      have HKL := Lib.hid hkl
      clear F4 hkz hkp hkl hmin hdt THR
      go_wp2_with fail
      go_meet
      exact ⟨keyPiece K, 64, ⟨HKL.out, by omega, HKL.out, by rw [List.take_of_length_le (by rw [HKL.out]; exact Nat.le_refl _)]; rfl⟩, .inr (by omega), FF4.out.setAt 64, (o3.trans o4).trans ((Only.refl B w4).setCell _ _)⟩
  case rest =>
    clear FF o3
    obtain ⟨D, t, m, h0t, F, o⟩ := hcut
    obtain ⟨row, hrow⟩ : ∃ row : Array Value, row = (foldRow (beginH K.length) 0 D t).toArray := ⟨_, rfl⟩
    have hblk := F.blk
    rw [← hrow] at hblk
    have hrs : row.size = 74 := by rw [hrow]; simp [length_foldRow F.hl F.dl]
    have hs := Lib.hid (show (Try.prog.info? 99).map (·.size) = some row.size by rw [hrs]; exact size_folding)
    have hone2 : row.all (·.oneCell') = true := by
      rw [hrow]
      refine all_oneCell_toArray (fun v hv => ?_)
      simp only [foldRow, Lib.byteCells, List.mem_append, List.mem_map, List.mem_cons, List.not_mem_nil, or_false] at hv
      rcases hv with ⟨x, _, rfl⟩ | rfl | ⟨x, _, rfl⟩ | rfl <;> rfl
    have HO := Lib.hid hone2
    have HROW := Lib.hid hrow
    have HM := Lib.hid m
    have HT := Lib.hid h0t
    have hR2 : wc.heap[w.heap.size]? = some (.cells zeroRow 99 (0, 0)) := o.keep (by omega) hR
    have bel := Lib.hid (b2.trans (o.below (by omega : w.heap.size ≤ B)))
    have hzs : zeroRow.size = row.size := by rw [hrs]; rfl
    have HZS := Lib.hid hzs
    clear F hone2 m h0t hrow hrs hR o hzs
    go_upto_region 6 with (fail)
    apply wp_region_lit
    refine wpList_load_whole rfl 99 _ rfl B row _ _ _ rfl hblk Try.underlying99 rfl hs.out ?_
    refine wpList_store_whole rfl rfl 99 _ _ rfl w.heap.size zeroRow row 99 rfl rfl hR2 HZS.out hs.out HO.out ?_
    intro w6 ho hp
    go_wp2_with fail
    refine bodyPost_ret (results_cell_row rfl _ w6 w.heap.size _ _ _ _ rfl hp Try.underlying99 rfl hs.out) rfl ⟨D, t, ?_, HM.out, HT.out, bel_only bel.out ho (Nat.le_refl _)⟩
    rw [HROW.out]
end Go.Proofs.Ytnohcdpnnhmpfaa
