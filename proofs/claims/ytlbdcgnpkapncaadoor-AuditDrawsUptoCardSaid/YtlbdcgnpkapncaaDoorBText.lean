/-
  Bytes and texts in memory: small laws.
  '[]byte(s)': a new row that reads as the text.
  The reference's Text: a number's digits as a text.
  Decimal texts: their value, which texts are numbers, a number's text. Plain law.
-/
import Derived.Test.YtlbdcgnpkapncaaDoorBBase
import Derived.Test.YtlbdcgnpkapncaaDoorChecked
import Derived.Lib.UnsafeStr
import Derived.Lib.BufferWrite
import Derived.Lib.SliceRun
import Derived.Deep.MidRow
import Derived.Laws.IdiomStrings
import Derived.Test.YtlbdcgnpkapncaaDoorBRef
namespace Go.Proofs.YtlbdcgnpkapncaaDoor
open Go.RowKit ML FM

theorem size_byte : (Tryd.prog.info? 5).map (·.size) = some 1 := by kernel_rfl

theorem length_byteCells (D : Bytes) : (Lib.byteCells D).length = D.length := by simp [Lib.byteCells]
theorem size_mk (R : Bytes) : (ByteArray.mk R.toArray).size = R.length := by simp [ByteArray.size]
theorem extract_drop (R : Bytes) (k : Nat) : (ByteArray.mk R.toArray).extract k R.length = ⟨(R.drop k).toArray⟩ := by
  rw [Lib.extract_eq]
  congr 1
  simp
  rw [List.take_of_length_le (by simp)]
theorem gtrans {a w w' : World} {row : Option Nat} (h : a.grownBy w row) (k : w.grownBy w' row) : a.grownBy w' row :=
  ⟨k.os.trans h.os, k.tape.trans h.tape, k.output.trans h.output, Nat.le_trans h.size k.size, fun i hi hr => (k.block i (Nat.lt_of_lt_of_le hi h.size) hr).trans (h.block i hi hr)⟩
/-- 'string(b)', b a slice of bytes that lie there -/
theorem wpList_bytes_back {P : Program} {w : World} {ops : Array Oper} {rest : List Oper} {o : Oper} {a : Act} {Q : Exit → Act → World → Prop} (hgd : o.guard = none) (x : Operand) (src dst e : TypeId)
    (ho : o.op = .convert src dst x) (hs : P.underlying src = some (.slice e)) (he : P.underlying e = some (.int .u8)) (hd : P.underlying dst = some .string)
    (g cap n : Nat) (l : Bytes) (hn : n = l.length) (hx : a.eval x = .slice (some ⟨g, 0, none⟩) n cap) (hc : w.rangeAt g 0 (Lib.byteCells l))
    (h : wpList P ops Q rest (a.put o.dst (.string ⟨l.toArray⟩)) w) : wpList P ops Q (o :: rest) a w := by
  subst hn
  refine wpList_plain hgd fun K hK => ?_
  have hrun := run_convert_bytes_back (P := P) w src dst e ⟨g, 0, none⟩ cap l hs he hd (fun j hj => by
    have := hc j (.int .u8 (l[j].toNat : Int)) (by simp [Lib.byteCells, hj])
    rw [show (⟨g, 0, none⟩ : Addr).add j = ⟨g, 0 + j, none⟩ by unfold Addr.add; split <;> simp_all]
    exact this)
  unfold Oper.wp
  simp [execOp, ho, hx, hrun, Result.andThen]
  exact hK _ _ h
theorem info_byte : (Tryd.prog.info? 5).map (fun i => (i.zero, i.size, i.bytes)) = some (some (.int .u8 0), 1, 1) := by kernel_rfl
theorem rangeAt_block {w : World} {b : Nat} {l : List Value} {t : TypeId} (h : w.heap[b]? = some (.cells l.toArray t (0, 0))) : w.rangeAt b 0 l := fun j v hj => by
  rw [Nat.zero_add, cell_of_row w b j _ _ _ h]
  simpa using hj
theorem append_mk (A B : Bytes) : ByteArray.mk A.toArray ++ ByteArray.mk B.toArray = ByteArray.mk (A ++ B).toArray := by
  apply ByteArray.ext
  simp
theorem extract_take (R : Bytes) (k : Nat) : (ByteArray.mk R.toArray).extract 0 k = ⟨(R.take k).toArray⟩ := by
  rw [Lib.extract_eq]
  simp
theorem byteCells_append (A B : Bytes) : Lib.byteCells A ++ Lib.byteCells B = Lib.byteCells (A ++ B) := by simp [Lib.byteCells]
end Go.Proofs.YtlbdcgnpkapncaaDoor
namespace Go.Proofs.YtlbdcgnpkapncaaDoor
open Go.RowKit ML FM

/-- '[]byte(s)': a new row that reads as the text -/
theorem wpList_bytes_of {P : Program} {w : World} {ops : Array Oper} {rest : List Oper} {o : Oper} {a : Act} {Q : Exit → Act → World → Prop} (hgd : o.guard = none) (x : Operand) (src dst e : TypeId)
    (ho : o.op = .convert src dst x) (hs : P.underlying src = some .string) (hd : P.underlying dst = some (.slice e)) (he : P.underlying e = some (.int .u8)) (D : Bytes) (hx : a.eval x = .string ⟨D.toArray⟩)
    (h : ∀ cap w', Below w.heap.size w w' → w.heap.size < w'.heap.size → (∀ j, j < D.length → w'.cell? ⟨w.heap.size, j, none⟩ = some (.int .u8 (byteN D j : Int))) → wpList P ops Q rest (a.put o.dst (.slice (some ⟨w.heap.size, 0, none⟩) D.length cap)) w') : wpList P ops Q (o :: rest) a w := by
  refine wpList_plain hgd fun K hK => ?_
  have hrun := run_bytes_of_string (P := P) w src dst e ⟨D.toArray⟩ hs hd he
  rw [size_mk] at hrun
  unfold Oper.wp
  simp only [execOp, ho, hx]
  generalize hc : grownCap w D.length 0 e = cap at *
  have hW := h cap _ (((Below.refl w.heap.size w).drew).alloc (Nat.le_refl _) (.cells (bytesRow ⟨D.toArray⟩ cap) e ((bytesRow ⟨D.toArray⟩ cap).size, (bytesRow ⟨D.toArray⟩ cap).size + 1))) (by simp) (fun j hj => by
    have hb := bytesRow_at ⟨D.toArray⟩ cap j (by simpa using hj)
    have hh : (w.drew.alloc (.cells (bytesRow ⟨D.toArray⟩ cap) e ((bytesRow ⟨D.toArray⟩ cap).size, (bytesRow ⟨D.toArray⟩ cap).size + 1))).heap[w.heap.size]? = some (.cells (bytesRow ⟨D.toArray⟩ cap) e ((bytesRow ⟨D.toArray⟩ cap).size, (bytesRow ⟨D.toArray⟩ cap).size + 1)) := heap_at rfl
    unfold World.cell?
    simp only [hh]
    rw [hb]
    simp [byteN, List.getD_eq_getElem?_getD, hj])
  simp [hrun, Result.andThen] at hK ⊢
  exact hK _ _ hW
end Go.Proofs.YtlbdcgnpkapncaaDoor
namespace Go.Proofs.YtlbdcgnpkapncaaDoor
set_option linter.unusedVariables false
open Go.RowKit ML ND FM

def digB (n : Nat) : Bytes := (dig n).reverse.map fun d => UInt8.ofNat (d + 48)
def strD (n : Nat) : Bytes := if n = 0 then [48] else digB n
theorem length_digB (n : Nat) : (digB n).length = (dig n).length := by simp [digB]
def textRow (F : Bytes) (m : Nat) : Bytes := List.replicate m 0 ++ F.drop m
theorem length_textRow (F : Bytes) (m : Nat) (h : m ≤ F.length) : (textRow F m).length = F.length := by simp [textRow]; omega
theorem textRow_set (F : Bytes) (m : Nat) (h : m < F.length) : (textRow F (m + 1)).set m F[m] = textRow F m := by
  unfold textRow
  rw [List.drop_eq_getElem_cons h, List.replicate_succ', List.append_assoc, List.set_append_right _ _ (by simp)]
  simp
theorem made_bytes (n : Nat) : madeCells #[Value.int .u8 0] n = (Lib.byteCells (List.replicate n 0)).toArray := by
  unfold madeCells Lib.byteCells
  apply Array.ext
  · simp
  · intro i h1 h2
    simp [Nat.mod_one]
theorem set_bytes {w : World} {b : Nat} {L : Bytes} {T : TypeId} (h : w.heap[b]? = some (.cells (Lib.byteCells L).toArray T (0, 0))) (i : Nat) (c : UInt8) : (w.setCell ⟨b, i, none⟩ (.int .u8 (c.toNat : Int))).heap[b]? = some (.cells (Lib.byteCells (L.set i c)).toArray T (0, 0)) := by
  rw [heap_setCell_same w b i _ _ _ h]
  congr 2
  simp [Lib.byteCells, List.map_set]
theorem cell_bytes {w : World} {b : Nat} {L : Bytes} {T : TypeId} (h : w.heap[b]? = some (.cells (Lib.byteCells L).toArray T (0, 0))) (i : Nat) (hi : i < L.length) : ∃ v, w.cell? ⟨b, i, none⟩ = some v := by
  rw [cell_of_row w b i _ _ _ h]
  exact ⟨_, by simp [Lib.byteCells, hi]; rfl⟩
set_option maxHeartbeats 4000000 in
set_option maxRecDepth 100000 in
theorem refText_any (n : Nat) (oa : Option Addr) (ca : Nat) (w : World) (ha : IntsAt w oa (dig n)) (hx : (dig n).length < 1099511627776) :
    Calls Tryd.prog 73 #[.slice oa (dig n).length ca] w fun e w' => e = .returned (.string ⟨(strD n).toArray⟩) ∧ Below w.heap.size w w' := by
  obtain ⟨i0, hi, hz0, hz1, hz2⟩ := info_parts info_byte
  have HI := Lib.hid hi
  have HZ0 := Lib.hid hz0
  have HZ1 := Lib.hid hz1
  have HZ2 := Lib.hid hz2
  have HA := Lib.hid ha
  clear hi hz0 hz1 hz2 ha
  go_enter Tryd.func73, Tryd.ntmps73
  by_cases hn0 : n = 0
  · subst hn0
    have hs := Lib.hid (show strD 0 = [48] from rfl)
    have hl : (dig 0).length = 0 := by rw [dig_zero]; rfl
    rw [hl]
    go_wp2_with fail
    go_ret
    rw [hs.out]
    exact ⟨rfl, Below.refl _ _⟩
  have hs := Lib.hid (show strD n = digB n from if_neg hn0)
  have hpos : 0 < (dig n).length := by rw [dig_pos (by omega)]; simp
  have hnz : (((dig n).length : Int) == 0) = false := by rw [beq_eq_false_iff_ne]; omega
  have HFL := Lib.hid (length_digB n)
  have hdg := Lib.hid (fun (j : Nat) (hj : j < (dig n).length) => (show (digB n)[(dig n).length - 1 - j]'(by rw [length_digB]; omega) = UInt8.ofNat (dAt (dig n) j + 48) by
    simp [digB, dAt, List.getD_eq_getElem?_getD, hj]
    congr 2
    congr 1
    omega))
  obtain ⟨F, hF⟩ : ∃ F, F = digB n := ⟨_, rfl⟩
  go_upto_region 4 with (refine wpList_make_row _ rfl _ _ 113 rfl 5 i0 (.int .u8 0) Tryd.underlying113 HI.out HZ0.out HZ1.out rfl .i64 .i64 (dig n).length rfl rfl (by rw [HZ2.out]; omega) (by omega) ?_)
  rw [made_bytes]
  generalize hB : w.heap.size = d at *
  obtain ⟨l, hl⟩ : ∃ l, l = (dig n).length := ⟨_, rfl⟩
  have hFl : F.length = l := by rw [hF, HFL.out, hl]
  refine wp_abs (fun w1 => Below d w w1 ∧ w1.heap[d]? = some (.cells (Lib.byteCells (textRow F (dig n).length)).toArray 5 (0, 0))) ⟨by rw [← hB]; exact (Below.refl _ _).alloc (Nat.le_refl _) _, by
    rw [← hB]
    have e : textRow F (dig n).length = List.replicate (dig n).length 0 := by unfold textRow; rw [List.drop_of_length_le (by omega)]; simp
    rw [e]
    exact heap_at rfl⟩ (fun w1 hw1 => ?_)
  obtain ⟨bel1, h1⟩ := hw1
  have HB := Lib.hid hB
  have HF := Lib.hid hF
  have HL := Lib.hid hl
  have HFl := Lib.hid hFl
  clear hB hF hl hFl
  go_upto_region 5 with (fail)
  go_loopw [4] (fun i wr => ∃ k : Nat, k ≤ (dig n).length ∧ i = .int .i64 k ∧ Below d w wr ∧ wr.heap[d]? = some (.cells (Lib.byteCells (textRow F ((dig n).length - k))).toArray 5 (0, 0))) (fun i _ => (dig n).length - (intOf i).toNat)
  case atStart => exact ⟨0, by omega, rfl, bel1, h1⟩
  case round =>
  obtain ⟨k, hk, rfl, bel, hW⟩ := hrel
  clear bel1 h1
  by_cases hlt : k < (dig n).length
  · have hd1 : decide ((k : Int) < ((dig n).length : Int)) = true := by simp; omega
    obtain ⟨m, hm⟩ : ∃ m, (dig n).length - k = m + 1 := ⟨(dig n).length - k - 1, by omega⟩
    rw [hm] at hW
    obtain ⟨a0, hoa, hac⟩ := HA.out.get k hlt
    have hablk : a0.block < d := by
      obtain ⟨a1, h2, h3, _⟩ := HA.out.cells k hlt
      rw [hoa] at h2
      cases h2
      rw [HB.out] at h3
      exact h3
    have hac3 : wr.cell? (a0.add k) = some (.int .i64 ((dAt (dig n) k : Nat) : Int)) := by rw [bel.cell (p := a0.add k) (by rw [addr_block]; exact hablk)]; exact hac
    have hmF : m < F.length := by rw [HFl.out, HL.out]; omega
    have hFm := Lib.hid (show F[m] = UInt8.ofNat (dAt (dig n) k + 48) by
      have h := hdg.out k hlt
      have e : (dig n).length - 1 - k = m := by omega
      simp only [e] at h
      have h2 : ∀ (A B : Bytes) (hAB : A = B) (hA : m < A.length) (hB : m < B.length), A[m] = B[m] := by intro A B hAB hA hB; subst hAB; rfl
      exact (h2 F (digB n) HF.out hmF (by rw [← HF.out]; exact hmF)).trans h)
    have hdl : dAt (dig n) k < 10 := getD_lt (all_dig n) k
    obtain ⟨cv, hcv⟩ := cell_bytes hW m (by rw [length_textRow F (m + 1) (by omega)]; omega)
    have hfz := frozen_of_row wr d m _ _ hW
    have hmi : ((dig n).length : Int) - 1 - (k : Int) = (m : Int) := by omega
    have hml : (m : Int) < ((dig n).length : Int) := by omega
    have hts := Lib.hid (textRow_set F m hmF)
    have HW := Lib.hid hW
    have hkn : (dig n).length - (k + 1) = m := by omega
    have HKN := Lib.hid hkn
    subst hoa
    clear hac hW hm hkn
    generalize dAt (dig n) k = a at *
    go_upto_region 6 with (fail)
    refine wp_abs (fun w4 => Below d w w4 ∧ w4.heap[d]? = some (.cells (Lib.byteCells (textRow F m)).toArray 5 (0, 0))) ?_ (fun w4 hw4 => ?_)
    · have e := set_bytes HW.out m F[m]
      have hv : ((F[m]).toNat : Int) = (a : Int) + 48 := by
        rw [hFm.out]
        have : (UInt8.ofNat (a + 48)).toNat = a + 48 := by simp; omega
        rw [this]
        omega
      rw [hts.out, hv] at e
      exact ⟨bel_only bel ((Only.refl d wr).setCell _ _) (Nat.le_refl _), e⟩
    obtain ⟨bel4, hW4⟩ := hw4
    clear hac3 hcv hfz HW bel hts hFm
    go_wp2_with fail
    go_roundw
    case rel => exact ⟨k + 1, by omega, by go_num, bel4, by rw [HKN.out]; exact hW4⟩
    case measure => simp [intOf]; omega
  · have hd1 : decide ((k : Int) < ((dig n).length : Int)) = false := by simp; omega
    obtain rfl : k = (dig n).length := by omega
    have e : textRow F ((dig n).length - (dig n).length) = F := by rw [Nat.sub_self]; simp [textRow]
    rw [e] at hW
    have hFn : (dig n).length = F.length := by rw [HFl.out, HL.out]
    have hrange : wr.rangeAt d 0 (Lib.byteCells F) := fun j v hv => by
      rw [Nat.zero_add, cell_of_row wr d j _ _ _ hW]
      simpa using hv
    have HR := Lib.hid hrange
    have HFN := Lib.hid hFn
    clear hrange hW hFn e
    go_upto_region 8 with (fail)
    go_wp2_with (refine wpList_bytes_back rfl _ 113 9 5 rfl Tryd.underlying113 Tryd.underlying5 Tryd.underlying9 d (dig n).length (dig n).length F HFN.out rfl HR.out ?_)
    go_ret
    rw [hs.out, ← HF.out, HB.out]
    exact ⟨rfl, bel⟩
end Go.Proofs.YtlbdcgnpkapncaaDoor
namespace Go.Proofs.YtlbdcgnpkapncaaDoor
set_option linter.unusedVariables false
set_option linter.unusedSimpArgs false
open Go.RowKit ML ND FM

/-- a decimal text's value -/
def dv (F : Bytes) : Nat := F.foldl (fun k c => 10 * k + (c.toNat - 48)) 0
def DigsB (F : Bytes) : Prop := ∀ c ∈ F, 48 ≤ c.toNat ∧ c.toNat ≤ 57
/-- is a text a number? -/
def numB (F : Bytes) : Bool := decide (F ≠ []) && F.all (fun c => decide (48 ≤ c.toNat ∧ c.toNat ≤ 57)) && (decide (F.getD 0 0 ≠ 48) || decide (F.length = 1))
theorem numB_iff (F : Bytes) : numB F = true ↔ F ≠ [] ∧ DigsB F ∧ (F.getD 0 0 ≠ 48 ∨ F.length = 1) := by
  unfold numB DigsB
  simp only [Bool.and_eq_true, Bool.or_eq_true, decide_eq_true_eq, List.all_eq_true, and_assoc]
theorem numB_false (F : Bytes) (h : ¬ (F ≠ [] ∧ DigsB F ∧ (F.getD 0 0 ≠ 48 ∨ F.length = 1))) : numB F = false := by
  rw [Bool.eq_false_iff]
  intro h1
  exact h ((numB_iff F).1 h1)
theorem dv_foldl (F : Bytes) : ∀ k : Nat, F.foldl (fun k c => 10 * k + (c.toNat - 48)) k = k * 10 ^ F.length + dv F := by
  induction F with
  | nil => intro k; simp [dv]
  | cons c r ih =>
    intro k
    unfold dv
    rw [List.foldl_cons, List.foldl_cons, ih, ih (10 * 0 + (c.toNat - 48)), List.length_cons, Nat.pow_succ]
    generalize 10 ^ r.length = t
    rw [Nat.add_mul, Nat.add_mul]
    have : 10 * k * t = k * (t * 10) := by rw [Nat.mul_comm 10 k, Nat.mul_assoc, Nat.mul_comm 10 t]
    omega
theorem dv_append (A B : Bytes) : dv (A ++ B) = dv A * 10 ^ B.length + dv B := by
  unfold dv
  rw [List.foldl_append, dv_foldl B]
  rfl
theorem dv_one (c : UInt8) : dv [c] = c.toNat - 48 := by simp [dv]
theorem dv_snoc (F : Bytes) (p : Nat) (h : p < F.length) : dv (F.take (p + 1)) = 10 * dv (F.take p) + (F[p].toNat - 48) := by
  rw [List.take_succ_eq_append_getElem h, dv_append, dv_one]
  simp
  omega
theorem digs_take {F : Bytes} (h : DigsB F) (k : Nat) : DigsB (F.take k) := fun c hc => h c (List.mem_of_mem_take hc)
theorem digs_drop {F : Bytes} (h : DigsB F) (k : Nat) : DigsB (F.drop k) := fun c hc => h c (List.mem_of_mem_drop hc)
theorem dv_lt (F : Bytes) (h : DigsB F) : dv F < 10 ^ F.length := by
  induction F with
  | nil => simp [dv]
  | cons c r ih =>
    have hc := h c (List.mem_cons_self ..)
    have hr := ih (fun x hx => h x (List.mem_cons_of_mem _ hx))
    have e : dv (c :: r) = (c.toNat - 48) * 10 ^ r.length + dv r := by
      have := dv_append [c] r
      rw [dv_one] at this
      simpa using this
    rw [e, List.length_cons, Nat.pow_succ]
    generalize 10 ^ r.length = t at *
    have : (c.toNat - 48) * t ≤ 9 * t := Nat.mul_le_mul_right _ (by omega)
    omega
/-- the digits of a text, the lowest first -/
def digsOf (F : Bytes) : List Nat := F.reverse.map fun c => c.toNat - 48
theorem length_digsOf (F : Bytes) : (digsOf F).length = F.length := by simp [digsOf]
theorem all_digsOf {F : Bytes} (h : DigsB F) : AllD (digsOf F) := by
  intro d hd
  obtain ⟨c, hc, rfl⟩ := List.mem_map.1 hd
  have := h c (List.mem_reverse.1 hc)
  omega
theorem val_digsOf (F : Bytes) : val (digsOf F) = dv F := by
  induction F with
  | nil => rfl
  | cons c r ih =>
    unfold digsOf at *
    rw [List.reverse_cons, List.map_append, val_append, ih]
    have := dv_append [c] r
    rw [dv_one] at this
    simp only [List.singleton_append] at this
    rw [this]
    simp [val]
    rw [Nat.mul_comm]
    omega
theorem dig_dv {F : Bytes} (h : DigsB F) : trimL (digsOf F) = dig (dv F) := by
  unfold trimL
  rw [val_digsOf]
theorem dv_ge {F : Bytes} (h : DigsB F) (hn : F ≠ []) (h0 : F.getD 0 0 ≠ 48) : 10 ^ (F.length - 1) ≤ dv F := by
  cases F with
  | nil => exact absurd rfl hn
  | cons c r =>
    have hc := h c (List.mem_cons_self ..)
    have h1 : c ≠ 48 := by simpa using h0
    have h2 : c.toNat ≠ 48 := fun e => h1 (UInt8.toNat_inj.1 (by rw [e]; rfl))
    have := dv_append [c] r
    rw [dv_one] at this
    simp only [List.singleton_append] at this
    rw [this, List.length_cons, Nat.add_sub_cancel]
    have h3 : 1 * 10 ^ r.length ≤ (c.toNat - 48) * 10 ^ r.length := Nat.mul_le_mul_right _ (by omega)
    omega
/-- a number's text is the number's own -/
theorem strD_dv (F : Bytes) (h : numB F = true) : strD (dv F) = F := by
  obtain ⟨hn, hd, h0⟩ := (numB_iff F).1 h
  by_cases hz : F.getD 0 0 ≠ 48
  · have hg := dv_ge hd hn hz
    have hpos : 0 < 10 ^ (F.length - 1) := Nat.pow_pos (by decide)
    have hne : dv F ≠ 0 := by omega
    have hL : digsOf F = dig (dv F) := by
      rw [← val_digsOf F]
      exact dig_of_val _ (all_digsOf hd) (.inr (by rw [length_digsOf, val_digsOf]; exact hg))
    unfold strD digB
    rw [if_neg hne, ← hL]
    unfold digsOf
    rw [← List.map_reverse, List.reverse_reverse, List.map_map]
    conv => rhs; rw [← List.map_id F]
    apply List.map_congr_left
    intro c hc
    have hcd := hd c hc
    simp only [Function.comp, id]
    rw [show c.toNat - 48 + 48 = c.toNat by omega]
    exact UInt8.ofNat_toNat
  · have hz' : F.getD 0 0 = 48 := by simpa using hz
    have hl : F.length = 1 := by
      rcases h0 with h1 | h1
      · exact absurd hz' h1
      · exact h1
    obtain ⟨c, rfl⟩ := List.length_eq_one_iff.1 hl
    have hc : c = 48 := by simpa using hz'
    subst hc
    rfl
theorem mem_strD (n : Nat) : DigsB (strD n) := by
  intro c
  unfold strD digB
  split
  · intro hm
    have : c = 48 := by simpa using hm
    subst this; decide
  · intro hm
    obtain ⟨d, hd, rfl⟩ := List.mem_map.1 hm
    have := all_dig n d (List.mem_reverse.1 hd)
    have e : (UInt8.ofNat (d + 48)).toNat = d + 48 := by simp; omega
    rw [e]; omega
theorem dv_digB (n : Nat) : dv (digB n) = n := by
  rw [← val_digsOf]
  unfold digsOf digB
  rw [← List.map_reverse, List.reverse_reverse, List.map_map]
  conv => rhs; rw [← val_dig n]
  congr 1
  conv => rhs; rw [← List.map_id (dig n)]
  apply List.map_congr_left
  intro d hd
  have := all_dig n d hd
  simp only [Function.comp, id]
  have e : (UInt8.ofNat (d + 48)).toNat = d + 48 := by simp; omega
  rw [e]; omega
theorem dv_strD (n : Nat) : dv (strD n) = n := by
  unfold strD
  split
  · rename_i h; subst h; rfl
  · exact dv_digB n
theorem strD_ne (n : Nat) : strD n ≠ [] := by
  unfold strD
  split
  · simp
  · rename_i h
    intro e
    have e2 := congrArg List.length e
    rw [length_digB, dig_pos (by omega)] at e2
    simp at e2
theorem strD_head {n : Nat} (h : n ≠ 0) : (strD n).getD 0 0 ≠ 48 := by
  intro e0
  have hD := mem_strD n
  have hl := dv_strD n
  revert e0 hD hl
  unfold strD
  rw [if_neg h]
  intro e0 hD hl
  have hlen : (digB n).length = (dig n).length := length_digB n
  cases hq : digB n with
  | nil => rw [hq] at hl; exact h hl.symm
  | cons c r =>
    rw [hq] at e0 hl hD hlen
    have hc : c = 48 := by simpa using e0
    subst hc
    have := dv_append [48] r
    rw [dv_one] at this
    simp only [List.singleton_append] at this
    rw [hl] at this
    have hr := dv_lt r (fun x hx => hD x (List.mem_cons_of_mem _ hx))
    have hd : dig n ≠ [] := by intro e; rw [e] at hlen; simp at hlen
    have hg := dig_ge hd
    rw [← hlen, List.length_cons, Nat.add_sub_cancel] at hg
    simp at this
    omega
theorem numB_strD (n : Nat) : numB (strD n) = true := by
  rw [numB_iff]
  refine ⟨strD_ne n, mem_strD n, ?_⟩
  by_cases h : n = 0
  · subst h; exact .inr rfl
  · exact .inl (strD_head h)
end Go.Proofs.YtlbdcgnpkapncaaDoor
