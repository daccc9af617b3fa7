/-
  A number's digits as a text. No program in sight.
  Decimal texts: their value, which texts are numbers, a number's text. Plain law.
  '[]byte(s)': a new row that reads as the text.
-/
import Derived.Test.YtnohcdpnnhmpfaaGreatDoorBMem
import Derived.Test.YtnohcdpnnhmpfaaGreatDoorBytes
import Derived.Test.YtnohcdpnnhmpfaaGreatDoorBPlain
import Derived.WalkKit
import Derived.Lib.Hide
namespace Go.Proofs.YtnohcdpnnhmpfaaGreatDoor
set_option linter.unusedVariables false
open Go.RowKit ML ND FM

def digB (n : Nat) : Bytes := (dig n).reverse.map fun d => UInt8.ofNat (d + 48)
def strD (n : Nat) : Bytes := if n = 0 then [48] else digB n
theorem length_digB (n : Nat) : (digB n).length = (dig n).length := by simp [digB]
def textRow (F : Bytes) (m : Nat) : Bytes := List.replicate m 0 ++ F.drop m
theorem length_textRow (F : Bytes) (m : Nat) (h : m ≤ F.length) : (textRow F m).length = F.length := by simp [textRow]; omega
theorem textRow_set (F : Bytes) (m : Nat) (h : m < F.length) : (textRow F (m + 1)).set m F[m] = textRow F m := by
  unfold textRow
  rw [List.drop_eq_getElem_cons h, List.replicate_succ', List.append_assoc, List.set_append_right _ _ (by simp)]
  simp
theorem made_bytes (n : Nat) : madeCells #[Value.int .u8 0] n = (Lib.byteCells (List.replicate n 0)).toArray := by
  unfold madeCells Lib.byteCells
  apply Array.ext
  · simp
  · intro i h1 h2
    simp [Nat.mod_one]
theorem set_bytes {w : World} {b : Nat} {L : Bytes} {T : TypeId} (h : w.heap[b]? = some (.cells (Lib.byteCells L).toArray T (0, 0))) (i : Nat) (c : UInt8) : (w.setCell ⟨b, i, none⟩ (.int .u8 (c.toNat : Int))).heap[b]? = some (.cells (Lib.byteCells (L.set i c)).toArray T (0, 0)) := by
  rw [heap_setCell_same w b i _ _ _ h]
  congr 2
  simp [Lib.byteCells, List.map_set]
theorem cell_bytes {w : World} {b : Nat} {L : Bytes} {T : TypeId} (h : w.heap[b]? = some (.cells (Lib.byteCells L).toArray T (0, 0))) (i : Nat) (hi : i < L.length) : ∃ v, w.cell? ⟨b, i, none⟩ = some v := by
  rw [cell_of_row w b i _ _ _ h]
  exact ⟨_, by simp [Lib.byteCells, hi]; rfl⟩
end Go.Proofs.YtnohcdpnnhmpfaaGreatDoor
namespace Go.Proofs.YtnohcdpnnhmpfaaGreatDoor
set_option linter.unusedVariables false
set_option linter.unusedSimpArgs false
open Go.RowKit ML ND FM

/-- a decimal text's value -/
def dv (F : Bytes) : Nat := F.foldl (fun k c => 10 * k + (c.toNat - 48)) 0
def DigsB (F : Bytes) : Prop := ∀ c ∈ F, 48 ≤ c.toNat ∧ c.toNat ≤ 57
/-- is a text a number? -/
def numB (F : Bytes) : Bool := decide (F ≠ []) && F.all (fun c => decide (48 ≤ c.toNat ∧ c.toNat ≤ 57)) && (decide (F.getD 0 0 ≠ 48) || decide (F.length = 1))
theorem numB_iff (F : Bytes) : numB F = true ↔ F ≠ [] ∧ DigsB F ∧ (F.getD 0 0 ≠ 48 ∨ F.length = 1) := by
  unfold numB DigsB
  simp only [Bool.and_eq_true, Bool.or_eq_true, decide_eq_true_eq, List.all_eq_true, and_assoc]
theorem numB_false (F : Bytes) (h : ¬ (F ≠ [] ∧ DigsB F ∧ (F.getD 0 0 ≠ 48 ∨ F.length = 1))) : numB F = false := by
  rw [Bool.eq_false_iff]
  intro h1
  exact h ((numB_iff F).1 h1)
theorem dv_foldl (F : Bytes) : ∀ k : Nat, F.foldl (fun k c => 10 * k + (c.toNat - 48)) k = k * 10 ^ F.length + dv F := by
  induction F with
  | nil => intro k; simp [dv]
  | cons c r ih =>
    intro k
    unfold dv
    rw [List.foldl_cons, List.foldl_cons, ih, ih (10 * 0 + (c.toNat - 48)), List.length_cons, Nat.pow_succ]
    generalize 10 ^ r.length = t
    rw [Nat.add_mul, Nat.add_mul]
    have : 10 * k * t = k * (t * 10) := by rw [Nat.mul_comm 10 k, Nat.mul_assoc, Nat.mul_comm 10 t]
    omega
theorem dv_append (A B : Bytes) : dv (A ++ B) = dv A * 10 ^ B.length + dv B := by
  unfold dv
  rw [List.foldl_append, dv_foldl B]
  rfl
theorem dv_one (c : UInt8) : dv [c] = c.toNat - 48 := by simp [dv]
theorem dv_snoc (F : Bytes) (p : Nat) (h : p < F.length) : dv (F.take (p + 1)) = 10 * dv (F.take p) + (F[p].toNat - 48) := by
  rw [List.take_succ_eq_append_getElem h, dv_append, dv_one]
  simp
  omega
theorem digs_take {F : Bytes} (h : DigsB F) (k : Nat) : DigsB (F.take k) := fun c hc => h c (List.mem_of_mem_take hc)
theorem digs_drop {F : Bytes} (h : DigsB F) (k : Nat) : DigsB (F.drop k) := fun c hc => h c (List.mem_of_mem_drop hc)
theorem dv_lt (F : Bytes) (h : DigsB F) : dv F < 10 ^ F.length := by
  induction F with
  | nil => simp [dv]
  | cons c r ih =>
    have hc := h c (List.mem_cons_self ..)
    have hr := ih (fun x hx => h x (List.mem_cons_of_mem _ hx))
    have e : dv (c :: r) = (c.toNat - 48) * 10 ^ r.length + dv r := by
      have := dv_append [c] r
      rw [dv_one] at this
      simpa using this
    rw [e, List.length_cons, Nat.pow_succ]
    generalize 10 ^ r.length = t at *
    have : (c.toNat - 48) * t ≤ 9 * t := Nat.mul_le_mul_right _ (by omega)
    omega
/-- the digits of a text, the lowest first -/
def digsOf (F : Bytes) : List Nat := F.reverse.map fun c => c.toNat - 48
theorem length_digsOf (F : Bytes) : (digsOf F).length = F.length := by simp [digsOf]
theorem all_digsOf {F : Bytes} (h : DigsB F) : AllD (digsOf F) := by
  intro d hd
  obtain ⟨c, hc, rfl⟩ := List.mem_map.1 hd
  have := h c (List.mem_reverse.1 hc)
  omega
theorem val_digsOf (F : Bytes) : val (digsOf F) = dv F := by
  induction F with
  | nil => rfl
  | cons c r ih =>
    unfold digsOf at *
    rw [List.reverse_cons, List.map_append, val_append, ih]
    have := dv_append [c] r
    rw [dv_one] at this
    simp only [List.singleton_append] at this
    rw [this]
    simp [val]
    rw [Nat.mul_comm]
    omega
theorem dig_dv {F : Bytes} (h : DigsB F) : trimL (digsOf F) = dig (dv F) := by
  unfold trimL
  rw [val_digsOf]
theorem dv_ge {F : Bytes} (h : DigsB F) (hn : F ≠ []) (h0 : F.getD 0 0 ≠ 48) : 10 ^ (F.length - 1) ≤ dv F := by
  cases F with
  | nil => exact absurd rfl hn
  | cons c r =>
    have hc := h c (List.mem_cons_self ..)
    have h1 : c ≠ 48 := by simpa using h0
    have h2 : c.toNat ≠ 48 := fun e => h1 (UInt8.toNat_inj.1 (by rw [e]; rfl))
    have := dv_append [c] r
    rw [dv_one] at this
    simp only [List.singleton_append] at this
    rw [this, List.length_cons, Nat.add_sub_cancel]
    have h3 : 1 * 10 ^ r.length ≤ (c.toNat - 48) * 10 ^ r.length := Nat.mul_le_mul_right _ (by omega)
    omega
/-- a number's text is the number's own -/
theorem strD_dv (F : Bytes) (h : numB F = true) : strD (dv F) = F := by
  obtain ⟨hn, hd, h0⟩ := (numB_iff F).1 h
  by_cases hz : F.getD 0 0 ≠ 48
  · have hg := dv_ge hd hn hz
    have hpos : 0 < 10 ^ (F.length - 1) := Nat.pow_pos (by decide)
    have hne : dv F ≠ 0 := by omega
    have hL : digsOf F = dig (dv F) := by
      rw [← val_digsOf F]
      exact dig_of_val _ (all_digsOf hd) (.inr (by rw [length_digsOf, val_digsOf]; exact hg))
    unfold strD digB
    rw [if_neg hne, ← hL]
    unfold digsOf
    rw [← List.map_reverse, List.reverse_reverse, List.map_map]
    conv => rhs; rw [← List.map_id F]
    apply List.map_congr_left
    intro c hc
    have hcd := hd c hc
    simp only [Function.comp, id]
    rw [show c.toNat - 48 + 48 = c.toNat by omega]
    exact UInt8.ofNat_toNat
  · have hz' : F.getD 0 0 = 48 := by simpa using hz
    have hl : F.length = 1 := by
      rcases h0 with h1 | h1
      · exact absurd hz' h1
      · exact h1
    obtain ⟨c, rfl⟩ := List.length_eq_one_iff.1 hl
    have hc : c = 48 := by simpa using hz'
    subst hc
    rfl
theorem mem_strD (n : Nat) : DigsB (strD n) := by
  intro c
  unfold strD digB
  split
  · intro hm
    have : c = 48 := by simpa using hm
    subst this; decide
  · intro hm
    obtain ⟨d, hd, rfl⟩ := List.mem_map.1 hm
    have := all_dig n d (List.mem_reverse.1 hd)
    have e : (UInt8.ofNat (d + 48)).toNat = d + 48 := by simp; omega
    rw [e]; omega
theorem dv_digB (n : Nat) : dv (digB n) = n := by
  rw [← val_digsOf]
  unfold digsOf digB
  rw [← List.map_reverse, List.reverse_reverse, List.map_map]
  conv => rhs; rw [← val_dig n]
  congr 1
  conv => rhs; rw [← List.map_id (dig n)]
  apply List.map_congr_left
  intro d hd
  have := all_dig n d hd
  simp only [Function.comp, id]
  have e : (UInt8.ofNat (d + 48)).toNat = d + 48 := by simp; omega
  rw [e]; omega
theorem dv_strD (n : Nat) : dv (strD n) = n := by
  unfold strD
  split
  · rename_i h; subst h; rfl
  · exact dv_digB n
theorem strD_ne (n : Nat) : strD n ≠ [] := by
  unfold strD
  split
  · simp
  · rename_i h
    intro e
    have e2 := congrArg List.length e
    rw [length_digB, dig_pos (by omega)] at e2
    simp at e2
theorem strD_head {n : Nat} (h : n ≠ 0) : (strD n).getD 0 0 ≠ 48 := by
  intro e0
  have hD := mem_strD n
  have hl := dv_strD n
  revert e0 hD hl
  unfold strD
  rw [if_neg h]
  intro e0 hD hl
  have hlen : (digB n).length = (dig n).length := length_digB n
  cases hq : digB n with
  | nil => rw [hq] at hl; exact h hl.symm
  | cons c r =>
    rw [hq] at e0 hl hD hlen
    have hc : c = 48 := by simpa using e0
    subst hc
    have := dv_append [48] r
    rw [dv_one] at this
    simp only [List.singleton_append] at this
    rw [hl] at this
    have hr := dv_lt r (fun x hx => hD x (List.mem_cons_of_mem _ hx))
    have hd : dig n ≠ [] := by intro e; rw [e] at hlen; simp at hlen
    have hg := dig_ge hd
    rw [← hlen, List.length_cons, Nat.add_sub_cancel] at hg
    simp at this
    omega
theorem numB_strD (n : Nat) : numB (strD n) = true := by
  rw [numB_iff]
  refine ⟨strD_ne n, mem_strD n, ?_⟩
  by_cases h : n = 0
  · subst h; exact .inr rfl
  · exact .inl (strD_head h)
end Go.Proofs.YtnohcdpnnhmpfaaGreatDoor
namespace Go.Proofs.YtnohcdpnnhmpfaaGreatDoor
open Go.RowKit ML FM

/-- '[]byte(s)': a new row that reads as the text -/
theorem wpList_bytes_of {P : Program} {w : World} {ops : Array Oper} {rest : List Oper} {o : Oper} {a : Act} {Q : Exit → Act → World → Prop} (hgd : o.guard = none) (x : Operand) (src dst e : TypeId)
    (ho : o.op = .convert src dst x) (hs : P.underlying src = some .string) (hd : P.underlying dst = some (.slice e)) (he : P.underlying e = some (.int .u8)) (D : Bytes) (hx : a.eval x = .string ⟨D.toArray⟩)
    (h : ∀ cap w', Below w.heap.size w w' → w.heap.size < w'.heap.size → (∀ j, j < D.length → w'.cell? ⟨w.heap.size, j, none⟩ = some (.int .u8 (byteN D j : Int))) → wpList P ops Q rest (a.put o.dst (.slice (some ⟨w.heap.size, 0, none⟩) D.length cap)) w') : wpList P ops Q (o :: rest) a w := by
  refine wpList_plain hgd fun K hK => ?_
  have hrun := run_bytes_of_string (P := P) w src dst e ⟨D.toArray⟩ hs hd he
  rw [size_mk] at hrun
  unfold Oper.wp
  simp only [execOp, ho, hx]
  generalize hc : grownCap w D.length 0 e = cap at *
  have hW := h cap _ (((Below.refl w.heap.size w).drew).alloc (Nat.le_refl _) (.cells (bytesRow ⟨D.toArray⟩ cap) e ((bytesRow ⟨D.toArray⟩ cap).size, (bytesRow ⟨D.toArray⟩ cap).size + 1))) (by simp) (fun j hj => by
    have hb := bytesRow_at ⟨D.toArray⟩ cap j (by simpa using hj)
    have hh : (w.drew.alloc (.cells (bytesRow ⟨D.toArray⟩ cap) e ((bytesRow ⟨D.toArray⟩ cap).size, (bytesRow ⟨D.toArray⟩ cap).size + 1))).heap[w.heap.size]? = some (.cells (bytesRow ⟨D.toArray⟩ cap) e ((bytesRow ⟨D.toArray⟩ cap).size, (bytesRow ⟨D.toArray⟩ cap).size + 1)) := heap_at rfl
    unfold World.cell?
    simp only [hh]
    rw [hb]
    simp [byteN, List.getD_eq_getElem?_getD, hj])
  simp [hrun, Result.andThen] at hK ⊢
  exact hK _ _ hW
end Go.Proofs.YtnohcdpnnhmpfaaGreatDoor
