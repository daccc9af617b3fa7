/-
  Words of 32 bits as BitVec 32: the walk's Int forms, one word of memory after another, what quarter and back do to sixteen words. No program in sight.
-/
import Derived.Laws.BitsAllLaws
import Derived.WalkKit
import Derived.Test.YtkkpfoidppjbdaaDoorLib
import Derived.Deep.Draws
import Derived.Laws.Rows
namespace Go.Proofs.YtkkpfoidppjbdaaDoor.FM
open Go.RowKit ML
abbrev U := BitVec 32

/-- a word as the walk's number: a plain definition, which simp does not open -/
def un (x : U) : Int := (x.toNat : Int)
theorem un_nonneg (x : U) : 0 ≤ un x := Int.natCast_nonneg _
theorem un_lt (x : U) : un x < 4294967296 := by have := x.isLt; unfold un; omega
theorem un_ofNat (n : Nat) (h : n < 4294967296) : un (BitVec.ofNat 32 n) = n := by unfold un; rw [BitVec.toNat_ofNat]; omega
def uv (x : U) : Value := .int .u32 (un x)
def vals (V : List U) : Array Value := (V.map uv).toArray

theorem w_add (x y : U) : IntKind.u32.wrap (un x + un y) = un (x + y) := by unfold un; rw [IntKind.wrap_u32', BitVec.toNat_add]; omega
theorem w_sub (x y : U) : IntKind.u32.wrap (un x - un y) = un (x - y) := by unfold un; rw [IntKind.wrap_u32', BitVec.toNat_sub]; have := x.isLt; have := y.isLt; omega
theorem r_xor (x y : U) : bits BinOp.xor IntKind.u32 (un x) (un y) = un (x ^^^ y) := by
  unfold un; rw [u32_xor_nat _ _ x.isLt y.isLt, BitVec.toNat_xor]
theorem r_rot (x : U) (n : Nat) (h : n < 32) :
    bits BinOp.or IntKind.u32 (un x / 2 ^ n) (un x * 2 ^ (32 - n) % 4294967296) = un (x.rotateRight n) := by
  unfold un
  have e1 : ((x.toNat : Int) / 2 ^ n) = ((x.toNat / 2 ^ n : Nat) : Int) := by norm_cast
  have e2 : ((x.toNat : Int) * 2 ^ (32 - n) % 4294967296) = ((x.toNat * 2 ^ (32 - n) % 4294967296 : Nat) : Int) := by
    rw [Int.natCast_emod, Int.natCast_mul, Int.natCast_pow]; rfl
  have l1 : x.toNat / 2 ^ n < 4294967296 := Nat.lt_of_le_of_lt (Nat.div_le_self _ _) x.isLt
  rw [e1, e2, u32_or_nat _ _ l1 (Nat.mod_lt _ (by decide)), BitVec.rotateRight_def, BitVec.toNat_or, BitVec.toNat_ushiftRight, BitVec.toNat_shiftLeft, Nat.shiftRight_eq_div_pow, Nat.shiftLeft_eq, Nat.mod_eq_of_lt h]

/-! ### one block -/
theorem heap_set {w : World} {b : Nat} {V : List U} {T : TypeId} (h : w.heap[b]? = some (.cells (vals V) T (0, 0))) (o : Nat) (x : U) :
    (w.setCell ⟨b, o, none⟩ (.int .u32 (un x))).heap[b]? = some (.cells (vals (V.set o x)) T (0, 0)) := by
  rw [heap_setCell_same w b o _ T _ h]
  congr 2
  simp [vals, uv, List.map_set]
theorem cell_get {w : World} {b : Nat} {V : List U} {T : TypeId} (h : w.heap[b]? = some (.cells (vals V) T (0, 0))) (o : Nat) (ho : o < V.length) :
    w.cell? ⟨b, o, none⟩ = some (.int .u32 (un (V.getD o 0))) := by
  rw [cell_of_row w b o _ T _ h]
  simp [vals, uv, ho, List.getD_eq_getElem?_getD]
theorem frozen_get {w : World} {b : Nat} {V : List U} {T : TypeId} (h : w.heap[b]? = some (.cells (vals V) T (0, 0))) (o : Nat) : w.frozen? ⟨b, o, none⟩ = false := frozen_of_row w b o _ T h

/-! ### four words of a block, and the world behind a store into one of them -/
structure Four (b : Nat) (T : TypeId) (oa ob oc od : Nat) (w0 w : World) (V : List U) (xa xb xc xd : U) : Prop where
  only : Only b w0 w
  blk : w.heap[b]? = some (.cells (vals V) T (0, 0))
  len : V.length = 16
  ga : V.getD oa 0 = xa
  gb : V.getD ob 0 = xb
  gc : V.getD oc 0 = xc
  gd : V.getD od 0 = xd
structure Dist (oa ob oc od : Nat) : Prop where
  la : oa < 16
  lb : ob < 16
  lc : oc < 16
  ld : od < 16
  ab : oa ≠ ob
  ac : oa ≠ oc
  ad : oa ≠ od
  bc : ob ≠ oc
  bd : ob ≠ od
  cd : oc ≠ od
theorem getD_set_ne (V : List U) (i j : Nat) (x : U) (h : i ≠ j) : (V.set i x).getD j 0 = V.getD j 0 := by
  simp [List.getD_eq_getElem?_getD, List.getElem?_set_ne h]
theorem getD_set_eq (V : List U) (i : Nat) (x : U) (h : i < V.length) : (V.set i x).getD i 0 = x := by
  simp [List.getD_eq_getElem?_getD, h]
section
variable {b : Nat} {T : TypeId} {oa ob oc od : Nat} {w0 w : World} {V : List U} {xa xb xc xd : U}
theorem Four.cells (h : Four b T oa ob oc od w0 w V xa xb xc xd) (D : Dist oa ob oc od) :
    w.cell? ⟨b, oa, none⟩ = some (.int .u32 (un xa)) ∧ w.cell? ⟨b, ob, none⟩ = some (.int .u32 (un xb)) ∧
    w.cell? ⟨b, oc, none⟩ = some (.int .u32 (un xc)) ∧ w.cell? ⟨b, od, none⟩ = some (.int .u32 (un xd)) ∧
    w.frozen? ⟨b, oa, none⟩ = false ∧ w.frozen? ⟨b, ob, none⟩ = false ∧ w.frozen? ⟨b, oc, none⟩ = false ∧ w.frozen? ⟨b, od, none⟩ = false := by
  refine ⟨?_, ?_, ?_, ?_, frozen_get h.blk _, frozen_get h.blk _, frozen_get h.blk _, frozen_get h.blk _⟩
  · rw [cell_get h.blk oa (by rw [h.len]; exact D.la), h.ga]
  · rw [cell_get h.blk ob (by rw [h.len]; exact D.lb), h.gb]
  · rw [cell_get h.blk oc (by rw [h.len]; exact D.lc), h.gc]
  · rw [cell_get h.blk od (by rw [h.len]; exact D.ld), h.gd]
theorem Four.seta (h : Four b T oa ob oc od w0 w V xa xb xc xd) (D : Dist oa ob oc od) (m : Nat) (x : U) :
    Four b T oa ob oc od w0 ((w.drewN m).setCell ⟨b, oa, none⟩ (.int .u32 (un x))) (V.set oa x) x xb xc xd :=
  ⟨(h.only.drewN m).setCell _ _, heap_set (w := w.drewN m) h.blk _ _, by simp [h.len], getD_set_eq _ _ _ (by rw [h.len]; exact D.la),
   (getD_set_ne _ _ _ _ D.ab).trans h.gb, (getD_set_ne _ _ _ _ D.ac).trans h.gc, (getD_set_ne _ _ _ _ D.ad).trans h.gd⟩
theorem Four.setb (h : Four b T oa ob oc od w0 w V xa xb xc xd) (D : Dist oa ob oc od) (m : Nat) (x : U) :
    Four b T oa ob oc od w0 ((w.drewN m).setCell ⟨b, ob, none⟩ (.int .u32 (un x))) (V.set ob x) xa x xc xd :=
  ⟨(h.only.drewN m).setCell _ _, heap_set (w := w.drewN m) h.blk _ _, by simp [h.len], (getD_set_ne _ _ _ _ D.ab.symm).trans h.ga, getD_set_eq _ _ _ (by rw [h.len]; exact D.lb),
   (getD_set_ne _ _ _ _ D.bc).trans h.gc, (getD_set_ne _ _ _ _ D.bd).trans h.gd⟩
theorem Four.setc (h : Four b T oa ob oc od w0 w V xa xb xc xd) (D : Dist oa ob oc od) (m : Nat) (x : U) :
    Four b T oa ob oc od w0 ((w.drewN m).setCell ⟨b, oc, none⟩ (.int .u32 (un x))) (V.set oc x) xa xb x xd :=
  ⟨(h.only.drewN m).setCell _ _, heap_set (w := w.drewN m) h.blk _ _, by simp [h.len], (getD_set_ne _ _ _ _ D.ac.symm).trans h.ga, (getD_set_ne _ _ _ _ D.bc.symm).trans h.gb,
   getD_set_eq _ _ _ (by rw [h.len]; exact D.lc), (getD_set_ne _ _ _ _ D.cd).trans h.gd⟩
theorem Four.setd (h : Four b T oa ob oc od w0 w V xa xb xc xd) (D : Dist oa ob oc od) (m : Nat) (x : U) :
    Four b T oa ob oc od w0 ((w.drewN m).setCell ⟨b, od, none⟩ (.int .u32 (un x))) (V.set od x) xa xb xc x :=
  ⟨(h.only.drewN m).setCell _ _, heap_set (w := w.drewN m) h.blk _ _, by simp [h.len], (getD_set_ne _ _ _ _ D.ad.symm).trans h.ga, (getD_set_ne _ _ _ _ D.bd.symm).trans h.gb,
   (getD_set_ne _ _ _ _ D.cd.symm).trans h.gc, getD_set_eq _ _ _ (by rw [h.len]; exact D.ld)⟩
end
/-! ### quarter and back -/
def quarterL (V : List U) (a b c d : Nat) (x y : U) : List U :=
  let va := V.getD a 0; let vb := V.getD b 0; let vc := V.getD c 0; let vd := V.getD d 0
  let a1 := va + (vb + x); let d1 := (vd ^^^ a1).rotateRight 16; let c1 := vc + d1; let b1 := (vb ^^^ c1).rotateRight 12
  let a2 := a1 + (b1 + y); let d2 := (d1 ^^^ a2).rotateRight 8; let c2 := c1 + d2; let b2 := (b1 ^^^ c2).rotateRight 7
  (((((((V.set a a1).set d d1).set c c1).set b b1).set a a2).set d d2).set c c2).set b b2

def backL (V : List U) (a b c d : Nat) (x y : U) : List U :=
  let va := V.getD a 0; let vb := V.getD b 0; let vc := V.getD c 0; let vd := V.getD d 0
  let b1 := vb.rotateRight 25 ^^^ vc; let c1 := vc - vd; let d1 := vd.rotateRight 24 ^^^ va; let a1 := va - (b1 + y)
  let b2 := b1.rotateRight 20 ^^^ c1; let c2 := c1 - d1; let d2 := d1.rotateRight 16 ^^^ a1; let a2 := a1 - (b2 + x)
  (((((((V.set b b1).set c c1).set d d1).set a a1).set b b2).set c c2).set d d2).set a a2

theorem length_quarterL (V : List U) (a b c d : Nat) (x y : U) : (quarterL V a b c d x y).length = V.length := by simp [quarterL]
theorem length_backL (V : List U) (a b c d : Nat) (x y : U) : (backL V a b c d x y).length = V.length := by simp [backL]

/-- the corners of quarter i -/
def ca (i : Nat) : Nat := i % 4
def cb (i : Nat) : Nat := 4 + (i + i / 4) % 4
def cc (i : Nat) : Nat := 8 + (i + 2 * (i / 4)) % 4
def cd (i : Nat) : Nat := 12 + (i + 3 * (i / 4)) % 4

theorem dist (i : Nat) : Dist (ca i) (cb i) (cc i) (cd i) := by
  unfold ca cb cc cd
  refine ⟨?_, ?_, ?_, ?_, ?_, ?_, ?_, ?_, ?_, ?_⟩ <;> omega

/-- the orders' signs, as bytes -/
def ordS : ByteArray := ⟨#[48, 49, 50, 51, 52, 53, 54, 55, 56, 57, 97, 98, 99, 100, 101, 102, 101, 97, 52, 56, 57, 102, 100, 54, 49, 99, 48, 50, 98, 55, 53, 51, 98, 56, 99, 48, 53, 50, 102, 100, 97, 101, 51, 54, 55, 49, 57, 52, 55, 57, 51, 49, 100, 99, 98, 101, 50, 54, 53, 97, 52, 48, 102, 56, 57, 48, 53, 55, 50, 52, 97, 102, 101, 49, 98, 99, 54, 56, 51, 100, 50, 99, 54, 97, 48, 98, 56, 51, 52, 100, 55, 53, 102, 101, 49, 57, 99, 53, 49, 102, 101, 100, 52, 97, 48, 55, 54, 51, 57, 50, 56, 98, 100, 98, 55, 101, 99, 49, 51, 57, 53, 48, 102, 52, 56, 54, 50, 97, 54, 102, 101, 57, 98, 51, 48, 56, 99, 50, 100, 55, 49, 52, 97, 53, 97, 50, 56, 52, 55, 54, 49, 53, 102, 98, 57, 101, 51, 99, 100, 48]⟩
/-- the entry number k of the orders -/
def placeK (k : Nat) : Nat := if 97 ≤ (ordS.get! k).toNat then (ordS.get! k).toNat - 87 else (ordS.get! k).toNat - 48
def placeN (r i : Nat) : Nat := placeK (16 * r + i)
set_option maxRecDepth 100000 in
theorem ordS_size : ordS.size = 160 := by decide +kernel
set_option maxRecDepth 100000 in
theorem place_tab1 : ∀ k, (hk : k < ordS.size) → (97 : Int) ≤ ((ordS[k]'hk).toNat : Int) → (((ordS[k]'hk).toNat : Int) - 97) % 256 + 10 = (placeK k : Int) := by decide +kernel
set_option maxRecDepth 100000 in
theorem place_tab2 : ∀ k, (hk : k < ordS.size) → ((ordS[k]'hk).toNat : Int) < 97 → (((ordS[k]'hk).toNat : Int) - 48) % 256 = (placeK k : Int) := by decide +kernel
set_option maxRecDepth 100000 in
theorem placeK_lt : ∀ k, k < 160 → placeK k < 16 := by decide +kernel
theorem placeN_lt (r i : Nat) (hr : r < 10) (hi : i < 16) : placeN r i < 16 := placeK_lt _ (by omega)

/-- one step of a stir, and of the way back -/
def qstep (V M : List U) (k : Nat) : List U :=
  quarterL V (ca (k % 8)) (cb (k % 8)) (cc (k % 8)) (cd (k % 8)) (M.getD (placeN (k / 8) (2 * (k % 8))) 0) (M.getD (placeN (k / 8) (2 * (k % 8) + 1)) 0)
def bstep (V M : List U) (k : Nat) : List U :=
  backL V (ca (k % 8)) (cb (k % 8)) (cc (k % 8)) (cd (k % 8)) (M.getD (placeN (k / 8) (2 * (k % 8))) 0) (M.getD (placeN (k / 8) (2 * (k % 8) + 1)) 0)
/-- k steps -/
def stirK (V M : List U) : Nat → List U
  | 0 => V
  | k + 1 => qstep (stirK V M k) M k
/-- k steps back, the last one first -/
def unK (V M : List U) : Nat → List U
  | 0 => V
  | k + 1 => bstep (unK V M k) M (79 - k)
theorem length_stirK (V M : List U) : ∀ k, (stirK V M k).length = V.length
  | 0 => rfl
  | k + 1 => by rw [stirK, qstep, length_quarterL, length_stirK V M k]
theorem length_unK (V M : List U) : ∀ k, (unK V M k).length = V.length
  | 0 => rfl
  | k + 1 => by rw [unK, bstep, length_backL, length_unK V M k]
theorem size_vals (V : List U) : (vals V).size = V.length := by simp [vals]
theorem oneCell_vals (V : List U) : (vals V).all (·.oneCell') = true := by
  simp [vals, uv, Value.oneCell']
theorem stirK_round (V M : List U) (k j : Nat) (hj : j < 8) : stirK V M (8 * k + j + 1) = quarterL (stirK V M (8 * k + j)) (ca j) (cb j) (cc j) (cd j) (M.getD (placeN k (2 * j)) 0) (M.getD (placeN k (2 * j + 1)) 0) := by
  rw [stirK, qstep, show (8 * k + j) % 8 = j by omega, show (8 * k + j) / 8 = k by omega]
theorem unK_round (V M : List U) (k j : Nat) (hk : k < 10) (hj : j < 8) : unK V M (8 * k + j + 1) = backL (unK V M (8 * k + j)) (ca (7 - j)) (cb (7 - j)) (cc (7 - j)) (cd (7 - j)) (M.getD (placeN (9 - k) (2 * (7 - j))) 0) (M.getD (placeN (9 - k) (2 * (7 - j) + 1)) 0) := by
  rw [unK, bstep, show (79 - (8 * k + j)) % 8 = 7 - j by omega, show (79 - (8 * k + j)) / 8 = 9 - k by omega]

/-! ### press -/
def ivL : List U := [0x6a09e667, 0xbb67ae85, 0x3c6ef372, 0xa54ff53a, 0x510e527f, 0x9b05688c, 0x1f83d9ab, 0x5be0cd19]
/-- the sixteen words that are stirred -/
def pressV (H : List U) (n : Nat) (last : Bool) : List U :=
  let v := H ++ ivL
  let v := v.set 12 (v.getD 12 0 ^^^ BitVec.ofNat 32 n)
  let v := v.set 13 (v.getD 13 0 ^^^ BitVec.ofNat 32 (n / 4294967296))
  if last then v.set 14 (~~~ v.getD 14 0) else v
def fillK (H : List U) : Nat → List U
  | 0 => List.replicate 16 0
  | k + 1 => ((fillK H k).set k (H.getD k 0)).set (k + 8) (ivL.getD k 0)
theorem fillK_succ (H : List U) (k : Nat) : fillK H (k + 1) = ((fillK H k).set k (H.getD k 0)).set (k + 8) (ivL.getD k 0) := rfl
theorem length_fillK (H : List U) : ∀ k, (fillK H k).length = 16
  | 0 => rfl
  | k + 1 => by rw [fillK, List.length_set, List.length_set, length_fillK H k]
theorem fillK_all (H : List U) (h : H.length = 8) : fillK H 8 = H ++ ivL := by
  match H, h with
  | [a, b, c, d, e, f, g, i], _ => rfl
def mixK (H W : List U) : Nat → List U
  | 0 => H
  | k + 1 => (mixK H W k).set k ((mixK H W k).getD k 0 ^^^ (W.getD k 0 ^^^ W.getD (k + 8) 0))
def pressL (H M : List U) (n : Nat) (last : Bool) : List U := mixK H (stirK (pressV H n last) M 80) 8
theorem mixK_succ (H W : List U) (k : Nat) : mixK H W (k + 1) = (mixK H W k).set k ((mixK H W k).getD k 0 ^^^ (W.getD k 0 ^^^ W.getD (k + 8) 0)) := rfl
theorem length_mixK (H W : List U) : ∀ k, (mixK H W k).length = H.length
  | 0 => rfl
  | k + 1 => by rw [mixK, List.length_set, length_mixK H W k]
theorem length_pressL (H M : List U) (n : Nat) (last : Bool) : (pressL H M n last).length = H.length := length_mixK _ _ _
theorem length_pressV (H : List U) (n : Nat) (last : Bool) (h : H.length = 8) : (pressV H n last).length = 16 := by
  unfold pressV; cases last <;> simp [h, ivL]
theorem pressV_of (H V : List U) (n : Nat) (last : Bool) (x12 x13 : U) (hV : H ++ ivL = V) (h12 : V.getD 12 0 = x12) (h13 : V.getD 13 0 = x13) :
    pressV H n last = (if last then (((V.set 12 (x12 ^^^ BitVec.ofNat 32 n)).set 13 (x13 ^^^ BitVec.ofNat 32 (n / 4294967296))).set 14 (~~~ (((V.set 12 (x12 ^^^ BitVec.ofNat 32 n)).set 13 (x13 ^^^ BitVec.ofNat 32 (n / 4294967296))).getD 14 0)))
      else ((V.set 12 (x12 ^^^ BitVec.ofNat 32 n)).set 13 (x13 ^^^ BitVec.ofNat 32 (n / 4294967296)))) := by
  subst hV; subst h12; subst h13
  unfold pressV
  simp only [FM.getD_set_ne _ 12 13 _ (by decide)]
theorem un_not (x : U) : 4294967295 - un x = un (~~~ x) := by
  unfold un; rw [BitVec.toNat_not]; have := x.isLt; omega
theorem un_compl (x : U) : bits BinOp.xor IntKind.u32 (if IntKind.u32.signed = true then -1 else IntKind.u32.max) (un x) = un (~~~ x) := by
  have h : (if IntKind.u32.signed = true then -1 else IntKind.u32.max) = un (BitVec.allOnes 32) := by decide
  rw [h, r_xor, BitVec.allOnes_xor]
theorem un_low (n : Nat) : (n : Int) % 4294967296 = un (BitVec.ofNat 32 n) := by
  unfold un; rw [BitVec.toNat_ofNat]; omega
theorem un_high (n : Nat) : (n : Int) / 4294967296 % 4294967296 = un (BitVec.ofNat 32 (n / 4294967296)) := by
  have h := un_low (n / 4294967296); rw [Int.natCast_ediv] at h; exact h
theorem un_high64 (n : Nat) (h : n < 18446744073709551616) : IntKind.u64.wrap ((n : Int) / 4294967296) % 4294967296 = un (BitVec.ofNat 32 (n / 4294967296)) := by
  have e : IntKind.u64.wrap ((n : Int) / 4294967296) = (n : Int) / 4294967296 := by
    have h1 : IntKind.u64.wrap ((n : Int) / 4294967296) = ((n : Int) / 4294967296) % 18446744073709551616 := by simp [IntKind.wrap, IntKind.bits, IntKind.signed]
    rw [h1]; omega
  rw [e, un_high]
theorem copy_vals (V X : List U) (off : Nat) : ((vals V).toList.take off ++ (X.map uv ++ (vals V).toList.drop (off + (X.map uv).length))).toArray = vals (V.take off ++ (X ++ V.drop (off + X.length))) := by
  simp [vals, List.map_take, List.map_drop]
theorem src_vals {w : World} {b : Nat} {V : List U} {T : TypeId} {fr : Nat × Nat} (h : w.heap[b]? = some (.cells (vals V) T fr)) : ∀ j v, (V.map uv)[j]? = some v → w.cell? ((⟨b, 0, none⟩ : Addr).add j) = some v := by
  intro j v hj
  rw [Addr.add_mid, Nat.zero_add, cell_of_row _ b j _ _ _ h]
  simpa [vals] using hj
theorem vals_append (V W : List U) : vals (V ++ W) = vals V ++ vals W := by simp [vals]
theorem uv_oneCell (V : List U) : ∀ v ∈ V.map uv, v.oneCell' = true := by
  intro v hv; simp only [List.mem_map] at hv; obtain ⟨x, _, rfl⟩ := hv; rfl

end Go.Proofs.YtkkpfoidppjbdaaDoor.FM
