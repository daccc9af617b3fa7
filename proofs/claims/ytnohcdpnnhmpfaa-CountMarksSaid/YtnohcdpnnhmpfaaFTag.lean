/-
  fold.tag, fold.Tag: the digest of a label and of parts.
-/
import Derived.Test.YtnohcdpnnhmpfaaFFour
namespace Go.Proofs.Ytnohcdpnnhmpfaa
open Go.RowKit ML FM

/-- strings in memory, behind one another -/
structure StrsAt (w : World) (oa : Option Addr) (Ps : List Bytes) : Prop where
  cells : ∀ i (h : i < Ps.length), ∃ a, oa = some a ∧ a.block < w.heap.size ∧ w.cell? (a.add i) = some (.string ⟨Ps[i].toArray⟩)
theorem add_block (a : Addr) (i : Nat) : (a.add i).block = a.block := by unfold Addr.add; split <;> rfl
theorem StrsAt.below {w w1 : World} {oa : Option Addr} {Ps : List Bytes} (h : StrsAt w oa Ps) (hb : Below w.heap.size w w1) : StrsAt w1 oa Ps := ⟨fun i hi => by
  obtain ⟨a, h1, h2, h3⟩ := h.cells i hi
  exact ⟨a, h1, Nat.lt_of_lt_of_le h2 hb.size, by rw [hb.cell (by rw [add_block]; exact h2)]; exact h3⟩⟩
def joinK (Xs : List Bytes) (k : Nat) : Bytes := (Xs.take k).flatMap fun x => fourN x.length ++ x
def joinL (L : Bytes) (Ps : List Bytes) : Bytes := (L :: Ps).flatMap fun x => fourN x.length ++ x
theorem joinK_next (Xs : List Bytes) (k : Nat) (h : k < Xs.length) : joinK Xs (k + 1) = joinK Xs k ++ fourN Xs[k].length ++ Xs[k] := by
  unfold joinK
  rw [List.take_succ_eq_append_getElem h, List.flatMap_append, List.flatMap_singleton, List.append_assoc]
theorem joinK_all (L : Bytes) (Ps : List Bytes) : joinK (L :: Ps) (Ps.length + 1) = joinL L Ps := by
  unfold joinK joinL
  rw [List.take_of_length_le (by simp)]
theorem length_joinK_le (Xs : List Bytes) (k : Nat) : (joinK Xs k).length ≤ (Xs.flatMap fun x => fourN x.length ++ x).length := by
  conv => rhs; rw [← List.take_append_drop k Xs, List.flatMap_append, List.length_append]
  exact Nat.le_add_right _ _
theorem TakenAt.below {b : Nat} {h0 : List U} {T : Bytes} {w w1 : World} {B : Nat} (h : TakenAt b h0 T w) (hb : Below B w w1) (hlt : b < B) : TakenAt b h0 T w1 := by
  obtain ⟨p, t, D, m, h1, F⟩ := h.ex
  exact ⟨p, t, D, m, h1, F.below hb hlt⟩
theorem TakenAt.lt {b : Nat} {h0 : List U} {T : Bytes} {w : World} (h : TakenAt b h0 T w) : b < w.heap.size := by
  obtain ⟨p, t, D, m, h1, F⟩ := h.ex
  exact lt_of_heap F.blk
set_option maxHeartbeats 4000000 in
set_option maxRecDepth 100000 in
theorem tag_any (L : Bytes) (oa : Option Addr) (Ps : List Bytes) (cap : Nat) (w : World) (hs : StrsAt w oa Ps) (hlen : (joinL L Ps).length < 9223372036854775808) (hnl : Ps.length < 9223372036854775807) :
    Calls Try.prog 55 #[.string ⟨L.toArray⟩, .slice oa Ps.length cap] w fun e w' => e = .returned (.string ⟨(digestL [] (joinL L Ps)).toArray⟩) ∧ Below w.heap.size w w' := by
  have HS := Lib.hid hs
  have HL := Lib.hid hlen
  clear hs hlen
  have hzf := zero_folding
  have hH8 := Lib.hid (show (beginH 0).length = 8 by simp [beginH, ivL])
  have HDD := Lib.hid (show digestL [] (joinL L Ps) = outB (foldL (beginH 0) (joinL L Ps)) from rfl)
  go_enter Try.func55, Try.ntmps55
  go_upto_region 1 with (fail)
  go_upto_region 2 with (first
    | (go_at_call 78; refine (begin_any [] _ (by decide)).mono ?_; rintro e w1 ⟨D, t, rfl, hm, h0t, hb1⟩; have hdl := hm.dl; have hrs : (foldRow (beginH 0) 0 D t).toArray.size = 74 := by simp [length_foldRow hH8.out hdl]
       have hsz := Lib.hid (show (Try.prog.info? 99).map (·.size) = some (foldRow (beginH 0) 0 D t).toArray.size by rw [hrs]; exact size_folding)
       have hzs := Lib.hid (show zeroRow.size = (foldRow (beginH 0) 0 D t).toArray.size by rw [hrs]; rfl)
       have hon := Lib.hid (oneCell_foldRow (beginH 0) 0 D t)
       clear hrs)
    | (refine wpList_store_whole rfl rfl 99 _ _ rfl w1.heap.size zeroRow (foldRow (beginH 0) 0 D t).toArray 99 rfl rfl (heap_at rfl) hzs.out hsz.out hon.out ?_; intro w2 ho2 hp2))
  have b2 : Below w.heap.size w w2 := (hb1.alloc hb1.size _).trans (ho2.below hb1.size)
  have hb : w.heap.size ≤ w1.heap.size := hb1.size
  generalize w1.heap.size = b at *
  have TK : TakenAt b (beginH 0) (joinK (L :: Ps) 0) w2 := ⟨0, t, D, hm, h0t, ⟨hp2, hH8.out, hdl⟩⟩
  clear hb1 ho2 hp2 hm h0t hdl hon hzs hsz
  generalize beginH 0 = h0 at *
  go_upto_region 3 with (fail)
  go_loopw [6] (fun i wr => ∃ (k : Nat) (z : Int), k ≤ Ps.length + 1 ∧ z = (k : Int) - 1 ∧ i = .int .i64 z ∧ TakenAt b h0 (joinK (L :: Ps) k) wr ∧ Below w.heap.size w wr) (fun i _ => (Ps.length + 1 - (intOf i + 1)).toNat)
  case atStart => exact ⟨0, -1, by omega, rfl, rfl, TK, b2⟩
  case round =>
  obtain ⟨k, z, hk, hz, rfl, tk, bel⟩ := hrel
  clear TK b2
  by_cases hlt : k < Ps.length + 1
  · have hd : decide (z < (Ps.length : Int)) = true := by simp; omega
    have hzl : z < (Ps.length : Int) := by omega
    obtain ⟨x, hx⟩ : ∃ x, x = (L :: Ps)[k]'(by simpa using hlt) := ⟨_, rfl⟩
    go_upto_if 17 with (fail)
    go_cut [7] (fun v w' => v = .string ⟨x.toArray⟩ ∧ w' = wr)
    case first =>
      cases k with
      | zero =>
        have hz0 : z = -1 := by omega
        subst hz0
        have hxl : x = L := hx
        subst hxl
        clear hx hz
        go_wp2_with fail
        go_meet
        exact ⟨rfl, rfl⟩
      | succ m =>
        have hzm : z = (m : Int) := by omega
        subst hzm
        have hm2 : m < Ps.length := by omega
        obtain ⟨a, hoa, hab, hac⟩ := (HS.out.below bel).cells m hm2
        have hxm : x = Ps[m] := hx
        rw [← hxm] at hac
        subst hoa
        clear hz hx hxm
        go_wp2_with fail
        go_meet
        exact ⟨rfl, rfl⟩
    case rest =>
    obtain ⟨rfl, hw0⟩ := hcut
    replace hw0 := hw0.symm
    subst hw0
    have hjl := length_joinK_le (L :: Ps) (k + 1)
    have hjn := joinK_next (L :: Ps) k (by simpa using hlt)
    rw [← hx] at hjn
    have hjl2 : (joinK (L :: Ps) k).length + 4 + x.length < 9223372036854775808 := by
      have h1 := HL.out
      rw [hjn, List.length_append, List.length_append] at hjl
      have h4 : (fourN x.length).length = 4 := rfl
      rw [h4] at hjl
      exact Nat.lt_of_le_of_lt hjl h1
    have HJN := Lib.hid hjn
    have HX := Lib.hid hx
    have HZ := Lib.hid hz
    have hzm : (-1 : Int) ≤ z := by omega
    have hzu : z + 1 ≤ 9223372036854775807 := by omega
    clear hjl hjn hx hz
    have hxs := size_mk x
    have QF := Lib.hid (four8_any x.length wr (by omega))
    have hf4 := Lib.hid (show (fourN x.length).length = 4 from rfl)
    go_upto_region 9 with (first
      | (go_at_call 80; refine QF.out.mono ?_; rintro e w3 ⟨rfl, hb3⟩
         have tk3 := tk.below hb3 tk.lt
         have QT := Lib.hid (take_any b h0 (joinK (L :: Ps) k) (fourN x.length) w3 tk3 (by rw [hf4.out]; omega)))
      | (go_at_call 79; refine QT.out.mono ?_; rintro e w4 ⟨rfl, tk4, hg4⟩))
    have bel4 : Below w.heap.size w w4 := (bel.trans (hb3.mono bel.size)).grown hg4 (Nat.le_trans bel.size hb3.size) (fun k hk => by cases hk; exact hb)
    have QT2 := Lib.hid (take_any b h0 (joinK (L :: Ps) k ++ fourN x.length) x w4 tk4 (by rw [List.length_append, hf4.out]; omega))
    clear QT QF tk3 tk hb3 hg4 bel tk4
    go_wp2_with (go_at_call 79; refine QT2.out.mono ?_; rintro e w5 ⟨rfl, tk5, hg5⟩)
    rw [← HJN.out] at tk5
    have bel5 := bel4.grown hg5 bel4.size (fun k hk => by cases hk; exact hb)
    clear QT2 HJN hg5 bel4
    go_roundw
    case rel => exact ⟨k + 1, z + 1, by omega, by have := HZ.out; omega, by go_num, tk5, bel5⟩
    case measure => have := HZ.out; simp [intOf]; omega
  · have hd : decide (z < (Ps.length : Int)) = false := by simp; omega
    have hzl : ¬ z < (Ps.length : Int) := by omega
    obtain rfl : k = Ps.length + 1 := by omega
    rw [joinK_all] at tk
    have QE := Lib.hid (end_any b h0 (joinL L Ps) wr tk HL.out)
    go_wp2_with (go_at_call 81; refine QE.out.mono ?_; rintro e w4 ⟨rfl, hg4⟩)
    go_ret
    refine ⟨?_, bel.grown hg4 bel.size (fun k hk => by cases hk; exact hb)⟩
    rw [HDD.out]
    rfl
set_option maxHeartbeats 1000000 in
set_option maxRecDepth 100000 in
theorem Tag_any (L : Bytes) (oa : Option Addr) (Ps : List Bytes) (cap : Nat) (w : World) (hs : StrsAt w oa Ps) (hlen : (joinL L Ps).length < 9223372036854775808) (hnl : Ps.length < 9223372036854775807) :
    Calls Try.prog 33 #[.string ⟨L.toArray⟩, .slice oa Ps.length cap] w fun e w' => e = .returned (.string ⟨(digestL [] (joinL L Ps)).toArray⟩) ∧ Below w.heap.size w w' := by
  have Q := Lib.hid (tag_any L oa Ps cap w hs hlen hnl)
  clear hs hlen
  go_enter Try.func33, Try.ntmps33
  go_wp2_with (go_at_call 55; refine Q.out.mono ?_; rintro e w1 ⟨rfl, hb1⟩)
  go_ret
  exact ⟨rfl, hb1⟩
end Go.Proofs.Ytnohcdpnnhmpfaa
