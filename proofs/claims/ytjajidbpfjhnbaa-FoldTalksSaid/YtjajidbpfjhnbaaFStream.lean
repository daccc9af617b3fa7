/-
  fold.Stream and the reference's: the stream of any seed and label.
  Conditions: seed and label are within the reach.
-/
import Derived.Test.YtjajidbpfjhnbaaFStreamM
import Derived.Test.YtjajidbpfjhnbaaFBuild
import Derived.Test.YtjajidbpfjhnbaaFJoined
namespace Go.Proofs.Ytjajidbpfjhnbaa
open Go.RowKit ML FM

theorem strsAt_block {w : World} {g : Nat} {Ps : List Bytes} {t : TypeId} {cs : Array Value} (h : w.heap[g]? = some (.cells cs t (0, 0))) (hc : cs = (Ps.map fun p => Value.string ⟨p.toArray⟩).toArray) : StrsAt w (some ⟨g, 0, none⟩) Ps := ⟨fun i hi => by
  refine ⟨_, rfl, lt_of_heap h, ?_⟩
  rw [show (⟨g, 0, none⟩ : Addr).add i = ⟨g, 0 + i, none⟩ by unfold Addr.add; split <;> simp_all, Nat.zero_add, cell_of_row w g i _ _ _ h, hc]
  simp [hi]⟩
theorem strCells_mk (l : Bytes) : Lib.strCells ⟨l.toArray⟩ = Lib.byteCells l := by simp [Lib.strCells, Lib.byteCells]
def streamOk (n : Int) : Bool := decide (0 ≤ n ∧ n ≤ 65536)
def streamR (S L : Bytes) (n : Int) : Bytes := if 0 ≤ n ∧ n ≤ 65536 then streamB S L n.toNat else []
def streamE (n : Int) : Int := if 0 ≤ n ∧ n ≤ 65536 then 0 else 4
set_option maxHeartbeats 4000000 in
set_option maxRecDepth 100000 in
theorem stream_any (S L : Bytes) (n : Int) (w : World) (hS : S.length < 1152921504606846976) (hL : L.length < 1152921504606846976) :
    Calls Try.prog 30 #[.string ⟨S.toArray⟩, .string ⟨L.toArray⟩, .int .i64 n] w fun e w' => e = .returned (.tuple #[.string ⟨(streamR S L n).toArray⟩, .int .i64 (streamE n)]) ∧ Below w.heap.size w w' := by
  go_enter Try.func30, Try.ntmps30
  by_cases hn : ¬ (0 ≤ n ∧ n ≤ 65536)
  · have hR : streamR S L n = [] := if_neg hn
    have hE : streamE n = 4 := if_neg hn
    rw [hR, hE]
    by_cases h0 : n < 0
    · go_wp2_with fail
      go_ret2
      exact ⟨rfl, Below.refl _ _⟩
    · have h1 : 65536 < n := by omega
      go_wp2_with fail
      go_ret2
      exact ⟨rfl, Below.refl _ _⟩
  · obtain ⟨h0, h1⟩ := Decidable.not_not.1 hn
    clear hn
    obtain ⟨m, rfl⟩ := Int.eq_ofNat_of_zero_le h0
    have hR : streamR S L (m : Int) = streamB S L m := if_pos ⟨h0, h1⟩
    have hE : streamE (m : Int) = 0 := if_pos ⟨h0, h1⟩
    rw [hR, hE]
    clear hR hE
    go_upto_region 4 with (fail)
    generalize hb : w.heap.size = b at *
    refine wp_abs (fun w1 => Below b w w1 ∧ Lib.IsBuilder 85 5 b b (Lib.byteCells (streamK S L 0)) w1) ⟨by rw [← hb]; exact (Below.refl _ _).alloc (Nat.le_refl _) _, by rw [← hb]; exact Lib.fresh_isBuilder _ _ w⟩ (fun w1 hw1 => ?_)
    obtain ⟨bel1, ib1⟩ := hw1
    have HB := Lib.hid hb
    clear hb
    go_upto_region 5 with (fail)
    go_loopw [9] (fun i wr => ∃ k : Nat, (k = 0 ∨ 32 * k < m + 32) ∧ i = .int .i64 k ∧ Below b w wr ∧ Lib.IsBuilder 85 5 b b (Lib.byteCells (streamK S L k)) wr) (fun i _ => m + 32 - (32 * intOf i).toNat)
    case atStart => exact ⟨0, .inl rfl, rfl, bel1, ib1⟩
    case round =>
    obtain ⟨k, hk, rfl, bel, ib⟩ := hrel
    clear bel1 ib1
    have hlen := length_streamK S L k
    have QL : Hid (Calls Try.prog 45 #[.pointer (some ⟨b, 0, none⟩)] wr fun e w' => e = .returned (.int .i64 ((32 * k : Nat) : Int)) ∧ w' = wr) := by
      have h := Try.Builder_Len b b (Lib.byteCells (streamK S L k)) wr ib
      rw [length_byteCells, hlen] at h
      exact Lib.hid h
    by_cases hlt : 32 * k < m
    · have hd : decide (((32 * k : Nat) : Int) < (m : Int)) = true := by simp; omega
      have hki : (k : Int) < 2048 := by omega
      have QF := Lib.hid (four8_any k wr (by omega))
      have hbw : b ≤ wr.heap.size := by have := bel.size; rw [HB.out] at this; exact this
      go_upto_region 7 with (go_at_call 45; refine QL.out.mono ?_; rintro e w2 ⟨rfl, rfl⟩)
      have QT := Lib.hid (fun (g : Nat) (w3 : World) (h : w3.heap[g]? = some (.cells #[.string ⟨S.toArray⟩, .string ⟨L.toArray⟩, .string ⟨(fourN k).toArray⟩] 9 (0, 0))) =>
        tag_any streamS (some ⟨g, 0, none⟩) (partsL S L k) 3 w3 (strsAt_block h rfl) (by rw [length_joined]; omega) (by show 3 < 9223372036854775807; decide))
      have hbl := Lib.hid (show digestL [] (joinL streamS (partsL S L k)) = blockL S L k from rfl)
      have hbll := Lib.hid (show (blockL S L k).length = 32 from length_digestL _ _)
      have hk1 := Lib.hid (show streamK S L k ++ blockL S L k = streamK S L (k + 1) from rfl)
      clear QL
      go_upto_region 6 with (first
        | (go_at_call 47; refine QF.out.mono ?_; rintro e w3 ⟨rfl, hb3⟩
           have ib3 := isBuilder_below ib hb3)
        | (go_at_call 43; refine (QT.out w3.heap.size _ (heap_at rfl)).mono ?_; rintro e w4 ⟨rfl, hb4⟩
           have hb4' : Below w3.heap.size w3 w4 := ((Below.refl _ _).alloc (Nat.le_refl _) _).trans (hb4.mono (by simp))
           have ib4 := isBuilder_below ib3 hb4'
           have QW := Lib.hid (writeString_any b b (Lib.byteCells (streamK S L k)) ⟨(blockL S L k).toArray⟩ w4 ib4 (by rw [length_byteCells, hlen, size_mk, hbll.out]; omega) (Nat.le_trans hbw (Nat.le_trans hb3.size hb4'.size))))
        | (go_at_call 46; refine QW.out.mono ?_; rintro e w5 ⟨rfl, ib5, hb5⟩))
      rw [strCells_mk, byteCells_append, hk1.out] at ib5
      have bel5 : Below b w w5 := (bel.trans ((hb3.trans (hb4'.mono hb3.size)).mono hbw)).trans hb5
      have IB5 : Lib.IsBuilder 85 5 b b (Lib.byteCells (streamK S L (k + 1))) w5 := .inr ib5
      clear QF QT QW ib ib3 ib4 ib5 hb3 hb4 hb4' hb5 bel hk1 hbl hbll
      go_wp2_with fail
      go_roundw
      case rel => exact ⟨k + 1, .inr (by omega), by go_num, bel5, IB5⟩
      case measure => simp [intOf]; omega
    · have hd : decide (((32 * k : Nat) : Int) < (m : Int)) = false := by simp; omega
      have hs := size_mk (streamK S L k)
      rw [hlen] at hs
      have hbw : b ≤ wr.heap.size := by have := bel.size; rw [HB.out] at this; exact this
      have QS := Lib.hid (Try.Builder_String_any b b (streamK S L k) wr ib hbw)
      have hres := Lib.hid (streamB_at S L m k (by omega) hk)
      clear ib
      go_upto_region 8 with (go_at_call 45; refine QL.out.mono ?_; rintro e w2 ⟨rfl, rfl⟩)
      go_wp2_with (go_at_call 48; refine QS.out.mono ?_; rintro e w2 ⟨rfl, hb2⟩)
      rw [extract_take, hres.out]
      go_ret2
      refine ⟨rfl, ?_⟩
      rw [HB.out]
      exact bel.trans hb2
set_option maxHeartbeats 4000000 in
set_option maxRecDepth 100000 in
theorem refStream_any (S L : Bytes) (n : Int) (w : World) (hS : S.length < 1152921504606846976) (hL : L.length < 1152921504606846976) :
    Calls Try.prog 31 #[.string ⟨S.toArray⟩, .string ⟨L.toArray⟩, .int .i64 n] w fun e w' => e = .returned (.tuple #[.string ⟨(streamR S L n).toArray⟩, .bool (streamOk n)]) ∧ Below w.heap.size w w' := by
  go_enter Try.func31, Try.ntmps31
  by_cases hn : ¬ (0 ≤ n ∧ n ≤ 65536)
  · have hR : streamR S L n = [] := if_neg hn
    have hE : streamOk n = false := decide_eq_false hn
    rw [hR, hE]
    by_cases h0 : n < 0
    · go_wp2_with fail
      go_ret2
      exact ⟨rfl, Below.refl _ _⟩
    · have h1 : 65536 < n := by omega
      go_wp2_with fail
      go_ret2
      exact ⟨rfl, Below.refl _ _⟩
  · obtain ⟨h0, h1⟩ := Decidable.not_not.1 hn
    clear hn
    obtain ⟨m, rfl⟩ := Int.eq_ofNat_of_zero_le h0
    have hR : streamR S L (m : Int) = streamB S L m := if_pos ⟨h0, h1⟩
    have hE : streamOk (m : Int) = true := decide_eq_true ⟨h0, h1⟩
    rw [hR, hE]
    clear hR hE
    go_upto_region 5 with (fail)
    generalize hb : w.heap.size = b at *
    have HB := Lib.hid hb
    have bel1 : Below b w w := Below.refl _ _
    clear hb
    go_loopw [8, 9] (fun s i wr => ∃ k : Nat, (k = 0 ∨ 32 * k < m + 32) ∧ i = .int .i64 k ∧ s = .string ⟨(streamK S L k).toArray⟩ ∧ Below b w wr) (fun _ i _ => m + 32 - (32 * intOf i).toNat)
    case atStart => exact ⟨0, .inl rfl, rfl, rfl, bel1⟩
    case round =>
    obtain ⟨k, hk, rfl, rfl, bel⟩ := hrel
    clear bel1
    have hlen := length_streamK S L k
    have hs := size_mk (streamK S L k)
    rw [hlen] at hs
    by_cases hlt : 32 * k < m
    · have hd : decide (((32 * k : Nat) : Int) < (m : Int)) = true := by simp; omega
      have hki : (k : Int) < 2048 := by omega
      have QF := Lib.hid (refFour_any k wr (by omega))
      have hbw : b ≤ wr.heap.size := by have := bel.size; rw [HB.out] at this; exact this
      have QT := Lib.hid (fun (g : Nat) (w3 : World) (h : w3.heap[g]? = some (.cells #[.string ⟨S.toArray⟩, .string ⟨L.toArray⟩, .string ⟨(fourN k).toArray⟩] 9 (0, 0))) =>
        refTag_any streamS (some ⟨g, 0, none⟩) (partsL S L k) 3 w3 (strsAt_block h rfl) (by rw [length_joined]; omega) (by show 3 < 9223372036854775807; decide))
      have hbl := Lib.hid (show digestL [] (joinL streamS (partsL S L k)) = blockL S L k from rfl)
      have hbll := Lib.hid (show (blockL S L k).length = 32 from length_digestL _ _)
      have hk1 := Lib.hid (show streamK S L k ++ blockL S L k = streamK S L (k + 1) from rfl)
      have hs2 := size_mk (digestL [] (joinL streamS (partsL S L k)))
      rw [length_digestL] at hs2
      go_upto_region 6 with (first
        | (go_at_call 49; refine QF.out.mono ?_; rintro e w3 ⟨rfl, hb3⟩)
        | (go_at_call 22; refine (QT.out w3.heap.size _ (heap_at rfl)).mono ?_; rintro e w4 ⟨rfl, hb4⟩))
      rw [append_mk, hbl.out, hk1.out]
      have hb4' : Below w3.heap.size w3 w4 := ((Below.refl _ _).alloc (Nat.le_refl _) _).trans (hb4.mono (by simp))
      have bel5 : Below b w w4 := bel.trans ((hb3.trans (hb4'.mono hb3.size)).mono hbw)
      clear QF QT hb3 hb4 hb4' bel hk1 hbl hbll hs2
      go_wp2_with fail
      go_roundw
      case rel => exact ⟨k + 1, .inr (by omega), by go_num, rfl, bel5⟩
      case measure => simp [intOf]; omega
    · have hd : decide (((32 * k : Nat) : Int) < (m : Int)) = false := by simp; omega
      have hres := Lib.hid (streamB_at S L m k (by omega) hk)
      go_wp2_with fail
      rw [extract_take, hres.out]
      go_ret2
      refine ⟨rfl, ?_⟩
      rw [HB.out]
      exact bel
end Go.Proofs.Ytjajidbpfjhnbaa
