/-
  fold.Keyed, fold.Digest: of any key and any text.
  Conditions: the text's length with the key's piece is below 2^63.
-/
import Derived.Test.YtjajidbpfjhnbaaFBegin
namespace Go.Proofs.Ytjajidbpfjhnbaa
open Go.RowKit ML FM

def keyedD (K B : Bytes) : Bytes := if K.length ≤ 32 then digestL K B else []
def keyedE (K : Bytes) : Int := if K.length ≤ 32 then 0 else 3
theorem length_keyPiece (K : Bytes) (h : K.length ≤ 64) : (keyPiece K).length ≤ 64 := by
  unfold keyPiece
  split
  · simp
  · simp; omega
theorem absorb_zero (h : List U) (T : Bytes) : absorbK h T 0 = h := rfl
theorem oneCell_foldRow (H : List U) (n : Nat) (D : Bytes) (t : Nat) : (foldRow H n D t).toArray.all (·.oneCell') = true := by
  refine all_oneCell_toArray (fun v hv => ?_)
  simp only [foldRow, Lib.byteCells, List.mem_append, List.mem_map, List.mem_cons, List.not_mem_nil, or_false] at hv
  rcases hv with ⟨x, _, rfl⟩ | rfl | ⟨x, _, rfl⟩ | rfl <;> rfl
set_option maxHeartbeats 4000000 in
set_option maxRecDepth 100000 in
theorem keyed_any (K B : Bytes) (w : World) (hB : B.length + 64 < 9223372036854775808) (hKm : K.length < 9223372036854775808) :
    Calls Try.prog 19 #[.string ⟨K.toArray⟩, .string ⟨B.toArray⟩] w fun e w' => e = .returned (.tuple #[.string ⟨(keyedD K B).toArray⟩, .int .i64 (keyedE K)]) ∧ Below w.heap.size w w' := by
  have HBL := Lib.hid hB
  have hsz := size_mk K
  clear hB
  have hzf := zero_folding
  go_enter Try.func19, Try.ntmps19
  by_cases hK : 32 < K.length
  · have hK2 : keyedD K B = [] ∧ keyedE K = 3 := ⟨if_neg (by omega), if_neg (by omega)⟩
    go_wp2_with fail
    go_ret2
    rw [hK2.1, hK2.2]
    exact ⟨rfl, Below.refl _ _⟩
  · have hKl : K.length ≤ 64 := by omega
    have HD := Lib.hid (show keyedD K B = digestL K B from if_pos (by omega))
    have HE := Lib.hid (show keyedE K = 0 from if_pos (by omega))
    have HL := Lib.hid (length_keyPiece K hKl)
    have hH8 := Lib.hid (show (beginH K.length).length = 8 by simp [beginH, ivL])
    have HDD := Lib.hid (show digestL K B = outB (foldL (beginH K.length) (keyPiece K ++ B)) from rfl)
    go_upto_region 3 with (fail)
    go_upto_region 4 with (first
      | (go_at_call 39; refine (begin_any K _ hKl).mono ?_; rintro e w1 ⟨D, t, rfl, hm, h0t, hb1⟩; have hdl := hm.dl; have hrs : (foldRow (beginH K.length) 0 D t).toArray.size = 74 := by simp [length_foldRow hH8.out hdl]
         have hs := Lib.hid (show (Try.prog.info? 74).map (·.size) = some (foldRow (beginH K.length) 0 D t).toArray.size by rw [hrs]; exact size_folding)
         have hzs := Lib.hid (show zeroRow.size = (foldRow (beginH K.length) 0 D t).toArray.size by rw [hrs]; rfl)
         have hon := Lib.hid (oneCell_foldRow (beginH K.length) 0 D t)
         clear hrs)
      | (refine wpList_store_whole rfl rfl 74 _ _ rfl w1.heap.size zeroRow (foldRow (beginH K.length) 0 D t).toArray 74 rfl rfl (heap_at rfl) hzs.out hs.out hon.out ?_; intro w2 ho2 hp2))
    have b2 : Below w.heap.size w w2 := (hb1.alloc hb1.size _).trans (ho2.below hb1.size)
    have hb : w.heap.size ≤ w1.heap.size := hb1.size
    generalize w1.heap.size = b at *
    have TK : TakenAt b (beginH K.length) (keyPiece K) w2 := ⟨0, t, D, hm, h0t, ⟨hp2, hH8.out, hdl⟩⟩
    have QT := Lib.hid (take_any b (beginH K.length) (keyPiece K) B w2 TK (by have := HL.out; have := HBL.out; omega))
    clear hb1 ho2 hp2 TK hm h0t hdl
    go_upto_region 5 with (go_at_call 40; refine QT.out.mono ?_; rintro e w3 ⟨rfl, TK3, hg3⟩)
    have QE := Lib.hid (end_any b (beginH K.length) (keyPiece K ++ B) w3 TK3 (by rw [List.length_append]; have := HL.out; have := HBL.out; omega))
    clear TK3
    go_wp2_with (go_at_call 41; refine QE.out.mono ?_; rintro e w4 ⟨rfl, hg4⟩)
    go_ret2
    have hg := gtrans hg3 hg4
    refine ⟨?_, b2.grown hg b2.size (fun k hk => by cases hk; exact hb)⟩
    rw [HD.out, HE.out, HDD.out]
    rfl
set_option maxHeartbeats 4000000 in
set_option maxRecDepth 100000 in
theorem digest_any (B : Bytes) (w : World) (hB : B.length + 64 < 9223372036854775808) :
    Calls Try.prog 17 #[.string ⟨B.toArray⟩] w fun e w' => e = .returned (.string ⟨(digestL [] B).toArray⟩) ∧ Below w.heap.size w w' := by
  have QK := fun w => keyed_any [] B w hB (by simp)
  have h0 : keyedD [] B = digestL [] B := rfl
  rw [h0] at QK
  have Q := Lib.hid QK
  clear QK h0 hB
  go_enter Try.func17, Try.ntmps17
  go_wp2_with (go_at_call 19; refine (Q.out _).mono ?_; rintro e w1 ⟨rfl, hb1⟩)
  go_ret
  exact ⟨rfl, hb1⟩
end Go.Proofs.Ytjajidbpfjhnbaa
