/-
  Chapter 14: AuditDraws. (sameWatch: AuL's, with any number drawn.)
-/
import Derived.Test.YtlbdcgnpkapncaaDoorAuJ
import Derived.Test.YtlbdcgnpkapncaaDoorAuZ
namespace Go.Proofs.YtlbdcgnpkapncaaDoor
set_option linter.unusedVariables false
set_option linter.unusedSimpArgs false
open Go.RowKit ML FM AU

set_option maxHeartbeats 2000000 in
set_option maxRecDepth 100000 in
theorem sameWatchD_any (dr : Int) (A B : List Int) (S O : List (Bytes × Bytes)) (N D : Bytes) (o0 o1 o2 o3 p0 p1 p2 p3 : Option Addr) (c0 c1 c2 c3 e0 e1 e2 e3 : Nat) (w : World) (hX : WAt w o0 o1 o2 o3 A B S O) (hY : WAt w p0 p1 p2 p3 A B S O) (lA : A.length < 4611686018427387904) (lB : B.length < 4611686018427387904) (lS : S.length < 4611686018427387904) (lO : O.length < 4611686018427387904) :
    Calls Tryd.prog 10 #[.agg #[.slice o0 A.length c0, .slice o1 B.length c1, .slice o2 S.length c2, .slice o3 O.length c3, .string ⟨N.toArray⟩, .string ⟨D.toArray⟩, .int .i64 dr], .agg #[.slice p0 A.length e0, .slice p1 B.length e1, .slice p2 S.length e2, .slice p3 O.length e3, .string ⟨N.toArray⟩, .string ⟨D.toArray⟩, .int .i64 dr]] w fun e w' => e = .returned (.bool true) ∧ Below w.heap.size w w' := by
  have Q0 := Lib.hid (fun w h1 h2 => sameInts_any o0 p0 A c0 e0 w h1 h2 (by omega))
  have Q1 := Lib.hid (fun w h1 h2 => sameInts_any o1 p1 B c1 e1 w h1 h2 (by omega))
  have Q2 := Lib.hid (fun w h1 h2 => sameFracs_any o2 p2 S c2 e2 w h1 h2 (by omega))
  have Q3 := Lib.hid (fun w h1 h2 => sameFracs_any o3 p3 O c3 e3 w h1 h2 (by omega))
  have HX := Lib.hid hX
  have HY := Lib.hid hY
  clear hX hY lA lB lS lO
  go_enter Tryd.func10, Tryd.ntmps10
  go_upto_region 1 with (fail)
  have BX := Box2.mk' w #[.slice o0 A.length c0, .slice o1 B.length c1, .slice o2 S.length c2, .slice o3 O.length c3, .string ⟨N.toArray⟩, .string ⟨D.toArray⟩, .int .i64 dr] #[.slice p0 A.length e0, .slice p1 B.length e1, .slice p2 S.length e2, .slice p3 O.length e3, .string ⟨N.toArray⟩, .string ⟨D.toArray⟩, .int .i64 dr] 27
  generalize hB : w.heap.size = b at *
  refine wp_abs (fun w1 => Box2 b w w1 #[.slice o0 A.length c0, .slice o1 B.length c1, .slice o2 S.length c2, .slice o3 O.length c3, .string ⟨N.toArray⟩, .string ⟨D.toArray⟩, .int .i64 dr] #[.slice p0 A.length e0, .slice p1 B.length e1, .slice p2 S.length e2, .slice p3 O.length e3, .string ⟨N.toArray⟩, .string ⟨D.toArray⟩, .int .i64 dr] 27) BX (fun w1 B1 => ?_)
  have x0 : w1.cell? ⟨b, 0, none⟩ = some (.slice o0 A.length c0) := cell_of_row w1 b 0 _ _ _ B1.x
  have x1 : w1.cell? ⟨b, 1, none⟩ = some (.slice o1 B.length c1) := cell_of_row w1 b 1 _ _ _ B1.x
  have x2 : w1.cell? ⟨b, 2, none⟩ = some (.slice o2 S.length c2) := cell_of_row w1 b 2 _ _ _ B1.x
  have x3 : w1.cell? ⟨b, 3, none⟩ = some (.slice o3 O.length c3) := cell_of_row w1 b 3 _ _ _ B1.x
  have x4 : w1.cell? ⟨b, 4, none⟩ = some (.string ⟨N.toArray⟩) := cell_of_row w1 b 4 _ _ _ B1.x
  have x5 : w1.cell? ⟨b, 5, none⟩ = some (.string ⟨D.toArray⟩) := cell_of_row w1 b 5 _ _ _ B1.x
  have x6 : w1.cell? ⟨b, 6, none⟩ = some (.int .i64 dr) := cell_of_row w1 b 6 _ _ _ B1.x
  have y0 : w1.cell? ⟨b + 1, 0, none⟩ = some (.slice p0 A.length e0) := cell_of_row w1 (b + 1) 0 _ _ _ B1.y
  have y1 : w1.cell? ⟨b + 1, 1, none⟩ = some (.slice p1 B.length e1) := cell_of_row w1 (b + 1) 1 _ _ _ B1.y
  have y2 : w1.cell? ⟨b + 1, 2, none⟩ = some (.slice p2 S.length e2) := cell_of_row w1 (b + 1) 2 _ _ _ B1.y
  have y3 : w1.cell? ⟨b + 1, 3, none⟩ = some (.slice p3 O.length e3) := cell_of_row w1 (b + 1) 3 _ _ _ B1.y
  have y4 : w1.cell? ⟨b + 1, 4, none⟩ = some (.string ⟨N.toArray⟩) := cell_of_row w1 (b + 1) 4 _ _ _ B1.y
  have y5 : w1.cell? ⟨b + 1, 5, none⟩ = some (.string ⟨D.toArray⟩) := cell_of_row w1 (b + 1) 5 _ _ _ B1.y
  have y6 : w1.cell? ⟨b + 1, 6, none⟩ = some (.int .i64 dr) := cell_of_row w1 (b + 1) 6 _ _ _ B1.y
  have hb1 : b + 1 < w1.heap.size := lt_of_heap B1.y
  have BEL := Lib.hid B1.bel
  have HB := Lib.hid hB
  have HX1 := Lib.hid (HX.out.below (by rw [hB]; exact B1.bel))
  have HY1 := Lib.hid (HY.out.below (by rw [hB]; exact B1.bel))
  clear BX hB B1 HX HY
  have EDR := Lib.hid (show (dr == dr) = true by simp)
  have edr := EDR.out
  go_wp2_with (first
    | (go_at_call 34; (with_reducible refine (Q0.out w1 HX1.out.i0 HY1.out.i0).mono ?_); rintro e w2 ⟨rfl, bb⟩; have HX2 := Lib.hid (HX1.out.below bb); have HY2 := Lib.hid (HY1.out.below bb); have BEL1 := Lib.hid (BEL.out.trans (bb.mono (by omega))); replace x1 := (bb.cell (show b < w1.heap.size by omega)).trans x1; replace y1 := (bb.cell (show b + 1 < w1.heap.size by omega)).trans y1; replace x2 := (bb.cell (show b < w1.heap.size by omega)).trans x2; replace y2 := (bb.cell (show b + 1 < w1.heap.size by omega)).trans y2; replace x3 := (bb.cell (show b < w1.heap.size by omega)).trans x3; replace y3 := (bb.cell (show b + 1 < w1.heap.size by omega)).trans y3; replace x4 := (bb.cell (show b < w1.heap.size by omega)).trans x4; replace y4 := (bb.cell (show b + 1 < w1.heap.size by omega)).trans y4; replace x5 := (bb.cell (show b < w1.heap.size by omega)).trans x5; replace y5 := (bb.cell (show b + 1 < w1.heap.size by omega)).trans y5; replace x6 := (bb.cell (show b < w1.heap.size by omega)).trans x6; replace y6 := (bb.cell (show b + 1 < w1.heap.size by omega)).trans y6; replace hb1 : b + 1 < w2.heap.size := Nat.lt_of_lt_of_le hb1 bb.size; clear bb)
    | (go_at_call 34; (with_reducible refine (Q1.out w2 HX2.out.i1 HY2.out.i1).mono ?_); rintro e w3 ⟨rfl, bb⟩; have HX3 := Lib.hid (HX2.out.below bb); have HY3 := Lib.hid (HY2.out.below bb); have BEL2 := Lib.hid (BEL1.out.trans (bb.mono (by omega))); replace x2 := (bb.cell (show b < w2.heap.size by omega)).trans x2; replace y2 := (bb.cell (show b + 1 < w2.heap.size by omega)).trans y2; replace x3 := (bb.cell (show b < w2.heap.size by omega)).trans x3; replace y3 := (bb.cell (show b + 1 < w2.heap.size by omega)).trans y3; replace x4 := (bb.cell (show b < w2.heap.size by omega)).trans x4; replace y4 := (bb.cell (show b + 1 < w2.heap.size by omega)).trans y4; replace x5 := (bb.cell (show b < w2.heap.size by omega)).trans x5; replace y5 := (bb.cell (show b + 1 < w2.heap.size by omega)).trans y5; replace x6 := (bb.cell (show b < w2.heap.size by omega)).trans x6; replace y6 := (bb.cell (show b + 1 < w2.heap.size by omega)).trans y6; replace hb1 : b + 1 < w3.heap.size := Nat.lt_of_lt_of_le hb1 bb.size; clear bb)
    | (go_at_call 35; (with_reducible refine (Q2.out w3 HX3.out.f2 HY3.out.f2).mono ?_); rintro e w4 ⟨rfl, bb⟩; have HX4 := Lib.hid (HX3.out.below bb); have HY4 := Lib.hid (HY3.out.below bb); have BEL3 := Lib.hid (BEL2.out.trans (bb.mono (by omega))); replace x3 := (bb.cell (show b < w3.heap.size by omega)).trans x3; replace y3 := (bb.cell (show b + 1 < w3.heap.size by omega)).trans y3; replace x4 := (bb.cell (show b < w3.heap.size by omega)).trans x4; replace y4 := (bb.cell (show b + 1 < w3.heap.size by omega)).trans y4; replace x5 := (bb.cell (show b < w3.heap.size by omega)).trans x5; replace y5 := (bb.cell (show b + 1 < w3.heap.size by omega)).trans y5; replace x6 := (bb.cell (show b < w3.heap.size by omega)).trans x6; replace y6 := (bb.cell (show b + 1 < w3.heap.size by omega)).trans y6; replace hb1 : b + 1 < w4.heap.size := Nat.lt_of_lt_of_le hb1 bb.size; clear bb)
    | (go_at_call 35; (with_reducible refine (Q3.out w4 HX4.out.f3 HY4.out.f3).mono ?_); rintro e w5 ⟨rfl, bb⟩; have HX5 := Lib.hid (HX4.out.below bb); have HY5 := Lib.hid (HY4.out.below bb); have BEL4 := Lib.hid (BEL3.out.trans (bb.mono (by omega))); replace x4 := (bb.cell (show b < w4.heap.size by omega)).trans x4; replace y4 := (bb.cell (show b + 1 < w4.heap.size by omega)).trans y4; replace x5 := (bb.cell (show b < w4.heap.size by omega)).trans x5; replace y5 := (bb.cell (show b + 1 < w4.heap.size by omega)).trans y5; replace x6 := (bb.cell (show b < w4.heap.size by omega)).trans x6; replace y6 := (bb.cell (show b + 1 < w4.heap.size by omega)).trans y6; replace hb1 : b + 1 < w5.heap.size := Nat.lt_of_lt_of_le hb1 bb.size; clear bb))
  go_ret
  exact ⟨rfl, by rw [HB.out]; exact BEL4.out⟩
/-- lists of ints in memory, behind one another -/
structure RsAt (w : World) (oa : Option Addr) (R : List (List Int)) : Prop where
  cells : ∀ i (h : i < R.length), ∃ a, oa = some a ∧ a.block < w.heap.size ∧ ∃ ob cb, w.cell? (a.add i) = some (.slice ob R[i].length cb) ∧ IsAt w ob R[i] ∧ R[i].length < 9223372036854775808
theorem RsAt.below {w w1 : World} {oa : Option Addr} {R : List (List Int)} (h : RsAt w oa R) (hb : Below w.heap.size w w1) : RsAt w1 oa R := ⟨fun i hi => by
  obtain ⟨a, h1, h2, ob, cb, h3, h4, h5⟩ := h.cells i hi
  exact ⟨a, h1, Nat.lt_of_lt_of_le h2 hb.size, ob, cb, by rw [hb.cell (by rw [addr_block']; exact h2)]; exact h3, h4.below hb, h5⟩⟩
/-- Draw's answer, as one watch -/
theorem drawGot_all {A B : List Int} {S O : List (Bytes × Bytes)} {N D : Bytes} {dr : Int} {M : List Int} {w w' : World} {e : Ending} (h : DrawGot A B S O N D dr M w e w') :
    DGot (if drawE A B S O N D dr M = 0 then A else []) (if drawE A B S O N D dr M = 0 then B else []) (if drawE A B S O N D dr M = 0 then S else []) (if drawE A B S O N D dr M = 0 then nextOs A B S O N D M else []) (if drawE A B S O N D dr M = 0 then N else []) (if drawE A B S O N D dr M = 0 then D else []) (if drawE A B S O N D dr M = 0 then dr + 1 else 0) (drawE A B S O N D dr M) w e w' := by
  unfold DrawGot at h
  by_cases h0 : drawE A B S O N D dr M = 0
  · rw [if_pos h0] at h
    rw [h0]
    simpa using h
  · rw [if_neg h0] at h
    simp only [if_neg h0]
    exact h
theorem drawE_ok {A B : List Int} {S O : List (Bytes × Bytes)} {N D : Bytes} {dr : Int} {M : List Int} (h : drawE A B S O N D dr M = 0) : RightW A B S O N D M.length ∧ 0 ≤ dr ∧ dr ≤ 1023 := by
  unfold drawE at h
  split at h
  · cases h
  · split at h
    · cases h
    · split at h
      · cases h
      · rename_i hr
        split at h
        · cases h
        · rename_i hd
          have hd2 : 0 ≤ dr ∧ dr ≤ 1023 := Decidable.not_not.1 hd
          refine ⟨rightW_iff.1 ?_, hd2⟩
          cases hc : rightW A B S O N D M.length
          · exact absurd hc hr
          · rfl
/-- a list that does not lie in block X -/
def Off (X : Nat) (o : Option Addr) (n : Nat) : Prop := 0 < n → ∀ a, o = some a → a.block ≠ X
theorem AU.IsAt.off {w w1 : World} {X : Nat} {oa : Option Addr} {L : List Int} (h : IsAt w oa L) (ho : Only X w w1) (hf : Off X oa L.length) : IsAt w1 oa L := ⟨fun i hi => by
  obtain ⟨a, h1, h2, h3⟩ := h.cells i hi
  exact ⟨a, h1, by rw [ho.size]; exact h2, by rw [World.cell?_of_block (w := w) (ho.block _ (by rw [addr_block']; exact hf (by omega) a h1))]; exact h3⟩⟩
theorem AU.FsAt.off {w w1 : World} {X : Nat} {oa : Option Addr} {F : List (Bytes × Bytes)} (h : FsAt w oa F) (ho : Only X w w1) (hf : Off X oa F.length) : FsAt w1 oa F := ⟨fun i hi => by
  obtain ⟨a, h1, h2, h3⟩ := h.cells i hi
  exact ⟨a, h1, by rw [ho.size]; exact h2, fun j v hj => by rw [World.cell?_of_block (w := w) (ho.block _ (by rw [addr_block', addr_block']; exact hf (by omega) a h1))]; exact h3 j v hj⟩⟩
theorem AU.IsAt.offX {w : World} {X : Nat} {oa : Option Addr} {L : List Int} (h : IsAt w oa L) (hX : w.heap.size ≤ X) : Off X oa L.length := fun hl a ha => by
  obtain ⟨a', h1, h2, _⟩ := h.cells 0 hl
  rw [ha] at h1; cases h1; omega
theorem AU.FsAt.offX {w : World} {X : Nat} {oa : Option Addr} {F : List (Bytes × Bytes)} (h : FsAt w oa F) (hX : w.heap.size ≤ X) : Off X oa F.length := fun hl a ha => by
  obtain ⟨a', h1, h2, _⟩ := h.cells 0 hl
  rw [ha] at h1; cases h1; omega
theorem Near.off {w : World} {X n : Nat} {o v : Option Addr} (h : Near w o v) (hX : X < w.heap.size) (hf : Off X o n) : Off X v n := fun hl a ha => by
  rcases h with h | h
  · rw [h] at ha; exact hf hl a ha
  · have := h a ha; omega
/-- how long the odds' texts may be -/
def Grown (O : List (Bytes × Bytes)) (dr : Int) : Prop := ∃ j : Nat, j ≤ 1024 ∧ Short O (1048576 + 101 * j) ∧ (j = 0 ∨ ((j : Int) ≤ dr ∧ dr ≤ 1024))
theorem Grown.short {O : List (Bytes × Bytes)} {dr : Int} (h : Grown O dr) : Short O 99999999 := by
  obtain ⟨j, h1, h2, _⟩ := h
  exact h2.mono (by omega)
theorem Grown.next {A B : List Int} {S O : List (Bytes × Bytes)} {N D : Bytes} {dr : Int} {M : List Int} (h : Grown O dr) (hE : drawE A B S O N D dr M = 0) : Grown (nextOs A B S O N D M) (dr + 1) := by
  obtain ⟨j, h1, h2, h3⟩ := h
  obtain ⟨hR, hd1, hd2⟩ := drawE_ok hE
  refine ⟨j + 1, by omega, ?_, .inr (by omega)⟩
  have := nextOs_short (M := M) hR h2
  rw [show 1048576 + 101 * (j + 1) = 1048576 + 101 * j + 101 by omega]
  exact this
set_option maxHeartbeats 4000000 in
set_option maxRecDepth 100000 in
theorem auditDraws_any (A B : List Int) (S O : List (Bytes × Bytes)) (N D : Bytes) (dr : Int) (R : List (List Int)) (o0 o1 o2 o3 oR : Option Addr) (c0 c1 c2 c3 cR : Nat) (w : World) (hW : WAt w o0 o1 o2 o3 A B S O) (hRs : RsAt w oR R) (lA : A.length < 140737488355) (lB : B.length < 140737488355) (lSl : S.length < 140737488355) (lOl : O.length < 140737488355) (lR : R.length < 9223372036854775808) (hN : N.length < 140737488355328) (hD : D.length < 140737488355328) (lS : Short S 140737488355327) (lO : Short O 1048576) :
    Calls Tryd.prog 4 #[.agg #[.slice o0 A.length c0, .slice o1 B.length c1, .slice o2 S.length c2, .slice o3 O.length c3, .string ⟨N.toArray⟩, .string ⟨D.toArray⟩, .int .i64 dr], .slice oR R.length cR] w fun e w' => e = .returned (.bool true) ∧ Below w.heap.size w w' := by
  have QSA := Lib.hid (fun O' dr' p0 p1 p2 p3 e0 e1 e2 e3 w h (hs : Short O' 99999999) => audSettled_any A B S O' N D dr' p0 p1 p2 p3 e0 e1 e2 e3 w h lA hN hD lS hs)
  have QSR := Lib.hid (fun O' dr' p0 p1 p2 p3 e0 e1 e2 e3 w h (hs : Short O' 99999999) => refSettled_any A B S O' N D dr' p0 p1 p2 p3 e0 e1 e2 e3 w h lA hN hD lS hs)
  have QDA := Lib.hid (fun O' dr' M p0 p1 p2 p3 oM e0 e1 e2 e3 cM w h hM (lM : M.length < 9223372036854775808) (hs : Short O' 99999999) => audDraw_any A B S O' N D dr' M p0 p1 p2 p3 oM e0 e1 e2 e3 cM w h hM lA lM hN hD lS hs)
  have QDR := Lib.hid (fun O' dr' M p0 p1 p2 p3 oM e0 e1 e2 e3 cM w h hM (lM : M.length < 9223372036854775808) (hs : Short O' 99999999) => refDraw_any A B S O' N D dr' M p0 p1 p2 p3 oM e0 e1 e2 e3 cM w h hM lA lM hN hD lS hs)
  have HS := Lib.hid size_watch
  have HRS := Lib.hid hRs
  have HW := Lib.hid hW
  have HG0 := Lib.hid (show Grown O dr from ⟨0, by omega, by simpa using lO, .inl rfl⟩)
  clear hRs hW lO lS hN hD
  go_enter Tryd.func4, Tryd.ntmps4
  go_upto_region 1 with (fail)
  generalize hB : w.heap.size = b at *
  refine wp_abs (fun w1 => Below b w w1 ∧ w1.heap[b]? = some (.cells #[.slice o0 A.length c0, .slice o1 B.length c1, .slice o2 S.length c2, .slice o3 O.length c3, .string ⟨N.toArray⟩, .string ⟨D.toArray⟩, .int .i64 dr] 27 (0, 0))) ⟨by rw [← hB]; exact (Below.refl _ _).alloc (Nat.le_refl _) _, by rw [← hB]; exact heap_at rfl⟩ (fun w1 hw1 => ?_)
  have HB := Lib.hid hB
  have B1 := Lib.hid hw1.1
  have HC1 := Lib.hid hw1.2
  have hb1 : b < w1.heap.size := lt_of_heap hw1.2
  clear hw1 hB
  go_upto_region 2 with (first
    | (refine wpList_load_whole rfl 27 _ rfl b _ _ _ _ rfl HC1.out Tryd.underlying27 rfl HS.out ?_)
    | (refine wpList_store_whole rfl rfl 27 _ _ rfl w1.heap.size #[.slice none 0 0, .slice none 0 0, .slice none 0 0, .slice none 0 0, .string ⟨#[]⟩, .string ⟨#[]⟩, .int .i64 0] #[.slice o0 A.length c0, .slice o1 B.length c1, .slice o2 S.length c2, .slice o3 O.length c3, .string ⟨N.toArray⟩, .string ⟨D.toArray⟩, .int .i64 dr] 27 rfl rfl (heap_at rfl) rfl HS.out (seven_one _ _ _ _ _ _ _ rfl rfl rfl rfl rfl rfl rfl) ?_; intro w2 ho hp))
  have b12 : Below w1.heap.size w1 w2 := bel_only ((Below.refl _ _).alloc (Nat.le_refl _) _) ho (Nat.le_refl _)
  have B2 := Lib.hid (B1.out.trans (b12.mono (Nat.le_of_lt hb1)))
  have HX2 := Lib.hid hp
  have hbX : b < w1.heap.size := hb1
  clear b12 ho hp B1 HC1 hb1
  generalize w1.heap.size = X at *
  go_upto_region 3 with (fail)
  go_loopw [15] (fun i wr => ∃ (k : Nat) (O' : List (Bytes × Bytes)) (dr' : Int) (p0 p1 p2 p3 : Option Addr) (e0 e1 e2 e3 : Nat), k ≤ R.length ∧ i = .int .i64 k ∧ wr.heap[X]? = some (.cells #[.slice p0 A.length e0, .slice p1 B.length e1, .slice p2 S.length e2, .slice p3 O'.length e3, .string ⟨N.toArray⟩, .string ⟨D.toArray⟩, .int .i64 dr'] 27 (0, 0)) ∧ WAt wr p0 p1 p2 p3 A B S O' ∧ O'.length < 140737488355 ∧ Grown O' dr' ∧ (Off X p0 A.length ∧ Off X p1 B.length ∧ Off X p2 S.length ∧ Off X p3 O'.length) ∧ Below b w wr) (fun i _ => R.length - (intOf i).toNat)
  case atStart => exact ⟨0, O, dr, o0, o1, o2, o3, c0, c1, c2, c3, by omega, rfl, HX2.out, HW.out.below (HB.out ▸ B2.out), lOl, HG0.out, ⟨HW.out.i0.offX (by have := HB.out; omega), HW.out.i1.offX (by have := HB.out; omega), HW.out.f2.offX (by have := HB.out; omega), HW.out.f3.offX (by have := HB.out; omega)⟩, B2.out⟩
  case round =>
  clear HX2 B2 HG0 lOl
  obtain ⟨k, O', dr', p0, p1, p2, p3, e0, e1, e2, e3, hk, rfl, hx, hw, hl, hg, hoff, hbel⟩ := hrel
  have HOF := Lib.hid hoff
  clear hoff
  have HX := Lib.hid hx
  have WR := Lib.hid hw
  have HG := Lib.hid hg
  have BR := Lib.hid hbel
  have hXr : X < wr.heap.size := lt_of_heap hx
  obtain ⟨M2, hM2⟩ : ∃ M2, M2 = wr.heap.size := ⟨_, rfl⟩
  have HM2 := Lib.hid hM2
  have hXM : X < M2 := by omega
  clear hx hw hg hbel hM2
  have QS1 := Lib.hid (fun w h => QSA.out O' dr' p0 p1 p2 p3 e0 e1 e2 e3 w h HG.out.short)
  have QS2 := Lib.hid (fun w h => QSR.out O' dr' p0 p1 p2 p3 e0 e1 e2 e3 w h HG.out.short)
  generalize settledW A B S O' N D = T at QS1 QS2
  have ET := Lib.hid (show (T != T) = false by cases T <;> rfl)
  have ET2 := Lib.hid (show (T == T) = true by cases T <;> rfl)
  have hwd : ∃ x : BelowT M2 wr, wr.drew = x.w := ⟨⟨wr.drew, by rw [HM2.out]; exact (Below.refl _ _).drew⟩, rfl⟩
  by_cases hlt : k < R.length
  · have dk : decide ((k : Int) < (R.length : Int)) = true := decide_eq_true (by omega)
    have dk2 : decide (k < R.length) = true := decide_eq_true hlt
    have hki : (k : Int) < (R.length : Int) := by omega
    obtain ⟨qr, hqr, hqrb, ob, cb, hqrc, hMk, lMk⟩ := (HRS.out.below (HB.out ▸ BR.out)).cells k hlt
    obtain ⟨M, hM⟩ : ∃ M, M = R[k] := ⟨_, rfl⟩
    rw [← hM] at hqrc hMk lMk
    have HMK := Lib.hid hMk
    subst hqr
    clear hM hMk
    go_upto_region 5 with (fail)
    clear hqrc
    refine Seg.wp_region_segs (fun w' => ∃ x : BelowT M2 wr, w' = x.w) [([0, 2], 1)] [] 3 (by kernel_rfl) (by kernel_rfl) (fun _ _ d _ _ h => by cases d <;> exact h) (hwd) ?_
    simp only [List.map_cons, List.map_nil, Seg.opAt, List.drop_succ_cons, List.drop_zero, Seg.wpSegs, Array.getD_eq_getD_getElem?, List.getElem?_toArray, List.getElem?_cons_succ, List.getElem?_cons_zero, Option.getD_some]
    refine wpQuiet_load_at rfl 27 _ rfl ⟨X, 0, none⟩ [.slice p0 A.length e0, .slice p1 B.length e1, .slice p2 S.length e2, .slice p3 O'.length e3, .string ⟨N.toArray⟩, .string ⟨D.toArray⟩, .int .i64 dr'] _ rfl (fun w' hw' => by obtain ⟨x, rfl⟩ := hw'; exact news_blk (bel_keep x.2 hXM HX.out)) Tryd.underlying27 rfl HS.out ?_
    refine wpQuiet_load_at rfl 27 _ rfl ⟨X, 0, none⟩ [.slice p0 A.length e0, .slice p1 B.length e1, .slice p2 S.length e2, .slice p3 O'.length e3, .string ⟨N.toArray⟩, .string ⟨D.toArray⟩, .int .i64 dr'] _ rfl (fun w' hw' => by obtain ⟨x, rfl⟩ := hw'; exact news_blk (bel_keep x.2 hXM HX.out)) Tryd.underlying27 rfl HS.out ?_
    refine wpQuiet_nil ?_
    intro K hK
    first | go_simp | skip
    go_wp2_with (go_at_call 11; refine (QS1.out wr.drew (WR.out.below (Below.refl _ _).drew)).mono ?_; rintro e w3 ⟨rfl, b3⟩)
    have B3 := Lib.hid (undrew b3)
    refine hK _ _ ⟨⟨w3, by rw [HM2.out]; exact B3.out⟩, rfl⟩ ?_
    clear hK K b3
    repeat (any_goals (first | go_big_quiet_step (fail) | quiet_step (fail)))
    refine wpQuiet_nil ?_
    have et := ET.out
    go_upto_region 7 with (go_at_call 12; refine (QS2.out w3 (WR.out.below B3.out)).mono ?_; rintro e w4 ⟨rfl, b4⟩)
    have B4 := Lib.hid (B3.out.trans (b4.mono B3.out.size))
    have W4 := Lib.hid (WR.out.below B4.out)
    have M4 := Lib.hid (HMK.out.below B4.out)
    have HX4 := Lib.hid (bel_keep B4.out (lt_of_heap HX.out) HX.out)
    have BW4 := Lib.hid (BR.out.trans (B4.out.mono (by omega)))
    have hX4 : X < w4.heap.size := lt_of_heap HX4.out
    clear b4 B3 hwd HX WR BR HMK QS1 QS2 HM2 hXM et ET ET2 B4
    have QD1 := Lib.hid (fun w h hM => (QDA.out O' dr' M p0 p1 p2 p3 ob e0 e1 e2 e3 cb w h hM lMk HG.out.short).mono (fun e w' h => drawGot_all h))
    have QD2 := Lib.hid (fun w h hM => (QDR.out O' dr' M p0 p1 p2 p3 ob e0 e1 e2 e3 cb w h hM lMk HG.out.short).mono (fun e w' h => And.intro (drawGot_all h.1) h.2))
    unfold DGot at QD1 QD2
    obtain ⟨E, hE⟩ : ∃ E, E = drawE A B S O' N D dr' M := ⟨_, rfl⟩
    have HQ := Lib.hid (show E = 0 → (if drawE A B S O' N D dr' M = 0 then A else []) = A ∧ (if drawE A B S O' N D dr' M = 0 then B else []) = B ∧ (if drawE A B S O' N D dr' M = 0 then S else []) = S ∧ (if drawE A B S O' N D dr' M = 0 then N else []) = N ∧ (if drawE A B S O' N D dr' M = 0 then D else []) = D ∧ (if drawE A B S O' N D dr' M = 0 then nextOs A B S O' N D M else []).length = O'.length ∧ Grown (if drawE A B S O' N D dr' M = 0 then nextOs A B S O' N D M else []) (if drawE A B S O' N D dr' M = 0 then dr' + 1 else 0) from fun h => by
      rw [hE] at h
      exact ⟨if_pos h, if_pos h, if_pos h, if_pos h, if_pos h, by rw [if_pos h, length_nextOs], by rw [if_pos h, if_pos h]; exact HG.out.next h⟩)
    have HGK := HG
    have la : (if drawE A B S O' N D dr' M = 0 then A else []).length < 140737488355 := by
      split
      · exact lA
      · simp
    have lb : (if drawE A B S O' N D dr' M = 0 then B else []).length < 140737488355 := by
      split
      · exact lB
      · simp
    have ls : (if drawE A B S O' N D dr' M = 0 then S else []).length < 140737488355 := by
      split
      · exact lSl
      · simp
    have lo : (if drawE A B S O' N D dr' M = 0 then nextOs A B S O' N D M else []).length < 140737488355 := by
      split
      · rw [length_nextOs]; exact hl
      · simp
    generalize (if drawE A B S O' N D dr' M = 0 then A else []) = LA at *
    generalize (if drawE A B S O' N D dr' M = 0 then B else []) = LB at *
    generalize (if drawE A B S O' N D dr' M = 0 then S else []) = LS at *
    generalize (if drawE A B S O' N D dr' M = 0 then nextOs A B S O' N D M else []) = LO at *
    generalize (if drawE A B S O' N D dr' M = 0 then N else []) = RN at *
    generalize (if drawE A B S O' N D dr' M = 0 then D else []) = RD at *
    generalize (if drawE A B S O' N D dr' M = 0 then dr' + 1 else 0) = RR at *
    rw [← hE] at QD1 QD2
    clear hE HG QDA QDR QSA QSR
    have QW := Lib.hid (fun u0 u1 u2 u3 v0 v1 v2 v3 f0 f1 f2 f3 g0 g1 g2 g3 w h1 h2 => sameWatchD_any RR LA LB LS LO RN RD u0 u1 u2 u3 v0 v1 v2 v3 f0 f1 f2 f3 g0 g1 g2 g3 w h1 h2 (by omega) (by omega) (by omega) (by omega))
    go_upto_region 8 with (first
      | (refine wpList_load_whole rfl 27 _ rfl X _ _ _ _ rfl HX4.out Tryd.underlying27 rfl HS.out ?_)
      | (go_at_call 13; refine (QD1.out w4 W4.out M4.out).mono ?_; rintro e w5 ⟨u0, u1, u2, u3, f0, f1, f2, f3, rfl, j0, j1, j2, j3, b5⟩)
      | (refine wpList_store_whole rfl rfl 27 _ _ rfl w5.heap.size #[.slice none 0 0, .slice none 0 0, .slice none 0 0, .slice none 0 0, .string ⟨#[]⟩, .string ⟨#[]⟩, .int .i64 0] #[.slice u0 LA.length f0, .slice u1 LB.length f1, .slice u2 LS.length f2, .slice u3 LO.length f3, .string ⟨RN.toArray⟩, .string ⟨RD.toArray⟩, .int .i64 RR] 27 rfl rfl (heap_at rfl) rfl HS.out (seven_one _ _ _ _ _ _ _ rfl rfl rfl rfl rfl rfl rfl) ?_; intro w6 ho hp))
    have b56 : Below w5.heap.size w5 w6 := bel_only ((Below.refl _ _).alloc (Nat.le_refl _) _) ho (Nat.le_refl _)
    have b46 := b5.trans (b56.mono b5.size)
    have WA6 := Lib.hid ((WAt.mk j0 j1 j2 j3).below b56)
    have HP6 := Lib.hid hp
    have W6 := Lib.hid (W4.out.below b46)
    have M6 := Lib.hid (M4.out.below b46)
    have HX6 := Lib.hid (bel_keep b46 hX4 HX4.out)
    have BW6 := Lib.hid (BW4.out.trans (b46.mono (by omega)))
    have hE6 : w5.heap.size < w6.heap.size := lt_of_heap hp
    have hX6 : X < w6.heap.size := lt_of_heap HX6.out
    have HX6S := Lib.hid hX6
    clear b56 b46 ho hp b5 j0 j1 j2 j3 W4 M4 HX4 BW4 hX4 QD1
    generalize w5.heap.size = E1 at *
    go_upto_region 9 with (first
      | (refine wpList_load_whole rfl 27 _ rfl X _ _ _ _ rfl HX6.out Tryd.underlying27 rfl HS.out ?_)
      | (go_at_call 14; refine (QD2.out w6 W6.out M6.out).mono ?_; rintro e w7 ⟨⟨v0, v1, v2, v3, g0, g1, g2, g3, rfl, j0, j1, j2, j3, b7⟩, hloc⟩; have HLOC := Lib.hid (hloc _ _ _ _ _ _ _ _ _ _ _ _ _ _ _ _ rfl); clear hloc)
      | (refine wpList_store_whole rfl rfl 27 _ _ rfl w7.heap.size #[.slice none 0 0, .slice none 0 0, .slice none 0 0, .slice none 0 0, .string ⟨#[]⟩, .string ⟨#[]⟩, .int .i64 0] #[.slice v0 LA.length g0, .slice v1 LB.length g1, .slice v2 LS.length g2, .slice v3 LO.length g3, .string ⟨RN.toArray⟩, .string ⟨RD.toArray⟩, .int .i64 RR] 27 rfl rfl (heap_at rfl) rfl HS.out (seven_one _ _ _ _ _ _ _ rfl rfl rfl rfl rfl rfl rfl) ?_; intro w8 ho hp))
    have b78 : Below w7.heap.size w7 w8 := bel_only ((Below.refl _ _).alloc (Nat.le_refl _) _) ho (Nat.le_refl _)
    have b68 := b7.trans (b78.mono b7.size)
    have WB8 := Lib.hid ((WAt.mk j0 j1 j2 j3).below b78)
    have WA8 := Lib.hid (WA6.out.below b68)
    have HQ8 := Lib.hid hp
    have HP8 := Lib.hid (bel_keep b68 hE6 HP6.out)
    have HX8 := Lib.hid (bel_keep b68 hX6 HX6.out)
    have W8 := Lib.hid (W6.out.below b68)
    have BW8 := Lib.hid (BW6.out.trans (b68.mono (by omega)))
    have hE8 : E1 < w8.heap.size := lt_of_heap HP8.out
    have hF8 : w7.heap.size < w8.heap.size := lt_of_heap hp
    have hX8 : X < w8.heap.size := lt_of_heap HX8.out
    have hXF : X < w7.heap.size := Nat.lt_of_lt_of_le hX6 b7.size
    clear b78 b68 ho hp b7 j0 j1 j2 j3 W6 M6 HX6 BW6 hX6 hE6 QD2 WA6 HP6
    generalize w7.heap.size = E2 at *
    have QW2 := Lib.hid (QW.out u0 u1 u2 u3 v0 v1 v2 v3 f0 f1 f2 f3 g0 g1 g2 g3 w8 WA8.out WB8.out)
    have EE := Lib.hid (show (E != E) = false by simp)
    have ee := EE.out
    clear QW
    have x0 : w8.cell? ⟨E1, 0, none⟩ = some (.slice u0 LA.length f0) := cell_of_row w8 E1 0 _ _ _ HP8.out
    have x1 : w8.cell? ⟨E1, 1, none⟩ = some (.slice u1 LB.length f1) := cell_of_row w8 E1 1 _ _ _ HP8.out
    have x2 : w8.cell? ⟨E1, 2, none⟩ = some (.slice u2 LS.length f2) := cell_of_row w8 E1 2 _ _ _ HP8.out
    have x3 : w8.cell? ⟨E1, 3, none⟩ = some (.slice u3 LO.length f3) := cell_of_row w8 E1 3 _ _ _ HP8.out
    have x4 : w8.cell? ⟨E1, 4, none⟩ = some (.string ⟨RN.toArray⟩) := cell_of_row w8 E1 4 _ _ _ HP8.out
    have x5 : w8.cell? ⟨E1, 5, none⟩ = some (.string ⟨RD.toArray⟩) := cell_of_row w8 E1 5 _ _ _ HP8.out
    have x6 : w8.cell? ⟨E1, 6, none⟩ = some (.int .i64 RR) := cell_of_row w8 E1 6 _ _ _ HP8.out
    have y0 : w8.cell? ⟨E2, 0, none⟩ = some (.slice v0 LA.length g0) := cell_of_row w8 E2 0 _ _ _ HQ8.out
    have y1 : w8.cell? ⟨E2, 1, none⟩ = some (.slice v1 LB.length g1) := cell_of_row w8 E2 1 _ _ _ HQ8.out
    have y2 : w8.cell? ⟨E2, 2, none⟩ = some (.slice v2 LS.length g2) := cell_of_row w8 E2 2 _ _ _ HQ8.out
    have y3 : w8.cell? ⟨E2, 3, none⟩ = some (.slice v3 LO.length g3) := cell_of_row w8 E2 3 _ _ _ HQ8.out
    have y4 : w8.cell? ⟨E2, 4, none⟩ = some (.string ⟨RN.toArray⟩) := cell_of_row w8 E2 4 _ _ _ HQ8.out
    have y5 : w8.cell? ⟨E2, 5, none⟩ = some (.string ⟨RD.toArray⟩) := cell_of_row w8 E2 5 _ _ _ HQ8.out
    have y6 : w8.cell? ⟨E2, 6, none⟩ = some (.int .i64 RR) := cell_of_row w8 E2 6 _ _ _ HQ8.out
    go_upto_region 11 with (go_at_call 10; refine QW2.out.mono ?_; rintro e w9 ⟨rfl, b9⟩)
    clear x0 x1 x2 x3 x4 x5 x6 y0 y1 y2 y3 y4 y5 y6
    have BW9 := Lib.hid (BW8.out.trans (b9.mono (by omega)))
    have HX9 := Lib.hid (bel_keep b9 hX8 HX8.out)
    have HQ9 := Lib.hid (bel_keep b9 hF8 HQ8.out)
    have WB9 := Lib.hid (WB8.out.below b9)
    have W9 := Lib.hid (W8.out.below b9)
    clear b9 ee EE QW2 BW8 HX8 HQ8 WB8 W8 HP8 WA8 hE8 hF8 hX8
    by_cases h0 : E = 0
    · obtain ⟨rfl, rfl, rfl, rfl, rfl, hgl, hgr⟩ := HQ.out h0
      have HGR := Lib.hid hgr
      have HGL := Lib.hid hgl
      have eE0 : (E == 0) = true := by rw [h0]; rfl
      clear hgr hgl HQ h0
      go_wp2_with (first
        | (refine wpList_load_whole rfl 27 _ rfl E2 _ _ _ _ rfl HQ9.out Tryd.underlying27 rfl HS.out ?_)
        | (refine wpList_store_whole rfl rfl 27 _ _ rfl X _ #[.slice v0 LA.length g0, .slice v1 LB.length g1, .slice v2 LS.length g2, .slice v3 LO.length g3, .string ⟨RN.toArray⟩, .string ⟨RD.toArray⟩, .int .i64 RR] 27 rfl rfl HX9.out rfl HS.out (seven_one _ _ _ _ _ _ _ rfl rfl rfl rfl rfl rfl rfl) ?_; intro w10 ho hp))
      go_roundw
      case rel =>
        have q0 := HLOC.out.1.off HX6S.out HOF.out.1
        have q1 := HLOC.out.2.1.off HX6S.out HOF.out.2.1
        have q2 := HLOC.out.2.2.1.off HX6S.out HOF.out.2.2.1
        have q3 : Off X v3 LO.length := HLOC.out.2.2.2.off HX6S.out (by rw [HGL.out]; exact HOF.out.2.2.2)
        exact ⟨k + 1, LO, RR, v0, v1, v2, v3, g0, g1, g2, g3, by omega, by go_num, hp, ⟨WB9.out.i0.off ho q0, WB9.out.i1.off ho q1, WB9.out.f2.off ho q2, WB9.out.f3.off ho q3⟩, lo, HGR.out, ⟨q0, q1, q2, q3⟩, bel_only BW9.out ho (by omega)⟩
      case measure => simp [intOf]; omega
    · have eE0 : (E == 0) = false := by rw [beq_eq_false_iff_ne]; exact h0
      clear h0 HQ
      go_wp2_with fail
      go_roundw
      case rel => exact ⟨k + 1, O', dr', p0, p1, p2, p3, e0, e1, e2, e3, by omega, by go_num, HX9.out, W9.out, hl, HGK.out, HOF.out, BW9.out⟩
      case measure => simp [intOf]; omega
  · have dk : decide ((k : Int) < (R.length : Int)) = false := decide_eq_false (by omega)
    have dk2 : decide (k < R.length) = false := decide_eq_false hlt
    go_upto_region 14 with (fail)
    refine Seg.wp_region_segs (fun w' => ∃ x : BelowT M2 wr, w' = x.w) [([0, 2], 1)] [] 3 (by kernel_rfl) (by kernel_rfl) (fun _ _ d _ _ h => by cases d <;> exact h) (hwd) ?_
    simp only [List.map_cons, List.map_nil, Seg.opAt, List.drop_succ_cons, List.drop_zero, Seg.wpSegs, Array.getD_eq_getD_getElem?, List.getElem?_toArray, List.getElem?_cons_succ, List.getElem?_cons_zero, Option.getD_some]
    refine wpQuiet_load_at rfl 27 _ rfl ⟨X, 0, none⟩ [.slice p0 A.length e0, .slice p1 B.length e1, .slice p2 S.length e2, .slice p3 O'.length e3, .string ⟨N.toArray⟩, .string ⟨D.toArray⟩, .int .i64 dr'] _ rfl (fun w' hw' => by obtain ⟨x, rfl⟩ := hw'; exact news_blk (bel_keep x.2 hXM HX.out)) Tryd.underlying27 rfl HS.out ?_
    refine wpQuiet_load_at rfl 27 _ rfl ⟨X, 0, none⟩ [.slice p0 A.length e0, .slice p1 B.length e1, .slice p2 S.length e2, .slice p3 O'.length e3, .string ⟨N.toArray⟩, .string ⟨D.toArray⟩, .int .i64 dr'] _ rfl (fun w' hw' => by obtain ⟨x, rfl⟩ := hw'; exact news_blk (bel_keep x.2 hXM HX.out)) Tryd.underlying27 rfl HS.out ?_
    refine wpQuiet_nil ?_
    intro K hK
    first | go_simp | skip
    go_wp2_with (go_at_call 11; refine (QS1.out wr.drew (WR.out.below (Below.refl _ _).drew)).mono ?_; rintro e w3 ⟨rfl, b3⟩)
    have B3 := Lib.hid (undrew b3)
    refine hK _ _ ⟨⟨w3, by rw [HM2.out]; exact B3.out⟩, rfl⟩ ?_
    clear hK K b3
    repeat (any_goals (first | go_big_quiet_step (fail) | quiet_step (fail)))
    refine wpQuiet_nil ?_
    have et := ET2.out
    go_wp2_with (go_at_call 12; refine (QS2.out w3 (WR.out.below B3.out)).mono ?_; rintro e w4 ⟨rfl, b4⟩)
    go_ret
    exact ⟨rfl, by rw [HB.out]; exact (BR.out.trans ((B3.out.trans (b4.mono B3.out.size)).mono (by omega)))⟩
end Go.Proofs.YtlbdcgnpkapncaaDoor
