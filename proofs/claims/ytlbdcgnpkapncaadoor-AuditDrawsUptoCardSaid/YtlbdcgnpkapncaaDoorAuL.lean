/-
  Chapter 14: AuditBegins.
-/
import Derived.Test.YtlbdcgnpkapncaaDoorAuC
import Derived.Test.YtlbdcgnpkapncaaDoorAuD
namespace Go.Proofs.YtlbdcgnpkapncaaDoor
set_option linter.unusedVariables false
set_option linter.unusedSimpArgs false
open Go.RowKit ML FM AU

/-- a watch in memory -/
structure WAt (w : World) (o0 o1 o2 o3 : Option Addr) (A B : List Int) (S O : List (Bytes × Bytes)) : Prop where
  i0 : IsAt w o0 A
  i1 : IsAt w o1 B
  f2 : FsAt w o2 S
  f3 : FsAt w o3 O
theorem WAt.below {w w1 : World} {o0 o1 o2 o3 : Option Addr} {A B : List Int} {S O : List (Bytes × Bytes)} (h : WAt w o0 o1 o2 o3 A B S O) (hb : Below w.heap.size w w1) : WAt w1 o0 o1 o2 o3 A B S O := ⟨h.i0.below hb, h.i1.below hb, h.f2.below hb, h.f3.below hb⟩
set_option maxHeartbeats 2000000 in
set_option maxRecDepth 100000 in
theorem sameWatch_any (A B : List Int) (S O : List (Bytes × Bytes)) (N D : Bytes) (o0 o1 o2 o3 p0 p1 p2 p3 : Option Addr) (c0 c1 c2 c3 e0 e1 e2 e3 : Nat) (w : World) (hX : WAt w o0 o1 o2 o3 A B S O) (hY : WAt w p0 p1 p2 p3 A B S O) (lA : A.length < 4611686018427387904) (lB : B.length < 4611686018427387904) (lS : S.length < 4611686018427387904) (lO : O.length < 4611686018427387904) :
    Calls Tryd.prog 10 #[.agg #[.slice o0 A.length c0, .slice o1 B.length c1, .slice o2 S.length c2, .slice o3 O.length c3, .string ⟨N.toArray⟩, .string ⟨D.toArray⟩, .int .i64 0], .agg #[.slice p0 A.length e0, .slice p1 B.length e1, .slice p2 S.length e2, .slice p3 O.length e3, .string ⟨N.toArray⟩, .string ⟨D.toArray⟩, .int .i64 0]] w fun e w' => e = .returned (.bool true) ∧ Below w.heap.size w w' := by
  have Q0 := Lib.hid (fun w h1 h2 => sameInts_any o0 p0 A c0 e0 w h1 h2 (by omega))
  have Q1 := Lib.hid (fun w h1 h2 => sameInts_any o1 p1 B c1 e1 w h1 h2 (by omega))
  have Q2 := Lib.hid (fun w h1 h2 => sameFracs_any o2 p2 S c2 e2 w h1 h2 (by omega))
  have Q3 := Lib.hid (fun w h1 h2 => sameFracs_any o3 p3 O c3 e3 w h1 h2 (by omega))
  have HX := Lib.hid hX
  have HY := Lib.hid hY
  clear hX hY lA lB lS lO
  go_enter Tryd.func10, Tryd.ntmps10
  go_upto_region 1 with (fail)
  have BX := Box2.mk' w #[.slice o0 A.length c0, .slice o1 B.length c1, .slice o2 S.length c2, .slice o3 O.length c3, .string ⟨N.toArray⟩, .string ⟨D.toArray⟩, .int .i64 0] #[.slice p0 A.length e0, .slice p1 B.length e1, .slice p2 S.length e2, .slice p3 O.length e3, .string ⟨N.toArray⟩, .string ⟨D.toArray⟩, .int .i64 0] 27
  generalize hB : w.heap.size = b at *
  refine wp_abs (fun w1 => Box2 b w w1 #[.slice o0 A.length c0, .slice o1 B.length c1, .slice o2 S.length c2, .slice o3 O.length c3, .string ⟨N.toArray⟩, .string ⟨D.toArray⟩, .int .i64 0] #[.slice p0 A.length e0, .slice p1 B.length e1, .slice p2 S.length e2, .slice p3 O.length e3, .string ⟨N.toArray⟩, .string ⟨D.toArray⟩, .int .i64 0] 27) BX (fun w1 B1 => ?_)
  have x0 : w1.cell? ⟨b, 0, none⟩ = some (.slice o0 A.length c0) := cell_of_row w1 b 0 _ _ _ B1.x
  have x1 : w1.cell? ⟨b, 1, none⟩ = some (.slice o1 B.length c1) := cell_of_row w1 b 1 _ _ _ B1.x
  have x2 : w1.cell? ⟨b, 2, none⟩ = some (.slice o2 S.length c2) := cell_of_row w1 b 2 _ _ _ B1.x
  have x3 : w1.cell? ⟨b, 3, none⟩ = some (.slice o3 O.length c3) := cell_of_row w1 b 3 _ _ _ B1.x
  have x4 : w1.cell? ⟨b, 4, none⟩ = some (.string ⟨N.toArray⟩) := cell_of_row w1 b 4 _ _ _ B1.x
  have x5 : w1.cell? ⟨b, 5, none⟩ = some (.string ⟨D.toArray⟩) := cell_of_row w1 b 5 _ _ _ B1.x
  have x6 : w1.cell? ⟨b, 6, none⟩ = some (.int .i64 0) := cell_of_row w1 b 6 _ _ _ B1.x
  have y0 : w1.cell? ⟨b + 1, 0, none⟩ = some (.slice p0 A.length e0) := cell_of_row w1 (b + 1) 0 _ _ _ B1.y
  have y1 : w1.cell? ⟨b + 1, 1, none⟩ = some (.slice p1 B.length e1) := cell_of_row w1 (b + 1) 1 _ _ _ B1.y
  have y2 : w1.cell? ⟨b + 1, 2, none⟩ = some (.slice p2 S.length e2) := cell_of_row w1 (b + 1) 2 _ _ _ B1.y
  have y3 : w1.cell? ⟨b + 1, 3, none⟩ = some (.slice p3 O.length e3) := cell_of_row w1 (b + 1) 3 _ _ _ B1.y
  have y4 : w1.cell? ⟨b + 1, 4, none⟩ = some (.string ⟨N.toArray⟩) := cell_of_row w1 (b + 1) 4 _ _ _ B1.y
  have y5 : w1.cell? ⟨b + 1, 5, none⟩ = some (.string ⟨D.toArray⟩) := cell_of_row w1 (b + 1) 5 _ _ _ B1.y
  have y6 : w1.cell? ⟨b + 1, 6, none⟩ = some (.int .i64 0) := cell_of_row w1 (b + 1) 6 _ _ _ B1.y
  have hb1 : b + 1 < w1.heap.size := lt_of_heap B1.y
  have BEL := Lib.hid B1.bel
  have HB := Lib.hid hB
  have HX1 := Lib.hid (HX.out.below (by rw [hB]; exact B1.bel))
  have HY1 := Lib.hid (HY.out.below (by rw [hB]; exact B1.bel))
  clear BX hB B1 HX HY
  go_wp2_with (first
    | (go_at_call 34; (with_reducible refine (Q0.out w1 HX1.out.i0 HY1.out.i0).mono ?_); rintro e w2 ⟨rfl, bb⟩; have HX2 := Lib.hid (HX1.out.below bb); have HY2 := Lib.hid (HY1.out.below bb); have BEL1 := Lib.hid (BEL.out.trans (bb.mono (by omega))); replace x1 := (bb.cell (show b < w1.heap.size by omega)).trans x1; replace y1 := (bb.cell (show b + 1 < w1.heap.size by omega)).trans y1; replace x2 := (bb.cell (show b < w1.heap.size by omega)).trans x2; replace y2 := (bb.cell (show b + 1 < w1.heap.size by omega)).trans y2; replace x3 := (bb.cell (show b < w1.heap.size by omega)).trans x3; replace y3 := (bb.cell (show b + 1 < w1.heap.size by omega)).trans y3; replace x4 := (bb.cell (show b < w1.heap.size by omega)).trans x4; replace y4 := (bb.cell (show b + 1 < w1.heap.size by omega)).trans y4; replace x5 := (bb.cell (show b < w1.heap.size by omega)).trans x5; replace y5 := (bb.cell (show b + 1 < w1.heap.size by omega)).trans y5; replace x6 := (bb.cell (show b < w1.heap.size by omega)).trans x6; replace y6 := (bb.cell (show b + 1 < w1.heap.size by omega)).trans y6; replace hb1 : b + 1 < w2.heap.size := Nat.lt_of_lt_of_le hb1 bb.size; clear bb)
    | (go_at_call 34; (with_reducible refine (Q1.out w2 HX2.out.i1 HY2.out.i1).mono ?_); rintro e w3 ⟨rfl, bb⟩; have HX3 := Lib.hid (HX2.out.below bb); have HY3 := Lib.hid (HY2.out.below bb); have BEL2 := Lib.hid (BEL1.out.trans (bb.mono (by omega))); replace x2 := (bb.cell (show b < w2.heap.size by omega)).trans x2; replace y2 := (bb.cell (show b + 1 < w2.heap.size by omega)).trans y2; replace x3 := (bb.cell (show b < w2.heap.size by omega)).trans x3; replace y3 := (bb.cell (show b + 1 < w2.heap.size by omega)).trans y3; replace x4 := (bb.cell (show b < w2.heap.size by omega)).trans x4; replace y4 := (bb.cell (show b + 1 < w2.heap.size by omega)).trans y4; replace x5 := (bb.cell (show b < w2.heap.size by omega)).trans x5; replace y5 := (bb.cell (show b + 1 < w2.heap.size by omega)).trans y5; replace x6 := (bb.cell (show b < w2.heap.size by omega)).trans x6; replace y6 := (bb.cell (show b + 1 < w2.heap.size by omega)).trans y6; replace hb1 : b + 1 < w3.heap.size := Nat.lt_of_lt_of_le hb1 bb.size; clear bb)
    | (go_at_call 35; (with_reducible refine (Q2.out w3 HX3.out.f2 HY3.out.f2).mono ?_); rintro e w4 ⟨rfl, bb⟩; have HX4 := Lib.hid (HX3.out.below bb); have HY4 := Lib.hid (HY3.out.below bb); have BEL3 := Lib.hid (BEL2.out.trans (bb.mono (by omega))); replace x3 := (bb.cell (show b < w3.heap.size by omega)).trans x3; replace y3 := (bb.cell (show b + 1 < w3.heap.size by omega)).trans y3; replace x4 := (bb.cell (show b < w3.heap.size by omega)).trans x4; replace y4 := (bb.cell (show b + 1 < w3.heap.size by omega)).trans y4; replace x5 := (bb.cell (show b < w3.heap.size by omega)).trans x5; replace y5 := (bb.cell (show b + 1 < w3.heap.size by omega)).trans y5; replace x6 := (bb.cell (show b < w3.heap.size by omega)).trans x6; replace y6 := (bb.cell (show b + 1 < w3.heap.size by omega)).trans y6; replace hb1 : b + 1 < w4.heap.size := Nat.lt_of_lt_of_le hb1 bb.size; clear bb)
    | (go_at_call 35; (with_reducible refine (Q3.out w4 HX4.out.f3 HY4.out.f3).mono ?_); rintro e w5 ⟨rfl, bb⟩; have HX5 := Lib.hid (HX4.out.below bb); have HY5 := Lib.hid (HY4.out.below bb); have BEL4 := Lib.hid (BEL3.out.trans (bb.mono (by omega))); replace x4 := (bb.cell (show b < w4.heap.size by omega)).trans x4; replace y4 := (bb.cell (show b + 1 < w4.heap.size by omega)).trans y4; replace x5 := (bb.cell (show b < w4.heap.size by omega)).trans x5; replace y5 := (bb.cell (show b + 1 < w4.heap.size by omega)).trans y5; replace x6 := (bb.cell (show b < w4.heap.size by omega)).trans x6; replace y6 := (bb.cell (show b + 1 < w4.heap.size by omega)).trans y6; replace hb1 : b + 1 < w5.heap.size := Nat.lt_of_lt_of_le hb1 bb.size; clear bb))
  go_ret
  exact ⟨rfl, by rw [HB.out]; exact BEL4.out⟩
set_option maxHeartbeats 2000000 in
set_option maxRecDepth 100000 in
theorem auditBegins_any (T W : List Int) (N D : Bytes) (oT oW : Option Addr) (cT cW : Nat) (w : World) (hT : IsAt w oT T) (hW : IsAt w oW W) (lT : T.length < 9223372036854775808) (lW : W.length < 9223372036854775808) (lcW : W.length ≤ cW) (hN : N.length < 140737488355328) (hD : D.length < 140737488355328) :
    Calls Tryd.prog 3 #[.slice oT T.length cT, .slice oW W.length cW, .agg #[.string ⟨N.toArray⟩, .string ⟨D.toArray⟩]] w fun e w' => e = .returned (.bool true) ∧ Below w.heap.size w w' := by
  have QA := Lib.hid (fun w h1 h2 => audBegin_any T W N D oT oW cT cW w h1 h2 lT lW hN hD)
  have QB := Lib.hid (fun w h1 h2 => refBegin_any T W N D oT oW cT cW w h1 h2 lT lW lcW hN hD)
  have hP : (begP T W N D).length ≤ 1000 := by
    unfold begP
    by_cases h : begE T W N D = 0
    · rw [if_pos h]
      have hn : ¬ (T.length < 2 ∨ 12 < T.length ∨ W.length < 1 ∨ T.length ≤ W.length) := fun hc => by
        unfold begE at h; rw [if_pos hc] at h; cases h
      have h1 := length_preP W T.length W.length
      have h2 : W.length * T.length ≤ 12 * 12 := Nat.mul_le_mul (by omega) (by omega)
      omega
    · rw [if_neg h]; simp
  have lA : ((begP T W N D).map (·.1)).length ≤ 1000 := by rw [List.length_map]; exact hP
  have lB : ((begP T W N D).map (·.2)).length ≤ 1000 := by rw [List.length_map]; exact hP
  have lS : ((begP T W N D).map (shareOf T)).length ≤ 1000 := by rw [List.length_map]; exact hP
  have lO : ((begP T W N D).map (fun _ => wholeT)).length ≤ 1000 := by rw [List.length_map]; exact hP
  unfold BegGot WGot at QA QB
  generalize (begP T W N D).map (·.1) = LA at *
  generalize (begP T W N D).map (·.2) = LB at *
  generalize (begP T W N D).map (shareOf T) = LS at *
  generalize (begP T W N D).map (fun _ => wholeT) = LO at *
  generalize (if begE T W N D = 0 then N else []) = RN at *
  generalize (if begE T W N D = 0 then D else []) = RD at *
  generalize begE T W N D = E at *
  have QW := Lib.hid (fun o0 o1 o2 o3 p0 p1 p2 p3 c0 c1 c2 c3 e0 e1 e2 e3 w h1 h2 => sameWatch_any LA LB LS LO RN RD o0 o1 o2 o3 p0 p1 p2 p3 c0 c1 c2 c3 e0 e1 e2 e3 w h1 h2 (by omega) (by omega) (by omega) (by omega))
  have HS := Lib.hid size_watch
  have HT := Lib.hid hT
  have HW := Lib.hid hW
  have EE := Lib.hid (show (E == E) = true by simp)
  clear hP lA lB lS lO hT hW lT lW lcW hN hD
  go_enter Tryd.func3, Tryd.ntmps3
  go_upto_region 1 with (fail)
  generalize hB : w.heap.size = b at *
  refine wp_abs (fun w1 => Below b w w1 ∧ w1.heap[b]? = some (.cells #[.string ⟨N.toArray⟩, .string ⟨D.toArray⟩] 24 (0, 0))) ⟨by rw [← hB]; exact (Below.refl _ _).alloc (Nat.le_refl _) _, by rw [← hB]; exact heap_at rfl⟩ (fun w1 hw1 => ?_)
  have HB := Lib.hid hB
  have B1 := Lib.hid hw1.1
  have HC1 := Lib.hid hw1.2
  have a0 : w1.cell? ⟨b, 0, none⟩ = some (.string ⟨N.toArray⟩) := cell_of_row w1 b 0 _ _ _ hw1.2
  have a1 : w1.cell? ⟨b, 1, none⟩ = some (.string ⟨D.toArray⟩) := cell_of_row w1 b 1 _ _ _ hw1.2
  have hb1 : b < w1.heap.size := lt_of_heap hw1.2
  clear hw1 hB
  go_upto_region 2 with (first
    | (go_at_call 8; refine (QA.out w1 (HT.out.below (HB.out ▸ B1.out)) (HW.out.below (HB.out ▸ B1.out))).mono ?_; rintro e w2 ⟨o0, o1, o2, o3, c0, c1, c2, c3, rfl, i0, i1, i2, i3, b2⟩)
    | (refine wpList_store_whole rfl rfl 27 _ _ rfl w2.heap.size #[.slice none 0 0, .slice none 0 0, .slice none 0 0, .slice none 0 0, .string ⟨#[]⟩, .string ⟨#[]⟩, .int .i64 0] #[.slice o0 LA.length c0, .slice o1 LB.length c1, .slice o2 LS.length c2, .slice o3 LO.length c3, .string ⟨RN.toArray⟩, .string ⟨RD.toArray⟩, .int .i64 0] 27 rfl rfl (heap_at rfl) rfl HS.out (seven_one _ _ _ _ _ _ _ rfl rfl rfl rfl rfl rfl rfl) ?_; intro w3 ho3 hp3))
  have b23 : Below w2.heap.size w2 w3 := bel_only ((Below.refl _ _).alloc (Nat.le_refl _) _) ho3 (Nat.le_refl _)
  have HA3 := Lib.hid ((WAt.mk i0 i1 i2 i3).below b23)
  have b13 := b2.trans (b23.mono b2.size)
  have B3 := Lib.hid (B1.out.trans (b13.mono (Nat.le_of_lt hb1)))
  have HC3 := Lib.hid (bel_keep b13 hb1 HC1.out)
  have HP3 := Lib.hid hp3
  have a0' : w3.cell? ⟨b, 0, none⟩ = some (.string ⟨N.toArray⟩) := cell_of_row w3 b 0 _ _ _ HC3.out
  have a1' : w3.cell? ⟨b, 1, none⟩ = some (.string ⟨D.toArray⟩) := cell_of_row w3 b 1 _ _ _ HC3.out
  have hb3 : b < w3.heap.size := lt_of_heap HC3.out
  have hE3 : w2.heap.size < w3.heap.size := lt_of_heap hp3
  clear a0 a1 hb1 b2 i0 i1 i2 i3 b23 b13 ho3 hp3 B1 HC1
  generalize w2.heap.size = E1 at *
  go_upto_region 3 with (first
    | (go_at_call 9; refine (QB.out w3 (HT.out.below (HB.out ▸ B3.out)) (HW.out.below (HB.out ▸ B3.out))).mono ?_; rintro e w4 ⟨p0, p1, p2, p3, e0, e1, e2, e3, rfl, j0, j1, j2, j3, b4⟩)
    | (refine wpList_store_whole rfl rfl 27 _ _ rfl w4.heap.size #[.slice none 0 0, .slice none 0 0, .slice none 0 0, .slice none 0 0, .string ⟨#[]⟩, .string ⟨#[]⟩, .int .i64 0] #[.slice p0 LA.length e0, .slice p1 LB.length e1, .slice p2 LS.length e2, .slice p3 LO.length e3, .string ⟨RN.toArray⟩, .string ⟨RD.toArray⟩, .int .i64 0] 27 rfl rfl (heap_at rfl) rfl HS.out (seven_one _ _ _ _ _ _ _ rfl rfl rfl rfl rfl rfl rfl) ?_; intro w5 ho5 hp5))
  have b45 : Below w4.heap.size w4 w5 := bel_only ((Below.refl _ _).alloc (Nat.le_refl _) _) ho5 (Nat.le_refl _)
  have b35 := b4.trans (b45.mono b4.size)
  have HB5 := Lib.hid ((WAt.mk j0 j1 j2 j3).below b45)
  have HA5 := Lib.hid (HA3.out.below b35)
  have B5 := Lib.hid (B3.out.trans (b35.mono (Nat.le_of_lt hb3)))
  have hX5 := bel_keep b35 hE3 HP3.out
  have hE1 : E1 < w5.heap.size := lt_of_heap hX5
  have hE2 : w4.heap.size < w5.heap.size := lt_of_heap hp5
  clear a0' a1' hb3 hE3 b4 j0 j1 j2 j3 b45 b35 ho5 B3 HC3 HP3 HA3
  generalize w4.heap.size = E2 at *
  have x0 : w5.cell? ⟨E1, 0, none⟩ = some (.slice o0 LA.length c0) := cell_of_row w5 E1 0 _ _ _ hX5
  have x1 : w5.cell? ⟨E1, 1, none⟩ = some (.slice o1 LB.length c1) := cell_of_row w5 E1 1 _ _ _ hX5
  have x2 : w5.cell? ⟨E1, 2, none⟩ = some (.slice o2 LS.length c2) := cell_of_row w5 E1 2 _ _ _ hX5
  have x3 : w5.cell? ⟨E1, 3, none⟩ = some (.slice o3 LO.length c3) := cell_of_row w5 E1 3 _ _ _ hX5
  have x4 : w5.cell? ⟨E1, 4, none⟩ = some (.string ⟨RN.toArray⟩) := cell_of_row w5 E1 4 _ _ _ hX5
  have x5 : w5.cell? ⟨E1, 5, none⟩ = some (.string ⟨RD.toArray⟩) := cell_of_row w5 E1 5 _ _ _ hX5
  have x6 : w5.cell? ⟨E1, 6, none⟩ = some (.int .i64 0) := cell_of_row w5 E1 6 _ _ _ hX5
  have y0 : w5.cell? ⟨E2, 0, none⟩ = some (.slice p0 LA.length e0) := cell_of_row w5 E2 0 _ _ _ hp5
  have y1 : w5.cell? ⟨E2, 1, none⟩ = some (.slice p1 LB.length e1) := cell_of_row w5 E2 1 _ _ _ hp5
  have y2 : w5.cell? ⟨E2, 2, none⟩ = some (.slice p2 LS.length e2) := cell_of_row w5 E2 2 _ _ _ hp5
  have y3 : w5.cell? ⟨E2, 3, none⟩ = some (.slice p3 LO.length e3) := cell_of_row w5 E2 3 _ _ _ hp5
  have y4 : w5.cell? ⟨E2, 4, none⟩ = some (.string ⟨RN.toArray⟩) := cell_of_row w5 E2 4 _ _ _ hp5
  have y5 : w5.cell? ⟨E2, 5, none⟩ = some (.string ⟨RD.toArray⟩) := cell_of_row w5 E2 5 _ _ _ hp5
  have y6 : w5.cell? ⟨E2, 6, none⟩ = some (.int .i64 0) := cell_of_row w5 E2 6 _ _ _ hp5
  have ee := EE.out
  have QW2 := Lib.hid (QW.out o0 o1 o2 o3 p0 p1 p2 p3 c0 c1 c2 c3 e0 e1 e2 e3 w5 HA5.out HB5.out)
  clear hX5 hp5 QA QB QW EE
  go_wp2_with (go_at_call 10; refine QW2.out.mono ?_; rintro e w6 ⟨rfl, b6⟩)
  go_ret
  exact ⟨rfl, by rw [HB.out]; exact B5.out.trans (b6.mono (by have := B5.out.size; have := HB.out; omega))⟩
end Go.Proofs.YtlbdcgnpkapncaaDoor
