/-
  Chapter 13, Transfer: fractions reckoned with, by what they are.
-/
import Derived.Test.YtnohcdpnnhmpfaaGreatDoorTrM
import Derived.Test.YtnohcdpnnhmpfaaGreatDoorTrF
import Derived.Test.YtnohcdpnnhmpfaaGreatDoorBytes
namespace Go.Proofs.YtnohcdpnnhmpfaaGreatDoor.TR
set_option linter.unusedVariables false
set_option linter.unusedSimpArgs false
open Go.RowKit ML FRP AU CT FM

theorem whole_V (n : Nat) (w : World) (hn : n < 18446744073709551616) : Calls Tryz.prog 118 #[.int .u64 (n : Int)] w fun e w' => ∃ a b, e = .returned (.agg #[a, b]) ∧ FrV w' (Fr.wh n) a b ∧ Below w.heap.size w w' :=
  (exWhole_any n w hn).mono fun e w' ⟨on, od, cn, cd, he, hf, hb⟩ => ⟨_, _, he, ⟨on, cn, od, cd, rfl, rfl, hf⟩, hb⟩
theorem plus_V {x y : Fr} {a b c d : Value} (w : World) (hx : FrV w x a b) (hy : FrV w y c d) (ox : x.ok) (oy : y.ok) (lx : Lens x) (ly : Lens y) :
    Calls Tryz.prog 48 #[.agg #[a, b], .agg #[c, d]] w fun e w' => ∃ a' b', e = .returned (.agg #[a', b']) ∧ FrV w' (x.add y) a' b' ∧ Below w.heap.size w w' := by
  obtain ⟨oa, ca, ob, cb, rfl, rfl, h1⟩ := hx
  obtain ⟨oc, cc, od, cd, rfl, rfl, h2⟩ := hy
  have := lx.ln; have := lx.ld; have := ly.ln; have := ly.ld
  exact (exFPlus_any x.n x.d y.n y.d oa ob oc od ca cb cc cd w h1 h2 (Nat.mul_pos ox.1 oy.1) (by omega) (by omega) (by omega) (by omega)).mono fun e w' ⟨on, om, cn, cm, he, hf, hb⟩ => ⟨_, _, he, ⟨on, cn, om, cm, rfl, rfl, hf⟩, hb⟩
theorem times_V {x y : Fr} {a b c d : Value} (w : World) (hx : FrV w x a b) (hy : FrV w y c d) (ox : x.ok) (oy : y.ok) (lx : Lens x) (ly : Lens y) :
    Calls Tryz.prog 170 #[.agg #[a, b], .agg #[c, d]] w fun e w' => ∃ a' b', e = .returned (.agg #[a', b']) ∧ FrV w' (x.mul y) a' b' ∧ Below w.heap.size w w' := by
  obtain ⟨oa, ca, ob, cb, rfl, rfl, h1⟩ := hx
  obtain ⟨oc, cc, od, cd, rfl, rfl, h2⟩ := hy
  have := lx.ln; have := lx.ld; have := ly.ln; have := ly.ld
  exact (exFTimes_any x.n x.d y.n y.d oa ob oc od ca cb cc cd w h1 h2 (Nat.mul_pos ox.1 oy.1) (by omega) (by omega) (by omega) (by omega)).mono fun e w' ⟨on, om, cn, cm, he, hf, hb⟩ => ⟨_, _, he, ⟨on, cn, om, cm, rfl, rfl, hf⟩, hb⟩
theorem minus_V {x y : Fr} {a b c d : Value} (w : World) (hx : FrV w x a b) (hy : FrV w y c d) (ox : x.ok) (oy : y.ok) (hle : y.v ≤ x.v) (lx : Lens x) (ly : Lens y) :
    Calls Tryz.prog 132 #[.agg #[a, b], .agg #[c, d]] w fun e w' => ∃ a' b', e = .returned (.agg #[a', b']) ∧ FrV w' (x.sub y) a' b' ∧ Below w.heap.size w w' := by
  obtain ⟨oa, ca, ob, cb, rfl, rfl, h1⟩ := hx
  obtain ⟨oc, cc, od, cd, rfl, rfl, h2⟩ := hy
  have := lx.ln; have := lx.ld; have := ly.ln; have := ly.ld
  exact (exFMinus_any x.n x.d y.n y.d oa ob oc od ca cb cc cd w h1 h2 (Nat.mul_pos ox.1 oy.1) ((Fr.le_iff oy.1 ox.1).1 hle) (by omega) (by omega) (by omega) (by omega)).mono fun e w' ⟨on, om, cn, cm, he, hf, hb⟩ => ⟨_, _, he, ⟨on, cn, om, cm, rfl, rfl, hf⟩, hb⟩
theorem over_V {x y : Fr} {a b c d : Value} (w : World) (hx : FrV w x a b) (hy : FrV w y c d) (ox : x.ok) (hy0 : 0 < y.n) (lx : Lens x) (ly : Lens y) :
    Calls Tryz.prog 119 #[.agg #[a, b], .agg #[c, d]] w fun e w' => ∃ a' b', e = .returned (.agg #[a', b']) ∧ FrV w' (x.div y) a' b' ∧ Below w.heap.size w w' := by
  obtain ⟨oa, ca, ob, cb, rfl, rfl, h1⟩ := hx
  obtain ⟨oc, cc, od, cd, rfl, rfl, h2⟩ := hy
  have := lx.ln; have := lx.ld; have := ly.ln; have := ly.ld
  exact (exFOver_any x.n x.d y.n y.d oa ob oc od ca cb cc cd w h1 h2 (Nat.mul_pos ox.1 hy0) (by omega) (by omega) (by omega) (by omega)).mono fun e w' ⟨on, om, cn, cm, he, hf, hb⟩ => ⟨_, _, he, ⟨on, cn, om, cm, rfl, rfl, hf⟩, hb⟩
/-- which is greater: below 0, 0, above 0 -/
def cmpF (x y : Fr) : Int := NL.cmpI (x.n * y.d) (y.n * x.d)
theorem cmpF_spec {x y : Fr} (ox : 0 < x.d) (oy : 0 < y.d) : (cmpF x y = -1 ∧ x.v < y.v) ∨ (cmpF x y = 0 ∧ x.v = y.v) ∨ (cmpF x y = 1 ∧ y.v < x.v) := by
  unfold cmpF
  rcases Nat.lt_trichotomy (x.n * y.d) (y.n * x.d) with h | h | h
  · exact .inl ⟨NL.cmpI_lt h, (Fr.lt_iff ox oy).2 h⟩
  · refine .inr (.inl ⟨by rw [h]; exact NL.cmpI_eq _, ?_⟩)
    exact Rat.le_antisymm ((Fr.le_iff ox oy).2 (Nat.le_of_eq h)) ((Fr.le_iff oy ox).2 (Nat.le_of_eq h.symm))
  · exact .inr (.inr ⟨NL.cmpI_gt h, (Fr.lt_iff oy ox).2 h⟩)
theorem cmp_V {x y : Fr} {a b c d : Value} (w : World) (hx : FrV w x a b) (hy : FrV w y c d) (lx : Lens x) (ly : Lens y) :
    Calls Tryz.prog 51 #[.agg #[a, b], .agg #[c, d]] w fun e w' => e = .returned (.int .i64 (cmpF x y)) ∧ Below w.heap.size w w' := by
  obtain ⟨oa, ca, ob, cb, rfl, rfl, h1⟩ := hx
  obtain ⟨oc, cc, od, cd, rfl, rfl, h2⟩ := hy
  have := lx.ln; have := lx.ld; have := ly.ln; have := ly.ld
  exact exFCmp_any x.n x.d y.n y.d oa ob oc od ca cb cc cd w h1 h2 (by omega) (by omega) (by omega) (by omega)
/-- a fraction's two texts -/
def txt (x : Fr) : Bytes × Bytes := (strD x.n, strD x.d)
theorem told_V {x : Fr} {a b : Value} (w : World) (hx : FrV w x a b) (lx : Lens x) :
    Calls Tryz.prog 72 #[.agg #[a, b]] w fun e w' => e = .returned (.agg #[.string ⟨(txt x).1.toArray⟩, .string ⟨(txt x).2.toArray⟩]) ∧ Below w.heap.size w w' := by
  obtain ⟨oa, ca, ob, cb, rfl, rfl, h1⟩ := hx
  have := lx.ln; have := lx.ld
  exact countTold_any x.n x.d oa ob ca cb w h1 (by omega) (by omega)
/-- a fraction in a block -/
theorem frac_blk {w : World} {B : Nat} {a b : Value} {t : TypeId} (h : w.heap[B]? = some (.cells #[a, b] t (0, 0))) : ∀ j u, ([a, b] : List Value)[j]? = some u → w.cell? ((⟨B, 0, none⟩ : Addr).add j) = some u := news_blk h
theorem two_one (a b : Value) (h1 : a.oneCell' = true) (h2 : b.oneCell' = true) : (#[a, b] : Array Value).all (·.oneCell') = true := by simp [h1, h2]
set_option maxHeartbeats 1000000 in
set_option maxRecDepth 100000 in
theorem zero_V (w : World) : Calls Tryz.prog 117 #[] w fun e w' => ∃ a b, e = .returned (.agg #[a, b]) ∧ FrV w' zero a b ∧ Below w.heap.size w w' := by
  have QN := Lib.hid (fun w => whole_V 0 w (by decide))
  have HS := Lib.hid size_lfr
  go_enter Tryz.func117, Tryz.ntmps117
  go_upto_region 1 with (fail)
  generalize hB : w.heap.size = B at *
  refine wp_abs (fun w1 => Below B w w1 ∧ w1.heap[B]? = some (.cells #[.slice none 0 0, .slice none 0 0] 90 (0, 0))) ⟨by rw [← hB]; exact (Below.refl _ _).alloc (Nat.le_refl _) _, by rw [← hB]; exact heap_at rfl⟩ (fun w1 hw1 => ?_)
  have B1 := Lib.hid hw1.1
  have HC1 := Lib.hid hw1.2
  have HB := Lib.hid hB
  have hB1 : B < w1.heap.size := lt_of_heap hw1.2
  clear hw1 hB
  go_wp2_with (first
    | (refine wpList_store_whole rfl rfl 90 _ _ rfl B #[.slice none 0 0, .slice none 0 0] #[a, b] 90 rfl rfl HC2.out rfl HS.out (two_one _ _ F2.out.noLimb.2.2.1 F2.out.noLimb.2.2.2) ?_; intro w3 ho hp)
    | (go_at_call 118; refine (QN.out w1).mono ?_; rintro e w2 ⟨a, b, rfl, f2, bel2⟩; have F2 := Lib.hid f2; have B2 := Lib.hid (B1.out.trans (bel2.mono (Nat.le_of_lt hB1))); have HC2 := Lib.hid (bel_keep bel2 hB1 HC1.out); clear f2 bel2))
  have t : Trn 90 0 (some B) w2 w3 := Trn.of_only ho HC2.out (Nat.zero_le _) (fun u hu => by simp at hu; subst hu; rfl)
  refine bodyPost_ret (results_cell_row rfl _ w3 B _ _ _ _ rfl hp Tryz.underlying90 rfl HS.out) rfl ⟨a, b, rfl, t.fr F2.out, by rw [HB.out]; exact bel_only B2.out ho (Nat.le_refl _)⟩
end Go.Proofs.YtnohcdpnnhmpfaaGreatDoor.TR
