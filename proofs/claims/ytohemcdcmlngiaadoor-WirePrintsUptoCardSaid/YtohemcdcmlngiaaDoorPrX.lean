/-
  Chapter 4, WirePrints: wire.write, walked. Printed by tools/genpr.py.
-/
import Derived.Test.YtohemcdcmlngiaaDoorPrW
namespace Go.Proofs.YtohemcdcmlngiaaDoor.PR
set_option linter.unusedVariables false
set_option linter.unusedSimpArgs false
open Go.RowKit ML FM

/-- what the variable of Go's library holds that is read -/
structure PVars (w : World) : Prop where
  pow : Lib.TabIs Tryd.prog w "internal/strconv.uint64pow10" .u64 Lib.pow10Tab
theorem PVars.below {w w' : World} (h : PVars w) (hb : Below w.heap.size w w') : PVars w' := by
  have hg1 : Tryd.prog.globalNamed "internal/strconv.uint64pow10" = some 2 := by kernel_rfl
  exact ⟨Go.Joins.var_stays hg1 h.pow hb (Nat.le_refl _)⟩
theorem itoaS_any (n : Nat) (w : World) (hv : PVars w) (hn : n < 9223372036854775807) : Calls Tryd.prog 26 #[.int .i64 (n : Int)] w fun e w' => e = .returned (.string ⟨(strD n).toArray⟩) ∧ Below w.heap.size w w' := by
  refine (Tryd.strconv_Itoa n (by omega) (by omega) w hv.pow).mono ?_
  rintro e w' ⟨rfl, k, os, rfl⟩
  exact ⟨by rw [itoa_strD], below_grow w k os⟩
set_option maxHeartbeats 8000000 in
set_option maxRecDepth 100000 in
theorem writeLeaf_any (w0 : World) (hv : PVars w0) (t : Bytes) (oa : Option Addr) (n cap : Nat) (I : Inf) (hd : I.dep = 0) (hz : I.siz = (strD t.length).length + 1 + t.length) (hx : I.txt = strD t.length ++ [58] ++ t) (ht : t.length ≤ 1048576) (above b : Nat) (S : Bytes) (w : World) (hb : Below w0.heap.size w0 w) (hB : Bd w0.heap.size b S w) (ha : above ≤ 12) (hl : S.length ≤ 1048600) :
    Calls Tryd.prog 21 #[.pointer (some ⟨b, 0, none⟩), .agg #[.bool true, .string ⟨t.toArray⟩, .slice oa n cap], .int .i64 (above : Int)] w (WrGot I above b w0.heap.size S w) := by
  have HB0 := Lib.hid hb
  have HBD := Lib.hid hB
  have HOK := Lib.hid (show wrOk I above S.length ↔ S.length + ((strD t.length).length + 1 + t.length) ≤ 1048576 by unfold wrOk; rw [hd, hz]; omega)
  have HX := Lib.hid (show S ++ I.txt = S ++ strD t.length ++ [58] ++ t by rw [hx]; simp)
  have QI := Lib.hid (fun w (h : Below w0.heap.size w0 w) => itoaS_any t.length w (hv.below h) (by omega))
  have hsl := strD_len t.length
  have QS := Lib.hid (fun w h hs => wStr_any w0.heap.size b S (strD t.length) w h (by omega) (by omega) hs)
  have QB := Lib.hid (fun w h hs => wByte_any w0.heap.size b (S ++ strD t.length) 58 58 rfl w h (by rw [List.length_append]; omega) hs)
  have QT := Lib.hid (fun w h hs => wStr_any w0.heap.size b (S ++ strD t.length ++ [58]) t w h (by simp; omega) (by omega) hs)
  have hlen : (S ++ strD t.length ++ [58] ++ t).length = S.length + ((strD t.length).length + 1 + t.length) := by simp; omega
  have HLN := Lib.hid hlen
  clear hb hB hd hz hx hlen
  go_enter Tryd.func21, Tryd.ntmps21
  go_upto_region 1 with (fail)
  generalize hB : w.heap.size = B at *
  refine wp_abs (fun w1 => Below B w w1 ∧ w1.heap[B]? = some (.cells #[.bool true, .string ⟨t.toArray⟩, .slice oa n cap] 24 (0, 0))) ⟨by rw [← hB]; exact (Below.refl _ _).alloc (Nat.le_refl _) _, by rw [← hB]; exact heap_at rfl⟩ (fun w1 hw1 => ?_)
  have HB := Lib.hid hB
  have hs0 : w0.heap.size ≤ B := by rw [← hB]; exact HB0.out.size
  have hbb : Below w.heap.size w w1 := hB.symm ▸ hw1.1
  have P1 := Lib.hid (hw1.1.mono hs0)
  have K1 := Lib.hid (KT.of_below hbb)
  have X1 := Lib.hid hw1.2
  have BD1 := Lib.hid (HBD.out.below hbb)
  have hs1 : w0.heap.size ≤ w1.heap.size := by have := hbb.size; omega
  have k0 : w1.cell? ⟨B, 0, none⟩ = some (.bool true) := cell_of_row w1 B 0 _ _ _ hw1.2
  have k1 : w1.cell? ⟨B, 1, none⟩ = some (.string ⟨t.toArray⟩) := cell_of_row w1 B 1 _ _ _ hw1.2
  clear hB hw1 hbb
  have Q1 := Lib.hid (QI.out w1 (HB0.out.trans P1.out))
  go_upto_region 3 with (first
        | go_big_skip
        | (go_at_call 26; refine (Q1.out).mono ?_; rintro e w2 ⟨rfl, b2⟩; dsimp only; have P2 := Lib.hid (P1.out.trans (b2.mono hs1)); have K2 := Lib.hid (K1.out.trans (KT.of_below b2)); have X2 := Lib.hid (bel_keep b2 (lt_of_heap X1.out) X1.out); have BD2 := Lib.hid (BD1.out.below b2); have hs2 := Nat.le_trans hs1 b2.size; clear b2)
        | (go_at_call 34; refine ((QS.out w2 BD2.out hs2)).mono ?_; rintro e w3 ⟨⟨vv, rfl⟩, d3, b3, kt3⟩; dsimp only; have P3 := Lib.hid (P2.out.trans b3); have K3 := Lib.hid (K2.out.trans kt3); have X3 := Lib.hid (kt3 B _ _ _ (by decide) (by decide) X2.out); have BD3 := Lib.hid d3; have hs3 := Nat.le_trans hs2 b3.size; clear b3 kt3 d3))
  go_upto_region 4 with (first
        | go_big_skip
        | (go_at_call 35; refine ((QB.out w3 BD3.out hs3)).mono ?_; rintro e w4 ⟨rfl, d4, b4, kt4⟩; dsimp only; have P4 := Lib.hid (P3.out.trans b4); have K4 := Lib.hid (K3.out.trans kt4); have X4 := Lib.hid (kt4 B _ _ _ (by decide) (by decide) X3.out); have BD4 := Lib.hid d4; have hs4 := Nat.le_trans hs3 b4.size; clear b4 kt4 d4))
  have k4 : w4.cell? ⟨B, 1, none⟩ = some (.string ⟨t.toArray⟩) := cell_of_row w4 B 1 _ _ _ X4.out
  clear k0 k1 P1 K1 X1 BD1 P2 K2 X2 BD2 P3 K3 X3 BD3 Q1 QI QS QB
  go_upto_region 14 with (first
        | go_big_skip
        | (go_at_call 34; refine ((QT.out w4 BD4.out hs4)).mono ?_; rintro e w5 ⟨⟨vv, rfl⟩, d5, b5, kt5⟩; dsimp only; have P5 := Lib.hid (P4.out.trans b5); have K5 := Lib.hid (K4.out.trans kt5); have X5 := Lib.hid (kt5 B _ _ _ (by decide) (by decide) X4.out); have BD5 := Lib.hid d5; have hs5 := Nat.le_trans hs4 b5.size; clear b5 kt5 d5))
  have QL := Lib.hid (bLen_any _ _ _ w5 BD5.out)
  rw [HLN.out] at QL
  by_cases hok : S.length + ((strD t.length).length + 1 + t.length) ≤ 1048576
  case pos =>
    generalize S.length + ((strD t.length).length + 1 + t.length) = m at *
    have d1 : decide ((1048576 : Int) < (m : Int)) = false := decide_eq_false (by omega)
    have d2 : decide (1048576 < m) = false := decide_eq_false (by omega)
    go_wp2_with (first
        | go_big_skip
        | (go_at_call 36; refine (QL.out).mono ?_; rintro e w6 ⟨rfl, rfl⟩; dsimp only))
    go_end0
    exact ⟨P5.out, K5.out, by rw [if_pos (HOK.out.2 hok)]; exact ⟨rfl, by rw [HX.out]; exact BD5.out⟩⟩
  generalize S.length + ((strD t.length).length + 1 + t.length) = m at *
  have d1 : decide ((1048576 : Int) < (m : Int)) = true := decide_eq_true (by omega)
  have d2 : decide (1048576 < m) = true := decide_eq_true (by omega)
  go_wp2_with (first
        | go_big_skip
        | (go_at_call 36; refine (QL.out).mono ?_; rintro e w6 ⟨rfl, rfl⟩; dsimp only))
  exact ⟨rfl, P5.out, K5.out, by rw [if_neg (fun h => hok (HOK.out.1 h))]⟩
end Go.Proofs.YtohemcdcmlngiaaDoor.PR
