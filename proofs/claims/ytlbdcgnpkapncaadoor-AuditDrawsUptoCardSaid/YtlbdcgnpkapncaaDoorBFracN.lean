/-
  The reference's Is, Read (picked out of other templates by tools/mkaudit.sh)
  The reference's fractions: Lowest, Whole; the law's read.
  The reference's Plus, Times, Minus, Over, Order. Printed by tools/genfrac.py.
-/
import Derived.Test.YtlbdcgnpkapncaaDoorBLParse
import Derived.Test.YtlbdcgnpkapncaaDoorBRef
import Derived.Test.YtlbdcgnpkapncaaDoorBMem
import Derived.Deep.QuietTactic
import Derived.BigQuiet
namespace Go.Proofs.YtlbdcgnpkapncaaDoor
set_option linter.unusedVariables false
open Go.RowKit ML FM ND
set_option maxHeartbeats 2000000 in
set_option maxRecDepth 100000 in
theorem refIs_any (F : Bytes) (w : World) (hF : F.length < 140737488355328) :
    Calls Tryd.prog 77 #[.string ⟨F.toArray⟩] w fun e w' => e = .returned (.bool (numB F)) ∧ w' = w := by
  go_enter Tryd.func77, Tryd.ntmps77
  by_cases hne : F = []
  · subst hne
    have hb := Lib.hid (show numB [] = false from rfl)
    go_wp2_with fail
    go_ret
    rw [hb.out]
    exact ⟨rfl, rfl⟩
  have hpos : 0 < F.length := List.length_pos_iff.2 hne
  have hnz : ((F.length : Int) == 0) = false := by rw [beq_eq_false_iff_ne]; omega
  have HNE := Lib.hid hne
  clear hne
  go_upto_region 4 with (fail)
  go_loopw [3] (fun j wi => ∃ k : Nat, k ≤ F.length ∧ j = .int .i64 k ∧ (∀ i, i < k → 48 ≤ byteN F i ∧ byteN F i ≤ 57) ∧ wi = w) (fun j _ => F.length - (intOf j).toNat)
  case atStart => exact ⟨0, by omega, rfl, fun i hi => by omega, rfl⟩
  case round =>
  obtain ⟨k, hk, rfl, hpre, hw⟩ := hrel
  replace hw := hw.symm
  subst hw
  by_cases hlt : k < F.length
  · have hdj : decide ((k : Int) < (F.length : Int)) = true := by simp; omega
    have hj0 : (0 : Int) ≤ k := by omega
    have hjl2 : (k : Int) < ((F.length : Nat) : Int) := by omega
    have hs0 : ∀ h, (((ByteArray.mk F.toArray)[k]'h).toNat : Int) = (byteN F k : Int) := fun h => strBN F k h
    have hbad := Lib.hid (fun (h : ¬ (48 ≤ byteN F k ∧ byteN F k ≤ 57)) => (show numB F = false from numB_false F (fun h2 => h (digs_byteN h2.2.1 k hlt))))
    have hgood := Lib.hid (fun (h : 48 ≤ byteN F k ∧ byteN F k ≤ 57) (i : Nat) (hi : i < k + 1) => (show 48 ≤ byteN F i ∧ byteN F i ≤ 57 by
      by_cases he : i = k
      · rw [he]; exact h
      · exact hpre i (by omega)))
    clear hpre
    generalize byteN F k = c at *
    by_cases h1 : c < 48
    · have e1 : (c : Int) < 48 := by omega
      have hb := Lib.hid (hbad.out (by omega))
      clear hbad hgood
      go_wp2_with fail
      go_ret
      rw [hb.out]
      exact ⟨rfl, rfl⟩
    by_cases h2 : 57 < c
    · have e1 : ¬ (c : Int) < 48 := by omega
      have e2 : (57 : Int) < c := by omega
      have hb := Lib.hid (hbad.out (by omega))
      clear hbad hgood
      go_wp2_with fail
      go_ret
      rw [hb.out]
      exact ⟨rfl, rfl⟩
    have e1 : ¬ (c : Int) < 48 := by omega
    have e2 : ¬ (57 : Int) < c := by omega
    have hg := Lib.hid (hgood.out (by omega))
    clear hbad hgood
    go_wp2_with fail
    go_roundw
    case rel => exact ⟨k + 1, by omega, by go_num, hg.out, trivial⟩
    case measure => simp [intOf]; omega
  · have hdj : decide ((k : Int) < (F.length : Int)) = false := by simp; omega
    obtain rfl : k = F.length := by omega
    have hD := Lib.hid (digs_of_byteN hpre)
    have hs0 : ∀ h, (((ByteArray.mk F.toArray)[0]'h).toNat : Int) = (byteN F 0 : Int) := fun h => strBN F 0 h
    clear hpre
    by_cases hz : byteN F 0 = 48
    · rw [hz] at hs0
      by_cases hl1 : F.length = 1
      · have hb := Lib.hid ((numB_iff F).2 ⟨HNE.out, hD.out, .inr hl1⟩)
        have e1 : ((F.length : Int) == 1) = true := by rw [beq_iff_eq]; omega
        go_wp2_with fail
        go_ret
        rw [hb.out]
        exact ⟨rfl, rfl⟩
      · have hb := Lib.hid (numB_false F (fun h => h.2.2.elim (fun h1 => h1 ((getD_byteN F 0).2 hz)) hl1))
        have e1 : ((F.length : Int) == 1) = false := by rw [beq_eq_false_iff_ne]; omega
        go_wp2_with fail
        go_ret
        rw [hb.out]
        exact ⟨rfl, rfl⟩
    · have hb := Lib.hid ((numB_iff F).2 ⟨HNE.out, hD.out, .inl (fun h => hz ((getD_byteN F 0).1 h))⟩)
      have e1 : ((byteN F 0 : Int) == 48) = false := by rw [beq_eq_false_iff_ne]; omega
      have e2 : ¬ (byteN F 0 : Int) = 48 := by omega
      go_wp2_with fail
      go_ret
      rw [hb.out]
      exact ⟨rfl, rfl⟩
set_option maxHeartbeats 2000000 in
set_option maxRecDepth 100000 in
theorem refRead_any (F : Bytes) (w : World) (hF : F.length < 1099511627776) (hn : DigsB F) :
    Calls Tryd.prog 78 #[.string ⟨F.toArray⟩] w fun e w' => ∃ oc cc, e = .returned (.slice oc (dig (dv F)).length cc) ∧ IntsAt w' oc (dig (dv F)) ∧ Below w.heap.size w w' ∧ (∀ a, oc = some a → a.block < w'.heap.size) := by
  obtain ⟨i0, hi, hz0, hz1, hz2⟩ := info_parts info_int
  have HI := Lib.hid hi
  have HZ0 := Lib.hid hz0
  have HZ1 := Lib.hid hz1
  have HZ2 := Lib.hid hz2
  have HD := Lib.hid hn
  clear hi hz0 hz1 hz2 hn
  go_enter Tryd.func78, Tryd.ntmps78
  go_upto_region 3 with (fail)
  go_loopw [3, 4] (fun v i wr => ∃ (k : Nat) (z : Int), k ≤ F.length ∧ z = (F.length : Int) - 1 - (k : Int) ∧ i = .int .i64 z ∧ Below w.heap.size w wr ∧ wr.ownsRow w.heap.size 3 1 v k (nvals ((digsOf F).take k))) (fun _ i _ => (intOf i + 1).toNat)
  case atStart => exact ⟨0, (F.length : Int) - 1, by omega, by omega, by go_num, Below.refl _ _, World.ownsRow_nil _ _ _ _⟩
  case round =>
  obtain ⟨k, z, hk, hz, rfl, bel, own⟩ := hrel
  by_cases hlt : k < F.length
  · obtain ⟨j, hj⟩ : ∃ j : Nat, z = (j : Int) := ⟨F.length - 1 - k, by omega⟩
    subst hj
    have hjl : j < F.length := by omega
    have hj0 : (0 : Int) ≤ j := by omega
    have hjl2 : (j : Int) < (F.length : Int) := by omega
    obtain ⟨h48, h57⟩ := digs_byteN HD.out j hjl
    have hs0 : ∀ h, (((ByteArray.mk F.toArray)[j]'h).toNat : Int) = (byteN F j : Int) := fun h => strBN F j h
    have htk : (digsOf F).take (k + 1) = (digsOf F).take k ++ [byteN F j - 48] := by
      have hkd : k < (digsOf F).length := by rw [length_digsOf]; exact hlt
      rw [List.take_succ_eq_append_getElem hkd]
      congr 2
      have e : F.length - 1 - k = j := by omega
      simp only [digsOf, List.getElem_map, List.getElem_reverse, e]
      simp [byteN, List.getD_eq_getElem?_getD, hjl]
    have HTK := Lib.hid htk
    have HZ := Lib.hid hz
    clear htk hz
    generalize byteN F j = c at *
    obtain ⟨d, hd⟩ : ∃ d : Nat, (c : Int) - 48 = (d : Int) := ⟨c - 48, by omega⟩
    have hd2 : c - 48 = d := by omega
    rw [hd2] at HTK
    have hbs := bel.size
    clear hd2
    generalize hO : (digsOf F).take k = O at *
    have hOl : O.length = k := by rw [← hO, List.length_take, length_digsOf]; omega
    have HOL := Lib.hid hOl
    clear hO hOl
    go_upto_region 4 with (at_builtin; refine wpList_append_own _ rfl (.tmp 12) (.tmp 18) 61 rfl w.heap.size 3 i0 (.int .i64 0) 1 8 Tryd.underlying61 HI.out HZ0.out HZ1.out HZ2.out rfl (by decide) u3 k (nvals O) rfl (own.alloc _) ⟨wr.heap.size, 0, none⟩ 1 1 (nvals [d]) rfl rfl ?c1 ?c2 ?c3 ?c4 ?c5 ?_)
    case c1 => exact news_nvals wr [d] _ _ rfl
    case c2 => exact nvals_one _
    case c3 => unfold maxLen; omega
    case c4 => omega
    case c5 => first | omega | (simp; omega)
    intro v5 w5 own5 hg5 _
    have bel5 : Below w.heap.size w w5 := (bel.alloc hbs _).grown hg5 (by simp; omega) (fun q hq => (own.lt q hq).1)
    rw [nvals_append] at own5
    have OWN5 := Lib.hid own5
    clear own5 own hg5 bel hd hs0
    go_wp2_with fail
    go_roundw
    case rel => exact ⟨k + 1, (j : Int) - 1, by omega, by have := HZ.out; omega, by go_num, bel5, by rw [HTK.out]; exact OWN5.out⟩
    case measure => simp [intOf]
  · obtain rfl : k = F.length := by omega
    obtain rfl : z = -1 := by omega
    have htl : (digsOf F).take F.length = digsOf F := List.take_of_length_le (by rw [length_digsOf]; omega)
    rw [htl] at own
    have hown := own.lt
    obtain ⟨oc, cc, rfl, hcc, _, hI⟩ := intsAt_own (L := digsOf F) own
    have hll := length_digsOf F
    have QT := Lib.hid (refTrim_any oc (digsOf F) cc wr hI (by omega) hcc (all_digsOf HD.out))
    rw [dig_dv HD.out, hll] at QT
    have hlt2 : ∀ a, oc = some a → a.block < wr.heap.size := fun a h => by subst h; exact (hown a.block rfl).2
    clear own hI hown htl hz
    go_wp2_with (go_at_call 95; refine QT.out.mono ?_; rintro e w3 ⟨rfl, hI3, rfl⟩)
    go_ret
    exact ⟨oc, cc, rfl, hI3, bel, hlt2⟩
end Go.Proofs.YtlbdcgnpkapncaaDoor
namespace Go.Proofs.YtlbdcgnpkapncaaDoor
set_option linter.unusedVariables false
open Go.RowKit ML FM ND

/-- a fraction of digits -/
structure NFr (w : World) (n d : Nat) (on od : Option Addr) : Prop where
  num : IntsAt w on (dig n)
  den : IntsAt w od (dig d)
theorem NFr.below {w w1 : World} {n d : Nat} {on od : Option Addr} (h : NFr w n d on od) (hb : Below w.heap.size w w1) : NFr w1 n d on od := ⟨h.num.below hb, h.den.below hb⟩
theorem size_nfr : (Tryd.prog.info? 63).map (·.size) = some 2 := by kernel_rfl
/-- a block without ints is turned: rows of ints stay -/
theorem IntsAt.spared {w w1 : World} {oc : Option Addr} {L : List Nat} {B : Nat} {cs : Array Value} {t : TypeId} {fr : Nat × Nat} (h : IntsAt w oc L) (hb : w.heap[B]? = some (.cells cs t fr)) (hn : cs.all noInt = true) (ho : Only B w w1) : IntsAt w1 oc L := ⟨fun i hi => by
  obtain ⟨a, h1, h2, h3⟩ := h.cells i hi
  have hne : (a.add i).block ≠ B := by
    intro he
    unfold World.cell? at h3
    rw [he, hb] at h3
    simp only at h3
    split at h3
    · cases h3
    · obtain ⟨hlt, hv⟩ := Array.getElem?_eq_some_iff.1 h3
      rw [Array.all_eq_true] at hn
      have := hn _ hlt
      rw [hv] at this
      cases this
  refine ⟨a, h1, by rw [ho.size]; exact h2, ?_⟩
  rw [World.cell?_of_block (w := w) (ho.block _ hne)]
  exact h3⟩
set_option maxHeartbeats 4000000 in
set_option maxRecDepth 100000 in
theorem refLowest_any (n d : Nat) (oa ob : Option Addr) (ca cb : Nat) (w : World) (hd0 : 0 < d) (ha : IntsAt w oa (dig n)) (hb : IntsAt w ob (dig d)) (hx : (dig n).length < 1099511627775) (hy : (dig d).length < 1099511627775) :
    Calls Tryd.prog 60 #[.slice oa (dig n).length ca, .slice ob (dig d).length cb] w fun e w' => ∃ on od cn cd, e = .returned (.agg #[.slice on (dig (n / Nat.gcd n d)).length cn, .slice od (dig (d / Nat.gcd n d)).length cd]) ∧ NFr w' (n / Nat.gcd n d) (d / Nat.gcd n d) on od ∧ Below w.heap.size w w' := by
  have hg0 : 0 < Nat.gcd n d := Nat.gcd_pos_of_pos_right n hd0
  have HA := Lib.hid ha
  have HBB := Lib.hid hb
  have hl : (dig (Nat.gcd n d)).length ≤ (dig d).length := length_dig_le _ _ (Nat.lt_of_le_of_lt (Nat.le_of_dvd hd0 (Nat.gcd_dvd_right n d)) (lt_pow_length d))
  have QG := Lib.hid (fun w h1 h2 => refGcd_any n d oa ob ca cb w h1 h2 hx hy)
  have HS := Lib.hid size_nfr
  have HG0 := Lib.hid hg0
  clear ha hb
  generalize hgg : Nat.gcd n d = g at *
  have QD1 := Lib.hid (fun og cg w h1 h2 => refDiv_any n g oa og ca cg w hg0 h1 h2 (by omega) (by omega))
  have QD2 := Lib.hid (fun og cg w h1 h2 => refDiv_any d g ob og cb cg w hg0 h1 h2 (by omega) (by omega))
  have HGG := Lib.hid hgg
  clear hgg hg0 hd0
  go_enter Tryd.func60, Tryd.ntmps60
  go_upto_region 1 with (fail)
  generalize hB : w.heap.size = B at *
  have HB := Lib.hid hB
  refine wp_abs (fun w1 => Below B w w1 ∧ w1.heap[B]? = some (.cells #[.slice none 0 0, .slice none 0 0] 63 (0, 0))) ⟨by rw [← hB]; exact (Below.refl _ _).alloc (Nat.le_refl _) _, by rw [← hB]; exact heap_at rfl⟩ (fun w1 hw1 => ?_)
  have HW1 := Lib.hid hw1
  clear hw1 hB
  go_upto_region 2 with (go_at_call 85; refine (QG.out w1 (HA.out.below (HB.out ▸ HW1.out.1)) (HBB.out.below (HB.out ▸ HW1.out.1))).mono ?_; rintro e w2 ⟨og, cg, rfl, hIg, bel2⟩; have HIG := Lib.hid hIg; clear hIg)
  have B4 := Lib.hid (HW1.out.1.trans (bel2.mono (HB.out ▸ HW1.out.1.size)))
  have HC4 := Lib.hid (bel_keep bel2 (lt_of_heap HW1.out.2) HW1.out.2)
  have QD3 := Lib.hid (QD1.out og cg w2 (HA.out.below (HB.out ▸ B4.out)) HIG.out)
  clear bel2 HW1 QG QD1
  go_upto_region 3 with (go_at_call 86; refine QD3.out.mono ?_; rintro e w5 ⟨oq, cq, or, cr, rfl, hq, -, bel5⟩; have HQ := Lib.hid hq; clear hq)
  have HC5 := Lib.hid (bel_keep bel5 (lt_of_heap HC4.out) HC4.out)
  have B5 := Lib.hid (B4.out.trans (bel5.mono (HB.out ▸ B4.out.size)))
  have QD4 := Lib.hid (QD2.out og cg w5 (HBB.out.below (HB.out ▸ B5.out)) (HIG.out.below bel5))
  clear QD3 QD2 HIG bel5 HC4 B4
  go_upto_region 4 with (go_at_call 86; refine QD4.out.mono ?_; rintro e w6 ⟨oq2, cq2, or2, cr2, rfl, hq2, -, bel6⟩; have HQ2 := Lib.hid hq2; clear hq2)
  have HC6 := Lib.hid (bel_keep bel6 (lt_of_heap HC5.out) HC5.out)
  have B6 := Lib.hid (B5.out.trans (bel6.mono (HB.out ▸ B5.out.size)))
  have HQ6 := Lib.hid (HQ.out.below bel6)
  clear HC5 B5 HQ bel6 QD4
  go_wp2_with (refine wpList_store_whole rfl rfl 63 _ _ rfl B #[.slice none 0 0, .slice none 0 0] #[.slice oq (dig (n / g)).length cq, .slice oq2 (dig (d / g)).length cq2] 63 rfl rfl HC6.out rfl HS.out (two_slices _ _ _ _ _ _) ?_; intro w7 ho hp)
  refine bodyPost_ret (results_cell_row rfl _ w7 B _ _ _ _ rfl hp Tryd.underlying63 rfl HS.out) rfl ⟨oq, oq2, cq, cq2, rfl, ⟨HQ6.out.spared HC6.out two_noInt ho, HQ2.out.spared HC6.out two_noInt ho⟩, by rw [HB.out]; exact bel_only B6.out ho (Nat.le_refl _)⟩
set_option maxHeartbeats 4000000 in
set_option maxRecDepth 100000 in
theorem refWhole_any (n : Nat) (w : World) (hn : n < 9223372036854775808) :
    Calls Tryd.prog 33 #[.int .i64 (n : Int)] w fun e w' => ∃ on od cn cd, e = .returned (.agg #[.slice on (dig n).length cn, .slice od (dig 1).length cd]) ∧ NFr w' n 1 on od ∧ Below w.heap.size w w' := by
  have QO := Lib.hid (fun w => refOf_any n w hn)
  have QO1 := Lib.hid (fun w => refOf_any 1 w (by decide))
  have HS := Lib.hid size_nfr
  have hone := Lib.hid (show dig 1 = [1] by rw [dig_pos (by decide)]; simp [dig_zero])
  rw [hone.out] at QO1 ⊢
  clear hn
  go_enter Tryd.func33, Tryd.ntmps33
  go_upto_region 1 with (fail)
  generalize hB : w.heap.size = B at *
  have HB := Lib.hid hB
  refine wp_abs (fun w1 => Below B w w1 ∧ w1.heap[B]? = some (.cells #[.slice none 0 0, .slice none 0 0] 63 (0, 0))) ⟨by rw [← hB]; exact (Below.refl _ _).alloc (Nat.le_refl _) _, by rw [← hB]; exact heap_at rfl⟩ (fun w1 hw1 => ?_)
  have B1 := Lib.hid hw1.1
  have HC1 := Lib.hid hw1.2
  clear hw1 hB
  go_wp2_with (first
    | (go_at_call 61; (with_reducible refine (QO.out w1).mono ?_); rintro e w2 ⟨oa, ca, rfl, h2, bel2⟩; have H2 := Lib.hid h2; have B2 := Lib.hid (B1.out.trans (bel2.mono (HB.out ▸ B1.out.size))); have HC2 := Lib.hid (bel_keep bel2 (lt_of_heap HC1.out) HC1.out); clear h2 bel2)
    | (go_at_call 61; refine (QO1.out w2).mono ?_; rintro e w3 ⟨ob, cb, rfl, h3, bel3⟩; have H3 := Lib.hid h3; have B3 := Lib.hid (B2.out.trans (bel3.mono (HB.out ▸ B2.out.size))); have HC3 := Lib.hid (bel_keep bel3 (lt_of_heap HC2.out) HC2.out); have H23 := Lib.hid (H2.out.below bel3); clear h3 bel3)
    | (refine wpList_store_whole rfl rfl 63 _ _ rfl B #[.slice none 0 0, .slice none 0 0] #[.slice oa (dig n).length ca, .slice ob 1 cb] 63 rfl rfl HC3.out rfl HS.out (two_slices _ _ _ _ _ _) ?_; intro w7 ho hp))
  refine bodyPost_ret (results_cell_row rfl _ w7 B _ _ _ _ rfl hp Tryd.underlying63 rfl HS.out) rfl ⟨oa, ob, ca, cb, rfl, ⟨H23.out.spared HC3.out two_noInt ho, by rw [hone.out]; exact H3.out.spared HC3.out two_noInt ho⟩, by rw [HB.out]; exact bel_only B3.out ho (Nat.le_refl _)⟩
end Go.Proofs.YtlbdcgnpkapncaaDoor
namespace Go.Proofs.YtlbdcgnpkapncaaDoor
set_option linter.unusedVariables false
open Go.RowKit ML ND

namespace ND
theorem length_mul (x y : Nat) : (dig (x * y)).length ≤ (dig x).length + (dig y).length := by
  refine length_dig_le _ _ ?_
  rw [Nat.pow_add]
  exact Nat.mul_lt_mul'' (lt_pow_length x) (lt_pow_length y)
theorem length_add (x y : Nat) : (dig (x + y)).length ≤ (dig x).length + (dig y).length + 1 := by
  refine length_dig_le _ _ ?_
  have h1 := lt_pow_length x
  have h2 := lt_pow_length y
  have e1 : 10 ^ (dig x).length ≤ 10 ^ ((dig x).length + (dig y).length) := Nat.pow_le_pow_right (by decide) (by omega)
  have e2 : 10 ^ (dig y).length ≤ 10 ^ ((dig x).length + (dig y).length) := Nat.pow_le_pow_right (by decide) (by omega)
  rw [Nat.pow_succ]; omega
end ND
set_option maxHeartbeats 4000000 in
set_option maxRecDepth 100000 in
theorem refTimes_any (a b c d : Nat) (oa ob oc od : Option Addr) (ca cb cc cd : Nat) (w : World) (hX : NFr w a b oa ob) (hY : NFr w c d oc od) (h0 : 0 < b * d) (l1 : (dig a).length < 274877906944) (l2 : (dig b).length < 274877906944) (l3 : (dig c).length < 274877906944) (l4 : (dig d).length < 274877906944) :
    Calls Tryd.prog 48 #[.agg #[.slice oa (dig a).length ca, .slice ob (dig b).length cb], .agg #[.slice oc (dig c).length cc, .slice od (dig d).length cd]] w fun e w' => ∃ on om cn cm, e = .returned (.agg #[.slice on (dig (a * c / Nat.gcd (a * c) (b * d))).length cn, .slice om (dig (b * d / Nat.gcd (a * c) (b * d))).length cm]) ∧ NFr w' (a * c / Nat.gcd (a * c) (b * d)) (b * d / Nat.gcd (a * c) (b * d)) on om ∧ Below w.heap.size w w' := by
  have QN := Lib.hid (fun w h1 h2 => refMul_any a c oa oc ca cc w h1 h2 (by omega) (by omega))
  have QD := Lib.hid (fun w h1 h2 => refMul_any b d ob od cb cd w h1 h2 (by omega) (by omega))
  have m1 := length_mul a c
  have m2 := length_mul b d
  have QL := Lib.hid (fun on om cn cm w h1 h2 => refLowest_any (a * c) (b * d) on om cn cm w h0 h1 h2 (by omega) (by omega))
  have HS := Lib.hid size_nfr
  have HX := Lib.hid hX
  have HY := Lib.hid hY
  clear hX hY h0 m1 m2
  generalize a * c / Nat.gcd (a * c) (b * d) = N at *
  generalize b * d / Nat.gcd (a * c) (b * d) = D at *
  go_enter Tryd.func48, Tryd.ntmps48
  go_upto_region 1 with (fail)
  have BX := Box3.mk' w #[.slice oa (dig a).length ca, .slice ob (dig b).length cb] #[.slice oc (dig c).length cc, .slice od (dig d).length cd] #[.slice none 0 0, .slice none 0 0] 63 63
  generalize hB : w.heap.size = B at *
  refine wp_abs (fun w1 => Box3 B w w1 #[.slice oa (dig a).length ca, .slice ob (dig b).length cb] #[.slice oc (dig c).length cc, .slice od (dig d).length cd] #[.slice none 0 0, .slice none 0 0] 63 63) BX (fun w1 B1 => ?_)
  have HB := Lib.hid hB
  have c1 := cell_of_row w1 B 0 _ _ _ B1.x
  have c2 := cell_of_row w1 B 1 _ _ _ B1.x
  have c3 := cell_of_row w1 (B + 1) 0 _ _ _ B1.y
  have c4 := cell_of_row w1 (B + 1) 1 _ _ _ B1.y
  have HB1 := Lib.hid B1
  clear BX hB B1
  refine Seg.wp_region_segs (fun w' => ∃ x : BelowT (B + 2) w1, w' = x.w) [([0, 1, 2, 3, 5, 6, 7, 8], 4)] [] 9 (by kernel_rfl) (by kernel_rfl) (fun _ _ d _ _ h => by cases d <;> exact h) (⟨⟨_, (Below.refl _ _).drew⟩, rfl⟩) ?_
  simp only [List.map_cons, List.map_nil, Seg.opAt, List.drop_succ_cons, List.drop_zero, Seg.wpSegs, Array.getD_eq_getD_getElem?, List.getElem?_toArray, List.getElem?_cons_succ, List.getElem?_cons_zero, Option.getD_some]
  repeat (any_goals (first | go_big_quiet_step (fail) | quiet_step (fail)))
  refine wpQuiet_nil ?_
  intro K hK
  simp only [Region.wanted, if_true]
  have hBs1 : B + 1 + 1 < w1.heap.size := lt_of_heap HB1.out.z
  have W1 := Lib.hid (show Below w.heap.size w w1 by rw [HB.out]; exact HB1.out.bel)
  have W1d := Lib.hid (show Below w.heap.size w w1.drew from W1.out.drew)
  go_wp2_with (go_at_call 79; refine (QN.out _ (HX.out.num.below W1d.out) (HY.out.num.below W1d.out)).mono ?_; rintro e w2 ⟨on, cn, rfl, hn, bel2⟩; have HN := Lib.hid hn; clear hn)
  have bel2' : Below w1.heap.size w1 w2 := undrew bel2
  refine hK _ _ ⟨⟨w2, bel2'.mono (by omega)⟩, rfl⟩ ?_
  have TB2 := Lib.hid (show Below (B + 2) w1 w2 from bel2'.mono (by omega))
  have W2 := Lib.hid (W1.out.trans (bel2'.mono W1.out.size))
  have HB2 := Lib.hid (HB1.out.keep (by omega) bel2')
  have hBs2 : B + 1 + 1 < w2.heap.size := lt_of_heap HB2.out.z
  clear hK K c1 c2 c3 c4 bel2 bel2' QN
  repeat (any_goals (first | go_big_quiet_step (fail) | quiet_step (fail)))
  refine wpQuiet_nil ?_
  go_wp2_with (first
    | (go_at_call 79; refine (QD.out w2 (HX.out.den.below W2.out) (HY.out.den.below W2.out)).mono ?_; rintro e w3 ⟨om, cm, rfl, hm, bel3⟩; have HM := Lib.hid hm; have HB3 := Lib.hid (HB2.out.keep (by omega) bel3); have W3 := Lib.hid (W2.out.trans (bel3.mono W2.out.size)); have HN3 := Lib.hid (HN.out.below bel3); have hB3s : B + 1 + 1 < w3.heap.size := lt_of_heap HB3.out.z; clear hm bel3)
    | (go_at_call 60; refine (QL.out on om cn cm w3 HN3.out HM.out).mono ?_; rintro e w4 ⟨or, os, cr, cs, rfl, hr, bel4⟩; have HR := Lib.hid hr; have HB4 := Lib.hid (HB3.out.keep (by omega) bel4); have W4 := Lib.hid (W3.out.trans (bel4.mono W3.out.size)); clear hr bel4)
    | (refine wpList_store_whole rfl rfl 63 _ _ rfl (B + 1 + 1) #[.slice none 0 0, .slice none 0 0] #[.slice or (dig N).length cr, .slice os (dig D).length cs] 63 rfl rfl HB4.out.z rfl HS.out (two_slices _ _ _ _ _ _) ?_; intro w5 ho hp))
  refine bodyPost_ret (results_cell_row rfl _ w5 (B + 1 + 1) _ _ _ _ rfl hp Tryd.underlying63 rfl HS.out) rfl ⟨or, os, cr, cs, rfl, ⟨HR.out.num.spared HB4.out.z two_noInt ho, HR.out.den.spared HB4.out.z two_noInt ho⟩, bel_only W4.out ho (by rw [HB.out]; omega)⟩
set_option maxHeartbeats 4000000 in
set_option maxRecDepth 100000 in
theorem refPlus_any (a b c d : Nat) (oa ob oc od : Option Addr) (ca cb cc cd : Nat) (w : World) (hX : NFr w a b oa ob) (hY : NFr w c d oc od) (h0 : 0 < b * d) (l1 : (dig a).length < 274877906944) (l2 : (dig b).length < 274877906944) (l3 : (dig c).length < 274877906944) (l4 : (dig d).length < 274877906944) :
    Calls Tryd.prog 62 #[.agg #[.slice oa (dig a).length ca, .slice ob (dig b).length cb], .agg #[.slice oc (dig c).length cc, .slice od (dig d).length cd]] w fun e w' => ∃ on om cn cm, e = .returned (.agg #[.slice on (dig ((a * d + c * b) / Nat.gcd (a * d + c * b) (b * d))).length cn, .slice om (dig (b * d / Nat.gcd (a * d + c * b) (b * d))).length cm]) ∧ NFr w' ((a * d + c * b) / Nat.gcd (a * d + c * b) (b * d)) (b * d / Nat.gcd (a * d + c * b) (b * d)) on om ∧ Below w.heap.size w w' := by
  have QN := Lib.hid (fun w h1 h2 => refMul_any a d oa od ca cd w h1 h2 (by omega) (by omega))
  have QM := Lib.hid (fun w h1 h2 => refMul_any c b oc ob cc cb w h1 h2 (by omega) (by omega))
  have QD := Lib.hid (fun w h1 h2 => refMul_any b d ob od cb cd w h1 h2 (by omega) (by omega))
  have m1 := length_mul a d
  have m2 := length_mul c b
  have m3 := length_mul b d
  have m4 := length_add (a * d) (c * b)
  have QA := Lib.hid (fun on om cn cm w h1 h2 => refAdd_any (a * d) (c * b) on om cn cm w h1 h2 (by omega) (by omega))
  have QL := Lib.hid (fun on om cn cm w h1 h2 => refLowest_any (a * d + c * b) (b * d) on om cn cm w h0 h1 h2 (by omega) (by omega))
  have HS := Lib.hid size_nfr
  have HX := Lib.hid hX
  have HY := Lib.hid hY
  clear hX hY h0 m1 m2 m3 m4
  generalize (a * d + c * b) / Nat.gcd (a * d + c * b) (b * d) = N at *
  generalize b * d / Nat.gcd (a * d + c * b) (b * d) = D at *
  go_enter Tryd.func62, Tryd.ntmps62
  go_upto_region 1 with (fail)
  have BX := Box3.mk' w #[.slice oa (dig a).length ca, .slice ob (dig b).length cb] #[.slice oc (dig c).length cc, .slice od (dig d).length cd] #[.slice none 0 0, .slice none 0 0] 63 63
  generalize hB : w.heap.size = B at *
  refine wp_abs (fun w1 => Box3 B w w1 #[.slice oa (dig a).length ca, .slice ob (dig b).length cb] #[.slice oc (dig c).length cc, .slice od (dig d).length cd] #[.slice none 0 0, .slice none 0 0] 63 63) BX (fun w1 B1 => ?_)
  have HB := Lib.hid hB
  have c1 := cell_of_row w1 B 0 _ _ _ B1.x
  have c2 := cell_of_row w1 B 1 _ _ _ B1.x
  have c3 := cell_of_row w1 (B + 1) 0 _ _ _ B1.y
  have c4 := cell_of_row w1 (B + 1) 1 _ _ _ B1.y
  have HB1 := Lib.hid B1
  clear BX hB B1
  refine Seg.wp_region_segs (fun w' => ∃ x : BelowT (B + 2) w1, w' = x.w) [([0, 1, 2, 3, 5, 6, 7, 8, 11, 12, 13, 14], 4), ([], 9), ([], 10)] [] 15 (by kernel_rfl) (by kernel_rfl) (fun _ _ d _ _ h => by cases d <;> exact h) (⟨⟨_, (Below.refl _ _).drew⟩, rfl⟩) ?_
  simp only [List.map_cons, List.map_nil, Seg.opAt, List.drop_succ_cons, List.drop_zero, Seg.wpSegs, Array.getD_eq_getD_getElem?, List.getElem?_toArray, List.getElem?_cons_succ, List.getElem?_cons_zero, Option.getD_some]
  repeat (any_goals (first | go_big_quiet_step (fail) | quiet_step (fail)))
  refine wpQuiet_nil ?_
  intro K hK
  simp only [Region.wanted, if_true]
  have hBs1 : B + 1 + 1 < w1.heap.size := lt_of_heap HB1.out.z
  have W1 := Lib.hid (show Below w.heap.size w w1 by rw [HB.out]; exact HB1.out.bel)
  have W1d := Lib.hid (show Below w.heap.size w w1.drew from W1.out.drew)
  go_wp2_with (go_at_call 79; refine (QN.out _ (HX.out.num.below W1d.out) (HY.out.den.below W1d.out)).mono ?_; rintro e w2 ⟨on, cn, rfl, hn, bel2⟩; have HN := Lib.hid hn; clear hn)
  have bel2' : Below w1.heap.size w1 w2 := undrew bel2
  refine hK _ _ ⟨⟨w2, bel2'.mono (by omega)⟩, rfl⟩ ?_
  have TB2 := Lib.hid (show Below (B + 2) w1 w2 from bel2'.mono (by omega))
  have W2 := Lib.hid (W1.out.trans (bel2'.mono W1.out.size))
  have HB2 := Lib.hid (HB1.out.keep (by omega) bel2')
  have hBs2 : B + 1 + 1 < w2.heap.size := lt_of_heap HB2.out.z
  clear hK K c1 c2 c3 c4 bel2 bel2' QN
  refine wpQuiet_nil ?_
  intro K hK
  simp only [Region.wanted, if_true]
  go_wp2_with (go_at_call 79; refine (QM.out w2 (HY.out.num.below W2.out) (HX.out.den.below W2.out)).mono ?_; rintro e w3 ⟨om, cm, rfl, hm, bel3⟩; have HM := Lib.hid hm; have HN3 := Lib.hid (HN.out.below bel3); clear hm)
  have bel3' := bel3
  refine hK _ _ ⟨⟨w3, (TB2.out).trans (bel3'.mono (by omega))⟩, rfl⟩ ?_
  have TB3 := Lib.hid (show Below (B + 2) w1 w3 from (TB2.out).trans (bel3'.mono (by omega)))
  have W3 := Lib.hid (W2.out.trans (bel3'.mono W2.out.size))
  have HB3 := Lib.hid (HB2.out.keep (by omega) bel3')
  have hBs3 : B + 1 + 1 < w3.heap.size := lt_of_heap HB3.out.z
  clear hK K bel3 bel3' QM
  refine wpQuiet_nil ?_
  intro K hK
  simp only [Region.wanted, if_true]
  go_wp2_with (go_at_call 87; refine (QA.out on om cn cm w3 HN3.out HM.out).mono ?_; rintro e w4 ⟨op, cp, rfl, hp0, bel4⟩; have HP := Lib.hid hp0; clear hp0)
  have bel4' := bel4
  refine hK _ _ ⟨⟨w4, (TB3.out).trans (bel4'.mono (by omega))⟩, rfl⟩ ?_
  have TB4 := Lib.hid (show Below (B + 2) w1 w4 from (TB3.out).trans (bel4'.mono (by omega)))
  have W4 := Lib.hid (W3.out.trans (bel4'.mono W3.out.size))
  have HB4 := Lib.hid (HB3.out.keep (by omega) bel4')
  have hBs4 : B + 1 + 1 < w4.heap.size := lt_of_heap HB4.out.z
  clear hK K bel4 bel4' QA
  repeat (any_goals (first | go_big_quiet_step (fail) | quiet_step (fail)))
  refine wpQuiet_nil ?_
  go_wp2_with (first
    | (go_at_call 79; refine (QD.out w4 (HX.out.den.below W4.out) (HY.out.den.below W4.out)).mono ?_; rintro e w5 ⟨oq, cq, rfl, hm, bel5⟩; have HQ := Lib.hid hm; have HB5 := Lib.hid (HB4.out.keep (by omega) bel5); have W5 := Lib.hid (W4.out.trans (bel5.mono W4.out.size)); have HP5 := Lib.hid (HP.out.below bel5); have hB5s : B + 1 + 1 < w5.heap.size := lt_of_heap HB5.out.z; clear hm bel5)
    | (go_at_call 60; refine (QL.out op oq cp cq w5 HP5.out HQ.out).mono ?_; rintro e w6 ⟨or, os, cr, cs, rfl, hr, bel6⟩; have HR := Lib.hid hr; have HB6 := Lib.hid (HB5.out.keep (by omega) bel6); have W6 := Lib.hid (W5.out.trans (bel6.mono W5.out.size)); clear hr bel6)
    | (refine wpList_store_whole rfl rfl 63 _ _ rfl (B + 1 + 1) #[.slice none 0 0, .slice none 0 0] #[.slice or (dig N).length cr, .slice os (dig D).length cs] 63 rfl rfl HB6.out.z rfl HS.out (two_slices _ _ _ _ _ _) ?_; intro w7 ho hp))
  refine bodyPost_ret (results_cell_row rfl _ w7 (B + 1 + 1) _ _ _ _ rfl hp Tryd.underlying63 rfl HS.out) rfl ⟨or, os, cr, cs, rfl, ⟨HR.out.num.spared HB6.out.z two_noInt ho, HR.out.den.spared HB6.out.z two_noInt ho⟩, bel_only W6.out ho (by rw [HB.out]; omega)⟩
set_option maxHeartbeats 4000000 in
set_option maxRecDepth 100000 in
theorem refMinus_any (a b c d : Nat) (oa ob oc od : Option Addr) (ca cb cc cd : Nat) (w : World) (hX : NFr w a b oa ob) (hY : NFr w c d oc od) (h0 : 0 < b * d) (hle : c * b ≤ a * d) (l1 : (dig a).length < 274877906944) (l2 : (dig b).length < 274877906944) (l3 : (dig c).length < 274877906944) (l4 : (dig d).length < 274877906944) :
    Calls Tryd.prog 49 #[.agg #[.slice oa (dig a).length ca, .slice ob (dig b).length cb], .agg #[.slice oc (dig c).length cc, .slice od (dig d).length cd]] w fun e w' => ∃ on om cn cm, e = .returned (.agg #[.slice on (dig ((a * d - c * b) / Nat.gcd (a * d - c * b) (b * d))).length cn, .slice om (dig (b * d / Nat.gcd (a * d - c * b) (b * d))).length cm]) ∧ NFr w' ((a * d - c * b) / Nat.gcd (a * d - c * b) (b * d)) (b * d / Nat.gcd (a * d - c * b) (b * d)) on om ∧ Below w.heap.size w w' := by
  have QN := Lib.hid (fun w h1 h2 => refMul_any a d oa od ca cd w h1 h2 (by omega) (by omega))
  have QM := Lib.hid (fun w h1 h2 => refMul_any c b oc ob cc cb w h1 h2 (by omega) (by omega))
  have QD := Lib.hid (fun w h1 h2 => refMul_any b d ob od cb cd w h1 h2 (by omega) (by omega))
  have m1 := length_mul a d
  have m2 := length_mul c b
  have m3 := length_mul b d
  have m4 : (dig (a * d - c * b)).length ≤ (dig (a * d)).length := length_dig_le _ _ (Nat.lt_of_le_of_lt (Nat.sub_le _ _) (lt_pow_length _))
  have QA := Lib.hid (fun on om cn cm w h1 h2 => refSub_any (a * d) (c * b) on om cn cm w hle h1 h2 (by omega) (by omega))
  have QL := Lib.hid (fun on om cn cm w h1 h2 => refLowest_any (a * d - c * b) (b * d) on om cn cm w h0 h1 h2 (by omega) (by omega))
  have HS := Lib.hid size_nfr
  have HX := Lib.hid hX
  have HY := Lib.hid hY
  clear hX hY h0 m1 m2 m3 m4 hle
  generalize (a * d - c * b) / Nat.gcd (a * d - c * b) (b * d) = N at *
  generalize b * d / Nat.gcd (a * d - c * b) (b * d) = D at *
  go_enter Tryd.func49, Tryd.ntmps49
  go_upto_region 1 with (fail)
  have BX := Box3.mk' w #[.slice oa (dig a).length ca, .slice ob (dig b).length cb] #[.slice oc (dig c).length cc, .slice od (dig d).length cd] #[.slice none 0 0, .slice none 0 0] 63 63
  generalize hB : w.heap.size = B at *
  refine wp_abs (fun w1 => Box3 B w w1 #[.slice oa (dig a).length ca, .slice ob (dig b).length cb] #[.slice oc (dig c).length cc, .slice od (dig d).length cd] #[.slice none 0 0, .slice none 0 0] 63 63) BX (fun w1 B1 => ?_)
  have HB := Lib.hid hB
  have c1 := cell_of_row w1 B 0 _ _ _ B1.x
  have c2 := cell_of_row w1 B 1 _ _ _ B1.x
  have c3 := cell_of_row w1 (B + 1) 0 _ _ _ B1.y
  have c4 := cell_of_row w1 (B + 1) 1 _ _ _ B1.y
  have HB1 := Lib.hid B1
  clear BX hB B1
  refine Seg.wp_region_segs (fun w' => ∃ x : BelowT (B + 2) w1, w' = x.w) [([0, 1, 2, 3, 5, 6, 7, 8, 11, 12, 13, 14], 4), ([], 9), ([], 10)] [] 15 (by kernel_rfl) (by kernel_rfl) (fun _ _ d _ _ h => by cases d <;> exact h) (⟨⟨_, (Below.refl _ _).drew⟩, rfl⟩) ?_
  simp only [List.map_cons, List.map_nil, Seg.opAt, List.drop_succ_cons, List.drop_zero, Seg.wpSegs, Array.getD_eq_getD_getElem?, List.getElem?_toArray, List.getElem?_cons_succ, List.getElem?_cons_zero, Option.getD_some]
  repeat (any_goals (first | go_big_quiet_step (fail) | quiet_step (fail)))
  refine wpQuiet_nil ?_
  intro K hK
  simp only [Region.wanted, if_true]
  have hBs1 : B + 1 + 1 < w1.heap.size := lt_of_heap HB1.out.z
  have W1 := Lib.hid (show Below w.heap.size w w1 by rw [HB.out]; exact HB1.out.bel)
  have W1d := Lib.hid (show Below w.heap.size w w1.drew from W1.out.drew)
  go_wp2_with (go_at_call 79; refine (QN.out _ (HX.out.num.below W1d.out) (HY.out.den.below W1d.out)).mono ?_; rintro e w2 ⟨on, cn, rfl, hn, bel2⟩; have HN := Lib.hid hn; clear hn)
  have bel2' : Below w1.heap.size w1 w2 := undrew bel2
  refine hK _ _ ⟨⟨w2, bel2'.mono (by omega)⟩, rfl⟩ ?_
  have TB2 := Lib.hid (show Below (B + 2) w1 w2 from bel2'.mono (by omega))
  have W2 := Lib.hid (W1.out.trans (bel2'.mono W1.out.size))
  have HB2 := Lib.hid (HB1.out.keep (by omega) bel2')
  have hBs2 : B + 1 + 1 < w2.heap.size := lt_of_heap HB2.out.z
  clear hK K c1 c2 c3 c4 bel2 bel2' QN
  refine wpQuiet_nil ?_
  intro K hK
  simp only [Region.wanted, if_true]
  go_wp2_with (go_at_call 79; refine (QM.out w2 (HY.out.num.below W2.out) (HX.out.den.below W2.out)).mono ?_; rintro e w3 ⟨om, cm, rfl, hm, bel3⟩; have HM := Lib.hid hm; have HN3 := Lib.hid (HN.out.below bel3); clear hm)
  have bel3' := bel3
  refine hK _ _ ⟨⟨w3, (TB2.out).trans (bel3'.mono (by omega))⟩, rfl⟩ ?_
  have TB3 := Lib.hid (show Below (B + 2) w1 w3 from (TB2.out).trans (bel3'.mono (by omega)))
  have W3 := Lib.hid (W2.out.trans (bel3'.mono W2.out.size))
  have HB3 := Lib.hid (HB2.out.keep (by omega) bel3')
  have hBs3 : B + 1 + 1 < w3.heap.size := lt_of_heap HB3.out.z
  clear hK K bel3 bel3' QM
  refine wpQuiet_nil ?_
  intro K hK
  simp only [Region.wanted, if_true]
  go_wp2_with (go_at_call 80; refine (QA.out on om cn cm w3 HN3.out HM.out).mono ?_; rintro e w4 ⟨op, cp, rfl, hp0, bel4, _⟩; have HP := Lib.hid hp0; clear hp0)
  have bel4' := bel4
  refine hK _ _ ⟨⟨w4, (TB3.out).trans (bel4'.mono (by omega))⟩, rfl⟩ ?_
  have TB4 := Lib.hid (show Below (B + 2) w1 w4 from (TB3.out).trans (bel4'.mono (by omega)))
  have W4 := Lib.hid (W3.out.trans (bel4'.mono W3.out.size))
  have HB4 := Lib.hid (HB3.out.keep (by omega) bel4')
  have hBs4 : B + 1 + 1 < w4.heap.size := lt_of_heap HB4.out.z
  clear hK K bel4 bel4' QA
  repeat (any_goals (first | go_big_quiet_step (fail) | quiet_step (fail)))
  refine wpQuiet_nil ?_
  go_wp2_with (first
    | (go_at_call 79; refine (QD.out w4 (HX.out.den.below W4.out) (HY.out.den.below W4.out)).mono ?_; rintro e w5 ⟨oq, cq, rfl, hm, bel5⟩; have HQ := Lib.hid hm; have HB5 := Lib.hid (HB4.out.keep (by omega) bel5); have W5 := Lib.hid (W4.out.trans (bel5.mono W4.out.size)); have HP5 := Lib.hid (HP.out.below bel5); have hB5s : B + 1 + 1 < w5.heap.size := lt_of_heap HB5.out.z; clear hm bel5)
    | (go_at_call 60; refine (QL.out op oq cp cq w5 HP5.out HQ.out).mono ?_; rintro e w6 ⟨or, os, cr, cs, rfl, hr, bel6⟩; have HR := Lib.hid hr; have HB6 := Lib.hid (HB5.out.keep (by omega) bel6); have W6 := Lib.hid (W5.out.trans (bel6.mono W5.out.size)); clear hr bel6)
    | (refine wpList_store_whole rfl rfl 63 _ _ rfl (B + 1 + 1) #[.slice none 0 0, .slice none 0 0] #[.slice or (dig N).length cr, .slice os (dig D).length cs] 63 rfl rfl HB6.out.z rfl HS.out (two_slices _ _ _ _ _ _) ?_; intro w7 ho hp))
  refine bodyPost_ret (results_cell_row rfl _ w7 (B + 1 + 1) _ _ _ _ rfl hp Tryd.underlying63 rfl HS.out) rfl ⟨or, os, cr, cs, rfl, ⟨HR.out.num.spared HB6.out.z two_noInt ho, HR.out.den.spared HB6.out.z two_noInt ho⟩, bel_only W6.out ho (by rw [HB.out]; omega)⟩
set_option maxHeartbeats 4000000 in
set_option maxRecDepth 100000 in
theorem refOrder_any (a b c d : Nat) (oa ob oc od : Option Addr) (ca cb cc cd : Nat) (w : World) (hX : NFr w a b oa ob) (hY : NFr w c d oc od) (l1 : (dig a).length < 274877906944) (l2 : (dig b).length < 274877906944) (l3 : (dig c).length < 274877906944) (l4 : (dig d).length < 274877906944) :
    Calls Tryd.prog 72 #[.agg #[.slice oa (dig a).length ca, .slice ob (dig b).length cb], .agg #[.slice oc (dig c).length cc, .slice od (dig d).length cd]] w fun e w' => e = .returned (.int .i64 (ND.cmpI (a * d) (c * b))) ∧ Below w.heap.size w w' := by
  have QN := Lib.hid (fun w h1 h2 => refMul_any a d oa od ca cd w h1 h2 (by omega) (by omega))
  have QD := Lib.hid (fun w h1 h2 => refMul_any c b oc ob cc cb w h1 h2 (by omega) (by omega))
  have m1 := length_mul a d
  have m2 := length_mul c b
  have QL := Lib.hid (fun on om cn cm w h1 h2 => refCompare_any (a * d) (c * b) on om cn cm w h1 h2 (by omega) (by omega))
  have HX := Lib.hid hX
  have HY := Lib.hid hY
  clear hX hY m1 m2
  go_enter Tryd.func72, Tryd.ntmps72
  go_upto_region 1 with (fail)
  have BX := Box2.mk' w #[.slice oa (dig a).length ca, .slice ob (dig b).length cb] #[.slice oc (dig c).length cc, .slice od (dig d).length cd] 63
  generalize hB : w.heap.size = B at *
  refine wp_abs (fun w1 => Box2 B w w1 #[.slice oa (dig a).length ca, .slice ob (dig b).length cb] #[.slice oc (dig c).length cc, .slice od (dig d).length cd] 63) BX (fun w1 B1 => ?_)
  have HB := Lib.hid hB
  have c1 := cell_of_row w1 B 0 _ _ _ B1.x
  have c2 := cell_of_row w1 B 1 _ _ _ B1.x
  have c3 := cell_of_row w1 (B + 1) 0 _ _ _ B1.y
  have c4 := cell_of_row w1 (B + 1) 1 _ _ _ B1.y
  have HB1 := Lib.hid B1
  clear BX hB B1
  refine Seg.wp_region_segs (fun w' => ∃ x : BelowT (B + 2) w1, w' = x.w) [([0, 1, 2, 3, 5, 6, 7, 8], 4)] [] 9 (by kernel_rfl) (by kernel_rfl) (fun _ _ d _ _ h => by cases d <;> exact h) (⟨⟨_, (Below.refl _ _).drew⟩, rfl⟩) ?_
  simp only [List.map_cons, List.map_nil, Seg.opAt, List.drop_succ_cons, List.drop_zero, Seg.wpSegs, Array.getD_eq_getD_getElem?, List.getElem?_toArray, List.getElem?_cons_succ, List.getElem?_cons_zero, Option.getD_some]
  repeat (any_goals (first | go_big_quiet_step (fail) | quiet_step (fail)))
  refine wpQuiet_nil ?_
  intro K hK
  simp only [Region.wanted, if_true]
  have hBs1 : B + 1 < w1.heap.size := lt_of_heap HB1.out.y
  have W1 := Lib.hid (show Below w.heap.size w w1 by rw [HB.out]; exact HB1.out.bel)
  have W1d := Lib.hid (show Below w.heap.size w w1.drew from W1.out.drew)
  go_wp2_with (go_at_call 79; refine (QN.out _ (HX.out.num.below W1d.out) (HY.out.den.below W1d.out)).mono ?_; rintro e w2 ⟨on, cn, rfl, hn, bel2⟩; have HN := Lib.hid hn; clear hn)
  have bel2' : Below w1.heap.size w1 w2 := undrew bel2
  refine hK _ _ ⟨⟨w2, bel2'.mono (by omega)⟩, rfl⟩ ?_
  have TB2 := Lib.hid (show Below (B + 2) w1 w2 from bel2'.mono (by omega))
  have W2 := Lib.hid (W1.out.trans (bel2'.mono W1.out.size))
  have HB2 := Lib.hid (HB1.out.keep (by omega) bel2')
  have hBs2 : B + 1 < w2.heap.size := lt_of_heap HB2.out.y
  clear hK K c1 c2 c3 c4 bel2 bel2' QN
  repeat (any_goals (first | go_big_quiet_step (fail) | quiet_step (fail)))
  refine wpQuiet_nil ?_
  go_wp2_with (first
    | (go_at_call 79; refine (QD.out w2 (HY.out.num.below W2.out) (HX.out.den.below W2.out)).mono ?_; rintro e w3 ⟨om, cm, rfl, hm, bel3⟩; have HM := Lib.hid hm; have W3 := Lib.hid (W2.out.trans (bel3.mono W2.out.size)); have HN3 := Lib.hid (HN.out.below bel3); clear hm bel3)
    | (go_at_call 92; refine (QL.out on om cn cm w3 HN3.out HM.out).mono ?_; rintro e w4 ⟨rfl, bel4⟩; have W4 := Lib.hid (W3.out.trans (bel4.mono W3.out.size)); clear bel4))
  go_ret
  exact ⟨rfl, W4.out⟩
end Go.Proofs.YtlbdcgnpkapncaaDoor
