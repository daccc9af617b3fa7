/-
  Chapter 13: the reference's Most. Printed by tools/genrmost.py.
-/
import Derived.Test.YtnohcdpnnhmpfaaCtQ
namespace Go.Proofs.Ytnohcdpnnhmpfaa
set_option linter.unusedVariables false
set_option linter.unusedSimpArgs false
open Go.RowKit ML FM AU CT

theorem bestL_trans (T : List Int) (lot : Int → List UInt8) (a b c : Int) (h1 : bestL T lot a b) (h2 : bestL T lot b c) : bestL T lot a c := by
  rcases h1 with h1 | ⟨e1, h1⟩ <;> rcases h2 with h2 | ⟨e2, h2⟩
  · exact .inl (by omega)
  · exact .inl (by omega)
  · exact .inl (by omega)
  · exact .inr ⟨by omega, ltL_trans lot a b c h1 h2⟩
/-- the best of the first m, but for those that are out -/
def BestOf (T : List Int) (lot : Int → List UInt8) (O out : List Int) (m : Nat) (b : Int) : Prop :=
  (b = -1 ∧ ∀ x ∈ O.take m, x ∈ out) ∨ (0 ≤ b ∧ b ∈ O.take m ∧ b ∉ out ∧ ∀ y ∈ O.take m, y ∉ out → y ≠ b → bestL T lot b y)
theorem bestOf_zero (T : List Int) (lot : Int → List UInt8) (O out : List Int) : BestOf T lot O out 0 (-1) := .inl ⟨rfl, by simp⟩
theorem bestOf_out {T : List Int} {lot : Int → List UInt8} {O out : List Int} {m : Nat} {b i : Int} (h : BestOf T lot O out m b) (hm : O.take (m + 1) = O.take m ++ [i]) (hi : i ∈ out) : BestOf T lot O out (m + 1) b := by
  rcases h with ⟨hb, h⟩ | ⟨h0, hb, ho, h⟩
  · refine .inl ⟨hb, fun x hx => ?_⟩
    rw [hm] at hx
    rcases List.mem_append.1 hx with hx | hx
    · exact h x hx
    · obtain rfl : x = i := by simpa using hx
      exact hi
  · refine .inr ⟨h0, by rw [hm]; exact List.mem_append_left _ hb, ho, fun y hy hyo hne => ?_⟩
    rw [hm] at hy
    rcases List.mem_append.1 hy with hy | hy
    · exact h y hy hyo hne
    · obtain rfl : y = i := by simpa using hy
      exact absurd hi hyo
theorem bestOf_first {T : List Int} {lot : Int → List UInt8} {O out : List Int} {m : Nat} {b i : Int} (h : BestOf T lot O out m b) (hb : b < 0) (hm : O.take (m + 1) = O.take m ++ [i]) (hi : i ∉ out) (h0 : 0 ≤ i) : BestOf T lot O out (m + 1) i := by
  rcases h with ⟨_, h⟩ | ⟨h1, _⟩
  · refine .inr ⟨h0, by rw [hm]; simp, hi, fun y hy hyo hne => ?_⟩
    rw [hm] at hy
    rcases List.mem_append.1 hy with hy | hy
    · exact absurd (h y hy) hyo
    · exact absurd (by simpa using hy) hne
  · omega
theorem bestOf_more {T : List Int} {lot : Int → List UInt8} {O out : List Int} {m : Nat} {b i : Int} (h : BestOf T lot O out m b) (hb : 0 ≤ b) (hm : O.take (m + 1) = O.take m ++ [i]) (hi : i ∉ out) (h0 : 0 ≤ i) (hT : T.getD b.toNat 0 < T.getD i.toNat 0) : BestOf T lot O out (m + 1) i := by
  rcases h with ⟨h1, _⟩ | ⟨_, hbm, hbo, h⟩
  · omega
  · have hib : bestL T lot i b := .inl hT
    refine .inr ⟨h0, by rw [hm]; simp, hi, fun y hy hyo hne => ?_⟩
    rw [hm] at hy
    rcases List.mem_append.1 hy with hy | hy
    · by_cases e : y = b
      · rw [e]; exact hib
      · exact bestL_trans T lot i b y hib (h y hy hyo e)
    · exact absurd (by simpa using hy) hne
theorem bestOf_keep {T : List Int} {lot : Int → List UInt8} {O out : List Int} {m : Nat} {b i : Int} (h : BestOf T lot O out m b) (hb : 0 ≤ b) (hm : O.take (m + 1) = O.take m ++ [i]) (hsrt : (O.take m ++ [i]).Pairwise (ltL lot)) (hT : ¬ T.getD b.toNat 0 < T.getD i.toNat 0) : BestOf T lot O out (m + 1) b := by
  rcases h with ⟨h1, _⟩ | ⟨_, hbm, hbo, h⟩
  · omega
  · refine .inr ⟨hb, by rw [hm]; exact List.mem_append_left _ hbm, hbo, fun y hy hyo hne => ?_⟩
    rw [hm] at hy
    rcases List.mem_append.1 hy with hy | hy
    · exact h y hy hyo hne
    · obtain rfl : y = i := by simpa using hy
      have hlt := (List.pairwise_append.1 hsrt).2.2 b hbm y (by simp)
      by_cases e : T.getD y.toNat 0 < T.getD b.toNat 0
      · exact .inl e
      · exact .inr ⟨by omega, hlt⟩
theorem bestOf_end {n : Nat} {T : List Int} {lot : Int → List UInt8} {O S : List Int} {j : Nat} {b : Int} (ho : Ord n lot O) (hs : Best n T lot S) (hj : j < S.length) (h : BestOf T lot O (S.take j) O.length b) : b = S[j] := by
  have hnd : ∀ a c (ha : a < S.length) (hc : c < S.length), a < c → S[a] ≠ S[c] := fun a c ha hc hac he => by
    have := List.pairwise_iff_getElem.1 hs.srt a c ha hc hac
    rw [he] at this
    exact bestL_asymm T lot _ _ this this
  have hjo : S[j] ∉ S.take j := fun hm => by
    obtain ⟨i, hi, he⟩ := List.mem_iff_getElem.1 hm
    rw [List.length_take] at hi
    rw [List.getElem_take] at he
    exact hnd i j (by omega) hj (by omega) he
  have hjO : S[j] ∈ O := (ho.perm.trans hs.perm.symm).mem_iff.2 (List.getElem_mem hj)
  rw [BestOf, List.take_length] at h
  rcases h with ⟨_, h⟩ | ⟨_, hb, hbo, h⟩
  · exact absurd (h _ hjO) hjo
  · by_cases e : S[j] = b
    · exact e.symm
    · have h1 := h _ hjO hjo e
      obtain ⟨i, hi, he⟩ := List.mem_iff_getElem.1 ((ho.perm.trans hs.perm.symm).mem_iff.1 hb)
      have hji : j < i := by
        rcases Nat.lt_or_ge i j with hlt | hge
        · exact absurd (by rw [← he]; exact List.mem_take_iff_getElem.2 ⟨i, by omega, rfl⟩) hbo
        · rcases Nat.eq_or_lt_of_le hge with h2 | h2
          · subst h2; exact absurd he e
          · exact h2
      have h2 := List.pairwise_iff_getElem.1 hs.srt j i hj hi hji
      rw [he] at h2
      exact (bestL_asymm T lot _ _ h1 h2).elim
def sliceLen : Value → Nat
  | .slice _ n _ => n
  | _ => 0
set_option maxHeartbeats 4000000 in
set_option maxRecDepth 100000 in
theorem refMost_any (c : CTest) (T : List Int) (lots : Bytes) (S : List Int) (hS : mostE c T = 0 → Best c.op.length T (lotF c lots) S) (oa : Option Addr) (cap : Nat) (ot : Option Addr) (ct : Nat) (w : World) (hs : StrsAt w oa c.op) (hT : IsAt w ot T) (hf : c.Fits lots) (hnl : c.op.length < 9223372036854775807) (htl : T.length < 9223372036854775807) :
    Calls Try.prog 9 #[.agg (c.cells oa cap).toArray, .slice ot T.length ct, .string ⟨lots.toArray⟩] w (MostGot c lots T w) := by
  have hC : (c.cells oa cap).toArray = #[.string ⟨c.nm.toArray⟩, .slice oa c.op.length cap, .int .i64 c.rl, .int .i64 c.se, .int .i64 c.mo] := rfl
  have QD := Lib.hid (fun w h => refLots_any c lots oa cap w h hf hnl)
  rw [hC] at QD ⊢
  clear hC hf
  have HS := Lib.hid hs
  have HT := Lib.hid hT
  have HSS := Lib.hid hS
  have HME := Lib.hid (show mostE c T = if wrongC c = true then 2 else if T.length ≠ c.op.length then 2 else if negB T = true then 4 else 0 from rfl)
  clear hs hT hS
  unfold LotsGot at QD
  go_enter Try.func9, Try.ntmps9
  go_upto_region 1 with (fail)
  generalize hB : w.heap.size = B at *
  refine wp_abs (fun w1 => Below B w w1 ∧ w1.heap[B]? = some (.cells #[.string ⟨c.nm.toArray⟩, .slice oa c.op.length cap, .int .i64 c.rl, .int .i64 c.se, .int .i64 c.mo] 24 (0, 0))) ⟨by rw [← hB]; exact (Below.refl _ _).alloc (Nat.le_refl _) _, by rw [← hB]; exact heap_at rfl⟩ (fun w1 hw1 => ?_)
  have HB := Lib.hid hB
  have B1 := Lib.hid hw1.1
  have X1 := Lib.hid hw1.2
  have hBs : B < w1.heap.size := lt_of_heap hw1.2
  have k0 : w1.cell? ⟨B, 0, none⟩ = some (.string ⟨c.nm.toArray⟩) := cell_of_row w1 B 0 _ _ _ hw1.2
  have k1 : w1.cell? ⟨B, 1, none⟩ = some (.slice oa c.op.length cap) := cell_of_row w1 B 1 _ _ _ hw1.2
  have k2 : w1.cell? ⟨B, 2, none⟩ = some (.int .i64 c.rl) := cell_of_row w1 B 2 _ _ _ hw1.2
  have k3 : w1.cell? ⟨B, 3, none⟩ = some (.int .i64 c.se) := cell_of_row w1 B 3 _ _ _ hw1.2
  clear hB hw1
  clear k0 k2
  have Q1 := Lib.hid (QD.out w1 (HS.out.below (HB.out.symm ▸ B1.out)))
  clear QD
  cases hW : wrongC c with
  | true =>
    rw [hW] at Q1 HME
    have HE2 := Lib.hid (HME.out.trans (if_pos rfl))
    clear hW HME
    go_wp2_with (first | (refine wpList_load_whole rfl 24 _ rfl B _ _ _ _ rfl X1.out Try.underlying24 rfl size_contest ?_) | (go_at_call 6; refine Q1.out.mono ?_; rintro e w3 ⟨b3, h3⟩; rw [if_pos rfl] at h3; subst h3))
    go_ret2
    have hE : mostE c T = 2 := HE2.out
    exact ⟨by rw [HB.out]; exact B1.out.trans (b3.mono (Nat.le_of_lt hBs)), by rw [if_neg (by rw [hE]; decide), hE]; rfl⟩
  | false =>
  rw [hW] at Q1 HME
  have HW := Lib.hid hW
  clear hW
  have HM2 := Lib.hid (HME.out.trans (if_neg (by decide)))
  clear HME
  go_upto_region 2 with (first | (refine wpList_load_whole rfl 24 _ rfl B _ _ _ _ rfl X1.out Try.underlying24 rfl size_contest ?_) | (go_at_call 6; refine Q1.out.mono ?_; rintro e w3 ⟨b3, h3⟩; rw [if_neg (by decide)] at h3; obtain ⟨O, oO, cO, hO, hIO, rfl⟩ := h3; have HO := Lib.hid hO; have HIO := Lib.hid hIO; clear hO hIO))
  have X3 := Lib.hid (bel_keep b3 hBs X1.out)
  have B3 := Lib.hid (B1.out.trans (b3.mono (Nat.le_of_lt hBs)))
  have HT3 := Lib.hid (HT.out.below (HB.out.symm ▸ B3.out))
  clear k1 k3 Q1 b3 X1 B1 hBs
  have k1 : w3.cell? ⟨B, 1, none⟩ = some (.slice oa c.op.length cap) := cell_of_row w3 B 1 _ _ _ X3.out
  by_cases hlen : T.length = c.op.length
  case neg =>
    have hE := Lib.hid (HM2.out.trans (if_pos hlen))
    have e1 : ((T.length : Int) != (c.op.length : Int)) = true := by rw [bne_iff_ne]; omega
    have e2 : (T.length != c.op.length) = true := by rw [bne_iff_ne]; exact hlen
    clear HM2 hlen
    go_wp2_with fail
    go_ret2
    exact ⟨by rw [HB.out]; exact B3.out, by rw [if_neg (by rw [hE.out]; decide), hE.out]; rfl⟩
  have HM3 := Lib.hid (HM2.out.trans (if_neg (fun h => h hlen)))
  clear HM2
  have hn := Lib.hid (show 1 ≤ c.op.length ∧ c.op.length ≤ 12 ∧ 1 ≤ c.se ∧ c.se ≤ c.op.length by have := HW.out; unfold wrongC at this; have := of_decide_eq_false this; omega)
  have e1 : ((T.length : Int) != (c.op.length : Int)) = false := by rw [bne_eq_false_iff_eq]; omega
  have e2 : (T.length != c.op.length) = false := by rw [bne_eq_false_iff_eq]; exact hlen
  have HLEN := Lib.hid hlen
  clear hlen
  go_wp2_with fail
  clear e1 e2 k1
  go_loop [33] (fun i => ∃ k : Nat, k ≤ T.length ∧ i = .int .i64 k ∧ negB (T.take k) = false) (fun i => T.length - (intOf i).toNat)
  case atStart => exact ⟨0, by omega, rfl, rfl⟩
  case round =>
  obtain ⟨k, hk, rfl, hneg⟩ := hrel
  have HNG := Lib.hid hneg
  clear hneg
  by_cases hlt : k < T.length
  · have dk : decide ((k : Int) < (T.length : Int)) = true := decide_eq_true (by omega)
    have dk2 : decide (k < T.length) = true := decide_eq_true hlt
    have hki : (k : Int) < (T.length : Int) := by omega
    obtain ⟨q, hoa, hqb, hqc⟩ := HT3.out.cells k hlt
    subst hoa
    have HN1 := Lib.hid (show negB (T.take (k + 1)) = decide (T[k] < 0) by
      have := HNG.out
      unfold negB at *
      rw [List.take_succ_eq_append_getElem hlt, List.any_append, this]; simp)
    have HN2 := Lib.hid (fun h : T[k] < 0 => (show negB T = true from List.any_eq_true.2 ⟨T[k], List.getElem_mem hlt, by simpa using h⟩))
    generalize T[k] = x at *
    by_cases hx : x < 0
    · have dx : decide (x < 0) = true := decide_eq_true hx
      have hE := Lib.hid (HM3.out.trans (if_pos (HN2.out hx)))
      clear hx HN1 HN2 HM3
      go_wp2_with fail
      go_ret2
      exact ⟨by rw [HB.out]; exact B3.out, by rw [if_neg (by rw [hE.out]; decide), hE.out]; rfl⟩
    · have dx : decide (x < 0) = false := decide_eq_false hx
      have HN3 := Lib.hid (HN1.out.trans dx)
      clear hx HN1 HN2
      go_wp2_with fail
      go_round
      case rel => exact ⟨k + 1, by omega, by go_num, HN3.out⟩
      case measure => simp [intOf]; omega
  have dk : decide ((k : Int) < (T.length : Int)) = false := decide_eq_false (by omega)
  have dk2 : decide (k < T.length) = false := decide_eq_false hlt
  obtain rfl : k = T.length := by omega
  rw [List.take_length] at HNG
  have hE := Lib.hid (HM3.out.trans (if_neg (by rw [HNG.out]; decide)))
  clear HM3 hk hlt
  have HBS := Lib.hid (HSS.out hE.out)
  clear HSS HNG
  obtain ⟨se, hse⟩ : ∃ se : Nat, c.se = (se : Int) := ⟨c.se.toNat, by have := hn.out; omega⟩
  have HSE := Lib.hid hse
  have hsn : se ≤ c.op.length := by have := hn.out; omega
  have hn12 : c.op.length ≤ 12 := hn.out.2.1
  have hSl := Lib.hid HBS.out.len
  have HOl := Lib.hid HO.out.len
  obtain ⟨i0, hi, hz0, hz1, hz2⟩ := info_parts info_i64
  have HI := Lib.hid hi
  have HZ0 := Lib.hid hz0
  have HZ1 := Lib.hid hz1
  have HZ2 := Lib.hid hz2
  clear hi hz0 hz1 hz2 hse
  go_wp2_with fail
  clear dk dk2
  as_aux_lemma =>
  obtain ⟨M, hM⟩ : ∃ M, M = w3.heap.size := ⟨_, rfl⟩
  have hBM : B < M := by have := lt_of_heap X3.out; omega
  have HM := Lib.hid hM
  clear hM
  go_loopw [12] (fun vo wr => ∃ j : Nat, j ≤ se ∧ wr.ownsRow M 3 1 vo j (ivals (S.take j)) ∧ Below M w3 wr) (fun vo _ => se - sliceLen vo)
  case atStart => exact ⟨0, by omega, World.ownsRow_nil _ _ _ _, Below.refl _ _⟩
  case round =>
  obtain ⟨j, hj, hown, hbel⟩ := hrel
  have hjl : (S.take j).length = j := by rw [List.length_take]; have := hSl.out; omega
  obtain ⟨ob, cb, hvo, -, -⟩ := isAt_own hown
  rw [hjl] at hvo
  subst hvo
  have OWN := Lib.hid hown
  have BE := Lib.hid hbel
  have HJL := Lib.hid hjl
  clear hown hbel hjl
  have k3 : wr.cell? ⟨B, 3, none⟩ = some (.int .i64 c.se) := cell_of_row wr B 3 _ _ _ (bel_keep BE.out hBM X3.out)
  have hMs : M ≤ wr.heap.size := by have := BE.out.size; rw [← HM.out] at this; exact this
  by_cases hlt : j < se
  · have dj : decide ((j : Int) < c.se) = true := decide_eq_true (by rw [HSE.out]; omega)
    have hjS : j < S.length := by have := hSl.out; omega
    go_wp2_with fail
    clear k3 dj
    as_aux_lemma =>
    go_loopw [47, 13] (fun i vb wr => ∃ (m : Nat) (b : Int), m ≤ O.length ∧ i = .int .i64 m ∧ vb = .int .i64 b ∧ BestOf T (lotF c lots) O (S.take j) m b ∧ wr.ownsRow M 3 1 (.slice ob j cb) j (ivals (S.take j)) ∧ Below M w3 wr) (fun i _ _ => O.length - (intOf i).toNat)
    case atStart => exact ⟨0, -1, by omega, rfl, rfl, bestOf_zero _ _ _ _, OWN.out, BE.out⟩
    case round =>
    clear OWN BE hMs
    obtain ⟨m, b, hm, rfl, rfl, hbo, hown, hbel⟩ := hrel
    have OWN := Lib.hid hown
    have BE := Lib.hid hbel
    have HBO := Lib.hid hbo
    clear hown hbel hbo
    have hMs : M ≤ wr.heap.size := by have := BE.out.size; rw [← HM.out] at this; exact this
    have hO12 : O.length ≤ 12 := by have := HOl.out; omega
    by_cases hlo : m < O.length
    · as_aux_lemma =>
      have dm : decide ((m : Int) < (O.length : Int)) = true := decide_eq_true (by omega)
      have dm2 : decide (m < O.length) = true := decide_eq_true hlo
      have hmi : (m : Int) < (O.length : Int) := by omega
      obtain ⟨q, hoa, hqb, hqc⟩ := (HIO.out.below (HM.out ▸ BE.out)).cells m hlo
      subst hoa
      obtain ⟨o, ho⟩ : ∃ o : Nat, O[m] = (o : Int) := ⟨O[m].toNat, by have := HO.out.mem.1 (List.getElem_mem hlo); omega⟩
      have hon : o < c.op.length := by have := HO.out.mem.1 (List.getElem_mem hlo); rw [ho] at this; omega
      have HTK := Lib.hid (show O.take (m + 1) = O.take m ++ [(o : Int)] by rw [List.take_succ_eq_append_getElem hlo, ho])
      have HPW := Lib.hid (show (O.take m ++ [(o : Int)]).Pairwise (ltL (lotF c lots)) by rw [← HTK.out]; exact HO.out.srt.sublist (List.take_sublist _ _))
      rw [ho] at hqc
      clear ho
      have hoT : o < T.length := by rw [HLEN.out]; exact hon
      obtain ⟨qt, hot, hqtb, hqtc⟩ := (HT3.out.below (HM.out ▸ BE.out)).cells o hoT
      subst hot
      have HTO := Lib.hid (show T.getD o 0 = T[o] by rw [List.getD_eq_getElem?_getD, List.getElem?_eq_getElem hoT]; rfl)
      have hoz : (o : Int) < (T.length : Int) := by omega
      obtain ⟨tv, hto⟩ : ∃ tv, tv = T[o] := ⟨_, rfl⟩
      rw [← hto] at hqtc HTO
      clear hto
      obtain ⟨oS, cS, hvS, -, hIS⟩ := isAt_own OWN.out
      obtain ⟨rfl, rfl⟩ : ob = oS ∧ cb = cS := by injection hvS with h1 _ h3; exact ⟨h1, h3⟩
      have QI := Lib.hid (fun w' (h : IsAt w' ob (S.take j)) => refIn_any ob (S.take j) cb (o : Int) w' h (by rw [HJL.out]; omega))
      rw [HJL.out] at QI
      have QI2 := Lib.hid (QI.out wr.drew (hIS.below (Below.refl _ _).drew))
      clear hvS hIS QI
      obtain ⟨N, hN⟩ : ∃ N, N = wr.heap.size := ⟨_, rfl⟩
      have hx0 : Below N wr wr.drew := (Below.refl _ _).drew
      have HQT := Lib.hid hqtc
      have dq : ∀ x : BelowT N wr, x.w.cell? (qt.add o) = some (.int .i64 tv) := fun x => (x.2.cell (by rw [addr_block, hN]; exact hqtb)).trans HQT.out
      have HBN := Lib.hid (fun (bn : Nat) (hb : bn < T.length) => (show ∀ x : BelowT N wr, x.w.cell? (qt.add bn) = some (.int .i64 (T[bn])) from fun x => by
        obtain ⟨q3, h3, h4, h5⟩ := (HT3.out.below (HM.out ▸ BE.out)).cells bn hb
        obtain rfl : qt = q3 := by injection h3
        exact (x.2.cell (by rw [addr_block, hN]; exact h4)).trans h5))
      clear hN hqtc
      go_upto_region 18 with (fail)
      clear hqc hqb hmi
      cases hin : decide ((o : Int) ∈ S.take j) with
      | true =>
        rw [hin] at QI2
        have HIN := Lib.hid (of_decide_eq_true hin)
        clear hin
        refine Seg.wp_region_segs (fun w' => ∃ x : BelowT N wr, w' = x.w) [([0, 1], 2)] [3, 4, 5, 6, 7, 8, 9, 10, 11, 12, 13, 14, 15] 16 (by kernel_rfl) (by kernel_rfl) (fun _ _ d _ _ h => by cases d <;> exact h) (⟨⟨_, hx0⟩, rfl⟩) ?_
        simp only [List.map_cons, List.map_nil, Seg.opAt, List.drop_succ_cons, List.drop_zero, Seg.wpSegs, Array.getD_eq_getD_getElem?, List.getElem?_toArray, List.getElem?_cons_succ, List.getElem?_cons_zero, Option.getD_some]
        repeat (any_goals (first | go_big_quiet_step (fail) | quiet_step (fail)))
        refine wpQuiet_nil ?_
        intro K hK
        simp only [Region.wanted, if_true]
        go_wp2_with (go_at_call 23; refine QI2.out.mono ?_; rintro e w5 ⟨rfl, rfl⟩)
        refine hK _ _ ⟨⟨_, hx0⟩, rfl⟩ ?_
        clear hK K
        repeat (any_goals (first | go_big_quiet_step (fail) | quiet_step (fail)))
        refine wpQuiet_nil ?_
        go_wp2_with fail
        go_roundw
        case rel => exact ⟨m + 1, b, by omega, by go_num, rfl, bestOf_out HBO.out HTK.out HIN.out, ownsRow_drew OWN.out, BE.out.drew⟩
        case measure => simp [intOf]; omega
      | false =>
        rw [hin] at QI2
        have HIN := Lib.hid (of_decide_eq_false hin)
        clear hin
        by_cases hb : b < 0
        · have db : decide (b < 0) = true := decide_eq_true hb
          have HBF := Lib.hid (bestOf_first HBO.out hb HTK.out HIN.out (by omega))
          clear hb
          refine Seg.wp_region_segs (fun w' => ∃ x : BelowT N wr, w' = x.w) [([0, 1], 2)] [3, 4, 5, 6, 7, 8, 9, 10, 11, 12, 13, 14, 15] 16 (by kernel_rfl) (by kernel_rfl) (fun _ _ d _ _ h => by cases d <;> exact h) (⟨⟨_, hx0⟩, rfl⟩) ?_
          simp only [List.map_cons, List.map_nil, Seg.opAt, List.drop_succ_cons, List.drop_zero, Seg.wpSegs, Array.getD_eq_getD_getElem?, List.getElem?_toArray, List.getElem?_cons_succ, List.getElem?_cons_zero, Option.getD_some]
          repeat (any_goals (first | go_big_quiet_step (fail) | quiet_step (fail)))
          refine wpQuiet_nil ?_
          intro K hK
          simp only [Region.wanted, if_true]
          go_wp2_with (go_at_call 23; refine QI2.out.mono ?_; rintro e w5 ⟨rfl, rfl⟩)
          refine hK _ _ ⟨⟨_, hx0⟩, rfl⟩ ?_
          clear hK K
          repeat (any_goals (first | go_big_quiet_step (fail) | quiet_step (fail)))
          refine wpQuiet_nil ?_
          go_wp2_with fail
          go_roundw
          case rel => exact ⟨m + 1, o, by omega, by go_num, rfl, HBF.out, ownsRow_drew OWN.out, BE.out.drew⟩
          case measure => simp [intOf]; omega
        · obtain ⟨bn, rfl⟩ : ∃ bn : Nat, b = bn := ⟨b.toNat, by omega⟩
          have hbT : bn < T.length := by
            rcases HBO.out with ⟨h1, _⟩ | ⟨_, h2, _⟩
            · omega
            · have := HO.out.mem.1 (List.mem_of_mem_take h2)
              rw [HLEN.out]; omega
          have db : decide ((bn : Int) < 0) = false := decide_eq_false (by omega)
          have hbz : (bn : Int) < (T.length : Int) := by omega
          have dqb := HBN.out bn hbT
          have HTB := Lib.hid (show T.getD bn 0 = T[bn] by rw [List.getD_eq_getElem?_getD, List.getElem?_eq_getElem hbT]; rfl)
          clear hb HBN
          obtain ⟨tb, htb⟩ : ∃ tb, tb = T[bn] := ⟨_, rfl⟩
          rw [← htb] at dqb HTB
          clear htb
          by_cases hT2 : tb < tv
          · have dT : decide (tb < tv) = true := decide_eq_true hT2
            have HBF := Lib.hid (bestOf_more HBO.out (by omega) HTK.out HIN.out (by omega) (by rw [Int.toNat_natCast, Int.toNat_natCast, HTO.out, HTB.out]; exact hT2))
            clear hT2
            refine Seg.wp_region_segs (fun w' => ∃ x : BelowT N wr, w' = x.w) [([0, 1], 2)] [3, 4, 5, 6, 7, 8, 9, 10, 11, 12, 13, 14, 15] 16 (by kernel_rfl) (by kernel_rfl) (fun _ _ d _ _ h => by cases d <;> exact h) (⟨⟨_, hx0⟩, rfl⟩) ?_
            simp only [List.map_cons, List.map_nil, Seg.opAt, List.drop_succ_cons, List.drop_zero, Seg.wpSegs, Array.getD_eq_getD_getElem?, List.getElem?_toArray, List.getElem?_cons_succ, List.getElem?_cons_zero, Option.getD_some]
            repeat (any_goals (first | go_big_quiet_step (fail) | quiet_step (fail)))
            refine wpQuiet_nil ?_
            intro K hK
            simp only [Region.wanted, if_true]
            go_wp2_with (go_at_call 23; refine QI2.out.mono ?_; rintro e w5 ⟨rfl, rfl⟩)
            refine hK _ _ ⟨⟨_, hx0⟩, rfl⟩ ?_
            clear hK K
            repeat (any_goals (first | go_big_quiet_step (fail) | quiet_step (fail)))
            refine wpQuiet_nil ?_
            go_wp2_with fail
            go_roundw
            case rel => exact ⟨m + 1, o, by omega, by go_num, rfl, HBF.out, ownsRow_drew OWN.out, BE.out.drew⟩
            case measure => simp [intOf]; omega
          · have dT : decide (tb < tv) = false := decide_eq_false hT2
            have HBF := Lib.hid (bestOf_keep HBO.out (by omega) HTK.out HPW.out (by rw [Int.toNat_natCast, Int.toNat_natCast, HTO.out, HTB.out]; exact hT2))
            clear hT2
            refine Seg.wp_region_segs (fun w' => ∃ x : BelowT N wr, w' = x.w) [([0, 1], 2)] [3, 4, 5, 6, 7, 8, 9, 10, 11, 12, 13, 14, 15] 16 (by kernel_rfl) (by kernel_rfl) (fun _ _ d _ _ h => by cases d <;> exact h) (⟨⟨_, hx0⟩, rfl⟩) ?_
            simp only [List.map_cons, List.map_nil, Seg.opAt, List.drop_succ_cons, List.drop_zero, Seg.wpSegs, Array.getD_eq_getD_getElem?, List.getElem?_toArray, List.getElem?_cons_succ, List.getElem?_cons_zero, Option.getD_some]
            repeat (any_goals (first | go_big_quiet_step (fail) | quiet_step (fail)))
            refine wpQuiet_nil ?_
            intro K hK
            simp only [Region.wanted, if_true]
            go_wp2_with (go_at_call 23; refine QI2.out.mono ?_; rintro e w5 ⟨rfl, rfl⟩)
            refine hK _ _ ⟨⟨_, hx0⟩, rfl⟩ ?_
            clear hK K
            repeat (any_goals (first | go_big_quiet_step (fail) | quiet_step (fail)))
            refine wpQuiet_nil ?_
            go_wp2_with fail
            go_roundw
            case rel => exact ⟨m + 1, bn, by omega, by go_num, rfl, HBF.out, ownsRow_drew OWN.out, BE.out.drew⟩
            case measure => simp [intOf]; omega
    · as_aux_lemma =>
      have dm : decide ((m : Int) < (O.length : Int)) = false := decide_eq_false (by omega)
      have dm2 : decide (m < O.length) = false := decide_eq_false hlo
      obtain rfl : m = O.length := by omega
      have hb := bestOf_end HO.out HBS.out hjS HBO.out
      have HTS := Lib.hid (show S.take (j + 1) = S.take j ++ [b] by rw [hb]; exact List.take_succ_eq_append_getElem hjS)
      have OWA := Lib.hid (OWN.out.alloc (.cells #[.int .i64 b] 3))
      clear hb
      have hj12 : j < 12 := by omega
      go_wp2_with (at_builtin; refine wpList_append_lies _ rfl (.tmp 72) (.tmp 74) 25 rfl M 3 i0 (.int .i64 0) 1 8 Try.underlying25 HI.out HZ0.out HZ1.out HZ2.out rfl (by decide) (.slice ob j cb) j (ivals (S.take j)) rfl OWA.out ⟨wr.heap.size, 0, none⟩ 1 1 (ivals [b]) rfl rfl (news_blk (heap_at rfl)) (ivals_one _) (by decide) (by unfold maxLen; omega) (by omega) (by simp; omega) _ rfl (fun g cp w4 own hg hf hglt => ?_))
      rw [ivals_append, ← HTS.out] at own
      have OW4 := Lib.hid own
      have hb4 := Lib.hid ((BE.out.alloc hMs (.cells #[.int .i64 b] 3)).grown hg (by simp; omega) (fun k hk => (OWN.out.lt k hk).1))
      clear own hg hf hglt
      go_roundw
      case rel => exact ⟨j + 1, by omega, OW4.out, hb4.out⟩
      case measure => simp [sliceLen]; omega
  · have dj : decide ((j : Int) < c.se) = false := decide_eq_false (by rw [HSE.out]; omega)
    have HJS := Lib.hid (show j = se by omega)
    go_wp2_with fail
    go_ret2
    obtain ⟨oS, cS, hvS, -, hIS⟩ := isAt_own OWN.out
    obtain ⟨rfl, rfl⟩ : ob = oS ∧ cb = cS := by injection hvS with h1 _ h3; exact ⟨h1, h3⟩
    refine ⟨by rw [HB.out]; exact B3.out.trans (BE.out.mono (Nat.le_of_lt hBM)), ?_⟩
    rw [if_pos hE.out]
    refine ⟨S, ob, cb, HBS.out, by rw [HSE.out, Int.toNat_natCast, ← HJS.out]; exact hIS, ?_⟩
    rw [HSE.out, Int.toNat_natCast, ← HJS.out, HJL.out]
    rfl
end Go.Proofs.Ytnohcdpnnhmpfaa
