/-
  Chapter 13, Transfer: count.transfer. Printed by tools/gentrans.py.
-/
import Derived.Test.YtnohcdpnnhmpfaaGreatDoorBTz
namespace Go.Proofs.YtnohcdpnnhmpfaaGreatDoor.TR
set_option linter.unusedVariables false
set_option linter.unusedSimpArgs false
open Go.RowKit ML FRP AU CT FM

theorem size_trans : (Tryz.prog.info? 31).map (·.size) = some 4 := by kernel_rfl
theorem size_round : (Tryz.prog.info? 44).map (·.size) = some 5 := by kernel_rfl
theorem built_trans (a b : ByteArray) : Tryz.prog.built 31 [(0, .agg #[.string a, .string b])] = some #[.string a, .string b, .slice none 0 0, .slice none 0 0] := by kernel_rfl
theorem built_round (a b : ByteArray) : Tryz.prog.built 44 [(1, .agg #[.string a, .string b])] = some #[.slice none 0 0, .string a, .string b, .int .i64 0, .slice none 0 0] := by kernel_rfl
theorem four_one (a b : ByteArray) (x y : Value) (hx : x.oneCell' = true) (hy : y.oneCell' = true) : (#[Value.string a, Value.string b, x, y] : Array Value).all (·.oneCell') = true := by
  have h1 : (Value.string a).oneCell' = true := rfl
  have h2 : (Value.string b).oneCell' = true := rfl
  simp [h1, h2, hx, hy]
theorem five_one (a b : ByteArray) (x y z : Value) (hx : x.oneCell' = true) (hy : y.oneCell' = true) (hz : z.oneCell' = true) : (#[x, Value.string a, Value.string b, y, z] : Array Value).all (·.oneCell') = true := by
  have h1 : (Value.string a).oneCell' = true := rfl
  have h2 : (Value.string b).oneCell' = true := rfl
  simp [h1, h2, hx, hy, hz]
theorem round_uni {K : HK} {s : Nat} {q : Fr} {S : St} {G : HG} {w w' : World} {e : Ending} (h : RoundGot K s q S G w e w') : ∃ (d nv : Nat) (ov : Option Addr) (cv : Nat) (more : Bool), e = .returned (.tuple #[.int .i64 (d : Int), .slice ov nv cv, .bool more]) ∧ ∃ (G' : HG) (S' : St), HallAt K q S' G' w' ∧ HStep K G w G' w' ∧
    ((more = false ∧ End K.m s q K.On S ∧ S' = S ∧ G' = G) ∨
      (more = true ∧ ∃ (who : List Nat), who.length = nv ∧ Dec K.m s q K.On S d who ∧ w'.ownsRow w.heap.size 3 1 (.slice ov nv cv) who.length (ivals (nats who)) ∧ (∀ x, (Value.slice ov nv cv).ownBlock = some x → ¬ Mine K G' x) ∧ S' = S.next K.m q d who ∧ Full K S' G')) := by
  rcases h with ⟨h1, rfl, h2, h3⟩ | ⟨d, who, ob, cb, G', h1, rfl, h2, h3, h4, h5, h6⟩
  · exact ⟨0, 0, none, 0, false, rfl, G, S, h2, h3, .inl ⟨rfl, h1, rfl, rfl⟩⟩
  · exact ⟨d, _, _, _, true, rfl, G', _, h4, h5, .inr ⟨rfl, who, rfl, h1, h2, h3, rfl, h6⟩⟩
theorem info_round : (Tryz.prog.info? 44).map (fun i => (i.zero, i.size, i.bytes)) = some (some (.agg #[.slice none 0 0, .string ⟨#[]⟩, .string ⟨#[]⟩, .int .i64 0, .slice none 0 0]), 5, 88) := by kernel_rfl
theorem five_good (a b : ByteArray) (o1 o2 : Option Addr) (n1 n2 c1 c2 : Nat) (d : Int) : (∀ u ∈ [Value.slice o1 n1 c1, .string a, .string b, .int .i64 d, .slice o2 n2 c2], u.oneCell' = true) ∧ (∀ u ∈ [Value.slice o1 n1 c1, .string a, .string b, .int .i64 d, .slice o2 n2 c2], noLimb u = true) := by
  constructor <;>
  · intro u hu
    simp only [List.mem_cons, List.not_mem_nil, or_false] at hu
    rcases hu with rfl | rfl | rfl | rfl | rfl <;> rfl
theorem zero_round_good : ∀ u ∈ (Value.agg #[.slice none 0 0, .string ⟨#[]⟩, .string ⟨#[]⟩, .int .i64 0, .slice none 0 0]).cells.toList, noLimb u = true := by
  intro u hu
  have h : u ∈ [Value.slice none 0 0, .string ⟨#[]⟩, .string ⟨#[]⟩, .int .i64 0, .slice none 0 0] := by simpa [Value.cells] using hu
  exact (five_good _ _ _ _ _ _ _ _ _).2 u h
theorem info_said : (Tryz.prog.info? 27).map (fun i => (i.zero, i.size, i.bytes)) = some (some (.agg #[.string ⟨#[]⟩, .string ⟨#[]⟩]), 2, 32) := by kernel_rfl
theorem fvals_noLimb (F : List (Bytes × Bytes)) : ∀ v ∈ fvals F, noLimb v = true := by
  intro v hv
  unfold fvals at hv
  obtain ⟨p, _, hp⟩ := List.mem_flatMap.1 hv
  simp only [fcell, List.mem_cons, List.not_mem_nil, or_false] at hp
  rcases hp with rfl | rfl <;> rfl
theorem fvals_take (F : List (Bytes × Bytes)) (j : Nat) (h : j < F.length) : fvals (F.take j) ++ fvals [F[j]] = fvals (F.take (j + 1)) := by
  rw [fvals_append, List.take_append_getElem]
set_option maxHeartbeats 16000000 in
set_option maxRecDepth 100000 in
theorem transfer_any (c : CTest) (oa : Option Addr) (cap : Nat) (oO : Option Addr) (cO : Nat) (oP : Option Addr) (cP : Nat) (O P : List Int) (Bs : List (Value × List Int)) (ob : Option Addr) (cb : Nat) (w : World)
    (hord : IsAt w oO O) (hplc : IsAt w oP P) (hP : PsAt w ob Bs) (hn1 : 1 ≤ c.op.length) (hn12 : c.op.length ≤ 12) (hm : Bs.length ≤ 4096) (hR : ∀ p ∈ Bs, Rnk c.op.length p.2) (hse : 1 ≤ c.se ∧ c.se ≤ c.op.length)
    (hol : O.length = c.op.length) (hpl : P.length = c.op.length) (hmem : ∀ x, x ∈ O ↔ 0 ≤ x ∧ x < (c.op.length : Int)) (hplc2 : ∀ k (hk : k < O.length), P[O[k].toNat]? = some (k : Int)) (hond : O.Nodup) :
    Calls Tryz.prog 30 #[.agg #[.string ⟨c.nm.toArray⟩, .slice oa c.op.length cap, .int .i64 c.rl, .int .i64 c.se, .int .i64 c.mo, .slice oO O.length cO, .slice oP P.length cP], .slice ob Bs.length cb] w (TransGot c.op.length Bs.length c.se.toNat (quotaF Bs.length c.se.toNat) (O.map Int.toNat) (S0 c.op.length (ranksOf Bs) Bs.length) w) := by
  have QN := Lib.hid (fun w1 h1 h2 h3 => newHall_any c oa cap oO cO oP cP O P Bs ob cb w1 h1 h2 h3 hn1 hn12 hm hR hse hol hpl hmem hplc2 hond)
  have HORD := Lib.hid hord
  have HPLC := Lib.hid hplc
  have HPS := Lib.hid hP
  have HR := Lib.hid hR
  have HOT := Lib.hid (show ∀ i, i ∈ O.map Int.toNat ↔ i < c.op.length from fun i => by
    rw [List.mem_map]
    constructor
    · rintro ⟨x, hx, rfl⟩
      have := (hmem x).1 hx
      omega
    · intro hi
      exact ⟨(i : Int), (hmem _).2 ⟨by omega, by omega⟩, by simp⟩)
  clear hord hplc hP hR hol hpl hplc2
  go_enter Tryz.func30, Tryz.ntmps30
  go_upto_region 1 with (fail)
  have hbA : Below w.heap.size w ((w.alloc (.cells #[.string ⟨c.nm.toArray⟩, .slice oa c.op.length cap, .int .i64 c.rl, .int .i64 c.se, .int .i64 c.mo, .slice oO O.length cO, .slice oP P.length cP] 62)).alloc (.cells #[.string ⟨#[]⟩, .string ⟨#[]⟩, .slice none 0 0, .slice none 0 0] 31)) := ((Below.refl _ _).alloc (Nat.le_refl _) _).alloc (by simp) _
  have hc1 : ((w.alloc (.cells #[.string ⟨c.nm.toArray⟩, .slice oa c.op.length cap, .int .i64 c.rl, .int .i64 c.se, .int .i64 c.mo, .slice oO O.length cO, .slice oP P.length cP] 62)).alloc (.cells #[.string ⟨#[]⟩, .string ⟨#[]⟩, .slice none 0 0, .slice none 0 0] 31)).heap[w.heap.size]? = some (.cells #[.string ⟨c.nm.toArray⟩, .slice oa c.op.length cap, .int .i64 c.rl, .int .i64 c.se, .int .i64 c.mo, .slice oO O.length cO, .slice oP P.length cP] 62 (0, 0)) := heap_lt (heap_at rfl)
  have hc2 : ((w.alloc (.cells #[.string ⟨c.nm.toArray⟩, .slice oa c.op.length cap, .int .i64 c.rl, .int .i64 c.se, .int .i64 c.mo, .slice oO O.length cO, .slice oP P.length cP] 62)).alloc (.cells #[.string ⟨#[]⟩, .string ⟨#[]⟩, .slice none 0 0, .slice none 0 0] 31)).heap[w.heap.size + 1]? = some (.cells #[.string ⟨#[]⟩, .string ⟨#[]⟩, .slice none 0 0, .slice none 0 0] 31 (0, 0)) := heap_at (by simp)
  generalize hB : w.heap.size = B at *
  refine wp_abs (fun w1 => Below B w w1 ∧ w1.heap[B]? = some (.cells #[.string ⟨c.nm.toArray⟩, .slice oa c.op.length cap, .int .i64 c.rl, .int .i64 c.se, .int .i64 c.mo, .slice oO O.length cO, .slice oP P.length cP] 62 (0, 0)) ∧ w1.heap[B + 1]? = some (.cells #[.string ⟨#[]⟩, .string ⟨#[]⟩, .slice none 0 0, .slice none 0 0] 31 (0, 0))) ⟨hbA, hc1, hc2⟩ (fun w1 hw1 => ?_)
  have HB := Lib.hid hB
  have B1 := Lib.hid hw1.1
  have X1 := Lib.hid hw1.2.1
  have Y1 := Lib.hid hw1.2.2
  have hbw : Below w.heap.size w w1 := by rw [hB]; exact hw1.1
  have Q1 := Lib.hid (QN.out w1 (HORD.out.below hbw) (HPLC.out.below hbw) (HPS.out.below hbw))
  have hY1 : B + 1 < w1.heap.size := lt_of_heap hw1.2.2
  clear hbA hc1 hc2 hB hw1 hbw
  go_upto_region 2 with (first
    | (go_at_call 71; refine Q1.out.mono ?_; rintro e w2 ⟨K, G, rfl, hKc, hKm, hKO, hK0, hKK, hH, hF⟩)
    | ((with_reducible refine at_load 62 ?_); refine wpList_load_g ?_ 62 (.tmp 2) ?_ B _ _ _ _ ?_ X1.out Tryz.underlying62 ?_ size_drawn ?_; rfl; rfl; rfl; rfl))
  have hX1l : B < w1.heap.size := lt_of_heap X1.out
  have hbel := hH.bel
  rw [hK0] at hbel
  have Y2 := Lib.hid (bel_keep hbel hY1 Y1.out)
  have B2 := Lib.hid (B1.out.trans (hbel.mono (Nat.le_of_lt hX1l)))
  have hO2 : K.On = O.map Int.toNat := by unfold HK.On; rw [hKO]
  have HINV := Lib.hid (show Inv c.op.length c.se.toNat Bs.length (quotaF Bs.length c.se.toNat) K.On (S0 c.op.length (ranksOf Bs) Bs.length) by
    have h1 := inv_start (n := c.op.length) (s := c.se.toNat) (O := K.On) (Rs := ranksOf Bs) (by omega) hn12 hKK.ond (fun i => by rw [hKK.omem, hKc]) (fun rk hrk i hi => by
      unfold ranksOf at hrk
      obtain ⟨p, hp, rfl⟩ := List.mem_map.1 hrk
      exact (HR.out p hp).lt i hi)
    have e : (ranksOf Bs).length = Bs.length := by unfold ranksOf; rw [List.length_map]
    rw [e] at h1
    exact h1)
  have HH := Lib.hid hH
  have HF := Lib.hid hF
  have HKK := Lib.hid hKK
  have HKM := Lib.hid hKm
  have HK0 := Lib.hid hK0
  have BK := Lib.hid (show Below B w K.w0 by rw [hK0]; exact B1.out)
  have hKB : B + 1 < K.w0.heap.size := by rw [hK0]; exact hY1
  have HOE := Lib.hid hO2
  clear hbel hO2 hH hF hKK hKm hKO hK0 Q1 QN X1 Y1 B1 HORD HPLC HPS HR HOT hX1l hmem hond
  subst hKc
  obtain ⟨s, hs⟩ : ∃ s : Nat, K.c.se = s := ⟨K.c.se.toNat, by omega⟩
  have hs2 : K.c.se.toNat = s := by omega
  rw [hs2] at HINV HH
  have HSE := Lib.hid hs
  obtain ⟨q, hq⟩ : ∃ q, q = quotaF Bs.length s := ⟨_, rfl⟩
  rw [← hq] at HINV HH
  have HQD := Lib.hid hq
  have HQS := Lib.hid (HINV.out.q_sml hn12 hm)
  clear hq hs2 hs
  have HSZ := Lib.hid size_lfr
  have q7 : w2.cell? ⟨K.hb, 7, none⟩ = some K.qn := cell_of_row w2 K.hb 7 _ _ _ HH.out.hall
  have q8 : w2.cell? ⟨K.hb, 8, none⟩ = some K.qd := cell_of_row w2 K.hb 8 _ _ _ HH.out.hall
  go_upto_region 3 with (first
    | (go_at_call 72; refine (told_V w2 HH.out.quo HQS.out.lens).mono ?_; rintro e w3 ⟨rfl, b3⟩; have B3 := Lib.hid b3; clear b3)
    | (refine wpList_store_whole rfl rfl 31 _ _ rfl w3.heap.size #[.string ⟨#[]⟩, .string ⟨#[]⟩, .slice none 0 0, .slice none 0 0] #[.string ⟨(txt q).1.toArray⟩, .string ⟨(txt q).2.toArray⟩, .slice none 0 0, .slice none 0 0] 31 rfl rfl (heap_at rfl) rfl size_trans (four_one _ _ _ _ rfl rfl) ?_; intro w4 ho hp)
    | (with_reducible refine wpList_build rfl 31 _ rfl [(0, .agg #[.string ⟨(txt q).1.toArray⟩, .string ⟨(txt q).2.toArray⟩])] (by first | (simp; done) | (simp [Act.eval]; done)) _ (built_trans _ _) ?_))
  have hb4 : Below w3.heap.size w3 w4 := bel_only ((Below.refl _ _).alloc (Nat.le_refl _) _) ho (Nat.le_refl _)
  have hb24 : Below w2.heap.size w2 w4 := B3.out.trans (hb4.mono B3.out.size)
  have hYl : B + 1 < w2.heap.size := lt_of_heap Y2.out
  rw [← HKM.out] at HINV HH HF HQD
  obtain ⟨OB, hOB⟩ : ∃ OB, OB = w3.heap.size := ⟨_, rfl⟩
  rw [← hOB] at hp ⊢
  have HT4 := Lib.hid (show TrAt K q (S0 K.c.op.length (ranksOf Bs) K.m) G w4 OB (B + 1) [] (.slice none 0 0) [] from ⟨HH.out.below hb24, hp, bel_keep hb24 hYl Y2.out, (by have := B3.out.size; omega), GRow.nil, rfl, fun i hi => (by simp at hi)⟩)
  have B4 := Lib.hid (B2.out.trans (hb24.mono (by have := B2.out.size; rw [← HB.out]; exact this)))
  have hOBl : K.w0.heap.size ≤ OB := by have h1 := HH.out.bel.size; have h2 := B3.out.size; omega
  obtain ⟨T0, hT0⟩ : ∃ T0 : St, T0 = S0 K.c.op.length (ranksOf Bs) K.m := ⟨_, rfl⟩
  rw [← hT0] at HT4 HINV HF
  have HT0 := Lib.hid hT0
  have hmu : T0.mu K.On ≤ 36 := by
    have h1 := filter_len (l := K.On) T0.cont
    have h2 := HKK.out.olen
    have h3 : (T0.wait K.On).length ≤ K.On.length := List.length_filter_le _ _
    show 2 * (K.On.filter T0.cont).length + (T0.wait K.On).length ≤ 36
    omega
  have hBs : B ≤ w4.heap.size := by have := B4.out.size; rw [HB.out] at this; exact this
  have hm4 : K.m ≤ 4096 := HKK.out.m4
  clear ho hp hb4 hb24 hYl hOB hT0 q7 q8 HH Y2 B2 B3
  as_aux_lemma =>
  go_wp2_with fail
  go_loopg [] (T0.mu K.On) (fun N wr => ∃ (S : St) (R : List Rd) (G : HG) (vR : Value) (CS : List (List Value)), N = S.mu K.On ∧ Runs K.c.op.length K.m s q K.On T0 R S ∧ Full K S G ∧ TrAt K q S G wr OB (B + 1) R vR CS ∧ Below B w wr)
  case atStart => exact ⟨T0, [], G, _, [], rfl, .nil, HF.out, HT4.out, B4.out⟩
  case round =>
  clear HF HT4 B4
  obtain ⟨S, R, G, vR, CS, rfl, hru, hfu, htr, hbw⟩ := hrel
  have RU := Lib.hid hru
  have FU := Lib.hid hfu
  have TA := Lib.hid htr
  have BW := Lib.hid hbw
  obtain ⟨hI, hlen⟩ := hru.inv HINV.out hm4
  have HI := Lib.hid hI
  have hRl : R.length ≤ 36 := by omega
  clear hru hfu htr hbw hlen
  have hww : w.heap.size ≤ wr.heap.size := BW.out.size
  have QT := Lib.hid (totals_any K q S G wr TA.out.hall hn12 hm4 (S.tot K.m) (fun i hi j hj => hI.sum_sml hn12 hm4 (L := (G.PL (some i)).take j) ((TA.out.hall.pls (some i)).1.sublist (List.take_sublist _ _)) (fun k hk => ((TA.out.hall.pls _).2 k (List.mem_of_mem_take hk)).1)) (fun k hk => hI.wt_sml hn12 hm4 hk) (fun i hi => ⟨tot_of K.m S i (hI.kok i) hI.wok (perm_pile (TA.out.hall.pls _).1 (full_iff TA.out.hall FU.out i)), hI.t_sml hn12 hm4 hi, hI.k_sml hn12 hm4 hi⟩))
  go_upto_region 4 with (go_at_call 73; refine QT.out.mono ?_; rintro e w5 ⟨tv, xa, xb, rfl, ht5, b5⟩)
  have T5 := Lib.hid ht5
  have B5 := Lib.hid b5
  have H5 := Lib.hid (TA.out.hall.below b5)
  obtain ⟨on, cn, hnv, _, hva⟩ := vsAt_own H5.out.nones.own
  have k10 : w5.cell? ⟨K.hb, 10, none⟩ = some (.slice on (G.PL none).length cn) := by rw [← hnv]; exact cell_of_row w5 K.hb 10 _ _ _ H5.out.hall
  have QWe := Lib.hid (weight_any K q S G w5 H5.out (G.PL none) (fun k hk => ((H5.out.pls _).2 k hk).1) on cn hva (Nat.le_trans (H5.out.plen none) hm4) (fun j hj => hI.sum_sml hn12 hm4 (L := (G.PL none).take j) ((H5.out.pls none).1.sublist (List.take_sublist _ _)) (fun k hk => ((H5.out.pls _).2 k (List.mem_of_mem_take hk)).1)) (fun k hk => hI.wt_sml hn12 hm4 ((H5.out.pls _).2 k hk).1))
  have hnon : fsum zero ((G.PL none).map fun k => (S.V k).wt) = S.non K.m := non_of K.m S hI.wok (perm_pile (H5.out.pls none).1 (fun k => ⟨fun h1 => (H5.out.pls _).2 k h1, fun h1 => by have := FU.out k h1.1; rwa [h1.2] at this⟩))
  rw [hnon] at QWe
  have HNS := Lib.hid (hI.n_sml hn12 hm4)
  clear QT ht5 b5 hnv hva hnon hI
  obtain ⟨g, cg, rfl, hg0, hg1, hcg⟩ := T5.out.form hn1
  go_upto_region 6 with (first
    | (go_at_call 74; refine QWe.out.mono ?_; rintro e w6 ⟨na, nb, rfl, f6, b6⟩; have F6 := Lib.hid f6; have B6 := Lib.hid b6; clear f6 b6)
    | (go_at_call 72; refine (told_V w6 F6.out HNS.out.lens).mono ?_; rintro e w7 ⟨rfl, b7⟩; have B7 := Lib.hid b7; clear b7)
    | (refine wpList_store_whole rfl rfl 44 _ _ rfl w7.heap.size #[.slice none 0 0, .string ⟨#[]⟩, .string ⟨#[]⟩, .int .i64 0, .slice none 0 0] #[.slice none 0 0, .string ⟨(txt (S.non K.m)).1.toArray⟩, .string ⟨(txt (S.non K.m)).2.toArray⟩, .int .i64 0, .slice none 0 0] 44 rfl rfl (heap_at rfl) rfl size_round (five_one _ _ _ _ _ rfl rfl rfl) ?_; intro w8 ho hp)
    | (with_reducible refine wpList_build rfl 44 _ rfl [(1, .agg #[.string ⟨(txt (S.non K.m)).1.toArray⟩, .string ⟨(txt (S.non K.m)).2.toArray⟩])] (by first | (simp; done) | (simp [Act.eval]; done)) _ (built_round _ _) ?_))
  obtain ⟨C8, hC8⟩ : ∃ C8, C8 = w7.heap.size := ⟨_, rfl⟩
  rw [← hC8] at hp ho ⊢
  obtain ⟨NP, hNP⟩ : ∃ NP, NP = txt (S.non K.m) := ⟨_, rfl⟩
  rw [← hNP] at hp ⊢
  have HNP := Lib.hid hNP
  clear hNP
  generalize wr = wo at *
  have b57 : Below w5.heap.size w5 w7 := B6.out.trans (B7.out.mono B6.out.size)
  have b58 : Below w5.heap.size w5 w8 := bel_only (b57.alloc b57.size _) ho (by have := b57.size; omega)
  have hr5 : wo.heap.size ≤ w5.heap.size := B5.out.size
  have hC8r : wo.heap.size ≤ C8 := by have := b57.size; omega
  have T8 := Lib.hid (T5.out.below b58)
  have B8 := Lib.hid (B5.out.trans (b58.mono hr5))
  have P8 := Lib.hid hp
  obtain ⟨TX, hTX⟩ : ∃ TX, TX = ((List.range K.c.op.length).map (S.tot K.m)).map txt := ⟨_, rfl⟩
  have HTX := Lib.hid hTX
  have htl : TX.length = K.c.op.length := by rw [hTX]; simp
  have htj : ∀ j (h : j < TX.length), TX[j] = txt (S.tot K.m j) := fun j h => by subst hTX; simp
  have HTL := Lib.hid htl
  have HTJ := Lib.hid htj
  have HTS := Lib.hid (fun j hj => HI.out.t_sml hn12 hm4 (i := j) hj)
  obtain ⟨f0, hf0, hy0, hy1, hy2⟩ := info_parts info_said
  have F0 := Lib.hid hf0
  have FZ0 := Lib.hid hy0
  have FZ1 := Lib.hid hy1
  have FZ2 := Lib.hid hy2
  clear hp ho hC8 b57 b58 T5 B6 B7 F6 QWe HNS hTX htl htj hf0 hy0 hy1 hy2 k10 H5
  go_loopw [32] (fun v wi => ∃ (j : Nat) (tv : Value), v = .int .i64 j ∧ j ≤ K.c.op.length ∧ wi.heap[C8]? = some (.cells #[tv, .string ⟨NP.1.toArray⟩, .string ⟨NP.2.toArray⟩, .int .i64 0, .slice none 0 0] 44 (0, 0)) ∧ GRow noLimb wi wo.heap.size 27 2 tv j (fvals (TX.take j)) ∧ TotsAt wi wo.heap.size K.c.op.length (S.tot K.m) (.slice (some ⟨g, 0, none⟩) K.c.op.length cg) xa xb ∧ Below wo.heap.size wo wi) (fun v _ => K.c.op.length - (intOf v).toNat)
  case atStart => exact ⟨0, _, rfl, Nat.zero_le _, P8.out, GRow.nil, T8.out, B8.out⟩
  case round =>
  clear P8 T8 B8
  obtain ⟨j, tvv, rfl, hj, hc8, hrw, htt, hbb⟩ := hrel
  have P8 := Lib.hid hc8
  have R8 := Lib.hid hrw
  have T8 := Lib.hid htt
  have B8 := Lib.hid hbb
  clear hc8 hrw htt hbb
  rename World => wi0
  by_cases hlt : j < K.c.op.length
  case neg =>
    have dk : decide ((j : Int) < (K.c.op.length : Int)) = false := decide_eq_false (by omega)
    have dk2 : decide (j < K.c.op.length) = false := decide_eq_false hlt
    obtain rfl : j = K.c.op.length := by omega
    have hgn : ¬ Mine K G g := fun hm => by have := mine_lt TA.out.hall hm; omega
    have TAi := Lib.hid (TA.out.below B8.out)
    have QR := Lib.hid (round_any K s q S G wi0 TAi.out.hall HKK.out HI.out FU.out HSE.out wo.heap.size g cg xa xb T8.out hgn)
    have etx : TX.take K.c.op.length = TX := by rw [← HTL.out]; exact List.take_length
    rw [etx] at R8
    have hK8 : K.w0.heap.size ≤ wo.heap.size := TA.out.hall.bel.size
    have n8 : ¬ Mine K G C8 := fun hm => by have := mine_lt TA.out.hall hm; omega
    have nR8 : ∀ x, tvv.ownBlock = some x → ¬ Mine K G x := fun x hx hm => by
      have h1 := (GRow.typed R8.out x hx).1
      have := mine_lt TA.out.hall hm; omega
    clear T8 etx f0 F0 FZ0 FZ1 FZ2 FU
    go_upto_region 12 with (go_at_call 75; refine QR.out.mono ?_; rintro e w9 hgot; obtain ⟨d, nv, ov, cv, more, rfl, G', S', h9, st, hcase⟩ := round_uni hgot; have H9 := Lib.hid h9; have ST := Lib.hid st; have HC := Lib.hid hcase; clear hgot hcase h9 st; have P9 := Lib.hid (ST.out.keep P8.out n8); have TA9 := Lib.hid (TAi.out.step ST.out H9.out); have R9 := Lib.hid (ST.out.row R8.out nR8); have h8w : C8 < w9.heap.size := lt_of_heap P9.out; have m3 : w9.cell? ⟨C8, 3, none⟩ = some (.int .i64 0) := cell_of_row w9 C8 3 _ _ _ P9.out; have z3 : w9.frozen? ⟨C8, 3, none⟩ = false := frozen_of_row w9 C8 3 _ _ P9.out; have m4 : w9.cell? ⟨C8, 4, none⟩ = some (.slice none 0 0) := cell_of_row w9 C8 4 _ _ _ P9.out; have z4 : w9.frozen? ⟨C8, 4, none⟩ = false := frozen_of_row w9 C8 4 _ _ P9.out)
    have hC8o : vR.ownBlock ≠ some C8 := fun e => by have := own_lt TA.out.rows.own e; omega
    have tRn : Trn 44 K.w0.heap.size (some C8) w9 ((w9.setCell ⟨C8, 3, none⟩ (.int .i64 (d : Int))).setCell ⟨C8, 4, none⟩ (.slice ov nv cv)) := Trn.of_only ((only_cell 3 _).trans (only_cell 4 _)) P9.out (by omega) (fun u hu => by
      simp only [List.mem_cons, List.not_mem_nil, or_false] at hu
      rcases hu with rfl | rfl | rfl | rfl | rfl
      · rcases R9.out.own.2 with ⟨hv, _⟩ | ⟨_, _, _, hv, _⟩ <;> rw [hv] <;> rfl
      all_goals rfl)
    have hP9 : ((w9.setCell ⟨C8, 3, none⟩ (.int .i64 (d : Int))).setCell ⟨C8, 4, none⟩ (.slice ov nv cv)).heap[C8]? = some (.cells #[tvv, .string ⟨NP.1.toArray⟩, .string ⟨NP.2.toArray⟩, .int .i64 (d : Int), .slice ov nv cv] 44 (0, 0)) := heap_setCell_same _ C8 4 _ _ _ (heap_setCell_same w9 C8 3 _ _ _ P9.out)
    refine wp_abs (fun wt => TrAt K q S' G' wt OB (B + 1) R vR CS ∧ wt.heap[C8]? = some (.cells #[tvv, .string ⟨NP.1.toArray⟩, .string ⟨NP.2.toArray⟩, .int .i64 (d : Int), .slice ov nv cv] 44 (0, 0)) ∧ GRow noLimb wt wo.heap.size 27 2 tvv K.c.op.length (fvals TX) ∧ Trn 44 K.w0.heap.size (some C8) w9 wt) ⟨TA9.out.turn tRn hC8o, hP9, tRn.rowT R9.out (by decide), tRn⟩ (fun wt hwt => ?_)
    have TAt := Lib.hid hwt.1
    have Pt := Lib.hid hwt.2.1
    have Rt := Lib.hid hwt.2.2.1
    have tt := Lib.hid hwt.2.2.2
    have nR9 : ∀ x, tvv.ownBlock = some x → ¬ Mine K G' x := fun x hx => ST.out.not_mine (own_lt R8.out.own hx) (nR8 x hx)
    have hKt : K.w0.heap.size ≤ wt.heap.size := hwt.1.hall.bel.size
    have hKo : K.w0.heap.size ≤ wo.heap.size := TA.out.hall.bel.size
    have hKi : K.w0.heap.size ≤ wi0.heap.size := TAi.out.hall.bel.size
    clear hwt hP9 tRn hC8o TA9 P9 R9 m3 z3 m4 z4 h8w TAi P8 R8 TA QR
    obtain ⟨oR, cR, rfl⟩ := own_form TAt.out.rows.own
    obtain ⟨ot, ct, rfl⟩ := own_form Rt.out.own
    have hOl : OB < wt.heap.size := lt_of_heap TAt.out.out
    rcases HC.out with ⟨rfl, hend, rfl, rfl⟩ | ⟨rfl, who, hwn, hdec, how, hnm, rfl, hfull⟩
    · obtain ⟨oe, ce, hev⟩ := own_form TAt.out.hall.els.own
      have HEV := Lib.hid hev
      have n14 : wt.cell? ⟨K.hb, 14, none⟩ = some (.slice oe S'.el.length ce) := by
        rw [← hev]; exact cell_of_row wt K.hb 14 _ _ _ TAt.out.hall.hall
      have n3 : wt.cell? ⟨OB, 3, none⟩ = some (.slice none 0 0) := cell_of_row wt OB 3 _ _ _ TAt.out.out
      have z3 : wt.frozen? ⟨OB, 3, none⟩ = false := frozen_of_row wt OB 3 _ _ TAt.out.out
      clear hev
      go_upto_region 14 with (fail)
      have hto := TAt.out.out
      have hou : (wt.setCell ⟨OB, 3, none⟩ (.slice oe S'.el.length ce)).heap[OB]? = some (.cells #[.string ⟨(txt q).1.toArray⟩, .string ⟨(txt q).2.toArray⟩, .slice oR R.length cR, .slice oe S'.el.length ce] 31 (0, 0)) := heap_setCell_same wt OB 3 _ _ _ hto
      have tO : Trn 31 K.w0.heap.size (some OB) wt (wt.setCell ⟨OB, 3, none⟩ (.slice oe S'.el.length ce)) := Trn.of_only (only_cell 3 _) hto hOBl (fun u hu => by
        simp only [List.mem_cons, List.not_mem_nil, or_false] at hu
        rcases hu with rfl | rfl | rfl | rfl <;> rfl)
      have hru := tO.keepX TAt.out.res (fun e => TAt.out.ne (by injection e))
      have hrd := TAt.out.rds.trn tO
      have hbt : Below B w (wt.setCell ⟨OB, 3, none⟩ (.slice oe S'.el.length ce)) := bel_only (BK.out.trans (TAt.out.hall.bel.mono (by omega))) (only_cell 3 _) (by omega)
      refine wp_abs (fun wu => wu.heap[OB]? = some (.cells #[.string ⟨(txt q).1.toArray⟩, .string ⟨(txt q).2.toArray⟩, .slice oR R.length cR, .slice oe S'.el.length ce] 31 (0, 0)) ∧ wu.heap[B + 1]? = some (.cells #[.string ⟨#[]⟩, .string ⟨#[]⟩, .slice none 0 0, .slice none 0 0] 31 (0, 0)) ∧ RdsAt K G' wu (.slice oR R.length cR) R CS G'.ev S'.el ∧ Below B w wu) ⟨hou, hru, hrd, hbt⟩ (fun wu hwu => ?_)
      have HOU := Lib.hid hwu.1
      have HRU := Lib.hid hwu.2.1
      have HRD := Lib.hid hwu.2.2.1
      have HBU := Lib.hid hwu.2.2.2
      clear hwu hou tO hru hrd hbt hto n14 n3 z3
      have HEN := Lib.hid hend
      go_wp2_with (first
        | (refine wpList_store_whole rfl rfl 31 _ _ rfl (B + 1) #[.string ⟨#[]⟩, .string ⟨#[]⟩, .slice none 0 0, .slice none 0 0] #[.string ⟨(txt q).1.toArray⟩, .string ⟨(txt q).2.toArray⟩, .slice oR R.length cR, .slice oe S'.el.length ce] 31 rfl rfl HRU.out rfl size_trans (four_one _ _ _ _ rfl rfl) ?_; intro wv ho hp)
        | ((with_reducible refine at_load 31 ?_); refine wpList_load_g ?_ 31 (.tmp 6) ?_ OB _ _ _ _ ?_ HOU.out Tryz.underlying31 ?_ size_trans ?_; rfl; rfl; rfl; rfl))
      refine bodyPost_ret (results_cell_row rfl _ wv (B + 1) _ _ _ _ rfl hp Tryz.underlying31 rfl size_trans) rfl ?_
      have e1 : K.c.se.toNat = s := by have := HSE.out; omega
      rw [← HKM.out, e1, ← HQD.out, ← HOE.out, ← HT0.out]
      have tV : Trn 31 (B + 1) (some (B + 1)) wu wv := Trn.of_only ho HRU.out (Nat.le_refl _) (fun u hu => by
        simp only [List.mem_cons, List.not_mem_nil, or_false] at hu
        rcases hu with rfl | rfl | rfl | rfl <;> rfl)
      exact ⟨K, G', R, S', _, _, CS, RU.out, HEN.out, rfl, by rw [← HEV.out]; exact HRD.out.trn tV, by rw [HB.out]; exact bel_only HBU.out ho (by omega)⟩
    · have HW := Lib.hid (And.intro hwn (And.intro hdec (And.intro how (And.intro hnm hfull))))
      have n2 : wt.cell? ⟨OB, 2, none⟩ = some (.slice oR R.length cR) := cell_of_row wt OB 2 _ _ _ TAt.out.out
      clear hwn hdec how hnm hfull
      obtain ⟨j0, hj0, hv0, hv1, hv2⟩ := info_parts info_round
      have J0 := Lib.hid hj0
      have JZ0 := Lib.hid hv0
      have JZ1 := Lib.hid hv1
      have JZ2 := Lib.hid hv2
      clear hj0 hv0 hv1 hv2
      have RW := Lib.hid (show RdV K G' wt (S.rd K.c.op.length K.m d who) [.slice ot K.c.op.length ct, .string ⟨NP.1.toArray⟩, .string ⟨NP.2.toArray⟩, .int .i64 (d : Int), .slice ov nv cv] from ⟨_, _, (by rw [HNP.out]; rfl), by
        have h1 := own_base Rt.out.own hKo
        rw [HTX.out] at h1
        have e2 : (S.rd K.c.op.length K.m d who).tots.length = K.c.op.length := by simp [St.rd]
        rw [e2]; exact h1, by
        have h1 := own_trn tt.out (by decide) (own_base HW.out.2.2.1 hKi)
        exact h1, nR9, HW.out.2.2.2.1⟩)
      have HA1 := Lib.hid ((Below.refl wt.heap.size wt).alloc (Nat.le_refl _) (.cells #[.slice ot K.c.op.length ct, .string ⟨NP.1.toArray⟩, .string ⟨NP.2.toArray⟩, .int .i64 (d : Int), .slice ov nv cv] 44))
      have HA2 := Lib.hid (TAt.out.rows.below HA1.out)
      go_wp2_with (first
        | ((with_reducible refine at_load 44 ?_); refine wpList_load_g ?_ 44 (.tmp 8) ?_ C8 _ _ _ _ ?_ Pt.out Tryz.underlying44 ?_ size_round ?_; rfl; rfl; rfl; rfl)
        | (at_builtin; refine wpList_append_good (good := noLimb) _ rfl (.tmp 62) (.tmp 64) 28 rfl K.w0.heap.size 44 j0 (.agg #[.slice none 0 0, .string ⟨#[]⟩, .string ⟨#[]⟩, .int .i64 0, .slice none 0 0]) 5 88 Tryz.underlying28 J0.out JZ0.out JZ1.out JZ2.out rfl (by decide) zero_round_good (.slice oR R.length cR) R.length CS.flatten rfl HA2.out ⟨wt.heap.size, 0, none⟩ 1 1 [.slice ot K.c.op.length ct, .string ⟨NP.1.toArray⟩, .string ⟨NP.2.toArray⟩, .int .i64 (d : Int), .slice ov nv cv] rfl rfl (news_blk (heap_at rfl)) (five_good _ _ _ _ _ _ _ _ _).1 (five_good _ _ _ _ _ _ _ _ _).2 (fun _ => by decide) (by unfold maxLen; omega) (by omega) (by simp; omega) _ rfl ?_; intro g9 c9 wx own hg hf hlt9; have PA := Lib.hid (push_all TAt.out HA1.out hg rfl own RW.out hOBl); have n2 : wx.cell? ⟨OB, 2, none⟩ = some (.slice oR R.length cR) := PA.out.1; have z2 : wx.frozen? ⟨OB, 2, none⟩ = false := PA.out.2.1; have hOx : OB < wx.heap.size := PA.out.2.2.1; clear HA1 HA2 hg own hf hlt9))
      have hnext := RU.out.snoc HW.out.2.1
      have hTN := PA.out.2.2.2
      go_roundg ((S.next K.m q d who).mu K.On)
      case rel => exact ⟨_, _, G', _, _, rfl, hnext, HW.out.2.2.2.2, hTN, BK.out.trans (hTN.hall.bel.mono (by omega))⟩
      case measure => exact (HI.out.next hm4 HW.out.2.1).2
  have dk : decide ((j : Int) < (K.c.op.length : Int)) = true := decide_eq_true (by omega)
  have dk2 : decide (j < K.c.op.length) = true := decide_eq_true hlt
  have dki : (j : Int) < (K.c.op.length : Int) := by omega
  have FJ := Lib.hid (T8.out.frs j hlt)
  go_upto_region 8 with (first
    | (refine wpList_load_at rfl 90 _ rfl ⟨g, j * 2, none⟩ rfl [xa j, xb j] _ (T8.out.mid hlt) Tryz.underlying90 rfl HSZ.out ?_)
    | (refine wpList_store_whole rfl rfl 90 _ _ rfl wi0.heap.size #[.slice none 0 0, .slice none 0 0] #[xa j, xb j] 90 rfl rfl (heap_at rfl) rfl HSZ.out (two_one _ _ FJ.out.noLimb.2.2.1 FJ.out.noLimb.2.2.2) ?_; intro w9 ho hp))
  have bz : Below wi0.heap.size wi0 w9 := bel_only ((Below.refl _ _).alloc (Nat.le_refl _) _) ho (Nat.le_refl _)
  have hoi : wo.heap.size ≤ wi0.heap.size := B8.out.size
  have P9 := Lib.hid (bel_keep bz (lt_of_heap P8.out) P8.out)
  have R9 := Lib.hid (R8.out.below bz)
  have T9 := Lib.hid (T8.out.below bz)
  have B9 := Lib.hid (B8.out.trans (bz.mono hoi))
  have F9 := Lib.hid (FJ.out.below bz)
  have X9 := Lib.hid hp
  have hD : wi0.heap.size < w9.heap.size := lt_of_heap hp
  generalize wi0.heap.size = D at *
  have h8l : C8 < w9.heap.size := lt_of_heap P9.out
  have d8 : ∀ x : BelowT w9.heap.size w9, x.w.cell? ⟨C8, 0, none⟩ = some tvv := fun x => cell_of_row _ C8 0 _ _ _ (bel_keep x.2 h8l P9.out)
  clear bz ho hp P8 R8 T8 B8 FJ
  refine Seg.wp_region_segs (fun w' => ∃ x : BelowT w9.heap.size w9, w' = x.w) [([0, 1, 2], 3), ([], 4)] [] 5 (by kernel_rfl) (by kernel_rfl) (fun _ _ d _ _ h => by cases d <;> exact h) (⟨⟨_, (Below.refl _ _).drew⟩, rfl⟩) ?_
  simp only [List.map_cons, List.map_nil, Seg.opAt, List.drop_succ_cons, List.drop_zero, Seg.wpSegs, Array.getD_eq_getD_getElem?, List.getElem?_toArray, List.getElem?_cons_succ, List.getElem?_cons_zero, Option.getD_some]
  first | go_big_quiet_step (fail) | quiet_step (fail)
  first | go_big_quiet_step (fail) | quiet_step (fail)
  refine wpQuiet_load_whole rfl 90 _ rfl D #[xa j, xb j] _ _ _ rfl X9.out hD Tryz.underlying90 rfl HSZ.out ?_
  refine wpQuiet_nil ?_
  intro Kc hK
  simp only [Region.wanted, if_true]
  have QL := Lib.hid (told_V w9.drew (F9.out.below (Below.refl _ _).drew) (HTS.out j hlt).lens)
  have hjt : j < TX.length := by rw [HTL.out]; exact hlt
  have HJT := Lib.hid (HTJ.out j hjt)
  obtain ⟨XP, hXP⟩ : ∃ XP, XP = txt (S.tot K.m j) := ⟨_, rfl⟩
  rw [← hXP] at QL HJT
  clear hXP
  go_wp2_with (go_at_call 72; refine QL.out.mono ?_; rintro e wb ⟨rfl, b10⟩)
  have B10 := Lib.hid (undrew b10)
  refine hK _ _ ⟨⟨wb, B10.out⟩, rfl⟩ ?_
  clear hK Kc b10 d8 QL
  repeat (any_goals (first | go_big_quiet_step (fail) | quiet_step (fail)))
  refine wpQuiet_nil ?_
  intro Kc hK
  first | go_simp | skip
  go_wp2_with fail
  have bh : Below wb.heap.size wb (wb.alloc (.cells #[.string ⟨XP.1.toArray⟩, .string ⟨XP.2.toArray⟩] 27)) := (Below.refl _ _).alloc (Nat.le_refl _) _
  have ed : (wb.alloc (.cells #[.string ⟨XP.1.toArray⟩, .string ⟨XP.2.toArray⟩] 27)).heap[wb.heap.size]? = some (.cells #[.string ⟨XP.1.toArray⟩, .string ⟨XP.2.toArray⟩] 27 (0, 0)) := heap_at rfl
  have B11 := Lib.hid (B10.out.trans (bh.mono B10.out.size))
  refine hK _ _ ⟨⟨_, B11.out⟩, rfl⟩ ?_
  clear hK Kc bh B10
  generalize (wb.alloc (.cells #[.string ⟨XP.1.toArray⟩, .string ⟨XP.2.toArray⟩] 27)) = w11 at *
  generalize wb.heap.size = C at *
  have P11 := Lib.hid (bel_keep B11.out h8l P9.out)
  have R11 := Lib.hid (R9.out.below B11.out)
  have T11 := Lib.hid (T9.out.below B11.out)
  have hoi9 : wo.heap.size ≤ w9.heap.size := B9.out.size
  have D11 := Lib.hid (B9.out.trans (B11.out.mono hoi9))
  have hoi11 : wo.heap.size ≤ w11.heap.size := D11.out.size
  clear P9 R9 T9 B9 F9 X9 hD h8l B11
  repeat (any_goals (first | go_big_quiet_step (fail) | quiet_step (fail)))
  refine wpQuiet_nil ?_
  go_wp2_with (at_builtin; refine wpList_append_good (good := noLimb) _ rfl (.tmp 37) (.tmp 40) 42 rfl wo.heap.size 27 f0 (.agg #[.string ⟨#[]⟩, .string ⟨#[]⟩]) 2 32 Tryz.underlying42 F0.out FZ0.out FZ1.out FZ2.out rfl (by decide) (fun u hu => by simp [Value.cells] at hu; subst hu; rfl) tvv j (fvals (TX.take j)) rfl R11.out ⟨C, 0, none⟩ 1 1 (fvals [XP]) rfl rfl (news_blk ed) (fvals_one _) (fvals_noLimb _) (fun _ => by decide) (by unfold maxLen; omega) (by omega) (by omega) _ rfl ?_; intro g9 c9 w12 own hg hf hlt9; have t12 : Trn 27 wo.heap.size tvv.ownBlock w11 w12 := ⟨hg, GRow.typed R11.out⟩; have P12 := Lib.hid (t12.keep P11.out (by decide)); have n12 : w12.cell? ⟨C8, 0, none⟩ = some tvv := cell_of_row w12 C8 0 _ _ _ P12.out; have z12 : w12.frozen? ⟨C8, 0, none⟩ = false := frozen_of_row w12 C8 0 _ _ P12.out; have T12 := Lib.hid (show TotsAt w12 wo.heap.size K.c.op.length (S.tot K.m) (.slice (some ⟨g, 0, none⟩) K.c.op.length cg) xa xb from ⟨t12.rowT T11.out.row (by decide), fun i hi => t12.fr (T11.out.frs i hi)⟩); have D12 := Lib.hid (t12.below D11.out); have h8w : C8 < w12.heap.size := lt_of_heap P12.out)
  go_roundw
  case rel =>
    have t13 : Trn 44 wo.heap.size (some C8) w12 (w12.setCell ⟨C8, 0, none⟩ (.slice (some ⟨g9, 0, none⟩) (j + 1) c9)) := Trn.of_only (only_cell 0 _) P12.out hC8r (fun u hu => by
      simp only [List.mem_cons, List.not_mem_nil, or_false] at hu
      rcases hu with rfl | rfl | rfl | rfl | rfl
      · rcases R11.out.own.2 with ⟨hv, _⟩ | ⟨_, _, _, hv, _⟩ <;> rw [hv] <;> rfl
      all_goals rfl)
    refine ⟨j + 1, _, by go_num, by omega, heap_setCell_same w12 C8 0 _ _ _ P12.out, ?_, ⟨t13.rowT T12.out.row (by decide), fun i hi => t13.fr (T12.out.frs i hi)⟩, t13.below D12.out⟩
    rw [← fvals_take TX j hjt, HJT.out]
    exact t13.rowT own (by decide)
  case measure => simp [intOf]; omega
end Go.Proofs.YtnohcdpnnhmpfaaGreatDoor.TR
