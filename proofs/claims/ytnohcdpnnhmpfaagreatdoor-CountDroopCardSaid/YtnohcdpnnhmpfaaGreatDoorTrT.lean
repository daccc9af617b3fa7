/-
  Chapter 13, Transfer: (*hall).round. Printed by tools/genround.py.
-/
import Derived.Test.YtnohcdpnnhmpfaaGreatDoorBTx
namespace Go.Proofs.YtnohcdpnnhmpfaaGreatDoor.TR
set_option linter.unusedVariables false
set_option linter.unusedSimpArgs false
open Go.RowKit ML FRP AU CT FM

/-- what a round answers -/
def RoundGot (K : HK) (s : Nat) (q : Fr) (S : St) (G : HG) (w : World) (e : Ending) (w' : World) : Prop :=
  (End K.m s q K.On S ∧ e = .returned (.tuple #[.int .i64 0, .slice none 0 0, .bool false]) ∧ HallAt K q S G w' ∧ HStep K G w G w') ∨
  ∃ (d : Nat) (who : List Nat) (ob : Option Addr) (cb : Nat) (G' : HG), Dec K.m s q K.On S d who ∧ e = .returned (.tuple #[.int .i64 (d : Int), .slice ob who.length cb, .bool true]) ∧ w'.ownsRow w.heap.size 3 1 (.slice ob who.length cb) who.length (ivals (nats who)) ∧ (∀ x, (Value.slice ob who.length cb).ownBlock = some x → ¬ Mine K G' x) ∧ HallAt K q (S.next K.m q d who) G' w' ∧ HStep K G w G' w' ∧ Full K (S.next K.m q d who) G'
theorem drawn_mid {K : HK} {q : Fr} {S : St} {G : HG} {w : World} (h : HallAt K q S G w) : ∀ j u, ([.string ⟨K.c.nm.toArray⟩, .slice K.oa K.c.op.length K.cap, .int .i64 K.c.rl, .int .i64 K.c.se, .int .i64 K.c.mo, .slice K.oO K.O.length K.cO, .slice K.oP K.P.length K.cP] : List Value)[j]? = some u → w.cell? ((⟨K.hb, 0, none⟩ : Addr).add j) = some u :=
  mid_blk h.hall _ (fun j u hj => by match j with | 0 => exact hj | 1 => exact hj | 2 => exact hj | 3 => exact hj | 4 => exact hj | 5 => exact hj | 6 => exact hj | _ + 7 => cases hj)
theorem size_drawn7 : (Tryz.prog.info? 62).map (·.size) = some 7 := by kernel_rfl
theorem nats_nil {l : List Nat} : (nats l).length = 0 ↔ l = [] := by rw [nats_len]; exact List.length_eq_zero_iff
/-- the row that 'which' or 'sorted' has just built is not the hall's -/
theorem fresh_not {K : HK} {q : Fr} {S : St} {G : HG} {w w' : World} (h : HallAt K q S G w) {e : TypeId} {n : Nat} {v : Value} {xs : List Value} {base : Nat} (hb : w.heap.size ≤ base) (hr : w'.ownsRow base e 1 v n xs) : ∀ x, v.ownBlock = some x → ¬ Mine K G x := fun x hx hm => by
  have h1 := (hr.lt x hx).1
  have h2 := mine_lt h hm
  omega
theorem HStep.not_mine {K : HK} {G G' : HG} {w w' : World} (h : HStep K G w G' w') {x : Nat} (hx : x < w.heap.size) (hn : ¬ Mine K G x) : ¬ Mine K G' x := fun hm => by
  rcases h.mine x hm with h1 | h1
  · exact hn h1
  · omega
/-- what is moved is what goes on -/
theorem move_eq {n s m : Nat} {q : Fr} {O : List Nat} {S : St} (h : Inv n s m q O S) {i : Nat} {L : List Nat} (hL : ∀ k, k ∈ L ↔ k < m ∧ (S.V k).wi = some i) : goV ⟨S.V, S.cont, upd S.moved i true, upd S.kept i q, S.el⟩ (S.surplus m q i) L = S.move m q i := by
  have hw : ∀ k, k ∈ L ↔ (S.V k).wi = some i := fun k => by
    rw [hL]
    refine ⟨fun h1 => h1.2, fun h1 => ⟨?_, h1⟩⟩
    rcases Nat.lt_or_ge k m with h2 | h2
    · exact h2
    · rw [h.vout k h2] at h1; cases h1
  unfold goV St.move
  congr 1
  · funext k
    unfold St.goOn
    by_cases h1 : (S.V k).wi = some i
    · rw [if_pos ((hw k).2 h1), if_pos h1]
    · rw [if_neg (fun h2 => h1 ((hw k).1 h2)), if_neg h1]
  · funext j
    unfold upd
    by_cases e : j = i <;> simp [e]
theorem excl_eq {n s m : Nat} {q : Fr} {O : List Nat} {S : St} (h : Inv n s m q O S) {i : Nat} {L : List Nat} (hL : ∀ k, k ∈ L ↔ k < m ∧ (S.V k).wi = some i) : goV ⟨S.V, upd S.cont i false, S.moved, S.kept, S.el⟩ one L = S.excl i := by
  have hw : ∀ k, k ∈ L ↔ (S.V k).wi = some i := fun k => by
    rw [hL]
    refine ⟨fun h1 => h1.2, fun h1 => ⟨?_, h1⟩⟩
    rcases Nat.lt_or_ge k m with h2 | h2
    · exact h2
    · rw [h.vout k h2] at h1; cases h1
  have hc : upd S.cont i false = out S.cont i := by
    funext j
    unfold upd out
    by_cases e : j = i <;> simp [e]
  unfold goV St.excl
  rw [hc]
  congr 1
  funext k
  unfold St.goOn
  by_cases h1 : (S.V k).wi = some i
  · rw [if_pos ((hw k).2 h1), if_pos h1]
  · rw [if_neg (fun h2 => h1 ((hw k).1 h2)), if_neg h1]
theorem full_iff {K : HK} {q : Fr} {S : St} {G : HG} {w : World} (h : HallAt K q S G w) (hF : Full K S G) (i : Nat) : ∀ k, k ∈ G.PL (some i) ↔ k < K.m ∧ (S.V k).wi = some i := fun k => ⟨fun h1 => (h.pls _).2 k h1, fun h1 => by have := hF k h1.1; rwa [h1.2] at this⟩
theorem lone_row {w : World} {i base : Nat} (hb : base ≤ w.heap.size) : (w.alloc (.cells #[.int .i64 (i : Int)] 3)).ownsRow base 3 1 (.slice (some ⟨w.heap.size, 0, none⟩) 1 1) 1 (ivals (nats [i])) := ⟨rfl, .inr ⟨_, 1, _, rfl, hb, heap_at rfl, Nat.le_refl _, by unfold maxLen; omega, rfl, rfl⟩⟩
theorem HStep.tots {K : HK} {q : Fr} {S : St} {G G' : HG} {w w' : World} (t : HStep K G w G' w') (hH : HallAt K q S G w) {base n g cap : Nat} {T : Nat → Fr} {xa xb : Nat → Value} (h : TotsAt w base n T (.slice (some ⟨g, 0, none⟩) n cap) xa xb) (hg : ¬ Mine K G g) : TotsAt w' base n T (.slice (some ⟨g, 0, none⟩) n cap) xa xb := ⟨t.row h.row (fun x hx => by
  have e : g = x := by simpa [Value.ownBlock] using hx
  exact e ▸ hg), fun i hi => t.fr hH (h.frs i hi)⟩
set_option maxHeartbeats 16000000 in
set_option maxRecDepth 100000 in
theorem round_any (K : HK) (s : Nat) (q : Fr) (S : St) (G : HG) (w : World) (hH : HallAt K q S G w) (hK : HKok K) (hI : Inv K.c.op.length s K.m q K.On S) (hF : Full K S G) (hse : K.c.se = s) (base g cap : Nat) (xa xb : Nat → Value)
    (hT : TotsAt w base K.c.op.length (S.tot K.m) (.slice (some ⟨g, 0, none⟩) K.c.op.length cap) xa xb) (hg : ¬ Mine K G g) :
    Calls Tryz.prog 75 #[.pointer (some ⟨K.hb, 0, none⟩), (.slice (some ⟨g, 0, none⟩) K.c.op.length cap)] w (RoundGot K s q S G w) := by
  have q1 : Enters 124 := enters_of Tryz.func124 rfl rfl
  have q2 : Enters 127 := enters_of Tryz.func127 rfl rfl
  have q3 : Enters 130 := enters_of Tryz.func130 rfl rfl
  have E1 := Lib.hid q1
  have E2 := Lib.hid q2
  have E3 := Lib.hid q3
  have HK := Lib.hid hK
  have HI := Lib.hid hI
  have HF := Lib.hid hF
  have HSE := Lib.hid hse
  have HT := Lib.hid hT
  have HG := Lib.hid hg
  have HH := Lib.hid hH
  have hn12 := hK.n12
  have hm4 := hK.m4
  have HST := Lib.hid (fun i (hi : i < K.c.op.length) => hI.t_sml hn12 hm4 hi)
  have HSQ := Lib.hid (hI.q_sml hn12 hm4)
  have hgl : g < w.heap.size := by
    rcases hT.row.own.2 with ⟨hv, _⟩ | ⟨g2, _, _, hv, _, hg2, _⟩
    · cases hv
    · injection hv with h1; injection h1 with h1; injection h1 with h1; subst h1; exact lt_of_heap hg2
  have HPO := Lib.hid (fun (p : Int → Bool) (f : Nat → Bool) (h : ∀ i, i < K.c.op.length → p (i : Int) = f i) => show K.O.filter p = nats (K.On.filter f) by rw [hK.onats]; exact nats_filter _ _ _ (fun i hi => h i ((hK.omem i).1 hi)))
  have HXO := Lib.hid (fun (x : Int) (hx : x ∈ K.O) => show ∃ i : Nat, x = i ∧ i < K.c.op.length from ⟨x.toNat, by have := (hK.mem x).1 hx; omega, by have := (hK.mem x).1 hx; omega⟩)
  have hel : S.el.length ≤ 12 := by
    have h1 : ∀ x ∈ S.el, x ∈ List.range K.c.op.length := fun x hx => List.mem_range.2 (hI.elc x hx).1
    have h2 := List.Nodup.length_le_of_subset hI.nd h1
    rw [List.length_range] at h2
    omega
  clear q1 q2 q3 hK hI hF hse hT hg hH
  go_enter Tryz.func75, Tryz.ntmps75
  go_upto_region 1 with (fail)
  have hbA : Below w.heap.size w ((w.alloc (.cells #[.pointer (some ⟨K.hb, 0, none⟩)] 109)).alloc (.cells #[(.slice (some ⟨g, 0, none⟩) K.c.op.length cap)] 114)) := ((Below.refl _ _).alloc (Nat.le_refl _) _).alloc (by simp) _
  have hc2 : ((w.alloc (.cells #[.pointer (some ⟨K.hb, 0, none⟩)] 109)).alloc (.cells #[(.slice (some ⟨g, 0, none⟩) K.c.op.length cap)] 114)).heap[w.heap.size]? = some (.cells #[.pointer (some ⟨K.hb, 0, none⟩)] 109 (0, 0)) := heap_lt (heap_at rfl)
  have hc3 : ((w.alloc (.cells #[.pointer (some ⟨K.hb, 0, none⟩)] 109)).alloc (.cells #[(.slice (some ⟨g, 0, none⟩) K.c.op.length cap)] 114)).heap[w.heap.size + 1]? = some (.cells #[(.slice (some ⟨g, 0, none⟩) K.c.op.length cap)] 114 (0, 0)) := heap_at (by simp)
  generalize hB : w.heap.size = B at *
  refine wp_abs (fun w1 => Below B w w1 ∧ w1.heap[B]? = some (.cells #[.pointer (some ⟨K.hb, 0, none⟩)] 109 (0, 0)) ∧ w1.heap[B + 1]? = some (.cells #[(.slice (some ⟨g, 0, none⟩) K.c.op.length cap)] 114 (0, 0))) ⟨hbA, hc2, hc3⟩ (fun w1 hw1 => ?_)
  have HB := Lib.hid hB
  have HNB := Lib.hid (show ¬ Mine K G B from fun hm => by have := mine_lt HH.out hm; omega)
  have HNB1 := Lib.hid (show ¬ Mine K G (B + 1) from fun hm => by have := mine_lt HH.out hm; omega)
  have hbw : Below w.heap.size w w1 := by rw [hB]; exact hw1.1
  have B1 := Lib.hid hbw
  have H1 := Lib.hid (HH.out.below hbw)
  have X2 := Lib.hid hw1.2.1
  have X3 := Lib.hid hw1.2.2
  have T1 := Lib.hid (HT.out.below hbw)
  have hBl : B < w1.heap.size := lt_of_heap hw1.2.1
  have hBl3 : B + 1 < w1.heap.size := lt_of_heap hw1.2.2
  have x2 : w1.cell? ⟨B, 0, none⟩ = some (.pointer (some ⟨K.hb, 0, none⟩)) := cell_of_row w1 B 0 _ _ _ X2.out
  clear hbA hc2 hc3 hB hw1 hbw
  have QW := Lib.hid (which_any K q S G w1 H1.out HK.out 124 E1.out (.pointer (some ⟨B, 0, none⟩)) (fun x => S.cont x.toNat) (fun w2 hb x hx => by
    obtain ⟨i, rfl, hi⟩ := HXO.out x hx
    exact round1_any K q S G w2 (H1.out.below hb) B ((hb.cell (p := ⟨B, 0, none⟩) hBl).trans (cell_of_row w1 B 0 _ _ _ X2.out)) i hi))
  have hPS : K.O.filter (fun x => S.cont x.toNat) = nats (S.still K.On) := HPO.out (fun x => S.cont x.toNat) S.cont (fun i _ => by simp)
  rw [hPS] at QW
  go_upto_region 2 with (go_at_call 123; refine QW.out.mono ?_; rintro e w2 ⟨os, cs, rfl, own2, bel2⟩)
  have SO2 := Lib.hid (show w2.ownsRow w1.heap.size 3 1 (.slice os (nats (S.still K.On)).length cs) (nats (S.still K.On)).length (ivals (nats (S.still K.On))) from own2)
  have B2 := Lib.hid bel2
  have H2 := Lib.hid (H1.out.below bel2)
  have T2 := Lib.hid (T1.out.below bel2)
  have X22 := Lib.hid (bel_keep bel2 hBl X2.out)
  have X32 := Lib.hid (bel_keep bel2 hBl3 X3.out)
  have hs12 := bel2.size
  have STLT := Lib.hid (show ∀ i ∈ S.still K.On, i < K.c.op.length from fun i hi => (HI.out.mem_still.1 hi).1)
  have STND := Lib.hid (show (S.still K.On).Nodup from HI.out.still_nd)
  have STL := Lib.hid (show (nats (S.still K.On)).length ≤ 12 by
    rw [nats_len]
    have := filter_len (l := K.On) S.cont
    have h2 := HK.out.olen
    show (K.On.filter S.cont).length ≤ 12
    omega)
  have I2 := Lib.hid (isAt_own2 SO2.out)
  have hstl := STL.out
  have STD := Lib.hid (show St.still K.On S = K.On.filter S.cont from rfl)
  have OVD := Lib.hid (show (nats (S.still K.On)).filter (fun x => !decide (cmpF (S.tot K.m x.toNat) q ≤ 0)) = nats (S.over K.m q K.On) from nats_filter _ _ _ (fun i hi => by
    have hi' := STLT.out i hi
    simp only [Int.toNat_natCast]
    exact cmpF_le (HST.out i hi').ok.1 HSQ.out.ok.1))
  clear own2 bel2 QW x2 H1 T1 X2 X3 HT HH hPS
  have hBl2 : B < w2.heap.size := Nat.lt_of_lt_of_le hBl hs12
  have hBl32 : B + 1 < w2.heap.size := Nat.lt_of_lt_of_le hBl3 hs12
  have QD := Lib.hid (fun (ob : Option Addr) (cb : Nat) (w3 : World) (o3 : w3.ownsRow w2.heap.size 3 1 (.slice ob (nats (S.still K.On)).length cb) (nats (S.still K.On)).length (ivals (nats (S.still K.On)))) (b3 : Below w2.heap.size w2 w3) => delete2_any 127 E2.out (.pointer (some ⟨B + 1, 0, none⟩)) (.pointer (some ⟨B, 0, none⟩)) (fun x => decide (cmpF (S.tot K.m x.toNat) q ≤ 0)) ob (nats (S.still K.On)) cb w2.heap.size w3 o3 hstl (fun w4 hg x hx => by
    have hbw : Below w2.heap.size w3 w4 := (Below.refl _ w3).grown hg b3.size (fun x hx => (o3.lt x hx).1)
    have hb4 : Below w2.heap.size w2 w4 := b3.trans hbw
    unfold nats at hx
    obtain ⟨i, hi, rfl⟩ := List.mem_map.1 hx
    have hi' := STLT.out i hi
    exact round2_any K q S G w4 (H2.out.below hb4) (B + 1) B (S.tot K.m) base g cap xa xb (T2.out.below hb4) ((hb4.cell (p := ⟨B, 0, none⟩) hBl2).trans (cell_of_row w2 B 0 _ _ _ X22.out)) ((hb4.cell (p := ⟨B + 1, 0, none⟩) hBl32).trans (cell_of_row w2 (B + 1) 0 _ _ _ X32.out)) (Nat.lt_of_lt_of_le hBl2 hb4.size) (Nat.lt_of_lt_of_le hBl32 hb4.size) i hi' (HST.out i hi') HSQ.out))
  rw [OVD.out] at QD
  go_upto_region 3 with (first
    | (go_at_call 126; refine (cloneInts_any os (nats (S.still K.On)) cs w2 I2.out (by omega)).mono ?_; rintro e w3 ⟨ob, cb, rfl, own3, bel3⟩; have O3 := Lib.hid own3; have B3 := Lib.hid bel3; clear own3 bel3)
    | (go_at_call 125; refine (QD.out ob cb w3 O3.out B3.out).mono ?_; rintro e w5 ⟨oo, co, rfl, own5, hg5⟩; have OV5 := Lib.hid own5; have HG5 := Lib.hid hg5; clear own5 hg5))
  have hb5 : Below w2.heap.size w2 w5 := B3.out.trans ((Below.refl _ w3).grown HG5.out B3.out.size (fun x hx => (O3.out.lt x hx).1))
  have H5 := Lib.hid (H2.out.below hb5)
  have T5 := Lib.hid (T2.out.below hb5)
  have X25 := Lib.hid (bel_keep hb5 hBl2 X22.out)
  have X35 := Lib.hid (bel_keep hb5 hBl32 X32.out)
  have SO5 := Lib.hid (SO2.out.kept (row := none) (grown_bel hb5 none) (by cases Value.ownBlock _ <;> simp))
  have B5 := Lib.hid (B1.out.trans ((B2.out.trans (hb5.mono hs12)).mono B1.out.size))
  have hs5 := hb5.size
  have hBl5 : B < w5.heap.size := Nat.lt_of_lt_of_le hBl2 hs5
  have hBl35 : B + 1 < w5.heap.size := Nat.lt_of_lt_of_le hBl32 hs5
  have hBw1 := B1.out.size
  rw [HB.out] at hBw1
  clear HG5 hb5 O3 B3 H2 T2 X22 X32 SO2 I2 B1 B2 OVD QD hBl hBl3 hBl2 hBl32
  obtain ⟨ov, hov⟩ : ∃ ov, ov = S.over K.m q K.On := ⟨_, rfl⟩
  obtain ⟨sl, hsl⟩ : ∃ sl, sl = S.still K.On := ⟨_, rfl⟩
  rw [← hov] at OV5 ⊢
  rw [← hsl] at SO5 STLT STND STL hstl ⊢
  have HOV := Lib.hid hov
  have HSL := Lib.hid hsl
  clear hov hsl
  rcases Nat.eq_zero_or_pos ov.length with hz | hpos
  case inr =>
    have dk : decide ((0 : Int) < ((nats ov).length : Int)) = true := decide_eq_true (by rw [nats_len]; omega)
    have dk2 : decide (0 < (nats ov).length) = true := decide_eq_true (by rw [nats_len]; omega)
    have OVLT := Lib.hid (show ∀ i ∈ ov, i < K.c.op.length from fun i hi => by rw [HOV.out] at hi; exact (HI.out.mem_over.1 hi).1)
    have OVND := Lib.hid (show ov.Nodup by rw [HOV.out]; exact HI.out.over_nd)
    have hovl : (nats ov).length ≤ 12 := by
      have h1 : ∀ x ∈ ov, x ∈ List.range K.c.op.length := fun x hx => List.mem_range.2 (OVLT.out x hx)
      have h2 := List.Nodup.length_le_of_subset OVND.out h1
      rw [List.length_range] at h2
      rw [nats_len]; omega
    have hovp : 0 < (nats ov).length := by rw [nats_len]; exact hpos
    clear hpos
    go_upto_region 4 with (fail)
    clear dk dk2

    have d2 : ∀ x : BelowT w5.heap.size w5, x.w.cell? ⟨B, 0, none⟩ = some (.pointer (some ⟨K.hb, 0, none⟩)) := fun x => cell_of_row _ B 0 _ _ _ (bel_keep x.2 hBl5 X25.out)
    have d3 : ∀ x : BelowT w5.heap.size w5, x.w.cell? ⟨B + 1, 0, none⟩ = some (.slice (some ⟨g, 0, none⟩) K.c.op.length cap) := fun x => cell_of_row _ (B + 1) 0 _ _ _ (bel_keep x.2 hBl35 X35.out)
    have hbl := lt_of_heap H5.out.hall
    have DM := Lib.hid (fun (x : BelowT w5.heap.size w5) (j : Nat) (u : Value) (hj : ([.string ⟨K.c.nm.toArray⟩, .slice K.oa K.c.op.length K.cap, .int .i64 K.c.rl, .int .i64 K.c.se, .int .i64 K.c.mo, .slice K.oO K.O.length K.cO, .slice K.oP K.P.length K.cP] : List Value)[j]? = some u) => (x.2.cell (p := (⟨K.hb, 0, none⟩ : Addr).add j) (by rw [addr_block]; exact hbl)).trans (drawn_mid H5.out j u hj))
    have QS := Lib.hid (sortedF_any K.c.op.length (S.tot K.m) base g cap xa xb K.P (nats ov) ⟨K.c.nm.toArray⟩ K.oa K.c.op.length K.cap K.c.rl K.c.se K.c.mo K.oO K.O.length K.cO K.oP K.cP oo co w5.drew (T5.out.below (Below.refl _ _).drew) HST.out ((HK.out.plc.below H5.out.bel).drew) ((isAt_own2 OV5.out).drew) (fun x hx => by
      unfold nats at hx
      obtain ⟨i, hi, rfl⟩ := List.mem_map.1 hx
      have := OVLT.out i hi
      omega) HK.out.plen.symm HK.out.pbd hovl hovp (by omega) (pw_place HK.out OVLT.out OVND.out))
    refine Seg.wp_region_segs (fun w' => ∃ x : BelowT w5.heap.size w5, w' = x.w) [] [0, 1, 2, 3, 4, 5] 6 (by kernel_rfl) (by kernel_rfl) (fun _ _ d _ _ h => by cases d <;> exact h) (⟨⟨_, (Below.refl _ _).drew⟩, rfl⟩) ?_
    simp only [List.map_cons, List.map_nil, Seg.opAt, List.drop_succ_cons, List.drop_zero, Seg.wpSegs, Array.getD_eq_getD_getElem?, List.getElem?_toArray, List.getElem?_cons_succ, List.getElem?_cons_zero, Option.getD_some]
    first | go_big_quiet_step (fail) | quiet_step (fail)
    first | go_big_quiet_step (fail) | quiet_step (fail)
    first | go_big_quiet_step (fail) | quiet_step (fail)
    refine wpQuiet_load_at rfl 62 _ rfl ⟨K.hb, 0, none⟩ [.string ⟨K.c.nm.toArray⟩, .slice K.oa K.c.op.length K.cap, .int .i64 K.c.rl, .int .i64 K.c.se, .int .i64 K.c.mo, .slice K.oO K.O.length K.cO, .slice K.oP K.P.length K.cP] _ rfl (fun w' hw' => by obtain ⟨x, rfl⟩ := hw'; exact DM.out x) Tryz.underlying62 rfl size_drawn7 ?_
    first | go_big_quiet_step (fail) | quiet_step (fail)
    first | go_big_quiet_step (fail) | quiet_step (fail)
    refine wpQuiet_nil ?_

    go_upto_region 5 with (go_at_call 128; refine QS.out.mono ?_; rintro e w6 ⟨R, ob6, cb6, rfl, own6, perm6, srt6, bel6⟩)
    have b6 := Lib.hid (undrew bel6)
    obtain ⟨r, rfl, hrk, hrl⟩ := rk_of HK.out OVLT.out perm6 srt6
    have RK := Lib.hid hrk
    have hlen : (nats ov).length = r.length := by rw [nats_len, hrl]
    have ROW := Lib.hid (hlen ▸ own6)
    rw [hlen]
    have H6 := Lib.hid (H5.out.below b6.out)
    have hrm : ∀ i, i ∈ r ↔ i ∈ ov := fun i => RK.out.perm.mem_iff
    have HX6 := Lib.hid (fresh_not (H5.out) (Nat.le_refl _) ROW.out)
    have hX6 := fun x hx => (show ¬ Mine K G x from HX6.out x hx)
    have QE := Lib.hid (elect_any K q S G w6 r w5.drew.heap.size ob6 cb6 H6.out hn12 (fun i hi => OVLT.out i ((hrm i).1 hi)) (by have := nats_len ov; omega) ROW.out hX6)
    have x26 : w6.cell? ⟨B, 0, none⟩ = some (.pointer (some ⟨K.hb, 0, none⟩)) := cell_of_row w6 B 0 _ _ _ (bel_keep b6.out hBl5 X25.out)
    have HRL := Lib.hid hrl
    clear own6 perm6 srt6 bel6 hrk QS DM d2 d3 hrm hX6 hrl
    go_wp2_with (go_at_call 129; refine QE.out.mono ?_; rintro e w7 ⟨rfl, G7, h7, s7, p7⟩)
    go_ret3
    have hstep : HStep K G w G7 w7 := ((hstep_below B5.out).below b6.out).trans s7
    have hlt6 : ∀ x, (Value.slice ob6 r.length cb6).ownBlock = some x → x < w6.heap.size := fun x hx => (ROW.out.lt x hx).2
    refine .inr ⟨1, r, ob6, cb6, G7, .elect r ?_ ?_, rfl, own_base (s7.own ROW.out HX6.out) (by rw [HB.out]; exact Nat.le_trans hBw1 (Nat.le_trans hs12 hs5)), fun x hx => s7.not_mine (hlt6 x hx) (HX6.out x hx), h7, hstep, fun k hk => ?_⟩
    · rw [← HOV.out]; intro e0; rw [e0] at hovp; exact absurd hovp (by decide)
    · rw [← HOV.out]; exact RK.out
    · rw [p7]; exact HF.out k hk
  have dk : decide ((0 : Int) < ((nats ov).length : Int)) = false := decide_eq_false (by rw [nats_len]; omega)
  have dk2 : decide (0 < (nats ov).length) = false := decide_eq_false (by rw [nats_len]; omega)
  have OVN := Lib.hid (show S.over K.m q K.On = [] by rw [← HOV.out]; exact List.length_eq_zero_iff.1 hz)
  clear hz HOV
  go_upto_region 7 with (fail)
  clear dk dk2 OV5
  obtain ⟨oe, ce, hev, -, hie⟩ := isAt_own H5.out.els.own
  rw [List.length_map] at hev
  have hbl7 := lt_of_heap H5.out.hall
  have HEV := Lib.hid hev
  clear hev hie
  have d2 : ∀ x : BelowT w5.heap.size w5, x.w.cell? ⟨B, 0, none⟩ = some (.pointer (some ⟨K.hb, 0, none⟩)) := fun x => cell_of_row _ B 0 _ _ _ (bel_keep x.2 hBl5 X25.out)
  have d14 : ∀ x : BelowT w5.heap.size w5, x.w.cell? ⟨K.hb, 14, none⟩ = some (.slice oe S.el.length ce) := fun x => by rw [← HEV.out]; exact cell_of_row _ K.hb 14 _ _ _ (bel_keep x.2 hbl7 H5.out.hall)
  have d3s : ∀ x : BelowT w5.heap.size w5, x.w.cell? ⟨K.hb, 3, none⟩ = some (.int .i64 (s : Int)) := fun x => by rw [← HSE.out]; exact cell_of_row _ K.hb 3 _ _ _ (bel_keep x.2 hbl7 H5.out.hall)
  refine Seg.wp_region_segs (fun w' => ∃ x : BelowT w5.heap.size w5, w' = x.w) [] [0, 1, 2, 3, 4, 5, 6, 7, 8, 9, 10] 11 (by kernel_rfl) (by kernel_rfl) (fun _ _ d _ _ h => by cases d <;> exact h) (⟨⟨_, (Below.refl _ _).drew⟩, rfl⟩) ?_
  simp only [List.map_cons, List.map_nil, Seg.opAt, List.drop_succ_cons, List.drop_zero, Seg.wpSegs, Array.getD_eq_getD_getElem?, List.getElem?_toArray, List.getElem?_cons_succ, List.getElem?_cons_zero, Option.getD_some]
  repeat (any_goals (first | go_big_quiet_step (fail) | quiet_step (fail)))
  refine wpQuiet_nil ?_
  by_cases hels : S.el.length = s
  case pos =>
    have db : ((S.el.length : Int) == (s : Int)) = true := by rw [beq_iff_eq]; omega
    have db2 : decide ((S.el.length : Int) = (s : Int)) = true := decide_eq_true (by omega)
    have HE := Lib.hid hels
    clear hels
    go_wp2_with fail
    go_ret3
    exact .inl ⟨⟨OVN.out, HE.out⟩, rfl, H5.out.below (Below.refl _ _).drew, (hstep_below B5.out).below (Below.refl _ _).drew⟩
  have db : ((S.el.length : Int) == (s : Int)) = false := by rw [beq_eq_false_iff_ne]; omega
  have db2 : decide ((S.el.length : Int) = (s : Int)) = false := decide_eq_false (by omega)
  have HNE := Lib.hid hels
  clear hels
  go_upto_region 9 with (fail)
  clear db db2 d2 d14 d3s
  refine wp_abs (fun w6 => Below w5.heap.size w5 w6) (Below.refl _ _).drew (fun w6 hb6 => ?_)
  have H6 := Lib.hid (H5.out.below hb6)
  have T6 := Lib.hid (T5.out.below hb6)
  have X26 := Lib.hid (bel_keep hb6 hBl5 X25.out)
  have X36 := Lib.hid (bel_keep hb6 hBl35 X35.out)
  have SO6 := Lib.hid (SO5.out.kept (row := none) (grown_bel hb6 none) (by cases Value.ownBlock _ <;> simp))
  have B6 := Lib.hid (B5.out.trans ((hb6).mono B5.out.size))
  have hs6 := (hb6).size
  have hBl6 : B < w6.heap.size := Nat.lt_of_lt_of_le hBl5 hs6
  have hBl36 : B + 1 < w6.heap.size := Nat.lt_of_lt_of_le hBl35 hs6
  clear hb6 H5 T5 X25 X35 SO5 B5 hBl5 hBl35 hbl7
  have hbl7 := lt_of_heap H6.out.hall
  have d2 : ∀ x : BelowT w6.heap.size w6, x.w.cell? ⟨B, 0, none⟩ = some (.pointer (some ⟨K.hb, 0, none⟩)) := fun x => cell_of_row _ B 0 _ _ _ (bel_keep x.2 hBl6 X26.out)
  have d14 : ∀ x : BelowT w6.heap.size w6, x.w.cell? ⟨K.hb, 14, none⟩ = some (.slice oe S.el.length ce) := fun x => by rw [← HEV.out]; exact cell_of_row _ K.hb 14 _ _ _ (bel_keep x.2 hbl7 H6.out.hall)
  have d3s : ∀ x : BelowT w6.heap.size w6, x.w.cell? ⟨K.hb, 3, none⟩ = some (.int .i64 (s : Int)) := fun x => by rw [← HSE.out]; exact cell_of_row _ K.hb 3 _ _ _ (bel_keep x.2 hbl7 H6.out.hall)
  refine Seg.wp_region_segs (fun w' => ∃ x : BelowT w6.heap.size w6, w' = x.w) [] [0, 1, 2, 3, 4, 5, 6, 7, 8, 9, 10, 11, 12, 13] 14 (by kernel_rfl) (by kernel_rfl) (fun _ _ d _ _ h => by cases d <;> exact h) (⟨⟨_, (Below.refl _ _).drew⟩, rfl⟩) ?_
  simp only [List.map_cons, List.map_nil, Seg.opAt, List.drop_succ_cons, List.drop_zero, Seg.wpSegs, Array.getD_eq_getD_getElem?, List.getElem?_toArray, List.getElem?_cons_succ, List.getElem?_cons_zero, Option.getD_some]
  repeat (any_goals (first | go_big_quiet_step (fail) | quiet_step (fail)))
  refine wpQuiet_nil ?_
  by_cases hfill : (nats sl).length + S.el.length ≤ s
  case pos =>
    have db : decide (((nats sl).length : Int) + (S.el.length : Int) ≤ (s : Int)) = true := decide_eq_true (by omega)
    have db2 : decide ((nats sl).length + S.el.length ≤ s) = true := decide_eq_true hfill
    have HFI := Lib.hid hfill
    clear hfill
    go_upto_region 10 with (fail)
    clear db db2 d2 d14 d3s
    refine wp_abs (fun w8 => Below w6.heap.size w6 w8) (Below.refl _ _).drew (fun w8 hb8 => ?_)
    have H8 := Lib.hid (H6.out.below hb8)
    have T8 := Lib.hid (T6.out.below hb8)
    have X28 := Lib.hid (bel_keep hb8 hBl6 X26.out)
    have X38 := Lib.hid (bel_keep hb8 hBl36 X36.out)
    have SO8 := Lib.hid (SO6.out.kept (row := none) (grown_bel hb8 none) (by cases Value.ownBlock _ <;> simp))
    have B8 := Lib.hid (B6.out.trans ((hb8).mono B6.out.size))
    have hs8 := (hb8).size
    have hBl8 : B < w8.heap.size := Nat.lt_of_lt_of_le hBl6 hs8
    have hBl38 : B + 1 < w8.heap.size := Nat.lt_of_lt_of_le hBl36 hs8
    clear hb8 H6 T6 X26 X36 SO6 B6 hBl6 hBl36 hbl7
    have hslp : 0 < (nats sl).length := by
      have h1 := HI.out.many
      have h2 := HI.out.few
      rw [← HSL.out] at h1
      have h3 := HNE.out
      rw [nats_len]; omega

    have d2 : ∀ x : BelowT w8.heap.size w8, x.w.cell? ⟨B, 0, none⟩ = some (.pointer (some ⟨K.hb, 0, none⟩)) := fun x => cell_of_row _ B 0 _ _ _ (bel_keep x.2 hBl8 X28.out)
    have d3 : ∀ x : BelowT w8.heap.size w8, x.w.cell? ⟨B + 1, 0, none⟩ = some (.slice (some ⟨g, 0, none⟩) K.c.op.length cap) := fun x => cell_of_row _ (B + 1) 0 _ _ _ (bel_keep x.2 hBl38 X38.out)
    have hbl := lt_of_heap H8.out.hall
    have DM := Lib.hid (fun (x : BelowT w8.heap.size w8) (j : Nat) (u : Value) (hj : ([.string ⟨K.c.nm.toArray⟩, .slice K.oa K.c.op.length K.cap, .int .i64 K.c.rl, .int .i64 K.c.se, .int .i64 K.c.mo, .slice K.oO K.O.length K.cO, .slice K.oP K.P.length K.cP] : List Value)[j]? = some u) => (x.2.cell (p := (⟨K.hb, 0, none⟩ : Addr).add j) (by rw [addr_block]; exact hbl)).trans (drawn_mid H8.out j u hj))
    have QS := Lib.hid (sortedF_any K.c.op.length (S.tot K.m) base g cap xa xb K.P (nats sl) ⟨K.c.nm.toArray⟩ K.oa K.c.op.length K.cap K.c.rl K.c.se K.c.mo K.oO K.O.length K.cO K.oP K.cP os cs w8.drew (T8.out.below (Below.refl _ _).drew) HST.out ((HK.out.plc.below H8.out.bel).drew) ((isAt_own2 SO8.out).drew) (fun x hx => by
      unfold nats at hx
      obtain ⟨i, hi, rfl⟩ := List.mem_map.1 hx
      have := STLT.out i hi
      omega) HK.out.plen.symm HK.out.pbd hstl hslp (by omega) (pw_place HK.out STLT.out STND.out))
    refine Seg.wp_region_segs (fun w' => ∃ x : BelowT w8.heap.size w8, w' = x.w) [] [0, 1, 2, 3, 4, 5] 6 (by kernel_rfl) (by kernel_rfl) (fun _ _ d _ _ h => by cases d <;> exact h) (⟨⟨_, (Below.refl _ _).drew⟩, rfl⟩) ?_
    simp only [List.map_cons, List.map_nil, Seg.opAt, List.drop_succ_cons, List.drop_zero, Seg.wpSegs, Array.getD_eq_getD_getElem?, List.getElem?_toArray, List.getElem?_cons_succ, List.getElem?_cons_zero, Option.getD_some]
    first | go_big_quiet_step (fail) | quiet_step (fail)
    first | go_big_quiet_step (fail) | quiet_step (fail)
    first | go_big_quiet_step (fail) | quiet_step (fail)
    refine wpQuiet_load_at rfl 62 _ rfl ⟨K.hb, 0, none⟩ [.string ⟨K.c.nm.toArray⟩, .slice K.oa K.c.op.length K.cap, .int .i64 K.c.rl, .int .i64 K.c.se, .int .i64 K.c.mo, .slice K.oO K.O.length K.cO, .slice K.oP K.P.length K.cP] _ rfl (fun w' hw' => by obtain ⟨x, rfl⟩ := hw'; exact DM.out x) Tryz.underlying62 rfl size_drawn7 ?_
    first | go_big_quiet_step (fail) | quiet_step (fail)
    first | go_big_quiet_step (fail) | quiet_step (fail)
    refine wpQuiet_nil ?_

    go_upto_region 11 with (go_at_call 128; refine QS.out.mono ?_; rintro e w9 ⟨R, ob6, cb6, rfl, own6, perm6, srt6, bel6⟩)
    have b6 := Lib.hid (undrew bel6)
    obtain ⟨r, rfl, hrk, hrl⟩ := rk_of HK.out STLT.out perm6 srt6
    have RK := Lib.hid hrk
    have hlen : (nats sl).length = r.length := by rw [nats_len, hrl]
    have ROW := Lib.hid (hlen ▸ own6)
    rw [hlen]
    have H9 := Lib.hid (H8.out.below b6.out)
    have hrm : ∀ i, i ∈ r ↔ i ∈ sl := fun i => RK.out.perm.mem_iff
    have HX6 := Lib.hid (fresh_not (H8.out) (Nat.le_refl _) ROW.out)
    have hX6 := fun x hx => (show ¬ Mine K G x from HX6.out x hx)
    have QE := Lib.hid (elect_any K q S G w9 r w8.drew.heap.size ob6 cb6 H9.out hn12 (fun i hi => STLT.out i ((hrm i).1 hi)) (by have := nats_len sl; omega) ROW.out hX6)
    have x29 : w9.cell? ⟨B, 0, none⟩ = some (.pointer (some ⟨K.hb, 0, none⟩)) := cell_of_row w9 B 0 _ _ _ (bel_keep b6.out hBl8 X28.out)
    have HRL := Lib.hid hrl
    clear own6 perm6 srt6 bel6 hrk QS DM d2 d3 hrm hX6 hrl
    go_wp2_with (go_at_call 129; refine QE.out.mono ?_; rintro e w7 ⟨rfl, G7, h7, s7, p7⟩)
    go_ret3
    have hstep : HStep K G w G7 w7 := ((hstep_below B8.out).below b6.out).trans s7
    have hlt6 : ∀ x, (Value.slice ob6 r.length cb6).ownBlock = some x → x < w9.heap.size := fun x hx => (ROW.out.lt x hx).2
    refine .inr ⟨4, r, ob6, cb6, G7, .fill r OVN.out HNE.out ?_ ?_, rfl, own_base (s7.own ROW.out HX6.out) (B8.out.size), fun x hx => s7.not_mine (hlt6 x hx) (HX6.out x hx), h7, hstep, fun k hk => ?_⟩
    · rw [← HSL.out, ← nats_len]; rw [hlen]; have := HFI.out; rw [hlen] at this; exact this
    · rw [← HSL.out]; exact RK.out
    · rw [p7]; exact HF.out k hk
  have db : decide (((nats sl).length : Int) + (S.el.length : Int) ≤ (s : Int)) = false := decide_eq_false (by omega)
  have db2 : decide ((nats sl).length + S.el.length ≤ s) = false := decide_eq_false hfill
  have HNF := Lib.hid (show s < (S.still K.On).length + S.el.length by rw [← HSL.out, ← nats_len]; omega)
  clear hfill
  go_upto_region 13 with (fail)
  clear db db2 d2 d14 d3s
  refine wp_abs (fun w8 => Below w6.heap.size w6 w8) (Below.refl _ _).drew (fun w8 hb8 => ?_)
  have H8 := Lib.hid (H6.out.below hb8)
  have T8 := Lib.hid (T6.out.below hb8)
  have X28 := Lib.hid (bel_keep hb8 hBl6 X26.out)
  have X38 := Lib.hid (bel_keep hb8 hBl36 X36.out)
  have SO8 := Lib.hid (SO6.out.kept (row := none) (grown_bel hb8 none) (by cases Value.ownBlock _ <;> simp))
  have B8 := Lib.hid (B6.out.trans ((hb8).mono B6.out.size))
  have hs8 := (hb8).size
  have hBl8 : B < w8.heap.size := Nat.lt_of_lt_of_le hBl6 hs8
  have hBl38 : B + 1 < w8.heap.size := Nat.lt_of_lt_of_le hBl36 hs8
  clear hb8 H6 T6 X26 X36 SO6 B6 hBl6 hBl36 hbl7
  have x28 : w8.cell? ⟨B, 0, none⟩ = some (.pointer (some ⟨K.hb, 0, none⟩)) := cell_of_row w8 B 0 _ _ _ X28.out
  have QW := Lib.hid (which_any K q S G w8 H8.out HK.out 130 E3.out (.pointer (some ⟨B, 0, none⟩)) (fun x => decide (x.toNat ∈ S.el) && !S.moved x.toNat) (fun w9 hb x hx => by
    obtain ⟨i, rfl, hi⟩ := HXO.out x hx
    exact round3_any K q S G w9 (H8.out.below hb) B ((hb.cell (p := ⟨B, 0, none⟩) hBl8).trans (cell_of_row w8 B 0 _ _ _ X28.out)) i hi hel))
  have hPS : K.O.filter (fun x => decide (x.toNat ∈ S.el) && !S.moved x.toNat) = nats (S.wait K.On) := HPO.out (fun x => decide (x.toNat ∈ S.el) && !S.moved x.toNat) (fun i => decide (i ∈ S.el) && !S.moved i) (fun i _ => by simp)
  rw [hPS] at QW
  obtain ⟨wa, hwa⟩ : ∃ wa, wa = S.wait K.On := ⟨_, rfl⟩
  rw [← hwa] at QW
  have HWA := Lib.hid hwa
  clear hPS hwa
  go_upto_region 14 with (go_at_call 123; refine QW.out.mono ?_; rintro e w9 ⟨ow, cw, rfl, own9, bel9⟩)
  have WA9 := Lib.hid own9
  have H9 := Lib.hid (H8.out.below bel9)
  have T9 := Lib.hid (T8.out.below bel9)
  have X29 := Lib.hid (bel_keep bel9 hBl8 X28.out)
  have X39 := Lib.hid (bel_keep bel9 hBl38 X38.out)
  have SO9 := Lib.hid (SO8.out.kept (row := none) (grown_bel bel9 none) (by cases Value.ownBlock _ <;> simp))
  have B9 := Lib.hid (B8.out.trans ((bel9).mono B8.out.size))
  have hs9 := (bel9).size
  have hBl9 : B < w9.heap.size := Nat.lt_of_lt_of_le hBl8 hs9
  have hBl39 : B + 1 < w9.heap.size := Nat.lt_of_lt_of_le hBl38 hs9
  clear bel9 own9 QW x28 H8 T8 X28 X38 SO8 B8 hBl8 hBl38
  rcases Nat.eq_zero_or_pos wa.length with hz | hpos
  case inr =>
    have dk : decide ((0 : Int) < ((nats wa).length : Int)) = true := decide_eq_true (by rw [nats_len]; omega)
    have dk2 : decide (0 < (nats wa).length) = true := decide_eq_true (by rw [nats_len]; omega)
    have WALT := Lib.hid (show ∀ i ∈ wa, i < K.c.op.length from fun i hi => by rw [HWA.out] at hi; exact (HI.out.mem_wait.1 hi).1)
    have WAND := Lib.hid (show wa.Nodup by rw [HWA.out]; exact HI.out.wait_nd)
    have hwal : (nats wa).length ≤ 12 := by
      have h1 : ∀ x ∈ wa, x ∈ List.range K.c.op.length := fun x hx => List.mem_range.2 (WALT.out x hx)
      have h2 := List.Nodup.length_le_of_subset WAND.out h1
      rw [List.length_range] at h2
      rw [nats_len]; omega
    have hwap : 0 < (nats wa).length := by rw [nats_len]; exact hpos
    have hwai : (0 : Int) < ((nats wa).length : Int) := by omega
    clear hpos
    go_upto_region 15 with (fail)
    clear dk dk2

    have d2 : ∀ x : BelowT w9.heap.size w9, x.w.cell? ⟨B, 0, none⟩ = some (.pointer (some ⟨K.hb, 0, none⟩)) := fun x => cell_of_row _ B 0 _ _ _ (bel_keep x.2 hBl9 X29.out)
    have d3 : ∀ x : BelowT w9.heap.size w9, x.w.cell? ⟨B + 1, 0, none⟩ = some (.slice (some ⟨g, 0, none⟩) K.c.op.length cap) := fun x => cell_of_row _ (B + 1) 0 _ _ _ (bel_keep x.2 hBl39 X39.out)
    have hbl := lt_of_heap H9.out.hall
    have DM := Lib.hid (fun (x : BelowT w9.heap.size w9) (j : Nat) (u : Value) (hj : ([.string ⟨K.c.nm.toArray⟩, .slice K.oa K.c.op.length K.cap, .int .i64 K.c.rl, .int .i64 K.c.se, .int .i64 K.c.mo, .slice K.oO K.O.length K.cO, .slice K.oP K.P.length K.cP] : List Value)[j]? = some u) => (x.2.cell (p := (⟨K.hb, 0, none⟩ : Addr).add j) (by rw [addr_block]; exact hbl)).trans (drawn_mid H9.out j u hj))
    have QS := Lib.hid (sortedF_any K.c.op.length (S.tot K.m) base g cap xa xb K.P (nats wa) ⟨K.c.nm.toArray⟩ K.oa K.c.op.length K.cap K.c.rl K.c.se K.c.mo K.oO K.O.length K.cO K.oP K.cP ow cw w9.drew (T9.out.below (Below.refl _ _).drew) HST.out ((HK.out.plc.below H9.out.bel).drew) ((isAt_own2 WA9.out).drew) (fun x hx => by
      unfold nats at hx
      obtain ⟨i, hi, rfl⟩ := List.mem_map.1 hx
      have := WALT.out i hi
      omega) HK.out.plen.symm HK.out.pbd hwal hwap (by omega) (pw_place HK.out WALT.out WAND.out))
    refine Seg.wp_region_segs (fun w' => ∃ x : BelowT w9.heap.size w9, w' = x.w) [] [0, 1, 2, 3, 4, 5] 6 (by kernel_rfl) (by kernel_rfl) (fun _ _ d _ _ h => by cases d <;> exact h) (⟨⟨_, (Below.refl _ _).drew⟩, rfl⟩) ?_
    simp only [List.map_cons, List.map_nil, Seg.opAt, List.drop_succ_cons, List.drop_zero, Seg.wpSegs, Array.getD_eq_getD_getElem?, List.getElem?_toArray, List.getElem?_cons_succ, List.getElem?_cons_zero, Option.getD_some]
    first | go_big_quiet_step (fail) | quiet_step (fail)
    first | go_big_quiet_step (fail) | quiet_step (fail)
    first | go_big_quiet_step (fail) | quiet_step (fail)
    refine wpQuiet_load_at rfl 62 _ rfl ⟨K.hb, 0, none⟩ [.string ⟨K.c.nm.toArray⟩, .slice K.oa K.c.op.length K.cap, .int .i64 K.c.rl, .int .i64 K.c.se, .int .i64 K.c.mo, .slice K.oO K.O.length K.cO, .slice K.oP K.P.length K.cP] _ rfl (fun w' hw' => by obtain ⟨x, rfl⟩ := hw'; exact DM.out x) Tryz.underlying62 rfl size_drawn7 ?_
    first | go_big_quiet_step (fail) | quiet_step (fail)
    first | go_big_quiet_step (fail) | quiet_step (fail)
    refine wpQuiet_nil ?_

    go_upto_region 16 with (go_at_call 128; refine QS.out.mono ?_; rintro e w10 ⟨R, ob6, cb6, rfl, own6, perm6, srt6, bel6⟩; obtain ⟨r, rfl, hrk, hrl⟩ := rk_of HK.out WALT.out perm6 srt6; obtain ⟨i, r', rfl⟩ : ∃ i r', r = i :: r' := (by
        cases r with
        | nil => (have h0 := nats_len wa; simp at hrl; omega)
        | cons i r' => exact ⟨i, r', rfl⟩); obtain ⟨g6, rfl, hc6⟩ := own_cell (l := i :: r') own6 (j := 0) (by simp); have RK := Lib.hid hrk; have b6 := Lib.hid (undrew bel6); clear own6 perm6 srt6 bel6 hrk hrl)
    have him := HI.out.mem_wait.1 (show i ∈ S.wait K.On by rw [← HWA.out]; exact RK.out.perm.mem_iff.1 (by simp))
    have HIM := Lib.hid him
    have hin : i < K.c.op.length := him.1
    have HQ := Lib.hid (show q.v < (S.tot K.m i).v by
      rcases HI.out.high with h1 | h1
      · exact h1 i HIM.out.2.1 HIM.out.2.2
      · exact absurd h1.1 HNE.out)
    clear him
    have hc6' : w10.cell? ⟨g6, 0, none⟩ = some (.int .i64 (i : Int)) := hc6
    clear hc6 hc6' QS DM d2 d3
    have H10 := Lib.hid (H9.out.below b6.out)
    have T10 := Lib.hid (T9.out.below b6.out)
    have X210 := Lib.hid (bel_keep b6.out hBl9 X29.out)
    have X310 := Lib.hid (bel_keep b6.out hBl39 X39.out)
    have SO10 := Lib.hid (SO9.out.kept (row := none) (grown_bel b6.out none) (by cases Value.ownBlock _ <;> simp))
    have B10 := Lib.hid (B9.out.trans ((b6.out).mono B9.out.size))
    have hs10 := (b6.out).size
    have hBl10 : B < w10.heap.size := Nat.lt_of_lt_of_le hBl9 hs10
    have hBl310 : B + 1 < w10.heap.size := Nat.lt_of_lt_of_le hBl39 hs10
    clear hBl9 hBl39 hbl
    have H10' := H10.out
    have dii : (i : Int) < (K.c.op.length : Int) := by omega
    obtain ⟨M, hM⟩ : ∃ M, M = w10.heap.size := ⟨_, rfl⟩
    have HM := Lib.hid hM
    have l1 : K.hb < M := by rw [hM]; exact lt_of_heap H10'.hall
    have l2 : K.mb < M := by rw [hM]; exact lt_of_heap H10'.moveds
    have l3 : B < M := by rw [hM]; exact hBl10
    have n1 : K.hb ≠ K.mb := ne_of_types H10'.hall H10'.moveds (by decide)
    have n2 : B ≠ K.mb := ne_of_types X210.out H10'.moveds (by decide)
    have d2 : ∀ x : GrT K.mb M w10, x.w.cell? ⟨B, 0, none⟩ = some (.pointer (some ⟨K.hb, 0, none⟩)) := fun x => grt_cell x l3 n2 (cell_of_row _ B 0 _ _ _ X210.out)
    have d13 : ∀ x : GrT K.mb M w10, x.w.cell? ⟨K.hb, 13, none⟩ = some (.slice (some ⟨K.mb, 0, none⟩) K.c.op.length K.c.op.length) := fun x => grt_cell x l1 n1 (cell_of_row _ K.hb 13 _ _ _ H10.out.hall)
    have d11 : ∀ x : GrT K.mb M w10, x.w.cell? ⟨K.hb, 11, none⟩ = some (.slice (some ⟨K.kb, 0, none⟩) K.c.op.length K.c.op.length) := fun x => grt_cell x l1 n1 (cell_of_row _ K.hb 11 _ _ _ H10.out.hall)
    have DQ := Lib.hid (fun (x : GrT K.mb M w10) (j : Nat) (u : Value) (hj : ([K.qn, K.qd] : List Value)[j]? = some u) => grt_cell x (p := (⟨K.hb, 7, none⟩ : Addr).add j) (by rw [addr_block]; exact l1) (by rw [addr_block]; exact n1) (quo_mid H10.out j u hj))
    clear H10' hM
    have HSZ := Lib.hid size_lfr
    refine Seg.wp_region_segs (fun w' => ∃ x : GrT K.mb M w10, w' = x.w) [([0, 1, 2, 3, 4, 5, 6, 7, 8, 9, 10, 11, 12, 13, 14], 15)] [] 16 (by kernel_rfl) (by kernel_rfl) (fun _ _ d _ _ h => by cases d <;> exact h) (grT_of HM.out (grown_only (Only.refl _ w10).drew)) ?_
    simp only [List.map_cons, List.map_nil, Seg.opAt, List.drop_succ_cons, List.drop_zero, Seg.wpSegs, Array.getD_eq_getD_getElem?, List.getElem?_toArray, List.getElem?_cons_succ, List.getElem?_cons_zero, Option.getD_some]
    first | go_big_quiet_step (fail) | quiet_step (fail)
    first | go_big_quiet_step (fail) | quiet_step (fail)
    first | go_big_quiet_step (fail) | quiet_step (fail)
    first | go_big_quiet_step (fail) | quiet_step (fail)
    first | go_big_quiet_step (fail) | quiet_step (fail)
    first | go_big_quiet_step (fail) | quiet_step (fail)
    first | go_big_quiet_step (fail) | quiet_step (fail)
    first | go_big_quiet_step (fail) | quiet_step (fail)
    first | go_big_quiet_step (fail) | quiet_step (fail)
    first | go_big_quiet_step (fail) | quiet_step (fail)
    first | go_big_quiet_step (fail) | quiet_step (fail)
    first | go_big_quiet_step (fail) | quiet_step (fail)
    first | go_big_quiet_step (fail) | quiet_step (fail)
    refine wpQuiet_load_at rfl 90 _ rfl ⟨K.hb, 7, none⟩ [K.qn, K.qd] _ rfl (fun w' hw' => by obtain ⟨x, rfl⟩ := hw'; exact DQ.out x) Tryz.underlying90 rfl HSZ.out ?_
    first | go_big_quiet_step (fail) | quiet_step (fail)
    refine wpQuiet_nil ?_
    intro Kc hK
    simp only [Region.wanted, if_true]
    have zm : w10.frozen? ⟨K.mb, i, none⟩ = false := frozen_of_row w10 _ i _ _ H10.out.moveds
    have nm := bool_cell H10.out.moveds hin
    go_wp2_with fail
    refine hK _ _ (grT_of HM.out (grown_only (only_cell i _).drew)) ?_
    clear hK Kc d2 d13 d11 DQ zm nm
    have H11 := Lib.hid ((H10.out.movd hin).below (Below.refl _ _).drew)
    have S11 := Lib.hid ((only_step (q := q) (S := S) (G := G) (G' := G) (only_cell i (.bool true)) (.inr (.inr (.inr (.inr (.inl rfl))))) (fun b h => h) : HStep K G w10 G (w10.setCell ⟨K.mb, i, none⟩ (.bool true))).below (Below.refl _ _).drew)
    generalize (w10.setCell ⟨K.mb, i, none⟩ (.bool true)).drew = w11 at *
    have HFQ := H11.out.quo
    have KB := Lib.hid (show w11.heap[K.kb]? = some (.cells (flatF K.c.op.length G.kn G.kd).toArray 90 (0, 0)) from H11.out.kepts)
    have TH : w11.there K.kb (i * 2) 2 := fun j hj => by
      refine ⟨?_, frozen_of_row w11 _ _ _ _ KB.out⟩
      rw [cell_of_row w11 K.kb (i * 2 + j) _ _ _ KB.out]
      have := flatF_len K.c.op.length G.kn G.kd
      simp
      omega
    repeat (any_goals (first | go_big_quiet_step (fail) | quiet_step (fail)))
    refine wpQuiet_nil ?_
    go_upto_region 17 with (refine wpList_store_mid rfl 90 _ _ rfl K.kb (i * 2) #[K.qn, K.qd] rfl rfl TH HSZ.out (two_one _ _ HFQ.noLimb.2.2.1 HFQ.noLimb.2.2.2) ?_)
    show Code.wp _ _ _ _ (w11.setCells K.kb (i * 2) [K.qn, K.qd])
    have hOnly : Only K.kb w11 (w11.setCells K.kb (i * 2) [K.qn, K.qd]) := only_cells K.kb [K.qn, K.qd] (i * 2) w11
    have hH12 := H11.out.keeps hin HFQ hOnly (kept_store K.qn K.qd KB.out hin)
    obtain ⟨G12, hG12⟩ : ∃ G12 : TR.HG, G12 = ⟨G.pv, G.nv, G.ev, G.PL, G.wn, G.wd, upd G.kn i K.qn, upd G.kd i K.qd⟩ := ⟨_, rfl⟩
    rw [← hG12] at hH12
    have hM12 : ∀ b, Mine K G12 b → Mine K G b := fun b h => by rw [hG12] at h; exact h
    have HPL := Lib.hid (show G12.PL = G.PL by rw [hG12])
    have hS12 : HStep K G w10 G12 (w11.setCells K.kb (i * 2) [K.qn, K.qd]) := S11.out.trans (only_step (q := q) (S := S) hOnly (.inr (.inr (.inl rfl))) hM12)
    have hH12' : HallAt K q ⟨S.V, S.cont, upd S.moved i true, upd S.kept i q, S.el⟩ G12 (w11.setCells K.kb (i * 2) [K.qn, K.qd]) := hH12
    refine wp_abs (fun w12 => HallAt K q ⟨S.V, S.cont, upd S.moved i true, upd S.kept i q, S.el⟩ G12 w12 ∧ HStep K G w10 G12 w12) ⟨hH12', hS12⟩ (fun w12 hw12 => ?_)
    have H12 := Lib.hid hw12.1
    have S12 := Lib.hid hw12.2
    have T12 := Lib.hid (S12.out.tots H10.out T10.out HG.out)
    have X212 := Lib.hid (S12.out.keep X210.out HNB.out)
    have X312 := Lib.hid (S12.out.keep X310.out HNB1.out)
    clear hw12 hH12 hH12' hS12 hM12 hOnly TH KB HFQ H11 S11 hG12 l1 l2 l3 n1 n2 HM H9 T9 X29 X39 B9 WA9 SO9 SO10
    as_aux_lemma =>
    have hBl12 := lt_of_heap X212.out
    have hBl312 := lt_of_heap X312.out
    have hbl := lt_of_heap H12.out.hall
    have hgl12 : g < w12.heap.size := by
      rcases T12.out.row.own.2 with ⟨hv, _⟩ | ⟨g2, _, _, hv, _, hg2, _⟩
      · cases hv
      · injection hv with h1; injection h1 with h1; injection h1 with h1; subst h1; exact lt_of_heap hg2
    have d2 : ∀ x : BelowT w12.heap.size w12, x.w.cell? ⟨B, 0, none⟩ = some (.pointer (some ⟨K.hb, 0, none⟩)) := fun x => cell_of_row _ B 0 _ _ _ (bel_keep x.2 hBl12 X212.out)
    have d3 : ∀ x : BelowT w12.heap.size w12, x.w.cell? ⟨B + 1, 0, none⟩ = some (.slice (some ⟨g, 0, none⟩) K.c.op.length cap) := fun x => cell_of_row _ (B + 1) 0 _ _ _ (bel_keep x.2 hBl312 X312.out)
    have HC := Lib.hid (fun (x : BelowT w12.heap.size w12) (b o : Nat) (l : List Value) (hb : b < w12.heap.size) (h : ∀ j u, l[j]? = some u → w12.cell? ((⟨b, o, none⟩ : Addr).add j) = some u) (j : Nat) (u : Value) (hj : l[j]? = some u) => (x.2.cell (p := (⟨b, o, none⟩ : Addr).add j) (by rw [addr_block]; exact hb)).trans (h j u hj))
    have TM := Lib.hid (T12.out.mid hin)
    have QM := Lib.hid (quo_mid H12.out)
    obtain ⟨sm1, sm2⟩ := HI.out.sur_sml hn12 hm4 hin HQ.out
    have SM1 := Lib.hid sm1
    have SM2 := Lib.hid sm2
    have ST := Lib.hid (HST.out i hin)
    obtain ⟨_, tpos, _, tn⟩ := HI.out.surplus_ok HQ.out
    have TN := Lib.hid tn
    have QMi := Lib.hid (minus_V w12.drew (Trn.fr (Trn.of_below (Below.refl _ _).drew 0 0) (T12.out.frs i hin)) (Trn.fr (Trn.of_below (Below.refl _ _).drew 0 0) H12.out.quo) ST.out.ok HSQ.out.ok (Rat.le_of_lt HQ.out) ST.out.lens HSQ.out.lens)
    clear sm1 sm2 tpos tn
    refine Seg.wp_region_segs (fun w' => ∃ x : BelowT w12.heap.size w12, w' = x.w) [([0, 1, 2, 3, 4, 5, 6, 7, 8, 9, 11, 12, 13, 14], 10), ([], 15)] [] 16 (by kernel_rfl) (by kernel_rfl) (fun _ _ d _ _ h => by cases d <;> exact h) (⟨⟨_, (Below.refl _ _).drew⟩, rfl⟩) ?_
    simp only [List.map_cons, List.map_nil, Seg.opAt, List.drop_succ_cons, List.drop_zero, Seg.wpSegs, Array.getD_eq_getD_getElem?, List.getElem?_toArray, List.getElem?_cons_succ, List.getElem?_cons_zero, Option.getD_some]
    first | go_big_quiet_step (fail) | quiet_step (fail)
    first | go_big_quiet_step (fail) | quiet_step (fail)
    first | go_big_quiet_step (fail) | quiet_step (fail)
    first | go_big_quiet_step (fail) | quiet_step (fail)
    first | go_big_quiet_step (fail) | quiet_step (fail)
    refine wpQuiet_load_at rfl 90 _ rfl ⟨g, i * 2, none⟩ [xa i, xb i] _ rfl (fun w' hw' => by obtain ⟨x, rfl⟩ := hw'; exact HC.out x _ _ _ hgl12 TM.out) Tryz.underlying90 rfl HSZ.out ?_
    first | go_big_quiet_step (fail) | quiet_step (fail)
    first | go_big_quiet_step (fail) | quiet_step (fail)
    first | go_big_quiet_step (fail) | quiet_step (fail)
    refine wpQuiet_load_at rfl 90 _ rfl ⟨K.hb, 7, none⟩ [K.qn, K.qd] _ rfl (fun w' hw' => by obtain ⟨x, rfl⟩ := hw'; exact HC.out x _ _ _ hbl QM.out) Tryz.underlying90 rfl HSZ.out ?_
    first | go_big_quiet_step (fail) | quiet_step (fail)
    first | go_big_quiet_step (fail) | quiet_step (fail)
    first | go_big_quiet_step (fail) | quiet_step (fail)
    refine wpQuiet_load_at rfl 90 _ rfl ⟨g, i * 2, none⟩ [xa i, xb i] _ rfl (fun w' hw' => by obtain ⟨x, rfl⟩ := hw'; exact HC.out x _ _ _ hgl12 TM.out) Tryz.underlying90 rfl HSZ.out ?_
    refine wpQuiet_nil ?_
    intro Kc hK
    simp only [Region.wanted, if_true]
    go_wp2_with (go_at_call 132; refine QMi.out.mono ?_; rintro e w13 ⟨a1, b1, rfl, f1, bel1⟩)
    have F1 := Lib.hid f1
    have B13 := Lib.hid (undrew bel1)
    refine hK _ _ ⟨⟨w13, B13.out⟩, rfl⟩ ?_
    clear hK Kc f1 bel1 QMi d2 d3
    repeat (any_goals (first | go_big_quiet_step (fail) | quiet_step (fail)))
    refine wpQuiet_nil ?_
    intro Kc hK
    first | go_simp | skip
    have QOv := Lib.hid (over_V w13 F1.out ((T12.out.frs i hin).below B13.out) SM1.out.ok TN.out SM1.out.lens ST.out.lens)
    go_wp2_with (go_at_call 119; refine QOv.out.mono ?_; rintro e w14 ⟨a2, b2, rfl, f2, bel2⟩)
    have F2 := Lib.hid (show FrV w14 (S.surplus K.m q i) a2 b2 from f2)
    have B14 := Lib.hid (B13.out.trans (bel2.mono B13.out.size))
    refine hK _ _ ⟨⟨w14, B14.out⟩, rfl⟩ ?_
    clear hK Kc f2 bel2 QOv F1 B13
    have H14 := Lib.hid (H12.out.below B14.out)
    have HNX := Lib.hid (HI.out.moves hm4 hin HIM.out.2.1 HIM.out.2.2 HNE.out)
    have HFI := Lib.hid (full_iff (H12.out) (show Full K ⟨S.V, S.cont, upd S.moved i true, upd S.kept i q, S.el⟩ G12 from fun k hk => by rw [HPL.out]; exact HF.out k hk) i)
    have QG := Lib.hid (goOn_any K q ⟨S.V, S.cont, upd S.moved i true, upd S.kept i q, S.el⟩ G12 w14 i (S.surplus K.m q i) a2 b2 H14.out HK.out hin (fun k hk => by rw [HPL.out]; exact HF.out k hk) F2.out SM2.out (fun k hk => by
      obtain ⟨h1, h2⟩ := (HFI.out k).1 hk
      refine ⟨HI.out.wt_sml hn12 hm4 h1, ?_⟩
      have h3 := HNX.out.wt_sml hn12 hm4 h1
      have h4 : ((S.move K.m q i).V k).wt = (S.V k).wt.mul (S.surplus K.m q i) := by
        show (S.goOn S.cont i (S.surplus K.m q i) k).wt = _
        rw [goOn_wt, if_pos h2]
      rw [h4] at h3
      exact h3) (fun k hk j hj => HI.out.rk k hk j hj))
    rw [move_eq HI.out HFI.out] at QG
    repeat (any_goals (first | go_big_quiet_step (fail) | quiet_step (fail)))
    refine wpQuiet_nil ?_
    go_upto_region 18 with (go_at_call 131; refine QG.out.mono ?_; rintro e w15 ⟨rfl, G15, h15, s15, fu15⟩)
    have H15 := Lib.hid h15
    have hstep : HStep K G w G15 w15 := (hstep_below B10.out).trans ((S12.out.below B14.out).trans s15)
    have S15 := Lib.hid hstep
    have FU15 := Lib.hid fu15
    clear h15 s15 hstep fu15 QG
    go_wp2_with fail
    go_ret3
    have hba : Below w15.heap.size w15 (w15.alloc (.cells #[.int .i64 (i : Int)] 3)) := (Below.refl _ _).alloc (Nat.le_refl _) _
    have hbase : w.heap.size ≤ w15.heap.size := S15.out.size
    refine .inr ⟨2, [i], some ⟨w15.heap.size, 0, none⟩, 1, G15, .move i r' OVN.out HNE.out HNF.out (HWA.out ▸ RK.out), rfl, lone_row hbase, fun x hx hm => ?_, H15.out.below hba, S15.out.below hba, FU15.out⟩
    have e : w15.heap.size = x := by simpa [Value.ownBlock] using hx
    have := mine_lt H15.out hm
    omega
  have dk : decide ((0 : Int) < ((nats wa).length : Int)) = false := decide_eq_false (by rw [nats_len]; omega)
  have dk2 : decide (0 < (nats wa).length) = false := decide_eq_false (by rw [nats_len]; omega)
  have WAN := Lib.hid (show S.wait K.On = [] by rw [← HWA.out]; exact List.length_eq_zero_iff.1 hz)
  have hslp : 0 < (nats sl).length := by
    have h1 := HI.out.many
    have h2 := HI.out.few
    rw [← HSL.out] at h1
    have h3 := HNE.out
    rw [nats_len]; omega
  clear hz HWA WA9
  go_upto_region 19 with (fail)
  clear dk dk2

  have d2 : ∀ x : BelowT w9.heap.size w9, x.w.cell? ⟨B, 0, none⟩ = some (.pointer (some ⟨K.hb, 0, none⟩)) := fun x => cell_of_row _ B 0 _ _ _ (bel_keep x.2 hBl9 X29.out)
  have d3 : ∀ x : BelowT w9.heap.size w9, x.w.cell? ⟨B + 1, 0, none⟩ = some (.slice (some ⟨g, 0, none⟩) K.c.op.length cap) := fun x => cell_of_row _ (B + 1) 0 _ _ _ (bel_keep x.2 hBl39 X39.out)
  have hbl := lt_of_heap H9.out.hall
  have DM := Lib.hid (fun (x : BelowT w9.heap.size w9) (j : Nat) (u : Value) (hj : ([.string ⟨K.c.nm.toArray⟩, .slice K.oa K.c.op.length K.cap, .int .i64 K.c.rl, .int .i64 K.c.se, .int .i64 K.c.mo, .slice K.oO K.O.length K.cO, .slice K.oP K.P.length K.cP] : List Value)[j]? = some u) => (x.2.cell (p := (⟨K.hb, 0, none⟩ : Addr).add j) (by rw [addr_block]; exact hbl)).trans (drawn_mid H9.out j u hj))
  have QS := Lib.hid (sortedF_any K.c.op.length (S.tot K.m) base g cap xa xb K.P (nats sl) ⟨K.c.nm.toArray⟩ K.oa K.c.op.length K.cap K.c.rl K.c.se K.c.mo K.oO K.O.length K.cO K.oP K.cP os cs w9.drew (T9.out.below (Below.refl _ _).drew) HST.out ((HK.out.plc.below H9.out.bel).drew) ((isAt_own2 SO9.out).drew) (fun x hx => by
    unfold nats at hx
    obtain ⟨i, hi, rfl⟩ := List.mem_map.1 hx
    have := STLT.out i hi
    omega) HK.out.plen.symm HK.out.pbd hstl hslp (by omega) (pw_place HK.out STLT.out STND.out))
  refine Seg.wp_region_segs (fun w' => ∃ x : BelowT w9.heap.size w9, w' = x.w) [] [0, 1, 2, 3, 4, 5] 6 (by kernel_rfl) (by kernel_rfl) (fun _ _ d _ _ h => by cases d <;> exact h) (⟨⟨_, (Below.refl _ _).drew⟩, rfl⟩) ?_
  simp only [List.map_cons, List.map_nil, Seg.opAt, List.drop_succ_cons, List.drop_zero, Seg.wpSegs, Array.getD_eq_getD_getElem?, List.getElem?_toArray, List.getElem?_cons_succ, List.getElem?_cons_zero, Option.getD_some]
  first | go_big_quiet_step (fail) | quiet_step (fail)
  first | go_big_quiet_step (fail) | quiet_step (fail)
  first | go_big_quiet_step (fail) | quiet_step (fail)
  refine wpQuiet_load_at rfl 62 _ rfl ⟨K.hb, 0, none⟩ [.string ⟨K.c.nm.toArray⟩, .slice K.oa K.c.op.length K.cap, .int .i64 K.c.rl, .int .i64 K.c.se, .int .i64 K.c.mo, .slice K.oO K.O.length K.cO, .slice K.oP K.P.length K.cP] _ rfl (fun w' hw' => by obtain ⟨x, rfl⟩ := hw'; exact DM.out x) Tryz.underlying62 rfl size_drawn7 ?_
  first | go_big_quiet_step (fail) | quiet_step (fail)
  first | go_big_quiet_step (fail) | quiet_step (fail)
  refine wpQuiet_nil ?_

  go_upto_region 20 with (go_at_call 128; refine QS.out.mono ?_; rintro e w10 ⟨R, ob6, cb6, rfl, own6, perm6, srt6, bel6⟩; obtain ⟨r, rfl, hrk, hrl⟩ := rk_of HK.out STLT.out perm6 srt6; have RK := Lib.hid hrk; have b6 := Lib.hid (undrew bel6); have ROW := Lib.hid own6; have HRL := Lib.hid hrl; clear own6 perm6 srt6 bel6 hrk hrl)
  obtain ⟨r', i, hri⟩ : ∃ r' i, r = r' ++ [i] := by
    have hne : r ≠ [] := fun e => by have h0 := nats_len sl; have h1 := HRL.out; rw [e] at h1; simp at h1; omega
    exact ⟨r.dropLast, r.getLast hne, (List.dropLast_concat_getLast hne).symm⟩
  subst hri
  have hlen : (nats sl).length = r'.length + 1 := by have h0 := nats_len sl; have h1 := HRL.out; simp at h1; omega
  have own7 := ROW.out
  rw [hlen] at own7 ⊢
  obtain ⟨p, hp⟩ : ∃ p, p = r'.length := ⟨_, rfl⟩
  rw [← hp] at own7 ⊢
  obtain ⟨g6, rfl, hc6⟩ := own_cell (l := r' ++ [i]) own7 (j := p) (by simp; omega)
  have hc6' : w10.cell? ⟨g6, p, none⟩ = some (.int .i64 (i : Int)) := by rw [hc6]; simp [hp]
  have e1 : (p : Int) < ((p + 1 : Nat) : Int) := by omega
  have e2 : (p : Int) < (p : Int) + 1 := by omega
  have e3 : p ≤ 12 := by omega
  have e4 : wrap64 (p : Int) = (p : Int) := IntWalk.wrap64_in _ (by omega)
  have HIC := Lib.hid (HI.out.mem_still.1 (show i ∈ S.still K.On by rw [← HSL.out]; exact RK.out.perm.mem_iff.1 (by simp)))
  have hin : i < K.c.op.length := HIC.out.1
  clear hc6 own7 ROW QS DM d2 d3 hp hslp
  have H10 := Lib.hid (H9.out.below b6.out)
  have T10 := Lib.hid (T9.out.below b6.out)
  have X210 := Lib.hid (bel_keep b6.out hBl9 X29.out)
  have X310 := Lib.hid (bel_keep b6.out hBl39 X39.out)
  have SO10 := Lib.hid (SO9.out.kept (row := none) (grown_bel b6.out none) (by cases Value.ownBlock _ <;> simp))
  have B10 := Lib.hid (B9.out.trans ((b6.out).mono B9.out.size))
  have hs10 := (b6.out).size
  have hBl10 : B < w10.heap.size := Nat.lt_of_lt_of_le hBl9 hs10
  have hBl310 : B + 1 < w10.heap.size := Nat.lt_of_lt_of_le hBl39 hs10
  clear hBl9 hBl39 hbl H9 T9 X29 X39 B9 SO9 SO10
  have x210 : w10.cell? ⟨B, 0, none⟩ = some (.pointer (some ⟨K.hb, 0, none⟩)) := cell_of_row w10 B 0 _ _ _ X210.out
  have k12 : w10.cell? ⟨K.hb, 12, none⟩ = some (.slice (some ⟨K.cb, 0, none⟩) K.c.op.length K.c.op.length) := cell_of_row w10 K.hb 12 _ _ _ H10.out.hall
  have kc := bool_cell H10.out.conts hin
  have zc : w10.frozen? ⟨K.cb, i, none⟩ = false := frozen_of_row w10 _ i _ _ H10.out.conts
  have dii : (i : Int) < (K.c.op.length : Int) := by omega
  go_upto_region 22 with (fail)
  have hH11 := H10.out.outed hin
  have hS11 : HStep K G w10 G (w10.setCell ⟨K.cb, i, none⟩ (.bool false)) := only_step (q := q) (S := S) (only_cell i _) (.inr (.inr (.inr (.inl rfl)))) (fun b h => h)
  refine wp_abs (fun w11 => HallAt K q ⟨S.V, upd S.cont i false, S.moved, S.kept, S.el⟩ G w11 ∧ HStep K G w10 G w11) ⟨hH11, hS11⟩ (fun w11 hw11 => ?_)
  have H11 := Lib.hid hw11.1
  have S11 := Lib.hid hw11.2
  have X211 := Lib.hid (S11.out.keep X210.out HNB.out)
  clear hw11 hH11 hS11 x210 k12 kc zc hc6' e1 e2 e4
  as_aux_lemma =>
  have hBl11 := lt_of_heap X211.out
  have d2 : ∀ x : BelowT w11.heap.size w11, x.w.cell? ⟨B, 0, none⟩ = some (.pointer (some ⟨K.hb, 0, none⟩)) := fun x => cell_of_row _ B 0 _ _ _ (bel_keep x.2 hBl11 X211.out)
  have QWo := Lib.hid (whole_V 1 w11.drew (by decide))
  refine Seg.wp_region_segs (fun w' => ∃ x : BelowT w11.heap.size w11, w' = x.w) [([0, 1], 2)] [] 3 (by kernel_rfl) (by kernel_rfl) (fun _ _ d _ _ h => by cases d <;> exact h) (⟨⟨_, (Below.refl _ _).drew⟩, rfl⟩) ?_
  simp only [List.map_cons, List.map_nil, Seg.opAt, List.drop_succ_cons, List.drop_zero, Seg.wpSegs, Array.getD_eq_getD_getElem?, List.getElem?_toArray, List.getElem?_cons_succ, List.getElem?_cons_zero, Option.getD_some]
  repeat (any_goals (first | go_big_quiet_step (fail) | quiet_step (fail)))
  refine wpQuiet_nil ?_
  intro Kc hK
  simp only [Region.wanted, if_true]
  go_wp2_with (go_at_call 118; refine QWo.out.mono ?_; rintro e w14 ⟨a2, b2, rfl, f2, bel2⟩)
  have F2 := Lib.hid (show FrV w14 one a2 b2 from f2)
  have B14 := Lib.hid (undrew bel2)
  refine hK _ _ ⟨⟨w14, B14.out⟩, rfl⟩ ?_
  clear hK Kc f2 bel2 QWo d2
  have H14 := Lib.hid (H11.out.below B14.out)
  have HFI := Lib.hid (full_iff (H11.out) (show Full K ⟨S.V, upd S.cont i false, S.moved, S.kept, S.el⟩ G from HF.out) i)
  have QG := Lib.hid (goOn_any K q ⟨S.V, upd S.cont i false, S.moved, S.kept, S.el⟩ G w14 i one a2 b2 H14.out HK.out hin HF.out F2.out Sml.one (fun k hk => by
    obtain ⟨h1, h2⟩ := (HFI.out k).1 hk
    have h3 := HI.out.wt_sml hn12 hm4 h1
    refine ⟨h3, ?_⟩
    have h4 : (S.V k).wt.mul one = (S.V k).wt := Fr.mul_one h3.ok
    show Sml ((S.V k).wt.mul one)
    rw [h4]
    exact h3) (fun k hk j hj => HI.out.rk k hk j hj))
  rw [excl_eq HI.out HFI.out] at QG
  repeat (any_goals (first | go_big_quiet_step (fail) | quiet_step (fail)))
  refine wpQuiet_nil ?_
  go_upto_region 23 with (go_at_call 131; refine QG.out.mono ?_; rintro e w15 ⟨rfl, G15, h15, s15, fu15⟩)
  have H15 := Lib.hid h15
  have hstep : HStep K G w G15 w15 := (hstep_below B10.out).trans ((S11.out.below B14.out).trans s15)
  have S15 := Lib.hid hstep
  have FU15 := Lib.hid fu15
  clear h15 s15 hstep fu15 QG
  go_wp2_with fail
  go_ret3
  have hba : Below w15.heap.size w15 (w15.alloc (.cells #[.int .i64 (i : Int)] 3)) := (Below.refl _ _).alloc (Nat.le_refl _) _
  have hbase : w.heap.size ≤ w15.heap.size := S15.out.size
  refine .inr ⟨3, [i], some ⟨w15.heap.size, 0, none⟩, 1, G15, .excl i r' OVN.out HNE.out HNF.out WAN.out (HSL.out ▸ RK.out), rfl, lone_row hbase, fun x hx hm => ?_, H15.out.below hba, S15.out.below hba, FU15.out⟩
  have e : w15.heap.size = x := by simpa [Value.ownBlock] using hx
  have := mine_lt H15.out hm
  omega
end Go.Proofs.YtnohcdpnnhmpfaaGreatDoor.TR
