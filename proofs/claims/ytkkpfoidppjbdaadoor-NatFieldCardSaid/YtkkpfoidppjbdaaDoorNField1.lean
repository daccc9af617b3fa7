/-
  The law's plus and times of fractions in lowest terms; its good; nat's fractions by canonical texts.
-/
import Derived.Test.YtkkpfoidppjbdaaDoorNFracL
import Derived.Test.YtkkpfoidppjbdaaDoorFrPlain
namespace Go.Proofs.YtkkpfoidppjbdaaDoor
set_option linter.unusedVariables false
open Go.RowKit ML FM ND FRP

/-- a fraction of K digits at most, above and below, in lowest terms -/
structure FOk (K : Nat) (x : Fr) : Prop where
  ok : x.ok
  num : NB K x.n
  den : NB K x.d
namespace FOk
variable {K L : Nat} {x y : Fr}
theorem up (h : FOk K x) (hL : K ≤ L) : FOk L x := ⟨h.ok, h.num.up hL, h.den.up hL⟩
theorem low {n d : Nat} (hd : 0 < d) (hn : NB K n) (hb : NB K d) : FOk K (Fr.low n d) := ⟨Fr.low_ok hd, hn.div _, hb.div _⟩
theorem add (h : FOk K x) (g : FOk L y) : FOk (2 * (K + L) + 1) (x.add y) :=
  low (Nat.mul_pos h.ok.1 g.ok.1) (((h.num.mul g.den).add (g.num.mul h.den)).up (by omega)) ((h.den.mul g.den).up (by omega))
theorem mul (h : FOk K x) (g : FOk L y) : FOk (K + L) (x.mul y) :=
  low (Nat.mul_pos h.ok.1 g.ok.1) (h.num.mul g.num) (h.den.mul g.den)
end FOk
theorem len_strD' {K x : Nat} (h : NB K x) (hK : 1 ≤ K) : (strD x).length ≤ K := by
  unfold strD
  by_cases h0 : x = 0
  · rw [if_pos h0]; exact hK
  · rw [if_neg h0, length_digB]; exact h.digs
theorem wrongF_ok {x : Fr} (h : FOk 4000 x) : wrongF (strD x.n) (strD x.d) = 0 := by
  have l1 := len_strD' h.num (by decide)
  have l2 := len_strD' h.den (by decide)
  unfold wrongF
  rw [if_pos ⟨numB_strD _, numB_strD _⟩, if_neg (by omega), dv_strD, dv_strD, if_neg]
  intro hx
  rcases hx with hx | hx
  · have := h.ok.1; omega
  · exact hx h.ok.2
theorem wrongF2_ok {x y : Fr} (h : FOk 4000 x) (g : FOk 4000 y) : wrongF2 (strD x.n) (strD x.d) (strD y.n) (strD y.d) = 0 := by
  unfold wrongF2; rw [if_pos (wrongF_ok h)]; exact wrongF_ok g
theorem reach_strD' {x : Nat} (h : NB 4000 x) : (strD x).length < 140737488355328 := Nat.lt_of_le_of_lt (len_strD' h (by decide)) (by decide)
section
variable {x y : Fr} {N D P Q R S : Bytes}
theorem plusT (hN : N = strD x.n) (hD : D = strD x.d) (hP : P = strD y.n) (hQ : Q = strD y.d) (hR : R = strD (x.add y).n) (hS : S = strD (x.add y).d) (h : FOk 4000 x) (g : FOk 4000 y) (w : World) :
    Calls Tryd.prog 32 #[.agg #[.string ⟨N.toArray⟩, .string ⟨D.toArray⟩], .agg #[.string ⟨P.toArray⟩, .string ⟨Q.toArray⟩]] w fun e w' => e = .returned (.tuple #[.agg #[.string ⟨R.toArray⟩, .string ⟨S.toArray⟩], .int .i64 0]) ∧ Below w.heap.size w w' := by
  subst hN hD hP hQ hR hS
  have q := natFPlus_any _ _ _ _ w (reach_strD' h.num) (reach_strD' h.den) (reach_strD' g.num) (reach_strD' g.den)
  unfold ansF at q
  rw [wrongF2_ok h g, if_pos rfl, if_pos rfl, dv_strD, dv_strD, dv_strD, dv_strD] at q
  exact q
theorem timesT (hN : N = strD x.n) (hD : D = strD x.d) (hP : P = strD y.n) (hQ : Q = strD y.d) (hR : R = strD (x.mul y).n) (hS : S = strD (x.mul y).d) (h : FOk 4000 x) (g : FOk 4000 y) (w : World) :
    Calls Tryd.prog 35 #[.agg #[.string ⟨N.toArray⟩, .string ⟨D.toArray⟩], .agg #[.string ⟨P.toArray⟩, .string ⟨Q.toArray⟩]] w fun e w' => e = .returned (.tuple #[.agg #[.string ⟨R.toArray⟩, .string ⟨S.toArray⟩], .int .i64 0]) ∧ Below w.heap.size w w' := by
  subst hN hD hP hQ hR hS
  have q := natFTimes_any _ _ _ _ w (reach_strD' h.num) (reach_strD' h.den) (reach_strD' g.num) (reach_strD' g.den)
  unfold ansF at q
  rw [wrongF2_ok h g, if_pos rfl, if_pos rfl, dv_strD, dv_strD, dv_strD, dv_strD] at q
  exact q
theorem minusT (hN : N = strD x.n) (hD : D = strD x.d) (hP : P = strD y.n) (hQ : Q = strD y.d) (hR : R = strD (x.sub y).n) (hS : S = strD (x.sub y).d) (h : FOk 4000 x) (g : FOk 4000 y) (hle : y.n * x.d ≤ x.n * y.d) (w : World) :
    Calls Tryd.prog 39 #[.agg #[.string ⟨N.toArray⟩, .string ⟨D.toArray⟩], .agg #[.string ⟨P.toArray⟩, .string ⟨Q.toArray⟩]] w fun e w' => e = .returned (.tuple #[.agg #[.string ⟨R.toArray⟩, .string ⟨S.toArray⟩], .int .i64 0]) ∧ Below w.heap.size w w' := by
  subst hN hD hP hQ hR hS
  have q := natFMinus_any _ _ _ _ w (reach_strD' h.num) (reach_strD' h.den) (reach_strD' g.num) (reach_strD' g.den)
  have e : wrongMinus (strD x.n) (strD x.d) (strD y.n) (strD y.d) = 0 := by
    unfold wrongMinus
    rw [if_pos (wrongF2_ok h g), dv_strD, dv_strD, dv_strD, dv_strD, if_neg (by omega)]
  unfold ansF at q
  rw [e, if_pos rfl, if_pos rfl, dv_strD, dv_strD, dv_strD, dv_strD] at q
  exact q
theorem overT (hN : N = strD x.n) (hD : D = strD x.d) (hP : P = strD y.n) (hQ : Q = strD y.d) (hR : R = strD (x.div y).n) (hS : S = strD (x.div y).d) (h : FOk 4000 x) (g : FOk 4000 y) (h0 : 0 < y.n) (w : World) :
    Calls Tryd.prog 41 #[.agg #[.string ⟨N.toArray⟩, .string ⟨D.toArray⟩], .agg #[.string ⟨P.toArray⟩, .string ⟨Q.toArray⟩]] w fun e w' => e = .returned (.tuple #[.agg #[.string ⟨R.toArray⟩, .string ⟨S.toArray⟩], .int .i64 0]) ∧ Below w.heap.size w w' := by
  subst hN hD hP hQ hR hS
  have q := natFOver_any _ _ _ _ w (reach_strD' h.num) (reach_strD' h.den) (reach_strD' g.num) (reach_strD' g.den)
  have e : wrongOver (strD x.n) (strD x.d) (strD y.n) (strD y.d) = 0 := by
    unfold wrongOver
    rw [if_pos (wrongF2_ok h g), dv_strD, if_neg (by omega)]
  unfold ansF at q
  rw [e, if_pos rfl, if_pos rfl, dv_strD, dv_strD, dv_strD, dv_strD] at q
  exact q
theorem orderT (hN : N = strD x.n) (hD : D = strD x.d) (hP : P = strD y.n) (hQ : Q = strD y.d) (h : FOk 4000 x) (g : FOk 4000 y) (w : World) :
    Calls Tryd.prog 37 #[.agg #[.string ⟨N.toArray⟩, .string ⟨D.toArray⟩], .agg #[.string ⟨P.toArray⟩, .string ⟨Q.toArray⟩]] w fun e w' => e = .returned (.tuple #[.int .i64 (NL.cmpI (x.n * y.d) (y.n * x.d)), .int .i64 0]) ∧ Below w.heap.size w w' := by
  subst hN hD hP hQ
  have q := natOrder_any _ _ _ _ w (reach_strD' h.num) (reach_strD' h.den) (reach_strD' g.num) (reach_strD' g.den)
  rw [wrongF2_ok h g, if_pos rfl, dv_strD, dv_strD, dv_strD, dv_strD] at q
  exact q
end
set_option maxHeartbeats 4000000 in
set_option maxRecDepth 100000 in
theorem lawFPlus_any (N D P Q R S : Bytes) (w : World) (q : ∀ w, Calls Tryd.prog 32 #[.agg #[.string ⟨N.toArray⟩, .string ⟨D.toArray⟩], .agg #[.string ⟨P.toArray⟩, .string ⟨Q.toArray⟩]] w fun e w' => e = .returned (.tuple #[.agg #[.string ⟨R.toArray⟩, .string ⟨S.toArray⟩], .int .i64 0]) ∧ Below w.heap.size w w') :
    Calls Tryd.prog 45 #[.agg #[.string ⟨N.toArray⟩, .string ⟨D.toArray⟩], .agg #[.string ⟨P.toArray⟩, .string ⟨Q.toArray⟩]] w fun e w' => e = .returned (.agg #[.string ⟨R.toArray⟩, .string ⟨S.toArray⟩]) ∧ Below w.heap.size w w' := by
  have QR := Lib.hid q
  have HS := Lib.hid size_api
  clear q
  go_enter Tryd.func45, Tryd.ntmps45
  go_upto_region 1 with (fail)
  have BX := Box3.mk' w #[.string ⟨N.toArray⟩, .string ⟨D.toArray⟩] #[.string ⟨P.toArray⟩, .string ⟨Q.toArray⟩] #[.string ⟨#[]⟩, .string ⟨#[]⟩] 45 45
  generalize hB : w.heap.size = B at *
  refine wp_abs (fun w1 => Box3 B w w1 #[.string ⟨N.toArray⟩, .string ⟨D.toArray⟩] #[.string ⟨P.toArray⟩, .string ⟨Q.toArray⟩] #[.string ⟨#[]⟩, .string ⟨#[]⟩] 45 45) BX (fun w1 B1 => ?_)
  have HB := Lib.hid hB
  have HB1 := Lib.hid B1
  have hBs1 : B + 1 + 1 < w1.heap.size := lt_of_heap B1.z
  clear BX hB B1
  go_upto_region 2 with (first
    | (refine wpList_load_whole rfl 45 _ rfl B #[.string ⟨N.toArray⟩, .string ⟨D.toArray⟩] _ _ _ rfl HB1.out.x Tryd.underlying45 rfl HS.out ?_)
    | (refine wpList_load_whole rfl 45 _ rfl (B + 1) #[.string ⟨P.toArray⟩, .string ⟨Q.toArray⟩] _ _ _ rfl HB1.out.y Tryd.underlying45 rfl HS.out ?_)
    | (go_at_call 32; refine (QR.out w1).mono ?_; rintro e w2 ⟨rfl, bel2⟩; have HB2 := Lib.hid (HB1.out.keep (by omega) bel2); have hBs2 : B + 1 + 1 < w2.heap.size := lt_of_heap HB2.out.z; clear bel2)
    | (refine wpList_store_whole rfl rfl 45 _ _ rfl w2.heap.size #[.string ⟨#[]⟩, .string ⟨#[]⟩] #[.string ⟨R.toArray⟩, .string ⟨S.toArray⟩] 45 rfl rfl (heap_at rfl) rfl HS.out (two_strings _ _) ?_; intro w3 ho hp; have HO3 := Lib.hid ho; have HP3 := Lib.hid hp; clear ho hp))
  have b3 : Below w2.heap.size w2 w3 := bel_only ((Below.refl _ _).alloc (Nat.le_refl _) _) HO3.out (Nat.le_refl _)
  have HB3 := Lib.hid (HB2.out.keep (by omega) b3)
  clear b3
  go_wp2_with (first
    | (refine wpList_load_whole rfl 45 _ rfl w2.heap.size #[.string ⟨R.toArray⟩, .string ⟨S.toArray⟩] _ _ _ rfl HP3.out Tryd.underlying45 rfl HS.out ?_)
    | (refine wpList_store_whole rfl rfl 45 _ _ rfl (B + 1 + 1) #[.string ⟨#[]⟩, .string ⟨#[]⟩] #[.string ⟨R.toArray⟩, .string ⟨S.toArray⟩] 45 rfl rfl HB3.out.z rfl HS.out (two_strings _ _) ?_; intro w8 ho hp))
  refine bodyPost_ret (results_cell_row rfl _ w8 (B + 1 + 1) _ _ _ _ rfl hp Tryd.underlying45 rfl HS.out) rfl ⟨rfl, by rw [HB.out]; exact bel_only HB3.out.bel ho (by omega)⟩
set_option maxHeartbeats 4000000 in
set_option maxRecDepth 100000 in
theorem lawFTimes_any (N D P Q R S : Bytes) (w : World) (q : ∀ w, Calls Tryd.prog 35 #[.agg #[.string ⟨N.toArray⟩, .string ⟨D.toArray⟩], .agg #[.string ⟨P.toArray⟩, .string ⟨Q.toArray⟩]] w fun e w' => e = .returned (.tuple #[.agg #[.string ⟨R.toArray⟩, .string ⟨S.toArray⟩], .int .i64 0]) ∧ Below w.heap.size w w') :
    Calls Tryd.prog 44 #[.agg #[.string ⟨N.toArray⟩, .string ⟨D.toArray⟩], .agg #[.string ⟨P.toArray⟩, .string ⟨Q.toArray⟩]] w fun e w' => e = .returned (.agg #[.string ⟨R.toArray⟩, .string ⟨S.toArray⟩]) ∧ Below w.heap.size w w' := by
  have QR := Lib.hid q
  have HS := Lib.hid size_api
  clear q
  go_enter Tryd.func44, Tryd.ntmps44
  go_upto_region 1 with (fail)
  have BX := Box3.mk' w #[.string ⟨N.toArray⟩, .string ⟨D.toArray⟩] #[.string ⟨P.toArray⟩, .string ⟨Q.toArray⟩] #[.string ⟨#[]⟩, .string ⟨#[]⟩] 45 45
  generalize hB : w.heap.size = B at *
  refine wp_abs (fun w1 => Box3 B w w1 #[.string ⟨N.toArray⟩, .string ⟨D.toArray⟩] #[.string ⟨P.toArray⟩, .string ⟨Q.toArray⟩] #[.string ⟨#[]⟩, .string ⟨#[]⟩] 45 45) BX (fun w1 B1 => ?_)
  have HB := Lib.hid hB
  have HB1 := Lib.hid B1
  have hBs1 : B + 1 + 1 < w1.heap.size := lt_of_heap B1.z
  clear BX hB B1
  go_upto_region 2 with (first
    | (refine wpList_load_whole rfl 45 _ rfl B #[.string ⟨N.toArray⟩, .string ⟨D.toArray⟩] _ _ _ rfl HB1.out.x Tryd.underlying45 rfl HS.out ?_)
    | (refine wpList_load_whole rfl 45 _ rfl (B + 1) #[.string ⟨P.toArray⟩, .string ⟨Q.toArray⟩] _ _ _ rfl HB1.out.y Tryd.underlying45 rfl HS.out ?_)
    | (go_at_call 35; refine (QR.out w1).mono ?_; rintro e w2 ⟨rfl, bel2⟩; have HB2 := Lib.hid (HB1.out.keep (by omega) bel2); have hBs2 : B + 1 + 1 < w2.heap.size := lt_of_heap HB2.out.z; clear bel2)
    | (refine wpList_store_whole rfl rfl 45 _ _ rfl w2.heap.size #[.string ⟨#[]⟩, .string ⟨#[]⟩] #[.string ⟨R.toArray⟩, .string ⟨S.toArray⟩] 45 rfl rfl (heap_at rfl) rfl HS.out (two_strings _ _) ?_; intro w3 ho hp; have HO3 := Lib.hid ho; have HP3 := Lib.hid hp; clear ho hp))
  have b3 : Below w2.heap.size w2 w3 := bel_only ((Below.refl _ _).alloc (Nat.le_refl _) _) HO3.out (Nat.le_refl _)
  have HB3 := Lib.hid (HB2.out.keep (by omega) b3)
  clear b3
  go_wp2_with (first
    | (refine wpList_load_whole rfl 45 _ rfl w2.heap.size #[.string ⟨R.toArray⟩, .string ⟨S.toArray⟩] _ _ _ rfl HP3.out Tryd.underlying45 rfl HS.out ?_)
    | (refine wpList_store_whole rfl rfl 45 _ _ rfl (B + 1 + 1) #[.string ⟨#[]⟩, .string ⟨#[]⟩] #[.string ⟨R.toArray⟩, .string ⟨S.toArray⟩] 45 rfl rfl HB3.out.z rfl HS.out (two_strings _ _) ?_; intro w8 ho hp))
  refine bodyPost_ret (results_cell_row rfl _ w8 (B + 1 + 1) _ _ _ _ rfl hp Tryd.underlying45 rfl HS.out) rfl ⟨rfl, by rw [HB.out]; exact bel_only HB3.out.bel ho (by omega)⟩
end Go.Proofs.YtkkpfoidppjbdaaDoor
