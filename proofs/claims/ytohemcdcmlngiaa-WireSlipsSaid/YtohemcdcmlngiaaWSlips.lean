/-
  WireSlips: the walk.
-/
import Derived.Test.YtohemcdcmlngiaaWFrom
import Derived.Test.YtohemcdcmlngiaaWSPlain
import Derived.OpenShut
namespace Go.Proofs.Ytohemcdcmlngiaa
set_option linter.unusedVariables false
set_option linter.unusedSimpArgs false
open Go.RowKit ML FM WL

set_option maxHeartbeats 4000000 in
set_option maxRecDepth 100000 in
theorem bare_any (S : Bytes) (w : World) (hS : S.length < 1000000) :
    Calls Try.prog 13 #[.string ⟨S.toArray⟩] w fun e w' => e = .returned (.string ⟨(bareT S).toArray⟩) ∧ Below w.heap.size w w' := by
  obtain ⟨j0, ji, jz0, jz1, jz2⟩ := info_parts info_byte
  have JI := Lib.hid ji
  have JZ0 := Lib.hid jz0
  have JZ1 := Lib.hid jz1
  have JZ2 := Lib.hid jz2
  clear ji jz0 jz1 jz2
  have hszS := size_mk S
  obtain ⟨Z, hZ⟩ : ∃ Z, Z = bareT S := ⟨_, rfl⟩
  rw [← hZ]
  have HZ := Lib.hid hZ
  clear hZ
  go_enter Try.func13, Try.ntmps13
  go_upto_region 3 with (fail)
  generalize hR : w.heap.size = R at *
  have HR := Lib.hid hR
  clear hR
  go_loopw [3, 4] (fun v i wr => ∃ k : Nat, k ≤ S.length ∧ i = .int .i64 k ∧ wr.ownsRow R 5 1 v (bareT (S.take k)).length (Lib.byteCells (bareT (S.take k))) ∧ Below R w wr ∧ R ≤ wr.heap.size) (fun _ i _ => S.length - (intOf i).toNat)
  case atStart => exact ⟨0, by omega, rfl, World.ownsRow_nil _ _ _ _, Below.refl _ _, by rw [HR.out]; exact Nat.le_refl _⟩
  case round =>
  obtain ⟨k, hk, rfl, own, bel, hRr⟩ := hrel
  by_cases hlt : k < S.length
  · have dk : decide ((k : Int) < (S.length : Int)) = true := decide_eq_true (by omega)
    have dk2 : decide (k < S.length) = true := decide_eq_true hlt
    have hsn : S.take (k + 1) = S.take k ++ [S[k]] := by rw [List.take_succ_eq_append_getElem hlt]
    have hb := fun hh => strBN S k hh
    have hbk : byteN S k = S[k].toNat := by unfold byteN; rw [List.getD_eq_getElem?_getD, List.getElem?_eq_getElem hlt]; rfl
    have hki : (k : Int) < (S.length : Int) := by omega
    have hlen : (bareT (S.take k)).length < 1000000 := by
      have : (bareT (S.take k)).length ≤ (S.take k).length := by unfold bareT; exact List.length_filter_le _ _
      rw [List.length_take] at this
      omega
    have OWN := Lib.hid own
    have BL := Lib.hid bel
    have HSN := Lib.hid hsn
    have HBK := Lib.hid hbk
    clear own bel hsn hbk
    by_cases h45 : S[k] = 45
    · have d45 : ((byteN S k : Int) == 45) = true := by rw [beq_iff_eq, HBK.out, h45]; rfl
      have hnew := Lib.hid (show bareT (S.take (k + 1)) = bareT (S.take k) by rw [HSN.out, bareT_append, h45]; simp [bareT])
      clear h45
      generalize byteN S k = c at *
      go_wp2_with fail
      go_roundw
      case rel => exact ⟨k + 1, by omega, by go_num, by rw [hnew.out]; exact OWN.out, BL.out, hRr⟩
      case measure => simp [intOf]; omega
    · have d45 : ((byteN S k : Int) == 45) = false := by
        rw [beq_eq_false_iff_ne, HBK.out]
        intro h
        exact h45 (UInt8.toNat_inj.1 (by have : S[k].toNat = 45 := by omega
                                         rw [this]; rfl))
      have hnew := Lib.hid (show bareT (S.take (k + 1)) = bareT (S.take k) ++ [S[k]] by rw [HSN.out, bareT_append]; congr 1; unfold bareT; rw [List.filter_cons, if_pos (by simpa using h45)]; rfl)
      have hcb := Lib.hid (show Lib.byteCells [S[k]] = [.int .u8 (byteN S k : Int)] by rw [HBK.out]; rfl)
      clear h45
      generalize byteN S k = c at *
      go_wp2_with (at_builtin; refine wpList_append_own _ rfl (.tmp 15) (.tmp 19) 35 rfl R 5 j0 (.int .u8 0) 1 1 Try.underlying35 JI.out JZ0.out JZ1.out JZ2.out rfl (by decide) u3 (bareT (S.take k)).length (Lib.byteCells (bareT (S.take k))) rfl (OWN.out.alloc _) ⟨wr.heap.size, 0, none⟩ 1 1 [.int .u8 (c : Int)] rfl rfl (by first | exact news_new wr [.int .u8 (c : Int)] _ _ rfl | exact fun j u h => h) (fun x hx => by rw [List.mem_singleton] at hx; subst hx; rfl) (by unfold maxLen; omega) (by omega) (by first | omega | (simp; omega)) ?_; intro v5 w5 own5 hg5 _)
      have bel5 : Below R w w5 := (BL.out.alloc hRr _).grown hg5 (by simp; omega) (fun q hq => (OWN.out.lt q hq).1)
      rw [← hcb.out, byteCells_append, ← hnew.out] at own5
      have own6 : w5.ownsRow R 5 1 v5 (bareT (S.take (k + 1))).length (Lib.byteCells (bareT (S.take (k + 1)))) := by rw [hnew.out, List.length_append, ← hnew.out]; exact own5
      have hs5 : R ≤ w5.heap.size := by have := bel5.size; rw [HR.out] at this; exact this
      clear own5 hg5
      go_wp2_with fail
      go_roundw
      case rel => exact ⟨k + 1, by omega, by go_num, own6, bel5, hs5⟩
      case measure => simp [intOf]; omega
  · have dk : decide ((k : Int) < (S.length : Int)) = false := decide_eq_false (by omega)
    have dk2 : decide (k < S.length) = false := decide_eq_false hlt
    obtain rfl : k = S.length := by omega
    rw [List.take_length] at own
    rw [← HZ.out] at own
    have OWN := Lib.hid own
    clear own hlt
    rcases OWN.out.2 with ⟨rfl, h0⟩ | ⟨g, cpo, cur, rfl, hg1, hg2, hg3, hg4, hg5, hg6⟩
    · have hO0 : Z = [] := List.length_eq_zero_iff.1 h0
      subst hO0
      clear h0
      have hnil := run_nil_str
      go_wp2_with fail
      go_ret
      exact ⟨rfl, by rw [HR.out]; exact bel⟩
    · have hrange : wr.rangeAt g 0 (Lib.byteCells Z) := fun j v hv => by
        have := OWN.out.cells (g := g) rfl j v hv
        rw [add_cell] at this
        rw [Nat.zero_add]; exact this
      have HRG := Lib.hid hrange
      clear hg1 hg2 hg3 hg4 hg5 hg6 hrange OWN
      go_wp2_with (refine wpList_bytes_back rfl _ 35 9 5 rfl Try.underlying35 Try.underlying5 Try.underlying9 g cpo Z.length Z rfl rfl HRG.out ?_)
      go_ret
      exact ⟨rfl, by rw [HR.out]; exact bel⟩
theorem wp_bytes_back {P : Program} {w : World} {o : Oper} {a : Act} {K : Act → World → Prop} {Q : Exit → Act → World → Prop} (x : Operand) (src dst e : TypeId)
    (ho : o.op = .convert src dst x) (hs : P.underlying src = some (.slice e)) (he : P.underlying e = some (.int .u8)) (hd : P.underlying dst = some .string)
    (g cap n : Nat) (l : Bytes) (hn : n = l.length) (hx : a.eval x = .slice (some ⟨g, 0, none⟩) n cap) (hc : w.rangeAt g 0 (Lib.byteCells l))
    (h : K (a.put o.dst (.string ⟨l.toArray⟩)) w) : o.wp P a w K Q := by
  subst hn
  have hrun := run_convert_bytes_back (P := P) w src dst e ⟨g, 0, none⟩ cap l hs he hd (fun j hj => by
    have := hc j (.int .u8 (l[j].toNat : Int)) (by simp [Lib.byteCells, hj])
    rw [show (⟨g, 0, none⟩ : Addr).add j = ⟨g, 0 + j, none⟩ by unfold Addr.add; split <;> simp_all]
    exact this)
  unfold Oper.wp
  simp [execOp, ho, hx, hrun, Result.andThen]
  exact h
theorem extract_one {X : Bytes} {k : Nat} {c : UInt8} (h : X[k]? = some c) : (ByteArray.mk X.toArray).extract k (k + 1) = ⟨[c].toArray⟩ := by
  obtain ⟨hk, rfl⟩ := List.getElem?_eq_some_iff.1 h
  rw [Lib.extract_eq]
  congr 1
  simp only [Nat.add_sub_cancel_left]
  show (List.take 1 (List.drop k X)).toArray = _
  rw [← List.getElem_cons_drop hk]
  rfl
set_option maxHeartbeats 8000000 in
set_option maxRecDepth 100000 in
theorem wireSlips_any (B : Bytes) (at_ : Int) (o : Int) (w : World) (hB : B.length < 9223372036854775808) (ho0 : 0 ≤ o) (ho1 : o < 256) :
    Calls Try.prog 5 #[.string ⟨B.toArray⟩, .int .i64 at_, .int .u8 o] w fun e w' => e = .returned (.bool true) ∧ Below w.heap.size w w' := by
  have hszB := size_mk B
  by_cases h64 : 64 < B.length
  · have d : decide (64 < B.length) = true := decide_eq_true h64
    have d2 : decide ((64 : Int) < (B.length : Int)) = true := decide_eq_true (by omega)
    clear h64
    go_enter Try.func5, Try.ntmps5
    go_wp2_with fail
    go_ret
    exact ⟨rfl, Below.refl _ _⟩
  have d : decide (64 < B.length) = false := decide_eq_false h64
  have d2 : decide ((64 : Int) < (B.length : Int)) = false := decide_eq_false (by omega)
  obtain ⟨r1, r2⟩ := read_letters B (by omega)
  have QL := Lib.hid (fun w => wireLetters_any B w hB)
  have hLE : lettersE B = 0 := if_neg h64
  rw [hLE] at QL
  have hSl : (lettersT B).length < 1000 := by
    unfold lettersT; rw [if_neg h64]
    have h1 := length_hyT (sgsOf B) (sgsOf B).length
    have h2 := length_sgsOf B
    have h3 : mV B.length ≤ 103 := by unfold mV; omega
    omega
  have QF := Lib.hid (fun w => wireFrom_any (lettersT B) w (by omega))
  rw [r1, r2] at QF
  have QB := Lib.hid (fun w => bare_any (lettersT B) w (by omega))
  rw [bare_letters B (by omega)] at QB
  have HV := Lib.hid (all_valsOf B)
  have HS := Lib.hid (show sgsOf B = valsOf B ++ [ckV (valsOf B)] from rfl)
  have HS37 := Lib.hid (sgsOf_lt B)
  have hn := length_sgsOf B
  have hn2 : (sgsOf B).length ≤ 104 := by rw [hn]; have : mV B.length ≤ 103 := (by unfold mV; omega); omega
  rw [show ((0 : Nat) : Int) = 0 from rfl] at QL QF
  clear h64 hLE r1 r2 hn hSl
  generalize lettersT B = S at *
  generalize sgsOf B = L at *
  generalize valsOf B = V at *
  go_enter Try.func5, Try.ntmps5
  go_upto_region 10 with (first
    | (go_at_call 10; refine (QL.out w).mono ?_; rintro e w1 ⟨rfl, b1⟩)
    | (go_at_call 12; refine (QF.out w1).mono ?_; rintro e w2 ⟨rfl, b2⟩)
    | (go_at_call 13; refine (QB.out w2).mono ?_; rintro e w3 ⟨rfl, b3⟩))
  have B3 := Lib.hid ((b1.trans (b2.mono b1.size)).trans (b3.mono (Nat.le_trans b1.size b2.size)))
  clear b1 b2 b3 QL QF QB
  have hlX : (L.map sgn).length = L.length := by simp
  have hsX := size_mk (L.map sgn)
  rw [hlX] at hsX
  by_cases ha : at_ < 0
  · have da : decide (at_ < 0) = true := decide_eq_true ha
    clear hlX
    go_wp2_with fail
    go_ret
    exact ⟨rfl, B3.out⟩
  obtain ⟨k, rfl⟩ : ∃ k : Nat, at_ = (k : Int) := ⟨at_.toNat, by omega⟩
  obtain ⟨m, rfl⟩ : ∃ m : Nat, o = (m : Int) := ⟨o.toNat, by omega⟩
  have da : decide ((k : Int) < 0) = false := decide_eq_false ha
  by_cases hk : L.length ≤ k
  · have dk : decide ((L.length : Int) ≤ (k : Int)) = true := decide_eq_true (by omega)
    have dk2 : decide (L.length ≤ k) = true := decide_eq_true hk
    clear hlX ha hk
    go_wp2_with fail
    go_ret
    exact ⟨rfl, B3.out⟩
  have dk : decide ((L.length : Int) ≤ (k : Int)) = false := decide_eq_false (by omega)
  have dk2 : decide (L.length ≤ k) = false := decide_eq_false hk
  have hkl : k < L.length := by omega
  by_cases h45 : m = 45
  · have dm : ((m : Int) == 45) = true := by rw [beq_iff_eq]; omega
    clear hlX ha hk h45
    go_wp2_with fail
    go_ret
    exact ⟨rfl, B3.out⟩
  have dm : ((m : Int) == 45) = false := by rw [beq_eq_false_iff_ne]; omega
  have hm256 : m < 256 := by omega
  have hzm : (UInt8.ofNat m).toNat = m := by rw [UInt8.toNat_ofNat']; omega
  have hz45 : UInt8.ofNat m ≠ 45 := fun h => h45 (by rw [← hzm, h]; rfl)
  have hv37 := HS37.out _ (List.getElem_mem hkl)
  have hXk : byteN (L.map sgn) k = (sgn L[k]).toNat := by unfold byteN; rw [List.getD_eq_getElem?_getD, List.getElem?_eq_getElem (by rw [hlX]; exact hkl)]; simp
  have hbX := fun hh => strBN (L.map sgn) k hh
  rw [hXk] at hbX
  have hki : (k : Int) < (L.length : Int) := by omega
  have QV1 := Lib.hid (fun w => refValue_any m w hm256)
  have QV2 := Lib.hid (fun w => refValue_any (sgn L[k]).toNat w (sgn L[k]).toNat_lt)
  rw [valR_sgn _ hv37] at QV2
  have HT1 := Lib.hid (fun (h : valR m ≠ (L[k] : Int)) => told_one (V := V) HV.out HS.out HS37.out k hkl (UInt8.ofNat m) hz45 (by rw [hzm]; exact h))
  have HT2 := Lib.hid (fun (h : k + 1 < L.length) => told_two (V := V) HV.out HS.out HS37.out k h)
  have HXL := Lib.hid hlX
  have HZM := Lib.hid hzm
  have HXK := Lib.hid hXk
  clear hlX ha hk h45 hzm hz45 hXk
  generalize hX : L.map sgn = X at *
  have HX := Lib.hid hX
  clear hX
  generalize hvk : L[k] = vk at *
  have HVK := Lib.hid hvk
  clear hvk
  go_upto_region 12 with (fail)
  refine Seg.wp_region_segs (fun w' => ∃ n, w' = w3.drewN n) [([0, 2, 3, 4], 1)] [] 5 (by kernel_rfl) (by kernel_rfl) (fun _ _ d _ _ h => by cases d <;> exact h) (⟨1, rfl⟩) ?_
  simp only [List.map_cons, List.map_nil, Seg.opAt, List.drop_succ_cons, List.drop_zero, Seg.wpSegs, Array.getD_eq_getD_getElem?, List.getElem?_toArray, List.getElem?_cons_succ, List.getElem?_cons_zero, Option.getD_some]
  repeat (any_goals (first | go_big_quiet_step (fail) | quiet_step (fail)))
  refine wpQuiet_nil ?_
  intro K hK
  simp only [Region.wanted, if_true]
  go_wp2_with (go_at_call 14; refine (QV1.out _).mono ?_; rintro e w4 ⟨rfl, rfl⟩)
  refine hK _ _ ⟨1, rfl⟩ ?_
  clear hK K
  repeat (any_goals (first | go_big_quiet_step (fail) | quiet_step (fail)))
  refine wpQuiet_nil ?_
  generalize valR m = r at *
  go_upto_if 53 with (go_at_call 14; refine (QV2.out _).mono ?_; rintro e w5 ⟨rfl, rfl⟩)
  have B3d := Lib.hid (show Below w.heap.size w w3.drew from B3.out.drew)
  generalize w3.drew = w4 at *
  have hsW : w.heap.size ≤ w4.heap.size := B3d.out.size
  go_cut [] (fun w' => Below w.heap.size w w')
  case first =>
    by_cases hr : r = (vk : Int)
    · have dr : (r == (vk : Int)) = true := by rw [beq_iff_eq]; exact hr
      clear hr
      go_wp2_with fail
      go_meet
      exact B3d.out
    · have dr : (r == (vk : Int)) = false := by rw [beq_eq_false_iff_ne]; exact hr
      have hT := HT1.out hr
      obtain ⟨T1, hT1⟩ : ∃ T1, T1 = X.take k ++ [UInt8.ofNat m] ++ X.drop (k + 1) := ⟨_, rfl⟩
      rw [← hT1] at hT
      have hT1l : T1.length = L.length := by
        rw [hT1, List.length_append, List.length_append, List.length_take, List.length_drop, List.length_singleton, HXL.out]; omega
      have QF := Lib.hid (fun w => wireFrom_any T1 w (by omega))
      obtain ⟨f1, hf1⟩ : ∃ f1, f1 = fromE T1 := ⟨_, rfl⟩
      rw [← hf1] at QF hT
      have hf0 : ((f1 : Int) == 0) = false := by rw [beq_eq_false_iff_ne]; omega
      have x1 := extract_take X k
      have x2 : (ByteArray.mk X.toArray).extract (k + 1) L.length = ⟨(X.drop (k + 1)).toArray⟩ := by rw [← HXL.out]; exact extract_drop X (k + 1)
      have a1 := append_mk (X.take k) [UInt8.ofNat m]
      have a2 := append_mk (X.take k ++ [UInt8.ofNat m]) (X.drop (k + 1))
      rw [← hT1] at a2
      have s1 := size_mk (X.take k)
      have s2 := size_mk [UInt8.ofNat m]
      have s3 := size_mk (X.take k ++ [UInt8.ofNat m])
      have s4 := size_mk (X.drop (k + 1))
      have l1 : (X.take k).length = k := by rw [List.length_take, HXL.out]; omega
      have l2 : (X.drop (k + 1)).length = L.length - (k + 1) := by rw [List.length_drop, HXL.out]
      rw [List.length_append, l1, List.length_singleton] at s3
      rw [l1] at s1
      rw [List.length_singleton] at s2
      rw [l2] at s4
      have hcb := Lib.hid (show Lib.byteCells [UInt8.ofNat m] = [.int .u8 (m : Int)] by unfold Lib.byteCells; simp only [List.map_cons, List.map_nil, HZM.out])
      have n1 : (k : Int) + 1 ≤ (L.length : Int) := by omega
      have n2 : IntKind.i64.wrap ((k : Int) + 1) = (k : Int) + 1 := IntWalk.i64_in _ (by omega)
      have n3 : ((k : Int) + 1).toNat = k + 1 := by omega
      have n4 : (0 : Int) ≤ (k : Int) + 1 := by omega
      have n5 : (k : Int) ≤ (L.length : Int) := by omega
      clear hr hT1 hf1 hT HT2 l1 l2
      generalize X.take k = XA at *
      generalize X.drop (k + 1) = XB at *
      go_upto_region 13 with (fail)
      refine Seg.wp_region_segs (fun w' => ∃ x : BelowT w4.heap.size w4, w' = x.w) [([0, 1, 2, 3, 7, 8, 9, 10], 4), ([], 5), ([6, 11], 12)] [13, 14, 15] 16 (by kernel_rfl) (by kernel_rfl) (fun _ _ d _ _ h => by cases d <;> exact h) (⟨⟨_, (Below.refl _ _).drew⟩, rfl⟩) ?_
      simp only [List.map_cons, List.map_nil, Seg.opAt, List.drop_succ_cons, List.drop_zero, Seg.wpSegs, Array.getD_eq_getD_getElem?, List.getElem?_toArray, List.getElem?_cons_succ, List.getElem?_cons_zero, Option.getD_some]
      repeat (any_goals (first | go_big_quiet_step (fail) | quiet_step (fail)))
      refine wpQuiet_nil ?_
      intro K hK
      simp only [Region.wanted, if_true]
      go_wp2_with fail
      refine hK _ _ ⟨⟨_, (Below.refl _ _).drew.alloc (Nat.le_refl _) _⟩, rfl⟩ ?_
      clear hK K
      repeat (any_goals (first | go_big_quiet_step (fail) | quiet_step (fail)))
      refine wpQuiet_nil ?_
      intro K hK
      simp only [Region.wanted, if_true]
      have hrg : (w4.drew.alloc (.cells #[.int .u8 (m : Int)] 5)).rangeAt w4.heap.size 0 (Lib.byteCells [UInt8.ofNat m]) := by rw [hcb.out]; exact rangeAt_block (heap_at rfl)
      refine wp_bytes_back (.tmp 59) 35 9 5 rfl Try.underlying35 Try.underlying5 Try.underlying9 w4.heap.size 1 1 [UInt8.ofNat m] rfl rfl hrg ?_
      refine hK _ _ ⟨⟨_, (Below.refl _ _).drew.alloc (Nat.le_refl _) _⟩, rfl⟩ ?_
      clear hK K hrg
      generalize hz : UInt8.ofNat m = z at *
      clear hz
      try dsimp only
      go_simp
      repeat (any_goals (first | go_big_quiet_step (fail) | quiet_step (fail)))
      refine wpQuiet_nil ?_
      intro K hK
      simp only [Region.wanted, if_true]
      go_wp2_with (go_at_call 12; refine (QF.out _).mono ?_; rintro e w6 ⟨rfl, bel6⟩)
      have bel7 : Below w4.heap.size w4 w6 := ((Below.refl w4.heap.size w4).drew.alloc (Nat.le_refl _) (.cells #[.int .u8 (m : Int)] 5)).trans (bel6.mono (by simp))
      refine hK _ ⟨w6, bel7⟩ ?_
      have B7 := Lib.hid (B3d.out.trans (bel7.mono hsW))
      try dsimp only
      clear hK K bel6
      repeat (any_goals (first | go_big_quiet_step (fail) | quiet_step (fail)))
      refine wpQuiet_nil ?_
      go_wp2_with fail
      go_meet
      exact B7.out
  case rest =>
  have B8 := Lib.hid hcut
  have hsW8 : w.heap.size ≤ wc.heap.size := hcut.size
  clear hcut B3d hsW QV1 QV2 HT1 HZM
  go_upto_region 16 with (fail)
  by_cases hk1 : k + 1 < L.length
  · have d1 : decide ((k : Int) + 1 < (L.length : Int)) = true := decide_eq_true (by omega)
    have hv38 := HS37.out _ (List.getElem_mem hk1)
    have hXk1 : byteN X (k + 1) = (sgn L[k + 1]).toNat := by rw [← HX.out]; unfold byteN; rw [List.getD_eq_getElem?_getD, List.getElem?_eq_getElem (by simpa using hk1)]; simp
    have hbX1 := fun hh => strBN X (k + 1) hh
    rw [hXk1] at hbX1
    have hT2 := HT2.out hk1
    rw [HVK.out] at hT2
    generalize hv1 : L[k + 1] = v1 at *
    have HV1 := Lib.hid hv1
    have n1 : (k : Int) + 1 ≤ (L.length : Int) := by omega
    have n1' : (k : Int) + 1 < (L.length : Int) := by omega
    have n2 : IntKind.i64.wrap ((k : Int) + 1) = (k : Int) + 1 := IntWalk.i64_in _ (by omega)
    have n3 : ((k : Int) + 1).toNat = k + 1 := by omega
    have n4 : (0 : Int) ≤ (k : Int) + 1 := by omega
    clear hv1 hXk1
    by_cases hne : vk = v1
    · have dv : (((sgn vk).toNat : Int) == ((sgn v1).toNat : Int)) = true := by rw [hne]; exact beq_self_eq_true _
      clear hne
      refine Seg.wp_region_segs (fun w' => ∃ n, w' = wc.drewN n) [] [0, 1, 2, 3, 4, 5, 6, 7, 8, 9, 10, 11, 12] 13 (by kernel_rfl) (by kernel_rfl) (fun _ _ d _ _ h => by cases d <;> exact h) (⟨1, rfl⟩) ?_
      simp only [List.map_cons, List.map_nil, Seg.opAt, List.drop_succ_cons, List.drop_zero, Seg.wpSegs, Array.getD_eq_getD_getElem?, List.getElem?_toArray, List.getElem?_cons_succ, List.getElem?_cons_zero, Option.getD_some]
      repeat (any_goals (first | go_big_quiet_step (fail) | quiet_step (fail)))
      refine wpQuiet_nil ?_
      go_wp2_with fail
      go_ret
      exact ⟨rfl, B8.out.drew⟩
    · have dv : (((sgn vk).toNat : Int) == ((sgn v1).toNat : Int)) = false := by
        rw [beq_eq_false_iff_ne]
        intro h
        have h1 : sgn vk = sgn v1 := UInt8.toNat_inj.1 (by omega)
        have h2 := valR_sgn vk hv37
        rw [h1, valR_sgn v1 hv38] at h2
        omega
      have hT := hT2 hne
      obtain ⟨T2, hT2e⟩ : ∃ T2, T2 = X.take k ++ [sgn v1] ++ [sgn vk] ++ X.drop (k + 2) := ⟨_, rfl⟩
      rw [← hT2e] at hT
      have hlx := HXL.out
      have hT2l : T2.length = L.length := by
        rw [hT2e]
        simp only [List.length_append, List.length_take, List.length_drop, List.length_singleton, hlx]; omega
      have QF := Lib.hid (fun w => wireFrom_any T2 w (by omega))
      obtain ⟨f1, hf1⟩ : ∃ f1, f1 = fromE T2 := ⟨_, rfl⟩
      rw [← hf1] at QF hT
      have hf0 : ((f1 : Int) == 0) = false := by rw [beq_eq_false_iff_ne]; omega
      have gk : X[k]? = some (sgn vk) := by rw [← HX.out, List.getElem?_map, List.getElem?_eq_getElem hkl, HVK.out]; rfl
      have gk1 : X[k + 1]? = some (sgn v1) := by rw [← HX.out, List.getElem?_map, List.getElem?_eq_getElem hk1, HV1.out]; rfl
      have y1 := extract_take X k
      have y2 : (ByteArray.mk X.toArray).extract (k + 1) (k + 2) = ⟨[sgn v1].toArray⟩ := extract_one gk1
      have y3 : (ByteArray.mk X.toArray).extract k (k + 1) = ⟨[sgn vk].toArray⟩ := extract_one gk
      have y4 : (ByteArray.mk X.toArray).extract (k + 2) L.length = ⟨(X.drop (k + 2)).toArray⟩ := by rw [← HXL.out]; exact extract_drop X (k + 2)
      have a1 := append_mk (X.take k) [sgn v1]
      have a2 := append_mk (X.take k ++ [sgn v1]) [sgn vk]
      have a3 := append_mk (X.take k ++ [sgn v1] ++ [sgn vk]) (X.drop (k + 2))
      rw [← hT2e] at a3
      have m1 : (k : Int) + 2 ≤ (L.length : Int) := by omega
      have m2 : IntKind.i64.wrap ((k : Int) + 2) = (k : Int) + 2 := IntWalk.i64_in _ (by omega)
      have m3 : ((k : Int) + 2).toNat = k + 2 := by omega
      have m4 : (0 : Int) ≤ (k : Int) + 2 := by omega
      have m5 : (k : Int) ≤ (L.length : Int) := by omega
      have m6 : (k : Int) + 1 ≤ (k : Int) + 2 := by omega
      have m7 : (k : Int) ≤ (k : Int) + 1 := by omega
      have hT2s : T2.length < 9223372036854775808 := by omega
      have l1 : (X.take k).length = k := by rw [List.length_take, hlx]; omega
      have l2 : (X.drop (k + 2)).length = L.length - (k + 2) := by rw [List.length_drop, hlx]
      have s1 := size_mk (X.take k)
      have s2 := size_mk [sgn v1]
      have s3 := size_mk [sgn vk]
      have s4 := size_mk (X.take k ++ [sgn v1])
      have s5 := size_mk (X.take k ++ [sgn v1] ++ [sgn vk])
      have s6 := size_mk (X.drop (k + 2))
      have s7 := size_mk T2
      rw [List.length_append, List.length_append, l1, List.length_singleton, List.length_singleton] at s5
      rw [List.length_append, l1, List.length_singleton] at s4
      rw [l1] at s1
      rw [List.length_singleton] at s2 s3
      rw [l2] at s6
      rw [hT2l] at s7
      clear hne hT2e hf1 hT hT2 l1 l2 gk gk1 hlx
      generalize X.drop (k + 2) = XB at *
      generalize X.take k ++ [sgn v1] ++ [sgn vk] = Y2 at *
      generalize X.take k ++ [sgn v1] = Y1 at *
      generalize X.take k = XA at *
      refine Seg.wp_region_segs (fun w' => ∃ n, w' = wc.drewN n) [] [0, 1, 2, 3, 4, 5, 6, 7, 8, 9, 10, 11, 12] 13 (by kernel_rfl) (by kernel_rfl) (fun _ _ d _ _ h => by cases d <;> exact h) (⟨1, rfl⟩) ?_
      simp only [List.map_cons, List.map_nil, Seg.opAt, List.drop_succ_cons, List.drop_zero, Seg.wpSegs, Array.getD_eq_getD_getElem?, List.getElem?_toArray, List.getElem?_cons_succ, List.getElem?_cons_zero, Option.getD_some]
      repeat (any_goals (first | go_big_quiet_step (fail) | quiet_step (fail)))
      refine wpQuiet_nil ?_
      go_wp2_with fail
      generalize hW9 : wc.drew = w9 at *
      have B9 := Lib.hid (show Below w.heap.size w w9 by rw [← hW9]; exact B8.out.drew)
      have hsW9 : w.heap.size ≤ w9.heap.size := B9.out.size
      clear hW9
      refine Seg.wp_region_segs (fun w' => ∃ x : BelowT w9.heap.size w9, w' = x.w) [([0, 1, 2, 3, 4, 5, 6, 7, 8, 9, 10, 11, 12, 13, 14, 15, 16, 17, 18, 19, 20], 21)] [22, 23, 24] 25 (by kernel_rfl) (by kernel_rfl) (fun _ _ d _ _ h => by cases d <;> exact h) (⟨⟨_, (Below.refl _ _).drew⟩, rfl⟩) ?_
      simp only [List.map_cons, List.map_nil, Seg.opAt, List.drop_succ_cons, List.drop_zero, Seg.wpSegs, Array.getD_eq_getD_getElem?, List.getElem?_toArray, List.getElem?_cons_succ, List.getElem?_cons_zero, Option.getD_some]
      repeat (any_goals (first | go_big_quiet_step (fail) | quiet_step (fail)))
      refine wpQuiet_nil ?_
      intro K hK
      simp only [Region.wanted, if_true]
      go_wp2_with (go_at_call 12; refine (QF.out _).mono ?_; rintro e w10 ⟨rfl, bel10⟩)
      have bel11 : Below w9.heap.size w9 w10 := ((Below.refl w9.heap.size w9).drew).trans (bel10.mono (by simp))
      have B11 := Lib.hid (B9.out.trans (bel11.mono hsW9))
      refine hK _ _ ⟨⟨w10, bel11⟩, rfl⟩ ?_
      try dsimp only
      clear hK K bel10
      repeat (any_goals (first | go_big_quiet_step (fail) | quiet_step (fail)))
      refine wpQuiet_nil ?_
      go_wp2_with fail
      go_ret
      exact ⟨rfl, B11.out⟩
  · have d1 : decide ((k : Int) + 1 < (L.length : Int)) = false := decide_eq_false (by omega)
    have n2 : IntKind.i64.wrap ((k : Int) + 1) = (k : Int) + 1 := IntWalk.i64_in _ (by omega)
    clear hk1 HT2
    refine Seg.wp_region_segs (fun w' => ∃ n, w' = wc.drewN n) [] [0, 1, 2, 3, 4, 5, 6, 7, 8, 9, 10, 11, 12] 13 (by kernel_rfl) (by kernel_rfl) (fun _ _ d _ _ h => by cases d <;> exact h) (⟨1, rfl⟩) ?_
    simp only [List.map_cons, List.map_nil, Seg.opAt, List.drop_succ_cons, List.drop_zero, Seg.wpSegs, Array.getD_eq_getD_getElem?, List.getElem?_toArray, List.getElem?_cons_succ, List.getElem?_cons_zero, Option.getD_some]
    repeat (any_goals (first | go_big_quiet_step (fail) | quiet_step (fail)))
    refine wpQuiet_nil ?_
    go_wp2_with fail
    go_ret
    exact ⟨rfl, B8.out.drew⟩
theorem wireSlips_walk (B : ByteArray) (at_ o : Int) (w : World) (hB : B.data.toList.length ≤ reachBytes) (ho : (Lit.int .u8 o).wf = true) :
    Calls Try.prog 5 #[.string B, .int .i64 at_, .int .u8 o] w fun e w' => e = .returned (.bool true) ∧ Below w.heap.size w w' := by
  rw [show reachBytes = 140737488351232 from rfl] at hB
  have hb : 0 ≤ o ∧ o ≤ 255 := by (simp [Lit.wf, IntKind.min, IntKind.max, IntKind.signed, IntKind.bits] at ho; omega)
  exact wireSlips_any B.data.toList at_ o w (by omega) hb.1 (by omega)
end Go.Proofs.Ytohemcdcmlngiaa
