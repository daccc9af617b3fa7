/-
  audit.Sample: which ballots are drawn.
-/
import Derived.Test.YtkkpfoidppjbdaaNText
import Derived.Test.YtkkpfoidppjbdaaFTag
import Derived.Laws.BitsAllLaws
namespace Go.Proofs.Ytkkpfoidppjbdaa
set_option linter.unusedVariables false
open Go.RowKit ML ND FM

theorem or64 (x c : Nat) (hx : x < 1099511627776) (hc : c < 256) : bits BinOp.or IntKind.i64 ((x : Int) * 256) (c : Int) = ((x * 256 + c : Nat) : Int) := by
  have e : ((x : Int) * 256) = ((x * 256 : Nat) : Int) := by omega
  rw [e]
  show IntKind.i64.wrap ((BitVec.ofInt 64 ((x * 256 : Nat) : Int) ||| BitVec.ofInt 64 (c : Int)).toNat : Int) = _
  rw [BitVec.toNat_or, ofInt_u64 (x * 256) (by omega), ofInt_u64 c (by omega)]
  have h1 : x * 256 ||| c = x * 256 + c := by
    have := Nat.shiftLeft_add_eq_or_of_lt (show c < 2 ^ 8 by omega) x
    rw [Nat.shiftLeft_eq] at this
    exact this.symm
  rw [h1, IntKind.wrap_i64]
  omega
def sampleS : Bytes := [115, 97, 109, 112, 108, 101]
def byVal (D : Bytes) : Nat := D.foldl (fun x c => 256 * x + c.toNat) 0
theorem byVal_snoc (D : Bytes) (k : Nat) (h : k < D.length) : byVal (D.take (k + 1)) = 256 * byVal (D.take k) + byteN D k := by
  unfold byVal byteN
  rw [List.take_succ_eq_append_getElem h, List.foldl_append]
  simp [List.getD_eq_getElem?_getD, h]
def blockS (S : Bytes) (i : Nat) : Bytes := digestL [] (joinL sampleS [S, fourN i])
theorem length_blockS (S : Bytes) (i : Nat) : (blockS S i).length = 32 := length_digestL _ _
def sampV (S : Bytes) (t i : Nat) : Nat := byVal (blockS S i) % t
def sampL (S : Bytes) (t n : Nat) : List Nat := (List.range n).map (sampV S t)
theorem length_sampL (S : Bytes) (t n : Nat) : (sampL S t n).length = n := by simp [sampL]
theorem sampL_succ (S : Bytes) (t n : Nat) : sampL S t (n + 1) = sampL S t n ++ [sampV S t n] := by simp [sampL, List.range_succ]
theorem mod_step (a T c : Nat) : ((a % T) * 256 + c) % T = (256 * a + c) % T := by
  rw [Nat.add_mod, Nat.mul_mod, Nat.mod_mod, ← Nat.mul_mod, ← Nat.add_mod, Nat.mul_comm]
def SampOk (t n : Int) : Prop := (1 ≤ t ∧ t ≤ 1048576) ∧ (0 ≤ n ∧ n ≤ 1024)
instance (t n : Int) : Decidable (SampOk t n) := by unfold SampOk; infer_instance
def sampR (S : Bytes) (t n : Int) : List Nat := if SampOk t n then sampL S t.toNat n.toNat else []
def sampE (t n : Int) : Int := if SampOk t n then 0 else 4
theorem strsAt_two {w : World} {g : Nat} {t : TypeId} {A B : Bytes} (h : w.heap[g]? = some (.cells #[.string ⟨A.toArray⟩, .string ⟨B.toArray⟩] t (0, 0))) : StrsAt w (some ⟨g, 0, none⟩) [A, B] := ⟨fun i hi => by
  refine ⟨_, rfl, lt_of_heap h, ?_⟩
  rw [add_cell, cell_of_row w g i _ _ _ h]
  have : i = 0 ∨ i = 1 := by simp at hi; omega
  rcases this with rfl | rfl <;> rfl⟩
theorem length_joinS (S : Bytes) (i : Nat) : (joinL sampleS [S, fourN i]).length = S.length + 22 := by
  simp only [joinL, sampleS, fourN, List.flatMap_cons, List.flatMap_nil, List.length_append, List.length_cons, List.length_nil]
  omega
/-- '[]byte(s)': a new row that reads as the text -/
theorem wpList_bytes_of {P : Program} {w : World} {ops : Array Oper} {rest : List Oper} {o : Oper} {a : Act} {Q : Exit → Act → World → Prop} (hgd : o.guard = none) (x : Operand) (src dst e : TypeId)
    (ho : o.op = .convert src dst x) (hs : P.underlying src = some .string) (hd : P.underlying dst = some (.slice e)) (he : P.underlying e = some (.int .u8)) (D : Bytes) (hx : a.eval x = .string ⟨D.toArray⟩)
    (h : ∀ cap w', Below w.heap.size w w' → w.heap.size < w'.heap.size → (∀ j, j < D.length → w'.cell? ⟨w.heap.size, j, none⟩ = some (.int .u8 (byteN D j : Int))) → wpList P ops Q rest (a.put o.dst (.slice (some ⟨w.heap.size, 0, none⟩) D.length cap)) w') : wpList P ops Q (o :: rest) a w := by
  refine wpList_plain hgd fun K hK => ?_
  have hrun := run_bytes_of_string (P := P) w src dst e ⟨D.toArray⟩ hs hd he
  rw [size_mk] at hrun
  unfold Oper.wp
  simp only [execOp, ho, hx]
  generalize hc : grownCap w D.length 0 e = cap at *
  have hW := h cap _ (((Below.refl w.heap.size w).drew).alloc (Nat.le_refl _) (.cells (bytesRow ⟨D.toArray⟩ cap) e ((bytesRow ⟨D.toArray⟩ cap).size, (bytesRow ⟨D.toArray⟩ cap).size + 1))) (by simp) (fun j hj => by
    have hb := bytesRow_at ⟨D.toArray⟩ cap j (by simpa using hj)
    have hh : (w.drew.alloc (.cells (bytesRow ⟨D.toArray⟩ cap) e ((bytesRow ⟨D.toArray⟩ cap).size, (bytesRow ⟨D.toArray⟩ cap).size + 1))).heap[w.heap.size]? = some (.cells (bytesRow ⟨D.toArray⟩ cap) e ((bytesRow ⟨D.toArray⟩ cap).size, (bytesRow ⟨D.toArray⟩ cap).size + 1)) := heap_at rfl
    unfold World.cell?
    simp only [hh]
    rw [hb]
    simp [byteN, List.getD_eq_getElem?_getD, hj])
  simp [hrun, Result.andThen] at hK ⊢
  exact hK _ _ hW
set_option maxHeartbeats 1000000 in
set_option maxRecDepth 100000 in
theorem audFour_any (n : Nat) (w : World) (hn : n < 9223372036854775808) :
    Calls Try.prog 9 #[.int .i64 (n : Int)] w fun e w' => e = .returned (.string ⟨(fourN n).toArray⟩) ∧ Below w.heap.size w w' := by
  have hc := Lib.hid (fourN_cells n)
  have h0 : (0 : Int) ≤ n := by omega
  have h1 : (n : Int) < 9223372036854775808 := by omega
  go_enter Try.func9, Try.ntmps9
  go_wp2_with (refine wpList_bytes_back rfl _ 29 9 5 rfl Try.underlying29 Try.underlying5 Try.underlying9 w.heap.size 4 4 (fourN n) rfl rfl (by rw [hc.out]; exact rangeAt_block (heap_at rfl)) ?_)
  go_ret
  exact ⟨rfl, (Below.refl _ _).alloc (Nat.le_refl _) _⟩
def btwB (n lo hi : Int) : Bool := decide (lo ≤ n ∧ n ≤ hi)
set_option maxHeartbeats 1000000 in
set_option maxRecDepth 100000 in
theorem between_any (n lo hi : Int) (w : World) :
    Calls Try.prog 7 #[.int .i64 n, .int .i64 lo, .int .i64 hi] w fun e w' => e = .returned (.bool (btwB n lo hi)) ∧ w' = w := by
  go_enter Try.func7, Try.ntmps7
  by_cases h1 : lo ≤ n
  · by_cases h2 : n ≤ hi
    · have hd := Lib.hid (show btwB n lo hi = true by simp [btwB, h1, h2])
      go_wp2_with fail
      go_ret
      exact ⟨by rw [hd.out]; rfl, rfl⟩
    · have hd := Lib.hid (show btwB n lo hi = false by simp [btwB]; omega)
      go_wp2_with fail
      go_ret
      exact ⟨by rw [hd.out]; rfl, rfl⟩
  · have hd := Lib.hid (show btwB n lo hi = false by simp [btwB]; omega)
    go_wp2_with fail
    go_ret
    exact ⟨by rw [hd.out]; rfl, rfl⟩
set_option maxHeartbeats 4000000 in
set_option maxRecDepth 100000 in
theorem audSample_any (S : Bytes) (t n : Int) (w : World) (hS : S.length < 1152921504606846976) :
    Calls Try.prog 4 #[.string ⟨S.toArray⟩, .int .i64 t, .int .i64 n] w fun e w' => ∃ oa cap, e = .returned (.tuple #[.slice oa (sampR S t n).length cap, .int .i64 (sampE t n)]) ∧ IntsAt w' oa (sampR S t n) ∧ Below w.heap.size w w' := by
  obtain ⟨i0, hi, hz0, hz1, hz2⟩ := info_parts info_int
  have HI := Lib.hid hi
  have HZ0 := Lib.hid hz0
  have HZ1 := Lib.hid hz1
  have HZ2 := Lib.hid hz2
  clear hi hz0 hz1 hz2
  have QB := Lib.hid between_any
  go_enter Try.func4, Try.ntmps4
  by_cases hok : ¬ SampOk t n
  · have hR := Lib.hid (show sampR S t n = [] from if_neg hok)
    have hE := Lib.hid (show sampE t n = 4 from if_neg hok)
    by_cases ht : 1 ≤ t ∧ t ≤ 1048576
    · have hn : ¬ (0 ≤ n ∧ n ≤ 1024) := fun h => hok ⟨ht, h⟩
      have b1 : btwB t 1 1048576 = true := decide_eq_true ht
      have b2 : btwB n 0 1024 = false := decide_eq_false hn
      clear ht hn hok
      go_wp2_with (go_at_call 7; refine (QB.out _ _ _ _).mono ?_; rintro e w3 ⟨rfl, rfl⟩)
      go_ret2
      rw [hR.out, hE.out]
      exact ⟨none, 0, rfl, IntsAt.nil, Below.refl _ _⟩
    · have b1 : btwB t 1 1048576 = false := decide_eq_false ht
      clear ht hok
      go_wp2_with (go_at_call 7; refine (QB.out _ _ _ _).mono ?_; rintro e w3 ⟨rfl, rfl⟩)
      go_ret2
      rw [hR.out, hE.out]
      exact ⟨none, 0, rfl, IntsAt.nil, Below.refl _ _⟩
  have hok2 := Decidable.not_not.1 hok
  obtain ⟨⟨ht1, ht2⟩, hn1, hn2⟩ := hok2
  obtain ⟨T, rfl⟩ := Int.eq_ofNat_of_zero_le (show 0 ≤ t by omega)
  obtain ⟨m, rfl⟩ := Int.eq_ofNat_of_zero_le hn1
  have hR := Lib.hid (show sampR S (T : Int) (m : Int) = sampL S T m from if_pos ⟨⟨ht1, ht2⟩, hn1, hn2⟩)
  have hE := Lib.hid (show sampE (T : Int) (m : Int) = 0 from if_pos ⟨⟨ht1, ht2⟩, hn1, hn2⟩)
  have b1 : btwB (T : Int) 1 1048576 = true := decide_eq_true ⟨ht1, ht2⟩
  have b2 : btwB (m : Int) 0 1024 = true := decide_eq_true ⟨hn1, hn2⟩
  clear hok
  go_upto_region 4 with (go_at_call 7; refine (QB.out _ _ _ _).mono ?_; rintro e w3 ⟨rfl, rfl⟩)
  clear b1 b2 QB
  have hT0 : 0 < T := by omega
  go_upto_region 5 with (fail)
  go_loopw [8, 22] (fun v i wr => ∃ k : Nat, k ≤ m ∧ i = .int .i64 k ∧ Below w3.heap.size w3 wr ∧ wr.ownsRow w3.heap.size 3 1 v k (nvals (sampL S T k))) (fun _ i _ => m - (intOf i).toNat)
  case atStart => exact ⟨0, by omega, rfl, Below.refl _ _, World.ownsRow_nil _ _ _ _⟩
  case round =>
  obtain ⟨k, hk, rfl, bel, own⟩ := hrel
  by_cases hlt : k < m
  · have hd : decide ((k : Int) < (m : Int)) = true := by simp; omega
    have QF := Lib.hid (audFour_any k wr (by omega))
    have QT := Lib.hid (fun (g : Nat) (w5 : World) (h : w5.heap[g]? = some (.cells #[.string ⟨S.toArray⟩, .string ⟨(fourN k).toArray⟩] 9 (0, 0))) =>
      Tag_any sampleS (some ⟨g, 0, none⟩) [S, fourN k] 2 w5 (strsAt_two h) (by rw [length_joinS]; omega) (by show 2 < 9223372036854775807; decide))
    have hbw : w3.heap.size ≤ wr.heap.size := bel.size
    have hbl := Lib.hid (length_blockS S k)
    have hsv := Lib.hid (show sampV S T k = byVal (blockS S k) % T from rfl)
    have hbd := Lib.hid (show digestL [] (joinL sampleS [S, fourN k]) = blockS S k from rfl)
    rw [show digestL [] (joinL sampleS [S, fourN k]) = blockS S k from rfl] at QT
    generalize blockS S k = D at *
    go_upto_region 9 with (first
      | (go_at_call 9; refine QF.out.mono ?_; rintro e w5 ⟨rfl, hb5⟩)
      | (go_at_call 8; refine (QT.out w5.heap.size _ (heap_at rfl)).mono ?_; rintro e w6 ⟨rfl, hb6⟩)
      | (refine wpList_bytes_of rfl _ 9 29 5 rfl Try.underlying9 Try.underlying29 Try.underlying5 D rfl ?_; intro cap w7 hb7 hg7 hby))
    have hb6' : Below w5.heap.size w5 w6 := ((Below.refl _ _).alloc (Nat.le_refl _) _).trans (hb6.mono (by simp))
    have b7 : Below wr.heap.size wr w7 := (hb5.trans (hb6'.mono hb5.size)).trans (hb7.mono (Nat.le_trans hb5.size hb6'.size))
    have own7 := Lib.hid (own_below own b7)
    have bel7 := Lib.hid (bel.trans (b7.mono hbw))
    have hBw7 : w3.heap.size ≤ w7.heap.size := Nat.le_trans hbw b7.size
    have hDl := hbl.out
    have HBY := Lib.hid hby
    clear own bel QF QT hb5 hb6 hb6' hb7 b7 hby
    generalize w6.heap.size = g at *
    go_loopw [10, 32] (fun x j wi => ∃ k : Nat, k ≤ 32 ∧ j = .int .i64 k ∧ x = .int .i64 ((byVal (D.take k) % T : Nat) : Int) ∧ wi = w7) (fun _ j _ => 32 - (intOf j).toNat)
    case atStart => exact ⟨0, by omega, rfl, by simp [byVal], rfl⟩
    case round =>
    obtain ⟨j, hj, rfl, rfl, rfl⟩ := hrel
    by_cases hj32 : j < 32
    · have hdj : decide ((j : Int) < 32) = true := by simp; omega
      have hjl : j < D.length := by omega
      have hcj := HBY.out j hjl
      have hc8 : byteN D j < 256 := byteN_lt D j
      have hxl : byVal (D.take j) % T < T := Nat.mod_lt _ hT0
      have hst := Lib.hid (show ((byVal (D.take j) % T) * 256 + byteN D j) % T = byVal (D.take (j + 1)) % T by rw [mod_step, byVal_snoc D j hjl])
      have hor := or64 (byVal (D.take j) % T) (byteN D j) (by omega) hc8
      have hj0 : (0 : Int) ≤ j := by omega
      have hjl2 : (j : Int) < ((List.length D : Nat) : Int) := by omega
      generalize byVal (D.take j) % T = x at *
      generalize byteN D j = c at *
      obtain ⟨y, hy⟩ : ∃ y : Nat, y = x * 256 + c := ⟨_, rfl⟩
      rw [← hy] at hor hst
      have hyl : y < 1099511627776 := by omega
      have hT1 : ((T : Int) == 0) = false := by rw [beq_eq_false_iff_ne]; omega
      have hT2 : (0 : Int) < T := by omega
      have hT3 : ¬ (T : Int) = 0 := by omega
      obtain ⟨z, hz⟩ : ∃ z : Nat, z = y % T := ⟨_, rfl⟩
      have htm : Int.tmod (y : Int) (T : Int) = (z : Int) := by rw [hz, Int.tmod_eq_emod_of_nonneg (by omega)]; exact (Int.natCast_emod y T).symm
      have hem : (y : Int) % (T : Int) = (z : Int) := by rw [hz]; exact (Int.natCast_emod y T).symm
      have hTn : ¬ T = 0 := by omega
      have hzl : z < T := by rw [hz]; exact Nat.mod_lt _ hT0
      rw [← hz] at hst
      clear hy hz
      go_wp2_with fail
      go_roundw
      case rel => exact ⟨j + 1, by omega, by go_num, by rw [← hst.out], trivial⟩
      case measure => simp [intOf]; omega
    · have hdj : decide ((j : Int) < 32) = false := by simp; omega
      obtain rfl : j = 32 := by omega
      rw [List.take_of_length_le (by omega)]
      rw [← hsv.out]
      have hs1 := Lib.hid (sampL_succ S T k)
      generalize sampV S T k = e0 at *
      go_upto_region 14 with (at_builtin; refine wpList_append_own _ rfl (.tmp 44) (.tmp 46) 22 rfl w3.heap.size 3 i0 (.int .i64 0) 1 8 Try.underlying22 HI.out HZ0.out HZ1.out HZ2.out rfl (by decide) u8 k (nvals (sampL S T k)) rfl (own7.out.alloc _) ⟨wr.heap.size, 0, none⟩ 1 1 (nvals [e0]) rfl rfl ?c1 ?c2 ?c3 ?c4 ?c5 ?_)
      case c1 => exact news_nvals wr [e0] _ _ rfl
      case c2 => exact nvals_one _
      case c3 => unfold maxLen; omega
      case c4 => omega
      case c5 => first | omega | (simp; omega)
      intro v9 w9 own9 hg9 _
      have bel9 : Below w3.heap.size w3 w9 := (bel7.out.alloc hBw7 _).grown hg9 (by simp; omega) (fun q hq => (own7.out.lt q hq).1)
      rw [nvals_append, ← hs1.out] at own9
      have OWN9 := Lib.hid own9
      clear own9 own7 hg9 bel7 HBY
      go_wp2_with fail
      go_roundw
      case rel => exact ⟨k + 1, by omega, by go_num, bel9, OWN9.out⟩
      case measure => simp [intOf]; omega
  · have hd : decide ((k : Int) < (m : Int)) = false := by simp; omega
    obtain rfl : k = m := by omega
    obtain ⟨oa, cap, rfl, _, _, hI⟩ := intsAt_own own
    have hll : (sampL S T k).length = k := length_sampL _ _ _
    have HII := Lib.hid hI
    clear own hI
    go_wp2_with fail
    go_ret2
    rw [hR.out, hE.out]
    exact ⟨oa, cap, rfl, HII.out, bel⟩
end Go.Proofs.Ytkkpfoidppjbdaa
