/-
  Chapter 4, the reference: FromLetters.
-/
import Derived.Test.YtohemcdcmlngiaaWRFPlain
import Derived.Test.YtohemcdcmlngiaaWFrom
import Derived.Test.YtohemcdcmlngiaaWRLet
import Derived.Deep.OwnRows
namespace Go.Proofs.Ytohemcdcmlngiaa
set_option linter.unusedVariables false
set_option linter.unusedSimpArgs false
open Go.RowKit ML FM WL

namespace WL
def OkTo (L : List Int) (k : Nat) : Prop := ∀ i (h : i < L.length), i < k → 0 ≤ L[i] ∧ (i + 1 < L.length → L[i] < 32)
theorem OkTo.zero (L : List Int) : OkTo L 0 := fun i _ h => by omega
theorem OkTo.all {L : List Int} (h : OkTo L L.length) : OkV L := fun i hi => h i hi hi
theorem OkTo.next {L : List Int} {k : Nat} (h : OkTo L k) (hk : k < L.length) (h0 : 0 ≤ L[k]) (h1 : k + 1 < L.length → L[k] < 32) : OkTo L (k + 1) := fun i hi hlt => by
  by_cases he : i = k
  · subst he; exact ⟨h0, h1⟩
  · exact h i hi (by omega)
theorem nat_of_ok {L : List Int} (h : OkV L) : L = (L.map Int.toNat).map (fun v : Nat => (v : Int)) := by
  rw [List.map_map]
  apply List.ext_getElem (by simp)
  intro i h1 h2
  have := (h i h1).1
  simp only [List.getElem_map, Function.comp]
  omega
end WL
def ivals (L : List Int) : List Value := L.map fun v => Value.int .i64 v
theorem ivals_append (A B : List Int) : ivals A ++ ivals B = ivals (A ++ B) := by simp [ivals]
theorem ivals_one (L : List Int) : ∀ v ∈ ivals L, v.oneCell' = true := by
  intro v hv; simp only [ivals, List.mem_map] at hv; obtain ⟨x, _, rfl⟩ := hv; rfl
theorem ivals_nat (l : List Nat) : ivals (l.map (fun v : Nat => (v : Int))) = nvals l := by simp [ivals, nvals, Function.comp_def]
theorem ints_own {w : World} {base : Nat} {e : TypeId} {v : Value} {n : Nat} {L : List Int} (h : w.ownsRow base e 1 v n (ivals L)) : ∃ oa cap, v = .slice oa L.length cap ∧ L.length ≤ cap ∧
    (∀ i (hi : i < L.length), ∃ a, oa = some a ∧ a.block < w.heap.size ∧ w.cell? (a.add i) = some (.int .i64 L[i])) := by
  have hl : L.length = n := by have := h.1; simp [ivals] at this; omega
  rcases h.2 with ⟨hv, h0⟩ | ⟨g, cap, cur, hv, hb, hg, hnc, _, hc, ht⟩
  · have : L = [] := List.length_eq_zero_iff.1 (by omega)
    subst this
    exact ⟨none, 0, hv, Nat.le_refl _, fun i hi => by simp at hi⟩
  · refine ⟨some ⟨g, 0, none⟩, cap, by rw [hl]; exact hv, by rw [hl]; exact hnc, fun i hi => ⟨_, rfl, lt_of_heap hg, ?_⟩⟩
    exact h.cells (g := g) (by rw [hv]; rfl) i (.int .i64 L[i]) (by simp [ivals, hi])
theorem made_bytesF (n : Nat) : madeCells #[Value.int .u8 0] n = (Lib.byteCells (List.replicate n 0)).toArray := by
  unfold madeCells Lib.byteCells
  apply Array.ext
  · simp
  · intro i h1 h2
    simp [Nat.mod_one]
theorem set_bytesF {w : World} {b : Nat} {L : Bytes} {T : TypeId} (h : w.heap[b]? = some (.cells (Lib.byteCells L).toArray T (0, 0))) (i : Nat) (c : UInt8) : (w.setCell ⟨b, i, none⟩ (.int .u8 (c.toNat : Int))).heap[b]? = some (.cells (Lib.byteCells (L.set i c)).toArray T (0, 0)) := by
  rw [heap_setCell_same w b i _ _ _ h]
  congr 2
  simp [Lib.byteCells, List.map_set]
theorem cell_bytesF {w : World} {b : Nat} {L : Bytes} {T : TypeId} (h : w.heap[b]? = some (.cells (Lib.byteCells L).toArray T (0, 0))) (i : Nat) (hi : i < L.length) : w.cell? ⟨b, i, none⟩ = some (.int .u8 (L[i].toNat : Int)) := by
  rw [cell_of_row w b i _ _ _ h]
  simp [Lib.byteCells, hi]
theorem rdT_take_le (T : Bytes) : (rdT T).length ≤ T.length := by unfold rdT; rw [List.length_map]; exact List.length_filter_le _ _
theorem valR_rd (T : Bytes) : ∀ v ∈ rdT T, -1 ≤ v ∧ v < 37 := by
  intro v hv
  unfold rdT at hv
  obtain ⟨c, _, rfl⟩ := List.mem_map.1 hv
  exact ⟨valR_ge _, valR_lt _⟩
set_option maxHeartbeats 8000000 in
set_option maxRecDepth 100000 in
theorem refFrom_any (T : Bytes) (w : World) (hT : T.length < 1000000000) :
    Calls Try.prog 11 #[.string ⟨T.toArray⟩] w fun e w' => e = .returned (.tuple #[.string ⟨(fromB T).toArray⟩, .int .i64 (fromE T : Int)]) ∧ Below w.heap.size w w' := by
  obtain ⟨i0, hi, hz0, hz1, hz2⟩ := info_parts info_int
  have HI := Lib.hid hi
  have HZ0 := Lib.hid hz0
  have HZ1 := Lib.hid hz1
  have HZ2 := Lib.hid hz2
  have hszT := size_mk T
  obtain ⟨A, hA⟩ : ∃ A, A = fromB T := ⟨_, rfl⟩
  obtain ⟨n, hn⟩ : ∃ n, n = fromE T := ⟨_, rfl⟩
  rw [← hA, ← hn]
  have HN := Lib.hid hn
  have HA := Lib.hid (show A = if n = 0 then bytesOf ((rdT T).dropLast.map Int.toNat) else [] by rw [hA, hn]; rfl)
  have HB2 := Lib.hid (fun (h : n = 2) => (show A = [] by rw [HA.out, if_neg (by omega)]))
  clear hi hz0 hz1 hz2 hA hn
  go_enter Try.func11, Try.ntmps11
  go_upto_region 3 with (fail)
  generalize hW : w.heap.size = W at *
  have HW := Lib.hid hW
  clear hW
  go_loopw [4, 5] (fun v i wr => ∃ k : Nat, k ≤ T.length ∧ i = .int .i64 k ∧ wr.ownsRow W 3 1 v (rdT (T.take k)).length (ivals (rdT (T.take k))) ∧ Below W w wr ∧ W ≤ wr.heap.size) (fun _ i _ => T.length - (intOf i).toNat)
  case atStart => exact ⟨0, by omega, rfl, World.ownsRow_nil _ _ _ _, Below.refl _ _, by rw [HW.out]; exact Nat.le_refl _⟩
  case round =>
  obtain ⟨k, hk, rfl, own, bel, hWr⟩ := hrel
  by_cases hlt : k < T.length
  · have dk : decide ((k : Int) < (T.length : Int)) = true := decide_eq_true (by omega)
    have dk2 : decide (k < T.length) = true := decide_eq_true hlt
    have hsn : T.take (k + 1) = T.take k ++ [T[k]] := by rw [List.take_succ_eq_append_getElem hlt]
    have hb := fun hh => strBN T k hh
    have hbk : byteN T k = T[k].toNat := by unfold byteN; rw [List.getD_eq_getElem?_getD, List.getElem?_eq_getElem hlt]; rfl
    have hki : (k : Int) < (T.length : Int) := by omega
    have hlen : (rdT (T.take k)).length < 1000000000 := by
      have := rdT_take_le (T.take k)
      rw [List.length_take] at this
      omega
    have OWN := Lib.hid own
    have BL := Lib.hid bel
    have HSN := Lib.hid hsn
    have HBK := Lib.hid hbk
    clear own bel hsn hbk
    by_cases h45 : T[k] = 45
    · have d45 : ((byteN T k : Int) == 45) = true := by rw [beq_iff_eq, HBK.out, h45]; rfl
      have hnew := Lib.hid (show rdT (T.take (k + 1)) = rdT (T.take k) by rw [HSN.out, h45, rdT_hyphen])
      clear h45
      generalize byteN T k = c at *
      go_wp2_with fail
      go_roundw
      case rel => exact ⟨k + 1, by omega, by go_num, by rw [hnew.out]; exact OWN.out, BL.out, hWr⟩
      case measure => simp [intOf]; omega
    · have d45 : ((byteN T k : Int) == 45) = false := by
        rw [beq_eq_false_iff_ne, HBK.out]
        intro h
        exact h45 (UInt8.toNat_inj.1 (by have : T[k].toNat = 45 := by omega
                                         rw [this]; rfl))
      have hc256 : byteN T k < 256 := by rw [HBK.out]; exact T[k].toNat_lt
      have hnew := Lib.hid (show rdT (T.take (k + 1)) = rdT (T.take k) ++ [valR (byteN T k)] by rw [HSN.out, HBK.out, rdT_sign _ _ h45])
      clear h45
      generalize byteN T k = c at *
      have QV := Lib.hid (fun w => refValue_any c w hc256)
      generalize valR c = x at *
      go_wp2_with (first
        | (go_at_call 14; refine (QV.out wr).mono ?_; rintro e w2 ⟨rfl, rfl⟩)
        | (at_builtin; refine wpList_append_own _ rfl (.tmp 24) (.tmp 29) 45 rfl W 3 i0 (.int .i64 0) 1 8 Try.underlying45 HI.out HZ0.out HZ1.out HZ2.out rfl (by decide) u4 (rdT (T.take k)).length (ivals (rdT (T.take k))) rfl (OWN.out.alloc _) ⟨wr.heap.size, 0, none⟩ 1 1 (ivals [x]) rfl rfl (by first | exact news_new wr (ivals [x]) _ _ rfl | exact fun j u h => h) (ivals_one _) (by unfold maxLen; omega) (by omega) (by first | omega | (simp; omega)) ?_; intro v5 w5 own5 hg5 _))
      have bel5 : Below W w w5 := (BL.out.alloc hWr _).grown hg5 (by simp; omega) (fun q hq => (OWN.out.lt q hq).1)
      rw [ivals_append, ← hnew.out] at own5
      have own6 : w5.ownsRow W 3 1 v5 (rdT (T.take (k + 1))).length (ivals (rdT (T.take (k + 1)))) := by rw [hnew.out, List.length_append, ← hnew.out]; exact own5
      have hs5 : W ≤ w5.heap.size := by have := bel5.size; rw [HW.out] at this; exact this
      clear own5 hg5
      go_wp2_with fail
      go_roundw
      case rel => exact ⟨k + 1, by omega, by go_num, own6, bel5, hs5⟩
      case measure => simp [intOf]; omega
  · have dk : decide ((k : Int) < (T.length : Int)) = false := decide_eq_false (by omega)
    have dk2 : decide (k < T.length) = false := decide_eq_false hlt
    obtain rfl : k = T.length := by omega
    rw [List.take_length] at own
    clear hlt hk
    have hLl := rdT_take_le T
    have HLV := Lib.hid (valR_rd T)
    obtain ⟨L, hLdef⟩ : ∃ L, L = rdT T := ⟨_, rfl⟩
    rw [← hLdef] at own hLl HLV
    have HL := Lib.hid hLdef
    clear hLdef
    obtain ⟨oa, cap, rfl, hcap, hI⟩ := ints_own own
    have OWN := Lib.hid own
    have BEL := Lib.hid bel
    have HII := Lib.hid hI
    clear own bel hI
    by_cases hL0 : L = []
    · have hn2 := Lib.hid (HN.out.trans (fromE_nil (by rw [← HL.out]; exact hL0)))
      subst hL0
      go_wp2_with fail
      go_ret2
      exact ⟨by rw [hn2.out, HB2.out hn2.out]; rfl, by rw [HW.out]; exact BEL.out⟩
    have hpos := List.length_pos_iff.2 hL0
    have hz : ((L.length : Int) == 0) = false := by rw [beq_eq_false_iff_ne]; omega
    have hz2 : (L.length == 0) = false := by rw [beq_eq_false_iff_ne]; omega
    have hlB : L.length < 1000000000 := by omega
    have HL0 := Lib.hid hL0
    clear hL0
    go_upto_region 10 with (fail)
    clear hz hz2
    go_loop [36] (fun i => ∃ k : Nat, k ≤ L.length ∧ i = .int .i64 k ∧ OkTo L k) (fun i => L.length - (intOf i).toNat)
    case atStart => exact ⟨0, by omega, rfl, OkTo.zero L⟩
    case round =>
    obtain ⟨k, hk, rfl, hok⟩ := hrel
    by_cases hlt : k < L.length
    · have dl : decide ((k : Int) < (L.length : Int)) = true := decide_eq_true (by omega)
      have dl2 : decide (k < L.length) = true := decide_eq_true hlt
      obtain ⟨a, hoa, hab, hac⟩ := HII.out k hlt
      have hvl := HLV.out _ (List.getElem_mem hlt)
      have hki : (k : Int) < (L.length : Int) := by omega
      have HOK := Lib.hid hok
      have HBAD := Lib.hid (fun (h : ¬ OkV L) => (show n = 2 from HN.out.trans (fromE_bad (T := T) (A := T) (M := []) (by simp) (by rw [← HL.out]; exact h))))
      have HNX := Lib.hid (fun h0 h1 => OkTo.next hok hlt h0 h1)
      have HBD := Lib.hid (fun (h : OkV L) => h k hlt)
      subst hoa
      clear hok
      generalize L[k] = x at *
      by_cases hx0 : x < 0
      · have hn2 := Lib.hid (HBAD.out (fun h => by have := (HBD.out h).1; omega))
        go_wp2_with fail
        go_ret2
        exact ⟨by rw [hn2.out, HB2.out hn2.out]; rfl, by rw [HW.out]; exact BEL.out⟩
      · have d0 : decide (x < 0) = false := decide_eq_false hx0
        by_cases h32 : 32 ≤ x
        · have d1 : decide (32 ≤ x) = true := decide_eq_true h32
          by_cases hkl : k + 1 < L.length
          · have d2 : decide ((k : Int) < (L.length : Int) - 1) = true := decide_eq_true (by omega)
            have hn2 := Lib.hid (HBAD.out (fun h => by have := (HBD.out h).2 hkl; omega))
            go_wp2_with fail
            go_ret2
            exact ⟨by rw [hn2.out, HB2.out hn2.out]; rfl, by rw [HW.out]; exact BEL.out⟩
          · have d2 : decide ((k : Int) < (L.length : Int) - 1) = false := decide_eq_false (by omega)
            have hok2 := Lib.hid (HNX.out (by omega) (fun h => by omega))
            go_wp2_with fail
            go_round
            case rel => exact ⟨k + 1, by omega, by go_num, hok2.out⟩
            case measure => simp [intOf]; omega
        · have d1 : decide (32 ≤ x) = false := decide_eq_false h32
          have hok2 := Lib.hid (HNX.out (by omega) (fun h => by omega))
          go_wp2_with fail
          go_round
          case rel => exact ⟨k + 1, by omega, by go_num, hok2.out⟩
          case measure => simp [intOf]; omega
    · have dl : decide ((k : Int) < (L.length : Int)) = false := decide_eq_false (by omega)
      have dl2 : decide (k < L.length) = false := decide_eq_false hlt
      obtain rfl : k = L.length := by omega
      have hokV := hok.all
      have hmN := nat_of_ok hokV
      obtain ⟨M, hM⟩ : ∃ M, M = L.map Int.toNat := ⟨_, rfl⟩
      rw [← hM] at hmN
      have hM0 : M ≠ [] := by intro h; rw [h] at hmN; exact HL0.out hmN
      obtain ⟨l, c, rfl⟩ : ∃ l c, M = l ++ [c] := ⟨M.dropLast, M.getLast hM0, (List.dropLast_concat_getLast hM0).symm⟩
      obtain ⟨hE, hD⟩ := fromE_of (T := T) (by rw [← HL.out]; exact hmN) (by rw [← HL.out]; exact hokV)
      have hl32 : ∀ v ∈ l, v < 32 := fun v hv => by
        obtain ⟨i, hi, rfl⟩ := List.getElem_of_mem hv
        have h1 : ∀ (X : List Int) (hX : X = (l ++ [c]).map (fun v : Nat => (v : Int))), OkV X → (l[i] : Int) < 32 := by
          intro X hX hO
          subst hX
          have := (hO i (by simp; omega)).2 (by simp; omega)
          rw [List.getElem_map, List.getElem_append_left hi] at this
          exact this
        have := h1 _ hmN hokV
        omega
      have hc37 : c < 37 := by
        have := (HLV.out (c : Int) (by rw [hmN]; simp)).2
        omega
      rw [hD] at HA
      have HE := Lib.hid (HN.out.trans hE)
      have HAA := Lib.hid HA.out
      have HL32 := Lib.hid hl32
      have own2 := OWN.out
      have hlen : L.length = l.length + 1 := by rw [hmN]; simp
      rw [hlen] at own2 hlB ⊢
      rw [hmN, ivals_nat] at own2
      have own3 : wr.ownsRow W 3 1 (.slice oa (l ++ [c]).length cap) (l ++ [c]).length (nvals (l ++ [c])) := by rw [List.length_append, List.length_singleton]; exact own2
      obtain ⟨oa2, cap2, hsl, hcap2, _, hJ⟩ := intsAt_own own3
      injection hsl with e1 e2 e3
      subst e1
      obtain ⟨a, hoa, hab, hac⟩ := hJ.cells l.length (by simp)
      rw [List.getElem_append_right (Nat.le_refl _)] at hac
      simp only [Nat.sub_self, List.getElem_singleton] at hac
      have hI2 := hJ.take l.length
      rw [List.take_left] at hI2
      have HI2 := Lib.hid hI2
      have hcap3 : l.length + 1 ≤ cap := by rw [hlen] at hcap; exact hcap
      subst hoa
      clear e2 e3 hcap2 hJ own3 own2 hI2 hl32 hE hD hM0 hmN hokV hok HLV HII HL0 OWN HN HB2 HL hlt dl2 hk hLl hpos hcap hlen hM
      have hli : (l.length : Int) + 1 - 1 = (l.length : Int) := by omega
      have hlj : (l.length : Int) < (l.length : Int) + 1 := by omega
      have hlk : (l.length : Int) ≤ (cap : Int) := by omega
      have hl0i : (0 : Int) ≤ (l.length : Int) := by omega
      have hlm : IntKind.i64.wrap ((l.length : Int) + 1 - 1) = (l.length : Int) := by rw [hli]; exact IntWalk.i64_in _ (by omega)
      have hln : IntKind.i64.wrap (l.length : Int) = (l.length : Int) := IntWalk.i64_in _ (by omega)
      have AL : AllV l := HL32.out
      have HAL := Lib.hid AL
      clear AL
      have HCK := Lib.hid (fun w h => refCheck_any (some a) l cap w h (by omega) (fun v hv => by have := HL32.out v hv; omega))
      have hlB2 : l.length < 1000000000 := by omega
      clear hlB
      go_upto_region 17 with (fail)
      clear hli hlj hlk hl0i hlm hln hac hab
      obtain ⟨m, hm⟩ : ∃ m, m = l.length := ⟨_, rfl⟩
      rw [← hm] at HE HCK hlB2 ⊢
      have HM := Lib.hid hm
      clear hm
      obtain ⟨N, hN⟩ : ∃ N, N = 5 * m / 8 := ⟨_, rfl⟩
      have hN1 : (5 * (m : Int)) / 8 = (N : Int) := by omega
      have HNN := Lib.hid hN
      clear hN
      by_cases h103 : 103 < m
      · have d1 : decide (103 < m) = true := decide_eq_true h103
        have d2 : decide ((103 : Int) < (m : Int)) = true := decide_eq_true (by omega)
        have hn3 := Lib.hid (HE.out.trans (if_pos h103))
        have ha3 := Lib.hid (HAA.out.trans (if_neg (by rw [hn3.out]; decide)))
        clear h103 HE HAA
        go_wp2_with fail
        go_ret2
        exact ⟨by rw [hn3.out, ha3.out]; rfl, by rw [HW.out]; exact BEL.out⟩
      have d1 : decide (103 < m) = false := decide_eq_false h103
      have d2 : decide ((103 : Int) < (m : Int)) = false := decide_eq_false (by omega)
      have HE1 := Lib.hid (HE.out.trans (if_neg h103))
      have hm103 : m ≤ 103 := by omega
      clear h103 HE hlB2
      obtain ⟨z, hz⟩ : ∃ z, z = (8 * N + 4) / 5 := ⟨_, rfl⟩
      have hz1 : (8 * (N : Int) + 4) / 5 = (z : Int) := by omega
      have hNb : N < 100 := by have := HNN.out; omega
      have hzb : z < 1000 := by omega
      by_cases h5 : 5 ≤ 5 * m % 8
      · have d3 : ((z : Int) != (m : Int)) = true := by rw [bne_iff_ne]; have := HNN.out; omega
        have d4 : ((z : Int) == (m : Int)) = false := by rw [beq_eq_false_iff_ne]; have := HNN.out; omega
        have d5 : (z == m) = false := by rw [beq_eq_false_iff_ne]; have := HNN.out; omega
        have hn3 := Lib.hid (HE1.out.trans (if_pos h5))
        have ha3 := Lib.hid (HAA.out.trans (if_neg (by rw [hn3.out]; decide)))
        clear h5 HE1 HAA hz
        go_wp2_with fail
        go_ret2
        exact ⟨by rw [hn3.out, ha3.out]; rfl, by rw [HW.out]; exact BEL.out⟩
      have HE2 := Lib.hid (HE1.out.trans (if_neg h5))
      obtain rfl : z = m := by have := HNN.out; omega
      clear h5 HE1 hz
      go_upto_region 22 with (fail)
      rw [hN1]
      clear hN1 hz1
      generalize hcc : ckV l = cc at *
      clear hcc
      by_cases hck : cc = c
      case neg =>
        have d8 : ((cc : Int) == (c : Int)) = false := by rw [beq_eq_false_iff_ne]; omega
        have d9 : (cc == c) = false := by rw [beq_eq_false_iff_ne]; exact hck
        have hn3 := Lib.hid (HE2.out.trans (if_pos hck))
        have ha3 := Lib.hid (HAA.out.trans (if_neg (by rw [hn3.out]; decide)))
        clear HE2 HAA hck
        go_wp2_with (go_at_call 21; refine (HCK.out wr HI2.out).mono ?_; rintro e w2 ⟨rfl, rfl⟩)
        go_ret2
        exact ⟨by rw [hn3.out, ha3.out]; rfl, by rw [HW.out]; exact BEL.out⟩
      have HE3 := Lib.hid (HE2.out.trans (if_neg (fun h => h hck)))
      subst hck
      clear HE2
      obtain ⟨j0, ji, jz0, jz1, jz2⟩ := info_parts info_byte
      have JI := Lib.hid ji
      have JZ0 := Lib.hid jz0
      have JZ1 := Lib.hid jz1
      have JZ2 := Lib.hid jz2
      clear ji jz0 jz1 jz2
      go_upto_region 24 with (go_at_call 21; refine (HCK.out wr HI2.out).mono ?_; rintro e w2 ⟨rfl, rfl⟩)
      go_upto_region 25 with (refine wpList_make_row _ rfl _ _ 35 rfl 5 j0 (.int .u8 0) Try.underlying35 JI.out JZ0.out JZ1.out rfl .i64 .i64 N rfl rfl (by rw [JZ2.out]; omega) (by omega) ?_)
      rw [made_bytesF]
      generalize hR : wr.heap.size = R at *
      have HR := Lib.hid hR
      clear hR
      refine wp_abs (fun w4 => Below R wr w4 ∧ w4.heap[R]? = some (.cells (Lib.byteCells (oB l N 0)).toArray 5 (0, 0))) ⟨by rw [← HR.out]; exact (Below.refl _ _).alloc (Nat.le_refl _) _, by rw [← HR.out, oB_zero]; exact heap_at rfl⟩ (fun w4 hw4 => ?_)
      obtain ⟨bel4, hR4⟩ := hw4
      go_upto_region 26 with (fail)
      go_loopw [11] (fun i wi => ∃ k : Nat, k ≤ 5 * z ∧ i = .int .i64 k ∧ wi.heap[R]? = some (.cells (Lib.byteCells (oB l N k)).toArray 5 (0, 0)) ∧ Below R wr wi ∧ (8 * N ≤ k → pB (bV l) (8 * N) (k - 8 * N) = 0)) (fun i _ => 5 * z - (intOf i).toNat)
      case atStart => exact ⟨0, by omega, rfl, hR4, bel4, fun h => by rw [show 0 - 8 * N = 0 by omega]; rfl⟩
      case round =>
      obtain ⟨k, hk, rfl, hRk, bel, hrest⟩ := hrel
      clear hR4 bel4
      by_cases hlt : k < 5 * z
      · have dk : decide ((k : Int) < 5 * (z : Int)) = true := decide_eq_true (by omega)
        obtain ⟨q, hq⟩ : ∃ q, q = k / 5 := ⟨_, rfl⟩
        obtain ⟨r, hr⟩ : ∃ r, r = k % 5 := ⟨_, rfl⟩
        obtain ⟨s, hs⟩ : ∃ s, s = 4 - r := ⟨_, rfl⟩
        obtain ⟨p, hp⟩ : ∃ p, p = k / 8 := ⟨_, rfl⟩
        have hqi : (k : Int) / 5 = (q : Int) := by omega
        have hri : (k : Int) % 5 = (r : Int) := by omega
        have hsi : (4 : Int) - (r : Int) = (s : Int) := by omega
        have hpi : (k : Int) / 8 = (p : Int) := by omega
        have hqz : q < l.length := by have := HM.out; omega
        have hqm : (q : Int) < (z : Int) := by have := HM.out; omega
        obtain ⟨a1, h1, hab, hac⟩ := HI2.out.cells q hqz
        cases h1
        rw [HR.out] at hab
        have hac2 : wr.cell? (a.add q) = some (.int .i64 (l[q] : Int)) := by rw [bel.cell (p := a.add q) (by rw [addr_block]; exact hab)]; exact hac
        have hx32 := HL32.out _ (List.getElem_mem hqz)
        have hbV := Lib.hid (show bV l k = l[q] / 2 ^ s % 2 by
          unfold bV
          rw [← hq, ← hr, ← hs, List.getD_eq_getElem?_getD, List.getElem?_eq_getElem hqz]; rfl)
        have hb2 := bV_lt l k
        have HQ := Lib.hid hq
        have HP := Lib.hid hp
        have HRK := Lib.hid hRk
        have BL := Lib.hid bel
        have HRS := Lib.hid hrest
        clear hq hr hs hp hac hRk bel hrest
        generalize l[q] = x at *
        go_upto_region 30 with (fail)
        clear hac2 hqi
        go_loop [12, 13] (fun v j => ∃ t : Nat, t ≤ s ∧ v = .int .i64 ((x / 2 ^ t : Nat) : Int) ∧ j = .int .i64 t) (fun _ j => s - (intOf j).toNat)
        case atStart => exact ⟨0, by omega, by rw [Nat.pow_zero, Nat.div_one], rfl⟩
        case round =>
        obtain ⟨t, ht, rfl, rfl⟩ := hrel
        have hy2 := Lib.hid (show x / 2 ^ (t + 1) = x / 2 ^ t / 2 by rw [Nat.pow_succ, Nat.div_div_eq_div_mul])
        have hyx : x / 2 ^ t < 32 := Nat.lt_of_le_of_lt (Nat.div_le_self _ _) hx32
        by_cases hts : t < s
        · have dt : decide ((t : Int) < (s : Int)) = true := decide_eq_true (by omega)
          have dt2 : decide (t < s) = true := decide_eq_true hts
          generalize x / 2 ^ t = y at *
          go_wp2_with fail
          go_round
          case rel => exact ⟨t + 1, by omega, by rw [hy2.out]; congr 1, by go_num⟩
          case measure => simp [intOf]; omega
        · have dt : decide ((t : Int) < (s : Int)) = false := decide_eq_false (by omega)
          have dt2 : decide (t < s) = false := decide_eq_false hts
          obtain rfl : t = s := by omega
          generalize x / 2 ^ t = y at *
          clear hy2
          obtain ⟨bb, hbb⟩ : ∃ bb, bb = bV l k := ⟨_, rfl⟩
          rw [← hbb] at hbV hb2
          have hbi : (y : Int) % 2 = (bb : Int) := by have := hbV.out; omega
          have HBB := Lib.hid hbb
          clear hbb hbV hts
          by_cases hpN : p < N
          · have dp : decide ((p : Int) < (N : Int)) = true := decide_eq_true (by omega)
            have dp2 : decide (p < N) = true := decide_eq_true hpN
            have hoL := length_oB l N k
            have hcell := cell_bytesF HRK.out p (by rw [hoL]; exact hpN)
            have hu : ((oB l N k)[p]'(by rw [hoL]; exact hpN)).toNat = pB (bV l) (8 * (k / 8)) (k % 8) := by
              have := oB_get l N k (by rw [← HP.out]; exact hpN)
              rw [← this]
              congr 1
              simp only [HP.out]
            have hst := oB_step l N k (by rw [← HP.out]; exact hpN)
            rw [hu] at hcell
            have hub : pB (bV l) (8 * (k / 8)) (k % 8) < 128 := Nat.lt_of_lt_of_le (pB_lt (bV_lt l) _ _) (Nat.le_trans (Nat.pow_le_pow_right (by decide) (by omega : k % 8 ≤ 7)) (by decide))
            rw [← HP.out, ← HBB.out] at hst
            rw [← HP.out] at hcell hub
            have HST := Lib.hid hst
            have hfz := frozen_of_row wr R p _ _ HRK.out
            generalize pB (bV l) (8 * p) (k % 8) = u at *
            have hpNi : (p : Int) < (N : Int) := by omega
            clear hu hst hoL
            go_upto_region 27 with (fail)
            refine wp_abs (fun w6 => w6.heap[R]? = some (.cells (Lib.byteCells (oB l N (k + 1))).toArray 5 (0, 0)) ∧ Only R wr w6) ⟨by
              rw [HST.out]
              have e := set_bytesF HRK.out p (UInt8.ofNat (2 * u + bb))
              have e2 : ((UInt8.ofNat (2 * u + bb)).toNat : Int) = 2 * (u : Int) + (bb : Int) := by
                rw [UInt8.toNat_ofNat']; omega
              rw [e2] at e
              exact e, (Only.refl R wr).setCell _ _⟩ (fun w6 hw6 => ?_)
            have BEL6 := Lib.hid (bel_only BL.out hw6.2 (Nat.le_refl _))
            have HR6 := Lib.hid hw6.1
            have hrs := Lib.hid (show 8 * N ≤ k + 1 → pB (bV l) (8 * N) (k + 1 - 8 * N) = 0 from fun h => by
              have : k + 1 - 8 * N = 0 := by have := HP.out; omega
              rw [this]; rfl)
            clear hw6 hcell hfz
            go_wp2_with fail
            go_roundw
            case rel => exact ⟨k + 1, by omega, by go_num, HR6.out, BEL6.out, hrs.out⟩
            case measure => simp [intOf]; omega
          · have dp : decide ((p : Int) < (N : Int)) = false := decide_eq_false (by omega)
            have dp2 : decide (p < N) = false := decide_eq_false hpN
            have h8 : 8 * N ≤ k := by have := HP.out; omega
            have hN5 : N = 5 * l.length / 8 := by rw [HNN.out, HM.out]
            by_cases hb1 : bb = 1
            · have hrne := rest_bit l HAL.out N k hN5 h8 (by rw [← HM.out]; omega) (by rw [← HBB.out]; exact hb1)
              have hn3 := Lib.hid (HE3.out.trans (if_pos hrne))
              have ha3 := Lib.hid (HAA.out.trans (if_neg (by rw [hn3.out]; decide)))
              have BELF := Lib.hid (BEL.out.trans (BL.out.mono (by have := BEL.out.size; rw [HW.out, HR.out] at this; exact this)))
              subst hb1
              clear hrne HE3 HAA hN5 h8
              go_wp2_with fail
              go_ret2
              exact ⟨by rw [hn3.out, ha3.out]; rfl, by rw [HW.out]; exact BELF.out⟩
            · have hb0 : bb = 0 := by omega
              have hrs := Lib.hid (show 8 * N ≤ k + 1 → pB (bV l) (8 * N) (k + 1 - 8 * N) = 0 from fun _ => rest_next l N k h8 (HRS.out h8) (by rw [← HBB.out]; exact hb0))
              have hR6 := Lib.hid (show wr.heap[R]? = some (.cells (Lib.byteCells (oB l N (k + 1))).toArray 5 (0, 0)) by rw [oB_more l N k h8]; exact HRK.out)
              subst hb0
              clear hb1 hN5 h8
              go_wp2_with fail
              go_roundw
              case rel => exact ⟨k + 1, by omega, by go_num, hR6.out, BL.out, hrs.out⟩
              case measure => simp [intOf]; omega
      · have dk : decide ((k : Int) < 5 * (z : Int)) = false := decide_eq_false (by omega)
        obtain rfl : k = 5 * z := by omega
        have hN5 : N = 5 * l.length / 8 := by rw [HNN.out, HM.out]
        obtain ⟨hO, hRV⟩ := oB_done l HAL.out N hN5
        rw [← HM.out] at hO hRV
        have h0 := hrest (by have := HNN.out; omega)
        have hn3 := Lib.hid (HE3.out.trans (if_neg (fun h => h (hRV.trans h0))))
        have ha3 := Lib.hid (HAA.out.trans (if_pos hn3.out))
        have hlO := length_oB l N (5 * z)
        have hrange : wr.rangeAt R 0 (Lib.byteCells (oB l N (5 * z))) := rangeAt_block hRk
        rw [hO] at hrange hlO
        have HRG := Lib.hid hrange
        have BELF := Lib.hid (BEL.out.trans (bel.mono (by have := BEL.out.size; rw [HW.out, HR.out] at this; exact this)))
        rw [← ha3.out] at HRG hlO
        have HLO := Lib.hid hlO
        clear hrange hlO h0 hRV hO hN5 hlt hrest hRk bel HE3 HAA
        go_wp2_with (refine wpList_bytes_back rfl _ 35 9 5 rfl Try.underlying35 Try.underlying5 Try.underlying9 R N N A HLO.out.symm rfl HRG.out ?_)
        go_ret2
        exact ⟨by rw [hn3.out]; rfl, by rw [HW.out]; exact BELF.out⟩
end Go.Proofs.Ytohemcdcmlngiaa
