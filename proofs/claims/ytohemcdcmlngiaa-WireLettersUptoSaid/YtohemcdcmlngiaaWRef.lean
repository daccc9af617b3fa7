/-
  Chapter 4, the reference: bit, check, values.
-/
import Derived.Test.YtohemcdcmlngiaaWVal
import Derived.Test.YtohemcdcmlngiaaNMem
import Derived.OwnWalk
import Derived.WalkKit
import Derived.Deep.RegionWith
namespace Go.Proofs.Ytohemcdcmlngiaa
set_option linter.unusedVariables false
set_option linter.unusedSimpArgs false
open Go.RowKit ML FM WL

theorem info_int : (Try.prog.info? 3).map (fun i => (i.zero, i.size, i.bytes)) = some (some (.int .i64 0), 1, 8) := by kernel_rfl
theorem news_nvals (w : World) (news : List Nat) (t : TypeId) (n : Nat) (hn : w.heap.size = n) : ∀ j u, (nvals news)[j]? = some u → (w.alloc (.cells (nvals news).toArray t)).cell? ((⟨n, 0, none⟩ : Addr).add j) = some u := news_new w (nvals news) t n hn
theorem strBN (T : Bytes) (i : Nat) (h : i < (ByteArray.mk T.toArray).size) : (((ByteArray.mk T.toArray)[i]'h).toNat : Int) = (byteN T i : Int) := by
  have h2 : i < T.length := by simpa [ByteArray.size] using h
  unfold byteN
  rw [List.getD_eq_getElem?_getD, List.getElem?_eq_getElem h2]
  rfl
set_option maxHeartbeats 4000000 in
set_option maxRecDepth 100000 in
theorem refBit_any (B : Bytes) (i : Nat) (w : World) (hB : B.length < 9223372036854775808) (hi : i < 9223372036854775808) :
    Calls Try.prog 29 #[.string ⟨B.toArray⟩, .int .i64 (i : Int)] w fun e w' => e = .returned (.int .i64 ((bitN B i : Nat) : Int)) ∧ w = w' := by
  obtain ⟨q, hq⟩ : ∃ q, q = i / 8 := ⟨_, rfl⟩
  obtain ⟨r, hr⟩ : ∃ r, r = i % 8 := ⟨_, rfl⟩
  have hqi : (i : Int) / 8 = (q : Int) := by omega
  have hri : (i : Int) % 8 = (r : Int) := by omega
  have hr8 : r < 8 := by omega
  obtain ⟨R, hR⟩ : ∃ R, R = bitN B i := ⟨_, rfl⟩
  rw [← hR]
  have HR := Lib.hid (show R = if q < B.length then byteN B q / 2 ^ (7 - r) % 2 else 0 by rw [hR, hq, hr]; rfl)
  have hi0 : (0 : Int) ≤ i := by omega
  have hszB := size_mk B
  clear hq hr hR
  go_enter Try.func29, Try.ntmps29
  by_cases h : q < B.length
  · have HR2 := Lib.hid (HR.out.trans (if_pos h))
    have d1 : decide (B.length ≤ q) = false := decide_eq_false (by omega)
    have d2 : decide ((B.length : Int) ≤ (q : Int)) = false := decide_eq_false (by omega)
    have hb := fun hh => strBN B q hh
    have hql : (q : Int) < (B.length : Int) := by omega
    have hx := byteN_lt B q
    clear HR h
    generalize byteN B q = x at *
    go_upto_region 5 with (fail)
    go_loop [5, 6] (fun c k => ∃ j : Nat, j ≤ 7 - r ∧ c = .int .i64 ((x / 2 ^ j : Nat) : Int) ∧ k = .int .i64 j) (fun _ k => 7 - (intOf k).toNat)
    case atStart => exact ⟨0, by omega, by simp, rfl⟩
    case round =>
    obtain ⟨j, hj, rfl, rfl⟩ := hrel
    have e7 : (7 : Int) - (r : Int) = ((7 - r : Nat) : Int) := by omega
    by_cases hlt : j < 7 - r
    · have dl : decide (j < 7 - r) = true := decide_eq_true hlt
      have dl2 : decide ((j : Int) < ((7 - r : Nat) : Int)) = true := decide_eq_true (by omega)
      have hd : ((x / 2 ^ j : Nat) : Int) / 2 = ((x / 2 ^ (j + 1) : Nat) : Int) := by
        rw [Nat.pow_succ, ← Nat.div_div_eq_div_mul]; omega
      have hj7 : j < 7 := by omega
      have hj8 : j + 1 ≤ 7 - r := by omega
      clear hlt hb HR2
      generalize hy2 : x / 2 ^ (j + 1) = y2 at *
      have HY2 := Lib.hid hy2
      clear hy2
      generalize hy : x / 2 ^ j = y at *
      have hyl : y < 256 := by rw [← hy]; exact Nat.lt_of_le_of_lt (Nat.div_le_self _ _) hx
      clear hy
      go_wp2_with fail
      go_round
      case rel => exact ⟨j + 1, hj8, by rw [HY2.out], by go_num⟩
      case measure => simp [intOf]; omega
    · have dl : decide (j < 7 - r) = false := decide_eq_false hlt
      have dl2 : decide ((j : Int) < ((7 - r : Nat) : Int)) = false := decide_eq_false (by omega)
      obtain rfl : j = 7 - r := by omega
      have hy : x / 2 ^ (7 - r) < 256 := Nat.lt_of_le_of_lt (Nat.div_le_self _ _) hx
      have hm : ((x / 2 ^ (7 - r) : Nat) : Int) % 2 = (R : Int) := by rw [HR2.out]; omega
      have HM := Lib.hid hm
      clear HR2 hb hlt
      generalize x / 2 ^ (7 - r) = y at *
      go_wp2_with fail
      go_ret
      exact ⟨by rw [← HM.out]; rfl, rfl⟩
  · have HR2 := Lib.hid (HR.out.trans (if_neg h))
    have d1 : decide (B.length ≤ q) = true := decide_eq_true (by omega)
    have d2 : decide ((B.length : Int) ≤ (q : Int)) = true := decide_eq_true (by omega)
    clear HR h
    go_wp2_with fail
    go_ret
    exact ⟨by rw [HR2.out]; rfl, rfl⟩
set_option maxHeartbeats 4000000 in
set_option maxRecDepth 100000 in
theorem refCheck_any (oa : Option Addr) (L : List Nat) (cap : Nat) (w : World) (h : IntsAt w oa L) (hl : L.length < 9223372036854775808) (hv : ∀ v ∈ L, v < 1000000) :
    Calls Try.prog 21 #[.slice oa L.length cap] w fun e w' => e = .returned (.int .i64 ((ckV L : Nat) : Int)) ∧ w = w' := by
  have H := Lib.hid h
  have HV := Lib.hid hv
  clear h hv
  go_enter Try.func21, Try.ntmps21
  go_upto_region 3 with (fail)
  go_loop [3, 8] (fun n k => ∃ j : Nat, j ≤ L.length ∧ n = .int .i64 ((ckV (L.take j) : Nat) : Int) ∧ k = .int .i64 j) (fun _ k => L.length - (intOf k).toNat)
  case atStart => exact ⟨0, by omega, rfl, rfl⟩
  case round =>
  obtain ⟨j, hj, rfl, rfl⟩ := hrel
  have hck := ckV_lt (L.take j)
  by_cases hlt : j < L.length
  · have dl : decide ((j : Int) < (L.length : Int)) = true := decide_eq_true (by omega)
    have dl2 : decide (j < L.length) = true := decide_eq_true hlt
    obtain ⟨a, hoa, hab, hac⟩ := H.out.cells j hlt
    have hvl := HV.out _ (List.getElem_mem hlt)
    have hji : (j : Int) < (L.length : Int) := by omega
    have hsn : ckV (L.take (j + 1)) = (ckV (L.take j) * 32 + L[j]) % 37 := by rw [List.take_succ_eq_append_getElem hlt, ckV_snoc]
    have hm : (((ckV (L.take j) : Nat) : Int) * 32 + ((L[j] : Nat) : Int)) % 37 = ((ckV (L.take (j + 1)) : Nat) : Int) := by rw [hsn]; omega
    subst hoa
    clear hsn
    generalize hy2 : ckV (L.take (j + 1)) = y2 at *
    have HY2 := Lib.hid hy2
    clear hy2
    generalize ckV (L.take j) = y at *
    generalize L[j] = v at *
    go_wp2_with fail
    go_round
    case rel => exact ⟨j + 1, by omega, by rw [HY2.out, hm], by go_num⟩
    case measure => simp [intOf]; omega
  · have dl : decide ((j : Int) < (L.length : Int)) = false := decide_eq_false (by omega)
    have dl2 : decide (j < L.length) = false := decide_eq_false hlt
    obtain rfl : j = L.length := by omega
    rw [List.take_length]
    go_wp2_with fail
    go_ret
    exact ⟨rfl, rfl⟩
theorem five_step (B : Bytes) (i j : Nat) : 2 * ((five B i j : Nat) : Int) + ((bitN B (i + j) : Nat) : Int) = ((five B i (j + 1) : Nat) : Int) := by simp only [five]; omega
set_option maxHeartbeats 4000000 in
set_option maxRecDepth 100000 in
theorem refValues_any (B : Bytes) (w : World) (hB : B.length < 1000000) :
    Calls Try.prog 20 #[.string ⟨B.toArray⟩] w fun e w' => ∃ v, e = .returned v ∧ w'.ownsRow w.heap.size 3 1 v (valsOf B).length (nvals (valsOf B)) ∧ Below w.heap.size w w' := by
  obtain ⟨i0, hi, hz0, hz1, hz2⟩ := info_parts info_int
  have HI := Lib.hid hi
  have HZ0 := Lib.hid hz0
  have HZ1 := Lib.hid hz1
  have HZ2 := Lib.hid hz2
  clear hi hz0 hz1 hz2
  have hszB := size_mk B
  generalize hW : w.heap.size = W at *
  have HW := Lib.hid hW
  clear hW
  go_enter Try.func20, Try.ntmps20
  go_upto_region 3 with (fail)
  go_loopw [3, 4] (fun v i wr => ∃ (g : Nat) (l : List Nat), 5 * g < 8 * B.length + 5 ∧ i = .int .i64 ((5 * g : Nat) : Int) ∧ RefV B g l ∧ wr.ownsRow W 3 1 v l.length (nvals l) ∧ Below W w wr) (fun _ i _ => 8 * B.length + 5 - (intOf i).toNat)
  case atStart => exact ⟨0, [], by omega, rfl, RefV.nil B, World.ownsRow_nil _ _ _ _, Below.refl _ _⟩
  case round =>
  obtain ⟨g, l, hg, rfl, hV, own, bel⟩ := hrel
  have hWr : W ≤ wr.heap.size := by have := bel.size; rw [HW.out] at this; exact this
  by_cases hlt : 5 * g < 8 * B.length
  · have dl : decide (5 * (g : Int) < 8 * (B.length : Int)) = true := decide_eq_true (by omega)
    have dl3 : decide (((5 * g : Nat) : Int) < 8 * (B.length : Int)) = true := decide_eq_true (by omega)
    obtain ⟨i, hi⟩ : ∃ i, i = 5 * g := ⟨_, rfl⟩
    rw [← hi] at dl3 ⊢
    have hi8 : i < 8 * B.length := by omega
    have HVV := Lib.hid hV
    have HOW := Lib.hid own
    have HBE := Lib.hid bel
    have Hi := Lib.hid hi
    clear hV own bel hi hlt hg dl
    go_upto_region 7 with (fail)
    obtain ⟨wo, rfl⟩ : ∃ wo : World, wo = wr := ⟨_, rfl⟩
    go_loop [5, 6] (fun v k => ∃ j : Nat, j ≤ 5 ∧ v = .int .i64 ((five B i j : Nat) : Int) ∧ k = .int .i64 j) (fun _ k => 5 - (intOf k).toNat)
    case atStart => exact ⟨0, by omega, rfl, rfl⟩
    case round =>
    obtain ⟨j, hj, rfl, rfl⟩ := hrel
    have h5 := five_lt B i j
    by_cases hlt : j < 5
    · have dj : decide ((j : Int) < 5) = true := decide_eq_true (by omega)
      have QB := Lib.hid (fun w => refBit_any B (i + j) w (by omega) (by omega))
      have hij : (i : Int) + (j : Int) = ((i + j : Nat) : Int) := by omega
      have hfs := five_step B i j
      have hbl := bitN_lt B (i + j)
      have h5b : five B i j < 32 := Nat.lt_of_lt_of_le h5 (Nat.le_trans (Nat.pow_le_pow_right (by decide) hj) (by decide))
      clear h5
      have Hj5 := Lib.hid hlt
      generalize hy2 : five B i (j + 1) = y2 at *
      have HY2 := Lib.hid hy2
      generalize five B i j = y at *
      generalize bitN B (i + j) = z at *
      generalize i + j = ij at *
      clear hy2 hlt
      go_wp2_with (go_at_call 29; refine (QB.out _).mono ?_; rintro e w2 ⟨rfl, rfl⟩)
      go_round
      case rel => exact ⟨j + 1, by have := Hj5.out; omega, by rw [HY2.out], by go_num⟩
      case measure => simp [intOf]; have := Hj5.out; omega
    · have dj : decide ((j : Int) < 5) = false := decide_eq_false (by omega)
      obtain rfl : j = 5 := by omega
      have hnx := Lib.hid (by have := HVV.out.next; rwa [← Hi.out] at this : RefV B (g + 1) (l ++ [five B i 5]))
      have hl6 : l.length ≤ 8000000 := by have := Hi.out; have := HVV.out.len; omega
      clear hlt h5 HVV
      generalize five B i 5 = y at *
      go_upto_region 4 with (at_builtin; refine wpList_append_own _ rfl (.tmp 26) (.tmp 28) 45 rfl W 3 i0 (.int .i64 0) 1 8 Try.underlying45 HI.out HZ0.out HZ1.out HZ2.out rfl (by decide) u3 l.length (nvals l) rfl (HOW.out.alloc _) ⟨wo.heap.size, 0, none⟩ 1 1 (nvals [y]) rfl rfl ?c1 ?c2 ?c3 ?c4 ?c5 ?_)
      case c1 => first | exact news_nvals wo [y] _ _ rfl | exact fun j u h => h
      case c2 => exact nvals_one _
      case c3 => unfold maxLen; omega
      case c4 => omega
      case c5 => first | omega | (simp; omega)
      intro v5 w5 own5 hg5 _
      have bel5 : Below W w w5 := (HBE.out.alloc hWr _).grown hg5 (by simp; omega) (fun q hq => (HOW.out.lt q hq).1)
      rw [nvals_append] at own5
      have OWN5 : w5.ownsRow W 3 1 v5 (l ++ [y]).length (nvals (l ++ [y])) := by rw [List.length_append]; exact own5
      have HII := Hi.out
      clear own5 hg5 HOW HBE
      go_wp2_with fail
      go_roundw
      case rel => exact ⟨g + 1, l ++ [y], by omega, by rw [show ((5 * (g + 1) : Nat) : Int) = (i : Int) + 5 by omega]; first | done | go_num, hnx.out, OWN5, bel5⟩
      case measure => simp [intOf]; omega
  · have dl3 : decide (((5 * g : Nat) : Int) < 8 * (B.length : Int)) = false := decide_eq_false (by omega)
    have HL := Lib.hid (hV.done (by omega) hg)
    have Hlt : ¬ 5 * g < 8 * B.length := hlt
    have hg6 : 5 * g < 8000005 := by omega
    clear hlt hV hg Hlt
    generalize 5 * g = i at *
    go_wp2_with fail
    go_ret
    exact ⟨_, rfl, by rw [← HL.out]; exact own, bel⟩
end Go.Proofs.Ytohemcdcmlngiaa
