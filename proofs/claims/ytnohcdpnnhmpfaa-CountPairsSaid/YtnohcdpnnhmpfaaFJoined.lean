/-
  The reference's Joined and Tag.
-/
import Derived.Test.YtnohcdpnnhmpfaaBFb
import Derived.Test.YtnohcdpnnhmpfaaFRKeyed
namespace Go.Proofs.Ytnohcdpnnhmpfaa
open Go.RowKit ML FM

set_option maxHeartbeats 4000000 in
set_option maxRecDepth 100000 in
theorem refJoined_any (L : Bytes) (oa : Option Addr) (Ps : List Bytes) (cap : Nat) (w : World) (hs : StrsAt w oa Ps) (hlen : (joinL L Ps).length < 9223372036854775808) (hnl : Ps.length < 9223372036854775807) :
    Calls Try.prog 85 #[.string ⟨L.toArray⟩, .slice oa Ps.length cap] w fun e w' => e = .returned (.string ⟨(joinL L Ps).toArray⟩) ∧ Below w.heap.size w w' := by
  have HS := Lib.hid hs
  have HL := Lib.hid hlen
  clear hs hlen
  have hsL := size_mk L
  have h1 := length_joinK_le (L :: Ps) 1
  have e1 : joinK (L :: Ps) 1 = fourN L.length ++ L := by simp [joinK]
  have hll : 4 + L.length < 9223372036854775808 := by
    have := HL.out
    rw [e1, List.length_append, show (fourN L.length).length = 4 from rfl] at h1
    exact Nat.lt_of_le_of_lt h1 this
  have hsF := size_mk (fourN L.length)
  rw [show (fourN L.length).length = 4 from rfl] at hsF
  have QF := Lib.hid (refFour_any L.length w (by omega))
  clear h1
  have E1 := Lib.hid e1
  clear e1
  go_enter Try.func85, Try.ntmps85
  go_upto_region 2 with (go_at_call 105; refine QF.out.mono ?_; rintro e w1 ⟨rfl, hb1⟩)
  rw [append_mk, ← E1.out]
  clear QF hsF hsL
  go_upto_region 3 with (fail)
  go_loopw [5, 15] (fun s i wr => ∃ k : Nat, k ≤ Ps.length ∧ s = .string ⟨(joinK (L :: Ps) (k + 1)).toArray⟩ ∧ i = .int .i64 k ∧ Below w.heap.size w wr) (fun _ i _ => Ps.length - (intOf i).toNat)
  case atStart => exact ⟨0, by omega, rfl, rfl, hb1⟩
  case round =>
  obtain ⟨k, hk, rfl, rfl, bel⟩ := hrel
  clear hb1
  by_cases hlt : k < Ps.length
  · have hd : decide ((k : Int) < (Ps.length : Int)) = true := by simp; omega
    obtain ⟨a, hoa, hab, hac⟩ := (HS.out.below bel).cells k hlt
    obtain ⟨x, hx⟩ : ∃ x, x = Ps[k] := ⟨_, rfl⟩
    rw [← hx] at hac
    have hjl := length_joinK_le (L :: Ps) (k + 1 + 1)
    have hjn := joinK_next (L :: Ps) (k + 1) (by simpa using hlt)
    rw [show (L :: Ps)[k + 1]'(by simpa using hlt) = x by rw [hx]; rfl] at hjn
    have h4 := Lib.hid (show (fourN x.length).length = 4 from rfl)
    have hjl2 : (joinK (L :: Ps) (k + 1)).length + 4 + x.length < 9223372036854775808 := by
      have h1 := HL.out
      rw [hjn, List.length_append, List.length_append, h4.out] at hjl
      exact Nat.lt_of_le_of_lt hjl h1
    have HJN := Lib.hid hjn
    clear hjl hjn hx
    have s1 := size_mk (joinK (L :: Ps) (k + 1))
    have s2 := size_mk (fourN x.length)
    have s3 := size_mk x
    have s4 := size_mk (joinK (L :: Ps) (k + 1) ++ fourN x.length)
    rw [List.length_append, h4.out] at s4
    rw [h4.out] at s2
    have QF := Lib.hid (refFour_any x.length wr (by omega))
    subst hoa
    have am := append_mk (joinK (L :: Ps) (k + 1)) (fourN x.length)
    generalize joinK (L :: Ps) (k + 1) = J at *
    go_upto_region 6 with (go_at_call 105; refine QF.out.mono ?_; rintro e w3 ⟨rfl, hb3⟩)
    rw [append_mk, ← HJN.out]
    have bel3 := bel.trans (hb3.mono bel.size)
    clear QF hac hb3 bel
    go_wp2_with fail
    go_roundw
    case rel => exact ⟨k + 1, by omega, rfl, by go_num, bel3⟩
    case measure => simp [intOf]; omega
  · have hd : decide ((k : Int) < (Ps.length : Int)) = false := by simp; omega
    obtain rfl : k = Ps.length := by omega
    rw [joinK_all]
    go_wp2_with fail
    go_ret
    exact ⟨rfl, bel⟩
set_option maxHeartbeats 1000000 in
set_option maxRecDepth 100000 in
theorem refTag_any (L : Bytes) (oa : Option Addr) (Ps : List Bytes) (cap : Nat) (w : World) (hs : StrsAt w oa Ps) (hlen : (joinL L Ps).length < 4611686018427387904) (hnl : Ps.length < 9223372036854775807) :
    Calls Try.prog 58 #[.string ⟨L.toArray⟩, .slice oa Ps.length cap] w fun e w' => e = .returned (.string ⟨(digestL [] (joinL L Ps)).toArray⟩) ∧ Below w.heap.size w w' := by
  have Q := Lib.hid (refJoined_any L oa Ps cap w hs (by omega) hnl)
  have Q2 := Lib.hid (fun w => refDigest_any (joinL L Ps) w hlen)
  clear hs hlen
  go_enter Try.func58, Try.ntmps58
  go_wp2_with (first
    | (go_at_call 85; refine Q.out.mono ?_; rintro e w1 ⟨rfl, hb1⟩)
    | (go_at_call 84; refine (Q2.out _).mono ?_; rintro e w2 ⟨rfl, hb2⟩))
  go_ret
  exact ⟨rfl, hb1.trans (hb2.mono hb1.size)⟩
end Go.Proofs.Ytnohcdpnnhmpfaa
