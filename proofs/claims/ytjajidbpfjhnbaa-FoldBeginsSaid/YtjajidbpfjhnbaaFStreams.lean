/-
  FoldStreams, FoldBegins: Stream answers as the reference; fewer bytes are the beginning of more.
  Conditions: seed and label are within the reach.
-/
import Derived.Test.YtjajidbpfjhnbaaFStream
import Derived.OpenShut
namespace Go.Proofs.Ytjajidbpfjhnbaa
open Go.RowKit ML FM

set_option maxHeartbeats 4000000 in
set_option maxRecDepth 100000 in
theorem foldStreams_core (S L : Bytes) (n : Int) (w : World) (hS : S.length < 1152921504606846976) (hL : L.length < 1152921504606846976) :
    Calls Try.prog 9 #[.string ⟨S.toArray⟩, .string ⟨L.toArray⟩, .int .i64 n] w fun e w' => e = .returned (.bool true) ∧ Below w.heap.size w w' := by
  have Q1 := Lib.hid (fun w => stream_any S L n w hS hL)
  have Q2 := Lib.hid (fun w => refStream_any S L n w hS hL)
  have hD : (streamOk n = true ∧ streamE n = 0) ∨ (streamOk n = false ∧ streamE n = 4 ∧ streamR S L n = []) := by
    by_cases h : 0 ≤ n ∧ n ≤ 65536
    · exact .inl ⟨decide_eq_true h, if_pos h⟩
    · exact .inr ⟨decide_eq_false h, if_neg h, if_neg h⟩
  clear hS hL
  generalize streamR S L n = D at *
  generalize streamE n = E at *
  generalize streamOk n = ok at *
  go_enter Try.func9, Try.ntmps9
  go_upto_region 3 with (first
    | (go_at_call 30; refine (Q1.out _).mono ?_; rintro e w1 ⟨rfl, hb1⟩)
    | (go_at_call 31; refine (Q2.out _).mono ?_; rintro e w2 ⟨rfl, hb2⟩))
  have bel : Below w.heap.size w w2 := hb1.trans (hb2.mono hb1.size)
  clear Q1 Q2 hb1 hb2
  rcases hD with ⟨rfl, rfl⟩ | ⟨rfl, rfl, rfl⟩
  · go_wp2_with fail
    go_ret
    exact ⟨rfl, bel⟩
  · go_wp2_with fail
    go_ret
    exact ⟨rfl, bel⟩
theorem foldStreams_walk (S L : ByteArray) (n : Int) (w : World) (hS : S.data.toList.length ≤ reachBytes) (hL : L.data.toList.length ≤ reachBytes) (_hn : (Lit.int .i64 n).wf = true) :
    Calls Try.prog 9 #[.string S, .string L, .int .i64 n] w fun e w' => e = .returned (.bool true) ∧ Below w.heap.size w w' :=
  foldStreams_core S.data.toList L.data.toList n w (by unfold reachBytes at hS; omega) (by unfold reachBytes at hL; omega)
set_option maxHeartbeats 4000000 in
set_option maxRecDepth 100000 in
theorem foldBegins_core (S L : Bytes) (n m : Int) (w : World) (hS : S.length < 1152921504606846976) (hL : L.length < 1152921504606846976) :
    Calls Try.prog 10 #[.string ⟨S.toArray⟩, .string ⟨L.toArray⟩, .int .i64 n, .int .i64 m] w fun e w' => e = .returned (.bool true) ∧ Below w.heap.size w w' := by
  go_enter Try.func10, Try.ntmps10
  by_cases hn : n < 0
  · go_wp2_with fail
    go_ret
    exact ⟨rfl, Below.refl _ _⟩
  by_cases hm : m < 0
  · go_wp2_with fail
    go_ret
    exact ⟨rfl, Below.refl _ _⟩
  by_cases hn2 : 65536 < n
  · go_wp2_with fail
    go_ret
    exact ⟨rfl, Below.refl _ _⟩
  by_cases hm2 : 65536 - n < m
  · go_wp2_with fail
    go_ret
    exact ⟨rfl, Below.refl _ _⟩
  obtain ⟨a, rfl⟩ := Int.eq_ofNat_of_zero_le (show 0 ≤ n by omega)
  obtain ⟨c, rfl⟩ := Int.eq_ofNat_of_zero_le (show 0 ≤ m by omega)
  have hac : a + c ≤ 65536 := by omega
  have Q1 : Hid (∀ w, Calls Try.prog 30 #[.string ⟨S.toArray⟩, .string ⟨L.toArray⟩, .int .i64 (a : Int)] w fun e w' => e = .returned (.tuple #[.string ⟨(streamB S L a).toArray⟩, .int .i64 0]) ∧ Below w.heap.size w w') := fun w => by
    have h := stream_any S L (a : Int) w hS hL
    rw [show streamR S L (a : Int) = streamB S L a from if_pos ⟨by omega, by omega⟩, show streamE (a : Int) = 0 from if_pos ⟨by omega, by omega⟩] at h
    exact h
  have Q2 : Hid (∀ w, Calls Try.prog 30 #[.string ⟨S.toArray⟩, .string ⟨L.toArray⟩, .int .i64 ((a : Int) + (c : Int))] w fun e w' => e = .returned (.tuple #[.string ⟨(streamB S L (a + c)).toArray⟩, .int .i64 0]) ∧ Below w.heap.size w w') := fun w => by
    have h := stream_any S L ((a + c : Nat) : Int) w hS hL
    rw [show streamR S L ((a + c : Nat) : Int) = streamB S L (a + c) from if_pos ⟨by omega, by omega⟩, show streamE ((a + c : Nat) : Int) = 0 from if_pos ⟨by omega, by omega⟩] at h
    rw [Int.natCast_add] at h
    exact h
  have s1 := size_mk (streamB S L a)
  have s2 := size_mk (streamB S L (a + c))
  rw [length_streamB] at s1 s2
  have l1 := length_streamB S L a
  have l2 := length_streamB S L (a + c)
  have hbg := streamB_begin S L a c
  have hx := extract_take (streamB S L (a + c)) a
  rw [hbg] at hx
  clear hS hL hbg
  generalize streamB S L a = D1 at *
  generalize streamB S L (a + c) = D2 at *
  have ha0 : (0 : Int) ≤ a := by omega
  have hc0 : (0 : Int) ≤ c := by omega
  have hac2 : (a : Int) + (c : Int) ≤ 65536 := by omega
  go_upto_region 4 with (go_at_call 30; refine (Q1.out _).mono ?_; rintro e w1 ⟨rfl, hb1⟩)
  go_upto_region 5 with (go_at_call 30; refine (Q2.out _).mono ?_; rintro e w2 ⟨rfl, hb2⟩)
  have bel : Below w.heap.size w w2 := hb1.trans (hb2.mono hb1.size)
  clear Q1 Q2 hb1 hb2
  go_wp2_with fail
  go_ret
  exact ⟨rfl, bel⟩
theorem foldBegins_walk (S L : ByteArray) (n m : Int) (w : World) (hS : S.data.toList.length ≤ reachBytes) (hL : L.data.toList.length ≤ reachBytes) (_hn : (Lit.int .i64 n).wf = true) (_hm : (Lit.int .i64 m).wf = true) :
    Calls Try.prog 10 #[.string S, .string L, .int .i64 n, .int .i64 m] w fun e w' => e = .returned (.bool true) ∧ Below w.heap.size w w' :=
  foldBegins_core S.data.toList L.data.toList n m w (by unfold reachBytes at hS; omega) (by unfold reachBytes at hL; omega)
end Go.Proofs.Ytjajidbpfjhnbaa
