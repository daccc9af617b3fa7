/-
  FoldTags: Tag answers as the reference.
  Conditions: what is joined is shorter than 2^62.
-/
import Derived.Test.YtjajidbpfjhnbaaFJoined
namespace Go.Proofs.Ytjajidbpfjhnbaa
open Go.RowKit ML FM

set_option maxHeartbeats 4000000 in
set_option maxRecDepth 100000 in
theorem foldTags_core (L : Bytes) (oa : Option Addr) (Ps : List Bytes) (cap : Nat) (w : World) (hs : StrsAt w oa Ps) (hlen : (joinL L Ps).length < 4611686018427387904) (hnl : Ps.length < 9223372036854775807) :
    Calls Try.prog 7 #[.string ⟨L.toArray⟩, .slice oa Ps.length cap] w fun e w' => e = .returned (.bool true) ∧ Below w.heap.size w w' := by
  have Q1 := Lib.hid (Tag_any L oa Ps cap w hs (by omega) hnl)
  have Q2 := Lib.hid (fun w (hs : StrsAt w oa Ps) => refTag_any L oa Ps cap w hs hlen hnl)
  have HS := Lib.hid hs
  clear hs hlen
  generalize digestL [] (joinL L Ps) = D0 at *
  go_enter Try.func7, Try.ntmps7
  go_wp2_with (first
    | (go_at_call 21; refine Q1.out.mono ?_; rintro e w1 ⟨rfl, hb1⟩)
    | (go_at_call 22; refine (Q2.out w1 (HS.out.below hb1)).mono ?_; rintro e w2 ⟨rfl, hb2⟩))
  go_ret
  exact ⟨rfl, hb1.trans (hb2.mono hb1.size)⟩
end Go.Proofs.Ytjajidbpfjhnbaa
