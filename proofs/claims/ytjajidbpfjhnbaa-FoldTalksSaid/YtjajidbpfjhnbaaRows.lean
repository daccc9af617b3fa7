/-
  No cell of these rows narrows 'for every input' (looked for: loops, veiled, ifaces, maps, wideKeys, modest, calm, conditions, laid).
  DERIVED. THE GIVEN ROWS OF THIS SEAT. 8 by the template 'for every input the law returns true; each argument reads behind the call as it read before'; 0 by the template 'total and deterministic' (their statements: YtjajidbpfjhnbaaTotals.lean).
  GIVEN WITH THE SEED: the statements are not yours to turn. If you find one false, say at which input.
  Laid BY PROGRAM, IN A SANDBOX (cutbox-rows.mjs): the forced cells as the released guide's own fill.sh prints them over the translation 92144f27bcbeefb8… (all of the seat's roots in one cut). By AI agents, Wed Nov 11 2026. No macro, syntax, notation, axiom, sorry.
-/
import Derived.Test.YtjajidbpfjhnbaaChecked
import GoSem.Claim
import GoSem.ClaimJoined
import GoSem.ClaimMapViews
import Derived.JoinedTies
import Derived.KernelRfl
namespace Go.Proofs.Ytjajidbpfjhnbaa
/- THE CELL 'sum', in the pinned program and in every row, IS THE sha256 OF THE DUMP (.gsa) THAT YtjajidbpfjhnbaaProg.lean LOADS. Nothing in Lean hashes anything: it is a label: what it is worth is what the hold of that sum in a sandbox is worth. -/
noncomputable def Try.pinned : Pinned := { name := "ytjajidbpfjhnbaa", sum := "92144f27bcbeefb8963b76f1c82ba09b5ff63a2e943668322e794e965ba4af28", checked := Try.checked }
namespace Rows
def none {H : Type} : Left H := { results := [], args := [] }

/-- 'hustingslaw1.FoldPresses': WHATEVER THE INPUT: true; the input reads as it did. -/
def foldPressesSpec : ChangeSpec := { name := "foldPresses", fn := fun _ => fun
  | [d1, d2, d3, d4] => { results := [.lit (.bool true)], args := [d1, d2, d3, d4] }
  | _ => none }
def foldPressesRow : OpenClaim := { program := "ytjajidbpfjhnbaa", sum := "92144f27bcbeefb8963b76f1c82ba09b5ff63a2e943668322e794e965ba4af28", func := "hustings/hustingslaw1.FoldPresses", spec := "foldPresses", apart := false }
def FoldPressesSaid : Prop := foldPressesRow.holds Try.pinned (OpenSpec.ofChange foldPressesSpec)

/-- ITS FALSE NEIGHBOUR: 'it returns false'. Refute it at one input. -/
def foldPressesWrong : ChangeSpec := { name := "foldPresses", fn := fun _ => fun
  | [d1, d2, d3, d4] => { results := [.lit (.bool false)], args := [d1, d2, d3, d4] }
  | _ => none }
def FoldPressesWrongFalsely : Prop := foldPressesRow.holds Try.pinned (OpenSpec.ofChange foldPressesWrong)

/-- 'hustingslaw1.FoldStirs': WHATEVER THE INPUT: true; the input reads as it did. -/
def foldStirsSpec : ChangeSpec := { name := "foldStirs", fn := fun _ => fun
  | [d1, d2] => { results := [.lit (.bool true)], args := [d1, d2] }
  | _ => none }
def foldStirsRow : OpenClaim := { program := "ytjajidbpfjhnbaa", sum := "92144f27bcbeefb8963b76f1c82ba09b5ff63a2e943668322e794e965ba4af28", func := "hustings/hustingslaw1.FoldStirs", spec := "foldStirs", apart := false }
def FoldStirsSaid : Prop := foldStirsRow.holds Try.pinned (OpenSpec.ofChange foldStirsSpec)

/-- ITS FALSE NEIGHBOUR: 'it returns false'. Refute it at one input. -/
def foldStirsWrong : ChangeSpec := { name := "foldStirs", fn := fun _ => fun
  | [d1, d2] => { results := [.lit (.bool false)], args := [d1, d2] }
  | _ => none }
def FoldStirsWrongFalsely : Prop := foldStirsRow.holds Try.pinned (OpenSpec.ofChange foldStirsWrong)

/-- 'hustingslaw1.FoldBack': WHATEVER THE INPUT: true; the input reads as it did. -/
def foldBackSpec : ChangeSpec := { name := "foldBack", fn := fun _ => fun
  | [d1, d2, d3] => { results := [.lit (.bool true)], args := [d1, d2, d3] }
  | _ => none }
def foldBackRow : OpenClaim := { program := "ytjajidbpfjhnbaa", sum := "92144f27bcbeefb8963b76f1c82ba09b5ff63a2e943668322e794e965ba4af28", func := "hustings/hustingslaw1.FoldBack", spec := "foldBack", apart := false }
def FoldBackSaid : Prop := foldBackRow.holds Try.pinned (OpenSpec.ofChange foldBackSpec)

/-- ITS FALSE NEIGHBOUR: 'it returns false'. Refute it at one input. -/
def foldBackWrong : ChangeSpec := { name := "foldBack", fn := fun _ => fun
  | [d1, d2, d3] => { results := [.lit (.bool false)], args := [d1, d2, d3] }
  | _ => none }
def FoldBackWrongFalsely : Prop := foldBackRow.holds Try.pinned (OpenSpec.ofChange foldBackWrong)

/-- 'hustingslaw1.FoldDigests': WHATEVER THE INPUT: true; the input reads as it did. -/
def foldDigestsSpec : ChangeSpec := { name := "foldDigests", fn := fun _ => fun
  | [d1, d2] => { results := [.lit (.bool true)], args := [d1, d2] }
  | _ => none }
def foldDigestsRow : OpenClaim := { program := "ytjajidbpfjhnbaa", sum := "92144f27bcbeefb8963b76f1c82ba09b5ff63a2e943668322e794e965ba4af28", func := "hustings/hustingslaw1.FoldDigests", spec := "foldDigests", apart := false }
def FoldDigestsSaid : Prop := foldDigestsRow.holds Try.pinned (OpenSpec.ofChange foldDigestsSpec)

/-- ITS FALSE NEIGHBOUR: 'it returns false'. Refute it at one input. -/
def foldDigestsWrong : ChangeSpec := { name := "foldDigests", fn := fun _ => fun
  | [d1, d2] => { results := [.lit (.bool false)], args := [d1, d2] }
  | _ => none }
def FoldDigestsWrongFalsely : Prop := foldDigestsRow.holds Try.pinned (OpenSpec.ofChange foldDigestsWrong)

/-- 'hustingslaw1.FoldTags': WHATEVER THE INPUT: true; the input reads as it did. -/
def foldTagsSpec : ChangeSpec := { name := "foldTags", fn := fun _ => fun
  | [d1, d2] => { results := [.lit (.bool true)], args := [d1, d2] }
  | _ => none }
def foldTagsRow : OpenClaim := { program := "ytjajidbpfjhnbaa", sum := "92144f27bcbeefb8963b76f1c82ba09b5ff63a2e943668322e794e965ba4af28", func := "hustings/hustingslaw1.FoldTags", spec := "foldTags", apart := false }
def FoldTagsSaid : Prop := foldTagsRow.holds Try.pinned (OpenSpec.ofChange foldTagsSpec)

/-- ITS FALSE NEIGHBOUR: 'it returns false'. Refute it at one input. -/
def foldTagsWrong : ChangeSpec := { name := "foldTags", fn := fun _ => fun
  | [d1, d2] => { results := [.lit (.bool false)], args := [d1, d2] }
  | _ => none }
def FoldTagsWrongFalsely : Prop := foldTagsRow.holds Try.pinned (OpenSpec.ofChange foldTagsWrong)

/-- 'hustingslaw1.FoldTalks': WHATEVER THE INPUT: true; the input reads as it did. -/
def foldTalksSpec : ChangeSpec := { name := "foldTalks", fn := fun _ => fun
  | [d1, d2] => { results := [.lit (.bool true)], args := [d1, d2] }
  | _ => none }
def foldTalksRow : OpenClaim := { program := "ytjajidbpfjhnbaa", sum := "92144f27bcbeefb8963b76f1c82ba09b5ff63a2e943668322e794e965ba4af28", func := "hustings/hustingslaw1.FoldTalks", spec := "foldTalks", apart := false }
def FoldTalksSaid : Prop := foldTalksRow.holds Try.pinned (OpenSpec.ofChange foldTalksSpec)

/-- ITS FALSE NEIGHBOUR: 'it returns false'. Refute it at one input. -/
def foldTalksWrong : ChangeSpec := { name := "foldTalks", fn := fun _ => fun
  | [d1, d2] => { results := [.lit (.bool false)], args := [d1, d2] }
  | _ => none }
def FoldTalksWrongFalsely : Prop := foldTalksRow.holds Try.pinned (OpenSpec.ofChange foldTalksWrong)

/-- 'hustingslaw1.FoldStreams': WHATEVER THE INPUT: true; the input reads as it did. -/
def foldStreamsSpec : ChangeSpec := { name := "foldStreams", fn := fun _ => fun
  | [d1, d2, d3] => { results := [.lit (.bool true)], args := [d1, d2, d3] }
  | _ => none }
def foldStreamsRow : OpenClaim := { program := "ytjajidbpfjhnbaa", sum := "92144f27bcbeefb8963b76f1c82ba09b5ff63a2e943668322e794e965ba4af28", func := "hustings/hustingslaw1.FoldStreams", spec := "foldStreams", inPlace := ["internal/abi.NoEscape"], apart := false }
def FoldStreamsSaid : Prop := foldStreamsRow.holds Try.pinned (OpenSpec.ofChange foldStreamsSpec)

/-- ITS FALSE NEIGHBOUR: 'it returns false'. Refute it at one input. -/
def foldStreamsWrong : ChangeSpec := { name := "foldStreams", fn := fun _ => fun
  | [d1, d2, d3] => { results := [.lit (.bool false)], args := [d1, d2, d3] }
  | _ => none }
def FoldStreamsWrongFalsely : Prop := foldStreamsRow.holds Try.pinned (OpenSpec.ofChange foldStreamsWrong)

/-- 'hustingslaw1.FoldBegins': WHATEVER THE INPUT: true; the input reads as it did. -/
def foldBeginsSpec : ChangeSpec := { name := "foldBegins", fn := fun _ => fun
  | [d1, d2, d3, d4] => { results := [.lit (.bool true)], args := [d1, d2, d3, d4] }
  | _ => none }
def foldBeginsRow : OpenClaim := { program := "ytjajidbpfjhnbaa", sum := "92144f27bcbeefb8963b76f1c82ba09b5ff63a2e943668322e794e965ba4af28", func := "hustings/hustingslaw1.FoldBegins", spec := "foldBegins", inPlace := ["internal/abi.NoEscape"], apart := false }
def FoldBeginsSaid : Prop := foldBeginsRow.holds Try.pinned (OpenSpec.ofChange foldBeginsSpec)

/-- ITS FALSE NEIGHBOUR: 'it returns false'. Refute it at one input. -/
def foldBeginsWrong : ChangeSpec := { name := "foldBegins", fn := fun _ => fun
  | [d1, d2, d3, d4] => { results := [.lit (.bool false)], args := [d1, d2, d3, d4] }
  | _ => none }
def FoldBeginsWrongFalsely : Prop := foldBeginsRow.holds Try.pinned (OpenSpec.ofChange foldBeginsWrong)

/- THE SECOND FORM. 'bulk': how many values and letters a reading holds, each counted each time it is reached (what is shared counts as often as it is met; a slice's spare places count too). A statement '..UptoSaid' is the law's where the arguments, and the package variables that the reading takes, are together of bulk at most 1048576: NARROWER than '..Said'. Prove '..Said' where nothing that the law and all that it calls make is longer than what came in: it says more and counts as full. Else prove '..UptoSaid'. A law counts once. -/
mutual
def uptoBulk {H : Type} : DataW H → Nat
  | .lit (.string bytes) => bytes.length + 1
  | .lit _ => 1
  | .nil => 1
  | .ptr d => uptoBulk d + 1
  | .slice elems spare => uptoBulkAll elems + uptoBulkAll spare + 1
  | .agg parts => uptoBulkAll parts + 1
  | .iface _ d => uptoBulk d + 1
  | .map entries => uptoBulkEntries entries + 1
  | .held _ => 1
def uptoBulkAll {H : Type} : List (DataW H) → Nat
  | [] => 0
  | d :: r => uptoBulk d + uptoBulkAll r
def uptoBulkEntries {H : Type} : List (Lit × DataW H) → Nat
  | [] => 0
  | x :: r => uptoBulkEntry x + uptoBulkEntries r
def uptoBulkEntry {H : Type} : Lit × DataW H → Nat
  | (.string bytes, d) => bytes.length + uptoBulk d + 1
  | (_, d) => uptoBulk d + 1
 end
def uptoSmall : (H : Type) → List (DataW H) → Bool := fun _ ds => decide (uptoBulkAll ds ≤ 1048576)
def OpenSpec.upto (s : _root_.Go.ChangeSpec) : _root_.Go.OpenSpec := { _root_.Go.OpenSpec.ofChange s with cond := some uptoSmall }

/-- 'hustingslaw1.FoldPresses', WHERE WHAT IT READS IS OF BULK AT MOST 1048576: true; the input reads as it did. -/
def foldPressesUptoRow : OpenClaim := { program := "ytjajidbpfjhnbaa", sum := "92144f27bcbeefb8963b76f1c82ba09b5ff63a2e943668322e794e965ba4af28", func := "hustings/hustingslaw1.FoldPresses", spec := "foldPresses", apart := false, narrowed := true }
def FoldPressesUptoSaid : Prop := foldPressesUptoRow.holds Try.pinned (OpenSpec.upto foldPressesSpec)

/-- 'hustingslaw1.FoldStirs', WHERE WHAT IT READS IS OF BULK AT MOST 1048576: true; the input reads as it did. -/
def foldStirsUptoRow : OpenClaim := { program := "ytjajidbpfjhnbaa", sum := "92144f27bcbeefb8963b76f1c82ba09b5ff63a2e943668322e794e965ba4af28", func := "hustings/hustingslaw1.FoldStirs", spec := "foldStirs", apart := false, narrowed := true }
def FoldStirsUptoSaid : Prop := foldStirsUptoRow.holds Try.pinned (OpenSpec.upto foldStirsSpec)

/-- 'hustingslaw1.FoldBack', WHERE WHAT IT READS IS OF BULK AT MOST 1048576: true; the input reads as it did. -/
def foldBackUptoRow : OpenClaim := { program := "ytjajidbpfjhnbaa", sum := "92144f27bcbeefb8963b76f1c82ba09b5ff63a2e943668322e794e965ba4af28", func := "hustings/hustingslaw1.FoldBack", spec := "foldBack", apart := false, narrowed := true }
def FoldBackUptoSaid : Prop := foldBackUptoRow.holds Try.pinned (OpenSpec.upto foldBackSpec)

/-- 'hustingslaw1.FoldDigests', WHERE WHAT IT READS IS OF BULK AT MOST 1048576: true; the input reads as it did. -/
def foldDigestsUptoRow : OpenClaim := { program := "ytjajidbpfjhnbaa", sum := "92144f27bcbeefb8963b76f1c82ba09b5ff63a2e943668322e794e965ba4af28", func := "hustings/hustingslaw1.FoldDigests", spec := "foldDigests", apart := false, narrowed := true }
def FoldDigestsUptoSaid : Prop := foldDigestsUptoRow.holds Try.pinned (OpenSpec.upto foldDigestsSpec)

/-- 'hustingslaw1.FoldTags', WHERE WHAT IT READS IS OF BULK AT MOST 1048576: true; the input reads as it did. -/
def foldTagsUptoRow : OpenClaim := { program := "ytjajidbpfjhnbaa", sum := "92144f27bcbeefb8963b76f1c82ba09b5ff63a2e943668322e794e965ba4af28", func := "hustings/hustingslaw1.FoldTags", spec := "foldTags", apart := false, narrowed := true }
def FoldTagsUptoSaid : Prop := foldTagsUptoRow.holds Try.pinned (OpenSpec.upto foldTagsSpec)

/-- 'hustingslaw1.FoldTalks', WHERE WHAT IT READS IS OF BULK AT MOST 1048576: true; the input reads as it did. -/
def foldTalksUptoRow : OpenClaim := { program := "ytjajidbpfjhnbaa", sum := "92144f27bcbeefb8963b76f1c82ba09b5ff63a2e943668322e794e965ba4af28", func := "hustings/hustingslaw1.FoldTalks", spec := "foldTalks", apart := false, narrowed := true }
def FoldTalksUptoSaid : Prop := foldTalksUptoRow.holds Try.pinned (OpenSpec.upto foldTalksSpec)

/-- 'hustingslaw1.FoldStreams', WHERE WHAT IT READS IS OF BULK AT MOST 1048576: true; the input reads as it did. -/
def foldStreamsUptoRow : OpenClaim := { program := "ytjajidbpfjhnbaa", sum := "92144f27bcbeefb8963b76f1c82ba09b5ff63a2e943668322e794e965ba4af28", func := "hustings/hustingslaw1.FoldStreams", spec := "foldStreams", inPlace := ["internal/abi.NoEscape"], apart := false, narrowed := true }
def FoldStreamsUptoSaid : Prop := foldStreamsUptoRow.holds Try.pinned (OpenSpec.upto foldStreamsSpec)

/-- 'hustingslaw1.FoldBegins', WHERE WHAT IT READS IS OF BULK AT MOST 1048576: true; the input reads as it did. -/
def foldBeginsUptoRow : OpenClaim := { program := "ytjajidbpfjhnbaa", sum := "92144f27bcbeefb8963b76f1c82ba09b5ff63a2e943668322e794e965ba4af28", func := "hustings/hustingslaw1.FoldBegins", spec := "foldBegins", inPlace := ["internal/abi.NoEscape"], apart := false, narrowed := true }
def FoldBeginsUptoSaid : Prop := foldBeginsUptoRow.holds Try.pinned (OpenSpec.upto foldBeginsSpec)

end Rows
end Go.Proofs.Ytjajidbpfjhnbaa
