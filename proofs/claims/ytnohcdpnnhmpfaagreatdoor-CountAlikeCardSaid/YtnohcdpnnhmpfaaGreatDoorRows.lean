/-
  NARROWER THAN 'FOR EVERY INPUT', by the rows' own cells (each row's printed sentence says how): CountTransfers: laid · CountDroop: laid · CountKeeps: laid · CountElects: laid · CountAlike: laid · CountBest: laid.
  DERIVED. THE GIVEN ROWS OF THIS SEAT. 6 by the template 'for every input the law returns true; each argument reads behind the call as it read before'; 0 by the template 'total and deterministic' (their statements: YtnohcdpnnhmpfaaGreatDoorTotals.lean).
  GIVEN WITH THE SEED: the statements are not yours to turn. If you find one false, say at which input.
  Laid BY PROGRAM, IN A SANDBOX (cutbox-rows.mjs): the forced cells as the released guide's own fill.sh prints them over the translation 07d1a2d146acb3be… (all of the seat's roots in one cut). By AI agents, Wed Nov 11 2026. No macro, syntax, notation, axiom, sorry.
-/
import Derived.Test.YtnohcdpnnhmpfaaGreatDoorChecked
import GoSem.PinnedTables
import GoSem.Claim
import GoSem.ClaimJoined
import GoSem.ClaimMapViews
import Derived.JoinedTies
import Derived.KernelRfl
namespace Go.Proofs.YtnohcdpnnhmpfaaGreatDoor
/- THE CELL 'sum', in the pinned program and in every row, IS THE sha256 OF THE DUMP (.gsa) THAT YtnohcdpnnhmpfaaGreatDoorProg.lean LOADS. Nothing in Lean hashes anything: it is a label: what it is worth is what the hold of that sum in a sandbox is worth. -/
noncomputable def Tryz.pinned : Pinned := { name := "ytnohcdpnnhmpfaagreatdoor", sum := "07d1a2d146acb3be700f38c2a00b943778cb632afd8f43bc07c3436f557f0852", checked := Tryz.checked }
namespace Rows
def none {H : Type} : Left H := { results := [], args := [] }

/- WHAT THE LISTED PACKAGE-LEVEL VARIABLES READ AS WHEN THE CALL BEGINS. Each datum BY PROGRAM (the guide's laid-datum.mjs) off the statement by which the dump's own 'gosem.cut.vars' lays the variable. In a bare row this is a premise. The card (YtnohcdpnnhmpfaaGreatDoorCards.lean) ties it to the program's text. -/
def laid_unicode_utf8_acceptRanges {H : Type} : DataW H := .agg [.agg [.lit (.int .u8 128), .lit (.int .u8 191)], .agg [.lit (.int .u8 160), .lit (.int .u8 191)], .agg [.lit (.int .u8 128), .lit (.int .u8 159)], .agg [.lit (.int .u8 144), .lit (.int .u8 191)], .agg [.lit (.int .u8 128), .lit (.int .u8 143)], .agg [.lit (.int .u8 0), .lit (.int .u8 0)], .agg [.lit (.int .u8 0), .lit (.int .u8 0)], .agg [.lit (.int .u8 0), .lit (.int .u8 0)], .agg [.lit (.int .u8 0), .lit (.int .u8 0)], .agg [.lit (.int .u8 0), .lit (.int .u8 0)], .agg [.lit (.int .u8 0), .lit (.int .u8 0)], .agg [.lit (.int .u8 0), .lit (.int .u8 0)], .agg [.lit (.int .u8 0), .lit (.int .u8 0)], .agg [.lit (.int .u8 0), .lit (.int .u8 0)], .agg [.lit (.int .u8 0), .lit (.int .u8 0)], .agg [.lit (.int .u8 0), .lit (.int .u8 0)]]
/-- One of Go's own tables, pinned by name: the form's constant. -/
def laid_unicode_utf8_first : DataW Unit := Go.Pinned.utf8First

/-- 'hustingslaw13.CountTransfers': WHATEVER THE INPUT: true; the input reads as it did. -/
def countTransfersSpec : ChangeSpec := { name := "countTransfers", fn := fun _ => fun
  | [d1, d2, d3] => { results := [.lit (.bool true)], args := [d1, d2, d3] }
  | _ => none }
def countTransfersRow : OpenClaim := { program := "ytnohcdpnnhmpfaagreatdoor", sum := "07d1a2d146acb3be700f38c2a00b943778cb632afd8f43bc07c3436f557f0852", func := "hustings/hustingslaw13.CountTransfers", spec := "countTransfers", inPlace := ["internal/bytealg.IndexByteString", "internal/bytealg.IndexString"], unfollowed := true, recurses := true, named := ["unicode/utf8.first", "unicode/utf8.acceptRanges", "internal/bytealg.MaxLen"], apart := false, laid := [("unicode/utf8.acceptRanges", laid_unicode_utf8_acceptRanges), ("unicode/utf8.first", laid_unicode_utf8_first)] }
def CountTransfersSaid : Prop := countTransfersRow.holds Tryz.pinned (OpenSpec.ofChange countTransfersSpec)

/-- ITS FALSE NEIGHBOUR: 'it returns false'. Refute it at one input. -/
def countTransfersWrong : ChangeSpec := { name := "countTransfers", fn := fun _ => fun
  | [d1, d2, d3] => { results := [.lit (.bool false)], args := [d1, d2, d3] }
  | _ => none }
def CountTransfersWrongFalsely : Prop := countTransfersRow.holds Tryz.pinned (OpenSpec.ofChange countTransfersWrong)

/-- 'hustingslaw13.CountDroop': WHATEVER THE INPUT: true; the input reads as it did. -/
def countDroopSpec : ChangeSpec := { name := "countDroop", fn := fun _ => fun
  | [d1, d2, d3] => { results := [.lit (.bool true)], args := [d1, d2, d3] }
  | _ => none }
def countDroopRow : OpenClaim := { program := "ytnohcdpnnhmpfaagreatdoor", sum := "07d1a2d146acb3be700f38c2a00b943778cb632afd8f43bc07c3436f557f0852", func := "hustings/hustingslaw13.CountDroop", spec := "countDroop", inPlace := ["internal/bytealg.IndexByteString", "internal/bytealg.IndexString"], unfollowed := true, recurses := true, named := ["unicode/utf8.first", "unicode/utf8.acceptRanges", "internal/bytealg.MaxLen"], apart := false, laid := [("unicode/utf8.acceptRanges", laid_unicode_utf8_acceptRanges), ("unicode/utf8.first", laid_unicode_utf8_first)] }
def CountDroopSaid : Prop := countDroopRow.holds Tryz.pinned (OpenSpec.ofChange countDroopSpec)

/-- ITS FALSE NEIGHBOUR: 'it returns false'. Refute it at one input. -/
def countDroopWrong : ChangeSpec := { name := "countDroop", fn := fun _ => fun
  | [d1, d2, d3] => { results := [.lit (.bool false)], args := [d1, d2, d3] }
  | _ => none }
def CountDroopWrongFalsely : Prop := countDroopRow.holds Tryz.pinned (OpenSpec.ofChange countDroopWrong)

/-- 'hustingslaw13.CountKeeps': WHATEVER THE INPUT: true; the input reads as it did. -/
def countKeepsSpec : ChangeSpec := { name := "countKeeps", fn := fun _ => fun
  | [d1, d2, d3] => { results := [.lit (.bool true)], args := [d1, d2, d3] }
  | _ => none }
def countKeepsRow : OpenClaim := { program := "ytnohcdpnnhmpfaagreatdoor", sum := "07d1a2d146acb3be700f38c2a00b943778cb632afd8f43bc07c3436f557f0852", func := "hustings/hustingslaw13.CountKeeps", spec := "countKeeps", inPlace := ["internal/bytealg.IndexByteString", "internal/bytealg.IndexString"], unfollowed := true, recurses := true, named := ["unicode/utf8.first", "unicode/utf8.acceptRanges", "internal/bytealg.MaxLen"], apart := false, laid := [("unicode/utf8.acceptRanges", laid_unicode_utf8_acceptRanges), ("unicode/utf8.first", laid_unicode_utf8_first)] }
def CountKeepsSaid : Prop := countKeepsRow.holds Tryz.pinned (OpenSpec.ofChange countKeepsSpec)

/-- ITS FALSE NEIGHBOUR: 'it returns false'. Refute it at one input. -/
def countKeepsWrong : ChangeSpec := { name := "countKeeps", fn := fun _ => fun
  | [d1, d2, d3] => { results := [.lit (.bool false)], args := [d1, d2, d3] }
  | _ => none }
def CountKeepsWrongFalsely : Prop := countKeepsRow.holds Tryz.pinned (OpenSpec.ofChange countKeepsWrong)

/-- 'hustingslaw13.CountElects': WHATEVER THE INPUT: true; the input reads as it did. -/
def countElectsSpec : ChangeSpec := { name := "countElects", fn := fun _ => fun
  | [d1, d2, d3] => { results := [.lit (.bool true)], args := [d1, d2, d3] }
  | _ => none }
def countElectsRow : OpenClaim := { program := "ytnohcdpnnhmpfaagreatdoor", sum := "07d1a2d146acb3be700f38c2a00b943778cb632afd8f43bc07c3436f557f0852", func := "hustings/hustingslaw13.CountElects", spec := "countElects", inPlace := ["internal/bytealg.IndexByteString", "internal/bytealg.IndexString"], unfollowed := true, recurses := true, named := ["unicode/utf8.first", "unicode/utf8.acceptRanges", "internal/bytealg.MaxLen"], apart := false, laid := [("unicode/utf8.acceptRanges", laid_unicode_utf8_acceptRanges), ("unicode/utf8.first", laid_unicode_utf8_first)] }
def CountElectsSaid : Prop := countElectsRow.holds Tryz.pinned (OpenSpec.ofChange countElectsSpec)

/-- ITS FALSE NEIGHBOUR: 'it returns false'. Refute it at one input. -/
def countElectsWrong : ChangeSpec := { name := "countElects", fn := fun _ => fun
  | [d1, d2, d3] => { results := [.lit (.bool false)], args := [d1, d2, d3] }
  | _ => none }
def CountElectsWrongFalsely : Prop := countElectsRow.holds Tryz.pinned (OpenSpec.ofChange countElectsWrong)

/-- 'hustingslaw13.CountAlike': WHATEVER THE INPUT: true; the input reads as it did. -/
def countAlikeSpec : ChangeSpec := { name := "countAlike", fn := fun _ => fun
  | [d1, d2, d3, d4, d5] => { results := [.lit (.bool true)], args := [d1, d2, d3, d4, d5] }
  | _ => none }
def countAlikeRow : OpenClaim := { program := "ytnohcdpnnhmpfaagreatdoor", sum := "07d1a2d146acb3be700f38c2a00b943778cb632afd8f43bc07c3436f557f0852", func := "hustings/hustingslaw13.CountAlike", spec := "countAlike", inPlace := ["math/bits.Add64", "math/bits.Sub64", "internal/bytealg.IndexByteString", "internal/bytealg.IndexString"], unfollowed := true, recurses := true, named := ["unicode/utf8.first", "unicode/utf8.acceptRanges", "internal/bytealg.MaxLen"], apart := false, laid := [("unicode/utf8.acceptRanges", laid_unicode_utf8_acceptRanges), ("unicode/utf8.first", laid_unicode_utf8_first)] }
def CountAlikeSaid : Prop := countAlikeRow.holds Tryz.pinned (OpenSpec.ofChange countAlikeSpec)

/-- ITS FALSE NEIGHBOUR: 'it returns false'. Refute it at one input. -/
def countAlikeWrong : ChangeSpec := { name := "countAlike", fn := fun _ => fun
  | [d1, d2, d3, d4, d5] => { results := [.lit (.bool false)], args := [d1, d2, d3, d4, d5] }
  | _ => none }
def CountAlikeWrongFalsely : Prop := countAlikeRow.holds Tryz.pinned (OpenSpec.ofChange countAlikeWrong)

/-- 'hustingslaw13.CountBest': WHATEVER THE INPUT: true; the input reads as it did. -/
def countBestSpec : ChangeSpec := { name := "countBest", fn := fun _ => fun
  | [d1, d2, d3] => { results := [.lit (.bool true)], args := [d1, d2, d3] }
  | _ => none }
def countBestRow : OpenClaim := { program := "ytnohcdpnnhmpfaagreatdoor", sum := "07d1a2d146acb3be700f38c2a00b943778cb632afd8f43bc07c3436f557f0852", func := "hustings/hustingslaw13.CountBest", spec := "countBest", inPlace := ["internal/bytealg.IndexByteString", "internal/bytealg.IndexString"], unfollowed := true, recurses := true, named := ["unicode/utf8.first", "unicode/utf8.acceptRanges", "internal/bytealg.MaxLen"], apart := false, laid := [("unicode/utf8.acceptRanges", laid_unicode_utf8_acceptRanges), ("unicode/utf8.first", laid_unicode_utf8_first)] }
def CountBestSaid : Prop := countBestRow.holds Tryz.pinned (OpenSpec.ofChange countBestSpec)

/-- ITS FALSE NEIGHBOUR: 'it returns false'. Refute it at one input. -/
def countBestWrong : ChangeSpec := { name := "countBest", fn := fun _ => fun
  | [d1, d2, d3] => { results := [.lit (.bool false)], args := [d1, d2, d3] }
  | _ => none }
def CountBestWrongFalsely : Prop := countBestRow.holds Tryz.pinned (OpenSpec.ofChange countBestWrong)

/- THE SECOND FORM. 'bulk': how many values and letters a reading holds, each counted each time it is reached (what is shared counts as often as it is met; a slice's spare places count too). A statement '..UptoSaid' is the law's where the arguments, and the package variables that the reading takes, are together of bulk at most 1048576: NARROWER than '..Said'. Prove '..Said' where nothing that the law and all that it calls make is longer than what came in: it says more and counts as full. Else prove '..UptoSaid'. A law counts once. -/
mutual
def uptoBulk {H : Type} : DataW H → Nat
  | .lit (.string bytes) => bytes.length + 1
  | .lit _ => 1
  | .nil => 1
  | .ptr d => uptoBulk d + 1
  | .slice elems spare => uptoBulkAll elems + uptoBulkAll spare + 1
  | .agg parts => uptoBulkAll parts + 1
  | .iface _ d => uptoBulk d + 1
  | .map entries => uptoBulkEntries entries + 1
  | .held _ => 1
def uptoBulkAll {H : Type} : List (DataW H) → Nat
  | [] => 0
  | d :: r => uptoBulk d + uptoBulkAll r
def uptoBulkEntries {H : Type} : List (Lit × DataW H) → Nat
  | [] => 0
  | x :: r => uptoBulkEntry x + uptoBulkEntries r
def uptoBulkEntry {H : Type} : Lit × DataW H → Nat
  | (.string bytes, d) => bytes.length + uptoBulk d + 1
  | (_, d) => uptoBulk d + 1
 end
def uptoSmall : (H : Type) → List (DataW H) → Bool := fun _ ds => decide (uptoBulkAll ds ≤ 1048576)
def OpenSpec.upto (s : _root_.Go.ChangeSpec) : _root_.Go.OpenSpec := { _root_.Go.OpenSpec.ofChange s with cond := some uptoSmall }

/-- 'hustingslaw13.CountTransfers', WHERE WHAT IT READS IS OF BULK AT MOST 1048576: true; the input reads as it did. -/
def countTransfersUptoRow : OpenClaim := { program := "ytnohcdpnnhmpfaagreatdoor", sum := "07d1a2d146acb3be700f38c2a00b943778cb632afd8f43bc07c3436f557f0852", func := "hustings/hustingslaw13.CountTransfers", spec := "countTransfers", inPlace := ["internal/bytealg.IndexByteString", "internal/bytealg.IndexString"], unfollowed := true, recurses := true, named := ["unicode/utf8.first", "unicode/utf8.acceptRanges", "internal/bytealg.MaxLen"], apart := false, laid := [("unicode/utf8.acceptRanges", laid_unicode_utf8_acceptRanges), ("unicode/utf8.first", laid_unicode_utf8_first)], narrowed := true }
def CountTransfersUptoSaid : Prop := countTransfersUptoRow.holds Tryz.pinned (OpenSpec.upto countTransfersSpec)

/-- 'hustingslaw13.CountDroop', WHERE WHAT IT READS IS OF BULK AT MOST 1048576: true; the input reads as it did. -/
def countDroopUptoRow : OpenClaim := { program := "ytnohcdpnnhmpfaagreatdoor", sum := "07d1a2d146acb3be700f38c2a00b943778cb632afd8f43bc07c3436f557f0852", func := "hustings/hustingslaw13.CountDroop", spec := "countDroop", inPlace := ["internal/bytealg.IndexByteString", "internal/bytealg.IndexString"], unfollowed := true, recurses := true, named := ["unicode/utf8.first", "unicode/utf8.acceptRanges", "internal/bytealg.MaxLen"], apart := false, laid := [("unicode/utf8.acceptRanges", laid_unicode_utf8_acceptRanges), ("unicode/utf8.first", laid_unicode_utf8_first)], narrowed := true }
def CountDroopUptoSaid : Prop := countDroopUptoRow.holds Tryz.pinned (OpenSpec.upto countDroopSpec)

/-- 'hustingslaw13.CountKeeps', WHERE WHAT IT READS IS OF BULK AT MOST 1048576: true; the input reads as it did. -/
def countKeepsUptoRow : OpenClaim := { program := "ytnohcdpnnhmpfaagreatdoor", sum := "07d1a2d146acb3be700f38c2a00b943778cb632afd8f43bc07c3436f557f0852", func := "hustings/hustingslaw13.CountKeeps", spec := "countKeeps", inPlace := ["internal/bytealg.IndexByteString", "internal/bytealg.IndexString"], unfollowed := true, recurses := true, named := ["unicode/utf8.first", "unicode/utf8.acceptRanges", "internal/bytealg.MaxLen"], apart := false, laid := [("unicode/utf8.acceptRanges", laid_unicode_utf8_acceptRanges), ("unicode/utf8.first", laid_unicode_utf8_first)], narrowed := true }
def CountKeepsUptoSaid : Prop := countKeepsUptoRow.holds Tryz.pinned (OpenSpec.upto countKeepsSpec)

/-- 'hustingslaw13.CountElects', WHERE WHAT IT READS IS OF BULK AT MOST 1048576: true; the input reads as it did. -/
def countElectsUptoRow : OpenClaim := { program := "ytnohcdpnnhmpfaagreatdoor", sum := "07d1a2d146acb3be700f38c2a00b943778cb632afd8f43bc07c3436f557f0852", func := "hustings/hustingslaw13.CountElects", spec := "countElects", inPlace := ["internal/bytealg.IndexByteString", "internal/bytealg.IndexString"], unfollowed := true, recurses := true, named := ["unicode/utf8.first", "unicode/utf8.acceptRanges", "internal/bytealg.MaxLen"], apart := false, laid := [("unicode/utf8.acceptRanges", laid_unicode_utf8_acceptRanges), ("unicode/utf8.first", laid_unicode_utf8_first)], narrowed := true }
def CountElectsUptoSaid : Prop := countElectsUptoRow.holds Tryz.pinned (OpenSpec.upto countElectsSpec)

/-- 'hustingslaw13.CountAlike', WHERE WHAT IT READS IS OF BULK AT MOST 1048576: true; the input reads as it did. -/
def countAlikeUptoRow : OpenClaim := { program := "ytnohcdpnnhmpfaagreatdoor", sum := "07d1a2d146acb3be700f38c2a00b943778cb632afd8f43bc07c3436f557f0852", func := "hustings/hustingslaw13.CountAlike", spec := "countAlike", inPlace := ["math/bits.Add64", "math/bits.Sub64", "internal/bytealg.IndexByteString", "internal/bytealg.IndexString"], unfollowed := true, recurses := true, named := ["unicode/utf8.first", "unicode/utf8.acceptRanges", "internal/bytealg.MaxLen"], apart := false, laid := [("unicode/utf8.acceptRanges", laid_unicode_utf8_acceptRanges), ("unicode/utf8.first", laid_unicode_utf8_first)], narrowed := true }
def CountAlikeUptoSaid : Prop := countAlikeUptoRow.holds Tryz.pinned (OpenSpec.upto countAlikeSpec)

/-- 'hustingslaw13.CountBest', WHERE WHAT IT READS IS OF BULK AT MOST 1048576: true; the input reads as it did. -/
def countBestUptoRow : OpenClaim := { program := "ytnohcdpnnhmpfaagreatdoor", sum := "07d1a2d146acb3be700f38c2a00b943778cb632afd8f43bc07c3436f557f0852", func := "hustings/hustingslaw13.CountBest", spec := "countBest", inPlace := ["internal/bytealg.IndexByteString", "internal/bytealg.IndexString"], unfollowed := true, recurses := true, named := ["unicode/utf8.first", "unicode/utf8.acceptRanges", "internal/bytealg.MaxLen"], apart := false, laid := [("unicode/utf8.acceptRanges", laid_unicode_utf8_acceptRanges), ("unicode/utf8.first", laid_unicode_utf8_first)], narrowed := true }
def CountBestUptoSaid : Prop := countBestUptoRow.holds Tryz.pinned (OpenSpec.upto countBestSpec)

end Rows
end Go.Proofs.YtnohcdpnnhmpfaaGreatDoor
