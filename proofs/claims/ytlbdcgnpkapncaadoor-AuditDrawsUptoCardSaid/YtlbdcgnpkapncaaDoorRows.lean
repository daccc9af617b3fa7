/-
  NARROWER THAN 'FOR EVERY INPUT', by the rows' own cells (each row's printed sentence says how): AuditBegins: laid · AuditDraws: laid · AuditChances: laid · AuditRisk: laid · AuditAgrees: laid.
  DERIVED. THE GIVEN ROWS OF THIS SEAT. 5 by the template 'for every input the law returns true; each argument reads behind the call as it read before'; 0 by the template 'total and deterministic' (their statements: YtlbdcgnpkapncaaDoorTotals.lean).
  GIVEN WITH THE SEED: the statements are not yours to turn. If you find one false, say at which input.
  Laid BY PROGRAM, IN A SANDBOX (cutbox-rows.mjs): the forced cells as the released guide's own fill.sh prints them over the translation 84630dd4eba1aea7… (all of the seat's roots in one cut). By AI agents, Wed Nov 11 2026. No macro, syntax, notation, axiom, sorry.
-/
import Derived.Test.YtlbdcgnpkapncaaDoorChecked
import GoSem.PinnedTables
import GoSem.Claim
import GoSem.ClaimJoined
import GoSem.ClaimMapViews
import Derived.JoinedTies
import Derived.KernelRfl
namespace Go.Proofs.YtlbdcgnpkapncaaDoor
/- THE CELL 'sum', in the pinned program and in every row, IS THE sha256 OF THE DUMP (.gsa) THAT YtlbdcgnpkapncaaDoorProg.lean LOADS. Nothing in Lean hashes anything: it is a label: what it is worth is what the hold of that sum in a sandbox is worth. -/
noncomputable def Tryd.pinned : Pinned := { name := "ytlbdcgnpkapncaadoor", sum := "84630dd4eba1aea7393ccb8f28809cec62acd22af628f7c5ca624383fc8b3c11", checked := Tryd.checked }
namespace Rows
def none {H : Type} : Left H := { results := [], args := [] }

/- WHAT THE LISTED PACKAGE-LEVEL VARIABLES READ AS WHEN THE CALL BEGINS. Each datum BY PROGRAM (the guide's laid-datum.mjs) off the statement by which the dump's own 'gosem.cut.vars' lays the variable. In a bare row this is a premise. The card (YtlbdcgnpkapncaaDoorCards.lean) ties it to the program's text. -/
def laid_unicode_utf8_acceptRanges {H : Type} : DataW H := .agg [.agg [.lit (.int .u8 128), .lit (.int .u8 191)], .agg [.lit (.int .u8 160), .lit (.int .u8 191)], .agg [.lit (.int .u8 128), .lit (.int .u8 159)], .agg [.lit (.int .u8 144), .lit (.int .u8 191)], .agg [.lit (.int .u8 128), .lit (.int .u8 143)], .agg [.lit (.int .u8 0), .lit (.int .u8 0)], .agg [.lit (.int .u8 0), .lit (.int .u8 0)], .agg [.lit (.int .u8 0), .lit (.int .u8 0)], .agg [.lit (.int .u8 0), .lit (.int .u8 0)], .agg [.lit (.int .u8 0), .lit (.int .u8 0)], .agg [.lit (.int .u8 0), .lit (.int .u8 0)], .agg [.lit (.int .u8 0), .lit (.int .u8 0)], .agg [.lit (.int .u8 0), .lit (.int .u8 0)], .agg [.lit (.int .u8 0), .lit (.int .u8 0)], .agg [.lit (.int .u8 0), .lit (.int .u8 0)], .agg [.lit (.int .u8 0), .lit (.int .u8 0)]]
/-- One of Go's own tables, pinned by name: the form's constant. -/
def laid_unicode_utf8_first : DataW Unit := Go.Pinned.utf8First

/-- 'hustingslaw14.AuditBegins': WHATEVER THE INPUT: true; the input reads as it did. -/
def auditBeginsSpec : ChangeSpec := { name := "auditBegins", fn := fun _ => fun
  | [d1, d2, d3] => { results := [.lit (.bool true)], args := [d1, d2, d3] }
  | _ => none }
def auditBeginsRow : OpenClaim := { program := "ytlbdcgnpkapncaadoor", sum := "84630dd4eba1aea7393ccb8f28809cec62acd22af628f7c5ca624383fc8b3c11", func := "hustings/hustingslaw14.AuditBegins", spec := "auditBegins", inPlace := ["internal/bytealg.IndexByteString", "internal/bytealg.IndexString"], unfollowed := true, recurses := true, named := ["unicode/utf8.first", "unicode/utf8.acceptRanges", "internal/bytealg.MaxLen"], plainKeys := false, apart := false, laid := [("unicode/utf8.acceptRanges", laid_unicode_utf8_acceptRanges), ("unicode/utf8.first", laid_unicode_utf8_first)] }
def AuditBeginsSaid : Prop := auditBeginsRow.holds Tryd.pinned (OpenSpec.ofChange auditBeginsSpec)

/-- ITS FALSE NEIGHBOUR: 'it returns false'. Refute it at one input. -/
def auditBeginsWrong : ChangeSpec := { name := "auditBegins", fn := fun _ => fun
  | [d1, d2, d3] => { results := [.lit (.bool false)], args := [d1, d2, d3] }
  | _ => none }
def AuditBeginsWrongFalsely : Prop := auditBeginsRow.holds Tryd.pinned (OpenSpec.ofChange auditBeginsWrong)

/-- 'hustingslaw14.AuditDraws': WHATEVER THE INPUT: true; the input reads as it did. -/
def auditDrawsSpec : ChangeSpec := { name := "auditDraws", fn := fun _ => fun
  | [d1, d2] => { results := [.lit (.bool true)], args := [d1, d2] }
  | _ => none }
def auditDrawsRow : OpenClaim := { program := "ytlbdcgnpkapncaadoor", sum := "84630dd4eba1aea7393ccb8f28809cec62acd22af628f7c5ca624383fc8b3c11", func := "hustings/hustingslaw14.AuditDraws", spec := "auditDraws", inPlace := ["internal/bytealg.IndexByteString", "internal/bytealg.IndexString"], unfollowed := true, recurses := true, named := ["unicode/utf8.first", "unicode/utf8.acceptRanges", "internal/bytealg.MaxLen"], plainKeys := false, apart := false, laid := [("unicode/utf8.acceptRanges", laid_unicode_utf8_acceptRanges), ("unicode/utf8.first", laid_unicode_utf8_first)] }
def AuditDrawsSaid : Prop := auditDrawsRow.holds Tryd.pinned (OpenSpec.ofChange auditDrawsSpec)

/-- ITS FALSE NEIGHBOUR: 'it returns false'. Refute it at one input. -/
def auditDrawsWrong : ChangeSpec := { name := "auditDraws", fn := fun _ => fun
  | [d1, d2] => { results := [.lit (.bool false)], args := [d1, d2] }
  | _ => none }
def AuditDrawsWrongFalsely : Prop := auditDrawsRow.holds Tryd.pinned (OpenSpec.ofChange auditDrawsWrong)

/-- 'hustingslaw14.AuditChances': WHATEVER THE INPUT: true; the input reads as it did. -/
def auditChancesSpec : ChangeSpec := { name := "auditChances", fn := fun _ => fun
  | [d1, d2, d3, d4, d5, d6, d7] => { results := [.lit (.bool true)], args := [d1, d2, d3, d4, d5, d6, d7] }
  | _ => none }
def auditChancesRow : OpenClaim := { program := "ytlbdcgnpkapncaadoor", sum := "84630dd4eba1aea7393ccb8f28809cec62acd22af628f7c5ca624383fc8b3c11", func := "hustings/hustingslaw14.AuditChances", spec := "auditChances", inPlace := ["internal/bytealg.IndexByteString", "internal/bytealg.IndexString"], unfollowed := true, recurses := true, named := ["unicode/utf8.first", "unicode/utf8.acceptRanges", "internal/bytealg.MaxLen"], plainKeys := false, apart := false, laid := [("unicode/utf8.acceptRanges", laid_unicode_utf8_acceptRanges), ("unicode/utf8.first", laid_unicode_utf8_first)] }
def AuditChancesSaid : Prop := auditChancesRow.holds Tryd.pinned (OpenSpec.ofChange auditChancesSpec)

/-- ITS FALSE NEIGHBOUR: 'it returns false'. Refute it at one input. -/
def auditChancesWrong : ChangeSpec := { name := "auditChances", fn := fun _ => fun
  | [d1, d2, d3, d4, d5, d6, d7] => { results := [.lit (.bool false)], args := [d1, d2, d3, d4, d5, d6, d7] }
  | _ => none }
def AuditChancesWrongFalsely : Prop := auditChancesRow.holds Tryd.pinned (OpenSpec.ofChange auditChancesWrong)

/-- 'hustingslaw14.AuditRisk': WHATEVER THE INPUT: true; the input reads as it did. -/
def auditRiskSpec : ChangeSpec := { name := "auditRisk", fn := fun _ => fun
  | [d1, d2, d3, d4, d5, d6, d7] => { results := [.lit (.bool true)], args := [d1, d2, d3, d4, d5, d6, d7] }
  | _ => none }
def auditRiskRow : OpenClaim := { program := "ytlbdcgnpkapncaadoor", sum := "84630dd4eba1aea7393ccb8f28809cec62acd22af628f7c5ca624383fc8b3c11", func := "hustings/hustingslaw14.AuditRisk", spec := "auditRisk", inPlace := ["math/bits.Add64", "math/bits.Sub64", "internal/bytealg.IndexByteString", "internal/bytealg.IndexString"], unfollowed := true, recurses := true, named := ["unicode/utf8.first", "unicode/utf8.acceptRanges", "internal/bytealg.MaxLen"], plainKeys := false, apart := false, laid := [("unicode/utf8.acceptRanges", laid_unicode_utf8_acceptRanges), ("unicode/utf8.first", laid_unicode_utf8_first)] }
def AuditRiskSaid : Prop := auditRiskRow.holds Tryd.pinned (OpenSpec.ofChange auditRiskSpec)

/-- ITS FALSE NEIGHBOUR: 'it returns false'. Refute it at one input. -/
def auditRiskWrong : ChangeSpec := { name := "auditRisk", fn := fun _ => fun
  | [d1, d2, d3, d4, d5, d6, d7] => { results := [.lit (.bool false)], args := [d1, d2, d3, d4, d5, d6, d7] }
  | _ => none }
def AuditRiskWrongFalsely : Prop := auditRiskRow.holds Tryd.pinned (OpenSpec.ofChange auditRiskWrong)

/-- 'hustingslaw14.AuditAgrees': WHATEVER THE INPUT: true; the input reads as it did. -/
def auditAgreesSpec : ChangeSpec := { name := "auditAgrees", fn := fun _ => fun
  | [d1, d2, d3, d4, d5, d6, d7] => { results := [.lit (.bool true)], args := [d1, d2, d3, d4, d5, d6, d7] }
  | _ => none }
def auditAgreesRow : OpenClaim := { program := "ytlbdcgnpkapncaadoor", sum := "84630dd4eba1aea7393ccb8f28809cec62acd22af628f7c5ca624383fc8b3c11", func := "hustings/hustingslaw14.AuditAgrees", spec := "auditAgrees", inPlace := ["math/bits.Add64", "math/bits.Sub64", "internal/bytealg.IndexByteString", "internal/bytealg.IndexString"], unfollowed := true, recurses := true, named := ["unicode/utf8.first", "unicode/utf8.acceptRanges", "internal/bytealg.MaxLen"], plainKeys := false, apart := false, laid := [("unicode/utf8.acceptRanges", laid_unicode_utf8_acceptRanges), ("unicode/utf8.first", laid_unicode_utf8_first)] }
def AuditAgreesSaid : Prop := auditAgreesRow.holds Tryd.pinned (OpenSpec.ofChange auditAgreesSpec)

/-- ITS FALSE NEIGHBOUR: 'it returns false'. Refute it at one input. -/
def auditAgreesWrong : ChangeSpec := { name := "auditAgrees", fn := fun _ => fun
  | [d1, d2, d3, d4, d5, d6, d7] => { results := [.lit (.bool false)], args := [d1, d2, d3, d4, d5, d6, d7] }
  | _ => none }
def AuditAgreesWrongFalsely : Prop := auditAgreesRow.holds Tryd.pinned (OpenSpec.ofChange auditAgreesWrong)

/- THE SECOND FORM. 'bulk': how many values and letters a reading holds, each counted each time it is reached (what is shared counts as often as it is met; a slice's spare places count too). A statement '..UptoSaid' is the law's where the arguments, and the package variables that the reading takes, are together of bulk at most 1048576: NARROWER than '..Said'. Prove '..Said' where nothing that the law and all that it calls make is longer than what came in: it says more and counts as full. Else prove '..UptoSaid'. A law counts once. -/
mutual
def uptoBulk {H : Type} : DataW H → Nat
  | .lit (.string bytes) => bytes.length + 1
  | .lit _ => 1
  | .nil => 1
  | .ptr d => uptoBulk d + 1
  | .slice elems spare => uptoBulkAll elems + uptoBulkAll spare + 1
  | .agg parts => uptoBulkAll parts + 1
  | .iface _ d => uptoBulk d + 1
  | .map entries => uptoBulkEntries entries + 1
  | .held _ => 1
def uptoBulkAll {H : Type} : List (DataW H) → Nat
  | [] => 0
  | d :: r => uptoBulk d + uptoBulkAll r
def uptoBulkEntries {H : Type} : List (Lit × DataW H) → Nat
  | [] => 0
  | x :: r => uptoBulkEntry x + uptoBulkEntries r
def uptoBulkEntry {H : Type} : Lit × DataW H → Nat
  | (.string bytes, d) => bytes.length + uptoBulk d + 1
  | (_, d) => uptoBulk d + 1
 end
def uptoSmall : (H : Type) → List (DataW H) → Bool := fun _ ds => decide (uptoBulkAll ds ≤ 1048576)
def OpenSpec.upto (s : _root_.Go.ChangeSpec) : _root_.Go.OpenSpec := { _root_.Go.OpenSpec.ofChange s with cond := some uptoSmall }

/-- 'hustingslaw14.AuditBegins', WHERE WHAT IT READS IS OF BULK AT MOST 1048576: true; the input reads as it did. -/
def auditBeginsUptoRow : OpenClaim := { program := "ytlbdcgnpkapncaadoor", sum := "84630dd4eba1aea7393ccb8f28809cec62acd22af628f7c5ca624383fc8b3c11", func := "hustings/hustingslaw14.AuditBegins", spec := "auditBegins", inPlace := ["internal/bytealg.IndexByteString", "internal/bytealg.IndexString"], unfollowed := true, recurses := true, named := ["unicode/utf8.first", "unicode/utf8.acceptRanges", "internal/bytealg.MaxLen"], plainKeys := false, apart := false, laid := [("unicode/utf8.acceptRanges", laid_unicode_utf8_acceptRanges), ("unicode/utf8.first", laid_unicode_utf8_first)], narrowed := true }
def AuditBeginsUptoSaid : Prop := auditBeginsUptoRow.holds Tryd.pinned (OpenSpec.upto auditBeginsSpec)

/-- 'hustingslaw14.AuditDraws', WHERE WHAT IT READS IS OF BULK AT MOST 1048576: true; the input reads as it did. -/
def auditDrawsUptoRow : OpenClaim := { program := "ytlbdcgnpkapncaadoor", sum := "84630dd4eba1aea7393ccb8f28809cec62acd22af628f7c5ca624383fc8b3c11", func := "hustings/hustingslaw14.AuditDraws", spec := "auditDraws", inPlace := ["internal/bytealg.IndexByteString", "internal/bytealg.IndexString"], unfollowed := true, recurses := true, named := ["unicode/utf8.first", "unicode/utf8.acceptRanges", "internal/bytealg.MaxLen"], plainKeys := false, apart := false, laid := [("unicode/utf8.acceptRanges", laid_unicode_utf8_acceptRanges), ("unicode/utf8.first", laid_unicode_utf8_first)], narrowed := true }
def AuditDrawsUptoSaid : Prop := auditDrawsUptoRow.holds Tryd.pinned (OpenSpec.upto auditDrawsSpec)

/-- 'hustingslaw14.AuditChances', WHERE WHAT IT READS IS OF BULK AT MOST 1048576: true; the input reads as it did. -/
def auditChancesUptoRow : OpenClaim := { program := "ytlbdcgnpkapncaadoor", sum := "84630dd4eba1aea7393ccb8f28809cec62acd22af628f7c5ca624383fc8b3c11", func := "hustings/hustingslaw14.AuditChances", spec := "auditChances", inPlace := ["internal/bytealg.IndexByteString", "internal/bytealg.IndexString"], unfollowed := true, recurses := true, named := ["unicode/utf8.first", "unicode/utf8.acceptRanges", "internal/bytealg.MaxLen"], plainKeys := false, apart := false, laid := [("unicode/utf8.acceptRanges", laid_unicode_utf8_acceptRanges), ("unicode/utf8.first", laid_unicode_utf8_first)], narrowed := true }
def AuditChancesUptoSaid : Prop := auditChancesUptoRow.holds Tryd.pinned (OpenSpec.upto auditChancesSpec)

/-- 'hustingslaw14.AuditRisk', WHERE WHAT IT READS IS OF BULK AT MOST 1048576: true; the input reads as it did. -/
def auditRiskUptoRow : OpenClaim := { program := "ytlbdcgnpkapncaadoor", sum := "84630dd4eba1aea7393ccb8f28809cec62acd22af628f7c5ca624383fc8b3c11", func := "hustings/hustingslaw14.AuditRisk", spec := "auditRisk", inPlace := ["math/bits.Add64", "math/bits.Sub64", "internal/bytealg.IndexByteString", "internal/bytealg.IndexString"], unfollowed := true, recurses := true, named := ["unicode/utf8.first", "unicode/utf8.acceptRanges", "internal/bytealg.MaxLen"], plainKeys := false, apart := false, laid := [("unicode/utf8.acceptRanges", laid_unicode_utf8_acceptRanges), ("unicode/utf8.first", laid_unicode_utf8_first)], narrowed := true }
def AuditRiskUptoSaid : Prop := auditRiskUptoRow.holds Tryd.pinned (OpenSpec.upto auditRiskSpec)

/-- 'hustingslaw14.AuditAgrees', WHERE WHAT IT READS IS OF BULK AT MOST 1048576: true; the input reads as it did. -/
def auditAgreesUptoRow : OpenClaim := { program := "ytlbdcgnpkapncaadoor", sum := "84630dd4eba1aea7393ccb8f28809cec62acd22af628f7c5ca624383fc8b3c11", func := "hustings/hustingslaw14.AuditAgrees", spec := "auditAgrees", inPlace := ["math/bits.Add64", "math/bits.Sub64", "internal/bytealg.IndexByteString", "internal/bytealg.IndexString"], unfollowed := true, recurses := true, named := ["unicode/utf8.first", "unicode/utf8.acceptRanges", "internal/bytealg.MaxLen"], plainKeys := false, apart := false, laid := [("unicode/utf8.acceptRanges", laid_unicode_utf8_acceptRanges), ("unicode/utf8.first", laid_unicode_utf8_first)], narrowed := true }
def AuditAgreesUptoSaid : Prop := auditAgreesUptoRow.holds Tryd.pinned (OpenSpec.upto auditAgreesSpec)

end Rows
end Go.Proofs.YtlbdcgnpkapncaaDoor
