/-
  DERIVED. GIVEN WITH THE SEED: THE CARDS: each row of YtlbdcgnpkapncaaDoorRows.lean that lists a variable, with what it lists TIED to the program's text (the seventh form; the later family's looks); each row that meets fmt, with fmt's text TOLD by the authors' own Lean function (tested against real Go, not proved from fmt's source: count such statements apart). THE CARD IS WHAT COUNTS. Prove the row's statement (the work); the ties are given (YtlbdcgnpkapncaaDoorTie.lean); close each card by the builder's one call (the guide's Derived/Test/ToyasCard.lean, 'card_holds'). Laid BY PROGRAM, IN A SANDBOX (cutbox-door.mjs). By AI agents, Wed Nov 11 2026. No macro, syntax, notation, axiom, sorry.
-/
import Derived.Test.YtlbdcgnpkapncaaDoorRows
import GoSem.ClaimSeven
namespace Go.Proofs.YtlbdcgnpkapncaaDoor
namespace Rows

/-- THE TIED CARD OF 'hustingslaw14.AuditBegins'. -/
def auditBeginsCard : Claim7 := { stood := { row := auditBeginsRow, standIns := [], harness := (true, "1da5dd689f347e4c75e837eaf5b67ff3adda5986274e0b9927f7abbc6eac56b2"), looks := false }, kinds := [], alts := [], laidByText := true, laidKinds := [.data, .pinned], laidTests := true, laidLooks := .later }
def AuditBeginsCardSaid : Prop := Claim7.holds Tryd.pinned (.plain (OpenSpec.ofChange auditBeginsSpec)) auditBeginsCard

/-- THE TIED CARD OF 'hustingslaw14.AuditDraws'. -/
def auditDrawsCard : Claim7 := { stood := { row := auditDrawsRow, standIns := [], harness := (true, "1da5dd689f347e4c75e837eaf5b67ff3adda5986274e0b9927f7abbc6eac56b2"), looks := false }, kinds := [], alts := [], laidByText := true, laidKinds := [.data, .pinned], laidTests := true, laidLooks := .later }
def AuditDrawsCardSaid : Prop := Claim7.holds Tryd.pinned (.plain (OpenSpec.ofChange auditDrawsSpec)) auditDrawsCard

/-- THE TIED CARD OF 'hustingslaw14.AuditChances'. -/
def auditChancesCard : Claim7 := { stood := { row := auditChancesRow, standIns := [], harness := (true, "1da5dd689f347e4c75e837eaf5b67ff3adda5986274e0b9927f7abbc6eac56b2"), looks := false }, kinds := [], alts := [], laidByText := true, laidKinds := [.data, .pinned], laidTests := true, laidLooks := .later }
def AuditChancesCardSaid : Prop := Claim7.holds Tryd.pinned (.plain (OpenSpec.ofChange auditChancesSpec)) auditChancesCard

/-- THE TIED CARD OF 'hustingslaw14.AuditRisk'. -/
def auditRiskCard : Claim7 := { stood := { row := auditRiskRow, standIns := [], harness := (true, "1da5dd689f347e4c75e837eaf5b67ff3adda5986274e0b9927f7abbc6eac56b2"), looks := false }, kinds := [], alts := [], laidByText := true, laidKinds := [.data, .pinned], laidTests := true, laidLooks := .later }
def AuditRiskCardSaid : Prop := Claim7.holds Tryd.pinned (.plain (OpenSpec.ofChange auditRiskSpec)) auditRiskCard

/-- THE TIED CARD OF 'hustingslaw14.AuditAgrees'. -/
def auditAgreesCard : Claim7 := { stood := { row := auditAgreesRow, standIns := [], harness := (true, "1da5dd689f347e4c75e837eaf5b67ff3adda5986274e0b9927f7abbc6eac56b2"), looks := false }, kinds := [], alts := [], laidByText := true, laidKinds := [.data, .pinned], laidTests := true, laidLooks := .later }
def AuditAgreesCardSaid : Prop := Claim7.holds Tryd.pinned (.plain (OpenSpec.ofChange auditAgreesSpec)) auditAgreesCard

/-- THE SECOND FORM's CARD OF 'hustingslaw14.AuditBegins'. -/
def auditBeginsUptoCard : Claim7 := { stood := { row := auditBeginsUptoRow, standIns := [], harness := (true, "1da5dd689f347e4c75e837eaf5b67ff3adda5986274e0b9927f7abbc6eac56b2"), looks := false }, kinds := [], alts := [], laidByText := true, laidKinds := [.data, .pinned], laidTests := true, laidLooks := .later }
def AuditBeginsUptoCardSaid : Prop := Claim7.holds Tryd.pinned (.plain (OpenSpec.upto auditBeginsSpec)) auditBeginsUptoCard

/-- THE SECOND FORM's CARD OF 'hustingslaw14.AuditDraws'. -/
def auditDrawsUptoCard : Claim7 := { stood := { row := auditDrawsUptoRow, standIns := [], harness := (true, "1da5dd689f347e4c75e837eaf5b67ff3adda5986274e0b9927f7abbc6eac56b2"), looks := false }, kinds := [], alts := [], laidByText := true, laidKinds := [.data, .pinned], laidTests := true, laidLooks := .later }
def AuditDrawsUptoCardSaid : Prop := Claim7.holds Tryd.pinned (.plain (OpenSpec.upto auditDrawsSpec)) auditDrawsUptoCard

/-- THE SECOND FORM's CARD OF 'hustingslaw14.AuditChances'. -/
def auditChancesUptoCard : Claim7 := { stood := { row := auditChancesUptoRow, standIns := [], harness := (true, "1da5dd689f347e4c75e837eaf5b67ff3adda5986274e0b9927f7abbc6eac56b2"), looks := false }, kinds := [], alts := [], laidByText := true, laidKinds := [.data, .pinned], laidTests := true, laidLooks := .later }
def AuditChancesUptoCardSaid : Prop := Claim7.holds Tryd.pinned (.plain (OpenSpec.upto auditChancesSpec)) auditChancesUptoCard

/-- THE SECOND FORM's CARD OF 'hustingslaw14.AuditRisk'. -/
def auditRiskUptoCard : Claim7 := { stood := { row := auditRiskUptoRow, standIns := [], harness := (true, "1da5dd689f347e4c75e837eaf5b67ff3adda5986274e0b9927f7abbc6eac56b2"), looks := false }, kinds := [], alts := [], laidByText := true, laidKinds := [.data, .pinned], laidTests := true, laidLooks := .later }
def AuditRiskUptoCardSaid : Prop := Claim7.holds Tryd.pinned (.plain (OpenSpec.upto auditRiskSpec)) auditRiskUptoCard

/-- THE SECOND FORM's CARD OF 'hustingslaw14.AuditAgrees'. -/
def auditAgreesUptoCard : Claim7 := { stood := { row := auditAgreesUptoRow, standIns := [], harness := (true, "1da5dd689f347e4c75e837eaf5b67ff3adda5986274e0b9927f7abbc6eac56b2"), looks := false }, kinds := [], alts := [], laidByText := true, laidKinds := [.data, .pinned], laidTests := true, laidLooks := .later }
def AuditAgreesUptoCardSaid : Prop := Claim7.holds Tryd.pinned (.plain (OpenSpec.upto auditAgreesSpec)) auditAgreesUptoCard
end Rows
end Go.Proofs.YtlbdcgnpkapncaaDoor
