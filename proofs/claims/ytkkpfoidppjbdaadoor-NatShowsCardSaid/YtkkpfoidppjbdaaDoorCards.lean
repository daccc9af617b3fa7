/-
  DERIVED. GIVEN WITH THE SEED: THE CARDS: each row of YtkkpfoidppjbdaaDoorRows.lean that lists a variable, with what it lists TIED to the program's text (the seventh form; the later family's looks); each row that meets fmt, with fmt's text TOLD by the authors' own Lean function (tested against real Go, not proved from fmt's source: count such statements apart). THE CARD IS WHAT COUNTS. Prove the row's statement (the work); the ties are given (YtkkpfoidppjbdaaDoorTie.lean); close each card by the builder's one call (the guide's Derived/Test/ToyasCard.lean, 'card_holds'). Laid BY PROGRAM, IN A SANDBOX (cutbox-door.mjs). By AI agents, Wed Nov 11 2026. No macro, syntax, notation, axiom, sorry.
-/
import Derived.Test.YtkkpfoidppjbdaaDoorRows
import GoSem.ClaimSeven
namespace Go.Proofs.YtkkpfoidppjbdaaDoor
namespace Rows

/-- THE TIED CARD OF 'hustingslaw2.NatRing'. -/
def natRingCard : Claim7 := { stood := { row := natRingRow, standIns := [], harness := (true, "1a1fd4285dc36dbfad80bd4593003d1a070527b82604f9f930bfa6273586c466"), looks := false }, kinds := [], alts := [], laidByText := true, laidKinds := [.data, .pinned], laidTests := true, laidLooks := .later }
def NatRingCardSaid : Prop := Claim7.holds Tryd.pinned (.plain (OpenSpec.ofChange natRingSpec)) natRingCard

/-- THE TIED CARD OF 'hustingslaw2.NatReckons'. -/
def natReckonsCard : Claim7 := { stood := { row := natReckonsRow, standIns := [], harness := (true, "1a1fd4285dc36dbfad80bd4593003d1a070527b82604f9f930bfa6273586c466"), looks := false }, kinds := [], alts := [], laidByText := true, laidKinds := [.data, .pinned], laidTests := true, laidLooks := .later }
def NatReckonsCardSaid : Prop := Claim7.holds Tryd.pinned (.plain (OpenSpec.ofChange natReckonsSpec)) natReckonsCard

/-- THE TIED CARD OF 'hustingslaw2.NatDivides'. -/
def natDividesCard : Claim7 := { stood := { row := natDividesRow, standIns := [], harness := (true, "1a1fd4285dc36dbfad80bd4593003d1a070527b82604f9f930bfa6273586c466"), looks := false }, kinds := [], alts := [], laidByText := true, laidKinds := [.data, .pinned], laidTests := true, laidLooks := .later }
def NatDividesCardSaid : Prop := Claim7.holds Tryd.pinned (.plain (OpenSpec.ofChange natDividesSpec)) natDividesCard

/-- THE TIED CARD OF 'hustingslaw2.NatEuclid'. -/
def natEuclidCard : Claim7 := { stood := { row := natEuclidRow, standIns := [], harness := (true, "1a1fd4285dc36dbfad80bd4593003d1a070527b82604f9f930bfa6273586c466"), looks := false }, kinds := [], alts := [], laidByText := true, laidKinds := [.data, .pinned], laidTests := true, laidLooks := .later }
def NatEuclidCardSaid : Prop := Claim7.holds Tryd.pinned (.plain (OpenSpec.ofChange natEuclidSpec)) natEuclidCard

/-- THE TIED CARD OF 'hustingslaw2.NatFracs'. -/
def natFracsCard : Claim7 := { stood := { row := natFracsRow, standIns := [], harness := (true, "1a1fd4285dc36dbfad80bd4593003d1a070527b82604f9f930bfa6273586c466"), looks := false }, kinds := [], alts := [], laidByText := true, laidKinds := [.data, .pinned], laidTests := true, laidLooks := .later }
def NatFracsCardSaid : Prop := Claim7.holds Tryd.pinned (.plain (OpenSpec.ofChange natFracsSpec)) natFracsCard

/-- THE TIED CARD OF 'hustingslaw2.NatField'. -/
def natFieldCard : Claim7 := { stood := { row := natFieldRow, standIns := [], harness := (true, "1a1fd4285dc36dbfad80bd4593003d1a070527b82604f9f930bfa6273586c466"), looks := false }, kinds := [], alts := [], laidByText := true, laidKinds := [.data, .pinned], laidTests := true, laidLooks := .later }
def NatFieldCardSaid : Prop := Claim7.holds Tryd.pinned (.plain (OpenSpec.ofChange natFieldSpec)) natFieldCard

/-- THE TIED CARD OF 'hustingslaw2.NatShows'. -/
def natShowsCard : Claim7 := { stood := { row := natShowsRow, standIns := [], harness := (true, "1a1fd4285dc36dbfad80bd4593003d1a070527b82604f9f930bfa6273586c466"), looks := false }, kinds := [], alts := [], laidByText := true, laidKinds := [.data, .pinned], laidTests := true, laidLooks := .later }
def NatShowsCardSaid : Prop := Claim7.holds Tryd.pinned (.plain (OpenSpec.ofChange natShowsSpec)) natShowsCard

/-- THE SECOND FORM's CARD OF 'hustingslaw2.NatRing'. -/
def natRingUptoCard : Claim7 := { stood := { row := natRingUptoRow, standIns := [], harness := (true, "1a1fd4285dc36dbfad80bd4593003d1a070527b82604f9f930bfa6273586c466"), looks := false }, kinds := [], alts := [], laidByText := true, laidKinds := [.data, .pinned], laidTests := true, laidLooks := .later }
def NatRingUptoCardSaid : Prop := Claim7.holds Tryd.pinned (.plain (OpenSpec.upto natRingSpec)) natRingUptoCard

/-- THE SECOND FORM's CARD OF 'hustingslaw2.NatReckons'. -/
def natReckonsUptoCard : Claim7 := { stood := { row := natReckonsUptoRow, standIns := [], harness := (true, "1a1fd4285dc36dbfad80bd4593003d1a070527b82604f9f930bfa6273586c466"), looks := false }, kinds := [], alts := [], laidByText := true, laidKinds := [.data, .pinned], laidTests := true, laidLooks := .later }
def NatReckonsUptoCardSaid : Prop := Claim7.holds Tryd.pinned (.plain (OpenSpec.upto natReckonsSpec)) natReckonsUptoCard

/-- THE SECOND FORM's CARD OF 'hustingslaw2.NatDivides'. -/
def natDividesUptoCard : Claim7 := { stood := { row := natDividesUptoRow, standIns := [], harness := (true, "1a1fd4285dc36dbfad80bd4593003d1a070527b82604f9f930bfa6273586c466"), looks := false }, kinds := [], alts := [], laidByText := true, laidKinds := [.data, .pinned], laidTests := true, laidLooks := .later }
def NatDividesUptoCardSaid : Prop := Claim7.holds Tryd.pinned (.plain (OpenSpec.upto natDividesSpec)) natDividesUptoCard

/-- THE SECOND FORM's CARD OF 'hustingslaw2.NatEuclid'. -/
def natEuclidUptoCard : Claim7 := { stood := { row := natEuclidUptoRow, standIns := [], harness := (true, "1a1fd4285dc36dbfad80bd4593003d1a070527b82604f9f930bfa6273586c466"), looks := false }, kinds := [], alts := [], laidByText := true, laidKinds := [.data, .pinned], laidTests := true, laidLooks := .later }
def NatEuclidUptoCardSaid : Prop := Claim7.holds Tryd.pinned (.plain (OpenSpec.upto natEuclidSpec)) natEuclidUptoCard

/-- THE SECOND FORM's CARD OF 'hustingslaw2.NatFracs'. -/
def natFracsUptoCard : Claim7 := { stood := { row := natFracsUptoRow, standIns := [], harness := (true, "1a1fd4285dc36dbfad80bd4593003d1a070527b82604f9f930bfa6273586c466"), looks := false }, kinds := [], alts := [], laidByText := true, laidKinds := [.data, .pinned], laidTests := true, laidLooks := .later }
def NatFracsUptoCardSaid : Prop := Claim7.holds Tryd.pinned (.plain (OpenSpec.upto natFracsSpec)) natFracsUptoCard

/-- THE SECOND FORM's CARD OF 'hustingslaw2.NatField'. -/
def natFieldUptoCard : Claim7 := { stood := { row := natFieldUptoRow, standIns := [], harness := (true, "1a1fd4285dc36dbfad80bd4593003d1a070527b82604f9f930bfa6273586c466"), looks := false }, kinds := [], alts := [], laidByText := true, laidKinds := [.data, .pinned], laidTests := true, laidLooks := .later }
def NatFieldUptoCardSaid : Prop := Claim7.holds Tryd.pinned (.plain (OpenSpec.upto natFieldSpec)) natFieldUptoCard

/-- THE SECOND FORM's CARD OF 'hustingslaw2.NatShows'. -/
def natShowsUptoCard : Claim7 := { stood := { row := natShowsUptoRow, standIns := [], harness := (true, "1a1fd4285dc36dbfad80bd4593003d1a070527b82604f9f930bfa6273586c466"), looks := false }, kinds := [], alts := [], laidByText := true, laidKinds := [.data, .pinned], laidTests := true, laidLooks := .later }
def NatShowsUptoCardSaid : Prop := Claim7.holds Tryd.pinned (.plain (OpenSpec.upto natShowsSpec)) natShowsUptoCard
end Rows
end Go.Proofs.YtkkpfoidppjbdaaDoor
