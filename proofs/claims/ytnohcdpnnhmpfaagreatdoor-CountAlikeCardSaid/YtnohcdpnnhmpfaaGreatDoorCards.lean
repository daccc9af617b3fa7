/-
  DERIVED. GIVEN WITH THE SEED: THE CARDS: each row of YtnohcdpnnhmpfaaGreatDoorRows.lean that lists a variable, with what it lists TIED to the program's text (the seventh form; the later family's looks); each row that meets fmt, with fmt's text TOLD by the authors' own Lean function (tested against real Go, not proved from fmt's source: count such statements apart). THE CARD IS WHAT COUNTS. Prove the row's statement (the work); the ties are given (YtnohcdpnnhmpfaaGreatDoorTie.lean); close each card by the builder's one call (the guide's Derived/Test/ToyasCard.lean, 'card_holds'). Laid BY PROGRAM, IN A SANDBOX (cutbox-door.mjs). By AI agents, Wed Nov 11 2026. No macro, syntax, notation, axiom, sorry.
-/
import Derived.Test.YtnohcdpnnhmpfaaGreatDoorRows
import GoSem.ClaimSeven
namespace Go.Proofs.YtnohcdpnnhmpfaaGreatDoor
namespace Rows

/-- THE TIED CARD OF 'hustingslaw13.CountTransfers'. -/
def countTransfersCard : Claim7 := { stood := { row := countTransfersRow, standIns := [], harness := (true, "41a9b3faf2fb97b2813ff5107f8233bb7fa78f62458e8359e573e3f2298ac301"), looks := false }, kinds := [], alts := [], laidByText := true, laidKinds := [.data, .pinned], laidTests := true, laidLooks := .later }
def CountTransfersCardSaid : Prop := Claim7.holds Tryz.pinned (.plain (OpenSpec.ofChange countTransfersSpec)) countTransfersCard

/-- THE TIED CARD OF 'hustingslaw13.CountDroop'. -/
def countDroopCard : Claim7 := { stood := { row := countDroopRow, standIns := [], harness := (true, "41a9b3faf2fb97b2813ff5107f8233bb7fa78f62458e8359e573e3f2298ac301"), looks := false }, kinds := [], alts := [], laidByText := true, laidKinds := [.data, .pinned], laidTests := true, laidLooks := .later }
def CountDroopCardSaid : Prop := Claim7.holds Tryz.pinned (.plain (OpenSpec.ofChange countDroopSpec)) countDroopCard

/-- THE TIED CARD OF 'hustingslaw13.CountKeeps'. -/
def countKeepsCard : Claim7 := { stood := { row := countKeepsRow, standIns := [], harness := (true, "41a9b3faf2fb97b2813ff5107f8233bb7fa78f62458e8359e573e3f2298ac301"), looks := false }, kinds := [], alts := [], laidByText := true, laidKinds := [.data, .pinned], laidTests := true, laidLooks := .later }
def CountKeepsCardSaid : Prop := Claim7.holds Tryz.pinned (.plain (OpenSpec.ofChange countKeepsSpec)) countKeepsCard

/-- THE TIED CARD OF 'hustingslaw13.CountElects'. -/
def countElectsCard : Claim7 := { stood := { row := countElectsRow, standIns := [], harness := (true, "41a9b3faf2fb97b2813ff5107f8233bb7fa78f62458e8359e573e3f2298ac301"), looks := false }, kinds := [], alts := [], laidByText := true, laidKinds := [.data, .pinned], laidTests := true, laidLooks := .later }
def CountElectsCardSaid : Prop := Claim7.holds Tryz.pinned (.plain (OpenSpec.ofChange countElectsSpec)) countElectsCard

/-- THE TIED CARD OF 'hustingslaw13.CountAlike'. -/
def countAlikeCard : Claim7 := { stood := { row := countAlikeRow, standIns := [], harness := (true, "41a9b3faf2fb97b2813ff5107f8233bb7fa78f62458e8359e573e3f2298ac301"), looks := false }, kinds := [], alts := [], laidByText := true, laidKinds := [.data, .pinned], laidTests := true, laidLooks := .later }
def CountAlikeCardSaid : Prop := Claim7.holds Tryz.pinned (.plain (OpenSpec.ofChange countAlikeSpec)) countAlikeCard

/-- THE TIED CARD OF 'hustingslaw13.CountBest'. -/
def countBestCard : Claim7 := { stood := { row := countBestRow, standIns := [], harness := (true, "41a9b3faf2fb97b2813ff5107f8233bb7fa78f62458e8359e573e3f2298ac301"), looks := false }, kinds := [], alts := [], laidByText := true, laidKinds := [.data, .pinned], laidTests := true, laidLooks := .later }
def CountBestCardSaid : Prop := Claim7.holds Tryz.pinned (.plain (OpenSpec.ofChange countBestSpec)) countBestCard

/-- THE SECOND FORM's CARD OF 'hustingslaw13.CountTransfers'. -/
def countTransfersUptoCard : Claim7 := { stood := { row := countTransfersUptoRow, standIns := [], harness := (true, "41a9b3faf2fb97b2813ff5107f8233bb7fa78f62458e8359e573e3f2298ac301"), looks := false }, kinds := [], alts := [], laidByText := true, laidKinds := [.data, .pinned], laidTests := true, laidLooks := .later }
def CountTransfersUptoCardSaid : Prop := Claim7.holds Tryz.pinned (.plain (OpenSpec.upto countTransfersSpec)) countTransfersUptoCard

/-- THE SECOND FORM's CARD OF 'hustingslaw13.CountDroop'. -/
def countDroopUptoCard : Claim7 := { stood := { row := countDroopUptoRow, standIns := [], harness := (true, "41a9b3faf2fb97b2813ff5107f8233bb7fa78f62458e8359e573e3f2298ac301"), looks := false }, kinds := [], alts := [], laidByText := true, laidKinds := [.data, .pinned], laidTests := true, laidLooks := .later }
def CountDroopUptoCardSaid : Prop := Claim7.holds Tryz.pinned (.plain (OpenSpec.upto countDroopSpec)) countDroopUptoCard

/-- THE SECOND FORM's CARD OF 'hustingslaw13.CountKeeps'. -/
def countKeepsUptoCard : Claim7 := { stood := { row := countKeepsUptoRow, standIns := [], harness := (true, "41a9b3faf2fb97b2813ff5107f8233bb7fa78f62458e8359e573e3f2298ac301"), looks := false }, kinds := [], alts := [], laidByText := true, laidKinds := [.data, .pinned], laidTests := true, laidLooks := .later }
def CountKeepsUptoCardSaid : Prop := Claim7.holds Tryz.pinned (.plain (OpenSpec.upto countKeepsSpec)) countKeepsUptoCard

/-- THE SECOND FORM's CARD OF 'hustingslaw13.CountElects'. -/
def countElectsUptoCard : Claim7 := { stood := { row := countElectsUptoRow, standIns := [], harness := (true, "41a9b3faf2fb97b2813ff5107f8233bb7fa78f62458e8359e573e3f2298ac301"), looks := false }, kinds := [], alts := [], laidByText := true, laidKinds := [.data, .pinned], laidTests := true, laidLooks := .later }
def CountElectsUptoCardSaid : Prop := Claim7.holds Tryz.pinned (.plain (OpenSpec.upto countElectsSpec)) countElectsUptoCard

/-- THE SECOND FORM's CARD OF 'hustingslaw13.CountAlike'. -/
def countAlikeUptoCard : Claim7 := { stood := { row := countAlikeUptoRow, standIns := [], harness := (true, "41a9b3faf2fb97b2813ff5107f8233bb7fa78f62458e8359e573e3f2298ac301"), looks := false }, kinds := [], alts := [], laidByText := true, laidKinds := [.data, .pinned], laidTests := true, laidLooks := .later }
def CountAlikeUptoCardSaid : Prop := Claim7.holds Tryz.pinned (.plain (OpenSpec.upto countAlikeSpec)) countAlikeUptoCard

/-- THE SECOND FORM's CARD OF 'hustingslaw13.CountBest'. -/
def countBestUptoCard : Claim7 := { stood := { row := countBestUptoRow, standIns := [], harness := (true, "41a9b3faf2fb97b2813ff5107f8233bb7fa78f62458e8359e573e3f2298ac301"), looks := false }, kinds := [], alts := [], laidByText := true, laidKinds := [.data, .pinned], laidTests := true, laidLooks := .later }
def CountBestUptoCardSaid : Prop := Claim7.holds Tryz.pinned (.plain (OpenSpec.upto countBestSpec)) countBestUptoCard
end Rows
end Go.Proofs.YtnohcdpnnhmpfaaGreatDoor
