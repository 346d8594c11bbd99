/-
  DERIVED. GIVEN WITH THE SEED: THE CARDS: each row of YtfgbijddjoojbaaGreatDoorRows.lean that lists a variable, with what it lists TIED to the program's text (the seventh form; the later family's looks); each row that meets fmt, with fmt's text TOLD by the authors' own Lean function (tested against real Go, not proved from fmt's source: count such statements apart). THE CARD IS WHAT COUNTS. Prove the row's statement (the work); the ties are given (YtfgbijddjoojbaaGreatDoorTie.lean); close each card by the builder's one call (the guide's Derived/Test/ToyasCard.lean, 'card_holds'). Laid BY PROGRAM, IN A SANDBOX (cutbox-door.mjs). By AI agents, Wed Nov 11 2026. No macro, syntax, notation, axiom, sorry.
-/
import Derived.Test.YtfgbijddjoojbaaGreatDoorRows
import GoSem.ClaimSeven
namespace Go.Proofs.YtfgbijddjoojbaaGreatDoor
namespace Rows

/-- THE TIED CARD OF 'laws.FnCensus'. -/
def fnCensusCard : Claim7 := { stood := { row := fnCensusRow, standIns := [], harness := (true, "7dc92111dcecf672ae93db6f2ed5ebd1c25460082f945a9c05499e90d5d170c6"), looks := true }, kinds := [], alts := [], laidByText := true, laidKinds := [.data, .data, .data], laidTests := true, laidLooks := .later }
def FnCensusCardSaid : Prop := Claim7.holds Tryz.pinned (.plain (OpenSpec.ofChange fnCensusSpec)) fnCensusCard

/-- THE TIED CARD OF 'laws.FnMoves'. -/
def fnMovesCard : Claim7 := { stood := { row := fnMovesRow, standIns := [], harness := (true, "7dc92111dcecf672ae93db6f2ed5ebd1c25460082f945a9c05499e90d5d170c6"), looks := true }, kinds := [], alts := [], laidByText := true, laidKinds := [.data, .data, .data, .data, .sentinel, .sentinel, .pinned], laidTests := true, laidLooks := .later }
def FnMovesCardSaid : Prop := Claim7.holds Tryz.pinned (.plain (OpenSpec.ofChange fnMovesSpec)) fnMovesCard

/-- THE SECOND FORM's CARD OF 'laws.FnCensus'. -/
def fnCensusUptoCard : Claim7 := { stood := { row := fnCensusUptoRow, standIns := [], harness := (true, "7dc92111dcecf672ae93db6f2ed5ebd1c25460082f945a9c05499e90d5d170c6"), looks := true }, kinds := [], alts := [], laidByText := true, laidKinds := [.data, .data, .data], laidTests := true, laidLooks := .later }
def FnCensusUptoCardSaid : Prop := Claim7.holds Tryz.pinned (.plain (OpenSpec.upto fnCensusSpec)) fnCensusUptoCard

/-- THE SECOND FORM's CARD OF 'laws.FnMoves'. -/
def fnMovesUptoCard : Claim7 := { stood := { row := fnMovesUptoRow, standIns := [], harness := (true, "7dc92111dcecf672ae93db6f2ed5ebd1c25460082f945a9c05499e90d5d170c6"), looks := true }, kinds := [], alts := [], laidByText := true, laidKinds := [.data, .data, .data, .data, .sentinel, .sentinel, .pinned], laidTests := true, laidLooks := .later }
def FnMovesUptoCardSaid : Prop := Claim7.holds Tryz.pinned (.plain (OpenSpec.upto fnMovesSpec)) fnMovesUptoCard
end Rows
end Go.Proofs.YtfgbijddjoojbaaGreatDoor
