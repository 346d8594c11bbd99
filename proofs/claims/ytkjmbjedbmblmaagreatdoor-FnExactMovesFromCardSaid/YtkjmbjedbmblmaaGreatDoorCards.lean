/-
  DERIVED. GIVEN WITH THE SEED: THE CARDS: each row of YtkjmbjedbmblmaaGreatDoorRows.lean that lists a variable, with what it lists TIED to the program's text (the seventh form; the later family's looks); each row that meets fmt, with fmt's text TOLD by the authors' own Lean function (tested against real Go, not proved from fmt's source: count such statements apart). THE CARD IS WHAT COUNTS. Prove the row's statement (the work); the ties are given (YtkjmbjedbmblmaaGreatDoorTie.lean); close each card by the builder's one call (the guide's Derived/Test/ToyasCard.lean, 'card_holds'). Laid BY PROGRAM, IN A SANDBOX (cutbox-door.mjs). By AI agents, Wed Nov 11 2026. No macro, syntax, notation, axiom, sorry.
-/
import Derived.Test.YtkjmbjedbmblmaaGreatDoorRows
import GoSem.ClaimSeven
namespace Go.Proofs.YtkjmbjedbmblmaaGreatDoor
namespace Rows

/-- THE TIED CARD OF 'laws.FnCensus'. -/
def fnCensusCard : Claim7 := { stood := { row := fnCensusRow, standIns := [], harness := (true, "29f2d8cfda75ec058b55c4dfa3f0cab1fe107af35ddb47b3392b44d2e82f2330"), looks := true }, kinds := [], alts := [], laidByText := true, laidKinds := [.data, .data, .data], laidTests := true, laidLooks := .later }
def FnCensusCardSaid : Prop := Claim7.holds Tryz.pinned (.plain (OpenSpec.ofChange fnCensusSpec)) fnCensusCard

/-- THE TIED CARD OF 'laws.FnExactMovesFrom'. -/
def fnExactMovesFromCard : Claim7 := { stood := { row := fnExactMovesFromRow, standIns := [], harness := (true, "29f2d8cfda75ec058b55c4dfa3f0cab1fe107af35ddb47b3392b44d2e82f2330"), looks := true }, kinds := [], alts := [], laidByText := true, laidKinds := [.data, .data, .data, .data, .pinned], laidTests := true, laidLooks := .later }
def FnExactMovesFromCardSaid : Prop := Claim7.holds Tryz.pinned (.plain (OpenSpec.ofChange fnExactMovesFromSpec)) fnExactMovesFromCard

/-- THE TIED CARD OF 'laws.FnExactValidDesk'. -/
def fnExactValidDeskCard : Claim7 := { stood := { row := fnExactValidDeskRow, standIns := [], harness := (true, "29f2d8cfda75ec058b55c4dfa3f0cab1fe107af35ddb47b3392b44d2e82f2330"), looks := true }, kinds := [], alts := [], laidByText := true, laidKinds := [.data, .data, .data, .data, .sentinel, .sentinel, .pinned], laidTests := true, laidLooks := .later }
def FnExactValidDeskCardSaid : Prop := Claim7.holds Tryz.pinned (.plain (OpenSpec.ofChange fnExactValidDeskSpec)) fnExactValidDeskCard

/-- THE TIED CARD OF 'laws.FnExactDeskText'. -/
def fnExactDeskTextCard : Claim7 := { stood := { row := fnExactDeskTextRow, standIns := [], harness := (true, "29f2d8cfda75ec058b55c4dfa3f0cab1fe107af35ddb47b3392b44d2e82f2330"), looks := true }, kinds := [], alts := [], laidByText := true, laidKinds := [.data, .data, .data, .data, .sentinel, .sentinel, .pinned], laidTests := true, laidLooks := .later }
def FnExactDeskTextCardSaid : Prop := Claim7.holds Tryz.pinned (.plain (OpenSpec.ofChange fnExactDeskTextSpec)) fnExactDeskTextCard

/-- THE TIED CARD OF 'laws.FnArchives'. -/
def fnArchivesCard : Claim7 := { stood := { row := fnArchivesRow, standIns := [], harness := (true, "29f2d8cfda75ec058b55c4dfa3f0cab1fe107af35ddb47b3392b44d2e82f2330"), looks := true }, kinds := [], alts := [], laidByText := true, laidKinds := [.data, .data, .data, .data, .sentinel, .sentinel, .pinned], laidTests := true, laidLooks := .later }
def FnArchivesCardSaid : Prop := Claim7.holds Tryz.pinned (.plain (OpenSpec.ofChange fnArchivesSpec)) fnArchivesCard

/-- THE TIED CARD OF 'laws.FnMoves'. -/
def fnMovesCard : Claim7 := { stood := { row := fnMovesRow, standIns := [], harness := (true, "29f2d8cfda75ec058b55c4dfa3f0cab1fe107af35ddb47b3392b44d2e82f2330"), looks := true }, kinds := [], alts := [], laidByText := true, laidKinds := [.data, .data, .data, .data, .sentinel, .sentinel, .pinned], laidTests := true, laidLooks := .later }
def FnMovesCardSaid : Prop := Claim7.holds Tryz.pinned (.plain (OpenSpec.ofChange fnMovesSpec)) fnMovesCard

/-- THE SECOND FORM's CARD OF 'laws.FnCensus'. -/
def fnCensusUptoCard : Claim7 := { stood := { row := fnCensusUptoRow, standIns := [], harness := (true, "29f2d8cfda75ec058b55c4dfa3f0cab1fe107af35ddb47b3392b44d2e82f2330"), looks := true }, kinds := [], alts := [], laidByText := true, laidKinds := [.data, .data, .data], laidTests := true, laidLooks := .later }
def FnCensusUptoCardSaid : Prop := Claim7.holds Tryz.pinned (.plain (OpenSpec.upto fnCensusSpec)) fnCensusUptoCard

/-- THE SECOND FORM's CARD OF 'laws.FnExactMovesFrom'. -/
def fnExactMovesFromUptoCard : Claim7 := { stood := { row := fnExactMovesFromUptoRow, standIns := [], harness := (true, "29f2d8cfda75ec058b55c4dfa3f0cab1fe107af35ddb47b3392b44d2e82f2330"), looks := true }, kinds := [], alts := [], laidByText := true, laidKinds := [.data, .data, .data, .data, .pinned], laidTests := true, laidLooks := .later }
def FnExactMovesFromUptoCardSaid : Prop := Claim7.holds Tryz.pinned (.plain (OpenSpec.upto fnExactMovesFromSpec)) fnExactMovesFromUptoCard

/-- THE SECOND FORM's CARD OF 'laws.FnExactValidDesk'. -/
def fnExactValidDeskUptoCard : Claim7 := { stood := { row := fnExactValidDeskUptoRow, standIns := [], harness := (true, "29f2d8cfda75ec058b55c4dfa3f0cab1fe107af35ddb47b3392b44d2e82f2330"), looks := true }, kinds := [], alts := [], laidByText := true, laidKinds := [.data, .data, .data, .data, .sentinel, .sentinel, .pinned], laidTests := true, laidLooks := .later }
def FnExactValidDeskUptoCardSaid : Prop := Claim7.holds Tryz.pinned (.plain (OpenSpec.upto fnExactValidDeskSpec)) fnExactValidDeskUptoCard

/-- THE SECOND FORM's CARD OF 'laws.FnExactDeskText'. -/
def fnExactDeskTextUptoCard : Claim7 := { stood := { row := fnExactDeskTextUptoRow, standIns := [], harness := (true, "29f2d8cfda75ec058b55c4dfa3f0cab1fe107af35ddb47b3392b44d2e82f2330"), looks := true }, kinds := [], alts := [], laidByText := true, laidKinds := [.data, .data, .data, .data, .sentinel, .sentinel, .pinned], laidTests := true, laidLooks := .later }
def FnExactDeskTextUptoCardSaid : Prop := Claim7.holds Tryz.pinned (.plain (OpenSpec.upto fnExactDeskTextSpec)) fnExactDeskTextUptoCard

/-- THE SECOND FORM's CARD OF 'laws.FnArchives'. -/
def fnArchivesUptoCard : Claim7 := { stood := { row := fnArchivesUptoRow, standIns := [], harness := (true, "29f2d8cfda75ec058b55c4dfa3f0cab1fe107af35ddb47b3392b44d2e82f2330"), looks := true }, kinds := [], alts := [], laidByText := true, laidKinds := [.data, .data, .data, .data, .sentinel, .sentinel, .pinned], laidTests := true, laidLooks := .later }
def FnArchivesUptoCardSaid : Prop := Claim7.holds Tryz.pinned (.plain (OpenSpec.upto fnArchivesSpec)) fnArchivesUptoCard

/-- THE SECOND FORM's CARD OF 'laws.FnMoves'. -/
def fnMovesUptoCard : Claim7 := { stood := { row := fnMovesUptoRow, standIns := [], harness := (true, "29f2d8cfda75ec058b55c4dfa3f0cab1fe107af35ddb47b3392b44d2e82f2330"), looks := true }, kinds := [], alts := [], laidByText := true, laidKinds := [.data, .data, .data, .data, .sentinel, .sentinel, .pinned], laidTests := true, laidLooks := .later }
def FnMovesUptoCardSaid : Prop := Claim7.holds Tryz.pinned (.plain (OpenSpec.upto fnMovesSpec)) fnMovesUptoCard
end Rows
end Go.Proofs.YtkjmbjedbmblmaaGreatDoor
