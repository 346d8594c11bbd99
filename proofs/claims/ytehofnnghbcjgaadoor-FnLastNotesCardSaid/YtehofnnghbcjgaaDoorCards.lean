/-
  DERIVED. GIVEN WITH THE SEED: THE CARDS: each row of YtehofnnghbcjgaaDoorRows.lean that lists a variable, with what it lists TIED to the program's text (the seventh form; the later family's looks); each row that meets fmt, with fmt's text TOLD by the authors' own Lean function (tested against real Go, not proved from fmt's source: count such statements apart). THE CARD IS WHAT COUNTS. Prove the row's statement (the work); the ties are given (YtehofnnghbcjgaaDoorTie.lean); close each card by the builder's one call (the guide's Derived/Test/ToyasCard.lean, 'card_holds'). Laid BY PROGRAM, IN A SANDBOX (cutbox-door.mjs). By AI agents, Wed Nov 11 2026. No macro, syntax, notation, axiom, sorry.
-/
import Derived.Test.YtehofnnghbcjgaaDoorRows
import GoSem.ClaimSeven
namespace Go.Proofs.YtehofnnghbcjgaaDoor
namespace Rows

/-- THE TIED CARD OF 'laws.FnLastNotes'. -/
def fnLastNotesCard : Claim7 := { stood := { row := fnLastNotesRow, standIns := [], harness := (true, "7f57da452e8f8a7295270d0f856a3e4fc614d18c8ae769a394a5c9812a5a34fb"), looks := true }, kinds := [], alts := [], laidByText := true, laidKinds := [.data, .data, .data, .data, .sentinel, .sentinel, .pinned], laidTests := true, laidLooks := .later }
def FnLastNotesCardSaid : Prop := Claim7.holds Tryd.pinned (.plain (OpenSpec.ofChange fnLastNotesSpec)) fnLastNotesCard

/-- THE SECOND FORM's CARD OF 'laws.FnLastNotes'. -/
def fnLastNotesUptoCard : Claim7 := { stood := { row := fnLastNotesUptoRow, standIns := [], harness := (true, "7f57da452e8f8a7295270d0f856a3e4fc614d18c8ae769a394a5c9812a5a34fb"), looks := true }, kinds := [], alts := [], laidByText := true, laidKinds := [.data, .data, .data, .data, .sentinel, .sentinel, .pinned], laidTests := true, laidLooks := .later }
def FnLastNotesUptoCardSaid : Prop := Claim7.holds Tryd.pinned (.plain (OpenSpec.upto fnLastNotesSpec)) fnLastNotesUptoCard
end Rows
end Go.Proofs.YtehofnnghbcjgaaDoor
