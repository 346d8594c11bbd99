/-
  DERIVED. GIVEN WITH THE SEED: THE CARDS: each row of YtpjeooikjcdbpaaDoorRows.lean that lists a variable, with what it lists TIED to the program's text (the seventh form; the later family's looks); each row that meets fmt, with fmt's text TOLD by the authors' own Lean function (tested against real Go, not proved from fmt's source: count such statements apart). THE CARD IS WHAT COUNTS. Prove the row's statement (the work); the ties are given (YtpjeooikjcdbpaaDoorTie.lean); close each card by the builder's one call (the guide's Derived/Test/ToyasCard.lean, 'card_holds'). Laid BY PROGRAM, IN A SANDBOX (cutbox-door.mjs). By AI agents, Wed Nov 11 2026. No macro, syntax, notation, axiom, sorry.
-/
import Derived.Test.YtpjeooikjcdbpaaDoorRows
import GoSem.ClaimSeven
namespace Go.Proofs.YtpjeooikjcdbpaaDoor
namespace Rows

/-- THE TIED CARD OF 'laws.FnExactTableLines'. -/
def fnExactTableLinesCard : Claim7 := { stood := { row := fnExactTableLinesRow, standIns := [], harness := (true, "d98f2e5cbd01c34bff6cd34bbadc67aeb6001fe59fa52dbeeddbca54d1478fed"), looks := true }, kinds := [], alts := [], laidByText := true, laidKinds := [.data, .data, .data], laidTests := true, laidLooks := .later }
def FnExactTableLinesCardSaid : Prop := Claim7.holds Tryd.pinned (.plain (OpenSpec.ofChange fnExactTableLinesSpec)) fnExactTableLinesCard

/-- THE TIED CARD OF 'laws.FnExactReadBoxes'. -/
def fnExactReadBoxesCard : Claim7 := { stood := { row := fnExactReadBoxesRow, standIns := [], harness := (true, "d98f2e5cbd01c34bff6cd34bbadc67aeb6001fe59fa52dbeeddbca54d1478fed"), looks := true }, kinds := [], alts := [], laidByText := true, laidKinds := [.data, .data, .data, .data, .sentinel, .sentinel, .pinned], laidTests := true, laidLooks := .later }
def FnExactReadBoxesCardSaid : Prop := Claim7.holds Tryd.pinned (.plain (OpenSpec.ofChange fnExactReadBoxesSpec)) fnExactReadBoxesCard

/-- THE TIED CARD OF 'laws.FnExactReadParts'. -/
def fnExactReadPartsCard : Claim7 := { stood := { row := fnExactReadPartsRow, standIns := [], harness := (true, "d98f2e5cbd01c34bff6cd34bbadc67aeb6001fe59fa52dbeeddbca54d1478fed"), looks := true }, kinds := [], alts := [], laidByText := true, laidKinds := [.data, .data, .data, .data, .sentinel, .sentinel, .pinned], laidTests := true, laidLooks := .later }
def FnExactReadPartsCardSaid : Prop := Claim7.holds Tryd.pinned (.plain (OpenSpec.ofChange fnExactReadPartsSpec)) fnExactReadPartsCard

/-- THE TIED CARD OF 'laws.FnLastNotes'. -/
def fnLastNotesCard : Claim7 := { stood := { row := fnLastNotesRow, standIns := [], harness := (true, "d98f2e5cbd01c34bff6cd34bbadc67aeb6001fe59fa52dbeeddbca54d1478fed"), looks := true }, kinds := [], alts := [], laidByText := true, laidKinds := [.data, .data, .data, .data, .sentinel, .sentinel, .pinned], laidTests := true, laidLooks := .later }
def FnLastNotesCardSaid : Prop := Claim7.holds Tryd.pinned (.plain (OpenSpec.ofChange fnLastNotesSpec)) fnLastNotesCard

/-- THE SECOND FORM's CARD OF 'laws.FnExactTableLines'. -/
def fnExactTableLinesUptoCard : Claim7 := { stood := { row := fnExactTableLinesUptoRow, standIns := [], harness := (true, "d98f2e5cbd01c34bff6cd34bbadc67aeb6001fe59fa52dbeeddbca54d1478fed"), looks := true }, kinds := [], alts := [], laidByText := true, laidKinds := [.data, .data, .data], laidTests := true, laidLooks := .later }
def FnExactTableLinesUptoCardSaid : Prop := Claim7.holds Tryd.pinned (.plain (OpenSpec.upto fnExactTableLinesSpec)) fnExactTableLinesUptoCard

/-- THE SECOND FORM's CARD OF 'laws.FnExactReadBoxes'. -/
def fnExactReadBoxesUptoCard : Claim7 := { stood := { row := fnExactReadBoxesUptoRow, standIns := [], harness := (true, "d98f2e5cbd01c34bff6cd34bbadc67aeb6001fe59fa52dbeeddbca54d1478fed"), looks := true }, kinds := [], alts := [], laidByText := true, laidKinds := [.data, .data, .data, .data, .sentinel, .sentinel, .pinned], laidTests := true, laidLooks := .later }
def FnExactReadBoxesUptoCardSaid : Prop := Claim7.holds Tryd.pinned (.plain (OpenSpec.upto fnExactReadBoxesSpec)) fnExactReadBoxesUptoCard

/-- THE SECOND FORM's CARD OF 'laws.FnExactReadParts'. -/
def fnExactReadPartsUptoCard : Claim7 := { stood := { row := fnExactReadPartsUptoRow, standIns := [], harness := (true, "d98f2e5cbd01c34bff6cd34bbadc67aeb6001fe59fa52dbeeddbca54d1478fed"), looks := true }, kinds := [], alts := [], laidByText := true, laidKinds := [.data, .data, .data, .data, .sentinel, .sentinel, .pinned], laidTests := true, laidLooks := .later }
def FnExactReadPartsUptoCardSaid : Prop := Claim7.holds Tryd.pinned (.plain (OpenSpec.upto fnExactReadPartsSpec)) fnExactReadPartsUptoCard

/-- THE SECOND FORM's CARD OF 'laws.FnLastNotes'. -/
def fnLastNotesUptoCard : Claim7 := { stood := { row := fnLastNotesUptoRow, standIns := [], harness := (true, "d98f2e5cbd01c34bff6cd34bbadc67aeb6001fe59fa52dbeeddbca54d1478fed"), looks := true }, kinds := [], alts := [], laidByText := true, laidKinds := [.data, .data, .data, .data, .sentinel, .sentinel, .pinned], laidTests := true, laidLooks := .later }
def FnLastNotesUptoCardSaid : Prop := Claim7.holds Tryd.pinned (.plain (OpenSpec.upto fnLastNotesSpec)) fnLastNotesUptoCard
end Rows
end Go.Proofs.YtpjeooikjcdbpaaDoor
