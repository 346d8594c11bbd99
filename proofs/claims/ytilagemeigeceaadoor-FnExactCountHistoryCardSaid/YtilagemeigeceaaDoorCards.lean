/-
  DERIVED. GIVEN WITH THE SEED: THE CARDS: each row of YtilagemeigeceaaDoorRows.lean that lists a variable, with what it lists TIED to the program's text (the seventh form; the later family's looks); each row that meets fmt, with fmt's text TOLD by the authors' own Lean function (tested against real Go, not proved from fmt's source: count such statements apart). THE CARD IS WHAT COUNTS. Prove the row's statement (the work); the ties are given (YtilagemeigeceaaDoorTie.lean); close each card by the builder's one call (the guide's Derived/Test/ToyasCard.lean, 'card_holds'). Laid BY PROGRAM, IN A SANDBOX (cutbox-door.mjs). By AI agents, Wed Nov 11 2026. No macro, syntax, notation, axiom, sorry.
-/
import Derived.Test.YtilagemeigeceaaDoorRows
import GoSem.ClaimSeven
namespace Go.Proofs.YtilagemeigeceaaDoor
namespace Rows

/-- THE TIED CARD OF 'laws.FnExactBoxesText'. -/
def fnExactBoxesTextCard : Claim7 := { stood := { row := fnExactBoxesTextRow, standIns := [], harness := (true, "56e6409419508c1496e84b5581c74c3a7f7d7d86c9a5a3e92b38be52b7c0a383"), looks := true }, kinds := [], alts := [], laidByText := true, laidKinds := [.data, .data, .data], laidTests := true, laidLooks := .later }
def FnExactBoxesTextCardSaid : Prop := Claim7.holds Tryd.pinned (.plain (OpenSpec.ofChange fnExactBoxesTextSpec)) fnExactBoxesTextCard

/-- THE TIED CARD OF 'laws.FnExactChainOf'. -/
def fnExactChainOfCard : Claim7 := { stood := { row := fnExactChainOfRow, standIns := [], harness := (true, "56e6409419508c1496e84b5581c74c3a7f7d7d86c9a5a3e92b38be52b7c0a383"), looks := true }, kinds := [], alts := [], laidByText := true, laidKinds := [.data, .data, .data], laidTests := true, laidLooks := .later }
def FnExactChainOfCardSaid : Prop := Claim7.holds Tryd.pinned (.plain (OpenSpec.ofChange fnExactChainOfSpec)) fnExactChainOfCard

/-- THE TIED CARD OF 'laws.FnExactPartsText'. -/
def fnExactPartsTextCard : Claim7 := { stood := { row := fnExactPartsTextRow, standIns := [], harness := (true, "56e6409419508c1496e84b5581c74c3a7f7d7d86c9a5a3e92b38be52b7c0a383"), looks := true }, kinds := [], alts := [], laidByText := true, laidKinds := [.data, .data, .data], laidTests := true, laidLooks := .later }
def FnExactPartsTextCardSaid : Prop := Claim7.holds Tryd.pinned (.plain (OpenSpec.ofChange fnExactPartsTextSpec)) fnExactPartsTextCard

/-- THE TIED CARD OF 'laws.FnExactJournalOf'. -/
def fnExactJournalOfCard : Claim7 := { stood := { row := fnExactJournalOfRow, standIns := [], harness := (true, "56e6409419508c1496e84b5581c74c3a7f7d7d86c9a5a3e92b38be52b7c0a383"), looks := true }, kinds := [], alts := [], laidByText := true, laidKinds := [.data, .data, .data], laidTests := true, laidLooks := .later }
def FnExactJournalOfCardSaid : Prop := Claim7.holds Tryd.pinned (.plain (OpenSpec.ofChange fnExactJournalOfSpec)) fnExactJournalOfCard

/-- THE TIED CARD OF 'laws.FnExactTableLines'. -/
def fnExactTableLinesCard : Claim7 := { stood := { row := fnExactTableLinesRow, standIns := [], harness := (true, "56e6409419508c1496e84b5581c74c3a7f7d7d86c9a5a3e92b38be52b7c0a383"), looks := true }, kinds := [], alts := [], laidByText := true, laidKinds := [.data, .data, .data], laidTests := true, laidLooks := .later }
def FnExactTableLinesCardSaid : Prop := Claim7.holds Tryd.pinned (.plain (OpenSpec.ofChange fnExactTableLinesSpec)) fnExactTableLinesCard

/-- THE TIED CARD OF 'laws.FnExactCheckJournal'. -/
def fnExactCheckJournalCard : Claim7 := { stood := { row := fnExactCheckJournalRow, standIns := [], harness := (true, "56e6409419508c1496e84b5581c74c3a7f7d7d86c9a5a3e92b38be52b7c0a383"), looks := true }, kinds := [], alts := [], laidByText := true, laidKinds := [.data, .data, .data, .data, .sentinel, .sentinel, .pinned], laidTests := true, laidLooks := .later }
def FnExactCheckJournalCardSaid : Prop := Claim7.holds Tryd.pinned (.plain (OpenSpec.ofChange fnExactCheckJournalSpec)) fnExactCheckJournalCard

/-- THE TIED CARD OF 'laws.FnExactReadBoxes'. -/
def fnExactReadBoxesCard : Claim7 := { stood := { row := fnExactReadBoxesRow, standIns := [], harness := (true, "56e6409419508c1496e84b5581c74c3a7f7d7d86c9a5a3e92b38be52b7c0a383"), looks := true }, kinds := [], alts := [], laidByText := true, laidKinds := [.data, .data, .data, .data, .sentinel, .sentinel, .pinned], laidTests := true, laidLooks := .later }
def FnExactReadBoxesCardSaid : Prop := Claim7.holds Tryd.pinned (.plain (OpenSpec.ofChange fnExactReadBoxesSpec)) fnExactReadBoxesCard

/-- THE TIED CARD OF 'laws.FnExactRecoverJournal'. -/
def fnExactRecoverJournalCard : Claim7 := { stood := { row := fnExactRecoverJournalRow, standIns := [], harness := (true, "56e6409419508c1496e84b5581c74c3a7f7d7d86c9a5a3e92b38be52b7c0a383"), looks := true }, kinds := [], alts := [], laidByText := true, laidKinds := [.data, .data, .data, .data, .sentinel, .sentinel, .pinned], laidTests := true, laidLooks := .later }
def FnExactRecoverJournalCardSaid : Prop := Claim7.holds Tryd.pinned (.plain (OpenSpec.ofChange fnExactRecoverJournalSpec)) fnExactRecoverJournalCard

/-- THE TIED CARD OF 'laws.FnExactReadParts'. -/
def fnExactReadPartsCard : Claim7 := { stood := { row := fnExactReadPartsRow, standIns := [], harness := (true, "56e6409419508c1496e84b5581c74c3a7f7d7d86c9a5a3e92b38be52b7c0a383"), looks := true }, kinds := [], alts := [], laidByText := true, laidKinds := [.data, .data, .data, .data, .sentinel, .sentinel, .pinned], laidTests := true, laidLooks := .later }
def FnExactReadPartsCardSaid : Prop := Claim7.holds Tryd.pinned (.plain (OpenSpec.ofChange fnExactReadPartsSpec)) fnExactReadPartsCard

/-- THE TIED CARD OF 'laws.FnExactAddNote'. -/
def fnExactAddNoteCard : Claim7 := { stood := { row := fnExactAddNoteRow, standIns := [], harness := (true, "56e6409419508c1496e84b5581c74c3a7f7d7d86c9a5a3e92b38be52b7c0a383"), looks := true }, kinds := [], alts := [], laidByText := true, laidKinds := [.data, .data, .data, .data, .sentinel, .sentinel, .pinned], laidTests := true, laidLooks := .later }
def FnExactAddNoteCardSaid : Prop := Claim7.holds Tryd.pinned (.plain (OpenSpec.ofChange fnExactAddNoteSpec)) fnExactAddNoteCard

/-- THE TIED CARD OF 'laws.FnLastNotes'. -/
def fnLastNotesCard : Claim7 := { stood := { row := fnLastNotesRow, standIns := [], harness := (true, "56e6409419508c1496e84b5581c74c3a7f7d7d86c9a5a3e92b38be52b7c0a383"), looks := true }, kinds := [], alts := [], laidByText := true, laidKinds := [.data, .data, .data, .data, .sentinel, .sentinel, .pinned], laidTests := true, laidLooks := .later }
def FnLastNotesCardSaid : Prop := Claim7.holds Tryd.pinned (.plain (OpenSpec.ofChange fnLastNotesSpec)) fnLastNotesCard

/-- THE TIED CARD OF 'laws.FnExactCardsNow'. -/
def fnExactCardsNowCard : Claim7 := { stood := { row := fnExactCardsNowRow, standIns := [], harness := (true, "56e6409419508c1496e84b5581c74c3a7f7d7d86c9a5a3e92b38be52b7c0a383"), looks := true }, kinds := [], alts := [], laidByText := true, laidKinds := [.data, .data, .data, .data, .sentinel, .sentinel, .pinned], laidTests := true, laidLooks := .later }
def FnExactCardsNowCardSaid : Prop := Claim7.holds Tryd.pinned (.plain (OpenSpec.ofChange fnExactCardsNowSpec)) fnExactCardsNowCard

/-- THE TIED CARD OF 'laws.FnExactLastNote'. -/
def fnExactLastNoteCard : Claim7 := { stood := { row := fnExactLastNoteRow, standIns := [], harness := (true, "56e6409419508c1496e84b5581c74c3a7f7d7d86c9a5a3e92b38be52b7c0a383"), looks := true }, kinds := [], alts := [], laidByText := true, laidKinds := [.data, .data, .data, .data, .sentinel, .sentinel, .pinned], laidTests := true, laidLooks := .later }
def FnExactLastNoteCardSaid : Prop := Claim7.holds Tryd.pinned (.plain (OpenSpec.ofChange fnExactLastNoteSpec)) fnExactLastNoteCard

/-- THE TIED CARD OF 'laws.FnExactNotesOf'. -/
def fnExactNotesOfCard : Claim7 := { stood := { row := fnExactNotesOfRow, standIns := [], harness := (true, "56e6409419508c1496e84b5581c74c3a7f7d7d86c9a5a3e92b38be52b7c0a383"), looks := true }, kinds := [], alts := [], laidByText := true, laidKinds := [.data, .data, .data, .data, .sentinel, .sentinel, .pinned], laidTests := true, laidLooks := .later }
def FnExactNotesOfCardSaid : Prop := Claim7.holds Tryd.pinned (.plain (OpenSpec.ofChange fnExactNotesOfSpec)) fnExactNotesOfCard

/-- THE TIED CARD OF 'laws.FnExactCountHistory'. -/
def fnExactCountHistoryCard : Claim7 := { stood := { row := fnExactCountHistoryRow, standIns := [], harness := (true, "56e6409419508c1496e84b5581c74c3a7f7d7d86c9a5a3e92b38be52b7c0a383"), looks := true }, kinds := [], alts := [], laidByText := true, laidKinds := [.data, .data, .data, .data, .sentinel, .sentinel, .pinned], laidTests := true, laidLooks := .later }
def FnExactCountHistoryCardSaid : Prop := Claim7.holds Tryd.pinned (.plain (OpenSpec.ofChange fnExactCountHistorySpec)) fnExactCountHistoryCard

/-- THE SECOND FORM's CARD OF 'laws.FnExactBoxesText'. -/
def fnExactBoxesTextUptoCard : Claim7 := { stood := { row := fnExactBoxesTextUptoRow, standIns := [], harness := (true, "56e6409419508c1496e84b5581c74c3a7f7d7d86c9a5a3e92b38be52b7c0a383"), looks := true }, kinds := [], alts := [], laidByText := true, laidKinds := [.data, .data, .data], laidTests := true, laidLooks := .later }
def FnExactBoxesTextUptoCardSaid : Prop := Claim7.holds Tryd.pinned (.plain (OpenSpec.upto fnExactBoxesTextSpec)) fnExactBoxesTextUptoCard

/-- THE SECOND FORM's CARD OF 'laws.FnExactChainOf'. -/
def fnExactChainOfUptoCard : Claim7 := { stood := { row := fnExactChainOfUptoRow, standIns := [], harness := (true, "56e6409419508c1496e84b5581c74c3a7f7d7d86c9a5a3e92b38be52b7c0a383"), looks := true }, kinds := [], alts := [], laidByText := true, laidKinds := [.data, .data, .data], laidTests := true, laidLooks := .later }
def FnExactChainOfUptoCardSaid : Prop := Claim7.holds Tryd.pinned (.plain (OpenSpec.upto fnExactChainOfSpec)) fnExactChainOfUptoCard

/-- THE SECOND FORM's CARD OF 'laws.FnExactPartsText'. -/
def fnExactPartsTextUptoCard : Claim7 := { stood := { row := fnExactPartsTextUptoRow, standIns := [], harness := (true, "56e6409419508c1496e84b5581c74c3a7f7d7d86c9a5a3e92b38be52b7c0a383"), looks := true }, kinds := [], alts := [], laidByText := true, laidKinds := [.data, .data, .data], laidTests := true, laidLooks := .later }
def FnExactPartsTextUptoCardSaid : Prop := Claim7.holds Tryd.pinned (.plain (OpenSpec.upto fnExactPartsTextSpec)) fnExactPartsTextUptoCard

/-- THE SECOND FORM's CARD OF 'laws.FnExactJournalOf'. -/
def fnExactJournalOfUptoCard : Claim7 := { stood := { row := fnExactJournalOfUptoRow, standIns := [], harness := (true, "56e6409419508c1496e84b5581c74c3a7f7d7d86c9a5a3e92b38be52b7c0a383"), looks := true }, kinds := [], alts := [], laidByText := true, laidKinds := [.data, .data, .data], laidTests := true, laidLooks := .later }
def FnExactJournalOfUptoCardSaid : Prop := Claim7.holds Tryd.pinned (.plain (OpenSpec.upto fnExactJournalOfSpec)) fnExactJournalOfUptoCard

/-- THE SECOND FORM's CARD OF 'laws.FnExactTableLines'. -/
def fnExactTableLinesUptoCard : Claim7 := { stood := { row := fnExactTableLinesUptoRow, standIns := [], harness := (true, "56e6409419508c1496e84b5581c74c3a7f7d7d86c9a5a3e92b38be52b7c0a383"), looks := true }, kinds := [], alts := [], laidByText := true, laidKinds := [.data, .data, .data], laidTests := true, laidLooks := .later }
def FnExactTableLinesUptoCardSaid : Prop := Claim7.holds Tryd.pinned (.plain (OpenSpec.upto fnExactTableLinesSpec)) fnExactTableLinesUptoCard

/-- THE SECOND FORM's CARD OF 'laws.FnExactCheckJournal'. -/
def fnExactCheckJournalUptoCard : Claim7 := { stood := { row := fnExactCheckJournalUptoRow, standIns := [], harness := (true, "56e6409419508c1496e84b5581c74c3a7f7d7d86c9a5a3e92b38be52b7c0a383"), looks := true }, kinds := [], alts := [], laidByText := true, laidKinds := [.data, .data, .data, .data, .sentinel, .sentinel, .pinned], laidTests := true, laidLooks := .later }
def FnExactCheckJournalUptoCardSaid : Prop := Claim7.holds Tryd.pinned (.plain (OpenSpec.upto fnExactCheckJournalSpec)) fnExactCheckJournalUptoCard

/-- THE SECOND FORM's CARD OF 'laws.FnExactReadBoxes'. -/
def fnExactReadBoxesUptoCard : Claim7 := { stood := { row := fnExactReadBoxesUptoRow, standIns := [], harness := (true, "56e6409419508c1496e84b5581c74c3a7f7d7d86c9a5a3e92b38be52b7c0a383"), looks := true }, kinds := [], alts := [], laidByText := true, laidKinds := [.data, .data, .data, .data, .sentinel, .sentinel, .pinned], laidTests := true, laidLooks := .later }
def FnExactReadBoxesUptoCardSaid : Prop := Claim7.holds Tryd.pinned (.plain (OpenSpec.upto fnExactReadBoxesSpec)) fnExactReadBoxesUptoCard

/-- THE SECOND FORM's CARD OF 'laws.FnExactRecoverJournal'. -/
def fnExactRecoverJournalUptoCard : Claim7 := { stood := { row := fnExactRecoverJournalUptoRow, standIns := [], harness := (true, "56e6409419508c1496e84b5581c74c3a7f7d7d86c9a5a3e92b38be52b7c0a383"), looks := true }, kinds := [], alts := [], laidByText := true, laidKinds := [.data, .data, .data, .data, .sentinel, .sentinel, .pinned], laidTests := true, laidLooks := .later }
def FnExactRecoverJournalUptoCardSaid : Prop := Claim7.holds Tryd.pinned (.plain (OpenSpec.upto fnExactRecoverJournalSpec)) fnExactRecoverJournalUptoCard

/-- THE SECOND FORM's CARD OF 'laws.FnExactReadParts'. -/
def fnExactReadPartsUptoCard : Claim7 := { stood := { row := fnExactReadPartsUptoRow, standIns := [], harness := (true, "56e6409419508c1496e84b5581c74c3a7f7d7d86c9a5a3e92b38be52b7c0a383"), looks := true }, kinds := [], alts := [], laidByText := true, laidKinds := [.data, .data, .data, .data, .sentinel, .sentinel, .pinned], laidTests := true, laidLooks := .later }
def FnExactReadPartsUptoCardSaid : Prop := Claim7.holds Tryd.pinned (.plain (OpenSpec.upto fnExactReadPartsSpec)) fnExactReadPartsUptoCard

/-- THE SECOND FORM's CARD OF 'laws.FnExactAddNote'. -/
def fnExactAddNoteUptoCard : Claim7 := { stood := { row := fnExactAddNoteUptoRow, standIns := [], harness := (true, "56e6409419508c1496e84b5581c74c3a7f7d7d86c9a5a3e92b38be52b7c0a383"), looks := true }, kinds := [], alts := [], laidByText := true, laidKinds := [.data, .data, .data, .data, .sentinel, .sentinel, .pinned], laidTests := true, laidLooks := .later }
def FnExactAddNoteUptoCardSaid : Prop := Claim7.holds Tryd.pinned (.plain (OpenSpec.upto fnExactAddNoteSpec)) fnExactAddNoteUptoCard

/-- THE SECOND FORM's CARD OF 'laws.FnLastNotes'. -/
def fnLastNotesUptoCard : Claim7 := { stood := { row := fnLastNotesUptoRow, standIns := [], harness := (true, "56e6409419508c1496e84b5581c74c3a7f7d7d86c9a5a3e92b38be52b7c0a383"), looks := true }, kinds := [], alts := [], laidByText := true, laidKinds := [.data, .data, .data, .data, .sentinel, .sentinel, .pinned], laidTests := true, laidLooks := .later }
def FnLastNotesUptoCardSaid : Prop := Claim7.holds Tryd.pinned (.plain (OpenSpec.upto fnLastNotesSpec)) fnLastNotesUptoCard

/-- THE SECOND FORM's CARD OF 'laws.FnExactCardsNow'. -/
def fnExactCardsNowUptoCard : Claim7 := { stood := { row := fnExactCardsNowUptoRow, standIns := [], harness := (true, "56e6409419508c1496e84b5581c74c3a7f7d7d86c9a5a3e92b38be52b7c0a383"), looks := true }, kinds := [], alts := [], laidByText := true, laidKinds := [.data, .data, .data, .data, .sentinel, .sentinel, .pinned], laidTests := true, laidLooks := .later }
def FnExactCardsNowUptoCardSaid : Prop := Claim7.holds Tryd.pinned (.plain (OpenSpec.upto fnExactCardsNowSpec)) fnExactCardsNowUptoCard

/-- THE SECOND FORM's CARD OF 'laws.FnExactLastNote'. -/
def fnExactLastNoteUptoCard : Claim7 := { stood := { row := fnExactLastNoteUptoRow, standIns := [], harness := (true, "56e6409419508c1496e84b5581c74c3a7f7d7d86c9a5a3e92b38be52b7c0a383"), looks := true }, kinds := [], alts := [], laidByText := true, laidKinds := [.data, .data, .data, .data, .sentinel, .sentinel, .pinned], laidTests := true, laidLooks := .later }
def FnExactLastNoteUptoCardSaid : Prop := Claim7.holds Tryd.pinned (.plain (OpenSpec.upto fnExactLastNoteSpec)) fnExactLastNoteUptoCard

/-- THE SECOND FORM's CARD OF 'laws.FnExactNotesOf'. -/
def fnExactNotesOfUptoCard : Claim7 := { stood := { row := fnExactNotesOfUptoRow, standIns := [], harness := (true, "56e6409419508c1496e84b5581c74c3a7f7d7d86c9a5a3e92b38be52b7c0a383"), looks := true }, kinds := [], alts := [], laidByText := true, laidKinds := [.data, .data, .data, .data, .sentinel, .sentinel, .pinned], laidTests := true, laidLooks := .later }
def FnExactNotesOfUptoCardSaid : Prop := Claim7.holds Tryd.pinned (.plain (OpenSpec.upto fnExactNotesOfSpec)) fnExactNotesOfUptoCard

/-- THE SECOND FORM's CARD OF 'laws.FnExactCountHistory'. -/
def fnExactCountHistoryUptoCard : Claim7 := { stood := { row := fnExactCountHistoryUptoRow, standIns := [], harness := (true, "56e6409419508c1496e84b5581c74c3a7f7d7d86c9a5a3e92b38be52b7c0a383"), looks := true }, kinds := [], alts := [], laidByText := true, laidKinds := [.data, .data, .data, .data, .sentinel, .sentinel, .pinned], laidTests := true, laidLooks := .later }
def FnExactCountHistoryUptoCardSaid : Prop := Claim7.holds Tryd.pinned (.plain (OpenSpec.upto fnExactCountHistorySpec)) fnExactCountHistoryUptoCard
end Rows
end Go.Proofs.YtilagemeigeceaaDoor
