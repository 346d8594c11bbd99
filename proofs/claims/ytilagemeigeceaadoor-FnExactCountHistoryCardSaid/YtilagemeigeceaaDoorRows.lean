/-
  NARROWER THAN 'FOR EVERY INPUT', by the rows' own cells (each row's printed sentence says how): FnExactBoxesText: laid · FnExactChainOf: laid · FnExactPartsText: laid · FnExactJournalOf: laid · FnExactTableLines: laid · FnExactCheckJournal: laid · FnExactReadBoxes: laid · FnExactRecoverJournal: laid · FnExactReadParts: laid · FnExactAddNote: laid · FnLastNotes: laid · FnExactCardsNow: laid · FnExactLastNote: laid · FnExactNotesOf: laid · FnExactCountHistory: laid.
  DERIVED. THE GIVEN ROWS OF THIS SEAT. 15 by the template 'for every input the law returns true; each argument reads behind the call as it read before'; 0 by the template 'total and deterministic' (their statements: YtilagemeigeceaaDoorTotals.lean).
  GIVEN WITH THE SEED: the statements are not yours to turn. If you find one false, say at which input.
  Laid BY PROGRAM, IN A SANDBOX (cutbox-rows.mjs): the forced cells as the released guide's own fill.sh prints them over the translation 2ab2649c5efcaf88… (all of the seat's roots in one cut). By AI agents, Wed Nov 11 2026. No macro, syntax, notation, axiom, sorry.
-/
import Derived.Test.YtilagemeigeceaaDoorChecked
import GoSem.PinnedTables
import GoSem.Claim
import GoSem.ClaimJoined
import GoSem.ClaimMapViews
import Derived.JoinedTies
import Derived.KernelRfl
namespace Go.Proofs.YtilagemeigeceaaDoor
/- THE CELL 'sum', in the pinned program and in every row, IS THE sha256 OF THE DUMP (.gsa) THAT YtilagemeigeceaaDoorProg.lean LOADS. Nothing in Lean hashes anything: it is a label: what it is worth is what the hold of that sum in a sandbox is worth. -/
noncomputable def Tryd.pinned : Pinned := { name := "ytilagemeigeceaadoor", sum := "2ab2649c5efcaf885163b6648a110b830328943c028c4be45db18306c0ebe574", checked := Tryd.checked }
namespace Rows
def none {H : Type} : Left H := { results := [], args := [] }

/- WHAT THE LISTED PACKAGE-LEVEL VARIABLES READ AS WHEN THE CALL BEGINS. Each datum BY PROGRAM (the guide's laid-datum.mjs) off the statement by which the dump's own 'gosem.cut.vars' lays the variable. In a bare row this is a premise. The card (YtilagemeigeceaaDoorCards.lean) ties it to the program's text. -/
def laid_math_bits_deBruijn32tab {H : Type} : DataW H := .agg [.lit (.int .u8 0), .lit (.int .u8 1), .lit (.int .u8 28), .lit (.int .u8 2), .lit (.int .u8 29), .lit (.int .u8 14), .lit (.int .u8 24), .lit (.int .u8 3), .lit (.int .u8 30), .lit (.int .u8 22), .lit (.int .u8 20), .lit (.int .u8 15), .lit (.int .u8 25), .lit (.int .u8 17), .lit (.int .u8 4), .lit (.int .u8 8), .lit (.int .u8 31), .lit (.int .u8 27), .lit (.int .u8 13), .lit (.int .u8 23), .lit (.int .u8 21), .lit (.int .u8 19), .lit (.int .u8 16), .lit (.int .u8 7), .lit (.int .u8 26), .lit (.int .u8 12), .lit (.int .u8 18), .lit (.int .u8 6), .lit (.int .u8 11), .lit (.int .u8 5), .lit (.int .u8 10), .lit (.int .u8 9)]
def laid_math_bits_deBruijn64tab {H : Type} : DataW H := .agg [.lit (.int .u8 0), .lit (.int .u8 1), .lit (.int .u8 56), .lit (.int .u8 2), .lit (.int .u8 57), .lit (.int .u8 49), .lit (.int .u8 28), .lit (.int .u8 3), .lit (.int .u8 61), .lit (.int .u8 58), .lit (.int .u8 42), .lit (.int .u8 50), .lit (.int .u8 38), .lit (.int .u8 29), .lit (.int .u8 17), .lit (.int .u8 4), .lit (.int .u8 62), .lit (.int .u8 47), .lit (.int .u8 59), .lit (.int .u8 36), .lit (.int .u8 45), .lit (.int .u8 43), .lit (.int .u8 51), .lit (.int .u8 22), .lit (.int .u8 53), .lit (.int .u8 39), .lit (.int .u8 33), .lit (.int .u8 30), .lit (.int .u8 24), .lit (.int .u8 18), .lit (.int .u8 12), .lit (.int .u8 5), .lit (.int .u8 63), .lit (.int .u8 55), .lit (.int .u8 48), .lit (.int .u8 27), .lit (.int .u8 60), .lit (.int .u8 41), .lit (.int .u8 37), .lit (.int .u8 16), .lit (.int .u8 46), .lit (.int .u8 35), .lit (.int .u8 44), .lit (.int .u8 21), .lit (.int .u8 52), .lit (.int .u8 32), .lit (.int .u8 23), .lit (.int .u8 11), .lit (.int .u8 54), .lit (.int .u8 26), .lit (.int .u8 40), .lit (.int .u8 15), .lit (.int .u8 34), .lit (.int .u8 20), .lit (.int .u8 31), .lit (.int .u8 10), .lit (.int .u8 25), .lit (.int .u8 14), .lit (.int .u8 19), .lit (.int .u8 9), .lit (.int .u8 13), .lit (.int .u8 8), .lit (.int .u8 7), .lit (.int .u8 6)]
def laid_internal_strconv_uint64pow10 {H : Type} : DataW H := .agg [.lit (.int .u64 1), .lit (.int .u64 10), .lit (.int .u64 100), .lit (.int .u64 1000), .lit (.int .u64 10000), .lit (.int .u64 100000), .lit (.int .u64 1000000), .lit (.int .u64 10000000), .lit (.int .u64 100000000), .lit (.int .u64 1000000000), .lit (.int .u64 10000000000), .lit (.int .u64 100000000000), .lit (.int .u64 1000000000000), .lit (.int .u64 10000000000000), .lit (.int .u64 100000000000000), .lit (.int .u64 1000000000000000), .lit (.int .u64 10000000000000000), .lit (.int .u64 100000000000000000), .lit (.int .u64 1000000000000000000), .lit (.int .u64 10000000000000000000)]
def laid_unicode_utf8_acceptRanges {H : Type} : DataW H := .agg [.agg [.lit (.int .u8 128), .lit (.int .u8 191)], .agg [.lit (.int .u8 160), .lit (.int .u8 191)], .agg [.lit (.int .u8 128), .lit (.int .u8 159)], .agg [.lit (.int .u8 144), .lit (.int .u8 191)], .agg [.lit (.int .u8 128), .lit (.int .u8 143)], .agg [.lit (.int .u8 0), .lit (.int .u8 0)], .agg [.lit (.int .u8 0), .lit (.int .u8 0)], .agg [.lit (.int .u8 0), .lit (.int .u8 0)], .agg [.lit (.int .u8 0), .lit (.int .u8 0)], .agg [.lit (.int .u8 0), .lit (.int .u8 0)], .agg [.lit (.int .u8 0), .lit (.int .u8 0)], .agg [.lit (.int .u8 0), .lit (.int .u8 0)], .agg [.lit (.int .u8 0), .lit (.int .u8 0)], .agg [.lit (.int .u8 0), .lit (.int .u8 0)], .agg [.lit (.int .u8 0), .lit (.int .u8 0)], .agg [.lit (.int .u8 0), .lit (.int .u8 0)]]
def laid_strconv_ErrRange {H : Type} : DataW H := .iface "*errors.errorString" (.ptr (.agg [.lit (.string [118, 97, 108, 117, 101, 32, 111, 117, 116, 32, 111, 102, 32, 114, 97, 110, 103, 101])]))
def laid_strconv_ErrSyntax {H : Type} : DataW H := .iface "*errors.errorString" (.ptr (.agg [.lit (.string [105, 110, 118, 97, 108, 105, 100, 32, 115, 121, 110, 116, 97, 120])]))
/-- One of Go's own tables, pinned by name: the form's constant. -/
def laid_unicode_utf8_first : DataW Unit := Go.Pinned.utf8First

/-- 'laws.FnExactBoxesText': WHATEVER THE INPUT: true; the input reads as it did. -/
def fnExactBoxesTextSpec : ChangeSpec := { name := "fnExactBoxesText", fn := fun _ => fun
  | [d] => { results := [.lit (.bool true)], args := [d] }
  | _ => none }
def fnExactBoxesTextRow : OpenClaim := { program := "ytilagemeigeceaadoor", sum := "2ab2649c5efcaf885163b6648a110b830328943c028c4be45db18306c0ebe574", func := "loop.example/g01012/laws.FnExactBoxesText", spec := "fnExactBoxesText", named := ["internal/strconv.uint64pow10", "math/bits.deBruijn32tab", "math/bits.deBruijn64tab"], apart := false, laid := [("math/bits.deBruijn32tab", laid_math_bits_deBruijn32tab), ("math/bits.deBruijn64tab", laid_math_bits_deBruijn64tab), ("internal/strconv.uint64pow10", laid_internal_strconv_uint64pow10)] }
def FnExactBoxesTextSaid : Prop := fnExactBoxesTextRow.holds Tryd.pinned (OpenSpec.ofChange fnExactBoxesTextSpec)

/-- ITS FALSE NEIGHBOUR: 'it returns false'. Refute it at one input. -/
def fnExactBoxesTextWrong : ChangeSpec := { name := "fnExactBoxesText", fn := fun _ => fun
  | [d] => { results := [.lit (.bool false)], args := [d] }
  | _ => none }
def FnExactBoxesTextWrongFalsely : Prop := fnExactBoxesTextRow.holds Tryd.pinned (OpenSpec.ofChange fnExactBoxesTextWrong)

/-- 'laws.FnExactChainOf': WHATEVER THE INPUT: true; the input reads as it did. -/
def fnExactChainOfSpec : ChangeSpec := { name := "fnExactChainOf", fn := fun _ => fun
  | [d1, d2] => { results := [.lit (.bool true)], args := [d1, d2] }
  | _ => none }
def fnExactChainOfRow : OpenClaim := { program := "ytilagemeigeceaadoor", sum := "2ab2649c5efcaf885163b6648a110b830328943c028c4be45db18306c0ebe574", func := "loop.example/g01012/laws.FnExactChainOf", spec := "fnExactChainOf", inPlace := ["internal/abi.NoEscape", "internal/bytealg.MakeNoZero"], named := ["internal/strconv.uint64pow10", "math/bits.deBruijn32tab", "math/bits.deBruijn64tab"], apart := false, laid := [("math/bits.deBruijn32tab", laid_math_bits_deBruijn32tab), ("math/bits.deBruijn64tab", laid_math_bits_deBruijn64tab), ("internal/strconv.uint64pow10", laid_internal_strconv_uint64pow10)] }
def FnExactChainOfSaid : Prop := fnExactChainOfRow.holds Tryd.pinned (OpenSpec.ofChange fnExactChainOfSpec)

/-- ITS FALSE NEIGHBOUR: 'it returns false'. Refute it at one input. -/
def fnExactChainOfWrong : ChangeSpec := { name := "fnExactChainOf", fn := fun _ => fun
  | [d1, d2] => { results := [.lit (.bool false)], args := [d1, d2] }
  | _ => none }
def FnExactChainOfWrongFalsely : Prop := fnExactChainOfRow.holds Tryd.pinned (OpenSpec.ofChange fnExactChainOfWrong)

/-- 'laws.FnExactPartsText': WHATEVER THE INPUT: true; the input reads as it did. -/
def fnExactPartsTextSpec : ChangeSpec := { name := "fnExactPartsText", fn := fun _ => fun
  | [d] => { results := [.lit (.bool true)], args := [d] }
  | _ => none }
def fnExactPartsTextRow : OpenClaim := { program := "ytilagemeigeceaadoor", sum := "2ab2649c5efcaf885163b6648a110b830328943c028c4be45db18306c0ebe574", func := "loop.example/g01012/laws.FnExactPartsText", spec := "fnExactPartsText", inPlace := ["internal/abi.NoEscape", "internal/bytealg.MakeNoZero"], unfollowed := true, recurses := true, named := ["internal/strconv.uint64pow10", "math/bits.deBruijn32tab", "math/bits.deBruijn64tab"], apart := false, laid := [("math/bits.deBruijn32tab", laid_math_bits_deBruijn32tab), ("math/bits.deBruijn64tab", laid_math_bits_deBruijn64tab), ("internal/strconv.uint64pow10", laid_internal_strconv_uint64pow10)] }
def FnExactPartsTextSaid : Prop := fnExactPartsTextRow.holds Tryd.pinned (OpenSpec.ofChange fnExactPartsTextSpec)

/-- ITS FALSE NEIGHBOUR: 'it returns false'. Refute it at one input. -/
def fnExactPartsTextWrong : ChangeSpec := { name := "fnExactPartsText", fn := fun _ => fun
  | [d] => { results := [.lit (.bool false)], args := [d] }
  | _ => none }
def FnExactPartsTextWrongFalsely : Prop := fnExactPartsTextRow.holds Tryd.pinned (OpenSpec.ofChange fnExactPartsTextWrong)

/-- 'laws.FnExactJournalOf': WHATEVER THE INPUT: true; the input reads as it did. -/
def fnExactJournalOfSpec : ChangeSpec := { name := "fnExactJournalOf", fn := fun _ => fun
  | [d] => { results := [.lit (.bool true)], args := [d] }
  | _ => none }
def fnExactJournalOfRow : OpenClaim := { program := "ytilagemeigeceaadoor", sum := "2ab2649c5efcaf885163b6648a110b830328943c028c4be45db18306c0ebe574", func := "loop.example/g01012/laws.FnExactJournalOf", spec := "fnExactJournalOf", inPlace := ["internal/abi.NoEscape", "internal/bytealg.MakeNoZero"], named := ["internal/strconv.uint64pow10", "math/bits.deBruijn32tab", "math/bits.deBruijn64tab"], apart := false, laid := [("math/bits.deBruijn32tab", laid_math_bits_deBruijn32tab), ("math/bits.deBruijn64tab", laid_math_bits_deBruijn64tab), ("internal/strconv.uint64pow10", laid_internal_strconv_uint64pow10)] }
def FnExactJournalOfSaid : Prop := fnExactJournalOfRow.holds Tryd.pinned (OpenSpec.ofChange fnExactJournalOfSpec)

/-- ITS FALSE NEIGHBOUR: 'it returns false'. Refute it at one input. -/
def fnExactJournalOfWrong : ChangeSpec := { name := "fnExactJournalOf", fn := fun _ => fun
  | [d] => { results := [.lit (.bool false)], args := [d] }
  | _ => none }
def FnExactJournalOfWrongFalsely : Prop := fnExactJournalOfRow.holds Tryd.pinned (OpenSpec.ofChange fnExactJournalOfWrong)

/-- 'laws.FnExactTableLines': WHATEVER THE INPUT: true; the input reads as it did. -/
def fnExactTableLinesSpec : ChangeSpec := { name := "fnExactTableLines", fn := fun _ => fun
  | [d] => { results := [.lit (.bool true)], args := [d] }
  | _ => none }
def fnExactTableLinesRow : OpenClaim := { program := "ytilagemeigeceaadoor", sum := "2ab2649c5efcaf885163b6648a110b830328943c028c4be45db18306c0ebe574", func := "loop.example/g01012/laws.FnExactTableLines", spec := "fnExactTableLines", inPlace := ["internal/abi.NoEscape", "internal/bytealg.MakeNoZero"], unfollowed := true, recurses := true, named := ["internal/strconv.uint64pow10", "math/bits.deBruijn32tab", "math/bits.deBruijn64tab"], apart := false, laid := [("math/bits.deBruijn32tab", laid_math_bits_deBruijn32tab), ("math/bits.deBruijn64tab", laid_math_bits_deBruijn64tab), ("internal/strconv.uint64pow10", laid_internal_strconv_uint64pow10)] }
def FnExactTableLinesSaid : Prop := fnExactTableLinesRow.holds Tryd.pinned (OpenSpec.ofChange fnExactTableLinesSpec)

/-- ITS FALSE NEIGHBOUR: 'it returns false'. Refute it at one input. -/
def fnExactTableLinesWrong : ChangeSpec := { name := "fnExactTableLines", fn := fun _ => fun
  | [d] => { results := [.lit (.bool false)], args := [d] }
  | _ => none }
def FnExactTableLinesWrongFalsely : Prop := fnExactTableLinesRow.holds Tryd.pinned (OpenSpec.ofChange fnExactTableLinesWrong)

/-- 'laws.FnExactCheckJournal': WHATEVER THE INPUT: true; the input reads as it did. -/
def fnExactCheckJournalSpec : ChangeSpec := { name := "fnExactCheckJournal", fn := fun _ => fun
  | [d] => { results := [.lit (.bool true)], args := [d] }
  | _ => none }
def fnExactCheckJournalRow : OpenClaim := { program := "ytilagemeigeceaadoor", sum := "2ab2649c5efcaf885163b6648a110b830328943c028c4be45db18306c0ebe574", func := "loop.example/g01012/laws.FnExactCheckJournal", spec := "fnExactCheckJournal", inPlace := ["internal/bytealg.IndexByteString", "internal/bytealg.CountString", "internal/bytealg.IndexString", "internal/abi.NoEscape", "internal/bytealg.MakeNoZero"], named := ["unicode/utf8.first", "unicode/utf8.acceptRanges", "internal/bytealg.MaxLen", "strconv.ErrSyntax", "strconv.ErrRange", "internal/strconv.uint64pow10", "math/bits.deBruijn32tab", "math/bits.deBruijn64tab"], apart := false, laid := [("math/bits.deBruijn32tab", laid_math_bits_deBruijn32tab), ("math/bits.deBruijn64tab", laid_math_bits_deBruijn64tab), ("internal/strconv.uint64pow10", laid_internal_strconv_uint64pow10), ("unicode/utf8.acceptRanges", laid_unicode_utf8_acceptRanges), ("strconv.ErrRange", laid_strconv_ErrRange), ("strconv.ErrSyntax", laid_strconv_ErrSyntax), ("unicode/utf8.first", laid_unicode_utf8_first)] }
def FnExactCheckJournalSaid : Prop := fnExactCheckJournalRow.holds Tryd.pinned (OpenSpec.ofChange fnExactCheckJournalSpec)

/-- ITS FALSE NEIGHBOUR: 'it returns false'. Refute it at one input. -/
def fnExactCheckJournalWrong : ChangeSpec := { name := "fnExactCheckJournal", fn := fun _ => fun
  | [d] => { results := [.lit (.bool false)], args := [d] }
  | _ => none }
def FnExactCheckJournalWrongFalsely : Prop := fnExactCheckJournalRow.holds Tryd.pinned (OpenSpec.ofChange fnExactCheckJournalWrong)

/-- 'laws.FnExactReadBoxes': WHATEVER THE INPUT: true; the input reads as it did. -/
def fnExactReadBoxesSpec : ChangeSpec := { name := "fnExactReadBoxes", fn := fun _ => fun
  | [d] => { results := [.lit (.bool true)], args := [d] }
  | _ => none }
def fnExactReadBoxesRow : OpenClaim := { program := "ytilagemeigeceaadoor", sum := "2ab2649c5efcaf885163b6648a110b830328943c028c4be45db18306c0ebe574", func := "loop.example/g01012/laws.FnExactReadBoxes", spec := "fnExactReadBoxes", inPlace := ["internal/bytealg.CountString", "internal/bytealg.IndexByteString", "internal/bytealg.IndexString"], named := ["unicode/utf8.first", "unicode/utf8.acceptRanges", "internal/bytealg.MaxLen", "strconv.ErrSyntax", "strconv.ErrRange", "internal/strconv.uint64pow10", "math/bits.deBruijn32tab", "math/bits.deBruijn64tab"], apart := false, laid := [("math/bits.deBruijn32tab", laid_math_bits_deBruijn32tab), ("math/bits.deBruijn64tab", laid_math_bits_deBruijn64tab), ("internal/strconv.uint64pow10", laid_internal_strconv_uint64pow10), ("unicode/utf8.acceptRanges", laid_unicode_utf8_acceptRanges), ("strconv.ErrRange", laid_strconv_ErrRange), ("strconv.ErrSyntax", laid_strconv_ErrSyntax), ("unicode/utf8.first", laid_unicode_utf8_first)] }
def FnExactReadBoxesSaid : Prop := fnExactReadBoxesRow.holds Tryd.pinned (OpenSpec.ofChange fnExactReadBoxesSpec)

/-- ITS FALSE NEIGHBOUR: 'it returns false'. Refute it at one input. -/
def fnExactReadBoxesWrong : ChangeSpec := { name := "fnExactReadBoxes", fn := fun _ => fun
  | [d] => { results := [.lit (.bool false)], args := [d] }
  | _ => none }
def FnExactReadBoxesWrongFalsely : Prop := fnExactReadBoxesRow.holds Tryd.pinned (OpenSpec.ofChange fnExactReadBoxesWrong)

/-- 'laws.FnExactRecoverJournal': WHATEVER THE INPUT: true; the input reads as it did. -/
def fnExactRecoverJournalSpec : ChangeSpec := { name := "fnExactRecoverJournal", fn := fun _ => fun
  | [d] => { results := [.lit (.bool true)], args := [d] }
  | _ => none }
def fnExactRecoverJournalRow : OpenClaim := { program := "ytilagemeigeceaadoor", sum := "2ab2649c5efcaf885163b6648a110b830328943c028c4be45db18306c0ebe574", func := "loop.example/g01012/laws.FnExactRecoverJournal", spec := "fnExactRecoverJournal", inPlace := ["internal/bytealg.IndexByteString", "internal/bytealg.CountString", "internal/bytealg.IndexString", "internal/abi.NoEscape", "internal/bytealg.MakeNoZero"], named := ["unicode/utf8.first", "unicode/utf8.acceptRanges", "internal/bytealg.MaxLen", "strconv.ErrSyntax", "strconv.ErrRange", "internal/strconv.uint64pow10", "math/bits.deBruijn32tab", "math/bits.deBruijn64tab"], apart := false, laid := [("math/bits.deBruijn32tab", laid_math_bits_deBruijn32tab), ("math/bits.deBruijn64tab", laid_math_bits_deBruijn64tab), ("internal/strconv.uint64pow10", laid_internal_strconv_uint64pow10), ("unicode/utf8.acceptRanges", laid_unicode_utf8_acceptRanges), ("strconv.ErrRange", laid_strconv_ErrRange), ("strconv.ErrSyntax", laid_strconv_ErrSyntax), ("unicode/utf8.first", laid_unicode_utf8_first)] }
def FnExactRecoverJournalSaid : Prop := fnExactRecoverJournalRow.holds Tryd.pinned (OpenSpec.ofChange fnExactRecoverJournalSpec)

/-- ITS FALSE NEIGHBOUR: 'it returns false'. Refute it at one input. -/
def fnExactRecoverJournalWrong : ChangeSpec := { name := "fnExactRecoverJournal", fn := fun _ => fun
  | [d] => { results := [.lit (.bool false)], args := [d] }
  | _ => none }
def FnExactRecoverJournalWrongFalsely : Prop := fnExactRecoverJournalRow.holds Tryd.pinned (OpenSpec.ofChange fnExactRecoverJournalWrong)

/-- 'laws.FnExactReadParts': WHATEVER THE INPUT: true; the input reads as it did. -/
def fnExactReadPartsSpec : ChangeSpec := { name := "fnExactReadParts", fn := fun _ => fun
  | [d] => { results := [.lit (.bool true)], args := [d] }
  | _ => none }
def fnExactReadPartsRow : OpenClaim := { program := "ytilagemeigeceaadoor", sum := "2ab2649c5efcaf885163b6648a110b830328943c028c4be45db18306c0ebe574", func := "loop.example/g01012/laws.FnExactReadParts", spec := "fnExactReadParts", inPlace := ["internal/bytealg.CountString", "internal/bytealg.IndexByteString", "internal/bytealg.IndexString", "internal/abi.NoEscape", "internal/bytealg.MakeNoZero"], unfollowed := true, recurses := true, named := ["unicode/utf8.first", "unicode/utf8.acceptRanges", "internal/bytealg.MaxLen", "strconv.ErrSyntax", "strconv.ErrRange", "internal/strconv.uint64pow10", "math/bits.deBruijn32tab", "math/bits.deBruijn64tab"], apart := false, laid := [("math/bits.deBruijn32tab", laid_math_bits_deBruijn32tab), ("math/bits.deBruijn64tab", laid_math_bits_deBruijn64tab), ("internal/strconv.uint64pow10", laid_internal_strconv_uint64pow10), ("unicode/utf8.acceptRanges", laid_unicode_utf8_acceptRanges), ("strconv.ErrRange", laid_strconv_ErrRange), ("strconv.ErrSyntax", laid_strconv_ErrSyntax), ("unicode/utf8.first", laid_unicode_utf8_first)] }
def FnExactReadPartsSaid : Prop := fnExactReadPartsRow.holds Tryd.pinned (OpenSpec.ofChange fnExactReadPartsSpec)

/-- ITS FALSE NEIGHBOUR: 'it returns false'. Refute it at one input. -/
def fnExactReadPartsWrong : ChangeSpec := { name := "fnExactReadParts", fn := fun _ => fun
  | [d] => { results := [.lit (.bool false)], args := [d] }
  | _ => none }
def FnExactReadPartsWrongFalsely : Prop := fnExactReadPartsRow.holds Tryd.pinned (OpenSpec.ofChange fnExactReadPartsWrong)

/-- 'laws.FnExactAddNote': WHATEVER THE INPUT: true; the input reads as it did. -/
def fnExactAddNoteSpec : ChangeSpec := { name := "fnExactAddNote", fn := fun _ => fun
  | [d1, d2] => { results := [.lit (.bool true)], args := [d1, d2] }
  | _ => none }
def fnExactAddNoteRow : OpenClaim := { program := "ytilagemeigeceaadoor", sum := "2ab2649c5efcaf885163b6648a110b830328943c028c4be45db18306c0ebe574", func := "loop.example/g01012/laws.FnExactAddNote", spec := "fnExactAddNote", inPlace := ["internal/bytealg.IndexByteString", "internal/bytealg.CountString", "internal/bytealg.IndexString", "internal/abi.NoEscape", "internal/bytealg.MakeNoZero"], named := ["unicode/utf8.first", "unicode/utf8.acceptRanges", "internal/bytealg.MaxLen", "strconv.ErrSyntax", "strconv.ErrRange", "internal/strconv.uint64pow10", "math/bits.deBruijn32tab", "math/bits.deBruijn64tab"], apart := false, laid := [("math/bits.deBruijn32tab", laid_math_bits_deBruijn32tab), ("math/bits.deBruijn64tab", laid_math_bits_deBruijn64tab), ("internal/strconv.uint64pow10", laid_internal_strconv_uint64pow10), ("unicode/utf8.acceptRanges", laid_unicode_utf8_acceptRanges), ("strconv.ErrRange", laid_strconv_ErrRange), ("strconv.ErrSyntax", laid_strconv_ErrSyntax), ("unicode/utf8.first", laid_unicode_utf8_first)] }
def FnExactAddNoteSaid : Prop := fnExactAddNoteRow.holds Tryd.pinned (OpenSpec.ofChange fnExactAddNoteSpec)

/-- ITS FALSE NEIGHBOUR: 'it returns false'. Refute it at one input. -/
def fnExactAddNoteWrong : ChangeSpec := { name := "fnExactAddNote", fn := fun _ => fun
  | [d1, d2] => { results := [.lit (.bool false)], args := [d1, d2] }
  | _ => none }
def FnExactAddNoteWrongFalsely : Prop := fnExactAddNoteRow.holds Tryd.pinned (OpenSpec.ofChange fnExactAddNoteWrong)

/-- 'laws.FnLastNotes': WHATEVER THE INPUT: true; the input reads as it did. -/
def fnLastNotesSpec : ChangeSpec := { name := "fnLastNotes", fn := fun _ => fun
  | [d] => { results := [.lit (.bool true)], args := [d] }
  | _ => none }
def fnLastNotesRow : OpenClaim := { program := "ytilagemeigeceaadoor", sum := "2ab2649c5efcaf885163b6648a110b830328943c028c4be45db18306c0ebe574", func := "loop.example/g01012/laws.FnLastNotes", spec := "fnLastNotes", inPlace := ["internal/bytealg.IndexByteString", "internal/bytealg.CountString", "internal/bytealg.IndexString", "internal/abi.NoEscape", "internal/bytealg.MakeNoZero"], named := ["unicode/utf8.first", "unicode/utf8.acceptRanges", "internal/bytealg.MaxLen", "strconv.ErrSyntax", "strconv.ErrRange", "internal/strconv.uint64pow10", "math/bits.deBruijn32tab", "math/bits.deBruijn64tab"], apart := false, laid := [("math/bits.deBruijn32tab", laid_math_bits_deBruijn32tab), ("math/bits.deBruijn64tab", laid_math_bits_deBruijn64tab), ("internal/strconv.uint64pow10", laid_internal_strconv_uint64pow10), ("unicode/utf8.acceptRanges", laid_unicode_utf8_acceptRanges), ("strconv.ErrRange", laid_strconv_ErrRange), ("strconv.ErrSyntax", laid_strconv_ErrSyntax), ("unicode/utf8.first", laid_unicode_utf8_first)] }
def FnLastNotesSaid : Prop := fnLastNotesRow.holds Tryd.pinned (OpenSpec.ofChange fnLastNotesSpec)

/-- ITS FALSE NEIGHBOUR: 'it returns false'. Refute it at one input. -/
def fnLastNotesWrong : ChangeSpec := { name := "fnLastNotes", fn := fun _ => fun
  | [d] => { results := [.lit (.bool false)], args := [d] }
  | _ => none }
def FnLastNotesWrongFalsely : Prop := fnLastNotesRow.holds Tryd.pinned (OpenSpec.ofChange fnLastNotesWrong)

/-- 'laws.FnExactCardsNow': WHATEVER THE INPUT: true; the input reads as it did. -/
def fnExactCardsNowSpec : ChangeSpec := { name := "fnExactCardsNow", fn := fun _ => fun
  | [d] => { results := [.lit (.bool true)], args := [d] }
  | _ => none }
def fnExactCardsNowRow : OpenClaim := { program := "ytilagemeigeceaadoor", sum := "2ab2649c5efcaf885163b6648a110b830328943c028c4be45db18306c0ebe574", func := "loop.example/g01012/laws.FnExactCardsNow", spec := "fnExactCardsNow", inPlace := ["internal/bytealg.IndexByteString", "internal/bytealg.CountString", "internal/bytealg.IndexString", "internal/abi.NoEscape", "internal/bytealg.MakeNoZero"], named := ["unicode/utf8.first", "unicode/utf8.acceptRanges", "internal/bytealg.MaxLen", "strconv.ErrSyntax", "strconv.ErrRange", "internal/strconv.uint64pow10", "math/bits.deBruijn32tab", "math/bits.deBruijn64tab"], apart := false, laid := [("math/bits.deBruijn32tab", laid_math_bits_deBruijn32tab), ("math/bits.deBruijn64tab", laid_math_bits_deBruijn64tab), ("internal/strconv.uint64pow10", laid_internal_strconv_uint64pow10), ("unicode/utf8.acceptRanges", laid_unicode_utf8_acceptRanges), ("strconv.ErrRange", laid_strconv_ErrRange), ("strconv.ErrSyntax", laid_strconv_ErrSyntax), ("unicode/utf8.first", laid_unicode_utf8_first)] }
def FnExactCardsNowSaid : Prop := fnExactCardsNowRow.holds Tryd.pinned (OpenSpec.ofChange fnExactCardsNowSpec)

/-- ITS FALSE NEIGHBOUR: 'it returns false'. Refute it at one input. -/
def fnExactCardsNowWrong : ChangeSpec := { name := "fnExactCardsNow", fn := fun _ => fun
  | [d] => { results := [.lit (.bool false)], args := [d] }
  | _ => none }
def FnExactCardsNowWrongFalsely : Prop := fnExactCardsNowRow.holds Tryd.pinned (OpenSpec.ofChange fnExactCardsNowWrong)

/-- 'laws.FnExactLastNote': WHATEVER THE INPUT: true; the input reads as it did. -/
def fnExactLastNoteSpec : ChangeSpec := { name := "fnExactLastNote", fn := fun _ => fun
  | [d1, d2] => { results := [.lit (.bool true)], args := [d1, d2] }
  | _ => none }
def fnExactLastNoteRow : OpenClaim := { program := "ytilagemeigeceaadoor", sum := "2ab2649c5efcaf885163b6648a110b830328943c028c4be45db18306c0ebe574", func := "loop.example/g01012/laws.FnExactLastNote", spec := "fnExactLastNote", inPlace := ["internal/bytealg.IndexByteString", "internal/bytealg.CountString", "internal/bytealg.IndexString", "internal/abi.NoEscape", "internal/bytealg.MakeNoZero"], named := ["unicode/utf8.first", "unicode/utf8.acceptRanges", "internal/bytealg.MaxLen", "strconv.ErrSyntax", "strconv.ErrRange", "internal/strconv.uint64pow10", "math/bits.deBruijn32tab", "math/bits.deBruijn64tab"], apart := false, laid := [("math/bits.deBruijn32tab", laid_math_bits_deBruijn32tab), ("math/bits.deBruijn64tab", laid_math_bits_deBruijn64tab), ("internal/strconv.uint64pow10", laid_internal_strconv_uint64pow10), ("unicode/utf8.acceptRanges", laid_unicode_utf8_acceptRanges), ("strconv.ErrRange", laid_strconv_ErrRange), ("strconv.ErrSyntax", laid_strconv_ErrSyntax), ("unicode/utf8.first", laid_unicode_utf8_first)] }
def FnExactLastNoteSaid : Prop := fnExactLastNoteRow.holds Tryd.pinned (OpenSpec.ofChange fnExactLastNoteSpec)

/-- ITS FALSE NEIGHBOUR: 'it returns false'. Refute it at one input. -/
def fnExactLastNoteWrong : ChangeSpec := { name := "fnExactLastNote", fn := fun _ => fun
  | [d1, d2] => { results := [.lit (.bool false)], args := [d1, d2] }
  | _ => none }
def FnExactLastNoteWrongFalsely : Prop := fnExactLastNoteRow.holds Tryd.pinned (OpenSpec.ofChange fnExactLastNoteWrong)

/-- 'laws.FnExactNotesOf': WHATEVER THE INPUT: true; the input reads as it did. -/
def fnExactNotesOfSpec : ChangeSpec := { name := "fnExactNotesOf", fn := fun _ => fun
  | [d] => { results := [.lit (.bool true)], args := [d] }
  | _ => none }
def fnExactNotesOfRow : OpenClaim := { program := "ytilagemeigeceaadoor", sum := "2ab2649c5efcaf885163b6648a110b830328943c028c4be45db18306c0ebe574", func := "loop.example/g01012/laws.FnExactNotesOf", spec := "fnExactNotesOf", inPlace := ["internal/bytealg.IndexByteString", "internal/bytealg.CountString", "internal/bytealg.IndexString", "internal/abi.NoEscape", "internal/bytealg.MakeNoZero"], named := ["unicode/utf8.first", "unicode/utf8.acceptRanges", "internal/bytealg.MaxLen", "strconv.ErrSyntax", "strconv.ErrRange", "internal/strconv.uint64pow10", "math/bits.deBruijn32tab", "math/bits.deBruijn64tab"], apart := false, laid := [("math/bits.deBruijn32tab", laid_math_bits_deBruijn32tab), ("math/bits.deBruijn64tab", laid_math_bits_deBruijn64tab), ("internal/strconv.uint64pow10", laid_internal_strconv_uint64pow10), ("unicode/utf8.acceptRanges", laid_unicode_utf8_acceptRanges), ("strconv.ErrRange", laid_strconv_ErrRange), ("strconv.ErrSyntax", laid_strconv_ErrSyntax), ("unicode/utf8.first", laid_unicode_utf8_first)] }
def FnExactNotesOfSaid : Prop := fnExactNotesOfRow.holds Tryd.pinned (OpenSpec.ofChange fnExactNotesOfSpec)

/-- ITS FALSE NEIGHBOUR: 'it returns false'. Refute it at one input. -/
def fnExactNotesOfWrong : ChangeSpec := { name := "fnExactNotesOf", fn := fun _ => fun
  | [d] => { results := [.lit (.bool false)], args := [d] }
  | _ => none }
def FnExactNotesOfWrongFalsely : Prop := fnExactNotesOfRow.holds Tryd.pinned (OpenSpec.ofChange fnExactNotesOfWrong)

/-- 'laws.FnExactCountHistory': WHATEVER THE INPUT: true; the input reads as it did. -/
def fnExactCountHistorySpec : ChangeSpec := { name := "fnExactCountHistory", fn := fun _ => fun
  | [d1, d2] => { results := [.lit (.bool true)], args := [d1, d2] }
  | _ => none }
def fnExactCountHistoryRow : OpenClaim := { program := "ytilagemeigeceaadoor", sum := "2ab2649c5efcaf885163b6648a110b830328943c028c4be45db18306c0ebe574", func := "loop.example/g01012/laws.FnExactCountHistory", spec := "fnExactCountHistory", inPlace := ["internal/bytealg.IndexByteString", "internal/bytealg.CountString", "internal/bytealg.IndexString", "internal/abi.NoEscape", "internal/bytealg.MakeNoZero"], named := ["unicode/utf8.first", "unicode/utf8.acceptRanges", "internal/bytealg.MaxLen", "strconv.ErrSyntax", "strconv.ErrRange", "internal/strconv.uint64pow10", "math/bits.deBruijn32tab", "math/bits.deBruijn64tab"], apart := false, laid := [("math/bits.deBruijn32tab", laid_math_bits_deBruijn32tab), ("math/bits.deBruijn64tab", laid_math_bits_deBruijn64tab), ("internal/strconv.uint64pow10", laid_internal_strconv_uint64pow10), ("unicode/utf8.acceptRanges", laid_unicode_utf8_acceptRanges), ("strconv.ErrRange", laid_strconv_ErrRange), ("strconv.ErrSyntax", laid_strconv_ErrSyntax), ("unicode/utf8.first", laid_unicode_utf8_first)] }
def FnExactCountHistorySaid : Prop := fnExactCountHistoryRow.holds Tryd.pinned (OpenSpec.ofChange fnExactCountHistorySpec)

/-- ITS FALSE NEIGHBOUR: 'it returns false'. Refute it at one input. -/
def fnExactCountHistoryWrong : ChangeSpec := { name := "fnExactCountHistory", fn := fun _ => fun
  | [d1, d2] => { results := [.lit (.bool false)], args := [d1, d2] }
  | _ => none }
def FnExactCountHistoryWrongFalsely : Prop := fnExactCountHistoryRow.holds Tryd.pinned (OpenSpec.ofChange fnExactCountHistoryWrong)

/- THE SECOND FORM. 'bulk': how many values and letters a reading holds, each counted each time it is reached (what is shared counts as often as it is met; a slice's spare places count too). A statement '..UptoSaid' is the law's where the arguments, and the package variables that the reading takes, are together of bulk at most 1048576: NARROWER than '..Said'. Prove '..Said' where nothing that the law and all that it calls make is longer than what came in: it says more and counts as full. Else prove '..UptoSaid'. A law counts once. -/
mutual
def uptoBulk {H : Type} : DataW H → Nat
  | .lit (.string bytes) => bytes.length + 1
  | .lit _ => 1
  | .nil => 1
  | .ptr d => uptoBulk d + 1
  | .slice elems spare => uptoBulkAll elems + uptoBulkAll spare + 1
  | .agg parts => uptoBulkAll parts + 1
  | .iface _ d => uptoBulk d + 1
  | .map entries => uptoBulkEntries entries + 1
  | .held _ => 1
def uptoBulkAll {H : Type} : List (DataW H) → Nat
  | [] => 0
  | d :: r => uptoBulk d + uptoBulkAll r
def uptoBulkEntries {H : Type} : List (Lit × DataW H) → Nat
  | [] => 0
  | x :: r => uptoBulkEntry x + uptoBulkEntries r
def uptoBulkEntry {H : Type} : Lit × DataW H → Nat
  | (.string bytes, d) => bytes.length + uptoBulk d + 1
  | (_, d) => uptoBulk d + 1
 end
def uptoSmall : (H : Type) → List (DataW H) → Bool := fun _ ds => decide (uptoBulkAll ds ≤ 1048576)
def OpenSpec.upto (s : _root_.Go.ChangeSpec) : _root_.Go.OpenSpec := { _root_.Go.OpenSpec.ofChange s with cond := some uptoSmall }

/-- 'laws.FnExactBoxesText', WHERE WHAT IT READS IS OF BULK AT MOST 1048576: true; the input reads as it did. -/
def fnExactBoxesTextUptoRow : OpenClaim := { program := "ytilagemeigeceaadoor", sum := "2ab2649c5efcaf885163b6648a110b830328943c028c4be45db18306c0ebe574", func := "loop.example/g01012/laws.FnExactBoxesText", spec := "fnExactBoxesText", named := ["internal/strconv.uint64pow10", "math/bits.deBruijn32tab", "math/bits.deBruijn64tab"], apart := false, laid := [("math/bits.deBruijn32tab", laid_math_bits_deBruijn32tab), ("math/bits.deBruijn64tab", laid_math_bits_deBruijn64tab), ("internal/strconv.uint64pow10", laid_internal_strconv_uint64pow10)], narrowed := true }
def FnExactBoxesTextUptoSaid : Prop := fnExactBoxesTextUptoRow.holds Tryd.pinned (OpenSpec.upto fnExactBoxesTextSpec)

/-- 'laws.FnExactChainOf', WHERE WHAT IT READS IS OF BULK AT MOST 1048576: true; the input reads as it did. -/
def fnExactChainOfUptoRow : OpenClaim := { program := "ytilagemeigeceaadoor", sum := "2ab2649c5efcaf885163b6648a110b830328943c028c4be45db18306c0ebe574", func := "loop.example/g01012/laws.FnExactChainOf", spec := "fnExactChainOf", inPlace := ["internal/abi.NoEscape", "internal/bytealg.MakeNoZero"], named := ["internal/strconv.uint64pow10", "math/bits.deBruijn32tab", "math/bits.deBruijn64tab"], apart := false, laid := [("math/bits.deBruijn32tab", laid_math_bits_deBruijn32tab), ("math/bits.deBruijn64tab", laid_math_bits_deBruijn64tab), ("internal/strconv.uint64pow10", laid_internal_strconv_uint64pow10)], narrowed := true }
def FnExactChainOfUptoSaid : Prop := fnExactChainOfUptoRow.holds Tryd.pinned (OpenSpec.upto fnExactChainOfSpec)

/-- 'laws.FnExactPartsText', WHERE WHAT IT READS IS OF BULK AT MOST 1048576: true; the input reads as it did. -/
def fnExactPartsTextUptoRow : OpenClaim := { program := "ytilagemeigeceaadoor", sum := "2ab2649c5efcaf885163b6648a110b830328943c028c4be45db18306c0ebe574", func := "loop.example/g01012/laws.FnExactPartsText", spec := "fnExactPartsText", inPlace := ["internal/abi.NoEscape", "internal/bytealg.MakeNoZero"], unfollowed := true, recurses := true, named := ["internal/strconv.uint64pow10", "math/bits.deBruijn32tab", "math/bits.deBruijn64tab"], apart := false, laid := [("math/bits.deBruijn32tab", laid_math_bits_deBruijn32tab), ("math/bits.deBruijn64tab", laid_math_bits_deBruijn64tab), ("internal/strconv.uint64pow10", laid_internal_strconv_uint64pow10)], narrowed := true }
def FnExactPartsTextUptoSaid : Prop := fnExactPartsTextUptoRow.holds Tryd.pinned (OpenSpec.upto fnExactPartsTextSpec)

/-- 'laws.FnExactJournalOf', WHERE WHAT IT READS IS OF BULK AT MOST 1048576: true; the input reads as it did. -/
def fnExactJournalOfUptoRow : OpenClaim := { program := "ytilagemeigeceaadoor", sum := "2ab2649c5efcaf885163b6648a110b830328943c028c4be45db18306c0ebe574", func := "loop.example/g01012/laws.FnExactJournalOf", spec := "fnExactJournalOf", inPlace := ["internal/abi.NoEscape", "internal/bytealg.MakeNoZero"], named := ["internal/strconv.uint64pow10", "math/bits.deBruijn32tab", "math/bits.deBruijn64tab"], apart := false, laid := [("math/bits.deBruijn32tab", laid_math_bits_deBruijn32tab), ("math/bits.deBruijn64tab", laid_math_bits_deBruijn64tab), ("internal/strconv.uint64pow10", laid_internal_strconv_uint64pow10)], narrowed := true }
def FnExactJournalOfUptoSaid : Prop := fnExactJournalOfUptoRow.holds Tryd.pinned (OpenSpec.upto fnExactJournalOfSpec)

/-- 'laws.FnExactTableLines', WHERE WHAT IT READS IS OF BULK AT MOST 1048576: true; the input reads as it did. -/
def fnExactTableLinesUptoRow : OpenClaim := { program := "ytilagemeigeceaadoor", sum := "2ab2649c5efcaf885163b6648a110b830328943c028c4be45db18306c0ebe574", func := "loop.example/g01012/laws.FnExactTableLines", spec := "fnExactTableLines", inPlace := ["internal/abi.NoEscape", "internal/bytealg.MakeNoZero"], unfollowed := true, recurses := true, named := ["internal/strconv.uint64pow10", "math/bits.deBruijn32tab", "math/bits.deBruijn64tab"], apart := false, laid := [("math/bits.deBruijn32tab", laid_math_bits_deBruijn32tab), ("math/bits.deBruijn64tab", laid_math_bits_deBruijn64tab), ("internal/strconv.uint64pow10", laid_internal_strconv_uint64pow10)], narrowed := true }
def FnExactTableLinesUptoSaid : Prop := fnExactTableLinesUptoRow.holds Tryd.pinned (OpenSpec.upto fnExactTableLinesSpec)

/-- 'laws.FnExactCheckJournal', WHERE WHAT IT READS IS OF BULK AT MOST 1048576: true; the input reads as it did. -/
def fnExactCheckJournalUptoRow : OpenClaim := { program := "ytilagemeigeceaadoor", sum := "2ab2649c5efcaf885163b6648a110b830328943c028c4be45db18306c0ebe574", func := "loop.example/g01012/laws.FnExactCheckJournal", spec := "fnExactCheckJournal", inPlace := ["internal/bytealg.IndexByteString", "internal/bytealg.CountString", "internal/bytealg.IndexString", "internal/abi.NoEscape", "internal/bytealg.MakeNoZero"], named := ["unicode/utf8.first", "unicode/utf8.acceptRanges", "internal/bytealg.MaxLen", "strconv.ErrSyntax", "strconv.ErrRange", "internal/strconv.uint64pow10", "math/bits.deBruijn32tab", "math/bits.deBruijn64tab"], apart := false, laid := [("math/bits.deBruijn32tab", laid_math_bits_deBruijn32tab), ("math/bits.deBruijn64tab", laid_math_bits_deBruijn64tab), ("internal/strconv.uint64pow10", laid_internal_strconv_uint64pow10), ("unicode/utf8.acceptRanges", laid_unicode_utf8_acceptRanges), ("strconv.ErrRange", laid_strconv_ErrRange), ("strconv.ErrSyntax", laid_strconv_ErrSyntax), ("unicode/utf8.first", laid_unicode_utf8_first)], narrowed := true }
def FnExactCheckJournalUptoSaid : Prop := fnExactCheckJournalUptoRow.holds Tryd.pinned (OpenSpec.upto fnExactCheckJournalSpec)

/-- 'laws.FnExactReadBoxes', WHERE WHAT IT READS IS OF BULK AT MOST 1048576: true; the input reads as it did. -/
def fnExactReadBoxesUptoRow : OpenClaim := { program := "ytilagemeigeceaadoor", sum := "2ab2649c5efcaf885163b6648a110b830328943c028c4be45db18306c0ebe574", func := "loop.example/g01012/laws.FnExactReadBoxes", spec := "fnExactReadBoxes", inPlace := ["internal/bytealg.CountString", "internal/bytealg.IndexByteString", "internal/bytealg.IndexString"], named := ["unicode/utf8.first", "unicode/utf8.acceptRanges", "internal/bytealg.MaxLen", "strconv.ErrSyntax", "strconv.ErrRange", "internal/strconv.uint64pow10", "math/bits.deBruijn32tab", "math/bits.deBruijn64tab"], apart := false, laid := [("math/bits.deBruijn32tab", laid_math_bits_deBruijn32tab), ("math/bits.deBruijn64tab", laid_math_bits_deBruijn64tab), ("internal/strconv.uint64pow10", laid_internal_strconv_uint64pow10), ("unicode/utf8.acceptRanges", laid_unicode_utf8_acceptRanges), ("strconv.ErrRange", laid_strconv_ErrRange), ("strconv.ErrSyntax", laid_strconv_ErrSyntax), ("unicode/utf8.first", laid_unicode_utf8_first)], narrowed := true }
def FnExactReadBoxesUptoSaid : Prop := fnExactReadBoxesUptoRow.holds Tryd.pinned (OpenSpec.upto fnExactReadBoxesSpec)

/-- 'laws.FnExactRecoverJournal', WHERE WHAT IT READS IS OF BULK AT MOST 1048576: true; the input reads as it did. -/
def fnExactRecoverJournalUptoRow : OpenClaim := { program := "ytilagemeigeceaadoor", sum := "2ab2649c5efcaf885163b6648a110b830328943c028c4be45db18306c0ebe574", func := "loop.example/g01012/laws.FnExactRecoverJournal", spec := "fnExactRecoverJournal", inPlace := ["internal/bytealg.IndexByteString", "internal/bytealg.CountString", "internal/bytealg.IndexString", "internal/abi.NoEscape", "internal/bytealg.MakeNoZero"], named := ["unicode/utf8.first", "unicode/utf8.acceptRanges", "internal/bytealg.MaxLen", "strconv.ErrSyntax", "strconv.ErrRange", "internal/strconv.uint64pow10", "math/bits.deBruijn32tab", "math/bits.deBruijn64tab"], apart := false, laid := [("math/bits.deBruijn32tab", laid_math_bits_deBruijn32tab), ("math/bits.deBruijn64tab", laid_math_bits_deBruijn64tab), ("internal/strconv.uint64pow10", laid_internal_strconv_uint64pow10), ("unicode/utf8.acceptRanges", laid_unicode_utf8_acceptRanges), ("strconv.ErrRange", laid_strconv_ErrRange), ("strconv.ErrSyntax", laid_strconv_ErrSyntax), ("unicode/utf8.first", laid_unicode_utf8_first)], narrowed := true }
def FnExactRecoverJournalUptoSaid : Prop := fnExactRecoverJournalUptoRow.holds Tryd.pinned (OpenSpec.upto fnExactRecoverJournalSpec)

/-- 'laws.FnExactReadParts', WHERE WHAT IT READS IS OF BULK AT MOST 1048576: true; the input reads as it did. -/
def fnExactReadPartsUptoRow : OpenClaim := { program := "ytilagemeigeceaadoor", sum := "2ab2649c5efcaf885163b6648a110b830328943c028c4be45db18306c0ebe574", func := "loop.example/g01012/laws.FnExactReadParts", spec := "fnExactReadParts", inPlace := ["internal/bytealg.CountString", "internal/bytealg.IndexByteString", "internal/bytealg.IndexString", "internal/abi.NoEscape", "internal/bytealg.MakeNoZero"], unfollowed := true, recurses := true, named := ["unicode/utf8.first", "unicode/utf8.acceptRanges", "internal/bytealg.MaxLen", "strconv.ErrSyntax", "strconv.ErrRange", "internal/strconv.uint64pow10", "math/bits.deBruijn32tab", "math/bits.deBruijn64tab"], apart := false, laid := [("math/bits.deBruijn32tab", laid_math_bits_deBruijn32tab), ("math/bits.deBruijn64tab", laid_math_bits_deBruijn64tab), ("internal/strconv.uint64pow10", laid_internal_strconv_uint64pow10), ("unicode/utf8.acceptRanges", laid_unicode_utf8_acceptRanges), ("strconv.ErrRange", laid_strconv_ErrRange), ("strconv.ErrSyntax", laid_strconv_ErrSyntax), ("unicode/utf8.first", laid_unicode_utf8_first)], narrowed := true }
def FnExactReadPartsUptoSaid : Prop := fnExactReadPartsUptoRow.holds Tryd.pinned (OpenSpec.upto fnExactReadPartsSpec)

/-- 'laws.FnExactAddNote', WHERE WHAT IT READS IS OF BULK AT MOST 1048576: true; the input reads as it did. -/
def fnExactAddNoteUptoRow : OpenClaim := { program := "ytilagemeigeceaadoor", sum := "2ab2649c5efcaf885163b6648a110b830328943c028c4be45db18306c0ebe574", func := "loop.example/g01012/laws.FnExactAddNote", spec := "fnExactAddNote", inPlace := ["internal/bytealg.IndexByteString", "internal/bytealg.CountString", "internal/bytealg.IndexString", "internal/abi.NoEscape", "internal/bytealg.MakeNoZero"], named := ["unicode/utf8.first", "unicode/utf8.acceptRanges", "internal/bytealg.MaxLen", "strconv.ErrSyntax", "strconv.ErrRange", "internal/strconv.uint64pow10", "math/bits.deBruijn32tab", "math/bits.deBruijn64tab"], apart := false, laid := [("math/bits.deBruijn32tab", laid_math_bits_deBruijn32tab), ("math/bits.deBruijn64tab", laid_math_bits_deBruijn64tab), ("internal/strconv.uint64pow10", laid_internal_strconv_uint64pow10), ("unicode/utf8.acceptRanges", laid_unicode_utf8_acceptRanges), ("strconv.ErrRange", laid_strconv_ErrRange), ("strconv.ErrSyntax", laid_strconv_ErrSyntax), ("unicode/utf8.first", laid_unicode_utf8_first)], narrowed := true }
def FnExactAddNoteUptoSaid : Prop := fnExactAddNoteUptoRow.holds Tryd.pinned (OpenSpec.upto fnExactAddNoteSpec)

/-- 'laws.FnLastNotes', WHERE WHAT IT READS IS OF BULK AT MOST 1048576: true; the input reads as it did. -/
def fnLastNotesUptoRow : OpenClaim := { program := "ytilagemeigeceaadoor", sum := "2ab2649c5efcaf885163b6648a110b830328943c028c4be45db18306c0ebe574", func := "loop.example/g01012/laws.FnLastNotes", spec := "fnLastNotes", inPlace := ["internal/bytealg.IndexByteString", "internal/bytealg.CountString", "internal/bytealg.IndexString", "internal/abi.NoEscape", "internal/bytealg.MakeNoZero"], named := ["unicode/utf8.first", "unicode/utf8.acceptRanges", "internal/bytealg.MaxLen", "strconv.ErrSyntax", "strconv.ErrRange", "internal/strconv.uint64pow10", "math/bits.deBruijn32tab", "math/bits.deBruijn64tab"], apart := false, laid := [("math/bits.deBruijn32tab", laid_math_bits_deBruijn32tab), ("math/bits.deBruijn64tab", laid_math_bits_deBruijn64tab), ("internal/strconv.uint64pow10", laid_internal_strconv_uint64pow10), ("unicode/utf8.acceptRanges", laid_unicode_utf8_acceptRanges), ("strconv.ErrRange", laid_strconv_ErrRange), ("strconv.ErrSyntax", laid_strconv_ErrSyntax), ("unicode/utf8.first", laid_unicode_utf8_first)], narrowed := true }
def FnLastNotesUptoSaid : Prop := fnLastNotesUptoRow.holds Tryd.pinned (OpenSpec.upto fnLastNotesSpec)

/-- 'laws.FnExactCardsNow', WHERE WHAT IT READS IS OF BULK AT MOST 1048576: true; the input reads as it did. -/
def fnExactCardsNowUptoRow : OpenClaim := { program := "ytilagemeigeceaadoor", sum := "2ab2649c5efcaf885163b6648a110b830328943c028c4be45db18306c0ebe574", func := "loop.example/g01012/laws.FnExactCardsNow", spec := "fnExactCardsNow", inPlace := ["internal/bytealg.IndexByteString", "internal/bytealg.CountString", "internal/bytealg.IndexString", "internal/abi.NoEscape", "internal/bytealg.MakeNoZero"], named := ["unicode/utf8.first", "unicode/utf8.acceptRanges", "internal/bytealg.MaxLen", "strconv.ErrSyntax", "strconv.ErrRange", "internal/strconv.uint64pow10", "math/bits.deBruijn32tab", "math/bits.deBruijn64tab"], apart := false, laid := [("math/bits.deBruijn32tab", laid_math_bits_deBruijn32tab), ("math/bits.deBruijn64tab", laid_math_bits_deBruijn64tab), ("internal/strconv.uint64pow10", laid_internal_strconv_uint64pow10), ("unicode/utf8.acceptRanges", laid_unicode_utf8_acceptRanges), ("strconv.ErrRange", laid_strconv_ErrRange), ("strconv.ErrSyntax", laid_strconv_ErrSyntax), ("unicode/utf8.first", laid_unicode_utf8_first)], narrowed := true }
def FnExactCardsNowUptoSaid : Prop := fnExactCardsNowUptoRow.holds Tryd.pinned (OpenSpec.upto fnExactCardsNowSpec)

/-- 'laws.FnExactLastNote', WHERE WHAT IT READS IS OF BULK AT MOST 1048576: true; the input reads as it did. -/
def fnExactLastNoteUptoRow : OpenClaim := { program := "ytilagemeigeceaadoor", sum := "2ab2649c5efcaf885163b6648a110b830328943c028c4be45db18306c0ebe574", func := "loop.example/g01012/laws.FnExactLastNote", spec := "fnExactLastNote", inPlace := ["internal/bytealg.IndexByteString", "internal/bytealg.CountString", "internal/bytealg.IndexString", "internal/abi.NoEscape", "internal/bytealg.MakeNoZero"], named := ["unicode/utf8.first", "unicode/utf8.acceptRanges", "internal/bytealg.MaxLen", "strconv.ErrSyntax", "strconv.ErrRange", "internal/strconv.uint64pow10", "math/bits.deBruijn32tab", "math/bits.deBruijn64tab"], apart := false, laid := [("math/bits.deBruijn32tab", laid_math_bits_deBruijn32tab), ("math/bits.deBruijn64tab", laid_math_bits_deBruijn64tab), ("internal/strconv.uint64pow10", laid_internal_strconv_uint64pow10), ("unicode/utf8.acceptRanges", laid_unicode_utf8_acceptRanges), ("strconv.ErrRange", laid_strconv_ErrRange), ("strconv.ErrSyntax", laid_strconv_ErrSyntax), ("unicode/utf8.first", laid_unicode_utf8_first)], narrowed := true }
def FnExactLastNoteUptoSaid : Prop := fnExactLastNoteUptoRow.holds Tryd.pinned (OpenSpec.upto fnExactLastNoteSpec)

/-- 'laws.FnExactNotesOf', WHERE WHAT IT READS IS OF BULK AT MOST 1048576: true; the input reads as it did. -/
def fnExactNotesOfUptoRow : OpenClaim := { program := "ytilagemeigeceaadoor", sum := "2ab2649c5efcaf885163b6648a110b830328943c028c4be45db18306c0ebe574", func := "loop.example/g01012/laws.FnExactNotesOf", spec := "fnExactNotesOf", inPlace := ["internal/bytealg.IndexByteString", "internal/bytealg.CountString", "internal/bytealg.IndexString", "internal/abi.NoEscape", "internal/bytealg.MakeNoZero"], named := ["unicode/utf8.first", "unicode/utf8.acceptRanges", "internal/bytealg.MaxLen", "strconv.ErrSyntax", "strconv.ErrRange", "internal/strconv.uint64pow10", "math/bits.deBruijn32tab", "math/bits.deBruijn64tab"], apart := false, laid := [("math/bits.deBruijn32tab", laid_math_bits_deBruijn32tab), ("math/bits.deBruijn64tab", laid_math_bits_deBruijn64tab), ("internal/strconv.uint64pow10", laid_internal_strconv_uint64pow10), ("unicode/utf8.acceptRanges", laid_unicode_utf8_acceptRanges), ("strconv.ErrRange", laid_strconv_ErrRange), ("strconv.ErrSyntax", laid_strconv_ErrSyntax), ("unicode/utf8.first", laid_unicode_utf8_first)], narrowed := true }
def FnExactNotesOfUptoSaid : Prop := fnExactNotesOfUptoRow.holds Tryd.pinned (OpenSpec.upto fnExactNotesOfSpec)

/-- 'laws.FnExactCountHistory', WHERE WHAT IT READS IS OF BULK AT MOST 1048576: true; the input reads as it did. -/
def fnExactCountHistoryUptoRow : OpenClaim := { program := "ytilagemeigeceaadoor", sum := "2ab2649c5efcaf885163b6648a110b830328943c028c4be45db18306c0ebe574", func := "loop.example/g01012/laws.FnExactCountHistory", spec := "fnExactCountHistory", inPlace := ["internal/bytealg.IndexByteString", "internal/bytealg.CountString", "internal/bytealg.IndexString", "internal/abi.NoEscape", "internal/bytealg.MakeNoZero"], named := ["unicode/utf8.first", "unicode/utf8.acceptRanges", "internal/bytealg.MaxLen", "strconv.ErrSyntax", "strconv.ErrRange", "internal/strconv.uint64pow10", "math/bits.deBruijn32tab", "math/bits.deBruijn64tab"], apart := false, laid := [("math/bits.deBruijn32tab", laid_math_bits_deBruijn32tab), ("math/bits.deBruijn64tab", laid_math_bits_deBruijn64tab), ("internal/strconv.uint64pow10", laid_internal_strconv_uint64pow10), ("unicode/utf8.acceptRanges", laid_unicode_utf8_acceptRanges), ("strconv.ErrRange", laid_strconv_ErrRange), ("strconv.ErrSyntax", laid_strconv_ErrSyntax), ("unicode/utf8.first", laid_unicode_utf8_first)], narrowed := true }
def FnExactCountHistoryUptoSaid : Prop := fnExactCountHistoryUptoRow.holds Tryd.pinned (OpenSpec.upto fnExactCountHistorySpec)

end Rows
end Go.Proofs.YtilagemeigeceaaDoor
