/-
  No cell of these rows narrows 'for every input' (looked for: loops, veiled, ifaces, maps, wideKeys, modest, calm, conditions, laid).
  DERIVED. THE GIVEN ROWS OF THIS SEAT. 6 by the template 'for every input the law returns true; each argument reads behind the call as it read before'; 0 by the template 'total and deterministic' (their statements: YtenpdgodolkpaaaTotals.lean).
  GIVEN WITH THE SEED: the statements are not yours to turn. If you find one false, say at which input.
  Laid BY PROGRAM, IN A SANDBOX (cutbox-rows.mjs): the forced cells as the released guide's own fill.sh prints them over the translation db07f2cfe73a0066… (all of the seat's roots in one cut). By AI agents, Wed Nov 11 2026. No macro, syntax, notation, axiom, sorry.
-/
import Derived.Test.YtenpdgodolkpaaaChecked
import GoSem.Claim
import GoSem.ClaimJoined
import GoSem.ClaimMapViews
import Derived.JoinedTies
import Derived.KernelRfl
namespace Go.Proofs.Ytenpdgodolkpaaa
/- THE CELL 'sum', in the pinned program and in every row, IS THE sha256 OF THE DUMP (.gsa) THAT YtenpdgodolkpaaaProg.lean LOADS. Nothing in Lean hashes anything: it is a label: what it is worth is what the hold of that sum in a sandbox is worth. -/
noncomputable def Try.pinned : Pinned := { name := "ytenpdgodolkpaaa", sum := "db07f2cfe73a00665c55e4898e49db57da5a21a7d65f053d4c11dac1e01ae8b8", checked := Try.checked }
namespace Rows
def none {H : Type} : Left H := { results := [], args := [] }

/-- 'laws.FnExactDeskWords': WHATEVER THE INPUT: true; the input reads as it did. -/
def fnExactDeskWordsSpec : ChangeSpec := { name := "fnExactDeskWords", fn := fun _ => fun
  | [] => { results := [.lit (.bool true)], args := [] }
  | _ => none }
def fnExactDeskWordsRow : OpenClaim := { program := "ytenpdgodolkpaaa", sum := "db07f2cfe73a00665c55e4898e49db57da5a21a7d65f053d4c11dac1e01ae8b8", func := "loop.example/g01012/laws.FnExactDeskWords", spec := "fnExactDeskWords", apart := false }
def FnExactDeskWordsSaid : Prop := fnExactDeskWordsRow.holds Try.pinned (OpenSpec.ofChange fnExactDeskWordsSpec)

/-- ITS FALSE NEIGHBOUR: 'it returns false'. Refute it at one input. -/
def fnExactDeskWordsWrong : ChangeSpec := { name := "fnExactDeskWords", fn := fun _ => fun
  | [] => { results := [.lit (.bool false)], args := [] }
  | _ => none }
def FnExactDeskWordsWrongFalsely : Prop := fnExactDeskWordsRow.holds Try.pinned (OpenSpec.ofChange fnExactDeskWordsWrong)

/-- 'laws.FnExactValidNote': WHATEVER THE INPUT: true; the input reads as it did. -/
def fnExactValidNoteSpec : ChangeSpec := { name := "fnExactValidNote", fn := fun _ => fun
  | [d] => { results := [.lit (.bool true)], args := [d] }
  | _ => none }
def fnExactValidNoteRow : OpenClaim := { program := "ytenpdgodolkpaaa", sum := "db07f2cfe73a00665c55e4898e49db57da5a21a7d65f053d4c11dac1e01ae8b8", func := "loop.example/g01012/laws.FnExactValidNote", spec := "fnExactValidNote", apart := false }
def FnExactValidNoteSaid : Prop := fnExactValidNoteRow.holds Try.pinned (OpenSpec.ofChange fnExactValidNoteSpec)

/-- ITS FALSE NEIGHBOUR: 'it returns false'. Refute it at one input. -/
def fnExactValidNoteWrong : ChangeSpec := { name := "fnExactValidNote", fn := fun _ => fun
  | [d] => { results := [.lit (.bool false)], args := [d] }
  | _ => none }
def FnExactValidNoteWrongFalsely : Prop := fnExactValidNoteRow.holds Try.pinned (OpenSpec.ofChange fnExactValidNoteWrong)

/-- 'laws.FnExactSameParts': WHATEVER THE INPUT: true; the input reads as it did. -/
def fnExactSamePartsSpec : ChangeSpec := { name := "fnExactSameParts", fn := fun _ => fun
  | [d1, d2] => { results := [.lit (.bool true)], args := [d1, d2] }
  | _ => none }
def fnExactSamePartsRow : OpenClaim := { program := "ytenpdgodolkpaaa", sum := "db07f2cfe73a00665c55e4898e49db57da5a21a7d65f053d4c11dac1e01ae8b8", func := "loop.example/g01012/laws.FnExactSameParts", spec := "fnExactSameParts", apart := false }
def FnExactSamePartsSaid : Prop := fnExactSamePartsRow.holds Try.pinned (OpenSpec.ofChange fnExactSamePartsSpec)

/-- ITS FALSE NEIGHBOUR: 'it returns false'. Refute it at one input. -/
def fnExactSamePartsWrong : ChangeSpec := { name := "fnExactSameParts", fn := fun _ => fun
  | [d1, d2] => { results := [.lit (.bool false)], args := [d1, d2] }
  | _ => none }
def FnExactSamePartsWrongFalsely : Prop := fnExactSamePartsRow.holds Try.pinned (OpenSpec.ofChange fnExactSamePartsWrong)

/-- 'laws.FnExactSameBoxes': WHATEVER THE INPUT: true; the input reads as it did. -/
def fnExactSameBoxesSpec : ChangeSpec := { name := "fnExactSameBoxes", fn := fun _ => fun
  | [d1, d2] => { results := [.lit (.bool true)], args := [d1, d2] }
  | _ => none }
def fnExactSameBoxesRow : OpenClaim := { program := "ytenpdgodolkpaaa", sum := "db07f2cfe73a00665c55e4898e49db57da5a21a7d65f053d4c11dac1e01ae8b8", func := "loop.example/g01012/laws.FnExactSameBoxes", spec := "fnExactSameBoxes", apart := false }
def FnExactSameBoxesSaid : Prop := fnExactSameBoxesRow.holds Try.pinned (OpenSpec.ofChange fnExactSameBoxesSpec)

/-- ITS FALSE NEIGHBOUR: 'it returns false'. Refute it at one input. -/
def fnExactSameBoxesWrong : ChangeSpec := { name := "fnExactSameBoxes", fn := fun _ => fun
  | [d1, d2] => { results := [.lit (.bool false)], args := [d1, d2] }
  | _ => none }
def FnExactSameBoxesWrongFalsely : Prop := fnExactSameBoxesRow.holds Try.pinned (OpenSpec.ofChange fnExactSameBoxesWrong)

/-- 'laws.FnExactValidBoxes': WHATEVER THE INPUT: true; the input reads as it did. -/
def fnExactValidBoxesSpec : ChangeSpec := { name := "fnExactValidBoxes", fn := fun _ => fun
  | [d] => { results := [.lit (.bool true)], args := [d] }
  | _ => none }
def fnExactValidBoxesRow : OpenClaim := { program := "ytenpdgodolkpaaa", sum := "db07f2cfe73a00665c55e4898e49db57da5a21a7d65f053d4c11dac1e01ae8b8", func := "loop.example/g01012/laws.FnExactValidBoxes", spec := "fnExactValidBoxes", apart := false }
def FnExactValidBoxesSaid : Prop := fnExactValidBoxesRow.holds Try.pinned (OpenSpec.ofChange fnExactValidBoxesSpec)

/-- ITS FALSE NEIGHBOUR: 'it returns false'. Refute it at one input. -/
def fnExactValidBoxesWrong : ChangeSpec := { name := "fnExactValidBoxes", fn := fun _ => fun
  | [d] => { results := [.lit (.bool false)], args := [d] }
  | _ => none }
def FnExactValidBoxesWrongFalsely : Prop := fnExactValidBoxesRow.holds Try.pinned (OpenSpec.ofChange fnExactValidBoxesWrong)

/-- 'laws.FnExactValidParts': WHATEVER THE INPUT: true; the input reads as it did. -/
def fnExactValidPartsSpec : ChangeSpec := { name := "fnExactValidParts", fn := fun _ => fun
  | [d] => { results := [.lit (.bool true)], args := [d] }
  | _ => none }
def fnExactValidPartsRow : OpenClaim := { program := "ytenpdgodolkpaaa", sum := "db07f2cfe73a00665c55e4898e49db57da5a21a7d65f053d4c11dac1e01ae8b8", func := "loop.example/g01012/laws.FnExactValidParts", spec := "fnExactValidParts", unfollowed := true, recurses := true, apart := false }
def FnExactValidPartsSaid : Prop := fnExactValidPartsRow.holds Try.pinned (OpenSpec.ofChange fnExactValidPartsSpec)

/-- ITS FALSE NEIGHBOUR: 'it returns false'. Refute it at one input. -/
def fnExactValidPartsWrong : ChangeSpec := { name := "fnExactValidParts", fn := fun _ => fun
  | [d] => { results := [.lit (.bool false)], args := [d] }
  | _ => none }
def FnExactValidPartsWrongFalsely : Prop := fnExactValidPartsRow.holds Try.pinned (OpenSpec.ofChange fnExactValidPartsWrong)

/- THE SECOND FORM. 'bulk': how many values and letters a reading holds, each counted each time it is reached (what is shared counts as often as it is met; a slice's spare places count too). A statement '..UptoSaid' is the law's where the arguments, and the package variables that the reading takes, are together of bulk at most 1048576: NARROWER than '..Said'. Prove '..Said' where nothing that the law and all that it calls make is longer than what came in: it says more and counts as full. Else prove '..UptoSaid'. A law counts once. -/
mutual
def uptoBulk {H : Type} : DataW H → Nat
  | .lit (.string bytes) => bytes.length + 1
  | .lit _ => 1
  | .nil => 1
  | .ptr d => uptoBulk d + 1
  | .slice elems spare => uptoBulkAll elems + uptoBulkAll spare + 1
  | .agg parts => uptoBulkAll parts + 1
  | .iface _ d => uptoBulk d + 1
  | .map entries => uptoBulkEntries entries + 1
  | .held _ => 1
def uptoBulkAll {H : Type} : List (DataW H) → Nat
  | [] => 0
  | d :: r => uptoBulk d + uptoBulkAll r
def uptoBulkEntries {H : Type} : List (Lit × DataW H) → Nat
  | [] => 0
  | x :: r => uptoBulkEntry x + uptoBulkEntries r
def uptoBulkEntry {H : Type} : Lit × DataW H → Nat
  | (.string bytes, d) => bytes.length + uptoBulk d + 1
  | (_, d) => uptoBulk d + 1
 end
def uptoSmall : (H : Type) → List (DataW H) → Bool := fun _ ds => decide (uptoBulkAll ds ≤ 1048576)
def OpenSpec.upto (s : _root_.Go.ChangeSpec) : _root_.Go.OpenSpec := { _root_.Go.OpenSpec.ofChange s with cond := some uptoSmall }

/-- 'laws.FnExactDeskWords', WHERE WHAT IT READS IS OF BULK AT MOST 1048576: true; the input reads as it did. -/
def fnExactDeskWordsUptoRow : OpenClaim := { program := "ytenpdgodolkpaaa", sum := "db07f2cfe73a00665c55e4898e49db57da5a21a7d65f053d4c11dac1e01ae8b8", func := "loop.example/g01012/laws.FnExactDeskWords", spec := "fnExactDeskWords", apart := false, narrowed := true }
def FnExactDeskWordsUptoSaid : Prop := fnExactDeskWordsUptoRow.holds Try.pinned (OpenSpec.upto fnExactDeskWordsSpec)

/-- 'laws.FnExactValidNote', WHERE WHAT IT READS IS OF BULK AT MOST 1048576: true; the input reads as it did. -/
def fnExactValidNoteUptoRow : OpenClaim := { program := "ytenpdgodolkpaaa", sum := "db07f2cfe73a00665c55e4898e49db57da5a21a7d65f053d4c11dac1e01ae8b8", func := "loop.example/g01012/laws.FnExactValidNote", spec := "fnExactValidNote", apart := false, narrowed := true }
def FnExactValidNoteUptoSaid : Prop := fnExactValidNoteUptoRow.holds Try.pinned (OpenSpec.upto fnExactValidNoteSpec)

/-- 'laws.FnExactSameParts', WHERE WHAT IT READS IS OF BULK AT MOST 1048576: true; the input reads as it did. -/
def fnExactSamePartsUptoRow : OpenClaim := { program := "ytenpdgodolkpaaa", sum := "db07f2cfe73a00665c55e4898e49db57da5a21a7d65f053d4c11dac1e01ae8b8", func := "loop.example/g01012/laws.FnExactSameParts", spec := "fnExactSameParts", apart := false, narrowed := true }
def FnExactSamePartsUptoSaid : Prop := fnExactSamePartsUptoRow.holds Try.pinned (OpenSpec.upto fnExactSamePartsSpec)

/-- 'laws.FnExactSameBoxes', WHERE WHAT IT READS IS OF BULK AT MOST 1048576: true; the input reads as it did. -/
def fnExactSameBoxesUptoRow : OpenClaim := { program := "ytenpdgodolkpaaa", sum := "db07f2cfe73a00665c55e4898e49db57da5a21a7d65f053d4c11dac1e01ae8b8", func := "loop.example/g01012/laws.FnExactSameBoxes", spec := "fnExactSameBoxes", apart := false, narrowed := true }
def FnExactSameBoxesUptoSaid : Prop := fnExactSameBoxesUptoRow.holds Try.pinned (OpenSpec.upto fnExactSameBoxesSpec)

/-- 'laws.FnExactValidBoxes', WHERE WHAT IT READS IS OF BULK AT MOST 1048576: true; the input reads as it did. -/
def fnExactValidBoxesUptoRow : OpenClaim := { program := "ytenpdgodolkpaaa", sum := "db07f2cfe73a00665c55e4898e49db57da5a21a7d65f053d4c11dac1e01ae8b8", func := "loop.example/g01012/laws.FnExactValidBoxes", spec := "fnExactValidBoxes", apart := false, narrowed := true }
def FnExactValidBoxesUptoSaid : Prop := fnExactValidBoxesUptoRow.holds Try.pinned (OpenSpec.upto fnExactValidBoxesSpec)

/-- 'laws.FnExactValidParts', WHERE WHAT IT READS IS OF BULK AT MOST 1048576: true; the input reads as it did. -/
def fnExactValidPartsUptoRow : OpenClaim := { program := "ytenpdgodolkpaaa", sum := "db07f2cfe73a00665c55e4898e49db57da5a21a7d65f053d4c11dac1e01ae8b8", func := "loop.example/g01012/laws.FnExactValidParts", spec := "fnExactValidParts", unfollowed := true, recurses := true, apart := false, narrowed := true }
def FnExactValidPartsUptoSaid : Prop := fnExactValidPartsUptoRow.holds Try.pinned (OpenSpec.upto fnExactValidPartsSpec)

end Rows
end Go.Proofs.Ytenpdgodolkpaaa
