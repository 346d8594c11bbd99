/-
  No cell of these rows narrows 'for every input' (looked for: loops, veiled, ifaces, maps, wideKeys, modest, calm, conditions, laid).
  DERIVED. THE GIVEN ROWS OF THIS SEAT. 5 by the template 'for every input the law returns true; each argument reads behind the call as it read before'; 0 by the template 'total and deterministic' (their statements: YtmhnmdcleeadiaaTotals.lean).
  GIVEN WITH THE SEED: the statements are not yours to turn. If you find one false, say at which input.
  Laid BY PROGRAM, IN A SANDBOX (cutbox-rows.mjs): the forced cells as the released guide's own fill.sh prints them over the translation ed5194bdf16ec88f… (all of the seat's roots in one cut). By AI agents, Wed Nov 11 2026. No macro, syntax, notation, axiom, sorry.
-/
import Derived.Test.YtmhnmdcleeadiaaChecked
import GoSem.Claim
import GoSem.ClaimJoined
import GoSem.ClaimMapViews
import Derived.JoinedTies
import Derived.KernelRfl
namespace Go.Proofs.Ytmhnmdcleeadiaa
/- THE CELL 'sum', in the pinned program and in every row, IS THE sha256 OF THE DUMP (.gsa) THAT YtmhnmdcleeadiaaProg.lean LOADS. Nothing in Lean hashes anything: it is a label: what it is worth is what the hold of that sum in a sandbox is worth. -/
noncomputable def Try.pinned : Pinned := { name := "ytmhnmdcleeadiaa", sum := "ed5194bdf16ec88fd8bcfe241e0d20eb86f456b3cffa25c50b345921c2fed6f7", checked := Try.checked }
namespace Rows
def none {H : Type} : Left H := { results := [], args := [] }

/-- 'laws.FnExactStoreBox': WHATEVER THE INPUT: true; the input reads as it did. -/
def fnExactStoreBoxSpec : ChangeSpec := { name := "fnExactStoreBox", fn := fun _ => fun
  | [d1, d2] => { results := [.lit (.bool true)], args := [d1, d2] }
  | _ => none }
def fnExactStoreBoxRow : OpenClaim := { program := "ytmhnmdcleeadiaa", sum := "ed5194bdf16ec88fd8bcfe241e0d20eb86f456b3cffa25c50b345921c2fed6f7", func := "loop.example/g01012/laws.FnExactStoreBox", spec := "fnExactStoreBox", inPlace := ["internal/bytealg.abigen_runtime_cmpstring"], unfollowed := true, recurses := true, apart := false }
def FnExactStoreBoxSaid : Prop := fnExactStoreBoxRow.holds Try.pinned (OpenSpec.ofChange fnExactStoreBoxSpec)

/-- ITS FALSE NEIGHBOUR: 'it returns false'. Refute it at one input. -/
def fnExactStoreBoxWrong : ChangeSpec := { name := "fnExactStoreBox", fn := fun _ => fun
  | [d1, d2] => { results := [.lit (.bool false)], args := [d1, d2] }
  | _ => none }
def FnExactStoreBoxWrongFalsely : Prop := fnExactStoreBoxRow.holds Try.pinned (OpenSpec.ofChange fnExactStoreBoxWrong)

/-- 'laws.FnExactTableTexts': WHATEVER THE INPUT: true; the input reads as it did. -/
def fnExactTableTextsSpec : ChangeSpec := { name := "fnExactTableTexts", fn := fun _ => fun
  | [d1, d2, d3] => { results := [.lit (.bool true)], args := [d1, d2, d3] }
  | _ => none }
def fnExactTableTextsRow : OpenClaim := { program := "ytmhnmdcleeadiaa", sum := "ed5194bdf16ec88fd8bcfe241e0d20eb86f456b3cffa25c50b345921c2fed6f7", func := "loop.example/g01012/laws.FnExactTableTexts", spec := "fnExactTableTexts", unfollowed := true, recurses := true, apart := false }
def FnExactTableTextsSaid : Prop := fnExactTableTextsRow.holds Try.pinned (OpenSpec.ofChange fnExactTableTextsSpec)

/-- ITS FALSE NEIGHBOUR: 'it returns false'. Refute it at one input. -/
def fnExactTableTextsWrong : ChangeSpec := { name := "fnExactTableTexts", fn := fun _ => fun
  | [d1, d2, d3] => { results := [.lit (.bool false)], args := [d1, d2, d3] }
  | _ => none }
def FnExactTableTextsWrongFalsely : Prop := fnExactTableTextsRow.holds Try.pinned (OpenSpec.ofChange fnExactTableTextsWrong)

/-- 'laws.FnExactMissingTexts': WHATEVER THE INPUT: true; the input reads as it did. -/
def fnExactMissingTextsSpec : ChangeSpec := { name := "fnExactMissingTexts", fn := fun _ => fun
  | [d1, d2, d3] => { results := [.lit (.bool true)], args := [d1, d2, d3] }
  | _ => none }
def fnExactMissingTextsRow : OpenClaim := { program := "ytmhnmdcleeadiaa", sum := "ed5194bdf16ec88fd8bcfe241e0d20eb86f456b3cffa25c50b345921c2fed6f7", func := "loop.example/g01012/laws.FnExactMissingTexts", spec := "fnExactMissingTexts", unfollowed := true, recurses := true, apart := false }
def FnExactMissingTextsSaid : Prop := fnExactMissingTextsRow.holds Try.pinned (OpenSpec.ofChange fnExactMissingTextsSpec)

/-- ITS FALSE NEIGHBOUR: 'it returns false'. Refute it at one input. -/
def fnExactMissingTextsWrong : ChangeSpec := { name := "fnExactMissingTexts", fn := fun _ => fun
  | [d1, d2, d3] => { results := [.lit (.bool false)], args := [d1, d2, d3] }
  | _ => none }
def FnExactMissingTextsWrongFalsely : Prop := fnExactMissingTextsRow.holds Try.pinned (OpenSpec.ofChange fnExactMissingTextsWrong)

/-- 'laws.FnExactCountTexts': WHATEVER THE INPUT: true; the input reads as it did. -/
def fnExactCountTextsSpec : ChangeSpec := { name := "fnExactCountTexts", fn := fun _ => fun
  | [d1, d2] => { results := [.lit (.bool true)], args := [d1, d2] }
  | _ => none }
def fnExactCountTextsRow : OpenClaim := { program := "ytmhnmdcleeadiaa", sum := "ed5194bdf16ec88fd8bcfe241e0d20eb86f456b3cffa25c50b345921c2fed6f7", func := "loop.example/g01012/laws.FnExactCountTexts", spec := "fnExactCountTexts", unfollowed := true, recurses := true, apart := false }
def FnExactCountTextsSaid : Prop := fnExactCountTextsRow.holds Try.pinned (OpenSpec.ofChange fnExactCountTextsSpec)

/-- ITS FALSE NEIGHBOUR: 'it returns false'. Refute it at one input. -/
def fnExactCountTextsWrong : ChangeSpec := { name := "fnExactCountTexts", fn := fun _ => fun
  | [d1, d2] => { results := [.lit (.bool false)], args := [d1, d2] }
  | _ => none }
def FnExactCountTextsWrongFalsely : Prop := fnExactCountTextsRow.holds Try.pinned (OpenSpec.ofChange fnExactCountTextsWrong)

/-- 'laws.FnExactCrossTable': WHATEVER THE INPUT: true; the input reads as it did. -/
def fnExactCrossTableSpec : ChangeSpec := { name := "fnExactCrossTable", fn := fun _ => fun
  | [d1, d2, d3] => { results := [.lit (.bool true)], args := [d1, d2, d3] }
  | _ => none }
def fnExactCrossTableRow : OpenClaim := { program := "ytmhnmdcleeadiaa", sum := "ed5194bdf16ec88fd8bcfe241e0d20eb86f456b3cffa25c50b345921c2fed6f7", func := "loop.example/g01012/laws.FnExactCrossTable", spec := "fnExactCrossTable", unfollowed := true, recurses := true, apart := false }
def FnExactCrossTableSaid : Prop := fnExactCrossTableRow.holds Try.pinned (OpenSpec.ofChange fnExactCrossTableSpec)

/-- ITS FALSE NEIGHBOUR: 'it returns false'. Refute it at one input. -/
def fnExactCrossTableWrong : ChangeSpec := { name := "fnExactCrossTable", fn := fun _ => fun
  | [d1, d2, d3] => { results := [.lit (.bool false)], args := [d1, d2, d3] }
  | _ => none }
def FnExactCrossTableWrongFalsely : Prop := fnExactCrossTableRow.holds Try.pinned (OpenSpec.ofChange fnExactCrossTableWrong)

/- THE SECOND FORM. 'bulk': how many values and letters a reading holds, each counted each time it is reached (what is shared counts as often as it is met; a slice's spare places count too). A statement '..UptoSaid' is the law's where the arguments, and the package variables that the reading takes, are together of bulk at most 1048576: NARROWER than '..Said'. Prove '..Said' where nothing that the law and all that it calls make is longer than what came in: it says more and counts as full. Else prove '..UptoSaid'. A law counts once. -/
mutual
def uptoBulk {H : Type} : DataW H → Nat
  | .lit (.string bytes) => bytes.length + 1
  | .lit _ => 1
  | .nil => 1
  | .ptr d => uptoBulk d + 1
  | .slice elems spare => uptoBulkAll elems + uptoBulkAll spare + 1
  | .agg parts => uptoBulkAll parts + 1
  | .iface _ d => uptoBulk d + 1
  | .map entries => uptoBulkEntries entries + 1
  | .held _ => 1
def uptoBulkAll {H : Type} : List (DataW H) → Nat
  | [] => 0
  | d :: r => uptoBulk d + uptoBulkAll r
def uptoBulkEntries {H : Type} : List (Lit × DataW H) → Nat
  | [] => 0
  | x :: r => uptoBulkEntry x + uptoBulkEntries r
def uptoBulkEntry {H : Type} : Lit × DataW H → Nat
  | (.string bytes, d) => bytes.length + uptoBulk d + 1
  | (_, d) => uptoBulk d + 1
 end
def uptoSmall : (H : Type) → List (DataW H) → Bool := fun _ ds => decide (uptoBulkAll ds ≤ 1048576)
def OpenSpec.upto (s : _root_.Go.ChangeSpec) : _root_.Go.OpenSpec := { _root_.Go.OpenSpec.ofChange s with cond := some uptoSmall }

/-- 'laws.FnExactStoreBox', WHERE WHAT IT READS IS OF BULK AT MOST 1048576: true; the input reads as it did. -/
def fnExactStoreBoxUptoRow : OpenClaim := { program := "ytmhnmdcleeadiaa", sum := "ed5194bdf16ec88fd8bcfe241e0d20eb86f456b3cffa25c50b345921c2fed6f7", func := "loop.example/g01012/laws.FnExactStoreBox", spec := "fnExactStoreBox", inPlace := ["internal/bytealg.abigen_runtime_cmpstring"], unfollowed := true, recurses := true, apart := false, narrowed := true }
def FnExactStoreBoxUptoSaid : Prop := fnExactStoreBoxUptoRow.holds Try.pinned (OpenSpec.upto fnExactStoreBoxSpec)

/-- 'laws.FnExactTableTexts', WHERE WHAT IT READS IS OF BULK AT MOST 1048576: true; the input reads as it did. -/
def fnExactTableTextsUptoRow : OpenClaim := { program := "ytmhnmdcleeadiaa", sum := "ed5194bdf16ec88fd8bcfe241e0d20eb86f456b3cffa25c50b345921c2fed6f7", func := "loop.example/g01012/laws.FnExactTableTexts", spec := "fnExactTableTexts", unfollowed := true, recurses := true, apart := false, narrowed := true }
def FnExactTableTextsUptoSaid : Prop := fnExactTableTextsUptoRow.holds Try.pinned (OpenSpec.upto fnExactTableTextsSpec)

/-- 'laws.FnExactMissingTexts', WHERE WHAT IT READS IS OF BULK AT MOST 1048576: true; the input reads as it did. -/
def fnExactMissingTextsUptoRow : OpenClaim := { program := "ytmhnmdcleeadiaa", sum := "ed5194bdf16ec88fd8bcfe241e0d20eb86f456b3cffa25c50b345921c2fed6f7", func := "loop.example/g01012/laws.FnExactMissingTexts", spec := "fnExactMissingTexts", unfollowed := true, recurses := true, apart := false, narrowed := true }
def FnExactMissingTextsUptoSaid : Prop := fnExactMissingTextsUptoRow.holds Try.pinned (OpenSpec.upto fnExactMissingTextsSpec)

/-- 'laws.FnExactCountTexts', WHERE WHAT IT READS IS OF BULK AT MOST 1048576: true; the input reads as it did. -/
def fnExactCountTextsUptoRow : OpenClaim := { program := "ytmhnmdcleeadiaa", sum := "ed5194bdf16ec88fd8bcfe241e0d20eb86f456b3cffa25c50b345921c2fed6f7", func := "loop.example/g01012/laws.FnExactCountTexts", spec := "fnExactCountTexts", unfollowed := true, recurses := true, apart := false, narrowed := true }
def FnExactCountTextsUptoSaid : Prop := fnExactCountTextsUptoRow.holds Try.pinned (OpenSpec.upto fnExactCountTextsSpec)

/-- 'laws.FnExactCrossTable', WHERE WHAT IT READS IS OF BULK AT MOST 1048576: true; the input reads as it did. -/
def fnExactCrossTableUptoRow : OpenClaim := { program := "ytmhnmdcleeadiaa", sum := "ed5194bdf16ec88fd8bcfe241e0d20eb86f456b3cffa25c50b345921c2fed6f7", func := "loop.example/g01012/laws.FnExactCrossTable", spec := "fnExactCrossTable", unfollowed := true, recurses := true, apart := false, narrowed := true }
def FnExactCrossTableUptoSaid : Prop := fnExactCrossTableUptoRow.holds Try.pinned (OpenSpec.upto fnExactCrossTableSpec)

end Rows
end Go.Proofs.Ytmhnmdcleeadiaa
