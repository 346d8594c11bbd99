/-
  No cell of these rows narrows 'for every input' (looked for: loops, veiled, ifaces, maps, wideKeys, modest, calm, conditions, laid).
  DERIVED. THE GIVEN ROWS OF THIS SEAT. 12 by the template 'for every input the law returns true; each argument reads behind the call as it read before'; 0 by the template 'total and deterministic' (their statements: YtkeeebdfjoefgaaTotals.lean).
  GIVEN WITH THE SEED: the statements are not yours to turn. If you find one false, say at which input.
  Laid BY PROGRAM, IN A SANDBOX (cutbox-rows.mjs): the forced cells as the released guide's own fill.sh prints them over the translation edd8ffa276de8586… (all of the seat's roots in one cut). By AI agents, Wed Nov 11 2026. No macro, syntax, notation, axiom, sorry.
-/
import Derived.Test.YtkeeebdfjoefgaaChecked
import GoSem.Claim
import GoSem.ClaimJoined
import GoSem.ClaimMapViews
import Derived.JoinedTies
import Derived.KernelRfl
namespace Go.Proofs.Ytkeeebdfjoefgaa
/- THE CELL 'sum', in the pinned program and in every row, IS THE sha256 OF THE DUMP (.gsa) THAT YtkeeebdfjoefgaaProg.lean LOADS. Nothing in Lean hashes anything: it is a label: what it is worth is what the hold of that sum in a sandbox is worth. -/
noncomputable def Try.pinned : Pinned := { name := "ytkeeebdfjoefgaa", sum := "edd8ffa276de8586c9a0db3af4474fc153ea106dcf1adf608e190c697f33dc77", checked := Try.checked }
namespace Rows
def none {H : Type} : Left H := { results := [], args := [] }

/-- 'laws.FnExactCardsKept': WHATEVER THE INPUT: true; the input reads as it did. -/
def fnExactCardsKeptSpec : ChangeSpec := { name := "fnExactCardsKept", fn := fun _ => fun
  | [d1, d2] => { results := [.lit (.bool true)], args := [d1, d2] }
  | _ => none }
def fnExactCardsKeptRow : OpenClaim := { program := "ytkeeebdfjoefgaa", sum := "edd8ffa276de8586c9a0db3af4474fc153ea106dcf1adf608e190c697f33dc77", func := "loop.example/g01012/laws.FnExactCardsKept", spec := "fnExactCardsKept", apart := false }
def FnExactCardsKeptSaid : Prop := fnExactCardsKeptRow.holds Try.pinned (OpenSpec.ofChange fnExactCardsKeptSpec)

/-- ITS FALSE NEIGHBOUR: 'it returns false'. Refute it at one input. -/
def fnExactCardsKeptWrong : ChangeSpec := { name := "fnExactCardsKept", fn := fun _ => fun
  | [d1, d2] => { results := [.lit (.bool false)], args := [d1, d2] }
  | _ => none }
def FnExactCardsKeptWrongFalsely : Prop := fnExactCardsKeptRow.holds Try.pinned (OpenSpec.ofChange fnExactCardsKeptWrong)

/-- 'laws.FnExactShelvesNeeded': WHATEVER THE INPUT: true; the input reads as it did. -/
def fnExactShelvesNeededSpec : ChangeSpec := { name := "fnExactShelvesNeeded", fn := fun _ => fun
  | [d1, d2] => { results := [.lit (.bool true)], args := [d1, d2] }
  | _ => none }
def fnExactShelvesNeededRow : OpenClaim := { program := "ytkeeebdfjoefgaa", sum := "edd8ffa276de8586c9a0db3af4474fc153ea106dcf1adf608e190c697f33dc77", func := "loop.example/g01012/laws.FnExactShelvesNeeded", spec := "fnExactShelvesNeeded", unfollowed := true, recurses := true, apart := false }
def FnExactShelvesNeededSaid : Prop := fnExactShelvesNeededRow.holds Try.pinned (OpenSpec.ofChange fnExactShelvesNeededSpec)

/-- ITS FALSE NEIGHBOUR: 'it returns false'. Refute it at one input. -/
def fnExactShelvesNeededWrong : ChangeSpec := { name := "fnExactShelvesNeeded", fn := fun _ => fun
  | [d1, d2] => { results := [.lit (.bool false)], args := [d1, d2] }
  | _ => none }
def FnExactShelvesNeededWrongFalsely : Prop := fnExactShelvesNeededRow.holds Try.pinned (OpenSpec.ofChange fnExactShelvesNeededWrong)

/-- 'laws.FnExactValueClasses': WHATEVER THE INPUT: true; the input reads as it did. -/
def fnExactValueClassesSpec : ChangeSpec := { name := "fnExactValueClasses", fn := fun _ => fun
  | [d] => { results := [.lit (.bool true)], args := [d] }
  | _ => none }
def fnExactValueClassesRow : OpenClaim := { program := "ytkeeebdfjoefgaa", sum := "edd8ffa276de8586c9a0db3af4474fc153ea106dcf1adf608e190c697f33dc77", func := "loop.example/g01012/laws.FnExactValueClasses", spec := "fnExactValueClasses", unfollowed := true, recurses := true, apart := false }
def FnExactValueClassesSaid : Prop := fnExactValueClassesRow.holds Try.pinned (OpenSpec.ofChange fnExactValueClassesSpec)

/-- ITS FALSE NEIGHBOUR: 'it returns false'. Refute it at one input. -/
def fnExactValueClassesWrong : ChangeSpec := { name := "fnExactValueClasses", fn := fun _ => fun
  | [d] => { results := [.lit (.bool false)], args := [d] }
  | _ => none }
def FnExactValueClassesWrongFalsely : Prop := fnExactValueClassesRow.holds Try.pinned (OpenSpec.ofChange fnExactValueClassesWrong)

/-- 'laws.FnExactLentTo': WHATEVER THE INPUT: true; the input reads as it did. -/
def fnExactLentToSpec : ChangeSpec := { name := "fnExactLentTo", fn := fun _ => fun
  | [d1, d2] => { results := [.lit (.bool true)], args := [d1, d2] }
  | _ => none }
def fnExactLentToRow : OpenClaim := { program := "ytkeeebdfjoefgaa", sum := "edd8ffa276de8586c9a0db3af4474fc153ea106dcf1adf608e190c697f33dc77", func := "loop.example/g01012/laws.FnExactLentTo", spec := "fnExactLentTo", unfollowed := true, recurses := true, apart := false }
def FnExactLentToSaid : Prop := fnExactLentToRow.holds Try.pinned (OpenSpec.ofChange fnExactLentToSpec)

/-- ITS FALSE NEIGHBOUR: 'it returns false'. Refute it at one input. -/
def fnExactLentToWrong : ChangeSpec := { name := "fnExactLentTo", fn := fun _ => fun
  | [d1, d2] => { results := [.lit (.bool false)], args := [d1, d2] }
  | _ => none }
def FnExactLentToWrongFalsely : Prop := fnExactLentToRow.holds Try.pinned (OpenSpec.ofChange fnExactLentToWrong)

/-- 'laws.FnExactStockCheck': WHATEVER THE INPUT: true; the input reads as it did. -/
def fnExactStockCheckSpec : ChangeSpec := { name := "fnExactStockCheck", fn := fun _ => fun
  | [d1, d2] => { results := [.lit (.bool true)], args := [d1, d2] }
  | _ => none }
def fnExactStockCheckRow : OpenClaim := { program := "ytkeeebdfjoefgaa", sum := "edd8ffa276de8586c9a0db3af4474fc153ea106dcf1adf608e190c697f33dc77", func := "loop.example/g01012/laws.FnExactStockCheck", spec := "fnExactStockCheck", unfollowed := true, recurses := true, apart := false }
def FnExactStockCheckSaid : Prop := fnExactStockCheckRow.holds Try.pinned (OpenSpec.ofChange fnExactStockCheckSpec)

/-- ITS FALSE NEIGHBOUR: 'it returns false'. Refute it at one input. -/
def fnExactStockCheckWrong : ChangeSpec := { name := "fnExactStockCheck", fn := fun _ => fun
  | [d1, d2] => { results := [.lit (.bool false)], args := [d1, d2] }
  | _ => none }
def FnExactStockCheckWrongFalsely : Prop := fnExactStockCheckRow.holds Try.pinned (OpenSpec.ofChange fnExactStockCheckWrong)

/-- 'laws.FnExactPulpBoxes': WHATEVER THE INPUT: true; the input reads as it did. -/
def fnExactPulpBoxesSpec : ChangeSpec := { name := "fnExactPulpBoxes", fn := fun _ => fun
  | [d1, d2] => { results := [.lit (.bool true)], args := [d1, d2] }
  | _ => none }
def fnExactPulpBoxesRow : OpenClaim := { program := "ytkeeebdfjoefgaa", sum := "edd8ffa276de8586c9a0db3af4474fc153ea106dcf1adf608e190c697f33dc77", func := "loop.example/g01012/laws.FnExactPulpBoxes", spec := "fnExactPulpBoxes", apart := false }
def FnExactPulpBoxesSaid : Prop := fnExactPulpBoxesRow.holds Try.pinned (OpenSpec.ofChange fnExactPulpBoxesSpec)

/-- ITS FALSE NEIGHBOUR: 'it returns false'. Refute it at one input. -/
def fnExactPulpBoxesWrong : ChangeSpec := { name := "fnExactPulpBoxes", fn := fun _ => fun
  | [d1, d2] => { results := [.lit (.bool false)], args := [d1, d2] }
  | _ => none }
def FnExactPulpBoxesWrongFalsely : Prop := fnExactPulpBoxesRow.holds Try.pinned (OpenSpec.ofChange fnExactPulpBoxesWrong)

/-- 'laws.FnExactApplyMove': WHATEVER THE INPUT: true; the input reads as it did. -/
def fnExactApplyMoveSpec : ChangeSpec := { name := "fnExactApplyMove", fn := fun _ => fun
  | [d1, d2] => { results := [.lit (.bool true)], args := [d1, d2] }
  | _ => none }
def fnExactApplyMoveRow : OpenClaim := { program := "ytkeeebdfjoefgaa", sum := "edd8ffa276de8586c9a0db3af4474fc153ea106dcf1adf608e190c697f33dc77", func := "loop.example/g01012/laws.FnExactApplyMove", spec := "fnExactApplyMove", unfollowed := true, recurses := true, apart := false }
def FnExactApplyMoveSaid : Prop := fnExactApplyMoveRow.holds Try.pinned (OpenSpec.ofChange fnExactApplyMoveSpec)

/-- ITS FALSE NEIGHBOUR: 'it returns false'. Refute it at one input. -/
def fnExactApplyMoveWrong : ChangeSpec := { name := "fnExactApplyMove", fn := fun _ => fun
  | [d1, d2] => { results := [.lit (.bool false)], args := [d1, d2] }
  | _ => none }
def FnExactApplyMoveWrongFalsely : Prop := fnExactApplyMoveRow.holds Try.pinned (OpenSpec.ofChange fnExactApplyMoveWrong)

/-- 'laws.FnExactReturnBox': WHATEVER THE INPUT: true; the input reads as it did. -/
def fnExactReturnBoxSpec : ChangeSpec := { name := "fnExactReturnBox", fn := fun _ => fun
  | [d1, d2] => { results := [.lit (.bool true)], args := [d1, d2] }
  | _ => none }
def fnExactReturnBoxRow : OpenClaim := { program := "ytkeeebdfjoefgaa", sum := "edd8ffa276de8586c9a0db3af4474fc153ea106dcf1adf608e190c697f33dc77", func := "loop.example/g01012/laws.FnExactReturnBox", spec := "fnExactReturnBox", unfollowed := true, recurses := true, apart := false }
def FnExactReturnBoxSaid : Prop := fnExactReturnBoxRow.holds Try.pinned (OpenSpec.ofChange fnExactReturnBoxSpec)

/-- ITS FALSE NEIGHBOUR: 'it returns false'. Refute it at one input. -/
def fnExactReturnBoxWrong : ChangeSpec := { name := "fnExactReturnBox", fn := fun _ => fun
  | [d1, d2] => { results := [.lit (.bool false)], args := [d1, d2] }
  | _ => none }
def FnExactReturnBoxWrongFalsely : Prop := fnExactReturnBoxRow.holds Try.pinned (OpenSpec.ofChange fnExactReturnBoxWrong)

/-- 'laws.FnExactLendBox': WHATEVER THE INPUT: true; the input reads as it did. -/
def fnExactLendBoxSpec : ChangeSpec := { name := "fnExactLendBox", fn := fun _ => fun
  | [d1, d2, d3] => { results := [.lit (.bool true)], args := [d1, d2, d3] }
  | _ => none }
def fnExactLendBoxRow : OpenClaim := { program := "ytkeeebdfjoefgaa", sum := "edd8ffa276de8586c9a0db3af4474fc153ea106dcf1adf608e190c697f33dc77", func := "loop.example/g01012/laws.FnExactLendBox", spec := "fnExactLendBox", unfollowed := true, recurses := true, apart := false }
def FnExactLendBoxSaid : Prop := fnExactLendBoxRow.holds Try.pinned (OpenSpec.ofChange fnExactLendBoxSpec)

/-- ITS FALSE NEIGHBOUR: 'it returns false'. Refute it at one input. -/
def fnExactLendBoxWrong : ChangeSpec := { name := "fnExactLendBox", fn := fun _ => fun
  | [d1, d2, d3] => { results := [.lit (.bool false)], args := [d1, d2, d3] }
  | _ => none }
def FnExactLendBoxWrongFalsely : Prop := fnExactLendBoxRow.holds Try.pinned (OpenSpec.ofChange fnExactLendBoxWrong)

/-- 'laws.FnExactSharesOf': WHATEVER THE INPUT: true; the input reads as it did. -/
def fnExactSharesOfSpec : ChangeSpec := { name := "fnExactSharesOf", fn := fun _ => fun
  | [d] => { results := [.lit (.bool true)], args := [d] }
  | _ => none }
def fnExactSharesOfRow : OpenClaim := { program := "ytkeeebdfjoefgaa", sum := "edd8ffa276de8586c9a0db3af4474fc153ea106dcf1adf608e190c697f33dc77", func := "loop.example/g01012/laws.FnExactSharesOf", spec := "fnExactSharesOf", unfollowed := true, recurses := true, apart := false }
def FnExactSharesOfSaid : Prop := fnExactSharesOfRow.holds Try.pinned (OpenSpec.ofChange fnExactSharesOfSpec)

/-- ITS FALSE NEIGHBOUR: 'it returns false'. Refute it at one input. -/
def fnExactSharesOfWrong : ChangeSpec := { name := "fnExactSharesOf", fn := fun _ => fun
  | [d] => { results := [.lit (.bool false)], args := [d] }
  | _ => none }
def FnExactSharesOfWrongFalsely : Prop := fnExactSharesOfRow.holds Try.pinned (OpenSpec.ofChange fnExactSharesOfWrong)

/-- 'laws.FnExactApplyMoves': WHATEVER THE INPUT: true; the input reads as it did. -/
def fnExactApplyMovesSpec : ChangeSpec := { name := "fnExactApplyMoves", fn := fun _ => fun
  | [d1, d2] => { results := [.lit (.bool true)], args := [d1, d2] }
  | _ => none }
def fnExactApplyMovesRow : OpenClaim := { program := "ytkeeebdfjoefgaa", sum := "edd8ffa276de8586c9a0db3af4474fc153ea106dcf1adf608e190c697f33dc77", func := "loop.example/g01012/laws.FnExactApplyMoves", spec := "fnExactApplyMoves", unfollowed := true, recurses := true, apart := false }
def FnExactApplyMovesSaid : Prop := fnExactApplyMovesRow.holds Try.pinned (OpenSpec.ofChange fnExactApplyMovesSpec)

/-- ITS FALSE NEIGHBOUR: 'it returns false'. Refute it at one input. -/
def fnExactApplyMovesWrong : ChangeSpec := { name := "fnExactApplyMoves", fn := fun _ => fun
  | [d1, d2] => { results := [.lit (.bool false)], args := [d1, d2] }
  | _ => none }
def FnExactApplyMovesWrongFalsely : Prop := fnExactApplyMovesRow.holds Try.pinned (OpenSpec.ofChange fnExactApplyMovesWrong)

/-- 'laws.FnExactNewDesk': WHATEVER THE INPUT: true; the input reads as it did. -/
def fnExactNewDeskSpec : ChangeSpec := { name := "fnExactNewDesk", fn := fun _ => fun
  | [] => { results := [.lit (.bool true)], args := [] }
  | _ => none }
def fnExactNewDeskRow : OpenClaim := { program := "ytkeeebdfjoefgaa", sum := "edd8ffa276de8586c9a0db3af4474fc153ea106dcf1adf608e190c697f33dc77", func := "loop.example/g01012/laws.FnExactNewDesk", spec := "fnExactNewDesk", unfollowed := true, recurses := true, apart := false }
def FnExactNewDeskSaid : Prop := fnExactNewDeskRow.holds Try.pinned (OpenSpec.ofChange fnExactNewDeskSpec)

/-- ITS FALSE NEIGHBOUR: 'it returns false'. Refute it at one input. -/
def fnExactNewDeskWrong : ChangeSpec := { name := "fnExactNewDesk", fn := fun _ => fun
  | [] => { results := [.lit (.bool false)], args := [] }
  | _ => none }
def FnExactNewDeskWrongFalsely : Prop := fnExactNewDeskRow.holds Try.pinned (OpenSpec.ofChange fnExactNewDeskWrong)

/- THE SECOND FORM. 'bulk': how many values and letters a reading holds, each counted each time it is reached (what is shared counts as often as it is met; a slice's spare places count too). A statement '..UptoSaid' is the law's where the arguments, and the package variables that the reading takes, are together of bulk at most 1048576: NARROWER than '..Said'. Prove '..Said' where nothing that the law and all that it calls make is longer than what came in: it says more and counts as full. Else prove '..UptoSaid'. A law counts once. -/
mutual
def uptoBulk {H : Type} : DataW H → Nat
  | .lit (.string bytes) => bytes.length + 1
  | .lit _ => 1
  | .nil => 1
  | .ptr d => uptoBulk d + 1
  | .slice elems spare => uptoBulkAll elems + uptoBulkAll spare + 1
  | .agg parts => uptoBulkAll parts + 1
  | .iface _ d => uptoBulk d + 1
  | .map entries => uptoBulkEntries entries + 1
  | .held _ => 1
def uptoBulkAll {H : Type} : List (DataW H) → Nat
  | [] => 0
  | d :: r => uptoBulk d + uptoBulkAll r
def uptoBulkEntries {H : Type} : List (Lit × DataW H) → Nat
  | [] => 0
  | x :: r => uptoBulkEntry x + uptoBulkEntries r
def uptoBulkEntry {H : Type} : Lit × DataW H → Nat
  | (.string bytes, d) => bytes.length + uptoBulk d + 1
  | (_, d) => uptoBulk d + 1
 end
def uptoSmall : (H : Type) → List (DataW H) → Bool := fun _ ds => decide (uptoBulkAll ds ≤ 1048576)
def OpenSpec.upto (s : _root_.Go.ChangeSpec) : _root_.Go.OpenSpec := { _root_.Go.OpenSpec.ofChange s with cond := some uptoSmall }

/-- 'laws.FnExactCardsKept', WHERE WHAT IT READS IS OF BULK AT MOST 1048576: true; the input reads as it did. -/
def fnExactCardsKeptUptoRow : OpenClaim := { program := "ytkeeebdfjoefgaa", sum := "edd8ffa276de8586c9a0db3af4474fc153ea106dcf1adf608e190c697f33dc77", func := "loop.example/g01012/laws.FnExactCardsKept", spec := "fnExactCardsKept", apart := false, narrowed := true }
def FnExactCardsKeptUptoSaid : Prop := fnExactCardsKeptUptoRow.holds Try.pinned (OpenSpec.upto fnExactCardsKeptSpec)

/-- 'laws.FnExactShelvesNeeded', WHERE WHAT IT READS IS OF BULK AT MOST 1048576: true; the input reads as it did. -/
def fnExactShelvesNeededUptoRow : OpenClaim := { program := "ytkeeebdfjoefgaa", sum := "edd8ffa276de8586c9a0db3af4474fc153ea106dcf1adf608e190c697f33dc77", func := "loop.example/g01012/laws.FnExactShelvesNeeded", spec := "fnExactShelvesNeeded", unfollowed := true, recurses := true, apart := false, narrowed := true }
def FnExactShelvesNeededUptoSaid : Prop := fnExactShelvesNeededUptoRow.holds Try.pinned (OpenSpec.upto fnExactShelvesNeededSpec)

/-- 'laws.FnExactValueClasses', WHERE WHAT IT READS IS OF BULK AT MOST 1048576: true; the input reads as it did. -/
def fnExactValueClassesUptoRow : OpenClaim := { program := "ytkeeebdfjoefgaa", sum := "edd8ffa276de8586c9a0db3af4474fc153ea106dcf1adf608e190c697f33dc77", func := "loop.example/g01012/laws.FnExactValueClasses", spec := "fnExactValueClasses", unfollowed := true, recurses := true, apart := false, narrowed := true }
def FnExactValueClassesUptoSaid : Prop := fnExactValueClassesUptoRow.holds Try.pinned (OpenSpec.upto fnExactValueClassesSpec)

/-- 'laws.FnExactLentTo', WHERE WHAT IT READS IS OF BULK AT MOST 1048576: true; the input reads as it did. -/
def fnExactLentToUptoRow : OpenClaim := { program := "ytkeeebdfjoefgaa", sum := "edd8ffa276de8586c9a0db3af4474fc153ea106dcf1adf608e190c697f33dc77", func := "loop.example/g01012/laws.FnExactLentTo", spec := "fnExactLentTo", unfollowed := true, recurses := true, apart := false, narrowed := true }
def FnExactLentToUptoSaid : Prop := fnExactLentToUptoRow.holds Try.pinned (OpenSpec.upto fnExactLentToSpec)

/-- 'laws.FnExactStockCheck', WHERE WHAT IT READS IS OF BULK AT MOST 1048576: true; the input reads as it did. -/
def fnExactStockCheckUptoRow : OpenClaim := { program := "ytkeeebdfjoefgaa", sum := "edd8ffa276de8586c9a0db3af4474fc153ea106dcf1adf608e190c697f33dc77", func := "loop.example/g01012/laws.FnExactStockCheck", spec := "fnExactStockCheck", unfollowed := true, recurses := true, apart := false, narrowed := true }
def FnExactStockCheckUptoSaid : Prop := fnExactStockCheckUptoRow.holds Try.pinned (OpenSpec.upto fnExactStockCheckSpec)

/-- 'laws.FnExactPulpBoxes', WHERE WHAT IT READS IS OF BULK AT MOST 1048576: true; the input reads as it did. -/
def fnExactPulpBoxesUptoRow : OpenClaim := { program := "ytkeeebdfjoefgaa", sum := "edd8ffa276de8586c9a0db3af4474fc153ea106dcf1adf608e190c697f33dc77", func := "loop.example/g01012/laws.FnExactPulpBoxes", spec := "fnExactPulpBoxes", apart := false, narrowed := true }
def FnExactPulpBoxesUptoSaid : Prop := fnExactPulpBoxesUptoRow.holds Try.pinned (OpenSpec.upto fnExactPulpBoxesSpec)

/-- 'laws.FnExactApplyMove', WHERE WHAT IT READS IS OF BULK AT MOST 1048576: true; the input reads as it did. -/
def fnExactApplyMoveUptoRow : OpenClaim := { program := "ytkeeebdfjoefgaa", sum := "edd8ffa276de8586c9a0db3af4474fc153ea106dcf1adf608e190c697f33dc77", func := "loop.example/g01012/laws.FnExactApplyMove", spec := "fnExactApplyMove", unfollowed := true, recurses := true, apart := false, narrowed := true }
def FnExactApplyMoveUptoSaid : Prop := fnExactApplyMoveUptoRow.holds Try.pinned (OpenSpec.upto fnExactApplyMoveSpec)

/-- 'laws.FnExactReturnBox', WHERE WHAT IT READS IS OF BULK AT MOST 1048576: true; the input reads as it did. -/
def fnExactReturnBoxUptoRow : OpenClaim := { program := "ytkeeebdfjoefgaa", sum := "edd8ffa276de8586c9a0db3af4474fc153ea106dcf1adf608e190c697f33dc77", func := "loop.example/g01012/laws.FnExactReturnBox", spec := "fnExactReturnBox", unfollowed := true, recurses := true, apart := false, narrowed := true }
def FnExactReturnBoxUptoSaid : Prop := fnExactReturnBoxUptoRow.holds Try.pinned (OpenSpec.upto fnExactReturnBoxSpec)

/-- 'laws.FnExactLendBox', WHERE WHAT IT READS IS OF BULK AT MOST 1048576: true; the input reads as it did. -/
def fnExactLendBoxUptoRow : OpenClaim := { program := "ytkeeebdfjoefgaa", sum := "edd8ffa276de8586c9a0db3af4474fc153ea106dcf1adf608e190c697f33dc77", func := "loop.example/g01012/laws.FnExactLendBox", spec := "fnExactLendBox", unfollowed := true, recurses := true, apart := false, narrowed := true }
def FnExactLendBoxUptoSaid : Prop := fnExactLendBoxUptoRow.holds Try.pinned (OpenSpec.upto fnExactLendBoxSpec)

/-- 'laws.FnExactSharesOf', WHERE WHAT IT READS IS OF BULK AT MOST 1048576: true; the input reads as it did. -/
def fnExactSharesOfUptoRow : OpenClaim := { program := "ytkeeebdfjoefgaa", sum := "edd8ffa276de8586c9a0db3af4474fc153ea106dcf1adf608e190c697f33dc77", func := "loop.example/g01012/laws.FnExactSharesOf", spec := "fnExactSharesOf", unfollowed := true, recurses := true, apart := false, narrowed := true }
def FnExactSharesOfUptoSaid : Prop := fnExactSharesOfUptoRow.holds Try.pinned (OpenSpec.upto fnExactSharesOfSpec)

/-- 'laws.FnExactApplyMoves', WHERE WHAT IT READS IS OF BULK AT MOST 1048576: true; the input reads as it did. -/
def fnExactApplyMovesUptoRow : OpenClaim := { program := "ytkeeebdfjoefgaa", sum := "edd8ffa276de8586c9a0db3af4474fc153ea106dcf1adf608e190c697f33dc77", func := "loop.example/g01012/laws.FnExactApplyMoves", spec := "fnExactApplyMoves", unfollowed := true, recurses := true, apart := false, narrowed := true }
def FnExactApplyMovesUptoSaid : Prop := fnExactApplyMovesUptoRow.holds Try.pinned (OpenSpec.upto fnExactApplyMovesSpec)

/-- 'laws.FnExactNewDesk', WHERE WHAT IT READS IS OF BULK AT MOST 1048576: true; the input reads as it did. -/
def fnExactNewDeskUptoRow : OpenClaim := { program := "ytkeeebdfjoefgaa", sum := "edd8ffa276de8586c9a0db3af4474fc153ea106dcf1adf608e190c697f33dc77", func := "loop.example/g01012/laws.FnExactNewDesk", spec := "fnExactNewDesk", unfollowed := true, recurses := true, apart := false, narrowed := true }
def FnExactNewDeskUptoSaid : Prop := fnExactNewDeskUptoRow.holds Try.pinned (OpenSpec.upto fnExactNewDeskSpec)

end Rows
end Go.Proofs.Ytkeeebdfjoefgaa
