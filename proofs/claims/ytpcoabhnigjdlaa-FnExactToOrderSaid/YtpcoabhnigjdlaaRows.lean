/-
  No cell of these rows narrows 'for every input' (looked for: loops, veiled, ifaces, maps, wideKeys, modest, calm, conditions, laid).
  DERIVED. THE GIVEN ROWS OF THIS SEAT. 6 by the template 'for every input the law returns true; each argument reads behind the call as it read before'; 0 by the template 'total and deterministic' (their statements: YtpcoabhnigjdlaaTotals.lean).
  GIVEN WITH THE SEED: the statements are not yours to turn. If you find one false, say at which input.
  Laid BY PROGRAM, IN A SANDBOX (cutbox-rows.mjs): the forced cells as the released guide's own fill.sh prints them over the translation ec8da6aa0ad9f7af… (all of the seat's roots in one cut). By AI agents, Wed Nov 11 2026. No macro, syntax, notation, axiom, sorry.
-/
import Derived.Test.YtpcoabhnigjdlaaChecked
import GoSem.Claim
import GoSem.ClaimJoined
import GoSem.ClaimMapViews
import Derived.JoinedTies
import Derived.KernelRfl
namespace Go.Proofs.Ytpcoabhnigjdlaa
/- THE CELL 'sum', in the pinned program and in every row, IS THE sha256 OF THE DUMP (.gsa) THAT YtpcoabhnigjdlaaProg.lean LOADS. Nothing in Lean hashes anything: it is a label: what it is worth is what the hold of that sum in a sandbox is worth. -/
noncomputable def Try.pinned : Pinned := { name := "ytpcoabhnigjdlaa", sum := "ec8da6aa0ad9f7af886e47068949cf96fada8723768ec5c11621a1e20b071db9", checked := Try.checked }
namespace Rows
def none {H : Type} : Left H := { results := [], args := [] }

/-- 'laws.FnExactDaysLeft': WHATEVER THE INPUT: true; the input reads as it did. -/
def fnExactDaysLeftSpec : ChangeSpec := { name := "fnExactDaysLeft", fn := fun _ => fun
  | [d1, d2, d3] => { results := [.lit (.bool true)], args := [d1, d2, d3] }
  | _ => none }
def fnExactDaysLeftRow : OpenClaim := { program := "ytpcoabhnigjdlaa", sum := "ec8da6aa0ad9f7af886e47068949cf96fada8723768ec5c11621a1e20b071db9", func := "loop.example/g01012/laws.FnExactDaysLeft", spec := "fnExactDaysLeft", unfollowed := true, recurses := true, apart := false }
def FnExactDaysLeftSaid : Prop := fnExactDaysLeftRow.holds Try.pinned (OpenSpec.ofChange fnExactDaysLeftSpec)

/-- ITS FALSE NEIGHBOUR: 'it returns false'. Refute it at one input. -/
def fnExactDaysLeftWrong : ChangeSpec := { name := "fnExactDaysLeft", fn := fun _ => fun
  | [d1, d2, d3] => { results := [.lit (.bool false)], args := [d1, d2, d3] }
  | _ => none }
def FnExactDaysLeftWrongFalsely : Prop := fnExactDaysLeftRow.holds Try.pinned (OpenSpec.ofChange fnExactDaysLeftWrong)

/-- 'laws.FnExactStockValue': WHATEVER THE INPUT: true; the input reads as it did. -/
def fnExactStockValueSpec : ChangeSpec := { name := "fnExactStockValue", fn := fun _ => fun
  | [d] => { results := [.lit (.bool true)], args := [d] }
  | _ => none }
def fnExactStockValueRow : OpenClaim := { program := "ytpcoabhnigjdlaa", sum := "ec8da6aa0ad9f7af886e47068949cf96fada8723768ec5c11621a1e20b071db9", func := "loop.example/g01012/laws.FnExactStockValue", spec := "fnExactStockValue", unfollowed := true, recurses := true, apart := false }
def FnExactStockValueSaid : Prop := fnExactStockValueRow.holds Try.pinned (OpenSpec.ofChange fnExactStockValueSpec)

/-- ITS FALSE NEIGHBOUR: 'it returns false'. Refute it at one input. -/
def fnExactStockValueWrong : ChangeSpec := { name := "fnExactStockValue", fn := fun _ => fun
  | [d] => { results := [.lit (.bool false)], args := [d] }
  | _ => none }
def FnExactStockValueWrongFalsely : Prop := fnExactStockValueRow.holds Try.pinned (OpenSpec.ofChange fnExactStockValueWrong)

/-- 'laws.FnExactCardsKept': WHATEVER THE INPUT: true; the input reads as it did. -/
def fnExactCardsKeptSpec : ChangeSpec := { name := "fnExactCardsKept", fn := fun _ => fun
  | [d1, d2] => { results := [.lit (.bool true)], args := [d1, d2] }
  | _ => none }
def fnExactCardsKeptRow : OpenClaim := { program := "ytpcoabhnigjdlaa", sum := "ec8da6aa0ad9f7af886e47068949cf96fada8723768ec5c11621a1e20b071db9", func := "loop.example/g01012/laws.FnExactCardsKept", spec := "fnExactCardsKept", apart := false }
def FnExactCardsKeptSaid : Prop := fnExactCardsKeptRow.holds Try.pinned (OpenSpec.ofChange fnExactCardsKeptSpec)

/-- ITS FALSE NEIGHBOUR: 'it returns false'. Refute it at one input. -/
def fnExactCardsKeptWrong : ChangeSpec := { name := "fnExactCardsKept", fn := fun _ => fun
  | [d1, d2] => { results := [.lit (.bool false)], args := [d1, d2] }
  | _ => none }
def FnExactCardsKeptWrongFalsely : Prop := fnExactCardsKeptRow.holds Try.pinned (OpenSpec.ofChange fnExactCardsKeptWrong)

/-- 'laws.FnExactShelvesNeeded': WHATEVER THE INPUT: true; the input reads as it did. -/
def fnExactShelvesNeededSpec : ChangeSpec := { name := "fnExactShelvesNeeded", fn := fun _ => fun
  | [d1, d2] => { results := [.lit (.bool true)], args := [d1, d2] }
  | _ => none }
def fnExactShelvesNeededRow : OpenClaim := { program := "ytpcoabhnigjdlaa", sum := "ec8da6aa0ad9f7af886e47068949cf96fada8723768ec5c11621a1e20b071db9", func := "loop.example/g01012/laws.FnExactShelvesNeeded", spec := "fnExactShelvesNeeded", unfollowed := true, recurses := true, apart := false }
def FnExactShelvesNeededSaid : Prop := fnExactShelvesNeededRow.holds Try.pinned (OpenSpec.ofChange fnExactShelvesNeededSpec)

/-- ITS FALSE NEIGHBOUR: 'it returns false'. Refute it at one input. -/
def fnExactShelvesNeededWrong : ChangeSpec := { name := "fnExactShelvesNeeded", fn := fun _ => fun
  | [d1, d2] => { results := [.lit (.bool false)], args := [d1, d2] }
  | _ => none }
def FnExactShelvesNeededWrongFalsely : Prop := fnExactShelvesNeededRow.holds Try.pinned (OpenSpec.ofChange fnExactShelvesNeededWrong)

/-- 'laws.FnExactValueClasses': WHATEVER THE INPUT: true; the input reads as it did. -/
def fnExactValueClassesSpec : ChangeSpec := { name := "fnExactValueClasses", fn := fun _ => fun
  | [d] => { results := [.lit (.bool true)], args := [d] }
  | _ => none }
def fnExactValueClassesRow : OpenClaim := { program := "ytpcoabhnigjdlaa", sum := "ec8da6aa0ad9f7af886e47068949cf96fada8723768ec5c11621a1e20b071db9", func := "loop.example/g01012/laws.FnExactValueClasses", spec := "fnExactValueClasses", unfollowed := true, recurses := true, apart := false }
def FnExactValueClassesSaid : Prop := fnExactValueClassesRow.holds Try.pinned (OpenSpec.ofChange fnExactValueClassesSpec)

/-- ITS FALSE NEIGHBOUR: 'it returns false'. Refute it at one input. -/
def fnExactValueClassesWrong : ChangeSpec := { name := "fnExactValueClasses", fn := fun _ => fun
  | [d] => { results := [.lit (.bool false)], args := [d] }
  | _ => none }
def FnExactValueClassesWrongFalsely : Prop := fnExactValueClassesRow.holds Try.pinned (OpenSpec.ofChange fnExactValueClassesWrong)

/-- 'laws.FnExactToOrder': WHATEVER THE INPUT: true; the input reads as it did. -/
def fnExactToOrderSpec : ChangeSpec := { name := "fnExactToOrder", fn := fun _ => fun
  | [d] => { results := [.lit (.bool true)], args := [d] }
  | _ => none }
def fnExactToOrderRow : OpenClaim := { program := "ytpcoabhnigjdlaa", sum := "ec8da6aa0ad9f7af886e47068949cf96fada8723768ec5c11621a1e20b071db9", func := "loop.example/g01012/laws.FnExactToOrder", spec := "fnExactToOrder", unfollowed := true, recurses := true, apart := false }
def FnExactToOrderSaid : Prop := fnExactToOrderRow.holds Try.pinned (OpenSpec.ofChange fnExactToOrderSpec)

/-- ITS FALSE NEIGHBOUR: 'it returns false'. Refute it at one input. -/
def fnExactToOrderWrong : ChangeSpec := { name := "fnExactToOrder", fn := fun _ => fun
  | [d] => { results := [.lit (.bool false)], args := [d] }
  | _ => none }
def FnExactToOrderWrongFalsely : Prop := fnExactToOrderRow.holds Try.pinned (OpenSpec.ofChange fnExactToOrderWrong)

/- THE SECOND FORM. 'bulk': how many values and letters a reading holds, each counted each time it is reached (what is shared counts as often as it is met; a slice's spare places count too). A statement '..UptoSaid' is the law's where the arguments, and the package variables that the reading takes, are together of bulk at most 1048576: NARROWER than '..Said'. Prove '..Said' where nothing that the law and all that it calls make is longer than what came in: it says more and counts as full. Else prove '..UptoSaid'. A law counts once. -/
mutual
def uptoBulk {H : Type} : DataW H → Nat
  | .lit (.string bytes) => bytes.length + 1
  | .lit _ => 1
  | .nil => 1
  | .ptr d => uptoBulk d + 1
  | .slice elems spare => uptoBulkAll elems + uptoBulkAll spare + 1
  | .agg parts => uptoBulkAll parts + 1
  | .iface _ d => uptoBulk d + 1
  | .map entries => uptoBulkEntries entries + 1
  | .held _ => 1
def uptoBulkAll {H : Type} : List (DataW H) → Nat
  | [] => 0
  | d :: r => uptoBulk d + uptoBulkAll r
def uptoBulkEntries {H : Type} : List (Lit × DataW H) → Nat
  | [] => 0
  | x :: r => uptoBulkEntry x + uptoBulkEntries r
def uptoBulkEntry {H : Type} : Lit × DataW H → Nat
  | (.string bytes, d) => bytes.length + uptoBulk d + 1
  | (_, d) => uptoBulk d + 1
 end
def uptoSmall : (H : Type) → List (DataW H) → Bool := fun _ ds => decide (uptoBulkAll ds ≤ 1048576)
def OpenSpec.upto (s : _root_.Go.ChangeSpec) : _root_.Go.OpenSpec := { _root_.Go.OpenSpec.ofChange s with cond := some uptoSmall }

/-- 'laws.FnExactDaysLeft', WHERE WHAT IT READS IS OF BULK AT MOST 1048576: true; the input reads as it did. -/
def fnExactDaysLeftUptoRow : OpenClaim := { program := "ytpcoabhnigjdlaa", sum := "ec8da6aa0ad9f7af886e47068949cf96fada8723768ec5c11621a1e20b071db9", func := "loop.example/g01012/laws.FnExactDaysLeft", spec := "fnExactDaysLeft", unfollowed := true, recurses := true, apart := false, narrowed := true }
def FnExactDaysLeftUptoSaid : Prop := fnExactDaysLeftUptoRow.holds Try.pinned (OpenSpec.upto fnExactDaysLeftSpec)

/-- 'laws.FnExactStockValue', WHERE WHAT IT READS IS OF BULK AT MOST 1048576: true; the input reads as it did. -/
def fnExactStockValueUptoRow : OpenClaim := { program := "ytpcoabhnigjdlaa", sum := "ec8da6aa0ad9f7af886e47068949cf96fada8723768ec5c11621a1e20b071db9", func := "loop.example/g01012/laws.FnExactStockValue", spec := "fnExactStockValue", unfollowed := true, recurses := true, apart := false, narrowed := true }
def FnExactStockValueUptoSaid : Prop := fnExactStockValueUptoRow.holds Try.pinned (OpenSpec.upto fnExactStockValueSpec)

/-- 'laws.FnExactCardsKept', WHERE WHAT IT READS IS OF BULK AT MOST 1048576: true; the input reads as it did. -/
def fnExactCardsKeptUptoRow : OpenClaim := { program := "ytpcoabhnigjdlaa", sum := "ec8da6aa0ad9f7af886e47068949cf96fada8723768ec5c11621a1e20b071db9", func := "loop.example/g01012/laws.FnExactCardsKept", spec := "fnExactCardsKept", apart := false, narrowed := true }
def FnExactCardsKeptUptoSaid : Prop := fnExactCardsKeptUptoRow.holds Try.pinned (OpenSpec.upto fnExactCardsKeptSpec)

/-- 'laws.FnExactShelvesNeeded', WHERE WHAT IT READS IS OF BULK AT MOST 1048576: true; the input reads as it did. -/
def fnExactShelvesNeededUptoRow : OpenClaim := { program := "ytpcoabhnigjdlaa", sum := "ec8da6aa0ad9f7af886e47068949cf96fada8723768ec5c11621a1e20b071db9", func := "loop.example/g01012/laws.FnExactShelvesNeeded", spec := "fnExactShelvesNeeded", unfollowed := true, recurses := true, apart := false, narrowed := true }
def FnExactShelvesNeededUptoSaid : Prop := fnExactShelvesNeededUptoRow.holds Try.pinned (OpenSpec.upto fnExactShelvesNeededSpec)

/-- 'laws.FnExactValueClasses', WHERE WHAT IT READS IS OF BULK AT MOST 1048576: true; the input reads as it did. -/
def fnExactValueClassesUptoRow : OpenClaim := { program := "ytpcoabhnigjdlaa", sum := "ec8da6aa0ad9f7af886e47068949cf96fada8723768ec5c11621a1e20b071db9", func := "loop.example/g01012/laws.FnExactValueClasses", spec := "fnExactValueClasses", unfollowed := true, recurses := true, apart := false, narrowed := true }
def FnExactValueClassesUptoSaid : Prop := fnExactValueClassesUptoRow.holds Try.pinned (OpenSpec.upto fnExactValueClassesSpec)

/-- 'laws.FnExactToOrder', WHERE WHAT IT READS IS OF BULK AT MOST 1048576: true; the input reads as it did. -/
def fnExactToOrderUptoRow : OpenClaim := { program := "ytpcoabhnigjdlaa", sum := "ec8da6aa0ad9f7af886e47068949cf96fada8723768ec5c11621a1e20b071db9", func := "loop.example/g01012/laws.FnExactToOrder", spec := "fnExactToOrder", unfollowed := true, recurses := true, apart := false, narrowed := true }
def FnExactToOrderUptoSaid : Prop := fnExactToOrderUptoRow.holds Try.pinned (OpenSpec.upto fnExactToOrderSpec)

end Rows
end Go.Proofs.Ytpcoabhnigjdlaa
