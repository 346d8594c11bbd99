/- Two closed facts on this translation. No conditions. -/
import Derived.Test.YtilagemeigeceaaDoorVcLift
import Derived.Test.YtilagemeigeceaaDoorBase
import Derived.Test.YtilagemeigeceaaDoorRows
namespace Go.Proofs.YtilagemeigeceaaDoor
open Go Go.RowKit Go.Vc
theorem law_own : ownKnob (Tryd.prog).godebug = none := by kernel_rfl
theorem law_laid : laidOutB Tryd.prog = true := by kernel_rfl
end Go.Proofs.YtilagemeigeceaaDoor
