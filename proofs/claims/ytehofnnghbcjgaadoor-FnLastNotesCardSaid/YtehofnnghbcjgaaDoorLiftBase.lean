/- Two closed facts on this translation. No conditions. -/
import Derived.Test.YtehofnnghbcjgaaDoorVcLift
import Derived.Test.YtehofnnghbcjgaaDoorBase
import Derived.Test.YtehofnnghbcjgaaDoorRows
namespace Go.Proofs.YtehofnnghbcjgaaDoor
open Go Go.RowKit Go.Vc
theorem law_own : ownKnob (Tryd.prog).godebug = none := by kernel_rfl
theorem law_laid : laidOutB Tryd.prog = true := by kernel_rfl
end Go.Proofs.YtehofnnghbcjgaaDoor
