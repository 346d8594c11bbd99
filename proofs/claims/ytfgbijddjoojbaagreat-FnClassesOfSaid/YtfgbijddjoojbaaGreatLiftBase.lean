/- Two closed facts on this translation. No conditions. -/
import Derived.Test.YtfgbijddjoojbaaGreatVcApp
import Derived.Test.YtfgbijddjoojbaaGreatBase
import Derived.Test.YtfgbijddjoojbaaGreatRows
namespace Go.Proofs.YtfgbijddjoojbaaGreat
open Go Go.RowKit Go.Vc
theorem law_own : ownKnob (Tryz.prog).godebug = none := by kernel_rfl
theorem law_laid : laidOutB Tryz.prog = true := by kernel_rfl
end Go.Proofs.YtfgbijddjoojbaaGreat
