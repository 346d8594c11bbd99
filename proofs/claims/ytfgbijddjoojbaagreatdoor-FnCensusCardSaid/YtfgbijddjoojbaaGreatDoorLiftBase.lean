/- Two closed facts on this translation. No conditions. -/
import Derived.Test.YtfgbijddjoojbaaGreatDoorVcApp
import Derived.Test.YtfgbijddjoojbaaGreatDoorBase
import Derived.Test.YtfgbijddjoojbaaGreatDoorRows
namespace Go.Proofs.YtfgbijddjoojbaaGreatDoor
open Go Go.RowKit Go.Vc
theorem law_own : ownKnob (Tryz.prog).godebug = none := by kernel_rfl
theorem law_laid : laidOutB Tryz.prog = true := by kernel_rfl
end Go.Proofs.YtfgbijddjoojbaaGreatDoor
