/- Two closed facts on this translation. No conditions. -/
import Derived.Test.YtkjmbjedbmblmaaGreatDoorVcLift
import Derived.Test.YtkjmbjedbmblmaaGreatDoorBase
import Derived.Test.YtkjmbjedbmblmaaGreatDoorRows
namespace Go.Proofs.YtkjmbjedbmblmaaGreatDoor
open Go Go.RowKit Go.Vc
theorem law_own : ownKnob (Tryz.prog).godebug = none := by kernel_rfl
theorem law_laid : laidOutB Tryz.prog = true := by kernel_rfl
end Go.Proofs.YtkjmbjedbmblmaaGreatDoor
