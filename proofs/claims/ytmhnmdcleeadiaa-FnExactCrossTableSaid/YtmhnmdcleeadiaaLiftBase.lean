/- Two closed facts on this translation. No conditions. -/
import Derived.Test.YtmhnmdcleeadiaaVcLift
import Derived.Test.YtmhnmdcleeadiaaBase
import Derived.Test.YtmhnmdcleeadiaaRows
namespace Go.Proofs.Ytmhnmdcleeadiaa
open Go Go.RowKit Go.Vc
theorem law_own : ownKnob (Try.prog).godebug = none := by kernel_rfl
theorem law_laid : laidOutB Try.prog = true := by kernel_rfl
end Go.Proofs.Ytmhnmdcleeadiaa
