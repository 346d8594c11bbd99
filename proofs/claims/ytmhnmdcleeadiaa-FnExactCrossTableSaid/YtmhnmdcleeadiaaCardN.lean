/- Contracts of functions of the given program, of the reference and of the laws: each says what a call returns, for all arguments that meet the premises that the theorem itself names. -/
import Derived.Test.YtmhnmdcleeadiaaCardW
import Derived.Test.YtmhnmdcleeadiaaNotes
import Derived.Test.YtmhnmdcleeadiaaVcMix
namespace Go.Proofs.Ytmhnmdcleeadiaa
open Go Go.RowKit Go.Vc Go.M
end Go.Proofs.Ytmhnmdcleeadiaa
