/- Contracts of functions of the given program, of the reference and of the laws: each says what a call returns, for all arguments that meet the premises that the theorem itself names. -/
import Derived.Test.YtfgbijddjoojbaaGreatDoorFNote
namespace Go.M
open Go Go.Vc
def noteB (x : TNote) : Bool := inB x.tray 0 5 && inB x.count 0 100000 && inB x.sum (-999999999999) 999999999999 && nameB x.what
end Go.M
namespace Go.Proofs.YtfgbijddjoojbaaGreatDoor
open Go Go.RowKit Go.Vc Go.M
end Go.Proofs.YtfgbijddjoojbaaGreatDoor
