/- A closed fact on this translation: by which text its program begins. No conditions. -/
import Derived.Test.YtfgbijddjoojbaaGreatDoorCards
import Derived.JoinedOf
namespace Go.Proofs.YtfgbijddjoojbaaGreatDoor
open Go
theorem andI {a b : Bool} (h : a = true) (k : b = true) : (a && b) = true := by rw [h, k]; rfl
theorem seat_main : Tryz.pinned.checked.prog.mainIs = some (Rows.fnCensusCard.stood.harness.1, Rows.fnCensusCard.stood.harness.2.toList) := by kernel_rfl
theorem seat_heard : Tryz.prog.stopsHeard = true := by kernel_rfl
theorem seat_enter : Tryz.prog.mayEnter = true := by kernel_rfl
theorem seat_lifts : (Rows.fnCensusCard.stood.row.lifted == Tryz.prog.liftsFinal) = true := by kernel_rfl
theorem seat_make : (Tryz.prog.make == some Rows.fnCensusCard.stood.row.make) = true := by kernel_rfl
theorem seat_looks : true = Tryz.pinned.checked.prog.looks [] := by kernel_rfl
end Go.Proofs.YtfgbijddjoojbaaGreatDoor
