/- A closed fact on this translation: by which text its program begins. No conditions. -/
import Derived.Test.YtehofnnghbcjgaaDoorCards
import Derived.JoinedOf
namespace Go.Proofs.YtehofnnghbcjgaaDoor
open Go
theorem andI {a b : Bool} (h : a = true) (k : b = true) : (a && b) = true := by rw [h, k]; rfl
theorem seat_main : Tryd.pinned.checked.prog.mainIs = some (Rows.fnLastNotesCard.stood.harness.1, Rows.fnLastNotesCard.stood.harness.2.toList) := by kernel_rfl
theorem seat_heard : Tryd.prog.stopsHeard = true := by kernel_rfl
theorem seat_enter : Tryd.prog.mayEnter = true := by kernel_rfl
theorem seat_lifts : (Rows.fnLastNotesCard.stood.row.lifted == Tryd.prog.liftsFinal) = true := by kernel_rfl
theorem seat_make : (Tryd.prog.make == some Rows.fnLastNotesCard.stood.row.make) = true := by kernel_rfl
theorem seat_looks : true = Tryd.pinned.checked.prog.looks [] := by kernel_rfl
end Go.Proofs.YtehofnnghbcjgaaDoor
