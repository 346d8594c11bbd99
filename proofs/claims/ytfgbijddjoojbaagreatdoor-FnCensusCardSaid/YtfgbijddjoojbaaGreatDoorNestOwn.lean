/- Contracts of functions of the given program, of the reference and of the laws: each says what a call returns, for all arguments that meet the premises that the theorem itself names. -/
import Derived.Test.YtfgbijddjoojbaaGreatDoorNestTo
namespace Go.M
open Go Go.Vc
theorem len_le_wt {xs : List (List Int)} {x : List Int} (h : x ∈ xs) : x.length ≤ wtAll wtCard xs := by
  obtain ⟨k, hk⟩ := List.mem_iff_getElem?.1 h
  have := wtAll_le (wt := wtCard) hk
  unfold wtCard at *
  omega
theorem FS_of {xs : List (List Int)} {n : Nat} (hn : xs.length = n) (h : n + wtAll wtCard xs ≤ 1048576) : FSz FCard xs :=
  ⟨by omega, fun y hy => by
    have := len_le_wt hy
    unfold FCard
    omega⟩
end Go.M
namespace Go.Proofs.YtfgbijddjoojbaaGreatDoor
open Go Go.RowKit Go.Vc Go.M
end Go.Proofs.YtfgbijddjoojbaaGreatDoor
