/- Contracts of functions of the given program, of the reference and of the laws: each says what a call returns, for all arguments that meet the premises that the theorem itself names. -/
import Derived.Test.YtfgbijddjoojbaaGreatDoorCardsM
import Derived.Test.YtfgbijddjoojbaaGreatDoorBasics
import Derived.Test.YtfgbijddjoojbaaGreatDoorVcApp
namespace Go.M
open Go Go.Vc
theorem TField.flat {x : TField} (h : x.ok) : Flat [false, false] x.enc := by
  obtain ⟨h0, h1⟩ := h
  exact ⟨_, _, rfl, h0, ⟨_, _, rfl, h1, rfl⟩⟩
theorem TField.of_flat {cs : List Value} (h : Flat [false, false] cs) : ∃ x : TField, cs = x.enc ∧ x.ok := by
  obtain ⟨v0, _, rfl, h0, ⟨v1, _, rfl, h1, rfl⟩⟩ := h
  exact ⟨⟨v0, v1⟩, rfl, h0, h1⟩
end Go.M
namespace Go.Proofs.YtfgbijddjoojbaaGreatDoor
open Go Go.RowKit Go.Vc Go.M
end Go.Proofs.YtfgbijddjoojbaaGreatDoor
