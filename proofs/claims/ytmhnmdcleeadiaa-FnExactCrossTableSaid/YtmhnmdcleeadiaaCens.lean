/- Contracts of functions of the given program, of the reference and of the laws: each says what a call returns, for all arguments that meet the premises that the theorem itself names. -/
import Derived.Test.YtmhnmdcleeadiaaCardN
import Derived.Test.YtmhnmdcleeadiaaCensusM
namespace Go.M
open Go Go.Vc
theorem lims_false {l : List Int} {k : Nat} (h : k < l.length) (hp : limAt l k = false) : (List.range l.length).all (limAt l) = false := by
  rw [List.all_eq_false]
  exact ⟨k, List.mem_range.2 h, by simp [hp]⟩
theorem lims_true {l : List Int} (h : ∀ i, i < l.length → limAt l i = true) : (List.range l.length).all (limAt l) = true := by
  rw [List.all_eq_true]
  intro i hi
  exact h i (List.mem_range.1 hi)
theorem lim_next {l : List Int} {k : Nat} (h : ∀ i, i < k → limAt l i = true) (hk : limAt l k = true) : ∀ i, i < k + 1 → limAt l i = true := by
  intro i hi
  by_cases e : i = k
  · subst e; exact hk
  · exact h i (by omega)
end Go.M
namespace Go.Proofs.Ytmhnmdcleeadiaa
open Go Go.RowKit Go.Vc Go.M
end Go.Proofs.Ytmhnmdcleeadiaa