/- Contracts of functions of the given program, of the reference and of the laws: each says what a call returns, for all arguments that meet the premises that the theorem itself names. -/
import Derived.Test.YtfgbijddjoojbaaGreatDoorNest
import Derived.Test.YtfgbijddjoojbaaGreatDoorVcNest
namespace Go.M
open Go Go.Vc
def FCard (x : List Int) : Prop := x.length ≤ 1048576
def FDeck (x : List (List Int)) : Prop := x.length ≤ 1048576 ∧ ∀ y ∈ x, FCard y
def FTots (x : List TTotal) : Prop := x.length ≤ 1048576
def okCard (_ : List Int) : Prop := True
def okDeck (_ : List (List Int)) : Prop := True
def okTots (x : List TTotal) : Prop := ∀ y ∈ x, y.ok
abbrev FSz {α : Type} (F : α → Prop) (x : List α) : Prop := x.length ≤ 1048576 ∧ ∀ y ∈ x, F y
theorem flat_set1 {gs : List Hd} {d : Hd} {j k : Nat} (hk : gs.length = k) : (flat eH gs ++ flat (fun _ : Unit => [Value.slice none 0 0]) (List.replicate (j + 1) ())).set k (.slice d.a d.n d.c) = flat eH (gs ++ [d]) ++ flat (fun _ : Unit => [Value.slice none 0 0]) (List.replicate j ()) := by
  have hl : (flat eH gs).length = k := by rw [flat_length eH_len, hk]; omega
  rw [List.set_append_right _ _ (by omega), hl, Nat.sub_self]
  simp [flat, List.replicate_succ, eH]
end Go.M
namespace Go.Proofs.YtfgbijddjoojbaaGreatDoor
open Go Go.RowKit Go.Vc Go.M
end Go.Proofs.YtfgbijddjoojbaaGreatDoor
