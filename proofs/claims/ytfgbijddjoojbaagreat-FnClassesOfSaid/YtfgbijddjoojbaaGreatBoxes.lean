/- Contracts of functions of the given program, of the reference and of the laws: each says what a call returns, for all arguments that meet the premises that the theorem itself names. -/
import Derived.Test.YtfgbijddjoojbaaGreatFBox
namespace Go.M
open Go Go.Vc
def emptyB : ByteArray := { data := #[] }
def boxB (x : TBox) : Bool := nameB x.name && inB x.cards 0 100000 && inB x.year 1800 3000 && inB x.keep 1 100 && (decide (x.lent = { data := #[] }) || nameB x.lent)
/-- short texts -/
def boxSm (x : TBox) : Prop := x.name.size ≤ 12 ∧ x.lent.size ≤ 12 ∧ i64ok x.cards ∧ i64ok x.year ∧ i64ok x.keep
def ltB (a b : ByteArray) : Bool := Op.bytesLess a.toList b.toList
/-- the box at i is valid, and above the one before -/
def boxAt (xs : List TBox) (i : Nat) : Bool :=
  match xs[i]? with
  | none => false
  | some x => boxB x && (match i with | 0 => true | j + 1 => match xs[j]? with | none => false | some y => ltB y.name x.name)
def boxesB (xs : List TBox) : Bool := (List.range xs.length).all (boxAt xs) && decide (xs.length ≤ 40)
theorem range_all_succ {p : Nat → Bool} {k : Nat} : (List.range (k + 1)).all p = ((List.range k).all p && p k) := by
  rw [List.range_succ, List.all_append]; simp
theorem range_all_false {p : Nat → Bool} {k n : Nat} (h : k < n) (hp : p k = false) : (List.range n).all p = false := by
  rw [List.all_eq_false]
  exact ⟨k, List.mem_range.2 h, by simp [hp]⟩
theorem boxAt_false {xs : List TBox} {i : Nat} {x : TBox} (hx : xs[i]? = some x) (h : boxB x = false) : boxAt xs i = false := by simp [boxAt, hx, h]
theorem boxAt_zero {xs : List TBox} {x : TBox} (hx : xs[0]? = some x) (h : boxB x = true) : boxAt xs 0 = true := by simp [boxAt, hx, h]
theorem boxAt_succ {xs : List TBox} {j : Nat} {x y : TBox} (hx : xs[j + 1]? = some x) (hy : xs[j]? = some y) (h : boxB x = true) : boxAt xs (j + 1) = ltB y.name x.name := by simp [boxAt, hx, hy, h]
theorem boxesB_false {xs : List TBox} {k : Nat} (h : k < xs.length) (hp : boxAt xs k = false) : boxesB xs = false := by rw [boxesB, range_all_false h hp]; rfl
end Go.M
namespace Go.Proofs.YtfgbijddjoojbaaGreat
open Go Go.RowKit Go.Vc Go.M

end Go.Proofs.YtfgbijddjoojbaaGreat
