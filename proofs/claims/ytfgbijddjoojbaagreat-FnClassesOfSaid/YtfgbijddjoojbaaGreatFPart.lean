/- Contracts of functions of the given program, of the reference and of the laws: each says what a call returns, for all arguments that meet the premises that the theorem itself names. -/
import Derived.Test.YtfgbijddjoojbaaGreatBasics
import Derived.Test.YtfgbijddjoojbaaGreatVcApp
namespace Go.M
open Go Go.Vc
structure TPart where
  name : ByteArray
  count : Int
  least : Int
  price : Int
theorem TPart.ext_iff2 {a b : TPart} : a = b ↔ a.name = b.name ∧ a.count = b.count ∧ a.least = b.least ∧ a.price = b.price := by
  constructor
  · intro h; subst h; simp
  · intro h; cases a; cases b; simp at h; simp [h]
instance : DecidableEq TPart := fun a b => decidable_of_iff (a.name = b.name ∧ a.count = b.count ∧ a.least = b.least ∧ a.price = b.price) TPart.ext_iff2.symm
instance : Inhabited TPart := ⟨⟨.empty, 0, 0, 0⟩⟩
def TPart.enc (x : TPart) : List Value := [.string x.name, .int .i64 x.count, .int .i64 x.least, .int .i64 x.price]
theorem TPart.enc_len (x : TPart) : x.enc.length = 4 := rfl
def partSm (x : TPart) : Prop := x.name.size ≤ 12 ∧ i64ok x.count ∧ i64ok x.least ∧ i64ok x.price
def TPart.ok (x : TPart) : Prop := strok x.name ∧ i64ok x.count ∧ i64ok x.least ∧ i64ok x.price
def TPart.wt (x : TPart) : Nat := x.name.size
theorem TPart.flat {x : TPart} (h : x.ok) : Flat [true, false, false, false] x.enc := by
  obtain ⟨h0, h1, h2, h3⟩ := h
  exact ⟨_, _, rfl, h0, ⟨_, _, rfl, h1, ⟨_, _, rfl, h2, ⟨_, _, rfl, h3, rfl⟩⟩⟩⟩
theorem TPart.of_flat {cs : List Value} (h : Flat [true, false, false, false] cs) : ∃ x : TPart, cs = x.enc ∧ x.ok := by
  obtain ⟨v0, _, rfl, h0, ⟨v1, _, rfl, h1, ⟨v2, _, rfl, h2, ⟨v3, _, rfl, h3, rfl⟩⟩⟩⟩ := h
  exact ⟨⟨v0, v1, v2, v3⟩, rfl, h0, h1, h2, h3⟩
theorem TPart.eq_flat (x y : TPart) : flatEq x.enc y.enc = decide (x = y) := by
  rw [Bool.eq_iff_iff, decide_eq_true_eq, TPart.ext_iff2]
  simp [TPart.enc, flatEq]
def TPart.wsum (xs : List TPart) : Nat := (xs.map TPart.wt).sum
theorem TPart.wsum_snoc {xs : List TPart} {k : Nat} {x : TPart} (h : xs[k]? = some x) : TPart.wsum (xs.take (k + 1)) = TPart.wsum (xs.take k) + x.wt := by
  simp [TPart.wsum, List.take_add_one, h]
def TPart.mark (k : Nat) : TPart := ⟨markB (k + 0), ((k + 1 : Nat) : Int), ((k + 2 : Nat) : Int), ((k + 3 : Nat) : Int)⟩
def TPart.marks (k n : Nat) : List TPart := (List.range n).map fun i => TPart.mark (k + 4 * i)
theorem TPart.marks_length (k n : Nat) : (TPart.marks k n).length = n := by simp [TPart.marks]
theorem TPart.marks_get {k n i : Nat} (h : i < n) : (TPart.marks k n)[i]? = some (TPart.mark (k + 4 * i)) := by simp [TPart.marks, h]
theorem TPart.marks_succ (k n : Nat) : TPart.marks k (n + 1) = TPart.marks k n ++ [TPart.mark (k + 4 * n)] := by simp [TPart.marks, List.range_succ]
end Go.M
namespace Go.Proofs.YtfgbijddjoojbaaGreat
open Go Go.RowKit Go.Vc Go.M
end Go.Proofs.YtfgbijddjoojbaaGreat
