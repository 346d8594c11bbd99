/- Contracts of functions of the given program, of the reference and of the laws: each says what a call returns, for all arguments that meet the premises that the theorem itself names. -/
import Derived.Test.YtfgbijddjoojbaaGreatDoorBasics
import Derived.Test.YtfgbijddjoojbaaGreatDoorVcApp
import Derived.Test.YtfgbijddjoojbaaGreatDoorFField
import Derived.Test.YtfgbijddjoojbaaGreatDoorLiftBase
import Derived.Test.YtfgbijddjoojbaaGreatDoorVcNest
namespace Go.M
open Go Go.Vc
structure TItem where
  name : ByteArray
  kind : Int
  from_ : Int
  to_ : Int
theorem TItem.ext_iff2 {a b : TItem} : a = b ↔ a.name = b.name ∧ a.kind = b.kind ∧ a.from_ = b.from_ ∧ a.to_ = b.to_ := by
  constructor
  · intro h; subst h; simp
  · intro h; cases a; cases b; simp at h; simp [h]
instance : DecidableEq TItem := fun a b => decidable_of_iff (a.name = b.name ∧ a.kind = b.kind ∧ a.from_ = b.from_ ∧ a.to_ = b.to_) TItem.ext_iff2.symm
instance : Inhabited TItem := ⟨⟨.empty, 0, 0, 0⟩⟩
def TItem.enc (x : TItem) : List Value := [.string x.name, .int .i64 x.kind, .int .i64 x.from_, .int .i64 x.to_]
theorem TItem.enc_len (x : TItem) : x.enc.length = 4 := rfl
def TItem.ok (x : TItem) : Prop := strok x.name ∧ i64ok x.kind ∧ i64ok x.from_ ∧ i64ok x.to_
def TItem.wt (x : TItem) : Nat := x.name.size
theorem TItem.flat {x : TItem} (h : x.ok) : Flat [true, false, false, false] x.enc := by
  obtain ⟨h0, h1, h2, h3⟩ := h
  exact ⟨_, _, rfl, h0, ⟨_, _, rfl, h1, ⟨_, _, rfl, h2, ⟨_, _, rfl, h3, rfl⟩⟩⟩⟩
theorem TItem.of_flat {cs : List Value} (h : Flat [true, false, false, false] cs) : ∃ x : TItem, cs = x.enc ∧ x.ok := by
  obtain ⟨v0, _, rfl, h0, ⟨v1, _, rfl, h1, ⟨v2, _, rfl, h2, ⟨v3, _, rfl, h3, rfl⟩⟩⟩⟩ := h
  exact ⟨⟨v0, v1, v2, v3⟩, rfl, h0, h1, h2, h3⟩
theorem TItem.eq_flat (x y : TItem) : flatEq x.enc y.enc = decide (x = y) := by
  rw [Bool.eq_iff_iff, decide_eq_true_eq, TItem.ext_iff2]
  simp [TItem.enc, flatEq]
def TItem.wsum (xs : List TItem) : Nat := (xs.map TItem.wt).sum
theorem TItem.wsum_snoc {xs : List TItem} {k : Nat} {x : TItem} (h : xs[k]? = some x) : TItem.wsum (xs.take (k + 1)) = TItem.wsum (xs.take k) + x.wt := by
  simp [TItem.wsum, List.take_add_one, h]
def TItem.mark (k : Nat) : TItem := ⟨markB (k + 0), ((k + 1 : Nat) : Int), ((k + 2 : Nat) : Int), ((k + 3 : Nat) : Int)⟩
def TItem.marks (k n : Nat) : List TItem := (List.range n).map fun i => TItem.mark (k + 4 * i)
theorem TItem.marks_length (k n : Nat) : (TItem.marks k n).length = n := by simp [TItem.marks]
theorem TItem.marks_get {k n i : Nat} (h : i < n) : (TItem.marks k n)[i]? = some (TItem.mark (k + 4 * i)) := by simp [TItem.marks, h]
theorem TItem.marks_succ (k n : Nat) : TItem.marks k (n + 1) = TItem.marks k n ++ [TItem.mark (k + 4 * n)] := by simp [TItem.marks, List.range_succ]
end Go.M
namespace Go.Proofs.YtfgbijddjoojbaaGreatDoor
open Go Go.RowKit Go.Vc Go.M
end Go.Proofs.YtfgbijddjoojbaaGreatDoor
namespace Go.Proofs.YtfgbijddjoojbaaGreatDoor
open Go Go.RowKit Go.Vc Go.M Go.ChangeShapes Go.WideShapes Go.ChangeAt
end Go.Proofs.YtfgbijddjoojbaaGreatDoor
