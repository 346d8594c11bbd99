/- Contracts of functions of the given program, of the reference and of the laws: each says what a call returns, for all arguments that meet the premises that the theorem itself names. -/
import Derived.Test.YtfgbijddjoojbaaGreatDoorBasics
import Derived.Test.YtfgbijddjoojbaaGreatDoorVcApp
namespace Go.M
open Go Go.Vc
structure TMove where
  part : Int
  count : Int
theorem TMove.ext_iff2 {a b : TMove} : a = b ↔ a.part = b.part ∧ a.count = b.count := by
  constructor
  · intro h; subst h; simp
  · intro h; cases a; cases b; simp at h; simp [h]
instance : DecidableEq TMove := fun a b => decidable_of_iff (a.part = b.part ∧ a.count = b.count) TMove.ext_iff2.symm
instance : Inhabited TMove := ⟨⟨0, 0⟩⟩
def TMove.enc (x : TMove) : List Value := [.int .i64 x.part, .int .i64 x.count]
theorem TMove.enc_len (x : TMove) : x.enc.length = 2 := rfl
def TMove.ok (x : TMove) : Prop := i64ok x.part ∧ i64ok x.count
def TMove.wt (_ : TMove) : Nat := 0
theorem TMove.flat {x : TMove} (h : x.ok) : Flat [false, false] x.enc := by
  obtain ⟨h0, h1⟩ := h
  exact ⟨_, _, rfl, h0, ⟨_, _, rfl, h1, rfl⟩⟩
theorem TMove.of_flat {cs : List Value} (h : Flat [false, false] cs) : ∃ x : TMove, cs = x.enc ∧ x.ok := by
  obtain ⟨v0, _, rfl, h0, ⟨v1, _, rfl, h1, rfl⟩⟩ := h
  exact ⟨⟨v0, v1⟩, rfl, h0, h1⟩
theorem TMove.eq_flat (x y : TMove) : flatEq x.enc y.enc = decide (x = y) := by
  rw [Bool.eq_iff_iff, decide_eq_true_eq, TMove.ext_iff2]
  simp [TMove.enc, flatEq]
def TMove.wsum (xs : List TMove) : Nat := (xs.map TMove.wt).sum
theorem TMove.wsum_snoc {xs : List TMove} {k : Nat} {x : TMove} (h : xs[k]? = some x) : TMove.wsum (xs.take (k + 1)) = TMove.wsum (xs.take k) + x.wt := by
  simp [TMove.wsum, List.take_add_one, h]
def TMove.mark (k : Nat) : TMove := ⟨((k + 0 : Nat) : Int), ((k + 1 : Nat) : Int)⟩
def TMove.marks (k n : Nat) : List TMove := (List.range n).map fun i => TMove.mark (k + 2 * i)
theorem TMove.marks_length (k n : Nat) : (TMove.marks k n).length = n := by simp [TMove.marks]
theorem TMove.marks_get {k n i : Nat} (h : i < n) : (TMove.marks k n)[i]? = some (TMove.mark (k + 2 * i)) := by simp [TMove.marks, h]
theorem TMove.marks_succ (k n : Nat) : TMove.marks k (n + 1) = TMove.marks k n ++ [TMove.mark (k + 2 * n)] := by simp [TMove.marks, List.range_succ]
end Go.M
namespace Go.Proofs.YtfgbijddjoojbaaGreatDoor
open Go Go.RowKit Go.Vc Go.M
end Go.Proofs.YtfgbijddjoojbaaGreatDoor
