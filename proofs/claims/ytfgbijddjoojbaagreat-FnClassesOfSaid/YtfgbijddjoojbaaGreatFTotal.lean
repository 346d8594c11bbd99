/- Contracts of functions of the given program, of the reference and of the laws: each says what a call returns, for all arguments that meet the premises that the theorem itself names. -/
import Derived.Test.YtfgbijddjoojbaaGreatBasics
import Derived.Test.YtfgbijddjoojbaaGreatVcApp
namespace Go.M
open Go Go.Vc
structure TTotal where
  name : ByteArray
  sum : Int
theorem TTotal.ext_iff2 {a b : TTotal} : a = b ↔ a.name = b.name ∧ a.sum = b.sum := by
  constructor
  · intro h; subst h; simp
  · intro h; cases a; cases b; simp at h; simp [h]
instance : DecidableEq TTotal := fun a b => decidable_of_iff (a.name = b.name ∧ a.sum = b.sum) TTotal.ext_iff2.symm
instance : Inhabited TTotal := ⟨⟨.empty, 0⟩⟩
def TTotal.enc (x : TTotal) : List Value := [.string x.name, .int .i64 x.sum]
theorem TTotal.enc_len (x : TTotal) : x.enc.length = 2 := rfl
def TTotal.ok (x : TTotal) : Prop := strok x.name ∧ i64ok x.sum
def TTotal.wt (x : TTotal) : Nat := x.name.size
theorem TTotal.flat {x : TTotal} (h : x.ok) : Flat [true, false] x.enc := by
  obtain ⟨h0, h1⟩ := h
  exact ⟨_, _, rfl, h0, ⟨_, _, rfl, h1, rfl⟩⟩
theorem TTotal.of_flat {cs : List Value} (h : Flat [true, false] cs) : ∃ x : TTotal, cs = x.enc ∧ x.ok := by
  obtain ⟨v0, _, rfl, h0, ⟨v1, _, rfl, h1, rfl⟩⟩ := h
  exact ⟨⟨v0, v1⟩, rfl, h0, h1⟩
theorem TTotal.eq_flat (x y : TTotal) : flatEq x.enc y.enc = decide (x = y) := by
  rw [Bool.eq_iff_iff, decide_eq_true_eq, TTotal.ext_iff2]
  simp [TTotal.enc, flatEq]
def TTotal.wsum (xs : List TTotal) : Nat := (xs.map TTotal.wt).sum
theorem TTotal.wsum_snoc {xs : List TTotal} {k : Nat} {x : TTotal} (h : xs[k]? = some x) : TTotal.wsum (xs.take (k + 1)) = TTotal.wsum (xs.take k) + x.wt := by
  simp [TTotal.wsum, List.take_add_one, h]
def TTotal.mark (k : Nat) : TTotal := ⟨markB (k + 0), ((k + 1 : Nat) : Int)⟩
def TTotal.marks (k n : Nat) : List TTotal := (List.range n).map fun i => TTotal.mark (k + 2 * i)
theorem TTotal.marks_length (k n : Nat) : (TTotal.marks k n).length = n := by simp [TTotal.marks]
theorem TTotal.marks_get {k n i : Nat} (h : i < n) : (TTotal.marks k n)[i]? = some (TTotal.mark (k + 2 * i)) := by simp [TTotal.marks, h]
theorem TTotal.marks_succ (k n : Nat) : TTotal.marks k (n + 1) = TTotal.marks k n ++ [TTotal.mark (k + 2 * n)] := by simp [TTotal.marks, List.range_succ]
end Go.M
namespace Go.Proofs.YtfgbijddjoojbaaGreat
open Go Go.RowKit Go.Vc Go.M
end Go.Proofs.YtfgbijddjoojbaaGreat
