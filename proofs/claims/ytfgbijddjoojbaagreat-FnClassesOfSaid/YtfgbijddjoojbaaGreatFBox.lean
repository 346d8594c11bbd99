/- Contracts of functions of the given program, of the reference and of the laws: each says what a call returns, for all arguments that meet the premises that the theorem itself names. -/
import Derived.Test.YtfgbijddjoojbaaGreatBasics
import Derived.Test.YtfgbijddjoojbaaGreatVcApp
namespace Go.M
open Go Go.Vc
structure TBox where
  name : ByteArray
  cards : Int
  year : Int
  keep : Int
  lent : ByteArray
theorem TBox.ext_iff2 {a b : TBox} : a = b ↔ a.name = b.name ∧ a.cards = b.cards ∧ a.year = b.year ∧ a.keep = b.keep ∧ a.lent = b.lent := by
  constructor
  · intro h; subst h; simp
  · intro h; cases a; cases b; simp at h; simp [h]
instance : DecidableEq TBox := fun a b => decidable_of_iff (a.name = b.name ∧ a.cards = b.cards ∧ a.year = b.year ∧ a.keep = b.keep ∧ a.lent = b.lent) TBox.ext_iff2.symm
instance : Inhabited TBox := ⟨⟨.empty, 0, 0, 0, .empty⟩⟩
def TBox.enc (x : TBox) : List Value := [.string x.name, .int .i64 x.cards, .int .i64 x.year, .int .i64 x.keep, .string x.lent]
theorem TBox.enc_len (x : TBox) : x.enc.length = 5 := rfl
def TBox.ok (x : TBox) : Prop := strok x.name ∧ i64ok x.cards ∧ i64ok x.year ∧ i64ok x.keep ∧ strok x.lent
def TBox.wt (x : TBox) : Nat := x.name.size + x.lent.size
theorem TBox.flat {x : TBox} (h : x.ok) : Flat [true, false, false, false, true] x.enc := by
  obtain ⟨h0, h1, h2, h3, h4⟩ := h
  exact ⟨_, _, rfl, h0, ⟨_, _, rfl, h1, ⟨_, _, rfl, h2, ⟨_, _, rfl, h3, ⟨_, _, rfl, h4, rfl⟩⟩⟩⟩⟩
theorem TBox.of_flat {cs : List Value} (h : Flat [true, false, false, false, true] cs) : ∃ x : TBox, cs = x.enc ∧ x.ok := by
  obtain ⟨v0, _, rfl, h0, ⟨v1, _, rfl, h1, ⟨v2, _, rfl, h2, ⟨v3, _, rfl, h3, ⟨v4, _, rfl, h4, rfl⟩⟩⟩⟩⟩ := h
  exact ⟨⟨v0, v1, v2, v3, v4⟩, rfl, h0, h1, h2, h3, h4⟩
theorem TBox.eq_flat (x y : TBox) : flatEq x.enc y.enc = decide (x = y) := by
  rw [Bool.eq_iff_iff, decide_eq_true_eq, TBox.ext_iff2]
  simp [TBox.enc, flatEq]
def TBox.wsum (xs : List TBox) : Nat := (xs.map TBox.wt).sum
theorem TBox.wsum_snoc {xs : List TBox} {k : Nat} {x : TBox} (h : xs[k]? = some x) : TBox.wsum (xs.take (k + 1)) = TBox.wsum (xs.take k) + x.wt := by
  simp [TBox.wsum, List.take_add_one, h]
def TBox.mark (k : Nat) : TBox := ⟨markB (k + 0), ((k + 1 : Nat) : Int), ((k + 2 : Nat) : Int), ((k + 3 : Nat) : Int), markB (k + 4)⟩
def TBox.marks (k n : Nat) : List TBox := (List.range n).map fun i => TBox.mark (k + 5 * i)
theorem TBox.marks_length (k n : Nat) : (TBox.marks k n).length = n := by simp [TBox.marks]
theorem TBox.marks_get {k n i : Nat} (h : i < n) : (TBox.marks k n)[i]? = some (TBox.mark (k + 5 * i)) := by simp [TBox.marks, h]
theorem TBox.marks_succ (k n : Nat) : TBox.marks k (n + 1) = TBox.marks k n ++ [TBox.mark (k + 5 * n)] := by simp [TBox.marks, List.range_succ]
end Go.M
namespace Go.Proofs.YtfgbijddjoojbaaGreat
open Go Go.RowKit Go.Vc Go.M
end Go.Proofs.YtfgbijddjoojbaaGreat
