/- Contracts of functions of the given program, of the reference and of the laws: each says what a call returns, for all arguments that meet the premises that the theorem itself names. -/
import Derived.Test.YtfgbijddjoojbaaGreatBasics
import Derived.Test.YtfgbijddjoojbaaGreatVcApp
namespace Go.M
open Go Go.Vc
structure TNote where
  tray : Int
  count : Int
  sum : Int
  what : ByteArray
theorem TNote.ext_iff2 {a b : TNote} : a = b ↔ a.tray = b.tray ∧ a.count = b.count ∧ a.sum = b.sum ∧ a.what = b.what := by
  constructor
  · intro h; subst h; simp
  · intro h; cases a; cases b; simp at h; simp [h]
instance : DecidableEq TNote := fun a b => decidable_of_iff (a.tray = b.tray ∧ a.count = b.count ∧ a.sum = b.sum ∧ a.what = b.what) TNote.ext_iff2.symm
instance : Inhabited TNote := ⟨⟨0, 0, 0, .empty⟩⟩
def TNote.enc (x : TNote) : List Value := [.int .i64 x.tray, .int .i64 x.count, .int .i64 x.sum, .string x.what]
theorem TNote.enc_len (x : TNote) : x.enc.length = 4 := rfl
def TNote.ok (x : TNote) : Prop := i64ok x.tray ∧ i64ok x.count ∧ i64ok x.sum ∧ strok x.what
def TNote.wt (x : TNote) : Nat := x.what.size
theorem TNote.flat {x : TNote} (h : x.ok) : Flat [false, false, false, true] x.enc := by
  obtain ⟨h0, h1, h2, h3⟩ := h
  exact ⟨_, _, rfl, h0, ⟨_, _, rfl, h1, ⟨_, _, rfl, h2, ⟨_, _, rfl, h3, rfl⟩⟩⟩⟩
theorem TNote.of_flat {cs : List Value} (h : Flat [false, false, false, true] cs) : ∃ x : TNote, cs = x.enc ∧ x.ok := by
  obtain ⟨v0, _, rfl, h0, ⟨v1, _, rfl, h1, ⟨v2, _, rfl, h2, ⟨v3, _, rfl, h3, rfl⟩⟩⟩⟩ := h
  exact ⟨⟨v0, v1, v2, v3⟩, rfl, h0, h1, h2, h3⟩
theorem TNote.eq_flat (x y : TNote) : flatEq x.enc y.enc = decide (x = y) := by
  rw [Bool.eq_iff_iff, decide_eq_true_eq, TNote.ext_iff2]
  simp [TNote.enc, flatEq]
def TNote.wsum (xs : List TNote) : Nat := (xs.map TNote.wt).sum
theorem TNote.wsum_snoc {xs : List TNote} {k : Nat} {x : TNote} (h : xs[k]? = some x) : TNote.wsum (xs.take (k + 1)) = TNote.wsum (xs.take k) + x.wt := by
  simp [TNote.wsum, List.take_add_one, h]
def TNote.mark (k : Nat) : TNote := ⟨((k + 0 : Nat) : Int), ((k + 1 : Nat) : Int), ((k + 2 : Nat) : Int), markB (k + 3)⟩
def TNote.marks (k n : Nat) : List TNote := (List.range n).map fun i => TNote.mark (k + 4 * i)
theorem TNote.marks_length (k n : Nat) : (TNote.marks k n).length = n := by simp [TNote.marks]
theorem TNote.marks_get {k n i : Nat} (h : i < n) : (TNote.marks k n)[i]? = some (TNote.mark (k + 4 * i)) := by simp [TNote.marks, h]
theorem TNote.marks_succ (k n : Nat) : TNote.marks k (n + 1) = TNote.marks k n ++ [TNote.mark (k + 4 * n)] := by simp [TNote.marks, List.range_succ]
end Go.M
namespace Go.Proofs.YtfgbijddjoojbaaGreat
open Go Go.RowKit Go.Vc Go.M
end Go.Proofs.YtfgbijddjoojbaaGreat
