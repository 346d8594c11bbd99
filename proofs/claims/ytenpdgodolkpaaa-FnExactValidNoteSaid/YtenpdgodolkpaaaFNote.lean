/- Contracts of functions of the given program, of the reference and of the laws: each says what a call returns, for all arguments that meet the premises that the theorem itself names. -/
import Derived.Test.YtenpdgodolkpaaaStrs
import Derived.Test.YtenpdgodolkpaaaVcFlat
namespace Go.M
open Go Go.Vc
structure TNote where
  tray : Int
  count : Int
  sum : Int
  what : ByteArray
theorem TNote.ext_iff2 {a b : TNote} : a = b ↔ a.tray = b.tray ∧ a.count = b.count ∧ a.sum = b.sum ∧ a.what = b.what := by
  constructor
  · intro h; subst h; simp
  · intro h; cases a; cases b; simp at h; simp [h]
instance : DecidableEq TNote := fun a b => decidable_of_iff (a.tray = b.tray ∧ a.count = b.count ∧ a.sum = b.sum ∧ a.what = b.what) TNote.ext_iff2.symm
instance : Inhabited TNote := ⟨⟨0, 0, 0, .empty⟩⟩
def TNote.enc (x : TNote) : List Value := [.int .i64 x.tray, .int .i64 x.count, .int .i64 x.sum, .string x.what]
theorem TNote.enc_len (x : TNote) : x.enc.length = 4 := rfl
def TNote.ok (x : TNote) : Prop := i64ok x.tray ∧ i64ok x.count ∧ i64ok x.sum ∧ strok x.what
def TNote.wt (x : TNote) : Nat := x.what.size
theorem TNote.flat {x : TNote} (h : x.ok) : Flat [false, false, false, true] x.enc := by
  obtain ⟨h0, h1, h2, h3⟩ := h
  exact ⟨_, _, rfl, h0, ⟨_, _, rfl, h1, ⟨_, _, rfl, h2, ⟨_, _, rfl, h3, rfl⟩⟩⟩⟩
theorem TNote.of_flat {cs : List Value} (h : Flat [false, false, false, true] cs) : ∃ x : TNote, cs = x.enc ∧ x.ok := by
  obtain ⟨v0, _, rfl, h0, ⟨v1, _, rfl, h1, ⟨v2, _, rfl, h2, ⟨v3, _, rfl, h3, rfl⟩⟩⟩⟩ := h
  exact ⟨⟨v0, v1, v2, v3⟩, rfl, h0, h1, h2, h3⟩
theorem TNote.eq_flat (x y : TNote) : flatEq x.enc y.enc = decide (x = y) := by
  rw [Bool.eq_iff_iff, decide_eq_true_eq, TNote.ext_iff2]
  simp [TNote.enc, flatEq]
def TNote.wsum (xs : List TNote) : Nat := (xs.map TNote.wt).sum
theorem TNote.wsum_snoc {xs : List TNote} {k : Nat} {x : TNote} (h : xs[k]? = some x) : TNote.wsum (xs.take (k + 1)) = TNote.wsum (xs.take k) + x.wt := by
  simp [TNote.wsum, List.take_add_one, h]
def TNote.mark (k : Nat) : TNote := ⟨((k + 0 : Nat) : Int), ((k + 1 : Nat) : Int), ((k + 2 : Nat) : Int), markB (k + 3)⟩
def TNote.marks (k n : Nat) : List TNote := (List.range n).map fun i => TNote.mark (k + 4 * i)
theorem TNote.marks_length (k n : Nat) : (TNote.marks k n).length = n := by simp [TNote.marks]
theorem TNote.marks_get {k n i : Nat} (h : i < n) : (TNote.marks k n)[i]? = some (TNote.mark (k + 4 * i)) := by simp [TNote.marks, h]
theorem TNote.marks_succ (k n : Nat) : TNote.marks k (n + 1) = TNote.marks k n ++ [TNote.mark (k + 4 * n)] := by simp [TNote.marks, List.range_succ]
end Go.M
namespace Go.Proofs.Ytenpdgodolkpaaa
open Go Go.RowKit Go.Vc Go.M
theorem laws_szNote {x : TNote} (hx : x.ok) {left : Int} (h0 : 0 ≤ left) (h1 : left ≤ 1152921504606846976) (w : World) : Does Try.prog 14 [.agg ⟨x.enc⟩, .int .i64 left] w (fun v w' => ∃ r : Int, v = .int .i64 r ∧ (r = -1 ∨ (0 ≤ r ∧ r + x.wt = left)) ∧ Ext w w') := by
  obtain ⟨q0, q1, q2, q3⟩ := hx
  simp only [strok, i64ok] at q0 q1 q2 q3
  refine Does.of_vc tabok Try.func14 rfl rfl rfl (by kernel_rfl) ?_; conv => whnf
  refine SemK.box ?_
  intro b w1 _ _ e1 hB
  have hc : Cells w1 b 0 x.enc := hB.cells
  conv => whnf
  refine SemK.load1 (by kernel_rfl) hc (k := 3) rfl ?_
  conv => whnf
  refine SemK.sub (left - x.what.size) rfl (by omega) (by omega) ?_
  conv => whnf
  with_reducible refine IfB.dec (fun p3 => ?_) (fun p3 => ?_)
  · conv => whnf
    exact ⟨-1, rfl, .inl rfl, e1⟩
  conv => whnf
  exact ⟨(left - x.what.size), rfl, .inr ⟨by omega, by simp only [TNote.wt]; omega⟩, e1⟩
theorem laws_toNote (x : TNote) (w : World) : Does Try.prog 16 [.agg ⟨x.enc⟩] w (fun v w' => v = .agg ⟨x.enc⟩ ∧ Ext w w') := by
  refine Does.of_vc tabok Try.func16 rfl rfl rfl (by kernel_rfl) ?_; conv => whnf
  refine SemK.box ?_
  intro b w1 _ l1 e1 hB
  have hc1 : Cells w1 b 0 x.enc := hB.cells
  conv => whnf
  refine SemK.alloc (z := .agg #[.int .i64 0, .int .i64 0, .int .i64 0, .string { data := #[] }]) (by kernel_rfl) ?_
  intro rb w2 g2 l2 e2 R2
  conv => whnf
  refine SemK.alloc (z := .agg #[.int .i64 0, .int .i64 0, .int .i64 0, .string { data := #[] }]) (by kernel_rfl) ?_
  intro ob w3 g3 l3 e3 O3
  have O3 : Blk w3 ob [.int .i64 0, .int .i64 0, .int .i64 0, .string { data := #[] }] 31 := O3
  conv => whnf
  have hc3 := (hc1.ext e2).ext e3
  have R3 := R2.ext e3
  have E3 := Ext.trans e1 (Ext.trans e2 e3)
  refine SemK.load1 (by kernel_rfl) hc3 (k := 0) rfl ?_
  conv => whnf
  refine SemK.store1 (by kernel_rfl) O3 (k := 0 + 0) (by simp) rfl ?_
  intro w4 c4 B4
  have O4 : Blk w4 ob [.int .i64 x.tray, .int .i64 0, .int .i64 0, .string { data := #[] }] 31 := B4
  have hc4 := hc3.mod c4.but (by omega)
  have R4 := R3.mod c4.but (by omega)
  have E4 := E3.but_trans c4.but (by have := e1.size; have := e2.size; omega)
  conv => whnf
  refine SemK.load1 (by kernel_rfl) hc4 (k := 1) rfl ?_
  conv => whnf
  refine SemK.store1 (by kernel_rfl) O4 (k := 0 + 1) (by simp) rfl ?_
  intro w5 c5 B5
  have O5 : Blk w5 ob [.int .i64 x.tray, .int .i64 x.count, .int .i64 0, .string { data := #[] }] 31 := B5
  have hc5 := hc4.mod c5.but (by omega)
  have R5 := R4.mod c5.but (by omega)
  have E5 := E4.but_trans c5.but (by have := e1.size; have := e2.size; omega)
  conv => whnf
  refine SemK.load1 (by kernel_rfl) hc5 (k := 2) rfl ?_
  conv => whnf
  refine SemK.store1 (by kernel_rfl) O5 (k := 0 + 2) (by simp) rfl ?_
  intro w6 c6 B6
  have O6 : Blk w6 ob [.int .i64 x.tray, .int .i64 x.count, .int .i64 x.sum, .string { data := #[] }] 31 := B6
  have hc6 := hc5.mod c6.but (by omega)
  have R6 := R5.mod c6.but (by omega)
  have E6 := E5.but_trans c6.but (by have := e1.size; have := e2.size; omega)
  conv => whnf
  refine SemK.load1 (by kernel_rfl) hc6 (k := 3) rfl ?_
  conv => whnf
  refine SemK.store1 (by kernel_rfl) O6 (k := 0 + 3) (by simp) rfl ?_
  intro w7 c7 B7
  have O7 : Blk w7 ob [.int .i64 x.tray, .int .i64 x.count, .int .i64 x.sum, .string x.what] 31 := B7
  have hc7 := hc6.mod c7.but (by omega)
  have R7 := R6.mod c7.but (by omega)
  have E7 := E6.but_trans c7.but (by have := e1.size; have := e2.size; omega)
  conv => whnf
  refine SemK.loadAgg (by kernel_rfl) (n := 4) O7.cells rfl ?_
  conv => whnf
  refine SemK.storeAgg (by kernel_rfl) (n := 4) R7 (vs := x.enc) rfl (k := 0) (by simp [Value.cells]) (by simp [TNote.enc, cellish]) ?_
  intro w8 c8 B8
  conv => whnf
  refine CellK.of (run_loadAgg (n := 4) (by kernel_rfl) (vs := x.enc) rfl B8.cells) ?_
  conv => whnf
  exact ⟨rfl, E7.but_trans c8.but (by have := e1.size; omega)⟩
end Go.Proofs.Ytenpdgodolkpaaa
