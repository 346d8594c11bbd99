/- Contracts of functions of the given program, of the reference and of the laws: each says what a call returns, for all arguments that meet the premises that the theorem itself names. -/
import Derived.Test.YtmhnmdcleeadiaaKept
namespace Go.M
open Go Go.Vc
def boxIx (xs : List TBox) (s : ByteArray) : Int := idxI (fun y => decide (y.name = s)) xs
def askM (xs : List TBox) (s : ByteArray) : Int × Int := if boxesB xs = false then (0, 1) else if boxIx xs s < 0 then (0, 3) else (boxIx xs s, 0)
theorem boxIx_get {xs : List TBox} {s : ByteArray} (h : 0 ≤ boxIx xs s) : ∃ (k : Nat) (x : TBox), boxIx xs s = (k : Int) ∧ xs[k]? = some x := by
  have h1 := (idxI_le (p := fun y => decide (y.name = s)) (xs := xs))
  unfold boxIx at h ⊢
  refine ⟨(idxI (fun y => decide (y.name = s)) xs).toNat, ?_⟩
  have h2 : idxI (fun y => decide (y.name = s)) xs < xs.length := by
    unfold idxI at h ⊢
    split
    · rename_i i hi
      rw [List.findIdx?_eq_some_iff_getElem] at hi
      obtain ⟨h, _⟩ := hi
      omega
    · rename_i hi; rw [hi] at h; simp at h
  obtain ⟨x, hx⟩ := get_of_lt (l := xs) (k := (idxI (fun y => decide (y.name = s)) xs).toNat) (by omega)
  exact ⟨x, by omega, hx⟩
def lendM (xs : List TBox) (s q : ByteArray) : List TBox × Int :=
  if boxesB xs = false then ([], 1) else if boxIx xs s < 0 then ([], 3) else if nameB q = false then ([], 2) else
    match xs[(boxIx xs s).toNat]? with
    | none => ([], 0)
    | some x => if x.lent = { data := #[] } then (xs.set (boxIx xs s).toNat { x with lent := q }, 0) else ([], 6)
def returnM (xs : List TBox) (s : ByteArray) : List TBox × Int :=
  if boxesB xs = false then ([], 1) else if boxIx xs s < 0 then ([], 3) else
    match xs[(boxIx xs s).toNat]? with
    | none => ([], 0)
    | some x => if x.lent = { data := #[] } then ([], 6) else (xs.set (boxIx xs s).toNat { x with lent := { data := #[] } }, 0)
def lentAt (xs : List TBox) (s : ByteArray) (k : Nat) : Bool := match xs[k]? with | some x => decide (x.lent = s) | none => false
def whereM (p : Nat → Bool) (n : Nat) : List Int := ((List.range n).filter p).map fun (k : Nat) => (k : Int)
theorem whereM_succ (p : Nat → Bool) (n : Nat) : whereM p (n + 1) = whereM p n ++ (if p n = true then [(n : Int)] else []) := by
  simp only [whereM, List.range_succ, List.filter_append, List.map_append]
  cases h : p n <;> simp [h]
theorem whereM_len (p : Nat → Bool) (n : Nat) : (whereM p n).length ≤ n := by
  simp only [whereM, List.length_map]
  exact Nat.le_trans (List.length_filter_le _ _) (by simp)
def lentToM (xs : List TBox) (s : ByteArray) : List Int × Int := if boxesB xs = false then ([], 1) else if nameB s = false then ([], 2) else (whereM (lentAt xs s) xs.length, 0)
theorem lendM_len (xs : List TBox) (s q : ByteArray) : (lendM xs s q).1.length ≤ xs.length := by
  unfold lendM
  repeat' split
  all_goals simp
theorem returnM_len (xs : List TBox) (s : ByteArray) : (returnM xs s).1.length ≤ xs.length := by
  unfold returnM
  repeat' split
  all_goals simp
theorem lentToM_len (xs : List TBox) (s : ByteArray) : (lentToM xs s).1.length ≤ xs.length := by
  unfold lentToM
  repeat' split
  · simp
  · simp
  · exact whereM_len _ _
end Go.M
namespace Go.Proofs.Ytmhnmdcleeadiaa
open Go Go.RowKit Go.Vc Go.M
theorem spec_l26Find {w : World} {a : Option Addr} {n c : Nat} {xs : List TBox} (h : Arr TBox.enc 5 w a n xs) (s : ByteArray) :
    Does Try.prog 43 [.slice a n c, .string s] w (fun v w' => v = .int .i64 (boxIx xs s) ∧ Ext w w') := by
  have hn := h.len
  have hm := h.le
  refine Does.of_vc tabok Try.func43 rfl rfl rfl (by kernel_rfl) ?_; conv => whnf
  refine LoopK.rule [0, 1, 5] (fun (k : Nat) vs w' => vs = [.slice a n c, .string s, .int .i64 k] ∧ k ≤ n ∧ (xs.take k).any (fun y => decide (y.name = s)) = false ∧ Ext w w') (fun k => n - k) tab tabok (by kernel_rfl) 0 ⟨rfl, by omega, by simp, Ext.refl _⟩ ?_
  rintro k g _ w' ⟨rfl, hk, hall, hE⟩
  conv => whnf
  with_reducible refine IfB.dec (fun h1 => ?_) (fun h1 => ?_)
  · conv => whnf
    obtain ⟨x2, hx2⟩ : ∃ x, xs[k]? = some x := get_of_lt (by omega)
    refine SemK.index (by kernel_rfl) (h.ext hE) k rfl hx2 ?_
    intro b3 o3 _ hb3
    conv => whnf
    refine SemK.load1 (by kernel_rfl) hb3 (k := 0) rfl ?_
    conv => whnf
    with_reducible refine IfB.dec (fun h4 => ?_) (fun h4 => ?_)
    · conv => whnf
      refine ⟨?_, hE⟩
      · rw [boxIx, idxI_at hall hx2 (by simpa using h4)]
    · conv => whnf
      refine SemK.add (((k + 1 : Nat) : Int)) (by omega) (by omega) (by omega) ?_
      conv => whnf
      exact ⟨k + 1, by omega, rfl, by omega, by simp [List.take_add_one, boxIx, *], hE⟩
  · conv => whnf
    have tk5 : List.take k xs = xs := List.take_of_length_le (by omega)
    refine ⟨?_, hE⟩
    · rw [tk5] at hall; rw [boxIx, idxI_neg hall]
theorem impl_boxIndex1 (x : TBox) {b : Nat} {s : ByteArray} {w : World} (hc : Cells w b 0 [.string s]) : Does Try.prog 77 [.agg ⟨x.enc⟩, .pointer (some ⟨b, 0, none⟩)] w (fun v w' => v = .bool (decide (x.name = s)) ∧ Ext w w') := by
  refine Does.of_vc tabok Try.func77 rfl rfl rfl (by kernel_rfl) ?_; conv => whnf
  refine SemK.box ?_
  intro b2 w2 g2 l2 e2 B2
  conv => whnf
  refine SemK.load1 (by kernel_rfl) B2.cells (k := 0) rfl ?_
  conv => whnf
  refine SemK.load1 (by kernel_rfl) (hc.ext e2) (k := 0) rfl ?_
  conv => whnf
  exact ⟨rfl, e2⟩
theorem impl_boxIndex {w : World} {a : Option Addr} {n c : Nat} {xs : List TBox} (h : Arr TBox.enc 5 w a n xs) (s : ByteArray) :
    Does Try.prog 46 [.slice a n c, .string s] w (fun v w' => v = .int .i64 (boxIx xs s) ∧ Ext w w') := by
  refine Does.of_vc tabok Try.func46 rfl rfl rfl (by kernel_rfl) ?_; conv => whnf
  refine SemK.box ?_
  intro b w1 _ _ e1 hB
  have hc : Cells w1 b 0 [.string s] := hB.cells
  conv => whnf
  refine (lib_IndexFuncBox (h.ext e1) (fun x _ w' e => impl_boxIndex1 x (hc.ext e))).mono ?_
  rintro _ w2 ⟨rfl, e2⟩
  conv => whnf
  exact ⟨rfl, Ext.trans e1 e2⟩
end Go.Proofs.Ytmhnmdcleeadiaa
