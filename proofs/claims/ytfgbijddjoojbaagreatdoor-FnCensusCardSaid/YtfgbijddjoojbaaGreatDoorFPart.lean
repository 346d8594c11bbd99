/- Contracts of functions of the given program, of the reference and of the laws: each says what a call returns, for all arguments that meet the premises that the theorem itself names. -/
import Derived.Test.YtfgbijddjoojbaaGreatDoorBasics
import Derived.Test.YtfgbijddjoojbaaGreatDoorVcApp
namespace Go.M
open Go Go.Vc
structure TPart where
  name : ByteArray
  count : Int
  least : Int
  price : Int
theorem TPart.ext_iff2 {a b : TPart} : a = b ↔ a.name = b.name ∧ a.count = b.count ∧ a.least = b.least ∧ a.price = b.price := by
  constructor
  · intro h; subst h; simp
  · intro h; cases a; cases b; simp at h; simp [h]
instance : DecidableEq TPart := fun a b => decidable_of_iff (a.name = b.name ∧ a.count = b.count ∧ a.least = b.least ∧ a.price = b.price) TPart.ext_iff2.symm
instance : Inhabited TPart := ⟨⟨.empty, 0, 0, 0⟩⟩
def TPart.enc (x : TPart) : List Value := [.string x.name, .int .i64 x.count, .int .i64 x.least, .int .i64 x.price]
theorem TPart.enc_len (x : TPart) : x.enc.length = 4 := rfl
def partSm (x : TPart) : Prop := x.name.size ≤ 12 ∧ i64ok x.count ∧ i64ok x.least ∧ i64ok x.price
def TPart.ok (x : TPart) : Prop := strok x.name ∧ i64ok x.count ∧ i64ok x.least ∧ i64ok x.price
def TPart.wt (x : TPart) : Nat := x.name.size
theorem TPart.flat {x : TPart} (h : x.ok) : Flat [true, false, false, false] x.enc := by
  obtain ⟨h0, h1, h2, h3⟩ := h
  exact ⟨_, _, rfl, h0, ⟨_, _, rfl, h1, ⟨_, _, rfl, h2, ⟨_, _, rfl, h3, rfl⟩⟩⟩⟩
theorem TPart.of_flat {cs : List Value} (h : Flat [true, false, false, false] cs) : ∃ x : TPart, cs = x.enc ∧ x.ok := by
  obtain ⟨v0, _, rfl, h0, ⟨v1, _, rfl, h1, ⟨v2, _, rfl, h2, ⟨v3, _, rfl, h3, rfl⟩⟩⟩⟩ := h
  exact ⟨⟨v0, v1, v2, v3⟩, rfl, h0, h1, h2, h3⟩
theorem TPart.eq_flat (x y : TPart) : flatEq x.enc y.enc = decide (x = y) := by
  rw [Bool.eq_iff_iff, decide_eq_true_eq, TPart.ext_iff2]
  simp [TPart.enc, flatEq]
def TPart.wsum (xs : List TPart) : Nat := (xs.map TPart.wt).sum
theorem TPart.wsum_snoc {xs : List TPart} {k : Nat} {x : TPart} (h : xs[k]? = some x) : TPart.wsum (xs.take (k + 1)) = TPart.wsum (xs.take k) + x.wt := by
  simp [TPart.wsum, List.take_add_one, h]
def TPart.mark (k : Nat) : TPart := ⟨markB (k + 0), ((k + 1 : Nat) : Int), ((k + 2 : Nat) : Int), ((k + 3 : Nat) : Int)⟩
def TPart.marks (k n : Nat) : List TPart := (List.range n).map fun i => TPart.mark (k + 4 * i)
theorem TPart.marks_length (k n : Nat) : (TPart.marks k n).length = n := by simp [TPart.marks]
theorem TPart.marks_get {k n i : Nat} (h : i < n) : (TPart.marks k n)[i]? = some (TPart.mark (k + 4 * i)) := by simp [TPart.marks, h]
theorem TPart.marks_succ (k n : Nat) : TPart.marks k (n + 1) = TPart.marks k n ++ [TPart.mark (k + 4 * n)] := by simp [TPart.marks, List.range_succ]
end Go.M
namespace Go.Proofs.YtfgbijddjoojbaaGreatDoor
open Go Go.RowKit Go.Vc Go.M
theorem spec_SameParts {w : World} {a a' : Option Addr} {n n' c c' : Nat} {xs ys : List TPart} (h : Arr TPart.enc 4 w a n xs) (h' : Arr TPart.enc 4 w a' n' ys) (hok : ∀ x ∈ xs, x.ok) (hok' : ∀ x ∈ ys, x.ok) :
    Does Tryz.prog 39 [.slice a n c, .slice a' n' c'] w (fun v w' => v = .bool (decide (xs = ys)) ∧ Ext w w') := by
  have hn := h.len
  have hn' := h'.len
  have hm := h.le
  refine Does.of_vc tabok Tryz.func39 rfl rfl rfl (by kernel_rfl) ?_; conv => whnf
  with_reducible refine IfB.ndec (fun h1 => ?_) (fun h1 => ?_)
  · conv => whnf
    refine ⟨?_, Ext.refl _⟩
    have : ¬ xs = ys := fun e => by subst e; omega
    rw [decide_eq_false this]
  · conv => whnf
    refine LoopK.rule [0, 1, 5] (fun (k : Nat) vs w' => vs = [.slice a n c, .slice a' n' c', .int .i64 k] ∧ k ≤ n ∧ xs.take k = ys.take k ∧ Ext w w') (fun k => n - k) tab tabok (by kernel_rfl) 0 ⟨rfl, by omega, by simp, Ext.refl _⟩ ?_
    rintro k g _ w' ⟨rfl, hk, hall, hE⟩
    conv => whnf
    with_reducible refine IfB.dec (fun h4 => ?_) (fun h4 => ?_)
    · obtain ⟨x, hx⟩ : ∃ x, xs[k]? = some x := get_of_lt (by omega)
      obtain ⟨y, hy⟩ : ∃ y, ys[k]? = some y := get_of_lt (by omega)
      have hxo := hok x (List.mem_of_getElem? hx)
      have hyo := hok' y (List.mem_of_getElem? hy)
      conv => whnf
      refine DrawK.det tabok mixed (by kernel_rfl) (by kernel_rfl) ?_
      conv => whnf
      refine DSemK.index (by kernel_rfl) (h.ext hE) k rfl hx ?_
      intro b o _ hb
      conv => whnf
      refine DSemK.loadAgg (by kernel_rfl) (n := 4) hb rfl ?_
      conv => whnf
      refine DSemK.index (by kernel_rfl) (h'.ext hE) k rfl hy ?_
      intro b' o' _ hb'
      conv => whnf
      refine DSemK.loadAgg (by kernel_rfl) (n := 4) hb' rfl ?_
      conv => whnf
      refine DSemK.neqFlat (ks := [true, false, false, false]) (by kernel_rfl) (by kernel_rfl) (TPart.flat hxo) (TPart.flat hyo) ?_
      rw [TPart.eq_flat]
      conv => whnf
      intro w2 e2
      conv => whnf
      with_reducible refine IfB.ndec (fun h5 => ?_) (fun h5 => ?_)
      · conv => whnf
        exact ⟨by rw [decide_eq_false (ne_of_get hx hy h5)], Ext.trans hE e2⟩
      · conv => whnf
        refine SemK.add (((k + 1 : Nat) : Int)) (by omega) (by omega) (by omega) ?_
        conv => whnf
        exact ⟨k + 1, by omega, rfl, by omega, take_eq_snoc hall hx hy h5, Ext.trans hE e2⟩
    · conv => whnf
      refine ⟨?_, hE⟩
      rw [decide_eq_true (eq_of_take hall (by omega) (by omega))]
theorem lib_EqualParts {w : World} {a a' : Option Addr} {n n' c c' : Nat} {xs ys : List TPart} (h : Arr TPart.enc 4 w a n xs) (h' : Arr TPart.enc 4 w a' n' ys) (hok : ∀ x ∈ xs, x.ok) (hok' : ∀ x ∈ ys, x.ok) :
    Does Tryz.prog 97 [.slice a n c, .slice a' n' c'] w (fun v w' => v = .bool (decide (xs = ys)) ∧ Ext w w') := by
  have hn := h.len
  have hn' := h'.len
  have hm := h.le
  refine Does.of_vc tabok Tryz.func97 rfl rfl rfl (by kernel_rfl) ?_; conv => whnf
  with_reducible refine IfB.ndec (fun h1 => ?_) (fun h1 => ?_)
  · conv => whnf
    refine ⟨?_, Ext.refl _⟩
    have : ¬ xs = ys := fun e => by subst e; omega
    rw [decide_eq_false this]
  · conv => whnf
    refine LoopK.rule [0, 1, 12, 13] (fun (k : Nat) vs w' => vs = [.slice a n c, .slice a' n' c', .int .i64 n, .int .i64 k] ∧ k ≤ n ∧ xs.take k = ys.take k ∧ Ext w w') (fun k => n - k) tab tabok (by kernel_rfl) 0 ⟨rfl, by omega, by simp, Ext.refl _⟩ ?_
    rintro k g _ w' ⟨rfl, hk, hall, hE⟩
    conv => whnf
    with_reducible refine IfB.dec (fun h4 => ?_) (fun h4 => ?_)
    · obtain ⟨x, hx⟩ : ∃ x, xs[k]? = some x := get_of_lt (by omega)
      obtain ⟨y, hy⟩ : ∃ y, ys[k]? = some y := get_of_lt (by omega)
      have hxo := hok x (List.mem_of_getElem? hx)
      have hyo := hok' y (List.mem_of_getElem? hy)
      conv => whnf
      refine DrawK.det tabok mixed (by kernel_rfl) (by kernel_rfl) ?_
      conv => whnf
      refine DSemK.index (by kernel_rfl) (h.ext hE) k rfl hx ?_
      intro b o _ hb
      conv => whnf
      refine DSemK.loadAgg (by kernel_rfl) (n := 4) hb rfl ?_
      conv => whnf
      refine DSemK.index (by kernel_rfl) (h'.ext hE) k rfl hy ?_
      intro b' o' _ hb'
      conv => whnf
      refine DSemK.loadAgg (by kernel_rfl) (n := 4) hb' rfl ?_
      conv => whnf
      refine DSemK.neqFlat (ks := [true, false, false, false]) (by kernel_rfl) (by kernel_rfl) (TPart.flat hxo) (TPart.flat hyo) ?_
      rw [TPart.eq_flat]
      conv => whnf
      intro w2 e2
      conv => whnf
      with_reducible refine IfB.ndec (fun h5 => ?_) (fun h5 => ?_)
      · conv => whnf
        exact ⟨by rw [decide_eq_false (ne_of_get hx hy h5)], Ext.trans hE e2⟩
      · conv => whnf
        refine SemK.add (((k + 1 : Nat) : Int)) (by omega) (by omega) (by omega) ?_
        conv => whnf
        exact ⟨k + 1, by omega, rfl, by omega, take_eq_snoc hall hx hy h5, Ext.trans hE e2⟩
    · conv => whnf
      refine ⟨?_, hE⟩
      rw [decide_eq_true (eq_of_take hall (by omega) (by omega))]
theorem impl_SameParts {w : World} {a a' : Option Addr} {n n' c c' : Nat} {xs ys : List TPart} (h : Arr TPart.enc 4 w a n xs) (h' : Arr TPart.enc 4 w a' n' ys) (hok : ∀ x ∈ xs, x.ok) (hok' : ∀ x ∈ ys, x.ok) :
    Does Tryz.prog 41 [.slice a n c, .slice a' n' c'] w (fun v w' => v = .bool (decide (xs = ys)) ∧ Ext w w') := by
  refine Does.of_vc tabok Tryz.func41 rfl rfl rfl (by kernel_rfl) ?_; conv => whnf
  refine (lib_EqualParts h h' hok hok').mono ?_; rintro _ w1 ⟨rfl, e1⟩; conv => whnf
  exact ⟨rfl, e1⟩
end Go.Proofs.YtfgbijddjoojbaaGreatDoor
