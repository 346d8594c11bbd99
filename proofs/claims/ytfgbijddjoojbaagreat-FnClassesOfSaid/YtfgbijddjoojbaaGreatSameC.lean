/- Contracts of functions of the given program, of the reference and of the laws: each says what a call returns, for all arguments that meet the premises that the theorem itself names. -/
import Derived.Test.YtfgbijddjoojbaaGreatBasics
import Derived.Test.YtfgbijddjoojbaaGreatNest
import Derived.Test.YtfgbijddjoojbaaGreatVcApp
/- equal lists of numbers, equal cards, the columns of a kind -/
namespace Go.M
open Go Go.Vc
def whereM (p : Nat → Bool) (n : Nat) : List Int := ((List.range n).filter p).map fun (k : Nat) => (k : Int)
theorem whereM_succ (p : Nat → Bool) (n : Nat) : whereM p (n + 1) = whereM p n ++ (if p n = true then [(n : Int)] else []) := by
  simp only [whereM, List.range_succ, List.filter_append, List.map_append]
  cases h : p n <;> simp [h]
theorem whereM_len (p : Nat → Bool) (n : Nat) : (whereM p n).length ≤ n := by
  simp only [whereM, List.length_map]
  exact Nat.le_trans (List.length_filter_le _ _) (by simp)
end Go.M
namespace Go.Proofs.YtfgbijddjoojbaaGreat
open Go Go.RowKit Go.Vc Go.M
theorem spec_l00Same {w : World} {a a' : Option Addr} {n n' c c' : Nat} {xs ys : List Int} (h : Arr eI 1 w a n xs) (h' : Arr eI 1 w a' n' ys) :
    Does Tryz.prog 61 [.slice a n c, .slice a' n' c'] w (fun v w' => v = .bool (decide (xs = ys)) ∧ Ext w w') := by
  have hn := h.len
  have hn' := h'.len
  have hm := h.le
  refine Does.of_vc tabok Tryz.func61 rfl rfl rfl (by kernel_rfl) ?_; conv => whnf
  with_reducible refine IfB.ndec (fun h1 => ?_) (fun h1 => ?_)
  · conv => whnf
    exact ⟨by rw [decide_eq_false (fun e => by subst e; omega)], Ext.refl _⟩
  · conv => whnf
    refine LoopK.rule [0, 1, 5] (fun (k : Nat) vs w' => vs = [.slice a n c, .slice a' n' c', .int .i64 k] ∧ k ≤ n ∧ xs.take k = ys.take k ∧ Ext w w') (fun k => n - k) tab tabok (by kernel_rfl) 0 ⟨rfl, by omega, by simp, Ext.refl _⟩ ?_
    rintro k g _ w' ⟨rfl, hk, hall, hE9⟩
    conv => whnf
    with_reducible refine IfB.dec (fun h10 => ?_) (fun h10 => ?_)
    · conv => whnf
      refine DrawK.det tabok mixed (by kernel_rfl) (by kernel_rfl) ?_
      conv => whnf
      obtain ⟨x11, hx11⟩ : ∃ x, xs[k]? = some x := get_of_lt (by omega)
      refine DSemK.index (by kernel_rfl) (h.ext hE9) k rfl hx11 ?_
      intro b12 o12 _ hb12
      conv => whnf
      refine DSemK.load0 (by kernel_rfl) hb12 rfl ?_
      conv => whnf
      obtain ⟨x13, hx13⟩ : ∃ x, ys[k]? = some x := get_of_lt (by omega)
      refine DSemK.index (by kernel_rfl) (h'.ext hE9) k rfl hx13 ?_
      intro b14 o14 _ hb14
      conv => whnf
      refine DSemK.load0 (by kernel_rfl) hb14 rfl ?_
      conv => whnf
      intro w15 e15
      conv => whnf
      with_reducible refine IfB.ndec (fun h16 => ?_) (fun h16 => ?_)
      · conv => whnf
        refine ⟨?_, (Ext.trans hE9 e15)⟩
        · exact congrArg Value.bool (decide_eq_false (fun e => by subst e; rw [hx11] at hx13; cases hx13; simp at h16)).symm
      · conv => whnf
        refine SemK.add (((k + 1 : Nat) : Int)) (by omega) (by omega) (by omega) ?_
        conv => whnf
        exact ⟨k + 1, by omega, rfl, by omega, by simp [List.take_add_one, *], (Ext.trans hE9 e15)⟩
    · conv => whnf
      have kn17 : k = n := by omega
      have tk18 : List.take k xs = xs := List.take_of_length_le (by omega)
      refine ⟨?_, hE9⟩
      · exact congrArg Value.bool (decide_eq_true (by rw [← List.take_of_length_le (show xs.length ≤ k by omega), hall, List.take_of_length_le (by omega)])).symm
theorem lib_EqualInt {w : World} {a a' : Option Addr} {n n' c c' : Nat} {xs ys : List Int} (h : Arr eI 1 w a n xs) (h' : Arr eI 1 w a' n' ys) :
    Does Tryz.prog 97 [.slice a n c, .slice a' n' c'] w (fun v w' => v = .bool (decide (xs = ys)) ∧ Ext w w') := by
  have hn := h.len
  have hn' := h'.len
  have hm := h.le
  refine Does.of_vc tabok Tryz.func97 rfl rfl rfl (by kernel_rfl) ?_; conv => whnf
  with_reducible refine IfB.ndec (fun h1 => ?_) (fun h1 => ?_)
  · conv => whnf
    exact ⟨by rw [decide_eq_false (fun e => by subst e; omega)], Ext.refl _⟩
  · conv => whnf
    refine LoopK.rule [0, 1, 12, 13] (fun (k : Nat) vs w' => vs = [.slice a n c, .slice a' n' c', .int .i64 n, .int .i64 k] ∧ k ≤ n ∧ xs.take k = ys.take k ∧ Ext w w') (fun k => n - k) tab tabok (by kernel_rfl) 0 ⟨rfl, by omega, by simp, Ext.refl _⟩ ?_
    rintro k g _ w' ⟨rfl, hk, hall, hE9⟩
    conv => whnf
    with_reducible refine IfB.dec (fun h10 => ?_) (fun h10 => ?_)
    · conv => whnf
      refine DrawK.det tabok mixed (by kernel_rfl) (by kernel_rfl) ?_
      conv => whnf
      obtain ⟨x11, hx11⟩ : ∃ x, xs[k]? = some x := get_of_lt (by omega)
      refine DSemK.index (by kernel_rfl) (h.ext hE9) k rfl hx11 ?_
      intro b12 o12 _ hb12
      conv => whnf
      refine DSemK.load0 (by kernel_rfl) hb12 rfl ?_
      conv => whnf
      obtain ⟨x13, hx13⟩ : ∃ x, ys[k]? = some x := get_of_lt (by omega)
      refine DSemK.index (by kernel_rfl) (h'.ext hE9) k rfl hx13 ?_
      intro b14 o14 _ hb14
      conv => whnf
      refine DSemK.load0 (by kernel_rfl) hb14 rfl ?_
      conv => whnf
      intro w15 e15
      conv => whnf
      with_reducible refine IfB.ndec (fun h16 => ?_) (fun h16 => ?_)
      · conv => whnf
        refine ⟨?_, (Ext.trans hE9 e15)⟩
        · exact congrArg Value.bool (decide_eq_false (fun e => by subst e; rw [hx11] at hx13; cases hx13; simp at h16)).symm
      · conv => whnf
        refine SemK.add (((k + 1 : Nat) : Int)) (by omega) (by omega) (by omega) ?_
        conv => whnf
        exact ⟨k + 1, by omega, rfl, by omega, by simp [List.take_add_one, *], (Ext.trans hE9 e15)⟩
    · conv => whnf
      have kn17 : k = n := by omega
      have tk18 : List.take k xs = xs := List.take_of_length_le (by omega)
      refine ⟨?_, hE9⟩
      · exact congrArg Value.bool (decide_eq_true (by rw [← List.take_of_length_le (show xs.length ≤ k by omega), hall, List.take_of_length_le (by omega)])).symm
theorem impl_SameCard {w : World} {d d' : Hd} {xs ys : List Int} (A : Arr eI 1 w d.a d.n xs) (A' : Arr eI 1 w d'.a d'.n ys) :
    Does Tryz.prog 59 [.agg ⟨eH d⟩, .agg ⟨eH d'⟩] w (fun v w' => v = .bool (decide (xs = ys)) ∧ Ext w w') := by
  refine Does.of_vc tabok Tryz.func59 rfl rfl rfl (by kernel_rfl) ?_; conv => whnf
  refine SemK.box ?_
  intro b1 w1 g1 l1 e1 B1
  conv => whnf
  refine SemK.box ?_
  intro b2 w2 g2 l2 e2 B2
  conv => whnf
  refine SemK.load1 (by kernel_rfl) (B1.ext e2).cells (k := 0) rfl ?_
  conv => whnf
  refine SemK.load1 (by kernel_rfl) B2.cells (k := 0) rfl ?_
  conv => whnf
  refine (lib_EqualInt (A.ext (Ext.trans e1 e2)) (A'.ext (Ext.trans e1 e2))).mono ?_
  rintro _ w4 ⟨rfl, e3⟩
  conv => whnf
  exact ⟨rfl, (Ext.trans (Ext.trans e1 e2) e3)⟩
theorem impl_columnsWhere {w : World} {n g : Nat} (hn : n ≤ 1000000) {p : Nat → Bool} {cap : List Value}
    (hg : ∀ k, k < n → ∀ w', Ext w w' → Does Tryz.prog g (.int .i64 (k : Int) :: cap) w' (fun v w'' => v = .bool (p k) ∧ Ext w' w'')) :
    Does Tryz.prog 54 [.int .i64 (n : Int), .func (.func g) ⟨[]⟩ ⟨cap⟩] w (fun v w' => ∃ a' n' c', v = .slice a' n' c' ∧ Grow eI 1 w.heap.size 2 w' a' n' c' (whereM p n) ∧ Ext w w') := by
  refine Does.of_vc tabok Tryz.func54 rfl rfl rfl (by kernel_rfl) ?_; conv => whnf
  refine SemK.buildSlice mk_27 (vs := []) (by rfl) (by rfl) (by simp [Value.cells]) (by decide) ?_
  intro b1 w1 g1 l1 e1 B1
  have G1 := Grow.new0 (enc := eI) eI_len B1 g1
  conv => whnf
  refine LoopK.rule [1, 5, 8, 9] (fun (k : Nat) vs w' => ∃ a' c' m, vs = [.func (.func g) ⟨[]⟩ ⟨cap⟩, .slice a' m c', .int .i64 (n : Int), .int .i64 k] ∧ k ≤ n ∧ m ≤ k ∧ Grow eI 1 w.heap.size 2 w' a' m c' (whereM p k) ∧ Ext w w') (fun k => n - k) tab tabok (by kernel_rfl) 0
    ⟨_, _, _, rfl, by omega, by omega, G1, e1⟩ ?_
  rintro k g' _ w' ⟨a', c', m, rfl, hk, hm, hG, hE⟩
  conv => whnf
  with_reducible refine IfB.dec (fun h2 => ?_) (fun h2 => ?_)
  · conv => whnf
    refine (hg _ (by omega) _ hE).mono ?_
    rintro _ w4 ⟨rfl, e3⟩
    conv => whnf
    with_reducible refine IfB.split (fun h5 => ?_) (fun h5 => ?_)
    · conv => whnf
      refine SemK.buildSlice mk_27 (vs := [Value.int IntKind.i64 ↑k]) (by rfl) (by rfl) (by simp [Value.cells]) (by decide) ?_
      intro b6 w6 g6 l6 e6 B6
      have G6 := Grow.of_blk (n := 1) (enc := eI) (xs := [↑k]) eI_len B6 g6 rfl (by decide)
      conv => whnf
      refine SemK.appendArr0 (enc := eI) mk_27 eI_len (hG.ext (Ext.trans e3 e6)) (G6.own.arr eI_len) (by intro y _; simp [eI, cellish]) (by omega) (by omega) (Below.size (Ext.trans (Ext.trans hE e3) e6)) ?_
      intro a7 c7 w7 G7 m7 i7
      conv => whnf
      refine SemK.add (((k + 1 : Nat) : Int)) (by omega) (by omega) (by omega) ?_
      conv => whnf
      exact ⟨k + 1, by omega, _, _, _, rfl, by omega, by omega, by simpa [List.take_add_one, *, whereM_succ] using G7, (Ext.mod_trans (Ext.trans (Ext.trans hE e3) e6) m7 (blkIn_new hG.new))⟩
    · conv => whnf
      refine SemK.add (((k + 1 : Nat) : Int)) (by omega) (by omega) (by omega) ?_
      conv => whnf
      exact ⟨k + 1, by omega, _, _, _, rfl, by omega, by omega, by simpa [List.take_add_one, *, whereM_succ] using (hG.ext e3), (Ext.trans hE e3)⟩
  · conv => whnf
    have kn8 : k = n := by omega
    exact ⟨_, _, _, rfl, by simpa [List.take_add_one, *, whereM_succ] using hG, hE⟩
end Go.Proofs.YtfgbijddjoojbaaGreat
