/- Contracts of functions of the given program, of the reference and of the laws: each says what a call returns, for all arguments that meet the premises that the theorem itself names. -/
import Derived.Test.YtdmkbgelcnkdgaaDeskTo
namespace Go.Proofs.Ytdmkbgelcnkdgaa
open Go Go.RowKit Go.Vc Go.M
theorem spec_l00Same {w : World} {a a' : Option Addr} {n n' c c' : Nat} {xs ys : List Int} (h : Arr eI 1 w a n xs) (h' : Arr eI 1 w a' n' ys) :
    Does Try.prog 160 [.slice a n c, .slice a' n' c'] w (fun v w' => v = .bool (decide (xs = ys)) ∧ Ext w w') := by
  have hn := h.len
  have hn' := h'.len
  have hm := h.le
  refine Does.of_vc tabok Try.func160 rfl rfl rfl (by kernel_rfl) ?_; conv => whnf
  with_reducible refine IfB.ndec (fun h1 => ?_) (fun h1 => ?_)
  · conv => whnf
    exact ⟨by rw [decide_eq_false (fun e => by subst e; omega)], Ext.refl _⟩
  · conv => whnf
    refine LoopK.rule [0, 1, 5] (fun (k : Nat) vs w' => vs = [.slice a n c, .slice a' n' c', .int .i64 k] ∧ k ≤ n ∧ xs.take k = ys.take k ∧ Ext w w') (fun k => n - k) tab tabok (by kernel_rfl) 0 ⟨rfl, by omega, by simp, Ext.refl _⟩ ?_
    rintro k g _ w' ⟨rfl, hk, hall, hE9⟩
    conv => whnf
    with_reducible refine IfB.dec (fun h10 => ?_) (fun h10 => ?_)
    · conv => whnf
      refine DrawK.det tabok mixed (by kernel_rfl) (by kernel_rfl) ?_
      conv => whnf
      obtain ⟨x11, hx11⟩ : ∃ x, xs[k]? = some x := get_of_lt (by omega)
      refine DSemK.index (by kernel_rfl) (h.ext hE9) k rfl hx11 ?_
      intro b12 o12 _ hb12
      conv => whnf
      refine DSemK.load0 (by kernel_rfl) hb12 rfl ?_
      conv => whnf
      obtain ⟨x13, hx13⟩ : ∃ x, ys[k]? = some x := get_of_lt (by omega)
      refine DSemK.index (by kernel_rfl) (h'.ext hE9) k rfl hx13 ?_
      intro b14 o14 _ hb14
      conv => whnf
      refine DSemK.load0 (by kernel_rfl) hb14 rfl ?_
      conv => whnf
      intro w15 e15
      conv => whnf
      with_reducible refine IfB.ndec (fun h16 => ?_) (fun h16 => ?_)
      · conv => whnf
        refine ⟨?_, (Ext.trans hE9 e15)⟩
        · exact congrArg Value.bool (decide_eq_false (fun e => by subst e; rw [hx11] at hx13; cases hx13; simp at h16)).symm
      · conv => whnf
        refine SemK.add (((k + 1 : Nat) : Int)) (by omega) (by omega) (by omega) ?_
        conv => whnf
        exact ⟨k + 1, by omega, rfl, by omega, by simp [List.take_add_one, *], (Ext.trans hE9 e15)⟩
    · conv => whnf
      have kn17 : k = n := by omega
      have tk18 : List.take k xs = xs := List.take_of_length_le (by omega)
      refine ⟨?_, hE9⟩
      · exact congrArg Value.bool (decide_eq_true (by rw [← List.take_of_length_le (show xs.length ≤ k by omega), hall, List.take_of_length_le (by omega)])).symm
theorem spec_SameDeck {w : World} {a a' : Option Addr} {n n' c c' : Nat} {xs ys : List (List Int)} (h : ArrS RCard w a n xs) (h' : ArrS RCard w a' n' ys) :
    Does Try.prog 112 [.slice a n c, .slice a' n' c'] w (fun v w' => v = .bool (decide (xs = ys)) ∧ Ext w w') := by
  have hn := h.len
  have hn' := h'.len
  have hm := h.le
  obtain ⟨hs, hV, hE⟩ := h
  obtain ⟨hs', hV', hE'⟩ := h'
  have hl := hV.len
  have hl' := hV'.len
  refine Does.of_vc tabok Try.func112 rfl rfl rfl (by kernel_rfl) ?_; conv => whnf
  with_reducible refine IfB.ndec (fun h1 => ?_) (fun h1 => ?_)
  · conv => whnf
    exact ⟨by rw [decide_eq_false (fun e => by subst e; omega)], Ext.refl _⟩
  · conv => whnf
    refine LoopK.rule [0, 1, 5] (fun (k : Nat) vs w' => vs = [.slice a n c, .slice a' n' c', .int .i64 k] ∧ k ≤ n ∧ xs.take k = ys.take k ∧ Ext w w') (fun k => n - k) tab tabok (by kernel_rfl) 0 ⟨rfl, by omega, by simp, Ext.refl _⟩ ?_
    rintro k g _ w' ⟨rfl, hk, hall, hE9⟩
    conv => whnf
    with_reducible refine IfB.dec (fun h10 => ?_) (fun h10 => ?_)
    · conv => whnf
      refine DrawK.held tabok mixed [(0, false), (1, false), (2, false), (3, false), (4, false), (5, false), (6, true), (7, true), (8, true), (9, true), (10, true), (11, true)] (by kernel_rfl) (by kernel_rfl) ?_
      conv => whnf
      intro w11 e11
      conv => whnf
      obtain ⟨x12, hx12⟩ : ∃ x, hs[k]? = some x := get_of_lt (by omega)
      obtain ⟨y12, hy12, R12⟩ := hE.get hx12
      have A12 := R12.1
      have n12 := R12.2
      refine DSemK.index (by kernel_rfl) (hV.ext hE9) k rfl hx12 ?_
      intro b13 o13 _ hb13
      conv => whnf
      refine DSemK.load1 (by kernel_rfl) hb13 (k := 0) rfl ?_
      conv => whnf
      obtain ⟨x14, hx14⟩ : ∃ x, hs'[k]? = some x := get_of_lt (by omega)
      obtain ⟨y14, hy14, R14⟩ := hE'.get hx14
      have A14 := R14.1
      have n14 := R14.2
      refine SemK.index (by kernel_rfl) (hV'.ext (Ext.trans hE9 e11)) k rfl hx14 ?_
      intro b15 o15 _ hb15
      conv => whnf
      refine ⟨e11, ?_⟩
      conv => whnf
      refine SemK.load1 (by kernel_rfl) hb15 (k := 0) rfl ?_
      conv => whnf
      refine ⟨e11, ?_⟩
      conv => whnf
      refine (spec_l00Same (A12.ext (Ext.trans hE9 e11)) (A14.ext (Ext.trans hE9 e11))).mono ?_
      rintro _ w17 ⟨rfl, e16⟩
      conv => whnf
      refine ⟨(Ext.trans e11 e16), ?_⟩
      conv => whnf
      with_reducible refine IfB.ndec (fun h18 => ?_) (fun h18 => ?_)
      · conv => whnf
        refine ⟨?_, (Ext.trans (Ext.trans hE9 e11) e16)⟩
        · exact congrArg Value.bool (decide_eq_false (fun e => by subst e; rw [hy12] at hy14; cases hy14; simp at h18)).symm
      · conv => whnf
        refine SemK.add (((k + 1 : Nat) : Int)) (by omega) (by omega) (by omega) ?_
        conv => whnf
        exact ⟨k + 1, by omega, rfl, by omega, by simp [List.take_add_one, *], (Ext.trans (Ext.trans hE9 e11) e16)⟩
    · conv => whnf
      have kn19 : k = n := by omega
      have tk20 : List.take k xs = xs := List.take_of_length_le (by omega)
      have tk21 : List.take k hs = hs := List.take_of_length_le (by omega)
      refine ⟨?_, hE9⟩
      · exact congrArg Value.bool (decide_eq_true (by rw [← List.take_of_length_le (show xs.length ≤ k by omega), hall, List.take_of_length_le (by omega)])).symm
theorem spec_l15Totals {w : World} {a a' : Option Addr} {n n' c c' : Nat} {xs ys : List TTotal} (h : Arr TTotal.enc 2 w a n xs) (h' : Arr TTotal.enc 2 w a' n' ys) (hok : ∀ x ∈ xs, x.ok) (hok' : ∀ x ∈ ys, x.ok) :
    Does Try.prog 113 [.slice a n c, .slice a' n' c'] w (fun v w' => v = .bool (decide (xs = ys)) ∧ Ext w w') := by
  have hn := h.len
  have hn' := h'.len
  have hm := h.le
  refine Does.of_vc tabok Try.func113 rfl rfl rfl (by kernel_rfl) ?_; conv => whnf
  with_reducible refine IfB.ndec (fun h1 => ?_) (fun h1 => ?_)
  · conv => whnf
    exact ⟨by rw [decide_eq_false (fun e => by subst e; omega)], Ext.refl _⟩
  · conv => whnf
    refine LoopK.rule [0, 1, 5] (fun (k : Nat) vs w' => vs = [.slice a n c, .slice a' n' c', .int .i64 k] ∧ k ≤ n ∧ xs.take k = ys.take k ∧ Ext w w') (fun k => n - k) tab tabok (by kernel_rfl) 0 ⟨rfl, by omega, by simp, Ext.refl _⟩ ?_
    rintro k g _ w' ⟨rfl, hk, hall, hE9⟩
    conv => whnf
    with_reducible refine IfB.dec (fun h10 => ?_) (fun h10 => ?_)
    · conv => whnf
      refine DrawK.det tabok mixed (by kernel_rfl) (by kernel_rfl) ?_
      conv => whnf
      obtain ⟨x11, hx11⟩ : ∃ x, xs[k]? = some x := get_of_lt (by omega)
      have ok11 := hok _ (List.mem_of_getElem? hx11)
      refine DSemK.index (by kernel_rfl) (h.ext hE9) k rfl hx11 ?_
      intro b12 o12 _ hb12
      conv => whnf
      refine DSemK.loadAgg (n := 2) (by kernel_rfl) hb12 rfl ?_
      conv => whnf
      obtain ⟨x13, hx13⟩ : ∃ x, ys[k]? = some x := get_of_lt (by omega)
      have ok13 := hok' _ (List.mem_of_getElem? hx13)
      refine DSemK.index (by kernel_rfl) (h'.ext hE9) k rfl hx13 ?_
      intro b14 o14 _ hb14
      conv => whnf
      refine DSemK.loadAgg (n := 2) (by kernel_rfl) hb14 rfl ?_
      conv => whnf
      refine DSemK.neqFlat (ks := [true, false]) (by kernel_rfl) (by kernel_rfl) (TTotal.flat ok11) (TTotal.flat ok13) ?_
      rw [TTotal.eq_flat]
      conv => whnf
      intro w2 e2
      conv => whnf
      with_reducible refine IfB.ndec (fun h5 => ?_) (fun h5 => ?_)
      · conv => whnf
        exact ⟨by rw [decide_eq_false (ne_of_get hx11 hx13 h5)], Ext.trans hE9 e2⟩
      · conv => whnf
        refine SemK.add (((k + 1 : Nat) : Int)) (by omega) (by omega) (by omega) ?_
        conv => whnf
        exact ⟨k + 1, by omega, rfl, by omega, take_eq_snoc hall hx11 hx13 h5, Ext.trans hE9 e2⟩
    · conv => whnf
      have kn15 : k = n := by omega
      have tk16 : List.take k xs = xs := List.take_of_length_le (by omega)
      refine ⟨?_, hE9⟩
      · exact congrArg Value.bool (decide_eq_true (by rw [← List.take_of_length_le (show xs.length ≤ k by omega), hall, List.take_of_length_le (by omega)])).symm
theorem lib_EqualInt {w : World} {a a' : Option Addr} {n n' c c' : Nat} {xs ys : List Int} (h : Arr eI 1 w a n xs) (h' : Arr eI 1 w a' n' ys) :
    Does Try.prog 209 [.slice a n c, .slice a' n' c'] w (fun v w' => v = .bool (decide (xs = ys)) ∧ Ext w w') := by
  have hn := h.len
  have hn' := h'.len
  have hm := h.le
  refine Does.of_vc tabok Try.func209 rfl rfl rfl (by kernel_rfl) ?_; conv => whnf
  with_reducible refine IfB.ndec (fun h1 => ?_) (fun h1 => ?_)
  · conv => whnf
    exact ⟨by rw [decide_eq_false (fun e => by subst e; omega)], Ext.refl _⟩
  · conv => whnf
    refine LoopK.rule [0, 1, 12, 13] (fun (k : Nat) vs w' => vs = [.slice a n c, .slice a' n' c', .int .i64 n, .int .i64 k] ∧ k ≤ n ∧ xs.take k = ys.take k ∧ Ext w w') (fun k => n - k) tab tabok (by kernel_rfl) 0 ⟨rfl, by omega, by simp, Ext.refl _⟩ ?_
    rintro k g _ w' ⟨rfl, hk, hall, hE9⟩
    conv => whnf
    with_reducible refine IfB.dec (fun h10 => ?_) (fun h10 => ?_)
    · conv => whnf
      refine DrawK.det tabok mixed (by kernel_rfl) (by kernel_rfl) ?_
      conv => whnf
      obtain ⟨x11, hx11⟩ : ∃ x, xs[k]? = some x := get_of_lt (by omega)
      refine DSemK.index (by kernel_rfl) (h.ext hE9) k rfl hx11 ?_
      intro b12 o12 _ hb12
      conv => whnf
      refine DSemK.load0 (by kernel_rfl) hb12 rfl ?_
      conv => whnf
      obtain ⟨x13, hx13⟩ : ∃ x, ys[k]? = some x := get_of_lt (by omega)
      refine DSemK.index (by kernel_rfl) (h'.ext hE9) k rfl hx13 ?_
      intro b14 o14 _ hb14
      conv => whnf
      refine DSemK.load0 (by kernel_rfl) hb14 rfl ?_
      conv => whnf
      intro w15 e15
      conv => whnf
      with_reducible refine IfB.ndec (fun h16 => ?_) (fun h16 => ?_)
      · conv => whnf
        refine ⟨?_, (Ext.trans hE9 e15)⟩
        · exact congrArg Value.bool (decide_eq_false (fun e => by subst e; rw [hx11] at hx13; cases hx13; simp at h16)).symm
      · conv => whnf
        refine SemK.add (((k + 1 : Nat) : Int)) (by omega) (by omega) (by omega) ?_
        conv => whnf
        exact ⟨k + 1, by omega, rfl, by omega, by simp [List.take_add_one, *], (Ext.trans hE9 e15)⟩
    · conv => whnf
      have kn17 : k = n := by omega
      have tk18 : List.take k xs = xs := List.take_of_length_le (by omega)
      refine ⟨?_, hE9⟩
      · exact congrArg Value.bool (decide_eq_true (by rw [← List.take_of_length_le (show xs.length ≤ k by omega), hall, List.take_of_length_le (by omega)])).symm
theorem lib_EqualTotal {w : World} {a a' : Option Addr} {n n' c c' : Nat} {xs ys : List TTotal} (h : Arr TTotal.enc 2 w a n xs) (h' : Arr TTotal.enc 2 w a' n' ys) (hok : ∀ x ∈ xs, x.ok) (hok' : ∀ x ∈ ys, x.ok) :
    Does Try.prog 119 [.slice a n c, .slice a' n' c'] w (fun v w' => v = .bool (decide (xs = ys)) ∧ Ext w w') := by
  have hn := h.len
  have hn' := h'.len
  have hm := h.le
  refine Does.of_vc tabok Try.func119 rfl rfl rfl (by kernel_rfl) ?_; conv => whnf
  with_reducible refine IfB.ndec (fun h1 => ?_) (fun h1 => ?_)
  · conv => whnf
    exact ⟨by rw [decide_eq_false (fun e => by subst e; omega)], Ext.refl _⟩
  · conv => whnf
    refine LoopK.rule [0, 1, 12, 13] (fun (k : Nat) vs w' => vs = [.slice a n c, .slice a' n' c', .int .i64 n, .int .i64 k] ∧ k ≤ n ∧ xs.take k = ys.take k ∧ Ext w w') (fun k => n - k) tab tabok (by kernel_rfl) 0 ⟨rfl, by omega, by simp, Ext.refl _⟩ ?_
    rintro k g _ w' ⟨rfl, hk, hall, hE9⟩
    conv => whnf
    with_reducible refine IfB.dec (fun h10 => ?_) (fun h10 => ?_)
    · conv => whnf
      refine DrawK.det tabok mixed (by kernel_rfl) (by kernel_rfl) ?_
      conv => whnf
      obtain ⟨x11, hx11⟩ : ∃ x, xs[k]? = some x := get_of_lt (by omega)
      have ok11 := hok _ (List.mem_of_getElem? hx11)
      refine DSemK.index (by kernel_rfl) (h.ext hE9) k rfl hx11 ?_
      intro b12 o12 _ hb12
      conv => whnf
      refine DSemK.loadAgg (n := 2) (by kernel_rfl) hb12 rfl ?_
      conv => whnf
      obtain ⟨x13, hx13⟩ : ∃ x, ys[k]? = some x := get_of_lt (by omega)
      have ok13 := hok' _ (List.mem_of_getElem? hx13)
      refine DSemK.index (by kernel_rfl) (h'.ext hE9) k rfl hx13 ?_
      intro b14 o14 _ hb14
      conv => whnf
      refine DSemK.loadAgg (n := 2) (by kernel_rfl) hb14 rfl ?_
      conv => whnf
      refine DSemK.neqFlat (ks := [true, false]) (by kernel_rfl) (by kernel_rfl) (TTotal.flat ok11) (TTotal.flat ok13) ?_
      rw [TTotal.eq_flat]
      conv => whnf
      intro w2 e2
      conv => whnf
      with_reducible refine IfB.ndec (fun h5 => ?_) (fun h5 => ?_)
      · conv => whnf
        exact ⟨by rw [decide_eq_false (ne_of_get hx11 hx13 h5)], Ext.trans hE9 e2⟩
      · conv => whnf
        refine SemK.add (((k + 1 : Nat) : Int)) (by omega) (by omega) (by omega) ?_
        conv => whnf
        exact ⟨k + 1, by omega, rfl, by omega, take_eq_snoc hall hx11 hx13 h5, Ext.trans hE9 e2⟩
    · conv => whnf
      have kn15 : k = n := by omega
      have tk16 : List.take k xs = xs := List.take_of_length_le (by omega)
      refine ⟨?_, hE9⟩
      · exact congrArg Value.bool (decide_eq_true (by rw [← List.take_of_length_le (show xs.length ≤ k by omega), hall, List.take_of_length_le (by omega)])).symm
theorem impl_SameCard {w : World} {d d' : Hd} {xs ys : List Int} (A : Arr eI 1 w d.a d.n xs) (A' : Arr eI 1 w d'.a d'.n ys) :
    Does Try.prog 163 [.agg ⟨eH d⟩, .agg ⟨eH d'⟩] w (fun v w' => v = .bool (decide (xs = ys)) ∧ Ext w w') := by
  refine Does.of_vc tabok Try.func163 rfl rfl rfl (by kernel_rfl) ?_; conv => whnf
  refine SemK.box ?_
  intro b1 w1 g1 l1 e1 B1
  conv => whnf
  refine SemK.box ?_
  intro b2 w2 g2 l2 e2 B2
  conv => whnf
  refine SemK.load1 (by kernel_rfl) (B1.ext e2).cells (k := 0) rfl ?_
  conv => whnf
  refine SemK.load1 (by kernel_rfl) B2.cells (k := 0) rfl ?_
  conv => whnf
  refine (lib_EqualInt (A.ext (Ext.trans e1 e2)) (A'.ext (Ext.trans e1 e2))).mono ?_
  rintro _ w4 ⟨rfl, e3⟩
  conv => whnf
  exact ⟨rfl, (Ext.trans (Ext.trans e1 e2) e3)⟩
theorem lib_EqualFuncCard {w : World} {a a' : Option Addr} {n n' c c' : Nat} {xs ys : List (List Int)} (h : ArrS RCard w a n xs) (h' : ArrS RCard w a' n' ys) :
    Does Try.prog 162 [.slice a n c, .slice a' n' c', .func (.func 163) ⟨[]⟩ ⟨[]⟩] w (fun v w' => v = .bool (decide (xs = ys)) ∧ Ext w w') := by
  have hn := h.len
  have hn' := h'.len
  have hm := h.le
  obtain ⟨hs, hV, hE⟩ := h
  obtain ⟨hs', hV', hE'⟩ := h'
  have hl := hV.len
  have hl' := hV'.len
  refine Does.of_vc tabok Try.func162 rfl rfl rfl (by kernel_rfl) ?_; conv => whnf
  with_reducible refine IfB.ndec (fun h1 => ?_) (fun h1 => ?_)
  · conv => whnf
    exact ⟨by rw [decide_eq_false (fun e => by subst e; omega)], Ext.refl _⟩
  · conv => whnf
    refine LoopK.rule [1, 2, 15, 16, 17] (fun (k : Nat) vs w' => vs = [.slice a' n' c', .func (.func 163) ⟨[]⟩ ⟨[]⟩, .slice a n c, .int .i64 n, .int .i64 k] ∧ k ≤ n ∧ xs.take k = ys.take k ∧ Ext w w') (fun k => n - k) tab tabok (by kernel_rfl) 0 ⟨rfl, by omega, by simp, Ext.refl _⟩ ?_
    rintro k g _ w' ⟨rfl, hk, hall, hE9⟩
    conv => whnf
    with_reducible refine IfB.dec (fun h10 => ?_) (fun h10 => ?_)
    · conv => whnf
      obtain ⟨x11, hx11⟩ : ∃ x, hs[k]? = some x := get_of_lt (by omega)
      obtain ⟨y11, hy11, R11⟩ := hE.get hx11
      have A11 := R11.1
      have n11 := R11.2
      refine SemK.index (by kernel_rfl) (hV.ext hE9) k rfl hx11 ?_
      intro b12 o12 _ hb12
      conv => whnf
      refine SemK.loadAgg (n := 1) (by kernel_rfl) hb12 rfl ?_
      conv => whnf
      refine SemK.alloc (z := .agg #[.slice none 0 0]) (by kernel_rfl) ?_
      intro b13 w13 g13 l13 e13 B13
      conv => whnf
      refine SemK.storeAll (vs := [Value.slice x11.a x11.n x11.c]) (by kernel_rfl) B13 rfl rfl (by simp [cellish]) ?_
      intro w14 c14 B14
      conv => whnf
      obtain ⟨x15, hx15⟩ : ∃ x, hs'[k]? = some x := get_of_lt (by omega)
      obtain ⟨y15, hy15, R15⟩ := hE'.get hx15
      have A15 := R15.1
      have n15 := R15.2
      refine SemK.index (by kernel_rfl) (hV'.ext (Ext.but_trans (Ext.trans hE9 e13) c14.but (Nat.le_trans (Below.size hE9) g13))) k rfl hx15 ?_
      intro b16 o16 _ hb16
      conv => whnf
      refine SemK.loadAgg (n := 1) (by kernel_rfl) hb16 rfl ?_
      conv => whnf
      refine SemK.alloc (z := .agg #[.slice none 0 0]) (by kernel_rfl) ?_
      intro b17 w17 g17 l17 e17 B17
      conv => whnf
      refine SemK.storeAll (vs := [Value.slice x15.a x15.n x15.c]) (by kernel_rfl) B17 rfl rfl (by simp [cellish]) ?_
      intro w18 c18 B18
      conv => whnf
      refine SemK.loadAgg (n := 1) (by kernel_rfl) (B14.ext (Ext.but_trans e17 c18.but g17)).cells rfl ?_
      conv => whnf
      refine SemK.loadAgg (n := 1) (by kernel_rfl) B18.cells rfl ?_
      conv => whnf
      refine (impl_SameCard (A11.ext (Ext.but_trans (Ext.trans (Ext.but_trans (Ext.trans hE9 e13) c14.but (Nat.le_trans (Below.size hE9) g13)) e17) c18.but (Nat.le_trans (Below.size (Ext.but_trans (Ext.trans hE9 e13) c14.but (Nat.le_trans (Below.size hE9) g13))) g17))) (A15.ext (Ext.but_trans (Ext.trans (Ext.but_trans (Ext.trans hE9 e13) c14.but (Nat.le_trans (Below.size hE9) g13)) e17) c18.but (Nat.le_trans (Below.size (Ext.but_trans (Ext.trans hE9 e13) c14.but (Nat.le_trans (Below.size hE9) g13))) g17)))).mono ?_
      rintro _ w20 ⟨rfl, e19⟩
      conv => whnf
      with_reducible refine IfB.ndec (fun h21 => ?_) (fun h21 => ?_)
      · conv => whnf
        refine ⟨?_, (Ext.trans (Ext.but_trans (Ext.trans (Ext.but_trans (Ext.trans hE9 e13) c14.but (Nat.le_trans (Below.size hE9) g13)) e17) c18.but (Nat.le_trans (Below.size (Ext.but_trans (Ext.trans hE9 e13) c14.but (Nat.le_trans (Below.size hE9) g13))) g17)) e19)⟩
        · exact congrArg Value.bool (decide_eq_false (fun e => by subst e; rw [hy11] at hy15; cases hy15; simp at h21)).symm
      · conv => whnf
        refine SemK.add (((k + 1 : Nat) : Int)) (by omega) (by omega) (by omega) ?_
        conv => whnf
        exact ⟨k + 1, by omega, rfl, by omega, by simp [List.take_add_one, *], (Ext.trans (Ext.but_trans (Ext.trans (Ext.but_trans (Ext.trans hE9 e13) c14.but (Nat.le_trans (Below.size hE9) g13)) e17) c18.but (Nat.le_trans (Below.size (Ext.but_trans (Ext.trans hE9 e13) c14.but (Nat.le_trans (Below.size hE9) g13))) g17)) e19)⟩
    · conv => whnf
      have kn22 : k = n := by omega
      have tk23 : List.take k xs = xs := List.take_of_length_le (by omega)
      have tk24 : List.take k hs = hs := List.take_of_length_le (by omega)
      refine ⟨?_, hE9⟩
      · exact congrArg Value.bool (decide_eq_true (by rw [← List.take_of_length_le (show xs.length ≤ k by omega), hall, List.take_of_length_le (by omega)])).symm
theorem impl_SameDeck {w : World} {a a' : Option Addr} {n n' c c' : Nat} {xs ys : List (List Int)} (h : ArrS RCard w a n xs) (h' : ArrS RCard w a' n' ys) :
    Does Try.prog 117 [.slice a n c, .slice a' n' c'] w (fun v w' => v = .bool (decide (xs = ys)) ∧ Ext w w') := by
  refine Does.of_vc tabok Try.func117 rfl rfl rfl (by kernel_rfl) ?_; conv => whnf
  refine (lib_EqualFuncCard h h').mono ?_
  rintro _ w2 ⟨rfl, e1⟩
  conv => whnf
  exact ⟨rfl, e1⟩
theorem lib_EqualFuncDeck {w : World} {a a' : Option Addr} {n n' c c' : Nat} {xs ys : List (List (List Int))} (h : ArrS RDeck w a n xs) (h' : ArrS RDeck w a' n' ys) :
    Does Try.prog 116 [.slice a n c, .slice a' n' c', .func (.func 117) ⟨[]⟩ ⟨[]⟩] w (fun v w' => v = .bool (decide (xs = ys)) ∧ Ext w w') := by
  have hn := h.len
  have hn' := h'.len
  have hm := h.le
  obtain ⟨hs, hV, hE⟩ := h
  obtain ⟨hs', hV', hE'⟩ := h'
  have hl := hV.len
  have hl' := hV'.len
  refine Does.of_vc tabok Try.func116 rfl rfl rfl (by kernel_rfl) ?_; conv => whnf
  with_reducible refine IfB.ndec (fun h1 => ?_) (fun h1 => ?_)
  · conv => whnf
    exact ⟨by rw [decide_eq_false (fun e => by subst e; omega)], Ext.refl _⟩
  · conv => whnf
    refine LoopK.rule [1, 2, 15, 16, 17] (fun (k : Nat) vs w' => vs = [.slice a' n' c', .func (.func 117) ⟨[]⟩ ⟨[]⟩, .slice a n c, .int .i64 n, .int .i64 k] ∧ k ≤ n ∧ xs.take k = ys.take k ∧ Ext w w') (fun k => n - k) tab tabok (by kernel_rfl) 0 ⟨rfl, by omega, by simp, Ext.refl _⟩ ?_
    rintro k g _ w' ⟨rfl, hk, hall, hE9⟩
    conv => whnf
    with_reducible refine IfB.dec (fun h10 => ?_) (fun h10 => ?_)
    · conv => whnf
      obtain ⟨x11, hx11⟩ : ∃ x, hs[k]? = some x := get_of_lt (by omega)
      obtain ⟨y11, hy11, R11⟩ := hE.get hx11
      have A11 := R11.1
      have n11 := R11.2
      refine SemK.index (by kernel_rfl) (hV.ext hE9) k rfl hx11 ?_
      intro b12 o12 _ hb12
      conv => whnf
      refine SemK.load0 (by kernel_rfl) hb12 rfl ?_
      conv => whnf
      obtain ⟨x13, hx13⟩ : ∃ x, hs'[k]? = some x := get_of_lt (by omega)
      obtain ⟨y13, hy13, R13⟩ := hE'.get hx13
      have A13 := R13.1
      have n13 := R13.2
      refine SemK.index (by kernel_rfl) (hV'.ext hE9) k rfl hx13 ?_
      intro b14 o14 _ hb14
      conv => whnf
      refine SemK.load0 (by kernel_rfl) hb14 rfl ?_
      conv => whnf
      refine (impl_SameDeck (A11.ext hE9) (A13.ext hE9)).mono ?_
      rintro _ w16 ⟨rfl, e15⟩
      conv => whnf
      with_reducible refine IfB.ndec (fun h17 => ?_) (fun h17 => ?_)
      · conv => whnf
        refine ⟨?_, (Ext.trans hE9 e15)⟩
        · exact congrArg Value.bool (decide_eq_false (fun e => by subst e; rw [hy11] at hy13; cases hy13; simp at h17)).symm
      · conv => whnf
        refine SemK.add (((k + 1 : Nat) : Int)) (by omega) (by omega) (by omega) ?_
        conv => whnf
        exact ⟨k + 1, by omega, rfl, by omega, by simp [List.take_add_one, *], (Ext.trans hE9 e15)⟩
    · conv => whnf
      have kn18 : k = n := by omega
      have tk19 : List.take k xs = xs := List.take_of_length_le (by omega)
      have tk20 : List.take k hs = hs := List.take_of_length_le (by omega)
      refine ⟨?_, hE9⟩
      · exact congrArg Value.bool (decide_eq_true (by rw [← List.take_of_length_le (show xs.length ≤ k by omega), hall, List.take_of_length_le (by omega)])).symm
theorem lib_EqualFuncTots {w : World} {a a' : Option Addr} {n n' c c' : Nat} {xs ys : List (List TTotal)} (h : ArrS RTots w a n xs) (h' : ArrS RTots w a' n' ys) (hok : ∀ x ∈ xs, okTots x) (hok' : ∀ x ∈ ys, okTots x) :
    Does Try.prog 118 [.slice a n c, .slice a' n' c', .func (.func 119) ⟨[]⟩ ⟨[]⟩] w (fun v w' => v = .bool (decide (xs = ys)) ∧ Ext w w') := by
  have hn := h.len
  have hn' := h'.len
  have hm := h.le
  obtain ⟨hs, hV, hE⟩ := h
  obtain ⟨hs', hV', hE'⟩ := h'
  have hl := hV.len
  have hl' := hV'.len
  refine Does.of_vc tabok Try.func118 rfl rfl rfl (by kernel_rfl) ?_; conv => whnf
  with_reducible refine IfB.ndec (fun h1 => ?_) (fun h1 => ?_)
  · conv => whnf
    exact ⟨by rw [decide_eq_false (fun e => by subst e; omega)], Ext.refl _⟩
  · conv => whnf
    refine LoopK.rule [1, 2, 15, 16, 17] (fun (k : Nat) vs w' => vs = [.slice a' n' c', .func (.func 119) ⟨[]⟩ ⟨[]⟩, .slice a n c, .int .i64 n, .int .i64 k] ∧ k ≤ n ∧ xs.take k = ys.take k ∧ Ext w w') (fun k => n - k) tab tabok (by kernel_rfl) 0 ⟨rfl, by omega, by simp, Ext.refl _⟩ ?_
    rintro k g _ w' ⟨rfl, hk, hall, hE9⟩
    conv => whnf
    with_reducible refine IfB.dec (fun h10 => ?_) (fun h10 => ?_)
    · conv => whnf
      obtain ⟨x11, hx11⟩ : ∃ x, hs[k]? = some x := get_of_lt (by omega)
      obtain ⟨y11, hy11, R11⟩ := hE.get hx11
      have A11 := R11.1
      have n11 := R11.2
      refine SemK.index (by kernel_rfl) (hV.ext hE9) k rfl hx11 ?_
      intro b12 o12 _ hb12
      conv => whnf
      refine SemK.load0 (by kernel_rfl) hb12 rfl ?_
      conv => whnf
      obtain ⟨x13, hx13⟩ : ∃ x, hs'[k]? = some x := get_of_lt (by omega)
      obtain ⟨y13, hy13, R13⟩ := hE'.get hx13
      have A13 := R13.1
      have n13 := R13.2
      refine SemK.index (by kernel_rfl) (hV'.ext hE9) k rfl hx13 ?_
      intro b14 o14 _ hb14
      conv => whnf
      refine SemK.load0 (by kernel_rfl) hb14 rfl ?_
      conv => whnf
      refine (lib_EqualTotal (A11.ext hE9) (A13.ext hE9) (hok _ (List.mem_of_getElem? hy11)) (hok' _ (List.mem_of_getElem? hy13))).mono ?_
      rintro _ w16 ⟨rfl, e15⟩
      conv => whnf
      with_reducible refine IfB.ndec (fun h17 => ?_) (fun h17 => ?_)
      · conv => whnf
        refine ⟨?_, (Ext.trans hE9 e15)⟩
        · exact congrArg Value.bool (decide_eq_false (fun e => by subst e; rw [hy11] at hy13; cases hy13; simp at h17)).symm
      · conv => whnf
        refine SemK.add (((k + 1 : Nat) : Int)) (by omega) (by omega) (by omega) ?_
        conv => whnf
        exact ⟨k + 1, by omega, rfl, by omega, by simp [List.take_add_one, *], (Ext.trans hE9 e15)⟩
    · conv => whnf
      have kn18 : k = n := by omega
      have tk19 : List.take k xs = xs := List.take_of_length_le (by omega)
      have tk20 : List.take k hs = hs := List.take_of_length_le (by omega)
      refine ⟨?_, hE9⟩
      · exact congrArg Value.bool (decide_eq_true (by rw [← List.take_of_length_le (show xs.length ≤ k by omega), hall, List.take_of_length_le (by omega)])).symm
theorem impl_SameOffice {w : World} {k k' : Dk} {X X' : List (List (List Int))} {Y Y' : List (List TTotal)} (h : DkR w k X Y) (h' : DkR w k' X' Y') (ok : ∀ x ∈ Y, okTots x) (ok' : ∀ x ∈ Y', okTots x) :
    Does Try.prog 63 [offV k, offV k'] w (fun v w' => v = .bool (decide (X = X') && decide (Y = Y')) ∧ Ext w w') := by
  obtain ⟨h1, h2⟩ := h
  obtain ⟨h1', h2'⟩ := h'
  refine Does.of_vc tabok Try.func63 rfl rfl rfl (by kernel_rfl) ?_; conv => whnf
  refine SemK.box ?_
  intro b3 w3 g3 l3 e3 B3
  conv => whnf
  refine SemK.box ?_
  intro b4 w4 g4 l4 e4 B4
  conv => whnf
  refine SemK.load1 (by kernel_rfl) (B3.ext e4).cells (k := 0) rfl ?_
  conv => whnf
  refine SemK.load1 (by kernel_rfl) B4.cells (k := 0) rfl ?_
  conv => whnf
  refine (lib_EqualFuncDeck (h1.ext (Ext.trans e3 e4)) (h1'.ext (Ext.trans e3 e4))).mono ?_
  rintro _ w6 ⟨rfl, e5⟩
  conv => whnf
  with_reducible refine IfB.dec (fun h7 => ?_) (fun h7 => ?_)
  · conv => whnf
    refine SemK.load1 (by kernel_rfl) (B3.ext (Ext.trans e4 e5)).cells (k := 1) rfl ?_
    conv => whnf
    refine SemK.load1 (by kernel_rfl) (B4.ext e5).cells (k := 1) rfl ?_
    conv => whnf
    refine (lib_EqualFuncTots (h2.ext (Ext.trans (Ext.trans e3 e4) e5)) (h2'.ext (Ext.trans (Ext.trans e3 e4) e5)) ok ok').mono ?_
    rintro _ w9 ⟨rfl, e8⟩
    conv => whnf
    exact ⟨by simp [*], (Ext.trans (Ext.trans (Ext.trans e3 e4) e5) e8)⟩
  · conv => whnf
    exact ⟨by simp [*], (Ext.trans (Ext.trans e3 e4) e5)⟩
theorem spec_SameOffice {w : World} {k k' : Dk} {X X' : List (List (List Int))} {Y Y' : List (List TTotal)} (h : DkR w k X Y) (h' : DkR w k' X' Y') (ok : ∀ x ∈ Y, okTots x) (ok' : ∀ x ∈ Y', okTots x) :
    Does Try.prog 61 [offV k, offV k'] w (fun v w' => v = .bool (decide (X = X') && decide (Y = Y')) ∧ Ext w w') := by
  obtain ⟨h1, h2⟩ := h
  obtain ⟨h1', h2'⟩ := h'
  have n1 := h1.len
  have n1' := h1'.len
  have n2 := h2.len
  have n2' := h2'.len
  have m1 := h1.le
  have m2 := h2.le
  obtain ⟨hs, hV, hE⟩ := h1
  obtain ⟨hs', hV', hE'⟩ := h1'
  obtain ⟨gs, gV, gE⟩ := h2
  obtain ⟨gs', gV', gE'⟩ := h2'
  have l1 := hV.len
  have l1' := hV'.len
  have l2 := gV.len
  have l2' := gV'.len
  refine Does.of_vc tabok Try.func61 rfl rfl rfl (by kernel_rfl) ?_; conv => whnf
  refine SemK.box ?_
  intro b3 w3 g3 l3 e3 B3
  conv => whnf
  refine SemK.box ?_
  intro b4 w4 g4 l4 e4 B4
  conv => whnf
  refine SemK.load1 (by kernel_rfl) (B3.ext e4).cells (k := 0) rfl ?_
  conv => whnf
  refine SemK.load1 (by kernel_rfl) B4.cells (k := 0) rfl ?_
  conv => whnf
  with_reducible refine IfB.ndec (fun h5 => ?_) (fun h5 => ?_)
  · conv => whnf
    refine ⟨?_, (Ext.trans e3 e4)⟩
    · rw [decide_eq_false (show ¬ X = X' from fun e => by subst e; omega)]
      rfl
  · conv => whnf
    refine SemK.load1 (by kernel_rfl) (B3.ext e4).cells (k := 1) rfl ?_
    conv => whnf
    refine SemK.load1 (by kernel_rfl) B4.cells (k := 1) rfl ?_
    conv => whnf
    with_reducible refine IfB.ndec (fun h6 => ?_) (fun h6 => ?_)
    · conv => whnf
      refine ⟨?_, (Ext.trans e3 e4)⟩
      · rw [decide_eq_false (show ¬ Y = Y' from fun e => by subst e; omega), Bool.and_false]
    · conv => whnf
      have E4 := Ext.trans e3 e4
      refine LoopK.rule [2, 3, 5] (fun (j : Nat) vs w' => vs = [.pointer (some ⟨b3, 0, none⟩), .pointer (some ⟨b4, 0, none⟩), .int .i64 j] ∧ j ≤ k.n ∧ X.take j = X'.take j ∧ Ext w4 w') (fun j => k.n - j) tab tabok (by kernel_rfl) 0 ⟨rfl, by omega, by simp, Ext.refl _⟩ ?_
      rintro j g _ w' ⟨rfl, hj, hall, hE9⟩
      conv => whnf
      refine SemK.load1 (by kernel_rfl) (B3.ext (Ext.trans e4 hE9)).cells (k := 0) rfl ?_
      conv => whnf
      with_reducible refine IfB.dec (fun h7 => ?_) (fun h7 => ?_)
      · conv => whnf
        refine DrawK.held tabok mixed [(0, false), (1, false), (2, false), (3, false), (4, false), (5, false), (6, false), (7, true), (8, true), (9, true), (10, true), (11, true)] (by kernel_rfl) (by kernel_rfl) ?_
        conv => whnf
        intro w10 e10
        conv => whnf
        refine DSemK.load1 (by kernel_rfl) (B3.ext (Ext.trans e4 hE9)).cells (k := 0) rfl ?_
        conv => whnf
        obtain ⟨x11, hx11⟩ : ∃ x, hs[j]? = some x := get_of_lt (by omega)
        obtain ⟨y11, hy11, R11⟩ := hE.get hx11
        have A11 := R11.1
        have n11 := R11.2
        refine DSemK.index (by kernel_rfl) (hV.ext (Ext.trans E4 hE9)) j rfl hx11 ?_
        intro b12 o12 _ hb12
        conv => whnf
        refine DSemK.load0 (by kernel_rfl) hb12 rfl ?_
        conv => whnf
        refine DSemK.load1 (by kernel_rfl) (B4.ext hE9).cells (k := 0) rfl ?_
        conv => whnf
        obtain ⟨x13, hx13⟩ : ∃ x, hs'[j]? = some x := get_of_lt (by omega)
        obtain ⟨y13, hy13, R13⟩ := hE'.get hx13
        have A13 := R13.1
        have n13 := R13.2
        refine SemK.index (by kernel_rfl) (hV'.ext (Ext.trans (Ext.trans E4 hE9) e10)) j rfl hx13 ?_
        intro b14 o14 _ hb14
        conv => whnf
        refine ⟨e10, ?_⟩
        conv => whnf
        refine SemK.load0 (by kernel_rfl) hb14 rfl ?_
        conv => whnf
        refine ⟨e10, ?_⟩
        conv => whnf
        refine (spec_SameDeck (A11.ext (Ext.trans (Ext.trans E4 hE9) e10)) (A13.ext (Ext.trans (Ext.trans E4 hE9) e10))).mono ?_
        rintro _ w16 ⟨rfl, e15⟩
        conv => whnf
        refine ⟨(Ext.trans e10 e15), ?_⟩
        conv => whnf
        with_reducible refine IfB.ndec (fun h17 => ?_) (fun h17 => ?_)
        · conv => whnf
          refine ⟨?_, (Ext.trans (Ext.trans (Ext.trans E4 hE9) e10) e15)⟩
          · rw [decide_eq_false (show ¬ X = X' from fun e => by subst e; rw [hy11] at hy13; cases hy13; simp at h17)]
            rfl
        · conv => whnf
          refine SemK.add (((j + 1 : Nat) : Int)) (by omega) (by omega) (by omega) ?_
          conv => whnf
          exact ⟨j + 1, by omega, rfl, by omega, by simp [List.take_add_one, *], (Ext.trans (Ext.trans hE9 e10) e15)⟩
      · conv => whnf
        have hX : X = X' := by rw [← List.take_of_length_le (show X.length ≤ j by omega), hall, List.take_of_length_le (by omega)]
        have E9 := Ext.trans E4 hE9
        refine LoopK.rule [2, 3, 6] (fun (j : Nat) vs w2 => vs = [.pointer (some ⟨b3, 0, none⟩), .pointer (some ⟨b4, 0, none⟩), .int .i64 j] ∧ j ≤ k.m ∧ Y.take j = Y'.take j ∧ Ext w4 w2) (fun j => k.m - j) tab tabok (by kernel_rfl) 0 ⟨rfl, by omega, by simp, hE9⟩ ?_
        rintro i g2 _ w2 ⟨rfl, hi, hall2, hE2⟩
        conv => whnf
        refine SemK.load1 (by kernel_rfl) (B3.ext (Ext.trans e4 hE2)).cells (k := 1) rfl ?_
        conv => whnf
        with_reducible refine IfB.dec (fun h8 => ?_) (fun h8 => ?_)
        · conv => whnf
          refine DrawK.held tabok mixed [(0, false), (1, false), (2, false), (3, false), (4, false), (5, false), (6, false), (7, true), (8, true), (9, true), (10, true), (11, true)] (by kernel_rfl) (by kernel_rfl) ?_
          conv => whnf
          intro w10 e10
          conv => whnf
          refine DSemK.load1 (by kernel_rfl) (B3.ext (Ext.trans e4 hE2)).cells (k := 1) rfl ?_
          conv => whnf
          obtain ⟨x11, hx11⟩ : ∃ x, gs[i]? = some x := get_of_lt (by omega)
          obtain ⟨y11, hy11, R11⟩ := gE.get hx11
          have A11 := R11.1
          have n11 := R11.2
          refine DSemK.index (by kernel_rfl) (gV.ext (Ext.trans E4 hE2)) i rfl hx11 ?_
          intro b12 o12 _ hb12
          conv => whnf
          refine DSemK.load0 (by kernel_rfl) hb12 rfl ?_
          conv => whnf
          refine DSemK.load1 (by kernel_rfl) (B4.ext hE2).cells (k := 1) rfl ?_
          conv => whnf
          obtain ⟨x13, hx13⟩ : ∃ x, gs'[i]? = some x := get_of_lt (by omega)
          obtain ⟨y13, hy13, R13⟩ := gE'.get hx13
          have A13 := R13.1
          have n13 := R13.2
          refine SemK.index (by kernel_rfl) (gV'.ext (Ext.trans (Ext.trans E4 hE2) e10)) i rfl hx13 ?_
          intro b14 o14 _ hb14
          conv => whnf
          refine ⟨e10, ?_⟩
          conv => whnf
          refine SemK.load0 (by kernel_rfl) hb14 rfl ?_
          conv => whnf
          refine ⟨e10, ?_⟩
          conv => whnf
          refine (spec_l15Totals (A11.ext (Ext.trans (Ext.trans E4 hE2) e10)) (A13.ext (Ext.trans (Ext.trans E4 hE2) e10)) (ok _ (List.mem_of_getElem? hy11)) (ok' _ (List.mem_of_getElem? hy13))).mono ?_
          rintro _ w16 ⟨rfl, e15⟩
          conv => whnf
          refine ⟨(Ext.trans e10 e15), ?_⟩
          conv => whnf
          with_reducible refine IfB.ndec (fun h17 => ?_) (fun h17 => ?_)
          · conv => whnf
            refine ⟨?_, (Ext.trans (Ext.trans (Ext.trans E4 hE2) e10) e15)⟩
            · rw [decide_eq_false (show ¬ Y = Y' from fun e => by subst e; rw [hy11] at hy13; cases hy13; simp at h17), Bool.and_false]
          · conv => whnf
            refine SemK.add (((i + 1 : Nat) : Int)) (by omega) (by omega) (by omega) ?_
            conv => whnf
            exact ⟨i + 1, by omega, rfl, by omega, by simp [List.take_add_one, *], (Ext.trans (Ext.trans hE2 e10) e15)⟩
        · conv => whnf
          have hY : Y = Y' := by rw [← List.take_of_length_le (show Y.length ≤ i by omega), hall2, List.take_of_length_le (by omega)]
          exact ⟨by rw [decide_eq_true hX, decide_eq_true hY]; rfl, Ext.trans E4 hE2⟩
theorem impl_SameDesk {w : World} {k k' : Dk} {s s' : ByteArray} {X X' : List (List (List Int))} {Y Y' : List (List TTotal)} (h : DkR w k X Y) (h' : DkR w k' X' Y') (ok : ∀ x ∈ Y, okTots x) (ok' : ∀ x ∈ Y', okTots x) :
    Does Try.prog 15 [dkV k s, dkV k' s'] w (fun v w' => v = .bool (decide (X = X') && decide (Y = Y') && decide (s = s')) ∧ Ext w w') := by
  refine Does.of_vc tabok Try.func15 rfl rfl rfl (by kernel_rfl) ?_; conv => whnf
  refine SemK.box ?_
  intro b3 w3 g3 l3 e3 B3
  conv => whnf
  refine SemK.box ?_
  intro b4 w4 g4 l4 e4 B4
  conv => whnf
  refine SemK.loadAggAt (n := 2) (by kernel_rfl) (k := 0) (B3.ext e4).cells rfl ?_
  conv => whnf
  refine SemK.loadAggAt (n := 2) (by kernel_rfl) (k := 0) B4.cells rfl ?_
  conv => whnf
  have E4 := Ext.trans e3 e4
  refine (impl_SameOffice (h.ext E4) (h'.ext E4) ok ok').mono ?_
  rintro _ w5 ⟨rfl, e5⟩
  conv => whnf
  with_reducible refine IfB.split (fun h6 => ?_) (fun h6 => ?_)
  · conv => whnf
    refine SemK.load1 (by kernel_rfl) (B3.ext (Ext.trans e4 e5)).cells (k := 2) rfl ?_
    conv => whnf
    refine SemK.load1 (by kernel_rfl) (B4.ext e5).cells (k := 2) rfl ?_
    conv => whnf
    exact ⟨by simp [*], (Ext.trans E4 e5)⟩
  · conv => whnf
    exact ⟨by simp [*], (Ext.trans E4 e5)⟩
theorem spec_SameDesk {w : World} {k k' : Dk} {s s' : ByteArray} {X X' : List (List (List Int))} {Y Y' : List (List TTotal)} (h : DkR w k X Y) (h' : DkR w k' X' Y') (ok : ∀ x ∈ Y, okTots x) (ok' : ∀ x ∈ Y', okTots x) :
    Does Try.prog 13 [dkV k s, dkV k' s'] w (fun v w' => v = .bool (decide (X = X') && decide (Y = Y') && decide (s = s')) ∧ Ext w w') := by
  refine Does.of_vc tabok Try.func13 rfl rfl rfl (by kernel_rfl) ?_; conv => whnf
  refine SemK.box ?_
  intro b3 w3 g3 l3 e3 B3
  conv => whnf
  refine SemK.box ?_
  intro b4 w4 g4 l4 e4 B4
  conv => whnf
  refine SemK.loadAggAt (n := 2) (by kernel_rfl) (k := 0) (B3.ext e4).cells rfl ?_
  conv => whnf
  refine SemK.loadAggAt (n := 2) (by kernel_rfl) (k := 0) B4.cells rfl ?_
  conv => whnf
  have E4 := Ext.trans e3 e4
  refine (spec_SameOffice (h.ext E4) (h'.ext E4) ok ok').mono ?_
  rintro _ w5 ⟨rfl, e5⟩
  conv => whnf
  with_reducible refine IfB.split (fun h6 => ?_) (fun h6 => ?_)
  · conv => whnf
    refine SemK.load1 (by kernel_rfl) (B3.ext (Ext.trans e4 e5)).cells (k := 2) rfl ?_
    conv => whnf
    refine SemK.load1 (by kernel_rfl) (B4.ext e5).cells (k := 2) rfl ?_
    conv => whnf
    exact ⟨by simp [*], (Ext.trans E4 e5)⟩
  · conv => whnf
    exact ⟨by simp [*], (Ext.trans E4 e5)⟩
end Go.Proofs.Ytdmkbgelcnkdgaa
