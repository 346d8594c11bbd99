/- Contracts of functions of the given program, of the reference and of the laws: each says what a call returns, for all arguments that meet the premises that the theorem itself names. -/
import Derived.Test.YtfgbijddjoojbaaGreatCardN
import Derived.Test.YtfgbijddjoojbaaGreatCensusM
import Derived.Test.YtfgbijddjoojbaaGreatNotes
namespace Go.M
open Go Go.Vc
theorem lims_false {l : List Int} {k : Nat} (h : k < l.length) (hp : limAt l k = false) : (List.range l.length).all (limAt l) = false := by
  rw [List.all_eq_false]
  exact ⟨k, List.mem_range.2 h, by simp [hp]⟩
theorem lims_true {l : List Int} (h : ∀ i, i < l.length → limAt l i = true) : (List.range l.length).all (limAt l) = true := by
  rw [List.all_eq_true]
  intro i hi
  exact h i (List.mem_range.1 hi)
theorem lim_next {l : List Int} {k : Nat} (h : ∀ i, i < k → limAt l i = true) (hk : limAt l k = true) : ∀ i, i < k + 1 → limAt l i = true := by
  intro i hi
  by_cases e : i = k
  · subst e; exact hk
  · exact h i (by omega)
end Go.M
namespace Go.Proofs.YtfgbijddjoojbaaGreat
open Go Go.RowKit Go.Vc Go.M
theorem spec_l00Rises {w : World} {a : Option Addr} {n c : Nat} {xs : List Int} (h : Arr eI 1 w a n xs) : Does Tryz.prog 72 [.slice a n c, .int .i64 (-999999999999), .int .i64 999999999999] w (fun v w' => v = .bool ((List.range xs.length).all (limAt xs)) ∧ Ext w w') := by
  have hn := h.len
  have hm := h.le
  refine Does.of_vc tabok Tryz.func72 rfl rfl rfl (by kernel_rfl) ?_; conv => whnf
  refine LoopK.rule [0, 1, 2, 7] (fun (k : Nat) vs w' => vs = [.slice a n c, .int .i64 (-999999999999), .int .i64 999999999999, .int .i64 k] ∧ k ≤ n ∧ (∀ i, i < k → limAt xs i = true) ∧ Ext w w') (fun k => n - k) tab tabok (by kernel_rfl) 0 ⟨rfl, by omega, fun i hi => by omega, Ext.refl _⟩ ?_
  rintro k g _ w3 ⟨rfl, hk, hall, hX⟩
  rcases Nat.lt_or_ge k n with hkn | hkn
  · obtain ⟨x, hx⟩ := get_of_lt (l := xs) (k := k) (by omega)
    rcases k with _ | j
    · have hla : limAt xs 0 = inB x (-999999999999) 999999999999 := by simp [limAt, hx]
      cases hz1 : inB x (-999999999999) 999999999999
      · have hbad := lims_false (l := xs) (k := 0) (by omega) (by rw [hla, hz1])
        rw [hbad]
        conv => whnf
        refine IfB.yes (by omega) ?_
        conv => whnf
        refine DrawK.held tabok mixed [(0, false), (1, false), (2, false), (3, false), (4, false), (5, true), (6, true), (7, true), (8, true), (9, true), (10, true), (11, true), (12, false), (13, false), (14, false), (15, false), (16, false), (17, false), (18, true), (19, true), (20, true), (21, true), (22, true), (23, true)] (by kernel_rfl) (by kernel_rfl) ?_
        conv => whnf
        intro w4 e4
        conv => whnf
        refine DSemK.index (by kernel_rfl) (h.ext hX) 0 rfl hx ?_
        intro b6 o6 ha6 hb6
        conv => whnf
        refine DSemK.load1 (by kernel_rfl) hb6 (k := 0) rfl ?_
        conv => whnf
        refine (spec_in _ _ _ _).mono ?_
        rintro _ _ ⟨rfl, rfl⟩
        conv => whnf
        refine ⟨e4, ?_⟩
        conv => whnf
        refine IfB.eqt (by simp [*]; done) ?_
        conv => whnf
        exact ⟨rfl, (Ext.trans hX e4)⟩
      · have hnext := lim_next hall (by rw [hla, hz1])
        conv => whnf
        refine IfB.yes (by omega) ?_
        conv => whnf
        refine DrawK.held tabok mixed [(0, false), (1, false), (2, false), (3, false), (4, false), (5, true), (6, true), (7, true), (8, true), (9, true), (10, true), (11, true), (12, false), (13, false), (14, false), (15, false), (16, false), (17, false), (18, true), (19, true), (20, true), (21, true), (22, true), (23, true)] (by kernel_rfl) (by kernel_rfl) ?_
        conv => whnf
        intro w4 e4
        conv => whnf
        refine DSemK.index (by kernel_rfl) (h.ext hX) 0 rfl hx ?_
        intro b6 o6 ha6 hb6
        conv => whnf
        refine DSemK.load1 (by kernel_rfl) hb6 (k := 0) rfl ?_
        conv => whnf
        refine (spec_in _ _ _ _).mono ?_
        rintro _ _ ⟨rfl, rfl⟩
        conv => whnf
        refine ⟨e4, ?_⟩
        conv => whnf
        refine IfB.eqf (by simp [*]; done) ?_
        conv => whnf
        refine SemK.add (((0 + 1 : Nat) : Int)) (by omega) (by omega) (by omega) ?_
        conv => whnf
        refine ⟨0 + 1, by omega, rfl, by omega, hnext, ?_⟩
        exact (Ext.trans hX e4)
    · obtain ⟨y, hy⟩ := get_of_lt (l := xs) (k := j) (by omega)
      have hla : limAt xs (j + 1) = (inB x (-999999999999) 999999999999 && decide (y < x)) := by simp [limAt, hx, hy]
      cases hz1 : inB x (-999999999999) 999999999999
      · have hbad := lims_false (l := xs) (k := j + 1) (by omega) (by rw [hla, hz1]; rfl)
        rw [hbad]
        conv => whnf
        refine IfB.yes (by omega) ?_
        conv => whnf
        refine DrawK.held tabok mixed [(0, false), (1, false), (2, false), (3, false), (4, false), (5, true), (6, true), (7, true), (8, true), (9, true), (10, true), (11, true), (12, false), (13, false), (14, false), (15, false), (16, false), (17, false), (18, true), (19, true), (20, true), (21, true), (22, true), (23, true)] (by kernel_rfl) (by kernel_rfl) ?_
        conv => whnf
        intro w4 e4
        conv => whnf
        refine DSemK.index (by kernel_rfl) (h.ext hX) (j + 1) rfl hx ?_
        intro b6 o6 ha6 hb6
        conv => whnf
        refine DSemK.load0 (by kernel_rfl) hb6 rfl ?_
        conv => whnf
        refine (spec_in _ _ _ _).mono ?_
        rintro _ _ ⟨rfl, rfl⟩
        conv => whnf
        refine ⟨e4, ?_⟩
        conv => whnf
        refine IfB.eqt (by simp [*]; done) ?_
        conv => whnf
        exact ⟨rfl, (Ext.trans hX e4)⟩
      · by_cases hyx : y < x
        · have hnext := lim_next hall (by rw [hla, hz1, decide_eq_true hyx]; rfl)
          conv => whnf
          refine IfB.yes (by omega) ?_
          conv => whnf
          refine DrawK.held tabok mixed [(0, false), (1, false), (2, false), (3, false), (4, false), (5, true), (6, true), (7, true), (8, true), (9, true), (10, true), (11, true), (12, false), (13, false), (14, false), (15, false), (16, false), (17, false), (18, true), (19, true), (20, true), (21, true), (22, true), (23, true)] (by kernel_rfl) (by kernel_rfl) ?_
          conv => whnf
          intro w4 e4
          conv => whnf
          refine DSemK.index (by kernel_rfl) (h.ext hX) (j + 1) rfl hx ?_
          intro b6 o6 ha6 hb6
          conv => whnf
          refine DSemK.load0 (by kernel_rfl) hb6 rfl ?_
          conv => whnf
          refine (spec_in _ _ _ _).mono ?_
          rintro _ _ ⟨rfl, rfl⟩
          conv => whnf
          refine ⟨e4, ?_⟩
          conv => whnf
          refine IfB.eqf (by simp [*]; done) ?_
          conv => whnf
          refine IfB.yes (by omega) ?_
          conv => whnf
          refine DSemK.sub (((j : Nat) : Int)) (by omega) (by omega) (by omega) ?_
          conv => whnf
          refine DSemK.index (by kernel_rfl) (h.ext hX) j rfl hy ?_
          intro b9 o9 ha9 hb9
          conv => whnf
          refine DSemK.load0 (by kernel_rfl) hb9 rfl ?_
          conv => whnf
          refine SemK.index (by kernel_rfl) (h.ext (Ext.trans hX e4)) (j + 1) rfl hx ?_
          intro b11 o11 ha11 hb11
          conv => whnf
          refine ⟨e4, ?_⟩
          conv => whnf
          refine SemK.load0 (by kernel_rfl) hb11 rfl ?_
          conv => whnf
          refine ⟨e4, ?_⟩
          conv => whnf
          refine IfB.no (by omega) ?_
          conv => whnf
          refine SemK.add (((j + 1 + 1 : Nat) : Int)) (by omega) (by omega) (by omega) ?_
          conv => whnf
          refine ⟨j + 1 + 1, by omega, rfl, by omega, hnext, ?_⟩
          exact (Ext.trans hX e4)
        · have hbad := lims_false (l := xs) (k := j + 1) (by omega) (by rw [hla, hz1, decide_eq_false hyx]; rfl)
          rw [hbad]
          conv => whnf
          refine IfB.yes (by omega) ?_
          conv => whnf
          refine DrawK.held tabok mixed [(0, false), (1, false), (2, false), (3, false), (4, false), (5, true), (6, true), (7, true), (8, true), (9, true), (10, true), (11, true), (12, false), (13, false), (14, false), (15, false), (16, false), (17, false), (18, true), (19, true), (20, true), (21, true), (22, true), (23, true)] (by kernel_rfl) (by kernel_rfl) ?_
          conv => whnf
          intro w4 e4
          conv => whnf
          refine DSemK.index (by kernel_rfl) (h.ext hX) (j + 1) rfl hx ?_
          intro b6 o6 ha6 hb6
          conv => whnf
          refine DSemK.load0 (by kernel_rfl) hb6 rfl ?_
          conv => whnf
          refine (spec_in _ _ _ _).mono ?_
          rintro _ _ ⟨rfl, rfl⟩
          conv => whnf
          refine ⟨e4, ?_⟩
          conv => whnf
          refine IfB.eqf (by simp [*]; done) ?_
          conv => whnf
          refine IfB.yes (by omega) ?_
          conv => whnf
          refine DSemK.sub (((j : Nat) : Int)) (by omega) (by omega) (by omega) ?_
          conv => whnf
          refine DSemK.index (by kernel_rfl) (h.ext hX) j rfl hy ?_
          intro b9 o9 ha9 hb9
          conv => whnf
          refine DSemK.load0 (by kernel_rfl) hb9 rfl ?_
          conv => whnf
          refine SemK.index (by kernel_rfl) (h.ext (Ext.trans hX e4)) (j + 1) rfl hx ?_
          intro b11 o11 ha11 hb11
          conv => whnf
          refine ⟨e4, ?_⟩
          conv => whnf
          refine SemK.load0 (by kernel_rfl) hb11 rfl ?_
          conv => whnf
          refine ⟨e4, ?_⟩
          conv => whnf
          refine IfB.yes (by omega) ?_
          conv => whnf
          exact ⟨rfl, (Ext.trans hX e4)⟩
  · have hgood := lims_true (l := xs) (fun i hi => hall i (by omega))
    rw [hgood]
    conv => whnf
    refine IfB.no (by omega) ?_
    conv => whnf
    exact ⟨rfl, hX⟩
theorem spec_l24Limits {w : World} {a : Option Addr} {n c : Nat} {xs : List Int} (h : Arr eI 1 w a n xs) : Does Tryz.prog 33 [.slice a n c] w (fun v w' => v = .bool (limitsB xs) ∧ Ext w w') := by
  have hn := h.len
  have hm := h.le
  unfold limitsB
  rw [hn]
  have hR := fun u (e : Ext w u) => spec_l00Rises (c := c) (h.ext e)
  rw [hn] at hR
  generalize (List.range n).all (limAt xs) = b at hR ⊢
  cases b
  · refine Does.of_vc tabok Tryz.func33 rfl rfl rfl (by kernel_rfl) ?_; conv => whnf
    refine (hR _ (Ext.refl _)).mono ?_
    rintro _ w2 ⟨rfl, e1⟩
    conv => whnf
    exact ⟨rfl, e1⟩
  · refine Does.of_vc tabok Tryz.func33 rfl rfl rfl (by kernel_rfl) ?_; conv => whnf
    refine (hR _ (Ext.refl _)).mono ?_
    rintro _ w2 ⟨rfl, e1⟩
    conv => whnf
    refine (spec_in _ _ _ _).mono ?_
    rintro _ _ ⟨rfl, rfl⟩
    conv => whnf
    exact ⟨rfl, e1⟩
theorem spec_l24Class {w : World} {a : Option Addr} {n c : Nat} {xs : List Int} (h : Arr eI 1 w a n xs) (hp : xs.Pairwise (· < ·)) (m : Int) : Does Tryz.prog 35 [.slice a n c, .int .i64 m] w (fun v w' => v = .int .i64 (classM xs m) ∧ Ext w w') := by
  have hn := h.len
  have hm := h.le
  refine Does.of_vc tabok Tryz.func35 rfl rfl rfl (by kernel_rfl) ?_; conv => whnf
  refine LoopK.rule [0, 1, 5] (fun (k : Nat) vs w' => vs = [.slice a n c, .int .i64 m, .int .i64 k] ∧ k ≤ n ∧ (∀ i x, i < k → xs[i]? = some x → x ≤ m) ∧ Ext w w') (fun k => n - k) tab tabok (by kernel_rfl) 0 ⟨rfl, by omega, fun i x hi => by omega, Ext.refl _⟩ ?_
  rintro k g _ w3 ⟨rfl, hk, hall, hX⟩
  rcases Nat.lt_or_ge k n with hkn | hkn
  · obtain ⟨x, hx⟩ := get_of_lt (l := xs) (k := k) (by omega)
    by_cases hxm : x ≤ m
    · have hnext : ∀ i y, i < k + 1 → xs[i]? = some y → y ≤ m := fun i y hi hy => by
        by_cases e : i = k
        · subst e; rw [hx] at hy; cases hy; exact hxm
        · exact hall i y (by omega) hy
      conv => whnf
      refine IfB.yes (by omega) ?_
      conv => whnf
      refine SemK.index (by kernel_rfl) (h.ext hX) k rfl hx ?_
      intro b5 o5 ha5 hb5
      conv => whnf
      refine SemK.load0 (by kernel_rfl) hb5 rfl ?_
      conv => whnf
      refine IfB.yes (by omega) ?_
      conv => whnf
      refine SemK.add (((k + 1 : Nat) : Int)) (by omega) (by omega) (by omega) ?_
      conv => whnf
      exact ⟨k + 1, by omega, rfl, by omega, by omega, hX⟩
    · have hend := classM_first hp (n := m) (k := k) (by omega) hall (fun y hy => by rw [hx] at hy; cases hy; omega)
      rw [hend]
      conv => whnf
      refine IfB.yes (by omega) ?_
      conv => whnf
      refine SemK.index (by kernel_rfl) (h.ext hX) k rfl hx ?_
      intro b5 o5 ha5 hb5
      conv => whnf
      refine SemK.load0 (by kernel_rfl) hb5 rfl ?_
      conv => whnf
      refine IfB.no (by omega) ?_
      conv => whnf
      exact ⟨rfl, hX⟩
  · have hend := classM_first hp (n := m) (k := k) (by omega) hall (fun y hy => by rw [List.getElem?_eq_none (by omega)] at hy; cases hy)
    rw [hend]
    conv => whnf
    refine IfB.no (by omega) ?_
    conv => whnf
    exact ⟨rfl, hX⟩
theorem impl_areLimits {w : World} {a : Option Addr} {n c : Nat} {xs : List Int} (h : Arr eI 1 w a n xs) : Does Tryz.prog 31 [.slice a n c] w (fun v w' => v = .bool (limitsB xs) ∧ Ext w w') := by
  have hn := h.len
  have hm := h.le
  refine Does.of_vc tabok Tryz.func31 rfl rfl rfl (by kernel_rfl) ?_; conv => whnf
  refine LoopK.rule [0, 5, 6, 7] (fun (k : Nat) vs w' => vs = [.slice a n c, .slice a n c, .int .i64 n, .int .i64 k] ∧ k ≤ n ∧ (∀ i, i < k → limAt xs i = true) ∧ Ext w w') (fun k => n - k) tab tabok (by kernel_rfl) 0 ⟨rfl, by omega, fun i hi => by omega, Ext.refl _⟩ ?_
  rintro k g _ w3 ⟨rfl, hk, hall, hX⟩
  rcases Nat.lt_or_ge k n with hkn | hkn
  · obtain ⟨x, hx⟩ := get_of_lt (l := xs) (k := k) (by omega)
    rcases k with _ | j
    · have hla : limAt xs 0 = inB x (-999999999999) 999999999999 := by simp [limAt, hx]
      cases hz1 : inB x (-999999999999) 999999999999
      · have hbad : limitsB xs = false := limits_false (l := xs) (k := 0) (by omega) (by rw [hla, hz1])
        rw [hbad]
        conv => whnf
        refine IfB.yes (by omega) ?_
        conv => whnf
        refine SemK.index (by kernel_rfl) (h.ext hX) 0 rfl hx ?_
        intro b5 o5 ha5 hb5
        conv => whnf
        refine SemK.load1 (by kernel_rfl) hb5 (k := 0) rfl ?_
        conv => whnf
        refine (impl_isCardNumber _ _).mono ?_
        rintro _ _ ⟨rfl, rfl⟩
        conv => whnf
        refine IfB.eqt (by simp [*]; done) ?_
        conv => whnf
        exact ⟨rfl, hX⟩
      · have hnext := lim_next hall (by rw [hla, hz1])
        conv => whnf
        refine IfB.yes (by omega) ?_
        conv => whnf
        refine SemK.index (by kernel_rfl) (h.ext hX) 0 rfl hx ?_
        intro b5 o5 ha5 hb5
        conv => whnf
        refine SemK.load1 (by kernel_rfl) hb5 (k := 0) rfl ?_
        conv => whnf
        refine (impl_isCardNumber _ _).mono ?_
        rintro _ _ ⟨rfl, rfl⟩
        conv => whnf
        refine IfB.eqf (by simp [*]; done) ?_
        conv => whnf
        refine SemK.add (((0 + 1 : Nat) : Int)) (by omega) (by omega) (by omega) ?_
        conv => whnf
        refine ⟨0 + 1, by omega, rfl, by omega, hnext, ?_⟩
        exact hX
    · obtain ⟨y, hy⟩ := get_of_lt (l := xs) (k := j) (by omega)
      have hla : limAt xs (j + 1) = (inB x (-999999999999) 999999999999 && decide (y < x)) := by simp [limAt, hx, hy]
      cases hz1 : inB x (-999999999999) 999999999999
      · have hbad : limitsB xs = false := limits_false (l := xs) (k := j + 1) (by omega) (by rw [hla, hz1]; rfl)
        rw [hbad]
        conv => whnf
        refine IfB.yes (by omega) ?_
        conv => whnf
        refine SemK.index (by kernel_rfl) (h.ext hX) (j + 1) rfl hx ?_
        intro b5 o5 ha5 hb5
        conv => whnf
        refine SemK.load0 (by kernel_rfl) hb5 rfl ?_
        conv => whnf
        refine (impl_isCardNumber _ _).mono ?_
        rintro _ _ ⟨rfl, rfl⟩
        conv => whnf
        refine IfB.eqt (by simp [*]; done) ?_
        conv => whnf
        exact ⟨rfl, hX⟩
      · by_cases hyx : y < x
        · have hnext := lim_next hall (by rw [hla, hz1, decide_eq_true hyx]; rfl)
          conv => whnf
          refine IfB.yes (by omega) ?_
          conv => whnf
          refine SemK.index (by kernel_rfl) (h.ext hX) (j + 1) rfl hx ?_
          intro b5 o5 ha5 hb5
          conv => whnf
          refine SemK.load0 (by kernel_rfl) hb5 rfl ?_
          conv => whnf
          refine (impl_isCardNumber _ _).mono ?_
          rintro _ _ ⟨rfl, rfl⟩
          conv => whnf
          refine IfB.eqf (by simp [*]; done) ?_
          conv => whnf
          refine IfB.yes (by omega) ?_
          conv => whnf
          refine SemK.sub (((j : Nat) : Int)) (by omega) (by omega) (by omega) ?_
          conv => whnf
          refine SemK.index (by kernel_rfl) (h.ext hX) j rfl hy ?_
          intro b8 o8 ha8 hb8
          conv => whnf
          refine SemK.load0 (by kernel_rfl) hb8 rfl ?_
          conv => whnf
          refine IfB.no (by omega) ?_
          conv => whnf
          refine SemK.add (((j + 1 + 1 : Nat) : Int)) (by omega) (by omega) (by omega) ?_
          conv => whnf
          refine ⟨j + 1 + 1, by omega, rfl, by omega, hnext, ?_⟩
          exact hX
        · have hbad : limitsB xs = false := limits_false (l := xs) (k := j + 1) (by omega) (by rw [hla, hz1, decide_eq_false hyx]; rfl)
          rw [hbad]
          conv => whnf
          refine IfB.yes (by omega) ?_
          conv => whnf
          refine SemK.index (by kernel_rfl) (h.ext hX) (j + 1) rfl hx ?_
          intro b5 o5 ha5 hb5
          conv => whnf
          refine SemK.load0 (by kernel_rfl) hb5 rfl ?_
          conv => whnf
          refine (impl_isCardNumber _ _).mono ?_
          rintro _ _ ⟨rfl, rfl⟩
          conv => whnf
          refine IfB.eqf (by simp [*]; done) ?_
          conv => whnf
          refine IfB.yes (by omega) ?_
          conv => whnf
          refine SemK.sub (((j : Nat) : Int)) (by omega) (by omega) (by omega) ?_
          conv => whnf
          refine SemK.index (by kernel_rfl) (h.ext hX) j rfl hy ?_
          intro b8 o8 ha8 hb8
          conv => whnf
          refine SemK.load0 (by kernel_rfl) hb8 rfl ?_
          conv => whnf
          refine IfB.yes (by omega) ?_
          conv => whnf
          exact ⟨rfl, hX⟩
  · have hgood : limitsB xs = inB (n : Int) 1 9 := by rw [limitsB, lims_true (l := xs) (fun i hi => hall i (by omega)), hn]; rfl
    rw [hgood]
    conv => whnf
    refine IfB.no (by omega) ?_
    conv => whnf
    refine (impl_sizeInt _ _ _ _).mono ?_
    rintro _ _ ⟨rfl, rfl⟩
    conv => whnf
    refine (impl_inside _ _ _ _).mono ?_
    rintro _ _ ⟨rfl, rfl⟩
    conv => whnf
    exact ⟨rfl, hX⟩
theorem impl_classOf {w : World} {a : Option Addr} {n c : Nat} {xs : List Int} (h : Arr eI 1 w a n xs) (hn1 : n ≤ 1048576) (m : Int) : Does Tryz.prog 32 [.slice a n c, .int .i64 m] w (fun v w' => v = .int .i64 (classM xs m) ∧ Ext w w') := by
  have hn := h.len
  have hm := h.le
  refine Does.of_vc tabok Tryz.func32 rfl rfl rfl (by kernel_rfl) ?_; conv => whnf
  refine LoopK.rule [1, 5, 8, 9, 10] (fun (k : Nat) vs w' => vs = [.int .i64 m, .int .i64 (classM (xs.take k) m), .slice a n c, .int .i64 n, .int .i64 k] ∧ k ≤ n ∧ Ext w w') (fun k => n - k) tab tabok (by kernel_rfl) 0 ⟨rfl, by omega, Ext.refl _⟩ ?_
  rintro k g _ w3 ⟨rfl, hk, hX⟩
  have hcl : classM (xs.take k) m ≤ k := Nat.le_trans (classM_le _ _) (by simp; omega)
  rcases Nat.lt_or_ge k n with hkn | hkn
  · obtain ⟨x, hx⟩ := get_of_lt (l := xs) (k := k) (by omega)
    have hct := classM_take hx m
    by_cases hxm : x ≤ m
    · rw [if_pos hxm] at hct
      conv => whnf
      refine IfB.yes (by omega) ?_
      conv => whnf
      refine SemK.index (by kernel_rfl) (h.ext hX) k rfl hx ?_
      intro b5 o5 ha5 hb5
      conv => whnf
      refine SemK.load0 (by kernel_rfl) hb5 rfl ?_
      conv => whnf
      refine IfB.yes (by omega) ?_
      conv => whnf
      refine SemK.add (((classM (List.take k xs) m + 1 : Nat) : Int)) (by omega) (by omega) (by omega) ?_
      conv => whnf
      refine SemK.add (((k + 1 : Nat) : Int)) (by omega) (by omega) (by omega) ?_
      conv => whnf
      refine ⟨k + 1, by omega, by rw [hct]; rfl, by omega, ?_⟩
      exact hX
    · rw [if_neg hxm] at hct
      conv => whnf
      refine IfB.yes (by omega) ?_
      conv => whnf
      refine SemK.index (by kernel_rfl) (h.ext hX) k rfl hx ?_
      intro b5 o5 ha5 hb5
      conv => whnf
      refine SemK.load0 (by kernel_rfl) hb5 rfl ?_
      conv => whnf
      refine IfB.no (by omega) ?_
      conv => whnf
      refine SemK.add (((k + 1 : Nat) : Int)) (by omega) (by omega) (by omega) ?_
      conv => whnf
      refine ⟨k + 1, by omega, by rw [hct]; rfl, by omega, ?_⟩
      exact hX
  · have hall : xs.take k = xs := List.take_of_length_le (by omega)
    rw [hall]
    conv => whnf
    refine IfB.no (by omega) ?_
    conv => whnf
    exact ⟨rfl, hX⟩
theorem impl_numbersOf {w : World} {a : Option Addr} {n c : Nat} {xs : List (List Int)} (h : ArrS RCard w a n xs) {f : TField} (hf : f.ok) (ok : Bool) : Does Tryz.prog 30 [.slice a n c, .agg ⟨f.enc⟩, .bool ok] w (fun v w' => ∃ a' n' c', v = .tuple #[.slice a' n' c', .int .i64 (numbersIf ok xs f).2] ∧ NewAt w.heap.size a' ∧ Own eI w' a' n' 2 (numbersIf ok xs f).1 ∧ Ext w w') := by
  have hn := h.len
  have hm := h.le
  have h' := h
  obtain ⟨hs, hV, hE⟩ := h'
  have hl := hV.len
  cases ok
  · rw [show numbersIf false xs f = ([], 1) from rfl]
    refine Does.of_vc tabok Tryz.func30 rfl rfl rfl (by kernel_rfl) ?_; conv => whnf
    refine SemK.box ?_
    intro b1 w1 g1 l1 e1 B1
    conv => whnf
    exact ⟨_, _, _, rfl, NewAt.nil, Own.nil, e1⟩
  · cases hz1 : deckB xs
    · rw [numbersIf_deck hz1]
      refine Does.of_vc tabok Tryz.func30 rfl rfl rfl (by kernel_rfl) ?_; conv => whnf
      refine SemK.box ?_
      intro b2 w2 g2 l2 e2 B2
      conv => whnf
      refine (impl_ValidDeck (h.ext e2)).mono ?_
      rintro _ w4 ⟨rfl, e3⟩
      conv => whnf
      refine IfB.eqt (by simp [*]; done) ?_
      conv => whnf
      exact ⟨_, _, _, rfl, NewAt.nil, Own.nil, (Ext.trans e2 e3)⟩
    · have hwb := widthOf_b hz1
      have hdm := deckB_mem hz1
      cases hz2 : numFieldB f (widthOf xs)
      · rw [numbersIf_field hz1 hz2]
        refine Does.of_vc tabok Tryz.func30 rfl rfl rfl (by kernel_rfl) ?_; conv => whnf
        refine SemK.box ?_
        intro b3 w3 g3 l3 e3 B3
        conv => whnf
        refine (impl_ValidDeck (h.ext e3)).mono ?_
        rintro _ w5 ⟨rfl, e4⟩
        conv => whnf
        refine IfB.eqf (by simp [*]; done) ?_
        conv => whnf
        refine DrawK.held tabok mixed [(0, false), (1, true), (2, true), (3, true), (4, true), (5, true)] (by kernel_rfl) (by kernel_rfl) ?_
        conv => whnf
        intro w6 e6
        conv => whnf
        refine DSemK.loadAgg (n := 2) (by kernel_rfl) (B3.ext e4).cells rfl ?_
        conv => whnf
        refine (impl_deckColumns (h.ext (Ext.trans (Ext.trans e3 e4) e6))).mono ?_
        rintro _ w8 ⟨rfl, e7⟩
        conv => whnf
        refine ⟨(Ext.trans e6 e7), ?_⟩
        conv => whnf
        refine (impl_isNumberField hf (by omega) (by omega) _).mono ?_
        rintro _ w10 ⟨rfl, e9⟩
        conv => whnf
        refine ⟨(Ext.trans (Ext.trans e6 e7) e9), ?_⟩
        conv => whnf
        refine IfB.eqt (by simp [*]; done) ?_
        conv => whnf
        exact ⟨_, _, _, rfl, NewAt.nil, Own.nil, (Ext.trans (Ext.trans (Ext.trans (Ext.trans e3 e4) e6) e7) e9)⟩
      · refine Does.of_vc tabok Tryz.func30 rfl rfl rfl (by kernel_rfl) ?_; conv => whnf
        refine SemK.box ?_
        intro b3 w3 g3 l3 e3 B3
        conv => whnf
        refine (impl_ValidDeck (h.ext e3)).mono ?_
        rintro _ w5 ⟨rfl, e4⟩
        conv => whnf
        refine IfB.eqf (by simp [*]; done) ?_
        conv => whnf
        refine DrawK.held tabok mixed [(0, false), (1, true), (2, true), (3, true), (4, true), (5, true)] (by kernel_rfl) (by kernel_rfl) ?_
        conv => whnf
        intro w6 e6
        conv => whnf
        refine DSemK.loadAgg (n := 2) (by kernel_rfl) (B3.ext e4).cells rfl ?_
        conv => whnf
        refine (impl_deckColumns (h.ext (Ext.trans (Ext.trans e3 e4) e6))).mono ?_
        rintro _ w8 ⟨rfl, e7⟩
        conv => whnf
        refine ⟨(Ext.trans e6 e7), ?_⟩
        conv => whnf
        refine (impl_isNumberField hf (by omega) (by omega) _).mono ?_
        rintro _ w10 ⟨rfl, e9⟩
        conv => whnf
        refine ⟨(Ext.trans (Ext.trans e6 e7) e9), ?_⟩
        conv => whnf
        refine IfB.eqf (by simp [*]; done) ?_
        conv => whnf
        refine SemK.buildSlice mk_27 (vs := []) (by rfl) (by rfl) (by simp [Value.cells]) (by decide) ?_
        intro b11 w11 g11 l11 e11 B11
        have G11 := Grow.new0 (enc := eI) eI_len B11 g11
        conv => whnf
        have X10 : Ext w w10 := Ext.trans (Ext.trans (Ext.trans (Ext.trans e3 e4) e6) e7) e9
        refine LoopK.rule [4, 8, 28, 29, 30] (fun (k : Nat) vs w' => ∃ a1 c1, vs = [.pointer (some ⟨b3, 0, none⟩), .slice a1 k c1, .slice a n c, .int .i64 n, .int .i64 k] ∧ k ≤ n ∧ (∀ i c, i < k → xs[i]? = some c → (numOf (partOf c f)).isSome = true) ∧ Grow eI 1 w10.heap.size 2 w' a1 k c1 (numsM (xs.take k) f) ∧ Ext w10 w') (fun k => n - k) tab tabok (by kernel_rfl) 0 ⟨_, _, rfl, by omega, fun i c hi => by omega, G11, e11⟩ ?_
        rintro k g _ w12 ⟨a1, c1, rfl, hk, hall, hG, hX2⟩
        have hX := Ext.trans X10 hX2
        have lnG := hG.len
        rcases Nat.lt_or_ge k n with hkn | hkn
        · obtain ⟨d, hd⟩ := get_of_lt (l := hs) (k := k) (by omega)
          obtain ⟨y, hy, R⟩ := hE.get hd
          have hyd := hdm.2 y (List.mem_of_getElem? hy)
          have hyc := cardB_b hyd.1
          have hfy : numFieldB f y.length = true := by rw [hyd.2]; exact hz2
          have hfy2 : fieldB f y.length = true := by simp only [numFieldB, Bool.and_eq_true] at hfy; exact hfy.1
          have hfb := fieldB_b hfy2
          have hf12 : f.to_ - f.from_ ≤ 12 := by simp only [numFieldB, Bool.and_eq_true, decide_eq_true_eq] at hfy; exact hfy.2
          have A := R.1
          have hyl := A.len
          rcases numIn_cases (partOf y f) with hbad | ⟨z, hgood, hno⟩
          · rw [numbersIf_bad hz1 hz2 hy hbad]
            have hN : ∀ u, Ext w u → Does Tryz.prog 63 [.agg ⟨eH d⟩, .agg ⟨f.enc⟩] u (fun v w' => v = .tuple #[.int .i64 0, .bool false] ∧ Ext u w') := fun u e => by have h := impl_numberIn (w := u) (d := d) ⟨R.1.ext e, R.2⟩ hyc.2.2 hfy; rw [hbad] at h; exact h
            conv => whnf
            refine IfB.yes (by omega) ?_
            conv => whnf
            refine SemK.index (by kernel_rfl) (hV.ext hX) k rfl hd ?_
            intro b14 o14 ha14 hb14
            conv => whnf
            refine SemK.loadAgg (n := 1) (by kernel_rfl) hb14 rfl ?_
            conv => whnf
            refine SemK.alloc (z := .agg #[.slice none 0 0]) (by kernel_rfl) ?_
            intro b15 w15 g15 l15 e15 B15
            conv => whnf
            refine SemK.storeAll (vs := [Value.slice d.a d.n d.c]) (by kernel_rfl) B15 rfl rfl (by simp [cellish]) ?_
            intro w16 c16 B16
            conv => whnf
            refine SemK.loadAgg (n := 1) (by kernel_rfl) B16.cells rfl ?_
            conv => whnf
            refine SemK.loadAgg (n := 2) (by kernel_rfl) (B3.ext (Ext.but_trans (Ext.trans (Ext.trans (Ext.trans (Ext.trans (Ext.trans e4 e6) e7) e9) hX2) e15) c16.but (Nat.le_trans (Below.size (Ext.trans (Ext.trans (Ext.trans (Ext.trans e4 e6) e7) e9) hX2)) g15))).cells rfl ?_
            conv => whnf
            refine (hN _ (Ext.but_trans (Ext.trans hX e15) c16.but (Nat.le_trans (Below.size hX) g15))).mono ?_
            rintro _ w18 ⟨rfl, e17⟩
            conv => whnf
            exact ⟨_, _, _, rfl, NewAt.nil, Own.nil, (Ext.trans (Ext.but_trans (Ext.trans hX e15) c16.but (Nat.le_trans (Below.size hX) g15)) e17)⟩
          · have hnt := numsM_take (f := f) hy hno
            have hN : ∀ u, Ext w u → Does Tryz.prog 63 [.agg ⟨eH d⟩, .agg ⟨f.enc⟩] u (fun v w' => v = .tuple #[.int .i64 z, .bool true] ∧ Ext u w') := fun u e => by have h := impl_numberIn (w := u) (d := d) ⟨R.1.ext e, R.2⟩ hyc.2.2 hfy; rw [hgood] at h; exact h
            have hnext : ∀ i c, i < k + 1 → xs[i]? = some c → (numOf (partOf c f)).isSome = true := fun i c hi hc => by
              by_cases e : i = k
              · subst e; rw [hy] at hc; cases hc; rw [hno]; rfl
              · exact hall i c (by omega) hc
            conv => whnf
            refine IfB.yes (by omega) ?_
            conv => whnf
            refine SemK.index (by kernel_rfl) (hV.ext hX) k rfl hd ?_
            intro b14 o14 ha14 hb14
            conv => whnf
            refine SemK.loadAgg (n := 1) (by kernel_rfl) hb14 rfl ?_
            conv => whnf
            refine SemK.alloc (z := .agg #[.slice none 0 0]) (by kernel_rfl) ?_
            intro b15 w15 g15 l15 e15 B15
            conv => whnf
            refine SemK.storeAll (vs := [Value.slice d.a d.n d.c]) (by kernel_rfl) B15 rfl rfl (by simp [cellish]) ?_
            intro w16 c16 B16
            conv => whnf
            refine SemK.loadAgg (n := 1) (by kernel_rfl) B16.cells rfl ?_
            conv => whnf
            refine SemK.loadAgg (n := 2) (by kernel_rfl) (B3.ext (Ext.but_trans (Ext.trans (Ext.trans (Ext.trans (Ext.trans (Ext.trans e4 e6) e7) e9) hX2) e15) c16.but (Nat.le_trans (Below.size (Ext.trans (Ext.trans (Ext.trans (Ext.trans e4 e6) e7) e9) hX2)) g15))).cells rfl ?_
            conv => whnf
            refine (hN _ (Ext.but_trans (Ext.trans hX e15) c16.but (Nat.le_trans (Below.size hX) g15))).mono ?_
            rintro _ w18 ⟨rfl, e17⟩
            conv => whnf
            refine SemK.buildSlice mk_27 (vs := [Value.int IntKind.i64 z]) (by rfl) (by rfl) (by simp [Value.cells]) (by decide) ?_
            intro b19 w19 g19 l19 e19 B19
            have G19 := Grow.of_blk (n := 1) (enc := eI) (xs := [z]) eI_len B19 g19 rfl (by decide)
            conv => whnf
            refine SemK.appendArr0 (enc := eI) mk_27 eI_len (hG.ext (Ext.trans (Ext.trans (Ext.but_trans e15 c16.but g15) e17) e19)) (G19.own.arr eI_len) (by intro y _; simp [eI, cellish]) (by omega) (by omega) (Below.size (Ext.trans (Ext.trans (Ext.but_trans (Ext.trans hX2 e15) c16.but (Nat.le_trans (Below.size hX2) g15)) e17) e19)) ?_
            intro a20 c20 w20 G20 m20 i20
            conv => whnf
            refine SemK.add (((k + 1 : Nat) : Int)) (by omega) (by omega) (by omega) ?_
            conv => whnf
            refine ⟨k + 1, by omega, _, _, rfl, by omega, hnext, ?_, (Ext.mod_trans (Ext.trans (Ext.trans (Ext.but_trans (Ext.trans hX2 e15) c16.but (Nat.le_trans (Below.size hX2) g15)) e17) e19) m20 (blkIn_new hG.new))⟩
            · rw [hnt]; exact G20
        · obtain rfl : k = n := by omega
          rw [numbersIf_good hz1 hz2 (fun i c hi hc => hall i c (by omega) hc)]
          rw [List.take_of_length_le (by omega)] at hG
          conv => whnf
          refine IfB.no (by omega) ?_
          conv => whnf
          exact ⟨_, _, _, rfl, (hG.new.mono (Below.size X10)), hG.own, hX⟩
theorem spec_l24Numbers {w : World} {a : Option Addr} {n c : Nat} {xs : List (List Int)} (h : ArrS RCard w a n xs) {f : TField} (hf : f.ok) : Does Tryz.prog 34 [.slice a n c, .agg ⟨f.enc⟩] w (fun v w' => ∃ a' n' c', v = .tuple #[.slice a' n' c', .int .i64 (numbersIf true xs f).2] ∧ NewAt w.heap.size a' ∧ Own eI w' a' n' 2 (numbersIf true xs f).1 ∧ Ext w w') := by
  have hn := h.len
  have hm := h.le
  have h' := h
  obtain ⟨hs, hV, hE⟩ := h'
  have hl := hV.len
  cases hz1 : deckB xs
  · rw [numbersIf_deck hz1]
    refine Does.of_vc tabok Tryz.func34 rfl rfl rfl (by kernel_rfl) ?_; conv => whnf
    refine SemK.box ?_
    intro b2 w2 g2 l2 e2 B2
    conv => whnf
    refine (spec_l02Deck (h.ext e2)).mono ?_
    rintro _ w4 ⟨rfl, e3⟩
    conv => whnf
    refine IfB.eqt (by simp [*]; done) ?_
    conv => whnf
    exact ⟨_, _, _, rfl, NewAt.nil, Own.nil, (Ext.trans e2 e3)⟩
  · have hwb := widthOf_b hz1
    have hdm := deckB_mem hz1
    cases hz2 : numFieldB f (widthOf xs)
    · rw [numbersIf_field hz1 hz2]
      refine Does.of_vc tabok Tryz.func34 rfl rfl rfl (by kernel_rfl) ?_; conv => whnf
      refine SemK.box ?_
      intro b3 w3 g3 l3 e3 B3
      conv => whnf
      refine (spec_l02Deck (h.ext e3)).mono ?_
      rintro _ w5 ⟨rfl, e4⟩
      conv => whnf
      refine IfB.eqf (by simp [*]; done) ?_
      conv => whnf
      refine DrawK.held tabok mixed [(0, false), (1, true), (2, true), (3, true), (4, true)] (by kernel_rfl) (by kernel_rfl) ?_
      conv => whnf
      intro w6 e6
      conv => whnf
      refine DSemK.loadAgg (n := 2) (by kernel_rfl) (B3.ext e4).cells rfl ?_
      conv => whnf
      refine (spec_l07Width (h.ext (Ext.trans (Ext.trans e3 e4) e6))).mono ?_
      rintro _ w8 ⟨rfl, e7⟩
      conv => whnf
      refine ⟨(Ext.trans e6 e7), ?_⟩
      conv => whnf
      refine (spec_l18Field hf (by omega) (by omega) _).mono ?_
      rintro _ w10 ⟨rfl, e9⟩
      conv => whnf
      refine ⟨(Ext.trans (Ext.trans e6 e7) e9), ?_⟩
      conv => whnf
      refine IfB.eqt (by simp [*]; done) ?_
      conv => whnf
      exact ⟨_, _, _, rfl, NewAt.nil, Own.nil, (Ext.trans (Ext.trans (Ext.trans (Ext.trans e3 e4) e6) e7) e9)⟩
    · refine Does.of_vc tabok Tryz.func34 rfl rfl rfl (by kernel_rfl) ?_; conv => whnf
      refine SemK.box ?_
      intro b3 w3 g3 l3 e3 B3
      conv => whnf
      refine (spec_l02Deck (h.ext e3)).mono ?_
      rintro _ w5 ⟨rfl, e4⟩
      conv => whnf
      refine IfB.eqf (by simp [*]; done) ?_
      conv => whnf
      refine DrawK.held tabok mixed [(0, false), (1, true), (2, true), (3, true), (4, true)] (by kernel_rfl) (by kernel_rfl) ?_
      conv => whnf
      intro w6 e6
      conv => whnf
      refine DSemK.loadAgg (n := 2) (by kernel_rfl) (B3.ext e4).cells rfl ?_
      conv => whnf
      refine (spec_l07Width (h.ext (Ext.trans (Ext.trans e3 e4) e6))).mono ?_
      rintro _ w8 ⟨rfl, e7⟩
      conv => whnf
      refine ⟨(Ext.trans e6 e7), ?_⟩
      conv => whnf
      refine (spec_l18Field hf (by omega) (by omega) _).mono ?_
      rintro _ w10 ⟨rfl, e9⟩
      conv => whnf
      refine ⟨(Ext.trans (Ext.trans e6 e7) e9), ?_⟩
      conv => whnf
      refine IfB.eqf (by simp [*]; done) ?_
      conv => whnf
      refine SemK.buildSlice mk_27 (vs := []) (by rfl) (by rfl) (by simp [Value.cells]) (by decide) ?_
      intro b11 w11 g11 l11 e11 B11
      have G11 := Grow.new0 (enc := eI) eI_len B11 g11
      conv => whnf
      have X10 : Ext w w10 := Ext.trans (Ext.trans (Ext.trans (Ext.trans e3 e4) e6) e7) e9
      refine LoopK.rule [0, 3, 6, 7] (fun (k : Nat) vs w' => ∃ a1 c1, vs = [.slice a n c, .pointer (some ⟨b3, 0, none⟩), .slice a1 k c1, .int .i64 k] ∧ k ≤ n ∧ (∀ i c, i < k → xs[i]? = some c → (numOf (partOf c f)).isSome = true) ∧ Grow eI 1 w10.heap.size 2 w' a1 k c1 (numsM (xs.take k) f) ∧ Ext w10 w') (fun k => n - k) tab tabok (by kernel_rfl) 0 ⟨_, _, rfl, by omega, fun i c hi => by omega, G11, e11⟩ ?_
      rintro k g _ w12 ⟨a1, c1, rfl, hk, hall, hG, hX2⟩
      have hX := Ext.trans X10 hX2
      have lnG := hG.len
      rcases Nat.lt_or_ge k n with hkn | hkn
      · obtain ⟨d, hd⟩ := get_of_lt (l := hs) (k := k) (by omega)
        obtain ⟨y, hy, R⟩ := hE.get hd
        have hyd := hdm.2 y (List.mem_of_getElem? hy)
        have hyc := cardB_b hyd.1
        have hfy : numFieldB f y.length = true := by rw [hyd.2]; exact hz2
        have hfy2 : fieldB f y.length = true := by simp only [numFieldB, Bool.and_eq_true] at hfy; exact hfy.1
        have hfb := fieldB_b hfy2
        have hf12 : f.to_ - f.from_ ≤ 12 := by simp only [numFieldB, Bool.and_eq_true, decide_eq_true_eq] at hfy; exact hfy.2
        have A := R.1
        have hyl := A.len
        rcases numIn_cases (partOf y f) with hbad | ⟨z, hgood, hno⟩
        · rw [numbersIf_bad hz1 hz2 hy hbad]
          have hN : ∀ u a n c, Arr eI 1 u a n (partOf y f) → n ≤ 12 → Does Tryz.prog 75 [.slice a n c] u (fun v w' => v = .tuple #[.int .i64 0, .bool false] ∧ Ext u w') := fun u a n c hA h12 => by have h := spec_l03Number (w := u) (c := c) hA h12 (fun m hm => hyc.2.2 m (partOf_mem hm)); rw [hbad] at h; exact h
          conv => whnf
          refine IfB.yes (by omega) ?_
          conv => whnf
          refine DrawK.held tabok mixed [(0, false), (1, false), (2, false), (3, true), (4, true), (5, true), (6, true), (7, false), (8, false), (9, true), (10, true)] (by kernel_rfl) (by kernel_rfl) ?_
          conv => whnf
          intro w13 e13
          conv => whnf
          refine DSemK.index (by kernel_rfl) (hV.ext hX) k rfl hd ?_
          intro b15 o15 ha15 hb15
          conv => whnf
          refine SemK.loadAgg (n := 2) (by kernel_rfl) (B3.ext (Ext.trans (Ext.trans (Ext.trans (Ext.trans (Ext.trans e4 e6) e7) e9) hX2) e13)).cells rfl ?_
          conv => whnf
          refine ⟨e13, ?_⟩
          conv => whnf
          refine (spec_l02Part ⟨A.ext (Ext.trans hX e13), R.2⟩ (hb15.ext e13) hfy2).mono ?_
          rintro _ w21 ⟨a'16, c'17, rfl, A18, q19, e20⟩
          conv => whnf
          refine ⟨(Ext.trans e13 e20), ?_⟩
          conv => whnf
          refine (hN _ _ _ _ A18 (by omega)).mono ?_
          rintro _ w23 ⟨rfl, e22⟩
          conv => whnf
          refine ⟨(Ext.trans (Ext.trans e13 e20) e22), ?_⟩
          conv => whnf
          exact ⟨_, _, _, rfl, NewAt.nil, Own.nil, (Ext.trans (Ext.trans (Ext.trans hX e13) e20) e22)⟩
        · have hnt := numsM_take (f := f) hy hno
          have hN : ∀ u a n c, Arr eI 1 u a n (partOf y f) → n ≤ 12 → Does Tryz.prog 75 [.slice a n c] u (fun v w' => v = .tuple #[.int .i64 z, .bool true] ∧ Ext u w') := fun u a n c hA h12 => by have h := spec_l03Number (w := u) (c := c) hA h12 (fun m hm => hyc.2.2 m (partOf_mem hm)); rw [hgood] at h; exact h
          have hnext : ∀ i c, i < k + 1 → xs[i]? = some c → (numOf (partOf c f)).isSome = true := fun i c hi hc => by
            by_cases e : i = k
            · subst e; rw [hy] at hc; cases hc; rw [hno]; rfl
            · exact hall i c (by omega) hc
          conv => whnf
          refine IfB.yes (by omega) ?_
          conv => whnf
          refine DrawK.held tabok mixed [(0, false), (1, false), (2, false), (3, true), (4, true), (5, true), (6, true), (7, false), (8, false), (9, true), (10, true)] (by kernel_rfl) (by kernel_rfl) ?_
          conv => whnf
          intro w13 e13
          conv => whnf
          refine DSemK.index (by kernel_rfl) (hV.ext hX) k rfl hd ?_
          intro b15 o15 ha15 hb15
          conv => whnf
          refine SemK.loadAgg (n := 2) (by kernel_rfl) (B3.ext (Ext.trans (Ext.trans (Ext.trans (Ext.trans (Ext.trans e4 e6) e7) e9) hX2) e13)).cells rfl ?_
          conv => whnf
          refine ⟨e13, ?_⟩
          conv => whnf
          refine (spec_l02Part ⟨A.ext (Ext.trans hX e13), R.2⟩ (hb15.ext e13) hfy2).mono ?_
          rintro _ w21 ⟨a'16, c'17, rfl, A18, q19, e20⟩
          conv => whnf
          refine ⟨(Ext.trans e13 e20), ?_⟩
          conv => whnf
          refine (hN _ _ _ _ A18 (by omega)).mono ?_
          rintro _ w23 ⟨rfl, e22⟩
          conv => whnf
          refine ⟨(Ext.trans (Ext.trans e13 e20) e22), ?_⟩
          conv => whnf
          refine SemK.buildSlice mk_27 (vs := [Value.int IntKind.i64 z]) (by rfl) (by rfl) (by simp [Value.cells]) (by decide) ?_
          intro b24 w24 g24 l24 e24 B24
          have G24 := Grow.of_blk (n := 1) (enc := eI) (xs := [z]) eI_len B24 g24 rfl (by decide)
          conv => whnf
          refine SemK.appendArr0 (enc := eI) mk_27 eI_len (hG.ext (Ext.trans (Ext.trans (Ext.trans e13 e20) e22) e24)) (G24.own.arr eI_len) (by intro y _; simp [eI, cellish]) (by omega) (by omega) (Below.size (Ext.trans (Ext.trans (Ext.trans (Ext.trans hX2 e13) e20) e22) e24)) ?_
          intro a25 c25 w25 G25 m25 i25
          conv => whnf
          refine SemK.add (((k + 1 : Nat) : Int)) (by omega) (by omega) (by omega) ?_
          conv => whnf
          refine ⟨k + 1, by omega, _, _, rfl, by omega, hnext, ?_, (Ext.mod_trans (Ext.trans (Ext.trans (Ext.trans (Ext.trans hX2 e13) e20) e22) e24) m25 (blkIn_new hG.new))⟩
          · rw [hnt]; exact G25
      · obtain rfl : k = n := by omega
        rw [numbersIf_good hz1 hz2 (fun i c hi hc => hall i c (by omega) hc)]
        rw [List.take_of_length_le (by omega)] at hG
        conv => whnf
        refine IfB.no (by omega) ?_
        conv => whnf
        exact ⟨_, _, _, rfl, (hG.new.mono (Below.size X10)), hG.own, hX⟩
theorem spec_CountClasses {w : World} {a : Option Addr} {n c : Nat} {xs : List (List Int)} (h : ArrS RCard w a n xs) {f : TField} (hf : f.ok) {al : Option Addr} {nl cl : Nat} {ls : List Int} (hl : Arr eI 1 w al nl ls) : Does Tryz.prog 7 [.slice a n c, .agg ⟨f.enc⟩, .slice al nl cl] w (fun v w' => ∃ a' n' c', v = .tuple #[.slice a' n' c', .int .i64 (countClassesM xs f ls).2] ∧ NewAt w.heap.size a' ∧ Own eI w' a' n' 2 (countClassesM xs f ls).1 ∧ Ext w w') := by
  have hn := h.len
  have hm := h.le
  have hln := hl.len
  have hlm := hl.le
  have hA : ∀ u, Ext w u → Does Tryz.prog 33 [.slice al nl cl] u (fun v w' => v = .bool (limitsB ls) ∧ Ext u w') := fun u e => spec_l24Limits (hl.ext e)
  cases hz1 : limitsB ls
  · rw [countClasses_limits hz1]
    rw [hz1] at hA
    refine Does.of_vc tabok Tryz.func7 rfl rfl rfl (by kernel_rfl) ?_; conv => whnf
    refine SemK.box ?_
    intro b2 w2 g2 l2 e2 B2
    conv => whnf
    refine (hA _ e2).mono ?_
    rintro _ w4 ⟨rfl, e3⟩
    conv => whnf
    exact ⟨_, _, _, rfl, NewAt.nil, Own.nil, (Ext.trans e2 e3)⟩
  · rw [hz1] at hA
    have hlb := limitsB_b hz1
    obtain ⟨L, cd, hr⟩ : ∃ L cd, numbersIf true xs f = (L, cd) := ⟨_, _, rfl⟩
    have hN : ∀ u, Ext w u → Does Tryz.prog 34 [.slice a n c, .agg ⟨f.enc⟩] u (fun v w' => ∃ a' n' c', v = .tuple #[.slice a' n' c', .int .i64 cd] ∧ NewAt u.heap.size a' ∧ Own eI w' a' n' 2 L ∧ Ext u w') := fun u e => by
      have h2 := spec_l24Numbers (c := c) (h.ext e) hf
      rw [hr] at h2
      exact h2
    have hC : ∀ u, Ext w u → ∀ m, Does Tryz.prog 35 [.slice al nl cl, .int .i64 m] u (fun v w' => v = .int .i64 (classM ls m) ∧ Ext u w') := fun u e m => spec_l24Class (hl.ext e) hlb.2.2 m
    by_cases hc : cd = 0
    · subst hc
      rw [countClasses_good hz1 hr]
      refine Does.of_vc tabok Tryz.func7 rfl rfl rfl (by kernel_rfl) ?_; conv => whnf
      refine SemK.box ?_
      intro b2 w2 g2 l2 e2 B2
      conv => whnf
      refine (hA _ e2).mono ?_
      rintro _ w4 ⟨rfl, e3⟩
      conv => whnf
      refine SemK.loadAgg (n := 2) (by kernel_rfl) (B2.ext e3).cells rfl ?_
      conv => whnf
      refine (hN _ (Ext.trans e2 e3)).mono ?_
      rintro _ w11 ⟨a'5, n'6, c'7, rfl, N8, O9, e10⟩
      conv => whnf
      refine SemK.add (((nl + 1 : Nat) : Int)) (by omega) (by omega) (by omega) ?_
      conv => whnf
      refine SemK.make mk_27 (nl + 1) rfl (by omega) (by omega) ?_
      intro b12 w12 g12 l12 e12 B12
      have G12 := Grow.of_make (enc := eI) (z := (0 : Int)) eI_len rfl B12 g12 (by omega)
      conv => whnf
      have lnO := O9.1
      have lmO := (O9.arr eI_len).le
      have X11 : Ext w w11 := Ext.trans (Ext.trans e2 e3) e10
      have hT0 : Grow eI 1 w11.heap.size 2 w12 (some ⟨b12, 0, none⟩) (nl + 1) (nl + 1) (tally ls (L.take 0)) := by
        rw [List.take_zero, tally_nil, hln]; exact G12
      refine LoopK.rule [2, 8, 10, 11] (fun (k : Nat) vs w' => vs = [.slice al nl cl, .slice a'5 n'6 c'7, .slice (some ⟨b12, 0, none⟩) (nl + 1) (nl + 1), .int .i64 k] ∧ k ≤ n'6 ∧ Grow eI 1 w11.heap.size 2 w' (some ⟨b12, 0, none⟩) (nl + 1) (nl + 1) (tally ls (L.take k)) ∧ Ext w11 w') (fun k => n'6 - k) tab tabok (by kernel_rfl) 0 ⟨rfl, by omega, hT0, e12⟩ ?_
      rintro k g _ w20 ⟨rfl, hk, hG, hX2⟩
      have hX := Ext.trans X11 hX2
      rcases Nat.lt_or_ge k n'6 with hkn | hkn
      · obtain ⟨x, hx⟩ := get_of_lt (l := L) (k := k) (by omega)
        have hcx := classM_le ls x
        have htg := tally_get ls (L.take k) (k := classM ls x) (by omega)
        have htk : L.take (k + 1) = L.take k ++ [x] := by rw [List.take_add_one, hx]; rfl
        have hts := tally_snoc ls (L.take k) x
        rw [← htk] at hts
        have hcb : (L.take k).countP (fun m => decide (classM ls m = classM ls x)) ≤ k := Nat.le_trans List.countP_le_length (by simp; omega)
        generalize (L.take k).countP (fun m => decide (classM ls m = classM ls x)) = cnt at *
        conv => whnf
        refine IfB.yes (by omega) ?_
        conv => whnf
        obtain ⟨b22, rfl⟩ := ((O9.ext hX2)).some (by omega)
        have lb22 : b22 < w11.heap.size := O9.lt _ rfl
        refine SemK.indexOwn (sz := 1) (by kernel_rfl) k rfl (by omega) ?_
        have hb22 := Own.elem eI_len (O9.ext hX2) hx
        conv => whnf
        refine SemK.load0 (by kernel_rfl) hb22 rfl ?_
        conv => whnf
        refine (hC _ hX _).mono ?_
        rintro _ w24 ⟨rfl, e23⟩
        conv => whnf
        refine SemK.indexOwn (sz := 1) (by kernel_rfl) (classM ls x) rfl (by omega) ?_
        have hb26 := Own.elem eI_len (hG.ext e23).own htg
        conv => whnf
        refine SemK.load0 (by kernel_rfl) hb26 rfl ?_
        conv => whnf
        refine SemK.add (((cnt + 1 : Nat) : Int)) (by omega) (by omega) (by omega) ?_
        conv => whnf
        refine SemK.indexOwn (sz := 1) (by kernel_rfl) (classM ls x) rfl (by omega) ?_
        have hb28 := Own.elem eI_len (hG.ext e23).own htg
        conv => whnf
        refine SemK.storeGrow1 (k := classM ls x) (j := 0) (by kernel_rfl) eI_len (hG.ext e23) htg (by decide) rfl (↑(cnt + 1)) rfl ?_
        intro w29 c29 B29
        have hx29 := set_get htg ((↑(cnt + 1)))
        conv => whnf
        refine SemK.add (((k + 1 : Nat) : Int)) (by omega) (by omega) (by omega) ?_
        conv => whnf
        refine ⟨k + 1, by omega, rfl, by omega, ?_, (Ext.but_trans (Ext.trans hX2 e23) c29.but g12)⟩
        · rw [hts, show ((cnt : Int) + 1) = ((cnt + 1 : Nat) : Int) from by omega]; exact B29
      · obtain rfl : k = n'6 := by omega
        rw [List.take_of_length_le (by omega)] at hG
        conv => whnf
        refine IfB.no (by omega) ?_
        conv => whnf
        exact ⟨_, _, _, rfl, (hG.new.mono (Below.size X11)), hG.own, hX⟩
    · rw [countClasses_bad hz1 hr hc]
      refine Does.of_vc tabok Tryz.func7 rfl rfl rfl (by kernel_rfl) ?_; conv => whnf
      refine SemK.box ?_
      intro b2 w2 g2 l2 e2 B2
      conv => whnf
      refine (hA _ e2).mono ?_
      rintro _ w4 ⟨rfl, e3⟩
      conv => whnf
      refine SemK.loadAgg (n := 2) (by kernel_rfl) (B2.ext e3).cells rfl ?_
      conv => whnf
      refine (hN _ (Ext.trans e2 e3)).mono ?_
      rintro _ w11 ⟨a'5, n'6, c'7, rfl, N8, O9, e10⟩
      conv => whnf
      refine IfB.eqt (by simp [*]; done) ?_
      conv => whnf
      exact ⟨_, _, _, rfl, NewAt.nil, Own.nil, (Ext.trans (Ext.trans e2 e3) e10)⟩
theorem impl_CountClasses {w : World} {a : Option Addr} {n c : Nat} {xs : List (List Int)} (h : ArrS RCard w a n xs) {f : TField} (hf : f.ok) {al : Option Addr} {nl cl : Nat} {ls : List Int} (hl : Arr eI 1 w al nl ls) (hl1 : nl ≤ 1048576) : Does Tryz.prog 6 [.slice a n c, .agg ⟨f.enc⟩, .slice al nl cl] w (fun v w' => ∃ a' n' c', v = .tuple #[.slice a' n' c', .int .i64 (countClassesM xs f ls).2] ∧ NewAt w.heap.size a' ∧ Own eI w' a' n' 2 (countClassesM xs f ls).1 ∧ Ext w w') := by
  have hn := h.len
  have hm := h.le
  have hln := hl.len
  have hlm := hl.le
  have hA : ∀ u, Ext w u → Does Tryz.prog 31 [.slice al nl cl] u (fun v w' => v = .bool (limitsB ls) ∧ Ext u w') := fun u e => impl_areLimits (hl.ext e)
  cases hz1 : limitsB ls
  · rw [countClasses_limits hz1]
    rw [hz1] at hA
    have hN : ∀ u, Ext w u → Does Tryz.prog 30 [.slice a n c, .agg ⟨f.enc⟩, .bool false] u (fun v w' => ∃ a' n' c', v = .tuple #[.slice a' n' c', .int .i64 1] ∧ NewAt u.heap.size a' ∧ Own eI w' a' n' 2 [] ∧ Ext u w') := fun u e => impl_numbersOf (c := c) (h.ext e) hf false
    refine Does.of_vc tabok Tryz.func6 rfl rfl rfl (by kernel_rfl) ?_; conv => whnf
    refine SemK.box ?_
    intro b2 w2 g2 l2 e2 B2
    conv => whnf
    refine DrawK.held tabok mixed [(0, false), (1, false), (2, true), (3, true), (4, true), (5, true), (6, false), (7, false), (8, true), (9, true)] (by kernel_rfl) (by kernel_rfl) ?_
    conv => whnf
    intro w3 e3
    conv => whnf
    refine DSemK.loadAgg (n := 2) (by kernel_rfl) B2.cells rfl ?_
    conv => whnf
    refine (hA _ (Ext.trans e2 e3)).mono ?_
    rintro _ w5 ⟨rfl, e4⟩
    conv => whnf
    refine ⟨(Ext.trans e3 e4), ?_⟩
    conv => whnf
    refine (hN _ (Ext.trans (Ext.trans e2 e3) e4)).mono ?_
    rintro _ w12 ⟨a'6, n'7, c'8, rfl, N9, O10, e11⟩
    conv => whnf
    refine ⟨(Ext.trans (Ext.trans e3 e4) e11), ?_⟩
    conv => whnf
    exact ⟨_, _, _, rfl, NewAt.nil, Own.nil, (Ext.trans (Ext.trans (Ext.trans e2 e3) e4) e11)⟩
  · rw [hz1] at hA
    have hlb := limitsB_b hz1
    obtain ⟨L, cd, hr⟩ : ∃ L cd, numbersIf true xs f = (L, cd) := ⟨_, _, rfl⟩
    have hN : ∀ u, Ext w u → Does Tryz.prog 30 [.slice a n c, .agg ⟨f.enc⟩, .bool true] u (fun v w' => ∃ a' n' c', v = .tuple #[.slice a' n' c', .int .i64 cd] ∧ NewAt u.heap.size a' ∧ Own eI w' a' n' 2 L ∧ Ext u w') := fun u e => by
      have h2 := impl_numbersOf (c := c) (h.ext e) hf true
      rw [hr] at h2
      exact h2
    have hC : ∀ u, Ext w u → ∀ m, Does Tryz.prog 32 [.slice al nl cl, .int .i64 m] u (fun v w' => v = .int .i64 (classM ls m) ∧ Ext u w') := fun u e m => impl_classOf (hl.ext e) hl1 m
    by_cases hc : cd = 0
    · subst hc
      rw [countClasses_good hz1 hr]
      refine Does.of_vc tabok Tryz.func6 rfl rfl rfl (by kernel_rfl) ?_; conv => whnf
      refine SemK.box ?_
      intro b2 w2 g2 l2 e2 B2
      conv => whnf
      refine DrawK.held tabok mixed [(0, false), (1, false), (2, true), (3, true), (4, true), (5, true), (6, false), (7, false), (8, true), (9, true)] (by kernel_rfl) (by kernel_rfl) ?_
      conv => whnf
      intro w3 e3
      conv => whnf
      refine DSemK.loadAgg (n := 2) (by kernel_rfl) B2.cells rfl ?_
      conv => whnf
      refine (hA _ (Ext.trans e2 e3)).mono ?_
      rintro _ w5 ⟨rfl, e4⟩
      conv => whnf
      refine ⟨(Ext.trans e3 e4), ?_⟩
      conv => whnf
      refine (hN _ (Ext.trans (Ext.trans e2 e3) e4)).mono ?_
      rintro _ w12 ⟨a'6, n'7, c'8, rfl, N9, O10, e11⟩
      conv => whnf
      refine ⟨(Ext.trans (Ext.trans e3 e4) e11), ?_⟩
      conv => whnf
      refine SemK.add (((nl + 1 : Nat) : Int)) (by omega) (by omega) (by omega) ?_
      conv => whnf
      refine SemK.make mk_27 (nl + 1) rfl (by omega) (by omega) ?_
      intro b13 w13 g13 l13 e13 B13
      have G13 := Grow.of_make (enc := eI) (z := (0 : Int)) eI_len rfl B13 g13 (by omega)
      conv => whnf
      have lnO := O10.1
      have lmO := (O10.arr eI_len).le
      have X11 : Ext w w12 := Ext.trans (Ext.trans (Ext.trans e2 e3) e4) e11
      have hT0 : Grow eI 1 w12.heap.size 2 w13 (some ⟨b13, 0, none⟩) (nl + 1) (nl + 1) (tally ls (L.take 0)) := by
        rw [List.take_zero, tally_nil, hln]; exact G13
      refine LoopK.rule [2, 10, 28, 29, 30] (fun (k : Nat) vs w' => vs = [.slice al nl cl, .slice (some ⟨b13, 0, none⟩) (nl + 1) (nl + 1), .slice a'6 n'7 c'8, .int .i64 n'7, .int .i64 k] ∧ k ≤ n'7 ∧ Grow eI 1 w12.heap.size 2 w' (some ⟨b13, 0, none⟩) (nl + 1) (nl + 1) (tally ls (L.take k)) ∧ Ext w12 w') (fun k => n'7 - k) tab tabok (by kernel_rfl) 0 ⟨rfl, by omega, hT0, e13⟩ ?_
      rintro k g _ w20 ⟨rfl, hk, hG, hX2⟩
      have hX := Ext.trans X11 hX2
      rcases Nat.lt_or_ge k n'7 with hkn | hkn
      · obtain ⟨x, hx⟩ := get_of_lt (l := L) (k := k) (by omega)
        have hcx := classM_le ls x
        have htg := tally_get ls (L.take k) (k := classM ls x) (by omega)
        have htk : L.take (k + 1) = L.take k ++ [x] := by rw [List.take_add_one, hx]; rfl
        have hts := tally_snoc ls (L.take k) x
        rw [← htk] at hts
        have hcb : (L.take k).countP (fun m => decide (classM ls m = classM ls x)) ≤ k := Nat.le_trans List.countP_le_length (by simp; omega)
        generalize (L.take k).countP (fun m => decide (classM ls m = classM ls x)) = cnt at *
        conv => whnf
        refine IfB.yes (by omega) ?_
        conv => whnf
        obtain ⟨b22, rfl⟩ := ((O10.ext hX2)).some (by omega)
        have lb22 : b22 < w12.heap.size := O10.lt _ rfl
        refine SemK.indexOwn (sz := 1) (by kernel_rfl) k rfl (by omega) ?_
        have hb22 := Own.elem eI_len (O10.ext hX2) hx
        conv => whnf
        refine SemK.load0 (by kernel_rfl) hb22 rfl ?_
        conv => whnf
        refine (hC _ hX _).mono ?_
        rintro _ w24 ⟨rfl, e23⟩
        conv => whnf
        refine SemK.indexOwn (sz := 1) (by kernel_rfl) (classM ls x) rfl (by omega) ?_
        have hb26 := Own.elem eI_len (hG.ext e23).own htg
        conv => whnf
        refine SemK.load0 (by kernel_rfl) hb26 rfl ?_
        conv => whnf
        refine SemK.add (((cnt + 1 : Nat) : Int)) (by omega) (by omega) (by omega) ?_
        conv => whnf
        refine SemK.indexOwn (sz := 1) (by kernel_rfl) (classM ls x) rfl (by omega) ?_
        have hb28 := Own.elem eI_len (hG.ext e23).own htg
        conv => whnf
        refine SemK.storeGrow1 (k := classM ls x) (j := 0) (by kernel_rfl) eI_len (hG.ext e23) htg (by decide) rfl (↑(cnt + 1)) rfl ?_
        intro w29 c29 B29
        have hx29 := set_get htg ((↑(cnt + 1)))
        conv => whnf
        refine SemK.add (((k + 1 : Nat) : Int)) (by omega) (by omega) (by omega) ?_
        conv => whnf
        refine ⟨k + 1, by omega, rfl, by omega, ?_, (Ext.but_trans (Ext.trans hX2 e23) c29.but g13)⟩
        · rw [hts, show ((cnt : Int) + 1) = ((cnt + 1 : Nat) : Int) from by omega]; exact B29
      · obtain rfl : k = n'7 := by omega
        rw [List.take_of_length_le (by omega)] at hG
        conv => whnf
        refine IfB.no (by omega) ?_
        conv => whnf
        exact ⟨_, _, _, rfl, (hG.new.mono (Below.size X11)), hG.own, hX⟩
    · rw [countClasses_bad hz1 hr hc]
      refine Does.of_vc tabok Tryz.func6 rfl rfl rfl (by kernel_rfl) ?_; conv => whnf
      refine SemK.box ?_
      intro b2 w2 g2 l2 e2 B2
      conv => whnf
      refine DrawK.held tabok mixed [(0, false), (1, false), (2, true), (3, true), (4, true), (5, true), (6, false), (7, false), (8, true), (9, true)] (by kernel_rfl) (by kernel_rfl) ?_
      conv => whnf
      intro w3 e3
      conv => whnf
      refine DSemK.loadAgg (n := 2) (by kernel_rfl) B2.cells rfl ?_
      conv => whnf
      refine (hA _ (Ext.trans e2 e3)).mono ?_
      rintro _ w5 ⟨rfl, e4⟩
      conv => whnf
      refine ⟨(Ext.trans e3 e4), ?_⟩
      conv => whnf
      refine (hN _ (Ext.trans (Ext.trans e2 e3) e4)).mono ?_
      rintro _ w12 ⟨a'6, n'7, c'8, rfl, N9, O10, e11⟩
      conv => whnf
      refine ⟨(Ext.trans (Ext.trans e3 e4) e11), ?_⟩
      conv => whnf
      refine IfB.eqt (by simp [*]; done) ?_
      conv => whnf
      exact ⟨_, _, _, rfl, NewAt.nil, Own.nil, (Ext.trans (Ext.trans (Ext.trans e2 e3) e4) e11)⟩
end Go.Proofs.YtfgbijddjoojbaaGreat