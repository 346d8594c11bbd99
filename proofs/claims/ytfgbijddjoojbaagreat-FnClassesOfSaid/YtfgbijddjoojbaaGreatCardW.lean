/- Contracts of functions of the given program, of the reference and of the laws: each says what a call returns, for all arguments that meet the premises that the theorem itself names. -/
import Derived.Test.YtfgbijddjoojbaaGreatCardsM
import Derived.Test.YtfgbijddjoojbaaGreatBasics
import Derived.Test.YtfgbijddjoojbaaGreatVcApp
import Derived.Test.YtfgbijddjoojbaaGreatLibSl
import Derived.Test.YtfgbijddjoojbaaGreatNest
namespace Go.Proofs.YtfgbijddjoojbaaGreat
open Go Go.RowKit Go.Vc Go.M
theorem impl_ValidCard1 (x : Int) (w : World) : Does Tryz.prog 129 [.int .i64 x] w (fun v w' => v = .bool (!inB x 0 4095) ∧ Ext w w') := by
  refine Does.of_vc tabok Tryz.func129 rfl rfl rfl (by kernel_rfl) ?_; conv => whnf
  refine (impl_inside _ _ _ _).mono ?_
  rintro _ _ ⟨rfl, rfl⟩
  conv => whnf
  exact ⟨rfl, Ext.refl _⟩
theorem impl_sizeInt (a : Option Addr) (n c : Nat) (w : World) : Does Tryz.prog 71 [.slice a n c] w (fun v w' => v = .int .i64 n ∧ w = w') := by
  refine Does.of_vc tabok Tryz.func71 rfl rfl rfl (by kernel_rfl) ?_; conv => whnf
  exact ⟨rfl, rfl⟩
theorem impl_columns {w : World} (d : Hd) : Does Tryz.prog 95 [.agg ⟨eH d⟩] w (fun v w' => v = .int .i64 d.n ∧ Ext w w') := by
  refine Does.of_vc tabok Tryz.func95 rfl rfl rfl (by kernel_rfl) ?_; conv => whnf
  refine SemK.box ?_
  intro b1 w1 g1 l1 e1 B1
  conv => whnf
  refine SemK.load1 (by kernel_rfl) B1.cells (k := 0) rfl ?_
  conv => whnf
  refine (impl_sizeInt _ _ _ _).mono ?_
  rintro _ _ ⟨rfl, rfl⟩
  conv => whnf
  exact ⟨rfl, e1⟩
theorem impl_ValidCard {w : World} {d : Hd} {xs : List Int} (A : Arr eI 1 w d.a d.n xs) : Does Tryz.prog 94 [.agg ⟨eH d⟩] w (fun v w' => v = .bool (cardB xs) ∧ Ext w w') := by
  have hn := A.len
  have hC : ∀ u, Ext w u → ∀ c, Does Tryz.prog 80 [.slice d.a d.n c, .func (.func 129) ⟨[]⟩ ⟨[]⟩] u (fun v w' => v = .bool (xs.any (fun n => !inB n 0 4095)) ∧ Ext u w') := fun u e c => lib_ContainsFuncInt (A.ext e) (p := fun n => !inB n 0 4095) (cap := []) (fun x _ w' _ => impl_ValidCard1 x w')
  have hany : xs.any (fun n => !inB n 0 4095) = !(xs.all fun m => inB m 0 4095) := by rw [List.not_all_eq_any_not]
  unfold cardB
  by_cases h1 : 1 ≤ xs.length ∧ xs.length ≤ 20
  · have hin : inB (d.n : Int) 1 20 = true := by simp [inB]; omega
    refine Does.of_vc tabok Tryz.func94 rfl rfl rfl (by kernel_rfl) ?_; conv => whnf
    refine SemK.box ?_
    intro b2 w2 g2 l2 e2 B2
    conv => whnf
    refine SemK.loadAgg (n := 1) (by kernel_rfl) B2.cells rfl ?_
    conv => whnf
    refine (impl_columns _).mono ?_
    rintro _ w4 ⟨rfl, e3⟩
    conv => whnf
    refine (impl_inside _ _ _ _).mono ?_
    rintro _ _ ⟨rfl, rfl⟩
    conv => whnf
    refine IfB.eqt (by simp [*]; done) ?_
    conv => whnf
    refine SemK.load1 (by kernel_rfl) (B2.ext e3).cells (k := 0) rfl ?_
    conv => whnf
    refine (hC _ (Ext.trans e2 e3) _).mono ?_
    rintro _ w7 ⟨rfl, e6⟩
    conv => whnf
    exact ⟨by simp_all, (Ext.trans (Ext.trans e2 e3) e6)⟩
  · have hin : inB (d.n : Int) 1 20 = false := by
      cases hc : inB (d.n : Int) 1 20 with
      | false => rfl
      | true => have := inB_true hc; omega
    have hfa : (decide (1 ≤ xs.length) && decide (xs.length ≤ 20)) = false := by
      rw [Bool.and_eq_false_iff, decide_eq_false_iff_not, decide_eq_false_iff_not]; omega
    refine Does.of_vc tabok Tryz.func94 rfl rfl rfl (by kernel_rfl) ?_; conv => whnf
    refine SemK.box ?_
    intro b2 w2 g2 l2 e2 B2
    conv => whnf
    refine SemK.loadAgg (n := 1) (by kernel_rfl) B2.cells rfl ?_
    conv => whnf
    refine (impl_columns _).mono ?_
    rintro _ w4 ⟨rfl, e3⟩
    conv => whnf
    refine (impl_inside _ _ _ _).mono ?_
    rintro _ _ ⟨rfl, rfl⟩
    conv => whnf
    refine IfB.eqf (by simp [*]; done) ?_
    conv => whnf
    refine ⟨?_, (Ext.trans e2 e3)⟩
    · rw [hfa, Bool.false_and]
theorem impl_ValidDeck {w : World} {a : Option Addr} {n c : Nat} {xs : List (List Int)} (h : ArrS RCard w a n xs) : Does Tryz.prog 53 [.slice a n c] w (fun v w' => v = .bool (deckB xs) ∧ Ext w w') := by
  have hn := h.len
  have hm := h.le
  obtain ⟨hs, hV, hE⟩ := h
  have hl := hV.len
  refine Does.of_vc tabok Tryz.func53 rfl rfl rfl (by kernel_rfl) ?_; conv => whnf
  refine LoopK.rule [0, 5, 6, 7] (fun (k : Nat) vs w' => vs = [.slice a n c, .slice a n c, .int .i64 n, .int .i64 k] ∧ k ≤ n ∧ (List.range k).all (cardAt xs) = true ∧ Ext w w') (fun k => n - k) tab tabok (by kernel_rfl) 0 ⟨rfl, by omega, by simp, Ext.refl _⟩ ?_
  rintro k g _ w3 ⟨rfl, hk, hall, hX⟩
  rcases Nat.lt_or_ge k n with hkn | hkn
  · obtain ⟨d, hd⟩ := get_of_lt (l := hs) (k := k) (by omega)
    obtain ⟨y, hy, R⟩ := hE.get hd
    obtain ⟨d0, hd0⟩ := get_of_lt (l := hs) (k := 0) (by omega)
    obtain ⟨y0, hy0, R0⟩ := hE.get hd0
    have A := R.1
    have hyl := A.len
    have hyl0 := R0.1.len
    have hca := cardAt_first hy hy0
    cases hz1 : cardB y
    · have hdf : deckB xs = false := deckB_false (k := k) (by omega) (by simp [hca, hz1])
      conv => whnf
      refine IfB.yes (by omega) ?_
      conv => whnf
      refine SemK.index (by kernel_rfl) (hV.ext hX) k rfl hd ?_
      intro b5 o5 ha5 hb5
      conv => whnf
      refine SemK.loadAgg (n := 1) (by kernel_rfl) hb5 rfl ?_
      conv => whnf
      refine SemK.alloc (z := .agg #[.slice none 0 0]) (by kernel_rfl) ?_
      intro b6 w6 g6 l6 e6 B6
      conv => whnf
      refine SemK.storeAll (vs := [Value.slice d.a d.n d.c]) (by kernel_rfl) B6 rfl rfl (by simp [cellish]) ?_
      intro w7 c7 B7
      conv => whnf
      refine DrawK.held tabok mixed [(0, true), (1, true), (2, true), (3, true), (4, false), (6, false), (7, false), (8, false), (5, true), (9, true), (10, true), (11, true)] (by kernel_rfl) (by kernel_rfl) ?_
      conv => whnf
      intro w8 e8
      conv => whnf
      refine SemK.loadAgg (n := 1) (by kernel_rfl) (B7.ext e8).cells rfl ?_
      conv => whnf
      refine ⟨e8, ?_⟩
      conv => whnf
      refine (impl_ValidCard (A.ext (Ext.trans (Ext.but_trans (Ext.trans hX e6) c7.but (Nat.le_trans (Below.size hX) g6)) e8))).mono ?_
      rintro _ w10 ⟨rfl, e9⟩
      conv => whnf
      refine ⟨(Ext.trans e8 e9), ?_⟩
      conv => whnf
      refine IfB.eqt (by simp [*]; done) ?_
      conv => whnf
      exact ⟨by simp only [*], (Ext.trans (Ext.trans (Ext.but_trans (Ext.trans hX e6) c7.but (Nat.le_trans (Below.size hX) g6)) e8) e9)⟩
    · by_cases hz2 : d.n = d0.n
      · have hst : (List.range (k + 1)).all (cardAt xs) = true := by
          rw [List.range_succ, List.all_append, hall]
          simp [hca, hz1]
          omega
        conv => whnf
        refine IfB.yes (by omega) ?_
        conv => whnf
        refine SemK.index (by kernel_rfl) (hV.ext hX) k rfl hd ?_
        intro b5 o5 ha5 hb5
        conv => whnf
        refine SemK.loadAgg (n := 1) (by kernel_rfl) hb5 rfl ?_
        conv => whnf
        refine SemK.alloc (z := .agg #[.slice none 0 0]) (by kernel_rfl) ?_
        intro b6 w6 g6 l6 e6 B6
        conv => whnf
        refine SemK.storeAll (vs := [Value.slice d.a d.n d.c]) (by kernel_rfl) B6 rfl rfl (by simp [cellish]) ?_
        intro w7 c7 B7
        conv => whnf
        refine DrawK.held tabok mixed [(0, true), (1, true), (2, true), (3, true), (4, false), (6, false), (7, false), (8, false), (5, true), (9, true), (10, true), (11, true)] (by kernel_rfl) (by kernel_rfl) ?_
        conv => whnf
        intro w8 e8
        conv => whnf
        refine SemK.loadAgg (n := 1) (by kernel_rfl) (B7.ext e8).cells rfl ?_
        conv => whnf
        refine ⟨e8, ?_⟩
        conv => whnf
        refine (impl_ValidCard (A.ext (Ext.trans (Ext.but_trans (Ext.trans hX e6) c7.but (Nat.le_trans (Below.size hX) g6)) e8))).mono ?_
        rintro _ w10 ⟨rfl, e9⟩
        conv => whnf
        refine ⟨(Ext.trans e8 e9), ?_⟩
        conv => whnf
        refine IfB.eqf (by simp [*]; done) ?_
        conv => whnf
        refine DSemK.loadAgg (n := 1) (by kernel_rfl) B7.cells rfl ?_
        conv => whnf
        refine DSemK.index (by kernel_rfl) (hV.ext (Ext.but_trans (Ext.trans hX e6) c7.but (Nat.le_trans (Below.size hX) g6))) 0 rfl hd0 ?_
        intro b12 o12 ha12 hb12
        conv => whnf
        refine DSemK.loadAgg (n := 1) (by kernel_rfl) hb12 rfl ?_
        conv => whnf
        refine (impl_columns _).mono ?_
        rintro _ w14 ⟨rfl, e13⟩
        conv => whnf
        refine ⟨(Ext.trans (Ext.trans e8 e9) e13), ?_⟩
        conv => whnf
        refine (impl_columns _).mono ?_
        rintro _ w16 ⟨rfl, e15⟩
        conv => whnf
        refine ⟨(Ext.trans (Ext.trans (Ext.trans e8 e9) e13) e15), ?_⟩
        conv => whnf
        refine IfB.eqf (by simp [*]; done) ?_
        conv => whnf
        refine SemK.add (((k + 1 : Nat) : Int)) (by omega) (by omega) (by omega) ?_
        conv => whnf
        exact ⟨k + 1, by omega, rfl, by omega, by omega, (Ext.trans (Ext.trans (Ext.trans (Ext.trans (Ext.but_trans (Ext.trans hX e6) c7.but (Nat.le_trans (Below.size hX) g6)) e8) e9) e13) e15)⟩
      · have hdf : deckB xs = false := deckB_false (k := k) (by omega) (by simp [hca, hz1]; omega)
        conv => whnf
        refine IfB.yes (by omega) ?_
        conv => whnf
        refine SemK.index (by kernel_rfl) (hV.ext hX) k rfl hd ?_
        intro b5 o5 ha5 hb5
        conv => whnf
        refine SemK.loadAgg (n := 1) (by kernel_rfl) hb5 rfl ?_
        conv => whnf
        refine SemK.alloc (z := .agg #[.slice none 0 0]) (by kernel_rfl) ?_
        intro b6 w6 g6 l6 e6 B6
        conv => whnf
        refine SemK.storeAll (vs := [Value.slice d.a d.n d.c]) (by kernel_rfl) B6 rfl rfl (by simp [cellish]) ?_
        intro w7 c7 B7
        conv => whnf
        refine DrawK.held tabok mixed [(0, true), (1, true), (2, true), (3, true), (4, false), (6, false), (7, false), (8, false), (5, true), (9, true), (10, true), (11, true)] (by kernel_rfl) (by kernel_rfl) ?_
        conv => whnf
        intro w8 e8
        conv => whnf
        refine SemK.loadAgg (n := 1) (by kernel_rfl) (B7.ext e8).cells rfl ?_
        conv => whnf
        refine ⟨e8, ?_⟩
        conv => whnf
        refine (impl_ValidCard (A.ext (Ext.trans (Ext.but_trans (Ext.trans hX e6) c7.but (Nat.le_trans (Below.size hX) g6)) e8))).mono ?_
        rintro _ w10 ⟨rfl, e9⟩
        conv => whnf
        refine ⟨(Ext.trans e8 e9), ?_⟩
        conv => whnf
        refine IfB.eqf (by simp [*]; done) ?_
        conv => whnf
        refine DSemK.loadAgg (n := 1) (by kernel_rfl) B7.cells rfl ?_
        conv => whnf
        refine DSemK.index (by kernel_rfl) (hV.ext (Ext.but_trans (Ext.trans hX e6) c7.but (Nat.le_trans (Below.size hX) g6))) 0 rfl hd0 ?_
        intro b12 o12 ha12 hb12
        conv => whnf
        refine DSemK.loadAgg (n := 1) (by kernel_rfl) hb12 rfl ?_
        conv => whnf
        refine (impl_columns _).mono ?_
        rintro _ w14 ⟨rfl, e13⟩
        conv => whnf
        refine ⟨(Ext.trans (Ext.trans e8 e9) e13), ?_⟩
        conv => whnf
        refine (impl_columns _).mono ?_
        rintro _ w16 ⟨rfl, e15⟩
        conv => whnf
        refine ⟨(Ext.trans (Ext.trans (Ext.trans e8 e9) e13) e15), ?_⟩
        conv => whnf
        with_reducible refine IfB.ndec (fun h17 => ?_) (fun h17 => ?_)
        · conv => whnf
          exact ⟨by simp only [*], (Ext.trans (Ext.trans (Ext.trans (Ext.trans (Ext.but_trans (Ext.trans hX e6) c7.but (Nat.le_trans (Below.size hX) g6)) e8) e9) e13) e15)⟩
        · conv => whnf
          refine SemK.add (((k + 1 : Nat) : Int)) (by omega) (by omega) (by omega) ?_
          conv => whnf
          exact ⟨k + 1, by omega, rfl, by omega, by omega, (Ext.trans (Ext.trans (Ext.trans (Ext.trans (Ext.but_trans (Ext.trans hX e6) c7.but (Nat.le_trans (Below.size hX) g6)) e8) e9) e13) e15)⟩
  · have hke : k = n := by omega
    have hdl : deckB xs = decide ((n : Int) ≤ 40) := by
      rw [deckB_all (d := xs) (by rw [show xs.length = k by omega]; exact hall)]
      exact decide_eq_decide.2 (by omega)
    conv => whnf
    refine IfB.no (by omega) ?_
    conv => whnf
    exact ⟨by simp only [*], hX⟩
theorem spec_l02Ok {w : World} {b o : Nat} {d : Hd} {xs : List Int} (A : Arr eI 1 w d.a d.n xs) (hc : Cells w b o (eH d)) : Does Tryz.prog 98 [.pointer (some ⟨b, o, none⟩)] w (fun v w' => v = .bool (cardB xs) ∧ Ext w w') := by
  have hn := A.len
  have hm := A.le
  refine Does.of_vc tabok Tryz.func98 rfl rfl rfl (by kernel_rfl) ?_; conv => whnf
  refine LoopK.rule [0, 3] (fun (k : Nat) vs w' => vs = [.pointer (some ⟨b, o, none⟩), .int .i64 k] ∧ k ≤ d.n ∧ ((xs.take k).all fun m => inB m 0 4095) = true ∧ Ext w w') (fun k => d.n - k) tab tabok (by kernel_rfl) 0 ⟨rfl, by omega, by simp, Ext.refl _⟩ ?_
  rintro k g _ w3 ⟨rfl, hk, hall, hX⟩
  rcases Nat.lt_or_ge k d.n with hkn | hkn
  · obtain ⟨x, hx⟩ := get_of_lt (l := xs) (k := k) (by omega)
    cases hz1 : inB x 0 4095
    · have hbad := cardB_bad hx hz1
      conv => whnf
      refine SemK.load1 (by kernel_rfl) (hc.ext hX) (k := 0) rfl ?_
      conv => whnf
      refine IfB.yes (by omega) ?_
      conv => whnf
      refine SemK.load1 (by kernel_rfl) (hc.ext hX) (k := 0) rfl ?_
      conv => whnf
      refine SemK.index (by kernel_rfl) (A.ext hX) k rfl hx ?_
      intro b5 o5 ha5 hb5
      conv => whnf
      refine SemK.load0 (by kernel_rfl) hb5 rfl ?_
      conv => whnf
      refine (spec_in _ _ _ _).mono ?_
      rintro _ _ ⟨rfl, rfl⟩
      conv => whnf
      refine IfB.eqt (by simp [*]; done) ?_
      conv => whnf
      exact ⟨by simp only [*], hX⟩
    · have hst := all_step (p := fun m => inB m 0 4095) hx hall hz1
      conv => whnf
      refine SemK.load1 (by kernel_rfl) (hc.ext hX) (k := 0) rfl ?_
      conv => whnf
      refine IfB.yes (by omega) ?_
      conv => whnf
      refine SemK.load1 (by kernel_rfl) (hc.ext hX) (k := 0) rfl ?_
      conv => whnf
      refine SemK.index (by kernel_rfl) (A.ext hX) k rfl hx ?_
      intro b5 o5 ha5 hb5
      conv => whnf
      refine SemK.load0 (by kernel_rfl) hb5 rfl ?_
      conv => whnf
      refine (spec_in _ _ _ _).mono ?_
      rintro _ _ ⟨rfl, rfl⟩
      conv => whnf
      refine IfB.eqf (by simp [*]; done) ?_
      conv => whnf
      refine SemK.add (((k + 1 : Nat) : Int)) (by omega) (by omega) (by omega) ?_
      conv => whnf
      exact ⟨k + 1, by omega, rfl, by omega, by omega, hX⟩
  · have hcl := cardB_all (c := xs) (by rw [List.take_of_length_le (by omega)] at hall; exact hall)
    rw [hn] at hcl
    conv => whnf
    refine SemK.load1 (by kernel_rfl) (hc.ext hX) (k := 0) rfl ?_
    conv => whnf
    refine IfB.no (by omega) ?_
    conv => whnf
    refine SemK.load1 (by kernel_rfl) (hc.ext hX) (k := 0) rfl ?_
    conv => whnf
    refine (spec_in _ _ _ _).mono ?_
    rintro _ _ ⟨rfl, rfl⟩
    conv => whnf
    exact ⟨by simp only [*], hX⟩
theorem spec_l02Deck {w : World} {a : Option Addr} {n c : Nat} {xs : List (List Int)} (h : ArrS RCard w a n xs) : Does Tryz.prog 60 [.slice a n c] w (fun v w' => v = .bool (deckB xs) ∧ Ext w w') := by
  have hn := h.len
  have hm := h.le
  obtain ⟨hs, hV, hE⟩ := h
  have hl := hV.len
  refine Does.of_vc tabok Tryz.func60 rfl rfl rfl (by kernel_rfl) ?_; conv => whnf
  refine LoopK.rule [0, 3] (fun (k : Nat) vs w' => vs = [.slice a n c, .int .i64 k] ∧ k ≤ n ∧ (List.range k).all (cardAt xs) = true ∧ Ext w w') (fun k => n - k) tab tabok (by kernel_rfl) 0 ⟨rfl, by omega, by simp, Ext.refl _⟩ ?_
  rintro k g _ w3 ⟨rfl, hk, hall, hX⟩
  rcases Nat.lt_or_ge k n with hkn | hkn
  · obtain ⟨d, hd⟩ := get_of_lt (l := hs) (k := k) (by omega)
    obtain ⟨y, hy, R⟩ := hE.get hd
    obtain ⟨d0, hd0⟩ := get_of_lt (l := hs) (k := 0) (by omega)
    obtain ⟨y0, hy0, R0⟩ := hE.get hd0
    have A := R.1
    have hyl := A.len
    have hyl0 := R0.1.len
    have hca := cardAt_first hy hy0
    cases hz1 : cardB y
    · have hdf : deckB xs = false := deckB_false (k := k) (by omega) (by simp [hca, hz1])
      conv => whnf
      refine IfB.yes (by omega) ?_
      conv => whnf
      refine DrawK.held tabok mixed [(0, false), (1, true), (2, true), (3, true), (4, true), (5, true), (6, false), (7, false), (8, false), (9, false), (10, false), (11, false), (12, true), (13, true), (14, true), (15, true), (16, true), (17, true), (18, true)] (by kernel_rfl) (by kernel_rfl) ?_
      conv => whnf
      intro w4 e4
      conv => whnf
      refine SemK.index (by kernel_rfl) (hV.ext (Ext.trans hX e4)) k rfl hd ?_
      intro b6 o6 ha6 hb6
      conv => whnf
      refine ⟨e4, ?_⟩
      conv => whnf
      refine (spec_l02Ok (A.ext (Ext.trans hX e4)) hb6).mono ?_
      rintro _ w8 ⟨rfl, e7⟩
      conv => whnf
      refine ⟨(Ext.trans e4 e7), ?_⟩
      conv => whnf
      refine IfB.eqt (by simp [*]; done) ?_
      conv => whnf
      exact ⟨by simp only [*], (Ext.trans (Ext.trans hX e4) e7)⟩
    · by_cases hz2 : d.n = d0.n
      · have hst : (List.range (k + 1)).all (cardAt xs) = true := by
          rw [List.range_succ, List.all_append, hall]
          simp [hca, hz1]
          omega
        conv => whnf
        refine IfB.yes (by omega) ?_
        conv => whnf
        refine DrawK.held tabok mixed [(0, false), (1, true), (2, true), (3, true), (4, true), (5, true), (6, false), (7, false), (8, false), (9, false), (10, false), (11, false), (12, true), (13, true), (14, true), (15, true), (16, true), (17, true), (18, true)] (by kernel_rfl) (by kernel_rfl) ?_
        conv => whnf
        intro w4 e4
        conv => whnf
        refine SemK.index (by kernel_rfl) (hV.ext (Ext.trans hX e4)) k rfl hd ?_
        intro b6 o6 ha6 hb6
        conv => whnf
        refine ⟨e4, ?_⟩
        conv => whnf
        refine (spec_l02Ok (A.ext (Ext.trans hX e4)) hb6).mono ?_
        rintro _ w8 ⟨rfl, e7⟩
        conv => whnf
        refine ⟨(Ext.trans e4 e7), ?_⟩
        conv => whnf
        refine IfB.eqf (by simp [*]; done) ?_
        conv => whnf
        refine DSemK.index (by kernel_rfl) (hV.ext hX) k rfl hd ?_
        intro b10 o10 ha10 hb10
        conv => whnf
        refine DSemK.load1 (by kernel_rfl) hb10 (k := 0) rfl ?_
        conv => whnf
        refine SemK.index (by kernel_rfl) (hV.ext (Ext.trans (Ext.trans hX e4) e7)) 0 rfl hd0 ?_
        intro b12 o12 ha12 hb12
        conv => whnf
        refine ⟨(Ext.trans e4 e7), ?_⟩
        conv => whnf
        refine SemK.load1 (by kernel_rfl) hb12 (k := 0) rfl ?_
        conv => whnf
        refine ⟨(Ext.trans e4 e7), ?_⟩
        conv => whnf
        refine ⟨(Ext.trans e4 e7), ?_⟩
        conv => whnf
        refine IfB.eqf (by simp [*]; done) ?_
        conv => whnf
        refine SemK.add (((k + 1 : Nat) : Int)) (by omega) (by omega) (by omega) ?_
        conv => whnf
        exact ⟨k + 1, by omega, rfl, by omega, by omega, (Ext.trans (Ext.trans hX e4) e7)⟩
      · have hdf : deckB xs = false := deckB_false (k := k) (by omega) (by simp [hca, hz1]; omega)
        conv => whnf
        refine IfB.yes (by omega) ?_
        conv => whnf
        refine DrawK.held tabok mixed [(0, false), (1, true), (2, true), (3, true), (4, true), (5, true), (6, false), (7, false), (8, false), (9, false), (10, false), (11, false), (12, true), (13, true), (14, true), (15, true), (16, true), (17, true), (18, true)] (by kernel_rfl) (by kernel_rfl) ?_
        conv => whnf
        intro w4 e4
        conv => whnf
        refine SemK.index (by kernel_rfl) (hV.ext (Ext.trans hX e4)) k rfl hd ?_
        intro b6 o6 ha6 hb6
        conv => whnf
        refine ⟨e4, ?_⟩
        conv => whnf
        refine (spec_l02Ok (A.ext (Ext.trans hX e4)) hb6).mono ?_
        rintro _ w8 ⟨rfl, e7⟩
        conv => whnf
        refine ⟨(Ext.trans e4 e7), ?_⟩
        conv => whnf
        refine IfB.eqf (by simp [*]; done) ?_
        conv => whnf
        refine DSemK.index (by kernel_rfl) (hV.ext hX) k rfl hd ?_
        intro b10 o10 ha10 hb10
        conv => whnf
        refine DSemK.load1 (by kernel_rfl) hb10 (k := 0) rfl ?_
        conv => whnf
        refine SemK.index (by kernel_rfl) (hV.ext (Ext.trans (Ext.trans hX e4) e7)) 0 rfl hd0 ?_
        intro b12 o12 ha12 hb12
        conv => whnf
        refine ⟨(Ext.trans e4 e7), ?_⟩
        conv => whnf
        refine SemK.load1 (by kernel_rfl) hb12 (k := 0) rfl ?_
        conv => whnf
        refine ⟨(Ext.trans e4 e7), ?_⟩
        conv => whnf
        refine ⟨(Ext.trans e4 e7), ?_⟩
        conv => whnf
        with_reducible refine IfB.ndec (fun h13 => ?_) (fun h13 => ?_)
        · conv => whnf
          exact ⟨by simp only [*], (Ext.trans (Ext.trans hX e4) e7)⟩
        · conv => whnf
          refine SemK.add (((k + 1 : Nat) : Int)) (by omega) (by omega) (by omega) ?_
          conv => whnf
          exact ⟨k + 1, by omega, rfl, by omega, by omega, (Ext.trans (Ext.trans hX e4) e7)⟩
  · have hke : k = n := by omega
    have hdl : deckB xs = decide ((n : Int) ≤ 40) := by
      rw [deckB_all (d := xs) (by rw [show xs.length = k by omega]; exact hall)]
      exact decide_eq_decide.2 (by omega)
    conv => whnf
    refine IfB.no (by omega) ?_
    conv => whnf
    exact ⟨by simp only [*], hX⟩
theorem impl_isField (f : TField) (n : Int) (w : World) : Does Tryz.prog 85 [.agg ⟨f.enc⟩, .int .i64 n] w (fun v w' => v = .bool (fieldB f n) ∧ Ext w w') := by
  unfold fieldB
  refine Does.of_vc tabok Tryz.func85 rfl rfl rfl (by kernel_rfl) ?_; conv => whnf
  refine SemK.box ?_
  intro b1 w1 g1 l1 e1 B1
  conv => whnf
  refine SemK.load1 (by kernel_rfl) B1.cells (k := 0) rfl ?_
  conv => whnf
  with_reducible refine IfB.dec (fun h2 => ?_) (fun h2 => ?_)
  · conv => whnf
    refine SemK.load1 (by kernel_rfl) B1.cells (k := 0) rfl ?_
    conv => whnf
    refine SemK.load1 (by kernel_rfl) B1.cells (k := 1) rfl ?_
    conv => whnf
    with_reducible refine IfB.dec (fun h3 => ?_) (fun h3 => ?_)
    · conv => whnf
      refine SemK.load1 (by kernel_rfl) B1.cells (k := 1) rfl ?_
      conv => whnf
      exact ⟨by simp [*], e1⟩
    · conv => whnf
      exact ⟨by simp [*], e1⟩
  · conv => whnf
    exact ⟨by simp [*], e1⟩
theorem spec_l02Field (f : TField) (n : Int) (w : World) : Does Tryz.prog 91 [.agg ⟨f.enc⟩, .int .i64 n] w (fun v w' => v = .bool (fieldB f n) ∧ Ext w w') := by
  unfold fieldB
  refine Does.of_vc tabok Tryz.func91 rfl rfl rfl (by kernel_rfl) ?_; conv => whnf
  refine SemK.box ?_
  intro b1 w1 g1 l1 e1 B1
  conv => whnf
  refine SemK.load1 (by kernel_rfl) B1.cells (k := 0) rfl ?_
  conv => whnf
  with_reducible refine IfB.dec (fun h2 => ?_) (fun h2 => ?_)
  · conv => whnf
    refine SemK.load1 (by kernel_rfl) B1.cells (k := 0) rfl ?_
    conv => whnf
    refine SemK.load1 (by kernel_rfl) B1.cells (k := 1) rfl ?_
    conv => whnf
    with_reducible refine IfB.dec (fun h3 => ?_) (fun h3 => ?_)
    · conv => whnf
      refine SemK.load1 (by kernel_rfl) B1.cells (k := 1) rfl ?_
      conv => whnf
      exact ⟨by simp [*], e1⟩
    · conv => whnf
      exact ⟨by simp [*], e1⟩
  · conv => whnf
    exact ⟨by simp [*], e1⟩
theorem impl_isNumberField {f : TField} (hf : f.ok) {n : Int} (h0 : 0 ≤ n) (hn : n ≤ 1000) (w : World) : Does Tryz.prog 67 [.agg ⟨f.enc⟩, .int .i64 n] w (fun v w' => v = .bool (numFieldB f n) ∧ Ext w w') := by
  unfold numFieldB
  cases hz1 : fieldB f n
  · refine Does.of_vc tabok Tryz.func67 rfl rfl rfl (by kernel_rfl) ?_; conv => whnf
    refine SemK.box ?_
    intro b2 w2 g2 l2 e2 B2
    conv => whnf
    refine SemK.loadAgg (n := 2) (by kernel_rfl) B2.cells rfl ?_
    conv => whnf
    refine (impl_isField _ _ _).mono ?_
    rintro _ w4 ⟨rfl, e3⟩
    conv => whnf
    refine IfB.eqf (by simp [*]; done) ?_
    conv => whnf
    exact ⟨rfl, (Ext.trans e2 e3)⟩
  · have hb := fieldB_b hz1
    refine Does.of_vc tabok Tryz.func67 rfl rfl rfl (by kernel_rfl) ?_; conv => whnf
    refine SemK.box ?_
    intro b2 w2 g2 l2 e2 B2
    conv => whnf
    refine SemK.loadAgg (n := 2) (by kernel_rfl) B2.cells rfl ?_
    conv => whnf
    refine (impl_isField _ _ _).mono ?_
    rintro _ w4 ⟨rfl, e3⟩
    conv => whnf
    refine IfB.eqt (by simp [*]; done) ?_
    conv => whnf
    refine SemK.load1 (by kernel_rfl) (B2.ext e3).cells (k := 1) rfl ?_
    conv => whnf
    refine SemK.load1 (by kernel_rfl) (B2.ext e3).cells (k := 0) rfl ?_
    conv => whnf
    refine SemK.sub _ rfl (by omega) (by omega) ?_
    conv => whnf
    exact ⟨rfl, (Ext.trans e2 e3)⟩
theorem spec_l18Field {f : TField} (hf : f.ok) {n : Int} (h0 : 0 ≤ n) (hn : n ≤ 1000) (w : World) : Does Tryz.prog 73 [.agg ⟨f.enc⟩, .int .i64 n] w (fun v w' => v = .bool (numFieldB f n) ∧ Ext w w') := by
  unfold numFieldB
  cases hz1 : fieldB f n
  · refine Does.of_vc tabok Tryz.func73 rfl rfl rfl (by kernel_rfl) ?_; conv => whnf
    refine SemK.box ?_
    intro b2 w2 g2 l2 e2 B2
    conv => whnf
    refine SemK.loadAgg (n := 2) (by kernel_rfl) B2.cells rfl ?_
    conv => whnf
    refine (spec_l02Field _ _ _).mono ?_
    rintro _ w4 ⟨rfl, e3⟩
    conv => whnf
    refine IfB.eqf (by simp [*]; done) ?_
    conv => whnf
    exact ⟨rfl, (Ext.trans e2 e3)⟩
  · have hb := fieldB_b hz1
    refine Does.of_vc tabok Tryz.func73 rfl rfl rfl (by kernel_rfl) ?_; conv => whnf
    refine SemK.box ?_
    intro b2 w2 g2 l2 e2 B2
    conv => whnf
    refine SemK.loadAgg (n := 2) (by kernel_rfl) B2.cells rfl ?_
    conv => whnf
    refine (spec_l02Field _ _ _).mono ?_
    rintro _ w4 ⟨rfl, e3⟩
    conv => whnf
    refine IfB.eqt (by simp [*]; done) ?_
    conv => whnf
    refine SemK.load1 (by kernel_rfl) (B2.ext e3).cells (k := 1) rfl ?_
    conv => whnf
    refine SemK.load1 (by kernel_rfl) (B2.ext e3).cells (k := 0) rfl ?_
    conv => whnf
    refine SemK.sub _ rfl (by omega) (by omega) ?_
    conv => whnf
    exact ⟨rfl, (Ext.trans e2 e3)⟩
theorem impl_deckColumns {w : World} {a : Option Addr} {n c : Nat} {xs : List (List Int)} (h : ArrS RCard w a n xs) : Does Tryz.prog 68 [.slice a n c] w (fun v w' => v = .int .i64 (widthOf xs) ∧ Ext w w') := by
  have hn := h.len
  have hm := h.le
  obtain ⟨hs, hV, hE⟩ := h
  have hl := hV.len
  cases xs with
  | nil =>
    refine Does.of_vc tabok Tryz.func68 rfl rfl rfl (by kernel_rfl) ?_; conv => whnf
    with_reducible refine IfB.dec (fun h1 => ?_) (fun h1 => ?_)
    · conv => whnf
      exact ⟨rfl, Ext.refl _⟩
    · conv => whnf
      obtain ⟨x2, hx2⟩ : ∃ x, hs[0]? = some x := get_of_lt (by omega)
      obtain ⟨y2, hy2, R2⟩ := hE.get hx2
      have A2 := R2.1
      have n2 := R2.2
      refine SemK.index (by kernel_rfl) hV 0 rfl hx2 ?_
      intro b3 o3 ha3 hb3
      conv => whnf
      refine SemK.loadAgg (n := 1) (by kernel_rfl) hb3 rfl ?_
      conv => whnf
      refine (impl_columns _).mono ?_
      rintro _ w5 ⟨rfl, e4⟩
      conv => whnf
      exact ⟨by simp_all, e4⟩
  | cons x l =>
    simp only [List.length_cons] at hn
    refine Does.of_vc tabok Tryz.func68 rfl rfl rfl (by kernel_rfl) ?_; conv => whnf
    refine IfB.no (by omega) ?_
    conv => whnf
    obtain ⟨x1, hx1⟩ : ∃ x, hs[0]? = some x := get_of_lt (by omega)
    obtain ⟨y1, hy1, R1⟩ := hE.get hx1
    have A1 := R1.1
    have n1 := R1.2
    refine SemK.index (by kernel_rfl) hV 0 rfl hx1 ?_
    intro b2 o2 ha2 hb2
    conv => whnf
    refine SemK.loadAgg (n := 1) (by kernel_rfl) hb2 rfl ?_
    conv => whnf
    refine (impl_columns _).mono ?_
    rintro _ w4 ⟨rfl, e3⟩
    conv => whnf
    refine ⟨?_, e3⟩
    · have hlen1 := A1.len
      simp at hy1
      subst hy1
      simp [widthOf, hlen1]
theorem spec_l07Width {w : World} {a : Option Addr} {n c : Nat} {xs : List (List Int)} (h : ArrS RCard w a n xs) : Does Tryz.prog 74 [.slice a n c] w (fun v w' => v = .int .i64 (widthOf xs) ∧ Ext w w') := by
  have hn := h.len
  have hm := h.le
  obtain ⟨hs, hV, hE⟩ := h
  have hl := hV.len
  cases xs with
  | nil =>
    refine Does.of_vc tabok Tryz.func74 rfl rfl rfl (by kernel_rfl) ?_; conv => whnf
    with_reducible refine IfB.dec (fun h1 => ?_) (fun h1 => ?_)
    · conv => whnf
      exact ⟨rfl, Ext.refl _⟩
    · conv => whnf
      obtain ⟨x2, hx2⟩ : ∃ x, hs[0]? = some x := get_of_lt (by omega)
      obtain ⟨y2, hy2, R2⟩ := hE.get hx2
      have A2 := R2.1
      have n2 := R2.2
      refine SemK.index (by kernel_rfl) hV 0 rfl hx2 ?_
      intro b3 o3 ha3 hb3
      conv => whnf
      refine SemK.load1 (by kernel_rfl) hb3 (k := 0) rfl ?_
      conv => whnf
      exact ⟨by simp_all, Ext.refl _⟩
  | cons x l =>
    simp only [List.length_cons] at hn
    refine Does.of_vc tabok Tryz.func74 rfl rfl rfl (by kernel_rfl) ?_; conv => whnf
    refine IfB.no (by omega) ?_
    conv => whnf
    obtain ⟨x1, hx1⟩ : ∃ x, hs[0]? = some x := get_of_lt (by omega)
    obtain ⟨y1, hy1, R1⟩ := hE.get hx1
    have A1 := R1.1
    have n1 := R1.2
    refine SemK.index (by kernel_rfl) hV 0 rfl hx1 ?_
    intro b2 o2 ha2 hb2
    conv => whnf
    refine SemK.load1 (by kernel_rfl) hb2 (k := 0) rfl ?_
    conv => whnf
    refine ⟨?_, Ext.refl _⟩
    · have hlen1 := A1.len
      simp at hy1
      subst hy1
      simp [widthOf, hlen1]
theorem impl_bitOf (r : Int) (w : World) : Does Tryz.prog 101 [.int .i64 r] w (fun v w' => v = .int .i64 (bitM r) ∧ Ext w w') := by
  refine Does.of_vc tabok Tryz.func101 rfl rfl rfl (by kernel_rfl) ?_; conv => whnf
  with_reducible refine IfB.dec (fun h1 => ?_) (fun h1 => ?_)
  · conv => whnf
    refine ⟨?_, Ext.refl _⟩
    · rw [bitM_12 h1]
  · conv => whnf
    with_reducible refine IfB.dec (fun h2 => ?_) (fun h2 => ?_)
    · conv => whnf
      refine ⟨?_, Ext.refl _⟩
      · rw [bitM_11 h2]
    · conv => whnf
      refine (impl_inside _ _ _ _).mono ?_
      rintro _ _ ⟨rfl, rfl⟩
      conv => whnf
      with_reducible refine IfB.split (fun h4 => ?_) (fun h4 => ?_)
      · conv => whnf
        have hi4 := inB_true h4
        refine SemK.shl (by omega) ?_
        conv => whnf
        refine ⟨?_, Ext.refl _⟩
        · rw [bitM_shl (by omega) (by omega)]
      · conv => whnf
        refine ⟨?_, Ext.refl _⟩
        · rw [bitM_no h1 h2 h4]
theorem spec_l02Bit (r : Int) (w : World) : Does Tryz.prog 136 [.int .i64 r] w (fun v w' => v = .int .i64 (bitM r) ∧ Ext w w') := by
  refine Does.of_vc tabok Tryz.func136 rfl rfl rfl (by kernel_rfl) ?_; conv => whnf
  with_reducible refine IfB.dec (fun h1 => ?_) (fun h1 => ?_)
  · conv => whnf
    refine ⟨?_, Ext.refl _⟩
    · rw [bitM_12 h1]
  · conv => whnf
    with_reducible refine IfB.dec (fun h2 => ?_) (fun h2 => ?_)
    · conv => whnf
      refine ⟨?_, Ext.refl _⟩
      · rw [bitM_11 h2]
    · conv => whnf
      refine (spec_in _ _ _ _).mono ?_
      rintro _ _ ⟨rfl, rfl⟩
      conv => whnf
      with_reducible refine IfB.split (fun h4 => ?_) (fun h4 => ?_)
      · conv => whnf
        have hi4 := inB_true h4
        refine SemK.conv (k := .u64) (by kernel_rfl) (by kernel_rfl) (u64_wrap (by omega) (by omega)) ?_
        conv => whnf
        refine SemK.shl (by omega) ?_
        conv => whnf
        refine ⟨?_, Ext.refl _⟩
        · rw [bitM_shl (by omega) (by omega)]
      · conv => whnf
        refine ⟨?_, Ext.refl _⟩
        · rw [bitM_no h1 h2 h4]
theorem impl_digitOf (m : Int) (w : World) : Does Tryz.prog 102 [.int .i64 m] w (fun v w' => v = .int .i64 (digitM m) ∧ Ext w w') := by
  refine Does.of_vc tabok Tryz.func102 rfl rfl rfl (by kernel_rfl) ?_; conv => whnf
  refine LoopK.rule [0, 4] (fun (k : Nat) vs w' => vs = [.int .i64 m, .int .i64 k] ∧ k ≤ 10 ∧ (∀ j : Nat, j < k → bitM (j : Int) ≠ m) ∧ Ext w w') (fun k => 10 - k) tab tabok (by kernel_rfl) 0 ⟨rfl, by omega, fun j hj => by omega, Ext.refl _⟩ ?_
  rintro k g _ w3 ⟨rfl, hk, hall, hX⟩
  rcases Nat.lt_or_ge k 10 with hkn | hkn
  · by_cases hz1 : bitM (k : Int) = m
    · have hdm := digitM_is hkn hall hz1
      conv => whnf
      refine IfB.yes (by omega) ?_
      conv => whnf
      refine (impl_bitOf _ _).mono ?_
      rintro _ w5 ⟨rfl, e4⟩
      conv => whnf
      refine IfB.yes (by omega) ?_
      conv => whnf
      exact ⟨by simp only [*], (Ext.trans hX e4)⟩
    · have hst : ∀ j : Nat, j < k + 1 → bitM (j : Int) ≠ m := fun j hj => by
        rcases Nat.lt_succ_iff_lt_or_eq.1 hj with h | rfl
        · exact hall j h
        · exact hz1
      have hz2 : ¬ m = bitM (k : Int) := fun e => hz1 e.symm
      conv => whnf
      refine IfB.yes (by omega) ?_
      conv => whnf
      refine (impl_bitOf _ _).mono ?_
      rintro _ w5 ⟨rfl, e4⟩
      conv => whnf
      refine IfB.no (by omega) ?_
      conv => whnf
      refine SemK.add (((k + 1 : Nat) : Int)) (by omega) (by omega) (by omega) ?_
      conv => whnf
      exact ⟨k + 1, by omega, rfl, by omega, by omega, (Ext.trans hX e4)⟩
  · have hdm := digitM_none (m := m) (fun j hj => hall j (by omega))
    conv => whnf
    refine IfB.no (by omega) ?_
    conv => whnf
    exact ⟨by simp only [*], hX⟩
theorem spec_l03Digit (m : Int) (w : World) : Does Tryz.prog 106 [.int .i64 m] w (fun v w' => v = .int .i64 (digitM m) ∧ Ext w w') := by
  refine Does.of_vc tabok Tryz.func106 rfl rfl rfl (by kernel_rfl) ?_; conv => whnf
  refine LoopK.rule [0, 3] (fun (k : Nat) vs w' => vs = [.int .i64 m, .int .i64 k] ∧ k ≤ 10 ∧ (∀ j : Nat, j < k → bitM (j : Int) ≠ m) ∧ Ext w w') (fun k => 10 - k) tab tabok (by kernel_rfl) 0 ⟨rfl, by omega, fun j hj => by omega, Ext.refl _⟩ ?_
  rintro k g _ w3 ⟨rfl, hk, hall, hX⟩
  rcases Nat.lt_or_ge k 10 with hkn | hkn
  · by_cases hz1 : bitM (k : Int) = m
    · have hdm := digitM_is hkn hall hz1
      conv => whnf
      refine IfB.yes (by omega) ?_
      conv => whnf
      refine (spec_l02Bit _ _).mono ?_
      rintro _ w5 ⟨rfl, e4⟩
      conv => whnf
      refine IfB.yes (by omega) ?_
      conv => whnf
      exact ⟨by simp only [*], (Ext.trans hX e4)⟩
    · have hst : ∀ j : Nat, j < k + 1 → bitM (j : Int) ≠ m := fun j hj => by
        rcases Nat.lt_succ_iff_lt_or_eq.1 hj with h | rfl
        · exact hall j h
        · exact hz1
      have hz2 : ¬ m = bitM (k : Int) := fun e => hz1 e.symm
      conv => whnf
      refine IfB.yes (by omega) ?_
      conv => whnf
      refine (spec_l02Bit _ _).mono ?_
      rintro _ w5 ⟨rfl, e4⟩
      conv => whnf
      refine IfB.no (by omega) ?_
      conv => whnf
      refine SemK.add (((k + 1 : Nat) : Int)) (by omega) (by omega) (by omega) ?_
      conv => whnf
      exact ⟨k + 1, by omega, rfl, by omega, by omega, (Ext.trans hX e4)⟩
  · have hdm := digitM_none (m := m) (fun j hj => hall j (by omega))
    conv => whnf
    refine IfB.no (by omega) ?_
    conv => whnf
    exact ⟨by simp only [*], hX⟩
theorem impl_copyInts {w : World} {a : Option Addr} {n c : Nat} {xs : List Int} (h : Arr eI 1 w a n xs) (hn : n ≤ 1000000) : Does Tryz.prog 99 [.slice a n c] w (fun v w' => ∃ a' c', v = .slice a' n c' ∧ NewAt w.heap.size a' ∧ Grow eI 1 w.heap.size 2 w' a' n c' xs ∧ Ext w w') := by
  have hl := h.len
  refine Does.of_vc tabok Tryz.func99 rfl rfl rfl (by kernel_rfl) ?_; conv => whnf
  refine SemK.buildSlice mk_27 (vs := []) (by rfl) (by rfl) (by simp [Value.cells]) (by decide) ?_
  intro b1 w1 g1 l1 e1 B1
  have G1 := Grow.new0 (enc := eI) eI_len B1 g1
  conv => whnf
  refine SemK.appendNew (enc := eI) mk_27 eI_len G1 (h.ext e1) (by intro y _; simp [eI, cellish]) (by omega) (by omega) (Below.size e1) ?_
  intro a2 c2 w2 G2 m2 i2
  conv => whnf
  exact ⟨_, _, rfl, G2.new, G2, (Ext.mod_trans e1 m2 (blkIn_new G1.new))⟩
theorem spec_l02Part {w : World} {b o : Nat} {d : Hd} {xs : List Int} (R : RCard w d xs) (hc : Cells w b o (eH d)) {f : TField} (hf : fieldB f xs.length = true) : Does Tryz.prog 76 [.pointer (some ⟨b, o, none⟩), .agg ⟨f.enc⟩] w (fun v w' => ∃ a' c', v = .slice a' (f.to_.toNat - f.from_.toNat) c' ∧ Arr eI 1 w' a' (f.to_.toNat - f.from_.toNat) (partOf xs f) ∧ f.to_.toNat - f.from_.toNat ≤ c' ∧ Ext w w') := by
  have A := R.1
  have hnc := R.2
  have hn := A.len
  have hb := fieldB_b hf
  obtain ⟨f1, f2⟩ := f
  simp only at hb
  obtain ⟨p, rfl⟩ : ∃ p : Nat, f1 = p := ⟨f1.toNat, by omega⟩
  obtain ⟨q, rfl⟩ : ∃ q : Nat, f2 = q := ⟨f2.toNat, by omega⟩
  unfold partOf
  simp only [Int.toNat_natCast]
  refine Does.of_vc tabok Tryz.func76 rfl rfl rfl (by kernel_rfl) ?_; conv => whnf
  refine SemK.box ?_
  intro b1 w1 g1 l1 e1 B1
  conv => whnf
  refine DrawK.det tabok mixed (by kernel_rfl) (by kernel_rfl) ?_
  conv => whnf
  refine DSemK.load1 (by kernel_rfl) (hc.ext e1) (k := 0) rfl ?_
  conv => whnf
  refine DSemK.load1 (by kernel_rfl) B1.cells (k := 0) rfl ?_
  conv => whnf
  refine DSemK.load1 (by kernel_rfl) B1.cells (k := 1) rfl ?_
  conv => whnf
  refine DSemK.slice (k := .i64) (k' := .i64) (by kernel_rfl) (A.ext e1) p q (by omega) (by omega) hnc (.inr (by rfl)) (.inr (by rfl)) ?_
  intro a9 A9
  conv => whnf
  intro w10 e10
  conv => whnf
  exact ⟨_, _, rfl, (A9.ext e10), by omega, (Ext.trans e1 e10)⟩
end Go.Proofs.YtfgbijddjoojbaaGreat
