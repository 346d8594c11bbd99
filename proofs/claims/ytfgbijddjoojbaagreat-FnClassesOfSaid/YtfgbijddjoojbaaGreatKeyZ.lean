/- Contracts of functions of the given program, of the reference and of the laws: each says what a call returns, for all arguments that meet the premises that the theorem itself names. -/
import Derived.Test.YtfgbijddjoojbaaGreatKeyW
import Derived.Test.YtfgbijddjoojbaaGreatSortS
namespace Go.M
open Go Go.Vc
theorem all_any (xs : List (List Int)) (q : List Int → Bool) : (xs.any fun c => !q c) = !xs.all q := by rw [List.not_all_eq_any_not]
def cmpK (K : List (List Int)) (L : Nat) (i j : Int) : Int := cmpR (keyD K L i) (keyD K L j)
theorem cmpK_ok (K : List (List Int)) (L : Nat) (i j : Int) : i64ok (cmpK K L i j) := by
  have := cmpR_b (keyD K L i) (keyD K L j)
  unfold cmpK i64ok
  omega
theorem keyD_at {d : List (List Int)} {f : TField} {L i : Nat} {c : List Int} (h : d[i]? = some c) : keyD (d.map (ckey f)) L (i : Int) = ckey f c := by
  unfold keyD
  rw [List.getD_eq_getElem?_getD, List.getElem?_map, Int.toNat_natCast, h]
  rfl
theorem getD_map {d : List (List Int)} {f : TField} {i : Nat} {c z : List Int} (h : d[i]? = some c) : (d.map (ckey f)).getD i z = ckey f c := by
  rw [List.getD_eq_getElem?_getD, List.getElem?_map, h]
  rfl
end Go.M
namespace Go.Proofs.YtfgbijddjoojbaaGreat
open Go Go.RowKit Go.Vc Go.M
theorem lib_IndexFuncCard {w : World} {a : Option Addr} {n c g : Nat} {xs : List (List Int)} (h : ArrS RCard w a n xs) {p : List Int → Bool} {cap : List Value}
    (hg : ∀ d x, x ∈ xs → RCard w d x → ∀ w', Ext w w' → Does Tryz.prog g (.agg ⟨eH d⟩ :: cap) w' (fun v w'' => v = .bool (p x) ∧ Ext w' w'')) :
    Does Tryz.prog 96 [.slice a n c, .func (.func g) ⟨[]⟩ ⟨cap⟩] w (fun v w' => ∃ r : Int, v = .int .i64 r ∧ decide (0 ≤ r) = xs.any p ∧ -1 ≤ r ∧ Ext w w') := by
  have hn := h.len
  have hm := h.le
  obtain ⟨hs, hV, hE⟩ := h
  have hl := hV.len
  refine Does.of_vc tabok Tryz.func96 rfl rfl rfl (by kernel_rfl) ?_; conv => whnf
  refine LoopK.rule [0, 1, 7, 8] (fun (k : Nat) vs w' => vs = [.slice a n c, .func (.func g) ⟨[]⟩ ⟨cap⟩, .int .i64 n, .int .i64 k] ∧ k ≤ n ∧ (xs.take k).any p = false ∧ Ext w w') (fun k => n - k) tab tabok (by kernel_rfl) 0 ⟨rfl, by omega, by simp, Ext.refl _⟩ ?_
  rintro k g' _ w' ⟨rfl, hk, hall, hX⟩
  rcases Nat.lt_or_ge k n with hkn | hkn
  · obtain ⟨d, hd⟩ := get_of_lt (l := hs) (k := k) (by omega)
    obtain ⟨x, hx, R⟩ := hE.get hd
    have hgx := hg d x (List.mem_of_getElem? hx) R
    have hts := any_take_succ (p := p) hx
    cases hpx : p x
    · rw [hpx] at hgx hts
      rw [hall, Bool.or_false] at hts
      conv => whnf
      refine IfB.yes (by omega) ?_
      conv => whnf
      refine SemK.index (by kernel_rfl) (hV.ext hX) k rfl hd ?_
      intro b2 o2 ha2 hb2
      conv => whnf
      refine SemK.loadAgg (n := 1) (by kernel_rfl) hb2 rfl ?_
      conv => whnf
      refine (hgx _ hX).mono ?_
      rintro _ w4 ⟨rfl, e3⟩
      conv => whnf
      refine SemK.add (((k + 1 : Nat) : Int)) (by omega) (by omega) (by omega) ?_
      conv => whnf
      exact ⟨k + 1, by omega, rfl, by omega, by omega, (Ext.trans hX e3)⟩
    · rw [hpx] at hgx
      have hany : xs.any p = true := List.any_eq_true.2 ⟨x, List.mem_of_getElem? hx, hpx⟩
      rw [hany]
      conv => whnf
      refine IfB.yes (by omega) ?_
      conv => whnf
      refine SemK.index (by kernel_rfl) (hV.ext hX) k rfl hd ?_
      intro b2 o2 ha2 hb2
      conv => whnf
      refine SemK.loadAgg (n := 1) (by kernel_rfl) hb2 rfl ?_
      conv => whnf
      refine (hgx _ hX).mono ?_
      rintro _ w4 ⟨rfl, e3⟩
      conv => whnf
      exact ⟨_, rfl, rfl, by omega, (Ext.trans hX e3)⟩
  · rw [List.take_of_length_le (by omega)] at hall
    rw [hall]
    conv => whnf
    refine IfB.no (by omega) ?_
    conv => whnf
    exact ⟨_, rfl, rfl, by omega, hX⟩
theorem lib_ContainsFuncCard {w : World} {a : Option Addr} {n c g : Nat} {xs : List (List Int)} (h : ArrS RCard w a n xs) {p : List Int → Bool} {cap : List Value}
    (hg : ∀ d x, x ∈ xs → RCard w d x → ∀ w', Ext w w' → Does Tryz.prog g (.agg ⟨eH d⟩ :: cap) w' (fun v w'' => v = .bool (p x) ∧ Ext w' w'')) :
    Does Tryz.prog 57 [.slice a n c, .func (.func g) ⟨[]⟩ ⟨cap⟩] w (fun v w' => v = .bool (xs.any p) ∧ Ext w w') := by
  refine Does.of_vc tabok Tryz.func57 rfl rfl rfl (by kernel_rfl) ?_; conv => whnf
  refine (lib_IndexFuncCard h hg).mono ?_
  rintro _ w2 ⟨r, rfl, hr, hr1, e2⟩
  conv => whnf
  exact ⟨by simp only [*], e2⟩
theorem impl_haveField1 {w : World} {b : Nat} {d : Hd} {xs : List Int} (R : RCard w d xs) {f : TField} (hf : fieldB f xs.length = true) (hc : Cells w b 0 f.enc) :
    Does Tryz.prog 122 [.agg ⟨eH d⟩, .pointer (some ⟨b, 0, none⟩)] w (fun v w' => v = .bool (!hasB (partOf xs f)) ∧ Ext w w') := by
  have hF : ∀ u, Ext w u → Does Tryz.prog 123 [.agg ⟨eH d⟩, .agg ⟨f.enc⟩] u (fun v w' => v = .bool (hasB (partOf xs f)) ∧ Ext u w') := fun u e => impl_hasField ⟨R.1.ext e, R.2⟩ hf
  refine Does.of_vc tabok Tryz.func122 rfl rfl rfl (by kernel_rfl) ?_; conv => whnf
  refine SemK.box ?_
  intro b2 w2 g2 l2 e2 B2
  conv => whnf
  refine SemK.loadAgg (n := 1) (by kernel_rfl) B2.cells rfl ?_
  conv => whnf
  refine SemK.loadAgg (n := 2) (by kernel_rfl) (hc.ext e2) rfl ?_
  conv => whnf
  refine (hF _ e2).mono ?_
  rintro _ w4 ⟨rfl, e3⟩
  conv => whnf
  exact ⟨rfl, (Ext.trans e2 e3)⟩
theorem impl_haveField {w : World} {a : Option Addr} {n c : Nat} {xs : List (List Int)} (h : ArrS RCard w a n xs) {f : TField} (hd : deckB xs = true) (hf : fieldB f (widthOf xs) = true) :
    Does Tryz.prog 86 [.slice a n c, .agg ⟨f.enc⟩] w (fun v w' => v = .bool (xs.all fun c => hasB (partOf c f)) ∧ Ext w w') := by
  have hdm := deckB_mem hd
  have haa := all_any xs (fun c => hasB (partOf c f))
  have hC : ∀ u b, Ext w u → Cells u b 0 f.enc → Does Tryz.prog 57 [.slice a n c, .func (.func 122) ⟨[]⟩ ⟨[.pointer (some ⟨b, 0, none⟩)]⟩] u (fun v w' => v = .bool (!xs.all fun c => hasB (partOf c f)) ∧ Ext u w') := fun u b e hc => by
    rw [← haa]
    exact lib_ContainsFuncCard (h.ext e) (p := fun c => !hasB (partOf c f)) (fun d x hx R w' e2 => impl_haveField1 ⟨R.1.ext e2, R.2⟩ (by rw [(hdm.2 x hx).2]; exact hf) (hc.ext e2))
  refine Does.of_vc tabok Tryz.func86 rfl rfl rfl (by kernel_rfl) ?_; conv => whnf
  refine SemK.box ?_
  intro b1 w1 g1 l1 e1 B1
  conv => whnf
  refine (hC w1 b1 e1 B1.cells).mono ?_
  rintro _ w2 ⟨rfl, e2⟩
  conv => whnf
  exact ⟨by rw [Bool.not_not], Ext.trans e1 e2⟩
theorem impl_sortCode {w : World} {a : Option Addr} {n c : Nat} {xs : List (List Int)} (h : ArrS RCard w a n xs) (f : TField) :
    Does Tryz.prog 47 [.slice a n c, .agg ⟨f.enc⟩] w (fun v w' => v = .int .i64 (keysM xs f).2 ∧ Ext w w') := by
  cases hz1 : deckB xs
  · rw [keys_deck hz1]
    refine Does.of_vc tabok Tryz.func47 rfl rfl rfl (by kernel_rfl) ?_; conv => whnf
    refine SemK.box ?_
    intro b2 w2 g2 l2 e2 B2
    conv => whnf
    refine (impl_ValidDeck (h.ext e2)).mono ?_
    rintro _ w4 ⟨rfl, e3⟩
    conv => whnf
    refine IfB.eqt (by simp [*]; done) ?_
    conv => whnf
    exact ⟨rfl, (Ext.trans e2 e3)⟩
  · cases hz2 : fieldB f (widthOf xs)
    · rw [keys_field hz1 hz2]
      refine Does.of_vc tabok Tryz.func47 rfl rfl rfl (by kernel_rfl) ?_; conv => whnf
      refine SemK.box ?_
      intro b3 w3 g3 l3 e3 B3
      conv => whnf
      refine (impl_ValidDeck (h.ext e3)).mono ?_
      rintro _ w5 ⟨rfl, e4⟩
      conv => whnf
      refine IfB.eqf (by simp [*]; done) ?_
      conv => whnf
      refine DrawK.held tabok mixed [(0, false), (1, true), (2, true), (3, true), (4, true), (5, true)] (by kernel_rfl) (by kernel_rfl) ?_
      conv => whnf
      intro w6 e6
      conv => whnf
      refine DSemK.loadAgg (n := 2) (by kernel_rfl) (B3.ext e4).cells rfl ?_
      conv => whnf
      refine (impl_deckColumns (h.ext (Ext.trans (Ext.trans e3 e4) e6))).mono ?_
      rintro _ w8 ⟨rfl, e7⟩
      conv => whnf
      refine ⟨(Ext.trans e6 e7), ?_⟩
      conv => whnf
      refine (impl_isField _ _ _).mono ?_
      rintro _ w10 ⟨rfl, e9⟩
      conv => whnf
      refine ⟨(Ext.trans (Ext.trans e6 e7) e9), ?_⟩
      conv => whnf
      refine IfB.eqt (by simp [*]; done) ?_
      conv => whnf
      exact ⟨rfl, (Ext.trans (Ext.trans (Ext.trans (Ext.trans e3 e4) e6) e7) e9)⟩
    · cases hz3 : xs.all fun c => hasB (partOf c f)
      · have hk : keysM xs f = ([], 8) := by
          unfold keysM
          rw [if_neg (by simp [hz1]), if_neg (by simp [hz2]), if_pos hz3]
        rw [hk]
        have hH : ∀ u, Ext w u → Does Tryz.prog 86 [.slice a n c, .agg ⟨f.enc⟩] u (fun v w' => v = .bool false ∧ Ext u w') := fun u e => by
          have := impl_haveField (c := c) (h.ext e) hz1 hz2
          rw [hz3] at this
          exact this
        refine Does.of_vc tabok Tryz.func47 rfl rfl rfl (by kernel_rfl) ?_; conv => whnf
        refine SemK.box ?_
        intro b4 w4 g4 l4 e4 B4
        conv => whnf
        refine (impl_ValidDeck (h.ext e4)).mono ?_
        rintro _ w6 ⟨rfl, e5⟩
        conv => whnf
        refine IfB.eqf (by simp [*]; done) ?_
        conv => whnf
        refine DrawK.held tabok mixed [(0, false), (1, true), (2, true), (3, true), (4, true), (5, true)] (by kernel_rfl) (by kernel_rfl) ?_
        conv => whnf
        intro w7 e7
        conv => whnf
        refine DSemK.loadAgg (n := 2) (by kernel_rfl) (B4.ext e5).cells rfl ?_
        conv => whnf
        refine (impl_deckColumns (h.ext (Ext.trans (Ext.trans e4 e5) e7))).mono ?_
        rintro _ w9 ⟨rfl, e8⟩
        conv => whnf
        refine ⟨(Ext.trans e7 e8), ?_⟩
        conv => whnf
        refine (impl_isField _ _ _).mono ?_
        rintro _ w11 ⟨rfl, e10⟩
        conv => whnf
        refine ⟨(Ext.trans (Ext.trans e7 e8) e10), ?_⟩
        conv => whnf
        refine IfB.eqf (by simp [*]; done) ?_
        conv => whnf
        refine SemK.loadAgg (n := 2) (by kernel_rfl) (B4.ext (Ext.trans (Ext.trans (Ext.trans e5 e7) e8) e10)).cells rfl ?_
        conv => whnf
        refine (hH _ (Ext.trans (Ext.trans (Ext.trans (Ext.trans e4 e5) e7) e8) e10)).mono ?_
        rintro _ w13 ⟨rfl, e12⟩
        conv => whnf
        exact ⟨rfl, (Ext.trans (Ext.trans (Ext.trans (Ext.trans (Ext.trans e4 e5) e7) e8) e10) e12)⟩
      · rw [keys_good hz1 hz2 hz3]
        have hH : ∀ u, Ext w u → Does Tryz.prog 86 [.slice a n c, .agg ⟨f.enc⟩] u (fun v w' => v = .bool true ∧ Ext u w') := fun u e => by
          have := impl_haveField (c := c) (h.ext e) hz1 hz2
          rw [hz3] at this
          exact this
        refine Does.of_vc tabok Tryz.func47 rfl rfl rfl (by kernel_rfl) ?_; conv => whnf
        refine SemK.box ?_
        intro b4 w4 g4 l4 e4 B4
        conv => whnf
        refine (impl_ValidDeck (h.ext e4)).mono ?_
        rintro _ w6 ⟨rfl, e5⟩
        conv => whnf
        refine IfB.eqf (by simp [*]; done) ?_
        conv => whnf
        refine DrawK.held tabok mixed [(0, false), (1, true), (2, true), (3, true), (4, true), (5, true)] (by kernel_rfl) (by kernel_rfl) ?_
        conv => whnf
        intro w7 e7
        conv => whnf
        refine DSemK.loadAgg (n := 2) (by kernel_rfl) (B4.ext e5).cells rfl ?_
        conv => whnf
        refine (impl_deckColumns (h.ext (Ext.trans (Ext.trans e4 e5) e7))).mono ?_
        rintro _ w9 ⟨rfl, e8⟩
        conv => whnf
        refine ⟨(Ext.trans e7 e8), ?_⟩
        conv => whnf
        refine (impl_isField _ _ _).mono ?_
        rintro _ w11 ⟨rfl, e10⟩
        conv => whnf
        refine ⟨(Ext.trans (Ext.trans e7 e8) e10), ?_⟩
        conv => whnf
        refine IfB.eqf (by simp [*]; done) ?_
        conv => whnf
        refine SemK.loadAgg (n := 2) (by kernel_rfl) (B4.ext (Ext.trans (Ext.trans (Ext.trans e5 e7) e8) e10)).cells rfl ?_
        conv => whnf
        refine (hH _ (Ext.trans (Ext.trans (Ext.trans (Ext.trans e4 e5) e7) e8) e10)).mono ?_
        rintro _ w13 ⟨rfl, e12⟩
        conv => whnf
        exact ⟨rfl, (Ext.trans (Ext.trans (Ext.trans (Ext.trans (Ext.trans e4 e5) e7) e8) e10) e12)⟩
theorem impl_orderBy1 {w : World} {a : Option Addr} {n c b2 b3 : Nat} {xs : List (List Int)} (h : ArrS RCard w a n xs) {f : TField} (hd : deckB xs = true) (hf : fieldB f (widthOf xs) = true) (hc2 : Cells w b2 0 [.slice a n c]) (hc3 : Cells w b3 0 f.enc) {i j : Nat} (hi : i < n) (hj : j < n) :
    Does Tryz.prog 146 [.int .i64 i, .int .i64 j, .pointer (some ⟨b2, 0, none⟩), .pointer (some ⟨b3, 0, none⟩)] w (fun v w' => v = .int .i64 (cmpK (xs.map (ckey f)) (fLen f) i j) ∧ Ext w w') := by
  have hn := h.len
  have hm := h.le
  obtain ⟨hs, hV, hE⟩ := h
  have hl := hV.len
  obtain ⟨d, hdd⟩ := get_of_lt (l := hs) (k := i) (by omega)
  obtain ⟨x, hx, R⟩ := hE.get hdd
  obtain ⟨d', hdd'⟩ := get_of_lt (l := hs) (k := j) (by omega)
  obtain ⟨y, hy, R'⟩ := hE.get hdd'
  have hdm := deckB_mem hd
  have f1 : fieldB f x.length = true := by rw [(hdm.2 x (List.mem_of_getElem? hx)).2]; exact hf
  have f2 : fieldB f y.length = true := by rw [(hdm.2 y (List.mem_of_getElem? hy)).2]; exact hf
  unfold cmpK
  rw [keyD_at hx, keyD_at hy]
  have hF : ∀ u, Ext w u → Does Tryz.prog 145 [.agg ⟨eH d⟩, .agg ⟨eH d'⟩, .agg ⟨f.enc⟩] u (fun v w' => v = .int .i64 (cmpR (ckey f x) (ckey f y)) ∧ Ext u w') := fun u e => impl_compareFields ⟨R.1.ext e, R.2⟩ ⟨R'.1.ext e, R'.2⟩ f1 f2
  refine Does.of_vc tabok Tryz.func146 rfl rfl rfl (by kernel_rfl) ?_; conv => whnf
  refine DrawK.held tabok mixed [(0, false), (1, false), (2, false), (3, false), (4, false), (5, false), (6, false), (7, false), (8, true), (9, true), (10, true)] (by kernel_rfl) (by kernel_rfl) ?_
  conv => whnf
  intro w4 e4
  conv => whnf
  refine DSemK.load1 (by kernel_rfl) hc2 (k := 0) rfl ?_
  conv => whnf
  refine DSemK.index (by kernel_rfl) hV i rfl hdd ?_
  intro b6 o6 ha6 hb6
  conv => whnf
  refine DSemK.loadAgg (n := 1) (by kernel_rfl) hb6 rfl ?_
  conv => whnf
  refine DSemK.load1 (by kernel_rfl) hc2 (k := 0) rfl ?_
  conv => whnf
  refine DSemK.index (by kernel_rfl) hV j rfl hdd' ?_
  intro b8 o8 ha8 hb8
  conv => whnf
  refine DSemK.loadAgg (n := 1) (by kernel_rfl) hb8 rfl ?_
  conv => whnf
  refine SemK.loadAgg (n := 2) (by kernel_rfl) (hc3.ext e4) rfl ?_
  conv => whnf
  refine ⟨e4, ?_⟩
  conv => whnf
  refine (hF _ e4).mono ?_
  rintro _ w10 ⟨rfl, e9⟩
  conv => whnf
  refine ⟨(Ext.trans e4 e9), ?_⟩
  conv => whnf
  exact ⟨rfl, (Ext.trans e4 e9)⟩
theorem impl_orderBy {w : World} {a : Option Addr} {n c : Nat} {xs : List (List Int)} (h : ArrS RCard w a n xs) {f : TField} (hd : deckB xs = true) (hf : fieldB f (widthOf xs) = true) :
    Does Tryz.prog 125 [.slice a n c, .agg ⟨f.enc⟩] w (fun v w' => ∃ a' c', v = .slice a' n c' ∧ NewAt w.heap.size a' ∧ Own eI w' a' n 2 (placesM (xs.map (ckey f)) (fLen f)) ∧ Ext w w') := by
  have hn := h.len
  have hm := h.le
  have hdm := deckB_mem hd
  have h40 := hdm.1
  have hK : ∀ k ∈ xs.map (ckey f), k.length = fLen f := fun k hk => by
    obtain ⟨c, hc, rfl⟩ := List.mem_map.1 hk
    exact ckey_len hd hf hc
  refine Does.of_vc tabok Tryz.func125 rfl rfl rfl (by kernel_rfl) ?_; conv => whnf
  refine SemK.box ?_
  intro b2 w2 g2 l2 e2 B2
  conv => whnf
  refine SemK.box ?_
  intro b3 w3 g3 l3 e3 B3
  conv => whnf
  refine SemK.buildSlice mk_27 (vs := []) (by rfl) (by rfl) (by simp [Value.cells]) (by decide) ?_
  intro b7 w7 g7 l7 e7 B7
  have G7 := Grow.new0 (enc := eI) eI_len B7 g7
  conv => whnf
  refine SemK.load1 (by kernel_rfl) (B2.ext (Ext.trans e3 e7)).cells (k := 0) rfl ?_
  conv => whnf
  refine LoopK.rule [2, 3, 5, 8, 9, 10] (fun (k : Nat) vs w' => ∃ b c1, vs = [.pointer (some ⟨b2, 0, none⟩), .pointer (some ⟨b3, 0, none⟩), .slice (some ⟨b, 0, none⟩) k c1, .slice a n c, .int .i64 n, .int .i64 k] ∧ k ≤ n ∧ Grow eI 1 w3.heap.size 2 w' (some ⟨b, 0, none⟩) k c1 (upto k) ∧ Ext w3 w') (fun k => n - k) tab tabok (by kernel_rfl) 0 ⟨_, _, rfl, by omega, G7, e7⟩ ?_
  rintro k g _ w8 ⟨b, c1, rfl, hk, hG, hX⟩
  have hup := upto_succ k
  have hul := upto_length k
  rcases Nat.lt_or_ge k n with hkn | hkn
  · conv => whnf
    refine IfB.yes (by omega) ?_
    conv => whnf
    refine SemK.buildSlice mk_27 (vs := [Value.int IntKind.i64 ↑k]) (by rfl) (by rfl) (by simp [Value.cells]) (by decide) ?_
    intro b41 w41 g41 l41 e41 B41
    have G41 := Grow.of_blk (n := 1) (enc := eI) (xs := [↑k]) eI_len B41 g41 rfl (by decide)
    conv => whnf
    refine SemK.appendArr0 (enc := eI) mk_27 eI_len (hG.ext e41) (G41.own.arr eI_len) (by intro y _; simp [eI, cellish]) (by omega) (by omega) (Below.size (Ext.trans hX e41)) ?_
    intro a42 c42 w42 G42 m42 i42
    conv => whnf
    refine SemK.add (((k + 1 : Nat) : Int)) (by omega) (by omega) (by omega) ?_
    conv => whnf
    obtain ⟨b42, rfl⟩ := G42.own.some (by omega)
    refine ⟨k + 1, by omega, _, _, rfl, by omega, ?_, Ext.mod_trans (Ext.trans hX e41) m42 (blkIn_new hG.new)⟩
    rw [hup]
    exact G42
  · obtain rfl : k = n := by omega
    have hXw := Ext.trans (Ext.trans e2 e3) hX
    have hnew : w3.heap.size ≤ b := hG.new _ rfl
    have hSort := lib_SortStableInt (c := c1) (g := 146) (cap := [.pointer (some ⟨b2, 0, none⟩), .pointer (some ⟨b3, 0, none⟩)]) (ordR_swo hK) (cmp := cmpK (xs.map (ckey f)) (fLen f)) (fun i j => Iff.rfl) (cmpK_ok _ _) hG.own (upto_rise _) (by omega) (fun i hi j hj w2 M2 => by
      obtain ⟨i', hi', rfl⟩ := upto_mem.1 hi
      obtain ⟨j', hj', rfl⟩ := upto_mem.1 hj
      have E3 : Ext w3 w2 := Ext.mod_trans hX M2 (blkIn_new hG.new)
      exact impl_orderBy1 (h.ext (Ext.trans (Ext.trans e2 e3) E3)) hd hf ((B2.ext e3).ext E3).cells (B3.ext E3).cells hi' hj')
    conv => whnf
    refine IfB.no (by omega) ?_
    conv => whnf
    refine hSort.mono ?_
    rintro _ w9 ⟨rfl, m9, O9⟩
    conv => whnf
    have hs2 := e2.size
    have hs3 := e3.size
    refine ⟨_, _, rfl, NewAt.some (by omega), ?_, Ext.trans (Ext.trans e2 e3) (Ext.mod_trans hX m9 (blkIn_new hG.new))⟩
    unfold placesM
    rw [List.length_map, hn]
    exact O9
theorem impl_newCard {w : World} {d : Hd} {xs : List Int} (R : RCard w d xs) (hx : d.n ≤ 1000000) :
    Does Tryz.prog 126 [.agg ⟨eH d⟩] w (fun v w' => ∃ a' c', v = .agg ⟨eH ⟨a', d.n, c'⟩⟩ ∧ NewAt w.heap.size a' ∧ Grow eI 1 w.heap.size 2 w' a' d.n c' xs ∧ Ext w w') := by
  obtain ⟨A, hnc⟩ := R
  refine Does.of_vc tabok Tryz.func126 rfl rfl rfl (by kernel_rfl) ?_; conv => whnf
  refine SemK.box ?_
  intro b1 w1 g1 l1 e1 B1
  conv => whnf
  refine SemK.alloc (z := .agg #[.slice none 0 0]) (by kernel_rfl) ?_
  intro b2 w2 g2 l2 e2 B2
  conv => whnf
  refine SemK.load1 (by kernel_rfl) (B1.ext e2).cells (k := 0) rfl ?_
  conv => whnf
  refine (impl_copyInts (A.ext (Ext.trans e1 e2)) hx).mono ?_
  rintro _ w8 ⟨a'3, c'4, rfl, N5, G6, e7⟩
  conv => whnf
  refine SemK.build st_51 rfl ?_
  conv => whnf
  refine SemK.storeAll (vs := [Value.slice a'3 d.n c'4]) (by kernel_rfl) (B2.ext e7) rfl rfl (by simp [cellish]) ?_
  intro w9 c9 B9
  conv => whnf
  refine CellK.of (run_loadAgg (n := 1) (by kernel_rfl) rfl B9.cells) ?_
  conv => whnf
  refine ⟨_, _, rfl, ?_, ?_, ?_⟩
  · exact (G6.new.mono (Below.size (Ext.trans e1 e2)))
  · exact (G6.base (Below.size (Ext.trans e1 e2))).kept (fun x hx => c9.but.block _ (by have := G6.new x hx; omega) (G6.lt x hx))
  · exact (Ext.but_trans (Ext.trans (Ext.trans e1 e2) e7) c9.but (Nat.le_trans (Below.size e1) g2))
end Go.Proofs.YtfgbijddjoojbaaGreat
