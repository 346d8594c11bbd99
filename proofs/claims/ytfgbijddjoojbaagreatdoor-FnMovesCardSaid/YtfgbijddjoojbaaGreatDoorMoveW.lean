/- Contracts of functions of the given program, of the reference and of the laws: each says what a call returns, for all arguments that meet the premises that the theorem itself names. -/
import Derived.Test.YtfgbijddjoojbaaGreatDoorMoveM
import Derived.Test.YtfgbijddjoojbaaGreatDoorCardN
import Derived.Test.YtfgbijddjoojbaaGreatDoorKeyW
import Derived.Test.YtfgbijddjoojbaaGreatDoorLibSl
import Derived.Test.YtfgbijddjoojbaaGreatDoorBasics
namespace Go.M
open Go Go.Vc
theorem itemB_name {x : TItem} {w : Int} (h : nameB x.name = false) : itemB x w = false := by simp [itemB, h]
theorem itemB_field {x : TItem} {w : Int} (h : fieldB x.fld w = false) : itemB x w = false := by simp [itemB, h]
theorem itemB_kind {x : TItem} {w : Int} (h1 : ¬ x.kind = 1) (h2 : ¬ x.kind = 2) : itemB x w = false := by simp [itemB, h1, h2]
theorem itemB_text {x : TItem} {w : Int} (h : nameB x.name = true) (hf : fieldB x.fld w = true) (hk : x.kind = 1) : itemB x w = true := by simp [itemB, h, hf, hk]
theorem itemB_num {x : TItem} {w : Int} (h : nameB x.name = true) (hf : fieldB x.fld w = true) (hk : x.kind = 2) : itemB x w = decide (x.to_ - x.from_ ≤ 12) := by
  unfold itemB
  rw [h, hf, hk]
  simp [TItem.fld]
  exact decide_eq_decide.2 Iff.rfl
theorem itemAt_bad {xs : List TItem} {w : Int} {k : Nat} {x : TItem} (hx : xs[k]? = some x) (h : itemB x w = false) : itemAt xs w k = false := by simp [itemAt, hx, h]
theorem itemAt_clash {xs : List TItem} {w : Int} {k : Nat} {x : TItem} (hx : xs[k]? = some x) (h : itemB x w = true) : itemAt xs w k = !(xs.take k).any fun y => clashB x y := by simp [itemAt, hx, h]
theorem clash_comm (x y : TItem) : clashB x y = clashB y x := by
  unfold clashB meetB
  rw [Bool.eq_iff_iff]
  simp only [Bool.or_eq_true, Bool.and_eq_true, decide_eq_true_eq]
  constructor
  · rintro (h | ⟨h1, h2⟩)
    · exact .inl h.symm
    · exact .inr ⟨h2, h1⟩
  · rintro (h | ⟨h1, h2⟩)
    · exact .inl h.symm
    · exact .inr ⟨h2, h1⟩
theorem itemAt_b {xs : List TItem} {w : Int} {k : Nat} {x : TItem} (hx : xs[k]? = some x) (h : itemAt xs w k = true) : itemB x w = true := by
  unfold itemAt at h
  rw [hx] at h
  simp only [Bool.and_eq_true] at h
  exact h.1
theorem any_congr {α : Type} {p q : α → Bool} : ∀ {l : List α}, (∀ x ∈ l, p x = q x) → l.any p = l.any q
  | [], _ => rfl
  | x :: l, h => by
    rw [List.any_cons, List.any_cons, h x (by simp), any_congr (fun y hy => h y (by simp [hy]))]
theorem fld_ok {x : TItem} (h : x.ok) : x.fld.ok := ⟨h.2.2.1, h.2.2.2⟩
end Go.M
namespace Go.Proofs.YtfgbijddjoojbaaGreatDoor
open Go Go.RowKit Go.Vc Go.M
theorem lib_IndexFuncItem {w : World} {a : Option Addr} {n c g : Nat} {xs : List TItem} (h : Arr TItem.enc 4 w a n xs) {p : TItem → Bool} {cap : List Value}
    (hg : ∀ x ∈ xs, ∀ w', Ext w w' → Does Tryz.prog g (.agg ⟨x.enc⟩ :: cap) w' (fun v w'' => v = .bool (p x) ∧ Ext w' w'')) :
    Does Tryz.prog 179 [.slice a n c, .func (.func g) ⟨[]⟩ ⟨cap⟩] w (fun v w' => v = .int .i64 (idxI p xs) ∧ Ext w w') := by
  have hn := h.len
  have hm := h.le
  refine Does.of_vc tabok Tryz.func179 rfl rfl rfl (by kernel_rfl) ?_; conv => whnf
  refine LoopK.rule [0, 1, 7, 8] (fun (k : Nat) vs w' => vs = [.slice a n c, .func (.func g) ⟨[]⟩ ⟨cap⟩, .int .i64 n, .int .i64 k] ∧ k ≤ n ∧ (xs.take k).any p = false ∧ Ext w w') (fun k => n - k) tab tabok (by kernel_rfl) 0 ⟨rfl, by omega, by simp, Ext.refl _⟩ ?_
  rintro k g' _ w' ⟨rfl, hk, hall, hE⟩
  conv => whnf
  with_reducible refine IfB.dec (fun h4 => ?_) (fun h4 => ?_)
  · obtain ⟨x, hx⟩ : ∃ x, xs[k]? = some x := get_of_lt (by omega)
    have hgx := hg x (List.mem_of_getElem? hx)
    conv => whnf
    refine SemK.index (by kernel_rfl) (h.ext hE) k rfl hx ?_
    intro b o _ hb
    conv => whnf
    refine SemK.loadAgg (by kernel_rfl) (n := 4) hb rfl ?_
    conv => whnf
    refine (hgx w' hE).mono ?_
    rintro _ w2 ⟨rfl, e2⟩
    conv => whnf
    with_reducible refine IfB.split (fun h5 => ?_) (fun h5 => ?_)
    · conv => whnf
      exact ⟨by rw [idxI_at hall hx h5], Ext.trans hE e2⟩
    · conv => whnf
      refine SemK.add (((k + 1 : Nat) : Int)) (by omega) (by omega) (by omega) ?_
      conv => whnf
      exact ⟨k + 1, by omega, rfl, by omega, by rw [any_take_succ hx, hall, h5]; rfl, Ext.trans hE e2⟩
  · conv => whnf
    rw [List.take_of_length_le (by omega)] at hall
    exact ⟨by rw [idxI_neg hall], hE⟩
theorem lib_ContainsFuncItem {w : World} {a : Option Addr} {n c g : Nat} {xs : List TItem} (h : Arr TItem.enc 4 w a n xs) {p : TItem → Bool} {cap : List Value}
    (hg : ∀ x ∈ xs, ∀ w', Ext w w' → Does Tryz.prog g (.agg ⟨x.enc⟩ :: cap) w' (fun v w'' => v = .bool (p x) ∧ Ext w' w'')) :
    Does Tryz.prog 174 [.slice a n c, .func (.func g) ⟨[]⟩ ⟨cap⟩] w (fun v w' => v = .bool (xs.any p) ∧ Ext w w') := by
  refine Does.of_vc tabok Tryz.func174 rfl rfl rfl (by kernel_rfl) ?_; conv => whnf
  refine (lib_IndexFuncItem h hg).mono ?_
  rintro _ w2 ⟨rfl, e2⟩
  conv => whnf
  refine ⟨?_, e2⟩
  congr 1
  cases ha : xs.any p with
  | true => exact decide_eq_true (idxI_nonneg ha)
  | false => rw [idxI_neg ha]; rfl
theorem impl_isItem {x : TItem} (hx : x.ok) {w : Int} (W : World) (hw : w ≤ 1000) : Does Tryz.prog 173 [.agg ⟨x.enc⟩, .int .i64 w] W (fun v w' => v = .bool (itemB x w) ∧ Ext W w') := by
  obtain ⟨q0, q1, q2, q3⟩ := hx
  simp only [strok, i64ok] at q0 q1 q2 q3
  have hF := fun u => impl_isField x.fld w u
  have hN := fun u => impl_IsName x.name q0 u
  cases hz1 : nameB x.name
  · rw [hz1] at hN
    rw [itemB_name hz1]
    refine Does.of_vc tabok Tryz.func173 rfl rfl rfl (by kernel_rfl) ?_; conv => whnf
    refine SemK.box ?_
    intro b4 w4 g4 l4 e4 B4
    conv => whnf
    refine SemK.load1 (by kernel_rfl) B4.cells (k := 0) rfl ?_
    conv => whnf
    refine (hN _).mono ?_
    rintro _ _ ⟨rfl, rfl⟩
    conv => whnf
    exact ⟨rfl, e4⟩
  · rw [hz1] at hN
    cases hz2 : fieldB x.fld w
    · rw [hz2] at hF
      rw [itemB_field hz2]
      refine Does.of_vc tabok Tryz.func173 rfl rfl rfl (by kernel_rfl) ?_; conv => whnf
      refine SemK.box ?_
      intro b4 w4 g4 l4 e4 B4
      conv => whnf
      refine SemK.load1 (by kernel_rfl) B4.cells (k := 0) rfl ?_
      conv => whnf
      refine (hN _).mono ?_
      rintro _ _ ⟨rfl, rfl⟩
      conv => whnf
      refine SemK.loadAggAt (n := 2) (by kernel_rfl) (k := 2) B4.cells rfl ?_
      conv => whnf
      refine (hF _).mono ?_
      rintro _ w7 ⟨rfl, e6⟩
      conv => whnf
      exact ⟨rfl, (Ext.trans e4 e6)⟩
    · rw [hz2] at hF
      have hb := fieldB_b hz2
      simp only [TItem.fld] at hb
      by_cases k1 : x.kind = 1
      · rw [itemB_text hz1 hz2 k1]
        refine Does.of_vc tabok Tryz.func173 rfl rfl rfl (by kernel_rfl) ?_; conv => whnf
        refine SemK.box ?_
        intro b4 w4 g4 l4 e4 B4
        conv => whnf
        refine SemK.load1 (by kernel_rfl) B4.cells (k := 0) rfl ?_
        conv => whnf
        refine (hN _).mono ?_
        rintro _ _ ⟨rfl, rfl⟩
        conv => whnf
        refine SemK.loadAggAt (n := 2) (by kernel_rfl) (k := 2) B4.cells rfl ?_
        conv => whnf
        refine (hF _).mono ?_
        rintro _ w7 ⟨rfl, e6⟩
        conv => whnf
        refine SemK.load1 (by kernel_rfl) (B4.ext e6).cells (k := 1) rfl ?_
        conv => whnf
        refine IfB.yes (by omega) ?_
        conv => whnf
        exact ⟨rfl, (Ext.trans e4 e6)⟩
      · by_cases k2 : x.kind = 2
        · rw [itemB_num hz1 hz2 k2]
          refine Does.of_vc tabok Tryz.func173 rfl rfl rfl (by kernel_rfl) ?_; conv => whnf
          refine SemK.box ?_
          intro b4 w4 g4 l4 e4 B4
          conv => whnf
          refine SemK.load1 (by kernel_rfl) B4.cells (k := 0) rfl ?_
          conv => whnf
          refine (hN _).mono ?_
          rintro _ _ ⟨rfl, rfl⟩
          conv => whnf
          refine SemK.loadAggAt (n := 2) (by kernel_rfl) (k := 2) B4.cells rfl ?_
          conv => whnf
          refine (hF _).mono ?_
          rintro _ w7 ⟨rfl, e6⟩
          conv => whnf
          refine SemK.load1 (by kernel_rfl) (B4.ext e6).cells (k := 1) rfl ?_
          conv => whnf
          refine IfB.no (by omega) ?_
          conv => whnf
          refine SemK.load1 (by kernel_rfl) (B4.ext e6).cells (k := 1) rfl ?_
          conv => whnf
          refine IfB.yes (by omega) ?_
          conv => whnf
          refine SemK.load1 (by kernel_rfl) (B4.ext e6).cells (k := 3) rfl ?_
          conv => whnf
          refine SemK.load1 (by kernel_rfl) (B4.ext e6).cells (k := 2) rfl ?_
          conv => whnf
          refine SemK.sub _ rfl (by omega) (by omega) ?_
          conv => whnf
          exact ⟨rfl, (Ext.trans e4 e6)⟩
        · rw [itemB_kind k1 k2]
          refine Does.of_vc tabok Tryz.func173 rfl rfl rfl (by kernel_rfl) ?_; conv => whnf
          refine SemK.box ?_
          intro b4 w4 g4 l4 e4 B4
          conv => whnf
          refine SemK.load1 (by kernel_rfl) B4.cells (k := 0) rfl ?_
          conv => whnf
          refine (hN _).mono ?_
          rintro _ _ ⟨rfl, rfl⟩
          conv => whnf
          refine SemK.loadAggAt (n := 2) (by kernel_rfl) (k := 2) B4.cells rfl ?_
          conv => whnf
          refine (hF _).mono ?_
          rintro _ w7 ⟨rfl, e6⟩
          conv => whnf
          refine SemK.load1 (by kernel_rfl) (B4.ext e6).cells (k := 1) rfl ?_
          conv => whnf
          refine IfB.no (by omega) ?_
          conv => whnf
          refine SemK.load1 (by kernel_rfl) (B4.ext e6).cells (k := 1) rfl ?_
          conv => whnf
          refine IfB.no (by omega) ?_
          conv => whnf
          exact ⟨rfl, (Ext.trans e4 e6)⟩
theorem impl_meet (x y : TField) (w : World) : Does Tryz.prog 176 [.agg ⟨x.enc⟩, .agg ⟨y.enc⟩] w (fun v w' => v = .bool (decide (max x.from_ y.from_ < min x.to_ y.to_)) ∧ Ext w w') := by
  refine Does.of_vc tabok Tryz.func176 rfl rfl rfl (by kernel_rfl) ?_; conv => whnf
  refine SemK.box ?_
  intro b1 w1 g1 l1 e1 B1
  conv => whnf
  refine SemK.box ?_
  intro b2 w2 g2 l2 e2 B2
  conv => whnf
  refine SemK.load1 (by kernel_rfl) (B1.ext e2).cells (k := 0) rfl ?_
  conv => whnf
  refine SemK.load1 (by kernel_rfl) B2.cells (k := 0) rfl ?_
  conv => whnf
  refine SemK.max2 ?_
  conv => whnf
  refine SemK.load1 (by kernel_rfl) (B1.ext e2).cells (k := 1) rfl ?_
  conv => whnf
  refine SemK.load1 (by kernel_rfl) B2.cells (k := 1) rfl ?_
  conv => whnf
  refine SemK.min2 ?_
  conv => whnf
  exact ⟨rfl, (Ext.trans e1 e2)⟩
theorem impl_ValidLayout1 (x y : TItem) {w : World} {b : Nat} (hc : Cells w b 0 x.enc) : Does Tryz.prog 175 [.agg ⟨y.enc⟩, .pointer (some ⟨b, 0, none⟩)] w (fun v w' => v = .bool (decide (x.name = y.name) || decide (max x.from_ y.from_ < min x.to_ y.to_)) ∧ Ext w w') := by
  have hM := fun u => impl_meet x.fld y.fld u
  simp only [TItem.fld] at hM
  refine Does.of_vc tabok Tryz.func175 rfl rfl rfl (by kernel_rfl) ?_; conv => whnf
  refine SemK.box ?_
  intro b2 w2 g2 l2 e2 B2
  conv => whnf
  refine SemK.load1 (by kernel_rfl) (hc.ext e2) (k := 0) rfl ?_
  conv => whnf
  refine SemK.load1 (by kernel_rfl) B2.cells (k := 0) rfl ?_
  conv => whnf
  with_reducible refine IfB.dec (fun h3 => ?_) (fun h3 => ?_)
  · conv => whnf
    exact ⟨by simp [*], e2⟩
  · conv => whnf
    refine SemK.loadAggAt (n := 2) (by kernel_rfl) (k := 2) (hc.ext e2) rfl ?_
    conv => whnf
    refine SemK.loadAggAt (n := 2) (by kernel_rfl) (k := 2) B2.cells rfl ?_
    conv => whnf
    refine (hM _).mono ?_
    rintro _ w5 ⟨rfl, e4⟩
    conv => whnf
    refine ⟨?_, (Ext.trans e2 e4)⟩
    · rw [decide_eq_false h3, Bool.false_or]
      rfl
theorem impl_ValidLayout {w : World} {a : Option Addr} {n c : Nat} {wd : Int} {xs : List TItem} (h : Arr TItem.enc 4 w a n xs) (hnc : n ≤ c) (hok : ∀ x ∈ xs, x.ok) : Does Tryz.prog 129 [.agg #[.int .i64 wd, .slice a n c]] w (fun v w' => v = .bool (layoutB wd xs) ∧ Ext w w') := by
  have hn := h.len
  have hm := h.le
  cases hz1 : inB wd 1 20
  · rw [layout_w hz1]
    refine Does.of_vc tabok Tryz.func129 rfl rfl rfl (by kernel_rfl) ?_; conv => whnf
    refine SemK.box ?_
    intro b2 w2 g2 l2 e2 B2
    conv => whnf
    refine SemK.load1 (by kernel_rfl) B2.cells (k := 0) rfl ?_
    conv => whnf
    refine (impl_inside _ _ _ _).mono ?_
    rintro _ _ ⟨rfl, rfl⟩
    conv => whnf
    refine IfB.eqt (by simp [*]; done) ?_
    conv => whnf
    exact ⟨rfl, e2⟩
  · have hwb := inB_true hz1
    by_cases h12 : xs.length ≤ 12
    · refine Does.of_vc tabok Tryz.func129 rfl rfl rfl (by kernel_rfl) ?_; conv => whnf
      refine SemK.box ?_
      intro b13 w13 g13 l13 e13 B13
      conv => whnf
      refine SemK.load1 (by kernel_rfl) B13.cells (k := 0) rfl ?_
      conv => whnf
      refine (impl_inside _ _ _ _).mono ?_
      rintro _ _ ⟨rfl, rfl⟩
      conv => whnf
      refine IfB.eqf (by simp [*]; done) ?_
      conv => whnf
      refine SemK.load1 (by kernel_rfl) B13.cells (k := 1) rfl ?_
      conv => whnf
      refine IfB.no (by omega) ?_
      conv => whnf
      refine SemK.load1 (by kernel_rfl) B13.cells (k := 1) rfl ?_
      conv => whnf
      refine LoopK.rule [1, 16, 17, 18] (fun (k : Nat) vs w' => vs = [.pointer (some ⟨b13, 0, none⟩), .slice a n c, .int .i64 n, .int .i64 k] ∧ k ≤ n ∧ (∀ i, i < k → itemAt xs wd i = true) ∧ Ext w13 w') (fun k => n - k) tab tabok (by kernel_rfl) 0 ⟨rfl, by omega, fun i hi => by omega, Ext.refl _⟩ ?_
      rintro k g _ w20 ⟨rfl, hk, hall, hX⟩
      have hXw := Ext.trans e13 hX
      rcases Nat.lt_or_ge k n with hkn | hkn
      · obtain ⟨x, hx⟩ : ∃ x, xs[k]? = some x := get_of_lt (by omega)
        have hxo := hok x (List.mem_of_getElem? hx)
        have hI := fun u => impl_isItem hxo (w := wd) u (by omega)
        cases hz2 : itemB x wd
        · rw [hz2] at hI
          rw [layout_bad (by omega) (itemAt_bad hx hz2)]
          conv => whnf
          refine IfB.yes (by omega) ?_
          conv => whnf
          refine SemK.index (by kernel_rfl) (h.ext hXw) k rfl hx ?_
          intro b22 o22 ha22 hb22
          conv => whnf
          refine SemK.loadAgg (n := 4) (by kernel_rfl) hb22 rfl ?_
          conv => whnf
          refine SemK.alloc (z := .agg #[.string { data := #[] }, .int .i64 0, .int .i64 0, .int .i64 0]) (by kernel_rfl) ?_
          intro b23 w23 g23 l23 e23 B23
          conv => whnf
          refine SemK.storeAll (by kernel_rfl) B23 (vs := x.enc) rfl rfl (by simp [TItem.enc, cellish]) ?_
          intro w24 c24 B24
          conv => whnf
          refine SemK.loadAgg (n := 4) (by kernel_rfl) B24.cells rfl ?_
          conv => whnf
          refine SemK.load1 (by kernel_rfl) (B13.ext (Ext.but_trans (Ext.trans hX e23) c24.but (Nat.le_trans (Below.size hX) g23))).cells (k := 0) rfl ?_
          conv => whnf
          refine (hI _).mono ?_
          rintro _ w26 ⟨rfl, e25⟩
          conv => whnf
          exact ⟨rfl, (Ext.trans (Ext.but_trans (Ext.trans hXw e23) c24.but (Nat.le_trans (Below.size hXw) g23)) e25)⟩
        · rw [hz2] at hI
          have hcl := itemAt_clash hx hz2
          have hfx := fieldB_b (itemB_b hz2)
          have hpq : (xs.take k).any (fun y => decide (x.name = y.name) || decide (max x.from_ y.from_ < min x.to_ y.to_)) = (xs.take k).any (fun y => clashB x y) := any_congr fun y hy => by
            obtain ⟨i, hi⟩ := List.mem_iff_getElem?.1 hy
            rw [List.getElem?_take] at hi
            split at hi
            · rename_i hik
              have hfy := fieldB_b (itemB_b (itemAt_b hi (hall i hik)))
              unfold clashB
              congr 1
              exact meetB_max hfx.2.1 hfy.2.1
            · cases hi
          have hC : ∀ u b, Arr TItem.enc 4 u a k (xs.take k) → Cells u b 0 x.enc → Does Tryz.prog 174 [.slice a k c, .func (.func 175) ⟨[]⟩ ⟨[.pointer (some ⟨b, 0, none⟩)]⟩] u (fun v w' => v = .bool ((xs.take k).any (fun y => clashB x y)) ∧ Ext u w') := fun u b hA hc => by
            rw [← hpq]
            exact lib_ContainsFuncItem hA (fun y _ w' e2 => impl_ValidLayout1 x y (hc.ext e2))
          cases hz3 : (xs.take k).any (fun y => clashB x y)
          · rw [hz3] at hcl hC
            have hnext : ∀ i, i < k + 1 → itemAt xs wd i = true := fun i hi => by
              by_cases e : i = k
              · subst e; rw [hcl]; rfl
              · exact hall i (by omega)
            conv => whnf
            refine IfB.yes (by omega) ?_
            conv => whnf
            refine SemK.index (by kernel_rfl) (h.ext hXw) k rfl hx ?_
            intro b22 o22 ha22 hb22
            conv => whnf
            refine SemK.loadAgg (n := 4) (by kernel_rfl) hb22 rfl ?_
            conv => whnf
            refine SemK.alloc (z := .agg #[.string { data := #[] }, .int .i64 0, .int .i64 0, .int .i64 0]) (by kernel_rfl) ?_
            intro b23 w23 g23 l23 e23 B23
            conv => whnf
            refine SemK.storeAll (by kernel_rfl) B23 (vs := x.enc) rfl rfl (by simp [TItem.enc, cellish]) ?_
            intro w24 c24 B24
            conv => whnf
            refine SemK.loadAgg (n := 4) (by kernel_rfl) B24.cells rfl ?_
            conv => whnf
            refine SemK.load1 (by kernel_rfl) (B13.ext (Ext.but_trans (Ext.trans hX e23) c24.but (Nat.le_trans (Below.size hX) g23))).cells (k := 0) rfl ?_
            conv => whnf
            refine (hI _).mono ?_
            rintro _ w26 ⟨rfl, e25⟩
            conv => whnf
            refine SemK.load1 (by kernel_rfl) (B13.ext (Ext.trans (Ext.but_trans (Ext.trans hX e23) c24.but (Nat.le_trans (Below.size hX) g23)) e25)).cells (k := 1) rfl ?_
            conv => whnf
            refine SemK.sliceTo (k' := .i64) (by kernel_rfl) (h.ext (Ext.trans (Ext.but_trans (Ext.trans hXw e23) c24.but (Nat.le_trans (Below.size hXw) g23)) e25)) (k) (by omega) (by omega) (.inr (by rfl)) ?_
            intro A27
            conv => whnf
            refine (hC _ _ A27 (B24.ext e25).cells).mono ?_
            rintro _ w29 ⟨rfl, e28⟩
            conv => whnf
            refine SemK.add (((k + 1 : Nat) : Int)) (by omega) (by omega) (by omega) ?_
            conv => whnf
            exact ⟨k + 1, by omega, rfl, by omega, by omega, (Ext.trans (Ext.trans (Ext.but_trans (Ext.trans hX e23) c24.but (Nat.le_trans (Below.size hX) g23)) e25) e28)⟩
          · rw [hz3] at hcl hC
            rw [layout_bad (k := k) (by omega) (by rw [hcl]; rfl)]
            conv => whnf
            refine IfB.yes (by omega) ?_
            conv => whnf
            refine SemK.index (by kernel_rfl) (h.ext hXw) k rfl hx ?_
            intro b22 o22 ha22 hb22
            conv => whnf
            refine SemK.loadAgg (n := 4) (by kernel_rfl) hb22 rfl ?_
            conv => whnf
            refine SemK.alloc (z := .agg #[.string { data := #[] }, .int .i64 0, .int .i64 0, .int .i64 0]) (by kernel_rfl) ?_
            intro b23 w23 g23 l23 e23 B23
            conv => whnf
            refine SemK.storeAll (by kernel_rfl) B23 (vs := x.enc) rfl rfl (by simp [TItem.enc, cellish]) ?_
            intro w24 c24 B24
            conv => whnf
            refine SemK.loadAgg (n := 4) (by kernel_rfl) B24.cells rfl ?_
            conv => whnf
            refine SemK.load1 (by kernel_rfl) (B13.ext (Ext.but_trans (Ext.trans hX e23) c24.but (Nat.le_trans (Below.size hX) g23))).cells (k := 0) rfl ?_
            conv => whnf
            refine (hI _).mono ?_
            rintro _ w26 ⟨rfl, e25⟩
            conv => whnf
            refine SemK.load1 (by kernel_rfl) (B13.ext (Ext.trans (Ext.but_trans (Ext.trans hX e23) c24.but (Nat.le_trans (Below.size hX) g23)) e25)).cells (k := 1) rfl ?_
            conv => whnf
            refine SemK.sliceTo (k' := .i64) (by kernel_rfl) (h.ext (Ext.trans (Ext.but_trans (Ext.trans hXw e23) c24.but (Nat.le_trans (Below.size hXw) g23)) e25)) (k) (by omega) (by omega) (.inr (by rfl)) ?_
            intro A27
            conv => whnf
            refine (hC _ _ A27 (B24.ext e25).cells).mono ?_
            rintro _ w29 ⟨rfl, e28⟩
            conv => whnf
            exact ⟨rfl, (Ext.trans (Ext.trans (Ext.but_trans (Ext.trans hXw e23) c24.but (Nat.le_trans (Below.size hXw) g23)) e25) e28)⟩
      · have hla := layout_all hz1 (xs := xs) (fun i hi => hall i (by omega))
        rw [hla, decide_eq_true h12]
        conv => whnf
        refine IfB.no (by omega) ?_
        conv => whnf
        exact ⟨rfl, hXw⟩
    · rw [layout_many h12]
      refine Does.of_vc tabok Tryz.func129 rfl rfl rfl (by kernel_rfl) ?_; conv => whnf
      refine SemK.box ?_
      intro b13 w13 g13 l13 e13 B13
      conv => whnf
      refine SemK.load1 (by kernel_rfl) B13.cells (k := 0) rfl ?_
      conv => whnf
      refine (impl_inside _ _ _ _).mono ?_
      rintro _ _ ⟨rfl, rfl⟩
      conv => whnf
      refine IfB.eqf (by simp [*]; done) ?_
      conv => whnf
      refine SemK.load1 (by kernel_rfl) B13.cells (k := 1) rfl ?_
      conv => whnf
      refine IfB.yes (by omega) ?_
      conv => whnf
      exact ⟨rfl, e13⟩
theorem impl_itemIndex1 (y : TItem) (s : ByteArray) {w : World} {b : Nat} (hc : Cells w b 0 [.string s]) : Does Tryz.prog 180 [.agg ⟨y.enc⟩, .pointer (some ⟨b, 0, none⟩)] w (fun v w' => v = .bool (decide (y.name = s)) ∧ Ext w w') := by
  refine Does.of_vc tabok Tryz.func180 rfl rfl rfl (by kernel_rfl) ?_; conv => whnf
  refine SemK.box ?_
  intro b2 w2 g2 l2 e2 B2
  conv => whnf
  refine SemK.load1 (by kernel_rfl) B2.cells (k := 0) rfl ?_
  conv => whnf
  refine SemK.load1 (by kernel_rfl) (hc.ext e2) (k := 0) rfl ?_
  conv => whnf
  exact ⟨rfl, e2⟩
theorem impl_itemIndex {w : World} {a : Option Addr} {n c : Nat} {wd : Int} {xs : List TItem} (h : Arr TItem.enc 4 w a n xs) (s : ByteArray) : Does Tryz.prog 132 [.agg #[.int .i64 wd, .slice a n c], .string s] w (fun v w' => v = .int .i64 (itemIx xs s) ∧ Ext w w') := by
  have hI : ∀ u b, Ext w u → Cells u b 0 [.string s] → Does Tryz.prog 179 [.slice a n c, .func (.func 180) ⟨[]⟩ ⟨[.pointer (some ⟨b, 0, none⟩)]⟩] u (fun v w' => v = .int .i64 (itemIx xs s) ∧ Ext u w') := fun u b e hc => lib_IndexFuncItem (h.ext e) (p := fun y => decide (y.name = s)) (fun x _ w' e2 => impl_itemIndex1 x s (hc.ext e2))
  refine Does.of_vc tabok Tryz.func132 rfl rfl rfl (by kernel_rfl) ?_; conv => whnf
  refine SemK.box ?_
  intro b1 w1 g1 l1 e1 B1
  conv => whnf
  refine SemK.box ?_
  intro b2 w2 g2 l2 e2 B2
  have B2 : Blk w2 b2 [.string s] _ := B2
  conv => whnf
  refine SemK.load1 (by kernel_rfl) (B1.ext e2).cells (k := 1) rfl ?_
  conv => whnf
  refine (hI _ _ (Ext.trans e1 e2) B2.cells).mono ?_
  rintro _ w4 ⟨rfl, e3⟩
  conv => whnf
  exact ⟨rfl, Ext.trans (Ext.trans e1 e2) e3⟩
theorem spec_l04Item {x : TItem} (hx : x.ok) {w : Int} (hw : w ≤ 1000) {W : World} {b o : Nat} (hc : Cells W b o x.enc) : Does Tryz.prog 187 [.pointer (some ⟨b, o, none⟩), .int .i64 w] W (fun v w' => v = .bool (itemB x w) ∧ Ext W w') := by
  obtain ⟨q0, q1, q2, q3⟩ := hx
  simp only [strok, i64ok] at q0 q1 q2 q3
  have hF := fun u => spec_l02Field x.fld w u
  have hN := fun u => spec_IsName x.name q0 u
  cases hz1 : nameB x.name
  · rw [hz1] at hN
    rw [itemB_name hz1]
    refine Does.of_vc tabok Tryz.func187 rfl rfl rfl (by kernel_rfl) ?_; conv => whnf
    refine SemK.load1 (by kernel_rfl) hc (k := 0) rfl ?_
    conv => whnf
    refine (hN _).mono ?_
    rintro _ _ ⟨rfl, rfl⟩
    conv => whnf
    exact ⟨rfl, Ext.refl _⟩
  · rw [hz1] at hN
    by_cases k12 : x.kind = 1 ∨ x.kind = 2
    · cases hz2 : fieldB x.fld w
      · rw [hz2] at hF
        rw [itemB_field hz2]
        have hin : inB x.kind 1 2 = true := by simp [inB]; omega
        refine Does.of_vc tabok Tryz.func187 rfl rfl rfl (by kernel_rfl) ?_; conv => whnf
        refine SemK.load1 (by kernel_rfl) hc (k := 0) rfl ?_
        conv => whnf
        refine (hN _).mono ?_
        rintro _ _ ⟨rfl, rfl⟩
        conv => whnf
        refine SemK.load1 (by kernel_rfl) hc (k := 1) rfl ?_
        conv => whnf
        refine (spec_in _ _ _ _).mono ?_
        rintro _ _ ⟨rfl, rfl⟩
        conv => whnf
        refine IfB.eqf (by simp [*]; done) ?_
        conv => whnf
        refine SemK.loadAggAt (n := 2) (by kernel_rfl) (k := 2) hc rfl ?_
        conv => whnf
        refine (hF _).mono ?_
        rintro _ w16 ⟨rfl, e15⟩
        conv => whnf
        exact ⟨rfl, e15⟩
      · rw [hz2] at hF
        have hb := fieldB_b hz2
        simp only [TItem.fld] at hb
        have hin : inB x.kind 1 2 = true := by simp [inB]; omega
        by_cases k1 : x.kind = 1
        · rw [itemB_text hz1 hz2 k1]
          refine Does.of_vc tabok Tryz.func187 rfl rfl rfl (by kernel_rfl) ?_; conv => whnf
          refine SemK.load1 (by kernel_rfl) hc (k := 0) rfl ?_
          conv => whnf
          refine (hN _).mono ?_
          rintro _ _ ⟨rfl, rfl⟩
          conv => whnf
          refine SemK.load1 (by kernel_rfl) hc (k := 1) rfl ?_
          conv => whnf
          refine (spec_in _ _ _ _).mono ?_
          rintro _ _ ⟨rfl, rfl⟩
          conv => whnf
          with_reducible refine IfB.nsplit (fun h15 => ?_) (fun h15 => ?_)
          · conv => whnf
            exact ⟨by simp_all, Ext.refl _⟩
          · conv => whnf
            have hi15 := inB_true h15
            refine SemK.loadAggAt (n := 2) (by kernel_rfl) (k := 2) hc rfl ?_
            conv => whnf
            refine (hF _).mono ?_
            rintro _ w17 ⟨rfl, e16⟩
            conv => whnf
            refine DrawK.det tabok mixed (by kernel_rfl) (by kernel_rfl) ?_
            conv => whnf
            refine DSemK.load1 (by kernel_rfl) (hc.ext e16) (k := 1) rfl ?_
            conv => whnf
            refine IfB.yes (by omega) ?_
            conv => whnf
            intro w18 e18
            conv => whnf
            exact ⟨rfl, (Ext.trans e16 e18)⟩
        · rw [itemB_num hz1 hz2 (by omega)]
          refine Does.of_vc tabok Tryz.func187 rfl rfl rfl (by kernel_rfl) ?_; conv => whnf
          refine SemK.load1 (by kernel_rfl) hc (k := 0) rfl ?_
          conv => whnf
          refine (hN _).mono ?_
          rintro _ _ ⟨rfl, rfl⟩
          conv => whnf
          refine SemK.load1 (by kernel_rfl) hc (k := 1) rfl ?_
          conv => whnf
          refine (spec_in _ _ _ _).mono ?_
          rintro _ _ ⟨rfl, rfl⟩
          conv => whnf
          refine IfB.eqf (by simp [*]; done) ?_
          conv => whnf
          refine SemK.loadAggAt (n := 2) (by kernel_rfl) (k := 2) hc rfl ?_
          conv => whnf
          refine (hF _).mono ?_
          rintro _ w16 ⟨rfl, e15⟩
          conv => whnf
          refine DrawK.det tabok mixed (by kernel_rfl) (by kernel_rfl) ?_
          conv => whnf
          refine DSemK.load1 (by kernel_rfl) (hc.ext e15) (k := 1) rfl ?_
          conv => whnf
          refine IfB.no (by omega) ?_
          conv => whnf
          refine DSemK.load1 (by kernel_rfl) (hc.ext e15) (k := 3) rfl ?_
          conv => whnf
          refine DSemK.load1 (by kernel_rfl) (hc.ext e15) (k := 2) rfl ?_
          conv => whnf
          refine DSemK.sub _ rfl (by omega) (by omega) ?_
          conv => whnf
          intro w17 e17
          conv => whnf
          exact ⟨rfl, (Ext.trans e15 e17)⟩
    · rw [itemB_kind (fun e => k12 (.inl e)) (fun e => k12 (.inr e))]
      have hin : inB x.kind 1 2 = false := by simp [inB]; omega
      refine Does.of_vc tabok Tryz.func187 rfl rfl rfl (by kernel_rfl) ?_; conv => whnf
      refine SemK.load1 (by kernel_rfl) hc (k := 0) rfl ?_
      conv => whnf
      refine (hN _).mono ?_
      rintro _ _ ⟨rfl, rfl⟩
      conv => whnf
      refine SemK.load1 (by kernel_rfl) hc (k := 1) rfl ?_
      conv => whnf
      refine (spec_in _ _ _ _).mono ?_
      rintro _ _ ⟨rfl, rfl⟩
      conv => whnf
      refine IfB.eqt (by simp [*]; done) ?_
      conv => whnf
      exact ⟨rfl, Ext.refl _⟩
theorem spec_l04Meet (x y : TField) (w : World) : Does Tryz.prog 188 [.agg ⟨x.enc⟩, .agg ⟨y.enc⟩] w (fun v w' => v = .bool (meetB x y) ∧ Ext w w') := by
  unfold meetB
  refine Does.of_vc tabok Tryz.func188 rfl rfl rfl (by kernel_rfl) ?_; conv => whnf
  refine SemK.box ?_
  intro b1 w1 g1 l1 e1 B1
  conv => whnf
  refine SemK.box ?_
  intro b2 w2 g2 l2 e2 B2
  conv => whnf
  refine SemK.load1 (by kernel_rfl) (B1.ext e2).cells (k := 0) rfl ?_
  conv => whnf
  refine SemK.load1 (by kernel_rfl) B2.cells (k := 1) rfl ?_
  conv => whnf
  with_reducible refine IfB.dec (fun h3 => ?_) (fun h3 => ?_)
  · conv => whnf
    refine SemK.load1 (by kernel_rfl) B2.cells (k := 0) rfl ?_
    conv => whnf
    refine SemK.load1 (by kernel_rfl) (B1.ext e2).cells (k := 1) rfl ?_
    conv => whnf
    exact ⟨by simp [*], (Ext.trans e1 e2)⟩
  · conv => whnf
    exact ⟨by simp [*], (Ext.trans e1 e2)⟩
theorem spec_l04Find {w : World} {a : Option Addr} {n c q : Nat} {wd : Int} {xs : List TItem} (h : Arr TItem.enc 4 w a n xs) (hc : Cells w q 0 [.int .i64 wd, .slice a n c]) (s : ByteArray) : Does Tryz.prog 82 [.pointer (some ⟨q, 0, none⟩), .string s] w (fun v w' => v = .int .i64 (itemIx xs s) ∧ Ext w w') := by
  have hn := h.len
  have hm := h.le
  unfold itemIx
  refine Does.of_vc tabok Tryz.func82 rfl rfl rfl (by kernel_rfl) ?_; conv => whnf
  refine LoopK.rule [0, 1, 5] (fun (k : Nat) vs w' => vs = [.pointer (some ⟨q, 0, none⟩), .string s, .int .i64 k] ∧ k ≤ n ∧ (xs.take k).any (fun y => decide (y.name = s)) = false ∧ Ext w w') (fun k => n - k) tab tabok (by kernel_rfl) 0 ⟨rfl, by omega, by simp, Ext.refl _⟩ ?_
  rintro k g _ w3 ⟨rfl, hk, hall, hX⟩
  rcases Nat.lt_or_ge k n with hkn | hkn
  · obtain ⟨x, hx⟩ : ∃ x, xs[k]? = some x := get_of_lt (by omega)
    by_cases hxs : x.name = s
    · rw [idxI_at hall hx (decide_eq_true hxs)]
      conv => whnf
      refine SemK.load1 (by kernel_rfl) (hc.ext hX) (k := 1) rfl ?_
      conv => whnf
      refine IfB.yes (by omega) ?_
      conv => whnf
      refine SemK.load1 (by kernel_rfl) (hc.ext hX) (k := 1) rfl ?_
      conv => whnf
      refine SemK.index (by kernel_rfl) (h.ext hX) k rfl hx ?_
      intro b5 o5 ha5 hb5
      conv => whnf
      refine SemK.load1 (by kernel_rfl) hb5 (k := 0) rfl ?_
      conv => whnf
      refine IfB.yes (by omega) ?_
      conv => whnf
      exact ⟨rfl, hX⟩
    · have hnext : (xs.take (k + 1)).any (fun y => decide (y.name = s)) = false := by rw [any_take_succ hx, hall]; simp [hxs]
      conv => whnf
      refine SemK.load1 (by kernel_rfl) (hc.ext hX) (k := 1) rfl ?_
      conv => whnf
      refine IfB.yes (by omega) ?_
      conv => whnf
      refine SemK.load1 (by kernel_rfl) (hc.ext hX) (k := 1) rfl ?_
      conv => whnf
      refine SemK.index (by kernel_rfl) (h.ext hX) k rfl hx ?_
      intro b5 o5 ha5 hb5
      conv => whnf
      refine SemK.load1 (by kernel_rfl) hb5 (k := 0) rfl ?_
      conv => whnf
      refine IfB.no (by omega) ?_
      conv => whnf
      refine SemK.add (((k + 1 : Nat) : Int)) (by omega) (by omega) (by omega) ?_
      conv => whnf
      exact ⟨k + 1, by omega, rfl, by omega, by omega, hX⟩
  · rw [List.take_of_length_le (by omega)] at hall
    rw [idxI_neg hall]
    conv => whnf
    refine SemK.load1 (by kernel_rfl) (hc.ext hX) (k := 1) rfl ?_
    conv => whnf
    refine IfB.no (by omega) ?_
    conv => whnf
    exact ⟨rfl, hX⟩
theorem spec_l04Ok {w : World} {a : Option Addr} {n c q : Nat} {wd : Int} {xs : List TItem} (h : Arr TItem.enc 4 w a n xs) (hok : ∀ x ∈ xs, x.ok) (hc : Cells w q 0 [.int .i64 wd, .slice a n c]) : Does Tryz.prog 141 [.pointer (some ⟨q, 0, none⟩)] w (fun v w' => v = .bool (layoutB wd xs) ∧ Ext w w') := by
  have hn := h.len
  have hm := h.le
  cases hz1 : inB wd 1 20
  · rw [layout_w hz1]
    refine Does.of_vc tabok Tryz.func141 rfl rfl rfl (by kernel_rfl) ?_; conv => whnf
    refine SemK.load1 (by kernel_rfl) hc (k := 0) rfl ?_
    conv => whnf
    refine (spec_in _ _ _ _).mono ?_
    rintro _ _ ⟨rfl, rfl⟩
    conv => whnf
    refine IfB.eqt (by simp [*]; done) ?_
    conv => whnf
    exact ⟨rfl, Ext.refl _⟩
  · have hwb := inB_true hz1
    refine Does.of_vc tabok Tryz.func141 rfl rfl rfl (by kernel_rfl) ?_; conv => whnf
    refine SemK.load1 (by kernel_rfl) hc (k := 0) rfl ?_
    conv => whnf
    refine (spec_in _ _ _ _).mono ?_
    rintro _ _ ⟨rfl, rfl⟩
    conv => whnf
    refine IfB.eqf (by simp [*]; done) ?_
    conv => whnf
    refine LoopK.rule [0, 3] (fun (k : Nat) vs w' => vs = [.pointer (some ⟨q, 0, none⟩), .int .i64 k] ∧ k ≤ n ∧ (∀ i, i < k → itemAt xs wd i = true) ∧ Ext w w') (fun k => n - k) tab tabok (by kernel_rfl) 0 ⟨rfl, by omega, fun i hi => by omega, Ext.refl _⟩ ?_
    rintro k g _ w20 ⟨rfl, hk, hall, hX⟩
    rcases Nat.lt_or_ge k n with hkn | hkn
    · obtain ⟨x, hx⟩ : ∃ x, xs[k]? = some x := get_of_lt (by omega)
      have hxo := hok x (List.mem_of_getElem? hx)
      have hI := fun u b o (hcx : Cells u b o x.enc) => spec_l04Item hxo (w := wd) (by omega) hcx
      cases hz2 : itemB x wd
      · simp only [hz2] at hI
        rw [layout_bad (by omega) (itemAt_bad hx hz2)]
        conv => whnf
        refine SemK.load1 (by kernel_rfl) (hc.ext hX) (k := 1) rfl ?_
        conv => whnf
        refine IfB.yes (by omega) ?_
        conv => whnf
        refine DrawK.held tabok mixed [(0, false), (1, false), (2, false), (3, false), (4, false), (5, false), (6, true), (7, true), (8, true), (9, true), (10, true), (11, true)] (by kernel_rfl) (by kernel_rfl) ?_
        conv => whnf
        intro w21 e21
        conv => whnf
        refine DSemK.load1 (by kernel_rfl) (hc.ext hX) (k := 1) rfl ?_
        conv => whnf
        refine DSemK.index (by kernel_rfl) (h.ext hX) k rfl hx ?_
        intro b23 o23 ha23 hb23
        conv => whnf
        refine SemK.load1 (by kernel_rfl) (hc.ext (Ext.trans hX e21)) (k := 0) rfl ?_
        conv => whnf
        refine ⟨e21, ?_⟩
        conv => whnf
        refine (hI _ _ _ (hb23.ext e21)).mono ?_
        rintro _ w25 ⟨rfl, e24⟩
        conv => whnf
        refine ⟨(Ext.trans e21 e24), ?_⟩
        conv => whnf
        exact ⟨rfl, (Ext.trans (Ext.trans hX e21) e24)⟩
      · simp only [hz2] at hI
        have hcl := itemAt_clash hx hz2
        conv => whnf
        refine SemK.load1 (by kernel_rfl) (hc.ext hX) (k := 1) rfl ?_
        conv => whnf
        refine IfB.yes (by omega) ?_
        conv => whnf
        refine DrawK.held tabok mixed [(0, false), (1, false), (2, false), (3, false), (4, false), (5, false), (6, true), (7, true), (8, true), (9, true), (10, true), (11, true)] (by kernel_rfl) (by kernel_rfl) ?_
        conv => whnf
        intro w21 e21
        conv => whnf
        refine DSemK.load1 (by kernel_rfl) (hc.ext hX) (k := 1) rfl ?_
        conv => whnf
        refine DSemK.index (by kernel_rfl) (h.ext hX) k rfl hx ?_
        intro b23 o23 ha23 hb23
        conv => whnf
        refine SemK.load1 (by kernel_rfl) (hc.ext (Ext.trans hX e21)) (k := 0) rfl ?_
        conv => whnf
        refine ⟨e21, ?_⟩
        conv => whnf
        refine (hI _ _ _ (hb23.ext e21)).mono ?_
        rintro _ w25 ⟨rfl, e24⟩
        conv => whnf
        refine ⟨(Ext.trans e21 e24), ?_⟩
        conv => whnf
        refine LoopK.rule [0, 3, 4] (fun (j : Nat) vs w' => vs = [.pointer (some ⟨q, 0, none⟩), .int .i64 k, .int .i64 j] ∧ j ≤ k ∧ (xs.take j).any (fun y => clashB x y) = false ∧ Ext w w') (fun j => k - j) tab tabok (by kernel_rfl) 0 ⟨rfl, by omega, by simp, Ext.trans (Ext.trans hX e21) e24⟩ ?_
        rintro j g2 _ w30 ⟨rfl, hj, hno, hX3⟩
        rcases Nat.lt_or_ge j k with hjk | hjk
        · obtain ⟨y, hy⟩ : ∃ y, xs[j]? = some y := get_of_lt (by omega)
          have hyk : (xs.take k)[j]? = some y := by rw [List.getElem?_take, if_pos hjk]; exact hy
          have hMt := fun u => spec_l04Meet y.fld x.fld u
          by_cases hyx : y.name = x.name
          · have hany : (xs.take k).any (fun y => clashB x y) = true := List.any_eq_true.2 ⟨y, List.mem_of_getElem? hyk, by simp [clashB, hyx]⟩
            rw [layout_bad (k := k) (by omega) (by rw [hcl, hany]; rfl)]
            conv => whnf
            refine IfB.yes (by omega) ?_
            conv => whnf
            refine DrawK.held tabok mixed [(0, false), (1, false), (2, false), (3, false), (4, false), (5, false), (6, false), (7, false), (8, false), (9, false), (10, false), (11, false), (12, true), (13, true), (14, true), (15, true), (16, true), (17, true), (18, false), (19, false), (20, false), (21, false), (22, false), (23, false), (24, false), (25, false), (26, false), (27, false), (28, false), (29, false), (30, true), (31, true), (32, true), (33, true), (34, true), (35, true)] (by kernel_rfl) (by kernel_rfl) ?_
            conv => whnf
            intro w31 e31
            conv => whnf
            refine DSemK.load1 (by kernel_rfl) (hc.ext hX3) (k := 1) rfl ?_
            conv => whnf
            refine DSemK.index (by kernel_rfl) (h.ext hX3) j rfl hy ?_
            intro b33 o33 ha33 hb33
            conv => whnf
            refine DSemK.load1 (by kernel_rfl) hb33 (k := 0) rfl ?_
            conv => whnf
            refine DSemK.load1 (by kernel_rfl) (hc.ext hX3) (k := 1) rfl ?_
            conv => whnf
            refine SemK.index (by kernel_rfl) (h.ext (Ext.trans hX3 e31)) k rfl hx ?_
            intro b35 o35 ha35 hb35
            conv => whnf
            refine ⟨e31, ?_⟩
            conv => whnf
            refine SemK.load1 (by kernel_rfl) hb35 (k := 0) rfl ?_
            conv => whnf
            refine ⟨e31, ?_⟩
            conv => whnf
            refine IfB.yes (by omega) ?_
            conv => whnf
            exact ⟨rfl, (Ext.trans hX3 e31)⟩
          · cases hmt : meetB y.fld x.fld
            · rw [hmt] at hMt
              have hcc : clashB x y = false := by
                rw [clash_comm]
                simp [clashB, hyx, hmt]
              have hnext : (xs.take (j + 1)).any (fun y => clashB x y) = false := by rw [any_take_succ hy, hno, hcc]; rfl
              conv => whnf
              refine IfB.yes (by omega) ?_
              conv => whnf
              refine DrawK.held tabok mixed [(0, false), (1, false), (2, false), (3, false), (4, false), (5, false), (6, false), (7, false), (8, false), (9, false), (10, false), (11, false), (12, true), (13, true), (14, true), (15, true), (16, true), (17, true), (18, false), (19, false), (20, false), (21, false), (22, false), (23, false), (24, false), (25, false), (26, false), (27, false), (28, false), (29, false), (30, true), (31, true), (32, true), (33, true), (34, true), (35, true)] (by kernel_rfl) (by kernel_rfl) ?_
              conv => whnf
              intro w31 e31
              conv => whnf
              refine DSemK.load1 (by kernel_rfl) (hc.ext hX3) (k := 1) rfl ?_
              conv => whnf
              refine DSemK.index (by kernel_rfl) (h.ext hX3) j rfl hy ?_
              intro b33 o33 ha33 hb33
              conv => whnf
              refine DSemK.load1 (by kernel_rfl) hb33 (k := 0) rfl ?_
              conv => whnf
              refine DSemK.load1 (by kernel_rfl) (hc.ext hX3) (k := 1) rfl ?_
              conv => whnf
              refine SemK.index (by kernel_rfl) (h.ext (Ext.trans hX3 e31)) k rfl hx ?_
              intro b35 o35 ha35 hb35
              conv => whnf
              refine ⟨e31, ?_⟩
              conv => whnf
              refine SemK.load1 (by kernel_rfl) hb35 (k := 0) rfl ?_
              conv => whnf
              refine ⟨e31, ?_⟩
              conv => whnf
              refine IfB.no (by omega) ?_
              conv => whnf
              refine DSemK.load1 (by kernel_rfl) (hc.ext hX3) (k := 1) rfl ?_
              conv => whnf
              refine DSemK.index (by kernel_rfl) (h.ext hX3) j rfl hy ?_
              intro b37 o37 ha37 hb37
              conv => whnf
              refine DSemK.loadAggAt (n := 2) (by kernel_rfl) (k := 2) hb37 rfl ?_
              conv => whnf
              refine DSemK.load1 (by kernel_rfl) (hc.ext hX3) (k := 1) rfl ?_
              conv => whnf
              refine SemK.index (by kernel_rfl) (h.ext (Ext.trans hX3 e31)) k rfl hx ?_
              intro b39 o39 ha39 hb39
              conv => whnf
              refine ⟨e31, ?_⟩
              conv => whnf
              refine SemK.loadAggAt (n := 2) (by kernel_rfl) (k := 2) hb39 rfl ?_
              conv => whnf
              refine ⟨e31, ?_⟩
              conv => whnf
              refine (hMt _).mono ?_
              rintro _ w41 ⟨rfl, e40⟩
              conv => whnf
              refine ⟨(Ext.trans e31 e40), ?_⟩
              conv => whnf
              refine SemK.add (((j + 1 : Nat) : Int)) (by omega) (by omega) (by omega) ?_
              conv => whnf
              exact ⟨j + 1, by omega, rfl, by omega, by omega, (Ext.trans (Ext.trans hX3 e31) e40)⟩
            · rw [hmt] at hMt
              have hcc : clashB x y = true := by
                rw [clash_comm]
                simp [clashB, hmt]
              have hany : (xs.take k).any (fun y => clashB x y) = true := List.any_eq_true.2 ⟨y, List.mem_of_getElem? hyk, hcc⟩
              rw [layout_bad (k := k) (by omega) (by rw [hcl, hany]; rfl)]
              conv => whnf
              refine IfB.yes (by omega) ?_
              conv => whnf
              refine DrawK.held tabok mixed [(0, false), (1, false), (2, false), (3, false), (4, false), (5, false), (6, false), (7, false), (8, false), (9, false), (10, false), (11, false), (12, true), (13, true), (14, true), (15, true), (16, true), (17, true), (18, false), (19, false), (20, false), (21, false), (22, false), (23, false), (24, false), (25, false), (26, false), (27, false), (28, false), (29, false), (30, true), (31, true), (32, true), (33, true), (34, true), (35, true)] (by kernel_rfl) (by kernel_rfl) ?_
              conv => whnf
              intro w31 e31
              conv => whnf
              refine DSemK.load1 (by kernel_rfl) (hc.ext hX3) (k := 1) rfl ?_
              conv => whnf
              refine DSemK.index (by kernel_rfl) (h.ext hX3) j rfl hy ?_
              intro b33 o33 ha33 hb33
              conv => whnf
              refine DSemK.load1 (by kernel_rfl) hb33 (k := 0) rfl ?_
              conv => whnf
              refine DSemK.load1 (by kernel_rfl) (hc.ext hX3) (k := 1) rfl ?_
              conv => whnf
              refine SemK.index (by kernel_rfl) (h.ext (Ext.trans hX3 e31)) k rfl hx ?_
              intro b35 o35 ha35 hb35
              conv => whnf
              refine ⟨e31, ?_⟩
              conv => whnf
              refine SemK.load1 (by kernel_rfl) hb35 (k := 0) rfl ?_
              conv => whnf
              refine ⟨e31, ?_⟩
              conv => whnf
              refine IfB.no (by omega) ?_
              conv => whnf
              refine DSemK.load1 (by kernel_rfl) (hc.ext hX3) (k := 1) rfl ?_
              conv => whnf
              refine DSemK.index (by kernel_rfl) (h.ext hX3) j rfl hy ?_
              intro b37 o37 ha37 hb37
              conv => whnf
              refine DSemK.loadAggAt (n := 2) (by kernel_rfl) (k := 2) hb37 rfl ?_
              conv => whnf
              refine DSemK.load1 (by kernel_rfl) (hc.ext hX3) (k := 1) rfl ?_
              conv => whnf
              refine SemK.index (by kernel_rfl) (h.ext (Ext.trans hX3 e31)) k rfl hx ?_
              intro b39 o39 ha39 hb39
              conv => whnf
              refine ⟨e31, ?_⟩
              conv => whnf
              refine SemK.loadAggAt (n := 2) (by kernel_rfl) (k := 2) hb39 rfl ?_
              conv => whnf
              refine ⟨e31, ?_⟩
              conv => whnf
              refine (hMt _).mono ?_
              rintro _ w41 ⟨rfl, e40⟩
              conv => whnf
              refine ⟨(Ext.trans e31 e40), ?_⟩
              conv => whnf
              exact ⟨rfl, (Ext.trans (Ext.trans hX3 e31) e40)⟩
        · obtain rfl : j = k := by omega
          have hnext : ∀ i, i < j + 1 → itemAt xs wd i = true := fun i hi => by
            by_cases e : i = j
            · subst e; rw [hcl, hno]; rfl
            · exact hall i (by omega)
          conv => whnf
          refine IfB.no (by omega) ?_
          conv => whnf
          refine SemK.add (((j + 1 : Nat) : Int)) (by omega) (by omega) (by omega) ?_
          conv => whnf
          exact ⟨j + 1, by omega, rfl, by omega, by omega, hX3⟩
    · have hla := layout_all hz1 (xs := xs) (fun i hi => hall i (by omega))
      rw [hla]
      conv => whnf
      refine SemK.load1 (by kernel_rfl) (hc.ext hX) (k := 1) rfl ?_
      conv => whnf
      refine IfB.no (by omega) ?_
      conv => whnf
      refine SemK.load1 (by kernel_rfl) (hc.ext hX) (k := 1) rfl ?_
      conv => whnf
      refine ⟨?_, hX⟩
      · congr 1; exact decide_eq_decide.2 (by omega)
end Go.Proofs.YtfgbijddjoojbaaGreatDoor
