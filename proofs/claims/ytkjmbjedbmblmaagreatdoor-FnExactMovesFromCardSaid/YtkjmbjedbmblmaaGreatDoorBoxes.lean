/- Contracts of functions of the given program, of the reference and of the laws: each says what a call returns, for all arguments that meet the premises that the theorem itself names. -/
import Derived.Test.YtkjmbjedbmblmaaGreatDoorFBox
namespace Go.M
open Go Go.Vc
def emptyB : ByteArray := { data := #[] }
def boxB (x : TBox) : Bool := nameB x.name && inB x.cards 0 100000 && inB x.year 1800 3000 && inB x.keep 1 100 && (decide (x.lent = { data := #[] }) || nameB x.lent)
/-- short texts -/
def boxSm (x : TBox) : Prop := x.name.size ≤ 12 ∧ x.lent.size ≤ 12 ∧ i64ok x.cards ∧ i64ok x.year ∧ i64ok x.keep
def ltB (a b : ByteArray) : Bool := Op.bytesLess a.toList b.toList
/-- the box at i is valid, and above the one before -/
def boxAt (xs : List TBox) (i : Nat) : Bool :=
  match xs[i]? with
  | none => false
  | some x => boxB x && (match i with | 0 => true | j + 1 => match xs[j]? with | none => false | some y => ltB y.name x.name)
def boxesB (xs : List TBox) : Bool := (List.range xs.length).all (boxAt xs) && decide (xs.length ≤ 40)
theorem range_all_succ {p : Nat → Bool} {k : Nat} : (List.range (k + 1)).all p = ((List.range k).all p && p k) := by
  rw [List.range_succ, List.all_append]; simp
theorem range_all_false {p : Nat → Bool} {k n : Nat} (h : k < n) (hp : p k = false) : (List.range n).all p = false := by
  rw [List.all_eq_false]
  exact ⟨k, List.mem_range.2 h, by simp [hp]⟩
theorem boxAt_false {xs : List TBox} {i : Nat} {x : TBox} (hx : xs[i]? = some x) (h : boxB x = false) : boxAt xs i = false := by simp [boxAt, hx, h]
theorem boxAt_zero {xs : List TBox} {x : TBox} (hx : xs[0]? = some x) (h : boxB x = true) : boxAt xs 0 = true := by simp [boxAt, hx, h]
theorem boxAt_succ {xs : List TBox} {j : Nat} {x y : TBox} (hx : xs[j + 1]? = some x) (hy : xs[j]? = some y) (h : boxB x = true) : boxAt xs (j + 1) = ltB y.name x.name := by simp [boxAt, hx, hy, h]
theorem boxesB_false {xs : List TBox} {k : Nat} (h : k < xs.length) (hp : boxAt xs k = false) : boxesB xs = false := by rw [boxesB, range_all_false h hp]; rfl
end Go.M
namespace Go.Proofs.YtkjmbjedbmblmaaGreatDoor
open Go Go.RowKit Go.Vc Go.M

theorem impl_isBox {x : TBox} (hx : x.ok) (w : World) : Does Tryz.prog 154 [.agg ⟨x.enc⟩] w (fun v w' => v = .bool (boxB x) ∧ Ext w w') := by
  refine Does.of_vc tabok Tryz.func154 rfl rfl rfl (by kernel_rfl) ?_; conv => whnf
  refine SemK.box ?_
  intro b w1 _ _ e1 hB
  have hc : Cells w1 b 0 x.enc := hB.cells
  conv => whnf
  refine SemK.load1 (by kernel_rfl) hc (k := 0) rfl ?_
  conv => whnf
  refine (impl_IsName _ hx.1 w1).mono ?_; rintro _ _ ⟨rfl, rfl⟩; conv => whnf
  with_reducible refine IfB.split (fun h1 => ?_) (fun h1 => ?_)
  · conv => whnf
    refine SemK.load1 (by kernel_rfl) hc (k := 1) rfl ?_
    conv => whnf
    refine (impl_inside _ _ _ w1).mono ?_; rintro _ _ ⟨rfl, rfl⟩; conv => whnf
    with_reducible refine IfB.split (fun h2 => ?_) (fun h2 => ?_)
    · conv => whnf
      refine SemK.load1 (by kernel_rfl) hc (k := 2) rfl ?_
      conv => whnf
      refine (impl_inside _ _ _ w1).mono ?_; rintro _ _ ⟨rfl, rfl⟩; conv => whnf
      with_reducible refine IfB.split (fun h3 => ?_) (fun h3 => ?_)
      · conv => whnf
        refine SemK.load1 (by kernel_rfl) hc (k := 3) rfl ?_
        conv => whnf
        refine (impl_inside _ _ _ w1).mono ?_; rintro _ _ ⟨rfl, rfl⟩; conv => whnf
        with_reducible refine IfB.split (fun h4 => ?_) (fun h4 => ?_)
        · conv => whnf
          refine SemK.load1 (by kernel_rfl) hc (k := 4) rfl ?_
          conv => whnf
          with_reducible refine IfB.dec (fun h5 => ?_) (fun h5 => ?_)
          · conv => whnf
            exact ⟨by simp only [boxB, h1, h2, h3, h4, decide_eq_true h5, Bool.true_and, Bool.true_or], e1⟩
          · conv => whnf
            refine SemK.load1 (by kernel_rfl) hc (k := 4) rfl ?_
            conv => whnf
            refine (impl_IsName _ hx.2.2.2.2 w1).mono ?_; rintro _ _ ⟨rfl, rfl⟩; conv => whnf
            exact ⟨by simp only [boxB, h1, h2, h3, h4, decide_eq_false h5, Bool.true_and, Bool.false_or], e1⟩
        · conv => whnf
          exact ⟨by simp only [boxB, h1, h2, h3, h4, Bool.true_and, Bool.false_and], e1⟩
      · conv => whnf
        exact ⟨by simp only [boxB, h1, h2, h3, Bool.true_and, Bool.false_and], e1⟩
    · conv => whnf
      exact ⟨by simp only [boxB, h1, h2, Bool.true_and, Bool.false_and], e1⟩
  · conv => whnf
    exact ⟨by simp only [boxB, h1, Bool.false_and], e1⟩
theorem spec_l26One {x : TBox} (hx : x.ok) {b o : Nat} {w : World} (hc : Cells w b o x.enc) : Does Tryz.prog 160 [.pointer (some ⟨b, o, none⟩)] w (fun v w' => v = .bool (boxB x) ∧ w = w') := by
  refine Does.of_vc tabok Tryz.func160 rfl rfl rfl (by kernel_rfl) ?_; conv => whnf
  refine SemK.load1 (by kernel_rfl) hc (k := 0) rfl ?_
  conv => whnf
  refine (spec_IsName _ hx.1 w).mono ?_; rintro _ _ ⟨rfl, rfl⟩; conv => whnf
  with_reducible refine IfB.split (fun h1 => ?_) (fun h1 => ?_)
  · conv => whnf
    refine SemK.load1 (by kernel_rfl) hc (k := 1) rfl ?_
    conv => whnf
    refine (spec_in _ _ _ w).mono ?_; rintro _ _ ⟨rfl, rfl⟩; conv => whnf
    with_reducible refine IfB.split (fun h2 => ?_) (fun h2 => ?_)
    · conv => whnf
      refine SemK.load1 (by kernel_rfl) hc (k := 2) rfl ?_
      conv => whnf
      refine (spec_in _ _ _ w).mono ?_; rintro _ _ ⟨rfl, rfl⟩; conv => whnf
      with_reducible refine IfB.split (fun h3 => ?_) (fun h3 => ?_)
      · conv => whnf
        refine SemK.load1 (by kernel_rfl) hc (k := 3) rfl ?_
        conv => whnf
        refine (spec_in _ _ _ w).mono ?_; rintro _ _ ⟨rfl, rfl⟩; conv => whnf
        with_reducible refine IfB.split (fun h4 => ?_) (fun h4 => ?_)
        · conv => whnf
          refine SemK.load1 (by kernel_rfl) hc (k := 4) rfl ?_
          conv => whnf
          with_reducible refine IfB.dec (fun h5 => ?_) (fun h5 => ?_)
          · conv => whnf
            exact ⟨by simp only [boxB, h1, h2, h3, h4, decide_eq_true h5, Bool.true_and, Bool.true_or], rfl⟩
          · conv => whnf
            refine SemK.load1 (by kernel_rfl) hc (k := 4) rfl ?_
            conv => whnf
            refine (spec_IsName _ hx.2.2.2.2 w).mono ?_; rintro _ _ ⟨rfl, rfl⟩; conv => whnf
            exact ⟨by simp only [boxB, h1, h2, h3, h4, decide_eq_false h5, Bool.true_and, Bool.false_or], rfl⟩
        · conv => whnf
          exact ⟨by simp only [boxB, h1, h2, h3, h4, Bool.true_and, Bool.false_and], rfl⟩
      · conv => whnf
        exact ⟨by simp only [boxB, h1, h2, h3, Bool.true_and, Bool.false_and], rfl⟩
    · conv => whnf
      exact ⟨by simp only [boxB, h1, h2, Bool.true_and, Bool.false_and], rfl⟩
  · conv => whnf
    exact ⟨by simp only [boxB, h1, Bool.false_and], rfl⟩
theorem impl_ValidBoxes {w : World} {a : Option Addr} {n c : Nat} {xs : List TBox} (h : Arr TBox.enc 5 w a n xs) (hok : ∀ x ∈ xs, x.ok) :
    Does Tryz.prog 73 [.slice a n c] w (fun v w' => v = .bool (boxesB xs) ∧ Ext w w') := by
  have hn := h.len
  have hm := h.le
  refine Does.of_vc tabok Tryz.func73 rfl rfl rfl (by kernel_rfl) ?_; conv => whnf
  refine LoopK.rule [0, 5, 6, 7] (fun (k : Nat) vs w' => vs = [.slice a n c, .slice a n c, .int .i64 n, .int .i64 k] ∧ k ≤ n ∧ (List.range k).all (boxAt xs) = true ∧ Ext w w') (fun k => n - k) tab tabok (by kernel_rfl) 0 ⟨rfl, by omega, by simp, Ext.refl _⟩ ?_
  rintro k g _ w' ⟨rfl, hk, hall, hE⟩
  conv => whnf
  with_reducible refine IfB.dec (fun h4 => ?_) (fun h4 => ?_)
  · obtain ⟨x, hx⟩ : ∃ x, xs[k]? = some x := get_of_lt (by omega)
    have hxo := hok x (List.mem_of_getElem? hx)
    have hkl : k < xs.length := by omega
    conv => whnf
    refine SemK.index (by kernel_rfl) (h.ext hE) k rfl hx ?_
    intro b o _ hb
    conv => whnf
    refine SemK.loadAgg (by kernel_rfl) (n := 5) hb rfl ?_
    conv => whnf
    refine SemK.alloc (z := .agg #[.string { data := #[] }, .int .i64 0, .int .i64 0, .int .i64 0, .string { data := #[] }]) (by kernel_rfl) ?_
    intro xb w1 g1 l1 e1 X1
    conv => whnf
    refine SemK.storeAgg (by kernel_rfl) (n := 5) X1 (vs := x.enc) rfl (k := 0) (by simp [Value.cells]) (by simp [TBox.enc, cellish]) ?_
    intro w2 c2 X2
    have X2 : Cells w2 xb 0 x.enc := X2.cells
    have E2 := (Ext.trans hE e1).but_trans c2.but (by have := hE.size; omega)
    conv => whnf
    refine DrawK.det tabok mixed (by kernel_rfl) (by kernel_rfl) ?_
    conv => whnf
    refine DSemK.loadAgg (by kernel_rfl) (n := 5) X2 rfl ?_
    conv => whnf
    refine DDoes.of (fun w3 _ => impl_isBox hxo w3) ?_
    conv => whnf
    by_cases h5 : boxB x = true
    · refine IfB.eqf (by simp [h5]) ?_
      conv => whnf
      match k, hx, hall, h4, hkl, hk with
      | 0, hx, hall, h4, hkl, hk =>
        conv => whnf
        intro w3 e3
        conv => whnf
        refine SemK.add (((1 : Nat) : Int)) (by omega) (by omega) (by omega) ?_
        conv => whnf
        exact ⟨1, by omega, rfl, by omega, by rw [range_all_succ, hall, boxAt_zero hx h5]; rfl, Ext.trans E2 e3⟩
      | j + 1, hx, hall, h4, hkl, hk =>
        obtain ⟨y, hy⟩ : ∃ y, xs[j]? = some y := get_of_lt (by omega)
        refine IfB.yes (by omega) ?_
        conv => whnf
        refine DSemK.sub (j : Int) (by omega) (by omega) (by omega) ?_
        conv => whnf
        refine DSemK.index (by kernel_rfl) (h.ext E2) j rfl hy ?_
        intro b' o' _ hb'
        conv => whnf
        refine DSemK.load1 (by kernel_rfl) hb' (k := 0) rfl ?_
        conv => whnf
        refine DSemK.load1 (by kernel_rfl) X2 (k := 0) rfl ?_
        conv => whnf
        intro w3 e3
        conv => whnf
        with_reducible refine IfB.split (fun h7 => ?_) (fun h7 => ?_)
        · conv => whnf
          refine ⟨?_, Ext.trans E2 e3⟩
          rw [boxesB_false hkl (by rw [boxAt_succ hx hy h5]; simpa [ltB] using h7)]
        · conv => whnf
          refine SemK.add (((j + 1 + 1 : Nat) : Int)) (by omega) (by omega) (by omega) ?_
          conv => whnf
          exact ⟨j + 1 + 1, by omega, rfl, by omega, by rw [range_all_succ, hall, boxAt_succ hx hy h5]; simpa [ltB] using h7, Ext.trans E2 e3⟩
    · have h5 : boxB x = false := by simpa using h5
      refine IfB.eqt (by simp [h5]) ?_
      conv => whnf
      intro w3 e3
      conv => whnf
      exact ⟨by rw [boxesB_false hkl (boxAt_false hx h5)], Ext.trans E2 e3⟩
  · conv => whnf
    have hkn : k = xs.length := by omega
    rw [hkn] at hall
    refine ⟨?_, hE⟩
    simp only [boxesB, hall, Bool.true_and]
    congr 1
    simp only [decide_eq_decide]; omega
theorem spec_l26Ok {w : World} {a : Option Addr} {n c : Nat} {xs : List TBox} (h : Arr TBox.enc 5 w a n xs) (hok : ∀ x ∈ xs, x.ok) :
    Does Tryz.prog 159 [.slice a n c] w (fun v w' => v = .bool (boxesB xs) ∧ Ext w w') := by
  have hn := h.len
  have hm := h.le
  refine Does.of_vc tabok Tryz.func159 rfl rfl rfl (by kernel_rfl) ?_; conv => whnf
  refine LoopK.rule [0, 3] (fun (k : Nat) vs w' => vs = [.slice a n c, .int .i64 k] ∧ k ≤ n ∧ (List.range k).all (boxAt xs) = true ∧ Ext w w') (fun k => n - k) tab tabok (by kernel_rfl) 0 ⟨rfl, by omega, by simp, Ext.refl _⟩ ?_
  rintro k g _ w' ⟨rfl, hk, hall, hE⟩
  conv => whnf
  with_reducible refine IfB.dec (fun h4 => ?_) (fun h4 => ?_)
  · obtain ⟨x, hx⟩ : ∃ x, xs[k]? = some x := get_of_lt (by omega)
    have hxo := hok x (List.mem_of_getElem? hx)
    have hkl : k < xs.length := by omega
    conv => whnf
    refine DrawK.det tabok mixed (by kernel_rfl) (by kernel_rfl) ?_
    conv => whnf
    refine DSemK.index (by kernel_rfl) (h.ext hE) k rfl hx ?_
    intro b o _ hb
    conv => whnf
    refine DDoes.same (fun w3 e3 => spec_l26One hxo (hb.ext e3)) ?_
    conv => whnf
    by_cases h5 : boxB x = true
    · refine IfB.eqf (by simp [h5]) ?_
      conv => whnf
      match k, hx, hall, h4, hkl, hk with
      | 0, hx, hall, h4, hkl, hk =>
        conv => whnf
        intro w3 e3
        conv => whnf
        refine SemK.add (((1 : Nat) : Int)) (by omega) (by omega) (by omega) ?_
        conv => whnf
        exact ⟨1, by omega, rfl, by omega, by rw [range_all_succ, hall, boxAt_zero hx h5]; rfl, Ext.trans hE e3⟩
      | j + 1, hx, hall, h4, hkl, hk =>
        obtain ⟨y, hy⟩ : ∃ y, xs[j]? = some y := get_of_lt (by omega)
        refine IfB.yes (by omega) ?_
        conv => whnf
        refine DSemK.sub (j : Int) (by omega) (by omega) (by omega) ?_
        conv => whnf
        refine DSemK.index (by kernel_rfl) (h.ext hE) j rfl hy ?_
        intro b' o' _ hb'
        conv => whnf
        refine DSemK.load1 (by kernel_rfl) hb' (k := 0) rfl ?_
        conv => whnf
        refine DSemK.index (by kernel_rfl) (h.ext hE) (j + 1) rfl hx ?_
        intro b2 o2 _ hb2
        conv => whnf
        refine DSemK.load1 (by kernel_rfl) hb2 (k := 0) rfl ?_
        conv => whnf
        intro w3 e3
        conv => whnf
        with_reducible refine IfB.split (fun h7 => ?_) (fun h7 => ?_)
        · conv => whnf
          refine ⟨?_, Ext.trans hE e3⟩
          rw [boxesB_false hkl (by rw [boxAt_succ hx hy h5]; simpa [ltB] using h7)]
        · conv => whnf
          refine SemK.add (((j + 1 + 1 : Nat) : Int)) (by omega) (by omega) (by omega) ?_
          conv => whnf
          exact ⟨j + 1 + 1, by omega, rfl, by omega, by rw [range_all_succ, hall, boxAt_succ hx hy h5]; simpa [ltB] using h7, Ext.trans hE e3⟩
    · have h5 : boxB x = false := by simpa using h5
      refine IfB.eqt (by simp [h5]) ?_
      conv => whnf
      intro w3 e3
      conv => whnf
      exact ⟨by rw [boxesB_false hkl (boxAt_false hx h5)], Ext.trans hE e3⟩
  · conv => whnf
    have hkn : k = xs.length := by omega
    rw [hkn] at hall
    refine ⟨?_, hE⟩
    simp only [boxesB, hall, Bool.true_and]
    congr 1
    simp only [decide_eq_decide]; omega
theorem spec_ValidBoxes {w : World} {a : Option Addr} {n c : Nat} {xs : List TBox} (h : Arr TBox.enc 5 w a n xs) (hok : ∀ x ∈ xs, x.ok) :
    Does Tryz.prog 74 [.slice a n c] w (fun v w' => v = .bool (boxesB xs) ∧ Ext w w') := by
  refine Does.of_vc tabok Tryz.func74 rfl rfl rfl (by kernel_rfl) ?_; conv => whnf
  refine (spec_l26Ok h hok).mono ?_; rintro _ w1 ⟨rfl, e1⟩; conv => whnf
  exact ⟨rfl, e1⟩
end Go.Proofs.YtkjmbjedbmblmaaGreatDoor
