/- Contracts of functions of the given program, of the reference and of the laws: each says what a call returns, for all arguments that meet the premises that the theorem itself names. -/
import Derived.Test.YtfgbijddjoojbaaGreatDoorFPart
namespace Go.M
open Go Go.Vc
def partB (x : TPart) : Bool := nameB x.name && inB x.count 0 1000000 && inB x.least 0 1000000 && inB x.price 0 1000000
/-- the index of the first element of which p is true; -1 if there is none -/
def idxI {α : Type} (p : α → Bool) (xs : List α) : Int := match xs.findIdx? p with | some i => i | none => -1
theorem idxI_neg {α : Type} {p : α → Bool} {xs : List α} (h : xs.any p = false) : idxI p xs = -1 := by
  have : xs.findIdx? p = none := by
    rw [List.findIdx?_eq_none_iff]
    intro x hx
    rw [List.any_eq_false] at h
    simpa using h x hx
  simp [idxI, this]
theorem idxI_nonneg {α : Type} {p : α → Bool} {xs : List α} (h : xs.any p = true) : 0 ≤ idxI p xs := by
  unfold idxI
  split
  · omega
  · rename_i hn
    rw [List.findIdx?_eq_none_iff] at hn
    rw [List.any_eq_true] at h
    obtain ⟨x, hx, hp⟩ := h
    rw [hn x hx] at hp; cases hp
theorem idxI_at {α : Type} {p : α → Bool} {xs : List α} {k : Nat} {x : α} (h : (xs.take k).any p = false) (hx : xs[k]? = some x) (hp : p x = true) : idxI p xs = k := by
  have : xs.findIdx? p = some k := by
    rw [List.findIdx?_eq_some_iff_getElem]
    have hlt := (List.getElem?_eq_some_iff.1 hx).1
    refine ⟨hlt, ?_, fun j hj => ?_⟩
    · rw [(List.getElem?_eq_some_iff.1 hx).2]; exact hp
    · rw [List.any_eq_false] at h
      apply h
      rw [List.mem_iff_getElem?]
      exact ⟨j, by rw [List.getElem?_take, if_pos hj, List.getElem?_eq_getElem (by omega)]⟩
  simp [idxI, this]
theorem idxI_le {α : Type} {p : α → Bool} {xs : List α} : idxI p xs ≤ xs.length ∧ -1 ≤ idxI p xs := by
  unfold idxI
  split
  · rename_i i hi
    rw [List.findIdx?_eq_some_iff_getElem] at hi
    obtain ⟨h, _⟩ := hi
    omega
  · omega
theorem any_take_succ {α : Type} {p : α → Bool} {xs : List α} {k : Nat} {x : α} (hx : xs[k]? = some x) : (xs.take (k + 1)).any p = ((xs.take k).any p || p x) := by
  rw [List.take_add_one, hx]; simp
def partOkAt (xs : List TPart) (i : Nat) : Bool :=
  match xs[i]? with
  | none => false
  | some x => partB x && !(xs.take i).any (fun y => decide (y.name = x.name))
def partsB (xs : List TPart) : Bool := (List.range xs.length).all (partOkAt xs) && decide (xs.length ≤ 40)
theorem range_all_succ' {p : Nat → Bool} {k : Nat} : (List.range (k + 1)).all p = ((List.range k).all p && p k) := by
  rw [List.range_succ, List.all_append]; simp
theorem partsB_false {xs : List TPart} {k : Nat} (h : k < xs.length) (hp : partOkAt xs k = false) : partsB xs = false := by
  have : (List.range xs.length).all (partOkAt xs) = false := by
    rw [List.all_eq_false]
    exact ⟨k, List.mem_range.2 h, by simp [hp]⟩
  rw [partsB, this]; rfl
theorem partOkAt_of {xs : List TPart} {i : Nat} {x : TPart} (hx : xs[i]? = some x) : partOkAt xs i = (partB x && !(xs.take i).any (fun y => decide (y.name = x.name))) := by simp [partOkAt, hx]
end Go.M
namespace Go.Proofs.YtfgbijddjoojbaaGreatDoor
open Go Go.RowKit Go.Vc Go.M
theorem impl_arePieces (n : Int) (w : World) : Does Tryz.prog 99 [.int .i64 n] w (fun v w' => v = .bool (inB n 0 1000000) ∧ w = w') := by
  refine Does.of_vc tabok Tryz.func99 rfl rfl rfl (by kernel_rfl) ?_; conv => whnf
  refine (impl_inside _ _ _ w).mono ?_; rintro _ _ ⟨rfl, rfl⟩; conv => whnf
  exact ⟨rfl, rfl⟩
theorem lib_IndexFuncPart {w : World} {a : Option Addr} {n c g : Nat} {xs : List TPart} (h : Arr TPart.enc 4 w a n xs) {p : TPart → Bool} {cap : List Value}
    (hg : ∀ x ∈ xs, ∀ w', Ext w w' → Does Tryz.prog g (.agg ⟨x.enc⟩ :: cap) w' (fun v w'' => v = .bool (p x) ∧ Ext w' w'')) :
    Does Tryz.prog 78 [.slice a n c, .func (.func g) ⟨[]⟩ ⟨cap⟩] w (fun v w' => v = .int .i64 (idxI p xs) ∧ Ext w w') := by
  have hn := h.len
  have hm := h.le
  refine Does.of_vc tabok Tryz.func78 rfl rfl rfl (by kernel_rfl) ?_; conv => whnf
  refine LoopK.rule [0, 1, 7, 8] (fun (k : Nat) vs w' => vs = [.slice a n c, .func (.func g) ⟨[]⟩ ⟨cap⟩, .int .i64 n, .int .i64 k] ∧ k ≤ n ∧ (xs.take k).any p = false ∧ Ext w w') (fun k => n - k) tab tabok (by kernel_rfl) 0 ⟨rfl, by omega, by simp, Ext.refl _⟩ ?_
  rintro k g' _ w' ⟨rfl, hk, hall, hE⟩
  conv => whnf
  with_reducible refine IfB.dec (fun h4 => ?_) (fun h4 => ?_)
  · obtain ⟨x, hx⟩ : ∃ x, xs[k]? = some x := get_of_lt (by omega)
    have hgx := hg x (List.mem_of_getElem? hx)
    conv => whnf
    refine SemK.index (by kernel_rfl) (h.ext hE) k rfl hx ?_
    intro b o _ hb
    conv => whnf
    refine SemK.loadAgg (by kernel_rfl) (n := 4) hb rfl ?_
    conv => whnf
    refine (hgx w' hE).mono ?_
    rintro _ w2 ⟨rfl, e2⟩
    conv => whnf
    with_reducible refine IfB.split (fun h5 => ?_) (fun h5 => ?_)
    · conv => whnf
      exact ⟨by rw [idxI_at hall hx h5], Ext.trans hE e2⟩
    · conv => whnf
      refine SemK.add (((k + 1 : Nat) : Int)) (by omega) (by omega) (by omega) ?_
      conv => whnf
      exact ⟨k + 1, by omega, rfl, by omega, by rw [any_take_succ hx, hall, h5]; rfl, Ext.trans hE e2⟩
  · conv => whnf
    rw [List.take_of_length_le (by omega)] at hall
    exact ⟨by rw [idxI_neg hall], hE⟩
theorem impl_partIndex1 (x : TPart) {b : Nat} {s : ByteArray} {w : World} (hc : Cells w b 0 [.string s]) : Does Tryz.prog 154 [.agg ⟨x.enc⟩, .pointer (some ⟨b, 0, none⟩)] w (fun v w' => v = .bool (decide (x.name = s)) ∧ Ext w w') := by
  refine Does.of_vc tabok Tryz.func154 rfl rfl rfl (by kernel_rfl) ?_; conv => whnf
  refine SemK.box ?_
  intro xb w1 _ _ e1 hB
  have hx : Cells w1 xb 0 x.enc := hB.cells
  conv => whnf
  refine SemK.load1 (by kernel_rfl) hx (k := 0) rfl ?_
  conv => whnf
  refine SemK.load0 (by kernel_rfl) (hc.ext e1) rfl ?_
  conv => whnf
  exact ⟨rfl, e1⟩
theorem impl_partIndex {w : World} {a : Option Addr} {n c : Nat} {xs : List TPart} (h : Arr TPart.enc 4 w a n xs) (s : ByteArray) :
    Does Tryz.prog 100 [.slice a n c, .string s] w (fun v w' => v = .int .i64 (idxI (fun y => decide (y.name = s)) xs) ∧ Ext w w') := by
  refine Does.of_vc tabok Tryz.func100 rfl rfl rfl (by kernel_rfl) ?_; conv => whnf
  refine SemK.box ?_
  intro b w1 _ _ e1 hB
  have hc : Cells w1 b 0 [.string s] := hB.cells
  conv => whnf
  refine (lib_IndexFuncPart (h.ext e1) (fun x _ w' e => impl_partIndex1 x (hc.ext e))).mono ?_
  rintro _ w2 ⟨rfl, e2⟩
  conv => whnf
  exact ⟨rfl, Ext.trans e1 e2⟩
theorem impl_ValidParts {w : World} {a : Option Addr} {n c : Nat} {xs : List TPart} (h : Arr TPart.enc 4 w a n xs) (hok : ∀ x ∈ xs, x.ok) (hnc : n ≤ c) :
    Does Tryz.prog 42 [.slice a n c] w (fun v w' => v = .bool (partsB xs) ∧ Ext w w') := by
  have hn := h.len
  have hm := h.le
  refine Does.of_vc tabok Tryz.func42 rfl rfl rfl (by kernel_rfl) ?_; conv => whnf
  refine LoopK.rule [0, 5, 6, 7] (fun (k : Nat) vs w' => vs = [.slice a n c, .slice a n c, .int .i64 n, .int .i64 k] ∧ k ≤ n ∧ (List.range k).all (partOkAt xs) = true ∧ Ext w w') (fun k => n - k) tab tabok (by kernel_rfl) 0 ⟨rfl, by omega, by simp, Ext.refl _⟩ ?_
  rintro k g _ w' ⟨rfl, hk, hall, hE⟩
  conv => whnf
  with_reducible refine IfB.dec (fun h4 => ?_) (fun h4 => ?_)
  · obtain ⟨x, hx⟩ : ∃ x, xs[k]? = some x := get_of_lt (by omega)
    have hxo := hok x (List.mem_of_getElem? hx)
    have hkl : k < xs.length := by omega
    have hpa := partOkAt_of hx
    conv => whnf
    refine SemK.index (by kernel_rfl) (h.ext hE) k rfl hx ?_
    intro b o _ hb
    conv => whnf
    refine SemK.loadAgg (by kernel_rfl) (n := 4) hb rfl ?_
    conv => whnf
    refine SemK.alloc (z := .agg #[.string { data := #[] }, .int .i64 0, .int .i64 0, .int .i64 0]) (by kernel_rfl) ?_
    intro xb w1 g1 l1 e1 X1
    conv => whnf
    refine SemK.storeAgg (by kernel_rfl) (n := 4) X1 (vs := x.enc) rfl (k := 0) (by simp [Value.cells]) (by simp [TPart.enc, cellish]) ?_
    intro w2 c2 X2
    have X2 : Cells w2 xb 0 x.enc := X2.cells
    have E2 := (Ext.trans hE e1).but_trans c2.but (by have := hE.size; omega)
    conv => whnf
    refine DrawK.det tabok mixed (by kernel_rfl) (by kernel_rfl) ?_
    conv => whnf
    refine DSemK.load1 (by kernel_rfl) X2 (k := 0) rfl ?_
    conv => whnf
    refine DDoes.same (fun w3 _ => impl_IsName _ hxo.1 w3) ?_
    conv => whnf
    by_cases h1 : nameB x.name = true
    case neg =>
      have h1 : nameB x.name = false := by simpa using h1
      refine IfB.eqt (by simp [h1]) ?_
      conv => whnf
      intro w3 e3
      conv => whnf
      exact ⟨by rw [partsB_false hkl (by rw [hpa]; simp [partB, h1])], Ext.trans E2 e3⟩
    refine IfB.eqf (by simp [h1]) ?_
    conv => whnf
    refine DSemK.load1 (by kernel_rfl) X2 (k := 1) rfl ?_
    conv => whnf
    refine DDoes.same (fun w3 _ => impl_arePieces _ w3) ?_
    conv => whnf
    by_cases h2 : inB x.count 0 1000000 = true
    case neg =>
      have h2 : inB x.count 0 1000000 = false := by simpa using h2
      refine IfB.eqt (by simp [h2]) ?_
      conv => whnf
      intro w3 e3
      conv => whnf
      exact ⟨by rw [partsB_false hkl (by rw [hpa]; simp [partB, h1, h2])], Ext.trans E2 e3⟩
    refine IfB.eqf (by simp [h2]) ?_
    conv => whnf
    refine DSemK.load1 (by kernel_rfl) X2 (k := 2) rfl ?_
    conv => whnf
    refine DDoes.same (fun w3 _ => impl_arePieces _ w3) ?_
    conv => whnf
    by_cases h3 : inB x.least 0 1000000 = true
    case neg =>
      have h3 : inB x.least 0 1000000 = false := by simpa using h3
      refine IfB.eqt (by simp [h3]) ?_
      conv => whnf
      intro w3 e3
      conv => whnf
      exact ⟨by rw [partsB_false hkl (by rw [hpa]; simp [partB, h1, h2, h3])], Ext.trans E2 e3⟩
    refine IfB.eqf (by simp [h3]) ?_
    conv => whnf
    refine DSemK.load1 (by kernel_rfl) X2 (k := 3) rfl ?_
    conv => whnf
    refine DDoes.same (fun w3 _ => impl_arePieces _ w3) ?_
    conv => whnf
    by_cases h5 : inB x.price 0 1000000 = true
    case neg =>
      have h5 : inB x.price 0 1000000 = false := by simpa using h5
      refine IfB.eqt (by simp [h5]) ?_
      conv => whnf
      intro w3 e3
      conv => whnf
      exact ⟨by rw [partsB_false hkl (by rw [hpa]; simp [partB, h1, h2, h3, h5])], Ext.trans E2 e3⟩
    have hpb : partB x = true := by simp [partB, h1, h2, h3, h5]
    refine IfB.eqf (by simp [h5]) ?_
    conv => whnf
    refine DSemK.slice (by kernel_rfl) (h.ext E2) 0 k (by omega) hk hnc (k := .i64) (k' := .i64) (.inl ⟨rfl, rfl⟩) (.inr rfl) ?_
    intro a' hA'
    simp only [Nat.sub_zero, List.drop_zero] at hA'
    conv => whnf
    refine DSemK.load1 (by kernel_rfl) X2 (k := 0) rfl ?_
    conv => whnf
    refine DDoes.of (fun w3 e3 => impl_partIndex (hA'.ext e3) x.name) ?_
    conv => whnf
    intro w3 e3
    conv => whnf
    by_cases h6 : (xs.take k).any (fun y => decide (y.name = x.name)) = true
    · refine IfB.yes (idxI_nonneg h6) ?_
      conv => whnf
      exact ⟨by rw [partsB_false hkl (by rw [hpa, h6]; simp)], Ext.trans E2 e3⟩
    · have h6 : (xs.take k).any (fun y => decide (y.name = x.name)) = false := by simpa using h6
      refine IfB.no (by rw [idxI_neg h6]; omega) ?_
      conv => whnf
      refine SemK.add (((k + 1 : Nat) : Int)) (by omega) (by omega) (by omega) ?_
      conv => whnf
      exact ⟨k + 1, by omega, rfl, by omega, by rw [range_all_succ', hall, hpa, hpb, h6]; rfl, Ext.trans E2 e3⟩
  · conv => whnf
    have hkn : k = xs.length := by omega
    rw [hkn] at hall
    refine ⟨?_, hE⟩
    simp only [partsB, hall, Bool.true_and]
    congr 1
    simp only [decide_eq_decide]; omega
theorem spec_l25Ok {w : World} {a : Option Addr} {n c : Nat} {xs : List TPart} (h : Arr TPart.enc 4 w a n xs) (hok : ∀ x ∈ xs, x.ok) :
    Does Tryz.prog 69 [.slice a n c] w (fun v w' => v = .bool (partsB xs) ∧ Ext w w') := by
  have hn := h.len
  have hm := h.le
  refine Does.of_vc tabok Tryz.func69 rfl rfl rfl (by kernel_rfl) ?_; conv => whnf
  refine LoopK.rule [0, 3] (fun (k : Nat) vs w' => vs = [.slice a n c, .int .i64 k] ∧ k ≤ n ∧ (List.range k).all (partOkAt xs) = true ∧ Ext w w') (fun k => n - k) tab tabok (by kernel_rfl) 0 ⟨rfl, by omega, by simp, Ext.refl _⟩ ?_
  rintro k g _ w' ⟨rfl, hk, hall, hE⟩
  conv => whnf
  with_reducible refine IfB.dec (fun h4 => ?_) (fun h4 => ?_)
  · obtain ⟨x, hx⟩ : ∃ x, xs[k]? = some x := get_of_lt (by omega)
    have hxo := hok x (List.mem_of_getElem? hx)
    have hkl : k < xs.length := by omega
    have hpa := partOkAt_of hx
    conv => whnf
    refine SemK.index (by kernel_rfl) (h.ext hE) k rfl hx ?_
    intro b o _ X2
    conv => whnf
    refine SemK.load1 (by kernel_rfl) X2 (k := 0) rfl ?_
    conv => whnf
    refine (spec_IsName _ hxo.1 w').mono ?_; rintro _ _ ⟨rfl, rfl⟩; conv => whnf
    by_cases h1 : nameB x.name = true
    case neg =>
      have h1 : nameB x.name = false := by simpa using h1
      refine IfB.eqt (by simp [h1]) ?_
      conv => whnf
      exact ⟨by rw [partsB_false hkl (by rw [hpa]; simp [partB, h1])], hE⟩
    refine IfB.eqf (by simp [h1]) ?_
    conv => whnf
    refine SemK.load1 (by kernel_rfl) X2 (k := 1) rfl ?_
    conv => whnf
    refine (spec_in _ _ _ w').mono ?_; rintro _ _ ⟨rfl, rfl⟩; conv => whnf
    by_cases h2 : inB x.count 0 1000000 = true
    case neg =>
      have h2 : inB x.count 0 1000000 = false := by simpa using h2
      refine IfB.eqt (by simp [h2]) ?_
      conv => whnf
      exact ⟨by rw [partsB_false hkl (by rw [hpa]; simp [partB, h1, h2])], hE⟩
    refine IfB.eqf (by simp [h2]) ?_
    conv => whnf
    refine SemK.load1 (by kernel_rfl) X2 (k := 2) rfl ?_
    conv => whnf
    refine (spec_in _ _ _ w').mono ?_; rintro _ _ ⟨rfl, rfl⟩; conv => whnf
    by_cases h3 : inB x.least 0 1000000 = true
    case neg =>
      have h3 : inB x.least 0 1000000 = false := by simpa using h3
      refine IfB.eqt (by simp [h3]) ?_
      conv => whnf
      exact ⟨by rw [partsB_false hkl (by rw [hpa]; simp [partB, h1, h2, h3])], hE⟩
    refine IfB.eqf (by simp [h3]) ?_
    conv => whnf
    refine SemK.load1 (by kernel_rfl) X2 (k := 3) rfl ?_
    conv => whnf
    refine (spec_in _ _ _ w').mono ?_; rintro _ _ ⟨rfl, rfl⟩; conv => whnf
    by_cases h5 : inB x.price 0 1000000 = true
    case neg =>
      have h5 : inB x.price 0 1000000 = false := by simpa using h5
      refine IfB.eqt (by simp [h5]) ?_
      conv => whnf
      exact ⟨by rw [partsB_false hkl (by rw [hpa]; simp [partB, h1, h2, h3, h5])], hE⟩
    have hpb : partB x = true := by simp [partB, h1, h2, h3, h5]
    refine IfB.eqf (by simp [h5]) ?_
    conv => whnf
    refine LoopK.rule [0, 3, 4, 5] (fun (j : Nat) vs w2 => vs = [.slice a n c, .int .i64 k, .pointer (some ⟨b, o + k * 4, none⟩), .int .i64 j] ∧ j ≤ k ∧ (xs.take j).any (fun y => decide (y.name = x.name)) = false ∧ Ext w w2) (fun j => k - j) tab tabok (by kernel_rfl) 0 ⟨rfl, by omega, by simp, hE⟩ ?_
    rintro j g2 _ w2 ⟨rfl, hj, hany, hE2⟩
    conv => whnf
    with_reducible refine IfB.dec (fun h6 => ?_) (fun h6 => ?_)
    · obtain ⟨y, hy⟩ : ∃ y, xs[j]? = some y := get_of_lt (by omega)
      have hX : Cells w2 b (o + k * 4) x.enc := by
        obtain ⟨b', o', hab, hc'⟩ := (h.ext hE2).2.2 k x hx
        obtain ⟨b2, o2, hab2, _⟩ := (h.ext hE).2.2 k x hx
        have : a = some ⟨b, o, none⟩ := by assumption
        rw [this] at hab
        cases hab
        exact hc'
      conv => whnf
      refine DrawK.det tabok mixed (by kernel_rfl) (by kernel_rfl) ?_
      conv => whnf
      refine DSemK.index (by kernel_rfl) (h.ext hE2) j rfl hy ?_
      intro b' o' _ hb'
      conv => whnf
      refine DSemK.load1 (by kernel_rfl) hb' (k := 0) rfl ?_
      conv => whnf
      refine DSemK.load1 (by kernel_rfl) hX (k := 0) rfl ?_
      conv => whnf
      intro w3 e3
      conv => whnf
      with_reducible refine IfB.dec (fun h7 => ?_) (fun h7 => ?_)
      · conv => whnf
        have h8 : (xs.take k).any (fun y => decide (y.name = x.name)) = true := by
          rw [List.any_eq_true]
          refine ⟨y, ?_, by simp [h7]⟩
          rw [List.mem_iff_getElem?]
          exact ⟨j, by rw [List.getElem?_take, if_pos (by omega)]; exact hy⟩
        exact ⟨by rw [partsB_false hkl (by rw [hpa, h8]; simp)], Ext.trans hE2 e3⟩
      · conv => whnf
        refine SemK.add (((j + 1 : Nat) : Int)) (by omega) (by omega) (by omega) ?_
        conv => whnf
        exact ⟨j + 1, by omega, rfl, by omega, by rw [any_take_succ hy, hany]; simp [h7], Ext.trans hE2 e3⟩
    · conv => whnf
      have hjk : j = k := by omega
      subst hjk
      refine SemK.add (((j + 1 : Nat) : Int)) (by omega) (by omega) (by omega) ?_
      conv => whnf
      exact ⟨j + 1, by omega, rfl, by omega, by rw [range_all_succ', hall, hpa, hpb, hany]; rfl, hE2⟩
  · conv => whnf
    have hkn : k = xs.length := by omega
    rw [hkn] at hall
    refine ⟨?_, hE⟩
    simp only [partsB, hall, Bool.true_and]
    congr 1
    simp only [decide_eq_decide]; omega
theorem spec_ValidParts {w : World} {a : Option Addr} {n c : Nat} {xs : List TPart} (h : Arr TPart.enc 4 w a n xs) (hok : ∀ x ∈ xs, x.ok) :
    Does Tryz.prog 43 [.slice a n c] w (fun v w' => v = .bool (partsB xs) ∧ Ext w w') := by
  refine Does.of_vc tabok Tryz.func43 rfl rfl rfl (by kernel_rfl) ?_; conv => whnf
  refine (spec_l25Ok h hok).mono ?_; rintro _ w1 ⟨rfl, e1⟩; conv => whnf
  exact ⟨rfl, e1⟩
end Go.Proofs.YtfgbijddjoojbaaGreatDoor
