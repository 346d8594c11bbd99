/- Contracts of functions of the given program, of the reference and of the laws: each says what a call returns, for all arguments that meet the premises that the theorem itself names. -/
import Derived.Test.YtjlhbaemfiaeiaaParts
import Derived.Test.YtjlhbaemfiaeiaaInts
import Derived.Test.YtjlhbaemfiaeiaaVcApp
namespace Go.M
open Go Go.Vc
theorem partsB_mem {xs : List TPart} (h : partsB xs = true) : xs.length ≤ 40 ∧ ∀ x ∈ xs, partB x = true := by
  simp only [partsB, Bool.and_eq_true, decide_eq_true_eq, List.all_eq_true, List.mem_range] at h
  refine ⟨h.2, fun x hx => ?_⟩
  obtain ⟨i, hi⟩ := List.mem_iff_getElem?.1 hx
  have := h.1 i (List.getElem?_eq_some_iff.1 hi).1
  rw [partOkAt_of hi, Bool.and_eq_true] at this
  exact this.1
theorem partB_b {x : TPart} (h : partB x = true) : (0 ≤ x.count ∧ x.count ≤ 1000000) ∧ (0 ≤ x.least ∧ x.least ≤ 1000000) ∧ (0 ≤ x.price ∧ x.price ≤ 1000000) := by
  simp only [partB, inB, Bool.and_eq_true, decide_eq_true_eq] at h
  omega
def worth (x : TPart) : Int := x.count * x.price
theorem worth_b {x : TPart} (h : partB x = true) : 0 ≤ worth x ∧ worth x ≤ 1000000000000 := by
  obtain ⟨⟨h1, h2⟩, _, h3, h4⟩ := partB_b h
  unfold worth
  refine ⟨Int.mul_nonneg h1 h3, ?_⟩
  have := Int.mul_le_mul h2 h4 h3 (by omega)
  omega
theorem vals_b {xs : List TPart} (h : partsB xs = true) : ∀ v ∈ xs.map worth, 0 ≤ v ∧ v ≤ 1000000000000 := by
  intro v hv
  obtain ⟨x, hx, rfl⟩ := List.mem_map.1 hv
  exact worth_b ((partsB_mem h).2 x hx)
theorem vals_sum_b {xs : List TPart} (h : partsB xs = true) (k : Nat) : 0 ≤ ((xs.map worth).take k).sum ∧ ((xs.map worth).take k).sum ≤ 40000000000000 := by
  have h1 := sum_bounds (l := (xs.map worth).take k) (M := 1000000000000) (fun v hv => vals_b h v (List.mem_of_mem_take hv))
  have h2 := (partsB_mem h).1
  have h3 : ((xs.map worth).take k).length ≤ 40 := by simp; omega
  omega
def daysLeftM (xs : List TPart) (k d : Int) : Int × Int :=
  if partsB xs = false then (0, 1) else if inB k 0 ((xs.length : Int) - 1) = false then (0, 2) else if inB d 1 1000000 = false then (0, 2) else ((xs[k.toNat]?.getD default).count / d, 0)
def stockValueM (xs : List TPart) : Int × Int := if partsB xs = false then (0, 1) else ((xs.map worth).sum, 0)
def orderOf (x : TPart) : Int := if x.count < x.least then 2 * x.least - x.count else 0
def toOrderM (xs : List TPart) : List Int × Int := if partsB xs = false then ([], 1) else (xs.map orderOf, 0)
theorem toOrderM_len (xs : List TPart) : (toOrderM xs).1.length ≤ xs.length := by
  unfold toOrderM; split <;> simp
end Go.M
namespace Go.Proofs.Ytjlhbaemfiaeiaa
open Go Go.RowKit Go.Vc Go.M
theorem impl_sizePart (a : Option Addr) (n c : Nat) (w : World) : Does Try.prog 124 [.slice a n c] w (fun v w' => v = .int .i64 n ∧ w = w') := by
  refine Does.of_vc tabok Try.func124 rfl rfl rfl (by kernel_rfl) ?_; conv => whnf
  exact ⟨rfl, rfl⟩
theorem spec_DaysLeft {w : World} {a : Option Addr} {n c : Nat} {xs : List TPart} (h : Arr TPart.enc 4 w a n xs) (hok : ∀ x ∈ xs, x.ok) (k d : Int) :
    Does Try.prog 48 [.slice a n c, .int .i64 k, .int .i64 d] w (fun v w' => v = pairV (daysLeftM xs k d) ∧ Ext w w') := by
  have hn := h.len
  have hm := h.le
  refine Does.of_vc tabok Try.func48 rfl rfl rfl (by kernel_rfl) ?_; conv => whnf
  refine (spec_l25Ok h hok).mono ?_; rintro _ w1 ⟨rfl, e1⟩; conv => whnf
  cases h1 : partsB xs
  · conv => whnf
    exact ⟨by simp [daysLeftM, h1, pairV], e1⟩
  conv => whnf
  refine SemK.sub ((xs.length : Int) - 1) (by omega) (by omega) (by omega) ?_
  conv => whnf
  refine (spec_in _ _ _ w1).mono ?_; rintro _ _ ⟨rfl, rfl⟩; conv => whnf
  cases h2 : inB k 0 ((xs.length : Int) - 1)
  · conv => whnf
    exact ⟨by simp [daysLeftM, h1, h2, pairV], e1⟩
  conv => whnf
  refine (spec_in _ _ _ w1).mono ?_; rintro _ _ ⟨rfl, rfl⟩; conv => whnf
  cases h3 : inB d 1 1000000
  · conv => whnf
    exact ⟨by simp [daysLeftM, h1, h2, h3, pairV], e1⟩
  conv => whnf
  have hk : 0 ≤ k ∧ k < n := by simp only [inB, Bool.and_eq_true, decide_eq_true_eq] at h2; omega
  have hd : 1 ≤ d := by simp only [inB, Bool.and_eq_true, decide_eq_true_eq] at h3; omega
  obtain ⟨x, hx⟩ : ∃ x, xs[k.toNat]? = some x := get_of_lt (by omega)
  have hxb := partB_b ((partsB_mem h1).2 x (List.mem_of_getElem? hx))
  refine SemK.index (by kernel_rfl) (h.ext e1) k.toNat (by omega) hx ?_
  intro b o _ hb
  conv => whnf
  refine SemK.load1 (by kernel_rfl) hb (k := 1) rfl ?_
  conv => whnf
  refine SemK.quo (by omega) (by omega) (by omega) ?_
  conv => whnf
  exact ⟨by simp [daysLeftM, h1, h2, h3, pairV, hx], e1⟩
theorem impl_DaysLeft {w : World} {a : Option Addr} {n c : Nat} {xs : List TPart} (h : Arr TPart.enc 4 w a n xs) (hok : ∀ x ∈ xs, x.ok) (hnc : n ≤ c) (k d : Int) :
    Does Try.prog 47 [.slice a n c, .int .i64 k, .int .i64 d] w (fun v w' => v = pairV (daysLeftM xs k d) ∧ Ext w w') := by
  have hn := h.len
  have hm := h.le
  refine Does.of_vc tabok Try.func47 rfl rfl rfl (by kernel_rfl) ?_; conv => whnf
  refine (impl_ValidParts h hok hnc).mono ?_; rintro _ w1 ⟨rfl, e1⟩; conv => whnf
  cases h1 : partsB xs
  · conv => whnf
    exact ⟨by simp [daysLeftM, h1, pairV], e1⟩
  conv => whnf
  refine (impl_sizePart _ _ _ w1).mono ?_; rintro _ _ ⟨rfl, rfl⟩; conv => whnf
  refine SemK.sub ((xs.length : Int) - 1) (by omega) (by omega) (by omega) ?_
  conv => whnf
  refine (impl_inside _ _ _ w1).mono ?_; rintro _ _ ⟨rfl, rfl⟩; conv => whnf
  cases h2 : inB k 0 ((xs.length : Int) - 1)
  · conv => whnf
    exact ⟨by simp [daysLeftM, h1, h2, pairV], e1⟩
  conv => whnf
  refine (impl_inside _ _ _ w1).mono ?_; rintro _ _ ⟨rfl, rfl⟩; conv => whnf
  cases h3 : inB d 1 1000000
  · conv => whnf
    exact ⟨by simp [daysLeftM, h1, h2, h3, pairV], e1⟩
  conv => whnf
  have hk : 0 ≤ k ∧ k < n := by simp only [inB, Bool.and_eq_true, decide_eq_true_eq] at h2; omega
  have hd : 1 ≤ d := by simp only [inB, Bool.and_eq_true, decide_eq_true_eq] at h3; omega
  obtain ⟨x, hx⟩ : ∃ x, xs[k.toNat]? = some x := get_of_lt (by omega)
  have hxb := partB_b ((partsB_mem h1).2 x (List.mem_of_getElem? hx))
  refine SemK.index (by kernel_rfl) (h.ext e1) k.toNat (by omega) hx ?_
  intro b o _ hb
  conv => whnf
  refine SemK.load1 (by kernel_rfl) hb (k := 1) rfl ?_
  conv => whnf
  refine SemK.quo (by omega) (by omega) (by omega) ?_
  conv => whnf
  exact ⟨by simp [daysLeftM, h1, h2, h3, pairV, hx], e1⟩
theorem spec_l25Value {w : World} {a : Option Addr} {n c : Nat} {xs : List TPart} (h : Arr TPart.enc 4 w a n xs) (hp : partsB xs = true) :
    Does Try.prog 116 [.slice a n c] w (fun v w' => v = .int .i64 (xs.map worth).sum ∧ Ext w w') := by
  have hn := h.len
  have hm := h.le
  refine Does.of_vc tabok Try.func116 rfl rfl rfl (by kernel_rfl) ?_; conv => whnf
  refine LoopK.rule [0, 3, 4] (fun (k : Nat) vs w' => vs = [.slice a n c, .int .i64 ((xs.map worth).take k).sum, .int .i64 k] ∧ k ≤ n ∧ Ext w w') (fun k => n - k) tab tabok (by kernel_rfl) 0 ⟨rfl, by omega, Ext.refl _⟩ ?_
  rintro k g _ w' ⟨rfl, hk, hE⟩
  conv => whnf
  with_reducible refine IfB.dec (fun h4 => ?_) (fun h4 => ?_)
  · obtain ⟨x, hx⟩ : ∃ x, xs[k]? = some x := get_of_lt (by omega)
    have hv := worth_b ((partsB_mem hp).2 x (List.mem_of_getElem? hx))
    have hs := vals_sum_b hp k
    have hvx : (xs.map worth)[k]? = some (worth x) := by rw [List.getElem?_map, hx]; rfl
    conv => whnf
    refine DrawK.det tabok mixed (by kernel_rfl) (by kernel_rfl) ?_
    conv => whnf
    refine DSemK.index (by kernel_rfl) (h.ext hE) k rfl hx ?_
    intro b o _ hb
    conv => whnf
    refine DSemK.load1 (by kernel_rfl) hb (k := 1) rfl ?_
    conv => whnf
    refine DSemK.index (by kernel_rfl) (h.ext hE) k rfl hx ?_
    intro b2 o2 _ hb2
    conv => whnf
    refine DSemK.load1 (by kernel_rfl) hb2 (k := 3) rfl ?_
    conv => whnf
    refine DSemK.mul (worth x) rfl (by omega) (by omega) ?_
    conv => whnf
    refine DSemK.add (((xs.map worth).take (k + 1)).sum) (sum_take_succ hvx).symm (by rw [sum_take_succ hvx]; omega) (by rw [sum_take_succ hvx]; omega) ?_
    conv => whnf
    intro w2 e2
    conv => whnf
    refine SemK.add (((k + 1 : Nat) : Int)) (by omega) (by omega) (by omega) ?_
    conv => whnf
    exact ⟨k + 1, by omega, rfl, by omega, Ext.trans hE e2⟩
  · conv => whnf
    refine ⟨?_, hE⟩
    rw [List.take_of_length_le (by simp; omega)]
theorem spec_StockValue {w : World} {a : Option Addr} {n c : Nat} {xs : List TPart} (h : Arr TPart.enc 4 w a n xs) (hok : ∀ x ∈ xs, x.ok) :
    Does Try.prog 39 [.slice a n c] w (fun v w' => v = pairV (stockValueM xs) ∧ Ext w w') := by
  refine Does.of_vc tabok Try.func39 rfl rfl rfl (by kernel_rfl) ?_; conv => whnf
  refine (spec_l25Ok h hok).mono ?_; rintro _ w1 ⟨rfl, e1⟩; conv => whnf
  cases h1 : partsB xs
  · conv => whnf
    exact ⟨by simp [stockValueM, h1, pairV], e1⟩
  conv => whnf
  refine (spec_l25Value (h.ext e1) h1).mono ?_; rintro _ w2 ⟨rfl, e2⟩; conv => whnf
  exact ⟨by simp [stockValueM, h1, pairV], Ext.trans e1 e2⟩
theorem impl_sumOf {w : World} {a : Option Addr} {n c : Nat} {xs : List Int} (h : Arr eI 1 w a n xs) (hb : ∀ k, -9223372036854775808 ≤ (xs.take k).sum ∧ (xs.take k).sum ≤ 9223372036854775807) :
    Does Try.prog 114 [.slice a n c] w (fun v w' => v = .int .i64 xs.sum ∧ w = w') := by
  have hn := h.len
  have hm := h.le
  refine Does.of_vc tabok Try.func114 rfl rfl rfl (by kernel_rfl) ?_; conv => whnf
  refine LoopK.rule [3, 6, 7, 8] (fun (k : Nat) vs w' => vs = [.int .i64 (xs.take k).sum, .slice a n c, .int .i64 n, .int .i64 k] ∧ k ≤ n ∧ w = w') (fun k => n - k) tab tabok (by kernel_rfl) 0 ⟨rfl, by omega, rfl⟩ ?_
  rintro k g _ w' ⟨rfl, hk, rfl⟩
  conv => whnf
  with_reducible refine IfB.dec (fun h4 => ?_) (fun h4 => ?_)
  · obtain ⟨x, hx⟩ : ∃ x, xs[k]? = some x := get_of_lt (by omega)
    have hs := hb (k + 1)
    conv => whnf
    refine SemK.index (by kernel_rfl) h k rfl hx ?_
    intro b o _ hb
    conv => whnf
    refine SemK.load0 (by kernel_rfl) hb rfl ?_
    conv => whnf
    refine SemK.add ((xs.take (k + 1)).sum) (sum_take_succ hx).symm (by omega) (by omega) ?_
    conv => whnf
    refine SemK.add (((k + 1 : Nat) : Int)) (by omega) (by omega) (by omega) ?_
    conv => whnf
    exact ⟨k + 1, by omega, rfl, by omega, rfl⟩
  · conv => whnf
    refine ⟨?_, rfl⟩
    rw [List.take_of_length_le (by omega)]
theorem impl_valuesOf {w : World} {a : Option Addr} {n c : Nat} {xs : List TPart} (h : Arr TPart.enc 4 w a n xs) (hp : partsB xs = true) :
    Does Try.prog 115 [.slice a n c] w (fun v w' => ∃ a' c', v = .slice a' n c' ∧ Grow eI 1 w.heap.size 2 w' a' n c' (xs.map worth) ∧ Ext w w') := by
  have hn := h.len
  obtain ⟨hl, hm⟩ := partsB_mem hp
  refine Does.of_vc tabok Try.func115 rfl rfl rfl (by kernel_rfl) ?_; conv => whnf
  refine SemK.buildSlice mk_39 (vs := []) (by rfl) (by rfl) (by simp) (by decide) ?_
  intro b w1 g1 l1 e1 X1
  have G1 := Grow.new0 (enc := eI) eI_len X1 g1
  conv => whnf
  refine LoopK.rule [3, 7, 8, 9] (fun (k : Nat) vs w' => ∃ a' c', vs = [.slice a' k c', .slice a n c, .int .i64 n, .int .i64 k] ∧ k ≤ n ∧ Grow eI 1 w.heap.size 2 w' a' k c' ((xs.take k).map worth) ∧ Ext w w') (fun k => n - k) tab tabok (by kernel_rfl) 0 ⟨_, _, rfl, by omega, by simpa using G1, e1⟩ ?_
  rintro k g _ w' ⟨a', c', rfl, hk, hG, hE⟩
  conv => whnf
  with_reducible refine IfB.dec (fun h4 => ?_) (fun h4 => ?_)
  · obtain ⟨x, hx⟩ : ∃ x, xs[k]? = some x := get_of_lt (by omega)
    have hv := worth_b (hm x (List.mem_of_getElem? hx))
    conv => whnf
    refine SemK.index (by kernel_rfl) (h.ext hE) k rfl hx ?_
    intro b o _ hb
    conv => whnf
    refine SemK.loadAgg (by kernel_rfl) (n := 4) hb rfl ?_
    conv => whnf
    refine SemK.alloc (z := .agg #[.string { data := #[] }, .int .i64 0, .int .i64 0, .int .i64 0]) (by kernel_rfl) ?_
    intro xb w1 g1 l1 e1 X1
    conv => whnf
    refine SemK.storeAgg (by kernel_rfl) (n := 4) X1 (vs := x.enc) rfl (k := 0) (by simp [Value.cells]) (by simp [TPart.enc, cellish]) ?_
    intro w2 c2 X2
    have X2 : Cells w2 xb 0 x.enc := X2.cells
    have e2 : Ext w' w2 := e1.but_trans c2.but g1
    have E2 := Ext.trans hE e2
    conv => whnf
    refine SemK.load1 (by kernel_rfl) X2 (k := 1) rfl ?_
    conv => whnf
    refine SemK.load1 (by kernel_rfl) X2 (k := 3) rfl ?_
    conv => whnf
    refine SemK.mul (worth x) rfl (by omega) (by omega) ?_
    conv => whnf
    refine SemK.buildSlice mk_39 (vs := [.int .i64 (worth x)]) (by rfl) (by rfl) (by simp [Value.cells]) (by decide) ?_
    intro yb w3 g3 l3 e3 Y3
    have E3 := Ext.trans E2 e3
    conv => whnf
    refine SemK.append (enc := eI) mk_39 eI_len ((hG.ext e2).ext e3) (ys := [worth x]) (m := 1) Y3.cells rfl (by simp [flat, eI, cellish]) (by omega) (by omega) (by exact E3.size) ?_
    intro a2 c2 w4 G4 m4
    conv => whnf
    refine SemK.add (((k + 1 : Nat) : Int)) (by omega) (by omega) (by omega) ?_
    conv => whnf
    exact ⟨k + 1, by omega, _, _, rfl, by omega, by rw [map_take_succ hx]; exact G4, Ext.mod_trans E3 m4 (blkIn_new hG.new)⟩
  · conv => whnf
    have : k = n := by omega
    subst this
    rw [List.take_of_length_le (by omega)] at hG
    exact ⟨_, _, rfl, hG, hE⟩
theorem impl_StockValue {w : World} {a : Option Addr} {n c : Nat} {xs : List TPart} (h : Arr TPart.enc 4 w a n xs) (hok : ∀ x ∈ xs, x.ok) (hnc : n ≤ c) :
    Does Try.prog 38 [.slice a n c] w (fun v w' => v = pairV (stockValueM xs) ∧ Ext w w') := by
  refine Does.of_vc tabok Try.func38 rfl rfl rfl (by kernel_rfl) ?_; conv => whnf
  refine (impl_ValidParts h hok hnc).mono ?_; rintro _ w1 ⟨rfl, e1⟩; conv => whnf
  cases h1 : partsB xs
  · conv => whnf
    exact ⟨by simp [stockValueM, h1, pairV], e1⟩
  conv => whnf
  refine (impl_valuesOf (h.ext e1) h1).mono ?_
  rintro _ w2 ⟨a2, c2, rfl, G2, e2⟩
  conv => whnf
  refine (impl_sumOf (G2.own.arr eI_len) (fun k => by have := vals_sum_b h1 k; omega)).mono ?_
  rintro _ _ ⟨rfl, rfl⟩
  conv => whnf
  exact ⟨by simp [stockValueM, h1, pairV], Ext.trans e1 e2⟩
theorem spec_ToOrder {w : World} {a : Option Addr} {n c : Nat} {xs : List TPart} (h : Arr TPart.enc 4 w a n xs) (hok : ∀ x ∈ xs, x.ok) :
    Does Try.prog 36 [.slice a n c] w (fun v w' => ∃ a' n' c', v = .tuple #[.slice a' n' c', .int .i64 (toOrderM xs).2] ∧ NewAt w.heap.size a' ∧ Own eI w' a' n' 2 (toOrderM xs).1 ∧ Ext w w') := by
  have hn := h.len
  refine Does.of_vc tabok Try.func36 rfl rfl rfl (by kernel_rfl) ?_; conv => whnf
  refine (spec_l25Ok h hok).mono ?_; rintro _ w1 ⟨rfl, e1⟩; conv => whnf
  cases h1 : partsB xs
  · conv => whnf
    exact ⟨none, 0, 0, by simp [toOrderM, h1], NewAt.nil, by simp only [toOrderM, h1, if_true]; exact Own.nil, e1⟩
  obtain ⟨hl, hm⟩ := partsB_mem h1
  conv => whnf
  refine SemK.buildSlice mk_39 (vs := []) (by rfl) (by rfl) (by simp) (by decide) ?_
  intro b w2 g2 l2 e2 X2
  have G2 := Grow.new0 (enc := eI) eI_len X2 (Nat.le_trans e1.size g2)
  conv => whnf
  refine LoopK.rule [0, 4, 5] (fun (k : Nat) vs w' => ∃ a' c', vs = [.slice a n c, .slice a' k c', .int .i64 k] ∧ k ≤ n ∧ Grow eI 1 w.heap.size 2 w' a' k c' ((xs.take k).map orderOf) ∧ Ext w w') (fun k => n - k) tab tabok (by kernel_rfl) 0 ⟨_, _, rfl, by omega, by simpa using G2, Ext.trans e1 e2⟩ ?_
  rintro k g _ w' ⟨a', c', rfl, hk, hG, hE⟩
  conv => whnf
  with_reducible refine IfB.dec (fun h4 => ?_) (fun h4 => ?_)
  · obtain ⟨x, hx⟩ : ∃ x, xs[k]? = some x := get_of_lt (by omega)
    have hb := partB_b (hm x (List.mem_of_getElem? hx))
    conv => whnf
    refine DrawK.det tabok mixed (by kernel_rfl) (by kernel_rfl) ?_
    conv => whnf
    refine DSemK.index (by kernel_rfl) (h.ext hE) k rfl hx ?_
    intro b o _ hb1
    conv => whnf
    refine DSemK.load1 (by kernel_rfl) hb1 (k := 1) rfl ?_
    conv => whnf
    refine DSemK.index (by kernel_rfl) (h.ext hE) k rfl hx ?_
    intro b2 o2 _ hb2
    conv => whnf
    refine DSemK.load1 (by kernel_rfl) hb2 (k := 2) rfl ?_
    conv => whnf
    intro w3 e3
    have E3 := Ext.trans hE e3
    conv => whnf
    with_reducible refine IfB.dec (fun h5 => ?_) (fun h5 => ?_)
    · have ho : orderOf x = 2 * x.least - x.count := by simp [orderOf, h5]
      conv => whnf
      refine DrawK.det tabok mixed (by kernel_rfl) (by kernel_rfl) ?_
      conv => whnf
      refine DSemK.index (by kernel_rfl) (h.ext E3) k rfl hx ?_
      intro b3 o3 _ hb3
      conv => whnf
      refine DSemK.load1 (by kernel_rfl) hb3 (k := 2) rfl ?_
      conv => whnf
      refine DSemK.mul (2 * x.least) rfl (by omega) (by omega) ?_
      conv => whnf
      refine DSemK.index (by kernel_rfl) (h.ext E3) k rfl hx ?_
      intro b4 o4 _ hb4
      conv => whnf
      refine DSemK.load1 (by kernel_rfl) hb4 (k := 1) rfl ?_
      conv => whnf
      refine DSemK.sub (orderOf x) ho.symm (by omega) (by omega) ?_
      conv => whnf
      intro w4 e4
      have E4 := Ext.trans E3 e4
      conv => whnf
      refine SemK.buildSlice mk_39 (vs := [.int .i64 (orderOf x)]) (by rfl) (by rfl) (by simp [Value.cells]) (by decide) ?_
      intro yb w5 g5 l5 e5 Y5
      have E5 := Ext.trans E4 e5
      conv => whnf
      refine SemK.append (enc := eI) mk_39 eI_len (((hG.ext e3).ext e4).ext e5) (ys := [orderOf x]) (m := 1) Y5.cells rfl (by simp [flat, eI, cellish]) (by omega) (by omega) (by exact E5.size) ?_
      intro a2 c2 w6 G6 m6
      conv => whnf
      refine SemK.add (((k + 1 : Nat) : Int)) (by omega) (by omega) (by omega) ?_
      conv => whnf
      exact ⟨k + 1, by omega, _, _, rfl, by omega, by rw [map_take_succ hx]; exact G6, Ext.mod_trans E5 m6 (blkIn_new hG.new)⟩
    · have ho : orderOf x = 0 := by simp [orderOf, h5]
      conv => whnf
      refine SemK.buildSlice mk_39 (vs := [.int .i64 0]) (by rfl) (by rfl) (by simp [Value.cells]) (by decide) ?_
      intro yb w5 g5 l5 e5 Y5
      have E5 := Ext.trans E3 e5
      conv => whnf
      refine SemK.append (enc := eI) mk_39 eI_len ((hG.ext e3).ext e5) (ys := [0]) (m := 1) Y5.cells rfl (by simp [flat, eI, cellish]) (by omega) (by omega) (by exact E5.size) ?_
      intro a2 c2 w6 G6 m6
      conv => whnf
      refine SemK.add (((k + 1 : Nat) : Int)) (by omega) (by omega) (by omega) ?_
      conv => whnf
      exact ⟨k + 1, by omega, _, _, rfl, by omega, by rw [map_take_succ hx, ho]; exact G6, Ext.mod_trans E5 m6 (blkIn_new hG.new)⟩
  · conv => whnf
    have : k = n := by omega
    subst this
    rw [List.take_of_length_le (by omega)] at hG
    exact ⟨a', k, c', by simp [toOrderM, h1], hG.new, by simp only [toOrderM, h1]; exact hG.own, hE⟩
theorem impl_ToOrder {w : World} {a : Option Addr} {n c : Nat} {xs : List TPart} (h : Arr TPart.enc 4 w a n xs) (hok : ∀ x ∈ xs, x.ok) (hnc : n ≤ c) :
    Does Try.prog 35 [.slice a n c] w (fun v w' => ∃ a' n' c', v = .tuple #[.slice a' n' c', .int .i64 (toOrderM xs).2] ∧ NewAt w.heap.size a' ∧ Own eI w' a' n' 2 (toOrderM xs).1 ∧ Ext w w') := by
  have hn := h.len
  refine Does.of_vc tabok Try.func35 rfl rfl rfl (by kernel_rfl) ?_; conv => whnf
  refine (impl_ValidParts h hok hnc).mono ?_; rintro _ w1 ⟨rfl, e1⟩; conv => whnf
  cases h1 : partsB xs
  · conv => whnf
    exact ⟨none, 0, 0, by simp [toOrderM, h1], NewAt.nil, by simp only [toOrderM, h1, if_true]; exact Own.nil, e1⟩
  obtain ⟨hl, hm⟩ := partsB_mem h1
  conv => whnf
  refine SemK.buildSlice mk_39 (vs := []) (by rfl) (by rfl) (by simp) (by decide) ?_
  intro b w2 g2 l2 e2 X2
  have G2 := Grow.new0 (enc := eI) eI_len X2 (Nat.le_trans e1.size g2)
  conv => whnf
  refine LoopK.rule [4, 12, 13, 14] (fun (k : Nat) vs w' => ∃ a' c', vs = [.slice a' k c', .slice a n c, .int .i64 n, .int .i64 k] ∧ k ≤ n ∧ Grow eI 1 w.heap.size 2 w' a' k c' ((xs.take k).map orderOf) ∧ Ext w w') (fun k => n - k) tab tabok (by kernel_rfl) 0 ⟨_, _, rfl, by omega, by simpa using G2, Ext.trans e1 e2⟩ ?_
  rintro k g _ w' ⟨a', c', rfl, hk, hG, hE⟩
  conv => whnf
  with_reducible refine IfB.dec (fun h4 => ?_) (fun h4 => ?_)
  · obtain ⟨x, hx⟩ : ∃ x, xs[k]? = some x := get_of_lt (by omega)
    have hb := partB_b (hm x (List.mem_of_getElem? hx))
    conv => whnf
    refine SemK.index (by kernel_rfl) (h.ext hE) k rfl hx ?_
    intro b o _ hb1
    conv => whnf
    refine SemK.loadAgg (by kernel_rfl) (n := 4) hb1 rfl ?_
    conv => whnf
    refine SemK.alloc (z := .agg #[.string { data := #[] }, .int .i64 0, .int .i64 0, .int .i64 0]) (by kernel_rfl) ?_
    intro xb w1 g1 l1 e1 X1
    conv => whnf
    refine SemK.storeAgg (by kernel_rfl) (n := 4) X1 (vs := x.enc) rfl (k := 0) (by simp [Value.cells]) (by simp [TPart.enc, cellish]) ?_
    intro w3 c3 X2
    have X2 : Cells w3 xb 0 x.enc := X2.cells
    have e3 : Ext w' w3 := e1.but_trans c3.but g1
    have E3 := Ext.trans hE e3
    conv => whnf
    refine SemK.load1 (by kernel_rfl) X2 (k := 1) rfl ?_
    conv => whnf
    refine SemK.load1 (by kernel_rfl) X2 (k := 2) rfl ?_
    conv => whnf
    with_reducible refine IfB.dec (fun h5 => ?_) (fun h5 => ?_)
    · have ho : orderOf x = 2 * x.least - x.count := by simp [orderOf, h5]
      conv => whnf
      refine SemK.load1 (by kernel_rfl) X2 (k := 2) rfl ?_
      conv => whnf
      refine SemK.mul (2 * x.least) rfl (by omega) (by omega) ?_
      conv => whnf
      refine SemK.load1 (by kernel_rfl) X2 (k := 1) rfl ?_
      conv => whnf
      refine SemK.sub (orderOf x) ho.symm (by omega) (by omega) ?_
      conv => whnf
      refine SemK.buildSlice mk_39 (vs := [.int .i64 (orderOf x)]) (by rfl) (by rfl) (by simp [Value.cells]) (by decide) ?_
      intro yb w5 g5 l5 e5 Y5
      have E5 := Ext.trans E3 e5
      conv => whnf
      refine SemK.append (enc := eI) mk_39 eI_len ((hG.ext e3).ext e5) (ys := [orderOf x]) (m := 1) Y5.cells rfl (by simp [flat, eI, cellish]) (by omega) (by omega) (by exact E5.size) ?_
      intro a2 c2 w6 G6 m6
      conv => whnf
      refine SemK.add (((k + 1 : Nat) : Int)) (by omega) (by omega) (by omega) ?_
      conv => whnf
      exact ⟨k + 1, by omega, _, _, rfl, by omega, by rw [map_take_succ hx]; exact G6, Ext.mod_trans E5 m6 (blkIn_new hG.new)⟩
    · have ho : orderOf x = 0 := by simp [orderOf, h5]
      conv => whnf
      refine SemK.buildSlice mk_39 (vs := [.int .i64 0]) (by rfl) (by rfl) (by simp [Value.cells]) (by decide) ?_
      intro yb w5 g5 l5 e5 Y5
      have E5 := Ext.trans E3 e5
      conv => whnf
      refine SemK.append (enc := eI) mk_39 eI_len ((hG.ext e3).ext e5) (ys := [0]) (m := 1) Y5.cells rfl (by simp [flat, eI, cellish]) (by omega) (by omega) (by exact E5.size) ?_
      intro a2 c2 w6 G6 m6
      conv => whnf
      refine SemK.add (((k + 1 : Nat) : Int)) (by omega) (by omega) (by omega) ?_
      conv => whnf
      exact ⟨k + 1, by omega, _, _, rfl, by omega, by rw [map_take_succ hx, ho]; exact G6, Ext.mod_trans E5 m6 (blkIn_new hG.new)⟩
  · conv => whnf
    have : k = n := by omega
    subst this
    rw [List.take_of_length_le (by omega)] at hG
    exact ⟨a', k, c', by simp [toOrderM, h1], hG.new, by simp only [toOrderM, h1]; exact hG.own, hE⟩
end Go.Proofs.Ytjlhbaemfiaeiaa
