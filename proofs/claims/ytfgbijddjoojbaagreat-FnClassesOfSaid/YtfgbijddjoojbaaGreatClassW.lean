/- Contracts of functions of the given program, of the reference and of the laws: each says what a call returns, for all arguments that meet the premises that the theorem itself names. -/
import Derived.Test.YtfgbijddjoojbaaGreatSameC
import Derived.Test.YtfgbijddjoojbaaGreatClassL
import Derived.Test.YtfgbijddjoojbaaGreatMedS
import Derived.Test.YtfgbijddjoojbaaGreatKeyZ
/- classes, double cards, numbers of fields -/
namespace Go.M
open Go Go.Vc
theorem sum_bd {M : Int} (hM : 0 ≤ M) : ∀ {l : List Int}, (∀ x ∈ l, 0 ≤ x ∧ x ≤ M) → 0 ≤ l.sum ∧ l.sum ≤ M * l.length
  | [], _ => by simp
  | x :: l, h => by
    have h1 := h x (by simp)
    have h2 := sum_bd hM (l := l) (fun y hy => h y (by simp [hy]))
    rw [List.sum_cons, List.length_cons, Int.natCast_add, Int.mul_add]
    omega
theorem sum_tk_b {l : List Int} (h : ∀ x ∈ l, 0 ≤ x ∧ x ≤ 2000000000) (hl : l.length ≤ 1000) (k : Nat) : 0 ≤ (l.take k).sum ∧ (l.take k).sum ≤ 2000000000000 := by
  have h1 := sum_bd (M := 2000000000) (by omega) (l := l.take k) (fun x hx => h x (List.mem_of_mem_take hx))
  have h2 : (l.take k).length ≤ 1000 := by rw [List.length_take]; omega
  omega
theorem sum_tk_s {l : List Int} {k : Nat} {x : Int} (h : l[k]? = some x) : (l.take (k + 1)).sum = (l.take k).sum + x := by
  rw [List.take_add_one, h]; simp
/-! double cards -/
def dblAt (d : List (List Int)) (i : Nat) : Bool := match d[i]? with | some c => (d.take i).any (fun x => decide (x = c)) | none => false
def doublesM (d : List (List Int)) : List Int × Int := if deckB d = true then (whereM (dblAt d) d.length, 0) else ([], 1)
theorem dblAt_of {d : List (List Int)} {i : Nat} {c : List Int} (h : d[i]? = some c) : dblAt d i = (d.take i).any (fun x => decide (x = c)) := by simp [dblAt, h]
/-! the median is in the middle -/
def moreN (xs : List Int) (v : Int) : Nat := xs.countP fun x => decide (v < x)
theorem more_most (xs : List Int) (v : Int) : moreN xs v + mostN xs v = xs.length := by
  unfold moreN mostN
  have := List.length_eq_countP_add_countP (fun x => decide (v < x)) (l := xs)
  rw [this]
  congr 1
  apply List.countP_congr
  intro x _
  simp
theorem medP_half {xs : List Int} {v : Int} (h : medP xs v) : 2 * lessN xs v ≤ xs.length ∧ 2 * moreN xs v ≤ xs.length := by
  have h1 := h.1
  have h2 := h.2
  have h3 := more_most xs v
  omega
theorem lessN_tk {xs : List Int} {k : Nat} {x v : Int} (h : xs[k]? = some x) : lessN (xs.take (k + 1)) v = lessN (xs.take k) v + (if x < v then 1 else 0) := by
  unfold lessN
  rw [List.take_add_one, h, Option.toList_some, List.countP_append]
  simp [List.countP_cons]
theorem moreN_tk {xs : List Int} {k : Nat} {x v : Int} (h : xs[k]? = some x) : moreN (xs.take (k + 1)) v = moreN (xs.take k) v + (if v < x then 1 else 0) := by
  unfold moreN
  rw [List.take_add_one, h, Option.toList_some, List.countP_append]
  simp [List.countP_cons]
theorem numbers_zero {d : List (List Int)} {f : TField} (h : (numbersM d f).2 = 0) : deckB d = true ∧ numFieldB f (widthOf d) = true ∧ (∀ c ∈ d, ∃ n, numOf (partOf c f) = some n) ∧ (numbersM d f).1 = numsM d f := by
  unfold numbersM at h ⊢
  split at h
  · simp at h
  rename_i h1
  split at h
  · simp at h
  rename_i h2
  split at h
  · simp at h
  rename_i h3
  rw [if_neg h1, if_neg h2, if_neg h3]
  refine ⟨by simpa using h1, by simpa using h2, fun c hc => ?_, rfl⟩
  cases hn : numOf (partOf c f) with
  | some n => exact ⟨n, rfl⟩
  | none =>
    refine absurd ?_ h3
    rw [List.any_eq_true]
    exact ⟨c, hc, by rw [hn]; rfl⟩
theorem nums_len {d : List (List Int)} {f : TField} (h : ∀ c ∈ d, ∃ n, numOf (partOf c f) = some n) : (numsM d f).length = d.length := by
  induction d with
  | nil => rfl
  | cons c d ih =>
    obtain ⟨n, hn⟩ := h c (by simp)
    have := ih (fun c hc => h c (by simp [hc]))
    unfold numsM at *
    rw [List.filterMap_cons_some (f := fun c => numOf (partOf c f)) (b := n) hn, List.length_cons, List.length_cons, this]
theorem nums_get {d : List (List Int)} {f : TField} (h : ∀ c ∈ d, ∃ n, numOf (partOf c f) = some n) : ∀ (i : Nat) (c : List Int) (n : Int), d[i]? = some c → numOf (partOf c f) = some n → (numsM d f)[i]? = some n := by
  induction d with
  | nil => intro i c n hc; simp at hc
  | cons y d ih =>
    intro i c n hc hn
    obtain ⟨m, hm⟩ := h y (by simp)
    have ih := ih (fun c hc => h c (by simp [hc]))
    have e : numsM (y :: d) f = m :: numsM d f := by
      unfold numsM
      rw [List.filterMap_cons_some (f := fun c => numOf (partOf c f)) (b := m) hm]
    rw [e]
    cases i with
    | zero =>
      simp at hc
      subst hc
      rw [hm] at hn
      simpa using hn
    | succ i => simpa using ih i c n (by simpa using hc) hn
theorem median_zero {d : List (List Int)} {f : TField} (h : (medianM d f).2 = 0) : deckB d = true ∧ numFieldB f (widthOf d) = true ∧ (∀ c ∈ d, ∃ n, numOf (partOf c f) = some n) ∧ medP (numsM d f) (medianM d f).1 := by
  have e : numbersIf true d f = numbersM d f := by simp [numbersIf]
  unfold medianM at h ⊢
  rw [e] at h ⊢
  split at h
  · rename_i hz
    obtain ⟨h1, h2, h3, h4⟩ := numbers_zero hz
    rw [if_pos hz]
    split at h
    · simp at h
    · rename_i v hv
      rw [h4] at hv
      exact ⟨h1, h2, h3, medP_self hv⟩
  · rename_i hz
    exact absurd h hz
theorem classes_zero {d : List (List Int)} {f : TField} {l : List Int} (h : (countClassesM d f l).2 = 0) : (countClassesM d f l).1.sum = d.length ∧ (countClassesM d f l).1.length = l.length + 1 ∧ (∀ x ∈ (countClassesM d f l).1, 0 ≤ x ∧ x ≤ 2000000000) ∧ (countClassesM d f l).1.length ≤ 1000 := by
  unfold countClassesM at h ⊢
  split at h
  · simp at h
  rename_i h1
  split at h
  · rename_i hz
    obtain ⟨h2, h3, h4, h5⟩ := numbers_zero hz
    have h1 : limitsB l = true := by simpa using h1
    rw [if_neg (by simp [h1]), if_pos hz]
    have hl := nums_len h4
    have h40 := (deckB_mem h2).1
    have hb := limitsB_b h1
    dsimp only
    rw [h5]
    refine ⟨by rw [tally_sum, hl], tally_len _ _, fun x hx => ?_, by rw [tally_len]; omega⟩
    unfold tally at hx
    obtain ⟨k, _, rfl⟩ := List.mem_map.1 hx
    have := List.countP_le_length (p := fun n => decide (classM l n = k)) (l := numsM d f)
    omega
  · rename_i hz
    exact absurd h hz
theorem shares_b (cs : List Int) : ∀ x ∈ (sharesM cs).1, 0 ≤ x ∧ x ≤ 2000000000 := by
  unfold sharesM
  split
  · intro x hx; simp at hx
  rename_i hc
  split
  · intro x hx; simp at hx
  rename_i hs
  have hc : countsB cs = true := by simpa using hc
  have h2 := (countsB_spec hc).2
  have h0 := (sum_bd (M := 1000000) (by omega) h2).1
  have hp : 0 < cs.sum := by omega
  have hbb := base_b h2 hp
  intro x hx
  have := shareSt_b hbb (1000 - (baseL cs).sum).toNat x hx
  have hnn := (sum_bd (M := 1000000000) (by omega) hbb).1
  omega
theorem numFieldB_c {f : TField} {n : Int} (h : numFieldB f n = true) : fieldB f n = true ∧ f.to_ - f.from_ ≤ 12 := by
  simp only [numFieldB, Bool.and_eq_true, decide_eq_true_eq] at h
  exact ⟨h.1, h.2⟩
end Go.M
namespace Go.Proofs.YtfgbijddjoojbaaGreat
open Go Go.RowKit Go.Vc Go.M
theorem impl_ClassOf {w : World} {a : Option Addr} {n c : Nat} {xs : List Int} (h : Arr eI 1 w a n xs) (hn1 : n ≤ 1048576) (m : Int) :
    Does Tryz.prog 15 [.slice a n c, .int .i64 m] w (fun v w' => v = .tuple #[.int .i64 (if limitsB xs = true then (classM xs m : Int) else 0), .int .i64 (if limitsB xs = true then 0 else 1)] ∧ Ext w w') := by
  refine Does.of_vc tabok Tryz.func15 rfl rfl rfl (by kernel_rfl) ?_; conv => whnf
  refine (impl_areLimits h).mono ?_
  rintro _ w2 ⟨rfl, e1⟩
  cases hz1 : limitsB xs
  · conv => whnf
    exact ⟨by simp, e1⟩
  · conv => whnf
    refine (impl_classOf (h.ext e1) hn1 m).mono ?_
    rintro _ w4 ⟨rfl, e3⟩
    conv => whnf
    exact ⟨by simp, Ext.trans e1 e3⟩
theorem spec_ClassOf {w : World} {a : Option Addr} {n c : Nat} {xs : List Int} (h : Arr eI 1 w a n xs) (m : Int) :
    Does Tryz.prog 16 [.slice a n c, .int .i64 m] w (fun v w' => v = .tuple #[.int .i64 (if limitsB xs = true then (classM xs m : Int) else 0), .int .i64 (if limitsB xs = true then 0 else 1)] ∧ Ext w w') := by
  refine Does.of_vc tabok Tryz.func16 rfl rfl rfl (by kernel_rfl) ?_; conv => whnf
  refine (spec_l24Limits h).mono ?_
  rintro _ w2 ⟨rfl, e1⟩
  cases hz1 : limitsB xs
  · conv => whnf
    exact ⟨by simp, e1⟩
  · conv => whnf
    refine (spec_l24Class (h.ext e1) (limitsB_b hz1).2.2 m).mono ?_
    rintro _ w4 ⟨rfl, e3⟩
    conv => whnf
    exact ⟨by simp, Ext.trans e1 e3⟩
theorem impl_fieldCode0 {w : World} {d : Hd} {xs : List Int} (R : RCard w d xs) (hc : cardB xs = true) {f : TField} (hf : fieldB f xs.length = true) :
    Does Tryz.prog 62 [.agg ⟨eH d⟩, .agg ⟨f.enc⟩] w (fun v w' => v = .int .i64 0 ∧ Ext w w') := by
  obtain ⟨A, hnc⟩ := R
  have hn := A.len
  have hV : ∀ u, Ext w u → Does Tryz.prog 94 [.agg ⟨eH d⟩] u (fun v w' => v = .bool true ∧ Ext u w') := fun u e => by
    refine (impl_ValidCard (A.ext e)).mono ?_
    rw [hc]
    exact fun _ _ h => h
  have hF : ∀ u, Does Tryz.prog 85 [.agg ⟨f.enc⟩, .int .i64 d.n] u (fun v w' => v = .bool true ∧ Ext u w') := fun u => by
    refine (impl_isField f d.n u).mono ?_
    rw [show ((d.n : Nat) : Int) = xs.length by omega, hf]
    exact fun _ _ h => h
  refine Does.of_vc tabok Tryz.func62 rfl rfl rfl (by kernel_rfl) ?_; conv => whnf
  refine SemK.box ?_
  intro b1 w1 g1 l1 e1 B1
  conv => whnf
  refine SemK.box ?_
  intro b2 w2 g2 l2 e2 B2
  conv => whnf
  refine SemK.loadAgg (n := 1) (by kernel_rfl) (B1.ext e2).cells rfl ?_
  conv => whnf
  refine (hV _ (Ext.trans e1 e2)).mono ?_
  rintro _ w4 ⟨rfl, e3⟩
  conv => whnf
  refine DrawK.held tabok mixed [(0, false), (1, true), (2, true), (3, true), (4, true), (5, true)] (by kernel_rfl) (by kernel_rfl) ?_
  conv => whnf
  intro w5 e5
  conv => whnf
  refine DSemK.loadAgg (n := 2) (by kernel_rfl) (B2.ext e3).cells rfl ?_
  conv => whnf
  refine SemK.loadAgg (n := 1) (by kernel_rfl) (B1.ext (Ext.trans (Ext.trans e2 e3) e5)).cells rfl ?_
  conv => whnf
  refine ⟨e5, ?_⟩
  conv => whnf
  refine (impl_columns _).mono ?_
  rintro _ w7 ⟨rfl, e6⟩
  conv => whnf
  refine ⟨(Ext.trans e5 e6), ?_⟩
  conv => whnf
  refine (hF _).mono ?_
  rintro _ w9 ⟨rfl, e8⟩
  conv => whnf
  refine ⟨(Ext.trans (Ext.trans e5 e6) e8), ?_⟩
  conv => whnf
  exact ⟨rfl, (Ext.trans (Ext.trans (Ext.trans (Ext.trans (Ext.trans e1 e2) e3) e5) e6) e8)⟩
theorem impl_NumberIn0 {w : World} {d : Hd} {xs : List Int} (R : RCard w d xs) (hc : cardB xs = true) {f : TField} (hf : numFieldB f xs.length = true) {m : Int} (hm : numOf (partOf xs f) = some m) :
    Does Tryz.prog 25 [.agg ⟨eH d⟩, .agg ⟨f.enc⟩] w (fun v w' => v = .tuple #[.int .i64 m, .int .i64 0] ∧ Ext w w') := by
  have hfb := numFieldB_c hf
  have hfi := fieldB_b hfb.1
  have hcb := cardB_b hc
  have hC : ∀ u, Ext w u → Does Tryz.prog 62 [.agg ⟨eH d⟩, .agg ⟨f.enc⟩] u (fun v w' => v = .int .i64 0 ∧ Ext u w') := fun u e => impl_fieldCode0 (RdE.ext R e) hc hfb.1
  have hN : ∀ u, Ext w u → Does Tryz.prog 63 [.agg ⟨eH d⟩, .agg ⟨f.enc⟩] u (fun v w' => v = .tuple #[.int .i64 m, .bool true] ∧ Ext u w') := fun u e => by
    refine (impl_numberIn (RdE.ext R e) hcb.2.2 hf).mono ?_
    rw [show numInM (partOf xs f) = (m, true) from by simp [numInM, hm]]
    exact fun _ _ h => h
  refine Does.of_vc tabok Tryz.func25 rfl rfl rfl (by kernel_rfl) ?_; conv => whnf
  refine SemK.box ?_
  intro b1 w1 g1 l1 e1 B1
  conv => whnf
  refine SemK.box ?_
  intro b2 w2 g2 l2 e2 B2
  conv => whnf
  refine SemK.loadAgg (n := 1) (by kernel_rfl) (B1.ext e2).cells rfl ?_
  conv => whnf
  refine SemK.loadAgg (n := 2) (by kernel_rfl) B2.cells rfl ?_
  conv => whnf
  refine (hC _ (Ext.trans e1 e2)).mono ?_
  rintro _ w4 ⟨rfl, e3⟩
  conv => whnf
  refine SemK.load1 (by kernel_rfl) (B2.ext e3).cells (k := 1) rfl ?_
  conv => whnf
  refine SemK.load1 (by kernel_rfl) (B2.ext e3).cells (k := 0) rfl ?_
  conv => whnf
  refine SemK.sub _ rfl (by omega) (by omega) ?_
  conv => whnf
  refine IfB.no (by omega) ?_
  conv => whnf
  refine SemK.loadAgg (n := 1) (by kernel_rfl) (B1.ext (Ext.trans e2 e3)).cells rfl ?_
  conv => whnf
  refine SemK.loadAgg (n := 2) (by kernel_rfl) (B2.ext e3).cells rfl ?_
  conv => whnf
  refine (hN _ (Ext.trans (Ext.trans e1 e2) e3)).mono ?_
  rintro _ w6 ⟨rfl, e5⟩
  conv => whnf
  exact ⟨rfl, (Ext.trans (Ext.trans (Ext.trans e1 e2) e3) e5)⟩
theorem impl_DoubleCards11 {w : World} {b1 b2 : Nat} {a : Option Addr} {n c : Nat} {d : List (List Int)} (h : ArrS RCard w a n d) (hc1 : Cells w b1 0 [.slice a n c]) {i : Nat} (hc2 : Cells w b2 0 [.int .i64 (i : Nat)]) {y : List Int} (hy : d[i]? = some y) {e : Hd} {x : List Int} (R : RCard w e x) :
    Does Tryz.prog 58 [.agg ⟨eH e⟩, .pointer (some ⟨b1, 0, none⟩), .pointer (some ⟨b2, 0, none⟩)] w (fun v w' => v = .bool (decide (x = y)) ∧ Ext w w') := by
  have hn := h.len
  obtain ⟨hs, hV, hE⟩ := h
  have hl := hV.len
  have hi := (List.getElem?_eq_some_iff.1 hy).1
  obtain ⟨g, hg⟩ : ∃ g, hs[i]? = some g := get_of_lt (by omega)
  obtain ⟨hA, _⟩ := hE.2 i g y hg hy
  have hS : ∀ u, Ext w u → Does Tryz.prog 59 [.agg ⟨eH e⟩, .agg ⟨eH g⟩] u (fun v w' => v = .bool (decide (x = y)) ∧ Ext u w') := fun u e => impl_SameCard (R.1.ext e) (hA.ext e)
  refine Does.of_vc tabok Tryz.func58 rfl rfl rfl (by kernel_rfl) ?_; conv => whnf
  refine SemK.box ?_
  intro b219 w219 g219 l219 e219 B219
  conv => whnf
  refine DrawK.held tabok mixed [(0, false), (1, false), (2, true), (3, true), (4, true), (5, true), (6, true)] (by kernel_rfl) (by kernel_rfl) ?_
  conv => whnf
  intro w220 e220
  conv => whnf
  refine DSemK.loadAgg (n := 1) (by kernel_rfl) B219.cells rfl ?_
  conv => whnf
  refine DSemK.load1 (by kernel_rfl) (hc1.ext e219) (k := 0) rfl ?_
  conv => whnf
  refine SemK.load1 (by kernel_rfl) (hc2.ext (Ext.trans e219 e220)) (k := 0) rfl ?_
  conv => whnf
  refine ⟨e220, ?_⟩
  conv => whnf
  refine SemK.index (by kernel_rfl) (hV.ext (Ext.trans e219 e220)) i rfl hg ?_
  intro b222 o222 ha222 hb222
  conv => whnf
  refine ⟨e220, ?_⟩
  conv => whnf
  refine SemK.loadAgg (n := 1) (by kernel_rfl) hb222 rfl ?_
  conv => whnf
  refine ⟨e220, ?_⟩
  conv => whnf
  refine (hS _ (Ext.trans e219 e220)).mono ?_
  rintro _ w224 ⟨rfl, e223⟩
  conv => whnf
  refine ⟨(Ext.trans e220 e223), ?_⟩
  conv => whnf
  exact ⟨rfl, (Ext.trans (Ext.trans e219 e220) e223)⟩
theorem impl_DoubleCards1 {w : World} {b1 : Nat} {a : Option Addr} {n c : Nat} {d : List (List Int)} (h : ArrS RCard w a n d) (hnc : n ≤ c) (hc1 : Cells w b1 0 [.slice a n c]) {i : Nat} {y : List Int} (hy : d[i]? = some y) :
    Does Tryz.prog 56 [.int .i64 (i : Nat), .pointer (some ⟨b1, 0, none⟩)] w (fun v w' => v = .bool (dblAt d i) ∧ Ext w w') := by
  have hn := h.len
  rw [dblAt_of hy]
  have hi := (List.getElem?_eq_some_iff.1 hy).1
  have h0 := h
  obtain ⟨hs, hV, hE⟩ := h
  have hl := hV.len
  refine Does.of_vc tabok Tryz.func56 rfl rfl rfl (by kernel_rfl) ?_; conv => whnf
  refine SemK.box ?_
  intro b2 w2 g2 l2 e2 B2
  conv => whnf
  refine SemK.load1 (by kernel_rfl) (hc1.ext e2) (k := 0) rfl ?_
  conv => whnf
  refine SemK.load1 (by kernel_rfl) B2.cells (k := 0) rfl ?_
  conv => whnf
  refine SemK.sliceTo (enc := eH) (sz := 1) (by kernel_rfl) (hV.ext e2) i (by omega) hnc (k' := .i64) (.inr rfl) ?_
  intro hA'
  have hT : ArrS RCard w2 a i (d.take i) := ⟨hs.take i, hA', by rw [List.length_take, List.length_take, hE.1], fun j g x h1 h2 => by
    rw [List.getElem?_take] at h1 h2
    split at h1
    · rename_i hj
      rw [if_pos hj] at h2
      exact RdE.ext (hE.2 j g x h1 h2) e2
    · cases h1⟩
  conv => whnf
  refine (lib_ContainsFuncCard hT (p := fun x => decide (x = y)) (g := 58) (cap := [.pointer (some ⟨b1, 0, none⟩), .pointer (some ⟨b2, 0, none⟩)]) (fun e x _ R u E => impl_DoubleCards11 (h0.ext (Ext.trans e2 E)) ((hc1.ext e2).ext E) (B2.cells.ext E) hy (RdE.ext R E))).mono ?_
  rintro _ w3 ⟨rfl, e3⟩
  conv => whnf
  exact ⟨rfl, Ext.trans e2 e3⟩
theorem impl_sizeCardN (a : Option Addr) (n c : Nat) (w : World) : Does Tryz.prog 55 [.slice a n c] w (fun v w' => v = .int .i64 n ∧ w = w') := by
  refine Does.of_vc tabok Tryz.func55 rfl rfl rfl (by kernel_rfl) ?_; conv => whnf
  exact ⟨rfl, rfl⟩
theorem impl_DoubleCards {w : World} {a : Option Addr} {n c : Nat} {d : List (List Int)} (h : ArrS RCard w a n d) (hnc : n ≤ c) :
    Does Tryz.prog 21 [.slice a n c] w (fun v w' => ∃ a' n' c', v = .tuple #[.slice a' n' c', .int .i64 (doublesM d).2] ∧ NewAt w.heap.size a' ∧ Own eI w' a' n' 2 (doublesM d).1 ∧ Ext w w') := by
  have hn := h.len
  unfold doublesM
  cases hz1 : deckB d
  · rw [if_neg (by simp)]
    dsimp only
    refine Does.of_vc tabok Tryz.func21 rfl rfl rfl (by kernel_rfl) ?_; conv => whnf
    refine SemK.box ?_
    intro b1 w1 g1 l1 e1 B1
    conv => whnf
    refine SemK.load1 (by kernel_rfl) B1.cells (k := 0) rfl ?_
    conv => whnf
    refine (impl_ValidDeck (h.ext e1)).mono ?_
    rw [hz1]
    rintro _ w3 ⟨rfl, e2⟩
    conv => whnf
    exact ⟨_, _, _, rfl, NewAt.nil, Own.nil, Ext.trans e1 e2⟩
  · rw [if_pos rfl]
    dsimp only
    have h40 := (deckB_mem hz1).1
    refine Does.of_vc tabok Tryz.func21 rfl rfl rfl (by kernel_rfl) ?_; conv => whnf
    refine SemK.box ?_
    intro b1 w1 g1 l1 e1 B1
    conv => whnf
    refine SemK.load1 (by kernel_rfl) B1.cells (k := 0) rfl ?_
    conv => whnf
    refine (impl_ValidDeck (h.ext e1)).mono ?_
    rw [hz1]
    rintro _ w3 ⟨rfl, e2⟩
    conv => whnf
    refine SemK.load1 (by kernel_rfl) (B1.ext e2).cells (k := 0) rfl ?_
    conv => whnf
    refine (impl_sizeCardN _ _ _ _).mono ?_
    rintro _ _ ⟨rfl, rfl⟩
    conv => whnf
    refine (impl_columnsWhere (n := n) (by omega) (p := dblAt d) (g := 56) (cap := [.pointer (some ⟨b1, 0, none⟩)]) (fun k hk u E => by
      obtain ⟨y, hy⟩ := get_of_lt (l := d) (k := k) (by omega)
      exact impl_DoubleCards1 (h.ext (Ext.trans (Ext.trans e1 e2) E)) hnc ((B1.ext e2).cells.ext E) hy)).mono ?_
    rintro _ w4 ⟨a4, n4, c4, rfl, G4, e4⟩
    conv => whnf
    rw [hn]
    exact ⟨_, _, _, rfl, G4.new.mono (Below.size (Ext.trans e1 e2)), G4.own, Ext.trans (Ext.trans e1 e2) e4⟩
theorem spec_DoubleCards {w : World} {a : Option Addr} {n c : Nat} {d : List (List Int)} (h : ArrS RCard w a n d) :
    Does Tryz.prog 22 [.slice a n c] w (fun v w' => ∃ a' n' c', v = .tuple #[.slice a' n' c', .int .i64 (doublesM d).2] ∧ NewAt w.heap.size a' ∧ Own eI w' a' n' 2 (doublesM d).1 ∧ Ext w w') := by
  have hn := h.len
  have h0 := h
  obtain ⟨hs, hV, hE⟩ := h
  have hl := hV.len
  unfold doublesM
  cases hz1 : deckB d
  · rw [if_neg (by simp)]
    dsimp only
    refine Does.of_vc tabok Tryz.func22 rfl rfl rfl (by kernel_rfl) ?_; conv => whnf
    refine (spec_l02Deck h0).mono ?_
    rw [hz1]
    rintro _ w3 ⟨rfl, e2⟩
    conv => whnf
    exact ⟨_, _, _, rfl, NewAt.nil, Own.nil, e2⟩
  · rw [if_pos rfl]
    dsimp only
    have h40 := (deckB_mem hz1).1
    refine Does.of_vc tabok Tryz.func22 rfl rfl rfl (by kernel_rfl) ?_; conv => whnf
    refine (spec_l02Deck h0).mono ?_
    rw [hz1]
    rintro _ w3 ⟨rfl, e3⟩
    conv => whnf
    refine SemK.buildSlice mk_27 (vs := []) (by rfl) (by rfl) (by simp [Value.cells]) (by decide) ?_
    intro b4 w4 g4 l4 e4 B4
    have G4 := Grow.new0 (enc := eI) eI_len B4 g4
    conv => whnf
    refine LoopK.rule [0, 4, 5] (fun (i : Nat) vs w' => ∃ a4 n4 c4, vs = [.slice a n c, .slice a4 n4 c4, .int .i64 (i : Nat)] ∧ i ≤ n ∧ n4 ≤ i ∧ Grow eI 1 w3.heap.size 2 w' a4 n4 c4 (whereM (dblAt d) i) ∧ Ext w3 w') (fun i => n - i) tab tabok (by kernel_rfl) 0
      ⟨_, _, _, rfl, by omega, by omega, G4, e4⟩ ?_
    rintro i g _ w5 ⟨a4, n4, c4, rfl, hi, hn4, hG, hX⟩
    rcases Nat.lt_or_ge i n with hin | hin
    · obtain ⟨y, hy⟩ := get_of_lt (l := d) (k := i) (by omega)
      obtain ⟨e0, he0⟩ := get_of_lt (l := hs) (k := i) (by omega)
      have hRy := hE.2 i e0 y he0 hy
      have hws := whereM_succ (dblAt d) i
      rw [dblAt_of hy] at hws
      conv => whnf
      refine IfB.yes (by omega) ?_
      conv => whnf
      refine LoopK.rule [0, 4, 5, 6] (fun (k : Nat) vs w' => vs = [.slice a n c, .slice a4 n4 c4, .int .i64 (i : Nat), .int .i64 (k : Nat)] ∧ k ≤ i ∧ (d.take k).any (fun x => decide (x = y)) = false ∧ Ext w5 w') (fun k => i - k) tab tabok (by kernel_rfl) 0 ⟨rfl, by omega, by simp, Ext.refl _⟩ ?_
      rintro k g2 _ w6 ⟨rfl, hk, hall, hX2⟩
      rcases Nat.lt_or_ge k i with hki | hki
      · obtain ⟨x, hx⟩ := get_of_lt (l := d) (k := k) (by omega)
        obtain ⟨e1, he1⟩ := get_of_lt (l := hs) (k := k) (by omega)
        have hRx := hE.2 k e1 x he1 hx
        have hS : ∀ u, Ext w u → Does Tryz.prog 61 [.slice e1.a e1.n e1.c, .slice e0.a e0.n e0.c] u (fun v w' => v = .bool (decide (x = y)) ∧ Ext u w') := fun u e => spec_l00Same (hRx.1.ext e) (hRy.1.ext e)
        have hts : (d.take (k + 1)).any (fun x => decide (x = y)) = ((d.take k).any (fun x => decide (x = y)) || decide (x = y)) := by rw [List.take_add_one, hx]; simp
        have hXX := Ext.trans (Ext.trans e3 hX) hX2
        conv => whnf
        refine IfB.yes (by omega) ?_
        conv => whnf
        refine DrawK.held tabok mixed [(0, false), (1, false), (2, false), (3, false), (4, false), (5, false), (6, true), (7, true), (8, true), (9, true), (10, true)] (by kernel_rfl) (by kernel_rfl) ?_
        conv => whnf
        intro w41 e41
        conv => whnf
        refine DSemK.index (by kernel_rfl) (hV.ext hXX) k rfl he1 ?_
        intro b43 o43 ha43 hb43
        conv => whnf
        refine DSemK.load1 (by kernel_rfl) hb43 (k := 0) rfl ?_
        conv => whnf
        refine SemK.index (by kernel_rfl) (hV.ext (Ext.trans hXX e41)) i rfl he0 ?_
        intro b45 o45 ha45 hb45
        conv => whnf
        refine ⟨e41, ?_⟩
        conv => whnf
        refine SemK.load1 (by kernel_rfl) hb45 (k := 0) rfl ?_
        conv => whnf
        refine ⟨e41, ?_⟩
        conv => whnf
        refine (hS _ (Ext.trans hXX e41)).mono ?_
        rintro _ w47 ⟨rfl, e46⟩
        conv => whnf
        refine ⟨(Ext.trans e41 e46), ?_⟩
        conv => whnf
        with_reducible refine IfB.dec (fun h48 => ?_) (fun h48 => ?_)
        · conv => whnf
          refine SemK.buildSlice mk_27 (vs := [Value.int IntKind.i64 ↑i]) (by rfl) (by rfl) (by simp [Value.cells]) (by decide) ?_
          intro b49 w49 g49 l49 e49 B49
          have G49 := Grow.of_blk (n := 1) (enc := eI) (xs := [↑i]) eI_len B49 g49 rfl (by decide)
          conv => whnf
          refine SemK.appendArr0 (enc := eI) mk_27 eI_len (hG.ext (Ext.trans (Ext.trans (Ext.trans hX2 e41) e46) e49)) (G49.own.arr eI_len) (by intro y _; simp [eI, cellish]) (by omega) (by omega) (Below.size (Ext.trans (Ext.trans (Ext.trans (Ext.trans hX hX2) e41) e46) e49)) ?_
          intro a50 c50 w50 G50 m50 i50
          conv => whnf
          refine SemK.add (((i + 1 : Nat) : Int)) (by omega) (by omega) (by omega) ?_
          conv => whnf
          refine ⟨i + 1, by omega, _, _, _, rfl, by omega, by omega, ?_, (Ext.mod_trans (Ext.trans (Ext.trans (Ext.trans (Ext.trans hX hX2) e41) e46) e49) m50 (blkIn_new hG.new))⟩
          · have hany : (d.take i).any (fun x => decide (x = y)) = true := List.any_eq_true.2 ⟨x, List.mem_iff_getElem?.2 ⟨k, by rw [List.getElem?_take, if_pos hki]; exact hx⟩, by simpa using h48⟩
            rw [hany] at hws
            rw [hws]
            exact G50
        · conv => whnf
          refine SemK.add (((k + 1 : Nat) : Int)) (by omega) (by omega) (by omega) ?_
          conv => whnf
          exact ⟨k + 1, by omega, rfl, by omega, by simp [*], (Ext.trans (Ext.trans hX2 e41) e46)⟩
      · obtain rfl : k = i := by omega
        rw [hall] at hws
        simp only [Bool.false_eq_true, if_false, List.append_nil] at hws
        conv => whnf
        refine IfB.no (by omega) ?_
        conv => whnf
        refine SemK.add (((k + 1 : Nat) : Int)) (by omega) (by omega) (by omega) ?_
        conv => whnf
        exact ⟨k + 1, by omega, _, _, _, rfl, by omega, by omega, by simpa [List.take_add_one, -List.take_append_getElem, *] using (hG.ext hX2), (Ext.trans hX hX2)⟩
    · obtain rfl : i = n := by omega
      conv => whnf
      refine IfB.no (by omega) ?_
      conv => whnf
      rw [hn]
      exact ⟨_, _, _, rfl, hG.new.mono (Below.size e3), hG.own, Ext.trans e3 hX⟩
end Go.Proofs.YtfgbijddjoojbaaGreat
