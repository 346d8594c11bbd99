/- Contracts of functions of the given program, of the reference and of the laws: each says what a call returns, for all arguments that meet the premises that the theorem itself names. -/
import Derived.Test.YtfgbijddjoojbaaGreatCounts
import Derived.Test.YtfgbijddjoojbaaGreatSortS
import Derived.Test.YtfgbijddjoojbaaGreatStock
namespace Go.M
open Go Go.Vc
def baseL (cs : List Int) : List Int := cs.map fun c => 1000 * c / cs.sum
def remL (cs : List Int) : List Int := cs.map fun c => 1000 * c % cs.sum
noncomputable def sharesM (cs : List Int) : List Int × Int :=
  if countsB cs = false then ([], 2) else if cs.sum = 0 then ([], 6) else (((sortL (moreR (remL cs)) (upto cs.length)).take (1000 - (baseL cs).sum).toNat).foldl inc1 (baseL cs), 0)
theorem sum_split (s : Int) (hs : 0 < s) : ∀ l : List Int, 1000 * l.sum = s * (l.map fun c => 1000 * c / s).sum + (l.map fun c => 1000 * c % s).sum
  | [] => by simp
  | c :: l => by
    have ih := sum_split s hs l
    have := Int.mul_ediv_add_emod (1000 * c) s
    simp only [List.sum_cons, List.map_cons, Int.mul_add]
    omega
theorem sum_rem_lt (s : Int) (hs : 0 < s) : ∀ l : List Int, 0 ≤ (l.map fun c => 1000 * c % s).sum ∧ (l.map fun c => 1000 * c % s).sum ≤ l.length * (s - 1)
  | [] => by simp
  | c :: l => by
    have ih := sum_rem_lt s hs l
    have h1 := Int.emod_nonneg (1000 * c) (show s ≠ 0 by omega)
    have h2 := Int.emod_lt_of_pos (1000 * c) hs
    simp only [List.sum_cons, List.map_cons, List.length_cons, Int.natCast_add, Int.natCast_one, Int.add_mul, Int.one_mul]
    omega
theorem base_sum {cs : List Int} (h0 : ∀ c ∈ cs, 0 ≤ c) (hs : 0 < cs.sum) : (baseL cs).sum ≤ 1000 ∧ 1000 - (baseL cs).sum ≤ cs.length := by
  have h1 := sum_split cs.sum hs cs
  obtain ⟨h2, h3⟩ := sum_rem_lt cs.sum hs cs
  have e : (cs.map fun c => 1000 * c / cs.sum).sum = (baseL cs).sum := rfl
  rw [e] at h1
  generalize (cs.map fun c => 1000 * c % cs.sum).sum = R at *
  generalize cs.sum = S at *
  generalize (baseL cs).sum = b at *
  have k1 : S * (1000 - b) = R := by rw [Int.mul_sub]; omega
  constructor
  · apply Classical.byContradiction
    intro hc
    have : S * (1000 - b) < 0 := Int.mul_neg_of_pos_of_neg hs (by omega)
    omega
  · apply Classical.byContradiction
    intro hc
    have k2 : S * ((cs.length : Int) + 1) ≤ S * (1000 - b) := Int.mul_le_mul_of_nonneg_left (by omega) (by omega)
    have k3 : S * ((cs.length : Int) + 1) = cs.length * S + S := by rw [Int.mul_add, Int.mul_comm]; omega
    have k4 : (cs.length : Int) * (S - 1) = cs.length * S - cs.length := by rw [Int.mul_sub]; omega
    omega
theorem base_b {cs : List Int} (h0 : ∀ c ∈ cs, 0 ≤ c ∧ c ≤ 1000000) (hs : 0 < cs.sum) : ∀ x ∈ baseL cs, 0 ≤ x ∧ x ≤ 1000000000 := by
  intro x hx
  obtain ⟨c, hc, rfl⟩ := List.mem_map.1 hx
  obtain ⟨h1, h2⟩ := h0 c hc
  refine ⟨Int.ediv_nonneg (by omega) (by omega), ?_⟩
  have := Int.ediv_le_self cs.sum (show 0 ≤ 1000 * c by omega)
  omega
theorem rem_b {cs : List Int} (hs : 0 < cs.sum) : ∀ x ∈ remL cs, 0 ≤ x ∧ x < cs.sum := by
  intro x hx
  obtain ⟨c, _, rfl⟩ := List.mem_map.1 hx
  exact ⟨Int.emod_nonneg _ (by omega), Int.emod_lt_of_pos _ hs⟩
theorem shares_eq {cs : List Int} (h0 : ∀ c ∈ cs, 0 ≤ c) (hs : 0 < cs.sum) : (selF cs.length (1000 - (baseL cs).sum).toNat (baseL cs, remL cs)).1 = ((sortL (moreR (remL cs)) (upto cs.length)).take (1000 - (baseL cs).sum).toNat).foldl inc1 (baseL cs) := by
  have hb := base_sum h0 hs
  have := selF_eq (rem := remL cs) (n := cs.length) (by simp [remL]) (fun x hx => (rem_b hs x hx).1) (1000 - (baseL cs).sum).toNat 0 (baseL cs) (remL cs) (by omega) (by simp [remL]) (fun i hi => by simp)
  rw [this]
  simp
/-- how the program compares two places -/
def shareCmp (cs : List Int) (i j : Int) : Int := (remL cs).getD j.toNat 0 - (remL cs).getD i.toNat 0
theorem shareCmp_lt (cs : List Int) (i j : Int) : shareCmp cs i j < 0 ↔ moreR (remL cs) i j := by
  unfold shareCmp moreR
  omega
theorem getD_b {l : List Int} {P : Int → Prop} (h : ∀ x ∈ l, P x) (h0 : P 0) (k : Nat) : P (l.getD k 0) := by
  rw [List.getD_eq_getElem?_getD]
  cases hk : l[k]? with
  | none => exact h0
  | some x => exact h x (List.mem_of_getElem? hk)
theorem shareCmp_ok {cs : List Int} (hc : countsB cs = true) (hs : 0 < cs.sum) (i j : Int) : i64ok (shareCmp cs i j) := by
  obtain ⟨h1, h2⟩ := countsB_spec hc
  have hsum := sum_bounds h2
  have a := getD_b (l := remL cs) (P := fun x => 0 ≤ x ∧ x ≤ 40000000) (fun x hx => by have := rem_b hs x hx; omega) (by omega) i.toNat
  have b := getD_b (l := remL cs) (P := fun x => 0 ≤ x ∧ x ≤ 40000000) (fun x hx => by have := rem_b hs x hx; omega) (by omega) j.toNat
  unfold shareCmp i64ok
  constructor <;> omega
theorem remL_get {cs : List Int} {k : Nat} {c : Int} (h : cs[k]? = some c) : (remL cs).getD k 0 = 1000 * c % cs.sum := by
  rw [List.getD_eq_getElem?_getD]
  unfold remL
  rw [List.getElem?_map, h]
  rfl
/-- some more, one by one -/
noncomputable def shareSt (cs : List Int) (k : Nat) : List Int := ((sortL (moreR (remL cs)) (upto cs.length)).take k).foldl inc1 (baseL cs)
theorem shareSt_succ {cs : List Int} {k : Nat} {i : Int} (h : (sortL (moreR (remL cs)) (upto cs.length))[k]? = some i) : shareSt cs (k + 1) = inc1 (shareSt cs k) i := by
  unfold shareSt
  rw [List.take_add_one, h]
  simp
theorem shareSt_len (cs : List Int) : ∀ k, (shareSt cs k).length = cs.length
  | 0 => by simp [shareSt, baseL]
  | k + 1 => by
    have ih := shareSt_len cs k
    cases h : (sortL (moreR (remL cs)) (upto cs.length))[k]? with
    | none =>
      have : (sortL (moreR (remL cs)) (upto cs.length)).take (k + 1) = (sortL (moreR (remL cs)) (upto cs.length)).take k := by rw [List.take_add_one, h]; simp
      unfold shareSt at *
      rw [this]
      exact ih
    | some i =>
      rw [shareSt_succ h]
      simp [inc1, ih]
theorem shareSt_b {cs : List Int} (h0 : ∀ x ∈ baseL cs, 0 ≤ x ∧ x ≤ 1000000000) : ∀ k, ∀ x ∈ shareSt cs k, 0 ≤ x ∧ x ≤ 1000000000 + k
  | 0 => fun x hx => by have := h0 x (by simpa [shareSt] using hx); omega
  | k + 1 => by
    have ih := shareSt_b h0 k
    cases h : (sortL (moreR (remL cs)) (upto cs.length))[k]? with
    | none =>
      have : (sortL (moreR (remL cs)) (upto cs.length)).take (k + 1) = (sortL (moreR (remL cs)) (upto cs.length)).take k := by rw [List.take_add_one, h]; simp
      unfold shareSt at *
      rw [this]
      intro x hx
      have := ih x hx
      omega
    | some i =>
      rw [shareSt_succ h]
      intro x hx
      rcases List.mem_or_eq_of_mem_set hx with hx | hx
      · have := ih x hx; omega
      · have := getD_b (l := shareSt cs k) (P := fun x => 0 ≤ x ∧ x ≤ 1000000000 + k) ih (by omega) i.toNat
        omega
theorem sharesM_bad {cs : List Int} (h : countsB cs = false) : sharesM cs = ([], 2) := by unfold sharesM; rw [if_pos h]
theorem sharesM_zero {cs : List Int} (h : countsB cs = true) (hs : cs.sum = 0) : sharesM cs = ([], 6) := by unfold sharesM; rw [if_neg (by simp [h]), if_pos hs]
theorem sharesM_good {cs : List Int} (h : countsB cs = true) (hs : 0 < cs.sum) : sharesM cs = ((selF cs.length (1000 - (baseL cs).sum).toNat (baseL cs, remL cs)).1, 0) := by
  unfold sharesM
  rw [if_neg (by simp [h]), if_neg (by omega), shares_eq (fun c hc => ((countsB_spec h).2 c hc).1) hs]
theorem selF_len (n : Nat) : ∀ (k : Nat) (p : List Int × List Int), (selF n k p).1.length = p.1.length
  | 0, p => rfl
  | k + 1, p => by
    unfold selF
    rw [selF_len n k]
    simp [inc1]
theorem sharesM_len (cs : List Int)   : (sharesM cs).1.length ≤ 40 := by
  unfold sharesM
  split
  · simp
  split
  · simp
  next h _ =>
    have hc : countsB cs = true := by simpa using h
    have := (countsB_spec hc).1
    have e : ((sortL (moreR (remL cs)) (upto cs.length)).take (1000 - (baseL cs).sum).toNat).foldl inc1 (baseL cs) = shareSt cs (1000 - (baseL cs).sum).toNat := rfl
    rw [e, shareSt_len]
    exact this
theorem bestF_lt (rest : List Int) {n : Nat} (hn : 0 < n) : bestF rest (n - 1) < n := by
  have := (bestF_spec rest (n - 1)).1
  omega
theorem bestF_yes {rest : List Int} {k : Nat} (hk : 0 < k) (h : rest.getD (bestF rest (k - 1)) 0 < rest.getD k 0) : bestF rest (k + 1 - 1) = k := by
  obtain ⟨m, rfl⟩ : ∃ m, k = m + 1 := ⟨k - 1, by omega⟩
  show bestF rest (m + 1) = m + 1
  have h' : rest.getD (m + 1) 0 > rest.getD (bestF rest m) 0 := h
  unfold bestF
  rw [if_pos h']
theorem bestF_no {rest : List Int} {k : Nat} (hk : 0 < k) (h : ¬ rest.getD (bestF rest (k - 1)) 0 < rest.getD k 0) : bestF rest (k + 1 - 1) = bestF rest (k - 1) := by
  obtain ⟨m, rfl⟩ : ∃ m, k = m + 1 := ⟨k - 1, by omega⟩
  show bestF rest (m + 1) = bestF rest m
  have h' : ¬ rest.getD (m + 1) 0 > rest.getD (bestF rest m) 0 := h
  rw [bestF, if_neg h']
theorem getD_ofS {l : List Int} {k : Nat} {x : Int} (h : l[k]? = some x) : l.getD k 0 = x := by rw [List.getD_eq_getElem?_getD, h]; rfl
end Go.M
namespace Go.Proofs.YtfgbijddjoojbaaGreat
open Go Go.RowKit Go.Vc Go.M
theorem impl_SharesOf1 {w : World} {a : Option Addr} {n c b1 b4 : Nat} {cs : List Int} (hA : Arr eI 1 w a n cs) (hB1 : Cells w b1 0 [.slice a n c]) (hB4 : Cells w b4 0 [.int .i64 cs.sum]) (hc : countsB cs = true) (hs : 0 < cs.sum) {i j : Nat} (hi : i < n) (hj : j < n) :
    Does Tryz.prog 42 [.int .i64 i, .int .i64 j, .pointer (some ⟨b1, 0, none⟩), .pointer (some ⟨b4, 0, none⟩)] w (fun v w' => v = .int .i64 (shareCmp cs i j) ∧ Ext w w') := by
  obtain ⟨h1, h2⟩ := countsB_spec hc
  have hn := hA.len
  obtain ⟨x, hx⟩ : ∃ x, cs[i]? = some x := get_of_lt (by omega)
  obtain ⟨y, hy⟩ : ∃ y, cs[j]? = some y := get_of_lt (by omega)
  have hxb := h2 x (List.mem_of_getElem? hx)
  have hyb := h2 y (List.mem_of_getElem? hy)
  have hsum := sum_bounds h2
  have e : shareCmp cs i j = 1000 * y % cs.sum - 1000 * x % cs.sum := by
    unfold shareCmp
    rw [show ((i : Nat) : Int).toNat = i by omega, show ((j : Nat) : Int).toNat = j by omega, remL_get hx, remL_get hy]
  have ex1 := Int.emod_nonneg (1000 * x) (show cs.sum ≠ 0 by omega)
  have ex2 := Int.emod_lt_of_pos (1000 * x) hs
  have ey1 := Int.emod_nonneg (1000 * y) (show cs.sum ≠ 0 by omega)
  have ey2 := Int.emod_lt_of_pos (1000 * y) hs
  rw [e]
  generalize cs.sum = S at *
  refine Does.of_vc tabok Tryz.func42 rfl rfl rfl (by kernel_rfl) ?_; conv => whnf
  refine DrawK.det tabok mixed (by kernel_rfl) (by kernel_rfl) ?_
  conv => whnf
  refine DSemK.load1 (by kernel_rfl) hB1 (k := 0) rfl ?_
  conv => whnf
  refine DSemK.index (by kernel_rfl) hA j rfl hy ?_
  intro b6 o6 _ hb6
  conv => whnf
  refine DSemK.load0 (by kernel_rfl) hb6 rfl ?_
  conv => whnf
  refine DSemK.mul _ rfl (by omega) (by omega) ?_
  conv => whnf
  refine DSemK.load1 (by kernel_rfl) hB4 (k := 0) rfl ?_
  conv => whnf
  refine DSemK.rem (by omega) (by omega) ?_
  conv => whnf
  refine DSemK.load1 (by kernel_rfl) hB1 (k := 0) rfl ?_
  conv => whnf
  refine DSemK.index (by kernel_rfl) hA i rfl hx ?_
  intro b8 o8 _ hb8
  conv => whnf
  refine DSemK.load0 (by kernel_rfl) hb8 rfl ?_
  conv => whnf
  refine DSemK.mul _ rfl (by omega) (by omega) ?_
  conv => whnf
  refine DSemK.load1 (by kernel_rfl) hB4 (k := 0) rfl ?_
  conv => whnf
  refine DSemK.rem (by omega) (by omega) ?_
  conv => whnf
  refine DSemK.sub _ rfl (by omega) (by omega) ?_
  conv => whnf
  intro w9 e9
  conv => whnf
  exact ⟨rfl, e9⟩
theorem impl_SharesOf {w : World} {a : Option Addr} {n c : Nat} {cs : List Int} (h : Arr eI 1 w a n cs) (hlt : ∀ x, a = some x → x.block < w.heap.size) (hok : ∀ x ∈ cs, i64ok x) (hsm : n ≤ 1048576) :
    Does Tryz.prog 12 [.slice a n c] w (fun v w' => ∃ a' n' c', v = .tuple #[.slice a' n' c', .int .i64 (sharesM cs).2] ∧ NewAt w.heap.size a' ∧ Own eI w' a' n' 2 (sharesM cs).1 ∧ Ext w w') := by
  have hn := h.len
  unfold sharesM
  cases hc : countsB cs
  · rw [if_pos rfl]
    dsimp only
    refine Does.of_vc tabok Tryz.func12 rfl rfl rfl (by kernel_rfl) ?_; conv => whnf
    refine SemK.box ?_
    intro b1 w1 g1 l1 e1 B1
    conv => whnf
    refine SemK.load1 (by kernel_rfl) B1.cells (k := 0) rfl ?_
    conv => whnf
    refine (impl_areCounts (h.ext e1)).mono ?_
    rintro _ w3 ⟨rfl, e2⟩
    conv => whnf
    refine IfB.eqt (by simp [*]; done) ?_
    conv => whnf
    exact ⟨_, _, _, rfl, NewAt.nil, Own.nil, (Ext.trans e1 e2)⟩
  obtain ⟨h1, h2⟩ := countsB_spec hc
  have hsum := sum_bounds h2
  have hbk : ∀ k, -9223372036854775808 ≤ (cs.take k).sum ∧ (cs.take k).sum ≤ 9223372036854775807 := fun k => by
    have := sum_bounds (l := cs.take k) (M := 1000000) (fun x hx => h2 x (List.mem_of_mem_take hx))
    have hl : (cs.take k).length ≤ 40 := by rw [List.length_take]; omega
    omega
  rw [if_neg (by simp)]
  by_cases hs0 : cs.sum = 0
  · rw [if_pos hs0]
    dsimp only
    refine Does.of_vc tabok Tryz.func12 rfl rfl rfl (by kernel_rfl) ?_; conv => whnf
    refine SemK.box ?_
    intro b3 w3 g3 l3 e3 B3
    conv => whnf
    refine SemK.load1 (by kernel_rfl) B3.cells (k := 0) rfl ?_
    conv => whnf
    refine (impl_areCounts (h.ext e3)).mono ?_
    rintro _ w5 ⟨rfl, e4⟩
    conv => whnf
    refine IfB.eqf (by simp [*]; done) ?_
    conv => whnf
    refine SemK.load1 (by kernel_rfl) (B3.ext e4).cells (k := 0) rfl ?_
    conv => whnf
    refine (impl_sumOf (h.ext (Ext.trans e3 e4)) hbk).mono ?_
    rintro _ _ ⟨rfl, rfl⟩
    conv => whnf
    refine IfB.yes (by omega) ?_
    conv => whnf
    exact ⟨_, _, _, rfl, NewAt.nil, Own.nil, (Ext.trans e3 e4)⟩
  · rw [if_neg hs0]
    dsimp only
    have hs : 0 < cs.sum := by omega
    refine Does.of_vc tabok Tryz.func12 rfl rfl rfl (by kernel_rfl) ?_; conv => whnf
    refine SemK.box ?_
    intro b3 w3 g3 l3 e3 B3
    conv => whnf
    refine SemK.load1 (by kernel_rfl) B3.cells (k := 0) rfl ?_
    conv => whnf
    refine (impl_areCounts (h.ext e3)).mono ?_
    rintro _ w5 ⟨rfl, e4⟩
    conv => whnf
    refine IfB.eqf (by simp [*]; done) ?_
    conv => whnf
    refine SemK.load1 (by kernel_rfl) (B3.ext e4).cells (k := 0) rfl ?_
    conv => whnf
    refine (impl_sumOf (h.ext (Ext.trans e3 e4)) hbk).mono ?_
    rintro _ _ ⟨rfl, rfl⟩
    conv => whnf
    refine IfB.no (by omega) ?_
    conv => whnf
    refine SemK.load1 (by kernel_rfl) (B3.ext e4).cells (k := 0) rfl ?_
    conv => whnf
    refine (impl_sumOf (h.ext (Ext.trans e3 e4)) hbk).mono ?_
    rintro _ _ ⟨rfl, rfl⟩
    conv => whnf
    refine SemK.buildSlice mk_27 (vs := []) (by rfl) (by rfl) (by simp [Value.cells]) (by decide) ?_
    intro b8 w8 g8 l8 e8 B8
    have G8 := Grow.new0 (enc := eI) eI_len B8 g8
    conv => whnf
    refine SemK.buildSlice mk_27 (vs := []) (by rfl) (by rfl) (by simp [Value.cells]) (by decide) ?_
    intro b9 w9 g9 l9 e9 B9
    have G9 := Grow.new0 (enc := eI) eI_len B9 g9
    conv => whnf
    refine SemK.alloc (z := .int .i64 0) (by kernel_rfl) ?_
    intro b10 w10 g10 l10 e10 B10
    conv => whnf
    refine SemK.store1 (by kernel_rfl) B10 (k := 0) (by decide) rfl ?_
    intro w11 c11 B11
    conv => whnf
    refine SemK.load1 (by kernel_rfl) (B3.ext (Ext.but_trans (Ext.trans (Ext.trans (Ext.trans e4 e8) e9) e10) c11.but (Nat.le_trans (Below.size (Ext.trans (Ext.trans e4 e8) e9)) g10))).cells (k := 0) rfl ?_
    conv => whnf
    have s4 := e4.size
    have hap1 : Apart (some ⟨b8, 0, none⟩) (some ⟨b9, 0, none⟩) := Apart.of (by omega)
    have hap2 : Apart (some ⟨b8, 0, none⟩) (some ⟨b10, 0, none⟩) := Apart.of (by omega)
    have hap3 : Apart (some ⟨b9, 0, none⟩) (some ⟨b10, 0, none⟩) := Apart.of (by omega)
    have hap4 : Apart (some ⟨b8, 0, none⟩) (some ⟨b3, 0, none⟩) := Apart.of (by omega)
    have hap5 : Apart (some ⟨b9, 0, none⟩) (some ⟨b3, 0, none⟩) := Apart.of (by omega)
    refine LoopK.rule [1, 4, 5, 6, 23, 24, 25] (fun (k : Nat) vs w' => ∃ a5 n5 c5 a6 n6 c6, vs = [.pointer (some ⟨b3, 0, none⟩), .pointer (some ⟨b10, 0, none⟩), .slice a5 n5 c5, .slice a6 n6 c6, .slice a n c, .int .i64 n, .int .i64 k] ∧ k ≤ n ∧ Grow eI 1 w.heap.size 2 w' a5 n5 c5 (((cs.take k).map fun c => 1000 * c / cs.sum)) ∧ Grow eI 1 w.heap.size 2 w' a6 n6 c6 (upto k) ∧ Apart a5 a6 ∧ Apart a6 a5 ∧ Apart a5 (some ⟨b10, 0, none⟩) ∧ Apart a6 (some ⟨b10, 0, none⟩) ∧ Apart a5 (some ⟨b3, 0, none⟩) ∧ Apart a6 (some ⟨b3, 0, none⟩) ∧ Blk w' b10 [.int .i64 cs.sum] 2 ∧ Blk w' b3 [.slice a n c] 27 ∧ Ext w w') (fun k => n - k) tab tabok (by kernel_rfl) 0 ⟨_, _, _, _, _, _, rfl, by omega, ?_, ?_, hap1, hap1.symm, hap2, hap3, hap4, hap5, ?_, ?_, ?_⟩ ?_
    · exact by simpa [List.take_add_one, -List.take_append_getElem, *] using ((G8.ext (Ext.but_trans (Ext.trans e9 e10) c11.but (Nat.le_trans (Below.size e9) g10))).base (by omega))
    · exact (G9.ext (Ext.but_trans e10 c11.but g10)).base (by have := e3.size; have := e4.size; have := e8.size; omega)
    · exact B11
    · exact (B3.ext (Ext.but_trans (Ext.trans (Ext.trans (Ext.trans e4 e8) e9) e10) c11.but (Nat.le_trans (Below.size (Ext.trans (Ext.trans e4 e8) e9)) g10)))
    · exact (Ext.but_trans (Ext.trans (Ext.trans (Ext.trans (Ext.trans e3 e4) e8) e9) e10) c11.but (Nat.le_trans (Below.size (Ext.trans (Ext.trans (Ext.trans e3 e4) e8) e9)) g10))
    rintro k g _ w' ⟨a5, n5, c5, a6, n6, c6, rfl, hk, G5, G6, ap56, ap65, ap5, ap6, ap53, ap63, BS, B0, hX⟩
    have hn5 := G5.len
    have hn6 := G6.len
    rw [List.length_map, List.length_take] at hn5
    rw [upto_length] at hn6
    by_cases hkn : k < n
    · obtain ⟨x, hx⟩ : ∃ x, cs[k]? = some x := get_of_lt (by omega)
      have hxb := h2 x (List.mem_of_getElem? hx)
      have hmt := map_take_succ (f := fun c => 1000 * c / cs.sum) hx
      have hup := upto_succ k
      have hq1 := Int.ediv_nonneg (show 0 ≤ 1000 * x by omega) (show 0 ≤ cs.sum by omega)
      have hq2 := Int.ediv_le_self cs.sum (show 0 ≤ 1000 * x by omega)
      generalize hS : cs.sum = S at *
      conv => whnf
      refine IfB.yes (by omega) ?_
      conv => whnf
      refine SemK.index (by kernel_rfl) (h.ext hX) k rfl hx ?_
      intro b67 o67 _ hb67
      conv => whnf
      refine SemK.load0 (by kernel_rfl) hb67 rfl ?_
      conv => whnf
      refine SemK.mul _ rfl (by omega) (by omega) ?_
      conv => whnf
      refine SemK.load1 (by kernel_rfl) BS.cells (k := 0) rfl ?_
      conv => whnf
      refine SemK.quo (by omega) (by omega) (by omega) ?_
      conv => whnf
      refine SemK.buildSlice mk_27 (vs := [Value.int IntKind.i64 (1000 * x / S)]) (by rfl) (by rfl) (by simp [Value.cells]) (by decide) ?_
      intro b68 w68 g68 l68 e68 B68
      have G68 := Grow.of_blk (n := 1) (enc := eI) (xs := [1000 * x / S]) eI_len B68 g68 rfl (by decide)
      conv => whnf
      refine SemK.appendArr0 (enc := eI) mk_27 eI_len (G5.ext e68) (G68.own.arr eI_len) (by intro y _; simp [eI, cellish]) (by omega) (by omega) (Below.size (Ext.trans hX e68)) ?_
      intro a69 c69 w69 G69 m69 i69
      conv => whnf
      refine SemK.buildSlice mk_27 (vs := [Value.int IntKind.i64 ↑k]) (by rfl) (by rfl) (by simp [Value.cells]) (by decide) ?_
      intro b70 w70 g70 l70 e70 B70
      have G70 := Grow.of_blk (n := 1) (enc := eI) (xs := [↑k]) eI_len B70 g70 rfl (by decide)
      conv => whnf
      refine SemK.appendArr0 (enc := eI) mk_27 eI_len (((G6.ext e68).mod m69 ap56).ext e70) (G70.own.arr eI_len) (by intro y _; simp [eI, cellish]) (by omega) (by omega) (Below.size (Ext.trans (Ext.mod_trans (Ext.trans hX e68) m69 (blkIn_new G5.new)) e70)) ?_
      intro a71 c71 w71 G71 m71 i71
      conv => whnf
      refine SemK.add (((k + 1 : Nat) : Int)) (by omega) (by omega) (by omega) ?_
      conv => whnf
      have A1 : Apart a69 a6 := Apart.app ap56 i69 (G6.ext e68).lt
      have A2 : Apart a71 a69 := Apart.app A1.symm i71 (G69.ext e70).lt
      refine ⟨k + 1, by omega, _, _, _, _, _, _, rfl, by omega, ?_, ?_, ?_, ?_, Apart.app ap5 i69 (by rintro x hx; cases hx; exact (BS.ext e68).lt), Apart.app ap6 i71 (by rintro x hx; cases hx; exact (((BS.ext e68).mod m69 (ap5 _ rfl)).ext e70).lt), Apart.app ap53 i69 (by rintro x hx; cases hx; exact (B0.ext e68).lt), Apart.app ap63 i71 (by rintro x hx; cases hx; exact (((B0.ext e68).mod m69 (ap53 _ rfl)).ext e70).lt), ((((BS.ext e68).mod m69 (ap5 _ rfl)).ext e70).mod m71 (ap6 _ rfl)), ((((B0.ext e68).mod m69 (ap53 _ rfl)).ext e70).mod m71 (ap63 _ rfl)), (Ext.mod_trans (Ext.trans (Ext.mod_trans (Ext.trans hX e68) m69 (blkIn_new G5.new)) e70) m71 (blkIn_new G6.new))⟩
      · rw [hmt]; exact (G69.ext e70).mod m71 A1.symm
      · rw [hup]; exact G71
      · exact A2.symm
      · exact A2
    · have hke : k = n := by omega
      subst hke
      rw [List.take_of_length_le (by omega)] at G5
      have G5 : Grow eI 1 w.heap.size 2 w' a5 n5 c5 (baseL cs) := G5
      have hn0 : 0 < k := by
        apply Classical.byContradiction
        intro hh
        have : cs = [] := List.eq_nil_of_length_eq_zero (by omega)
        rw [this] at hs
        simp at hs
      obtain ⟨b5, rfl⟩ := G5.own.some (by omega)
      obtain ⟨b6, rfl⟩ := G6.own.some (by omega)
      have hnew6 := G6.new _ rfl
      have hb56 : ¬ b6 = b5 := fun e => ap56 _ rfl ⟨_, rfl, e⟩
      have hc6 := G6.le.1
      have hc5 := G5.le.1
      have hab : ∀ x, a = some x → ¬ blkIn (some ⟨b6, 0, none⟩) x.block := by
        rintro x hx ⟨y, hy, he⟩
        cases hy
        have := hlt x hx
        have h6 : w.heap.size ≤ b6 := hnew6
        have he : x.block = b6 := he
        omega
      have hSort := lib_SortStableInt (c := c6) (g := 42) (cap := [.pointer (some ⟨b3, 0, none⟩), .pointer (some ⟨b10, 0, none⟩)]) (moreR_swo (remL cs)) (shareCmp_lt cs) (shareCmp_ok hc hs) G6.own (upto_rise _) (by omega) (fun i hi j hj w2 M2 => by
        obtain ⟨i', hi', rfl⟩ := upto_mem.1 hi
        obtain ⟨j', hj', rfl⟩ := upto_mem.1 hj
        exact impl_SharesOf1 ((h.ext hX).mod M2 hab) (B0.cells.mod M2 (ap63 _ rfl)) (BS.cells.mod M2 (ap6 _ rfl)) hc hs hi' hj')
      have hbs := base_sum (fun c hc => (h2 c hc).1) hs
      have hbb := base_b h2 hs
      have hbl : (baseL cs).length = k := by simp [baseL]; omega
      have hbk2 : ∀ j, -9223372036854775808 ≤ ((baseL cs).take j).sum ∧ ((baseL cs).take j).sum ≤ 9223372036854775807 := fun j => by
        have := sum_bounds (l := (baseL cs).take j) (M := 1000000000) (fun x hx => hbb x (List.mem_of_mem_take hx))
        have hl : ((baseL cs).take j).length ≤ 40 := by rw [List.length_take]; omega
        omega
      have hbs0 := sum_bounds hbb
      obtain ⟨kk, hkk⟩ : ∃ kk : Nat, (kk : Int) = 1000 - (baseL cs).sum := ⟨(1000 - (baseL cs).sum).toNat, by omega⟩
      rw [← hkk, show ((kk : Nat) : Int).toNat = kk by omega]
      conv => whnf
      refine IfB.no (by omega) ?_
      conv => whnf
      refine (hSort).mono ?_
      rintro _ w68 ⟨rfl, m66, O67⟩
      conv => whnf
      refine (impl_sumOf ((G5.mod m66 ap56.symm).own.arr eI_len) hbk2).mono ?_
      rintro _ _ ⟨rfl, rfl⟩
      conv => whnf
      refine SemK.sub ((kk : Nat) : Int) (by omega) (by omega) (by omega) ?_
      conv => whnf
      refine SemK.sliceTo (k' := .i64) (by kernel_rfl) (O67.arr eI_len) kk (by omega) (by omega) (.inr rfl) ?_
      intro A69
      conv => whnf
      rw [show upto k = upto cs.length by rw [hn]] at A69
      have O5 := (G5.mod m66 ap56.symm).own
      have X68 : Ext w w68 := Ext.mod_trans hX m66 (blkIn_new G6.new)
      have l6 : b6 < w68.heap.size := O67.lt _ rfl
      have hsl : (sortL (moreR (remL cs)) (upto cs.length)).length = cs.length := by rw [sortL_len', upto_length]
      refine LoopK.rule [5, 49, 50, 51] (fun (j : Nat) vs w' => vs = [.slice (some ⟨b5, 0, none⟩) n5 c5, .slice (some ⟨b6, 0, none⟩) kk c6, .int .i64 kk, .int .i64 j] ∧ j ≤ kk ∧ Own eI w' (some ⟨b5, 0, none⟩) n5 2 (shareSt cs j) ∧ Arr eI 1 w' (some ⟨b6, 0, none⟩) kk ((sortL (moreR (remL cs)) (upto cs.length)).take kk) ∧ Ext w w') (fun j => kk - j) tab tabok (by kernel_rfl) 0 ⟨rfl, by omega, O5, A69, X68⟩ ?_
      rintro j g2 _ w2 ⟨rfl, hj, O2, A2, X2⟩
      have hsb := shareSt_b hbb j
      have hstl := shareSt_len cs j
      by_cases hjk : j < kk
      · obtain ⟨y, hy⟩ : ∃ y, (sortL (moreR (remL cs)) (upto cs.length))[j]? = some y := get_of_lt (by omega)
        obtain ⟨m', hm', rfl⟩ := upto_mem.1 (sortL_mem' (List.mem_of_getElem? hy))
        have hy2 : ((sortL (moreR (remL cs)) (upto cs.length)).take kk)[j]? = some (m' : Int) := by rw [List.getElem?_take, if_pos hjk]; exact hy
        obtain ⟨z, hz⟩ : ∃ z, (shareSt cs j)[m']? = some z := get_of_lt (by omega)
        have hzb := hsb z (List.mem_of_getElem? hz)
        have hstep : (shareSt cs j).set m' (z + 1) = shareSt cs (j + 1) := by
          rw [shareSt_succ hy]
          unfold inc1
          rw [show ((m' : Nat) : Int).toNat = m' by omega, List.getD_eq_getElem?_getD, hz]
          rfl
        conv => whnf
        refine IfB.yes (by omega) ?_
        conv => whnf
        refine SemK.index (by kernel_rfl) A2 j rfl hy2 ?_
        intro b71 o71 _ hb71
        conv => whnf
        refine SemK.load0 (by kernel_rfl) hb71 rfl ?_
        conv => whnf
        refine SemK.indexOwn (sz := 1) (by kernel_rfl) m' rfl (by omega) ?_
        have hb73 := Own.elem eI_len O2 hz
        conv => whnf
        refine SemK.load0 (by kernel_rfl) hb73 rfl ?_
        conv => whnf
        refine SemK.add _ rfl (by omega) (by omega) ?_
        conv => whnf
        refine SemK.indexOwn (sz := 1) (by kernel_rfl) m' rfl (by omega) ?_
        have hb75 := Own.elem eI_len O2 hz
        conv => whnf
        refine SemK.storeOwn1 (k := m') (j := 0) (by kernel_rfl) eI_len O2 hz (by decide) rfl (z + 1) rfl ?_
        intro w76 c76 B76
        have hx76 := set_get hz ((z + 1))
        conv => whnf
        refine SemK.add (((j + 1 : Nat) : Int)) (by omega) (by omega) (by omega) ?_
        conv => whnf
        refine ⟨j + 1, by omega, rfl, by omega, by simpa [List.take_add_one, -List.take_append_getElem, *] using B76, ?_, ?_⟩
        · exact A2.mod c76.but (by rintro x hx; cases hx; exact hb56)
        · exact Ext.but_trans X2 c76.but (G5.new _ rfl)
      · have hje : j = kk := by omega
        subst hje
        conv => whnf
        refine IfB.no (by omega) ?_
        conv => whnf
        exact ⟨_, _, _, rfl, G5.new, O2, X2⟩
theorem spec_SharesOf {w : World} {a : Option Addr} {n c : Nat} {cs : List Int} (h : Arr eI 1 w a n cs) (hlt : ∀ x, a = some x → x.block < w.heap.size) (hok : ∀ x ∈ cs, i64ok x) (hsm : n ≤ 1048576) :
    Does Tryz.prog 13 [.slice a n c] w (fun v w' => ∃ a' n' c', v = .tuple #[.slice a' n' c', .int .i64 (sharesM cs).2] ∧ NewAt w.heap.size a' ∧ Own eI w' a' n' 2 (sharesM cs).1 ∧ Ext w w') := by
  have hn := h.len
  by_cases hn40 : n ≤ 40
  · have hn40' : ¬ (40 : Int) < n := by omega
    refine Does.of_vc tabok Tryz.func13 rfl rfl rfl (by kernel_rfl) ?_; conv => whnf
    refine IfB.no (by omega) ?_
    conv => whnf
    refine LoopK.rule [0, 4, 5] (fun (k : Nat) vs w' => vs = [.slice a n c, .int .i64 (cs.take k).sum, .int .i64 k] ∧ k ≤ n ∧ (∀ i y, i < k → cs[i]? = some y → inB y 0 1000000 = true) ∧ w = w') (fun k => n - k) tab tabok (by kernel_rfl) 0 ⟨rfl, by omega, fun i y h => by omega, rfl⟩ ?_
    rintro k g _ w' ⟨rfl, hk, hrow, rfl⟩
    by_cases hkn : k < n
    · obtain ⟨y, hy⟩ : ∃ y, cs[k]? = some y := get_of_lt (by omega)
      cases hyb : inB y 0 1000000
      · rw [sharesM_bad (countsB_bad hy hyb)]
        conv => whnf
        refine IfB.yes (by omega) ?_
        conv => whnf
        refine SemK.index (by kernel_rfl) h k rfl hy ?_
        intro b42 o42 _ hb42
        conv => whnf
        refine SemK.load0 (by kernel_rfl) hb42 rfl ?_
        conv => whnf
        refine (spec_in _ _ _ _).mono ?_
        rintro _ _ ⟨rfl, rfl⟩
        conv => whnf
        refine IfB.eqt (by simp [*]; done) ?_
        conv => whnf
        exact ⟨_, _, _, rfl, NewAt.nil, Own.nil, Ext.refl _⟩
      · have hrow2 : ∀ i z, i < k + 1 → cs[i]? = some z → inB z 0 1000000 = true := fun i z hi hz => by
          by_cases e : i = k
          · subst e
            rw [hy] at hz
            rw [← Option.some.inj hz]
            exact hyb
          · exact hrow i z (by omega) hz
        have hts := sum_take_succ hy
        have hy2 : 0 ≤ y ∧ y ≤ 1000000 := inB_true hyb
        have htk := sum_bounds (l := cs.take k) (M := 1000000) (fun x hx => by
          obtain ⟨i, hi⟩ := List.mem_iff_getElem?.1 hx
          have hil := (List.getElem?_eq_some_iff.1 hi).1
          rw [List.getElem?_take] at hi
          split at hi
          · exact inB_true (hrow i x (by omega) hi)
          · cases hi)
        have htl : (cs.take k).length ≤ 40 := by rw [List.length_take]; omega
        conv => whnf
        refine IfB.yes (by omega) ?_
        conv => whnf
        refine SemK.index (by kernel_rfl) h k rfl hy ?_
        intro b42 o42 _ hb42
        conv => whnf
        refine SemK.load0 (by kernel_rfl) hb42 rfl ?_
        conv => whnf
        refine (spec_in _ _ _ _).mono ?_
        rintro _ _ ⟨rfl, rfl⟩
        conv => whnf
        refine IfB.eqf (by simp [*]; done) ?_
        conv => whnf
        refine SemK.index (by kernel_rfl) h k rfl hy ?_
        intro b45 o45 _ hb45
        conv => whnf
        refine SemK.load0 (by kernel_rfl) hb45 rfl ?_
        conv => whnf
        refine SemK.add _ rfl (by omega) (by omega) ?_
        conv => whnf
        refine SemK.add (((k + 1 : Nat) : Int)) (by omega) (by omega) (by omega) ?_
        conv => whnf
        exact ⟨k + 1, by omega, by rw [hts]; rfl, by omega, hrow2, rfl⟩
    · have hke : k = n := by omega
      subst hke
      have hc := countsB_row (l := cs) (by omega) hrow (by omega)
      obtain ⟨h1, h2⟩ := countsB_spec hc
      have hsum := sum_bounds h2
      have htf : cs.take k = cs := List.take_of_length_le (by omega)
      rw [htf]
      by_cases hs0 : cs.sum = 0
      · rw [sharesM_zero hc hs0]
        conv => whnf
        refine IfB.no (by omega) ?_
        conv => whnf
        refine IfB.yes (by omega) ?_
        conv => whnf
        exact ⟨_, _, _, rfl, NewAt.nil, Own.nil, Ext.refl _⟩
      · have hs : 0 < cs.sum := by omega
        have hbs := base_sum (fun c hc => (h2 c hc).1) hs
        have hbb := base_b h2 hs
        have hrb := rem_b (cs := cs) hs
        rw [sharesM_good hc hs]
        conv => whnf
        refine IfB.no (by omega) ?_
        conv => whnf
        refine IfB.no (by omega) ?_
        conv => whnf
        refine SemK.buildSlice mk_27 (vs := []) (by rfl) (by rfl) (by simp [Value.cells]) (by decide) ?_
        intro b41 w41 g41 l41 e41 B41
        have G41 := Grow.new0 (enc := eI) eI_len B41 g41
        conv => whnf
        refine SemK.buildSlice mk_27 (vs := []) (by rfl) (by rfl) (by simp [Value.cells]) (by decide) ?_
        intro b42 w42 g42 l42 e42 B42
        have G42 := Grow.new0 (enc := eI) eI_len B42 g42
        conv => whnf
        have hn0 : 0 < k := by
          apply Classical.byContradiction
          intro hh
          have : cs = [] := List.eq_nil_of_length_eq_zero (by omega)
          rw [this] at hs
          simp at hs
        have hapi : Apart (some ⟨b41, 0, none⟩) (some ⟨b42, 0, none⟩) := Apart.of (by omega)
        have hq0 : (baseL cs).length = k := by simp [baseL]; omega
        have hr0 : (remL cs).length = k := by simp [remL]; omega
        refine LoopK.rule [0, 4, 6, 7, 8, 9] (fun (j : Nat) vs w' => ∃ a6 n6 c6 a7 n7 c7, vs = [.slice a k c, .int .i64 cs.sum, .slice a6 n6 c6, .slice a7 n7 c7, .int .i64 (1000 - ((baseL cs).take j).sum), .int .i64 j] ∧ j ≤ k ∧ Grow eI 1 w.heap.size 2 w' a6 n6 c6 ((baseL cs).take j) ∧ Grow eI 1 w.heap.size 2 w' a7 n7 c7 ((remL cs).take j) ∧ Apart a6 a7 ∧ Apart a7 a6 ∧ Ext w w') (fun j => k - j) tab tabok (by kernel_rfl) 0 ⟨_, _, _, _, _, _, rfl, by omega, G41.ext e42, G42.base e41.size, hapi, hapi.symm, Ext.trans e41 e42⟩ ?_
        rintro j g2 _ w2 ⟨a6, n6, c6, a7, n7, c7, rfl, hj, G6, G7, ap67, ap76, hX⟩
        have hn6 := G6.len
        have hn7 := G7.len
        rw [List.length_take] at hn6 hn7
        by_cases hjk : j < k
        · obtain ⟨x, hx⟩ : ∃ x, cs[j]? = some x := get_of_lt (by omega)
          have hxb := h2 x (List.mem_of_getElem? hx)
          have hbx : (baseL cs)[j]? = some (1000 * x / cs.sum) := by unfold baseL; rw [List.getElem?_map, hx]; rfl
          have hrx : (remL cs)[j]? = some (1000 * x % cs.sum) := by unfold remL; rw [List.getElem?_map, hx]; rfl
          have hqb := hbb _ (List.mem_of_getElem? hbx)
          have hts := sum_take_succ hbx
          have htb := take_next hbx
          have htr := take_next hrx
          have hpre := sum_bounds (l := (baseL cs).take j) (M := 1000000000) (fun x hx => hbb x (List.mem_of_mem_take hx))
          have hprel : ((baseL cs).take j).length ≤ 40 := by rw [List.length_take]; omega
          generalize hS : cs.sum = S at *
          conv => whnf
          refine IfB.yes (by omega) ?_
          conv => whnf
          refine SemK.index (by kernel_rfl) (h.ext hX) j rfl hx ?_
          intro b78 o78 _ hb78
          conv => whnf
          refine SemK.load0 (by kernel_rfl) hb78 rfl ?_
          conv => whnf
          refine SemK.mul _ rfl (by omega) (by omega) ?_
          conv => whnf
          refine SemK.quo (by omega) (by omega) (by omega) ?_
          conv => whnf
          refine SemK.buildSlice mk_27 (vs := [Value.int IntKind.i64 (1000 * x / S)]) (by rfl) (by rfl) (by simp [Value.cells]) (by decide) ?_
          intro b79 w79 g79 l79 e79 B79
          have G79 := Grow.of_blk (n := 1) (enc := eI) (xs := [1000 * x / S]) eI_len B79 g79 rfl (by decide)
          conv => whnf
          refine SemK.appendArr0 (enc := eI) mk_27 eI_len (G6.ext e79) (G79.own.arr eI_len) (by intro y _; simp [eI, cellish]) (by omega) (by omega) (Below.size (Ext.trans hX e79)) ?_
          intro a80 c80 w80 G80 m80 i80
          conv => whnf
          refine SemK.index (by kernel_rfl) (h.ext (Ext.mod_trans (Ext.trans hX e79) m80 (blkIn_new G6.new))) j rfl hx ?_
          intro b82 o82 _ hb82
          conv => whnf
          refine SemK.load0 (by kernel_rfl) hb82 rfl ?_
          conv => whnf
          refine SemK.mul _ rfl (by omega) (by omega) ?_
          conv => whnf
          refine SemK.rem (by omega) (by omega) ?_
          conv => whnf
          refine SemK.buildSlice mk_27 (vs := [Value.int IntKind.i64 (1000 * x % S)]) (by rfl) (by rfl) (by simp [Value.cells]) (by decide) ?_
          intro b83 w83 g83 l83 e83 B83
          have G83 := Grow.of_blk (n := 1) (enc := eI) (xs := [1000 * x % S]) eI_len B83 g83 rfl (by decide)
          conv => whnf
          refine SemK.appendArr0 (enc := eI) mk_27 eI_len (((G7.ext e79).mod m80 ap67).ext e83) (G83.own.arr eI_len) (by intro y _; simp [eI, cellish]) (by omega) (by omega) (Below.size (Ext.trans (Ext.mod_trans (Ext.trans hX e79) m80 (blkIn_new G6.new)) e83)) ?_
          intro a84 c84 w84 G84 m84 i84
          conv => whnf
          refine SemK.sub _ rfl (by omega) (by omega) ?_
          conv => whnf
          refine SemK.add (((j + 1 : Nat) : Int)) (by omega) (by omega) (by omega) ?_
          conv => whnf
          have hv : 1000 - ((baseL cs).take j).sum - 1000 * x / S = 1000 - ((baseL cs).take (j + 1)).sum := by omega
          have A1 : Apart a80 a7 := Apart.app ap67 i80 (G7.ext e79).lt
          have A2 : Apart a84 a80 := Apart.app A1.symm i84 (G80.ext e83).lt
          exact ⟨j + 1, by omega, _, _, _, _, _, _, by rw [← hv]; rfl, by omega, by rw [htb]; exact (G80.ext e83).mod m84 A1.symm, by rw [htr]; exact G84, A2.symm, A2, Ext.mod_trans (Ext.trans (Ext.mod_trans (Ext.trans hX e79) m80 (blkIn_new G6.new)) e83) m84 (blkIn_new G7.new)⟩
        · have hje : j = k := by omega
          subst hje
          have htB : (baseL cs).take j = baseL cs := List.take_of_length_le (by omega)
          have htR : (remL cs).take j = remL cs := List.take_of_length_le (by omega)
          rw [htB] at G6
          rw [htR] at G7
          rw [htB]
          obtain ⟨b6, rfl⟩ := G6.own.some (by omega)
          obtain ⟨b7, rfl⟩ := G7.own.some (by omega)
          have hb67 : ¬ b7 = b6 := fun e => ap67 _ rfl ⟨_, rfl, e⟩
          have hg6 : w.heap.size ≤ b6 := G6.new _ rfl
          have hg7 : w.heap.size ≤ b7 := G7.new _ rfl
          have O6 := G6.own
          have O7 := G7.own
          obtain ⟨K0, hK0⟩ : ∃ K0 : Nat, (K0 : Int) = 1000 - (baseL cs).sum := ⟨(1000 - (baseL cs).sum).toNat, by omega⟩
          rw [← hK0, show ((K0 : Nat) : Int).toNat = K0 by omega]
          conv => whnf
          refine IfB.no (by omega) ?_
          conv => whnf
          refine LoopK.rule [6, 7, 8] (fun (s : Nat) vs w' => ∃ o rs, vs = [.slice (some ⟨b6, 0, none⟩) n6 c6, .slice (some ⟨b7, 0, none⟩) n7 c7, .int .i64 s] ∧ s ≤ K0 ∧ o.length = cs.length ∧ rs.length = cs.length ∧ selF cs.length s (o, rs) = selF cs.length K0 (baseL cs, remL cs) ∧ (∀ x ∈ o, 0 ≤ x ∧ x ≤ 1000000000 + (K0 - s : Nat)) ∧ Own eI w' (some ⟨b6, 0, none⟩) n6 2 o ∧ Own eI w' (some ⟨b7, 0, none⟩) n7 2 rs ∧ Ext w w') (fun s => s) tab tabok (by kernel_rfl) K0 ⟨_, _, rfl, by omega, by omega, by omega, rfl, fun x hx => by have := hbb x hx; omega, O6, O7, hX⟩ ?_
          rintro s g3 _ w3 ⟨o, rs, rfl, hsK, hol, hrl, hsel, hob, O6', O7', hX3⟩
          by_cases hs1 : 0 < s
          · obtain ⟨s', rfl⟩ : ∃ s', s = s' + 1 := ⟨s - 1, by omega⟩
            conv => whnf
            refine IfB.yes (by omega) ?_
            conv => whnf
            refine LoopK.rule [6, 7, 8, 11, 12] (fun (i : Nat) vs w' => vs = [.slice (some ⟨b6, 0, none⟩) n6 c6, .slice (some ⟨b7, 0, none⟩) n7 c7, .int .i64 (s' + 1 : Nat), .int .i64 (bestF rs (i - 1) : Nat), .int .i64 i] ∧ 1 ≤ i ∧ i ≤ n7 ∧ Ext w3 w') (fun i => n7 - i) tab tabok (by kernel_rfl) 1 ⟨rfl, by omega, by omega, Ext.refl _⟩ ?_
            rintro i g4 _ w4 ⟨rfl, hi1, hi, hX4⟩
            have hbl := (bestF_spec rs (i - 1)).1
            by_cases hin : i < n7
            · obtain ⟨x, hx⟩ : ∃ x, rs[i]? = some x := get_of_lt (by omega)
              obtain ⟨y, hy⟩ : ∃ y, rs[bestF rs (i - 1)]? = some y := get_of_lt (by omega)
              by_cases hc : y < x
              · have hst := bestF_yes (rest := rs) (k := i) (by omega) (by rw [getD_ofS hx, getD_ofS hy]; exact hc)
                conv => whnf
                refine IfB.yes (by omega) ?_
                conv => whnf
                refine DrawK.det tabok mixed (by kernel_rfl) (by kernel_rfl) ?_
                conv => whnf
                refine DSemK.indexOwn (sz := 1) (by kernel_rfl) i rfl (by omega) ?_
                have hb78 := Own.elem eI_len (O7'.ext hX4) hx
                conv => whnf
                refine DSemK.load0 (by kernel_rfl) hb78 rfl ?_
                conv => whnf
                refine DSemK.indexOwn (sz := 1) (by kernel_rfl) (bestF rs (i - 1)) rfl (by omega) ?_
                have hb80 := Own.elem eI_len (O7'.ext hX4) hy
                conv => whnf
                refine DSemK.load0 (by kernel_rfl) hb80 rfl ?_
                conv => whnf
                intro w81 e81
                conv => whnf
                refine IfB.yes (by omega) ?_
                conv => whnf
                refine SemK.add (((i + 1 : Nat) : Int)) (by omega) (by omega) (by omega) ?_
                conv => whnf
                exact ⟨i + 1, by omega, by rw [hst]; rfl, by omega, by omega, Ext.trans hX4 e81⟩
              · have hst := bestF_no (rest := rs) (k := i) (by omega) (by rw [getD_ofS hx, getD_ofS hy]; exact hc)
                conv => whnf
                refine IfB.yes (by omega) ?_
                conv => whnf
                refine DrawK.det tabok mixed (by kernel_rfl) (by kernel_rfl) ?_
                conv => whnf
                refine DSemK.indexOwn (sz := 1) (by kernel_rfl) i rfl (by omega) ?_
                have hb78 := Own.elem eI_len (O7'.ext hX4) hx
                conv => whnf
                refine DSemK.load0 (by kernel_rfl) hb78 rfl ?_
                conv => whnf
                refine DSemK.indexOwn (sz := 1) (by kernel_rfl) (bestF rs (i - 1)) rfl (by omega) ?_
                have hb80 := Own.elem eI_len (O7'.ext hX4) hy
                conv => whnf
                refine DSemK.load0 (by kernel_rfl) hb80 rfl ?_
                conv => whnf
                intro w81 e81
                conv => whnf
                refine IfB.no (by omega) ?_
                conv => whnf
                refine SemK.add (((i + 1 : Nat) : Int)) (by omega) (by omega) (by omega) ?_
                conv => whnf
                exact ⟨i + 1, by omega, by rw [hst]; rfl, by omega, by omega, Ext.trans hX4 e81⟩
            · have hie : i = n7 := by omega
              subst hie
              have hbe : bestF rs (i - 1) = bestF rs (cs.length - 1) := by rw [show i = cs.length by omega]
              obtain ⟨bb, hbb2⟩ : ∃ bb, bb = bestF rs (cs.length - 1) := ⟨_, rfl⟩
              rw [hbe, ← hbb2]
              have hblt : bb < cs.length := by rw [hbb2]; exact bestF_lt rs (by omega)
              obtain ⟨x, hx⟩ : ∃ x, o[bb]? = some x := get_of_lt (by omega)
              obtain ⟨y, hy⟩ : ∃ y, rs[bb]? = some y := get_of_lt (by omega)
              have hxb := hob x (List.mem_of_getElem? hx)
              have hinc : o.set bb (x + 1) = inc1 o (bb : Int) := by
                unfold inc1
                rw [show ((bb : Nat) : Int).toNat = bb by omega, getD_ofS hx]
              have hsel2 : selF cs.length s' (o.set bb (x + 1), rs.set bb (-1)) = selF cs.length K0 (baseL cs, remL cs) := by
                rw [hinc, ← hsel, hbb2]
                rfl
              have hob2 : ∀ z ∈ o.set bb (x + 1), 0 ≤ z ∧ z ≤ 1000000000 + (K0 - s' : Nat) := fun z hz => by
                rcases List.mem_or_eq_of_mem_set hz with hz | hz
                · have := hob z hz; omega
                · omega
              have hol2 : (o.set bb (x + 1)).length = cs.length := by simp [hol]
              have hrl2 : (rs.set bb (-1)).length = cs.length := by simp [hrl]
              conv => whnf
              refine IfB.no (by omega) ?_
              conv => whnf
              refine SemK.indexOwn (sz := 1) (by kernel_rfl) bb rfl (by omega) ?_
              have hb78 := Own.elem eI_len (O6'.ext hX4) hx
              conv => whnf
              refine SemK.load0 (by kernel_rfl) hb78 rfl ?_
              conv => whnf
              refine SemK.add _ rfl (by omega) (by omega) ?_
              conv => whnf
              refine SemK.indexOwn (sz := 1) (by kernel_rfl) bb rfl (by omega) ?_
              have hb80 := Own.elem eI_len (O6'.ext hX4) hx
              conv => whnf
              refine SemK.storeOwn1 (k := bb) (j := 0) (by kernel_rfl) eI_len (O6'.ext hX4) hx (by decide) rfl (x + 1) rfl ?_
              intro w81 c81 B81
              have hx81 := set_get hx ((x + 1))
              conv => whnf
              have O7b : Own eI w81 (some ⟨b7, 0, none⟩) i 2 rs := (O7'.ext hX4).mod c81.but (by rintro x hx; cases hx; exact hb67)
              refine SemK.indexOwn (sz := 1) (by kernel_rfl) bb rfl (by omega) ?_
              have hb83 := Own.elem eI_len O7b hy
              conv => whnf
              refine SemK.storeOwn1 (k := bb) (j := 0) (by kernel_rfl) eI_len O7b hy (by decide) rfl (-1) rfl ?_
              intro w84 c84 B84
              have hx84 := set_get hy ((-1))
              conv => whnf
              refine SemK.sub (((s' : Nat) : Int)) (by omega) (by omega) (by omega) ?_
              conv => whnf
              exact ⟨s', by omega, o.set bb (x + 1), rs.set bb (-1), rfl, by omega, hol2, hrl2, hsel2, hob2, B81.mod c84.but (by rintro x hx; cases hx; exact fun e => hb67 e.symm), B84, Ext.but_trans (Ext.but_trans (Ext.trans hX3 hX4) c81.but hg6) c84.but hg7⟩
          · have hs0' : s = 0 := by omega
            subst hs0'
            have hfin : (selF cs.length K0 (baseL cs, remL cs)).1 = o := by rw [← hsel]; rfl
            rw [hfin]
            conv => whnf
            exact ⟨_, _, _, rfl, G6.new, O6', hX3⟩
  · have hcb : countsB cs = false := by
      have : decide (cs.length ≤ 40) = false := decide_eq_false (by omega)
      simp [countsB, this]
    rw [sharesM_bad hcb]
    refine Does.of_vc tabok Tryz.func13 rfl rfl rfl (by kernel_rfl) ?_; conv => whnf
    refine IfB.yes (by omega) ?_
    conv => whnf
    exact ⟨_, _, _, rfl, NewAt.nil, Own.nil, Ext.refl _⟩
end Go.Proofs.YtfgbijddjoojbaaGreat
