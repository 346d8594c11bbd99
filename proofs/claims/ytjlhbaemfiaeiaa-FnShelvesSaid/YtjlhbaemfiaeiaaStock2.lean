/- Contracts of functions of the given program, of the reference and of the laws: each says what a call returns, for all arguments that meet the premises that the theorem itself names. -/
import Derived.Test.YtjlhbaemfiaeiaaStock
namespace Go.M
open Go Go.Vc
def befT (vs : List Int) (own : Int) (i k : Nat) : Int := match vs[k]? with | some n => if own < n ∨ (n = own ∧ k < i) then n else 0 | none => 0
def befS (vs : List Int) (own : Int) (i k : Nat) : Int := ((List.range k).map (befT vs own i)).sum
theorem befS_succ (vs : List Int) (own : Int) (i k : Nat) : befS vs own i (k + 1) = befS vs own i k + befT vs own i k := by simp [befS, List.range_succ]
theorem befT_b {vs : List Int} (h : ∀ x ∈ vs, 0 ≤ x ∧ x ≤ 1000000000000) (own : Int) (i k : Nat) : 0 ≤ befT vs own i k ∧ befT vs own i k ≤ 1000000000000 := by
  unfold befT
  split
  · rename_i n hn
    have := h n (List.mem_of_getElem? hn)
    split <;> omega
  · omega
theorem befS_b {vs : List Int} (h : ∀ x ∈ vs, 0 ≤ x ∧ x ≤ 1000000000000) (own : Int) (i : Nat) : ∀ k : Nat, 0 ≤ befS vs own i k ∧ befS vs own i k ≤ k * 1000000000000
  | 0 => by simp [befS]
  | k + 1 => by
    have h1 := befS_b h own i k
    have h2 := befT_b h own i k
    rw [befS_succ]
    omega
theorem befT_yes {vs : List Int} {own n : Int} {i k : Nat} (hn : vs[k]? = some n) (h : own < n ∨ (n = own ∧ k < i)) : befT vs own i k = n := by simp [befT, hn, h]
theorem befT_no {vs : List Int} {own n : Int} {i k : Nat} (hn : vs[k]? = some n) (h : ¬ (own < n ∨ (n = own ∧ k < i))) : befT vs own i k = 0 := by simp only [befT, hn]; rw [if_neg h]
def classC (b all : Int) : UInt8 := if 10 * b < 7 * all then 65 else if 10 * b < 9 * all then 66 else 67
def classOf (vs : List Int) (i : Nat) : UInt8 := match vs[i]? with | some own => classC (befS vs own i vs.length) vs.sum | none => 0
theorem classOf_at {vs : List Int} {i : Nat} {own : Int} (h : vs[i]? = some own) : classOf vs i = classC (befS vs own i vs.length) vs.sum := by simp [classOf, h]
def classesL (vs : List Int) (k : Nat) : List UInt8 := (List.range k).map (classOf vs)
theorem classesL_succ (vs : List Int) (k : Nat) : classesL vs (k + 1) = classesL vs k ++ [classOf vs k] := by simp [classesL, List.range_succ]
def valueClassesM (xs : List TPart) : ByteArray × Int := if partsB xs = false then (bs [], 1) else (bs (classesL (xs.map worth) xs.length), 0)
end Go.M
namespace Go.Proofs.Ytjlhbaemfiaeiaa
open Go Go.RowKit Go.Vc Go.M
theorem spec_ValueClasses {w : World} {a : Option Addr} {n c : Nat} {xs : List TPart} (h : Arr TPart.enc 4 w a n xs) (hok : ∀ x ∈ xs, x.ok) :
    Does Try.prog 42 [.slice a n c] w (fun v w' => v = .tuple #[.string (valueClassesM xs).1, .int .i64 (valueClassesM xs).2] ∧ Ext w w') := by
  have hn := h.len
  refine Does.of_vc tabok Try.func42 rfl rfl rfl (by kernel_rfl) ?_; conv => whnf
  refine (spec_l25Ok h hok).mono ?_; rintro _ w1 ⟨rfl, e1⟩; conv => whnf
  cases h1 : partsB xs
  · conv => whnf
    exact ⟨by simp [valueClassesM, h1]; rfl, e1⟩
  obtain ⟨hl, hm⟩ := partsB_mem h1
  have hvb := vals_b h1
  have hvl : (xs.map worth).length = n := by simp [hn]
  have hall := vals_sum_b h1 n
  rw [List.take_of_length_le (by omega)] at hall
  conv => whnf
  refine (spec_l25Value (h.ext e1) h1).mono ?_; rintro _ w2 ⟨rfl, e2⟩; conv => whnf
  obtain ⟨all, hae⟩ : ∃ all, all = (xs.map worth).sum := ⟨_, rfl⟩
  rw [← hae] at hall ⊢
  refine SemK.buildSlice mk_36 (vs := []) (by rfl) (by rfl) (by simp) (by decide) ?_
  intro b w3 g3 l3 e3 X3
  have E2 := Ext.trans e1 e2
  have G3 := Grow.new0 (enc := eB) eB_len X3 (Nat.le_trans E2.size g3)
  conv => whnf
  refine LoopK.rule [0, 4, 5, 6] (fun (i : Nat) vs w' => ∃ a' c', vs = [.slice a n c, .int .i64 all, .slice a' i c', .int .i64 i] ∧ i ≤ n ∧ Grow eB 1 w.heap.size 5 w' a' i c' (classesL (xs.map worth) i) ∧ Ext w w') (fun i => n - i) tab tabok (by kernel_rfl) 0 ⟨_, _, rfl, by omega, by simpa [classesL] using G3, Ext.trans E2 e3⟩ ?_
  rintro i g _ w' ⟨a', c', rfl, hi, hG, hE⟩
  conv => whnf
  with_reducible refine IfB.dec (fun h4 => ?_) (fun h4 => ?_)
  · obtain ⟨x, hx⟩ : ∃ x, xs[i]? = some x := get_of_lt (by omega)
    have hv := worth_b (hm x (List.mem_of_getElem? hx))
    have hov : (xs.map worth)[i]? = some (worth x) := by rw [List.getElem?_map, hx]; rfl
    conv => whnf
    refine DrawK.det tabok mixed (by kernel_rfl) (by kernel_rfl) ?_
    conv => whnf
    refine DSemK.index (by kernel_rfl) (h.ext hE) i rfl hx ?_
    intro b1 o1 _ hb1
    conv => whnf
    refine DSemK.load1 (by kernel_rfl) hb1 (k := 1) rfl ?_
    conv => whnf
    refine DSemK.index (by kernel_rfl) (h.ext hE) i rfl hx ?_
    intro b2 o2 _ hb2
    conv => whnf
    refine DSemK.load1 (by kernel_rfl) hb2 (k := 3) rfl ?_
    conv => whnf
    refine DSemK.mul (worth x) rfl (by omega) (by omega) ?_
    conv => whnf
    intro w4 e4
    have hE4 := Ext.trans hE e4
    conv => whnf
    refine LoopK.rule [0, 4, 5, 6, 7, 8, 9] (fun (k : Nat) vs w2 => vs = [.slice a n c, .int .i64 all, .slice a' i c', .int .i64 i, .int .i64 (worth x), .int .i64 (befS (xs.map worth) (worth x) i k), .int .i64 k] ∧ k ≤ n ∧ Ext w4 w2) (fun k => n - k) tab tabok (by kernel_rfl) 0 ⟨rfl, by omega, Ext.refl _⟩ ?_
    rintro k g2 _ w7 ⟨rfl, hk, hE7⟩
    have hbb := befS_b hvb (worth x) i k
    conv => whnf
    with_reducible refine IfB.dec (fun h6 => ?_) (fun h6 => ?_)
    · obtain ⟨y, hy⟩ : ∃ y, xs[k]? = some y := get_of_lt (by omega)
      have hyv := worth_b (hm y (List.mem_of_getElem? hy))
      have hyk : (xs.map worth)[k]? = some (worth y) := by rw [List.getElem?_map, hy]; rfl
      have hE8 := Ext.trans hE4 hE7
      conv => whnf
      refine DrawK.det tabok mixed (by kernel_rfl) (by kernel_rfl) ?_
      conv => whnf
      refine DSemK.index (by kernel_rfl) (h.ext hE8) k rfl hy ?_
      intro b1 o1 _ hb1
      conv => whnf
      refine DSemK.load1 (by kernel_rfl) hb1 (k := 1) rfl ?_
      conv => whnf
      refine DSemK.index (by kernel_rfl) (h.ext hE8) k rfl hy ?_
      intro b2 o2 _ hb2
      conv => whnf
      refine DSemK.load1 (by kernel_rfl) hb2 (k := 3) rfl ?_
      conv => whnf
      refine DSemK.mul (worth y) rfl (by omega) (by omega) ?_
      conv => whnf
      intro w8 e8
      have hE9 := Ext.trans hE7 e8
      conv => whnf
      with_reducible refine IfB.dec (fun q1 => ?_) (fun q1 => ?_)
      · have ht := befT_yes (own := worth x) (i := i) hyk (.inl q1)
        conv => whnf
        refine SemK.add (befS (xs.map worth) (worth x) i (k + 1)) (by rw [befS_succ, ht]) (by rw [befS_succ, ht]; omega) (by rw [befS_succ, ht]; omega) ?_
        conv => whnf
        refine SemK.add (((k + 1 : Nat) : Int)) (by omega) (by omega) (by omega) ?_
        conv => whnf
        exact ⟨k + 1, by omega, rfl, by omega, hE9⟩
      · conv => whnf
        with_reducible refine IfB.dec (fun q2 => ?_) (fun q2 => ?_)
        · conv => whnf
          with_reducible refine IfB.dec (fun q3 => ?_) (fun q3 => ?_)
          · have ht := befT_yes (own := worth x) (i := i) hyk (.inr ⟨q2, by omega⟩)
            conv => whnf
            refine SemK.add (befS (xs.map worth) (worth x) i (k + 1)) (by rw [befS_succ, ht]) (by rw [befS_succ, ht]; omega) (by rw [befS_succ, ht]; omega) ?_
            conv => whnf
            refine SemK.add (((k + 1 : Nat) : Int)) (by omega) (by omega) (by omega) ?_
            conv => whnf
            exact ⟨k + 1, by omega, rfl, by omega, hE9⟩
          · have ht := befT_no (own := worth x) (i := i) hyk (by omega)
            conv => whnf
            refine SemK.add (((k + 1 : Nat) : Int)) (by omega) (by omega) (by omega) ?_
            conv => whnf
            exact ⟨k + 1, by omega, by rw [befS_succ, ht, Int.add_zero]; rfl, by omega, hE9⟩
        · have ht := befT_no (own := worth x) (i := i) hyk (by omega)
          conv => whnf
          refine SemK.add (((k + 1 : Nat) : Int)) (by omega) (by omega) (by omega) ?_
          conv => whnf
          exact ⟨k + 1, by omega, by rw [befS_succ, ht, Int.add_zero]; rfl, by omega, hE9⟩
    · conv => whnf
      have hkn : k = n := by omega
      rw [hkn] at hbb ⊢
      obtain ⟨B, hB⟩ : ∃ B, B = befS (xs.map worth) (worth x) i n := ⟨_, rfl⟩
      rw [← hB] at hbb ⊢
      have hE10 := Ext.trans hE4 hE7
      have hcl : classOf (xs.map worth) i = classC B all := by rw [classOf_at hov, hvl, ← hB, ← hae]
      refine SemK.mul (10 * B) rfl (by omega) (by omega) ?_
      conv => whnf
      refine SemK.mul (7 * all) rfl (by omega) (by omega) ?_
      conv => whnf
      with_reducible refine IfB.dec (fun c1 => ?_) (fun c1 => ?_)
      · conv => whnf
        refine SemK.buildSlice mk_36 (vs := [.int .u8 65]) (by rfl) (by rfl) (by simp [Value.cells]) (by decide) ?_
        intro yb w5 g5 l5 e5 Y5
        have E5 := Ext.trans hE10 e5
        conv => whnf
        refine SemK.append (enc := eB) mk_36 eB_len (((hG.ext e4).ext hE7).ext e5) (ys := [65]) (m := 1) (by exact Y5.cells) rfl (by simp [flat, eB, cellish]) (by omega) (by omega) (by exact E5.size) ?_
        intro a6 c6 w6 G6 m6
        conv => whnf
        refine SemK.add (((i + 1 : Nat) : Int)) (by omega) (by omega) (by omega) ?_
        conv => whnf
        exact ⟨i + 1, by omega, _, _, rfl, by omega, by rw [classesL_succ, hcl, (show classC B all = 65 by simp [classC, c1])]; exact G6, Ext.mod_trans E5 m6 (blkIn_new hG.new)⟩
      · conv => whnf
        refine SemK.mul (10 * B) rfl (by omega) (by omega) ?_
        conv => whnf
        refine SemK.mul (9 * all) rfl (by omega) (by omega) ?_
        conv => whnf
        with_reducible refine IfB.dec (fun c2 => ?_) (fun c2 => ?_)
        · conv => whnf
          refine SemK.buildSlice mk_36 (vs := [.int .u8 66]) (by rfl) (by rfl) (by simp [Value.cells]) (by decide) ?_
          intro yb w5 g5 l5 e5 Y5
          have E5 := Ext.trans hE10 e5
          conv => whnf
          refine SemK.append (enc := eB) mk_36 eB_len (((hG.ext e4).ext hE7).ext e5) (ys := [66]) (m := 1) (by exact Y5.cells) rfl (by simp [flat, eB, cellish]) (by omega) (by omega) (by exact E5.size) ?_
          intro a6 c6 w6 G6 m6
          conv => whnf
          refine SemK.add (((i + 1 : Nat) : Int)) (by omega) (by omega) (by omega) ?_
          conv => whnf
          exact ⟨i + 1, by omega, _, _, rfl, by omega, by rw [classesL_succ, hcl, (show classC B all = 66 by simp only [classC, if_neg c1, if_pos c2])]; exact G6, Ext.mod_trans E5 m6 (blkIn_new hG.new)⟩
        · conv => whnf
          refine SemK.buildSlice mk_36 (vs := [.int .u8 67]) (by rfl) (by rfl) (by simp [Value.cells]) (by decide) ?_
          intro yb w5 g5 l5 e5 Y5
          have E5 := Ext.trans hE10 e5
          conv => whnf
          refine SemK.append (enc := eB) mk_36 eB_len (((hG.ext e4).ext hE7).ext e5) (ys := [67]) (m := 1) (by exact Y5.cells) rfl (by simp [flat, eB, cellish]) (by omega) (by omega) (by exact E5.size) ?_
          intro a6 c6 w6 G6 m6
          conv => whnf
          refine SemK.add (((i + 1 : Nat) : Int)) (by omega) (by omega) (by omega) ?_
          conv => whnf
          exact ⟨i + 1, by omega, _, _, rfl, by omega, by rw [classesL_succ, hcl, (show classC B all = 67 by simp only [classC, if_neg c1, if_neg c2])]; exact G6, Ext.mod_trans E5 m6 (blkIn_new hG.new)⟩
  · conv => whnf
    have : i = n := by omega
    subst this
    refine SemK.toStrG (by kernel_rfl) (by kernel_rfl) hG ?_
    conv => whnf
    refine ⟨?_, hE⟩
    simp only [valueClassesM, h1, hn]
    rfl
theorem impl_ValueClasses {w : World} {a : Option Addr} {n c : Nat} {xs : List TPart} (h : Arr TPart.enc 4 w a n xs) (hok : ∀ x ∈ xs, x.ok) (hnc : n ≤ c) :
    Does Try.prog 41 [.slice a n c] w (fun v w' => v = .tuple #[.string (valueClassesM xs).1, .int .i64 (valueClassesM xs).2] ∧ Ext w w') := by
  have hn := h.len
  refine Does.of_vc tabok Try.func41 rfl rfl rfl (by kernel_rfl) ?_; conv => whnf
  refine (impl_ValidParts h hok hnc).mono ?_; rintro _ w1 ⟨rfl, e1⟩; conv => whnf
  cases h1 : partsB xs
  · conv => whnf
    exact ⟨by simp [valueClassesM, h1]; rfl, e1⟩
  obtain ⟨hl, hm⟩ := partsB_mem h1
  have hvb := vals_b h1
  have hvl : (xs.map worth).length = n := by simp [hn]
  have hall := vals_sum_b h1 n
  rw [List.take_of_length_le (by omega)] at hall
  conv => whnf
  refine (impl_valuesOf (h.ext e1) h1).mono ?_
  rintro _ w2 ⟨av, cv, rfl, GV, e2⟩
  have hV : Arr eI 1 w2 av n (xs.map worth) := GV.own.arr eI_len
  conv => whnf
  refine SemK.buildSlice mk_36 (vs := []) (by rfl) (by rfl) (by simp) (by decide) ?_
  intro b w3 g3 l3 e3 X3
  have E2 := Ext.trans e1 e2
  have G3 := Grow.new0 (enc := eB) eB_len X3 g3
  conv => whnf
  refine (impl_sumOf (hV.ext e3) (fun k => by have := vals_sum_b h1 k; omega)).mono ?_
  rintro _ _ ⟨rfl, rfl⟩
  obtain ⟨all, hae⟩ : ∃ all, all = (xs.map worth).sum := ⟨_, rfl⟩
  rw [← hae] at hall ⊢
  conv => whnf
  refine LoopK.rule [4, 5, 6, 20, 21, 22] (fun (i : Nat) vs w' => ∃ a' c', vs = [.slice av n cv, .slice a' i c', .int .i64 all, .slice av n cv, .int .i64 n, .int .i64 i] ∧ i ≤ n ∧ Grow eB 1 w2.heap.size 5 w' a' i c' (classesL (xs.map worth) i) ∧ Ext w2 w') (fun i => n - i) tab tabok (by kernel_rfl) 0 ⟨_, _, rfl, by omega, by simpa [classesL] using G3, e3⟩ ?_
  rintro i g _ w' ⟨a', c', rfl, hi, hG, hE⟩
  conv => whnf
  with_reducible refine IfB.dec (fun h4 => ?_) (fun h4 => ?_)
  · obtain ⟨own, hov⟩ : ∃ own, (xs.map worth)[i]? = some own := get_of_lt (by omega)
    conv => whnf
    refine SemK.index (by kernel_rfl) (hV.ext hE) i rfl hov ?_
    intro b1 o1 _ hb1
    conv => whnf
    refine SemK.load0 (by kernel_rfl) hb1 rfl ?_
    conv => whnf
    refine LoopK.rule [4, 5, 6, 7, 8, 9, 20, 21, 22, 27, 28, 29] (fun (k : Nat) vs w7 => vs = [.slice av n cv, .slice a' i c', .int .i64 all, .int .i64 i, .int .i64 own, .int .i64 (befS (xs.map worth) own i k), .slice av n cv, .int .i64 n, .int .i64 i, .slice av n cv, .int .i64 n, .int .i64 k] ∧ k ≤ n ∧ w' = w7) (fun k => n - k) tab tabok (by kernel_rfl) 0 ⟨rfl, by omega, rfl⟩ ?_
    rintro k g2 _ _ ⟨rfl, hk, rfl⟩
    have hbb := befS_b hvb own i k
    conv => whnf
    with_reducible refine IfB.dec (fun h6 => ?_) (fun h6 => ?_)
    · obtain ⟨y, hyk⟩ : ∃ y, (xs.map worth)[k]? = some y := get_of_lt (by omega)
      have hyv := hvb y (List.mem_of_getElem? hyk)
      conv => whnf
      refine SemK.index (by kernel_rfl) (hV.ext hE) k rfl hyk ?_
      intro b2 o2 _ hb2
      conv => whnf
      refine SemK.load0 (by kernel_rfl) hb2 rfl ?_
      conv => whnf
      with_reducible refine IfB.dec (fun q1 => ?_) (fun q1 => ?_)
      · have ht := befT_yes (own := own) (i := i) hyk (.inl q1)
        conv => whnf
        refine SemK.add (befS (xs.map worth) own i (k + 1)) (by rw [befS_succ, ht]) (by rw [befS_succ, ht]; omega) (by rw [befS_succ, ht]; omega) ?_
        conv => whnf
        refine SemK.add (((k + 1 : Nat) : Int)) (by omega) (by omega) (by omega) ?_
        conv => whnf
        exact ⟨k + 1, by omega, rfl, by omega, rfl⟩
      · conv => whnf
        with_reducible refine IfB.dec (fun q2 => ?_) (fun q2 => ?_)
        · conv => whnf
          with_reducible refine IfB.dec (fun q3 => ?_) (fun q3 => ?_)
          · have ht := befT_yes (own := own) (i := i) hyk (.inr ⟨q2, by omega⟩)
            conv => whnf
            refine SemK.add (befS (xs.map worth) own i (k + 1)) (by rw [befS_succ, ht]) (by rw [befS_succ, ht]; omega) (by rw [befS_succ, ht]; omega) ?_
            conv => whnf
            refine SemK.add (((k + 1 : Nat) : Int)) (by omega) (by omega) (by omega) ?_
            conv => whnf
            exact ⟨k + 1, by omega, rfl, by omega, rfl⟩
          · have ht := befT_no (own := own) (i := i) hyk (by omega)
            conv => whnf
            refine SemK.add (((k + 1 : Nat) : Int)) (by omega) (by omega) (by omega) ?_
            conv => whnf
            exact ⟨k + 1, by omega, by rw [befS_succ, ht, Int.add_zero]; rfl, by omega, rfl⟩
        · have ht := befT_no (own := own) (i := i) hyk (by omega)
          conv => whnf
          refine SemK.add (((k + 1 : Nat) : Int)) (by omega) (by omega) (by omega) ?_
          conv => whnf
          exact ⟨k + 1, by omega, by rw [befS_succ, ht, Int.add_zero]; rfl, by omega, rfl⟩
    · conv => whnf
      have hkn : k = n := by omega
      rw [hkn] at hbb ⊢
      obtain ⟨B, hB⟩ : ∃ B, B = befS (xs.map worth) own i n := ⟨_, rfl⟩
      rw [← hB] at hbb ⊢
      have hcl : classOf (xs.map worth) i = classC B all := by rw [classOf_at hov, hvl, ← hB, ← hae]
      refine SemK.mul (10 * B) rfl (by omega) (by omega) ?_
      conv => whnf
      refine SemK.mul (7 * all) rfl (by omega) (by omega) ?_
      conv => whnf
      with_reducible refine IfB.dec (fun c1 => ?_) (fun c1 => ?_)
      · conv => whnf
        refine SemK.buildSlice mk_36 (vs := [.int .u8 65]) (by rfl) (by rfl) (by simp [Value.cells]) (by decide) ?_
        intro yb w5 g5 l5 e5 Y5
        have E5 := Ext.trans hE e5
        conv => whnf
        refine SemK.append (enc := eB) mk_36 eB_len (hG.ext e5) (ys := [65]) (m := 1) (by exact Y5.cells) rfl (by simp [flat, eB, cellish]) (by omega) (by omega) (by exact E5.size) ?_
        intro a6 c6 w6 G6 m6
        conv => whnf
        refine SemK.add (((i + 1 : Nat) : Int)) (by omega) (by omega) (by omega) ?_
        conv => whnf
        exact ⟨i + 1, by omega, _, _, rfl, by omega, by rw [classesL_succ, hcl, (show classC B all = 65 by simp [classC, c1])]; exact G6, Ext.mod_trans E5 m6 (blkIn_new hG.new)⟩
      · conv => whnf
        refine SemK.mul (10 * B) rfl (by omega) (by omega) ?_
        conv => whnf
        refine SemK.mul (9 * all) rfl (by omega) (by omega) ?_
        conv => whnf
        with_reducible refine IfB.dec (fun c2 => ?_) (fun c2 => ?_)
        · conv => whnf
          refine SemK.buildSlice mk_36 (vs := [.int .u8 66]) (by rfl) (by rfl) (by simp [Value.cells]) (by decide) ?_
          intro yb w5 g5 l5 e5 Y5
          have E5 := Ext.trans hE e5
          conv => whnf
          refine SemK.append (enc := eB) mk_36 eB_len (hG.ext e5) (ys := [66]) (m := 1) (by exact Y5.cells) rfl (by simp [flat, eB, cellish]) (by omega) (by omega) (by exact E5.size) ?_
          intro a6 c6 w6 G6 m6
          conv => whnf
          refine SemK.add (((i + 1 : Nat) : Int)) (by omega) (by omega) (by omega) ?_
          conv => whnf
          exact ⟨i + 1, by omega, _, _, rfl, by omega, by rw [classesL_succ, hcl, (show classC B all = 66 by simp only [classC, if_neg c1, if_pos c2])]; exact G6, Ext.mod_trans E5 m6 (blkIn_new hG.new)⟩
        · conv => whnf
          refine SemK.buildSlice mk_36 (vs := [.int .u8 67]) (by rfl) (by rfl) (by simp [Value.cells]) (by decide) ?_
          intro yb w5 g5 l5 e5 Y5
          have E5 := Ext.trans hE e5
          conv => whnf
          refine SemK.append (enc := eB) mk_36 eB_len (hG.ext e5) (ys := [67]) (m := 1) (by exact Y5.cells) rfl (by simp [flat, eB, cellish]) (by omega) (by omega) (by exact E5.size) ?_
          intro a6 c6 w6 G6 m6
          conv => whnf
          refine SemK.add (((i + 1 : Nat) : Int)) (by omega) (by omega) (by omega) ?_
          conv => whnf
          exact ⟨i + 1, by omega, _, _, rfl, by omega, by rw [classesL_succ, hcl, (show classC B all = 67 by simp only [classC, if_neg c1, if_neg c2])]; exact G6, Ext.mod_trans E5 m6 (blkIn_new hG.new)⟩
  · conv => whnf
    have : i = n := by omega
    subst this
    refine SemK.toStrG (by kernel_rfl) (by kernel_rfl) hG ?_
    conv => whnf
    refine ⟨?_, Ext.trans E2 hE⟩
    simp only [valueClassesM, h1, hn]
    rfl
end Go.Proofs.Ytjlhbaemfiaeiaa
