/- Contracts of functions of the given program, of the reference and of the laws: each says what a call returns, for all arguments that meet the premises that the theorem itself names. -/
import Derived.Test.YtfgbijddjoojbaaGreatCardW
import Derived.Test.YtfgbijddjoojbaaGreatVcWrite
namespace Go.Proofs.YtfgbijddjoojbaaGreat
open Go Go.RowKit Go.Vc Go.M
theorem impl_numberIn1 (x : Int) (w : World) : Does Tryz.prog 100 [.int .i64 x] w (fun v w' => v = .bool (!decide (x = 0)) ∧ Ext w w') := by
  refine Does.of_vc tabok Tryz.func100 rfl rfl rfl (by kernel_rfl) ?_; conv => whnf
  exact ⟨rfl, Ext.refl _⟩
theorem impl_numberIn {w : World} {d : Hd} {xs : List Int} (R : RCard w d xs) (hm : ∀ m ∈ xs, 0 ≤ m ∧ m ≤ 4095) {f : TField} (hf : numFieldB f xs.length = true) :
    Does Tryz.prog 63 [.agg ⟨eH d⟩, .agg ⟨f.enc⟩] w (fun v w' => v = .tuple #[.int .i64 (numInM (partOf xs f)).1, .bool (numInM (partOf xs f)).2] ∧ Ext w w') := by
  obtain ⟨A, hnc⟩ := R
  have hn := A.len
  simp only [numFieldB, Bool.and_eq_true, decide_eq_true_eq] at hf
  have hb := fieldB_b hf.1
  have h12 := hf.2
  obtain ⟨f1, f2⟩ := f
  simp only at hb h12
  obtain ⟨p, rfl⟩ : ∃ p : Nat, f1 = p := ⟨f1.toNat, by omega⟩
  obtain ⟨q, rfl⟩ : ∃ q : Nat, f2 = q := ⟨f2.toNat, by omega⟩
  have hpm : ∀ m ∈ partOf xs ⟨(p : Int), (q : Int)⟩, 0 ≤ m ∧ m ≤ 4095 := fun m hmm => hm m (partOf_mem hmm)
  obtain ⟨l, hl⟩ : ∃ l, (xs.drop p).take (q - p) = l := ⟨_, rfl⟩
  have hpl : partOf xs ⟨(p : Int), (q : Int)⟩ = l := by unfold partOf; simpa using hl
  rw [hpl] at hpm ⊢
  have hll : l.length = q - p := by rw [← hl]; simp; omega
  obtain ⟨r, m, hrm⟩ : ∃ r m, l = r ++ [m] := ⟨l.dropLast, l.getLast (by intro e; subst e; simp at hll; omega), (List.dropLast_concat_getLast _).symm⟩
  have hrl : r.length + 1 = q - p := by rw [← hll, hrm]; simp
  have hlm : l[q - p - 1]? = some m := by rw [hrm, List.getElem?_append_right (by omega)]; simp [show q - p - 1 - r.length = 0 by omega]
  have hmb := hpm m (List.mem_of_getElem? hlm)
  have hset : l.set (q - p - 1) (bareM m) = r ++ [bareM m] := by rw [hrm, List.set_append, if_neg (by omega)]; simp [show q - p - 1 - r.length = 0 by omega]
  have hbb := bareM_b hmb.1 hmb.2
  have hb11 : bitM 11 = 2 := bitM_11 rfl
  have hand := and2 hmb.1 hmb.2
  have handn := andNot2 hmb.1 hmb.2
  refine Does.of_vc tabok Tryz.func63 rfl rfl rfl (by kernel_rfl) ?_; conv => whnf
  refine SemK.box ?_
  intro b1 w1 g1 l1 e1 B1
  conv => whnf
  refine SemK.box ?_
  intro b2 w2 g2 l2 e2 B2
  conv => whnf
  refine SemK.load1 (by kernel_rfl) (B1.ext e2).cells (k := 0) rfl ?_
  conv => whnf
  refine SemK.load1 (by kernel_rfl) B2.cells (k := 0) rfl ?_
  conv => whnf
  refine SemK.load1 (by kernel_rfl) B2.cells (k := 1) rfl ?_
  conv => whnf
  refine SemK.slice (k := .i64) (k' := .i64) (by kernel_rfl) (A.ext (Ext.trans e1 e2)) p q (by omega) (by omega) hnc (.inr (by rfl)) (.inr (by rfl)) ?_
  rw [hl]
  intro a9 A9
  have hany : l.any (fun x => !decide (x = 0)) = !decide (∀ x ∈ l, x = 0) := by
    rw [Bool.eq_iff_iff]
    simp [List.any_eq_true]
  by_cases hz : ∀ x ∈ l, x = 0
  · have hnz := num_zero hz
    rw [decide_eq_true hz] at hany
    conv => whnf
    refine (impl_copyInts A9 (by omega)).mono ?_
    rintro _ w18 ⟨a'13, c'14, rfl, N15, G16, e17⟩
    conv => whnf
    refine (lib_ContainsFuncInt (G16.own.arr eI_len) (p := fun x => !decide (x = 0)) (cap := []) (fun x _ w' _ => impl_numberIn1 x w')).mono ?_
    rintro _ w19 ⟨rfl, e18⟩
    rw [hany]
    conv => whnf
    exact ⟨by simp_all, (Ext.trans (Ext.trans (Ext.trans e1 e2) e17) e18)⟩
  · have hns := num_same r m (by rw [← hrm]; exact hz)
    rw [← hrm] at hns
    rw [decide_eq_false hz] at hany
    conv => whnf
    refine (impl_copyInts A9 (by omega)).mono ?_
    rintro _ w18 ⟨a'13, c'14, rfl, N15, G16, e17⟩
    conv => whnf
    refine (lib_ContainsFuncInt (G16.own.arr eI_len) (p := fun x => !decide (x = 0)) (cap := []) (fun x _ w' _ => impl_numberIn1 x w')).mono ?_
    rintro _ w19 ⟨rfl, e18⟩
    rw [hany]
    conv => whnf
    refine SemK.sub (((q - p - 1 : Nat) : Int)) (by omega) (by omega) (by omega) ?_
    conv => whnf
    refine DrawK.held tabok mixed [(0, false), (1, false), (2, false), (3, false), (4, true), (5, true), (6, true), (7, true)] (by kernel_rfl) (by kernel_rfl) ?_
    conv => whnf
    intro w20 e20
    conv => whnf
    obtain ⟨b22, rfl⟩ := ((G16.ext e18).own).some (by omega)
    have gb22 : w2.heap.size ≤ b22 := G16.new _ rfl
    have lb22 : b22 < w18.heap.size := G16.lt _ rfl
    refine DSemK.indexOwn (sz := 1) (by kernel_rfl) (q - p - 1) rfl (by omega) ?_
    have hb22 := Own.elem eI_len (G16.ext e18).own hlm
    conv => whnf
    refine DSemK.load0 (by kernel_rfl) hb22 rfl ?_
    conv => whnf
    refine (impl_bitOf _ _).mono ?_
    rintro _ w24 ⟨rfl, e23⟩
    conv => whnf
    refine ⟨(Ext.trans e20 e23), ?_⟩
    conv => whnf
    refine SemK.and ?_
    conv => whnf
    refine ⟨(Ext.trans e20 e23), ?_⟩
    conv => whnf
    refine DrawK.writes tabok mixed [(0, .any), (1, .any), (2, .any), (3, .held), (4, .run), (5, .any), (6, .any), (7, .write)] (by kernel_rfl) (by kernel_rfl) ?_
    conv => whnf
    intro w25 e25
    conv => whnf
    refine PSemK.indexOwn (sz := 1) (by kernel_rfl) (q - p - 1) rfl (by omega) ?_
    have hb27 := Own.elem eI_len (G16.ext (Ext.trans (Ext.trans e18 e20) e23)).own hlm
    conv => whnf
    refine DSemK.load0 (by kernel_rfl) hb27 rfl ?_
    conv => whnf
    refine (impl_bitOf _ _).mono ?_
    rintro _ w29 ⟨rfl, e28⟩
    conv => whnf
    refine ⟨(Ext.trans e25 e28), ?_⟩
    conv => whnf
    refine PSemK.andNot ?_
    conv => whnf
    refine PSemK.indexOwn (sz := 1) (by kernel_rfl) (q - p - 1) rfl (by omega) ?_
    have hb31 := Own.elem eI_len (G16.ext (Ext.trans (Ext.trans e18 e20) e23)).own hlm
    conv => whnf
    refine SemK.storeGrow1 (k := q - p - 1) (j := 0) (by kernel_rfl) eI_len (G16.ext (Ext.trans (Ext.trans (Ext.trans (Ext.trans e18 e20) e23) e25) e28)) hlm (by decide) rfl (andNotV IntKind.i64 m (bitM 11)) rfl ?_
    intro w32 c32 B32
    have hx32 := set_get hlm ((andNotV IntKind.i64 m (bitM 11)))
    conv => whnf
    have hneg : (!decide (andV IntKind.i64 m (bitM 11) = 0)) = minusB m := by
      rw [hb11, hand]
      cases minusB m <;> simp
    rw [hneg]
    rw [hb11, handn, hset] at B32
    generalize hL : r ++ [bareM m] = L at B32
    have hLl : L.length = q - p := by rw [← hL]; simp; omega
    have hLm : L[q - p - 1]? = some (bareM m) := by rw [← hL, List.getElem?_append_right (by omega)]; simp [show q - p - 1 - r.length = 0 by omega]
    have X32 : Ext w w32 := Ext.but_trans (Ext.trans (Ext.trans (Ext.trans (Ext.trans (Ext.trans (Ext.trans (Ext.trans e1 e2) e17) e18) e20) e23) e25) e28) c32.but (Nat.le_trans (Below.size (Ext.trans e1 e2)) gb22)
    refine LoopK.rule [6, 7, 8, 9, 10, 42, 43, 44] (fun (i : Nat) vs w' => ∃ n b, vs = [.slice (some ⟨b22, 0, none⟩) (q - p) c'14, .int .i64 ((q - p - 1 : Nat) : Int), .bool (minusB m), .int .i64 n, .bool b, .slice (some ⟨b22, 0, none⟩) (q - p) c'14, .int .i64 ((q - p : Nat) : Int), .int .i64 i] ∧ i ≤ q - p ∧ (L.take i).foldl numStep (some (0, false)) = some (n, b) ∧ Ext w32 w') (fun i => q - p - i) tab tabok (by kernel_rfl) 0 ⟨0, false, rfl, by omega, by simp, Ext.refl _⟩ ?_
    rintro i g _ w33 ⟨n, b, rfl, hi, hfold, hX⟩
    have X33 : Ext w w33 := Ext.trans X32 hX
    rcases Nat.lt_or_ge i (q - p) with hiq | hiq
    · obtain ⟨x, hx⟩ := get_of_lt (l := L) (k := i) (by omega)
      have hft := fold_take hx (some (0, false))
      rw [hfold, numStep_some] at hft
      have hns2 := num_small hfold (by simp; omega)
      have hdb := digitM_b x
      by_cases hc1 : x = 0 ∧ b = false
      · rw [if_pos hc1] at hft
        obtain ⟨hx0, hb0⟩ := hc1
        subst hb0
        conv => whnf
        refine IfB.yes (by omega) ?_
        conv => whnf
        refine SemK.indexOwn (sz := 1) (by kernel_rfl) i rfl (by omega) ?_
        have hb35 := Own.elem eI_len (B32.ext hX).own hx
        conv => whnf
        refine SemK.load0 (by kernel_rfl) hb35 rfl ?_
        conv => whnf
        refine (impl_digitOf _ _).mono ?_
        rintro _ w37 ⟨rfl, e36⟩
        conv => whnf
        refine IfB.yes (by omega) ?_
        conv => whnf
        refine SemK.add (((i + 1 : Nat) : Int)) (by omega) (by omega) (by omega) ?_
        conv => whnf
        exact ⟨i + 1, by omega, _, _, rfl, by omega, by omega, (Ext.trans hX e36)⟩
      · rw [if_neg hc1] at hft
        by_cases hc2 : digitM x < 0
        · rw [if_pos hc2] at hft
          have hz0 := numImpl_none (r := r) (m := m) (by rw [hL]; exact fold_none hft)
          rw [hns] at hz0
          cases b
          · have hx0 : ¬ x = 0 := fun e => hc1 ⟨e, rfl⟩
            conv => whnf
            refine IfB.yes (by omega) ?_
            conv => whnf
            refine SemK.indexOwn (sz := 1) (by kernel_rfl) i rfl (by omega) ?_
            have hb35 := Own.elem eI_len (B32.ext hX).own hx
            conv => whnf
            refine SemK.load0 (by kernel_rfl) hb35 rfl ?_
            conv => whnf
            refine (impl_digitOf _ _).mono ?_
            rintro _ w37 ⟨rfl, e36⟩
            conv => whnf
            refine IfB.no (by omega) ?_
            conv => whnf
            refine IfB.yes (by omega) ?_
            conv => whnf
            exact ⟨by simp_all, (Ext.trans X33 e36)⟩
          · conv => whnf
            refine IfB.yes (by omega) ?_
            conv => whnf
            refine SemK.indexOwn (sz := 1) (by kernel_rfl) i rfl (by omega) ?_
            have hb35 := Own.elem eI_len (B32.ext hX).own hx
            conv => whnf
            refine SemK.load0 (by kernel_rfl) hb35 rfl ?_
            conv => whnf
            refine (impl_digitOf _ _).mono ?_
            rintro _ w37 ⟨rfl, e36⟩
            conv => whnf
            with_reducible refine IfB.dec (fun h38 => ?_) (fun h38 => ?_)
            · conv => whnf
              refine IfB.yes (by omega) ?_
              conv => whnf
              exact ⟨by simp_all, (Ext.trans X33 e36)⟩
            · conv => whnf
              refine IfB.yes (by omega) ?_
              conv => whnf
              exact ⟨by simp_all, (Ext.trans X33 e36)⟩
        · rw [if_neg hc2] at hft
          cases b
          · have hx0 : ¬ x = 0 := fun e => hc1 ⟨e, rfl⟩
            conv => whnf
            refine IfB.yes (by omega) ?_
            conv => whnf
            refine SemK.indexOwn (sz := 1) (by kernel_rfl) i rfl (by omega) ?_
            have hb35 := Own.elem eI_len (B32.ext hX).own hx
            conv => whnf
            refine SemK.load0 (by kernel_rfl) hb35 rfl ?_
            conv => whnf
            refine (impl_digitOf _ _).mono ?_
            rintro _ w37 ⟨rfl, e36⟩
            conv => whnf
            refine IfB.no (by omega) ?_
            conv => whnf
            refine IfB.no (by omega) ?_
            conv => whnf
            refine SemK.mul _ rfl (by omega) (by omega) ?_
            conv => whnf
            refine SemK.add _ rfl (by omega) (by omega) ?_
            conv => whnf
            refine SemK.add (((i + 1 : Nat) : Int)) (by omega) (by omega) (by omega) ?_
            conv => whnf
            exact ⟨i + 1, by omega, _, _, rfl, by omega, by omega, (Ext.trans hX e36)⟩
          · conv => whnf
            refine IfB.yes (by omega) ?_
            conv => whnf
            refine SemK.indexOwn (sz := 1) (by kernel_rfl) i rfl (by omega) ?_
            have hb35 := Own.elem eI_len (B32.ext hX).own hx
            conv => whnf
            refine SemK.load0 (by kernel_rfl) hb35 rfl ?_
            conv => whnf
            refine (impl_digitOf _ _).mono ?_
            rintro _ w37 ⟨rfl, e36⟩
            conv => whnf
            with_reducible refine IfB.dec (fun h38 => ?_) (fun h38 => ?_)
            · conv => whnf
              refine IfB.no (by omega) ?_
              conv => whnf
              refine SemK.mul _ rfl (by omega) (by omega) ?_
              conv => whnf
              refine SemK.add _ rfl (by omega) (by omega) ?_
              conv => whnf
              refine SemK.add (((i + 1 : Nat) : Int)) (by omega) (by omega) (by omega) ?_
              conv => whnf
              exact ⟨i + 1, by omega, _, _, rfl, by omega, by omega, (Ext.trans hX e36)⟩
            · conv => whnf
              refine IfB.no (by omega) ?_
              conv => whnf
              refine SemK.mul _ rfl (by omega) (by omega) ?_
              conv => whnf
              refine SemK.add _ rfl (by omega) (by omega) ?_
              conv => whnf
              refine SemK.add (((i + 1 : Nat) : Int)) (by omega) (by omega) (by omega) ?_
              conv => whnf
              exact ⟨i + 1, by omega, _, _, rfl, by omega, by omega, (Ext.trans hX e36)⟩
    · have hie : i = q - p := by omega
      have hns2 := num_small hfold (by simp; omega)
      rw [List.take_of_length_le (by omega)] at hfold
      have hz0 := numImpl_some (r := r) (m := m) (by rw [hL]; exact hfold)
      rw [hns] at hz0
      cases b
      · rw [if_pos (.inl rfl)] at hz0
        conv => whnf
        refine IfB.no (by omega) ?_
        conv => whnf
        exact ⟨by simp_all, X33⟩
      · by_cases hc3 : bareM m = 0
        · rw [if_pos (.inr (.inl hc3))] at hz0
          conv => whnf
          refine IfB.no (by omega) ?_
          conv => whnf
          refine SemK.indexOwn (sz := 1) (by kernel_rfl) (q - p - 1) rfl (by omega) ?_
          have hb35 := Own.elem eI_len (B32.ext hX).own hLm
          conv => whnf
          refine SemK.load0 (by kernel_rfl) hb35 rfl ?_
          conv => whnf
          refine IfB.yes (by omega) ?_
          conv => whnf
          exact ⟨by simp_all, X33⟩
        · cases hz2 : minusB m
          · rw [hz2, if_neg (by simp [hc3]), if_neg (by simp)] at hz0
            conv => whnf
            refine IfB.no (by omega) ?_
            conv => whnf
            refine SemK.indexOwn (sz := 1) (by kernel_rfl) (q - p - 1) rfl (by omega) ?_
            have hb35 := Own.elem eI_len (B32.ext hX).own hLm
            conv => whnf
            refine SemK.load0 (by kernel_rfl) hb35 rfl ?_
            conv => whnf
            refine IfB.no (by omega) ?_
            conv => whnf
            exact ⟨by simp_all, X33⟩
          · by_cases hc4 : n = 0
            · rw [if_pos (.inr (.inr ⟨hz2, hc4⟩))] at hz0
              conv => whnf
              refine IfB.no (by omega) ?_
              conv => whnf
              refine SemK.indexOwn (sz := 1) (by kernel_rfl) (q - p - 1) rfl (by omega) ?_
              have hb35 := Own.elem eI_len (B32.ext hX).own hLm
              conv => whnf
              refine SemK.load0 (by kernel_rfl) hb35 rfl ?_
              conv => whnf
              refine IfB.no (by omega) ?_
              conv => whnf
              refine IfB.yes (by omega) ?_
              conv => whnf
              exact ⟨by simp_all, X33⟩
            · rw [hz2, if_neg (by simp [hc3, hc4]), if_pos rfl] at hz0
              conv => whnf
              refine IfB.no (by omega) ?_
              conv => whnf
              refine SemK.indexOwn (sz := 1) (by kernel_rfl) (q - p - 1) rfl (by omega) ?_
              have hb35 := Own.elem eI_len (B32.ext hX).own hLm
              conv => whnf
              refine SemK.load0 (by kernel_rfl) hb35 rfl ?_
              conv => whnf
              refine IfB.no (by omega) ?_
              conv => whnf
              refine IfB.no (by omega) ?_
              conv => whnf
              refine SemK.neg (-n) rfl (by omega) (by omega) ?_
              conv => whnf
              exact ⟨by simp_all, X33⟩
theorem spec_l03Number {w : World} {a : Option Addr} {n c : Nat} {xs : List Int} (h : Arr eI 1 w a n xs) (hn12 : n ≤ 12) (hm : ∀ m ∈ xs, 0 ≤ m ∧ m ≤ 4095) :
    Does Tryz.prog 75 [.slice a n c] w (fun v w' => v = .tuple #[.int .i64 (numInM xs).1, .bool (numInM xs).2] ∧ Ext w w') := by
  have hn := h.len
  rcases Nat.eq_zero_or_pos n with hn0 | hn0
  · subst hn0
    have hx0 : xs = [] := List.eq_nil_of_length_eq_zero hn
    subst hx0
    have hnz : numInM [] = (0, true) := rfl
    rw [hnz]
    refine Does.of_vc tabok Tryz.func75 rfl rfl rfl (by kernel_rfl) ?_; conv => whnf
    refine LoopK.rule [0, 4, 5, 6, 7] (fun (i : Nat) vs w' => vs = [.slice a 0 c, .int .i64 0, .bool false, .bool false, .int .i64 0] ∧ Ext w w') (fun i => i) tab tabok (by kernel_rfl) 0 ⟨rfl, Ext.refl _⟩ ?_
    rintro i g _ w3 ⟨rfl, hX⟩
    conv => whnf
    exact ⟨rfl, hX⟩
  obtain ⟨r, m, hrm⟩ : ∃ r m, xs = r ++ [m] := ⟨xs.dropLast, xs.getLast (by intro e; subst e; simp at hn; omega), (List.dropLast_concat_getLast _).symm⟩
  have hrl : r.length + 1 = n := by rw [← hn, hrm]; simp
  have hlm : xs[n - 1]? = some m := by rw [hrm, List.getElem?_append_right (by omega)]; simp [show n - 1 - r.length = 0 by omega]
  have htr : xs.take (n - 1) = r := by rw [hrm]; simp [show n - 1 = r.length by omega]
  have hmb := hm m (List.mem_of_getElem? hlm)
  have hbb := bareM_b hmb.1 hmb.2
  have hand := and2 hmb.1 hmb.2
  refine Does.of_vc tabok Tryz.func75 rfl rfl rfl (by kernel_rfl) ?_; conv => whnf
  refine LoopK.rule [0, 4, 5, 6, 7] (fun (i : Nat) vs w' => ∃ k b mi, vs = [.slice a n c, .int .i64 k, .bool b, .bool mi, .int .i64 i] ∧ i ≤ n ∧ (mi = false → (xs.take i).foldl numStep (some (0, false)) = some (k, b)) ∧ (mi = true → i = n ∧ 0 ≤ k ∧ k ≤ 10000000000009 ∧ numInM xs = if k = 0 then (0, false) else (-k, true)) ∧ (mi = false → i = n → minusB m = false) ∧ Ext w w') (fun i => n - i) tab tabok (by kernel_rfl) 0 ⟨0, false, false, rfl, by omega, fun _ => by simp, (fun h => by cases h), (fun _ h => by omega), Ext.refl _⟩ ?_
  rintro i g _ w3 ⟨k, b, mi, rfl, hi, hI1, hI2, hI3, hX⟩
  rcases Nat.lt_or_ge i n with hin | hin
  · obtain rfl : mi = false := by
      cases mi
      · rfl
      · have := (hI2 rfl).1; omega
    have hfold := hI1 rfl
    obtain ⟨x, hx⟩ := get_of_lt (l := xs) (k := i) (by omega)
    have hft := fold_take hx (some (0, false))
    rw [hfold, numStep_some] at hft
    have hns2 := num_small hfold (by simp; omega)
    have hdb := digitM_b x
    by_cases hlast : i = n - 1
    · subst hlast
      rw [hlm] at hx
      cases hx
      rw [htr] at hfold
      cases hz2 : minusB m
      · have hand0 : andV IntKind.i64 m 2 = 0 := by rw [hand, hz2]; rfl
        rw [List.take_of_length_le (by omega)] at hft
        by_cases hc1 : m = 0 ∧ b = false
        · rw [if_pos hc1] at hft
          obtain ⟨hx0, hb0⟩ := hc1
          subst hb0
          conv => whnf
          refine IfB.yes (by omega) ?_
          conv => whnf
          refine SemK.index (by kernel_rfl) (h.ext hX) (n - 1) rfl hlm ?_
          intro b14 o14 ha14 hb14
          conv => whnf
          refine SemK.load0 (by kernel_rfl) hb14 rfl ?_
          conv => whnf
          refine SemK.sub (((n - 1 : Nat) : Int)) (by omega) (by omega) (by omega) ?_
          conv => whnf
          refine IfB.yes (by omega) ?_
          conv => whnf
          refine SemK.and ?_
          conv => whnf
          with_reducible refine IfB.ndec (fun h15 => ?_) (fun h15 => ?_)
          · conv => whnf
            refine SemK.sub _ rfl (by omega) (by omega) ?_
            conv => whnf
            refine IfB.yes (by omega) ?_
            conv => whnf
            refine (spec_l03Digit _ _).mono ?_
            rintro _ w17 ⟨rfl, e16⟩
            conv => whnf
            refine IfB.yes (by omega) ?_
            conv => whnf
            exact ⟨by omega, (Ext.trans hX e16)⟩
          · conv => whnf
            refine IfB.yes (by omega) ?_
            conv => whnf
            refine SemK.add (((n - 1 + 1 : Nat) : Int)) (by omega) (by omega) (by omega) ?_
            conv => whnf
            refine ⟨n - 1 + 1, by omega, k, false, false, rfl, by omega, (fun _ => by rw [List.take_of_length_le (by omega)]; exact hft), (fun h => by cases h), (fun _ _ => rfl), ?_⟩
            exact hX
        · rw [if_neg hc1] at hft
          by_cases hc2 : digitM m < 0
          · rw [if_pos hc2, hrm] at hft
            have hz0 := numInM_none hz2 hft
            rw [← hrm] at hz0
            cases b
            · have hx0 : ¬ m = 0 := fun e => hc1 ⟨e, rfl⟩
              conv => whnf
              refine IfB.yes (by omega) ?_
              conv => whnf
              refine SemK.index (by kernel_rfl) (h.ext hX) (n - 1) rfl hlm ?_
              intro b14 o14 ha14 hb14
              conv => whnf
              refine SemK.load0 (by kernel_rfl) hb14 rfl ?_
              conv => whnf
              refine SemK.sub (((n - 1 : Nat) : Int)) (by omega) (by omega) (by omega) ?_
              conv => whnf
              refine IfB.yes (by omega) ?_
              conv => whnf
              refine SemK.and ?_
              conv => whnf
              refine IfB.eqf (by simp [*]; done) ?_
              conv => whnf
              refine IfB.no (by omega) ?_
              conv => whnf
              refine (spec_l03Digit _ _).mono ?_
              rintro _ w16 ⟨rfl, e15⟩
              conv => whnf
              refine IfB.yes (by omega) ?_
              conv => whnf
              exact ⟨by simp_all, (Ext.trans hX e15)⟩
            · conv => whnf
              refine IfB.yes (by omega) ?_
              conv => whnf
              refine SemK.index (by kernel_rfl) (h.ext hX) (n - 1) rfl hlm ?_
              intro b14 o14 ha14 hb14
              conv => whnf
              refine SemK.load0 (by kernel_rfl) hb14 rfl ?_
              conv => whnf
              refine SemK.sub (((n - 1 : Nat) : Int)) (by omega) (by omega) (by omega) ?_
              conv => whnf
              refine IfB.yes (by omega) ?_
              conv => whnf
              refine SemK.and ?_
              conv => whnf
              refine IfB.eqf (by simp [*]; done) ?_
              conv => whnf
              with_reducible refine IfB.dec (fun h15 => ?_) (fun h15 => ?_)
              · conv => whnf
                refine (spec_l03Digit _ _).mono ?_
                rintro _ w17 ⟨rfl, e16⟩
                conv => whnf
                refine IfB.yes (by omega) ?_
                conv => whnf
                exact ⟨by simp_all, (Ext.trans hX e16)⟩
              · conv => whnf
                refine (spec_l03Digit _ _).mono ?_
                rintro _ w19 ⟨rfl, e18⟩
                conv => whnf
                refine IfB.yes (by omega) ?_
                conv => whnf
                exact ⟨by simp_all, (Ext.trans hX e18)⟩
          · rw [if_neg hc2] at hft
            cases b
            · have hx0 : ¬ m = 0 := fun e => hc1 ⟨e, rfl⟩
              conv => whnf
              refine IfB.yes (by omega) ?_
              conv => whnf
              refine SemK.index (by kernel_rfl) (h.ext hX) (n - 1) rfl hlm ?_
              intro b14 o14 ha14 hb14
              conv => whnf
              refine SemK.load0 (by kernel_rfl) hb14 rfl ?_
              conv => whnf
              refine SemK.sub (((n - 1 : Nat) : Int)) (by omega) (by omega) (by omega) ?_
              conv => whnf
              refine IfB.yes (by omega) ?_
              conv => whnf
              refine SemK.and ?_
              conv => whnf
              refine IfB.eqf (by simp [*]; done) ?_
              conv => whnf
              refine IfB.no (by omega) ?_
              conv => whnf
              refine (spec_l03Digit _ _).mono ?_
              rintro _ w16 ⟨rfl, e15⟩
              conv => whnf
              refine IfB.no (by omega) ?_
              conv => whnf
              refine SemK.mul _ rfl (by omega) (by omega) ?_
              conv => whnf
              refine SemK.add _ rfl (by omega) (by omega) ?_
              conv => whnf
              refine SemK.add (((n - 1 + 1 : Nat) : Int)) (by omega) (by omega) (by omega) ?_
              conv => whnf
              refine ⟨n - 1 + 1, by omega, 10 * k + digitM m, true, false, rfl, by omega, (fun _ => by rw [List.take_of_length_le (by omega)]; exact hft), (fun h => by cases h), (fun _ _ => rfl), ?_⟩
              exact (Ext.trans hX e15)
            · conv => whnf
              refine IfB.yes (by omega) ?_
              conv => whnf
              refine SemK.index (by kernel_rfl) (h.ext hX) (n - 1) rfl hlm ?_
              intro b14 o14 ha14 hb14
              conv => whnf
              refine SemK.load0 (by kernel_rfl) hb14 rfl ?_
              conv => whnf
              refine SemK.sub (((n - 1 : Nat) : Int)) (by omega) (by omega) (by omega) ?_
              conv => whnf
              refine IfB.yes (by omega) ?_
              conv => whnf
              refine SemK.and ?_
              conv => whnf
              refine IfB.eqf (by simp [*]; done) ?_
              conv => whnf
              with_reducible refine IfB.dec (fun h15 => ?_) (fun h15 => ?_)
              · conv => whnf
                refine (spec_l03Digit _ _).mono ?_
                rintro _ w17 ⟨rfl, e16⟩
                conv => whnf
                refine IfB.no (by omega) ?_
                conv => whnf
                refine SemK.mul _ rfl (by omega) (by omega) ?_
                conv => whnf
                refine SemK.add _ rfl (by omega) (by omega) ?_
                conv => whnf
                refine SemK.add (((n - 1 + 1 : Nat) : Int)) (by omega) (by omega) (by omega) ?_
                conv => whnf
                refine ⟨n - 1 + 1, by omega, 10 * k + digitM m, true, false, rfl, by omega, (fun _ => by rw [List.take_of_length_le (by omega)]; exact hft), (fun h => by cases h), (fun _ _ => rfl), ?_⟩
                exact (Ext.trans hX e16)
              · conv => whnf
                refine (spec_l03Digit _ _).mono ?_
                rintro _ w19 ⟨rfl, e18⟩
                conv => whnf
                refine IfB.no (by omega) ?_
                conv => whnf
                refine SemK.mul _ rfl (by omega) (by omega) ?_
                conv => whnf
                refine SemK.add _ rfl (by omega) (by omega) ?_
                conv => whnf
                refine SemK.add (((n - 1 + 1 : Nat) : Int)) (by omega) (by omega) (by omega) ?_
                conv => whnf
                refine ⟨n - 1 + 1, by omega, 10 * k + digitM m, true, false, rfl, by omega, (fun _ => by rw [List.take_of_length_le (by omega)]; exact hft), (fun h => by cases h), (fun _ _ => rfl), ?_⟩
                exact (Ext.trans hX e18)
      · have hand2 : andV IntKind.i64 m 2 = 2 := by rw [hand, hz2]; rfl
        have hbm : bareM m = m - 2 := by simp [bareM, hz2]
        have hq := numInM_minus hz2 hfold
        rw [← hrm] at hq
        have hdb2 := digitM_b (bareM m)
        by_cases hc2 : digitM (m - 2) < 0
        · rw [hbm, if_pos hc2] at hq
          conv => whnf
          refine IfB.yes (by omega) ?_
          conv => whnf
          refine SemK.index (by kernel_rfl) (h.ext hX) (n - 1) rfl hlm ?_
          intro b14 o14 ha14 hb14
          conv => whnf
          refine SemK.load0 (by kernel_rfl) hb14 rfl ?_
          conv => whnf
          refine SemK.sub (((n - 1 : Nat) : Int)) (by omega) (by omega) (by omega) ?_
          conv => whnf
          refine IfB.yes (by omega) ?_
          conv => whnf
          refine SemK.and ?_
          conv => whnf
          refine IfB.eqt (by simp [*]; done) ?_
          conv => whnf
          refine SemK.sub _ rfl (by omega) (by omega) ?_
          conv => whnf
          with_reducible refine IfB.dec (fun h15 => ?_) (fun h15 => ?_)
          · conv => whnf
            with_reducible refine IfB.nsplit (fun h16 => ?_) (fun h16 => ?_)
            · conv => whnf
              refine (spec_l03Digit _ _).mono ?_
              rintro _ w18 ⟨rfl, e17⟩
              conv => whnf
              refine IfB.yes (by omega) ?_
              conv => whnf
              exact ⟨by simp_all, (Ext.trans hX e17)⟩
            · conv => whnf
              refine (spec_l03Digit _ _).mono ?_
              rintro _ w20 ⟨rfl, e19⟩
              conv => whnf
              refine IfB.yes (by omega) ?_
              conv => whnf
              exact ⟨by simp_all, (Ext.trans hX e19)⟩
          · conv => whnf
            refine (spec_l03Digit _ _).mono ?_
            rintro _ w22 ⟨rfl, e21⟩
            conv => whnf
            refine IfB.yes (by omega) ?_
            conv => whnf
            exact ⟨by simp_all, (Ext.trans hX e21)⟩
        · rw [hbm, if_neg hc2] at hq
          rw [hbm] at hdb2
          conv => whnf
          refine IfB.yes (by omega) ?_
          conv => whnf
          refine SemK.index (by kernel_rfl) (h.ext hX) (n - 1) rfl hlm ?_
          intro b14 o14 ha14 hb14
          conv => whnf
          refine SemK.load0 (by kernel_rfl) hb14 rfl ?_
          conv => whnf
          refine SemK.sub (((n - 1 : Nat) : Int)) (by omega) (by omega) (by omega) ?_
          conv => whnf
          refine IfB.yes (by omega) ?_
          conv => whnf
          refine SemK.and ?_
          conv => whnf
          refine IfB.eqt (by simp [*]; done) ?_
          conv => whnf
          refine SemK.sub _ rfl (by omega) (by omega) ?_
          conv => whnf
          with_reducible refine IfB.dec (fun h15 => ?_) (fun h15 => ?_)
          · conv => whnf
            with_reducible refine IfB.nsplit (fun h16 => ?_) (fun h16 => ?_)
            · conv => whnf
              refine (spec_l03Digit _ _).mono ?_
              rintro _ w18 ⟨rfl, e17⟩
              conv => whnf
              refine IfB.no (by omega) ?_
              conv => whnf
              refine SemK.mul _ rfl (by omega) (by omega) ?_
              conv => whnf
              refine SemK.add _ rfl (by omega) (by omega) ?_
              conv => whnf
              refine SemK.add (((n - 1 + 1 : Nat) : Int)) (by omega) (by omega) (by omega) ?_
              conv => whnf
              refine ⟨n - 1 + 1, by omega, 10 * k + digitM (m - 2), true, true, rfl, by omega, (fun h => by cases h), (fun _ => ⟨by omega, by omega, by omega, hq⟩), (fun h => by cases h), ?_⟩
              exact (Ext.trans hX e17)
            · conv => whnf
              refine (spec_l03Digit _ _).mono ?_
              rintro _ w20 ⟨rfl, e19⟩
              conv => whnf
              refine IfB.no (by omega) ?_
              conv => whnf
              refine SemK.mul _ rfl (by omega) (by omega) ?_
              conv => whnf
              refine SemK.add _ rfl (by omega) (by omega) ?_
              conv => whnf
              refine SemK.add (((n - 1 + 1 : Nat) : Int)) (by omega) (by omega) (by omega) ?_
              conv => whnf
              refine ⟨n - 1 + 1, by omega, 10 * k + digitM (m - 2), true, true, rfl, by omega, (fun h => by cases h), (fun _ => ⟨by omega, by omega, by omega, hq⟩), (fun h => by cases h), ?_⟩
              exact (Ext.trans hX e19)
          · conv => whnf
            refine (spec_l03Digit _ _).mono ?_
            rintro _ w22 ⟨rfl, e21⟩
            conv => whnf
            refine IfB.no (by omega) ?_
            conv => whnf
            refine SemK.mul _ rfl (by omega) (by omega) ?_
            conv => whnf
            refine SemK.add _ rfl (by omega) (by omega) ?_
            conv => whnf
            refine SemK.add (((n - 1 + 1 : Nat) : Int)) (by omega) (by omega) (by omega) ?_
            conv => whnf
            refine ⟨n - 1 + 1, by omega, 10 * k + digitM (m - 2), true, true, rfl, by omega, (fun h => by cases h), (fun _ => ⟨by omega, by omega, by omega, hq⟩), (fun h => by cases h), ?_⟩
            exact (Ext.trans hX e21)
    · by_cases hc1 : x = 0 ∧ b = false
      · rw [if_pos hc1] at hft
        obtain ⟨hx0, hb0⟩ := hc1
        subst hb0
        conv => whnf
        refine IfB.yes (by omega) ?_
        conv => whnf
        refine SemK.index (by kernel_rfl) (h.ext hX) i rfl hx ?_
        intro b14 o14 ha14 hb14
        conv => whnf
        refine SemK.load0 (by kernel_rfl) hb14 rfl ?_
        conv => whnf
        refine SemK.sub (((n - 1 : Nat) : Int)) (by omega) (by omega) (by omega) ?_
        conv => whnf
        refine IfB.no (by omega) ?_
        conv => whnf
        refine IfB.yes (by omega) ?_
        conv => whnf
        refine SemK.add (((i + 1 : Nat) : Int)) (by omega) (by omega) (by omega) ?_
        conv => whnf
        exact ⟨i + 1, by omega, _, _, _, rfl, by omega, by simp_all, by simp [*], by omega, hX⟩
      · rw [if_neg hc1] at hft
        by_cases hc2 : digitM x < 0
        · rw [if_pos hc2] at hft
          have hz0 : numInM xs = (0, false) := by
            rw [hrm]
            refine numInM_bad (fold_none (i := i + 1) ?_)
            rw [hrm, List.take_append_of_le_length (by omega)] at hft
            exact hft
          cases b
          · have hx0 : ¬ x = 0 := fun e => hc1 ⟨e, rfl⟩
            conv => whnf
            refine IfB.yes (by omega) ?_
            conv => whnf
            refine SemK.index (by kernel_rfl) (h.ext hX) i rfl hx ?_
            intro b14 o14 ha14 hb14
            conv => whnf
            refine SemK.load0 (by kernel_rfl) hb14 rfl ?_
            conv => whnf
            refine SemK.sub (((n - 1 : Nat) : Int)) (by omega) (by omega) (by omega) ?_
            conv => whnf
            refine IfB.no (by omega) ?_
            conv => whnf
            refine IfB.no (by omega) ?_
            conv => whnf
            refine (spec_l03Digit _ _).mono ?_
            rintro _ w16 ⟨rfl, e15⟩
            conv => whnf
            refine IfB.yes (by omega) ?_
            conv => whnf
            exact ⟨by simp_all, (Ext.trans hX e15)⟩
          · conv => whnf
            refine IfB.yes (by omega) ?_
            conv => whnf
            refine SemK.index (by kernel_rfl) (h.ext hX) i rfl hx ?_
            intro b14 o14 ha14 hb14
            conv => whnf
            refine SemK.load0 (by kernel_rfl) hb14 rfl ?_
            conv => whnf
            refine SemK.sub (((n - 1 : Nat) : Int)) (by omega) (by omega) (by omega) ?_
            conv => whnf
            refine IfB.no (by omega) ?_
            conv => whnf
            with_reducible refine IfB.dec (fun h15 => ?_) (fun h15 => ?_)
            · conv => whnf
              refine (spec_l03Digit _ _).mono ?_
              rintro _ w17 ⟨rfl, e16⟩
              conv => whnf
              refine IfB.yes (by omega) ?_
              conv => whnf
              exact ⟨by simp_all, (Ext.trans hX e16)⟩
            · conv => whnf
              refine (spec_l03Digit _ _).mono ?_
              rintro _ w19 ⟨rfl, e18⟩
              conv => whnf
              refine IfB.yes (by omega) ?_
              conv => whnf
              exact ⟨by simp_all, (Ext.trans hX e18)⟩
        · rw [if_neg hc2] at hft
          cases b
          · have hx0 : ¬ x = 0 := fun e => hc1 ⟨e, rfl⟩
            conv => whnf
            refine IfB.yes (by omega) ?_
            conv => whnf
            refine SemK.index (by kernel_rfl) (h.ext hX) i rfl hx ?_
            intro b14 o14 ha14 hb14
            conv => whnf
            refine SemK.load0 (by kernel_rfl) hb14 rfl ?_
            conv => whnf
            refine SemK.sub (((n - 1 : Nat) : Int)) (by omega) (by omega) (by omega) ?_
            conv => whnf
            refine IfB.no (by omega) ?_
            conv => whnf
            refine IfB.no (by omega) ?_
            conv => whnf
            refine (spec_l03Digit _ _).mono ?_
            rintro _ w16 ⟨rfl, e15⟩
            conv => whnf
            refine IfB.no (by omega) ?_
            conv => whnf
            refine SemK.mul _ rfl (by omega) (by omega) ?_
            conv => whnf
            refine SemK.add _ rfl (by omega) (by omega) ?_
            conv => whnf
            refine SemK.add (((i + 1 : Nat) : Int)) (by omega) (by omega) (by omega) ?_
            conv => whnf
            exact ⟨i + 1, by omega, _, _, _, rfl, by omega, by simp_all, by simp [*], by omega, (Ext.trans hX e15)⟩
          · conv => whnf
            refine IfB.yes (by omega) ?_
            conv => whnf
            refine SemK.index (by kernel_rfl) (h.ext hX) i rfl hx ?_
            intro b14 o14 ha14 hb14
            conv => whnf
            refine SemK.load0 (by kernel_rfl) hb14 rfl ?_
            conv => whnf
            refine SemK.sub (((n - 1 : Nat) : Int)) (by omega) (by omega) (by omega) ?_
            conv => whnf
            refine IfB.no (by omega) ?_
            conv => whnf
            with_reducible refine IfB.dec (fun h15 => ?_) (fun h15 => ?_)
            · conv => whnf
              refine (spec_l03Digit _ _).mono ?_
              rintro _ w17 ⟨rfl, e16⟩
              conv => whnf
              refine IfB.no (by omega) ?_
              conv => whnf
              refine SemK.mul _ rfl (by omega) (by omega) ?_
              conv => whnf
              refine SemK.add _ rfl (by omega) (by omega) ?_
              conv => whnf
              refine SemK.add (((i + 1 : Nat) : Int)) (by omega) (by omega) (by omega) ?_
              conv => whnf
              exact ⟨i + 1, by omega, _, _, _, rfl, by omega, by simp_all, by simp [*], by omega, (Ext.trans hX e16)⟩
            · conv => whnf
              refine (spec_l03Digit _ _).mono ?_
              rintro _ w19 ⟨rfl, e18⟩
              conv => whnf
              refine IfB.no (by omega) ?_
              conv => whnf
              refine SemK.mul _ rfl (by omega) (by omega) ?_
              conv => whnf
              refine SemK.add _ rfl (by omega) (by omega) ?_
              conv => whnf
              refine SemK.add (((i + 1 : Nat) : Int)) (by omega) (by omega) (by omega) ?_
              conv => whnf
              exact ⟨i + 1, by omega, _, _, _, rfl, by omega, by simp_all, by simp [*], by omega, (Ext.trans hX e18)⟩
  · have hie : i = n := by omega
    cases mi
    · have hfold := hI1 rfl
      have hz2 := hI3 rfl hie
      rw [List.take_of_length_le (by omega), hrm] at hfold
      have hz0 := numInM_plain hz2 hfold
      rw [← hrm] at hz0
      conv => whnf
      refine IfB.no (by omega) ?_
      conv => whnf
      exact ⟨by simp_all, hX⟩
    · obtain ⟨_, hk0, hk1, hz0⟩ := hI2 rfl
      by_cases hkz : k = 0
      · rw [if_pos hkz] at hz0
        subst hkz
        conv => whnf
        refine IfB.no (by omega) ?_
        conv => whnf
        refine SemK.neg 0 rfl (by omega) (by omega) ?_
        conv => whnf
        exact ⟨by simp_all, hX⟩
      · rw [if_neg hkz] at hz0
        conv => whnf
        refine IfB.no (by omega) ?_
        conv => whnf
        refine SemK.neg (-k) rfl (by omega) (by omega) ?_
        conv => whnf
        exact ⟨by simp_all, hX⟩
end Go.Proofs.YtfgbijddjoojbaaGreat
