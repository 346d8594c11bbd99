/- Contracts of functions of the given program, of the reference and of the laws: each says what a call returns, for all arguments that meet the premises that the theorem itself names. -/
import Derived.Test.YtfgbijddjoojbaaGreatCardN
import Derived.Test.YtfgbijddjoojbaaGreatBasics
import Derived.Test.YtfgbijddjoojbaaGreatVcApp
import Derived.Test.YtfgbijddjoojbaaGreatKeysM
namespace Go.Proofs.YtfgbijddjoojbaaGreat
open Go Go.RowKit Go.Vc Go.M
theorem spec_l09Has {w : World} {a : Option Addr} {n c : Nat} {xs : List ByteArray} (h : Arr eS 1 w a n xs) (t : ByteArray) : Does Tryz.prog 51 [.slice a n c, .string t] w (fun v w' => v = .bool (xs.any fun x => decide (x = t)) ∧ Ext w w') := by
  have hn := h.len
  have hm := h.le
  refine Does.of_vc tabok Tryz.func51 rfl rfl rfl (by kernel_rfl) ?_; conv => whnf
  refine LoopK.rule [0, 1, 5] (fun (k : Nat) vs w' => vs = [.slice a n c, .string t, .int .i64 k] ∧ k ≤ n ∧ (∀ i x, i < k → xs[i]? = some x → ¬ x = t) ∧ Ext w w') (fun k => n - k) tab tabok (by kernel_rfl) 0 ⟨rfl, by omega, fun i x hi => by omega, Ext.refl _⟩ ?_
  rintro k g _ w3 ⟨rfl, hk, hall, hX⟩
  rcases Nat.lt_or_ge k n with hkn | hkn
  · obtain ⟨x, hx⟩ := get_of_lt (l := xs) (k := k) (by omega)
    by_cases hxt : x = t
    · have hin : (xs.any fun x => decide (x = t)) = true := List.any_eq_true.2 ⟨x, List.mem_of_getElem? hx, decide_eq_true hxt⟩
      rw [hin]
      conv => whnf
      refine IfB.yes (by omega) ?_
      conv => whnf
      refine SemK.index (by kernel_rfl) (h.ext hX) k rfl hx ?_
      intro b5 o5 ha5 hb5
      conv => whnf
      refine SemK.load0 (by kernel_rfl) hb5 rfl ?_
      conv => whnf
      refine IfB.yes (by omega) ?_
      conv => whnf
      exact ⟨rfl, hX⟩
    · have hnext : ∀ i y, i < k + 1 → xs[i]? = some y → ¬ y = t := fun i y hi hy => by
        by_cases e : i = k
        · subst e; rw [hx] at hy; cases hy; exact hxt
        · exact hall i y (by omega) hy
      conv => whnf
      refine IfB.yes (by omega) ?_
      conv => whnf
      refine SemK.index (by kernel_rfl) (h.ext hX) k rfl hx ?_
      intro b5 o5 ha5 hb5
      conv => whnf
      refine SemK.load0 (by kernel_rfl) hb5 rfl ?_
      conv => whnf
      refine IfB.no (by omega) ?_
      conv => whnf
      refine SemK.add (((k + 1 : Nat) : Int)) (by omega) (by omega) (by omega) ?_
      conv => whnf
      exact ⟨k + 1, by omega, rfl, by omega, hnext, hX⟩
  · have hno : (xs.any fun x => decide (x = t)) = false := by
      rw [List.any_eq_false]
      intro y hy
      obtain ⟨i, hi⟩ := List.mem_iff_getElem?.1 hy
      have := hall i y (by have := (List.getElem?_eq_some_iff.1 hi).1; omega) hi
      simpa using this
    rw [hno]
    conv => whnf
    refine IfB.no (by omega) ?_
    conv => whnf
    exact ⟨rfl, hX⟩
theorem lib_IndexStr {w : World} {a : Option Addr} {n c : Nat} {xs : List ByteArray} (h : Arr eS 1 w a n xs) (t : ByteArray) : Does Tryz.prog 90 [.slice a n c, .string t] w (fun v w' => ∃ r : Int, v = .int .i64 r ∧ decide (0 ≤ r) = (xs.any fun x => decide (x = t)) ∧ -1 ≤ r ∧ Ext w w') := by
  have hn := h.len
  have hm := h.le
  refine Does.of_vc tabok Tryz.func90 rfl rfl rfl (by kernel_rfl) ?_; conv => whnf
  refine LoopK.rule [0, 1, 7, 8] (fun (k : Nat) vs w' => vs = [.slice a n c, .string t, .int .i64 n, .int .i64 k] ∧ k ≤ n ∧ (∀ i x, i < k → xs[i]? = some x → ¬ x = t) ∧ Ext w w') (fun k => n - k) tab tabok (by kernel_rfl) 0 ⟨rfl, by omega, fun i x hi => by omega, Ext.refl _⟩ ?_
  rintro k g _ w3 ⟨rfl, hk, hall, hX⟩
  rcases Nat.lt_or_ge k n with hkn | hkn
  · obtain ⟨x, hx⟩ := get_of_lt (l := xs) (k := k) (by omega)
    by_cases hxt : x = t
    · have hin : (xs.any fun x => decide (x = t)) = true := List.any_eq_true.2 ⟨x, List.mem_of_getElem? hx, decide_eq_true hxt⟩
      rw [hin]
      subst hxt
      conv => whnf
      refine IfB.yes (by omega) ?_
      conv => whnf
      refine SemK.index (by kernel_rfl) (h.ext hX) k rfl hx ?_
      intro b5 o5 ha5 hb5
      conv => whnf
      refine SemK.load0 (by kernel_rfl) hb5 rfl ?_
      conv => whnf
      refine IfB.yes rfl ?_
      conv => whnf
      exact ⟨_, rfl, rfl, by omega, hX⟩
    · have hnext : ∀ i y, i < k + 1 → xs[i]? = some y → ¬ y = t := fun i y hi hy => by
        by_cases e : i = k
        · subst e; rw [hx] at hy; cases hy; exact hxt
        · exact hall i y (by omega) hy
      have hxt2 : ¬ t = x := fun e => hxt e.symm
      conv => whnf
      refine IfB.yes (by omega) ?_
      conv => whnf
      refine SemK.index (by kernel_rfl) (h.ext hX) k rfl hx ?_
      intro b5 o5 ha5 hb5
      conv => whnf
      refine SemK.load0 (by kernel_rfl) hb5 rfl ?_
      conv => whnf
      refine IfB.no (by omega) ?_
      conv => whnf
      refine SemK.add (((k + 1 : Nat) : Int)) (by omega) (by omega) (by omega) ?_
      conv => whnf
      exact ⟨k + 1, by omega, rfl, by omega, hnext, hX⟩
  · have hno : (xs.any fun x => decide (x = t)) = false := by
      rw [List.any_eq_false]
      intro y hy
      obtain ⟨i, hi⟩ := List.mem_iff_getElem?.1 hy
      have := hall i y (by have := (List.getElem?_eq_some_iff.1 hi).1; omega) hi
      simpa using this
    rw [hno]
    conv => whnf
    refine IfB.no (by omega) ?_
    conv => whnf
    exact ⟨_, rfl, rfl, by omega, hX⟩
theorem lib_ContainsStr {w : World} {a : Option Addr} {n c : Nat} {xs : List ByteArray} (h : Arr eS 1 w a n xs) (t : ByteArray) : Does Tryz.prog 49 [.slice a n c, .string t] w (fun v w' => v = .bool (xs.any fun x => decide (x = t)) ∧ Ext w w') := by
  refine Does.of_vc tabok Tryz.func49 rfl rfl rfl (by kernel_rfl) ?_; conv => whnf
  refine (lib_IndexStr h t).mono ?_
  rintro _ w2 ⟨r, rfl, hr, hr1, e2⟩
  conv => whnf
  exact ⟨by simp only [*], e2⟩
end Go.Proofs.YtfgbijddjoojbaaGreat
namespace Go.M
open Go Go.Vc
def chars : ByteArray := bs charL
theorem chars_size : chars.size = 40 := rfl
theorem chars_get {k : Nat} (h : k < 40) : chars.data.toList[k]? = some (charAt k) := charL_get h
theorem orC {a : Int} {c o : Nat} (ha : a = 1 ∧ 65 ≤ c ∧ c ≤ 73 ∧ o = 64 ∨ a = 2 ∧ 74 ≤ c ∧ c ≤ 82 ∧ o = 73 ∨ a = 4 ∧ 83 ≤ c ∧ c ≤ 90 ∧ o = 81) : orV .i64 a (bitM ((c : Int) - o)) = a + bitM ((c : Int) - o) := by
  rcases ha with ⟨rfl, h1, h2, rfl⟩ | ⟨rfl, h1, h2, rfl⟩ | ⟨rfl, h1, h2, rfl⟩
  · obtain ⟨k, rfl⟩ : ∃ k : Nat, c = 65 + k := ⟨c - 65, by omega⟩
    have key : ∀ n : Fin 9, orV .i64 1 (bitM (((65 + n.val : Nat) : Int) - (64 : Nat))) = 1 + bitM (((65 + n.val : Nat) : Int) - (64 : Nat)) := by decide +kernel
    exact key ⟨k, by omega⟩
  · obtain ⟨k, rfl⟩ : ∃ k : Nat, c = 74 + k := ⟨c - 74, by omega⟩
    have key : ∀ n : Fin 9, orV .i64 2 (bitM (((74 + n.val : Nat) : Int) - (73 : Nat))) = 2 + bitM (((74 + n.val : Nat) : Int) - (73 : Nat)) := by decide +kernel
    exact key ⟨k, by omega⟩
  · obtain ⟨k, rfl⟩ : ∃ k : Nat, c = 83 + k := ⟨c - 83, by omega⟩
    have key : ∀ n : Fin 8, orV .i64 4 (bitM (((83 + n.val : Nat) : Int) - (81 : Nat))) = 4 + bitM (((83 + n.val : Nat) : Int) - (81 : Nat)) := by decide +kernel
    exact key ⟨k, by omega⟩
theorem codeC_dig {c : Nat} (h : 48 ≤ c ∧ c ≤ 57) : codeC c = bitM ((c : Int) - 48) := by
  unfold codeC
  rw [if_neg (by omega), if_neg (by omega), if_neg (by omega), if_neg (by omega), if_pos h]
theorem codeC_A {c : Nat} (h : 65 ≤ c ∧ c ≤ 73) : codeC c = 1 + bitM ((c : Int) - 64) := by
  unfold codeC
  rw [if_neg (by omega), if_neg (by omega), if_neg (by omega), if_neg (by omega), if_neg (by omega), if_pos h]
theorem codeC_J {c : Nat} (h : 74 ≤ c ∧ c ≤ 82) : codeC c = 2 + bitM ((c : Int) - 73) := by
  unfold codeC
  rw [if_neg (by omega), if_neg (by omega), if_neg (by omega), if_neg (by omega), if_neg (by omega), if_neg (by omega), if_pos h]
theorem codeC_S {c : Nat} (h : 83 ≤ c ∧ c ≤ 90) : codeC c = 4 + bitM ((c : Int) - 81) := by
  unfold codeC
  rw [if_neg (by omega), if_neg (by omega), if_neg (by omega), if_neg (by omega), if_neg (by omega), if_neg (by omega), if_neg (by omega), if_pos h]
theorem char_kind {k : Nat} (h : k < 40) : (charAt k).toNat = 32 ∨ (charAt k).toNat = 38 ∨ (charAt k).toNat = 45 ∨ (charAt k).toNat = 47 ∨ (48 ≤ (charAt k).toNat ∧ (charAt k).toNat ≤ 57) ∨ (65 ≤ (charAt k).toNat ∧ (charAt k).toNat ≤ 73) ∨ (74 ≤ (charAt k).toNat ∧ (charAt k).toNat ≤ 82) ∨ (83 ≤ (charAt k).toNat ∧ (charAt k).toNat ≤ 90) := by
  have key : ∀ n : Fin 40, (charAt n.val).toNat = 32 ∨ (charAt n.val).toNat = 38 ∨ (charAt n.val).toNat = 45 ∨ (charAt n.val).toNat = 47 ∨ (48 ≤ (charAt n.val).toNat ∧ (charAt n.val).toNat ≤ 57) ∨ (65 ≤ (charAt n.val).toNat ∧ (charAt n.val).toNat ≤ 73) ∨ (74 ≤ (charAt n.val).toNat ∧ (charAt n.val).toNat ≤ 82) ∨ (83 ≤ (charAt n.val).toNat ∧ (charAt n.val).toNat ≤ 90) := by decide +kernel
  exact key ⟨k, h⟩
/-- the kinds of bytes that are characters -/
def CharK (c : Nat) : Prop := c = 32 ∨ c = 38 ∨ c = 45 ∨ c = 47 ∨ (48 ≤ c ∧ c ≤ 57) ∨ (65 ≤ c ∧ c ≤ 73) ∨ (74 ≤ c ∧ c ≤ 82) ∨ (83 ≤ c ∧ c ≤ 90)
end Go.M
namespace Go.Proofs.YtfgbijddjoojbaaGreat
open Go Go.RowKit Go.Vc Go.M
theorem impl_CodeOf {c : Nat} (hc : CharK c) (w : World) : Does Tryz.prog 157 [.int .u8 c] w (fun v w' => v = .tuple #[.int .i64 (codeC c), .bool true] ∧ Ext w w') := by
  have h12 : bitM 12 = 1 := bitM_12 rfl
  have h11 : bitM 11 = 2 := bitM_11 rfl
  have h0 : bitM 0 = 4 := rfl
  rcases hc with rfl | rfl | rfl | rfl | h | h | h | h
  · refine Does.of_vc tabok Tryz.func157 rfl rfl rfl (by kernel_rfl) ?_; conv => whnf
    exact ⟨rfl, Ext.refl _⟩
  · refine Does.of_vc tabok Tryz.func157 rfl rfl rfl (by kernel_rfl) ?_; conv => whnf
    refine (impl_bitOf _ _).mono ?_
    rintro _ w14 ⟨rfl, e13⟩
    conv => whnf
    exact ⟨rfl, e13⟩
  · refine Does.of_vc tabok Tryz.func157 rfl rfl rfl (by kernel_rfl) ?_; conv => whnf
    refine (impl_bitOf _ _).mono ?_
    rintro _ w14 ⟨rfl, e13⟩
    conv => whnf
    exact ⟨rfl, e13⟩
  · refine Does.of_vc tabok Tryz.func157 rfl rfl rfl (by kernel_rfl) ?_; conv => whnf
    refine (impl_isDigit _ _).mono ?_
    rintro _ _ ⟨rfl, rfl⟩
    conv => whnf
    refine (impl_bitOf _ _).mono ?_
    rintro _ w15 ⟨rfl, e14⟩
    conv => whnf
    refine (impl_bitOf _ _).mono ?_
    rintro _ w17 ⟨rfl, e16⟩
    conv => whnf
    refine SemK.or ?_
    conv => whnf
    exact ⟨rfl, (Ext.trans e14 e16)⟩
  · have hd : digitN c = true := by simp [digitN]; omega
    have hcs : (c : Int) - 48 = ((c - 48 : Nat) : Int) := by omega
    rw [codeC_dig h, hcs]
    refine Does.of_vc tabok Tryz.func157 rfl rfl rfl (by kernel_rfl) ?_; conv => whnf
    refine IfB.no (by omega) ?_
    conv => whnf
    refine IfB.no (by omega) ?_
    conv => whnf
    refine IfB.no (by omega) ?_
    conv => whnf
    refine (impl_isDigit _ _).mono ?_
    rintro _ _ ⟨rfl, rfl⟩
    conv => whnf
    refine IfB.eqt (by simp [*]; done) ?_
    conv => whnf
    refine SemK.wsub ?_
    conv => whnf
    rw [u8_wrap (by omega) (by omega), show (c : Int) - 48 = ((c - 48 : Nat) : Int) from by omega]
    refine SemK.conv (by kernel_rfl) (by kernel_rfl) (i64_wrap (by omega) (by omega)) ?_
    conv => whnf
    refine (impl_bitOf _ _).mono ?_
    rintro _ w14 ⟨rfl, e13⟩
    conv => whnf
    exact ⟨rfl, e13⟩
  · have hd : digitN c = false := by simp [digitN]; omega
    have ho := orC (a := 1) (c := c) (o := 64) (.inl ⟨rfl, h.1, h.2, rfl⟩)
    have hcs : (c : Int) - 64 = ((c - 65 + 1 : Nat) : Int) := by omega
    have hcs2 : (c : Int) - (64 : Nat) = ((c - 65 + 1 : Nat) : Int) := by omega
    rw [codeC_A h, hcs]
    rw [hcs2] at ho
    refine Does.of_vc tabok Tryz.func157 rfl rfl rfl (by kernel_rfl) ?_; conv => whnf
    refine IfB.no (by omega) ?_
    conv => whnf
    refine IfB.no (by omega) ?_
    conv => whnf
    refine IfB.no (by omega) ?_
    conv => whnf
    refine (impl_isDigit _ _).mono ?_
    rintro _ _ ⟨rfl, rfl⟩
    conv => whnf
    refine IfB.eqf (by simp [*]; done) ?_
    conv => whnf
    refine IfB.yes (by omega) ?_
    conv => whnf
    refine IfB.yes (by omega) ?_
    conv => whnf
    refine (impl_bitOf _ _).mono ?_
    rintro _ w15 ⟨rfl, e14⟩
    conv => whnf
    refine SemK.wsub ?_
    conv => whnf
    rw [u8_wrap (by omega) (by omega), show (c : Int) - 65 = ((c - 65 : Nat) : Int) from by omega]
    refine SemK.conv (by kernel_rfl) (by kernel_rfl) (i64_wrap (by omega) (by omega)) ?_
    conv => whnf
    refine SemK.add (((c - 65 + 1 : Nat) : Int)) (by omega) (by omega) (by omega) ?_
    conv => whnf
    refine (impl_bitOf _ _).mono ?_
    rintro _ w17 ⟨rfl, e16⟩
    conv => whnf
    refine SemK.or ?_
    conv => whnf
    exact ⟨by simp only [*], (Ext.trans e14 e16)⟩
  · have hd : digitN c = false := by simp [digitN]; omega
    have ho := orC (a := 2) (c := c) (o := 73) (.inr (.inl ⟨rfl, h.1, h.2, rfl⟩))
    have hcs : (c : Int) - 73 = ((c - 74 + 1 : Nat) : Int) := by omega
    have hcs2 : (c : Int) - (73 : Nat) = ((c - 74 + 1 : Nat) : Int) := by omega
    rw [codeC_J h, hcs]
    rw [hcs2] at ho
    refine Does.of_vc tabok Tryz.func157 rfl rfl rfl (by kernel_rfl) ?_; conv => whnf
    refine IfB.no (by omega) ?_
    conv => whnf
    refine IfB.no (by omega) ?_
    conv => whnf
    refine IfB.no (by omega) ?_
    conv => whnf
    refine (impl_isDigit _ _).mono ?_
    rintro _ _ ⟨rfl, rfl⟩
    conv => whnf
    refine IfB.eqf (by simp [*]; done) ?_
    conv => whnf
    refine IfB.yes (by omega) ?_
    conv => whnf
    refine IfB.no (by omega) ?_
    conv => whnf
    refine IfB.yes (by omega) ?_
    conv => whnf
    refine IfB.yes (by omega) ?_
    conv => whnf
    refine (impl_bitOf _ _).mono ?_
    rintro _ w15 ⟨rfl, e14⟩
    conv => whnf
    refine SemK.wsub ?_
    conv => whnf
    rw [u8_wrap (by omega) (by omega), show (c : Int) - 74 = ((c - 74 : Nat) : Int) from by omega]
    refine SemK.conv (by kernel_rfl) (by kernel_rfl) (i64_wrap (by omega) (by omega)) ?_
    conv => whnf
    refine SemK.add (((c - 74 + 1 : Nat) : Int)) (by omega) (by omega) (by omega) ?_
    conv => whnf
    refine (impl_bitOf _ _).mono ?_
    rintro _ w17 ⟨rfl, e16⟩
    conv => whnf
    refine SemK.or ?_
    conv => whnf
    exact ⟨by simp only [*], (Ext.trans e14 e16)⟩
  · have hd : digitN c = false := by simp [digitN]; omega
    have ho := orC (a := 4) (c := c) (o := 81) (.inr (.inr ⟨rfl, h.1, h.2, rfl⟩))
    have hcs : (c : Int) - 81 = ((c - 83 + 2 : Nat) : Int) := by omega
    have hcs2 : (c : Int) - (81 : Nat) = ((c - 83 + 2 : Nat) : Int) := by omega
    rw [codeC_S h, hcs]
    rw [hcs2] at ho
    refine Does.of_vc tabok Tryz.func157 rfl rfl rfl (by kernel_rfl) ?_; conv => whnf
    refine IfB.no (by omega) ?_
    conv => whnf
    refine IfB.no (by omega) ?_
    conv => whnf
    refine IfB.no (by omega) ?_
    conv => whnf
    refine (impl_isDigit _ _).mono ?_
    rintro _ _ ⟨rfl, rfl⟩
    conv => whnf
    refine IfB.eqf (by simp [*]; done) ?_
    conv => whnf
    refine IfB.yes (by omega) ?_
    conv => whnf
    refine IfB.no (by omega) ?_
    conv => whnf
    refine IfB.yes (by omega) ?_
    conv => whnf
    refine IfB.no (by omega) ?_
    conv => whnf
    refine IfB.no (by omega) ?_
    conv => whnf
    refine IfB.yes (by omega) ?_
    conv => whnf
    refine IfB.yes (by omega) ?_
    conv => whnf
    refine (impl_bitOf _ _).mono ?_
    rintro _ w15 ⟨rfl, e14⟩
    conv => whnf
    refine SemK.wsub ?_
    conv => whnf
    rw [u8_wrap (by omega) (by omega), show (c : Int) - 83 = ((c - 83 : Nat) : Int) from by omega]
    refine SemK.conv (by kernel_rfl) (by kernel_rfl) (i64_wrap (by omega) (by omega)) ?_
    conv => whnf
    refine SemK.add (((c - 83 + 2 : Nat) : Int)) (by omega) (by omega) (by omega) ?_
    conv => whnf
    refine (impl_bitOf _ _).mono ?_
    rintro _ w17 ⟨rfl, e16⟩
    conv => whnf
    refine SemK.or ?_
    conv => whnf
    exact ⟨by simp only [*], (Ext.trans e14 e16)⟩
theorem impl_codeOf {c : Nat} (hc : CharK c) (w : World) : Does Tryz.prog 155 [.int .u8 c] w (fun v w' => v = .int .i64 (codeC c) ∧ Ext w w') := by
  refine Does.of_vc tabok Tryz.func155 rfl rfl rfl (by kernel_rfl) ?_; conv => whnf
  refine (impl_CodeOf hc _).mono ?_
  rintro _ w2 ⟨rfl, e1⟩
  conv => whnf
  exact ⟨rfl, e1⟩
theorem impl_rankOf (m : Int) (w : World) : Does Tryz.prog 147 [.int .i64 m] w (fun v w' => v = .int .i64 (rankM m) ∧ Ext w w') := by
  refine Does.of_vc tabok Tryz.func147 rfl rfl rfl (by kernel_rfl) ?_; conv => whnf
  refine LoopK.rule [0, 3] (fun (k : Nat) vs w' => vs = [.int .i64 m, .int .i64 k] ∧ k ≤ 40 ∧ (∀ j : Nat, j < k → codeAt j ≠ m) ∧ Ext w w') (fun k => 40 - k) tab tabok (by kernel_rfl) 0 ⟨rfl, by omega, fun j hj => by omega, Ext.refl _⟩ ?_
  rintro k g _ w3 ⟨rfl, hk, hall, hX⟩
  rcases Nat.lt_or_ge k 40 with hkn | hkn
  · have hx : (ByteArray.mk #[32, 38, 65, 66, 67, 68, 69, 70, 71, 72, 73, 45, 74, 75, 76, 77, 78, 79, 80, 81, 82, 47, 83, 84, 85, 86, 87, 88, 89, 90, 48, 49, 50, 51, 52, 53, 54, 55, 56, 57]).data.toList[k]? = some (charAt k) := charL_get hkn
    have hck := char_kind hkn
    by_cases hm : codeC (charAt k).toNat = m
    · have hr := rankM_is hkn hall hm
      rw [hr]
      conv => whnf
      refine IfB.yes (by omega) ?_
      conv => whnf
      refine SemK.char (by kernel_rfl) k rfl hx ?_
      conv => whnf
      refine (impl_codeOf (by assumption) _).mono ?_
      rintro _ w5 ⟨rfl, e4⟩
      conv => whnf
      refine IfB.yes (by omega) ?_
      conv => whnf
      exact ⟨rfl, (Ext.trans hX e4)⟩
    · have hnext : ∀ j : Nat, j < k + 1 → codeAt j ≠ m := fun j hj => by
        by_cases e : j = k
        · subst e; exact hm
        · exact hall j (by omega)
      conv => whnf
      refine IfB.yes (by omega) ?_
      conv => whnf
      refine SemK.char (by kernel_rfl) k rfl hx ?_
      conv => whnf
      refine (impl_codeOf (by assumption) _).mono ?_
      rintro _ w5 ⟨rfl, e4⟩
      conv => whnf
      refine IfB.no (by omega) ?_
      conv => whnf
      refine SemK.add (((k + 1 : Nat) : Int)) (by omega) (by omega) (by omega) ?_
      conv => whnf
      exact ⟨k + 1, by omega, rfl, by omega, by omega, (Ext.trans hX e4)⟩
  · have hr := rankM_none (m := m) (fun j hj => hall j (by omega))
    rw [hr]
    conv => whnf
    refine IfB.no (by omega) ?_
    conv => whnf
    exact ⟨rfl, hX⟩
theorem spec_l03Code {c : Nat} (hc : CharK c) (w : World) : Does Tryz.prog 149 [.int .u8 c] w (fun v w' => v = .int .i64 (codeC c) ∧ Ext w w') := by
  have h1 : bitM 1 = 8 := rfl
  rcases hc with rfl | rfl | rfl | rfl | h | h | h | h
  · refine Does.of_vc tabok Tryz.func149 rfl rfl rfl (by kernel_rfl) ?_; conv => whnf
    refine SemK.conv (by kernel_rfl) (by kernel_rfl) (i64_wrap (by omega) (by omega)) ?_
    conv => whnf
    exact ⟨rfl, Ext.refl _⟩
  · refine Does.of_vc tabok Tryz.func149 rfl rfl rfl (by kernel_rfl) ?_; conv => whnf
    refine SemK.conv (by kernel_rfl) (by kernel_rfl) (i64_wrap (by omega) (by omega)) ?_
    conv => whnf
    exact ⟨rfl, Ext.refl _⟩
  · refine Does.of_vc tabok Tryz.func149 rfl rfl rfl (by kernel_rfl) ?_; conv => whnf
    refine SemK.conv (by kernel_rfl) (by kernel_rfl) (i64_wrap (by omega) (by omega)) ?_
    conv => whnf
    exact ⟨rfl, Ext.refl _⟩
  · refine Does.of_vc tabok Tryz.func149 rfl rfl rfl (by kernel_rfl) ?_; conv => whnf
    refine SemK.conv (by kernel_rfl) (by kernel_rfl) (i64_wrap (by omega) (by omega)) ?_
    conv => whnf
    refine (spec_l02Bit _ _).mono ?_
    rintro _ w3 ⟨rfl, e2⟩
    conv => whnf
    refine SemK.or ?_
    conv => whnf
    exact ⟨rfl, e2⟩
  · have hd : digitN c = true := by simp [digitN]; omega
    have hcs : (c : Int) - 48 = ((c - 48 : Nat) : Int) := by omega
    rw [codeC_dig h, hcs]
    refine Does.of_vc tabok Tryz.func149 rfl rfl rfl (by kernel_rfl) ?_; conv => whnf
    refine SemK.conv (by kernel_rfl) (by kernel_rfl) (i64_wrap (by omega) (by omega)) ?_
    conv => whnf
    refine IfB.no (by omega) ?_
    conv => whnf
    refine IfB.no (by omega) ?_
    conv => whnf
    refine IfB.no (by omega) ?_
    conv => whnf
    refine IfB.no (by omega) ?_
    conv => whnf
    refine (spec_digit _ _).mono ?_
    rintro _ _ ⟨rfl, rfl⟩
    conv => whnf
    refine IfB.eqt (by simp [*]; done) ?_
    conv => whnf
    refine SemK.sub (((c - 48 : Nat) : Int)) (by omega) (by omega) (by omega) ?_
    conv => whnf
    refine (spec_l02Bit _ _).mono ?_
    rintro _ w4 ⟨rfl, e3⟩
    conv => whnf
    refine ⟨?_, e3⟩
    · rfl
  · have hd : digitN c = false := by simp [digitN]; omega
    have ho := orC (a := 1) (c := c) (o := 64) (.inl ⟨rfl, h.1, h.2, rfl⟩)
    have hcs : (c : Int) - 64 = ((c - 65 + 1 : Nat) : Int) := by omega
    have hcs2 : (c : Int) - (64 : Nat) = ((c - 65 + 1 : Nat) : Int) := by omega
    rw [codeC_A h, hcs]
    rw [hcs2] at ho
    refine Does.of_vc tabok Tryz.func149 rfl rfl rfl (by kernel_rfl) ?_; conv => whnf
    refine SemK.conv (by kernel_rfl) (by kernel_rfl) (i64_wrap (by omega) (by omega)) ?_
    conv => whnf
    refine IfB.no (by omega) ?_
    conv => whnf
    refine IfB.no (by omega) ?_
    conv => whnf
    refine IfB.no (by omega) ?_
    conv => whnf
    refine IfB.no (by omega) ?_
    conv => whnf
    refine (spec_digit _ _).mono ?_
    rintro _ _ ⟨rfl, rfl⟩
    conv => whnf
    refine IfB.eqf (by simp [*]; done) ?_
    conv => whnf
    refine IfB.yes (by omega) ?_
    conv => whnf
    refine IfB.yes (by omega) ?_
    conv => whnf
    refine SemK.sub (((c - 65 : Nat) : Int)) (by omega) (by omega) (by omega) ?_
    conv => whnf
    refine SemK.add (((c - 65 + 1 : Nat) : Int)) (by omega) (by omega) (by omega) ?_
    conv => whnf
    refine (spec_l02Bit _ _).mono ?_
    rintro _ w4 ⟨rfl, e3⟩
    conv => whnf
    refine SemK.or ?_
    conv => whnf
    refine ⟨?_, e3⟩
    · rw [ho]
  · have hd : digitN c = false := by simp [digitN]; omega
    have ho := orC (a := 2) (c := c) (o := 73) (.inr (.inl ⟨rfl, h.1, h.2, rfl⟩))
    have hcs : (c : Int) - 73 = ((c - 74 + 1 : Nat) : Int) := by omega
    have hcs2 : (c : Int) - (73 : Nat) = ((c - 74 + 1 : Nat) : Int) := by omega
    rw [codeC_J h, hcs]
    rw [hcs2] at ho
    refine Does.of_vc tabok Tryz.func149 rfl rfl rfl (by kernel_rfl) ?_; conv => whnf
    refine SemK.conv (by kernel_rfl) (by kernel_rfl) (i64_wrap (by omega) (by omega)) ?_
    conv => whnf
    refine IfB.no (by omega) ?_
    conv => whnf
    refine IfB.no (by omega) ?_
    conv => whnf
    refine IfB.no (by omega) ?_
    conv => whnf
    refine IfB.no (by omega) ?_
    conv => whnf
    refine (spec_digit _ _).mono ?_
    rintro _ _ ⟨rfl, rfl⟩
    conv => whnf
    refine IfB.eqf (by simp [*]; done) ?_
    conv => whnf
    refine IfB.yes (by omega) ?_
    conv => whnf
    refine IfB.no (by omega) ?_
    conv => whnf
    refine IfB.yes (by omega) ?_
    conv => whnf
    refine IfB.yes (by omega) ?_
    conv => whnf
    refine SemK.sub (((c - 74 : Nat) : Int)) (by omega) (by omega) (by omega) ?_
    conv => whnf
    refine SemK.add (((c - 74 + 1 : Nat) : Int)) (by omega) (by omega) (by omega) ?_
    conv => whnf
    refine (spec_l02Bit _ _).mono ?_
    rintro _ w4 ⟨rfl, e3⟩
    conv => whnf
    refine SemK.or ?_
    conv => whnf
    refine ⟨?_, e3⟩
    · rw [ho]
  · have hd : digitN c = false := by simp [digitN]; omega
    have ho := orC (a := 4) (c := c) (o := 81) (.inr (.inr ⟨rfl, h.1, h.2, rfl⟩))
    have hcs : (c : Int) - 81 = ((c - 83 + 2 : Nat) : Int) := by omega
    have hcs2 : (c : Int) - (81 : Nat) = ((c - 83 + 2 : Nat) : Int) := by omega
    rw [codeC_S h, hcs]
    rw [hcs2] at ho
    refine Does.of_vc tabok Tryz.func149 rfl rfl rfl (by kernel_rfl) ?_; conv => whnf
    refine SemK.conv (by kernel_rfl) (by kernel_rfl) (i64_wrap (by omega) (by omega)) ?_
    conv => whnf
    refine IfB.no (by omega) ?_
    conv => whnf
    refine IfB.no (by omega) ?_
    conv => whnf
    refine IfB.no (by omega) ?_
    conv => whnf
    refine IfB.no (by omega) ?_
    conv => whnf
    refine (spec_digit _ _).mono ?_
    rintro _ _ ⟨rfl, rfl⟩
    conv => whnf
    refine IfB.eqf (by simp [*]; done) ?_
    conv => whnf
    refine IfB.yes (by omega) ?_
    conv => whnf
    refine IfB.no (by omega) ?_
    conv => whnf
    refine IfB.yes (by omega) ?_
    conv => whnf
    refine IfB.no (by omega) ?_
    conv => whnf
    refine IfB.yes (by omega) ?_
    conv => whnf
    refine IfB.yes (by omega) ?_
    conv => whnf
    refine SemK.sub (((c - 83 : Nat) : Int)) (by omega) (by omega) (by omega) ?_
    conv => whnf
    refine SemK.add (((c - 83 + 2 : Nat) : Int)) (by omega) (by omega) (by omega) ?_
    conv => whnf
    refine (spec_l02Bit _ _).mono ?_
    rintro _ w4 ⟨rfl, e3⟩
    conv => whnf
    refine SemK.or ?_
    conv => whnf
    refine ⟨?_, e3⟩
    · rw [ho]
theorem spec_l03Order (w : World) : Does Tryz.prog 150 [] w (fun v w' => v = .string chars ∧ w = w') := by
  refine Does.of_vc tabok Tryz.func150 rfl rfl rfl (by kernel_rfl) ?_; conv => whnf
  conv => whnf
  exact ⟨rfl, rfl⟩
theorem spec_l03Char (m : Int) (w : World) : Does Tryz.prog 148 [.int .i64 m] w (fun v w' => ∃ x : UInt8, v = .tuple #[.int .u8 x.toNat, .bool (decide (0 ≤ rankM m))] ∧ (0 ≤ rankM m → x = charAt (rankM m).toNat) ∧ Ext w w') := by
  have hsz := chars_size
  refine Does.of_vc tabok Tryz.func148 rfl rfl rfl (by kernel_rfl) ?_; conv => whnf
  conv => whnf
  refine (spec_l03Order _).mono ?_
  rintro _ w2 ⟨rfl, rfl⟩
  conv => whnf
  refine LoopK.rule [0, 4, 5] (fun (k : Nat) vs w' => vs = [.int .i64 m, .string chars, .int .i64 k] ∧ k ≤ 40 ∧ (∀ j : Nat, j < k → codeAt j ≠ m) ∧ Ext w w') (fun k => 40 - k) tab tabok (by kernel_rfl) 0 ⟨rfl, by omega, fun j hj => by omega, Ext.refl _⟩ ?_
  rintro k g _ w3 ⟨rfl, hk, hall, hX⟩
  rcases Nat.lt_or_ge k 40 with hkn | hkn
  · have hx := chars_get hkn
    have hck := char_kind hkn
    by_cases hm : codeC (charAt k).toNat = m
    · have hr := rankM_is hkn hall hm
      rw [hr]
      conv => whnf
      refine IfB.yes (by omega) ?_
      conv => whnf
      refine SemK.char (by kernel_rfl) k rfl hx ?_
      conv => whnf
      refine (spec_l03Code (by assumption) _).mono ?_
      rintro _ w6 ⟨rfl, e5⟩
      conv => whnf
      refine IfB.yes (by omega) ?_
      conv => whnf
      refine SemK.char (by kernel_rfl) k rfl hx ?_
      conv => whnf
      exact ⟨_, rfl, by simp [*], (Ext.trans hX e5)⟩
    · have hnext : ∀ j : Nat, j < k + 1 → codeAt j ≠ m := fun j hj => by
        by_cases e : j = k
        · subst e; exact hm
        · exact hall j (by omega)
      conv => whnf
      refine IfB.yes (by omega) ?_
      conv => whnf
      refine SemK.char (by kernel_rfl) k rfl hx ?_
      conv => whnf
      refine (spec_l03Code (by assumption) _).mono ?_
      rintro _ w6 ⟨rfl, e5⟩
      conv => whnf
      refine IfB.no (by omega) ?_
      conv => whnf
      refine SemK.add (((k + 1 : Nat) : Int)) (by omega) (by omega) (by omega) ?_
      conv => whnf
      exact ⟨k + 1, by omega, rfl, by omega, by omega, (Ext.trans hX e5)⟩
  · have hr := rankM_none (m := m) (fun j hj => hall j (by omega))
    rw [hr]
    conv => whnf
    refine IfB.no (by omega) ?_
    conv => whnf
    -- ERR refine ⟨_, (by simp only [hr]; rfl), ?_, ?_⟩ :: `simp` made no progress
    exact ⟨0, rfl, fun h => by omega, hX⟩
end Go.Proofs.YtfgbijddjoojbaaGreat
namespace Go.M
open Go Go.Vc
def kbytes (r : List Int) : List UInt8 := r.map fun k => charAt k.toNat
theorem txt_bytes (r : List Int) : bs (kbytes r) = txt r := rfl
theorem kbytes_len (r : List Int) : (kbytes r).length = r.length := by simp [kbytes]
theorem kbytes_take {l : List Int} {k : Nat} {x : Int} (h : l[k]? = some x) : kbytes (ranks (l.take (k + 1))) = kbytes (ranks (l.take k)) ++ [charAt (rankM x).toNat] := by
  rw [List.take_add_one, h]
  simp [kbytes, ranks]
theorem txt_get {r : List Int} {k : Nat} {x : Int} (h : r[k]? = some x) : (txt r).data.toList[k]? = some (charAt x.toNat) := by
  unfold txt
  rw [bs_data, List.getElem?_map, h]
  rfl
end Go.M
namespace Go.Proofs.YtfgbijddjoojbaaGreat
open Go Go.RowKit Go.Vc Go.M
theorem spec_l03TextS {w : World} {a : Option Addr} {n c : Nat} {xs : List Int} (h : Arr eI 1 w a n xs) (hn2 : n ≤ 1000) :
    Does Tryz.prog 128 [.slice a n c] w (fun v w' => v = .tuple #[.string (if hasB xs = true then txt (ranks xs) else { data := #[] }), .bool (hasB xs)] ∧ Ext w w') := by
  have hn := h.len
  refine Does.of_vc tabok Tryz.func128 rfl rfl rfl (by kernel_rfl) ?_; conv => whnf
  refine SemK.buildSlice mk_22 (vs := []) (by rfl) (by rfl) (by simp [Value.cells]) (by decide) ?_
  intro b1 w1 g1 l1 e1 B1
  have G1 := Grow.new0 (enc := eB) eB_len B1 g1
  conv => whnf
  refine LoopK.rule [0, 4, 5] (fun (k : Nat) vs w' => ∃ a3 m3 c3, vs = [.slice a n c, .slice a3 m3 c3, .int .i64 k] ∧ k ≤ n ∧ (∀ i x, i < k → xs[i]? = some x → 0 ≤ rankM x) ∧ Grow eB 1 w.heap.size 5 w' a3 m3 c3 (kbytes (ranks (xs.take k))) ∧ Ext w w') (fun k => n - k) tab tabok (by kernel_rfl) 0 ⟨_, _, _, rfl, by omega, fun i x hi => by omega, G1, e1⟩ ?_
  rintro k g _ w' ⟨a3, m3, c3, rfl, hk, hall, G, hE⟩
  have hm := G.len
  rw [kbytes_len, ranks_len, List.length_take] at hm
  rcases Nat.lt_or_ge k n with hkn | hkn
  · obtain ⟨x, hx⟩ : ∃ x, xs[k]? = some x := get_of_lt (by omega)
    have hC := fun u => spec_l03Char x u
    rcases Int.lt_or_le (rankM x) 0 with hr | hr
    · have hbad := hasB_bad hx hr
      rw [hbad]
      have hdec : decide (0 ≤ rankM x) = false := decide_eq_false (by omega)
      rw [hdec] at hC
      conv => whnf
      refine IfB.yes (by omega) ?_
      conv => whnf
      refine SemK.index (by kernel_rfl) (h.ext hE) k rfl hx ?_
      intro b5 o5 ha5 hb5
      conv => whnf
      refine SemK.load0 (by kernel_rfl) hb5 rfl ?_
      conv => whnf
      refine (hC _).mono ?_
      rintro _ w9 ⟨x6, rfl, q7, e8⟩
      conv => whnf
      exact ⟨rfl, (Ext.trans hE e8)⟩
    · have hdec : decide (0 ≤ rankM x) = true := decide_eq_true hr
      rw [hdec] at hC
      have hC2 : ∀ u, Does Tryz.prog 148 [.int .i64 x] u (fun v w' => v = .tuple #[.int .u8 (charAt (rankM x).toNat).toNat, .bool true] ∧ Ext u w') := fun u => (hC u).mono (by
        rintro _ w2 ⟨y, rfl, hy, e⟩
        rw [hy hr]
        exact ⟨rfl, e⟩)
      clear hC
      have hct := kbytes_take hx
      have hnext : ∀ i y, i < k + 1 → xs[i]? = some y → 0 ≤ rankM y := fun i y hi hy => by
        by_cases e : i = k
        · subst e; rw [hx] at hy; cases hy; exact hr
        · exact hall i y (by omega) hy
      conv => whnf
      refine IfB.yes (by omega) ?_
      conv => whnf
      refine SemK.index (by kernel_rfl) (h.ext hE) k rfl hx ?_
      intro b5 o5 ha5 hb5
      conv => whnf
      refine SemK.load0 (by kernel_rfl) hb5 rfl ?_
      conv => whnf
      refine (hC2 _).mono ?_
      rintro _ w7 ⟨rfl, e6⟩
      conv => whnf
      refine SemK.buildSlice mk_22 (vs := [Value.int IntKind.u8 ↑(charAt (rankM x).toNat).toNat]) (by rfl) (by rfl) (by simp [Value.cells]) (by decide) ?_
      intro b8 w8 g8 l8 e8 B8
      have G8 := Grow.of_blk (n := 1) (enc := eB) (xs := [charAt (rankM x).toNat]) eB_len B8 g8 rfl (by decide)
      conv => whnf
      refine SemK.appendArr0 (enc := eB) mk_22 eB_len (G.ext (Ext.trans e6 e8)) (G8.own.arr eB_len) (by intro y _; simp [eB, cellish]) (by omega) (by omega) (Below.size (Ext.trans (Ext.trans hE e6) e8)) ?_
      intro a9 c9 w9 G9 m9 i9
      conv => whnf
      refine SemK.add (((k + 1 : Nat) : Int)) (by omega) (by omega) (by omega) ?_
      conv => whnf
      refine ⟨k + 1, by omega, _, _, _, rfl, by omega, by omega, ?_, (Ext.mod_trans (Ext.trans (Ext.trans hE e6) e8) m9 (blkIn_new G.new))⟩
      · rw [hct]; exact G9
  · have hgood : hasB xs = true := hasB_all (fun i x hi => hall i x (by omega))
    rw [hgood]
    rw [List.take_of_length_le (by omega)] at G
    conv => whnf
    refine IfB.no (by omega) ?_
    conv => whnf
    refine SemK.toStrG (by kernel_rfl) (by kernel_rfl) G ?_
    conv => whnf
    exact ⟨rfl, hE⟩
theorem spec_l03Text {w : World} {a : Option Addr} {n c : Nat} {xs : List Int} (h : Arr eI 1 w a n xs) (hn2 : n ≤ 1000) :
    Does Tryz.prog 128 [.slice a n c] w (fun v w' => ∃ s, v = .tuple #[.string s, .bool (hasB xs)] ∧ (hasB xs = true → s = txt (ranks xs)) ∧ Ext w w') := (spec_l03TextS h hn2).mono (by
  rintro _ w' ⟨rfl, e⟩
  exact ⟨_, rfl, fun h => if_pos h, e⟩)
theorem spec_l03Key {w : World} {b o : Nat} {d : Hd} {xs : List Int} (R : RCard w d xs) (hc : Cells w b o (eH d)) {f : TField} (hf : fieldB f xs.length = true) (hx20 : xs.length ≤ 20) :
    Does Tryz.prog 92 [.pointer (some ⟨b, o, none⟩), .agg ⟨f.enc⟩] w (fun v w' => ∃ s, v = .tuple #[.string s, .bool (hasB (partOf xs f))] ∧ (hasB (partOf xs f) = true → s = txt (ckey f xs)) ∧ Ext w w') := by
  have hb := fieldB_b hf
  have hT : ∀ u, Ext w u → ∀ a c, Arr eI 1 u a (f.to_.toNat - f.from_.toNat) (partOf xs f) → Does Tryz.prog 128 [.slice a (f.to_.toNat - f.from_.toNat) c] u (fun v w' => ∃ s, v = .tuple #[.string s, .bool (hasB (partOf xs f))] ∧ (hasB (partOf xs f) = true → s = txt (ckey f xs)) ∧ Ext u w') := fun u e a c h => spec_l03Text h (by omega)
  refine Does.of_vc tabok Tryz.func92 rfl rfl rfl (by kernel_rfl) ?_; conv => whnf
  refine SemK.box ?_
  intro b21 w21 g21 l21 e21 B21
  conv => whnf
  refine SemK.loadAgg (n := 2) (by kernel_rfl) B21.cells rfl ?_
  conv => whnf
  refine (spec_l02Part ⟨R.1.ext e21, R.2⟩ (hc.ext e21) hf).mono ?_
  rintro _ w27 ⟨a'22, c'23, rfl, A24, q25, e26⟩
  conv => whnf
  refine (hT _ (Ext.trans e21 e26) _ _ A24).mono ?_
  rintro _ w31 ⟨s28, rfl, q29, e30⟩
  conv => whnf
  exact ⟨_, rfl, by omega, (Ext.trans (Ext.trans e21 e26) e30)⟩
theorem spec_l24Keys {w : World} {a : Option Addr} {n c : Nat} {xs : List (List Int)} (h : ArrS RCard w a n xs) (f : TField) : Does Tryz.prog 50 [.slice a n c, .agg ⟨f.enc⟩] w (fun v w' => ∃ a' n' c', v = .tuple #[.slice a' n' c', .int .i64 (keysM xs f).2] ∧ NewAt w.heap.size a' ∧ Own eS w' a' n' 9 ((keysM xs f).1.map txt) ∧ Ext w w') := by
  have hn := h.len
  have hm := h.le
  have h' := h
  obtain ⟨hs, hV, hE⟩ := h'
  have hl := hV.len
  cases hz1 : deckB xs
  · rw [keys_deck hz1]
    refine Does.of_vc tabok Tryz.func50 rfl rfl rfl (by kernel_rfl) ?_; conv => whnf
    refine SemK.box ?_
    intro b2 w2 g2 l2 e2 B2
    conv => whnf
    refine (spec_l02Deck (h.ext e2)).mono ?_
    rintro _ w4 ⟨rfl, e3⟩
    conv => whnf
    refine IfB.eqt (by simp [*]; done) ?_
    conv => whnf
    exact ⟨_, _, _, rfl, NewAt.nil, Own.nil, (Ext.trans e2 e3)⟩
  · cases hz2 : fieldB f (widthOf xs)
    · rw [keys_field hz1 hz2]
      refine Does.of_vc tabok Tryz.func50 rfl rfl rfl (by kernel_rfl) ?_; conv => whnf
      refine SemK.box ?_
      intro b3 w3 g3 l3 e3 B3
      conv => whnf
      refine (spec_l02Deck (h.ext e3)).mono ?_
      rintro _ w5 ⟨rfl, e4⟩
      conv => whnf
      refine IfB.eqf (by simp [*]; done) ?_
      conv => whnf
      refine DrawK.held tabok mixed [(0, false), (1, true), (2, true), (3, true), (4, true)] (by kernel_rfl) (by kernel_rfl) ?_
      conv => whnf
      intro w6 e6
      conv => whnf
      refine DSemK.loadAgg (n := 2) (by kernel_rfl) (B3.ext e4).cells rfl ?_
      conv => whnf
      refine (spec_l07Width (h.ext (Ext.trans (Ext.trans e3 e4) e6))).mono ?_
      rintro _ w8 ⟨rfl, e7⟩
      conv => whnf
      refine ⟨(Ext.trans e6 e7), ?_⟩
      conv => whnf
      refine (spec_l02Field _ _ _).mono ?_
      rintro _ w10 ⟨rfl, e9⟩
      conv => whnf
      refine ⟨(Ext.trans (Ext.trans e6 e7) e9), ?_⟩
      conv => whnf
      refine IfB.eqt (by simp [*]; done) ?_
      conv => whnf
      exact ⟨_, _, _, rfl, NewAt.nil, Own.nil, (Ext.trans (Ext.trans (Ext.trans (Ext.trans e3 e4) e6) e7) e9)⟩
    · have hdm := deckB_mem hz1
      refine Does.of_vc tabok Tryz.func50 rfl rfl rfl (by kernel_rfl) ?_; conv => whnf
      refine SemK.box ?_
      intro b3 w3 g3 l3 e3 B3
      conv => whnf
      refine (spec_l02Deck (h.ext e3)).mono ?_
      rintro _ w5 ⟨rfl, e4⟩
      conv => whnf
      refine IfB.eqf (by simp [*]; done) ?_
      conv => whnf
      refine DrawK.held tabok mixed [(0, false), (1, true), (2, true), (3, true), (4, true)] (by kernel_rfl) (by kernel_rfl) ?_
      conv => whnf
      intro w6 e6
      conv => whnf
      refine DSemK.loadAgg (n := 2) (by kernel_rfl) (B3.ext e4).cells rfl ?_
      conv => whnf
      refine (spec_l07Width (h.ext (Ext.trans (Ext.trans e3 e4) e6))).mono ?_
      rintro _ w8 ⟨rfl, e7⟩
      conv => whnf
      refine ⟨(Ext.trans e6 e7), ?_⟩
      conv => whnf
      refine (spec_l02Field _ _ _).mono ?_
      rintro _ w10 ⟨rfl, e9⟩
      conv => whnf
      refine ⟨(Ext.trans (Ext.trans e6 e7) e9), ?_⟩
      conv => whnf
      refine IfB.eqf (by simp [*]; done) ?_
      conv => whnf
      refine SemK.buildSlice mk_40 (vs := []) (by rfl) (by rfl) (by simp [Value.cells]) (by decide) ?_
      intro b11 w11 g11 l11 e11 B11
      have G11 := Grow.new0 (enc := eS) eS_len B11 g11
      conv => whnf
      have X10 : Ext w w10 := Ext.trans (Ext.trans (Ext.trans (Ext.trans e3 e4) e6) e7) e9
      refine LoopK.rule [0, 3, 6, 7] (fun (k : Nat) vs w' => ∃ a1 c1, vs = [.slice a n c, .pointer (some ⟨b3, 0, none⟩), .slice a1 k c1, .int .i64 k] ∧ k ≤ n ∧ (∀ i c, i < k → xs[i]? = some c → hasB (partOf c f) = true) ∧ Grow eS 1 w10.heap.size 9 w' a1 k c1 (((xs.take k).map (ckey f)).map txt) ∧ Ext w10 w') (fun k => n - k) tab tabok (by kernel_rfl) 0 ⟨_, _, rfl, by omega, fun i c hi => by omega, G11, e11⟩ ?_
      rintro k g _ w12 ⟨a1, c1, rfl, hk, hall, hG, hX2⟩
      have hX := Ext.trans X10 hX2
      have lnG := hG.len
      rcases Nat.lt_or_ge k n with hkn | hkn
      · obtain ⟨d, hd⟩ := get_of_lt (l := hs) (k := k) (by omega)
        obtain ⟨y, hy, R⟩ := hE.get hd
        have hyd := hdm.2 y (List.mem_of_getElem? hy)
        have hyc := cardB_b hyd.1
        have hfy : fieldB f y.length = true := by rw [hyd.2]; exact hz2
        have hfb := fieldB_b hfy
        have A := R.1
        have hyl := A.len
        cases hbad : hasB (partOf y f)
        · rw [keys_bad hz1 hz2 hy hbad]
          have hN : ∀ u b o, Ext w u → Cells u b o (eH d) → Does Tryz.prog 92 [.pointer (some ⟨b, o, none⟩), .agg ⟨f.enc⟩] u (fun v w' => ∃ s, v = .tuple #[.string s, .bool false] ∧ Ext u w') := fun u b o e hc => (spec_l03Key ⟨R.1.ext e, R.2⟩ hc hfy (by omega)).mono (by
            rintro _ w2 ⟨s, rfl, _, e2⟩
            rw [hbad]
            exact ⟨s, rfl, e2⟩)
          conv => whnf
          refine IfB.yes (by omega) ?_
          conv => whnf
          refine DrawK.held tabok mixed [(0, false), (1, false), (2, false), (3, true), (4, true), (5, true), (6, false), (7, false), (8, true), (9, true)] (by kernel_rfl) (by kernel_rfl) ?_
          conv => whnf
          intro w13 e13
          conv => whnf
          refine DSemK.index (by kernel_rfl) (hV.ext hX) k rfl hd ?_
          intro b15 o15 ha15 hb15
          conv => whnf
          refine SemK.loadAgg (n := 2) (by kernel_rfl) (B3.ext (Ext.trans (Ext.trans (Ext.trans (Ext.trans (Ext.trans e4 e6) e7) e9) hX2) e13)).cells rfl ?_
          conv => whnf
          refine ⟨e13, ?_⟩
          conv => whnf
          refine (hN _ _ _ (Ext.trans hX e13) (hb15.ext e13)).mono ?_
          rintro _ w18 ⟨s16, rfl, e17⟩
          conv => whnf
          refine ⟨(Ext.trans e13 e17), ?_⟩
          conv => whnf
          exact ⟨_, _, _, rfl, NewAt.nil, Own.nil, (Ext.trans (Ext.trans hX e13) e17)⟩
        · have hnt : ((xs.take (k + 1)).map (ckey f)).map txt = ((xs.take k).map (ckey f)).map txt ++ [txt (ckey f y)] := by rw [List.take_add_one, hy]; simp
          have hN : ∀ u b o, Ext w u → Cells u b o (eH d) → Does Tryz.prog 92 [.pointer (some ⟨b, o, none⟩), .agg ⟨f.enc⟩] u (fun v w' => v = .tuple #[.string (txt (ckey f y)), .bool true] ∧ Ext u w') := fun u b o e hc => (spec_l03Key ⟨R.1.ext e, R.2⟩ hc hfy (by omega)).mono (by
            rintro _ w2 ⟨s, rfl, hs, e2⟩
            rw [hbad, hs hbad]
            exact ⟨rfl, e2⟩)
          have hnext : ∀ i c, i < k + 1 → xs[i]? = some c → hasB (partOf c f) = true := fun i c hi hc => by
            by_cases e : i = k
            · subst e; rw [hy] at hc; cases hc; exact hbad
            · exact hall i c (by omega) hc
          conv => whnf
          refine IfB.yes (by omega) ?_
          conv => whnf
          refine DrawK.held tabok mixed [(0, false), (1, false), (2, false), (3, true), (4, true), (5, true), (6, false), (7, false), (8, true), (9, true)] (by kernel_rfl) (by kernel_rfl) ?_
          conv => whnf
          intro w13 e13
          conv => whnf
          refine DSemK.index (by kernel_rfl) (hV.ext hX) k rfl hd ?_
          intro b15 o15 ha15 hb15
          conv => whnf
          refine SemK.loadAgg (n := 2) (by kernel_rfl) (B3.ext (Ext.trans (Ext.trans (Ext.trans (Ext.trans (Ext.trans e4 e6) e7) e9) hX2) e13)).cells rfl ?_
          conv => whnf
          refine ⟨e13, ?_⟩
          conv => whnf
          refine (hN _ _ _ (Ext.trans hX e13) (hb15.ext e13)).mono ?_
          rintro _ w17 ⟨rfl, e16⟩
          conv => whnf
          refine ⟨(Ext.trans e13 e16), ?_⟩
          conv => whnf
          refine SemK.buildSlice mk_40 (vs := [Value.string (txt (ckey f y))]) (by rfl) (by rfl) (by simp [Value.cells]) (by decide) ?_
          intro b18 w18 g18 l18 e18 B18
          have G18 := Grow.of_blk (n := 1) (enc := eS) (xs := [txt (ckey f y)]) eS_len B18 g18 rfl (by decide)
          conv => whnf
          refine SemK.appendArr0 (enc := eS) mk_40 eS_len (hG.ext (Ext.trans (Ext.trans e13 e16) e18)) (G18.own.arr eS_len) (by intro y _; simp [eS, cellish]) (by omega) (by omega) (Below.size (Ext.trans (Ext.trans (Ext.trans hX2 e13) e16) e18)) ?_
          intro a19 c19 w19 G19 m19 i19
          conv => whnf
          refine SemK.add (((k + 1 : Nat) : Int)) (by omega) (by omega) (by omega) ?_
          conv => whnf
          refine ⟨k + 1, by omega, _, _, rfl, by omega, hnext, ?_, (Ext.mod_trans (Ext.trans (Ext.trans (Ext.trans hX2 e13) e16) e18) m19 (blkIn_new hG.new))⟩
          · rw [hnt]; exact G19
      · obtain rfl : k = n := by omega
        have hgood := keys_good hz1 hz2 (all_has (fun i c hi hc => hall i c (by omega) hc))
        rw [hgood]
        rw [List.take_of_length_le (by omega)] at hG
        conv => whnf
        refine IfB.no (by omega) ?_
        conv => whnf
        exact ⟨_, _, _, rfl, (hG.new.mono (Below.size X10)), hG.own, hX⟩
theorem impl_textOf {w : World} {a : Option Addr} {n c : Nat} {xs : List Int} (h : Arr eI 1 w a n xs) (hh : hasB xs = true) (hn2 : n ≤ 1000) :
    Does Tryz.prog 127 [.slice a n c] w (fun v w' => v = .string (txt (ranks xs)) ∧ Ext w w') := by
  have hn := h.len
  refine Does.of_vc tabok Tryz.func127 rfl rfl rfl (by kernel_rfl) ?_; conv => whnf
  refine SemK.buildSlice mk_22 (vs := []) (by rfl) (by rfl) (by simp [Value.cells]) (by decide) ?_
  intro b1 w1 g1 l1 e1 B1
  have G1 := Grow.new0 (enc := eB) eB_len B1 g1
  conv => whnf
  refine LoopK.rule [0, 3, 7, 8, 9] (fun (k : Nat) vs w' => ∃ a3 m3 c3, vs = [.slice a n c, .slice a3 m3 c3, .slice a n c, .int .i64 n, .int .i64 k] ∧ k ≤ n ∧ Grow eB 1 w.heap.size 5 w' a3 m3 c3 (kbytes (ranks (xs.take k))) ∧ Ext w w') (fun k => n - k) tab tabok (by kernel_rfl) 0 ⟨_, _, _, rfl, by omega, G1, e1⟩ ?_
  rintro k g _ w' ⟨a3, m3, c3, rfl, hk, G, hE⟩
  have hm := G.len
  rw [kbytes_len, ranks_len, List.length_take] at hm
  rcases Nat.lt_or_ge k n with hkn | hkn
  · obtain ⟨x, hx⟩ : ∃ x, xs[k]? = some x := get_of_lt (by omega)
    have hr := hasB_get hh hx
    have hr2 := rankM_b x
    have hc2 : (ByteArray.mk #[32, 38, 65, 66, 67, 68, 69, 70, 71, 72, 73, 45, 74, 75, 76, 77, 78, 79, 80, 81, 82, 47, 83, 84, 85, 86, 87, 88, 89, 90, 48, 49, 50, 51, 52, 53, 54, 55, 56, 57]).data.toList[(rankM x).toNat]? = some (charAt (rankM x).toNat) := charL_get (by omega)
    have hct := kbytes_take hx
    conv => whnf
    refine IfB.yes (by omega) ?_
    conv => whnf
    refine SemK.index (by kernel_rfl) (h.ext hE) k rfl hx ?_
    intro b5 o5 ha5 hb5
    conv => whnf
    refine SemK.load0 (by kernel_rfl) hb5 rfl ?_
    conv => whnf
    refine (impl_rankOf _ _).mono ?_
    rintro _ w7 ⟨rfl, e6⟩
    conv => whnf
    refine SemK.char (by kernel_rfl) (rankM x).toNat (by omega) hc2 ?_
    conv => whnf
    refine SemK.buildSlice mk_22 (vs := [Value.int IntKind.u8 ↑(charAt (rankM x).toNat).toNat]) (by rfl) (by rfl) (by simp [Value.cells]) (by decide) ?_
    intro b8 w8 g8 l8 e8 B8
    -- TRIED have G8 := Grow.of_blk (n := 1) (enc := eB) (xs := [↑(charAt (rankM x).toNat).toNat]) eB_len (by simpa [flat, cellsOf, Value.cells, eB] using B8) g8 rfl (by decide)
    conv => whnf
    have G8 := Grow.of_blk (n := 1) (enc := eB) (xs := [charAt (rankM x).toNat]) eB_len B8 g8 rfl (by decide)
    refine SemK.appendArr0 (enc := eB) mk_22 eB_len (G.ext (Ext.trans e6 e8)) (G8.own.arr eB_len) (by intro y _; simp [eB, cellish]) (by omega) (by omega) (Below.size (Ext.trans (Ext.trans hE e6) e8)) ?_
    intro a9 c9 w9 G9 m9 i9
    conv => whnf
    refine SemK.add (((k + 1 : Nat) : Int)) (by omega) (by omega) (by omega) ?_
    conv => whnf
    refine ⟨k + 1, by omega, _, _, _, rfl, by omega, ?_, (Ext.mod_trans (Ext.trans (Ext.trans hE e6) e8) m9 (blkIn_new G.new))⟩
    · rw [hct]; exact G9
  · rw [List.take_of_length_le (by omega)] at G
    conv => whnf
    refine IfB.no (by omega) ?_
    conv => whnf
    refine SemK.toStrG (by kernel_rfl) (by kernel_rfl) G ?_
    conv => whnf
    exact ⟨rfl, hE⟩
theorem impl_hasCharacters1 (x : Int) (w : World) : Does Tryz.prog 153 [.int .i64 x] w (fun v w' => v = .bool (decide (rankM x < 0)) ∧ Ext w w') := by
  have hr := rankM_b x
  refine Does.of_vc tabok Tryz.func153 rfl rfl rfl (by kernel_rfl) ?_; conv => whnf
  refine (impl_rankOf _ _).mono ?_
  rintro _ w3 ⟨rfl, e2⟩
  conv => whnf
  exact ⟨rfl, e2⟩
theorem impl_hasCharacters {w : World} {a : Option Addr} {n c : Nat} {xs : List Int} (h : Arr eI 1 w a n xs) : Does Tryz.prog 144 [.slice a n c] w (fun v w' => v = .bool (hasB xs) ∧ Ext w w') := by
  have hA := hasB_any xs
  have hC : ∀ u, Ext w u → Does Tryz.prog 80 [.slice a n c, .func (.func 153) ⟨[]⟩ ⟨[]⟩] u (fun v w' => v = .bool (!hasB xs) ∧ Ext u w') := fun u e => by
    have := lib_ContainsFuncInt (c := c) (h.ext e) (p := fun n => decide (rankM n < 0)) (g := 153) (cap := []) (fun x _ w' _ => impl_hasCharacters1 x w')
    rw [hA] at this
    exact this
  refine Does.of_vc tabok Tryz.func144 rfl rfl rfl (by kernel_rfl) ?_; conv => whnf
  refine (hC _ (Ext.refl _)).mono ?_
  rintro _ w2 ⟨rfl, e1⟩
  conv => whnf
  exact ⟨by simp [*], e1⟩
theorem impl_hasField {w : World} {d : Hd} {xs : List Int} (R : RCard w d xs) {f : TField} (hf : fieldB f xs.length = true) :
    Does Tryz.prog 123 [.agg ⟨eH d⟩, .agg ⟨f.enc⟩] w (fun v w' => v = .bool (hasB (partOf xs f)) ∧ Ext w w') := by
  obtain ⟨A, hnc⟩ := R
  have hn := A.len
  have hb := fieldB_b hf
  obtain ⟨f1, f2⟩ := f
  simp only at hb
  obtain ⟨p, rfl⟩ : ∃ p : Nat, f1 = p := ⟨f1.toNat, by omega⟩
  obtain ⟨q, rfl⟩ : ∃ q : Nat, f2 = q := ⟨f2.toNat, by omega⟩
  unfold partOf
  simp only [Int.toNat_natCast]
  refine Does.of_vc tabok Tryz.func123 rfl rfl rfl (by kernel_rfl) ?_; conv => whnf
  refine SemK.box ?_
  intro b1 w1 g1 l1 e1 B1
  conv => whnf
  refine SemK.box ?_
  intro b2 w2 g2 l2 e2 B2
  conv => whnf
  refine SemK.load1 (by kernel_rfl) (B1.ext e2).cells (k := 0) rfl ?_
  conv => whnf
  refine SemK.load1 (by kernel_rfl) B2.cells (k := 0) rfl ?_
  conv => whnf
  refine SemK.load1 (by kernel_rfl) B2.cells (k := 1) rfl ?_
  conv => whnf
  refine SemK.slice (k := .i64) (k' := .i64) (by kernel_rfl) (A.ext (Ext.trans e1 e2)) p q (by omega) (by omega) hnc (.inr (by rfl)) (.inr (by rfl)) ?_
  intro a9 A9
  conv => whnf
  refine (impl_hasCharacters A9).mono ?_
  rintro _ w11 ⟨rfl, e10⟩
  conv => whnf
  exact ⟨rfl, (Ext.trans (Ext.trans e1 e2) e10)⟩
theorem impl_fieldText {w : World} {d : Hd} {xs : List Int} (R : RCard w d xs) {f : TField} (hf : fieldB f xs.length = true) (hx20 : xs.length ≤ 20) (hh : hasB (partOf xs f) = true) :
    Does Tryz.prog 89 [.agg ⟨eH d⟩, .agg ⟨f.enc⟩] w (fun v w' => v = .string (txt (ckey f xs)) ∧ Ext w w') := by
  obtain ⟨A, hnc⟩ := R
  have hn := A.len
  have hb := fieldB_b hf
  unfold ckey
  obtain ⟨f1, f2⟩ := f
  simp only at hb
  obtain ⟨p, rfl⟩ : ∃ p : Nat, f1 = p := ⟨f1.toNat, by omega⟩
  obtain ⟨q, rfl⟩ : ∃ q : Nat, f2 = q := ⟨f2.toNat, by omega⟩
  unfold partOf at *
  simp only [Int.toNat_natCast] at *
  refine Does.of_vc tabok Tryz.func89 rfl rfl rfl (by kernel_rfl) ?_; conv => whnf
  refine SemK.box ?_
  intro b21 w21 g21 l21 e21 B21
  conv => whnf
  refine SemK.box ?_
  intro b22 w22 g22 l22 e22 B22
  conv => whnf
  refine SemK.load1 (by kernel_rfl) (B21.ext e22).cells (k := 0) rfl ?_
  conv => whnf
  refine SemK.load1 (by kernel_rfl) B22.cells (k := 0) rfl ?_
  conv => whnf
  refine SemK.load1 (by kernel_rfl) B22.cells (k := 1) rfl ?_
  conv => whnf
  refine SemK.slice (k := .i64) (k' := .i64) (by kernel_rfl) (A.ext (Ext.trans e21 e22)) p q (by omega) (by omega) hnc (.inr (by rfl)) (.inr (by rfl)) ?_
  intro a9 A9
  conv => whnf
  refine (impl_textOf A9 hh (by omega)).mono ?_
  rintro _ w24 ⟨rfl, e23⟩
  conv => whnf
  exact ⟨rfl, (Ext.trans (Ext.trans e21 e22) e23)⟩
theorem impl_compareHoles {w : World} {a a' : Option Addr} {n c c' : Nat} {xs ys : List Int} (h : Arr eI 1 w a n xs) (h' : Arr eI 1 w a' n ys) : Does Tryz.prog 154 [.slice a n c, .slice a' n c'] w (fun v w' => v = .int .i64 (cmpR (ranks xs) (ranks ys)) ∧ Ext w w') := by
  have hn := h.len
  have hn' := h'.len
  have hm := h.le
  have hrl := ranks_len xs
  have hsl := ranks_len ys
  refine Does.of_vc tabok Tryz.func154 rfl rfl rfl (by kernel_rfl) ?_; conv => whnf
  refine LoopK.rule [0, 1, 9, 10] (fun (k : Nat) vs w' => vs = [.slice a n c, .slice a' n c', .int .i64 n, .int .i64 k] ∧ k ≤ n ∧ (ranks xs).take k = (ranks ys).take k ∧ Ext w w') (fun k => n - k) tab tabok (by kernel_rfl) 0 ⟨rfl, by omega, rfl, Ext.refl _⟩ ?_
  rintro k g _ w3 ⟨rfl, hk, hpre, hX⟩
  rcases Nat.lt_or_ge k n with hkn | hkn
  · obtain ⟨x, hx⟩ : ∃ x, xs[k]? = some x := get_of_lt (by omega)
    obtain ⟨y, hy⟩ : ∃ y, ys[k]? = some y := get_of_lt (by omega)
    have hrx := ranks_get hx
    have hry := ranks_get hy
    rcases Int.lt_trichotomy (rankM x) (rankM y) with hxy | hxy | hxy
    · rw [cmpR_less hpre hrx hry hxy]
      conv => whnf
      refine IfB.yes (by omega) ?_
      conv => whnf
      refine DrawK.held tabok mixed [(0, false), (1, false), (2, false), (3, false), (5, false), (6, false), (7, false), (8, false), (4, true), (9, true), (10, true), (11, true)] (by kernel_rfl) (by kernel_rfl) ?_
      conv => whnf
      intro w4 e4
      conv => whnf
      refine DSemK.index (by kernel_rfl) (h.ext hX) k rfl hx ?_
      intro b6 o6 ha6 hb6
      conv => whnf
      refine DSemK.load0 (by kernel_rfl) hb6 rfl ?_
      conv => whnf
      refine DSemK.index (by kernel_rfl) (h'.ext hX) k rfl hy ?_
      intro b8 o8 ha8 hb8
      conv => whnf
      refine DSemK.load0 (by kernel_rfl) hb8 rfl ?_
      conv => whnf
      refine (impl_rankOf _ _).mono ?_
      rintro _ w10 ⟨rfl, e9⟩
      conv => whnf
      refine ⟨(Ext.trans e4 e9), ?_⟩
      conv => whnf
      refine (impl_rankOf _ _).mono ?_
      rintro _ w12 ⟨rfl, e11⟩
      conv => whnf
      refine ⟨(Ext.trans (Ext.trans e4 e9) e11), ?_⟩
      conv => whnf
      refine IfB.yes (by omega) ?_
      conv => whnf
      exact ⟨rfl, (Ext.trans (Ext.trans (Ext.trans hX e4) e9) e11)⟩
    · rw [← hxy] at hry
      have hnext := take_both hpre hrx hry
      conv => whnf
      refine IfB.yes (by omega) ?_
      conv => whnf
      refine DrawK.held tabok mixed [(0, false), (1, false), (2, false), (3, false), (5, false), (6, false), (7, false), (8, false), (4, true), (9, true), (10, true), (11, true)] (by kernel_rfl) (by kernel_rfl) ?_
      conv => whnf
      intro w4 e4
      conv => whnf
      refine DSemK.index (by kernel_rfl) (h.ext hX) k rfl hx ?_
      intro b6 o6 ha6 hb6
      conv => whnf
      refine DSemK.load0 (by kernel_rfl) hb6 rfl ?_
      conv => whnf
      refine DSemK.index (by kernel_rfl) (h'.ext hX) k rfl hy ?_
      intro b8 o8 ha8 hb8
      conv => whnf
      refine DSemK.load0 (by kernel_rfl) hb8 rfl ?_
      conv => whnf
      refine (impl_rankOf _ _).mono ?_
      rintro _ w10 ⟨rfl, e9⟩
      conv => whnf
      refine ⟨(Ext.trans e4 e9), ?_⟩
      conv => whnf
      refine (impl_rankOf _ _).mono ?_
      rintro _ w12 ⟨rfl, e11⟩
      conv => whnf
      refine ⟨(Ext.trans (Ext.trans e4 e9) e11), ?_⟩
      conv => whnf
      refine IfB.no (by omega) ?_
      conv => whnf
      refine IfB.no (by omega) ?_
      conv => whnf
      refine SemK.add (((k + 1 : Nat) : Int)) (by omega) (by omega) (by omega) ?_
      conv => whnf
      exact ⟨k + 1, by omega, rfl, by omega, by omega, (Ext.trans (Ext.trans (Ext.trans hX e4) e9) e11)⟩
    · rw [cmpR_more hpre hrx hry hxy]
      conv => whnf
      refine IfB.yes (by omega) ?_
      conv => whnf
      refine DrawK.held tabok mixed [(0, false), (1, false), (2, false), (3, false), (5, false), (6, false), (7, false), (8, false), (4, true), (9, true), (10, true), (11, true)] (by kernel_rfl) (by kernel_rfl) ?_
      conv => whnf
      intro w4 e4
      conv => whnf
      refine DSemK.index (by kernel_rfl) (h.ext hX) k rfl hx ?_
      intro b6 o6 ha6 hb6
      conv => whnf
      refine DSemK.load0 (by kernel_rfl) hb6 rfl ?_
      conv => whnf
      refine DSemK.index (by kernel_rfl) (h'.ext hX) k rfl hy ?_
      intro b8 o8 ha8 hb8
      conv => whnf
      refine DSemK.load0 (by kernel_rfl) hb8 rfl ?_
      conv => whnf
      refine (impl_rankOf _ _).mono ?_
      rintro _ w10 ⟨rfl, e9⟩
      conv => whnf
      refine ⟨(Ext.trans e4 e9), ?_⟩
      conv => whnf
      refine (impl_rankOf _ _).mono ?_
      rintro _ w12 ⟨rfl, e11⟩
      conv => whnf
      refine ⟨(Ext.trans (Ext.trans e4 e9) e11), ?_⟩
      conv => whnf
      refine IfB.no (by omega) ?_
      conv => whnf
      refine IfB.yes (by omega) ?_
      conv => whnf
      exact ⟨rfl, (Ext.trans (Ext.trans (Ext.trans hX e4) e9) e11)⟩
  · rw [cmpR_done (n := n) (by have hkn : k = n := by omega
                               subst hkn; exact hpre) (by omega) (by omega)]
    conv => whnf
    refine IfB.no (by omega) ?_
    conv => whnf
    exact ⟨rfl, hX⟩
theorem impl_compareFields {w : World} {d d' : Hd} {xs ys : List Int} (R : RCard w d xs) (R' : RCard w d' ys) {f : TField} (hf : fieldB f xs.length = true) (hf' : fieldB f ys.length = true) :
    Does Tryz.prog 145 [.agg ⟨eH d⟩, .agg ⟨eH d'⟩, .agg ⟨f.enc⟩] w (fun v w' => v = .int .i64 (cmpR (ckey f xs) (ckey f ys)) ∧ Ext w w') := by
  obtain ⟨A, hnc⟩ := R
  obtain ⟨A', hnc'⟩ := R'
  have hn := A.len
  have hn' := A'.len
  have hb := fieldB_b hf
  have hb' := fieldB_b hf'
  unfold ckey
  obtain ⟨f1, f2⟩ := f
  simp only at hb hb'
  obtain ⟨p, rfl⟩ : ∃ p : Nat, f1 = p := ⟨f1.toNat, by omega⟩
  obtain ⟨q, rfl⟩ : ∃ q : Nat, f2 = q := ⟨f2.toNat, by omega⟩
  unfold partOf at *
  simp only [Int.toNat_natCast] at *
  refine Does.of_vc tabok Tryz.func145 rfl rfl rfl (by kernel_rfl) ?_; conv => whnf
  refine SemK.box ?_
  intro b1 w1 g1 l1 e1 B1
  conv => whnf
  refine SemK.box ?_
  intro b2 w2 g2 l2 e2 B2
  conv => whnf
  refine SemK.box ?_
  intro b3 w3 g3 l3 e3 B3
  conv => whnf
  refine DrawK.held tabok mixed [(0, false), (1, false), (2, false), (3, false), (4, false), (5, false), (6, false), (7, false), (8, false), (9, false), (10, false), (11, true), (12, true), (13, true), (14, true), (15, true)] (by kernel_rfl) (by kernel_rfl) ?_
  conv => whnf
  intro w4 e4
  conv => whnf
  refine DSemK.load1 (by kernel_rfl) (B1.ext (Ext.trans e2 e3)).cells (k := 0) rfl ?_
  conv => whnf
  refine DSemK.load1 (by kernel_rfl) B3.cells (k := 0) rfl ?_
  conv => whnf
  refine DSemK.load1 (by kernel_rfl) B3.cells (k := 1) rfl ?_
  conv => whnf
  refine DSemK.slice (k := .i64) (k' := .i64) (by kernel_rfl) (A.ext (Ext.trans (Ext.trans e1 e2) e3)) p q (by omega) (by omega) hnc (.inr (by rfl)) (.inr (by rfl)) ?_
  intro a9 A9
  conv => whnf
  refine DSemK.load1 (by kernel_rfl) (B2.ext e3).cells (k := 0) rfl ?_
  conv => whnf
  refine DSemK.load1 (by kernel_rfl) B3.cells (k := 0) rfl ?_
  conv => whnf
  refine SemK.load1 (by kernel_rfl) (B3.ext e4).cells (k := 1) rfl ?_
  conv => whnf
  refine ⟨e4, ?_⟩
  conv => whnf
  refine SemK.slice (k := .i64) (k' := .i64) (by kernel_rfl) (A'.ext (Ext.trans (Ext.trans (Ext.trans e1 e2) e3) e4)) p q (by omega) (by omega) hnc' (.inr (by rfl)) (.inr (by rfl)) ?_
  intro a10 A10
  conv => whnf
  refine ⟨e4, ?_⟩
  conv => whnf
  refine (impl_compareHoles (A9.ext e4) A10).mono ?_
  rintro _ w12 ⟨rfl, e11⟩
  conv => whnf
  refine ⟨(Ext.trans e4 e11), ?_⟩
  conv => whnf
  exact ⟨rfl, (Ext.trans (Ext.trans (Ext.trans (Ext.trans e1 e2) e3) e4) e11)⟩
end Go.Proofs.YtfgbijddjoojbaaGreat
