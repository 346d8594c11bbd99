/- Contracts of functions of the given program, of the reference and of the laws: each says what a call returns, for all arguments that meet the premises that the theorem itself names. -/
import Derived.Test.YtfgbijddjoojbaaGreatDoorModel
import Derived.Test.YtfgbijddjoojbaaGreatDoorBase
import Derived.Test.YtfgbijddjoojbaaGreatDoorVcApp
namespace Go.Proofs.YtfgbijddjoojbaaGreatDoor
open Go Go.RowKit Go.Vc Go.M

theorem impl_isSmall (n : Nat) (w : World) : Does Tryz.prog 140 [.int .u8 n] w (fun v w' => v = .bool (smallN n) ∧ w = w') := by
  refine Does.of_vc tabok Tryz.func140 rfl rfl rfl (by kernel_rfl) ?_; conv => whnf
  with_reducible refine IfB.dec (fun h1 => ?_) (fun h1 => ?_)
  · conv => whnf
    exact ⟨by have e : 97 ≤ n := by omega
              simp only [smallN, e, decide_true, Bool.true_and]; congr 1; simp; omega, rfl⟩
  · conv => whnf
    exact ⟨by have e : ¬ 97 ≤ n := by omega
              simp [smallN, e], rfl⟩
theorem spec_small (n : Nat) (w : World) : Does Tryz.prog 144 [.int .u8 n] w (fun v w' => v = .bool (smallN n) ∧ w = w') := by
  refine Does.of_vc tabok Tryz.func144 rfl rfl rfl (by kernel_rfl) ?_; conv => whnf
  with_reducible refine IfB.dec (fun h1 => ?_) (fun h1 => ?_)
  · conv => whnf
    exact ⟨by have e : 97 ≤ n := by omega
              simp only [smallN, e, decide_true, Bool.true_and]; congr 1; simp; omega, rfl⟩
  · conv => whnf
    exact ⟨by have e : ¬ 97 ≤ n := by omega
              simp [smallN, e], rfl⟩
theorem impl_isDigit (n : Nat) (w : World) : Does Tryz.prog 153 [.int .u8 n] w (fun v w' => v = .bool (digitN n) ∧ w = w') := by
  refine Does.of_vc tabok Tryz.func153 rfl rfl rfl (by kernel_rfl) ?_; conv => whnf
  with_reducible refine IfB.dec (fun h1 => ?_) (fun h1 => ?_)
  · conv => whnf
    exact ⟨by have e : 48 ≤ n := by omega
              simp only [digitN, e, decide_true, Bool.true_and]; congr 1; simp; omega, rfl⟩
  · conv => whnf
    exact ⟨by have e : ¬ 48 ≤ n := by omega
              simp [digitN, e], rfl⟩
theorem spec_digit (n : Nat) (w : World) : Does Tryz.prog 152 [.int .u8 n] w (fun v w' => v = .bool (digitN n) ∧ w = w') := by
  refine Does.of_vc tabok Tryz.func152 rfl rfl rfl (by kernel_rfl) ?_; conv => whnf
  with_reducible refine IfB.dec (fun h1 => ?_) (fun h1 => ?_)
  · conv => whnf
    exact ⟨by have e : 48 ≤ n := by omega
              simp only [digitN, e, decide_true, Bool.true_and]; congr 1; simp; omega, rfl⟩
  · conv => whnf
    exact ⟨by have e : ¬ 48 ≤ n := by omega
              simp [digitN, e], rfl⟩
theorem impl_inside (n lo hi : Int) (w : World) : Does Tryz.prog 121 [.int .i64 n, .int .i64 lo, .int .i64 hi] w (fun v w' => v = .bool (inB n lo hi) ∧ w = w') := by
  refine Does.of_vc tabok Tryz.func121 rfl rfl rfl (by kernel_rfl) ?_; conv => whnf
  with_reducible refine IfB.dec (fun h1 => ?_) (fun h1 => ?_)
  · conv => whnf
    exact ⟨by simp [inB, h1], rfl⟩
  · conv => whnf
    exact ⟨by simp [inB, h1], rfl⟩
theorem spec_in (n lo hi : Int) (w : World) : Does Tryz.prog 117 [.int .i64 n, .int .i64 lo, .int .i64 hi] w (fun v w' => v = .bool (inB n lo hi) ∧ w = w') := by
  refine Does.of_vc tabok Tryz.func117 rfl rfl rfl (by kernel_rfl) ?_; conv => whnf
  with_reducible refine IfB.dec (fun h1 => ?_) (fun h1 => ?_)
  · conv => whnf
    exact ⟨by simp [inB, h1], rfl⟩
  · conv => whnf
    exact ⟨by simp [inB, h1], rfl⟩

theorem impl_IsName (s : ByteArray) (hs : s.size ≤ 9223372036854775807) (w : World) : Does Tryz.prog 98 [.string s] w (fun v w' => v = .bool (nameB s) ∧ w = w') := by
  have hlen : s.data.toList.length = s.size := by simp
  refine Does.of_vc tabok Tryz.func98 rfl rfl rfl (by kernel_rfl) ?_; conv => whnf
  with_reducible refine IfB.dec (fun h1 => ?_) (fun h1 => ?_)
  · conv => whnf
    exact ⟨by have e : ¬ 1 ≤ s.data.toList.length := by omega
              simp only [nameB, nameL, e, decide_false, Bool.false_and], rfl⟩
  · conv => whnf
    with_reducible refine IfB.dec (fun h2 => ?_) (fun h2 => ?_)
    · conv => whnf
      exact ⟨by have e : ¬ s.data.toList.length ≤ 12 := by omega
                simp only [nameB, nameL, e, decide_false, Bool.false_and, Bool.and_false], rfl⟩
    · conv => whnf
      obtain ⟨c, hc⟩ : ∃ c, s.data.toList[0]? = some c := get_of_lt (by omega)
      refine SemK.char (by kernel_rfl) 0 rfl hc ?_
      conv => whnf
      refine (impl_isSmall _ w).mono ?_; rintro _ _ ⟨rfl, rfl⟩; conv => whnf
      with_reducible refine IfB.split (fun h3 => ?_) (fun h3 => ?_)
      · conv => whnf
        exact ⟨by simp only [Bool.not_eq_true'] at h3
                  simp only [nameB, nameL, headD_of hc, h3, Bool.false_and, Bool.and_false], rfl⟩
      · conv => whnf
        simp only [Bool.not_eq_false'] at h3
        refine LoopK.rule [0, 3] (fun (k : Nat) vs w' => vs = [.string s, .int .i64 k] ∧ k ≤ s.size ∧ (s.data.toList.take k).all nameCh = true ∧ w = w') (fun k => s.size - k) tab tabok (by kernel_rfl) 0 ⟨rfl, by omega, by simp, rfl⟩ ?_
        rintro k g _ w' ⟨rfl, hk, hall, rfl⟩
        conv => whnf
        with_reducible refine IfB.dec (fun h4 => ?_) (fun h4 => ?_)
        · have hk' : k < s.size := by omega
          obtain ⟨d, hd⟩ : ∃ d, s.data.toList[k]? = some d := get_of_lt (by omega)
          have hstep : ∀ b : Bool, nameCh d = b → (s.data.toList.take (k + 1)).all nameCh = b := fun b hb => by rw [take_all_snoc hd, hall, hb]; rfl
          conv => whnf
          refine SemK.char (by kernel_rfl) k rfl hd ?_
          conv => whnf
          refine (impl_isSmall _ w).mono ?_; rintro _ _ ⟨rfl, rfl⟩; conv => whnf
          with_reducible refine IfB.split (fun h5 => ?_) (fun h5 => ?_)
          · conv => whnf
            refine SemK.char (by kernel_rfl) k rfl hd ?_
            conv => whnf
            refine (impl_isDigit _ w).mono ?_; rintro _ _ ⟨rfl, rfl⟩; conv => whnf
            with_reducible refine IfB.split (fun h6 => ?_) (fun h6 => ?_)
            · conv => whnf
              refine SemK.char (by kernel_rfl) k rfl hd ?_
              conv => whnf
              with_reducible refine IfB.ndec (fun h7 => ?_) (fun h7 => ?_)
              · conv => whnf
                have hn : nameCh d = false := by simp at h5 h6; simp [nameCh, h5, h6]; omega
                exact ⟨by rw [nameB, nameL, all_false_of hd hn]; simp, rfl⟩
              · conv => whnf
                refine SemK.add (k + 1) rfl (by omega) (by omega) ?_
                conv => whnf
                refine ⟨k + 1, by omega, rfl, by omega, hstep true ?_, rfl⟩
                have : d.toNat = 45 := by omega
                simp [nameCh, this]
            · conv => whnf
              refine SemK.add (k + 1) rfl (by omega) (by omega) ?_
              conv => whnf
              refine ⟨k + 1, by omega, rfl, by omega, hstep true ?_, rfl⟩
              simp at h6; simp [nameCh, h6]
          · conv => whnf
            refine SemK.add (k + 1) rfl (by omega) (by omega) ?_
            conv => whnf
            refine ⟨k + 1, by omega, rfl, by omega, hstep true ?_, rfl⟩
            simp at h5; simp [nameCh, h5]
        · conv => whnf
          have e : k = s.size := by omega
          have e1 : 1 ≤ s.data.toList.length := by omega
          have e2 : s.data.toList.length ≤ 12 := by omega
          rw [e, ← hlen, List.take_length] at hall
          exact ⟨by simp only [nameB, nameL, headD_of hc, e1, e2, h3, hall, decide_true, Bool.and_self], rfl⟩
theorem spec_IsName (s : ByteArray) (hs : s.size ≤ 9223372036854775807) (w : World) : Does Tryz.prog 123 [.string s] w (fun v w' => v = .bool (nameB s) ∧ w = w') := by
  have hlen : s.data.toList.length = s.size := by simp
  refine Does.of_vc tabok Tryz.func123 rfl rfl rfl (by kernel_rfl) ?_; conv => whnf
  with_reducible refine IfB.dec (fun h1 => ?_) (fun h1 => ?_)
  · conv => whnf
    exact ⟨by subst h1; rfl, rfl⟩
  · have h1' : ¬ s.size < 1 := fun h => h1 (by
      have e : s.data.toList = [] := List.eq_nil_of_length_eq_zero (by omega)
      rw [← bs_self s, e]; rfl)
    clear h1
    have h1 := h1'
    conv => whnf
    with_reducible refine IfB.dec (fun h2 => ?_) (fun h2 => ?_)
    · conv => whnf
      exact ⟨by have e : ¬ s.data.toList.length ≤ 12 := by omega
                simp only [nameB, nameL, e, decide_false, Bool.false_and, Bool.and_false], rfl⟩
    · conv => whnf
      obtain ⟨c, hc⟩ : ∃ c, s.data.toList[0]? = some c := get_of_lt (by omega)
      refine SemK.char (by kernel_rfl) 0 rfl hc ?_
      conv => whnf
      refine (spec_small _ w).mono ?_; rintro _ _ ⟨rfl, rfl⟩; conv => whnf
      with_reducible refine IfB.split (fun h3 => ?_) (fun h3 => ?_)
      · conv => whnf
        exact ⟨by simp only [Bool.not_eq_true'] at h3
                  simp only [nameB, nameL, headD_of hc, h3, Bool.false_and, Bool.and_false], rfl⟩
      · conv => whnf
        simp only [Bool.not_eq_false'] at h3
        refine LoopK.rule [0, 3] (fun (k : Nat) vs w' => vs = [.string s, .int .i64 k] ∧ k ≤ s.size ∧ (s.data.toList.take k).all nameCh = true ∧ w = w') (fun k => s.size - k) tab tabok (by kernel_rfl) 0 ⟨rfl, by omega, by simp, rfl⟩ ?_
        rintro k g _ w' ⟨rfl, hk, hall, rfl⟩
        conv => whnf
        with_reducible refine IfB.dec (fun h4 => ?_) (fun h4 => ?_)
        · have hk' : k < s.size := by omega
          obtain ⟨d, hd⟩ : ∃ d, s.data.toList[k]? = some d := get_of_lt (by omega)
          have hstep : ∀ b : Bool, nameCh d = b → (s.data.toList.take (k + 1)).all nameCh = b := fun b hb => by rw [take_all_snoc hd, hall, hb]; rfl
          conv => whnf
          refine SemK.char (by kernel_rfl) k rfl hd ?_
          conv => whnf
          refine (spec_small _ w).mono ?_; rintro _ _ ⟨rfl, rfl⟩; conv => whnf
          with_reducible refine IfB.split (fun h5 => ?_) (fun h5 => ?_)
          · conv => whnf
            refine SemK.char (by kernel_rfl) k rfl hd ?_
            conv => whnf
            refine (spec_digit _ w).mono ?_; rintro _ _ ⟨rfl, rfl⟩; conv => whnf
            with_reducible refine IfB.split (fun h6 => ?_) (fun h6 => ?_)
            · conv => whnf
              refine SemK.char (by kernel_rfl) k rfl hd ?_
              conv => whnf
              with_reducible refine IfB.ndec (fun h7 => ?_) (fun h7 => ?_)
              · conv => whnf
                have hn : nameCh d = false := by simp at h5 h6; simp [nameCh, h5, h6]; omega
                exact ⟨by rw [nameB, nameL, all_false_of hd hn]; simp, rfl⟩
              · conv => whnf
                refine SemK.add (k + 1) rfl (by omega) (by omega) ?_
                conv => whnf
                refine ⟨k + 1, by omega, rfl, by omega, hstep true ?_, rfl⟩
                have : d.toNat = 45 := by omega
                simp [nameCh, this]
            · conv => whnf
              refine SemK.add (k + 1) rfl (by omega) (by omega) ?_
              conv => whnf
              refine ⟨k + 1, by omega, rfl, by omega, hstep true ?_, rfl⟩
              simp at h6; simp [nameCh, h6]
          · conv => whnf
            refine SemK.add (k + 1) rfl (by omega) (by omega) ?_
            conv => whnf
            refine ⟨k + 1, by omega, rfl, by omega, hstep true ?_, rfl⟩
            simp at h5; simp [nameCh, h5]
        · conv => whnf
          have e : k = s.size := by omega
          have e1 : 1 ≤ s.data.toList.length := by omega
          have e2 : s.data.toList.length ≤ 12 := by omega
          rw [e, ← hlen, List.take_length] at hall
          exact ⟨by simp only [nameB, nameL, headD_of hc, e1, e2, h3, hall, decide_true, Bool.and_self], rfl⟩

end Go.Proofs.YtfgbijddjoojbaaGreatDoor
namespace Go.Proofs.YtfgbijddjoojbaaGreatDoor
open Go Go.RowKit Go.Vc Go.M
theorem laws_f6big (a : Option Addr) (n c : Nat) (w : World) : Does Tryz.prog 5 [.slice a n c] w (fun v w' => v = .bool (decide (4096 < n)) ∧ w = w') := by
  refine Does.of_vc tabok Tryz.func5 rfl rfl rfl (by kernel_rfl) ?_; conv => whnf
  refine ⟨?_, rfl⟩
  · congr 1; exact decide_eq_decide.2 (by omega)
theorem laws_f6ints {w : World} {a a' : Option Addr} {n n' c c' : Nat} {xs ys : List Int} (h : Arr eI 1 w a n xs) (h' : Arr eI 1 w a' n' ys) :
    Does Tryz.prog 23 [.slice a n c, .slice a' n' c'] w (fun v w' => v = .bool (decide (xs = ys)) ∧ Ext w w') := by
  have hn := h.len
  have hn' := h'.len
  have hm := h.le
  refine Does.of_vc tabok Tryz.func23 rfl rfl rfl (by kernel_rfl) ?_; conv => whnf
  with_reducible refine IfB.ndec (fun h1 => ?_) (fun h1 => ?_)
  · conv => whnf
    refine ⟨?_, Ext.refl _⟩
    have : ¬ xs = ys := fun e => by subst e; omega
    rw [decide_eq_false this]
  · conv => whnf
    refine LoopK.rule [0, 1, 5] (fun (k : Nat) vs w' => vs = [.slice a n c, .slice a' n' c', .int .i64 k] ∧ k ≤ n ∧ xs.take k = ys.take k ∧ Ext w w') (fun k => n - k) tab tabok (by kernel_rfl) 0 ⟨rfl, by omega, by simp, Ext.refl _⟩ ?_
    rintro k g _ w' ⟨rfl, hk, hall, hE⟩
    conv => whnf
    with_reducible refine IfB.dec (fun h4 => ?_) (fun h4 => ?_)
    · obtain ⟨x, hx⟩ : ∃ x, xs[k]? = some x := get_of_lt (by omega)
      obtain ⟨y, hy⟩ : ∃ y, ys[k]? = some y := get_of_lt (by omega)
      conv => whnf
      refine DrawK.det tabok mixed (by kernel_rfl) (by kernel_rfl) ?_
      conv => whnf
      refine DSemK.index (by kernel_rfl) (h.ext hE) k rfl hx ?_
      intro b o _ hb
      conv => whnf
      refine DSemK.load0 (by kernel_rfl) hb rfl ?_
      conv => whnf
      refine DSemK.index (by kernel_rfl) (h'.ext hE) k rfl hy ?_
      intro b' o' _ hb'
      conv => whnf
      refine DSemK.load0 (by kernel_rfl) hb' rfl ?_
      conv => whnf
      intro w2 e2
      conv => whnf
      with_reducible refine IfB.ndec (fun h5 => ?_) (fun h5 => ?_)
      · conv => whnf
        exact ⟨by rw [decide_eq_false (ne_of_get hx hy h5)], Ext.trans hE e2⟩
      · conv => whnf
        refine SemK.add (k + 1) rfl (by omega) (by omega) ?_
        conv => whnf
        exact ⟨k + 1, by omega, rfl, by omega, take_eq_snoc hall hx hy h5, Ext.trans hE e2⟩
    · conv => whnf
      refine ⟨?_, hE⟩
      rw [decide_eq_true (eq_of_take hall (by omega) (by omega))]
end Go.Proofs.YtfgbijddjoojbaaGreatDoor
