/- Contracts of functions of the given program, of the reference and of the laws: each says what a call returns, for all arguments that meet the premises that the theorem itself names. -/
import Derived.Test.YtfgbijddjoojbaaGreatModel
import Derived.Test.YtfgbijddjoojbaaGreatBase
import Derived.Test.YtfgbijddjoojbaaGreatVcApp
namespace Go.Proofs.YtfgbijddjoojbaaGreat
open Go Go.RowKit Go.Vc Go.M

theorem impl_isDigit (n : Nat) (w : World) : Does Tryz.prog 158 [.int .u8 n] w (fun v w' => v = .bool (digitN n) ∧ w = w') := by
  refine Does.of_vc tabok Tryz.func158 rfl rfl rfl (by kernel_rfl) ?_; conv => whnf
  with_reducible refine IfB.dec (fun h1 => ?_) (fun h1 => ?_)
  · conv => whnf
    exact ⟨by have e : 48 ≤ n := by omega
              simp only [digitN, e, decide_true, Bool.true_and]; congr 1; simp; omega, rfl⟩
  · conv => whnf
    exact ⟨by have e : ¬ 48 ≤ n := by omega
              simp [digitN, e], rfl⟩
theorem spec_digit (n : Nat) (w : World) : Does Tryz.prog 156 [.int .u8 n] w (fun v w' => v = .bool (digitN n) ∧ w = w') := by
  refine Does.of_vc tabok Tryz.func156 rfl rfl rfl (by kernel_rfl) ?_; conv => whnf
  with_reducible refine IfB.dec (fun h1 => ?_) (fun h1 => ?_)
  · conv => whnf
    exact ⟨by have e : 48 ≤ n := by omega
              simp only [digitN, e, decide_true, Bool.true_and]; congr 1; simp; omega, rfl⟩
  · conv => whnf
    exact ⟨by have e : ¬ 48 ≤ n := by omega
              simp [digitN, e], rfl⟩
theorem impl_inside (n lo hi : Int) (w : World) : Does Tryz.prog 70 [.int .i64 n, .int .i64 lo, .int .i64 hi] w (fun v w' => v = .bool (inB n lo hi) ∧ w = w') := by
  refine Does.of_vc tabok Tryz.func70 rfl rfl rfl (by kernel_rfl) ?_; conv => whnf
  with_reducible refine IfB.dec (fun h1 => ?_) (fun h1 => ?_)
  · conv => whnf
    exact ⟨by simp [inB, h1], rfl⟩
  · conv => whnf
    exact ⟨by simp [inB, h1], rfl⟩
theorem spec_in (n lo hi : Int) (w : World) : Does Tryz.prog 43 [.int .i64 n, .int .i64 lo, .int .i64 hi] w (fun v w' => v = .bool (inB n lo hi) ∧ w = w') := by
  refine Does.of_vc tabok Tryz.func43 rfl rfl rfl (by kernel_rfl) ?_; conv => whnf
  with_reducible refine IfB.dec (fun h1 => ?_) (fun h1 => ?_)
  · conv => whnf
    exact ⟨by simp [inB, h1], rfl⟩
  · conv => whnf
    exact ⟨by simp [inB, h1], rfl⟩

end Go.Proofs.YtfgbijddjoojbaaGreat
namespace Go.Proofs.YtfgbijddjoojbaaGreat
open Go Go.RowKit Go.Vc Go.M
theorem laws_f6big (a : Option Addr) (n c : Nat) (w : World) : Does Tryz.prog 4 [.slice a n c] w (fun v w' => v = .bool (decide (4096 < n)) ∧ w = w') := by
  refine Does.of_vc tabok Tryz.func4 rfl rfl rfl (by kernel_rfl) ?_; conv => whnf
  refine ⟨?_, rfl⟩
  · congr 1; exact decide_eq_decide.2 (by omega)
theorem laws_f6ints {w : World} {a a' : Option Addr} {n n' c c' : Nat} {xs ys : List Int} (h : Arr eI 1 w a n xs) (h' : Arr eI 1 w a' n' ys) :
    Does Tryz.prog 23 [.slice a n c, .slice a' n' c'] w (fun v w' => v = .bool (decide (xs = ys)) ∧ Ext w w') := by
  have hn := h.len
  have hn' := h'.len
  have hm := h.le
  refine Does.of_vc tabok Tryz.func23 rfl rfl rfl (by kernel_rfl) ?_; conv => whnf
  with_reducible refine IfB.ndec (fun h1 => ?_) (fun h1 => ?_)
  · conv => whnf
    refine ⟨?_, Ext.refl _⟩
    have : ¬ xs = ys := fun e => by subst e; omega
    rw [decide_eq_false this]
  · conv => whnf
    refine LoopK.rule [0, 1, 5] (fun (k : Nat) vs w' => vs = [.slice a n c, .slice a' n' c', .int .i64 k] ∧ k ≤ n ∧ xs.take k = ys.take k ∧ Ext w w') (fun k => n - k) tab tabok (by kernel_rfl) 0 ⟨rfl, by omega, by simp, Ext.refl _⟩ ?_
    rintro k g _ w' ⟨rfl, hk, hall, hE⟩
    conv => whnf
    with_reducible refine IfB.dec (fun h4 => ?_) (fun h4 => ?_)
    · obtain ⟨x, hx⟩ : ∃ x, xs[k]? = some x := get_of_lt (by omega)
      obtain ⟨y, hy⟩ : ∃ y, ys[k]? = some y := get_of_lt (by omega)
      conv => whnf
      refine DrawK.det tabok mixed (by kernel_rfl) (by kernel_rfl) ?_
      conv => whnf
      refine DSemK.index (by kernel_rfl) (h.ext hE) k rfl hx ?_
      intro b o _ hb
      conv => whnf
      refine DSemK.load0 (by kernel_rfl) hb rfl ?_
      conv => whnf
      refine DSemK.index (by kernel_rfl) (h'.ext hE) k rfl hy ?_
      intro b' o' _ hb'
      conv => whnf
      refine DSemK.load0 (by kernel_rfl) hb' rfl ?_
      conv => whnf
      intro w2 e2
      conv => whnf
      with_reducible refine IfB.ndec (fun h5 => ?_) (fun h5 => ?_)
      · conv => whnf
        exact ⟨by rw [decide_eq_false (ne_of_get hx hy h5)], Ext.trans hE e2⟩
      · conv => whnf
        refine SemK.add (k + 1) rfl (by omega) (by omega) ?_
        conv => whnf
        exact ⟨k + 1, by omega, rfl, by omega, take_eq_snoc hall hx hy h5, Ext.trans hE e2⟩
    · conv => whnf
      refine ⟨?_, hE⟩
      rw [decide_eq_true (eq_of_take hall (by omega) (by omega))]
end Go.Proofs.YtfgbijddjoojbaaGreat
