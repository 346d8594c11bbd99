/- Contracts of functions of the given program, of the reference and of the laws: each says what a call returns, for all arguments that meet the premises that the theorem itself names. -/
import Derived.Test.YtkjmbjedbmblmaaGreatDoorDeskTo
namespace Go.Proofs.YtkjmbjedbmblmaaGreatDoor
open Go Go.RowKit Go.Vc Go.M
theorem spec_l15Totals {w : World} {a a' : Option Addr} {n n' c c' : Nat} {xs ys : List TTotal} (h : Arr TTotal.enc 2 w a n xs) (h' : Arr TTotal.enc 2 w a' n' ys) (hok : ∀ x ∈ xs, x.ok) (hok' : ∀ x ∈ ys, x.ok) :
    Does Tryz.prog 112 [.slice a n c, .slice a' n' c'] w (fun v w' => v = .bool (decide (xs = ys)) ∧ Ext w w') := by
  have hn := h.len
  have hn' := h'.len
  have hm := h.le
  refine Does.of_vc tabok Tryz.func112 rfl rfl rfl (by kernel_rfl) ?_; conv => whnf
  with_reducible refine IfB.ndec (fun h1 => ?_) (fun h1 => ?_)
  · conv => whnf
    exact ⟨by rw [decide_eq_false (fun e => by subst e; omega)], Ext.refl _⟩
  · conv => whnf
    refine LoopK.rule [0, 1, 5] (fun (k : Nat) vs w' => vs = [.slice a n c, .slice a' n' c', .int .i64 k] ∧ k ≤ n ∧ xs.take k = ys.take k ∧ Ext w w') (fun k => n - k) tab tabok (by kernel_rfl) 0 ⟨rfl, by omega, by simp, Ext.refl _⟩ ?_
    rintro k g _ w' ⟨rfl, hk, hall, hE9⟩
    conv => whnf
    with_reducible refine IfB.dec (fun h10 => ?_) (fun h10 => ?_)
    · conv => whnf
      refine DrawK.det tabok mixed (by kernel_rfl) (by kernel_rfl) ?_
      conv => whnf
      obtain ⟨x11, hx11⟩ : ∃ x, xs[k]? = some x := get_of_lt (by omega)
      have ok11 := hok _ (List.mem_of_getElem? hx11)
      refine DSemK.index (by kernel_rfl) (h.ext hE9) k rfl hx11 ?_
      intro b12 o12 _ hb12
      conv => whnf
      refine DSemK.loadAgg (n := 2) (by kernel_rfl) hb12 rfl ?_
      conv => whnf
      obtain ⟨x13, hx13⟩ : ∃ x, ys[k]? = some x := get_of_lt (by omega)
      have ok13 := hok' _ (List.mem_of_getElem? hx13)
      refine DSemK.index (by kernel_rfl) (h'.ext hE9) k rfl hx13 ?_
      intro b14 o14 _ hb14
      conv => whnf
      refine DSemK.loadAgg (n := 2) (by kernel_rfl) hb14 rfl ?_
      conv => whnf
      refine DSemK.neqFlat (ks := [true, false]) (by kernel_rfl) (by kernel_rfl) (TTotal.flat ok11) (TTotal.flat ok13) ?_
      rw [TTotal.eq_flat]
      conv => whnf
      intro w2 e2
      conv => whnf
      with_reducible refine IfB.ndec (fun h5 => ?_) (fun h5 => ?_)
      · conv => whnf
        exact ⟨by rw [decide_eq_false (ne_of_get hx11 hx13 h5)], Ext.trans hE9 e2⟩
      · conv => whnf
        refine SemK.add (((k + 1 : Nat) : Int)) (by omega) (by omega) (by omega) ?_
        conv => whnf
        exact ⟨k + 1, by omega, rfl, by omega, take_eq_snoc hall hx11 hx13 h5, Ext.trans hE9 e2⟩
    · conv => whnf
      have kn15 : k = n := by omega
      have tk16 : List.take k xs = xs := List.take_of_length_le (by omega)
      refine ⟨?_, hE9⟩
      · exact congrArg Value.bool (decide_eq_true (by rw [← List.take_of_length_le (show xs.length ≤ k by omega), hall, List.take_of_length_le (by omega)])).symm
end Go.Proofs.YtkjmbjedbmblmaaGreatDoor
