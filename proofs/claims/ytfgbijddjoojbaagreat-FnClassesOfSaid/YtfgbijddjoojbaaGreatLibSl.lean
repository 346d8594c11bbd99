/- Contracts of functions of the given program, of the reference and of the laws: each says what a call returns, for all arguments that meet the premises that the theorem itself names. -/
import Derived.Test.YtfgbijddjoojbaaGreatBoxes
import Derived.Test.YtfgbijddjoojbaaGreatParts
import Derived.Test.YtfgbijddjoojbaaGreatBasics
import Derived.Test.YtfgbijddjoojbaaGreatVcApp
namespace Go.Proofs.YtfgbijddjoojbaaGreat
open Go Go.RowKit Go.Vc Go.M
theorem lib_IndexFuncInt {w : World} {a : Option Addr} {n c g : Nat} {xs : List Int} (h : Arr eI 1 w a n xs) {p : Int → Bool} {cap : List Value}
    (hg : ∀ x ∈ xs, ∀ w', Ext w w' → Does Tryz.prog g (.int .i64 x :: cap) w' (fun v w'' => v = .bool (p x) ∧ Ext w' w'')) :
    Does Tryz.prog 118 [.slice a n c, .func (.func g) ⟨[]⟩ ⟨cap⟩] w (fun v w' => v = .int .i64 (idxI p xs) ∧ Ext w w') := by
  have hn := h.len
  have hm := h.le
  refine Does.of_vc tabok Tryz.func118 rfl rfl rfl (by kernel_rfl) ?_; conv => whnf
  refine LoopK.rule [0, 1, 7, 8] (fun (k : Nat) vs w' => vs = [.slice a n c, .func (.func g) ⟨[]⟩ ⟨cap⟩, .int .i64 n, .int .i64 k] ∧ k ≤ n ∧ (xs.take k).any p = false ∧ Ext w w') (fun k => n - k) tab tabok (by kernel_rfl) 0 ⟨rfl, by omega, by simp, Ext.refl _⟩ ?_
  rintro k g' _ w' ⟨rfl, hk, hall, hE⟩
  conv => whnf
  with_reducible refine IfB.dec (fun h4 => ?_) (fun h4 => ?_)
  · obtain ⟨x, hx⟩ : ∃ x, xs[k]? = some x := get_of_lt (by omega)
    have hgx := hg x (List.mem_of_getElem? hx)
    conv => whnf
    refine SemK.index (by kernel_rfl) (h.ext hE) k rfl hx ?_
    intro b o _ hb
    conv => whnf
    refine SemK.load0 (by kernel_rfl) hb rfl ?_
    conv => whnf
    refine (hgx w' hE).mono ?_
    rintro _ w2 ⟨rfl, e2⟩
    conv => whnf
    with_reducible refine IfB.split (fun h5 => ?_) (fun h5 => ?_)
    · conv => whnf
      exact ⟨by rw [idxI_at hall hx h5], Ext.trans hE e2⟩
    · conv => whnf
      refine SemK.add (((k + 1 : Nat) : Int)) (by omega) (by omega) (by omega) ?_
      conv => whnf
      exact ⟨k + 1, by omega, rfl, by omega, by rw [any_take_succ hx, hall, h5]; rfl, Ext.trans hE e2⟩
  · conv => whnf
    rw [List.take_of_length_le (by omega)] at hall
    exact ⟨by rw [idxI_neg hall], hE⟩
theorem lib_ContainsFuncInt {w : World} {a : Option Addr} {n c g : Nat} {xs : List Int} (h : Arr eI 1 w a n xs) {p : Int → Bool} {cap : List Value}
    (hg : ∀ x ∈ xs, ∀ w', Ext w w' → Does Tryz.prog g (.int .i64 x :: cap) w' (fun v w'' => v = .bool (p x) ∧ Ext w' w'')) :
    Does Tryz.prog 80 [.slice a n c, .func (.func g) ⟨[]⟩ ⟨cap⟩] w (fun v w' => v = .bool (xs.any p) ∧ Ext w w') := by
  refine Does.of_vc tabok Tryz.func80 rfl rfl rfl (by kernel_rfl) ?_; conv => whnf
  refine (lib_IndexFuncInt h hg).mono ?_
  rintro _ w2 ⟨rfl, e2⟩
  conv => whnf
  refine ⟨?_, e2⟩
  congr 1
  cases ha : xs.any p with
  | true => exact decide_eq_true (idxI_nonneg ha)
  | false => rw [idxI_neg ha]; rfl
end Go.Proofs.YtfgbijddjoojbaaGreat
