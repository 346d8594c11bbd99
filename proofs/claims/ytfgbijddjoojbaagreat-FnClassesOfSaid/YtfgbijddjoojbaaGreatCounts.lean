/- Contracts of functions of the given program, of the reference and of the laws: each says what a call returns, for all arguments that meet the premises that the theorem itself names. -/
import Derived.Test.YtfgbijddjoojbaaGreatLibSl
namespace Go.M
open Go Go.Vc
def countsB (l : List Int) : Bool := decide (l.length ≤ 40) && !l.any (fun n => !inB n 0 1000000)
theorem countsB_row {l : List Int} (hl : l.length ≤ 40) : ∀ {k : Nat}, (∀ j x, j < k → l[j]? = some x → inB x 0 1000000 = true) → l.length ≤ k → countsB l = true := by
  intro k h hk
  simp only [countsB, Bool.and_eq_true, decide_eq_true_eq, Bool.not_eq_true']
  refine ⟨hl, ?_⟩
  rw [List.any_eq_false]
  intro x hx
  obtain ⟨j, hj⟩ := List.mem_iff_getElem?.1 hx
  have := h j x (by have := (List.getElem?_eq_some_iff.1 hj).1; omega) hj
  simp [this]
theorem countsB_bad {l : List Int} {k : Nat} {x : Int} (h : l[k]? = some x) (hx : inB x 0 1000000 = false) : countsB l = false := by
  have : l.any (fun n => !inB n 0 1000000) = true := List.any_eq_true.2 ⟨x, List.mem_of_getElem? h, by simp [hx]⟩
  simp [countsB, this]
theorem all_take' {α : Type} {p : α → Bool} {xs : List α} {k : Nat} {x : α} (h : xs[k]? = some x) (ha : (xs.take k).all p = true) (hp : p x = true) : (xs.take (k + 1)).all p = true := by
  rw [List.take_add_one, h, List.all_append, ha]; simp [hp]
theorem countsB_spec {l : List Int} (h : countsB l = true) : l.length ≤ 40 ∧ ∀ x ∈ l, 0 ≤ x ∧ x ≤ 1000000 := by
  simp only [countsB, Bool.and_eq_true, decide_eq_true_eq, Bool.not_eq_true'] at h
  refine ⟨h.1, fun x hx => ?_⟩
  have h2 := List.any_eq_false.1 h.2 x hx
  simp only [Bool.not_eq_true, Bool.not_eq_false', inB, Bool.and_eq_true, decide_eq_true_eq] at h2
  exact h2
end Go.M
namespace Go.Proofs.YtfgbijddjoojbaaGreat
open Go Go.RowKit Go.Vc Go.M
theorem impl_areCounts1 (x : Int) (w : World) : Does Tryz.prog 81 [.int .i64 x] w (fun v w' => v = .bool (!inB x 0 1000000) ∧ Ext w w') := by
  refine Does.of_vc tabok Tryz.func81 rfl rfl rfl (by kernel_rfl) ?_; conv => whnf
  refine (impl_inside _ _ _ _).mono ?_
  rintro _ _ ⟨rfl, rfl⟩
  conv => whnf
  exact ⟨rfl, Ext.refl _⟩
theorem impl_areCounts {w : World} {a : Option Addr} {n c : Nat} {xs : List Int} (h : Arr eI 1 w a n xs) :
    Does Tryz.prog 39 [.slice a n c] w (fun v w' => v = .bool (countsB xs) ∧ Ext w w') := by
  have hn := h.len
  have hC : Does Tryz.prog 80 [.slice a n c, .func (.func 81) #[] #[]] w (fun v w' => v = .bool (xs.any (fun n => !inB n 0 1000000)) ∧ Ext w w') := lib_ContainsFuncInt h (p := fun n => !inB n 0 1000000) (cap := []) (fun x _ w' _ => impl_areCounts1 x w')
  unfold countsB
  by_cases hl : n ≤ 40
  · have hl' : xs.length ≤ 40 := by omega
    refine Does.of_vc tabok Tryz.func39 rfl rfl rfl (by kernel_rfl) ?_; conv => whnf
    refine IfB.yes (by omega) ?_
    conv => whnf
    refine (hC).mono ?_
    rintro _ w2 ⟨rfl, e1⟩
    conv => whnf
    exact ⟨by simp [*], e1⟩
  · have hl' : ¬ xs.length ≤ 40 := by omega
    refine Does.of_vc tabok Tryz.func39 rfl rfl rfl (by kernel_rfl) ?_; conv => whnf
    refine IfB.no (by omega) ?_
    conv => whnf
    exact ⟨by simp [*], Ext.refl _⟩
end Go.Proofs.YtfgbijddjoojbaaGreat
