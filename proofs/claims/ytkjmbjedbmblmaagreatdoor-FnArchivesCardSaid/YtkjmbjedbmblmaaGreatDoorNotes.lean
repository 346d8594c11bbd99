/- Contracts of functions of the given program, of the reference and of the laws: each says what a call returns, for all arguments that meet the premises that the theorem itself names. -/
import Derived.Test.YtkjmbjedbmblmaaGreatDoorFNote
namespace Go.M
open Go Go.Vc
def noteB (x : TNote) : Bool := inB x.tray 0 5 && inB x.count 0 100000 && inB x.sum (-999999999999) 999999999999 && nameB x.what
end Go.M
namespace Go.Proofs.YtkjmbjedbmblmaaGreatDoor
open Go Go.RowKit Go.Vc Go.M
theorem impl_isTray (n : Int) (w : World) : Does Tryz.prog 407 [.int .i64 n] w (fun v w' => v = .bool (inB n 0 5) ∧ w = w') := by
  refine Does.of_vc tabok Tryz.func407 rfl rfl rfl (by kernel_rfl) ?_; conv => whnf
  refine (impl_inside _ _ _ w).mono ?_; rintro _ _ ⟨rfl, rfl⟩; conv => whnf
  exact ⟨rfl, rfl⟩
theorem impl_isCardNumber (n : Int) (w : World) : Does Tryz.prog 408 [.int .i64 n] w (fun v w' => v = .bool (inB n (-999999999999) 999999999999) ∧ w = w') := by
  refine Does.of_vc tabok Tryz.func408 rfl rfl rfl (by kernel_rfl) ?_; conv => whnf
  refine (impl_inside _ _ _ w).mono ?_; rintro _ _ ⟨rfl, rfl⟩; conv => whnf
  exact ⟨rfl, rfl⟩
theorem spec_l15Tray (n : Int) (w : World) : Does Tryz.prog 406 [.int .i64 n] w (fun v w' => v = .bool (inB n 0 5) ∧ w = w') := by
  refine Does.of_vc tabok Tryz.func406 rfl rfl rfl (by kernel_rfl) ?_; conv => whnf
  refine (spec_in _ _ _ w).mono ?_; rintro _ _ ⟨rfl, rfl⟩; conv => whnf
  exact ⟨rfl, rfl⟩
theorem spec_l27Ok {x : TNote} (hx : x.ok) {b o : Nat} {w : World} (hc : Cells w b o x.enc) : Does Tryz.prog 383 [.pointer (some ⟨b, o, none⟩)] w (fun v w' => v = .bool (noteB x) ∧ w = w') := by
  refine Does.of_vc tabok Tryz.func383 rfl rfl rfl (by kernel_rfl) ?_; conv => whnf
  refine SemK.load1 (by kernel_rfl) hc (k := 0) rfl ?_
  conv => whnf
  refine (spec_l15Tray _ w).mono ?_; rintro _ _ ⟨rfl, rfl⟩; conv => whnf
  with_reducible refine IfB.split (fun h1 => ?_) (fun h1 => ?_)
  · conv => whnf
    refine SemK.load1 (by kernel_rfl) hc (k := 1) rfl ?_
    conv => whnf
    refine (spec_in _ _ _ w).mono ?_; rintro _ _ ⟨rfl, rfl⟩; conv => whnf
    with_reducible refine IfB.split (fun h2 => ?_) (fun h2 => ?_)
    · conv => whnf
      refine SemK.load1 (by kernel_rfl) hc (k := 2) rfl ?_
      conv => whnf
      refine (spec_in _ _ _ w).mono ?_; rintro _ _ ⟨rfl, rfl⟩; conv => whnf
      with_reducible refine IfB.split (fun h3 => ?_) (fun h3 => ?_)
      · conv => whnf
        refine SemK.load1 (by kernel_rfl) hc (k := 3) rfl ?_
        conv => whnf
        refine (spec_IsName _ hx.2.2.2 w).mono ?_; rintro _ _ ⟨rfl, rfl⟩; conv => whnf
        exact ⟨by simp only [noteB, h1, h2, h3, Bool.true_and], rfl⟩
      · conv => whnf
        exact ⟨by simp only [noteB, h1, h2, h3, Bool.true_and, Bool.false_and], rfl⟩
    · conv => whnf
      exact ⟨by simp only [noteB, h1, h2, Bool.true_and, Bool.false_and], rfl⟩
  · conv => whnf
    exact ⟨by simp only [noteB, h1, Bool.false_and], rfl⟩
theorem impl_ValidNote {x : TNote} (hx : x.ok) (w : World) : Does Tryz.prog 387 [.agg ⟨x.enc⟩] w (fun v w' => v = .bool (noteB x) ∧ Ext w w') := by
  refine Does.of_vc tabok Tryz.func387 rfl rfl rfl (by kernel_rfl) ?_; conv => whnf
  refine SemK.box ?_
  intro b w1 _ _ e1 hB
  have hc : Cells w1 b 0 x.enc := hB.cells
  conv => whnf
  refine SemK.load1 (by kernel_rfl) hc (k := 0) rfl ?_
  conv => whnf
  refine (impl_isTray _ w1).mono ?_; rintro _ _ ⟨rfl, rfl⟩; conv => whnf
  with_reducible refine IfB.split (fun h1 => ?_) (fun h1 => ?_)
  · conv => whnf
    refine SemK.load1 (by kernel_rfl) hc (k := 1) rfl ?_
    conv => whnf
    refine (impl_inside _ _ _ w1).mono ?_; rintro _ _ ⟨rfl, rfl⟩; conv => whnf
    with_reducible refine IfB.split (fun h2 => ?_) (fun h2 => ?_)
    · conv => whnf
      refine SemK.load1 (by kernel_rfl) hc (k := 2) rfl ?_
      conv => whnf
      refine (impl_isCardNumber _ w1).mono ?_; rintro _ _ ⟨rfl, rfl⟩; conv => whnf
      with_reducible refine IfB.split (fun h3 => ?_) (fun h3 => ?_)
      · conv => whnf
        refine SemK.load1 (by kernel_rfl) hc (k := 3) rfl ?_
        conv => whnf
        refine (impl_IsName _ hx.2.2.2 w1).mono ?_; rintro _ _ ⟨rfl, rfl⟩; conv => whnf
        exact ⟨by simp only [noteB, h1, h2, h3, Bool.true_and], e1⟩
      · conv => whnf
        exact ⟨by simp only [noteB, h1, h2, h3, Bool.true_and, Bool.false_and], e1⟩
    · conv => whnf
      exact ⟨by simp only [noteB, h1, h2, Bool.true_and, Bool.false_and], e1⟩
  · conv => whnf
    exact ⟨by simp only [noteB, h1, Bool.false_and], e1⟩
end Go.Proofs.YtkjmbjedbmblmaaGreatDoor
