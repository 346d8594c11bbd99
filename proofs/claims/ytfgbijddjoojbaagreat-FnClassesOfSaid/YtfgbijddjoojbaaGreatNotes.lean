/- Contracts of functions of the given program, of the reference and of the laws: each says what a call returns, for all arguments that meet the premises that the theorem itself names. -/
import Derived.Test.YtfgbijddjoojbaaGreatFNote
namespace Go.M
open Go Go.Vc
def noteB (x : TNote) : Bool := inB x.tray 0 5 && inB x.count 0 100000 && inB x.sum (-999999999999) 999999999999 && nameB x.what
end Go.M
namespace Go.Proofs.YtfgbijddjoojbaaGreat
open Go Go.RowKit Go.Vc Go.M
theorem impl_isCardNumber (n : Int) (w : World) : Does Tryz.prog 69 [.int .i64 n] w (fun v w' => v = .bool (inB n (-999999999999) 999999999999) ∧ w = w') := by
  refine Does.of_vc tabok Tryz.func69 rfl rfl rfl (by kernel_rfl) ?_; conv => whnf
  refine (impl_inside _ _ _ w).mono ?_; rintro _ _ ⟨rfl, rfl⟩; conv => whnf
  exact ⟨rfl, rfl⟩
end Go.Proofs.YtfgbijddjoojbaaGreat
