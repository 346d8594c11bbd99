/- Contracts of functions of the given program, of the reference and of the laws: each says what a call returns, for all arguments that meet the premises that the theorem itself names. -/
import Derived.Test.YtkjmbjedbmblmaaGreatDoorVcLift
import Derived.Test.YtkjmbjedbmblmaaGreatDoorVcSrc
namespace Go.Vc
open Go Go.RowKit Go.ChangeShapes Go.WideShapes Go.ChangeAt
theorem byte_of_wf {n : Int} (h : (Lit.int .u8 n).wf = true) : ∃ c : UInt8, ((c.toNat : Nat) : Int) = n := by
  have h2 : 0 ≤ n ∧ n ≤ 255 := by
    simpa [Lit.wf, IntKind.min, IntKind.max, IntKind.signed, IntKind.bits] using h
  exact u8_of h2.1 h2.2
theorem open_byte {H : Type} {enc : TypeId × Value → H} {P : Program} {W : World} {t : Nat} {n : Nat} {cs : List Value} {x : DataW H × List MemPlace} (hu : P.underlying t = some (.int .u8)) (h : DataW.trod enc P W 0 (fun _ => true) true n t cs = some x) : ∃ y : UInt8, cs = eB y ∧ True := by
  obtain ⟨n2, h1, _, h2⟩ := DataW.trod_int hu h
  obtain ⟨c, rfl⟩ := byte_of_wf h2
  exact ⟨c, h1, trivial⟩
end Go.Vc
