/- Contracts of functions of the given program, of the reference and of the laws: each says what a call returns, for all arguments that meet the premises that the theorem itself names. -/
import Derived.Test.YtpjeooikjcdbpaaDoorNestOwn
import Derived.Test.YtpjeooikjcdbpaaDoorVcOpen
namespace Go.Proofs.YtpjeooikjcdbpaaDoor
open Go Go.RowKit Go.Vc Go.M Go.ChangeShapes Go.WideShapes Go.ChangeAt
theorem nest_Int64S {H : Type} {enc : TypeId × Value → H} (W : World) {fuel : Nat} {cs : List Value} {x : DataW H × List MemPlace} (h : DataW.trod enc Tryd.prog W 0 (fun _ => true) true fuel 51 cs = some x) :
    ∃ d y, cs = eH d ∧ RCard W d y ∧ True := by
  obtain ⟨d, xs, e1, A, _, hc⟩ := trod_arr (encα := eI) (ok := fun _ => True) (sz := 1) Tryd.underlying51 (by kernel_rfl) (by omega) (fun n cs x h => let ⟨n2, h1, _, _⟩ := DataW.trod_int Tryd.underlying2 h; ⟨n2, h1, trivial⟩) eI_len h
  exact ⟨d, xs, e1, ⟨A, hc⟩, trivial⟩
set_option maxRecDepth 100000 in
theorem open_Int64SS {H : Type} {enc : TypeId × Value → H} (W : World) {v : Value} {d : DataW H} {p : List MemPlace} {base : Nat} (hok : Value.okWide Tryd.prog W .any base 22 v) (h : DataW.Trod enc Tryd.prog W 0 (fun _ => true) true 22 v d p) :
    ∃ a n c xs, v = .slice a n c ∧ ArrS RCard W a n xs := by
  obtain ⟨s, n, rfl, hf⟩ := open_any Tryd.underlying22 hok h
  obtain ⟨d, xs, e1, A, _, hc⟩ := trod_nest (R := RCard) (ok := fun _ => True) Tryd.underlying22 (by kernel_rfl) (fun n cs x h => nest_Int64S W h) hf
  simp only [eH, List.cons.injEq, Value.slice.injEq, and_true] at e1
  obtain ⟨e1, e2, e3⟩ := e1
  exact ⟨_, _, _, xs, rfl, by rw [e1, e2]; exact A⟩
end Go.Proofs.YtpjeooikjcdbpaaDoor
