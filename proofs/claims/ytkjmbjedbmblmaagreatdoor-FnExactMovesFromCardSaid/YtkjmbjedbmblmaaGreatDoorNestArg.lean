/- Contracts of functions of the given program, of the reference and of the laws: each says what a call returns, for all arguments that meet the premises that the theorem itself names. -/
import Derived.Test.YtkjmbjedbmblmaaGreatDoorNestOwn
import Derived.Test.YtkjmbjedbmblmaaGreatDoorVcOpen
namespace Go.Proofs.YtkjmbjedbmblmaaGreatDoor
open Go Go.RowKit Go.Vc Go.M Go.ChangeShapes Go.WideShapes Go.ChangeAt
theorem nest_Card {H : Type} {enc : TypeId × Value → H} (W : World) {fuel : Nat} {cs : List Value} {x : DataW H × List MemPlace} (h : DataW.trod enc Tryz.prog W 0 (fun _ => true) true fuel 164 cs = some x) :
    ∃ d y, cs = eH d ∧ RCard W d y ∧ ∀ v ∈ y, i64ok v := by
  have hl1 : cs.length = 1 := (trod_field Tryz.underlying164 h).1.trans (by kernel_rfl)
  obtain ⟨n, y, h0⟩ := trod_at Tryz.underlying164 h 0 rfl (ft := 41) (off := 0) (sz := 1) rfl rfl (by kernel_rfl)
  have e : (cs.drop 0).take 1 = cs := by rw [List.drop_zero, List.take_of_length_le (by omega)]
  rw [e] at h0
  obtain ⟨d, xs, e1, A, ok, hc⟩ := trod_arr (encα := eI) (ok := i64ok) (sz := 1) Tryz.underlying41 (by kernel_rfl) (by omega) (fun n cs x h => let ⟨n2, h1, _, h2⟩ := DataW.trod_int Tryz.underlying2 h; ⟨n2, h1, i64ok_of_wf h2⟩) eI_len h0
  exact ⟨d, xs, e1, ⟨A, hc⟩, ok⟩
set_option maxRecDepth 100000 in
theorem open_CardS {H : Type} {enc : TypeId × Value → H} (W : World) {v : Value} {d : DataW H} {p : List MemPlace} {base : Nat} (hok : Value.okWide Tryz.prog W .any base 56 v) (h : DataW.Trod enc Tryz.prog W 0 (fun _ => true) true 56 v d p) :
    ∃ a n c xs, v = .slice a n c ∧ ArrS RCard W a n xs ∧ ∀ x ∈ xs, ∀ y ∈ x, i64ok y := by
  obtain ⟨s, n, rfl, hf⟩ := open_any Tryz.underlying56 hok h
  obtain ⟨d, xs, e1, A, ok, hc⟩ := trod_nest (R := RCard) (ok := fun y => ∀ v ∈ y, i64ok v) Tryz.underlying56 (by kernel_rfl) (fun n cs x h => nest_Card W h) hf
  simp only [eH, List.cons.injEq, Value.slice.injEq, and_true] at e1
  obtain ⟨e1, e2, e3⟩ := e1
  exact ⟨_, _, _, xs, rfl, by rw [e1, e2]; exact A, ok⟩
end Go.Proofs.YtkjmbjedbmblmaaGreatDoor
