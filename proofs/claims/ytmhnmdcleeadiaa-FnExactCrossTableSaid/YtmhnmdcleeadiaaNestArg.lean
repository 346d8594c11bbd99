/- Contracts of functions of the given program, of the reference and of the laws: each says what a call returns, for all arguments that meet the premises that the theorem itself names. -/
import Derived.Test.YtmhnmdcleeadiaaNestOwn
import Derived.Test.YtmhnmdcleeadiaaVcOpen
namespace Go.Proofs.Ytmhnmdcleeadiaa
open Go Go.RowKit Go.Vc Go.M Go.ChangeShapes Go.WideShapes Go.ChangeAt
theorem nest_Card {H : Type} {enc : TypeId × Value → H} (W : World) {fuel : Nat} {cs : List Value} {x : DataW H × List MemPlace} (h : DataW.trod enc Try.prog W 0 (fun _ => true) true fuel 80 cs = some x) :
    ∃ d y, cs = eH d ∧ RCard W d y ∧ ∀ v ∈ y, i64ok v := by
  have hl1 : cs.length = 1 := (trod_field Try.underlying80 h).1.trans (by kernel_rfl)
  obtain ⟨n, y, h0⟩ := trod_at Try.underlying80 h 0 rfl (ft := 78) (off := 0) (sz := 1) rfl rfl (by kernel_rfl)
  have e : (cs.drop 0).take 1 = cs := by rw [List.drop_zero, List.take_of_length_le (by omega)]
  rw [e] at h0
  obtain ⟨d, xs, e1, A, ok, hc⟩ := trod_arr (encα := eI) (ok := i64ok) (sz := 1) Try.underlying78 (by kernel_rfl) (by omega) (fun n cs x h => let ⟨n2, h1, _, h2⟩ := DataW.trod_int Try.underlying2 h; ⟨n2, h1, i64ok_of_wf h2⟩) eI_len h0
  exact ⟨d, xs, e1, ⟨A, hc⟩, ok⟩
set_option maxRecDepth 100000 in
theorem open_CardS {H : Type} {enc : TypeId × Value → H} (W : World) {v : Value} {d : DataW H} {p : List MemPlace} {base : Nat} (hok : Value.okWide Try.prog W .any base 36 v) (h : DataW.Trod enc Try.prog W 0 (fun _ => true) true 36 v d p) :
    ∃ a n c xs, v = .slice a n c ∧ ArrS RCard W a n xs ∧ ∀ x ∈ xs, ∀ y ∈ x, i64ok y := by
  obtain ⟨s, n, rfl, hf⟩ := open_any Try.underlying36 hok h
  obtain ⟨d, xs, e1, A, ok, hc⟩ := trod_nest (R := RCard) (ok := fun y => ∀ v ∈ y, i64ok v) Try.underlying36 (by kernel_rfl) (fun n cs x h => nest_Card W h) hf
  simp only [eH, List.cons.injEq, Value.slice.injEq, and_true] at e1
  obtain ⟨e1, e2, e3⟩ := e1
  exact ⟨_, _, _, xs, rfl, by rw [e1, e2]; exact A, ok⟩
end Go.Proofs.Ytmhnmdcleeadiaa
