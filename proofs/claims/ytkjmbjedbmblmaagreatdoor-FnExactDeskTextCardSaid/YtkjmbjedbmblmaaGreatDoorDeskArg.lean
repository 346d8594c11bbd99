/- Contracts of functions of the given program, of the reference and of the laws: each says what a call returns, for all arguments that meet the premises that the theorem itself names. -/
import Derived.Test.YtkjmbjedbmblmaaGreatDoorSame
import Derived.Test.YtkjmbjedbmblmaaGreatDoorVcApp
import Derived.Test.YtkjmbjedbmblmaaGreatDoorLiftBase
import Derived.Test.YtkjmbjedbmblmaaGreatDoorSeatMain
import Derived.Test.YtkjmbjedbmblmaaGreatDoorTie
import Derived.Test.YtkjmbjedbmblmaaGreatDoorCards
namespace Go.M
open Go Go.Vc
def deskOk (s : ByteArray) (Y : List (List TTotal)) : Prop := strok s ∧ ∀ x ∈ Y, okTots x
end Go.M
namespace Go.Proofs.YtkjmbjedbmblmaaGreatDoor
open Go Go.RowKit Go.Vc Go.M Go.ChangeShapes Go.WideShapes Go.ChangeAt
open Go.ChangeMaps (open_string)
set_option maxRecDepth 100000 in
theorem open_aCard {H : Type} {enc : TypeId × Value → H} (W : World) {fuel : Nat} {cs : List Value} {x : DataW H × List MemPlace} (h : DataW.trod enc Tryz.prog W 0 (fun _ => true) true fuel 164 cs = some x) :
    ∃ d y, cs = eH d ∧ RCard W d y ∧ True := by
  have hl1 : cs.length = 1 := (trod_field Tryz.underlying164 h).1.trans (by kernel_rfl)
  obtain ⟨n, y, h0⟩ := trod_at Tryz.underlying164 h 0 rfl (ft := 41) (off := 0) (sz := 1) rfl rfl (by kernel_rfl)
  have e : (cs.drop 0).take 1 = cs := by rw [List.drop_zero, List.take_of_length_le (by omega)]
  rw [e] at h0
  obtain ⟨d, xs, e1, A, _, hc⟩ := trod_arr (encα := eI) (ok := fun _ => True) (sz := 1) Tryz.underlying41 (by kernel_rfl) (by omega) (fun n cs x h => let ⟨n2, h1, _, _⟩ := DataW.trod_int Tryz.underlying2 h; ⟨n2, h1, trivial⟩) eI_len h0
  exact ⟨d, xs, e1, ⟨A, hc⟩, trivial⟩
theorem open_aDeck {H : Type} {enc : TypeId × Value → H} (W : World) {fuel : Nat} {cs : List Value} {x : DataW H × List MemPlace} (h : DataW.trod enc Tryz.prog W 0 (fun _ => true) true fuel 56 cs = some x) :
    ∃ d y, cs = eH d ∧ RDeck W d y ∧ True := by
  obtain ⟨d, xs, e1, A, _, hc⟩ := trod_nest (R := RCard) (ok := fun _ => True) Tryz.underlying56 (by kernel_rfl) (fun n cs x h => open_aCard W h) h
  exact ⟨d, xs, e1, ⟨A, hc⟩, trivial⟩
theorem open_aTots {H : Type} {enc : TypeId × Value → H} (W : World) {fuel : Nat} {cs : List Value} {x : DataW H × List MemPlace} (h : DataW.trod enc Tryz.prog W 0 (fun _ => true) true fuel 340 cs = some x) :
    ∃ d y, cs = eH d ∧ RTots W d y ∧ okTots y := by
  obtain ⟨d, xs, e1, A, hok, hc⟩ := trod_arr (encα := TTotal.enc) (ok := TTotal.ok) (sz := 2) Tryz.underlying340 (by kernel_rfl) (by omega) (fun n cs x h => TTotal.of_flat (trod_flat (ks := [true, false]) (by kernel_rfl) h)) TTotal.enc_len h
  exact ⟨d, xs, e1, ⟨A, hc⟩, hok⟩
set_option maxRecDepth 100000 in
theorem open_aDesk {H : Type} {enc : TypeId × Value → H} (W : World) {v : Value} {d : DataW H} {p : List MemPlace} {base : Nat} (hok : Value.okWide Tryz.prog W .any base 84 v) (h : DataW.Trod enc Tryz.prog W 0 (fun _ => true) true 84 v d p) :
    ∃ k s X Y, v = dkV k s ∧ DkR W k X Y ∧ deskOk s Y := by
  obtain ⟨cs, n, rfl, hf⟩ := open_agg Tryz.underlying84 hok h
  have hl3 : cs.length = 3 := (trod_field Tryz.underlying84 hf).1.trans (by kernel_rfl)
  obtain ⟨n0, y0, h0⟩ := trod_at Tryz.underlying84 hf 0 rfl (ft := 82) (off := 0) (sz := 2) rfl rfl (by kernel_rfl)
  obtain ⟨n1, y1, h1⟩ := trod_at Tryz.underlying84 hf 1 rfl (ft := 9) (off := 2) (sz := 1) rfl rfl (by kernel_rfl)
  obtain ⟨s, hs, _, hsok⟩ := DataW.trod_string Tryz.underlying9 h1
  obtain ⟨m0, z0, q0⟩ := trod_at Tryz.underlying82 h0 0 rfl (ft := 79) (off := 0) (sz := 1) rfl rfl (by kernel_rfl)
  obtain ⟨m1, z1, q1⟩ := trod_at Tryz.underlying82 h0 1 rfl (ft := 80) (off := 1) (sz := 1) rfl rfl (by kernel_rfl)
  obtain ⟨d0, X, eX, AX, _, cX⟩ := trod_nest (R := RDeck) (ok := fun _ => True) Tryz.underlying79 (by kernel_rfl) (fun n cs x h => open_aDeck W h) q0
  obtain ⟨d1, Y, eY, AY, okY, cY⟩ := trod_nest (R := RTots) (ok := okTots) Tryz.underlying80 (by kernel_rfl) (fun n cs x h => open_aTots W h) q1
  refine ⟨⟨d0.a, d0.n, d0.c, d1.a, d1.n, d1.c⟩, s, X, Y, ?_, ⟨AX, AY⟩, hsok, okY⟩
  match cs, hl3 with
  | [x, y, z], _ =>
    simp [eH] at eX eY hs
    subst eX eY hs
    rfl
end Go.Proofs.YtkjmbjedbmblmaaGreatDoor
