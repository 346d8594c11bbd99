/- The statement on the law ValueClasses is proved, as it is given: for every input the law returns true and each argument reads as before. No conditions. -/
import Derived.Test.YtkeeebdfjoefgaaStock2
import Derived.Test.YtkeeebdfjoefgaaLiftBase
namespace Go.Proofs.Ytkeeebdfjoefgaa
open Go Go.RowKit Go.Vc Go.M Go.ChangeShapes Go.WideShapes Go.ChangeAt
open Go.ChangeMaps (open_string)
set_option linter.unusedVariables false in
theorem law_ValueClasses {w : World} {a0 : Option Addr} {n0 c0 : Nat} {x0 : List TPart} (h0 : Arr TPart.enc 4 w a0 n0 x0) (ok0 : ∀ x ∈ x0, x.ok) : Does Try.prog 5 [.slice a0 n0 c0] w (fun v w' => v = .bool true ∧ Ext w w') := by
  have len0 := h0.len
  refine Does.of_vc tabok Try.func5 rfl rfl rfl (by kernel_rfl) ?_; conv => whnf
  refine (laws_szPartS h0 ok0 (left := 1048576) (by omega) (by omega)).mono ?_
  rintro _ w1 ⟨r0, rfl, hr0, e1⟩
  have E1 : Ext w w1 := e1
  have s1 : w.heap.size ≤ w1.heap.size := e1.size
  conv => whnf
  with_reducible refine IfB.dec (fun t0 => ?_) (fun t0 => ?_)
  · conv => whnf
    exact ⟨rfl, E1⟩
  conv => whnf
  have hs0 : 0 ≤ r0 ∧ r0 ≤ 1048576 ∧ n0 ≤ 1048576 := by rcases hr0 with hr | ⟨hr, hr'⟩ <;> omega
  refine (laws_toPartS (h0.ext E1) (by omega)).mono ?_
  rintro _ w2 ⟨bs0, rfl, gs0, e2, Os0⟩
  have news0 := NewAt.some gs0
  have lts0 := Os0.lt
  have E2 : Ext w w2 := Ext.trans E1 e2
  have s2 : w1.heap.size ≤ w2.heap.size := e2.size
  conv => whnf
  refine (spec_ValueClasses (Os0.arr TPart.enc_len) ok0).mono ?_
  rintro _ w3 ⟨rfl, e3⟩
  have E3 : Ext w w3 := Ext.trans E2 e3
  have s3 : w2.heap.size ≤ w3.heap.size := e3.size
  conv => whnf
  refine (laws_toPartS (h0.ext E3) (by omega)).mono ?_
  rintro _ w4 ⟨bx0, rfl, gx0, e4, Ox0⟩
  have newx0 := NewAt.some gx0
  have ltx0 := Ox0.lt
  have E4 : Ext w w4 := Ext.trans E3 e4
  have s4 : w3.heap.size ≤ w4.heap.size := e4.size
  conv => whnf
  refine (impl_ValueClasses (Ox0.arr TPart.enc_len) ok0 (Nat.le_refl _)).mono ?_
  rintro _ w5 ⟨rfl, e5⟩
  have E5 : Ext w w5 := Ext.trans E4 e5
  have s5 : w4.heap.size ≤ w5.heap.size := e5.size
  conv => whnf
  refine IfB.eqf (by simp) ?_
  conv => whnf
  refine IfB.eqf (by simp) ?_
  conv => whnf
  refine (laws_toPartS (h0.ext E5) (by omega)).mono ?_
  rintro _ w6 ⟨by0, rfl, gy0, e6, Oy0⟩
  have newy0 := NewAt.some gy0
  have lty0 := Oy0.lt
  have E6 : Ext w w6 := Ext.trans E5 e6
  have s6 : w5.heap.size ≤ w6.heap.size := e6.size
  conv => whnf
  refine (laws_eqPartS (((Ox0.ext e5).ext e6).arr TPart.enc_len) (Oy0.arr TPart.enc_len)).mono ?_
  rintro _ w7 ⟨rfl, e7⟩
  have E7 : Ext w w7 := Ext.trans E6 e7
  have s7 : w6.heap.size ≤ w7.heap.size := e7.size
  conv => whnf
  refine IfB.eqf (by simp) ?_
  conv => whnf
  exact ⟨rfl, E7⟩
set_option maxRecDepth 100000 in
theorem open_ValueClasses {H : Type} {enc : TypeId × Value → H} {base : Nat} (W : World) (args : List Value) (ds : List (DataW H)) (p : List MemPlace) (hA : DataW.TrodAll enc Try.prog W 0 (fun _ => true) true (Try.f5).params.toList args ds p)
    (hv : ∀ (j : Nat) t v, (Try.f5).params[j]? = some t → args[j]? = some v → Value.okWide Try.prog W .any base t v) : Does Try.prog 5 args W (fun v w' => v = .bool true ∧ Ext W w') := by
  have e : (Try.f5).params.toList = [30] := rfl
  rw [e] at hA
  obtain ⟨v0, vs0, d0, ds0, p0, q0, rfl, rfl, rfl, g0, r0⟩ := trodAll_cons hA
  obtain ⟨rfl, rfl, rfl⟩ := trodAll_nil r0
  obtain ⟨a0, n0, c0, x0, rfl, h0, ok0⟩ := open_arr (encα := TPart.enc) (ok := TPart.ok) (sz := 4) Try.underlying30 (by kernel_rfl) (by omega) (fun n cs x h => TPart.of_flat (trod_flat (ks := [true, false, false, false]) (by kernel_rfl) h)) TPart.enc_len (hv 0 30 v0 (by rw [← Array.getElem?_toList, e]; rfl) rfl) g0
  exact law_ValueClasses h0 ok0
set_option maxRecDepth 100000 in
theorem FnExactValueClasses_lifted (os : Os) (started : os.Started) (H : Type) (enc : TypeId × Value → H) :
    ReturnsInHanded {} Try.checked os 5 .any (Rows.fnExactValueClassesSpec.pre6 enc Try.prog Try.f5 Rows.fnExactValueClassesRow.domain false) (Rows.fnExactValueClassesSpec.post enc Try.prog Try.f5 false true false false) := by
  refine returnsInHanded_of_change (C := Try.checked) law_own started (by kernel_rfl) Try.func5
    (ChangeSpec.witness6 (enc := enc) (C := Try.checked) false ⟨#[], #[.slice none 0 0], []⟩ 8 (by kernel_rfl) (by kernel_rfl) (by kernel_rfl) (by kernel_rfl)) ?_
  intro W base args ds gs before hval hW _ _
  exact law_contract (P := Try.prog) (fn := Try.f5) (s := Rows.fnExactValueClassesSpec) rfl rfl Try.underlying4 law_laid (by kernel_rfl)
    (fun ds h => match ds, h with | [d0], _ => ⟨rfl, rfl, rfl⟩) (fun W args ds p hA hv => open_ValueClasses W args ds p hA hv) W args ds gs before hval hW
theorem FnExactValueClasses_holds : Rows.FnExactValueClassesSaid :=
  OpenClaim.holds_of_wide 5 Try.f5 rfl rfl rfl rfl rfl rfl rfl ⟨rfl, rfl, rfl, rfl, rfl⟩ rfl rfl rfl rfl rfl (by kernel_rfl) Try.func5 (by kernel_rfl)
    (of_decide_eq_true (by kernel_rfl)) (by unfold Func.isWrapper; first | (rw [if_pos (by decide +kernel)]; kernel_rfl) | (rw [if_neg (by decide +kernel)]; exact ⟨rfl, rfl⟩))
    (fun os started H enc _ => FnExactValueClasses_lifted os started H enc)

end Go.Proofs.Ytkeeebdfjoefgaa
