/- The statement on the law SameParts is proved, as it is given: for every input the law returns true and each argument reads as before. No conditions. -/
import Derived.Test.YtenpdgodolkpaaaFPart
import Derived.Test.YtenpdgodolkpaaaLiftBase
namespace Go.Proofs.Ytenpdgodolkpaaa
open Go Go.RowKit Go.Vc Go.M Go.ChangeShapes Go.WideShapes Go.ChangeAt
open Go.ChangeMaps (open_string)
theorem law_SameParts {w : World} {a0 : Option Addr} {n0 c0 : Nat} {x0 : List TPart} (h0 : Arr TPart.enc 4 w a0 n0 x0) (ok0 : ∀ x ∈ x0, x.ok) {a1 : Option Addr} {n1 c1 : Nat} {x1 : List TPart} (h1 : Arr TPart.enc 4 w a1 n1 x1) (ok1 : ∀ x ∈ x1, x.ok) : Does Try.prog 5 [.slice a0 n0 c0, .slice a1 n1 c1] w (fun v w' => v = .bool true ∧ Ext w w') := by
  have len0 := h0.len
  have len1 := h1.len
  refine Does.of_vc tabok Try.func5 rfl rfl rfl (by kernel_rfl) ?_; conv => whnf
  refine (laws_szPartS h0 ok0 (left := 1048576) (by omega) (by omega)).mono ?_
  rintro _ w1 ⟨r0, rfl, hr0, e1⟩
  have E1 : Ext w w1 := e1
  conv => whnf
  with_reducible refine IfB.dec (fun t0 => ?_) (fun t0 => ?_)
  · conv => whnf
    exact ⟨rfl, E1⟩
  conv => whnf
  have hs0 : 0 ≤ r0 ∧ r0 ≤ 1048576 ∧ n0 ≤ 1048576 := by rcases hr0 with hr | ⟨hr, hr'⟩ <;> omega
  refine (laws_szPartS (h1.ext E1) ok1 (left := r0) (by omega) (by omega)).mono ?_
  rintro _ w2 ⟨r1, rfl, hr1, e2⟩
  have E2 : Ext w w2 := Ext.trans E1 e2
  conv => whnf
  with_reducible refine IfB.dec (fun t1 => ?_) (fun t1 => ?_)
  · conv => whnf
    exact ⟨rfl, E2⟩
  conv => whnf
  have hs1 : 0 ≤ r1 ∧ r1 ≤ r0 ∧ n1 ≤ 1048576 := by rcases hr1 with hr | ⟨hr, hr'⟩ <;> omega
  refine (laws_toPartS (h0.ext E2) (by omega)).mono ?_
  rintro _ w3 ⟨bs0, rfl, gbs0, e3, Os0⟩
  have E3 : Ext w w3 := Ext.trans E2 e3
  conv => whnf
  refine (laws_toPartS (h1.ext E3) (by omega)).mono ?_
  rintro _ w4 ⟨bs1, rfl, gbs1, e4, Os1⟩
  have E4 : Ext w w4 := Ext.trans E3 e4
  conv => whnf
  refine (spec_SameParts ((Os0.ext e4).arr TPart.enc_len) (Os1.arr TPart.enc_len) ok0 ok1).mono ?_
  rintro _ w5 ⟨rfl, e5⟩
  have E5 : Ext w w5 := Ext.trans E4 e5
  conv => whnf
  refine (laws_toPartS (h0.ext E5) (by omega)).mono ?_
  rintro _ w6 ⟨bx0, rfl, gx0, e6, Ox0⟩
  have E6 : Ext w w6 := Ext.trans E5 e6
  conv => whnf
  refine (laws_toPartS (h1.ext E6) (by omega)).mono ?_
  rintro _ w7 ⟨bx1, rfl, gx1, e7, Ox1⟩
  have E7 : Ext w w7 := Ext.trans E6 e7
  conv => whnf
  refine (impl_SameParts ((Ox0.ext e7).arr TPart.enc_len) (Ox1.arr TPart.enc_len) ok0 ok1).mono ?_
  rintro _ w8 ⟨rfl, e8⟩
  have E8 : Ext w w8 := Ext.trans E7 e8
  conv => whnf
  refine SemK.neqBool (by kernel_rfl) ?_
  conv => whnf
  refine IfB.eqf (by simp) ?_
  conv => whnf
  refine (laws_toPartS (h0.ext E8) (by omega)).mono ?_
  rintro _ w9 ⟨by0, rfl, gy0, e9, Oy0⟩
  have E9 : Ext w w9 := Ext.trans E8 e9
  conv => whnf
  refine (laws_eqPartS ((((Ox0.ext e7).ext e8).ext e9).arr TPart.enc_len) (Oy0.arr TPart.enc_len)).mono ?_
  rintro _ w10 ⟨rfl, e10⟩
  have E10 : Ext w w10 := Ext.trans E9 e10
  conv => whnf
  refine IfB.eqf (by simp) ?_
  conv => whnf
  refine (laws_toPartS (h1.ext E10) (by omega)).mono ?_
  rintro _ w11 ⟨by1, rfl, gy1, e11, Oy1⟩
  have E11 : Ext w w11 := Ext.trans E10 e11
  conv => whnf
  refine (laws_eqPartS (((((Ox1.ext e8).ext e9).ext e10).ext e11).arr TPart.enc_len) (Oy1.arr TPart.enc_len)).mono ?_
  rintro _ w12 ⟨rfl, e12⟩
  have E12 : Ext w w12 := Ext.trans E11 e12
  conv => whnf
  refine IfB.eqf (by simp) ?_
  conv => whnf
  exact ⟨rfl, E12⟩
theorem open_SameParts {H : Type} {enc : TypeId × Value → H} {base : Nat} (W : World) (args : List Value) (ds : List (DataW H)) (p : List MemPlace) (hA : DataW.TrodAll enc Try.prog W 0 (fun _ => true) true (Try.f5).params.toList args ds p)
    (hv : ∀ (j : Nat) t v, (Try.f5).params[j]? = some t → args[j]? = some v → Value.okWide Try.prog W .any base t v) : Does Try.prog 5 args W (fun v w' => v = .bool true ∧ Ext W w') := by
  have e : (Try.f5).params.toList = [34, 34] := rfl
  rw [e] at hA
  obtain ⟨v0, vs0, d0, ds0, p0, q0, rfl, rfl, rfl, g0, r0⟩ := trodAll_cons hA
  obtain ⟨v1, vs1, d1, ds1, p1, q1, rfl, rfl, rfl, g1, r1⟩ := trodAll_cons r0
  obtain ⟨rfl, rfl, rfl⟩ := trodAll_nil r1
  obtain ⟨a0, n0, c0, x0, rfl, h0, ok0⟩ := open_arr (encα := TPart.enc) (ok := TPart.ok) (sz := 4) Try.underlying34 (by kernel_rfl) (by omega) (fun n cs x h => TPart.of_flat (trod_flat (ks := [true, false, false, false]) (by kernel_rfl) h)) TPart.enc_len (hv 0 34 v0 rfl rfl) g0
  obtain ⟨a1, n1, c1, x1, rfl, h1, ok1⟩ := open_arr (encα := TPart.enc) (ok := TPart.ok) (sz := 4) Try.underlying34 (by kernel_rfl) (by omega) (fun n cs x h => TPart.of_flat (trod_flat (ks := [true, false, false, false]) (by kernel_rfl) h)) TPart.enc_len (hv 1 34 v1 rfl rfl) g1
  exact law_SameParts h0 ok0 h1 ok1
set_option maxRecDepth 100000 in
theorem FnExactSameParts_lifted (os : Os) (started : os.Started) (H : Type) (enc : TypeId × Value → H) :
    ReturnsInHanded {} Try.checked os 5 .any (Rows.fnExactSamePartsSpec.pre6 enc Try.prog Try.f5 Rows.fnExactSamePartsRow.domain false) (Rows.fnExactSamePartsSpec.post enc Try.prog Try.f5 false true false false) := by
  refine returnsInHanded_of_change (C := Try.checked) law_own started (by kernel_rfl) Try.func5
    (ChangeSpec.witness6 (enc := enc) (C := Try.checked) false ⟨#[], #[.slice none 0 0,.slice none 0 0], []⟩ 8 (by kernel_rfl) (by kernel_rfl) (by kernel_rfl) (by kernel_rfl)) ?_
  intro W base args ds gs before hval hW _ _
  exact law_contract (P := Try.prog) (fn := Try.f5) (s := Rows.fnExactSamePartsSpec) rfl rfl Try.underlying4 law_laid (by kernel_rfl)
    (fun ds h => match ds, h with | [d0, d1], _ => ⟨rfl, rfl, rfl⟩) (fun W args ds p hA hv => open_SameParts W args ds p hA hv) W args ds gs before hval hW
theorem FnExactSameParts_holds : Rows.FnExactSamePartsSaid :=
  OpenClaim.holds_of_wide 5 Try.f5 rfl rfl rfl rfl rfl rfl rfl ⟨rfl, rfl, rfl, rfl, rfl⟩ rfl rfl rfl rfl rfl (by kernel_rfl) Try.func5 (by kernel_rfl)
    (of_decide_eq_true (by kernel_rfl)) (by unfold Func.isWrapper; first | (rw [if_pos (by decide +kernel)]; kernel_rfl) | (rw [if_neg (by decide +kernel)]; exact ⟨rfl, rfl⟩))
    (fun os started H enc _ => FnExactSameParts_lifted os started H enc)

end Go.Proofs.Ytenpdgodolkpaaa
