/- The statement on the law ValidNote is proved, as it is given: for every input the law returns true and each argument reads as before. No conditions. -/
import Derived.Test.YtenpdgodolkpaaaNotes
import Derived.Test.YtenpdgodolkpaaaLiftBase
namespace Go.Proofs.Ytenpdgodolkpaaa
open Go Go.RowKit Go.Vc Go.M Go.ChangeShapes Go.WideShapes Go.ChangeAt
theorem law_ValidNote {x : TNote} (hx : x.ok) (w : World) : Does Try.prog 4 [.agg ⟨x.enc⟩] w (fun v w' => v = .bool true ∧ Ext w w') := by
  refine Does.of_vc tabok Try.func4 rfl rfl rfl (by kernel_rfl) ?_; conv => whnf
  refine SemK.box ?_
  intro b w1 _ _ e1 hB
  have hc : Cells w1 b 0 x.enc := hB.cells
  conv => whnf
  refine SemK.loadAgg (by kernel_rfl) (n := 4) hc rfl ?_
  conv => whnf
  refine (laws_szNote hx (left := 1048576) (by omega) (by omega) w1).mono ?_
  rintro _ w2 ⟨r, rfl, _, e2⟩
  conv => whnf
  with_reducible refine IfB.dec (fun h1 => ?_) (fun h1 => ?_)
  · conv => whnf
    exact ⟨rfl, Ext.trans e1 e2⟩
  conv => whnf
  have hc2 := hc.ext e2
  refine SemK.loadAgg (by kernel_rfl) (n := 4) hc2 rfl ?_
  conv => whnf
  refine (laws_toNote x w2).mono ?_; rintro _ w3 ⟨rfl, e3⟩; conv => whnf
  refine (spec_ValidNote hx w3).mono ?_; rintro _ w4 ⟨rfl, e4⟩; conv => whnf
  have hc4 := (hc2.ext e3).ext e4
  refine SemK.loadAgg (by kernel_rfl) (n := 4) hc4 rfl ?_
  conv => whnf
  refine (laws_toNote x w4).mono ?_; rintro _ w5 ⟨rfl, e5⟩; conv => whnf
  refine (impl_ValidNote hx w5).mono ?_; rintro _ w6 ⟨rfl, e6⟩; conv => whnf
  refine SemK.neqBool (by kernel_rfl) ?_
  conv => whnf
  refine IfB.eqf (by simp) ?_
  conv => whnf
  exact ⟨rfl, Ext.trans e1 (Ext.trans e2 (Ext.trans e3 (Ext.trans e4 (Ext.trans e5 e6))))⟩
theorem open_ValidNote {H : Type} {enc : TypeId × Value → H} {base : Nat} (W : World) (args : List Value) (ds : List (DataW H)) (p : List MemPlace) (hA : DataW.TrodAll enc Try.prog W 0 (fun _ => true) true (Try.f4).params.toList args ds p)
    (hv : ∀ (j : Nat) t v, (Try.f4).params[j]? = some t → args[j]? = some v → Value.okWide Try.prog W .any base t v) : Does Try.prog 4 args W (fun v w' => v = .bool true ∧ Ext W w') := by
  have e : (Try.f4).params.toList = [28] := rfl
  rw [e] at hA
  obtain ⟨v0, vs0, d0, ds0, p0, q0, rfl, rfl, rfl, h0, r0⟩ := trodAll_cons hA
  obtain ⟨rfl, rfl, rfl⟩ := trodAll_nil r0
  obtain ⟨cs, rfl, hf⟩ := open_flat (ks := [false, false, false, true]) (by kernel_rfl) (hv 0 28 v0 rfl rfl) h0
  obtain ⟨x, rfl, hx⟩ := TNote.of_flat hf
  exact law_ValidNote hx W
set_option maxRecDepth 100000 in
theorem FnExactValidNote_lifted (os : Os) (started : os.Started) (H : Type) (enc : TypeId × Value → H) :
    ReturnsInHanded {} Try.checked os 4 .any (Rows.fnExactValidNoteSpec.pre6 enc Try.prog Try.f4 Rows.fnExactValidNoteRow.domain false) (Rows.fnExactValidNoteSpec.post enc Try.prog Try.f4 false true false false) := by
  refine returnsInHanded_of_change (C := Try.checked) law_own started (by kernel_rfl) Try.func4
    (ChangeSpec.witness6 (enc := enc) (C := Try.checked) false ⟨#[], #[.agg #[.int .i64 0, .int .i64 0, .int .i64 0, .string { data := #[] }]], []⟩ 8 (by kernel_rfl) (by kernel_rfl) (by kernel_rfl) (by kernel_rfl)) ?_
  intro W base args ds gs before hval hW _ _
  exact law_contract (P := Try.prog) (fn := Try.f4) (s := Rows.fnExactValidNoteSpec) rfl rfl Try.underlying4 law_laid (by kernel_rfl)
    (fun ds h => match ds, h with | [d0], _ => ⟨rfl, rfl, rfl⟩) (fun W args ds p hA hv => open_ValidNote W args ds p hA hv) W args ds gs before hval hW
theorem FnExactValidNote_holds : Rows.FnExactValidNoteSaid :=
  OpenClaim.holds_of_wide 4 Try.f4 rfl rfl rfl rfl rfl rfl rfl ⟨rfl, rfl, rfl, rfl, rfl⟩ rfl rfl rfl rfl rfl (by kernel_rfl) Try.func4 (by kernel_rfl)
    (of_decide_eq_true (by kernel_rfl)) (by unfold Func.isWrapper; first | (rw [if_pos (by decide +kernel)]; kernel_rfl) | (rw [if_neg (by decide +kernel)]; exact ⟨rfl, rfl⟩))
    (fun os started H enc _ => FnExactValidNote_lifted os started H enc)

end Go.Proofs.Ytenpdgodolkpaaa
