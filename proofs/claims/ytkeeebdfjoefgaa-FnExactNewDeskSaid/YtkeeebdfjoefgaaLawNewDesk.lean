/- The statement on the law NewDesk is proved, as it is given: for every input the law returns true and each argument reads as before. No conditions. -/
import Derived.Test.YtkeeebdfjoefgaaOffice
import Derived.Test.YtkeeebdfjoefgaaLiftBase
namespace Go.Proofs.Ytkeeebdfjoefgaa
open Go Go.RowKit Go.Vc Go.M Go.ChangeShapes Go.WideShapes Go.ChangeAt
theorem law_NewDesk {w : World} : Does Try.prog 14 [] w (fun v w' => v = .bool true ∧ Ext w w') := by
  refine Does.of_vc tabok Try.func14 rfl rfl rfl (by kernel_rfl) ?_; conv => whnf
  refine (spec_NewDesk).mono ?_
  rintro _ w1 ⟨a1, c1, rfl, R1, e1⟩
  conv => whnf
  refine SemK.alloc (z := .agg #[.slice none 0 0, .slice none 0 0, .string { data := #[] }]) (by kernel_rfl) ?_
  intro bA wA gA lA eA BA
  conv => whnf
  refine SemK.storeAll (vs := [Value.slice a1 6 c1, Value.slice none 0 0, Value.string { data := #[] }]) (by kernel_rfl) BA rfl rfl (by simp [cellish]) ?_
  intro wB cB BB
  have EB : Ext w1 wB := eA.but_trans cB.but gA
  have lB : bA < wB.heap.size := Nat.lt_of_lt_of_le lA cB.but.size
  conv => whnf
  refine (impl_NewDesk).mono ?_
  rintro _ w2 ⟨a2, c2, b2, d2, rfl, O2, e2⟩
  have s2 := e2.size
  conv => whnf
  refine SemK.alloc (z := .agg #[.slice none 0 0, .slice none 0 0, .string { data := #[] }]) (by kernel_rfl) ?_
  intro bC wC gC lC eC BC
  conv => whnf
  refine SemK.storeAll (vs := [Value.slice a2 6 c2, Value.slice b2 0 d2, Value.string { data := #[] }]) (by kernel_rfl) BC rfl rfl (by simp [cellish]) ?_
  intro wD cD BD
  have ED : Ext w2 wD := eC.but_trans cD.but gC
  have lD : bC < wD.heap.size := Nat.lt_of_lt_of_le lC cD.but.size
  have E2D := Ext.trans e2 ED
  conv => whnf
  refine SemK.loadAgg (n := 3) (by kernel_rfl) BD.cells rfl ?_
  conv => whnf
  refine SemK.loadAgg (n := 3) (by kernel_rfl) (BB.ext E2D).cells rfl ?_
  conv => whnf
  refine (laws_eqDesk (O2.ext ED).rd (R1.rd.ext (Ext.trans EB E2D))).mono ?_
  rintro _ w3 ⟨rfl, e3⟩
  conv => whnf
  have W3 : wtAll wtDeck (List.replicate 6 ([] : List (List Int))) = 0 := rfl
  have W4 : wtAll wtTots ([] : List (List TTotal)) = 0 := rfl
  have X3 : mkAll mkDeck wtDeck 1 (List.replicate 6 ([] : List (List Int))) = List.replicate 6 [] := rfl
  have s3 := e3.size
  refine SemK.loadAgg (n := 3) (by kernel_rfl) (BD.ext e3).cells rfl ?_
  conv => whnf
  refine (laws_markDesk (k0 := 1) ((O2.ext ED).ext e3) (by rw [W3, W4]; omega)).mono ?_
  rintro _ w4 ⟨rfl, M4, O4⟩
  rw [X3] at O4
  have s4 := M4.size
  have sB := EB.size
  have sD := ED.size
  conv => whnf
  have BD4 := (BD.ext e3).mod M4 (fun hk => by have := hk.2; omega)
  have BB4 := ((BB.ext E2D).ext e3).mod M4 (fun hk => by have := hk.1; omega)
  refine SemK.loadAgg (n := 3) (by kernel_rfl) BD4.cells rfl ?_
  conv => whnf
  refine (laws_heldDesk (k0 := 1) (X := List.replicate 6 []) (Y := []) O4.rd (by rw [W3, W4]; omega)).mono ?_
  rintro _ w5 ⟨rfl, e5⟩
  conv => whnf
  refine (impl_NewDesk).mono ?_
  rintro _ w6 ⟨a6, c6, b6, d6, rfl, O6, e6⟩
  conv => whnf
  refine SemK.alloc (z := .agg #[.slice none 0 0, .slice none 0 0, .string { data := #[] }]) (by kernel_rfl) ?_
  intro bE wE gE lE eE BE
  conv => whnf
  refine SemK.storeAll (vs := [Value.slice a6 6 c6, Value.slice b6 0 d6, Value.string { data := #[] }]) (by kernel_rfl) BE rfl rfl (by simp [cellish]) ?_
  intro wF cF BF
  have EF : Ext w6 wF := eE.but_trans cF.but gE
  have E46 := Ext.trans e5 e6
  have E4F := Ext.trans E46 EF
  conv => whnf
  refine SemK.loadAgg (n := 3) (by kernel_rfl) BF.cells rfl ?_
  conv => whnf
  refine SemK.loadAgg (n := 3) (by kernel_rfl) (BB4.ext E4F).cells rfl ?_
  conv => whnf
  have R4 : DeskR w4 a1 6 none 0 (List.replicate 6 []) [] := R1 w4 ((Ext.mod (Ext.trans EB (Ext.trans E2D e3))).trans (M4.mono fun k hk h => by have := hk.1; have := h.2; omega))
  refine (laws_eqDesk (O6.ext EF).rd (R4.ext E4F)).mono ?_
  rintro _ w7 ⟨rfl, e7⟩
  conv => whnf
  have E47 := Ext.trans E4F e7
  refine SemK.loadAgg (n := 3) (by kernel_rfl) (BD4.ext E47).cells rfl ?_
  conv => whnf
  refine (laws_heldDesk (k0 := 1) (X := List.replicate 6 []) (Y := []) (O4.rd.ext E47) (by rw [W3, W4]; omega)).mono ?_
  rintro _ w8 ⟨rfl, e8⟩
  conv => whnf
  refine ⟨rfl, ?_⟩
  have E3 : Ext w w3 := Ext.trans (Ext.trans e1 EB) (Ext.trans E2D e3)
  have E4 : Ext w w4 := E3.mod_trans M4 (fun k hk => by have := hk.1; have := e1.size; omega)
  exact Ext.trans E4 (Ext.trans E47 e8)
set_option maxRecDepth 100000 in
theorem open_NewDesk {H : Type} {enc : TypeId × Value → H} {base : Nat} (W : World) (args : List Value) (ds : List (DataW H)) (p : List MemPlace) (hA : DataW.TrodAll enc Try.prog W 0 (fun _ => true) true (Try.f14).params.toList args ds p)
    (_hv : ∀ (j : Nat) t v, (Try.f14).params[j]? = some t → args[j]? = some v → Value.okWide Try.prog W .any base t v) : Does Try.prog 14 args W (fun v w' => v = .bool true ∧ Ext W w') := by
  have e : (Try.f14).params.toList = [] := rfl
  rw [e] at hA
  obtain ⟨rfl, rfl, rfl⟩ := trodAll_nil hA
  exact law_NewDesk
set_option maxRecDepth 100000 in
theorem FnExactNewDesk_lifted (os : Os) (started : os.Started) (H : Type) (enc : TypeId × Value → H) :
    ReturnsInHanded {} Try.checked os 14 .any (Rows.fnExactNewDeskSpec.pre6 enc Try.prog Try.f14 Rows.fnExactNewDeskRow.domain false) (Rows.fnExactNewDeskSpec.post enc Try.prog Try.f14 false true false false) := by
  refine returnsInHanded_of_change (C := Try.checked) law_own started (by kernel_rfl) Try.func14
    (ChangeSpec.witness6 (enc := enc) (C := Try.checked) false ⟨#[], #[], []⟩ 8 (by kernel_rfl) (by kernel_rfl) (by kernel_rfl) (by kernel_rfl)) ?_
  intro W base args ds gs before hval hW _ _
  exact law_contract (P := Try.prog) (fn := Try.f14) (s := Rows.fnExactNewDeskSpec) rfl rfl Try.underlying4 law_laid (by kernel_rfl)
    (fun ds h => match ds, h with | [], _ => ⟨rfl, rfl, rfl⟩) (fun W args ds p hA hv => open_NewDesk W args ds p hA hv) W args ds gs before hval hW
theorem FnExactNewDesk_holds : Rows.FnExactNewDeskSaid :=
  OpenClaim.holds_of_wide 14 Try.f14 rfl rfl rfl rfl rfl rfl rfl ⟨rfl, rfl, rfl, rfl, rfl⟩ rfl rfl rfl rfl rfl (by kernel_rfl) Try.func14 (by kernel_rfl)
    (of_decide_eq_true (by kernel_rfl)) (by unfold Func.isWrapper; first | (rw [if_pos (by decide +kernel)]; kernel_rfl) | (rw [if_neg (by decide +kernel)]; exact ⟨rfl, rfl⟩))
    (fun os started H enc _ => FnExactNewDesk_lifted os started H enc)

end Go.Proofs.Ytkeeebdfjoefgaa
