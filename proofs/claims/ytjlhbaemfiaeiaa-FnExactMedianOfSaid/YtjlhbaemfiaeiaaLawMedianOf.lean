/- The statement on the law MedianOf is proved, as it is given: for every input the law returns true and each argument reads as before. No conditions. -/
import Derived.Test.YtjlhbaemfiaeiaaMed
import Derived.Test.YtjlhbaemfiaeiaaInts
import Derived.Test.YtjlhbaemfiaeiaaNestArg
import Derived.Test.YtjlhbaemfiaeiaaFField
import Derived.Test.YtjlhbaemfiaeiaaVcApp
import Derived.Test.YtjlhbaemfiaeiaaLiftBase
namespace Go.Proofs.Ytjlhbaemfiaeiaa
open Go Go.RowKit Go.Vc Go.M Go.ChangeShapes Go.WideShapes Go.ChangeAt
open Go.ChangeMaps (open_string)
set_option linter.unusedVariables false in
theorem law_MedianOf {w : World} {a0 : Option Addr} {n0 c0 : Nat} {x0 : List (List Int)} (h0 : ArrS RCard w a0 n0 x0) {x1 : TField} (ok1 : x1.ok) : Does Try.prog 7 [.slice a0 n0 c0, .agg ⟨x1.enc⟩] w (fun v w' => v = .bool true ∧ Ext w w') := by
  have len0 := h0.len
  have hToA : ∀ u, Ext w u → n0 + wtAll wtCard x0 ≤ 1048576 → Does Try.prog 52 [.slice a0 n0 c0] u (fun v w' => ∃ b, v = .slice (some ⟨b, 0, none⟩) n0 n0 ∧ u.heap.size ≤ b ∧ OwnN OCard w' u.heap.size w'.heap.size (some ⟨b, 0, none⟩) n0 138 x0 ∧ Ext u w') := fun u e h => laws_toCardSO (h0.ext e) h
  refine Does.of_vc tabok Try.func7 rfl rfl rfl (by kernel_rfl) ?_; conv => whnf
  refine SemK.box ?_
  intro b2 w2 g2 l2 e2 B2
  conv => whnf
  refine (laws_szCardSE (h0.ext e2) (by omega) (by omega)).mono ?_
  rintro _ w6 ⟨r3, rfl, q4, e5⟩
  have E6 := (Ext.trans e2 e5)
  conv => whnf
  with_reducible refine IfB.dec (fun h7 => ?_) (fun h7 => ?_)
  · conv => whnf
    exact ⟨rfl, E6⟩
  · conv => whnf
    refine DrawK.held tabok mixed [(0, false), (2, false), (1, true), (3, true), (4, true), (5, true), (6, false), (7, false), (8, true), (9, true)] (by kernel_rfl) (by kernel_rfl) ?_
    conv => whnf
    intro w8 e8
    conv => whnf
    refine DSemK.loadAgg (n := 2) (by kernel_rfl) (B2.ext e5).cells rfl ?_
    conv => whnf
    refine (hToA _ (Ext.trans E6 e8) (by omega)).mono ?_
    rintro _ w13 ⟨b9, rfl, q10, O11, e12⟩
    have E13 := (Ext.trans (Ext.trans E6 e8) e12)
    conv => whnf
    refine ⟨(Ext.trans e8 e12), ?_⟩
    conv => whnf
    refine (laws_toField _ _).mono ?_
    rintro _ w15 ⟨rfl, e14⟩
    have E15 := (Ext.trans E13 e14)
    conv => whnf
    refine ⟨(Ext.trans (Ext.trans e8 e12) e14), ?_⟩
    conv => whnf
    refine (spec_MedianOf (O11.ext e14).arr ok1 (by omega)).mono ?_
    rintro _ w17 ⟨rfl, e16⟩
    have E17 := (Ext.trans E15 e16)
    conv => whnf
    refine ⟨(Ext.trans (Ext.trans (Ext.trans e8 e12) e14) e16), ?_⟩
    conv => whnf
    refine (hToA _ E17 (by omega)).mono ?_
    rintro _ w22 ⟨b18, rfl, q19, O20, e21⟩
    have E22 := (Ext.trans E17 e21)
    conv => whnf
    refine SemK.loadAgg (n := 2) (by kernel_rfl) (B2.ext (Ext.trans (Ext.trans (Ext.trans (Ext.trans (Ext.trans e5 e8) e12) e14) e16) e21)).cells rfl ?_
    conv => whnf
    refine (laws_toField _ _).mono ?_
    rintro _ w24 ⟨rfl, e23⟩
    have E24 := (Ext.trans E22 e23)
    conv => whnf
    refine (impl_MedianOf (O20.ext e23).arr ok1 (by omega)).mono ?_
    rintro _ w26 ⟨rfl, e25⟩
    have E26 := (Ext.trans E24 e25)
    conv => whnf
    refine IfB.eqf (by simp; done) ?_
    conv => whnf
    refine IfB.eqf (by simp; done) ?_
    conv => whnf
    refine (hToA _ E26 (by omega)).mono ?_
    rintro _ w31 ⟨b27, rfl, q28, O29, e30⟩
    have E31 := (Ext.trans E26 e30)
    conv => whnf
    refine (laws_eqCardS (O20.ext (Ext.trans (Ext.trans e23 e25) e30)).arr O29.arr).mono ?_
    rintro _ w33 ⟨rfl, e32⟩
    have E33 := (Ext.trans E31 e32)
    conv => whnf
    refine IfB.eqf (by simp; done) ?_
    conv => whnf
    exact ⟨rfl, E33⟩
set_option maxRecDepth 100000 in
theorem open_MedianOf {H : Type} {enc : TypeId × Value → H} {base : Nat} (W : World) (args : List Value) (ds : List (DataW H)) (p : List MemPlace) (hA : DataW.TrodAll enc Try.prog W 0 (fun _ => true) true (Try.f7).params.toList args ds p)
    (hv : ∀ (j : Nat) t v, (Try.f7).params[j]? = some t → args[j]? = some v → Value.okWide Try.prog W .any base t v) : Does Try.prog 7 args W (fun v w' => v = .bool true ∧ Ext W w') := by
  have e : (Try.f7).params.toList = [65, 67] := rfl
  rw [e] at hA
  obtain ⟨v0, vs0, d0, ds0, p0, q0, rfl, rfl, rfl, g0, r0⟩ := trodAll_cons hA
  obtain ⟨v1, vs1, d1, ds1, p1, q1, rfl, rfl, rfl, g1, r1⟩ := trodAll_cons r0
  obtain ⟨rfl, rfl, rfl⟩ := trodAll_nil r1
  obtain ⟨a0, n0, c0, x0, rfl, h0, ok0⟩ := open_CardS W (hv 0 65 v0 (by rw [← Array.getElem?_toList, e]; rfl) rfl) g0
  obtain ⟨cs1, rfl, hf1⟩ := open_flat (ks := [false, false]) (by kernel_rfl) (hv 1 67 v1 (by rw [← Array.getElem?_toList, e]; rfl) rfl) g1
  obtain ⟨x1, rfl, ok1⟩ := TField.of_flat hf1
  exact law_MedianOf h0 ok1
set_option maxRecDepth 100000 in
theorem FnExactMedianOf_lifted (os : Os) (started : os.Started) (H : Type) (enc : TypeId × Value → H) :
    ReturnsInHanded {} Try.checked os 7 .any (Rows.fnExactMedianOfSpec.pre6 enc Try.prog Try.f7 Rows.fnExactMedianOfRow.domain false) (Rows.fnExactMedianOfSpec.post enc Try.prog Try.f7 false true false false) := by
  refine returnsInHanded_of_change (C := Try.checked) law_own started (by kernel_rfl) Try.func7
    (ChangeSpec.witness6 (enc := enc) (C := Try.checked) false ⟨#[], #[.slice none 0 0,.agg #[.int .i64 0, .int .i64 0]], []⟩ 8 (by kernel_rfl) (by kernel_rfl) (by kernel_rfl) (by kernel_rfl)) ?_
  intro W base args ds gs before hval hW _ _
  exact law_contract (P := Try.prog) (fn := Try.f7) (s := Rows.fnExactMedianOfSpec) rfl rfl Try.underlying4 law_laid (by kernel_rfl)
    (fun ds h => match ds, h with | [d0, d1], _ => ⟨rfl, rfl, rfl⟩) (fun W args ds p hA hv => open_MedianOf W args ds p hA hv) W args ds gs before hval hW
theorem FnExactMedianOf_holds : Rows.FnExactMedianOfSaid :=
  OpenClaim.holds_of_wide 7 Try.f7 rfl rfl rfl rfl rfl rfl rfl ⟨rfl, rfl, rfl, rfl, rfl⟩ rfl rfl rfl rfl rfl (by kernel_rfl) Try.func7 (by kernel_rfl)
    (of_decide_eq_true (by kernel_rfl)) (by unfold Func.isWrapper; first | (rw [if_pos (by decide +kernel)]; kernel_rfl) | (rw [if_neg (by decide +kernel)]; exact ⟨rfl, rfl⟩))
    (fun os started H enc _ => FnExactMedianOf_lifted os started H enc)

end Go.Proofs.Ytjlhbaemfiaeiaa
