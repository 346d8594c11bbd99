/- The statement on the law SharesOf is proved, as it is given: for every input the law returns true and each argument reads as before. No conditions. -/
import Derived.Test.YtbklmmnnhjemfaaShares
import Derived.Test.YtbklmmnnhjemfaaVcApp
import Derived.Test.YtbklmmnnhjemfaaLiftBase
namespace Go.Proofs.Ytbklmmnnhjemfaa
open Go Go.RowKit Go.Vc Go.M Go.ChangeShapes Go.WideShapes Go.ChangeAt
open Go.ChangeMaps (open_string)
set_option linter.unusedVariables false in
theorem law_SharesOf {w : World} {a0 : Option Addr} {n0 c0 : Nat} {x0 : List Int} (h0 : Arr eI 1 w a0 n0 x0) (ok0 : ∀ x ∈ x0, i64ok x)  : Does Try.prog 3 [.slice a0 n0 c0] w (fun v w' => v = .bool true ∧ Ext w w') := by
  have len0 := h0.len
  have hlen : (sharesM x0).1.length ≤ 40 := sharesM_len x0
  refine Does.of_vc tabok Try.func3 rfl rfl rfl (by kernel_rfl) ?_; conv => whnf
  with_reducible refine IfB.dec (fun h1 => ?_) (fun h1 => ?_)
  · conv => whnf
    exact ⟨rfl, Ext.refl _⟩
  · conv => whnf
    refine (laws_toInt64S h0 (by omega)).mono ?_
    rintro _ w6 ⟨b2, rfl, q3, e4, O5⟩
    have E6 := e4
    have lnO5 := O5.1
    conv => whnf
    refine (spec_SharesOf (O5.arr eI_len) O5.lt ok0 (by omega)).mono ?_
    rintro _ w13 ⟨a'7, n'8, c'9, rfl, N10, O11, e12⟩
    have E13 := (Ext.trans e4 e12)
    have lnO11 := O11.1
    conv => whnf
    refine (laws_toInt64S (h0.ext E13) (by omega)).mono ?_
    rintro _ w18 ⟨b14, rfl, q15, e16, O17⟩
    have E18 := (Ext.trans E13 e16)
    have lnO17 := O17.1
    conv => whnf
    refine (impl_SharesOf (O17.arr eI_len) O17.lt ok0 (by omega)).mono ?_
    rintro _ w25 ⟨a'19, n'20, c'21, rfl, N22, O23, e24⟩
    have E25 := (Ext.trans E18 e24)
    have lnO23 := O23.1
    conv => whnf
    refine (laws_eqInt64S (O23.arr eI_len) ((O11.ext (Ext.trans e16 e24)).arr eI_len)).mono ?_
    rintro _ w27 ⟨rfl, e26⟩
    have E27 := (Ext.trans E25 e26)
    conv => whnf
    refine IfB.eqf (by simp; done) ?_
    conv => whnf
    refine IfB.eqf (by simp; done) ?_
    conv => whnf
    refine (laws_toInt64S (h0.ext E27) (by omega)).mono ?_
    rintro _ w32 ⟨b28, rfl, q29, e30, O31⟩
    have E32 := (Ext.trans E27 e30)
    have lnO31 := O31.1
    conv => whnf
    refine (laws_eqInt64S ((O17.ext (Ext.trans (Ext.trans e24 e26) e30)).arr eI_len) (O31.arr eI_len)).mono ?_
    rintro _ w34 ⟨rfl, e33⟩
    have E34 := (Ext.trans E32 e33)
    conv => whnf
    refine IfB.eqf (by simp; done) ?_
    conv => whnf
    refine (laws_markInt64S (k0 := 1) (O17.ext (Ext.trans (Ext.trans (Ext.trans e24 e26) e30) e33)) (by omega)).mono ?_
    rintro _ w37 ⟨rfl, m35, O36⟩
    have E37 := (Ext.mod_trans E34 m35 (fun k hk => Nat.le_trans (Below.size E13) (blkIn_new (NewAt.some q15) k hk)))
    have lnO36 := O36.1
    conv => whnf
    refine (laws_eqInt64S (((O23.ext (Ext.trans (Ext.trans e26 e30) e33)).mod m35 (apart' N22 O17.lt (Nat.le_refl _))).arr eI_len) ((O11.ext (Ext.mod_trans (Ext.trans (Ext.trans (Ext.trans (Ext.trans e16 e24) e26) e30) e33) m35 (blkIn_new (NewAt.some q15)))).arr eI_len)).mono ?_
    rintro _ w39 ⟨rfl, e38⟩
    have E39 := (Ext.trans E37 e38)
    conv => whnf
    refine IfB.eqf (by simp; done) ?_
    conv => whnf
    refine IfB.eqf (by simp; done) ?_
    conv => whnf
    refine (laws_markInt64S (k0 := 1) (((O23.ext (Ext.trans (Ext.trans e26 e30) e33)).mod m35 (apart' N22 O17.lt (Nat.le_refl _))).ext e38) (by omega)).mono ?_
    rintro _ w42 ⟨rfl, m40, O41⟩
    have E42 := (Ext.mod_trans E39 m40 (fun k hk => Nat.le_trans (Below.size E18) (blkIn_new N22 k hk)))
    have lnO41 := O41.1
    conv => whnf
    refine (laws_heldInt64S (k0 := 1) (O41.arr eI_len) (by omega)).mono ?_
    rintro _ w44 ⟨rfl, e43⟩
    have E44 := (Ext.trans E42 e43)
    conv => whnf
    refine IfB.eqf (by simp; done) ?_
    conv => whnf
    refine (laws_toInt64S (h0.ext E44) (by omega)).mono ?_
    rintro _ w49 ⟨b45, rfl, q46, e47, O48⟩
    have E49 := (Ext.trans E44 e47)
    have lnO48 := O48.1
    conv => whnf
    refine (impl_SharesOf (O48.arr eI_len) O48.lt ok0 (by omega)).mono ?_
    rintro _ w56 ⟨a'50, n'51, c'52, rfl, N53, O54, e55⟩
    have E56 := (Ext.trans E49 e55)
    have lnO54 := O54.1
    conv => whnf
    refine (laws_eqInt64S (O54.arr eI_len) ((O11.ext (Ext.trans (Ext.trans (Ext.trans (Ext.mod_trans (Ext.trans (Ext.mod_trans (Ext.trans (Ext.trans (Ext.trans (Ext.trans e16 e24) e26) e30) e33) m35 (blkIn_new (NewAt.some q15))) e38) m40 (fun k hk => Nat.le_trans (Below.size e16) (blkIn_new N22 k hk))) e43) e47) e55)).arr eI_len)).mono ?_
    rintro _ w58 ⟨rfl, e57⟩
    have E58 := (Ext.trans E56 e57)
    conv => whnf
    refine IfB.eqf (by simp; done) ?_
    conv => whnf
    refine IfB.eqf (by simp; done) ?_
    conv => whnf
    refine (laws_heldInt64S (k0 := 1) ((O41.ext (Ext.trans (Ext.trans (Ext.trans e43 e47) e55) e57)).arr eI_len) (by omega)).mono ?_
    rintro _ w60 ⟨rfl, e59⟩
    have E60 := (Ext.trans E58 e59)
    conv => whnf
    refine IfB.eqf (by simp; done) ?_
    conv => whnf
    exact ⟨rfl, E60⟩
set_option maxRecDepth 100000 in
theorem open_SharesOf {H : Type} {enc : TypeId × Value → H} {base : Nat} (W : World) (args : List Value) (ds : List (DataW H)) (p : List MemPlace) (hA : DataW.TrodAll enc Try.prog W 0 (fun _ => true) true (Try.f3).params.toList args ds p)
    (hv : ∀ (j : Nat) t v, (Try.f3).params[j]? = some t → args[j]? = some v → Value.okWide Try.prog W .any base t v) : Does Try.prog 3 args W (fun v w' => v = .bool true ∧ Ext W w') := by
  have e : (Try.f3).params.toList = [22] := rfl
  rw [e] at hA
  obtain ⟨v0, vs0, d0, ds0, p0, q0, rfl, rfl, rfl, g0, r0⟩ := trodAll_cons hA
  obtain ⟨rfl, rfl, rfl⟩ := trodAll_nil r0
  obtain ⟨a0, n0, c0, x0, rfl, h0, ok0⟩ := open_arr (encα := eI) (ok := i64ok) (sz := 1) Try.underlying22 (by kernel_rfl) (by omega) (fun n cs x h => let ⟨n2, h1, _, h2⟩ := DataW.trod_int Try.underlying2 h; ⟨n2, h1, i64ok_of_wf h2⟩) eI_len (hv 0 22 v0 (by rw [← Array.getElem?_toList, e]; rfl) rfl) g0
  exact law_SharesOf h0 ok0
set_option maxRecDepth 100000 in
theorem FnExactSharesOf_lifted (os : Os) (started : os.Started) (H : Type) (enc : TypeId × Value → H) :
    ReturnsInHanded {} Try.checked os 3 .any (Rows.fnExactSharesOfSpec.pre6 enc Try.prog Try.f3 Rows.fnExactSharesOfRow.domain false) (Rows.fnExactSharesOfSpec.post enc Try.prog Try.f3 false true false false) := by
  refine returnsInHanded_of_change (C := Try.checked) law_own started (by kernel_rfl) Try.func3
    (ChangeSpec.witness6 (enc := enc) (C := Try.checked) false ⟨#[], #[.slice none 0 0], []⟩ 8 (by kernel_rfl) (by kernel_rfl) (by kernel_rfl) (by kernel_rfl)) ?_
  intro W base args ds gs before hval hW _ _
  exact law_contract (P := Try.prog) (fn := Try.f3) (s := Rows.fnExactSharesOfSpec) rfl rfl Try.underlying4 law_laid (by kernel_rfl)
    (fun ds h => match ds, h with | [d0], _ => ⟨rfl, rfl, rfl⟩) (fun W args ds p hA hv => open_SharesOf W args ds p hA hv) W args ds gs before hval hW
theorem FnExactSharesOf_holds : Rows.FnExactSharesOfSaid :=
  OpenClaim.holds_of_wide 3 Try.f3 rfl rfl rfl rfl rfl rfl rfl ⟨rfl, rfl, rfl, rfl, rfl⟩ rfl rfl rfl rfl rfl (by kernel_rfl) Try.func3 (by kernel_rfl)
    (of_decide_eq_true (by kernel_rfl)) (by unfold Func.isWrapper; first | (rw [if_pos (by decide +kernel)]; kernel_rfl) | (rw [if_neg (by decide +kernel)]; exact ⟨rfl, rfl⟩))
    (fun os started H enc _ => FnExactSharesOf_lifted os started H enc)

end Go.Proofs.Ytbklmmnnhjemfaa
