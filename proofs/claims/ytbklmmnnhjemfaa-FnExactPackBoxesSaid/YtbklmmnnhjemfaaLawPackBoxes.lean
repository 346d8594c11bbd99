/- The statement on the law PackBoxes is proved, as it is given: for every input the law returns true and each argument reads as before. No conditions. -/
import Derived.Test.YtbklmmnnhjemfaaPack
import Derived.Test.YtbklmmnnhjemfaaVcApp
import Derived.Test.YtbklmmnnhjemfaaLiftBase
namespace Go.Proofs.Ytbklmmnnhjemfaa
open Go Go.RowKit Go.Vc Go.M Go.ChangeShapes Go.WideShapes Go.ChangeAt
open Go.ChangeMaps (open_string)
set_option linter.unusedVariables false in
theorem law_PackBoxes {w : World} {a0 : Option Addr} {n0 c0 : Nat} {x0 : List TBox} (h0 : Arr TBox.enc 5 w a0 n0 x0) (ok0 : ∀ x ∈ x0, x.ok) {x1 : Int} (ok1 : i64ok x1)  : Does Try.prog 4 [.slice a0 n0 c0, .int .i64 x1] w (fun v w' => v = .bool true ∧ Ext w w') := by
  have len0 := h0.len
  have hlen : (packM x0 x1).1.length ≤ 40 := packM_len x0 x1
  refine Does.of_vc tabok Try.func4 rfl rfl rfl (by kernel_rfl) ?_; conv => whnf
  refine (laws_szBoxS h0 ok0 (by omega) (by omega)).mono ?_
  rintro _ w5 ⟨r2, rfl, q3, e4⟩
  have E5 := e4
  conv => whnf
  with_reducible refine IfB.dec (fun h6 => ?_) (fun h6 => ?_)
  · conv => whnf
    exact ⟨rfl, e4⟩
  · conv => whnf
    refine (laws_toBoxS (h0.ext e4) (by omega)).mono ?_
    rintro _ w11 ⟨b7, rfl, q8, e9, O10⟩
    have E11 := (Ext.trans e4 e9)
    have lnO10 := O10.1
    conv => whnf
    refine (spec_PackBoxes (O10.arr TBox.enc_len) ok0 _).mono ?_
    rintro _ w18 ⟨a'12, n'13, c'14, rfl, N15, O16, e17⟩
    have E18 := (Ext.trans E11 e17)
    have lnO16 := O16.1
    conv => whnf
    refine (laws_toBoxS (h0.ext E18) (by omega)).mono ?_
    rintro _ w23 ⟨b19, rfl, q20, e21, O22⟩
    have E23 := (Ext.trans E18 e21)
    have lnO22 := O22.1
    conv => whnf
    refine (impl_PackBoxes (O22.arr TBox.enc_len) ok0 _ O22.lt).mono ?_
    rintro _ w30 ⟨a'24, n'25, c'26, rfl, N27, O28, e29⟩
    have E30 := (Ext.trans E23 e29)
    have lnO28 := O28.1
    conv => whnf
    refine (laws_eqInt64S (O28.arr eI_len) ((O16.ext (Ext.trans e21 e29)).arr eI_len)).mono ?_
    rintro _ w32 ⟨rfl, e31⟩
    have E32 := (Ext.trans E30 e31)
    conv => whnf
    refine IfB.eqf (by simp; done) ?_
    conv => whnf
    refine IfB.eqf (by simp; done) ?_
    conv => whnf
    refine (laws_toBoxS (h0.ext E32) (by omega)).mono ?_
    rintro _ w37 ⟨b33, rfl, q34, e35, O36⟩
    have E37 := (Ext.trans E32 e35)
    have lnO36 := O36.1
    conv => whnf
    refine (laws_eqBoxS ((O22.ext (Ext.trans (Ext.trans e29 e31) e35)).arr TBox.enc_len) (O36.arr TBox.enc_len)).mono ?_
    rintro _ w39 ⟨rfl, e38⟩
    have E39 := (Ext.trans E37 e38)
    conv => whnf
    refine IfB.eqf (by simp; done) ?_
    conv => whnf
    refine (laws_markBoxS (k0 := 1) (O22.ext (Ext.trans (Ext.trans (Ext.trans e29 e31) e35) e38)) (by omega)).mono ?_
    rintro _ w42 ⟨rfl, m40, O41⟩
    have E42 := (Ext.mod_trans E39 m40 (fun k hk => Nat.le_trans (Below.size E18) (blkIn_new (NewAt.some q20) k hk)))
    have lnO41 := O41.1
    conv => whnf
    refine (laws_eqInt64S (((O28.ext (Ext.trans (Ext.trans e31 e35) e38)).mod m40 (apart' N27 O22.lt (Nat.le_refl _))).arr eI_len) ((O16.ext (Ext.mod_trans (Ext.trans (Ext.trans (Ext.trans (Ext.trans e21 e29) e31) e35) e38) m40 (blkIn_new (NewAt.some q20)))).arr eI_len)).mono ?_
    rintro _ w44 ⟨rfl, e43⟩
    have E44 := (Ext.trans E42 e43)
    conv => whnf
    refine IfB.eqf (by simp; done) ?_
    conv => whnf
    refine IfB.eqf (by simp; done) ?_
    conv => whnf
    refine (laws_markInt64S (k0 := 1) (((O28.ext (Ext.trans (Ext.trans e31 e35) e38)).mod m40 (apart' N27 O22.lt (Nat.le_refl _))).ext e43) (by omega)).mono ?_
    rintro _ w47 ⟨rfl, m45, O46⟩
    have E47 := (Ext.mod_trans E44 m45 (fun k hk => Nat.le_trans (Below.size E23) (blkIn_new N27 k hk)))
    have lnO46 := O46.1
    conv => whnf
    refine (laws_heldInt64S (k0 := 1) (O46.arr eI_len) (by omega)).mono ?_
    rintro _ w49 ⟨rfl, e48⟩
    have E49 := (Ext.trans E47 e48)
    conv => whnf
    refine IfB.eqf (by simp; done) ?_
    conv => whnf
    refine (laws_toBoxS (h0.ext E49) (by omega)).mono ?_
    rintro _ w54 ⟨b50, rfl, q51, e52, O53⟩
    have E54 := (Ext.trans E49 e52)
    have lnO53 := O53.1
    conv => whnf
    refine (impl_PackBoxes (O53.arr TBox.enc_len) ok0 _ O53.lt).mono ?_
    rintro _ w61 ⟨a'55, n'56, c'57, rfl, N58, O59, e60⟩
    have E61 := (Ext.trans E54 e60)
    have lnO59 := O59.1
    conv => whnf
    refine (laws_eqInt64S (O59.arr eI_len) ((O16.ext (Ext.trans (Ext.trans (Ext.trans (Ext.mod_trans (Ext.trans (Ext.mod_trans (Ext.trans (Ext.trans (Ext.trans (Ext.trans e21 e29) e31) e35) e38) m40 (blkIn_new (NewAt.some q20))) e43) m45 (fun k hk => Nat.le_trans (Below.size e21) (blkIn_new N27 k hk))) e48) e52) e60)).arr eI_len)).mono ?_
    rintro _ w63 ⟨rfl, e62⟩
    have E63 := (Ext.trans E61 e62)
    conv => whnf
    refine IfB.eqf (by simp; done) ?_
    conv => whnf
    refine IfB.eqf (by simp; done) ?_
    conv => whnf
    refine (laws_heldInt64S (k0 := 1) ((O46.ext (Ext.trans (Ext.trans (Ext.trans e48 e52) e60) e62)).arr eI_len) (by omega)).mono ?_
    rintro _ w65 ⟨rfl, e64⟩
    have E65 := (Ext.trans E63 e64)
    conv => whnf
    refine IfB.eqf (by simp; done) ?_
    conv => whnf
    exact ⟨rfl, E65⟩
set_option maxRecDepth 100000 in
theorem open_PackBoxes {H : Type} {enc : TypeId × Value → H} {base : Nat} (W : World) (args : List Value) (ds : List (DataW H)) (p : List MemPlace) (hA : DataW.TrodAll enc Try.prog W 0 (fun _ => true) true (Try.f4).params.toList args ds p)
    (hv : ∀ (j : Nat) t v, (Try.f4).params[j]? = some t → args[j]? = some v → Value.okWide Try.prog W .any base t v) : Does Try.prog 4 args W (fun v w' => v = .bool true ∧ Ext W w') := by
  have e : (Try.f4).params.toList = [29, 2] := rfl
  rw [e] at hA
  obtain ⟨v0, vs0, d0, ds0, p0, q0, rfl, rfl, rfl, g0, r0⟩ := trodAll_cons hA
  obtain ⟨v1, vs1, d1, ds1, p1, q1, rfl, rfl, rfl, g1, r1⟩ := trodAll_cons r0
  obtain ⟨rfl, rfl, rfl⟩ := trodAll_nil r1
  obtain ⟨a0, n0, c0, x0, rfl, h0, ok0⟩ := open_arr (encα := TBox.enc) (ok := TBox.ok) (sz := 5) Try.underlying29 (by kernel_rfl) (by omega) (fun n cs x h => TBox.of_flat (trod_flat (ks := [true, false, false, false, true]) (by kernel_rfl) h)) TBox.enc_len (hv 0 29 v0 (by rw [← Array.getElem?_toList, e]; rfl) rfl) g0
  obtain ⟨x1, rfl, rfl, rfl, wf1⟩ := open_int Try.underlying2 (hv 1 2 v1 (by rw [← Array.getElem?_toList, e]; rfl) rfl) g1
  have ok1 := i64ok_of_wf wf1
  exact law_PackBoxes h0 ok0 ok1
set_option maxRecDepth 100000 in
theorem FnExactPackBoxes_lifted (os : Os) (started : os.Started) (H : Type) (enc : TypeId × Value → H) :
    ReturnsInHanded {} Try.checked os 4 .any (Rows.fnExactPackBoxesSpec.pre6 enc Try.prog Try.f4 Rows.fnExactPackBoxesRow.domain false) (Rows.fnExactPackBoxesSpec.post enc Try.prog Try.f4 false true false false) := by
  refine returnsInHanded_of_change (C := Try.checked) law_own started (by kernel_rfl) Try.func4
    (ChangeSpec.witness6 (enc := enc) (C := Try.checked) false ⟨#[], #[.slice none 0 0,.int .i64 0], []⟩ 8 (by kernel_rfl) (by kernel_rfl) (by kernel_rfl) (by kernel_rfl)) ?_
  intro W base args ds gs before hval hW _ _
  exact law_contract (P := Try.prog) (fn := Try.f4) (s := Rows.fnExactPackBoxesSpec) rfl rfl Try.underlying4 law_laid (by kernel_rfl)
    (fun ds h => match ds, h with | [d0, d1], _ => ⟨rfl, rfl, rfl⟩) (fun W args ds p hA hv => open_PackBoxes W args ds p hA hv) W args ds gs before hval hW
theorem FnExactPackBoxes_holds : Rows.FnExactPackBoxesSaid :=
  OpenClaim.holds_of_wide 4 Try.f4 rfl rfl rfl rfl rfl rfl rfl ⟨rfl, rfl, rfl, rfl, rfl⟩ rfl rfl rfl rfl rfl (by kernel_rfl) Try.func4 (by kernel_rfl)
    (of_decide_eq_true (by kernel_rfl)) (by unfold Func.isWrapper; first | (rw [if_pos (by decide +kernel)]; kernel_rfl) | (rw [if_neg (by decide +kernel)]; exact ⟨rfl, rfl⟩))
    (fun os started H enc _ => FnExactPackBoxes_lifted os started H enc)

end Go.Proofs.Ytbklmmnnhjemfaa
