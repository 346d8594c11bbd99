/- The statement on the law ApplyMove is proved, as it is given: for every input the law returns true and each argument reads as before. No conditions. -/
import Derived.Test.YtkeeebdfjoefgaaStock3
import Derived.Test.YtkeeebdfjoefgaaVcApp
import Derived.Test.YtkeeebdfjoefgaaLiftBase
namespace Go.Proofs.Ytkeeebdfjoefgaa
open Go Go.RowKit Go.Vc Go.M Go.ChangeShapes Go.WideShapes Go.ChangeAt
open Go.ChangeMaps (open_string)
set_option linter.unusedVariables false in
theorem law_ApplyMove {w : World} {a0 : Option Addr} {n0 c0 : Nat} {x0 : List TPart} (h0 : Arr TPart.enc 4 w a0 n0 x0) (ok0 : ∀ x ∈ x0, x.ok) {x1 : TMove} (ok1 : x1.ok) : Does Try.prog 9 [.slice a0 n0 c0, .agg ⟨x1.enc⟩] w (fun v w' => v = .bool true ∧ Ext w w') := by
  have len0 := h0.len
  have hb0 := applyMoveM_len x0 x1
  refine Does.of_vc tabok Try.func9 rfl rfl rfl (by kernel_rfl) ?_; conv => whnf
  refine SemK.box ?_
  intro b2 w2 g2 l2 e2 B2
  conv => whnf
  refine (laws_szPartS (h0.ext e2) ok0 (by omega) (by omega)).mono ?_
  rintro _ w6 ⟨r3, rfl, q4, e5⟩
  have E6 := (Ext.trans e2 e5)
  conv => whnf
  with_reducible refine IfB.dec (fun h7 => ?_) (fun h7 => ?_)
  · conv => whnf
    exact ⟨rfl, E6⟩
  · conv => whnf
    refine DrawK.held tabok mixed [(0, false), (2, false), (1, true), (3, true), (4, true), (5, true), (6, false), (7, false), (8, true), (9, true)] (by kernel_rfl) (by kernel_rfl) ?_
    conv => whnf
    intro w8 e8
    conv => whnf
    refine DSemK.loadAgg (by kernel_rfl) (B2.ext e5).cells rfl ?_
    conv => whnf
    refine (laws_toPartS (h0.ext (Ext.trans E6 e8)) (by omega)).mono ?_
    rintro _ w13 ⟨b9, rfl, q10, e11, O12⟩
    have E13 := (Ext.trans (Ext.trans E6 e8) e11)
    have lnO12 := O12.1
    conv => whnf
    refine ⟨(Ext.trans e8 e11), ?_⟩
    conv => whnf
    refine (laws_toMove _ _).mono ?_
    rintro _ w15 ⟨rfl, e14⟩
    have E15 := (Ext.trans E13 e14)
    conv => whnf
    refine ⟨(Ext.trans (Ext.trans e8 e11) e14), ?_⟩
    conv => whnf
    refine (spec_ApplyMove ((O12.ext e14).arr TPart.enc_len) ok0 _).mono ?_
    rintro _ w22 ⟨a'16, n'17, c'18, rfl, N19, O20, e21⟩
    have E22 := (Ext.trans E15 e21)
    have lnO20 := O20.1
    conv => whnf
    refine ⟨(Ext.trans (Ext.trans (Ext.trans e8 e11) e14) e21), ?_⟩
    conv => whnf
    refine (laws_toPartS (h0.ext E22) (by omega)).mono ?_
    rintro _ w27 ⟨b23, rfl, q24, e25, O26⟩
    have E27 := (Ext.trans E22 e25)
    have lnO26 := O26.1
    conv => whnf
    refine SemK.loadAgg (by kernel_rfl) (B2.ext (Ext.trans (Ext.trans (Ext.trans (Ext.trans (Ext.trans e5 e8) e11) e14) e21) e25)).cells rfl ?_
    conv => whnf
    refine (laws_toMove _ _).mono ?_
    rintro _ w29 ⟨rfl, e28⟩
    have E29 := (Ext.trans E27 e28)
    conv => whnf
    refine (impl_ApplyMove ((O26.ext e28).arr TPart.enc_len) ok0 (Nat.le_refl _) _).mono ?_
    rintro _ w36 ⟨a'30, n'31, c'32, rfl, N33, O34, e35⟩
    have E36 := (Ext.trans E29 e35)
    have lnO34 := O34.1
    conv => whnf
    refine (laws_eqPartS (O34.arr TPart.enc_len) ((O20.ext (Ext.trans (Ext.trans e25 e28) e35)).arr TPart.enc_len)).mono ?_
    rintro _ w38 ⟨rfl, e37⟩
    have E38 := (Ext.trans E36 e37)
    conv => whnf
    refine IfB.eqf (by simp; done) ?_
    conv => whnf
    refine IfB.eqf (by simp; done) ?_
    conv => whnf
    refine (laws_toPartS (h0.ext E38) (by omega)).mono ?_
    rintro _ w43 ⟨b39, rfl, q40, e41, O42⟩
    have E43 := (Ext.trans E38 e41)
    have lnO42 := O42.1
    conv => whnf
    refine (laws_eqPartS ((O26.ext (Ext.trans (Ext.trans (Ext.trans e28 e35) e37) e41)).arr TPart.enc_len) (O42.arr TPart.enc_len)).mono ?_
    rintro _ w45 ⟨rfl, e44⟩
    have E45 := (Ext.trans E43 e44)
    conv => whnf
    refine IfB.eqf (by simp; done) ?_
    conv => whnf
    refine (laws_markPartS (k0 := 1) (O26.ext (Ext.trans (Ext.trans (Ext.trans (Ext.trans e28 e35) e37) e41) e44)) (by omega)).mono ?_
    rintro _ w48 ⟨rfl, m46, O47⟩
    have E48 := (Ext.mod_trans E45 m46 (fun k hk => Nat.le_trans (Below.size E22) (blkIn_new (NewAt.some q24) k hk)))
    have lnO47 := O47.1
    conv => whnf
    refine (laws_eqPartS (((O34.ext (Ext.trans (Ext.trans e37 e41) e44)).mod m46 (apart' N33 O26.lt (Below.size e28))).arr TPart.enc_len) ((O20.ext (Ext.mod_trans (Ext.trans (Ext.trans (Ext.trans (Ext.trans (Ext.trans e25 e28) e35) e37) e41) e44) m46 (blkIn_new (NewAt.some q24)))).arr TPart.enc_len)).mono ?_
    rintro _ w50 ⟨rfl, e49⟩
    have E50 := (Ext.trans E48 e49)
    conv => whnf
    refine IfB.eqf (by simp; done) ?_
    conv => whnf
    refine IfB.eqf (by simp; done) ?_
    conv => whnf
    refine (laws_markPartS (k0 := 1) (((O34.ext (Ext.trans (Ext.trans e37 e41) e44)).mod m46 (apart' N33 O26.lt (Below.size e28))).ext e49) (by omega)).mono ?_
    rintro _ w53 ⟨rfl, m51, O52⟩
    have E53 := (Ext.mod_trans E50 m51 (fun k hk => Nat.le_trans (Below.size E29) (blkIn_new N33 k hk)))
    have lnO52 := O52.1
    conv => whnf
    refine (laws_heldPartS (k0 := 1) (O52.arr TPart.enc_len) (by omega)).mono ?_
    rintro _ w55 ⟨rfl, e54⟩
    have E55 := (Ext.trans E53 e54)
    conv => whnf
    refine IfB.eqf (by simp; done) ?_
    conv => whnf
    refine DrawK.held tabok mixed [(0, false), (2, false), (1, true), (3, true), (4, true), (5, true), (6, false), (7, false), (8, true), (9, true)] (by kernel_rfl) (by kernel_rfl) ?_
    conv => whnf
    intro w56 e56
    conv => whnf
    refine DSemK.loadAgg (by kernel_rfl) (B2.ext (Ext.trans (Ext.mod_trans (Ext.trans (Ext.mod_trans (Ext.trans (Ext.trans (Ext.trans (Ext.trans (Ext.trans (Ext.trans (Ext.trans (Ext.trans (Ext.trans (Ext.trans e5 e8) e11) e14) e21) e25) e28) e35) e37) e41) e44) m46 (fun k hk => Nat.le_trans (Below.size (Ext.trans (Ext.trans (Ext.trans (Ext.trans e5 e8) e11) e14) e21)) (blkIn_new (NewAt.some q24) k hk))) e49) m51 (fun k hk => Nat.le_trans (Below.size (Ext.trans (Ext.trans (Ext.trans (Ext.trans (Ext.trans (Ext.trans e5 e8) e11) e14) e21) e25) e28)) (blkIn_new N33 k hk))) e54)).cells rfl ?_
    conv => whnf
    refine (laws_toPartS (h0.ext (Ext.trans E55 e56)) (by omega)).mono ?_
    rintro _ w61 ⟨b57, rfl, q58, e59, O60⟩
    have E61 := (Ext.trans (Ext.trans E55 e56) e59)
    have lnO60 := O60.1
    conv => whnf
    refine ⟨(Ext.trans e56 e59), ?_⟩
    conv => whnf
    refine (laws_toMove _ _).mono ?_
    rintro _ w63 ⟨rfl, e62⟩
    have E63 := (Ext.trans E61 e62)
    conv => whnf
    refine ⟨(Ext.trans (Ext.trans e56 e59) e62), ?_⟩
    conv => whnf
    refine (impl_ApplyMove ((O60.ext e62).arr TPart.enc_len) ok0 (Nat.le_refl _) _).mono ?_
    rintro _ w70 ⟨a'64, n'65, c'66, rfl, N67, O68, e69⟩
    have E70 := (Ext.trans E63 e69)
    have lnO68 := O68.1
    conv => whnf
    refine ⟨(Ext.trans (Ext.trans (Ext.trans e56 e59) e62) e69), ?_⟩
    conv => whnf
    refine (laws_eqPartS (O68.arr TPart.enc_len) ((O20.ext (Ext.trans (Ext.trans (Ext.trans (Ext.trans (Ext.trans (Ext.mod_trans (Ext.trans (Ext.mod_trans (Ext.trans (Ext.trans (Ext.trans (Ext.trans (Ext.trans e25 e28) e35) e37) e41) e44) m46 (blkIn_new (NewAt.some q24))) e49) m51 (fun k hk => Nat.le_trans (Below.size (Ext.trans e25 e28)) (blkIn_new N33 k hk))) e54) e56) e59) e62) e69)).arr TPart.enc_len)).mono ?_
    rintro _ w72 ⟨rfl, e71⟩
    have E72 := (Ext.trans E70 e71)
    conv => whnf
    refine IfB.eqf (by simp; done) ?_
    conv => whnf
    refine IfB.eqf (by simp; done) ?_
    conv => whnf
    refine (laws_heldPartS (k0 := 1) ((O52.ext (Ext.trans (Ext.trans (Ext.trans (Ext.trans (Ext.trans e54 e56) e59) e62) e69) e71)).arr TPart.enc_len) (by omega)).mono ?_
    rintro _ w74 ⟨rfl, e73⟩
    have E74 := (Ext.trans E72 e73)
    conv => whnf
    refine IfB.eqf (by simp; done) ?_
    conv => whnf
    exact ⟨rfl, E74⟩
set_option maxRecDepth 100000 in
theorem open_ApplyMove {H : Type} {enc : TypeId × Value → H} {base : Nat} (W : World) (args : List Value) (ds : List (DataW H)) (p : List MemPlace) (hA : DataW.TrodAll enc Try.prog W 0 (fun _ => true) true (Try.f9).params.toList args ds p)
    (hv : ∀ (j : Nat) t v, (Try.f9).params[j]? = some t → args[j]? = some v → Value.okWide Try.prog W .any base t v) : Does Try.prog 9 args W (fun v w' => v = .bool true ∧ Ext W w') := by
  have e : (Try.f9).params.toList = [30, 52] := rfl
  rw [e] at hA
  obtain ⟨v0, vs0, d0, ds0, p0, q0, rfl, rfl, rfl, g0, r0⟩ := trodAll_cons hA
  obtain ⟨v1, vs1, d1, ds1, p1, q1, rfl, rfl, rfl, g1, r1⟩ := trodAll_cons r0
  obtain ⟨rfl, rfl, rfl⟩ := trodAll_nil r1
  obtain ⟨a0, n0, c0, x0, rfl, h0, ok0⟩ := open_arr (encα := TPart.enc) (ok := TPart.ok) (sz := 4) Try.underlying30 (by kernel_rfl) (by omega) (fun n cs x h => TPart.of_flat (trod_flat (ks := [true, false, false, false]) (by kernel_rfl) h)) TPart.enc_len (hv 0 30 v0 (by rw [← Array.getElem?_toList, e]; rfl) rfl) g0
  obtain ⟨cs1, rfl, hf1⟩ := open_flat (ks := [false, false]) (by kernel_rfl) (hv 1 52 v1 (by rw [← Array.getElem?_toList, e]; rfl) rfl) g1
  obtain ⟨x1, rfl, ok1⟩ := TMove.of_flat hf1
  exact law_ApplyMove h0 ok0 ok1
set_option maxRecDepth 100000 in
theorem FnExactApplyMove_lifted (os : Os) (started : os.Started) (H : Type) (enc : TypeId × Value → H) :
    ReturnsInHanded {} Try.checked os 9 .any (Rows.fnExactApplyMoveSpec.pre6 enc Try.prog Try.f9 Rows.fnExactApplyMoveRow.domain false) (Rows.fnExactApplyMoveSpec.post enc Try.prog Try.f9 false true false false) := by
  refine returnsInHanded_of_change (C := Try.checked) law_own started (by kernel_rfl) Try.func9
    (ChangeSpec.witness6 (enc := enc) (C := Try.checked) false ⟨#[], #[.slice none 0 0,.agg #[.int .i64 0, .int .i64 0]], []⟩ 8 (by kernel_rfl) (by kernel_rfl) (by kernel_rfl) (by kernel_rfl)) ?_
  intro W base args ds gs before hval hW _ _
  exact law_contract (P := Try.prog) (fn := Try.f9) (s := Rows.fnExactApplyMoveSpec) rfl rfl Try.underlying4 law_laid (by kernel_rfl)
    (fun ds h => match ds, h with | [d0, d1], _ => ⟨rfl, rfl, rfl⟩) (fun W args ds p hA hv => open_ApplyMove W args ds p hA hv) W args ds gs before hval hW
theorem FnExactApplyMove_holds : Rows.FnExactApplyMoveSaid :=
  OpenClaim.holds_of_wide 9 Try.f9 rfl rfl rfl rfl rfl rfl rfl ⟨rfl, rfl, rfl, rfl, rfl⟩ rfl rfl rfl rfl rfl (by kernel_rfl) Try.func9 (by kernel_rfl)
    (of_decide_eq_true (by kernel_rfl)) (by unfold Func.isWrapper; first | (rw [if_pos (by decide +kernel)]; kernel_rfl) | (rw [if_neg (by decide +kernel)]; exact ⟨rfl, rfl⟩))
    (fun os started H enc _ => FnExactApplyMove_lifted os started H enc)

end Go.Proofs.Ytkeeebdfjoefgaa
