/- The statement on the law ApplyMoves is proved, as it is given: for every input the law returns true and each argument reads as before. No conditions. -/
import Derived.Test.YtkeeebdfjoefgaaStock3
import Derived.Test.YtkeeebdfjoefgaaVcApp
import Derived.Test.YtkeeebdfjoefgaaLiftBase
namespace Go.Proofs.Ytkeeebdfjoefgaa
open Go Go.RowKit Go.Vc Go.M Go.ChangeShapes Go.WideShapes Go.ChangeAt
open Go.ChangeMaps (open_string)
set_option linter.unusedVariables false in
theorem law_ApplyMoves {w : World} {a0 : Option Addr} {n0 c0 : Nat} {x0 : List TPart} (h0 : Arr TPart.enc 4 w a0 n0 x0) (ok0 : ∀ x ∈ x0, x.ok) {a1 : Option Addr} {n1 c1 : Nat} {x1 : List TMove} (h1 : Arr TMove.enc 2 w a1 n1 x1) (ok1 : ∀ x ∈ x1, x.ok) : Does Try.prog 13 [.slice a0 n0 c0, .slice a1 n1 c1] w (fun v w' => v = .bool true ∧ Ext w w') := by
  have len0 := h0.len
  have len1 := h1.len
  have hb0 := applyMovesM_len x0 x1
  refine Does.of_vc tabok Try.func13 rfl rfl rfl (by kernel_rfl) ?_; conv => whnf
  refine (laws_szPartS h0 ok0 (by omega) (by omega)).mono ?_
  rintro _ w5 ⟨r2, rfl, q3, e4⟩
  have E5 := e4
  conv => whnf
  with_reducible refine IfB.dec (fun h6 => ?_) (fun h6 => ?_)
  · conv => whnf
    exact ⟨rfl, e4⟩
  · conv => whnf
    refine (laws_szMoveS (h1.ext e4) ok1 (by omega) (by omega)).mono ?_
    rintro _ w10 ⟨r7, rfl, q8, e9⟩
    have E10 := (Ext.trans e4 e9)
    conv => whnf
    with_reducible refine IfB.dec (fun h11 => ?_) (fun h11 => ?_)
    · conv => whnf
      exact ⟨rfl, E10⟩
    · conv => whnf
      refine (laws_toPartS (h0.ext E10) (by omega)).mono ?_
      rintro _ w16 ⟨b12, rfl, q13, e14, O15⟩
      have E16 := (Ext.trans E10 e14)
      have lnO15 := O15.1
      conv => whnf
      refine (laws_toMoveS (h1.ext E16) (by omega)).mono ?_
      rintro _ w21 ⟨b17, rfl, q18, e19, O20⟩
      have E21 := (Ext.trans E16 e19)
      have lnO20 := O20.1
      conv => whnf
      refine (spec_ApplyMoves ((O15.ext e19).arr TPart.enc_len) ok0 (O20.arr TMove.enc_len)).mono ?_
      rintro _ w28 ⟨a'22, n'23, c'24, rfl, N25, O26, e27⟩
      have E28 := (Ext.trans E21 e27)
      have lnO26 := O26.1
      conv => whnf
      refine (laws_toPartS (h0.ext E28) (by omega)).mono ?_
      rintro _ w33 ⟨b29, rfl, q30, e31, O32⟩
      have E33 := (Ext.trans E28 e31)
      have lnO32 := O32.1
      conv => whnf
      refine (laws_toMoveS (h1.ext E33) (by omega)).mono ?_
      rintro _ w38 ⟨b34, rfl, q35, e36, O37⟩
      have E38 := (Ext.trans E33 e36)
      have lnO37 := O37.1
      conv => whnf
      refine (impl_ApplyMoves ((O32.ext e36).arr TPart.enc_len) ok0 (Nat.le_refl _) (O37.arr TMove.enc_len)).mono ?_
      rintro _ w45 ⟨a'39, n'40, c'41, rfl, N42, O43, e44⟩
      have E45 := (Ext.trans E38 e44)
      have lnO43 := O43.1
      conv => whnf
      refine (laws_eqPartS (O43.arr TPart.enc_len) ((O26.ext (Ext.trans (Ext.trans e31 e36) e44)).arr TPart.enc_len)).mono ?_
      rintro _ w47 ⟨rfl, e46⟩
      have E47 := (Ext.trans E45 e46)
      conv => whnf
      refine IfB.eqf (by simp; done) ?_
      conv => whnf
      refine IfB.eqf (by simp; done) ?_
      conv => whnf
      refine IfB.eqf (by simp; done) ?_
      conv => whnf
      refine (laws_toPartS (h0.ext E47) (by omega)).mono ?_
      rintro _ w52 ⟨b48, rfl, q49, e50, O51⟩
      have E52 := (Ext.trans E47 e50)
      have lnO51 := O51.1
      conv => whnf
      refine (laws_eqPartS ((O32.ext (Ext.trans (Ext.trans (Ext.trans e36 e44) e46) e50)).arr TPart.enc_len) (O51.arr TPart.enc_len)).mono ?_
      rintro _ w54 ⟨rfl, e53⟩
      have E54 := (Ext.trans E52 e53)
      conv => whnf
      refine IfB.eqf (by simp; done) ?_
      conv => whnf
      refine (laws_toMoveS (h1.ext E54) (by omega)).mono ?_
      rintro _ w59 ⟨b55, rfl, q56, e57, O58⟩
      have E59 := (Ext.trans E54 e57)
      have lnO58 := O58.1
      conv => whnf
      refine (laws_eqMoveS ((O37.ext (Ext.trans (Ext.trans (Ext.trans (Ext.trans e44 e46) e50) e53) e57)).arr TMove.enc_len) (O58.arr TMove.enc_len)).mono ?_
      rintro _ w61 ⟨rfl, e60⟩
      have E61 := (Ext.trans E59 e60)
      conv => whnf
      refine IfB.eqf (by simp; done) ?_
      conv => whnf
      refine (laws_markPartS (k0 := 1) (O32.ext (Ext.trans (Ext.trans (Ext.trans (Ext.trans (Ext.trans (Ext.trans e36 e44) e46) e50) e53) e57) e60)) (by omega)).mono ?_
      rintro _ w64 ⟨rfl, m62, O63⟩
      have E64 := (Ext.mod_trans E61 m62 (fun k hk => Nat.le_trans (Below.size E28) (blkIn_new (NewAt.some q30) k hk)))
      have lnO63 := O63.1
      conv => whnf
      refine (laws_markMoveS ((O37.ext (Ext.trans (Ext.trans (Ext.trans (Ext.trans (Ext.trans e44 e46) e50) e53) e57) e60)).mod m62 (apart' (NewAt.some q35) O32.lt (Nat.le_refl _))) (by omega)).mono ?_
      rintro _ w67 ⟨rfl, m65, O66⟩
      have E67 := (Ext.mod_trans E64 m65 (fun k hk => Nat.le_trans (Below.size E33) (blkIn_new (NewAt.some q35) k hk)))
      have lnO66 := O66.1
      conv => whnf
      refine (laws_eqPartS ((((O43.ext (Ext.trans (Ext.trans (Ext.trans (Ext.trans e46 e50) e53) e57) e60)).mod m62 (apart' N42 O32.lt (Below.size e36))).mod m65 (apart' N42 O37.lt (Nat.le_refl _))).arr TPart.enc_len) ((O26.ext (Ext.mod_trans (Ext.mod_trans (Ext.trans (Ext.trans (Ext.trans (Ext.trans (Ext.trans (Ext.trans (Ext.trans e31 e36) e44) e46) e50) e53) e57) e60) m62 (blkIn_new (NewAt.some q30))) m65 (fun k hk => Nat.le_trans (Below.size e31) (blkIn_new (NewAt.some q35) k hk)))).arr TPart.enc_len)).mono ?_
      rintro _ w69 ⟨rfl, e68⟩
      have E69 := (Ext.trans E67 e68)
      conv => whnf
      refine IfB.eqf (by simp; done) ?_
      conv => whnf
      refine IfB.eqf (by simp; done) ?_
      conv => whnf
      refine IfB.eqf (by simp; done) ?_
      conv => whnf
      refine (laws_markPartS (k0 := 1) ((((O43.ext (Ext.trans (Ext.trans (Ext.trans (Ext.trans e46 e50) e53) e57) e60)).mod m62 (apart' N42 O32.lt (Below.size e36))).mod m65 (apart' N42 O37.lt (Nat.le_refl _))).ext e68) (by omega)).mono ?_
      rintro _ w72 ⟨rfl, m70, O71⟩
      have E72 := (Ext.mod_trans E69 m70 (fun k hk => Nat.le_trans (Below.size E38) (blkIn_new N42 k hk)))
      have lnO71 := O71.1
      conv => whnf
      refine (laws_heldPartS (k0 := 1) (O71.arr TPart.enc_len) (by omega)).mono ?_
      rintro _ w74 ⟨rfl, e73⟩
      have E74 := (Ext.trans E72 e73)
      conv => whnf
      refine IfB.eqf (by simp; done) ?_
      conv => whnf
      refine (laws_toPartS (h0.ext E74) (by omega)).mono ?_
      rintro _ w79 ⟨b75, rfl, q76, e77, O78⟩
      have E79 := (Ext.trans E74 e77)
      have lnO78 := O78.1
      conv => whnf
      refine (laws_toMoveS (h1.ext E79) (by omega)).mono ?_
      rintro _ w84 ⟨b80, rfl, q81, e82, O83⟩
      have E84 := (Ext.trans E79 e82)
      have lnO83 := O83.1
      conv => whnf
      refine (impl_ApplyMoves ((O78.ext e82).arr TPart.enc_len) ok0 (Nat.le_refl _) (O83.arr TMove.enc_len)).mono ?_
      rintro _ w91 ⟨a'85, n'86, c'87, rfl, N88, O89, e90⟩
      have E91 := (Ext.trans E84 e90)
      have lnO89 := O89.1
      conv => whnf
      refine (laws_eqPartS (O89.arr TPart.enc_len) ((O26.ext (Ext.trans (Ext.trans (Ext.trans (Ext.trans (Ext.mod_trans (Ext.trans (Ext.mod_trans (Ext.mod_trans (Ext.trans (Ext.trans (Ext.trans (Ext.trans (Ext.trans (Ext.trans (Ext.trans e31 e36) e44) e46) e50) e53) e57) e60) m62 (blkIn_new (NewAt.some q30))) m65 (fun k hk => Nat.le_trans (Below.size e31) (blkIn_new (NewAt.some q35) k hk))) e68) m70 (fun k hk => Nat.le_trans (Below.size (Ext.trans e31 e36)) (blkIn_new N42 k hk))) e73) e77) e82) e90)).arr TPart.enc_len)).mono ?_
      rintro _ w93 ⟨rfl, e92⟩
      have E93 := (Ext.trans E91 e92)
      conv => whnf
      refine IfB.eqf (by simp; done) ?_
      conv => whnf
      refine IfB.eqf (by simp; done) ?_
      conv => whnf
      refine IfB.eqf (by simp; done) ?_
      conv => whnf
      refine (laws_heldPartS (k0 := 1) ((O71.ext (Ext.trans (Ext.trans (Ext.trans (Ext.trans e73 e77) e82) e90) e92)).arr TPart.enc_len) (by omega)).mono ?_
      rintro _ w95 ⟨rfl, e94⟩
      have E95 := (Ext.trans E93 e94)
      conv => whnf
      refine IfB.eqf (by simp; done) ?_
      conv => whnf
      exact ⟨rfl, E95⟩
set_option maxRecDepth 100000 in
theorem open_ApplyMoves {H : Type} {enc : TypeId × Value → H} {base : Nat} (W : World) (args : List Value) (ds : List (DataW H)) (p : List MemPlace) (hA : DataW.TrodAll enc Try.prog W 0 (fun _ => true) true (Try.f13).params.toList args ds p)
    (hv : ∀ (j : Nat) t v, (Try.f13).params[j]? = some t → args[j]? = some v → Value.okWide Try.prog W .any base t v) : Does Try.prog 13 args W (fun v w' => v = .bool true ∧ Ext W w') := by
  have e : (Try.f13).params.toList = [30, 64] := rfl
  rw [e] at hA
  obtain ⟨v0, vs0, d0, ds0, p0, q0, rfl, rfl, rfl, g0, r0⟩ := trodAll_cons hA
  obtain ⟨v1, vs1, d1, ds1, p1, q1, rfl, rfl, rfl, g1, r1⟩ := trodAll_cons r0
  obtain ⟨rfl, rfl, rfl⟩ := trodAll_nil r1
  obtain ⟨a0, n0, c0, x0, rfl, h0, ok0⟩ := open_arr (encα := TPart.enc) (ok := TPart.ok) (sz := 4) Try.underlying30 (by kernel_rfl) (by omega) (fun n cs x h => TPart.of_flat (trod_flat (ks := [true, false, false, false]) (by kernel_rfl) h)) TPart.enc_len (hv 0 30 v0 (by rw [← Array.getElem?_toList, e]; rfl) rfl) g0
  obtain ⟨a1, n1, c1, x1, rfl, h1, ok1⟩ := open_arr (encα := TMove.enc) (ok := TMove.ok) (sz := 2) Try.underlying64 (by kernel_rfl) (by omega) (fun n cs x h => TMove.of_flat (trod_flat (ks := [false, false]) (by kernel_rfl) h)) TMove.enc_len (hv 1 64 v1 (by rw [← Array.getElem?_toList, e]; rfl) rfl) g1
  exact law_ApplyMoves h0 ok0 h1 ok1
set_option maxRecDepth 100000 in
theorem FnExactApplyMoves_lifted (os : Os) (started : os.Started) (H : Type) (enc : TypeId × Value → H) :
    ReturnsInHanded {} Try.checked os 13 .any (Rows.fnExactApplyMovesSpec.pre6 enc Try.prog Try.f13 Rows.fnExactApplyMovesRow.domain false) (Rows.fnExactApplyMovesSpec.post enc Try.prog Try.f13 false true false false) := by
  refine returnsInHanded_of_change (C := Try.checked) law_own started (by kernel_rfl) Try.func13
    (ChangeSpec.witness6 (enc := enc) (C := Try.checked) false ⟨#[], #[.slice none 0 0,.slice none 0 0], []⟩ 8 (by kernel_rfl) (by kernel_rfl) (by kernel_rfl) (by kernel_rfl)) ?_
  intro W base args ds gs before hval hW _ _
  exact law_contract (P := Try.prog) (fn := Try.f13) (s := Rows.fnExactApplyMovesSpec) rfl rfl Try.underlying4 law_laid (by kernel_rfl)
    (fun ds h => match ds, h with | [d0, d1], _ => ⟨rfl, rfl, rfl⟩) (fun W args ds p hA hv => open_ApplyMoves W args ds p hA hv) W args ds gs before hval hW
theorem FnExactApplyMoves_holds : Rows.FnExactApplyMovesSaid :=
  OpenClaim.holds_of_wide 13 Try.f13 rfl rfl rfl rfl rfl rfl rfl ⟨rfl, rfl, rfl, rfl, rfl⟩ rfl rfl rfl rfl rfl (by kernel_rfl) Try.func13 (by kernel_rfl)
    (of_decide_eq_true (by kernel_rfl)) (by unfold Func.isWrapper; first | (rw [if_pos (by decide +kernel)]; kernel_rfl) | (rw [if_neg (by decide +kernel)]; exact ⟨rfl, rfl⟩))
    (fun os started H enc _ => FnExactApplyMoves_lifted os started H enc)

end Go.Proofs.Ytkeeebdfjoefgaa
