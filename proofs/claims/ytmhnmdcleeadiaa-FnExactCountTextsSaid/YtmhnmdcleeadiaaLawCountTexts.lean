/- The statement on the law CountTexts is proved, as it is given: for every input the law returns true and each argument reads as before. No conditions. -/
import Derived.Test.YtmhnmdcleeadiaaKeyS
import Derived.Test.YtmhnmdcleeadiaaInts
import Derived.Test.YtmhnmdcleeadiaaStrL
import Derived.Test.YtmhnmdcleeadiaaFTotal
import Derived.Test.YtmhnmdcleeadiaaNestArg
import Derived.Test.YtmhnmdcleeadiaaFField
import Derived.Test.YtmhnmdcleeadiaaVcApp
import Derived.Test.YtmhnmdcleeadiaaLiftBase
namespace Go.Proofs.Ytmhnmdcleeadiaa
open Go Go.RowKit Go.Vc Go.M Go.ChangeShapes Go.WideShapes Go.ChangeAt
open Go.ChangeMaps (open_string)
set_option linter.unusedVariables false in
theorem law_CountTexts {w : World} {a0 : Option Addr} {n0 c0 : Nat} {x0 : List (List Int)} (h0 : ArrS RCard w a0 n0 x0) {x1 : TField} (ok1 : x1.ok)  : Does Try.prog 6 [.slice a0 n0 c0, .agg ⟨x1.enc⟩] w (fun v w' => v = .bool true ∧ Ext w w') := by
  have len0 := h0.len
  have hToA : ∀ u, Ext w u → n0 + wtAll wtCard x0 ≤ 1048576 → Does Try.prog 19 [.slice a0 n0 c0] u (fun v w' => ∃ b, v = .slice (some ⟨b, 0, none⟩) n0 n0 ∧ u.heap.size ≤ b ∧ OwnN OCard w' u.heap.size w'.heap.size (some ⟨b, 0, none⟩) n0 81 x0 ∧ Ext u w') := fun u e h => laws_toCardSO (h0.ext e) h
  have hlen : (countTextsM x0 x1).1.length ≤ 40 := countTexts_len x0 x1
  refine Does.of_vc tabok Try.func6 rfl rfl rfl (by kernel_rfl) ?_; conv => whnf
  refine SemK.box ?_
  intro b2 w2 g2 l2 e2 B2
  conv => whnf
  refine (laws_szCardSE (h0.ext e2) (by omega) (by omega)).mono ?_
  rintro _ w6 ⟨r3, rfl, q4, e5⟩
  have E6 := (Ext.trans e2 e5)
  conv => whnf
  with_reducible refine IfB.dec (fun h7 => ?_) (fun h7 => ?_)
  · conv => whnf
    exact ⟨rfl, E6⟩
  · conv => whnf
    refine DrawK.held tabok mixed [(0, false), (2, false), (1, true), (3, true), (4, true), (5, true), (6, false), (7, false), (8, true), (9, true)] (by kernel_rfl) (by kernel_rfl) ?_
    conv => whnf
    intro w8 e8
    conv => whnf
    refine DSemK.loadAgg (n := 2) (by kernel_rfl) (B2.ext e5).cells rfl ?_
    conv => whnf
    refine (hToA _ (Ext.trans E6 e8) (by omega)).mono ?_
    rintro _ w13 ⟨b9, rfl, q10, O11, e12⟩
    have E13 := (Ext.trans (Ext.trans E6 e8) e12)
    conv => whnf
    refine ⟨(Ext.trans e8 e12), ?_⟩
    conv => whnf
    refine (laws_toField _ _).mono ?_
    rintro _ w15 ⟨rfl, e14⟩
    have E15 := (Ext.trans E13 e14)
    conv => whnf
    refine ⟨(Ext.trans (Ext.trans e8 e12) e14), ?_⟩
    conv => whnf
    refine (spec_CountTexts (O11.ext e14).arr _).mono ?_
    rintro _ w22 ⟨a'16, n'17, c'18, rfl, N19, O20, e21⟩
    have E22 := (Ext.trans E15 e21)
    have lnO20 := O20.1
    conv => whnf
    refine ⟨(Ext.trans (Ext.trans (Ext.trans e8 e12) e14) e21), ?_⟩
    conv => whnf
    refine (hToA _ E22 (by omega)).mono ?_
    rintro _ w27 ⟨b23, rfl, q24, O25, e26⟩
    have E27 := (Ext.trans E22 e26)
    conv => whnf
    refine SemK.loadAgg (n := 2) (by kernel_rfl) (B2.ext (Ext.trans (Ext.trans (Ext.trans (Ext.trans (Ext.trans e5 e8) e12) e14) e21) e26)).cells rfl ?_
    conv => whnf
    refine (laws_toField _ _).mono ?_
    rintro _ w29 ⟨rfl, e28⟩
    have E29 := (Ext.trans E27 e28)
    conv => whnf
    refine (impl_CountTexts (O25.ext e28).arr _).mono ?_
    rintro _ w36 ⟨a'30, n'31, c'32, rfl, N33, O34, e35⟩
    have E36 := (Ext.trans E29 e35)
    have lnO34 := O34.1
    conv => whnf
    refine (laws_eqTotalS (O34.arr TTotal.enc_len) ((O20.ext (Ext.trans (Ext.trans e26 e28) e35)).arr TTotal.enc_len)).mono ?_
    rintro _ w38 ⟨rfl, e37⟩
    have E38 := (Ext.trans E36 e37)
    conv => whnf
    refine IfB.eqf (by simp; done) ?_
    conv => whnf
    refine IfB.eqf (by simp; done) ?_
    conv => whnf
    refine (hToA _ E38 (by omega)).mono ?_
    rintro _ w43 ⟨b39, rfl, q40, O41, e42⟩
    have E43 := (Ext.trans E38 e42)
    conv => whnf
    refine (laws_eqCardS (O25.ext (Ext.trans (Ext.trans (Ext.trans e28 e35) e37) e42)).arr O41.arr).mono ?_
    rintro _ w45 ⟨rfl, e44⟩
    have E45 := (Ext.trans E43 e44)
    conv => whnf
    refine IfB.eqf (by simp; done) ?_
    conv => whnf
    refine (laws_markCardSN (k0 := 1) (O25.ext (Ext.trans (Ext.trans (Ext.trans (Ext.trans e28 e35) e37) e42) e44)) (by omega)).mono ?_
    rintro _ w48 ⟨rfl, m46, O47⟩
    have E48 := (Ext.mod_trans E45 m46 (fun k hk => Nat.le_trans (Below.size E22) hk.1))
    conv => whnf
    refine (laws_eqTotalS (((O34.ext (Ext.trans (Ext.trans e37 e42) e44)).mod m46 (ivNew N33 (Below.size e28))).arr TTotal.enc_len) ((O20.ext (Ext.mod_trans (Ext.trans (Ext.trans (Ext.trans (Ext.trans (Ext.trans e26 e28) e35) e37) e42) e44) m46 (fun k hk => hk.1))).arr TTotal.enc_len)).mono ?_
    rintro _ w50 ⟨rfl, e49⟩
    have E50 := (Ext.trans E48 e49)
    conv => whnf
    refine IfB.eqf (by simp; done) ?_
    conv => whnf
    refine IfB.eqf (by simp; done) ?_
    conv => whnf
    refine (laws_markTotalS (k0 := 1) (((O34.ext (Ext.trans (Ext.trans e37 e42) e44)).mod m46 (ivNew N33 (Below.size e28))).ext e49) (by omega)).mono ?_
    rintro _ w53 ⟨rfl, m51, O52⟩
    have E53 := (Ext.mod_trans E50 m51 (fun k hk => Nat.le_trans (Below.size E29) (blkIn_new N33 k hk)))
    have lnO52 := O52.1
    conv => whnf
    refine (laws_heldTotalS (k0 := 1) (O52.arr TTotal.enc_len) (by omega)).mono ?_
    rintro _ w55 ⟨rfl, e54⟩
    have E55 := (Ext.trans E53 e54)
    conv => whnf
    refine IfB.eqf (by simp; done) ?_
    conv => whnf
    refine DrawK.held tabok mixed [(0, false), (2, false), (1, true), (3, true), (4, true), (5, true), (6, false), (7, false), (8, true), (9, true)] (by kernel_rfl) (by kernel_rfl) ?_
    conv => whnf
    intro w56 e56
    conv => whnf
    refine DSemK.loadAgg (n := 2) (by kernel_rfl) (B2.ext (Ext.trans (Ext.mod_trans (Ext.trans (Ext.mod_trans (Ext.trans (Ext.trans (Ext.trans (Ext.trans (Ext.trans (Ext.trans (Ext.trans (Ext.trans (Ext.trans (Ext.trans e5 e8) e12) e14) e21) e26) e28) e35) e37) e42) e44) m46 (fun k hk => Nat.le_trans (Below.size (Ext.trans (Ext.trans (Ext.trans (Ext.trans e5 e8) e12) e14) e21)) hk.1)) e49) m51 (fun k hk => Nat.le_trans (Below.size (Ext.trans (Ext.trans (Ext.trans (Ext.trans (Ext.trans (Ext.trans e5 e8) e12) e14) e21) e26) e28)) (blkIn_new N33 k hk))) e54)).cells rfl ?_
    conv => whnf
    refine (hToA _ (Ext.trans E55 e56) (by omega)).mono ?_
    rintro _ w61 ⟨b57, rfl, q58, O59, e60⟩
    have E61 := (Ext.trans (Ext.trans E55 e56) e60)
    conv => whnf
    refine ⟨(Ext.trans e56 e60), ?_⟩
    conv => whnf
    refine (laws_toField _ _).mono ?_
    rintro _ w63 ⟨rfl, e62⟩
    have E63 := (Ext.trans E61 e62)
    conv => whnf
    refine ⟨(Ext.trans (Ext.trans e56 e60) e62), ?_⟩
    conv => whnf
    refine (impl_CountTexts (O59.ext e62).arr _).mono ?_
    rintro _ w70 ⟨a'64, n'65, c'66, rfl, N67, O68, e69⟩
    have E70 := (Ext.trans E63 e69)
    have lnO68 := O68.1
    conv => whnf
    refine ⟨(Ext.trans (Ext.trans (Ext.trans e56 e60) e62) e69), ?_⟩
    conv => whnf
    refine (laws_eqTotalS (O68.arr TTotal.enc_len) ((O20.ext (Ext.trans (Ext.trans (Ext.trans (Ext.trans (Ext.trans (Ext.mod_trans (Ext.trans (Ext.mod_trans (Ext.trans (Ext.trans (Ext.trans (Ext.trans (Ext.trans e26 e28) e35) e37) e42) e44) m46 (fun k hk => hk.1)) e49) m51 (fun k hk => Nat.le_trans (Below.size (Ext.trans e26 e28)) (blkIn_new N33 k hk))) e54) e56) e60) e62) e69)).arr TTotal.enc_len)).mono ?_
    rintro _ w72 ⟨rfl, e71⟩
    have E72 := (Ext.trans E70 e71)
    conv => whnf
    refine IfB.eqf (by simp; done) ?_
    conv => whnf
    refine IfB.eqf (by simp; done) ?_
    conv => whnf
    refine (laws_heldTotalS (k0 := 1) ((O52.ext (Ext.trans (Ext.trans (Ext.trans (Ext.trans (Ext.trans e54 e56) e60) e62) e69) e71)).arr TTotal.enc_len) (by omega)).mono ?_
    rintro _ w74 ⟨rfl, e73⟩
    have E74 := (Ext.trans E72 e73)
    conv => whnf
    refine IfB.eqf (by simp; done) ?_
    conv => whnf
    exact ⟨rfl, E74⟩
set_option maxRecDepth 100000 in
theorem open_CountTexts {H : Type} {enc : TypeId × Value → H} {base : Nat} (W : World) (args : List Value) (ds : List (DataW H)) (p : List MemPlace) (hA : DataW.TrodAll enc Try.prog W 0 (fun _ => true) true (Try.f6).params.toList args ds p)
    (hv : ∀ (j : Nat) t v, (Try.f6).params[j]? = some t → args[j]? = some v → Value.okWide Try.prog W .any base t v) : Does Try.prog 6 args W (fun v w' => v = .bool true ∧ Ext W w') := by
  have e : (Try.f6).params.toList = [36, 38] := rfl
  rw [e] at hA
  obtain ⟨v0, vs0, d0, ds0, p0, q0, rfl, rfl, rfl, g0, r0⟩ := trodAll_cons hA
  obtain ⟨v1, vs1, d1, ds1, p1, q1, rfl, rfl, rfl, g1, r1⟩ := trodAll_cons r0
  obtain ⟨rfl, rfl, rfl⟩ := trodAll_nil r1
  obtain ⟨a0, n0, c0, x0, rfl, h0, ok0⟩ := open_CardS W (hv 0 36 v0 (by rw [← Array.getElem?_toList, e]; rfl) rfl) g0
  obtain ⟨cs1, rfl, hf1⟩ := open_flat (ks := [false, false]) (by kernel_rfl) (hv 1 38 v1 (by rw [← Array.getElem?_toList, e]; rfl) rfl) g1
  obtain ⟨x1, rfl, ok1⟩ := TField.of_flat hf1
  exact law_CountTexts h0 ok1
set_option maxRecDepth 100000 in
theorem FnExactCountTexts_lifted (os : Os) (started : os.Started) (H : Type) (enc : TypeId × Value → H) :
    ReturnsInHanded {} Try.checked os 6 .any (Rows.fnExactCountTextsSpec.pre6 enc Try.prog Try.f6 Rows.fnExactCountTextsRow.domain false) (Rows.fnExactCountTextsSpec.post enc Try.prog Try.f6 false true false false) := by
  refine returnsInHanded_of_change (C := Try.checked) law_own started (by kernel_rfl) Try.func6
    (ChangeSpec.witness6 (enc := enc) (C := Try.checked) false ⟨#[], #[.slice none 0 0,.agg #[.int .i64 0, .int .i64 0]], []⟩ 8 (by kernel_rfl) (by kernel_rfl) (by kernel_rfl) (by kernel_rfl)) ?_
  intro W base args ds gs before hval hW _ _
  exact law_contract (P := Try.prog) (fn := Try.f6) (s := Rows.fnExactCountTextsSpec) rfl rfl Try.underlying4 law_laid (by kernel_rfl)
    (fun ds h => match ds, h with | [d0, d1], _ => ⟨rfl, rfl, rfl⟩) (fun W args ds p hA hv => open_CountTexts W args ds p hA hv) W args ds gs before hval hW
theorem FnExactCountTexts_holds : Rows.FnExactCountTextsSaid :=
  OpenClaim.holds_of_wide 6 Try.f6 rfl rfl rfl rfl rfl rfl rfl ⟨rfl, rfl, rfl, rfl, rfl⟩ rfl rfl rfl rfl rfl (by kernel_rfl) Try.func6 (by kernel_rfl)
    (of_decide_eq_true (by kernel_rfl)) (by unfold Func.isWrapper; first | (rw [if_pos (by decide +kernel)]; kernel_rfl) | (rw [if_neg (by decide +kernel)]; exact ⟨rfl, rfl⟩))
    (fun os started H enc _ => FnExactCountTexts_lifted os started H enc)

end Go.Proofs.Ytmhnmdcleeadiaa
