/- The statement on the law StoreBox is proved, as it is given: for every input the law returns true and each argument reads as before. No conditions. -/
import Derived.Test.YtmhnmdcleeadiaaStore
import Derived.Test.YtmhnmdcleeadiaaVcApp
import Derived.Test.YtmhnmdcleeadiaaLiftBase
namespace Go.Proofs.Ytmhnmdcleeadiaa
open Go Go.RowKit Go.Vc Go.M Go.ChangeShapes Go.WideShapes Go.ChangeAt
open Go.ChangeMaps (open_string)
set_option linter.unusedVariables false in
theorem law_StoreBox {w : World} {a0 : Option Addr} {n0 c0 : Nat} {x0 : List TBox} (h0 : Arr TBox.enc 5 w a0 n0 x0) (ok0 : ∀ x ∈ x0, x.ok) {x1 : TBox} (ok1 : x1.ok)  : Does Try.prog 3 [.slice a0 n0 c0, .agg ⟨x1.enc⟩] w (fun v w' => v = .bool true ∧ Ext w w') := by
  have len0 := h0.len
  have hlen : (storeM x0 x1).1.length ≤ x0.length + 1 := storeM_len x0 x1
  refine Does.of_vc tabok Try.func3 rfl rfl rfl (by kernel_rfl) ?_; conv => whnf
  refine SemK.box ?_
  intro b2 w2 g2 l2 e2 B2
  conv => whnf
  refine (laws_szBoxS (h0.ext e2) ok0 (by omega) (by omega)).mono ?_
  rintro _ w6 ⟨r3, rfl, q4, e5⟩
  have E6 := (Ext.trans e2 e5)
  conv => whnf
  with_reducible refine IfB.dec (fun h7 => ?_) (fun h7 => ?_)
  · conv => whnf
    exact ⟨rfl, E6⟩
  · conv => whnf
    refine SemK.loadAgg (n := 5) (by kernel_rfl) (B2.ext e5).cells rfl ?_
    conv => whnf
    refine (laws_szBox ok1 (by omega) (by omega) _).mono ?_
    rintro _ w11 ⟨r8, rfl, q9, e10⟩
    have E11 := (Ext.trans E6 e10)
    conv => whnf
    with_reducible refine IfB.dec (fun h12 => ?_) (fun h12 => ?_)
    · conv => whnf
      exact ⟨rfl, E11⟩
    · conv => whnf
      refine DrawK.held tabok mixed [(0, false), (2, false), (1, true), (3, true), (4, true), (5, true), (6, false), (7, false), (8, true), (9, true)] (by kernel_rfl) (by kernel_rfl) ?_
      conv => whnf
      intro w13 e13
      conv => whnf
      refine DSemK.loadAgg (n := 5) (by kernel_rfl) (B2.ext (Ext.trans e5 e10)).cells rfl ?_
      conv => whnf
      refine (laws_toBoxS (h0.ext (Ext.trans E11 e13)) (by omega)).mono ?_
      rintro _ w18 ⟨b14, rfl, q15, e16, O17⟩
      have E18 := (Ext.trans (Ext.trans E11 e13) e16)
      have lnO17 := O17.1
      conv => whnf
      refine ⟨(Ext.trans e13 e16), ?_⟩
      conv => whnf
      refine (laws_toBox _ _).mono ?_
      rintro _ w20 ⟨rfl, e19⟩
      have E20 := (Ext.trans E18 e19)
      conv => whnf
      refine ⟨(Ext.trans (Ext.trans e13 e16) e19), ?_⟩
      conv => whnf
      refine (spec_StoreBox ((O17.ext e19).arr TBox.enc_len) ok0 (Nat.le_refl _) _ ok1).mono ?_
      rintro _ w27 ⟨a'21, n'22, c'23, rfl, N24, O25, e26⟩
      have E27 := (Ext.trans E20 e26)
      have lnO25 := O25.1
      conv => whnf
      refine ⟨(Ext.trans (Ext.trans (Ext.trans e13 e16) e19) e26), ?_⟩
      conv => whnf
      refine (laws_toBoxS (h0.ext E27) (by omega)).mono ?_
      rintro _ w32 ⟨b28, rfl, q29, e30, O31⟩
      have E32 := (Ext.trans E27 e30)
      have lnO31 := O31.1
      conv => whnf
      refine SemK.loadAgg (n := 5) (by kernel_rfl) (B2.ext (Ext.trans (Ext.trans (Ext.trans (Ext.trans (Ext.trans (Ext.trans e5 e10) e13) e16) e19) e26) e30)).cells rfl ?_
      conv => whnf
      refine (laws_toBox _ _).mono ?_
      rintro _ w34 ⟨rfl, e33⟩
      have E34 := (Ext.trans E32 e33)
      conv => whnf
      refine (impl_StoreBox ((O31.ext e33).arr TBox.enc_len) ok0 (Nat.le_refl _) _ ok1).mono ?_
      rintro _ w41 ⟨a'35, n'36, c'37, rfl, N38, O39, e40⟩
      have E41 := (Ext.trans E34 e40)
      have lnO39 := O39.1
      conv => whnf
      refine (laws_eqBoxS (O39.arr TBox.enc_len) ((O25.ext (Ext.trans (Ext.trans e30 e33) e40)).arr TBox.enc_len)).mono ?_
      rintro _ w43 ⟨rfl, e42⟩
      have E43 := (Ext.trans E41 e42)
      conv => whnf
      refine IfB.eqf (by simp; done) ?_
      conv => whnf
      refine IfB.eqf (by simp; done) ?_
      conv => whnf
      refine (laws_toBoxS (h0.ext E43) (by omega)).mono ?_
      rintro _ w48 ⟨b44, rfl, q45, e46, O47⟩
      have E48 := (Ext.trans E43 e46)
      have lnO47 := O47.1
      conv => whnf
      refine (laws_eqBoxS ((O31.ext (Ext.trans (Ext.trans (Ext.trans e33 e40) e42) e46)).arr TBox.enc_len) (O47.arr TBox.enc_len)).mono ?_
      rintro _ w50 ⟨rfl, e49⟩
      have E50 := (Ext.trans E48 e49)
      conv => whnf
      refine IfB.eqf (by simp; done) ?_
      conv => whnf
      refine (laws_markBoxS (k0 := 1) (O31.ext (Ext.trans (Ext.trans (Ext.trans (Ext.trans e33 e40) e42) e46) e49)) (by omega)).mono ?_
      rintro _ w53 ⟨rfl, m51, O52⟩
      have E53 := (Ext.mod_trans E50 m51 (fun k hk => Nat.le_trans (Below.size E27) (blkIn_new (NewAt.some q29) k hk)))
      have lnO52 := O52.1
      conv => whnf
      refine (laws_eqBoxS (((O39.ext (Ext.trans (Ext.trans e42 e46) e49)).mod m51 (apart' N38 O31.lt (Below.size e33))).arr TBox.enc_len) ((O25.ext (Ext.mod_trans (Ext.trans (Ext.trans (Ext.trans (Ext.trans (Ext.trans e30 e33) e40) e42) e46) e49) m51 (blkIn_new (NewAt.some q29)))).arr TBox.enc_len)).mono ?_
      rintro _ w55 ⟨rfl, e54⟩
      have E55 := (Ext.trans E53 e54)
      conv => whnf
      refine IfB.eqf (by simp; done) ?_
      conv => whnf
      refine IfB.eqf (by simp; done) ?_
      conv => whnf
      refine (laws_markBoxS (k0 := 1) (((O39.ext (Ext.trans (Ext.trans e42 e46) e49)).mod m51 (apart' N38 O31.lt (Below.size e33))).ext e54) (by omega)).mono ?_
      rintro _ w58 ⟨rfl, m56, O57⟩
      have E58 := (Ext.mod_trans E55 m56 (fun k hk => Nat.le_trans (Below.size E34) (blkIn_new N38 k hk)))
      have lnO57 := O57.1
      conv => whnf
      refine (laws_heldBoxS (k0 := 1) (O57.arr TBox.enc_len) (by omega)).mono ?_
      rintro _ w60 ⟨rfl, e59⟩
      have E60 := (Ext.trans E58 e59)
      conv => whnf
      refine IfB.eqf (by simp; done) ?_
      conv => whnf
      refine DrawK.held tabok mixed [(0, false), (2, false), (1, true), (3, true), (4, true), (5, true), (6, false), (7, false), (8, true), (9, true)] (by kernel_rfl) (by kernel_rfl) ?_
      conv => whnf
      intro w61 e61
      conv => whnf
      refine DSemK.loadAgg (n := 5) (by kernel_rfl) (B2.ext (Ext.trans (Ext.mod_trans (Ext.trans (Ext.mod_trans (Ext.trans (Ext.trans (Ext.trans (Ext.trans (Ext.trans (Ext.trans (Ext.trans (Ext.trans (Ext.trans (Ext.trans (Ext.trans e5 e10) e13) e16) e19) e26) e30) e33) e40) e42) e46) e49) m51 (fun k hk => Nat.le_trans (Below.size (Ext.trans (Ext.trans (Ext.trans (Ext.trans (Ext.trans e5 e10) e13) e16) e19) e26)) (blkIn_new (NewAt.some q29) k hk))) e54) m56 (fun k hk => Nat.le_trans (Below.size (Ext.trans (Ext.trans (Ext.trans (Ext.trans (Ext.trans (Ext.trans (Ext.trans e5 e10) e13) e16) e19) e26) e30) e33)) (blkIn_new N38 k hk))) e59)).cells rfl ?_
      conv => whnf
      refine (laws_toBoxS (h0.ext (Ext.trans E60 e61)) (by omega)).mono ?_
      rintro _ w66 ⟨b62, rfl, q63, e64, O65⟩
      have E66 := (Ext.trans (Ext.trans E60 e61) e64)
      have lnO65 := O65.1
      conv => whnf
      refine ⟨(Ext.trans e61 e64), ?_⟩
      conv => whnf
      refine (laws_toBox _ _).mono ?_
      rintro _ w68 ⟨rfl, e67⟩
      have E68 := (Ext.trans E66 e67)
      conv => whnf
      refine ⟨(Ext.trans (Ext.trans e61 e64) e67), ?_⟩
      conv => whnf
      refine (impl_StoreBox ((O65.ext e67).arr TBox.enc_len) ok0 (Nat.le_refl _) _ ok1).mono ?_
      rintro _ w75 ⟨a'69, n'70, c'71, rfl, N72, O73, e74⟩
      have E75 := (Ext.trans E68 e74)
      have lnO73 := O73.1
      conv => whnf
      refine ⟨(Ext.trans (Ext.trans (Ext.trans e61 e64) e67) e74), ?_⟩
      conv => whnf
      refine (laws_eqBoxS (O73.arr TBox.enc_len) ((O25.ext (Ext.trans (Ext.trans (Ext.trans (Ext.trans (Ext.trans (Ext.mod_trans (Ext.trans (Ext.mod_trans (Ext.trans (Ext.trans (Ext.trans (Ext.trans (Ext.trans e30 e33) e40) e42) e46) e49) m51 (blkIn_new (NewAt.some q29))) e54) m56 (fun k hk => Nat.le_trans (Below.size (Ext.trans e30 e33)) (blkIn_new N38 k hk))) e59) e61) e64) e67) e74)).arr TBox.enc_len)).mono ?_
      rintro _ w77 ⟨rfl, e76⟩
      have E77 := (Ext.trans E75 e76)
      conv => whnf
      refine IfB.eqf (by simp; done) ?_
      conv => whnf
      refine IfB.eqf (by simp; done) ?_
      conv => whnf
      refine (laws_heldBoxS (k0 := 1) ((O57.ext (Ext.trans (Ext.trans (Ext.trans (Ext.trans (Ext.trans e59 e61) e64) e67) e74) e76)).arr TBox.enc_len) (by omega)).mono ?_
      rintro _ w79 ⟨rfl, e78⟩
      have E79 := (Ext.trans E77 e78)
      conv => whnf
      refine IfB.eqf (by simp; done) ?_
      conv => whnf
      exact ⟨rfl, E79⟩
set_option maxRecDepth 100000 in
theorem open_StoreBox {H : Type} {enc : TypeId × Value → H} {base : Nat} (W : World) (args : List Value) (ds : List (DataW H)) (p : List MemPlace) (hA : DataW.TrodAll enc Try.prog W 0 (fun _ => true) true (Try.f3).params.toList args ds p)
    (hv : ∀ (j : Nat) t v, (Try.f3).params[j]? = some t → args[j]? = some v → Value.okWide Try.prog W .any base t v) : Does Try.prog 3 args W (fun v w' => v = .bool true ∧ Ext W w') := by
  have e : (Try.f3).params.toList = [22, 24] := rfl
  rw [e] at hA
  obtain ⟨v0, vs0, d0, ds0, p0, q0, rfl, rfl, rfl, g0, r0⟩ := trodAll_cons hA
  obtain ⟨v1, vs1, d1, ds1, p1, q1, rfl, rfl, rfl, g1, r1⟩ := trodAll_cons r0
  obtain ⟨rfl, rfl, rfl⟩ := trodAll_nil r1
  obtain ⟨a0, n0, c0, x0, rfl, h0, ok0⟩ := open_arr (encα := TBox.enc) (ok := TBox.ok) (sz := 5) Try.underlying22 (by kernel_rfl) (by omega) (fun n cs x h => TBox.of_flat (trod_flat (ks := [true, false, false, false, true]) (by kernel_rfl) h)) TBox.enc_len (hv 0 22 v0 (by rw [← Array.getElem?_toList, e]; rfl) rfl) g0
  obtain ⟨cs1, rfl, hf1⟩ := open_flat (ks := [true, false, false, false, true]) (by kernel_rfl) (hv 1 24 v1 (by rw [← Array.getElem?_toList, e]; rfl) rfl) g1
  obtain ⟨x1, rfl, ok1⟩ := TBox.of_flat hf1
  exact law_StoreBox h0 ok0 ok1
set_option maxRecDepth 100000 in
theorem FnExactStoreBox_lifted (os : Os) (started : os.Started) (H : Type) (enc : TypeId × Value → H) :
    ReturnsInHanded {} Try.checked os 3 .any (Rows.fnExactStoreBoxSpec.pre6 enc Try.prog Try.f3 Rows.fnExactStoreBoxRow.domain false) (Rows.fnExactStoreBoxSpec.post enc Try.prog Try.f3 false true false false) := by
  refine returnsInHanded_of_change (C := Try.checked) law_own started (by kernel_rfl) Try.func3
    (ChangeSpec.witness6 (enc := enc) (C := Try.checked) false ⟨#[], #[.slice none 0 0,.agg #[.string { data := #[] }, .int .i64 0, .int .i64 0, .int .i64 0, .string { data := #[] }]], []⟩ 8 (by kernel_rfl) (by kernel_rfl) (by kernel_rfl) (by kernel_rfl)) ?_
  intro W base args ds gs before hval hW _ _
  exact law_contract (P := Try.prog) (fn := Try.f3) (s := Rows.fnExactStoreBoxSpec) rfl rfl Try.underlying4 law_laid (by kernel_rfl)
    (fun ds h => match ds, h with | [d0, d1], _ => ⟨rfl, rfl, rfl⟩) (fun W args ds p hA hv => open_StoreBox W args ds p hA hv) W args ds gs before hval hW
theorem FnExactStoreBox_holds : Rows.FnExactStoreBoxSaid :=
  OpenClaim.holds_of_wide 3 Try.f3 rfl rfl rfl rfl rfl rfl rfl ⟨rfl, rfl, rfl, rfl, rfl⟩ rfl rfl rfl rfl rfl (by kernel_rfl) Try.func3 (by kernel_rfl)
    (of_decide_eq_true (by kernel_rfl)) (by unfold Func.isWrapper; first | (rw [if_pos (by decide +kernel)]; kernel_rfl) | (rw [if_neg (by decide +kernel)]; exact ⟨rfl, rfl⟩))
    (fun os started H enc _ => FnExactStoreBox_lifted os started H enc)

end Go.Proofs.Ytmhnmdcleeadiaa
