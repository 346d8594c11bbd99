/- The statement on the law CrossTable is proved, as it is given: for every input the law returns true and each argument reads as before. No conditions. -/
import Derived.Test.YtmhnmdcleeadiaaKeyR
import Derived.Test.YtmhnmdcleeadiaaInts
import Derived.Test.YtmhnmdcleeadiaaNestArg
import Derived.Test.YtmhnmdcleeadiaaFField
import Derived.Test.YtmhnmdcleeadiaaVcApp
import Derived.Test.YtmhnmdcleeadiaaLiftBase
namespace Go.Proofs.Ytmhnmdcleeadiaa
open Go Go.RowKit Go.Vc Go.M Go.ChangeShapes Go.WideShapes Go.ChangeAt
open Go.ChangeMaps (open_string)
set_option linter.unusedVariables false in
theorem law_CrossTable {w : World} {a0 : Option Addr} {n0 c0 : Nat} {x0 : List (List Int)} (h0 : ArrS RCard w a0 n0 x0) {x1 : TField} (ok1 : x1.ok) {x2 : TField} (ok2 : x2.ok)  : Does Try.prog 7 [.slice a0 n0 c0, .agg ⟨x1.enc⟩, .agg ⟨x2.enc⟩] w (fun v w' => v = .bool true ∧ Ext w w') := by
  have len0 := h0.len
  have hToA : ∀ u, Ext w u → n0 + wtAll wtCard x0 ≤ 1048576 → Does Try.prog 19 [.slice a0 n0 c0] u (fun v w' => ∃ b, v = .slice (some ⟨b, 0, none⟩) n0 n0 ∧ u.heap.size ≤ b ∧ OwnN OCard w' u.heap.size w'.heap.size (some ⟨b, 0, none⟩) n0 81 x0 ∧ Ext u w') := fun u e h => laws_toCardSO (h0.ext e) h
  have hlen := cross_len x0 x1 x2
  have hlen1 := hlen.1
  have hwt : wtAll wtCard (crossTM x0 x1 x2).1 ≤ 1600 := Nat.le_trans (wtAll_rows hlen.2) (Nat.mul_le_mul_right 40 hlen.1)
  refine Does.of_vc tabok Try.func7 rfl rfl rfl (by kernel_rfl) ?_; conv => whnf
  refine SemK.box ?_
  intro b3 w3 g3 l3 e3 B3
  conv => whnf
  refine SemK.box ?_
  intro b4 w4 g4 l4 e4 B4
  conv => whnf
  refine (laws_szCardSE (h0.ext (Ext.trans e3 e4)) (by omega) (by omega)).mono ?_
  rintro _ w8 ⟨r5, rfl, q6, e7⟩
  have E8 := (Ext.trans (Ext.trans e3 e4) e7)
  conv => whnf
  with_reducible refine IfB.dec (fun h9 => ?_) (fun h9 => ?_)
  · conv => whnf
    exact ⟨rfl, E8⟩
  · conv => whnf
    refine DrawK.held tabok mixed [(0, false), (2, false), (4, false), (1, true), (3, true), (5, true), (6, true), (7, true), (8, false), (9, false), (10, true), (11, true)] (by kernel_rfl) (by kernel_rfl) ?_
    conv => whnf
    intro w10 e10
    conv => whnf
    refine DSemK.loadAgg (n := 2) (by kernel_rfl) (B3.ext (Ext.trans e4 e7)).cells rfl ?_
    conv => whnf
    refine DSemK.loadAgg (n := 2) (by kernel_rfl) (B4.ext e7).cells rfl ?_
    conv => whnf
    refine (hToA _ (Ext.trans E8 e10) (by omega)).mono ?_
    rintro _ w15 ⟨b11, rfl, q12, O13, e14⟩
    have E15 := (Ext.trans (Ext.trans E8 e10) e14)
    conv => whnf
    refine ⟨(Ext.trans e10 e14), ?_⟩
    conv => whnf
    refine (laws_toField _ _).mono ?_
    rintro _ w17 ⟨rfl, e16⟩
    have E17 := (Ext.trans E15 e16)
    conv => whnf
    refine ⟨(Ext.trans (Ext.trans e10 e14) e16), ?_⟩
    conv => whnf
    refine (laws_toField _ _).mono ?_
    rintro _ w19 ⟨rfl, e18⟩
    have E19 := (Ext.trans E17 e18)
    conv => whnf
    refine ⟨(Ext.trans (Ext.trans (Ext.trans e10 e14) e16) e18), ?_⟩
    conv => whnf
    refine (spec_CrossTable (O13.ext (Ext.trans e16 e18)).arr _ _).mono ?_
    rintro _ w26 ⟨a'20, n'21, c'22, rfl, N23, O24, e25⟩
    have E26 := (Ext.trans E19 e25)
    conv => whnf
    refine ⟨(Ext.trans (Ext.trans (Ext.trans (Ext.trans e10 e14) e16) e18) e25), ?_⟩
    conv => whnf
    refine (hToA _ E26 (by omega)).mono ?_
    rintro _ w31 ⟨b27, rfl, q28, O29, e30⟩
    have E31 := (Ext.trans E26 e30)
    conv => whnf
    refine DrawK.held tabok mixed [(0, false), (1, false), (3, false), (2, true), (4, true), (5, true), (6, true), (7, false), (8, false), (9, true), (10, true)] (by kernel_rfl) (by kernel_rfl) ?_
    conv => whnf
    intro w32 e32
    conv => whnf
    refine DSemK.loadAgg (n := 2) (by kernel_rfl) (B3.ext (Ext.trans (Ext.trans (Ext.trans (Ext.trans (Ext.trans (Ext.trans (Ext.trans e4 e7) e10) e14) e16) e18) e25) e30)).cells rfl ?_
    conv => whnf
    refine DSemK.loadAgg (n := 2) (by kernel_rfl) (B4.ext (Ext.trans (Ext.trans (Ext.trans (Ext.trans (Ext.trans (Ext.trans e7 e10) e14) e16) e18) e25) e30)).cells rfl ?_
    conv => whnf
    refine (laws_toField _ _).mono ?_
    rintro _ w34 ⟨rfl, e33⟩
    have E34 := (Ext.trans (Ext.trans E31 e32) e33)
    conv => whnf
    refine ⟨(Ext.trans e32 e33), ?_⟩
    conv => whnf
    refine (laws_toField _ _).mono ?_
    rintro _ w36 ⟨rfl, e35⟩
    have E36 := (Ext.trans E34 e35)
    conv => whnf
    refine ⟨(Ext.trans (Ext.trans e32 e33) e35), ?_⟩
    conv => whnf
    refine (impl_CrossTable (O29.ext (Ext.trans (Ext.trans e32 e33) e35)).arr _ _).mono ?_
    rintro _ w43 ⟨a'37, n'38, c'39, rfl, N40, O41, e42⟩
    have E43 := (Ext.trans E36 e42)
    conv => whnf
    refine ⟨(Ext.trans (Ext.trans (Ext.trans e32 e33) e35) e42), ?_⟩
    conv => whnf
    refine (laws_eqInt64SS O41.arr (O24.ext (Ext.trans (Ext.trans (Ext.trans (Ext.trans e30 e32) e33) e35) e42)).arr).mono ?_
    rintro _ w45 ⟨rfl, e44⟩
    have E45 := (Ext.trans E43 e44)
    conv => whnf
    refine IfB.eqf (by simp; done) ?_
    conv => whnf
    refine IfB.eqf (by simp; done) ?_
    conv => whnf
    refine (hToA _ E45 (by omega)).mono ?_
    rintro _ w50 ⟨b46, rfl, q47, O48, e49⟩
    have E50 := (Ext.trans E45 e49)
    conv => whnf
    refine (laws_eqCardS (O29.ext (Ext.trans (Ext.trans (Ext.trans (Ext.trans (Ext.trans e32 e33) e35) e42) e44) e49)).arr O48.arr).mono ?_
    rintro _ w52 ⟨rfl, e51⟩
    have E52 := (Ext.trans E50 e51)
    conv => whnf
    refine IfB.eqf (by simp; done) ?_
    conv => whnf
    refine (laws_markCardSN (k0 := 1) (O29.ext (Ext.trans (Ext.trans (Ext.trans (Ext.trans (Ext.trans (Ext.trans e32 e33) e35) e42) e44) e49) e51)) (by omega)).mono ?_
    rintro _ w55 ⟨rfl, m53, O54⟩
    have E55 := (Ext.mod_trans E52 m53 (fun k hk => Nat.le_trans (Below.size E26) hk.1))
    conv => whnf
    refine (laws_eqInt64SS ((O41.ext (Ext.trans (Ext.trans e44 e49) e51)).mod m53 (Iv_newer (Below.size (Ext.trans (Ext.trans e32 e33) e35)))).arr (O24.ext (Ext.mod_trans (Ext.trans (Ext.trans (Ext.trans (Ext.trans (Ext.trans (Ext.trans (Ext.trans e30 e32) e33) e35) e42) e44) e49) e51) m53 (fun k hk => hk.1))).arr).mono ?_
    rintro _ w57 ⟨rfl, e56⟩
    have E57 := (Ext.trans E55 e56)
    conv => whnf
    refine IfB.eqf (by simp; done) ?_
    conv => whnf
    refine IfB.eqf (by simp; done) ?_
    conv => whnf
    refine (laws_markInt64SSN (k0 := 1) (((O41.ext (Ext.trans (Ext.trans e44 e49) e51)).mod m53 (Iv_newer (Below.size (Ext.trans (Ext.trans e32 e33) e35)))).ext e56) (by omega)).mono ?_
    rintro _ w63 ⟨rfl, m61, O62⟩
    have E63 := (Ext.mod_trans E57 m61 (fun k hk => Nat.le_trans (Below.size E36) hk.1))
    conv => whnf
    refine (laws_heldInt64SS (k0 := 1) O62.arr (by omega)).mono ?_
    rintro _ w65 ⟨rfl, e64⟩
    have E65 := (Ext.trans E63 e64)
    conv => whnf
    refine IfB.eqf (by simp; done) ?_
    conv => whnf
    refine DrawK.held tabok mixed [(0, false), (2, false), (4, false), (1, true), (3, true), (5, true), (6, true), (7, true), (8, false), (9, false), (10, true), (11, true)] (by kernel_rfl) (by kernel_rfl) ?_
    conv => whnf
    intro w66 e66
    conv => whnf
    refine DSemK.loadAgg (n := 2) (by kernel_rfl) (B3.ext (Ext.trans (Ext.mod_trans (Ext.trans (Ext.mod_trans (Ext.trans (Ext.trans (Ext.trans (Ext.trans (Ext.trans (Ext.trans (Ext.trans (Ext.trans (Ext.trans (Ext.trans (Ext.trans (Ext.trans (Ext.trans (Ext.trans e4 e7) e10) e14) e16) e18) e25) e30) e32) e33) e35) e42) e44) e49) e51) m53 (fun k hk => Nat.le_trans (Below.size (Ext.trans (Ext.trans (Ext.trans (Ext.trans (Ext.trans (Ext.trans e4 e7) e10) e14) e16) e18) e25)) hk.1)) e56) m61 (fun k hk => Nat.le_trans (Below.size (Ext.trans (Ext.trans (Ext.trans (Ext.trans (Ext.trans (Ext.trans (Ext.trans (Ext.trans (Ext.trans (Ext.trans e4 e7) e10) e14) e16) e18) e25) e30) e32) e33) e35)) hk.1)) e64)).cells rfl ?_
    conv => whnf
    refine DSemK.loadAgg (n := 2) (by kernel_rfl) (B4.ext (Ext.trans (Ext.mod_trans (Ext.trans (Ext.mod_trans (Ext.trans (Ext.trans (Ext.trans (Ext.trans (Ext.trans (Ext.trans (Ext.trans (Ext.trans (Ext.trans (Ext.trans (Ext.trans (Ext.trans (Ext.trans e7 e10) e14) e16) e18) e25) e30) e32) e33) e35) e42) e44) e49) e51) m53 (fun k hk => Nat.le_trans (Below.size (Ext.trans (Ext.trans (Ext.trans (Ext.trans (Ext.trans e7 e10) e14) e16) e18) e25)) hk.1)) e56) m61 (fun k hk => Nat.le_trans (Below.size (Ext.trans (Ext.trans (Ext.trans (Ext.trans (Ext.trans (Ext.trans (Ext.trans (Ext.trans (Ext.trans e7 e10) e14) e16) e18) e25) e30) e32) e33) e35)) hk.1)) e64)).cells rfl ?_
    conv => whnf
    refine (hToA _ (Ext.trans E65 e66) (by omega)).mono ?_
    rintro _ w71 ⟨b67, rfl, q68, O69, e70⟩
    have E71 := (Ext.trans (Ext.trans E65 e66) e70)
    conv => whnf
    refine ⟨(Ext.trans e66 e70), ?_⟩
    conv => whnf
    refine (laws_toField _ _).mono ?_
    rintro _ w73 ⟨rfl, e72⟩
    have E73 := (Ext.trans E71 e72)
    conv => whnf
    refine ⟨(Ext.trans (Ext.trans e66 e70) e72), ?_⟩
    conv => whnf
    refine (laws_toField _ _).mono ?_
    rintro _ w75 ⟨rfl, e74⟩
    have E75 := (Ext.trans E73 e74)
    conv => whnf
    refine ⟨(Ext.trans (Ext.trans (Ext.trans e66 e70) e72) e74), ?_⟩
    conv => whnf
    refine (impl_CrossTable (O69.ext (Ext.trans e72 e74)).arr _ _).mono ?_
    rintro _ w82 ⟨a'76, n'77, c'78, rfl, N79, O80, e81⟩
    have E82 := (Ext.trans E75 e81)
    conv => whnf
    refine ⟨(Ext.trans (Ext.trans (Ext.trans (Ext.trans e66 e70) e72) e74) e81), ?_⟩
    conv => whnf
    refine (laws_eqInt64SS O80.arr (O24.ext (Ext.trans (Ext.trans (Ext.trans (Ext.trans (Ext.trans (Ext.trans (Ext.mod_trans (Ext.trans (Ext.mod_trans (Ext.trans (Ext.trans (Ext.trans (Ext.trans (Ext.trans (Ext.trans (Ext.trans e30 e32) e33) e35) e42) e44) e49) e51) m53 (fun k hk => hk.1)) e56) m61 (fun k hk => Nat.le_trans (Below.size (Ext.trans (Ext.trans (Ext.trans e30 e32) e33) e35)) hk.1)) e64) e66) e70) e72) e74) e81)).arr).mono ?_
    rintro _ w84 ⟨rfl, e83⟩
    have E84 := (Ext.trans E82 e83)
    conv => whnf
    refine IfB.eqf (by simp; done) ?_
    conv => whnf
    refine IfB.eqf (by simp; done) ?_
    conv => whnf
    refine (laws_heldInt64SS (k0 := 1) (O62.ext (Ext.trans (Ext.trans (Ext.trans (Ext.trans (Ext.trans (Ext.trans e64 e66) e70) e72) e74) e81) e83)).arr (by omega)).mono ?_
    rintro _ w86 ⟨rfl, e85⟩
    have E86 := (Ext.trans E84 e85)
    conv => whnf
    refine IfB.eqf (by simp; done) ?_
    conv => whnf
    exact ⟨rfl, E86⟩
set_option maxRecDepth 100000 in
theorem open_CrossTable {H : Type} {enc : TypeId × Value → H} {base : Nat} (W : World) (args : List Value) (ds : List (DataW H)) (p : List MemPlace) (hA : DataW.TrodAll enc Try.prog W 0 (fun _ => true) true (Try.f7).params.toList args ds p)
    (hv : ∀ (j : Nat) t v, (Try.f7).params[j]? = some t → args[j]? = some v → Value.okWide Try.prog W .any base t v) : Does Try.prog 7 args W (fun v w' => v = .bool true ∧ Ext W w') := by
  have e : (Try.f7).params.toList = [36, 38, 38] := rfl
  rw [e] at hA
  obtain ⟨v0, vs0, d0, ds0, p0, q0, rfl, rfl, rfl, g0, r0⟩ := trodAll_cons hA
  obtain ⟨v1, vs1, d1, ds1, p1, q1, rfl, rfl, rfl, g1, r1⟩ := trodAll_cons r0
  obtain ⟨v2, vs2, d2, ds2, p2, q2, rfl, rfl, rfl, g2, r2⟩ := trodAll_cons r1
  obtain ⟨rfl, rfl, rfl⟩ := trodAll_nil r2
  obtain ⟨a0, n0, c0, x0, rfl, h0, ok0⟩ := open_CardS W (hv 0 36 v0 (by rw [← Array.getElem?_toList, e]; rfl) rfl) g0
  obtain ⟨cs1, rfl, hf1⟩ := open_flat (ks := [false, false]) (by kernel_rfl) (hv 1 38 v1 (by rw [← Array.getElem?_toList, e]; rfl) rfl) g1
  obtain ⟨x1, rfl, ok1⟩ := TField.of_flat hf1
  obtain ⟨cs2, rfl, hf2⟩ := open_flat (ks := [false, false]) (by kernel_rfl) (hv 2 38 v2 (by rw [← Array.getElem?_toList, e]; rfl) rfl) g2
  obtain ⟨x2, rfl, ok2⟩ := TField.of_flat hf2
  exact law_CrossTable h0 ok1 ok2
set_option maxRecDepth 100000 in
theorem FnExactCrossTable_lifted (os : Os) (started : os.Started) (H : Type) (enc : TypeId × Value → H) :
    ReturnsInHanded {} Try.checked os 7 .any (Rows.fnExactCrossTableSpec.pre6 enc Try.prog Try.f7 Rows.fnExactCrossTableRow.domain false) (Rows.fnExactCrossTableSpec.post enc Try.prog Try.f7 false true false false) := by
  refine returnsInHanded_of_change (C := Try.checked) law_own started (by kernel_rfl) Try.func7
    (ChangeSpec.witness6 (enc := enc) (C := Try.checked) false ⟨#[], #[.slice none 0 0,.agg #[.int .i64 0, .int .i64 0],.agg #[.int .i64 0, .int .i64 0]], []⟩ 8 (by kernel_rfl) (by kernel_rfl) (by kernel_rfl) (by kernel_rfl)) ?_
  intro W base args ds gs before hval hW _ _
  exact law_contract (P := Try.prog) (fn := Try.f7) (s := Rows.fnExactCrossTableSpec) rfl rfl Try.underlying4 law_laid (by kernel_rfl)
    (fun ds h => match ds, h with | [d0, d1, d2], _ => ⟨rfl, rfl, rfl⟩) (fun W args ds p hA hv => open_CrossTable W args ds p hA hv) W args ds gs before hval hW
theorem FnExactCrossTable_holds : Rows.FnExactCrossTableSaid :=
  OpenClaim.holds_of_wide 7 Try.f7 rfl rfl rfl rfl rfl rfl rfl ⟨rfl, rfl, rfl, rfl, rfl⟩ rfl rfl rfl rfl rfl (by kernel_rfl) Try.func7 (by kernel_rfl)
    (of_decide_eq_true (by kernel_rfl)) (by unfold Func.isWrapper; first | (rw [if_pos (by decide +kernel)]; kernel_rfl) | (rw [if_neg (by decide +kernel)]; exact ⟨rfl, rfl⟩))
    (fun os started H enc _ => FnExactCrossTable_lifted os started H enc)

end Go.Proofs.Ytmhnmdcleeadiaa
