/- The statement on the law TableTexts is proved, as it is given: for every input the law returns true and each argument reads as before. No conditions. -/
import Derived.Test.YtmhnmdcleeadiaaKeyS
import Derived.Test.YtmhnmdcleeadiaaInts
import Derived.Test.YtmhnmdcleeadiaaStrL
import Derived.Test.YtmhnmdcleeadiaaNestArg
import Derived.Test.YtmhnmdcleeadiaaFField
import Derived.Test.YtmhnmdcleeadiaaVcApp
import Derived.Test.YtmhnmdcleeadiaaLiftBase
namespace Go.Proofs.Ytmhnmdcleeadiaa
open Go Go.RowKit Go.Vc Go.M Go.ChangeShapes Go.WideShapes Go.ChangeAt
open Go.ChangeMaps (open_string)
set_option linter.unusedVariables false in
theorem law_TableTexts {w : World} {a0 : Option Addr} {n0 c0 : Nat} {x0 : List (List Int)} (h0 : ArrS RCard w a0 n0 x0) {x1 : TField} (ok1 : x1.ok) {x2 : TField} (ok2 : x2.ok)  : Does Try.prog 4 [.slice a0 n0 c0, .agg ⟨x1.enc⟩, .agg ⟨x2.enc⟩] w (fun v w' => v = .bool true ∧ Ext w w') := by
  have len0 := h0.len
  have hToA : ∀ u, Ext w u → n0 + wtAll wtCard x0 ≤ 1048576 → Does Try.prog 19 [.slice a0 n0 c0] u (fun v w' => ∃ b, v = .slice (some ⟨b, 0, none⟩) n0 n0 ∧ u.heap.size ≤ b ∧ OwnN OCard w' u.heap.size w'.heap.size (some ⟨b, 0, none⟩) n0 81 x0 ∧ Ext u w') := fun u e h => laws_toCardSO (h0.ext e) h
  have hlen1 : (tableM x0 x1 x2).1.length ≤ 40 := table_len1 x0 x1 x2
  have hlen2 : (tableM x0 x1 x2).2.1.length ≤ 40 := table_len2 x0 x1 x2
  refine Does.of_vc tabok Try.func4 rfl rfl rfl (by kernel_rfl) ?_; conv => whnf
  refine SemK.box ?_
  intro b3 w3 g3 l3 e3 B3
  conv => whnf
  refine SemK.box ?_
  intro b4 w4 g4 l4 e4 B4
  conv => whnf
  refine (laws_szCardSE (h0.ext (Ext.trans e3 e4)) (by omega) (by omega)).mono ?_
  rintro _ w8 ⟨r5, rfl, q6, e7⟩
  have E8 := (Ext.trans (Ext.trans e3 e4) e7)
  conv => whnf
  with_reducible refine IfB.dec (fun h9 => ?_) (fun h9 => ?_)
  · conv => whnf
    exact ⟨rfl, E8⟩
  · conv => whnf
    refine DrawK.held tabok mixed [(0, false), (2, false), (4, false), (1, true), (3, true), (5, true), (6, true), (7, true), (8, false), (9, false), (10, false), (11, true), (12, true), (13, true)] (by kernel_rfl) (by kernel_rfl) ?_
    conv => whnf
    intro w10 e10
    conv => whnf
    refine DSemK.loadAgg (n := 2) (by kernel_rfl) (B3.ext (Ext.trans e4 e7)).cells rfl ?_
    conv => whnf
    refine DSemK.loadAgg (n := 2) (by kernel_rfl) (B4.ext e7).cells rfl ?_
    conv => whnf
    refine (hToA _ (Ext.trans E8 e10) (by omega)).mono ?_
    rintro _ w15 ⟨b11, rfl, q12, O13, e14⟩
    have E15 := (Ext.trans (Ext.trans E8 e10) e14)
    conv => whnf
    refine ⟨(Ext.trans e10 e14), ?_⟩
    conv => whnf
    refine (laws_toField _ _).mono ?_
    rintro _ w17 ⟨rfl, e16⟩
    have E17 := (Ext.trans E15 e16)
    conv => whnf
    refine ⟨(Ext.trans (Ext.trans e10 e14) e16), ?_⟩
    conv => whnf
    refine (laws_toField _ _).mono ?_
    rintro _ w19 ⟨rfl, e18⟩
    have E19 := (Ext.trans E17 e18)
    conv => whnf
    refine ⟨(Ext.trans (Ext.trans (Ext.trans e10 e14) e16) e18), ?_⟩
    conv => whnf
    refine (spec_TableTexts (O13.ext (Ext.trans e16 e18)).arr _ _).mono ?_
    rintro _ w32 ⟨a120, n121, c122, a223, n224, c225, rfl, N26, N27, O28, O29, q30, e31⟩
    have E32 := (Ext.trans E19 e31)
    have lnO28 := O28.1
    have lnO29 := O29.1
    conv => whnf
    refine ⟨(Ext.trans (Ext.trans (Ext.trans (Ext.trans e10 e14) e16) e18) e31), ?_⟩
    conv => whnf
    refine (hToA _ E32 (by omega)).mono ?_
    rintro _ w37 ⟨b33, rfl, q34, O35, e36⟩
    have E37 := (Ext.trans E32 e36)
    conv => whnf
    refine DrawK.held tabok mixed [(0, false), (1, false), (3, false), (2, true), (4, true), (5, true), (6, true), (7, false), (8, false), (9, false), (10, true), (11, true), (12, true)] (by kernel_rfl) (by kernel_rfl) ?_
    conv => whnf
    intro w38 e38
    conv => whnf
    refine DSemK.loadAgg (n := 2) (by kernel_rfl) (B3.ext (Ext.trans (Ext.trans (Ext.trans (Ext.trans (Ext.trans (Ext.trans (Ext.trans e4 e7) e10) e14) e16) e18) e31) e36)).cells rfl ?_
    conv => whnf
    refine DSemK.loadAgg (n := 2) (by kernel_rfl) (B4.ext (Ext.trans (Ext.trans (Ext.trans (Ext.trans (Ext.trans (Ext.trans e7 e10) e14) e16) e18) e31) e36)).cells rfl ?_
    conv => whnf
    refine (laws_toField _ _).mono ?_
    rintro _ w40 ⟨rfl, e39⟩
    have E40 := (Ext.trans (Ext.trans E37 e38) e39)
    conv => whnf
    refine ⟨(Ext.trans e38 e39), ?_⟩
    conv => whnf
    refine (laws_toField _ _).mono ?_
    rintro _ w42 ⟨rfl, e41⟩
    have E42 := (Ext.trans E40 e41)
    conv => whnf
    refine ⟨(Ext.trans (Ext.trans e38 e39) e41), ?_⟩
    conv => whnf
    refine (impl_TableTexts (O35.ext (Ext.trans (Ext.trans e38 e39) e41)).arr _ _).mono ?_
    rintro _ w55 ⟨a143, n144, c145, a246, n247, c248, rfl, N49, N50, O51, O52, q53, e54⟩
    have E55 := (Ext.trans E42 e54)
    have lnO51 := O51.1
    have lnO52 := O52.1
    conv => whnf
    refine ⟨(Ext.trans (Ext.trans (Ext.trans e38 e39) e41) e54), ?_⟩
    conv => whnf
    refine (laws_eqStringS (O51.arr eS_len) ((O28.ext (Ext.trans (Ext.trans (Ext.trans (Ext.trans e36 e38) e39) e41) e54)).arr eS_len)).mono ?_
    rintro _ w57 ⟨rfl, e56⟩
    have E57 := (Ext.trans E55 e56)
    conv => whnf
    refine IfB.eqf (by simp; done) ?_
    conv => whnf
    refine (laws_eqStringS ((O52.ext e56).arr eS_len) ((O29.ext (Ext.trans (Ext.trans (Ext.trans (Ext.trans (Ext.trans e36 e38) e39) e41) e54) e56)).arr eS_len)).mono ?_
    rintro _ w59 ⟨rfl, e58⟩
    have E59 := (Ext.trans E57 e58)
    conv => whnf
    refine IfB.eqf (by simp; done) ?_
    conv => whnf
    refine IfB.eqf (by simp; done) ?_
    conv => whnf
    refine (hToA _ E59 (by omega)).mono ?_
    rintro _ w64 ⟨b60, rfl, q61, O62, e63⟩
    have E64 := (Ext.trans E59 e63)
    conv => whnf
    refine (laws_eqCardS (O35.ext (Ext.trans (Ext.trans (Ext.trans (Ext.trans (Ext.trans (Ext.trans e38 e39) e41) e54) e56) e58) e63)).arr O62.arr).mono ?_
    rintro _ w66 ⟨rfl, e65⟩
    have E66 := (Ext.trans E64 e65)
    conv => whnf
    refine IfB.eqf (by simp; done) ?_
    conv => whnf
    refine (laws_markCardSN (k0 := 1) (O35.ext (Ext.trans (Ext.trans (Ext.trans (Ext.trans (Ext.trans (Ext.trans (Ext.trans e38 e39) e41) e54) e56) e58) e63) e65)) (by omega)).mono ?_
    rintro _ w69 ⟨rfl, m67, O68⟩
    have E69 := (Ext.mod_trans E66 m67 (fun k hk => Nat.le_trans (Below.size E32) hk.1))
    conv => whnf
    refine (laws_eqStringS (((O51.ext (Ext.trans (Ext.trans (Ext.trans e56 e58) e63) e65)).mod m67 (ivNew N49 (Below.size (Ext.trans (Ext.trans e38 e39) e41)))).arr eS_len) ((O28.ext (Ext.mod_trans (Ext.trans (Ext.trans (Ext.trans (Ext.trans (Ext.trans (Ext.trans (Ext.trans (Ext.trans e36 e38) e39) e41) e54) e56) e58) e63) e65) m67 (fun k hk => hk.1))).arr eS_len)).mono ?_
    rintro _ w71 ⟨rfl, e70⟩
    have E71 := (Ext.trans E69 e70)
    conv => whnf
    refine IfB.eqf (by simp; done) ?_
    conv => whnf
    refine (laws_eqStringS ((((O52.ext (Ext.trans (Ext.trans (Ext.trans e56 e58) e63) e65)).mod m67 (ivNew N50 (Below.size (Ext.trans (Ext.trans e38 e39) e41)))).ext e70).arr eS_len) ((O29.ext (Ext.trans (Ext.mod_trans (Ext.trans (Ext.trans (Ext.trans (Ext.trans (Ext.trans (Ext.trans (Ext.trans (Ext.trans e36 e38) e39) e41) e54) e56) e58) e63) e65) m67 (fun k hk => hk.1)) e70)).arr eS_len)).mono ?_
    rintro _ w73 ⟨rfl, e72⟩
    have E73 := (Ext.trans E71 e72)
    conv => whnf
    refine IfB.eqf (by simp; done) ?_
    conv => whnf
    refine IfB.eqf (by simp; done) ?_
    conv => whnf
    refine (laws_markStringS (k0 := 1) (((O51.ext (Ext.trans (Ext.trans (Ext.trans e56 e58) e63) e65)).mod m67 (ivNew N49 (Below.size (Ext.trans (Ext.trans e38 e39) e41)))).ext (Ext.trans e70 e72)) (by omega)).mono ?_
    rintro _ w76 ⟨rfl, m74, O75⟩
    have E76 := (Ext.mod_trans E73 m74 (fun k hk => Nat.le_trans (Below.size E42) (blkIn_new N49 k hk)))
    have lnO75 := O75.1
    conv => whnf
    refine (laws_markStringS ((((O52.ext (Ext.trans (Ext.trans (Ext.trans e56 e58) e63) e65)).mod m67 (ivNew N50 (Below.size (Ext.trans (Ext.trans e38 e39) e41)))).ext (Ext.trans e70 e72)).mod m74 q53) (by omega)).mono ?_
    rintro _ w79 ⟨rfl, m77, O78⟩
    have E79 := (Ext.mod_trans E76 m77 (fun k hk => Nat.le_trans (Below.size E42) (blkIn_new N50 k hk)))
    have lnO78 := O78.1
    conv => whnf
    refine (laws_heldStringS (k0 := 1) ((O75.mod m77 q53.symm).arr eS_len) (by omega)).mono ?_
    rintro _ w81 ⟨rfl, e80⟩
    have E81 := (Ext.trans E79 e80)
    conv => whnf
    refine (laws_heldStringS ((O78.ext e80).arr eS_len) (by omega)).mono ?_
    rintro _ w83 ⟨rfl, e82⟩
    have E83 := (Ext.trans E81 e82)
    conv => whnf
    refine IfB.eqf (by simp; done) ?_
    conv => whnf
    refine DrawK.held tabok mixed [(0, false), (2, false), (4, false), (1, true), (3, true), (5, true), (6, true), (7, true), (8, false), (9, false), (10, false), (11, true), (12, true), (13, true)] (by kernel_rfl) (by kernel_rfl) ?_
    conv => whnf
    intro w84 e84
    conv => whnf
    refine DSemK.loadAgg (n := 2) (by kernel_rfl) (B3.ext (Ext.trans (Ext.trans (Ext.mod_trans (Ext.mod_trans (Ext.trans (Ext.trans (Ext.mod_trans (Ext.trans (Ext.trans (Ext.trans (Ext.trans (Ext.trans (Ext.trans (Ext.trans (Ext.trans (Ext.trans (Ext.trans (Ext.trans (Ext.trans (Ext.trans (Ext.trans (Ext.trans e4 e7) e10) e14) e16) e18) e31) e36) e38) e39) e41) e54) e56) e58) e63) e65) m67 (fun k hk => Nat.le_trans (Below.size (Ext.trans (Ext.trans (Ext.trans (Ext.trans (Ext.trans (Ext.trans e4 e7) e10) e14) e16) e18) e31)) hk.1)) e70) e72) m74 (fun k hk => Nat.le_trans (Below.size (Ext.trans (Ext.trans (Ext.trans (Ext.trans (Ext.trans (Ext.trans (Ext.trans (Ext.trans (Ext.trans (Ext.trans e4 e7) e10) e14) e16) e18) e31) e36) e38) e39) e41)) (blkIn_new N49 k hk))) m77 (fun k hk => Nat.le_trans (Below.size (Ext.trans (Ext.trans (Ext.trans (Ext.trans (Ext.trans (Ext.trans (Ext.trans (Ext.trans (Ext.trans (Ext.trans e4 e7) e10) e14) e16) e18) e31) e36) e38) e39) e41)) (blkIn_new N50 k hk))) e80) e82)).cells rfl ?_
    conv => whnf
    refine DSemK.loadAgg (n := 2) (by kernel_rfl) (B4.ext (Ext.trans (Ext.trans (Ext.mod_trans (Ext.mod_trans (Ext.trans (Ext.trans (Ext.mod_trans (Ext.trans (Ext.trans (Ext.trans (Ext.trans (Ext.trans (Ext.trans (Ext.trans (Ext.trans (Ext.trans (Ext.trans (Ext.trans (Ext.trans (Ext.trans (Ext.trans e7 e10) e14) e16) e18) e31) e36) e38) e39) e41) e54) e56) e58) e63) e65) m67 (fun k hk => Nat.le_trans (Below.size (Ext.trans (Ext.trans (Ext.trans (Ext.trans (Ext.trans e7 e10) e14) e16) e18) e31)) hk.1)) e70) e72) m74 (fun k hk => Nat.le_trans (Below.size (Ext.trans (Ext.trans (Ext.trans (Ext.trans (Ext.trans (Ext.trans (Ext.trans (Ext.trans (Ext.trans e7 e10) e14) e16) e18) e31) e36) e38) e39) e41)) (blkIn_new N49 k hk))) m77 (fun k hk => Nat.le_trans (Below.size (Ext.trans (Ext.trans (Ext.trans (Ext.trans (Ext.trans (Ext.trans (Ext.trans (Ext.trans (Ext.trans e7 e10) e14) e16) e18) e31) e36) e38) e39) e41)) (blkIn_new N50 k hk))) e80) e82)).cells rfl ?_
    conv => whnf
    refine (hToA _ (Ext.trans E83 e84) (by omega)).mono ?_
    rintro _ w89 ⟨b85, rfl, q86, O87, e88⟩
    have E89 := (Ext.trans (Ext.trans E83 e84) e88)
    conv => whnf
    refine ⟨(Ext.trans e84 e88), ?_⟩
    conv => whnf
    refine (laws_toField _ _).mono ?_
    rintro _ w91 ⟨rfl, e90⟩
    have E91 := (Ext.trans E89 e90)
    conv => whnf
    refine ⟨(Ext.trans (Ext.trans e84 e88) e90), ?_⟩
    conv => whnf
    refine (laws_toField _ _).mono ?_
    rintro _ w93 ⟨rfl, e92⟩
    have E93 := (Ext.trans E91 e92)
    conv => whnf
    refine ⟨(Ext.trans (Ext.trans (Ext.trans e84 e88) e90) e92), ?_⟩
    conv => whnf
    refine (impl_TableTexts (O87.ext (Ext.trans e90 e92)).arr _ _).mono ?_
    rintro _ w106 ⟨a194, n195, c196, a297, n298, c299, rfl, N100, N101, O102, O103, q104, e105⟩
    have E106 := (Ext.trans E93 e105)
    have lnO102 := O102.1
    have lnO103 := O103.1
    conv => whnf
    refine ⟨(Ext.trans (Ext.trans (Ext.trans (Ext.trans e84 e88) e90) e92) e105), ?_⟩
    conv => whnf
    refine (laws_eqStringS (O102.arr eS_len) ((O28.ext (Ext.trans (Ext.trans (Ext.trans (Ext.trans (Ext.trans (Ext.trans (Ext.trans (Ext.mod_trans (Ext.mod_trans (Ext.trans (Ext.trans (Ext.mod_trans (Ext.trans (Ext.trans (Ext.trans (Ext.trans (Ext.trans (Ext.trans (Ext.trans (Ext.trans e36 e38) e39) e41) e54) e56) e58) e63) e65) m67 (fun k hk => hk.1)) e70) e72) m74 (fun k hk => Nat.le_trans (Below.size (Ext.trans (Ext.trans (Ext.trans e36 e38) e39) e41)) (blkIn_new N49 k hk))) m77 (fun k hk => Nat.le_trans (Below.size (Ext.trans (Ext.trans (Ext.trans e36 e38) e39) e41)) (blkIn_new N50 k hk))) e80) e82) e84) e88) e90) e92) e105)).arr eS_len)).mono ?_
    rintro _ w108 ⟨rfl, e107⟩
    have E108 := (Ext.trans E106 e107)
    conv => whnf
    refine IfB.eqf (by simp; done) ?_
    conv => whnf
    refine (laws_eqStringS ((O103.ext e107).arr eS_len) ((O29.ext (Ext.trans (Ext.trans (Ext.trans (Ext.trans (Ext.trans (Ext.trans (Ext.trans (Ext.trans (Ext.mod_trans (Ext.mod_trans (Ext.trans (Ext.trans (Ext.mod_trans (Ext.trans (Ext.trans (Ext.trans (Ext.trans (Ext.trans (Ext.trans (Ext.trans (Ext.trans e36 e38) e39) e41) e54) e56) e58) e63) e65) m67 (fun k hk => hk.1)) e70) e72) m74 (fun k hk => Nat.le_trans (Below.size (Ext.trans (Ext.trans (Ext.trans e36 e38) e39) e41)) (blkIn_new N49 k hk))) m77 (fun k hk => Nat.le_trans (Below.size (Ext.trans (Ext.trans (Ext.trans e36 e38) e39) e41)) (blkIn_new N50 k hk))) e80) e82) e84) e88) e90) e92) e105) e107)).arr eS_len)).mono ?_
    rintro _ w110 ⟨rfl, e109⟩
    have E110 := (Ext.trans E108 e109)
    conv => whnf
    refine IfB.eqf (by simp; done) ?_
    conv => whnf
    refine IfB.eqf (by simp; done) ?_
    conv => whnf
    refine (laws_heldStringS (k0 := 1) (((O75.mod m77 q53.symm).ext (Ext.trans (Ext.trans (Ext.trans (Ext.trans (Ext.trans (Ext.trans (Ext.trans (Ext.trans e80 e82) e84) e88) e90) e92) e105) e107) e109)).arr eS_len) (by omega)).mono ?_
    rintro _ w112 ⟨rfl, e111⟩
    have E112 := (Ext.trans E110 e111)
    conv => whnf
    refine (laws_heldStringS ((O78.ext (Ext.trans (Ext.trans (Ext.trans (Ext.trans (Ext.trans (Ext.trans (Ext.trans (Ext.trans (Ext.trans e80 e82) e84) e88) e90) e92) e105) e107) e109) e111)).arr eS_len) (by omega)).mono ?_
    rintro _ w114 ⟨rfl, e113⟩
    have E114 := (Ext.trans E112 e113)
    conv => whnf
    refine IfB.eqf (by simp; done) ?_
    conv => whnf
    exact ⟨rfl, E114⟩
set_option maxRecDepth 100000 in
theorem open_TableTexts {H : Type} {enc : TypeId × Value → H} {base : Nat} (W : World) (args : List Value) (ds : List (DataW H)) (p : List MemPlace) (hA : DataW.TrodAll enc Try.prog W 0 (fun _ => true) true (Try.f4).params.toList args ds p)
    (hv : ∀ (j : Nat) t v, (Try.f4).params[j]? = some t → args[j]? = some v → Value.okWide Try.prog W .any base t v) : Does Try.prog 4 args W (fun v w' => v = .bool true ∧ Ext W w') := by
  have e : (Try.f4).params.toList = [36, 38, 38] := rfl
  rw [e] at hA
  obtain ⟨v0, vs0, d0, ds0, p0, q0, rfl, rfl, rfl, g0, r0⟩ := trodAll_cons hA
  obtain ⟨v1, vs1, d1, ds1, p1, q1, rfl, rfl, rfl, g1, r1⟩ := trodAll_cons r0
  obtain ⟨v2, vs2, d2, ds2, p2, q2, rfl, rfl, rfl, g2, r2⟩ := trodAll_cons r1
  obtain ⟨rfl, rfl, rfl⟩ := trodAll_nil r2
  obtain ⟨a0, n0, c0, x0, rfl, h0, ok0⟩ := open_CardS W (hv 0 36 v0 (by rw [← Array.getElem?_toList, e]; rfl) rfl) g0
  obtain ⟨cs1, rfl, hf1⟩ := open_flat (ks := [false, false]) (by kernel_rfl) (hv 1 38 v1 (by rw [← Array.getElem?_toList, e]; rfl) rfl) g1
  obtain ⟨x1, rfl, ok1⟩ := TField.of_flat hf1
  obtain ⟨cs2, rfl, hf2⟩ := open_flat (ks := [false, false]) (by kernel_rfl) (hv 2 38 v2 (by rw [← Array.getElem?_toList, e]; rfl) rfl) g2
  obtain ⟨x2, rfl, ok2⟩ := TField.of_flat hf2
  exact law_TableTexts h0 ok1 ok2
set_option maxRecDepth 100000 in
theorem FnExactTableTexts_lifted (os : Os) (started : os.Started) (H : Type) (enc : TypeId × Value → H) :
    ReturnsInHanded {} Try.checked os 4 .any (Rows.fnExactTableTextsSpec.pre6 enc Try.prog Try.f4 Rows.fnExactTableTextsRow.domain false) (Rows.fnExactTableTextsSpec.post enc Try.prog Try.f4 false true false false) := by
  refine returnsInHanded_of_change (C := Try.checked) law_own started (by kernel_rfl) Try.func4
    (ChangeSpec.witness6 (enc := enc) (C := Try.checked) false ⟨#[], #[.slice none 0 0,.agg #[.int .i64 0, .int .i64 0],.agg #[.int .i64 0, .int .i64 0]], []⟩ 8 (by kernel_rfl) (by kernel_rfl) (by kernel_rfl) (by kernel_rfl)) ?_
  intro W base args ds gs before hval hW _ _
  exact law_contract (P := Try.prog) (fn := Try.f4) (s := Rows.fnExactTableTextsSpec) rfl rfl Try.underlying4 law_laid (by kernel_rfl)
    (fun ds h => match ds, h with | [d0, d1, d2], _ => ⟨rfl, rfl, rfl⟩) (fun W args ds p hA hv => open_TableTexts W args ds p hA hv) W args ds gs before hval hW
theorem FnExactTableTexts_holds : Rows.FnExactTableTextsSaid :=
  OpenClaim.holds_of_wide 4 Try.f4 rfl rfl rfl rfl rfl rfl rfl ⟨rfl, rfl, rfl, rfl, rfl⟩ rfl rfl rfl rfl rfl (by kernel_rfl) Try.func4 (by kernel_rfl)
    (of_decide_eq_true (by kernel_rfl)) (by unfold Func.isWrapper; first | (rw [if_pos (by decide +kernel)]; kernel_rfl) | (rw [if_neg (by decide +kernel)]; exact ⟨rfl, rfl⟩))
    (fun os started H enc _ => FnExactTableTexts_lifted os started H enc)

end Go.Proofs.Ytmhnmdcleeadiaa
