/- The statement on the law Archives is proved, as it is given: for every input the law returns true and each argument reads as before. No conditions. -/
import Derived.Test.YtkjmbjedbmblmaaGreatDoorDrawA
import Derived.Test.YtkjmbjedbmblmaaGreatDoorArchL
import Derived.Test.YtkjmbjedbmblmaaGreatDoorStore
import Derived.Test.YtkjmbjedbmblmaaGreatDoorLend
import Derived.Test.YtkjmbjedbmblmaaGreatDoorRead
import Derived.Test.YtkjmbjedbmblmaaGreatDoorVcApp
import Derived.Test.YtkjmbjedbmblmaaGreatDoorVcByte
import Derived.Test.YtkjmbjedbmblmaaGreatDoorBasics
import Derived.Test.YtkjmbjedbmblmaaGreatDoorShelf
import Derived.Test.YtkjmbjedbmblmaaGreatDoorSeatMain
import Derived.Test.YtkjmbjedbmblmaaGreatDoorTie
import Derived.Test.YtkjmbjedbmblmaaGreatDoorCards
import Derived.Test.YtkjmbjedbmblmaaGreatDoorLiftBase
namespace Go.Proofs.YtkjmbjedbmblmaaGreatDoor
open Go Go.Shelf Go.Proofs Go.RowKit Go.Vc Go.M Go.ChangeShapes Go.WideShapes Go.ChangeAt
open Go.ChangeMaps (open_string)
set_option maxRecDepth 100000 in
set_option linter.unusedVariables false in
theorem law_Archives {w : World} {a0 : Option Addr} {n0 c0 : Nat} {x0 : List UInt8} (h0 : Arr eB 1 w a0 n0 x0) (hT : Pow w) (hE : Errs w) (hM : MaxL w) : Does Tryz.prog 7 [.slice a0 n0 c0] w (fun v w' => v = .bool true ∧ Ext w w') := by
  have len0 := h0.len
  have hRd := fun s => readBoxes_ok s
  refine Does.of_vc tabok Tryz.func7 rfl rfl rfl (by kernel_rfl) ?_; conv => whnf
  refine (laws_f6big _ _ _ _).mono ?_
  rintro _ _ ⟨rfl, rfl⟩
  conv => whnf
  with_reducible refine IfB.dec (fun h2 => ?_) (fun h2 => ?_)
  · conv => whnf
    exact ⟨rfl, Ext.refl _⟩
  · conv => whnf
    refine (spec_DrawStoreBox h0).mono ?_
    rintro _ w15 ⟨a'3, n'4, c'5, xs6, x7, rfl, q8, q9, q10, q11, N12, O13, e14⟩
    conv => whnf
    refine SemK.alloc (z := .agg #[.string { data := #[] }, .int .i64 0, .int .i64 0, .int .i64 0, .string { data := #[] }]) (by kernel_rfl) ?_
    intro b16 w16 g16 l16 e16 B16
    conv => whnf
    refine SemK.storeAll (by kernel_rfl) B16 (vs := x7.enc) rfl rfl (by simp [TBox.enc, cellish]) ?_
    intro w17 c17 B17
    conv => whnf
    refine SemK.loadAgg (n := 5) (by kernel_rfl) B17.cells rfl ?_
    conv => whnf
    refine (impl_StoreBox ((O13.ext (Ext.but_trans e16 c17.but g16)).arr TBox.enc_len) q11 q9 _ q10).mono ?_
    rintro _ w24 ⟨a'18, n'19, c'20, rfl, N21, O22, e23⟩
    conv => whnf
    refine SemK.loadAgg (n := 5) (by kernel_rfl) (B17.ext e23).cells rfl ?_
    conv => whnf
    refine (spec_StoreBox ((O13.ext (Ext.trans (Ext.but_trans e16 c17.but g16) e23)).arr TBox.enc_len) q11 q9 _ q10).mono ?_
    rintro _ w31 ⟨a'25, n'26, c'27, rfl, N28, O29, e30⟩
    conv => whnf
    refine (spec_DrawLendBox (h0.ext (Ext.trans (Ext.trans (Ext.but_trans (Ext.trans e14 e16) c17.but (Nat.le_trans (Below.size e14) g16)) e23) e30))).mono ?_
    rintro _ w46 ⟨a'32, n'33, c'34, xs35, s136, s237, rfl, q38, q39, q40, q41, q42, N43, O44, e45⟩
    conv => whnf
    have hq1 : strok s136 := by unfold strok; omega
    have hq2 : strok s237 := by unfold strok; omega
    refine (impl_LendBox (O44.arr TBox.enc_len) q42 _ _ hq2).mono ?_
    rintro _ w53 ⟨a'47, n'48, c'49, rfl, N50, O51, e52⟩
    conv => whnf
    refine (spec_LendBox ((O44.ext e52).arr TBox.enc_len) q42 _ _ hq2).mono ?_
    rintro _ w60 ⟨a'54, n'55, c'56, rfl, N57, O58, e59⟩
    conv => whnf
    refine (spec_DrawReturnBox (h0.ext (Ext.trans (Ext.trans (Ext.trans (Ext.trans (Ext.trans (Ext.but_trans (Ext.trans e14 e16) c17.but (Nat.le_trans (Below.size e14) g16)) e23) e30) e45) e52) e59))).mono ?_
    rintro _ w73 ⟨a'61, n'62, c'63, xs64, s165, rfl, q66, q67, q68, q69, N70, O71, e72⟩
    conv => whnf
    refine (impl_ReturnBox (O71.arr TBox.enc_len) q69 _).mono ?_
    rintro _ w80 ⟨a'74, n'75, c'76, rfl, N77, O78, e79⟩
    conv => whnf
    refine (spec_ReturnBox ((O71.ext e79).arr TBox.enc_len) q69 _).mono ?_
    rintro _ w87 ⟨a'81, n'82, c'83, rfl, N84, O85, e86⟩
    conv => whnf
    refine (spec_DrawLentTo (h0.ext (Ext.trans (Ext.trans (Ext.trans (Ext.trans (Ext.trans (Ext.trans (Ext.trans (Ext.trans (Ext.but_trans (Ext.trans e14 e16) c17.but (Nat.le_trans (Below.size e14) g16)) e23) e30) e45) e52) e59) e72) e79) e86))).mono ?_
    rintro _ w100 ⟨a'88, n'89, c'90, xs91, s192, rfl, q93, q94, q95, q96, N97, O98, e99⟩
    conv => whnf
    have hq3 : strok s192 := by unfold strok; omega
    refine (impl_LentTo (O98.arr TBox.enc_len) q96 _ hq3).mono ?_
    rintro _ w107 ⟨a'101, n'102, c'103, rfl, N104, O105, e106⟩
    conv => whnf
    refine (spec_LentTo ((O98.ext e106).arr TBox.enc_len) q96 _ hq3).mono ?_
    rintro _ w114 ⟨a'108, n'109, c'110, rfl, N111, O112, e113⟩
    conv => whnf
    refine (spec_DrawBoxesText (h0.ext (Ext.trans (Ext.trans (Ext.trans (Ext.trans (Ext.trans (Ext.trans (Ext.trans (Ext.trans (Ext.trans (Ext.trans (Ext.trans (Ext.but_trans (Ext.trans e14 e16) c17.but (Nat.le_trans (Below.size e14) g16)) e23) e30) e45) e52) e59) e72) e79) e86) e99) e106) e113))).mono ?_
    rintro _ w125 ⟨a'115, n'116, c'117, xs118, rfl, q119, q120, q121, N122, O123, e124⟩
    conv => whnf
    refine (impl_BoxesText (O123.arr TBox.enc_len) q121 (hT.ext (Ext.trans (Ext.trans (Ext.trans (Ext.trans (Ext.trans (Ext.trans (Ext.trans (Ext.trans (Ext.trans (Ext.trans (Ext.trans (Ext.trans (Ext.but_trans (Ext.trans e14 e16) c17.but (Nat.le_trans (Below.size e14) g16)) e23) e30) e45) e52) e59) e72) e79) e86) e99) e106) e113) e124))).mono ?_
    rintro _ w127 ⟨rfl, e126⟩
    conv => whnf
    have hbt := boxesText_size xs118
    refine (impl_ReadBoxes (by omega) (hT.ext (Ext.trans (Ext.trans (Ext.trans (Ext.trans (Ext.trans (Ext.trans (Ext.trans (Ext.trans (Ext.trans (Ext.trans (Ext.trans (Ext.trans (Ext.trans (Ext.but_trans (Ext.trans e14 e16) c17.but (Nat.le_trans (Below.size e14) g16)) e23) e30) e45) e52) e59) e72) e79) e86) e99) e106) e113) e124) e126)) (hE.ext (Ext.trans (Ext.trans (Ext.trans (Ext.trans (Ext.trans (Ext.trans (Ext.trans (Ext.trans (Ext.trans (Ext.trans (Ext.trans (Ext.trans (Ext.trans (Ext.but_trans (Ext.trans e14 e16) c17.but (Nat.le_trans (Below.size e14) g16)) e23) e30) e45) e52) e59) e72) e79) e86) e99) e106) e113) e124) e126)) (hM.ext (Ext.trans (Ext.trans (Ext.trans (Ext.trans (Ext.trans (Ext.trans (Ext.trans (Ext.trans (Ext.trans (Ext.trans (Ext.trans (Ext.trans (Ext.trans (Ext.but_trans (Ext.trans e14 e16) c17.but (Nat.le_trans (Below.size e14) g16)) e23) e30) e45) e52) e59) e72) e79) e86) e99) e106) e113) e124) e126))).mono ?_
    rintro _ w134 ⟨a128, n129, c130, rfl, N131, O132, e133⟩
    conv => whnf
    refine (spec_DrawReadBoxes (h0.ext (Ext.trans (Ext.trans (Ext.trans (Ext.trans (Ext.trans (Ext.trans (Ext.trans (Ext.trans (Ext.trans (Ext.trans (Ext.trans (Ext.trans (Ext.trans (Ext.trans (Ext.but_trans (Ext.trans e14 e16) c17.but (Nat.le_trans (Below.size e14) g16)) e23) e30) e45) e52) e59) e72) e79) e86) e99) e106) e113) e124) e126) e133))).mono ?_
    rintro _ w138 ⟨s135, rfl, q136, e137⟩
    conv => whnf
    refine (impl_ReadBoxes (by omega) (hT.ext (Ext.trans (Ext.trans (Ext.trans (Ext.trans (Ext.trans (Ext.trans (Ext.trans (Ext.trans (Ext.trans (Ext.trans (Ext.trans (Ext.trans (Ext.trans (Ext.trans (Ext.trans (Ext.but_trans (Ext.trans e14 e16) c17.but (Nat.le_trans (Below.size e14) g16)) e23) e30) e45) e52) e59) e72) e79) e86) e99) e106) e113) e124) e126) e133) e137)) (hE.ext (Ext.trans (Ext.trans (Ext.trans (Ext.trans (Ext.trans (Ext.trans (Ext.trans (Ext.trans (Ext.trans (Ext.trans (Ext.trans (Ext.trans (Ext.trans (Ext.trans (Ext.trans (Ext.but_trans (Ext.trans e14 e16) c17.but (Nat.le_trans (Below.size e14) g16)) e23) e30) e45) e52) e59) e72) e79) e86) e99) e106) e113) e124) e126) e133) e137)) (hM.ext (Ext.trans (Ext.trans (Ext.trans (Ext.trans (Ext.trans (Ext.trans (Ext.trans (Ext.trans (Ext.trans (Ext.trans (Ext.trans (Ext.trans (Ext.trans (Ext.trans (Ext.trans (Ext.but_trans (Ext.trans e14 e16) c17.but (Nat.le_trans (Below.size e14) g16)) e23) e30) e45) e52) e59) e72) e79) e86) e99) e106) e113) e124) e126) e133) e137))).mono ?_
    rintro _ w145 ⟨a139, n140, c141, rfl, N142, O143, e144⟩
    conv => whnf
    refine (spec_ReadBoxes (by omega) _).mono ?_
    rintro _ w152 ⟨a146, n147, c148, rfl, N149, O150, e151⟩
    conv => whnf
    refine (spec_DrawSameBoxes (h0.ext (Ext.trans (Ext.trans (Ext.trans (Ext.trans (Ext.trans (Ext.trans (Ext.trans (Ext.trans (Ext.trans (Ext.trans (Ext.trans (Ext.trans (Ext.trans (Ext.trans (Ext.trans (Ext.trans (Ext.trans (Ext.but_trans (Ext.trans e14 e16) c17.but (Nat.le_trans (Below.size e14) g16)) e23) e30) e45) e52) e59) e72) e79) e86) e99) e106) e113) e124) e126) e133) e137) e144) e151))).mono ?_
    rintro _ w166 ⟨a1153, n1154, c1155, xs156, a2157, n2158, c2159, ys160, rfl, q161, q162, A163, A164, e165⟩
    have hst := storeM_ok q11 q10
    have hle := lendM_ok (s := s136) q42 hq2
    have hre := returnM_ok (s := s165) q69
    have hr1 := readBoxes_ok (boxesText xs118)
    have hr2 := readBoxes_ok s135
    conv => whnf
    refine IfB.eqf (by simp; done) ?_
    conv => whnf
    refine (spec_SameBoxes ((O22.ext (Ext.trans (Ext.trans (Ext.trans (Ext.trans (Ext.trans (Ext.trans (Ext.trans (Ext.trans (Ext.trans (Ext.trans (Ext.trans (Ext.trans (Ext.trans (Ext.trans (Ext.trans (Ext.trans e30 e45) e52) e59) e72) e79) e86) e99) e106) e113) e124) e126) e133) e137) e144) e151) e165)).arr TBox.enc_len) ((O29.ext (Ext.trans (Ext.trans (Ext.trans (Ext.trans (Ext.trans (Ext.trans (Ext.trans (Ext.trans (Ext.trans (Ext.trans (Ext.trans (Ext.trans (Ext.trans (Ext.trans (Ext.trans e45 e52) e59) e72) e79) e86) e99) e106) e113) e124) e126) e133) e137) e144) e151) e165)).arr TBox.enc_len) hst hst).mono ?_
    rintro _ w2161 ⟨rfl, e2160⟩
    conv => whnf
    refine IfB.eqf (by simp; done) ?_
    conv => whnf
    refine IfB.eqf (by simp; done) ?_
    conv => whnf
    refine (spec_SameBoxes ((O51.ext (Ext.trans (Ext.trans (Ext.trans (Ext.trans (Ext.trans (Ext.trans (Ext.trans (Ext.trans (Ext.trans (Ext.trans (Ext.trans (Ext.trans (Ext.trans (Ext.trans e59 e72) e79) e86) e99) e106) e113) e124) e126) e133) e137) e144) e151) e165) e2160)).arr TBox.enc_len) ((O58.ext (Ext.trans (Ext.trans (Ext.trans (Ext.trans (Ext.trans (Ext.trans (Ext.trans (Ext.trans (Ext.trans (Ext.trans (Ext.trans (Ext.trans (Ext.trans e72 e79) e86) e99) e106) e113) e124) e126) e133) e137) e144) e151) e165) e2160)).arr TBox.enc_len) hle hle).mono ?_
    rintro _ w2163 ⟨rfl, e2162⟩
    conv => whnf
    refine IfB.eqf (by simp; done) ?_
    conv => whnf
    refine IfB.eqf (by simp; done) ?_
    conv => whnf
    refine (spec_SameBoxes ((O78.ext (Ext.trans (Ext.trans (Ext.trans (Ext.trans (Ext.trans (Ext.trans (Ext.trans (Ext.trans (Ext.trans (Ext.trans (Ext.trans (Ext.trans e86 e99) e106) e113) e124) e126) e133) e137) e144) e151) e165) e2160) e2162)).arr TBox.enc_len) ((O85.ext (Ext.trans (Ext.trans (Ext.trans (Ext.trans (Ext.trans (Ext.trans (Ext.trans (Ext.trans (Ext.trans (Ext.trans (Ext.trans e99 e106) e113) e124) e126) e133) e137) e144) e151) e165) e2160) e2162)).arr TBox.enc_len) hre hre).mono ?_
    rintro _ w2165 ⟨rfl, e2164⟩
    conv => whnf
    refine IfB.eqf (by simp; done) ?_
    conv => whnf
    refine IfB.eqf (by simp; done) ?_
    conv => whnf
    refine (laws_f6ints ((O105.ext (Ext.trans (Ext.trans (Ext.trans (Ext.trans (Ext.trans (Ext.trans (Ext.trans (Ext.trans (Ext.trans (Ext.trans e113 e124) e126) e133) e137) e144) e151) e165) e2160) e2162) e2164)).arr eI_len) ((O112.ext (Ext.trans (Ext.trans (Ext.trans (Ext.trans (Ext.trans (Ext.trans (Ext.trans (Ext.trans (Ext.trans e124 e126) e133) e137) e144) e151) e165) e2160) e2162) e2164)).arr eI_len)).mono ?_
    rintro _ w2167 ⟨rfl, e2166⟩
    conv => whnf
    refine IfB.eqf (by simp; done) ?_
    conv => whnf
    refine (spec_BoxesText ((O123.ext (Ext.trans (Ext.trans (Ext.trans (Ext.trans (Ext.trans (Ext.trans (Ext.trans (Ext.trans (Ext.trans e126 e133) e137) e144) e151) e165) e2160) e2162) e2164) e2166)).arr TBox.enc_len) q121).mono ?_
    rintro _ w2169 ⟨rfl, e2168⟩
    conv => whnf
    refine IfB.eqf (by simp; done) ?_
    conv => whnf
    with_reducible refine IfB.ndec (fun h2170 => ?_) (fun h2170 => ?_)
    · conv => whnf
      with_reducible refine IfB.nsplit (fun h2171 => ?_) (fun h2171 => ?_)
      · conv => whnf
        refine ⟨?_, (Ext.trans (Ext.trans (Ext.trans (Ext.trans (Ext.trans (Ext.trans (Ext.trans (Ext.trans (Ext.trans (Ext.trans (Ext.trans (Ext.trans (Ext.trans (Ext.trans (Ext.trans (Ext.trans (Ext.trans (Ext.trans (Ext.trans (Ext.trans (Ext.trans (Ext.trans (Ext.trans (Ext.but_trans (Ext.trans e14 e16) c17.but (Nat.le_trans (Below.size e14) g16)) e23) e30) e45) e52) e59) e72) e79) e86) e99) e106) e113) e124) e126) e133) e137) e144) e151) e165) e2160) e2162) e2164) e2166) e2168)⟩
        · rw [(boxesText_get h2170).1] at h2171; cases h2171
      · conv => whnf
        refine (spec_SameBoxes ((O132.ext (Ext.trans (Ext.trans (Ext.trans (Ext.trans (Ext.trans (Ext.trans (Ext.trans (Ext.trans e137 e144) e151) e165) e2160) e2162) e2164) e2166) e2168)).arr TBox.enc_len) ((O123.ext (Ext.trans (Ext.trans (Ext.trans (Ext.trans (Ext.trans (Ext.trans (Ext.trans (Ext.trans (Ext.trans (Ext.trans e126 e133) e137) e144) e151) e165) e2160) e2162) e2164) e2166) e2168)).arr TBox.enc_len) hr1 q121).mono ?_
        rintro _ w2173 ⟨rfl, e2172⟩
        conv => whnf
        with_reducible refine IfB.ndec (fun h2174 => ?_) (fun h2174 => ?_)
        · conv => whnf
          refine ⟨?_, (Ext.trans (Ext.trans (Ext.trans (Ext.trans (Ext.trans (Ext.trans (Ext.trans (Ext.trans (Ext.trans (Ext.trans (Ext.trans (Ext.trans (Ext.trans (Ext.trans (Ext.trans (Ext.trans (Ext.trans (Ext.trans (Ext.trans (Ext.trans (Ext.trans (Ext.trans (Ext.trans (Ext.trans (Ext.but_trans (Ext.trans e14 e16) c17.but (Nat.le_trans (Below.size e14) g16)) e23) e30) e45) e52) e59) e72) e79) e86) e99) e106) e113) e124) e126) e133) e137) e144) e151) e165) e2160) e2162) e2164) e2166) e2168) e2172)⟩
          · exact absurd (boxesText_get h2170).2 h2174
        · conv => whnf
          refine SemK.neqB (by kernel_rfl) ?_
          conv => whnf
          refine IfB.eqf (by simp; done) ?_
          conv => whnf
          refine (spec_SameBoxes ((O143.ext (Ext.trans (Ext.trans (Ext.trans (Ext.trans (Ext.trans (Ext.trans (Ext.trans e151 e165) e2160) e2162) e2164) e2166) e2168) e2172)).arr TBox.enc_len) ((O150.ext (Ext.trans (Ext.trans (Ext.trans (Ext.trans (Ext.trans (Ext.trans e165 e2160) e2162) e2164) e2166) e2168) e2172)).arr TBox.enc_len) hr2 hr2).mono ?_
          rintro _ w2176 ⟨rfl, e2175⟩
          conv => whnf
          refine IfB.eqf (by simp; done) ?_
          conv => whnf
          refine (impl_SameBoxes (A163.ext (Ext.trans (Ext.trans (Ext.trans (Ext.trans (Ext.trans (Ext.trans e2160 e2162) e2164) e2166) e2168) e2172) e2175)) (A164.ext (Ext.trans (Ext.trans (Ext.trans (Ext.trans (Ext.trans (Ext.trans e2160 e2162) e2164) e2166) e2168) e2172) e2175)) q161 q162).mono ?_
          rintro _ w2178 ⟨rfl, e2177⟩
          conv => whnf
          refine (spec_SameBoxes (A163.ext (Ext.trans (Ext.trans (Ext.trans (Ext.trans (Ext.trans (Ext.trans (Ext.trans e2160 e2162) e2164) e2166) e2168) e2172) e2175) e2177)) (A164.ext (Ext.trans (Ext.trans (Ext.trans (Ext.trans (Ext.trans (Ext.trans (Ext.trans e2160 e2162) e2164) e2166) e2168) e2172) e2175) e2177)) q161 q162).mono ?_
          rintro _ w2180 ⟨rfl, e2179⟩
          conv => whnf
          refine SemK.neqB (by kernel_rfl) ?_
          conv => whnf
          refine IfB.eqf (by simp; done) ?_
          conv => whnf
          refine (impl_ValidBoxes ((O13.ext (Ext.trans (Ext.trans (Ext.trans (Ext.trans (Ext.trans (Ext.trans (Ext.trans (Ext.trans (Ext.trans (Ext.trans (Ext.trans (Ext.trans (Ext.trans (Ext.trans (Ext.trans (Ext.trans (Ext.trans (Ext.trans (Ext.trans (Ext.trans (Ext.trans (Ext.trans (Ext.trans (Ext.trans (Ext.trans (Ext.trans (Ext.trans (Ext.but_trans e16 c17.but g16) e23) e30) e45) e52) e59) e72) e79) e86) e99) e106) e113) e124) e126) e133) e137) e144) e151) e165) e2160) e2162) e2164) e2166) e2168) e2172) e2175) e2177) e2179)).arr TBox.enc_len) q11).mono ?_
          rintro _ w2182 ⟨rfl, e2181⟩
          conv => whnf
          refine (spec_ValidBoxes ((O13.ext (Ext.trans (Ext.trans (Ext.trans (Ext.trans (Ext.trans (Ext.trans (Ext.trans (Ext.trans (Ext.trans (Ext.trans (Ext.trans (Ext.trans (Ext.trans (Ext.trans (Ext.trans (Ext.trans (Ext.trans (Ext.trans (Ext.trans (Ext.trans (Ext.trans (Ext.trans (Ext.trans (Ext.trans (Ext.trans (Ext.trans (Ext.trans (Ext.trans (Ext.but_trans e16 c17.but g16) e23) e30) e45) e52) e59) e72) e79) e86) e99) e106) e113) e124) e126) e133) e137) e144) e151) e165) e2160) e2162) e2164) e2166) e2168) e2172) e2175) e2177) e2179) e2181)).arr TBox.enc_len) q11).mono ?_
          rintro _ w2184 ⟨rfl, e2183⟩
          conv => whnf
          refine SemK.neqB (by kernel_rfl) ?_
          conv => whnf
          refine IfB.eqf (by simp; done) ?_
          conv => whnf
          with_reducible refine IfB.dec (fun h2185 => ?_) (fun h2185 => ?_)
          · have hlb := lend_back' h2185
            have hag := returnM_ok (s := s136) hle
            conv => whnf
            refine (impl_ReturnBox ((O51.ext (Ext.trans (Ext.trans (Ext.trans (Ext.trans (Ext.trans (Ext.trans (Ext.trans (Ext.trans (Ext.trans (Ext.trans (Ext.trans (Ext.trans (Ext.trans (Ext.trans (Ext.trans (Ext.trans (Ext.trans (Ext.trans (Ext.trans (Ext.trans (Ext.trans (Ext.trans (Ext.trans (Ext.trans e59 e72) e79) e86) e99) e106) e113) e124) e126) e133) e137) e144) e151) e165) e2160) e2162) e2164) e2166) e2168) e2172) e2175) e2177) e2179) e2181) e2183)).arr TBox.enc_len) hle _).mono ?_
            rintro _ w2192 ⟨a'2186, n'2187, c'2188, rfl, N2189, O2190, e2191⟩
            conv => whnf
            refine (impl_LentTo ((O44.ext (Ext.trans (Ext.trans (Ext.trans (Ext.trans (Ext.trans (Ext.trans (Ext.trans (Ext.trans (Ext.trans (Ext.trans (Ext.trans (Ext.trans (Ext.trans (Ext.trans (Ext.trans (Ext.trans (Ext.trans (Ext.trans (Ext.trans (Ext.trans (Ext.trans (Ext.trans (Ext.trans (Ext.trans (Ext.trans (Ext.trans e52 e59) e72) e79) e86) e99) e106) e113) e124) e126) e133) e137) e144) e151) e165) e2160) e2162) e2164) e2166) e2168) e2172) e2175) e2177) e2179) e2181) e2183) e2191)).arr TBox.enc_len) q42 _ hq2).mono ?_
            rintro _ w2199 ⟨a'2193, n'2194, c'2195, rfl, N2196, O2197, e2198⟩
            conv => whnf
            refine (impl_LentTo ((O51.ext (Ext.trans (Ext.trans (Ext.trans (Ext.trans (Ext.trans (Ext.trans (Ext.trans (Ext.trans (Ext.trans (Ext.trans (Ext.trans (Ext.trans (Ext.trans (Ext.trans (Ext.trans (Ext.trans (Ext.trans (Ext.trans (Ext.trans (Ext.trans (Ext.trans (Ext.trans (Ext.trans (Ext.trans (Ext.trans (Ext.trans e59 e72) e79) e86) e99) e106) e113) e124) e126) e133) e137) e144) e151) e165) e2160) e2162) e2164) e2166) e2168) e2172) e2175) e2177) e2179) e2181) e2183) e2191) e2198)).arr TBox.enc_len) hle _ hq2).mono ?_
            rintro _ w2206 ⟨a'2200, n'2201, c'2202, rfl, N2203, O2204, e2205⟩
            conv => whnf
            with_reducible refine IfB.ndec (fun h2207 => ?_) (fun h2207 => ?_)
            · conv => whnf
              refine ⟨?_, (Ext.trans (Ext.trans (Ext.trans (Ext.trans (Ext.trans (Ext.trans (Ext.trans (Ext.trans (Ext.trans (Ext.trans (Ext.trans (Ext.trans (Ext.trans (Ext.trans (Ext.trans (Ext.trans (Ext.trans (Ext.trans (Ext.trans (Ext.trans (Ext.trans (Ext.trans (Ext.trans (Ext.trans (Ext.trans (Ext.trans (Ext.trans (Ext.trans (Ext.trans (Ext.trans (Ext.trans (Ext.trans (Ext.but_trans (Ext.trans e14 e16) c17.but (Nat.le_trans (Below.size e14) g16)) e23) e30) e45) e52) e59) e72) e79) e86) e99) e106) e113) e124) e126) e133) e137) e144) e151) e165) e2160) e2162) e2164) e2166) e2168) e2172) e2175) e2177) e2179) e2181) e2183) e2191) e2198) e2205)⟩
              · exact absurd hlb.2.1 h2207
            · conv => whnf
              refine (spec_SameBoxes ((O2190.ext (Ext.trans e2198 e2205)).arr TBox.enc_len) ((O44.ext (Ext.trans (Ext.trans (Ext.trans (Ext.trans (Ext.trans (Ext.trans (Ext.trans (Ext.trans (Ext.trans (Ext.trans (Ext.trans (Ext.trans (Ext.trans (Ext.trans (Ext.trans (Ext.trans (Ext.trans (Ext.trans (Ext.trans (Ext.trans (Ext.trans (Ext.trans (Ext.trans (Ext.trans (Ext.trans (Ext.trans (Ext.trans (Ext.trans e52 e59) e72) e79) e86) e99) e106) e113) e124) e126) e133) e137) e144) e151) e165) e2160) e2162) e2164) e2166) e2168) e2172) e2175) e2177) e2179) e2181) e2183) e2191) e2198) e2205)).arr TBox.enc_len) hag q42).mono ?_
              rintro _ w2209 ⟨rfl, e2208⟩
              conv => whnf
              with_reducible refine IfB.ndec (fun h2210 => ?_) (fun h2210 => ?_)
              · conv => whnf
                refine ⟨?_, (Ext.trans (Ext.trans (Ext.trans (Ext.trans (Ext.trans (Ext.trans (Ext.trans (Ext.trans (Ext.trans (Ext.trans (Ext.trans (Ext.trans (Ext.trans (Ext.trans (Ext.trans (Ext.trans (Ext.trans (Ext.trans (Ext.trans (Ext.trans (Ext.trans (Ext.trans (Ext.trans (Ext.trans (Ext.trans (Ext.trans (Ext.trans (Ext.trans (Ext.trans (Ext.trans (Ext.trans (Ext.trans (Ext.trans (Ext.but_trans (Ext.trans e14 e16) c17.but (Nat.le_trans (Below.size e14) g16)) e23) e30) e45) e52) e59) e72) e79) e86) e99) e106) e113) e124) e126) e133) e137) e144) e151) e165) e2160) e2162) e2164) e2166) e2168) e2172) e2175) e2177) e2179) e2181) e2183) e2191) e2198) e2205) e2208)⟩
                · exact absurd hlb.1 h2210
              · conv => whnf
                with_reducible refine IfB.ndec (fun h2211 => ?_) (fun h2211 => ?_)
                · conv => whnf
                  refine ⟨?_, (Ext.trans (Ext.trans (Ext.trans (Ext.trans (Ext.trans (Ext.trans (Ext.trans (Ext.trans (Ext.trans (Ext.trans (Ext.trans (Ext.trans (Ext.trans (Ext.trans (Ext.trans (Ext.trans (Ext.trans (Ext.trans (Ext.trans (Ext.trans (Ext.trans (Ext.trans (Ext.trans (Ext.trans (Ext.trans (Ext.trans (Ext.trans (Ext.trans (Ext.trans (Ext.trans (Ext.trans (Ext.trans (Ext.trans (Ext.but_trans (Ext.trans e14 e16) c17.but (Nat.le_trans (Below.size e14) g16)) e23) e30) e45) e52) e59) e72) e79) e86) e99) e106) e113) e124) e126) e133) e137) e144) e151) e165) e2160) e2162) e2164) e2166) e2168) e2172) e2175) e2177) e2179) e2181) e2183) e2191) e2198) e2205) e2208)⟩
                  · exact absurd hlb.2.2.1 h2211
                · conv => whnf
                  with_reducible refine IfB.ndec (fun h2212 => ?_) (fun h2212 => ?_)
                  · conv => whnf
                    refine ⟨?_, (Ext.trans (Ext.trans (Ext.trans (Ext.trans (Ext.trans (Ext.trans (Ext.trans (Ext.trans (Ext.trans (Ext.trans (Ext.trans (Ext.trans (Ext.trans (Ext.trans (Ext.trans (Ext.trans (Ext.trans (Ext.trans (Ext.trans (Ext.trans (Ext.trans (Ext.trans (Ext.trans (Ext.trans (Ext.trans (Ext.trans (Ext.trans (Ext.trans (Ext.trans (Ext.trans (Ext.trans (Ext.trans (Ext.trans (Ext.but_trans (Ext.trans e14 e16) c17.but (Nat.le_trans (Below.size e14) g16)) e23) e30) e45) e52) e59) e72) e79) e86) e99) e106) e113) e124) e126) e133) e137) e144) e151) e165) e2160) e2162) e2164) e2166) e2168) e2172) e2175) e2177) e2179) e2181) e2183) e2191) e2198) e2205) e2208)⟩
                    · exact absurd hlb.2.2.2.1 h2212
                  · conv => whnf
                    refine SemK.wadd ?_
                    conv => whnf
                    with_reducible refine IfB.ndec (fun h2213 => ?_) (fun h2213 => ?_)
                    · conv => whnf
                      refine ⟨?_, (Ext.trans (Ext.trans (Ext.trans (Ext.trans (Ext.trans (Ext.trans (Ext.trans (Ext.trans (Ext.trans (Ext.trans (Ext.trans (Ext.trans (Ext.trans (Ext.trans (Ext.trans (Ext.trans (Ext.trans (Ext.trans (Ext.trans (Ext.trans (Ext.trans (Ext.trans (Ext.trans (Ext.trans (Ext.trans (Ext.trans (Ext.trans (Ext.trans (Ext.trans (Ext.trans (Ext.trans (Ext.trans (Ext.trans (Ext.but_trans (Ext.trans e14 e16) c17.but (Nat.le_trans (Below.size e14) g16)) e23) e30) e45) e52) e59) e72) e79) e86) e99) e106) e113) e124) e126) e133) e137) e144) e151) e165) e2160) e2162) e2164) e2166) e2168) e2172) e2175) e2177) e2179) e2181) e2183) e2191) e2198) e2205) e2208)⟩
                      · have g1 := (O2197.arr eI_len).len
                        have g2 := (O2204.arr eI_len).len
                        have g3 := (O2204.arr eI_len).le
                        have g4 := hlb.2.2.2.2
                        exact absurd (by rw [i64_wrap (by omega) (by omega)]; omega) h2213
                    · conv => whnf
                      with_reducible refine IfB.ndec (fun h2214 => ?_) (fun h2214 => ?_)
                      · conv => whnf
                        exact ⟨rfl, (Ext.trans (Ext.trans (Ext.trans (Ext.trans (Ext.trans (Ext.trans (Ext.trans (Ext.trans (Ext.trans (Ext.trans (Ext.trans (Ext.trans (Ext.trans (Ext.trans (Ext.trans (Ext.trans (Ext.trans (Ext.trans (Ext.trans (Ext.trans (Ext.trans (Ext.trans (Ext.trans (Ext.trans (Ext.trans (Ext.trans (Ext.trans (Ext.trans (Ext.trans (Ext.trans (Ext.trans (Ext.trans (Ext.trans (Ext.but_trans (Ext.trans e14 e16) c17.but (Nat.le_trans (Below.size e14) g16)) e23) e30) e45) e52) e59) e72) e79) e86) e99) e106) e113) e124) e126) e133) e137) e144) e151) e165) e2160) e2162) e2164) e2166) e2168) e2172) e2175) e2177) e2179) e2181) e2183) e2191) e2198) e2205) e2208)⟩
                      · conv => whnf
                        refine SemK.add (((n'4 + 1 : Nat) : Int)) (by omega) (by omega) (by omega) ?_
                        conv => whnf
                        with_reducible refine IfB.dec (fun h2215 => ?_) (fun h2215 => ?_)
                        · conv => whnf
                          refine (impl_ValidBoxes ((O22.ext (Ext.trans (Ext.trans (Ext.trans (Ext.trans (Ext.trans (Ext.trans (Ext.trans (Ext.trans (Ext.trans (Ext.trans (Ext.trans (Ext.trans (Ext.trans (Ext.trans (Ext.trans (Ext.trans (Ext.trans (Ext.trans (Ext.trans (Ext.trans (Ext.trans (Ext.trans (Ext.trans (Ext.trans (Ext.trans (Ext.trans (Ext.trans (Ext.trans (Ext.trans (Ext.trans (Ext.trans e30 e45) e52) e59) e72) e79) e86) e99) e106) e113) e124) e126) e133) e137) e144) e151) e165) e2160) e2162) e2164) e2166) e2168) e2172) e2175) e2177) e2179) e2181) e2183) e2191) e2198) e2205) e2208)).arr TBox.enc_len) hst).mono ?_
                          rintro _ w2217 ⟨rfl, e2216⟩
                          conv => whnf
                          refine ⟨?_, (Ext.trans (Ext.trans (Ext.trans (Ext.trans (Ext.trans (Ext.trans (Ext.trans (Ext.trans (Ext.trans (Ext.trans (Ext.trans (Ext.trans (Ext.trans (Ext.trans (Ext.trans (Ext.trans (Ext.trans (Ext.trans (Ext.trans (Ext.trans (Ext.trans (Ext.trans (Ext.trans (Ext.trans (Ext.trans (Ext.trans (Ext.trans (Ext.trans (Ext.trans (Ext.trans (Ext.trans (Ext.trans (Ext.trans (Ext.trans (Ext.but_trans (Ext.trans e14 e16) c17.but (Nat.le_trans (Below.size e14) g16)) e23) e30) e45) e52) e59) e72) e79) e86) e99) e106) e113) e124) e126) e133) e137) e144) e151) e165) e2160) e2162) e2164) e2166) e2168) e2172) e2175) e2177) e2179) e2181) e2183) e2191) e2198) e2205) e2208) e2216)⟩
                          · rw [(store_valid' h2214).2]
                        · conv => whnf
                          refine ⟨?_, (Ext.trans (Ext.trans (Ext.trans (Ext.trans (Ext.trans (Ext.trans (Ext.trans (Ext.trans (Ext.trans (Ext.trans (Ext.trans (Ext.trans (Ext.trans (Ext.trans (Ext.trans (Ext.trans (Ext.trans (Ext.trans (Ext.trans (Ext.trans (Ext.trans (Ext.trans (Ext.trans (Ext.trans (Ext.trans (Ext.trans (Ext.trans (Ext.trans (Ext.trans (Ext.trans (Ext.trans (Ext.trans (Ext.trans (Ext.but_trans (Ext.trans e14 e16) c17.but (Nat.le_trans (Below.size e14) g16)) e23) e30) e45) e52) e59) e72) e79) e86) e99) e106) e113) e124) e126) e133) e137) e144) e151) e165) e2160) e2162) e2164) e2166) e2168) e2172) e2175) e2177) e2179) e2181) e2183) e2191) e2198) e2205) e2208)⟩
                          · have g1 := (O22.arr TBox.enc_len).len
                            have g2 := (O13.arr TBox.enc_len).len
                            have g3 := (store_valid' h2214).1
                            exact absurd (by omega) h2215
          · conv => whnf
            with_reducible refine IfB.ndec (fun h2218 => ?_) (fun h2218 => ?_)
            · conv => whnf
              exact ⟨rfl, (Ext.trans (Ext.trans (Ext.trans (Ext.trans (Ext.trans (Ext.trans (Ext.trans (Ext.trans (Ext.trans (Ext.trans (Ext.trans (Ext.trans (Ext.trans (Ext.trans (Ext.trans (Ext.trans (Ext.trans (Ext.trans (Ext.trans (Ext.trans (Ext.trans (Ext.trans (Ext.trans (Ext.trans (Ext.trans (Ext.trans (Ext.trans (Ext.trans (Ext.trans (Ext.but_trans (Ext.trans e14 e16) c17.but (Nat.le_trans (Below.size e14) g16)) e23) e30) e45) e52) e59) e72) e79) e86) e99) e106) e113) e124) e126) e133) e137) e144) e151) e165) e2160) e2162) e2164) e2166) e2168) e2172) e2175) e2177) e2179) e2181) e2183)⟩
            · conv => whnf
              refine SemK.add (((n'4 + 1 : Nat) : Int)) (by omega) (by omega) (by omega) ?_
              conv => whnf
              with_reducible refine IfB.dec (fun h2219 => ?_) (fun h2219 => ?_)
              · conv => whnf
                refine (impl_ValidBoxes ((O22.ext (Ext.trans (Ext.trans (Ext.trans (Ext.trans (Ext.trans (Ext.trans (Ext.trans (Ext.trans (Ext.trans (Ext.trans (Ext.trans (Ext.trans (Ext.trans (Ext.trans (Ext.trans (Ext.trans (Ext.trans (Ext.trans (Ext.trans (Ext.trans (Ext.trans (Ext.trans (Ext.trans (Ext.trans (Ext.trans (Ext.trans (Ext.trans e30 e45) e52) e59) e72) e79) e86) e99) e106) e113) e124) e126) e133) e137) e144) e151) e165) e2160) e2162) e2164) e2166) e2168) e2172) e2175) e2177) e2179) e2181) e2183)).arr TBox.enc_len) hst).mono ?_
                rintro _ w2221 ⟨rfl, e2220⟩
                conv => whnf
                refine ⟨?_, (Ext.trans (Ext.trans (Ext.trans (Ext.trans (Ext.trans (Ext.trans (Ext.trans (Ext.trans (Ext.trans (Ext.trans (Ext.trans (Ext.trans (Ext.trans (Ext.trans (Ext.trans (Ext.trans (Ext.trans (Ext.trans (Ext.trans (Ext.trans (Ext.trans (Ext.trans (Ext.trans (Ext.trans (Ext.trans (Ext.trans (Ext.trans (Ext.trans (Ext.trans (Ext.trans (Ext.but_trans (Ext.trans e14 e16) c17.but (Nat.le_trans (Below.size e14) g16)) e23) e30) e45) e52) e59) e72) e79) e86) e99) e106) e113) e124) e126) e133) e137) e144) e151) e165) e2160) e2162) e2164) e2166) e2168) e2172) e2175) e2177) e2179) e2181) e2183) e2220)⟩
                · rw [(store_valid' h2218).2]
              · conv => whnf
                refine ⟨?_, (Ext.trans (Ext.trans (Ext.trans (Ext.trans (Ext.trans (Ext.trans (Ext.trans (Ext.trans (Ext.trans (Ext.trans (Ext.trans (Ext.trans (Ext.trans (Ext.trans (Ext.trans (Ext.trans (Ext.trans (Ext.trans (Ext.trans (Ext.trans (Ext.trans (Ext.trans (Ext.trans (Ext.trans (Ext.trans (Ext.trans (Ext.trans (Ext.trans (Ext.trans (Ext.but_trans (Ext.trans e14 e16) c17.but (Nat.le_trans (Below.size e14) g16)) e23) e30) e45) e52) e59) e72) e79) e86) e99) e106) e113) e124) e126) e133) e137) e144) e151) e165) e2160) e2162) e2164) e2166) e2168) e2172) e2175) e2177) e2179) e2181) e2183)⟩
                · have g1 := (O22.arr TBox.enc_len).len
                  have g2 := (O13.arr TBox.enc_len).len
                  have g3 := (store_valid' h2218).1
                  exact absurd (by omega) h2219
    · conv => whnf
      refine SemK.neqB (by kernel_rfl) ?_
      conv => whnf
      refine IfB.eqf (by simp; done) ?_
      conv => whnf
      refine (spec_SameBoxes ((O143.ext (Ext.trans (Ext.trans (Ext.trans (Ext.trans (Ext.trans (Ext.trans e151 e165) e2160) e2162) e2164) e2166) e2168)).arr TBox.enc_len) ((O150.ext (Ext.trans (Ext.trans (Ext.trans (Ext.trans (Ext.trans e165 e2160) e2162) e2164) e2166) e2168)).arr TBox.enc_len) hr2 hr2).mono ?_
      rintro _ w2223 ⟨rfl, e2222⟩
      conv => whnf
      refine IfB.eqf (by simp; done) ?_
      conv => whnf
      refine (impl_SameBoxes (A163.ext (Ext.trans (Ext.trans (Ext.trans (Ext.trans (Ext.trans e2160 e2162) e2164) e2166) e2168) e2222)) (A164.ext (Ext.trans (Ext.trans (Ext.trans (Ext.trans (Ext.trans e2160 e2162) e2164) e2166) e2168) e2222)) q161 q162).mono ?_
      rintro _ w2225 ⟨rfl, e2224⟩
      conv => whnf
      refine (spec_SameBoxes (A163.ext (Ext.trans (Ext.trans (Ext.trans (Ext.trans (Ext.trans (Ext.trans e2160 e2162) e2164) e2166) e2168) e2222) e2224)) (A164.ext (Ext.trans (Ext.trans (Ext.trans (Ext.trans (Ext.trans (Ext.trans e2160 e2162) e2164) e2166) e2168) e2222) e2224)) q161 q162).mono ?_
      rintro _ w2227 ⟨rfl, e2226⟩
      conv => whnf
      refine SemK.neqB (by kernel_rfl) ?_
      conv => whnf
      refine IfB.eqf (by simp; done) ?_
      conv => whnf
      refine (impl_ValidBoxes ((O13.ext (Ext.trans (Ext.trans (Ext.trans (Ext.trans (Ext.trans (Ext.trans (Ext.trans (Ext.trans (Ext.trans (Ext.trans (Ext.trans (Ext.trans (Ext.trans (Ext.trans (Ext.trans (Ext.trans (Ext.trans (Ext.trans (Ext.trans (Ext.trans (Ext.trans (Ext.trans (Ext.trans (Ext.trans (Ext.trans (Ext.trans (Ext.but_trans e16 c17.but g16) e23) e30) e45) e52) e59) e72) e79) e86) e99) e106) e113) e124) e126) e133) e137) e144) e151) e165) e2160) e2162) e2164) e2166) e2168) e2222) e2224) e2226)).arr TBox.enc_len) q11).mono ?_
      rintro _ w2229 ⟨rfl, e2228⟩
      conv => whnf
      refine (spec_ValidBoxes ((O13.ext (Ext.trans (Ext.trans (Ext.trans (Ext.trans (Ext.trans (Ext.trans (Ext.trans (Ext.trans (Ext.trans (Ext.trans (Ext.trans (Ext.trans (Ext.trans (Ext.trans (Ext.trans (Ext.trans (Ext.trans (Ext.trans (Ext.trans (Ext.trans (Ext.trans (Ext.trans (Ext.trans (Ext.trans (Ext.trans (Ext.trans (Ext.trans (Ext.but_trans e16 c17.but g16) e23) e30) e45) e52) e59) e72) e79) e86) e99) e106) e113) e124) e126) e133) e137) e144) e151) e165) e2160) e2162) e2164) e2166) e2168) e2222) e2224) e2226) e2228)).arr TBox.enc_len) q11).mono ?_
      rintro _ w2231 ⟨rfl, e2230⟩
      conv => whnf
      refine SemK.neqB (by kernel_rfl) ?_
      conv => whnf
      refine IfB.eqf (by simp; done) ?_
      conv => whnf
      with_reducible refine IfB.dec (fun h2232 => ?_) (fun h2232 => ?_)
      · have hlb := lend_back' h2232
        have hag := returnM_ok (s := s136) hle
        conv => whnf
        refine (impl_ReturnBox ((O51.ext (Ext.trans (Ext.trans (Ext.trans (Ext.trans (Ext.trans (Ext.trans (Ext.trans (Ext.trans (Ext.trans (Ext.trans (Ext.trans (Ext.trans (Ext.trans (Ext.trans (Ext.trans (Ext.trans (Ext.trans (Ext.trans (Ext.trans (Ext.trans (Ext.trans (Ext.trans (Ext.trans e59 e72) e79) e86) e99) e106) e113) e124) e126) e133) e137) e144) e151) e165) e2160) e2162) e2164) e2166) e2168) e2222) e2224) e2226) e2228) e2230)).arr TBox.enc_len) hle _).mono ?_
        rintro _ w2239 ⟨a'2233, n'2234, c'2235, rfl, N2236, O2237, e2238⟩
        conv => whnf
        refine (impl_LentTo ((O44.ext (Ext.trans (Ext.trans (Ext.trans (Ext.trans (Ext.trans (Ext.trans (Ext.trans (Ext.trans (Ext.trans (Ext.trans (Ext.trans (Ext.trans (Ext.trans (Ext.trans (Ext.trans (Ext.trans (Ext.trans (Ext.trans (Ext.trans (Ext.trans (Ext.trans (Ext.trans (Ext.trans (Ext.trans (Ext.trans e52 e59) e72) e79) e86) e99) e106) e113) e124) e126) e133) e137) e144) e151) e165) e2160) e2162) e2164) e2166) e2168) e2222) e2224) e2226) e2228) e2230) e2238)).arr TBox.enc_len) q42 _ hq2).mono ?_
        rintro _ w2246 ⟨a'2240, n'2241, c'2242, rfl, N2243, O2244, e2245⟩
        conv => whnf
        refine (impl_LentTo ((O51.ext (Ext.trans (Ext.trans (Ext.trans (Ext.trans (Ext.trans (Ext.trans (Ext.trans (Ext.trans (Ext.trans (Ext.trans (Ext.trans (Ext.trans (Ext.trans (Ext.trans (Ext.trans (Ext.trans (Ext.trans (Ext.trans (Ext.trans (Ext.trans (Ext.trans (Ext.trans (Ext.trans (Ext.trans (Ext.trans e59 e72) e79) e86) e99) e106) e113) e124) e126) e133) e137) e144) e151) e165) e2160) e2162) e2164) e2166) e2168) e2222) e2224) e2226) e2228) e2230) e2238) e2245)).arr TBox.enc_len) hle _ hq2).mono ?_
        rintro _ w2253 ⟨a'2247, n'2248, c'2249, rfl, N2250, O2251, e2252⟩
        conv => whnf
        with_reducible refine IfB.ndec (fun h2254 => ?_) (fun h2254 => ?_)
        · conv => whnf
          refine ⟨?_, (Ext.trans (Ext.trans (Ext.trans (Ext.trans (Ext.trans (Ext.trans (Ext.trans (Ext.trans (Ext.trans (Ext.trans (Ext.trans (Ext.trans (Ext.trans (Ext.trans (Ext.trans (Ext.trans (Ext.trans (Ext.trans (Ext.trans (Ext.trans (Ext.trans (Ext.trans (Ext.trans (Ext.trans (Ext.trans (Ext.trans (Ext.trans (Ext.trans (Ext.trans (Ext.trans (Ext.trans (Ext.but_trans (Ext.trans e14 e16) c17.but (Nat.le_trans (Below.size e14) g16)) e23) e30) e45) e52) e59) e72) e79) e86) e99) e106) e113) e124) e126) e133) e137) e144) e151) e165) e2160) e2162) e2164) e2166) e2168) e2222) e2224) e2226) e2228) e2230) e2238) e2245) e2252)⟩
          · exact absurd hlb.2.1 h2254
        · conv => whnf
          refine (spec_SameBoxes ((O2237.ext (Ext.trans e2245 e2252)).arr TBox.enc_len) ((O44.ext (Ext.trans (Ext.trans (Ext.trans (Ext.trans (Ext.trans (Ext.trans (Ext.trans (Ext.trans (Ext.trans (Ext.trans (Ext.trans (Ext.trans (Ext.trans (Ext.trans (Ext.trans (Ext.trans (Ext.trans (Ext.trans (Ext.trans (Ext.trans (Ext.trans (Ext.trans (Ext.trans (Ext.trans (Ext.trans (Ext.trans (Ext.trans e52 e59) e72) e79) e86) e99) e106) e113) e124) e126) e133) e137) e144) e151) e165) e2160) e2162) e2164) e2166) e2168) e2222) e2224) e2226) e2228) e2230) e2238) e2245) e2252)).arr TBox.enc_len) hag q42).mono ?_
          rintro _ w2256 ⟨rfl, e2255⟩
          conv => whnf
          with_reducible refine IfB.ndec (fun h2257 => ?_) (fun h2257 => ?_)
          · conv => whnf
            refine ⟨?_, (Ext.trans (Ext.trans (Ext.trans (Ext.trans (Ext.trans (Ext.trans (Ext.trans (Ext.trans (Ext.trans (Ext.trans (Ext.trans (Ext.trans (Ext.trans (Ext.trans (Ext.trans (Ext.trans (Ext.trans (Ext.trans (Ext.trans (Ext.trans (Ext.trans (Ext.trans (Ext.trans (Ext.trans (Ext.trans (Ext.trans (Ext.trans (Ext.trans (Ext.trans (Ext.trans (Ext.trans (Ext.trans (Ext.but_trans (Ext.trans e14 e16) c17.but (Nat.le_trans (Below.size e14) g16)) e23) e30) e45) e52) e59) e72) e79) e86) e99) e106) e113) e124) e126) e133) e137) e144) e151) e165) e2160) e2162) e2164) e2166) e2168) e2222) e2224) e2226) e2228) e2230) e2238) e2245) e2252) e2255)⟩
            · exact absurd hlb.1 h2257
          · conv => whnf
            with_reducible refine IfB.ndec (fun h2258 => ?_) (fun h2258 => ?_)
            · conv => whnf
              refine ⟨?_, (Ext.trans (Ext.trans (Ext.trans (Ext.trans (Ext.trans (Ext.trans (Ext.trans (Ext.trans (Ext.trans (Ext.trans (Ext.trans (Ext.trans (Ext.trans (Ext.trans (Ext.trans (Ext.trans (Ext.trans (Ext.trans (Ext.trans (Ext.trans (Ext.trans (Ext.trans (Ext.trans (Ext.trans (Ext.trans (Ext.trans (Ext.trans (Ext.trans (Ext.trans (Ext.trans (Ext.trans (Ext.trans (Ext.but_trans (Ext.trans e14 e16) c17.but (Nat.le_trans (Below.size e14) g16)) e23) e30) e45) e52) e59) e72) e79) e86) e99) e106) e113) e124) e126) e133) e137) e144) e151) e165) e2160) e2162) e2164) e2166) e2168) e2222) e2224) e2226) e2228) e2230) e2238) e2245) e2252) e2255)⟩
              · exact absurd hlb.2.2.1 h2258
            · conv => whnf
              with_reducible refine IfB.ndec (fun h2259 => ?_) (fun h2259 => ?_)
              · conv => whnf
                refine ⟨?_, (Ext.trans (Ext.trans (Ext.trans (Ext.trans (Ext.trans (Ext.trans (Ext.trans (Ext.trans (Ext.trans (Ext.trans (Ext.trans (Ext.trans (Ext.trans (Ext.trans (Ext.trans (Ext.trans (Ext.trans (Ext.trans (Ext.trans (Ext.trans (Ext.trans (Ext.trans (Ext.trans (Ext.trans (Ext.trans (Ext.trans (Ext.trans (Ext.trans (Ext.trans (Ext.trans (Ext.trans (Ext.trans (Ext.but_trans (Ext.trans e14 e16) c17.but (Nat.le_trans (Below.size e14) g16)) e23) e30) e45) e52) e59) e72) e79) e86) e99) e106) e113) e124) e126) e133) e137) e144) e151) e165) e2160) e2162) e2164) e2166) e2168) e2222) e2224) e2226) e2228) e2230) e2238) e2245) e2252) e2255)⟩
                · exact absurd hlb.2.2.2.1 h2259
              · conv => whnf
                refine SemK.wadd ?_
                conv => whnf
                with_reducible refine IfB.ndec (fun h2260 => ?_) (fun h2260 => ?_)
                · conv => whnf
                  refine ⟨?_, (Ext.trans (Ext.trans (Ext.trans (Ext.trans (Ext.trans (Ext.trans (Ext.trans (Ext.trans (Ext.trans (Ext.trans (Ext.trans (Ext.trans (Ext.trans (Ext.trans (Ext.trans (Ext.trans (Ext.trans (Ext.trans (Ext.trans (Ext.trans (Ext.trans (Ext.trans (Ext.trans (Ext.trans (Ext.trans (Ext.trans (Ext.trans (Ext.trans (Ext.trans (Ext.trans (Ext.trans (Ext.trans (Ext.but_trans (Ext.trans e14 e16) c17.but (Nat.le_trans (Below.size e14) g16)) e23) e30) e45) e52) e59) e72) e79) e86) e99) e106) e113) e124) e126) e133) e137) e144) e151) e165) e2160) e2162) e2164) e2166) e2168) e2222) e2224) e2226) e2228) e2230) e2238) e2245) e2252) e2255)⟩
                  · have g1 := (O2244.arr eI_len).len
                    have g2 := (O2251.arr eI_len).len
                    have g3 := (O2251.arr eI_len).le
                    have g4 := hlb.2.2.2.2
                    exact absurd (by rw [i64_wrap (by omega) (by omega)]; omega) h2260
                · conv => whnf
                  with_reducible refine IfB.ndec (fun h2261 => ?_) (fun h2261 => ?_)
                  · conv => whnf
                    exact ⟨rfl, (Ext.trans (Ext.trans (Ext.trans (Ext.trans (Ext.trans (Ext.trans (Ext.trans (Ext.trans (Ext.trans (Ext.trans (Ext.trans (Ext.trans (Ext.trans (Ext.trans (Ext.trans (Ext.trans (Ext.trans (Ext.trans (Ext.trans (Ext.trans (Ext.trans (Ext.trans (Ext.trans (Ext.trans (Ext.trans (Ext.trans (Ext.trans (Ext.trans (Ext.trans (Ext.trans (Ext.trans (Ext.trans (Ext.but_trans (Ext.trans e14 e16) c17.but (Nat.le_trans (Below.size e14) g16)) e23) e30) e45) e52) e59) e72) e79) e86) e99) e106) e113) e124) e126) e133) e137) e144) e151) e165) e2160) e2162) e2164) e2166) e2168) e2222) e2224) e2226) e2228) e2230) e2238) e2245) e2252) e2255)⟩
                  · conv => whnf
                    refine SemK.add (((n'4 + 1 : Nat) : Int)) (by omega) (by omega) (by omega) ?_
                    conv => whnf
                    with_reducible refine IfB.dec (fun h2262 => ?_) (fun h2262 => ?_)
                    · conv => whnf
                      refine (impl_ValidBoxes ((O22.ext (Ext.trans (Ext.trans (Ext.trans (Ext.trans (Ext.trans (Ext.trans (Ext.trans (Ext.trans (Ext.trans (Ext.trans (Ext.trans (Ext.trans (Ext.trans (Ext.trans (Ext.trans (Ext.trans (Ext.trans (Ext.trans (Ext.trans (Ext.trans (Ext.trans (Ext.trans (Ext.trans (Ext.trans (Ext.trans (Ext.trans (Ext.trans (Ext.trans (Ext.trans (Ext.trans e30 e45) e52) e59) e72) e79) e86) e99) e106) e113) e124) e126) e133) e137) e144) e151) e165) e2160) e2162) e2164) e2166) e2168) e2222) e2224) e2226) e2228) e2230) e2238) e2245) e2252) e2255)).arr TBox.enc_len) hst).mono ?_
                      rintro _ w2264 ⟨rfl, e2263⟩
                      conv => whnf
                      refine ⟨?_, (Ext.trans (Ext.trans (Ext.trans (Ext.trans (Ext.trans (Ext.trans (Ext.trans (Ext.trans (Ext.trans (Ext.trans (Ext.trans (Ext.trans (Ext.trans (Ext.trans (Ext.trans (Ext.trans (Ext.trans (Ext.trans (Ext.trans (Ext.trans (Ext.trans (Ext.trans (Ext.trans (Ext.trans (Ext.trans (Ext.trans (Ext.trans (Ext.trans (Ext.trans (Ext.trans (Ext.trans (Ext.trans (Ext.trans (Ext.but_trans (Ext.trans e14 e16) c17.but (Nat.le_trans (Below.size e14) g16)) e23) e30) e45) e52) e59) e72) e79) e86) e99) e106) e113) e124) e126) e133) e137) e144) e151) e165) e2160) e2162) e2164) e2166) e2168) e2222) e2224) e2226) e2228) e2230) e2238) e2245) e2252) e2255) e2263)⟩
                      · rw [(store_valid' h2261).2]
                    · conv => whnf
                      refine ⟨?_, (Ext.trans (Ext.trans (Ext.trans (Ext.trans (Ext.trans (Ext.trans (Ext.trans (Ext.trans (Ext.trans (Ext.trans (Ext.trans (Ext.trans (Ext.trans (Ext.trans (Ext.trans (Ext.trans (Ext.trans (Ext.trans (Ext.trans (Ext.trans (Ext.trans (Ext.trans (Ext.trans (Ext.trans (Ext.trans (Ext.trans (Ext.trans (Ext.trans (Ext.trans (Ext.trans (Ext.trans (Ext.trans (Ext.but_trans (Ext.trans e14 e16) c17.but (Nat.le_trans (Below.size e14) g16)) e23) e30) e45) e52) e59) e72) e79) e86) e99) e106) e113) e124) e126) e133) e137) e144) e151) e165) e2160) e2162) e2164) e2166) e2168) e2222) e2224) e2226) e2228) e2230) e2238) e2245) e2252) e2255)⟩
                      · have g1 := (O22.arr TBox.enc_len).len
                        have g2 := (O13.arr TBox.enc_len).len
                        have g3 := (store_valid' h2261).1
                        exact absurd (by omega) h2262
      · conv => whnf
        with_reducible refine IfB.ndec (fun h2265 => ?_) (fun h2265 => ?_)
        · conv => whnf
          exact ⟨rfl, (Ext.trans (Ext.trans (Ext.trans (Ext.trans (Ext.trans (Ext.trans (Ext.trans (Ext.trans (Ext.trans (Ext.trans (Ext.trans (Ext.trans (Ext.trans (Ext.trans (Ext.trans (Ext.trans (Ext.trans (Ext.trans (Ext.trans (Ext.trans (Ext.trans (Ext.trans (Ext.trans (Ext.trans (Ext.trans (Ext.trans (Ext.trans (Ext.trans (Ext.but_trans (Ext.trans e14 e16) c17.but (Nat.le_trans (Below.size e14) g16)) e23) e30) e45) e52) e59) e72) e79) e86) e99) e106) e113) e124) e126) e133) e137) e144) e151) e165) e2160) e2162) e2164) e2166) e2168) e2222) e2224) e2226) e2228) e2230)⟩
        · conv => whnf
          refine SemK.add (((n'4 + 1 : Nat) : Int)) (by omega) (by omega) (by omega) ?_
          conv => whnf
          with_reducible refine IfB.dec (fun h2266 => ?_) (fun h2266 => ?_)
          · conv => whnf
            refine (impl_ValidBoxes ((O22.ext (Ext.trans (Ext.trans (Ext.trans (Ext.trans (Ext.trans (Ext.trans (Ext.trans (Ext.trans (Ext.trans (Ext.trans (Ext.trans (Ext.trans (Ext.trans (Ext.trans (Ext.trans (Ext.trans (Ext.trans (Ext.trans (Ext.trans (Ext.trans (Ext.trans (Ext.trans (Ext.trans (Ext.trans (Ext.trans (Ext.trans e30 e45) e52) e59) e72) e79) e86) e99) e106) e113) e124) e126) e133) e137) e144) e151) e165) e2160) e2162) e2164) e2166) e2168) e2222) e2224) e2226) e2228) e2230)).arr TBox.enc_len) hst).mono ?_
            rintro _ w2268 ⟨rfl, e2267⟩
            conv => whnf
            refine ⟨?_, (Ext.trans (Ext.trans (Ext.trans (Ext.trans (Ext.trans (Ext.trans (Ext.trans (Ext.trans (Ext.trans (Ext.trans (Ext.trans (Ext.trans (Ext.trans (Ext.trans (Ext.trans (Ext.trans (Ext.trans (Ext.trans (Ext.trans (Ext.trans (Ext.trans (Ext.trans (Ext.trans (Ext.trans (Ext.trans (Ext.trans (Ext.trans (Ext.trans (Ext.trans (Ext.but_trans (Ext.trans e14 e16) c17.but (Nat.le_trans (Below.size e14) g16)) e23) e30) e45) e52) e59) e72) e79) e86) e99) e106) e113) e124) e126) e133) e137) e144) e151) e165) e2160) e2162) e2164) e2166) e2168) e2222) e2224) e2226) e2228) e2230) e2267)⟩
            · rw [(store_valid' h2265).2]
          · conv => whnf
            refine ⟨?_, (Ext.trans (Ext.trans (Ext.trans (Ext.trans (Ext.trans (Ext.trans (Ext.trans (Ext.trans (Ext.trans (Ext.trans (Ext.trans (Ext.trans (Ext.trans (Ext.trans (Ext.trans (Ext.trans (Ext.trans (Ext.trans (Ext.trans (Ext.trans (Ext.trans (Ext.trans (Ext.trans (Ext.trans (Ext.trans (Ext.trans (Ext.trans (Ext.trans (Ext.but_trans (Ext.trans e14 e16) c17.but (Nat.le_trans (Below.size e14) g16)) e23) e30) e45) e52) e59) e72) e79) e86) e99) e106) e113) e124) e126) e133) e137) e144) e151) e165) e2160) e2162) e2164) e2166) e2168) e2222) e2224) e2226) e2228) e2230)⟩
            · have g1 := (O22.arr TBox.enc_len).len
              have g2 := (O13.arr TBox.enc_len).len
              have g3 := (store_valid' h2265).1
              exact absurd (by omega) h2266
set_option maxRecDepth 100000 in
theorem open_Archives {H : Type} {enc : TypeId × Value → H} {base : Nat} (W : World) (args : List Value) (ds : List (DataW H)) (p : List MemPlace) (hA : DataW.TrodAll enc Tryz.prog W 0 (fun _ => true) true (Tryz.f7).params.toList args ds p)
    (hv : ∀ (j : Nat) t v, (Tryz.f7).params[j]? = some t → args[j]? = some v → Value.okWide Tryz.prog W .any base t v) (hL : laidMet Tryz.prog Rows.fnArchivesRow.laid W) (_hsh : W.ShapedOpen Tryz.prog) : Does Tryz.prog 7 args W (fun v w' => v = .bool true ∧ Ext W w') := by
  have e : (Tryz.f7).params.toList = [22] := rfl
  rw [e] at hA
  obtain ⟨v0, vs0, d0, ds0, p0, q0, rfl, rfl, rfl, g0, r0⟩ := trodAll_cons hA
  obtain ⟨rfl, rfl, rfl⟩ := trodAll_nil r0
  obtain ⟨a0, n0, c0, x0, rfl, h0, ok0⟩ := open_arr (encα := eB) (ok := fun _ => True) (sz := 1) Tryz.underlying22 (by kernel_rfl) (by omega) (fun n cs x h => open_byte Tryz.underlying5 h) eB_len (hv 0 22 v0 (by rw [← Array.getElem?_toList, e]; rfl) rfl) g0
  exact law_Archives h0 (Pow.of_laid hL.tail.tail) (Errs.of_laid hL.tail.tail.tail.tail.tail hL.tail.tail.tail.tail) (MaxL.of_shaped _hsh)
set_option maxRecDepth 100000 in
theorem FnArchives_lifted (os : Os) (started : os.Started) (H : Type) (enc : TypeId × Value → H) (F : Stop.Interp) :
    ReturnsInHanded {} Tryz.checked os 7 .any ((OpenSpec.ofChange Rows.fnArchivesSpec).preRow enc Tryz.prog Tryz.f7 Rows.fnArchivesRow.domain false Rows.fnArchivesRow.laid) (((OpenSpec.ofChange Rows.fnArchivesSpec).at F).post enc Tryz.prog Tryz.f7 false true false false) := by
  refine returnsInHanded_of_row (C := Tryz.checked) (s := OpenSpec.ofChange Rows.fnArchivesSpec) law_own started (by kernel_rfl) Tryz.func7
    (witness_row_sh (enc := enc) (C := Tryz.checked) (World.laidAll Tryz.prog os Rows.fnArchivesRow.laid) #[.slice none 0 0] 8 (World.laidAll_os _ _ _) (World.shaped_of_ZipB (by kernel_rfl) (by kernel_rfl)) (by kernel_rfl) (by kernel_rfl) (by kernel_rfl)
      (by rw [MakeChecks.laidMetH_plain _ _ _ (by kernel_rfl)]; exact laidMet_laidAll _ (by kernel_rfl) (by kernel_rfl))) ?_
  intro W base args ds gs before hval hW _ _ _ hL hsh _
  rw [MakeChecks.laidMetH_plain _ _ _ (by kernel_rfl)] at hL
  exact law_contract_at (P := Tryz.prog) (fn := Tryz.f7) (s := Rows.fnArchivesSpec) rfl rfl Tryz.underlying4 law_laid (by kernel_rfl)
    (fun ds h => match ds, h with | [d0], _ => ⟨rfl, rfl, rfl⟩) W args ds gs before (fun p hA hv => open_Archives W args.toList ds p hA hv hL hsh) hval hW
theorem FnArchives_closed : joinedFacts Tryz.prog 7 Tryz.f7 (OpenSpec.ofChange Rows.fnArchivesSpec).bare Rows.fnArchivesRow = true := by
  unfold joinedFacts
  exact andI (andI (andI (andI (andI (andI (andI (andI (by kernel_rfl) seat_heard) seat_enter) seat_lifts) seat_make) (by kernel_rfl)) (by kernel_rfl)) (by kernel_rfl)) (by kernel_rfl)
theorem FnArchives_named : Tryz.prog.funcNamed Rows.fnArchivesRow.func = some 7 := by kernel_rfl
theorem FnArchives_row : Rows.FnArchivesSaid :=
  OpenClaim.holds_of_cond 7 Tryz.f7 rfl rfl rfl rfl rfl rfl rfl ⟨rfl, rfl, rfl, rfl, rfl⟩ rfl rfl rfl rfl rfl FnArchives_named Tryz.func7 FnArchives_closed
    (of_decide_eq_true (by kernel_rfl)) (by unfold Func.isWrapper; first | (rw [if_pos (by decide +kernel)]; kernel_rfl) | (rw [if_neg (by decide +kernel)]; exact ⟨rfl, rfl⟩))
    (fun os started H enc _ F => by rw [OpenClaim.pre_eq_preRow]; exact FnArchives_lifted os started H enc F)
theorem FnArchives_goes : false = Rows.fnArchivesRow.goesBy Tryz.pinned.checked.prog := by kernel_rfl
theorem FnArchives_wf : Rows.fnArchivesRow.wfByText (OpenSpec.ofChange Rows.fnArchivesSpec) = true := by kernel_rfl
theorem FnArchives_plain (f : FuncId) (fn : Func) (hf : Tryz.pinned.checked.prog.funcNamed Rows.fnArchivesRow.func = some f) (hfn : Tryz.pinned.checked.prog.funcs[f]? = some fn) :
    true = Tryz.pinned.checked.prog.looks [] ∧ ∀ (j : Nat) t, fn.params[j]? = some t → Tryz.pinned.checked.prog.wantsStandIn t = false := by
  obtain rfl : f = 7 := Option.some.inj (FnArchives_named.symm.trans hf) |>.symm
  obtain rfl : fn = Tryz.f7 := (Option.some.inj (Tryz.func7.symm.trans hfn)).symm
  refine ⟨seat_looks, fun j t ht => ?_⟩
  have hall : (Tryz.f7.params.toList.all fun u => !Tryz.prog.wantsStandIn u) = true := by kernel_rfl
  exact (show Tryz.prog.wantsStandIn t = false by simpa using List.all_eq_true.1 hall t (by simpa using Array.mem_of_getElem? ht))
theorem FnArchives_holds : Rows.FnArchivesCardSaid :=
  Claim7.holds_tied_plain_at .later [] _ _ _ _ FnArchives_row (fun _ h => by cases h) FnArchives_wf (fun _ h => by cases h) fnArchives_row_tie rfl ⟨rfl, rfl⟩ seat_main rfl FnArchives_plain FnArchives_goes

end Go.Proofs.YtkjmbjedbmblmaaGreatDoor
