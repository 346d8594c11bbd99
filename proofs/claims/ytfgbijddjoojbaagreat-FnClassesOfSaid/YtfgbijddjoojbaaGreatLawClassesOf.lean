/- The statement on the law ClassesOf is proved, as it is given: for every input the law returns true and each argument reads as before. No conditions. -/
import Derived.Test.YtfgbijddjoojbaaGreatDeckC
import Derived.Test.YtfgbijddjoojbaaGreatClassW
import Derived.Test.YtfgbijddjoojbaaGreatMed
import Derived.Test.YtfgbijddjoojbaaGreatMedS
import Derived.Test.YtfgbijddjoojbaaGreatKeyT
import Derived.Test.YtfgbijddjoojbaaGreatShares
import Derived.Test.YtfgbijddjoojbaaGreatVcApp
import Derived.Test.YtfgbijddjoojbaaGreatBasics
import Derived.Test.YtfgbijddjoojbaaGreatLiftBase
namespace Go.Proofs.YtfgbijddjoojbaaGreat
open Go Go.RowKit Go.Vc Go.M Go.ChangeShapes Go.WideShapes Go.ChangeAt
open Go.ChangeMaps (open_string)
set_option maxRecDepth 100000 in
set_option linter.unusedVariables false in
theorem law_ClassesOf {w : World} {a0 : Option Addr} {n0 c0 : Nat} {x0 : List UInt8} (h0 : Arr eB 1 w a0 n0 x0) : Does Tryz.prog 3 [.slice a0 n0 c0] w (fun v w' => v = .bool true ∧ Ext w w') := by
  have len0 := h0.len
  have hDC : ∀ u, Ext w u → Does Tryz.prog 5 [.slice a0 n0 c0] u (fun v w' => ∃ (a' : Option Addr) (n' c' : Nat) (d : List (List Int)) (f : TField) (al : Option Addr) (nl cl : Nat) (ls : List Int), v = .tuple #[.slice a' n' c', .agg ⟨f.enc⟩, .slice al nl cl] ∧ f.ok ∧ nl ≤ 1048576 ∧ d.length = n' ∧ ArrS RCard w' a' n' d ∧ Own eI w' al nl 2 ls ∧ Ext u w') := fun u e => by
    refine (spec_DrawCountClasses (h0.ext e)).mono ?_
    rintro _ w' ⟨a', n', c', ds, f, al, nl, cl, ls, rfl, hf, hb, G, H, O, e'⟩
    obtain ⟨d, hd, hl⟩ := H.arrS G
    exact ⟨_, _, _, _, _, _, _, _, _, rfl, hf, by omega, hl, hd, O, e'⟩
  have hDM : ∀ u, Ext w u → Does Tryz.prog 8 [.slice a0 n0 c0] u (fun v w' => ∃ (a' : Option Addr) (n' c' : Nat) (d : List (List Int)) (f : TField), v = .tuple #[.slice a' n' c', .agg ⟨f.enc⟩] ∧ f.ok ∧ n' ≤ 1048576 ∧ d.length = n' ∧ ArrS RCard w' a' n' d ∧ Ext u w') := fun u e => by
    refine (spec_DrawMedianOf (h0.ext e)).mono ?_
    rintro _ w' ⟨a', n', c', ds, f, rfl, hf, hb, G, H, e'⟩
    obtain ⟨d, hd, hl⟩ := H.arrS G
    exact ⟨_, _, _, _, _, rfl, hf, by omega, hl, hd, e'⟩
  have hDT : ∀ u, Ext w u → Does Tryz.prog 17 [.slice a0 n0 c0] u (fun v w' => ∃ (a' : Option Addr) (n' c' : Nat) (d : List (List Int)) (f : TField) (al : Option Addr) (nl cl : Nat) (ls : List ByteArray), v = .tuple #[.slice a' n' c', .agg ⟨f.enc⟩, .slice al nl cl] ∧ nl ≤ cl ∧ nl ≤ 1048576 ∧ d.length = n' ∧ ArrS RCard w' a' n' d ∧ Own eS w' al nl 9 ls ∧ Ext u w') := fun u e => by
    refine (spec_DrawMissingTexts (h0.ext e)).mono ?_
    rintro _ w' ⟨a', n', c', ds, f, al, nl, cl, ls, rfl, hc, hb, G, H, O, e'⟩
    obtain ⟨d, hd, hl⟩ := H.arrS G
    exact ⟨_, _, _, _, _, _, _, _, _, rfl, hc, by omega, hl, hd, O, e'⟩
  have hDD : ∀ u, Ext w u → Does Tryz.prog 20 [.slice a0 n0 c0] u (fun v w' => ∃ (a' : Option Addr) (n' c' : Nat) (d : List (List Int)), v = .slice a' n' c' ∧ n' ≤ c' ∧ ArrS RCard w' a' n' d ∧ Ext u w') := fun u e => by
    refine (spec_DrawDoubleCards (h0.ext e)).mono ?_
    rintro _ w' ⟨a', n', c', ds, rfl, G, H, e'⟩
    obtain ⟨d, hd, hl⟩ := H.arrS G
    exact ⟨_, _, _, _, rfl, G.le.1, hd, e'⟩
  refine Does.of_vc tabok Tryz.func3 rfl rfl rfl (by kernel_rfl) ?_; conv => whnf
  refine (laws_f6big _ _ _ _).mono ?_
  rintro _ _ ⟨rfl, rfl⟩
  conv => whnf
  with_reducible refine IfB.dec (fun h1 => ?_) (fun h1 => ?_)
  · conv => whnf
    exact ⟨rfl, Ext.refl _⟩
  · conv => whnf
    refine (hDC _ (Ext.refl _)).mono ?_
    rintro _ w16 ⟨a'2, n'3, c'4, d5, f6, al7, nl8, cl9, ls10, rfl, q11, q12, rfl, A13, O14, e15⟩
    conv => whnf
    refine SemK.alloc (z := .agg #[.int .i64 0, .int .i64 0]) (by kernel_rfl) ?_
    intro b17 w17 g17 l17 e17 B17
    conv => whnf
    refine SemK.storeAll (by kernel_rfl) B17 (vs := f6.enc) rfl rfl (by simp [TField.enc, cellish]) ?_
    intro w18 c18 B18
    conv => whnf
    refine SemK.loadAgg (n := 2) (by kernel_rfl) B18.cells rfl ?_
    conv => whnf
    refine (impl_CountClasses (A13.ext (Ext.but_trans e17 c18.but g17)) q11 ((O14.ext (Ext.but_trans e17 c18.but g17)).arr eI_len) q12).mono ?_
    rintro _ w25 ⟨a'19, n'20, c'21, rfl, N22, O23, e24⟩
    conv => whnf
    refine SemK.loadAgg (n := 2) (by kernel_rfl) (B18.ext e24).cells rfl ?_
    conv => whnf
    refine (spec_CountClasses (A13.ext (Ext.trans (Ext.but_trans e17 c18.but g17) e24)) q11 ((O14.ext (Ext.trans (Ext.but_trans e17 c18.but g17) e24)).arr eI_len)).mono ?_
    rintro _ w32 ⟨a'26, n'27, c'28, rfl, N29, O30, e31⟩
    conv => whnf
    refine (hDM _ (Ext.trans (Ext.trans (Ext.but_trans (Ext.trans e15 e17) c18.but (Nat.le_trans (Below.size e15) g17)) e24) e31)).mono ?_
    rintro _ w42 ⟨a'33, n'34, c'35, d36, f37, rfl, q38, q39, rfl, A40, e41⟩
    conv => whnf
    refine SemK.alloc (z := .agg #[.int .i64 0, .int .i64 0]) (by kernel_rfl) ?_
    intro b43 w43 g43 l43 e43 B43
    conv => whnf
    refine SemK.storeAll (by kernel_rfl) B43 (vs := f37.enc) rfl rfl (by simp [TField.enc, cellish]) ?_
    intro w44 c44 B44
    conv => whnf
    refine SemK.loadAgg (n := 2) (by kernel_rfl) B44.cells rfl ?_
    conv => whnf
    refine (impl_MedianOf (A40.ext (Ext.but_trans e43 c44.but g43)) q38 q39).mono ?_
    rintro _ w46 ⟨rfl, e45⟩
    conv => whnf
    refine SemK.loadAgg (n := 2) (by kernel_rfl) (B44.ext e45).cells rfl ?_
    conv => whnf
    refine (spec_MedianOf (A40.ext (Ext.trans (Ext.but_trans e43 c44.but g43) e45)) q38 q39).mono ?_
    rintro _ w48 ⟨rfl, e47⟩
    conv => whnf
    refine (spec_DrawSharesOf (h0.ext (Ext.trans (Ext.trans (Ext.but_trans (Ext.trans (Ext.trans (Ext.trans (Ext.trans (Ext.but_trans (Ext.trans e15 e17) c18.but (Nat.le_trans (Below.size e15) g17)) e24) e31) e41) e43) c44.but (Nat.le_trans (Below.size (Ext.trans (Ext.trans (Ext.trans (Ext.but_trans (Ext.trans e15 e17) c18.but (Nat.le_trans (Below.size e15) g17)) e24) e31) e41)) g43)) e45) e47))).mono ?_
    rintro _ w57 ⟨a'49, n'50, c'51, xs52, rfl, q53, q54, O55, e56⟩
    conv => whnf
    refine (impl_SharesOf (O55.arr eI_len) O55.lt q54 (by omega)).mono ?_
    rintro _ w64 ⟨a'58, n'59, c'60, rfl, N61, O62, e63⟩
    conv => whnf
    refine (spec_SharesOf ((O55.ext e63).arr eI_len) (O55.ext e63).lt q54 (by omega)).mono ?_
    rintro _ w71 ⟨a'65, n'66, c'67, rfl, N68, O69, e70⟩
    conv => whnf
    refine (spec_DrawClassOf (h0.ext (Ext.trans (Ext.trans (Ext.trans (Ext.trans (Ext.trans (Ext.but_trans (Ext.trans (Ext.trans (Ext.trans (Ext.trans (Ext.but_trans (Ext.trans e15 e17) c18.but (Nat.le_trans (Below.size e15) g17)) e24) e31) e41) e43) c44.but (Nat.le_trans (Below.size (Ext.trans (Ext.trans (Ext.trans (Ext.but_trans (Ext.trans e15 e17) c18.but (Nat.le_trans (Below.size e15) g17)) e24) e31) e41)) g43)) e45) e47) e56) e63) e70))).mono ?_
    rintro _ w82 ⟨a'72, n'73, c'74, xs75, m76, rfl, q77, q78, q79, O80, e81⟩
    conv => whnf
    refine (impl_ClassOf (O80.arr eI_len) (by omega) _).mono ?_
    rintro _ w84 ⟨rfl, e83⟩
    conv => whnf
    refine (spec_ClassOf ((O80.ext e83).arr eI_len) _).mono ?_
    rintro _ w86 ⟨rfl, e85⟩
    conv => whnf
    refine (hDT _ (Ext.trans (Ext.trans (Ext.trans (Ext.trans (Ext.trans (Ext.trans (Ext.trans (Ext.trans (Ext.but_trans (Ext.trans (Ext.trans (Ext.trans (Ext.trans (Ext.but_trans (Ext.trans e15 e17) c18.but (Nat.le_trans (Below.size e15) g17)) e24) e31) e41) e43) c44.but (Nat.le_trans (Below.size (Ext.trans (Ext.trans (Ext.trans (Ext.but_trans (Ext.trans e15 e17) c18.but (Nat.le_trans (Below.size e15) g17)) e24) e31) e41)) g43)) e45) e47) e56) e63) e70) e81) e83) e85)).mono ?_
    rintro _ w101 ⟨a'87, n'88, c'89, d90, f91, al92, nl93, cl94, ls95, rfl, q96, q97, rfl, A98, O99, e100⟩
    conv => whnf
    refine SemK.alloc (z := .agg #[.int .i64 0, .int .i64 0]) (by kernel_rfl) ?_
    intro b102 w102 g102 l102 e102 B102
    conv => whnf
    refine SemK.storeAll (by kernel_rfl) B102 (vs := f91.enc) rfl rfl (by simp [TField.enc, cellish]) ?_
    intro w103 c103 B103
    conv => whnf
    refine SemK.loadAgg (n := 2) (by kernel_rfl) B103.cells rfl ?_
    conv => whnf
    refine (impl_MissingTexts (A98.ext (Ext.but_trans e102 c103.but g102)) _ ((O99.ext (Ext.but_trans e102 c103.but g102)).arr eS_len)).mono ?_
    rintro _ w110 ⟨a'104, n'105, c'106, rfl, N107, O108, e109⟩
    conv => whnf
    refine SemK.loadAgg (n := 2) (by kernel_rfl) (B103.ext e109).cells rfl ?_
    conv => whnf
    refine (spec_MissingTexts (A98.ext (Ext.trans (Ext.but_trans e102 c103.but g102) e109)) _ ((O99.ext (Ext.trans (Ext.but_trans e102 c103.but g102) e109)).arr eS_len)).mono ?_
    rintro _ w117 ⟨a'111, n'112, c'113, rfl, N114, O115, e116⟩
    conv => whnf
    refine (hDD _ (Ext.trans (Ext.trans (Ext.but_trans (Ext.trans (Ext.trans (Ext.trans (Ext.trans (Ext.trans (Ext.trans (Ext.trans (Ext.trans (Ext.trans (Ext.trans (Ext.but_trans (Ext.trans (Ext.trans (Ext.trans (Ext.trans (Ext.but_trans (Ext.trans e15 e17) c18.but (Nat.le_trans (Below.size e15) g17)) e24) e31) e41) e43) c44.but (Nat.le_trans (Below.size (Ext.trans (Ext.trans (Ext.trans (Ext.but_trans (Ext.trans e15 e17) c18.but (Nat.le_trans (Below.size e15) g17)) e24) e31) e41)) g43)) e45) e47) e56) e63) e70) e81) e83) e85) e100) e102) c103.but (Nat.le_trans (Below.size (Ext.trans (Ext.trans (Ext.trans (Ext.trans (Ext.trans (Ext.trans (Ext.trans (Ext.trans (Ext.trans (Ext.but_trans (Ext.trans (Ext.trans (Ext.trans (Ext.trans (Ext.but_trans (Ext.trans e15 e17) c18.but (Nat.le_trans (Below.size e15) g17)) e24) e31) e41) e43) c44.but (Nat.le_trans (Below.size (Ext.trans (Ext.trans (Ext.trans (Ext.but_trans (Ext.trans e15 e17) c18.but (Nat.le_trans (Below.size e15) g17)) e24) e31) e41)) g43)) e45) e47) e56) e63) e70) e81) e83) e85) e100)) g102)) e109) e116)).mono ?_
    rintro _ w125 ⟨a'118, n'119, c'120, d121, rfl, q122, A123, e124⟩
    conv => whnf
    refine (impl_DoubleCards A123 q122).mono ?_
    rintro _ w132 ⟨a'126, n'127, c'128, rfl, N129, O130, e131⟩
    conv => whnf
    refine (spec_DoubleCards (A123.ext e131)).mono ?_
    rintro _ w139 ⟨a'133, n'134, c'135, rfl, N136, O137, e138⟩
    conv => whnf
    refine IfB.eqf (by simp; done) ?_
    conv => whnf
    refine (laws_f6ints ((O23.ext (Ext.trans (Ext.trans (Ext.trans (Ext.trans (Ext.trans (Ext.but_trans (Ext.trans (Ext.trans (Ext.trans (Ext.trans (Ext.trans (Ext.trans (Ext.trans (Ext.trans (Ext.trans (Ext.trans (Ext.but_trans (Ext.trans (Ext.trans e31 e41) e43) c44.but (Nat.le_trans (Below.size (Ext.trans e31 e41)) g43)) e45) e47) e56) e63) e70) e81) e83) e85) e100) e102) c103.but (Nat.le_trans (Below.size (Ext.trans (Ext.trans (Ext.trans (Ext.trans (Ext.trans (Ext.trans (Ext.trans (Ext.trans (Ext.trans (Ext.but_trans (Ext.trans (Ext.trans e31 e41) e43) c44.but (Nat.le_trans (Below.size (Ext.trans e31 e41)) g43)) e45) e47) e56) e63) e70) e81) e83) e85) e100)) g102)) e109) e116) e124) e131) e138)).arr eI_len) ((O30.ext (Ext.trans (Ext.trans (Ext.trans (Ext.trans (Ext.trans (Ext.but_trans (Ext.trans (Ext.trans (Ext.trans (Ext.trans (Ext.trans (Ext.trans (Ext.trans (Ext.trans (Ext.trans (Ext.trans (Ext.but_trans (Ext.trans e41 e43) c44.but (Nat.le_trans (Below.size e41) g43)) e45) e47) e56) e63) e70) e81) e83) e85) e100) e102) c103.but (Nat.le_trans (Below.size (Ext.trans (Ext.trans (Ext.trans (Ext.trans (Ext.trans (Ext.trans (Ext.trans (Ext.trans (Ext.trans (Ext.but_trans (Ext.trans e41 e43) c44.but (Nat.le_trans (Below.size e41) g43)) e45) e47) e56) e63) e70) e81) e83) e85) e100)) g102)) e109) e116) e124) e131) e138)).arr eI_len)).mono ?_
    rintro _ w141 ⟨rfl, e140⟩
    conv => whnf
    refine IfB.eqf (by simp; done) ?_
    conv => whnf
    refine IfB.eqf (by simp; done) ?_
    conv => whnf
    refine IfB.eqf (by simp; done) ?_
    conv => whnf
    refine IfB.eqf (by simp; done) ?_
    conv => whnf
    refine (laws_f6ints ((O62.ext (Ext.trans (Ext.trans (Ext.trans (Ext.trans (Ext.trans (Ext.trans (Ext.but_trans (Ext.trans (Ext.trans (Ext.trans (Ext.trans (Ext.trans e70 e81) e83) e85) e100) e102) c103.but (Nat.le_trans (Below.size (Ext.trans (Ext.trans (Ext.trans (Ext.trans e70 e81) e83) e85) e100)) g102)) e109) e116) e124) e131) e138) e140)).arr eI_len) ((O69.ext (Ext.trans (Ext.trans (Ext.trans (Ext.trans (Ext.trans (Ext.trans (Ext.but_trans (Ext.trans (Ext.trans (Ext.trans (Ext.trans e81 e83) e85) e100) e102) c103.but (Nat.le_trans (Below.size (Ext.trans (Ext.trans (Ext.trans e81 e83) e85) e100)) g102)) e109) e116) e124) e131) e138) e140)).arr eI_len)).mono ?_
    rintro _ w143 ⟨rfl, e142⟩
    conv => whnf
    refine IfB.eqf (by simp; done) ?_
    conv => whnf
    refine IfB.eqf (by simp; done) ?_
    conv => whnf
    refine IfB.eqf (by simp; done) ?_
    conv => whnf
    refine IfB.eqf (by simp; done) ?_
    conv => whnf
    refine (laws_f6textsE ((O108.ext (Ext.trans (Ext.trans (Ext.trans (Ext.trans (Ext.trans e116 e124) e131) e138) e140) e142)).arr eS_len) ((O115.ext (Ext.trans (Ext.trans (Ext.trans (Ext.trans e124 e131) e138) e140) e142)).arr eS_len)).mono ?_
    rintro _ w145 ⟨rfl, e144⟩
    conv => whnf
    refine IfB.eqf (by simp; done) ?_
    conv => whnf
    refine (laws_f6ints ((O130.ext (Ext.trans (Ext.trans (Ext.trans e138 e140) e142) e144)).arr eI_len) ((O137.ext (Ext.trans (Ext.trans e140 e142) e144)).arr eI_len)).mono ?_
    rintro _ w147 ⟨rfl, e146⟩
    conv => whnf
    refine IfB.eqf (by simp; done) ?_
    conv => whnf
    with_reducible refine IfB.dec (fun h148 => ?_) (fun h148 => ?_)
    · have hsh := shares_1000 (cs := xs52) (ys := (sharesM xs52).1) (Prod.ext rfl h148)
      have hshb := shares_b xs52
      have hshl := sharesM_len xs52
      have hlS := (O69.arr eI_len).len
      have hOS := O69
      generalize (sharesM xs52).1 = SS at hOS hlS hsh hshb hshl
      conv => whnf
      refine LoopK.rule [3, 5, 7, 8, 10, 11, 12, 13, 19, 39, 40] (fun (k : Nat) vs w' => vs = [.slice a'2 d5.length c'4, .slice al7 nl8 cl9, .int .i64 (countClassesM d5 f6 ls10).2, .slice a'26 n'27 c'28, .slice a'33 d36.length c'35, .pointer (some ⟨b43, 0, none⟩), .int .i64 (medianM d36 f37).1, .int .i64 (medianM d36 f37).2, .slice a'65 n'66 c'67, .int .i64 (SS.take k).sum, .int .i64 (k : Nat)] ∧ k ≤ n'66 ∧ Ext w147 w') (fun k => n'66 - k) tab tabok (by kernel_rfl) 0 ⟨rfl, by omega, Ext.refl _⟩ ?_
      rintro k6 g6 _ w6000 ⟨rfl, hk6, hX6⟩
      rcases Nat.lt_or_ge k6 n'66 with hkn6 | hkn6
      · obtain ⟨y6, hy6⟩ := get_of_lt (l := SS) (k := k6) (by omega)
        have hsn6 := sum_tk_s hy6
        have hsb6 := sum_tk_b hshb (by omega) k6
        have hyb6 := hshb y6 (List.mem_of_getElem? hy6)
        conv => whnf
        refine IfB.yes (by omega) ?_
        conv => whnf
        obtain ⟨b6002, rfl⟩ := ((hOS.ext (Ext.trans (Ext.trans (Ext.trans (Ext.trans (Ext.trans (Ext.trans (Ext.trans (Ext.trans (Ext.trans (Ext.trans (Ext.but_trans (Ext.trans (Ext.trans (Ext.trans (Ext.trans e81 e83) e85) e100) e102) c103.but (Nat.le_trans (Below.size (Ext.trans (Ext.trans (Ext.trans e81 e83) e85) e100)) g102)) e109) e116) e124) e131) e138) e140) e142) e144) e146) hX6))).some (by omega)
        have lb6002 : b6002 < w71.heap.size := hOS.lt _ rfl
        refine SemK.indexOwn (sz := 1) (by kernel_rfl) k6 rfl (by omega) ?_
        have hb6002 := Own.elem eI_len (hOS.ext (Ext.trans (Ext.trans (Ext.trans (Ext.trans (Ext.trans (Ext.trans (Ext.trans (Ext.trans (Ext.trans (Ext.trans (Ext.but_trans (Ext.trans (Ext.trans (Ext.trans (Ext.trans e81 e83) e85) e100) e102) c103.but (Nat.le_trans (Below.size (Ext.trans (Ext.trans (Ext.trans e81 e83) e85) e100)) g102)) e109) e116) e124) e131) e138) e140) e142) e144) e146) hX6)) hy6
        conv => whnf
        refine SemK.load0 (by kernel_rfl) hb6002 rfl ?_
        conv => whnf
        refine SemK.add (SS.take (k6 + 1)).sum (by omega) (by omega) (by omega) ?_
        conv => whnf
        refine SemK.add (((k6 + 1 : Nat) : Int)) (by omega) (by omega) (by omega) ?_
        conv => whnf
        exact ⟨k6 + 1, by omega, rfl, by omega, hX6⟩
      · have htk6 : SS.take k6 = SS := List.take_of_length_le (by omega)
        rw [htk6]
        conv => whnf
        refine IfB.no (by omega) ?_
        conv => whnf
        refine IfB.eqf (by simp [hsh]; done) ?_
        conv => whnf
        with_reducible refine IfB.dec (fun hMed => ?_) (fun hMed => ?_)
        · obtain ⟨hdk, hnf, hall, hmp⟩ := median_zero hMed
          have hhalf := medP_half hmp
          have hnl := nums_len hall
          have hng := nums_get hall
          obtain ⟨hs40, hV40, hE40⟩ := A40
          have hl40 := hV40.len
          have h4040 := (deckB_mem hdk).1
          generalize hvv : (medianM d36 f37).1 = mv at hhalf
          generalize hNN : numsM d36 f37 = NN at hhalf hnl hng
          conv => whnf
          refine LoopK.rule [3, 5, 7, 8, 10, 11, 12, 41, 42, 43] (fun (k : Nat) vs w' => vs = [.slice a'2 d5.length c'4, .slice al7 nl8 cl9, .int .i64 (countClassesM d5 f6 ls10).2, .slice a'26 n'27 c'28, .slice a'33 d36.length c'35, .pointer (some ⟨b43, 0, none⟩), .int .i64 mv, .int .i64 ((lessN (NN.take k) mv : Nat) : Int), .int .i64 ((moreN (NN.take k) mv : Nat) : Int), .int .i64 (k : Nat)] ∧ k ≤ d36.length ∧ Ext w6000 w') (fun k => d36.length - k) tab tabok (by kernel_rfl) 0 ⟨rfl, by omega, Ext.refl _⟩ ?_
          rintro k7 g7 _ w7000 ⟨rfl, hk7, hX7⟩
          rcases Nat.lt_or_ge k7 d36.length with hkn7 | hkn7
          · obtain ⟨c7, hc7⟩ := get_of_lt (l := d36) (k := k7) (by omega)
            obtain ⟨e7, he7⟩ := get_of_lt (l := hs40) (k := k7) (by omega)
            obtain ⟨m7, hm7⟩ := hall c7 (List.mem_of_getElem? hc7)
            have hn7 := hng k7 c7 m7 hc7 hm7
            have hcd := (deckB_mem hdk).2 c7 (List.mem_of_getElem? hc7)
            have hls := lessN_tk (v := mv) hn7
            have hms := moreN_tk (v := mv) hn7
            have hle1 : lessN (NN.take k7) mv ≤ 40 := by have := List.countP_le_length (p := fun x => decide (x < mv)) (l := NN.take k7); rw [List.length_take] at this; unfold lessN; omega
            have hle2 : moreN (NN.take k7) mv ≤ 40 := by have := List.countP_le_length (p := fun x => decide (mv < x)) (l := NN.take k7); rw [List.length_take] at this; unfold moreN; omega
            have hNum : ∀ u, Ext w42 u → Does Tryz.prog 25 [.agg ⟨eH e7⟩, .agg ⟨f37.enc⟩] u (fun v w' => v = .tuple #[.int .i64 m7, .int .i64 0] ∧ Ext u w') := fun u E => impl_NumberIn0 (RdE.ext (hE40.2 k7 e7 c7 he7 hc7) E) hcd.1 (by rw [hcd.2]; exact hnf) hm7
            clear hng hall
            conv => whnf
            refine IfB.yes (by omega) ?_
            conv => whnf
            refine DrawK.held tabok mixed [(0, false), (1, false), (2, false), (3, false), (4, true), (5, true), (6, true), (7, false), (8, false), (9, true), (10, true)] (by kernel_rfl) (by kernel_rfl) ?_
            conv => whnf
            intro w7001 e7001
            conv => whnf
            refine DSemK.index (by kernel_rfl) (hV40.ext (Ext.trans (Ext.trans (Ext.trans (Ext.trans (Ext.trans (Ext.trans (Ext.trans (Ext.trans (Ext.trans (Ext.trans (Ext.trans (Ext.but_trans (Ext.trans (Ext.trans (Ext.trans (Ext.trans (Ext.trans (Ext.trans (Ext.trans (Ext.trans (Ext.trans (Ext.trans (Ext.but_trans e43 c44.but g43) e45) e47) e56) e63) e70) e81) e83) e85) e100) e102) c103.but (Nat.le_trans (Below.size (Ext.trans (Ext.trans (Ext.trans (Ext.trans (Ext.trans (Ext.trans (Ext.trans (Ext.trans (Ext.trans (Ext.but_trans e43 c44.but g43) e45) e47) e56) e63) e70) e81) e83) e85) e100)) g102)) e109) e116) e124) e131) e138) e140) e142) e144) e146) hX6) hX7)) k7 rfl he7 ?_
            intro b7003 o7003 ha7003 hb7003
            conv => whnf
            refine DSemK.loadAgg (n := 1) (by kernel_rfl) hb7003 rfl ?_
            conv => whnf
            refine SemK.loadAgg (n := 2) (by kernel_rfl) (B44.ext (Ext.trans (Ext.trans (Ext.trans (Ext.trans (Ext.trans (Ext.trans (Ext.trans (Ext.trans (Ext.trans (Ext.trans (Ext.trans (Ext.trans (Ext.but_trans (Ext.trans (Ext.trans (Ext.trans (Ext.trans (Ext.trans (Ext.trans (Ext.trans (Ext.trans (Ext.trans e45 e47) e56) e63) e70) e81) e83) e85) e100) e102) c103.but (Nat.le_trans (Below.size (Ext.trans (Ext.trans (Ext.trans (Ext.trans (Ext.trans (Ext.trans (Ext.trans (Ext.trans e45 e47) e56) e63) e70) e81) e83) e85) e100)) g102)) e109) e116) e124) e131) e138) e140) e142) e144) e146) hX6) hX7) e7001)).cells rfl ?_
            conv => whnf
            refine ⟨e7001, ?_⟩
            conv => whnf
            refine (hNum _ (Ext.trans (Ext.trans (Ext.trans (Ext.trans (Ext.trans (Ext.trans (Ext.trans (Ext.trans (Ext.trans (Ext.trans (Ext.trans (Ext.trans (Ext.but_trans (Ext.trans (Ext.trans (Ext.trans (Ext.trans (Ext.trans (Ext.trans (Ext.trans (Ext.trans (Ext.trans (Ext.trans (Ext.but_trans e43 c44.but g43) e45) e47) e56) e63) e70) e81) e83) e85) e100) e102) c103.but (Nat.le_trans (Below.size (Ext.trans (Ext.trans (Ext.trans (Ext.trans (Ext.trans (Ext.trans (Ext.trans (Ext.trans (Ext.trans (Ext.but_trans e43 c44.but g43) e45) e47) e56) e63) e70) e81) e83) e85) e100)) g102)) e109) e116) e124) e131) e138) e140) e142) e144) e146) hX6) hX7) e7001)).mono ?_
            rintro _ w7005 ⟨rfl, e7004⟩
            conv => whnf
            refine ⟨(Ext.trans e7001 e7004), ?_⟩
            conv => whnf
            with_reducible refine IfB.dec (fun h7006 => ?_) (fun h7006 => ?_)
            · conv => whnf
              refine SemK.add (((lessN (List.take k7 NN) mv + 1 : Nat) : Int)) (by omega) (by omega) (by omega) ?_
              conv => whnf
              refine IfB.no (by omega) ?_
              conv => whnf
              refine SemK.add (((k7 + 1 : Nat) : Int)) (by omega) (by omega) (by omega) ?_
              conv => whnf
              rw [if_pos h7006] at hls
              rw [if_neg (by omega)] at hms
              exact ⟨k7 + 1, by omega, by rw [hls, hms]; rfl, by omega, Ext.trans (Ext.trans hX7 e7001) e7004⟩
            · conv => whnf
              with_reducible refine IfB.dec (fun h7007 => ?_) (fun h7007 => ?_)
              · conv => whnf
                refine SemK.add (((moreN (List.take k7 NN) mv + 1 : Nat) : Int)) (by omega) (by omega) (by omega) ?_
                conv => whnf
                refine SemK.add (((k7 + 1 : Nat) : Int)) (by omega) (by omega) (by omega) ?_
                conv => whnf
                rw [if_neg h7006] at hls
                rw [if_pos h7007] at hms
                exact ⟨k7 + 1, by omega, by rw [hls, hms]; rfl, by omega, Ext.trans (Ext.trans hX7 e7001) e7004⟩
              · conv => whnf
                refine SemK.add (((k7 + 1 : Nat) : Int)) (by omega) (by omega) (by omega) ?_
                conv => whnf
                rw [if_neg h7006] at hls
                rw [if_neg (by omega)] at hms
                exact ⟨k7 + 1, by omega, by rw [hls, hms]; rfl, by omega, Ext.trans (Ext.trans hX7 e7001) e7004⟩
          · have htl : NN.take k7 = NN := List.take_of_length_le (by omega)
            rw [htl]
            conv => whnf
            refine IfB.no (by omega) ?_
            conv => whnf
            refine SemK.mul (((2 * lessN NN mv : Nat) : Int)) (by omega) (by omega) (by omega) ?_
            conv => whnf
            refine IfB.no (by omega) ?_
            conv => whnf
            refine SemK.mul (((2 * moreN NN mv : Nat) : Int)) (by omega) (by omega) (by omega) ?_
            conv => whnf
            refine IfB.no (by omega) ?_
            conv => whnf
            with_reducible refine IfB.ndec (fun hBad => ?_) (fun hBad => ?_)
            · conv => whnf
              exact ⟨rfl, (Ext.trans (Ext.trans (Ext.trans (Ext.trans (Ext.trans (Ext.trans (Ext.trans (Ext.trans (Ext.trans (Ext.trans (Ext.trans (Ext.but_trans (Ext.trans (Ext.trans (Ext.trans (Ext.trans (Ext.trans (Ext.trans (Ext.trans (Ext.trans (Ext.trans (Ext.trans (Ext.but_trans (Ext.trans (Ext.trans (Ext.trans (Ext.trans (Ext.but_trans (Ext.trans e15 e17) c18.but (Nat.le_trans (Below.size e15) g17)) e24) e31) e41) e43) c44.but (Nat.le_trans (Below.size (Ext.trans (Ext.trans (Ext.trans (Ext.but_trans (Ext.trans e15 e17) c18.but (Nat.le_trans (Below.size e15) g17)) e24) e31) e41)) g43)) e45) e47) e56) e63) e70) e81) e83) e85) e100) e102) c103.but (Nat.le_trans (Below.size (Ext.trans (Ext.trans (Ext.trans (Ext.trans (Ext.trans (Ext.trans (Ext.trans (Ext.trans (Ext.trans (Ext.but_trans (Ext.trans (Ext.trans (Ext.trans (Ext.trans (Ext.but_trans (Ext.trans e15 e17) c18.but (Nat.le_trans (Below.size e15) g17)) e24) e31) e41) e43) c44.but (Nat.le_trans (Below.size (Ext.trans (Ext.trans (Ext.trans (Ext.but_trans (Ext.trans e15 e17) c18.but (Nat.le_trans (Below.size e15) g17)) e24) e31) e41)) g43)) e45) e47) e56) e63) e70) e81) e83) e85) e100)) g102)) e109) e116) e124) e131) e138) e140) e142) e144) e146) hX6) hX7)⟩
            · obtain ⟨hsum, hlen, hcb, hc1000⟩ := classes_zero hBad
              have hlM := (O30.arr eI_len).len
              have hlL := (O14.arr eI_len).len
              have hOM := O30
              generalize (countClassesM d5 f6 ls10).1 = LL at hOM hlM hsum hlen hcb hc1000
              conv => whnf
              refine LoopK.rule [3, 5, 8, 46, 47] (fun (k : Nat) vs w' => vs = [.slice a'2 d5.length c'4, .slice al7 nl8 cl9, .slice a'26 n'27 c'28, .int .i64 (LL.take k).sum, .int .i64 (k : Nat)] ∧ k ≤ n'27 ∧ Ext w7000 w') (fun k => n'27 - k) tab tabok (by kernel_rfl) 0 ⟨rfl, by omega, Ext.refl _⟩ ?_
              rintro k9 g9 _ w9000 ⟨rfl, hk9, hX9⟩
              rcases Nat.lt_or_ge k9 n'27 with hkn9 | hkn9
              · obtain ⟨y9, hy9⟩ := get_of_lt (l := LL) (k := k9) (by omega)
                have hsn9 := sum_tk_s hy9
                have hsb9 := sum_tk_b hcb hc1000 k9
                have hyb9 := hcb y9 (List.mem_of_getElem? hy9)
                conv => whnf
                refine IfB.yes (by omega) ?_
                conv => whnf
                obtain ⟨b9002, rfl⟩ := ((hOM.ext (Ext.trans (Ext.trans (Ext.trans (Ext.trans (Ext.trans (Ext.trans (Ext.trans (Ext.trans (Ext.trans (Ext.trans (Ext.trans (Ext.trans (Ext.but_trans (Ext.trans (Ext.trans (Ext.trans (Ext.trans (Ext.trans (Ext.trans (Ext.trans (Ext.trans (Ext.trans (Ext.trans (Ext.but_trans (Ext.trans e41 e43) c44.but (Nat.le_trans (Below.size e41) g43)) e45) e47) e56) e63) e70) e81) e83) e85) e100) e102) c103.but (Nat.le_trans (Below.size (Ext.trans (Ext.trans (Ext.trans (Ext.trans (Ext.trans (Ext.trans (Ext.trans (Ext.trans (Ext.trans (Ext.but_trans (Ext.trans e41 e43) c44.but (Nat.le_trans (Below.size e41) g43)) e45) e47) e56) e63) e70) e81) e83) e85) e100)) g102)) e109) e116) e124) e131) e138) e140) e142) e144) e146) hX6) hX7) hX9))).some (by omega)
                have lb9002 : b9002 < w32.heap.size := hOM.lt _ rfl
                refine SemK.indexOwn (sz := 1) (by kernel_rfl) k9 rfl (by omega) ?_
                have hb9002 := Own.elem eI_len (hOM.ext (Ext.trans (Ext.trans (Ext.trans (Ext.trans (Ext.trans (Ext.trans (Ext.trans (Ext.trans (Ext.trans (Ext.trans (Ext.trans (Ext.trans (Ext.but_trans (Ext.trans (Ext.trans (Ext.trans (Ext.trans (Ext.trans (Ext.trans (Ext.trans (Ext.trans (Ext.trans (Ext.trans (Ext.but_trans (Ext.trans e41 e43) c44.but (Nat.le_trans (Below.size e41) g43)) e45) e47) e56) e63) e70) e81) e83) e85) e100) e102) c103.but (Nat.le_trans (Below.size (Ext.trans (Ext.trans (Ext.trans (Ext.trans (Ext.trans (Ext.trans (Ext.trans (Ext.trans (Ext.trans (Ext.but_trans (Ext.trans e41 e43) c44.but (Nat.le_trans (Below.size e41) g43)) e45) e47) e56) e63) e70) e81) e83) e85) e100)) g102)) e109) e116) e124) e131) e138) e140) e142) e144) e146) hX6) hX7) hX9)) hy9
                conv => whnf
                refine SemK.load0 (by kernel_rfl) hb9002 rfl ?_
                conv => whnf
                refine SemK.add (LL.take (k9 + 1)).sum (by omega) (by omega) (by omega) ?_
                conv => whnf
                refine SemK.add (((k9 + 1 : Nat) : Int)) (by omega) (by omega) (by omega) ?_
                conv => whnf
                exact ⟨k9 + 1, by omega, rfl, by omega, hX9⟩
              · have htk9 : LL.take k9 = LL := List.take_of_length_le (by omega)
                rw [htk9]
                conv => whnf
                refine IfB.no (by omega) ?_
                conv => whnf
                refine IfB.yes (by omega) ?_
                conv => whnf
                refine SemK.add (((nl8 + 1 : Nat) : Int)) (by omega) (by omega) (by omega) ?_
                conv => whnf
                exact ⟨by simp_all, (Ext.trans (Ext.trans (Ext.trans (Ext.trans (Ext.trans (Ext.trans (Ext.trans (Ext.trans (Ext.trans (Ext.trans (Ext.trans (Ext.trans (Ext.but_trans (Ext.trans (Ext.trans (Ext.trans (Ext.trans (Ext.trans (Ext.trans (Ext.trans (Ext.trans (Ext.trans (Ext.trans (Ext.but_trans (Ext.trans (Ext.trans (Ext.trans (Ext.trans (Ext.but_trans (Ext.trans e15 e17) c18.but (Nat.le_trans (Below.size e15) g17)) e24) e31) e41) e43) c44.but (Nat.le_trans (Below.size (Ext.trans (Ext.trans (Ext.trans (Ext.but_trans (Ext.trans e15 e17) c18.but (Nat.le_trans (Below.size e15) g17)) e24) e31) e41)) g43)) e45) e47) e56) e63) e70) e81) e83) e85) e100) e102) c103.but (Nat.le_trans (Below.size (Ext.trans (Ext.trans (Ext.trans (Ext.trans (Ext.trans (Ext.trans (Ext.trans (Ext.trans (Ext.trans (Ext.but_trans (Ext.trans (Ext.trans (Ext.trans (Ext.trans (Ext.but_trans (Ext.trans e15 e17) c18.but (Nat.le_trans (Below.size e15) g17)) e24) e31) e41) e43) c44.but (Nat.le_trans (Below.size (Ext.trans (Ext.trans (Ext.trans (Ext.but_trans (Ext.trans e15 e17) c18.but (Nat.le_trans (Below.size e15) g17)) e24) e31) e41)) g43)) e45) e47) e56) e63) e70) e81) e83) e85) e100)) g102)) e109) e116) e124) e131) e138) e140) e142) e144) e146) hX6) hX7) hX9)⟩
        · conv => whnf
          with_reducible refine IfB.ndec (fun hBad => ?_) (fun hBad => ?_)
          · conv => whnf
            exact ⟨rfl, (Ext.trans (Ext.trans (Ext.trans (Ext.trans (Ext.trans (Ext.trans (Ext.trans (Ext.trans (Ext.trans (Ext.trans (Ext.but_trans (Ext.trans (Ext.trans (Ext.trans (Ext.trans (Ext.trans (Ext.trans (Ext.trans (Ext.trans (Ext.trans (Ext.trans (Ext.but_trans (Ext.trans (Ext.trans (Ext.trans (Ext.trans (Ext.but_trans (Ext.trans e15 e17) c18.but (Nat.le_trans (Below.size e15) g17)) e24) e31) e41) e43) c44.but (Nat.le_trans (Below.size (Ext.trans (Ext.trans (Ext.trans (Ext.but_trans (Ext.trans e15 e17) c18.but (Nat.le_trans (Below.size e15) g17)) e24) e31) e41)) g43)) e45) e47) e56) e63) e70) e81) e83) e85) e100) e102) c103.but (Nat.le_trans (Below.size (Ext.trans (Ext.trans (Ext.trans (Ext.trans (Ext.trans (Ext.trans (Ext.trans (Ext.trans (Ext.trans (Ext.but_trans (Ext.trans (Ext.trans (Ext.trans (Ext.trans (Ext.but_trans (Ext.trans e15 e17) c18.but (Nat.le_trans (Below.size e15) g17)) e24) e31) e41) e43) c44.but (Nat.le_trans (Below.size (Ext.trans (Ext.trans (Ext.trans (Ext.but_trans (Ext.trans e15 e17) c18.but (Nat.le_trans (Below.size e15) g17)) e24) e31) e41)) g43)) e45) e47) e56) e63) e70) e81) e83) e85) e100)) g102)) e109) e116) e124) e131) e138) e140) e142) e144) e146) hX6)⟩
          · obtain ⟨hsum, hlen, hcb, hc1000⟩ := classes_zero hBad
            have hlM := (O30.arr eI_len).len
            have hlL := (O14.arr eI_len).len
            have hOM := O30
            generalize (countClassesM d5 f6 ls10).1 = LL at hOM hlM hsum hlen hcb hc1000
            conv => whnf
            refine LoopK.rule [3, 5, 8, 46, 47] (fun (k : Nat) vs w' => vs = [.slice a'2 d5.length c'4, .slice al7 nl8 cl9, .slice a'26 n'27 c'28, .int .i64 (LL.take k).sum, .int .i64 (k : Nat)] ∧ k ≤ n'27 ∧ Ext w6000 w') (fun k => n'27 - k) tab tabok (by kernel_rfl) 0 ⟨rfl, by omega, Ext.refl _⟩ ?_
            rintro k9 g9 _ w9000 ⟨rfl, hk9, hX9⟩
            rcases Nat.lt_or_ge k9 n'27 with hkn9 | hkn9
            · obtain ⟨y9, hy9⟩ := get_of_lt (l := LL) (k := k9) (by omega)
              have hsn9 := sum_tk_s hy9
              have hsb9 := sum_tk_b hcb hc1000 k9
              have hyb9 := hcb y9 (List.mem_of_getElem? hy9)
              conv => whnf
              refine IfB.yes (by omega) ?_
              conv => whnf
              obtain ⟨b9002, rfl⟩ := ((hOM.ext (Ext.trans (Ext.trans (Ext.trans (Ext.trans (Ext.trans (Ext.trans (Ext.trans (Ext.trans (Ext.trans (Ext.trans (Ext.trans (Ext.but_trans (Ext.trans (Ext.trans (Ext.trans (Ext.trans (Ext.trans (Ext.trans (Ext.trans (Ext.trans (Ext.trans (Ext.trans (Ext.but_trans (Ext.trans e41 e43) c44.but (Nat.le_trans (Below.size e41) g43)) e45) e47) e56) e63) e70) e81) e83) e85) e100) e102) c103.but (Nat.le_trans (Below.size (Ext.trans (Ext.trans (Ext.trans (Ext.trans (Ext.trans (Ext.trans (Ext.trans (Ext.trans (Ext.trans (Ext.but_trans (Ext.trans e41 e43) c44.but (Nat.le_trans (Below.size e41) g43)) e45) e47) e56) e63) e70) e81) e83) e85) e100)) g102)) e109) e116) e124) e131) e138) e140) e142) e144) e146) hX6) hX9))).some (by omega)
              have lb9002 : b9002 < w32.heap.size := hOM.lt _ rfl
              refine SemK.indexOwn (sz := 1) (by kernel_rfl) k9 rfl (by omega) ?_
              have hb9002 := Own.elem eI_len (hOM.ext (Ext.trans (Ext.trans (Ext.trans (Ext.trans (Ext.trans (Ext.trans (Ext.trans (Ext.trans (Ext.trans (Ext.trans (Ext.trans (Ext.but_trans (Ext.trans (Ext.trans (Ext.trans (Ext.trans (Ext.trans (Ext.trans (Ext.trans (Ext.trans (Ext.trans (Ext.trans (Ext.but_trans (Ext.trans e41 e43) c44.but (Nat.le_trans (Below.size e41) g43)) e45) e47) e56) e63) e70) e81) e83) e85) e100) e102) c103.but (Nat.le_trans (Below.size (Ext.trans (Ext.trans (Ext.trans (Ext.trans (Ext.trans (Ext.trans (Ext.trans (Ext.trans (Ext.trans (Ext.but_trans (Ext.trans e41 e43) c44.but (Nat.le_trans (Below.size e41) g43)) e45) e47) e56) e63) e70) e81) e83) e85) e100)) g102)) e109) e116) e124) e131) e138) e140) e142) e144) e146) hX6) hX9)) hy9
              conv => whnf
              refine SemK.load0 (by kernel_rfl) hb9002 rfl ?_
              conv => whnf
              refine SemK.add (LL.take (k9 + 1)).sum (by omega) (by omega) (by omega) ?_
              conv => whnf
              refine SemK.add (((k9 + 1 : Nat) : Int)) (by omega) (by omega) (by omega) ?_
              conv => whnf
              exact ⟨k9 + 1, by omega, rfl, by omega, hX9⟩
            · have htk9 : LL.take k9 = LL := List.take_of_length_le (by omega)
              rw [htk9]
              conv => whnf
              refine IfB.no (by omega) ?_
              conv => whnf
              refine IfB.yes (by omega) ?_
              conv => whnf
              refine SemK.add (((nl8 + 1 : Nat) : Int)) (by omega) (by omega) (by omega) ?_
              conv => whnf
              exact ⟨by simp_all, (Ext.trans (Ext.trans (Ext.trans (Ext.trans (Ext.trans (Ext.trans (Ext.trans (Ext.trans (Ext.trans (Ext.trans (Ext.trans (Ext.but_trans (Ext.trans (Ext.trans (Ext.trans (Ext.trans (Ext.trans (Ext.trans (Ext.trans (Ext.trans (Ext.trans (Ext.trans (Ext.but_trans (Ext.trans (Ext.trans (Ext.trans (Ext.trans (Ext.but_trans (Ext.trans e15 e17) c18.but (Nat.le_trans (Below.size e15) g17)) e24) e31) e41) e43) c44.but (Nat.le_trans (Below.size (Ext.trans (Ext.trans (Ext.trans (Ext.but_trans (Ext.trans e15 e17) c18.but (Nat.le_trans (Below.size e15) g17)) e24) e31) e41)) g43)) e45) e47) e56) e63) e70) e81) e83) e85) e100) e102) c103.but (Nat.le_trans (Below.size (Ext.trans (Ext.trans (Ext.trans (Ext.trans (Ext.trans (Ext.trans (Ext.trans (Ext.trans (Ext.trans (Ext.but_trans (Ext.trans (Ext.trans (Ext.trans (Ext.trans (Ext.but_trans (Ext.trans e15 e17) c18.but (Nat.le_trans (Below.size e15) g17)) e24) e31) e41) e43) c44.but (Nat.le_trans (Below.size (Ext.trans (Ext.trans (Ext.trans (Ext.but_trans (Ext.trans e15 e17) c18.but (Nat.le_trans (Below.size e15) g17)) e24) e31) e41)) g43)) e45) e47) e56) e63) e70) e81) e83) e85) e100)) g102)) e109) e116) e124) e131) e138) e140) e142) e144) e146) hX6) hX9)⟩
    · conv => whnf
      with_reducible refine IfB.dec (fun hMed => ?_) (fun hMed => ?_)
      · obtain ⟨hdk, hnf, hall, hmp⟩ := median_zero hMed
        have hhalf := medP_half hmp
        have hnl := nums_len hall
        have hng := nums_get hall
        obtain ⟨hs40, hV40, hE40⟩ := A40
        have hl40 := hV40.len
        have h4040 := (deckB_mem hdk).1
        generalize hvv : (medianM d36 f37).1 = mv at hhalf
        generalize hNN : numsM d36 f37 = NN at hhalf hnl hng
        conv => whnf
        refine LoopK.rule [3, 5, 7, 8, 10, 11, 12, 41, 42, 43] (fun (k : Nat) vs w' => vs = [.slice a'2 d5.length c'4, .slice al7 nl8 cl9, .int .i64 (countClassesM d5 f6 ls10).2, .slice a'26 n'27 c'28, .slice a'33 d36.length c'35, .pointer (some ⟨b43, 0, none⟩), .int .i64 mv, .int .i64 ((lessN (NN.take k) mv : Nat) : Int), .int .i64 ((moreN (NN.take k) mv : Nat) : Int), .int .i64 (k : Nat)] ∧ k ≤ d36.length ∧ Ext w147 w') (fun k => d36.length - k) tab tabok (by kernel_rfl) 0 ⟨rfl, by omega, Ext.refl _⟩ ?_
        rintro k7 g7 _ w7000 ⟨rfl, hk7, hX7⟩
        rcases Nat.lt_or_ge k7 d36.length with hkn7 | hkn7
        · obtain ⟨c7, hc7⟩ := get_of_lt (l := d36) (k := k7) (by omega)
          obtain ⟨e7, he7⟩ := get_of_lt (l := hs40) (k := k7) (by omega)
          obtain ⟨m7, hm7⟩ := hall c7 (List.mem_of_getElem? hc7)
          have hn7 := hng k7 c7 m7 hc7 hm7
          have hcd := (deckB_mem hdk).2 c7 (List.mem_of_getElem? hc7)
          have hls := lessN_tk (v := mv) hn7
          have hms := moreN_tk (v := mv) hn7
          have hle1 : lessN (NN.take k7) mv ≤ 40 := by have := List.countP_le_length (p := fun x => decide (x < mv)) (l := NN.take k7); rw [List.length_take] at this; unfold lessN; omega
          have hle2 : moreN (NN.take k7) mv ≤ 40 := by have := List.countP_le_length (p := fun x => decide (mv < x)) (l := NN.take k7); rw [List.length_take] at this; unfold moreN; omega
          have hNum : ∀ u, Ext w42 u → Does Tryz.prog 25 [.agg ⟨eH e7⟩, .agg ⟨f37.enc⟩] u (fun v w' => v = .tuple #[.int .i64 m7, .int .i64 0] ∧ Ext u w') := fun u E => impl_NumberIn0 (RdE.ext (hE40.2 k7 e7 c7 he7 hc7) E) hcd.1 (by rw [hcd.2]; exact hnf) hm7
          clear hng hall
          conv => whnf
          refine IfB.yes (by omega) ?_
          conv => whnf
          refine DrawK.held tabok mixed [(0, false), (1, false), (2, false), (3, false), (4, true), (5, true), (6, true), (7, false), (8, false), (9, true), (10, true)] (by kernel_rfl) (by kernel_rfl) ?_
          conv => whnf
          intro w7001 e7001
          conv => whnf
          refine DSemK.index (by kernel_rfl) (hV40.ext (Ext.trans (Ext.trans (Ext.trans (Ext.trans (Ext.trans (Ext.trans (Ext.trans (Ext.trans (Ext.trans (Ext.trans (Ext.but_trans (Ext.trans (Ext.trans (Ext.trans (Ext.trans (Ext.trans (Ext.trans (Ext.trans (Ext.trans (Ext.trans (Ext.trans (Ext.but_trans e43 c44.but g43) e45) e47) e56) e63) e70) e81) e83) e85) e100) e102) c103.but (Nat.le_trans (Below.size (Ext.trans (Ext.trans (Ext.trans (Ext.trans (Ext.trans (Ext.trans (Ext.trans (Ext.trans (Ext.trans (Ext.but_trans e43 c44.but g43) e45) e47) e56) e63) e70) e81) e83) e85) e100)) g102)) e109) e116) e124) e131) e138) e140) e142) e144) e146) hX7)) k7 rfl he7 ?_
          intro b7003 o7003 ha7003 hb7003
          conv => whnf
          refine DSemK.loadAgg (n := 1) (by kernel_rfl) hb7003 rfl ?_
          conv => whnf
          refine SemK.loadAgg (n := 2) (by kernel_rfl) (B44.ext (Ext.trans (Ext.trans (Ext.trans (Ext.trans (Ext.trans (Ext.trans (Ext.trans (Ext.trans (Ext.trans (Ext.trans (Ext.trans (Ext.but_trans (Ext.trans (Ext.trans (Ext.trans (Ext.trans (Ext.trans (Ext.trans (Ext.trans (Ext.trans (Ext.trans e45 e47) e56) e63) e70) e81) e83) e85) e100) e102) c103.but (Nat.le_trans (Below.size (Ext.trans (Ext.trans (Ext.trans (Ext.trans (Ext.trans (Ext.trans (Ext.trans (Ext.trans e45 e47) e56) e63) e70) e81) e83) e85) e100)) g102)) e109) e116) e124) e131) e138) e140) e142) e144) e146) hX7) e7001)).cells rfl ?_
          conv => whnf
          refine ⟨e7001, ?_⟩
          conv => whnf
          refine (hNum _ (Ext.trans (Ext.trans (Ext.trans (Ext.trans (Ext.trans (Ext.trans (Ext.trans (Ext.trans (Ext.trans (Ext.trans (Ext.trans (Ext.but_trans (Ext.trans (Ext.trans (Ext.trans (Ext.trans (Ext.trans (Ext.trans (Ext.trans (Ext.trans (Ext.trans (Ext.trans (Ext.but_trans e43 c44.but g43) e45) e47) e56) e63) e70) e81) e83) e85) e100) e102) c103.but (Nat.le_trans (Below.size (Ext.trans (Ext.trans (Ext.trans (Ext.trans (Ext.trans (Ext.trans (Ext.trans (Ext.trans (Ext.trans (Ext.but_trans e43 c44.but g43) e45) e47) e56) e63) e70) e81) e83) e85) e100)) g102)) e109) e116) e124) e131) e138) e140) e142) e144) e146) hX7) e7001)).mono ?_
          rintro _ w7005 ⟨rfl, e7004⟩
          conv => whnf
          refine ⟨(Ext.trans e7001 e7004), ?_⟩
          conv => whnf
          with_reducible refine IfB.dec (fun h7006 => ?_) (fun h7006 => ?_)
          · conv => whnf
            refine SemK.add (((lessN (List.take k7 NN) mv + 1 : Nat) : Int)) (by omega) (by omega) (by omega) ?_
            conv => whnf
            refine IfB.no (by omega) ?_
            conv => whnf
            refine SemK.add (((k7 + 1 : Nat) : Int)) (by omega) (by omega) (by omega) ?_
            conv => whnf
            rw [if_pos h7006] at hls
            rw [if_neg (by omega)] at hms
            exact ⟨k7 + 1, by omega, by rw [hls, hms]; rfl, by omega, Ext.trans (Ext.trans hX7 e7001) e7004⟩
          · conv => whnf
            with_reducible refine IfB.dec (fun h7007 => ?_) (fun h7007 => ?_)
            · conv => whnf
              refine SemK.add (((moreN (List.take k7 NN) mv + 1 : Nat) : Int)) (by omega) (by omega) (by omega) ?_
              conv => whnf
              refine SemK.add (((k7 + 1 : Nat) : Int)) (by omega) (by omega) (by omega) ?_
              conv => whnf
              rw [if_neg h7006] at hls
              rw [if_pos h7007] at hms
              exact ⟨k7 + 1, by omega, by rw [hls, hms]; rfl, by omega, Ext.trans (Ext.trans hX7 e7001) e7004⟩
            · conv => whnf
              refine SemK.add (((k7 + 1 : Nat) : Int)) (by omega) (by omega) (by omega) ?_
              conv => whnf
              rw [if_neg h7006] at hls
              rw [if_neg (by omega)] at hms
              exact ⟨k7 + 1, by omega, by rw [hls, hms]; rfl, by omega, Ext.trans (Ext.trans hX7 e7001) e7004⟩
        · have htl : NN.take k7 = NN := List.take_of_length_le (by omega)
          rw [htl]
          conv => whnf
          refine IfB.no (by omega) ?_
          conv => whnf
          refine SemK.mul (((2 * lessN NN mv : Nat) : Int)) (by omega) (by omega) (by omega) ?_
          conv => whnf
          refine IfB.no (by omega) ?_
          conv => whnf
          refine SemK.mul (((2 * moreN NN mv : Nat) : Int)) (by omega) (by omega) (by omega) ?_
          conv => whnf
          refine IfB.no (by omega) ?_
          conv => whnf
          with_reducible refine IfB.ndec (fun hBad => ?_) (fun hBad => ?_)
          · conv => whnf
            exact ⟨rfl, (Ext.trans (Ext.trans (Ext.trans (Ext.trans (Ext.trans (Ext.trans (Ext.trans (Ext.trans (Ext.trans (Ext.trans (Ext.but_trans (Ext.trans (Ext.trans (Ext.trans (Ext.trans (Ext.trans (Ext.trans (Ext.trans (Ext.trans (Ext.trans (Ext.trans (Ext.but_trans (Ext.trans (Ext.trans (Ext.trans (Ext.trans (Ext.but_trans (Ext.trans e15 e17) c18.but (Nat.le_trans (Below.size e15) g17)) e24) e31) e41) e43) c44.but (Nat.le_trans (Below.size (Ext.trans (Ext.trans (Ext.trans (Ext.but_trans (Ext.trans e15 e17) c18.but (Nat.le_trans (Below.size e15) g17)) e24) e31) e41)) g43)) e45) e47) e56) e63) e70) e81) e83) e85) e100) e102) c103.but (Nat.le_trans (Below.size (Ext.trans (Ext.trans (Ext.trans (Ext.trans (Ext.trans (Ext.trans (Ext.trans (Ext.trans (Ext.trans (Ext.but_trans (Ext.trans (Ext.trans (Ext.trans (Ext.trans (Ext.but_trans (Ext.trans e15 e17) c18.but (Nat.le_trans (Below.size e15) g17)) e24) e31) e41) e43) c44.but (Nat.le_trans (Below.size (Ext.trans (Ext.trans (Ext.trans (Ext.but_trans (Ext.trans e15 e17) c18.but (Nat.le_trans (Below.size e15) g17)) e24) e31) e41)) g43)) e45) e47) e56) e63) e70) e81) e83) e85) e100)) g102)) e109) e116) e124) e131) e138) e140) e142) e144) e146) hX7)⟩
          · obtain ⟨hsum, hlen, hcb, hc1000⟩ := classes_zero hBad
            have hlM := (O30.arr eI_len).len
            have hlL := (O14.arr eI_len).len
            have hOM := O30
            generalize (countClassesM d5 f6 ls10).1 = LL at hOM hlM hsum hlen hcb hc1000
            conv => whnf
            refine LoopK.rule [3, 5, 8, 46, 47] (fun (k : Nat) vs w' => vs = [.slice a'2 d5.length c'4, .slice al7 nl8 cl9, .slice a'26 n'27 c'28, .int .i64 (LL.take k).sum, .int .i64 (k : Nat)] ∧ k ≤ n'27 ∧ Ext w7000 w') (fun k => n'27 - k) tab tabok (by kernel_rfl) 0 ⟨rfl, by omega, Ext.refl _⟩ ?_
            rintro k9 g9 _ w9000 ⟨rfl, hk9, hX9⟩
            rcases Nat.lt_or_ge k9 n'27 with hkn9 | hkn9
            · obtain ⟨y9, hy9⟩ := get_of_lt (l := LL) (k := k9) (by omega)
              have hsn9 := sum_tk_s hy9
              have hsb9 := sum_tk_b hcb hc1000 k9
              have hyb9 := hcb y9 (List.mem_of_getElem? hy9)
              conv => whnf
              refine IfB.yes (by omega) ?_
              conv => whnf
              obtain ⟨b9002, rfl⟩ := ((hOM.ext (Ext.trans (Ext.trans (Ext.trans (Ext.trans (Ext.trans (Ext.trans (Ext.trans (Ext.trans (Ext.trans (Ext.trans (Ext.trans (Ext.but_trans (Ext.trans (Ext.trans (Ext.trans (Ext.trans (Ext.trans (Ext.trans (Ext.trans (Ext.trans (Ext.trans (Ext.trans (Ext.but_trans (Ext.trans e41 e43) c44.but (Nat.le_trans (Below.size e41) g43)) e45) e47) e56) e63) e70) e81) e83) e85) e100) e102) c103.but (Nat.le_trans (Below.size (Ext.trans (Ext.trans (Ext.trans (Ext.trans (Ext.trans (Ext.trans (Ext.trans (Ext.trans (Ext.trans (Ext.but_trans (Ext.trans e41 e43) c44.but (Nat.le_trans (Below.size e41) g43)) e45) e47) e56) e63) e70) e81) e83) e85) e100)) g102)) e109) e116) e124) e131) e138) e140) e142) e144) e146) hX7) hX9))).some (by omega)
              have lb9002 : b9002 < w32.heap.size := hOM.lt _ rfl
              refine SemK.indexOwn (sz := 1) (by kernel_rfl) k9 rfl (by omega) ?_
              have hb9002 := Own.elem eI_len (hOM.ext (Ext.trans (Ext.trans (Ext.trans (Ext.trans (Ext.trans (Ext.trans (Ext.trans (Ext.trans (Ext.trans (Ext.trans (Ext.trans (Ext.but_trans (Ext.trans (Ext.trans (Ext.trans (Ext.trans (Ext.trans (Ext.trans (Ext.trans (Ext.trans (Ext.trans (Ext.trans (Ext.but_trans (Ext.trans e41 e43) c44.but (Nat.le_trans (Below.size e41) g43)) e45) e47) e56) e63) e70) e81) e83) e85) e100) e102) c103.but (Nat.le_trans (Below.size (Ext.trans (Ext.trans (Ext.trans (Ext.trans (Ext.trans (Ext.trans (Ext.trans (Ext.trans (Ext.trans (Ext.but_trans (Ext.trans e41 e43) c44.but (Nat.le_trans (Below.size e41) g43)) e45) e47) e56) e63) e70) e81) e83) e85) e100)) g102)) e109) e116) e124) e131) e138) e140) e142) e144) e146) hX7) hX9)) hy9
              conv => whnf
              refine SemK.load0 (by kernel_rfl) hb9002 rfl ?_
              conv => whnf
              refine SemK.add (LL.take (k9 + 1)).sum (by omega) (by omega) (by omega) ?_
              conv => whnf
              refine SemK.add (((k9 + 1 : Nat) : Int)) (by omega) (by omega) (by omega) ?_
              conv => whnf
              exact ⟨k9 + 1, by omega, rfl, by omega, hX9⟩
            · have htk9 : LL.take k9 = LL := List.take_of_length_le (by omega)
              rw [htk9]
              conv => whnf
              refine IfB.no (by omega) ?_
              conv => whnf
              refine IfB.yes (by omega) ?_
              conv => whnf
              refine SemK.add (((nl8 + 1 : Nat) : Int)) (by omega) (by omega) (by omega) ?_
              conv => whnf
              exact ⟨by simp_all, (Ext.trans (Ext.trans (Ext.trans (Ext.trans (Ext.trans (Ext.trans (Ext.trans (Ext.trans (Ext.trans (Ext.trans (Ext.trans (Ext.but_trans (Ext.trans (Ext.trans (Ext.trans (Ext.trans (Ext.trans (Ext.trans (Ext.trans (Ext.trans (Ext.trans (Ext.trans (Ext.but_trans (Ext.trans (Ext.trans (Ext.trans (Ext.trans (Ext.but_trans (Ext.trans e15 e17) c18.but (Nat.le_trans (Below.size e15) g17)) e24) e31) e41) e43) c44.but (Nat.le_trans (Below.size (Ext.trans (Ext.trans (Ext.trans (Ext.but_trans (Ext.trans e15 e17) c18.but (Nat.le_trans (Below.size e15) g17)) e24) e31) e41)) g43)) e45) e47) e56) e63) e70) e81) e83) e85) e100) e102) c103.but (Nat.le_trans (Below.size (Ext.trans (Ext.trans (Ext.trans (Ext.trans (Ext.trans (Ext.trans (Ext.trans (Ext.trans (Ext.trans (Ext.but_trans (Ext.trans (Ext.trans (Ext.trans (Ext.trans (Ext.but_trans (Ext.trans e15 e17) c18.but (Nat.le_trans (Below.size e15) g17)) e24) e31) e41) e43) c44.but (Nat.le_trans (Below.size (Ext.trans (Ext.trans (Ext.trans (Ext.but_trans (Ext.trans e15 e17) c18.but (Nat.le_trans (Below.size e15) g17)) e24) e31) e41)) g43)) e45) e47) e56) e63) e70) e81) e83) e85) e100)) g102)) e109) e116) e124) e131) e138) e140) e142) e144) e146) hX7) hX9)⟩
      · conv => whnf
        with_reducible refine IfB.ndec (fun hBad => ?_) (fun hBad => ?_)
        · conv => whnf
          exact ⟨rfl, (Ext.trans (Ext.trans (Ext.trans (Ext.trans (Ext.trans (Ext.trans (Ext.trans (Ext.trans (Ext.trans (Ext.but_trans (Ext.trans (Ext.trans (Ext.trans (Ext.trans (Ext.trans (Ext.trans (Ext.trans (Ext.trans (Ext.trans (Ext.trans (Ext.but_trans (Ext.trans (Ext.trans (Ext.trans (Ext.trans (Ext.but_trans (Ext.trans e15 e17) c18.but (Nat.le_trans (Below.size e15) g17)) e24) e31) e41) e43) c44.but (Nat.le_trans (Below.size (Ext.trans (Ext.trans (Ext.trans (Ext.but_trans (Ext.trans e15 e17) c18.but (Nat.le_trans (Below.size e15) g17)) e24) e31) e41)) g43)) e45) e47) e56) e63) e70) e81) e83) e85) e100) e102) c103.but (Nat.le_trans (Below.size (Ext.trans (Ext.trans (Ext.trans (Ext.trans (Ext.trans (Ext.trans (Ext.trans (Ext.trans (Ext.trans (Ext.but_trans (Ext.trans (Ext.trans (Ext.trans (Ext.trans (Ext.but_trans (Ext.trans e15 e17) c18.but (Nat.le_trans (Below.size e15) g17)) e24) e31) e41) e43) c44.but (Nat.le_trans (Below.size (Ext.trans (Ext.trans (Ext.trans (Ext.but_trans (Ext.trans e15 e17) c18.but (Nat.le_trans (Below.size e15) g17)) e24) e31) e41)) g43)) e45) e47) e56) e63) e70) e81) e83) e85) e100)) g102)) e109) e116) e124) e131) e138) e140) e142) e144) e146)⟩
        · obtain ⟨hsum, hlen, hcb, hc1000⟩ := classes_zero hBad
          have hlM := (O30.arr eI_len).len
          have hlL := (O14.arr eI_len).len
          have hOM := O30
          generalize (countClassesM d5 f6 ls10).1 = LL at hOM hlM hsum hlen hcb hc1000
          conv => whnf
          refine LoopK.rule [3, 5, 8, 46, 47] (fun (k : Nat) vs w' => vs = [.slice a'2 d5.length c'4, .slice al7 nl8 cl9, .slice a'26 n'27 c'28, .int .i64 (LL.take k).sum, .int .i64 (k : Nat)] ∧ k ≤ n'27 ∧ Ext w147 w') (fun k => n'27 - k) tab tabok (by kernel_rfl) 0 ⟨rfl, by omega, Ext.refl _⟩ ?_
          rintro k9 g9 _ w9000 ⟨rfl, hk9, hX9⟩
          rcases Nat.lt_or_ge k9 n'27 with hkn9 | hkn9
          · obtain ⟨y9, hy9⟩ := get_of_lt (l := LL) (k := k9) (by omega)
            have hsn9 := sum_tk_s hy9
            have hsb9 := sum_tk_b hcb hc1000 k9
            have hyb9 := hcb y9 (List.mem_of_getElem? hy9)
            conv => whnf
            refine IfB.yes (by omega) ?_
            conv => whnf
            obtain ⟨b9002, rfl⟩ := ((hOM.ext (Ext.trans (Ext.trans (Ext.trans (Ext.trans (Ext.trans (Ext.trans (Ext.trans (Ext.trans (Ext.trans (Ext.trans (Ext.but_trans (Ext.trans (Ext.trans (Ext.trans (Ext.trans (Ext.trans (Ext.trans (Ext.trans (Ext.trans (Ext.trans (Ext.trans (Ext.but_trans (Ext.trans e41 e43) c44.but (Nat.le_trans (Below.size e41) g43)) e45) e47) e56) e63) e70) e81) e83) e85) e100) e102) c103.but (Nat.le_trans (Below.size (Ext.trans (Ext.trans (Ext.trans (Ext.trans (Ext.trans (Ext.trans (Ext.trans (Ext.trans (Ext.trans (Ext.but_trans (Ext.trans e41 e43) c44.but (Nat.le_trans (Below.size e41) g43)) e45) e47) e56) e63) e70) e81) e83) e85) e100)) g102)) e109) e116) e124) e131) e138) e140) e142) e144) e146) hX9))).some (by omega)
            have lb9002 : b9002 < w32.heap.size := hOM.lt _ rfl
            refine SemK.indexOwn (sz := 1) (by kernel_rfl) k9 rfl (by omega) ?_
            have hb9002 := Own.elem eI_len (hOM.ext (Ext.trans (Ext.trans (Ext.trans (Ext.trans (Ext.trans (Ext.trans (Ext.trans (Ext.trans (Ext.trans (Ext.trans (Ext.but_trans (Ext.trans (Ext.trans (Ext.trans (Ext.trans (Ext.trans (Ext.trans (Ext.trans (Ext.trans (Ext.trans (Ext.trans (Ext.but_trans (Ext.trans e41 e43) c44.but (Nat.le_trans (Below.size e41) g43)) e45) e47) e56) e63) e70) e81) e83) e85) e100) e102) c103.but (Nat.le_trans (Below.size (Ext.trans (Ext.trans (Ext.trans (Ext.trans (Ext.trans (Ext.trans (Ext.trans (Ext.trans (Ext.trans (Ext.but_trans (Ext.trans e41 e43) c44.but (Nat.le_trans (Below.size e41) g43)) e45) e47) e56) e63) e70) e81) e83) e85) e100)) g102)) e109) e116) e124) e131) e138) e140) e142) e144) e146) hX9)) hy9
            conv => whnf
            refine SemK.load0 (by kernel_rfl) hb9002 rfl ?_
            conv => whnf
            refine SemK.add (LL.take (k9 + 1)).sum (by omega) (by omega) (by omega) ?_
            conv => whnf
            refine SemK.add (((k9 + 1 : Nat) : Int)) (by omega) (by omega) (by omega) ?_
            conv => whnf
            exact ⟨k9 + 1, by omega, rfl, by omega, hX9⟩
          · have htk9 : LL.take k9 = LL := List.take_of_length_le (by omega)
            rw [htk9]
            conv => whnf
            refine IfB.no (by omega) ?_
            conv => whnf
            refine IfB.yes (by omega) ?_
            conv => whnf
            refine SemK.add (((nl8 + 1 : Nat) : Int)) (by omega) (by omega) (by omega) ?_
            conv => whnf
            exact ⟨by simp_all, (Ext.trans (Ext.trans (Ext.trans (Ext.trans (Ext.trans (Ext.trans (Ext.trans (Ext.trans (Ext.trans (Ext.trans (Ext.but_trans (Ext.trans (Ext.trans (Ext.trans (Ext.trans (Ext.trans (Ext.trans (Ext.trans (Ext.trans (Ext.trans (Ext.trans (Ext.but_trans (Ext.trans (Ext.trans (Ext.trans (Ext.trans (Ext.but_trans (Ext.trans e15 e17) c18.but (Nat.le_trans (Below.size e15) g17)) e24) e31) e41) e43) c44.but (Nat.le_trans (Below.size (Ext.trans (Ext.trans (Ext.trans (Ext.but_trans (Ext.trans e15 e17) c18.but (Nat.le_trans (Below.size e15) g17)) e24) e31) e41)) g43)) e45) e47) e56) e63) e70) e81) e83) e85) e100) e102) c103.but (Nat.le_trans (Below.size (Ext.trans (Ext.trans (Ext.trans (Ext.trans (Ext.trans (Ext.trans (Ext.trans (Ext.trans (Ext.trans (Ext.but_trans (Ext.trans (Ext.trans (Ext.trans (Ext.trans (Ext.but_trans (Ext.trans e15 e17) c18.but (Nat.le_trans (Below.size e15) g17)) e24) e31) e41) e43) c44.but (Nat.le_trans (Below.size (Ext.trans (Ext.trans (Ext.trans (Ext.but_trans (Ext.trans e15 e17) c18.but (Nat.le_trans (Below.size e15) g17)) e24) e31) e41)) g43)) e45) e47) e56) e63) e70) e81) e83) e85) e100)) g102)) e109) e116) e124) e131) e138) e140) e142) e144) e146) hX9)⟩
set_option maxRecDepth 100000 in
theorem open_ClassesOf {H : Type} {enc : TypeId × Value → H} {base : Nat} (W : World) (args : List Value) (ds : List (DataW H)) (p : List MemPlace) (hA : DataW.TrodAll enc Tryz.prog W 0 (fun _ => true) true (Tryz.f3).params.toList args ds p)
    (hv : ∀ (j : Nat) t v, (Tryz.f3).params[j]? = some t → args[j]? = some v → Value.okWide Tryz.prog W .any base t v) : Does Tryz.prog 3 args W (fun v w' => v = .bool true ∧ Ext W w') := by
  have e : (Tryz.f3).params.toList = [22] := rfl
  rw [e] at hA
  obtain ⟨v0, vs0, d0, ds0, p0, q0, rfl, rfl, rfl, g0, r0⟩ := trodAll_cons hA
  obtain ⟨rfl, rfl, rfl⟩ := trodAll_nil r0
  obtain ⟨a0, n0, c0, x0, rfl, h0, ok0⟩ := open_arr (encα := eB) (ok := fun _ => True) (sz := 1) Tryz.underlying22 (by kernel_rfl) (by omega) (fun n cs x h => open_byte Tryz.underlying5 h) eB_len (hv 0 22 v0 (by rw [← Array.getElem?_toList, e]; rfl) rfl) g0
  exact law_ClassesOf h0
set_option maxRecDepth 100000 in
theorem FnClassesOf_lifted (os : Os) (started : os.Started) (H : Type) (enc : TypeId × Value → H) :
    ReturnsInHanded {} Tryz.checked os 3 .any (Rows.fnClassesOfSpec.pre6 enc Tryz.prog Tryz.f3 Rows.fnClassesOfRow.domain false) (Rows.fnClassesOfSpec.post enc Tryz.prog Tryz.f3 false true false false) := by
  refine returnsInHanded_of_change (C := Tryz.checked) law_own started (by kernel_rfl) Tryz.func3
    (ChangeSpec.witness6 (enc := enc) (C := Tryz.checked) false ⟨#[], #[.slice none 0 0], []⟩ 8 (by kernel_rfl) (by kernel_rfl) (by kernel_rfl) (by kernel_rfl)) ?_
  intro W base args ds gs before hval hW _ _
  exact law_contract (P := Tryz.prog) (fn := Tryz.f3) (s := Rows.fnClassesOfSpec) rfl rfl Tryz.underlying4 law_laid (by kernel_rfl)
    (fun ds h => match ds, h with | [d0], _ => ⟨rfl, rfl, rfl⟩) (fun W args ds p hA hv => open_ClassesOf W args ds p hA hv) W args ds gs before hval hW
theorem FnClassesOf_holds : Rows.FnClassesOfSaid :=
  OpenClaim.holds_of_wide 3 Tryz.f3 rfl rfl rfl rfl rfl rfl rfl ⟨rfl, rfl, rfl, rfl, rfl⟩ rfl rfl rfl rfl rfl (by kernel_rfl) Tryz.func3 (by kernel_rfl)
    (of_decide_eq_true (by kernel_rfl)) (by unfold Func.isWrapper; first | (rw [if_pos (by decide +kernel)]; kernel_rfl) | (rw [if_neg (by decide +kernel)]; exact ⟨rfl, rfl⟩))
    (fun os started H enc _ => FnClassesOf_lifted os started H enc)

end Go.Proofs.YtfgbijddjoojbaaGreat
