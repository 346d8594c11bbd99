/- The statement on the law Census is proved, as it is given: for every input the law returns true and each argument reads as before. No conditions. -/
import Derived.Test.YtfgbijddjoojbaaGreatDoorDeckC
import Derived.Test.YtfgbijddjoojbaaGreatDoorCensW
import Derived.Test.YtfgbijddjoojbaaGreatDoorKeyR
import Derived.Test.YtfgbijddjoojbaaGreatDoorVcApp
import Derived.Test.YtfgbijddjoojbaaGreatDoorBasics
import Derived.Test.YtfgbijddjoojbaaGreatDoorShelf
import Derived.Test.YtfgbijddjoojbaaGreatDoorSeatMain
import Derived.Test.YtfgbijddjoojbaaGreatDoorTie
import Derived.Test.YtfgbijddjoojbaaGreatDoorCards
import Derived.Test.YtfgbijddjoojbaaGreatDoorLiftBase
namespace Go.Proofs.YtfgbijddjoojbaaGreatDoor
open Go Go.Shelf Go.Proofs Go.RowKit Go.Vc Go.M Go.ChangeShapes Go.WideShapes Go.ChangeAt
open Go.ChangeMaps (open_string)
set_option maxRecDepth 100000 in
set_option linter.unusedVariables false in
theorem law_Census {w : World} {a0 : Option Addr} {n0 c0 : Nat} {x0 : List UInt8} (h0 : Arr eB 1 w a0 n0 x0) (hT : Pow w) : Does Tryz.prog 3 [.slice a0 n0 c0] w (fun v w' => v = .bool true ∧ Ext w w') := by
  have len0 := h0.len
  have hDC : ∀ u, Ext w u → Does Tryz.prog 6 [.slice a0 n0 c0] u (fun v w' => ∃ (a' : Option Addr) (n' c' : Nat) (d : List (List Int)) (r f : TField), v = .tuple #[.slice a' n' c', .agg ⟨r.enc⟩, .agg ⟨f.enc⟩] ∧ ArrS RCard w' a' n' d ∧ d.length = n' ∧ n' ≤ c' ∧ Ext u w') := fun u e => by
    refine (spec_DrawCrossTable (h0.ext e)).mono ?_
    rintro _ w' ⟨a', n', c', ds, r, f, rfl, _, _, G, H, e'⟩
    obtain ⟨d, hd, hl⟩ := H.arrS G
    exact ⟨_, _, _, _, _, _, rfl, hd, hl, G.le.1, e'⟩
  have hDT : ∀ u, Ext w u → Does Tryz.prog 11 [.slice a0 n0 c0] u (fun v w' => ∃ (a' : Option Addr) (n' c' : Nat) (d : List (List Int)) (f : TField), v = .tuple #[.slice a' n' c', .agg ⟨f.enc⟩] ∧ ArrS RCard w' a' n' d ∧ d.length = n' ∧ n' ≤ c' ∧ Ext u w') := fun u e => by
    refine (spec_DrawCountTexts (h0.ext e)).mono ?_
    rintro _ w' ⟨a', n', c', ds, f, rfl, _, G, H, e'⟩
    obtain ⟨d, hd, hl⟩ := H.arrS G
    exact ⟨_, _, _, _, _, rfl, hd, hl, G.le.1, e'⟩
  refine Does.of_vc tabok Tryz.func3 rfl rfl rfl (by kernel_rfl) ?_; conv => whnf
  refine (laws_f6big _ _ _ _).mono ?_
  rintro _ _ ⟨rfl, rfl⟩
  conv => whnf
  with_reducible refine IfB.dec (fun h1 => ?_) (fun h1 => ?_)
  · conv => whnf
    exact ⟨rfl, Ext.refl _⟩
  · conv => whnf
    refine (hDC _ (Ext.refl _)).mono ?_
    rintro _ w11 ⟨a'2, n'3, c'4, d5, r6, f7, rfl, A8, rfl, q9, e10⟩
    conv => whnf
    refine SemK.alloc (z := .agg #[.int .i64 0, .int .i64 0]) (by kernel_rfl) ?_
    intro b12 w12 g12 l12 e12 B12
    conv => whnf
    refine SemK.alloc (z := .agg #[.int .i64 0, .int .i64 0]) (by kernel_rfl) ?_
    intro b13 w13 g13 l13 e13 B13
    conv => whnf
    refine SemK.storeAll (by kernel_rfl) (B12.ext e13) (vs := r6.enc) rfl rfl (by simp [TField.enc, cellish]) ?_
    intro w14 c14 B14
    conv => whnf
    refine SemK.storeAll (by kernel_rfl) (B13.mod c14.but (neChg' g13 l12 (Nat.le_refl _))) (vs := f7.enc) rfl rfl (by simp [TField.enc, cellish]) ?_
    intro w15 c15 B15
    conv => whnf
    refine SemK.loadAgg (n := 2) (by kernel_rfl) (B14.mod c15.but (neChg l12 g13 (Nat.le_refl _))).cells rfl ?_
    conv => whnf
    refine SemK.loadAgg (n := 2) (by kernel_rfl) B15.cells rfl ?_
    conv => whnf
    refine (impl_CrossTable (A8.ext (Ext.but_trans (Ext.but_trans (Ext.trans e12 e13) c14.but g12) c15.but (Nat.le_trans (Below.size e12) g13))) _ _).mono ?_
    rintro _ w22 ⟨a'16, n'17, c'18, rfl, N19, O20, e21⟩
    conv => whnf
    refine SemK.loadAgg (n := 2) (by kernel_rfl) ((B14.mod c15.but (neChg l12 g13 (Nat.le_refl _))).ext e21).cells rfl ?_
    conv => whnf
    refine SemK.loadAgg (n := 2) (by kernel_rfl) (B15.ext e21).cells rfl ?_
    conv => whnf
    refine (spec_CrossTable (A8.ext (Ext.trans (Ext.but_trans (Ext.but_trans (Ext.trans e12 e13) c14.but g12) c15.but (Nat.le_trans (Below.size e12) g13)) e21)) _ _).mono ?_
    rintro _ w29 ⟨a'23, n'24, c'25, rfl, N26, O27, e28⟩
    conv => whnf
    refine SemK.loadAgg (n := 2) (by kernel_rfl) ((B14.mod c15.but (neChg l12 g13 (Nat.le_refl _))).ext (Ext.trans e21 e28)).cells rfl ?_
    conv => whnf
    refine SemK.loadAgg (n := 2) (by kernel_rfl) (B15.ext (Ext.trans e21 e28)).cells rfl ?_
    conv => whnf
    refine (impl_TableTexts (A8.ext (Ext.trans (Ext.trans (Ext.but_trans (Ext.but_trans (Ext.trans e12 e13) c14.but g12) c15.but (Nat.le_trans (Below.size e12) g13)) e21) e28)) _ _).mono ?_
    rintro _ w42 ⟨a130, n131, c132, a233, n234, c235, rfl, N36, N37, O38, O39, q40, e41⟩
    conv => whnf
    refine SemK.loadAgg (n := 2) (by kernel_rfl) ((B14.mod c15.but (neChg l12 g13 (Nat.le_refl _))).ext (Ext.trans (Ext.trans e21 e28) e41)).cells rfl ?_
    conv => whnf
    refine SemK.loadAgg (n := 2) (by kernel_rfl) (B15.ext (Ext.trans (Ext.trans e21 e28) e41)).cells rfl ?_
    conv => whnf
    refine (spec_TableTexts (A8.ext (Ext.trans (Ext.trans (Ext.trans (Ext.but_trans (Ext.but_trans (Ext.trans e12 e13) c14.but g12) c15.but (Nat.le_trans (Below.size e12) g13)) e21) e28) e41)) _ _).mono ?_
    rintro _ w55 ⟨a143, n144, c145, a246, n247, c248, rfl, N49, N50, O51, O52, q53, e54⟩
    conv => whnf
    refine (hDT _ (Ext.trans (Ext.trans (Ext.trans (Ext.trans (Ext.but_trans (Ext.but_trans (Ext.trans (Ext.trans e10 e12) e13) c14.but (Nat.le_trans (Below.size e10) g12)) c15.but (Nat.le_trans (Below.size (Ext.trans e10 e12)) g13)) e21) e28) e41) e54)).mono ?_
    rintro _ w64 ⟨a'56, n'57, c'58, d59, f60, rfl, A61, rfl, q62, e63⟩
    conv => whnf
    refine SemK.alloc (z := .agg #[.int .i64 0, .int .i64 0]) (by kernel_rfl) ?_
    intro b65 w65 g65 l65 e65 B65
    conv => whnf
    refine SemK.storeAll (by kernel_rfl) B65 (vs := f60.enc) rfl rfl (by simp [TField.enc, cellish]) ?_
    intro w66 c66 B66
    conv => whnf
    refine SemK.loadAgg (n := 2) (by kernel_rfl) B66.cells rfl ?_
    conv => whnf
    refine (impl_CountTexts (A61.ext (Ext.but_trans e65 c66.but g65)) _).mono ?_
    rintro _ w73 ⟨a'67, n'68, c'69, rfl, N70, O71, e72⟩
    conv => whnf
    refine SemK.loadAgg (n := 2) (by kernel_rfl) (B66.ext e72).cells rfl ?_
    conv => whnf
    refine (spec_CountTexts (A61.ext (Ext.trans (Ext.but_trans e65 c66.but g65) e72)) _).mono ?_
    rintro _ w80 ⟨a'74, n'75, c'76, rfl, N77, O78, e79⟩
    conv => whnf
    refine (spec_DrawTableSums (h0.ext (Ext.trans (Ext.trans (Ext.but_trans (Ext.trans (Ext.trans (Ext.trans (Ext.trans (Ext.trans (Ext.trans (Ext.but_trans (Ext.but_trans (Ext.trans (Ext.trans e10 e12) e13) c14.but (Nat.le_trans (Below.size e10) g12)) c15.but (Nat.le_trans (Below.size (Ext.trans e10 e12)) g13)) e21) e28) e41) e54) e63) e65) c66.but (Nat.le_trans (Below.size (Ext.trans (Ext.trans (Ext.trans (Ext.trans (Ext.trans (Ext.but_trans (Ext.but_trans (Ext.trans (Ext.trans e10 e12) e13) c14.but (Nat.le_trans (Below.size e10) g12)) c15.but (Nat.le_trans (Below.size (Ext.trans e10 e12)) g13)) e21) e28) e41) e54) e63)) g65)) e72) e79))).mono ?_
    rintro _ w88 ⟨a'81, n'82, c'83, d84, rfl, A85, q86, e87⟩
    conv => whnf
    refine (impl_TableSums A85).mono ?_
    rintro _ w100 ⟨a'89, n'90, c'91, a292, n293, c294, rfl, N95, N96, O97, O98, e99⟩
    conv => whnf
    refine (spec_TableSums (A85.ext e99)).mono ?_
    rintro _ w112 ⟨a'101, n'102, c'103, a2104, n2105, c2106, rfl, N107, N108, O109, O110, e111⟩
    conv => whnf
    refine (spec_DrawTableLines (h0.ext (Ext.trans (Ext.trans (Ext.trans (Ext.trans (Ext.trans (Ext.but_trans (Ext.trans (Ext.trans (Ext.trans (Ext.trans (Ext.trans (Ext.trans (Ext.but_trans (Ext.but_trans (Ext.trans (Ext.trans e10 e12) e13) c14.but (Nat.le_trans (Below.size e10) g12)) c15.but (Nat.le_trans (Below.size (Ext.trans e10 e12)) g13)) e21) e28) e41) e54) e63) e65) c66.but (Nat.le_trans (Below.size (Ext.trans (Ext.trans (Ext.trans (Ext.trans (Ext.trans (Ext.but_trans (Ext.but_trans (Ext.trans (Ext.trans e10 e12) e13) c14.but (Nat.le_trans (Below.size e10) g12)) c15.but (Nat.le_trans (Below.size (Ext.trans e10 e12)) g13)) e21) e28) e41) e54) e63)) g65)) e72) e79) e87) e99) e111))).mono ?_
    rintro _ w120 ⟨a'113, n'114, c'115, d116, rfl, A117, q118, e119⟩
    conv => whnf
    refine (impl_TableLines A117 (hT.ext (Ext.trans (Ext.trans (Ext.trans (Ext.trans (Ext.trans (Ext.trans (Ext.but_trans (Ext.trans (Ext.trans (Ext.trans (Ext.trans (Ext.trans (Ext.trans (Ext.but_trans (Ext.but_trans (Ext.trans (Ext.trans e10 e12) e13) c14.but (Nat.le_trans (Below.size e10) g12)) c15.but (Nat.le_trans (Below.size (Ext.trans e10 e12)) g13)) e21) e28) e41) e54) e63) e65) c66.but (Nat.le_trans (Below.size (Ext.trans (Ext.trans (Ext.trans (Ext.trans (Ext.trans (Ext.but_trans (Ext.but_trans (Ext.trans (Ext.trans e10 e12) e13) c14.but (Nat.le_trans (Below.size e10) g12)) c15.but (Nat.le_trans (Below.size (Ext.trans e10 e12)) g13)) e21) e28) e41) e54) e63)) g65)) e72) e79) e87) e99) e111) e119))).mono ?_
    rintro _ w127 ⟨a'121, n'122, c'123, rfl, N124, O125, e126⟩
    conv => whnf
    refine (spec_TableLines (A117.ext e126)).mono ?_
    rintro _ w134 ⟨a'128, n'129, c'130, rfl, N131, O132, e133⟩
    conv => whnf
    refine IfB.eqf (by simp; done) ?_
    conv => whnf
    refine (laws_f6listsE (O20.ext (Ext.trans (Ext.trans (Ext.trans (Ext.trans (Ext.trans (Ext.trans (Ext.trans (Ext.trans (Ext.but_trans (Ext.trans (Ext.trans (Ext.trans (Ext.trans e28 e41) e54) e63) e65) c66.but (Nat.le_trans (Below.size (Ext.trans (Ext.trans (Ext.trans e28 e41) e54) e63)) g65)) e72) e79) e87) e99) e111) e119) e126) e133)).arr (O27.ext (Ext.trans (Ext.trans (Ext.trans (Ext.trans (Ext.trans (Ext.trans (Ext.trans (Ext.trans (Ext.but_trans (Ext.trans (Ext.trans (Ext.trans e41 e54) e63) e65) c66.but (Nat.le_trans (Below.size (Ext.trans (Ext.trans e41 e54) e63)) g65)) e72) e79) e87) e99) e111) e119) e126) e133)).arr).mono ?_
    rintro _ w136 ⟨rfl, e135⟩
    conv => whnf
    refine IfB.eqf (by simp; done) ?_
    conv => whnf
    refine (laws_f6textsE ((O38.ext (Ext.trans (Ext.trans (Ext.trans (Ext.trans (Ext.trans (Ext.trans (Ext.trans (Ext.trans (Ext.trans (Ext.but_trans (Ext.trans (Ext.trans e54 e63) e65) c66.but (Nat.le_trans (Below.size (Ext.trans e54 e63)) g65)) e72) e79) e87) e99) e111) e119) e126) e133) e135)).arr eS_len) ((O51.ext (Ext.trans (Ext.trans (Ext.trans (Ext.trans (Ext.trans (Ext.trans (Ext.trans (Ext.trans (Ext.trans (Ext.but_trans (Ext.trans e63 e65) c66.but (Nat.le_trans (Below.size e63) g65)) e72) e79) e87) e99) e111) e119) e126) e133) e135)).arr eS_len)).mono ?_
    rintro _ w138 ⟨rfl, e137⟩
    conv => whnf
    refine (laws_f6textsE ((O39.ext (Ext.trans (Ext.trans (Ext.trans (Ext.trans (Ext.trans (Ext.trans (Ext.trans (Ext.trans (Ext.trans (Ext.trans (Ext.but_trans (Ext.trans (Ext.trans e54 e63) e65) c66.but (Nat.le_trans (Below.size (Ext.trans e54 e63)) g65)) e72) e79) e87) e99) e111) e119) e126) e133) e135) e137)).arr eS_len) ((O52.ext (Ext.trans (Ext.trans (Ext.trans (Ext.trans (Ext.trans (Ext.trans (Ext.trans (Ext.trans (Ext.trans (Ext.trans (Ext.but_trans (Ext.trans e63 e65) c66.but (Nat.le_trans (Below.size e63) g65)) e72) e79) e87) e99) e111) e119) e126) e133) e135) e137)).arr eS_len)).mono ?_
    rintro _ w140 ⟨rfl, e139⟩
    conv => whnf
    refine IfB.eqf (by simp; done) ?_
    conv => whnf
    refine (spec_SameTotalsE ((O71.ext (Ext.trans (Ext.trans (Ext.trans (Ext.trans (Ext.trans (Ext.trans (Ext.trans (Ext.trans (Ext.trans e79 e87) e99) e111) e119) e126) e133) e135) e137) e139)).arr TTotal.enc_len) ((O78.ext (Ext.trans (Ext.trans (Ext.trans (Ext.trans (Ext.trans (Ext.trans (Ext.trans (Ext.trans e87 e99) e111) e119) e126) e133) e135) e137) e139)).arr TTotal.enc_len) countTexts_oks).mono ?_
    rintro _ w142 ⟨rfl, e141⟩
    conv => whnf
    refine IfB.eqf (by simp; done) ?_
    conv => whnf
    refine (laws_f6ints ((O97.ext (Ext.trans (Ext.trans (Ext.trans (Ext.trans (Ext.trans (Ext.trans (Ext.trans e111 e119) e126) e133) e135) e137) e139) e141)).arr eI_len) ((O109.ext (Ext.trans (Ext.trans (Ext.trans (Ext.trans (Ext.trans (Ext.trans e119 e126) e133) e135) e137) e139) e141)).arr eI_len)).mono ?_
    rintro _ w144 ⟨rfl, e143⟩
    conv => whnf
    refine IfB.eqf (by simp; done) ?_
    conv => whnf
    refine (laws_f6ints ((O98.ext (Ext.trans (Ext.trans (Ext.trans (Ext.trans (Ext.trans (Ext.trans (Ext.trans (Ext.trans e111 e119) e126) e133) e135) e137) e139) e141) e143)).arr eI_len) ((O110.ext (Ext.trans (Ext.trans (Ext.trans (Ext.trans (Ext.trans (Ext.trans (Ext.trans e119 e126) e133) e135) e137) e139) e141) e143)).arr eI_len)).mono ?_
    rintro _ w146 ⟨rfl, e145⟩
    conv => whnf
    refine IfB.eqf (by simp; done) ?_
    conv => whnf
    refine IfB.eqf (by simp; done) ?_
    conv => whnf
    refine (laws_f6textsE ((O125.ext (Ext.trans (Ext.trans (Ext.trans (Ext.trans (Ext.trans (Ext.trans e133 e135) e137) e139) e141) e143) e145)).arr eS_len) ((O132.ext (Ext.trans (Ext.trans (Ext.trans (Ext.trans (Ext.trans e135 e137) e139) e141) e143) e145)).arr eS_len)).mono ?_
    rintro _ w148 ⟨rfl, e147⟩
    have hTS : (crossTM d5 r6 f7).2 = 0 → ∀ u, Ext w29 u → Does Tryz.prog 15 [.slice a'23 n'24 c'25] u (fun v w' => ∃ (a1 : Option Addr) (n1 c1 : Nat) (a2 : Option Addr) (n2 c2 : Nat), v = .tuple #[.slice a1 n1 c1, .slice a2 n2 c2, .int .i64 0] ∧ n1 = (countTextsM d5 r6).1.length ∧ n2 = (countTextsM d5 f7).1.length ∧ Own eI w' a1 n1 2 ((countTextsM d5 r6).1.map TTotal.sum) ∧ Own eI w' a2 n2 2 ((countTextsM d5 f7).1.map TTotal.sum) ∧ Ext u w') := fun hz u e => by
      refine (impl_TableSums (O27.ext e).arr).mono ?_
      rw [(cross_sums hz).2.2]
      rintro _ w' ⟨a1, n1, c1, a2, n2, c2, rfl, _, _, P1, P2, e'⟩
      have l1 := P1.1
      have l2 := P2.1
      simp only [List.length_map] at l1 l2
      exact ⟨_, _, _, _, _, _, rfl, l1.symm, l2.symm, P1, P2, e'⟩
    have hC1 : (crossTM d5 r6 f7).2 = 0 → ∀ u, Ext w11 u → Does Tryz.prog 12 [.slice a'2 d5.length c'4, .agg ⟨r6.enc⟩] u (fun v w' => ∃ (a1 : Option Addr) (n1 c1 : Nat), v = .tuple #[.slice a1 n1 c1, .int .i64 0] ∧ n1 = (countTextsM d5 r6).1.length ∧ Own TTotal.enc w' a1 n1 51 (countTextsM d5 r6).1 ∧ Ext u w') := fun hz u e => by
      refine (impl_CountTexts (A8.ext e) r6).mono ?_
      rw [(cross_sums hz).1]
      rintro _ w' ⟨a1, n1, c1, rfl, _, P1, e'⟩
      exact ⟨_, _, _, rfl, P1.1.symm, P1, e'⟩
    have hC2 : (crossTM d5 r6 f7).2 = 0 → ∀ u, Ext w11 u → Does Tryz.prog 12 [.slice a'2 d5.length c'4, .agg ⟨f7.enc⟩] u (fun v w' => ∃ (a1 : Option Addr) (n1 c1 : Nat), v = .tuple #[.slice a1 n1 c1, .int .i64 0] ∧ n1 = (countTextsM d5 f7).1.length ∧ Own TTotal.enc w' a1 n1 51 (countTextsM d5 f7).1 ∧ Ext u w') := fun hz u e => by
      refine (impl_CountTexts (A8.ext e) f7).mono ?_
      rw [(cross_sums hz).2.1]
      rintro _ w' ⟨a1, n1, c1, rfl, _, P1, e'⟩
      exact ⟨_, _, _, rfl, P1.1.symm, P1, e'⟩
    conv => whnf
    with_reducible refine IfB.dec (fun h149 => ?_) (fun h149 => ?_)
    · have hl75 := (O78.arr TTotal.enc_len).len
      have hcs := countTexts_sum h149
      have hcb := countTexts_b (d := d59) (f := f60)
      have hc40 := countTexts_len d59 f60
      generalize hLL : (countTextsM d59 f60).1 = LL at O78 hl75 hcs hcb hc40
      have hLb : ∀ x ∈ LL.map TTotal.sum, 0 ≤ x ∧ x ≤ 1000000 := fun x hx => by
        obtain ⟨y, hy, rfl⟩ := List.mem_map.1 hx
        exact (hcb y hy).2
      conv => whnf
      refine LoopK.rule [3, 4, 5, 7, 8, 16, 20, 34, 35] (fun (k : Nat) vs w' => vs = [.slice a'2 d5.length c'4, .pointer (some ⟨b12, 0, none⟩), .pointer (some ⟨b13, 0, none⟩), .int .i64 (crossTM d5 r6 f7).2, .slice a'23 n'24 c'25, .slice a'56 d59.length c'58, .slice a'74 n'75 c'76, .int .i64 ((LL.map TTotal.sum).take k).sum, .int .i64 (k : Nat)] ∧ k ≤ n'75 ∧ Ext w148 w') (fun k => n'75 - k) tab tabok (by kernel_rfl) 0 ⟨rfl, by omega, Ext.refl _⟩ ?_
      rintro k g _ w200 ⟨rfl, hk, hX⟩
      rcases Nat.lt_or_ge k n'75 with hkn | hkn
      · obtain ⟨y, hy⟩ : ∃ y, LL[k]? = some y := get_of_lt (by omega)
        have hys : (LL.map TTotal.sum)[k]? = some y.sum := by rw [List.getElem?_map, hy]; rfl
        have hsn := sumTakeS hys
        have hsb := sum_take_b hLb (by rw [List.length_map]; omega) k
        have hyb := (hcb y (List.mem_of_getElem? hy)).2
        conv => whnf
        refine IfB.yes (by omega) ?_
        conv => whnf
        obtain ⟨b2108, rfl⟩ := ((O78.ext (Ext.trans (Ext.trans (Ext.trans (Ext.trans (Ext.trans (Ext.trans (Ext.trans (Ext.trans (Ext.trans (Ext.trans (Ext.trans (Ext.trans (Ext.trans e87 e99) e111) e119) e126) e133) e135) e137) e139) e141) e143) e145) e147) hX))).some (by omega)
        have lb2108 : b2108 < w80.heap.size := O78.lt _ rfl
        refine SemK.indexOwn (sz := 2) (by kernel_rfl) k rfl (by omega) ?_
        have hb2108 := Own.elem TTotal.enc_len (O78.ext (Ext.trans (Ext.trans (Ext.trans (Ext.trans (Ext.trans (Ext.trans (Ext.trans (Ext.trans (Ext.trans (Ext.trans (Ext.trans (Ext.trans (Ext.trans e87 e99) e111) e119) e126) e133) e135) e137) e139) e141) e143) e145) e147) hX)) hy
        conv => whnf
        refine SemK.load1 (by kernel_rfl) hb2108 (k := 1) rfl ?_
        conv => whnf
        refine SemK.add ((LL.map TTotal.sum).take (k + 1)).sum (by omega) (by omega) (by omega) ?_
        conv => whnf
        refine SemK.add (((k + 1 : Nat) : Int)) (by omega) (by omega) (by omega) ?_
        conv => whnf
        exact ⟨k + 1, by omega, rfl, by omega, hX⟩
      · have htk : (LL.map TTotal.sum).take k = LL.map TTotal.sum := List.take_of_length_le (by rw [List.length_map]; omega)
        rw [htk]
        have hA61 := A61.le
        conv => whnf
        refine IfB.no (by omega) ?_
        conv => whnf
        refine IfB.eqf (by simp [hcs]; done) ?_
        conv => whnf
        with_reducible refine IfB.ndec (fun h150 => ?_) (fun h150 => ?_)
        · conv => whnf
          exact ⟨rfl, (Ext.trans (Ext.trans (Ext.trans (Ext.trans (Ext.trans (Ext.trans (Ext.trans (Ext.trans (Ext.trans (Ext.trans (Ext.trans (Ext.trans (Ext.trans (Ext.trans (Ext.trans (Ext.trans (Ext.but_trans (Ext.trans (Ext.trans (Ext.trans (Ext.trans (Ext.trans (Ext.trans (Ext.but_trans (Ext.but_trans (Ext.trans (Ext.trans e10 e12) e13) c14.but (Nat.le_trans (Below.size e10) g12)) c15.but (Nat.le_trans (Below.size (Ext.trans e10 e12)) g13)) e21) e28) e41) e54) e63) e65) c66.but (Nat.le_trans (Below.size (Ext.trans (Ext.trans (Ext.trans (Ext.trans (Ext.trans (Ext.but_trans (Ext.but_trans (Ext.trans (Ext.trans e10 e12) e13) c14.but (Nat.le_trans (Below.size e10) g12)) c15.but (Nat.le_trans (Below.size (Ext.trans e10 e12)) g13)) e21) e28) e41) e54) e63)) g65)) e72) e79) e87) e99) e111) e119) e126) e133) e135) e137) e139) e141) e143) e145) e147) hX)⟩
        · have hTSz := hTS h150
          have hC1z := hC1 h150
          have hC2z := hC2 h150
          have hr40 := countTexts_len d5 r6
          have hf40 := countTexts_len d5 f7
          clear hTS hC1 hC2
          conv => whnf
          refine (hTSz _ (Ext.trans (Ext.trans (Ext.trans (Ext.trans (Ext.trans (Ext.trans (Ext.trans (Ext.trans (Ext.trans (Ext.trans (Ext.trans (Ext.trans (Ext.trans (Ext.trans (Ext.trans (Ext.trans (Ext.but_trans (Ext.trans (Ext.trans (Ext.trans e41 e54) e63) e65) c66.but (Nat.le_trans (Below.size (Ext.trans (Ext.trans e41 e54) e63)) g65)) e72) e79) e87) e99) e111) e119) e126) e133) e135) e137) e139) e141) e143) e145) e147) hX)).mono ?_
          rintro _ w2116 ⟨a12107, n12108, c12109, a22110, n22111, c22112, rfl, rfl, rfl, O2113, O2114, e2115⟩
          conv => whnf
          refine SemK.loadAgg (n := 2) (by kernel_rfl) ((B14.mod c15.but (neChg l12 g13 (Nat.le_refl _))).ext (Ext.trans (Ext.trans (Ext.trans (Ext.trans (Ext.trans (Ext.trans (Ext.trans (Ext.trans (Ext.trans (Ext.trans (Ext.trans (Ext.trans (Ext.trans (Ext.trans (Ext.trans (Ext.trans (Ext.trans (Ext.but_trans (Ext.trans (Ext.trans (Ext.trans (Ext.trans (Ext.trans e21 e28) e41) e54) e63) e65) c66.but (Nat.le_trans (Below.size (Ext.trans (Ext.trans (Ext.trans (Ext.trans e21 e28) e41) e54) e63)) g65)) e72) e79) e87) e99) e111) e119) e126) e133) e135) e137) e139) e141) e143) e145) e147) hX) e2115)).cells rfl ?_
          conv => whnf
          refine (hC1z _ (Ext.trans (Ext.trans (Ext.trans (Ext.trans (Ext.trans (Ext.trans (Ext.trans (Ext.trans (Ext.trans (Ext.trans (Ext.trans (Ext.trans (Ext.trans (Ext.trans (Ext.trans (Ext.trans (Ext.trans (Ext.but_trans (Ext.trans (Ext.trans (Ext.trans (Ext.trans (Ext.trans (Ext.trans (Ext.but_trans (Ext.but_trans (Ext.trans e12 e13) c14.but g12) c15.but (Nat.le_trans (Below.size e12) g13)) e21) e28) e41) e54) e63) e65) c66.but (Nat.le_trans (Below.size (Ext.trans (Ext.trans (Ext.trans (Ext.trans (Ext.trans (Ext.but_trans (Ext.but_trans (Ext.trans e12 e13) c14.but g12) c15.but (Nat.le_trans (Below.size e12) g13)) e21) e28) e41) e54) e63)) g65)) e72) e79) e87) e99) e111) e119) e126) e133) e135) e137) e139) e141) e143) e145) e147) hX) e2115)).mono ?_
          rintro _ w2122 ⟨a12117, n12118, c12119, rfl, rfl, O2120, e2121⟩
          conv => whnf
          refine SemK.loadAgg (n := 2) (by kernel_rfl) (B15.ext (Ext.trans (Ext.trans (Ext.trans (Ext.trans (Ext.trans (Ext.trans (Ext.trans (Ext.trans (Ext.trans (Ext.trans (Ext.trans (Ext.trans (Ext.trans (Ext.trans (Ext.trans (Ext.trans (Ext.trans (Ext.trans (Ext.but_trans (Ext.trans (Ext.trans (Ext.trans (Ext.trans (Ext.trans e21 e28) e41) e54) e63) e65) c66.but (Nat.le_trans (Below.size (Ext.trans (Ext.trans (Ext.trans (Ext.trans e21 e28) e41) e54) e63)) g65)) e72) e79) e87) e99) e111) e119) e126) e133) e135) e137) e139) e141) e143) e145) e147) hX) e2115) e2121)).cells rfl ?_
          conv => whnf
          refine (hC2z _ (Ext.trans (Ext.trans (Ext.trans (Ext.trans (Ext.trans (Ext.trans (Ext.trans (Ext.trans (Ext.trans (Ext.trans (Ext.trans (Ext.trans (Ext.trans (Ext.trans (Ext.trans (Ext.trans (Ext.trans (Ext.trans (Ext.but_trans (Ext.trans (Ext.trans (Ext.trans (Ext.trans (Ext.trans (Ext.trans (Ext.but_trans (Ext.but_trans (Ext.trans e12 e13) c14.but g12) c15.but (Nat.le_trans (Below.size e12) g13)) e21) e28) e41) e54) e63) e65) c66.but (Nat.le_trans (Below.size (Ext.trans (Ext.trans (Ext.trans (Ext.trans (Ext.trans (Ext.but_trans (Ext.but_trans (Ext.trans e12 e13) c14.but g12) c15.but (Nat.le_trans (Below.size e12) g13)) e21) e28) e41) e54) e63)) g65)) e72) e79) e87) e99) e111) e119) e126) e133) e135) e137) e139) e141) e143) e145) e147) hX) e2115) e2121)).mono ?_
          rintro _ w2128 ⟨a12123, n12124, c12125, rfl, rfl, O2126, e2127⟩
          conv => whnf
          refine IfB.eqf (by simp; done) ?_
          conv => whnf
          refine IfB.eqf (by simp; done) ?_
          conv => whnf
          refine LoopK.rule [36, 37, 39, 41, 43] (fun (k : Nat) vs w' => vs = [.slice a12107 (countTextsM d5 r6).1.length c12109, .slice a22110 (countTextsM d5 f7).1.length c22112, .slice a12117 (countTextsM d5 r6).1.length c12119, .slice a12123 (countTextsM d5 f7).1.length c12125, .int .i64 (k : Nat)] ∧ k ≤ (countTextsM d5 r6).1.length ∧ Ext w2128 w') (fun k => (countTextsM d5 r6).1.length - k) tab tabok (by kernel_rfl) 0 ⟨rfl, by omega, Ext.refl _⟩ ?_
          rintro k2 g2 _ w3000 ⟨rfl, hk2, hX2⟩
          rcases Nat.lt_or_ge k2 (countTextsM d5 r6).1.length with hkn2 | hkn2
          · obtain ⟨y2, hy2⟩ := get_of_lt (l := (countTextsM d5 r6).1) (k := k2) hkn2
            have hys2 : ((countTextsM d5 r6).1.map TTotal.sum)[k2]? = some y2.sum := by rw [List.getElem?_map, hy2]; rfl
            conv => whnf
            refine IfB.yes (by omega) ?_
            conv => whnf
            refine DrawK.det tabok mixed (by kernel_rfl) (by kernel_rfl) ?_
            conv => whnf
            obtain ⟨b22114, rfl⟩ := ((O2113.ext (Ext.trans (Ext.trans e2121 e2127) hX2))).some (by omega)
            have lb22114 : b22114 < w2116.heap.size := O2113.lt _ rfl
            refine DSemK.indexOwn (sz := 1) (by kernel_rfl) k2 rfl (by omega) ?_
            have hb22114 := Own.elem eI_len (O2113.ext (Ext.trans (Ext.trans e2121 e2127) hX2)) hys2
            conv => whnf
            refine DSemK.load0 (by kernel_rfl) hb22114 rfl ?_
            conv => whnf
            obtain ⟨b22116, rfl⟩ := ((O2120.ext (Ext.trans e2127 hX2))).some (by omega)
            have lb22116 : b22116 < w2122.heap.size := O2120.lt _ rfl
            refine DSemK.indexOwn (sz := 2) (by kernel_rfl) k2 rfl (by omega) ?_
            have hb22116 := Own.elem TTotal.enc_len (O2120.ext (Ext.trans e2127 hX2)) hy2
            conv => whnf
            refine DSemK.load1 (by kernel_rfl) hb22116 (k := 1) rfl ?_
            conv => whnf
            intro w22117 e22117
            conv => whnf
            refine IfB.eqf (by simp; done) ?_
            conv => whnf
            refine SemK.add (((k2 + 1 : Nat) : Int)) (by omega) (by omega) (by omega) ?_
            conv => whnf
            exact ⟨k2 + 1, by omega, rfl, by omega, (Ext.trans hX2 e22117)⟩
          · conv => whnf
            refine IfB.no (by omega) ?_
            conv => whnf
            refine LoopK.rule [37, 41, 44] (fun (k : Nat) vs w' => vs = [.slice a22110 (countTextsM d5 f7).1.length c22112, .slice a12123 (countTextsM d5 f7).1.length c12125, .int .i64 (k : Nat)] ∧ k ≤ (countTextsM d5 f7).1.length ∧ Ext w3000 w') (fun k => (countTextsM d5 f7).1.length - k) tab tabok (by kernel_rfl) 0 ⟨rfl, by omega, Ext.refl _⟩ ?_
            rintro k3 g3 _ w4000 ⟨rfl, hk3, hX3⟩
            rcases Nat.lt_or_ge k3 (countTextsM d5 f7).1.length with hkn3 | hkn3
            · obtain ⟨y3, hy3⟩ := get_of_lt (l := (countTextsM d5 f7).1) (k := k3) hkn3
              have hys3 : ((countTextsM d5 f7).1.map TTotal.sum)[k3]? = some y3.sum := by rw [List.getElem?_map, hy3]; rfl
              conv => whnf
              refine IfB.yes (by omega) ?_
              conv => whnf
              refine DrawK.det tabok mixed (by kernel_rfl) (by kernel_rfl) ?_
              conv => whnf
              obtain ⟨b22114, rfl⟩ := ((O2114.ext (Ext.trans (Ext.trans (Ext.trans e2121 e2127) hX2) hX3))).some (by omega)
              have lb22114 : b22114 < w2116.heap.size := O2114.lt _ rfl
              refine DSemK.indexOwn (sz := 1) (by kernel_rfl) k3 rfl (by omega) ?_
              have hb22114 := Own.elem eI_len (O2114.ext (Ext.trans (Ext.trans (Ext.trans e2121 e2127) hX2) hX3)) hys3
              conv => whnf
              refine DSemK.load0 (by kernel_rfl) hb22114 rfl ?_
              conv => whnf
              obtain ⟨b22116, rfl⟩ := ((O2126.ext (Ext.trans hX2 hX3))).some (by omega)
              have lb22116 : b22116 < w2128.heap.size := O2126.lt _ rfl
              refine DSemK.indexOwn (sz := 2) (by kernel_rfl) k3 rfl (by omega) ?_
              have hb22116 := Own.elem TTotal.enc_len (O2126.ext (Ext.trans hX2 hX3)) hy3
              conv => whnf
              refine DSemK.load1 (by kernel_rfl) hb22116 (k := 1) rfl ?_
              conv => whnf
              intro w22117 e22117
              conv => whnf
              refine IfB.eqf (by simp; done) ?_
              conv => whnf
              refine SemK.add (((k3 + 1 : Nat) : Int)) (by omega) (by omega) (by omega) ?_
              conv => whnf
              exact ⟨k3 + 1, by omega, rfl, by omega, (Ext.trans hX3 e22117)⟩
            · conv => whnf
              refine IfB.no (by omega) ?_
              conv => whnf
              exact ⟨rfl, (Ext.trans (Ext.trans (Ext.trans (Ext.trans (Ext.trans (Ext.trans (Ext.trans (Ext.trans (Ext.trans (Ext.trans (Ext.trans (Ext.trans (Ext.trans (Ext.trans (Ext.trans (Ext.trans (Ext.trans (Ext.trans (Ext.trans (Ext.trans (Ext.trans (Ext.but_trans (Ext.trans (Ext.trans (Ext.trans (Ext.trans (Ext.trans (Ext.trans (Ext.but_trans (Ext.but_trans (Ext.trans (Ext.trans e10 e12) e13) c14.but (Nat.le_trans (Below.size e10) g12)) c15.but (Nat.le_trans (Below.size (Ext.trans e10 e12)) g13)) e21) e28) e41) e54) e63) e65) c66.but (Nat.le_trans (Below.size (Ext.trans (Ext.trans (Ext.trans (Ext.trans (Ext.trans (Ext.but_trans (Ext.but_trans (Ext.trans (Ext.trans e10 e12) e13) c14.but (Nat.le_trans (Below.size e10) g12)) c15.but (Nat.le_trans (Below.size (Ext.trans e10 e12)) g13)) e21) e28) e41) e54) e63)) g65)) e72) e79) e87) e99) e111) e119) e126) e133) e135) e137) e139) e141) e143) e145) e147) hX) e2115) e2121) e2127) hX2) hX3)⟩
    · conv => whnf
      with_reducible refine IfB.ndec (fun h150 => ?_) (fun h150 => ?_)
      · conv => whnf
        exact ⟨rfl, (Ext.trans (Ext.trans (Ext.trans (Ext.trans (Ext.trans (Ext.trans (Ext.trans (Ext.trans (Ext.trans (Ext.trans (Ext.trans (Ext.trans (Ext.trans (Ext.trans (Ext.trans (Ext.but_trans (Ext.trans (Ext.trans (Ext.trans (Ext.trans (Ext.trans (Ext.trans (Ext.but_trans (Ext.but_trans (Ext.trans (Ext.trans e10 e12) e13) c14.but (Nat.le_trans (Below.size e10) g12)) c15.but (Nat.le_trans (Below.size (Ext.trans e10 e12)) g13)) e21) e28) e41) e54) e63) e65) c66.but (Nat.le_trans (Below.size (Ext.trans (Ext.trans (Ext.trans (Ext.trans (Ext.trans (Ext.but_trans (Ext.but_trans (Ext.trans (Ext.trans e10 e12) e13) c14.but (Nat.le_trans (Below.size e10) g12)) c15.but (Nat.le_trans (Below.size (Ext.trans e10 e12)) g13)) e21) e28) e41) e54) e63)) g65)) e72) e79) e87) e99) e111) e119) e126) e133) e135) e137) e139) e141) e143) e145) e147)⟩
      · have hTSz := hTS h150
        have hC1z := hC1 h150
        have hC2z := hC2 h150
        have hr40 := countTexts_len d5 r6
        have hf40 := countTexts_len d5 f7
        clear hTS hC1 hC2
        conv => whnf
        refine (hTSz _ (Ext.trans (Ext.trans (Ext.trans (Ext.trans (Ext.trans (Ext.trans (Ext.trans (Ext.trans (Ext.trans (Ext.trans (Ext.trans (Ext.trans (Ext.trans (Ext.trans (Ext.trans (Ext.but_trans (Ext.trans (Ext.trans (Ext.trans e41 e54) e63) e65) c66.but (Nat.le_trans (Below.size (Ext.trans (Ext.trans e41 e54) e63)) g65)) e72) e79) e87) e99) e111) e119) e126) e133) e135) e137) e139) e141) e143) e145) e147)).mono ?_
        rintro _ w2116 ⟨a12107, n12108, c12109, a22110, n22111, c22112, rfl, rfl, rfl, O2113, O2114, e2115⟩
        conv => whnf
        refine SemK.loadAgg (n := 2) (by kernel_rfl) ((B14.mod c15.but (neChg l12 g13 (Nat.le_refl _))).ext (Ext.trans (Ext.trans (Ext.trans (Ext.trans (Ext.trans (Ext.trans (Ext.trans (Ext.trans (Ext.trans (Ext.trans (Ext.trans (Ext.trans (Ext.trans (Ext.trans (Ext.trans (Ext.trans (Ext.but_trans (Ext.trans (Ext.trans (Ext.trans (Ext.trans (Ext.trans e21 e28) e41) e54) e63) e65) c66.but (Nat.le_trans (Below.size (Ext.trans (Ext.trans (Ext.trans (Ext.trans e21 e28) e41) e54) e63)) g65)) e72) e79) e87) e99) e111) e119) e126) e133) e135) e137) e139) e141) e143) e145) e147) e2115)).cells rfl ?_
        conv => whnf
        refine (hC1z _ (Ext.trans (Ext.trans (Ext.trans (Ext.trans (Ext.trans (Ext.trans (Ext.trans (Ext.trans (Ext.trans (Ext.trans (Ext.trans (Ext.trans (Ext.trans (Ext.trans (Ext.trans (Ext.trans (Ext.but_trans (Ext.trans (Ext.trans (Ext.trans (Ext.trans (Ext.trans (Ext.trans (Ext.but_trans (Ext.but_trans (Ext.trans e12 e13) c14.but g12) c15.but (Nat.le_trans (Below.size e12) g13)) e21) e28) e41) e54) e63) e65) c66.but (Nat.le_trans (Below.size (Ext.trans (Ext.trans (Ext.trans (Ext.trans (Ext.trans (Ext.but_trans (Ext.but_trans (Ext.trans e12 e13) c14.but g12) c15.but (Nat.le_trans (Below.size e12) g13)) e21) e28) e41) e54) e63)) g65)) e72) e79) e87) e99) e111) e119) e126) e133) e135) e137) e139) e141) e143) e145) e147) e2115)).mono ?_
        rintro _ w2122 ⟨a12117, n12118, c12119, rfl, rfl, O2120, e2121⟩
        conv => whnf
        refine SemK.loadAgg (n := 2) (by kernel_rfl) (B15.ext (Ext.trans (Ext.trans (Ext.trans (Ext.trans (Ext.trans (Ext.trans (Ext.trans (Ext.trans (Ext.trans (Ext.trans (Ext.trans (Ext.trans (Ext.trans (Ext.trans (Ext.trans (Ext.trans (Ext.trans (Ext.but_trans (Ext.trans (Ext.trans (Ext.trans (Ext.trans (Ext.trans e21 e28) e41) e54) e63) e65) c66.but (Nat.le_trans (Below.size (Ext.trans (Ext.trans (Ext.trans (Ext.trans e21 e28) e41) e54) e63)) g65)) e72) e79) e87) e99) e111) e119) e126) e133) e135) e137) e139) e141) e143) e145) e147) e2115) e2121)).cells rfl ?_
        conv => whnf
        refine (hC2z _ (Ext.trans (Ext.trans (Ext.trans (Ext.trans (Ext.trans (Ext.trans (Ext.trans (Ext.trans (Ext.trans (Ext.trans (Ext.trans (Ext.trans (Ext.trans (Ext.trans (Ext.trans (Ext.trans (Ext.trans (Ext.but_trans (Ext.trans (Ext.trans (Ext.trans (Ext.trans (Ext.trans (Ext.trans (Ext.but_trans (Ext.but_trans (Ext.trans e12 e13) c14.but g12) c15.but (Nat.le_trans (Below.size e12) g13)) e21) e28) e41) e54) e63) e65) c66.but (Nat.le_trans (Below.size (Ext.trans (Ext.trans (Ext.trans (Ext.trans (Ext.trans (Ext.but_trans (Ext.but_trans (Ext.trans e12 e13) c14.but g12) c15.but (Nat.le_trans (Below.size e12) g13)) e21) e28) e41) e54) e63)) g65)) e72) e79) e87) e99) e111) e119) e126) e133) e135) e137) e139) e141) e143) e145) e147) e2115) e2121)).mono ?_
        rintro _ w2128 ⟨a12123, n12124, c12125, rfl, rfl, O2126, e2127⟩
        conv => whnf
        refine IfB.eqf (by simp; done) ?_
        conv => whnf
        refine IfB.eqf (by simp; done) ?_
        conv => whnf
        refine LoopK.rule [36, 37, 39, 41, 43] (fun (k : Nat) vs w' => vs = [.slice a12107 (countTextsM d5 r6).1.length c12109, .slice a22110 (countTextsM d5 f7).1.length c22112, .slice a12117 (countTextsM d5 r6).1.length c12119, .slice a12123 (countTextsM d5 f7).1.length c12125, .int .i64 (k : Nat)] ∧ k ≤ (countTextsM d5 r6).1.length ∧ Ext w2128 w') (fun k => (countTextsM d5 r6).1.length - k) tab tabok (by kernel_rfl) 0 ⟨rfl, by omega, Ext.refl _⟩ ?_
        rintro k2 g2 _ w3000 ⟨rfl, hk2, hX2⟩
        rcases Nat.lt_or_ge k2 (countTextsM d5 r6).1.length with hkn2 | hkn2
        · obtain ⟨y2, hy2⟩ := get_of_lt (l := (countTextsM d5 r6).1) (k := k2) hkn2
          have hys2 : ((countTextsM d5 r6).1.map TTotal.sum)[k2]? = some y2.sum := by rw [List.getElem?_map, hy2]; rfl
          conv => whnf
          refine IfB.yes (by omega) ?_
          conv => whnf
          refine DrawK.det tabok mixed (by kernel_rfl) (by kernel_rfl) ?_
          conv => whnf
          obtain ⟨b22114, rfl⟩ := ((O2113.ext (Ext.trans (Ext.trans e2121 e2127) hX2))).some (by omega)
          have lb22114 : b22114 < w2116.heap.size := O2113.lt _ rfl
          refine DSemK.indexOwn (sz := 1) (by kernel_rfl) k2 rfl (by omega) ?_
          have hb22114 := Own.elem eI_len (O2113.ext (Ext.trans (Ext.trans e2121 e2127) hX2)) hys2
          conv => whnf
          refine DSemK.load0 (by kernel_rfl) hb22114 rfl ?_
          conv => whnf
          obtain ⟨b22116, rfl⟩ := ((O2120.ext (Ext.trans e2127 hX2))).some (by omega)
          have lb22116 : b22116 < w2122.heap.size := O2120.lt _ rfl
          refine DSemK.indexOwn (sz := 2) (by kernel_rfl) k2 rfl (by omega) ?_
          have hb22116 := Own.elem TTotal.enc_len (O2120.ext (Ext.trans e2127 hX2)) hy2
          conv => whnf
          refine DSemK.load1 (by kernel_rfl) hb22116 (k := 1) rfl ?_
          conv => whnf
          intro w22117 e22117
          conv => whnf
          refine IfB.eqf (by simp; done) ?_
          conv => whnf
          refine SemK.add (((k2 + 1 : Nat) : Int)) (by omega) (by omega) (by omega) ?_
          conv => whnf
          exact ⟨k2 + 1, by omega, rfl, by omega, (Ext.trans hX2 e22117)⟩
        · conv => whnf
          refine IfB.no (by omega) ?_
          conv => whnf
          refine LoopK.rule [37, 41, 44] (fun (k : Nat) vs w' => vs = [.slice a22110 (countTextsM d5 f7).1.length c22112, .slice a12123 (countTextsM d5 f7).1.length c12125, .int .i64 (k : Nat)] ∧ k ≤ (countTextsM d5 f7).1.length ∧ Ext w3000 w') (fun k => (countTextsM d5 f7).1.length - k) tab tabok (by kernel_rfl) 0 ⟨rfl, by omega, Ext.refl _⟩ ?_
          rintro k3 g3 _ w4000 ⟨rfl, hk3, hX3⟩
          rcases Nat.lt_or_ge k3 (countTextsM d5 f7).1.length with hkn3 | hkn3
          · obtain ⟨y3, hy3⟩ := get_of_lt (l := (countTextsM d5 f7).1) (k := k3) hkn3
            have hys3 : ((countTextsM d5 f7).1.map TTotal.sum)[k3]? = some y3.sum := by rw [List.getElem?_map, hy3]; rfl
            conv => whnf
            refine IfB.yes (by omega) ?_
            conv => whnf
            refine DrawK.det tabok mixed (by kernel_rfl) (by kernel_rfl) ?_
            conv => whnf
            obtain ⟨b22114, rfl⟩ := ((O2114.ext (Ext.trans (Ext.trans (Ext.trans e2121 e2127) hX2) hX3))).some (by omega)
            have lb22114 : b22114 < w2116.heap.size := O2114.lt _ rfl
            refine DSemK.indexOwn (sz := 1) (by kernel_rfl) k3 rfl (by omega) ?_
            have hb22114 := Own.elem eI_len (O2114.ext (Ext.trans (Ext.trans (Ext.trans e2121 e2127) hX2) hX3)) hys3
            conv => whnf
            refine DSemK.load0 (by kernel_rfl) hb22114 rfl ?_
            conv => whnf
            obtain ⟨b22116, rfl⟩ := ((O2126.ext (Ext.trans hX2 hX3))).some (by omega)
            have lb22116 : b22116 < w2128.heap.size := O2126.lt _ rfl
            refine DSemK.indexOwn (sz := 2) (by kernel_rfl) k3 rfl (by omega) ?_
            have hb22116 := Own.elem TTotal.enc_len (O2126.ext (Ext.trans hX2 hX3)) hy3
            conv => whnf
            refine DSemK.load1 (by kernel_rfl) hb22116 (k := 1) rfl ?_
            conv => whnf
            intro w22117 e22117
            conv => whnf
            refine IfB.eqf (by simp; done) ?_
            conv => whnf
            refine SemK.add (((k3 + 1 : Nat) : Int)) (by omega) (by omega) (by omega) ?_
            conv => whnf
            exact ⟨k3 + 1, by omega, rfl, by omega, (Ext.trans hX3 e22117)⟩
          · conv => whnf
            refine IfB.no (by omega) ?_
            conv => whnf
            exact ⟨rfl, (Ext.trans (Ext.trans (Ext.trans (Ext.trans (Ext.trans (Ext.trans (Ext.trans (Ext.trans (Ext.trans (Ext.trans (Ext.trans (Ext.trans (Ext.trans (Ext.trans (Ext.trans (Ext.trans (Ext.trans (Ext.trans (Ext.trans (Ext.trans (Ext.but_trans (Ext.trans (Ext.trans (Ext.trans (Ext.trans (Ext.trans (Ext.trans (Ext.but_trans (Ext.but_trans (Ext.trans (Ext.trans e10 e12) e13) c14.but (Nat.le_trans (Below.size e10) g12)) c15.but (Nat.le_trans (Below.size (Ext.trans e10 e12)) g13)) e21) e28) e41) e54) e63) e65) c66.but (Nat.le_trans (Below.size (Ext.trans (Ext.trans (Ext.trans (Ext.trans (Ext.trans (Ext.but_trans (Ext.but_trans (Ext.trans (Ext.trans e10 e12) e13) c14.but (Nat.le_trans (Below.size e10) g12)) c15.but (Nat.le_trans (Below.size (Ext.trans e10 e12)) g13)) e21) e28) e41) e54) e63)) g65)) e72) e79) e87) e99) e111) e119) e126) e133) e135) e137) e139) e141) e143) e145) e147) e2115) e2121) e2127) hX2) hX3)⟩
set_option maxRecDepth 100000 in
theorem open_Census {H : Type} {enc : TypeId × Value → H} {base : Nat} (W : World) (args : List Value) (ds : List (DataW H)) (p : List MemPlace) (hA : DataW.TrodAll enc Tryz.prog W 0 (fun _ => true) true (Tryz.f3).params.toList args ds p)
    (hv : ∀ (j : Nat) t v, (Tryz.f3).params[j]? = some t → args[j]? = some v → Value.okWide Tryz.prog W .any base t v) (hL : laidMet Tryz.prog Rows.fnCensusRow.laid W) (_hsh : W.ShapedOpen Tryz.prog) : Does Tryz.prog 3 args W (fun v w' => v = .bool true ∧ Ext W w') := by
  have e : (Tryz.f3).params.toList = [22] := rfl
  rw [e] at hA
  obtain ⟨v0, vs0, d0, ds0, p0, q0, rfl, rfl, rfl, g0, r0⟩ := trodAll_cons hA
  obtain ⟨rfl, rfl, rfl⟩ := trodAll_nil r0
  obtain ⟨a0, n0, c0, x0, rfl, h0, ok0⟩ := open_arr (encα := eB) (ok := fun _ => True) (sz := 1) Tryz.underlying22 (by kernel_rfl) (by omega) (fun n cs x h => open_byte Tryz.underlying5 h) eB_len (hv 0 22 v0 (by rw [← Array.getElem?_toList, e]; rfl) rfl) g0
  exact law_Census h0 (Pow.of_laid hL.tail.tail)
set_option maxRecDepth 100000 in
theorem FnCensus_lifted (os : Os) (started : os.Started) (H : Type) (enc : TypeId × Value → H) (F : Stop.Interp) :
    ReturnsInHanded {} Tryz.checked os 3 .any ((OpenSpec.ofChange Rows.fnCensusSpec).preRow enc Tryz.prog Tryz.f3 Rows.fnCensusRow.domain false Rows.fnCensusRow.laid) (((OpenSpec.ofChange Rows.fnCensusSpec).at F).post enc Tryz.prog Tryz.f3 false true false false) := by
  refine returnsInHanded_of_row (C := Tryz.checked) (s := OpenSpec.ofChange Rows.fnCensusSpec) law_own started (by kernel_rfl) Tryz.func3
    (witness_row_sh (enc := enc) (C := Tryz.checked) (World.laidAll Tryz.prog os Rows.fnCensusRow.laid) #[.slice none 0 0] 8 (World.laidAll_os _ _ _) (World.shaped_of_ZipB (by kernel_rfl) (by kernel_rfl)) (by kernel_rfl) (by kernel_rfl) (by kernel_rfl)
      (by rw [MakeChecks.laidMetH_plain _ _ _ (by kernel_rfl)]; exact laidMet_laidAll _ (by kernel_rfl) (by kernel_rfl))) ?_
  intro W base args ds gs before hval hW _ _ _ hL hsh _
  rw [MakeChecks.laidMetH_plain _ _ _ (by kernel_rfl)] at hL
  exact law_contract_at (P := Tryz.prog) (fn := Tryz.f3) (s := Rows.fnCensusSpec) rfl rfl Tryz.underlying4 law_laid (by kernel_rfl)
    (fun ds h => match ds, h with | [d0], _ => ⟨rfl, rfl, rfl⟩) W args ds gs before (fun p hA hv => open_Census W args.toList ds p hA hv hL hsh) hval hW
theorem FnCensus_closed : joinedFacts Tryz.prog 3 Tryz.f3 (OpenSpec.ofChange Rows.fnCensusSpec).bare Rows.fnCensusRow = true := by
  unfold joinedFacts
  exact andI (andI (andI (andI (andI (andI (andI (andI (by kernel_rfl) seat_heard) seat_enter) seat_lifts) seat_make) (by kernel_rfl)) (by kernel_rfl)) (by kernel_rfl)) (by kernel_rfl)
theorem FnCensus_named : Tryz.prog.funcNamed Rows.fnCensusRow.func = some 3 := by kernel_rfl
theorem FnCensus_row : Rows.FnCensusSaid :=
  OpenClaim.holds_of_cond 3 Tryz.f3 rfl rfl rfl rfl rfl rfl rfl ⟨rfl, rfl, rfl, rfl, rfl⟩ rfl rfl rfl rfl rfl FnCensus_named Tryz.func3 FnCensus_closed
    (of_decide_eq_true (by kernel_rfl)) (by unfold Func.isWrapper; first | (rw [if_pos (by decide +kernel)]; kernel_rfl) | (rw [if_neg (by decide +kernel)]; exact ⟨rfl, rfl⟩))
    (fun os started H enc _ F => by rw [OpenClaim.pre_eq_preRow]; exact FnCensus_lifted os started H enc F)
theorem FnCensus_goes : false = Rows.fnCensusRow.goesBy Tryz.pinned.checked.prog := by kernel_rfl
theorem FnCensus_wf : Rows.fnCensusRow.wfByText (OpenSpec.ofChange Rows.fnCensusSpec) = true := by kernel_rfl
theorem FnCensus_plain (f : FuncId) (fn : Func) (hf : Tryz.pinned.checked.prog.funcNamed Rows.fnCensusRow.func = some f) (hfn : Tryz.pinned.checked.prog.funcs[f]? = some fn) :
    true = Tryz.pinned.checked.prog.looks [] ∧ ∀ (j : Nat) t, fn.params[j]? = some t → Tryz.pinned.checked.prog.wantsStandIn t = false := by
  obtain rfl : f = 3 := Option.some.inj (FnCensus_named.symm.trans hf) |>.symm
  obtain rfl : fn = Tryz.f3 := (Option.some.inj (Tryz.func3.symm.trans hfn)).symm
  refine ⟨seat_looks, fun j t ht => ?_⟩
  have hall : (Tryz.f3.params.toList.all fun u => !Tryz.prog.wantsStandIn u) = true := by kernel_rfl
  exact (show Tryz.prog.wantsStandIn t = false by simpa using List.all_eq_true.1 hall t (by simpa using Array.mem_of_getElem? ht))
theorem FnCensus_holds : Rows.FnCensusCardSaid :=
  Claim7.holds_tied_plain_at .later [] _ _ _ _ FnCensus_row (fun _ h => by cases h) FnCensus_wf (fun _ h => by cases h) fnCensus_row_tie rfl ⟨rfl, rfl⟩ seat_main rfl FnCensus_plain FnCensus_goes

end Go.Proofs.YtfgbijddjoojbaaGreatDoor
