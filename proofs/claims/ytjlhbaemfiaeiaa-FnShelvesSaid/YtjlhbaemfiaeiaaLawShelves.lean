/- The statement on the law Shelves is proved, as it is given: for every input the law returns true and each argument reads as before. No conditions. -/
import Derived.Test.YtjlhbaemfiaeiaaDrawX
import Derived.Test.YtjlhbaemfiaeiaaDrawB
import Derived.Test.YtjlhbaemfiaeiaaKept
import Derived.Test.YtjlhbaemfiaeiaaPack
import Derived.Test.YtjlhbaemfiaeiaaShelvesL
import Derived.Test.YtjlhbaemfiaeiaaVcByte
import Derived.Test.YtjlhbaemfiaeiaaVcApp
import Derived.Test.YtjlhbaemfiaeiaaLiftBase
namespace Go.Proofs.Ytjlhbaemfiaeiaa
open Go Go.RowKit Go.Vc Go.M Go.ChangeShapes Go.WideShapes Go.ChangeAt
open Go.ChangeMaps (open_string)
set_option maxRecDepth 100000 in
set_option linter.unusedVariables false in
theorem law_Shelves {w : World} {a0 : Option Addr} {n0 c0 : Nat} {x0 : List UInt8} (h0 : Arr eB 1 w a0 n0 x0) : Does Try.prog 4 [.slice a0 n0 c0] w (fun v w' => v = .bool true ∧ Ext w w') := by
  have len0 := h0.len
  refine Does.of_vc tabok Try.func4 rfl rfl rfl (by kernel_rfl) ?_; conv => whnf
  refine (laws_f6big _ _ _ _).mono ?_
  rintro _ _ ⟨rfl, rfl⟩
  conv => whnf
  with_reducible refine IfB.dec (fun h2 => ?_) (fun h2 => ?_)
  · conv => whnf
    exact ⟨rfl, Ext.refl _⟩
  · conv => whnf
    refine (spec_DrawPackBoxes h0).mono ?_
    rintro _ w14 ⟨a'3, n'4, c'5, xs6, y7, rfl, q8, q9, q10, N11, O12, e13⟩
    have E14 := e13
    have lnO12 := O12.1
    conv => whnf
    refine (impl_PackBoxes (O12.arr TBox.enc_len) q10 _ O12.lt).mono ?_
    rintro _ w21 ⟨a'15, n'16, c'17, rfl, N18, O19, e20⟩
    have E21 := (Ext.trans e13 e20)
    have lnO19 := O19.1
    conv => whnf
    refine (spec_PackBoxes ((O12.ext e20).arr TBox.enc_len) q10 _).mono ?_
    rintro _ w28 ⟨a'22, n'23, c'24, rfl, N25, O26, e27⟩
    have E28 := (Ext.trans E21 e27)
    have lnO26 := O26.1
    conv => whnf
    refine (impl_ShelvesNeeded ((O12.ext (Ext.trans e20 e27)).arr TBox.enc_len) q10 _).mono ?_
    rintro _ w30 ⟨rfl, e29⟩
    have E30 := (Ext.trans E28 e29)
    conv => whnf
    refine (spec_ShelvesNeeded ((O12.ext (Ext.trans (Ext.trans e20 e27) e29)).arr TBox.enc_len) q10 _).mono ?_
    rintro _ w32 ⟨rfl, e31⟩
    have E32 := (Ext.trans E30 e31)
    conv => whnf
    refine (spec_DrawPulpBoxes (h0.ext E32)).mono ?_
    rintro _ w44 ⟨a'33, n'34, c'35, xs36, y37, rfl, q38, q39, q40, N41, O42, e43⟩
    obtain ⟨hpk1, hpk2⟩ := pulp_ok q40 y37
    have E44 := (Ext.trans E32 e43)
    have lnO42 := O42.1
    conv => whnf
    refine (impl_PulpBoxes (O42.arr TBox.enc_len) q40 _).mono ?_
    rintro _ w57 ⟨a145, n146, c147, a248, n249, c250, rfl, N51, N52, q53, O54, O55, e56⟩
    have E57 := (Ext.trans E44 e56)
    have lnO54 := O54.1
    have lnO55 := O55.1
    conv => whnf
    refine (spec_PulpBoxes ((O42.ext e56).arr TBox.enc_len) q40 _).mono ?_
    rintro _ w70 ⟨a158, n159, c160, a261, n262, c263, rfl, N64, N65, q66, O67, O68, e69⟩
    have E70 := (Ext.trans E57 e69)
    have lnO67 := O67.1
    have lnO68 := O68.1
    conv => whnf
    refine (impl_CardsKept ((O42.ext (Ext.trans e56 e69)).arr TBox.enc_len) q40 _).mono ?_
    rintro _ w72 ⟨rfl, e71⟩
    have E72 := (Ext.trans E70 e71)
    conv => whnf
    refine (spec_CardsKept ((O42.ext (Ext.trans (Ext.trans e56 e69) e71)).arr TBox.enc_len) q40 _).mono ?_
    rintro _ w74 ⟨rfl, e73⟩
    have E74 := (Ext.trans E72 e73)
    conv => whnf
    refine IfB.eqf (by simp; done) ?_
    conv => whnf
    refine (laws_f6ints ((O19.ext (Ext.trans (Ext.trans (Ext.trans (Ext.trans (Ext.trans (Ext.trans (Ext.trans e27 e29) e31) e43) e56) e69) e71) e73)).arr eI_len) ((O26.ext (Ext.trans (Ext.trans (Ext.trans (Ext.trans (Ext.trans (Ext.trans e29 e31) e43) e56) e69) e71) e73)).arr eI_len)).mono ?_
    rintro _ w76 ⟨rfl, e75⟩
    have E76 := (Ext.trans E74 e75)
    conv => whnf
    refine IfB.eqf (by simp; done) ?_
    conv => whnf
    refine IfB.eqf (by simp; done) ?_
    conv => whnf
    refine IfB.eqf (by simp; done) ?_
    conv => whnf
    refine IfB.eqf (by simp; done) ?_
    conv => whnf
    refine (spec_SameBoxes ((O54.ext (Ext.trans (Ext.trans (Ext.trans e69 e71) e73) e75)).arr TBox.enc_len) ((O67.ext (Ext.trans (Ext.trans e71 e73) e75)).arr TBox.enc_len) hpk1 hpk1).mono ?_
    rintro _ w78 ⟨rfl, e77⟩
    have E78 := (Ext.trans E76 e77)
    conv => whnf
    refine IfB.eqf (by simp; done) ?_
    conv => whnf
    refine (spec_SameBoxes ((O55.ext (Ext.trans (Ext.trans (Ext.trans (Ext.trans e69 e71) e73) e75) e77)).arr TBox.enc_len) ((O68.ext (Ext.trans (Ext.trans (Ext.trans e71 e73) e75) e77)).arr TBox.enc_len) hpk2 hpk2).mono ?_
    rintro _ w80 ⟨rfl, e79⟩
    have E80 := (Ext.trans E78 e79)
    conv => whnf
    refine IfB.eqf (by simp; done) ?_
    conv => whnf
    refine IfB.eqf (by simp; done) ?_
    conv => whnf
    refine IfB.eqf (by simp; done) ?_
    conv => whnf
    with_reducible refine IfB.dec (fun h81 => ?_) (fun h81 => ?_)
    · have hck := cardsKept_again (xs := xs36) (y := y37) (by omega)
      have hck2 : (cardsKeptM xs36 y37).2 = 0 := by simp [cardsKeptM, (by omega : keptCode xs36 y37 = 0)]
      have hpl := pulp_lens (xs := xs36) (y := y37) (by omega)
      have hCK := impl_CardsKept (c := c147) ((O54.ext (Ext.trans (Ext.trans (Ext.trans (Ext.trans (Ext.trans e69 e71) e73) e75) e77) e79)).arr TBox.enc_len) hpk1 y37
      rw [hck] at hCK
      conv => whnf
      refine hCK.mono ?_
      rintro _ w83 ⟨rfl, e82⟩
      have E83 := (Ext.trans E80 e82)
      conv => whnf
      refine IfB.eqf (by simp [hck2]; done) ?_
      conv => whnf
      refine IfB.eqf (by simp; done) ?_
      conv => whnf
      refine SemK.add (((n146 + n249 : Nat) : Int)) (by omega) (by omega) (by omega) ?_
      conv => whnf
      refine IfB.eqf (by simp; omega) ?_
      conv => whnf
      with_reducible refine IfB.ndec (fun h87 => ?_) (fun h87 => ?_)
      · conv => whnf
        exact ⟨rfl, E83⟩
      · conv => whnf
        obtain ⟨hl3, hm3, hs3⟩ := pack_fits (xs := xs6) (r := y7) (by omega)
        obtain ⟨hb3, hr31, hr32, hc3, _, _⟩ := room_zero (xs := xs6) (r := y7) (by omega)
        have h40 := (boxesB_mem hb3).1
        refine LoopK.rule [3, 4, 7, 9, 27, 28] (fun (j : Nat) vs w' => ∃ mx : Int, vs = [.slice a'3 n'4 c'5, .int .i64 y7, .slice a'22 n'23 c'24, .int .i64 (shelvesM xs6 y7).1, .int .i64 mx, .int .i64 j] ∧ j ≤ n'23 ∧ -1 ≤ mx ∧ mx < 40 ∧ (∀ i, i < j → (packM xs6 y7).1.getD i (-1) ≤ mx) ∧ Ext w83 w') (fun j => n'23 - j) tab tabok (by kernel_rfl) 0 ⟨-1, rfl, by omega, by omega, by omega, fun i hi => by omega, Ext.refl _⟩ ?_
        rintro j g _ wA ⟨mx, rfl, hj, hmx0, hmx1, hmxa, hEA⟩
        have XA : Ext w wA := Ext.trans E83 hEA
        rcases Nat.lt_or_ge j n'23 with hjn | hjn
        · obtain ⟨v, hv⟩ := get_of_lt (l := (packM xs6 y7).1) (k := j) (by omega)
          have hvd : (packM xs6 y7).1.getD j (-1) = v := by simp [hv]
          have hvb := hm3 j (by omega)
          rw [hvd] at hvb
          conv => whnf
          refine IfB.yes (by omega) ?_
          conv => whnf
          obtain ⟨b2071, rfl⟩ := ((O26.ext (Ext.trans (Ext.trans (Ext.trans (Ext.trans (Ext.trans (Ext.trans (Ext.trans (Ext.trans (Ext.trans (Ext.trans (Ext.trans e29 e31) e43) e56) e69) e71) e73) e75) e77) e79) e82) hEA))).some (by omega)
          have lb2071 : b2071 < w28.heap.size := O26.lt _ rfl
          refine SemK.indexOwn (sz := 1) (by kernel_rfl) j rfl (by omega) ?_
          have hb2071 := Own.elem eI_len (O26.ext (Ext.trans (Ext.trans (Ext.trans (Ext.trans (Ext.trans (Ext.trans (Ext.trans (Ext.trans (Ext.trans (Ext.trans (Ext.trans e29 e31) e43) e56) e69) e71) e73) e75) e77) e79) e82) hEA)) hv
          conv => whnf
          refine SemK.load0 (by kernel_rfl) hb2071 rfl ?_
          conv => whnf
          refine SemK.max2 ?_
          conv => whnf
          refine SemK.add (((j + 1 : Nat) : Int)) (by omega) (by omega) (by omega) ?_
          conv => whnf
          refine ⟨j + 1, by omega, _, rfl, by omega, by omega, by omega, ?_, hEA⟩
          · intro i hi
            rcases Nat.lt_succ_iff_lt_or_eq.1 hi with h | rfl
            · have := hmxa i h; omega
            · rw [hvd]; omega
        · have hjj : j = n'23 := by omega
          have hK := shelves_le (xs := xs6) (r := y7) (by omega) (K := (mx + 1).toNat) (fun i hi => by have := hmxa i (by omega); omega)
          conv => whnf
          refine IfB.no (by omega) ?_
          conv => whnf
          refine LoopK.rule [3, 4, 7, 9, 27, 29] (fun (q : Nat) vs w' => vs = [.slice a'3 n'4 c'5, .int .i64 y7, .slice a'22 n'23 c'24, .int .i64 (shelvesM xs6 y7).1, .int .i64 mx, .int .i64 q] ∧ (q : Int) ≤ mx + 1 ∧ Ext wA w') (fun q => (mx + 1).toNat - q) tab tabok (by kernel_rfl) 0 ⟨rfl, by omega, Ext.refl _⟩ ?_
          rintro q g _ wB ⟨rfl, hq, hEB⟩
          have XB : Ext w wB := Ext.trans XA hEB
          conv => whnf
          with_reducible refine IfB.dec (fun h2070 => ?_) (fun h2070 => ?_)
          · conv => whnf
            have hcell : ∀ i, i < n'23 → 0 ≤ cell xs6 (packM xs6 y7).1 (q : Int) i ∧ cell xs6 (packM xs6 y7).1 (q : Int) i ≤ 1000000 := by
              intro i hi
              obtain ⟨x, hx⟩ := get_of_lt (l := xs6) (k := i) (by omega)
              have := hc3 x (List.mem_of_getElem? hx)
              have hco : cardsOf xs6 i = x.cards := by simp [cardsOf, hx]
              unfold cell
              split <;> omega
            refine LoopK.rule [3, 4, 7, 9, 27, 29, 30, 31] (fun (i : Nat) vs w' => vs = [.slice a'3 n'4 c'5, .int .i64 y7, .slice a'22 n'23 c'24, .int .i64 (shelvesM xs6 y7).1, .int .i64 mx, .int .i64 q, .int .i64 (sumR (cell xs6 (packM xs6 y7).1 (q : Int)) i), .int .i64 i] ∧ i ≤ n'23 ∧ Ext wB w') (fun i => n'23 - i) tab tabok (by kernel_rfl) 0 ⟨rfl, by omega, Ext.refl _⟩ ?_
            rintro i g _ wC ⟨rfl, hi, hEC⟩
            have XC : Ext w wC := Ext.trans XB hEC
            have hsb := sumR_b (f := cell xs6 (packM xs6 y7).1 (q : Int)) (M := 1000000) i (fun q' hq' => hcell q' (by omega))
            rcases Nat.lt_or_ge i n'23 with hin | hin
            · obtain ⟨v, hv⟩ := get_of_lt (l := (packM xs6 y7).1) (k := i) (by omega)
              obtain ⟨x, hx⟩ := get_of_lt (l := xs6) (k := i) (by omega)
              have hxc := hc3 x (List.mem_of_getElem? hx)
              by_cases hvq : v = (q : Int)
              · have hsu : sumR (cell xs6 (packM xs6 y7).1 (q : Int)) (i + 1) = sumR (cell xs6 (packM xs6 y7).1 (q : Int)) i + x.cards := by
                  rw [sumR_succ]
                  simp [cell, hv, hvq, cardsOf, hx]
                conv => whnf
                refine IfB.yes (by omega) ?_
                conv => whnf
                obtain ⟨b2072, rfl⟩ := ((O26.ext (Ext.trans (Ext.trans (Ext.trans (Ext.trans (Ext.trans (Ext.trans (Ext.trans (Ext.trans (Ext.trans (Ext.trans (Ext.trans (Ext.trans (Ext.trans e29 e31) e43) e56) e69) e71) e73) e75) e77) e79) e82) hEA) hEB) hEC))).some (by omega)
                have lb2072 : b2072 < w28.heap.size := O26.lt _ rfl
                refine SemK.indexOwn (sz := 1) (by kernel_rfl) i rfl (by omega) ?_
                have hb2072 := Own.elem eI_len (O26.ext (Ext.trans (Ext.trans (Ext.trans (Ext.trans (Ext.trans (Ext.trans (Ext.trans (Ext.trans (Ext.trans (Ext.trans (Ext.trans (Ext.trans (Ext.trans e29 e31) e43) e56) e69) e71) e73) e75) e77) e79) e82) hEA) hEB) hEC)) hv
                conv => whnf
                refine SemK.load0 (by kernel_rfl) hb2072 rfl ?_
                conv => whnf
                refine IfB.yes (by omega) ?_
                conv => whnf
                obtain ⟨b2074, rfl⟩ := ((O12.ext (Ext.trans (Ext.trans (Ext.trans (Ext.trans (Ext.trans (Ext.trans (Ext.trans (Ext.trans (Ext.trans (Ext.trans (Ext.trans (Ext.trans (Ext.trans (Ext.trans (Ext.trans e20 e27) e29) e31) e43) e56) e69) e71) e73) e75) e77) e79) e82) hEA) hEB) hEC))).some (by omega)
                have lb2074 : b2074 < w14.heap.size := O12.lt _ rfl
                refine SemK.indexOwn (sz := 5) (by kernel_rfl) i rfl (by omega) ?_
                have hb2074 := Own.elem TBox.enc_len (O12.ext (Ext.trans (Ext.trans (Ext.trans (Ext.trans (Ext.trans (Ext.trans (Ext.trans (Ext.trans (Ext.trans (Ext.trans (Ext.trans (Ext.trans (Ext.trans (Ext.trans (Ext.trans e20 e27) e29) e31) e43) e56) e69) e71) e73) e75) e77) e79) e82) hEA) hEB) hEC)) hx
                conv => whnf
                refine SemK.load1 (by kernel_rfl) hb2074 (k := 1) rfl ?_
                conv => whnf
                refine SemK.add (sumR (cell xs6 (packM xs6 y7).1 (q : Int)) (i + 1)) (by omega) (by omega) (by omega) ?_
                conv => whnf
                refine SemK.add (((i + 1 : Nat) : Int)) (by omega) (by omega) (by omega) ?_
                conv => whnf
                exact ⟨i + 1, by omega, rfl, by omega, hEC⟩
              · have hsu : sumR (cell xs6 (packM xs6 y7).1 (q : Int)) (i + 1) = sumR (cell xs6 (packM xs6 y7).1 (q : Int)) i := by
                  rw [sumR_succ]
                  simp [cell, hv, hvq]
                conv => whnf
                refine IfB.yes (by omega) ?_
                conv => whnf
                obtain ⟨b2072, rfl⟩ := ((O26.ext (Ext.trans (Ext.trans (Ext.trans (Ext.trans (Ext.trans (Ext.trans (Ext.trans (Ext.trans (Ext.trans (Ext.trans (Ext.trans (Ext.trans (Ext.trans e29 e31) e43) e56) e69) e71) e73) e75) e77) e79) e82) hEA) hEB) hEC))).some (by omega)
                have lb2072 : b2072 < w28.heap.size := O26.lt _ rfl
                refine SemK.indexOwn (sz := 1) (by kernel_rfl) i rfl (by omega) ?_
                have hb2072 := Own.elem eI_len (O26.ext (Ext.trans (Ext.trans (Ext.trans (Ext.trans (Ext.trans (Ext.trans (Ext.trans (Ext.trans (Ext.trans (Ext.trans (Ext.trans (Ext.trans (Ext.trans e29 e31) e43) e56) e69) e71) e73) e75) e77) e79) e82) hEA) hEB) hEC)) hv
                conv => whnf
                refine SemK.load0 (by kernel_rfl) hb2072 rfl ?_
                conv => whnf
                refine IfB.no (by omega) ?_
                conv => whnf
                refine SemK.add (((i + 1 : Nat) : Int)) (by omega) (by omega) (by omega) ?_
                conv => whnf
                refine ⟨i + 1, by omega, ?_, by omega, hEC⟩
                rw [hsu]
                rfl
            · have hie : i = n'23 := by omega
              have hfin := hs3 (q : Int)
              rw [show xs6.length = i by omega] at hfin
              conv => whnf
              refine IfB.no (by omega) ?_
              conv => whnf
              refine IfB.no (by omega) ?_
              conv => whnf
              refine SemK.add (((q + 1 : Nat) : Int)) (by omega) (by omega) (by omega) ?_
              conv => whnf
              exact ⟨q + 1, by omega, rfl, by omega, Ext.trans hEB hEC⟩
          · conv => whnf
            refine SemK.add _ rfl (by omega) (by omega) ?_
            conv => whnf
            exact ⟨by rw [decide_eq_true (by omega)], XB⟩
    · conv => whnf
      with_reducible refine IfB.ndec (fun h88 => ?_) (fun h88 => ?_)
      · conv => whnf
        exact ⟨rfl, E80⟩
      · conv => whnf
        obtain ⟨hl3, hm3, hs3⟩ := pack_fits (xs := xs6) (r := y7) (by omega)
        obtain ⟨hb3, hr31, hr32, hc3, _, _⟩ := room_zero (xs := xs6) (r := y7) (by omega)
        have h40 := (boxesB_mem hb3).1
        refine LoopK.rule [3, 4, 7, 9, 27, 28] (fun (j : Nat) vs w' => ∃ mx : Int, vs = [.slice a'3 n'4 c'5, .int .i64 y7, .slice a'22 n'23 c'24, .int .i64 (shelvesM xs6 y7).1, .int .i64 mx, .int .i64 j] ∧ j ≤ n'23 ∧ -1 ≤ mx ∧ mx < 40 ∧ (∀ i, i < j → (packM xs6 y7).1.getD i (-1) ≤ mx) ∧ Ext w80 w') (fun j => n'23 - j) tab tabok (by kernel_rfl) 0 ⟨-1, rfl, by omega, by omega, by omega, fun i hi => by omega, Ext.refl _⟩ ?_
        rintro j g _ wA ⟨mx, rfl, hj, hmx0, hmx1, hmxa, hEA⟩
        have XA : Ext w wA := Ext.trans E80 hEA
        rcases Nat.lt_or_ge j n'23 with hjn | hjn
        · obtain ⟨v, hv⟩ := get_of_lt (l := (packM xs6 y7).1) (k := j) (by omega)
          have hvd : (packM xs6 y7).1.getD j (-1) = v := by simp [hv]
          have hvb := hm3 j (by omega)
          rw [hvd] at hvb
          conv => whnf
          refine IfB.yes (by omega) ?_
          conv => whnf
          obtain ⟨b3187, rfl⟩ := ((O26.ext (Ext.trans (Ext.trans (Ext.trans (Ext.trans (Ext.trans (Ext.trans (Ext.trans (Ext.trans (Ext.trans (Ext.trans e29 e31) e43) e56) e69) e71) e73) e75) e77) e79) hEA))).some (by omega)
          have lb3187 : b3187 < w28.heap.size := O26.lt _ rfl
          refine SemK.indexOwn (sz := 1) (by kernel_rfl) j rfl (by omega) ?_
          have hb3187 := Own.elem eI_len (O26.ext (Ext.trans (Ext.trans (Ext.trans (Ext.trans (Ext.trans (Ext.trans (Ext.trans (Ext.trans (Ext.trans (Ext.trans e29 e31) e43) e56) e69) e71) e73) e75) e77) e79) hEA)) hv
          conv => whnf
          refine SemK.load0 (by kernel_rfl) hb3187 rfl ?_
          conv => whnf
          refine SemK.max2 ?_
          conv => whnf
          refine SemK.add (((j + 1 : Nat) : Int)) (by omega) (by omega) (by omega) ?_
          conv => whnf
          refine ⟨j + 1, by omega, _, rfl, by omega, by omega, by omega, ?_, hEA⟩
          · intro i hi
            rcases Nat.lt_succ_iff_lt_or_eq.1 hi with h | rfl
            · have := hmxa i h; omega
            · rw [hvd]; omega
        · have hjj : j = n'23 := by omega
          have hK := shelves_le (xs := xs6) (r := y7) (by omega) (K := (mx + 1).toNat) (fun i hi => by have := hmxa i (by omega); omega)
          conv => whnf
          refine IfB.no (by omega) ?_
          conv => whnf
          refine LoopK.rule [3, 4, 7, 9, 27, 29] (fun (q : Nat) vs w' => vs = [.slice a'3 n'4 c'5, .int .i64 y7, .slice a'22 n'23 c'24, .int .i64 (shelvesM xs6 y7).1, .int .i64 mx, .int .i64 q] ∧ (q : Int) ≤ mx + 1 ∧ Ext wA w') (fun q => (mx + 1).toNat - q) tab tabok (by kernel_rfl) 0 ⟨rfl, by omega, Ext.refl _⟩ ?_
          rintro q g _ wB ⟨rfl, hq, hEB⟩
          have XB : Ext w wB := Ext.trans XA hEB
          conv => whnf
          with_reducible refine IfB.dec (fun h3535 => ?_) (fun h3535 => ?_)
          · conv => whnf
            have hcell : ∀ i, i < n'23 → 0 ≤ cell xs6 (packM xs6 y7).1 (q : Int) i ∧ cell xs6 (packM xs6 y7).1 (q : Int) i ≤ 1000000 := by
              intro i hi
              obtain ⟨x, hx⟩ := get_of_lt (l := xs6) (k := i) (by omega)
              have := hc3 x (List.mem_of_getElem? hx)
              have hco : cardsOf xs6 i = x.cards := by simp [cardsOf, hx]
              unfold cell
              split <;> omega
            refine LoopK.rule [3, 4, 7, 9, 27, 29, 30, 31] (fun (i : Nat) vs w' => vs = [.slice a'3 n'4 c'5, .int .i64 y7, .slice a'22 n'23 c'24, .int .i64 (shelvesM xs6 y7).1, .int .i64 mx, .int .i64 q, .int .i64 (sumR (cell xs6 (packM xs6 y7).1 (q : Int)) i), .int .i64 i] ∧ i ≤ n'23 ∧ Ext wB w') (fun i => n'23 - i) tab tabok (by kernel_rfl) 0 ⟨rfl, by omega, Ext.refl _⟩ ?_
            rintro i g _ wC ⟨rfl, hi, hEC⟩
            have XC : Ext w wC := Ext.trans XB hEC
            have hsb := sumR_b (f := cell xs6 (packM xs6 y7).1 (q : Int)) (M := 1000000) i (fun q' hq' => hcell q' (by omega))
            rcases Nat.lt_or_ge i n'23 with hin | hin
            · obtain ⟨v, hv⟩ := get_of_lt (l := (packM xs6 y7).1) (k := i) (by omega)
              obtain ⟨x, hx⟩ := get_of_lt (l := xs6) (k := i) (by omega)
              have hxc := hc3 x (List.mem_of_getElem? hx)
              by_cases hvq : v = (q : Int)
              · have hsu : sumR (cell xs6 (packM xs6 y7).1 (q : Int)) (i + 1) = sumR (cell xs6 (packM xs6 y7).1 (q : Int)) i + x.cards := by
                  rw [sumR_succ]
                  simp [cell, hv, hvq, cardsOf, hx]
                conv => whnf
                refine IfB.yes (by omega) ?_
                conv => whnf
                obtain ⟨b5756, rfl⟩ := ((O26.ext (Ext.trans (Ext.trans (Ext.trans (Ext.trans (Ext.trans (Ext.trans (Ext.trans (Ext.trans (Ext.trans (Ext.trans (Ext.trans (Ext.trans e29 e31) e43) e56) e69) e71) e73) e75) e77) e79) hEA) hEB) hEC))).some (by omega)
                have lb5756 : b5756 < w28.heap.size := O26.lt _ rfl
                refine SemK.indexOwn (sz := 1) (by kernel_rfl) i rfl (by omega) ?_
                have hb5756 := Own.elem eI_len (O26.ext (Ext.trans (Ext.trans (Ext.trans (Ext.trans (Ext.trans (Ext.trans (Ext.trans (Ext.trans (Ext.trans (Ext.trans (Ext.trans (Ext.trans e29 e31) e43) e56) e69) e71) e73) e75) e77) e79) hEA) hEB) hEC)) hv
                conv => whnf
                refine SemK.load0 (by kernel_rfl) hb5756 rfl ?_
                conv => whnf
                refine IfB.yes (by omega) ?_
                conv => whnf
                obtain ⟨b5758, rfl⟩ := ((O12.ext (Ext.trans (Ext.trans (Ext.trans (Ext.trans (Ext.trans (Ext.trans (Ext.trans (Ext.trans (Ext.trans (Ext.trans (Ext.trans (Ext.trans (Ext.trans (Ext.trans e20 e27) e29) e31) e43) e56) e69) e71) e73) e75) e77) e79) hEA) hEB) hEC))).some (by omega)
                have lb5758 : b5758 < w14.heap.size := O12.lt _ rfl
                refine SemK.indexOwn (sz := 5) (by kernel_rfl) i rfl (by omega) ?_
                have hb5758 := Own.elem TBox.enc_len (O12.ext (Ext.trans (Ext.trans (Ext.trans (Ext.trans (Ext.trans (Ext.trans (Ext.trans (Ext.trans (Ext.trans (Ext.trans (Ext.trans (Ext.trans (Ext.trans (Ext.trans e20 e27) e29) e31) e43) e56) e69) e71) e73) e75) e77) e79) hEA) hEB) hEC)) hx
                conv => whnf
                refine SemK.load1 (by kernel_rfl) hb5758 (k := 1) rfl ?_
                conv => whnf
                refine SemK.add (sumR (cell xs6 (packM xs6 y7).1 (q : Int)) (i + 1)) (by omega) (by omega) (by omega) ?_
                conv => whnf
                refine SemK.add (((i + 1 : Nat) : Int)) (by omega) (by omega) (by omega) ?_
                conv => whnf
                exact ⟨i + 1, by omega, rfl, by omega, hEC⟩
              · have hsu : sumR (cell xs6 (packM xs6 y7).1 (q : Int)) (i + 1) = sumR (cell xs6 (packM xs6 y7).1 (q : Int)) i := by
                  rw [sumR_succ]
                  simp [cell, hv, hvq]
                conv => whnf
                refine IfB.yes (by omega) ?_
                conv => whnf
                obtain ⟨b5756, rfl⟩ := ((O26.ext (Ext.trans (Ext.trans (Ext.trans (Ext.trans (Ext.trans (Ext.trans (Ext.trans (Ext.trans (Ext.trans (Ext.trans (Ext.trans (Ext.trans e29 e31) e43) e56) e69) e71) e73) e75) e77) e79) hEA) hEB) hEC))).some (by omega)
                have lb5756 : b5756 < w28.heap.size := O26.lt _ rfl
                refine SemK.indexOwn (sz := 1) (by kernel_rfl) i rfl (by omega) ?_
                have hb5756 := Own.elem eI_len (O26.ext (Ext.trans (Ext.trans (Ext.trans (Ext.trans (Ext.trans (Ext.trans (Ext.trans (Ext.trans (Ext.trans (Ext.trans (Ext.trans (Ext.trans e29 e31) e43) e56) e69) e71) e73) e75) e77) e79) hEA) hEB) hEC)) hv
                conv => whnf
                refine SemK.load0 (by kernel_rfl) hb5756 rfl ?_
                conv => whnf
                refine IfB.no (by omega) ?_
                conv => whnf
                refine SemK.add (((i + 1 : Nat) : Int)) (by omega) (by omega) (by omega) ?_
                conv => whnf
                refine ⟨i + 1, by omega, ?_, by omega, hEC⟩
                rw [hsu]
                rfl
            · have hie : i = n'23 := by omega
              have hfin := hs3 (q : Int)
              rw [show xs6.length = i by omega] at hfin
              conv => whnf
              refine IfB.no (by omega) ?_
              conv => whnf
              refine IfB.no (by omega) ?_
              conv => whnf
              refine SemK.add (((q + 1 : Nat) : Int)) (by omega) (by omega) (by omega) ?_
              conv => whnf
              exact ⟨q + 1, by omega, rfl, by omega, Ext.trans hEB hEC⟩
          · conv => whnf
            refine SemK.add _ rfl (by omega) (by omega) ?_
            conv => whnf
            exact ⟨by rw [decide_eq_true (by omega)], XB⟩
set_option maxRecDepth 100000 in
theorem open_Shelves {H : Type} {enc : TypeId × Value → H} {base : Nat} (W : World) (args : List Value) (ds : List (DataW H)) (p : List MemPlace) (hA : DataW.TrodAll enc Try.prog W 0 (fun _ => true) true (Try.f4).params.toList args ds p)
    (hv : ∀ (j : Nat) t v, (Try.f4).params[j]? = some t → args[j]? = some v → Value.okWide Try.prog W .any base t v) : Does Try.prog 4 args W (fun v w' => v = .bool true ∧ Ext W w') := by
  have e : (Try.f4).params.toList = [36] := rfl
  rw [e] at hA
  obtain ⟨v0, vs0, d0, ds0, p0, q0, rfl, rfl, rfl, g0, r0⟩ := trodAll_cons hA
  obtain ⟨rfl, rfl, rfl⟩ := trodAll_nil r0
  obtain ⟨a0, n0, c0, x0, rfl, h0, ok0⟩ := open_arr (encα := eB) (ok := fun _ => True) (sz := 1) Try.underlying36 (by kernel_rfl) (by omega) (fun n cs x h => open_byte Try.underlying5 h) eB_len (hv 0 36 v0 (by rw [← Array.getElem?_toList, e]; rfl) rfl) g0
  exact law_Shelves h0
set_option maxRecDepth 100000 in
theorem FnShelves_lifted (os : Os) (started : os.Started) (H : Type) (enc : TypeId × Value → H) :
    ReturnsInHanded {} Try.checked os 4 .any (Rows.fnShelvesSpec.pre6 enc Try.prog Try.f4 Rows.fnShelvesRow.domain false) (Rows.fnShelvesSpec.post enc Try.prog Try.f4 false true false false) := by
  refine returnsInHanded_of_change (C := Try.checked) law_own started (by kernel_rfl) Try.func4
    (ChangeSpec.witness6 (enc := enc) (C := Try.checked) false ⟨#[], #[.slice none 0 0], []⟩ 8 (by kernel_rfl) (by kernel_rfl) (by kernel_rfl) (by kernel_rfl)) ?_
  intro W base args ds gs before hval hW _ _
  exact law_contract (P := Try.prog) (fn := Try.f4) (s := Rows.fnShelvesSpec) rfl rfl Try.underlying4 law_laid (by kernel_rfl)
    (fun ds h => match ds, h with | [d0], _ => ⟨rfl, rfl, rfl⟩) (fun W args ds p hA hv => open_Shelves W args ds p hA hv) W args ds gs before hval hW
theorem FnShelves_holds : Rows.FnShelvesSaid :=
  OpenClaim.holds_of_wide 4 Try.f4 rfl rfl rfl rfl rfl rfl rfl ⟨rfl, rfl, rfl, rfl, rfl⟩ rfl rfl rfl rfl rfl (by kernel_rfl) Try.func4 (by kernel_rfl)
    (of_decide_eq_true (by kernel_rfl)) (by unfold Func.isWrapper; first | (rw [if_pos (by decide +kernel)]; kernel_rfl) | (rw [if_neg (by decide +kernel)]; exact ⟨rfl, rfl⟩))
    (fun os started H enc _ => FnShelves_lifted os started H enc)

end Go.Proofs.Ytjlhbaemfiaeiaa
