/- The statement on the law StockValues is proved, as it is given: for every input the law returns true and each argument reads as before. No conditions. -/
import Derived.Test.YtjlhbaemfiaeiaaDrawB
import Derived.Test.YtjlhbaemfiaeiaaStock2
import Derived.Test.YtjlhbaemfiaeiaaStock4
import Derived.Test.YtjlhbaemfiaeiaaStockL
import Derived.Test.YtjlhbaemfiaeiaaVcByte
import Derived.Test.YtjlhbaemfiaeiaaVcApp
import Derived.Test.YtjlhbaemfiaeiaaLiftBase
namespace Go.Proofs.Ytjlhbaemfiaeiaa
open Go Go.RowKit Go.Vc Go.M Go.ChangeShapes Go.WideShapes Go.ChangeAt
open Go.ChangeMaps (open_string)
set_option maxRecDepth 100000 in
set_option linter.unusedVariables false in
theorem law_StockValues {w : World} {a0 : Option Addr} {n0 c0 : Nat} {x0 : List UInt8} (h0 : Arr eB 1 w a0 n0 x0) : Does Try.prog 5 [.slice a0 n0 c0] w (fun v w' => v = .bool true ∧ Ext w w') := by
  have len0 := h0.len
  refine Does.of_vc tabok Try.func5 rfl rfl rfl (by kernel_rfl) ?_; conv => whnf
  refine (laws_f6big _ _ _ _).mono ?_
  rintro _ _ ⟨rfl, rfl⟩
  conv => whnf
  with_reducible refine IfB.dec (fun h2 => ?_) (fun h2 => ?_)
  · conv => whnf
    exact ⟨rfl, Ext.refl _⟩
  · conv => whnf
    refine (spec_DrawToOrder h0).mono ?_
    rintro _ w13 ⟨a'3, n'4, c'5, xs6, rfl, q7, q8, q9, N10, O11, e12⟩
    have E13 := e12
    have lnO11 := O11.1
    conv => whnf
    refine (impl_ToOrder (O11.arr TPart.enc_len) q9 q8).mono ?_
    rintro _ w20 ⟨a'14, n'15, c'16, rfl, N17, O18, e19⟩
    have E20 := (Ext.trans e12 e19)
    have lnO18 := O18.1
    conv => whnf
    refine (spec_ToOrder ((O11.ext e19).arr TPart.enc_len) q9).mono ?_
    rintro _ w27 ⟨a'21, n'22, c'23, rfl, N24, O25, e26⟩
    have E27 := (Ext.trans E20 e26)
    have lnO25 := O25.1
    conv => whnf
    refine (spec_DrawStockValue (h0.ext E27)).mono ?_
    rintro _ w38 ⟨a'28, n'29, c'30, xs31, rfl, q32, q33, q34, N35, O36, e37⟩
    have E38 := (Ext.trans E27 e37)
    have lnO36 := O36.1
    conv => whnf
    refine (impl_StockValue (O36.arr TPart.enc_len) q34 q33).mono ?_
    rintro _ w40 ⟨rfl, e39⟩
    have E40 := (Ext.trans E38 e39)
    conv => whnf
    refine (spec_StockValue ((O36.ext e39).arr TPart.enc_len) q34).mono ?_
    rintro _ w42 ⟨rfl, e41⟩
    have E42 := (Ext.trans E40 e41)
    conv => whnf
    refine (spec_DrawValueClasses (h0.ext E42)).mono ?_
    rintro _ w53 ⟨a'43, n'44, c'45, xs46, rfl, q47, q48, q49, N50, O51, e52⟩
    have E53 := (Ext.trans E42 e52)
    have lnO51 := O51.1
    conv => whnf
    refine (impl_ValueClasses (O51.arr TPart.enc_len) q49 q48).mono ?_
    rintro _ w55 ⟨rfl, e54⟩
    have E55 := (Ext.trans E53 e54)
    conv => whnf
    refine (spec_ValueClasses ((O51.ext e54).arr TPart.enc_len) q49).mono ?_
    rintro _ w57 ⟨rfl, e56⟩
    have E57 := (Ext.trans E55 e56)
    conv => whnf
    refine (spec_DrawStockCheck (h0.ext E57)).mono ?_
    rintro _ w75 ⟨a'58, n'59, c'60, xs61, a262, n263, c264, ys65, rfl, q66, q67, q68, q69, N70, N71, O72, O73, e74⟩
    have E75 := (Ext.trans E57 e74)
    have lnO72 := O72.1
    have lnO73 := O73.1
    conv => whnf
    refine (impl_StockCheck (O72.arr TPart.enc_len) q69 q67 (O73.arr eI_len)).mono ?_
    rintro _ w82 ⟨a'76, n'77, c'78, rfl, N79, O80, e81⟩
    have E82 := (Ext.trans E75 e81)
    have lnO80 := O80.1
    conv => whnf
    refine (spec_StockCheck ((O72.ext e81).arr TPart.enc_len) q69 ((O73.ext e81).arr eI_len)).mono ?_
    rintro _ w89 ⟨a'83, n'84, c'85, rfl, N86, O87, e88⟩
    have E89 := (Ext.trans E82 e88)
    have lnO87 := O87.1
    conv => whnf
    refine (spec_DrawDaysLeft (h0.ext E89)).mono ?_
    rintro _ w102 ⟨a'90, n'91, c'92, xs93, k94, d95, rfl, q96, q97, q98, N99, O100, e101⟩
    have E102 := (Ext.trans E89 e101)
    have lnO100 := O100.1
    conv => whnf
    refine (impl_DaysLeft (O100.arr TPart.enc_len) q98 q97 _ _).mono ?_
    rintro _ w104 ⟨rfl, e103⟩
    have E104 := (Ext.trans E102 e103)
    conv => whnf
    refine (spec_DaysLeft ((O100.ext e103).arr TPart.enc_len) q98 _ _).mono ?_
    rintro _ w106 ⟨rfl, e105⟩
    have E106 := (Ext.trans E104 e105)
    conv => whnf
    refine IfB.eqf (by simp; done) ?_
    conv => whnf
    refine (laws_f6ints ((O18.ext (Ext.trans (Ext.trans (Ext.trans (Ext.trans (Ext.trans (Ext.trans (Ext.trans (Ext.trans (Ext.trans (Ext.trans (Ext.trans (Ext.trans e26 e37) e39) e41) e52) e54) e56) e74) e81) e88) e101) e103) e105)).arr eI_len) ((O25.ext (Ext.trans (Ext.trans (Ext.trans (Ext.trans (Ext.trans (Ext.trans (Ext.trans (Ext.trans (Ext.trans (Ext.trans (Ext.trans e37 e39) e41) e52) e54) e56) e74) e81) e88) e101) e103) e105)).arr eI_len)).mono ?_
    rintro _ w108 ⟨rfl, e107⟩
    have E108 := (Ext.trans E106 e107)
    conv => whnf
    refine IfB.eqf (by simp; done) ?_
    conv => whnf
    refine IfB.eqf (by simp; done) ?_
    conv => whnf
    refine IfB.eqf (by simp; done) ?_
    conv => whnf
    refine IfB.eqf (by simp; done) ?_
    conv => whnf
    refine IfB.eqf (by simp; done) ?_
    conv => whnf
    refine IfB.eqf (by simp; done) ?_
    conv => whnf
    refine (laws_f6ints ((O80.ext (Ext.trans (Ext.trans (Ext.trans (Ext.trans e88 e101) e103) e105) e107)).arr eI_len) ((O87.ext (Ext.trans (Ext.trans (Ext.trans e101 e103) e105) e107)).arr eI_len)).mono ?_
    rintro _ w110 ⟨rfl, e109⟩
    have E110 := (Ext.trans E108 e109)
    conv => whnf
    refine IfB.eqf (by simp; done) ?_
    conv => whnf
    refine IfB.eqf (by simp; done) ?_
    conv => whnf
    refine IfB.eqf (by simp; done) ?_
    conv => whnf
    with_reducible refine IfB.dec (fun h111 => ?_) (fun h111 => ?_)
    · conv => whnf
      obtain ⟨hp, hyl, hb, hck⟩ := checkM_zero (by omega : (stockCheckM xs61 ys65).2 = 0)
      have hpm := partsB_mem hp
      rw [hck] at O87 lnO87
      have hcl : (checkL xs61 ys65 xs61.length).length = xs61.length := by simp [checkL]
      have X0 : Ext w w110 := E110
      have A87 := (O87.ext (Ext.trans (Ext.trans (Ext.trans (Ext.trans e101 e103) e105) e107) e109)).arr eI_len
      refine LoopK.rule [3, 5, 6, 19, 22, 31, 32] (fun (j : Nat) vs w' => ∃ a1 n1 c1 L, vs = [.slice a'3 n'4 c'5, .int .i64 (toOrderM xs6).2, .slice a'21 n'22 c'23, .slice a262 n263 c264, .slice a'83 n'84 c'85, .slice a1 n1 c1, .int .i64 j] ∧ j ≤ n'84 ∧ n1 ≤ c1 ∧ Arr TPart.enc 4 w' a1 n1 L ∧ cntTo xs61 ys65 j L ∧ Ext w110 w') (fun j => n'84 - j) tab tabok (by kernel_rfl) 0
        ⟨_, _, _, _, rfl, by omega, q67, (O72.ext (Ext.trans (Ext.trans (Ext.trans (Ext.trans (Ext.trans (Ext.trans e81 e88) e101) e103) e105) e107) e109)).arr TPart.enc_len, cntTo.zero _ _, Ext.refl _⟩ ?_
      rintro j g _ w111 ⟨a1, n1, c1, L, rfl, hj, hn1, hA1, hL, hE⟩
      have hok1 : ∀ x ∈ L, x.ok := fun x hx => partB_ok ((partsB_mem (hL.parts hyl hp hb)).2 x hx)
      have hAl := hA1.len
      have hLl := hL.1
      have XE : Ext w w111 := Ext.trans X0 hE
      rcases Nat.lt_or_ge j n'84 with hjn | hjn
      · obtain ⟨x, hx⟩ := get_of_lt (l := xs61) (k := j) (by omega)
        obtain ⟨y, hy⟩ := get_of_lt (l := ys65) (k := j) (by omega)
        have hcg := checkL_get (n := xs61.length) (by omega) hx hy
        obtain ⟨hst1, hst2⟩ := hL.step hyl hp hb hx hy
        have hxb := partB_b (hpm.2 x (List.mem_of_getElem? hx))
        have hyb := anyBad_at hb hy
        conv => whnf
        refine IfB.yes (by omega) ?_
        conv => whnf
        obtain ⟨b266, rfl⟩ := ((O87.ext (Ext.trans (Ext.trans (Ext.trans (Ext.trans (Ext.trans e101 e103) e105) e107) e109) hE))).some (by omega)
        have lb266 : b266 < w89.heap.size := O87.lt _ rfl
        refine SemK.indexOwn (sz := 1) (by kernel_rfl) j rfl (by omega) ?_
        have hb266 := Own.elem eI_len (O87.ext (Ext.trans (Ext.trans (Ext.trans (Ext.trans (Ext.trans e101 e103) e105) e107) e109) hE)) hcg
        conv => whnf
        refine SemK.load0 (by kernel_rfl) hb266 rfl ?_
        conv => whnf
        refine SemK.build (out := [Value.int IntKind.i64 (j : Int), Value.int IntKind.i64 (y - x.count)]) st_62 rfl ?_
        conv => whnf
        refine (impl_ApplyMove2 hA1 hok1 hn1 ⟨(j : Int), y - x.count⟩).mono ?_
        rintro _ w112 ⟨a'112, n'112, c'112, rfl, hn112, N112, O112, e112⟩
        have E112 := Ext.trans XE e112
        conv => whnf
        refine IfB.eqf (by simp [hst1]; done) ?_
        conv => whnf
        refine SemK.add (((j + 1 : Nat) : Int)) (by omega) (by omega) (by omega) ?_
        conv => whnf
        exact ⟨j + 1, by omega, _, _, _, _, rfl, by omega, hn112, O112.arr TPart.enc_len, hst2, Ext.trans hE e112⟩
      · obtain rfl : j = n'84 := by omega
        obtain ⟨hd1, hd2⟩ := cntTo.done (by rw [show xs61.length = j by omega]; exact hL) hyl hp hb
        conv => whnf
        refine IfB.no (by omega) ?_
        conv => whnf
        refine (impl_StockCheck hA1 hok1 hn1 ((O73.ext (Ext.trans (Ext.trans (Ext.trans (Ext.trans (Ext.trans (Ext.trans (Ext.trans e81 e88) e101) e103) e105) e107) e109) hE)).arr eI_len)).mono ?_
        rintro _ w276 ⟨a'270, n'271, c'272, rfl, N273, O274, e275⟩
        have E276 := (Ext.trans XE e275)
        have lnO274 := O274.1
        conv => whnf
        refine IfB.eqf (by simp [hd1]; done) ?_
        conv => whnf
        refine LoopK.rule [3, 5, 6, 35, 37] (fun (j : Nat) vs w' => vs = [.slice a'3 n'4 c'5, .int .i64 (toOrderM xs6).2, .slice a'21 n'22 c'23, .slice a'270 n'271 c'272, .int .i64 j] ∧ Ext w276 w') (fun j => n'271 - j) tab tabok (by kernel_rfl) 0 ⟨rfl, Ext.refl _⟩ ?_
        rintro j2 g _ w277 ⟨rfl, hE2⟩
        have XE2 : Ext w w277 := Ext.trans E276 hE2
        rcases Nat.lt_or_ge j2 n'271 with hjn2 | hjn2
        · obtain ⟨z, hz⟩ := get_of_lt (l := (stockCheckM L ys65).1) (k := j2) (by omega)
          have hz0 := hd2 z (List.mem_of_getElem? hz)
          have hml := O274.2.1
          conv => whnf
          refine IfB.yes (by omega) ?_
          conv => whnf
          obtain ⟨b279, rfl⟩ := ((O274.ext hE2)).some (by omega)
          have lb279 : b279 < w276.heap.size := O274.lt _ rfl
          refine SemK.indexOwn (sz := 1) (by kernel_rfl) j2 rfl (by omega) ?_
          have hb279 := Own.elem eI_len (O274.ext hE2) hz
          conv => whnf
          refine SemK.load0 (by kernel_rfl) hb279 rfl ?_
          conv => whnf
          refine IfB.eqf (by simp [*]; done) ?_
          conv => whnf
          refine SemK.add (((j2 + 1 : Nat) : Int)) (by omega) (by omega) (by omega) ?_
          conv => whnf
          exact ⟨j2 + 1, by omega, rfl, hE2⟩
        · conv => whnf
          refine IfB.no (by omega) ?_
          conv => whnf
          with_reducible refine IfB.ndec (fun h278 => ?_) (fun h278 => ?_)
          · conv => whnf
            exact ⟨rfl, XE2⟩
          · conv => whnf
            obtain ⟨hp6, ho6⟩ := toOrder_zero (by omega : (toOrderM xs6).2 = 0)
            have hm6 := (partsB_mem hp6).2
            rw [ho6] at O25 lnO25
            simp only [List.length_map] at lnO25
            refine LoopK.rule [3, 6, 38] (fun (j : Nat) vs w' => vs = [.slice a'3 n'4 c'5, .slice a'21 n'22 c'23, .int .i64 j] ∧ Ext w277 w') (fun j => n'22 - j) tab tabok (by kernel_rfl) 0 ⟨rfl, Ext.refl _⟩ ?_
            rintro j g _ w313 ⟨rfl, hE3⟩
            have XE3 : Ext w w313 := Ext.trans XE2 hE3
            rcases Nat.lt_or_ge j n'22 with hjn | hjn
            · obtain ⟨x, hx⟩ := get_of_lt (l := xs6) (k := j) (by omega)
              have hox : (List.map orderOf xs6)[j]? = some (orderOf x) := by simp [hx]
              obtain ⟨hb1, hb2, hb3, hb4, hb5, hb6⟩ := order_b (hm6 x (List.mem_of_getElem? hx))
              conv => whnf
              refine IfB.yes (by omega) ?_
              conv => whnf
              refine DrawK.det tabok mixed (by kernel_rfl) (by kernel_rfl) ?_
              conv => whnf
              obtain ⟨b315, rfl⟩ := ((O25.ext (Ext.trans (Ext.trans (Ext.trans (Ext.trans (Ext.trans (Ext.trans (Ext.trans (Ext.trans (Ext.trans (Ext.trans (Ext.trans (Ext.trans (Ext.trans (Ext.trans (Ext.trans (Ext.trans (Ext.trans e37 e39) e41) e52) e54) e56) e74) e81) e88) e101) e103) e105) e107) e109) hE) e275) hE2) hE3))).some (by omega)
              have lb315 : b315 < w27.heap.size := O25.lt _ rfl
              refine DSemK.indexOwn (sz := 1) (by kernel_rfl) j rfl (by omega) ?_
              have hb315 := Own.elem eI_len (O25.ext (Ext.trans (Ext.trans (Ext.trans (Ext.trans (Ext.trans (Ext.trans (Ext.trans (Ext.trans (Ext.trans (Ext.trans (Ext.trans (Ext.trans (Ext.trans (Ext.trans (Ext.trans (Ext.trans (Ext.trans e37 e39) e41) e52) e54) e56) e74) e81) e88) e101) e103) e105) e107) e109) hE) e275) hE2) hE3)) hox
              conv => whnf
              refine DSemK.load0 (by kernel_rfl) hb315 rfl ?_
              conv => whnf
              with_reducible refine IfB.dec (fun h316 => ?_) (fun h316 => ?_)
              · conv => whnf
                obtain ⟨b318, rfl⟩ := ((O11.ext (Ext.trans (Ext.trans (Ext.trans (Ext.trans (Ext.trans (Ext.trans (Ext.trans (Ext.trans (Ext.trans (Ext.trans (Ext.trans (Ext.trans (Ext.trans (Ext.trans (Ext.trans (Ext.trans (Ext.trans (Ext.trans (Ext.trans e19 e26) e37) e39) e41) e52) e54) e56) e74) e81) e88) e101) e103) e105) e107) e109) hE) e275) hE2) hE3))).some (by omega)
                have lb318 : b318 < w13.heap.size := O11.lt _ rfl
                refine DSemK.indexOwn (sz := 4) (by kernel_rfl) j rfl (by omega) ?_
                have hb318 := Own.elem TPart.enc_len (O11.ext (Ext.trans (Ext.trans (Ext.trans (Ext.trans (Ext.trans (Ext.trans (Ext.trans (Ext.trans (Ext.trans (Ext.trans (Ext.trans (Ext.trans (Ext.trans (Ext.trans (Ext.trans (Ext.trans (Ext.trans (Ext.trans (Ext.trans e19 e26) e37) e39) e41) e52) e54) e56) e74) e81) e88) e101) e103) e105) e107) e109) hE) e275) hE2) hE3)) hx
                conv => whnf
                refine DSemK.load1 (by kernel_rfl) hb318 (k := 1) rfl ?_
                conv => whnf
                refine DSemK.indexOwn (sz := 1) (by kernel_rfl) j rfl (by omega) ?_
                have hb320 := Own.elem eI_len (O25.ext (Ext.trans (Ext.trans (Ext.trans (Ext.trans (Ext.trans (Ext.trans (Ext.trans (Ext.trans (Ext.trans (Ext.trans (Ext.trans (Ext.trans (Ext.trans (Ext.trans (Ext.trans (Ext.trans (Ext.trans e37 e39) e41) e52) e54) e56) e74) e81) e88) e101) e103) e105) e107) e109) hE) e275) hE2) hE3)) hox
                conv => whnf
                refine DSemK.load0 (by kernel_rfl) hb320 rfl ?_
                conv => whnf
                refine DSemK.add _ rfl (by omega) (by omega) ?_
                conv => whnf
                refine DSemK.indexOwn (sz := 4) (by kernel_rfl) j rfl (by omega) ?_
                have hb322 := Own.elem TPart.enc_len (O11.ext (Ext.trans (Ext.trans (Ext.trans (Ext.trans (Ext.trans (Ext.trans (Ext.trans (Ext.trans (Ext.trans (Ext.trans (Ext.trans (Ext.trans (Ext.trans (Ext.trans (Ext.trans (Ext.trans (Ext.trans (Ext.trans (Ext.trans e19 e26) e37) e39) e41) e52) e54) e56) e74) e81) e88) e101) e103) e105) e107) e109) hE) e275) hE2) hE3)) hx
                conv => whnf
                refine DSemK.load1 (by kernel_rfl) hb322 (k := 2) rfl ?_
                conv => whnf
                refine IfB.no (by omega) ?_
                conv => whnf
                refine DSemK.indexOwn (sz := 1) (by kernel_rfl) j rfl (by omega) ?_
                have hb324 := Own.elem eI_len (O25.ext (Ext.trans (Ext.trans (Ext.trans (Ext.trans (Ext.trans (Ext.trans (Ext.trans (Ext.trans (Ext.trans (Ext.trans (Ext.trans (Ext.trans (Ext.trans (Ext.trans (Ext.trans (Ext.trans (Ext.trans e37 e39) e41) e52) e54) e56) e74) e81) e88) e101) e103) e105) e107) e109) hE) e275) hE2) hE3)) hox
                conv => whnf
                refine DSemK.load0 (by kernel_rfl) hb324 rfl ?_
                conv => whnf
                refine IfB.no (by omega) ?_
                conv => whnf
                intro w325 e325
                conv => whnf
                refine SemK.add (((j + 1 : Nat) : Int)) (by omega) (by omega) (by omega) ?_
                conv => whnf
                exact ⟨j + 1, by omega, rfl, (Ext.trans hE3 e325)⟩
              · conv => whnf
                refine DSemK.indexOwn (sz := 1) (by kernel_rfl) j rfl (by omega) ?_
                have hb327 := Own.elem eI_len (O25.ext (Ext.trans (Ext.trans (Ext.trans (Ext.trans (Ext.trans (Ext.trans (Ext.trans (Ext.trans (Ext.trans (Ext.trans (Ext.trans (Ext.trans (Ext.trans (Ext.trans (Ext.trans (Ext.trans (Ext.trans e37 e39) e41) e52) e54) e56) e74) e81) e88) e101) e103) e105) e107) e109) hE) e275) hE2) hE3)) hox
                conv => whnf
                refine DSemK.load0 (by kernel_rfl) hb327 rfl ?_
                conv => whnf
                refine IfB.yes (by omega) ?_
                conv => whnf
                obtain ⟨b329, rfl⟩ := ((O11.ext (Ext.trans (Ext.trans (Ext.trans (Ext.trans (Ext.trans (Ext.trans (Ext.trans (Ext.trans (Ext.trans (Ext.trans (Ext.trans (Ext.trans (Ext.trans (Ext.trans (Ext.trans (Ext.trans (Ext.trans (Ext.trans (Ext.trans e19 e26) e37) e39) e41) e52) e54) e56) e74) e81) e88) e101) e103) e105) e107) e109) hE) e275) hE2) hE3))).some (by omega)
                have lb329 : b329 < w13.heap.size := O11.lt _ rfl
                refine DSemK.indexOwn (sz := 4) (by kernel_rfl) j rfl (by omega) ?_
                have hb329 := Own.elem TPart.enc_len (O11.ext (Ext.trans (Ext.trans (Ext.trans (Ext.trans (Ext.trans (Ext.trans (Ext.trans (Ext.trans (Ext.trans (Ext.trans (Ext.trans (Ext.trans (Ext.trans (Ext.trans (Ext.trans (Ext.trans (Ext.trans (Ext.trans (Ext.trans e19 e26) e37) e39) e41) e52) e54) e56) e74) e81) e88) e101) e103) e105) e107) e109) hE) e275) hE2) hE3)) hx
                conv => whnf
                refine DSemK.load1 (by kernel_rfl) hb329 (k := 1) rfl ?_
                conv => whnf
                refine DSemK.indexOwn (sz := 4) (by kernel_rfl) j rfl (by omega) ?_
                have hb331 := Own.elem TPart.enc_len (O11.ext (Ext.trans (Ext.trans (Ext.trans (Ext.trans (Ext.trans (Ext.trans (Ext.trans (Ext.trans (Ext.trans (Ext.trans (Ext.trans (Ext.trans (Ext.trans (Ext.trans (Ext.trans (Ext.trans (Ext.trans (Ext.trans (Ext.trans e19 e26) e37) e39) e41) e52) e54) e56) e74) e81) e88) e101) e103) e105) e107) e109) hE) e275) hE2) hE3)) hx
                conv => whnf
                refine DSemK.load1 (by kernel_rfl) hb331 (k := 2) rfl ?_
                conv => whnf
                intro w332 e332
                conv => whnf
                refine IfB.no (by omega) ?_
                conv => whnf
                refine SemK.add (((j + 1 : Nat) : Int)) (by omega) (by omega) (by omega) ?_
                conv => whnf
                exact ⟨j + 1, by omega, rfl, (Ext.trans hE3 e332)⟩
            · conv => whnf
              refine IfB.no (by omega) ?_
              conv => whnf
              exact ⟨rfl, XE3⟩
    · conv => whnf
      with_reducible refine IfB.ndec (fun h112 => ?_) (fun h112 => ?_)
      · conv => whnf
        exact ⟨rfl, E110⟩
      · conv => whnf
        obtain ⟨hp6, ho6⟩ := toOrder_zero (by omega : (toOrderM xs6).2 = 0)
        have hm6 := (partsB_mem hp6).2
        rw [ho6] at O25 lnO25
        simp only [List.length_map] at lnO25
        refine LoopK.rule [3, 6, 38] (fun (j : Nat) vs w' => vs = [.slice a'3 n'4 c'5, .slice a'21 n'22 c'23, .int .i64 j] ∧ Ext w110 w') (fun j => n'22 - j) tab tabok (by kernel_rfl) 0 ⟨rfl, Ext.refl _⟩ ?_
        rintro j g _ w113 ⟨rfl, hE⟩
        have XE : Ext w w113 := Ext.trans E110 hE
        rcases Nat.lt_or_ge j n'22 with hjn | hjn
        · obtain ⟨x, hx⟩ := get_of_lt (l := xs6) (k := j) (by omega)
          have hox : (List.map orderOf xs6)[j]? = some (orderOf x) := by simp [hx]
          obtain ⟨hb1, hb2, hb3, hb4, hb5, hb6⟩ := order_b (hm6 x (List.mem_of_getElem? hx))
          conv => whnf
          refine IfB.yes (by omega) ?_
          conv => whnf
          refine DrawK.det tabok mixed (by kernel_rfl) (by kernel_rfl) ?_
          conv => whnf
          obtain ⟨b266, rfl⟩ := ((O25.ext (Ext.trans (Ext.trans (Ext.trans (Ext.trans (Ext.trans (Ext.trans (Ext.trans (Ext.trans (Ext.trans (Ext.trans (Ext.trans (Ext.trans (Ext.trans (Ext.trans e37 e39) e41) e52) e54) e56) e74) e81) e88) e101) e103) e105) e107) e109) hE))).some (by omega)
          have lb266 : b266 < w27.heap.size := O25.lt _ rfl
          refine DSemK.indexOwn (sz := 1) (by kernel_rfl) j rfl (by omega) ?_
          have hb266 := Own.elem eI_len (O25.ext (Ext.trans (Ext.trans (Ext.trans (Ext.trans (Ext.trans (Ext.trans (Ext.trans (Ext.trans (Ext.trans (Ext.trans (Ext.trans (Ext.trans (Ext.trans (Ext.trans e37 e39) e41) e52) e54) e56) e74) e81) e88) e101) e103) e105) e107) e109) hE)) hox
          conv => whnf
          refine DSemK.load0 (by kernel_rfl) hb266 rfl ?_
          conv => whnf
          with_reducible refine IfB.dec (fun h267 => ?_) (fun h267 => ?_)
          · conv => whnf
            obtain ⟨b269, rfl⟩ := ((O11.ext (Ext.trans (Ext.trans (Ext.trans (Ext.trans (Ext.trans (Ext.trans (Ext.trans (Ext.trans (Ext.trans (Ext.trans (Ext.trans (Ext.trans (Ext.trans (Ext.trans (Ext.trans (Ext.trans e19 e26) e37) e39) e41) e52) e54) e56) e74) e81) e88) e101) e103) e105) e107) e109) hE))).some (by omega)
            have lb269 : b269 < w13.heap.size := O11.lt _ rfl
            refine DSemK.indexOwn (sz := 4) (by kernel_rfl) j rfl (by omega) ?_
            have hb269 := Own.elem TPart.enc_len (O11.ext (Ext.trans (Ext.trans (Ext.trans (Ext.trans (Ext.trans (Ext.trans (Ext.trans (Ext.trans (Ext.trans (Ext.trans (Ext.trans (Ext.trans (Ext.trans (Ext.trans (Ext.trans (Ext.trans e19 e26) e37) e39) e41) e52) e54) e56) e74) e81) e88) e101) e103) e105) e107) e109) hE)) hx
            conv => whnf
            refine DSemK.load1 (by kernel_rfl) hb269 (k := 1) rfl ?_
            conv => whnf
            refine DSemK.indexOwn (sz := 1) (by kernel_rfl) j rfl (by omega) ?_
            have hb271 := Own.elem eI_len (O25.ext (Ext.trans (Ext.trans (Ext.trans (Ext.trans (Ext.trans (Ext.trans (Ext.trans (Ext.trans (Ext.trans (Ext.trans (Ext.trans (Ext.trans (Ext.trans (Ext.trans e37 e39) e41) e52) e54) e56) e74) e81) e88) e101) e103) e105) e107) e109) hE)) hox
            conv => whnf
            refine DSemK.load0 (by kernel_rfl) hb271 rfl ?_
            conv => whnf
            refine DSemK.add _ rfl (by omega) (by omega) ?_
            conv => whnf
            refine DSemK.indexOwn (sz := 4) (by kernel_rfl) j rfl (by omega) ?_
            have hb273 := Own.elem TPart.enc_len (O11.ext (Ext.trans (Ext.trans (Ext.trans (Ext.trans (Ext.trans (Ext.trans (Ext.trans (Ext.trans (Ext.trans (Ext.trans (Ext.trans (Ext.trans (Ext.trans (Ext.trans (Ext.trans (Ext.trans e19 e26) e37) e39) e41) e52) e54) e56) e74) e81) e88) e101) e103) e105) e107) e109) hE)) hx
            conv => whnf
            refine DSemK.load1 (by kernel_rfl) hb273 (k := 2) rfl ?_
            conv => whnf
            refine IfB.no (by omega) ?_
            conv => whnf
            refine DSemK.indexOwn (sz := 1) (by kernel_rfl) j rfl (by omega) ?_
            have hb275 := Own.elem eI_len (O25.ext (Ext.trans (Ext.trans (Ext.trans (Ext.trans (Ext.trans (Ext.trans (Ext.trans (Ext.trans (Ext.trans (Ext.trans (Ext.trans (Ext.trans (Ext.trans (Ext.trans e37 e39) e41) e52) e54) e56) e74) e81) e88) e101) e103) e105) e107) e109) hE)) hox
            conv => whnf
            refine DSemK.load0 (by kernel_rfl) hb275 rfl ?_
            conv => whnf
            refine IfB.no (by omega) ?_
            conv => whnf
            intro w276 e276
            conv => whnf
            refine SemK.add (((j + 1 : Nat) : Int)) (by omega) (by omega) (by omega) ?_
            conv => whnf
            exact ⟨j + 1, by omega, rfl, (Ext.trans hE e276)⟩
          · conv => whnf
            refine DSemK.indexOwn (sz := 1) (by kernel_rfl) j rfl (by omega) ?_
            have hb278 := Own.elem eI_len (O25.ext (Ext.trans (Ext.trans (Ext.trans (Ext.trans (Ext.trans (Ext.trans (Ext.trans (Ext.trans (Ext.trans (Ext.trans (Ext.trans (Ext.trans (Ext.trans (Ext.trans e37 e39) e41) e52) e54) e56) e74) e81) e88) e101) e103) e105) e107) e109) hE)) hox
            conv => whnf
            refine DSemK.load0 (by kernel_rfl) hb278 rfl ?_
            conv => whnf
            refine IfB.yes (by omega) ?_
            conv => whnf
            obtain ⟨b280, rfl⟩ := ((O11.ext (Ext.trans (Ext.trans (Ext.trans (Ext.trans (Ext.trans (Ext.trans (Ext.trans (Ext.trans (Ext.trans (Ext.trans (Ext.trans (Ext.trans (Ext.trans (Ext.trans (Ext.trans (Ext.trans e19 e26) e37) e39) e41) e52) e54) e56) e74) e81) e88) e101) e103) e105) e107) e109) hE))).some (by omega)
            have lb280 : b280 < w13.heap.size := O11.lt _ rfl
            refine DSemK.indexOwn (sz := 4) (by kernel_rfl) j rfl (by omega) ?_
            have hb280 := Own.elem TPart.enc_len (O11.ext (Ext.trans (Ext.trans (Ext.trans (Ext.trans (Ext.trans (Ext.trans (Ext.trans (Ext.trans (Ext.trans (Ext.trans (Ext.trans (Ext.trans (Ext.trans (Ext.trans (Ext.trans (Ext.trans e19 e26) e37) e39) e41) e52) e54) e56) e74) e81) e88) e101) e103) e105) e107) e109) hE)) hx
            conv => whnf
            refine DSemK.load1 (by kernel_rfl) hb280 (k := 1) rfl ?_
            conv => whnf
            refine DSemK.indexOwn (sz := 4) (by kernel_rfl) j rfl (by omega) ?_
            have hb282 := Own.elem TPart.enc_len (O11.ext (Ext.trans (Ext.trans (Ext.trans (Ext.trans (Ext.trans (Ext.trans (Ext.trans (Ext.trans (Ext.trans (Ext.trans (Ext.trans (Ext.trans (Ext.trans (Ext.trans (Ext.trans (Ext.trans e19 e26) e37) e39) e41) e52) e54) e56) e74) e81) e88) e101) e103) e105) e107) e109) hE)) hx
            conv => whnf
            refine DSemK.load1 (by kernel_rfl) hb282 (k := 2) rfl ?_
            conv => whnf
            intro w283 e283
            conv => whnf
            refine IfB.no (by omega) ?_
            conv => whnf
            refine SemK.add (((j + 1 : Nat) : Int)) (by omega) (by omega) (by omega) ?_
            conv => whnf
            exact ⟨j + 1, by omega, rfl, (Ext.trans hE e283)⟩
        · conv => whnf
          refine IfB.no (by omega) ?_
          conv => whnf
          exact ⟨rfl, XE⟩
set_option maxRecDepth 100000 in
theorem open_StockValues {H : Type} {enc : TypeId × Value → H} {base : Nat} (W : World) (args : List Value) (ds : List (DataW H)) (p : List MemPlace) (hA : DataW.TrodAll enc Try.prog W 0 (fun _ => true) true (Try.f5).params.toList args ds p)
    (hv : ∀ (j : Nat) t v, (Try.f5).params[j]? = some t → args[j]? = some v → Value.okWide Try.prog W .any base t v) : Does Try.prog 5 args W (fun v w' => v = .bool true ∧ Ext W w') := by
  have e : (Try.f5).params.toList = [36] := rfl
  rw [e] at hA
  obtain ⟨v0, vs0, d0, ds0, p0, q0, rfl, rfl, rfl, g0, r0⟩ := trodAll_cons hA
  obtain ⟨rfl, rfl, rfl⟩ := trodAll_nil r0
  obtain ⟨a0, n0, c0, x0, rfl, h0, ok0⟩ := open_arr (encα := eB) (ok := fun _ => True) (sz := 1) Try.underlying36 (by kernel_rfl) (by omega) (fun n cs x h => open_byte Try.underlying5 h) eB_len (hv 0 36 v0 (by rw [← Array.getElem?_toList, e]; rfl) rfl) g0
  exact law_StockValues h0
set_option maxRecDepth 100000 in
theorem FnStockValues_lifted (os : Os) (started : os.Started) (H : Type) (enc : TypeId × Value → H) :
    ReturnsInHanded {} Try.checked os 5 .any (Rows.fnStockValuesSpec.pre6 enc Try.prog Try.f5 Rows.fnStockValuesRow.domain false) (Rows.fnStockValuesSpec.post enc Try.prog Try.f5 false true false false) := by
  refine returnsInHanded_of_change (C := Try.checked) law_own started (by kernel_rfl) Try.func5
    (ChangeSpec.witness6 (enc := enc) (C := Try.checked) false ⟨#[], #[.slice none 0 0], []⟩ 8 (by kernel_rfl) (by kernel_rfl) (by kernel_rfl) (by kernel_rfl)) ?_
  intro W base args ds gs before hval hW _ _
  exact law_contract (P := Try.prog) (fn := Try.f5) (s := Rows.fnStockValuesSpec) rfl rfl Try.underlying4 law_laid (by kernel_rfl)
    (fun ds h => match ds, h with | [d0], _ => ⟨rfl, rfl, rfl⟩) (fun W args ds p hA hv => open_StockValues W args ds p hA hv) W args ds gs before hval hW
theorem FnStockValues_holds : Rows.FnStockValuesSaid :=
  OpenClaim.holds_of_wide 5 Try.f5 rfl rfl rfl rfl rfl rfl rfl ⟨rfl, rfl, rfl, rfl, rfl⟩ rfl rfl rfl rfl rfl (by kernel_rfl) Try.func5 (by kernel_rfl)
    (of_decide_eq_true (by kernel_rfl)) (by unfold Func.isWrapper; first | (rw [if_pos (by decide +kernel)]; kernel_rfl) | (rw [if_neg (by decide +kernel)]; exact ⟨rfl, rfl⟩))
    (fun os started H enc _ => FnStockValues_lifted os started H enc)

end Go.Proofs.Ytjlhbaemfiaeiaa
