/- Contracts of functions of the given program, of the reference and of the laws: each says what a call returns, for all arguments that meet the premises that the theorem itself names. -/
import Derived.Test.YtkjmbjedbmblmaaGreatDoorDraw
import Derived.Test.YtkjmbjedbmblmaaGreatDoorFBox
import Derived.Test.YtkjmbjedbmblmaaGreatDoorLibSl
namespace Go.M
open Go Go.Vc
theorem box_both {n l : ByteArray} {a b c : Int} (h1 : n.size ≤ 12) (ha : i64ok a) (hb : i64ok b) (hc : i64ok c) (h2 : l.size ≤ 12) : TBox.ok ⟨n, a, b, c, l⟩ ∧ boxSm ⟨n, a, b, c, l⟩ :=
  ⟨⟨by unfold strok; exact Nat.le_trans h1 (by decide), ha, hb, hc, by unfold strok; exact Nat.le_trans h2 (by decide)⟩, h1, h2, ha, hb, hc⟩
end Go.M
namespace Go.Proofs.YtkjmbjedbmblmaaGreatDoor
open Go Go.RowKit Go.Vc Go.M
theorem spec_l26New {w : World} {a0 : Option Addr} {k : Nat} (h : Src w a0 k) (hk : k ≤ 1000000) {s : ByteArray} (hs : s.size ≤ 12) :
    Does Tryz.prog 150 [.pointer a0, .string s] w (fun v w' => ∃ x : TBox, v = .agg ⟨x.enc⟩ ∧ (x.ok ∧ boxSm x) ∧ Src w' a0 (k + 20) ∧ Mod (blkIn a0) w w') := by
  refine Does.of_vc tabok Tryz.func150 rfl rfl rfl (by kernel_rfl) ?_; conv => whnf
  refine SemK.alloc (z := .agg #[.string { data := #[] }, .int .i64 0, .int .i64 0, .int .i64 0, .string { data := #[] }]) (by kernel_rfl) ?_
  intro b1 w1 g1 l1 e1 B1
  conv => whnf
  refine (spec_pick (h.ext e1) (by omega) (by omega)).mono ?_
  rintro _ w8 ⟨r2, rfl, q3, q4, q5, S6, m7⟩
  conv => whnf
  refine (spec_pick S6 (by omega) (by omega)).mono ?_
  rintro _ w15 ⟨r9, rfl, q10, q11, q12, S13, m14⟩
  conv => whnf
  refine SemK.add _ rfl (by omega) (by omega) ?_
  conv => whnf
  refine (spec_pick S13 (by omega) (by omega)).mono ?_
  rintro _ w22 ⟨r16, rfl, q17, q18, q19, S20, m21⟩
  conv => whnf
  refine SemK.add _ rfl (by omega) (by omega) ?_
  conv => whnf
  refine SemK.build st_99 rfl ?_
  conv => whnf
  refine SemK.alloc (z := .agg #[.string { data := #[] }, .int .i64 0, .int .i64 0, .int .i64 0, .string { data := #[] }]) (by kernel_rfl) ?_
  intro b23 w23 g23 l23 e23 B23
  conv => whnf
  refine SemK.storeAll (vs := [Value.string s, Value.int IntKind.i64 r2, Value.int IntKind.i64 (1900 + r9), Value.int IntKind.i64 (1 + r16), Value.string { data := #[] }]) (by kernel_rfl) B23 rfl rfl (by simp [cellish]) ?_
  intro w24 c24 B24
  conv => whnf
  refine (spec_one ((S20.ext e23).chg c24 h.lt g23 (Nat.le_trans (Nat.le_trans (Nat.le_trans (Below.size e1) (Mod.size m7)) (Mod.size m14)) (Mod.size m21))) (by omega) (by omega)).mono ?_
  rintro _ w28 ⟨r25, rfl, S26, m27⟩
  conv => whnf
  with_reducible refine IfB.split (fun h29 => ?_) (fun h29 => ?_)
  · conv => whnf
    refine SemK.buildSlice mk_32 (vs := [Value.string { data := #[97, 110, 110] }, Value.string { data := #[98, 111, 98] }]) (by rfl) (by rfl) (by simp [Value.cells]) (by decide) ?_
    intro b30 w30 g30 l30 e30 B30
    have G30 := Grow.of_blk (n := 2) (enc := eS) (xs := [{ data := #[97, 110, 110] }, { data := #[98, 111, 98] }]) eS_len B30 g30 rfl (by decide)
    conv => whnf
    refine (spec_text (S26.ext e30) (by omega) (G30.own.arr eS_len) (apart' G30.new h.lt (Nat.le_trans (Nat.le_trans (Nat.le_trans (Nat.le_trans (Nat.le_trans (Nat.le_trans (Below.size e1) (Mod.size m7)) (Mod.size m14)) (Mod.size m21)) (Below.size e23)) (Chg.size_le c24)) (Mod.size m27))) (by omega) (by omega)).mono ?_
    rintro _ w35 ⟨r31, rfl, q32, S33, m34⟩
    conv => whnf
    refine SemK.store1 (by kernel_rfl) (((B24.mod m27 (blkNew h.lt g23 (Nat.le_trans (Nat.le_trans (Nat.le_trans (Below.size e1) (Mod.size m7)) (Mod.size m14)) (Mod.size m21)))).ext e30).mod m34 (blkNew h.lt g23 (Nat.le_trans (Nat.le_trans (Nat.le_trans (Below.size e1) (Mod.size m7)) (Mod.size m14)) (Mod.size m21)))) (k := 4) (Nat.le_of_ble_eq_true rfl) rfl ?_
    intro w36 c36 B36
    conv => whnf
    refine SemK.loadAgg (n := 5) (by kernel_rfl) B36.cells rfl ?_
    conv => whnf
    refine SemK.storeAll (by kernel_rfl) ((((((((B1.mod m7 (blkNew h.lt g1 (Nat.le_refl _))).mod m14 (blkNew h.lt g1 (Nat.le_refl _))).mod m21 (blkNew h.lt g1 (Nat.le_refl _))).ext (Ext.but_trans e23 c24.but g23)).mod m27 (blkNew h.lt g1 (Nat.le_refl _))).ext e30).mod m34 (blkNew h.lt g1 (Nat.le_refl _))).mod c36.but (by have := Mod.size m7; have := Mod.size m14; have := Mod.size m21; show ¬ b1 = b23; omega)) (vs := [Value.string s, Value.int IntKind.i64 r2, Value.int IntKind.i64 (1900 + r9), Value.int IntKind.i64 (1 + r16), Value.string r31]) rfl rfl (by simp [cellish]) ?_
    intro w37 c37 B37
    conv => whnf
    refine CellK.of (run_loadAgg (n := 5) (by kernel_rfl) rfl B37.cells) ?_
    conv => whnf
    refine ⟨⟨s, r2, 1900 + r9, 1 + r16, r31⟩, rfl, box_both hs (by simp only [i64ok]; omega) (by simp only [i64ok]; omega) (by simp only [i64ok]; omega) ?_, ?_, ?_⟩
    · simp only [List.mem_cons, List.not_mem_nil, or_false] at q32
      rcases q32 with rfl | rfl <;> exact Nat.le_of_ble_eq_true rfl
    · exact (((S33.chg c36 h.lt g23 (Nat.le_trans (Nat.le_trans (Nat.le_trans (Below.size e1) (Mod.size m7)) (Mod.size m14)) (Mod.size m21))).chg c37 h.lt g1 (Nat.le_refl _)).more (by omega))
    · exact ((((((((((e1.mod.trans m7).trans m14).trans m21).trans e23.mod).trans_new c24.but (fun k hk => Nat.le_trans (Nat.le_trans (Nat.le_trans (Nat.le_trans (Below.size e1) (Mod.size m7)) (Mod.size m14)) (Mod.size m21)) (Nat.le_trans g23 (Nat.le_of_eq hk.symm)))).trans m27).trans e30.mod).trans m34).trans_new c36.but (fun k hk => Nat.le_trans (Nat.le_trans (Nat.le_trans (Nat.le_trans (Below.size e1) (Mod.size m7)) (Mod.size m14)) (Mod.size m21)) (Nat.le_trans g23 (Nat.le_of_eq hk.symm)))).trans_new c37.but (fun k hk => Nat.le_trans (Nat.le_refl _) (Nat.le_trans g1 (Nat.le_of_eq hk.symm))))
  · conv => whnf
    refine SemK.loadAgg (n := 5) (by kernel_rfl) (B24.mod m27 (blkNew h.lt g23 (Nat.le_trans (Nat.le_trans (Nat.le_trans (Below.size e1) (Mod.size m7)) (Mod.size m14)) (Mod.size m21)))).cells rfl ?_
    conv => whnf
    refine SemK.storeAll (by kernel_rfl) (((((B1.mod m7 (blkNew h.lt g1 (Nat.le_refl _))).mod m14 (blkNew h.lt g1 (Nat.le_refl _))).mod m21 (blkNew h.lt g1 (Nat.le_refl _))).ext (Ext.but_trans e23 c24.but g23)).mod m27 (blkNew h.lt g1 (Nat.le_refl _))) (vs := [Value.string s, Value.int IntKind.i64 r2, Value.int IntKind.i64 (1900 + r9), Value.int IntKind.i64 (1 + r16), Value.string { data := #[] }]) rfl rfl (by simp [List.cons, cellish]) ?_
    intro w38 c38 B38
    conv => whnf
    refine CellK.of (run_loadAgg (n := 5) (by kernel_rfl) rfl B38.cells) ?_
    conv => whnf
    refine ⟨⟨s, r2, 1900 + r9, 1 + r16, { data := #[] }⟩, rfl, box_both hs (by simp only [i64ok]; omega) (by simp only [i64ok]; omega) (by simp only [i64ok]; omega) (Nat.le_of_ble_eq_true rfl), ?_, ?_⟩
    · exact ((S26.chg c38 h.lt g1 (Nat.le_refl _)).more (by omega))
    · exact (((((((e1.mod.trans m7).trans m14).trans m21).trans e23.mod).trans_new c24.but (fun k hk => Nat.le_trans (Nat.le_trans (Nat.le_trans (Nat.le_trans (Below.size e1) (Mod.size m7)) (Mod.size m14)) (Mod.size m21)) (Nat.le_trans g23 (Nat.le_of_eq hk.symm)))).trans m27).trans_new c38.but (fun k hk => Nat.le_trans (Nat.le_refl _) (Nat.le_trans g1 (Nat.le_of_eq hk.symm))))
theorem spec_l26Spoil {w : World} {a0 : Option Addr} {k : Nat} (h : Src w a0 k) (hk : k ≤ 1000000) {b n t i o : Nat} {xs : List TBox} (hO : Own TBox.enc w (some ⟨b, 0, none⟩) n t xs) {x : TBox} (hx : xs[i]? = some x) (hxo : x.ok) (ho : o = 0 + i * 5) (hap : Apart a0 (some ⟨b, 0, none⟩)) :
    Does Tryz.prog 153 [.pointer a0, .pointer (some ⟨b, o, none⟩)] w (fun v w' => ∃ wm, ∃ y : TBox, v = .tuple #[] ∧ y.ok ∧ Mod (blkIn a0) w wm ∧ Mod (blkIn (some ⟨b, 0, none⟩)) wm w' ∧ Own TBox.enc w' (some ⟨b, 0, none⟩) n t (xs.set i y) ∧ Src wm a0 (k + 20)) := by
  subst ho
  have hn := hO.1
  have hi := (List.getElem?_eq_some_iff.1 hx).1
  refine Does.of_vc tabok Tryz.func153 rfl rfl rfl (by kernel_rfl) ?_; conv => whnf
  refine (spec_pick h (by omega) (by omega)).mono ?_
  rintro _ w7 ⟨r1, rfl, q2, q3, q4, S5, m6⟩
  conv => whnf
  with_reducible refine IfB.dec (fun h8 => ?_) (fun h8 => ?_)
  · conv => whnf
    refine SemK.buildSlice mk_32 (vs := [Value.string { data := #[] }, Value.string { data := #[65] }, Value.string { data := #[122, 122] }]) (by rfl) (by rfl) (by simp [Value.cells]) (by decide) ?_
    intro b9 w9 g9 l9 e9 B9
    have G9 := Grow.of_blk (n := 3) (enc := eS) (xs := [{ data := #[] }, { data := #[65] }, { data := #[122, 122] }]) eS_len B9 g9 rfl (by decide)
    conv => whnf
    refine (spec_text (S5.ext e9) (by omega) (G9.own.arr eS_len) (apart' G9.new h.lt (Mod.size m6)) (by omega) (by omega)).mono ?_
    rintro _ w14 ⟨r10, rfl, q11, S12, m13⟩
    conv => whnf
    refine SemK.storeOwn1 (k := i) (j := 0) (by kernel_rfl) TBox.enc_len (((hO.mod m6 hap).ext e9).mod m13 hap) hx (by decide) rfl { x with name := r10 } rfl ?_
    intro w15 c15 B15
    have hx15 := set_get hx ({ x with name := r10 })
    conv => whnf
    refine ⟨w14, { x with name := r10 }, rfl, ?_, (m6.trans e9.mod).trans m13, c15.but.mono (fun i hi => ⟨_, rfl, hi⟩), B15, S12.more (by omega)⟩
    refine ⟨?_, hxo.2.1, hxo.2.2.1, hxo.2.2.2.1, hxo.2.2.2.2⟩; simp only [List.mem_cons, List.not_mem_nil, or_false] at q11; (repeat' (rcases q11 with rfl | q11)); all_goals first | exact Nat.le_of_ble_eq_true rfl | (subst q11; exact Nat.le_of_ble_eq_true rfl) | (simp [i64ok]; done) | (subst q11; simp [i64ok]; done)
  · conv => whnf
    with_reducible refine IfB.dec (fun h16 => ?_) (fun h16 => ?_)
    · conv => whnf
      refine SemK.buildSlice mk_41 (vs := [Value.int IntKind.i64 (-1), Value.int IntKind.i64 0, Value.int IntKind.i64 100000, Value.int IntKind.i64 100001]) (by rfl) (by rfl) (by simp [Value.cells]) (by decide) ?_
      intro b17 w17 g17 l17 e17 B17
      have G17 := Grow.of_blk (n := 4) (enc := eI) (xs := [-1, 0, 100000, 100001]) eI_len B17 g17 rfl (by decide)
      conv => whnf
      refine (spec_among (S5.ext e17) (by omega) (G17.own.arr eI_len) (apart' G17.new h.lt (Mod.size m6)) (by omega) (by omega)).mono ?_
      rintro _ w22 ⟨r18, rfl, q19, S20, m21⟩
      conv => whnf
      refine SemK.storeOwn1 (k := i) (j := 1) (by kernel_rfl) TBox.enc_len (((hO.mod m6 hap).ext e17).mod m21 hap) hx (by decide) rfl { x with cards := r18 } rfl ?_
      intro w23 c23 B23
      have hx23 := set_get hx ({ x with cards := r18 })
      conv => whnf
      refine ⟨w22, { x with cards := r18 }, rfl, ?_, (m6.trans e17.mod).trans m21, c23.but.mono (fun i hi => ⟨_, rfl, hi⟩), B23, S20.more (by omega)⟩
      refine ⟨hxo.1, ?_, hxo.2.2.1, hxo.2.2.2.1, hxo.2.2.2.2⟩; simp only [List.mem_cons, List.not_mem_nil, or_false] at q19; (repeat' (rcases q19 with rfl | q19)); all_goals first | exact Nat.le_of_ble_eq_true rfl | (subst q19; exact Nat.le_of_ble_eq_true rfl) | (simp [i64ok]; done) | (subst q19; simp [i64ok]; done)
    · conv => whnf
      with_reducible refine IfB.dec (fun h24 => ?_) (fun h24 => ?_)
      · conv => whnf
        refine SemK.buildSlice mk_41 (vs := [Value.int IntKind.i64 1799, Value.int IntKind.i64 1800, Value.int IntKind.i64 3000, Value.int IntKind.i64 3001, Value.int IntKind.i64 9223372036854775807]) (by rfl) (by rfl) (by simp [Value.cells]) (by decide) ?_
        intro b25 w25 g25 l25 e25 B25
        have G25 := Grow.of_blk (n := 5) (enc := eI) (xs := [1799, 1800, 3000, 3001, 9223372036854775807]) eI_len B25 g25 rfl (by decide)
        conv => whnf
        refine (spec_among (S5.ext e25) (by omega) (G25.own.arr eI_len) (apart' G25.new h.lt (Mod.size m6)) (by omega) (by omega)).mono ?_
        rintro _ w30 ⟨r26, rfl, q27, S28, m29⟩
        conv => whnf
        refine SemK.storeOwn1 (k := i) (j := 2) (by kernel_rfl) TBox.enc_len (((hO.mod m6 hap).ext e25).mod m29 hap) hx (by decide) rfl { x with year := r26 } rfl ?_
        intro w31 c31 B31
        have hx31 := set_get hx ({ x with year := r26 })
        conv => whnf
        refine ⟨w30, { x with year := r26 }, rfl, ?_, (m6.trans e25.mod).trans m29, c31.but.mono (fun i hi => ⟨_, rfl, hi⟩), B31, S28.more (by omega)⟩
        refine ⟨hxo.1, hxo.2.1, ?_, hxo.2.2.2.1, hxo.2.2.2.2⟩; simp only [List.mem_cons, List.not_mem_nil, or_false] at q27; (repeat' (rcases q27 with rfl | q27)); all_goals first | exact Nat.le_of_ble_eq_true rfl | (subst q27; exact Nat.le_of_ble_eq_true rfl) | (simp [i64ok]; done) | (subst q27; simp [i64ok]; done)
      · conv => whnf
        with_reducible refine IfB.dec (fun h32 => ?_) (fun h32 => ?_)
        · conv => whnf
          refine SemK.buildSlice mk_41 (vs := [Value.int IntKind.i64 0, Value.int IntKind.i64 1, Value.int IntKind.i64 100, Value.int IntKind.i64 101]) (by rfl) (by rfl) (by simp [Value.cells]) (by decide) ?_
          intro b33 w33 g33 l33 e33 B33
          have G33 := Grow.of_blk (n := 4) (enc := eI) (xs := [0, 1, 100, 101]) eI_len B33 g33 rfl (by decide)
          conv => whnf
          refine (spec_among (S5.ext e33) (by omega) (G33.own.arr eI_len) (apart' G33.new h.lt (Mod.size m6)) (by omega) (by omega)).mono ?_
          rintro _ w38 ⟨r34, rfl, q35, S36, m37⟩
          conv => whnf
          refine SemK.storeOwn1 (k := i) (j := 3) (by kernel_rfl) TBox.enc_len (((hO.mod m6 hap).ext e33).mod m37 hap) hx (by decide) rfl { x with keep := r34 } rfl ?_
          intro w39 c39 B39
          have hx39 := set_get hx ({ x with keep := r34 })
          conv => whnf
          refine ⟨w38, { x with keep := r34 }, rfl, ?_, (m6.trans e33.mod).trans m37, c39.but.mono (fun i hi => ⟨_, rfl, hi⟩), B39, S36.more (by omega)⟩
          refine ⟨hxo.1, hxo.2.1, hxo.2.2.1, ?_, hxo.2.2.2.2⟩; simp only [List.mem_cons, List.not_mem_nil, or_false] at q35; (repeat' (rcases q35 with rfl | q35)); all_goals first | exact Nat.le_of_ble_eq_true rfl | (subst q35; exact Nat.le_of_ble_eq_true rfl) | (simp [i64ok]; done) | (subst q35; simp [i64ok]; done)
        · conv => whnf
          refine IfB.yes (by omega) ?_
          conv => whnf
          refine SemK.buildSlice mk_32 (vs := [Value.string { data := #[65, 110, 110] }, Value.string { data := #[49] }, Value.string { data := #[97, 110, 110] }]) (by rfl) (by rfl) (by simp [Value.cells]) (by decide) ?_
          intro b40 w40 g40 l40 e40 B40
          have G40 := Grow.of_blk (n := 3) (enc := eS) (xs := [{ data := #[65, 110, 110] }, { data := #[49] }, { data := #[97, 110, 110] }]) eS_len B40 g40 rfl (by decide)
          conv => whnf
          refine (spec_text (S5.ext e40) (by omega) (G40.own.arr eS_len) (apart' G40.new h.lt (Mod.size m6)) (by omega) (by omega)).mono ?_
          rintro _ w45 ⟨r41, rfl, q42, S43, m44⟩
          conv => whnf
          refine SemK.storeOwn1 (k := i) (j := 4) (by kernel_rfl) TBox.enc_len (((hO.mod m6 hap).ext e40).mod m44 hap) hx (by decide) rfl { x with lent := r41 } rfl ?_
          intro w46 c46 B46
          have hx46 := set_get hx ({ x with lent := r41 })
          conv => whnf
          refine ⟨w45, { x with lent := r41 }, rfl, ?_, (m6.trans e40.mod).trans m44, c46.but.mono (fun i hi => ⟨_, rfl, hi⟩), B46, S43.more (by omega)⟩
          refine ⟨hxo.1, hxo.2.1, hxo.2.2.1, hxo.2.2.2.1, ?_⟩; simp only [List.mem_cons, List.not_mem_nil, or_false] at q42; (repeat' (rcases q42 with rfl | q42)); all_goals first | exact Nat.le_of_ble_eq_true rfl | (subst q42; exact Nat.le_of_ble_eq_true rfl) | (simp [i64ok]; done) | (subst q42; simp [i64ok]; done)
theorem spec_l26Name {w : World} {a0 : Option Addr} {k : Nat} (h : Src w a0 k) (hk : k ≤ 1000000) :
    Does Tryz.prog 151 [.pointer a0] w (fun v w' => ∃ s : ByteArray, v = .string s ∧ s.size ≤ 12 ∧ Src w' a0 (k + 2) ∧ Mod (blkIn a0) w w') := by
  refine Does.of_vc tabok Tryz.func151 rfl rfl rfl (by kernel_rfl) ?_; conv => whnf
  refine SemK.buildSlice mk_32 (vs := [Value.string { data := #[97] }, Value.string { data := #[98] }, Value.string { data := #[99, 45, 49] }, Value.string { data := #[100] }, Value.string { data := #[101] }, Value.string { data := #[102] }, Value.string { data := #[103] }]) (by rfl) (by rfl) (by simp [Value.cells]) (by decide) ?_
  intro b1 w1 g1 l1 e1 B1
  have G1 := Grow.of_blk (n := 7) (enc := eS) (xs := [{ data := #[97] }, { data := #[98] }, { data := #[99, 45, 49] }, { data := #[100] }, { data := #[101] }, { data := #[102] }, { data := #[103] }]) eS_len B1 g1 rfl (by decide)
  conv => whnf
  refine (spec_text (h.ext e1) (by omega) (G1.own.arr eS_len) (apart' G1.new h.lt (Nat.le_refl _)) (by omega) (by omega)).mono ?_
  rintro _ w6 ⟨r2, rfl, q3, S4, m5⟩
  conv => whnf
  refine ⟨_, rfl, ?_, S4, (e1.mod.trans m5)⟩
  · simp only [List.mem_cons, List.not_mem_nil, or_false] at q3
    rcases q3 with rfl | rfl | rfl | rfl | rfl | rfl | rfl <;> exact Nat.le_of_ble_eq_true rfl
theorem spec_l26Draw {w : World} {a0 : Option Addr} {k : Nat} (h : Src w a0 k) (hk : k ≤ 100000) :
    Does Tryz.prog 176 [.pointer a0] w (fun v w' => ∃ a' n' c' xs, v = .slice a' n' c' ∧ n' ≤ 6 ∧ (∀ x ∈ xs, x.ok ∧ boxSm x) ∧ NewAt w.heap.size a' ∧ Grow TBox.enc 5 w.heap.size 99 w' a' n' c' xs ∧ Src w' a0 (k + 200) ∧ Mod (blkIn a0) w w') := by
  refine Does.of_vc tabok Tryz.func176 rfl rfl rfl (by kernel_rfl) ?_; conv => whnf
  refine SemK.buildSlice mk_32 (vs := [Value.string { data := #[97] }, Value.string { data := #[98] }, Value.string { data := #[99, 45, 49] }, Value.string { data := #[100] }, Value.string { data := #[101] }, Value.string { data := #[102] }]) (by rfl) (by rfl) (by simp [Value.cells]) (by decide) ?_
  intro b1 w1 g1 l1 e1 B1
  have G1 := Grow.of_blk (n := 6) (enc := eS) (xs := [{ data := #[97] }, { data := #[98] }, { data := #[99, 45, 49] }, { data := #[100] }, { data := #[101] }, { data := #[102] }]) eS_len B1 g1 rfl (by decide)
  conv => whnf
  refine SemK.buildSlice mk_97 (vs := []) (by rfl) (by rfl) (by simp [Value.cells]) (by decide) ?_
  intro b2 w2 g2 l2 e2 B2
  have G2 := Grow.new0 (enc := TBox.enc) TBox.enc_len B2 g2
  conv => whnf
  obtain ⟨names, hN, G1'⟩ : ∃ names : List ByteArray, (∀ x ∈ names, x.size ≤ 12) ∧ Grow eS 1 w.heap.size 9 w1 (some ⟨b1, 0, none⟩) 6 6 names := ⟨_, by simp only [List.mem_cons, List.not_mem_nil, or_false]; rintro x (rfl | rfl | rfl | rfl | rfl | rfl) <;> exact Nat.le_of_ble_eq_true rfl, G1⟩
  clear G1 B1
  have hNl := G1'.len
  refine LoopK.rule [0, 3, 4, 5] (fun (j : Nat) vs w' => ∃ a1 n1 c1 xs1, vs = [.pointer a0, .slice (some ⟨b1, 0, none⟩) 6 6, .slice a1 n1 c1, .int .i64 j] ∧ j ≤ 6 ∧ n1 ≤ j ∧ (∀ x ∈ xs1, x.ok ∧ boxSm x) ∧ Grow TBox.enc 5 w1.heap.size 99 w' a1 n1 c1 xs1 ∧ Arr eS 1 w' (some ⟨b1, 0, none⟩) 6 names ∧ Src w' a0 (k + 30 * j) ∧ Mod (blkIn a0) w1 w') (fun j => 6 - j) tab tabok (by kernel_rfl) 0
    ⟨_, _, _, _, rfl, by omega, by omega, by simp, G2, (G1'.ext e2).own.arr eS_len, (h.ext (Ext.trans e1 e2)).more (by omega), Ext.mod e2⟩ ?_
  rintro j g _ w3 ⟨a1, n1, c1, xs1, rfl, hj, hn1, hok1, hG, hA, hS, hM⟩
  conv => whnf
  with_reducible refine IfB.dec (fun h4 => ?_) (fun h4 => ?_)
  · conv => whnf
    refine (spec_one hS (by omega) (by omega)).mono ?_
    rintro _ w8 ⟨r5, rfl, S6, m7⟩
    conv => whnf
    with_reducible refine IfB.split (fun h9 => ?_) (fun h9 => ?_)
    · conv => whnf
      obtain ⟨x10, hx10⟩ : ∃ x, names[j]? = some x := get_of_lt (by omega)
      have ok10 := hN _ (List.mem_of_getElem? hx10)
      refine SemK.indexOwn (sz := 1) (by kernel_rfl) j rfl (by omega) ?_
      have hb11 := Own.elem eS_len ((G1'.mod hM (apart' G1'.new h.lt (Nat.le_refl _))).mod m7 (apart' G1'.new h.lt (Nat.le_refl _))).own hx10
      conv => whnf
      refine SemK.load0 (by kernel_rfl) hb11 rfl ?_
      conv => whnf
      refine (spec_l26New S6 (by omega) ok10).mono ?_
      rintro _ w16 ⟨x12, rfl, q13, S14, m15⟩
      conv => whnf
      refine SemK.buildSlice mk_97 (vs := [Value.agg { toList := x12.enc }]) (by rfl) (by rfl) (by simp [Value.cells, TBox.enc]) (by decide) ?_
      intro b17 w17 g17 l17 e17 B17
      have G17 := Grow.of_blk (n := 1) (enc := TBox.enc) (xs := [x12]) TBox.enc_len B17 g17 rfl (by decide)
      conv => whnf
      refine SemK.appendArr0 (enc := TBox.enc) mk_97 TBox.enc_len (((hG.mod m7 (apart' hG.new h.lt (Below.size e1))).mod m15 (apart' hG.new h.lt (Below.size e1))).ext e17) (G17.own.arr TBox.enc_len) (by intro y _; simp [TBox.enc, cellish]) (by omega) (by omega) (Nat.le_trans (Nat.le_trans (Nat.le_trans (Mod.size hM) (Mod.size m7)) (Mod.size m15)) (Below.size e17)) ?_
      intro a18 c18 w18 G18 m18 i18
      conv => whnf
      refine SemK.add (((j + 1 : Nat) : Int)) (by omega) (by omega) (by omega) ?_
      conv => whnf
      refine ⟨j + 1, by omega, _, _, _, _, rfl, by omega, by omega, ?_, G18, ((((hA.mod m7 (apart' G1'.new h.lt (Nat.le_refl _))).mod m15 (apart' G1'.new h.lt (Nat.le_refl _))).ext e17).mod m18 (apart G1'.lt hG.new (Nat.le_refl _))), (((S14.ext e17).mod m18 (later h.lt hG.new (Below.size e1))).more (by omega)), ((((hM.trans m7).trans m15).trans e17.mod).trans_new m18 (fun k hk => Nat.le_trans (Nat.le_refl _) (blkIn_new hG.new k hk)))⟩
      · exact all_snoc hok1 q13
    · conv => whnf
      refine SemK.add (((j + 1 : Nat) : Int)) (by omega) (by omega) (by omega) ?_
      conv => whnf
      exact ⟨j + 1, by omega, _, _, _, _, rfl, by omega, by omega, by omega, (hG.mod m7 (apart' hG.new h.lt (Below.size e1))), (hA.mod m7 (apart' G1'.new h.lt (Nat.le_refl _))), (S6.more (by omega)), (hM.trans m7)⟩
  · conv => whnf
    have kn19 : j = 6 := by omega
    have tk20 : List.take j names = names := List.take_of_length_le (by omega)
    exact ⟨_, _, _, _, rfl, by omega, by omega, (hG.new.mono (Below.size e1)), (hG.base (Below.size e1)), (hS.more (by omega)), (e1.mod.trans hM)⟩
theorem spec_l26Bent {w : World} {a0 : Option Addr} {k : Nat} (h : Src w a0 k) (hk : k ≤ 100000) :
    Does Tryz.prog 149 [.pointer a0] w (fun v w' => ∃ a' n' c' xs, v = .slice a' n' c' ∧ n' ≤ 42 ∧ n' ≤ c' ∧ (∀ x ∈ xs, x.ok) ∧ NewAt w.heap.size a' ∧ Own TBox.enc w' a' n' 99 xs ∧ Src w' a0 (k + 300) ∧ Mod (blkIn a0) w w') := by
  refine Does.of_vc tabok Tryz.func149 rfl rfl rfl (by kernel_rfl) ?_; conv => whnf
  refine (spec_l26Draw h hk).mono ?_
  rintro _ w11 ⟨a'1, n'2, c'3, xs4, rfl, q5, q6, N7, G8, S9, m10⟩
  have q6 := fun x hx => (q6 x hx).1
  have leG8 := G8.le.1
  have lnG8 := G8.len
  conv => whnf
  refine (spec_one S9 (by omega) (by omega)).mono ?_
  rintro _ w15 ⟨r12, rfl, S13, m14⟩
  conv => whnf
  with_reducible refine IfB.split (fun h16 => ?_) (fun h16 => ?_)
  · conv => whnf
    refine SemK.buildSlice mk_97 (vs := []) (by rfl) (by rfl) (by simp [Value.cells]) (by decide) ?_
    intro b17 w17 g17 l17 e17 B17
    have G17 := Grow.new0 (enc := TBox.enc) TBox.enc_len B17 g17
    conv => whnf
    refine (spec_pick (S13.ext e17) (by omega) (by omega)).mono ?_
    rintro _ w24 ⟨r18, rfl, q19, q20, q21, S22, m23⟩
    conv => whnf
    refine SemK.add _ rfl (by omega) (by omega) ?_
    conv => whnf
    refine LoopK.rule [0, 3, 4] (fun (j : Int) vs w' => ∃ a1 n1 c1 xs1, vs = [.pointer a0, .slice a1 n1 c1, .int .i64 j] ∧ 0 ≤ j ∧ n1 + j ≤ 41 ∧ (∀ x ∈ xs1, x.ok) ∧ Grow TBox.enc 5 w15.heap.size 99 w' a1 n1 c1 xs1 ∧ Src w' a0 (k + 210) ∧ Mod (blkIn a0) w15 w') (fun j => j.toNat) tab tabok (by kernel_rfl) (40 + r18)
      ⟨_, _, _, _, rfl, by omega, by omega, by simp, G17.mod m23 (apart' G17.new S13.lt (Nat.le_refl _)), S22.more (by omega), e17.mod.trans m23⟩ ?_
    rintro j g _ w25 ⟨a1, n1, c1, xs1, rfl, hj, hn1, hok1, hG, hS, hM⟩
    have lnG := hG.len
    have leG := hG.le.1
    rcases Decidable.em (0 < j) with hj0 | hj0
    · conv => whnf
      refine IfB.yes (by omega) ?_
      conv => whnf
      refine SemK.quo (by omega) (by omega) (by omega) ?_
      conv => whnf
      refine SemK.add _ rfl (by omega) (by omega) ?_
      conv => whnf
      refine SemK.conv (k := .u8) (by kernel_rfl) (by kernel_rfl) (u8_wrap (by omega) (by omega)) ?_
      conv => whnf
      refine SemK.rem (by omega) (by omega) ?_
      conv => whnf
      refine SemK.add _ rfl (by omega) (by omega) ?_
      conv => whnf
      refine SemK.conv (k := .u8) (by kernel_rfl) (by kernel_rfl) (u8_wrap (by omega) (by omega)) ?_
      conv => whnf
      obtain ⟨y1, hy1⟩ := u8_of (n := 97 + (n1 : Int) / 26) (by omega) (by omega)
      obtain ⟨y2, hy2⟩ := u8_of (n := 97 + (n1 : Int) % 26) (by omega) (by omega)
      rw [← hy1, ← hy2]
      refine SemK.buildSlice mk_22 (vs := [Value.int IntKind.u8 y1.toNat, Value.int IntKind.u8 y2.toNat]) (by rfl) (by rfl) (by simp [Value.cells]) (by decide) ?_
      intro b27 w27 g27 l27 e27 B27
      have G27 := Grow.of_blk (n := 2) (enc := eB) (xs := [y1, y2]) eB_len (by simpa [flat, cellsOf, Value.cells, eB] using B27) g27 rfl (by decide)
      conv => whnf
      refine SemK.toStrG (by kernel_rfl) (by kernel_rfl) G27 ?_
      conv => whnf
      refine SemK.cat (by simp only [ByteArray.size_append, bs_size, sizeC, sizeT, List.length_cons, List.length_nil]; omega) ?_
      conv => whnf
      refine SemK.build st_99 rfl ?_
      conv => whnf
      refine SemK.buildSlice mk_97 (vs := [Value.agg #[Value.string ({ data := #[98] } ++ bs [y1, y2]), Value.int IntKind.i64 ↑n1, Value.int IntKind.i64 1950, Value.int IntKind.i64 5, Value.string { data := #[] }]]) (by rfl) (by rfl) (by simp [Value.cells]) (by decide) ?_
      intro b28 w28 g28 l28 e28 B28
      have G28 := Grow.of_blk (n := 1) (enc := TBox.enc) (xs := [⟨{ data := #[98] } ++ bs [y1, y2], ↑n1, 1950, 5, { data := #[] }⟩]) TBox.enc_len B28 g28 rfl (by decide)
      conv => whnf
      refine SemK.appendArr0 (enc := TBox.enc) mk_97 TBox.enc_len (hG.ext (Ext.trans e27 e28)) (G28.own.arr TBox.enc_len) (by intro y _; simp [TBox.enc, cellish]) (by omega) (by omega) (Nat.le_trans (Nat.le_trans (Mod.size hM) (Below.size e27)) (Below.size e28)) ?_
      intro a29 c29 w29 G29 m29 i29
      conv => whnf
      refine SemK.sub _ rfl (by omega) (by omega) ?_
      conv => whnf
      refine ⟨j - 1, by omega, _, _, _, _, rfl, by omega, by omega, all_snoc hok1 ?_, G29, ?_, ?_⟩
      · refine ⟨Nat.le_of_ble_eq_true rfl, ?_, ?_, ?_, Nat.le_of_ble_eq_true rfl⟩ <;> simp only [i64ok] <;> omega
      · exact ((hS.ext (Ext.trans e27 e28)).mod m29 (later h.lt hG.new (Nat.le_trans (Mod.size m10) (Mod.size m14))))
      · exact (((hM.trans e27.mod).trans e28.mod).trans_new m29 (fun k hk => Nat.le_trans (Nat.le_refl _) (blkIn_new hG.new k hk)))
    · conv => whnf
      refine IfB.no (by omega) ?_
      conv => whnf
      with_reducible refine IfB.dec (fun h26 => ?_) (fun h26 => ?_)
      · conv => whnf
        refine (spec_one hS (by omega) (by omega)).mono ?_
        rintro _ w30 ⟨r27, rfl, S28, m29⟩
        conv => whnf
        with_reducible refine IfB.split (fun h31 => ?_) (fun h31 => ?_)
        · conv => whnf
          refine (spec_pick S28 (by omega) (by omega)).mono ?_
          rintro _ w38 ⟨r32, rfl, q33, q34, q35, S36, m37⟩
          conv => whnf
          obtain ⟨x39, hx39⟩ : ∃ x, xs1[(r32).toNat]? = some x := get_of_lt (by omega)
          have ok39 := hok1 _ (List.mem_of_getElem? hx39)
          obtain ⟨b40, rfl⟩ := (((hG.mod m29 (apart' hG.new h.lt (Nat.le_trans (Mod.size m10) (Mod.size m14)))).mod m37 (apart' hG.new h.lt (Nat.le_trans (Mod.size m10) (Mod.size m14)))).own).some (by omega)
          have gb40 : w15.heap.size ≤ b40 := hG.new _ rfl
          have lb40 : b40 < w25.heap.size := hG.lt _ rfl
          refine SemK.indexOwn (sz := 5) (by kernel_rfl) (r32).toNat (by omega) (by omega) ?_
          have hb40 := Own.elem TBox.enc_len ((hG.mod m29 (apart' hG.new h.lt (Nat.le_trans (Mod.size m10) (Mod.size m14)))).mod m37 (apart' hG.new h.lt (Nat.le_trans (Mod.size m10) (Mod.size m14)))).own hx39
          conv => whnf
          refine (spec_l26Spoil S36 (by omega) ((hG.mod m29 (apart' (NewAt.some gb40) h.lt (Nat.le_trans (Mod.size m10) (Mod.size m14)))).mod m37 (apart' (NewAt.some gb40) h.lt (Nat.le_trans (Mod.size m10) (Mod.size m14)))).own hx39 ok39 (by omega) (apart' (NewAt.some gb40) h.lt (Nat.le_trans (Mod.size m10) (Mod.size m14)))).mono ?_
          rintro _ w48 ⟨wm41, y42, rfl, q43, m44, m45, O46, S47⟩
          conv => whnf
          refine ⟨_, _, _, _, rfl, by omega, by omega, ?_, (hG.new.mono (Nat.le_trans (Mod.size m10) (Mod.size m14))), O46, ((S47.mod m45 (later h.lt (NewAt.some gb40) (Nat.le_trans (Mod.size m10) (Mod.size m14)))).more (by omega)), ((((((m10.trans m14).trans hM).trans m29).trans m37).trans m44).trans_new m45 (fun k hk => Nat.le_trans (Nat.le_trans (Mod.size m10) (Mod.size m14)) (blkIn_new (NewAt.some gb40) k hk)))⟩
          · exact all_set hok1 q43 _
        · conv => whnf
          exact ⟨_, _, _, _, rfl, by omega, by omega, by omega, (hG.new.mono (Nat.le_trans (Mod.size m10) (Mod.size m14))), (hG.mod m29 (apart' hG.new h.lt (Nat.le_trans (Mod.size m10) (Mod.size m14)))).own, (S28.more (by omega)), (((m10.trans m14).trans hM).trans m29)⟩
      · conv => whnf
        exact ⟨_, _, _, _, rfl, by omega, by omega, by omega, (hG.new.mono (Nat.le_trans (Mod.size m10) (Mod.size m14))), hG.own, (hS.more (by omega)), ((m10.trans m14).trans hM)⟩
  · conv => whnf
    with_reducible refine IfB.dec (fun h25 => ?_) (fun h25 => ?_)
    · conv => whnf
      refine (spec_one S13 (by omega) (by omega)).mono ?_
      rintro _ w29 ⟨r26, rfl, S27, m28⟩
      conv => whnf
      with_reducible refine IfB.split (fun h30 => ?_) (fun h30 => ?_)
      · conv => whnf
        refine (spec_pick S27 (by omega) (by omega)).mono ?_
        rintro _ w37 ⟨r31, rfl, q32, q33, q34, S35, m36⟩
        conv => whnf
        obtain ⟨x38, hx38⟩ : ∃ x, xs4[(r31).toNat]? = some x := get_of_lt (by omega)
        have ok38 := q6 _ (List.mem_of_getElem? hx38)
        obtain ⟨b39, rfl⟩ := ((((G8.mod m14 (apart' G8.new h.lt (Nat.le_refl _))).mod m28 (apart' G8.new h.lt (Nat.le_refl _))).mod m36 (apart' G8.new h.lt (Nat.le_refl _))).own).some (by omega)
        have gb39 : w.heap.size ≤ b39 := G8.new _ rfl
        have lb39 : b39 < w11.heap.size := G8.lt _ rfl
        refine SemK.indexOwn (sz := 5) (by kernel_rfl) (r31).toNat (by omega) (by omega) ?_
        have hb39 := Own.elem TBox.enc_len (((G8.mod m14 (apart' G8.new h.lt (Nat.le_refl _))).mod m28 (apart' G8.new h.lt (Nat.le_refl _))).mod m36 (apart' G8.new h.lt (Nat.le_refl _))).own hx38
        conv => whnf
        refine (spec_l26Spoil S35 (by omega) (((G8.mod m14 (apart' (NewAt.some gb39) h.lt (Nat.le_refl _))).mod m28 (apart' (NewAt.some gb39) h.lt (Nat.le_refl _))).mod m36 (apart' (NewAt.some gb39) h.lt (Nat.le_refl _))).own hx38 ok38 (by omega) (apart' (NewAt.some gb39) h.lt (Nat.le_refl _))).mono ?_
        rintro _ w47 ⟨wm40, y41, rfl, q42, m43, m44, O45, S46⟩
        conv => whnf
        refine ⟨_, _, _, _, rfl, by omega, by omega, ?_, G8.new, O45, ((S46.mod m44 (later h.lt (NewAt.some gb39) (Nat.le_refl _))).more (by omega)), (((((m10.trans m14).trans m28).trans m36).trans m43).trans_new m44 (fun k hk => Nat.le_trans (Nat.le_refl _) (blkIn_new (NewAt.some gb39) k hk)))⟩
        · exact all_set q6 q42 _
      · conv => whnf
        exact ⟨_, _, _, _, rfl, by omega, by omega, by omega, G8.new, ((G8.mod m14 (apart' G8.new h.lt (Nat.le_refl _))).mod m28 (apart' G8.new h.lt (Nat.le_refl _))).own, (S27.more (by omega)), ((m10.trans m14).trans m28)⟩
    · conv => whnf
      exact ⟨_, _, _, _, rfl, by omega, by omega, by omega, G8.new, (G8.mod m14 (apart' G8.new h.lt (Nat.le_refl _))).own, (S13.more (by omega)), (m10.trans m14)⟩
end Go.Proofs.YtkjmbjedbmblmaaGreatDoor
