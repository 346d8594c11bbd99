/- Contracts of functions of the given program, of the reference and of the laws: each says what a call returns, for all arguments that meet the premises that the theorem itself names. -/
import Derived.Test.YtehofnnghbcjgaaGreatDoorDraw
import Derived.Test.YtehofnnghbcjgaaGreatDoorFNote
import Derived.Test.YtehofnnghbcjgaaGreatDoorNotes
import Derived.Test.YtehofnnghbcjgaaGreatDoorKept
namespace Go.Proofs.YtehofnnghbcjgaaGreatDoor
open Go Go.RowKit Go.Vc Go.M
theorem spec_l27DrawNote {w : World} {a0 : Option Addr} {k : Nat} (h : Src w a0 k) (hk : k ≤ 1000000) :
    Does Tryz.prog 130 [.pointer a0] w (fun v w' => ∃ x : TNote, v = .agg ⟨x.enc⟩ ∧ x.ok ∧ Src w' a0 (k + 20) ∧ Mod (blkIn a0) w w') := by
  refine Does.of_vc tabok Tryz.func130 rfl rfl rfl (by kernel_rfl) ?_; conv => whnf
  refine SemK.alloc (z := .agg #[.int .i64 0, .int .i64 0, .int .i64 0, .string { data := #[] }]) (by kernel_rfl) ?_
  intro b1 w1 g1 l1 e1 B1
  conv => whnf
  refine (spec_pick (h.ext e1) (by omega) (by omega)).mono ?_
  rintro _ w8 ⟨r2, rfl, q3, q4, q5, S6, m7⟩
  conv => whnf
  refine SemK.build st_31 rfl ?_
  conv => whnf
  refine SemK.alloc (z := .agg #[.int .i64 0, .int .i64 0, .int .i64 0, .string { data := #[] }]) (by kernel_rfl) ?_
  intro b9 w9 g9 l9 e9 B9
  conv => whnf
  refine SemK.storeAll (vs := [Value.int IntKind.i64 r2, Value.int IntKind.i64 0, Value.int IntKind.i64 0, Value.string { data := #[] }]) (by kernel_rfl) B9 rfl rfl (by simp [cellish]) ?_
  intro w10 c10 B10
  conv => whnf
  refine (spec_pick ((S6.ext e9).chg c10 h.lt g9 (Nat.le_trans (Below.size e1) (Mod.size m7))) (by omega) (by omega)).mono ?_
  rintro _ w17 ⟨r11, rfl, q12, q13, q14, S15, m16⟩
  conv => whnf
  refine SemK.store1 (by kernel_rfl) (B10.mod m16 (blkNew h.lt g9 (Nat.le_trans (Below.size e1) (Mod.size m7)))) (k := 1) (Nat.le_of_ble_eq_true rfl) rfl ?_
  intro w18 c18 B18
  have B18 : Blk w18 b9 [Value.int IntKind.i64 r2, Value.int IntKind.i64 r11, Value.int IntKind.i64 0, Value.string { data := #[] }] _ := B18
  conv => whnf
  refine (spec_pick (S15.chg c18 h.lt g9 (Nat.le_trans (Below.size e1) (Mod.size m7))) (by omega) (by omega)).mono ?_
  rintro _ w25 ⟨r19, rfl, q20, q21, q22, S23, m24⟩
  conv => whnf
  refine SemK.sub _ rfl (by omega) (by omega) ?_
  conv => whnf
  refine SemK.store1 (by kernel_rfl) (B18.mod m24 (blkNew h.lt g9 (Nat.le_trans (Below.size e1) (Mod.size m7)))) (k := 2) (Nat.le_of_ble_eq_true rfl) rfl ?_
  intro w26 c26 B26
  have B26 : Blk w26 b9 [Value.int IntKind.i64 r2, Value.int IntKind.i64 r11, Value.int IntKind.i64 (r19 - 500), Value.string { data := #[] }] _ := B26
  conv => whnf
  refine SemK.buildSlice mk_121 (vs := [Value.string { data := #[115, 111, 114, 116, 101, 100] }, Value.string { data := #[109, 101, 114, 103, 101, 100] }, Value.string { data := #[114, 101, 97, 100] }, Value.string { data := #[116, 114, 97, 121, 45, 51] }]) (by rfl) (by rfl) (by simp [Value.cells]) (by decide) ?_
  intro b27 w27 g27 l27 e27 B27
  have G27 := Grow.of_blk (n := 4) (enc := eS) (xs := [{ data := #[115, 111, 114, 116, 101, 100] }, { data := #[109, 101, 114, 103, 101, 100] }, { data := #[114, 101, 97, 100] }, { data := #[116, 114, 97, 121, 45, 51] }]) eS_len B27 g27 rfl (by decide)
  conv => whnf
  refine (spec_text ((S23.chg c26 h.lt g9 (Nat.le_trans (Below.size e1) (Mod.size m7))).ext e27) (by omega) (G27.own.arr eS_len) (apart' G27.new h.lt (Nat.le_trans (Nat.le_trans (Nat.le_trans (Nat.le_trans (Nat.le_trans (Nat.le_trans (Nat.le_trans (Below.size e1) (Mod.size m7)) (Below.size e9)) (Chg.size_le c10)) (Mod.size m16)) (Chg.size_le c18)) (Mod.size m24)) (Chg.size_le c26))) (by omega) (by omega)).mono ?_
  rintro _ w32 ⟨r28, rfl, q29, S30, m31⟩
  conv => whnf
  refine SemK.store1 (by kernel_rfl) ((B26.ext e27).mod m31 (blkNew h.lt g9 (Nat.le_trans (Below.size e1) (Mod.size m7)))) (k := 3) (Nat.le_of_ble_eq_true rfl) rfl ?_
  intro w33 c33 B33
  have B33 : Blk w33 b9 [Value.int IntKind.i64 r2, Value.int IntKind.i64 r11, Value.int IntKind.i64 (r19 - 500), Value.string r28] _ := B33
  conv => whnf
  refine (spec_pick (S30.chg c33 h.lt g9 (Nat.le_trans (Below.size e1) (Mod.size m7))) (by omega) (by omega)).mono ?_
  rintro _ w40 ⟨r34, rfl, q35, q36, q37, S38, m39⟩
  conv => whnf
  with_reducible refine IfB.dec (fun h41 => ?_) (fun h41 => ?_)
  · conv => whnf
    refine SemK.buildSlice mk_52 (vs := [Value.int IntKind.i64 (-1), Value.int IntKind.i64 5, Value.int IntKind.i64 6]) (by rfl) (by rfl) (by simp [Value.cells]) (by decide) ?_
    intro b42 w42 g42 l42 e42 B42
    have G42 := Grow.of_blk (n := 3) (enc := eI) (xs := [-1, 5, 6]) eI_len B42 g42 rfl (by decide)
    conv => whnf
    refine (spec_among (S38.ext e42) (by omega) (G42.own.arr eI_len) (apart' G42.new h.lt (Nat.le_trans (Nat.le_trans (Nat.le_trans (Nat.le_trans (Nat.le_trans (Nat.le_trans (Nat.le_trans (Nat.le_trans (Nat.le_trans (Nat.le_trans (Nat.le_trans (Below.size e1) (Mod.size m7)) (Below.size e9)) (Chg.size_le c10)) (Mod.size m16)) (Chg.size_le c18)) (Mod.size m24)) (Chg.size_le c26)) (Below.size e27)) (Mod.size m31)) (Chg.size_le c33)) (Mod.size m39))) (by omega) (by omega)).mono ?_
    rintro _ w47 ⟨r43, rfl, q44, S45, m46⟩
    conv => whnf
    refine SemK.store1 (by kernel_rfl) (((B33.mod m39 (blkNew h.lt g9 (Nat.le_trans (Below.size e1) (Mod.size m7)))).ext e42).mod m46 (blkNew h.lt g9 (Nat.le_trans (Below.size e1) (Mod.size m7)))) (k := 0) (Nat.le_of_ble_eq_true rfl) rfl ?_
    intro w48 c48 B48
    have B48 : Blk w48 b9 [Value.int IntKind.i64 r43, Value.int IntKind.i64 r11, Value.int IntKind.i64 (r19 - 500), Value.string r28] _ := B48
    conv => whnf
    refine SemK.loadAgg (n := 4) (by kernel_rfl) B48.cells rfl ?_
    conv => whnf
    refine SemK.storeAll (by kernel_rfl) (((((((((((((B1.mod m7 (blkNew h.lt g1 (Nat.le_refl _))).ext (Ext.but_trans e9 c10.but g9)).mod m16 (blkNew h.lt g1 (Nat.le_refl _))).mod c18.but (neChg l1 g9 (Mod.size m7))).mod m24 (blkNew h.lt g1 (Nat.le_refl _))).mod c26.but (neChg l1 g9 (Mod.size m7))).ext e27).mod m31 (blkNew h.lt g1 (Nat.le_refl _))).mod c33.but (neChg l1 g9 (Mod.size m7))).mod m39 (blkNew h.lt g1 (Nat.le_refl _))).ext e42).mod m46 (blkNew h.lt g1 (Nat.le_refl _))).mod c48.but (neChg l1 g9 (Mod.size m7))) (vs := [Value.int IntKind.i64 r43, Value.int IntKind.i64 r11, Value.int IntKind.i64 (r19 - 500), Value.string r28]) rfl rfl (by simp [List.cons, cellish]) ?_
    intro w49 c49 B49
    conv => whnf
    refine CellK.of (run_loadAgg (n := 4) (by kernel_rfl) rfl B49.cells) ?_
    conv => whnf
    refine ⟨⟨r43, r11, (r19 - 500), r28⟩, rfl, ⟨by simp only [List.mem_cons, List.not_mem_nil, or_false] at q44; simp only [i64ok]; omega, by simp only [i64ok]; omega, by simp only [i64ok]; omega, by simp only [List.mem_cons, List.not_mem_nil, or_false] at q29; (repeat' (rcases q29 with rfl | q29)); all_goals first | exact Nat.le_of_ble_eq_true rfl | (subst q29; exact Nat.le_of_ble_eq_true rfl)⟩, ?_, ?_⟩
    · exact (((S45.chg c48 h.lt g9 (Nat.le_trans (Below.size e1) (Mod.size m7))).chg c49 h.lt g1 (Nat.le_refl _)).more (by omega))
    · exact (((((((((((((((e1.mod.trans m7).trans e9.mod).trans_new c10.but (fun k hk => Nat.le_trans (Nat.le_trans (Below.size e1) (Mod.size m7)) (Nat.le_trans g9 (Nat.le_of_eq hk.symm)))).trans m16).trans_new c18.but (fun k hk => Nat.le_trans (Nat.le_trans (Below.size e1) (Mod.size m7)) (Nat.le_trans g9 (Nat.le_of_eq hk.symm)))).trans m24).trans_new c26.but (fun k hk => Nat.le_trans (Nat.le_trans (Below.size e1) (Mod.size m7)) (Nat.le_trans g9 (Nat.le_of_eq hk.symm)))).trans e27.mod).trans m31).trans_new c33.but (fun k hk => Nat.le_trans (Nat.le_trans (Below.size e1) (Mod.size m7)) (Nat.le_trans g9 (Nat.le_of_eq hk.symm)))).trans m39).trans e42.mod).trans m46).trans_new c48.but (fun k hk => Nat.le_trans (Nat.le_trans (Below.size e1) (Mod.size m7)) (Nat.le_trans g9 (Nat.le_of_eq hk.symm)))).trans_new c49.but (fun k hk => Nat.le_trans (Nat.le_refl _) (Nat.le_trans g1 (Nat.le_of_eq hk.symm))))
  · conv => whnf
    with_reducible refine IfB.dec (fun h50 => ?_) (fun h50 => ?_)
    · conv => whnf
      refine SemK.buildSlice mk_52 (vs := [Value.int IntKind.i64 (-1), Value.int IntKind.i64 0, Value.int IntKind.i64 100000, Value.int IntKind.i64 100001]) (by rfl) (by rfl) (by simp [Value.cells]) (by decide) ?_
      intro b51 w51 g51 l51 e51 B51
      have G51 := Grow.of_blk (n := 4) (enc := eI) (xs := [-1, 0, 100000, 100001]) eI_len B51 g51 rfl (by decide)
      conv => whnf
      refine (spec_among (S38.ext e51) (by omega) (G51.own.arr eI_len) (apart' G51.new h.lt (Nat.le_trans (Nat.le_trans (Nat.le_trans (Nat.le_trans (Nat.le_trans (Nat.le_trans (Nat.le_trans (Nat.le_trans (Nat.le_trans (Nat.le_trans (Nat.le_trans (Below.size e1) (Mod.size m7)) (Below.size e9)) (Chg.size_le c10)) (Mod.size m16)) (Chg.size_le c18)) (Mod.size m24)) (Chg.size_le c26)) (Below.size e27)) (Mod.size m31)) (Chg.size_le c33)) (Mod.size m39))) (by omega) (by omega)).mono ?_
      rintro _ w56 ⟨r52, rfl, q53, S54, m55⟩
      conv => whnf
      refine SemK.store1 (by kernel_rfl) (((B33.mod m39 (blkNew h.lt g9 (Nat.le_trans (Below.size e1) (Mod.size m7)))).ext e51).mod m55 (blkNew h.lt g9 (Nat.le_trans (Below.size e1) (Mod.size m7)))) (k := 1) (Nat.le_of_ble_eq_true rfl) rfl ?_
      intro w57 c57 B57
      have B57 : Blk w57 b9 [Value.int IntKind.i64 r2, Value.int IntKind.i64 r52, Value.int IntKind.i64 (r19 - 500), Value.string r28] _ := B57
      conv => whnf
      refine SemK.loadAgg (n := 4) (by kernel_rfl) B57.cells rfl ?_
      conv => whnf
      refine SemK.storeAll (by kernel_rfl) (((((((((((((B1.mod m7 (blkNew h.lt g1 (Nat.le_refl _))).ext (Ext.but_trans e9 c10.but g9)).mod m16 (blkNew h.lt g1 (Nat.le_refl _))).mod c18.but (neChg l1 g9 (Mod.size m7))).mod m24 (blkNew h.lt g1 (Nat.le_refl _))).mod c26.but (neChg l1 g9 (Mod.size m7))).ext e27).mod m31 (blkNew h.lt g1 (Nat.le_refl _))).mod c33.but (neChg l1 g9 (Mod.size m7))).mod m39 (blkNew h.lt g1 (Nat.le_refl _))).ext e51).mod m55 (blkNew h.lt g1 (Nat.le_refl _))).mod c57.but (neChg l1 g9 (Mod.size m7))) (vs := [Value.int IntKind.i64 r2, Value.int IntKind.i64 r52, Value.int IntKind.i64 (r19 - 500), Value.string r28]) rfl rfl (by simp [List.cons, cellish]) ?_
      intro w58 c58 B58
      conv => whnf
      refine CellK.of (run_loadAgg (n := 4) (by kernel_rfl) rfl B58.cells) ?_
      conv => whnf
      refine ⟨⟨r2, r52, (r19 - 500), r28⟩, rfl, ⟨by simp only [i64ok]; omega, by simp only [List.mem_cons, List.not_mem_nil, or_false] at q53; simp only [i64ok]; omega, by simp only [i64ok]; omega, by simp only [List.mem_cons, List.not_mem_nil, or_false] at q29; (repeat' (rcases q29 with rfl | q29)); all_goals first | exact Nat.le_of_ble_eq_true rfl | (subst q29; exact Nat.le_of_ble_eq_true rfl)⟩, ?_, ?_⟩
      · exact (((S54.chg c57 h.lt g9 (Nat.le_trans (Below.size e1) (Mod.size m7))).chg c58 h.lt g1 (Nat.le_refl _)).more (by omega))
      · exact (((((((((((((((e1.mod.trans m7).trans e9.mod).trans_new c10.but (fun k hk => Nat.le_trans (Nat.le_trans (Below.size e1) (Mod.size m7)) (Nat.le_trans g9 (Nat.le_of_eq hk.symm)))).trans m16).trans_new c18.but (fun k hk => Nat.le_trans (Nat.le_trans (Below.size e1) (Mod.size m7)) (Nat.le_trans g9 (Nat.le_of_eq hk.symm)))).trans m24).trans_new c26.but (fun k hk => Nat.le_trans (Nat.le_trans (Below.size e1) (Mod.size m7)) (Nat.le_trans g9 (Nat.le_of_eq hk.symm)))).trans e27.mod).trans m31).trans_new c33.but (fun k hk => Nat.le_trans (Nat.le_trans (Below.size e1) (Mod.size m7)) (Nat.le_trans g9 (Nat.le_of_eq hk.symm)))).trans m39).trans e51.mod).trans m55).trans_new c57.but (fun k hk => Nat.le_trans (Nat.le_trans (Below.size e1) (Mod.size m7)) (Nat.le_trans g9 (Nat.le_of_eq hk.symm)))).trans_new c58.but (fun k hk => Nat.le_trans (Nat.le_refl _) (Nat.le_trans g1 (Nat.le_of_eq hk.symm))))
    · conv => whnf
      with_reducible refine IfB.dec (fun h59 => ?_) (fun h59 => ?_)
      · conv => whnf
        refine SemK.buildSlice mk_52 (vs := [Value.int IntKind.i64 (-1000000000000), Value.int IntKind.i64 (-999999999999), Value.int IntKind.i64 1000000000000]) (by rfl) (by rfl) (by simp [Value.cells]) (by decide) ?_
        intro b60 w60 g60 l60 e60 B60
        have G60 := Grow.of_blk (n := 3) (enc := eI) (xs := [-1000000000000, -999999999999, 1000000000000]) eI_len B60 g60 rfl (by decide)
        conv => whnf
        refine (spec_among (S38.ext e60) (by omega) (G60.own.arr eI_len) (apart' G60.new h.lt (Nat.le_trans (Nat.le_trans (Nat.le_trans (Nat.le_trans (Nat.le_trans (Nat.le_trans (Nat.le_trans (Nat.le_trans (Nat.le_trans (Nat.le_trans (Nat.le_trans (Below.size e1) (Mod.size m7)) (Below.size e9)) (Chg.size_le c10)) (Mod.size m16)) (Chg.size_le c18)) (Mod.size m24)) (Chg.size_le c26)) (Below.size e27)) (Mod.size m31)) (Chg.size_le c33)) (Mod.size m39))) (by omega) (by omega)).mono ?_
        rintro _ w65 ⟨r61, rfl, q62, S63, m64⟩
        conv => whnf
        refine SemK.store1 (by kernel_rfl) (((B33.mod m39 (blkNew h.lt g9 (Nat.le_trans (Below.size e1) (Mod.size m7)))).ext e60).mod m64 (blkNew h.lt g9 (Nat.le_trans (Below.size e1) (Mod.size m7)))) (k := 2) (Nat.le_of_ble_eq_true rfl) rfl ?_
        intro w66 c66 B66
        have B66 : Blk w66 b9 [Value.int IntKind.i64 r2, Value.int IntKind.i64 r11, Value.int IntKind.i64 r61, Value.string r28] _ := B66
        conv => whnf
        refine SemK.loadAgg (n := 4) (by kernel_rfl) B66.cells rfl ?_
        conv => whnf
        refine SemK.storeAll (by kernel_rfl) (((((((((((((B1.mod m7 (blkNew h.lt g1 (Nat.le_refl _))).ext (Ext.but_trans e9 c10.but g9)).mod m16 (blkNew h.lt g1 (Nat.le_refl _))).mod c18.but (neChg l1 g9 (Mod.size m7))).mod m24 (blkNew h.lt g1 (Nat.le_refl _))).mod c26.but (neChg l1 g9 (Mod.size m7))).ext e27).mod m31 (blkNew h.lt g1 (Nat.le_refl _))).mod c33.but (neChg l1 g9 (Mod.size m7))).mod m39 (blkNew h.lt g1 (Nat.le_refl _))).ext e60).mod m64 (blkNew h.lt g1 (Nat.le_refl _))).mod c66.but (neChg l1 g9 (Mod.size m7))) (vs := [Value.int IntKind.i64 r2, Value.int IntKind.i64 r11, Value.int IntKind.i64 r61, Value.string r28]) rfl rfl (by simp [List.cons, cellish]) ?_
        intro w67 c67 B67
        conv => whnf
        refine CellK.of (run_loadAgg (n := 4) (by kernel_rfl) rfl B67.cells) ?_
        conv => whnf
        refine ⟨⟨r2, r11, r61, r28⟩, rfl, ⟨by simp only [i64ok]; omega, by simp only [i64ok]; omega, by simp only [List.mem_cons, List.not_mem_nil, or_false] at q62; simp only [i64ok]; omega, by simp only [List.mem_cons, List.not_mem_nil, or_false] at q29; (repeat' (rcases q29 with rfl | q29)); all_goals first | exact Nat.le_of_ble_eq_true rfl | (subst q29; exact Nat.le_of_ble_eq_true rfl)⟩, ?_, ?_⟩
        · exact (((S63.chg c66 h.lt g9 (Nat.le_trans (Below.size e1) (Mod.size m7))).chg c67 h.lt g1 (Nat.le_refl _)).more (by omega))
        · exact (((((((((((((((e1.mod.trans m7).trans e9.mod).trans_new c10.but (fun k hk => Nat.le_trans (Nat.le_trans (Below.size e1) (Mod.size m7)) (Nat.le_trans g9 (Nat.le_of_eq hk.symm)))).trans m16).trans_new c18.but (fun k hk => Nat.le_trans (Nat.le_trans (Below.size e1) (Mod.size m7)) (Nat.le_trans g9 (Nat.le_of_eq hk.symm)))).trans m24).trans_new c26.but (fun k hk => Nat.le_trans (Nat.le_trans (Below.size e1) (Mod.size m7)) (Nat.le_trans g9 (Nat.le_of_eq hk.symm)))).trans e27.mod).trans m31).trans_new c33.but (fun k hk => Nat.le_trans (Nat.le_trans (Below.size e1) (Mod.size m7)) (Nat.le_trans g9 (Nat.le_of_eq hk.symm)))).trans m39).trans e60.mod).trans m64).trans_new c66.but (fun k hk => Nat.le_trans (Nat.le_trans (Below.size e1) (Mod.size m7)) (Nat.le_trans g9 (Nat.le_of_eq hk.symm)))).trans_new c67.but (fun k hk => Nat.le_trans (Nat.le_refl _) (Nat.le_trans g1 (Nat.le_of_eq hk.symm))))
      · conv => whnf
        with_reducible refine IfB.dec (fun h68 => ?_) (fun h68 => ?_)
        · conv => whnf
          refine SemK.buildSlice mk_121 (vs := [Value.string { data := #[] }, Value.string { data := #[65] }, Value.string { data := #[97, 32, 98] }]) (by rfl) (by rfl) (by simp [Value.cells]) (by decide) ?_
          intro b69 w69 g69 l69 e69 B69
          have G69 := Grow.of_blk (n := 3) (enc := eS) (xs := [{ data := #[] }, { data := #[65] }, { data := #[97, 32, 98] }]) eS_len B69 g69 rfl (by decide)
          conv => whnf
          refine (spec_text (S38.ext e69) (by omega) (G69.own.arr eS_len) (apart' G69.new h.lt (Nat.le_trans (Nat.le_trans (Nat.le_trans (Nat.le_trans (Nat.le_trans (Nat.le_trans (Nat.le_trans (Nat.le_trans (Nat.le_trans (Nat.le_trans (Nat.le_trans (Below.size e1) (Mod.size m7)) (Below.size e9)) (Chg.size_le c10)) (Mod.size m16)) (Chg.size_le c18)) (Mod.size m24)) (Chg.size_le c26)) (Below.size e27)) (Mod.size m31)) (Chg.size_le c33)) (Mod.size m39))) (by omega) (by omega)).mono ?_
          rintro _ w74 ⟨r70, rfl, q71, S72, m73⟩
          conv => whnf
          refine SemK.store1 (by kernel_rfl) (((B33.mod m39 (blkNew h.lt g9 (Nat.le_trans (Below.size e1) (Mod.size m7)))).ext e69).mod m73 (blkNew h.lt g9 (Nat.le_trans (Below.size e1) (Mod.size m7)))) (k := 3) (Nat.le_of_ble_eq_true rfl) rfl ?_
          intro w75 c75 B75
          have B75 : Blk w75 b9 [Value.int IntKind.i64 r2, Value.int IntKind.i64 r11, Value.int IntKind.i64 (r19 - 500), Value.string r70] _ := B75
          conv => whnf
          refine SemK.loadAgg (n := 4) (by kernel_rfl) B75.cells rfl ?_
          conv => whnf
          refine SemK.storeAll (by kernel_rfl) (((((((((((((B1.mod m7 (blkNew h.lt g1 (Nat.le_refl _))).ext (Ext.but_trans e9 c10.but g9)).mod m16 (blkNew h.lt g1 (Nat.le_refl _))).mod c18.but (neChg l1 g9 (Mod.size m7))).mod m24 (blkNew h.lt g1 (Nat.le_refl _))).mod c26.but (neChg l1 g9 (Mod.size m7))).ext e27).mod m31 (blkNew h.lt g1 (Nat.le_refl _))).mod c33.but (neChg l1 g9 (Mod.size m7))).mod m39 (blkNew h.lt g1 (Nat.le_refl _))).ext e69).mod m73 (blkNew h.lt g1 (Nat.le_refl _))).mod c75.but (neChg l1 g9 (Mod.size m7))) (vs := [Value.int IntKind.i64 r2, Value.int IntKind.i64 r11, Value.int IntKind.i64 (r19 - 500), Value.string r70]) rfl rfl (by simp [List.cons, cellish]) ?_
          intro w76 c76 B76
          conv => whnf
          refine CellK.of (run_loadAgg (n := 4) (by kernel_rfl) rfl B76.cells) ?_
          conv => whnf
          refine ⟨⟨r2, r11, (r19 - 500), r70⟩, rfl, ⟨by simp only [i64ok]; omega, by simp only [i64ok]; omega, by simp only [i64ok]; omega, by simp only [List.mem_cons, List.not_mem_nil, or_false] at q71; (repeat' (rcases q71 with rfl | q71)); all_goals first | exact Nat.le_of_ble_eq_true rfl | (subst q71; exact Nat.le_of_ble_eq_true rfl)⟩, ?_, ?_⟩
          · exact (((S72.chg c75 h.lt g9 (Nat.le_trans (Below.size e1) (Mod.size m7))).chg c76 h.lt g1 (Nat.le_refl _)).more (by omega))
          · exact (((((((((((((((e1.mod.trans m7).trans e9.mod).trans_new c10.but (fun k hk => Nat.le_trans (Nat.le_trans (Below.size e1) (Mod.size m7)) (Nat.le_trans g9 (Nat.le_of_eq hk.symm)))).trans m16).trans_new c18.but (fun k hk => Nat.le_trans (Nat.le_trans (Below.size e1) (Mod.size m7)) (Nat.le_trans g9 (Nat.le_of_eq hk.symm)))).trans m24).trans_new c26.but (fun k hk => Nat.le_trans (Nat.le_trans (Below.size e1) (Mod.size m7)) (Nat.le_trans g9 (Nat.le_of_eq hk.symm)))).trans e27.mod).trans m31).trans_new c33.but (fun k hk => Nat.le_trans (Nat.le_trans (Below.size e1) (Mod.size m7)) (Nat.le_trans g9 (Nat.le_of_eq hk.symm)))).trans m39).trans e69.mod).trans m73).trans_new c75.but (fun k hk => Nat.le_trans (Nat.le_trans (Below.size e1) (Mod.size m7)) (Nat.le_trans g9 (Nat.le_of_eq hk.symm)))).trans_new c76.but (fun k hk => Nat.le_trans (Nat.le_refl _) (Nat.le_trans g1 (Nat.le_of_eq hk.symm))))
        · conv => whnf
          refine SemK.loadAgg (n := 4) (by kernel_rfl) (B33.mod m39 (blkNew h.lt g9 (Nat.le_trans (Below.size e1) (Mod.size m7)))).cells rfl ?_
          conv => whnf
          refine SemK.storeAll (by kernel_rfl) ((((((((((B1.mod m7 (blkNew h.lt g1 (Nat.le_refl _))).ext (Ext.but_trans e9 c10.but g9)).mod m16 (blkNew h.lt g1 (Nat.le_refl _))).mod c18.but (neChg l1 g9 (Mod.size m7))).mod m24 (blkNew h.lt g1 (Nat.le_refl _))).mod c26.but (neChg l1 g9 (Mod.size m7))).ext e27).mod m31 (blkNew h.lt g1 (Nat.le_refl _))).mod c33.but (neChg l1 g9 (Mod.size m7))).mod m39 (blkNew h.lt g1 (Nat.le_refl _))) (vs := [Value.int IntKind.i64 r2, Value.int IntKind.i64 r11, Value.int IntKind.i64 (r19 - 500), Value.string r28]) rfl rfl (by simp [List.cons, cellish]) ?_
          intro w77 c77 B77
          conv => whnf
          refine CellK.of (run_loadAgg (n := 4) (by kernel_rfl) rfl B77.cells) ?_
          conv => whnf
          refine ⟨⟨r2, r11, (r19 - 500), r28⟩, rfl, ⟨by simp only [i64ok]; omega, by simp only [i64ok]; omega, by simp only [i64ok]; omega, by simp only [List.mem_cons, List.not_mem_nil, or_false] at q29; (repeat' (rcases q29 with rfl | q29)); all_goals first | exact Nat.le_of_ble_eq_true rfl | (subst q29; exact Nat.le_of_ble_eq_true rfl)⟩, ?_, ?_⟩
          · exact ((S38.chg c77 h.lt g1 (Nat.le_refl _)).more (by omega))
          · exact ((((((((((((e1.mod.trans m7).trans e9.mod).trans_new c10.but (fun k hk => Nat.le_trans (Nat.le_trans (Below.size e1) (Mod.size m7)) (Nat.le_trans g9 (Nat.le_of_eq hk.symm)))).trans m16).trans_new c18.but (fun k hk => Nat.le_trans (Nat.le_trans (Below.size e1) (Mod.size m7)) (Nat.le_trans g9 (Nat.le_of_eq hk.symm)))).trans m24).trans_new c26.but (fun k hk => Nat.le_trans (Nat.le_trans (Below.size e1) (Mod.size m7)) (Nat.le_trans g9 (Nat.le_of_eq hk.symm)))).trans e27.mod).trans m31).trans_new c33.but (fun k hk => Nat.le_trans (Nat.le_trans (Below.size e1) (Mod.size m7)) (Nat.le_trans g9 (Nat.le_of_eq hk.symm)))).trans m39).trans_new c77.but (fun k hk => Nat.le_trans (Nat.le_refl _) (Nat.le_trans g1 (Nat.le_of_eq hk.symm))))
theorem spec_l27Notes {w : World} {a0 : Option Addr} {k : Nat} (h : Src w a0 k) (hk : k ≤ 1000) {m : Int} (hm0 : 0 ≤ m) (hm : m ≤ 100) :
    Does Tryz.prog 60 [.pointer a0, .int .i64 m] w (fun v w' => ∃ a' n' c' xs, v = .slice a' n' c' ∧ (n' : Int) ≤ m ∧ (∀ x ∈ xs, noteB x = true) ∧ NewAt w.heap.size a' ∧ Grow TNote.enc 4 w.heap.size 31 w' a' n' c' xs ∧ Src w' a0 (k + 3000) ∧ Mod (blkIn a0) w w') := by
  refine Does.of_vc tabok Tryz.func60 rfl rfl rfl (by kernel_rfl) ?_; conv => whnf
  refine SemK.buildSlice mk_24 (vs := []) (by rfl) (by rfl) (by simp [Value.cells]) (by decide) ?_
  intro b1 w1 g1 l1 e1 B1
  have G1 := Grow.new0 (enc := TNote.enc) TNote.enc_len B1 g1
  conv => whnf
  refine SemK.add _ rfl (by omega) (by omega) ?_
  conv => whnf
  refine (spec_pick (h.ext e1) (by omega) (by omega)).mono ?_
  rintro _ w8 ⟨r2, rfl, q3, q4, q5, S6, m7⟩
  conv => whnf
  refine LoopK.rule [0, 5, 6] (fun (j : Int) vs w' => ∃ a1 n1 c1 xs1, vs = [.pointer a0, .slice a1 n1 c1, .int .i64 j] ∧ 0 ≤ j ∧ j ≤ m ∧ n1 + j ≤ m ∧ (∀ x ∈ xs1, noteB x = true) ∧ Grow TNote.enc 4 w.heap.size 31 w' a1 n1 c1 xs1 ∧ Src w' a0 (k + 20 + 20 * (m - j).toNat) ∧ Mod (blkIn a0) w w') (fun j => j.toNat) tab tabok (by kernel_rfl) r2
    ⟨_, _, _, [], rfl, by omega, by omega, by omega, by simp, G1.mod m7 (apart' G1.new h.lt (Nat.le_refl _)), S6.more (by omega), e1.mod.trans m7⟩ ?_
  rintro j g _ w3 ⟨a1, n1, c1, xs1, rfl, hj, hjm, hn1, hok1, hG, hS, hM⟩
  conv => whnf
  with_reducible refine IfB.dec (fun h9 => ?_) (fun h9 => ?_)
  · conv => whnf
    refine (spec_l27DrawNote hS (by omega)).mono ?_
    rintro _ w14 ⟨x10, rfl, q11, S12, m13⟩
    conv => whnf
    refine SemK.alloc (z := .agg #[.int .i64 0, .int .i64 0, .int .i64 0, .string { data := #[] }]) (by kernel_rfl) ?_
    intro b15 w15 g15 l15 e15 B15
    conv => whnf
    refine SemK.storeAll (by kernel_rfl) B15 (vs := x10.enc) rfl rfl (by simp [TNote.enc, cellish]) ?_
    intro w16 c16 B16
    conv => whnf
    refine (spec_l27Ok q11 B16.cells).mono ?_
    rintro _ _ ⟨rfl, rfl⟩
    conv => whnf
    with_reducible refine IfB.split (fun h18 => ?_) (fun h18 => ?_)
    · conv => whnf
      refine SemK.loadAgg (n := 4) (by kernel_rfl) B16.cells rfl ?_
      conv => whnf
      refine SemK.buildSlice mk_24 (vs := [Value.agg x10.enc.toArray]) (by rfl) (by rfl) (by simp [Value.cells, TNote.enc]) (by decide) ?_
      intro b19 w19 g19 l19 e19 B19
      have G19 := Grow.of_blk (n := 1) (enc := TNote.enc) (xs := [x10]) TNote.enc_len B19 g19 rfl (by decide)
      conv => whnf
      refine SemK.appendArr0 (enc := TNote.enc) mk_24 TNote.enc_len ((hG.mod m13 (apart' hG.new h.lt (Nat.le_refl _))).ext (Ext.trans (Ext.but_trans e15 c16.but g15) e19)) (G19.own.arr TNote.enc_len) (by intro y _; simp [TNote.enc, cellish]) (by omega) (by omega) (Nat.le_trans (Nat.le_trans (Nat.le_trans (Nat.le_trans (Mod.size hM) (Mod.size m13)) (Below.size e15)) (Chg.size_le c16)) (Below.size e19)) ?_
      intro a20 c20 w20 G20 m20 i20
      conv => whnf
      refine SemK.sub _ rfl (by omega) (by omega) ?_
      conv => whnf
      refine ⟨j - 1, by omega, _, _, _, _, rfl, by omega, by omega, by omega, ?_, G20, (?_ : Src _ _ (_)), ?_⟩
      · intro y hy
        rcases List.mem_append.1 hy with hy | hy
        · exact hok1 y hy
        · rw [List.mem_singleton.1 hy]; exact h18
      · exact (((S12.ext (Ext.trans (Ext.but_trans e15 c16.but g15) e19)).mod m20 (later h.lt hG.new (Nat.le_refl _))).more (by omega))
      · exact (((((hM.trans m13).trans e15.mod).trans_new c16.but (fun k hk => Nat.le_trans (Nat.le_trans (Mod.size hM) (Mod.size m13)) (Nat.le_trans g15 (Nat.le_of_eq hk.symm)))).trans e19.mod).trans_new m20 (fun k hk => Nat.le_trans (Nat.le_refl _) (blkIn_new hG.new k hk)))
    · conv => whnf
      refine SemK.sub _ rfl (by omega) (by omega) ?_
      conv => whnf
      refine ⟨j - 1, by omega, _, _, _, xs1, rfl, by omega, by omega, by omega, hok1, ?_, (?_ : Src _ _ (_)), ?_⟩
      · exact ((hG.mod m13 (apart' hG.new h.lt (Nat.le_refl _))).ext (Ext.but_trans e15 c16.but g15))
      · exact (((S12.ext e15).chg c16 h.lt g15 (Nat.le_trans (Mod.size hM) (Mod.size m13))).more (by omega))
      · exact (((hM.trans m13).trans e15.mod).trans_new c16.but (fun k hk => Nat.le_trans (Nat.le_trans (Mod.size hM) (Mod.size m13)) (Nat.le_trans g15 (Nat.le_of_eq hk.symm))))
  · conv => whnf
    exact ⟨_, _, _, _, rfl, by omega, by omega, hG.new, hG, (hS.more (by omega)), hM⟩
theorem spec_A2Notes {w : World} {a : Option Addr} {n c : Nat} {xs : List UInt8} (h : Arr eB 1 w a n xs) :
    Does Tryz.prog 7 [.slice a n c] w (fun v w' => ∃ a' n' c' xs, v = .slice a' n' c' ∧ n' ≤ 7 ∧ n' ≤ c' ∧ (∀ x ∈ xs, noteB x = true) ∧ NewAt w.heap.size a' ∧ Own TNote.enc w' a' n' 31 xs ∧ Ext w w') := by
  refine Does.of_vc tabok Tryz.func7 rfl rfl rfl (by kernel_rfl) ?_; conv => whnf
  refine (spec_l00From h).mono ?_
  rintro _ w5 ⟨a'1, rfl, N2, S3, e4⟩
  conv => whnf
  refine (spec_l27Notes S3 (by omega) (by omega) (by omega)).mono ?_
  rintro _ w16 ⟨a'6, n'7, c'8, xs9, rfl, q10, q11, N12, G13, S14, m15⟩
  have leG13 := G13.le.1
  have lnG13 := G13.len
  conv => whnf
  exact ⟨_, _, _, _, rfl, by omega, by omega, by omega, (G13.new.mono (Below.size e4)), G13.own, (Ext.mod_trans e4 m15 (blkIn_new N2))⟩
theorem laws_a2Long (a a2 : Option Addr) (n c n2 c2 : Nat) (w : World) : Does Tryz.prog 6 [.slice a n c, .slice a2 n2 c2] w (fun v w' => ∃ r : Bool, v = .bool r ∧ w = w') := by
  refine Does.of_vc tabok Tryz.func6 rfl rfl rfl (by kernel_rfl) ?_; conv => whnf
  with_reducible refine IfB.dec (fun h3 => ?_) (fun h3 => ?_)
  · conv => whnf
    exact ⟨_, rfl, rfl⟩
  · conv => whnf
    exact ⟨_, rfl, rfl⟩
theorem laws_a2At {w : World} {a : Option Addr} {n c : Nat} {xs : List UInt8} (h : Arr eB 1 w a n xs) {i : Int} (hi : 0 ≤ i) : Does Tryz.prog 11 [.slice a n c, .int .i64 i, .int .i64 256] w (fun v w' => ∃ r : Int, v = .int .i64 r ∧ 0 ≤ r ∧ r ≤ 255 ∧ w = w') := by
  have hn := h.len
  have hm := h.le
  refine Does.of_vc tabok Tryz.func11 rfl rfl rfl (by kernel_rfl) ?_; conv => whnf
  with_reducible refine IfB.dec (fun h1 => ?_) (fun h1 => ?_)
  · conv => whnf
    exact ⟨_, rfl, by omega, by omega, rfl⟩
  · conv => whnf
    obtain ⟨x2, hx2⟩ : ∃ x, xs[(i).toNat]? = some x := get_of_lt (by omega)
    refine SemK.index (by kernel_rfl) h (i).toNat (by omega) hx2 ?_
    intro b3 o3 ha3 hb3
    conv => whnf
    refine SemK.load0 (by kernel_rfl) hb3 rfl ?_
    conv => whnf
    refine SemK.conv (k := .i64) (by kernel_rfl) (by kernel_rfl) (i64_wrap (by omega) (by have := UInt8.toNat_lt (x2); omega)) ?_
    conv => whnf
    refine SemK.rem (by omega) (by omega) ?_
    conv => whnf
    exact ⟨_, rfl, by omega, by omega, rfl⟩
end Go.Proofs.YtehofnnghbcjgaaGreatDoor
