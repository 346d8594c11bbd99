/- Contracts of functions of the given program, of the reference and of the laws: each says what a call returns, for all arguments that meet the premises that the theorem itself names. -/
import Derived.Test.YtfgbijddjoojbaaGreatDoorDeckD
import Derived.Test.YtfgbijddjoojbaaGreatDoorVcWrite
import Derived.Test.YtfgbijddjoojbaaGreatDoorDrawA
import Derived.Test.YtfgbijddjoojbaaGreatDoorFItem
/- draws of the moves -/
namespace Go.M
open Go Go.Vc
theorem set_part_ok {xs : List TPart} {i : Nat} {x' : TPart} (h : ∀ x ∈ xs, x.ok) (hx : x'.ok) : ∀ x ∈ xs.set i x', x.ok := all_set h hx i
theorem zero_part_ok : (⟨⟨#[]⟩, 0, 0, 0⟩ : TPart).ok := ⟨by simp only [strok]; exact Nat.le_of_ble_eq_true rfl, by simp only [i64ok]; omega, by simp only [i64ok]; omega, by simp only [i64ok]; omega⟩
theorem upB_size (s : ByteArray) : (upB s).size = s.size := by
  unfold upB
  rw [bs_size]
  have := congrArg List.length (rfl : upL s.data.toList = upL s.data.toList)
  simp [upL]
end Go.M
namespace Go.Proofs.YtfgbijddjoojbaaGreatDoor
open Go Go.RowKit Go.Vc Go.M
theorem spec_l25Layout {w : World} {a0 : Option Addr} {k : Nat} (h : Src w a0 k) (hk : k ≤ 1000000) :
    Does Tryz.prog 71 [.pointer a0] w (fun v w' => ∃ (wd : Int) (a1 : Option Addr) (n1 c1 : Nat) (its : List TItem), v = .agg #[.int .i64 wd, .slice a1 n1 c1] ∧ n1 ≤ c1 ∧ (∀ x ∈ its, x.ok) ∧ NewAt w.heap.size a1 ∧ Arr TItem.enc 4 w' a1 n1 its ∧ Src w' a0 (k + 30) ∧ Mod (blkIn a0) w w') := by
  refine Does.of_vc tabok Tryz.func71 rfl rfl rfl (by kernel_rfl) ?_; conv => whnf
  refine SemK.alloc (z := .agg #[.int .i64 0, .slice none 0 0]) (by kernel_rfl) ?_
  intro b1 w1 g1 l1 e1 B1
  conv => whnf
  refine SemK.build st_26 rfl ?_
  conv => whnf
  refine SemK.build st_111 rfl ?_
  conv => whnf
  refine SemK.build st_26 rfl ?_
  conv => whnf
  refine SemK.build st_111 rfl ?_
  conv => whnf
  refine SemK.buildSlice mk_64 (vs := [Value.agg #[Value.string { data := #[112, 97, 114, 116] }, Value.int IntKind.i64 1, Value.int IntKind.i64 0, Value.int IntKind.i64 4], Value.agg #[Value.string { data := #[99, 111, 117, 110, 116] }, Value.int IntKind.i64 2, Value.int IntKind.i64 4, Value.int IntKind.i64 7]]) (by rfl) (by rfl) (by simp [Value.cells]) (by decide) ?_
  intro b2 w2 g2 l2 e2 B2
  have G2 := Grow.of_blk (n := 2) (enc := TItem.enc) (xs := [⟨{ data := #[112, 97, 114, 116] }, 1, 0, 4⟩, ⟨{ data := #[99, 111, 117, 110, 116] }, 2, 4, 7⟩]) TItem.enc_len B2 g2 rfl (by decide)
  have hok2 : ∀ x ∈ ([⟨{ data := #[112, 97, 114, 116] }, 1, 0, 4⟩, ⟨{ data := #[99, 111, 117, 110, 116] }, 2, 4, 7⟩] : List TItem), x.ok := by
    intro x hx
    simp only [List.mem_cons, List.not_mem_nil, or_false] at hx
    rcases hx with rfl | rfl
    · exact ⟨Nat.le_of_ble_eq_true rfl, ⟨by simp, by simp⟩, ⟨by simp, by simp⟩, ⟨by simp, by simp⟩⟩
    · exact ⟨Nat.le_of_ble_eq_true rfl, ⟨by simp, by simp⟩, ⟨by simp, by simp⟩, ⟨by simp, by simp⟩⟩
  generalize ([⟨{ data := #[112, 97, 114, 116] }, 1, 0, 4⟩, ⟨{ data := #[99, 111, 117, 110, 116] }, 2, 4, 7⟩] : List TItem) = its at G2 hok2
  have lnG2 := G2.len
  conv => whnf
  refine SemK.build st_66 rfl ?_
  conv => whnf
  refine SemK.alloc (z := .agg #[.int .i64 0, .slice none 0 0]) (by kernel_rfl) ?_
  intro b3 w3 g3 l3 e3 B3
  conv => whnf
  refine SemK.storeAll (vs := [Value.int IntKind.i64 7, Value.slice (some { block := b2, off := 0 }) 2 2]) (by kernel_rfl) B3 rfl rfl (by simp [cellish]) ?_
  intro w4 c4 B4
  conv => whnf
  refine (spec_pick ((h.ext (Ext.trans (Ext.trans e1 e2) e3)).chg c4 h.lt g3 (Below.size (Ext.trans e1 e2))) (by omega) (by omega)).mono ?_
  rintro _ w11 ⟨r5, rfl, q6, q7, q8, S9, m10⟩
  conv => whnf
  with_reducible refine IfB.dec (fun h12 => ?_) (fun h12 => ?_)
  · conv => whnf
    refine DrawK.mix tabok mixed (a0) [(0, .any), (2, .any), (1, .held), (3, .run), (4, .held), (5, .any), (6, .write)] (by kernel_rfl) (by kernel_rfl) ?_
    conv => whnf
    intro w13 e13
    conv => whnf
    refine BSemK.load1 (by kernel_rfl) (k := 1) (Sr.cells ((B4.mod m10 (blkNew h.lt g3 (Below.size (Ext.trans e1 e2)))).ext e13).cells (blkNew h.lt g3 (Below.size (Ext.trans e1 e2)))) rfl ?_
    conv => whnf
    refine (spec_pick (S9.ext e13) (by omega) (by omega)).mono ?_
    rintro _ w20 ⟨r14, rfl, q15, q16, q17, S18, m19⟩
    conv => whnf
    refine ⟨m19, ?_⟩
    conv => whnf
    refine BSemK.sliceTo (sz := 4) (by kernel_rfl) r14.toNat (by omega) (by omega) (k' := .i64) (congrArg some (congrArg (Value.int .i64) (by omega))) ?_
    conv => whnf
    refine SemK.store1 (by kernel_rfl) (((B4.mod m10 (blkNew h.lt g3 (Below.size (Ext.trans e1 e2)))).ext e13).mod m19 (blkNew h.lt g3 (Below.size (Ext.trans e1 e2)))) (k := 1) (Nat.le_of_ble_eq_true rfl) rfl ?_
    intro w21 c21 B21
    have B21 : Blk w21 b3 [Value.int IntKind.i64 7, Value.slice (some { block := b2, off := 0 }) r14.toNat 2] _ := B21
    conv => whnf
    refine SemK.loadAgg (n := 2) (by kernel_rfl) B21.cells rfl ?_
    conv => whnf
    refine SemK.storeAll (vs := [Value.int IntKind.i64 7, Value.slice (some { block := b2, off := 0 }) r14.toNat 2]) (by kernel_rfl) (((((B1.ext (Ext.but_trans (Ext.trans e2 e3) c4.but (Nat.le_trans (Below.size e2) g3))).mod m10 (blkNew h.lt g1 (Nat.le_refl _))).ext e13).mod m19 (blkNew h.lt g1 (Nat.le_refl _))).mod c21.but (neChg l1 g3 (Below.size e2))) rfl rfl (by simp [cellish]) ?_
    intro w22 c22 B22
    conv => whnf
    refine CellK.of (run_loadAgg (n := 2) (by kernel_rfl) rfl B22.cells) ?_
    conv => whnf
    exact ⟨_, _, _, _, _, rfl, by omega, fun x hx => hok2 x (List.mem_of_mem_take hx), (G2.new.mono (Below.size e1)), (((((((G2.ext e3).mod c4.but (apartChg G2.lt g3 (Nat.le_refl _))).mod m10 (apart' G2.new h.lt (Below.size e1))).ext e13).mod m19 (apart' G2.new h.lt (Below.size e1))).mod c21.but (apartChg G2.lt g3 (Nat.le_refl _))).mod c22.but (apartChg' G2.new l1 (Nat.le_refl _))).own.arr TItem.enc_len |>.take (by omega), (((S18.chg c21 h.lt g3 (Below.size (Ext.trans e1 e2))).chg c22 h.lt g1 (Nat.le_refl _)).more (by omega)), ((((((((e1.mod.trans e2.mod).trans e3.mod).trans_new c4.but (fun k hk => Nat.le_trans (Below.size (Ext.trans e1 e2)) (Nat.le_trans g3 (Nat.le_of_eq hk.symm)))).trans m10).trans e13.mod).trans m19).trans_new c21.but (fun k hk => Nat.le_trans (Below.size (Ext.trans e1 e2)) (Nat.le_trans g3 (Nat.le_of_eq hk.symm)))).trans_new c22.but (fun k hk => Nat.le_trans (Nat.le_refl _) (Nat.le_trans g1 (Nat.le_of_eq hk.symm))))⟩
  · conv => whnf
    with_reducible refine IfB.dec (fun h21 => ?_) (fun h21 => ?_)
    · conv => whnf
      refine DrawK.mix tabok mixed (a0) [(0, .any), (2, .any), (4, .any), (1, .held), (3, .run), (5, .run), (6, .any), (7, .any), (8, .any), (9, .write)] (by kernel_rfl) (by kernel_rfl) ?_
      conv => whnf
      intro w22 e22
      conv => whnf
      refine BSemK.load1 (by kernel_rfl) (k := 1) (Sr.cells ((B4.mod m10 (blkNew h.lt g3 (Below.size (Ext.trans e1 e2)))).ext e22).cells (blkNew h.lt g3 (Below.size (Ext.trans e1 e2)))) rfl ?_
      conv => whnf
      refine (spec_pick (S9.ext e22) (by omega) (by omega)).mono ?_
      rintro _ w29 ⟨r23, rfl, q24, q25, q26, S27, m28⟩
      conv => whnf
      refine ⟨m28, ?_⟩
      conv => whnf
      refine (spec_pick S27 (by omega) (by omega)).mono ?_
      rintro _ w36 ⟨r30, rfl, q31, q32, q33, S34, m35⟩
      conv => whnf
      refine ⟨(m28.trans m35), ?_⟩
      conv => whnf
      refine PSemK.add _ rfl (by omega) (by omega) ?_
      conv => whnf
      obtain ⟨x37, hx37⟩ : ∃ x, its[(r23).toNat]? = some x := get_of_lt (by omega)
      have ok37 := hok2 _ (List.mem_of_getElem? hx37)
      refine PSemK.indexOwn (sz := 4) (by kernel_rfl) (r23).toNat (by omega) (by omega) ?_
      have hb38 := Own.elem TItem.enc_len (((((G2.ext (Ext.but_trans e3 c4.but g3)).mod m10 (apart' G2.new h.lt (Below.size e1))).ext e22).mod m28 (apart' G2.new h.lt (Below.size e1))).mod m35 (apart' G2.new h.lt (Below.size e1))).own hx37
      conv => whnf
      refine SemK.storeGrow1 (k := r23.toNat) (j := 1) (by kernel_rfl) TItem.enc_len (((((G2.ext (Ext.but_trans e3 c4.but g3)).mod m10 (apart' G2.new h.lt (Below.size e1))).ext e22).mod m28 (apart' G2.new h.lt (Below.size e1))).mod m35 (apart' G2.new h.lt (Below.size e1))) hx37 (by decide) rfl { x37 with kind := 1 + r30 } rfl ?_
      intro w39 c39 B39
      have hx39 := set_get hx37 ({ x37 with kind := 1 + r30 })
      conv => whnf
      refine SemK.loadAgg (n := 2) (by kernel_rfl) (((((B4.mod m10 (blkNew h.lt g3 (Below.size (Ext.trans e1 e2)))).ext e22).mod m28 (blkNew h.lt g3 (Below.size (Ext.trans e1 e2)))).mod m35 (blkNew h.lt g3 (Below.size (Ext.trans e1 e2)))).mod c39.but (neChg' g3 l2 (Nat.le_refl _))).cells rfl ?_
      conv => whnf
      refine SemK.storeAll (vs := [Value.int IntKind.i64 7, Value.slice (some { block := b2, off := 0 }) 2 2]) (by kernel_rfl) ((((((B1.ext (Ext.but_trans (Ext.trans e2 e3) c4.but (Nat.le_trans (Below.size e2) g3))).mod m10 (blkNew h.lt g1 (Nat.le_refl _))).ext e22).mod m28 (blkNew h.lt g1 (Nat.le_refl _))).mod m35 (blkNew h.lt g1 (Nat.le_refl _))).mod c39.but (neChg l1 g2 (Nat.le_refl _))) rfl rfl (by simp [cellish]) ?_
      intro w40 c40 B40
      conv => whnf
      refine CellK.of (run_loadAgg (n := 2) (by kernel_rfl) rfl B40.cells) ?_
      conv => whnf
      refine ⟨_, _, _, _, _, rfl, by omega, ?_, (B39.new.mono (Below.size e1)), ((B39.mod c40.but (apartChg' B39.new l1 (Nat.le_refl _))).own.arr TItem.enc_len), (((S34.chg c39 h.lt g2 (Below.size e1)).chg c40 h.lt g1 (Nat.le_refl _)).more (by omega)), (((((((((e1.mod.trans e2.mod).trans e3.mod).trans_new c4.but (fun k hk => Nat.le_trans (Below.size (Ext.trans e1 e2)) (Nat.le_trans g3 (Nat.le_of_eq hk.symm)))).trans m10).trans e22.mod).trans m28).trans m35).trans_new c39.but (fun k hk => Nat.le_trans (Below.size e1) (Nat.le_trans g2 (Nat.le_of_eq hk.symm)))).trans_new c40.but (fun k hk => Nat.le_trans (Nat.le_refl _) (Nat.le_trans g1 (Nat.le_of_eq hk.symm))))⟩
      · exact all_set (y := { x37 with kind := 1 + r30 }) hok2 ⟨(hok2 _ (List.mem_of_getElem? hx37)).1, by show i64ok (1 + r30); simp only [i64ok]; omega, (hok2 _ (List.mem_of_getElem? hx37)).2.2.1, (hok2 _ (List.mem_of_getElem? hx37)).2.2.2⟩ _
    · conv => whnf
      with_reducible refine IfB.dec (fun h41 => ?_) (fun h41 => ?_)
      · conv => whnf
        refine (spec_pick S9 (by omega) (by omega)).mono ?_
        rintro _ w48 ⟨r42, rfl, q43, q44, q45, S46, m47⟩
        conv => whnf
        refine SemK.add _ rfl (by omega) (by omega) ?_
        conv => whnf
        refine SemK.store1 (by kernel_rfl) ((B4.mod m10 (blkNew h.lt g3 (Below.size (Ext.trans e1 e2)))).mod m47 (blkNew h.lt g3 (Below.size (Ext.trans e1 e2)))) (k := 0) (Nat.le_of_ble_eq_true rfl) rfl ?_
        intro w49 c49 B49
        have B49 : Blk w49 b3 [Value.int IntKind.i64 (6 + r42), Value.slice (some { block := b2, off := 0 }) 2 2] _ := B49
        conv => whnf
        refine SemK.loadAgg (n := 2) (by kernel_rfl) B49.cells rfl ?_
        conv => whnf
        refine SemK.storeAll (vs := [Value.int IntKind.i64 (6 + r42), Value.slice (some { block := b2, off := 0 }) 2 2]) (by kernel_rfl) ((((B1.ext (Ext.but_trans (Ext.trans e2 e3) c4.but (Nat.le_trans (Below.size e2) g3))).mod m10 (blkNew h.lt g1 (Nat.le_refl _))).mod m47 (blkNew h.lt g1 (Nat.le_refl _))).mod c49.but (neChg l1 g3 (Below.size e2))) rfl rfl (by simp [cellish]) ?_
        intro w50 c50 B50
        conv => whnf
        refine CellK.of (run_loadAgg (n := 2) (by kernel_rfl) rfl B50.cells) ?_
        conv => whnf
        refine ⟨_, _, _, _, _, rfl, by omega, by omega, (G2.new.mono (Below.size e1)), ((((((G2.ext (Ext.but_trans e3 c4.but g3)).mod m10 (apart' G2.new h.lt (Below.size e1))).mod m47 (apart' G2.new h.lt (Below.size e1))).mod c49.but (apartChg G2.lt g3 (Nat.le_refl _))).mod c50.but (apartChg' G2.new l1 (Nat.le_refl _))).own.arr TItem.enc_len), (((S46.chg c49 h.lt g3 (Below.size (Ext.trans e1 e2))).chg c50 h.lt g1 (Nat.le_refl _)).more (by omega)), (((((((e1.mod.trans e2.mod).trans e3.mod).trans_new c4.but (fun k hk => Nat.le_trans (Below.size (Ext.trans e1 e2)) (Nat.le_trans g3 (Nat.le_of_eq hk.symm)))).trans m10).trans m47).trans_new c49.but (fun k hk => Nat.le_trans (Below.size (Ext.trans e1 e2)) (Nat.le_trans g3 (Nat.le_of_eq hk.symm)))).trans_new c50.but (fun k hk => Nat.le_trans (Nat.le_refl _) (Nat.le_trans g1 (Nat.le_of_eq hk.symm))))⟩
      · conv => whnf
        refine SemK.loadAgg (n := 2) (by kernel_rfl) (B4.mod m10 (blkNew h.lt g3 (Below.size (Ext.trans e1 e2)))).cells rfl ?_
        conv => whnf
        refine SemK.storeAll (vs := [Value.int IntKind.i64 7, Value.slice (some { block := b2, off := 0 }) 2 2]) (by kernel_rfl) ((B1.ext (Ext.but_trans (Ext.trans e2 e3) c4.but (Nat.le_trans (Below.size e2) g3))).mod m10 (blkNew h.lt g1 (Nat.le_refl _))) rfl rfl (by simp [cellish]) ?_
        intro w51 c51 B51
        conv => whnf
        refine CellK.of (run_loadAgg (n := 2) (by kernel_rfl) rfl B51.cells) ?_
        conv => whnf
        refine ⟨_, _, _, _, _, rfl, by omega, by omega, (G2.new.mono (Below.size e1)), ((((G2.ext (Ext.but_trans e3 c4.but g3)).mod m10 (apart' G2.new h.lt (Below.size e1))).mod c51.but (apartChg' G2.new l1 (Nat.le_refl _))).own.arr TItem.enc_len), ((S9.chg c51 h.lt g1 (Nat.le_refl _)).more (by omega)), (((((e1.mod.trans e2.mod).trans e3.mod).trans_new c4.but (fun k hk => Nat.le_trans (Below.size (Ext.trans e1 e2)) (Nat.le_trans g3 (Nat.le_of_eq hk.symm)))).trans m10).trans_new c51.but (fun k hk => Nat.le_trans (Nat.le_refl _) (Nat.le_trans g1 (Nat.le_of_eq hk.symm))))⟩
theorem spec_DrawReadParts {w : World} {a : Option Addr} {n c : Nat} {xs : List UInt8} (h : Arr eB 1 w a n xs) :
    Does Tryz.prog 36 [.slice a n c] w (fun v w' => ∃ s, v = .string s ∧ s.size ≤ 1000000 ∧ Ext w w') := by
  refine Does.of_vc tabok Tryz.func36 rfl rfl rfl (by kernel_rfl) ?_; conv => whnf
  refine (spec_l00From h).mono ?_
  rintro _ w5 ⟨a'1, rfl, N2, S3, e4⟩
  conv => whnf
  refine (spec_l25Draw S3 (by omega)).mono ?_
  rintro _ w16 ⟨a'6, n'7, c'8, xs9, rfl, q10, q11, N12, G13, S14, m15⟩
  have leG13 := G13.le.1
  have lnG13 := G13.len
  conv => whnf
  have hcs : (bs (cats (xs9.map partLine))).size ≤ 900000 := by
    rw [bs_size]
    have := cats_len (f := partLine) (m := 100) (xs := xs9) (fun x hx => partLine_sm (q11 x hx))
    omega
  refine (spec_l25Text (G13.own.arr TPart.enc_len) q11 (by omega)).mono ?_
  rintro _ w18 ⟨rfl, e17⟩
  conv => whnf
  refine (spec_one (S14.ext e17) (by omega) (by omega)).mono ?_
  rintro _ w22 ⟨r19, rfl, S20, m21⟩
  conv => whnf
  with_reducible refine IfB.split (fun h23 => ?_) (fun h23 => ?_)
  · conv => whnf
    refine (spec_l01Spoil S20 (by omega) hcs).mono ?_
    rintro _ w28 ⟨s24, rfl, q25, S26, m27⟩
    conv => whnf
    exact ⟨_, rfl, by omega, (Ext.mod_trans (Ext.mod_trans (Ext.trans (Ext.mod_trans e4 m15 (blkIn_new N2)) e17) m21 (blkIn_new N2)) m27 (blkIn_new N2))⟩
  · conv => whnf
    exact ⟨_, rfl, by omega, (Ext.mod_trans (Ext.trans (Ext.mod_trans e4 m15 (blkIn_new N2)) e17) m21 (blkIn_new N2))⟩
theorem spec_DrawSameParts {w : World} {a : Option Addr} {n c : Nat} {xs : List UInt8} (h : Arr eB 1 w a n xs) :
    Does Tryz.prog 38 [.slice a n c] w (fun v w' => ∃ a1 n1 c1 xs a2 n2 c2 ys, v = .tuple #[.slice a1 n1 c1, .slice a2 n2 c2] ∧ (∀ x ∈ xs, x.ok) ∧ (∀ x ∈ ys, x.ok) ∧ Arr TPart.enc 4 w' a1 n1 xs ∧ Arr TPart.enc 4 w' a2 n2 ys ∧ Ext w w') := by
  refine Does.of_vc tabok Tryz.func38 rfl rfl rfl (by kernel_rfl) ?_; conv => whnf
  refine (spec_l00From h).mono ?_
  rintro _ w5 ⟨a'1, rfl, N2, S3, e4⟩
  conv => whnf
  refine (spec_l25Draw S3 (by omega)).mono ?_
  rintro _ w16 ⟨a'6, n'7, c'8, xs9, rfl, q10, q11, N12, G13, S14, m15⟩
  have leG13 := G13.le.1
  have lnG13 := G13.len
  conv => whnf
  refine SemK.buildSlice mk_52 (vs := []) (by rfl) (by rfl) (by simp [Value.cells]) (by decide) ?_
  intro b17 w17 g17 l17 e17 B17
  have G17 := Grow.new0 (enc := TPart.enc) TPart.enc_len B17 g17
  conv => whnf
  refine SemK.appendNew (enc := TPart.enc) mk_52 TPart.enc_len G17 ((G13.ext e17).own.arr TPart.enc_len) (by intro y _; simp [TPart.enc, cellish]) (by omega) (by omega) (Below.size e17) ?_
  intro a18 c18 w18 G18 m18 i18
  conv => whnf
  with_reducible refine IfB.dec (fun h19 => ?_) (fun h19 => ?_)
  · conv => whnf
    refine (spec_one ((S14.ext e17).mod m18 (later S3.lt G17.new (Mod.size m15))) (by omega) (by omega)).mono ?_
    rintro _ w23 ⟨r20, rfl, S21, m22⟩
    conv => whnf
    with_reducible refine IfB.split (fun h24 => ?_) (fun h24 => ?_)
    · conv => whnf
      refine DrawK.mix tabok mixed (a'1) [(0, .any), (1, .any), (2, .any), (4, .any), (3, .held), (5, .run), (6, .any), (7, .any), (8, .any), (9, .write)] (by kernel_rfl) (by kernel_rfl) ?_
      conv => whnf
      intro w25 e25
      conv => whnf
      obtain ⟨x26, hx26⟩ : ∃ x, xs9[0]? = some x := get_of_lt (by omega)
      have ok26 := q11 _ (List.mem_of_getElem? hx26)
      obtain ⟨b27, rfl⟩ := (((G18.mod m22 (apart' G18.new S3.lt (Mod.size m15))).ext e25).own).some (by omega)
      have gb27 : w16.heap.size ≤ b27 := G18.new _ rfl
      have lb27 : b27 < w18.heap.size := G18.lt _ rfl
      refine PSemK.indexOwn (sz := 4) (by kernel_rfl) 0 rfl (by omega) ?_
      have hb27 := Own.elem TPart.enc_len ((G18.mod m22 (apart' G18.new S3.lt (Mod.size m15))).ext e25).own hx26
      conv => whnf
      refine BSemK.load1 (by kernel_rfl) (k := 1) (Sr.cells hb27 (blkNew S3.lt gb27 (Mod.size m15))) rfl ?_
      conv => whnf
      refine (spec_pick (S21.ext e25) (by omega) (by omega)).mono ?_
      rintro _ w34 ⟨r28, rfl, q29, q30, q31, S32, m33⟩
      conv => whnf
      refine ⟨m33, ?_⟩
      conv => whnf
      refine PSemK.wadd ?_
      conv => whnf
      refine PSemK.indexOwn (sz := 4) (by kernel_rfl) 0 rfl (by omega) ?_
      have hb36 := Own.elem TPart.enc_len (((G18.mod m22 (apart' (NewAt.some gb27) S3.lt (Mod.size m15))).ext e25).mod m33 (apart' (NewAt.some gb27) S3.lt (Mod.size m15))).own hx26
      conv => whnf
      refine SemK.storeGrow1 (k := 0) (j := 1) (by kernel_rfl) TPart.enc_len (((G18.mod m22 (apart' (NewAt.some gb27) S3.lt (Mod.size m15))).ext e25).mod m33 (apart' (NewAt.some gb27) S3.lt (Mod.size m15))) hx26 (by decide) rfl { x26 with count := IntKind.i64.wrap (x26.count + r28) } rfl ?_
      intro w37 c37 B37
      have hx37 := set_get hx26 ({ x26 with count := IntKind.i64.wrap (x26.count + r28) })
      conv => whnf
      refine (spec_one (S32.chg c37 S3.lt gb27 (Mod.size m15)) (by omega) (by omega)).mono ?_
      rintro _ w41 ⟨r38, rfl, S39, m40⟩
      conv => whnf
      with_reducible refine IfB.split (fun h42 => ?_) (fun h42 => ?_)
      · conv => whnf
        refine SemK.build st_81 rfl ?_
        conv => whnf
        refine SemK.buildSlice mk_52 (vs := [Value.agg #[Value.string { data := #[] }, Value.int IntKind.i64 0, Value.int IntKind.i64 0, Value.int IntKind.i64 0]]) (by rfl) (by rfl) (by simp [Value.cells]) (by decide) ?_
        intro b43 w43 g43 l43 e43 B43
        have G43 := Grow.of_blk (n := 1) (enc := TPart.enc) (xs := [⟨{ data := #[] }, 0, 0, 0⟩]) TPart.enc_len B43 g43 rfl (by decide)
        conv => whnf
        refine SemK.appendArr0 (enc := TPart.enc) mk_52 TPart.enc_len ((B37.mod m40 (apart' B37.new S3.lt (Mod.size m15))).ext e43) (G43.own.arr TPart.enc_len) (by intro y _; simp [TPart.enc, cellish]) (by omega) (by omega) (Nat.le_trans (Nat.le_trans (Nat.le_trans (Nat.le_trans (Nat.le_trans (Nat.le_trans (Nat.le_trans (Below.size e17) (Mod.size m18)) (Mod.size m22)) (Below.size e25)) (Mod.size m33)) (Chg.size_le c37)) (Mod.size m40)) (Below.size e43)) ?_
        intro a44 c44 w44 G44 m44 i44
        conv => whnf
        refine ⟨_, _, _, _, _, _, _, _, rfl, ?_, ?_, (((((((((G13.ext (Ext.mod_trans e17 m18 (blkIn_new G17.new))).mod m22 (apart' G13.new S3.lt (Nat.le_refl _))).ext e25).mod m33 (apart' G13.new S3.lt (Nat.le_refl _))).mod c37.but (apartChg G13.lt gb27 (Nat.le_refl _))).mod m40 (apart' G13.new S3.lt (Nat.le_refl _))).ext e43).mod m44 (apart G13.lt B37.new (Nat.le_refl _))).own.arr TPart.enc_len), (G44.own.arr TPart.enc_len), (Ext.mod_trans (Ext.trans (Ext.mod_trans (Ext.but_trans (Ext.mod_trans (Ext.trans (Ext.mod_trans (Ext.mod_trans (Ext.trans (Ext.mod_trans e4 m15 (blkIn_new N2)) e17) m18 (fun k hk => Nat.le_trans (Below.size (Ext.mod_trans e4 m15 (blkIn_new N2))) (blkIn_new G17.new k hk))) m22 (blkIn_new N2)) e25) m33 (blkIn_new N2)) c37.but (Nat.le_trans (Below.size (Ext.mod_trans e4 m15 (blkIn_new N2))) gb27)) m40 (blkIn_new N2)) e43) m44 (fun k hk => Nat.le_trans (Below.size (Ext.mod_trans e4 m15 (blkIn_new N2))) (blkIn_new B37.new k hk)))⟩
        · exact fun x hx => partSm_ok (q11 x hx)
        · exact all_snoc (set_part_ok (x' := { x26 with count := IntKind.i64.wrap (x26.count + r28) }) (fun x hx => partSm_ok (q11 x hx)) ⟨(partSm_ok ok26).1, wrap_ok _, (partSm_ok ok26).2.2.1, (partSm_ok ok26).2.2.2⟩) zero_part_ok
      · conv => whnf
        refine ⟨_, _, _, _, _, _, _, _, rfl, ?_, ?_, (((((((G13.ext (Ext.mod_trans e17 m18 (blkIn_new G17.new))).mod m22 (apart' G13.new S3.lt (Nat.le_refl _))).ext e25).mod m33 (apart' G13.new S3.lt (Nat.le_refl _))).mod c37.but (apartChg G13.lt gb27 (Nat.le_refl _))).mod m40 (apart' G13.new S3.lt (Nat.le_refl _))).own.arr TPart.enc_len), ((B37.mod m40 (apart' B37.new S3.lt (Mod.size m15))).own.arr TPart.enc_len), (Ext.mod_trans (Ext.but_trans (Ext.mod_trans (Ext.trans (Ext.mod_trans (Ext.mod_trans (Ext.trans (Ext.mod_trans e4 m15 (blkIn_new N2)) e17) m18 (fun k hk => Nat.le_trans (Below.size (Ext.mod_trans e4 m15 (blkIn_new N2))) (blkIn_new G17.new k hk))) m22 (blkIn_new N2)) e25) m33 (blkIn_new N2)) c37.but (Nat.le_trans (Below.size (Ext.mod_trans e4 m15 (blkIn_new N2))) gb27)) m40 (blkIn_new N2))⟩
        · exact fun x hx => partSm_ok (q11 x hx)
        · exact set_part_ok (x' := { x26 with count := IntKind.i64.wrap (x26.count + r28) }) (fun x hx => partSm_ok (q11 x hx)) ⟨(partSm_ok ok26).1, wrap_ok _, (partSm_ok ok26).2.2.1, (partSm_ok ok26).2.2.2⟩
    · conv => whnf
      refine (spec_one S21 (by omega) (by omega)).mono ?_
      rintro _ w48 ⟨r45, rfl, S46, m47⟩
      conv => whnf
      with_reducible refine IfB.split (fun h49 => ?_) (fun h49 => ?_)
      · conv => whnf
        refine SemK.build st_81 rfl ?_
        conv => whnf
        refine SemK.buildSlice mk_52 (vs := [Value.agg #[Value.string { data := #[] }, Value.int IntKind.i64 0, Value.int IntKind.i64 0, Value.int IntKind.i64 0]]) (by rfl) (by rfl) (by simp [Value.cells]) (by decide) ?_
        intro b50 w50 g50 l50 e50 B50
        have G50 := Grow.of_blk (n := 1) (enc := TPart.enc) (xs := [⟨{ data := #[] }, 0, 0, 0⟩]) TPart.enc_len B50 g50 rfl (by decide)
        conv => whnf
        refine SemK.appendArr0 (enc := TPart.enc) mk_52 TPart.enc_len (((G18.mod m22 (apart' G18.new S3.lt (Mod.size m15))).mod m47 (apart' G18.new S3.lt (Mod.size m15))).ext e50) (G50.own.arr TPart.enc_len) (by intro y _; simp [TPart.enc, cellish]) (by omega) (by omega) (Nat.le_trans (Nat.le_trans (Nat.le_trans (Nat.le_trans (Below.size e17) (Mod.size m18)) (Mod.size m22)) (Mod.size m47)) (Below.size e50)) ?_
        intro a51 c51 w51 G51 m51 i51
        conv => whnf
        refine ⟨_, _, _, _, _, _, _, _, rfl, ?_, ?_, ((((((G13.ext (Ext.mod_trans e17 m18 (blkIn_new G17.new))).mod m22 (apart' G13.new S3.lt (Nat.le_refl _))).mod m47 (apart' G13.new S3.lt (Nat.le_refl _))).ext e50).mod m51 (apart G13.lt G18.new (Nat.le_refl _))).own.arr TPart.enc_len), (G51.own.arr TPart.enc_len), (Ext.mod_trans (Ext.trans (Ext.mod_trans (Ext.mod_trans (Ext.mod_trans (Ext.trans (Ext.mod_trans e4 m15 (blkIn_new N2)) e17) m18 (fun k hk => Nat.le_trans (Below.size (Ext.mod_trans e4 m15 (blkIn_new N2))) (blkIn_new G17.new k hk))) m22 (blkIn_new N2)) m47 (blkIn_new N2)) e50) m51 (fun k hk => Nat.le_trans (Below.size (Ext.mod_trans e4 m15 (blkIn_new N2))) (blkIn_new G18.new k hk)))⟩
        · exact fun x hx => partSm_ok (q11 x hx)
        · exact all_snoc (fun x hx => partSm_ok (q11 x hx)) zero_part_ok
      · conv => whnf
        refine ⟨_, _, _, _, _, _, _, _, rfl, ?_, ?_, ((((G13.ext (Ext.mod_trans e17 m18 (blkIn_new G17.new))).mod m22 (apart' G13.new S3.lt (Nat.le_refl _))).mod m47 (apart' G13.new S3.lt (Nat.le_refl _))).own.arr TPart.enc_len), (((G18.mod m22 (apart' G18.new S3.lt (Mod.size m15))).mod m47 (apart' G18.new S3.lt (Mod.size m15))).own.arr TPart.enc_len), (Ext.mod_trans (Ext.mod_trans (Ext.mod_trans (Ext.trans (Ext.mod_trans e4 m15 (blkIn_new N2)) e17) m18 (fun k hk => Nat.le_trans (Below.size (Ext.mod_trans e4 m15 (blkIn_new N2))) (blkIn_new G17.new k hk))) m22 (blkIn_new N2)) m47 (blkIn_new N2))⟩
        · exact fun x hx => partSm_ok (q11 x hx)
        · exact fun x hx => partSm_ok (q11 x hx)
  · conv => whnf
    refine (spec_one ((S14.ext e17).mod m18 (later S3.lt G17.new (Mod.size m15))) (by omega) (by omega)).mono ?_
    rintro _ w55 ⟨r52, rfl, S53, m54⟩
    conv => whnf
    with_reducible refine IfB.split (fun h56 => ?_) (fun h56 => ?_)
    · conv => whnf
      refine SemK.build st_81 rfl ?_
      conv => whnf
      refine SemK.buildSlice mk_52 (vs := [Value.agg #[Value.string { data := #[] }, Value.int IntKind.i64 0, Value.int IntKind.i64 0, Value.int IntKind.i64 0]]) (by rfl) (by rfl) (by simp [Value.cells]) (by decide) ?_
      intro b57 w57 g57 l57 e57 B57
      have G57 := Grow.of_blk (n := 1) (enc := TPart.enc) (xs := [⟨{ data := #[] }, 0, 0, 0⟩]) TPart.enc_len B57 g57 rfl (by decide)
      conv => whnf
      refine SemK.appendArr0 (enc := TPart.enc) mk_52 TPart.enc_len ((G18.mod m54 (apart' G18.new S3.lt (Mod.size m15))).ext e57) (G57.own.arr TPart.enc_len) (by intro y _; simp [TPart.enc, cellish]) (by omega) (by omega) (Nat.le_trans (Nat.le_trans (Nat.le_trans (Below.size e17) (Mod.size m18)) (Mod.size m54)) (Below.size e57)) ?_
      intro a58 c58 w58 G58 m58 i58
      conv => whnf
      refine ⟨_, _, _, _, _, _, _, _, rfl, by simp_all, ?_, (((((G13.ext (Ext.mod_trans e17 m18 (blkIn_new G17.new))).mod m54 (apart' G13.new S3.lt (Nat.le_refl _))).ext e57).mod m58 (apart G13.lt G18.new (Nat.le_refl _))).own.arr TPart.enc_len), (G58.own.arr TPart.enc_len), (Ext.mod_trans (Ext.trans (Ext.mod_trans (Ext.mod_trans (Ext.trans (Ext.mod_trans e4 m15 (blkIn_new N2)) e17) m18 (fun k hk => Nat.le_trans (Below.size (Ext.mod_trans e4 m15 (blkIn_new N2))) (blkIn_new G17.new k hk))) m54 (blkIn_new N2)) e57) m58 (fun k hk => Nat.le_trans (Below.size (Ext.mod_trans e4 m15 (blkIn_new N2))) (blkIn_new G18.new k hk)))⟩
      · exact all_snoc (fun x hx => partSm_ok (q11 x hx)) zero_part_ok
    · conv => whnf
      exact ⟨_, _, _, _, _, _, _, _, rfl, by simp_all, by simp_all, (((G13.ext (Ext.mod_trans e17 m18 (blkIn_new G17.new))).mod m54 (apart' G13.new S3.lt (Nat.le_refl _))).own.arr TPart.enc_len), ((G18.mod m54 (apart' G18.new S3.lt (Mod.size m15))).own.arr TPart.enc_len), (Ext.mod_trans (Ext.mod_trans (Ext.trans (Ext.mod_trans e4 m15 (blkIn_new N2)) e17) m18 (fun k hk => Nat.le_trans (Below.size (Ext.mod_trans e4 m15 (blkIn_new N2))) (blkIn_new G17.new k hk))) m54 (blkIn_new N2))⟩
theorem spec_DrawApplyMoves {w : World} {a : Option Addr} {n c : Nat} {xs : List UInt8} (h : Arr eB 1 w a n xs) :
    Does Tryz.prog 24 [.slice a n c] w (fun v w' => ∃ a' n' c' xs a2 n2 c2, ∃ ms : List TMove, v = .tuple #[.slice a' n' c', .slice a2 n2 c2] ∧ n' ≤ 42 ∧ n' ≤ c' ∧ (∀ x ∈ xs, x.ok) ∧ n2 ≤ 70000 ∧ n2 ≤ c2 ∧ (∀ m ∈ ms, m.ok) ∧ Own TPart.enc w' a' n' 81 xs ∧ Own TMove.enc w' a2 n2 59 ms ∧ Ext w w') := by
  refine Does.of_vc tabok Tryz.func24 rfl rfl rfl (by kernel_rfl) ?_; conv => whnf
  refine (spec_l00From h).mono ?_
  rintro _ w5 ⟨a'1, rfl, N2, S3, e4⟩
  conv => whnf
  refine (spec_l25Bent S3 (by omega)).mono ?_
  rintro _ w16 ⟨a'6, n'7, c'8, xs9, rfl, q10, q11, N12, G13, S14, m15⟩
  have leG13 := G13.le.1
  have lnG13 := G13.len
  conv => whnf
  refine SemK.buildSlice mk_53 (vs := []) (by rfl) (by rfl) (by simp [Value.cells]) (by decide) ?_
  intro b17 w17 g17 l17 e17 B17
  have G17 := Grow.new0 (enc := TMove.enc) TMove.enc_len B17 g17
  conv => whnf
  refine (spec_pick (S14.ext e17) (by omega) (by omega)).mono ?_
  rintro _ w24 ⟨r18, rfl, q19, q20, q21, S22, m23⟩
  conv => whnf
  refine LoopK.rule [4, 5, 6, 7] (fun (j : Int) vs w' => ∃ a2 n2 c2, ∃ ms : List TMove, vs = [.pointer a'1, .slice a'6 n'7 c'8, .slice a2 n2 c2, .int .i64 j] ∧ 0 ≤ j ∧ n2 + j ≤ 6 ∧ (∀ m ∈ ms, m.ok) ∧ Grow TMove.enc 2 w16.heap.size 59 w' a2 n2 c2 ms ∧ Grow TPart.enc 4 w5.heap.size 81 w' a'6 n'7 c'8 xs9 ∧ Src w' a'1 (300 + 20 * n2) ∧ Mod (blkIn a'1) w16 w') (fun j => j.toNat) tab tabok (by kernel_rfl) r18
    ⟨_, _, _, _, rfl, by omega, by omega, by simp, G17.mod m23 (apart' G17.new S14.lt (Nat.le_refl _)), (G13.ext e17).mod m23 (apart' G13.new S3.lt (Nat.le_refl _)), S22.more (by omega), e17.mod.trans m23⟩ ?_
  rintro j g _ w25 ⟨a2, n2, c2, ms, rfl, hj, hn2, hok2, hG, hP, hS, hM⟩
  have lnG := hG.len
  have leG := hG.le.1
  conv => whnf
  with_reducible refine IfB.dec (fun h26 => ?_) (fun h26 => ?_)
  · conv => whnf
    refine (spec_l25DrawMove hS (by omega)).mono ?_
    rintro _ w31 ⟨x27, rfl, q28, S29, m30⟩
    conv => whnf
    refine SemK.buildSlice mk_53 (vs := [Value.agg { toList := x27.enc }]) (by rfl) (by rfl) (by simp [Value.cells, TMove.enc]) (by decide) ?_
    intro b32 w32 g32 l32 e32 B32
    have G32 := Grow.of_blk (n := 1) (enc := TMove.enc) (xs := [x27]) TMove.enc_len B32 g32 rfl (by decide)
    conv => whnf
    refine SemK.appendArr0 (enc := TMove.enc) mk_53 TMove.enc_len ((hG.mod m30 (apart' hG.new S3.lt (Mod.size m15))).ext e32) (G32.own.arr TMove.enc_len) (by intro y _; simp [TMove.enc, cellish]) (by omega) (by omega) (Nat.le_trans (Nat.le_trans (Mod.size hM) (Mod.size m30)) (Below.size e32)) ?_
    intro a33 c33 w33 G33 m33 i33
    conv => whnf
    refine SemK.sub _ rfl (by omega) (by omega) ?_
    conv => whnf
    refine ⟨j - 1, by omega, _, _, _, _, rfl, by omega, by omega, all_snoc hok2 (by assumption), G33, ((hP.mod m30 (apart' hP.new S3.lt (Nat.le_refl _))).ext e32).mod m33 (apart G13.lt hG.new (Nat.le_refl _)), (((S29.ext e32).mod m33 (later S3.lt hG.new (Mod.size m15))).more (by omega)), ((hM.trans m30).trans e32.mod).trans_new m33 (fun k hk => blkIn_new hG.new k hk)⟩
  · conv => whnf
    refine ⟨_, _, _, _, _, _, _, _, rfl, by omega, by omega, ?_, by omega, by omega, by omega, hP.own, hG.own, (Ext.mod_trans (Ext.mod_trans e4 m15 (blkIn_new N2)) hM (blkIn_new N2))⟩
    · exact fun x hx => partSm_ok (q11 x hx)
theorem spec_l25Deck {w : World} {a0 : Option Addr} {k : Nat} (h : Src w a0 k) (hk : k ≤ 400000) {a : Option Addr} {n c : Nat} {ps : List TPart} (hA : Arr TPart.enc 4 w a n ps) (hps : ∀ x ∈ ps, partSm x) (hn : n ≤ 42) (hap : Apart a0 a) (hal : ∀ x, a = some x → x.block < w.heap.size) :
    Does Tryz.prog 72 [.pointer a0, .slice a n c] w (fun v w' => ∃ (a' : Option Addr) (n' c' : Nat) (ds : List Hd), v = .slice a' n' c' ∧ Grow eH 1 w.heap.size 85 w' a' n' c' ds ∧ HdsOk 2 w.heap.size w' ds ∧ Src w' a0 (k + 100000) ∧ Mod (blkIn a0) w w') := by
  have hn := hA.len
  refine Does.of_vc tabok Tryz.func72 rfl rfl rfl (by kernel_rfl) ?_; conv => whnf
  refine SemK.buildSlice mk_24 (vs := []) (by rfl) (by rfl) (by simp [Value.cells]) (by decide) ?_
  intro b1 w1 g1 l1 e1 B1
  conv => whnf
  refine (spec_pick (h.ext e1) (by omega) (by omega)).mono ?_
  rintro _ w8 ⟨r2, rfl, q3, q4, q5, S6, m7⟩
  conv => whnf
  have G1 := Grow.new0 (enc := eH) eH_len B1 g1
  refine LoopK.rule [0, 1, 5, 6] (fun (j : Int) vs w' => ∃ a7 n7 c7 ds, vs = [.pointer a0, .slice a n c, .slice a7 n7 c7, .int .i64 j] ∧ 0 ≤ j ∧ n7 + j ≤ 6 ∧ Grow eH 1 w.heap.size 85 w' a7 n7 c7 ds ∧ HdsOk 2 w.heap.size w' ds ∧ Arr TPart.enc 4 w' a n ps ∧ Src w' a0 (k + 10 + 20 * n7) ∧ Mod (blkIn a0) w w') (fun j => j.toNat) tab tabok (by kernel_rfl) r2
    ⟨_, _, _, _, rfl, by omega, by omega, G1.mod m7 (apart' G1.new h.lt (Nat.le_refl _)), HdsOk.nil, (hA.ext e1).mod m7 hap, S6.more (by omega), e1.mod.trans m7⟩ ?_
  rintro j g _ w8 ⟨a7, n7, c7, ds, rfl, hj, hn7, hG, hH, hAr, hS, hM⟩
  have lnG := hG.len
  have leG := hG.le.1
  conv => whnf
  with_reducible refine IfB.dec (fun h14 => ?_) (fun h14 => ?_)
  · have hN4 : (⟨#[78, 85, 84, 32]⟩ : ByteArray).size = 4 := rfl
    conv => whnf
    refine SemK.buildSlice mk_32 (vs := [Value.string { data := #[66, 79, 76, 84] }, Value.string { data := #[78, 85, 84, 32] }, Value.string { data := #[82, 79, 68, 32] }, Value.string { data := #[65, 45, 49, 32] }]) (by rfl) (by rfl) (by simp [Value.cells]) (by decide) ?_
    intro b15 w15 g15 l15 e15 B15
    have G15 := Grow.of_blk (n := 4) (enc := eS) (xs := [{ data := #[66, 79, 76, 84] }, { data := #[78, 85, 84, 32] }, { data := #[82, 79, 68, 32] }, { data := #[65, 45, 49, 32] }]) eS_len B15 g15 rfl (by decide)
    conv => whnf
    refine (spec_text (hS.ext e15) (by omega) (G15.own.arr eS_len) (apart' G15.new h.lt (Mod.size hM)) (by omega) (by omega)).mono ?_
    rintro _ w20 ⟨r16, rfl, q17, S18, m19⟩
    have hr16 : r16.size = 4 := by
      simp only [List.mem_cons, List.not_mem_nil, or_false] at q17
      rcases q17 with rfl | rfl | rfl | rfl <;> rfl
    conv => whnf
    with_reducible refine IfB.dec (fun h21 => ?_) (fun h21 => ?_)
    · conv => whnf
      refine (spec_one S18 (by omega) (by omega)).mono ?_
      rintro _ w25 ⟨r22, rfl, S23, m24⟩
      conv => whnf
      with_reducible refine IfB.nsplit (fun h26 => ?_) (fun h26 => ?_)
      · conv => whnf
        refine (spec_pick S23 (by omega) (by omega)).mono ?_
        rintro _ w33 ⟨r27, rfl, q28, q29, q30, S31, m32⟩
        conv => whnf
        obtain ⟨x34, hx34⟩ : ∃ x, ps[(r27).toNat]? = some x := get_of_lt (by omega)
        have ok34 := hps _ (List.mem_of_getElem? hx34)
        refine SemK.index (by kernel_rfl) ((((hAr.ext e15).mod m19 hap).mod m24 hap).mod m32 hap) (r27).toNat (by omega) hx34 ?_
        intro b35 o35 ha35 hb35
        conv => whnf
        refine SemK.load1 (by kernel_rfl) hb35 (k := 0) rfl ?_
        conv => whnf
        refine (spec_l23Upper (by have := ok34.1; omega) _).mono ?_
        rintro _ w37 ⟨rfl, e36⟩
        have hu := upB_size x34.name
        have hu2 := ok34.1
        conv => whnf
        refine SemK.cat (by rw [hu]; have : (⟨#[32, 32, 32, 32]⟩ : ByteArray).size = 4 := rfl; omega) ?_
        conv => whnf
        have hcz : (upB x34.name ++ ⟨#[32, 32, 32, 32]⟩).size = x34.name.size + 4 := by rw [ByteArray.size_append, hu]; rfl
        refine SemK.sliceStr (by kernel_rfl) 0 4 (by omega) (by omega) (k := .i64) (k' := .i64) (.inl ⟨rfl, rfl⟩) (.inr rfl) ?_
        have hez := extract_size (upB x34.name ++ ⟨#[32, 32, 32, 32]⟩) 0 4 (by omega)
        generalize (upB x34.name ++ ⟨#[32, 32, 32, 32]⟩).extract 0 4 = nm at hez
        have hnm : nm.size = 4 := by omega
        have M5 := (((e15.mod.trans m19).trans m24).trans m32).trans e36.mod
        have hG5 := hG.mod M5 (apart' hG.new h.lt (Nat.le_refl _))
        have hH5 := hH.src hS M5 h.lt
        have hA5 := hAr.mod M5 hap
        have hS5 := S31.ext e36
        have hM5 := hM.trans M5
        conv => whnf
        refine (spec_l25Plain _ (by omega) _).mono ?_
        rintro _ w40 ⟨b38, rfl, e39⟩
        conv => whnf
        with_reducible refine IfB.nsplit (fun h41 => ?_) (fun h41 => ?_)
        · conv => whnf
          refine SemK.cat (by rw [hN4]; exact Nat.le_of_ble_eq_true rfl) ?_
          conv => whnf
          refine (spec_l03Card ({ data := #[78, 85, 84, 32] } ++ { data := #[48, 48, 48] }) (by rw [ByteArray.size_append, hN4]; exact Nat.le_of_ble_eq_true rfl) _).mono ?_
          rintro _ w42 ⟨⟨da, dn, dc⟩, ys, rfl, hdn, hR, e42⟩
          have hd7 : dn = 7 := by
            simp only [ByteArray.size_append, hN4] at hdn
            exact hdn
          subst hd7
          obtain ⟨ba, rfl⟩ := hR.own.some (by show 0 < 7; omega)
          simp only at hR
          conv => whnf
          refine SemK.alloc (z := .agg #[.slice none 0 0]) (by kernel_rfl) ?_
          intro b43 w43 g43 l43 e43 B43
          conv => whnf
          refine SemK.storeAll (vs := [Value.slice (some ⟨ba, 0, none⟩) 7 dc]) (by kernel_rfl) B43 rfl rfl (by simp [cellish]) ?_
          intro w44 c44 B44
          have E44 := Ext.but_trans (Ext.trans (Ext.trans e39 e42) e43) c44.but (Nat.le_trans (Below.size (Ext.trans e39 e42)) g43)
          have nb := blkNew hS5.lt g43 (Below.size (Ext.trans e39 e42))
          have hR44 := (hR.ext e43).mod c44.but (apartChg hR.lt g43 (Nat.le_refl _))
          have apR := apart' hR.new hS5.lt (Below.size e39)
          conv => whnf
          refine (spec_pick (hS5.ext E44) (by omega) (by omega)).mono ?_
          rintro _ w45 ⟨r45, rfl, q45, q46, q47, S45, m45⟩
          conv => whnf
          refine SemK.sub _ rfl (by omega) (by omega) ?_
          conv => whnf
          refine (spec_l03Put (r45 - 30) (by omega) 3 (by omega) (by omega) w45).mono ?_
          rintro _ w46 ⟨pa, pc, zs, pb, rfl, hP46, e46⟩
          conv => whnf
          refine SemK.build st_26 rfl ?_
          conv => whnf
          have hR45 := hR44.mod m45 apR
          refine (spec_l04Put ((B44.mod m45 nb).ext e46) (hR45.ext e46) (blkNew hR.lt g43 (Nat.le_refl _)) (hP46.own.arr eI_len) (apart' hP46.new hR45.lt (Nat.le_refl _)) 4 7 (by omega) (by omega)).mono ?_
          rintro _ w47 ⟨rfl, ys47, hR47, m47⟩
          have B47 := ((B44.mod m45 nb).ext e46).mod m47 (blkNew hR.lt g43 (Nat.le_refl _))
          have S47 := (S45.ext e46).mod m47 (later hS5.lt hR.new (Below.size e39))
          have M47 := ((E44.mod.trans m45).trans e46.mod).trans_new m47 (fun k hk => Nat.le_trans (Below.size e39) (blkIn_new hR.new k hk))
          conv => whnf
          refine (spec_one S47 (by omega) (by omega)).mono ?_
          rintro _ w48 ⟨r48, rfl, S48, m48⟩
          have M48 := M47.trans m48
          conv => whnf
          with_reducible refine IfB.split (fun h49 => ?_) (fun h49 => ?_)
          · conv => whnf
            refine DrawK.mix tabok mixed a0 [(0, .any), (2, .any), (4, .any), (1, .held), (3, .run), (5, .run), (6, .any), (7, .write)] (by kernel_rfl) (by kernel_rfl) ?_
            conv => whnf
            intro w50 e50
            conv => whnf
            refine BSemK.load1 (by kernel_rfl) (k := 0) (Sr.cells ((B47.mod m48 nb).ext e50).cells nb) rfl ?_
            conv => whnf
            refine (spec_pick (S48.ext e50) (by omega) (by omega)).mono ?_
            rintro _ w51 ⟨r51, rfl, q51, q52, q53, S51, m51⟩
            conv => whnf
            refine ⟨m51, ?_⟩
            conv => whnf
            refine (spec_pick S51 (by omega) (by omega)).mono ?_
            rintro _ w52 ⟨r52, rfl, q54, q55, q56, S52, m52⟩
            have hR52 := (((hR47.mod m48 apR).ext e50).mod m51 apR).mod m52 apR
            have hl52 := hR52.len
            obtain ⟨y52, hy52⟩ := get_of_lt (l := ys47) (k := r51.toNat) (by omega)
            conv => whnf
            refine ⟨Mod.trans m51 m52, ?_⟩
            conv => whnf
            refine PSemK.indexOwn (sz := 1) (by kernel_rfl) r51.toNat (by omega) (by omega) ?_
            conv => whnf
            refine SemK.storeGrow1 (k := r51.toNat) (j := 0) (by kernel_rfl) eI_len hR52 hy52 (by decide) rfl r52 rfl ?_
            intro w53 c53 R53
            have hba := hR.lt _ rfl
            conv => whnf
            refine SemK.loadAgg (n := 1) (by kernel_rfl) (((((B47.mod m48 nb).ext e50).mod m51 nb).mod m52 nb).mod c53.but (fun e => by have h1 : b43 = ba := e; have h2 : ba < w42.heap.size := hba; omega)).cells rfl ?_
            conv => whnf
            refine SemK.buildSlice mk_24 (vs := [.agg #[.slice (some ⟨ba, 0, none⟩) 7 dc]]) (by rfl) (by rfl) (by simp [Value.cells]) (by decide) ?_
            intro b60 w60 g60 l60 e60 B60
            have G60 := Grow.of_blk (n := 1) (enc := eH) (xs := [⟨some ⟨ba, 0, none⟩, 7, dc⟩]) eH_len B60 g60 rfl (by decide)
            have Mf := (((M48.trans e50.mod).trans m51).trans m52).trans_new c53.but (fun k hk => Nat.le_trans (Below.size e39) (Nat.le_trans (hR.new _ rfl) (Nat.le_of_eq hk.symm)))
            have hGf := hG5.mod Mf (apart' hG5.new h.lt (Nat.le_refl _))
            have hHf := (hH5.src hS5 Mf h.lt).snoc (d := ⟨some ⟨ba, 0, none⟩, 7, dc⟩) ⟨_, (R53).base (Nat.le_trans (Mod.size hM5) (Below.size e39)), by show 7 ≤ 1000; omega⟩
            conv => whnf
            refine SemK.appendArr0 (enc := eH) mk_24 eH_len (hGf.ext e60) (G60.own.arr eH_len) (by intro y _; simp [eH, cellish]) (by omega) (by omega) (Nat.le_trans (Nat.le_trans (Mod.size hM5) (Mod.size Mf)) (Below.size e60)) ?_
            intro a61 c61 w61 G61 m61 i61
            conv => whnf
            refine SemK.sub _ rfl (by omega) (by omega) ?_
            conv => whnf
            exact ⟨j - 1, by omega, _, _, _, _, rfl, by omega, by omega, G61, (hHf.ext e60).apart (hGf.ext e60) (by omega) m61, ((hA5.mod Mf hap).ext e60).mod m61 (apart hal hG5.new (Nat.le_refl _)), (((S52.chg c53 hS5.lt (hR.new _ rfl) (Below.size e39)).ext e60).mod m61 (later h.lt hG5.new (Nat.le_refl _))).more (by omega), ((hM5.trans Mf).trans e60.mod).trans_new m61 (fun k hk => blkIn_new hG5.new k hk)⟩
          · conv => whnf
            refine SemK.loadAgg (n := 1) (by kernel_rfl) (B47.mod m48 nb).cells rfl ?_
            conv => whnf
            refine SemK.buildSlice mk_24 (vs := [.agg #[.slice (some ⟨ba, 0, none⟩) 7 dc]]) (by rfl) (by rfl) (by simp [Value.cells]) (by decide) ?_
            intro b60 w60 g60 l60 e60 B60
            have G60 := Grow.of_blk (n := 1) (enc := eH) (xs := [⟨some ⟨ba, 0, none⟩, 7, dc⟩]) eH_len B60 g60 rfl (by decide)
            have Mf := M48
            have hGf := hG5.mod Mf (apart' hG5.new h.lt (Nat.le_refl _))
            have hHf := (hH5.src hS5 Mf h.lt).snoc (d := ⟨some ⟨ba, 0, none⟩, 7, dc⟩) ⟨_, (hR47.mod m48 apR).base (Nat.le_trans (Mod.size hM5) (Below.size e39)), by show 7 ≤ 1000; omega⟩
            conv => whnf
            refine SemK.appendArr0 (enc := eH) mk_24 eH_len (hGf.ext e60) (G60.own.arr eH_len) (by intro y _; simp [eH, cellish]) (by omega) (by omega) (Nat.le_trans (Nat.le_trans (Mod.size hM5) (Mod.size Mf)) (Below.size e60)) ?_
            intro a61 c61 w61 G61 m61 i61
            conv => whnf
            refine SemK.sub _ rfl (by omega) (by omega) ?_
            conv => whnf
            exact ⟨j - 1, by omega, _, _, _, _, rfl, by omega, by omega, G61, (hHf.ext e60).apart (hGf.ext e60) (by omega) m61, ((hA5.mod Mf hap).ext e60).mod m61 (apart hal hG5.new (Nat.le_refl _)), (((S48).ext e60).mod m61 (later h.lt hG5.new (Nat.le_refl _))).more (by omega), ((hM5.trans Mf).trans e60.mod).trans_new m61 (fun k hk => blkIn_new hG5.new k hk)⟩
        · conv => whnf
          refine SemK.cat (by rw [hnm]; exact Nat.le_of_ble_eq_true rfl) ?_
          conv => whnf
          refine (spec_l03Card (nm ++ { data := #[48, 48, 48] }) (by rw [ByteArray.size_append, hnm]; exact Nat.le_of_ble_eq_true rfl) _).mono ?_
          rintro _ w42 ⟨⟨da, dn, dc⟩, ys, rfl, hdn, hR, e42⟩
          have hd7 : dn = 7 := by
            simp only [ByteArray.size_append, hnm] at hdn
            exact hdn
          subst hd7
          obtain ⟨ba, rfl⟩ := hR.own.some (by show 0 < 7; omega)
          simp only at hR
          conv => whnf
          refine SemK.alloc (z := .agg #[.slice none 0 0]) (by kernel_rfl) ?_
          intro b43 w43 g43 l43 e43 B43
          conv => whnf
          refine SemK.storeAll (vs := [Value.slice (some ⟨ba, 0, none⟩) 7 dc]) (by kernel_rfl) B43 rfl rfl (by simp [cellish]) ?_
          intro w44 c44 B44
          have E44 := Ext.but_trans (Ext.trans (Ext.trans e39 e42) e43) c44.but (Nat.le_trans (Below.size (Ext.trans e39 e42)) g43)
          have nb := blkNew hS5.lt g43 (Below.size (Ext.trans e39 e42))
          have hR44 := (hR.ext e43).mod c44.but (apartChg hR.lt g43 (Nat.le_refl _))
          have apR := apart' hR.new hS5.lt (Below.size e39)
          conv => whnf
          refine (spec_pick (hS5.ext E44) (by omega) (by omega)).mono ?_
          rintro _ w45 ⟨r45, rfl, q45, q46, q47, S45, m45⟩
          conv => whnf
          refine SemK.sub _ rfl (by omega) (by omega) ?_
          conv => whnf
          refine (spec_l03Put (r45 - 30) (by omega) 3 (by omega) (by omega) w45).mono ?_
          rintro _ w46 ⟨pa, pc, zs, pb, rfl, hP46, e46⟩
          conv => whnf
          refine SemK.build st_26 rfl ?_
          conv => whnf
          have hR45 := hR44.mod m45 apR
          refine (spec_l04Put ((B44.mod m45 nb).ext e46) (hR45.ext e46) (blkNew hR.lt g43 (Nat.le_refl _)) (hP46.own.arr eI_len) (apart' hP46.new hR45.lt (Nat.le_refl _)) 4 7 (by omega) (by omega)).mono ?_
          rintro _ w47 ⟨rfl, ys47, hR47, m47⟩
          have B47 := ((B44.mod m45 nb).ext e46).mod m47 (blkNew hR.lt g43 (Nat.le_refl _))
          have S47 := (S45.ext e46).mod m47 (later hS5.lt hR.new (Below.size e39))
          have M47 := ((E44.mod.trans m45).trans e46.mod).trans_new m47 (fun k hk => Nat.le_trans (Below.size e39) (blkIn_new hR.new k hk))
          conv => whnf
          refine (spec_one S47 (by omega) (by omega)).mono ?_
          rintro _ w48 ⟨r48, rfl, S48, m48⟩
          have M48 := M47.trans m48
          conv => whnf
          with_reducible refine IfB.split (fun h49 => ?_) (fun h49 => ?_)
          · conv => whnf
            refine DrawK.mix tabok mixed a0 [(0, .any), (2, .any), (4, .any), (1, .held), (3, .run), (5, .run), (6, .any), (7, .write)] (by kernel_rfl) (by kernel_rfl) ?_
            conv => whnf
            intro w50 e50
            conv => whnf
            refine BSemK.load1 (by kernel_rfl) (k := 0) (Sr.cells ((B47.mod m48 nb).ext e50).cells nb) rfl ?_
            conv => whnf
            refine (spec_pick (S48.ext e50) (by omega) (by omega)).mono ?_
            rintro _ w51 ⟨r51, rfl, q51, q52, q53, S51, m51⟩
            conv => whnf
            refine ⟨m51, ?_⟩
            conv => whnf
            refine (spec_pick S51 (by omega) (by omega)).mono ?_
            rintro _ w52 ⟨r52, rfl, q54, q55, q56, S52, m52⟩
            have hR52 := (((hR47.mod m48 apR).ext e50).mod m51 apR).mod m52 apR
            have hl52 := hR52.len
            obtain ⟨y52, hy52⟩ := get_of_lt (l := ys47) (k := r51.toNat) (by omega)
            conv => whnf
            refine ⟨Mod.trans m51 m52, ?_⟩
            conv => whnf
            refine PSemK.indexOwn (sz := 1) (by kernel_rfl) r51.toNat (by omega) (by omega) ?_
            conv => whnf
            refine SemK.storeGrow1 (k := r51.toNat) (j := 0) (by kernel_rfl) eI_len hR52 hy52 (by decide) rfl r52 rfl ?_
            intro w53 c53 R53
            have hba := hR.lt _ rfl
            conv => whnf
            refine SemK.loadAgg (n := 1) (by kernel_rfl) (((((B47.mod m48 nb).ext e50).mod m51 nb).mod m52 nb).mod c53.but (fun e => by have h1 : b43 = ba := e; have h2 : ba < w42.heap.size := hba; omega)).cells rfl ?_
            conv => whnf
            refine SemK.buildSlice mk_24 (vs := [.agg #[.slice (some ⟨ba, 0, none⟩) 7 dc]]) (by rfl) (by rfl) (by simp [Value.cells]) (by decide) ?_
            intro b60 w60 g60 l60 e60 B60
            have G60 := Grow.of_blk (n := 1) (enc := eH) (xs := [⟨some ⟨ba, 0, none⟩, 7, dc⟩]) eH_len B60 g60 rfl (by decide)
            have Mf := (((M48.trans e50.mod).trans m51).trans m52).trans_new c53.but (fun k hk => Nat.le_trans (Below.size e39) (Nat.le_trans (hR.new _ rfl) (Nat.le_of_eq hk.symm)))
            have hGf := hG5.mod Mf (apart' hG5.new h.lt (Nat.le_refl _))
            have hHf := (hH5.src hS5 Mf h.lt).snoc (d := ⟨some ⟨ba, 0, none⟩, 7, dc⟩) ⟨_, (R53).base (Nat.le_trans (Mod.size hM5) (Below.size e39)), by show 7 ≤ 1000; omega⟩
            conv => whnf
            refine SemK.appendArr0 (enc := eH) mk_24 eH_len (hGf.ext e60) (G60.own.arr eH_len) (by intro y _; simp [eH, cellish]) (by omega) (by omega) (Nat.le_trans (Nat.le_trans (Mod.size hM5) (Mod.size Mf)) (Below.size e60)) ?_
            intro a61 c61 w61 G61 m61 i61
            conv => whnf
            refine SemK.sub _ rfl (by omega) (by omega) ?_
            conv => whnf
            exact ⟨j - 1, by omega, _, _, _, _, rfl, by omega, by omega, G61, (hHf.ext e60).apart (hGf.ext e60) (by omega) m61, ((hA5.mod Mf hap).ext e60).mod m61 (apart hal hG5.new (Nat.le_refl _)), (((S52.chg c53 hS5.lt (hR.new _ rfl) (Below.size e39)).ext e60).mod m61 (later h.lt hG5.new (Nat.le_refl _))).more (by omega), ((hM5.trans Mf).trans e60.mod).trans_new m61 (fun k hk => blkIn_new hG5.new k hk)⟩
          · conv => whnf
            refine SemK.loadAgg (n := 1) (by kernel_rfl) (B47.mod m48 nb).cells rfl ?_
            conv => whnf
            refine SemK.buildSlice mk_24 (vs := [.agg #[.slice (some ⟨ba, 0, none⟩) 7 dc]]) (by rfl) (by rfl) (by simp [Value.cells]) (by decide) ?_
            intro b60 w60 g60 l60 e60 B60
            have G60 := Grow.of_blk (n := 1) (enc := eH) (xs := [⟨some ⟨ba, 0, none⟩, 7, dc⟩]) eH_len B60 g60 rfl (by decide)
            have Mf := M48
            have hGf := hG5.mod Mf (apart' hG5.new h.lt (Nat.le_refl _))
            have hHf := (hH5.src hS5 Mf h.lt).snoc (d := ⟨some ⟨ba, 0, none⟩, 7, dc⟩) ⟨_, (hR47.mod m48 apR).base (Nat.le_trans (Mod.size hM5) (Below.size e39)), by show 7 ≤ 1000; omega⟩
            conv => whnf
            refine SemK.appendArr0 (enc := eH) mk_24 eH_len (hGf.ext e60) (G60.own.arr eH_len) (by intro y _; simp [eH, cellish]) (by omega) (by omega) (Nat.le_trans (Nat.le_trans (Mod.size hM5) (Mod.size Mf)) (Below.size e60)) ?_
            intro a61 c61 w61 G61 m61 i61
            conv => whnf
            refine SemK.sub _ rfl (by omega) (by omega) ?_
            conv => whnf
            exact ⟨j - 1, by omega, _, _, _, _, rfl, by omega, by omega, G61, (hHf.ext e60).apart (hGf.ext e60) (by omega) m61, ((hA5.mod Mf hap).ext e60).mod m61 (apart hal hG5.new (Nat.le_refl _)), (((S48).ext e60).mod m61 (later h.lt hG5.new (Nat.le_refl _))).more (by omega), ((hM5.trans Mf).trans e60.mod).trans_new m61 (fun k hk => blkIn_new hG5.new k hk)⟩
      · conv => whnf
        have M5 := (e15.mod.trans m19).trans m24
        have hG5 := hG.mod M5 (apart' hG.new h.lt (Nat.le_refl _))
        have hH5 := hH.src hS M5 h.lt
        have hA5 := hAr.mod M5 hap
        have hS5 := S23
        have hM5 := hM.trans M5
        refine (spec_l25Plain _ (by omega) _).mono ?_
        rintro _ w40 ⟨b38, rfl, e39⟩
        conv => whnf
        with_reducible refine IfB.nsplit (fun h41 => ?_) (fun h41 => ?_)
        · conv => whnf
          refine SemK.cat (by rw [hN4]; exact Nat.le_of_ble_eq_true rfl) ?_
          conv => whnf
          refine (spec_l03Card ({ data := #[78, 85, 84, 32] } ++ { data := #[48, 48, 48] }) (by rw [ByteArray.size_append, hN4]; exact Nat.le_of_ble_eq_true rfl) _).mono ?_
          rintro _ w42 ⟨⟨da, dn, dc⟩, ys, rfl, hdn, hR, e42⟩
          have hd7 : dn = 7 := by
            simp only [ByteArray.size_append, hN4] at hdn
            exact hdn
          subst hd7
          obtain ⟨ba, rfl⟩ := hR.own.some (by show 0 < 7; omega)
          simp only at hR
          conv => whnf
          refine SemK.alloc (z := .agg #[.slice none 0 0]) (by kernel_rfl) ?_
          intro b43 w43 g43 l43 e43 B43
          conv => whnf
          refine SemK.storeAll (vs := [Value.slice (some ⟨ba, 0, none⟩) 7 dc]) (by kernel_rfl) B43 rfl rfl (by simp [cellish]) ?_
          intro w44 c44 B44
          have E44 := Ext.but_trans (Ext.trans (Ext.trans e39 e42) e43) c44.but (Nat.le_trans (Below.size (Ext.trans e39 e42)) g43)
          have nb := blkNew hS5.lt g43 (Below.size (Ext.trans e39 e42))
          have hR44 := (hR.ext e43).mod c44.but (apartChg hR.lt g43 (Nat.le_refl _))
          have apR := apart' hR.new hS5.lt (Below.size e39)
          conv => whnf
          refine (spec_pick (hS5.ext E44) (by omega) (by omega)).mono ?_
          rintro _ w45 ⟨r45, rfl, q45, q46, q47, S45, m45⟩
          conv => whnf
          refine SemK.sub _ rfl (by omega) (by omega) ?_
          conv => whnf
          refine (spec_l03Put (r45 - 30) (by omega) 3 (by omega) (by omega) w45).mono ?_
          rintro _ w46 ⟨pa, pc, zs, pb, rfl, hP46, e46⟩
          conv => whnf
          refine SemK.build st_26 rfl ?_
          conv => whnf
          have hR45 := hR44.mod m45 apR
          refine (spec_l04Put ((B44.mod m45 nb).ext e46) (hR45.ext e46) (blkNew hR.lt g43 (Nat.le_refl _)) (hP46.own.arr eI_len) (apart' hP46.new hR45.lt (Nat.le_refl _)) 4 7 (by omega) (by omega)).mono ?_
          rintro _ w47 ⟨rfl, ys47, hR47, m47⟩
          have B47 := ((B44.mod m45 nb).ext e46).mod m47 (blkNew hR.lt g43 (Nat.le_refl _))
          have S47 := (S45.ext e46).mod m47 (later hS5.lt hR.new (Below.size e39))
          have M47 := ((E44.mod.trans m45).trans e46.mod).trans_new m47 (fun k hk => Nat.le_trans (Below.size e39) (blkIn_new hR.new k hk))
          conv => whnf
          refine (spec_one S47 (by omega) (by omega)).mono ?_
          rintro _ w48 ⟨r48, rfl, S48, m48⟩
          have M48 := M47.trans m48
          conv => whnf
          with_reducible refine IfB.split (fun h49 => ?_) (fun h49 => ?_)
          · conv => whnf
            refine DrawK.mix tabok mixed a0 [(0, .any), (2, .any), (4, .any), (1, .held), (3, .run), (5, .run), (6, .any), (7, .write)] (by kernel_rfl) (by kernel_rfl) ?_
            conv => whnf
            intro w50 e50
            conv => whnf
            refine BSemK.load1 (by kernel_rfl) (k := 0) (Sr.cells ((B47.mod m48 nb).ext e50).cells nb) rfl ?_
            conv => whnf
            refine (spec_pick (S48.ext e50) (by omega) (by omega)).mono ?_
            rintro _ w51 ⟨r51, rfl, q51, q52, q53, S51, m51⟩
            conv => whnf
            refine ⟨m51, ?_⟩
            conv => whnf
            refine (spec_pick S51 (by omega) (by omega)).mono ?_
            rintro _ w52 ⟨r52, rfl, q54, q55, q56, S52, m52⟩
            have hR52 := (((hR47.mod m48 apR).ext e50).mod m51 apR).mod m52 apR
            have hl52 := hR52.len
            obtain ⟨y52, hy52⟩ := get_of_lt (l := ys47) (k := r51.toNat) (by omega)
            conv => whnf
            refine ⟨Mod.trans m51 m52, ?_⟩
            conv => whnf
            refine PSemK.indexOwn (sz := 1) (by kernel_rfl) r51.toNat (by omega) (by omega) ?_
            conv => whnf
            refine SemK.storeGrow1 (k := r51.toNat) (j := 0) (by kernel_rfl) eI_len hR52 hy52 (by decide) rfl r52 rfl ?_
            intro w53 c53 R53
            have hba := hR.lt _ rfl
            conv => whnf
            refine SemK.loadAgg (n := 1) (by kernel_rfl) (((((B47.mod m48 nb).ext e50).mod m51 nb).mod m52 nb).mod c53.but (fun e => by have h1 : b43 = ba := e; have h2 : ba < w42.heap.size := hba; omega)).cells rfl ?_
            conv => whnf
            refine SemK.buildSlice mk_24 (vs := [.agg #[.slice (some ⟨ba, 0, none⟩) 7 dc]]) (by rfl) (by rfl) (by simp [Value.cells]) (by decide) ?_
            intro b60 w60 g60 l60 e60 B60
            have G60 := Grow.of_blk (n := 1) (enc := eH) (xs := [⟨some ⟨ba, 0, none⟩, 7, dc⟩]) eH_len B60 g60 rfl (by decide)
            have Mf := (((M48.trans e50.mod).trans m51).trans m52).trans_new c53.but (fun k hk => Nat.le_trans (Below.size e39) (Nat.le_trans (hR.new _ rfl) (Nat.le_of_eq hk.symm)))
            have hGf := hG5.mod Mf (apart' hG5.new h.lt (Nat.le_refl _))
            have hHf := (hH5.src hS5 Mf h.lt).snoc (d := ⟨some ⟨ba, 0, none⟩, 7, dc⟩) ⟨_, (R53).base (Nat.le_trans (Mod.size hM5) (Below.size e39)), by show 7 ≤ 1000; omega⟩
            conv => whnf
            refine SemK.appendArr0 (enc := eH) mk_24 eH_len (hGf.ext e60) (G60.own.arr eH_len) (by intro y _; simp [eH, cellish]) (by omega) (by omega) (Nat.le_trans (Nat.le_trans (Mod.size hM5) (Mod.size Mf)) (Below.size e60)) ?_
            intro a61 c61 w61 G61 m61 i61
            conv => whnf
            refine SemK.sub _ rfl (by omega) (by omega) ?_
            conv => whnf
            exact ⟨j - 1, by omega, _, _, _, _, rfl, by omega, by omega, G61, (hHf.ext e60).apart (hGf.ext e60) (by omega) m61, ((hA5.mod Mf hap).ext e60).mod m61 (apart hal hG5.new (Nat.le_refl _)), (((S52.chg c53 hS5.lt (hR.new _ rfl) (Below.size e39)).ext e60).mod m61 (later h.lt hG5.new (Nat.le_refl _))).more (by omega), ((hM5.trans Mf).trans e60.mod).trans_new m61 (fun k hk => blkIn_new hG5.new k hk)⟩
          · conv => whnf
            refine SemK.loadAgg (n := 1) (by kernel_rfl) (B47.mod m48 nb).cells rfl ?_
            conv => whnf
            refine SemK.buildSlice mk_24 (vs := [.agg #[.slice (some ⟨ba, 0, none⟩) 7 dc]]) (by rfl) (by rfl) (by simp [Value.cells]) (by decide) ?_
            intro b60 w60 g60 l60 e60 B60
            have G60 := Grow.of_blk (n := 1) (enc := eH) (xs := [⟨some ⟨ba, 0, none⟩, 7, dc⟩]) eH_len B60 g60 rfl (by decide)
            have Mf := M48
            have hGf := hG5.mod Mf (apart' hG5.new h.lt (Nat.le_refl _))
            have hHf := (hH5.src hS5 Mf h.lt).snoc (d := ⟨some ⟨ba, 0, none⟩, 7, dc⟩) ⟨_, (hR47.mod m48 apR).base (Nat.le_trans (Mod.size hM5) (Below.size e39)), by show 7 ≤ 1000; omega⟩
            conv => whnf
            refine SemK.appendArr0 (enc := eH) mk_24 eH_len (hGf.ext e60) (G60.own.arr eH_len) (by intro y _; simp [eH, cellish]) (by omega) (by omega) (Nat.le_trans (Nat.le_trans (Mod.size hM5) (Mod.size Mf)) (Below.size e60)) ?_
            intro a61 c61 w61 G61 m61 i61
            conv => whnf
            refine SemK.sub _ rfl (by omega) (by omega) ?_
            conv => whnf
            exact ⟨j - 1, by omega, _, _, _, _, rfl, by omega, by omega, G61, (hHf.ext e60).apart (hGf.ext e60) (by omega) m61, ((hA5.mod Mf hap).ext e60).mod m61 (apart hal hG5.new (Nat.le_refl _)), (((S48).ext e60).mod m61 (later h.lt hG5.new (Nat.le_refl _))).more (by omega), ((hM5.trans Mf).trans e60.mod).trans_new m61 (fun k hk => blkIn_new hG5.new k hk)⟩
        · conv => whnf
          refine SemK.cat (by rw [hr16]; exact Nat.le_of_ble_eq_true rfl) ?_
          conv => whnf
          refine (spec_l03Card (r16 ++ { data := #[48, 48, 48] }) (by rw [ByteArray.size_append, hr16]; exact Nat.le_of_ble_eq_true rfl) _).mono ?_
          rintro _ w42 ⟨⟨da, dn, dc⟩, ys, rfl, hdn, hR, e42⟩
          have hd7 : dn = 7 := by
            simp only [ByteArray.size_append, hr16] at hdn
            exact hdn
          subst hd7
          obtain ⟨ba, rfl⟩ := hR.own.some (by show 0 < 7; omega)
          simp only at hR
          conv => whnf
          refine SemK.alloc (z := .agg #[.slice none 0 0]) (by kernel_rfl) ?_
          intro b43 w43 g43 l43 e43 B43
          conv => whnf
          refine SemK.storeAll (vs := [Value.slice (some ⟨ba, 0, none⟩) 7 dc]) (by kernel_rfl) B43 rfl rfl (by simp [cellish]) ?_
          intro w44 c44 B44
          have E44 := Ext.but_trans (Ext.trans (Ext.trans e39 e42) e43) c44.but (Nat.le_trans (Below.size (Ext.trans e39 e42)) g43)
          have nb := blkNew hS5.lt g43 (Below.size (Ext.trans e39 e42))
          have hR44 := (hR.ext e43).mod c44.but (apartChg hR.lt g43 (Nat.le_refl _))
          have apR := apart' hR.new hS5.lt (Below.size e39)
          conv => whnf
          refine (spec_pick (hS5.ext E44) (by omega) (by omega)).mono ?_
          rintro _ w45 ⟨r45, rfl, q45, q46, q47, S45, m45⟩
          conv => whnf
          refine SemK.sub _ rfl (by omega) (by omega) ?_
          conv => whnf
          refine (spec_l03Put (r45 - 30) (by omega) 3 (by omega) (by omega) w45).mono ?_
          rintro _ w46 ⟨pa, pc, zs, pb, rfl, hP46, e46⟩
          conv => whnf
          refine SemK.build st_26 rfl ?_
          conv => whnf
          have hR45 := hR44.mod m45 apR
          refine (spec_l04Put ((B44.mod m45 nb).ext e46) (hR45.ext e46) (blkNew hR.lt g43 (Nat.le_refl _)) (hP46.own.arr eI_len) (apart' hP46.new hR45.lt (Nat.le_refl _)) 4 7 (by omega) (by omega)).mono ?_
          rintro _ w47 ⟨rfl, ys47, hR47, m47⟩
          have B47 := ((B44.mod m45 nb).ext e46).mod m47 (blkNew hR.lt g43 (Nat.le_refl _))
          have S47 := (S45.ext e46).mod m47 (later hS5.lt hR.new (Below.size e39))
          have M47 := ((E44.mod.trans m45).trans e46.mod).trans_new m47 (fun k hk => Nat.le_trans (Below.size e39) (blkIn_new hR.new k hk))
          conv => whnf
          refine (spec_one S47 (by omega) (by omega)).mono ?_
          rintro _ w48 ⟨r48, rfl, S48, m48⟩
          have M48 := M47.trans m48
          conv => whnf
          with_reducible refine IfB.split (fun h49 => ?_) (fun h49 => ?_)
          · conv => whnf
            refine DrawK.mix tabok mixed a0 [(0, .any), (2, .any), (4, .any), (1, .held), (3, .run), (5, .run), (6, .any), (7, .write)] (by kernel_rfl) (by kernel_rfl) ?_
            conv => whnf
            intro w50 e50
            conv => whnf
            refine BSemK.load1 (by kernel_rfl) (k := 0) (Sr.cells ((B47.mod m48 nb).ext e50).cells nb) rfl ?_
            conv => whnf
            refine (spec_pick (S48.ext e50) (by omega) (by omega)).mono ?_
            rintro _ w51 ⟨r51, rfl, q51, q52, q53, S51, m51⟩
            conv => whnf
            refine ⟨m51, ?_⟩
            conv => whnf
            refine (spec_pick S51 (by omega) (by omega)).mono ?_
            rintro _ w52 ⟨r52, rfl, q54, q55, q56, S52, m52⟩
            have hR52 := (((hR47.mod m48 apR).ext e50).mod m51 apR).mod m52 apR
            have hl52 := hR52.len
            obtain ⟨y52, hy52⟩ := get_of_lt (l := ys47) (k := r51.toNat) (by omega)
            conv => whnf
            refine ⟨Mod.trans m51 m52, ?_⟩
            conv => whnf
            refine PSemK.indexOwn (sz := 1) (by kernel_rfl) r51.toNat (by omega) (by omega) ?_
            conv => whnf
            refine SemK.storeGrow1 (k := r51.toNat) (j := 0) (by kernel_rfl) eI_len hR52 hy52 (by decide) rfl r52 rfl ?_
            intro w53 c53 R53
            have hba := hR.lt _ rfl
            conv => whnf
            refine SemK.loadAgg (n := 1) (by kernel_rfl) (((((B47.mod m48 nb).ext e50).mod m51 nb).mod m52 nb).mod c53.but (fun e => by have h1 : b43 = ba := e; have h2 : ba < w42.heap.size := hba; omega)).cells rfl ?_
            conv => whnf
            refine SemK.buildSlice mk_24 (vs := [.agg #[.slice (some ⟨ba, 0, none⟩) 7 dc]]) (by rfl) (by rfl) (by simp [Value.cells]) (by decide) ?_
            intro b60 w60 g60 l60 e60 B60
            have G60 := Grow.of_blk (n := 1) (enc := eH) (xs := [⟨some ⟨ba, 0, none⟩, 7, dc⟩]) eH_len B60 g60 rfl (by decide)
            have Mf := (((M48.trans e50.mod).trans m51).trans m52).trans_new c53.but (fun k hk => Nat.le_trans (Below.size e39) (Nat.le_trans (hR.new _ rfl) (Nat.le_of_eq hk.symm)))
            have hGf := hG5.mod Mf (apart' hG5.new h.lt (Nat.le_refl _))
            have hHf := (hH5.src hS5 Mf h.lt).snoc (d := ⟨some ⟨ba, 0, none⟩, 7, dc⟩) ⟨_, (R53).base (Nat.le_trans (Mod.size hM5) (Below.size e39)), by show 7 ≤ 1000; omega⟩
            conv => whnf
            refine SemK.appendArr0 (enc := eH) mk_24 eH_len (hGf.ext e60) (G60.own.arr eH_len) (by intro y _; simp [eH, cellish]) (by omega) (by omega) (Nat.le_trans (Nat.le_trans (Mod.size hM5) (Mod.size Mf)) (Below.size e60)) ?_
            intro a61 c61 w61 G61 m61 i61
            conv => whnf
            refine SemK.sub _ rfl (by omega) (by omega) ?_
            conv => whnf
            exact ⟨j - 1, by omega, _, _, _, _, rfl, by omega, by omega, G61, (hHf.ext e60).apart (hGf.ext e60) (by omega) m61, ((hA5.mod Mf hap).ext e60).mod m61 (apart hal hG5.new (Nat.le_refl _)), (((S52.chg c53 hS5.lt (hR.new _ rfl) (Below.size e39)).ext e60).mod m61 (later h.lt hG5.new (Nat.le_refl _))).more (by omega), ((hM5.trans Mf).trans e60.mod).trans_new m61 (fun k hk => blkIn_new hG5.new k hk)⟩
          · conv => whnf
            refine SemK.loadAgg (n := 1) (by kernel_rfl) (B47.mod m48 nb).cells rfl ?_
            conv => whnf
            refine SemK.buildSlice mk_24 (vs := [.agg #[.slice (some ⟨ba, 0, none⟩) 7 dc]]) (by rfl) (by rfl) (by simp [Value.cells]) (by decide) ?_
            intro b60 w60 g60 l60 e60 B60
            have G60 := Grow.of_blk (n := 1) (enc := eH) (xs := [⟨some ⟨ba, 0, none⟩, 7, dc⟩]) eH_len B60 g60 rfl (by decide)
            have Mf := M48
            have hGf := hG5.mod Mf (apart' hG5.new h.lt (Nat.le_refl _))
            have hHf := (hH5.src hS5 Mf h.lt).snoc (d := ⟨some ⟨ba, 0, none⟩, 7, dc⟩) ⟨_, (hR47.mod m48 apR).base (Nat.le_trans (Mod.size hM5) (Below.size e39)), by show 7 ≤ 1000; omega⟩
            conv => whnf
            refine SemK.appendArr0 (enc := eH) mk_24 eH_len (hGf.ext e60) (G60.own.arr eH_len) (by intro y _; simp [eH, cellish]) (by omega) (by omega) (Nat.le_trans (Nat.le_trans (Mod.size hM5) (Mod.size Mf)) (Below.size e60)) ?_
            intro a61 c61 w61 G61 m61 i61
            conv => whnf
            refine SemK.sub _ rfl (by omega) (by omega) ?_
            conv => whnf
            exact ⟨j - 1, by omega, _, _, _, _, rfl, by omega, by omega, G61, (hHf.ext e60).apart (hGf.ext e60) (by omega) m61, ((hA5.mod Mf hap).ext e60).mod m61 (apart hal hG5.new (Nat.le_refl _)), (((S48).ext e60).mod m61 (later h.lt hG5.new (Nat.le_refl _))).more (by omega), ((hM5.trans Mf).trans e60.mod).trans_new m61 (fun k hk => blkIn_new hG5.new k hk)⟩
    · conv => whnf
      have M5 := e15.mod.trans m19
      have hG5 := hG.mod M5 (apart' hG.new h.lt (Nat.le_refl _))
      have hH5 := hH.src hS M5 h.lt
      have hA5 := hAr.mod M5 hap
      have hS5 := S18
      have hM5 := hM.trans M5
      refine (spec_l25Plain _ (by omega) _).mono ?_
      rintro _ w40 ⟨b38, rfl, e39⟩
      conv => whnf
      with_reducible refine IfB.nsplit (fun h41 => ?_) (fun h41 => ?_)
      · conv => whnf
        refine SemK.cat (by rw [hN4]; exact Nat.le_of_ble_eq_true rfl) ?_
        conv => whnf
        refine (spec_l03Card ({ data := #[78, 85, 84, 32] } ++ { data := #[48, 48, 48] }) (by rw [ByteArray.size_append, hN4]; exact Nat.le_of_ble_eq_true rfl) _).mono ?_
        rintro _ w42 ⟨⟨da, dn, dc⟩, ys, rfl, hdn, hR, e42⟩
        have hd7 : dn = 7 := by
          simp only [ByteArray.size_append, hN4] at hdn
          exact hdn
        subst hd7
        obtain ⟨ba, rfl⟩ := hR.own.some (by show 0 < 7; omega)
        simp only at hR
        conv => whnf
        refine SemK.alloc (z := .agg #[.slice none 0 0]) (by kernel_rfl) ?_
        intro b43 w43 g43 l43 e43 B43
        conv => whnf
        refine SemK.storeAll (vs := [Value.slice (some ⟨ba, 0, none⟩) 7 dc]) (by kernel_rfl) B43 rfl rfl (by simp [cellish]) ?_
        intro w44 c44 B44
        have E44 := Ext.but_trans (Ext.trans (Ext.trans e39 e42) e43) c44.but (Nat.le_trans (Below.size (Ext.trans e39 e42)) g43)
        have nb := blkNew hS5.lt g43 (Below.size (Ext.trans e39 e42))
        have hR44 := (hR.ext e43).mod c44.but (apartChg hR.lt g43 (Nat.le_refl _))
        have apR := apart' hR.new hS5.lt (Below.size e39)
        conv => whnf
        refine (spec_pick (hS5.ext E44) (by omega) (by omega)).mono ?_
        rintro _ w45 ⟨r45, rfl, q45, q46, q47, S45, m45⟩
        conv => whnf
        refine SemK.sub _ rfl (by omega) (by omega) ?_
        conv => whnf
        refine (spec_l03Put (r45 - 30) (by omega) 3 (by omega) (by omega) w45).mono ?_
        rintro _ w46 ⟨pa, pc, zs, pb, rfl, hP46, e46⟩
        conv => whnf
        refine SemK.build st_26 rfl ?_
        conv => whnf
        have hR45 := hR44.mod m45 apR
        refine (spec_l04Put ((B44.mod m45 nb).ext e46) (hR45.ext e46) (blkNew hR.lt g43 (Nat.le_refl _)) (hP46.own.arr eI_len) (apart' hP46.new hR45.lt (Nat.le_refl _)) 4 7 (by omega) (by omega)).mono ?_
        rintro _ w47 ⟨rfl, ys47, hR47, m47⟩
        have B47 := ((B44.mod m45 nb).ext e46).mod m47 (blkNew hR.lt g43 (Nat.le_refl _))
        have S47 := (S45.ext e46).mod m47 (later hS5.lt hR.new (Below.size e39))
        have M47 := ((E44.mod.trans m45).trans e46.mod).trans_new m47 (fun k hk => Nat.le_trans (Below.size e39) (blkIn_new hR.new k hk))
        conv => whnf
        refine (spec_one S47 (by omega) (by omega)).mono ?_
        rintro _ w48 ⟨r48, rfl, S48, m48⟩
        have M48 := M47.trans m48
        conv => whnf
        with_reducible refine IfB.split (fun h49 => ?_) (fun h49 => ?_)
        · conv => whnf
          refine DrawK.mix tabok mixed a0 [(0, .any), (2, .any), (4, .any), (1, .held), (3, .run), (5, .run), (6, .any), (7, .write)] (by kernel_rfl) (by kernel_rfl) ?_
          conv => whnf
          intro w50 e50
          conv => whnf
          refine BSemK.load1 (by kernel_rfl) (k := 0) (Sr.cells ((B47.mod m48 nb).ext e50).cells nb) rfl ?_
          conv => whnf
          refine (spec_pick (S48.ext e50) (by omega) (by omega)).mono ?_
          rintro _ w51 ⟨r51, rfl, q51, q52, q53, S51, m51⟩
          conv => whnf
          refine ⟨m51, ?_⟩
          conv => whnf
          refine (spec_pick S51 (by omega) (by omega)).mono ?_
          rintro _ w52 ⟨r52, rfl, q54, q55, q56, S52, m52⟩
          have hR52 := (((hR47.mod m48 apR).ext e50).mod m51 apR).mod m52 apR
          have hl52 := hR52.len
          obtain ⟨y52, hy52⟩ := get_of_lt (l := ys47) (k := r51.toNat) (by omega)
          conv => whnf
          refine ⟨Mod.trans m51 m52, ?_⟩
          conv => whnf
          refine PSemK.indexOwn (sz := 1) (by kernel_rfl) r51.toNat (by omega) (by omega) ?_
          conv => whnf
          refine SemK.storeGrow1 (k := r51.toNat) (j := 0) (by kernel_rfl) eI_len hR52 hy52 (by decide) rfl r52 rfl ?_
          intro w53 c53 R53
          have hba := hR.lt _ rfl
          conv => whnf
          refine SemK.loadAgg (n := 1) (by kernel_rfl) (((((B47.mod m48 nb).ext e50).mod m51 nb).mod m52 nb).mod c53.but (fun e => by have h1 : b43 = ba := e; have h2 : ba < w42.heap.size := hba; omega)).cells rfl ?_
          conv => whnf
          refine SemK.buildSlice mk_24 (vs := [.agg #[.slice (some ⟨ba, 0, none⟩) 7 dc]]) (by rfl) (by rfl) (by simp [Value.cells]) (by decide) ?_
          intro b60 w60 g60 l60 e60 B60
          have G60 := Grow.of_blk (n := 1) (enc := eH) (xs := [⟨some ⟨ba, 0, none⟩, 7, dc⟩]) eH_len B60 g60 rfl (by decide)
          have Mf := (((M48.trans e50.mod).trans m51).trans m52).trans_new c53.but (fun k hk => Nat.le_trans (Below.size e39) (Nat.le_trans (hR.new _ rfl) (Nat.le_of_eq hk.symm)))
          have hGf := hG5.mod Mf (apart' hG5.new h.lt (Nat.le_refl _))
          have hHf := (hH5.src hS5 Mf h.lt).snoc (d := ⟨some ⟨ba, 0, none⟩, 7, dc⟩) ⟨_, (R53).base (Nat.le_trans (Mod.size hM5) (Below.size e39)), by show 7 ≤ 1000; omega⟩
          conv => whnf
          refine SemK.appendArr0 (enc := eH) mk_24 eH_len (hGf.ext e60) (G60.own.arr eH_len) (by intro y _; simp [eH, cellish]) (by omega) (by omega) (Nat.le_trans (Nat.le_trans (Mod.size hM5) (Mod.size Mf)) (Below.size e60)) ?_
          intro a61 c61 w61 G61 m61 i61
          conv => whnf
          refine SemK.sub _ rfl (by omega) (by omega) ?_
          conv => whnf
          exact ⟨j - 1, by omega, _, _, _, _, rfl, by omega, by omega, G61, (hHf.ext e60).apart (hGf.ext e60) (by omega) m61, ((hA5.mod Mf hap).ext e60).mod m61 (apart hal hG5.new (Nat.le_refl _)), (((S52.chg c53 hS5.lt (hR.new _ rfl) (Below.size e39)).ext e60).mod m61 (later h.lt hG5.new (Nat.le_refl _))).more (by omega), ((hM5.trans Mf).trans e60.mod).trans_new m61 (fun k hk => blkIn_new hG5.new k hk)⟩
        · conv => whnf
          refine SemK.loadAgg (n := 1) (by kernel_rfl) (B47.mod m48 nb).cells rfl ?_
          conv => whnf
          refine SemK.buildSlice mk_24 (vs := [.agg #[.slice (some ⟨ba, 0, none⟩) 7 dc]]) (by rfl) (by rfl) (by simp [Value.cells]) (by decide) ?_
          intro b60 w60 g60 l60 e60 B60
          have G60 := Grow.of_blk (n := 1) (enc := eH) (xs := [⟨some ⟨ba, 0, none⟩, 7, dc⟩]) eH_len B60 g60 rfl (by decide)
          have Mf := M48
          have hGf := hG5.mod Mf (apart' hG5.new h.lt (Nat.le_refl _))
          have hHf := (hH5.src hS5 Mf h.lt).snoc (d := ⟨some ⟨ba, 0, none⟩, 7, dc⟩) ⟨_, (hR47.mod m48 apR).base (Nat.le_trans (Mod.size hM5) (Below.size e39)), by show 7 ≤ 1000; omega⟩
          conv => whnf
          refine SemK.appendArr0 (enc := eH) mk_24 eH_len (hGf.ext e60) (G60.own.arr eH_len) (by intro y _; simp [eH, cellish]) (by omega) (by omega) (Nat.le_trans (Nat.le_trans (Mod.size hM5) (Mod.size Mf)) (Below.size e60)) ?_
          intro a61 c61 w61 G61 m61 i61
          conv => whnf
          refine SemK.sub _ rfl (by omega) (by omega) ?_
          conv => whnf
          exact ⟨j - 1, by omega, _, _, _, _, rfl, by omega, by omega, G61, (hHf.ext e60).apart (hGf.ext e60) (by omega) m61, ((hA5.mod Mf hap).ext e60).mod m61 (apart hal hG5.new (Nat.le_refl _)), (((S48).ext e60).mod m61 (later h.lt hG5.new (Nat.le_refl _))).more (by omega), ((hM5.trans Mf).trans e60.mod).trans_new m61 (fun k hk => blkIn_new hG5.new k hk)⟩
      · conv => whnf
        refine SemK.cat (by rw [hr16]; exact Nat.le_of_ble_eq_true rfl) ?_
        conv => whnf
        refine (spec_l03Card (r16 ++ { data := #[48, 48, 48] }) (by rw [ByteArray.size_append, hr16]; exact Nat.le_of_ble_eq_true rfl) _).mono ?_
        rintro _ w42 ⟨⟨da, dn, dc⟩, ys, rfl, hdn, hR, e42⟩
        have hd7 : dn = 7 := by
          simp only [ByteArray.size_append, hr16] at hdn
          exact hdn
        subst hd7
        obtain ⟨ba, rfl⟩ := hR.own.some (by show 0 < 7; omega)
        simp only at hR
        conv => whnf
        refine SemK.alloc (z := .agg #[.slice none 0 0]) (by kernel_rfl) ?_
        intro b43 w43 g43 l43 e43 B43
        conv => whnf
        refine SemK.storeAll (vs := [Value.slice (some ⟨ba, 0, none⟩) 7 dc]) (by kernel_rfl) B43 rfl rfl (by simp [cellish]) ?_
        intro w44 c44 B44
        have E44 := Ext.but_trans (Ext.trans (Ext.trans e39 e42) e43) c44.but (Nat.le_trans (Below.size (Ext.trans e39 e42)) g43)
        have nb := blkNew hS5.lt g43 (Below.size (Ext.trans e39 e42))
        have hR44 := (hR.ext e43).mod c44.but (apartChg hR.lt g43 (Nat.le_refl _))
        have apR := apart' hR.new hS5.lt (Below.size e39)
        conv => whnf
        refine (spec_pick (hS5.ext E44) (by omega) (by omega)).mono ?_
        rintro _ w45 ⟨r45, rfl, q45, q46, q47, S45, m45⟩
        conv => whnf
        refine SemK.sub _ rfl (by omega) (by omega) ?_
        conv => whnf
        refine (spec_l03Put (r45 - 30) (by omega) 3 (by omega) (by omega) w45).mono ?_
        rintro _ w46 ⟨pa, pc, zs, pb, rfl, hP46, e46⟩
        conv => whnf
        refine SemK.build st_26 rfl ?_
        conv => whnf
        have hR45 := hR44.mod m45 apR
        refine (spec_l04Put ((B44.mod m45 nb).ext e46) (hR45.ext e46) (blkNew hR.lt g43 (Nat.le_refl _)) (hP46.own.arr eI_len) (apart' hP46.new hR45.lt (Nat.le_refl _)) 4 7 (by omega) (by omega)).mono ?_
        rintro _ w47 ⟨rfl, ys47, hR47, m47⟩
        have B47 := ((B44.mod m45 nb).ext e46).mod m47 (blkNew hR.lt g43 (Nat.le_refl _))
        have S47 := (S45.ext e46).mod m47 (later hS5.lt hR.new (Below.size e39))
        have M47 := ((E44.mod.trans m45).trans e46.mod).trans_new m47 (fun k hk => Nat.le_trans (Below.size e39) (blkIn_new hR.new k hk))
        conv => whnf
        refine (spec_one S47 (by omega) (by omega)).mono ?_
        rintro _ w48 ⟨r48, rfl, S48, m48⟩
        have M48 := M47.trans m48
        conv => whnf
        with_reducible refine IfB.split (fun h49 => ?_) (fun h49 => ?_)
        · conv => whnf
          refine DrawK.mix tabok mixed a0 [(0, .any), (2, .any), (4, .any), (1, .held), (3, .run), (5, .run), (6, .any), (7, .write)] (by kernel_rfl) (by kernel_rfl) ?_
          conv => whnf
          intro w50 e50
          conv => whnf
          refine BSemK.load1 (by kernel_rfl) (k := 0) (Sr.cells ((B47.mod m48 nb).ext e50).cells nb) rfl ?_
          conv => whnf
          refine (spec_pick (S48.ext e50) (by omega) (by omega)).mono ?_
          rintro _ w51 ⟨r51, rfl, q51, q52, q53, S51, m51⟩
          conv => whnf
          refine ⟨m51, ?_⟩
          conv => whnf
          refine (spec_pick S51 (by omega) (by omega)).mono ?_
          rintro _ w52 ⟨r52, rfl, q54, q55, q56, S52, m52⟩
          have hR52 := (((hR47.mod m48 apR).ext e50).mod m51 apR).mod m52 apR
          have hl52 := hR52.len
          obtain ⟨y52, hy52⟩ := get_of_lt (l := ys47) (k := r51.toNat) (by omega)
          conv => whnf
          refine ⟨Mod.trans m51 m52, ?_⟩
          conv => whnf
          refine PSemK.indexOwn (sz := 1) (by kernel_rfl) r51.toNat (by omega) (by omega) ?_
          conv => whnf
          refine SemK.storeGrow1 (k := r51.toNat) (j := 0) (by kernel_rfl) eI_len hR52 hy52 (by decide) rfl r52 rfl ?_
          intro w53 c53 R53
          have hba := hR.lt _ rfl
          conv => whnf
          refine SemK.loadAgg (n := 1) (by kernel_rfl) (((((B47.mod m48 nb).ext e50).mod m51 nb).mod m52 nb).mod c53.but (fun e => by have h1 : b43 = ba := e; have h2 : ba < w42.heap.size := hba; omega)).cells rfl ?_
          conv => whnf
          refine SemK.buildSlice mk_24 (vs := [.agg #[.slice (some ⟨ba, 0, none⟩) 7 dc]]) (by rfl) (by rfl) (by simp [Value.cells]) (by decide) ?_
          intro b60 w60 g60 l60 e60 B60
          have G60 := Grow.of_blk (n := 1) (enc := eH) (xs := [⟨some ⟨ba, 0, none⟩, 7, dc⟩]) eH_len B60 g60 rfl (by decide)
          have Mf := (((M48.trans e50.mod).trans m51).trans m52).trans_new c53.but (fun k hk => Nat.le_trans (Below.size e39) (Nat.le_trans (hR.new _ rfl) (Nat.le_of_eq hk.symm)))
          have hGf := hG5.mod Mf (apart' hG5.new h.lt (Nat.le_refl _))
          have hHf := (hH5.src hS5 Mf h.lt).snoc (d := ⟨some ⟨ba, 0, none⟩, 7, dc⟩) ⟨_, (R53).base (Nat.le_trans (Mod.size hM5) (Below.size e39)), by show 7 ≤ 1000; omega⟩
          conv => whnf
          refine SemK.appendArr0 (enc := eH) mk_24 eH_len (hGf.ext e60) (G60.own.arr eH_len) (by intro y _; simp [eH, cellish]) (by omega) (by omega) (Nat.le_trans (Nat.le_trans (Mod.size hM5) (Mod.size Mf)) (Below.size e60)) ?_
          intro a61 c61 w61 G61 m61 i61
          conv => whnf
          refine SemK.sub _ rfl (by omega) (by omega) ?_
          conv => whnf
          exact ⟨j - 1, by omega, _, _, _, _, rfl, by omega, by omega, G61, (hHf.ext e60).apart (hGf.ext e60) (by omega) m61, ((hA5.mod Mf hap).ext e60).mod m61 (apart hal hG5.new (Nat.le_refl _)), (((S52.chg c53 hS5.lt (hR.new _ rfl) (Below.size e39)).ext e60).mod m61 (later h.lt hG5.new (Nat.le_refl _))).more (by omega), ((hM5.trans Mf).trans e60.mod).trans_new m61 (fun k hk => blkIn_new hG5.new k hk)⟩
        · conv => whnf
          refine SemK.loadAgg (n := 1) (by kernel_rfl) (B47.mod m48 nb).cells rfl ?_
          conv => whnf
          refine SemK.buildSlice mk_24 (vs := [.agg #[.slice (some ⟨ba, 0, none⟩) 7 dc]]) (by rfl) (by rfl) (by simp [Value.cells]) (by decide) ?_
          intro b60 w60 g60 l60 e60 B60
          have G60 := Grow.of_blk (n := 1) (enc := eH) (xs := [⟨some ⟨ba, 0, none⟩, 7, dc⟩]) eH_len B60 g60 rfl (by decide)
          have Mf := M48
          have hGf := hG5.mod Mf (apart' hG5.new h.lt (Nat.le_refl _))
          have hHf := (hH5.src hS5 Mf h.lt).snoc (d := ⟨some ⟨ba, 0, none⟩, 7, dc⟩) ⟨_, (hR47.mod m48 apR).base (Nat.le_trans (Mod.size hM5) (Below.size e39)), by show 7 ≤ 1000; omega⟩
          conv => whnf
          refine SemK.appendArr0 (enc := eH) mk_24 eH_len (hGf.ext e60) (G60.own.arr eH_len) (by intro y _; simp [eH, cellish]) (by omega) (by omega) (Nat.le_trans (Nat.le_trans (Mod.size hM5) (Mod.size Mf)) (Below.size e60)) ?_
          intro a61 c61 w61 G61 m61 i61
          conv => whnf
          refine SemK.sub _ rfl (by omega) (by omega) ?_
          conv => whnf
          exact ⟨j - 1, by omega, _, _, _, _, rfl, by omega, by omega, G61, (hHf.ext e60).apart (hGf.ext e60) (by omega) m61, ((hA5.mod Mf hap).ext e60).mod m61 (apart hal hG5.new (Nat.le_refl _)), (((S48).ext e60).mod m61 (later h.lt hG5.new (Nat.le_refl _))).more (by omega), ((hM5.trans Mf).trans e60.mod).trans_new m61 (fun k hk => blkIn_new hG5.new k hk)⟩
  · conv => whnf
    refine (spec_one hS (by omega) (by omega)).mono ?_
    rintro _ w18 ⟨r15, rfl, S16, m17⟩
    conv => whnf
    with_reducible refine IfB.split (fun h19 => ?_) (fun h19 => ?_)
    · conv => whnf
      refine (spec_l02BentDeck S16 (by omega)).mono ?_
      rintro _ w28 ⟨a'20, n'21, c'22, ds23, rfl, G24, q25, S26, m27⟩
      conv => whnf
      exact ⟨_, _, _, _, rfl, (G24.base (Nat.le_trans (Mod.size hM) (Mod.size m17))), q25.le (Nat.le_trans (Mod.size hM) (Mod.size m17)), (S26.more (by omega)), ((hM.trans m17).trans m27)⟩
    · conv => whnf
      exact ⟨_, _, _, _, rfl, (hG.mod m17 (apart' hG.new h.lt (Nat.le_refl _))), hH.src hS m17 h.lt, (S16.more (by omega)), (hM.trans m17)⟩
theorem spec_DrawMovesFrom {w : World} {a : Option Addr} {n c : Nat} {xs : List UInt8} (h : Arr eB 1 w a n xs) :
    Does Tryz.prog 30 [.slice a n c] w (fun v w' => ∃ a1 n1 c1 ps wd a2 n2 c2 its a3 n3 c3, ∃ d : List (List Int), v = .tuple #[.slice a1 n1 c1, .agg #[.int .i64 wd, .slice a2 n2 c2], .slice a3 n3 c3] ∧ n1 ≤ 42 ∧ n1 ≤ c1 ∧ (∀ x ∈ ps, x.ok) ∧ n2 ≤ c2 ∧ (∀ x ∈ its, x.ok) ∧ Arr TPart.enc 4 w' a1 n1 ps ∧ Arr TItem.enc 4 w' a2 n2 its ∧ ArrS RCard w' a3 n3 d ∧ Ext w w') := by
  refine Does.of_vc tabok Tryz.func30 rfl rfl rfl (by kernel_rfl) ?_; conv => whnf
  refine SemK.alloc (z := .agg #[.int .i64 0, .slice none 0 0]) (by kernel_rfl) ?_
  intro b1 w1 g1 l1 e1 B1
  conv => whnf
  refine (spec_l00From (h.ext e1)).mono ?_
  rintro _ w6 ⟨a'2, rfl, N3, S4, e5⟩
  conv => whnf
  refine (spec_l25Bent S4 (by omega)).mono ?_
  rintro _ w17 ⟨a'7, n'8, c'9, xs10, rfl, q11, q12, N13, G14, S15, m16⟩
  have leG14 := G14.le.1
  have lnG14 := G14.len
  conv => whnf
  refine (spec_l25Layout S15 (by omega)).mono ?_
  rintro _ w29 ⟨wd18, a119, n120, c121, its22, rfl, q23, q24, N25, A26, S27, m28⟩
  conv => whnf
  refine SemK.alloc (z := .agg #[.int .i64 0, .slice none 0 0]) (by kernel_rfl) ?_
  intro b30 w30 g30 l30 e30 B30
  conv => whnf
  refine SemK.storeAll (vs := [Value.int IntKind.i64 wd18, Value.slice a119 n120 c121]) (by kernel_rfl) B30 rfl rfl (by simp [cellish]) ?_
  intro w31 c31 B31
  conv => whnf
  refine DrawK.mix tabok mixed (a'2) [(0, .any), (2, .any), (3, .any), (1, .held), (4, .run), (5, .any), (6, .write), (7, .any)] (by kernel_rfl) (by kernel_rfl) ?_
  conv => whnf
  intro w32 e32
  conv => whnf
  refine BSemK.loadAgg (n := 2) (by kernel_rfl) (Sr.cells (B31.ext e32).cells (blkNew S4.lt g30 (Nat.le_trans (Mod.size m16) (Mod.size m28)))) rfl ?_
  conv => whnf
  refine (spec_l25Deck (((S27.ext e30).chg c31 S4.lt g30 (Nat.le_trans (Mod.size m16) (Mod.size m28))).ext e32) (by omega) (((G14.mod m28 (apart' G14.new S4.lt (Nat.le_refl _))).ext (Ext.trans (Ext.but_trans e30 c31.but g30) e32)).own.arr TPart.enc_len) q12 q11 (apart' G14.new S4.lt (Nat.le_refl _)) ((G14.mod m28 (apart' G14.new S4.lt (Nat.le_refl _))).ext (Ext.trans (Ext.but_trans e30 c31.but g30) e32)).lt).mono ?_
  rintro _ w41 ⟨a'33, n'34, c'35, ds36, rfl, G37, q38, S39, m40⟩
  have leG37 := G37.le.1
  have lnG37 := G37.len
  conv => whnf
  refine ⟨m40, ?_⟩
  conv => whnf
  refine SemK.storeAll (vs := [Value.int IntKind.i64 wd18, Value.slice a119 n120 c121]) (by kernel_rfl) (B1.ext (Ext.mod_trans (Ext.trans (Ext.but_trans (Ext.trans (Ext.mod_trans (Ext.mod_trans e5 m16 (blkIn_new N3)) m28 (blkIn_new N3)) e30) c31.but (Nat.le_trans (Below.size (Ext.mod_trans (Ext.mod_trans e5 m16 (blkIn_new N3)) m28 (blkIn_new N3))) g30)) e32) m40 (blkIn_new N3))) rfl rfl (by simp [cellish]) ?_
  intro w42 c42 B42
  conv => whnf
  refine CellK.of (run_loadAgg (n := 2) (by kernel_rfl) rfl B42.cells) ?_
  conv => whnf
  have hz : w1.heap.size ≤ w32.heap.size := Nat.le_trans (Below.size (Ext.mod_trans (Ext.mod_trans e5 m16 (blkIn_new N3)) m28 (blkIn_new N3))) (Nat.le_trans (Below.size e30) (Nat.le_trans c31.size_le (Below.size e32)))
  obtain ⟨dd, hdd, hdl⟩ := HdsOk.arrS (fun d hd => (q38 d hd).mod c42.but (fun k hk => by have hk : k = b1 := hk; omega)) (G37.mod c42.but (apartChg' G37.new l1 hz))
  have K : ∀ k, blkIn a'2 k → w.heap.size ≤ k := fun k hk => Nat.le_trans (Below.size e1) (blkIn_new N3 k hk)
  have E29 := Ext.mod_trans (Ext.mod_trans (Ext.trans e1 e5) m16 K) m28 K
  exact ⟨_, _, _, _, _, _, _, _, _, _, _, _, dd, rfl, by omega, by omega, fun x hx => partSm_ok (q12 x hx), by omega, q24, (((((G14.mod m28 (apart' G14.new S4.lt (Nat.le_refl _))).ext (Ext.trans (Ext.but_trans e30 c31.but g30) e32)).mod m40 (apart' G14.new S4.lt (Nat.le_refl _))).mod c42.but (apartChg' G14.new l1 (Below.size e5))).own.arr TPart.enc_len), (((A26.ext (Ext.trans (Ext.but_trans e30 c31.but g30) e32)).mod m40 (apart' N25 S4.lt (Mod.size m16))).mod c42.but (apartChg' N25 l1 (Below.size (Ext.mod_trans e5 m16 (blkIn_new N3))))), hdd, Ext.but_trans (Ext.mod_trans (Ext.trans (Ext.but_trans (Ext.trans E29 e30) c31.but (Nat.le_trans (Below.size E29) g30)) e32) m40 K) c42.but g1⟩
end Go.Proofs.YtfgbijddjoojbaaGreatDoor
