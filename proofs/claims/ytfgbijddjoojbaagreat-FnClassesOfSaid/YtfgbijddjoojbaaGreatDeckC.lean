/- Contracts of functions of the given program, of the reference and of the laws: each says what a call returns, for all arguments that meet the premises that the theorem itself names. -/
import Derived.Test.YtfgbijddjoojbaaGreatDeckD
import Derived.Test.YtfgbijddjoojbaaGreatKeyW
/- draws of decks with texts and numbers, of fields and of tables -/
namespace Go.Proofs.YtfgbijddjoojbaaGreat
open Go Go.RowKit Go.Vc Go.M
theorem spec_l00Own {w : World} {a : Option Addr} {n c : Nat} {xs : List Int} (h : Arr eI 1 w a n xs) (hn : n ≤ 1000000) :
    Does Tryz.prog 93 [.slice a n c] w (fun v w' => ∃ (a' : Option Addr) (c' : Nat), v = .slice a' n c' ∧ Grow eI 1 w.heap.size 2 w' a' n c' xs ∧ Ext w w') := by
  refine Does.of_vc tabok Tryz.func93 rfl rfl rfl (by kernel_rfl) ?_; conv => whnf
  refine SemK.buildSlice mk_27 (vs := []) (by rfl) (by rfl) (by simp [Value.cells]) (by decide) ?_
  intro b1 w1 g1 l1 e1 B1
  have G1 := Grow.new0 (enc := eI) eI_len B1 g1
  conv => whnf
  refine SemK.appendNew (enc := eI) mk_27 eI_len G1 (h.ext e1) (by intro y _; simp [eI, cellish]) (by omega) (by omega) (Below.size e1) ?_
  intro a2 c2 w2 G2 m2 i2
  conv => whnf
  exact ⟨_, _, rfl, G2, (Ext.mod_trans e1 m2 (blkIn_new G1.new))⟩
theorem spec_l02Own {w : World} {b o : Nat} {d : Hd} {xs : List Int} (hc : Cells w b o (eH d)) (h : Arr eI 1 w d.a d.n xs) (hn : d.n ≤ 1000) :
    Does Tryz.prog 52 [.pointer (some ⟨b, o, none⟩)] w (fun v w' => ∃ (a' : Option Addr) (c' : Nat), v = .agg #[.slice a' d.n c'] ∧ Grow eI 1 w.heap.size 2 w' a' d.n c' xs ∧ Ext w w') := by
  obtain ⟨da, dn, dc⟩ := d
  simp only at h hn
  refine Does.of_vc tabok Tryz.func52 rfl rfl rfl (by kernel_rfl) ?_; conv => whnf
  refine SemK.alloc (z := .agg #[.slice none 0 0]) (by kernel_rfl) ?_
  intro b1 w1 g1 l1 e1 B1
  conv => whnf
  refine SemK.load1 (by kernel_rfl) (hc.ext e1) (k := 0) rfl ?_
  conv => whnf
  refine (spec_l00Own (h.ext e1) (by omega)).mono ?_
  rintro _ w6 ⟨a'2, c'3, rfl, G4, e5⟩
  conv => whnf
  refine SemK.build st_51 rfl ?_
  conv => whnf
  refine SemK.storeAll (vs := [Value.slice a'2 dn c'3]) (by kernel_rfl) (B1.ext e5) rfl rfl (by simp [cellish]) ?_
  intro w7 c7 B7
  conv => whnf
  refine CellK.of (run_loadAgg (n := 1) (by kernel_rfl) rfl B7.cells) ?_
  conv => whnf
  exact ⟨_, _, rfl, ((G4.mod c7.but (apartChg' G4.new l1 (Nat.le_refl _))).base (Below.size e1)), (Ext.but_trans (Ext.trans e1 e5) c7.but g1)⟩
theorem spec_l03DrawText {w : World} {a0 : Option Addr} {k : Nat} (h : Src w a0 k) (hk : k ≤ 900000) (n : Nat) (hn : n ≤ 100) :
    Does Tryz.prog 134 [.pointer a0, .int .i64 (n : Nat)] w (fun v w' => ∃ s : ByteArray, v = .string s ∧ s.size = n ∧ Src w' a0 (k + 400) ∧ Mod (blkIn a0) w w') := by
  have hcs : chars.size = 40 := rfl
  generalize hch : chars = ch at hcs
  have hOrd : ∀ u, Does Tryz.prog 150 [] u (fun v w' => v = .string ch ∧ u = w') := fun u => hch ▸ spec_l03Order u
  clear hch
  refine Does.of_vc tabok Tryz.func134 rfl rfl rfl (by kernel_rfl) ?_; conv => whnf
  refine (hOrd _).mono ?_
  rintro _ _ ⟨rfl, rfl⟩
  conv => whnf
  refine SemK.buildSlice mk_22 (vs := []) (by rfl) (by rfl) (by simp [Value.cells]) (by decide) ?_
  intro b2 w2 g2 l2 e2 B2
  have G2 := Grow.new0 (enc := eB) eB_len B2 g2
  conv => whnf
  have G2 := Grow.new0 (enc := eB) eB_len B2 g2
  refine LoopK.rule [0, 1, 5, 6, 7] (fun (j : Nat) vs w' => ∃ (a6 : Option Addr) (c6 : Nat) (l : List UInt8), vs = [.pointer a0, .int .i64 (n : Nat), .string ch, .slice a6 j c6, .int .i64 (j : Nat)] ∧ j ≤ n ∧ Grow eB 1 w.heap.size 5 w' a6 j c6 l ∧ Src w' a0 (k + 4 * j) ∧ Mod (blkIn a0) w w') (fun j => n - j) tab tabok (by kernel_rfl) 0
    ⟨_, _, _, rfl, by omega, G2, h.ext e2, e2.mod⟩ ?_
  rintro j g _ w5 ⟨a6, c6, l, rfl, hj, hG, hS, hM⟩
  have lnG := hG.len
  rcases Nat.lt_or_ge j n with hjn | hjn
  · conv => whnf
    refine IfB.yes (by omega) ?_
    conv => whnf
    refine (spec_one hS (by omega) (by omega)).mono ?_
    rintro _ w10 ⟨r7, rfl, S8, m9⟩
    conv => whnf
    with_reducible refine IfB.split (fun h11 => ?_) (fun h11 => ?_)
    · conv => whnf
      refine (spec_pick S8 (by omega) (by omega)).mono ?_
      rintro _ w18 ⟨r12, rfl, q13, q14, q15, S16, m17⟩
      conv => whnf
      obtain ⟨d19, hd19⟩ : ∃ d, ch.data.toList[(r12).toNat]? = some d := get_of_lt (by simp only [data_len]; omega)
      refine SemK.char (by kernel_rfl) (r12).toNat (by omega) hd19 ?_
      conv => whnf
      refine SemK.buildSlice mk_22 (vs := [Value.int IntKind.u8 ↑d19.toNat]) (by rfl) (by rfl) (by simp [Value.cells]) (by decide) ?_
      intro b20 w20 g20 l20 e20 B20
      have G20 := Grow.of_blk (n := 1) (enc := eB) (xs := [d19]) eB_len (by simpa [flat, cellsOf, Value.cells, eB] using B20) g20 rfl (by decide)
      conv => whnf
      refine SemK.appendArr0 (enc := eB) mk_22 eB_len (((hG.mod m9 (apart' hG.new h.lt (Nat.le_refl _))).mod m17 (apart' hG.new h.lt (Nat.le_refl _))).ext e20) (G20.own.arr eB_len) (by intro y _; simp [eB, cellish]) (by omega) (by omega) (Nat.le_trans (Mod.size ((hM.trans m9).trans m17)) (Below.size e20)) ?_
      intro a21 c21 w21 G21 m21 i21
      conv => whnf
      refine SemK.add (((j + 1 : Nat) : Int)) (by omega) (by omega) (by omega) ?_
      conv => whnf
      exact ⟨j + 1, by omega, _, _, _, rfl, by omega, G21, ((S16.ext e20).mod m21 (later h.lt hG.new (Nat.le_refl _))).more (by omega), (((hM.trans m9).trans m17).trans e20.mod).trans_new m21 (fun k hk => blkIn_new hG.new k hk)⟩
    · conv => whnf
      refine (spec_pick S8 (by omega) (by omega)).mono ?_
      rintro _ w28 ⟨r22, rfl, q23, q24, q25, S26, m27⟩
      obtain ⟨d19, hd19⟩ := get_of_lt (l := (⟨#[65, 66, 48, 49, 32, 74, 90]⟩ : ByteArray).data.toList) (k := r22.toNat) (by show _ < 7; omega)
      conv => whnf
      refine SemK.char (by kernel_rfl) r22.toNat (by omega) hd19 ?_
      conv => whnf
      refine SemK.buildSlice mk_22 (vs := [Value.int IntKind.u8 ↑d19.toNat]) (by rfl) (by rfl) (by simp [Value.cells]) (by decide) ?_
      intro b20 w20 g20 l20 e20 B20
      have G20 := Grow.of_blk (n := 1) (enc := eB) (xs := [d19]) eB_len (by simpa [flat, cellsOf, Value.cells, eB] using B20) g20 rfl (by decide)
      conv => whnf
      refine SemK.appendArr0 (enc := eB) mk_22 eB_len (((hG.mod m9 (apart' hG.new h.lt (Nat.le_refl _))).mod m27 (apart' hG.new h.lt (Nat.le_refl _))).ext e20) (G20.own.arr eB_len) (by intro y _; simp [eB, cellish]) (by omega) (by omega) (Nat.le_trans (Mod.size ((hM.trans m9).trans m27)) (Below.size e20)) ?_
      intro a21 c21 w21 G21 m21 i21
      conv => whnf
      refine SemK.add (((j + 1 : Nat) : Int)) (by omega) (by omega) (by omega) ?_
      conv => whnf
      exact ⟨j + 1, by omega, _, _, _, rfl, by omega, G21, ((S26.ext e20).mod m21 (later h.lt hG.new (Nat.le_refl _))).more (by omega), (((hM.trans m9).trans m27).trans e20.mod).trans_new m21 (fun k hk => blkIn_new hG.new k hk)⟩
  · conv => whnf
    refine IfB.no (by omega) ?_
    conv => whnf
    refine SemK.toStrG (by kernel_rfl) (by kernel_rfl) hG ?_
    conv => whnf
    exact ⟨_, rfl, by rw [bs_size, lnG]; omega, hS.more (by omega), hM⟩
theorem spec_l07WidthOf {w : World} {a : Option Addr} {n c : Nat} {ds : List Hd} (h : Arr eH 1 w a n ds) (hd : ∀ d ∈ ds, d.n ≤ 1000) :
    Does Tryz.prog 84 [.slice a n c] w (fun v w' => ∃ r : Nat, v = .int .i64 (r : Nat) ∧ r ≤ 1000 ∧ Ext w w') := by
  have hl := h.len
  have hm := h.le
  refine Does.of_vc tabok Tryz.func84 rfl rfl rfl (by kernel_rfl) ?_; conv => whnf
  with_reducible refine IfB.dec (fun h1 => ?_) (fun h1 => ?_)
  · conv => whnf
    exact ⟨_, rfl, by simp [*], Ext.refl _⟩
  · conv => whnf
    obtain ⟨x2, hx2⟩ : ∃ x, ds[0]? = some x := get_of_lt (by omega)
    have ok2 := hd _ (List.mem_of_getElem? hx2)
    refine SemK.index (by kernel_rfl) h 0 rfl hx2 ?_
    intro b3 o3 ha3 hb3
    conv => whnf
    refine SemK.load1 (by kernel_rfl) hb3 (k := 0) rfl ?_
    conv => whnf
    exact ⟨_, rfl, by omega, Ext.refl _⟩
theorem spec_l00MaxN (a b : Int) (w : World) : Does Tryz.prog 121 [.int .i64 a, .int .i64 b] w (fun v w' => ∃ r : Int, v = .int .i64 r ∧ a ≤ r ∧ b ≤ r ∧ (r = a ∨ r = b) ∧ w = w') := by
  refine Does.of_vc tabok Tryz.func121 rfl rfl rfl (by kernel_rfl) ?_; conv => whnf
  with_reducible refine IfB.dec (fun h1 => ?_) (fun h1 => ?_)
  · conv => whnf
    exact ⟨_, rfl, by omega, by omega, by omega, rfl⟩
  · conv => whnf
    exact ⟨_, rfl, by omega, by omega, by omega, rfl⟩
theorem spec_l02DrawField0 {w : World} {a0 : Option Addr} {k : Nat} (h : Src w a0 k) (hk : k ≤ 900000) (wd : Nat) (hw : wd ≤ 1000) :
    Does Tryz.prog 83 [.pointer a0, .int .i64 (wd : Nat)] w (fun v w' => ∃ p q : Int, v = .agg #[.int .i64 p, .int .i64 q] ∧ i64ok p ∧ i64ok q ∧ Src w' a0 (k + 20) ∧ Mod (blkIn a0) w w') := by
  have hMax := fun b u => spec_l00MaxN 1 b u
  refine Does.of_vc tabok Tryz.func83 rfl rfl rfl (by kernel_rfl) ?_; conv => whnf
  refine SemK.alloc (z := .agg #[.int .i64 0, .int .i64 0]) (by kernel_rfl) ?_
  intro b1 w1 g1 l1 e1 B1
  conv => whnf
  refine (spec_one (h.ext e1) (by omega) (by omega)).mono ?_
  rintro _ w5 ⟨r2, rfl, S3, m4⟩
  conv => whnf
  with_reducible refine IfB.split (fun h6 => ?_) (fun h6 => ?_)
  · conv => whnf
    refine SemK.buildSlice mk_27 (vs := [Value.int IntKind.i64 (-1), Value.int IntKind.i64 0, Value.int IntKind.i64 1, Value.int IntKind.i64 ↑wd, Value.int IntKind.i64 9223372036854775807, Value.int IntKind.i64 (-9223372036854775808)]) (by rfl) (by rfl) (by simp [Value.cells]) (by decide) ?_
    intro b7 w7 g7 l7 e7 B7
    have G7 := Grow.of_blk (n := 6) (enc := eI) (xs := [-1, 0, 1, ↑wd, 9223372036854775807, -9223372036854775808]) eI_len B7 g7 rfl (by decide)
    conv => whnf
    refine (spec_among (S3.ext e7) (by omega) (G7.own.arr eI_len) (apart' G7.new h.lt (Nat.le_trans (Below.size e1) (Mod.size m4))) (by omega) (by omega)).mono ?_
    rintro _ w12 ⟨r8, rfl, q9, S10, m11⟩
    conv => whnf
    refine SemK.add (((wd + 1 : Nat) : Int)) (by omega) (by omega) (by omega) ?_
    conv => whnf
    refine SemK.buildSlice mk_27 (vs := [Value.int IntKind.i64 0, Value.int IntKind.i64 1, Value.int IntKind.i64 ↑wd, Value.int IntKind.i64 ↑(wd + 1), Value.int IntKind.i64 9223372036854775807]) (by rfl) (by rfl) (by simp [Value.cells]) (by decide) ?_
    intro b13 w13 g13 l13 e13 B13
    have G13 := Grow.of_blk (n := 5) (enc := eI) (xs := [0, 1, ↑wd, ↑(wd + 1), 9223372036854775807]) eI_len B13 g13 rfl (by decide)
    conv => whnf
    refine (spec_among (S10.ext e13) (by omega) (G13.own.arr eI_len) (apart' G13.new h.lt (Nat.le_trans (Nat.le_trans (Nat.le_trans (Below.size e1) (Mod.size m4)) (Below.size e7)) (Mod.size m11))) (by omega) (by omega)).mono ?_
    rintro _ w18 ⟨r14, rfl, q15, S16, m17⟩
    conv => whnf
    refine SemK.build st_26 rfl ?_
    conv => whnf
    refine SemK.storeAll (vs := [Value.int IntKind.i64 r8, Value.int IntKind.i64 r14]) (by kernel_rfl) (((((B1.mod m4 (blkNew h.lt g1 (Nat.le_refl _))).ext e7).mod m11 (blkNew h.lt g1 (Nat.le_refl _))).ext e13).mod m17 (blkNew h.lt g1 (Nat.le_refl _))) rfl rfl (by simp [cellish]) ?_
    intro w19 c19 B19
    conv => whnf
    refine CellK.of (run_loadAgg (n := 2) (by kernel_rfl) rfl B19.cells) ?_
    conv => whnf
    refine ⟨_, _, rfl, ?_, ?_, ((S16.chg c19 h.lt g1 (Nat.le_refl _)).more (by omega)), ((((((e1.mod.trans m4).trans e7.mod).trans m11).trans e13.mod).trans m17).trans_new c19.but (fun k hk => Nat.le_trans (Nat.le_refl _) (Nat.le_trans g1 (Nat.le_of_eq hk.symm))))⟩
    · simp only [List.mem_cons, List.not_mem_nil, or_false] at q9
      simp only [i64ok]
      omega
    · simp only [List.mem_cons, List.not_mem_nil, or_false] at q15
      simp only [i64ok]
      omega
  · conv => whnf
    refine (hMax _ _).mono ?_
    rintro _ _ ⟨r20, rfl, q21, q22, q23, rfl⟩
    conv => whnf
    refine (spec_pick S3 (by omega) (by omega)).mono ?_
    rintro _ w31 ⟨r25, rfl, q26, q27, q28, S29, m30⟩
    conv => whnf
    refine SemK.add _ rfl (by omega) (by omega) ?_
    conv => whnf
    refine SemK.sub _ rfl (by omega) (by omega) ?_
    conv => whnf
    refine (hMax _ _).mono ?_
    rintro _ _ ⟨r32, rfl, q33, q34, q35, rfl⟩
    conv => whnf
    refine (spec_pick S29 (by omega) (by omega)).mono ?_
    rintro _ w43 ⟨r37, rfl, q38, q39, q40, S41, m42⟩
    conv => whnf
    refine SemK.add _ rfl (by omega) (by omega) ?_
    conv => whnf
    refine SemK.build st_26 rfl ?_
    conv => whnf
    refine SemK.storeAll (vs := [Value.int IntKind.i64 r25, Value.int IntKind.i64 (r25 + 1 + r37)]) (by kernel_rfl) (((B1.mod m4 (blkNew h.lt g1 (Nat.le_refl _))).mod m30 (blkNew h.lt g1 (Nat.le_refl _))).mod m42 (blkNew h.lt g1 (Nat.le_refl _))) rfl rfl (by simp [cellish]) ?_
    intro w44 c44 B44
    conv => whnf
    refine CellK.of (run_loadAgg (n := 2) (by kernel_rfl) rfl B44.cells) ?_
    conv => whnf
    refine ⟨_, _, rfl, ?_, ?_, ((S41.chg c44 h.lt g1 (Nat.le_refl _)).more (by omega)), ((((e1.mod.trans m4).trans m30).trans m42).trans_new c44.but (fun k hk => Nat.le_trans (Nat.le_refl _) (Nat.le_trans g1 (Nat.le_of_eq hk.symm))))⟩
    · simp only [i64ok]; omega
    · simp only [i64ok]; omega
theorem spec_l02DrawField {w : World} {a0 : Option Addr} {k : Nat} (h : Src w a0 k) (hk : k ≤ 900000) (wd : Nat) (hw : wd ≤ 1000) :
    Does Tryz.prog 83 [.pointer a0, .int .i64 (wd : Nat)] w (fun v w' => ∃ f : TField, v = .agg ⟨f.enc⟩ ∧ f.ok ∧ Src w' a0 (k + 20) ∧ Mod (blkIn a0) w w') :=
  (spec_l02DrawField0 h hk wd hw).mono fun _ _ ⟨p, q, h1, h2, h3, h4, h5⟩ => ⟨⟨p, q⟩, h1, ⟨h2, h3⟩, h4, h5⟩
theorem spec_l13Card {w : World} {a0 : Option Addr} {k : Nat} (h : Src w a0 k) (hk : k ≤ 900000) :
    Does Tryz.prog 105 [.pointer a0] w (fun v w' => ∃ d : Hd, v = .agg ⟨eH d⟩ ∧ HdOk 2 w.heap.size w' d ∧ Src w' a0 (k + 20) ∧ Mod (blkIn a0) w w') := by
  refine Does.of_vc tabok Tryz.func105 rfl rfl rfl (by kernel_rfl) ?_; conv => whnf
  refine SemK.alloc (z := .agg #[.slice none 0 0]) (by kernel_rfl) ?_
  intro b1 w1 g1 l1 e1 B1
  conv => whnf
  refine (spec_pick (h.ext e1) (by omega) (by omega)).mono ?_
  rintro _ w8 ⟨r2, rfl, q3, q4, q5, S6, m7⟩
  have ht3 : (⟨#[65, 66, 49]⟩ : ByteArray).size = 3 := rfl
  conv => whnf
  refine SemK.sliceStr (by kernel_rfl) r2.toNat 3 (by omega) (by omega) (k := .i64) (k' := .i64) (.inr (congrArg some (congrArg (Value.int .i64) (by omega)))) (.inl ⟨rfl, rfl⟩) ?_
  have hez := extract_size (⟨#[65, 66, 49]⟩ : ByteArray) r2.toNat 3 (by omega)
  generalize (⟨#[65, 66, 49]⟩ : ByteArray).extract r2.toNat 3 = s1 at hez
  conv => whnf
  refine SemK.sliceStr (by kernel_rfl) 0 1 (by omega) (by omega) (k := .i64) (k' := .i64) (.inl ⟨rfl, rfl⟩) (.inr rfl) ?_
  have hez2 := extract_size s1 0 1 (by omega)
  generalize s1.extract 0 1 = s2 at hez2
  conv => whnf
  refine SemK.cat (by have : (⟨#[48, 48, 48, 48]⟩ : ByteArray).size = 4 := rfl; omega) ?_
  have hcz : (s2 ++ ⟨#[48, 48, 48, 48]⟩).size = 5 := by rw [ByteArray.size_append]; have : (⟨#[48, 48, 48, 48]⟩ : ByteArray).size = 4 := rfl; omega
  conv => whnf
  refine (spec_l03Card (s2 ++ ⟨#[48, 48, 48, 48]⟩) (by omega) _).mono ?_
  rintro _ w42 ⟨⟨da, dn, dc⟩, ys, rfl, hdn, hR, e42⟩
  have hd7 : dn = 5 := by
    simp only [hcz] at hdn
    exact hdn
  subst hd7
  obtain ⟨ba, rfl⟩ := hR.own.some (by show 0 < 5; omega)
  simp only at hR
  conv => whnf
  refine SemK.alloc (z := .agg #[.slice none 0 0]) (by kernel_rfl) ?_
  intro b43 w43 g43 l43 e43 B43
  conv => whnf
  refine SemK.storeAll (vs := [Value.slice (some ⟨ba, 0, none⟩) 5 dc]) (by kernel_rfl) B43 rfl rfl (by simp [cellish]) ?_
  intro w44 c44 B44
  have lb1 : b1 < w8.heap.size := by have := Mod.size m7; omega
  have nb1 := blkNew h.lt g1 (Nat.le_refl _)
  have E44 := Ext.but_trans (Ext.trans e42 e43) c44.but (Nat.le_trans (Below.size e42) g43)
  have nb := blkNew S6.lt g43 (Below.size e42)
  have hR44 := (hR.ext e43).mod c44.but (apartChg hR.lt g43 (Nat.le_refl _))
  have apR := apart' hR.new S6.lt (Nat.le_refl _)
  conv => whnf
  refine (spec_pick (S6.ext E44) (by omega) (by omega)).mono ?_
  rintro _ w45 ⟨r45, rfl, q45, q46, q47, S45, m45⟩
  conv => whnf
  refine (spec_l03Put r45 (by omega) 2 (by omega) (by omega) w45).mono ?_
  rintro _ w46 ⟨pa, pc, zs, pb, rfl, hP46, e46⟩
  conv => whnf
  refine (spec_pick (S45.ext e46) (by omega) (by omega)).mono ?_
  rintro _ w47 ⟨r47, rfl, q48, q49, q50, S47, m47⟩
  conv => whnf
  refine SemK.sub _ rfl (by omega) (by omega) ?_
  conv => whnf
  refine (spec_l03Put (r47 - 30) (by omega) 2 (by omega) (by omega) w47).mono ?_
  rintro _ w48 ⟨pa2, pc2, zs2, pb2, rfl, hP48, e48⟩
  have M48 := ((((e1.mod.trans m7).trans E44.mod).trans m45).trans e46.mod).trans m47 |>.trans e48.mod
  have hR45 := hR44.mod m45 apR
  have hR48 := ((hR45.ext e46).mod m47 apR).ext e48
  have hP47 := (hP46.mod m47 (apart' hP46.new S45.lt (Nat.le_refl _))).ext e48
  have B48 := ((((B44.mod m45 nb).ext e46).mod m47 nb).ext e48)
  have C48 := ((((((B1.mod m7 nb1).ext E44).mod m45 nb1).ext e46).mod m47 nb1).ext e48)
  have S48 := S47.ext e48
  have ne1 : b1 ≠ ba := by have := hR.new _ rfl; have h9 : w8.heap.size ≤ ba := this; omega
  have ne43 : b43 ≠ ba := by have := hR.lt _ rfl; have h9 : ba < w42.heap.size := this; omega
  have hpa : ∀ x, pa = some x → x.block ≠ ba := fun x hx e => by have h1 := hP46.new x hx; have h2 := hR45.lt _ rfl; have h3 : ba < w45.heap.size := h2; omega
  have hpa2 : ∀ x, pa2 = some x → x.block ≠ ba := fun x hx e => by have h1 := hP48.new x hx; have h2 := hR45.lt _ rfl; have h3 : ba < w45.heap.size := h2; have := Below.size e46; have := Mod.size m47; omega
  have lz := hP46.len
  have lz2 := hP48.len
  conv => whnf
  refine LoopK.rule [2, 3, 4, 6, 8] (fun (j : Nat) vs w' => ∃ ys' : List Int, vs = [.pointer (some ⟨b1, 0, none⟩), .pointer (some ⟨b43, 0, none⟩), .slice pa 2 pc, .slice pa2 2 pc2, .int .i64 j] ∧ j ≤ 2 ∧ Blk w' b1 [.slice none 0 0] 51 ∧ Blk w' b43 [.slice (some ⟨ba, 0, none⟩) 5 dc] 51 ∧ Grow eI 1 w8.heap.size 2 w' (some ⟨ba, 0, none⟩) 5 dc ys' ∧ Arr eI 1 w' pa 2 zs ∧ Arr eI 1 w' pa2 2 zs2 ∧ Mod (fun k => k = ba) w48 w') (fun j => 2 - j) tab tabok (by kernel_rfl) 0
    ⟨_, rfl, by omega, C48, B48, hR48, hP47.own.arr eI_len, hP48.own.arr eI_len, Mod.refl _ _⟩ ?_
  rintro j g _ w50 ⟨ys5, rfl, hj, hC, hB, hY, hA1, hA2, hM⟩
  have ly := hY.len
  have S50 := S48.mod (hM.mono (fun k hk => ⟨⟨ba, 0, none⟩, rfl, hk⟩)) (later S6.lt hR.new (Nat.le_refl _))
  rcases Nat.lt_or_ge j 2 with hj2 | hj2
  · obtain ⟨z1, hz1⟩ := get_of_lt (l := zs) (k := j) (by omega)
    obtain ⟨z2, hz2⟩ := get_of_lt (l := zs2) (k := j) (by omega)
    obtain ⟨y1, hy1⟩ := get_of_lt (l := ys5) (k := 1 + j) (by omega)
    obtain ⟨y3, hy3⟩ := get_of_lt (l := ys5.set (1 + j) z1) (k := 3 + j) (by simp; omega)
    conv => whnf
    refine IfB.yes (by omega) ?_
    conv => whnf
    refine DrawK.writes tabok mixed [(0, .any), (2, .any), (3, .any), (4, .any), (5, .any), (6, .any), (1, .held), (7, .held), (8, .any), (9, .write)] (by kernel_rfl) (by kernel_rfl) ?_
    conv => whnf
    intro w51 e51
    conv => whnf
    refine PSemK.add (((1 + j : Nat) : Int)) (by omega) (by omega) (by omega) ?_
    conv => whnf
    refine PSemK.index (by kernel_rfl) hA1 j rfl hz1 ?_
    intro b51 o51 ha51 hb51
    conv => whnf
    refine DSemK.load1 (by kernel_rfl) hB.cells (k := 0) rfl ?_
    conv => whnf
    refine DSemK.load0 (by kernel_rfl) hb51 rfl ?_
    conv => whnf
    refine PSemK.indexOwn (sz := 1) (by kernel_rfl) (1 + j) rfl (by omega) ?_
    conv => whnf
    refine SemK.storeGrow1 (k := 1 + j) (j := 0) (by kernel_rfl) eI_len (hY.ext e51) hy1 (by decide) rfl z1 rfl ?_
    intro w52 c52 Y52
    conv => whnf
    have hC52 := (hC.ext e51).mod c52.but ne1
    have hB52 := (hB.ext e51).mod c52.but ne43
    have hA52 := (hA1.ext e51).mod c52.but (fun x hx e => hpa x hx e)
    have hD52 := (hA2.ext e51).mod c52.but (fun x hx e => hpa2 x hx e)
    have hM52 := (hM.trans e51.mod).trans c52.but
    refine DrawK.writes tabok mixed [(0, .any), (2, .any), (3, .any), (4, .any), (5, .any), (6, .any), (1, .held), (7, .held), (8, .any), (9, .write)] (by kernel_rfl) (by kernel_rfl) ?_
    conv => whnf
    intro w53 e53
    conv => whnf
    refine PSemK.add (((3 + j : Nat) : Int)) (by omega) (by omega) (by omega) ?_
    conv => whnf
    refine PSemK.index (by kernel_rfl) hD52 j rfl hz2 ?_
    intro b53 o53 ha53 hb53
    conv => whnf
    refine DSemK.load1 (by kernel_rfl) hB52.cells (k := 0) rfl ?_
    conv => whnf
    refine DSemK.load0 (by kernel_rfl) hb53 rfl ?_
    conv => whnf
    refine PSemK.indexOwn (sz := 1) (by kernel_rfl) (3 + j) rfl (by omega) ?_
    conv => whnf
    refine SemK.storeGrow1 (k := 3 + j) (j := 0) (by kernel_rfl) eI_len (Y52.ext e53) hy3 (by decide) rfl z2 rfl ?_
    intro w54 c54 Y54
    conv => whnf
    refine SemK.add (((j + 1 : Nat) : Int)) (by omega) (by omega) (by omega) ?_
    conv => whnf
    exact ⟨j + 1, by omega, _, rfl, by omega, (hC52.ext e53).mod c54.but ne1, (hB52.ext e53).mod c54.but ne43, Y54, (hA52.ext e53).mod c54.but (fun x hx e => hpa x hx e), (hD52.ext e53).mod c54.but (fun x hx e => hpa2 x hx e), (hM52.trans e53.mod).trans c54.but⟩
  · conv => whnf
    refine IfB.no (by omega) ?_
    conv => whnf
    refine SemK.loadAgg (n := 1) (by kernel_rfl) hB.cells rfl ?_
    conv => whnf
    refine SemK.storeAll (vs := [Value.slice (some { block := ba, off := 0 }) 5 dc]) (by kernel_rfl) hC rfl rfl (by simp [cellish]) ?_
    intro w51 c51 B51
    conv => whnf
    refine CellK.of (run_loadAgg (n := 1) (by kernel_rfl) rfl B51.cells) ?_
    conv => whnf
    exact ⟨⟨some ⟨ba, 0, none⟩, 5, dc⟩, rfl, ⟨_, (hY.mod c51.but (fun y hy e => by cases hy; exact ne1 e.symm)).base (Nat.le_trans (Below.size e1) (Mod.size m7)), by show 5 ≤ 1000; omega⟩, (S50.chg c51 h.lt g1 (Nat.le_refl _)).more (by omega), (M48.trans_new hM (fun k hk => Nat.le_trans (Nat.le_trans (Below.size e1) (Mod.size m7)) (Nat.le_trans (hR.new _ rfl) (Nat.le_of_eq hk.symm)))).trans_new c51.but (fun k hk => Nat.le_trans g1 (Nat.le_of_eq hk.symm))⟩
theorem spec_l13Deck {w : World} {a0 : Option Addr} {k : Nat} (h : Src w a0 k) (hk : k ≤ 800000) {most : Nat} (hm : most ≤ 40) :
    Does Tryz.prog 65 [.pointer a0, .int .i64 (most : Nat)] w (fun v w' => ∃ (a' : Option Addr) (n' c' : Nat) (ds : List Hd), v = .slice a' n' c' ∧ n' ≤ most ∧ Grow eH 1 w.heap.size 51 w' a' n' c' ds ∧ HdsOk 2 w.heap.size w' ds ∧ Src w' a0 (k + 1000) ∧ Mod (blkIn a0) w w') := by
  refine Does.of_vc tabok Tryz.func65 rfl rfl rfl (by kernel_rfl) ?_; conv => whnf
  refine SemK.buildSlice mk_24 (vs := []) (by rfl) (by rfl) (by simp [Value.cells]) (by decide) ?_
  intro b1 w1 g1 l1 e1 B1
  have G1 := Grow.new0 (enc := eH) eH_len B1 g1
  conv => whnf
  refine SemK.add (((most + 1 : Nat) : Int)) (by omega) (by omega) (by omega) ?_
  conv => whnf
  refine (spec_pick (h.ext e1) (by omega) (by omega)).mono ?_
  rintro _ w2 ⟨r2, rfl, q3, q4, q5, S6, m7⟩
  conv => whnf
  refine LoopK.rule [0, 5, 6] (fun (j : Int) vs w' => ∃ a7 n7 c7 ds, vs = [.pointer a0, .slice a7 n7 c7, .int .i64 j] ∧ 0 ≤ j ∧ n7 + j ≤ most ∧ Grow eH 1 w.heap.size 51 w' a7 n7 c7 ds ∧ HdsOk 2 w.heap.size w' ds ∧ Src w' a0 (k + 10 + 20 * n7) ∧ Mod (blkIn a0) w w') (fun j => j.toNat) tab tabok (by kernel_rfl) r2
    ⟨_, _, _, _, rfl, by omega, by omega, G1.mod m7 (apart' G1.new h.lt (Nat.le_refl _)), HdsOk.nil, S6.more (by omega), e1.mod.trans m7⟩ ?_
  rintro j g _ w8 ⟨a7, n7, c7, ds, rfl, hj, hn7, hG, hH, hS, hM⟩
  have lnG := hG.len
  conv => whnf
  with_reducible refine IfB.dec (fun h26 => ?_) (fun h26 => ?_)
  · conv => whnf
    refine (spec_l13Card hS (by omega)).mono ?_
    rintro _ w9 ⟨⟨da, dn, dc⟩, rfl, hD, S9, m9⟩
    conv => whnf
    refine SemK.buildSlice mk_24 (vs := [.agg #[.slice da dn dc]]) (by rfl) (by rfl) (by simp [Value.cells]) (by decide) ?_
    intro b60 w60 g60 l60 e60 B60
    have G60 := Grow.of_blk (n := 1) (enc := eH) (xs := [⟨da, dn, dc⟩]) eH_len B60 g60 rfl (by decide)
    have hGf := hG.mod m9 (apart' hG.new h.lt (Nat.le_refl _))
    have hHf := (hH.src hS m9 h.lt).snoc (hD.le (Mod.size hM))
    conv => whnf
    refine SemK.appendArr0 (enc := eH) mk_24 eH_len (hGf.ext e60) (G60.own.arr eH_len) (by intro y _; simp [eH, cellish]) (by omega) (by omega) (Nat.le_trans (Mod.size (hM.trans m9)) (Below.size e60)) ?_
    intro a61 c61 w61 G61 m61 i61
    conv => whnf
    refine SemK.sub _ rfl (by omega) (by omega) ?_
    conv => whnf
    exact ⟨j - 1, by omega, _, _, _, _, rfl, by omega, by omega, G61, (hHf.ext e60).apart (hGf.ext e60) (by omega) m61, (((S9).ext e60).mod m61 (later h.lt hG.new (Nat.le_refl _))).more (by omega), ((hM.trans m9).trans e60.mod).trans_new m61 (fun k hk => blkIn_new hG.new k hk)⟩
  · conv => whnf
    exact ⟨_, _, _, _, rfl, by omega, hG, hH, hS.more (by omega), hM⟩
theorem spec_l07Draw {w : World} {a0 : Option Addr} {k : Nat} (h : Src w a0 k) (hk : k ≤ 800000) {wd most : Nat} (hw : wd ≤ 100) (hm : most ≤ 40) :
    Does Tryz.prog 104 [.pointer a0, .int .i64 (wd : Nat), .int .i64 (most : Nat)] w (fun v w' => ∃ (a' : Option Addr) (n' c' : Nat) (ds : List Hd), v = .slice a' n' c' ∧ n' ≤ most ∧ Grow eH 1 w.heap.size 51 w' a' n' c' ds ∧ HdsOk 2 w.heap.size w' ds ∧ Src w' a0 (k + 20000) ∧ Mod (blkIn a0) w w') := by
  refine Does.of_vc tabok Tryz.func104 rfl rfl rfl (by kernel_rfl) ?_; conv => whnf
  refine SemK.buildSlice mk_24 (vs := []) (by rfl) (by rfl) (by simp [Value.cells]) (by decide) ?_
  intro b1 w1 g1 l1 e1 B1
  have G1 := Grow.new0 (enc := eH) eH_len B1 g1
  conv => whnf
  refine SemK.add (((most + 1 : Nat) : Int)) (by omega) (by omega) (by omega) ?_
  conv => whnf
  refine (spec_pick (h.ext e1) (by omega) (by omega)).mono ?_
  rintro _ w2 ⟨r2, rfl, q3, q4, q5, S6, m7⟩
  conv => whnf
  refine LoopK.rule [0, 1, 7, 8] (fun (j : Int) vs w' => ∃ a7 n7 c7 ds, vs = [.pointer a0, .int .i64 (wd : Nat), .slice a7 n7 c7, .int .i64 j] ∧ 0 ≤ j ∧ n7 + j ≤ most ∧ Grow eH 1 w.heap.size 51 w' a7 n7 c7 ds ∧ HdsOk 2 w.heap.size w' ds ∧ Src w' a0 (k + 10 + 410 * n7) ∧ Mod (blkIn a0) w w') (fun j => j.toNat) tab tabok (by kernel_rfl) r2
    ⟨_, _, _, _, rfl, by omega, by omega, G1.mod m7 (apart' G1.new h.lt (Nat.le_refl _)), HdsOk.nil, S6.more (by omega), e1.mod.trans m7⟩ ?_
  rintro j g _ w8 ⟨a7, n7, c7, ds, rfl, hj, hn7, hG, hH, hS, hM⟩
  have lnG := hG.len
  conv => whnf
  with_reducible refine IfB.dec (fun h26 => ?_) (fun h26 => ?_)
  · have hText : ∀ (u : World) (kk : Nat), Src u a0 kk → kk ≤ 900000 → Mod (blkIn a0) w u → Grow eH 1 w.heap.size 51 u a7 n7 c7 ds → HdsOk 2 w.heap.size u ds → True := fun _ _ _ _ _ _ _ => trivial
    clear hText
    conv => whnf
    with_reducible refine IfB.dec (fun h27 => ?_) (fun h27 => ?_)
    · conv => whnf
      refine (spec_one hS (by omega) (by omega)).mono ?_
      rintro _ w9 ⟨r9, rfl, S9, m9⟩
      have hG9 := hG.mod m9 (apart' hG.new h.lt (Nat.le_refl _))
      have hH9 := hH.src hS m9 h.lt
      have hM9 := hM.trans m9
      conv => whnf
      with_reducible refine IfB.split (fun h28 => ?_) (fun h28 => ?_)
      · obtain ⟨bd, rfl⟩ := hG9.own.some (by omega)
        conv => whnf
        refine (spec_pick S9 (by omega) (by omega)).mono ?_
        rintro _ w10 ⟨r10, rfl, q12, q13, q14, S10, m10⟩
        obtain ⟨d, hd⟩ := get_of_lt (l := ds) (k := r10.toNat) (by omega)
        have hG10 := hG9.mod m10 (apart' hG.new h.lt (Nat.le_refl _))
        have hH10 := hH9.src S9 m10 h.lt
        obtain ⟨ys, Gd, hdn⟩ := hH10 d (List.mem_of_getElem? hd)
        conv => whnf
        refine SemK.indexOwn (sz := 1) (by kernel_rfl) r10.toNat (by omega) (by omega) ?_
        conv => whnf
        refine (spec_l02Own (Own.elem eH_len hG10.own hd) (Gd.own.arr eI_len) hdn).mono ?_
        rintro _ w11 ⟨a11, c11, rfl, G11, e11⟩
        conv => whnf
        refine SemK.buildSlice mk_24 (vs := [.agg #[.slice a11 d.n c11]]) (by rfl) (by rfl) (by simp [Value.cells]) (by decide) ?_
        intro b60 w60 g60 l60 e60 B60
        have G60 := Grow.of_blk (n := 1) (enc := eH) (xs := [⟨a11, d.n, c11⟩]) eH_len B60 g60 rfl (by decide)
        have hGf := hG10.ext e11
        have hHf := (hH10.ext e11).snoc (d := ⟨a11, d.n, c11⟩) ⟨ys, G11.base (Mod.size (hM9.trans m10)), hdn⟩
        conv => whnf
        refine SemK.appendArr0 (enc := eH) mk_24 eH_len (hGf.ext e60) (G60.own.arr eH_len) (by intro y _; simp [eH, cellish]) (by omega) (by omega) (Nat.le_trans (Mod.size ((hM9.trans m10).trans e11.mod)) (Below.size e60)) ?_
        intro a61 c61 w61 G61 m61 i61
        conv => whnf
        refine SemK.sub _ rfl (by omega) (by omega) ?_
        conv => whnf
        exact ⟨j - 1, by omega, _, _, _, _, rfl, by omega, by omega, G61, (hHf.ext e60).apart (hGf.ext e60) (by omega) m61, (((S10.ext e11).ext e60).mod m61 (later h.lt hG.new (Nat.le_refl _))).more (by omega), (((hM9.trans m10).trans e11.mod).trans e60.mod).trans_new m61 (fun k hk => blkIn_new hG.new k hk)⟩
      · conv => whnf
        refine (spec_l03DrawText S9 (by omega) wd hw).mono ?_
        rintro _ w12 ⟨s12, rfl, hs12, S12, m12⟩
        conv => whnf
        refine (spec_l03Card s12 (by omega) _).mono ?_
        rintro _ w13 ⟨⟨da, dn, dc⟩, ys, rfl, hdn, hR, e13⟩
        simp only at hdn hR
        conv => whnf
        refine SemK.buildSlice mk_24 (vs := [.agg #[.slice da dn dc]]) (by rfl) (by rfl) (by simp [Value.cells]) (by decide) ?_
        intro b60 w60 g60 l60 e60 B60
        have G60 := Grow.of_blk (n := 1) (enc := eH) (xs := [⟨da, dn, dc⟩]) eH_len B60 g60 rfl (by decide)
        have hGf := (hG9.mod m12 (apart' hG.new h.lt (Nat.le_refl _))).ext e13
        have hHf := ((hH9.src S9 m12 h.lt).ext e13).snoc (d := ⟨da, dn, dc⟩) ⟨ys, hR.base (Mod.size (hM9.trans m12)), by show dn ≤ 1000; omega⟩
        conv => whnf
        refine SemK.appendArr0 (enc := eH) mk_24 eH_len (hGf.ext e60) (G60.own.arr eH_len) (by intro y _; simp [eH, cellish]) (by omega) (by omega) (Nat.le_trans (Mod.size ((hM9.trans m12).trans e13.mod)) (Below.size e60)) ?_
        intro a61 c61 w61 G61 m61 i61
        conv => whnf
        refine SemK.sub _ rfl (by omega) (by omega) ?_
        conv => whnf
        exact ⟨j - 1, by omega, _, _, _, _, rfl, by omega, by omega, G61, (hHf.ext e60).apart (hGf.ext e60) (by omega) m61, (((S12.ext e13).ext e60).mod m61 (later h.lt hG.new (Nat.le_refl _))).more (by omega), (((hM9.trans m12).trans e13.mod).trans e60.mod).trans_new m61 (fun k hk => blkIn_new hG.new k hk)⟩
    · conv => whnf
      refine (spec_l03DrawText hS (by omega) wd hw).mono ?_
      rintro _ w12 ⟨s12, rfl, hs12, S12, m12⟩
      conv => whnf
      refine (spec_l03Card s12 (by omega) _).mono ?_
      rintro _ w13 ⟨⟨da, dn, dc⟩, ys, rfl, hdn, hR, e13⟩
      simp only at hdn hR
      conv => whnf
      refine SemK.buildSlice mk_24 (vs := [.agg #[.slice da dn dc]]) (by rfl) (by rfl) (by simp [Value.cells]) (by decide) ?_
      intro b60 w60 g60 l60 e60 B60
      have G60 := Grow.of_blk (n := 1) (enc := eH) (xs := [⟨da, dn, dc⟩]) eH_len B60 g60 rfl (by decide)
      have hGf := (hG.mod m12 (apart' hG.new h.lt (Nat.le_refl _))).ext e13
      have hHf := ((hH.src hS m12 h.lt).ext e13).snoc (d := ⟨da, dn, dc⟩) ⟨ys, hR.base (Mod.size (hM.trans m12)), by show dn ≤ 1000; omega⟩
      conv => whnf
      refine SemK.appendArr0 (enc := eH) mk_24 eH_len (hGf.ext e60) (G60.own.arr eH_len) (by intro y _; simp [eH, cellish]) (by omega) (by omega) (Nat.le_trans (Mod.size ((hM.trans m12).trans e13.mod)) (Below.size e60)) ?_
      intro a61 c61 w61 G61 m61 i61
      conv => whnf
      refine SemK.sub _ rfl (by omega) (by omega) ?_
      conv => whnf
      exact ⟨j - 1, by omega, _, _, _, _, rfl, by omega, by omega, G61, (hHf.ext e60).apart (hGf.ext e60) (by omega) m61, (((S12.ext e13).ext e60).mod m61 (later h.lt hG.new (Nat.le_refl _))).more (by omega), (((hM.trans m12).trans e13.mod).trans e60.mod).trans_new m61 (fun k hk => blkIn_new hG.new k hk)⟩
  · conv => whnf
    exact ⟨_, _, _, _, rfl, by omega, hG, hH, hS.more (by omega), hM⟩
theorem spec_l07Bent {w : World} {a0 : Option Addr} {k : Nat} (h : Src w a0 k) (hk : k ≤ 300000) :
    Does Tryz.prog 64 [.pointer a0] w (fun v w' => ∃ (a' : Option Addr) (n' c' : Nat) (ds : List Hd), v = .slice a' n' c' ∧ n' ≤ 1000 ∧ Grow eH 1 w.heap.size 51 w' a' n' c' ds ∧ HdsOk 2 w.heap.size w' ds ∧ Src w' a0 (k + 70000) ∧ Mod (blkIn a0) w w') := by
  refine Does.of_vc tabok Tryz.func64 rfl rfl rfl (by kernel_rfl) ?_; conv => whnf
  refine (spec_one h (by omega) (by omega)).mono ?_
  rintro _ w1 ⟨r1, rfl, S1, m1⟩
  have hz := Mod.size m1
  conv => whnf
  with_reducible refine IfB.split (fun h2 => ?_) (fun h2 => ?_)
  · conv => whnf
    refine (spec_l02BentDeck S1 (by omega)).mono ?_
    rintro _ w2 ⟨a2, n2, c2, ds, rfl, hb2, G2, H2, S2, m2⟩
    conv => whnf
    exact ⟨_, _, _, _, rfl, by omega, G2.base hz, H2.le hz, S2.more (by omega), m1.trans m2⟩
  · conv => whnf
    refine (spec_pick S1 (by omega) (by omega)).mono ?_
    rintro _ w2 ⟨r2, rfl, q3, q4, q5, S2, m2⟩
    obtain ⟨p, hp⟩ : ∃ p : Nat, 1 + r2 = (p : Int) := ⟨(1 + r2).toNat, by omega⟩
    have hz2 := Mod.size (m1.trans m2)
    conv => whnf
    refine SemK.add ((p : Nat) : Int) (by omega) (by omega) (by omega) ?_
    conv => whnf
    refine (spec_l07Draw S2 (by omega) (wd := p) (most := 9) (by omega) (by omega)).mono ?_
    rintro _ w3 ⟨a2, n2, c2, ds, rfl, hn2, G2, H2, S3, m3⟩
    conv => whnf
    exact ⟨_, _, _, _, rfl, by omega, G2.base hz2, H2.le hz2, S3.more (by omega), (m1.trans m2).trans m3⟩
theorem spec_l24Deck {w : World} {a0 : Option Addr} {k : Nat} (h : Src w a0 k) (hk : k ≤ 200000) :
    Does Tryz.prog 27 [.pointer a0] w (fun v w' => ∃ (a' : Option Addr) (n' c' : Nat) (ds : List Hd), v = .slice a' n' c' ∧ n' ≤ 1000 ∧ Grow eH 1 w.heap.size 51 w' a' n' c' ds ∧ HdsOk 2 w.heap.size w' ds ∧ Src w' a0 (k + 80000) ∧ Mod (blkIn a0) w w') := by
  refine Does.of_vc tabok Tryz.func27 rfl rfl rfl (by kernel_rfl) ?_; conv => whnf
  refine (spec_one h (by omega) (by omega)).mono ?_
  rintro _ w1 ⟨r1, rfl, S1, m1⟩
  have hz := Mod.size m1
  conv => whnf
  with_reducible refine IfB.split (fun h2 => ?_) (fun h2 => ?_)
  · conv => whnf
    refine (spec_l07Bent S1 (by omega)).mono ?_
    rintro _ w2 ⟨a2, n2, c2, ds, rfl, hb2, G2, H2, S2, m2⟩
    conv => whnf
    exact ⟨_, _, _, _, rfl, by omega, G2.base hz, H2.le hz, S2.more (by omega), m1.trans m2⟩
  · conv => whnf
    refine (spec_l13Deck S1 (by omega) (most := 9) (by omega)).mono ?_
    rintro _ w2 ⟨a2, n2, c2, ds, rfl, hn2, G2, H2, S2, m2⟩
    conv => whnf
    exact ⟨_, _, _, _, rfl, by omega, G2.base hz, H2.le hz, S2.more (by omega), m1.trans m2⟩
theorem spec_l24DrawField0 {w : World} {a0 : Option Addr} {k : Nat} (h : Src w a0 k) (hk : k ≤ 800000) {a : Option Addr} {n c : Nat} {ds : List Hd} (hA : Arr eH 1 w a n ds) (hap : Apart a0 a) (hd : ∀ d ∈ ds, d.n ≤ 1000) :
    Does Tryz.prog 45 [.pointer a0, .slice a n c] w (fun v w' => ∃ p q : Int, v = .agg #[.int .i64 p, .int .i64 q] ∧ i64ok p ∧ i64ok q ∧ Src w' a0 (k + 40) ∧ Mod (blkIn a0) w w') := by
  refine Does.of_vc tabok Tryz.func45 rfl rfl rfl (by kernel_rfl) ?_; conv => whnf
  refine SemK.alloc (z := .agg #[.int .i64 0, .int .i64 0]) (by kernel_rfl) ?_
  intro b1 w1 g1 l1 e1 B1
  conv => whnf
  refine (spec_one (h.ext e1) (by omega) (by omega)).mono ?_
  rintro _ w5 ⟨r2, rfl, S3, m4⟩
  conv => whnf
  with_reducible refine IfB.split (fun h6 => ?_) (fun h6 => ?_)
  · conv => whnf
    refine SemK.build st_26 rfl ?_
    conv => whnf
    refine SemK.storeAll (vs := [Value.int IntKind.i64 0, Value.int IntKind.i64 1]) (by kernel_rfl) (B1.mod m4 (blkNew h.lt g1 (Nat.le_refl _))) rfl rfl (by simp [cellish]) ?_
    intro w7 c7 B7
    conv => whnf
    refine CellK.of (run_loadAgg (n := 2) (by kernel_rfl) rfl B7.cells) ?_
    conv => whnf
    refine ⟨_, _, rfl, ?_, ?_, ((S3.chg c7 h.lt g1 (Nat.le_refl _)).more (by omega)), ((e1.mod.trans m4).trans_new c7.but (fun k hk => Nat.le_trans (Nat.le_refl _) (Nat.le_trans g1 (Nat.le_of_eq hk.symm))))⟩
    · exact ⟨by simp, by simp⟩
    · exact ⟨by simp, by simp⟩
  · conv => whnf
    refine (spec_l07WidthOf ((hA.ext e1).mod m4 hap) hd).mono ?_
    rintro _ w11 ⟨r8, rfl, q9, e10⟩
    conv => whnf
    refine (spec_l02DrawField0 (S3.ext e10) (by omega) _ q9).mono ?_
    rintro _ w18 ⟨p12, q13, rfl, q14, q15, S16, m17⟩
    conv => whnf
    refine SemK.storeAll (by kernel_rfl) (((B1.mod m4 (blkNew h.lt g1 (Nat.le_refl _))).ext e10).mod m17 (blkNew h.lt g1 (Nat.le_refl _))) (vs := [Value.int IntKind.i64 p12, Value.int IntKind.i64 q13]) rfl rfl (by simp [List.cons, cellish]) ?_
    intro w19 c19 B19
    conv => whnf
    refine CellK.of (run_loadAgg (n := 2) (by kernel_rfl) rfl B19.cells) ?_
    conv => whnf
    exact ⟨_, _, rfl, by omega, by omega, ((S16.chg c19 h.lt g1 (Nat.le_refl _)).more (by omega)), ((((e1.mod.trans m4).trans e10.mod).trans m17).trans_new c19.but (fun k hk => Nat.le_trans (Nat.le_refl _) (Nat.le_trans g1 (Nat.le_of_eq hk.symm))))⟩
theorem spec_l24DrawField {w : World} {a0 : Option Addr} {k : Nat} (h : Src w a0 k) (hk : k ≤ 800000) {a : Option Addr} {n c : Nat} {ds : List Hd} (hA : Arr eH 1 w a n ds) (hap : Apart a0 a) (hd : ∀ d ∈ ds, d.n ≤ 1000) :
    Does Tryz.prog 45 [.pointer a0, .slice a n c] w (fun v w' => ∃ f : TField, v = .agg ⟨f.enc⟩ ∧ f.ok ∧ Src w' a0 (k + 40) ∧ Mod (blkIn a0) w w') :=
  (spec_l24DrawField0 h hk hA hap hd).mono fun _ _ ⟨p, q, h1, h2, h3, h4, h5⟩ => ⟨⟨p, q⟩, h1, ⟨h2, h3⟩, h4, h5⟩
theorem laws_f6textsE {w : World} {a a' : Option Addr} {n n' c c' : Nat} {xs : List ByteArray} (h : Arr eS 1 w a n xs) (h' : Arr eS 1 w a' n' xs) :
    Does Tryz.prog 24 [.slice a n c, .slice a' n' c'] w (fun v w' => v = .bool true ∧ Ext w w') := by
  have hn := h.len
  have hn' := h'.len
  have hm := h.le
  obtain rfl : n' = n := by omega
  refine Does.of_vc tabok Tryz.func24 rfl rfl rfl (by kernel_rfl) ?_; conv => whnf
  refine IfB.eqf (by simp; done) ?_
  conv => whnf
  refine LoopK.rule [0, 1, 5] (fun (k : Nat) vs w' => vs = [.slice a n' c, .slice a' n' c', .int .i64 k] ∧ k ≤ n' ∧ Ext w w') (fun k => n' - k) tab tabok (by kernel_rfl) 0 ⟨rfl, by omega, Ext.refl _⟩ ?_
  rintro k g _ w5 ⟨rfl, hk, hE⟩
  rcases Nat.lt_or_ge k n' with hkn | hkn
  · obtain ⟨x, hx⟩ : ∃ x, xs[k]? = some x := get_of_lt (by omega)
    conv => whnf
    refine IfB.yes (by omega) ?_
    conv => whnf
    refine DrawK.det tabok mixed (by kernel_rfl) (by kernel_rfl) ?_
    conv => whnf
    refine DSemK.index (by kernel_rfl) (h.ext hE) k rfl hx ?_
    intro b7 o7 ha7 hb7
    conv => whnf
    refine DSemK.load0 (by kernel_rfl) hb7 rfl ?_
    conv => whnf
    refine DSemK.index (by kernel_rfl) (h'.ext hE) k rfl hx ?_
    intro b9 o9 ha9 hb9
    conv => whnf
    refine DSemK.load0 (by kernel_rfl) hb9 rfl ?_
    conv => whnf
    intro w10 e10
    conv => whnf
    refine IfB.eqf (by simp; done) ?_
    conv => whnf
    refine SemK.add (((k + 1 : Nat) : Int)) (by omega) (by omega) (by omega) ?_
    conv => whnf
    exact ⟨k + 1, by omega, rfl, by omega, (Ext.trans hE e10)⟩
  · conv => whnf
    refine IfB.no (by omega) ?_
    conv => whnf
    exact ⟨rfl, hE⟩
theorem spec_l24DrawLimits {w : World} {a0 : Option Addr} {k : Nat} (h : Src w a0 k) (hk : k ≤ 800000) :
    Does Tryz.prog 29 [.pointer a0] w (fun v w' => ∃ (a' : Option Addr) (n' c' : Nat) (xs : List Int), v = .slice a' n' c' ∧ n' ≤ 1000 ∧ (∀ x ∈ xs, i64ok x) ∧ Grow eI 1 w.heap.size 2 w' a' n' c' xs ∧ Src w' a0 (k + 100) ∧ Mod (blkIn a0) w w') := by
  refine Does.of_vc tabok Tryz.func29 rfl rfl rfl (by kernel_rfl) ?_; conv => whnf
  refine SemK.buildSlice mk_27 (vs := []) (by rfl) (by rfl) (by simp [Value.cells]) (by decide) ?_
  intro b1 w1 g1 l1 e1 B1
  have G1 := Grow.new0 (enc := eI) eI_len B1 g1
  conv => whnf
  refine (spec_pick (h.ext e1) (by omega) (by omega)).mono ?_
  rintro _ w2 ⟨r2, rfl, q3, q4, q5, S2, m2⟩
  conv => whnf
  refine SemK.sub _ rfl (by omega) (by omega) ?_
  conv => whnf
  refine (spec_pick S2 (by omega) (by omega)).mono ?_
  rintro _ w3 ⟨r3, rfl, q6, q7, q8, S3, m3⟩
  conv => whnf
  refine SemK.add _ rfl (by omega) (by omega) ?_
  conv => whnf
  refine LoopK.rule [0, 3, 4, 5] (fun (j : Int) vs w' => ∃ at_ a7 n7 c7 xs, vs = [.pointer a0, .slice a7 n7 c7, .int .i64 at_, .int .i64 j] ∧ 0 ≤ j ∧ n7 + j = 1 + r3 ∧ -10 ≤ at_ ∧ at_ ≤ 29 + 30 * n7 ∧ (∀ x ∈ xs, i64ok x) ∧ Grow eI 1 w.heap.size 2 w' a7 n7 c7 xs ∧ Src w' a0 (k + 10 + 2 * n7) ∧ Mod (blkIn a0) w w') (fun j => j.toNat) tab tabok (by kernel_rfl) (1 + r3)
    ⟨_, _, _, _, _, rfl, by omega, by omega, by omega, by omega, by simp, (G1.mod m2 (apart' G1.new h.lt (Nat.le_refl _))).mod m3 (apart' G1.new h.lt (Nat.le_refl _)), S3.more (by omega), (e1.mod.trans m2).trans m3⟩ ?_
  rintro j g _ w8 ⟨at_, a7, n7, c7, xs, rfl, hj, hn7, ha1, ha2, hok, hG, hS, hM⟩
  have lnG := hG.len
  conv => whnf
  with_reducible refine IfB.dec (fun h26 => ?_) (fun h26 => ?_)
  · conv => whnf
    refine SemK.buildSlice mk_27 (vs := [Value.int IntKind.i64 at_]) (by rfl) (by rfl) (by simp [Value.cells]) (by decide) ?_
    intro b60 w60 g60 l60 e60 B60
    have G60 := Grow.of_blk (n := 1) (enc := eI) (xs := [at_]) eI_len B60 g60 rfl (by decide)
    have hGf := hG
    conv => whnf
    refine SemK.appendArr0 (enc := eI) mk_27 eI_len (hGf.ext e60) (G60.own.arr eI_len) (by intro y _; simp [eI, cellish]) (by omega) (by omega) (Nat.le_trans (Mod.size (hM)) (Below.size e60)) ?_
    intro a61 c61 w61 G61 m61 i61
    have S61 := ((hS).ext e60).mod m61 (later h.lt hGf.new (Nat.le_refl _))
    have M61 := ((hM).trans e60.mod).trans_new m61 (fun k hk => blkIn_new hGf.new k hk)
    conv => whnf
    refine (spec_pick S61 (by omega) (by omega)).mono ?_
    rintro _ w9 ⟨r9, rfl, q9, q10, q11, S9, m9⟩
    conv => whnf
    refine SemK.add _ rfl (by omega) (by omega) ?_
    conv => whnf
    refine SemK.add _ rfl (by omega) (by omega) ?_
    conv => whnf
    refine SemK.sub _ rfl (by omega) (by omega) ?_
    conv => whnf
    exact ⟨j - 1, by omega, _, _, _, _, _, rfl, by omega, by omega, by omega, by omega, all_snoc hok (by simp only [i64ok]; omega), G61.mod m9 (apart' G61.new h.lt (Nat.le_refl _)), S9.more (by omega), M61.trans m9⟩
  · conv => whnf
    refine (spec_pick hS (by omega) (by omega)).mono ?_
    rintro _ w9 ⟨r9, rfl, q9, q10, q11, S9, m9⟩
    have hG9 := hG.mod m9 (apart' hG.new h.lt (Nat.le_refl _))
    have hM9 := hM.trans m9
    conv => whnf
    with_reducible refine IfB.dec (fun h27 => ?_) (fun h27 => ?_)
    · conv => whnf
      refine SemK.buildSlice mk_27 (vs := []) (by rfl) (by rfl) (by simp [Value.cells]) (by decide) ?_
      intro b10 w10 g10 l10 e10 B10
      have G10 := Grow.new0 (enc := eI) eI_len B10 g10
      conv => whnf
      exact ⟨_, _, _, _, rfl, by omega, by simp, G10.base (Mod.size hM9), (S9.ext e10).more (by omega), hM9.trans e10.mod⟩
    · conv => whnf
      with_reducible refine IfB.dec (fun h28 => ?_) (fun h28 => ?_)
      · obtain ⟨bh, rfl⟩ := hG9.own.some (by omega)
        obtain ⟨x0, hx0⟩ := get_of_lt (l := xs) (k := 0) (by omega)
        have hx0k := hok x0 (List.mem_of_getElem? hx0)
        conv => whnf
        refine SemK.indexOwn (sz := 1) (by kernel_rfl) 0 rfl (by omega) ?_
        have hb0 := Own.elem eI_len hG9.own hx0
        conv => whnf
        refine SemK.load0 (by kernel_rfl) hb0 rfl ?_
        conv => whnf
        refine SemK.buildSlice mk_27 (vs := [Value.int IntKind.i64 at_, Value.int IntKind.i64 x0, Value.int IntKind.i64 999999999999, Value.int IntKind.i64 1000000000000]) (by rfl) (by rfl) (by simp [Value.cells]) (by decide) ?_
        intro b10 w10 g10 l10 e10 B10
        have G10 := Grow.of_blk (n := 4) (enc := eI) (xs := [at_, x0, 999999999999, 1000000000000]) eI_len B10 g10 rfl (by decide)
        conv => whnf
        refine (spec_among (S9.ext e10) (by omega) (G10.own.arr eI_len) (apart' G10.new S9.lt (Nat.le_refl _)) (by omega) (by omega)).mono ?_
        rintro _ w11 ⟨r11, rfl, q12, S11, m11⟩
        have hr11 : i64ok r11 := by
          simp only [List.mem_cons, List.not_mem_nil, or_false] at q12
          simp only [i64ok] at hx0k ⊢
          omega
        conv => whnf
        refine SemK.buildSlice mk_27 (vs := [Value.int IntKind.i64 r11]) (by rfl) (by rfl) (by simp [Value.cells]) (by decide) ?_
        intro b60 w60 g60 l60 e60 B60
        have G60 := Grow.of_blk (n := 1) (enc := eI) (xs := [r11]) eI_len B60 g60 rfl (by decide)
        have hGf := (hG9.ext e10).mod m11 (apart' hG9.new h.lt (Nat.le_refl _))
        conv => whnf
        refine SemK.appendArr0 (enc := eI) mk_27 eI_len (hGf.ext e60) (G60.own.arr eI_len) (by intro y _; simp [eI, cellish]) (by omega) (by omega) (Nat.le_trans (Mod.size ((hM9.trans e10.mod).trans m11)) (Below.size e60)) ?_
        intro a61 c61 w61 G61 m61 i61
        have S61 := ((S11).ext e60).mod m61 (later h.lt hGf.new (Nat.le_refl _))
        have M61 := (((hM9.trans e10.mod).trans m11).trans e60.mod).trans_new m61 (fun k hk => blkIn_new hGf.new k hk)
        conv => whnf
        exact ⟨_, _, _, _, rfl, by omega, all_snoc hok hr11, G61, S61.more (by omega), M61⟩
      · conv => whnf
        with_reducible refine IfB.dec (fun h29 => ?_) (fun h29 => ?_)
        · conv => whnf
          refine SemK.buildSlice mk_27 (vs := []) (by rfl) (by rfl) (by simp [Value.cells]) (by decide) ?_
          intro b10 w10 g10 l10 e10 B10
          have G10 := Grow.new0 (enc := eI) eI_len B10 g10
          conv => whnf
          refine (spec_pick (S9.ext e10) (by omega) (by omega)).mono ?_
          rintro _ w11 ⟨r11, rfl, q12, q13, q14, S11, m11⟩
          conv => whnf
          refine SemK.add _ rfl (by omega) (by omega) ?_
          conv => whnf
          refine LoopK.rule [3, 6] (fun (i : Int) vs w' => ∃ a8 n8 c8 ys, vs = [.slice a8 n8 c8, .int .i64 i] ∧ 0 ≤ i ∧ n8 + i ≤ 20 ∧ (∀ x ∈ ys, i64ok x) ∧ Grow eI 1 w.heap.size 2 w' a8 n8 c8 ys ∧ Src w' a0 (k + 50) ∧ Mod (blkIn a0) w w') (fun i => i.toNat) tab tabok (by kernel_rfl) (9 + r11)
            ⟨_, _, _, _, rfl, by omega, by omega, by simp, (G10.base (Mod.size hM9)).mod m11 (apart' (G10.base (Mod.size hM9)).new h.lt (Nat.le_refl _)), S11.more (by omega), (hM9.trans e10.mod).trans m11⟩ ?_
          rintro i g2 _ w12 ⟨a8, n8, c8, ys, rfl, hi, hn8, hok8, hG8, hS8, hM8⟩
          have ln8 := hG8.len
          conv => whnf
          with_reducible refine IfB.dec (fun h30 => ?_) (fun h30 => ?_)
          · conv => whnf
            refine SemK.buildSlice mk_27 (vs := [Value.int IntKind.i64 (n8 : Int)]) (by rfl) (by rfl) (by simp [Value.cells]) (by decide) ?_
            intro b60 w60 g60 l60 e60 B60
            have G60 := Grow.of_blk (n := 1) (enc := eI) (xs := [(n8 : Int)]) eI_len B60 g60 rfl (by decide)
            have hGf := hG8
            conv => whnf
            refine SemK.appendArr0 (enc := eI) mk_27 eI_len (hGf.ext e60) (G60.own.arr eI_len) (by intro y _; simp [eI, cellish]) (by omega) (by omega) (Nat.le_trans (Mod.size (hM8)) (Below.size e60)) ?_
            intro a61 c61 w61 G61 m61 i61
            have S61 := ((hS8).ext e60).mod m61 (later h.lt hGf.new (Nat.le_refl _))
            have M61 := ((hM8).trans e60.mod).trans_new m61 (fun k hk => blkIn_new hGf.new k hk)
            conv => whnf
            refine SemK.sub _ rfl (by omega) (by omega) ?_
            conv => whnf
            exact ⟨i - 1, by omega, _, _, _, _, rfl, by omega, by omega, all_snoc hok8 (by simp only [i64ok]; omega), G61, S61, M61⟩
          · conv => whnf
            exact ⟨_, _, _, _, rfl, by omega, hok8, hG8, hS8.more (by omega), hM8⟩
        · conv => whnf
          exact ⟨_, _, _, _, rfl, by omega, hok, hG9, S9.more (by omega), hM9⟩
theorem spec_l18Sum0 {w : World} {a0 : Option Addr} {k : Nat} (h : Src w a0 k) (hk : k ≤ 800000) :
    Does Tryz.prog 66 [.pointer a0] w (fun v w' => ∃ p q : Int, v = .agg #[.int .i64 p, .int .i64 q] ∧ i64ok p ∧ i64ok q ∧ Src w' a0 (k + 40) ∧ Mod (blkIn a0) w w') := by
  have hDF : ∀ (u : World) (kk : Nat), Src u a0 kk → kk ≤ 900000 → Does Tryz.prog 83 [.pointer a0, .int .i64 5] u (fun v w' => ∃ p q : Int, v = .agg #[.int .i64 p, .int .i64 q] ∧ i64ok p ∧ i64ok q ∧ Src w' a0 (kk + 20) ∧ Mod (blkIn a0) u w') := fun u kk hs hkk => spec_l02DrawField0 hs hkk 5 (by omega)
  refine Does.of_vc tabok Tryz.func66 rfl rfl rfl (by kernel_rfl) ?_; conv => whnf
  refine SemK.alloc (z := .agg #[.int .i64 0, .int .i64 0]) (by kernel_rfl) ?_
  intro b1 w1 g1 l1 e1 B1
  conv => whnf
  refine (spec_one (h.ext e1) (by omega) (by omega)).mono ?_
  rintro _ w5 ⟨r2, rfl, S3, m4⟩
  conv => whnf
  with_reducible refine IfB.split (fun h6 => ?_) (fun h6 => ?_)
  · conv => whnf
    refine (hDF _ _ S3 (by omega)).mono ?_
    rintro _ w13 ⟨p7, q8, rfl, q9, q10, S11, m12⟩
    conv => whnf
    refine SemK.storeAll (by kernel_rfl) ((B1.mod m4 (blkNew h.lt g1 (Nat.le_refl _))).mod m12 (blkNew h.lt g1 (Nat.le_refl _))) (vs := [Value.int IntKind.i64 p7, Value.int IntKind.i64 q8]) rfl rfl (by simp [List.cons, cellish]) ?_
    intro w14 c14 B14
    conv => whnf
    refine CellK.of (run_loadAgg (n := 2) (by kernel_rfl) rfl B14.cells) ?_
    conv => whnf
    exact ⟨_, _, rfl, by omega, by omega, ((S11.chg c14 h.lt g1 (Nat.le_refl _)).more (by omega)), (((e1.mod.trans m4).trans m12).trans_new c14.but (fun k hk => Nat.le_trans (Nat.le_refl _) (Nat.le_trans g1 (Nat.le_of_eq hk.symm))))⟩
  · conv => whnf
    refine (spec_one S3 (by omega) (by omega)).mono ?_
    rintro _ w18 ⟨r15, rfl, S16, m17⟩
    conv => whnf
    with_reducible refine IfB.split (fun h19 => ?_) (fun h19 => ?_)
    · conv => whnf
      refine (spec_pick S16 (by omega) (by omega)).mono ?_
      rintro _ w26 ⟨r20, rfl, q21, q22, q23, S24, m25⟩
      conv => whnf
      refine SemK.add _ rfl (by omega) (by omega) ?_
      conv => whnf
      refine SemK.build st_26 rfl ?_
      conv => whnf
      refine SemK.storeAll (vs := [Value.int IntKind.i64 1, Value.int IntKind.i64 (13 + r20)]) (by kernel_rfl) (((B1.mod m4 (blkNew h.lt g1 (Nat.le_refl _))).mod m17 (blkNew h.lt g1 (Nat.le_refl _))).mod m25 (blkNew h.lt g1 (Nat.le_refl _))) rfl rfl (by simp [cellish]) ?_
      intro w27 c27 B27
      conv => whnf
      refine CellK.of (run_loadAgg (n := 2) (by kernel_rfl) rfl B27.cells) ?_
      conv => whnf
      refine ⟨_, _, rfl, ?_, ?_, ((S24.chg c27 h.lt g1 (Nat.le_refl _)).more (by omega)), ((((e1.mod.trans m4).trans m17).trans m25).trans_new c27.but (fun k hk => Nat.le_trans (Nat.le_refl _) (Nat.le_trans g1 (Nat.le_of_eq hk.symm))))⟩
      · simp only [i64ok]; omega
      · simp only [i64ok]; omega
    · conv => whnf
      refine (spec_pick S16 (by omega) (by omega)).mono ?_
      rintro _ w34 ⟨r28, rfl, q29, q30, q31, S32, m33⟩
      conv => whnf
      refine SemK.mul _ rfl (by omega) (by omega) ?_
      conv => whnf
      refine SemK.add _ rfl (by omega) (by omega) ?_
      conv => whnf
      refine SemK.build st_26 rfl ?_
      conv => whnf
      refine SemK.storeAll (vs := [Value.int IntKind.i64 (1 + 2 * r28), Value.int IntKind.i64 5]) (by kernel_rfl) (((B1.mod m4 (blkNew h.lt g1 (Nat.le_refl _))).mod m17 (blkNew h.lt g1 (Nat.le_refl _))).mod m33 (blkNew h.lt g1 (Nat.le_refl _))) rfl rfl (by simp [cellish]) ?_
      intro w35 c35 B35
      conv => whnf
      refine CellK.of (run_loadAgg (n := 2) (by kernel_rfl) rfl B35.cells) ?_
      conv => whnf
      refine ⟨_, _, rfl, ?_, ?_, ((S32.chg c35 h.lt g1 (Nat.le_refl _)).more (by omega)), ((((e1.mod.trans m4).trans m17).trans m33).trans_new c35.but (fun k hk => Nat.le_trans (Nat.le_refl _) (Nat.le_trans g1 (Nat.le_of_eq hk.symm))))⟩
      · simp only [i64ok]; omega
      · simp only [i64ok]; omega
theorem spec_l18Number0 {w : World} {a0 : Option Addr} {k : Nat} (h : Src w a0 k) (hk : k ≤ 700000) :
    Does Tryz.prog 28 [.pointer a0] w (fun v w' => ∃ p q : Int, v = .agg #[.int .i64 p, .int .i64 q] ∧ i64ok p ∧ i64ok q ∧ Src w' a0 (k + 60) ∧ Mod (blkIn a0) w w') := by
  refine Does.of_vc tabok Tryz.func28 rfl rfl rfl (by kernel_rfl) ?_; conv => whnf
  refine SemK.alloc (z := .agg #[.int .i64 0, .int .i64 0]) (by kernel_rfl) ?_
  intro b1 w1 g1 l1 e1 B1
  conv => whnf
  refine (spec_one (h.ext e1) (by omega) (by omega)).mono ?_
  rintro _ w5 ⟨r2, rfl, S3, m4⟩
  conv => whnf
  with_reducible refine IfB.split (fun h6 => ?_) (fun h6 => ?_)
  · conv => whnf
    refine (spec_l18Sum0 S3 (by omega)).mono ?_
    rintro _ w13 ⟨p7, q8, rfl, q9, q10, S11, m12⟩
    conv => whnf
    refine SemK.storeAll (by kernel_rfl) ((B1.mod m4 (blkNew h.lt g1 (Nat.le_refl _))).mod m12 (blkNew h.lt g1 (Nat.le_refl _))) (vs := [Value.int IntKind.i64 p7, Value.int IntKind.i64 q8]) rfl rfl (by simp [List.cons, cellish]) ?_
    intro w14 c14 B14
    conv => whnf
    refine CellK.of (run_loadAgg (n := 2) (by kernel_rfl) rfl B14.cells) ?_
    conv => whnf
    exact ⟨_, _, rfl, by omega, by omega, ((S11.chg c14 h.lt g1 (Nat.le_refl _)).more (by omega)), (((e1.mod.trans m4).trans m12).trans_new c14.but (fun k hk => Nat.le_trans (Nat.le_refl _) (Nat.le_trans g1 (Nat.le_of_eq hk.symm))))⟩
  · conv => whnf
    refine (spec_pick S3 (by omega) (by omega)).mono ?_
    rintro _ w21 ⟨r15, rfl, q16, q17, q18, S19, m20⟩
    conv => whnf
    refine SemK.mul _ rfl (by omega) (by omega) ?_
    conv => whnf
    refine SemK.add _ rfl (by omega) (by omega) ?_
    conv => whnf
    refine SemK.build st_26 rfl ?_
    conv => whnf
    refine SemK.alloc (z := .agg #[.int .i64 0, .int .i64 0]) (by kernel_rfl) ?_
    intro b22 w22 g22 l22 e22 B22
    conv => whnf
    refine SemK.storeAll (vs := [Value.int IntKind.i64 (1 + 2 * r15), Value.int IntKind.i64 0]) (by kernel_rfl) B22 rfl rfl (by simp [cellish]) ?_
    intro w23 c23 B23
    conv => whnf
    refine SemK.load1 (by kernel_rfl) B23.cells (k := 0) rfl ?_
    conv => whnf
    refine SemK.add _ rfl (by omega) (by omega) ?_
    conv => whnf
    refine SemK.store1 (by kernel_rfl) B23 (k := 1) (Nat.le_of_ble_eq_true rfl) rfl ?_
    intro w24 c24 B24
    have B24 : Blk w24 b22 [Value.int IntKind.i64 (1 + 2 * r15), Value.int IntKind.i64 (1 + 2 * r15 + 2)] _ := B24
    conv => whnf
    refine SemK.loadAgg (n := 2) (by kernel_rfl) B24.cells rfl ?_
    conv => whnf
    refine SemK.storeAll (by kernel_rfl) (((B1.mod m4 (blkNew h.lt g1 (Nat.le_refl _))).mod m20 (blkNew h.lt g1 (Nat.le_refl _))).ext (Ext.but_trans (Ext.but_trans e22 c23.but g22) c24.but g22)) (vs := [Value.int IntKind.i64 (1 + 2 * r15), Value.int IntKind.i64 (1 + 2 * r15 + 2)]) rfl rfl (by simp [List.cons, cellish]) ?_
    intro w25 c25 B25
    conv => whnf
    refine CellK.of (run_loadAgg (n := 2) (by kernel_rfl) rfl B25.cells) ?_
    conv => whnf
    refine ⟨_, _, rfl, ?_, ?_, (((S19.ext (Ext.but_trans (Ext.but_trans e22 c23.but g22) c24.but g22)).chg c25 h.lt g1 (Nat.le_refl _)).more (by omega)), ((((((e1.mod.trans m4).trans m20).trans e22.mod).trans_new c23.but (fun k hk => Nat.le_trans (Nat.le_trans (Nat.le_trans (Below.size e1) (Mod.size m4)) (Mod.size m20)) (Nat.le_trans g22 (Nat.le_of_eq hk.symm)))).trans_new c24.but (fun k hk => Nat.le_trans (Nat.le_trans (Nat.le_trans (Below.size e1) (Mod.size m4)) (Mod.size m20)) (Nat.le_trans g22 (Nat.le_of_eq hk.symm)))).trans_new c25.but (fun k hk => Nat.le_trans (Nat.le_refl _) (Nat.le_trans g1 (Nat.le_of_eq hk.symm))))⟩
    · simp only [i64ok]; omega
    · simp only [i64ok]; omega
theorem spec_l18Number {w : World} {a0 : Option Addr} {k : Nat} (h : Src w a0 k) (hk : k ≤ 700000) :
    Does Tryz.prog 28 [.pointer a0] w (fun v w' => ∃ f : TField, v = .agg ⟨f.enc⟩ ∧ f.ok ∧ Src w' a0 (k + 60) ∧ Mod (blkIn a0) w w') :=
  (spec_l18Number0 h hk).mono fun _ _ ⟨p, q, h1, h2, h3, h4, h5⟩ => ⟨⟨p, q⟩, h1, ⟨h2, h3⟩, h4, h5⟩
theorem spec_DrawClassOf {w : World} {a : Option Addr} {n c : Nat} {xs : List UInt8} (h : Arr eB 1 w a n xs) :
    Does Tryz.prog 14 [.slice a n c] w (fun v w' => ∃ (a' : Option Addr) (n' c' : Nat) (xs : List Int) (m : Int), v = .tuple #[.slice a' n' c', .int .i64 m] ∧ n' ≤ 1000 ∧ (∀ x ∈ xs, i64ok x) ∧ i64ok m ∧ Own eI w' a' n' 2 xs ∧ Ext w w') := by
  refine Does.of_vc tabok Tryz.func14 rfl rfl rfl (by kernel_rfl) ?_; conv => whnf
  refine (spec_l00From h).mono ?_
  rintro _ w5 ⟨a'1, rfl, N2, S3, e4⟩
  conv => whnf
  refine (spec_l24DrawLimits S3 (by omega)).mono ?_
  rintro _ w15 ⟨a'6, n'7, c'8, xs9, rfl, q10, q11, G12, S13, m14⟩
  have leG12 := G12.le.1
  have lnG12 := G12.len
  conv => whnf
  refine (spec_one S13 (by omega) (by omega)).mono ?_
  rintro _ w19 ⟨r16, rfl, S17, m18⟩
  conv => whnf
  with_reducible refine IfB.split (fun h20 => ?_) (fun h20 => ?_)
  · conv => whnf
    refine SemK.buildSlice mk_27 (vs := [Value.int IntKind.i64 (-9223372036854775808), Value.int IntKind.i64 9223372036854775807]) (by rfl) (by rfl) (by simp [Value.cells]) (by decide) ?_
    intro b21 w21 g21 l21 e21 B21
    have G21 := Grow.of_blk (n := 2) (enc := eI) (xs := [-9223372036854775808, 9223372036854775807]) eI_len B21 g21 rfl (by decide)
    conv => whnf
    refine (spec_among (S17.ext e21) (by omega) (G21.own.arr eI_len) (apart' G21.new S3.lt (Nat.le_trans (Mod.size m14) (Mod.size m18))) (by omega) (by omega)).mono ?_
    rintro _ w26 ⟨r22, rfl, q23, S24, m25⟩
    conv => whnf
    refine ⟨_, _, _, _, _, rfl, by omega, by omega, ?_, (((G12.mod m18 (apart' G12.new S3.lt (Nat.le_refl _))).ext e21).mod m25 (apart' G12.new S3.lt (Nat.le_refl _))).own, (Ext.mod_trans (Ext.trans (Ext.mod_trans (Ext.mod_trans e4 m14 (blkIn_new N2)) m18 (blkIn_new N2)) e21) m25 (blkIn_new N2))⟩
    · simp only [List.mem_cons, List.not_mem_nil, or_false] at q23
      simp only [i64ok]
      omega
  · conv => whnf
    with_reducible refine IfB.dec (fun h27 => ?_) (fun h27 => ?_)
    · conv => whnf
      refine (spec_one S17 (by omega) (by omega)).mono ?_
      rintro _ w31 ⟨r28, rfl, S29, m30⟩
      conv => whnf
      with_reducible refine IfB.split (fun h32 => ?_) (fun h32 => ?_)
      · conv => whnf
        refine DrawK.mix tabok mixed (a'1) [(0, .any), (1, .any), (2, .any), (3, .any), (4, .any), (5, .run), (6, .any), (8, .any), (7, .held), (9, .any)] (by kernel_rfl) (by kernel_rfl) ?_
        conv => whnf
        intro w33 e33
        conv => whnf
        refine (spec_pick (S29.ext e33) (by omega) (by omega)).mono ?_
        rintro _ w40 ⟨r34, rfl, q35, q36, q37, S38, m39⟩
        conv => whnf
        refine ⟨m39, ?_⟩
        conv => whnf
        obtain ⟨x41, hx41⟩ : ∃ x, xs9[(r34).toNat]? = some x := get_of_lt (by omega)
        have ok41 := q11 _ (List.mem_of_getElem? hx41)
        obtain ⟨b42, rfl⟩ := (((((G12.mod m18 (apart' G12.new S3.lt (Nat.le_refl _))).mod m30 (apart' G12.new S3.lt (Nat.le_refl _))).ext e33).mod m39 (apart' G12.new S3.lt (Nat.le_refl _))).own).some (by omega)
        have gb42 : w5.heap.size ≤ b42 := G12.new _ rfl
        have lb42 : b42 < w15.heap.size := G12.lt _ rfl
        refine PSemK.indexOwn (sz := 1) (by kernel_rfl) (r34).toNat (by omega) (by omega) ?_
        have hb42 := Own.elem eI_len ((((G12.mod m18 (apart' G12.new S3.lt (Nat.le_refl _))).mod m30 (apart' G12.new S3.lt (Nat.le_refl _))).ext e33).mod m39 (apart' G12.new S3.lt (Nat.le_refl _))).own hx41
        conv => whnf
        refine BSemK.load0 (by kernel_rfl) (Sr.cells (Own.elem eI_len (((G12.mod m18 (apart' G12.new S3.lt (Nat.le_refl _))).mod m30 (apart' G12.new S3.lt (Nat.le_refl _))).ext e33).own hx41) (blkNew S3.lt gb42 (Nat.le_refl _))) rfl ?_
        conv => whnf
        exact ⟨_, _, _, _, _, rfl, by omega, by omega, by omega, ((((G12.mod m18 (apart' (NewAt.some gb42) S3.lt (Nat.le_refl _))).mod m30 (apart' (NewAt.some gb42) S3.lt (Nat.le_refl _))).ext e33).mod m39 (apart' (NewAt.some gb42) S3.lt (Nat.le_refl _))).own, (Ext.mod_trans (Ext.trans (Ext.mod_trans (Ext.mod_trans (Ext.mod_trans e4 m14 (blkIn_new N2)) m18 (blkIn_new N2)) m30 (blkIn_new N2)) e33) m39 (blkIn_new N2))⟩
      · conv => whnf
        refine (spec_pick S29 (by omega) (by omega)).mono ?_
        rintro _ w40 ⟨r34, rfl, q35, q36, q37, S38, m39⟩
        conv => whnf
        refine SemK.sub _ rfl (by omega) (by omega) ?_
        conv => whnf
        refine ⟨_, _, _, _, _, rfl, by omega, by omega, ?_, (((G12.mod m18 (apart' G12.new S3.lt (Nat.le_refl _))).mod m30 (apart' G12.new S3.lt (Nat.le_refl _))).mod m39 (apart' G12.new S3.lt (Nat.le_refl _))).own, (Ext.mod_trans (Ext.mod_trans (Ext.mod_trans (Ext.mod_trans e4 m14 (blkIn_new N2)) m18 (blkIn_new N2)) m30 (blkIn_new N2)) m39 (blkIn_new N2))⟩
        · simp only [i64ok]; omega
    · conv => whnf
      refine (spec_pick S17 (by omega) (by omega)).mono ?_
      rintro _ w47 ⟨r41, rfl, q42, q43, q44, S45, m46⟩
      conv => whnf
      refine SemK.sub _ rfl (by omega) (by omega) ?_
      conv => whnf
      refine ⟨_, _, _, _, _, rfl, by omega, by omega, ?_, ((G12.mod m18 (apart' G12.new S3.lt (Nat.le_refl _))).mod m46 (apart' G12.new S3.lt (Nat.le_refl _))).own, (Ext.mod_trans (Ext.mod_trans (Ext.mod_trans e4 m14 (blkIn_new N2)) m18 (blkIn_new N2)) m46 (blkIn_new N2))⟩
      · simp only [i64ok]; omega
theorem spec_DrawSharesOf {w : World} {a : Option Addr} {n c : Nat} {xs : List UInt8} (h : Arr eB 1 w a n xs) :
    Does Tryz.prog 11 [.slice a n c] w (fun v w' => ∃ (a' : Option Addr) (n' c' : Nat) (xs : List Int), v = .slice a' n' c' ∧ n' ≤ 1000 ∧ (∀ x ∈ xs, i64ok x) ∧ Own eI w' a' n' 2 xs ∧ Ext w w') := by
  refine Does.of_vc tabok Tryz.func11 rfl rfl rfl (by kernel_rfl) ?_; conv => whnf
  refine (spec_l00From h).mono ?_
  rintro _ w5 ⟨a'1, rfl, N2, S3, e4⟩
  conv => whnf
  refine SemK.buildSlice mk_27 (vs := []) (by rfl) (by rfl) (by simp [Value.cells]) (by decide) ?_
  intro b6 w6 g6 l6 e6 B6
  have G6 := Grow.new0 (enc := eI) eI_len B6 g6
  conv => whnf
  refine (spec_pick (S3.ext e6) (by omega) (by omega)).mono ?_
  rintro _ w13 ⟨r7, rfl, q8, q9, q10, S11, m12⟩
  conv => whnf
  refine LoopK.rule [3, 4, 5] (fun (j : Int) vs w' => ∃ a7 n7 c7 xs, vs = [.pointer a'1, .slice a7 n7 c7, .int .i64 j] ∧ 0 ≤ j ∧ n7 + j ≤ 10 ∧ (∀ x ∈ xs, i64ok x) ∧ Grow eI 1 w5.heap.size 2 w' a7 n7 c7 xs ∧ Src w' a'1 (10 + 2 * n7) ∧ Mod (blkIn a'1) w5 w') (fun j => j.toNat) tab tabok (by kernel_rfl) r7
    ⟨_, _, _, _, rfl, by omega, by omega, by simp, G6.mod m12 (apart' G6.new S3.lt (Nat.le_refl _)), S11.more (by omega), e6.mod.trans m12⟩ ?_
  rintro j g _ w20 ⟨a7, n7, c7, xs, rfl, hj, hn7, hok, hG, hS, hM⟩
  have lnG := hG.len
  conv => whnf
  with_reducible refine IfB.dec (fun h21 => ?_) (fun h21 => ?_)
  · conv => whnf
    refine (spec_pick hS (by omega) (by omega)).mono ?_
    rintro _ w22 ⟨r22, rfl, q22, q23, q24, S22, m22⟩
    conv => whnf
    refine SemK.buildSlice mk_27 (vs := [Value.int IntKind.i64 r22]) (by rfl) (by rfl) (by simp [Value.cells]) (by decide) ?_
    intro b60 w60 g60 l60 e60 B60
    have G60 := Grow.of_blk (n := 1) (enc := eI) (xs := [r22]) eI_len B60 g60 rfl (by decide)
    have hGf := hG.mod m22 (apart' hG.new S3.lt (Nat.le_refl _))
    conv => whnf
    refine SemK.appendArr0 (enc := eI) mk_27 eI_len (hGf.ext e60) (G60.own.arr eI_len) (by intro y _; simp [eI, cellish]) (by omega) (by omega) (Nat.le_trans (Mod.size (hM.trans m22)) (Below.size e60)) ?_
    intro a61 c61 w61 G61 m61 i61
    have S61 := ((S22).ext e60).mod m61 (later S3.lt hGf.new (Nat.le_refl _))
    have M61 := ((hM.trans m22).trans e60.mod).trans_new m61 (fun k hk => blkIn_new hGf.new k hk)
    conv => whnf
    refine SemK.sub _ rfl (by omega) (by omega) ?_
    conv => whnf
    exact ⟨j - 1, by omega, _, _, _, _, rfl, by omega, by omega, all_snoc hok (by simp only [i64ok]; omega), G61, S61.more (by omega), M61⟩
  · conv => whnf
    refine (spec_pick hS (by omega) (by omega)).mono ?_
    rintro _ w22 ⟨r22, rfl, q22, q23, q24, S22, m22⟩
    have hG22 := hG.mod m22 (apart' hG.new S3.lt (Nat.le_refl _))
    have hM22 := hM.trans m22
    conv => whnf
    with_reducible refine IfB.dec (fun h23 => ?_) (fun h23 => ?_)
    · conv => whnf
      refine SemK.buildSlice mk_27 (vs := [Value.int IntKind.i64 (-1), Value.int IntKind.i64 1000000, Value.int IntKind.i64 1000001]) (by rfl) (by rfl) (by simp [Value.cells]) (by decide) ?_
      intro b24 w24 g24 l24 e24 B24
      have G24 := Grow.of_blk (n := 3) (enc := eI) (xs := [-1, 1000000, 1000001]) eI_len B24 g24 rfl (by decide)
      conv => whnf
      refine (spec_among (S22.ext e24) (by omega) (G24.own.arr eI_len) (apart' G24.new S22.lt (Nat.le_refl _)) (by omega) (by omega)).mono ?_
      rintro _ w25 ⟨r25, rfl, q25, S25, m25⟩
      have hr25 : i64ok r25 := by
        simp only [List.mem_cons, List.not_mem_nil, or_false] at q25
        simp only [i64ok]
        omega
      conv => whnf
      refine SemK.buildSlice mk_27 (vs := [Value.int IntKind.i64 r25]) (by rfl) (by rfl) (by simp [Value.cells]) (by decide) ?_
      intro b60 w60 g60 l60 e60 B60
      have G60 := Grow.of_blk (n := 1) (enc := eI) (xs := [r25]) eI_len B60 g60 rfl (by decide)
      have hGf := (hG22.ext e24).mod m25 (apart' hG22.new S3.lt (Nat.le_refl _))
      conv => whnf
      refine SemK.appendArr0 (enc := eI) mk_27 eI_len (hGf.ext e60) (G60.own.arr eI_len) (by intro y _; simp [eI, cellish]) (by omega) (by omega) (Nat.le_trans (Mod.size ((hM22.trans e24.mod).trans m25)) (Below.size e60)) ?_
      intro a61 c61 w61 G61 m61 i61
      have S61 := ((S25).ext e60).mod m61 (later S3.lt hGf.new (Nat.le_refl _))
      have M61 := (((hM22.trans e24.mod).trans m25).trans e60.mod).trans_new m61 (fun k hk => blkIn_new hGf.new k hk)
      conv => whnf
      exact ⟨_, _, _, _, rfl, by omega, all_snoc hok hr25, G61.own, Ext.mod_trans e4 (M61) (blkIn_new N2)⟩
    · conv => whnf
      with_reducible refine IfB.dec (fun h24 => ?_) (fun h24 => ?_)
      · conv => whnf
        refine (spec_pick S22 (by omega) (by omega)).mono ?_
        rintro _ w25 ⟨r25, rfl, q25, q26, q27, S25, m25⟩
        obtain ⟨q, rfl⟩ : ∃ q : Nat, r25 = (q : Int) := ⟨r25.toNat, by omega⟩
        conv => whnf
        refine SemK.make mk_27 q rfl (by omega) (by omega) ?_
        intro b26 w26 g26 l26 e26 B26
        have G26 := Grow.of_make (enc := eI) (z := (0 : Int)) eI_len rfl B26 g26 (by omega)
        conv => whnf
        exact ⟨_, _, _, _, rfl, by omega, fun x hx => by rw [List.eq_of_mem_replicate hx]; exact ⟨by simp, by simp⟩, G26.own, Ext.mod_trans e4 ((hM22.trans m25).trans e26.mod) (blkIn_new N2)⟩
      · conv => whnf
        with_reducible refine IfB.dec (fun h25 => ?_) (fun h25 => ?_)
        · conv => whnf
          refine SemK.buildSlice mk_27 (vs := []) (by rfl) (by rfl) (by simp [Value.cells]) (by decide) ?_
          intro b26 w26 g26 l26 e26 B26
          have G26 := Grow.new0 (enc := eI) eI_len B26 g26
          conv => whnf
          refine (spec_pick (S22.ext e26) (by omega) (by omega)).mono ?_
          rintro _ w27 ⟨r27, rfl, q28, q29, q30, S27, m27⟩
          conv => whnf
          refine SemK.add _ rfl (by omega) (by omega) ?_
          conv => whnf
          refine LoopK.rule [4, 6] (fun (i : Int) vs w' => ∃ a8 n8 c8 ys, vs = [.slice a8 n8 c8, .int .i64 i] ∧ 0 ≤ i ∧ n8 + i ≤ 50 ∧ (∀ x ∈ ys, i64ok x) ∧ Grow eI 1 w5.heap.size 2 w' a8 n8 c8 ys ∧ Src w' a'1 1000 ∧ Mod (blkIn a'1) w5 w') (fun i => i.toNat) tab tabok (by kernel_rfl) (40 + r27)
            ⟨_, _, _, _, rfl, by omega, by omega, by simp, (G26.base (Mod.size hM22)).mod m27 (apart' (G26.base (Mod.size hM22)).new S3.lt (Nat.le_refl _)), S27.more (by omega), (hM22.trans e26.mod).trans m27⟩ ?_
          rintro i g2 _ w28 ⟨a8, n8, c8, ys, rfl, hi, hn8, hok8, hG8, hS8, hM8⟩
          have ln8 := hG8.len
          conv => whnf
          with_reducible refine IfB.dec (fun h30 => ?_) (fun h30 => ?_)
          · conv => whnf
            refine SemK.buildSlice mk_27 (vs := [Value.int IntKind.i64 1]) (by rfl) (by rfl) (by simp [Value.cells]) (by decide) ?_
            intro b60 w60 g60 l60 e60 B60
            have G60 := Grow.of_blk (n := 1) (enc := eI) (xs := [1]) eI_len B60 g60 rfl (by decide)
            have hGf := hG8
            conv => whnf
            refine SemK.appendArr0 (enc := eI) mk_27 eI_len (hGf.ext e60) (G60.own.arr eI_len) (by intro y _; simp [eI, cellish]) (by omega) (by omega) (Nat.le_trans (Mod.size (hM8)) (Below.size e60)) ?_
            intro a61 c61 w61 G61 m61 i61
            have S61 := ((hS8).ext e60).mod m61 (later S3.lt hGf.new (Nat.le_refl _))
            have M61 := ((hM8).trans e60.mod).trans_new m61 (fun k hk => blkIn_new hGf.new k hk)
            conv => whnf
            refine SemK.sub _ rfl (by omega) (by omega) ?_
            conv => whnf
            exact ⟨i - 1, by omega, _, _, _, _, rfl, by omega, by omega, all_snoc hok8 ⟨by simp, by simp⟩, G61, S61, M61⟩
          · conv => whnf
            exact ⟨_, _, _, _, rfl, by omega, hok8, hG8.own, Ext.mod_trans e4 (hM8) (blkIn_new N2)⟩
        · conv => whnf
          exact ⟨_, _, _, _, rfl, by omega, hok, hG22.own, Ext.mod_trans e4 (hM22) (blkIn_new N2)⟩
theorem spec_DrawCountClasses {w : World} {a : Option Addr} {n c : Nat} {xs : List UInt8} (h : Arr eB 1 w a n xs) :
    Does Tryz.prog 5 [.slice a n c] w (fun v w' => ∃ (a' : Option Addr) (n' c' : Nat) (ds : List Hd) (f : TField) (al : Option Addr) (nl cl : Nat) (ls : List Int), v = .tuple #[.slice a' n' c', .agg ⟨f.enc⟩, .slice al nl cl] ∧ f.ok ∧ nl ≤ 1000 ∧ Grow eH 1 w.heap.size 51 w' a' n' c' ds ∧ HdsOk 2 w.heap.size w' ds ∧ Own eI w' al nl 2 ls ∧ Ext w w') := by
  refine Does.of_vc tabok Tryz.func5 rfl rfl rfl (by kernel_rfl) ?_; conv => whnf
  refine SemK.alloc (z := .agg #[.int .i64 0, .int .i64 0]) (by kernel_rfl) ?_
  intro b1 w1 g1 l1 e1 B1
  conv => whnf
  refine (spec_l00From (h.ext e1)).mono ?_
  rintro _ w6 ⟨a'2, rfl, N3, S4, e5⟩
  conv => whnf
  refine (spec_l24Deck S4 (by omega)).mono ?_
  rintro _ w15 ⟨a'7, n'8, c'9, ds10, rfl, hb10, G11, q12, S13, m14⟩
  have leG11 := G11.le.1
  have lnG11 := G11.len
  conv => whnf
  refine (spec_l18Number0 S13 (by omega)).mono ?_
  rintro _ w22 ⟨p16, q17, rfl, q18, q19, S20, m21⟩
  conv => whnf
  refine SemK.alloc (z := .agg #[.int .i64 0, .int .i64 0]) (by kernel_rfl) ?_
  intro b23 w23 g23 l23 e23 B23
  conv => whnf
  refine SemK.storeAll (by kernel_rfl) B23 (vs := [Value.int IntKind.i64 p16, Value.int IntKind.i64 q17]) rfl rfl (by simp [List.cons, cellish]) ?_
  intro w24 c24 B24
  conv => whnf
  refine DrawK.mix tabok mixed (a'2) [(0, .any), (2, .any), (1, .held), (3, .run), (4, .any), (5, .write), (6, .any)] (by kernel_rfl) (by kernel_rfl) ?_
  conv => whnf
  intro w25 e25
  conv => whnf
  refine BSemK.loadAgg (n := 2) (by kernel_rfl) (Sr.cells (B24.ext e25).cells (blkNew S4.lt g23 (Nat.le_trans (Mod.size m14) (Mod.size m21)))) rfl ?_
  conv => whnf
  refine (spec_l24DrawLimits (((S20.ext e23).chg c24 S4.lt g23 (Nat.le_trans (Mod.size m14) (Mod.size m21))).ext e25) (by omega)).mono ?_
  rintro _ w35 ⟨a'26, n'27, c'28, xs29, rfl, q30, q31, G32, S33, m34⟩
  have leG32 := G32.le.1
  have lnG32 := G32.len
  conv => whnf
  refine ⟨m34, ?_⟩
  conv => whnf
  refine SemK.storeAll (by kernel_rfl) (B1.ext (Ext.mod_trans (Ext.trans (Ext.but_trans (Ext.trans (Ext.mod_trans (Ext.mod_trans e5 m14 (blkIn_new N3)) m21 (blkIn_new N3)) e23) c24.but (Nat.le_trans (Below.size (Ext.mod_trans (Ext.mod_trans e5 m14 (blkIn_new N3)) m21 (blkIn_new N3))) g23)) e25) m34 (blkIn_new N3))) (vs := [Value.int IntKind.i64 p16, Value.int IntKind.i64 q17]) rfl rfl (by simp [List.cons, cellish]) ?_
  intro w36 c36 B36
  conv => whnf
  refine CellK.of (run_loadAgg (n := 2) (by kernel_rfl) rfl B36.cells) ?_
  conv => whnf
  have K : ∀ k, blkIn a'2 k → w.heap.size ≤ k := fun k hk => Nat.le_trans (Below.size e1) (blkIn_new N3 k hk)
  have E22 := Ext.mod_trans (Ext.mod_trans (Ext.trans e1 e5) m14 K) m21 K
  have hb1 : b1 < w6.heap.size := Nat.lt_of_lt_of_le l1 (Below.size e5)
  have hw6 : w.heap.size ≤ w6.heap.size := Below.size (Ext.trans e1 e5)
  have ap := apart' G11.new S4.lt (Nat.le_refl _)
  have G24 := ((G11.mod m21 ap).ext e23).mod c24.but (apartChg (G11.mod m21 ap).lt g23 (Nat.le_refl _))
  have H24 := ((q12.src S13 m21 S4.lt).ext e23).apartB B23 (by omega) c24
  exact ⟨_, _, _, _, ⟨p16, q17⟩, _, _, _, _, rfl, ⟨q18, q19⟩, q30, (((G24.ext e25).mod m34 ap).chgO c36 hb1).base hw6, (((H24.ext e25).src (((S20.ext e23).chg c24 S4.lt g23 (Nat.le_trans (Mod.size m14) (Mod.size m21))).ext e25) m34 S4.lt).chg c36 hb1).le hw6, (G32.chgO c36 (Nat.lt_of_lt_of_le hb1 (Nat.le_trans (Nat.le_trans (Mod.size m14) (Mod.size m21)) (Nat.le_trans (Below.size e23) (Nat.le_trans c24.size_le (Below.size e25)))))).own, Ext.but_trans (Ext.mod_trans (Ext.trans (Ext.but_trans (Ext.trans E22 e23) c24.but (Nat.le_trans (Below.size E22) g23)) e25) m34 K) c36.but g1⟩
theorem spec_DrawMedianOf {w : World} {a : Option Addr} {n c : Nat} {xs : List UInt8} (h : Arr eB 1 w a n xs) :
    Does Tryz.prog 8 [.slice a n c] w (fun v w' => ∃ (a' : Option Addr) (n' c' : Nat) (ds : List Hd) (f : TField), v = .tuple #[.slice a' n' c', .agg ⟨f.enc⟩] ∧ f.ok ∧ n' ≤ 1000 ∧ Grow eH 1 w.heap.size 51 w' a' n' c' ds ∧ HdsOk 2 w.heap.size w' ds ∧ Ext w w') := by
  refine Does.of_vc tabok Tryz.func8 rfl rfl rfl (by kernel_rfl) ?_; conv => whnf
  refine SemK.alloc (z := .agg #[.int .i64 0, .int .i64 0]) (by kernel_rfl) ?_
  intro b1 w1 g1 l1 e1 B1
  conv => whnf
  refine (spec_l00From (h.ext e1)).mono ?_
  rintro _ w6 ⟨a'2, rfl, N3, S4, e5⟩
  conv => whnf
  refine (spec_l24Deck S4 (by omega)).mono ?_
  rintro _ w15 ⟨a'7, n'8, c'9, ds10, rfl, hb10, G11, q12, S13, m14⟩
  have leG11 := G11.le.1
  have lnG11 := G11.len
  conv => whnf
  refine (spec_l18Number0 S13 (by omega)).mono ?_
  rintro _ w22 ⟨p16, q17, rfl, q18, q19, S20, m21⟩
  conv => whnf
  refine SemK.storeAll (by kernel_rfl) (B1.ext (Ext.mod_trans (Ext.mod_trans e5 m14 (blkIn_new N3)) m21 (blkIn_new N3))) (vs := [Value.int IntKind.i64 p16, Value.int IntKind.i64 q17]) rfl rfl (by simp [List.cons, cellish]) ?_
  intro w23 c23 B23
  conv => whnf
  refine CellK.of (run_loadAgg (n := 2) (by kernel_rfl) rfl B23.cells) ?_
  conv => whnf
  have K : ∀ k, blkIn a'2 k → w.heap.size ≤ k := fun k hk => Nat.le_trans (Below.size e1) (blkIn_new N3 k hk)
  have hb1 : b1 < w6.heap.size := Nat.lt_of_lt_of_le l1 (Below.size e5)
  have hw6 : w.heap.size ≤ w6.heap.size := Below.size (Ext.trans e1 e5)
  have ap := apart' G11.new S4.lt (Nat.le_refl _)
  exact ⟨_, _, _, _, ⟨p16, q17⟩, rfl, ⟨q18, q19⟩, by omega, ((G11.mod m21 ap).chgO c23 hb1).base hw6, ((q12.src S13 m21 S4.lt).chg c23 hb1).le hw6, Ext.but_trans (Ext.mod_trans (Ext.mod_trans (Ext.trans e1 e5) m14 K) m21 K) c23.but g1⟩
theorem spec_DrawMissingTexts {w : World} {a : Option Addr} {n c : Nat} {xs : List UInt8} (h : Arr eB 1 w a n xs) :
    Does Tryz.prog 17 [.slice a n c] w (fun v w' => ∃ (a' : Option Addr) (n' c' : Nat) (ds : List Hd) (f : TField) (al : Option Addr) (nl cl : Nat) (ls : List ByteArray), v = .tuple #[.slice a' n' c', .agg ⟨f.enc⟩, .slice al nl cl] ∧ nl ≤ cl ∧ nl ≤ 1000 ∧ Grow eH 1 w.heap.size 51 w' a' n' c' ds ∧ HdsOk 2 w.heap.size w' ds ∧ Own eS w' al nl 9 ls ∧ Ext w w') := by
  refine Does.of_vc tabok Tryz.func17 rfl rfl rfl (by kernel_rfl) ?_; conv => whnf
  refine SemK.alloc (z := .agg #[.int .i64 0, .int .i64 0]) (by kernel_rfl) ?_
  intro b1 w1 g1 l1 e1 B1
  conv => whnf
  refine (spec_l00From (h.ext e1)).mono ?_
  rintro _ w6 ⟨a'2, rfl, N3, S4, e5⟩
  conv => whnf
  refine (spec_l24Deck S4 (by omega)).mono ?_
  rintro _ w15 ⟨a'7, n'8, c'9, ds10, rfl, hb10, G11, q12, S13, m14⟩
  have leG11 := G11.le.1
  have lnG11 := G11.len
  conv => whnf
  refine (spec_l24DrawField0 S13 (by omega) (G11.own.arr eH_len) (apart' G11.new S4.lt (Nat.le_refl _)) (fun d hd => by obtain ⟨_, _, h1⟩ := q12 d hd; exact h1)).mono ?_
  rintro _ w22 ⟨p16, q17, rfl, q18, q19, S20, m21⟩
  conv => whnf
  refine SemK.alloc (z := .agg #[.int .i64 0, .int .i64 0]) (by kernel_rfl) ?_
  intro b23 w23 g23 l23 e23 B23
  conv => whnf
  refine SemK.storeAll (by kernel_rfl) B23 (vs := [Value.int IntKind.i64 p16, Value.int IntKind.i64 q17]) rfl rfl (by simp [List.cons, cellish]) ?_
  intro w24 c24 B24
  conv => whnf
  refine SemK.buildSlice mk_40 (vs := []) (by rfl) (by rfl) (by simp [Value.cells]) (by decide) ?_
  intro b25 w25 g25 l25 e25 B25
  have G25 := Grow.new0 (enc := eS) eS_len B25 g25
  conv => whnf
  refine (spec_pick (((S20.ext e23).chg c24 S4.lt g23 (Nat.le_trans (Mod.size m14) (Mod.size m21))).ext e25) (by omega) (by omega)).mono ?_
  rintro _ w32 ⟨r26, rfl, q27, q28, q29, S30, m31⟩
  conv => whnf
  have hb1 : b1 < w6.heap.size := Nat.lt_of_lt_of_le l1 (Below.size e5)
  have hw6 : w.heap.size ≤ w6.heap.size := Below.size (Ext.trans e1 e5)
  have ap := apart' G11.new S4.lt (Nat.le_refl _)
  have hz22 : w6.heap.size ≤ w22.heap.size := Nat.le_trans (Mod.size m14) (Mod.size m21)
  have nb1 := blkNew S4.lt g23 hz22
  have G24 := ((G11.mod m21 ap).ext e23).mod c24.but (apartChg (G11.mod m21 ap).lt g23 (Nat.le_refl _))
  have H24 := ((q12.src S13 m21 S4.lt).ext e23).apartB B23 (by omega) c24
  have S24 := (S20.ext e23).chg c24 S4.lt g23 hz22
  have K : ∀ k, blkIn a'2 k → w.heap.size ≤ k := fun k hk => Nat.le_trans (Below.size e1) (blkIn_new N3 k hk)
  have K1 : ∀ k, blkIn a'2 k → w1.heap.size ≤ k := fun k hk => blkIn_new N3 k hk
  have E22 := Ext.mod_trans (Ext.mod_trans (Ext.trans e1 e5) m14 K) m21 K
  have E24 := Ext.but_trans (Ext.trans E22 e23) c24.but (Nat.le_trans (Below.size E22) g23)
  have F22 := Ext.mod_trans (Ext.mod_trans e5 m14 K1) m21 K1
  have F24 := Ext.but_trans (Ext.trans F22 e23) c24.but (Nat.le_trans (Below.size F22) g23)
  have ap24 := apart' G25.new S24.lt (Nat.le_refl _)
  refine LoopK.rule [3, 5, 6, 7, 8, 9] (fun (j : Int) vs w' => ∃ a8 n8 c8, ∃ ls : List ByteArray, vs = [.pointer (some ⟨b1, 0, none⟩), .pointer a'2, .slice a'7 n'8 c'9, .pointer (some ⟨b23, 0, none⟩), .slice a8 n8 c8, .int .i64 j] ∧ 0 ≤ j ∧ n8 + j ≤ 10 ∧ Grow eS 1 w24.heap.size 9 w' a8 n8 c8 ls ∧ Src w' a'2 (300000 + 10 * n8) ∧ Mod (blkIn a'2) w24 w') (fun j => j.toNat) tab tabok (by kernel_rfl) r26
    ⟨_, _, _, _, rfl, by omega, by omega, G25.mod m31 ap24, S30.more (by omega), e25.mod.trans m31⟩ ?_
  rintro j g _ w40 ⟨a8, n8, c8, ls, rfl, hj, hn8, hG, hS, hM⟩
  have lnG := hG.len
  have leG := hG.le.1
  conv => whnf
  with_reducible refine IfB.dec (fun h41 => ?_) (fun h41 => ?_)
  · conv => whnf
    refine SemK.buildSlice mk_40 (vs := [Value.string { data := #[65] }, Value.string { data := #[66] }, Value.string { data := #[49] }, Value.string { data := #[67] }, Value.string { data := #[] }, Value.string { data := #[65, 66] }, Value.string { data := #[65] }]) (by rfl) (by rfl) (by simp [Value.cells]) (by decide) ?_
    intro b42 w42 g42 l42 e42 B42
    have G42 := Grow.of_blk (n := 7) (enc := eS) (xs := [{ data := #[65] }, { data := #[66] }, { data := #[49] }, { data := #[67] }, { data := #[] }, { data := #[65, 66] }, { data := #[65] }]) eS_len B42 g42 rfl (by decide)
    conv => whnf
    refine (spec_text (hS.ext e42) (by omega) (G42.own.arr eS_len) (apart' G42.new hS.lt (Nat.le_refl _)) (by omega) (by omega)).mono ?_
    rintro _ w43 ⟨r43, rfl, q43, S43, m43⟩
    have ap43 := apart' hG.new S24.lt (Nat.le_refl _)
    conv => whnf
    refine SemK.buildSlice mk_40 (vs := [Value.string r43]) (by rfl) (by rfl) (by simp [Value.cells]) (by decide) ?_
    intro b60 w60 g60 l60 e60 B60
    have G60 := Grow.of_blk (n := 1) (enc := eS) (xs := [r43]) eS_len B60 g60 rfl (by decide)
    have hGf := (hG.ext e42).mod m43 ap43
    have M43 := (hM.trans e42.mod).trans m43
    conv => whnf
    refine SemK.appendArr0 (enc := eS) mk_40 eS_len (hGf.ext e60) (G60.own.arr eS_len) (by intro y _; simp [eS, cellish]) (by omega) (by omega) (Nat.le_trans (Mod.size M43) (Below.size e60)) ?_
    intro a61 c61 w61 G61 m61 i61
    conv => whnf
    refine SemK.sub _ rfl (by omega) (by omega) ?_
    conv => whnf
    exact ⟨j - 1, by omega, _, _, _, _, rfl, by omega, by omega, G61, ((S43.ext e60).mod m61 (later S24.lt hGf.new (Nat.le_refl _))).more (by omega), (M43.trans e60.mod).trans_new m61 (fun k hk => blkIn_new hGf.new k hk)⟩
  · conv => whnf
    refine (spec_one hS (by omega) (by omega)).mono ?_
    rintro _ w43 ⟨r43, rfl, S43, m43⟩
    have M43 := hM.trans m43
    have G43 := hG.mod m43 (apart' hG.new S24.lt (Nat.le_refl _))
    conv => whnf
    with_reducible refine IfB.split (fun h44 => ?_) (fun h44 => ?_)
    · conv => whnf
      refine (spec_pick S43 (by omega) (by omega)).mono ?_
      rintro _ w45 ⟨r45, rfl, q45, q46, q47, S45, m45⟩
      obtain ⟨q, hq⟩ : ∃ q : Nat, 100 + r45 = (q : Int) := ⟨(100 + r45).toNat, by omega⟩
      conv => whnf
      refine SemK.add ((q : Nat) : Int) (by omega) (by omega) (by omega) ?_
      conv => whnf
      refine SemK.make mk_40 q rfl (by omega) (by omega) ?_
      intro b46 w46 g46 l46 e46 B46
      have G46 := Grow.of_make (enc := eS) (z := (⟨#[]⟩ : ByteArray)) eS_len rfl B46 g46 (by omega)
      have M46 := (M43.trans m45).trans e46.mod
      have B47 := ((B24.mod M46 nb1))
      have C47 := B1.ext (Ext.mod_trans F24 M46 K1)
      conv => whnf
      refine DrawK.writes tabok mixed [(0, .any), (2, .any), (3, .any), (1, .held), (4, .write), (5, .any)] (by kernel_rfl) (by kernel_rfl) ?_
      conv => whnf
      intro w48 e48
      conv => whnf
      refine DSemK.loadAgg (n := 2) (by kernel_rfl) B47.cells rfl ?_
      conv => whnf
      refine SemK.storeAll (by kernel_rfl) (C47.ext e48) (vs := [Value.int IntKind.i64 p16, Value.int IntKind.i64 q17]) rfl rfl (by simp [List.cons, cellish]) ?_
      intro w49 c49 B49
      conv => whnf
      refine CellK.of (run_loadAgg (n := 2) (by kernel_rfl) rfl B49.cells) ?_
      conv => whnf
      have hz24 : w6.heap.size ≤ w24.heap.size := Nat.le_trans hz22 (Nat.le_trans (Below.size e23) c24.size_le)
      exact ⟨_, _, _, _, ⟨p16, q17⟩, _, _, _, _, rfl, by omega, by omega, (((G24.mod M46 (apart' G24.new S4.lt (Nat.le_refl _))).ext e48).chgO c49 hb1).base hw6, (((H24.src S24 M46 S4.lt).ext e48).chg c49 hb1).le hw6, ((G46.ext e48).chgO c49 (Nat.lt_of_lt_of_le hb1 (Nat.le_trans hz24 (Mod.size (M43.trans m45))))).own, Ext.but_trans (Ext.trans (Ext.mod_trans E24 M46 K) e48) c49.but g1⟩
    · have B47 := (B24.mod M43 nb1)
      have C47 := B1.ext (Ext.mod_trans F24 M43 K1)
      conv => whnf
      refine DrawK.writes tabok mixed [(0, .any), (2, .any), (3, .any), (1, .held), (4, .write), (5, .any)] (by kernel_rfl) (by kernel_rfl) ?_
      conv => whnf
      intro w48 e48
      conv => whnf
      refine DSemK.loadAgg (n := 2) (by kernel_rfl) B47.cells rfl ?_
      conv => whnf
      refine SemK.storeAll (by kernel_rfl) (C47.ext e48) (vs := [Value.int IntKind.i64 p16, Value.int IntKind.i64 q17]) rfl rfl (by simp [List.cons, cellish]) ?_
      intro w49 c49 B49
      conv => whnf
      refine CellK.of (run_loadAgg (n := 2) (by kernel_rfl) rfl B49.cells) ?_
      conv => whnf
      have hz24 : w6.heap.size ≤ w24.heap.size := Nat.le_trans hz22 (Nat.le_trans (Below.size e23) c24.size_le)
      exact ⟨_, _, _, _, ⟨p16, q17⟩, _, _, _, _, rfl, by omega, by omega, (((G24.mod M43 (apart' G24.new S4.lt (Nat.le_refl _))).ext e48).chgO c49 hb1).base hw6, (((H24.src S24 M43 S4.lt).ext e48).chg c49 hb1).le hw6, ((G43.ext e48).chgO c49 (Nat.lt_of_lt_of_le hb1 hz24)).own, Ext.but_trans (Ext.trans (Ext.mod_trans E24 M43 K) e48) c49.but g1⟩
theorem spec_DrawDoubleCards {w : World} {a : Option Addr} {n c : Nat} {xs : List UInt8} (h : Arr eB 1 w a n xs) :
    Does Tryz.prog 20 [.slice a n c] w (fun v w' => ∃ (a' : Option Addr) (n' c' : Nat) (ds : List Hd), v = .slice a' n' c' ∧ Grow eH 1 w.heap.size 51 w' a' n' c' ds ∧ HdsOk 2 w.heap.size w' ds ∧ Ext w w') := by
  refine Does.of_vc tabok Tryz.func20 rfl rfl rfl (by kernel_rfl) ?_; conv => whnf
  refine (spec_l00From h).mono ?_
  rintro _ w5 ⟨a'1, rfl, N2, S3, e4⟩
  conv => whnf
  refine (spec_l24Deck S3 (by omega)).mono ?_
  rintro _ w14 ⟨a'6, n'7, c'8, ds9, rfl, hb9, G10, q11, S12, m13⟩
  have leG10 := G10.le.1
  have lnG10 := G10.len
  conv => whnf
  with_reducible refine IfB.dec (fun h15 => ?_) (fun h15 => ?_)
  · conv => whnf
    refine (spec_one S12 (by omega) (by omega)).mono ?_
    rintro _ w19 ⟨r16, rfl, S17, m18⟩
    conv => whnf
    with_reducible refine IfB.split (fun h20 => ?_) (fun h20 => ?_)
    · conv => whnf
      refine (spec_pick S17 (by omega) (by omega)).mono ?_
      rintro _ w27 ⟨r21, rfl, q22, q23, q24, S25, m26⟩
      conv => whnf
      obtain ⟨x28, hx28⟩ : ∃ x, ds9[(r21).toNat]? = some x := get_of_lt (by omega)
      obtain ⟨b29, rfl⟩ := (((G10.mod m18 (apart' G10.new S3.lt (Nat.le_refl _))).mod m26 (apart' G10.new S3.lt (Nat.le_refl _))).own).some (by omega)
      have gb29 : w5.heap.size ≤ b29 := G10.new _ rfl
      have lb29 : b29 < w14.heap.size := G10.lt _ rfl
      refine SemK.indexOwn (sz := 1) (by kernel_rfl) (r21).toNat (by omega) (by omega) ?_
      have hb29 := Own.elem eH_len ((G10.mod m18 (apart' G10.new S3.lt (Nat.le_refl _))).mod m26 (apart' G10.new S3.lt (Nat.le_refl _))).own hx28
      conv => whnf
      have hH26 := (q11.src S12 m18 S3.lt).src S17 m26 S3.lt
      have hG26 := (G10.mod m18 (apart' G10.new S3.lt (Nat.le_refl _))).mod m26 (apart' G10.new S3.lt (Nat.le_refl _))
      obtain ⟨ys, Gd, hdn⟩ := hH26 x28 (List.mem_of_getElem? hx28)
      refine (spec_l02Own hb29 (Gd.own.arr eI_len) hdn).mono ?_
      rintro _ w30 ⟨a30, c30, rfl, G30, e30⟩
      have hz : w5.heap.size ≤ w27.heap.size := Mod.size ((m13.trans m18).trans m26)
      conv => whnf
      refine SemK.buildSlice mk_24 (vs := [.agg #[.slice a30 x28.n c30]]) (by rfl) (by rfl) (by simp [Value.cells]) (by decide) ?_
      intro b60 w60 g60 l60 e60 B60
      have G60 := Grow.of_blk (n := 1) (enc := eH) (xs := [⟨a30, x28.n, c30⟩]) eH_len B60 g60 rfl (by decide)
      have hGf := hG26.ext e30
      have hHf := (hH26.ext e30).snoc (d := ⟨a30, x28.n, c30⟩) ⟨ys, G30.base hz, hdn⟩
      conv => whnf
      refine SemK.appendArr0 (enc := eH) mk_24 eH_len (hGf.ext e60) (G60.own.arr eH_len) (by intro y _; simp [eH, cellish]) (by omega) (by omega) (Nat.le_trans hz (Nat.le_trans (Below.size e30) (Below.size e60))) ?_
      intro a61 c61 w61 G61 m61 i61
      conv => whnf
      exact ⟨_, _, _, _, rfl, G61.base (Below.size e4), ((hHf.ext e60).apart (hGf.ext e60) (by omega) m61).le (Below.size e4), Ext.mod_trans (Ext.trans (Ext.trans (Ext.mod_trans (Ext.mod_trans (Ext.mod_trans e4 m13 (blkIn_new N2)) m18 (blkIn_new N2)) m26 (blkIn_new N2)) e30) e60) m61 (fun k hk => Nat.le_trans (Below.size e4) (blkIn_new hGf.new k hk))⟩
    · conv => whnf
      refine ⟨_, _, _, _, rfl, ((G10.mod m18 (apart' G10.new S3.lt (Nat.le_refl _))).base (Below.size e4)), ?_, (Ext.mod_trans (Ext.mod_trans e4 m13 (blkIn_new N2)) m18 (blkIn_new N2))⟩
      · exact (q11.src S12 m18 S3.lt).le (Below.size e4)
  · conv => whnf
    refine ⟨_, _, _, _, rfl, (G10.base (Below.size e4)), ?_, (Ext.mod_trans e4 m13 (blkIn_new N2))⟩
    · exact q11.le (Below.size e4)
end Go.Proofs.YtfgbijddjoojbaaGreat
