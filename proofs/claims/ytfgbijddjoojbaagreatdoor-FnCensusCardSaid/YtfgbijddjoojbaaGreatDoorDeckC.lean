/- Contracts of functions of the given program, of the reference and of the laws: each says what a call returns, for all arguments that meet the premises that the theorem itself names. -/
import Derived.Test.YtfgbijddjoojbaaGreatDoorDeckD
import Derived.Test.YtfgbijddjoojbaaGreatDoorKeyW
/- draws of decks with texts and numbers, of fields and of tables -/
namespace Go.Proofs.YtfgbijddjoojbaaGreatDoor
open Go Go.RowKit Go.Vc Go.M
theorem spec_l00Own {w : World} {a : Option Addr} {n c : Nat} {xs : List Int} (h : Arr eI 1 w a n xs) (hn : n ≤ 1000000) :
    Does Tryz.prog 249 [.slice a n c] w (fun v w' => ∃ (a' : Option Addr) (c' : Nat), v = .slice a' n c' ∧ Grow eI 1 w.heap.size 2 w' a' n c' xs ∧ Ext w w') := by
  refine Does.of_vc tabok Tryz.func249 rfl rfl rfl (by kernel_rfl) ?_; conv => whnf
  refine SemK.buildSlice mk_41 (vs := []) (by rfl) (by rfl) (by simp [Value.cells]) (by decide) ?_
  intro b1 w1 g1 l1 e1 B1
  have G1 := Grow.new0 (enc := eI) eI_len B1 g1
  conv => whnf
  refine SemK.appendNew (enc := eI) mk_41 eI_len G1 (h.ext e1) (by intro y _; simp [eI, cellish]) (by omega) (by omega) (Below.size e1) ?_
  intro a2 c2 w2 G2 m2 i2
  conv => whnf
  exact ⟨_, _, rfl, G2, (Ext.mod_trans e1 m2 (blkIn_new G1.new))⟩
theorem spec_l02Own {w : World} {b o : Nat} {d : Hd} {xs : List Int} (hc : Cells w b o (eH d)) (h : Arr eI 1 w d.a d.n xs) (hn : d.n ≤ 1000) :
    Does Tryz.prog 227 [.pointer (some ⟨b, o, none⟩)] w (fun v w' => ∃ (a' : Option Addr) (c' : Nat), v = .agg #[.slice a' d.n c'] ∧ Grow eI 1 w.heap.size 2 w' a' d.n c' xs ∧ Ext w w') := by
  obtain ⟨da, dn, dc⟩ := d
  simp only at h hn
  refine Does.of_vc tabok Tryz.func227 rfl rfl rfl (by kernel_rfl) ?_; conv => whnf
  refine SemK.alloc (z := .agg #[.slice none 0 0]) (by kernel_rfl) ?_
  intro b1 w1 g1 l1 e1 B1
  conv => whnf
  refine SemK.load1 (by kernel_rfl) (hc.ext e1) (k := 0) rfl ?_
  conv => whnf
  refine (spec_l00Own (h.ext e1) (by omega)).mono ?_
  rintro _ w6 ⟨a'2, c'3, rfl, G4, e5⟩
  conv => whnf
  refine SemK.build st_85 rfl ?_
  conv => whnf
  refine SemK.storeAll (vs := [Value.slice a'2 dn c'3]) (by kernel_rfl) (B1.ext e5) rfl rfl (by simp [cellish]) ?_
  intro w7 c7 B7
  conv => whnf
  refine CellK.of (run_loadAgg (n := 1) (by kernel_rfl) rfl B7.cells) ?_
  conv => whnf
  exact ⟨_, _, rfl, ((G4.mod c7.but (apartChg' G4.new l1 (Nat.le_refl _))).base (Below.size e1)), (Ext.but_trans (Ext.trans e1 e5) c7.but g1)⟩
theorem spec_l03DrawText {w : World} {a0 : Option Addr} {k : Nat} (h : Src w a0 k) (hk : k ≤ 900000) (n : Nat) (hn : n ≤ 100) :
    Does Tryz.prog 228 [.pointer a0, .int .i64 (n : Nat)] w (fun v w' => ∃ s : ByteArray, v = .string s ∧ s.size = n ∧ Src w' a0 (k + 400) ∧ Mod (blkIn a0) w w') := by
  have hcs : chars.size = 40 := rfl
  generalize hch : chars = ch at hcs
  have hOrd : ∀ u, Does Tryz.prog 204 [] u (fun v w' => v = .string ch ∧ u = w') := fun u => hch ▸ spec_l03Order u
  clear hch
  refine Does.of_vc tabok Tryz.func228 rfl rfl rfl (by kernel_rfl) ?_; conv => whnf
  refine (hOrd _).mono ?_
  rintro _ _ ⟨rfl, rfl⟩
  conv => whnf
  refine SemK.buildSlice mk_22 (vs := []) (by rfl) (by rfl) (by simp [Value.cells]) (by decide) ?_
  intro b2 w2 g2 l2 e2 B2
  have G2 := Grow.new0 (enc := eB) eB_len B2 g2
  conv => whnf
  have G2 := Grow.new0 (enc := eB) eB_len B2 g2
  refine LoopK.rule [0, 1, 5, 6, 7] (fun (j : Nat) vs w' => ∃ (a6 : Option Addr) (c6 : Nat) (l : List UInt8), vs = [.pointer a0, .int .i64 (n : Nat), .string ch, .slice a6 j c6, .int .i64 (j : Nat)] ∧ j ≤ n ∧ Grow eB 1 w.heap.size 5 w' a6 j c6 l ∧ Src w' a0 (k + 4 * j) ∧ Mod (blkIn a0) w w') (fun j => n - j) tab tabok (by kernel_rfl) 0
    ⟨_, _, _, rfl, by omega, G2, h.ext e2, e2.mod⟩ ?_
  rintro j g _ w5 ⟨a6, c6, l, rfl, hj, hG, hS, hM⟩
  have lnG := hG.len
  rcases Nat.lt_or_ge j n with hjn | hjn
  · conv => whnf
    refine IfB.yes (by omega) ?_
    conv => whnf
    refine (spec_one hS (by omega) (by omega)).mono ?_
    rintro _ w10 ⟨r7, rfl, S8, m9⟩
    conv => whnf
    with_reducible refine IfB.split (fun h11 => ?_) (fun h11 => ?_)
    · conv => whnf
      refine (spec_pick S8 (by omega) (by omega)).mono ?_
      rintro _ w18 ⟨r12, rfl, q13, q14, q15, S16, m17⟩
      conv => whnf
      obtain ⟨d19, hd19⟩ : ∃ d, ch.data.toList[(r12).toNat]? = some d := get_of_lt (by simp only [data_len]; omega)
      refine SemK.char (by kernel_rfl) (r12).toNat (by omega) hd19 ?_
      conv => whnf
      refine SemK.buildSlice mk_22 (vs := [Value.int IntKind.u8 ↑d19.toNat]) (by rfl) (by rfl) (by simp [Value.cells]) (by decide) ?_
      intro b20 w20 g20 l20 e20 B20
      have G20 := Grow.of_blk (n := 1) (enc := eB) (xs := [d19]) eB_len (by simpa [flat, cellsOf, Value.cells, eB] using B20) g20 rfl (by decide)
      conv => whnf
      refine SemK.appendArr0 (enc := eB) mk_22 eB_len (((hG.mod m9 (apart' hG.new h.lt (Nat.le_refl _))).mod m17 (apart' hG.new h.lt (Nat.le_refl _))).ext e20) (G20.own.arr eB_len) (by intro y _; simp [eB, cellish]) (by omega) (by omega) (Nat.le_trans (Mod.size ((hM.trans m9).trans m17)) (Below.size e20)) ?_
      intro a21 c21 w21 G21 m21 i21
      conv => whnf
      refine SemK.add (((j + 1 : Nat) : Int)) (by omega) (by omega) (by omega) ?_
      conv => whnf
      exact ⟨j + 1, by omega, _, _, _, rfl, by omega, G21, ((S16.ext e20).mod m21 (later h.lt hG.new (Nat.le_refl _))).more (by omega), (((hM.trans m9).trans m17).trans e20.mod).trans_new m21 (fun k hk => blkIn_new hG.new k hk)⟩
    · conv => whnf
      refine (spec_pick S8 (by omega) (by omega)).mono ?_
      rintro _ w28 ⟨r22, rfl, q23, q24, q25, S26, m27⟩
      obtain ⟨d19, hd19⟩ := get_of_lt (l := (⟨#[65, 66, 48, 49, 32, 74, 90]⟩ : ByteArray).data.toList) (k := r22.toNat) (by show _ < 7; omega)
      conv => whnf
      refine SemK.char (by kernel_rfl) r22.toNat (by omega) hd19 ?_
      conv => whnf
      refine SemK.buildSlice mk_22 (vs := [Value.int IntKind.u8 ↑d19.toNat]) (by rfl) (by rfl) (by simp [Value.cells]) (by decide) ?_
      intro b20 w20 g20 l20 e20 B20
      have G20 := Grow.of_blk (n := 1) (enc := eB) (xs := [d19]) eB_len (by simpa [flat, cellsOf, Value.cells, eB] using B20) g20 rfl (by decide)
      conv => whnf
      refine SemK.appendArr0 (enc := eB) mk_22 eB_len (((hG.mod m9 (apart' hG.new h.lt (Nat.le_refl _))).mod m27 (apart' hG.new h.lt (Nat.le_refl _))).ext e20) (G20.own.arr eB_len) (by intro y _; simp [eB, cellish]) (by omega) (by omega) (Nat.le_trans (Mod.size ((hM.trans m9).trans m27)) (Below.size e20)) ?_
      intro a21 c21 w21 G21 m21 i21
      conv => whnf
      refine SemK.add (((j + 1 : Nat) : Int)) (by omega) (by omega) (by omega) ?_
      conv => whnf
      exact ⟨j + 1, by omega, _, _, _, rfl, by omega, G21, ((S26.ext e20).mod m21 (later h.lt hG.new (Nat.le_refl _))).more (by omega), (((hM.trans m9).trans m27).trans e20.mod).trans_new m21 (fun k hk => blkIn_new hG.new k hk)⟩
  · conv => whnf
    refine IfB.no (by omega) ?_
    conv => whnf
    refine SemK.toStrG (by kernel_rfl) (by kernel_rfl) hG ?_
    conv => whnf
    exact ⟨_, rfl, by rw [bs_size, lnG]; omega, hS.more (by omega), hM⟩
theorem spec_l07WidthOf {w : World} {a : Option Addr} {n c : Nat} {ds : List Hd} (h : Arr eH 1 w a n ds) (hd : ∀ d ∈ ds, d.n ≤ 1000) :
    Does Tryz.prog 158 [.slice a n c] w (fun v w' => ∃ r : Nat, v = .int .i64 (r : Nat) ∧ r ≤ 1000 ∧ Ext w w') := by
  have hl := h.len
  have hm := h.le
  refine Does.of_vc tabok Tryz.func158 rfl rfl rfl (by kernel_rfl) ?_; conv => whnf
  with_reducible refine IfB.dec (fun h1 => ?_) (fun h1 => ?_)
  · conv => whnf
    exact ⟨_, rfl, by simp [*], Ext.refl _⟩
  · conv => whnf
    obtain ⟨x2, hx2⟩ : ∃ x, ds[0]? = some x := get_of_lt (by omega)
    have ok2 := hd _ (List.mem_of_getElem? hx2)
    refine SemK.index (by kernel_rfl) h 0 rfl hx2 ?_
    intro b3 o3 ha3 hb3
    conv => whnf
    refine SemK.load1 (by kernel_rfl) hb3 (k := 0) rfl ?_
    conv => whnf
    exact ⟨_, rfl, by omega, Ext.refl _⟩
theorem spec_l00MaxN (a b : Int) (w : World) : Does Tryz.prog 201 [.int .i64 a, .int .i64 b] w (fun v w' => ∃ r : Int, v = .int .i64 r ∧ a ≤ r ∧ b ≤ r ∧ (r = a ∨ r = b) ∧ w = w') := by
  refine Does.of_vc tabok Tryz.func201 rfl rfl rfl (by kernel_rfl) ?_; conv => whnf
  with_reducible refine IfB.dec (fun h1 => ?_) (fun h1 => ?_)
  · conv => whnf
    exact ⟨_, rfl, by omega, by omega, by omega, rfl⟩
  · conv => whnf
    exact ⟨_, rfl, by omega, by omega, by omega, rfl⟩
theorem spec_l02DrawField0 {w : World} {a0 : Option Addr} {k : Nat} (h : Src w a0 k) (hk : k ≤ 900000) (wd : Nat) (hw : wd ≤ 1000) :
    Does Tryz.prog 157 [.pointer a0, .int .i64 (wd : Nat)] w (fun v w' => ∃ p q : Int, v = .agg #[.int .i64 p, .int .i64 q] ∧ i64ok p ∧ i64ok q ∧ Src w' a0 (k + 20) ∧ Mod (blkIn a0) w w') := by
  have hMax := fun b u => spec_l00MaxN 1 b u
  refine Does.of_vc tabok Tryz.func157 rfl rfl rfl (by kernel_rfl) ?_; conv => whnf
  refine SemK.alloc (z := .agg #[.int .i64 0, .int .i64 0]) (by kernel_rfl) ?_
  intro b1 w1 g1 l1 e1 B1
  conv => whnf
  refine (spec_one (h.ext e1) (by omega) (by omega)).mono ?_
  rintro _ w5 ⟨r2, rfl, S3, m4⟩
  conv => whnf
  with_reducible refine IfB.split (fun h6 => ?_) (fun h6 => ?_)
  · conv => whnf
    refine SemK.buildSlice mk_41 (vs := [Value.int IntKind.i64 (-1), Value.int IntKind.i64 0, Value.int IntKind.i64 1, Value.int IntKind.i64 ↑wd, Value.int IntKind.i64 9223372036854775807, Value.int IntKind.i64 (-9223372036854775808)]) (by rfl) (by rfl) (by simp [Value.cells]) (by decide) ?_
    intro b7 w7 g7 l7 e7 B7
    have G7 := Grow.of_blk (n := 6) (enc := eI) (xs := [-1, 0, 1, ↑wd, 9223372036854775807, -9223372036854775808]) eI_len B7 g7 rfl (by decide)
    conv => whnf
    refine (spec_among (S3.ext e7) (by omega) (G7.own.arr eI_len) (apart' G7.new h.lt (Nat.le_trans (Below.size e1) (Mod.size m4))) (by omega) (by omega)).mono ?_
    rintro _ w12 ⟨r8, rfl, q9, S10, m11⟩
    conv => whnf
    refine SemK.add (((wd + 1 : Nat) : Int)) (by omega) (by omega) (by omega) ?_
    conv => whnf
    refine SemK.buildSlice mk_41 (vs := [Value.int IntKind.i64 0, Value.int IntKind.i64 1, Value.int IntKind.i64 ↑wd, Value.int IntKind.i64 ↑(wd + 1), Value.int IntKind.i64 9223372036854775807]) (by rfl) (by rfl) (by simp [Value.cells]) (by decide) ?_
    intro b13 w13 g13 l13 e13 B13
    have G13 := Grow.of_blk (n := 5) (enc := eI) (xs := [0, 1, ↑wd, ↑(wd + 1), 9223372036854775807]) eI_len B13 g13 rfl (by decide)
    conv => whnf
    refine (spec_among (S10.ext e13) (by omega) (G13.own.arr eI_len) (apart' G13.new h.lt (Nat.le_trans (Nat.le_trans (Nat.le_trans (Below.size e1) (Mod.size m4)) (Below.size e7)) (Mod.size m11))) (by omega) (by omega)).mono ?_
    rintro _ w18 ⟨r14, rfl, q15, S16, m17⟩
    conv => whnf
    refine SemK.build st_26 rfl ?_
    conv => whnf
    refine SemK.storeAll (vs := [Value.int IntKind.i64 r8, Value.int IntKind.i64 r14]) (by kernel_rfl) (((((B1.mod m4 (blkNew h.lt g1 (Nat.le_refl _))).ext e7).mod m11 (blkNew h.lt g1 (Nat.le_refl _))).ext e13).mod m17 (blkNew h.lt g1 (Nat.le_refl _))) rfl rfl (by simp [cellish]) ?_
    intro w19 c19 B19
    conv => whnf
    refine CellK.of (run_loadAgg (n := 2) (by kernel_rfl) rfl B19.cells) ?_
    conv => whnf
    refine ⟨_, _, rfl, ?_, ?_, ((S16.chg c19 h.lt g1 (Nat.le_refl _)).more (by omega)), ((((((e1.mod.trans m4).trans e7.mod).trans m11).trans e13.mod).trans m17).trans_new c19.but (fun k hk => Nat.le_trans (Nat.le_refl _) (Nat.le_trans g1 (Nat.le_of_eq hk.symm))))⟩
    · simp only [List.mem_cons, List.not_mem_nil, or_false] at q9
      simp only [i64ok]
      omega
    · simp only [List.mem_cons, List.not_mem_nil, or_false] at q15
      simp only [i64ok]
      omega
  · conv => whnf
    refine (hMax _ _).mono ?_
    rintro _ _ ⟨r20, rfl, q21, q22, q23, rfl⟩
    conv => whnf
    refine (spec_pick S3 (by omega) (by omega)).mono ?_
    rintro _ w31 ⟨r25, rfl, q26, q27, q28, S29, m30⟩
    conv => whnf
    refine SemK.add _ rfl (by omega) (by omega) ?_
    conv => whnf
    refine SemK.sub _ rfl (by omega) (by omega) ?_
    conv => whnf
    refine (hMax _ _).mono ?_
    rintro _ _ ⟨r32, rfl, q33, q34, q35, rfl⟩
    conv => whnf
    refine (spec_pick S29 (by omega) (by omega)).mono ?_
    rintro _ w43 ⟨r37, rfl, q38, q39, q40, S41, m42⟩
    conv => whnf
    refine SemK.add _ rfl (by omega) (by omega) ?_
    conv => whnf
    refine SemK.build st_26 rfl ?_
    conv => whnf
    refine SemK.storeAll (vs := [Value.int IntKind.i64 r25, Value.int IntKind.i64 (r25 + 1 + r37)]) (by kernel_rfl) (((B1.mod m4 (blkNew h.lt g1 (Nat.le_refl _))).mod m30 (blkNew h.lt g1 (Nat.le_refl _))).mod m42 (blkNew h.lt g1 (Nat.le_refl _))) rfl rfl (by simp [cellish]) ?_
    intro w44 c44 B44
    conv => whnf
    refine CellK.of (run_loadAgg (n := 2) (by kernel_rfl) rfl B44.cells) ?_
    conv => whnf
    refine ⟨_, _, rfl, ?_, ?_, ((S41.chg c44 h.lt g1 (Nat.le_refl _)).more (by omega)), ((((e1.mod.trans m4).trans m30).trans m42).trans_new c44.but (fun k hk => Nat.le_trans (Nat.le_refl _) (Nat.le_trans g1 (Nat.le_of_eq hk.symm))))⟩
    · simp only [i64ok]; omega
    · simp only [i64ok]; omega
theorem spec_l02DrawField {w : World} {a0 : Option Addr} {k : Nat} (h : Src w a0 k) (hk : k ≤ 900000) (wd : Nat) (hw : wd ≤ 1000) :
    Does Tryz.prog 157 [.pointer a0, .int .i64 (wd : Nat)] w (fun v w' => ∃ f : TField, v = .agg ⟨f.enc⟩ ∧ f.ok ∧ Src w' a0 (k + 20) ∧ Mod (blkIn a0) w w') :=
  (spec_l02DrawField0 h hk wd hw).mono fun _ _ ⟨p, q, h1, h2, h3, h4, h5⟩ => ⟨⟨p, q⟩, h1, ⟨h2, h3⟩, h4, h5⟩
theorem spec_l13Card {w : World} {a0 : Option Addr} {k : Nat} (h : Src w a0 k) (hk : k ≤ 900000) :
    Does Tryz.prog 200 [.pointer a0] w (fun v w' => ∃ d : Hd, v = .agg ⟨eH d⟩ ∧ HdOk 2 w.heap.size w' d ∧ Src w' a0 (k + 20) ∧ Mod (blkIn a0) w w') := by
  refine Does.of_vc tabok Tryz.func200 rfl rfl rfl (by kernel_rfl) ?_; conv => whnf
  refine SemK.alloc (z := .agg #[.slice none 0 0]) (by kernel_rfl) ?_
  intro b1 w1 g1 l1 e1 B1
  conv => whnf
  refine (spec_pick (h.ext e1) (by omega) (by omega)).mono ?_
  rintro _ w8 ⟨r2, rfl, q3, q4, q5, S6, m7⟩
  have ht3 : (⟨#[65, 66, 49]⟩ : ByteArray).size = 3 := rfl
  conv => whnf
  refine SemK.sliceStr (by kernel_rfl) r2.toNat 3 (by omega) (by omega) (k := .i64) (k' := .i64) (.inr (congrArg some (congrArg (Value.int .i64) (by omega)))) (.inl ⟨rfl, rfl⟩) ?_
  have hez := extract_size (⟨#[65, 66, 49]⟩ : ByteArray) r2.toNat 3 (by omega)
  generalize (⟨#[65, 66, 49]⟩ : ByteArray).extract r2.toNat 3 = s1 at hez
  conv => whnf
  refine SemK.sliceStr (by kernel_rfl) 0 1 (by omega) (by omega) (k := .i64) (k' := .i64) (.inl ⟨rfl, rfl⟩) (.inr rfl) ?_
  have hez2 := extract_size s1 0 1 (by omega)
  generalize s1.extract 0 1 = s2 at hez2
  conv => whnf
  refine SemK.cat (by have : (⟨#[48, 48, 48, 48]⟩ : ByteArray).size = 4 := rfl; omega) ?_
  have hcz : (s2 ++ ⟨#[48, 48, 48, 48]⟩).size = 5 := by rw [ByteArray.size_append]; have : (⟨#[48, 48, 48, 48]⟩ : ByteArray).size = 4 := rfl; omega
  conv => whnf
  refine (spec_l03Card (s2 ++ ⟨#[48, 48, 48, 48]⟩) (by omega) _).mono ?_
  rintro _ w42 ⟨⟨da, dn, dc⟩, ys, rfl, hdn, hR, e42⟩
  have hd7 : dn = 5 := by
    simp only [hcz] at hdn
    exact hdn
  subst hd7
  obtain ⟨ba, rfl⟩ := hR.own.some (by show 0 < 5; omega)
  simp only at hR
  conv => whnf
  refine SemK.alloc (z := .agg #[.slice none 0 0]) (by kernel_rfl) ?_
  intro b43 w43 g43 l43 e43 B43
  conv => whnf
  refine SemK.storeAll (vs := [Value.slice (some ⟨ba, 0, none⟩) 5 dc]) (by kernel_rfl) B43 rfl rfl (by simp [cellish]) ?_
  intro w44 c44 B44
  have lb1 : b1 < w8.heap.size := by have := Mod.size m7; omega
  have nb1 := blkNew h.lt g1 (Nat.le_refl _)
  have E44 := Ext.but_trans (Ext.trans e42 e43) c44.but (Nat.le_trans (Below.size e42) g43)
  have nb := blkNew S6.lt g43 (Below.size e42)
  have hR44 := (hR.ext e43).mod c44.but (apartChg hR.lt g43 (Nat.le_refl _))
  have apR := apart' hR.new S6.lt (Nat.le_refl _)
  conv => whnf
  refine (spec_pick (S6.ext E44) (by omega) (by omega)).mono ?_
  rintro _ w45 ⟨r45, rfl, q45, q46, q47, S45, m45⟩
  conv => whnf
  refine (spec_l03Put r45 (by omega) 2 (by omega) (by omega) w45).mono ?_
  rintro _ w46 ⟨pa, pc, zs, pb, rfl, hP46, e46⟩
  conv => whnf
  refine (spec_pick (S45.ext e46) (by omega) (by omega)).mono ?_
  rintro _ w47 ⟨r47, rfl, q48, q49, q50, S47, m47⟩
  conv => whnf
  refine SemK.sub _ rfl (by omega) (by omega) ?_
  conv => whnf
  refine (spec_l03Put (r47 - 30) (by omega) 2 (by omega) (by omega) w47).mono ?_
  rintro _ w48 ⟨pa2, pc2, zs2, pb2, rfl, hP48, e48⟩
  have M48 := ((((e1.mod.trans m7).trans E44.mod).trans m45).trans e46.mod).trans m47 |>.trans e48.mod
  have hR45 := hR44.mod m45 apR
  have hR48 := ((hR45.ext e46).mod m47 apR).ext e48
  have hP47 := (hP46.mod m47 (apart' hP46.new S45.lt (Nat.le_refl _))).ext e48
  have B48 := ((((B44.mod m45 nb).ext e46).mod m47 nb).ext e48)
  have C48 := ((((((B1.mod m7 nb1).ext E44).mod m45 nb1).ext e46).mod m47 nb1).ext e48)
  have S48 := S47.ext e48
  have ne1 : b1 ≠ ba := by have := hR.new _ rfl; have h9 : w8.heap.size ≤ ba := this; omega
  have ne43 : b43 ≠ ba := by have := hR.lt _ rfl; have h9 : ba < w42.heap.size := this; omega
  have hpa : ∀ x, pa = some x → x.block ≠ ba := fun x hx e => by have h1 := hP46.new x hx; have h2 := hR45.lt _ rfl; have h3 : ba < w45.heap.size := h2; omega
  have hpa2 : ∀ x, pa2 = some x → x.block ≠ ba := fun x hx e => by have h1 := hP48.new x hx; have h2 := hR45.lt _ rfl; have h3 : ba < w45.heap.size := h2; have := Below.size e46; have := Mod.size m47; omega
  have lz := hP46.len
  have lz2 := hP48.len
  conv => whnf
  refine LoopK.rule [2, 3, 4, 6, 8] (fun (j : Nat) vs w' => ∃ ys' : List Int, vs = [.pointer (some ⟨b1, 0, none⟩), .pointer (some ⟨b43, 0, none⟩), .slice pa 2 pc, .slice pa2 2 pc2, .int .i64 j] ∧ j ≤ 2 ∧ Blk w' b1 [.slice none 0 0] 85 ∧ Blk w' b43 [.slice (some ⟨ba, 0, none⟩) 5 dc] 85 ∧ Grow eI 1 w8.heap.size 2 w' (some ⟨ba, 0, none⟩) 5 dc ys' ∧ Arr eI 1 w' pa 2 zs ∧ Arr eI 1 w' pa2 2 zs2 ∧ Mod (fun k => k = ba) w48 w') (fun j => 2 - j) tab tabok (by kernel_rfl) 0
    ⟨_, rfl, by omega, C48, B48, hR48, hP47.own.arr eI_len, hP48.own.arr eI_len, Mod.refl _ _⟩ ?_
  rintro j g _ w50 ⟨ys5, rfl, hj, hC, hB, hY, hA1, hA2, hM⟩
  have ly := hY.len
  have S50 := S48.mod (hM.mono (fun k hk => ⟨⟨ba, 0, none⟩, rfl, hk⟩)) (later S6.lt hR.new (Nat.le_refl _))
  rcases Nat.lt_or_ge j 2 with hj2 | hj2
  · obtain ⟨z1, hz1⟩ := get_of_lt (l := zs) (k := j) (by omega)
    obtain ⟨z2, hz2⟩ := get_of_lt (l := zs2) (k := j) (by omega)
    obtain ⟨y1, hy1⟩ := get_of_lt (l := ys5) (k := 1 + j) (by omega)
    obtain ⟨y3, hy3⟩ := get_of_lt (l := ys5.set (1 + j) z1) (k := 3 + j) (by simp; omega)
    conv => whnf
    refine IfB.yes (by omega) ?_
    conv => whnf
    refine DrawK.writes tabok mixed [(0, .any), (2, .any), (3, .any), (4, .any), (5, .any), (6, .any), (1, .held), (7, .held), (8, .any), (9, .write)] (by kernel_rfl) (by kernel_rfl) ?_
    conv => whnf
    intro w51 e51
    conv => whnf
    refine PSemK.add (((1 + j : Nat) : Int)) (by omega) (by omega) (by omega) ?_
    conv => whnf
    refine PSemK.index (by kernel_rfl) hA1 j rfl hz1 ?_
    intro b51 o51 ha51 hb51
    conv => whnf
    refine DSemK.load1 (by kernel_rfl) hB.cells (k := 0) rfl ?_
    conv => whnf
    refine DSemK.load0 (by kernel_rfl) hb51 rfl ?_
    conv => whnf
    refine PSemK.indexOwn (sz := 1) (by kernel_rfl) (1 + j) rfl (by omega) ?_
    conv => whnf
    refine SemK.storeGrow1 (k := 1 + j) (j := 0) (by kernel_rfl) eI_len (hY.ext e51) hy1 (by decide) rfl z1 rfl ?_
    intro w52 c52 Y52
    conv => whnf
    have hC52 := (hC.ext e51).mod c52.but ne1
    have hB52 := (hB.ext e51).mod c52.but ne43
    have hA52 := (hA1.ext e51).mod c52.but (fun x hx e => hpa x hx e)
    have hD52 := (hA2.ext e51).mod c52.but (fun x hx e => hpa2 x hx e)
    have hM52 := (hM.trans e51.mod).trans c52.but
    refine DrawK.writes tabok mixed [(0, .any), (2, .any), (3, .any), (4, .any), (5, .any), (6, .any), (1, .held), (7, .held), (8, .any), (9, .write)] (by kernel_rfl) (by kernel_rfl) ?_
    conv => whnf
    intro w53 e53
    conv => whnf
    refine PSemK.add (((3 + j : Nat) : Int)) (by omega) (by omega) (by omega) ?_
    conv => whnf
    refine PSemK.index (by kernel_rfl) hD52 j rfl hz2 ?_
    intro b53 o53 ha53 hb53
    conv => whnf
    refine DSemK.load1 (by kernel_rfl) hB52.cells (k := 0) rfl ?_
    conv => whnf
    refine DSemK.load0 (by kernel_rfl) hb53 rfl ?_
    conv => whnf
    refine PSemK.indexOwn (sz := 1) (by kernel_rfl) (3 + j) rfl (by omega) ?_
    conv => whnf
    refine SemK.storeGrow1 (k := 3 + j) (j := 0) (by kernel_rfl) eI_len (Y52.ext e53) hy3 (by decide) rfl z2 rfl ?_
    intro w54 c54 Y54
    conv => whnf
    refine SemK.add (((j + 1 : Nat) : Int)) (by omega) (by omega) (by omega) ?_
    conv => whnf
    exact ⟨j + 1, by omega, _, rfl, by omega, (hC52.ext e53).mod c54.but ne1, (hB52.ext e53).mod c54.but ne43, Y54, (hA52.ext e53).mod c54.but (fun x hx e => hpa x hx e), (hD52.ext e53).mod c54.but (fun x hx e => hpa2 x hx e), (hM52.trans e53.mod).trans c54.but⟩
  · conv => whnf
    refine IfB.no (by omega) ?_
    conv => whnf
    refine SemK.loadAgg (n := 1) (by kernel_rfl) hB.cells rfl ?_
    conv => whnf
    refine SemK.storeAll (vs := [Value.slice (some { block := ba, off := 0 }) 5 dc]) (by kernel_rfl) hC rfl rfl (by simp [cellish]) ?_
    intro w51 c51 B51
    conv => whnf
    refine CellK.of (run_loadAgg (n := 1) (by kernel_rfl) rfl B51.cells) ?_
    conv => whnf
    exact ⟨⟨some ⟨ba, 0, none⟩, 5, dc⟩, rfl, ⟨_, (hY.mod c51.but (fun y hy e => by cases hy; exact ne1 e.symm)).base (Nat.le_trans (Below.size e1) (Mod.size m7)), by show 5 ≤ 1000; omega⟩, (S50.chg c51 h.lt g1 (Nat.le_refl _)).more (by omega), (M48.trans_new hM (fun k hk => Nat.le_trans (Nat.le_trans (Below.size e1) (Mod.size m7)) (Nat.le_trans (hR.new _ rfl) (Nat.le_of_eq hk.symm)))).trans_new c51.but (fun k hk => Nat.le_trans g1 (Nat.le_of_eq hk.symm))⟩
theorem spec_l13Deck {w : World} {a0 : Option Addr} {k : Nat} (h : Src w a0 k) (hk : k ≤ 800000) {most : Nat} (hm : most ≤ 40) :
    Does Tryz.prog 156 [.pointer a0, .int .i64 (most : Nat)] w (fun v w' => ∃ (a' : Option Addr) (n' c' : Nat) (ds : List Hd), v = .slice a' n' c' ∧ n' ≤ most ∧ Grow eH 1 w.heap.size 85 w' a' n' c' ds ∧ HdsOk 2 w.heap.size w' ds ∧ Src w' a0 (k + 1000) ∧ Mod (blkIn a0) w w') := by
  refine Does.of_vc tabok Tryz.func156 rfl rfl rfl (by kernel_rfl) ?_; conv => whnf
  refine SemK.buildSlice mk_24 (vs := []) (by rfl) (by rfl) (by simp [Value.cells]) (by decide) ?_
  intro b1 w1 g1 l1 e1 B1
  have G1 := Grow.new0 (enc := eH) eH_len B1 g1
  conv => whnf
  refine SemK.add (((most + 1 : Nat) : Int)) (by omega) (by omega) (by omega) ?_
  conv => whnf
  refine (spec_pick (h.ext e1) (by omega) (by omega)).mono ?_
  rintro _ w2 ⟨r2, rfl, q3, q4, q5, S6, m7⟩
  conv => whnf
  refine LoopK.rule [0, 5, 6] (fun (j : Int) vs w' => ∃ a7 n7 c7 ds, vs = [.pointer a0, .slice a7 n7 c7, .int .i64 j] ∧ 0 ≤ j ∧ n7 + j ≤ most ∧ Grow eH 1 w.heap.size 85 w' a7 n7 c7 ds ∧ HdsOk 2 w.heap.size w' ds ∧ Src w' a0 (k + 10 + 20 * n7) ∧ Mod (blkIn a0) w w') (fun j => j.toNat) tab tabok (by kernel_rfl) r2
    ⟨_, _, _, _, rfl, by omega, by omega, G1.mod m7 (apart' G1.new h.lt (Nat.le_refl _)), HdsOk.nil, S6.more (by omega), e1.mod.trans m7⟩ ?_
  rintro j g _ w8 ⟨a7, n7, c7, ds, rfl, hj, hn7, hG, hH, hS, hM⟩
  have lnG := hG.len
  conv => whnf
  with_reducible refine IfB.dec (fun h26 => ?_) (fun h26 => ?_)
  · conv => whnf
    refine (spec_l13Card hS (by omega)).mono ?_
    rintro _ w9 ⟨⟨da, dn, dc⟩, rfl, hD, S9, m9⟩
    conv => whnf
    refine SemK.buildSlice mk_24 (vs := [.agg #[.slice da dn dc]]) (by rfl) (by rfl) (by simp [Value.cells]) (by decide) ?_
    intro b60 w60 g60 l60 e60 B60
    have G60 := Grow.of_blk (n := 1) (enc := eH) (xs := [⟨da, dn, dc⟩]) eH_len B60 g60 rfl (by decide)
    have hGf := hG.mod m9 (apart' hG.new h.lt (Nat.le_refl _))
    have hHf := (hH.src hS m9 h.lt).snoc (hD.le (Mod.size hM))
    conv => whnf
    refine SemK.appendArr0 (enc := eH) mk_24 eH_len (hGf.ext e60) (G60.own.arr eH_len) (by intro y _; simp [eH, cellish]) (by omega) (by omega) (Nat.le_trans (Mod.size (hM.trans m9)) (Below.size e60)) ?_
    intro a61 c61 w61 G61 m61 i61
    conv => whnf
    refine SemK.sub _ rfl (by omega) (by omega) ?_
    conv => whnf
    exact ⟨j - 1, by omega, _, _, _, _, rfl, by omega, by omega, G61, (hHf.ext e60).apart (hGf.ext e60) (by omega) m61, (((S9).ext e60).mod m61 (later h.lt hG.new (Nat.le_refl _))).more (by omega), ((hM.trans m9).trans e60.mod).trans_new m61 (fun k hk => blkIn_new hG.new k hk)⟩
  · conv => whnf
    exact ⟨_, _, _, _, rfl, by omega, hG, hH, hS.more (by omega), hM⟩
theorem spec_l07Draw {w : World} {a0 : Option Addr} {k : Nat} (h : Src w a0 k) (hk : k ≤ 800000) {wd most : Nat} (hw : wd ≤ 100) (hm : most ≤ 40) :
    Does Tryz.prog 199 [.pointer a0, .int .i64 (wd : Nat), .int .i64 (most : Nat)] w (fun v w' => ∃ (a' : Option Addr) (n' c' : Nat) (ds : List Hd), v = .slice a' n' c' ∧ n' ≤ most ∧ Grow eH 1 w.heap.size 85 w' a' n' c' ds ∧ HdsOk 2 w.heap.size w' ds ∧ Src w' a0 (k + 20000) ∧ Mod (blkIn a0) w w') := by
  refine Does.of_vc tabok Tryz.func199 rfl rfl rfl (by kernel_rfl) ?_; conv => whnf
  refine SemK.buildSlice mk_24 (vs := []) (by rfl) (by rfl) (by simp [Value.cells]) (by decide) ?_
  intro b1 w1 g1 l1 e1 B1
  have G1 := Grow.new0 (enc := eH) eH_len B1 g1
  conv => whnf
  refine SemK.add (((most + 1 : Nat) : Int)) (by omega) (by omega) (by omega) ?_
  conv => whnf
  refine (spec_pick (h.ext e1) (by omega) (by omega)).mono ?_
  rintro _ w2 ⟨r2, rfl, q3, q4, q5, S6, m7⟩
  conv => whnf
  refine LoopK.rule [0, 1, 7, 8] (fun (j : Int) vs w' => ∃ a7 n7 c7 ds, vs = [.pointer a0, .int .i64 (wd : Nat), .slice a7 n7 c7, .int .i64 j] ∧ 0 ≤ j ∧ n7 + j ≤ most ∧ Grow eH 1 w.heap.size 85 w' a7 n7 c7 ds ∧ HdsOk 2 w.heap.size w' ds ∧ Src w' a0 (k + 10 + 410 * n7) ∧ Mod (blkIn a0) w w') (fun j => j.toNat) tab tabok (by kernel_rfl) r2
    ⟨_, _, _, _, rfl, by omega, by omega, G1.mod m7 (apart' G1.new h.lt (Nat.le_refl _)), HdsOk.nil, S6.more (by omega), e1.mod.trans m7⟩ ?_
  rintro j g _ w8 ⟨a7, n7, c7, ds, rfl, hj, hn7, hG, hH, hS, hM⟩
  have lnG := hG.len
  conv => whnf
  with_reducible refine IfB.dec (fun h26 => ?_) (fun h26 => ?_)
  · have hText : ∀ (u : World) (kk : Nat), Src u a0 kk → kk ≤ 900000 → Mod (blkIn a0) w u → Grow eH 1 w.heap.size 85 u a7 n7 c7 ds → HdsOk 2 w.heap.size u ds → True := fun _ _ _ _ _ _ _ => trivial
    clear hText
    conv => whnf
    with_reducible refine IfB.dec (fun h27 => ?_) (fun h27 => ?_)
    · conv => whnf
      refine (spec_one hS (by omega) (by omega)).mono ?_
      rintro _ w9 ⟨r9, rfl, S9, m9⟩
      have hG9 := hG.mod m9 (apart' hG.new h.lt (Nat.le_refl _))
      have hH9 := hH.src hS m9 h.lt
      have hM9 := hM.trans m9
      conv => whnf
      with_reducible refine IfB.split (fun h28 => ?_) (fun h28 => ?_)
      · obtain ⟨bd, rfl⟩ := hG9.own.some (by omega)
        conv => whnf
        refine (spec_pick S9 (by omega) (by omega)).mono ?_
        rintro _ w10 ⟨r10, rfl, q12, q13, q14, S10, m10⟩
        obtain ⟨d, hd⟩ := get_of_lt (l := ds) (k := r10.toNat) (by omega)
        have hG10 := hG9.mod m10 (apart' hG.new h.lt (Nat.le_refl _))
        have hH10 := hH9.src S9 m10 h.lt
        obtain ⟨ys, Gd, hdn⟩ := hH10 d (List.mem_of_getElem? hd)
        conv => whnf
        refine SemK.indexOwn (sz := 1) (by kernel_rfl) r10.toNat (by omega) (by omega) ?_
        conv => whnf
        refine (spec_l02Own (Own.elem eH_len hG10.own hd) (Gd.own.arr eI_len) hdn).mono ?_
        rintro _ w11 ⟨a11, c11, rfl, G11, e11⟩
        conv => whnf
        refine SemK.buildSlice mk_24 (vs := [.agg #[.slice a11 d.n c11]]) (by rfl) (by rfl) (by simp [Value.cells]) (by decide) ?_
        intro b60 w60 g60 l60 e60 B60
        have G60 := Grow.of_blk (n := 1) (enc := eH) (xs := [⟨a11, d.n, c11⟩]) eH_len B60 g60 rfl (by decide)
        have hGf := hG10.ext e11
        have hHf := (hH10.ext e11).snoc (d := ⟨a11, d.n, c11⟩) ⟨ys, G11.base (Mod.size (hM9.trans m10)), hdn⟩
        conv => whnf
        refine SemK.appendArr0 (enc := eH) mk_24 eH_len (hGf.ext e60) (G60.own.arr eH_len) (by intro y _; simp [eH, cellish]) (by omega) (by omega) (Nat.le_trans (Mod.size ((hM9.trans m10).trans e11.mod)) (Below.size e60)) ?_
        intro a61 c61 w61 G61 m61 i61
        conv => whnf
        refine SemK.sub _ rfl (by omega) (by omega) ?_
        conv => whnf
        exact ⟨j - 1, by omega, _, _, _, _, rfl, by omega, by omega, G61, (hHf.ext e60).apart (hGf.ext e60) (by omega) m61, (((S10.ext e11).ext e60).mod m61 (later h.lt hG.new (Nat.le_refl _))).more (by omega), (((hM9.trans m10).trans e11.mod).trans e60.mod).trans_new m61 (fun k hk => blkIn_new hG.new k hk)⟩
      · conv => whnf
        refine (spec_l03DrawText S9 (by omega) wd hw).mono ?_
        rintro _ w12 ⟨s12, rfl, hs12, S12, m12⟩
        conv => whnf
        refine (spec_l03Card s12 (by omega) _).mono ?_
        rintro _ w13 ⟨⟨da, dn, dc⟩, ys, rfl, hdn, hR, e13⟩
        simp only at hdn hR
        conv => whnf
        refine SemK.buildSlice mk_24 (vs := [.agg #[.slice da dn dc]]) (by rfl) (by rfl) (by simp [Value.cells]) (by decide) ?_
        intro b60 w60 g60 l60 e60 B60
        have G60 := Grow.of_blk (n := 1) (enc := eH) (xs := [⟨da, dn, dc⟩]) eH_len B60 g60 rfl (by decide)
        have hGf := (hG9.mod m12 (apart' hG.new h.lt (Nat.le_refl _))).ext e13
        have hHf := ((hH9.src S9 m12 h.lt).ext e13).snoc (d := ⟨da, dn, dc⟩) ⟨ys, hR.base (Mod.size (hM9.trans m12)), by show dn ≤ 1000; omega⟩
        conv => whnf
        refine SemK.appendArr0 (enc := eH) mk_24 eH_len (hGf.ext e60) (G60.own.arr eH_len) (by intro y _; simp [eH, cellish]) (by omega) (by omega) (Nat.le_trans (Mod.size ((hM9.trans m12).trans e13.mod)) (Below.size e60)) ?_
        intro a61 c61 w61 G61 m61 i61
        conv => whnf
        refine SemK.sub _ rfl (by omega) (by omega) ?_
        conv => whnf
        exact ⟨j - 1, by omega, _, _, _, _, rfl, by omega, by omega, G61, (hHf.ext e60).apart (hGf.ext e60) (by omega) m61, (((S12.ext e13).ext e60).mod m61 (later h.lt hG.new (Nat.le_refl _))).more (by omega), (((hM9.trans m12).trans e13.mod).trans e60.mod).trans_new m61 (fun k hk => blkIn_new hG.new k hk)⟩
    · conv => whnf
      refine (spec_l03DrawText hS (by omega) wd hw).mono ?_
      rintro _ w12 ⟨s12, rfl, hs12, S12, m12⟩
      conv => whnf
      refine (spec_l03Card s12 (by omega) _).mono ?_
      rintro _ w13 ⟨⟨da, dn, dc⟩, ys, rfl, hdn, hR, e13⟩
      simp only at hdn hR
      conv => whnf
      refine SemK.buildSlice mk_24 (vs := [.agg #[.slice da dn dc]]) (by rfl) (by rfl) (by simp [Value.cells]) (by decide) ?_
      intro b60 w60 g60 l60 e60 B60
      have G60 := Grow.of_blk (n := 1) (enc := eH) (xs := [⟨da, dn, dc⟩]) eH_len B60 g60 rfl (by decide)
      have hGf := (hG.mod m12 (apart' hG.new h.lt (Nat.le_refl _))).ext e13
      have hHf := ((hH.src hS m12 h.lt).ext e13).snoc (d := ⟨da, dn, dc⟩) ⟨ys, hR.base (Mod.size (hM.trans m12)), by show dn ≤ 1000; omega⟩
      conv => whnf
      refine SemK.appendArr0 (enc := eH) mk_24 eH_len (hGf.ext e60) (G60.own.arr eH_len) (by intro y _; simp [eH, cellish]) (by omega) (by omega) (Nat.le_trans (Mod.size ((hM.trans m12).trans e13.mod)) (Below.size e60)) ?_
      intro a61 c61 w61 G61 m61 i61
      conv => whnf
      refine SemK.sub _ rfl (by omega) (by omega) ?_
      conv => whnf
      exact ⟨j - 1, by omega, _, _, _, _, rfl, by omega, by omega, G61, (hHf.ext e60).apart (hGf.ext e60) (by omega) m61, (((S12.ext e13).ext e60).mod m61 (later h.lt hG.new (Nat.le_refl _))).more (by omega), (((hM.trans m12).trans e13.mod).trans e60.mod).trans_new m61 (fun k hk => blkIn_new hG.new k hk)⟩
  · conv => whnf
    exact ⟨_, _, _, _, rfl, by omega, hG, hH, hS.more (by omega), hM⟩
theorem spec_l07Bent {w : World} {a0 : Option Addr} {k : Nat} (h : Src w a0 k) (hk : k ≤ 300000) :
    Does Tryz.prog 155 [.pointer a0] w (fun v w' => ∃ (a' : Option Addr) (n' c' : Nat) (ds : List Hd), v = .slice a' n' c' ∧ Grow eH 1 w.heap.size 85 w' a' n' c' ds ∧ HdsOk 2 w.heap.size w' ds ∧ Src w' a0 (k + 70000) ∧ Mod (blkIn a0) w w') := by
  refine Does.of_vc tabok Tryz.func155 rfl rfl rfl (by kernel_rfl) ?_; conv => whnf
  refine (spec_one h (by omega) (by omega)).mono ?_
  rintro _ w1 ⟨r1, rfl, S1, m1⟩
  have hz := Mod.size m1
  conv => whnf
  with_reducible refine IfB.split (fun h2 => ?_) (fun h2 => ?_)
  · conv => whnf
    refine (spec_l02BentDeck S1 (by omega)).mono ?_
    rintro _ w2 ⟨a2, n2, c2, ds, rfl, G2, H2, S2, m2⟩
    conv => whnf
    exact ⟨_, _, _, _, rfl, G2.base hz, H2.le hz, S2.more (by omega), m1.trans m2⟩
  · conv => whnf
    refine (spec_pick S1 (by omega) (by omega)).mono ?_
    rintro _ w2 ⟨r2, rfl, q3, q4, q5, S2, m2⟩
    obtain ⟨p, hp⟩ : ∃ p : Nat, 1 + r2 = (p : Int) := ⟨(1 + r2).toNat, by omega⟩
    have hz2 := Mod.size (m1.trans m2)
    conv => whnf
    refine SemK.add ((p : Nat) : Int) (by omega) (by omega) (by omega) ?_
    conv => whnf
    refine (spec_l07Draw S2 (by omega) (wd := p) (most := 9) (by omega) (by omega)).mono ?_
    rintro _ w3 ⟨a2, n2, c2, ds, rfl, hn2, G2, H2, S3, m3⟩
    conv => whnf
    exact ⟨_, _, _, _, rfl, G2.base hz2, H2.le hz2, S3.more (by omega), (m1.trans m2).trans m3⟩
theorem spec_l24Deck {w : World} {a0 : Option Addr} {k : Nat} (h : Src w a0 k) (hk : k ≤ 200000) :
    Does Tryz.prog 101 [.pointer a0] w (fun v w' => ∃ (a' : Option Addr) (n' c' : Nat) (ds : List Hd), v = .slice a' n' c' ∧ Grow eH 1 w.heap.size 85 w' a' n' c' ds ∧ HdsOk 2 w.heap.size w' ds ∧ Src w' a0 (k + 80000) ∧ Mod (blkIn a0) w w') := by
  refine Does.of_vc tabok Tryz.func101 rfl rfl rfl (by kernel_rfl) ?_; conv => whnf
  refine (spec_one h (by omega) (by omega)).mono ?_
  rintro _ w1 ⟨r1, rfl, S1, m1⟩
  have hz := Mod.size m1
  conv => whnf
  with_reducible refine IfB.split (fun h2 => ?_) (fun h2 => ?_)
  · conv => whnf
    refine (spec_l07Bent S1 (by omega)).mono ?_
    rintro _ w2 ⟨a2, n2, c2, ds, rfl, G2, H2, S2, m2⟩
    conv => whnf
    exact ⟨_, _, _, _, rfl, G2.base hz, H2.le hz, S2.more (by omega), m1.trans m2⟩
  · conv => whnf
    refine (spec_l13Deck S1 (by omega) (most := 9) (by omega)).mono ?_
    rintro _ w2 ⟨a2, n2, c2, ds, rfl, hn2, G2, H2, S2, m2⟩
    conv => whnf
    exact ⟨_, _, _, _, rfl, G2.base hz, H2.le hz, S2.more (by omega), m1.trans m2⟩
theorem spec_l24DrawField0 {w : World} {a0 : Option Addr} {k : Nat} (h : Src w a0 k) (hk : k ≤ 800000) {a : Option Addr} {n c : Nat} {ds : List Hd} (hA : Arr eH 1 w a n ds) (hap : Apart a0 a) (hd : ∀ d ∈ ds, d.n ≤ 1000) :
    Does Tryz.prog 102 [.pointer a0, .slice a n c] w (fun v w' => ∃ p q : Int, v = .agg #[.int .i64 p, .int .i64 q] ∧ i64ok p ∧ i64ok q ∧ Src w' a0 (k + 40) ∧ Mod (blkIn a0) w w') := by
  refine Does.of_vc tabok Tryz.func102 rfl rfl rfl (by kernel_rfl) ?_; conv => whnf
  refine SemK.alloc (z := .agg #[.int .i64 0, .int .i64 0]) (by kernel_rfl) ?_
  intro b1 w1 g1 l1 e1 B1
  conv => whnf
  refine (spec_one (h.ext e1) (by omega) (by omega)).mono ?_
  rintro _ w5 ⟨r2, rfl, S3, m4⟩
  conv => whnf
  with_reducible refine IfB.split (fun h6 => ?_) (fun h6 => ?_)
  · conv => whnf
    refine SemK.build st_26 rfl ?_
    conv => whnf
    refine SemK.storeAll (vs := [Value.int IntKind.i64 0, Value.int IntKind.i64 1]) (by kernel_rfl) (B1.mod m4 (blkNew h.lt g1 (Nat.le_refl _))) rfl rfl (by simp [cellish]) ?_
    intro w7 c7 B7
    conv => whnf
    refine CellK.of (run_loadAgg (n := 2) (by kernel_rfl) rfl B7.cells) ?_
    conv => whnf
    refine ⟨_, _, rfl, ?_, ?_, ((S3.chg c7 h.lt g1 (Nat.le_refl _)).more (by omega)), ((e1.mod.trans m4).trans_new c7.but (fun k hk => Nat.le_trans (Nat.le_refl _) (Nat.le_trans g1 (Nat.le_of_eq hk.symm))))⟩
    · exact ⟨by simp, by simp⟩
    · exact ⟨by simp, by simp⟩
  · conv => whnf
    refine (spec_l07WidthOf ((hA.ext e1).mod m4 hap) hd).mono ?_
    rintro _ w11 ⟨r8, rfl, q9, e10⟩
    conv => whnf
    refine (spec_l02DrawField0 (S3.ext e10) (by omega) _ q9).mono ?_
    rintro _ w18 ⟨p12, q13, rfl, q14, q15, S16, m17⟩
    conv => whnf
    refine SemK.storeAll (by kernel_rfl) (((B1.mod m4 (blkNew h.lt g1 (Nat.le_refl _))).ext e10).mod m17 (blkNew h.lt g1 (Nat.le_refl _))) (vs := [Value.int IntKind.i64 p12, Value.int IntKind.i64 q13]) rfl rfl (by simp [List.cons, cellish]) ?_
    intro w19 c19 B19
    conv => whnf
    refine CellK.of (run_loadAgg (n := 2) (by kernel_rfl) rfl B19.cells) ?_
    conv => whnf
    exact ⟨_, _, rfl, by omega, by omega, ((S16.chg c19 h.lt g1 (Nat.le_refl _)).more (by omega)), ((((e1.mod.trans m4).trans e10.mod).trans m17).trans_new c19.but (fun k hk => Nat.le_trans (Nat.le_refl _) (Nat.le_trans g1 (Nat.le_of_eq hk.symm))))⟩
theorem spec_l24DrawField {w : World} {a0 : Option Addr} {k : Nat} (h : Src w a0 k) (hk : k ≤ 800000) {a : Option Addr} {n c : Nat} {ds : List Hd} (hA : Arr eH 1 w a n ds) (hap : Apart a0 a) (hd : ∀ d ∈ ds, d.n ≤ 1000) :
    Does Tryz.prog 102 [.pointer a0, .slice a n c] w (fun v w' => ∃ f : TField, v = .agg ⟨f.enc⟩ ∧ f.ok ∧ Src w' a0 (k + 40) ∧ Mod (blkIn a0) w w') :=
  (spec_l24DrawField0 h hk hA hap hd).mono fun _ _ ⟨p, q, h1, h2, h3, h4, h5⟩ => ⟨⟨p, q⟩, h1, ⟨h2, h3⟩, h4, h5⟩
theorem spec_l24Ask {w : World} {a : Option Addr} {n c : Nat} {xs : List UInt8} (h : Arr eB 1 w a n xs) :
    Does Tryz.prog 44 [.slice a n c] w (fun v w' => ∃ (a' : Option Addr) (n' c' : Nat) (ds : List Hd) (r f : TField), v = .tuple #[.slice a' n' c', .agg ⟨r.enc⟩, .agg ⟨f.enc⟩] ∧ r.ok ∧ f.ok ∧ Grow eH 1 w.heap.size 85 w' a' n' c' ds ∧ HdsOk 2 w.heap.size w' ds ∧ Ext w w') := by
  refine Does.of_vc tabok Tryz.func44 rfl rfl rfl (by kernel_rfl) ?_; conv => whnf
  refine SemK.alloc (z := .agg #[.int .i64 0, .int .i64 0]) (by kernel_rfl) ?_
  intro b1 w1 g1 l1 e1 B1
  conv => whnf
  refine SemK.alloc (z := .agg #[.int .i64 0, .int .i64 0]) (by kernel_rfl) ?_
  intro b2 w2 g2 l2 e2 B2
  conv => whnf
  refine (spec_l00From (h.ext (Ext.trans e1 e2))).mono ?_
  rintro _ w3 ⟨a0, rfl, N3, S3, e3⟩
  conv => whnf
  refine (spec_l24Deck S3 (by omega)).mono ?_
  rintro _ w4 ⟨a4, n4, c4, ds, rfl, G4, H4, S4, m4⟩
  have hdn : ∀ d ∈ ds, d.n ≤ 1000 := fun d hd => by obtain ⟨_, _, h1⟩ := H4 d hd; exact h1
  have ap4 := apart' G4.new S3.lt (Nat.le_refl _)
  have le4 := G4.le.1
  conv => whnf
  refine (spec_l24DrawField S4 (by omega) (G4.own.arr eH_len) ap4 hdn).mono ?_
  rintro _ w5 ⟨r5, rfl, ok5, S5, m5⟩
  have G5 := G4.mod m5 ap4
  have H5 := H4.src S4 m5 S3.lt
  conv => whnf
  refine SemK.alloc (z := .agg #[.int .i64 0, .int .i64 0]) (by kernel_rfl) ?_
  intro b6 w6 g6 l6 e6 B6
  conv => whnf
  refine SemK.storeAll (vs := r5.enc) (by kernel_rfl) B6 rfl rfl (by simp [TField.enc, cellish]) ?_
  intro w7 c7 B7
  have G7 := (G5.ext e6).mod c7.but (apartChg G5.lt g6 (Nat.le_refl _))
  have H7 := (H5.ext e6).apartB B6 (by omega) c7
  have S7 := (S5.ext e6).chg c7 S5.lt g6 (Nat.le_refl _)
  conv => whnf
  refine DrawK.mix tabok mixed (a0) [(0, .any), (2, .any), (3, .any), (1, .held), (4, .run), (5, .any), (6, .write), (7, .write)] (by kernel_rfl) (by kernel_rfl) ?_
  conv => whnf
  intro w8 e8
  conv => whnf
  refine BSemK.loadAgg (n := 2) (by kernel_rfl) (Sr.cells (B7.ext e8).cells (blkNew S3.lt g6 (Nat.le_trans (Mod.size m4) (Mod.size m5)))) rfl ?_
  conv => whnf
  refine (spec_l24DrawField (S7.ext e8) (by omega) ((G7.ext e8).own.arr eH_len) (apart' G7.new S3.lt (Nat.le_refl _)) hdn).mono ?_
  rintro _ w13 ⟨f9, rfl, q10, S11, m12⟩
  conv => whnf
  refine ⟨m12, ?_⟩
  conv => whnf
  refine SemK.storeAll (by kernel_rfl) (B1.ext (Ext.mod_trans (Ext.trans (Ext.but_trans (Ext.trans (Ext.mod_trans (Ext.mod_trans (Ext.trans e2 e3) m4 (fun k hk => Nat.le_trans (Below.size e2) (blkIn_new N3 k hk))) m5 (fun k hk => Nat.le_trans (Below.size e2) (blkIn_new N3 k hk))) e6) c7.but (Nat.le_trans (Below.size (Ext.mod_trans (Ext.mod_trans (Ext.trans e2 e3) m4 (fun k hk => Nat.le_trans (Below.size e2) (blkIn_new N3 k hk))) m5 (fun k hk => Nat.le_trans (Below.size e2) (blkIn_new N3 k hk)))) g6)) e8) m12 (fun k hk => Nat.le_trans (Below.size e2) (blkIn_new N3 k hk)))) (vs := r5.enc) rfl rfl (by simp [TField.enc, cellish]) ?_
  intro w14 c14 B14
  conv => whnf
  refine SemK.storeAll (by kernel_rfl) ((B2.ext (Ext.mod_trans (Ext.trans (Ext.but_trans (Ext.trans (Ext.mod_trans (Ext.mod_trans e3 m4 (blkIn_new N3)) m5 (blkIn_new N3)) e6) c7.but (Nat.le_trans (Below.size (Ext.mod_trans (Ext.mod_trans e3 m4 (blkIn_new N3)) m5 (blkIn_new N3))) g6)) e8) m12 (blkIn_new N3))).mod c14.but (neChg' g2 l1 (Nat.le_refl _))) (vs := f9.enc) rfl rfl (by simp [TField.enc, cellish]) ?_
  intro w15 c15 B15
  conv => whnf
  refine CellK.of (run_loadAgg (n := 2) (by kernel_rfl) rfl (B14.mod c15.but (neChg l1 g2 (Nat.le_refl _))).cells) ?_
  conv => whnf
  refine CellK.of (run_loadAgg (n := 2) (by kernel_rfl) rfl B15.cells) ?_
  conv => whnf
  have K : ∀ k, blkIn a0 k → w.heap.size ≤ k := fun k hk => Nat.le_trans (Below.size (Ext.trans e1 e2)) (blkIn_new N3 k hk)
  have E5 := Ext.mod_trans (Ext.mod_trans (Ext.trans (Ext.trans e1 e2) e3) m4 K) m5 K
  have hb2 : b2 < w3.heap.size := Nat.lt_of_lt_of_le l2 (Below.size e3)
  have hb1 : b1 < w3.heap.size := Nat.lt_of_lt_of_le (Nat.lt_of_lt_of_le l1 (Below.size e2)) (Below.size e3)
  have hw3 : w.heap.size ≤ w3.heap.size := Below.size (Ext.trans (Ext.trans e1 e2) e3)
  exact ⟨_, _, _, _, _, _, rfl, ok5, q10, ((((G7.ext e8).mod m12 (apart' G7.new S3.lt (Nat.le_refl _))).chgO c14 hb1).chgO c15 hb2).base hw3, (((H7.ext e8).src (S7.ext e8) m12 S3.lt).chg c14 hb1 |>.chg c15 hb2).le hw3, Ext.but_trans (Ext.but_trans (Ext.mod_trans (Ext.trans (Ext.but_trans (Ext.trans E5 e6) c7.but (Nat.le_trans (Below.size E5) g6)) e8) m12 K) c14.but g1) c15.but (Nat.le_trans (Below.size e1) g2)⟩
theorem spec_DrawCrossTable {w : World} {a : Option Addr} {n c : Nat} {xs : List UInt8} (h : Arr eB 1 w a n xs) :
    Does Tryz.prog 6 [.slice a n c] w (fun v w' => ∃ (a' : Option Addr) (n' c' : Nat) (ds : List Hd) (r f : TField), v = .tuple #[.slice a' n' c', .agg ⟨r.enc⟩, .agg ⟨f.enc⟩] ∧ r.ok ∧ f.ok ∧ Grow eH 1 w.heap.size 85 w' a' n' c' ds ∧ HdsOk 2 w.heap.size w' ds ∧ Ext w w') := by
  refine Does.of_vc tabok Tryz.func6 rfl rfl rfl (by kernel_rfl) ?_; conv => whnf
  refine SemK.alloc (z := .agg #[.int .i64 0, .int .i64 0]) (by kernel_rfl) ?_
  intro b1 w1 g1 l1 e1 B1
  conv => whnf
  refine SemK.alloc (z := .agg #[.int .i64 0, .int .i64 0]) (by kernel_rfl) ?_
  intro b2 w2 g2 l2 e2 B2
  conv => whnf
  refine (spec_l24Ask (h.ext (Ext.trans e1 e2))).mono ?_
  rintro _ w14 ⟨a'3, n'4, c'5, d6, r7, f8, rfl, q9, q10, q11, q12, e13⟩
  conv => whnf
  refine SemK.storeAll (by kernel_rfl) (B1.ext (Ext.trans e2 e13)) (vs := r7.enc) rfl rfl (by simp [TField.enc, cellish]) ?_
  intro w15 c15 B15
  conv => whnf
  refine SemK.storeAll (by kernel_rfl) ((B2.ext e13).mod c15.but (neChg' g2 l1 (Nat.le_refl _))) (vs := f8.enc) rfl rfl (by simp [TField.enc, cellish]) ?_
  intro w16 c16 B16
  conv => whnf
  refine CellK.of (run_loadAgg (n := 2) (by kernel_rfl) rfl (B15.mod c16.but (neChg l1 g2 (Nat.le_refl _))).cells) ?_
  conv => whnf
  refine CellK.of (run_loadAgg (n := 2) (by kernel_rfl) rfl B16.cells) ?_
  conv => whnf
  exact ⟨_, _, _, _, _, _, rfl, q9, q10, ((q11.chgO c15 (Nat.lt_of_lt_of_le l1 (Below.size e2))).chgO c16 l2).base (Below.size (Ext.trans e1 e2)), ((q12.chg c15 (Nat.lt_of_lt_of_le l1 (Below.size e2))).chg c16 l2).le (Below.size (Ext.trans e1 e2)), (Ext.but_trans (Ext.but_trans (Ext.trans (Ext.trans e1 e2) e13) c15.but g1) c16.but (Nat.le_trans (Below.size e1) g2))⟩
theorem spec_DrawCountTexts {w : World} {a : Option Addr} {n c : Nat} {xs : List UInt8} (h : Arr eB 1 w a n xs) :
    Does Tryz.prog 11 [.slice a n c] w (fun v w' => ∃ (a' : Option Addr) (n' c' : Nat) (ds : List Hd) (f : TField), v = .tuple #[.slice a' n' c', .agg ⟨f.enc⟩] ∧ f.ok ∧ Grow eH 1 w.heap.size 85 w' a' n' c' ds ∧ HdsOk 2 w.heap.size w' ds ∧ Ext w w') := by
  refine Does.of_vc tabok Tryz.func11 rfl rfl rfl (by kernel_rfl) ?_; conv => whnf
  refine SemK.alloc (z := .agg #[.int .i64 0, .int .i64 0]) (by kernel_rfl) ?_
  intro b1 w1 g1 l1 e1 B1
  conv => whnf
  refine (spec_l24Ask (h.ext e1)).mono ?_
  rintro _ w13 ⟨a'2, n'3, c'4, d5, r6, f7, rfl, q8, q9, q10, q11, e12⟩
  conv => whnf
  refine SemK.alloc (z := .agg #[.int .i64 0, .int .i64 0]) (by kernel_rfl) ?_
  intro b14 w14 g14 l14 e14 B14
  conv => whnf
  refine SemK.alloc (z := .agg #[.int .i64 0, .int .i64 0]) (by kernel_rfl) ?_
  intro b15 w15 g15 l15 e15 B15
  conv => whnf
  refine SemK.storeAll (by kernel_rfl) (B14.ext e15) (vs := r6.enc) rfl rfl (by simp [TField.enc, cellish]) ?_
  intro w16 c16 B16
  conv => whnf
  refine SemK.storeAll (by kernel_rfl) (B15.mod c16.but (neChg' g15 l14 (Nat.le_refl _))) (vs := f7.enc) rfl rfl (by simp [TField.enc, cellish]) ?_
  intro w17 c17 B17
  conv => whnf
  refine DrawK.writes tabok mixed [(0, .any), (2, .any), (1, .held), (3, .write)] (by kernel_rfl) (by kernel_rfl) ?_
  conv => whnf
  intro w18 e18
  conv => whnf
  refine DSemK.loadAgg (n := 2) (by kernel_rfl) (B16.mod c17.but (neChg l14 g15 (Nat.le_refl _))).cells rfl ?_
  conv => whnf
  refine SemK.storeAll (by kernel_rfl) (B1.ext (Ext.trans (Ext.but_trans (Ext.but_trans (Ext.trans (Ext.trans e12 e14) e15) c16.but (Nat.le_trans (Below.size e12) g14)) c17.but (Nat.le_trans (Below.size (Ext.trans e12 e14)) g15)) e18)) (vs := r6.enc) rfl rfl (by simp [TField.enc, cellish]) ?_
  intro w19 c19 B19
  conv => whnf
  refine CellK.of (run_loadAgg (n := 2) (by kernel_rfl) rfl B19.cells) ?_
  conv => whnf
  have E13 := Ext.trans e1 e12
  have G17 := ((q10.ext (Ext.trans e14 e15)).mod c16.but (apartChg (q10.lt) g14 (Nat.le_refl _))).mod c17.but (apartChg (q10.lt) (Nat.le_trans (Below.size e14) g15) (Nat.le_refl _))
  exact ⟨_, _, _, _, _, rfl, q8, ((G17.ext e18).chgO c19 l1).base (Below.size e1), ((((((q11.ext (Ext.trans e14 e15)).apartB (B14.ext e15) (by omega) c16).apartB (B15.mod c16.but (neChg' g15 l14 (Nat.le_refl _))) (by omega) c17).ext e18).chg c19 l1)).le (Below.size e1), (Ext.but_trans (Ext.trans (Ext.but_trans (Ext.but_trans (Ext.trans (Ext.trans (Ext.trans e1 e12) e14) e15) c16.but (Nat.le_trans (Below.size (Ext.trans e1 e12)) g14)) c17.but (Nat.le_trans (Below.size (Ext.trans (Ext.trans e1 e12) e14)) g15)) e18) c19.but g1)⟩
theorem spec_l24DrawTable {w : World} {a0 : Option Addr} {k : Nat} (h : Src w a0 k) (hk : k ≤ 500000) :
    Does Tryz.prog 56 [.pointer a0] w (fun v w' => ∃ (a' : Option Addr) (n' c' : Nat) (ds : List Hd), v = .slice a' n' c' ∧ Grow eH 1 w.heap.size 41 w' a' n' c' ds ∧ HdsOk 2 w.heap.size w' ds ∧ Src w' a0 (k + 200) ∧ Mod (blkIn a0) w w') := by
  refine Does.of_vc tabok Tryz.func56 rfl rfl rfl (by kernel_rfl) ?_; conv => whnf
  refine SemK.buildSlice mk_29 (vs := []) (by rfl) (by rfl) (by simp [Value.cells]) (by decide) ?_
  intro b1 w1 g1 l1 e1 B1
  have G1 := Grow.new0 (enc := eH) eH_len B1 g1
  conv => whnf
  refine (spec_pick (h.ext e1) (by omega) (by omega)).mono ?_
  rintro _ w2 ⟨r2, rfl, q3, q4, q5, S2, m2⟩
  obtain ⟨n, rfl⟩ : ∃ n : Nat, r2 = (n : Int) := ⟨r2.toNat, by omega⟩
  conv => whnf
  refine (spec_pick S2 (by omega) (by omega)).mono ?_
  rintro _ w3 ⟨r3, rfl, q6, q7, q8, S3, m3⟩
  have M3 := (e1.mod.trans m2).trans m3
  have G3 := (G1.mod m2 (apart' G1.new h.lt (Nat.le_refl _))).mod m3 (apart' G1.new h.lt (Nat.le_refl _))
  conv => whnf
  refine LoopK.rule [0, 3, 4, 5] (fun (j : Int) vs w' => ∃ a3 n3 c3 ds, vs = [.pointer a0, .slice a3 n3 c3, .int .i64 (n : Nat), .int .i64 j] ∧ 0 ≤ j ∧ n3 + j ≤ 4 ∧ Grow eH 1 w.heap.size 41 w' a3 n3 c3 ds ∧ HdsOk 2 w.heap.size w' ds ∧ Dist ds ∧ Src w' a0 (k + 10 + 20 * n3) ∧ Mod (blkIn a0) w w' ∧ ∀ d ∈ ds, d.n = n) (fun j => j.toNat) tab tabok (by kernel_rfl) r3
    ⟨_, _, _, _, rfl, by omega, by omega, G3, HdsOk.nil, List.Pairwise.nil, S3.more (by omega), M3, by simp⟩ ?_
  rintro j g _ w8 ⟨a3, n3, c3, ds, rfl, hj, hn3, hG, hH, hD, hS, hM, hN⟩
  have lnG := hG.len
  conv => whnf
  with_reducible refine IfB.dec (fun h26 => ?_) (fun h26 => ?_)
  · conv => whnf
    refine SemK.buildSlice mk_41 (vs := []) (by rfl) (by rfl) (by simp [Value.cells]) (by decide) ?_
    intro b9 w9 g9 l9 e9 B9
    have G9 := Grow.new0 (enc := eI) eI_len B9 g9
    conv => whnf
    refine LoopK.rule [0, 3, 4, 5, 6, 7] (fun (i : Nat) vs w' => ∃ a6 c6 l, vs = [.pointer a0, .slice a3 n3 c3, .int .i64 (n : Nat), .int .i64 j, .slice a6 i c6, .int .i64 (i : Nat)] ∧ i ≤ n ∧ Grow eI 1 w8.heap.size 2 w' a6 i c6 l ∧ Src w' a0 (k + 10 + 20 * n3 + 2 * i) ∧ Mod (blkIn a0) w8 w') (fun i => n - i) tab tabok (by kernel_rfl) 0
      ⟨_, _, _, rfl, by omega, G9, hS.ext e9, e9.mod⟩ ?_
    rintro i g2 _ w10 ⟨a6, c6, l, rfl, hi, hR, hS10, hM10⟩
    have lnR := hR.len
    rcases Nat.lt_or_ge i n with hin | hin
    · conv => whnf
      refine IfB.yes (by omega) ?_
      conv => whnf
      refine (spec_pick hS10 (by omega) (by omega)).mono ?_
      rintro _ w11 ⟨r11, rfl, q12, q13, q14, S11, m11⟩
      have hR11 := hR.mod m11 (apart' hR.new hS.lt (Nat.le_refl _))
      conv => whnf
      refine SemK.buildSlice mk_41 (vs := [Value.int IntKind.i64 r11]) (by rfl) (by rfl) (by simp [Value.cells]) (by decide) ?_
      intro b12 w12 g12 l12 e12 B12
      have G12 := Grow.of_blk (n := 1) (enc := eI) (xs := [r11]) eI_len B12 g12 rfl (by decide)
      conv => whnf
      refine SemK.appendArr0 (enc := eI) mk_41 eI_len (hR11.ext e12) (G12.own.arr eI_len) (by intro y _; simp [eI, cellish]) (by omega) (by omega) (Nat.le_trans (Mod.size (hM10.trans m11)) (Below.size e12)) ?_
      intro a13 c13 w13 G13 m13 i13
      conv => whnf
      refine SemK.add (((i + 1 : Nat) : Int)) (by omega) (by omega) (by omega) ?_
      conv => whnf
      exact ⟨i + 1, by omega, _, _, _, rfl, by omega, G13, ((S11.ext e12).mod m13 (later hS.lt hR.new (Nat.le_refl _))).more (by omega), ((hM10.trans m11).trans e12.mod).trans_new m13 (fun k hk => blkIn_new hR.new k hk)⟩
    · obtain rfl : i = n := by omega
      conv => whnf
      refine IfB.no (by omega) ?_
      conv => whnf
      refine SemK.buildSlice mk_29 (vs := [.slice a6 i c6]) (by rfl) (by rfl) (by simp [Value.cells]) (by decide) ?_
      intro b60 w60 g60 l60 e60 B60
      have G60 := Grow.of_blk (n := 1) (enc := eH) (xs := [⟨a6, i, c6⟩]) eH_len B60 g60 rfl (by decide)
      have hGf := hG.mod hM10 (apart' hG.new h.lt (Nat.le_refl _))
      have hHf := (hH.src hS hM10 h.lt).snoc (d := ⟨a6, i, c6⟩) ⟨_, hR.base (Mod.size hM), by show i ≤ 1000; omega⟩
      have hDf := hD.snoc hH (d := ⟨a6, i, c6⟩) hR.new
      conv => whnf
      refine SemK.appendArr0 (enc := eH) mk_29 eH_len (hGf.ext e60) (G60.own.arr eH_len) (by intro y _; simp [eH, cellish]) (by omega) (by omega) (Nat.le_trans (Mod.size (hM.trans hM10)) (Below.size e60)) ?_
      intro a61 c61 w61 G61 m61 i61
      conv => whnf
      refine SemK.sub _ rfl (by omega) (by omega) ?_
      conv => whnf
      exact ⟨j - 1, by omega, _, _, _, _, rfl, by omega, by omega, G61, (hHf.ext e60).apart (hGf.ext e60) (by omega) m61, hDf, ((hS10.ext e60).mod m61 (later h.lt hG.new (Nat.le_refl _))).more (by omega), ((hM.trans hM10).trans e60.mod).trans_new m61 (fun k hk => blkIn_new hG.new k hk), all_snoc hN rfl⟩
  · conv => whnf
    with_reducible refine IfB.dec (fun h27 => ?_) (fun h27 => ?_)
    · obtain ⟨bd, rfl⟩ := hG.own.some (by omega)
      have hBd : w.heap.size ≤ bd := hG.new _ rfl
      conv => whnf
      refine (spec_pick hS (by omega) (by omega)).mono ?_
      rintro _ w9 ⟨r9, rfl, q9, q10, q11, S9, m9⟩
      obtain ⟨p, rfl⟩ : ∃ p : Nat, r9 = (p : Int) := ⟨r9.toNat, by omega⟩
      obtain ⟨d, hd⟩ := get_of_lt (l := ds) (k := p) (by omega)
      conv => whnf
      refine (spec_pick S9 (by omega) (by omega)).mono ?_
      rintro _ w10 ⟨r10, rfl, q12, q13, q14, S10, m10⟩
      have M10 := (hM.trans m9).trans m10
      have G10 := (hG.mod m9 (apart' hG.new h.lt (Nat.le_refl _))).mod m10 (apart' hG.new h.lt (Nat.le_refl _))
      have H10 := (hH.src hS m9 h.lt).src S9 m10 h.lt
      have C10 := Own.elem eH_len G10.own hd
      have hdn : d.n = n := hN d (List.mem_of_getElem? hd)
      obtain ⟨ys, Gd, hd1⟩ := H10 d (List.mem_of_getElem? hd)
      obtain ⟨da, dn, dc⟩ := d
      simp only at hdn Gd hd1
      subst hdn
      have lnd := Gd.len
      conv => whnf
      with_reducible refine IfB.dec (fun h28 => ?_) (fun h28 => ?_)
      · conv => whnf
        refine DrawK.mix tabok mixed (a0) [(0, .any), (1, .any), (2, .any), (3, .any), (4, .any), (6, .any), (5, .held), (7, .run), (8, .run), (9, .run), (10, .write), (11, .any), (12, .write)] (by kernel_rfl) (by kernel_rfl) ?_
        conv => whnf
        intro w29 e29
        conv => whnf
        refine PSemK.indexOwn (sz := 1) (by kernel_rfl) p rfl (by omega) ?_
        have hb31 := Own.elem eH_len (G10.ext e29).own hd
        conv => whnf
        refine BSemK.load0 (by kernel_rfl) (Sr.cells hb31 (blkNew h.lt hBd (Nat.le_refl _))) rfl ?_
        conv => whnf
        refine SemK.buildSlice mk_41 (vs := [Value.int IntKind.i64 (-1), Value.int IntKind.i64 0, Value.int IntKind.i64 1000000, Value.int IntKind.i64 1000001]) (by rfl) (by rfl) (by simp [Value.cells]) (by decide) ?_
        intro b32 w32 g32 l32 e32 B32
        have G32 := Grow.of_blk (n := 4) (enc := eI) (xs := [-1, 0, 1000000, 1000001]) eI_len B32 g32 rfl (by decide)
        conv => whnf
        refine ⟨e32.mod, ?_⟩
        conv => whnf
        refine (spec_among (S10.ext (Ext.trans e29 e32)) (by omega) (G32.own.arr eI_len) (apart' G32.new h.lt (Nat.le_trans (Mod.size M10) (Below.size e29))) (by omega) (by omega)).mono ?_
        rintro _ w37 ⟨r33, rfl, q34, S35, m36⟩
        conv => whnf
        refine ⟨(e32.mod.trans m36), ?_⟩
        conv => whnf
        refine SemK.buildSlice mk_41 (vs := [Value.int IntKind.i64 r33]) (by rfl) (by rfl) (by simp [Value.cells]) (by decide) ?_
        intro b38 w38 g38 l38 e38 B38
        have G38 := Grow.of_blk (n := 1) (enc := eI) (xs := [r33]) eI_len B38 g38 rfl (by decide)
        conv => whnf
        refine ⟨((e32.mod.trans m36).trans e38.mod), ?_⟩
        conv => whnf
        have apD := apart' Gd.new h.lt (Nat.le_refl _)
        have apG := apart' G10.new h.lt (Nat.le_refl _)
        have hDw := (((Gd.ext e29).ext e32).mod m36 apD).ext e38
        have GL := (((G10.ext e29).ext e32).mod m36 apG).ext e38
        have HL := (((H10.ext e29).ext e32).src (S10.ext (Ext.trans e29 e32)) m36 h.lt).ext e38
        refine SemK.appendArr0 (enc := eI) mk_41 eI_len hDw (G38.own.arr eI_len) (by intro y _; simp [eI, cellish]) (by omega) (by omega) (Nat.le_trans (Mod.size M10) (Nat.le_trans (Below.size e29) (Nat.le_trans (Below.size e32) (Nat.le_trans (Mod.size m36) (Below.size e38))))) ?_
        intro a39 c39 w39 G39 m39 i39
        conv => whnf
        refine PSemK.indexOwn (sz := 1) (by kernel_rfl) p rfl (by omega) ?_
        conv => whnf
        have GM := GL.apartT hDw (by omega) m39
        refine SemK.storeGrow1 (k := p) (j := 0) (by kernel_rfl) eH_len GM hd (by decide) rfl ⟨a39, dn + 1, c39⟩ rfl ?_
        intro w40 c40 B40
        obtain ⟨cs, hcs⟩ := GM.blkT rfl
        conv => whnf
        exact ⟨_, _, _, _, rfl, B40, (HL.swap hD hd m39 ⟨_, G39, by show dn + 1 ≤ 1000; omega⟩).apartB hcs (by omega) c40, ((((S35.ext e38).mod m39 (later h.lt Gd.new (Nat.le_refl _))).chg c40 h.lt hBd (Nat.le_refl _))).more (by omega), (((((M10.trans e29.mod).trans e32.mod).trans m36).trans e38.mod).trans_new m39 (fun k hk => blkIn_new Gd.new k hk)).trans_new c40.but (fun k hk => Nat.le_trans hBd (Nat.le_of_eq hk.symm))⟩
      · conv => whnf
        with_reducible refine IfB.dec (fun h29 => ?_) (fun h29 => ?_)
        · conv => whnf
          with_reducible refine IfB.dec (fun h30 => ?_) (fun h30 => ?_)
          · obtain ⟨bh, rfl⟩ := Gd.own.some (by omega)
            have hBh : w.heap.size ≤ bh := Gd.new _ rfl
            have apD := apart' Gd.new h.lt (Nat.le_refl _)
            have apG := apart' G10.new h.lt (Nat.le_refl _)
            conv => whnf
            refine DrawK.mix tabok mixed (a0) [(0, .any), (1, .any), (2, .any), (4, .any), (3, .held), (5, .run), (6, .run), (7, .any), (8, .write)] (by kernel_rfl) (by kernel_rfl) ?_
            conv => whnf
            intro w31 e31
            conv => whnf
            refine PSemK.indexOwn (sz := 1) (by kernel_rfl) p rfl (by omega) ?_
            have hb33 := Own.elem eH_len (G10.ext e31).own hd
            conv => whnf
            refine BSemK.load0 (by kernel_rfl) (Sr.cells hb33 (blkNew h.lt hBd (Nat.le_refl _))) rfl ?_
            conv => whnf
            refine SemK.buildSlice mk_41 (vs := [Value.int IntKind.i64 (-1), Value.int IntKind.i64 1000000, Value.int IntKind.i64 1000001, Value.int IntKind.i64 9223372036854775807]) (by rfl) (by rfl) (by simp [Value.cells]) (by decide) ?_
            intro b34 w34 g34 l34 e34 B34
            have G34 := Grow.of_blk (n := 4) (enc := eI) (xs := [-1, 1000000, 1000001, 9223372036854775807]) eI_len B34 g34 rfl (by decide)
            conv => whnf
            refine ⟨e34.mod, ?_⟩
            conv => whnf
            refine (spec_among (S10.ext (Ext.trans e31 e34)) (by omega) (G34.own.arr eI_len) (apart' G34.new h.lt (Nat.le_trans (Mod.size M10) (Below.size e31))) (by omega) (by omega)).mono ?_
            rintro _ w39 ⟨r35, rfl, q36, S37, m38⟩
            conv => whnf
            refine ⟨(e34.mod.trans m38), ?_⟩
            conv => whnf
            obtain ⟨cs, hcs, hcl⟩ := (((Gd.ext e31).ext e34).mod m38 apD).cellsI
            refine PSemK.indexOwn (sz := 1) (by kernel_rfl) 0 rfl (by show 0 < dn; omega) ?_
            conv => whnf
            refine SemK.store1 (by kernel_rfl) hcs (k := 0 + 0 * 1) (by omega) rfl ?_
            intro w40 c40 B40
            conv => whnf
            exact ⟨_, _, _, _, rfl, (((G10.ext e31).ext e34).mod m38 apG).apartB hcs (by omega) c40, (((H10.ext e31).ext e34).src (S10.ext (Ext.trans e31 e34)) m38 h.lt).set hcs (by omega) c40 B40, (S37.chg c40 h.lt hBh (Nat.le_refl _)).more (by omega), (((M10.trans e31.mod).trans e34.mod).trans m38).trans_new c40.but (fun k hk => Nat.le_trans hBh (Nat.le_of_eq hk.symm))⟩
          · conv => whnf
            exact ⟨_, _, _, _, rfl, G10, H10, S10.more (by omega), M10⟩
        · conv => whnf
          with_reducible refine IfB.dec (fun h31 => ?_) (fun h31 => ?_)
          · conv => whnf
            refine (spec_pick S10 (by omega) (by omega)).mono ?_
            rintro _ w38 ⟨r32, rfl, q33, q34, q35, S36, m37⟩
            obtain ⟨q, hq⟩ : ∃ q : Nat, 40 + r32 = (q : Int) := ⟨(40 + r32).toNat, by omega⟩
            conv => whnf
            refine SemK.add ((q : Nat) : Int) (by omega) (by omega) (by omega) ?_
            conv => whnf
            refine SemK.make mk_29 q rfl (by omega) (by omega) ?_
            intro b39 w39 g39 l39 e39 B39
            have G39 := Grow.of_make (enc := eH) (z := (⟨none, 0, 0⟩ : Hd)) eH_len rfl B39 g39 (by omega)
            conv => whnf
            exact ⟨_, _, _, _, rfl, G39.base (Mod.size (M10.trans m37)), fun d hd => by
              rw [List.eq_of_mem_replicate hd]
              exact ⟨[], Grow.nil, Nat.zero_le _⟩, (S36.ext e39).more (by omega), (M10.trans m37).trans e39.mod⟩
          · conv => whnf
            with_reducible refine IfB.dec (fun h32 => ?_) (fun h32 => ?_)
            · conv => whnf
              refine (spec_pick S10 (by omega) (by omega)).mono ?_
              rintro _ w38 ⟨r32, rfl, q33, q34, q35, S36, m37⟩
              obtain ⟨q, hq⟩ : ∃ q : Nat, 40 + r32 = (q : Int) := ⟨(40 + r32).toNat, by omega⟩
              conv => whnf
              refine SemK.add ((q : Nat) : Int) (by omega) (by omega) (by omega) ?_
              conv => whnf
              refine SemK.make mk_41 q rfl (by omega) (by omega) ?_
              intro b39 w39 g39 l39 e39 B39
              have G39 := Grow.of_make (enc := eI) (z := (0 : Int)) eI_len rfl B39 g39 (by omega)
              conv => whnf
              refine SemK.buildSlice mk_29 (vs := [.slice (some ⟨b39, 0, none⟩) q q]) (by rfl) (by rfl) (by simp [Value.cells]) (by decide) ?_
              intro b40 w40 g40 l40 e40 B40
              have G40 := Grow.of_blk (n := 1) (enc := eH) (xs := [⟨some ⟨b39, 0, none⟩, q, q⟩]) eH_len B40 g40 rfl (by decide)
              conv => whnf
              exact ⟨_, _, _, _, rfl, G40.base (Nat.le_trans (Mod.size (M10.trans m37)) (Below.size e39)), HdsOk.snoc (ds := []) HdsOk.nil ⟨_, (G39.ext e40).base (Mod.size (M10.trans m37)), by show q ≤ 1000; omega⟩, ((S36.ext e39).ext e40).more (by omega), ((M10.trans m37).trans e39.mod).trans e40.mod⟩
            · conv => whnf
              exact ⟨_, _, _, _, rfl, G10, H10, S10.more (by omega), M10⟩
    · conv => whnf
      exact ⟨_, _, _, _, rfl, hG, hH, hS.more (by omega), hM⟩
theorem spec_DrawTableSums {w : World} {a : Option Addr} {n c : Nat} {xs : List UInt8} (h : Arr eB 1 w a n xs) :
    Does Tryz.prog 14 [.slice a n c] w (fun v w' => ∃ (a' : Option Addr) (n' c' : Nat) (d : List (List Int)), v = .slice a' n' c' ∧ ArrS RCard w' a' n' d ∧ n' ≤ c' ∧ Ext w w') := by
  refine Does.of_vc tabok Tryz.func14 rfl rfl rfl (by kernel_rfl) ?_; conv => whnf
  refine (spec_l00From h).mono ?_
  rintro _ w5 ⟨a1, rfl, N2, S3, e4⟩
  conv => whnf
  refine (spec_l24DrawTable S3 (by omega)).mono ?_
  rintro _ w6 ⟨a6, n6, c6, ds, rfl, G6, H6, S6, m6⟩
  obtain ⟨d, hd, hl⟩ := H6.arrS G6
  conv => whnf
  exact ⟨_, _, _, _, rfl, hd, G6.le.1, Ext.mod_trans e4 m6 (blkIn_new N2)⟩
theorem spec_DrawTableLines {w : World} {a : Option Addr} {n c : Nat} {xs : List UInt8} (h : Arr eB 1 w a n xs) :
    Does Tryz.prog 17 [.slice a n c] w (fun v w' => ∃ (a' : Option Addr) (n' c' : Nat) (d : List (List Int)), v = .slice a' n' c' ∧ ArrS RCard w' a' n' d ∧ n' ≤ c' ∧ Ext w w') := by
  refine Does.of_vc tabok Tryz.func17 rfl rfl rfl (by kernel_rfl) ?_; conv => whnf
  refine (spec_l00From h).mono ?_
  rintro _ w5 ⟨a1, rfl, N2, S3, e4⟩
  conv => whnf
  refine (spec_l24DrawTable S3 (by omega)).mono ?_
  rintro _ w6 ⟨a6, n6, c6, ds, rfl, G6, H6, S6, m6⟩
  obtain ⟨d, hd, hl⟩ := H6.arrS G6
  conv => whnf
  exact ⟨_, _, _, _, rfl, hd, G6.le.1, Ext.mod_trans e4 m6 (blkIn_new N2)⟩
theorem laws_f6textsE {w : World} {a a' : Option Addr} {n n' c c' : Nat} {xs : List ByteArray} (h : Arr eS 1 w a n xs) (h' : Arr eS 1 w a' n' xs) :
    Does Tryz.prog 21 [.slice a n c, .slice a' n' c'] w (fun v w' => v = .bool true ∧ Ext w w') := by
  have hn := h.len
  have hn' := h'.len
  have hm := h.le
  obtain rfl : n' = n := by omega
  refine Does.of_vc tabok Tryz.func21 rfl rfl rfl (by kernel_rfl) ?_; conv => whnf
  refine IfB.eqf (by simp; done) ?_
  conv => whnf
  refine LoopK.rule [0, 1, 5] (fun (k : Nat) vs w' => vs = [.slice a n' c, .slice a' n' c', .int .i64 k] ∧ k ≤ n' ∧ Ext w w') (fun k => n' - k) tab tabok (by kernel_rfl) 0 ⟨rfl, by omega, Ext.refl _⟩ ?_
  rintro k g _ w5 ⟨rfl, hk, hE⟩
  rcases Nat.lt_or_ge k n' with hkn | hkn
  · obtain ⟨x, hx⟩ : ∃ x, xs[k]? = some x := get_of_lt (by omega)
    conv => whnf
    refine IfB.yes (by omega) ?_
    conv => whnf
    refine DrawK.det tabok mixed (by kernel_rfl) (by kernel_rfl) ?_
    conv => whnf
    refine DSemK.index (by kernel_rfl) (h.ext hE) k rfl hx ?_
    intro b7 o7 ha7 hb7
    conv => whnf
    refine DSemK.load0 (by kernel_rfl) hb7 rfl ?_
    conv => whnf
    refine DSemK.index (by kernel_rfl) (h'.ext hE) k rfl hx ?_
    intro b9 o9 ha9 hb9
    conv => whnf
    refine DSemK.load0 (by kernel_rfl) hb9 rfl ?_
    conv => whnf
    intro w10 e10
    conv => whnf
    refine IfB.eqf (by simp; done) ?_
    conv => whnf
    refine SemK.add (((k + 1 : Nat) : Int)) (by omega) (by omega) (by omega) ?_
    conv => whnf
    exact ⟨k + 1, by omega, rfl, by omega, (Ext.trans hE e10)⟩
  · conv => whnf
    refine IfB.no (by omega) ?_
    conv => whnf
    exact ⟨rfl, hE⟩
end Go.Proofs.YtfgbijddjoojbaaGreatDoor
