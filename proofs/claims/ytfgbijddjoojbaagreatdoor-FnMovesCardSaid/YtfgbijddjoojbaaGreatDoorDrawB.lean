/- Contracts of functions of the given program, of the reference and of the laws: each says what a call returns, for all arguments that meet the premises that the theorem itself names. -/
import Derived.Test.YtfgbijddjoojbaaGreatDoorDraw
import Derived.Test.YtfgbijddjoojbaaGreatDoorBasics
import Derived.Test.YtfgbijddjoojbaaGreatDoorFPart
import Derived.Test.YtfgbijddjoojbaaGreatDoorFMove
import Derived.Test.YtfgbijddjoojbaaGreatDoorStock3
namespace Go.M
open Go Go.Vc
theorem partSm_ok {x : TPart} (h : partSm x) : x.ok := ⟨by unfold strok; have := h.1; omega, h.2.1, h.2.2.1, h.2.2.2⟩
end Go.M
namespace Go.Proofs.YtfgbijddjoojbaaGreatDoor
open Go Go.RowKit Go.Vc Go.M
theorem spec_l25Draw {w : World} {a0 : Option Addr} {k : Nat} (h : Src w a0 k) (hk : k ≤ 1000000) :
    Does Tryz.prog 92 [.pointer a0] w (fun v w' => ∃ a' n' c' xs, v = .slice a' n' c' ∧ n' ≤ 4 ∧ (∀ x ∈ xs, partSm x) ∧ NewAt w.heap.size a' ∧ Grow TPart.enc 4 w.heap.size 81 w' a' n' c' xs ∧ Src w' a0 (k + 100) ∧ Mod (blkIn a0) w w') := by
  refine Does.of_vc tabok Tryz.func92 rfl rfl rfl (by kernel_rfl) ?_; conv => whnf
  refine SemK.buildSlice mk_32 (vs := [Value.string { data := #[98, 111, 108, 116] }, Value.string { data := #[110, 117, 116] }, Value.string { data := #[114, 111, 100] }, Value.string { data := #[97, 45, 49] }]) (by rfl) (by rfl) (by simp [Value.cells]) (by decide) ?_
  intro b1 w1 g1 l1 e1 B1
  have G1 := Grow.of_blk (n := 4) (enc := eS) (xs := [{ data := #[98, 111, 108, 116] }, { data := #[110, 117, 116] }, { data := #[114, 111, 100] }, { data := #[97, 45, 49] }]) eS_len B1 g1 rfl (by decide)
  conv => whnf
  refine SemK.buildSlice mk_52 (vs := []) (by rfl) (by rfl) (by simp [Value.cells]) (by decide) ?_
  intro b2 w2 g2 l2 e2 B2
  have G2 := Grow.new0 (enc := TPart.enc) TPart.enc_len B2 g2
  conv => whnf
  obtain ⟨names, hN, G1'⟩ : ∃ names : List ByteArray, (∀ x ∈ names, x.size ≤ 12) ∧ Grow eS 1 w.heap.size 9 w1 (some ⟨b1, 0, none⟩) 4 4 names := ⟨_, by simp only [List.mem_cons, List.not_mem_nil, or_false]; rintro x (rfl | rfl | rfl | rfl) <;> exact Nat.le_of_ble_eq_true rfl, G1⟩
  clear G1 B1
  have hNl := G1'.len
  refine LoopK.rule [0, 3, 4, 5] (fun (j : Nat) vs w' => ∃ a1 n1 c1 xs1, vs = [.pointer a0, .slice (some ⟨b1, 0, none⟩) 4 4, .slice a1 n1 c1, .int .i64 j] ∧ j ≤ 4 ∧ n1 ≤ j ∧ (∀ x ∈ xs1, partSm x) ∧ Grow TPart.enc 4 w1.heap.size 81 w' a1 n1 c1 xs1 ∧ Arr eS 1 w' (some ⟨b1, 0, none⟩) 4 names ∧ Src w' a0 (k + 8 * j) ∧ Mod (blkIn a0) w1 w') (fun j => 4 - j) tab tabok (by kernel_rfl) 0
    ⟨_, _, _, _, rfl, by omega, by omega, by simp, G2, (G1'.ext e2).own.arr eS_len, (h.ext (Ext.trans e1 e2)).more (by omega), Ext.mod e2⟩ ?_
  rintro j g _ w3 ⟨a1, n1, c1, xs1, rfl, hj, hn1, hok1, hG, hA, hS, hM⟩
  conv => whnf
  with_reducible refine IfB.dec (fun h4 => ?_) (fun h4 => ?_)
  · conv => whnf
    refine (spec_one hS (by omega) (by omega)).mono ?_
    rintro _ w8 ⟨r5, rfl, S6, m7⟩
    conv => whnf
    with_reducible refine IfB.split (fun h9 => ?_) (fun h9 => ?_)
    · conv => whnf
      refine SemK.add (((j + 1 : Nat) : Int)) (by omega) (by omega) (by omega) ?_
      conv => whnf
      exact ⟨j + 1, by omega, _, _, _, _, rfl, by omega, by omega, by omega, by simpa [List.take_add_one, -List.take_append_getElem, *] using (hG.mod m7 (apart' hG.new h.lt (Below.size e1))), (hA.mod m7 (apart' G1'.new h.lt (Nat.le_refl _))), (S6.more (by omega)), (hM.trans m7)⟩
    · conv => whnf
      refine DrawK.mix tabok mixed (a0) [(0, .any), (1, .any), (2, .any), (3, .any), (5, .any), (7, .any), (9, .any), (4, .held), (6, .run), (8, .run), (10, .run), (11, .held), (12, .run), (13, .write), (14, .any)] (by kernel_rfl) (by kernel_rfl) ?_
      conv => whnf
      intro w10 e10
      conv => whnf
      obtain ⟨x11, hx11⟩ : ∃ x, names[j]? = some x := get_of_lt (by omega)
      have ok11 := hN _ (List.mem_of_getElem? hx11)
      refine PSemK.indexOwn (sz := 1) (by kernel_rfl) j rfl (by omega) ?_
      have hb12 := Own.elem eS_len (((G1'.mod hM (apart' G1'.new h.lt (Nat.le_refl _))).mod m7 (apart' G1'.new h.lt (Nat.le_refl _))).ext e10).own hx11
      conv => whnf
      refine BSemK.load0 (by kernel_rfl) (Sr.cells hb12 (blkNew h.lt g1 (Nat.le_refl _))) rfl ?_
      conv => whnf
      refine (spec_pick (S6.ext e10) (by omega) (by omega)).mono ?_
      rintro _ w19 ⟨r13, rfl, q14, q15, q16, S17, m18⟩
      conv => whnf
      refine ⟨m18, ?_⟩
      conv => whnf
      refine (spec_pick S17 (by omega) (by omega)).mono ?_
      rintro _ w26 ⟨r20, rfl, q21, q22, q23, S24, m25⟩
      conv => whnf
      refine ⟨(m18.trans m25), ?_⟩
      conv => whnf
      refine (spec_pick S24 (by omega) (by omega)).mono ?_
      rintro _ w33 ⟨r27, rfl, q28, q29, q30, S31, m32⟩
      conv => whnf
      refine ⟨((m18.trans m25).trans m32), ?_⟩
      conv => whnf
      refine BSemK.build st_81 rfl ?_
      conv => whnf
      refine SemK.buildSlice mk_52 (vs := [Value.agg #[Value.string x11, Value.int IntKind.i64 r13, Value.int IntKind.i64 r20, Value.int IntKind.i64 r27]]) (by rfl) (by rfl) (by simp [Value.cells]) (by decide) ?_
      intro b34 w34 g34 l34 e34 B34
      have G34 := Grow.of_blk (n := 1) (enc := TPart.enc) (xs := [⟨x11, r13, r20, r27⟩]) TPart.enc_len B34 g34 rfl (by decide)
      conv => whnf
      refine ⟨(((m18.trans m25).trans m32).trans e34.mod), ?_⟩
      conv => whnf
      refine SemK.appendArr0 (enc := TPart.enc) mk_52 TPart.enc_len ((((((hG.mod m7 (apart' hG.new h.lt (Below.size e1))).ext e10).mod m18 (apart' hG.new h.lt (Below.size e1))).mod m25 (apart' hG.new h.lt (Below.size e1))).mod m32 (apart' hG.new h.lt (Below.size e1))).ext e34) (G34.own.arr TPart.enc_len) (by intro y _; simp [TPart.enc, cellish]) (by omega) (by omega) (Nat.le_trans (Nat.le_trans (Nat.le_trans (Nat.le_trans (Nat.le_trans (Nat.le_trans (Mod.size hM) (Mod.size m7)) (Below.size e10)) (Mod.size m18)) (Mod.size m25)) (Mod.size m32)) (Below.size e34)) ?_
      intro a35 c35 w35 G35 m35 i35
      conv => whnf
      refine SemK.add (((j + 1 : Nat) : Int)) (by omega) (by omega) (by omega) ?_
      conv => whnf
      refine ⟨j + 1, by omega, _, _, _, _, rfl, by omega, by omega, ?_, G35, ?_, ?_, ?_⟩
      · intro y hy
        rcases List.mem_append.1 hy with hy | hy
        · exact hok1 y hy
        · rw [List.mem_singleton.1 hy]
          refine ⟨ok11, ?_, ?_, ?_⟩ <;> simp only [i64ok] <;> omega
      · exact (((((((hA.mod m7 (apart' G1'.new h.lt (Nat.le_refl _))).ext e10).mod m18 (apart' G1'.new h.lt (Nat.le_refl _))).mod m25 (apart' G1'.new h.lt (Nat.le_refl _))).mod m32 (apart' G1'.new h.lt (Nat.le_refl _))).ext e34).mod m35 (apart G1'.lt hG.new (Nat.le_refl _)))
      · exact (((S31.ext e34).mod m35 (later h.lt hG.new (Below.size e1))).more (by omega))
      · exact (((((((hM.trans m7).trans e10.mod).trans m18).trans m25).trans m32).trans e34.mod).trans_new m35 (fun k hk => Nat.le_trans (Nat.le_refl _) (blkIn_new hG.new k hk)))
  · conv => whnf
    have kn36 : j = 4 := by omega
    have tk37 : List.take j names = names := List.take_of_length_le (by omega)
    refine ⟨_, _, _, _, rfl, by omega, hok1, (hG.new.mono (Below.size e1)), ?_, (hS.more (by omega)), (e1.mod.trans hM)⟩
    · exact hG.base (Below.size e1)
theorem spec_l25Bent {w : World} {a0 : Option Addr} {k : Nat} (h : Src w a0 k) (hk : k ≤ 1000000) :
    Does Tryz.prog 64 [.pointer a0] w (fun v w' => ∃ a' n' c' xs, v = .slice a' n' c' ∧ n' ≤ 42 ∧ (∀ x ∈ xs, partSm x) ∧ NewAt w.heap.size a' ∧ Grow TPart.enc 4 w.heap.size 81 w' a' n' c' xs ∧ Src w' a0 (k + 200) ∧ Mod (blkIn a0) w w') := by
  refine Does.of_vc tabok Tryz.func64 rfl rfl rfl (by kernel_rfl) ?_; conv => whnf
  refine (spec_l25Draw h hk).mono ?_
  rintro _ w11 ⟨a'1, n'2, c'3, xs4, rfl, q5, q6, N7, G8, S9, m10⟩
  have ln8 := G8.len
  conv => whnf
  refine (spec_one S9 (by omega) (by omega)).mono ?_
  rintro _ w15 ⟨r12, rfl, S13, m14⟩
  conv => whnf
  with_reducible refine IfB.split (fun h16 => ?_) (fun h16 => ?_)
  · conv => whnf
    refine SemK.buildSlice mk_52 (vs := []) (by rfl) (by rfl) (by simp [Value.cells]) (by decide) ?_
    intro b17 w17 g17 l17 e17 B17
    have G17 := Grow.new0 (enc := TPart.enc) TPart.enc_len B17 g17
    conv => whnf
    refine (spec_pick (S13.ext e17) (by omega) (by omega)).mono ?_
    rintro _ w24 ⟨r18, rfl, q19, q20, q21, S22, m23⟩
    conv => whnf
    refine SemK.add _ rfl (by omega) (by omega) ?_
    conv => whnf
    refine LoopK.rule [0, 3, 4] (fun (j : Int) vs w' => ∃ a1 n1 c1 xs1, vs = [.pointer a0, .slice a1 n1 c1, .int .i64 j] ∧ 0 ≤ j ∧ n1 + j ≤ 41 ∧ (∀ x ∈ xs1, partSm x) ∧ Grow TPart.enc 4 w15.heap.size 81 w' a1 n1 c1 xs1 ∧ Src w' a0 (k + 110) ∧ Mod (blkIn a0) w15 w') (fun j => j.toNat) tab tabok (by kernel_rfl) (40 + r18)
      ⟨_, _, _, _, rfl, by omega, by omega, by simp, G17.mod m23 (apart' G17.new S13.lt (Nat.le_refl _)), S22.more (by omega), e17.mod.trans m23⟩ ?_
    rintro j g _ w25 ⟨a1, n1, c1, xs1, rfl, hj, hn1, hok1, hG, hS, hM⟩
    have lnG := hG.len
    conv => whnf
    with_reducible refine IfB.dec (fun h26 => ?_) (fun h26 => ?_)
    · conv => whnf
      refine SemK.quo (by omega) (by omega) (by omega) ?_
      conv => whnf
      refine SemK.add _ rfl (by omega) (by omega) ?_
      conv => whnf
      refine SemK.conv (k := .u8) (by kernel_rfl) (by kernel_rfl) (u8_wrap (by omega) (by omega)) ?_
      conv => whnf
      refine SemK.rem (by omega) (by omega) ?_
      conv => whnf
      refine SemK.add _ rfl (by omega) (by omega) ?_
      conv => whnf
      refine SemK.conv (k := .u8) (by kernel_rfl) (by kernel_rfl) (u8_wrap (by omega) (by omega)) ?_
      conv => whnf
      obtain ⟨y1, hy1⟩ := u8_of (n := 97 + (n1 : Int) / 26) (by omega) (by omega)
      obtain ⟨y2, hy2⟩ := u8_of (n := 97 + (n1 : Int) % 26) (by omega) (by omega)
      rw [← hy1, ← hy2]
      refine SemK.buildSlice mk_22 (vs := [Value.int IntKind.u8 y1.toNat, Value.int IntKind.u8 y2.toNat]) (by rfl) (by rfl) (by simp [Value.cells]) (by decide) ?_
      intro b27 w27 g27 l27 e27 B27
      have G27 := Grow.of_blk (n := 2) (enc := eB) (xs := [y1, y2]) eB_len (by simpa [flat, cellsOf, Value.cells, eB] using B27) g27 rfl (by decide)
      conv => whnf
      refine SemK.toStrG (by kernel_rfl) (by kernel_rfl) G27 ?_
      conv => whnf
      refine SemK.cat (by simp only [ByteArray.size_append, bs_size, sizeC, sizeT, List.length_cons, List.length_nil]; omega) ?_
      conv => whnf
      refine SemK.build st_81 rfl ?_
      conv => whnf
      refine SemK.buildSlice mk_52 (vs := [Value.agg #[Value.string ({ data := #[112] } ++ bs [y1, y2]), Value.int IntKind.i64 ↑n1, Value.int IntKind.i64 0, Value.int IntKind.i64 ↑n1]]) (by rfl) (by rfl) (by simp [Value.cells]) (by decide) ?_
      intro b28 w28 g28 l28 e28 B28
      have G28 := Grow.of_blk (n := 1) (enc := TPart.enc) (xs := [⟨{ data := #[112] } ++ bs [y1, y2], ↑n1, 0, ↑n1⟩]) TPart.enc_len B28 g28 rfl (by decide)
      conv => whnf
      refine SemK.appendArr0 (enc := TPart.enc) mk_52 TPart.enc_len (hG.ext (Ext.trans e27 e28)) (G28.own.arr TPart.enc_len) (by intro y _; simp [TPart.enc, cellish]) (by omega) (by omega) (Nat.le_trans (Nat.le_trans (Mod.size hM) (Below.size e27)) (Below.size e28)) ?_
      intro a29 c29 w29 G29 m29 i29
      conv => whnf
      refine SemK.sub _ rfl (by omega) (by omega) ?_
      conv => whnf
      refine ⟨j - 1, by omega, _, _, _, _, rfl, by omega, by omega, all_snoc hok1 ?_, G29, ?_, ?_⟩
      · refine ⟨Nat.le_of_ble_eq_true rfl, ?_, ?_, ?_⟩ <;> simp only [i64ok] <;> omega
      · exact ((hS.ext (Ext.trans e27 e28)).mod m29 (later h.lt hG.new (Nat.le_trans (Mod.size m10) (Mod.size m14))))
      · exact (((hM.trans e27.mod).trans e28.mod).trans_new m29 (fun k hk => Nat.le_trans (Nat.le_refl _) (blkIn_new hG.new k hk)))
    · conv => whnf
      with_reducible refine IfB.dec (fun h28 => ?_) (fun h28 => ?_)
      · conv => whnf
        exact ⟨_, _, _, _, rfl, by omega, by omega, (hG.new.mono (Nat.le_trans (Mod.size m10) (Mod.size m14))), (hG.base (Nat.le_trans (Mod.size m10) (Mod.size m14))), (hS.more (by omega)), ((m10.trans m14).trans hM)⟩
      · conv => whnf
        refine (spec_pick hS (by omega) (by omega)).mono ?_
        rintro _ w35 ⟨r29, rfl, q30, q31, q32, S33, m34⟩
        conv => whnf
        obtain ⟨x36, hx36⟩ : ∃ x, xs1[(r29).toNat]? = some x := get_of_lt (by omega)
        have ok36 := hok1 _ (List.mem_of_getElem? hx36)
        obtain ⟨b37, rfl⟩ := ((hG.mod m34 (apart' hG.new h.lt (Nat.le_trans (Mod.size m10) (Mod.size m14)))).own).some (by omega)
        have gb37 : w15.heap.size ≤ b37 := hG.new _ rfl
        have lb37 : b37 < w25.heap.size := hG.lt _ rfl
        refine SemK.indexOwn (sz := 4) (by kernel_rfl) (r29).toNat (by omega) (by omega) ?_
        have hb37 := Own.elem TPart.enc_len (hG.mod m34 (apart' hG.new h.lt (Nat.le_trans (Mod.size m10) (Mod.size m14)))).own hx36
        conv => whnf
        refine (spec_pick S33 (by omega) (by omega)).mono ?_
        rintro _ w44 ⟨r38, rfl, q39, q40, q41, S42, m43⟩
        conv => whnf
        with_reducible refine IfB.dec (fun h45 => ?_) (fun h45 => ?_)
        · conv => whnf
          refine SemK.buildSlice mk_32 (vs := [Value.string { data := #[] }, Value.string { data := #[66, 111, 108, 116] }, Value.string { data := #[98, 111, 108, 116] }]) (by rfl) (by rfl) (by simp [Value.cells]) (by decide) ?_
          intro b46 w46 g46 l46 e46 B46
          have G46 := Grow.of_blk (n := 3) (enc := eS) (xs := [{ data := #[] }, { data := #[66, 111, 108, 116] }, { data := #[98, 111, 108, 116] }]) eS_len B46 g46 rfl (by decide)
          conv => whnf
          refine (spec_text (S42.ext e46) (by omega) (G46.own.arr eS_len) (apart' G46.new h.lt (Nat.le_trans (Nat.le_trans (Nat.le_trans (Nat.le_trans (Mod.size m10) (Mod.size m14)) (Mod.size hM)) (Mod.size m34)) (Mod.size m43))) (by omega) (by omega)).mono ?_
          rintro _ w51 ⟨r47, rfl, q48, S49, m50⟩
          conv => whnf
          refine SemK.storeGrow1 (k := r29.toNat) (j := 0) (by kernel_rfl) TPart.enc_len ((((hG.mod m34 (apart' (NewAt.some gb37) h.lt (Nat.le_trans (Mod.size m10) (Mod.size m14)))).mod m43 (apart' (NewAt.some gb37) h.lt (Nat.le_trans (Mod.size m10) (Mod.size m14)))).ext e46).mod m50 (apart' (NewAt.some gb37) h.lt (Nat.le_trans (Mod.size m10) (Mod.size m14)))) hx36 (by decide) rfl { x36 with name := r47 } rfl ?_
          intro w52 c52 B52
          have hx52 := set_get hx36 ({ x36 with name := r47 })
          conv => whnf
          refine ⟨_, _, _, _, rfl, by omega, ?_, (B52.new.mono (Nat.le_trans (Mod.size m10) (Mod.size m14))), (B52.base (Nat.le_trans (Mod.size m10) (Mod.size m14))), ((S49.chg c52 h.lt gb37 (Nat.le_trans (Mod.size m10) (Mod.size m14))).more (by omega)), (((((((m10.trans m14).trans hM).trans m34).trans m43).trans e46.mod).trans m50).trans_new c52.but (fun k hk => Nat.le_trans (Nat.le_trans (Mod.size m10) (Mod.size m14)) (Nat.le_trans gb37 (Nat.le_of_eq hk.symm))))⟩
          · refine all_set hok1 ?_ _; refine ⟨?_, ok36.2.1, ok36.2.2.1, ok36.2.2.2⟩; simp only [List.mem_cons, List.not_mem_nil, or_false] at q48; (repeat' (rcases q48 with rfl | q48)); all_goals first | exact Nat.le_of_ble_eq_true rfl | (subst q48; exact Nat.le_of_ble_eq_true rfl) | (simp [i64ok]; done) | (subst q48; simp [i64ok]; done)
        · conv => whnf
          with_reducible refine IfB.dec (fun h53 => ?_) (fun h53 => ?_)
          · conv => whnf
            refine SemK.buildSlice mk_41 (vs := [Value.int IntKind.i64 (-1), Value.int IntKind.i64 0, Value.int IntKind.i64 1000000, Value.int IntKind.i64 1000001]) (by rfl) (by rfl) (by simp [Value.cells]) (by decide) ?_
            intro b54 w54 g54 l54 e54 B54
            have G54 := Grow.of_blk (n := 4) (enc := eI) (xs := [-1, 0, 1000000, 1000001]) eI_len B54 g54 rfl (by decide)
            conv => whnf
            refine (spec_among (S42.ext e54) (by omega) (G54.own.arr eI_len) (apart' G54.new h.lt (Nat.le_trans (Nat.le_trans (Nat.le_trans (Nat.le_trans (Mod.size m10) (Mod.size m14)) (Mod.size hM)) (Mod.size m34)) (Mod.size m43))) (by omega) (by omega)).mono ?_
            rintro _ w59 ⟨r55, rfl, q56, S57, m58⟩
            conv => whnf
            refine SemK.storeGrow1 (k := r29.toNat) (j := 1) (by kernel_rfl) TPart.enc_len ((((hG.mod m34 (apart' (NewAt.some gb37) h.lt (Nat.le_trans (Mod.size m10) (Mod.size m14)))).mod m43 (apart' (NewAt.some gb37) h.lt (Nat.le_trans (Mod.size m10) (Mod.size m14)))).ext e54).mod m58 (apart' (NewAt.some gb37) h.lt (Nat.le_trans (Mod.size m10) (Mod.size m14)))) hx36 (by decide) rfl { x36 with count := r55 } rfl ?_
            intro w60 c60 B60
            have hx60 := set_get hx36 ({ x36 with count := r55 })
            conv => whnf
            refine ⟨_, _, _, _, rfl, by omega, ?_, (B60.new.mono (Nat.le_trans (Mod.size m10) (Mod.size m14))), (B60.base (Nat.le_trans (Mod.size m10) (Mod.size m14))), ((S57.chg c60 h.lt gb37 (Nat.le_trans (Mod.size m10) (Mod.size m14))).more (by omega)), (((((((m10.trans m14).trans hM).trans m34).trans m43).trans e54.mod).trans m58).trans_new c60.but (fun k hk => Nat.le_trans (Nat.le_trans (Mod.size m10) (Mod.size m14)) (Nat.le_trans gb37 (Nat.le_of_eq hk.symm))))⟩
            · refine all_set hok1 ?_ _; refine ⟨ok36.1, ?_, ok36.2.2.1, ok36.2.2.2⟩; simp only [List.mem_cons, List.not_mem_nil, or_false] at q56; (repeat' (rcases q56 with rfl | q56)); all_goals first | exact Nat.le_of_ble_eq_true rfl | (subst q56; exact Nat.le_of_ble_eq_true rfl) | (simp [i64ok]; done) | (subst q56; simp [i64ok]; done)
          · conv => whnf
            with_reducible refine IfB.dec (fun h61 => ?_) (fun h61 => ?_)
            · conv => whnf
              refine SemK.buildSlice mk_41 (vs := [Value.int IntKind.i64 (-1), Value.int IntKind.i64 0, Value.int IntKind.i64 1000000, Value.int IntKind.i64 1000001, Value.int IntKind.i64 (-9223372036854775808)]) (by rfl) (by rfl) (by simp [Value.cells]) (by decide) ?_
              intro b62 w62 g62 l62 e62 B62
              have G62 := Grow.of_blk (n := 5) (enc := eI) (xs := [-1, 0, 1000000, 1000001, -9223372036854775808]) eI_len B62 g62 rfl (by decide)
              conv => whnf
              refine (spec_among (S42.ext e62) (by omega) (G62.own.arr eI_len) (apart' G62.new h.lt (Nat.le_trans (Nat.le_trans (Nat.le_trans (Nat.le_trans (Mod.size m10) (Mod.size m14)) (Mod.size hM)) (Mod.size m34)) (Mod.size m43))) (by omega) (by omega)).mono ?_
              rintro _ w67 ⟨r63, rfl, q64, S65, m66⟩
              conv => whnf
              refine SemK.storeGrow1 (k := r29.toNat) (j := 2) (by kernel_rfl) TPart.enc_len ((((hG.mod m34 (apart' (NewAt.some gb37) h.lt (Nat.le_trans (Mod.size m10) (Mod.size m14)))).mod m43 (apart' (NewAt.some gb37) h.lt (Nat.le_trans (Mod.size m10) (Mod.size m14)))).ext e62).mod m66 (apart' (NewAt.some gb37) h.lt (Nat.le_trans (Mod.size m10) (Mod.size m14)))) hx36 (by decide) rfl { x36 with least := r63 } rfl ?_
              intro w68 c68 B68
              have hx68 := set_get hx36 ({ x36 with least := r63 })
              conv => whnf
              refine ⟨_, _, _, _, rfl, by omega, ?_, (B68.new.mono (Nat.le_trans (Mod.size m10) (Mod.size m14))), (B68.base (Nat.le_trans (Mod.size m10) (Mod.size m14))), ((S65.chg c68 h.lt gb37 (Nat.le_trans (Mod.size m10) (Mod.size m14))).more (by omega)), (((((((m10.trans m14).trans hM).trans m34).trans m43).trans e62.mod).trans m66).trans_new c68.but (fun k hk => Nat.le_trans (Nat.le_trans (Mod.size m10) (Mod.size m14)) (Nat.le_trans gb37 (Nat.le_of_eq hk.symm))))⟩
              · refine all_set hok1 ?_ _; refine ⟨ok36.1, ok36.2.1, ?_, ok36.2.2.2⟩; simp only [List.mem_cons, List.not_mem_nil, or_false] at q64; (repeat' (rcases q64 with rfl | q64)); all_goals first | exact Nat.le_of_ble_eq_true rfl | (subst q64; exact Nat.le_of_ble_eq_true rfl) | (simp [i64ok]; done) | (subst q64; simp [i64ok]; done)
            · conv => whnf
              with_reducible refine IfB.dec (fun h69 => ?_) (fun h69 => ?_)
              · conv => whnf
                refine SemK.buildSlice mk_41 (vs := [Value.int IntKind.i64 (-1), Value.int IntKind.i64 0, Value.int IntKind.i64 1000000, Value.int IntKind.i64 1000001]) (by rfl) (by rfl) (by simp [Value.cells]) (by decide) ?_
                intro b70 w70 g70 l70 e70 B70
                have G70 := Grow.of_blk (n := 4) (enc := eI) (xs := [-1, 0, 1000000, 1000001]) eI_len B70 g70 rfl (by decide)
                conv => whnf
                refine (spec_among (S42.ext e70) (by omega) (G70.own.arr eI_len) (apart' G70.new h.lt (Nat.le_trans (Nat.le_trans (Nat.le_trans (Nat.le_trans (Mod.size m10) (Mod.size m14)) (Mod.size hM)) (Mod.size m34)) (Mod.size m43))) (by omega) (by omega)).mono ?_
                rintro _ w75 ⟨r71, rfl, q72, S73, m74⟩
                conv => whnf
                refine SemK.storeGrow1 (k := r29.toNat) (j := 3) (by kernel_rfl) TPart.enc_len ((((hG.mod m34 (apart' (NewAt.some gb37) h.lt (Nat.le_trans (Mod.size m10) (Mod.size m14)))).mod m43 (apart' (NewAt.some gb37) h.lt (Nat.le_trans (Mod.size m10) (Mod.size m14)))).ext e70).mod m74 (apart' (NewAt.some gb37) h.lt (Nat.le_trans (Mod.size m10) (Mod.size m14)))) hx36 (by decide) rfl { x36 with price := r71 } rfl ?_
                intro w76 c76 B76
                have hx76 := set_get hx36 ({ x36 with price := r71 })
                conv => whnf
                refine ⟨_, _, _, _, rfl, by omega, ?_, (B76.new.mono (Nat.le_trans (Mod.size m10) (Mod.size m14))), (B76.base (Nat.le_trans (Mod.size m10) (Mod.size m14))), ((S73.chg c76 h.lt gb37 (Nat.le_trans (Mod.size m10) (Mod.size m14))).more (by omega)), (((((((m10.trans m14).trans hM).trans m34).trans m43).trans e70.mod).trans m74).trans_new c76.but (fun k hk => Nat.le_trans (Nat.le_trans (Mod.size m10) (Mod.size m14)) (Nat.le_trans gb37 (Nat.le_of_eq hk.symm))))⟩
                · refine all_set hok1 ?_ _; refine ⟨ok36.1, ok36.2.1, ok36.2.2.1, ?_⟩; simp only [List.mem_cons, List.not_mem_nil, or_false] at q72; (repeat' (rcases q72 with rfl | q72)); all_goals first | exact Nat.le_of_ble_eq_true rfl | (subst q72; exact Nat.le_of_ble_eq_true rfl) | (simp [i64ok]; done) | (subst q72; simp [i64ok]; done)
              · conv => whnf
                exact ⟨_, _, _, _, rfl, by omega, by omega, (hG.new.mono (Nat.le_trans (Mod.size m10) (Mod.size m14))), (((hG.mod m34 (apart' (NewAt.some gb37) h.lt (Nat.le_trans (Mod.size m10) (Mod.size m14)))).mod m43 (apart' (NewAt.some gb37) h.lt (Nat.le_trans (Mod.size m10) (Mod.size m14)))).base (Nat.le_trans (Mod.size m10) (Mod.size m14))), (S42.more (by omega)), ((((m10.trans m14).trans hM).trans m34).trans m43)⟩
  · conv => whnf
    with_reducible refine IfB.dec (fun h25 => ?_) (fun h25 => ?_)
    · conv => whnf
      exact ⟨_, _, _, _, rfl, by omega, by omega, G8.new, (G8.mod m14 (apart' G8.new h.lt (Nat.le_refl _))), (S13.more (by omega)), (m10.trans m14)⟩
    · conv => whnf
      refine (spec_pick S13 (by omega) (by omega)).mono ?_
      rintro _ w32 ⟨r26, rfl, q27, q28, q29, S30, m31⟩
      conv => whnf
      obtain ⟨x33, hx33⟩ : ∃ x, xs4[(r26).toNat]? = some x := get_of_lt (by omega)
      have ok33 := q6 _ (List.mem_of_getElem? hx33)
      obtain ⟨b34, rfl⟩ := (((G8.mod m14 (apart' G8.new h.lt (Nat.le_refl _))).mod m31 (apart' G8.new h.lt (Nat.le_refl _))).own).some (by omega)
      have gb34 : w.heap.size ≤ b34 := G8.new _ rfl
      have lb34 : b34 < w11.heap.size := G8.lt _ rfl
      refine SemK.indexOwn (sz := 4) (by kernel_rfl) (r26).toNat (by omega) (by omega) ?_
      have hb34 := Own.elem TPart.enc_len ((G8.mod m14 (apart' G8.new h.lt (Nat.le_refl _))).mod m31 (apart' G8.new h.lt (Nat.le_refl _))).own hx33
      conv => whnf
      refine (spec_pick S30 (by omega) (by omega)).mono ?_
      rintro _ w41 ⟨r35, rfl, q36, q37, q38, S39, m40⟩
      conv => whnf
      with_reducible refine IfB.dec (fun h42 => ?_) (fun h42 => ?_)
      · conv => whnf
        refine SemK.buildSlice mk_32 (vs := [Value.string { data := #[] }, Value.string { data := #[66, 111, 108, 116] }, Value.string { data := #[98, 111, 108, 116] }]) (by rfl) (by rfl) (by simp [Value.cells]) (by decide) ?_
        intro b43 w43 g43 l43 e43 B43
        have G43 := Grow.of_blk (n := 3) (enc := eS) (xs := [{ data := #[] }, { data := #[66, 111, 108, 116] }, { data := #[98, 111, 108, 116] }]) eS_len B43 g43 rfl (by decide)
        conv => whnf
        refine (spec_text (S39.ext e43) (by omega) (G43.own.arr eS_len) (apart' G43.new h.lt (Nat.le_trans (Nat.le_trans (Nat.le_trans (Mod.size m10) (Mod.size m14)) (Mod.size m31)) (Mod.size m40))) (by omega) (by omega)).mono ?_
        rintro _ w48 ⟨r44, rfl, q45, S46, m47⟩
        conv => whnf
        refine SemK.storeGrow1 (k := r26.toNat) (j := 0) (by kernel_rfl) TPart.enc_len (((((G8.mod m14 (apart' (NewAt.some gb34) h.lt (Nat.le_refl _))).mod m31 (apart' (NewAt.some gb34) h.lt (Nat.le_refl _))).mod m40 (apart' (NewAt.some gb34) h.lt (Nat.le_refl _))).ext e43).mod m47 (apart' (NewAt.some gb34) h.lt (Nat.le_refl _))) hx33 (by decide) rfl { x33 with name := r44 } rfl ?_
        intro w49 c49 B49
        have hx49 := set_get hx33 ({ x33 with name := r44 })
        conv => whnf
        refine ⟨_, _, _, _, rfl, by omega, ?_, B49.new, B49, ((S46.chg c49 h.lt gb34 (Nat.le_refl _)).more (by omega)), ((((((m10.trans m14).trans m31).trans m40).trans e43.mod).trans m47).trans_new c49.but (fun k hk => Nat.le_trans (Nat.le_refl _) (Nat.le_trans gb34 (Nat.le_of_eq hk.symm))))⟩
        · refine all_set q6 ?_ _; refine ⟨?_, ok33.2.1, ok33.2.2.1, ok33.2.2.2⟩; simp only [List.mem_cons, List.not_mem_nil, or_false] at q45; rcases q45 with rfl | rfl | rfl <;> exact Nat.le_of_ble_eq_true rfl
      · conv => whnf
        with_reducible refine IfB.dec (fun h50 => ?_) (fun h50 => ?_)
        · conv => whnf
          refine SemK.buildSlice mk_41 (vs := [Value.int IntKind.i64 (-1), Value.int IntKind.i64 0, Value.int IntKind.i64 1000000, Value.int IntKind.i64 1000001]) (by rfl) (by rfl) (by simp [Value.cells]) (by decide) ?_
          intro b51 w51 g51 l51 e51 B51
          have G51 := Grow.of_blk (n := 4) (enc := eI) (xs := [-1, 0, 1000000, 1000001]) eI_len B51 g51 rfl (by decide)
          conv => whnf
          refine (spec_among (S39.ext e51) (by omega) (G51.own.arr eI_len) (apart' G51.new h.lt (Nat.le_trans (Nat.le_trans (Nat.le_trans (Mod.size m10) (Mod.size m14)) (Mod.size m31)) (Mod.size m40))) (by omega) (by omega)).mono ?_
          rintro _ w56 ⟨r52, rfl, q53, S54, m55⟩
          conv => whnf
          refine SemK.storeGrow1 (k := r26.toNat) (j := 1) (by kernel_rfl) TPart.enc_len (((((G8.mod m14 (apart' (NewAt.some gb34) h.lt (Nat.le_refl _))).mod m31 (apart' (NewAt.some gb34) h.lt (Nat.le_refl _))).mod m40 (apart' (NewAt.some gb34) h.lt (Nat.le_refl _))).ext e51).mod m55 (apart' (NewAt.some gb34) h.lt (Nat.le_refl _))) hx33 (by decide) rfl { x33 with count := r52 } rfl ?_
          intro w57 c57 B57
          have hx57 := set_get hx33 ({ x33 with count := r52 })
          conv => whnf
          refine ⟨_, _, _, _, rfl, by omega, ?_, B57.new, B57, ((S54.chg c57 h.lt gb34 (Nat.le_refl _)).more (by omega)), ((((((m10.trans m14).trans m31).trans m40).trans e51.mod).trans m55).trans_new c57.but (fun k hk => Nat.le_trans (Nat.le_refl _) (Nat.le_trans gb34 (Nat.le_of_eq hk.symm))))⟩
          · refine all_set q6 ?_ _; refine ⟨ok33.1, ?_, ok33.2.2.1, ok33.2.2.2⟩; simp only [List.mem_cons, List.not_mem_nil, or_false] at q53; rcases q53 with rfl | rfl | rfl | rfl <;> simp [i64ok]
        · conv => whnf
          with_reducible refine IfB.dec (fun h58 => ?_) (fun h58 => ?_)
          · conv => whnf
            refine SemK.buildSlice mk_41 (vs := [Value.int IntKind.i64 (-1), Value.int IntKind.i64 0, Value.int IntKind.i64 1000000, Value.int IntKind.i64 1000001, Value.int IntKind.i64 (-9223372036854775808)]) (by rfl) (by rfl) (by simp [Value.cells]) (by decide) ?_
            intro b59 w59 g59 l59 e59 B59
            have G59 := Grow.of_blk (n := 5) (enc := eI) (xs := [-1, 0, 1000000, 1000001, -9223372036854775808]) eI_len B59 g59 rfl (by decide)
            conv => whnf
            refine (spec_among (S39.ext e59) (by omega) (G59.own.arr eI_len) (apart' G59.new h.lt (Nat.le_trans (Nat.le_trans (Nat.le_trans (Mod.size m10) (Mod.size m14)) (Mod.size m31)) (Mod.size m40))) (by omega) (by omega)).mono ?_
            rintro _ w64 ⟨r60, rfl, q61, S62, m63⟩
            conv => whnf
            refine SemK.storeGrow1 (k := r26.toNat) (j := 2) (by kernel_rfl) TPart.enc_len (((((G8.mod m14 (apart' (NewAt.some gb34) h.lt (Nat.le_refl _))).mod m31 (apart' (NewAt.some gb34) h.lt (Nat.le_refl _))).mod m40 (apart' (NewAt.some gb34) h.lt (Nat.le_refl _))).ext e59).mod m63 (apart' (NewAt.some gb34) h.lt (Nat.le_refl _))) hx33 (by decide) rfl { x33 with least := r60 } rfl ?_
            intro w65 c65 B65
            have hx65 := set_get hx33 ({ x33 with least := r60 })
            conv => whnf
            refine ⟨_, _, _, _, rfl, by omega, ?_, B65.new, B65, ((S62.chg c65 h.lt gb34 (Nat.le_refl _)).more (by omega)), ((((((m10.trans m14).trans m31).trans m40).trans e59.mod).trans m63).trans_new c65.but (fun k hk => Nat.le_trans (Nat.le_refl _) (Nat.le_trans gb34 (Nat.le_of_eq hk.symm))))⟩
            · refine all_set q6 ?_ _; refine ⟨ok33.1, ok33.2.1, ?_, ok33.2.2.2⟩; simp only [List.mem_cons, List.not_mem_nil, or_false] at q61; rcases q61 with rfl | rfl | rfl | rfl | rfl <;> simp [i64ok]
          · conv => whnf
            with_reducible refine IfB.dec (fun h66 => ?_) (fun h66 => ?_)
            · conv => whnf
              refine SemK.buildSlice mk_41 (vs := [Value.int IntKind.i64 (-1), Value.int IntKind.i64 0, Value.int IntKind.i64 1000000, Value.int IntKind.i64 1000001]) (by rfl) (by rfl) (by simp [Value.cells]) (by decide) ?_
              intro b67 w67 g67 l67 e67 B67
              have G67 := Grow.of_blk (n := 4) (enc := eI) (xs := [-1, 0, 1000000, 1000001]) eI_len B67 g67 rfl (by decide)
              conv => whnf
              refine (spec_among (S39.ext e67) (by omega) (G67.own.arr eI_len) (apart' G67.new h.lt (Nat.le_trans (Nat.le_trans (Nat.le_trans (Mod.size m10) (Mod.size m14)) (Mod.size m31)) (Mod.size m40))) (by omega) (by omega)).mono ?_
              rintro _ w72 ⟨r68, rfl, q69, S70, m71⟩
              conv => whnf
              refine SemK.storeGrow1 (k := r26.toNat) (j := 3) (by kernel_rfl) TPart.enc_len (((((G8.mod m14 (apart' (NewAt.some gb34) h.lt (Nat.le_refl _))).mod m31 (apart' (NewAt.some gb34) h.lt (Nat.le_refl _))).mod m40 (apart' (NewAt.some gb34) h.lt (Nat.le_refl _))).ext e67).mod m71 (apart' (NewAt.some gb34) h.lt (Nat.le_refl _))) hx33 (by decide) rfl { x33 with price := r68 } rfl ?_
              intro w73 c73 B73
              have hx73 := set_get hx33 ({ x33 with price := r68 })
              conv => whnf
              refine ⟨_, _, _, _, rfl, by omega, ?_, B73.new, B73, ((S70.chg c73 h.lt gb34 (Nat.le_refl _)).more (by omega)), ((((((m10.trans m14).trans m31).trans m40).trans e67.mod).trans m71).trans_new c73.but (fun k hk => Nat.le_trans (Nat.le_refl _) (Nat.le_trans gb34 (Nat.le_of_eq hk.symm))))⟩
              · refine all_set q6 ?_ _; refine ⟨ok33.1, ok33.2.1, ok33.2.2.1, ?_⟩; simp only [List.mem_cons, List.not_mem_nil, or_false] at q69; rcases q69 with rfl | rfl | rfl | rfl <;> simp [i64ok]
            · conv => whnf
              exact ⟨_, _, _, _, rfl, by omega, by omega, G8.new, (((G8.mod m14 (apart' (NewAt.some gb34) h.lt (Nat.le_refl _))).mod m31 (apart' (NewAt.some gb34) h.lt (Nat.le_refl _))).mod m40 (apart' (NewAt.some gb34) h.lt (Nat.le_refl _))), (S39.more (by omega)), (((m10.trans m14).trans m31).trans m40)⟩
theorem spec_l25DrawMove {w : World} {a0 : Option Addr} {k : Nat} (h : Src w a0 k) (hk : k ≤ 1000000) :
    Does Tryz.prog 66 [.pointer a0] w (fun v w' => ∃ x : TMove, v = .agg ⟨x.enc⟩ ∧ x.ok ∧ Src w' a0 (k + 20) ∧ Mod (blkIn a0) w w') := by
  refine Does.of_vc tabok Tryz.func66 rfl rfl rfl (by kernel_rfl) ?_; conv => whnf
  refine SemK.alloc (z := .agg #[.int .i64 0, .int .i64 0]) (by kernel_rfl) ?_
  intro b1 w1 g1 l1 e1 B1
  conv => whnf
  refine (spec_pick (h.ext e1) (by omega) (by omega)).mono ?_
  rintro _ w8 ⟨r2, rfl, q3, q4, q5, S6, m7⟩
  conv => whnf
  refine (spec_pick S6 (by omega) (by omega)).mono ?_
  rintro _ w15 ⟨r9, rfl, q10, q11, q12, S13, m14⟩
  conv => whnf
  refine SemK.sub _ rfl (by omega) (by omega) ?_
  conv => whnf
  refine SemK.build st_59 rfl ?_
  conv => whnf
  refine SemK.alloc (z := .agg #[.int .i64 0, .int .i64 0]) (by kernel_rfl) ?_
  intro b16 w16 g16 l16 e16 B16
  conv => whnf
  refine SemK.storeAll (vs := [Value.int IntKind.i64 r2, Value.int IntKind.i64 (r9 - 30)]) (by kernel_rfl) B16 rfl rfl (by simp [cellish]) ?_
  intro w17 c17 B17
  conv => whnf
  refine (spec_pick ((S13.ext e16).chg c17 h.lt g16 (Nat.le_trans (Nat.le_trans (Below.size e1) (Mod.size m7)) (Mod.size m14))) (by omega) (by omega)).mono ?_
  rintro _ w24 ⟨r18, rfl, q19, q20, q21, S22, m23⟩
  conv => whnf
  with_reducible refine IfB.dec (fun h25 => ?_) (fun h25 => ?_)
  · conv => whnf
    refine SemK.buildSlice mk_41 (vs := [Value.int IntKind.i64 (-1), Value.int IntKind.i64 4, Value.int IntKind.i64 40]) (by rfl) (by rfl) (by simp [Value.cells]) (by decide) ?_
    intro b26 w26 g26 l26 e26 B26
    have G26 := Grow.of_blk (n := 3) (enc := eI) (xs := [-1, 4, 40]) eI_len B26 g26 rfl (by decide)
    conv => whnf
    refine (spec_among (S22.ext e26) (by omega) (G26.own.arr eI_len) (apart' G26.new h.lt (Nat.le_trans (Nat.le_trans (Nat.le_trans (Nat.le_trans (Nat.le_trans (Below.size e1) (Mod.size m7)) (Mod.size m14)) (Below.size e16)) (Chg.size_le c17)) (Mod.size m23))) (by omega) (by omega)).mono ?_
    rintro _ w31 ⟨r27, rfl, q28, S29, m30⟩
    conv => whnf
    refine SemK.store1 (by kernel_rfl) (((B17.mod m23 (blkNew h.lt g16 (Nat.le_trans (Nat.le_trans (Below.size e1) (Mod.size m7)) (Mod.size m14)))).ext e26).mod m30 (blkNew h.lt g16 (Nat.le_trans (Nat.le_trans (Below.size e1) (Mod.size m7)) (Mod.size m14)))) (k := 0) (Nat.le_of_ble_eq_true rfl) rfl ?_
    intro w32 c32 B32
    have B32 : Blk w32 b16 [Value.int IntKind.i64 r27, Value.int IntKind.i64 (r9 - 30)] _ := B32
    conv => whnf
    refine SemK.loadAgg (n := 2) (by kernel_rfl) B32.cells rfl ?_
    conv => whnf
    refine SemK.storeAll (by kernel_rfl) (((((((B1.mod m7 (blkNew h.lt g1 (Nat.le_refl _))).mod m14 (blkNew h.lt g1 (Nat.le_refl _))).ext (Ext.but_trans e16 c17.but g16)).mod m23 (blkNew h.lt g1 (Nat.le_refl _))).ext e26).mod m30 (blkNew h.lt g1 (Nat.le_refl _))).mod c32.but (neChg l1 g16 (Nat.le_trans (Mod.size m7) (Mod.size m14)))) (vs := [Value.int IntKind.i64 r27, Value.int IntKind.i64 (r9 - 30)]) rfl rfl (by simp [List.cons, cellish]) ?_
    intro w33 c33 B33
    conv => whnf
    refine CellK.of (run_loadAgg (n := 2) (by kernel_rfl) rfl B33.cells) ?_
    conv => whnf
    refine ⟨⟨r27, r9 - 30⟩, rfl, ⟨?_, ?_⟩, (((S29.chg c32 h.lt g16 (Nat.le_trans (Nat.le_trans (Below.size e1) (Mod.size m7)) (Mod.size m14))).chg c33 h.lt g1 (Nat.le_refl _)).more (by omega)), (((((((((e1.mod.trans m7).trans m14).trans e16.mod).trans_new c17.but (fun k hk => Nat.le_trans (Nat.le_trans (Nat.le_trans (Below.size e1) (Mod.size m7)) (Mod.size m14)) (Nat.le_trans g16 (Nat.le_of_eq hk.symm)))).trans m23).trans e26.mod).trans m30).trans_new c32.but (fun k hk => Nat.le_trans (Nat.le_trans (Nat.le_trans (Below.size e1) (Mod.size m7)) (Mod.size m14)) (Nat.le_trans g16 (Nat.le_of_eq hk.symm)))).trans_new c33.but (fun k hk => Nat.le_trans g1 (Nat.le_of_eq hk.symm)))⟩
    · simp only [List.mem_cons, List.not_mem_nil, or_false] at q28; rcases q28 with rfl | rfl | rfl <;> simp [i64ok]
    · simp only [i64ok]; omega
  · conv => whnf
    with_reducible refine IfB.dec (fun h34 => ?_) (fun h34 => ?_)
    · conv => whnf
      refine SemK.buildSlice mk_41 (vs := [Value.int IntKind.i64 (-1000001), Value.int IntKind.i64 (-1000000), Value.int IntKind.i64 1000000, Value.int IntKind.i64 1000001, Value.int IntKind.i64 (-9223372036854775808)]) (by rfl) (by rfl) (by simp [Value.cells]) (by decide) ?_
      intro b35 w35 g35 l35 e35 B35
      have G35 := Grow.of_blk (n := 5) (enc := eI) (xs := [-1000001, -1000000, 1000000, 1000001, -9223372036854775808]) eI_len B35 g35 rfl (by decide)
      conv => whnf
      refine (spec_among (S22.ext e35) (by omega) (G35.own.arr eI_len) (apart' G35.new h.lt (Nat.le_trans (Nat.le_trans (Nat.le_trans (Nat.le_trans (Nat.le_trans (Below.size e1) (Mod.size m7)) (Mod.size m14)) (Below.size e16)) (Chg.size_le c17)) (Mod.size m23))) (by omega) (by omega)).mono ?_
      rintro _ w40 ⟨r36, rfl, q37, S38, m39⟩
      conv => whnf
      refine SemK.store1 (by kernel_rfl) (((B17.mod m23 (blkNew h.lt g16 (Nat.le_trans (Nat.le_trans (Below.size e1) (Mod.size m7)) (Mod.size m14)))).ext e35).mod m39 (blkNew h.lt g16 (Nat.le_trans (Nat.le_trans (Below.size e1) (Mod.size m7)) (Mod.size m14)))) (k := 1) (Nat.le_of_ble_eq_true rfl) rfl ?_
      intro w41 c41 B41
      have B41 : Blk w41 b16 [Value.int IntKind.i64 r2, Value.int IntKind.i64 r36] _ := B41
      conv => whnf
      refine SemK.loadAgg (n := 2) (by kernel_rfl) B41.cells rfl ?_
      conv => whnf
      refine SemK.storeAll (by kernel_rfl) (((((((B1.mod m7 (blkNew h.lt g1 (Nat.le_refl _))).mod m14 (blkNew h.lt g1 (Nat.le_refl _))).ext (Ext.but_trans e16 c17.but g16)).mod m23 (blkNew h.lt g1 (Nat.le_refl _))).ext e35).mod m39 (blkNew h.lt g1 (Nat.le_refl _))).mod c41.but (neChg l1 g16 (Nat.le_trans (Mod.size m7) (Mod.size m14)))) (vs := [Value.int IntKind.i64 r2, Value.int IntKind.i64 r36]) rfl rfl (by simp [List.cons, cellish]) ?_
      intro w42 c42 B42
      conv => whnf
      refine CellK.of (run_loadAgg (n := 2) (by kernel_rfl) rfl B42.cells) ?_
      conv => whnf
      refine ⟨⟨r2, r36⟩, rfl, ⟨?_, ?_⟩, (((S38.chg c41 h.lt g16 (Nat.le_trans (Nat.le_trans (Below.size e1) (Mod.size m7)) (Mod.size m14))).chg c42 h.lt g1 (Nat.le_refl _)).more (by omega)), (((((((((e1.mod.trans m7).trans m14).trans e16.mod).trans_new c17.but (fun k hk => Nat.le_trans (Nat.le_trans (Nat.le_trans (Below.size e1) (Mod.size m7)) (Mod.size m14)) (Nat.le_trans g16 (Nat.le_of_eq hk.symm)))).trans m23).trans e35.mod).trans m39).trans_new c41.but (fun k hk => Nat.le_trans (Nat.le_trans (Nat.le_trans (Below.size e1) (Mod.size m7)) (Mod.size m14)) (Nat.le_trans g16 (Nat.le_of_eq hk.symm)))).trans_new c42.but (fun k hk => Nat.le_trans g1 (Nat.le_of_eq hk.symm)))⟩
      · simp only [i64ok]; omega
      · simp only [List.mem_cons, List.not_mem_nil, or_false] at q37; rcases q37 with rfl | rfl | rfl | rfl | rfl <;> simp [i64ok]
    · conv => whnf
      refine SemK.loadAgg (n := 2) (by kernel_rfl) (B17.mod m23 (blkNew h.lt g16 (Nat.le_trans (Nat.le_trans (Below.size e1) (Mod.size m7)) (Mod.size m14)))).cells rfl ?_
      conv => whnf
      refine SemK.storeAll (by kernel_rfl) ((((B1.mod m7 (blkNew h.lt g1 (Nat.le_refl _))).mod m14 (blkNew h.lt g1 (Nat.le_refl _))).ext (Ext.but_trans e16 c17.but g16)).mod m23 (blkNew h.lt g1 (Nat.le_refl _))) (vs := [Value.int IntKind.i64 r2, Value.int IntKind.i64 (r9 - 30)]) rfl rfl (by simp [List.cons, cellish]) ?_
      intro w43 c43 B43
      conv => whnf
      refine CellK.of (run_loadAgg (n := 2) (by kernel_rfl) rfl B43.cells) ?_
      conv => whnf
      refine ⟨⟨r2, r9 - 30⟩, rfl, ⟨?_, ?_⟩, ((S22.chg c43 h.lt g1 (Nat.le_refl _)).more (by omega)), ((((((e1.mod.trans m7).trans m14).trans e16.mod).trans_new c17.but (fun k hk => Nat.le_trans (Nat.le_trans (Nat.le_trans (Below.size e1) (Mod.size m7)) (Mod.size m14)) (Nat.le_trans g16 (Nat.le_of_eq hk.symm)))).trans m23).trans_new c43.but (fun k hk => Nat.le_trans g1 (Nat.le_of_eq hk.symm)))⟩
      · simp only [i64ok]; omega
      · simp only [i64ok]; omega
theorem spec_DrawPartsText {w : World} {a : Option Addr} {n c : Nat} {xs : List UInt8} (h : Arr eB 1 w a n xs) :
    Does Tryz.prog 33 [.slice a n c] w (fun v w' => ∃ a' n' c' xs, v = .slice a' n' c' ∧ n' ≤ 42 ∧ n' ≤ c' ∧ (∀ x ∈ xs, x.ok) ∧ NewAt w.heap.size a' ∧ Own TPart.enc w' a' n' 81 xs ∧ Ext w w') := by
  refine Does.of_vc tabok Tryz.func33 rfl rfl rfl (by kernel_rfl) ?_; conv => whnf
  refine (spec_l00From h).mono ?_
  rintro _ w5 ⟨a'1, rfl, N2, S3, e4⟩
  conv => whnf
  refine (spec_l25Bent S3 (by omega)).mono ?_
  rintro _ w16 ⟨a'6, n'7, c'8, xs9, rfl, q10, q11, N12, G13, S14, m15⟩
  have leG13 := G13.le.1
  have lnG13 := G13.len
  conv => whnf
  refine ⟨_, _, _, _, rfl, by omega, by omega, ?_, (G13.new.mono (Below.size e4)), G13.own, (Ext.mod_trans e4 m15 (blkIn_new N2))⟩
  · exact fun x hx => partSm_ok (q11 x hx)
theorem spec_DrawApplyMove {w : World} {a : Option Addr} {n c : Nat} {xs : List UInt8} (h : Arr eB 1 w a n xs) :
    Does Tryz.prog 27 [.slice a n c] w (fun v w' => ∃ a' n' c' xs, ∃ m : TMove, v = .tuple #[.slice a' n' c', .agg ⟨m.enc⟩] ∧ n' ≤ 42 ∧ n' ≤ c' ∧ (∀ x ∈ xs, x.ok) ∧ m.ok ∧ NewAt w.heap.size a' ∧ Own TPart.enc w' a' n' 81 xs ∧ Ext w w') := by
  refine Does.of_vc tabok Tryz.func27 rfl rfl rfl (by kernel_rfl) ?_; conv => whnf
  refine SemK.alloc (z := .agg #[.int .i64 0, .int .i64 0]) (by kernel_rfl) ?_
  intro b1 w1 g1 l1 e1 B1
  conv => whnf
  refine (spec_l00From (h.ext e1)).mono ?_
  rintro _ w6 ⟨a'2, rfl, N3, S4, e5⟩
  conv => whnf
  refine (spec_l25Bent S4 (by omega)).mono ?_
  rintro _ w17 ⟨a'7, n'8, c'9, xs10, rfl, q11, q12, N13, G14, S15, m16⟩
  have leG14 := G14.le.1
  have lnG14 := G14.len
  conv => whnf
  refine (spec_l25DrawMove S15 (by omega)).mono ?_
  rintro _ w22 ⟨x18, rfl, q19, S20, m21⟩
  conv => whnf
  refine SemK.storeAll (by kernel_rfl) (B1.ext (Ext.mod_trans (Ext.mod_trans e5 m16 (blkIn_new N3)) m21 (blkIn_new N3))) (vs := x18.enc) rfl rfl (by simp [TMove.enc, cellish]) ?_
  intro w23 c23 B23
  conv => whnf
  refine CellK.of (run_loadAgg (n := 2) (by kernel_rfl) rfl B23.cells) ?_
  conv => whnf
  refine ⟨_, _, _, _, _, rfl, by omega, by omega, ?_, by omega, (G14.new.mono (Below.size (Ext.trans e1 e5))), ((G14.mod m21 (apart' G14.new S4.lt (Nat.le_refl _))).mod c23.but (apartChg' G14.new l1 (Below.size e5))).own, (Ext.but_trans (Ext.mod_trans (Ext.mod_trans (Ext.trans e1 e5) m16 (fun k hk => Nat.le_trans (Below.size e1) (blkIn_new N3 k hk))) m21 (fun k hk => Nat.le_trans (Below.size e1) (blkIn_new N3 k hk))) c23.but g1)⟩
  · exact fun x hx => partSm_ok (q12 x hx)
end Go.Proofs.YtfgbijddjoojbaaGreatDoor
