/- Contracts of functions of the given program, of the reference and of the laws: each says what a call returns, for all arguments that meet the premises that the theorem itself names. -/
import Derived.Test.YtjlhbaemfiaeiaaDraw
import Derived.Test.YtjlhbaemfiaeiaaFPart
import Derived.Test.YtjlhbaemfiaeiaaFMove
import Derived.Test.YtjlhbaemfiaeiaaKept
import Derived.Test.YtjlhbaemfiaeiaaStock2
import Derived.Test.YtjlhbaemfiaeiaaStock3
namespace Go.M
open Go Go.Vc
theorem strok_of_lt {s : ByteArray} (h : s.size ≤ 1000) : strok s := by unfold strok; omega
end Go.M
namespace Go.Proofs.Ytjlhbaemfiaeiaa
open Go Go.RowKit Go.Vc Go.M
theorem laws_f6big (a : Option Addr) (n c : Nat) (w : World) : Does Try.prog 21 [.slice a n c] w (fun v w' => v = .bool (decide (4096 < n)) ∧ w = w') := by
  refine Does.of_vc tabok Try.func21 rfl rfl rfl (by kernel_rfl) ?_; conv => whnf
  refine ⟨?_, rfl⟩
  · congr 1; exact decide_eq_decide.2 (by omega)
theorem laws_f6ints {w : World} {a a' : Option Addr} {n n' c c' : Nat} {xs ys : List Int} (h : Arr eI 1 w a n xs) (h' : Arr eI 1 w a' n' ys) :
    Does Try.prog 32 [.slice a n c, .slice a' n' c'] w (fun v w' => v = .bool (decide (xs = ys)) ∧ Ext w w') := by
  have hn := h.len
  have hn' := h'.len
  have hm := h.le
  refine Does.of_vc tabok Try.func32 rfl rfl rfl (by kernel_rfl) ?_; conv => whnf
  with_reducible refine IfB.ndec (fun h1 => ?_) (fun h1 => ?_)
  · conv => whnf
    refine ⟨?_, Ext.refl _⟩
    have : ¬ xs = ys := fun e => by subst e; omega
    rw [decide_eq_false this]
  · conv => whnf
    refine LoopK.rule [0, 1, 5] (fun (k : Nat) vs w' => vs = [.slice a n c, .slice a' n' c', .int .i64 k] ∧ k ≤ n ∧ xs.take k = ys.take k ∧ Ext w w') (fun k => n - k) tab tabok (by kernel_rfl) 0 ⟨rfl, by omega, by simp, Ext.refl _⟩ ?_
    rintro k g _ w' ⟨rfl, hk, hall, hE⟩
    conv => whnf
    with_reducible refine IfB.dec (fun h4 => ?_) (fun h4 => ?_)
    · obtain ⟨x, hx⟩ : ∃ x, xs[k]? = some x := get_of_lt (by omega)
      obtain ⟨y, hy⟩ : ∃ y, ys[k]? = some y := get_of_lt (by omega)
      conv => whnf
      refine DrawK.det tabok mixed (by kernel_rfl) (by kernel_rfl) ?_
      conv => whnf
      refine DSemK.index (by kernel_rfl) (h.ext hE) k rfl hx ?_
      intro b o _ hb
      conv => whnf
      refine DSemK.load0 (by kernel_rfl) hb rfl ?_
      conv => whnf
      refine DSemK.index (by kernel_rfl) (h'.ext hE) k rfl hy ?_
      intro b' o' _ hb'
      conv => whnf
      refine DSemK.load0 (by kernel_rfl) hb' rfl ?_
      conv => whnf
      intro w2 e2
      conv => whnf
      with_reducible refine IfB.ndec (fun h5 => ?_) (fun h5 => ?_)
      · conv => whnf
        exact ⟨by rw [decide_eq_false (ne_of_get hx hy h5)], Ext.trans hE e2⟩
      · conv => whnf
        refine SemK.add (k + 1) rfl (by omega) (by omega) ?_
        conv => whnf
        exact ⟨k + 1, by omega, rfl, by omega, take_eq_snoc hall hx hy h5, Ext.trans hE e2⟩
    · conv => whnf
      refine ⟨?_, hE⟩
      rw [decide_eq_true (eq_of_take hall (by omega) (by omega))]
theorem spec_l25Draw {w : World} {a0 : Option Addr} {k : Nat} (h : Src w a0 k) (hk : k ≤ 1000000) :
    Does Try.prog 162 [.pointer a0] w (fun v w' => ∃ a' n' c' xs, v = .slice a' n' c' ∧ n' ≤ 4 ∧ (∀ x ∈ xs, x.ok) ∧ NewAt w.heap.size a' ∧ Grow TPart.enc 4 w.heap.size 64 w' a' n' c' xs ∧ Src w' a0 (k + 100) ∧ Mod (blkIn a0) w w') := by
  refine Does.of_vc tabok Try.func162 rfl rfl rfl (by kernel_rfl) ?_; conv => whnf
  refine SemK.buildSlice mk_86 (vs := [Value.string { data := #[98, 111, 108, 116] }, Value.string { data := #[110, 117, 116] }, Value.string { data := #[114, 111, 100] }, Value.string { data := #[97, 45, 49] }]) (by rfl) (by rfl) (by simp [Value.cells]) (by decide) ?_
  intro b1 w1 g1 l1 e1 B1
  have G1 := Grow.of_blk (n := 4) (enc := eS) (xs := [{ data := #[98, 111, 108, 116] }, { data := #[110, 117, 116] }, { data := #[114, 111, 100] }, { data := #[97, 45, 49] }]) eS_len B1 g1 rfl (by decide)
  conv => whnf
  refine SemK.buildSlice mk_47 (vs := []) (by rfl) (by rfl) (by simp [Value.cells]) (by decide) ?_
  intro b2 w2 g2 l2 e2 B2
  have G2 := Grow.new0 (enc := TPart.enc) TPart.enc_len B2 g2
  conv => whnf
  obtain ⟨names, hN, G1'⟩ : ∃ names : List ByteArray, (∀ x ∈ names, strok x) ∧ Grow eS 1 w.heap.size 9 w1 (some ⟨b1, 0, none⟩) 4 4 names := ⟨_, by simp only [List.mem_cons, List.not_mem_nil, or_false]; rintro x (rfl | rfl | rfl | rfl) <;> exact Nat.le_of_ble_eq_true rfl, G1⟩
  clear G1 B1
  have hNl := G1'.len
  refine LoopK.rule [0, 3, 4, 5] (fun (j : Nat) vs w' => ∃ a1 n1 c1 xs1, vs = [.pointer a0, .slice (some ⟨b1, 0, none⟩) 4 4, .slice a1 n1 c1, .int .i64 j] ∧ j ≤ 4 ∧ n1 ≤ j ∧ (∀ x ∈ xs1, x.ok) ∧ Grow TPart.enc 4 w1.heap.size 64 w' a1 n1 c1 xs1 ∧ Arr eS 1 w' (some ⟨b1, 0, none⟩) 4 names ∧ Src w' a0 (k + 8 * j) ∧ Mod (blkIn a0) w1 w') (fun j => 4 - j) tab tabok (by kernel_rfl) 0
    ⟨_, _, _, _, rfl, by omega, by omega, by simp, G2, (G1'.ext e2).own.arr eS_len, (h.ext (Ext.trans e1 e2)).more (by omega), Ext.mod e2⟩ ?_
  rintro j g _ w3 ⟨a1, n1, c1, xs1, rfl, hj, hn1, hok1, hG, hA, hS, hM⟩
  conv => whnf
  with_reducible refine IfB.dec (fun h4 => ?_) (fun h4 => ?_)
  · conv => whnf
    refine (spec_one hS (by omega) (by omega)).mono ?_
    rintro _ w8 ⟨r5, rfl, S6, m7⟩
    conv => whnf
    with_reducible refine IfB.split (fun h9 => ?_) (fun h9 => ?_)
    · conv => whnf
      refine SemK.add (((j + 1 : Nat) : Int)) (by omega) (by omega) (by omega) ?_
      conv => whnf
      exact ⟨j + 1, by omega, _, _, _, _, rfl, by omega, by omega, by omega, by simpa [List.take_add_one, -List.take_append_getElem, *] using (hG.mod m7 (apart' hG.new h.lt (Below.size e1))), (hA.mod m7 (apart' G1'.new h.lt (Nat.le_refl _))), (S6.more (by omega)), (hM.trans m7)⟩
    · conv => whnf
      refine DrawK.mix tabok mixed (a0) [(0, .any), (1, .any), (2, .any), (3, .any), (5, .any), (7, .any), (9, .any), (4, .held), (6, .run), (8, .run), (10, .run), (11, .held), (12, .run), (13, .write), (14, .any)] (by kernel_rfl) (by kernel_rfl) ?_
      conv => whnf
      intro w10 e10
      conv => whnf
      obtain ⟨x11, hx11⟩ : ∃ x, names[j]? = some x := get_of_lt (by omega)
      have ok11 := hN _ (List.mem_of_getElem? hx11)
      refine PSemK.indexOwn (sz := 1) (by kernel_rfl) j rfl (by omega) ?_
      have hb12 := Own.elem eS_len (((G1'.mod hM (apart' G1'.new h.lt (Nat.le_refl _))).mod m7 (apart' G1'.new h.lt (Nat.le_refl _))).ext e10).own hx11
      conv => whnf
      refine BSemK.load0 (by kernel_rfl) (Sr.cells hb12 (blkNew h.lt g1 (Nat.le_refl _))) rfl ?_
      conv => whnf
      refine (spec_pick (S6.ext e10) (by omega) (by omega)).mono ?_
      rintro _ w19 ⟨r13, rfl, q14, q15, q16, S17, m18⟩
      conv => whnf
      refine ⟨m18, ?_⟩
      conv => whnf
      refine (spec_pick S17 (by omega) (by omega)).mono ?_
      rintro _ w26 ⟨r20, rfl, q21, q22, q23, S24, m25⟩
      conv => whnf
      refine ⟨(m18.trans m25), ?_⟩
      conv => whnf
      refine (spec_pick S24 (by omega) (by omega)).mono ?_
      rintro _ w33 ⟨r27, rfl, q28, q29, q30, S31, m32⟩
      conv => whnf
      refine ⟨((m18.trans m25).trans m32), ?_⟩
      conv => whnf
      refine BSemK.build st_64 rfl ?_
      conv => whnf
      refine SemK.buildSlice mk_47 (vs := [Value.agg #[Value.string x11, Value.int IntKind.i64 r13, Value.int IntKind.i64 r20, Value.int IntKind.i64 r27]]) (by rfl) (by rfl) (by simp [Value.cells]) (by decide) ?_
      intro b34 w34 g34 l34 e34 B34
      have G34 := Grow.of_blk (n := 1) (enc := TPart.enc) (xs := [⟨x11, r13, r20, r27⟩]) TPart.enc_len B34 g34 rfl (by decide)
      conv => whnf
      refine ⟨(((m18.trans m25).trans m32).trans e34.mod), ?_⟩
      conv => whnf
      refine SemK.appendArr0 (enc := TPart.enc) mk_47 TPart.enc_len ((((((hG.mod m7 (apart' hG.new h.lt (Below.size e1))).ext e10).mod m18 (apart' hG.new h.lt (Below.size e1))).mod m25 (apart' hG.new h.lt (Below.size e1))).mod m32 (apart' hG.new h.lt (Below.size e1))).ext e34) (G34.own.arr TPart.enc_len) (by intro y _; simp [TPart.enc, cellish]) (by omega) (by omega) (Nat.le_trans (Nat.le_trans (Nat.le_trans (Nat.le_trans (Nat.le_trans (Nat.le_trans (Mod.size hM) (Mod.size m7)) (Below.size e10)) (Mod.size m18)) (Mod.size m25)) (Mod.size m32)) (Below.size e34)) ?_
      intro a35 c35 w35 G35 m35 i35
      conv => whnf
      refine SemK.add (((j + 1 : Nat) : Int)) (by omega) (by omega) (by omega) ?_
      conv => whnf
      refine ⟨j + 1, by omega, _, _, _, _, rfl, by omega, by omega, ?_, G35, ?_, ?_, ?_⟩
      · intro y hy
        rcases List.mem_append.1 hy with hy | hy
        · exact hok1 y hy
        · rw [List.mem_singleton.1 hy]
          refine ⟨ok11, ?_, ?_, ?_⟩ <;> simp only [i64ok] <;> omega
      · exact (((((((hA.mod m7 (apart' G1'.new h.lt (Nat.le_refl _))).ext e10).mod m18 (apart' G1'.new h.lt (Nat.le_refl _))).mod m25 (apart' G1'.new h.lt (Nat.le_refl _))).mod m32 (apart' G1'.new h.lt (Nat.le_refl _))).ext e34).mod m35 (apart G1'.lt hG.new (Nat.le_refl _)))
      · exact (((S31.ext e34).mod m35 (later h.lt hG.new (Below.size e1))).more (by omega))
      · exact (((((((hM.trans m7).trans e10.mod).trans m18).trans m25).trans m32).trans e34.mod).trans_new m35 (fun k hk => Nat.le_trans (Nat.le_refl _) (blkIn_new hG.new k hk)))
  · conv => whnf
    have kn36 : j = 4 := by omega
    have tk37 : List.take j names = names := List.take_of_length_le (by omega)
    refine ⟨_, _, _, _, rfl, by omega, hok1, (hG.new.mono (Below.size e1)), ?_, (hS.more (by omega)), (e1.mod.trans hM)⟩
    · exact hG.base (Below.size e1)
theorem spec_l25Bent {w : World} {a0 : Option Addr} {k : Nat} (h : Src w a0 k) (hk : k ≤ 1000000) :
    Does Try.prog 110 [.pointer a0] w (fun v w' => ∃ a' n' c' xs, v = .slice a' n' c' ∧ n' ≤ 42 ∧ (∀ x ∈ xs, x.ok) ∧ NewAt w.heap.size a' ∧ Grow TPart.enc 4 w.heap.size 64 w' a' n' c' xs ∧ Src w' a0 (k + 200) ∧ Mod (blkIn a0) w w') := by
  refine Does.of_vc tabok Try.func110 rfl rfl rfl (by kernel_rfl) ?_; conv => whnf
  refine (spec_l25Draw h hk).mono ?_
  rintro _ w11 ⟨a'1, n'2, c'3, xs4, rfl, q5, q6, N7, G8, S9, m10⟩
  have ln8 := G8.len
  conv => whnf
  refine (spec_one S9 (by omega) (by omega)).mono ?_
  rintro _ w15 ⟨r12, rfl, S13, m14⟩
  conv => whnf
  with_reducible refine IfB.split (fun h16 => ?_) (fun h16 => ?_)
  · conv => whnf
    refine SemK.buildSlice mk_47 (vs := []) (by rfl) (by rfl) (by simp [Value.cells]) (by decide) ?_
    intro b17 w17 g17 l17 e17 B17
    have G17 := Grow.new0 (enc := TPart.enc) TPart.enc_len B17 g17
    conv => whnf
    refine (spec_pick (S13.ext e17) (by omega) (by omega)).mono ?_
    rintro _ w24 ⟨r18, rfl, q19, q20, q21, S22, m23⟩
    conv => whnf
    refine SemK.add _ rfl (by omega) (by omega) ?_
    conv => whnf
    refine LoopK.rule [0, 3, 4] (fun (j : Int) vs w' => ∃ a1 n1 c1 xs1, vs = [.pointer a0, .slice a1 n1 c1, .int .i64 j] ∧ 0 ≤ j ∧ n1 + j ≤ 41 ∧ (∀ x ∈ xs1, x.ok) ∧ Grow TPart.enc 4 w15.heap.size 64 w' a1 n1 c1 xs1 ∧ Src w' a0 (k + 110) ∧ Mod (blkIn a0) w15 w') (fun j => j.toNat) tab tabok (by kernel_rfl) (40 + r18)
      ⟨_, _, _, _, rfl, by omega, by omega, by simp, G17.mod m23 (apart' G17.new S13.lt (Nat.le_refl _)), S22.more (by omega), e17.mod.trans m23⟩ ?_
    rintro j g _ w25 ⟨a1, n1, c1, xs1, rfl, hj, hn1, hok1, hG, hS, hM⟩
    have lnG := hG.len
    conv => whnf
    with_reducible refine IfB.dec (fun h26 => ?_) (fun h26 => ?_)
    · conv => whnf
      refine SemK.quo (by omega) (by omega) (by omega) ?_
      conv => whnf
      refine SemK.add _ rfl (by omega) (by omega) ?_
      conv => whnf
      refine SemK.conv (k := .u8) (by kernel_rfl) (by kernel_rfl) (u8_wrap (by omega) (by omega)) ?_
      conv => whnf
      refine SemK.rem (by omega) (by omega) ?_
      conv => whnf
      refine SemK.add _ rfl (by omega) (by omega) ?_
      conv => whnf
      refine SemK.conv (k := .u8) (by kernel_rfl) (by kernel_rfl) (u8_wrap (by omega) (by omega)) ?_
      conv => whnf
      obtain ⟨y1, hy1⟩ := u8_of (n := 97 + (n1 : Int) / 26) (by omega) (by omega)
      obtain ⟨y2, hy2⟩ := u8_of (n := 97 + (n1 : Int) % 26) (by omega) (by omega)
      rw [← hy1, ← hy2]
      refine SemK.buildSlice mk_36 (vs := [Value.int IntKind.u8 y1.toNat, Value.int IntKind.u8 y2.toNat]) (by rfl) (by rfl) (by simp [Value.cells]) (by decide) ?_
      intro b27 w27 g27 l27 e27 B27
      have G27 := Grow.of_blk (n := 2) (enc := eB) (xs := [y1, y2]) eB_len (by simpa [flat, cellsOf, Value.cells, eB] using B27) g27 rfl (by decide)
      conv => whnf
      refine SemK.toStrG (by kernel_rfl) (by kernel_rfl) G27 ?_
      conv => whnf
      refine SemK.cat (by simp only [ByteArray.size_append, bs_size, sizeC, sizeT, List.length_cons, List.length_nil]; omega) ?_
      conv => whnf
      refine SemK.build st_64 rfl ?_
      conv => whnf
      refine SemK.buildSlice mk_47 (vs := [Value.agg #[Value.string ({ data := #[112] } ++ bs [y1, y2]), Value.int IntKind.i64 ↑n1, Value.int IntKind.i64 0, Value.int IntKind.i64 ↑n1]]) (by rfl) (by rfl) (by simp [Value.cells]) (by decide) ?_
      intro b28 w28 g28 l28 e28 B28
      have G28 := Grow.of_blk (n := 1) (enc := TPart.enc) (xs := [⟨{ data := #[112] } ++ bs [y1, y2], ↑n1, 0, ↑n1⟩]) TPart.enc_len B28 g28 rfl (by decide)
      conv => whnf
      refine SemK.appendArr0 (enc := TPart.enc) mk_47 TPart.enc_len (hG.ext (Ext.trans e27 e28)) (G28.own.arr TPart.enc_len) (by intro y _; simp [TPart.enc, cellish]) (by omega) (by omega) (Nat.le_trans (Nat.le_trans (Mod.size hM) (Below.size e27)) (Below.size e28)) ?_
      intro a29 c29 w29 G29 m29 i29
      conv => whnf
      refine SemK.sub _ rfl (by omega) (by omega) ?_
      conv => whnf
      refine ⟨j - 1, by omega, _, _, _, _, rfl, by omega, by omega, all_snoc hok1 ?_, G29, ?_, ?_⟩
      · refine ⟨Nat.le_of_ble_eq_true rfl, ?_, ?_, ?_⟩ <;> simp only [i64ok] <;> omega
      · exact ((hS.ext (Ext.trans e27 e28)).mod m29 (later h.lt hG.new (Nat.le_trans (Mod.size m10) (Mod.size m14))))
      · exact (((hM.trans e27.mod).trans e28.mod).trans_new m29 (fun k hk => Nat.le_trans (Nat.le_refl _) (blkIn_new hG.new k hk)))
    · conv => whnf
      with_reducible refine IfB.dec (fun h28 => ?_) (fun h28 => ?_)
      · conv => whnf
        exact ⟨_, _, _, _, rfl, by omega, by omega, (hG.new.mono (Nat.le_trans (Mod.size m10) (Mod.size m14))), (hG.base (Nat.le_trans (Mod.size m10) (Mod.size m14))), (hS.more (by omega)), ((m10.trans m14).trans hM)⟩
      · conv => whnf
        refine (spec_pick hS (by omega) (by omega)).mono ?_
        rintro _ w35 ⟨r29, rfl, q30, q31, q32, S33, m34⟩
        conv => whnf
        obtain ⟨x36, hx36⟩ : ∃ x, xs1[(r29).toNat]? = some x := get_of_lt (by omega)
        have ok36 := hok1 _ (List.mem_of_getElem? hx36)
        obtain ⟨b37, rfl⟩ := ((hG.mod m34 (apart' hG.new h.lt (Nat.le_trans (Mod.size m10) (Mod.size m14)))).own).some (by omega)
        have gb37 : w15.heap.size ≤ b37 := hG.new _ rfl
        have lb37 : b37 < w25.heap.size := hG.lt _ rfl
        refine SemK.indexOwn (sz := 4) (by kernel_rfl) (r29).toNat (by omega) (by omega) ?_
        have hb37 := Own.elem TPart.enc_len (hG.mod m34 (apart' hG.new h.lt (Nat.le_trans (Mod.size m10) (Mod.size m14)))).own hx36
        conv => whnf
        refine (spec_pick S33 (by omega) (by omega)).mono ?_
        rintro _ w44 ⟨r38, rfl, q39, q40, q41, S42, m43⟩
        conv => whnf
        with_reducible refine IfB.dec (fun h45 => ?_) (fun h45 => ?_)
        · conv => whnf
          refine SemK.buildSlice mk_86 (vs := [Value.string { data := #[] }, Value.string { data := #[66, 111, 108, 116] }, Value.string { data := #[98, 111, 108, 116] }]) (by rfl) (by rfl) (by simp [Value.cells]) (by decide) ?_
          intro b46 w46 g46 l46 e46 B46
          have G46 := Grow.of_blk (n := 3) (enc := eS) (xs := [{ data := #[] }, { data := #[66, 111, 108, 116] }, { data := #[98, 111, 108, 116] }]) eS_len B46 g46 rfl (by decide)
          conv => whnf
          refine (spec_text (S42.ext e46) (by omega) (G46.own.arr eS_len) (apart' G46.new h.lt (Nat.le_trans (Nat.le_trans (Nat.le_trans (Nat.le_trans (Mod.size m10) (Mod.size m14)) (Mod.size hM)) (Mod.size m34)) (Mod.size m43))) (by omega) (by omega)).mono ?_
          rintro _ w51 ⟨r47, rfl, q48, S49, m50⟩
          conv => whnf
          refine SemK.storeGrow1 (k := r29.toNat) (j := 0) (by kernel_rfl) TPart.enc_len ((((hG.mod m34 (apart' (NewAt.some gb37) h.lt (Nat.le_trans (Mod.size m10) (Mod.size m14)))).mod m43 (apart' (NewAt.some gb37) h.lt (Nat.le_trans (Mod.size m10) (Mod.size m14)))).ext e46).mod m50 (apart' (NewAt.some gb37) h.lt (Nat.le_trans (Mod.size m10) (Mod.size m14)))) hx36 (by decide) rfl { x36 with name := r47 } rfl ?_
          intro w52 c52 B52
          have hx52 := set_get hx36 ({ x36 with name := r47 })
          conv => whnf
          refine ⟨_, _, _, _, rfl, by omega, ?_, (B52.new.mono (Nat.le_trans (Mod.size m10) (Mod.size m14))), (B52.base (Nat.le_trans (Mod.size m10) (Mod.size m14))), ((S49.chg c52 h.lt gb37 (Nat.le_trans (Mod.size m10) (Mod.size m14))).more (by omega)), (((((((m10.trans m14).trans hM).trans m34).trans m43).trans e46.mod).trans m50).trans_new c52.but (fun k hk => Nat.le_trans (Nat.le_trans (Mod.size m10) (Mod.size m14)) (Nat.le_trans gb37 (Nat.le_of_eq hk.symm))))⟩
          · refine all_set hok1 ?_ _; refine ⟨?_, ok36.2.1, ok36.2.2.1, ok36.2.2.2⟩; simp only [List.mem_cons, List.not_mem_nil, or_false] at q48; (repeat' (rcases q48 with rfl | q48)); all_goals first | exact Nat.le_of_ble_eq_true rfl | (subst q48; exact Nat.le_of_ble_eq_true rfl) | (simp [i64ok]; done) | (subst q48; simp [i64ok]; done)
        · conv => whnf
          with_reducible refine IfB.dec (fun h53 => ?_) (fun h53 => ?_)
          · conv => whnf
            refine SemK.buildSlice mk_39 (vs := [Value.int IntKind.i64 (-1), Value.int IntKind.i64 0, Value.int IntKind.i64 1000000, Value.int IntKind.i64 1000001]) (by rfl) (by rfl) (by simp [Value.cells]) (by decide) ?_
            intro b54 w54 g54 l54 e54 B54
            have G54 := Grow.of_blk (n := 4) (enc := eI) (xs := [-1, 0, 1000000, 1000001]) eI_len B54 g54 rfl (by decide)
            conv => whnf
            refine (spec_among (S42.ext e54) (by omega) (G54.own.arr eI_len) (apart' G54.new h.lt (Nat.le_trans (Nat.le_trans (Nat.le_trans (Nat.le_trans (Mod.size m10) (Mod.size m14)) (Mod.size hM)) (Mod.size m34)) (Mod.size m43))) (by omega) (by omega)).mono ?_
            rintro _ w59 ⟨r55, rfl, q56, S57, m58⟩
            conv => whnf
            refine SemK.storeGrow1 (k := r29.toNat) (j := 1) (by kernel_rfl) TPart.enc_len ((((hG.mod m34 (apart' (NewAt.some gb37) h.lt (Nat.le_trans (Mod.size m10) (Mod.size m14)))).mod m43 (apart' (NewAt.some gb37) h.lt (Nat.le_trans (Mod.size m10) (Mod.size m14)))).ext e54).mod m58 (apart' (NewAt.some gb37) h.lt (Nat.le_trans (Mod.size m10) (Mod.size m14)))) hx36 (by decide) rfl { x36 with count := r55 } rfl ?_
            intro w60 c60 B60
            have hx60 := set_get hx36 ({ x36 with count := r55 })
            conv => whnf
            refine ⟨_, _, _, _, rfl, by omega, ?_, (B60.new.mono (Nat.le_trans (Mod.size m10) (Mod.size m14))), (B60.base (Nat.le_trans (Mod.size m10) (Mod.size m14))), ((S57.chg c60 h.lt gb37 (Nat.le_trans (Mod.size m10) (Mod.size m14))).more (by omega)), (((((((m10.trans m14).trans hM).trans m34).trans m43).trans e54.mod).trans m58).trans_new c60.but (fun k hk => Nat.le_trans (Nat.le_trans (Mod.size m10) (Mod.size m14)) (Nat.le_trans gb37 (Nat.le_of_eq hk.symm))))⟩
            · refine all_set hok1 ?_ _; refine ⟨ok36.1, ?_, ok36.2.2.1, ok36.2.2.2⟩; simp only [List.mem_cons, List.not_mem_nil, or_false] at q56; (repeat' (rcases q56 with rfl | q56)); all_goals first | exact Nat.le_of_ble_eq_true rfl | (subst q56; exact Nat.le_of_ble_eq_true rfl) | (simp [i64ok]; done) | (subst q56; simp [i64ok]; done)
          · conv => whnf
            with_reducible refine IfB.dec (fun h61 => ?_) (fun h61 => ?_)
            · conv => whnf
              refine SemK.buildSlice mk_39 (vs := [Value.int IntKind.i64 (-1), Value.int IntKind.i64 0, Value.int IntKind.i64 1000000, Value.int IntKind.i64 1000001, Value.int IntKind.i64 (-9223372036854775808)]) (by rfl) (by rfl) (by simp [Value.cells]) (by decide) ?_
              intro b62 w62 g62 l62 e62 B62
              have G62 := Grow.of_blk (n := 5) (enc := eI) (xs := [-1, 0, 1000000, 1000001, -9223372036854775808]) eI_len B62 g62 rfl (by decide)
              conv => whnf
              refine (spec_among (S42.ext e62) (by omega) (G62.own.arr eI_len) (apart' G62.new h.lt (Nat.le_trans (Nat.le_trans (Nat.le_trans (Nat.le_trans (Mod.size m10) (Mod.size m14)) (Mod.size hM)) (Mod.size m34)) (Mod.size m43))) (by omega) (by omega)).mono ?_
              rintro _ w67 ⟨r63, rfl, q64, S65, m66⟩
              conv => whnf
              refine SemK.storeGrow1 (k := r29.toNat) (j := 2) (by kernel_rfl) TPart.enc_len ((((hG.mod m34 (apart' (NewAt.some gb37) h.lt (Nat.le_trans (Mod.size m10) (Mod.size m14)))).mod m43 (apart' (NewAt.some gb37) h.lt (Nat.le_trans (Mod.size m10) (Mod.size m14)))).ext e62).mod m66 (apart' (NewAt.some gb37) h.lt (Nat.le_trans (Mod.size m10) (Mod.size m14)))) hx36 (by decide) rfl { x36 with least := r63 } rfl ?_
              intro w68 c68 B68
              have hx68 := set_get hx36 ({ x36 with least := r63 })
              conv => whnf
              refine ⟨_, _, _, _, rfl, by omega, ?_, (B68.new.mono (Nat.le_trans (Mod.size m10) (Mod.size m14))), (B68.base (Nat.le_trans (Mod.size m10) (Mod.size m14))), ((S65.chg c68 h.lt gb37 (Nat.le_trans (Mod.size m10) (Mod.size m14))).more (by omega)), (((((((m10.trans m14).trans hM).trans m34).trans m43).trans e62.mod).trans m66).trans_new c68.but (fun k hk => Nat.le_trans (Nat.le_trans (Mod.size m10) (Mod.size m14)) (Nat.le_trans gb37 (Nat.le_of_eq hk.symm))))⟩
              · refine all_set hok1 ?_ _; refine ⟨ok36.1, ok36.2.1, ?_, ok36.2.2.2⟩; simp only [List.mem_cons, List.not_mem_nil, or_false] at q64; (repeat' (rcases q64 with rfl | q64)); all_goals first | exact Nat.le_of_ble_eq_true rfl | (subst q64; exact Nat.le_of_ble_eq_true rfl) | (simp [i64ok]; done) | (subst q64; simp [i64ok]; done)
            · conv => whnf
              with_reducible refine IfB.dec (fun h69 => ?_) (fun h69 => ?_)
              · conv => whnf
                refine SemK.buildSlice mk_39 (vs := [Value.int IntKind.i64 (-1), Value.int IntKind.i64 0, Value.int IntKind.i64 1000000, Value.int IntKind.i64 1000001]) (by rfl) (by rfl) (by simp [Value.cells]) (by decide) ?_
                intro b70 w70 g70 l70 e70 B70
                have G70 := Grow.of_blk (n := 4) (enc := eI) (xs := [-1, 0, 1000000, 1000001]) eI_len B70 g70 rfl (by decide)
                conv => whnf
                refine (spec_among (S42.ext e70) (by omega) (G70.own.arr eI_len) (apart' G70.new h.lt (Nat.le_trans (Nat.le_trans (Nat.le_trans (Nat.le_trans (Mod.size m10) (Mod.size m14)) (Mod.size hM)) (Mod.size m34)) (Mod.size m43))) (by omega) (by omega)).mono ?_
                rintro _ w75 ⟨r71, rfl, q72, S73, m74⟩
                conv => whnf
                refine SemK.storeGrow1 (k := r29.toNat) (j := 3) (by kernel_rfl) TPart.enc_len ((((hG.mod m34 (apart' (NewAt.some gb37) h.lt (Nat.le_trans (Mod.size m10) (Mod.size m14)))).mod m43 (apart' (NewAt.some gb37) h.lt (Nat.le_trans (Mod.size m10) (Mod.size m14)))).ext e70).mod m74 (apart' (NewAt.some gb37) h.lt (Nat.le_trans (Mod.size m10) (Mod.size m14)))) hx36 (by decide) rfl { x36 with price := r71 } rfl ?_
                intro w76 c76 B76
                have hx76 := set_get hx36 ({ x36 with price := r71 })
                conv => whnf
                refine ⟨_, _, _, _, rfl, by omega, ?_, (B76.new.mono (Nat.le_trans (Mod.size m10) (Mod.size m14))), (B76.base (Nat.le_trans (Mod.size m10) (Mod.size m14))), ((S73.chg c76 h.lt gb37 (Nat.le_trans (Mod.size m10) (Mod.size m14))).more (by omega)), (((((((m10.trans m14).trans hM).trans m34).trans m43).trans e70.mod).trans m74).trans_new c76.but (fun k hk => Nat.le_trans (Nat.le_trans (Mod.size m10) (Mod.size m14)) (Nat.le_trans gb37 (Nat.le_of_eq hk.symm))))⟩
                · refine all_set hok1 ?_ _; refine ⟨ok36.1, ok36.2.1, ok36.2.2.1, ?_⟩; simp only [List.mem_cons, List.not_mem_nil, or_false] at q72; (repeat' (rcases q72 with rfl | q72)); all_goals first | exact Nat.le_of_ble_eq_true rfl | (subst q72; exact Nat.le_of_ble_eq_true rfl) | (simp [i64ok]; done) | (subst q72; simp [i64ok]; done)
              · conv => whnf
                exact ⟨_, _, _, _, rfl, by omega, by omega, (hG.new.mono (Nat.le_trans (Mod.size m10) (Mod.size m14))), (((hG.mod m34 (apart' (NewAt.some gb37) h.lt (Nat.le_trans (Mod.size m10) (Mod.size m14)))).mod m43 (apart' (NewAt.some gb37) h.lt (Nat.le_trans (Mod.size m10) (Mod.size m14)))).base (Nat.le_trans (Mod.size m10) (Mod.size m14))), (S42.more (by omega)), ((((m10.trans m14).trans hM).trans m34).trans m43)⟩
  · conv => whnf
    with_reducible refine IfB.dec (fun h25 => ?_) (fun h25 => ?_)
    · conv => whnf
      exact ⟨_, _, _, _, rfl, by omega, by omega, G8.new, (G8.mod m14 (apart' G8.new h.lt (Nat.le_refl _))), (S13.more (by omega)), (m10.trans m14)⟩
    · conv => whnf
      refine (spec_pick S13 (by omega) (by omega)).mono ?_
      rintro _ w32 ⟨r26, rfl, q27, q28, q29, S30, m31⟩
      conv => whnf
      obtain ⟨x33, hx33⟩ : ∃ x, xs4[(r26).toNat]? = some x := get_of_lt (by omega)
      have ok33 := q6 _ (List.mem_of_getElem? hx33)
      obtain ⟨b34, rfl⟩ := (((G8.mod m14 (apart' G8.new h.lt (Nat.le_refl _))).mod m31 (apart' G8.new h.lt (Nat.le_refl _))).own).some (by omega)
      have gb34 : w.heap.size ≤ b34 := G8.new _ rfl
      have lb34 : b34 < w11.heap.size := G8.lt _ rfl
      refine SemK.indexOwn (sz := 4) (by kernel_rfl) (r26).toNat (by omega) (by omega) ?_
      have hb34 := Own.elem TPart.enc_len ((G8.mod m14 (apart' G8.new h.lt (Nat.le_refl _))).mod m31 (apart' G8.new h.lt (Nat.le_refl _))).own hx33
      conv => whnf
      refine (spec_pick S30 (by omega) (by omega)).mono ?_
      rintro _ w41 ⟨r35, rfl, q36, q37, q38, S39, m40⟩
      conv => whnf
      with_reducible refine IfB.dec (fun h42 => ?_) (fun h42 => ?_)
      · conv => whnf
        refine SemK.buildSlice mk_86 (vs := [Value.string { data := #[] }, Value.string { data := #[66, 111, 108, 116] }, Value.string { data := #[98, 111, 108, 116] }]) (by rfl) (by rfl) (by simp [Value.cells]) (by decide) ?_
        intro b43 w43 g43 l43 e43 B43
        have G43 := Grow.of_blk (n := 3) (enc := eS) (xs := [{ data := #[] }, { data := #[66, 111, 108, 116] }, { data := #[98, 111, 108, 116] }]) eS_len B43 g43 rfl (by decide)
        conv => whnf
        refine (spec_text (S39.ext e43) (by omega) (G43.own.arr eS_len) (apart' G43.new h.lt (Nat.le_trans (Nat.le_trans (Nat.le_trans (Mod.size m10) (Mod.size m14)) (Mod.size m31)) (Mod.size m40))) (by omega) (by omega)).mono ?_
        rintro _ w48 ⟨r44, rfl, q45, S46, m47⟩
        conv => whnf
        refine SemK.storeGrow1 (k := r26.toNat) (j := 0) (by kernel_rfl) TPart.enc_len (((((G8.mod m14 (apart' (NewAt.some gb34) h.lt (Nat.le_refl _))).mod m31 (apart' (NewAt.some gb34) h.lt (Nat.le_refl _))).mod m40 (apart' (NewAt.some gb34) h.lt (Nat.le_refl _))).ext e43).mod m47 (apart' (NewAt.some gb34) h.lt (Nat.le_refl _))) hx33 (by decide) rfl { x33 with name := r44 } rfl ?_
        intro w49 c49 B49
        have hx49 := set_get hx33 ({ x33 with name := r44 })
        conv => whnf
        refine ⟨_, _, _, _, rfl, by omega, ?_, B49.new, B49, ((S46.chg c49 h.lt gb34 (Nat.le_refl _)).more (by omega)), ((((((m10.trans m14).trans m31).trans m40).trans e43.mod).trans m47).trans_new c49.but (fun k hk => Nat.le_trans (Nat.le_refl _) (Nat.le_trans gb34 (Nat.le_of_eq hk.symm))))⟩
        · refine all_set q6 ?_ _; refine ⟨?_, ok33.2.1, ok33.2.2.1, ok33.2.2.2⟩; simp only [List.mem_cons, List.not_mem_nil, or_false] at q45; rcases q45 with rfl | rfl | rfl <;> exact Nat.le_of_ble_eq_true rfl
      · conv => whnf
        with_reducible refine IfB.dec (fun h50 => ?_) (fun h50 => ?_)
        · conv => whnf
          refine SemK.buildSlice mk_39 (vs := [Value.int IntKind.i64 (-1), Value.int IntKind.i64 0, Value.int IntKind.i64 1000000, Value.int IntKind.i64 1000001]) (by rfl) (by rfl) (by simp [Value.cells]) (by decide) ?_
          intro b51 w51 g51 l51 e51 B51
          have G51 := Grow.of_blk (n := 4) (enc := eI) (xs := [-1, 0, 1000000, 1000001]) eI_len B51 g51 rfl (by decide)
          conv => whnf
          refine (spec_among (S39.ext e51) (by omega) (G51.own.arr eI_len) (apart' G51.new h.lt (Nat.le_trans (Nat.le_trans (Nat.le_trans (Mod.size m10) (Mod.size m14)) (Mod.size m31)) (Mod.size m40))) (by omega) (by omega)).mono ?_
          rintro _ w56 ⟨r52, rfl, q53, S54, m55⟩
          conv => whnf
          refine SemK.storeGrow1 (k := r26.toNat) (j := 1) (by kernel_rfl) TPart.enc_len (((((G8.mod m14 (apart' (NewAt.some gb34) h.lt (Nat.le_refl _))).mod m31 (apart' (NewAt.some gb34) h.lt (Nat.le_refl _))).mod m40 (apart' (NewAt.some gb34) h.lt (Nat.le_refl _))).ext e51).mod m55 (apart' (NewAt.some gb34) h.lt (Nat.le_refl _))) hx33 (by decide) rfl { x33 with count := r52 } rfl ?_
          intro w57 c57 B57
          have hx57 := set_get hx33 ({ x33 with count := r52 })
          conv => whnf
          refine ⟨_, _, _, _, rfl, by omega, ?_, B57.new, B57, ((S54.chg c57 h.lt gb34 (Nat.le_refl _)).more (by omega)), ((((((m10.trans m14).trans m31).trans m40).trans e51.mod).trans m55).trans_new c57.but (fun k hk => Nat.le_trans (Nat.le_refl _) (Nat.le_trans gb34 (Nat.le_of_eq hk.symm))))⟩
          · refine all_set q6 ?_ _; refine ⟨ok33.1, ?_, ok33.2.2.1, ok33.2.2.2⟩; simp only [List.mem_cons, List.not_mem_nil, or_false] at q53; rcases q53 with rfl | rfl | rfl | rfl <;> simp [i64ok]
        · conv => whnf
          with_reducible refine IfB.dec (fun h58 => ?_) (fun h58 => ?_)
          · conv => whnf
            refine SemK.buildSlice mk_39 (vs := [Value.int IntKind.i64 (-1), Value.int IntKind.i64 0, Value.int IntKind.i64 1000000, Value.int IntKind.i64 1000001, Value.int IntKind.i64 (-9223372036854775808)]) (by rfl) (by rfl) (by simp [Value.cells]) (by decide) ?_
            intro b59 w59 g59 l59 e59 B59
            have G59 := Grow.of_blk (n := 5) (enc := eI) (xs := [-1, 0, 1000000, 1000001, -9223372036854775808]) eI_len B59 g59 rfl (by decide)
            conv => whnf
            refine (spec_among (S39.ext e59) (by omega) (G59.own.arr eI_len) (apart' G59.new h.lt (Nat.le_trans (Nat.le_trans (Nat.le_trans (Mod.size m10) (Mod.size m14)) (Mod.size m31)) (Mod.size m40))) (by omega) (by omega)).mono ?_
            rintro _ w64 ⟨r60, rfl, q61, S62, m63⟩
            conv => whnf
            refine SemK.storeGrow1 (k := r26.toNat) (j := 2) (by kernel_rfl) TPart.enc_len (((((G8.mod m14 (apart' (NewAt.some gb34) h.lt (Nat.le_refl _))).mod m31 (apart' (NewAt.some gb34) h.lt (Nat.le_refl _))).mod m40 (apart' (NewAt.some gb34) h.lt (Nat.le_refl _))).ext e59).mod m63 (apart' (NewAt.some gb34) h.lt (Nat.le_refl _))) hx33 (by decide) rfl { x33 with least := r60 } rfl ?_
            intro w65 c65 B65
            have hx65 := set_get hx33 ({ x33 with least := r60 })
            conv => whnf
            refine ⟨_, _, _, _, rfl, by omega, ?_, B65.new, B65, ((S62.chg c65 h.lt gb34 (Nat.le_refl _)).more (by omega)), ((((((m10.trans m14).trans m31).trans m40).trans e59.mod).trans m63).trans_new c65.but (fun k hk => Nat.le_trans (Nat.le_refl _) (Nat.le_trans gb34 (Nat.le_of_eq hk.symm))))⟩
            · refine all_set q6 ?_ _; refine ⟨ok33.1, ok33.2.1, ?_, ok33.2.2.2⟩; simp only [List.mem_cons, List.not_mem_nil, or_false] at q61; rcases q61 with rfl | rfl | rfl | rfl | rfl <;> simp [i64ok]
          · conv => whnf
            with_reducible refine IfB.dec (fun h66 => ?_) (fun h66 => ?_)
            · conv => whnf
              refine SemK.buildSlice mk_39 (vs := [Value.int IntKind.i64 (-1), Value.int IntKind.i64 0, Value.int IntKind.i64 1000000, Value.int IntKind.i64 1000001]) (by rfl) (by rfl) (by simp [Value.cells]) (by decide) ?_
              intro b67 w67 g67 l67 e67 B67
              have G67 := Grow.of_blk (n := 4) (enc := eI) (xs := [-1, 0, 1000000, 1000001]) eI_len B67 g67 rfl (by decide)
              conv => whnf
              refine (spec_among (S39.ext e67) (by omega) (G67.own.arr eI_len) (apart' G67.new h.lt (Nat.le_trans (Nat.le_trans (Nat.le_trans (Mod.size m10) (Mod.size m14)) (Mod.size m31)) (Mod.size m40))) (by omega) (by omega)).mono ?_
              rintro _ w72 ⟨r68, rfl, q69, S70, m71⟩
              conv => whnf
              refine SemK.storeGrow1 (k := r26.toNat) (j := 3) (by kernel_rfl) TPart.enc_len (((((G8.mod m14 (apart' (NewAt.some gb34) h.lt (Nat.le_refl _))).mod m31 (apart' (NewAt.some gb34) h.lt (Nat.le_refl _))).mod m40 (apart' (NewAt.some gb34) h.lt (Nat.le_refl _))).ext e67).mod m71 (apart' (NewAt.some gb34) h.lt (Nat.le_refl _))) hx33 (by decide) rfl { x33 with price := r68 } rfl ?_
              intro w73 c73 B73
              have hx73 := set_get hx33 ({ x33 with price := r68 })
              conv => whnf
              refine ⟨_, _, _, _, rfl, by omega, ?_, B73.new, B73, ((S70.chg c73 h.lt gb34 (Nat.le_refl _)).more (by omega)), ((((((m10.trans m14).trans m31).trans m40).trans e67.mod).trans m71).trans_new c73.but (fun k hk => Nat.le_trans (Nat.le_refl _) (Nat.le_trans gb34 (Nat.le_of_eq hk.symm))))⟩
              · refine all_set q6 ?_ _; refine ⟨ok33.1, ok33.2.1, ok33.2.2.1, ?_⟩; simp only [List.mem_cons, List.not_mem_nil, or_false] at q69; rcases q69 with rfl | rfl | rfl | rfl <;> simp [i64ok]
            · conv => whnf
              exact ⟨_, _, _, _, rfl, by omega, by omega, G8.new, (((G8.mod m14 (apart' (NewAt.some gb34) h.lt (Nat.le_refl _))).mod m31 (apart' (NewAt.some gb34) h.lt (Nat.le_refl _))).mod m40 (apart' (NewAt.some gb34) h.lt (Nat.le_refl _))), (S39.more (by omega)), (((m10.trans m14).trans m31).trans m40)⟩
theorem spec_DrawToOrder {w : World} {a : Option Addr} {n c : Nat} {xs : List UInt8} (h : Arr eB 1 w a n xs) :
    Does Try.prog 34 [.slice a n c] w (fun v w' => ∃ a' n' c' xs, v = .slice a' n' c' ∧ n' ≤ 42 ∧ n' ≤ c' ∧ (∀ x ∈ xs, x.ok) ∧ NewAt w.heap.size a' ∧ Own TPart.enc w' a' n' 64 xs ∧ Ext w w') := by
  refine Does.of_vc tabok Try.func34 rfl rfl rfl (by kernel_rfl) ?_; conv => whnf
  refine (spec_l00From h).mono ?_
  rintro _ w5 ⟨a'1, rfl, N2, S3, e4⟩
  conv => whnf
  refine (spec_l25Bent S3 (by omega)).mono ?_
  rintro _ w16 ⟨a'6, n'7, c'8, xs9, rfl, q10, q11, N12, G13, S14, m15⟩
  have leG13 := G13.le.1
  have lnG13 := G13.len
  conv => whnf
  exact ⟨_, _, _, _, rfl, by omega, by omega, by omega, (G13.new.mono (Below.size e4)), G13.own, (Ext.mod_trans e4 m15 (blkIn_new N2))⟩
theorem spec_DrawStockValue {w : World} {a : Option Addr} {n c : Nat} {xs : List UInt8} (h : Arr eB 1 w a n xs) :
    Does Try.prog 37 [.slice a n c] w (fun v w' => ∃ a' n' c' xs, v = .slice a' n' c' ∧ n' ≤ 42 ∧ n' ≤ c' ∧ (∀ x ∈ xs, x.ok) ∧ NewAt w.heap.size a' ∧ Own TPart.enc w' a' n' 64 xs ∧ Ext w w') := by
  refine Does.of_vc tabok Try.func37 rfl rfl rfl (by kernel_rfl) ?_; conv => whnf
  refine (spec_l00From h).mono ?_
  rintro _ w5 ⟨a'1, rfl, N2, S3, e4⟩
  conv => whnf
  refine (spec_l25Bent S3 (by omega)).mono ?_
  rintro _ w16 ⟨a'6, n'7, c'8, xs9, rfl, q10, q11, N12, G13, S14, m15⟩
  have leG13 := G13.le.1
  have lnG13 := G13.len
  conv => whnf
  exact ⟨_, _, _, _, rfl, by omega, by omega, by omega, (G13.new.mono (Below.size e4)), G13.own, (Ext.mod_trans e4 m15 (blkIn_new N2))⟩
theorem spec_DrawValueClasses {w : World} {a : Option Addr} {n c : Nat} {xs : List UInt8} (h : Arr eB 1 w a n xs) :
    Does Try.prog 40 [.slice a n c] w (fun v w' => ∃ a' n' c' xs, v = .slice a' n' c' ∧ n' ≤ 42 ∧ n' ≤ c' ∧ (∀ x ∈ xs, x.ok) ∧ NewAt w.heap.size a' ∧ Own TPart.enc w' a' n' 64 xs ∧ Ext w w') := by
  refine Does.of_vc tabok Try.func40 rfl rfl rfl (by kernel_rfl) ?_; conv => whnf
  refine (spec_l00From h).mono ?_
  rintro _ w5 ⟨a'1, rfl, N2, S3, e4⟩
  conv => whnf
  refine (spec_l25Bent S3 (by omega)).mono ?_
  rintro _ w16 ⟨a'6, n'7, c'8, xs9, rfl, q10, q11, N12, G13, S14, m15⟩
  have leG13 := G13.le.1
  have lnG13 := G13.len
  conv => whnf
  exact ⟨_, _, _, _, rfl, by omega, by omega, by omega, (G13.new.mono (Below.size e4)), G13.own, (Ext.mod_trans e4 m15 (blkIn_new N2))⟩
theorem spec_DrawDaysLeft {w : World} {a : Option Addr} {n c : Nat} {xs : List UInt8} (h : Arr eB 1 w a n xs) :
    Does Try.prog 46 [.slice a n c] w (fun v w' => ∃ a' n' c' xs k d, v = .tuple #[.slice a' n' c', .int .i64 k, .int .i64 d] ∧ n' ≤ 42 ∧ n' ≤ c' ∧ (∀ x ∈ xs, x.ok) ∧ NewAt w.heap.size a' ∧ Own TPart.enc w' a' n' 64 xs ∧ Ext w w') := by
  refine Does.of_vc tabok Try.func46 rfl rfl rfl (by kernel_rfl) ?_; conv => whnf
  refine (spec_l00From h).mono ?_
  rintro _ w5 ⟨a'1, rfl, N2, S3, e4⟩
  conv => whnf
  refine (spec_l25Bent S3 (by omega)).mono ?_
  rintro _ w16 ⟨a'6, n'7, c'8, xs9, rfl, q10, q11, N12, G13, S14, m15⟩
  have leG13 := G13.le.1
  have lnG13 := G13.len
  conv => whnf
  refine SemK.add (((n'7 + 1 : Nat) : Int)) (by omega) (by omega) (by omega) ?_
  conv => whnf
  refine (spec_pick S14 (by omega) (by omega)).mono ?_
  rintro _ w23 ⟨r17, rfl, q18, q19, q20, S21, m22⟩
  conv => whnf
  refine (spec_pick S21 (by omega) (by omega)).mono ?_
  rintro _ w30 ⟨r24, rfl, q25, q26, q27, S28, m29⟩
  conv => whnf
  refine SemK.quo (by omega) (by omega) (by omega) ?_
  conv => whnf
  refine SemK.sub _ rfl (by omega) (by omega) ?_
  conv => whnf
  refine (spec_one S28 (by omega) (by omega)).mono ?_
  rintro _ w34 ⟨r31, rfl, S32, m33⟩
  conv => whnf
  with_reducible refine IfB.split (fun h35 => ?_) (fun h35 => ?_)
  · conv => whnf
    refine SemK.buildSlice mk_39 (vs := [Value.int IntKind.i64 (-1), Value.int IntKind.i64 0, Value.int IntKind.i64 1, Value.int IntKind.i64 1000000, Value.int IntKind.i64 1000001]) (by rfl) (by rfl) (by simp [Value.cells]) (by decide) ?_
    intro b36 w36 g36 l36 e36 B36
    have G36 := Grow.of_blk (n := 5) (enc := eI) (xs := [-1, 0, 1, 1000000, 1000001]) eI_len B36 g36 rfl (by decide)
    conv => whnf
    refine (spec_among (S32.ext e36) (by omega) (G36.own.arr eI_len) (apart' G36.new S3.lt (Nat.le_trans (Nat.le_trans (Nat.le_trans (Mod.size m15) (Mod.size m22)) (Mod.size m29)) (Mod.size m33))) (by omega) (by omega)).mono ?_
    rintro _ w41 ⟨r37, rfl, q38, S39, m40⟩
    conv => whnf
    exact ⟨_, _, _, _, _, _, rfl, by omega, by omega, by omega, (G13.new.mono (Below.size e4)), (((((G13.mod m22 (apart' G13.new S3.lt (Nat.le_refl _))).mod m29 (apart' G13.new S3.lt (Nat.le_refl _))).mod m33 (apart' G13.new S3.lt (Nat.le_refl _))).ext e36).mod m40 (apart' G13.new S3.lt (Nat.le_refl _))).own, (Ext.mod_trans (Ext.trans (Ext.mod_trans (Ext.mod_trans (Ext.mod_trans (Ext.mod_trans e4 m15 (blkIn_new N2)) m22 (blkIn_new N2)) m29 (blkIn_new N2)) m33 (blkIn_new N2)) e36) m40 (blkIn_new N2))⟩
  · conv => whnf
    refine (spec_pick S32 (by omega) (by omega)).mono ?_
    rintro _ w48 ⟨r42, rfl, q43, q44, q45, S46, m47⟩
    conv => whnf
    refine SemK.add _ rfl (by omega) (by omega) ?_
    conv => whnf
    exact ⟨_, _, _, _, _, _, rfl, by omega, by omega, by omega, (G13.new.mono (Below.size e4)), ((((G13.mod m22 (apart' G13.new S3.lt (Nat.le_refl _))).mod m29 (apart' G13.new S3.lt (Nat.le_refl _))).mod m33 (apart' G13.new S3.lt (Nat.le_refl _))).mod m47 (apart' G13.new S3.lt (Nat.le_refl _))).own, (Ext.mod_trans (Ext.mod_trans (Ext.mod_trans (Ext.mod_trans (Ext.mod_trans e4 m15 (blkIn_new N2)) m22 (blkIn_new N2)) m29 (blkIn_new N2)) m33 (blkIn_new N2)) m47 (blkIn_new N2))⟩
theorem spec_DrawStockCheck {w : World} {a : Option Addr} {n c : Nat} {xs : List UInt8} (h : Arr eB 1 w a n xs) :
    Does Try.prog 43 [.slice a n c] w (fun v w' => ∃ a' n' c' xs a2 n2 c2 ys, v = .tuple #[.slice a' n' c', .slice a2 n2 c2] ∧ n' ≤ 42 ∧ n' ≤ c' ∧ n2 ≤ 43 ∧ (∀ x ∈ xs, x.ok) ∧ NewAt w.heap.size a' ∧ NewAt w.heap.size a2 ∧ Own TPart.enc w' a' n' 64 xs ∧ Own eI w' a2 n2 2 ys ∧ Ext w w') := by
  refine Does.of_vc tabok Try.func43 rfl rfl rfl (by kernel_rfl) ?_; conv => whnf
  refine (spec_l00From h).mono ?_
  rintro _ w5 ⟨a'1, rfl, N2, S3, e4⟩
  conv => whnf
  refine (spec_l25Bent S3 (by omega)).mono ?_
  rintro _ w16 ⟨a'6, n'7, c'8, xs9, rfl, q10, q11, N12, G13, S14, m15⟩
  have lnG13 := G13.len
  have leG13 := G13.le.1
  conv => whnf
  refine SemK.buildSlice mk_39 (vs := []) (by rfl) (by rfl) (by simp [Value.cells]) (by decide) ?_
  intro b17 w17 g17 l17 e17 B17
  have G17 := Grow.new0 (enc := eI) eI_len B17 g17
  conv => whnf
  refine LoopK.rule [4, 5, 6, 7] (fun (j : Nat) vs w' => ∃ a2 c2 ys, vs = [.pointer a'1, .slice a'6 n'7 c'8, .slice a2 j c2, .int .i64 j] ∧ j ≤ n'7 ∧ Grow eI 1 w16.heap.size 2 w' a2 j c2 ys ∧ Grow TPart.enc 4 w5.heap.size 64 w' a'6 n'7 c'8 xs9 ∧ Src w' a'1 (300 + 2 * j) ∧ Mod (blkIn a'1) w16 w') (fun j => n'7 - j) tab tabok (by kernel_rfl) 0
    ⟨_, _, _, rfl, by omega, G17, G13.ext e17, (S14.ext e17).more (by omega), e17.mod⟩ ?_
  rintro j g _ w18 ⟨a2, c2, ys, rfl, hj, hG2, hG, hS, hM⟩
  have lnG2 := hG2.len
  have leG2 := hG2.le.1
  conv => whnf
  with_reducible refine IfB.dec (fun h19 => ?_) (fun h19 => ?_)
  · conv => whnf
    refine DrawK.mix tabok mixed (a'1) [(0, .any), (1, .any), (2, .any), (3, .any), (4, .any), (6, .any), (5, .held), (7, .run), (8, .any), (9, .any), (10, .run), (11, .run), (12, .write), (13, .any)] (by kernel_rfl) (by kernel_rfl) ?_
    conv => whnf
    intro w20 e20
    conv => whnf
    obtain ⟨x21, hx21⟩ : ∃ x, xs9[j]? = some x := get_of_lt (by omega)
    have ok21 := q11 _ (List.mem_of_getElem? hx21)
    obtain ⟨b22, rfl⟩ := ((hG.ext e20).own).some (by omega)
    have gb22 : w5.heap.size ≤ b22 := hG.new _ rfl
    have lb22 : b22 < w18.heap.size := hG.lt _ rfl
    refine PSemK.indexOwn (sz := 4) (by kernel_rfl) j rfl (by omega) ?_
    have hb22 := Own.elem TPart.enc_len (hG.ext e20).own hx21
    conv => whnf
    refine BSemK.load1 (by kernel_rfl) (k := 1) (Sr.cells hb22 (blkNew S3.lt gb22 (Nat.le_refl _))) rfl ?_
    conv => whnf
    refine (spec_pick (hS.ext e20) (by omega) (by omega)).mono ?_
    rintro _ w29 ⟨r23, rfl, q24, q25, q26, S27, m28⟩
    conv => whnf
    refine ⟨m28, ?_⟩
    conv => whnf
    refine PSemK.wadd ?_
    conv => whnf
    refine PSemK.wsub ?_
    conv => whnf
    refine (spec_l00Max _ _ _).mono ?_
    rintro _ _ ⟨rfl, rfl⟩
    conv => whnf
    refine ⟨m28, ?_⟩
    conv => whnf
    refine SemK.buildSlice mk_39 (vs := [Value.int IntKind.i64 (max 0 (IntKind.i64.wrap (IntKind.i64.wrap (x21.count + r23) - 1)))]) (by rfl) (by rfl) (by simp [Value.cells]) (by decide) ?_
    intro b31 w31 g31 l31 e31 B31
    have G31 := Grow.of_blk (n := 1) (enc := eI) (xs := [max 0 (IntKind.i64.wrap (IntKind.i64.wrap (x21.count + r23) - 1))]) eI_len B31 g31 rfl (by decide)
    conv => whnf
    refine ⟨(m28.trans e31.mod), ?_⟩
    conv => whnf
    refine SemK.appendArr0 (enc := eI) mk_39 eI_len (((hG2.ext e20).mod m28 (apart' hG2.new S3.lt (Mod.size m15))).ext e31) (G31.own.arr eI_len) (by intro y _; simp [eI, cellish]) (by omega) (by omega) (Nat.le_trans (Nat.le_trans (Nat.le_trans (Mod.size hM) (Below.size e20)) (Mod.size m28)) (Below.size e31)) ?_
    intro a32 c32 w32 G32 m32 i32
    conv => whnf
    refine SemK.add (((j + 1 : Nat) : Int)) (by omega) (by omega) (by omega) ?_
    conv => whnf
    exact ⟨j + 1, by omega, _, _, _, rfl, by omega, G32, ((((hG.ext e20).mod m28 (apart' (NewAt.some gb22) S3.lt (Nat.le_refl _))).ext e31).mod m32 (apart G13.lt hG2.new (Nat.le_refl _))), (((S27.ext e31).mod m32 (later S3.lt hG2.new (Mod.size m15))).more (by omega)), ((((hM.trans e20.mod).trans m28).trans e31.mod).trans_new m32 (fun k hk => Nat.le_trans (Nat.le_refl _) (blkIn_new hG2.new k hk)))⟩
  · conv => whnf
    have kn33 : j = n'7 := by omega
    have tk34 : List.take j xs9 = xs9 := List.take_of_length_le (by omega)
    refine (spec_pick hS (by omega) (by omega)).mono ?_
    rintro _ w41 ⟨r35, rfl, q36, q37, q38, S39, m40⟩
    conv => whnf
    with_reducible refine IfB.dec (fun h42 => ?_) (fun h42 => ?_)
    · conv => whnf
      refine SemK.buildSlice mk_39 (vs := [Value.int IntKind.i64 1]) (by rfl) (by rfl) (by simp [Value.cells]) (by decide) ?_
      intro b43 w43 g43 l43 e43 B43
      have G43 := Grow.of_blk (n := 1) (enc := eI) (xs := [1]) eI_len B43 g43 rfl (by decide)
      conv => whnf
      refine SemK.appendArr0 (enc := eI) mk_39 eI_len ((hG2.mod m40 (apart' hG2.new S3.lt (Mod.size m15))).ext e43) (G43.own.arr eI_len) (by intro y _; simp [eI, cellish]) (by omega) (by omega) (Nat.le_trans (Nat.le_trans (Mod.size hM) (Mod.size m40)) (Below.size e43)) ?_
      intro a44 c44 w44 G44 m44 i44
      conv => whnf
      exact ⟨_, _, _, _, _, _, _, _, rfl, by omega, by omega, by omega, by omega, (hG.new.mono (Below.size e4)), (G44.new.mono (Below.size (Ext.mod_trans e4 m15 (blkIn_new N2)))), (((hG.mod m40 (apart' hG.new S3.lt (Nat.le_refl _))).ext e43).mod m44 (apart G13.lt hG2.new (Nat.le_refl _))).own, G44.own, (Ext.mod_trans (Ext.trans (Ext.mod_trans (Ext.mod_trans (Ext.mod_trans e4 m15 (blkIn_new N2)) hM (blkIn_new N2)) m40 (blkIn_new N2)) e43) m44 (fun k hk => Nat.le_trans (Below.size (Ext.mod_trans e4 m15 (blkIn_new N2))) (blkIn_new hG2.new k hk)))⟩
    · conv => whnf
      with_reducible refine IfB.dec (fun h45 => ?_) (fun h45 => ?_)
      · conv => whnf
        with_reducible refine IfB.dec (fun h46 => ?_) (fun h46 => ?_)
        · conv => whnf
          refine SemK.buildSlice mk_39 (vs := [Value.int IntKind.i64 (-1), Value.int IntKind.i64 1000000, Value.int IntKind.i64 1000001]) (by rfl) (by rfl) (by simp [Value.cells]) (by decide) ?_
          intro b47 w47 g47 l47 e47 B47
          have G47 := Grow.of_blk (n := 3) (enc := eI) (xs := [-1, 1000000, 1000001]) eI_len B47 g47 rfl (by decide)
          conv => whnf
          refine (spec_among (S39.ext e47) (by omega) (G47.own.arr eI_len) (apart' G47.new S3.lt (Nat.le_trans (Nat.le_trans (Mod.size m15) (Mod.size hM)) (Mod.size m40))) (by omega) (by omega)).mono ?_
          rintro _ w52 ⟨r48, rfl, q49, S50, m51⟩
          conv => whnf
          obtain ⟨x53, hx53⟩ : ∃ x, ys[0]? = some x := get_of_lt (by omega)
          obtain ⟨b54, rfl⟩ := ((((hG2.mod m40 (apart' hG2.new S3.lt (Mod.size m15))).ext e47).mod m51 (apart' hG2.new S3.lt (Mod.size m15))).own).some (by omega)
          have gb54 : w16.heap.size ≤ b54 := hG2.new _ rfl
          have lb54 : b54 < w18.heap.size := hG2.lt _ rfl
          refine SemK.indexOwn (sz := 1) (by kernel_rfl) 0 rfl (by omega) ?_
          have hb54 := Own.elem eI_len (((hG2.mod m40 (apart' hG2.new S3.lt (Mod.size m15))).ext e47).mod m51 (apart' hG2.new S3.lt (Mod.size m15))).own hx53
          conv => whnf
          refine SemK.storeGrow1 (k := 0) (j := 0) (by kernel_rfl) eI_len (((hG2.mod m40 (apart' (NewAt.some gb54) S3.lt (Mod.size m15))).ext e47).mod m51 (apart' (NewAt.some gb54) S3.lt (Mod.size m15))) hx53 (by decide) rfl (r48) rfl ?_
          intro w55 c55 B55
          have hx55 := set_get hx53 ((r48))
          conv => whnf
          exact ⟨_, _, _, _, _, _, _, _, rfl, by omega, by omega, by omega, by omega, (hG.new.mono (Below.size e4)), (B55.new.mono (Below.size (Ext.mod_trans e4 m15 (blkIn_new N2)))), ((((hG.mod m40 (apart' hG.new S3.lt (Nat.le_refl _))).ext e47).mod m51 (apart' hG.new S3.lt (Nat.le_refl _))).mod c55.but (apartChg G13.lt gb54 (Nat.le_refl _))).own, B55.own, (Ext.but_trans (Ext.mod_trans (Ext.trans (Ext.mod_trans (Ext.mod_trans (Ext.mod_trans e4 m15 (blkIn_new N2)) hM (blkIn_new N2)) m40 (blkIn_new N2)) e47) m51 (blkIn_new N2)) c55.but (Nat.le_trans (Below.size (Ext.mod_trans e4 m15 (blkIn_new N2))) gb54))⟩
        · conv => whnf
          exact ⟨_, _, _, _, _, _, _, _, rfl, by omega, by omega, by omega, by omega, (hG.new.mono (Below.size e4)), (hG2.new.mono (Below.size (Ext.mod_trans e4 m15 (blkIn_new N2)))), (hG.mod m40 (apart' hG.new S3.lt (Nat.le_refl _))).own, (hG2.mod m40 (apart' hG2.new S3.lt (Mod.size m15))).own, (Ext.mod_trans (Ext.mod_trans (Ext.mod_trans e4 m15 (blkIn_new N2)) hM (blkIn_new N2)) m40 (blkIn_new N2))⟩
      · conv => whnf
        exact ⟨_, _, _, _, _, _, _, _, rfl, by omega, by omega, by omega, by omega, (hG.new.mono (Below.size e4)), (hG2.new.mono (Below.size (Ext.mod_trans e4 m15 (blkIn_new N2)))), (hG.mod m40 (apart' hG.new S3.lt (Nat.le_refl _))).own, (hG2.mod m40 (apart' hG2.new S3.lt (Mod.size m15))).own, (Ext.mod_trans (Ext.mod_trans (Ext.mod_trans e4 m15 (blkIn_new N2)) hM (blkIn_new N2)) m40 (blkIn_new N2))⟩
end Go.Proofs.Ytjlhbaemfiaeiaa
