/- Contracts of functions of the given program, of the reference and of the laws: each says what a call returns, for all arguments that meet the premises that the theorem itself names. -/
import Derived.Test.YtehofnnghbcjgaaDoorJourA
namespace Go.Proofs.YtehofnnghbcjgaaDoor
open Go Go.RowKit Go.Vc Go.M Go.Shelf Go.Proofs
theorem impl_notesAbout {log : ByteArray} (hs : log.size ≤ 1048576) {t : Int} (ht : i64ok t) {w : World} (hT : Pow w) (hE : Errs w) (hM : MaxL w) :
    Does Tryd.prog 14 [.string log, .int .i64 t] w (fun v w' => ∃ a n c, v = .tuple #[.slice a n c, .int .i64 (aboutM log t).2] ∧ NewAt w.heap.size a ∧ Own TNote.enc w' a n 34 (aboutM log t).1 ∧ Ext w w') := by
  have hok := readJ_ok _ log.data.toList 0 (Nat.le_refl _) (by omega) (by omega)
  have hsz : log.data.toList.length = log.size := by simp
  obtain ⟨l, ch, cd, hm⟩ : ∃ l ch cd, notesOfM log = (l, ch, cd) := ⟨_, _, _, rfl⟩
  have hN : ∀ u, Pow u → Errs u → MaxL u → Does Tryd.prog 23 [.string log] u (fun v w' => ∃ a n c, v = .tuple #[.slice a n c, .int .i64 ch, .int .i64 cd] ∧ NewAt u.heap.size a ∧ Own TNote.enc w' a n 34 l ∧ Ext u w') := fun u h1 h2 h3 => impl_notesOf hs hm h1 h2 h3
  unfold notesOfM at hm
  unfold aboutM
  by_cases hj : journalCode log = 0
  · rw [if_pos hj] at hm ⊢
    have hl0 := hok.2.2.2.1
    have hl1 := hok.2.2.2.2
    generalize (readJ log.data.toList 0).2.2 = nb at *
    generalize (readJ log.data.toList 0).1 = l2 at *
    cases hm
    clear hok
    cases hz : inB t 0 5
    · rw [if_neg (by simp)]
      dsimp only
      refine Does.of_vc tabok Tryd.func14 rfl rfl rfl (by kernel_rfl) ?_; conv => whnf
      refine (hN _ hT hE hM).mono ?_
      rintro _ w8 ⟨a2, n3, c4, rfl, N5, O6, e7⟩
      conv => whnf
      refine (impl_isTray _ _).mono ?_
      rintro _ _ ⟨rfl, rfl⟩
      conv => whnf
      refine IfB.eqt (by simp [*]; done) ?_
      conv => whnf
      exact ⟨_, _, _, rfl, NewAt.nil, Own.nil, e7⟩
    · rw [if_pos rfl]
      dsimp only
      refine Does.of_vc tabok Tryd.func14 rfl rfl rfl (by kernel_rfl) ?_; conv => whnf
      refine (hN _ hT hE hM).mono ?_
      rintro _ w8 ⟨a2, n3, c4, rfl, N5, O6, e7⟩
      conv => whnf
      refine (impl_isTray _ _).mono ?_
      rintro _ _ ⟨rfl, rfl⟩
      conv => whnf
      refine IfB.eqf (by simp [*]; done) ?_
      conv => whnf
      refine SemK.buildSlice mk_24 (vs := []) (by rfl) (by rfl) (by simp [Value.cells]) (by decide) ?_
      intro b10 w10 g10 l10 e10 B10
      have G10 := Grow.new0 (enc := TNote.enc) TNote.enc_len B10 g10
      conv => whnf
      have hln := O6.1
      refine LoopK.rule [1, 9, 27, 28, 29] (fun (k : Nat) vs w' => ∃ a5 m5 c5, vs = [.int .i64 t, .slice a5 m5 c5, .slice a2 n3 c4, .int .i64 n3, .int .i64 k] ∧ k ≤ n3 ∧ Grow TNote.enc 4 w8.heap.size 34 w' a5 m5 c5 (aboutL (l.take k) t) ∧ Ext w8 w') (fun k => n3 - k) tab tabok (by kernel_rfl) 0 ⟨_, _, _, rfl, by omega, G10, e10⟩ ?_
      rintro k g _ w' ⟨a5, m5, c5, rfl, hk, G, hx⟩
      have hm5 := G.len
      have hal := aboutL_len (l.take k) t
      rw [List.length_take] at hal
      have O6' := O6.ext hx
      by_cases hlt : k < n3
      · obtain ⟨x, hx2⟩ : ∃ x, (l)[k]? = some x := get_of_lt (by omega)
        by_cases htr : x.tray = t
        · skip
          conv => whnf
          refine IfB.yes (by omega) ?_
          conv => whnf
          obtain ⟨b12, rfl⟩ := (O6').some (by omega)
          have lb12 : b12 < w'.heap.size := O6'.lt _ rfl
          refine SemK.indexOwn (sz := 4) (by kernel_rfl) k rfl (by omega) ?_
          have hb12 := Own.elem TNote.enc_len O6' hx2
          conv => whnf
          refine SemK.loadAgg (n := 4) (by kernel_rfl) hb12 rfl ?_
          conv => whnf
          refine SemK.alloc (z := .agg #[.int .i64 0, .int .i64 0, .int .i64 0, .string { data := #[] }]) (by kernel_rfl) ?_
          intro b13 w13 g13 l13 e13 B13
          conv => whnf
          refine SemK.storeAll (by kernel_rfl) B13 (vs := x.enc) rfl rfl (by simp [TNote.enc, cellish]) ?_
          intro w14 c14 B14
          conv => whnf
          refine SemK.load1 (by kernel_rfl) B14.cells (k := 0) rfl ?_
          conv => whnf
          refine IfB.yes (by omega) ?_
          conv => whnf
          refine SemK.loadAgg (n := 4) (by kernel_rfl) B14.cells rfl ?_
          conv => whnf
          refine SemK.buildSlice mk_24 (vs := [Value.agg x.enc.toArray]) (by rfl) (by rfl) (by simp [Value.cells, TNote.enc]) (by decide) ?_
          intro b15 w15 g15 l15 e15 B15
          have G15 := Grow.of_blk (n := 1) (enc := TNote.enc) (xs := [x]) TNote.enc_len B15 g15 rfl (by decide)
          conv => whnf
          refine SemK.appendArr0 (enc := TNote.enc) mk_24 TNote.enc_len (G.ext (Ext.trans (Ext.but_trans e13 c14.but g13) e15)) (G15.own.arr TNote.enc_len) (by intro y _; simp [TNote.enc, cellish]) (by omega) (by omega) (Below.size (Ext.trans (Ext.but_trans (Ext.trans hx e13) c14.but (Nat.le_trans (Below.size hx) g13)) e15)) ?_
          intro a16 c16 w16 G16 m16 i16
          conv => whnf
          refine SemK.add (((k + 1 : Nat) : Int)) (by omega) (by omega) (by omega) ?_
          conv => whnf
          refine ⟨k + 1, by omega, _, _, _, rfl, by omega, ?_, (Ext.mod_trans (Ext.trans (Ext.but_trans (Ext.trans hx e13) c14.but (Nat.le_trans (Below.size hx) g13)) e15) m16 (blkIn_new G.new))⟩
          · rw [aboutL_take hx2, if_pos htr]; exact G16
        · skip
          conv => whnf
          refine IfB.yes (by omega) ?_
          conv => whnf
          obtain ⟨b12, rfl⟩ := (O6').some (by omega)
          have lb12 : b12 < w'.heap.size := O6'.lt _ rfl
          refine SemK.indexOwn (sz := 4) (by kernel_rfl) k rfl (by omega) ?_
          have hb12 := Own.elem TNote.enc_len O6' hx2
          conv => whnf
          refine SemK.loadAgg (n := 4) (by kernel_rfl) hb12 rfl ?_
          conv => whnf
          refine SemK.alloc (z := .agg #[.int .i64 0, .int .i64 0, .int .i64 0, .string { data := #[] }]) (by kernel_rfl) ?_
          intro b13 w13 g13 l13 e13 B13
          conv => whnf
          refine SemK.storeAll (by kernel_rfl) B13 (vs := x.enc) rfl rfl (by simp [TNote.enc, cellish]) ?_
          intro w14 c14 B14
          conv => whnf
          refine SemK.load1 (by kernel_rfl) B14.cells (k := 0) rfl ?_
          conv => whnf
          refine IfB.no (by omega) ?_
          conv => whnf
          refine SemK.add (((k + 1 : Nat) : Int)) (by omega) (by omega) (by omega) ?_
          conv => whnf
          refine ⟨k + 1, by omega, _, _, _, rfl, by omega, ?_, (Ext.but_trans (Ext.trans hx e13) c14.but (Nat.le_trans (Below.size hx) g13))⟩
          · rw [aboutL_take hx2, if_neg htr]; exact G.ext (Ext.but_trans e13 c14.but g13)
      · have hk2 : k = n3 := by omega
        subst hk2
        rw [List.take_of_length_le (by omega)] at G
        conv => whnf
        refine IfB.no (by omega) ?_
        conv => whnf
        exact ⟨_, _, _, rfl, (G.new.mono (Below.size e7)), G.own, (Ext.trans e7 hx)⟩
  · rw [if_neg hj] at hm ⊢
    cases hm
    clear hok
    dsimp only
    refine Does.of_vc tabok Tryd.func14 rfl rfl rfl (by kernel_rfl) ?_; conv => whnf
    refine (hN _ hT hE hM).mono ?_
    rintro _ w7 ⟨a1, n2, c3, rfl, N4, O5, e6⟩
    conv => whnf
    refine IfB.eqt (by simp [*]; done) ?_
    conv => whnf
    exact ⟨_, _, _, rfl, NewAt.nil, Own.nil, e6⟩
theorem impl_LastNote {log : ByteArray} (hs : log.size ≤ 1048576) {t : Int} (ht : i64ok t) {w : World} (hT : Pow w) (hE : Errs w) (hM : MaxL w) :
    Does Tryd.prog 9 [.string log, .int .i64 t] w (fun v w' => v = .tuple #[.agg ⟨(lastM log t).1.enc⟩, .int .i64 (lastM log t).2] ∧ Ext w w') := by
  have hb := aboutM_ok (s := log) (t := t)
  obtain ⟨l, cd, hm⟩ : ∃ l cd, aboutM log t = (l, cd) := ⟨_, _, rfl⟩
  have hA : ∀ u, Pow u → Errs u → MaxL u → Does Tryd.prog 14 [.string log, .int .i64 t] u (fun v w' => ∃ a n c, v = .tuple #[.slice a n c, .int .i64 cd] ∧ NewAt u.heap.size a ∧ Own TNote.enc w' a n 34 l ∧ Ext u w') := fun u h1 h2 h3 => by
    have := impl_notesAbout hs ht h1 h2 h3
    rw [hm] at this
    exact this
  unfold lastM
  rw [hm] at hb ⊢
  obtain ⟨hb1, hb2⟩ := hb
  dsimp only at hb1 hb2 ⊢
  by_cases hc : cd = 0
  · rw [if_pos hc]
    subst hc
    cases hl : l.length with
    | zero =>
      have : l = [] := List.eq_nil_of_length_eq_zero hl
      subst this
      dsimp only [List.getLast?_nil]
      have hA2 : ∀ u, Pow u → Errs u → MaxL u → Does Tryd.prog 14 [.string log, .int .i64 t] u (fun v w' => ∃ a c, v = .tuple #[.slice a 0 c, .int .i64 0] ∧ NewAt u.heap.size a ∧ Own TNote.enc w' a 0 34 [] ∧ Ext u w') := fun u h1 h2 h3 => by
        refine (hA u h1 h2 h3).mono ?_
        rintro _ u' ⟨a, m, c, rfl, N, O, e⟩
        have hm2 : m = 0 := by have := O.1; simp at this; omega
        subst hm2
        exact ⟨a, c, rfl, N, O, e⟩
      clear hA
      refine Does.of_vc tabok Tryd.func9 rfl rfl rfl (by kernel_rfl) ?_; conv => whnf
      refine SemK.alloc (z := .agg #[.int .i64 0, .int .i64 0, .int .i64 0, .string { data := #[] }]) (by kernel_rfl) ?_
      intro b3 w3 g3 l3 e3 B3
      conv => whnf
      refine (hA2 _ (hT.ext e3) (hE.ext e3) (hM.ext e3)).mono ?_
      rintro _ w9 ⟨a4, c5, rfl, N6, O7, e8⟩
      conv => whnf
      refine SemK.build st_34 rfl ?_
      conv => whnf
      refine SemK.storeAll (vs := [Value.int IntKind.i64 0, Value.int IntKind.i64 0, Value.int IntKind.i64 0, Value.string { data := #[] }]) (by kernel_rfl) (B3.ext e8) rfl rfl (by simp [cellish]) ?_
      intro w10 c10 B10
      conv => whnf
      refine CellK.of (run_loadAgg (n := 4) (by kernel_rfl) rfl B10.cells) ?_
      conv => whnf
      exact ⟨rfl, (Ext.but_trans (Ext.trans e3 e8) c10.but g3)⟩
    | succ n =>
      obtain ⟨x, hx⟩ : ∃ x, l[n]? = some x := get_of_lt (by omega)
      rw [getLast_at hl, hx]
      dsimp only
      have hA2 : ∀ u, Pow u → Errs u → MaxL u → Does Tryd.prog 14 [.string log, .int .i64 t] u (fun v w' => ∃ a c, v = .tuple #[.slice a (n + 1) c, .int .i64 0] ∧ NewAt u.heap.size a ∧ Own TNote.enc w' a (n + 1) 34 l ∧ Ext u w') := fun u h1 h2 h3 => by
        refine (hA u h1 h2 h3).mono ?_
        rintro _ u' ⟨a, m, c, rfl, N, O, e⟩
        have hm2 : m = (n + 1) := by have := O.1; omega
        subst hm2
        exact ⟨a, c, rfl, N, O, e⟩
      clear hA
      refine Does.of_vc tabok Tryd.func9 rfl rfl rfl (by kernel_rfl) ?_; conv => whnf
      refine SemK.alloc (z := .agg #[.int .i64 0, .int .i64 0, .int .i64 0, .string { data := #[] }]) (by kernel_rfl) ?_
      intro b3 w3 g3 l3 e3 B3
      conv => whnf
      refine (hA2 _ (hT.ext e3) (hE.ext e3) (hM.ext e3)).mono ?_
      rintro _ w9 ⟨a4, c5, rfl, N6, O7, e8⟩
      conv => whnf
      refine SemK.sub ((n : Nat) : Int) (by omega) (by omega) (by omega) ?_
      conv => whnf
      obtain ⟨b11, rfl⟩ := (O7).some (by omega)
      have lb11 : b11 < w9.heap.size := O7.lt _ rfl
      refine SemK.indexOwn (sz := 4) (by kernel_rfl) n rfl (by omega) ?_
      have hb11 := Own.elem TNote.enc_len O7 hx
      conv => whnf
      refine SemK.loadAgg (n := 4) (by kernel_rfl) hb11 rfl ?_
      conv => whnf
      refine SemK.storeAll (by kernel_rfl) (B3.ext e8) (vs := x.enc) rfl rfl (by simp [TNote.enc, cellish]) ?_
      intro w12 c12 B12
      conv => whnf
      refine CellK.of (run_loadAgg (n := 4) (by kernel_rfl) rfl B12.cells) ?_
      conv => whnf
      exact ⟨rfl, (Ext.but_trans (Ext.trans e3 e8) c12.but g3)⟩
  · rw [if_neg hc]
    dsimp only
    refine Does.of_vc tabok Tryd.func9 rfl rfl rfl (by kernel_rfl) ?_; conv => whnf
    refine SemK.alloc (z := .agg #[.int .i64 0, .int .i64 0, .int .i64 0, .string { data := #[] }]) (by kernel_rfl) ?_
    intro b3 w3 g3 l3 e3 B3
    conv => whnf
    refine (hA _ (hT.ext e3) (hE.ext e3) (hM.ext e3)).mono ?_
    rintro _ w10 ⟨a4, n5, c6, rfl, N7, O8, e9⟩
    conv => whnf
    refine IfB.eqt (by simp [*]; done) ?_
    conv => whnf
    refine SemK.build st_34 rfl ?_
    conv => whnf
    refine SemK.storeAll (vs := [Value.int IntKind.i64 0, Value.int IntKind.i64 0, Value.int IntKind.i64 0, Value.string { data := #[] }]) (by kernel_rfl) (B3.ext e9) rfl rfl (by simp [cellish]) ?_
    intro w11 c11 B11
    conv => whnf
    refine CellK.of (run_loadAgg (n := 4) (by kernel_rfl) rfl B11.cells) ?_
    conv => whnf
    exact ⟨rfl, (Ext.but_trans (Ext.trans e3 e9) c11.but g3)⟩
theorem impl_CountHistory {log : ByteArray} (hs : log.size ≤ 1048576) {t : Int} (ht : i64ok t) {w : World} (hT : Pow w) (hE : Errs w) (hM : MaxL w) :
    Does Tryd.prog 8 [.string log, .int .i64 t] w (fun v w' => ∃ a n c, v = .tuple #[.slice a n c, .int .i64 (historyM log t).2] ∧ NewAt w.heap.size a ∧ Own eI w' a n 2 (historyM log t).1 ∧ Ext w w') := by
  have hb := aboutM_ok (s := log) (t := t)
  obtain ⟨l, cd, hm⟩ : ∃ l cd, aboutM log t = (l, cd) := ⟨_, _, rfl⟩
  have hA : ∀ u, Pow u → Errs u → MaxL u → Does Tryd.prog 14 [.string log, .int .i64 t] u (fun v w' => ∃ a n c, v = .tuple #[.slice a n c, .int .i64 cd] ∧ NewAt u.heap.size a ∧ Own TNote.enc w' a n 34 l ∧ Ext u w') := fun u h1 h2 h3 => by
    have := impl_notesAbout hs ht h1 h2 h3
    rw [hm] at this
    exact this
  unfold historyM
  rw [hm] at hb ⊢
  obtain ⟨hb1, hb2⟩ := hb
  dsimp only at hb1 hb2 ⊢
  by_cases hc : cd = 0
  · rw [if_pos hc]
    subst hc
    dsimp only
    refine Does.of_vc tabok Tryd.func8 rfl rfl rfl (by kernel_rfl) ?_; conv => whnf
    refine (hA _ hT hE hM).mono ?_
    rintro _ w9 ⟨a3, n4, c5, rfl, N6, O7, e8⟩
    conv => whnf
    refine SemK.buildSlice mk_30 (vs := []) (by rfl) (by rfl) (by simp [Value.cells]) (by decide) ?_
    intro b10 w10 g10 l10 e10 B10
    have G10 := Grow.new0 (enc := eI) eI_len B10 g10
    conv => whnf
    have hln := O7.1
    refine LoopK.rule [8, 21, 22, 23] (fun (k : Nat) vs w' => ∃ a5 m5 c6, vs = [.slice a5 m5 c6, .slice a3 n4 c5, .int .i64 n4, .int .i64 k] ∧ k ≤ n4 ∧ Grow eI 1 w9.heap.size 2 w' a5 m5 c6 ((l.take k).map (·.count)) ∧ Ext w9 w') (fun k => n4 - k) tab tabok (by kernel_rfl) 0 ⟨_, _, _, rfl, by omega, G10, e10⟩ ?_
    rintro k g _ w' ⟨a5, m5, c6, rfl, hk, G, hx⟩
    have hm5 := G.len
    rw [List.length_map, List.length_take] at hm5
    have O7' := O7.ext hx
    by_cases hlt : k < n4
    · obtain ⟨x, hx2⟩ : ∃ x, l[k]? = some x := get_of_lt (by omega)
      have hxo := noteB_ok (hb1 x (List.mem_of_getElem? hx2))
      conv => whnf
      refine IfB.yes (by omega) ?_
      conv => whnf
      obtain ⟨b12, rfl⟩ := (O7').some (by omega)
      have lb12 : b12 < w'.heap.size := O7'.lt _ rfl
      refine SemK.indexOwn (sz := 4) (by kernel_rfl) k rfl (by omega) ?_
      have hb12 := Own.elem TNote.enc_len O7' hx2
      conv => whnf
      refine SemK.loadAgg (n := 4) (by kernel_rfl) hb12 rfl ?_
      conv => whnf
      refine SemK.alloc (z := .agg #[.int .i64 0, .int .i64 0, .int .i64 0, .string { data := #[] }]) (by kernel_rfl) ?_
      intro b13 w13 g13 l13 e13 B13
      conv => whnf
      refine SemK.storeAll (by kernel_rfl) B13 (vs := x.enc) rfl rfl (by simp [TNote.enc, cellish]) ?_
      intro w14 c14 B14
      conv => whnf
      refine SemK.load1 (by kernel_rfl) B14.cells (k := 1) rfl ?_
      conv => whnf
      refine SemK.buildSlice mk_30 (vs := [Value.int IntKind.i64 x.count]) (by rfl) (by rfl) (by simp [Value.cells]) (by decide) ?_
      intro b15 w15 g15 l15 e15 B15
      have G15 := Grow.of_blk (n := 1) (enc := eI) (xs := [x.count]) eI_len B15 g15 rfl (by decide)
      conv => whnf
      refine SemK.appendArr0 (enc := eI) mk_30 eI_len (G.ext (Ext.trans (Ext.but_trans e13 c14.but g13) e15)) (G15.own.arr eI_len) (by intro y _; simp [eI, cellish]) (by omega) (by omega) (Below.size (Ext.trans (Ext.but_trans (Ext.trans hx e13) c14.but (Nat.le_trans (Below.size hx) g13)) e15)) ?_
      intro a16 c16 w16 G16 m16 i16
      conv => whnf
      refine SemK.add (((k + 1 : Nat) : Int)) (by omega) (by omega) (by omega) ?_
      conv => whnf
      refine ⟨k + 1, by omega, _, _, _, rfl, by omega, ?_, (Ext.mod_trans (Ext.trans (Ext.but_trans (Ext.trans hx e13) c14.but (Nat.le_trans (Below.size hx) g13)) e15) m16 (blkIn_new G.new))⟩
      · have ht2 : (l.take (k + 1)).map (fun x => x.count) = (l.take k).map (fun x => x.count) ++ [x.count] := by
          rw [List.take_add_one, hx2]; simp
        rw [ht2]; exact G16
    · have hk2 : k = n4 := by omega
      subst hk2
      rw [List.take_of_length_le (by omega)] at G
      conv => whnf
      refine IfB.no (by omega) ?_
      conv => whnf
      exact ⟨_, _, _, rfl, (G.new.mono (Below.size e8)), G.own, (Ext.trans e8 hx)⟩
  · rw [if_neg hc]
    dsimp only
    refine Does.of_vc tabok Tryd.func8 rfl rfl rfl (by kernel_rfl) ?_; conv => whnf
    refine (hA _ hT hE hM).mono ?_
    rintro _ w9 ⟨a3, n4, c5, rfl, N6, O7, e8⟩
    conv => whnf
    refine IfB.eqt (by simp [*]; done) ?_
    conv => whnf
    exact ⟨_, _, _, rfl, NewAt.nil, Own.nil, e8⟩
end Go.Proofs.YtehofnnghbcjgaaDoor
