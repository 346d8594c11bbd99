/- Contracts of functions of the given program, of the reference and of the laws: each says what a call returns, for all arguments that meet the premises that the theorem itself names. -/
import Derived.Test.YtehofnnghbcjgaaDoorJour
import Derived.Test.YtehofnnghbcjgaaDoorJournalR
import Derived.Test.YtehofnnghbcjgaaDoorNest
namespace Go.Proofs.YtehofnnghbcjgaaDoor
open Go Go.RowKit Go.Vc Go.M Go.Shelf Go.Proofs
theorem impl_readNote {line : ByteArray} (hs : line.size ≤ 4000) {before : Int} (h0 : 0 ≤ before) (h1 : before ≤ 65520) {w : World} (hT : Pow w) (hE : Errs w) (hM : MaxL w) :
    Does Tryd.prog 34 [.string line, .int .i64 before] w (fun v w' => ((∃ n c, noteRead line before = some (n, c) ∧ v = .tuple #[.agg ⟨TNote.enc n⟩, .int .i64 c, .bool true]) ∨
      (noteRead line before = none ∧ ∃ n c, v = .tuple #[.agg ⟨TNote.enc n⟩, .int .i64 c, .bool false])) ∧ Ext w w') := by
  have hsl : splitS 32 line ≠ [] := fun e => by have := splitS_pos 32 line; rw [e] at this; simp at this
  by_cases h5 : (splitS 32 line).length = 5
  · obtain ⟨wa, w1, w2, w3, w4, hl⟩ := list5 h5
    have hn := noteRead_five hl before
    have z1 : w1.size ≤ line.size := splitS_le (c := 32) (by rw [hl]; simp)
    have z2 : w2.size ≤ line.size := splitS_le (c := 32) (by rw [hl]; simp)
    have z3 : w3.size ≤ line.size := splitS_le (c := 32) (by rw [hl]; simp)
    have z4 : w4.size ≤ line.size := splitS_le (c := 32) (by rw [hl]; simp)
    have hx : TNote.ok ⟨numI w1, numI w2, numI w3, w4⟩ := ⟨numI_ok w1, numI_ok w2, numI_ok w3, by simp only [strok]; omega⟩
    have q1 : [wa, w1, w2, w3, w4][1]? = some w1 := rfl
    have q2 : [wa, w1, w2, w3, w4][2]? = some w2 := rfl
    have q3 : [wa, w1, w2, w3, w4][3]? = some w3 := rfl
    have q4 : [wa, w1, w2, w3, w4][4]? = some w4 := rfl
    obtain ⟨x, hxe⟩ : ∃ x : TNote, x = ⟨numI w1, numI w2, numI w3, w4⟩ := ⟨_, rfl⟩
    rw [← hxe] at hn hx
    have hcb := chainM_b before h0 x
    have hlz := line_size hcb.1 hcb.2 hx
    have hVN : ∀ u, Does Tryd.prog 38 [.agg #[.int .i64 (numI w1), .int .i64 (numI w2), .int .i64 (numI w3), .string w4]] u (fun v u' => v = .bool (noteB x) ∧ Ext u u') := fun u => by
      have := impl_ValidNote hx u
      rw [hxe] at this ⊢
      exact this
    have hCO : ∀ u, Pow u → x.what.size ≤ 1000 → Does Tryd.prog 39 [.int .i64 before, .agg #[.int .i64 (numI w1), .int .i64 (numI w2), .int .i64 (numI w3), .string w4]] u (fun v u' => v = .int .i64 (chainM before x) ∧ Ext u u') := fun u hu hw => by
      have := impl_chainOf h0 h1 hx hw hu
      rw [hxe] at this ⊢
      exact this
    have hNL : ∀ u, Pow u → x.what.size ≤ 1000 → Does Tryd.prog 40 [.int .i64 (chainM before x), .agg #[.int .i64 (numI w1), .int .i64 (numI w2), .int .i64 (numI w3), .string w4]] u (fun v u' => v = .string (lineB (chainM before x) x) ∧ Ext u u') := fun u hu hw => by
      have := impl_noteLine hcb.1 hcb.2 hx hw hu
      rw [hxe] at this ⊢
      exact this
    have hwd : noteB x = true → x.what.size ≤ 12 := noteB_what
    have hSp : ∀ u, MaxL u → Does Tryd.prog 36 [.string line, .string ⟨#[32]⟩] u (fun v u' => ∃ b, v = .slice (some ⟨b, 0, none⟩) 5 5 ∧ Arr eS 1 u' (some ⟨b, 0, none⟩) 5 [wa, w1, w2, w3, w4] ∧ Ext u u') := fun u hu =>
      (lib_Split (c := 32) (by omega) hu).mono (by
        rintro _ u' ⟨b, rfl, g, B, e⟩
        rw [hl] at B ⊢
        exact ⟨b, rfl, (Grow.of_blk (n := 5) (enc := eS) eS_len B g rfl (by decide)).own.arr eS_len, e⟩)
    refine Does.of_vc tabok Tryd.func34 rfl rfl rfl (by kernel_rfl) ?_; conv => whnf
    cases hz1 : numB w1
    · refine SemK.alloc (z := .agg #[.int .i64 0, .int .i64 0, .int .i64 0, .string { data := #[] }]) (by kernel_rfl) ?_
      intro b6 w6 g6 l6 e6 B6
      conv => whnf
      refine (hSp _ (hM.ext e6)).mono ?_
      rintro _ w10 ⟨b7, rfl, A8, e9⟩
      conv => whnf
      refine SemK.index (by kernel_rfl) A8 1 rfl q1 ?_
      intro b12 o12 _ hb12
      conv => whnf
      refine SemK.load0 (by kernel_rfl) hb12 rfl ?_
      conv => whnf
      refine (impl_ReadDecimal (by omega) (hT.ext (Ext.trans e6 e9)) (hE.ext (Ext.trans e6 e9))).mono ?_
      rintro _ w14 ⟨rfl, e13⟩
      conv => whnf
      refine SemK.index (by kernel_rfl) (A8.ext e13) 2 rfl q2 ?_
      intro b16 o16 _ hb16
      conv => whnf
      refine SemK.load0 (by kernel_rfl) hb16 rfl ?_
      conv => whnf
      refine (impl_ReadDecimal (by omega) (hT.ext (Ext.trans (Ext.trans e6 e9) e13)) (hE.ext (Ext.trans (Ext.trans e6 e9) e13))).mono ?_
      rintro _ w18 ⟨rfl, e17⟩
      conv => whnf
      refine SemK.index (by kernel_rfl) (A8.ext (Ext.trans e13 e17)) 3 rfl q3 ?_
      intro b20 o20 _ hb20
      conv => whnf
      refine SemK.load0 (by kernel_rfl) hb20 rfl ?_
      conv => whnf
      refine (impl_ReadDecimal (by omega) (hT.ext (Ext.trans (Ext.trans (Ext.trans e6 e9) e13) e17)) (hE.ext (Ext.trans (Ext.trans (Ext.trans e6 e9) e13) e17))).mono ?_
      rintro _ w22 ⟨rfl, e21⟩
      conv => whnf
      refine SemK.index (by kernel_rfl) (A8.ext (Ext.trans (Ext.trans e13 e17) e21)) 4 rfl q4 ?_
      intro b24 o24 _ hb24
      conv => whnf
      refine SemK.load0 (by kernel_rfl) hb24 rfl ?_
      conv => whnf
      refine SemK.build st_34 rfl ?_
      conv => whnf
      refine SemK.alloc (z := .agg #[.int .i64 0, .int .i64 0, .int .i64 0, .string { data := #[] }]) (by kernel_rfl) ?_
      intro b25 w25 g25 l25 e25 B25
      conv => whnf
      refine SemK.storeAll (vs := [Value.int IntKind.i64 (numI w1), Value.int IntKind.i64 (numI w2), Value.int IntKind.i64 (numI w3), Value.string w4]) (by kernel_rfl) B25 rfl rfl (by simp [cellish]) ?_
      intro w26 c26 B26
      conv => whnf
      refine IfB.eqt (by simp [*]; done) ?_
      conv => whnf
      refine SemK.build st_34 rfl ?_
      conv => whnf
      refine SemK.storeAll (vs := [Value.int IntKind.i64 0, Value.int IntKind.i64 0, Value.int IntKind.i64 0, Value.string { data := #[] }]) (by kernel_rfl) (B6.ext (Ext.but_trans (Ext.trans (Ext.trans (Ext.trans (Ext.trans e9 e13) e17) e21) e25) c26.but (Nat.le_trans (Below.size (Ext.trans (Ext.trans (Ext.trans e9 e13) e17) e21)) g25))) rfl rfl (by simp [cellish]) ?_
      intro w27 c27 B27
      conv => whnf
      refine CellK.of (run_loadAgg (n := 4) (by kernel_rfl) rfl B27.cells) ?_
      conv => whnf
      refine ⟨?_, (Ext.but_trans (Ext.but_trans (Ext.trans (Ext.trans (Ext.trans (Ext.trans (Ext.trans e6 e9) e13) e17) e21) e25) c26.but (Nat.le_trans (Below.size (Ext.trans (Ext.trans (Ext.trans (Ext.trans e6 e9) e13) e17) e21)) g25)) c27.but g6)⟩
      · exact .inr ⟨by rw [hn, if_neg (by simp [*])], ⟨0, 0, 0, { data := #[] }⟩, 0, rfl⟩
    cases hz2 : numB w2
    · refine SemK.alloc (z := .agg #[.int .i64 0, .int .i64 0, .int .i64 0, .string { data := #[] }]) (by kernel_rfl) ?_
      intro b6 w6 g6 l6 e6 B6
      conv => whnf
      refine (hSp _ (hM.ext e6)).mono ?_
      rintro _ w10 ⟨b7, rfl, A8, e9⟩
      conv => whnf
      refine SemK.index (by kernel_rfl) A8 1 rfl q1 ?_
      intro b12 o12 _ hb12
      conv => whnf
      refine SemK.load0 (by kernel_rfl) hb12 rfl ?_
      conv => whnf
      refine (impl_ReadDecimal (by omega) (hT.ext (Ext.trans e6 e9)) (hE.ext (Ext.trans e6 e9))).mono ?_
      rintro _ w14 ⟨rfl, e13⟩
      conv => whnf
      refine SemK.index (by kernel_rfl) (A8.ext e13) 2 rfl q2 ?_
      intro b16 o16 _ hb16
      conv => whnf
      refine SemK.load0 (by kernel_rfl) hb16 rfl ?_
      conv => whnf
      refine (impl_ReadDecimal (by omega) (hT.ext (Ext.trans (Ext.trans e6 e9) e13)) (hE.ext (Ext.trans (Ext.trans e6 e9) e13))).mono ?_
      rintro _ w18 ⟨rfl, e17⟩
      conv => whnf
      refine SemK.index (by kernel_rfl) (A8.ext (Ext.trans e13 e17)) 3 rfl q3 ?_
      intro b20 o20 _ hb20
      conv => whnf
      refine SemK.load0 (by kernel_rfl) hb20 rfl ?_
      conv => whnf
      refine (impl_ReadDecimal (by omega) (hT.ext (Ext.trans (Ext.trans (Ext.trans e6 e9) e13) e17)) (hE.ext (Ext.trans (Ext.trans (Ext.trans e6 e9) e13) e17))).mono ?_
      rintro _ w22 ⟨rfl, e21⟩
      conv => whnf
      refine SemK.index (by kernel_rfl) (A8.ext (Ext.trans (Ext.trans e13 e17) e21)) 4 rfl q4 ?_
      intro b24 o24 _ hb24
      conv => whnf
      refine SemK.load0 (by kernel_rfl) hb24 rfl ?_
      conv => whnf
      refine SemK.build st_34 rfl ?_
      conv => whnf
      refine SemK.alloc (z := .agg #[.int .i64 0, .int .i64 0, .int .i64 0, .string { data := #[] }]) (by kernel_rfl) ?_
      intro b25 w25 g25 l25 e25 B25
      conv => whnf
      refine SemK.storeAll (vs := [Value.int IntKind.i64 (numI w1), Value.int IntKind.i64 (numI w2), Value.int IntKind.i64 (numI w3), Value.string w4]) (by kernel_rfl) B25 rfl rfl (by simp [cellish]) ?_
      intro w26 c26 B26
      conv => whnf
      refine IfB.eqf (by simp [*]; done) ?_
      conv => whnf
      refine IfB.eqt (by simp [*]; done) ?_
      conv => whnf
      refine SemK.build st_34 rfl ?_
      conv => whnf
      refine SemK.storeAll (vs := [Value.int IntKind.i64 0, Value.int IntKind.i64 0, Value.int IntKind.i64 0, Value.string { data := #[] }]) (by kernel_rfl) (B6.ext (Ext.but_trans (Ext.trans (Ext.trans (Ext.trans (Ext.trans e9 e13) e17) e21) e25) c26.but (Nat.le_trans (Below.size (Ext.trans (Ext.trans (Ext.trans e9 e13) e17) e21)) g25))) rfl rfl (by simp [cellish]) ?_
      intro w27 c27 B27
      conv => whnf
      refine CellK.of (run_loadAgg (n := 4) (by kernel_rfl) rfl B27.cells) ?_
      conv => whnf
      refine ⟨?_, (Ext.but_trans (Ext.but_trans (Ext.trans (Ext.trans (Ext.trans (Ext.trans (Ext.trans e6 e9) e13) e17) e21) e25) c26.but (Nat.le_trans (Below.size (Ext.trans (Ext.trans (Ext.trans (Ext.trans e6 e9) e13) e17) e21)) g25)) c27.but g6)⟩
      · exact .inr ⟨by rw [hn, if_neg (by simp [*])], ⟨0, 0, 0, { data := #[] }⟩, 0, rfl⟩
    cases hz3 : numB w3
    · refine SemK.alloc (z := .agg #[.int .i64 0, .int .i64 0, .int .i64 0, .string { data := #[] }]) (by kernel_rfl) ?_
      intro b6 w6 g6 l6 e6 B6
      conv => whnf
      refine (hSp _ (hM.ext e6)).mono ?_
      rintro _ w10 ⟨b7, rfl, A8, e9⟩
      conv => whnf
      refine SemK.index (by kernel_rfl) A8 1 rfl q1 ?_
      intro b12 o12 _ hb12
      conv => whnf
      refine SemK.load0 (by kernel_rfl) hb12 rfl ?_
      conv => whnf
      refine (impl_ReadDecimal (by omega) (hT.ext (Ext.trans e6 e9)) (hE.ext (Ext.trans e6 e9))).mono ?_
      rintro _ w14 ⟨rfl, e13⟩
      conv => whnf
      refine SemK.index (by kernel_rfl) (A8.ext e13) 2 rfl q2 ?_
      intro b16 o16 _ hb16
      conv => whnf
      refine SemK.load0 (by kernel_rfl) hb16 rfl ?_
      conv => whnf
      refine (impl_ReadDecimal (by omega) (hT.ext (Ext.trans (Ext.trans e6 e9) e13)) (hE.ext (Ext.trans (Ext.trans e6 e9) e13))).mono ?_
      rintro _ w18 ⟨rfl, e17⟩
      conv => whnf
      refine SemK.index (by kernel_rfl) (A8.ext (Ext.trans e13 e17)) 3 rfl q3 ?_
      intro b20 o20 _ hb20
      conv => whnf
      refine SemK.load0 (by kernel_rfl) hb20 rfl ?_
      conv => whnf
      refine (impl_ReadDecimal (by omega) (hT.ext (Ext.trans (Ext.trans (Ext.trans e6 e9) e13) e17)) (hE.ext (Ext.trans (Ext.trans (Ext.trans e6 e9) e13) e17))).mono ?_
      rintro _ w22 ⟨rfl, e21⟩
      conv => whnf
      refine SemK.index (by kernel_rfl) (A8.ext (Ext.trans (Ext.trans e13 e17) e21)) 4 rfl q4 ?_
      intro b24 o24 _ hb24
      conv => whnf
      refine SemK.load0 (by kernel_rfl) hb24 rfl ?_
      conv => whnf
      refine SemK.build st_34 rfl ?_
      conv => whnf
      refine SemK.alloc (z := .agg #[.int .i64 0, .int .i64 0, .int .i64 0, .string { data := #[] }]) (by kernel_rfl) ?_
      intro b25 w25 g25 l25 e25 B25
      conv => whnf
      refine SemK.storeAll (vs := [Value.int IntKind.i64 (numI w1), Value.int IntKind.i64 (numI w2), Value.int IntKind.i64 (numI w3), Value.string w4]) (by kernel_rfl) B25 rfl rfl (by simp [cellish]) ?_
      intro w26 c26 B26
      conv => whnf
      refine IfB.eqf (by simp [*]; done) ?_
      conv => whnf
      refine IfB.eqf (by simp [*]; done) ?_
      conv => whnf
      refine IfB.eqt (by simp [*]; done) ?_
      conv => whnf
      refine SemK.build st_34 rfl ?_
      conv => whnf
      refine SemK.storeAll (vs := [Value.int IntKind.i64 0, Value.int IntKind.i64 0, Value.int IntKind.i64 0, Value.string { data := #[] }]) (by kernel_rfl) (B6.ext (Ext.but_trans (Ext.trans (Ext.trans (Ext.trans (Ext.trans e9 e13) e17) e21) e25) c26.but (Nat.le_trans (Below.size (Ext.trans (Ext.trans (Ext.trans e9 e13) e17) e21)) g25))) rfl rfl (by simp [cellish]) ?_
      intro w27 c27 B27
      conv => whnf
      refine CellK.of (run_loadAgg (n := 4) (by kernel_rfl) rfl B27.cells) ?_
      conv => whnf
      refine ⟨?_, (Ext.but_trans (Ext.but_trans (Ext.trans (Ext.trans (Ext.trans (Ext.trans (Ext.trans e6 e9) e13) e17) e21) e25) c26.but (Nat.le_trans (Below.size (Ext.trans (Ext.trans (Ext.trans (Ext.trans e6 e9) e13) e17) e21)) g25)) c27.but g6)⟩
      · exact .inr ⟨by rw [hn, if_neg (by simp [*])], ⟨0, 0, 0, { data := #[] }⟩, 0, rfl⟩
    refine SemK.alloc (z := .agg #[.int .i64 0, .int .i64 0, .int .i64 0, .string { data := #[] }]) (by kernel_rfl) ?_
    intro b6 w6 g6 l6 e6 B6
    conv => whnf
    refine (hSp _ (hM.ext e6)).mono ?_
    rintro _ w10 ⟨b7, rfl, A8, e9⟩
    conv => whnf
    refine SemK.index (by kernel_rfl) A8 1 rfl q1 ?_
    intro b12 o12 _ hb12
    conv => whnf
    refine SemK.load0 (by kernel_rfl) hb12 rfl ?_
    conv => whnf
    refine (impl_ReadDecimal (by omega) (hT.ext (Ext.trans e6 e9)) (hE.ext (Ext.trans e6 e9))).mono ?_
    rintro _ w14 ⟨rfl, e13⟩
    conv => whnf
    refine SemK.index (by kernel_rfl) (A8.ext e13) 2 rfl q2 ?_
    intro b16 o16 _ hb16
    conv => whnf
    refine SemK.load0 (by kernel_rfl) hb16 rfl ?_
    conv => whnf
    refine (impl_ReadDecimal (by omega) (hT.ext (Ext.trans (Ext.trans e6 e9) e13)) (hE.ext (Ext.trans (Ext.trans e6 e9) e13))).mono ?_
    rintro _ w18 ⟨rfl, e17⟩
    conv => whnf
    refine SemK.index (by kernel_rfl) (A8.ext (Ext.trans e13 e17)) 3 rfl q3 ?_
    intro b20 o20 _ hb20
    conv => whnf
    refine SemK.load0 (by kernel_rfl) hb20 rfl ?_
    conv => whnf
    refine (impl_ReadDecimal (by omega) (hT.ext (Ext.trans (Ext.trans (Ext.trans e6 e9) e13) e17)) (hE.ext (Ext.trans (Ext.trans (Ext.trans e6 e9) e13) e17))).mono ?_
    rintro _ w22 ⟨rfl, e21⟩
    conv => whnf
    refine SemK.index (by kernel_rfl) (A8.ext (Ext.trans (Ext.trans e13 e17) e21)) 4 rfl q4 ?_
    intro b24 o24 _ hb24
    conv => whnf
    refine SemK.load0 (by kernel_rfl) hb24 rfl ?_
    conv => whnf
    refine SemK.build st_34 rfl ?_
    conv => whnf
    refine SemK.alloc (z := .agg #[.int .i64 0, .int .i64 0, .int .i64 0, .string { data := #[] }]) (by kernel_rfl) ?_
    intro b25 w25 g25 l25 e25 B25
    conv => whnf
    refine SemK.storeAll (vs := [Value.int IntKind.i64 (numI w1), Value.int IntKind.i64 (numI w2), Value.int IntKind.i64 (numI w3), Value.string w4]) (by kernel_rfl) B25 rfl rfl (by simp [cellish]) ?_
    intro w26 c26 B26
    conv => whnf
    refine IfB.eqf (by simp [*]; done) ?_
    conv => whnf
    refine IfB.eqf (by simp [*]; done) ?_
    conv => whnf
    refine IfB.eqf (by simp [*]; done) ?_
    conv => whnf
    refine SemK.loadAgg (n := 4) (by kernel_rfl) B26.cells rfl ?_
    conv => whnf
    refine (hVN _).mono ?_
    rintro _ w28 ⟨rfl, e27⟩
    conv => whnf
    with_reducible refine IfB.nsplit (fun h29 => ?_) (fun h29 => ?_)
    · conv => whnf
      refine SemK.build st_34 rfl ?_
      conv => whnf
      refine SemK.storeAll (vs := [Value.int IntKind.i64 0, Value.int IntKind.i64 0, Value.int IntKind.i64 0, Value.string { data := #[] }]) (by kernel_rfl) (B6.ext (Ext.trans (Ext.but_trans (Ext.trans (Ext.trans (Ext.trans (Ext.trans e9 e13) e17) e21) e25) c26.but (Nat.le_trans (Below.size (Ext.trans (Ext.trans (Ext.trans e9 e13) e17) e21)) g25)) e27)) rfl rfl (by simp [cellish]) ?_
      intro w30 c30 B30
      conv => whnf
      refine CellK.of (run_loadAgg (n := 4) (by kernel_rfl) rfl B30.cells) ?_
      conv => whnf
      refine ⟨?_, (Ext.but_trans (Ext.trans (Ext.but_trans (Ext.trans (Ext.trans (Ext.trans (Ext.trans (Ext.trans e6 e9) e13) e17) e21) e25) c26.but (Nat.le_trans (Below.size (Ext.trans (Ext.trans (Ext.trans (Ext.trans e6 e9) e13) e17) e21)) g25)) e27) c30.but g6)⟩
      · exact .inr ⟨by rw [hn, if_neg (by rw [h29]; simp)], ⟨0, 0, 0, { data := #[] }⟩, 0, rfl⟩
    · conv => whnf
      have hw12 := hwd h29
      refine SemK.loadAgg (n := 4) (by kernel_rfl) (B26.ext e27).cells rfl ?_
      conv => whnf
      refine (hCO _ (hT.ext (Ext.trans (Ext.but_trans (Ext.trans (Ext.trans (Ext.trans (Ext.trans (Ext.trans e6 e9) e13) e17) e21) e25) c26.but (Nat.le_trans (Below.size (Ext.trans (Ext.trans (Ext.trans (Ext.trans e6 e9) e13) e17) e21)) g25)) e27)) (by omega)).mono ?_
      rintro _ w32 ⟨rfl, e31⟩
      conv => whnf
      refine DrawK.writes tabok mixed [(1, .any), (2, .any), (5, .any), (6, .any), (0, .held), (3, .held), (4, .run), (7, .any), (8, .write), (9, .any), (10, .any)] (by kernel_rfl) (by kernel_rfl) ?_
      conv => whnf
      intro w33 e33
      conv => whnf
      refine PSemK.cat (by simp only [ByteArray.size_append, bs_size, sizeC, sizeT, List.length_cons, List.length_nil]; omega) ?_
      conv => whnf
      refine DSemK.loadAgg (n := 4) (by kernel_rfl) (B26.ext (Ext.trans e27 e31)).cells rfl ?_
      conv => whnf
      refine DSemK.loadAgg (n := 4) (by kernel_rfl) (B26.ext (Ext.trans e27 e31)).cells rfl ?_
      conv => whnf
      refine (hNL _ (hT.ext (Ext.trans (Ext.trans (Ext.trans (Ext.but_trans (Ext.trans (Ext.trans (Ext.trans (Ext.trans (Ext.trans e6 e9) e13) e17) e21) e25) c26.but (Nat.le_trans (Below.size (Ext.trans (Ext.trans (Ext.trans (Ext.trans e6 e9) e13) e17) e21)) g25)) e27) e31) e33)) (by omega)).mono ?_
      rintro _ w35 ⟨rfl, e34⟩
      conv => whnf
      refine ⟨(Ext.trans e33 e34), ?_⟩
      conv => whnf
      refine SemK.storeAll (vs := [Value.int IntKind.i64 (numI w1), Value.int IntKind.i64 (numI w2), Value.int IntKind.i64 (numI w3), Value.string w4]) (by kernel_rfl) (B6.ext (Ext.trans (Ext.trans (Ext.trans (Ext.trans (Ext.but_trans (Ext.trans (Ext.trans (Ext.trans (Ext.trans e9 e13) e17) e21) e25) c26.but (Nat.le_trans (Below.size (Ext.trans (Ext.trans (Ext.trans e9 e13) e17) e21)) g25)) e27) e31) e33) e34)) rfl rfl (by simp [cellish]) ?_
      intro w36 c36 B36
      conv => whnf
      refine CellK.of (run_loadAgg (n := 4) (by kernel_rfl) rfl B36.cells) ?_
      conv => whnf
      refine ⟨?_, (Ext.but_trans (Ext.trans (Ext.trans (Ext.trans (Ext.trans (Ext.but_trans (Ext.trans (Ext.trans (Ext.trans (Ext.trans (Ext.trans e6 e9) e13) e17) e21) e25) c26.but (Nat.le_trans (Below.size (Ext.trans (Ext.trans (Ext.trans (Ext.trans e6 e9) e13) e17) e21)) g25)) e27) e31) e33) e34) c36.but g6)⟩
      · by_cases hq : lineB (chainM before x) x = line ++ nlB
        · have hq2 : decide (lineB (chainM before x) x = line ++ { data := #[10] }) = true := decide_eq_true hq
          exact .inl ⟨x, chainM before x, by rw [hn, if_pos ⟨by rw [hz1, hz2, hz3, h29]; rfl, hq⟩], by rw [hq2, hxe]; rfl⟩
        · have hq2 : decide (lineB (chainM before x) x = line ++ { data := #[10] }) = false := decide_eq_false hq
          exact .inr ⟨by rw [hn, if_neg (fun h => hq h.2)], x, chainM before x, by rw [hq2, hxe]; rfl⟩
  · have hn := noteRead_not h5 before
    refine Does.of_vc tabok Tryd.func34 rfl rfl rfl (by kernel_rfl) ?_; conv => whnf
    refine SemK.alloc (z := .agg #[.int .i64 0, .int .i64 0, .int .i64 0, .string { data := #[] }]) (by kernel_rfl) ?_
    intro b6 w6 g6 l6 e6 B6
    conv => whnf
    refine (lib_Split (by omega) (hM.ext e6)).mono ?_
    rintro _ w11 ⟨b7, rfl, q8, q9, e10⟩
    conv => whnf
    with_reducible refine IfB.ndec (fun h12 => ?_) (fun h12 => ?_)
    · conv => whnf
      refine SemK.build st_34 rfl ?_
      conv => whnf
      refine SemK.storeAll (vs := [Value.int IntKind.i64 0, Value.int IntKind.i64 0, Value.int IntKind.i64 0, Value.string { data := #[] }]) (by kernel_rfl) (B6.ext e10) rfl rfl (by simp [cellish]) ?_
      intro w13 c13 B13
      conv => whnf
      refine CellK.of (run_loadAgg (n := 4) (by kernel_rfl) rfl B13.cells) ?_
      conv => whnf
      refine ⟨?_, (Ext.but_trans (Ext.trans e6 e10) c13.but g6)⟩
      · exact .inr ⟨hn, ⟨0, 0, 0, { data := #[] }⟩, 0, rfl⟩
    · conv => whnf
      exact absurd (by omega) h5
theorem impl_readJournal {log : ByteArray} (hs : log.size ≤ 4000) {w : World} (hT : Pow w) (hE : Errs w) (hM : MaxL w) :
    Does Tryd.prog 31 [.string log] w (fun v w' => ∃ a n c, v = .tuple #[.slice a n c, .int .i64 (readJ log.data.toList 0).2.1, .int .i64 (readJ log.data.toList 0).2.2] ∧ NewAt w.heap.size a ∧ Own TNote.enc w' a n 34 (readJ log.data.toList 0).1 ∧ Ext w w') := by
  have hsz : log.data.toList.length = log.size := by simp
  refine Does.of_vc tabok Tryd.func31 rfl rfl rfl (by kernel_rfl) ?_; conv => whnf
  refine SemK.buildSlice mk_24 (vs := []) (by rfl) (by rfl) (by simp [Value.cells]) (by decide) ?_
  intro b1 w1 g1 l1 e1 B1
  have G1 := Grow.new0 (enc := TNote.enc) (sz := 4) TNote.enc_len B1 g1
  conv => whnf
  refine LoopK.rule [0, 5, 6, 7] (fun (k : Nat) vs w' => ∃ a3 n3 c3 out ch, vs = [.string log, .slice a3 n3 c3, .int .i64 ch, .int .i64 k] ∧ k ≤ log.size ∧ 0 ≤ ch ∧ ch ≤ 65520 ∧ Grow TNote.enc 4 w.heap.size 34 w' a3 n3 c3 out ∧ out.length ≤ k ∧ readJ log.data.toList 0 = (out ++ (readJ (log.data.toList.drop k) ch).1, (readJ (log.data.toList.drop k) ch).2.1, k + (readJ (log.data.toList.drop k) ch).2.2) ∧ Ext w w') (fun k => log.size - k) tab tabok (by kernel_rfl) 0 ⟨_, _, _, _, _, rfl, by omega, by omega, by omega, G1, by simp, by simp, e1⟩ ?_
  rintro k g _ w' ⟨a3, n3, c3, out, ch, rfl, hk, hc0, hc1, G, hol, hJ, hx⟩
  have hn := G.len
  have hex : (log.extract k log.size).data.toList = log.data.toList.drop k := by
    rw [extract_bs, List.take_of_length_le (by simp)]
    simp [bs]
  by_cases hm : (10 : UInt8) ∈ log.data.toList.drop k
  · obtain ⟨p, r, hpr, hp⟩ := byte_split hm
    have hI : ∀ u, Does Tryd.prog 33 [.string (log.extract k log.size), .int .u8 10] u (fun v u' => v = .int .i64 (p.length : Nat) ∧ u = u') := fun u => by
      refine (lib_IndexByte (log.extract k log.size) 10 u).mono ?_
      rintro _ _ ⟨rfl, rfl⟩
      rw [hex, hpr, indexByte_at _ _ _ hp]
      exact ⟨rfl, rfl⟩
    have hlen : p.length + 1 + k ≤ log.size := by
      have := congrArg List.length hpr
      simp at this
      omega
    have hr := line_of hpr
    have hlx : log.extract k (k + p.length) = bs p := by
      rw [extract_bs, hpr]
      congr 1
      simp
    cases hn : noteRead (bs p) ch with
    | none =>
      have hRN : ∀ u, Pow u → Errs u → MaxL u → Does Tryd.prog 34 [.string (log.extract k (k + p.length)), .int .i64 ch] u (fun v u' => ∃ n c, v = .tuple #[.agg ⟨TNote.enc n⟩, .int .i64 c, .bool false] ∧ Ext u u') := fun u hu1 hu2 hu3 => by
        rw [hlx]
        refine (impl_readNote (line := bs p) (by rw [bs_size]; omega) hc0 hc1 hu1 hu2 hu3).mono ?_
        rintro _ u' ⟨h | h, e⟩
        · obtain ⟨n, c, h, _⟩ := h
          rw [hn] at h; cases h
        · obtain ⟨_, n, c, rfl⟩ := h
          exact ⟨n, c, rfl, e⟩
      rw [hpr, readJ_bad hp hn] at hJ
      simp only [List.append_nil, Nat.add_zero] at hJ
      rw [hJ]
      conv => whnf
      refine SemK.sliceStr (k := .i64) (k' := .i64) (by kernel_rfl) (k) (log.size) (by omega) (by omega) (.inr (by rfl)) (.inl ⟨rfl, rfl⟩) ?_
      conv => whnf
      refine (hI _).mono ?_
      rintro _ _ ⟨rfl, rfl⟩
      conv => whnf
      refine SemK.add _ rfl (by omega) (by omega) ?_
      conv => whnf
      refine SemK.sliceStr (k := .i64) (k' := .i64) (by kernel_rfl) (k) (k + p.length) (by omega) (by omega) (.inr (by rfl)) (.inr (by rfl)) ?_
      conv => whnf
      refine (hRN _ (hT.ext hx) (hE.ext hx) (hM.ext hx)).mono ?_
      rintro _ w8 ⟨n5, c6, rfl, e7⟩
      conv => whnf
      refine SemK.alloc (z := .agg #[.int .i64 0, .int .i64 0, .int .i64 0, .string { data := #[] }]) (by kernel_rfl) ?_
      intro b9 w9 g9 l9 e9 B9
      conv => whnf
      refine SemK.storeAll (by kernel_rfl) B9 (vs := n5.enc) rfl rfl (by simp [TNote.enc, cellish]) ?_
      intro w10 c10 B10
      conv => whnf
      exact ⟨_, _, _, rfl, G.new, (G.ext (Ext.but_trans (Ext.trans e7 e9) c10.but (Nat.le_trans (Below.size e7) g9))).own, (Ext.but_trans (Ext.trans (Ext.trans hx e7) e9) c10.but (Nat.le_trans (Below.size (Ext.trans hx e7)) g9))⟩
    | some x =>
      obtain ⟨n, c⟩ := x
      have hRN : ∀ u, Pow u → Errs u → MaxL u → Does Tryd.prog 34 [.string (log.extract k (k + p.length)), .int .i64 ch] u (fun v u' => v = .tuple #[.agg ⟨TNote.enc n⟩, .int .i64 c, .bool true] ∧ Ext u u') := fun u hu1 hu2 hu3 => by
        rw [hlx]
        refine (impl_readNote (line := bs p) (by rw [bs_size]; omega) hc0 hc1 hu1 hu2 hu3).mono ?_
        rintro _ u' ⟨h | h, e⟩
        · obtain ⟨n2, c2, h, rfl⟩ := h
          rw [hn] at h; cases h
          exact ⟨rfl, e⟩
        · rw [hn] at h; cases h.1
      rw [hpr, readJ_good hp hn] at hJ
      conv => whnf
      refine SemK.sliceStr (k := .i64) (k' := .i64) (by kernel_rfl) (k) (log.size) (by omega) (by omega) (.inr (by rfl)) (.inl ⟨rfl, rfl⟩) ?_
      conv => whnf
      refine (hI _).mono ?_
      rintro _ _ ⟨rfl, rfl⟩
      conv => whnf
      refine SemK.add _ rfl (by omega) (by omega) ?_
      conv => whnf
      refine SemK.sliceStr (k := .i64) (k' := .i64) (by kernel_rfl) (k) (k + p.length) (by omega) (by omega) (.inr (by rfl)) (.inr (by rfl)) ?_
      conv => whnf
      refine (hRN _ (hT.ext hx) (hE.ext hx) (hM.ext hx)).mono ?_
      rintro _ w6 ⟨rfl, e5⟩
      conv => whnf
      refine SemK.alloc (z := .agg #[.int .i64 0, .int .i64 0, .int .i64 0, .string { data := #[] }]) (by kernel_rfl) ?_
      intro b7 w7 g7 l7 e7 B7
      conv => whnf
      refine SemK.storeAll (by kernel_rfl) B7 (vs := n.enc) rfl rfl (by simp [TNote.enc, cellish]) ?_
      intro w8 c8 B8
      conv => whnf
      refine SemK.loadAgg (n := 4) (by kernel_rfl) B8.cells rfl ?_
      conv => whnf
      refine SemK.buildSlice mk_24 (vs := [Value.agg n.enc.toArray]) (by rfl) (by rfl) (by simp [Value.cells, TNote.enc]) (by decide) ?_
      intro b9 w9 g9 l9 e9 B9
      have G9 := Grow.of_blk (n := 1) (enc := TNote.enc) (xs := [n]) TNote.enc_len B9 g9 rfl (by decide)
      conv => whnf
      refine SemK.appendArr0 (enc := TNote.enc) mk_24 TNote.enc_len (G.ext (Ext.trans (Ext.but_trans (Ext.trans e5 e7) c8.but (Nat.le_trans (Below.size e5) g7)) e9)) (G9.own.arr TNote.enc_len) (by intro y _; simp [TNote.enc, cellish]) (by omega) (by omega) (Below.size (Ext.trans (Ext.but_trans (Ext.trans (Ext.trans hx e5) e7) c8.but (Nat.le_trans (Below.size (Ext.trans hx e5)) g7)) e9)) ?_
      intro a10 c10 w10 G10 m10 i10
      conv => whnf
      refine SemK.add (((p.length + 1 : Nat) : Int)) (by omega) (by omega) (by omega) ?_
      conv => whnf
      refine SemK.add _ rfl (by omega) (by omega) ?_
      conv => whnf
      obtain ⟨_, hc2, _⟩ := noteRead_ok hn
      have hcb := chainM_b ch hc0 n
      rw [← hc2] at hcb
      refine ⟨k + (p.length + 1), by omega, a10, _, c10, out ++ [n], c, rfl, by omega, hcb.1, hcb.2, G10, by simp; omega, ?_, Ext.mod_trans (Ext.trans (Ext.but_trans (Ext.trans (Ext.trans hx e5) e7) c8.but (Nat.le_trans (Below.size (Ext.trans hx e5)) g7)) e9) m10 (blkIn_new G.new)⟩
      rw [hr, hJ]
      simp [Nat.add_assoc]
  · have hI : ∀ u, Does Tryd.prog 33 [.string (log.extract k log.size), .int .u8 10] u (fun v u' => v = .int .i64 (-1) ∧ u = u') := fun u => by
      refine (lib_IndexByte (log.extract k log.size) 10 u).mono ?_
      rintro _ _ ⟨rfl, rfl⟩
      rw [hex, indexByte_no _ _ hm]
      exact ⟨rfl, rfl⟩
    rw [readJ_none hm] at hJ
    simp only [List.append_nil, Nat.add_zero] at hJ
    rw [hJ]
    conv => whnf
    refine SemK.sliceStr (k := .i64) (k' := .i64) (by kernel_rfl) (k) (log.size) (by omega) (by omega) (.inr (by rfl)) (.inl ⟨rfl, rfl⟩) ?_
    conv => whnf
    refine (hI _).mono ?_
    rintro _ _ ⟨rfl, rfl⟩
    conv => whnf
    exact ⟨_, _, _, rfl, G.new, G.own, hx⟩
end Go.Proofs.YtehofnnghbcjgaaDoor
