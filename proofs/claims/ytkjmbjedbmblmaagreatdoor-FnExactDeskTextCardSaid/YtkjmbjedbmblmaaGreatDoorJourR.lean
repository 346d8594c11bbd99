/- Contracts of functions of the given program, of the reference and of the laws: each says what a call returns, for all arguments that meet the premises that the theorem itself names. -/
import Derived.Test.YtkjmbjedbmblmaaGreatDoorJour
import Derived.Test.YtkjmbjedbmblmaaGreatDoorJournalR
import Derived.Test.YtkjmbjedbmblmaaGreatDoorNest
namespace Go.Proofs.YtkjmbjedbmblmaaGreatDoor
open Go Go.RowKit Go.Vc Go.M Go.Shelf Go.Proofs
theorem impl_readNote {line : ByteArray} (hs : line.size ≤ 4000) {before : Int} (h0 : 0 ≤ before) (h1 : before ≤ 65520) {w : World} (hT : Pow w) (hE : Errs w) (hM : MaxL w) :
    Does Tryz.prog 350 [.string line, .int .i64 before] w (fun v w' => ((∃ n c, noteRead line before = some (n, c) ∧ v = .tuple #[.agg ⟨TNote.enc n⟩, .int .i64 c, .bool true]) ∨
      (noteRead line before = none ∧ ∃ n c, v = .tuple #[.agg ⟨TNote.enc n⟩, .int .i64 c, .bool false])) ∧ Ext w w') := by
  have hsl : splitS 32 line ≠ [] := fun e => by have := splitS_pos 32 line; rw [e] at this; simp at this
  by_cases h5 : (splitS 32 line).length = 5
  · obtain ⟨wa, w1, w2, w3, w4, hl⟩ := list5 h5
    have hn := noteRead_five hl before
    have z1 : w1.size ≤ line.size := splitS_le (c := 32) (by rw [hl]; simp)
    have z2 : w2.size ≤ line.size := splitS_le (c := 32) (by rw [hl]; simp)
    have z3 : w3.size ≤ line.size := splitS_le (c := 32) (by rw [hl]; simp)
    have z4 : w4.size ≤ line.size := splitS_le (c := 32) (by rw [hl]; simp)
    have hx : TNote.ok ⟨numI w1, numI w2, numI w3, w4⟩ := ⟨numI_ok w1, numI_ok w2, numI_ok w3, by simp only [strok]; omega⟩
    have q1 : [wa, w1, w2, w3, w4][1]? = some w1 := rfl
    have q2 : [wa, w1, w2, w3, w4][2]? = some w2 := rfl
    have q3 : [wa, w1, w2, w3, w4][3]? = some w3 := rfl
    have q4 : [wa, w1, w2, w3, w4][4]? = some w4 := rfl
    obtain ⟨x, hxe⟩ : ∃ x : TNote, x = ⟨numI w1, numI w2, numI w3, w4⟩ := ⟨_, rfl⟩
    rw [← hxe] at hn hx
    have hcb := chainM_b before h0 x
    have hlz := line_size hcb.1 hcb.2 hx
    have hVN : ∀ u, Does Tryz.prog 387 [.agg #[.int .i64 (numI w1), .int .i64 (numI w2), .int .i64 (numI w3), .string w4]] u (fun v u' => v = .bool (noteB x) ∧ Ext u u') := fun u => by
      have := impl_ValidNote hx u
      rw [hxe] at this ⊢
      exact this
    have hCO : ∀ u, Pow u → x.what.size ≤ 1000 → Does Tryz.prog 388 [.int .i64 before, .agg #[.int .i64 (numI w1), .int .i64 (numI w2), .int .i64 (numI w3), .string w4]] u (fun v u' => v = .int .i64 (chainM before x) ∧ Ext u u') := fun u hu hw => by
      have := impl_chainOf h0 h1 hx hw hu
      rw [hxe] at this ⊢
      exact this
    have hNL : ∀ u, Pow u → x.what.size ≤ 1000 → Does Tryz.prog 389 [.int .i64 (chainM before x), .agg #[.int .i64 (numI w1), .int .i64 (numI w2), .int .i64 (numI w3), .string w4]] u (fun v u' => v = .string (lineB (chainM before x) x) ∧ Ext u u') := fun u hu hw => by
      have := impl_noteLine hcb.1 hcb.2 hx hw hu
      rw [hxe] at this ⊢
      exact this
    have hwd : noteB x = true → x.what.size ≤ 12 := noteB_what
    have hSp : ∀ u, MaxL u → Does Tryz.prog 172 [.string line, .string ⟨#[32]⟩] u (fun v u' => ∃ b, v = .slice (some ⟨b, 0, none⟩) 5 5 ∧ Arr eS 1 u' (some ⟨b, 0, none⟩) 5 [wa, w1, w2, w3, w4] ∧ Ext u u') := fun u hu =>
      (lib_Split (c := 32) (by omega) hu).mono (by
        rintro _ u' ⟨b, rfl, g, B, e⟩
        rw [hl] at B ⊢
        exact ⟨b, rfl, (Grow.of_blk (n := 5) (enc := eS) eS_len B g rfl (by decide)).own.arr eS_len, e⟩)
    refine Does.of_vc tabok Tryz.func350 rfl rfl rfl (by kernel_rfl) ?_; conv => whnf
    cases hz1 : numB w1
    · refine SemK.alloc (z := .agg #[.int .i64 0, .int .i64 0, .int .i64 0, .string { data := #[] }]) (by kernel_rfl) ?_
      intro b6 w6 g6 l6 e6 B6
      conv => whnf
      refine (hSp _ (hM.ext e6)).mono ?_
      rintro _ w10 ⟨b7, rfl, A8, e9⟩
      conv => whnf
      refine SemK.index (by kernel_rfl) A8 1 rfl q1 ?_
      intro b12 o12 _ hb12
      conv => whnf
      refine SemK.load0 (by kernel_rfl) hb12 rfl ?_
      conv => whnf
      refine (impl_ReadDecimal (by omega) (hT.ext (Ext.trans e6 e9)) (hE.ext (Ext.trans e6 e9))).mono ?_
      rintro _ w14 ⟨rfl, e13⟩
      conv => whnf
      refine SemK.index (by kernel_rfl) (A8.ext e13) 2 rfl q2 ?_
      intro b16 o16 _ hb16
      conv => whnf
      refine SemK.load0 (by kernel_rfl) hb16 rfl ?_
      conv => whnf
      refine (impl_ReadDecimal (by omega) (hT.ext (Ext.trans (Ext.trans e6 e9) e13)) (hE.ext (Ext.trans (Ext.trans e6 e9) e13))).mono ?_
      rintro _ w18 ⟨rfl, e17⟩
      conv => whnf
      refine SemK.index (by kernel_rfl) (A8.ext (Ext.trans e13 e17)) 3 rfl q3 ?_
      intro b20 o20 _ hb20
      conv => whnf
      refine SemK.load0 (by kernel_rfl) hb20 rfl ?_
      conv => whnf
      refine (impl_ReadDecimal (by omega) (hT.ext (Ext.trans (Ext.trans (Ext.trans e6 e9) e13) e17)) (hE.ext (Ext.trans (Ext.trans (Ext.trans e6 e9) e13) e17))).mono ?_
      rintro _ w22 ⟨rfl, e21⟩
      conv => whnf
      refine SemK.index (by kernel_rfl) (A8.ext (Ext.trans (Ext.trans e13 e17) e21)) 4 rfl q4 ?_
      intro b24 o24 _ hb24
      conv => whnf
      refine SemK.load0 (by kernel_rfl) hb24 rfl ?_
      conv => whnf
      refine SemK.build st_377 rfl ?_
      conv => whnf
      refine SemK.alloc (z := .agg #[.int .i64 0, .int .i64 0, .int .i64 0, .string { data := #[] }]) (by kernel_rfl) ?_
      intro b25 w25 g25 l25 e25 B25
      conv => whnf
      refine SemK.storeAll (vs := [Value.int IntKind.i64 (numI w1), Value.int IntKind.i64 (numI w2), Value.int IntKind.i64 (numI w3), Value.string w4]) (by kernel_rfl) B25 rfl rfl (by simp [cellish]) ?_
      intro w26 c26 B26
      conv => whnf
      refine IfB.eqt (by simp [*]; done) ?_
      conv => whnf
      refine SemK.build st_377 rfl ?_
      conv => whnf
      refine SemK.storeAll (vs := [Value.int IntKind.i64 0, Value.int IntKind.i64 0, Value.int IntKind.i64 0, Value.string { data := #[] }]) (by kernel_rfl) (B6.ext (Ext.but_trans (Ext.trans (Ext.trans (Ext.trans (Ext.trans e9 e13) e17) e21) e25) c26.but (Nat.le_trans (Below.size (Ext.trans (Ext.trans (Ext.trans e9 e13) e17) e21)) g25))) rfl rfl (by simp [cellish]) ?_
      intro w27 c27 B27
      conv => whnf
      refine CellK.of (run_loadAgg (n := 4) (by kernel_rfl) rfl B27.cells) ?_
      conv => whnf
      refine ⟨?_, (Ext.but_trans (Ext.but_trans (Ext.trans (Ext.trans (Ext.trans (Ext.trans (Ext.trans e6 e9) e13) e17) e21) e25) c26.but (Nat.le_trans (Below.size (Ext.trans (Ext.trans (Ext.trans (Ext.trans e6 e9) e13) e17) e21)) g25)) c27.but g6)⟩
      · exact .inr ⟨by rw [hn, if_neg (by simp [*])], ⟨0, 0, 0, { data := #[] }⟩, 0, rfl⟩
    cases hz2 : numB w2
    · refine SemK.alloc (z := .agg #[.int .i64 0, .int .i64 0, .int .i64 0, .string { data := #[] }]) (by kernel_rfl) ?_
      intro b6 w6 g6 l6 e6 B6
      conv => whnf
      refine (hSp _ (hM.ext e6)).mono ?_
      rintro _ w10 ⟨b7, rfl, A8, e9⟩
      conv => whnf
      refine SemK.index (by kernel_rfl) A8 1 rfl q1 ?_
      intro b12 o12 _ hb12
      conv => whnf
      refine SemK.load0 (by kernel_rfl) hb12 rfl ?_
      conv => whnf
      refine (impl_ReadDecimal (by omega) (hT.ext (Ext.trans e6 e9)) (hE.ext (Ext.trans e6 e9))).mono ?_
      rintro _ w14 ⟨rfl, e13⟩
      conv => whnf
      refine SemK.index (by kernel_rfl) (A8.ext e13) 2 rfl q2 ?_
      intro b16 o16 _ hb16
      conv => whnf
      refine SemK.load0 (by kernel_rfl) hb16 rfl ?_
      conv => whnf
      refine (impl_ReadDecimal (by omega) (hT.ext (Ext.trans (Ext.trans e6 e9) e13)) (hE.ext (Ext.trans (Ext.trans e6 e9) e13))).mono ?_
      rintro _ w18 ⟨rfl, e17⟩
      conv => whnf
      refine SemK.index (by kernel_rfl) (A8.ext (Ext.trans e13 e17)) 3 rfl q3 ?_
      intro b20 o20 _ hb20
      conv => whnf
      refine SemK.load0 (by kernel_rfl) hb20 rfl ?_
      conv => whnf
      refine (impl_ReadDecimal (by omega) (hT.ext (Ext.trans (Ext.trans (Ext.trans e6 e9) e13) e17)) (hE.ext (Ext.trans (Ext.trans (Ext.trans e6 e9) e13) e17))).mono ?_
      rintro _ w22 ⟨rfl, e21⟩
      conv => whnf
      refine SemK.index (by kernel_rfl) (A8.ext (Ext.trans (Ext.trans e13 e17) e21)) 4 rfl q4 ?_
      intro b24 o24 _ hb24
      conv => whnf
      refine SemK.load0 (by kernel_rfl) hb24 rfl ?_
      conv => whnf
      refine SemK.build st_377 rfl ?_
      conv => whnf
      refine SemK.alloc (z := .agg #[.int .i64 0, .int .i64 0, .int .i64 0, .string { data := #[] }]) (by kernel_rfl) ?_
      intro b25 w25 g25 l25 e25 B25
      conv => whnf
      refine SemK.storeAll (vs := [Value.int IntKind.i64 (numI w1), Value.int IntKind.i64 (numI w2), Value.int IntKind.i64 (numI w3), Value.string w4]) (by kernel_rfl) B25 rfl rfl (by simp [cellish]) ?_
      intro w26 c26 B26
      conv => whnf
      refine IfB.eqf (by simp [*]; done) ?_
      conv => whnf
      refine IfB.eqt (by simp [*]; done) ?_
      conv => whnf
      refine SemK.build st_377 rfl ?_
      conv => whnf
      refine SemK.storeAll (vs := [Value.int IntKind.i64 0, Value.int IntKind.i64 0, Value.int IntKind.i64 0, Value.string { data := #[] }]) (by kernel_rfl) (B6.ext (Ext.but_trans (Ext.trans (Ext.trans (Ext.trans (Ext.trans e9 e13) e17) e21) e25) c26.but (Nat.le_trans (Below.size (Ext.trans (Ext.trans (Ext.trans e9 e13) e17) e21)) g25))) rfl rfl (by simp [cellish]) ?_
      intro w27 c27 B27
      conv => whnf
      refine CellK.of (run_loadAgg (n := 4) (by kernel_rfl) rfl B27.cells) ?_
      conv => whnf
      refine ⟨?_, (Ext.but_trans (Ext.but_trans (Ext.trans (Ext.trans (Ext.trans (Ext.trans (Ext.trans e6 e9) e13) e17) e21) e25) c26.but (Nat.le_trans (Below.size (Ext.trans (Ext.trans (Ext.trans (Ext.trans e6 e9) e13) e17) e21)) g25)) c27.but g6)⟩
      · exact .inr ⟨by rw [hn, if_neg (by simp [*])], ⟨0, 0, 0, { data := #[] }⟩, 0, rfl⟩
    cases hz3 : numB w3
    · refine SemK.alloc (z := .agg #[.int .i64 0, .int .i64 0, .int .i64 0, .string { data := #[] }]) (by kernel_rfl) ?_
      intro b6 w6 g6 l6 e6 B6
      conv => whnf
      refine (hSp _ (hM.ext e6)).mono ?_
      rintro _ w10 ⟨b7, rfl, A8, e9⟩
      conv => whnf
      refine SemK.index (by kernel_rfl) A8 1 rfl q1 ?_
      intro b12 o12 _ hb12
      conv => whnf
      refine SemK.load0 (by kernel_rfl) hb12 rfl ?_
      conv => whnf
      refine (impl_ReadDecimal (by omega) (hT.ext (Ext.trans e6 e9)) (hE.ext (Ext.trans e6 e9))).mono ?_
      rintro _ w14 ⟨rfl, e13⟩
      conv => whnf
      refine SemK.index (by kernel_rfl) (A8.ext e13) 2 rfl q2 ?_
      intro b16 o16 _ hb16
      conv => whnf
      refine SemK.load0 (by kernel_rfl) hb16 rfl ?_
      conv => whnf
      refine (impl_ReadDecimal (by omega) (hT.ext (Ext.trans (Ext.trans e6 e9) e13)) (hE.ext (Ext.trans (Ext.trans e6 e9) e13))).mono ?_
      rintro _ w18 ⟨rfl, e17⟩
      conv => whnf
      refine SemK.index (by kernel_rfl) (A8.ext (Ext.trans e13 e17)) 3 rfl q3 ?_
      intro b20 o20 _ hb20
      conv => whnf
      refine SemK.load0 (by kernel_rfl) hb20 rfl ?_
      conv => whnf
      refine (impl_ReadDecimal (by omega) (hT.ext (Ext.trans (Ext.trans (Ext.trans e6 e9) e13) e17)) (hE.ext (Ext.trans (Ext.trans (Ext.trans e6 e9) e13) e17))).mono ?_
      rintro _ w22 ⟨rfl, e21⟩
      conv => whnf
      refine SemK.index (by kernel_rfl) (A8.ext (Ext.trans (Ext.trans e13 e17) e21)) 4 rfl q4 ?_
      intro b24 o24 _ hb24
      conv => whnf
      refine SemK.load0 (by kernel_rfl) hb24 rfl ?_
      conv => whnf
      refine SemK.build st_377 rfl ?_
      conv => whnf
      refine SemK.alloc (z := .agg #[.int .i64 0, .int .i64 0, .int .i64 0, .string { data := #[] }]) (by kernel_rfl) ?_
      intro b25 w25 g25 l25 e25 B25
      conv => whnf
      refine SemK.storeAll (vs := [Value.int IntKind.i64 (numI w1), Value.int IntKind.i64 (numI w2), Value.int IntKind.i64 (numI w3), Value.string w4]) (by kernel_rfl) B25 rfl rfl (by simp [cellish]) ?_
      intro w26 c26 B26
      conv => whnf
      refine IfB.eqf (by simp [*]; done) ?_
      conv => whnf
      refine IfB.eqf (by simp [*]; done) ?_
      conv => whnf
      refine IfB.eqt (by simp [*]; done) ?_
      conv => whnf
      refine SemK.build st_377 rfl ?_
      conv => whnf
      refine SemK.storeAll (vs := [Value.int IntKind.i64 0, Value.int IntKind.i64 0, Value.int IntKind.i64 0, Value.string { data := #[] }]) (by kernel_rfl) (B6.ext (Ext.but_trans (Ext.trans (Ext.trans (Ext.trans (Ext.trans e9 e13) e17) e21) e25) c26.but (Nat.le_trans (Below.size (Ext.trans (Ext.trans (Ext.trans e9 e13) e17) e21)) g25))) rfl rfl (by simp [cellish]) ?_
      intro w27 c27 B27
      conv => whnf
      refine CellK.of (run_loadAgg (n := 4) (by kernel_rfl) rfl B27.cells) ?_
      conv => whnf
      refine ⟨?_, (Ext.but_trans (Ext.but_trans (Ext.trans (Ext.trans (Ext.trans (Ext.trans (Ext.trans e6 e9) e13) e17) e21) e25) c26.but (Nat.le_trans (Below.size (Ext.trans (Ext.trans (Ext.trans (Ext.trans e6 e9) e13) e17) e21)) g25)) c27.but g6)⟩
      · exact .inr ⟨by rw [hn, if_neg (by simp [*])], ⟨0, 0, 0, { data := #[] }⟩, 0, rfl⟩
    refine SemK.alloc (z := .agg #[.int .i64 0, .int .i64 0, .int .i64 0, .string { data := #[] }]) (by kernel_rfl) ?_
    intro b6 w6 g6 l6 e6 B6
    conv => whnf
    refine (hSp _ (hM.ext e6)).mono ?_
    rintro _ w10 ⟨b7, rfl, A8, e9⟩
    conv => whnf
    refine SemK.index (by kernel_rfl) A8 1 rfl q1 ?_
    intro b12 o12 _ hb12
    conv => whnf
    refine SemK.load0 (by kernel_rfl) hb12 rfl ?_
    conv => whnf
    refine (impl_ReadDecimal (by omega) (hT.ext (Ext.trans e6 e9)) (hE.ext (Ext.trans e6 e9))).mono ?_
    rintro _ w14 ⟨rfl, e13⟩
    conv => whnf
    refine SemK.index (by kernel_rfl) (A8.ext e13) 2 rfl q2 ?_
    intro b16 o16 _ hb16
    conv => whnf
    refine SemK.load0 (by kernel_rfl) hb16 rfl ?_
    conv => whnf
    refine (impl_ReadDecimal (by omega) (hT.ext (Ext.trans (Ext.trans e6 e9) e13)) (hE.ext (Ext.trans (Ext.trans e6 e9) e13))).mono ?_
    rintro _ w18 ⟨rfl, e17⟩
    conv => whnf
    refine SemK.index (by kernel_rfl) (A8.ext (Ext.trans e13 e17)) 3 rfl q3 ?_
    intro b20 o20 _ hb20
    conv => whnf
    refine SemK.load0 (by kernel_rfl) hb20 rfl ?_
    conv => whnf
    refine (impl_ReadDecimal (by omega) (hT.ext (Ext.trans (Ext.trans (Ext.trans e6 e9) e13) e17)) (hE.ext (Ext.trans (Ext.trans (Ext.trans e6 e9) e13) e17))).mono ?_
    rintro _ w22 ⟨rfl, e21⟩
    conv => whnf
    refine SemK.index (by kernel_rfl) (A8.ext (Ext.trans (Ext.trans e13 e17) e21)) 4 rfl q4 ?_
    intro b24 o24 _ hb24
    conv => whnf
    refine SemK.load0 (by kernel_rfl) hb24 rfl ?_
    conv => whnf
    refine SemK.build st_377 rfl ?_
    conv => whnf
    refine SemK.alloc (z := .agg #[.int .i64 0, .int .i64 0, .int .i64 0, .string { data := #[] }]) (by kernel_rfl) ?_
    intro b25 w25 g25 l25 e25 B25
    conv => whnf
    refine SemK.storeAll (vs := [Value.int IntKind.i64 (numI w1), Value.int IntKind.i64 (numI w2), Value.int IntKind.i64 (numI w3), Value.string w4]) (by kernel_rfl) B25 rfl rfl (by simp [cellish]) ?_
    intro w26 c26 B26
    conv => whnf
    refine IfB.eqf (by simp [*]; done) ?_
    conv => whnf
    refine IfB.eqf (by simp [*]; done) ?_
    conv => whnf
    refine IfB.eqf (by simp [*]; done) ?_
    conv => whnf
    refine SemK.loadAgg (n := 4) (by kernel_rfl) B26.cells rfl ?_
    conv => whnf
    refine (hVN _).mono ?_
    rintro _ w28 ⟨rfl, e27⟩
    conv => whnf
    with_reducible refine IfB.nsplit (fun h29 => ?_) (fun h29 => ?_)
    · conv => whnf
      refine SemK.build st_377 rfl ?_
      conv => whnf
      refine SemK.storeAll (vs := [Value.int IntKind.i64 0, Value.int IntKind.i64 0, Value.int IntKind.i64 0, Value.string { data := #[] }]) (by kernel_rfl) (B6.ext (Ext.trans (Ext.but_trans (Ext.trans (Ext.trans (Ext.trans (Ext.trans e9 e13) e17) e21) e25) c26.but (Nat.le_trans (Below.size (Ext.trans (Ext.trans (Ext.trans e9 e13) e17) e21)) g25)) e27)) rfl rfl (by simp [cellish]) ?_
      intro w30 c30 B30
      conv => whnf
      refine CellK.of (run_loadAgg (n := 4) (by kernel_rfl) rfl B30.cells) ?_
      conv => whnf
      refine ⟨?_, (Ext.but_trans (Ext.trans (Ext.but_trans (Ext.trans (Ext.trans (Ext.trans (Ext.trans (Ext.trans e6 e9) e13) e17) e21) e25) c26.but (Nat.le_trans (Below.size (Ext.trans (Ext.trans (Ext.trans (Ext.trans e6 e9) e13) e17) e21)) g25)) e27) c30.but g6)⟩
      · exact .inr ⟨by rw [hn, if_neg (by rw [h29]; simp)], ⟨0, 0, 0, { data := #[] }⟩, 0, rfl⟩
    · conv => whnf
      have hw12 := hwd h29
      refine SemK.loadAgg (n := 4) (by kernel_rfl) (B26.ext e27).cells rfl ?_
      conv => whnf
      refine (hCO _ (hT.ext (Ext.trans (Ext.but_trans (Ext.trans (Ext.trans (Ext.trans (Ext.trans (Ext.trans e6 e9) e13) e17) e21) e25) c26.but (Nat.le_trans (Below.size (Ext.trans (Ext.trans (Ext.trans (Ext.trans e6 e9) e13) e17) e21)) g25)) e27)) (by omega)).mono ?_
      rintro _ w32 ⟨rfl, e31⟩
      conv => whnf
      refine DrawK.writes tabok mixed [(1, .any), (2, .any), (5, .any), (6, .any), (0, .held), (3, .held), (4, .run), (7, .any), (8, .write), (9, .any), (10, .any)] (by kernel_rfl) (by kernel_rfl) ?_
      conv => whnf
      intro w33 e33
      conv => whnf
      refine PSemK.cat (by simp only [ByteArray.size_append, bs_size, sizeC, sizeT, List.length_cons, List.length_nil]; omega) ?_
      conv => whnf
      refine DSemK.loadAgg (n := 4) (by kernel_rfl) (B26.ext (Ext.trans e27 e31)).cells rfl ?_
      conv => whnf
      refine DSemK.loadAgg (n := 4) (by kernel_rfl) (B26.ext (Ext.trans e27 e31)).cells rfl ?_
      conv => whnf
      refine (hNL _ (hT.ext (Ext.trans (Ext.trans (Ext.trans (Ext.but_trans (Ext.trans (Ext.trans (Ext.trans (Ext.trans (Ext.trans e6 e9) e13) e17) e21) e25) c26.but (Nat.le_trans (Below.size (Ext.trans (Ext.trans (Ext.trans (Ext.trans e6 e9) e13) e17) e21)) g25)) e27) e31) e33)) (by omega)).mono ?_
      rintro _ w35 ⟨rfl, e34⟩
      conv => whnf
      refine ⟨(Ext.trans e33 e34), ?_⟩
      conv => whnf
      refine SemK.storeAll (vs := [Value.int IntKind.i64 (numI w1), Value.int IntKind.i64 (numI w2), Value.int IntKind.i64 (numI w3), Value.string w4]) (by kernel_rfl) (B6.ext (Ext.trans (Ext.trans (Ext.trans (Ext.trans (Ext.but_trans (Ext.trans (Ext.trans (Ext.trans (Ext.trans e9 e13) e17) e21) e25) c26.but (Nat.le_trans (Below.size (Ext.trans (Ext.trans (Ext.trans e9 e13) e17) e21)) g25)) e27) e31) e33) e34)) rfl rfl (by simp [cellish]) ?_
      intro w36 c36 B36
      conv => whnf
      refine CellK.of (run_loadAgg (n := 4) (by kernel_rfl) rfl B36.cells) ?_
      conv => whnf
      refine ⟨?_, (Ext.but_trans (Ext.trans (Ext.trans (Ext.trans (Ext.trans (Ext.but_trans (Ext.trans (Ext.trans (Ext.trans (Ext.trans (Ext.trans e6 e9) e13) e17) e21) e25) c26.but (Nat.le_trans (Below.size (Ext.trans (Ext.trans (Ext.trans (Ext.trans e6 e9) e13) e17) e21)) g25)) e27) e31) e33) e34) c36.but g6)⟩
      · by_cases hq : lineB (chainM before x) x = line ++ nlB
        · have hq2 : decide (lineB (chainM before x) x = line ++ { data := #[10] }) = true := decide_eq_true hq
          exact .inl ⟨x, chainM before x, by rw [hn, if_pos ⟨by rw [hz1, hz2, hz3, h29]; rfl, hq⟩], by rw [hq2, hxe]; rfl⟩
        · have hq2 : decide (lineB (chainM before x) x = line ++ { data := #[10] }) = false := decide_eq_false hq
          exact .inr ⟨by rw [hn, if_neg (fun h => hq h.2)], x, chainM before x, by rw [hq2, hxe]; rfl⟩
  · have hn := noteRead_not h5 before
    refine Does.of_vc tabok Tryz.func350 rfl rfl rfl (by kernel_rfl) ?_; conv => whnf
    refine SemK.alloc (z := .agg #[.int .i64 0, .int .i64 0, .int .i64 0, .string { data := #[] }]) (by kernel_rfl) ?_
    intro b6 w6 g6 l6 e6 B6
    conv => whnf
    refine (lib_Split (by omega) (hM.ext e6)).mono ?_
    rintro _ w11 ⟨b7, rfl, q8, q9, e10⟩
    conv => whnf
    with_reducible refine IfB.ndec (fun h12 => ?_) (fun h12 => ?_)
    · conv => whnf
      refine SemK.build st_377 rfl ?_
      conv => whnf
      refine SemK.storeAll (vs := [Value.int IntKind.i64 0, Value.int IntKind.i64 0, Value.int IntKind.i64 0, Value.string { data := #[] }]) (by kernel_rfl) (B6.ext e10) rfl rfl (by simp [cellish]) ?_
      intro w13 c13 B13
      conv => whnf
      refine CellK.of (run_loadAgg (n := 4) (by kernel_rfl) rfl B13.cells) ?_
      conv => whnf
      refine ⟨?_, (Ext.but_trans (Ext.trans e6 e10) c13.but g6)⟩
      · exact .inr ⟨hn, ⟨0, 0, 0, { data := #[] }⟩, 0, rfl⟩
    · conv => whnf
      exact absurd (by omega) h5
theorem impl_readJournal {log : ByteArray} (hs : log.size ≤ 4000) {w : World} (hT : Pow w) (hE : Errs w) (hM : MaxL w) :
    Does Tryz.prog 307 [.string log] w (fun v w' => ∃ a n c, v = .tuple #[.slice a n c, .int .i64 (readJ log.data.toList 0).2.1, .int .i64 (readJ log.data.toList 0).2.2] ∧ NewAt w.heap.size a ∧ Own TNote.enc w' a n 377 (readJ log.data.toList 0).1 ∧ Ext w w') := by
  have hsz : log.data.toList.length = log.size := by simp
  refine Does.of_vc tabok Tryz.func307 rfl rfl rfl (by kernel_rfl) ?_; conv => whnf
  refine SemK.buildSlice mk_201 (vs := []) (by rfl) (by rfl) (by simp [Value.cells]) (by decide) ?_
  intro b1 w1 g1 l1 e1 B1
  have G1 := Grow.new0 (enc := TNote.enc) (sz := 4) TNote.enc_len B1 g1
  conv => whnf
  refine LoopK.rule [0, 5, 6, 7] (fun (k : Nat) vs w' => ∃ a3 n3 c3 out ch, vs = [.string log, .slice a3 n3 c3, .int .i64 ch, .int .i64 k] ∧ k ≤ log.size ∧ 0 ≤ ch ∧ ch ≤ 65520 ∧ Grow TNote.enc 4 w.heap.size 377 w' a3 n3 c3 out ∧ out.length ≤ k ∧ readJ log.data.toList 0 = (out ++ (readJ (log.data.toList.drop k) ch).1, (readJ (log.data.toList.drop k) ch).2.1, k + (readJ (log.data.toList.drop k) ch).2.2) ∧ Ext w w') (fun k => log.size - k) tab tabok (by kernel_rfl) 0 ⟨_, _, _, _, _, rfl, by omega, by omega, by omega, G1, by simp, by simp, e1⟩ ?_
  rintro k g _ w' ⟨a3, n3, c3, out, ch, rfl, hk, hc0, hc1, G, hol, hJ, hx⟩
  have hn := G.len
  have hex : (log.extract k log.size).data.toList = log.data.toList.drop k := by
    rw [extract_bs, List.take_of_length_le (by simp)]
    simp [bs]
  by_cases hm : (10 : UInt8) ∈ log.data.toList.drop k
  · obtain ⟨p, r, hpr, hp⟩ := byte_split hm
    have hI : ∀ u, Does Tryz.prog 349 [.string (log.extract k log.size), .int .u8 10] u (fun v u' => v = .int .i64 (p.length : Nat) ∧ u = u') := fun u => by
      refine (lib_IndexByte (log.extract k log.size) 10 u).mono ?_
      rintro _ _ ⟨rfl, rfl⟩
      rw [hex, hpr, indexByte_at _ _ _ hp]
      exact ⟨rfl, rfl⟩
    have hlen : p.length + 1 + k ≤ log.size := by
      have := congrArg List.length hpr
      simp at this
      omega
    have hr := line_of hpr
    have hlx : log.extract k (k + p.length) = bs p := by
      rw [extract_bs, hpr]
      congr 1
      simp
    cases hn : noteRead (bs p) ch with
    | none =>
      have hRN : ∀ u, Pow u → Errs u → MaxL u → Does Tryz.prog 350 [.string (log.extract k (k + p.length)), .int .i64 ch] u (fun v u' => ∃ n c, v = .tuple #[.agg ⟨TNote.enc n⟩, .int .i64 c, .bool false] ∧ Ext u u') := fun u hu1 hu2 hu3 => by
        rw [hlx]
        refine (impl_readNote (line := bs p) (by rw [bs_size]; omega) hc0 hc1 hu1 hu2 hu3).mono ?_
        rintro _ u' ⟨h | h, e⟩
        · obtain ⟨n, c, h, _⟩ := h
          rw [hn] at h; cases h
        · obtain ⟨_, n, c, rfl⟩ := h
          exact ⟨n, c, rfl, e⟩
      rw [hpr, readJ_bad hp hn] at hJ
      simp only [List.append_nil, Nat.add_zero] at hJ
      rw [hJ]
      conv => whnf
      refine SemK.sliceStr (k := .i64) (k' := .i64) (by kernel_rfl) (k) (log.size) (by omega) (by omega) (.inr (by rfl)) (.inl ⟨rfl, rfl⟩) ?_
      conv => whnf
      refine (hI _).mono ?_
      rintro _ _ ⟨rfl, rfl⟩
      conv => whnf
      refine SemK.add _ rfl (by omega) (by omega) ?_
      conv => whnf
      refine SemK.sliceStr (k := .i64) (k' := .i64) (by kernel_rfl) (k) (k + p.length) (by omega) (by omega) (.inr (by rfl)) (.inr (by rfl)) ?_
      conv => whnf
      refine (hRN _ (hT.ext hx) (hE.ext hx) (hM.ext hx)).mono ?_
      rintro _ w8 ⟨n5, c6, rfl, e7⟩
      conv => whnf
      refine SemK.alloc (z := .agg #[.int .i64 0, .int .i64 0, .int .i64 0, .string { data := #[] }]) (by kernel_rfl) ?_
      intro b9 w9 g9 l9 e9 B9
      conv => whnf
      refine SemK.storeAll (by kernel_rfl) B9 (vs := n5.enc) rfl rfl (by simp [TNote.enc, cellish]) ?_
      intro w10 c10 B10
      conv => whnf
      exact ⟨_, _, _, rfl, G.new, (G.ext (Ext.but_trans (Ext.trans e7 e9) c10.but (Nat.le_trans (Below.size e7) g9))).own, (Ext.but_trans (Ext.trans (Ext.trans hx e7) e9) c10.but (Nat.le_trans (Below.size (Ext.trans hx e7)) g9))⟩
    | some x =>
      obtain ⟨n, c⟩ := x
      have hRN : ∀ u, Pow u → Errs u → MaxL u → Does Tryz.prog 350 [.string (log.extract k (k + p.length)), .int .i64 ch] u (fun v u' => v = .tuple #[.agg ⟨TNote.enc n⟩, .int .i64 c, .bool true] ∧ Ext u u') := fun u hu1 hu2 hu3 => by
        rw [hlx]
        refine (impl_readNote (line := bs p) (by rw [bs_size]; omega) hc0 hc1 hu1 hu2 hu3).mono ?_
        rintro _ u' ⟨h | h, e⟩
        · obtain ⟨n2, c2, h, rfl⟩ := h
          rw [hn] at h; cases h
          exact ⟨rfl, e⟩
        · rw [hn] at h; cases h.1
      rw [hpr, readJ_good hp hn] at hJ
      conv => whnf
      refine SemK.sliceStr (k := .i64) (k' := .i64) (by kernel_rfl) (k) (log.size) (by omega) (by omega) (.inr (by rfl)) (.inl ⟨rfl, rfl⟩) ?_
      conv => whnf
      refine (hI _).mono ?_
      rintro _ _ ⟨rfl, rfl⟩
      conv => whnf
      refine SemK.add _ rfl (by omega) (by omega) ?_
      conv => whnf
      refine SemK.sliceStr (k := .i64) (k' := .i64) (by kernel_rfl) (k) (k + p.length) (by omega) (by omega) (.inr (by rfl)) (.inr (by rfl)) ?_
      conv => whnf
      refine (hRN _ (hT.ext hx) (hE.ext hx) (hM.ext hx)).mono ?_
      rintro _ w6 ⟨rfl, e5⟩
      conv => whnf
      refine SemK.alloc (z := .agg #[.int .i64 0, .int .i64 0, .int .i64 0, .string { data := #[] }]) (by kernel_rfl) ?_
      intro b7 w7 g7 l7 e7 B7
      conv => whnf
      refine SemK.storeAll (by kernel_rfl) B7 (vs := n.enc) rfl rfl (by simp [TNote.enc, cellish]) ?_
      intro w8 c8 B8
      conv => whnf
      refine SemK.loadAgg (n := 4) (by kernel_rfl) B8.cells rfl ?_
      conv => whnf
      refine SemK.buildSlice mk_201 (vs := [Value.agg n.enc.toArray]) (by rfl) (by rfl) (by simp [Value.cells, TNote.enc]) (by decide) ?_
      intro b9 w9 g9 l9 e9 B9
      have G9 := Grow.of_blk (n := 1) (enc := TNote.enc) (xs := [n]) TNote.enc_len B9 g9 rfl (by decide)
      conv => whnf
      refine SemK.appendArr0 (enc := TNote.enc) mk_201 TNote.enc_len (G.ext (Ext.trans (Ext.but_trans (Ext.trans e5 e7) c8.but (Nat.le_trans (Below.size e5) g7)) e9)) (G9.own.arr TNote.enc_len) (by intro y _; simp [TNote.enc, cellish]) (by omega) (by omega) (Below.size (Ext.trans (Ext.but_trans (Ext.trans (Ext.trans hx e5) e7) c8.but (Nat.le_trans (Below.size (Ext.trans hx e5)) g7)) e9)) ?_
      intro a10 c10 w10 G10 m10 i10
      conv => whnf
      refine SemK.add (((p.length + 1 : Nat) : Int)) (by omega) (by omega) (by omega) ?_
      conv => whnf
      refine SemK.add _ rfl (by omega) (by omega) ?_
      conv => whnf
      obtain ⟨_, hc2, _⟩ := noteRead_ok hn
      have hcb := chainM_b ch hc0 n
      rw [← hc2] at hcb
      refine ⟨k + (p.length + 1), by omega, a10, _, c10, out ++ [n], c, rfl, by omega, hcb.1, hcb.2, G10, by simp; omega, ?_, Ext.mod_trans (Ext.trans (Ext.but_trans (Ext.trans (Ext.trans hx e5) e7) c8.but (Nat.le_trans (Below.size (Ext.trans hx e5)) g7)) e9) m10 (blkIn_new G.new)⟩
      rw [hr, hJ]
      simp [Nat.add_assoc]
  · have hI : ∀ u, Does Tryz.prog 349 [.string (log.extract k log.size), .int .u8 10] u (fun v u' => v = .int .i64 (-1) ∧ u = u') := fun u => by
      refine (lib_IndexByte (log.extract k log.size) 10 u).mono ?_
      rintro _ _ ⟨rfl, rfl⟩
      rw [hex, indexByte_no _ _ hm]
      exact ⟨rfl, rfl⟩
    rw [readJ_none hm] at hJ
    simp only [List.append_nil, Nat.add_zero] at hJ
    rw [hJ]
    conv => whnf
    refine SemK.sliceStr (k := .i64) (k' := .i64) (by kernel_rfl) (k) (log.size) (by omega) (by omega) (.inr (by rfl)) (.inl ⟨rfl, rfl⟩) ?_
    conv => whnf
    refine (hI _).mono ?_
    rintro _ _ ⟨rfl, rfl⟩
    conv => whnf
    exact ⟨_, _, _, rfl, G.new, G.own, hx⟩
theorem spec_line {w0 w : World} {r : Nat} {log : ByteArray} {at_ : Nat} {ch : Int} {out : List TNote} {a : Option Addr} {n c : Nat} (hs : log.size ≤ 4000) (hat : at_ ≤ log.size) (h0 : 0 ≤ ch) (h1 : ch ≤ 65520)
    (B : Blk w r [.string log, .int .i64 at_, .int .i64 ch, .slice a n c] 342) (G : Grow TNote.enc 4 w0.heap.size 377 w a n c out) (hr : w0.heap.size ≤ r) (hne : ∀ k, blkIn a k → k ≠ r) (hE0 : Ext w0 w) (hol : out.length ≤ at_) :
    Does Tryz.prog 347 [.pointer (some ⟨r, 0, none⟩)] w (fun v w' => Ext w0 w' ∧ ((v = .bool false ∧ readJ (log.data.toList.drop at_) ch = ([], ch, 0) ∧ Ext w w') ∨
      ∃ p rest n2 c2 a' n' c', v = .bool true ∧ log.data.toList.drop at_ = p ++ 10 :: rest ∧ (10 : UInt8) ∉ p ∧ noteRead (bs p) ch = some (n2, c2) ∧ Blk w' r [.string log, .int .i64 (at_ + (p.length + 1) : Nat), .int .i64 c2, .slice a' n' c'] 342 ∧
        Grow TNote.enc 4 w0.heap.size 377 w' a' n' c' (out ++ [n2]) ∧ (∀ k, blkIn a' k → k ≠ r))) := by
  have hsz : log.data.toList.length = log.size := by simp
  have hn := G.len
  have hrl := B.lt
  refine Does.of_vc tabok Tryz.func347 rfl rfl rfl (by kernel_rfl) ?_; conv => whnf
  refine SemK.load1 (by kernel_rfl) B.cells (k := 1) rfl ?_
  conv => whnf
  refine LoopK.rule [0, 3] (fun (k : Nat) vs w' => vs = [.pointer (some ⟨r, 0, none⟩), .int .i64 k] ∧ at_ ≤ k ∧ k ≤ log.size ∧ (10 : UInt8) ∉ (log.data.toList.drop at_).take (k - at_) ∧ w = w') (fun k => log.size - k) tab tabok (by kernel_rfl) at_ ⟨rfl, by omega, by omega, by simp, rfl⟩ ?_
  rintro k g _ w' ⟨rfl, hka, hk, hno, rfl⟩
  conv => whnf
  refine SemK.load1 (by kernel_rfl) B.cells (k := 0) rfl ?_
  conv => whnf
  by_cases hlt : k < log.size
  · obtain ⟨b, hb⟩ : ∃ b, log.data.toList[k]? = some b := get_of_lt (by omega)
    have hb2 : (log.data.toList.drop at_)[k - at_]? = some b := by rw [List.getElem?_drop, ← hb]; congr 1; omega
    by_cases hb10 : b = 10
    · subst hb10
      obtain ⟨p, hp⟩ : ∃ p, p = (log.data.toList.drop at_).take (k - at_) := ⟨_, rfl⟩
      rw [← hp] at hno
      have hpl : p.length = k - at_ := by rw [hp]; simp; omega
      have hpr : log.data.toList.drop at_ = p ++ 10 :: log.data.toList.drop (k + 1) := by
        have := (take_cons_drop hb2).symm
        rw [this, hp, List.drop_drop]
        congr 3
        omega
      have hlx : log.extract at_ k = bs p := by
        rw [extract_bs, ← hp]
      have hlx2 : log.extract at_ (k + 1) = bs p ++ nlB := by
        rw [extract_bs, hpr]
        have e : k + 1 - at_ = (p ++ [10]).length := by simp; omega
        have e2 : p ++ 10 :: log.data.toList.drop (k + 1) = (p ++ [10]) ++ log.data.toList.drop (k + 1) := by simp
        rw [e, e2, List.take_left, bs_cat]
        rfl
      clear hp
      have hrr := readJ_bad (p := p) (r := log.data.toList.drop (k + 1)) hno (ch := ch)
      rw [← hpr] at hrr
      by_cases h5 : (splitS 32 (bs p)).length = 5
      · obtain ⟨wa, w1, w2, w3, w4, hl⟩ := list5 h5
        have hnr := noteRead_five hl ch
        have zz : (bs p).size = k - at_ := by rw [bs_size, hpl]
        have z1 : w1.size ≤ (bs p).size := splitS_le (c := 32) (by rw [hl]; simp)
        have z2 : w2.size ≤ (bs p).size := splitS_le (c := 32) (by rw [hl]; simp)
        have z3 : w3.size ≤ (bs p).size := splitS_le (c := 32) (by rw [hl]; simp)
        have z4 : w4.size ≤ (bs p).size := splitS_le (c := 32) (by rw [hl]; simp)
        have hx : TNote.ok ⟨numI w1, numI w2, numI w3, w4⟩ := ⟨numI_ok w1, numI_ok w2, numI_ok w3, by simp only [strok]; omega⟩
        have q1 : [wa, w1, w2, w3, w4][1]? = some w1 := rfl
        have q2 : [wa, w1, w2, w3, w4][2]? = some w2 := rfl
        have q3 : [wa, w1, w2, w3, w4][3]? = some w3 := rfl
        have q4 : [wa, w1, w2, w3, w4][4]? = some w4 := rfl
        obtain ⟨x, hxe⟩ : ∃ x : TNote, x = ⟨numI w1, numI w2, numI w3, w4⟩ := ⟨_, rfl⟩
        rw [← hxe] at hnr hx
        have hcb := chainM_b ch h0 x
        have hlz := line_size hcb.1 hcb.2 hx
        have hwz := words_size hx
        have hxc : x.enc = [.int .i64 (numI w1), .int .i64 (numI w2), .int .i64 (numI w3), .string w4] := by rw [hxe]; rfl
        have hwd : noteB x = true → x.what.size ≤ 12 := noteB_what
        have hOk : ∀ u b, Cells u b 0 [.int .i64 (numI w1), .int .i64 (numI w2), .int .i64 (numI w3), .string w4] → Does Tryz.prog 383 [.pointer (some ⟨b, 0, none⟩)] u (fun v u' => v = .bool (noteB x) ∧ u = u') := fun u b hc => spec_l27Ok hx (hxc ▸ hc)
        have hWd : ∀ u b, Cells u b 0 [.int .i64 (numI w1), .int .i64 (numI w2), .int .i64 (numI w3), .string w4] → x.what.size ≤ 1000 → Does Tryz.prog 385 [.pointer (some ⟨b, 0, none⟩)] u (fun v u' => v = .string (wordsB x) ∧ Ext u u') := fun u b hc hw => spec_l27Words hx hw (hxc ▸ hc)
        have hCh : ∀ u, x.what.size ≤ 1000 → Does Tryz.prog 384 [.int .i64 ch, .string (wordsB x)] u (fun v u' => v = .int .i64 (chainM ch x) ∧ u = u') := fun u hw => spec_l27Chain h0 h1 (by omega) u
        have hLn : ∀ u b, Cells u b 0 [.int .i64 (numI w1), .int .i64 (numI w2), .int .i64 (numI w3), .string w4] → x.what.size ≤ 1000 → Does Tryz.prog 386 [.int .i64 (chainM ch x), .pointer (some ⟨b, 0, none⟩)] u (fun v u' => v = .string (lineB (chainM ch x) x) ∧ Ext u u') := fun u b hc hw => spec_l27Line hcb.1 hcb.2 hx hw (hxc ▸ hc)
        have hSp : ∀ u, Does Tryz.prog 178 [.string (log.extract at_ k), .int .u8 32] u (fun v u' => ∃ a n c, v = .slice a 5 c ∧ n = 5 ∧ NewAt u.heap.size a ∧ Own eS u' a 5 9 [wa, w1, w2, w3, w4] ∧ Ext u u') := fun u => by
          rw [hlx]
          refine (spec_l01Split (by omega) 32 u).mono ?_
          rintro _ u' ⟨a, n, c, rfl, h1, h2, h3⟩
          rw [hl] at h2
          have : n = 5 := h2.1.symm
          subst this
          exact ⟨a, 5, c, rfl, rfl, h1, h2, h3⟩
        cases hz1 : numB w1
        · refine IfB.yes (by omega) ?_
          conv => whnf
          refine SemK.load1 (by kernel_rfl) B.cells (k := 0) rfl ?_
          conv => whnf
          refine SemK.char (by kernel_rfl) k rfl hb ?_
          conv => whnf
          refine SemK.load1 (by kernel_rfl) B.cells (k := 0) rfl ?_
          conv => whnf
          refine IfB.no (by omega) ?_
          conv => whnf
          refine DrawK.held tabok mixed [(0, false), (1, false), (2, false), (3, false), (4, false), (5, false), (6, false), (7, false), (8, true), (9, true), (10, true), (11, true)] (by kernel_rfl) (by kernel_rfl) ?_
          conv => whnf
          intro w7 e7
          conv => whnf
          refine DSemK.load1 (by kernel_rfl) B.cells (k := 0) rfl ?_
          conv => whnf
          refine DSemK.load1 (by kernel_rfl) B.cells (k := 1) rfl ?_
          conv => whnf
          refine SemK.sliceStr (k := .i64) (k' := .i64) (by kernel_rfl) (at_) (k) (by omega) (by omega) (.inr (by rfl)) (.inr (by rfl)) ?_
          conv => whnf
          refine ⟨e7, ?_⟩
          conv => whnf
          refine (hSp _).mono ?_
          rintro _ w14 ⟨a8, n9, c10, rfl, rfl, N11, O12, e13⟩
          conv => whnf
          refine ⟨(Ext.trans e7 e13), ?_⟩
          conv => whnf
          obtain ⟨b16, rfl⟩ := (O12).some (by omega)
          have lb16 : b16 < w14.heap.size := O12.lt _ rfl
          refine SemK.indexOwn (sz := 1) (by kernel_rfl) 1 rfl (by omega) ?_
          have hb16 := Own.elem eS_len O12 q1
          conv => whnf
          refine SemK.load0 (by kernel_rfl) hb16 rfl ?_
          conv => whnf
          refine (spec_l01Number (by omega) _).mono ?_
          rintro _ w18 ⟨rfl, e17⟩
          conv => whnf
          refine SemK.indexOwn (sz := 1) (by kernel_rfl) 2 rfl (by omega) ?_
          have hb20 := Own.elem eS_len (O12.ext e17) q2
          conv => whnf
          refine SemK.load0 (by kernel_rfl) hb20 rfl ?_
          conv => whnf
          refine (spec_l01Number (by omega) _).mono ?_
          rintro _ w22 ⟨rfl, e21⟩
          conv => whnf
          refine SemK.indexOwn (sz := 1) (by kernel_rfl) 3 rfl (by omega) ?_
          have hb24 := Own.elem eS_len (O12.ext (Ext.trans e17 e21)) q3
          conv => whnf
          refine SemK.load0 (by kernel_rfl) hb24 rfl ?_
          conv => whnf
          refine (spec_l01Number (by omega) _).mono ?_
          rintro _ w26 ⟨rfl, e25⟩
          conv => whnf
          refine SemK.indexOwn (sz := 1) (by kernel_rfl) 4 rfl (by omega) ?_
          have hb28 := Own.elem eS_len (O12.ext (Ext.trans (Ext.trans e17 e21) e25)) q4
          conv => whnf
          refine SemK.load0 (by kernel_rfl) hb28 rfl ?_
          conv => whnf
          refine SemK.build st_377 rfl ?_
          conv => whnf
          refine SemK.alloc (z := .agg #[.int .i64 0, .int .i64 0, .int .i64 0, .string { data := #[] }]) (by kernel_rfl) ?_
          intro b29 w29 g29 l29 e29 B29
          conv => whnf
          refine SemK.storeAll (vs := [Value.int IntKind.i64 (numI w1), Value.int IntKind.i64 (numI w2), Value.int IntKind.i64 (numI w3), Value.string w4]) (by kernel_rfl) B29 rfl rfl (by simp [cellish]) ?_
          intro w30 c30 B30
          conv => whnf
          refine IfB.eqt (by simp [*]; done) ?_
          conv => whnf
          refine ⟨(Ext.but_trans (Ext.trans (Ext.trans (Ext.trans (Ext.trans (Ext.trans (Ext.trans hE0 e7) e13) e17) e21) e25) e29) c30.but (Nat.le_trans (Below.size (Ext.trans (Ext.trans (Ext.trans (Ext.trans (Ext.trans hE0 e7) e13) e17) e21) e25)) g29)), ?_⟩
          conv => whnf
          refine ?_
          · exact .inl ⟨rfl, hrr (by rw [hnr, if_neg (by simp [hz1])]), (Ext.but_trans (Ext.trans (Ext.trans (Ext.trans (Ext.trans (Ext.trans e7 e13) e17) e21) e25) e29) c30.but (Nat.le_trans (Below.size (Ext.trans (Ext.trans (Ext.trans (Ext.trans e7 e13) e17) e21) e25)) g29))⟩
        cases hz2 : numB w2
        · refine IfB.yes (by omega) ?_
          conv => whnf
          refine SemK.load1 (by kernel_rfl) B.cells (k := 0) rfl ?_
          conv => whnf
          refine SemK.char (by kernel_rfl) k rfl hb ?_
          conv => whnf
          refine SemK.load1 (by kernel_rfl) B.cells (k := 0) rfl ?_
          conv => whnf
          refine IfB.no (by omega) ?_
          conv => whnf
          refine DrawK.held tabok mixed [(0, false), (1, false), (2, false), (3, false), (4, false), (5, false), (6, false), (7, false), (8, true), (9, true), (10, true), (11, true)] (by kernel_rfl) (by kernel_rfl) ?_
          conv => whnf
          intro w7 e7
          conv => whnf
          refine DSemK.load1 (by kernel_rfl) B.cells (k := 0) rfl ?_
          conv => whnf
          refine DSemK.load1 (by kernel_rfl) B.cells (k := 1) rfl ?_
          conv => whnf
          refine SemK.sliceStr (k := .i64) (k' := .i64) (by kernel_rfl) (at_) (k) (by omega) (by omega) (.inr (by rfl)) (.inr (by rfl)) ?_
          conv => whnf
          refine ⟨e7, ?_⟩
          conv => whnf
          refine (hSp _).mono ?_
          rintro _ w14 ⟨a8, n9, c10, rfl, rfl, N11, O12, e13⟩
          conv => whnf
          refine ⟨(Ext.trans e7 e13), ?_⟩
          conv => whnf
          obtain ⟨b16, rfl⟩ := (O12).some (by omega)
          have lb16 : b16 < w14.heap.size := O12.lt _ rfl
          refine SemK.indexOwn (sz := 1) (by kernel_rfl) 1 rfl (by omega) ?_
          have hb16 := Own.elem eS_len O12 q1
          conv => whnf
          refine SemK.load0 (by kernel_rfl) hb16 rfl ?_
          conv => whnf
          refine (spec_l01Number (by omega) _).mono ?_
          rintro _ w18 ⟨rfl, e17⟩
          conv => whnf
          refine SemK.indexOwn (sz := 1) (by kernel_rfl) 2 rfl (by omega) ?_
          have hb20 := Own.elem eS_len (O12.ext e17) q2
          conv => whnf
          refine SemK.load0 (by kernel_rfl) hb20 rfl ?_
          conv => whnf
          refine (spec_l01Number (by omega) _).mono ?_
          rintro _ w22 ⟨rfl, e21⟩
          conv => whnf
          refine SemK.indexOwn (sz := 1) (by kernel_rfl) 3 rfl (by omega) ?_
          have hb24 := Own.elem eS_len (O12.ext (Ext.trans e17 e21)) q3
          conv => whnf
          refine SemK.load0 (by kernel_rfl) hb24 rfl ?_
          conv => whnf
          refine (spec_l01Number (by omega) _).mono ?_
          rintro _ w26 ⟨rfl, e25⟩
          conv => whnf
          refine SemK.indexOwn (sz := 1) (by kernel_rfl) 4 rfl (by omega) ?_
          have hb28 := Own.elem eS_len (O12.ext (Ext.trans (Ext.trans e17 e21) e25)) q4
          conv => whnf
          refine SemK.load0 (by kernel_rfl) hb28 rfl ?_
          conv => whnf
          refine SemK.build st_377 rfl ?_
          conv => whnf
          refine SemK.alloc (z := .agg #[.int .i64 0, .int .i64 0, .int .i64 0, .string { data := #[] }]) (by kernel_rfl) ?_
          intro b29 w29 g29 l29 e29 B29
          conv => whnf
          refine SemK.storeAll (vs := [Value.int IntKind.i64 (numI w1), Value.int IntKind.i64 (numI w2), Value.int IntKind.i64 (numI w3), Value.string w4]) (by kernel_rfl) B29 rfl rfl (by simp [cellish]) ?_
          intro w30 c30 B30
          conv => whnf
          refine IfB.eqf (by simp [*]; done) ?_
          conv => whnf
          refine IfB.eqt (by simp [*]; done) ?_
          conv => whnf
          refine ⟨(Ext.but_trans (Ext.trans (Ext.trans (Ext.trans (Ext.trans (Ext.trans (Ext.trans hE0 e7) e13) e17) e21) e25) e29) c30.but (Nat.le_trans (Below.size (Ext.trans (Ext.trans (Ext.trans (Ext.trans (Ext.trans hE0 e7) e13) e17) e21) e25)) g29)), ?_⟩
          conv => whnf
          refine ?_
          · exact .inl ⟨rfl, hrr (by rw [hnr, if_neg (by simp [hz1, hz2])]), (Ext.but_trans (Ext.trans (Ext.trans (Ext.trans (Ext.trans (Ext.trans e7 e13) e17) e21) e25) e29) c30.but (Nat.le_trans (Below.size (Ext.trans (Ext.trans (Ext.trans (Ext.trans e7 e13) e17) e21) e25)) g29))⟩
        cases hz3 : numB w3
        · refine IfB.yes (by omega) ?_
          conv => whnf
          refine SemK.load1 (by kernel_rfl) B.cells (k := 0) rfl ?_
          conv => whnf
          refine SemK.char (by kernel_rfl) k rfl hb ?_
          conv => whnf
          refine SemK.load1 (by kernel_rfl) B.cells (k := 0) rfl ?_
          conv => whnf
          refine IfB.no (by omega) ?_
          conv => whnf
          refine DrawK.held tabok mixed [(0, false), (1, false), (2, false), (3, false), (4, false), (5, false), (6, false), (7, false), (8, true), (9, true), (10, true), (11, true)] (by kernel_rfl) (by kernel_rfl) ?_
          conv => whnf
          intro w7 e7
          conv => whnf
          refine DSemK.load1 (by kernel_rfl) B.cells (k := 0) rfl ?_
          conv => whnf
          refine DSemK.load1 (by kernel_rfl) B.cells (k := 1) rfl ?_
          conv => whnf
          refine SemK.sliceStr (k := .i64) (k' := .i64) (by kernel_rfl) (at_) (k) (by omega) (by omega) (.inr (by rfl)) (.inr (by rfl)) ?_
          conv => whnf
          refine ⟨e7, ?_⟩
          conv => whnf
          refine (hSp _).mono ?_
          rintro _ w14 ⟨a8, n9, c10, rfl, rfl, N11, O12, e13⟩
          conv => whnf
          refine ⟨(Ext.trans e7 e13), ?_⟩
          conv => whnf
          obtain ⟨b16, rfl⟩ := (O12).some (by omega)
          have lb16 : b16 < w14.heap.size := O12.lt _ rfl
          refine SemK.indexOwn (sz := 1) (by kernel_rfl) 1 rfl (by omega) ?_
          have hb16 := Own.elem eS_len O12 q1
          conv => whnf
          refine SemK.load0 (by kernel_rfl) hb16 rfl ?_
          conv => whnf
          refine (spec_l01Number (by omega) _).mono ?_
          rintro _ w18 ⟨rfl, e17⟩
          conv => whnf
          refine SemK.indexOwn (sz := 1) (by kernel_rfl) 2 rfl (by omega) ?_
          have hb20 := Own.elem eS_len (O12.ext e17) q2
          conv => whnf
          refine SemK.load0 (by kernel_rfl) hb20 rfl ?_
          conv => whnf
          refine (spec_l01Number (by omega) _).mono ?_
          rintro _ w22 ⟨rfl, e21⟩
          conv => whnf
          refine SemK.indexOwn (sz := 1) (by kernel_rfl) 3 rfl (by omega) ?_
          have hb24 := Own.elem eS_len (O12.ext (Ext.trans e17 e21)) q3
          conv => whnf
          refine SemK.load0 (by kernel_rfl) hb24 rfl ?_
          conv => whnf
          refine (spec_l01Number (by omega) _).mono ?_
          rintro _ w26 ⟨rfl, e25⟩
          conv => whnf
          refine SemK.indexOwn (sz := 1) (by kernel_rfl) 4 rfl (by omega) ?_
          have hb28 := Own.elem eS_len (O12.ext (Ext.trans (Ext.trans e17 e21) e25)) q4
          conv => whnf
          refine SemK.load0 (by kernel_rfl) hb28 rfl ?_
          conv => whnf
          refine SemK.build st_377 rfl ?_
          conv => whnf
          refine SemK.alloc (z := .agg #[.int .i64 0, .int .i64 0, .int .i64 0, .string { data := #[] }]) (by kernel_rfl) ?_
          intro b29 w29 g29 l29 e29 B29
          conv => whnf
          refine SemK.storeAll (vs := [Value.int IntKind.i64 (numI w1), Value.int IntKind.i64 (numI w2), Value.int IntKind.i64 (numI w3), Value.string w4]) (by kernel_rfl) B29 rfl rfl (by simp [cellish]) ?_
          intro w30 c30 B30
          conv => whnf
          refine IfB.eqf (by simp [*]; done) ?_
          conv => whnf
          refine IfB.eqf (by simp [*]; done) ?_
          conv => whnf
          refine IfB.eqt (by simp [*]; done) ?_
          conv => whnf
          refine ⟨(Ext.but_trans (Ext.trans (Ext.trans (Ext.trans (Ext.trans (Ext.trans (Ext.trans hE0 e7) e13) e17) e21) e25) e29) c30.but (Nat.le_trans (Below.size (Ext.trans (Ext.trans (Ext.trans (Ext.trans (Ext.trans hE0 e7) e13) e17) e21) e25)) g29)), ?_⟩
          conv => whnf
          refine ?_
          · exact .inl ⟨rfl, hrr (by rw [hnr, if_neg (by simp [hz1, hz2, hz3])]), (Ext.but_trans (Ext.trans (Ext.trans (Ext.trans (Ext.trans (Ext.trans e7 e13) e17) e21) e25) e29) c30.but (Nat.le_trans (Below.size (Ext.trans (Ext.trans (Ext.trans (Ext.trans e7 e13) e17) e21) e25)) g29))⟩
        refine IfB.yes (by omega) ?_
        conv => whnf
        refine SemK.load1 (by kernel_rfl) B.cells (k := 0) rfl ?_
        conv => whnf
        refine SemK.char (by kernel_rfl) k rfl hb ?_
        conv => whnf
        refine SemK.load1 (by kernel_rfl) B.cells (k := 0) rfl ?_
        conv => whnf
        refine IfB.no (by omega) ?_
        conv => whnf
        refine DrawK.held tabok mixed [(0, false), (1, false), (2, false), (3, false), (4, false), (5, false), (6, false), (7, false), (8, true), (9, true), (10, true), (11, true)] (by kernel_rfl) (by kernel_rfl) ?_
        conv => whnf
        intro w7 e7
        conv => whnf
        refine DSemK.load1 (by kernel_rfl) B.cells (k := 0) rfl ?_
        conv => whnf
        refine DSemK.load1 (by kernel_rfl) B.cells (k := 1) rfl ?_
        conv => whnf
        refine SemK.sliceStr (k := .i64) (k' := .i64) (by kernel_rfl) (at_) (k) (by omega) (by omega) (.inr (by rfl)) (.inr (by rfl)) ?_
        conv => whnf
        refine ⟨e7, ?_⟩
        conv => whnf
        refine (hSp _).mono ?_
        rintro _ w14 ⟨a8, n9, c10, rfl, rfl, N11, O12, e13⟩
        conv => whnf
        refine ⟨(Ext.trans e7 e13), ?_⟩
        conv => whnf
        obtain ⟨b16, rfl⟩ := (O12).some (by omega)
        have lb16 : b16 < w14.heap.size := O12.lt _ rfl
        refine SemK.indexOwn (sz := 1) (by kernel_rfl) 1 rfl (by omega) ?_
        have hb16 := Own.elem eS_len O12 q1
        conv => whnf
        refine SemK.load0 (by kernel_rfl) hb16 rfl ?_
        conv => whnf
        refine (spec_l01Number (by omega) _).mono ?_
        rintro _ w18 ⟨rfl, e17⟩
        conv => whnf
        refine SemK.indexOwn (sz := 1) (by kernel_rfl) 2 rfl (by omega) ?_
        have hb20 := Own.elem eS_len (O12.ext e17) q2
        conv => whnf
        refine SemK.load0 (by kernel_rfl) hb20 rfl ?_
        conv => whnf
        refine (spec_l01Number (by omega) _).mono ?_
        rintro _ w22 ⟨rfl, e21⟩
        conv => whnf
        refine SemK.indexOwn (sz := 1) (by kernel_rfl) 3 rfl (by omega) ?_
        have hb24 := Own.elem eS_len (O12.ext (Ext.trans e17 e21)) q3
        conv => whnf
        refine SemK.load0 (by kernel_rfl) hb24 rfl ?_
        conv => whnf
        refine (spec_l01Number (by omega) _).mono ?_
        rintro _ w26 ⟨rfl, e25⟩
        conv => whnf
        refine SemK.indexOwn (sz := 1) (by kernel_rfl) 4 rfl (by omega) ?_
        have hb28 := Own.elem eS_len (O12.ext (Ext.trans (Ext.trans e17 e21) e25)) q4
        conv => whnf
        refine SemK.load0 (by kernel_rfl) hb28 rfl ?_
        conv => whnf
        refine SemK.build st_377 rfl ?_
        conv => whnf
        refine SemK.alloc (z := .agg #[.int .i64 0, .int .i64 0, .int .i64 0, .string { data := #[] }]) (by kernel_rfl) ?_
        intro b29 w29 g29 l29 e29 B29
        conv => whnf
        refine SemK.storeAll (vs := [Value.int IntKind.i64 (numI w1), Value.int IntKind.i64 (numI w2), Value.int IntKind.i64 (numI w3), Value.string w4]) (by kernel_rfl) B29 rfl rfl (by simp [cellish]) ?_
        intro w30 c30 B30
        conv => whnf
        refine IfB.eqf (by simp [*]; done) ?_
        conv => whnf
        refine IfB.eqf (by simp [*]; done) ?_
        conv => whnf
        refine IfB.eqf (by simp [*]; done) ?_
        conv => whnf
        refine (hOk _ _ B30.cells).mono ?_
        rintro _ _ ⟨rfl, rfl⟩
        conv => whnf
        with_reducible refine IfB.nsplit (fun h32 => ?_) (fun h32 => ?_)
        · conv => whnf
          refine ⟨(Ext.but_trans (Ext.trans (Ext.trans (Ext.trans (Ext.trans (Ext.trans (Ext.trans hE0 e7) e13) e17) e21) e25) e29) c30.but (Nat.le_trans (Below.size (Ext.trans (Ext.trans (Ext.trans (Ext.trans (Ext.trans hE0 e7) e13) e17) e21) e25)) g29)), ?_⟩
          conv => whnf
          refine ?_
          · exact .inl ⟨rfl, hrr (by rw [hnr, if_neg (by rw [h32]; simp)]), (Ext.but_trans (Ext.trans (Ext.trans (Ext.trans (Ext.trans (Ext.trans e7 e13) e17) e21) e25) e29) c30.but (Nat.le_trans (Below.size (Ext.trans (Ext.trans (Ext.trans (Ext.trans e7 e13) e17) e21) e25)) g29))⟩
        · conv => whnf
          have hw12 := hwd h32
          refine DrawK.held tabok mixed [(0, false), (1, false), (2, false), (3, false), (4, true), (5, true), (6, true)] (by kernel_rfl) (by kernel_rfl) ?_
          conv => whnf
          intro w33 e33
          conv => whnf
          refine DSemK.load1 (by kernel_rfl) (B.ext (Ext.but_trans (Ext.trans (Ext.trans (Ext.trans (Ext.trans (Ext.trans e7 e13) e17) e21) e25) e29) c30.but (Nat.le_trans (Below.size (Ext.trans (Ext.trans (Ext.trans (Ext.trans e7 e13) e17) e21) e25)) g29))).cells (k := 2) rfl ?_
          conv => whnf
          refine (hWd _ _ (B30.ext e33).cells (by omega)).mono ?_
          rintro _ w35 ⟨rfl, e34⟩
          conv => whnf
          refine ⟨(Ext.trans e33 e34), ?_⟩
          conv => whnf
          refine (hCh _ (by omega)).mono ?_
          rintro _ _ ⟨rfl, rfl⟩
          conv => whnf
          refine ⟨(Ext.trans e33 e34), ?_⟩
          conv => whnf
          refine DrawK.held tabok mixed [(0, false), (2, false), (3, false), (4, false), (5, false), (6, false), (7, false), (8, false), (9, false), (10, false), (11, false), (12, false), (1, true), (13, true)] (by kernel_rfl) (by kernel_rfl) ?_
          conv => whnf
          intro w37 e37
          conv => whnf
          refine DSemK.load1 (by kernel_rfl) (B.ext (Ext.trans (Ext.trans (Ext.but_trans (Ext.trans (Ext.trans (Ext.trans (Ext.trans (Ext.trans e7 e13) e17) e21) e25) e29) c30.but (Nat.le_trans (Below.size (Ext.trans (Ext.trans (Ext.trans (Ext.trans e7 e13) e17) e21) e25)) g29)) e33) e34)).cells (k := 0) rfl ?_
          conv => whnf
          refine DSemK.load1 (by kernel_rfl) (B.ext (Ext.trans (Ext.trans (Ext.but_trans (Ext.trans (Ext.trans (Ext.trans (Ext.trans (Ext.trans e7 e13) e17) e21) e25) e29) c30.but (Nat.le_trans (Below.size (Ext.trans (Ext.trans (Ext.trans (Ext.trans e7 e13) e17) e21) e25)) g29)) e33) e34)).cells (k := 1) rfl ?_
          conv => whnf
          refine DSemK.add (((k + 1 : Nat) : Int)) (by omega) (by omega) (by omega) ?_
          conv => whnf
          refine DSemK.sliceStr (k := .i64) (k' := .i64) (by kernel_rfl) (at_) (k + 1) (by omega) (by omega) (.inr (by rfl)) (.inr (by rfl)) ?_
          conv => whnf
          refine (hLn _ _ (B30.ext (Ext.trans (Ext.trans e33 e34) e37)).cells (by omega)).mono ?_
          rintro _ w39 ⟨rfl, e38⟩
          conv => whnf
          refine ⟨(Ext.trans e37 e38), ?_⟩
          conv => whnf
          with_reducible refine IfB.ndec (fun h40 => ?_) (fun h40 => ?_)
          · conv => whnf
            refine ⟨(Ext.trans (Ext.trans (Ext.trans (Ext.trans (Ext.but_trans (Ext.trans (Ext.trans (Ext.trans (Ext.trans (Ext.trans (Ext.trans hE0 e7) e13) e17) e21) e25) e29) c30.but (Nat.le_trans (Below.size (Ext.trans (Ext.trans (Ext.trans (Ext.trans (Ext.trans hE0 e7) e13) e17) e21) e25)) g29)) e33) e34) e37) e38), ?_⟩
            conv => whnf
            refine ?_
            · exact .inl ⟨rfl, hrr (by rw [hnr, if_neg (fun h => h40 (by rw [hlx2]; exact h.2))]), (Ext.trans (Ext.trans (Ext.trans (Ext.trans (Ext.but_trans (Ext.trans (Ext.trans (Ext.trans (Ext.trans (Ext.trans e7 e13) e17) e21) e25) e29) c30.but (Nat.le_trans (Below.size (Ext.trans (Ext.trans (Ext.trans (Ext.trans e7 e13) e17) e21) e25)) g29)) e33) e34) e37) e38)⟩
          · conv => whnf
            refine DrawK.writes tabok mixed [(0, .any), (1, .any), (2, .any), (3, .any), (4, .held), (5, .held), (6, .run), (7, .write), (8, .any), (9, .any), (10, .write)] (by kernel_rfl) (by kernel_rfl) ?_
            conv => whnf
            intro w41 e41
            conv => whnf
            refine DSemK.load1 (by kernel_rfl) (B.ext (Ext.trans (Ext.trans (Ext.trans (Ext.trans (Ext.but_trans (Ext.trans (Ext.trans (Ext.trans (Ext.trans (Ext.trans e7 e13) e17) e21) e25) e29) c30.but (Nat.le_trans (Below.size (Ext.trans (Ext.trans (Ext.trans (Ext.trans e7 e13) e17) e21) e25)) g29)) e33) e34) e37) e38)).cells (k := 3) rfl ?_
            conv => whnf
            refine DSemK.loadAgg (n := 4) (by kernel_rfl) (B30.ext (Ext.trans (Ext.trans (Ext.trans e33 e34) e37) e38)).cells rfl ?_
            conv => whnf
            refine SemK.buildSlice mk_201 (vs := [Value.agg #[Value.int IntKind.i64 (numI w1), Value.int IntKind.i64 (numI w2), Value.int IntKind.i64 (numI w3), Value.string w4]]) (by rfl) (by rfl) (by simp [Value.cells]) (by decide) ?_
            intro b42 w42 g42 l42 e42 B42
            have G42 := Grow.of_blk (n := 1) (enc := TNote.enc) (xs := [x]) TNote.enc_len (by simpa [flat, cellsOf, Value.cells, hxc] using B42) g42 rfl (by decide)
            conv => whnf
            refine ⟨(Ext.trans e41 e42), ?_⟩
            conv => whnf
            refine SemK.appendArr0 (enc := TNote.enc) mk_201 TNote.enc_len (G.ext (Ext.trans (Ext.trans (Ext.trans (Ext.trans (Ext.trans (Ext.trans (Ext.but_trans (Ext.trans (Ext.trans (Ext.trans (Ext.trans (Ext.trans e7 e13) e17) e21) e25) e29) c30.but (Nat.le_trans (Below.size (Ext.trans (Ext.trans (Ext.trans (Ext.trans e7 e13) e17) e21) e25)) g29)) e33) e34) e37) e38) e41) e42)) (G42.own.arr TNote.enc_len) (by intro y _; simp [TNote.enc, cellish]) (by omega) (by omega) (Below.size (Ext.trans (Ext.trans (Ext.trans (Ext.trans (Ext.trans (Ext.trans (Ext.but_trans (Ext.trans (Ext.trans (Ext.trans (Ext.trans (Ext.trans (Ext.trans hE0 e7) e13) e17) e21) e25) e29) c30.but (Nat.le_trans (Below.size (Ext.trans (Ext.trans (Ext.trans (Ext.trans (Ext.trans hE0 e7) e13) e17) e21) e25)) g29)) e33) e34) e37) e38) e41) e42)) ?_
            intro a43 c43 w43 G43 m43 i43
            conv => whnf
            have Br := (B.ext (Ext.trans (Ext.trans (Ext.trans (Ext.trans (Ext.trans (Ext.trans (Ext.but_trans (Ext.trans (Ext.trans (Ext.trans (Ext.trans (Ext.trans e7 e13) e17) e21) e25) e29) c30.but (Nat.le_trans (Below.size (Ext.trans (Ext.trans (Ext.trans (Ext.trans e7 e13) e17) e21) e25)) g29)) e33) e34) e37) e38) e41) e42)).mod m43 (fun h => hne _ h rfl)
            refine SemK.store1 (k := 3) (by kernel_rfl) Br (by simp) (v := .slice a43 (n + 1) c43) rfl ?_
            intro w44 c44 B44
            conv => whnf
            have hr44 : ∀ k, blkIn a43 k → k ≠ r := fun k hk => by
              rcases i43 k hk with h | h
              · exact hne k h
              · have := Below.size (Ext.trans (Ext.trans (Ext.trans (Ext.trans (Ext.trans (Ext.trans (Ext.but_trans (Ext.trans (Ext.trans (Ext.trans (Ext.trans (Ext.trans e7 e13) e17) e21) e25) e29) c30.but (Nat.le_trans (Below.size (Ext.trans (Ext.trans (Ext.trans (Ext.trans e7 e13) e17) e21) e25)) g29)) e33) e34) e37) e38) e41) e42)
                omega
            have G44 := G43.mod c44.but (fun y hy h => hr44 y.block ⟨y, hy, rfl⟩ h)
            refine SemK.store1 (by kernel_rfl) B44 (k := 2) (Nat.le_of_ble_eq_true rfl) rfl ?_
            intro w45 c45 B45
            conv => whnf
            refine SemK.add (((k + 1 : Nat) : Int)) (by omega) (by omega) (by omega) ?_
            conv => whnf
            refine SemK.store1 (by kernel_rfl) B45 (k := 1) (Nat.le_of_ble_eq_true rfl) rfl ?_
            intro w46 c46 B46
            conv => whnf
            refine ⟨(Ext.but_trans (Ext.but_trans (Ext.but_trans (Ext.mod_trans (Ext.trans (Ext.trans (Ext.trans (Ext.trans (Ext.trans (Ext.trans (Ext.but_trans (Ext.trans (Ext.trans (Ext.trans (Ext.trans (Ext.trans (Ext.trans hE0 e7) e13) e17) e21) e25) e29) c30.but (Nat.le_trans (Below.size (Ext.trans (Ext.trans (Ext.trans (Ext.trans (Ext.trans hE0 e7) e13) e17) e21) e25)) g29)) e33) e34) e37) e38) e41) e42) m43 (blkIn_new G.new)) c44.but hr) c45.but hr) c46.but hr), ?_⟩
            conv => whnf
            refine ?_
            · have e46 : at_ + (p.length + 1) = k + 1 := by omega
              refine .inr ⟨p, log.data.toList.drop (k + 1), x, chainM ch x, a43, n + 1, c43, rfl, hpr, hno, by rw [hnr, if_pos ⟨by rw [hz1, hz2, hz3, h32]; rfl, h40.trans hlx2⟩], by rw [e46]; exact B46, ?_, hr44⟩
              exact (G44.mod c45.but (fun y hy h => hr44 y.block ⟨y, hy, rfl⟩ h)).mod c46.but (fun y hy h => hr44 y.block ⟨y, hy, rfl⟩ h)
      · have hnr := noteRead_not h5 ch
        have hSp : ∀ u, Does Tryz.prog 178 [.string (log.extract at_ k), .int .u8 32] u (fun v u' => ∃ a n c, v = .slice a n c ∧ n ≠ 5 ∧ NewAt u.heap.size a ∧ Own eS u' a n 9 (splitS 32 (bs p)) ∧ Ext u u') := fun u => by
          rw [hlx]
          refine (spec_l01Split (by rw [bs_size]; omega) 32 u).mono ?_
          rintro _ u' ⟨a, n, c, rfl, h1, h2, h3⟩
          exact ⟨a, n, c, rfl, by rw [← h2.1]; exact h5, h1, h2, h3⟩
        refine IfB.yes (by omega) ?_
        conv => whnf
        refine SemK.load1 (by kernel_rfl) B.cells (k := 0) rfl ?_
        conv => whnf
        refine SemK.char (by kernel_rfl) k rfl hb ?_
        conv => whnf
        refine SemK.load1 (by kernel_rfl) B.cells (k := 0) rfl ?_
        conv => whnf
        refine IfB.no (by omega) ?_
        conv => whnf
        refine DrawK.held tabok mixed [(0, false), (1, false), (2, false), (3, false), (4, false), (5, false), (6, false), (7, false), (8, true), (9, true), (10, true), (11, true)] (by kernel_rfl) (by kernel_rfl) ?_
        conv => whnf
        intro w7 e7
        conv => whnf
        refine DSemK.load1 (by kernel_rfl) B.cells (k := 0) rfl ?_
        conv => whnf
        refine DSemK.load1 (by kernel_rfl) B.cells (k := 1) rfl ?_
        conv => whnf
        refine SemK.sliceStr (k := .i64) (k' := .i64) (by kernel_rfl) (at_) (k) (by omega) (by omega) (.inr (by rfl)) (.inr (by rfl)) ?_
        conv => whnf
        refine ⟨e7, ?_⟩
        conv => whnf
        refine (hSp _).mono ?_
        rintro _ w15 ⟨a8, n9, c10, rfl, q11, N12, O13, e14⟩
        conv => whnf
        refine ⟨(Ext.trans e7 e14), ?_⟩
        conv => whnf
        with_reducible refine IfB.ndec (fun h16 => ?_) (fun h16 => ?_)
        · conv => whnf
          refine ⟨(Ext.trans (Ext.trans hE0 e7) e14), ?_⟩
          conv => whnf
          refine ?_
          · exact .inl ⟨rfl, hrr hnr, (Ext.trans e7 e14)⟩
        · exact absurd (by omega) q11
    · have hb3 : ¬ ((b.toNat : Int) = 10) := by
        intro e
        exact hb10 (UInt8.toNat_inj.1 (by show b.toNat = 10; omega))
      have hno2 : (10 : UInt8) ∉ (log.data.toList.drop at_).take (k + 1 - at_) := by
        have e : k + 1 - at_ = (k - at_) + 1 := by omega
        rw [e, List.take_add_one, hb2]
        simp only [Option.toList_some, List.mem_append, List.mem_singleton, not_or]
        exact ⟨hno, fun e => hb10 e.symm⟩
      refine IfB.yes (by omega) ?_
      conv => whnf
      refine SemK.load1 (by kernel_rfl) B.cells (k := 0) rfl ?_
      conv => whnf
      refine SemK.char (by kernel_rfl) k rfl hb ?_
      conv => whnf
      refine IfB.eqt (by simp [*]; done) ?_
      conv => whnf
      refine SemK.add (((k + 1 : Nat) : Int)) (by omega) (by omega) (by omega) ?_
      conv => whnf
      exact ⟨k + 1, by omega, rfl, by omega, by omega, hno2, rfl⟩
  · have hk2 : k = log.size := by omega
    have hno2 : (10 : UInt8) ∉ log.data.toList.drop at_ := by
      rw [List.take_of_length_le (by simp; omega)] at hno
      exact hno
    have hrr := readJ_none hno2 ch
    refine IfB.no (by omega) ?_
    conv => whnf
    refine SemK.load1 (by kernel_rfl) B.cells (k := 0) rfl ?_
    conv => whnf
    refine IfB.yes (by omega) ?_
    conv => whnf
    refine ⟨hE0, ?_⟩
    conv => whnf
    refine ?_
    · exact .inl ⟨rfl, hrr, Ext.refl _⟩
theorem spec_l27Read {log : ByteArray} (hs : log.size ≤ 4000) (w : World) :
    Does Tryz.prog 304 [.string log] w (fun v w' => ∃ r a n c, v = .pointer (some ⟨r, 0, none⟩) ∧ Blk w' r [.string log, .int .i64 ((readJ log.data.toList 0).2.2 : Nat), .int .i64 (readJ log.data.toList 0).2.1, .slice a n c] 342 ∧ w.heap.size ≤ r ∧ NewAt w.heap.size a ∧ Own TNote.enc w' a n 377 (readJ log.data.toList 0).1 ∧ Ext w w') := by
  have hsz : log.data.toList.length = log.size := by simp
  refine Does.of_vc tabok Tryz.func304 rfl rfl rfl (by kernel_rfl) ?_; conv => whnf
  refine SemK.buildSlice mk_201 (vs := []) (by rfl) (by rfl) (by simp [Value.cells]) (by decide) ?_
  intro b1 w1 g1 l1 e1 B1
  have G1 := Grow.new0 (enc := TNote.enc) (sz := 4) TNote.enc_len B1 g1
  conv => whnf
  refine SemK.build st_342 rfl ?_
  conv => whnf
  refine SemK.box ?_
  intro b2 w2 g2 l2 e2 B2
  conv => whnf
  refine LoopK.rule [3] (fun (k : Nat) vs w' => ∃ a n c out ch, vs = [.pointer (some ⟨b2, 0, none⟩)] ∧ k ≤ log.size ∧ 0 ≤ ch ∧ ch ≤ 65520 ∧ Blk w' b2 [.string log, .int .i64 k, .int .i64 ch, .slice a n c] 342 ∧ Grow TNote.enc 4 w.heap.size 377 w' a n c out ∧ (∀ k, blkIn a k → k ≠ b2) ∧ out.length ≤ k ∧ readJ log.data.toList 0 = (out ++ (readJ (log.data.toList.drop k) ch).1, (readJ (log.data.toList.drop k) ch).2.1, k + (readJ (log.data.toList.drop k) ch).2.2) ∧ Ext w w') (fun k => log.size - k) tab tabok (by kernel_rfl) 0
    ⟨some ⟨b1, 0, none⟩, 0, 0, [], 0, rfl, by omega, by omega, by omega, B2, G1.ext e2, fun k hk => by obtain ⟨x, hx, rfl⟩ := hk; cases hx; show b1 ≠ b2; omega, by simp, by simp, Ext.trans e1 e2⟩ ?_
  rintro k g _ w' ⟨a, n, c, out, ch, rfl, hk, hc0, hc1, B, G, hne, hol, hJ, hx⟩
  have hb2 : w.heap.size ≤ b2 := by have := Below.size e1; omega
  conv => whnf
  refine (spec_line hs hk hc0 hc1 B G hb2 hne hx hol).mono ?_
  rintro _ w3 ⟨e3, h | h⟩
  · obtain ⟨rfl, hr, e4⟩ := h
    rw [hr] at hJ
    simp only [List.append_nil, Nat.add_zero] at hJ
    rw [hJ]
    conv => whnf
    exact ⟨b2, a, n, c, rfl, B.ext e4, hb2, G.new, (G.ext e4).own, e3⟩
  · obtain ⟨p, rest, n2, c2, a3, n3, c3, rfl, hpr, hno, hnr, B3, G3, hne3⟩ := h
    have hlen : p.length + 1 + k ≤ log.size := by
      have := congrArg List.length hpr
      simp at this
      omega
    have hr := line_of hpr
    rw [hpr, readJ_good hno hnr] at hJ
    obtain ⟨_, hc2, _⟩ := noteRead_ok hnr
    have hcb := chainM_b ch hc0 n2
    rw [← hc2] at hcb
    conv => whnf
    refine ⟨k + (p.length + 1), by omega, a3, n3, c3, out ++ [n2], c2, rfl, by omega, hcb.1, hcb.2, B3, G3, hne3, by simp; omega, ?_, e3⟩
    rw [hr, hJ]
    simp [Nat.add_assoc]
theorem spec_l27Code {log : ByteArray} (hs : log.size ≤ 1048576) (w : World) :
    Does Tryz.prog 238 [.string log] w (fun v w' => ∃ r, v = .tuple #[.pointer (some ⟨r, 0, none⟩), .int .i64 (journalCode log)] ∧ Ext w w' ∧ w.heap.size ≤ r ∧
      (log.size ≤ 4000 → ∃ a n c, Blk w' r [.string log, .int .i64 ((readJ log.data.toList 0).2.2 : Nat), .int .i64 (readJ log.data.toList 0).2.1, .slice a n c] 342 ∧ NewAt w.heap.size a ∧ Own TNote.enc w' a n 377 (readJ log.data.toList 0).1)) := by
  have hb := (readJ_ok _ log.data.toList 0 (Nat.le_refl _) (by omega) (by omega)).2.2.2.1
  have hsz : log.data.toList.length = log.size := by simp
  refine Does.of_vc tabok Tryz.func238 rfl rfl rfl (by kernel_rfl) ?_; conv => whnf
  by_cases h4 : 4000 < log.size
  · have hjc : journalCode log = 5 := by unfold journalCode; rw [if_pos h4]
    rw [hjc]
    refine IfB.yes (by omega) ?_
    conv => whnf
    refine SemK.build st_342 rfl ?_
    conv => whnf
    refine SemK.box ?_
    intro b5 w5 g5 l5 e5 B5
    conv => whnf
    exact ⟨_, rfl, e5, by omega, by omega⟩
  · have hjc : journalCode log = if (readJ log.data.toList 0).2.2 < log.size then 8 else 0 := by unfold journalCode; rw [if_neg h4]
    rw [hjc]
    refine IfB.no (by omega) ?_
    conv => whnf
    refine (spec_l27Read (by omega) _).mono ?_
    rintro _ w14 ⟨r5, a6, n7, c8, rfl, q9, q10, N11, O12, e13⟩
    conv => whnf
    refine SemK.load1 (by kernel_rfl) q9.cells (k := 1) rfl ?_
    conv => whnf
    with_reducible refine IfB.ndec (fun h15 => ?_) (fun h15 => ?_)
    · conv => whnf
      rw [if_pos (by omega)]
      exact ⟨r5, rfl, e13, q10, fun _ => ⟨a6, n7, c8, q9, N11, O12⟩⟩
    · conv => whnf
      rw [if_neg (by omega)]
      exact ⟨r5, rfl, e13, q10, fun _ => ⟨a6, n7, c8, q9, N11, O12⟩⟩
end Go.Proofs.YtkjmbjedbmblmaaGreatDoor
