/- Contracts of functions of the given program, of the reference and of the laws: each says what a call returns, for all arguments that meet the premises that the theorem itself names. -/
import Derived.Test.YtkjmbjedbmblmaaGreatDoorDec
import Derived.Test.YtkjmbjedbmblmaaGreatDoorJournalM
import Derived.Test.YtkjmbjedbmblmaaGreatDoorVcWrite
namespace Go.Proofs.YtkjmbjedbmblmaaGreatDoor
open Go Go.RowKit Go.Vc Go.M Go.Shelf Go.Proofs
theorem spec_l27Words {x : TNote} (hx : x.ok) (hw : x.what.size ≤ 1000) {b o : Nat} {w : World} (hc : Cells w b o x.enc) : Does Tryz.prog 385 [.pointer (some ⟨b, o, none⟩)] w (fun v w' => v = .string (wordsB x) ∧ Ext w w') := by
  obtain ⟨h1, h2, h3, h4⟩ := hx
  have l1 := decB_len h1.1 h1.2
  have l2 := decB_len h2.1 h2.2
  have l3 := decB_len h3.1 h3.2
  refine Does.of_vc tabok Tryz.func385 rfl rfl rfl (by kernel_rfl) ?_; conv => whnf
  refine DrawK.held tabok mixed [(0, false), (1, false), (2, false), (3, false), (6, false), (7, false), (8, false), (9, false), (13, false), (14, false), (15, false), (16, false), (20, false), (21, false), (22, false), (23, false), (4, true), (5, false), (10, true), (11, false), (12, false), (17, true), (18, true), (19, true), (24, true), (25, true)] (by kernel_rfl) (by kernel_rfl) ?_
  conv => whnf
  intro w5 e5
  conv => whnf
  refine DSemK.load1 (by kernel_rfl) hc (k := 0) rfl ?_
  conv => whnf
  refine DSemK.load1 (by kernel_rfl) hc (k := 1) rfl ?_
  conv => whnf
  refine DSemK.load1 (by kernel_rfl) hc (k := 2) rfl ?_
  conv => whnf
  refine DSemK.load1 (by kernel_rfl) hc (k := 3) rfl ?_
  conv => whnf
  refine (spec_l01Dec h1 _).mono ?_
  rintro _ w7 ⟨rfl, e6⟩
  conv => whnf
  refine ⟨(Ext.trans e5 e6), ?_⟩
  conv => whnf
  refine DSemK.cat (by simp only [ByteArray.size_append, bs_size, sizeC, sizeT, List.length_cons, List.length_nil]; omega) ?_
  conv => whnf
  refine (spec_l01Dec h2 _).mono ?_
  rintro _ w9 ⟨rfl, e8⟩
  conv => whnf
  refine ⟨(Ext.trans (Ext.trans e5 e6) e8), ?_⟩
  conv => whnf
  refine DSemK.cat (by simp only [ByteArray.size_append, bs_size, sizeC, sizeT, List.length_cons, List.length_nil]; omega) ?_
  conv => whnf
  refine DSemK.cat (by simp only [ByteArray.size_append, bs_size, sizeC, sizeT, List.length_cons, List.length_nil]; omega) ?_
  conv => whnf
  refine (spec_l01Dec h3 _).mono ?_
  rintro _ w11 ⟨rfl, e10⟩
  conv => whnf
  refine ⟨(Ext.trans (Ext.trans (Ext.trans e5 e6) e8) e10), ?_⟩
  conv => whnf
  refine SemK.cat (by simp only [ByteArray.size_append, bs_size, sizeC, sizeT, List.length_cons, List.length_nil]; omega) ?_
  conv => whnf
  refine ⟨(Ext.trans (Ext.trans (Ext.trans e5 e6) e8) e10), ?_⟩
  conv => whnf
  refine SemK.cat (by simp only [ByteArray.size_append, bs_size, sizeC, sizeT, List.length_cons, List.length_nil]; omega) ?_
  conv => whnf
  refine ⟨(Ext.trans (Ext.trans (Ext.trans e5 e6) e8) e10), ?_⟩
  conv => whnf
  refine SemK.cat (by simp only [ByteArray.size_append, bs_size, sizeC, sizeT, List.length_cons, List.length_nil]; omega) ?_
  conv => whnf
  refine ⟨(Ext.trans (Ext.trans (Ext.trans e5 e6) e8) e10), ?_⟩
  conv => whnf
  exact ⟨rfl, (Ext.trans (Ext.trans (Ext.trans e5 e6) e8) e10)⟩
theorem spec_l27Chain {before : Int} (h0 : 0 ≤ before) (h1 : before ≤ 65520) {s : ByteArray} (hs : s.size ≤ 1048576) (w : World) : Does Tryz.prog 384 [.int .i64 before, .string s] w (fun v w' => v = .int .i64 (chainL before s.data.toList) ∧ w = w') := by
  have hsz : s.data.toList.length = s.size := by simp
  refine Does.of_vc tabok Tryz.func384 rfl rfl rfl (by kernel_rfl) ?_; conv => whnf
  refine SemK.add _ rfl (by omega) (by omega) ?_
  conv => whnf
  refine SemK.rem (by omega) (by omega) ?_
  conv => whnf
  refine LoopK.rule [1, 5, 6] (fun (k : Nat) vs w' => vs = [.string s, .int .i64 ((s.data.toList.take k).foldl chain1 ((before + 17) % 65521)), .int .i64 k] ∧ k ≤ s.size ∧ w = w') (fun k => s.size - k) tab tabok (by kernel_rfl) 0 ⟨rfl, by omega, rfl⟩ ?_
  rintro k g _ w' ⟨rfl, hk, rfl⟩
  have hb := chain_b (s.data.toList.take k) ((before + 17) % 65521) (by omega) (by omega)
  conv => whnf
  with_reducible refine IfB.dec (fun h2 => ?_) (fun h2 => ?_)
  · obtain ⟨c, hc⟩ : ∃ c, s.data.toList[k]? = some c := get_of_lt (by omega)
    have hstep := chain_take hc ((before + 17) % 65521)
    generalize (s.data.toList.take k).foldl chain1 ((before + 17) % 65521) = r at *
    conv => whnf
    refine SemK.mul _ rfl (by omega) (by omega) ?_
    conv => whnf
    refine SemK.char (by kernel_rfl) k rfl hc ?_
    conv => whnf
    have hu := c.toNat_lt
    refine SemK.conv (k := .i64) (by kernel_rfl) (by kernel_rfl) (i64_wrap (by omega) (by omega)) ?_
    conv => whnf
    refine SemK.add _ rfl (by omega) (by omega) ?_
    conv => whnf
    refine SemK.rem (by omega) (by omega) ?_
    conv => whnf
    refine SemK.add (((k + 1 : Nat) : Int)) (by omega) (by omega) (by omega) ?_
    conv => whnf
    exact ⟨k + 1, by omega, by rw [hstep]; rfl, by omega, rfl⟩
  · have hk2 : k = s.size := by omega
    subst hk2
    rw [List.take_of_length_le (by omega)]
    conv => whnf
    exact ⟨rfl, rfl⟩
theorem impl_noteWords {x : TNote} (hx : x.ok) (hw : x.what.size ≤ 1000) {w : World} (hT : Pow w) : Does Tryz.prog 409 [.agg ⟨x.enc⟩] w (fun v w' => v = .string (wordsB x) ∧ Ext w w') := by
  obtain ⟨h1, h2, h3, h4⟩ := hx
  have l1 := decB_len h1.1 h1.2
  have l2 := decB_len h2.1 h2.2
  have l3 := decB_len h3.1 h3.2
  refine Does.of_vc tabok Tryz.func409 rfl rfl rfl (by kernel_rfl) ?_; conv => whnf
  refine SemK.box ?_
  intro b5 w5 g5 l5 e5 B5
  conv => whnf
  refine DrawK.held tabok mixed [(0, false), (1, false), (3, false), (4, false), (6, false), (7, false), (9, false), (10, false), (2, true), (5, true), (8, true), (11, true), (12, true), (13, true)] (by kernel_rfl) (by kernel_rfl) ?_
  conv => whnf
  intro w6 e6
  conv => whnf
  refine DSemK.load1 (by kernel_rfl) B5.cells (k := 0) rfl ?_
  conv => whnf
  refine DSemK.load1 (by kernel_rfl) B5.cells (k := 1) rfl ?_
  conv => whnf
  refine DSemK.load1 (by kernel_rfl) B5.cells (k := 2) rfl ?_
  conv => whnf
  refine DSemK.load1 (by kernel_rfl) B5.cells (k := 3) rfl ?_
  conv => whnf
  refine (impl_Decimal h1 (hT.ext (Ext.trans e5 e6))).mono ?_
  rintro _ w8 ⟨rfl, e7⟩
  conv => whnf
  refine ⟨(Ext.trans e6 e7), ?_⟩
  conv => whnf
  refine (impl_Decimal h2 (hT.ext (Ext.trans (Ext.trans e5 e6) e7))).mono ?_
  rintro _ w10 ⟨rfl, e9⟩
  conv => whnf
  refine ⟨(Ext.trans (Ext.trans e6 e7) e9), ?_⟩
  conv => whnf
  refine (impl_Decimal h3 (hT.ext (Ext.trans (Ext.trans (Ext.trans e5 e6) e7) e9))).mono ?_
  rintro _ w12 ⟨rfl, e11⟩
  conv => whnf
  refine ⟨(Ext.trans (Ext.trans (Ext.trans e6 e7) e9) e11), ?_⟩
  conv => whnf
  refine SemK.buildSlice mk_32 (vs := [Value.string (decB x.tray), Value.string (decB x.count), Value.string (decB x.sum), Value.string x.what]) (by rfl) (by rfl) (by simp [Value.cells]) (by decide) ?_
  intro b13 w13 g13 l13 e13 B13
  have G13 := Grow.of_blk (n := 4) (enc := eS) (xs := [decB x.tray, decB x.count, decB x.sum, x.what]) eS_len B13 g13 rfl (by decide)
  conv => whnf
  refine ⟨(Ext.trans (Ext.trans (Ext.trans (Ext.trans e6 e7) e9) e11) e13), ?_⟩
  conv => whnf
  refine (lib_Join4 B13 (by omega) (by omega) (by omega) hw).mono ?_
  rintro _ w15 ⟨rfl, e14⟩
  conv => whnf
  refine ⟨(Ext.trans (Ext.trans (Ext.trans (Ext.trans (Ext.trans e6 e7) e9) e11) e13) e14), ?_⟩
  conv => whnf
  exact ⟨rfl, (Ext.trans (Ext.trans (Ext.trans (Ext.trans (Ext.trans (Ext.trans e5 e6) e7) e9) e11) e13) e14)⟩
theorem impl_chainOf {before : Int} (h0 : 0 ≤ before) (h1 : before ≤ 65520) {x : TNote} (hx : x.ok) (hw : x.what.size ≤ 1000) {w : World} (hT : Pow w) : Does Tryz.prog 388 [.int .i64 before, .agg ⟨x.enc⟩] w (fun v w' => v = .int .i64 (chainM before x) ∧ Ext w w') := by
  have hs := words_size hx
  refine Does.of_vc tabok Tryz.func388 rfl rfl rfl (by kernel_rfl) ?_; conv => whnf
  refine SemK.box ?_
  intro b2 w2 g2 l2 e2 B2
  conv => whnf
  refine SemK.add _ rfl (by omega) (by omega) ?_
  conv => whnf
  refine SemK.rem (by omega) (by omega) ?_
  conv => whnf
  refine SemK.loadAgg (n := 4) (by kernel_rfl) B2.cells rfl ?_
  conv => whnf
  refine (impl_noteWords hx hw (hT.ext e2)).mono ?_
  rintro _ w4 ⟨rfl, e3⟩
  unfold chainM
  generalize wordsB x = s at *
  have hsz : s.data.toList.length = s.size := by simp
  conv => whnf
  refine SemK.toBytes (by kernel_rfl) Tryz.underlying22 Tryz.underlying5 (by omega) ?_
  intro b5 c5 w5 g5 l5 e5 A5
  conv => whnf
  refine LoopK.rule [5, 13, 14, 15] (fun (k : Nat) vs w' => vs = [.int .i64 ((s.data.toList.take k).foldl chain1 ((before + 17) % 65521)), .slice (some ⟨b5, 0, none⟩) s.size c5, .int .i64 s.size, .int .i64 k] ∧ k ≤ s.size ∧ Ext w5 w') (fun k => s.size - k) tab tabok (by kernel_rfl) 0 ⟨rfl, by omega, Ext.refl _⟩ ?_
  rintro k g _ w' ⟨rfl, hk, hE⟩
  have hb := chain_b (s.data.toList.take k) ((before + 17) % 65521) (by omega) (by omega)
  conv => whnf
  with_reducible refine IfB.dec (fun h2 => ?_) (fun h2 => ?_)
  · obtain ⟨c, hc⟩ : ∃ c, s.data.toList[k]? = some c := get_of_lt (by omega)
    have hstep := chain_take hc ((before + 17) % 65521)
    generalize (s.data.toList.take k).foldl chain1 ((before + 17) % 65521) = r at *
    conv => whnf
    refine SemK.index (by kernel_rfl) (A5.ext hE) k rfl hc ?_
    intro bb oo _ hbb
    conv => whnf
    refine SemK.load0 (by kernel_rfl) hbb rfl ?_
    conv => whnf
    have hu := c.toNat_lt
    refine SemK.mul _ rfl (by omega) (by omega) ?_
    conv => whnf
    refine SemK.conv (k := .i64) (by kernel_rfl) (by kernel_rfl) (i64_wrap (by omega) (by omega)) ?_
    conv => whnf
    refine SemK.add _ rfl (by omega) (by omega) ?_
    conv => whnf
    refine SemK.rem (by omega) (by omega) ?_
    conv => whnf
    refine SemK.add (((k + 1 : Nat) : Int)) (by omega) (by omega) (by omega) ?_
    conv => whnf
    exact ⟨k + 1, by omega, by rw [hstep]; rfl, by omega, hE⟩
  · have hk2 : k = s.size := by omega
    subst hk2
    rw [List.take_of_length_le (by omega)]
    conv => whnf
    exact ⟨rfl, Ext.trans (Ext.trans (Ext.trans e2 e3) e5) hE⟩
theorem spec_l27Line {ch : Int} (h0 : 0 ≤ ch) (h1 : ch ≤ 65520) {x : TNote} (hx : x.ok) (hw : x.what.size ≤ 1000) {b o : Nat} {w : World} (hc : Cells w b o x.enc) : Does Tryz.prog 386 [.int .i64 ch, .pointer (some ⟨b, o, none⟩)] w (fun v w' => v = .string (lineB ch x) ∧ Ext w w') := by
  have hs := words_size hx
  have l1 := decB_len (n := ch) (by omega) (by omega)
  have hi : i64ok ch := ⟨by omega, by omega⟩
  refine Does.of_vc tabok Tryz.func386 rfl rfl rfl (by kernel_rfl) ?_; conv => whnf
  refine (spec_l01Dec hi _).mono ?_
  rintro _ w3 ⟨rfl, e2⟩
  conv => whnf
  refine SemK.cat (by simp only [ByteArray.size_append, bs_size, sizeC, sizeT, List.length_cons, List.length_nil]; omega) ?_
  conv => whnf
  refine (spec_l27Words hx hw (hc.ext e2)).mono ?_
  rintro _ w5 ⟨rfl, e4⟩
  conv => whnf
  refine SemK.cat (by simp only [ByteArray.size_append, bs_size, sizeC, sizeT, List.length_cons, List.length_nil]; omega) ?_
  conv => whnf
  refine SemK.cat (by simp only [ByteArray.size_append, bs_size, sizeC, sizeT, List.length_cons, List.length_nil]; omega) ?_
  conv => whnf
  exact ⟨rfl, (Ext.trans e2 e4)⟩
theorem impl_noteLine {ch : Int} (h0 : 0 ≤ ch) (h1 : ch ≤ 65520) {x : TNote} (hx : x.ok) (hw : x.what.size ≤ 1000) {w : World} (hT : Pow w) : Does Tryz.prog 389 [.int .i64 ch, .agg ⟨x.enc⟩] w (fun v w' => v = .string (lineB ch x) ∧ Ext w w') := by
  have hs := words_size hx
  have l1 := decB_len (n := ch) (by omega) (by omega)
  have hi : i64ok ch := ⟨by omega, by omega⟩
  refine Does.of_vc tabok Tryz.func389 rfl rfl rfl (by kernel_rfl) ?_; conv => whnf
  refine SemK.box ?_
  intro b2 w2 g2 l2 e2 B2
  conv => whnf
  refine DrawK.held tabok mixed [(0, false), (3, false), (1, true), (2, false), (4, true), (5, true), (6, true), (7, true)] (by kernel_rfl) (by kernel_rfl) ?_
  conv => whnf
  intro w3 e3
  conv => whnf
  refine DSemK.loadAgg (n := 4) (by kernel_rfl) B2.cells rfl ?_
  conv => whnf
  refine (impl_Decimal hi (hT.ext (Ext.trans e2 e3))).mono ?_
  rintro _ w5 ⟨rfl, e4⟩
  conv => whnf
  refine ⟨(Ext.trans e3 e4), ?_⟩
  conv => whnf
  refine DSemK.cat (by simp only [ByteArray.size_append, bs_size, sizeC, sizeT, List.length_cons, List.length_nil]; omega) ?_
  conv => whnf
  refine (impl_noteWords hx hw (hT.ext (Ext.trans (Ext.trans e2 e3) e4))).mono ?_
  rintro _ w7 ⟨rfl, e6⟩
  conv => whnf
  refine ⟨(Ext.trans (Ext.trans e3 e4) e6), ?_⟩
  conv => whnf
  refine SemK.cat (by simp only [ByteArray.size_append, bs_size, sizeC, sizeT, List.length_cons, List.length_nil]; omega) ?_
  conv => whnf
  refine ⟨(Ext.trans (Ext.trans e3 e4) e6), ?_⟩
  conv => whnf
  refine SemK.cat (by simp only [ByteArray.size_append, bs_size, sizeC, sizeT, List.length_cons, List.length_nil]; omega) ?_
  conv => whnf
  refine ⟨(Ext.trans (Ext.trans e3 e4) e6), ?_⟩
  conv => whnf
  exact ⟨rfl, (Ext.trans (Ext.trans (Ext.trans e2 e3) e4) e6)⟩
end Go.Proofs.YtkjmbjedbmblmaaGreatDoor
