/- Contracts of functions of the given program, of the reference and of the laws: each says what a call returns, for all arguments that meet the premises that the theorem itself names. -/
import Derived.Test.YtfgbijddjoojbaaGreatDoorDec
import Derived.Test.YtfgbijddjoojbaaGreatDoorTextsM
import Derived.Test.YtfgbijddjoojbaaGreatDoorVcWrite
namespace Go.Proofs.YtfgbijddjoojbaaGreatDoor
open Go Go.RowKit Go.Vc Go.M Go.Shelf Go.Proofs
theorem spec_l25Text {w : World} {a : Option Addr} {n c : Nat} {xs : List TPart} (h : Arr TPart.enc 4 w a n xs) (hb : ∀ x ∈ xs, partSm x) (hn : n ≤ 40) :
    Does Tryz.prog 91 [.slice a n c] w (fun v w' => v = .string (bs (cats (xs.map partLine))) ∧ Ext w w') := by
  have hlen := h.len
  have hsz : ∀ k, (cats ((xs.take k).map partLine)).length ≤ 4000 := fun k => by
    have := cats_len (f := partLine) (m := 100) (xs := xs.take k) (fun x hx => partLine_sm (hb x (List.mem_of_mem_take hx)))
    have h2 : (xs.take k).length ≤ 40 := by rw [List.length_take]; omega
    omega
  refine Does.of_vc tabok Tryz.func91 rfl rfl rfl (by kernel_rfl) ?_; conv => whnf
  refine SemK.buildSlice mk_22 (vs := []) (by rfl) (by rfl) (by simp [Value.cells]) (by decide) ?_
  intro b1 w1 g1 l1 e1 B1
  have G1 := Grow.new0 (enc := eB) eB_len B1 g1
  conv => whnf
  refine LoopK.rule [0, 3, 4] (fun (k : Nat) vs w' => ∃ a3 m3 c3, vs = [.slice a n c, .slice a3 m3 c3, .int .i64 k] ∧ k ≤ n ∧ Grow eB 1 w.heap.size 5 w' a3 m3 c3 (cats ((xs.take k).map partLine)) ∧ Ext w w') (fun k => n - k) tab tabok (by kernel_rfl) 0 ⟨_, _, _, rfl, by omega, G1, e1⟩ ?_
  rintro k g _ w' ⟨a3, m3, c3, rfl, hk, G, hE⟩
  have hm := G.len
  have hs := hsz k
  conv => whnf
  with_reducible refine IfB.dec (fun h0 => ?_) (fun h0 => ?_)
  · obtain ⟨x, hx⟩ : ∃ x, xs[k]? = some x := get_of_lt (by omega)
    obtain ⟨s1, i1, i2, i3⟩ := hb x (List.mem_of_getElem? hx)
    have l1 := decB_len i1.1 i1.2
    have l2 := decB_len i2.1 i2.2
    have l3 := decB_len i3.1 i3.2
    have hct := cats_take (f := partLine) hx
    conv => whnf
    refine SemK.index (by kernel_rfl) (h.ext hE) k rfl hx ?_
    intro bb oo ha hbb
    have hb0 := h.at_ hx ha
    conv => whnf
    refine DrawK.writes tabok mixed [(0, .any), (1, .any), (2, .any), (3, .any), (6, .any), (7, .any), (8, .any), (13, .any), (14, .any), (15, .any), (20, .any), (21, .any), (22, .any), (4, .held), (5, .any), (9, .held), (16, .held), (23, .held), (10, .run), (11, .any), (12, .any), (17, .run), (18, .any), (19, .any), (24, .run), (25, .any), (26, .any), (27, .write), (28, .any)] (by kernel_rfl) (by kernel_rfl) ?_
    conv => whnf
    intro w4 e4
    conv => whnf
    refine DSemK.load1 (by kernel_rfl) (hb0.ext hE) (k := 0) rfl ?_
    conv => whnf
    refine PSemK.cat (by simp only [ByteArray.size_append, bs_size, sizeC, sizeT, List.length_cons, List.length_nil]; omega) ?_
    conv => whnf
    refine DSemK.load1 (by kernel_rfl) (hb0.ext hE) (k := 1) rfl ?_
    conv => whnf
    refine DSemK.load1 (by kernel_rfl) (hb0.ext hE) (k := 2) rfl ?_
    conv => whnf
    refine DSemK.load1 (by kernel_rfl) (hb0.ext hE) (k := 3) rfl ?_
    conv => whnf
    refine (spec_l01Dec i1 _).mono ?_
    rintro _ w6 ⟨rfl, e5⟩
    conv => whnf
    refine ⟨(Ext.trans e4 e5), ?_⟩
    conv => whnf
    refine PSemK.cat (by simp only [ByteArray.size_append, bs_size, sizeC, sizeT, List.length_cons, List.length_nil]; omega) ?_
    conv => whnf
    refine PSemK.cat (by simp only [ByteArray.size_append, bs_size, sizeC, sizeT, List.length_cons, List.length_nil]; omega) ?_
    conv => whnf
    refine (spec_l01Dec i2 _).mono ?_
    rintro _ w8 ⟨rfl, e7⟩
    conv => whnf
    refine ⟨(Ext.trans (Ext.trans e4 e5) e7), ?_⟩
    conv => whnf
    refine PSemK.cat (by simp only [ByteArray.size_append, bs_size, sizeC, sizeT, List.length_cons, List.length_nil]; omega) ?_
    conv => whnf
    refine PSemK.cat (by simp only [ByteArray.size_append, bs_size, sizeC, sizeT, List.length_cons, List.length_nil]; omega) ?_
    conv => whnf
    refine (spec_l01Dec i3 _).mono ?_
    rintro _ w10 ⟨rfl, e9⟩
    conv => whnf
    refine ⟨(Ext.trans (Ext.trans (Ext.trans e4 e5) e7) e9), ?_⟩
    conv => whnf
    refine PSemK.cat (by simp only [ByteArray.size_append, bs_size, sizeC, sizeT, List.length_cons, List.length_nil]; omega) ?_
    conv => whnf
    refine PSemK.cat (by simp only [ByteArray.size_append, bs_size, sizeC, sizeT, List.length_cons, List.length_nil]; omega) ?_
    conv => whnf
    refine SemK.appendStr mk_22 (by kernel_rfl) (by kernel_rfl) (G.ext (Ext.trans (Ext.trans (Ext.trans e4 e5) e7) e9)) (by simp only [ByteArray.size_append, bs_size, sizeC, sizeT, List.length_cons, List.length_nil]; omega) (Below.size (Ext.trans (Ext.trans (Ext.trans (Ext.trans hE e4) e5) e7) e9)) ?_
    intro a11 c11 w11 G11 m11
    conv => whnf
    refine SemK.add (((k + 1 : Nat) : Int)) (by omega) (by omega) (by omega) ?_
    conv => whnf
    refine ⟨k + 1, by omega, _, _, _, rfl, by omega, ?_, (Ext.mod_trans (Ext.trans (Ext.trans (Ext.trans (Ext.trans hE e4) e5) e7) e9) m11 (blkIn_new G.new))⟩
    · exact G11.eq_ (by rw [hct]; simp [partLine, bs])
  · have hk2 : k = n := by omega
    subst hk2
    rw [List.take_of_length_le (by omega)] at G
    conv => whnf
    refine SemK.toStrG (by kernel_rfl) (by kernel_rfl) G ?_
    conv => whnf
    exact ⟨rfl, hE⟩
theorem impl_PartsText {w : World} {a : Option Addr} {n c : Nat} {xs : List TPart} (h : Arr TPart.enc 4 w a n xs) (hok : ∀ x ∈ xs, x.ok) (hnc : n ≤ c) (hT : Pow w) :
    Does Tryz.prog 34 [.slice a n c] w (fun v w' => v = .string (partsText xs) ∧ Ext w w') := by
  have hlen := h.len
  have hmax := h.le
  refine Does.of_vc tabok Tryz.func34 rfl rfl rfl (by kernel_rfl) ?_; conv => whnf
  refine (impl_ValidParts h hok hnc).mono ?_
  rintro _ w1 ⟨rfl, e1⟩
  unfold partsText
  cases hz : partsB xs
  · conv => whnf
    exact ⟨rfl, e1⟩
  obtain ⟨hn, hb⟩ := partsB_mem' hz
  have hsz : ∀ k, (cats ((xs.take k).map partLine)).length ≤ 4000 := fun k => by
    have := cats_len (f := partLine) (m := 100) (xs := xs.take k) (fun x hx => partLine_size (hb x (List.mem_of_mem_take hx)))
    have h2 : (xs.take k).length ≤ 40 := by rw [List.length_take]; omega
    omega
  conv => whnf
  refine LoopK.rule [3, 9, 10, 11] (fun (k : Nat) vs w' => vs = [.string (bs (cats ((xs.take k).map partLine))), .slice a n c, .int .i64 n, .int .i64 k] ∧ k ≤ n ∧ Ext w w') (fun k => n - k) tab tabok (by kernel_rfl) 0 ⟨rfl, by omega, e1⟩ ?_
  rintro k g _ w' ⟨rfl, hk, hE⟩
  have hs := hsz k
  conv => whnf
  with_reducible refine IfB.dec (fun h0 => ?_) (fun h0 => ?_)
  · obtain ⟨x, hx⟩ : ∃ x, xs[k]? = some x := get_of_lt (by omega)
    obtain ⟨s1, i1, i2, i3⟩ := partB_sizes (hb x (List.mem_of_getElem? hx))
    have l1 := decB_len i1.1 i1.2
    have l2 := decB_len i2.1 i2.2
    have l3 := decB_len i3.1 i3.2
    have hct := cats_take (f := partLine) hx
    conv => whnf
    refine SemK.index (by kernel_rfl) (h.ext hE) k rfl hx ?_
    intro bb oo _ hbb
    conv => whnf
    refine SemK.loadAgg (n := 4) (by kernel_rfl) hbb rfl ?_
    conv => whnf
    refine SemK.alloc (z := .agg #[.string { data := #[] }, .int .i64 0, .int .i64 0, .int .i64 0]) (by kernel_rfl) ?_
    intro b673 w673 g673 l673 e673 B673
    conv => whnf
    refine SemK.storeAll (by kernel_rfl) B673 (vs := x.enc) rfl rfl (by simp [TPart.enc, cellish]) ?_
    intro w674 c674 B674
    conv => whnf
    refine DrawK.held tabok mixed [(0, false), (1, false), (2, false), (3, false), (4, false), (6, false), (7, false), (9, false), (10, false), (5, true), (8, true), (11, true), (12, true), (13, true), (14, true), (15, true), (16, true)] (by kernel_rfl) (by kernel_rfl) ?_
    conv => whnf
    intro w675 e675
    conv => whnf
    refine DSemK.load1 (by kernel_rfl) B674.cells (k := 0) rfl ?_
    conv => whnf
    refine DSemK.load1 (by kernel_rfl) B674.cells (k := 1) rfl ?_
    conv => whnf
    refine DSemK.load1 (by kernel_rfl) B674.cells (k := 2) rfl ?_
    conv => whnf
    refine DSemK.load1 (by kernel_rfl) B674.cells (k := 3) rfl ?_
    conv => whnf
    refine (impl_Decimal i1 (hT.ext (Ext.trans (Ext.but_trans (Ext.trans hE e673) c674.but (Nat.le_trans (Below.size hE) g673)) e675))).mono ?_
    rintro _ w677 ⟨rfl, e676⟩
    conv => whnf
    refine ⟨(Ext.trans e675 e676), ?_⟩
    conv => whnf
    refine (impl_Decimal i2 (hT.ext (Ext.trans (Ext.trans (Ext.but_trans (Ext.trans hE e673) c674.but (Nat.le_trans (Below.size hE) g673)) e675) e676))).mono ?_
    rintro _ w679 ⟨rfl, e678⟩
    conv => whnf
    refine ⟨(Ext.trans (Ext.trans e675 e676) e678), ?_⟩
    conv => whnf
    refine (impl_Decimal i3 (hT.ext (Ext.trans (Ext.trans (Ext.trans (Ext.but_trans (Ext.trans hE e673) c674.but (Nat.le_trans (Below.size hE) g673)) e675) e676) e678))).mono ?_
    rintro _ w681 ⟨rfl, e680⟩
    conv => whnf
    refine ⟨(Ext.trans (Ext.trans (Ext.trans e675 e676) e678) e680), ?_⟩
    conv => whnf
    refine SemK.buildSlice mk_32 (vs := [Value.string x.name, Value.string (decB x.count), Value.string { data := #[111, 102] }, Value.string (decB x.least), Value.string { data := #[97, 116] }, Value.string (decB x.price)]) (by rfl) (by rfl) (by simp [Value.cells]) (by decide) ?_
    intro b682 w682 g682 l682 e682 B682
    have G682 := Grow.of_blk (n := 6) (enc := eS) (xs := [x.name, decB x.count, { data := #[111, 102] }, decB x.least, { data := #[97, 116] }, decB x.price]) eS_len B682 g682 rfl (by decide)
    conv => whnf
    refine ⟨(Ext.trans (Ext.trans (Ext.trans (Ext.trans e675 e676) e678) e680) e682), ?_⟩
    conv => whnf
    refine (lib_Join6 B682 (by omega) (by omega) (by decide) (by omega) (by decide) (by omega)).mono ?_
    rintro _ w686 ⟨rfl, e685⟩
    conv => whnf
    refine ⟨(Ext.trans (Ext.trans (Ext.trans (Ext.trans (Ext.trans e675 e676) e678) e680) e682) e685), ?_⟩
    conv => whnf
    refine SemK.cat (by simp only [ByteArray.size_append, bs_size, sizeC, sizeT, List.length_cons, List.length_nil]; omega) ?_
    conv => whnf
    refine ⟨(Ext.trans (Ext.trans (Ext.trans (Ext.trans (Ext.trans e675 e676) e678) e680) e682) e685), ?_⟩
    conv => whnf
    refine SemK.cat (by simp only [ByteArray.size_append, bs_size, sizeC, sizeT, List.length_cons, List.length_nil]; omega) ?_
    conv => whnf
    refine ⟨(Ext.trans (Ext.trans (Ext.trans (Ext.trans (Ext.trans e675 e676) e678) e680) e682) e685), ?_⟩
    conv => whnf
    refine SemK.add (((k + 1 : Nat) : Int)) (by omega) (by omega) (by omega) ?_
    conv => whnf
    refine ⟨k + 1, by omega, ?_, by omega, (Ext.trans (Ext.trans (Ext.trans (Ext.trans (Ext.trans (Ext.trans (Ext.but_trans (Ext.trans hE e673) c674.but (Nat.le_trans (Below.size hE) g673)) e675) e676) e678) e680) e682) e685)⟩
    rw [hct]
    rfl
  · have hk2 : k = n := by omega
    subst hk2
    rw [List.take_of_length_le (by omega)]
    conv => whnf
    exact ⟨rfl, hE⟩
theorem spec_PartsText {w : World} {a : Option Addr} {n c : Nat} {xs : List TPart} (h : Arr TPart.enc 4 w a n xs) (hok : ∀ x ∈ xs, x.ok) :
    Does Tryz.prog 40 [.slice a n c] w (fun v w' => v = .string (partsText xs) ∧ Ext w w') := by
  have hlen := h.len
  refine Does.of_vc tabok Tryz.func40 rfl rfl rfl (by kernel_rfl) ?_; conv => whnf
  refine (spec_l25Ok h hok).mono ?_
  rintro _ w1 ⟨rfl, e1⟩
  unfold partsText
  cases hz : partsB xs
  · conv => whnf
    exact ⟨rfl, e1⟩
  obtain ⟨hn, hb⟩ := partsB_mem' hz
  conv => whnf
  refine (spec_l25Text (h.ext e1) (fun x hx => partB_sizes (hb x hx)) (by omega)).mono ?_
  rintro _ w2 ⟨rfl, e2⟩
  conv => whnf
  exact ⟨rfl, Ext.trans e1 e2⟩
end Go.Proofs.YtfgbijddjoojbaaGreatDoor
