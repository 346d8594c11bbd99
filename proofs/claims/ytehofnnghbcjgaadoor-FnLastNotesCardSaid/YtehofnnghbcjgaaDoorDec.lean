/- Contracts of functions of the given program, of the reference and of the laws: each says what a call returns, for all arguments that meet the premises that the theorem itself names. -/
import Derived.Test.YtehofnnghbcjgaaDoorShelf
import Derived.Test.YtehofnnghbcjgaaDoorVcStr
import Derived.Test.YtehofnnghbcjgaaDoorStrs
namespace Go.Proofs.YtehofnnghbcjgaaDoor
open Go Go.RowKit Go.Vc Go.M Go.Shelf Go.Proofs
theorem impl_Decimal {n : Int} (hn : i64ok n) {w : World} (hT : Pow w) : Does Tryd.prog 44 [.int .i64 n] w (fun v w' => v = .string (decB n) ∧ Ext w w') := by
  refine Does.of_vc tabok Tryd.func44 rfl rfl rfl (by kernel_rfl) ?_; conv => whnf
  refine (lib_FormatInt hn hT).mono ?_
  rintro _ w1 ⟨rfl, e1⟩
  conv => whnf
  exact ⟨rfl, e1⟩
theorem spec_l01Dec {n : Int} (hn : i64ok n) (w : World) : Does Tryd.prog 30 [.int .i64 n] w (fun v w' => v = .string (decB n) ∧ Ext w w') := by
  obtain ⟨hn1, hn2⟩ := hn
  have hlen : ∀ (k : Int) (out : List UInt8), digs n.natAbs [] = digs k.natAbs out → out.length ≤ 20 := by
    intro k out h
    have h2 := congrArg List.length h
    rw [digs_digsD, digs_digsD] at h2
    have := digsD_len n.natAbs 20 (by omega)
    simp at h2
    omega
  refine Does.of_vc tabok Tryd.func30 rfl rfl rfl (by kernel_rfl) ?_; conv => whnf
  refine SemK.buildSlice mk_22 (vs := []) (by rfl) (by rfl) (by simp [Value.cells]) (by decide) ?_
  intro b3 w3 g3 l3 e3 B3
  have G3 := Grow.new0 (enc := eB) eB_len B3 g3
  conv => whnf
  refine LoopK.rule [0, 3, 4] (fun (x : Int × List UInt8) vs w' => ∃ k out, x = (k, out) ∧ ∃ a m c, vs = [.int .i64 n, .slice a m c, .int .i64 k] ∧ Grow eB 1 w.heap.size 5 w' a m c out ∧ digs n.natAbs [] = digs k.natAbs out ∧ -9223372036854775808 ≤ k ∧ k ≤ 9223372036854775807 ∧ Ext w w') (fun x => x.1.natAbs) tab tabok (by kernel_rfl) (n, []) ⟨n, [], rfl, _, _, _, rfl, G3, rfl, hn1, hn2, e3⟩ ?_
  rintro _ g vs w' ⟨k, out, rfl, a, m, c, rfl, G, hd, hk1, hk2, hE⟩
  have hl := hlen k out hd
  have hm := G.len
  conv => whnf
  with_reducible refine IfB.ndec (fun h0 => ?_) (fun h0 => ?_)
  · have hd2 := digs_step (k := k.natAbs) (by omega) out
    have t1 := tdiv_natAbs k
    have t2 := tmod_natAbs k
    conv => whnf
    refine SemK.remT (by omega) ?_
    conv => whnf
    have hS : (UInt8.ofNat (48 + k.natAbs % 10)).toNat = 48 + k.natAbs % 10 := u8_digit _
    with_reducible refine IfB.dec (fun hneg => ?_) (fun hneg => ?_)
    · conv => whnf
      refine SemK.neg ((k.tmod 10).natAbs : Int) (by omega) (by omega) (by omega) ?_
      conv => whnf
      refine SemK.add ((UInt8.ofNat (48 + k.natAbs % 10)).toNat : Int) (by omega) (by omega) (by omega) ?_
      conv => whnf
      refine SemK.conv (k := .u8) (by kernel_rfl) (by kernel_rfl) (u8_wrap (by omega) (by omega)) ?_
      conv => whnf
      refine SemK.buildSlice mk_22 (vs := [.int .u8 (UInt8.ofNat (48 + k.natAbs % 10)).toNat]) (by rfl) (by rfl) (by simp [Value.cells]) (by decide) ?_
      intro b4 w4 g4 l4 e4 B4
      have G4 := Grow.of_blk (n := 1) (B := w.heap.size) (enc := eB) (xs := [UInt8.ofNat (48 + k.natAbs % 10)]) eB_len B4 (Nat.le_trans hE.size g4) rfl (by decide)
      conv => whnf
      refine SemK.appendArr0 (enc := eB) mk_22 eB_len G4 ((G.ext e4).own.arr eB_len) (by intro y _; simp [eB, cellish]) (by omega) (by omega) (Nat.le_trans hE.size e4.size) ?_
      intro a5 c5 w5 G5 M5 _
      conv => whnf
      refine SemK.quoT hk1 hk2 (by decide) ?_
      conv => whnf
      exact ⟨(k.tdiv 10, _), (by show (k.tdiv 10).natAbs < k.natAbs; omega), k.tdiv 10, _, rfl, _, _, _, rfl, G5, (by rw [hd, hd2, t1]; rfl), (by omega), (by omega), Ext.mod_trans (Ext.trans hE e4) M5 (blkIn_new (NewAt.some (Nat.le_trans hE.size g4)))⟩
    · conv => whnf
      refine SemK.add ((UInt8.ofNat (48 + k.natAbs % 10)).toNat : Int) (by omega) (by omega) (by omega) ?_
      conv => whnf
      refine SemK.conv (k := .u8) (by kernel_rfl) (by kernel_rfl) (u8_wrap (by omega) (by omega)) ?_
      conv => whnf
      refine SemK.buildSlice mk_22 (vs := [.int .u8 (UInt8.ofNat (48 + k.natAbs % 10)).toNat]) (by rfl) (by rfl) (by simp [Value.cells]) (by decide) ?_
      intro b4 w4 g4 l4 e4 B4
      have G4 := Grow.of_blk (n := 1) (B := w.heap.size) (enc := eB) (xs := [UInt8.ofNat (48 + k.natAbs % 10)]) eB_len B4 (Nat.le_trans hE.size g4) rfl (by decide)
      conv => whnf
      refine SemK.appendArr0 (enc := eB) mk_22 eB_len G4 ((G.ext e4).own.arr eB_len) (by intro y _; simp [eB, cellish]) (by omega) (by omega) (Nat.le_trans hE.size e4.size) ?_
      intro a5 c5 w5 G5 M5 _
      conv => whnf
      refine SemK.quoT hk1 hk2 (by decide) ?_
      conv => whnf
      exact ⟨(k.tdiv 10, _), (by show (k.tdiv 10).natAbs < k.natAbs; omega), k.tdiv 10, _, rfl, _, _, _, rfl, G5, (by rw [hd, hd2, t1]; rfl), (by omega), (by omega), Ext.mod_trans (Ext.trans hE e4) M5 (blkIn_new (NewAt.some (Nat.le_trans hE.size g4)))⟩
  · conv => whnf
    have hk0 : k = 0 := by omega
    subst hk0
    have ho : digs n.natAbs [] = out := hd
    have hi := itoa_digs n
    with_reducible refine IfB.dec (fun h4 => ?_) (fun h4 => ?_)
    · conv => whnf
      have h00 : out = [] := List.eq_nil_of_length_eq_zero (by omega)
      have hn0 : n = 0 := by
        apply Classical.byContradiction
        intro hne
        rw [h00, digs_digsD, digsD_step (by omega)] at ho
        simp at ho
      subst hn0
      exact ⟨by show _ = Value.string (bs (Lib.itoa 0)); rw [hi, if_pos rfl]; rfl, hE⟩
    · conv => whnf
      have hn0 : ¬ n = 0 := fun h => by
        subst h
        have : out = [] := ho.symm
        subst this
        simp at hm
        omega
      rw [if_neg hn0, ho] at hi
      with_reducible refine IfB.dec (fun h5 => ?_) (fun h5 => ?_)
      · conv => whnf
        rw [if_pos h5] at hi
        refine SemK.toStrG (by kernel_rfl) (by kernel_rfl) G ?_
        conv => whnf
        refine SemK.cat (by have : (bs out).size = out.length := bs_size out
                            have : (ByteArray.mk #[45]).size = 1 := rfl
                            omega) ?_
        conv => whnf
        refine ⟨?_, hE⟩
        congr 1
        show bs [45] ++ bs out = bs (Lib.itoa n)
        rw [bs_append, hi]
        rfl
      · conv => whnf
        rw [if_neg h5] at hi
        refine SemK.toStrG (by kernel_rfl) (by kernel_rfl) G ?_
        conv => whnf
        refine ⟨?_, hE⟩
        congr 1
        show bs out = bs (Lib.itoa n)
        rw [hi]
theorem impl_ReadDecimal {s : ByteArray} (hs : s.size ≤ 1048576) {w : World} (hT : Pow w) (hE : Errs w) : Does Tryd.prog 37 [.string s] w (fun v w' => v = .tuple #[.int .i64 (numI s), .bool (numB s)] ∧ Ext w w') := by
  have hP := numM_parse s
  unfold numI numB
  refine Does.of_vc tabok Tryd.func37 rfl rfl rfl (by kernel_rfl) ?_; conv => whnf
  refine (lib_ParseInt (by omega) hE).mono ?_
  rintro _ w3 ⟨⟨n, hp, rfl⟩ | ⟨hp, n, t, a, rfl⟩, e2⟩
  · rw [hp] at hP
    have hb := Lib.parseIntB_bounds hp
    have hn : i64ok n := ⟨by simp at hb; omega, by simp at hb; omega⟩
    simp only at hP
    conv => whnf
    refine SemK.neqNilN (by kernel_rfl) ?_
    conv => whnf
    refine (impl_Decimal hn (hT.ext e2)).mono ?_
    rintro _ w4 ⟨rfl, e4⟩
    conv => whnf
    with_reducible refine IfB.ndec (fun h5 => ?_) (fun h5 => ?_)
    · rw [if_neg (fun h => h5 h.1)] at hP
      rw [hP]
      conv => whnf
      exact ⟨rfl, Ext.trans e2 e4⟩
    · conv => whnf
      refine (lib_TrimMinus s _).mono ?_
      rintro _ _ ⟨rfl, rfl⟩
      conv => whnf
      have hbs : (bs (unsign s.data.toList)).size = (unsign s.data.toList).length := bs_size _
      with_reducible refine IfB.dec (fun h6 => ?_) (fun h6 => ?_)
      · rw [if_neg (fun h => by have := h.2; omega)] at hP
        rw [hP]
        conv => whnf
        exact ⟨rfl, Ext.trans e2 e4⟩
      · rw [if_pos ⟨h5, by omega⟩] at hP
        rw [hP]
        conv => whnf
        exact ⟨rfl, Ext.trans e2 e4⟩
  · have hP2 : numM s = none := by
      rw [hP]
      split
      · rename_i n2 h2; exact absurd h2 (hp n2)
      · rfl
    rw [hP2]
    conv => whnf
    refine SemK.neqNilI (by kernel_rfl) ?_
    conv => whnf
    exact ⟨rfl, e2⟩
end Go.Proofs.YtehofnnghbcjgaaDoor
