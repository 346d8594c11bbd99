/- Contracts of functions of the given program, of the reference and of the laws: each says what a call returns, for all arguments that meet the premises that the theorem itself names. -/
import Derived.Test.YtfgbijddjoojbaaGreatBasics
import Derived.Test.YtfgbijddjoojbaaGreatVcApp
import Derived.Test.YtfgbijddjoojbaaGreatVcWrite
import Derived.Test.YtfgbijddjoojbaaGreatSts
namespace Go.M
open Go Go.Vc
theorem mod_b {a n : Int} (h0 : 0 ≤ a) (h1 : 0 < n) : 0 ≤ a % n ∧ a % n < n ∧ a % n ≤ a := by
  have h2 := Int.emod_nonneg a (by omega : n ≠ 0)
  have h3 := Int.emod_lt_of_pos a h1
  have h4 : 0 ≤ n * (a / n) := Int.mul_nonneg (by omega) (Int.ediv_nonneg h0 (by omega))
  have h5 := Int.emod_add_mul_ediv a n
  omega
end Go.M
namespace Go.Proofs.YtfgbijddjoojbaaGreat
open Go Go.RowKit Go.Vc Go.M
theorem spec_l00From {w : World} {a : Option Addr} {n c : Nat} {xs : List UInt8} (h : Arr eB 1 w a n xs) :
    Does Tryz.prog 26 [.slice a n c] w (fun v w' => ∃ a', v = .pointer a' ∧ NewAt w.heap.size a' ∧ Src w' a' 0 ∧ Ext w w') := by
  refine Does.of_vc tabok Tryz.func26 rfl rfl rfl (by kernel_rfl) ?_; conv => whnf
  refine SemK.build st_87 rfl ?_
  conv => whnf
  refine SemK.box ?_
  intro b1 w1 g1 l1 e1 B1
  conv => whnf
  refine ⟨_, rfl, NewAt.some (by omega), ?_, e1⟩
  · exact ⟨b1, _, a, n, c, xs, 0, 0, rfl, B1, h.ext e1, fun hn x hx => by have := h.lt (by simp [eB]) hn x hx; omega, by omega, by omega⟩
theorem spec_next {w : World} {a0 : Option Addr} {k : Nat} (h : Src w a0 k) (hk : k ≤ 1000000000) :
    Does Tryz.prog 79 [.pointer a0] w (fun v w' => ∃ r : Int, v = .int .i64 r ∧ 0 ≤ r ∧ r ≤ 255 ∧ Src w' a0 (k + 1) ∧ Mod (blkIn a0) w w') := by
  obtain ⟨b, t, a, n, c, xs, i, seed, rfl, hB, hA, hne, h0, h1⟩ := h
  have hn := hA.len
  have hm := hA.le
  refine Does.of_vc tabok Tryz.func79 rfl rfl rfl (by kernel_rfl) ?_; conv => whnf
  refine DrawK.det tabok mixed (by kernel_rfl) (by kernel_rfl) ?_
  conv => whnf
  refine DSemK.load1 (by kernel_rfl) hB.cells (k := 1) rfl ?_
  conv => whnf
  refine DSemK.load1 (by kernel_rfl) hB.cells (k := 0) rfl ?_
  conv => whnf
  intro w2 e2
  conv => whnf
  with_reducible refine IfB.dec (fun h3 => ?_) (fun h3 => ?_)
  · conv => whnf
    refine DrawK.det tabok mixed (by kernel_rfl) (by kernel_rfl) ?_
    conv => whnf
    refine DSemK.load1 (by kernel_rfl) (hB.ext e2).cells (k := 0) rfl ?_
    conv => whnf
    refine DSemK.load1 (by kernel_rfl) (hB.ext e2).cells (k := 1) rfl ?_
    conv => whnf
    obtain ⟨x4, hx4⟩ : ∃ x, xs[(i).toNat]? = some x := get_of_lt (by omega)
    refine DSemK.index (by kernel_rfl) (hA.ext e2) (i).toNat (by omega) hx4 ?_
    intro b5 o5 _ hb5
    conv => whnf
    refine DSemK.load0 (by kernel_rfl) hb5 rfl ?_
    conv => whnf
    refine DSemK.conv (k := .i64) (by kernel_rfl) (by kernel_rfl) (i64_wrap (by omega) (by have := UInt8.toNat_lt (x4); omega)) ?_
    conv => whnf
    intro w6 e6
    conv => whnf
    refine SemK.load1 (by kernel_rfl) (hB.ext (Ext.trans e2 e6)).cells (k := 1) rfl ?_
    conv => whnf
    refine SemK.add _ rfl (by omega) (by omega) ?_
    conv => whnf
    refine SemK.store1 (by kernel_rfl) (hB.ext (Ext.trans e2 e6)) (k := 1) (Nat.le_of_ble_eq_true rfl) rfl ?_
    intro w7 c7 B7
    conv => whnf
    refine SemK.load1 (by kernel_rfl) B7.cells (k := 2) rfl ?_
    conv => whnf
    refine SemK.wmul ?_
    conv => whnf
    refine SemK.conv (k := .u64) (by kernel_rfl) (by kernel_rfl) (u64_wrap (by omega) (by have := UInt8.toNat_lt (x4); omega)) ?_
    conv => whnf
    refine SemK.wadd ?_
    conv => whnf
    refine SemK.wadd ?_
    conv => whnf
    refine SemK.store1 (by kernel_rfl) B7 (k := 2) (Nat.le_of_ble_eq_true rfl) rfl ?_
    intro w8 c8 B8
    conv => whnf
    refine DrawK.det tabok mixed (by kernel_rfl) (by kernel_rfl) ?_
    conv => whnf
    refine DSemK.load1 (by kernel_rfl) B8.cells (k := 1) rfl ?_
    conv => whnf
    refine DSemK.load1 (by kernel_rfl) B8.cells (k := 0) rfl ?_
    conv => whnf
    intro w9 e9
    conv => whnf
    refine IfB.yes (by omega) ?_
    conv => whnf
    refine ⟨_, rfl, by omega, ?_, ?_, ((((e2.mod.trans e6.mod).trans (c7.but.mono (fun i hi => ⟨_, rfl, hi⟩))).trans (c8.but.mono (fun i hi => ⟨_, rfl, hi⟩))).trans e9.mod)⟩
    · have := UInt8.toNat_lt x4; omega
    · exact ⟨b, t, a, n, c, xs, _, _, rfl, B8.ext e9, hA.keep ((((e2.mod.trans e6.mod).trans (c7.but.mono (fun i hi => ⟨_, rfl, hi⟩))).trans (c8.but.mono (fun i hi => ⟨_, rfl, hi⟩))).trans e9.mod) hne, by omega, by omega⟩
  · conv => whnf
    refine SemK.load1 (by kernel_rfl) (hB.ext e2).cells (k := 1) rfl ?_
    conv => whnf
    refine SemK.add _ rfl (by omega) (by omega) ?_
    conv => whnf
    refine SemK.store1 (by kernel_rfl) (hB.ext e2) (k := 1) (Nat.le_of_ble_eq_true rfl) rfl ?_
    intro w10 c10 B10
    conv => whnf
    refine SemK.load1 (by kernel_rfl) B10.cells (k := 2) rfl ?_
    conv => whnf
    refine SemK.wmul ?_
    conv => whnf
    refine SemK.conv (k := .u64) (by kernel_rfl) (by kernel_rfl) (u64_wrap (by omega) (by omega)) ?_
    conv => whnf
    refine SemK.wadd ?_
    conv => whnf
    refine SemK.wadd ?_
    conv => whnf
    refine SemK.store1 (by kernel_rfl) B10 (k := 2) (Nat.le_of_ble_eq_true rfl) rfl ?_
    intro w11 c11 B11
    conv => whnf
    refine DrawK.det tabok mixed (by kernel_rfl) (by kernel_rfl) ?_
    conv => whnf
    refine DSemK.load1 (by kernel_rfl) B11.cells (k := 1) rfl ?_
    conv => whnf
    refine DSemK.load1 (by kernel_rfl) B11.cells (k := 0) rfl ?_
    conv => whnf
    intro w12 e12
    conv => whnf
    refine IfB.no (by omega) ?_
    conv => whnf
    refine SemK.load1 (by kernel_rfl) (B11.ext e12).cells (k := 2) rfl ?_
    conv => whnf
    refine SemK.shr (by omega) ?_
    conv => whnf
    refine SemK.and ?_
    conv => whnf
    refine SemK.conv (k := .i64) (by kernel_rfl) (by kernel_rfl) (i64_wrap (Int.le_trans (by decide) (and255 _).1) (Int.le_trans (and255 _).2 (by decide))) ?_
    conv => whnf
    exact ⟨_, rfl, (and255 _).1, (and255 _).2, ⟨b, t, a, n, c, xs, _, _, rfl, B11.ext e12, hA.keep (((e2.mod.trans (c10.but.mono (fun i hi => ⟨_, rfl, hi⟩))).trans (c11.but.mono (fun i hi => ⟨_, rfl, hi⟩))).trans e12.mod) hne, by omega, by omega⟩, (((e2.mod.trans (c10.but.mono (fun i hi => ⟨_, rfl, hi⟩))).trans (c11.but.mono (fun i hi => ⟨_, rfl, hi⟩))).trans e12.mod)⟩
theorem spec_pick {w : World} {a0 : Option Addr} {k : Nat} (h : Src w a0 k) (hk : k ≤ 100000000) {n : Int} (hn : n ≤ 1000000) :
    Does Tryz.prog 37 [.pointer a0, .int .i64 n] w (fun v w' => ∃ r : Int, v = .int .i64 r ∧ 0 ≤ r ∧ r ≤ 65535 ∧ (r < n ∨ n ≤ 1 ∧ r = 0) ∧ Src w' a0 (k + 2) ∧ Mod (blkIn a0) w w') := by
  refine Does.of_vc tabok Tryz.func37 rfl rfl rfl (by kernel_rfl) ?_; conv => whnf
  with_reducible refine IfB.dec (fun h1 => ?_) (fun h1 => ?_)
  · conv => whnf
    exact ⟨_, rfl, by omega, by omega, by omega, (h.more (by omega)), Vc.Mod.refl _ _⟩
  · conv => whnf
    refine (spec_next h (by omega)).mono ?_
    rintro _ w7 ⟨r2, rfl, q3, q4, S5, m6⟩
    conv => whnf
    with_reducible refine IfB.dec (fun h8 => ?_) (fun h8 => ?_)
    · conv => whnf
      refine SemK.mul _ rfl (by omega) (by omega) ?_
      conv => whnf
      refine (spec_next S5 (by omega)).mono ?_
      rintro _ w14 ⟨r9, rfl, q10, q11, S12, m13⟩
      conv => whnf
      refine SemK.add _ rfl (by omega) (by omega) ?_
      conv => whnf
      refine SemK.rem (by omega) (by omega) ?_
      conv => whnf
      refine ⟨_, rfl, ?_, ?_, ?_, S12, (m6.trans m13)⟩
      · exact (mod_b (by omega) (by omega)).1
      · have := mod_b (a := r2 * 256 + r9) (n := n) (by omega) (by omega); omega
      · exact .inl (mod_b (by omega) (by omega)).2.1
    · conv => whnf
      refine SemK.rem (by omega) (by omega) ?_
      conv => whnf
      refine ⟨_, rfl, ?_, ?_, ?_, (S5.more (by omega)), m6⟩
      · exact (mod_b (by omega) (by omega)).1
      · have := mod_b (a := r2) (n := n) (by omega) (by omega); omega
      · exact .inl (mod_b (by omega) (by omega)).2.1
theorem spec_one {w : World} {a0 : Option Addr} {k : Nat} (h : Src w a0 k) (hk : k ≤ 100000000) {n : Int} (hn : n ≤ 1000000) :
    Does Tryz.prog 44 [.pointer a0, .int .i64 n] w (fun v w' => ∃ r : Bool, v = .bool r ∧ Src w' a0 (k + 2) ∧ Mod (blkIn a0) w w') := by
  refine Does.of_vc tabok Tryz.func44 rfl rfl rfl (by kernel_rfl) ?_; conv => whnf
  refine (spec_pick h hk hn).mono ?_
  rintro _ w7 ⟨r1, rfl, q2, q3, q4, S5, m6⟩
  conv => whnf
  exact ⟨_, rfl, S5, m6⟩
theorem spec_among {w : World} {a0 : Option Addr} {k : Nat} (h : Src w a0 k) (hk : k ≤ 100000000) {a : Option Addr} {n c : Nat} {xs : List Int} (hA : Arr eI 1 w a n xs) (hap : Apart a0 a) (h0 : 0 < n) (h1 : n ≤ 1000000) :
    Does Tryz.prog 38 [.pointer a0, .slice a n c] w (fun v w' => ∃ r : Int, v = .int .i64 r ∧ r ∈ xs ∧ Src w' a0 (k + 2) ∧ Mod (blkIn a0) w w') := by
  have hn := hA.len
  have hm := hA.le
  refine Does.of_vc tabok Tryz.func38 rfl rfl rfl (by kernel_rfl) ?_; conv => whnf
  refine (spec_pick h hk (by omega)).mono ?_
  rintro _ w8 ⟨r2, rfl, q3, q4, q5, S6, m7⟩
  conv => whnf
  obtain ⟨x9, hx9⟩ : ∃ x, xs[(r2).toNat]? = some x := get_of_lt (by omega)
  refine SemK.index (by kernel_rfl) (hA.mod m7 hap) (r2).toNat (by omega) hx9 ?_
  intro b10 o10 _ hb10
  conv => whnf
  refine SemK.load0 (by kernel_rfl) hb10 rfl ?_
  conv => whnf
  refine ⟨_, rfl, ?_, S6, m7⟩
  · exact List.mem_of_getElem? hx9
theorem spec_text {w : World} {a0 : Option Addr} {k : Nat} (h : Src w a0 k) (hk : k ≤ 100000000) {a : Option Addr} {n c : Nat} {xs : List ByteArray} (hA : Arr eS 1 w a n xs) (hap : Apart a0 a) (h0 : 0 < n) (h1 : n ≤ 1000000) :
    Does Tryz.prog 46 [.pointer a0, .slice a n c] w (fun v w' => ∃ r : ByteArray, v = .string r ∧ r ∈ xs ∧ Src w' a0 (k + 2) ∧ Mod (blkIn a0) w w') := by
  have hn := hA.len
  have hm := hA.le
  refine Does.of_vc tabok Tryz.func46 rfl rfl rfl (by kernel_rfl) ?_; conv => whnf
  refine (spec_pick h hk (by omega)).mono ?_
  rintro _ w8 ⟨r2, rfl, q3, q4, q5, S6, m7⟩
  conv => whnf
  obtain ⟨x9, hx9⟩ : ∃ x, xs[(r2).toNat]? = some x := get_of_lt (by omega)
  refine SemK.index (by kernel_rfl) (hA.mod m7 hap) (r2).toNat (by omega) hx9 ?_
  intro b10 o10 _ hb10
  conv => whnf
  refine SemK.load0 (by kernel_rfl) hb10 rfl ?_
  conv => whnf
  refine ⟨_, rfl, ?_, S6, m7⟩
  · exact List.mem_of_getElem? hx9
end Go.Proofs.YtfgbijddjoojbaaGreat
