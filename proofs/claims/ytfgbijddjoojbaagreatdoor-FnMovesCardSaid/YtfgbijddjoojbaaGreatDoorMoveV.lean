/- Contracts of functions of the given program, of the reference and of the laws: each says what a call returns, for all arguments that meet the premises that the theorem itself names. -/
import Derived.Test.YtfgbijddjoojbaaGreatDoorMoveW
import Derived.Test.YtfgbijddjoojbaaGreatDoorCardW
import Derived.Test.YtfgbijddjoojbaaGreatDoorParts
import Derived.Test.YtfgbijddjoojbaaGreatDoorVcTied
import Derived.Test.YtfgbijddjoojbaaGreatDoorVcApp
import Derived.Test.YtfgbijddjoojbaaGreatDoorVcWrite
import Derived.Shelf.Strings.Trim
namespace Go.Proofs.YtfgbijddjoojbaaGreatDoor
open Go Go.RowKit Go.Vc Go.M Go.Shelf Go.Proofs
def lay_TrimRight_ren : Go.Shelf.Ren := ⟨fun | 162 => 134 | 232 => 182 | 227 => 183 | 234 => 184 | 236 => 185 | 228 => 208 | 271 => 209 | 151 => 210 | 120 => 232 | 197 => 218 | 152 => 233 | 260 => 239 | 137 => 251 | 119 => 252 | 224 => 242 | 225 => 241 | 217 => 240 | 266 => 255 | n => n, fun | 9 => 9 | 4 => 4 | 3 => 3 | 5 => 5 | 117 => 205 | 116 => 204 | 0 => 0 | 124 => 208 | 21 => 21 | 105 => 222 | 46 => 193 | 119 => 262 | 139 => 265 | 138 => 264 | n => n, fun | 3 => 4 | 4 => 5 | n => n⟩
theorem lay_TrimRight : Go.Proofs.Lays.n162 Tryz.prog lay_TrimRight_ren := {
  mixed := by kernel_rfl
  f119 := Tryz.func252.trans (congrArg some (by kernel_rfl))
  f120 := Tryz.func232.trans (congrArg some (by kernel_rfl))
  f137 := Tryz.func251.trans (congrArg some (by kernel_rfl))
  f151 := Tryz.func210.trans (congrArg some (by kernel_rfl))
  f152 := Tryz.func233.trans (congrArg some (by kernel_rfl))
  f162 := Tryz.func134.trans (congrArg some (by kernel_rfl))
  f197 := Tryz.func218.trans (congrArg some (by kernel_rfl))
  f217 := Tryz.func240.trans (congrArg some (by kernel_rfl))
  f224 := Tryz.func242.trans (congrArg some (by kernel_rfl))
  f225 := Tryz.func241.trans (congrArg some (by kernel_rfl))
  f227 := Tryz.func183.trans (congrArg some (by kernel_rfl))
  f228 := Tryz.func208.trans (congrArg some (by kernel_rfl))
  f232 := Tryz.func182.trans (congrArg some (by kernel_rfl))
  f234 := Tryz.func184.trans (congrArg some (by kernel_rfl))
  f236 := Tryz.func185.trans (congrArg some (by kernel_rfl))
  f260 := Tryz.func239.trans (congrArg some (by kernel_rfl))
  f266 := Tryz.func255.trans (congrArg some (by kernel_rfl))
  f271 := Tryz.func209.trans (congrArg some (by kernel_rfl))
  t0 := Tryz.underlying0
  a0 := Tryz.isAgg0
  z0 := Tryz.sizeOf0
  v0 := Tryz.zeroValue0
  t3 := Tryz.underlying3
  a3 := Tryz.isAgg3
  z3 := Tryz.sizeOf3
  v3 := Tryz.zeroValue3
  t4 := Tryz.underlying4
  a4 := Tryz.isAgg4
  z4 := Tryz.sizeOf4
  v4 := Tryz.zeroValue4
  t5 := Tryz.underlying5
  a5 := Tryz.isAgg5
  z5 := Tryz.sizeOf5
  v5 := Tryz.zeroValue5
  t9 := Tryz.underlying9
  a9 := Tryz.isAgg9
  z9 := Tryz.sizeOf9
  v9 := Tryz.zeroValue9
  t21 := Tryz.underlying21
  a21 := Tryz.isAgg21
  z21 := Tryz.sizeOf21
  v21 := Tryz.zeroValue21
  t46 := Tryz.underlying193
  a46 := Tryz.isAgg193
  z46 := Tryz.sizeOf193
  v46 := Tryz.zeroValue193
  t105 := Tryz.underlying222
  a105 := Tryz.isAgg222
  z105 := Tryz.sizeOf222
  v105 := Tryz.zeroValue222
  t116 := Tryz.underlying204
  a116 := Tryz.isAgg204
  z116 := Tryz.sizeOf204
  t117 := Tryz.underlying205
  a117 := Tryz.isAgg205
  z117 := Tryz.sizeOf205
  v117 := Tryz.zeroValue205
  t119 := Tryz.underlying262
  a119 := Tryz.isAgg262
  z119 := Tryz.sizeOf262
  t124 := Tryz.underlying208
  a124 := Tryz.isAgg208
  z124 := Tryz.sizeOf208
  v124 := Tryz.zeroValue208
  t138 := Tryz.underlying264
  a138 := Tryz.isAgg264
  z138 := Tryz.sizeOf264
  v138 := Tryz.zeroValue264
  t139 := Tryz.underlying265
  a139 := Tryz.isAgg265
  z139 := Tryz.sizeOf265
  v139 := Tryz.zeroValue265
  g3 := by kernel_rfl
  g4 := by kernel_rfl }
theorem lib_TrimRight {s : ByteArray} (hs : s.size ≤ 1048576) (w : World) : Does Tryz.prog 134 [.string s, .string ⟨#[32]⟩] w (fun v w' => v = .string (trimB s) ∧ w = w') := by
  have h : Calls Tryz.prog 134 #[.string s, .string ⟨#[32]⟩] w fun e w' => e = .returned (.string ⟨(Lib.trimRightB s.data.toList 32).toArray⟩) ∧ w' = w :=
    Any.strings_TrimRight_one lay_TrimRight s 32 (by decide) w (by omega)
  refine Does.of_calls (by kernel_rfl) (h.mono ?_)
  rintro _ _ ⟨rfl, rfl⟩
  refine ⟨_, rfl, ?_, rfl⟩
  congr 1
theorem impl_capital {s : ByteArray} (hs : s.size ≤ 1000) (w : World) : Does Tryz.prog 80 [.string s] w (fun v w' => v = .string (upB s) ∧ Ext w w') := by
  refine Does.of_vc tabok Tryz.func80 rfl rfl rfl (by kernel_rfl) ?_; conv => whnf
  have hsz : s.data.toList.length = s.size := by simp
  refine SemK.toBytesE (by kernel_rfl) Tryz.underlying22 Tryz.underlying5 ?_
  intro b1 c1 w1 g1 l1 e1 E1
  conv => whnf
  refine LoopK.rule [3, 8, 9, 10] (fun (k : Nat) vs w' => vs = [.slice (some ⟨b1, 0, none⟩) s.size c1, .slice (some ⟨b1, 0, none⟩) s.size c1, .int .i64 s.size, .int .i64 k] ∧ k ≤ s.size ∧ Edit w' b1 (upTo k s.data.toList) ∧ Mod (fun i => i = b1) w1 w') (fun k => s.size - k) tab tabok (by kernel_rfl) 0 ⟨rfl, by omega, by rw [upTo_zero]; exact E1, Mod.refl _ _⟩ ?_
  rintro k g _ w2 ⟨rfl, hk, E2, M2⟩
  have A2 := E2.arr (n := s.size) (by rw [upTo_length]; exact hsz) (by omega)
  rcases Nat.lt_or_ge k s.size with hkn | hkn
  · obtain ⟨x, hx⟩ := get_of_lt (l := s.data.toList) (k := k) (by omega)
    have hx2 := upTo_get hx
    cases hz : smallN x.toNat
    · have hu := upTo_same hx hz
      conv => whnf
      refine IfB.yes (by omega) ?_
      conv => whnf
      refine SemK.index (by kernel_rfl) A2 k rfl hx2 ?_
      rintro b4 o4 ⟨⟩ hb4
      conv => whnf
      refine SemK.load0 (by kernel_rfl) hb4 rfl ?_
      conv => whnf
      refine (impl_isSmall _ _).mono ?_
      rintro _ _ ⟨rfl, rfl⟩
      conv => whnf
      refine IfB.eqf (by simp [*]; done) ?_
      conv => whnf
      refine SemK.add (((k + 1 : Nat) : Int)) (by omega) (by omega) (by omega) ?_
      conv => whnf
      refine ⟨k + 1, by omega, rfl, by omega, by simp only [*], ?_⟩
      · exact M2
    · obtain ⟨hu1, hu2, hu3⟩ := upC_small hz
      conv => whnf
      refine IfB.yes (by omega) ?_
      conv => whnf
      refine SemK.index (by kernel_rfl) A2 k rfl hx2 ?_
      rintro b5 o5 ⟨⟩ hb5
      conv => whnf
      refine SemK.load0 (by kernel_rfl) hb5 rfl ?_
      conv => whnf
      refine (impl_isSmall _ _).mono ?_
      rintro _ _ ⟨rfl, rfl⟩
      conv => whnf
      refine IfB.eqt (by simp [*]; done) ?_
      conv => whnf
      refine SemK.wsub ?_
      conv => whnf
      refine SemK.wadd ?_
      conv => whnf
      refine SemK.index (by kernel_rfl) A2 k rfl hx2 ?_
      rintro b8 o8 ⟨⟩ hb8
      conv => whnf
      refine SemK.storeE' (by kernel_rfl) E2 (by rw [upTo_length]; omega) (upC x) (by simp only [IntKind.wrap_u8']; omega) ?_
      intro w3 c3 E3
      rw [upTo_succ hx] at E3
      conv => whnf
      refine SemK.add (((k + 1 : Nat) : Int)) (by omega) (by omega) (by omega) ?_
      conv => whnf
      exact ⟨k + 1, by omega, rfl, by omega, E3, Mod.trans M2 c3.but⟩
  · conv => whnf
    refine IfB.no (by omega) ?_
    conv => whnf
    rw [upTo_all (by omega)] at E2
    refine SemK.toStr (by kernel_rfl) (by kernel_rfl) E2.cells (by simp [upL]) ?_
    conv => whnf
    exact ⟨rfl, Ext.but_trans e1 M2 g1⟩
theorem spec_l23Upper {s : ByteArray} (hs : s.size ≤ 1000) (w : World) : Does Tryz.prog 86 [.string s] w (fun v w' => v = .string (upB s) ∧ Ext w w') := by
  refine Does.of_vc tabok Tryz.func86 rfl rfl rfl (by kernel_rfl) ?_; conv => whnf
  have hsz : s.data.toList.length = s.size := by simp
  refine SemK.toBytesE (by kernel_rfl) Tryz.underlying22 Tryz.underlying5 ?_
  intro b1 c1 w1 g1 l1 e1 E1
  conv => whnf
  refine LoopK.rule [3, 4] (fun (k : Nat) vs w' => vs = [.slice (some ⟨b1, 0, none⟩) s.size c1, .int .i64 k] ∧ k ≤ s.size ∧ Edit w' b1 (upTo k s.data.toList) ∧ Mod (fun i => i = b1) w1 w') (fun k => s.size - k) tab tabok (by kernel_rfl) 0 ⟨rfl, by omega, by rw [upTo_zero]; exact E1, Mod.refl _ _⟩ ?_
  rintro k g _ w2 ⟨rfl, hk, E2, M2⟩
  have A2 := E2.arr (n := s.size) (by rw [upTo_length]; exact hsz) (by omega)
  rcases Nat.lt_or_ge k s.size with hkn | hkn
  · obtain ⟨x, hx⟩ := get_of_lt (l := s.data.toList) (k := k) (by omega)
    have hx2 := upTo_get hx
    cases hz : smallN x.toNat
    · have hu := upTo_same hx hz
      conv => whnf
      refine IfB.yes (by omega) ?_
      conv => whnf
      refine SemK.index (by kernel_rfl) A2 k rfl hx2 ?_
      rintro b4 o4 ⟨⟩ hb4
      conv => whnf
      refine SemK.load0 (by kernel_rfl) hb4 rfl ?_
      conv => whnf
      refine (spec_small _ _).mono ?_
      rintro _ _ ⟨rfl, rfl⟩
      conv => whnf
      refine IfB.eqf (by simp [*]; done) ?_
      conv => whnf
      refine SemK.add (((k + 1 : Nat) : Int)) (by omega) (by omega) (by omega) ?_
      conv => whnf
      refine ⟨k + 1, by omega, rfl, by omega, by simp only [*], ?_⟩
      · exact M2
    · obtain ⟨hu1, hu2, hu3⟩ := upC_small hz
      conv => whnf
      refine IfB.yes (by omega) ?_
      conv => whnf
      refine SemK.index (by kernel_rfl) A2 k rfl hx2 ?_
      rintro b5 o5 ⟨⟩ hb5
      conv => whnf
      refine SemK.load0 (by kernel_rfl) hb5 rfl ?_
      conv => whnf
      refine (spec_small _ _).mono ?_
      rintro _ _ ⟨rfl, rfl⟩
      conv => whnf
      refine IfB.eqt (by simp [*]; done) ?_
      conv => whnf
      refine SemK.index (by kernel_rfl) A2 k rfl hx2 ?_
      rintro b8 o8 ⟨⟩ hb8
      conv => whnf
      refine SemK.load0 (by kernel_rfl) hb8 rfl ?_
      conv => whnf
      refine SemK.wsub ?_
      conv => whnf
      refine SemK.index (by kernel_rfl) A2 k rfl hx2 ?_
      rintro b10 o10 ⟨⟩ hb10
      conv => whnf
      refine SemK.storeE' (by kernel_rfl) E2 (by rw [upTo_length]; omega) (upC x) (by simp only [IntKind.wrap_u8']; omega) ?_
      intro w3 c3 E3
      rw [upTo_succ hx] at E3
      conv => whnf
      refine SemK.add (((k + 1 : Nat) : Int)) (by omega) (by omega) (by omega) ?_
      conv => whnf
      exact ⟨k + 1, by omega, rfl, by omega, E3, Mod.trans M2 c3.but⟩
  · conv => whnf
    refine IfB.no (by omega) ?_
    conv => whnf
    rw [upTo_all (by omega)] at E2
    refine SemK.toStr (by kernel_rfl) (by kernel_rfl) E2.cells (by simp [upL]) ?_
    conv => whnf
    exact ⟨rfl, Ext.but_trans e1 M2 g1⟩
theorem impl_layoutCode {w : World} {a a' : Option Addr} {n c n' c' : Nat} {wd : Int} {xs : List TItem} {d : List (List Int)} (h : Arr TItem.enc 4 w a n xs) (hnc : n ≤ c) (hok : ∀ x ∈ xs, x.ok) (h' : ArrS RCard w a' n' d) (b : Bool) : Does Tryz.prog 73 [.agg #[.int .i64 wd, .slice a n c], .slice a' n' c', .bool b] w (fun v w' => v = .int .i64 (layCodeM wd xs d b) ∧ Ext w w') := by
  have hn' := h'.len
  have hS' := h'
  obtain ⟨hs, hV, hE⟩ := hS'
  have hl := hV.len
  have hW : ¬ d = [] → ∃ x, d[0]? = some x ∧ x.length = widthOf d := fun h => by cases d with | nil => exact absurd rfl h | cons x _ => exact ⟨x, rfl, rfl⟩
  unfold layCodeM
  refine Does.of_vc tabok Tryz.func73 rfl rfl rfl (by kernel_rfl) ?_; conv => whnf
  refine SemK.box ?_
  intro b1 w1 g1 l1 e1 B1
  conv => whnf
  refine SemK.loadAgg (n := 2) (by kernel_rfl) B1.cells rfl ?_
  conv => whnf
  refine (impl_ValidLayout (h.ext e1) hnc hok).mono ?_
  rintro _ w3 ⟨rfl, e2⟩
  conv => whnf
  with_reducible refine IfB.nsplit (fun h4 => ?_) (fun h4 => ?_)
  · conv => whnf
    exact ⟨by simp [*], (Ext.trans e1 e2)⟩
  · conv => whnf
    with_reducible refine IfB.nsplit (fun h5 => ?_) (fun h5 => ?_)
    · conv => whnf
      exact ⟨by simp [*], (Ext.trans e1 e2)⟩
    · conv => whnf
      refine DrawK.held tabok mixed [(0, true), (1, true), (2, true), (3, true), (4, false), (5, false), (6, false), (8, false), (9, false), (7, true), (10, true), (11, true), (12, true)] (by kernel_rfl) (by kernel_rfl) ?_
      conv => whnf
      intro w6 e6
      conv => whnf
      refine ⟨e6, ?_⟩
      conv => whnf
      with_reducible refine IfB.dec (fun h7 => ?_) (fun h7 => ?_)
      · conv => whnf
        obtain ⟨x8, hx8⟩ : ∃ x, hs[0]? = some x := get_of_lt (by omega)
        obtain ⟨y8, hy8, R8⟩ := hE.get hx8
        have A8 := R8.1
        have n8 := R8.2
        refine DSemK.index (by kernel_rfl) (hV.ext (Ext.trans e1 e2)) 0 rfl hx8 ?_
        intro b9 o9 ha9 hb9
        conv => whnf
        refine DSemK.loadAgg (n := 1) (by kernel_rfl) hb9 rfl ?_
        conv => whnf
        refine DSemK.load1 (by kernel_rfl) (B1.ext e2).cells (k := 0) rfl ?_
        conv => whnf
        refine (impl_columns _).mono ?_
        rintro _ w11 ⟨rfl, e10⟩
        conv => whnf
        refine ⟨(Ext.trans e6 e10), ?_⟩
        conv => whnf
        with_reducible refine IfB.ndec (fun h12 => ?_) (fun h12 => ?_)
        · conv => whnf
          refine ⟨?_, (Ext.trans (Ext.trans (Ext.trans e1 e2) e6) e10)⟩
          · have hf := width_first hy8
            have hl8 := A8.len
            congr 1
            rw [if_neg (by simp [*]), if_pos ⟨hf.1, by omega⟩]
          -- xs = false ∨ b = false then 1 else if ¬d = [] ∧ ¬↑(widthOf d) = wd then 2 else 0)
        · conv => whnf
          refine ⟨?_, (Ext.trans (Ext.trans (Ext.trans e1 e2) e6) e10)⟩
          · have hf := width_first hy8
            have hl8 := A8.len
            congr 1
            rw [if_neg (by simp [*]), if_neg (fun h => h.2 (by omega))]
          -- xs = false ∨ b = false then 1 else if ¬d = [] ∧ ¬↑(widthOf d) = wd then 2 else 0)
      · conv => whnf
        exact ⟨by simp_all, (Ext.trans (Ext.trans e1 e2) e6)⟩
theorem impl_twoItems {w : World} {a : Option Addr} {n c : Nat} {wd : Int} {xs : List TItem} (h : Arr TItem.enc 4 w a n xs) (s t : ByteArray) : Does Tryz.prog 75 [.agg #[.int .i64 wd, .slice a n c], .string s, .string t] w (fun v w' => v = .tuple #[.agg ⟨(twoM xs s t).1.enc⟩, .agg ⟨(twoM xs s t).2.1.enc⟩, .int .i64 (twoM xs s t).2.2] ∧ Ext w w') := by
  have hn := h.len
  have hI := fun u (e : Ext w u) v => impl_itemIndex (h.ext e) (c := c) (wd := wd) v
  by_cases hneg : itemIx xs s < 0 ∨ itemIx xs t < 0
  · rw [two_none hneg]
    rcases hneg with hneg | hneg
    · refine Does.of_vc tabok Tryz.func75 rfl rfl rfl (by kernel_rfl) ?_; conv => whnf
      refine SemK.box ?_
      intro b1 w1 g1 l1 e1 B1
      conv => whnf
      refine SemK.alloc (z := .agg #[.string { data := #[] }, .int .i64 0, .int .i64 0, .int .i64 0]) (by kernel_rfl) ?_
      intro b2 w2 g2 l2 e2 B2
      conv => whnf
      refine SemK.alloc (z := .agg #[.string { data := #[] }, .int .i64 0, .int .i64 0, .int .i64 0]) (by kernel_rfl) ?_
      intro b3 w3 g3 l3 e3 B3
      conv => whnf
      refine DrawK.held tabok mixed [(0, false), (1, false), (3, false), (4, false), (2, true), (5, true), (6, true), (7, true)] (by kernel_rfl) (by kernel_rfl) ?_
      conv => whnf
      intro w4 e4
      conv => whnf
      refine DSemK.loadAgg (n := 2) (by kernel_rfl) (B1.ext (Ext.trans e2 e3)).cells rfl ?_
      conv => whnf
      refine DSemK.loadAgg (n := 2) (by kernel_rfl) (B1.ext (Ext.trans e2 e3)).cells rfl ?_
      conv => whnf
      refine (hI _ (Ext.trans (Ext.trans (Ext.trans e1 e2) e3) e4) _).mono ?_
      rintro _ w6 ⟨rfl, e5⟩
      conv => whnf
      refine ⟨(Ext.trans e4 e5), ?_⟩
      conv => whnf
      refine (hI _ (Ext.trans (Ext.trans (Ext.trans (Ext.trans e1 e2) e3) e4) e5) _).mono ?_
      rintro _ w8 ⟨rfl, e7⟩
      conv => whnf
      refine ⟨(Ext.trans (Ext.trans e4 e5) e7), ?_⟩
      conv => whnf
      refine IfB.yes (by omega) ?_
      conv => whnf
      refine SemK.build st_111 rfl ?_
      conv => whnf
      refine SemK.build st_111 rfl ?_
      conv => whnf
      refine SemK.storeAll (by kernel_rfl) (B2.ext (Ext.trans (Ext.trans (Ext.trans e3 e4) e5) e7)) (vs := [Value.string { data := #[] }, Value.int IntKind.i64 0, Value.int IntKind.i64 0, Value.int IntKind.i64 0]) rfl rfl (by simp [List.cons, cellish]) ?_
      intro w9 c9 B9
      conv => whnf
      refine SemK.storeAll (by kernel_rfl) ((B3.ext (Ext.trans (Ext.trans e4 e5) e7)).mod c9.but (neChg' g3 l2 (Nat.le_refl _))) (vs := [Value.string { data := #[] }, Value.int IntKind.i64 0, Value.int IntKind.i64 0, Value.int IntKind.i64 0]) rfl rfl (by simp [List.cons, cellish]) ?_
      intro w10 c10 B10
      conv => whnf
      refine CellK.of (run_loadAgg (n := 4) (by kernel_rfl) rfl (B9.mod c10.but (neChg l2 g3 (Nat.le_refl _))).cells) ?_
      conv => whnf
      refine CellK.of (run_loadAgg (n := 4) (by kernel_rfl) rfl B10.cells) ?_
      conv => whnf
      exact ⟨rfl, (Ext.but_trans (Ext.but_trans (Ext.trans (Ext.trans (Ext.trans (Ext.trans (Ext.trans e1 e2) e3) e4) e5) e7) c9.but (Nat.le_trans (Below.size e1) g2)) c10.but (Nat.le_trans (Below.size (Ext.trans e1 e2)) g3))⟩
    · refine Does.of_vc tabok Tryz.func75 rfl rfl rfl (by kernel_rfl) ?_; conv => whnf
      refine SemK.box ?_
      intro b1 w1 g1 l1 e1 B1
      conv => whnf
      refine SemK.alloc (z := .agg #[.string { data := #[] }, .int .i64 0, .int .i64 0, .int .i64 0]) (by kernel_rfl) ?_
      intro b2 w2 g2 l2 e2 B2
      conv => whnf
      refine SemK.alloc (z := .agg #[.string { data := #[] }, .int .i64 0, .int .i64 0, .int .i64 0]) (by kernel_rfl) ?_
      intro b3 w3 g3 l3 e3 B3
      conv => whnf
      refine DrawK.held tabok mixed [(0, false), (1, false), (3, false), (4, false), (2, true), (5, true), (6, true), (7, true)] (by kernel_rfl) (by kernel_rfl) ?_
      conv => whnf
      intro w4 e4
      conv => whnf
      refine DSemK.loadAgg (n := 2) (by kernel_rfl) (B1.ext (Ext.trans e2 e3)).cells rfl ?_
      conv => whnf
      refine DSemK.loadAgg (n := 2) (by kernel_rfl) (B1.ext (Ext.trans e2 e3)).cells rfl ?_
      conv => whnf
      refine (hI _ (Ext.trans (Ext.trans (Ext.trans e1 e2) e3) e4) _).mono ?_
      rintro _ w6 ⟨rfl, e5⟩
      conv => whnf
      refine ⟨(Ext.trans e4 e5), ?_⟩
      conv => whnf
      refine (hI _ (Ext.trans (Ext.trans (Ext.trans (Ext.trans e1 e2) e3) e4) e5) _).mono ?_
      rintro _ w8 ⟨rfl, e7⟩
      conv => whnf
      refine ⟨(Ext.trans (Ext.trans e4 e5) e7), ?_⟩
      conv => whnf
      with_reducible refine IfB.dec (fun h9 => ?_) (fun h9 => ?_)
      · conv => whnf
        refine SemK.build st_111 rfl ?_
        conv => whnf
        refine SemK.build st_111 rfl ?_
        conv => whnf
        refine SemK.storeAll (by kernel_rfl) (B2.ext (Ext.trans (Ext.trans (Ext.trans e3 e4) e5) e7)) (vs := [Value.string { data := #[] }, Value.int IntKind.i64 0, Value.int IntKind.i64 0, Value.int IntKind.i64 0]) rfl rfl (by simp [List.cons, cellish]) ?_
        intro w10 c10 B10
        conv => whnf
        refine SemK.storeAll (by kernel_rfl) ((B3.ext (Ext.trans (Ext.trans e4 e5) e7)).mod c10.but (neChg' g3 l2 (Nat.le_refl _))) (vs := [Value.string { data := #[] }, Value.int IntKind.i64 0, Value.int IntKind.i64 0, Value.int IntKind.i64 0]) rfl rfl (by simp [List.cons, cellish]) ?_
        intro w11 c11 B11
        conv => whnf
        refine CellK.of (run_loadAgg (n := 4) (by kernel_rfl) rfl (B10.mod c11.but (neChg l2 g3 (Nat.le_refl _))).cells) ?_
        conv => whnf
        refine CellK.of (run_loadAgg (n := 4) (by kernel_rfl) rfl B11.cells) ?_
        conv => whnf
        exact ⟨rfl, (Ext.but_trans (Ext.but_trans (Ext.trans (Ext.trans (Ext.trans (Ext.trans (Ext.trans e1 e2) e3) e4) e5) e7) c10.but (Nat.le_trans (Below.size e1) g2)) c11.but (Nat.le_trans (Below.size (Ext.trans e1 e2)) g3))⟩
      · conv => whnf
        refine IfB.yes (by omega) ?_
        conv => whnf
        refine SemK.build st_111 rfl ?_
        conv => whnf
        refine SemK.build st_111 rfl ?_
        conv => whnf
        refine SemK.storeAll (by kernel_rfl) (B2.ext (Ext.trans (Ext.trans (Ext.trans e3 e4) e5) e7)) (vs := [Value.string { data := #[] }, Value.int IntKind.i64 0, Value.int IntKind.i64 0, Value.int IntKind.i64 0]) rfl rfl (by simp [List.cons, cellish]) ?_
        intro w12 c12 B12
        conv => whnf
        refine SemK.storeAll (by kernel_rfl) ((B3.ext (Ext.trans (Ext.trans e4 e5) e7)).mod c12.but (neChg' g3 l2 (Nat.le_refl _))) (vs := [Value.string { data := #[] }, Value.int IntKind.i64 0, Value.int IntKind.i64 0, Value.int IntKind.i64 0]) rfl rfl (by simp [List.cons, cellish]) ?_
        intro w13 c13 B13
        conv => whnf
        refine CellK.of (run_loadAgg (n := 4) (by kernel_rfl) rfl (B12.mod c13.but (neChg l2 g3 (Nat.le_refl _))).cells) ?_
        conv => whnf
        refine CellK.of (run_loadAgg (n := 4) (by kernel_rfl) rfl B13.cells) ?_
        conv => whnf
        exact ⟨rfl, (Ext.but_trans (Ext.but_trans (Ext.trans (Ext.trans (Ext.trans (Ext.trans (Ext.trans e1 e2) e3) e4) e5) e7) c12.but (Nat.le_trans (Below.size e1) g2)) c13.but (Nat.le_trans (Below.size (Ext.trans e1 e2)) g3))⟩
  · obtain ⟨k, p, hk, hp⟩ := itemIx_get (xs := xs) (s := s) (by omega)
    obtain ⟨m, q, hm, hq⟩ := itemIx_get (xs := xs) (s := t) (by omega)
    rw [two_some hk hm hp hq]
    have hkn := (List.getElem?_eq_some_iff.1 hp).1
    have hmn := (List.getElem?_eq_some_iff.1 hq).1
    have hIs := fun u (e : Ext w u) => impl_itemIndex (h.ext e) (c := c) (wd := wd) s
    have hIt := fun u (e : Ext w u) => impl_itemIndex (h.ext e) (c := c) (wd := wd) t
    simp only [hk] at hIs
    simp only [hm] at hIt
    clear hI
    by_cases hp1 : p.kind = 1
    · by_cases hq2 : q.kind = 2
      · rw [if_neg (by simp [hp1, hq2])]
        refine Does.of_vc tabok Tryz.func75 rfl rfl rfl (by kernel_rfl) ?_; conv => whnf
        refine SemK.box ?_
        intro b3 w3 g3 l3 e3 B3
        conv => whnf
        refine SemK.alloc (z := .agg #[.string { data := #[] }, .int .i64 0, .int .i64 0, .int .i64 0]) (by kernel_rfl) ?_
        intro b4 w4 g4 l4 e4 B4
        conv => whnf
        refine SemK.alloc (z := .agg #[.string { data := #[] }, .int .i64 0, .int .i64 0, .int .i64 0]) (by kernel_rfl) ?_
        intro b5 w5 g5 l5 e5 B5
        conv => whnf
        refine DrawK.held tabok mixed [(0, false), (1, false), (3, false), (4, false), (2, true), (5, true), (6, true), (7, true)] (by kernel_rfl) (by kernel_rfl) ?_
        conv => whnf
        intro w6 e6
        conv => whnf
        refine DSemK.loadAgg (n := 2) (by kernel_rfl) (B3.ext (Ext.trans e4 e5)).cells rfl ?_
        conv => whnf
        refine DSemK.loadAgg (n := 2) (by kernel_rfl) (B3.ext (Ext.trans e4 e5)).cells rfl ?_
        conv => whnf
        refine (hIs _ (Ext.trans (Ext.trans (Ext.trans e3 e4) e5) e6)).mono ?_
        rintro _ w8 ⟨rfl, e7⟩
        conv => whnf
        refine ⟨(Ext.trans e6 e7), ?_⟩
        conv => whnf
        refine (hIt _ (Ext.trans (Ext.trans (Ext.trans (Ext.trans e3 e4) e5) e6) e7)).mono ?_
        rintro _ w10 ⟨rfl, e9⟩
        conv => whnf
        refine ⟨(Ext.trans (Ext.trans e6 e7) e9), ?_⟩
        conv => whnf
        refine SemK.load1 (by kernel_rfl) (B3.ext (Ext.trans (Ext.trans (Ext.trans (Ext.trans e4 e5) e6) e7) e9)).cells (k := 1) rfl ?_
        conv => whnf
        refine SemK.index (by kernel_rfl) (h.ext (Ext.trans (Ext.trans (Ext.trans (Ext.trans (Ext.trans e3 e4) e5) e6) e7) e9)) k rfl hp ?_
        intro b12 o12 ha12 hb12
        conv => whnf
        refine SemK.load1 (by kernel_rfl) hb12 (k := 1) rfl ?_
        conv => whnf
        refine IfB.eqf (by simp [*]; done) ?_
        conv => whnf
        refine SemK.load1 (by kernel_rfl) (B3.ext (Ext.trans (Ext.trans (Ext.trans (Ext.trans e4 e5) e6) e7) e9)).cells (k := 1) rfl ?_
        conv => whnf
        refine SemK.index (by kernel_rfl) (h.ext (Ext.trans (Ext.trans (Ext.trans (Ext.trans (Ext.trans e3 e4) e5) e6) e7) e9)) m rfl hq ?_
        intro b14 o14 ha14 hb14
        conv => whnf
        refine SemK.load1 (by kernel_rfl) hb14 (k := 1) rfl ?_
        conv => whnf
        refine IfB.eqf (by simp [*]; done) ?_
        conv => whnf
        have hlt : b12 < w.heap.size := by
          obtain ⟨bA, oA, haA, hcA⟩ := h.2.2 k p hp
          rw [ha12] at haA
          cases haA
          exact cell_lt (hcA 0 _ rfl)
        have hz3 := Below.size e3
        have hz4 := Below.size e4
        refine DrawK.apart2 tabok mixed b4 b5 [(0, .any), (2, .any), (5, .any), (7, .any), (1, .held), (3, .any), (4, .held), (6, .held), (8, .any), (9, .held), (10, .run), (11, .run), (12, .any)] (by kernel_rfl) (by kernel_rfl) ?_
        conv => whnf
        intro w15 e15
        conv => whnf
        refine BSemK.load1 (by kernel_rfl) (k := 1) (Bar2.cells (B3.ext (Ext.trans (Ext.trans (Ext.trans (Ext.trans (Ext.trans e4 e5) e6) e7) e9) e15)).cells (by omega) (by omega)) rfl ?_
        conv => whnf
        refine PSemK.index (by kernel_rfl) (h.ext (Ext.trans e3 (Ext.trans (Ext.trans (Ext.trans (Ext.trans (Ext.trans e4 e5) e6) e7) e9) e15))) k rfl hp ?_
        rintro b16 o16 ha16 hb16
        obtain rfl : b16 = b12 := by rw [ha12] at ha16; cases ha16; rfl
        conv => whnf
        refine BSemK.loadAgg (n := 4) (by kernel_rfl) (Bar2.cells hb16 (by omega) (by omega)) rfl ?_
        conv => whnf
        refine BSemK.load1 (by kernel_rfl) (k := 1) (Bar2.cells (B3.ext (Ext.trans (Ext.trans (Ext.trans (Ext.trans (Ext.trans e4 e5) e6) e7) e9) e15)).cells (by omega) (by omega)) rfl ?_
        conv => whnf
        refine PSemK.index (by kernel_rfl) (h.ext (Ext.trans e3 (Ext.trans (Ext.trans (Ext.trans (Ext.trans (Ext.trans e4 e5) e6) e7) e9) e15))) m rfl hq ?_
        rintro b17 o17 ha17 hb17
        obtain rfl : b17 = b16 := by rw [ha12] at ha17; cases ha17; rfl
        conv => whnf
        refine BSemK.loadAgg (n := 4) (by kernel_rfl) (Bar2.cells hb17 (by omega) (by omega)) rfl ?_
        conv => whnf
        refine SemK.storeAll (vs := p.enc) (by kernel_rfl) (B4.ext (Ext.trans (Ext.trans (Ext.trans (Ext.trans e5 e6) e7) e9) e15)) rfl rfl (by intro v hv; simp only [TItem.enc, List.mem_cons, List.not_mem_nil, or_false] at hv; rcases hv with rfl | rfl | rfl | rfl <;> rfl) ?_
        intro w18 c18 B18
        conv => whnf
        refine ⟨Bar2.chg1 (Bar2.self _ _ _) c18, ?_⟩
        conv => whnf
        refine SemK.storeAll (vs := q.enc) (by kernel_rfl) ((B5.ext (Ext.trans (Ext.trans (Ext.trans e6 e7) e9) e15)).mod c18.but (neChg' g5 l4 (Nat.le_refl _))) rfl rfl (by intro v hv; simp only [TItem.enc, List.mem_cons, List.not_mem_nil, or_false] at hv; rcases hv with rfl | rfl | rfl | rfl <;> rfl) ?_
        intro w19 c19 B19
        conv => whnf
        refine ⟨Bar2.chg2 (Bar2.chg1 (Bar2.self _ _ _) c18) c19, ?_⟩
        conv => whnf
        refine CellK.of (run_loadAgg (n := 4) (by kernel_rfl) rfl (B18.mod c19.but (neChg l4 g5 (Nat.le_refl _))).cells) ?_
        conv => whnf
        refine CellK.of (run_loadAgg (n := 4) (by kernel_rfl) rfl B19.cells) ?_
        conv => whnf
        exact ⟨rfl, Ext.but_trans (Ext.but_trans (Ext.trans e3 (Ext.trans (Ext.trans (Ext.trans (Ext.trans (Ext.trans e4 e5) e6) e7) e9) e15)) c18.but (Nat.le_trans (Below.size e3) g4)) c19.but (Nat.le_trans (Below.size (Ext.trans e3 e4)) g5)⟩
      · rw [if_pos (.inr hq2)]
        refine Does.of_vc tabok Tryz.func75 rfl rfl rfl (by kernel_rfl) ?_; conv => whnf
        refine SemK.box ?_
        intro b3 w3 g3 l3 e3 B3
        conv => whnf
        refine SemK.alloc (z := .agg #[.string { data := #[] }, .int .i64 0, .int .i64 0, .int .i64 0]) (by kernel_rfl) ?_
        intro b4 w4 g4 l4 e4 B4
        conv => whnf
        refine SemK.alloc (z := .agg #[.string { data := #[] }, .int .i64 0, .int .i64 0, .int .i64 0]) (by kernel_rfl) ?_
        intro b5 w5 g5 l5 e5 B5
        conv => whnf
        refine DrawK.held tabok mixed [(0, false), (1, false), (3, false), (4, false), (2, true), (5, true), (6, true), (7, true)] (by kernel_rfl) (by kernel_rfl) ?_
        conv => whnf
        intro w6 e6
        conv => whnf
        refine DSemK.loadAgg (n := 2) (by kernel_rfl) (B3.ext (Ext.trans e4 e5)).cells rfl ?_
        conv => whnf
        refine DSemK.loadAgg (n := 2) (by kernel_rfl) (B3.ext (Ext.trans e4 e5)).cells rfl ?_
        conv => whnf
        refine (hIs _ (Ext.trans (Ext.trans (Ext.trans e3 e4) e5) e6)).mono ?_
        rintro _ w8 ⟨rfl, e7⟩
        conv => whnf
        refine ⟨(Ext.trans e6 e7), ?_⟩
        conv => whnf
        refine (hIt _ (Ext.trans (Ext.trans (Ext.trans (Ext.trans e3 e4) e5) e6) e7)).mono ?_
        rintro _ w10 ⟨rfl, e9⟩
        conv => whnf
        refine ⟨(Ext.trans (Ext.trans e6 e7) e9), ?_⟩
        conv => whnf
        refine SemK.load1 (by kernel_rfl) (B3.ext (Ext.trans (Ext.trans (Ext.trans (Ext.trans e4 e5) e6) e7) e9)).cells (k := 1) rfl ?_
        conv => whnf
        refine SemK.index (by kernel_rfl) (h.ext (Ext.trans (Ext.trans (Ext.trans (Ext.trans (Ext.trans e3 e4) e5) e6) e7) e9)) k rfl hp ?_
        intro b12 o12 ha12 hb12
        conv => whnf
        refine SemK.load1 (by kernel_rfl) hb12 (k := 1) rfl ?_
        conv => whnf
        refine IfB.eqf (by simp [*]; done) ?_
        conv => whnf
        refine SemK.load1 (by kernel_rfl) (B3.ext (Ext.trans (Ext.trans (Ext.trans (Ext.trans e4 e5) e6) e7) e9)).cells (k := 1) rfl ?_
        conv => whnf
        refine SemK.index (by kernel_rfl) (h.ext (Ext.trans (Ext.trans (Ext.trans (Ext.trans (Ext.trans e3 e4) e5) e6) e7) e9)) m rfl hq ?_
        intro b14 o14 ha14 hb14
        conv => whnf
        refine SemK.load1 (by kernel_rfl) hb14 (k := 1) rfl ?_
        conv => whnf
        refine IfB.eqt (by simp [*]; done) ?_
        conv => whnf
        refine SemK.build st_111 rfl ?_
        conv => whnf
        refine SemK.build st_111 rfl ?_
        conv => whnf
        refine SemK.storeAll (by kernel_rfl) (B4.ext (Ext.trans (Ext.trans (Ext.trans e5 e6) e7) e9)) (vs := [Value.string { data := #[] }, Value.int IntKind.i64 0, Value.int IntKind.i64 0, Value.int IntKind.i64 0]) rfl rfl (by simp [List.cons, cellish]) ?_
        intro w15 c15 B15
        conv => whnf
        refine SemK.storeAll (by kernel_rfl) ((B5.ext (Ext.trans (Ext.trans e6 e7) e9)).mod c15.but (neChg' g5 l4 (Nat.le_refl _))) (vs := [Value.string { data := #[] }, Value.int IntKind.i64 0, Value.int IntKind.i64 0, Value.int IntKind.i64 0]) rfl rfl (by simp [List.cons, cellish]) ?_
        intro w16 c16 B16
        conv => whnf
        refine CellK.of (run_loadAgg (n := 4) (by kernel_rfl) rfl (B15.mod c16.but (neChg l4 g5 (Nat.le_refl _))).cells) ?_
        conv => whnf
        refine CellK.of (run_loadAgg (n := 4) (by kernel_rfl) rfl B16.cells) ?_
        conv => whnf
        exact ⟨rfl, (Ext.but_trans (Ext.but_trans (Ext.trans (Ext.trans (Ext.trans (Ext.trans (Ext.trans e3 e4) e5) e6) e7) e9) c15.but (Nat.le_trans (Below.size e3) g4)) c16.but (Nat.le_trans (Below.size (Ext.trans e3 e4)) g5))⟩
    · rw [if_pos (.inl hp1)]
      refine Does.of_vc tabok Tryz.func75 rfl rfl rfl (by kernel_rfl) ?_; conv => whnf
      refine SemK.box ?_
      intro b2 w2 g2 l2 e2 B2
      conv => whnf
      refine SemK.alloc (z := .agg #[.string { data := #[] }, .int .i64 0, .int .i64 0, .int .i64 0]) (by kernel_rfl) ?_
      intro b3 w3 g3 l3 e3 B3
      conv => whnf
      refine SemK.alloc (z := .agg #[.string { data := #[] }, .int .i64 0, .int .i64 0, .int .i64 0]) (by kernel_rfl) ?_
      intro b4 w4 g4 l4 e4 B4
      conv => whnf
      refine DrawK.held tabok mixed [(0, false), (1, false), (3, false), (4, false), (2, true), (5, true), (6, true), (7, true)] (by kernel_rfl) (by kernel_rfl) ?_
      conv => whnf
      intro w5 e5
      conv => whnf
      refine DSemK.loadAgg (n := 2) (by kernel_rfl) (B2.ext (Ext.trans e3 e4)).cells rfl ?_
      conv => whnf
      refine DSemK.loadAgg (n := 2) (by kernel_rfl) (B2.ext (Ext.trans e3 e4)).cells rfl ?_
      conv => whnf
      refine (hIs _ (Ext.trans (Ext.trans (Ext.trans e2 e3) e4) e5)).mono ?_
      rintro _ w7 ⟨rfl, e6⟩
      conv => whnf
      refine ⟨(Ext.trans e5 e6), ?_⟩
      conv => whnf
      refine (hIt _ (Ext.trans (Ext.trans (Ext.trans (Ext.trans e2 e3) e4) e5) e6)).mono ?_
      rintro _ w9 ⟨rfl, e8⟩
      conv => whnf
      refine ⟨(Ext.trans (Ext.trans e5 e6) e8), ?_⟩
      conv => whnf
      refine SemK.load1 (by kernel_rfl) (B2.ext (Ext.trans (Ext.trans (Ext.trans (Ext.trans e3 e4) e5) e6) e8)).cells (k := 1) rfl ?_
      conv => whnf
      refine SemK.index (by kernel_rfl) (h.ext (Ext.trans (Ext.trans (Ext.trans (Ext.trans (Ext.trans e2 e3) e4) e5) e6) e8)) k rfl hp ?_
      intro b11 o11 ha11 hb11
      conv => whnf
      refine SemK.load1 (by kernel_rfl) hb11 (k := 1) rfl ?_
      conv => whnf
      refine IfB.eqt (by simp [*]; done) ?_
      conv => whnf
      refine SemK.build st_111 rfl ?_
      conv => whnf
      refine SemK.build st_111 rfl ?_
      conv => whnf
      refine SemK.storeAll (by kernel_rfl) (B3.ext (Ext.trans (Ext.trans (Ext.trans e4 e5) e6) e8)) (vs := [Value.string { data := #[] }, Value.int IntKind.i64 0, Value.int IntKind.i64 0, Value.int IntKind.i64 0]) rfl rfl (by simp [List.cons, cellish]) ?_
      intro w12 c12 B12
      conv => whnf
      refine SemK.storeAll (by kernel_rfl) ((B4.ext (Ext.trans (Ext.trans e5 e6) e8)).mod c12.but (neChg' g4 l3 (Nat.le_refl _))) (vs := [Value.string { data := #[] }, Value.int IntKind.i64 0, Value.int IntKind.i64 0, Value.int IntKind.i64 0]) rfl rfl (by simp [List.cons, cellish]) ?_
      intro w13 c13 B13
      conv => whnf
      refine CellK.of (run_loadAgg (n := 4) (by kernel_rfl) rfl (B12.mod c13.but (neChg l3 g4 (Nat.le_refl _))).cells) ?_
      conv => whnf
      refine CellK.of (run_loadAgg (n := 4) (by kernel_rfl) rfl B13.cells) ?_
      conv => whnf
      exact ⟨rfl, (Ext.but_trans (Ext.but_trans (Ext.trans (Ext.trans (Ext.trans (Ext.trans (Ext.trans e2 e3) e4) e5) e6) e8) c12.but (Nat.le_trans (Below.size e2) g3)) c13.but (Nat.le_trans (Below.size (Ext.trans e2 e3)) g4))⟩
theorem impl_itemValue {w : World} {d : Hd} {xs : List Int} (R : RCard w d xs) {x : TItem} (hx : x.kind = 1) (hf : fieldB x.fld xs.length = true) (hn : xs.length ≤ 1000) :
    Does Tryz.prog 76 [.agg ⟨x.enc⟩, .agg ⟨eH d⟩] w (fun v w' => ∃ s, v = .tuple #[.string s, .bool (hasB (partOf xs x.fld))] ∧ (hasB (partOf xs x.fld) = true → s = valM x.fld xs) ∧ Ext w w') := by
  obtain ⟨nm, kd, f1, f2⟩ := x
  simp only at hx
  subst hx
  have hsz : (txt (ranks (partOf xs ⟨f1, f2⟩))).size ≤ 1000 := by
    have := partOf_len (f := ⟨f1, f2⟩) hf
    have := fieldB_b (f := ⟨f1, f2⟩) hf
    simp [txt, ranks, bs, ByteArray.size]
    simp only at *
    omega
  have hb := fieldB_b (f := ⟨f1, f2⟩) hf
  simp only at hb
  have hHas := fun u (e : Ext w u) => impl_hasField (w := u) (d := d) (xs := xs) ⟨R.1.ext e, R.2⟩ (f := ⟨f1, f2⟩) hf
  refine Does.of_vc tabok Tryz.func76 rfl rfl rfl (by kernel_rfl) ?_; conv => whnf
  refine SemK.box ?_
  intro b3 w3 g3 l3 e3 B3
  conv => whnf
  refine SemK.box ?_
  intro b4 w4 g4 l4 e4 B4
  conv => whnf
  refine SemK.load1 (by kernel_rfl) (B3.ext e4).cells (k := 1) rfl ?_
  conv => whnf
  refine SemK.loadAgg (n := 1) (by kernel_rfl) B4.cells rfl ?_
  conv => whnf
  refine SemK.loadAggAt (n := 2) (by kernel_rfl) (k := 2) (B3.ext e4).cells rfl ?_
  conv => whnf
  refine (hHas _ (Ext.trans e3 e4)).mono ?_
  rintro _ w6 ⟨rfl, e5⟩
  conv => whnf
  with_reducible refine IfB.nsplit (fun h7 => ?_) (fun h7 => ?_)
  · conv => whnf
    have h7' : hasB (partOf xs (TItem.fld ⟨nm, 1, f1, f2⟩)) = false := h7
    exact ⟨{ data := #[] }, by rw [h7'], fun h => by rw [h7'] at h; (first | cases h | exact Bool.noConfusion h), Ext.trans (Ext.trans e3 e4) e5⟩
  · conv => whnf
    refine SemK.load1 (by kernel_rfl) (B4.ext e5).cells (k := 0) rfl ?_
    conv => whnf
    refine SemK.load1 (by kernel_rfl) (B3.ext (Ext.trans e4 e5)).cells (k := 2) rfl ?_
    conv => whnf
    refine SemK.load1 (by kernel_rfl) (B3.ext (Ext.trans e4 e5)).cells (k := 3) rfl ?_
    conv => whnf
    obtain ⟨p, rfl⟩ : ∃ p : Nat, f1 = (p : Int) := ⟨f1.toNat, by omega⟩
    obtain ⟨q, rfl⟩ : ∃ q : Nat, f2 = (q : Int) := ⟨f2.toNat, by omega⟩
    refine SemK.slice (k := .i64) (k' := .i64) (by kernel_rfl) (R.1.ext (Ext.trans (Ext.trans e3 e4) e5)) p q (by omega) (by have := R.1.len; omega) R.2 (.inr (by rfl)) (.inr (by rfl)) ?_
    intro a9 A9
    conv => whnf
    refine (impl_textOf A9 h7 (by omega)).mono ?_
    rintro _ w11 ⟨rfl, e10⟩
    conv => whnf
    refine (lib_TrimRight (Nat.le_trans hsz (by decide)) _).mono ?_
    rintro _ _ ⟨rfl, rfl⟩
    conv => whnf
    exact ⟨valM ⟨(p : Int), (q : Int)⟩ xs, by rw [show hasB (partOf xs (TItem.fld ⟨nm, 1, (p : Int), (q : Int)⟩)) = true from h7]; rfl, fun _ => rfl, Ext.trans (Ext.trans (Ext.trans e3 e4) e5) e10⟩
theorem spec_l04Value {w : World} {b o b' o' : Nat} {d : Hd} {xs : List Int} (R : RCard w d xs) (hc : Cells w b o (eH d)) {x : TItem} (hcx : Cells w b' o' x.enc) (hx : x.kind = 1) (hf : fieldB x.fld xs.length = true) (hn : xs.length ≤ 1000) :
    Does Tryz.prog 83 [.pointer (some ⟨b', o', none⟩), .pointer (some ⟨b, o, none⟩)] w (fun v w' => ∃ s, v = .tuple #[.string s, .bool (hasB (partOf xs x.fld))] ∧ (hasB (partOf xs x.fld) = true → s = valM x.fld xs) ∧ Ext w w') := by
  obtain ⟨nm, kd, f1, f2⟩ := x
  simp only at hx
  subst hx
  have hPart := fun u (e : Ext w u) => spec_l02Part (w := u) (d := d) (xs := xs) ⟨R.1.ext e, R.2⟩ (hc.ext e) (f := ⟨f1, f2⟩) hf
  have hb := fieldB_b (f := ⟨f1, f2⟩) hf
  simp only at hb
  refine Does.of_vc tabok Tryz.func83 rfl rfl rfl (by kernel_rfl) ?_; conv => whnf
  refine SemK.loadAggAt (n := 2) (by kernel_rfl) (k := 2) hcx rfl ?_
  conv => whnf
  refine (hPart _ (Ext.refl _)).mono ?_
  rintro _ w8 ⟨a'3, c'4, rfl, A5, q6, e7⟩
  conv => whnf
  refine SemK.load1 (by kernel_rfl) (hcx.ext e7) (k := 1) rfl ?_
  conv => whnf
  refine (spec_l03TextS A5 (by show f2.toNat - f1.toNat ≤ 1000; omega)).mono ?_
  rintro _ w12 ⟨rfl, e11⟩
  conv => whnf
  generalize hS : (if hasB (partOf xs ⟨f1, f2⟩) = true then txt (ranks (partOf xs ⟨f1, f2⟩)) else { data := #[] }) = S
  have hSz : S.size ≤ 1000 := by
    rw [← hS]
    split
    · have h1 := partOf_len (f := ⟨f1, f2⟩) hf
      simp only at h1
      simp [txt, ranks, bs, ByteArray.size]
      omega
    · exact Nat.zero_le _
  have hSv : hasB (partOf xs ⟨f1, f2⟩) = true → trimB S = valM ⟨f1, f2⟩ xs := fun h => by rw [← hS, if_pos h]; rfl
  refine LoopK.rule [9, 10] (fun (k : Nat) vs w' => ∃ t : ByteArray, vs = [.string t, .bool (hasB (partOf xs ⟨f1, f2⟩))] ∧ t.size = k ∧ k ≤ 1000 ∧ (hasB (partOf xs ⟨f1, f2⟩) = true → trimB t = valM ⟨f1, f2⟩ xs) ∧ Ext w w') (fun k => k) tab tabok (by kernel_rfl) S.size ⟨S, rfl, rfl, hSz, hSv, Ext.trans e7 e11⟩ ?_
  rintro k g _ w13 ⟨t, rfl, hk, hk9, ht, E13⟩
  have hl9 : t.data.toList.length = t.size := by simp
  rcases Nat.eq_zero_or_pos k with hk0 | hk0
  · conv => whnf
    refine IfB.no (by omega) ?_
    conv => whnf
    refine ⟨t, rfl, fun h => ?_, E13⟩
    refine Eq.trans ?_ (ht h)
    have : t.data.toList = [] := List.eq_nil_of_length_eq_zero (by omega)
    unfold trimB
    rw [this, trimL_nil, ← bs_self t, this]
  · obtain ⟨c, hc9⟩ : ∃ c, t.data.toList[k - 1]? = some c := get_of_lt (by omega)
    have hl : t.data.toList = t.data.toList.take (k - 1) ++ [c] := by
      have h1 := List.take_add_one (l := t.data.toList) (i := k - 1)
      rw [hc9, show k - 1 + 1 = k by omega, List.take_of_length_le (by omega)] at h1
      exact h1
    by_cases hcc : c = 32
    · have htr : trimB (bs (t.data.toList.take (k - 1))) = trimB t := by
        unfold trimB
        conv => rhs; rw [hl, hcc, trimL_space]
        simp [bs]
      conv => whnf
      refine IfB.yes (by omega) ?_
      conv => whnf
      refine SemK.sub (((t.size - 1 : Nat) : Int)) (by omega) (by omega) (by omega) ?_
      conv => whnf
      obtain ⟨d14, hd14⟩ : ∃ d, t.data.toList[(t.size - 1)]? = some d := get_of_lt (by simp only [data_len]; omega)
      refine SemK.char (by kernel_rfl) (t.size - 1) rfl hd14 ?_
      conv => whnf
      rw [show d14 = c from Option.some.inj (hd14.symm.trans (hk ▸ hc9))] at *
      refine IfB.yes (by rw [hcc]; rfl) ?_
      conv => whnf
      refine SemK.sub (((t.size - 1 : Nat) : Int)) (by omega) (by omega) (by omega) ?_
      conv => whnf
      refine SemK.sliceStr (k := .i64) (k' := .i64) (by kernel_rfl) (0) (t.size - 1) (by omega) (by omega) (.inl ⟨rfl, rfl⟩) (.inr (by rfl)) ?_
      have hsl : t.extract 0 (t.size - 1) = bs (t.data.toList.take (k - 1)) := by rw [extract_bs, List.drop_zero, Nat.sub_zero, hk]
      rw [hsl]
      have hbz : (bs (t.data.toList.take (k - 1))).size = k - 1 := by
        show (t.data.toList.take (k - 1)).toArray.size = k - 1
        rw [List.size_toArray, List.length_take]; omega
      conv => whnf
      exact ⟨k - 1, by omega, _, rfl, hbz, by omega, fun h => by rw [htr]; exact ht h, E13⟩
    · have htr : trimB t = t := by
        unfold trimB
        rw [hl, trimL_done hcc, ← hl, bs_self]
      have hne : ¬ c.toNat = 32 := fun e => hcc (UInt8.toNat_inj.1 e)
      conv => whnf
      refine IfB.yes (by omega) ?_
      conv => whnf
      refine SemK.sub (((t.size - 1 : Nat) : Int)) (by omega) (by omega) (by omega) ?_
      conv => whnf
      obtain ⟨d14, hd14⟩ : ∃ d, t.data.toList[(t.size - 1)]? = some d := get_of_lt (by simp only [data_len]; omega)
      refine SemK.char (by kernel_rfl) (t.size - 1) rfl hd14 ?_
      conv => whnf
      rw [show d14 = c from Option.some.inj (hd14.symm.trans (hk ▸ hc9))] at *
      refine IfB.no (by omega) ?_
      conv => whnf
      exact ⟨t, rfl, fun h => by rw [← htr]; exact ht h, E13⟩
theorem spec_l04Deck {w : World} {a a' : Option Addr} {n c n' c' q : Nat} {wd : Int} {xs : List TItem} {d : List (List Int)} (h : Arr TItem.enc 4 w a n xs) (hok : ∀ x ∈ xs, x.ok) (hc : Cells w q 0 [.int .i64 wd, .slice a n c]) (h' : ArrS RCard w a' n' d) (s : ByteArray) : Does Tryz.prog 81 [.pointer (some ⟨q, 0, none⟩), .slice a' n' c', .string s] w (fun v w' => v = .tuple #[.int .i64 (if layCodeM wd xs d (deckB d) = 0 then if itemIx xs s < 0 then 0 else itemIx xs s else 0), .int .i64 (if layCodeM wd xs d (deckB d) = 0 then if itemIx xs s < 0 then 3 else 0 else layCodeM wd xs d (deckB d))] ∧ Ext w w') := by
  have hn' := h'.len
  have hS' := h'
  obtain ⟨hs, hV, hE⟩ := hS'
  have hl := hV.len
  have hW : ¬ d = [] → ∃ x, d[0]? = some x ∧ x.length = widthOf d := fun h => by cases d with | nil => exact absurd rfl h | cons x _ => exact ⟨x, rfl, rfl⟩
  unfold layCodeM
  refine Does.of_vc tabok Tryz.func81 rfl rfl rfl (by kernel_rfl) ?_; conv => whnf
  refine (spec_l04Ok h hok hc).mono ?_
  rintro _ w2 ⟨rfl, e1⟩
  conv => whnf
  with_reducible refine IfB.nsplit (fun h3 => ?_) (fun h3 => ?_)
  · conv => whnf
    exact ⟨by simp [*], e1⟩
  · conv => whnf
    refine (spec_l02Deck (h'.ext e1)).mono ?_
    rintro _ w5 ⟨rfl, e4⟩
    conv => whnf
    with_reducible refine IfB.nsplit (fun h6 => ?_) (fun h6 => ?_)
    · conv => whnf
      exact ⟨by simp [*], (Ext.trans e1 e4)⟩
    · conv => whnf
      refine DrawK.det tabok mixed (by kernel_rfl) (by kernel_rfl) ?_
      conv => whnf
      with_reducible refine IfB.dec (fun h7 => ?_) (fun h7 => ?_)
      · conv => whnf
        obtain ⟨x8, hx8⟩ : ∃ x, hs[0]? = some x := get_of_lt (by omega)
        obtain ⟨y8, hy8, R8⟩ := hE.get hx8
        have A8 := R8.1
        have n8 := R8.2
        refine DSemK.index (by kernel_rfl) (hV.ext (Ext.trans e1 e4)) 0 rfl hx8 ?_
        intro b9 o9 ha9 hb9
        conv => whnf
        refine DSemK.load1 (by kernel_rfl) hb9 (k := 0) rfl ?_
        conv => whnf
        refine DSemK.load1 (by kernel_rfl) (hc.ext (Ext.trans e1 e4)) (k := 0) rfl ?_
        conv => whnf
        intro w10 e10
        conv => whnf
        with_reducible refine IfB.ndec (fun h11 => ?_) (fun h11 => ?_)
        · conv => whnf
          refine ⟨?_, (Ext.trans (Ext.trans e1 e4) e10)⟩
          · have hf := width_first hy8
            have hl8 := A8.len
            have hcd : (if layoutB wd xs = false ∨ deckB d = false then 1 else if ¬ d = [] ∧ ¬ ((widthOf d : Nat) : Int) = wd then 2 else 0 : Int) = 2 := by
              rw [if_neg (by simp [*]), if_pos ⟨hf.1, by omega⟩]
            rw [hcd]; rfl
        · conv => whnf
          refine (spec_l04Find (h.ext (Ext.trans (Ext.trans e1 e4) e10)) (hc.ext (Ext.trans (Ext.trans e1 e4) e10)) _).mono ?_
          rintro _ w13 ⟨rfl, e12⟩
          conv => whnf
          with_reducible refine IfB.dec (fun h14 => ?_) (fun h14 => ?_)
          · conv => whnf
            refine ⟨?_, (Ext.trans (Ext.trans (Ext.trans e1 e4) e10) e12)⟩
            · have hf := width_first hy8
              have hl8 := A8.len
              have hcd : (if layoutB wd xs = false ∨ deckB d = false then 1 else if ¬ d = [] ∧ ¬ ((widthOf d : Nat) : Int) = wd then 2 else 0 : Int) = 0 := by
                rw [if_neg (by simp [*]), if_neg (fun h => h.2 (by omega))]
              rw [hcd, if_pos rfl, if_pos rfl, if_pos h14, if_pos h14]
          · conv => whnf
            refine ⟨?_, (Ext.trans (Ext.trans (Ext.trans e1 e4) e10) e12)⟩
            · have hf := width_first hy8
              have hl8 := A8.len
              have hcd : (if layoutB wd xs = false ∨ deckB d = false then 1 else if ¬ d = [] ∧ ¬ ((widthOf d : Nat) : Int) = wd then 2 else 0 : Int) = 0 := by
                rw [if_neg (by simp [*]), if_neg (fun h => h.2 (by omega))]
              rw [hcd, if_pos rfl, if_pos rfl, if_neg h14, if_neg h14]
      · conv => whnf
        intro w15 e15
        conv => whnf
        refine (spec_l04Find (h.ext (Ext.trans (Ext.trans e1 e4) e15)) (hc.ext (Ext.trans (Ext.trans e1 e4) e15)) _).mono ?_
        rintro _ w17 ⟨rfl, e16⟩
        conv => whnf
        with_reducible refine IfB.dec (fun h18 => ?_) (fun h18 => ?_)
        · conv => whnf
          exact ⟨by simp_all, (Ext.trans (Ext.trans (Ext.trans e1 e4) e15) e16)⟩
        · conv => whnf
          refine ⟨?_, (Ext.trans (Ext.trans (Ext.trans e1 e4) e15) e16)⟩
          · have hd0 : d = [] := List.eq_nil_of_length_eq_zero (by omega)
            have hcd : (if layoutB wd xs = false ∨ deckB d = false then 1 else if ¬ d = [] ∧ ¬ ((widthOf d : Nat) : Int) = wd then 2 else 0 : Int) = 0 := by
              rw [h3, h6, if_neg (by simp), if_neg (fun h => h.1 hd0)]
            rw [hcd, if_pos rfl, if_pos rfl, if_neg h18, if_neg h18]
end Go.Proofs.YtfgbijddjoojbaaGreatDoor
namespace Go.Proofs.YtfgbijddjoojbaaGreatDoor
open Go Go.RowKit Go.Vc Go.M Go.Shelf Go.Proofs
theorem impl_MovesFrom1 {w : World} {b : Nat} {x : TPart} (hx : x.name.size ≤ 1000) {v : ByteArray} (hc : Cells w b 0 [.string v]) : Does Tryz.prog 79 [.agg ⟨x.enc⟩, .pointer (some ⟨b, 0, none⟩)] w (fun u w' => u = .bool (decide (upB x.name = v)) ∧ Ext w w') := by
  obtain ⟨nm, x1, x2, x3⟩ := x
  refine Does.of_vc tabok Tryz.func79 rfl rfl rfl (by kernel_rfl) ?_; conv => whnf
  refine SemK.box ?_
  intro b4 w4 g4 l4 e4 B4
  conv => whnf
  refine DrawK.held tabok mixed [(0, false), (1, false), (3, false), (2, true), (4, true), (5, true)] (by kernel_rfl) (by kernel_rfl) ?_
  conv => whnf
  intro w5 e5
  conv => whnf
  refine DSemK.load1 (by kernel_rfl) B4.cells (k := 0) rfl ?_
  conv => whnf
  refine DSemK.load1 (by kernel_rfl) (hc.ext e4) (k := 0) rfl ?_
  conv => whnf
  refine (impl_capital hx _).mono ?_
  rintro _ w7 ⟨rfl, e6⟩
  conv => whnf
  refine ⟨(Ext.trans e5 e6), ?_⟩
  conv => whnf
  exact ⟨rfl, (Ext.trans (Ext.trans e4 e5) e6)⟩
theorem impl_MovesFrom {w : World} {a a1 a2 : Option Addr} {n c n1 c1 n2 c2 : Nat} {ps : List TPart} {wd : Int} {its : List TItem} {d : List (List Int)} (h : Arr TPart.enc 4 w a n ps) (hok : ∀ x ∈ ps, x.ok) (hnc : n ≤ c)
    (h1 : Arr TItem.enc 4 w a1 n1 its) (hok1 : ∀ x ∈ its, x.ok) (hnc1 : n1 ≤ c1) (h2 : ArrS RCard w a2 n2 d) :
    Does Tryz.prog 31 [.slice a n c, .agg #[.int .i64 wd, .slice a1 n1 c1], .slice a2 n2 c2] w (fun v w' => ∃ a' n' c', v = .tuple #[.slice a' n' c', .int .i64 (movesFromM ps wd its d).2] ∧ NewAt w.heap.size a' ∧ Own TMove.enc w' a' n' 59 (movesFromM ps wd its d).1 ∧ Ext w w') := by
  have hn := h.len
  have hn2 := h2.len
  have hVP := fun u (e : Ext w u) => impl_ValidParts (h.ext e) hok hnc
  have hVD := fun u (e : Ext w u) => impl_ValidDeck (h2.ext e) (c := c2)
  have hLC := fun u (e : Ext w u) b => impl_layoutCode (h1.ext e) hnc1 hok1 (h2.ext e) b (wd := wd) (c' := c2)
  have hTI := fun u (e : Ext w u) => impl_twoItems (h1.ext e) partS countS (wd := wd) (c := c1)
  by_cases hl : layCodeM wd its d (partsB ps && deckB d) = 0
  · obtain ⟨hlay, hbb, hdw⟩ := lay_zero hl
    have hz12 : partsB ps = true ∧ deckB d = true := by simpa using hbb
    obtain ⟨hz1, hz2⟩ := hz12
    have hl0 : layCodeM wd its d true = 0 := by rw [← hbb]; exact hl
    have hL0 := fun u (e : Ext w u) => hLC u e true
    simp only [hl0] at hL0
    simp only [hz1] at hVP
    simp only [hz2] at hVD
    clear hLC
    by_cases ht : (twoM its partS countS).2.2 = 0
    · rw [mf_go hl ht]
      obtain ⟨i0, i1, p, q, hi0, hi1, hp, hq, hp1, hq2, htw⟩ := two_zero ht
      have hcards := mf_cards hl hp hq hq2
      have hd40 := (deckB_mem hz2).1
      rw [htw] at hTI ⊢
      simp only at hTI ⊢
      clear hl ht htw
      have hS2 := h2
      obtain ⟨hs, hV, hE⟩ := hS2
      have hlv := hV.len
      refine Does.of_vc tabok Tryz.func31 rfl rfl rfl (by kernel_rfl) ?_; conv => whnf
      refine SemK.box ?_
      intro b3 w3 g3 l3 e3 B3
      conv => whnf
      refine DrawK.held tabok mixed [(0, false), (1, false), (2, true), (3, true), (4, true), (5, true), (6, true), (7, true), (8, true), (9, true)] (by kernel_rfl) (by kernel_rfl) ?_
      conv => whnf
      intro w4 e4
      conv => whnf
      refine DSemK.loadAgg (n := 2) (by kernel_rfl) B3.cells rfl ?_
      conv => whnf
      refine (hVP _ (Ext.trans e3 e4)).mono ?_
      rintro _ w6 ⟨rfl, e5⟩
      conv => whnf
      refine ⟨(Ext.trans e4 e5), ?_⟩
      conv => whnf
      refine (hVD _ (Ext.trans (Ext.trans e3 e4) e5)).mono ?_
      rintro _ w8 ⟨rfl, e7⟩
      conv => whnf
      refine ⟨(Ext.trans (Ext.trans e4 e5) e7), ?_⟩
      conv => whnf
      refine (hL0 _ (Ext.trans (Ext.trans (Ext.trans e3 e4) e5) e7)).mono ?_
      rintro _ w10 ⟨rfl, e9⟩
      conv => whnf
      refine ⟨(Ext.trans (Ext.trans (Ext.trans e4 e5) e7) e9), ?_⟩
      conv => whnf
      refine SemK.loadAgg (n := 2) (by kernel_rfl) (B3.ext (Ext.trans (Ext.trans (Ext.trans e4 e5) e7) e9)).cells rfl ?_
      conv => whnf
      refine (hTI _ (Ext.trans (Ext.trans (Ext.trans (Ext.trans e3 e4) e5) e7) e9)).mono ?_
      rintro _ w12 ⟨rfl, e11⟩
      conv => whnf
      refine SemK.alloc (z := .agg #[.string { data := #[] }, .int .i64 0, .int .i64 0, .int .i64 0]) (by kernel_rfl) ?_
      intro b13 w13 g13 l13 e13 B13
      conv => whnf
      refine SemK.alloc (z := .agg #[.string { data := #[] }, .int .i64 0, .int .i64 0, .int .i64 0]) (by kernel_rfl) ?_
      intro b14 w14 g14 l14 e14 B14
      conv => whnf
      refine SemK.storeAll (by kernel_rfl) (B13.ext e14) (vs := p.enc) rfl rfl (by simp [TItem.enc, cellish]) ?_
      intro w15 c15 B15
      conv => whnf
      refine SemK.storeAll (by kernel_rfl) (B14.mod c15.but (neChg' g14 l13 (Nat.le_refl _))) (vs := q.enc) rfl rfl (by simp [TItem.enc, cellish]) ?_
      intro w16 c16 B16
      conv => whnf
      refine SemK.buildSlice mk_53 (vs := []) (by rfl) (by rfl) (by simp [Value.cells]) (by decide) ?_
      intro b17 w17 g17 l17 e17 B17
      have G17 := Grow.new0 (enc := TMove.enc) TMove.enc_len B17 g17
      conv => whnf
      have P16 := B15.mod c16.but (neChg l13 g14 (Nat.le_refl _))
      have hch := Ext.trans (Ext.trans (Ext.trans (Ext.trans (Ext.trans e3 e4) e5) e7) e9) e11
      have hE16 : Ext w w16 := Ext.but_trans (Ext.but_trans (Ext.trans (Ext.trans hch e13) e14) c15.but (Nat.le_trans (Below.size hch) g13)) c16.but (Nat.le_trans (Below.size (Ext.trans hch e13)) g14)
      clear hVP hVD hL0 hTI
      obtain ⟨qn, qk, q1, q2⟩ := q
      refine LoopK.rule [0, 9, 10, 12, 42, 43, 44] (fun (k : Nat) vs w' => ∃ a5 m5 c5, vs = [.slice a n c, .pointer (some ⟨b13, 0, none⟩), .pointer (some ⟨b14, 0, none⟩), .slice a5 m5 c5, .slice a2 n2 c2, .int .i64 n2, .int .i64 k] ∧ k ≤ n2 ∧ m5 = k ∧ (∀ i x, i < k → d[i]? = some x → (moveAtM ps p.fld ⟨q1, q2⟩ x).1 = 0) ∧ Grow TMove.enc 2 w16.heap.size 59 w' a5 m5 c5 (movesTo ps p.fld ⟨q1, q2⟩ d k) ∧ Ext w16 w') (fun k => n2 - k) tab tabok (by kernel_rfl) 0 ⟨_, _, _, rfl, by omega, rfl, fun i x hi => by omega, G17, e17⟩ ?_
      rintro k g _ w18 ⟨a5, m5, c5, rfl, hk, rfl, hall, G, hX⟩
      have hEx := Ext.trans hE16 hX
      rcases Nat.lt_or_ge m5 n2 with hkn | hkn
      · obtain ⟨hd, hhd⟩ := get_of_lt (l := hs) (k := m5) (by omega)
        obtain ⟨y, hy, R⟩ := hE.get hhd
        obtain ⟨hf1, hf2, hm9, hl20⟩ := hcards y (List.mem_of_getElem? hy)
        have hIV := fun u (e : Ext w18 u) => impl_itemValue (w := u) (d := hd) (xs := y) ⟨R.1.ext (Ext.trans hEx e), R.2⟩ hp1 hf1 (by omega)
        have hNI := fun u (e : Ext w18 u) => impl_numberIn (w := u) (d := hd) (xs := y) ⟨R.1.ext (Ext.trans hEx e), R.2⟩ hm9 (f := ⟨q1, q2⟩) hf2
        have hIF := fun u b v (e : Ext w18 u) (hc : Cells u b 0 [.string v]) => lib_IndexFuncPart (c := c) (h.ext (Ext.trans hEx e)) (p := fun y => decide (upB y.name = v)) (cap := [.pointer (some ⟨b, 0, none⟩)]) (fun x hx w' e2 => impl_MovesFrom1 (partB_small hz1 hx) (hc.ext e2))
        cases hb : hasB (partOf y p.fld)
        · have hgb := go_bad hall hy (by rw [move_format (.inl hb)]; decide)
          rw [move_format (.inl hb)] at hgb
          have hgb' : movesGo ps p.fld (TItem.fld ⟨qn, qk, q1, q2⟩) d = ([], 8) := hgb
          rw [hgb']
          rw [hb] at hIV
          clear hcards hf1 hf2
          conv => whnf
          refine IfB.yes (by omega) ?_
          conv => whnf
          refine SemK.index (by kernel_rfl) (hV.ext hEx) m5 rfl hhd ?_
          intro b42 o42 ha42 hb42
          conv => whnf
          refine SemK.loadAgg (n := 1) (by kernel_rfl) hb42 rfl ?_
          conv => whnf
          refine SemK.alloc (z := .agg #[.slice none 0 0]) (by kernel_rfl) ?_
          intro b43 w43 g43 l43 e43 B43
          conv => whnf
          refine SemK.storeAll (vs := [Value.slice hd.a hd.n hd.c]) (by kernel_rfl) B43 rfl rfl (by simp [cellish]) ?_
          intro w44 c44 B44
          conv => whnf
          refine SemK.loadAgg (n := 4) (by kernel_rfl) (P16.ext (Ext.but_trans (Ext.trans hX e43) c44.but (Nat.le_trans (Below.size hX) g43))).cells rfl ?_
          conv => whnf
          refine SemK.loadAgg (n := 1) (by kernel_rfl) B44.cells rfl ?_
          conv => whnf
          refine (hIV _ (Ext.but_trans e43 c44.but g43)).mono ?_
          rintro _ w48 ⟨s45, rfl, q46, e47⟩
          conv => whnf
          refine SemK.alloc (z := .string { data := #[] }) (by kernel_rfl) ?_
          intro b49 w49 g49 l49 e49 B49
          conv => whnf
          refine SemK.store1 (by kernel_rfl) B49 (k := 0) (by decide) rfl ?_
          intro w50 c50 B50
          conv => whnf
          refine SemK.loadAgg (n := 1) (by kernel_rfl) (B44.ext (Ext.but_trans (Ext.trans e47 e49) c50.but (Nat.le_trans (Below.size e47) g49))).cells rfl ?_
          conv => whnf
          refine SemK.loadAggAt (n := 2) (by kernel_rfl) (k := 2) (B16.ext (Ext.but_trans (Ext.trans (Ext.trans (Ext.but_trans (Ext.trans hX e43) c44.but (Nat.le_trans (Below.size hX) g43)) e47) e49) c50.but (Nat.le_trans (Below.size (Ext.trans (Ext.but_trans (Ext.trans hX e43) c44.but (Nat.le_trans (Below.size hX) g43)) e47)) g49))).cells rfl ?_
          conv => whnf
          refine (hNI _ (Ext.but_trans (Ext.trans (Ext.trans (Ext.but_trans e43 c44.but g43) e47) e49) c50.but (Nat.le_trans (Below.size (Ext.trans (Ext.but_trans e43 c44.but g43) e47)) g49))).mono ?_
          rintro _ w52 ⟨rfl, e51⟩
          conv => whnf
          exact ⟨_, _, _, rfl, NewAt.nil, Own.nil, (Ext.trans (Ext.but_trans (Ext.trans (Ext.trans (Ext.but_trans (Ext.trans hEx e43) c44.but (Nat.le_trans (Below.size hEx) g43)) e47) e49) c50.but (Nat.le_trans (Below.size (Ext.trans (Ext.but_trans (Ext.trans hEx e43) c44.but (Nat.le_trans (Below.size hEx) g43)) e47)) g49)) e51)⟩
        · have hIV2 : ∀ u, Ext w18 u → Does Tryz.prog 76 [.agg ⟨p.enc⟩, .agg ⟨eH hd⟩] u (fun v w' => v = .tuple #[.string (valM p.fld y), .bool true] ∧ Ext u w') := fun u e => (hIV u e).mono (by
            rintro _ w' ⟨s, rfl, hs, e⟩
            rw [hs hb, hb]
            exact ⟨rfl, e⟩)
          clear hIV
          cases hm2 : (numInM (partOf y ⟨q1, q2⟩)).2
          · have hgb := go_bad hall hy (by rw [move_format (.inr hm2)]; decide)
            rw [move_format (.inr hm2)] at hgb
            have hgb' : movesGo ps p.fld (TItem.fld ⟨qn, qk, q1, q2⟩) d = ([], 8) := hgb
            rw [hgb']
            rw [hm2] at hNI
            clear hcards hf1 hf2
            conv => whnf
            refine IfB.yes (by omega) ?_
            conv => whnf
            refine SemK.index (by kernel_rfl) (hV.ext hEx) m5 rfl hhd ?_
            intro b42 o42 ha42 hb42
            conv => whnf
            refine SemK.loadAgg (n := 1) (by kernel_rfl) hb42 rfl ?_
            conv => whnf
            refine SemK.alloc (z := .agg #[.slice none 0 0]) (by kernel_rfl) ?_
            intro b43 w43 g43 l43 e43 B43
            conv => whnf
            refine SemK.storeAll (vs := [Value.slice hd.a hd.n hd.c]) (by kernel_rfl) B43 rfl rfl (by simp [cellish]) ?_
            intro w44 c44 B44
            conv => whnf
            refine SemK.loadAgg (n := 4) (by kernel_rfl) (P16.ext (Ext.but_trans (Ext.trans hX e43) c44.but (Nat.le_trans (Below.size hX) g43))).cells rfl ?_
            conv => whnf
            refine SemK.loadAgg (n := 1) (by kernel_rfl) B44.cells rfl ?_
            conv => whnf
            refine (hIV2 _ (Ext.but_trans e43 c44.but g43)).mono ?_
            rintro _ w46 ⟨rfl, e45⟩
            conv => whnf
            refine SemK.alloc (z := .string { data := #[] }) (by kernel_rfl) ?_
            intro b47 w47 g47 l47 e47 B47
            conv => whnf
            refine SemK.store1 (by kernel_rfl) B47 (k := 0) (by decide) rfl ?_
            intro w48 c48 B48
            conv => whnf
            refine SemK.loadAgg (n := 1) (by kernel_rfl) (B44.ext (Ext.but_trans (Ext.trans e45 e47) c48.but (Nat.le_trans (Below.size e45) g47))).cells rfl ?_
            conv => whnf
            refine SemK.loadAggAt (n := 2) (by kernel_rfl) (k := 2) (B16.ext (Ext.but_trans (Ext.trans (Ext.trans (Ext.but_trans (Ext.trans hX e43) c44.but (Nat.le_trans (Below.size hX) g43)) e45) e47) c48.but (Nat.le_trans (Below.size (Ext.trans (Ext.but_trans (Ext.trans hX e43) c44.but (Nat.le_trans (Below.size hX) g43)) e45)) g47))).cells rfl ?_
            conv => whnf
            refine (hNI _ (Ext.but_trans (Ext.trans (Ext.trans (Ext.but_trans e43 c44.but g43) e45) e47) c48.but (Nat.le_trans (Below.size (Ext.trans (Ext.but_trans e43 c44.but g43) e45)) g47))).mono ?_
            rintro _ w50 ⟨rfl, e49⟩
            conv => whnf
            exact ⟨_, _, _, rfl, NewAt.nil, Own.nil, (Ext.trans (Ext.but_trans (Ext.trans (Ext.trans (Ext.but_trans (Ext.trans hEx e43) c44.but (Nat.le_trans (Below.size hEx) g43)) e45) e47) c48.but (Nat.le_trans (Below.size (Ext.trans (Ext.but_trans (Ext.trans hEx e43) c44.but (Nat.le_trans (Below.size hEx) g43)) e45)) g47)) e49)⟩
          · rw [hm2] at hNI
            by_cases hpx : partIx ps (valM p.fld y) < 0
            · have hgb := go_bad hall hy (by rw [move_none hb hm2 hpx]; decide)
              rw [move_none hb hm2 hpx] at hgb
              have hgb' : movesGo ps p.fld (TItem.fld ⟨qn, qk, q1, q2⟩) d = ([], 3) := hgb
              rw [hgb']
              clear hcards hf1 hf2
              have hpx' : idxI (fun y_1 : TPart => decide (upB y_1.name = valM p.fld y)) ps < 0 := hpx
              conv => whnf
              refine IfB.yes (by omega) ?_
              conv => whnf
              refine SemK.index (by kernel_rfl) (hV.ext hEx) m5 rfl hhd ?_
              intro b42 o42 ha42 hb42
              conv => whnf
              refine SemK.loadAgg (n := 1) (by kernel_rfl) hb42 rfl ?_
              conv => whnf
              refine SemK.alloc (z := .agg #[.slice none 0 0]) (by kernel_rfl) ?_
              intro b43 w43 g43 l43 e43 B43
              conv => whnf
              refine SemK.storeAll (vs := [Value.slice hd.a hd.n hd.c]) (by kernel_rfl) B43 rfl rfl (by simp [cellish]) ?_
              intro w44 c44 B44
              conv => whnf
              refine SemK.loadAgg (n := 4) (by kernel_rfl) (P16.ext (Ext.but_trans (Ext.trans hX e43) c44.but (Nat.le_trans (Below.size hX) g43))).cells rfl ?_
              conv => whnf
              refine SemK.loadAgg (n := 1) (by kernel_rfl) B44.cells rfl ?_
              conv => whnf
              refine (hIV2 _ (Ext.but_trans e43 c44.but g43)).mono ?_
              rintro _ w46 ⟨rfl, e45⟩
              conv => whnf
              refine SemK.alloc (z := .string { data := #[] }) (by kernel_rfl) ?_
              intro b47 w47 g47 l47 e47 B47
              conv => whnf
              refine SemK.store1 (by kernel_rfl) B47 (k := 0) (by decide) rfl ?_
              intro w48 c48 B48
              conv => whnf
              refine SemK.loadAgg (n := 1) (by kernel_rfl) (B44.ext (Ext.but_trans (Ext.trans e45 e47) c48.but (Nat.le_trans (Below.size e45) g47))).cells rfl ?_
              conv => whnf
              refine SemK.loadAggAt (n := 2) (by kernel_rfl) (k := 2) (B16.ext (Ext.but_trans (Ext.trans (Ext.trans (Ext.but_trans (Ext.trans hX e43) c44.but (Nat.le_trans (Below.size hX) g43)) e45) e47) c48.but (Nat.le_trans (Below.size (Ext.trans (Ext.but_trans (Ext.trans hX e43) c44.but (Nat.le_trans (Below.size hX) g43)) e45)) g47))).cells rfl ?_
              conv => whnf
              refine (hNI _ (Ext.but_trans (Ext.trans (Ext.trans (Ext.but_trans e43 c44.but g43) e45) e47) c48.but (Nat.le_trans (Below.size (Ext.trans (Ext.but_trans e43 c44.but g43) e45)) g47))).mono ?_
              rintro _ w50 ⟨rfl, e49⟩
              conv => whnf
              refine (hIF _ _ _ (Ext.trans (Ext.but_trans (Ext.trans (Ext.trans (Ext.but_trans e43 c44.but g43) e45) e47) c48.but (Nat.le_trans (Below.size (Ext.trans (Ext.but_trans e43 c44.but g43) e45)) g47)) e49) (B48.ext e49).cells).mono ?_
              rintro _ w52 ⟨rfl, e51⟩
              conv => whnf
              refine IfB.yes (by omega) ?_
              conv => whnf
              exact ⟨_, _, _, rfl, NewAt.nil, Own.nil, (Ext.trans (Ext.trans (Ext.but_trans (Ext.trans (Ext.trans (Ext.but_trans (Ext.trans hEx e43) c44.but (Nat.le_trans (Below.size hEx) g43)) e45) e47) c48.but (Nat.le_trans (Below.size (Ext.trans (Ext.but_trans (Ext.trans hEx e43) c44.but (Nat.le_trans (Below.size hEx) g43)) e45)) g47)) e49) e51)⟩
            · have hms := move_some hb hm2 hpx
              have hts := movesTo_succ (ps := ps) (pf := p.fld) (cf := ⟨q1, q2⟩) hy
              rw [hms] at hts
              have hnext : ∀ i x, i < m5 + 1 → d[i]? = some x → (moveAtM ps p.fld ⟨q1, q2⟩ x).1 = 0 := fun i x hi hx => by
                by_cases e : i = m5
                · subst e; rw [hy] at hx; cases hx; rw [hms]
                · exact hall i x (by omega) hx
              clear hcards hf1 hf2
              have hpx' : ¬ idxI (fun y_1 : TPart => decide (upB y_1.name = valM p.fld y)) ps < 0 := hpx
              have hmv := fun u => G.ext (w' := u)
              conv => whnf
              refine IfB.yes (by omega) ?_
              conv => whnf
              refine SemK.index (by kernel_rfl) (hV.ext hEx) m5 rfl hhd ?_
              intro b42 o42 ha42 hb42
              conv => whnf
              refine SemK.loadAgg (n := 1) (by kernel_rfl) hb42 rfl ?_
              conv => whnf
              refine SemK.alloc (z := .agg #[.slice none 0 0]) (by kernel_rfl) ?_
              intro b43 w43 g43 l43 e43 B43
              conv => whnf
              refine SemK.storeAll (vs := [Value.slice hd.a hd.n hd.c]) (by kernel_rfl) B43 rfl rfl (by simp [cellish]) ?_
              intro w44 c44 B44
              conv => whnf
              refine SemK.loadAgg (n := 4) (by kernel_rfl) (P16.ext (Ext.but_trans (Ext.trans hX e43) c44.but (Nat.le_trans (Below.size hX) g43))).cells rfl ?_
              conv => whnf
              refine SemK.loadAgg (n := 1) (by kernel_rfl) B44.cells rfl ?_
              conv => whnf
              refine (hIV2 _ (Ext.but_trans e43 c44.but g43)).mono ?_
              rintro _ w46 ⟨rfl, e45⟩
              conv => whnf
              refine SemK.alloc (z := .string { data := #[] }) (by kernel_rfl) ?_
              intro b47 w47 g47 l47 e47 B47
              conv => whnf
              refine SemK.store1 (by kernel_rfl) B47 (k := 0) (by decide) rfl ?_
              intro w48 c48 B48
              conv => whnf
              refine SemK.loadAgg (n := 1) (by kernel_rfl) (B44.ext (Ext.but_trans (Ext.trans e45 e47) c48.but (Nat.le_trans (Below.size e45) g47))).cells rfl ?_
              conv => whnf
              refine SemK.loadAggAt (n := 2) (by kernel_rfl) (k := 2) (B16.ext (Ext.but_trans (Ext.trans (Ext.trans (Ext.but_trans (Ext.trans hX e43) c44.but (Nat.le_trans (Below.size hX) g43)) e45) e47) c48.but (Nat.le_trans (Below.size (Ext.trans (Ext.but_trans (Ext.trans hX e43) c44.but (Nat.le_trans (Below.size hX) g43)) e45)) g47))).cells rfl ?_
              conv => whnf
              refine (hNI _ (Ext.but_trans (Ext.trans (Ext.trans (Ext.but_trans e43 c44.but g43) e45) e47) c48.but (Nat.le_trans (Below.size (Ext.trans (Ext.but_trans e43 c44.but g43) e45)) g47))).mono ?_
              rintro _ w50 ⟨rfl, e49⟩
              conv => whnf
              refine (hIF _ _ _ (Ext.trans (Ext.but_trans (Ext.trans (Ext.trans (Ext.but_trans e43 c44.but g43) e45) e47) c48.but (Nat.le_trans (Below.size (Ext.trans (Ext.but_trans e43 c44.but g43) e45)) g47)) e49) (B48.ext e49).cells).mono ?_
              rintro _ w52 ⟨rfl, e51⟩
              conv => whnf
              refine IfB.no (by omega) ?_
              conv => whnf
              refine SemK.build st_59 rfl ?_
              conv => whnf
              refine SemK.buildSlice mk_53 (vs := [Value.agg #[Value.int IntKind.i64 (idxI (fun y_1 => decide (upB y_1.name = valM p.fld y)) ps), Value.int IntKind.i64 (numInM (partOf y { from_ := q1, to_ := q2 })).fst]]) (by rfl) (by rfl) (by simp [Value.cells]) (by decide) ?_
              intro b53 w53 g53 l53 e53 B53
              have G53 := Grow.of_blk (n := 1) (enc := TMove.enc) (xs := [⟨idxI (fun y_1 => decide (upB y_1.name = valM p.fld y)) ps, (numInM (partOf y { from_ := q1, to_ := q2 })).fst⟩]) TMove.enc_len B53 g53 rfl (by decide)
              conv => whnf
              refine SemK.appendArr0 (enc := TMove.enc) mk_53 TMove.enc_len (G.ext (Ext.trans (Ext.trans (Ext.trans (Ext.but_trans (Ext.trans (Ext.trans (Ext.but_trans e43 c44.but g43) e45) e47) c48.but (Nat.le_trans (Below.size (Ext.trans (Ext.but_trans e43 c44.but g43) e45)) g47)) e49) e51) e53)) (G53.own.arr TMove.enc_len) (by intro y _; simp [TMove.enc, cellish]) (by omega) (by omega) (Below.size (Ext.trans (Ext.trans (Ext.trans (Ext.but_trans (Ext.trans (Ext.trans (Ext.but_trans (Ext.trans hX e43) c44.but (Nat.le_trans (Below.size hX) g43)) e45) e47) c48.but (Nat.le_trans (Below.size (Ext.trans (Ext.but_trans (Ext.trans hX e43) c44.but (Nat.le_trans (Below.size hX) g43)) e45)) g47)) e49) e51) e53)) ?_
              intro a54 c54 w54 G54 m54 i54
              conv => whnf
              refine SemK.add (((m5 + 1 : Nat) : Int)) (by omega) (by omega) (by omega) ?_
              conv => whnf
              refine ⟨m5 + 1, by omega, _, _, _, rfl, by omega, rfl, by omega, ?_, (Ext.mod_trans (Ext.trans (Ext.trans (Ext.trans (Ext.but_trans (Ext.trans (Ext.trans (Ext.but_trans (Ext.trans hX e43) c44.but (Nat.le_trans (Below.size hX) g43)) e45) e47) c48.but (Nat.le_trans (Below.size (Ext.trans (Ext.but_trans (Ext.trans hX e43) c44.but (Nat.le_trans (Below.size hX) g43)) e45)) g47)) e49) e51) e53) m54 (blkIn_new G.new))⟩
              · rw [hts]; exact G54
      · have hgb' : movesGo ps p.fld (TItem.fld ⟨qn, qk, q1, q2⟩) d = (d.map fun c => (moveAtM ps p.fld ⟨q1, q2⟩ c).2, 0) := go_all (fun i x hi hx => hall i x (by omega) hx)
        rw [hgb']
        rw [movesTo_all (by omega)] at G
        conv => whnf
        refine IfB.no (by omega) ?_
        conv => whnf
        exact ⟨_, _, _, rfl, (G.new.mono (Below.size hE16)), G.own, hEx⟩
    · rw [mf_two hl ht]
      generalize twoM its partS countS = T at *
      obtain ⟨p, q, cd⟩ := T
      simp only at ht hTI ⊢
      refine Does.of_vc tabok Tryz.func31 rfl rfl rfl (by kernel_rfl) ?_; conv => whnf
      refine SemK.box ?_
      intro b3 w3 g3 l3 e3 B3
      conv => whnf
      refine DrawK.held tabok mixed [(0, false), (1, false), (2, true), (3, true), (4, true), (5, true), (6, true), (7, true), (8, true), (9, true)] (by kernel_rfl) (by kernel_rfl) ?_
      conv => whnf
      intro w4 e4
      conv => whnf
      refine DSemK.loadAgg (n := 2) (by kernel_rfl) B3.cells rfl ?_
      conv => whnf
      refine (hVP _ (Ext.trans e3 e4)).mono ?_
      rintro _ w6 ⟨rfl, e5⟩
      conv => whnf
      refine ⟨(Ext.trans e4 e5), ?_⟩
      conv => whnf
      refine (hVD _ (Ext.trans (Ext.trans e3 e4) e5)).mono ?_
      rintro _ w8 ⟨rfl, e7⟩
      conv => whnf
      refine ⟨(Ext.trans (Ext.trans e4 e5) e7), ?_⟩
      conv => whnf
      refine (hL0 _ (Ext.trans (Ext.trans (Ext.trans e3 e4) e5) e7)).mono ?_
      rintro _ w10 ⟨rfl, e9⟩
      conv => whnf
      refine ⟨(Ext.trans (Ext.trans (Ext.trans e4 e5) e7) e9), ?_⟩
      conv => whnf
      refine SemK.loadAgg (n := 2) (by kernel_rfl) (B3.ext (Ext.trans (Ext.trans (Ext.trans e4 e5) e7) e9)).cells rfl ?_
      conv => whnf
      refine (hTI _ (Ext.trans (Ext.trans (Ext.trans (Ext.trans e3 e4) e5) e7) e9)).mono ?_
      rintro _ w12 ⟨rfl, e11⟩
      conv => whnf
      refine SemK.alloc (z := .agg #[.string { data := #[] }, .int .i64 0, .int .i64 0, .int .i64 0]) (by kernel_rfl) ?_
      intro b13 w13 g13 l13 e13 B13
      conv => whnf
      refine SemK.alloc (z := .agg #[.string { data := #[] }, .int .i64 0, .int .i64 0, .int .i64 0]) (by kernel_rfl) ?_
      intro b14 w14 g14 l14 e14 B14
      conv => whnf
      refine SemK.storeAll (by kernel_rfl) (B13.ext e14) (vs := p.enc) rfl rfl (by simp [TItem.enc, cellish]) ?_
      intro w15 c15 B15
      conv => whnf
      refine SemK.storeAll (by kernel_rfl) (B14.mod c15.but (neChg' g14 l13 (Nat.le_refl _))) (vs := q.enc) rfl rfl (by simp [TItem.enc, cellish]) ?_
      intro w16 c16 B16
      conv => whnf
      refine IfB.eqt (by simp [*]; done) ?_
      conv => whnf
      exact ⟨_, _, _, rfl, NewAt.nil, Own.nil, (Ext.but_trans (Ext.but_trans (Ext.trans (Ext.trans (Ext.trans (Ext.trans (Ext.trans (Ext.trans (Ext.trans e3 e4) e5) e7) e9) e11) e13) e14) c15.but (Nat.le_trans (Below.size (Ext.trans (Ext.trans (Ext.trans (Ext.trans (Ext.trans e3 e4) e5) e7) e9) e11)) g13)) c16.but (Nat.le_trans (Below.size (Ext.trans (Ext.trans (Ext.trans (Ext.trans (Ext.trans (Ext.trans e3 e4) e5) e7) e9) e11) e13)) g14))⟩
  · rw [mf_code hl]
    cases hz1 : partsB ps
    · rw [hz1] at hl
      have hL0 := fun u (e : Ext w u) => hLC u e false
      have hl1 : ¬ layCodeM wd its d false = 0 := hl
      simp only [hz1] at hVP
      simp only [Bool.false_and]
      generalize layCodeM wd its d false = cd at *
      refine Does.of_vc tabok Tryz.func31 rfl rfl rfl (by kernel_rfl) ?_; conv => whnf
      refine SemK.box ?_
      intro b3 w3 g3 l3 e3 B3
      conv => whnf
      refine DrawK.held tabok mixed [(0, false), (1, false), (2, true), (3, true), (4, true), (5, true), (6, true), (7, true), (8, true), (9, true)] (by kernel_rfl) (by kernel_rfl) ?_
      conv => whnf
      intro w4 e4
      conv => whnf
      refine DSemK.loadAgg (n := 2) (by kernel_rfl) B3.cells rfl ?_
      conv => whnf
      refine (hVP _ (Ext.trans e3 e4)).mono ?_
      rintro _ w6 ⟨rfl, e5⟩
      conv => whnf
      refine ⟨(Ext.trans e4 e5), ?_⟩
      conv => whnf
      refine (hL0 _ (Ext.trans (Ext.trans e3 e4) e5)).mono ?_
      rintro _ w8 ⟨rfl, e7⟩
      conv => whnf
      refine ⟨(Ext.trans (Ext.trans e4 e5) e7), ?_⟩
      conv => whnf
      refine IfB.eqt (by simp [*]; done) ?_
      conv => whnf
      exact ⟨_, _, _, rfl, NewAt.nil, Own.nil, (Ext.trans (Ext.trans (Ext.trans e3 e4) e5) e7)⟩
    · cases hz2 : deckB d
      · rw [hz1, hz2] at hl
        have hL0 := fun u (e : Ext w u) => hLC u e false
        have hl1 : ¬ layCodeM wd its d false = 0 := hl
        simp only [hz1] at hVP
        simp only [hz2] at hVD
        simp only [Bool.true_and]
        generalize layCodeM wd its d false = cd at *
        refine Does.of_vc tabok Tryz.func31 rfl rfl rfl (by kernel_rfl) ?_; conv => whnf
        refine SemK.box ?_
        intro b3 w3 g3 l3 e3 B3
        conv => whnf
        refine DrawK.held tabok mixed [(0, false), (1, false), (2, true), (3, true), (4, true), (5, true), (6, true), (7, true), (8, true), (9, true)] (by kernel_rfl) (by kernel_rfl) ?_
        conv => whnf
        intro w4 e4
        conv => whnf
        refine DSemK.loadAgg (n := 2) (by kernel_rfl) B3.cells rfl ?_
        conv => whnf
        refine (hVP _ (Ext.trans e3 e4)).mono ?_
        rintro _ w6 ⟨rfl, e5⟩
        conv => whnf
        refine ⟨(Ext.trans e4 e5), ?_⟩
        conv => whnf
        refine (hVD _ (Ext.trans (Ext.trans e3 e4) e5)).mono ?_
        rintro _ w8 ⟨rfl, e7⟩
        conv => whnf
        refine ⟨(Ext.trans (Ext.trans e4 e5) e7), ?_⟩
        conv => whnf
        refine (hL0 _ (Ext.trans (Ext.trans (Ext.trans e3 e4) e5) e7)).mono ?_
        rintro _ w10 ⟨rfl, e9⟩
        conv => whnf
        refine ⟨(Ext.trans (Ext.trans (Ext.trans e4 e5) e7) e9), ?_⟩
        conv => whnf
        refine IfB.eqt (by simp [*]; done) ?_
        conv => whnf
        exact ⟨_, _, _, rfl, NewAt.nil, Own.nil, (Ext.trans (Ext.trans (Ext.trans (Ext.trans e3 e4) e5) e7) e9)⟩
      · rw [hz1, hz2] at hl
        have hL0 := fun u (e : Ext w u) => hLC u e true
        have hl1 : ¬ layCodeM wd its d true = 0 := hl
        simp only [hz1] at hVP
        simp only [hz2] at hVD
        simp only [Bool.true_and]
        generalize layCodeM wd its d true = cd at *
        refine Does.of_vc tabok Tryz.func31 rfl rfl rfl (by kernel_rfl) ?_; conv => whnf
        refine SemK.box ?_
        intro b3 w3 g3 l3 e3 B3
        conv => whnf
        refine DrawK.held tabok mixed [(0, false), (1, false), (2, true), (3, true), (4, true), (5, true), (6, true), (7, true), (8, true), (9, true)] (by kernel_rfl) (by kernel_rfl) ?_
        conv => whnf
        intro w4 e4
        conv => whnf
        refine DSemK.loadAgg (n := 2) (by kernel_rfl) B3.cells rfl ?_
        conv => whnf
        refine (hVP _ (Ext.trans e3 e4)).mono ?_
        rintro _ w6 ⟨rfl, e5⟩
        conv => whnf
        refine ⟨(Ext.trans e4 e5), ?_⟩
        conv => whnf
        refine (hVD _ (Ext.trans (Ext.trans e3 e4) e5)).mono ?_
        rintro _ w8 ⟨rfl, e7⟩
        conv => whnf
        refine ⟨(Ext.trans (Ext.trans e4 e5) e7), ?_⟩
        conv => whnf
        refine (hL0 _ (Ext.trans (Ext.trans (Ext.trans e3 e4) e5) e7)).mono ?_
        rintro _ w10 ⟨rfl, e9⟩
        conv => whnf
        refine ⟨(Ext.trans (Ext.trans (Ext.trans e4 e5) e7) e9), ?_⟩
        conv => whnf
        refine IfB.eqt (by simp [*]; done) ?_
        conv => whnf
        exact ⟨_, _, _, rfl, NewAt.nil, Own.nil, (Ext.trans (Ext.trans (Ext.trans (Ext.trans e3 e4) e5) e7) e9)⟩
theorem spec_MovesFrom {w : World} {a a1 a2 : Option Addr} {n c n1 c1 n2 c2 : Nat} {ps : List TPart} {wd : Int} {its : List TItem} {d : List (List Int)} (h : Arr TPart.enc 4 w a n ps) (hok : ∀ x ∈ ps, x.ok)
    (h1 : Arr TItem.enc 4 w a1 n1 its) (hok1 : ∀ x ∈ its, x.ok) (h2 : ArrS RCard w a2 n2 d) :
    Does Tryz.prog 32 [.slice a n c, .agg #[.int .i64 wd, .slice a1 n1 c1], .slice a2 n2 c2] w (fun v w' => ∃ a' n' c', v = .tuple #[.slice a' n' c', .int .i64 (movesFromM ps wd its d).2] ∧ NewAt w.heap.size a' ∧ Own TMove.enc w' a' n' 59 (movesFromM ps wd its d).1 ∧ Ext w w') := by
  have hn := h.len
  have hn2 := h2.len
  have hVP := fun u (e : Ext w u) => spec_l25Ok (h.ext e) hok (c := c)
  have hLD := fun u q (e : Ext w u) (hc : Cells u q 0 [.int .i64 wd, .slice a1 n1 c1]) => spec_l04Deck (h1.ext e) hok1 hc (h2.ext e) partS (c' := c2)
  have hFC := fun u q (e : Ext w u) (hc : Cells u q 0 [.int .i64 wd, .slice a1 n1 c1]) => spec_l04Find (h1.ext e) hc countS
  cases hz1 : partsB ps
  · have hr : movesFromM ps wd its d = ([], 1) := by
      rw [mf_code (by rw [hz1]; simp [layCodeM]), hz1]
      simp [layCodeM]
    rw [hr]
    simp only [hz1] at hVP
    refine Does.of_vc tabok Tryz.func32 rfl rfl rfl (by kernel_rfl) ?_; conv => whnf
    refine SemK.box ?_
    intro b3 w3 g3 l3 e3 B3
    conv => whnf
    refine (hVP _ e3).mono ?_
    rintro _ w5 ⟨rfl, e4⟩
    conv => whnf
    exact ⟨_, _, _, rfl, NewAt.nil, Own.nil, (Ext.trans e3 e4)⟩
  · simp only [hz1] at hVP
    by_cases hl : layCodeM wd its d (partsB ps && deckB d) = 0
    · obtain ⟨hlay, hbb, hdw⟩ := lay_zero hl
      have hz2 : deckB d = true := by
        have : partsB ps = true ∧ deckB d = true := by simpa using hbb
        exact this.2
      have hl0 : layCodeM wd its d (deckB d) = 0 := by
        have := hl
        rw [hz1] at this
        exact this
      simp only [hl0, if_true] at hLD
      have hd40 := (deckB_mem hz2).1
      by_cases hp0 : itemIx its partS < 0
      · have hr : movesFromM ps wd its d = ([], 3) := by
          have h3 := two_none (xs := its) (s := partS) (t := countS) (.inl hp0)
          rw [mf_two hl (by rw [h3]; decide), h3]
        rw [hr]
        simp only [hp0, if_true] at hLD
        refine Does.of_vc tabok Tryz.func32 rfl rfl rfl (by kernel_rfl) ?_; conv => whnf
        refine SemK.box ?_
        intro b41 w41 g41 l41 e41 B41
        conv => whnf
        refine (hVP _ e41).mono ?_
        rintro _ w43 ⟨rfl, e42⟩
        conv => whnf
        refine (hLD _ _ (Ext.trans e41 e42) (B41.ext e42).cells).mono ?_
        rintro _ w45 ⟨rfl, e44⟩
        conv => whnf
        exact ⟨_, _, _, rfl, NewAt.nil, Own.nil, (Ext.trans (Ext.trans e41 e42) e44)⟩
      · obtain ⟨i0, p, hi0, hp⟩ := itemIx_get (xs := its) (s := partS) (by omega)
        simp only [hi0] at hLD
        have hi0' : ¬ ((i0 : Nat) : Int) < 0 := by omega
        simp only [hi0', if_false] at hLD
        by_cases hq0 : itemIx its countS < 0
        · have hr : movesFromM ps wd its d = ([], 3) := by
            have h3 := two_none (xs := its) (s := partS) (t := countS) (.inr hq0)
            rw [mf_two hl (by rw [h3]; decide), h3]
          rw [hr]
          refine Does.of_vc tabok Tryz.func32 rfl rfl rfl (by kernel_rfl) ?_; conv => whnf
          refine SemK.box ?_
          intro b41 w41 g41 l41 e41 B41
          conv => whnf
          refine (hVP _ e41).mono ?_
          rintro _ w43 ⟨rfl, e42⟩
          conv => whnf
          refine (hLD _ _ (Ext.trans e41 e42) (B41.ext e42).cells).mono ?_
          rintro _ w45 ⟨rfl, e44⟩
          conv => whnf
          refine (hFC _ _ (Ext.trans (Ext.trans e41 e42) e44) (B41.ext (Ext.trans e42 e44)).cells).mono ?_
          rintro _ w47 ⟨rfl, e46⟩
          conv => whnf
          refine IfB.yes (by omega) ?_
          conv => whnf
          exact ⟨_, _, _, rfl, NewAt.nil, Own.nil, (Ext.trans (Ext.trans (Ext.trans e41 e42) e44) e46)⟩
        · obtain ⟨i1, q, hi1, hq⟩ := itemIx_get (xs := its) (s := countS) (by omega)
          simp only [hi1] at hFC
          have htw := two_some hi0 hi1 hp hq
          have hlp := (List.getElem?_eq_some_iff.1 hp).1
          have hlq := (List.getElem?_eq_some_iff.1 hq).1
          have hn1 := h1.len
          by_cases hp1 : p.kind = 1
          · by_cases hq2 : q.kind = 2
            · rw [if_neg (by simp [hp1, hq2])] at htw
              have hr : movesFromM ps wd its d = movesGo ps p.fld q.fld d := by rw [mf_go hl (by rw [htw]), htw]
              rw [hr]
              have hcards := mf_cards hl hp hq hq2
              have hS2 := h2
              obtain ⟨hs, hV, hE⟩ := hS2
              have hlv := hV.len
              refine Does.of_vc tabok Tryz.func32 rfl rfl rfl (by kernel_rfl) ?_; conv => whnf
              refine SemK.box ?_
              intro b41 w41 g41 l41 e41 B41
              conv => whnf
              refine (hVP _ e41).mono ?_
              rintro _ w43 ⟨rfl, e42⟩
              conv => whnf
              refine (hLD _ _ (Ext.trans e41 e42) (B41.ext e42).cells).mono ?_
              rintro _ w45 ⟨rfl, e44⟩
              conv => whnf
              refine (hFC _ _ (Ext.trans (Ext.trans e41 e42) e44) (B41.ext (Ext.trans e42 e44)).cells).mono ?_
              rintro _ w47 ⟨rfl, e46⟩
              conv => whnf
              refine SemK.load1 (by kernel_rfl) (B41.ext (Ext.trans (Ext.trans e42 e44) e46)).cells (k := 1) rfl ?_
              conv => whnf
              refine SemK.index (by kernel_rfl) (h1.ext (Ext.trans (Ext.trans (Ext.trans e41 e42) e44) e46)) i0 rfl hp ?_
              intro b49 o49 ha49 hb49
              conv => whnf
              refine SemK.load1 (by kernel_rfl) hb49 (k := 1) rfl ?_
              conv => whnf
              refine IfB.eqf (by simp [*]; done) ?_
              conv => whnf
              refine SemK.load1 (by kernel_rfl) (B41.ext (Ext.trans (Ext.trans e42 e44) e46)).cells (k := 1) rfl ?_
              conv => whnf
              refine SemK.index (by kernel_rfl) (h1.ext (Ext.trans (Ext.trans (Ext.trans e41 e42) e44) e46)) i1 rfl hq ?_
              intro b51 o51 ha51 hb51
              conv => whnf
              refine SemK.load1 (by kernel_rfl) hb51 (k := 1) rfl ?_
              conv => whnf
              refine IfB.eqf (by simp [*]; done) ?_
              conv => whnf
              refine SemK.buildSlice mk_53 (vs := []) (by rfl) (by rfl) (by simp [Value.cells]) (by decide) ?_
              intro b52 w52 g52 l52 e52 B52
              have G52 := Grow.new0 (enc := TMove.enc) TMove.enc_len B52 g52
              conv => whnf
              have hE46 := Ext.trans (Ext.trans (Ext.trans e41 e42) e44) e46
              have P46 := B41.ext (Ext.trans (Ext.trans e42 e44) e46)
              clear hVP hLD hFC
              obtain ⟨qn, qk, q1, q2⟩ := q
              refine LoopK.rule [0, 2, 4, 8, 10, 11, 12] (fun (k : Nat) vs w' => ∃ a5 m5 c5, vs = [.slice a n c, .slice a2 n2 c2, .pointer (some ⟨b41, 0, none⟩), .int .i64 i0, .int .i64 i1, .slice a5 m5 c5, .int .i64 k] ∧ k ≤ n2 ∧ m5 = k ∧ (∀ i x, i < k → d[i]? = some x → (moveAtM ps p.fld ⟨q1, q2⟩ x).1 = 0) ∧ Grow TMove.enc 2 w47.heap.size 59 w' a5 m5 c5 (movesTo ps p.fld ⟨q1, q2⟩ d k) ∧ Ext w47 w') (fun k => n2 - k) tab tabok (by kernel_rfl) 0 ⟨_, _, _, rfl, by omega, rfl, fun i x hi => by omega, G52, e52⟩ ?_
              rintro k g _ w58 ⟨a5, m5, c5, rfl, hk, rfl, hall, G, hX⟩
              have hEx := Ext.trans hE46 hX
              have P58 := P46.ext hX
              rcases Nat.lt_or_ge m5 n2 with hkn | hkn
              · obtain ⟨hd, hhd⟩ := get_of_lt (l := hs) (k := m5) (by omega)
                obtain ⟨y, hy, R⟩ := hE.get hhd
                obtain ⟨hf1, hf2, hm9, hl20⟩ := hcards y (List.mem_of_getElem? hy)
                have hLV := fun u b o b' o' (e : Ext w58 u) (hc : Cells u b o (eH hd)) (hcx : Cells u b' o' p.enc) => spec_l04Value (w := u) (d := hd) (xs := y) ⟨R.1.ext (Ext.trans hEx e), R.2⟩ hc hcx hp1 hf1 (by omega)
                have hff := numFieldB_b hf2
                have hLP := fun u b o (e : Ext w58 u) (hc : Cells u b o (eH hd)) => spec_l02Part (w := u) (d := hd) (xs := y) ⟨R.1.ext (Ext.trans hEx e), R.2⟩ hc (f := ⟨q1, q2⟩) hff.1
                have hLN := fun u a' (e : Ext w58 u) c' (A : Arr eI 1 u a' (q2.toNat - q1.toNat) (partOf y ⟨q1, q2⟩)) => spec_l03Number (c := c') A hff.2 (fun x hx => hm9 x (partOf_mem hx))
                cases hb : hasB (partOf y p.fld)
                · have hgb := go_bad hall hy (by rw [move_format (.inl hb)]; decide)
                  rw [move_format (.inl hb)] at hgb
                  have hgb' : movesGo ps p.fld (TItem.fld ⟨qn, qk, q1, q2⟩) d = ([], 8) := hgb
                  rw [hgb']
                  rw [hb] at hLV
                  clear hcards hf1 hf2
                  conv => whnf
                  refine IfB.yes (by omega) ?_
                  conv => whnf
                  refine DrawK.held tabok mixed [(0, false), (1, false), (2, false), (3, false), (4, false), (5, true), (6, true), (7, true), (8, true), (9, false), (10, false), (11, true), (12, true)] (by kernel_rfl) (by kernel_rfl) ?_
                  conv => whnf
                  intro w59 e59
                  conv => whnf
                  refine DSemK.load1 (by kernel_rfl) P58.cells (k := 1) rfl ?_
                  conv => whnf
                  refine DSemK.index (by kernel_rfl) (h1.ext hEx) i0 rfl hp ?_
                  intro b61 o61 ha61 hb61
                  conv => whnf
                  refine SemK.index (by kernel_rfl) (hV.ext (Ext.trans hEx e59)) m5 rfl hhd ?_
                  intro b63 o63 ha63 hb63
                  conv => whnf
                  refine ⟨e59, ?_⟩
                  conv => whnf
                  refine (hLV _ _ _ _ _ e59 hb63 (hb61.ext e59)).mono ?_
                  rintro _ w67 ⟨s64, rfl, q65, e66⟩
                  conv => whnf
                  refine ⟨(Ext.trans e59 e66), ?_⟩
                  conv => whnf
                  refine DrawK.held tabok mixed [(0, false), (1, false), (2, false), (3, false), (4, false), (5, true), (6, true), (7, true), (8, true), (9, true), (10, true), (11, true), (12, false), (13, false), (14, true), (15, true)] (by kernel_rfl) (by kernel_rfl) ?_
                  conv => whnf
                  intro w68 e68
                  conv => whnf
                  refine DSemK.index (by kernel_rfl) (hV.ext (Ext.trans (Ext.trans hEx e59) e66)) m5 rfl hhd ?_
                  intro b70 o70 ha70 hb70
                  conv => whnf
                  refine DSemK.load1 (by kernel_rfl) (P58.ext (Ext.trans e59 e66)).cells (k := 1) rfl ?_
                  conv => whnf
                  refine SemK.index (by kernel_rfl) (h1.ext (Ext.trans (Ext.trans (Ext.trans hEx e59) e66) e68)) i1 rfl hq ?_
                  intro b72 o72 ha72 hb72
                  conv => whnf
                  refine ⟨e68, ?_⟩
                  conv => whnf
                  refine SemK.loadAggAt (n := 2) (by kernel_rfl) (k := 2) hb72 rfl ?_
                  conv => whnf
                  refine ⟨e68, ?_⟩
                  conv => whnf
                  refine (hLP _ _ _ (Ext.trans (Ext.trans e59 e66) e68) (hb70.ext e68)).mono ?_
                  rintro _ w78 ⟨a'73, c'74, rfl, A75, q76, e77⟩
                  conv => whnf
                  refine ⟨(Ext.trans e68 e77), ?_⟩
                  conv => whnf
                  refine (hLN _ _ (Ext.trans (Ext.trans (Ext.trans e59 e66) e68) e77) _ A75).mono ?_
                  rintro _ w80 ⟨rfl, e79⟩
                  conv => whnf
                  refine ⟨(Ext.trans (Ext.trans e68 e77) e79), ?_⟩
                  conv => whnf
                  exact ⟨_, _, _, rfl, NewAt.nil, Own.nil, (Ext.trans (Ext.trans (Ext.trans (Ext.trans (Ext.trans hEx e59) e66) e68) e77) e79)⟩
                · have hLV2 : ∀ u b o b' o', Ext w58 u → Cells u b o (eH hd) → Cells u b' o' p.enc → Does Tryz.prog 83 [.pointer (some ⟨b', o', none⟩), .pointer (some ⟨b, o, none⟩)] u (fun v w' => v = .tuple #[.string (valM p.fld y), .bool true] ∧ Ext u w') := fun u b o b' o' e hc hcx => (hLV u b o b' o' e hc hcx).mono (by
                    rintro _ w' ⟨s, rfl, hs, e⟩
                    rw [hs hb, hb]
                    exact ⟨rfl, e⟩)
                  clear hLV
                  cases hm2 : (numInM (partOf y ⟨q1, q2⟩)).2
                  · have hgb := go_bad hall hy (by rw [move_format (.inr hm2)]; decide)
                    rw [move_format (.inr hm2)] at hgb
                    have hgb' : movesGo ps p.fld (TItem.fld ⟨qn, qk, q1, q2⟩) d = ([], 8) := hgb
                    rw [hgb']
                    rw [hm2] at hLN
                    clear hcards hf1 hf2
                    conv => whnf
                    refine IfB.yes (by omega) ?_
                    conv => whnf
                    refine DrawK.held tabok mixed [(0, false), (1, false), (2, false), (3, false), (4, false), (5, true), (6, true), (7, true), (8, true), (9, false), (10, false), (11, true), (12, true)] (by kernel_rfl) (by kernel_rfl) ?_
                    conv => whnf
                    intro w59 e59
                    conv => whnf
                    refine DSemK.load1 (by kernel_rfl) P58.cells (k := 1) rfl ?_
                    conv => whnf
                    refine DSemK.index (by kernel_rfl) (h1.ext hEx) i0 rfl hp ?_
                    intro b61 o61 ha61 hb61
                    conv => whnf
                    refine SemK.index (by kernel_rfl) (hV.ext (Ext.trans hEx e59)) m5 rfl hhd ?_
                    intro b63 o63 ha63 hb63
                    conv => whnf
                    refine ⟨e59, ?_⟩
                    conv => whnf
                    refine (hLV2 _ _ _ _ _ e59 hb63 (hb61.ext e59)).mono ?_
                    rintro _ w65 ⟨rfl, e64⟩
                    conv => whnf
                    refine ⟨(Ext.trans e59 e64), ?_⟩
                    conv => whnf
                    refine DrawK.held tabok mixed [(0, false), (1, false), (2, false), (3, false), (4, false), (5, true), (6, true), (7, true), (8, true), (9, true), (10, true), (11, true), (12, false), (13, false), (14, true), (15, true)] (by kernel_rfl) (by kernel_rfl) ?_
                    conv => whnf
                    intro w66 e66
                    conv => whnf
                    refine DSemK.index (by kernel_rfl) (hV.ext (Ext.trans (Ext.trans hEx e59) e64)) m5 rfl hhd ?_
                    intro b68 o68 ha68 hb68
                    conv => whnf
                    refine DSemK.load1 (by kernel_rfl) (P58.ext (Ext.trans e59 e64)).cells (k := 1) rfl ?_
                    conv => whnf
                    refine SemK.index (by kernel_rfl) (h1.ext (Ext.trans (Ext.trans (Ext.trans hEx e59) e64) e66)) i1 rfl hq ?_
                    intro b70 o70 ha70 hb70
                    conv => whnf
                    refine ⟨e66, ?_⟩
                    conv => whnf
                    refine SemK.loadAggAt (n := 2) (by kernel_rfl) (k := 2) hb70 rfl ?_
                    conv => whnf
                    refine ⟨e66, ?_⟩
                    conv => whnf
                    refine (hLP _ _ _ (Ext.trans (Ext.trans e59 e64) e66) (hb68.ext e66)).mono ?_
                    rintro _ w76 ⟨a'71, c'72, rfl, A73, q74, e75⟩
                    conv => whnf
                    refine ⟨(Ext.trans e66 e75), ?_⟩
                    conv => whnf
                    refine (hLN _ _ (Ext.trans (Ext.trans (Ext.trans e59 e64) e66) e75) _ A73).mono ?_
                    rintro _ w78 ⟨rfl, e77⟩
                    conv => whnf
                    refine ⟨(Ext.trans (Ext.trans e66 e75) e77), ?_⟩
                    conv => whnf
                    exact ⟨_, _, _, rfl, NewAt.nil, Own.nil, (Ext.trans (Ext.trans (Ext.trans (Ext.trans (Ext.trans hEx e59) e64) e66) e75) e77)⟩
                  · rw [hm2] at hLN
                    clear hcards hf1 hf2
                    conv => whnf
                    refine IfB.yes (by omega) ?_
                    conv => whnf
                    refine DrawK.held tabok mixed [(0, false), (1, false), (2, false), (3, false), (4, false), (5, true), (6, true), (7, true), (8, true), (9, false), (10, false), (11, true), (12, true)] (by kernel_rfl) (by kernel_rfl) ?_
                    conv => whnf
                    intro w59 e59
                    conv => whnf
                    refine DSemK.load1 (by kernel_rfl) P58.cells (k := 1) rfl ?_
                    conv => whnf
                    refine DSemK.index (by kernel_rfl) (h1.ext hEx) i0 rfl hp ?_
                    intro b61 o61 ha61 hb61
                    conv => whnf
                    refine SemK.index (by kernel_rfl) (hV.ext (Ext.trans hEx e59)) m5 rfl hhd ?_
                    intro b63 o63 ha63 hb63
                    conv => whnf
                    refine ⟨e59, ?_⟩
                    conv => whnf
                    refine (hLV2 _ _ _ _ _ e59 hb63 (hb61.ext e59)).mono ?_
                    rintro _ w65 ⟨rfl, e64⟩
                    conv => whnf
                    refine ⟨(Ext.trans e59 e64), ?_⟩
                    conv => whnf
                    refine DrawK.held tabok mixed [(0, false), (1, false), (2, false), (3, false), (4, false), (5, true), (6, true), (7, true), (8, true), (9, true), (10, true), (11, true), (12, false), (13, false), (14, true), (15, true)] (by kernel_rfl) (by kernel_rfl) ?_
                    conv => whnf
                    intro w66 e66
                    conv => whnf
                    refine DSemK.index (by kernel_rfl) (hV.ext (Ext.trans (Ext.trans hEx e59) e64)) m5 rfl hhd ?_
                    intro b68 o68 ha68 hb68
                    conv => whnf
                    refine DSemK.load1 (by kernel_rfl) (P58.ext (Ext.trans e59 e64)).cells (k := 1) rfl ?_
                    conv => whnf
                    refine SemK.index (by kernel_rfl) (h1.ext (Ext.trans (Ext.trans (Ext.trans hEx e59) e64) e66)) i1 rfl hq ?_
                    intro b70 o70 ha70 hb70
                    conv => whnf
                    refine ⟨e66, ?_⟩
                    conv => whnf
                    refine SemK.loadAggAt (n := 2) (by kernel_rfl) (k := 2) hb70 rfl ?_
                    conv => whnf
                    refine ⟨e66, ?_⟩
                    conv => whnf
                    refine (hLP _ _ _ (Ext.trans (Ext.trans e59 e64) e66) (hb68.ext e66)).mono ?_
                    rintro _ w76 ⟨a'71, c'72, rfl, A73, q74, e75⟩
                    conv => whnf
                    refine ⟨(Ext.trans e66 e75), ?_⟩
                    conv => whnf
                    refine (hLN _ _ (Ext.trans (Ext.trans (Ext.trans e59 e64) e66) e75) _ A73).mono ?_
                    rintro _ w78 ⟨rfl, e77⟩
                    conv => whnf
                    refine ⟨(Ext.trans (Ext.trans e66 e75) e77), ?_⟩
                    conv => whnf
                    have hEL := Ext.trans (Ext.trans (Ext.trans (Ext.trans e59 e64) e66) e75) e77
                    refine LoopK.rule [0, 2, 4, 8, 10, 11, 12, 13, 15, 17, 18] (fun (j : Nat) vs w' => ∃ t : Int, vs = [.slice a n c, .slice a2 n2 c2, .pointer (some ⟨b41, 0, none⟩), .int .i64 i0, .int .i64 i1, .slice a5 m5 c5, .int .i64 m5, .string (valM p.fld y), .int .i64 (numInM (partOf y ⟨q1, q2⟩)).1, .int .i64 t, .int .i64 j] ∧ j ≤ n ∧ ((t = -1 ∧ ∀ (i : Nat) (x : TPart), i < j → ps[i]? = some x → ¬ upB x.name = valM p.fld y) ∨ ∃ (i : Nat) (x : TPart), i < j ∧ ps[i]? = some x ∧ upB x.name = valM p.fld y ∧ t = i) ∧ Ext w58 w') (fun j => n - j) tab tabok (by kernel_rfl) 0 ⟨-1, rfl, by omega, .inl ⟨rfl, fun i x hi => by omega⟩, hEL⟩ ?_
                    rintro j g _ w80 ⟨t, rfl, hjn, ht, hY⟩
                    rcases Nat.lt_or_ge j n with hjl | hjl
                    · obtain ⟨x, hx⟩ := get_of_lt (l := ps) (k := j) (by omega)
                      have hsm := partB_small hz1 (List.mem_of_getElem? hx)
                      have hUp := fun u => spec_l23Upper hsm u
                      by_cases hxe : upB x.name = valM p.fld y
                      · have hnx : (∃ (i : Nat) (x : TPart), i < j + 1 ∧ ps[i]? = some x ∧ upB x.name = valM p.fld y ∧ (j : Int) = i) := ⟨j, x, by omega, hx, hxe, rfl⟩
                        conv => whnf
                        refine IfB.yes (by omega) ?_
                        conv => whnf
                        refine SemK.index (by kernel_rfl) (h.ext (Ext.trans hEx hY)) j rfl hx ?_
                        intro b82 o82 ha82 hb82
                        conv => whnf
                        refine SemK.load1 (by kernel_rfl) hb82 (k := 0) rfl ?_
                        conv => whnf
                        refine (hUp _).mono ?_
                        rintro _ w84 ⟨rfl, e83⟩
                        conv => whnf
                        refine IfB.yes (by omega) ?_
                        conv => whnf
                        refine SemK.add (((j + 1 : Nat) : Int)) (by omega) (by have := h.le; omega) (by have := h.le; omega) ?_
                        conv => whnf
                        exact ⟨j + 1, by omega, (j : Int), rfl, by omega, .inr hnx, Ext.trans hY e83⟩
                      · have hnx : ((t = -1 ∧ ∀ (i : Nat) (x : TPart), i < j + 1 → ps[i]? = some x → ¬ upB x.name = valM p.fld y) ∨ ∃ (i : Nat) (x : TPart), i < j + 1 ∧ ps[i]? = some x ∧ upB x.name = valM p.fld y ∧ t = i) := by
                          rcases ht with ⟨h1, h2⟩ | ⟨i, z, h1, h2, h3, h4⟩
                          · refine .inl ⟨h1, fun i z hi hz => ?_⟩
                            by_cases e : i = j
                            · subst e; rw [hx] at hz; cases hz; exact hxe
                            · exact h2 i z (by omega) hz
                          · exact .inr ⟨i, z, by omega, h2, h3, h4⟩
                        clear ht
                        conv => whnf
                        refine IfB.yes (by omega) ?_
                        conv => whnf
                        refine SemK.index (by kernel_rfl) (h.ext (Ext.trans hEx hY)) j rfl hx ?_
                        intro b82 o82 ha82 hb82
                        conv => whnf
                        refine SemK.load1 (by kernel_rfl) hb82 (k := 0) rfl ?_
                        conv => whnf
                        refine (hUp _).mono ?_
                        rintro _ w84 ⟨rfl, e83⟩
                        conv => whnf
                        refine IfB.no (by omega) ?_
                        conv => whnf
                        refine SemK.add (((j + 1 : Nat) : Int)) (by omega) (by have := h.le; omega) (by have := h.le; omega) ?_
                        conv => whnf
                        exact ⟨j + 1, by omega, t, rfl, by omega, hnx, Ext.trans hY e83⟩
                    · have htx : t = partIx ps (valM p.fld y) := by
                        rcases ht with ⟨h1, h2⟩ | ⟨i, z, h1, h2, h3, h4⟩
                        · rw [partIx_none (fun i z hz => h2 i z (by have := (List.getElem?_eq_some_iff.1 hz).1; omega) hz)]; exact h1
                        · rw [partIx_at hz1 h2 h3]; exact h4
                      subst htx
                      clear ht
                      by_cases hpx : partIx ps (valM p.fld y) < 0
                      · have hgb := go_bad hall hy (by rw [move_none hb hm2 hpx]; decide)
                        rw [move_none hb hm2 hpx] at hgb
                        have hgb' : movesGo ps p.fld (TItem.fld ⟨qn, qk, q1, q2⟩) d = ([], 3) := hgb
                        rw [hgb']
                        conv => whnf
                        refine IfB.no (by omega) ?_
                        conv => whnf
                        refine IfB.yes (by omega) ?_
                        conv => whnf
                        exact ⟨_, _, _, rfl, NewAt.nil, Own.nil, (Ext.trans hEx hY)⟩
                      · have hms := move_some hb hm2 hpx
                        have hts := movesTo_succ (ps := ps) (pf := p.fld) (cf := ⟨q1, q2⟩) hy
                        rw [hms] at hts
                        have hnext : ∀ i x, i < m5 + 1 → d[i]? = some x → (moveAtM ps p.fld ⟨q1, q2⟩ x).1 = 0 := fun i x hi hx => by
                          by_cases e : i = m5
                          · subst e; rw [hy] at hx; cases hx; rw [hms]
                          · exact hall i x (by omega) hx
                        have hXY := Ext.trans hX hY
                        conv => whnf
                        refine IfB.no (by omega) ?_
                        conv => whnf
                        refine IfB.no (by omega) ?_
                        conv => whnf
                        refine SemK.build st_59 rfl ?_
                        conv => whnf
                        refine SemK.buildSlice mk_53 (vs := [Value.agg #[Value.int IntKind.i64 (partIx ps (valM p.fld y)), Value.int IntKind.i64 (numInM (partOf y { from_ := q1, to_ := q2 })).fst]]) (by rfl) (by rfl) (by simp [Value.cells]) (by decide) ?_
                        intro b81 w81 g81 l81 e81 B81
                        have G81 := Grow.of_blk (n := 1) (enc := TMove.enc) (xs := [⟨partIx ps (valM p.fld y), (numInM (partOf y { from_ := q1, to_ := q2 })).fst⟩]) TMove.enc_len B81 g81 rfl (by decide)
                        conv => whnf
                        refine SemK.appendArr0 (enc := TMove.enc) mk_53 TMove.enc_len (G.ext (Ext.trans hY e81)) (G81.own.arr TMove.enc_len) (by intro y _; simp [TMove.enc, cellish]) (by omega) (by omega) (Below.size (Ext.trans hXY e81)) ?_
                        intro a82 c82 w82 G82 m82 i82
                        conv => whnf
                        refine SemK.add (((m5 + 1 : Nat) : Int)) (by omega) (by omega) (by omega) ?_
                        conv => whnf
                        exact ⟨m5 + 1, by omega, _, _, _, rfl, by omega, rfl, by omega, by simpa [List.take_add_one, -List.take_append_getElem, *] using G82, (Ext.mod_trans (Ext.trans hXY e81) m82 (blkIn_new G.new))⟩
              · have hgb' : movesGo ps p.fld (TItem.fld ⟨qn, qk, q1, q2⟩) d = (d.map fun c => (moveAtM ps p.fld ⟨q1, q2⟩ c).2, 0) := go_all (fun i x hi hx => hall i x (by omega) hx)
                rw [hgb']
                rw [movesTo_all (by omega)] at G
                conv => whnf
                refine IfB.no (by omega) ?_
                conv => whnf
                exact ⟨_, _, _, rfl, (G.new.mono (Below.size hE46)), G.own, hEx⟩
            · rw [if_pos (.inr hq2)] at htw
              have hr : movesFromM ps wd its d = ([], 6) := by rw [mf_two hl (by rw [htw]; decide), htw]
              rw [hr]
              refine Does.of_vc tabok Tryz.func32 rfl rfl rfl (by kernel_rfl) ?_; conv => whnf
              refine SemK.box ?_
              intro b41 w41 g41 l41 e41 B41
              conv => whnf
              refine (hVP _ e41).mono ?_
              rintro _ w43 ⟨rfl, e42⟩
              conv => whnf
              refine (hLD _ _ (Ext.trans e41 e42) (B41.ext e42).cells).mono ?_
              rintro _ w45 ⟨rfl, e44⟩
              conv => whnf
              refine (hFC _ _ (Ext.trans (Ext.trans e41 e42) e44) (B41.ext (Ext.trans e42 e44)).cells).mono ?_
              rintro _ w47 ⟨rfl, e46⟩
              conv => whnf
              refine SemK.load1 (by kernel_rfl) (B41.ext (Ext.trans (Ext.trans e42 e44) e46)).cells (k := 1) rfl ?_
              conv => whnf
              refine SemK.index (by kernel_rfl) (h1.ext (Ext.trans (Ext.trans (Ext.trans e41 e42) e44) e46)) i0 rfl hp ?_
              intro b49 o49 ha49 hb49
              conv => whnf
              refine SemK.load1 (by kernel_rfl) hb49 (k := 1) rfl ?_
              conv => whnf
              refine IfB.eqf (by simp [*]; done) ?_
              conv => whnf
              refine SemK.load1 (by kernel_rfl) (B41.ext (Ext.trans (Ext.trans e42 e44) e46)).cells (k := 1) rfl ?_
              conv => whnf
              refine SemK.index (by kernel_rfl) (h1.ext (Ext.trans (Ext.trans (Ext.trans e41 e42) e44) e46)) i1 rfl hq ?_
              intro b51 o51 ha51 hb51
              conv => whnf
              refine SemK.load1 (by kernel_rfl) hb51 (k := 1) rfl ?_
              conv => whnf
              refine IfB.eqt (by simp [*]; done) ?_
              conv => whnf
              exact ⟨_, _, _, rfl, NewAt.nil, Own.nil, (Ext.trans (Ext.trans (Ext.trans e41 e42) e44) e46)⟩
          · rw [if_pos (.inl hp1)] at htw
            have hr : movesFromM ps wd its d = ([], 6) := by rw [mf_two hl (by rw [htw]; decide), htw]
            rw [hr]
            refine Does.of_vc tabok Tryz.func32 rfl rfl rfl (by kernel_rfl) ?_; conv => whnf
            refine SemK.box ?_
            intro b41 w41 g41 l41 e41 B41
            conv => whnf
            refine (hVP _ e41).mono ?_
            rintro _ w43 ⟨rfl, e42⟩
            conv => whnf
            refine (hLD _ _ (Ext.trans e41 e42) (B41.ext e42).cells).mono ?_
            rintro _ w45 ⟨rfl, e44⟩
            conv => whnf
            refine (hFC _ _ (Ext.trans (Ext.trans e41 e42) e44) (B41.ext (Ext.trans e42 e44)).cells).mono ?_
            rintro _ w47 ⟨rfl, e46⟩
            conv => whnf
            refine SemK.load1 (by kernel_rfl) (B41.ext (Ext.trans (Ext.trans e42 e44) e46)).cells (k := 1) rfl ?_
            conv => whnf
            refine SemK.index (by kernel_rfl) (h1.ext (Ext.trans (Ext.trans (Ext.trans e41 e42) e44) e46)) i0 rfl hp ?_
            intro b49 o49 ha49 hb49
            conv => whnf
            refine SemK.load1 (by kernel_rfl) hb49 (k := 1) rfl ?_
            conv => whnf
            refine IfB.eqt (by simp [*]; done) ?_
            conv => whnf
            exact ⟨_, _, _, rfl, NewAt.nil, Own.nil, (Ext.trans (Ext.trans (Ext.trans e41 e42) e44) e46)⟩
    · rw [mf_code hl]
      have hl0 : ¬ layCodeM wd its d (deckB d) = 0 := by
        have := hl
        rw [hz1] at this
        exact this
      simp only [hl0, if_false] at hLD
      rw [hz1]
      simp only [Bool.true_and]
      generalize layCodeM wd its d (deckB d) = cd at *
      refine Does.of_vc tabok Tryz.func32 rfl rfl rfl (by kernel_rfl) ?_; conv => whnf
      refine SemK.box ?_
      intro b3 w3 g3 l3 e3 B3
      conv => whnf
      refine (hVP _ e3).mono ?_
      rintro _ w5 ⟨rfl, e4⟩
      conv => whnf
      refine (hLD _ _ (Ext.trans e3 e4) (B3.ext e4).cells).mono ?_
      rintro _ w7 ⟨rfl, e6⟩
      conv => whnf
      refine IfB.eqt (by simp [*]; done) ?_
      conv => whnf
      exact ⟨_, _, _, rfl, NewAt.nil, Own.nil, (Ext.trans (Ext.trans e3 e4) e6)⟩
end Go.Proofs.YtfgbijddjoojbaaGreatDoor
