/- Contracts of functions of the given program, of the reference and of the laws: each says what a call returns, for all arguments that meet the premises that the theorem itself names. -/
import Derived.Test.YtfgbijddjoojbaaGreatMedS
import Derived.Test.YtfgbijddjoojbaaGreatMedM
import Derived.Test.YtfgbijddjoojbaaGreatVcApp
import Derived.Shelf.SortG.Plain
namespace Go.Proofs.YtfgbijddjoojbaaGreat
open Go Go.RowKit Go.Vc Go.M Go.Shelf Go.Proofs Go.Sort
theorem flat_eI (xs : List Int) : flat eI xs = xs.map (Value.int .i64) := by
  induction xs with
  | nil => rfl
  | cons x l ih => rw [List.map_cons, ← ih]; rfl
theorem holdsI {w : World} {b n t : Nat} {xs : List Int} (h : Own eI w (some ⟨b, 0, none⟩) n t xs) : Holds (Value.int .i64) w b 0 xs.toArray := by
  obtain ⟨_, _, h3⟩ := h
  rcases h3 with ⟨h, _⟩ | ⟨b', rest, hb', hB⟩
  · cases h
  · cases hb'
    rw [flat_eI] at hB
    intro j hj
    have hj' : j < xs.length := by simpa using hj
    refine ⟨?_, ?_⟩
    · have hv : (xs.map (Value.int .i64))[j]? = some (Value.int .i64 (xs.toArray[j]!)) := by
        rw [List.getElem?_map, List.getElem?_eq_getElem hj', getElem!_pos _ j hj]; simp
      have := hB.cells j _ (by rw [List.getElem?_append_left (by simpa using hj')]; exact hv)
      simpa using this
    · unfold Blk at hB
      unfold World.frozen?
      simp [hB]
theorem putCellsI (d : List Int) (cs rest : List Value) (h : cs.length = d.length) : putCells (Value.int .i64) 0 d.toArray (cs ++ rest).toArray = (d.map (Value.int .i64) ++ rest).toArray := by
  apply Array.ext_getElem?
  intro i
  unfold putCells
  rw [Array.getElem?_mapIdx]
  simp only [List.getElem?_toArray]
  by_cases hi : i < d.length
  · rw [List.getElem?_append_left (by omega), List.getElem?_append_left (by simpa using hi), List.getElem?_map]
    rw [List.getElem?_eq_getElem (by omega : i < cs.length), List.getElem?_eq_getElem hi]
    simp only [Option.map_some]
    rw [if_pos (by simp; omega)]
    simp [hi]
  · rw [List.getElem?_append_right (by omega), List.getElem?_append_right (by simp; omega)]
    simp only [List.length_map, h]
    cases hr : rest[i - d.length]? with
    | none => rfl
    | some v =>
      simp only [Option.map_some]
      rw [if_neg (by simp; omega)]
theorem sortedI_own {w w' : World} {b n t : Nat} {xs : List Int} (h : Own eI w (some ⟨b, 0, none⟩) n t xs) {d : List Int} (hd : d.length = xs.length) {m : Nat} {os : Array Obj}
    (hw : w' = grow (putRow (Value.int .i64) (Go.Sort.ahead w m) b 0 d.toArray) os) : Own eI w' (some ⟨b, 0, none⟩) n t d ∧ Mod (blkIn (some ⟨b, 0, none⟩)) w w' := by
  obtain ⟨h1, h2, h3⟩ := h
  rcases h3 with ⟨h, _⟩ | ⟨b', rest, hb', hB⟩
  · cases h
  cases hb'
  subst hw
  have hbs := hB.lt
  constructor
  · refine ⟨by omega, h2, .inr ⟨b, rest, rfl, ?_⟩⟩
    rw [flat_eI] at hB ⊢
    unfold Blk at hB ⊢
    unfold grow putRow mapBlock Go.Sort.ahead
    dsimp only
    rw [Array.getElem?_append_left (by simpa using hbs), Array.getElem?_modify, if_pos rfl, hB]
    simp only [Option.map_some, onCells]
    rw [putCellsI _ _ _ (by simp [hd])]
  · refine ⟨rfl, rfl, rfl, ?_, fun i hi hl => ?_⟩
    · unfold grow putRow mapBlock Go.Sort.ahead
      simp
    · unfold grow putRow mapBlock Go.Sort.ahead
      dsimp only
      have hib : b ≠ i := fun e => hi ⟨_, rfl, e.symm⟩
      rw [Array.getElem?_append_left (by simpa using hl), Array.getElem?_modify, if_neg hib]
def lay_SortInt_ren : Go.Shelf.Ren := ⟨fun | 53 => 36 | 64 => 78 | 63 => 77 | 78 => 116 | 79 => 117 | 70 => 107 | 71 => 108 | 72 => 109 | 73 => 110 | 74 => 111 | 75 => 112 | 59 => 113 | 76 => 114 | 77 => 115 | 88 => 137 | 89 => 138 | 90 => 139 | 91 => 140 | 92 => 141 | 68 => 142 | 96 => 151 | n => n, fun | 22 => 27 | 23 => 2 | 3 => 3 | 51 => 97 | 0 => 0 | 67 => 125 | 69 => 85 | 4 => 4 | 61 => 117 | 60 => 116 | 44 => 122 | 5 => 5 | 9 => 9 | 75 => 142 | 79 => 146 | 83 => 153 | 84 => 154 | n => n, fun | n => n⟩
theorem lay_SortInt : Go.Proofs.SlLaysN.n53 Tryz.prog lay_SortInt_ren := {
  mixed := by kernel_rfl
  f53 := ⟨Tryz.f36.name, by decide, Tryz.func36.trans (congrArg some (by kernel_rfl))⟩
  f59 := ⟨Tryz.f113.name, by decide, Tryz.func113.trans (congrArg some (by kernel_rfl))⟩
  f63 := ⟨Tryz.f77.name, by decide, Tryz.func77.trans (congrArg some (by kernel_rfl))⟩
  f64 := Tryz.func78.trans (congrArg some (by kernel_rfl))
  f68 := ⟨Tryz.f142.name, by decide, Tryz.func142.trans (congrArg some (by kernel_rfl))⟩
  f70 := ⟨Tryz.f107.name, by decide, Tryz.func107.trans (congrArg some (by kernel_rfl))⟩
  f71 := ⟨Tryz.f108.name, by decide, Tryz.func108.trans (congrArg some (by kernel_rfl))⟩
  f72 := ⟨Tryz.f109.name, by decide, Tryz.func109.trans (congrArg some (by kernel_rfl))⟩
  f73 := ⟨Tryz.f110.name, by decide, Tryz.func110.trans (congrArg some (by kernel_rfl))⟩
  f74 := ⟨Tryz.f111.name, by decide, Tryz.func111.trans (congrArg some (by kernel_rfl))⟩
  f75 := ⟨Tryz.f112.name, by decide, Tryz.func112.trans (congrArg some (by kernel_rfl))⟩
  f76 := ⟨Tryz.f114.name, by decide, Tryz.func114.trans (congrArg some (by kernel_rfl))⟩
  f77 := ⟨Tryz.f115.name, by decide, Tryz.func115.trans (congrArg some (by kernel_rfl))⟩
  f78 := Tryz.func116.trans (congrArg some (by kernel_rfl))
  f79 := Tryz.func117.trans (congrArg some (by kernel_rfl))
  f88 := ⟨Tryz.f137.name, by decide, Tryz.func137.trans (congrArg some (by kernel_rfl))⟩
  f89 := Tryz.func138.trans (congrArg some (by kernel_rfl))
  f90 := Tryz.func139.trans (congrArg some (by kernel_rfl))
  f91 := ⟨Tryz.f140.name, by decide, Tryz.func140.trans (congrArg some (by kernel_rfl))⟩
  f92 := ⟨Tryz.f141.name, by decide, Tryz.func141.trans (congrArg some (by kernel_rfl))⟩
  f96 := ⟨Tryz.f151.name, by decide, Tryz.func151.trans (congrArg some (by kernel_rfl))⟩
  t0 := Tryz.underlying0
  a0 := Tryz.isAgg0
  z0 := Tryz.sizeOf0
  v0 := Tryz.zeroValue0
  t3 := Tryz.underlying3
  a3 := Tryz.isAgg3
  z3 := Tryz.sizeOf3
  v3 := Tryz.zeroValue3
  t4 := Tryz.underlying4
  a4 := Tryz.isAgg4
  z4 := Tryz.sizeOf4
  v4 := Tryz.zeroValue4
  t5 := Tryz.underlying5
  a5 := Tryz.isAgg5
  z5 := Tryz.sizeOf5
  v5 := Tryz.zeroValue5
  t9 := Tryz.underlying9
  a9 := Tryz.isAgg9
  z9 := Tryz.sizeOf9
  v9 := Tryz.zeroValue9
  t22 := Tryz.underlying27
  a22 := Tryz.isAgg27
  z22 := Tryz.sizeOf27
  v22 := Tryz.zeroValue27
  t23 := Tryz.underlying2
  a23 := Tryz.isAgg2
  z23 := Tryz.sizeOf2
  v23 := Tryz.zeroValue2
  t44 := Tryz.underlying122
  a44 := Tryz.isAgg122
  z44 := Tryz.sizeOf122
  v44 := Tryz.zeroValue122
  t51 := Tryz.underlying97
  a51 := Tryz.isAgg97
  z51 := Tryz.sizeOf97
  v51 := Tryz.zeroValue97
  t60 := Tryz.underlying116
  a60 := Tryz.isAgg116
  z60 := Tryz.sizeOf116
  v60 := Tryz.zeroValue116
  t61 := Tryz.underlying117
  a61 := Tryz.isAgg117
  z61 := Tryz.sizeOf117
  v61 := Tryz.zeroValue117
  t67 := Tryz.underlying125
  a67 := Tryz.isAgg125
  z67 := Tryz.sizeOf125
  v67 := Tryz.zeroValue125
  t69 := Tryz.underlying85
  a69 := Tryz.isAgg85
  z69 := Tryz.sizeOf85
  v69 := Tryz.zeroValue85
  t75 := Tryz.underlying142
  a75 := Tryz.isAgg142
  z75 := Tryz.sizeOf142
  v75 := Tryz.zeroValue142
  t79 := Tryz.underlying146
  a79 := Tryz.isAgg146
  z79 := Tryz.sizeOf146
  v79 := Tryz.zeroValue146
  t83 := Tryz.underlying153
  a83 := Tryz.isAgg153
  z83 := Tryz.sizeOf153
  v83 := Tryz.zeroValue153
  t84 := Tryz.underlying154
  a84 := Tryz.isAgg154
  z84 := Tryz.sizeOf154
  v84 := Tryz.zeroValue154 }
theorem lib_SortInt {w : World} {b n t c : Nat} {xs : List Int} (h : Own eI w (some ⟨b, 0, none⟩) n t xs) (hn : n ≤ 1000000000) :
    Does Tryz.prog 36 [.slice (some ⟨b, 0, none⟩) n c] w (fun v w' => v = .tuple #[] ∧ Own eI w' (some ⟨b, 0, none⟩) n t (sortI xs) ∧ Mod (blkIn (some ⟨b, 0, none⟩)) w w') := by
  have hlen := h.1
  have hlt : b < w.heap.size := h.lt _ rfl
  have hS := AnyG.slices_Sort_int lay_SortInt b 0 c xs w (holdsI h) hlt (by omega)
  rw [show xs.length = n by omega] at hS
  have hS' : Calls Tryz.prog 36 #[.slice (some ⟨b, 0, none⟩) n c] w _ := hS
  refine Does.of_calls (by kernel_rfl) (hS'.mono ?_)
  rintro _ w' ⟨rfl, m, os, hw⟩
  have := sortedI_own h (d := sortI xs) (sortI_len xs) hw
  exact ⟨_, rfl, rfl, this.1, this.2⟩
theorem impl_MedianOf {w : World} {a : Option Addr} {n c : Nat} {xs : List (List Int)} (h : ArrS RCard w a n xs) {f : TField} (hf : f.ok) (hn1 : n ≤ 1048576) : Does Tryz.prog 9 [.slice a n c, .agg ⟨f.enc⟩] w (fun v w' => v = .tuple #[.int .i64 (medianM xs f).1, .int .i64 (medianM xs f).2] ∧ Ext w w') := by
  have hn := h.len
  obtain ⟨L, cd, hr⟩ : ∃ L cd, numbersIf true xs f = (L, cd) := ⟨_, _, rfl⟩
  have hL : L.length ≤ 1048576 := by
    have : (numbersIf true xs f).1.length ≤ xs.length := numbersIf_len xs f
    rw [hr] at this
    dsimp only at this
    omega
  have hN : ∀ u, Ext w u → Does Tryz.prog 30 [.slice a n c, .agg ⟨f.enc⟩, .bool true] u (fun v w' => ∃ a' c', v = .tuple #[.slice a' L.length c', .int .i64 cd] ∧ NewAt u.heap.size a' ∧ Own eI w' a' L.length 2 L ∧ Ext u w') := fun u e => by
    have h2 := impl_numbersOf (c := c) (h.ext e) hf true
    rw [hr] at h2
    refine h2.mono ?_
    rintro v w' ⟨a', n', c', rfl, hN, hO, hE⟩
    have hl : L.length = n' := hO.1
    subst hl
    exact ⟨a', c', rfl, hN, hO, hE⟩
  by_cases hc : cd = 0
  · subst hc
    cases hLL : L with
    | nil =>
      subst hLL
      rw [median_none hr]
      refine Does.of_vc tabok Tryz.func9 rfl rfl rfl (by kernel_rfl) ?_; conv => whnf
      refine SemK.box ?_
      intro b2 w2 g2 l2 e2 B2
      conv => whnf
      refine SemK.loadAgg (n := 2) (by kernel_rfl) B2.cells rfl ?_
      conv => whnf
      refine (hN _ e2).mono ?_
      rintro _ w8 ⟨a'3, c'4, rfl, N5, O6, e7⟩
      conv => whnf
      exact ⟨rfl, (Ext.trans e2 e7)⟩
    | cons q L' =>
      have hL0 : 0 < L.length := by rw [hLL]; simp
      clear hLL
      have hsl := sortI_len L
      obtain ⟨v, hv⟩ := get_of_lt (l := sortI L) (k := (L.length - 1) / 2) (by omega)
      rw [median_some hr hv]
      generalize hll : L.length = ll at *
      generalize hS : sortI L = S at *
      have hSo : ∀ (u : World) (b t c : Nat), Own eI u (some ⟨b, 0, none⟩) ll t L → Does Tryz.prog 36 [.slice (some ⟨b, 0, none⟩) ll c] u (fun v w' => v = .tuple #[] ∧ Own eI w' (some ⟨b, 0, none⟩) ll t S ∧ Mod (blkIn (some ⟨b, 0, none⟩)) u w') := fun u b t c h => by
        have := lib_SortInt (c := c) h (by omega)
        rw [hS] at this
        exact this
      refine Does.of_vc tabok Tryz.func9 rfl rfl rfl (by kernel_rfl) ?_; conv => whnf
      refine SemK.box ?_
      intro b2 w2 g2 l2 e2 B2
      conv => whnf
      refine SemK.loadAgg (n := 2) (by kernel_rfl) B2.cells rfl ?_
      conv => whnf
      refine (hN _ e2).mono ?_
      rintro _ w8 ⟨a'3, c'4, rfl, N5, O6, e7⟩
      conv => whnf
      refine IfB.no (by omega) ?_
      conv => whnf
      obtain ⟨b9, rfl⟩ := O6.some (by omega)
      refine (hSo _ _ _ _ O6).mono ?_
      rintro _ w12 ⟨rfl, O10, m11⟩
      conv => whnf
      refine SemK.sub (((ll - 1 : Nat) : Int)) (by omega) (by omega) (by omega) ?_
      conv => whnf
      refine SemK.quo (by omega) (by omega) (by omega) ?_
      rw [show (((ll - 1 : Nat) : Int) / 2) = (((ll - 1) / 2 : Nat) : Int) from by omega]
      conv => whnf
      refine SemK.indexOwn (sz := 1) (by kernel_rfl) ((ll - 1) / 2) rfl (by omega) ?_
      have hbx := Own.elem eI_len O10 hv
      conv => whnf
      refine SemK.load0 (by kernel_rfl) hbx rfl ?_
      conv => whnf
      exact ⟨rfl, (Ext.mod_trans (Ext.trans e2 e7) m11 (fun k hk => Nat.le_trans (Below.size e2) (blkIn_new N5 k hk)))⟩
  · rw [median_bad hr hc]
    refine Does.of_vc tabok Tryz.func9 rfl rfl rfl (by kernel_rfl) ?_; conv => whnf
    refine SemK.box ?_
    intro b2 w2 g2 l2 e2 B2
    conv => whnf
    refine SemK.loadAgg (n := 2) (by kernel_rfl) B2.cells rfl ?_
    conv => whnf
    refine (hN _ e2).mono ?_
    rintro _ w8 ⟨a'3, c'4, rfl, N5, O6, e7⟩
    conv => whnf
    refine IfB.eqt (by simp [*]; done) ?_
    conv => whnf
    exact ⟨rfl, (Ext.trans e2 e7)⟩
end Go.Proofs.YtfgbijddjoojbaaGreat
