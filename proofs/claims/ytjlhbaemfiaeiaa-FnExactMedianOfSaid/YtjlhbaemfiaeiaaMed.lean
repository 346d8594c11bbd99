/- Contracts of functions of the given program, of the reference and of the laws: each says what a call returns, for all arguments that meet the premises that the theorem itself names. -/
import Derived.Test.YtjlhbaemfiaeiaaMedS
import Derived.Test.YtjlhbaemfiaeiaaMedM
import Derived.Test.YtjlhbaemfiaeiaaVcApp
import Derived.Shelf.SortG.Plain
namespace Go.Proofs.Ytjlhbaemfiaeiaa
open Go Go.RowKit Go.Vc Go.M Go.Shelf Go.Proofs Go.Sort
theorem flat_eI (xs : List Int) : flat eI xs = xs.map (Value.int .i64) := by
  induction xs with
  | nil => rfl
  | cons x l ih => rw [List.map_cons, ← ih]; rfl
theorem holdsI {w : World} {b n t : Nat} {xs : List Int} (h : Own eI w (some ⟨b, 0, none⟩) n t xs) : Holds (Value.int .i64) w b 0 xs.toArray := by
  obtain ⟨_, _, h3⟩ := h
  rcases h3 with ⟨h, _⟩ | ⟨b', rest, hb', hB⟩
  · cases h
  · cases hb'
    rw [flat_eI] at hB
    intro j hj
    have hj' : j < xs.length := by simpa using hj
    refine ⟨?_, ?_⟩
    · have hv : (xs.map (Value.int .i64))[j]? = some (Value.int .i64 (xs.toArray[j]!)) := by
        rw [List.getElem?_map, List.getElem?_eq_getElem hj', getElem!_pos _ j hj]; simp
      have := hB.cells j _ (by rw [List.getElem?_append_left (by simpa using hj')]; exact hv)
      simpa using this
    · unfold Blk at hB
      unfold World.frozen?
      simp [hB]
theorem putCellsI (d : List Int) (cs rest : List Value) (h : cs.length = d.length) : putCells (Value.int .i64) 0 d.toArray (cs ++ rest).toArray = (d.map (Value.int .i64) ++ rest).toArray := by
  apply Array.ext_getElem?
  intro i
  unfold putCells
  rw [Array.getElem?_mapIdx]
  simp only [List.getElem?_toArray]
  by_cases hi : i < d.length
  · rw [List.getElem?_append_left (by omega), List.getElem?_append_left (by simpa using hi), List.getElem?_map]
    rw [List.getElem?_eq_getElem (by omega : i < cs.length), List.getElem?_eq_getElem hi]
    simp only [Option.map_some]
    rw [if_pos (by simp; omega)]
    simp [hi]
  · rw [List.getElem?_append_right (by omega), List.getElem?_append_right (by simp; omega)]
    simp only [List.length_map, h]
    cases hr : rest[i - d.length]? with
    | none => rfl
    | some v =>
      simp only [Option.map_some]
      rw [if_neg (by simp; omega)]
theorem sortedI_own {w w' : World} {b n t : Nat} {xs : List Int} (h : Own eI w (some ⟨b, 0, none⟩) n t xs) {d : List Int} (hd : d.length = xs.length) {m : Nat} {os : Array Obj}
    (hw : w' = grow (putRow (Value.int .i64) (Go.Sort.ahead w m) b 0 d.toArray) os) : Own eI w' (some ⟨b, 0, none⟩) n t d ∧ Mod (blkIn (some ⟨b, 0, none⟩)) w w' := by
  obtain ⟨h1, h2, h3⟩ := h
  rcases h3 with ⟨h, _⟩ | ⟨b', rest, hb', hB⟩
  · cases h
  cases hb'
  subst hw
  have hbs := hB.lt
  constructor
  · refine ⟨by omega, h2, .inr ⟨b, rest, rfl, ?_⟩⟩
    rw [flat_eI] at hB ⊢
    unfold Blk at hB ⊢
    unfold grow putRow mapBlock Go.Sort.ahead
    dsimp only
    rw [Array.getElem?_append_left (by simpa using hbs), Array.getElem?_modify, if_pos rfl, hB]
    simp only [Option.map_some, onCells]
    rw [putCellsI _ _ _ (by simp [hd])]
  · refine ⟨rfl, rfl, rfl, ?_, fun i hi hl => ?_⟩
    · unfold grow putRow mapBlock Go.Sort.ahead
      simp
    · unfold grow putRow mapBlock Go.Sort.ahead
      dsimp only
      have hib : b ≠ i := fun e => hi ⟨_, rfl, e.symm⟩
      rw [Array.getElem?_append_left (by simpa using hl), Array.getElem?_modify, if_neg hib]
def lay_SortInt_ren : Go.Shelf.Ren := ⟨fun | 53 => 135 | 64 => 155 | 63 => 179 | 78 => 202 | 79 => 203 | 70 => 219 | 71 => 220 | 72 => 221 | 73 => 222 | 74 => 223 | 75 => 224 | 59 => 225 | 76 => 226 | 77 => 227 | 88 => 245 | 89 => 237 | 90 => 238 | 91 => 246 | 92 => 247 | 68 => 161 | 96 => 256 | n => n, fun | 22 => 39 | 23 => 2 | 3 => 3 | 51 => 161 | 0 => 0 | 67 => 200 | 69 => 167 | 4 => 4 | 61 => 193 | 60 => 192 | 44 => 197 | 5 => 5 | 9 => 9 | 75 => 220 | 79 => 224 | 83 => 234 | 84 => 235 | n => n, fun | n => n⟩
theorem lay_SortInt : Go.Proofs.SlLaysN.n53 Try.prog lay_SortInt_ren := {
  mixed := by kernel_rfl
  f53 := ⟨Try.f135.name, by decide, Try.func135.trans (congrArg some (by kernel_rfl))⟩
  f59 := ⟨Try.f225.name, by decide, Try.func225.trans (congrArg some (by kernel_rfl))⟩
  f63 := ⟨Try.f179.name, by decide, Try.func179.trans (congrArg some (by kernel_rfl))⟩
  f64 := Try.func155.trans (congrArg some (by kernel_rfl))
  f68 := ⟨Try.f161.name, by decide, Try.func161.trans (congrArg some (by kernel_rfl))⟩
  f70 := ⟨Try.f219.name, by decide, Try.func219.trans (congrArg some (by kernel_rfl))⟩
  f71 := ⟨Try.f220.name, by decide, Try.func220.trans (congrArg some (by kernel_rfl))⟩
  f72 := ⟨Try.f221.name, by decide, Try.func221.trans (congrArg some (by kernel_rfl))⟩
  f73 := ⟨Try.f222.name, by decide, Try.func222.trans (congrArg some (by kernel_rfl))⟩
  f74 := ⟨Try.f223.name, by decide, Try.func223.trans (congrArg some (by kernel_rfl))⟩
  f75 := ⟨Try.f224.name, by decide, Try.func224.trans (congrArg some (by kernel_rfl))⟩
  f76 := ⟨Try.f226.name, by decide, Try.func226.trans (congrArg some (by kernel_rfl))⟩
  f77 := ⟨Try.f227.name, by decide, Try.func227.trans (congrArg some (by kernel_rfl))⟩
  f78 := Try.func202.trans (congrArg some (by kernel_rfl))
  f79 := Try.func203.trans (congrArg some (by kernel_rfl))
  f88 := ⟨Try.f245.name, by decide, Try.func245.trans (congrArg some (by kernel_rfl))⟩
  f89 := Try.func237.trans (congrArg some (by kernel_rfl))
  f90 := Try.func238.trans (congrArg some (by kernel_rfl))
  f91 := ⟨Try.f246.name, by decide, Try.func246.trans (congrArg some (by kernel_rfl))⟩
  f92 := ⟨Try.f247.name, by decide, Try.func247.trans (congrArg some (by kernel_rfl))⟩
  f96 := ⟨Try.f256.name, by decide, Try.func256.trans (congrArg some (by kernel_rfl))⟩
  t0 := Try.underlying0
  a0 := Try.isAgg0
  z0 := Try.sizeOf0
  v0 := Try.zeroValue0
  t3 := Try.underlying3
  a3 := Try.isAgg3
  z3 := Try.sizeOf3
  v3 := Try.zeroValue3
  t4 := Try.underlying4
  a4 := Try.isAgg4
  z4 := Try.sizeOf4
  v4 := Try.zeroValue4
  t5 := Try.underlying5
  a5 := Try.isAgg5
  z5 := Try.sizeOf5
  v5 := Try.zeroValue5
  t9 := Try.underlying9
  a9 := Try.isAgg9
  z9 := Try.sizeOf9
  v9 := Try.zeroValue9
  t22 := Try.underlying39
  a22 := Try.isAgg39
  z22 := Try.sizeOf39
  v22 := Try.zeroValue39
  t23 := Try.underlying2
  a23 := Try.isAgg2
  z23 := Try.sizeOf2
  v23 := Try.zeroValue2
  t44 := Try.underlying197
  a44 := Try.isAgg197
  z44 := Try.sizeOf197
  v44 := Try.zeroValue197
  t51 := Try.underlying161
  a51 := Try.isAgg161
  z51 := Try.sizeOf161
  v51 := Try.zeroValue161
  t60 := Try.underlying192
  a60 := Try.isAgg192
  z60 := Try.sizeOf192
  v60 := Try.zeroValue192
  t61 := Try.underlying193
  a61 := Try.isAgg193
  z61 := Try.sizeOf193
  v61 := Try.zeroValue193
  t67 := Try.underlying200
  a67 := Try.isAgg200
  z67 := Try.sizeOf200
  v67 := Try.zeroValue200
  t69 := Try.underlying167
  a69 := Try.isAgg167
  z69 := Try.sizeOf167
  v69 := Try.zeroValue167
  t75 := Try.underlying220
  a75 := Try.isAgg220
  z75 := Try.sizeOf220
  v75 := Try.zeroValue220
  t79 := Try.underlying224
  a79 := Try.isAgg224
  z79 := Try.sizeOf224
  v79 := Try.zeroValue224
  t83 := Try.underlying234
  a83 := Try.isAgg234
  z83 := Try.sizeOf234
  v83 := Try.zeroValue234
  t84 := Try.underlying235
  a84 := Try.isAgg235
  z84 := Try.sizeOf235
  v84 := Try.zeroValue235 }
theorem lib_SortInt {w : World} {b n t c : Nat} {xs : List Int} (h : Own eI w (some ⟨b, 0, none⟩) n t xs) (hn : n ≤ 1000000000) :
    Does Try.prog 135 [.slice (some ⟨b, 0, none⟩) n c] w (fun v w' => v = .tuple #[] ∧ Own eI w' (some ⟨b, 0, none⟩) n t (sortI xs) ∧ Mod (blkIn (some ⟨b, 0, none⟩)) w w') := by
  have hlen := h.1
  have hlt : b < w.heap.size := h.lt _ rfl
  have hS := AnyG.slices_Sort_int lay_SortInt b 0 c xs w (holdsI h) hlt (by omega)
  rw [show xs.length = n by omega] at hS
  have hS' : Calls Try.prog 135 #[.slice (some ⟨b, 0, none⟩) n c] w _ := hS
  refine Does.of_calls (by kernel_rfl) (hS'.mono ?_)
  rintro _ w' ⟨rfl, m, os, hw⟩
  have := sortedI_own h (d := sortI xs) (sortI_len xs) hw
  exact ⟨_, rfl, rfl, this.1, this.2⟩
theorem impl_MedianOf {w : World} {a : Option Addr} {n c : Nat} {xs : List (List Int)} (h : ArrS RCard w a n xs) {f : TField} (hf : f.ok) (hn1 : n ≤ 1048576) : Does Try.prog 62 [.slice a n c, .agg ⟨f.enc⟩] w (fun v w' => v = .tuple #[.int .i64 (medianM xs f).1, .int .i64 (medianM xs f).2] ∧ Ext w w') := by
  have hn := h.len
  obtain ⟨L, cd, hr⟩ : ∃ L cd, numbersIf true xs f = (L, cd) := ⟨_, _, rfl⟩
  have hL : L.length ≤ 1048576 := by
    have : (numbersIf true xs f).1.length ≤ xs.length := numbersIf_len xs f
    rw [hr] at this
    dsimp only at this
    omega
  have hN : ∀ u, Ext w u → Does Try.prog 131 [.slice a n c, .agg ⟨f.enc⟩, .bool true] u (fun v w' => ∃ a' c', v = .tuple #[.slice a' L.length c', .int .i64 cd] ∧ NewAt u.heap.size a' ∧ Own eI w' a' L.length 2 L ∧ Ext u w') := fun u e => by
    have h2 := impl_numbersOf (c := c) (h.ext e) hf true
    rw [hr] at h2
    refine h2.mono ?_
    rintro v w' ⟨a', n', c', rfl, hN, hO, hE⟩
    have hl : L.length = n' := hO.1
    subst hl
    exact ⟨a', c', rfl, hN, hO, hE⟩
  by_cases hc : cd = 0
  · subst hc
    cases hLL : L with
    | nil =>
      subst hLL
      rw [median_none hr]
      refine Does.of_vc tabok Try.func62 rfl rfl rfl (by kernel_rfl) ?_; conv => whnf
      refine SemK.box ?_
      intro b2 w2 g2 l2 e2 B2
      conv => whnf
      refine SemK.loadAgg (n := 2) (by kernel_rfl) B2.cells rfl ?_
      conv => whnf
      refine (hN _ e2).mono ?_
      rintro _ w8 ⟨a'3, c'4, rfl, N5, O6, e7⟩
      conv => whnf
      exact ⟨rfl, (Ext.trans e2 e7)⟩
    | cons q L' =>
      have hL0 : 0 < L.length := by rw [hLL]; simp
      clear hLL
      have hsl := sortI_len L
      obtain ⟨v, hv⟩ := get_of_lt (l := sortI L) (k := (L.length - 1) / 2) (by omega)
      rw [median_some hr hv]
      generalize hll : L.length = ll at *
      generalize hS : sortI L = S at *
      have hSo : ∀ (u : World) (b t c : Nat), Own eI u (some ⟨b, 0, none⟩) ll t L → Does Try.prog 135 [.slice (some ⟨b, 0, none⟩) ll c] u (fun v w' => v = .tuple #[] ∧ Own eI w' (some ⟨b, 0, none⟩) ll t S ∧ Mod (blkIn (some ⟨b, 0, none⟩)) u w') := fun u b t c h => by
        have := lib_SortInt (c := c) h (by omega)
        rw [hS] at this
        exact this
      refine Does.of_vc tabok Try.func62 rfl rfl rfl (by kernel_rfl) ?_; conv => whnf
      refine SemK.box ?_
      intro b2 w2 g2 l2 e2 B2
      conv => whnf
      refine SemK.loadAgg (n := 2) (by kernel_rfl) B2.cells rfl ?_
      conv => whnf
      refine (hN _ e2).mono ?_
      rintro _ w8 ⟨a'3, c'4, rfl, N5, O6, e7⟩
      conv => whnf
      refine IfB.no (by omega) ?_
      conv => whnf
      obtain ⟨b9, rfl⟩ := O6.some (by omega)
      refine (hSo _ _ _ _ O6).mono ?_
      rintro _ w12 ⟨rfl, O10, m11⟩
      conv => whnf
      refine SemK.sub (((ll - 1 : Nat) : Int)) (by omega) (by omega) (by omega) ?_
      conv => whnf
      refine SemK.quo (by omega) (by omega) (by omega) ?_
      rw [show (((ll - 1 : Nat) : Int) / 2) = (((ll - 1) / 2 : Nat) : Int) from by omega]
      conv => whnf
      refine SemK.indexOwn (sz := 1) (by kernel_rfl) ((ll - 1) / 2) rfl (by omega) ?_
      have hbx := Own.elem eI_len O10 hv
      conv => whnf
      refine SemK.load0 (by kernel_rfl) hbx rfl ?_
      conv => whnf
      exact ⟨rfl, (Ext.mod_trans (Ext.trans e2 e7) m11 (fun k hk => Nat.le_trans (Below.size e2) (blkIn_new N5 k hk)))⟩
  · rw [median_bad hr hc]
    refine Does.of_vc tabok Try.func62 rfl rfl rfl (by kernel_rfl) ?_; conv => whnf
    refine SemK.box ?_
    intro b2 w2 g2 l2 e2 B2
    conv => whnf
    refine SemK.loadAgg (n := 2) (by kernel_rfl) B2.cells rfl ?_
    conv => whnf
    refine (hN _ e2).mono ?_
    rintro _ w8 ⟨a'3, c'4, rfl, N5, O6, e7⟩
    conv => whnf
    refine IfB.eqt (by simp [*]; done) ?_
    conv => whnf
    exact ⟨rfl, (Ext.trans e2 e7)⟩
end Go.Proofs.Ytjlhbaemfiaeiaa
