/- Contracts of functions of the given program, of the reference and of the laws: each says what a call returns, for all arguments that meet the premises that the theorem itself names. -/
import Derived.Test.YtmhnmdcleeadiaaFBox
import Derived.Test.YtmhnmdcleeadiaaStoreM
import Derived.Test.YtmhnmdcleeadiaaVcRowK
import Derived.Test.YtmhnmdcleeadiaaLiftBase
import Derived.Shelf.Small.Strs
import Derived.Shelf.SlSortCmp.WholeK
namespace Go.Proofs.Ytmhnmdcleeadiaa
open Go Go.RowKit Go.Vc Go.M Go.Shelf Go.Proofs Go.Sort
def lay_Compare_ren : Go.Shelf.Ren := ⟨fun | 106 => 49 | 213 => 80 | 265 => 111 | n => n, fun | 9 => 9 | 3 => 3 | n => n, fun | n => n⟩
theorem lay_Compare : Go.Proofs.Lays.n106 Try.prog lay_Compare_ren := {
  mixed := by kernel_rfl
  f106 := Try.func49.trans (congrArg some (by kernel_rfl))
  f213 := Try.func80.trans (congrArg some (by kernel_rfl))
  f265 := Try.func111.trans (congrArg some (by kernel_rfl))
  t3 := Try.underlying3
  a3 := Try.isAgg3
  z3 := Try.sizeOf3
  v3 := Try.zeroValue3
  t9 := Try.underlying9
  a9 := Try.isAgg9
  z9 := Try.sizeOf9
  v9 := Try.zeroValue9 }
theorem lib_Compare (a b : ByteArray) (w : World) : Does Try.prog 49 [.string a, .string b] w (fun v w' => v = .int .i64 (Lib.compareBytes a.data.toList b.data.toList) ∧ w = w') := by
  have h : Calls Try.prog 49 #[.string a, .string b] w _ := Any.strings_Compare lay_Compare a b w
  refine Does.of_calls (by kernel_rfl) (h.mono ?_)
  rintro _ _ ⟨rfl, rfl⟩
  exact ⟨_, rfl, rfl, rfl⟩
theorem SemK.boxX {P : Program} {t : Nat} {v : Value} {w : World} {K : Value → World → Prop} (hK : ∀ w1, w1 = w.alloc (.cells v.cells t) → Ext w w1 → Blk w1 w.heap.size v.cells.toList t → K (.pointer (some ⟨w.heap.size, 0, none⟩)) w1) : SemK P (Instr.box t v) w K := by
  refine SemK.of (v := .pointer (some ⟨w.heap.size, 0, none⟩)) (w' := w.alloc (.cells v.cells t)) ?_ (hK _ rfl (alloc_ext _ _) (alloc_blk w v.cells.toList t))
  simp only [Instr.box, newVar, newRow, newObj]; rfl
theorem impl_StoreBox1 (x y : TBox) (w : World) : Does Try.prog 48 [.agg ⟨x.enc⟩, .agg ⟨y.enc⟩] w (fun v w' => v = .int .i64 (Lib.compareBytes x.name.data.toList y.name.data.toList) ∧ ∃ os', w' = grow w os') := by
  refine Does.of_vc tabok Try.func48 rfl rfl rfl (by kernel_rfl) ?_; conv => whnf
  refine SemK.boxX ?_
  intro w1 h1 e1 B1
  conv => whnf
  refine SemK.boxX ?_
  intro w2 h2 e2 B2
  conv => whnf
  refine SemK.load1 (by kernel_rfl) (B1.ext e2).cells (k := 0) rfl ?_
  conv => whnf
  refine SemK.load1 (by kernel_rfl) B2.cells (k := 0) rfl ?_
  conv => whnf
  refine (lib_Compare _ _ _).mono ?_
  rintro _ _ ⟨rfl, rfl⟩
  conv => whnf
  exact ⟨rfl, _, by rw [h2, h1, alloc_eq_grow, alloc_eq_grow, grow_grow]⟩
def lay_SortBox_ren : Go.Shelf.Ren := ⟨fun | 6 => 47 | 15 => 79 | 14 => 78 | 28 => 109 | 29 => 110 | 20 => 101 | 21 => 102 | 22 => 103 | 23 => 104 | 24 => 105 | 25 => 106 | 26 => 107 | 27 => 108 | 46 => 126 | 47 => 127 | 48 => 128 | 49 => 129 | 50 => 130 | 57 => 141 | n => n, fun | 22 => 27 | 24 => 31 | 25 => 74 | 3 => 3 | 39 => 105 | 0 => 0 | 53 => 130 | 55 => 132 | 4 => 4 | 46 => 123 | 45 => 122 | 50 => 127 | 5 => 5 | 9 => 9 | 66 => 145 | 70 => 149 | 76 => 161 | 77 => 162 | n => n, fun | n => n⟩
theorem lay_SortBox : Go.Proofs.SlLaysF0.n6 Try.prog lay_SortBox_ren := {
  mixed := by kernel_rfl
  f6 := ⟨Try.f47.name, by decide, Try.func47.trans (congrArg some (by kernel_rfl))⟩
  f14 := ⟨Try.f78.name, by decide, Try.func78.trans (congrArg some (by kernel_rfl))⟩
  f15 := Try.func79.trans (congrArg some (by kernel_rfl))
  f20 := ⟨Try.f101.name, by decide, Try.func101.trans (congrArg some (by kernel_rfl))⟩
  f21 := ⟨Try.f102.name, by decide, Try.func102.trans (congrArg some (by kernel_rfl))⟩
  f22 := ⟨Try.f103.name, by decide, Try.func103.trans (congrArg some (by kernel_rfl))⟩
  f23 := ⟨Try.f104.name, by decide, Try.func104.trans (congrArg some (by kernel_rfl))⟩
  f24 := ⟨Try.f105.name, by decide, Try.func105.trans (congrArg some (by kernel_rfl))⟩
  f25 := ⟨Try.f106.name, by decide, Try.func106.trans (congrArg some (by kernel_rfl))⟩
  f26 := ⟨Try.f107.name, by decide, Try.func107.trans (congrArg some (by kernel_rfl))⟩
  f27 := ⟨Try.f108.name, by decide, Try.func108.trans (congrArg some (by kernel_rfl))⟩
  f28 := Try.func109.trans (congrArg some (by kernel_rfl))
  f29 := Try.func110.trans (congrArg some (by kernel_rfl))
  f46 := ⟨Try.f126.name, by decide, Try.func126.trans (congrArg some (by kernel_rfl))⟩
  f47 := Try.func127.trans (congrArg some (by kernel_rfl))
  f48 := Try.func128.trans (congrArg some (by kernel_rfl))
  f49 := ⟨Try.f129.name, by decide, Try.func129.trans (congrArg some (by kernel_rfl))⟩
  f50 := ⟨Try.f130.name, by decide, Try.func130.trans (congrArg some (by kernel_rfl))⟩
  f57 := ⟨Try.f141.name, by decide, Try.func141.trans (congrArg some (by kernel_rfl))⟩
  t0 := Try.underlying0
  a0 := Try.isAgg0
  z0 := Try.sizeOf0
  v0 := Try.zeroValue0
  t3 := Try.underlying3
  a3 := Try.isAgg3
  z3 := Try.sizeOf3
  v3 := Try.zeroValue3
  t4 := Try.underlying4
  a4 := Try.isAgg4
  z4 := Try.sizeOf4
  v4 := Try.zeroValue4
  t5 := Try.underlying5
  a5 := Try.isAgg5
  z5 := Try.sizeOf5
  v5 := Try.zeroValue5
  t9 := Try.underlying9
  a9 := Try.isAgg9
  z9 := Try.sizeOf9
  v9 := Try.zeroValue9
  t22 := Try.underlying27
  a22 := Try.isAgg27
  z22 := Try.sizeOf27
  v22 := Try.zeroValue27
  t25 := Try.underlying74
  a25 := Try.isAgg74
  z25 := Try.sizeOf74
  v25 := Try.zeroValue74
  t39 := Try.underlying105
  a39 := Try.isAgg105
  z39 := Try.sizeOf105
  v39 := Try.zeroValue105
  t45 := Try.underlying122
  a45 := Try.isAgg122
  z45 := Try.sizeOf122
  v45 := Try.zeroValue122
  t46 := Try.underlying123
  a46 := Try.isAgg123
  z46 := Try.sizeOf123
  v46 := Try.zeroValue123
  t50 := Try.underlying127
  a50 := Try.isAgg127
  z50 := Try.sizeOf127
  v50 := Try.zeroValue127
  t53 := Try.underlying130
  a53 := Try.isAgg130
  z53 := Try.sizeOf130
  v53 := Try.zeroValue130
  t55 := Try.underlying132
  a55 := Try.isAgg132
  z55 := Try.sizeOf132
  v55 := Try.zeroValue132
  t66 := Try.underlying145
  a66 := Try.isAgg145
  z66 := Try.sizeOf145
  v66 := Try.zeroValue145
  t70 := Try.underlying149
  a70 := Try.isAgg149
  z70 := Try.sizeOf149
  v70 := Try.zeroValue149
  t76 := Try.underlying161
  a76 := Try.isAgg161
  z76 := Try.sizeOf161
  v76 := Try.zeroValue161
  t77 := Try.underlying162
  a77 := Try.isAgg162
  z77 := Try.sizeOf162
  v77 := Try.zeroValue162 }
def cfBox (x y : TBox) : Int := Lib.compareBytes x.name.data.toList y.name.data.toList
theorem ltBox (x y : TBox) : ltOf cfBox x y = Op.bytesLess x.name.toList y.name.toList := by
  unfold ltOf cfBox
  rw [cmpB_lt, ByteArray.toList_eq, ByteArray.toList_eq]
theorem swoBox : SWO (ltOf cfBox) where
  irrefl x := by rw [ltBox]; exact bl_irrefl _
  trans x y z h1 h2 := by rw [ltBox] at *; exact bl_trans _ _ _ h1 h2
  ntrans x y z h1 h2 := by
    rw [ltBox] at *
    cases h : Op.bytesLess x.name.toList z.name.toList with
    | false => rfl
    | true =>
      cases h3 : Op.bytesLess y.name.toList x.name.toList with
      | true => rw [bl_trans _ _ _ h3 h] at h2; cases h2
      | false =>
        have e := bl_total _ _ h1 h3
        rw [e, h2] at h
        cases h
theorem lib_SortBox {w : World} {b n t c : Nat} {xs : List TBox} (h : Own TBox.enc w (some ⟨b, 0, none⟩) n t xs) (hn : n ≤ 1000) :
    Does Try.prog 47 [.slice (some ⟨b, 0, none⟩) n c, .func (.func 48) ⟨[]⟩ ⟨[]⟩] w (fun v w' => ∃ d, v = .tuple #[] ∧ d.Perm xs ∧ (d.Pairwise fun a b => Op.bytesLess b.name.toList a.name.toList = false) ∧ Own TBox.enc w' (some ⟨b, 0, none⟩) n t d ∧ Mod (blkIn (some ⟨b, 0, none⟩)) w w') := by
  have hlen := h.1
  have hlt : b < w.heap.size := h.lt _ rfl
  have eg : ∀ args w, (callFunc 48 args).run Try.prog w = .ok (.enter 48 args) w := enters_of Try.func48 (by kernel_rfl) rfl
  have hcmp : CmpLays Try.prog 48 #[] TBox.enc 5 cfBox b 0 xs.toArray.size w := by
    intro m os dk _ x y
    have := (impl_StoreBox1 x y (sortWorldK TBox.enc 5 w b 0 m dk os)).calls
    exact this.mono fun e w' ⟨v, he, hv, os', hw⟩ => ⟨by rw [he, hv]; rfl, 0, os', hw⟩
  have hS := AnyQ.slices_SortFunc lay_SortBox 5 Try.isAgg31 Try.sizeOf31 TBox.enc TBox.enc_len (fun x v hv => by simp [TBox.enc] at hv; rcases hv with rfl | rfl | rfl | rfl | rfl <;> rfl) cfBox swoBox 48 #[] b 0 c xs.toArray w eg hcmp (h.holdsK TBox.enc_len (by decide)) hlt (by simp; omega)
  have hsz : xs.toArray.size = n := by simpa using hlen
  rw [hsz] at hS
  have hS' : Calls Try.prog 47 #[.slice (some ⟨b, 0, none⟩) n c, .func (.func 48) #[] #[]] w _ := hS
  refine Does.of_calls (by kernel_rfl) (hS'.mono ?_)
  rintro _ w' ⟨rfl, d', m, os, hp, hs, hw⟩
  obtain ⟨hd1, _, hd3⟩ := hp
  have hdn : d'.size = n := by omega
  have e1 : d'.extract 0 n = d' := by rw [← hdn]; exact Array.extract_size
  have e2 : xs.toArray.extract 0 n = xs.toArray := by rw [← hsz]; exact Array.extract_size
  rw [e1, e2] at hd3
  obtain ⟨hO, hMd⟩ := sorted_own (d := d'.toList) TBox.enc_len (by decide) h (by rw [Array.length_toList]; omega) (m := m) (os := os) (by simpa using hw)
  refine ⟨_, rfl, d'.toList, rfl, by simpa using hd3, ?_, hO, hMd⟩
  rw [List.pairwise_iff_getElem]
  intro i j hi hj hij
  have hi' : i < d'.size := by simpa using hi
  have hj' : j < d'.size := by simpa using hj
  have := hs i j (Nat.zero_le _) hij (by omega)
  rw [getElem!_pos d' j hj', getElem!_pos d' i hi', ltBox] at this
  simpa using this
theorem lib_SortBoxes {w : World} {a : Option Addr} {n t c : Nat} {xs : List TBox} (h : Own TBox.enc w a n t xs) (h0 : 0 < n) (hn : n ≤ 1000) :
    Does Try.prog 47 [.slice a n c, .func (.func 48) ⟨[]⟩ ⟨[]⟩] w (fun v w' => ∃ d, v = .tuple #[] ∧ d.Perm xs ∧ (d.Pairwise fun a b => Op.bytesLess b.name.toList a.name.toList = false) ∧ Own TBox.enc w' a n t d ∧ Mod (blkIn a) w w') := by
  obtain ⟨b, rfl⟩ := h.some h0
  exact lib_SortBox h hn
end Go.Proofs.Ytmhnmdcleeadiaa
