/- Contracts of functions of the given program, of the reference and of the laws: each says what a call returns, for all arguments that meet the premises that the theorem itself names. -/
import Derived.Test.YtkjmbjedbmblmaaGreatDoorFBox
import Derived.Test.YtkjmbjedbmblmaaGreatDoorStoreM
import Derived.Test.YtkjmbjedbmblmaaGreatDoorVcRowK
import Derived.Test.YtkjmbjedbmblmaaGreatDoorLiftBase
import Derived.Shelf.Small.Strs
import Derived.Shelf.SlSortCmp.WholeK
namespace Go.Proofs.YtkjmbjedbmblmaaGreatDoor
open Go Go.RowKit Go.Vc Go.M Go.Shelf Go.Proofs Go.Sort
def lay_Compare_ren : Go.Shelf.Ren := ⟨fun | 106 => 158 | 213 => 251 | 265 => 319 | n => n, fun | 9 => 9 | 3 => 3 | n => n, fun | n => n⟩
theorem lay_Compare : Go.Proofs.Lays.n106 Tryz.prog lay_Compare_ren := {
  mixed := by kernel_rfl
  f106 := Tryz.func158.trans (congrArg some (by kernel_rfl))
  f213 := Tryz.func251.trans (congrArg some (by kernel_rfl))
  f265 := Tryz.func319.trans (congrArg some (by kernel_rfl))
  t3 := Tryz.underlying3
  a3 := Tryz.isAgg3
  z3 := Tryz.sizeOf3
  v3 := Tryz.zeroValue3
  t9 := Tryz.underlying9
  a9 := Tryz.isAgg9
  z9 := Tryz.sizeOf9
  v9 := Tryz.zeroValue9 }
theorem lib_Compare (a b : ByteArray) (w : World) : Does Tryz.prog 158 [.string a, .string b] w (fun v w' => v = .int .i64 (Lib.compareBytes a.data.toList b.data.toList) ∧ w = w') := by
  have h : Calls Tryz.prog 158 #[.string a, .string b] w _ := Any.strings_Compare lay_Compare a b w
  refine Does.of_calls (by kernel_rfl) (h.mono ?_)
  rintro _ _ ⟨rfl, rfl⟩
  exact ⟨_, rfl, rfl, rfl⟩
theorem SemK.boxX {P : Program} {t : Nat} {v : Value} {w : World} {K : Value → World → Prop} (hK : ∀ w1, w1 = w.alloc (.cells v.cells t) → Ext w w1 → Blk w1 w.heap.size v.cells.toList t → K (.pointer (some ⟨w.heap.size, 0, none⟩)) w1) : SemK P (Instr.box t v) w K := by
  refine SemK.of (v := .pointer (some ⟨w.heap.size, 0, none⟩)) (w' := w.alloc (.cells v.cells t)) ?_ (hK _ rfl (alloc_ext _ _) (alloc_blk w v.cells.toList t))
  simp only [Instr.box, newVar, newRow, newObj]; rfl
theorem impl_StoreBox1 (x y : TBox) (w : World) : Does Tryz.prog 157 [.agg ⟨x.enc⟩, .agg ⟨y.enc⟩] w (fun v w' => v = .int .i64 (Lib.compareBytes x.name.data.toList y.name.data.toList) ∧ ∃ os', w' = grow w os') := by
  refine Does.of_vc tabok Tryz.func157 rfl rfl rfl (by kernel_rfl) ?_; conv => whnf
  refine SemK.boxX ?_
  intro w1 h1 e1 B1
  conv => whnf
  refine SemK.boxX ?_
  intro w2 h2 e2 B2
  conv => whnf
  refine SemK.load1 (by kernel_rfl) (B1.ext e2).cells (k := 0) rfl ?_
  conv => whnf
  refine SemK.load1 (by kernel_rfl) B2.cells (k := 0) rfl ?_
  conv => whnf
  refine (lib_Compare _ _ _).mono ?_
  rintro _ _ ⟨rfl, rfl⟩
  conv => whnf
  exact ⟨rfl, _, by rw [h2, h1, alloc_eq_grow, alloc_eq_grow, grow_grow]⟩
def lay_SortBox_ren : Go.Shelf.Ren := ⟨fun | 6 => 156 | 15 => 250 | 14 => 249 | 28 => 317 | 29 => 318 | 20 => 309 | 21 => 310 | 22 => 311 | 23 => 312 | 24 => 313 | 25 => 314 | 26 => 315 | 27 => 316 | 46 => 352 | 47 => 353 | 48 => 354 | 49 => 355 | 50 => 356 | 57 => 390 | n => n, fun | 22 => 97 | 24 => 99 | 25 => 218 | 3 => 3 | 39 => 295 | 0 => 0 | 53 => 355 | 55 => 255 | 4 => 4 | 46 => 348 | 45 => 347 | 50 => 352 | 5 => 5 | 9 => 9 | 66 => 381 | 70 => 385 | 76 => 417 | 77 => 418 | n => n, fun | n => n⟩
theorem lay_SortBox : Go.Proofs.SlLaysF0.n6 Tryz.prog lay_SortBox_ren := {
  mixed := by kernel_rfl
  f6 := ⟨Tryz.f156.name, by decide, Tryz.func156.trans (congrArg some (by kernel_rfl))⟩
  f14 := ⟨Tryz.f249.name, by decide, Tryz.func249.trans (congrArg some (by kernel_rfl))⟩
  f15 := Tryz.func250.trans (congrArg some (by kernel_rfl))
  f20 := ⟨Tryz.f309.name, by decide, Tryz.func309.trans (congrArg some (by kernel_rfl))⟩
  f21 := ⟨Tryz.f310.name, by decide, Tryz.func310.trans (congrArg some (by kernel_rfl))⟩
  f22 := ⟨Tryz.f311.name, by decide, Tryz.func311.trans (congrArg some (by kernel_rfl))⟩
  f23 := ⟨Tryz.f312.name, by decide, Tryz.func312.trans (congrArg some (by kernel_rfl))⟩
  f24 := ⟨Tryz.f313.name, by decide, Tryz.func313.trans (congrArg some (by kernel_rfl))⟩
  f25 := ⟨Tryz.f314.name, by decide, Tryz.func314.trans (congrArg some (by kernel_rfl))⟩
  f26 := ⟨Tryz.f315.name, by decide, Tryz.func315.trans (congrArg some (by kernel_rfl))⟩
  f27 := ⟨Tryz.f316.name, by decide, Tryz.func316.trans (congrArg some (by kernel_rfl))⟩
  f28 := Tryz.func317.trans (congrArg some (by kernel_rfl))
  f29 := Tryz.func318.trans (congrArg some (by kernel_rfl))
  f46 := ⟨Tryz.f352.name, by decide, Tryz.func352.trans (congrArg some (by kernel_rfl))⟩
  f47 := Tryz.func353.trans (congrArg some (by kernel_rfl))
  f48 := Tryz.func354.trans (congrArg some (by kernel_rfl))
  f49 := ⟨Tryz.f355.name, by decide, Tryz.func355.trans (congrArg some (by kernel_rfl))⟩
  f50 := ⟨Tryz.f356.name, by decide, Tryz.func356.trans (congrArg some (by kernel_rfl))⟩
  f57 := ⟨Tryz.f390.name, by decide, Tryz.func390.trans (congrArg some (by kernel_rfl))⟩
  t0 := Tryz.underlying0
  a0 := Tryz.isAgg0
  z0 := Tryz.sizeOf0
  v0 := Tryz.zeroValue0
  t3 := Tryz.underlying3
  a3 := Tryz.isAgg3
  z3 := Tryz.sizeOf3
  v3 := Tryz.zeroValue3
  t4 := Tryz.underlying4
  a4 := Tryz.isAgg4
  z4 := Tryz.sizeOf4
  v4 := Tryz.zeroValue4
  t5 := Tryz.underlying5
  a5 := Tryz.isAgg5
  z5 := Tryz.sizeOf5
  v5 := Tryz.zeroValue5
  t9 := Tryz.underlying9
  a9 := Tryz.isAgg9
  z9 := Tryz.sizeOf9
  v9 := Tryz.zeroValue9
  t22 := Tryz.underlying97
  a22 := Tryz.isAgg97
  z22 := Tryz.sizeOf97
  v22 := Tryz.zeroValue97
  t25 := Tryz.underlying218
  a25 := Tryz.isAgg218
  z25 := Tryz.sizeOf218
  v25 := Tryz.zeroValue218
  t39 := Tryz.underlying295
  a39 := Tryz.isAgg295
  z39 := Tryz.sizeOf295
  v39 := Tryz.zeroValue295
  t45 := Tryz.underlying347
  a45 := Tryz.isAgg347
  z45 := Tryz.sizeOf347
  v45 := Tryz.zeroValue347
  t46 := Tryz.underlying348
  a46 := Tryz.isAgg348
  z46 := Tryz.sizeOf348
  v46 := Tryz.zeroValue348
  t50 := Tryz.underlying352
  a50 := Tryz.isAgg352
  z50 := Tryz.sizeOf352
  v50 := Tryz.zeroValue352
  t53 := Tryz.underlying355
  a53 := Tryz.isAgg355
  z53 := Tryz.sizeOf355
  v53 := Tryz.zeroValue355
  t55 := Tryz.underlying255
  a55 := Tryz.isAgg255
  z55 := Tryz.sizeOf255
  v55 := Tryz.zeroValue255
  t66 := Tryz.underlying381
  a66 := Tryz.isAgg381
  z66 := Tryz.sizeOf381
  v66 := Tryz.zeroValue381
  t70 := Tryz.underlying385
  a70 := Tryz.isAgg385
  z70 := Tryz.sizeOf385
  v70 := Tryz.zeroValue385
  t76 := Tryz.underlying417
  a76 := Tryz.isAgg417
  z76 := Tryz.sizeOf417
  v76 := Tryz.zeroValue417
  t77 := Tryz.underlying418
  a77 := Tryz.isAgg418
  z77 := Tryz.sizeOf418
  v77 := Tryz.zeroValue418 }
def cfBox (x y : TBox) : Int := Lib.compareBytes x.name.data.toList y.name.data.toList
theorem ltBox (x y : TBox) : ltOf cfBox x y = Op.bytesLess x.name.toList y.name.toList := by
  unfold ltOf cfBox
  rw [cmpB_lt, ByteArray.toList_eq, ByteArray.toList_eq]
theorem swoBox : SWO (ltOf cfBox) where
  irrefl x := by rw [ltBox]; exact bl_irrefl _
  trans x y z h1 h2 := by rw [ltBox] at *; exact bl_trans _ _ _ h1 h2
  ntrans x y z h1 h2 := by
    rw [ltBox] at *
    cases h : Op.bytesLess x.name.toList z.name.toList with
    | false => rfl
    | true =>
      cases h3 : Op.bytesLess y.name.toList x.name.toList with
      | true => rw [bl_trans _ _ _ h3 h] at h2; cases h2
      | false =>
        have e := bl_total _ _ h1 h3
        rw [e, h2] at h
        cases h
theorem lib_SortBox {w : World} {b n t c : Nat} {xs : List TBox} (h : Own TBox.enc w (some ⟨b, 0, none⟩) n t xs) (hn : n ≤ 1000) :
    Does Tryz.prog 156 [.slice (some ⟨b, 0, none⟩) n c, .func (.func 157) ⟨[]⟩ ⟨[]⟩] w (fun v w' => ∃ d, v = .tuple #[] ∧ d.Perm xs ∧ (d.Pairwise fun a b => Op.bytesLess b.name.toList a.name.toList = false) ∧ Own TBox.enc w' (some ⟨b, 0, none⟩) n t d ∧ Mod (blkIn (some ⟨b, 0, none⟩)) w w') := by
  have hlen := h.1
  have hlt : b < w.heap.size := h.lt _ rfl
  have eg : ∀ args w, (callFunc 157 args).run Tryz.prog w = .ok (.enter 157 args) w := enters_of Tryz.func157 (by kernel_rfl) rfl
  have hcmp : CmpLays Tryz.prog 157 #[] TBox.enc 5 cfBox b 0 xs.toArray.size w := by
    intro m os dk _ x y
    have := (impl_StoreBox1 x y (sortWorldK TBox.enc 5 w b 0 m dk os)).calls
    exact this.mono fun e w' ⟨v, he, hv, os', hw⟩ => ⟨by rw [he, hv]; rfl, 0, os', hw⟩
  have hS := AnyQ.slices_SortFunc lay_SortBox 5 Tryz.isAgg99 Tryz.sizeOf99 TBox.enc TBox.enc_len (fun x v hv => by simp [TBox.enc] at hv; rcases hv with rfl | rfl | rfl | rfl | rfl <;> rfl) cfBox swoBox 157 #[] b 0 c xs.toArray w eg hcmp (h.holdsK TBox.enc_len (by decide)) hlt (by simp; omega)
  have hsz : xs.toArray.size = n := by simpa using hlen
  rw [hsz] at hS
  have hS' : Calls Tryz.prog 156 #[.slice (some ⟨b, 0, none⟩) n c, .func (.func 157) #[] #[]] w _ := hS
  refine Does.of_calls (by kernel_rfl) (hS'.mono ?_)
  rintro _ w' ⟨rfl, d', m, os, hp, hs, hw⟩
  obtain ⟨hd1, _, hd3⟩ := hp
  have hdn : d'.size = n := by omega
  have e1 : d'.extract 0 n = d' := by rw [← hdn]; exact Array.extract_size
  have e2 : xs.toArray.extract 0 n = xs.toArray := by rw [← hsz]; exact Array.extract_size
  rw [e1, e2] at hd3
  obtain ⟨hO, hMd⟩ := sorted_own (d := d'.toList) TBox.enc_len (by decide) h (by rw [Array.length_toList]; omega) (m := m) (os := os) (by simpa using hw)
  refine ⟨_, rfl, d'.toList, rfl, by simpa using hd3, ?_, hO, hMd⟩
  rw [List.pairwise_iff_getElem]
  intro i j hi hj hij
  have hi' : i < d'.size := by simpa using hi
  have hj' : j < d'.size := by simpa using hj
  have := hs i j (Nat.zero_le _) hij (by omega)
  rw [getElem!_pos d' j hj', getElem!_pos d' i hi', ltBox] at this
  simpa using this
theorem lib_SortBoxes {w : World} {a : Option Addr} {n t c : Nat} {xs : List TBox} (h : Own TBox.enc w a n t xs) (h0 : 0 < n) (hn : n ≤ 1000) :
    Does Tryz.prog 156 [.slice a n c, .func (.func 157) ⟨[]⟩ ⟨[]⟩] w (fun v w' => ∃ d, v = .tuple #[] ∧ d.Perm xs ∧ (d.Pairwise fun a b => Op.bytesLess b.name.toList a.name.toList = false) ∧ Own TBox.enc w' a n t d ∧ Mod (blkIn a) w w') := by
  obtain ⟨b, rfl⟩ := h.some h0
  exact lib_SortBox h hn
end Go.Proofs.YtkjmbjedbmblmaaGreatDoor
