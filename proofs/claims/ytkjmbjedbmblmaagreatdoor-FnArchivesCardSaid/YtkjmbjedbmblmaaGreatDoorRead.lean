/- Contracts of functions of the given program, of the reference and of the laws: each says what a call returns, for all arguments that meet the premises that the theorem itself names. -/
import Derived.Test.YtkjmbjedbmblmaaGreatDoorReadM
import Derived.Test.YtkjmbjedbmblmaaGreatDoorTexts
import Derived.Test.YtkjmbjedbmblmaaGreatDoorDec
import Derived.Test.YtkjmbjedbmblmaaGreatDoorVcWrite
import Derived.Test.YtkjmbjedbmblmaaGreatDoorSts
namespace Go.M
open Go Go.Vc
theorem split_ends (c : UInt8) (s : ByteArray) : ∃ init last, splitS c s = init ++ [last] := by
  have hne : splitS c s ≠ [] := fun e => by have := splitS_pos c s; rw [e] at this; simp at this
  exact ⟨_, _, (List.dropLast_concat_getLast hne).symm⟩
theorem get_init {α : Type} {init : List α} {last x : α} {k : Nat} (h : init[k]? = some x) : (init ++ [last])[k]? = some x := by
  rw [List.getElem?_append_left (List.getElem?_eq_some_iff.1 h).1]; exact h
theorem get_last {α : Type} (init : List α) (last : α) : (init ++ [last])[init.length]? = some last := by simp
theorem readS_at {α : Type} {dec : ByteArray → Option α} {ok : List α → Bool} {s : ByteArray} {init : List ByteArray} {last : ByteArray} (h : splitS 10 s = init ++ [last]) :
    readS dec ok s = if last = { data := #[] } ∧ init.length ≤ 40 then (match decs dec init with
      | some xs => if ok xs = true then some xs else none
      | none => none) else none := by
  unfold readS
  rw [h, List.dropLast_concat]
  have e1 : ((init ++ [last]).getLast? = some { data := #[] } ∧ (init ++ [last]).length ≤ 41) ↔ (last = { data := #[] } ∧ init.length ≤ 40) := by
    simp
  simp only [e1]
  rfl
theorem readI_at {α : Type} {dec : ByteArray → Option α} {ok : List α → Bool} {text : List α → ByteArray} {s : ByteArray} {init : List ByteArray} {last : ByteArray} (h : splitS 10 s = init ++ [last]) :
    readI dec ok text s = if init.length ≤ 40 then (match decs dec init with
      | some xs => if ok xs = true ∧ text xs = s then some xs else none
      | none => none) else none := by
  unfold readI
  rw [h, List.dropLast_concat]
  have e1 : ((init ++ [last]).length ≤ 41) ↔ (init.length ≤ 40) := by
    simp
  simp only [e1]
  rfl
theorem list3 {α : Type} {l : List α} (h : l.length = 3) : ∃ a b c, l = [a, b, c] := by
  match l, h with
  | [a, b, c], _ => exact ⟨a, b, c, rfl⟩
theorem list4 {α : Type} {l : List α} (h : l.length = 4) : ∃ a b c d, l = [a, b, c, d] := by
  match l, h with
  | [a, b, c, d], _ => exact ⟨a, b, c, d, rfl⟩
theorem list2 {α : Type} {l : List α} (h : l.length = 2) : ∃ a b, l = [a, b] := by
  match l, h with
  | [a, b], _ => exact ⟨a, b, rfl⟩
theorem decBox_len {l : ByteArray} (h3 : (splitS 32 l).length ≠ 3) (h4 : (splitS 32 l).length ≠ 4) : decBox l = none := by
  unfold decBox
  split
  · rename_i hs; rw [hs] at h3; simp at h3
  · rename_i hs; rw [hs] at h4; simp at h4
  · rfl
theorem decs_all {α β : Type} {dec : β → Option α} {P : α → Prop} : ∀ {ls : List β} {out : List α}, (∀ l ∈ ls, ∀ x, dec l = some x → P x) → decs dec ls = some out → ∀ x ∈ out, P x
  | [], out, _, h => by
    simp only [decs, Option.some.injEq] at h
    subst h
    simp
  | l :: ls, out, hp, h => by
    simp only [decs] at h
    cases hx : dec l with
    | none => rw [hx] at h; cases h
    | some x =>
      cases hs : decs dec ls with
      | none => rw [hx, hs] at h; cases h
      | some xs =>
        rw [hx, hs] at h
        simp only [Option.some.injEq] at h
        subst h
        intro y hy
        rcases List.mem_cons.1 hy with rfl | hy
        · exact hp l (by simp) _ hx
        · exact decs_all (fun l hl => hp l (by simp [hl])) hs y hy
theorem boxOf_ok {n c y k w : ByteArray} {x : TBox} (h : boxOf n c y k w = some x) (hn : n.size ≤ 1048576) (hw : w.size ≤ 1048576) : x.ok := by
  obtain ⟨_, rfl⟩ := boxOf_some h
  exact ⟨by simp only [strok]; omega, numI_ok _, numI_ok _, numI_ok _, by simp only [strok]; omega⟩
theorem decBoxI_ok {l : ByteArray} {x : TBox} (hl : l.size ≤ 1048576) (h : decBoxI l = some x) : x.ok := by
  unfold decBoxI at h
  split at h
  · rename_i n c v hs
    exact boxOf_ok h (Nat.le_trans (splitS_le (c := 32) (by rw [hs]; simp)) hl) (by show 0 ≤ 1048576; omega)
  · rename_i n c v w hs
    exact boxOf_ok h (Nat.le_trans (splitS_le (c := 32) (by rw [hs]; simp)) hl) (Nat.le_trans (splitS_le (c := 32) (by rw [hs]; simp)) hl)
  · cases h
theorem decBox_ok {l : ByteArray} {x : TBox} (hl : l.size ≤ 1048576) (h : decBox l = some x) : x.ok := decBoxI_ok hl (decBox_some h).1
theorem cut_sizes {c : UInt8} (s : ByteArray) : (bs (Lib.cut s.data.toList [c]).1).size ≤ s.size ∧ (bs (Lib.cut s.data.toList [c]).2.1).size ≤ s.size := by
  have hs : s.data.toList.length = s.size := by simp
  rw [bs_size, bs_size]
  unfold Lib.cut
  split
  · simp
    omega
  · simp
theorem readBoxes_len (s : ByteArray) : ((readBoxes s).getD []).length ≤ 40 := by
  cases h : readBoxes s with
  | none => simp
  | some xs => exact (boxesB_mem' (readS_ok h)).1
theorem readParts_len (s : ByteArray) : ((readParts s).getD []).length ≤ 40 := by
  cases h : readParts s with
  | none => simp
  | some xs => exact (partsB_mem' (readS_ok h)).1
theorem decBoxI_len {l : ByteArray} (h3 : (splitS 32 l).length ≠ 3) (h4 : (splitS 32 l).length ≠ 4) : decBoxI l = none := by
  unfold decBoxI
  split
  · rename_i hs; rw [hs] at h3; simp at h3
  · rename_i hs; rw [hs] at h4; simp at h4
  · rfl
end Go.M
namespace Go.Proofs.YtkjmbjedbmblmaaGreatDoor
open Go Go.RowKit Go.Vc Go.M Go.Shelf Go.Proofs
theorem split_at3 {s : ByteArray} {c : UInt8} {ws : List ByteArray} (hs : s.size ≤ 1048576) (hl : splitS c s = ws) (u : World) :
    Does Tryz.prog 178 [.string s, .int .u8 c.toNat] u (fun v w' => ∃ a k, v = .slice a ws.length k ∧ NewAt u.heap.size a ∧ Own eS w' a ws.length 9 ws ∧ Ext u w') := (spec_l01Split hs c u).mono (by
  rintro _ w' ⟨a, n, k, rfl, h1, h2, h3⟩
  rw [hl] at h2
  obtain rfl := h2.1
  exact ⟨a, k, rfl, h1, h2, h3⟩)
theorem spec_l26Line3 {line n0 c0 v0 y0 k0 : ByteArray} (hs : line.size ≤ 1048576) (hl : splitS 32 line = [n0, c0, v0]) (hv : splitS 43 v0 = [y0, k0]) (w : World) :
    Does Tryz.prog 179 [.string line] w (fun v w' => v = .tuple #[.agg #[.string n0, .int .i64 (numI c0), .int .i64 (numI y0), .int .i64 (numI k0), .string { data := #[] }], .bool (numB c0 && numB y0 && numB k0)] ∧ Ext w w') := by
  have z1 : c0.size ≤ line.size := splitS_le (c := 32) (by rw [hl]; simp)
  have z2 : v0.size ≤ line.size := splitS_le (c := 32) (by rw [hl]; simp)
  have z3 : y0.size ≤ v0.size := splitS_le (c := 43) (by rw [hv]; simp)
  have z4 : k0.size ≤ v0.size := splitS_le (c := 43) (by rw [hv]; simp)
  have hW : ∀ u, Does Tryz.prog 178 [.string line, .int .u8 32] u (fun v w' => ∃ a k, v = .slice a 3 k ∧ NewAt u.heap.size a ∧ Own eS w' a 3 9 [n0, c0, v0] ∧ Ext u w') := fun u => split_at3 hs hl u
  have hV2 : ∀ u, Does Tryz.prog 178 [.string v0, .int .u8 43] u (fun v w' => ∃ a k, v = .slice a 2 k ∧ NewAt u.heap.size a ∧ Own eS w' a 2 9 [y0, k0] ∧ Ext u w') := fun u => split_at3 (c := 43) (by omega) hv u
  have q0 : [n0, c0, v0][0]? = some n0 := rfl
  have q1 : [n0, c0, v0][1]? = some c0 := rfl
  have q2 : [n0, c0, v0][2]? = some v0 := rfl
  have r0 : [y0, k0][0]? = some y0 := rfl
  have r1 : [y0, k0][1]? = some k0 := rfl
  generalize [n0, c0, v0] = ws at *
  generalize [y0, k0] = vs at *
  cases hz1 : numB c0
  · refine Does.of_vc tabok Tryz.func179 rfl rfl rfl (by kernel_rfl) ?_; conv => whnf
    refine SemK.alloc (z := .agg #[.string { data := #[] }, .int .i64 0, .int .i64 0, .int .i64 0, .string { data := #[] }]) (by kernel_rfl) ?_
    intro b5 w5 g5 l5 e5 B5
    conv => whnf
    refine (hW _).mono ?_
    rintro _ w11 ⟨a6, k7, rfl, N8, O9, e10⟩
    conv => whnf
    obtain ⟨b13, rfl⟩ := (O9).some (by omega)
    have lb13 : b13 < w11.heap.size := O9.lt _ rfl
    refine SemK.indexOwn (sz := 1) (by kernel_rfl) 2 rfl (by omega) ?_
    have hb13 := Own.elem eS_len O9 q2
    conv => whnf
    refine SemK.load0 (by kernel_rfl) hb13 rfl ?_
    conv => whnf
    refine (hV2 _).mono ?_
    rintro _ w19 ⟨a14, k15, rfl, N16, O17, e18⟩
    conv => whnf
    refine SemK.indexOwn (sz := 1) (by kernel_rfl) 1 rfl (by omega) ?_
    have hb21 := Own.elem eS_len (O9.ext e18) q1
    conv => whnf
    refine SemK.load0 (by kernel_rfl) hb21 rfl ?_
    conv => whnf
    refine (spec_l01Number (by omega) _).mono ?_
    rintro _ w23 ⟨rfl, e22⟩
    conv => whnf
    obtain ⟨b25, rfl⟩ := ((O17.ext e22)).some (by omega)
    have lb25 : b25 < w19.heap.size := O17.lt _ rfl
    refine SemK.indexOwn (sz := 1) (by kernel_rfl) 0 rfl (by omega) ?_
    have hb25 := Own.elem eS_len (O17.ext e22) r0
    conv => whnf
    refine SemK.load1 (by kernel_rfl) hb25 (k := 0) rfl ?_
    conv => whnf
    refine (spec_l01Number (by omega) _).mono ?_
    rintro _ w27 ⟨rfl, e26⟩
    conv => whnf
    refine SemK.indexOwn (sz := 1) (by kernel_rfl) 1 rfl (by omega) ?_
    have hb29 := Own.elem eS_len (O17.ext (Ext.trans e22 e26)) r1
    conv => whnf
    refine SemK.load0 (by kernel_rfl) hb29 rfl ?_
    conv => whnf
    refine (spec_l01Number (by omega) _).mono ?_
    rintro _ w31 ⟨rfl, e30⟩
    conv => whnf
    refine SemK.indexOwn (sz := 1) (by kernel_rfl) 0 rfl (by omega) ?_
    have hb33 := Own.elem eS_len (O9.ext (Ext.trans (Ext.trans (Ext.trans e18 e22) e26) e30)) q0
    conv => whnf
    refine SemK.load1 (by kernel_rfl) hb33 (k := 0) rfl ?_
    conv => whnf
    refine SemK.build st_99 rfl ?_
    conv => whnf
    refine SemK.alloc (z := .agg #[.string { data := #[] }, .int .i64 0, .int .i64 0, .int .i64 0, .string { data := #[] }]) (by kernel_rfl) ?_
    intro b34 w34 g34 l34 e34 B34
    conv => whnf
    refine SemK.storeAll (vs := [Value.string n0, Value.int IntKind.i64 (numI c0), Value.int IntKind.i64 (numI y0), Value.int IntKind.i64 (numI k0), Value.string { data := #[] }]) (by kernel_rfl) B34 rfl rfl (by simp [cellish]) ?_
    intro w35 c35 B35
    conv => whnf
    refine SemK.loadAgg (n := 5) (by kernel_rfl) B35.cells rfl ?_
    conv => whnf
    refine IfB.eqf (by simp [*]; done) ?_
    conv => whnf
    refine SemK.storeAll (vs := [Value.string n0, Value.int IntKind.i64 (numI c0), Value.int IntKind.i64 (numI y0), Value.int IntKind.i64 (numI k0), Value.string { data := #[] }]) (by kernel_rfl) (B5.ext (Ext.but_trans (Ext.trans (Ext.trans (Ext.trans (Ext.trans (Ext.trans e10 e18) e22) e26) e30) e34) c35.but (Nat.le_trans (Below.size (Ext.trans (Ext.trans (Ext.trans (Ext.trans e10 e18) e22) e26) e30)) g34))) rfl rfl (by simp [cellish]) ?_
    intro w36 c36 B36
    conv => whnf
    refine CellK.of (run_loadAgg (n := 5) (by kernel_rfl) rfl B36.cells) ?_
    conv => whnf
    exact ⟨rfl, (Ext.but_trans (Ext.but_trans (Ext.trans (Ext.trans (Ext.trans (Ext.trans (Ext.trans (Ext.trans e5 e10) e18) e22) e26) e30) e34) c35.but (Nat.le_trans (Below.size (Ext.trans (Ext.trans (Ext.trans (Ext.trans (Ext.trans e5 e10) e18) e22) e26) e30)) g34)) c36.but g5)⟩
  cases hz2 : numB y0
  · refine Does.of_vc tabok Tryz.func179 rfl rfl rfl (by kernel_rfl) ?_; conv => whnf
    refine SemK.alloc (z := .agg #[.string { data := #[] }, .int .i64 0, .int .i64 0, .int .i64 0, .string { data := #[] }]) (by kernel_rfl) ?_
    intro b5 w5 g5 l5 e5 B5
    conv => whnf
    refine (hW _).mono ?_
    rintro _ w11 ⟨a6, k7, rfl, N8, O9, e10⟩
    conv => whnf
    obtain ⟨b13, rfl⟩ := (O9).some (by omega)
    have lb13 : b13 < w11.heap.size := O9.lt _ rfl
    refine SemK.indexOwn (sz := 1) (by kernel_rfl) 2 rfl (by omega) ?_
    have hb13 := Own.elem eS_len O9 q2
    conv => whnf
    refine SemK.load0 (by kernel_rfl) hb13 rfl ?_
    conv => whnf
    refine (hV2 _).mono ?_
    rintro _ w19 ⟨a14, k15, rfl, N16, O17, e18⟩
    conv => whnf
    refine SemK.indexOwn (sz := 1) (by kernel_rfl) 1 rfl (by omega) ?_
    have hb21 := Own.elem eS_len (O9.ext e18) q1
    conv => whnf
    refine SemK.load0 (by kernel_rfl) hb21 rfl ?_
    conv => whnf
    refine (spec_l01Number (by omega) _).mono ?_
    rintro _ w23 ⟨rfl, e22⟩
    conv => whnf
    obtain ⟨b25, rfl⟩ := ((O17.ext e22)).some (by omega)
    have lb25 : b25 < w19.heap.size := O17.lt _ rfl
    refine SemK.indexOwn (sz := 1) (by kernel_rfl) 0 rfl (by omega) ?_
    have hb25 := Own.elem eS_len (O17.ext e22) r0
    conv => whnf
    refine SemK.load1 (by kernel_rfl) hb25 (k := 0) rfl ?_
    conv => whnf
    refine (spec_l01Number (by omega) _).mono ?_
    rintro _ w27 ⟨rfl, e26⟩
    conv => whnf
    refine SemK.indexOwn (sz := 1) (by kernel_rfl) 1 rfl (by omega) ?_
    have hb29 := Own.elem eS_len (O17.ext (Ext.trans e22 e26)) r1
    conv => whnf
    refine SemK.load0 (by kernel_rfl) hb29 rfl ?_
    conv => whnf
    refine (spec_l01Number (by omega) _).mono ?_
    rintro _ w31 ⟨rfl, e30⟩
    conv => whnf
    refine SemK.indexOwn (sz := 1) (by kernel_rfl) 0 rfl (by omega) ?_
    have hb33 := Own.elem eS_len (O9.ext (Ext.trans (Ext.trans (Ext.trans e18 e22) e26) e30)) q0
    conv => whnf
    refine SemK.load1 (by kernel_rfl) hb33 (k := 0) rfl ?_
    conv => whnf
    refine SemK.build st_99 rfl ?_
    conv => whnf
    refine SemK.alloc (z := .agg #[.string { data := #[] }, .int .i64 0, .int .i64 0, .int .i64 0, .string { data := #[] }]) (by kernel_rfl) ?_
    intro b34 w34 g34 l34 e34 B34
    conv => whnf
    refine SemK.storeAll (vs := [Value.string n0, Value.int IntKind.i64 (numI c0), Value.int IntKind.i64 (numI y0), Value.int IntKind.i64 (numI k0), Value.string { data := #[] }]) (by kernel_rfl) B34 rfl rfl (by simp [cellish]) ?_
    intro w35 c35 B35
    conv => whnf
    refine SemK.loadAgg (n := 5) (by kernel_rfl) B35.cells rfl ?_
    conv => whnf
    refine IfB.eqt (by simp [*]; done) ?_
    conv => whnf
    refine IfB.eqf (by simp [*]; done) ?_
    conv => whnf
    refine SemK.storeAll (vs := [Value.string n0, Value.int IntKind.i64 (numI c0), Value.int IntKind.i64 (numI y0), Value.int IntKind.i64 (numI k0), Value.string { data := #[] }]) (by kernel_rfl) (B5.ext (Ext.but_trans (Ext.trans (Ext.trans (Ext.trans (Ext.trans (Ext.trans e10 e18) e22) e26) e30) e34) c35.but (Nat.le_trans (Below.size (Ext.trans (Ext.trans (Ext.trans (Ext.trans e10 e18) e22) e26) e30)) g34))) rfl rfl (by simp [cellish]) ?_
    intro w36 c36 B36
    conv => whnf
    refine CellK.of (run_loadAgg (n := 5) (by kernel_rfl) rfl B36.cells) ?_
    conv => whnf
    exact ⟨rfl, (Ext.but_trans (Ext.but_trans (Ext.trans (Ext.trans (Ext.trans (Ext.trans (Ext.trans (Ext.trans e5 e10) e18) e22) e26) e30) e34) c35.but (Nat.le_trans (Below.size (Ext.trans (Ext.trans (Ext.trans (Ext.trans (Ext.trans e5 e10) e18) e22) e26) e30)) g34)) c36.but g5)⟩
  refine Does.of_vc tabok Tryz.func179 rfl rfl rfl (by kernel_rfl) ?_; conv => whnf
  refine SemK.alloc (z := .agg #[.string { data := #[] }, .int .i64 0, .int .i64 0, .int .i64 0, .string { data := #[] }]) (by kernel_rfl) ?_
  intro b5 w5 g5 l5 e5 B5
  conv => whnf
  refine (hW _).mono ?_
  rintro _ w11 ⟨a6, k7, rfl, N8, O9, e10⟩
  conv => whnf
  obtain ⟨b13, rfl⟩ := (O9).some (by omega)
  have lb13 : b13 < w11.heap.size := O9.lt _ rfl
  refine SemK.indexOwn (sz := 1) (by kernel_rfl) 2 rfl (by omega) ?_
  have hb13 := Own.elem eS_len O9 q2
  conv => whnf
  refine SemK.load0 (by kernel_rfl) hb13 rfl ?_
  conv => whnf
  refine (hV2 _).mono ?_
  rintro _ w19 ⟨a14, k15, rfl, N16, O17, e18⟩
  conv => whnf
  refine SemK.indexOwn (sz := 1) (by kernel_rfl) 1 rfl (by omega) ?_
  have hb21 := Own.elem eS_len (O9.ext e18) q1
  conv => whnf
  refine SemK.load0 (by kernel_rfl) hb21 rfl ?_
  conv => whnf
  refine (spec_l01Number (by omega) _).mono ?_
  rintro _ w23 ⟨rfl, e22⟩
  conv => whnf
  obtain ⟨b25, rfl⟩ := ((O17.ext e22)).some (by omega)
  have lb25 : b25 < w19.heap.size := O17.lt _ rfl
  refine SemK.indexOwn (sz := 1) (by kernel_rfl) 0 rfl (by omega) ?_
  have hb25 := Own.elem eS_len (O17.ext e22) r0
  conv => whnf
  refine SemK.load1 (by kernel_rfl) hb25 (k := 0) rfl ?_
  conv => whnf
  refine (spec_l01Number (by omega) _).mono ?_
  rintro _ w27 ⟨rfl, e26⟩
  conv => whnf
  refine SemK.indexOwn (sz := 1) (by kernel_rfl) 1 rfl (by omega) ?_
  have hb29 := Own.elem eS_len (O17.ext (Ext.trans e22 e26)) r1
  conv => whnf
  refine SemK.load0 (by kernel_rfl) hb29 rfl ?_
  conv => whnf
  refine (spec_l01Number (by omega) _).mono ?_
  rintro _ w31 ⟨rfl, e30⟩
  conv => whnf
  refine SemK.indexOwn (sz := 1) (by kernel_rfl) 0 rfl (by omega) ?_
  have hb33 := Own.elem eS_len (O9.ext (Ext.trans (Ext.trans (Ext.trans e18 e22) e26) e30)) q0
  conv => whnf
  refine SemK.load1 (by kernel_rfl) hb33 (k := 0) rfl ?_
  conv => whnf
  refine SemK.build st_99 rfl ?_
  conv => whnf
  refine SemK.alloc (z := .agg #[.string { data := #[] }, .int .i64 0, .int .i64 0, .int .i64 0, .string { data := #[] }]) (by kernel_rfl) ?_
  intro b34 w34 g34 l34 e34 B34
  conv => whnf
  refine SemK.storeAll (vs := [Value.string n0, Value.int IntKind.i64 (numI c0), Value.int IntKind.i64 (numI y0), Value.int IntKind.i64 (numI k0), Value.string { data := #[] }]) (by kernel_rfl) B34 rfl rfl (by simp [cellish]) ?_
  intro w35 c35 B35
  conv => whnf
  refine SemK.loadAgg (n := 5) (by kernel_rfl) B35.cells rfl ?_
  conv => whnf
  refine IfB.eqt (by simp [*]; done) ?_
  conv => whnf
  refine IfB.eqt (by simp [*]; done) ?_
  conv => whnf
  refine SemK.storeAll (vs := [Value.string n0, Value.int IntKind.i64 (numI c0), Value.int IntKind.i64 (numI y0), Value.int IntKind.i64 (numI k0), Value.string { data := #[] }]) (by kernel_rfl) (B5.ext (Ext.but_trans (Ext.trans (Ext.trans (Ext.trans (Ext.trans (Ext.trans e10 e18) e22) e26) e30) e34) c35.but (Nat.le_trans (Below.size (Ext.trans (Ext.trans (Ext.trans (Ext.trans e10 e18) e22) e26) e30)) g34))) rfl rfl (by simp [cellish]) ?_
  intro w36 c36 B36
  conv => whnf
  refine CellK.of (run_loadAgg (n := 5) (by kernel_rfl) rfl B36.cells) ?_
  conv => whnf
  exact ⟨rfl, (Ext.but_trans (Ext.but_trans (Ext.trans (Ext.trans (Ext.trans (Ext.trans (Ext.trans (Ext.trans e5 e10) e18) e22) e26) e30) e34) c35.but (Nat.le_trans (Below.size (Ext.trans (Ext.trans (Ext.trans (Ext.trans (Ext.trans e5 e10) e18) e22) e26) e30)) g34)) c36.but g5)⟩
theorem spec_l26Line4 {line n0 c0 v0 l0 y0 k0 : ByteArray} (hs : line.size ≤ 1048576) (hl : splitS 32 line = [n0, c0, v0, l0]) (hv : splitS 43 v0 = [y0, k0]) (w : World) :
    Does Tryz.prog 179 [.string line] w (fun v w' => v = .tuple #[.agg #[.string n0, .int .i64 (numI c0), .int .i64 (numI y0), .int .i64 (numI k0), .string l0], .bool (numB c0 && numB y0 && numB k0 && !decide (l0 = { data := #[] }))] ∧ Ext w w') := by
  have z1 : c0.size ≤ line.size := splitS_le (c := 32) (by rw [hl]; simp)
  have z2 : v0.size ≤ line.size := splitS_le (c := 32) (by rw [hl]; simp)
  have z3 : y0.size ≤ v0.size := splitS_le (c := 43) (by rw [hv]; simp)
  have z4 : k0.size ≤ v0.size := splitS_le (c := 43) (by rw [hv]; simp)
  have hW : ∀ u, Does Tryz.prog 178 [.string line, .int .u8 32] u (fun v w' => ∃ a k, v = .slice a 4 k ∧ NewAt u.heap.size a ∧ Own eS w' a 4 9 [n0, c0, v0, l0] ∧ Ext u w') := fun u => split_at3 hs hl u
  have hV2 : ∀ u, Does Tryz.prog 178 [.string v0, .int .u8 43] u (fun v w' => ∃ a k, v = .slice a 2 k ∧ NewAt u.heap.size a ∧ Own eS w' a 2 9 [y0, k0] ∧ Ext u w') := fun u => split_at3 (c := 43) (by omega) hv u
  have q0 : [n0, c0, v0, l0][0]? = some n0 := rfl
  have q1 : [n0, c0, v0, l0][1]? = some c0 := rfl
  have q2 : [n0, c0, v0, l0][2]? = some v0 := rfl
  have q3 : [n0, c0, v0, l0][3]? = some l0 := rfl
  have r0 : [y0, k0][0]? = some y0 := rfl
  have r1 : [y0, k0][1]? = some k0 := rfl
  generalize [n0, c0, v0, l0] = ws at *
  generalize [y0, k0] = vs at *
  cases hz1 : numB c0
  · refine Does.of_vc tabok Tryz.func179 rfl rfl rfl (by kernel_rfl) ?_; conv => whnf
    refine SemK.alloc (z := .agg #[.string { data := #[] }, .int .i64 0, .int .i64 0, .int .i64 0, .string { data := #[] }]) (by kernel_rfl) ?_
    intro b5 w5 g5 l5 e5 B5
    conv => whnf
    refine (hW _).mono ?_
    rintro _ w11 ⟨a6, k7, rfl, N8, O9, e10⟩
    conv => whnf
    obtain ⟨b13, rfl⟩ := (O9).some (by omega)
    have lb13 : b13 < w11.heap.size := O9.lt _ rfl
    refine SemK.indexOwn (sz := 1) (by kernel_rfl) 2 rfl (by omega) ?_
    have hb13 := Own.elem eS_len O9 q2
    conv => whnf
    refine SemK.load0 (by kernel_rfl) hb13 rfl ?_
    conv => whnf
    refine (hV2 _).mono ?_
    rintro _ w19 ⟨a14, k15, rfl, N16, O17, e18⟩
    conv => whnf
    refine SemK.indexOwn (sz := 1) (by kernel_rfl) 1 rfl (by omega) ?_
    have hb21 := Own.elem eS_len (O9.ext e18) q1
    conv => whnf
    refine SemK.load0 (by kernel_rfl) hb21 rfl ?_
    conv => whnf
    refine (spec_l01Number (by omega) _).mono ?_
    rintro _ w23 ⟨rfl, e22⟩
    conv => whnf
    obtain ⟨b25, rfl⟩ := ((O17.ext e22)).some (by omega)
    have lb25 : b25 < w19.heap.size := O17.lt _ rfl
    refine SemK.indexOwn (sz := 1) (by kernel_rfl) 0 rfl (by omega) ?_
    have hb25 := Own.elem eS_len (O17.ext e22) r0
    conv => whnf
    refine SemK.load1 (by kernel_rfl) hb25 (k := 0) rfl ?_
    conv => whnf
    refine (spec_l01Number (by omega) _).mono ?_
    rintro _ w27 ⟨rfl, e26⟩
    conv => whnf
    refine SemK.indexOwn (sz := 1) (by kernel_rfl) 1 rfl (by omega) ?_
    have hb29 := Own.elem eS_len (O17.ext (Ext.trans e22 e26)) r1
    conv => whnf
    refine SemK.load0 (by kernel_rfl) hb29 rfl ?_
    conv => whnf
    refine (spec_l01Number (by omega) _).mono ?_
    rintro _ w31 ⟨rfl, e30⟩
    conv => whnf
    refine SemK.indexOwn (sz := 1) (by kernel_rfl) 0 rfl (by omega) ?_
    have hb33 := Own.elem eS_len (O9.ext (Ext.trans (Ext.trans (Ext.trans e18 e22) e26) e30)) q0
    conv => whnf
    refine SemK.load1 (by kernel_rfl) hb33 (k := 0) rfl ?_
    conv => whnf
    refine SemK.build st_99 rfl ?_
    conv => whnf
    refine SemK.alloc (z := .agg #[.string { data := #[] }, .int .i64 0, .int .i64 0, .int .i64 0, .string { data := #[] }]) (by kernel_rfl) ?_
    intro b34 w34 g34 l34 e34 B34
    conv => whnf
    refine SemK.storeAll (vs := [Value.string n0, Value.int IntKind.i64 (numI c0), Value.int IntKind.i64 (numI y0), Value.int IntKind.i64 (numI k0), Value.string { data := #[] }]) (by kernel_rfl) B34 rfl rfl (by simp [cellish]) ?_
    intro w35 c35 B35
    conv => whnf
    refine SemK.indexOwn (sz := 1) (by kernel_rfl) 3 rfl (by omega) ?_
    have hb37 := Own.elem eS_len (O9.ext (Ext.but_trans (Ext.trans (Ext.trans (Ext.trans (Ext.trans e18 e22) e26) e30) e34) c35.but (Nat.le_trans (Below.size (Ext.trans (Ext.trans (Ext.trans e18 e22) e26) e30)) g34))) q3
    conv => whnf
    refine SemK.load0 (by kernel_rfl) hb37 rfl ?_
    conv => whnf
    refine SemK.store1 (by kernel_rfl) B35 (k := 4) (Nat.le_of_ble_eq_true rfl) rfl ?_
    intro w38 c38 B38
    conv => whnf
    refine DrawK.apart tabok mixed b5 [(1, .any), (2, .any), (3, .any), (4, .any), (5, .any), (6, .any), (7, .any), (8, .any), (9, .any), (10, .any), (0, .held), (11, .held), (12, .any), (13, .any), (14, .run), (15, .any)] (by kernel_rfl) (by kernel_rfl) ?_
    conv => whnf
    intro w39 e39
    conv => whnf
    refine IfB.eqf (by simp [*]; done) ?_
    conv => whnf
    refine BSemK.loadAgg (n := 5) (by kernel_rfl) (Bar.cells (B38.ext e39).cells (by have h2 := Below.size (Ext.trans (Ext.trans (Ext.trans (Ext.trans e10 e18) e22) e26) e30); have h3 := l5; have h4 := g34; omega)) rfl ?_
    conv => whnf
    refine SemK.storeAll (vs := [Value.string n0, Value.int IntKind.i64 (numI c0), Value.int IntKind.i64 (numI y0), Value.int IntKind.i64 (numI k0), Value.string l0]) (by kernel_rfl) (B5.ext (Ext.trans (Ext.but_trans (Ext.but_trans (Ext.trans (Ext.trans (Ext.trans (Ext.trans (Ext.trans e10 e18) e22) e26) e30) e34) c35.but (Nat.le_trans (Below.size (Ext.trans (Ext.trans (Ext.trans (Ext.trans e10 e18) e22) e26) e30)) g34)) c38.but (Nat.le_trans (Below.size (Ext.trans (Ext.trans (Ext.trans (Ext.trans e10 e18) e22) e26) e30)) g34)) e39)) rfl rfl (by simp [cellish]) ?_
    intro w40 c40 B40
    conv => whnf
    refine ⟨Bar.chg (Bar.self _ _) c40, ?_⟩
    conv => whnf
    refine CellK.of (run_loadAgg (n := 5) (by kernel_rfl) rfl B40.cells) ?_
    conv => whnf
    exact ⟨rfl, (Ext.but_trans (Ext.trans (Ext.but_trans (Ext.but_trans (Ext.trans (Ext.trans (Ext.trans (Ext.trans (Ext.trans (Ext.trans e5 e10) e18) e22) e26) e30) e34) c35.but (Nat.le_trans (Below.size (Ext.trans (Ext.trans (Ext.trans (Ext.trans (Ext.trans e5 e10) e18) e22) e26) e30)) g34)) c38.but (Nat.le_trans (Below.size (Ext.trans (Ext.trans (Ext.trans (Ext.trans (Ext.trans e5 e10) e18) e22) e26) e30)) g34)) e39) c40.but g5)⟩
  cases hz2 : numB y0
  · refine Does.of_vc tabok Tryz.func179 rfl rfl rfl (by kernel_rfl) ?_; conv => whnf
    refine SemK.alloc (z := .agg #[.string { data := #[] }, .int .i64 0, .int .i64 0, .int .i64 0, .string { data := #[] }]) (by kernel_rfl) ?_
    intro b5 w5 g5 l5 e5 B5
    conv => whnf
    refine (hW _).mono ?_
    rintro _ w11 ⟨a6, k7, rfl, N8, O9, e10⟩
    conv => whnf
    obtain ⟨b13, rfl⟩ := (O9).some (by omega)
    have lb13 : b13 < w11.heap.size := O9.lt _ rfl
    refine SemK.indexOwn (sz := 1) (by kernel_rfl) 2 rfl (by omega) ?_
    have hb13 := Own.elem eS_len O9 q2
    conv => whnf
    refine SemK.load0 (by kernel_rfl) hb13 rfl ?_
    conv => whnf
    refine (hV2 _).mono ?_
    rintro _ w19 ⟨a14, k15, rfl, N16, O17, e18⟩
    conv => whnf
    refine SemK.indexOwn (sz := 1) (by kernel_rfl) 1 rfl (by omega) ?_
    have hb21 := Own.elem eS_len (O9.ext e18) q1
    conv => whnf
    refine SemK.load0 (by kernel_rfl) hb21 rfl ?_
    conv => whnf
    refine (spec_l01Number (by omega) _).mono ?_
    rintro _ w23 ⟨rfl, e22⟩
    conv => whnf
    obtain ⟨b25, rfl⟩ := ((O17.ext e22)).some (by omega)
    have lb25 : b25 < w19.heap.size := O17.lt _ rfl
    refine SemK.indexOwn (sz := 1) (by kernel_rfl) 0 rfl (by omega) ?_
    have hb25 := Own.elem eS_len (O17.ext e22) r0
    conv => whnf
    refine SemK.load1 (by kernel_rfl) hb25 (k := 0) rfl ?_
    conv => whnf
    refine (spec_l01Number (by omega) _).mono ?_
    rintro _ w27 ⟨rfl, e26⟩
    conv => whnf
    refine SemK.indexOwn (sz := 1) (by kernel_rfl) 1 rfl (by omega) ?_
    have hb29 := Own.elem eS_len (O17.ext (Ext.trans e22 e26)) r1
    conv => whnf
    refine SemK.load0 (by kernel_rfl) hb29 rfl ?_
    conv => whnf
    refine (spec_l01Number (by omega) _).mono ?_
    rintro _ w31 ⟨rfl, e30⟩
    conv => whnf
    refine SemK.indexOwn (sz := 1) (by kernel_rfl) 0 rfl (by omega) ?_
    have hb33 := Own.elem eS_len (O9.ext (Ext.trans (Ext.trans (Ext.trans e18 e22) e26) e30)) q0
    conv => whnf
    refine SemK.load1 (by kernel_rfl) hb33 (k := 0) rfl ?_
    conv => whnf
    refine SemK.build st_99 rfl ?_
    conv => whnf
    refine SemK.alloc (z := .agg #[.string { data := #[] }, .int .i64 0, .int .i64 0, .int .i64 0, .string { data := #[] }]) (by kernel_rfl) ?_
    intro b34 w34 g34 l34 e34 B34
    conv => whnf
    refine SemK.storeAll (vs := [Value.string n0, Value.int IntKind.i64 (numI c0), Value.int IntKind.i64 (numI y0), Value.int IntKind.i64 (numI k0), Value.string { data := #[] }]) (by kernel_rfl) B34 rfl rfl (by simp [cellish]) ?_
    intro w35 c35 B35
    conv => whnf
    refine SemK.indexOwn (sz := 1) (by kernel_rfl) 3 rfl (by omega) ?_
    have hb37 := Own.elem eS_len (O9.ext (Ext.but_trans (Ext.trans (Ext.trans (Ext.trans (Ext.trans e18 e22) e26) e30) e34) c35.but (Nat.le_trans (Below.size (Ext.trans (Ext.trans (Ext.trans e18 e22) e26) e30)) g34))) q3
    conv => whnf
    refine SemK.load0 (by kernel_rfl) hb37 rfl ?_
    conv => whnf
    refine SemK.store1 (by kernel_rfl) B35 (k := 4) (Nat.le_of_ble_eq_true rfl) rfl ?_
    intro w38 c38 B38
    conv => whnf
    refine DrawK.apart tabok mixed b5 [(1, .any), (2, .any), (3, .any), (4, .any), (5, .any), (6, .any), (7, .any), (8, .any), (9, .any), (10, .any), (0, .held), (11, .held), (12, .any), (13, .any), (14, .run), (15, .any)] (by kernel_rfl) (by kernel_rfl) ?_
    conv => whnf
    intro w39 e39
    conv => whnf
    refine IfB.eqt (by simp [*]; done) ?_
    conv => whnf
    refine IfB.eqf (by simp [*]; done) ?_
    conv => whnf
    refine BSemK.loadAgg (n := 5) (by kernel_rfl) (Bar.cells (B38.ext e39).cells (by have h2 := Below.size (Ext.trans (Ext.trans (Ext.trans (Ext.trans e10 e18) e22) e26) e30); have h3 := l5; have h4 := g34; omega)) rfl ?_
    conv => whnf
    refine SemK.storeAll (vs := [Value.string n0, Value.int IntKind.i64 (numI c0), Value.int IntKind.i64 (numI y0), Value.int IntKind.i64 (numI k0), Value.string l0]) (by kernel_rfl) (B5.ext (Ext.trans (Ext.but_trans (Ext.but_trans (Ext.trans (Ext.trans (Ext.trans (Ext.trans (Ext.trans e10 e18) e22) e26) e30) e34) c35.but (Nat.le_trans (Below.size (Ext.trans (Ext.trans (Ext.trans (Ext.trans e10 e18) e22) e26) e30)) g34)) c38.but (Nat.le_trans (Below.size (Ext.trans (Ext.trans (Ext.trans (Ext.trans e10 e18) e22) e26) e30)) g34)) e39)) rfl rfl (by simp [cellish]) ?_
    intro w40 c40 B40
    conv => whnf
    refine ⟨Bar.chg (Bar.self _ _) c40, ?_⟩
    conv => whnf
    refine CellK.of (run_loadAgg (n := 5) (by kernel_rfl) rfl B40.cells) ?_
    conv => whnf
    exact ⟨rfl, (Ext.but_trans (Ext.trans (Ext.but_trans (Ext.but_trans (Ext.trans (Ext.trans (Ext.trans (Ext.trans (Ext.trans (Ext.trans e5 e10) e18) e22) e26) e30) e34) c35.but (Nat.le_trans (Below.size (Ext.trans (Ext.trans (Ext.trans (Ext.trans (Ext.trans e5 e10) e18) e22) e26) e30)) g34)) c38.but (Nat.le_trans (Below.size (Ext.trans (Ext.trans (Ext.trans (Ext.trans (Ext.trans e5 e10) e18) e22) e26) e30)) g34)) e39) c40.but g5)⟩
  cases hz3 : numB k0
  · refine Does.of_vc tabok Tryz.func179 rfl rfl rfl (by kernel_rfl) ?_; conv => whnf
    refine SemK.alloc (z := .agg #[.string { data := #[] }, .int .i64 0, .int .i64 0, .int .i64 0, .string { data := #[] }]) (by kernel_rfl) ?_
    intro b5 w5 g5 l5 e5 B5
    conv => whnf
    refine (hW _).mono ?_
    rintro _ w11 ⟨a6, k7, rfl, N8, O9, e10⟩
    conv => whnf
    obtain ⟨b13, rfl⟩ := (O9).some (by omega)
    have lb13 : b13 < w11.heap.size := O9.lt _ rfl
    refine SemK.indexOwn (sz := 1) (by kernel_rfl) 2 rfl (by omega) ?_
    have hb13 := Own.elem eS_len O9 q2
    conv => whnf
    refine SemK.load0 (by kernel_rfl) hb13 rfl ?_
    conv => whnf
    refine (hV2 _).mono ?_
    rintro _ w19 ⟨a14, k15, rfl, N16, O17, e18⟩
    conv => whnf
    refine SemK.indexOwn (sz := 1) (by kernel_rfl) 1 rfl (by omega) ?_
    have hb21 := Own.elem eS_len (O9.ext e18) q1
    conv => whnf
    refine SemK.load0 (by kernel_rfl) hb21 rfl ?_
    conv => whnf
    refine (spec_l01Number (by omega) _).mono ?_
    rintro _ w23 ⟨rfl, e22⟩
    conv => whnf
    obtain ⟨b25, rfl⟩ := ((O17.ext e22)).some (by omega)
    have lb25 : b25 < w19.heap.size := O17.lt _ rfl
    refine SemK.indexOwn (sz := 1) (by kernel_rfl) 0 rfl (by omega) ?_
    have hb25 := Own.elem eS_len (O17.ext e22) r0
    conv => whnf
    refine SemK.load1 (by kernel_rfl) hb25 (k := 0) rfl ?_
    conv => whnf
    refine (spec_l01Number (by omega) _).mono ?_
    rintro _ w27 ⟨rfl, e26⟩
    conv => whnf
    refine SemK.indexOwn (sz := 1) (by kernel_rfl) 1 rfl (by omega) ?_
    have hb29 := Own.elem eS_len (O17.ext (Ext.trans e22 e26)) r1
    conv => whnf
    refine SemK.load0 (by kernel_rfl) hb29 rfl ?_
    conv => whnf
    refine (spec_l01Number (by omega) _).mono ?_
    rintro _ w31 ⟨rfl, e30⟩
    conv => whnf
    refine SemK.indexOwn (sz := 1) (by kernel_rfl) 0 rfl (by omega) ?_
    have hb33 := Own.elem eS_len (O9.ext (Ext.trans (Ext.trans (Ext.trans e18 e22) e26) e30)) q0
    conv => whnf
    refine SemK.load1 (by kernel_rfl) hb33 (k := 0) rfl ?_
    conv => whnf
    refine SemK.build st_99 rfl ?_
    conv => whnf
    refine SemK.alloc (z := .agg #[.string { data := #[] }, .int .i64 0, .int .i64 0, .int .i64 0, .string { data := #[] }]) (by kernel_rfl) ?_
    intro b34 w34 g34 l34 e34 B34
    conv => whnf
    refine SemK.storeAll (vs := [Value.string n0, Value.int IntKind.i64 (numI c0), Value.int IntKind.i64 (numI y0), Value.int IntKind.i64 (numI k0), Value.string { data := #[] }]) (by kernel_rfl) B34 rfl rfl (by simp [cellish]) ?_
    intro w35 c35 B35
    conv => whnf
    refine SemK.indexOwn (sz := 1) (by kernel_rfl) 3 rfl (by omega) ?_
    have hb37 := Own.elem eS_len (O9.ext (Ext.but_trans (Ext.trans (Ext.trans (Ext.trans (Ext.trans e18 e22) e26) e30) e34) c35.but (Nat.le_trans (Below.size (Ext.trans (Ext.trans (Ext.trans e18 e22) e26) e30)) g34))) q3
    conv => whnf
    refine SemK.load0 (by kernel_rfl) hb37 rfl ?_
    conv => whnf
    refine SemK.store1 (by kernel_rfl) B35 (k := 4) (Nat.le_of_ble_eq_true rfl) rfl ?_
    intro w38 c38 B38
    conv => whnf
    refine DrawK.apart tabok mixed b5 [(1, .any), (2, .any), (3, .any), (4, .any), (5, .any), (6, .any), (7, .any), (8, .any), (9, .any), (10, .any), (0, .held), (11, .held), (12, .any), (13, .any), (14, .run), (15, .any)] (by kernel_rfl) (by kernel_rfl) ?_
    conv => whnf
    intro w39 e39
    conv => whnf
    refine IfB.eqt (by simp [*]; done) ?_
    conv => whnf
    refine IfB.eqt (by simp [*]; done) ?_
    conv => whnf
    refine IfB.eqf (by simp [*]; done) ?_
    conv => whnf
    refine BSemK.loadAgg (n := 5) (by kernel_rfl) (Bar.cells (B38.ext e39).cells (by have h2 := Below.size (Ext.trans (Ext.trans (Ext.trans (Ext.trans e10 e18) e22) e26) e30); have h3 := l5; have h4 := g34; omega)) rfl ?_
    conv => whnf
    refine SemK.storeAll (vs := [Value.string n0, Value.int IntKind.i64 (numI c0), Value.int IntKind.i64 (numI y0), Value.int IntKind.i64 (numI k0), Value.string l0]) (by kernel_rfl) (B5.ext (Ext.trans (Ext.but_trans (Ext.but_trans (Ext.trans (Ext.trans (Ext.trans (Ext.trans (Ext.trans e10 e18) e22) e26) e30) e34) c35.but (Nat.le_trans (Below.size (Ext.trans (Ext.trans (Ext.trans (Ext.trans e10 e18) e22) e26) e30)) g34)) c38.but (Nat.le_trans (Below.size (Ext.trans (Ext.trans (Ext.trans (Ext.trans e10 e18) e22) e26) e30)) g34)) e39)) rfl rfl (by simp [cellish]) ?_
    intro w40 c40 B40
    conv => whnf
    refine ⟨Bar.chg (Bar.self _ _) c40, ?_⟩
    conv => whnf
    refine CellK.of (run_loadAgg (n := 5) (by kernel_rfl) rfl B40.cells) ?_
    conv => whnf
    exact ⟨rfl, (Ext.but_trans (Ext.trans (Ext.but_trans (Ext.but_trans (Ext.trans (Ext.trans (Ext.trans (Ext.trans (Ext.trans (Ext.trans e5 e10) e18) e22) e26) e30) e34) c35.but (Nat.le_trans (Below.size (Ext.trans (Ext.trans (Ext.trans (Ext.trans (Ext.trans e5 e10) e18) e22) e26) e30)) g34)) c38.but (Nat.le_trans (Below.size (Ext.trans (Ext.trans (Ext.trans (Ext.trans (Ext.trans e5 e10) e18) e22) e26) e30)) g34)) e39) c40.but g5)⟩
  refine Does.of_vc tabok Tryz.func179 rfl rfl rfl (by kernel_rfl) ?_; conv => whnf
  refine SemK.alloc (z := .agg #[.string { data := #[] }, .int .i64 0, .int .i64 0, .int .i64 0, .string { data := #[] }]) (by kernel_rfl) ?_
  intro b5 w5 g5 l5 e5 B5
  conv => whnf
  refine (hW _).mono ?_
  rintro _ w11 ⟨a6, k7, rfl, N8, O9, e10⟩
  conv => whnf
  obtain ⟨b13, rfl⟩ := (O9).some (by omega)
  have lb13 : b13 < w11.heap.size := O9.lt _ rfl
  refine SemK.indexOwn (sz := 1) (by kernel_rfl) 2 rfl (by omega) ?_
  have hb13 := Own.elem eS_len O9 q2
  conv => whnf
  refine SemK.load0 (by kernel_rfl) hb13 rfl ?_
  conv => whnf
  refine (hV2 _).mono ?_
  rintro _ w19 ⟨a14, k15, rfl, N16, O17, e18⟩
  conv => whnf
  refine SemK.indexOwn (sz := 1) (by kernel_rfl) 1 rfl (by omega) ?_
  have hb21 := Own.elem eS_len (O9.ext e18) q1
  conv => whnf
  refine SemK.load0 (by kernel_rfl) hb21 rfl ?_
  conv => whnf
  refine (spec_l01Number (by omega) _).mono ?_
  rintro _ w23 ⟨rfl, e22⟩
  conv => whnf
  obtain ⟨b25, rfl⟩ := ((O17.ext e22)).some (by omega)
  have lb25 : b25 < w19.heap.size := O17.lt _ rfl
  refine SemK.indexOwn (sz := 1) (by kernel_rfl) 0 rfl (by omega) ?_
  have hb25 := Own.elem eS_len (O17.ext e22) r0
  conv => whnf
  refine SemK.load1 (by kernel_rfl) hb25 (k := 0) rfl ?_
  conv => whnf
  refine (spec_l01Number (by omega) _).mono ?_
  rintro _ w27 ⟨rfl, e26⟩
  conv => whnf
  refine SemK.indexOwn (sz := 1) (by kernel_rfl) 1 rfl (by omega) ?_
  have hb29 := Own.elem eS_len (O17.ext (Ext.trans e22 e26)) r1
  conv => whnf
  refine SemK.load0 (by kernel_rfl) hb29 rfl ?_
  conv => whnf
  refine (spec_l01Number (by omega) _).mono ?_
  rintro _ w31 ⟨rfl, e30⟩
  conv => whnf
  refine SemK.indexOwn (sz := 1) (by kernel_rfl) 0 rfl (by omega) ?_
  have hb33 := Own.elem eS_len (O9.ext (Ext.trans (Ext.trans (Ext.trans e18 e22) e26) e30)) q0
  conv => whnf
  refine SemK.load1 (by kernel_rfl) hb33 (k := 0) rfl ?_
  conv => whnf
  refine SemK.build st_99 rfl ?_
  conv => whnf
  refine SemK.alloc (z := .agg #[.string { data := #[] }, .int .i64 0, .int .i64 0, .int .i64 0, .string { data := #[] }]) (by kernel_rfl) ?_
  intro b34 w34 g34 l34 e34 B34
  conv => whnf
  refine SemK.storeAll (vs := [Value.string n0, Value.int IntKind.i64 (numI c0), Value.int IntKind.i64 (numI y0), Value.int IntKind.i64 (numI k0), Value.string { data := #[] }]) (by kernel_rfl) B34 rfl rfl (by simp [cellish]) ?_
  intro w35 c35 B35
  conv => whnf
  refine SemK.indexOwn (sz := 1) (by kernel_rfl) 3 rfl (by omega) ?_
  have hb37 := Own.elem eS_len (O9.ext (Ext.but_trans (Ext.trans (Ext.trans (Ext.trans (Ext.trans e18 e22) e26) e30) e34) c35.but (Nat.le_trans (Below.size (Ext.trans (Ext.trans (Ext.trans e18 e22) e26) e30)) g34))) q3
  conv => whnf
  refine SemK.load0 (by kernel_rfl) hb37 rfl ?_
  conv => whnf
  refine SemK.store1 (by kernel_rfl) B35 (k := 4) (Nat.le_of_ble_eq_true rfl) rfl ?_
  intro w38 c38 B38
  conv => whnf
  refine DrawK.apart tabok mixed b5 [(1, .any), (2, .any), (3, .any), (4, .any), (5, .any), (6, .any), (7, .any), (8, .any), (9, .any), (10, .any), (0, .held), (11, .held), (12, .any), (13, .any), (14, .run), (15, .any)] (by kernel_rfl) (by kernel_rfl) ?_
  conv => whnf
  intro w39 e39
  conv => whnf
  refine IfB.eqt (by simp [*]; done) ?_
  conv => whnf
  refine IfB.eqt (by simp [*]; done) ?_
  conv => whnf
  refine IfB.eqt (by simp [*]; done) ?_
  conv => whnf
  refine PSemK.indexOwn (sz := 1) (by kernel_rfl) 3 rfl (by omega) ?_
  have hb41 := Own.elem eS_len (O9.ext (Ext.trans (Ext.but_trans (Ext.but_trans (Ext.trans (Ext.trans (Ext.trans (Ext.trans e18 e22) e26) e30) e34) c35.but (Nat.le_trans (Below.size (Ext.trans (Ext.trans (Ext.trans e18 e22) e26) e30)) g34)) c38.but (Nat.le_trans (Below.size (Ext.trans (Ext.trans (Ext.trans e18 e22) e26) e30)) g34)) e39)) q3
  conv => whnf
  refine BSemK.loadAgg (n := 5) (by kernel_rfl) (Bar.cells (B38.ext e39).cells (by have h2 := Below.size (Ext.trans (Ext.trans (Ext.trans (Ext.trans e10 e18) e22) e26) e30); have h3 := l5; have h4 := g34; omega)) rfl ?_
  conv => whnf
  refine BSemK.load0 (by kernel_rfl) (Bar.cells hb41 (by have h3 := l5; have h4 := (show _ ≤ b13 from N8 _ rfl); omega)) rfl ?_
  conv => whnf
  refine SemK.storeAll (vs := [Value.string n0, Value.int IntKind.i64 (numI c0), Value.int IntKind.i64 (numI y0), Value.int IntKind.i64 (numI k0), Value.string l0]) (by kernel_rfl) (B5.ext (Ext.trans (Ext.but_trans (Ext.but_trans (Ext.trans (Ext.trans (Ext.trans (Ext.trans (Ext.trans e10 e18) e22) e26) e30) e34) c35.but (Nat.le_trans (Below.size (Ext.trans (Ext.trans (Ext.trans (Ext.trans e10 e18) e22) e26) e30)) g34)) c38.but (Nat.le_trans (Below.size (Ext.trans (Ext.trans (Ext.trans (Ext.trans e10 e18) e22) e26) e30)) g34)) e39)) rfl rfl (by simp [cellish]) ?_
  intro w42 c42 B42
  conv => whnf
  refine ⟨Bar.chg (Bar.self _ _) c42, ?_⟩
  conv => whnf
  refine CellK.of (run_loadAgg (n := 5) (by kernel_rfl) rfl B42.cells) ?_
  conv => whnf
  exact ⟨rfl, (Ext.but_trans (Ext.trans (Ext.but_trans (Ext.but_trans (Ext.trans (Ext.trans (Ext.trans (Ext.trans (Ext.trans (Ext.trans e5 e10) e18) e22) e26) e30) e34) c35.but (Nat.le_trans (Below.size (Ext.trans (Ext.trans (Ext.trans (Ext.trans (Ext.trans e5 e10) e18) e22) e26) e30)) g34)) c38.but (Nat.le_trans (Below.size (Ext.trans (Ext.trans (Ext.trans (Ext.trans (Ext.trans e5 e10) e18) e22) e26) e30)) g34)) e39) c42.but g5)⟩
theorem spec_l26LineV3 {line v0 : ByteArray} {ws : List ByteArray} (hs : line.size ≤ 1048576) (hl : splitS 32 line = ws) (hws : ws.length = 3) (hv0 : ws[2]? = some v0) (hv : (splitS 43 v0).length ≠ 2) (w : World) :
    Does Tryz.prog 179 [.string line] w (fun v w' => v = .tuple #[.agg #[.string { data := #[] }, .int .i64 0, .int .i64 0, .int .i64 0, .string { data := #[] }], .bool false] ∧ Ext w w') := by
  have z2 : v0.size ≤ line.size := splitS_le (c := 32) (by rw [hl]; exact List.mem_of_getElem? hv0)
  have hW : ∀ u, Does Tryz.prog 178 [.string line, .int .u8 32] u (fun v w' => ∃ a k, v = .slice a 3 k ∧ NewAt u.heap.size a ∧ Own eS w' a 3 9 ws ∧ Ext u w') := fun u => by
    have := split_at3 hs hl u
    rw [hws] at this
    exact this
  have hv' : ¬ (((splitS 43 v0).length : Nat) : Int) = 2 := by omega
  have hV2 : ∀ u, Does Tryz.prog 178 [.string v0, .int .u8 43] u (fun v w' => ∃ a k, v = .slice a (splitS 43 v0).length k ∧ NewAt u.heap.size a ∧ Own eS w' a (splitS 43 v0).length 9 (splitS 43 v0) ∧ Ext u w') := fun u => split_at3 (c := 43) (by omega) rfl u
  generalize splitS 43 v0 = vs at *
  refine Does.of_vc tabok Tryz.func179 rfl rfl rfl (by kernel_rfl) ?_; conv => whnf
  refine SemK.alloc (z := .agg #[.string { data := #[] }, .int .i64 0, .int .i64 0, .int .i64 0, .string { data := #[] }]) (by kernel_rfl) ?_
  intro b4 w4 g4 l4 e4 B4
  conv => whnf
  refine (hW _).mono ?_
  rintro _ w10 ⟨a5, k6, rfl, N7, O8, e9⟩
  conv => whnf
  obtain ⟨b12, rfl⟩ := (O8).some (by omega)
  have lb12 : b12 < w10.heap.size := O8.lt _ rfl
  refine SemK.indexOwn (sz := 1) (by kernel_rfl) 2 rfl (by omega) ?_
  have hb12 := Own.elem eS_len O8 hv0
  conv => whnf
  refine SemK.load0 (by kernel_rfl) hb12 rfl ?_
  conv => whnf
  refine (hV2 _).mono ?_
  rintro _ w18 ⟨a13, k14, rfl, N15, O16, e17⟩
  conv => whnf
  refine IfB.eqt (by simp [*]; done) ?_
  conv => whnf
  refine SemK.build st_99 rfl ?_
  conv => whnf
  refine SemK.storeAll (vs := [Value.string { data := #[] }, Value.int IntKind.i64 0, Value.int IntKind.i64 0, Value.int IntKind.i64 0, Value.string { data := #[] }]) (by kernel_rfl) (B4.ext (Ext.trans e9 e17)) rfl rfl (by simp [cellish]) ?_
  intro w19 c19 B19
  conv => whnf
  refine CellK.of (run_loadAgg (n := 5) (by kernel_rfl) rfl B19.cells) ?_
  conv => whnf
  exact ⟨rfl, (Ext.but_trans (Ext.trans (Ext.trans e4 e9) e17) c19.but g4)⟩
theorem spec_l26LineV4 {line v0 : ByteArray} {ws : List ByteArray} (hs : line.size ≤ 1048576) (hl : splitS 32 line = ws) (hws : ws.length = 4) (hv0 : ws[2]? = some v0) (hv : (splitS 43 v0).length ≠ 2) (w : World) :
    Does Tryz.prog 179 [.string line] w (fun v w' => v = .tuple #[.agg #[.string { data := #[] }, .int .i64 0, .int .i64 0, .int .i64 0, .string { data := #[] }], .bool false] ∧ Ext w w') := by
  have z2 : v0.size ≤ line.size := splitS_le (c := 32) (by rw [hl]; exact List.mem_of_getElem? hv0)
  have hW : ∀ u, Does Tryz.prog 178 [.string line, .int .u8 32] u (fun v w' => ∃ a k, v = .slice a 4 k ∧ NewAt u.heap.size a ∧ Own eS w' a 4 9 ws ∧ Ext u w') := fun u => by
    have := split_at3 hs hl u
    rw [hws] at this
    exact this
  have hv' : ¬ (((splitS 43 v0).length : Nat) : Int) = 2 := by omega
  have hV2 : ∀ u, Does Tryz.prog 178 [.string v0, .int .u8 43] u (fun v w' => ∃ a k, v = .slice a (splitS 43 v0).length k ∧ NewAt u.heap.size a ∧ Own eS w' a (splitS 43 v0).length 9 (splitS 43 v0) ∧ Ext u w') := fun u => split_at3 (c := 43) (by omega) rfl u
  generalize splitS 43 v0 = vs at *
  refine Does.of_vc tabok Tryz.func179 rfl rfl rfl (by kernel_rfl) ?_; conv => whnf
  refine SemK.alloc (z := .agg #[.string { data := #[] }, .int .i64 0, .int .i64 0, .int .i64 0, .string { data := #[] }]) (by kernel_rfl) ?_
  intro b5 w5 g5 l5 e5 B5
  conv => whnf
  refine (hW _).mono ?_
  rintro _ w11 ⟨a6, k7, rfl, N8, O9, e10⟩
  conv => whnf
  obtain ⟨b13, rfl⟩ := (O9).some (by omega)
  have lb13 : b13 < w11.heap.size := O9.lt _ rfl
  refine SemK.indexOwn (sz := 1) (by kernel_rfl) 2 rfl (by omega) ?_
  have hb13 := Own.elem eS_len O9 hv0
  conv => whnf
  refine SemK.load0 (by kernel_rfl) hb13 rfl ?_
  conv => whnf
  refine (hV2 _).mono ?_
  rintro _ w19 ⟨a14, k15, rfl, N16, O17, e18⟩
  conv => whnf
  refine IfB.eqt (by simp [*]; done) ?_
  conv => whnf
  refine SemK.build st_99 rfl ?_
  conv => whnf
  refine SemK.storeAll (vs := [Value.string { data := #[] }, Value.int IntKind.i64 0, Value.int IntKind.i64 0, Value.int IntKind.i64 0, Value.string { data := #[] }]) (by kernel_rfl) (B5.ext (Ext.trans e10 e18)) rfl rfl (by simp [cellish]) ?_
  intro w20 c20 B20
  conv => whnf
  refine CellK.of (run_loadAgg (n := 5) (by kernel_rfl) rfl B20.cells) ?_
  conv => whnf
  exact ⟨rfl, (Ext.but_trans (Ext.trans (Ext.trans e5 e10) e18) c20.but g5)⟩
theorem spec_l26LineN {line : ByteArray} (hs : line.size ≤ 1048576) (h3 : (splitS 32 line).length ≠ 3) (h4 : (splitS 32 line).length ≠ 4) (w : World) :
    Does Tryz.prog 179 [.string line] w (fun v w' => v = .tuple #[.agg #[.string { data := #[] }, .int .i64 0, .int .i64 0, .int .i64 0, .string { data := #[] }], .bool false] ∧ Ext w w') := by
  have hW : ∀ u, Does Tryz.prog 178 [.string line, .int .u8 32] u (fun v w' => ∃ a k, v = .slice a (splitS 32 line).length k ∧ NewAt u.heap.size a ∧ Own eS w' a (splitS 32 line).length 9 (splitS 32 line) ∧ Ext u w') := fun u => split_at3 (c := 32) hs rfl u
  generalize splitS 32 line = ws at *
  by_cases h5 : ws.length < 3
  · refine Does.of_vc tabok Tryz.func179 rfl rfl rfl (by kernel_rfl) ?_; conv => whnf
    refine SemK.alloc (z := .agg #[.string { data := #[] }, .int .i64 0, .int .i64 0, .int .i64 0, .string { data := #[] }]) (by kernel_rfl) ?_
    intro b6 w6 g6 l6 e6 B6
    conv => whnf
    refine (hW _).mono ?_
    rintro _ w12 ⟨a7, k8, rfl, N9, O10, e11⟩
    conv => whnf
    refine IfB.yes (by omega) ?_
    conv => whnf
    refine SemK.build st_99 rfl ?_
    conv => whnf
    refine SemK.storeAll (vs := [Value.string { data := #[] }, Value.int IntKind.i64 0, Value.int IntKind.i64 0, Value.int IntKind.i64 0, Value.string { data := #[] }]) (by kernel_rfl) (B6.ext e11) rfl rfl (by simp [cellish]) ?_
    intro w13 c13 B13
    conv => whnf
    refine CellK.of (run_loadAgg (n := 5) (by kernel_rfl) rfl B13.cells) ?_
    conv => whnf
    exact ⟨rfl, (Ext.but_trans (Ext.trans e6 e11) c13.but g6)⟩
  · refine Does.of_vc tabok Tryz.func179 rfl rfl rfl (by kernel_rfl) ?_; conv => whnf
    refine SemK.alloc (z := .agg #[.string { data := #[] }, .int .i64 0, .int .i64 0, .int .i64 0, .string { data := #[] }]) (by kernel_rfl) ?_
    intro b6 w6 g6 l6 e6 B6
    conv => whnf
    refine (hW _).mono ?_
    rintro _ w12 ⟨a7, k8, rfl, N9, O10, e11⟩
    conv => whnf
    refine IfB.no (by omega) ?_
    conv => whnf
    refine IfB.yes (by omega) ?_
    conv => whnf
    refine SemK.build st_99 rfl ?_
    conv => whnf
    refine SemK.storeAll (vs := [Value.string { data := #[] }, Value.int IntKind.i64 0, Value.int IntKind.i64 0, Value.int IntKind.i64 0, Value.string { data := #[] }]) (by kernel_rfl) (B6.ext e11) rfl rfl (by simp [cellish]) ?_
    intro w13 c13 B13
    conv => whnf
    refine CellK.of (run_loadAgg (n := 5) (by kernel_rfl) rfl B13.cells) ?_
    conv => whnf
    exact ⟨rfl, (Ext.but_trans (Ext.trans e6 e11) c13.but g6)⟩
theorem spec_l26Line {line : ByteArray} (hs : line.size ≤ 1048576) (w : World) :
    Does Tryz.prog 179 [.string line] w (fun v w' => ∃ x, v = .tuple #[.agg ⟨TBox.enc x⟩, .bool (decBox line).isSome] ∧ (decBox line = none ∨ decBox line = some x) ∧ Ext w w') := by
  have bad : decBox line = none → ∀ (v : Value) w', (v = .tuple #[.agg #[.string { data := #[] }, .int .i64 0, .int .i64 0, .int .i64 0, .string { data := #[] }], .bool false] ∧ Ext w w') → ∃ x, v = .tuple #[.agg ⟨TBox.enc x⟩, .bool (decBox line).isSome] ∧ (decBox line = none ∨ decBox line = some x) ∧ Ext w w' := by
    rintro h _ w' ⟨rfl, e⟩
    exact ⟨⟨{ data := #[] }, 0, 0, 0, { data := #[] }⟩, by rw [h]; rfl, .inl h, e⟩
  by_cases h3 : (splitS 32 line).length = 3
  · obtain ⟨n0, c0, v0, hl⟩ := list3 h3
    by_cases hv2 : (splitS 43 v0).length = 2
    · obtain ⟨y0, k0, hv⟩ := list2 hv2
      have hd : decBox line = boxOf n0 c0 y0 k0 { data := #[] } := by unfold decBox; simp only [hl, hv]
      refine (spec_l26Line3 hs hl hv w).mono ?_
      rintro _ w' ⟨rfl, e⟩
      refine ⟨⟨n0, numI c0, numI y0, numI k0, { data := #[] }⟩, ?_, ?_, e⟩
      · rw [hd]; unfold boxOf; split <;> simp_all [TBox.enc]
      · rw [hd]; unfold boxOf; split <;> simp
    · refine (spec_l26LineV3 hs rfl h3 (by rw [hl]; rfl) hv2 w).mono (bad ?_)
      unfold decBox
      simp only [hl]
      split
      · rename_i hv; rw [hv] at hv2; simp at hv2
      · rfl
  by_cases h4 : (splitS 32 line).length = 4
  · obtain ⟨n0, c0, v0, l0, hl⟩ := list4 h4
    by_cases hv2 : (splitS 43 v0).length = 2
    · obtain ⟨y0, k0, hv⟩ := list2 hv2
      have hd : decBox line = if l0 = { data := #[] } then none else boxOf n0 c0 y0 k0 l0 := by unfold decBox; simp only [hl, hv]
      refine (spec_l26Line4 hs hl hv w).mono ?_
      rintro _ w' ⟨rfl, e⟩
      refine ⟨⟨n0, numI c0, numI y0, numI k0, l0⟩, ?_, ?_, e⟩
      · rw [hd]; unfold boxOf; split <;> (try split) <;> simp_all [TBox.enc]
      · rw [hd]; unfold boxOf; split <;> (try split) <;> simp
    · refine (spec_l26LineV4 hs rfl h4 (by rw [hl]; rfl) hv2 w).mono (bad ?_)
      unfold decBox
      simp only [hl]
      split
      · rename_i hv; rw [hv] at hv2; simp at hv2
      · rfl
  · exact (spec_l26LineN hs h3 h4 w).mono (bad (decBox_len h3 h4))
theorem spec_l26LineNo {line : ByteArray} (hs : line.size ≤ 1048576) (h : decBox line = none) (w : World) :
    Does Tryz.prog 179 [.string line] w (fun v w' => ∃ x, v = .tuple #[.agg ⟨TBox.enc x⟩, .bool false] ∧ Ext w w') := (spec_l26Line hs w).mono (by
  rintro _ w' ⟨x, rfl, _, e⟩
  rw [h]
  exact ⟨x, rfl, e⟩)
theorem spec_l26LineYes {line : ByteArray} {x : TBox} (hs : line.size ≤ 1048576) (h : decBox line = some x) (w : World) :
    Does Tryz.prog 179 [.string line] w (fun v w' => v = .tuple #[.agg ⟨TBox.enc x⟩, .bool true] ∧ Ext w w') := (spec_l26Line hs w).mono (by
  rintro _ w' ⟨y, rfl, hy, e⟩
  rw [h] at hy ⊢
  rcases hy with hy | hy
  · cases hy
  · cases hy
    exact ⟨rfl, e⟩)
theorem spec_ReadBoxes {s : ByteArray} (hs : s.size ≤ 1048576) (w : World) :
    Does Tryz.prog 68 [.string s] w (fun v w' => ∃ a n c, v = .tuple #[.slice a n c, .bool (readBoxes s).isSome] ∧ NewAt w.heap.size a ∧ Own TBox.enc w' a n 99 ((readBoxes s).getD []) ∧ Ext w w') := by
  obtain ⟨init, last, hl⟩ := split_ends 10 s
  have hz : ∀ l ∈ init ++ [last], l.size ≤ 1048576 := fun l h => Nat.le_trans (splitS_le (c := 10) (by rw [hl]; exact h)) hs
  have hW : ∀ u, Does Tryz.prog 178 [.string s, .int .u8 10] u (fun v w' => ∃ a k, v = .slice a (init.length + 1) k ∧ NewAt u.heap.size a ∧ Own eS w' a (init.length + 1) 9 (init ++ [last]) ∧ Ext u w') := fun u => by
    have := split_at3 hs hl u
    rw [List.length_append] at this
    exact this
  have hR : readBoxes s = _ := readS_at (dec := decBox) (ok := boxesB) hl
  have hin : init.length ≤ 1048576 := by
    have := splitS_len_le 10 s
    rw [hl] at this
    simp at this
    omega
  have qL := get_last init last
  have qI : ∀ {k : Nat} {x : ByteArray}, init[k]? = some x → (init ++ [last])[k]? = some x := fun h => get_init h
  have hlen : (init ++ [last]).length = init.length + 1 := by simp
  generalize init ++ [last] = ls at *
  generalize readBoxes s = r at *
  by_cases h1 : last = { data := #[] } ∧ init.length ≤ 40
  · rw [if_pos h1] at hR
    obtain ⟨h1a, h1b⟩ := h1
    refine Does.of_vc tabok Tryz.func68 rfl rfl rfl (by kernel_rfl) ?_; conv => whnf
    refine (hW _).mono ?_
    rintro _ w6 ⟨a1, k2, rfl, N3, O4, e5⟩
    conv => whnf
    refine SemK.buildSlice mk_97 (vs := []) (by rfl) (by rfl) (by simp [Value.cells]) (by decide) ?_
    intro b7 w7 g7 l7 e7 B7
    have G7 := Grow.new0 (enc := TBox.enc) TBox.enc_len B7 g7
    conv => whnf
    refine SemK.sub (((init.length : Nat) : Int)) (by omega) (by omega) (by omega) ?_
    conv => whnf
    obtain ⟨b9, rfl⟩ := ((O4.ext e7)).some (by omega)
    have lb9 : b9 < w6.heap.size := O4.lt _ rfl
    refine SemK.indexOwn (sz := 1) (by kernel_rfl) init.length rfl (by omega) ?_
    have hb9 := Own.elem eS_len (O4.ext e7) qL
    conv => whnf
    refine SemK.load0 (by kernel_rfl) hb9 rfl ?_
    conv => whnf
    refine IfB.eqf (by simp [*]; done) ?_
    conv => whnf
    refine IfB.no (by omega) ?_
    conv => whnf
    refine LoopK.rule [4, 5, 6] (fun (k : Nat) vs w' => ∃ a3 n3 c3 out, vs = [.slice (some ⟨b9, 0, none⟩) (init.length + 1 : Nat) k2, .slice a3 n3 c3, .int .i64 k] ∧ k ≤ init.length ∧ Grow TBox.enc 5 w6.heap.size 99 w' a3 n3 c3 out ∧ decs decBox (init.take k) = some out ∧ Ext w6 w') (fun k => init.length - k) tab tabok (by kernel_rfl) 0 ⟨_, _, _, [], rfl, by omega, G7, rfl, e7⟩ ?_
    rintro k g _ w' ⟨a3, n3, c3, out, rfl, hk, G, hJ, hx⟩
    have hn := G.len
    have hol : out.length ≤ k := by
      have := decs_len hJ
      simp at this
      omega
    by_cases hkn : k < init.length
    · obtain ⟨l, hlk⟩ : ∃ l, init[k]? = some l := get_of_lt hkn
      have qk := qI hlk
      have hsl := hz l (List.mem_of_getElem? qk)
      cases hd : decBox l with
      | none =>
        rw [decs_fail hlk hd] at hR
        subst hR
        have hLn := fun u => spec_l26LineNo hsl hd u
        conv => whnf
        refine SemK.sub (((init.length : Nat) : Int)) (by omega) (by omega) (by omega) ?_
        conv => whnf
        refine IfB.yes (by omega) ?_
        conv => whnf
        refine SemK.indexOwn (sz := 1) (by kernel_rfl) k rfl (by omega) ?_
        have hb11 := Own.elem eS_len (O4.ext hx) qk
        conv => whnf
        refine SemK.load0 (by kernel_rfl) hb11 rfl ?_
        conv => whnf
        refine (hLn _).mono ?_
        rintro _ w14 ⟨x12, rfl, e13⟩
        conv => whnf
        refine SemK.alloc (z := .agg #[.string { data := #[] }, .int .i64 0, .int .i64 0, .int .i64 0, .string { data := #[] }]) (by kernel_rfl) ?_
        intro b15 w15 g15 l15 e15 B15
        conv => whnf
        refine SemK.storeAll (by kernel_rfl) B15 (vs := x12.enc) rfl rfl (by simp [TBox.enc, cellish]) ?_
        intro w16 c16 B16
        conv => whnf
        exact ⟨_, _, _, rfl, NewAt.nil, Own.nil, (Ext.but_trans (Ext.trans (Ext.trans (Ext.trans e5 hx) e13) e15) c16.but (Nat.le_trans (Below.size (Ext.trans (Ext.trans e5 hx) e13)) g15))⟩
      | some x =>
        have hLy := fun u => spec_l26LineYes hsl hd u
        have hJ2 := decs_step hJ hlk hd
        conv => whnf
        refine SemK.sub (((init.length : Nat) : Int)) (by omega) (by omega) (by omega) ?_
        conv => whnf
        refine IfB.yes (by omega) ?_
        conv => whnf
        refine SemK.indexOwn (sz := 1) (by kernel_rfl) k rfl (by omega) ?_
        have hb11 := Own.elem eS_len (O4.ext hx) qk
        conv => whnf
        refine SemK.load0 (by kernel_rfl) hb11 rfl ?_
        conv => whnf
        refine (hLy _).mono ?_
        rintro _ w13 ⟨rfl, e12⟩
        conv => whnf
        refine SemK.alloc (z := .agg #[.string { data := #[] }, .int .i64 0, .int .i64 0, .int .i64 0, .string { data := #[] }]) (by kernel_rfl) ?_
        intro b14 w14 g14 l14 e14 B14
        conv => whnf
        refine SemK.storeAll (by kernel_rfl) B14 (vs := x.enc) rfl rfl (by simp [TBox.enc, cellish]) ?_
        intro w15 c15 B15
        conv => whnf
        refine SemK.loadAgg (n := 5) (by kernel_rfl) B15.cells rfl ?_
        conv => whnf
        refine SemK.buildSlice mk_97 (vs := [Value.agg x.enc.toArray]) (by rfl) (by rfl) (by simp [Value.cells, TBox.enc]) (by decide) ?_
        intro b16 w16 g16 l16 e16 B16
        have G16 := Grow.of_blk (n := 1) (enc := TBox.enc) (xs := [x]) TBox.enc_len B16 g16 rfl (by decide)
        conv => whnf
        refine SemK.appendArr0 (enc := TBox.enc) mk_97 TBox.enc_len (G.ext (Ext.trans (Ext.but_trans (Ext.trans e12 e14) c15.but (Nat.le_trans (Below.size e12) g14)) e16)) (G16.own.arr TBox.enc_len) (by intro y _; simp [TBox.enc, cellish]) (by omega) (by omega) (Below.size (Ext.trans (Ext.but_trans (Ext.trans (Ext.trans hx e12) e14) c15.but (Nat.le_trans (Below.size (Ext.trans hx e12)) g14)) e16)) ?_
        intro a17 c17 w17 G17 m17 i17
        conv => whnf
        refine SemK.add (((k + 1 : Nat) : Int)) (by omega) (by omega) (by omega) ?_
        conv => whnf
        -- VALUES  Value.slice (some { block := b9, off := 0 }) (init.length + 1) k2; Value.slice a17 (n3 + 1) c17; Value.int IntKind.i64 ↑(k + 1);
        exact ⟨k + 1, by omega, _, _, _, _, rfl, by omega, G17, hJ2, Ext.mod_trans (Ext.trans (Ext.but_trans (Ext.trans (Ext.trans hx e12) e14) c15.but (Nat.le_trans (Below.size (Ext.trans hx e12)) g14)) e16) m17 (blkIn_new G.new)⟩
    · have hke : k = init.length := by omega
      subst hke
      rw [List.take_of_length_le (by omega)] at hJ
      rw [hJ] at hR
      dsimp only at hR
      have hok : ∀ x ∈ out, x.ok := decs_all (fun l hl x hx => decBox_ok (hz l (by
        obtain ⟨i, hi⟩ := List.mem_iff_getElem?.1 hl
        exact List.mem_of_getElem? (qI hi))) hx) hJ
      cases hv : boxesB out
      · rw [hv, if_neg (by simp)] at hR
        subst hR
        conv => whnf
        refine SemK.sub (((init.length : Nat) : Int)) (by omega) (by omega) (by omega) ?_
        conv => whnf
        refine IfB.no (by omega) ?_
        conv => whnf
        refine (spec_l26Ok (G.own.arr TBox.enc_len) hok).mono ?_
        rintro _ w11 ⟨rfl, e10⟩
        conv => whnf
        refine IfB.eqt (by simp [*]; done) ?_
        conv => whnf
        exact ⟨_, _, _, rfl, NewAt.nil, Own.nil, (Ext.trans (Ext.trans e5 hx) e10)⟩
      · rw [hv, if_pos rfl] at hR
        subst hR
        conv => whnf
        refine SemK.sub (((init.length : Nat) : Int)) (by omega) (by omega) (by omega) ?_
        conv => whnf
        refine IfB.no (by omega) ?_
        conv => whnf
        refine (spec_l26Ok (G.own.arr TBox.enc_len) hok).mono ?_
        rintro _ w11 ⟨rfl, e10⟩
        conv => whnf
        refine IfB.eqf (by simp [*]; done) ?_
        conv => whnf
        exact ⟨_, _, _, rfl, (G.new.mono (Below.size e5)), (G.ext e10).own, (Ext.trans (Ext.trans e5 hx) e10)⟩
  · rw [if_neg h1] at hR
    subst hR
    by_cases h1a : last = { data := #[] }
    · have h1b : 40 < init.length := by
        apply Classical.byContradiction
        intro hh
        exact h1 ⟨h1a, by omega⟩
      refine Does.of_vc tabok Tryz.func68 rfl rfl rfl (by kernel_rfl) ?_; conv => whnf
      refine (hW _).mono ?_
      rintro _ w7 ⟨a2, k3, rfl, N4, O5, e6⟩
      conv => whnf
      refine SemK.buildSlice mk_97 (vs := []) (by rfl) (by rfl) (by simp [Value.cells]) (by decide) ?_
      intro b8 w8 g8 l8 e8 B8
      have G8 := Grow.new0 (enc := TBox.enc) TBox.enc_len B8 g8
      conv => whnf
      refine SemK.sub (((init.length : Nat) : Int)) (by omega) (by omega) (by omega) ?_
      conv => whnf
      obtain ⟨b10, rfl⟩ := ((O5.ext e8)).some (by omega)
      have lb10 : b10 < w7.heap.size := O5.lt _ rfl
      refine SemK.indexOwn (sz := 1) (by kernel_rfl) init.length rfl (by omega) ?_
      have hb10 := Own.elem eS_len (O5.ext e8) qL
      conv => whnf
      refine SemK.load0 (by kernel_rfl) hb10 rfl ?_
      conv => whnf
      refine IfB.eqf (by simp [*]; done) ?_
      conv => whnf
      refine IfB.yes (by omega) ?_
      conv => whnf
      exact ⟨_, _, _, rfl, NewAt.nil, Own.nil, (Ext.trans e6 e8)⟩
    · refine Does.of_vc tabok Tryz.func68 rfl rfl rfl (by kernel_rfl) ?_; conv => whnf
      refine (hW _).mono ?_
      rintro _ w7 ⟨a2, k3, rfl, N4, O5, e6⟩
      conv => whnf
      refine SemK.buildSlice mk_97 (vs := []) (by rfl) (by rfl) (by simp [Value.cells]) (by decide) ?_
      intro b8 w8 g8 l8 e8 B8
      have G8 := Grow.new0 (enc := TBox.enc) TBox.enc_len B8 g8
      conv => whnf
      refine SemK.sub (((init.length : Nat) : Int)) (by omega) (by omega) (by omega) ?_
      conv => whnf
      obtain ⟨b10, rfl⟩ := ((O5.ext e8)).some (by omega)
      have lb10 : b10 < w7.heap.size := O5.lt _ rfl
      refine SemK.indexOwn (sz := 1) (by kernel_rfl) init.length rfl (by omega) ?_
      have hb10 := Own.elem eS_len (O5.ext e8) qL
      conv => whnf
      refine SemK.load0 (by kernel_rfl) hb10 rfl ?_
      conv => whnf
      refine IfB.eqt (by simp [*]; done) ?_
      conv => whnf
      exact ⟨_, _, _, rfl, NewAt.nil, Own.nil, (Ext.trans e6 e8)⟩
theorem split_arr {s : ByteArray} {c : UInt8} {ws : List ByteArray} (hs : s.size ≤ 1048576) (hl : splitS c s = ws) : ∀ u, MaxL u →
    Does Tryz.prog 172 [.string s, .string ⟨#[c]⟩] u (fun v u' => ∃ b, v = .slice (some ⟨b, 0, none⟩) ws.length ws.length ∧ u.heap.size ≤ b ∧ Arr eS 1 u' (some ⟨b, 0, none⟩) ws.length ws ∧ Ext u u') := fun u hu =>
  (lib_Split (c := c) (by omega) hu).mono (by
    rintro _ u' ⟨b, rfl, g, B, e⟩
    have hin := splitS_len_le c s
    rw [hl] at B hin ⊢
    exact ⟨b, rfl, g, (Grow.of_blk (n := ws.length) (enc := eS) eS_len B g rfl (by omega)).own.arr eS_len, e⟩)
theorem cut_does {s : ByteArray} {c : UInt8} (hs : s.size ≤ 1048576) : ∀ u, MaxL u →
    Does Tryz.prog 173 [.string s, .string ⟨#[c]⟩] u (fun v w' => v = .tuple #[.string (bs (Lib.cut s.data.toList [c]).1), .string (bs (Lib.cut s.data.toList [c]).2.1), .bool (Lib.cut s.data.toList [c]).2.2] ∧ Ext u w') := fun u hu => lib_Cut (by omega) hu
theorem impl_ReadBoxes {s : ByteArray} (hs : s.size ≤ 1048576) {w : World} (hT : Pow w) (hE : Errs w) (hM : MaxL w) :
    Does Tryz.prog 66 [.string s] w (fun v w' => ∃ a n c, v = .tuple #[.slice a n c, .bool (readBoxes s).isSome] ∧ NewAt w.heap.size a ∧ Own TBox.enc w' a n 99 ((readBoxes s).getD []) ∧ Ext w w') := by
  rw [← readBoxes_eq s]
  obtain ⟨init, last, hl⟩ := split_ends 10 s
  have hz : ∀ l ∈ init ++ [last], l.size ≤ 1048576 := fun l h => Nat.le_trans (splitS_le (c := 10) (by rw [hl]; exact h)) hs
  have hSp : ∀ u, MaxL u → Does Tryz.prog 172 [.string s, .string ⟨#[10]⟩] u (fun v u' => ∃ b, v = .slice (some ⟨b, 0, none⟩) (init.length + 1) (init.length + 1) ∧ u.heap.size ≤ b ∧ Arr eS 1 u' (some ⟨b, 0, none⟩) (init.length + 1) (init ++ [last]) ∧ Ext u u') := fun u hu =>
    (lib_Split (c := 10) (by omega) hu).mono (by
      rintro _ u' ⟨b, rfl, g, B, e⟩
      have hle : (init ++ [last]).length = init.length + 1 := by simp
      have hin : init.length ≤ 1048576 := by
        have := splitS_len_le 10 s
        rw [hl] at this
        simp at this
        omega
      rw [hl] at B ⊢
      rw [hle]
      exact ⟨b, rfl, g, (Grow.of_blk (n := init.length + 1) (enc := eS) eS_len B g hle (by omega)).own.arr eS_len, e⟩)
  have hR : readI decBoxI boxesB boxesText s = _ := readI_at (dec := decBoxI) (ok := boxesB) (text := boxesText) hl
  have hin : init.length ≤ 1048576 := by
    have := splitS_len_le 10 s
    rw [hl] at this
    simp at this
    omega
  have hti : (init ++ [last]).take init.length = init := by simp
  have hlen : (init ++ [last]).length = init.length + 1 := by simp
  have hzi : ∀ l ∈ init, l.size ≤ 1048576 := fun l h => hz l (by simp [h])
  generalize init ++ [last] = ls at *
  generalize readI decBoxI boxesB boxesText s = r at *
  by_cases h1b : init.length ≤ 40
  · rw [if_pos h1b] at hR
    refine Does.of_vc tabok Tryz.func66 rfl rfl rfl (by kernel_rfl) ?_; conv => whnf
    refine SemK.buildSlice mk_97 (vs := []) (by rfl) (by rfl) (by simp [Value.cells]) (by decide) ?_
    intro b1 w1 g1 l1 e1 B1
    have G1 := Grow.new0 (enc := TBox.enc) TBox.enc_len B1 g1
    conv => whnf
    refine (hSp _ (hM.ext e1)).mono ?_
    rintro _ w6 ⟨b2, rfl, q3, A4, e5⟩
    conv => whnf
    refine IfB.no (by omega) ?_
    conv => whnf
    refine SemK.sub (((init.length : Nat) : Int)) (by omega) (by omega) (by omega) ?_
    conv => whnf
    refine SemK.sliceTo (k' := .i64) (by kernel_rfl) A4 init.length (by omega) (by omega) (.inr rfl) ?_
    rw [hti]
    intro A7
    conv => whnf
    have hap : Apart (some ⟨b1, 0, none⟩) (some ⟨b2, 0, none⟩) := Apart.of (by omega)
    have hb2 : b2 < w6.heap.size := (A4.lt (fun _ => by simp [eS]) (by omega)) _ rfl
    refine LoopK.rule [0, 4, 29, 30, 31] (fun (k : Nat) vs w' => ∃ a3 n3 c3 out, vs = [.string s, .slice a3 n3 c3, .slice (some ⟨b2, 0, none⟩) init.length (init.length + 1), .int .i64 init.length, .int .i64 k] ∧ k ≤ init.length ∧ Grow TBox.enc 5 w.heap.size 99 w' a3 n3 c3 out ∧ decs decBoxI (init.take k) = some out ∧ Ext w w' ∧ Arr eS 1 w' (some ⟨b2, 0, none⟩) init.length init ∧ Apart a3 (some ⟨b2, 0, none⟩) ∧ b2 < w'.heap.size) (fun k => init.length - k) tab tabok (by kernel_rfl) 0 ⟨_, _, _, [], rfl, by omega, G1.ext e5, rfl, Ext.trans e1 e5, A7, hap, hb2⟩ ?_
    rintro k g _ w' ⟨a3, n3, c3, out, rfl, hk, G, hJ, hx, A, ap, hbl⟩
    have hn := G.len
    have hol : out.length ≤ k := by
      have := decs_len hJ
      simp at this
      omega
    by_cases hkn : k < init.length
    · obtain ⟨l, hlk⟩ : ∃ l, init[k]? = some l := get_of_lt hkn
      have hsl := hzi l (List.mem_of_getElem? hlk)
      by_cases h3 : (splitS 32 l).length = 3
      · obtain ⟨n0, c0, v0, hls⟩ := list3 h3
        have z1 : c0.size ≤ l.size := splitS_le (c := 32) (by rw [hls]; simp)
        have z2 : v0.size ≤ l.size := splitS_le (c := 32) (by rw [hls]; simp)
        have hq := split_arr (c := 32) (by omega) hls
        have hC := cut_does (s := v0) (c := 43) (by omega)
        obtain ⟨y3, y4⟩ := cut_sizes (c := 43) v0
        have hd : decBoxI l = boxOf n0 c0 (bs (Lib.cut v0.data.toList [43]).1) (bs (Lib.cut v0.data.toList [43]).2.1) { data := #[] } := by unfold decBoxI; simp only [hls]
        unfold boxOf at hd
        generalize bs (Lib.cut v0.data.toList [43]).1 = y0 at *
        generalize bs (Lib.cut v0.data.toList [43]).2.1 = k0 at *
        generalize (Lib.cut v0.data.toList [43]).2.2 = f0 at *
        have q0 : [n0, c0, v0][0]? = some n0 := rfl
        have q1 : [n0, c0, v0][1]? = some c0 := rfl
        have q2 : [n0, c0, v0][2]? = some v0 := rfl
        have hq3 : ∀ u, MaxL u → Does Tryz.prog 172 [.string l, .string ⟨#[32]⟩] u (fun v u' => ∃ b, v = .slice (some ⟨b, 0, none⟩) 3 3 ∧ u.heap.size ≤ b ∧ Arr eS 1 u' (some ⟨b, 0, none⟩) 3 [n0, c0, v0] ∧ Ext u u') := hq
        clear hq
        generalize [n0, c0, v0] = ws at *
        cases hz1 : numB c0
        · rw [if_neg (by simp [hz1])] at hd
          rw [decs_fail hlk hd] at hR
          subst hR
          conv => whnf
          refine IfB.yes (by omega) ?_
          conv => whnf
          refine SemK.index (by kernel_rfl) A k rfl hlk ?_
          intro b9 o9 _ hb9
          conv => whnf
          refine SemK.load0 (by kernel_rfl) hb9 rfl ?_
          conv => whnf
          refine (hq3 _ (hM.ext hx)).mono ?_
          rintro _ w14 ⟨b10, rfl, q11, A12, e13⟩
          conv => whnf
          refine SemK.index (by kernel_rfl) A12 2 rfl q2 ?_
          intro b16 o16 _ hb16
          conv => whnf
          refine SemK.load0 (by kernel_rfl) hb16 rfl ?_
          conv => whnf
          refine (hC _ (hM.ext (Ext.trans hx e13))).mono ?_
          rintro _ w18 ⟨rfl, e17⟩
          conv => whnf
          refine SemK.index (by kernel_rfl) (A12.ext e17) 1 rfl q1 ?_
          intro b20 o20 _ hb20
          conv => whnf
          refine SemK.load0 (by kernel_rfl) hb20 rfl ?_
          conv => whnf
          refine (impl_ReadDecimal (by omega) (hT.ext (Ext.trans (Ext.trans hx e13) e17)) (hE.ext (Ext.trans (Ext.trans hx e13) e17))).mono ?_
          rintro _ w22 ⟨rfl, e21⟩
          conv => whnf
          refine (impl_ReadDecimal (by omega) (hT.ext (Ext.trans (Ext.trans (Ext.trans hx e13) e17) e21)) (hE.ext (Ext.trans (Ext.trans (Ext.trans hx e13) e17) e21))).mono ?_
          rintro _ w24 ⟨rfl, e23⟩
          conv => whnf
          refine (impl_ReadDecimal (by omega) (hT.ext (Ext.trans (Ext.trans (Ext.trans (Ext.trans hx e13) e17) e21) e23)) (hE.ext (Ext.trans (Ext.trans (Ext.trans (Ext.trans hx e13) e17) e21) e23))).mono ?_
          rintro _ w26 ⟨rfl, e25⟩
          conv => whnf
          refine IfB.eqt (by simp [*]; done) ?_
          conv => whnf
          exact ⟨_, _, _, rfl, NewAt.nil, Own.nil, (Ext.trans (Ext.trans (Ext.trans (Ext.trans (Ext.trans hx e13) e17) e21) e23) e25)⟩
        cases hz2 : numB y0
        · rw [if_neg (by simp [hz2])] at hd
          rw [decs_fail hlk hd] at hR
          subst hR
          conv => whnf
          refine IfB.yes (by omega) ?_
          conv => whnf
          refine SemK.index (by kernel_rfl) A k rfl hlk ?_
          intro b9 o9 _ hb9
          conv => whnf
          refine SemK.load0 (by kernel_rfl) hb9 rfl ?_
          conv => whnf
          refine (hq3 _ (hM.ext hx)).mono ?_
          rintro _ w14 ⟨b10, rfl, q11, A12, e13⟩
          conv => whnf
          refine SemK.index (by kernel_rfl) A12 2 rfl q2 ?_
          intro b16 o16 _ hb16
          conv => whnf
          refine SemK.load0 (by kernel_rfl) hb16 rfl ?_
          conv => whnf
          refine (hC _ (hM.ext (Ext.trans hx e13))).mono ?_
          rintro _ w18 ⟨rfl, e17⟩
          conv => whnf
          refine SemK.index (by kernel_rfl) (A12.ext e17) 1 rfl q1 ?_
          intro b20 o20 _ hb20
          conv => whnf
          refine SemK.load0 (by kernel_rfl) hb20 rfl ?_
          conv => whnf
          refine (impl_ReadDecimal (by omega) (hT.ext (Ext.trans (Ext.trans hx e13) e17)) (hE.ext (Ext.trans (Ext.trans hx e13) e17))).mono ?_
          rintro _ w22 ⟨rfl, e21⟩
          conv => whnf
          refine (impl_ReadDecimal (by omega) (hT.ext (Ext.trans (Ext.trans (Ext.trans hx e13) e17) e21)) (hE.ext (Ext.trans (Ext.trans (Ext.trans hx e13) e17) e21))).mono ?_
          rintro _ w24 ⟨rfl, e23⟩
          conv => whnf
          refine (impl_ReadDecimal (by omega) (hT.ext (Ext.trans (Ext.trans (Ext.trans (Ext.trans hx e13) e17) e21) e23)) (hE.ext (Ext.trans (Ext.trans (Ext.trans (Ext.trans hx e13) e17) e21) e23))).mono ?_
          rintro _ w26 ⟨rfl, e25⟩
          conv => whnf
          refine IfB.eqf (by simp [*]; done) ?_
          conv => whnf
          refine IfB.eqt (by simp [*]; done) ?_
          conv => whnf
          exact ⟨_, _, _, rfl, NewAt.nil, Own.nil, (Ext.trans (Ext.trans (Ext.trans (Ext.trans (Ext.trans hx e13) e17) e21) e23) e25)⟩
        cases hz3 : numB k0
        · rw [if_neg (by simp [hz3])] at hd
          rw [decs_fail hlk hd] at hR
          subst hR
          conv => whnf
          refine IfB.yes (by omega) ?_
          conv => whnf
          refine SemK.index (by kernel_rfl) A k rfl hlk ?_
          intro b9 o9 _ hb9
          conv => whnf
          refine SemK.load0 (by kernel_rfl) hb9 rfl ?_
          conv => whnf
          refine (hq3 _ (hM.ext hx)).mono ?_
          rintro _ w14 ⟨b10, rfl, q11, A12, e13⟩
          conv => whnf
          refine SemK.index (by kernel_rfl) A12 2 rfl q2 ?_
          intro b16 o16 _ hb16
          conv => whnf
          refine SemK.load0 (by kernel_rfl) hb16 rfl ?_
          conv => whnf
          refine (hC _ (hM.ext (Ext.trans hx e13))).mono ?_
          rintro _ w18 ⟨rfl, e17⟩
          conv => whnf
          refine SemK.index (by kernel_rfl) (A12.ext e17) 1 rfl q1 ?_
          intro b20 o20 _ hb20
          conv => whnf
          refine SemK.load0 (by kernel_rfl) hb20 rfl ?_
          conv => whnf
          refine (impl_ReadDecimal (by omega) (hT.ext (Ext.trans (Ext.trans hx e13) e17)) (hE.ext (Ext.trans (Ext.trans hx e13) e17))).mono ?_
          rintro _ w22 ⟨rfl, e21⟩
          conv => whnf
          refine (impl_ReadDecimal (by omega) (hT.ext (Ext.trans (Ext.trans (Ext.trans hx e13) e17) e21)) (hE.ext (Ext.trans (Ext.trans (Ext.trans hx e13) e17) e21))).mono ?_
          rintro _ w24 ⟨rfl, e23⟩
          conv => whnf
          refine (impl_ReadDecimal (by omega) (hT.ext (Ext.trans (Ext.trans (Ext.trans (Ext.trans hx e13) e17) e21) e23)) (hE.ext (Ext.trans (Ext.trans (Ext.trans (Ext.trans hx e13) e17) e21) e23))).mono ?_
          rintro _ w26 ⟨rfl, e25⟩
          conv => whnf
          refine IfB.eqf (by simp [*]; done) ?_
          conv => whnf
          refine IfB.eqf (by simp [*]; done) ?_
          conv => whnf
          refine IfB.eqt (by simp [*]; done) ?_
          conv => whnf
          exact ⟨_, _, _, rfl, NewAt.nil, Own.nil, (Ext.trans (Ext.trans (Ext.trans (Ext.trans (Ext.trans hx e13) e17) e21) e23) e25)⟩
        rw [if_pos (by simp [hz1, hz2, hz3])] at hd
        have hJ2 := decs_step hJ hlk hd
        conv => whnf
        refine IfB.yes (by omega) ?_
        conv => whnf
        refine SemK.index (by kernel_rfl) A k rfl hlk ?_
        intro b9 o9 _ hb9
        conv => whnf
        refine SemK.load0 (by kernel_rfl) hb9 rfl ?_
        conv => whnf
        refine (hq3 _ (hM.ext hx)).mono ?_
        rintro _ w14 ⟨b10, rfl, q11, A12, e13⟩
        conv => whnf
        refine SemK.index (by kernel_rfl) A12 2 rfl q2 ?_
        intro b16 o16 _ hb16
        conv => whnf
        refine SemK.load0 (by kernel_rfl) hb16 rfl ?_
        conv => whnf
        refine (hC _ (hM.ext (Ext.trans hx e13))).mono ?_
        rintro _ w18 ⟨rfl, e17⟩
        conv => whnf
        refine SemK.index (by kernel_rfl) (A12.ext e17) 1 rfl q1 ?_
        intro b20 o20 _ hb20
        conv => whnf
        refine SemK.load0 (by kernel_rfl) hb20 rfl ?_
        conv => whnf
        refine (impl_ReadDecimal (by omega) (hT.ext (Ext.trans (Ext.trans hx e13) e17)) (hE.ext (Ext.trans (Ext.trans hx e13) e17))).mono ?_
        rintro _ w22 ⟨rfl, e21⟩
        conv => whnf
        refine (impl_ReadDecimal (by omega) (hT.ext (Ext.trans (Ext.trans (Ext.trans hx e13) e17) e21)) (hE.ext (Ext.trans (Ext.trans (Ext.trans hx e13) e17) e21))).mono ?_
        rintro _ w24 ⟨rfl, e23⟩
        conv => whnf
        refine (impl_ReadDecimal (by omega) (hT.ext (Ext.trans (Ext.trans (Ext.trans (Ext.trans hx e13) e17) e21) e23)) (hE.ext (Ext.trans (Ext.trans (Ext.trans (Ext.trans hx e13) e17) e21) e23))).mono ?_
        rintro _ w26 ⟨rfl, e25⟩
        conv => whnf
        refine IfB.eqf (by simp [*]; done) ?_
        conv => whnf
        refine IfB.eqf (by simp [*]; done) ?_
        conv => whnf
        refine IfB.eqf (by simp [*]; done) ?_
        conv => whnf
        refine SemK.index (by kernel_rfl) (A12.ext (Ext.trans (Ext.trans (Ext.trans e17 e21) e23) e25)) 0 rfl q0 ?_
        intro b28 o28 _ hb28
        conv => whnf
        refine SemK.load1 (by kernel_rfl) hb28 (k := 0) rfl ?_
        conv => whnf
        refine SemK.build st_99 rfl ?_
        conv => whnf
        refine SemK.alloc (z := .agg #[.string { data := #[] }, .int .i64 0, .int .i64 0, .int .i64 0, .string { data := #[] }]) (by kernel_rfl) ?_
        intro b29 w29 g29 l29 e29 B29
        conv => whnf
        refine SemK.storeAll (vs := [Value.string n0, Value.int IntKind.i64 (numI c0), Value.int IntKind.i64 (numI y0), Value.int IntKind.i64 (numI k0), Value.string { data := #[] }]) (by kernel_rfl) B29 rfl rfl (by simp [cellish]) ?_
        intro w30 c30 B30
        conv => whnf
        refine SemK.loadAgg (n := 5) (by kernel_rfl) B30.cells rfl ?_
        conv => whnf
        refine SemK.buildSlice mk_97 (vs := [Value.agg #[Value.string n0, Value.int IntKind.i64 (numI c0), Value.int IntKind.i64 (numI y0), Value.int IntKind.i64 (numI k0), Value.string { data := #[] }]]) (by rfl) (by rfl) (by simp [Value.cells]) (by decide) ?_
        intro b5100 w5100 g5100 l5100 e5100 B5100
        have G5100 := Grow.of_blk (n := 1) (enc := TBox.enc) (xs := [⟨n0, numI c0, numI y0, numI k0, { data := #[] }⟩]) TBox.enc_len B5100 g5100 rfl (by decide)
        conv => whnf
        refine SemK.appendArr0 (enc := TBox.enc) mk_97 TBox.enc_len (G.ext (Ext.trans (Ext.but_trans (Ext.trans (Ext.trans (Ext.trans (Ext.trans (Ext.trans e13 e17) e21) e23) e25) e29) c30.but (Nat.le_trans (Below.size (Ext.trans (Ext.trans (Ext.trans (Ext.trans e13 e17) e21) e23) e25)) g29)) e5100)) (G5100.own.arr TBox.enc_len) (by intro y _; simp [TBox.enc, cellish]) (by omega) (by omega) (Below.size (Ext.trans (Ext.but_trans (Ext.trans (Ext.trans (Ext.trans (Ext.trans (Ext.trans (Ext.trans hx e13) e17) e21) e23) e25) e29) c30.but (Nat.le_trans (Below.size (Ext.trans (Ext.trans (Ext.trans (Ext.trans (Ext.trans hx e13) e17) e21) e23) e25)) g29)) e5100)) ?_
        intro a5101 c5101 w5101 G5101 m5101 i5101
        conv => whnf
        refine SemK.add (((k + 1 : Nat) : Int)) (by omega) (by omega) (by omega) ?_
        conv => whnf
        -- VALUES  Value.string s; Value.slice a5101 (n3 + 1) c5101; Value.slice (some { block := b2, off := 0 }) init.length (init.length + 1); Value.int IntKind.i64 ↑init.length; Value.int IntKind.i64 ↑(k + 1);
        exact ⟨k + 1, by omega, _, _, _, _, rfl, by omega, G5101, hJ2, Ext.mod_trans (Ext.trans (Ext.but_trans (Ext.trans (Ext.trans (Ext.trans (Ext.trans (Ext.trans (Ext.trans hx e13) e17) e21) e23) e25) e29) c30.but (Nat.le_trans (Below.size (Ext.trans (Ext.trans (Ext.trans (Ext.trans (Ext.trans hx e13) e17) e21) e23) e25)) g29)) e5100) m5101 (blkIn_new G.new), (A.ext (Ext.trans (Ext.but_trans (Ext.trans (Ext.trans (Ext.trans (Ext.trans (Ext.trans e13 e17) e21) e23) e25) e29) c30.but (Nat.le_trans (Below.size (Ext.trans (Ext.trans (Ext.trans (Ext.trans e13 e17) e21) e23) e25)) g29)) e5100)).mod m5101 ap, Apart.app ap i5101 (by rintro x hx; cases hx; exact Nat.lt_of_lt_of_le hbl (Below.size (Ext.trans (Ext.but_trans (Ext.trans (Ext.trans (Ext.trans (Ext.trans (Ext.trans e13 e17) e21) e23) e25) e29) c30.but (Nat.le_trans (Below.size (Ext.trans (Ext.trans (Ext.trans (Ext.trans e13 e17) e21) e23) e25)) g29)) e5100))), Nat.lt_of_lt_of_le hbl (Nat.le_trans (Below.size (Ext.trans (Ext.but_trans (Ext.trans (Ext.trans (Ext.trans (Ext.trans (Ext.trans e13 e17) e21) e23) e25) e29) c30.but (Nat.le_trans (Below.size (Ext.trans (Ext.trans (Ext.trans (Ext.trans e13 e17) e21) e23) e25)) g29)) e5100)) m5101.size)⟩
      by_cases h4 : (splitS 32 l).length = 4
      · obtain ⟨n0, c0, v0, l0, hls⟩ := list4 h4
        have z1 : c0.size ≤ l.size := splitS_le (c := 32) (by rw [hls]; simp)
        have z2 : v0.size ≤ l.size := splitS_le (c := 32) (by rw [hls]; simp)
        have hq := split_arr (c := 32) (by omega) hls
        have hC := cut_does (s := v0) (c := 43) (by omega)
        obtain ⟨y3, y4⟩ := cut_sizes (c := 43) v0
        have hd : decBoxI l = boxOf n0 c0 (bs (Lib.cut v0.data.toList [43]).1) (bs (Lib.cut v0.data.toList [43]).2.1) l0 := by unfold decBoxI; simp only [hls]
        unfold boxOf at hd
        generalize bs (Lib.cut v0.data.toList [43]).1 = y0 at *
        generalize bs (Lib.cut v0.data.toList [43]).2.1 = k0 at *
        generalize (Lib.cut v0.data.toList [43]).2.2 = f0 at *
        have q0 : [n0, c0, v0, l0][0]? = some n0 := rfl
        have q1 : [n0, c0, v0, l0][1]? = some c0 := rfl
        have q2 : [n0, c0, v0, l0][2]? = some v0 := rfl
        have q3 : [n0, c0, v0, l0][3]? = some l0 := rfl
        have hq3 : ∀ u, MaxL u → Does Tryz.prog 172 [.string l, .string ⟨#[32]⟩] u (fun v u' => ∃ b, v = .slice (some ⟨b, 0, none⟩) 4 4 ∧ u.heap.size ≤ b ∧ Arr eS 1 u' (some ⟨b, 0, none⟩) 4 [n0, c0, v0, l0] ∧ Ext u u') := hq
        clear hq
        generalize [n0, c0, v0, l0] = ws at *
        cases hz1 : numB c0
        · rw [if_neg (by simp [hz1])] at hd
          rw [decs_fail hlk hd] at hR
          subst hR
          conv => whnf
          refine IfB.yes (by omega) ?_
          conv => whnf
          refine SemK.index (by kernel_rfl) A k rfl hlk ?_
          intro b9 o9 _ hb9
          conv => whnf
          refine SemK.load0 (by kernel_rfl) hb9 rfl ?_
          conv => whnf
          refine (hq3 _ (hM.ext hx)).mono ?_
          rintro _ w14 ⟨b10, rfl, q11, A12, e13⟩
          conv => whnf
          refine SemK.index (by kernel_rfl) A12 2 rfl q2 ?_
          intro b16 o16 _ hb16
          conv => whnf
          refine SemK.load0 (by kernel_rfl) hb16 rfl ?_
          conv => whnf
          refine (hC _ (hM.ext (Ext.trans hx e13))).mono ?_
          rintro _ w18 ⟨rfl, e17⟩
          conv => whnf
          refine SemK.index (by kernel_rfl) (A12.ext e17) 1 rfl q1 ?_
          intro b20 o20 _ hb20
          conv => whnf
          refine SemK.load0 (by kernel_rfl) hb20 rfl ?_
          conv => whnf
          refine (impl_ReadDecimal (by omega) (hT.ext (Ext.trans (Ext.trans hx e13) e17)) (hE.ext (Ext.trans (Ext.trans hx e13) e17))).mono ?_
          rintro _ w22 ⟨rfl, e21⟩
          conv => whnf
          refine (impl_ReadDecimal (by omega) (hT.ext (Ext.trans (Ext.trans (Ext.trans hx e13) e17) e21)) (hE.ext (Ext.trans (Ext.trans (Ext.trans hx e13) e17) e21))).mono ?_
          rintro _ w24 ⟨rfl, e23⟩
          conv => whnf
          refine (impl_ReadDecimal (by omega) (hT.ext (Ext.trans (Ext.trans (Ext.trans (Ext.trans hx e13) e17) e21) e23)) (hE.ext (Ext.trans (Ext.trans (Ext.trans (Ext.trans hx e13) e17) e21) e23))).mono ?_
          rintro _ w26 ⟨rfl, e25⟩
          conv => whnf
          refine IfB.eqt (by simp [*]; done) ?_
          conv => whnf
          exact ⟨_, _, _, rfl, NewAt.nil, Own.nil, (Ext.trans (Ext.trans (Ext.trans (Ext.trans (Ext.trans hx e13) e17) e21) e23) e25)⟩
        cases hz2 : numB y0
        · rw [if_neg (by simp [hz2])] at hd
          rw [decs_fail hlk hd] at hR
          subst hR
          conv => whnf
          refine IfB.yes (by omega) ?_
          conv => whnf
          refine SemK.index (by kernel_rfl) A k rfl hlk ?_
          intro b9 o9 _ hb9
          conv => whnf
          refine SemK.load0 (by kernel_rfl) hb9 rfl ?_
          conv => whnf
          refine (hq3 _ (hM.ext hx)).mono ?_
          rintro _ w14 ⟨b10, rfl, q11, A12, e13⟩
          conv => whnf
          refine SemK.index (by kernel_rfl) A12 2 rfl q2 ?_
          intro b16 o16 _ hb16
          conv => whnf
          refine SemK.load0 (by kernel_rfl) hb16 rfl ?_
          conv => whnf
          refine (hC _ (hM.ext (Ext.trans hx e13))).mono ?_
          rintro _ w18 ⟨rfl, e17⟩
          conv => whnf
          refine SemK.index (by kernel_rfl) (A12.ext e17) 1 rfl q1 ?_
          intro b20 o20 _ hb20
          conv => whnf
          refine SemK.load0 (by kernel_rfl) hb20 rfl ?_
          conv => whnf
          refine (impl_ReadDecimal (by omega) (hT.ext (Ext.trans (Ext.trans hx e13) e17)) (hE.ext (Ext.trans (Ext.trans hx e13) e17))).mono ?_
          rintro _ w22 ⟨rfl, e21⟩
          conv => whnf
          refine (impl_ReadDecimal (by omega) (hT.ext (Ext.trans (Ext.trans (Ext.trans hx e13) e17) e21)) (hE.ext (Ext.trans (Ext.trans (Ext.trans hx e13) e17) e21))).mono ?_
          rintro _ w24 ⟨rfl, e23⟩
          conv => whnf
          refine (impl_ReadDecimal (by omega) (hT.ext (Ext.trans (Ext.trans (Ext.trans (Ext.trans hx e13) e17) e21) e23)) (hE.ext (Ext.trans (Ext.trans (Ext.trans (Ext.trans hx e13) e17) e21) e23))).mono ?_
          rintro _ w26 ⟨rfl, e25⟩
          conv => whnf
          refine IfB.eqf (by simp [*]; done) ?_
          conv => whnf
          refine IfB.eqt (by simp [*]; done) ?_
          conv => whnf
          exact ⟨_, _, _, rfl, NewAt.nil, Own.nil, (Ext.trans (Ext.trans (Ext.trans (Ext.trans (Ext.trans hx e13) e17) e21) e23) e25)⟩
        cases hz3 : numB k0
        · rw [if_neg (by simp [hz3])] at hd
          rw [decs_fail hlk hd] at hR
          subst hR
          conv => whnf
          refine IfB.yes (by omega) ?_
          conv => whnf
          refine SemK.index (by kernel_rfl) A k rfl hlk ?_
          intro b9 o9 _ hb9
          conv => whnf
          refine SemK.load0 (by kernel_rfl) hb9 rfl ?_
          conv => whnf
          refine (hq3 _ (hM.ext hx)).mono ?_
          rintro _ w14 ⟨b10, rfl, q11, A12, e13⟩
          conv => whnf
          refine SemK.index (by kernel_rfl) A12 2 rfl q2 ?_
          intro b16 o16 _ hb16
          conv => whnf
          refine SemK.load0 (by kernel_rfl) hb16 rfl ?_
          conv => whnf
          refine (hC _ (hM.ext (Ext.trans hx e13))).mono ?_
          rintro _ w18 ⟨rfl, e17⟩
          conv => whnf
          refine SemK.index (by kernel_rfl) (A12.ext e17) 1 rfl q1 ?_
          intro b20 o20 _ hb20
          conv => whnf
          refine SemK.load0 (by kernel_rfl) hb20 rfl ?_
          conv => whnf
          refine (impl_ReadDecimal (by omega) (hT.ext (Ext.trans (Ext.trans hx e13) e17)) (hE.ext (Ext.trans (Ext.trans hx e13) e17))).mono ?_
          rintro _ w22 ⟨rfl, e21⟩
          conv => whnf
          refine (impl_ReadDecimal (by omega) (hT.ext (Ext.trans (Ext.trans (Ext.trans hx e13) e17) e21)) (hE.ext (Ext.trans (Ext.trans (Ext.trans hx e13) e17) e21))).mono ?_
          rintro _ w24 ⟨rfl, e23⟩
          conv => whnf
          refine (impl_ReadDecimal (by omega) (hT.ext (Ext.trans (Ext.trans (Ext.trans (Ext.trans hx e13) e17) e21) e23)) (hE.ext (Ext.trans (Ext.trans (Ext.trans (Ext.trans hx e13) e17) e21) e23))).mono ?_
          rintro _ w26 ⟨rfl, e25⟩
          conv => whnf
          refine IfB.eqf (by simp [*]; done) ?_
          conv => whnf
          refine IfB.eqf (by simp [*]; done) ?_
          conv => whnf
          refine IfB.eqt (by simp [*]; done) ?_
          conv => whnf
          exact ⟨_, _, _, rfl, NewAt.nil, Own.nil, (Ext.trans (Ext.trans (Ext.trans (Ext.trans (Ext.trans hx e13) e17) e21) e23) e25)⟩
        rw [if_pos (by simp [hz1, hz2, hz3])] at hd
        have hJ2 := decs_step hJ hlk hd
        conv => whnf
        refine IfB.yes (by omega) ?_
        conv => whnf
        refine SemK.index (by kernel_rfl) A k rfl hlk ?_
        intro b9 o9 _ hb9
        conv => whnf
        refine SemK.load0 (by kernel_rfl) hb9 rfl ?_
        conv => whnf
        refine (hq3 _ (hM.ext hx)).mono ?_
        rintro _ w14 ⟨b10, rfl, q11, A12, e13⟩
        conv => whnf
        refine SemK.index (by kernel_rfl) A12 2 rfl q2 ?_
        intro b16 o16 _ hb16
        conv => whnf
        refine SemK.load0 (by kernel_rfl) hb16 rfl ?_
        conv => whnf
        refine (hC _ (hM.ext (Ext.trans hx e13))).mono ?_
        rintro _ w18 ⟨rfl, e17⟩
        conv => whnf
        refine SemK.index (by kernel_rfl) (A12.ext e17) 1 rfl q1 ?_
        intro b20 o20 _ hb20
        conv => whnf
        refine SemK.load0 (by kernel_rfl) hb20 rfl ?_
        conv => whnf
        refine (impl_ReadDecimal (by omega) (hT.ext (Ext.trans (Ext.trans hx e13) e17)) (hE.ext (Ext.trans (Ext.trans hx e13) e17))).mono ?_
        rintro _ w22 ⟨rfl, e21⟩
        conv => whnf
        refine (impl_ReadDecimal (by omega) (hT.ext (Ext.trans (Ext.trans (Ext.trans hx e13) e17) e21)) (hE.ext (Ext.trans (Ext.trans (Ext.trans hx e13) e17) e21))).mono ?_
        rintro _ w24 ⟨rfl, e23⟩
        conv => whnf
        refine (impl_ReadDecimal (by omega) (hT.ext (Ext.trans (Ext.trans (Ext.trans (Ext.trans hx e13) e17) e21) e23)) (hE.ext (Ext.trans (Ext.trans (Ext.trans (Ext.trans hx e13) e17) e21) e23))).mono ?_
        rintro _ w26 ⟨rfl, e25⟩
        conv => whnf
        refine IfB.eqf (by simp [*]; done) ?_
        conv => whnf
        refine IfB.eqf (by simp [*]; done) ?_
        conv => whnf
        refine IfB.eqf (by simp [*]; done) ?_
        conv => whnf
        refine SemK.index (by kernel_rfl) (A12.ext (Ext.trans (Ext.trans (Ext.trans e17 e21) e23) e25)) 0 rfl q0 ?_
        intro b28 o28 _ hb28
        conv => whnf
        refine SemK.load1 (by kernel_rfl) hb28 (k := 0) rfl ?_
        conv => whnf
        refine SemK.build st_99 rfl ?_
        conv => whnf
        refine SemK.alloc (z := .agg #[.string { data := #[] }, .int .i64 0, .int .i64 0, .int .i64 0, .string { data := #[] }]) (by kernel_rfl) ?_
        intro b29 w29 g29 l29 e29 B29
        conv => whnf
        refine SemK.storeAll (vs := [Value.string n0, Value.int IntKind.i64 (numI c0), Value.int IntKind.i64 (numI y0), Value.int IntKind.i64 (numI k0), Value.string { data := #[] }]) (by kernel_rfl) B29 rfl rfl (by simp [cellish]) ?_
        intro w30 c30 B30
        conv => whnf
        refine SemK.index (by kernel_rfl) (A12.ext (Ext.but_trans (Ext.trans (Ext.trans (Ext.trans (Ext.trans e17 e21) e23) e25) e29) c30.but (Nat.le_trans (Below.size (Ext.trans (Ext.trans (Ext.trans e17 e21) e23) e25)) g29))) 3 rfl q3 ?_
        intro b32 o32 _ hb32
        conv => whnf
        refine SemK.load0 (by kernel_rfl) hb32 rfl ?_
        conv => whnf
        refine SemK.store1 (by kernel_rfl) B30 (k := 4) (Nat.le_of_ble_eq_true rfl) rfl ?_
        intro w33 c33 B33
        conv => whnf
        refine SemK.loadAgg (n := 5) (by kernel_rfl) B33.cells rfl ?_
        conv => whnf
        refine SemK.buildSlice mk_97 (vs := [Value.agg #[Value.string n0, Value.int IntKind.i64 (numI c0), Value.int IntKind.i64 (numI y0), Value.int IntKind.i64 (numI k0), Value.string l0]]) (by rfl) (by rfl) (by simp [Value.cells]) (by decide) ?_
        intro b9623 w9623 g9623 l9623 e9623 B9623
        have G9623 := Grow.of_blk (n := 1) (enc := TBox.enc) (xs := [⟨n0, numI c0, numI y0, numI k0, l0⟩]) TBox.enc_len B9623 g9623 rfl (by decide)
        conv => whnf
        refine SemK.appendArr0 (enc := TBox.enc) mk_97 TBox.enc_len (G.ext (Ext.trans (Ext.but_trans (Ext.but_trans (Ext.trans (Ext.trans (Ext.trans (Ext.trans (Ext.trans e13 e17) e21) e23) e25) e29) c30.but (Nat.le_trans (Below.size (Ext.trans (Ext.trans (Ext.trans (Ext.trans e13 e17) e21) e23) e25)) g29)) c33.but (Nat.le_trans (Below.size (Ext.trans (Ext.trans (Ext.trans (Ext.trans e13 e17) e21) e23) e25)) g29)) e9623)) (G9623.own.arr TBox.enc_len) (by intro y _; simp [TBox.enc, cellish]) (by omega) (by omega) (Below.size (Ext.trans (Ext.but_trans (Ext.but_trans (Ext.trans (Ext.trans (Ext.trans (Ext.trans (Ext.trans (Ext.trans hx e13) e17) e21) e23) e25) e29) c30.but (Nat.le_trans (Below.size (Ext.trans (Ext.trans (Ext.trans (Ext.trans (Ext.trans hx e13) e17) e21) e23) e25)) g29)) c33.but (Nat.le_trans (Below.size (Ext.trans (Ext.trans (Ext.trans (Ext.trans (Ext.trans hx e13) e17) e21) e23) e25)) g29)) e9623)) ?_
        intro a9624 c9624 w9624 G9624 m9624 i9624
        conv => whnf
        refine SemK.add (((k + 1 : Nat) : Int)) (by omega) (by omega) (by omega) ?_
        conv => whnf
        -- VALUES  Value.string s; Value.slice a9624 (n3 + 1) c9624; Value.slice (some { block := b2, off := 0 }) init.length (init.length + 1); Value.int IntKind.i64 ↑init.length; Value.int IntKind.i64 ↑(k + 1);
        exact ⟨k + 1, by omega, _, _, _, _, rfl, by omega, G9624, hJ2, Ext.mod_trans (Ext.trans (Ext.but_trans (Ext.but_trans (Ext.trans (Ext.trans (Ext.trans (Ext.trans (Ext.trans (Ext.trans hx e13) e17) e21) e23) e25) e29) c30.but (Nat.le_trans (Below.size (Ext.trans (Ext.trans (Ext.trans (Ext.trans (Ext.trans hx e13) e17) e21) e23) e25)) g29)) c33.but (Nat.le_trans (Below.size (Ext.trans (Ext.trans (Ext.trans (Ext.trans (Ext.trans hx e13) e17) e21) e23) e25)) g29)) e9623) m9624 (blkIn_new G.new), (A.ext (Ext.trans (Ext.but_trans (Ext.but_trans (Ext.trans (Ext.trans (Ext.trans (Ext.trans (Ext.trans e13 e17) e21) e23) e25) e29) c30.but (Nat.le_trans (Below.size (Ext.trans (Ext.trans (Ext.trans (Ext.trans e13 e17) e21) e23) e25)) g29)) c33.but (Nat.le_trans (Below.size (Ext.trans (Ext.trans (Ext.trans (Ext.trans e13 e17) e21) e23) e25)) g29)) e9623)).mod m9624 ap, Apart.app ap i9624 (by rintro x hx; cases hx; exact Nat.lt_of_lt_of_le hbl (Below.size (Ext.trans (Ext.but_trans (Ext.but_trans (Ext.trans (Ext.trans (Ext.trans (Ext.trans (Ext.trans e13 e17) e21) e23) e25) e29) c30.but (Nat.le_trans (Below.size (Ext.trans (Ext.trans (Ext.trans (Ext.trans e13 e17) e21) e23) e25)) g29)) c33.but (Nat.le_trans (Below.size (Ext.trans (Ext.trans (Ext.trans (Ext.trans e13 e17) e21) e23) e25)) g29)) e9623))), Nat.lt_of_lt_of_le hbl (Nat.le_trans (Below.size (Ext.trans (Ext.but_trans (Ext.but_trans (Ext.trans (Ext.trans (Ext.trans (Ext.trans (Ext.trans e13 e17) e21) e23) e25) e29) c30.but (Nat.le_trans (Below.size (Ext.trans (Ext.trans (Ext.trans (Ext.trans e13 e17) e21) e23) e25)) g29)) c33.but (Nat.le_trans (Below.size (Ext.trans (Ext.trans (Ext.trans (Ext.trans e13 e17) e21) e23) e25)) g29)) e9623)) m9624.size)⟩
      · rw [decs_fail hlk (decBoxI_len h3 h4)] at hR
        subst hR
        have hq := split_arr (c := 32) (by omega) (rfl : splitS 32 l = splitS 32 l)
        generalize splitS 32 l = ws at *
        by_cases h5 : ws.length < 3
        · conv => whnf
          refine IfB.yes (by omega) ?_
          conv => whnf
          refine SemK.index (by kernel_rfl) A k rfl hlk ?_
          intro b9 o9 _ hb9
          conv => whnf
          refine SemK.load0 (by kernel_rfl) hb9 rfl ?_
          conv => whnf
          refine (hq _ (hM.ext hx)).mono ?_
          rintro _ w14 ⟨b10, rfl, q11, A12, e13⟩
          conv => whnf
          refine IfB.yes (by omega) ?_
          conv => whnf
          exact ⟨_, _, _, rfl, NewAt.nil, Own.nil, (Ext.trans hx e13)⟩
        · conv => whnf
          refine IfB.yes (by omega) ?_
          conv => whnf
          refine SemK.index (by kernel_rfl) A k rfl hlk ?_
          intro b9 o9 _ hb9
          conv => whnf
          refine SemK.load0 (by kernel_rfl) hb9 rfl ?_
          conv => whnf
          refine (hq _ (hM.ext hx)).mono ?_
          rintro _ w14 ⟨b10, rfl, q11, A12, e13⟩
          conv => whnf
          refine IfB.no (by omega) ?_
          conv => whnf
          refine IfB.yes (by omega) ?_
          conv => whnf
          exact ⟨_, _, _, rfl, NewAt.nil, Own.nil, (Ext.trans hx e13)⟩
    · have hke : k = init.length := by omega
      subst hke
      rw [List.take_of_length_le (by omega)] at hJ
      rw [hJ] at hR
      dsimp only at hR
      have hok : ∀ x ∈ out, x.ok := decs_all (fun l hl x hx => decBoxI_ok (hzi l hl) hx) hJ
      cases hv : boxesB out
      · rw [hv, if_neg (by simp)] at hR
        subst hR
        conv => whnf
        refine IfB.no (by omega) ?_
        conv => whnf
        refine (impl_ValidBoxes (G.own.arr TBox.enc_len) hok).mono ?_
        rintro _ w9 ⟨rfl, e8⟩
        conv => whnf
        refine IfB.eqt (by simp [*]; done) ?_
        conv => whnf
        exact ⟨_, _, _, rfl, NewAt.nil, Own.nil, (Ext.trans hx e8)⟩
      · by_cases he : boxesText out = s
        · rw [hv, if_pos ⟨rfl, he⟩] at hR
          subst hR
          conv => whnf
          refine IfB.no (by omega) ?_
          conv => whnf
          refine (impl_ValidBoxes (G.own.arr TBox.enc_len) hok).mono ?_
          rintro _ w9 ⟨rfl, e8⟩
          conv => whnf
          refine IfB.eqf (by simp [*]; done) ?_
          conv => whnf
          refine (impl_BoxesText ((G.ext e8).own.arr TBox.enc_len) hok (hT.ext (Ext.trans hx e8))).mono ?_
          rintro _ w11 ⟨rfl, e10⟩
          conv => whnf
          refine IfB.eqf (by simp [*]; done) ?_
          conv => whnf
          exact ⟨_, _, _, rfl, G.new, (G.ext (Ext.trans e8 e10)).own, (Ext.trans (Ext.trans hx e8) e10)⟩
        · rw [hv, if_neg (fun h => he h.2)] at hR
          subst hR
          conv => whnf
          refine IfB.no (by omega) ?_
          conv => whnf
          refine (impl_ValidBoxes (G.own.arr TBox.enc_len) hok).mono ?_
          rintro _ w9 ⟨rfl, e8⟩
          conv => whnf
          refine IfB.eqf (by simp [*]; done) ?_
          conv => whnf
          refine (impl_BoxesText ((G.ext e8).own.arr TBox.enc_len) hok (hT.ext (Ext.trans hx e8))).mono ?_
          rintro _ w11 ⟨rfl, e10⟩
          conv => whnf
          refine IfB.eqt (by simp [*]; done) ?_
          conv => whnf
          exact ⟨_, _, _, rfl, NewAt.nil, Own.nil, (Ext.trans (Ext.trans hx e8) e10)⟩
  · rw [if_neg h1b] at hR
    subst hR
    refine Does.of_vc tabok Tryz.func66 rfl rfl rfl (by kernel_rfl) ?_; conv => whnf
    refine SemK.buildSlice mk_97 (vs := []) (by rfl) (by rfl) (by simp [Value.cells]) (by decide) ?_
    intro b1 w1 g1 l1 e1 B1
    have G1 := Grow.new0 (enc := TBox.enc) TBox.enc_len B1 g1
    conv => whnf
    refine (hSp _ (hM.ext e1)).mono ?_
    rintro _ w6 ⟨b2, rfl, q3, A4, e5⟩
    conv => whnf
    refine IfB.yes (by omega) ?_
    conv => whnf
    exact ⟨_, _, _, rfl, NewAt.nil, Own.nil, (Ext.trans e1 e5)⟩
end Go.Proofs.YtkjmbjedbmblmaaGreatDoor
