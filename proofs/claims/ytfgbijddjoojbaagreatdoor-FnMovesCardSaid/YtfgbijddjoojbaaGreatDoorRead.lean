/- Contracts of functions of the given program, of the reference and of the laws: each says what a call returns, for all arguments that meet the premises that the theorem itself names. -/
import Derived.Test.YtfgbijddjoojbaaGreatDoorReadM
import Derived.Test.YtfgbijddjoojbaaGreatDoorTexts
import Derived.Test.YtfgbijddjoojbaaGreatDoorDec
import Derived.Test.YtfgbijddjoojbaaGreatDoorVcWrite
import Derived.Test.YtfgbijddjoojbaaGreatDoorSts
namespace Go.M
open Go Go.Vc
theorem split_ends (c : UInt8) (s : ByteArray) : ∃ init last, splitS c s = init ++ [last] := by
  have hne : splitS c s ≠ [] := fun e => by have := splitS_pos c s; rw [e] at this; simp at this
  exact ⟨_, _, (List.dropLast_concat_getLast hne).symm⟩
theorem get_init {α : Type} {init : List α} {last x : α} {k : Nat} (h : init[k]? = some x) : (init ++ [last])[k]? = some x := by
  rw [List.getElem?_append_left (List.getElem?_eq_some_iff.1 h).1]; exact h
theorem get_last {α : Type} (init : List α) (last : α) : (init ++ [last])[init.length]? = some last := by simp
theorem readS_at {α : Type} {dec : ByteArray → Option α} {ok : List α → Bool} {s : ByteArray} {init : List ByteArray} {last : ByteArray} (h : splitS 10 s = init ++ [last]) :
    readS dec ok s = if last = { data := #[] } ∧ init.length ≤ 40 then (match decs dec init with
      | some xs => if ok xs = true then some xs else none
      | none => none) else none := by
  unfold readS
  rw [h, List.dropLast_concat]
  have e1 : ((init ++ [last]).getLast? = some { data := #[] } ∧ (init ++ [last]).length ≤ 41) ↔ (last = { data := #[] } ∧ init.length ≤ 40) := by
    simp
  simp only [e1]
  rfl
theorem readI_at {α : Type} {dec : ByteArray → Option α} {ok : List α → Bool} {text : List α → ByteArray} {s : ByteArray} {init : List ByteArray} {last : ByteArray} (h : splitS 10 s = init ++ [last]) :
    readI dec ok text s = if init.length ≤ 40 then (match decs dec init with
      | some xs => if ok xs = true ∧ text xs = s then some xs else none
      | none => none) else none := by
  unfold readI
  rw [h, List.dropLast_concat]
  have e1 : ((init ++ [last]).length ≤ 41) ↔ (init.length ≤ 40) := by
    simp
  simp only [e1]
  rfl
theorem list3 {α : Type} {l : List α} (h : l.length = 3) : ∃ a b c, l = [a, b, c] := by
  match l, h with
  | [a, b, c], _ => exact ⟨a, b, c, rfl⟩
theorem list4 {α : Type} {l : List α} (h : l.length = 4) : ∃ a b c d, l = [a, b, c, d] := by
  match l, h with
  | [a, b, c, d], _ => exact ⟨a, b, c, d, rfl⟩
theorem list2 {α : Type} {l : List α} (h : l.length = 2) : ∃ a b, l = [a, b] := by
  match l, h with
  | [a, b], _ => exact ⟨a, b, rfl⟩
theorem decBox_len {l : ByteArray} (h3 : (splitS 32 l).length ≠ 3) (h4 : (splitS 32 l).length ≠ 4) : decBox l = none := by
  unfold decBox
  split
  · rename_i hs; rw [hs] at h3; simp at h3
  · rename_i hs; rw [hs] at h4; simp at h4
  · rfl
theorem decs_all {α β : Type} {dec : β → Option α} {P : α → Prop} : ∀ {ls : List β} {out : List α}, (∀ l ∈ ls, ∀ x, dec l = some x → P x) → decs dec ls = some out → ∀ x ∈ out, P x
  | [], out, _, h => by
    simp only [decs, Option.some.injEq] at h
    subst h
    simp
  | l :: ls, out, hp, h => by
    simp only [decs] at h
    cases hx : dec l with
    | none => rw [hx] at h; cases h
    | some x =>
      cases hs : decs dec ls with
      | none => rw [hx, hs] at h; cases h
      | some xs =>
        rw [hx, hs] at h
        simp only [Option.some.injEq] at h
        subst h
        intro y hy
        rcases List.mem_cons.1 hy with rfl | hy
        · exact hp l (by simp) _ hx
        · exact decs_all (fun l hl => hp l (by simp [hl])) hs y hy
theorem boxOf_ok {n c y k w : ByteArray} {x : TBox} (h : boxOf n c y k w = some x) (hn : n.size ≤ 1048576) (hw : w.size ≤ 1048576) : x.ok := by
  obtain ⟨_, rfl⟩ := boxOf_some h
  exact ⟨by simp only [strok]; omega, numI_ok _, numI_ok _, numI_ok _, by simp only [strok]; omega⟩
theorem decBoxI_ok {l : ByteArray} {x : TBox} (hl : l.size ≤ 1048576) (h : decBoxI l = some x) : x.ok := by
  unfold decBoxI at h
  split at h
  · rename_i n c v hs
    exact boxOf_ok h (Nat.le_trans (splitS_le (c := 32) (by rw [hs]; simp)) hl) (by show 0 ≤ 1048576; omega)
  · rename_i n c v w hs
    exact boxOf_ok h (Nat.le_trans (splitS_le (c := 32) (by rw [hs]; simp)) hl) (Nat.le_trans (splitS_le (c := 32) (by rw [hs]; simp)) hl)
  · cases h
theorem decBox_ok {l : ByteArray} {x : TBox} (hl : l.size ≤ 1048576) (h : decBox l = some x) : x.ok := decBoxI_ok hl (decBox_some h).1
theorem cut_sizes {c : UInt8} (s : ByteArray) : (bs (Lib.cut s.data.toList [c]).1).size ≤ s.size ∧ (bs (Lib.cut s.data.toList [c]).2.1).size ≤ s.size := by
  have hs : s.data.toList.length = s.size := by simp
  rw [bs_size, bs_size]
  unfold Lib.cut
  split
  · simp
    omega
  · simp
theorem readBoxes_len (s : ByteArray) : ((readBoxes s).getD []).length ≤ 40 := by
  cases h : readBoxes s with
  | none => simp
  | some xs => exact (boxesB_mem' (readS_ok h)).1
theorem readParts_len (s : ByteArray) : ((readParts s).getD []).length ≤ 40 := by
  cases h : readParts s with
  | none => simp
  | some xs => exact (partsB_mem' (readS_ok h)).1
theorem decBoxI_len {l : ByteArray} (h3 : (splitS 32 l).length ≠ 3) (h4 : (splitS 32 l).length ≠ 4) : decBoxI l = none := by
  unfold decBoxI
  split
  · rename_i hs; rw [hs] at h3; simp at h3
  · rename_i hs; rw [hs] at h4; simp at h4
  · rfl
end Go.M
namespace Go.Proofs.YtfgbijddjoojbaaGreatDoor
open Go Go.RowKit Go.Vc Go.M Go.Shelf Go.Proofs
theorem split_at3 {s : ByteArray} {c : UInt8} {ws : List ByteArray} (hs : s.size ≤ 1048576) (hl : splitS c s = ws) (u : World) :
    Does Tryz.prog 95 [.string s, .int .u8 c.toNat] u (fun v w' => ∃ a k, v = .slice a ws.length k ∧ NewAt u.heap.size a ∧ Own eS w' a ws.length 9 ws ∧ Ext u w') := (spec_l01Split hs c u).mono (by
  rintro _ w' ⟨a, n, k, rfl, h1, h2, h3⟩
  rw [hl] at h2
  obtain rfl := h2.1
  exact ⟨a, k, rfl, h1, h2, h3⟩)
theorem split_arr {s : ByteArray} {c : UInt8} {ws : List ByteArray} (hs : s.size ≤ 1048576) (hl : splitS c s = ws) : ∀ u, MaxL u →
    Does Tryz.prog 89 [.string s, .string ⟨#[c]⟩] u (fun v u' => ∃ b, v = .slice (some ⟨b, 0, none⟩) ws.length ws.length ∧ u.heap.size ≤ b ∧ Arr eS 1 u' (some ⟨b, 0, none⟩) ws.length ws ∧ Ext u u') := fun u hu =>
  (lib_Split (c := c) (by omega) hu).mono (by
    rintro _ u' ⟨b, rfl, g, B, e⟩
    have hin := splitS_len_le c s
    rw [hl] at B hin ⊢
    exact ⟨b, rfl, g, (Grow.of_blk (n := ws.length) (enc := eS) eS_len B g rfl (by omega)).own.arr eS_len, e⟩)
end Go.Proofs.YtfgbijddjoojbaaGreatDoor
