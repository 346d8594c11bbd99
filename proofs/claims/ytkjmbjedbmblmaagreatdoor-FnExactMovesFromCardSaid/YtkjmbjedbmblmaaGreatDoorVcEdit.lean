/- Contracts of functions of the given program, of the reference and of the laws: each says what a call returns, for all arguments that meet the premises that the theorem itself names. -/
import Derived.Test.YtkjmbjedbmblmaaGreatDoorVcSrc
import Derived.Test.YtkjmbjedbmblmaaGreatDoorVcStr
import Derived.Test.YtkjmbjedbmblmaaGreatDoorVcWrite
/- a byte slice made of a string, written in place -/
namespace Go.Vc
open Go Go.RowKit
/-- the row that []byte(s) makes: the bytes, the spare room, and the mark behind the end -/
def Edit (w : World) (b : Nat) (l : List UInt8) : Prop :=
  ∃ (rest : List Value) (t : Nat), w.heap[b]? = some (.cells (byteCells l ++ rest).toArray t ((byteCells l ++ rest).length, (byteCells l ++ rest).length + 1))
theorem Edit.cells {w : World} {b : Nat} {l : List UInt8} (h : Edit w b l) : Cells w b 0 (byteCells l) := by
  obtain ⟨rest, t, h⟩ := h
  intro j v hv
  have hj := (List.getElem?_eq_some_iff.1 hv).1
  unfold World.cell?
  simp only [Nat.zero_add, h]
  simp only [List.getElem?_toArray, List.getElem?_append, if_pos hj, hv]
  rfl
theorem Edit.arr {w : World} {b n : Nat} {l : List UInt8} (h : Edit w b l) (hl : l.length = n) (hn : n ≤ 9223372036854775807) : Arr eB 1 w (some ⟨b, 0, none⟩) n l := by
  refine ⟨hl, hn, fun i x hi => ⟨_, _, rfl, ?_⟩⟩
  intro j v hv
  have := h.cells (i + j) v
  cases j with
  | zero =>
    simp only [eB, List.getElem?_cons_zero, Option.some.injEq] at hv
    subst hv
    have := h.cells i (.int .u8 x.toNat) (by simp [byteCells, hi])
    simpa using this
  | succ j => simp [eB] at hv
theorem Edit.ext {w w' : World} {b : Nat} {l : List UInt8} (h : Edit w b l) (e : Ext w w') : Edit w' b l := by
  obtain ⟨rest, t, h⟩ := h
  refine ⟨rest, t, ?_⟩
  rw [e.block b (Array.getElem?_eq_some_iff.1 h).1]
  exact h
section
variable {P : Program}
theorem SemK.toBytesE {s t e : Nat} {src : ByteArray} (hs : isStr P s = true) (ht : P.underlying t = some (.slice e)) (he : P.underlying e = some (.int .u8)) {w : World} {K : Value → World → Prop}
    (hK : ∀ b c w', w.heap.size ≤ b → b < w'.heap.size → Ext w w' → Edit w' b src.data.toList → K (.slice (some ⟨b, 0, none⟩) src.size c) w') :
    SemK P (convert s t (.string src)) w K := by
  have hr := Lib.run_convert_string_bytes w s t e src (isStr_u hs) ht he
  have hx : Ext w (Lib.bytesWorld w e src) := Lib.bytesWorld_below w e src
  refine SemK.of hr (hK _ _ _ (Nat.le_refl _) (by rw [Lib.bytesWorld_size]; omega) hx ?_)
  have h := Lib.bytesWorld_at_new w e src
  have e1 : Lib.bytesCells w e src = (byteCells src.data.toList ++ List.replicate (grownCap w src.size 0 e - src.size) (Value.int .u8 0)).toArray := by
    unfold Lib.bytesCells byteCells
    apply Array.toList_inj.1
    simp
  refine ⟨List.replicate (grownCap w src.size 0 e - src.size) (Value.int .u8 0), e, ?_⟩
  rw [h, e1]
  simp only [List.size_toArray]
theorem SemK.storeE {ty : Nat} (hty : oneCell P ty = true) {w : World} {b k : Nat} {l : List UInt8} (h : Edit w b l) (hk : k < l.length) (c : UInt8) {K : Unit → World → Prop}
    (hK : ∀ w', Chg b w w' → Edit w' b (l.set k c) → K () w') : SemK P (Instr.storeAt ty (.pointer (some ⟨b, 0 + k * 1, none⟩)) (.int .u8 c.toNat)) w K := by
  obtain ⟨d, inf, hu, hi, hs, hag⟩ := oneCell_spec hty
  obtain ⟨rest, t, hb⟩ := h
  have hkl : k < (byteCells l ++ rest).length := by simp [byteCells]; omega
  have hc : w.cell? ⟨b, k, none⟩ = some (byteCells l ++ rest)[k] := by
    unfold World.cell?
    simp only [hb]
    simp
  have hf : w.frozen? ⟨b, k, none⟩ = false := by
    unfold World.frozen?
    simp only [hb]
    simp only [Bool.and_eq_false_iff, decide_eq_false_iff_not]
    exact .inl (by omega)
  have hr : (store ⟨b, k, none⟩ (.int .u8 c.toNat)).run P w = .ok () (w.setCell ⟨b, k, none⟩ (.int .u8 c.toNat)) := by
    unfold store
    simp [Sem.run, hc, hf]
  refine SemK.of (w' := w.setCell ⟨b, k, none⟩ (.int .u8 c.toNat)) ?_ (hK _ ⟨rfl, rfl, rfl, by simp [World.setCell], fun i hi => Below.heap_setCell _ _ _ _ hi⟩ ⟨rest, t, ?_⟩)
  · simp [Instr.storeAt, Instr.sureAddr, storeVar, Value.cells, sizeOf, typeInfo, hi, hs, storeCells, addr_add_none, hr]
  · have e1 : byteCells (l.set k c) ++ rest = (byteCells l ++ rest).set k (.int .u8 c.toNat) := by
      rw [List.set_append_left _ _ (by simp [byteCells]; omega)]
      simp [byteCells, List.map_set]
    rw [e1]
    simp only [World.setCell, Array.getElem?_modify, hb]
    simp
theorem SemK.storeE' {ty : Nat} (hty : oneCell P ty = true) {w : World} {b k : Nat} {l : List UInt8} (h : Edit w b l) (hk : k < l.length) (c : UInt8) {m : Int} (hm : m = (c.toNat : Int)) {K : Unit → World → Prop}
    (hK : ∀ w', Chg b w w' → Edit w' b (l.set k c) → K () w') : SemK P (Instr.storeAt ty (.pointer (some ⟨b, 0 + k * 1, none⟩)) (.int .u8 m)) w K := by
  subst hm
  exact SemK.storeE hty h hk c hK
end
/-- w, but for the blocks b and b' -/
def Bar2 (b b' : Nat) (w : World) : World → Prop := fun w' => Mod (fun k => k = b ∨ k = b') w w'
theorem Bar2.self (b b' : Nat) (w : World) : Bar2 b b' w w := Mod.refl _ _
theorem Bar2.chg1 {b b' : Nat} {w w1 w' : World} (h : Bar2 b b' w w1) (e : Chg b w1 w') : Bar2 b b' w w' := Mod.trans h (e.but.mono fun _ h => .inl h)
theorem Bar2.chg2 {b b' : Nat} {w w1 w' : World} (h : Bar2 b b' w w1) (e : Chg b' w1 w') : Bar2 b b' w w' := Mod.trans h (e.but.mono fun _ h => .inr h)
theorem Bar2.cells {b b' c o : Nat} {w : World} {vs : List Value} (h : Cells w c o vs) (hne : c ≠ b) (hne' : c ≠ b') : ∀ w', Bar2 b b' w w' → Cells w' c o vs := fun _ hw => h.mod hw (by rintro (h | h); exact hne h; exact hne' h)
/-- A REGION THAT DRAWS ITS ORDER AND WRITES THE BLOCKS b AND b', WHICH NOTHING ELSE IN IT READS BEHIND THE WRITES -/
theorem DrawK.apart2 {P : Program} {T : Tab} (hT : T.fok P = true) (hm : P.follows .mixedOrders = true) {n : Nat} {ops : Array Oper} (b b' : Nat) (plan : List (Nat × Way)) (hok : okOps n ops = true) (hB : heldA ops plan = true) {f : Fr} {w : World} {K : Fr → World → Prop}
    (h : ∀ w1, Ext w w1 → hOpsQ P T n (Bar2 b b' w1) ops.toList (selW ops.toList plan) f w1 K) : DrawK P n ops f w K := by
  unfold DrawK
  intro id
  simp only [heldA, Bool.and_eq_true] at hB
  obtain ⟨⟨hs, hl⟩, hB⟩ := hB
  have e1 : Ext w { w with drawn := w.drawn + 1 } := ⟨rfl, rfl, rfl, Nat.le_refl _, fun _ _ => rfl⟩
  refine wp_region_any hm (wpAnyW_any (W := fun _ => false) (S := Bar2 b b' { w with drawn := w.drawn + 1 }) _ _ _ _ ?_)
  have := hOpsQ_sound hT hok hs (Q := lift n K (fun _ _ _ => False) (fun _ _ => False)) (fun c a w hq => hq.elim) (fun f w hk => ⟨f, rfl, hk⟩) plan _ f _ (closed_none ops) hB (Bar2.self b b' _) (h _ e1)
  rw [Nat.eq_of_beq_eq_true hl] at this
  exact this
end Go.Vc
