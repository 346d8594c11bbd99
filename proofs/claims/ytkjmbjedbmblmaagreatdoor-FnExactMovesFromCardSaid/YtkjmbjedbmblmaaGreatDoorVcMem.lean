/- Laws of memory for that calculus: cells, blocks, loads and stores, for every program; each with the premises that it names. -/
import Derived.Test.YtkjmbjedbmblmaaGreatDoorVcCore
namespace Go.Vc
open Go Go.RowKit

/-! ### worlds -/
/-- w' is w with new blocks: what was there is as it was -/
abbrev Ext (w w' : World) : Prop := Below w.heap.size w w'
theorem Ext.refl (w : World) : Ext w w := Below.refl _ _
theorem Ext.trans {a b c : World} (h : Ext a b) (k : Ext b c) : Ext a c := Below.trans h (Below.mono k h.size)
/-- only block b has turned -/
structure Chg (b : Nat) (w w' : World) : Prop where
  os : w'.os = w.os
  tape : w'.tape = w.tape
  output : w'.output = w.output
  size : w'.heap.size = w.heap.size
  block : ∀ k, k ≠ b → w'.heap[k]? = w.heap[k]?
/-- of the old blocks only those of S may have turned; there may be new ones -/
structure Mod (S : Nat → Prop) (w w' : World) : Prop where
  os : w'.os = w.os
  tape : w'.tape = w.tape
  output : w'.output = w.output
  size : w.heap.size ≤ w'.heap.size
  block : ∀ k, ¬ S k → k < w.heap.size → w'.heap[k]? = w.heap[k]?
abbrev But (b : Nat) (w w' : World) : Prop := Mod (fun k => k = b) w w'
theorem Mod.refl (S : Nat → Prop) (w : World) : Mod S w w := ⟨rfl, rfl, rfl, Nat.le_refl _, fun _ _ _ => rfl⟩
theorem Mod.trans {S : Nat → Prop} {x y z : World} (h : Mod S x y) (k : Mod S y z) : Mod S x z :=
  ⟨k.os.trans h.os, k.tape.trans h.tape, k.output.trans h.output, Nat.le_trans h.size k.size,
   fun i hi hl => (k.block i hi (Nat.lt_of_lt_of_le hl h.size)).trans (h.block i hi hl)⟩
theorem Mod.mono {S S' : Nat → Prop} {w w' : World} (h : Mod S w w') (hs : ∀ k, S k → S' k) : Mod S' w w' :=
  ⟨h.os, h.tape, h.output, h.size, fun k hk hl => h.block k (fun h' => hk (hs k h')) hl⟩
theorem But.refl (b : Nat) (w : World) : But b w w := Mod.refl _ _
theorem Chg.but {b : Nat} {w w' : World} (h : Chg b w w') : But b w w' := ⟨h.os, h.tape, h.output, Nat.le_of_eq h.size.symm, fun k hk _ => h.block k hk⟩
theorem Ext.mod {S : Nat → Prop} {w w' : World} (h : Ext w w') : Mod S w w' := ⟨h.os, h.tape, h.output, h.size, fun k _ hl => h.block k hl⟩
theorem Ext.but {b : Nat} {w w' : World} (h : Ext w w') : But b w w' := Ext.mod h
theorem Mod.ext {S : Nat → Prop} {w w' : World} (h : Mod S w w') (hb : ∀ k, S k → w.heap.size ≤ k) : Ext w w' :=
  ⟨h.os, h.tape, h.output, h.size, fun k hk => h.block k (fun hs => by have := hb k hs; omega) hk⟩
theorem But.ext {b : Nat} {w w' : World} (h : But b w w') (hb : w.heap.size ≤ b) : Ext w w' := Mod.ext h (fun k hk => by omega)
/-- anchored at an earlier world -/
theorem Ext.mod_trans {S : Nat → Prop} {a w w' : World} (e : Ext a w) (h : Mod S w w') (hb : ∀ k, S k → a.heap.size ≤ k) : Ext a w' :=
  Below.trans e ⟨h.os, h.tape, h.output, h.size, fun k hk => h.block k (fun hs => by have := hb k hs; omega) (Nat.lt_of_lt_of_le hk e.size)⟩
theorem Ext.but_trans {b : Nat} {a w w' : World} (e : Ext a w) (h : But b w w') (hb : a.heap.size ≤ b) : Ext a w' := Ext.mod_trans e h (fun k hk => by omega)

/-! ### what lies in memory -/
/-- these values lie from place o of block b on -/
def Cells (w : World) (b o : Nat) (vs : List Value) : Prop := ∀ j v, vs[j]? = some v → w.cell? ⟨b, o + j, none⟩ = some v
/-- block b is a row of these cells, and may be written -/
def Blk (w : World) (b : Nat) (cs : List Value) (t : Nat) : Prop := w.heap[b]? = some (.cells cs.toArray t (0, 0))

theorem cell_lt {w : World} {a : Addr} {v : Value} (h : w.cell? a = some v) : a.block < w.heap.size := by
  unfold World.cell? at h
  split at h
  · rename_i c e f hc
    exact (Array.getElem?_eq_some_iff.1 hc).1
  · cases h
theorem cell_of_block {w w' : World} {a : Addr} (h : w'.heap[a.block]? = w.heap[a.block]?) : w'.cell? a = w.cell? a := by
  unfold World.cell?; rw [h]
theorem Cells.ext {w w' : World} {b o : Nat} {vs : List Value} (h : Cells w b o vs) (e : Ext w w') : Cells w' b o vs := by
  intro j v hj
  have h1 := h j v hj
  rw [← h1]
  exact cell_of_block (e.block _ (cell_lt h1))
theorem Cells.mod {S : Nat → Prop} {w w' : World} {b o : Nat} {vs : List Value} (h : Cells w b o vs) (e : Mod S w w') (hc : ¬ S b) : Cells w' b o vs := by
  intro j v hj
  have h1 := h j v hj
  rw [← h1]
  exact cell_of_block (e.block _ hc (cell_lt h1))
theorem Blk.lt {w : World} {b t : Nat} {cs : List Value} (h : Blk w b cs t) : b < w.heap.size := (Array.getElem?_eq_some_iff.1 h).1
theorem Blk.ext {w w' : World} {b t : Nat} {cs : List Value} (h : Blk w b cs t) (e : Ext w w') : Blk w' b cs t := by
  unfold Blk at *; rw [e.block _ (Blk.lt h)]; exact h
theorem Blk.mod {S : Nat → Prop} {w w' : World} {b t : Nat} {cs : List Value} (h : Blk w b cs t) (e : Mod S w w') (hc : ¬ S b) : Blk w' b cs t := by
  unfold Blk at *; rw [e.block _ hc (Blk.lt h)]; exact h
theorem Blk.cells {w : World} {b t : Nat} {cs : List Value} (h : Blk w b cs t) : Cells w b 0 cs := by
  intro j v hj
  unfold Blk at h
  unfold World.cell?
  simp only [h]
  simpa using hj
theorem Cells.drop {w : World} {b o : Nat} {vs : List Value} (h : Cells w b o vs) (k : Nat) : Cells w b (o + k) (vs.drop k) := by
  intro j v hj
  rw [List.getElem?_drop] at hj
  have := h (k + j) v hj
  rwa [← Nat.add_assoc] at this
theorem Cells.take {w : World} {b o : Nat} {vs : List Value} (h : Cells w b o vs) (k : Nat) : Cells w b o (vs.take k) := by
  intro j v hj
  rw [List.getElem?_take] at hj
  split at hj
  · exact h j v hj
  · cases hj
theorem Cells.append {w : World} {b o : Nat} {us vs : List Value} : Cells w b o (us ++ vs) ↔ Cells w b o us ∧ Cells w b (o + us.length) vs := by
  constructor
  · intro h
    refine ⟨fun j v hj => h j v ?_, fun j v hj => ?_⟩
    · have hl : j < us.length := (List.getElem?_eq_some_iff.1 hj).1
      rw [List.getElem?_append_left hl]; exact hj
    · have := h (us.length + j) v (by rw [List.getElem?_append_right (by omega)]; simpa using hj)
      rwa [← Nat.add_assoc] at this
  · rintro ⟨h1, h2⟩ j v hj
    rcases Nat.lt_or_ge j us.length with hl | hl
    · rw [List.getElem?_append_left hl] at hj; exact h1 j v hj
    · rw [List.getElem?_append_right hl] at hj
      have := h2 _ _ hj
      have e : o + us.length + (j - us.length) = o + j := by omega
      rwa [e] at this

/-- a value that fills one cell -/
def cellish : Value → Bool
  | .agg _ | .tuple _ => false
  | _ => true

/-! ### laws of the instructions -/
section
variable {P : Program}

theorem oneCell_spec {t : Nat} (h : oneCell P t = true) : ∃ d inf, P.underlying t = some d ∧ P.info? t = some inf ∧ inf.size = 1 ∧ (isAgg t).run P = fun w => .ok false w := by
  unfold oneCell at h
  split at h <;> try cases h
  rename_i d inf h1 h2 hu hi
  refine ⟨_, _, hu, hi, by simpa using h, ?_⟩
  funext w
  simp only [isAgg, Sem.run_bind, run_underlying hu, Result.andThen_ok]
  rfl
theorem aggSize_spec {t n : Nat} (h : aggSize P t = some n) : ∃ inf, P.info? t = some inf ∧ inf.size = n ∧ (isAgg t).run P = fun w => .ok true w := by
  unfold aggSize at h
  split at h <;> try cases h
  · rename_i fs inf hu hi
    refine ⟨_, hi, rfl, ?_⟩
    funext w
    simp [isAgg, run_underlying hu]
  · rename_i k e inf hu hi
    refine ⟨_, hi, rfl, ?_⟩
    funext w
    simp [isAgg, run_underlying hu]

theorem run_load1 {t : Nat} (ht : oneCell P t = true) {w : World} {a : Addr} {v : Value} (h : w.cell? a = some v) : (Instr.loadAt t (.pointer (some a))).run P w = .ok v w := by
  obtain ⟨d, inf, hu, hi, hs, hag⟩ := oneCell_spec ht
  have hag := congrFun hag w
  simp only [Instr.loadAt, Instr.sureAddr, loadVar, Sem.run_bind, Sem.run_pure, Result.andThen_ok]
  rw [hag]
  simp [load, Sem.run, h]

theorem run_loadCellsFrom {w : World} {b o : Nat} : ∀ (n i : Nat) (acc : Array Value) (vs : List Value), vs.length = n → Cells w b (o + i) vs →
    (loadCellsFrom ⟨b, o, none⟩ i n acc).run P w = .ok (acc ++ vs.toArray) w
  | 0, i, acc, vs, hl, _ => by
    have : vs = [] := List.eq_nil_of_length_eq_zero hl
    subst this; simp [loadCellsFrom]
  | n + 1, i, acc, v :: vs, hl, hc => by
    have h0 := hc 0 v (by simp)
    simp only [Nat.add_zero] at h0
    simp only [loadCellsFrom, load, Sem.run_bind, Sem.run, addr_add_none, h0, Result.andThen_ok]
    rw [run_loadCellsFrom n (i + 1) _ vs (by simpa using hl) (by
      have := Cells.drop hc 1
      simpa [Nat.add_assoc] using this)]
    simp
theorem run_loadAgg {t n : Nat} (ht : aggSize P t = some n) {w : World} {b o : Nat} {vs : List Value} (hl : vs.length = n) (h : Cells w b o vs) :
    (Instr.loadAt t (.pointer (some ⟨b, o, none⟩))).run P w = .ok (.agg vs.toArray) w := by
  obtain ⟨inf, hi, hs, hag⟩ := aggSize_spec ht
  have hag := congrFun hag w
  simp only [Instr.loadAt, Instr.sureAddr, loadVar, Sem.run_bind, Sem.run_pure, Result.andThen_ok]
  rw [hag]
  have := run_loadCellsFrom (P := P) (w := w) (b := b) (o := o) n 0 #[] vs hl (by simpa using h)
  simp [sizeOf, typeInfo, hi, hs, loadCells, this]

theorem Blk.set {w : World} {b t k : Nat} {cs : List Value} (h : Blk w b cs t) (v : Value) : Blk (w.setCell ⟨b, k, none⟩ v) b (cs.set k v) t ∧ Chg b w (w.setCell ⟨b, k, none⟩ v) := by
  unfold Blk at *
  refine ⟨?_, ⟨rfl, rfl, rfl, by simp [World.setCell], fun i hi => Below.heap_setCell _ _ _ _ hi⟩⟩
  simp only [World.setCell, Array.getElem?_modify]
  simp [h]

theorem run_store {w : World} {b t k : Nat} {cs : List Value} (h : Blk w b cs t) (hk : k < cs.length) {v : Value} (hv : cellish v = true) :
    (store ⟨b, k, none⟩ v).run P w = .ok () (w.setCell ⟨b, k, none⟩ v) := by
  have hc : w.cell? ⟨b, k, none⟩ = some cs[k] := by
    have := h.cells k cs[k] (by simp)
    simpa using this
  have hf : w.frozen? ⟨b, k, none⟩ = false := by
    unfold Blk at h
    unfold World.frozen?
    simp [h]
  unfold store
  cases v <;> simp only [cellish] at hv <;> simp [Sem.run, hc, hf] <;> cases hv

def splice (cs : List Value) (k : Nat) : List Value → List Value
  | [] => cs
  | v :: vs => splice (cs.set k v) (k + 1) vs
theorem splice_length : ∀ (vs : List Value) (cs : List Value) (k : Nat), (splice cs k vs).length = cs.length
  | [], _, _ => rfl
  | v :: vs, cs, k => by rw [splice, splice_length vs]; simp
theorem set_take_drop {α : Type} (cs : List α) (k : Nat) (v : α) (h : k < cs.length) : cs.set k v = cs.take k ++ v :: cs.drop (k + 1) := List.set_eq_take_append_cons_drop ▸ (if_pos h)
theorem splice_eq : ∀ (vs : List Value) (cs : List Value) (k : Nat), k + vs.length ≤ cs.length → splice cs k vs = cs.take k ++ vs ++ cs.drop (k + vs.length)
  | [], cs, k, _ => by simp [splice]
  | v :: vs, cs, k, h => by
    simp only [List.length_cons] at h
    rw [splice, splice_eq vs _ _ (by simp; omega)]
    rw [set_take_drop cs k v (by omega)]
    have e1 : (cs.take k ++ v :: cs.drop (k + 1)).take (k + 1) = cs.take k ++ [v] := by
      rw [List.take_append]
      have : k - (cs.take k).length = 0 := by simp; omega
      have h2 : (cs.take k).length = k := by simp; omega
      rw [h2, List.take_take]
      have h3 : min (k + 1) k = k := by omega
      simp [h3]
    have e2 : (cs.take k ++ v :: cs.drop (k + 1)).drop (k + 1 + vs.length) = cs.drop (k + (vs.length + 1)) := by
      have h2 : (cs.take k).length = k := by simp; omega
      rw [List.drop_append, h2, List.drop_eq_nil_of_le (by rw [h2]; omega)]
      have : k + 1 + vs.length - k = vs.length + 1 := by omega
      rw [this]
      simp only [List.nil_append, List.drop_succ_cons, List.drop_drop]
      congr 1; omega
    rw [e1, e2]
    simp

theorem run_storeCells {b t : Nat} : ∀ (vs : List Value) (cs : List Value) (o i : Nat) (w : World), Blk w b cs t → o + i + vs.length ≤ cs.length → (∀ v ∈ vs, cellish v = true) →
    ∃ w', (storeCells ⟨b, o, none⟩ vs i).run P w = .ok () w' ∧ Blk w' b (splice cs (o + i) vs) t ∧ Chg b w w'
  | [], cs, o, i, w, h, _, _ => ⟨w, by simp [storeCells], h, ⟨rfl, rfl, rfl, rfl, fun _ _ => rfl⟩⟩
  | v :: vs, cs, o, i, w, h, hl, hv => by
    simp only [List.length_cons] at hl
    have h1 := run_store (P := P) h (k := o + i) (by omega) (hv v (by simp))
    obtain ⟨hb, hc⟩ := h.set (k := o + i) v
    obtain ⟨w', hr, hb', hc'⟩ := run_storeCells vs (cs.set (o + i) v) o (i + 1) _ hb (by simp; omega) (fun u hu => hv u (by simp [hu]))
    refine ⟨w', ?_, ?_, ⟨hc'.os.trans hc.os, hc'.tape.trans hc.tape, hc'.output.trans hc.output, hc'.size.trans hc.size, fun k hk => (hc'.block k hk).trans (hc.block k hk)⟩⟩
    · simp only [storeCells, Sem.run_bind, addr_add_none, h1, Result.andThen_ok]
      exact hr
    · rw [splice]; exact hb'

/-- a store of one cell into a block of the call's own -/
theorem SemK.store1 {ty : Nat} (hty : oneCell P ty = true) {w : World} {b t k : Nat} {cs : List Value} (h : Blk w b cs t) (hk : k < cs.length) {v : Value} (hv : cellish v = true) {K : Unit → World → Prop}
    (hK : ∀ w', Chg b w w' → Blk w' b (cs.set k v) t → K () w') : SemK P (Instr.storeAt ty (.pointer (some ⟨b, k, none⟩)) v) w K := by
  obtain ⟨d, inf, hu, hi, hs, hag⟩ := oneCell_spec hty
  obtain ⟨hb, hc⟩ := h.set (k := k) v
  refine SemK.of (w' := w.setCell ⟨b, k, none⟩ v) ?_ (hK _ hc hb)
  have hr := run_store (P := P) h hk hv
  have hcells : v.cells = #[v] := by cases v <;> first | rfl | cases hv
  simp [Instr.storeAt, Instr.sureAddr, storeVar, hcells, sizeOf, typeInfo, hi, hs, storeCells, addr_add_none, hr]
/-- a store of an aggregate -/
theorem SemK.storeAgg {ty n : Nat} (hty : aggSize P ty = some n) {w : World} {b t k : Nat} {cs : List Value} (h : Blk w b cs t) {vs : List Value} (hn : vs.length = n) (hk : k + n ≤ cs.length) (hv : ∀ v ∈ vs, cellish v = true) {K : Unit → World → Prop}
    (hK : ∀ w', Chg b w w' → Blk w' b (cs.take k ++ vs ++ cs.drop (k + n)) t → K () w') : SemK P (Instr.storeAt ty (.pointer (some ⟨b, k, none⟩)) (.agg ⟨vs⟩)) w K := by
  obtain ⟨inf, hi, hs, hag⟩ := aggSize_spec hty
  obtain ⟨w', hr, hb, hc⟩ := run_storeCells (P := P) vs cs k 0 w h (by omega) hv
  rw [Nat.add_zero, splice_eq _ _ _ (by omega), hn] at hb
  refine SemK.of (w' := w') ?_ (hK _ hc hb)
  simp only [Instr.storeAt, Instr.sureAddr, storeVar, Value.cells, Sem.run_bind, Sem.run_pure, Result.andThen_ok, sizeOf, typeInfo]
  simp [hi, hs, hn, hr]

theorem SemK.load1 {ty : Nat} (hty : oneCell P ty = true) {w : World} {b o k : Nat} {vs : List Value} (h : Cells w b o vs) {v : Value} (hk : vs[k]? = some v) {K : Value → World → Prop} (hK : K v w) :
    SemK P (Instr.loadAt ty (.pointer (some ⟨b, o + k, none⟩))) w K := SemK.of (run_load1 hty (h k v hk)) hK
theorem SemK.loadAgg {ty n : Nat} (hty : aggSize P ty = some n) {w : World} {b o : Nat} {vs : List Value} (h : Cells w b o vs) (hn : vs.length = n) {K : Value → World → Prop} (hK : K (.agg vs.toArray) w) :
    SemK P (Instr.loadAt ty (.pointer (some ⟨b, o, none⟩))) w K := SemK.of (run_loadAgg hty hn h) hK

theorem alloc_ext (w : World) (o : Obj) : Ext w (w.alloc o) := (Below.refl _ _).alloc (Nat.le_refl _) o
theorem alloc_blk (w : World) (cs : List Value) (t : Nat) : Blk (w.alloc (.cells cs.toArray t)) w.heap.size cs t := by
  unfold Blk
  show (w.heap.push _)[w.heap.size]? = _
  simp
/-- a new variable -/
theorem SemK.box {t : Nat} {v : Value} {w : World} {K : Value → World → Prop} (hK : ∀ b w', w.heap.size ≤ b → b < w'.heap.size → Ext w w' → Blk w' b v.cells.toList t → K (.pointer (some ⟨b, 0, none⟩)) w') : SemK P (Instr.box t v) w K := by
  refine SemK.of (v := .pointer (some ⟨w.heap.size, 0, none⟩)) (w' := w.alloc (.cells v.cells t)) ?_ (hK _ _ (Nat.le_refl _) ?_ (alloc_ext _ _) ?_)
  · simp only [Instr.box, newVar, newRow, newObj]; rfl
  · show w.heap.size < (w.heap.push _).size
    simp
  · exact alloc_blk w v.cells.toList t
theorem SemK.alloc {t : Nat} {z : Value} (hz : (P.info? t).bind (·.zero) = some z) {w : World} {K : Value → World → Prop} (hK : ∀ b w', w.heap.size ≤ b → b < w'.heap.size → Ext w w' → Blk w' b z.cells.toList t → K (.pointer (some ⟨b, 0, none⟩)) w') :
    SemK P (Instr.alloc t true (.tuple #[])) w K := by
  rw [Option.bind_eq_some_iff] at hz
  obtain ⟨inf, hi, hz⟩ := hz
  refine SemK.of (v := .pointer (some ⟨w.heap.size, 0, none⟩)) (w' := w.alloc (.cells z.cells t)) ?_ (hK _ _ (Nat.le_refl _) ?_ (alloc_ext _ _) ?_)
  · have h1 : (zeroValue t).run P w = .ok z w := by simp [zeroValue, typeInfo, hi, hz]
    simp only [Instr.alloc, Sem.run_bind, h1, newVar, newRow, newObj]; rfl
  · show w.heap.size < (w.heap.push _).size
    simp
  · exact alloc_blk w z.cells.toList t

/-- s[k] -/
theorem SemK.char {t : Nat} (ht : isStr P t = true) {s : ByteArray} {i : Int} {c : UInt8} (k : Nat) (hi : i = k) (hk : s.data.toList[k]? = some c) {kd : IntKind} {w : World} {K : Value → World → Prop} (hK : K (.int .u8 c.toNat) w) :
    SemK P (Instr.index t (.string s) (.int kd i)) w K := by
  have hu : P.underlying t = some .string := by
    unfold isStr at ht; split at ht <;> simp_all
  have hs : s[k]? = some c := by
    have hlt : k < s.size := by
      have := (List.getElem?_eq_some_iff.1 hk).1
      simpa using this
    rw [ByteArray.getElem?_lt' s k hlt]
    have := (List.getElem?_eq_some_iff.1 hk).2
    simp only [Option.some.injEq]
    rw [← this]
    rfl
  subst hi
  refine SemK.of ?_ hK
  simp [Instr.index, asIntOf, run_underlying hu, hs]
end
end Go.Vc
