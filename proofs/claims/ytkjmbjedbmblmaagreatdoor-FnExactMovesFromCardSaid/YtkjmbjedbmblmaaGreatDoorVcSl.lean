/- Laws of slices and integers for that calculus, for every program; each with the premises that it names. -/
import Derived.Test.YtkjmbjedbmblmaaGreatDoorVcMem
namespace Go.Vc
open Go Go.RowKit

/-- the slice (a, n) reads as the list xs, each element by 'enc' in 'sz' cells -/
def Arr {α : Type} (enc : α → List Value) (sz : Nat) (w : World) (a : Option Addr) (n : Nat) (xs : List α) : Prop :=
  xs.length = n ∧ n ≤ maxLen ∧ ∀ i x, xs[i]? = some x → ∃ b o, a = some ⟨b, o, none⟩ ∧ Cells w b (o + i * sz) (enc x)

theorem Arr.ext {α : Type} {enc : α → List Value} {sz : Nat} {w w' : World} {a : Option Addr} {n : Nat} {xs : List α} (h : Arr enc sz w a n xs) (e : Ext w w') : Arr enc sz w' a n xs :=
  ⟨h.1, h.2.1, fun i x hi => let ⟨b, o, ha, hc⟩ := h.2.2 i x hi; ⟨b, o, ha, hc.ext e⟩⟩
theorem Arr.mod {α : Type} {enc : α → List Value} {sz : Nat} {S : Nat → Prop} {w w' : World} {a : Option Addr} {n : Nat} {xs : List α} (h : Arr enc sz w a n xs) (e : Mod S w w') (hc : ∀ x, a = some x → ¬ S x.block) : Arr enc sz w' a n xs :=
  ⟨h.1, h.2.1, fun i x hi => let ⟨b, o, ha, hcs⟩ := h.2.2 i x hi; ⟨b, o, ha, hcs.mod e (hc _ ha)⟩⟩
theorem Arr.len {α : Type} {enc : α → List Value} {sz : Nat} {w : World} {a : Option Addr} {n : Nat} {xs : List α} (h : Arr enc sz w a n xs) : xs.length = n := h.1
theorem Arr.le {α : Type} {enc : α → List Value} {sz : Nat} {w : World} {a : Option Addr} {n : Nat} {xs : List α} (h : Arr enc sz w a n xs) : n ≤ 9223372036854775807 := h.2.1
theorem Arr.nil {α : Type} {enc : α → List Value} {sz : Nat} {w : World} {a : Option Addr} : Arr enc sz w a 0 ([] : List α) :=
  ⟨rfl, Nat.zero_le _, fun _ _ h => by simp at h⟩

/-- the cells of a list's elements, one behind the other -/
def flat {α : Type} (enc : α → List Value) (xs : List α) : List Value := xs.flatMap enc
theorem flat_length {α : Type} {enc : α → List Value} {sz : Nat} (he : ∀ x, (enc x).length = sz) (xs : List α) : (flat enc xs).length = xs.length * sz := by
  induction xs with
  | nil => simp [flat]
  | cons x xs ih => simp only [flat, List.flatMap_cons, List.length_append, List.length_cons] at *; rw [ih, he, Nat.add_mul]; omega
theorem flat_append {α : Type} (enc : α → List Value) (xs ys : List α) : flat enc (xs ++ ys) = flat enc xs ++ flat enc ys := by simp [flat]
theorem flat_drop {α : Type} {enc : α → List Value} {sz : Nat} (he : ∀ x, (enc x).length = sz) : ∀ (xs : List α) (i : Nat), (flat enc xs).drop (i * sz) = flat enc (xs.drop i)
  | xs, 0 => by simp
  | [], i + 1 => by simp [flat]
  | x :: xs, i + 1 => by
    have h := flat_drop he xs i
    simp only [flat, List.flatMap_cons, List.drop_succ_cons] at *
    rw [← h, Nat.add_mul, Nat.one_mul, Nat.add_comm, List.drop_append, he]
    rw [List.drop_eq_nil_of_le (by rw [he]; omega)]
    simp
theorem Cells.elem {α : Type} {enc : α → List Value} {sz : Nat} (he : ∀ x, (enc x).length = sz) {w : World} {b o : Nat} {xs : List α} {rest : List Value} (h : Cells w b o (flat enc xs ++ rest)) {i : Nat} {x : α} (hi : xs[i]? = some x) :
    Cells w b (o + i * sz) (enc x) := by
  have h1 := (Cells.append.1 h).1
  have h2 := Cells.drop h1 (i * sz)
  rw [flat_drop he] at h2
  have hlt := (List.getElem?_eq_some_iff.1 hi).1
  rw [List.drop_eq_getElem_cons hlt] at h2
  have hx := (List.getElem?_eq_some_iff.1 hi).2
  rw [hx] at h2
  simp only [flat, List.flatMap_cons] at h2
  exact (Cells.append.1 h2).1
/-- a block of the call's own read as a slice -/
theorem Blk.arr {α : Type} {enc : α → List Value} {sz : Nat} (he : ∀ x, (enc x).length = sz) {w : World} {b t n : Nat} {xs : List α} {rest : List Value} (h : Blk w b (flat enc xs ++ rest) t) (hn : xs.length = n) (hm : n ≤ maxLen) : Arr enc sz w (some ⟨b, 0, none⟩) n xs :=
  ⟨hn, hm, fun _ _ hi => ⟨b, 0, rfl, Cells.elem he h.cells hi⟩⟩

theorem flat_update {α : Type} {enc : α → List Value} {sz : Nat} (he : ∀ x, (enc x).length = sz) (l1 l2 : List α) (x x' : α) (rest : List Value) (j : Nat) (v : Value) (hj : j < sz) (hx : (enc x).set j v = enc x') :
    (flat enc (l1 ++ x :: l2) ++ rest).set (l1.length * sz + j) v = flat enc (l1 ++ x' :: l2) ++ rest := by
  have hl := flat_length he l1
  simp only [flat_append, List.append_assoc]
  rw [List.set_append_right _ _ (by omega)]
  have e : l1.length * sz + j - (flat enc l1).length = j := by omega
  rw [e]
  have h1 : flat enc (x :: l2) = enc x ++ flat enc l2 := by simp [flat]
  have h2 : flat enc (x' :: l2) = enc x' ++ flat enc l2 := by simp [flat]
  rw [h1, h2, List.append_assoc, List.append_assoc, List.set_append_left _ _ (by rw [he]; exact hj), hx]
theorem drop_cons {α : Type} {xs : List α} {k : Nat} {x : α} (h : xs[k]? = some x) : xs.drop k = x :: xs.drop (k + 1) := by
  have hlt := (List.getElem?_eq_some_iff.1 h).1
  rw [List.drop_eq_getElem_cons hlt, (List.getElem?_eq_some_iff.1 h).2]
/-- the slice (a, n) is the call's own, from the head of its block on -/
def Own {α : Type} (enc : α → List Value) (w : World) (a : Option Addr) (n t : Nat) (xs : List α) : Prop :=
  xs.length = n ∧ n ≤ 9223372036854775807 ∧ ((a = none ∧ n = 0) ∨ ∃ b rest, a = some ⟨b, 0, none⟩ ∧ Blk w b (flat enc xs ++ rest) t)
theorem Own.arr {α : Type} {enc : α → List Value} {sz : Nat} (he : ∀ x, (enc x).length = sz) {w : World} {a : Option Addr} {n t : Nat} {xs : List α} (h : Own enc w a n t xs) : Arr enc sz w a n xs := by
  obtain ⟨h1, h2, h3⟩ := h
  rcases h3 with ⟨rfl, rfl⟩ | ⟨b, rest, rfl, hb⟩
  · have : xs = [] := List.eq_nil_of_length_eq_zero h1
    subst this; exact Arr.nil
  · exact hb.arr he h1 h2
theorem Own.mod {α : Type} {enc : α → List Value} {S : Nat → Prop} {w w' : World} {a : Option Addr} {n t : Nat} {xs : List α} (h : Own enc w a n t xs) (e : Mod S w w') (hc : ∀ x, a = some x → ¬ S x.block) : Own enc w' a n t xs :=
  ⟨h.1, h.2.1, h.2.2.imp id fun ⟨b, rest, ha, hb⟩ => ⟨b, rest, ha, hb.mod e (hc _ ha)⟩⟩
theorem Own.ext {α : Type} {enc : α → List Value} {w w' : World} {a : Option Addr} {n t : Nat} {xs : List α} (h : Own enc w a n t xs) (e : Ext w w') : Own enc w' a n t xs :=
  ⟨h.1, h.2.1, h.2.2.imp id fun ⟨b, rest, ha, hb⟩ => ⟨b, rest, ha, hb.ext e⟩⟩
theorem Own.nil {α : Type} {enc : α → List Value} {w : World} {t : Nat} : Own enc w none 0 t ([] : List α) := ⟨rfl, by omega, .inl ⟨rfl, rfl⟩⟩
/-- the block of a slice -/
def blkIn (a : Option Addr) (k : Nat) : Prop := ∃ x, a = some x ∧ k = x.block
/-- the slice's array lies from block B on -/
def NewAt (B : Nat) (a : Option Addr) : Prop := ∀ x, a = some x → B ≤ x.block
theorem NewAt.mono {B B' : Nat} {a : Option Addr} (h : NewAt B a) (hb : B' ≤ B) : NewAt B' a := fun x hx => Nat.le_trans hb (h x hx)
theorem NewAt.nil {B : Nat} : NewAt B none := fun x hx => by cases hx

section
variable {P : Program}
theorem elemSize_iff {t n : Nat} (h : elemSize P t = some n) : ∃ e inf, P.underlying t = some (.slice e) ∧ P.info? e = some inf ∧ inf.size = n := elemSize_slice h
/-- &list[k] -/
theorem SemK.index {α : Type} {enc : α → List Value} {sz t : Nat} (ht : elemSize P t = some sz) {w : World} {a : Option Addr} {n c : Nat} {xs : List α} (h : Arr enc sz w a n xs) {i : Int} (k : Nat) (hi : i = k) {x : α} (hx : xs[k]? = some x) {kd : IntKind}
    {K : Value → World → Prop} (hK : ∀ b o, a = some ⟨b, o, none⟩ → Cells w b (o + k * sz) (enc x) → K (.pointer (some ⟨b, o + k * sz, none⟩)) w) : SemK P (Instr.indexAt t (.slice a n c) (.int kd i)) w K := by
  obtain ⟨e, inf, hu, hinf, hs⟩ := elemSize_slice ht
  obtain ⟨b, o, ha, hc⟩ := h.2.2 k x hx
  have hlt : k < n := by rw [← h.1]; exact (List.getElem?_eq_some_iff.1 hx).1
  subst hi
  subst ha
  refine SemK.of ?_ (hK b o rfl hc)
  simp [Instr.indexAt, asIntOf, run_underlying hu, hlt, sizeOf, typeInfo, hinf, hs, addr_add_none]
/-- &list[k] of a block of the call's own -/
theorem SemK.indexOwn {sz t : Nat} (ht : elemSize P t = some sz) {w : World} {b o n c : Nat} {i : Int} (k : Nat) (hi : i = k) (hlt : k < n) {kd : IntKind}
    {K : Value → World → Prop} (hK : K (.pointer (some ⟨b, o + k * sz, none⟩)) w) : SemK P (Instr.indexAt t (.slice (some ⟨b, o, none⟩) n c) (.int kd i)) w K := by
  obtain ⟨e, inf, hu, hinf, hs⟩ := elemSize_slice ht
  subst hi
  refine SemK.of ?_ hK
  simp [Instr.indexAt, asIntOf, run_underlying hu, hlt, sizeOf, typeInfo, hinf, hs, addr_add_none]

theorem eqGuard_int (op : BinOp) (t : Nat) (X Y : Operand) (k k' : IntKind) (a b : Int) (w : World) : (eqGuard op t X Y (.int k a) (.int k' b)).run P w = .ok () w := by
  cases op <;> simp [eqGuard]
/-- + - * on ints, where the result fits -/
theorem SemK.add {t : Nat} {X Y : Operand} {a b : Int} (r : Int) (hr : a + b = r) (h1 : -9223372036854775808 ≤ r) (h2 : r ≤ 9223372036854775807) {w : World} {K : Value → World → Prop} (hK : K (.int .i64 r) w) :
    SemK P (arith .add t X Y (.int .i64 a) (.int .i64 b)) w K := by
  refine SemK.of ?_ hK
  have := IntWalk.i64_in r ⟨h1, h2⟩
  simp [arith, eqGuard_int, binOp, Op.intArith, hr, this]
theorem SemK.sub {t : Nat} {X Y : Operand} {a b : Int} (r : Int) (hr : a - b = r) (h1 : -9223372036854775808 ≤ r) (h2 : r ≤ 9223372036854775807) {w : World} {K : Value → World → Prop} (hK : K (.int .i64 r) w) :
    SemK P (arith .sub t X Y (.int .i64 a) (.int .i64 b)) w K := by
  refine SemK.of ?_ hK
  have := IntWalk.i64_in r ⟨h1, h2⟩
  simp [arith, eqGuard_int, binOp, Op.intArith, hr, this]
theorem SemK.mul {t : Nat} {X Y : Operand} {a b : Int} (r : Int) (hr : a * b = r) (h1 : -9223372036854775808 ≤ r) (h2 : r ≤ 9223372036854775807) {w : World} {K : Value → World → Prop} (hK : K (.int .i64 r) w) :
    SemK P (arith .mul t X Y (.int .i64 a) (.int .i64 b)) w K := by
  refine SemK.of ?_ hK
  have := IntWalk.i64_in r ⟨h1, h2⟩
  simp [arith, eqGuard_int, binOp, Op.intArith, hr, this]
/-- / and % of a number not below 0 by one above 0 -/
theorem SemK.quo {t : Nat} {X Y : Operand} {a b : Int} (h0 : 0 ≤ a) (ha : a ≤ 9223372036854775807) (hb : 0 < b) {w : World} {K : Value → World → Prop} (hK : K (.int .i64 (a / b)) w) :
    SemK P (arith .quo t X Y (.int .i64 a) (.int .i64 b)) w K := by
  refine SemK.of ?_ hK
  have hz : ¬ b = 0 := by omega
  have e : a.tdiv b = a / b := Int.tdiv_eq_ediv_of_nonneg h0
  have h1 : 0 ≤ a / b := Int.ediv_nonneg h0 (by omega)
  have h2 : a / b ≤ a := Int.ediv_le_self _ h0
  have := IntWalk.i64_in (a / b) ⟨by omega, by omega⟩
  simp [arith, eqGuard_int, binOp, Op.intDiv, hz, e, this]
theorem SemK.rem {t : Nat} {X Y : Operand} {a b : Int} (h0 : 0 ≤ a) (hb : 0 < b) {w : World} {K : Value → World → Prop} (hK : K (.int .i64 (a % b)) w) :
    SemK P (arith .rem t X Y (.int .i64 a) (.int .i64 b)) w K := by
  refine SemK.of ?_ hK
  have hz : ¬ b = 0 := by omega
  have e : a.tmod b = a % b := Int.tmod_eq_emod_of_nonneg h0
  simp [arith, eqGuard_int, binOp, Op.intDiv, hz, e]
/-- + - * on ints, wrapping -/
theorem SemK.wadd {t : Nat} {X Y : Operand} {a b : Int} {k : IntKind} {w : World} {K : Value → World → Prop} (hK : K (.int k (k.wrap (a + b))) w) :
    SemK P (arith .add t X Y (.int k a) (.int k b)) w K := by
  refine SemK.of ?_ hK
  simp [arith, eqGuard_int, binOp, Op.intArith]
theorem SemK.wsub {t : Nat} {X Y : Operand} {a b : Int} {k : IntKind} {w : World} {K : Value → World → Prop} (hK : K (.int k (k.wrap (a - b))) w) :
    SemK P (arith .sub t X Y (.int k a) (.int k b)) w K := by
  refine SemK.of ?_ hK
  simp [arith, eqGuard_int, binOp, Op.intArith]
/-- + on strings -/
theorem SemK.cat {t : Nat} {X Y : Operand} {a b : ByteArray} (hl : a.size + b.size ≤ 9223372036854775807) {w : World} {K : Value → World → Prop} (hK : K (.string (a ++ b)) w) :
    SemK P (arith .add t X Y (.string a) (.string b)) w K := by
  refine SemK.of ?_ hK
  have e2 : (a.size : Int) + b.size ≤ 9223372036854775807 := by omega
  simp [arith, eqGuard, binOp, Op.stringOp, e2]
/-- a conversion of ints, where the number fits -/
theorem SemK.conv {s t : Nat} {k : IntKind} (ht : intKindOf P t = some k) (hs : (P.underlying s).isSome = true) {k0 : IntKind} {n : Int} (hw : k.wrap n = n) {w : World} {K : Value → World → Prop} (hK : K (.int k n) w) :
    SemK P (convert s t (.int k0 n)) w K := by
  have hu : P.underlying t = some (.int k) := by
    unfold intKindOf at ht; split at ht <;> simp_all
  obtain ⟨d, hd⟩ := Option.isSome_iff_exists.1 hs
  refine SemK.of ?_ hK
  simp [convert, run_underlying hu, run_underlying hd, Conv.intToInt, hw]

/-- what make wants to know of a slice's type: the element's type, its zero's cells, its bytes -/
def mkInfo (P : Program) (t : Nat) : Option (Nat × List Value × Nat) :=
  match P.underlying t with
  | some (.slice e) => match P.info? e with
    | some inf => match inf.zero with
      | some z => if z.cells.size = inf.size ∧ 0 < inf.size then some (e, z.cells.toList, inf.bytes) else none
      | none => none
    | none => none
  | _ => none
theorem mkInfo_spec {t e by_ : Nat} {zs : List Value} (h : mkInfo P t = some (e, zs, by_)) : ∃ i z, P.underlying t = some (.slice e) ∧ P.info? e = some i ∧ i.zero = some z ∧ z.cells.toList = zs ∧ i.bytes = by_ ∧ z.cells.size = i.size ∧ 0 < i.size := by
  unfold mkInfo at h
  split at h <;> try cases h
  rename_i e' hu
  split at h <;> try cases h
  rename_i inf hi
  split at h <;> try cases h
  rename_i z hz
  split at h <;> try cases h
  rename_i hc
  exact ⟨_, _, hu, hi, hz, rfl, rfl, hc.1, hc.2⟩
theorem madeCells_flat (z : Array Value) (hz : 0 < z.size) (n : Nat) : (madeCells z (n * z.size)).toList = flat (fun _ : Unit => z.toList) (List.replicate n ()) := by
  apply List.ext_getElem?
  intro j
  by_cases hj : j < n * z.size
  · have h1 : (madeCells z (n * z.size)).toList[j]? = some (z[j % z.size]!) := by simp [madeCells, hj]
    rw [h1]
    have hq : j / z.size < n := (Nat.div_lt_iff_lt_mul hz).2 hj
    have hd := flat_drop (enc := fun _ : Unit => z.toList) (sz := z.size) (fun _ => by simp) (List.replicate n ()) (j / z.size)
    have hm : j % z.size < z.size := Nat.mod_lt _ hz
    have e : j = j / z.size * z.size + j % z.size := by have := Nat.div_add_mod j z.size; rw [Nat.mul_comm] at this; omega
    have h2 : ((flat (fun _ : Unit => z.toList) (List.replicate n ())).drop (j / z.size * z.size))[j % z.size]? = some (z[j % z.size]!) := by
      rw [hd, List.drop_replicate]
      obtain ⟨m, hm2⟩ : ∃ m, n - j / z.size = m + 1 := ⟨n - j / z.size - 1, by omega⟩
      rw [hm2, List.replicate_succ]
      simp only [flat, List.flatMap_cons]
      rw [List.getElem?_append_left (by simpa using hm)]
      simp [hm]
    rw [List.getElem?_drop] at h2
    rw [← e] at h2
    exact h2.symm
  · rw [List.getElem?_eq_none (by simp [madeCells]; omega), List.getElem?_eq_none (by rw [flat_length (sz := z.size) (fun _ => by simp)]; simp; omega)]
/-- make([]T, n): a row of zeros of the call's own -/
theorem SemK.make {t e by_ : Nat} {zs : List Value} (ht : mkInfo P t = some (e, zs, by_)) {kl kc : IntKind} {m : Int} (n : Nat) (hm : m = n) (h63 : n ≤ 9223372036854775807) (hbytes : by_ * n ≤ 281474976710656)
    {w : World} {K : Value → World → Prop} (hK : ∀ b w', w.heap.size ≤ b → b < w'.heap.size → Ext w w' → Blk w' b (flat (fun _ : Unit => zs) (List.replicate n ())) e → K (.slice (some ⟨b, 0, none⟩) n n) w') :
    SemK P (Instr.makeSlice t (.int kl m) (.int kc m)) w K := by
  obtain ⟨i, z, hu, hi, hz, rfl, rfl, hs, hp⟩ := mkInfo_spec ht
  subst hm
  have hb' : (i.bytes : Int) * (n : Int) ≤ 281474976710656 := by
    have h : ((i.bytes * n : Nat) : Int) ≤ 281474976710656 := by omega
    rwa [Int.natCast_mul] at h
  have hr := run_make (P := P) w t e i z hu hi hz kl kc n n (by omega) (Int.le_refl _) hb' (by omega)
  simp only [Int.toNat_natCast] at hr
  refine SemK.of hr (hK _ _ (Nat.le_refl _) ?_ (alloc_ext _ _) ?_)
  · show w.heap.size < (w.heap.push _).size
    simp
  · have := alloc_blk w (madeCells z.cells (n * i.size)).toList e
    rw [← madeCells_flat z.cells (by omega) n, hs]
    exact this
/-- cells of a made row, one replaced -/
theorem flat_set {α : Type} {enc : α → List Value} {sz : Nat} (he : ∀ x, (enc x).length = sz) (done : List α) (zs v : List Value) (hz : zs.length = sz) (x : α) (hv : enc x = v) (m : Nat) :
    let cs := flat enc done ++ flat (fun _ : Unit => zs) (List.replicate (m + 1) ())
    cs.take (done.length * sz) ++ v ++ cs.drop (done.length * sz + sz) = flat enc (done ++ [x]) ++ flat (fun _ : Unit => zs) (List.replicate m ()) := by
  intro cs
  have hl : (flat enc done).length = done.length * sz := flat_length he done
  have e1 : cs.take (done.length * sz) = flat enc done := by
    rw [← hl]; exact List.take_left
  have e2 : cs.drop (done.length * sz + sz) = flat (fun _ : Unit => zs) (List.replicate m ()) := by
    show (flat enc done ++ flat (fun _ : Unit => zs) (List.replicate (m + 1) ())).drop _ = _
    rw [List.drop_append, hl, List.drop_eq_nil_of_le (by omega)]
    have : done.length * sz + sz - done.length * sz = sz := by omega
    rw [this, List.replicate_succ]
    simp only [flat, List.flatMap_cons, List.nil_append]
    rw [List.drop_append, hz, List.drop_eq_nil_of_le (by omega)]
    simp
  rw [e1, e2, flat_append]
  subst hv
  simp [flat]
end
end Go.Vc
