/- Laws of composite literals and of strings made of bytes, for every program; each with the premises that it names. -/
import Derived.Test.YtkjmbjedbmblmaaGreatDoorVcDraw
import Derived.Laws.BytesString
namespace Go.Vc
open Go Go.RowKit

/-- a string of these bytes -/
def bs (l : List UInt8) : ByteArray := ⟨l.toArray⟩
theorem bs_data (l : List UInt8) : (bs l).data.toList = l := rfl
theorem bs_size (l : List UInt8) : (bs l).size = l.length := rfl
theorem bs_append (a b : List UInt8) : bs a ++ bs b = bs (a ++ b) := by
  apply ByteArray.ext
  show (bs a ++ bs b).data = _
  rw [ByteArray.data_append]
  simp [bs]
theorem bs_self (s : ByteArray) : bs s.data.toList = s := by
  apply ByteArray.ext; simp [bs]
theorem bs_inj {a b : List UInt8} : bs a = bs b ↔ a = b := ⟨fun h => by have := congrArg (fun s => s.data.toList) h; simpa [bs] using this, fun h => by rw [h]⟩
theorem size_append (a b : ByteArray) : (a ++ b).size = a.size + b.size := by simp

def seqVals : Nat → List (Nat × Value) → Option (List Value)
  | _, [] => some []
  | k, (i, v) :: r => bif Nat.beq i k then (seqVals (k + 1) r).map (v :: ·) else none
/-- the cells of these values, one behind the other -/
def cellsOf (vs : List Value) : List Value := vs.flatMap fun v => v.cells.toList

theorem foldl_splice : ∀ (l : List Value) (cs : Array Value) (off j : Nat), ((l.zipIdx j).foldl (fun cs (c, j) => cs.setIfInBounds (off + j) c) cs).toList = splice cs.toList (off + j) l
  | [], cs, off, j => rfl
  | v :: l, cs, off, j => by
    simp only [List.zipIdx_cons, List.foldl_cons, splice]
    rw [foldl_splice l]
    simp [Nat.add_assoc]

theorem fill_seq {sz : Nat} : ∀ (parts : List (Nat × Value)) (k : Nat) (vs : List Value) (done : List Value) (rest : List Value), seqVals k parts = some vs → (∀ v ∈ vs, v.cells.size = sz) → done.length = k * sz → rest.length = vs.length * sz →
    Instr.fill (fun i => some (i * sz, sz)) (done ++ rest).toArray parts = some (done ++ cellsOf vs).toArray
  | [], k, vs, done, rest, h, _, hd, hr => by
    simp only [seqVals, Option.some.injEq] at h
    subst h
    have : rest = [] := List.eq_nil_of_length_eq_zero (by simpa using hr)
    subst this
    rfl
  | (i, v) :: parts, k, vs, done, rest, h, hc, hd, hr => by
    simp only [seqVals] at h
    cases hb : Nat.beq i k with
    | false => rw [hb] at h; cases h
    | true =>
      rw [hb] at h
      have hik : i = k := Nat.eq_of_beq_eq_true hb
      subst hik
      simp only [cond_true, Option.map_eq_some_iff] at h
      obtain ⟨vs', h', rfl⟩ := h
      have hv : v.cells.size = sz := hc v (by simp)
      simp only [List.length_cons, Nat.add_mul, Nat.one_mul] at hr
      unfold Instr.fill
      have hcond : ¬ (v.cells.size ≠ sz ∨ i * sz + v.cells.size > (done ++ rest).toArray.size) := by
        simp only [List.size_toArray, List.length_append]
        omega
      simp only [Bool.or_eq_true, decide_eq_true_eq, hcond, if_false]
      have hsp : (v.cells.zipIdx.foldl (fun cs (c, j) => cs.setIfInBounds (i * sz + j) c) (done ++ rest).toArray) = (done ++ v.cells.toList ++ rest.drop sz).toArray := by
        apply Array.toList_inj.1
        have h1 := foldl_splice v.cells.toList (done ++ rest).toArray (i * sz) 0
        rw [← Array.foldl_toList]
        have h2 : v.cells.zipIdx.toList = v.cells.toList.zipIdx 0 := by simp
        rw [h2, h1]
        rw [splice_eq _ _ _ (by simp; omega)]
        simp only [Nat.add_zero, List.append_assoc]
        rw [← hd, List.take_left, List.drop_append]
        have hvl : v.cells.toList.length = sz := by simp [hv]
        rw [List.drop_eq_nil_of_le (by omega)]
        have : done.length + v.cells.toList.length - done.length = sz := by omega
        rw [this]
        simp
      have ih := fill_seq parts (i + 1) vs' (done ++ v.cells.toList) (rest.drop sz) h' (fun u hu => hc u (by simp [hu])) (by simp [hd, hv, Nat.add_mul]) (by simp; omega)
      rw [hsp, ih]
      simp [cellsOf]

section
variable {P : Program}
/-- []T{..} -/
theorem SemK.buildSlice {t e by_ : Nat} {zs : List Value} (ht : mkInfo P t = some (e, zs, by_)) {len : Nat} {parts : List (Nat × Value)} (vs : List Value) (hv : seqVals 0 parts = some vs) (hlen : vs.length = len) (hc : ∀ v ∈ vs, v.cells.size = zs.length)
    (hsmall : len * zs.length ≤ 16777216) {w : World} {K : Value → World → Prop} (hK : ∀ b w', w.heap.size ≤ b → b < w'.heap.size → Ext w w' → Blk w' b (cellsOf vs) e → K (.slice (some ⟨b, 0, none⟩) len len) w') :
    SemK P (Instr.buildSlice t len parts.toArray) w K := by
  obtain ⟨i, z, hu, hi, hz, rfl, rfl, hs, hp⟩ := mkInfo_spec ht
  have hzl : z.cells.toList.length = i.size := by simp [hs]
  rw [hzl] at hc hsmall
  refine SemK.of (v := .slice (some ⟨w.heap.size, 0, none⟩) len len) (w' := w.alloc (.cells (cellsOf vs).toArray e)) ?_ (hK _ _ (Nat.le_refl _) ?_ (alloc_ext _ _) (alloc_blk w _ _))
  · have hn : ¬ (len * i.size > 2 ^ 24) := by omega
    have hf : ∀ zs : Array Value, zs.size = len * i.size → Instr.fill (fun k => some (k * i.size, i.size)) zs parts = some (cellsOf vs).toArray := fun zs hzs => by
      have := fill_seq (sz := i.size) parts 0 vs [] zs.toList hv hc (by simp) (by simp [hzs, hlen])
      simpa using this
    by_cases h0 : len * i.size = 0
    · have h0' : len = 0 := by
        rcases Nat.mul_eq_zero.1 h0 with h | h
        · exact h
        · omega
      subst h0'
      simp only [Instr.buildSlice, Sem.run_bind, run_underlying hu, Result.andThen_ok, sizeOf, typeInfo, Sem.run_pure, program, Sem.run, hi]
      simp
      rw [hf _ (by simp)]
      rfl
    · have h1 : (zeroValue e).run P w = .ok z w := by simp [zeroValue, typeInfo, hi, hz]
      have hl : len ≠ 0 := fun h => h0 (by simp [h])
      have hl2 : i.size ≠ 0 := by omega
      simp only [Instr.buildSlice, Sem.run_bind, run_underlying hu, Result.andThen_ok, sizeOf, typeInfo, Sem.run_pure, program, Sem.run, hi]
      simp only [if_neg hn, Sem.run_pure, Result.andThen_ok, if_neg h0, Sem.run_bind, h1]
      simp only [hf _ (show ((Array.range (len * i.size)).map (z.cells[· % z.cells.size]!)).size = len * i.size by simp)]
      rfl
  · show w.heap.size < (w.heap.push _).size
    simp

/-- the cells of bytes -/
def byteCells (l : List UInt8) : List Value := l.map fun c => .int .u8 c.toNat
def isBytes (P : Program) (t : Nat) : Bool :=
  match P.underlying t with
  | some (.slice e) => match P.underlying e with
    | some (.int .u8) => true
    | _ => false
  | _ => false
theorem isBytes_spec {t : Nat} (h : isBytes P t = true) : ∃ e, P.underlying t = some (.slice e) ∧ P.underlying e = some (.int .u8) := by
  unfold isBytes at h
  split at h <;> try cases h
  rename_i e hu
  split at h <;> try cases h
  rename_i he
  exact ⟨_, hu, he⟩
theorem foldl_push : ∀ (l : List UInt8) (s : ByteArray), (l.map fun c => (c.toNat : Int)).foldl (fun r n => r.push (UInt8.ofNat n.toNat)) s = ⟨s.data ++ l.toArray⟩
  | [], s => by simp
  | c :: l, s => by
    simp only [List.map_cons, List.foldl_cons, foldl_push l]
    apply ByteArray.ext
    simp [ByteArray.push]
/-- string(bytes) -/
theorem SemK.toStr {s t : Nat} (hs : isBytes P s = true) (ht : isStr P t = true) {w : World} {b o n c : Nat} {l : List UInt8} (h : Cells w b o (byteCells l)) (hn : l.length = n) {K : Value → World → Prop} (hK : K (.string (bs l)) w) :
    SemK P (convert s t (.slice (some ⟨b, o, none⟩) n c)) w K := by
  obtain ⟨e, hu, he⟩ := isBytes_spec hs
  have hd : P.underlying t = some .string := by
    unfold isStr at ht; split at ht <;> simp_all
  refine SemK.of ?_ hK
  rw [run_convert_bytes_string w s t e _ _ _ hu he hd]
  have h1 := run_loadCellsFrom (P := P) (w := w) (b := b) (o := o) n 0 #[] (byteCells l) (by simp [byteCells, hn]) (by simpa using h)
  have h2 : (loadCells ⟨b, o, none⟩ n).run P w = .ok ((l.map fun c => (c.toNat : Int)).map (Value.int .u8)).toArray w := by
    unfold loadCells
    rw [h1]
    simp [byteCells, Function.comp_def]
  rw [run_bytesToString w ⟨b, o, none⟩ n c _ h2, foldl_push]
  congr 2
  apply ByteArray.ext
  simp [bs]
theorem SemK.toStr0 {s t : Nat} (hs : isBytes P s = true) (ht : isStr P t = true) {w : World} {n c : Nat} {K : Value → World → Prop} (hK : K (.string (bs [])) w) :
    SemK P (convert s t (.slice none n c)) w K := by
  obtain ⟨e, hu, he⟩ := isBytes_spec hs
  have hd : P.underlying t = some .string := by
    unfold isStr at ht; split at ht <;> simp_all
  refine SemK.of ?_ hK
  rw [run_convert_bytes_string w s t e _ _ _ hu he hd]
  simp [Conv.bytesToString]
  rfl
end
end Go.Vc
