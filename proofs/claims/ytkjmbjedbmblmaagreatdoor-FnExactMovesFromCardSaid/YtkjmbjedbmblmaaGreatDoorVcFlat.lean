/- Laws of structs whose fields are strings and ints, for every program; each with the premises that it names. -/
import Derived.Test.YtkjmbjedbmblmaaGreatDoorVcBuild
import Derived.Laws.StructEq
import Derived.RowKit3
import Derived.ChangeArms
namespace Go.Vc
open Go Go.RowKit Go.ChangeShapes Go.WideShapes
section
variable {P : Program}
/-- the kinds of a flat struct's fields (strings: true; int64: false), where they lie one behind the other -/
def fieldKind (P : Program) (p : Field × Nat) : Option Bool :=
  if p.1.offset = p.2 ∧ P.cellsOf p.1.type = 1 then (match P.underlying p.1.type with
      | some .string => some true
      | some (.int .i64) => some false
      | _ => none) else none
def flatKinds (P : Program) (t : Nat) : Option (List Bool) :=
  match P.underlying t with
  | some (.struct fs) => (fs.toList.zipIdx.mapM (fieldKind P)).bind fun l => if P.cellsOf t = l.length then some l else none
  | _ => none
def i64ok (n : Int) : Prop := -9223372036854775808 ≤ n ∧ n ≤ 9223372036854775807
def strok (s : ByteArray) : Prop := s.size ≤ 9223372036854775807
def Flat : List Bool → List Value → Prop
  | [], cs => cs = []
  | true :: ks, cs => ∃ s r, cs = .string s :: r ∧ strok s ∧ Flat ks r
  | false :: ks, cs => ∃ n r, cs = .int .i64 n :: r ∧ i64ok n ∧ Flat ks r

theorem i64ok_of_wf {n : Int} (h : (Lit.int .i64 n).wf = true) : i64ok n := by
  simpa [i64ok, Lit.wf, IntKind.min, IntKind.max, IntKind.signed, IntKind.bits] using h

theorem flat_of {ks : List Bool} {cs : List Value} (hl : cs.length = ks.length) (h : ∀ i k, ks[i]? = some k → ∃ v, (cs.drop i).take 1 = [v] ∧ (bif k then (∃ s, v = .string s ∧ strok s) else (∃ n, v = .int .i64 n ∧ i64ok n))) : Flat ks cs := by
  induction ks generalizing cs with
  | nil => exact List.eq_nil_of_length_eq_zero hl
  | cons k ks ih =>
    match cs, hl with
    | c :: cs, hl =>
      have h0 := h 0 k rfl
      have ih := ih (cs := cs) (by simpa using hl) (fun i k' hk => by
        have := h (i + 1) k' (by simpa using hk)
        simpa using this)
      obtain ⟨v, hv, hk⟩ := h0
      simp at hv
      subst hv
      cases k with
      | true => obtain ⟨s, rfl, hs⟩ := hk; exact ⟨s, cs, rfl, hs, ih⟩
      | false => obtain ⟨n, rfl, hn⟩ := hk; exact ⟨n, cs, rfl, hn, ih⟩


theorem Flat.length : ∀ {ks : List Bool} {cs : List Value}, Flat ks cs → cs.length = ks.length
  | [], cs, h => by rw [show cs = [] from h]; rfl
  | true :: ks, cs, ⟨s, r, e, _, h⟩ => by rw [e]; simp [Flat.length h]
  | false :: ks, cs, ⟨n, r, e, _, h⟩ => by rw [e]; simp [Flat.length h]
theorem Flat.cellish : ∀ {ks : List Bool} {cs : List Value}, Flat ks cs → ∀ v ∈ cs, cellish v = true
  | [], cs, h => by rw [show cs = [] from h]; simp
  | true :: ks, cs, ⟨s, r, e, _, h⟩ => by
    rw [e]; intro v hv
    rcases List.mem_cons.1 hv with rfl | hv
    · rfl
    · exact Flat.cellish h v hv
  | false :: ks, cs, ⟨n, r, e, _, h⟩ => by
    rw [e]; intro v hv
    rcases List.mem_cons.1 hv with rfl | hv
    · rfl
    · exact Flat.cellish h v hv

/-- a decided equality of the cells of two flat structs -/
def flatEq : List Value → List Value → Bool
  | [], [] => true
  | .string a :: xs, .string b :: ys => decide (a = b) && flatEq xs ys
  | .int _ a :: xs, .int _ b :: ys => decide (a = b) && flatEq xs ys
  | _, _ => false

theorem run_part1 {t off : Nat} {cs : List Value} {v : Value} (ht : oneCell P t = true) (h : cs[off]? = some v) (w : World) : (part t ⟨cs⟩ off).run P w = .ok v w := by
  obtain ⟨d, inf, hu, hi, hs, hag⟩ := oneCell_spec ht
  have hag := congrFun hag w
  unfold part
  simp only [Sem.run_bind, hag, Result.andThen_ok, Bool.false_eq_true, if_false]
  have : (Array.mk cs)[off]? = some v := by simpa using h
  rw [this]
  rfl

/-- the struct's fields are all named, of one cell, one behind the other -/
def fieldsFine (P : Program) (t : Nat) : Bool :=
  match P.underlying t with
  | some (.struct fs) => (fs.toList.all fun f => f.name != "_" && oneCell P f.type) && !P.stoodInHeld t && !P.eqGuardType P.depth t
  | _ => false

theorem run_eqFields_flat (d : Nat) (xs ys : List Value) (w : World) : ∀ (fs : List Field) (i : Nat) (ks : List Bool), (fs.zipIdx i).mapM (fieldKind P) = some ks → (fs.all fun f => f.name != "_" && oneCell P f.type) = true → Flat ks (xs.drop i) → Flat ks (ys.drop i) →
    (Op.eqFields (d + 1) ⟨xs⟩ ⟨ys⟩ fs).run P w = .ok (flatEq (xs.drop i) (ys.drop i)) w
  | [], i, ks, hk, _, hx, hy => by
    simp at hk; subst hk
    rw [show xs.drop i = [] from hx, show ys.drop i = [] from hy]
    simp [Op.eqFields, flatEq]
  | f :: fs, i, ks, hk, hf, hx, hy => by
    simp only [List.zipIdx_cons, List.mapM_cons, Option.bind_eq_bind, Option.bind_eq_some_iff, Option.pure_def, Option.some.injEq] at hk
    obtain ⟨k, hk0, ks', hks, rfl⟩ := hk
    simp only [List.all_cons, Bool.and_eq_true, bne_iff_ne, ne_eq] at hf
    obtain ⟨⟨hnm, hoc⟩, hf⟩ := hf
    unfold fieldKind at hk0
    simp only at hk0
    split at hk0 <;> try cases hk0
    rename_i ho
    have hdx : ∀ {zs : List Value} {v : Value} {r : List Value}, zs.drop i = v :: r → zs[i]? = some v ∧ zs.drop (i + 1) = r := fun {zs v r} h => by
      constructor
      · have := List.getElem?_drop (xs := zs) (i := i) (j := 0)
        rw [h] at this
        simpa using this.symm
      · have := List.drop_drop (i := 1) (j := i) (l := zs)
        rw [h] at this
        simpa [Nat.add_comm] using this.symm
    split at hk0 <;> try cases hk0
    · rename_i hu
      obtain ⟨a, r, e1, _, hx'⟩ := hx
      obtain ⟨b, r', e2, _, hy'⟩ := hy
      obtain ⟨g1, g2⟩ := hdx e1
      obtain ⟨g3, g4⟩ := hdx e2
      rw [← g2] at hx'
      rw [← g4] at hy'
      have ih := run_eqFields_flat d xs ys w fs (i + 1) ks' hks (by simpa using hf) hx' hy'
      rw [e1, e2]
      unfold Op.eqFields
      simp only [ne_eq, hnm, not_false_eq_true, if_true, Sem.run_bind, ho.1, run_part1 hoc g1, run_part1 hoc g3, Result.andThen_ok, run_equalIn_string w d f.type a b hu, beqList_iff]
      by_cases hab : a = b
      · subst hab
        simp only [decide_true, Bool.not_true, Bool.false_eq_true, if_false, ih, flatEq, Bool.true_and, g2, g4]
      · simp [hab, flatEq]
    · rename_i hu
      obtain ⟨a, r, e1, _, hx'⟩ := hx
      obtain ⟨b, r', e2, _, hy'⟩ := hy
      obtain ⟨g1, g2⟩ := hdx e1
      obtain ⟨g3, g4⟩ := hdx e2
      rw [← g2] at hx'
      rw [← g4] at hy'
      have ih := run_eqFields_flat d xs ys w fs (i + 1) ks' hks (by simpa using hf) hx' hy'
      rw [e1, e2]
      unfold Op.eqFields
      simp only [ne_eq, hnm, not_false_eq_true, if_true, Sem.run_bind, ho.1, run_part1 hoc g1, run_part1 hoc g3, Result.andThen_ok, run_equalIn_int w d f.type .i64 .i64 a b hu]
      by_cases hab : a = b
      · subst hab
        simp only [beq_self_eq_true, Bool.not_true, Bool.false_eq_true, if_false, ih, flatEq, decide_true, Bool.true_and, g2, g4]
      · simp [hab, flatEq]

theorem run_equal_flat {t : Nat} {ks : List Bool} (hk : flatKinds P t = some ks) (hf : fieldsFine P t = true) {xs ys : List Value} (hx : Flat ks xs) (hy : Flat ks ys) (w : World) :
    (Op.equalIn 10000 t (.agg ⟨xs⟩) (.agg ⟨ys⟩)).run P w = .ok (flatEq xs ys) w := by
  unfold flatKinds at hk
  unfold fieldsFine at hf
  split at hk <;> try cases hk
  rename_i fs hu
  rw [hu] at hf
  rw [Option.bind_eq_some_iff] at hk
  obtain ⟨l, hm, hk⟩ := hk
  split at hk <;> try cases hk
  simp only [Bool.and_eq_true, Bool.not_eq_true'] at hf
  have hfo : P.fieldsOf t = fs := by unfold Program.fieldsOf; rw [hu]
  rw [run_equalIn_struct w 9999 t ⟨xs⟩ ⟨ys⟩ (by rw [hfo]; exact hu) hf.1.2, hfo]
  have := run_eqFields_flat 9998 xs ys w fs.toList 0 ks hm (by simpa using hf.1.1) (by simpa using hx) (by simpa using hy)
  simpa using this
theorem fieldsFine_guard {t : Nat} (hf : fieldsFine P t = true) : P.eqGuardType P.depth t = false := by
  unfold fieldsFine at hf
  split at hf <;> try cases hf
  simp only [Bool.and_eq_true, Bool.not_eq_true'] at hf
  exact hf.2
theorem SemK.neqFlat {t : Nat} {ks : List Bool} (hk : flatKinds P t = some ks) (hf : fieldsFine P t = true) {xs ys : List Value} (hx : Flat ks xs) (hy : Flat ks ys) {X Y : Operand} {w : World} {K : Value → World → Prop} (hK : K (.bool (!flatEq xs ys)) w) :
    SemK P (arith .neq t X Y (.agg ⟨xs⟩) (.agg ⟨ys⟩)) w K := by
  refine SemK.of ?_ hK
  unfold arith
  rw [Sem.run_bind, run_eqGuard_agg w .neq t X Y _ _ (fieldsFine_guard hf), Result.andThen_ok, run_neq_struct, run_equal_flat hk hf hx hy]
  rfl
theorem SemK.eqlFlat {t : Nat} {ks : List Bool} (hk : flatKinds P t = some ks) (hf : fieldsFine P t = true) {xs ys : List Value} (hx : Flat ks xs) (hy : Flat ks ys) {X Y : Operand} {w : World} {K : Value → World → Prop} (hK : K (.bool (flatEq xs ys)) w) :
    SemK P (arith .eql t X Y (.agg ⟨xs⟩) (.agg ⟨ys⟩)) w K := by
  refine SemK.of ?_ hK
  unfold arith
  rw [Sem.run_bind, run_eqGuard_agg w .eql t X Y _ _ (fieldsFine_guard hf), Result.andThen_ok, run_eql_struct, run_equal_flat hk hf hx hy]
  rfl
theorem DSemK.neqFlat {t : Nat} {ks : List Bool} (hk : flatKinds P t = some ks) (hf : fieldsFine P t = true) {xs ys : List Value} (hx : Flat ks xs) (hy : Flat ks ys) {X Y : Operand} {w : World} {K : Value → Prop} (hK : K (.bool (!flatEq xs ys))) :
    DSemK P (arith .neq t X Y (.agg ⟨xs⟩) (.agg ⟨ys⟩)) w K := DSemK.of (fun _ _ => SemK.neqFlat hk hf hx hy ⟨rfl, rfl⟩) hK
theorem DSemK.eqlFlat {t : Nat} {ks : List Bool} (hk : flatKinds P t = some ks) (hf : fieldsFine P t = true) {xs ys : List Value} (hx : Flat ks xs) (hy : Flat ks ys) {X Y : Operand} {w : World} {K : Value → Prop} (hK : K (.bool (flatEq xs ys))) :
    DSemK P (arith .eql t X Y (.agg ⟨xs⟩) (.agg ⟨ys⟩)) w K := DSemK.of (fun _ _ => SemK.eqlFlat hk hf hx hy ⟨rfl, rfl⟩) hK
def isBool (P : Program) (t : Nat) : Bool :=
  match P.underlying t with
  | some .bool => true
  | _ => false
theorem isBool_spec {t : Nat} (h : isBool P t = true) : P.underlying t = some .bool := by
  unfold isBool at h; split at h <;> simp_all
/-- == and != on bools -/
theorem SemK.neqBool {t : Nat} (ht : isBool P t = true) {X Y : Operand} {a b : Bool} {w : World} {K : Value → World → Prop} (hK : K (.bool (!decide (a = b))) w) :
    SemK P (arith .neq t X Y (.bool a) (.bool b)) w K := by
  refine SemK.of ?_ hK
  have hu := isBool_spec ht
  have : (a == b) = decide (a = b) := by cases a <;> cases b <;> rfl
  have he : (Op.equal t (.bool a) (.bool b)).run P w = .ok (a == b) w := run_equalIn_bool w 9999 t a b hu
  have hg : (eqGuard .neq t X Y (.bool a) (.bool b)).run P w = .ok () w := by simp [eqGuard]
  unfold arith
  rw [Sem.run_bind, hg, Result.andThen_ok]
  simp only [binOp, Sem.run_bind, he, Result.andThen_ok, this]
  rfl
theorem SemK.eqlBool {t : Nat} (ht : isBool P t = true) {X Y : Operand} {a b : Bool} {w : World} {K : Value → World → Prop} (hK : K (.bool (decide (a = b))) w) :
    SemK P (arith .eql t X Y (.bool a) (.bool b)) w K := by
  refine SemK.of ?_ hK
  have hu := isBool_spec ht
  have : (a == b) = decide (a = b) := by cases a <;> cases b <;> rfl
  have he : (Op.equal t (.bool a) (.bool b)).run P w = .ok (a == b) w := run_equalIn_bool w 9999 t a b hu
  have hg : (eqGuard .eql t X Y (.bool a) (.bool b)).run P w = .ok () w := by simp [eqGuard]
  unfold arith
  rw [Sem.run_bind, hg, Result.andThen_ok]
  simp only [binOp, Sem.run_bind, he, Result.andThen_ok, this]
  rfl
theorem DSemK.neqBool {t : Nat} (ht : isBool P t = true) {X Y : Operand} {a b : Bool} {w : World} {K : Value → Prop} (hK : K (.bool (!decide (a = b)))) :
    DSemK P (arith .neq t X Y (.bool a) (.bool b)) w K := DSemK.of (fun _ _ => SemK.neqBool ht ⟨rfl, rfl⟩) hK
end
end Go.Vc
