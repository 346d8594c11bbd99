/- A calculus of verification conditions over the model: a piece of code whose condition holds runs as the condition says, for every program and frame. No conditions of its own. -/
import Derived.WalkKit
import Derived.Deep.Quiet
namespace Go.Vc
open Go Go.RowKit

abbrev Fr := Nat → Value
/-- a frame as a function of the slot -/
def upd (f : Fr) (d : Nat) (v : Value) : Fr := fun i => bif Nat.beq i d then v else f i
def put (f : Fr) : Option Nat → Value → Fr
  | some d, v => upd f d v
  | none, _ => f
def act (n : Nat) (f : Fr) : Act := { tmps := Array.ofFn (fun i : Fin n => f i), defers := [] }
def ev (f : Fr) : Operand → Value
  | .tmp t => f t
  | .const v => v
  | .global g => .pointer (some ⟨g, 0, none⟩)
  | .func g => .func (.func g) #[] #[]

theorem upd_same (f : Fr) (d : Nat) (v : Value) : upd f d v d = v := by simp [upd]
theorem upd_ne (f : Fr) {d i : Nat} (v : Value) (h : i ≠ d) : upd f d v i = f i := by
  have h2 : Nat.beq i d = false := by
    cases hb : Nat.beq i d with
    | false => rfl
    | true => exact absurd (Nat.eq_of_beq_eq_true hb) h
  simp [upd, h2]

theorem act_size (n : Nat) (f : Fr) : (act n f).tmps.size = n := by simp [act]
theorem act_get (n : Nat) (f : Fr) {t : Nat} (h : t < n) : (act n f).tmps[t]? = some (f t) := by
  simp [act, h]
theorem act_getD (n : Nat) (f : Fr) {t : Nat} (h : t < n) (u : Value) : (act n f).tmps.getD t u = f t := by
  simp [act, h]
theorem act_put (n : Nat) (f : Fr) {d : Nat} (v : Value) : (act n f).put (some d) v = act n (upd f d v) := by
  have e : (Array.ofFn (fun i : Fin n => f i)).setIfInBounds d v = Array.ofFn (fun i : Fin n => upd f d v i) := by
    apply Array.ext
    · simp
    · intro i h1 h2
      have h3 : i < n := by simpa using h2
      rw [Array.getElem_ofFn, Array.getElem_setIfInBounds]
      by_cases h : d = i
      · subst h; simp [upd_same]
      · rw [if_neg h, Array.getElem_ofFn, upd_ne f v (Ne.symm h)]
      · simpa using h3
  simp only [act, Act.put, e]
theorem act_puto (n : Nat) (f : Fr) (d : Option Nat) (v : Value) : (act n f).put d v = act n (put f d v) := by
  cases d with
  | none => rfl
  | some d => exact act_put n f v

def okOpd (n : Nat) : Operand → Bool
  | .tmp t => Nat.blt t n
  | _ => true
theorem ev_act {n : Nat} {f : Fr} {x : Operand} (h : okOpd n x = true) : (act n f).eval x = ev f x := by
  cases x with
  | tmp t => simp only [Act.eval, ev]; exact act_getD n f (by simpa [okOpd, Nat.blt_eq] using h) _
  | _ => rfl

def okOper (n : Nat) (all : Array Oper) (o : Oper) : Bool :=
  (o.op.operands.toList.all (okOpd n)) &&
  (match o.guard with
   | none => true
   | some (j, _) => match (all[j]?).bind (·.dst) with
     | none => true
     | some s => Nat.blt s n)

/-- a test whose outcome the prover decides -/
@[reducible] def IfB (b : Bool) (X Y : Prop) : Prop :=
  match b with
  | true => X
  | false => Y
theorem IfB.out {b : Bool} {X Y : Prop} (h : IfB b X Y) : if b = true then X else Y := by cases b <;> exact h
theorem IfB.split {b : Bool} {X Y : Prop} (h1 : b = true → X) (h2 : b = false → Y) : IfB b X Y := by
  cases b
  · exact h2 rfl
  · exact h1 rfl
theorem IfB.nsplit {b : Bool} {X Y : Prop} (h1 : b = false → X) (h2 : b = true → Y) : IfB (!b) X Y := by
  cases b
  · exact h1 rfl
  · exact h2 rfl
theorem IfB.dec {p : Prop} [Decidable p] {X Y : Prop} (h1 : p → X) (h2 : ¬ p → Y) : IfB (decide p) X Y := by
  apply IfB.split
  · intro h; exact h1 (of_decide_eq_true h)
  · intro h; exact h2 (of_decide_eq_false h)
theorem IfB.ndec {p : Prop} [Decidable p] {X Y : Prop} (h1 : ¬ p → X) (h2 : p → Y) : IfB (!decide p) X Y := by
  apply IfB.split
  · intro h; exact h1 (of_decide_eq_false (by simpa using h))
  · intro h; exact h2 (of_decide_eq_true (by simpa using h))
theorem IfB.eqt {b : Bool} {X Y : Prop} (h : b = true) (h1 : X) : IfB b X Y := by subst h; exact h1
theorem IfB.eqf {b : Bool} {X Y : Prop} (h : b = false) (h1 : Y) : IfB b X Y := by subst h; exact h1
theorem IfB.yes {p : Prop} [Decidable p] {X Y : Prop} (h : p) (h1 : X) : IfB (decide p) X Y := IfB.eqt (decide_eq_true h) h1
theorem IfB.no {p : Prop} [Decidable p] {X Y : Prop} (h : ¬ p) (h1 : Y) : IfB (decide p) X Y := IfB.eqf (decide_eq_false h) h1

/-- what a pure binary operation gives -/
def pureBin (op : BinOp) (x y : Value) : Option Value :=
  match x, y with
  | .int k a, .int k' b =>
    match op with
    | .eql => if k = k' then some (.bool (decide (a = b))) else none
    | .neq => if k = k' then some (.bool (!decide (a = b))) else none
    | .lss => if k = k' then some (.bool (decide (a < b))) else none
    | .leq => if k = k' then some (.bool (decide (a ≤ b))) else none
    | .gtr => if k = k' then some (.bool (decide (b < a))) else none
    | .geq => if k = k' then some (.bool (decide (b ≤ a))) else none
    | _ => none
  | .string a, .string b =>
    match op with
    | .eql => some (.bool (decide (a = b)))
    | .neq => some (.bool (!decide (a = b)))
    | .lss => some (.bool (Op.bytesLess a.toList b.toList))
    | .leq => some (.bool (Op.bytesLess a.toList b.toList || decide (a = b)))
    | .gtr => some (.bool (!(Op.bytesLess a.toList b.toList || decide (a = b))))
    | .geq => some (.bool (!Op.bytesLess a.toList b.toList))
    | _ => none
  | _, _ => none

theorem beqList_iff (a b : ByteArray) : (a.toList == b.toList) = decide (a = b) := by
  rw [Bool.eq_iff_iff]
  simp only [beq_iff_eq, decide_eq_true_eq]
  constructor
  · intro h
    rw [ByteArray.toList_eq, ByteArray.toList_eq] at h
    obtain ⟨⟨x⟩⟩ := a
    obtain ⟨⟨y⟩⟩ := b
    simp at h
    rw [h]
  · intro h; rw [h]

theorem pureBin_run {P : Program} {op : BinOp} {t : TypeId} {x y : Value} {v : Value} (h : pureBin op x y = some v) (X Y : Operand) (w : World) :
    ((do eqGuard op t X Y x y; binOp op t x y) : Sem Value).run P w = .ok v w := by
  unfold pureBin at h
  split at h
  · rename_i k a k' b
    split at h <;> (try (cases h; done)) <;>
    · split at h
      · rename_i hk
        subst hk
        simp only [Option.some.injEq] at h
        subst h
        simp [eqGuard, binOp, Op.intCmp, go_sem]
        try rfl
      · cases h
  · split at h <;> (try (cases h; done)) <;>
    · simp only [Option.some.injEq] at h
      subst h
      simp [eqGuard, binOp, Op.stringOp, go_sem, beqList_iff]
  · cases h

/-- what the seat's type table says, in short: the offset of a struct's field; the cells of a slice's element; the cells of an aggregate (none: not an aggregate) -/
structure Tab where
  fo : List (List Nat)
  es : List Nat
  ag : List (Option Nat)
  ik : List (Option IntKind)
  st : List Bool

/-- the field's offset, where the field has cells -/
def fieldOff (P : Program) (s i : Nat) : Option Nat :=
  match P.underlying s with
  | some (.struct fs) => match fs[i]? with
    | some f => match P.info? f.type with
      | some inf => if inf.size = 0 then none else some f.offset
      | none => none
    | none => none
  | _ => none
/-- an element's cells, where they are not none -/
def elemSize (P : Program) (t : Nat) : Option Nat :=
  match P.underlying t with
  | some (.slice e) => match P.info? e with
    | some inf => some inf.size
    | none => none
  | _ => none

/-- a type of integers: its kind -/
def intKindOf (P : Program) (t : Nat) : Option IntKind :=
  match P.underlying t with
  | some (.int k) => some k
  | _ => none
def isStr (P : Program) (t : Nat) : Bool :=
  match P.underlying t with
  | some .string => true
  | _ => false
/-- an aggregate's cells; none: a value of one cell (or no type) -/
def aggSize (P : Program) (t : Nat) : Option Nat :=
  match P.underlying t, P.info? t with
  | some (.struct _), some inf => some inf.size
  | some (.array _ _), some inf => some inf.size
  | _, _ => none
/-- a type of one cell: no aggregate -/
def oneCell (P : Program) (t : Nat) : Bool :=
  match P.underlying t, P.info? t with
  | some (.struct _), _ => false
  | some (.array _ _), _ => false
  | some _, some inf => inf.size == 1
  | _, _ => false

def Tab.fok (P : Program) (T : Tab) : Bool :=
  (T.fo.zipIdx.all fun (l, s) => l.zipIdx.all fun (o, i) => fieldOff P s i == some o) &&
  (T.es.zipIdx.all fun (n, t) => n == 0 || elemSize P t == some n) &&
  (T.ik.zipIdx.all fun (k, t) => k == none || intKindOf P t == k) &&
  (T.st.zipIdx.all fun (b, t) => !b || isStr P t) &&
  (T.ag.zipIdx.all fun (n, t) => match n with | some n => aggSize P t == some n | none => true)

theorem zipIdx_get {α : Type} {p : α × Nat → Bool} {l : List α} (h : l.zipIdx.all p = true) {i : Nat} {a : α} (hi : l[i]? = some a) : p (a, i) = true := by
  rw [List.all_eq_true] at h
  apply h
  rw [List.mem_zipIdx_iff_getElem?]
  simpa using hi

theorem Tab.fo_ok {P : Program} {T : Tab} (h : T.fok P = true) {s i o : Nat} {l : List Nat} (h1 : T.fo[s]? = some l) (h2 : l[i]? = some o) : fieldOff P s i = some o := by
  simp only [Tab.fok, Bool.and_eq_true] at h
  have := zipIdx_get (zipIdx_get h.1.1.1.1 h1) h2
  simpa using this
theorem Tab.es_ok {P : Program} {T : Tab} (h : T.fok P = true) {t n : Nat} (h1 : T.es[t]? = some (n + 1)) : elemSize P t = some (n + 1) := by
  simp only [Tab.fok, Bool.and_eq_true] at h
  have := zipIdx_get h.1.1.1.2 h1
  simpa using this
theorem Tab.ik_ok {P : Program} {T : Tab} (h : T.fok P = true) {t : Nat} {k : IntKind} (h1 : T.ik[t]? = some (some k)) : P.underlying t = some (.int k) := by
  simp only [Tab.fok, Bool.and_eq_true] at h
  have := zipIdx_get h.1.1.2 h1
  simp [intKindOf] at this
  split at this <;> simp_all
theorem Tab.st_ok {P : Program} {T : Tab} (h : T.fok P = true) {t : Nat} (h1 : T.st[t]? = some true) : P.underlying t = some .string := by
  simp only [Tab.fok, Bool.and_eq_true] at h
  have := zipIdx_get h.1.2 h1
  simp [isStr] at this
  split at this <;> simp_all
theorem Tab.ag_ok {P : Program} {T : Tab} (h : T.fok P = true) {t n : Nat} (h1 : T.ag[t]? = some (some n)) : aggSize P t = some n := by
  simp only [Tab.fok, Bool.and_eq_true] at h
  have := zipIdx_get h.2 h1
  simpa using this
theorem elemSize_slice {P : Program} {t n : Nat} (h : elemSize P t = some n) : ∃ e inf, P.underlying t = some (.slice e) ∧ P.info? e = some inf ∧ inf.size = n := by
  unfold elemSize at h
  split at h
  · rename_i e hu
    split at h
    · rename_i inf hi
      simp only [Option.some.injEq] at h
      exact ⟨e, inf, hu, hi, h⟩
    · cases h
  · cases h

/-- the value of an operation that looks at its operands alone and cannot fail -/
def pureOp (T : Tab) (f : Fr) : Op → Option Value
  | .move x => some (ev f x)
  | .assign x => some (ev f x)
  | .pick c a b => match ev f c with
    | .bool t => some (bif t then ev f a else ev f b)
    | _ => none
  | .binOp op _ x y _ => match op with
    | .eql | .neq | .lss | .leq | .gtr | .geq => pureBin op (ev f x) (ev f y)
    | _ => none
  | .unOp .not _ x => match ev f x with
    | .bool b => some (.bool (!b))
    | _ => none
  | .extract x i => match ev f x with
    | .tuple ⟨vs⟩ => vs[i]?
    | _ => none
  | .call { callee := .builtin .len, args := ⟨[x]⟩, argTypes := ⟨[t]⟩ } => match ev f x with
    | .string s => match T.st[t]? with
      | some true => some (.int .i64 s.size)
      | _ => none
    | .slice _ k _ => match T.es[t]? with
      | some (_ + 1) => some (.int .i64 k)
      | _ => none
    | _ => none
  | .makeFunc fn first captured => some (.func fn (first.toList.map (ev f)).toArray (captured.toList.map (ev f)).toArray)
  | .fieldAddr s x i => match ev f x with
    | .pointer (some ⟨b, off, none⟩) => match T.fo[s]? with
      | some l => match l[i]? with
        | some o => some (.pointer (some ⟨b, off + o, none⟩))
        | none => none
      | none => none
    | _ => none
  | .nilCheck x => match ev f x with
    | .pointer (some a) => some (.pointer (some a))
    | .func (.func g) a b => some (.func (.func g) a b)
    | _ => none
  | _ => none


theorem addr_add_none (b off o : Nat) : (Addr.mk b off none).add o = ⟨b, off + o, none⟩ := by
  unfold Addr.add
  split
  · rename_i h; subst h; rfl
  · rfl

theorem run_fieldAt {P : Program} {s i o b off : Nat} (h : fieldOff P s i = some o) (w : World) :
    (Instr.fieldAt s (.pointer (some ⟨b, off, none⟩)) i).run P w = .ok (.pointer (some ⟨b, off + o, none⟩)) w := by
  unfold fieldOff at h
  split at h
  · rename_i fs hu
    split at h
    · rename_i fl hf
      split at h
      · rename_i inf hi
        split at h
        · cases h
        · rename_i hz
          simp only [Option.some.injEq] at h
          subst h
          simp [Instr.fieldAt, run_underlying hu, hf, Instr.sureAddr, fieldPlace, sizeOf, typeInfo, hi, hz, addr_add_none]
      · cases h
    · cases h
  · cases h

theorem pureOp_run {P : Program} {T : Tab} (hT : T.fok P = true) {n : Nat} {f : Fr} {o : Oper} {v : Value}
    (hok : o.op.operands.toList.all (okOpd n) = true) (h : pureOp T f o.op = some v) (w : World) :
    (execOp (act n f).eval o).run P w = .ok (.value v) w := by
  rw [List.all_eq_true] at hok
  have hev : ∀ x, x ∈ o.op.operands.toList → (act n f).eval x = ev f x := fun x hx => ev_act (hok x hx)
  clear hok
  unfold pureOp at h
  unfold execOp
  split at h
  · rename_i x ho
    simp only [Option.some.injEq] at h; subst h
    simp only [ho]
    have := hev x (by simp [ho, Op.operands])
    simp [this]
  · rename_i x ho
    simp only [Option.some.injEq] at h; subst h
    simp only [ho]
    have := hev x (by simp [ho, Op.operands])
    simp [this]
  · rename_i c a b ho
    simp only [ho]
    have h1 := hev c (by simp [ho, Op.operands])
    have h2 := hev a (by simp [ho, Op.operands])
    have h3 := hev b (by simp [ho, Op.operands])
    split at h
    · rename_i t ht
      simp only [Option.some.injEq] at h; subst h
      rw [h1, h2, h3, ht]
      cases t <;> simp [asBool]
    · cases h
  · rename_i op t x y yt ho
    simp only [ho]
    have h1 := hev x (by simp [ho, Op.operands])
    have h2 := hev y (by simp [ho, Op.operands])
    rw [h1, h2]
    have key : pureBin op (ev f x) (ev f y) = some v := by
      split at h <;> first | exact h | cases h
    have := pureBin_run (P := P) (t := t) key x y w
    simp only [Sem.run_bind] at this ⊢
    rw [this]; simp
  · rename_i t x ho
    simp only [ho]
    have h1 := hev x (by simp [ho, Op.operands])
    split at h
    · rename_i b hb
      simp only [Option.some.injEq] at h; subst h
      rw [h1, hb]; simp [Op.unary]
    · cases h
  · rename_i x i ho
    simp only [ho]
    have h1 := hev x (by simp [ho, Op.operands])
    split at h
    · rename_i vs hb
      rw [h1, hb]; simp [Instr.extract, h]
    · cases h
  · rename_i x t ho
    simp only [ho]
    have h1 := hev x (by simp [ho, Op.operands, Call.operands])
    split at h
    · rename_i s hs
      split at h
      · rename_i ht
        simp only [Option.some.injEq] at h; subst h
        simp [resolve, h1, hs, invoke, builtin, Builtin.len_, run_underlying (Tab.st_ok hT ht), goInt]
      · cases h
    · rename_i k _ hs
      split at h
      · rename_i m ht
        simp only [Option.some.injEq] at h; subst h
        obtain ⟨e, inf, hu, _, _⟩ := elemSize_slice (Tab.es_ok hT ht)
        simp [resolve, h1, hs, invoke, builtin, Builtin.len_, run_underlying hu, goInt]
      · cases h
    · cases h
  · rename_i fn first captured ho
    simp only [ho, Option.some.injEq] at h ⊢
    subst h
    have e1 : first.map (act n f).eval = (first.toList.map (ev f)).toArray := by
      apply Array.toList_inj.1
      simp only [Array.toList_map]
      apply List.map_congr_left
      intro x hx; exact hev x (by simp [ho, Op.operands]; left; simpa using hx)
    have e2 : captured.map (act n f).eval = (captured.toList.map (ev f)).toArray := by
      apply Array.toList_inj.1
      simp only [Array.toList_map]
      apply List.map_congr_left
      intro x hx; exact hev x (by simp [ho, Op.operands]; right; simpa using hx)
    rw [e1, e2]
    simp [Instr.makeFunc]
  · rename_i s x i ho
    simp only [ho]
    have h1 := hev x (by simp [ho, Op.operands])
    split at h
    · rename_i b off hb
      split at h
      · rename_i l hl
        split at h
        · rename_i oo hoo
          simp only [Option.some.injEq] at h; subst h
          rw [h1, hb]
          have := run_fieldAt (b := b) (off := off) (Tab.fo_ok hT hl hoo) w
          simp only [Sem.run_bind]
          rw [this]; simp
        · cases h
      · cases h
    · cases h
  · rename_i x ho
    simp only [ho]
    have h1 := hev x (by simp [ho, Op.operands])
    rw [h1]
    split at h
    · rename_i a hb
      simp only [Option.some.injEq] at h; subst h
      rw [hb]; rfl
    · rename_i g a b hb
      simp only [Option.some.injEq] at h; subst h
      rw [hb]; rfl
    · cases h
  · cases h


def isFn (P : Program) (g : Nat) : Bool :=
  match P.funcs[g]? with
  | some fn => fn.body.isSome && fn.name != "runtime.NumGoroutine"
  | none => false

/-- the call returns, with a value and in a world of which R speaks -/
@[irreducible] def Does (P : Program) (g : Nat) (args : List Value) (w : World) (R : Value → World → Prop) : Prop :=
  isFn P g = true ∧ Calls P g args.toArray w (fun e w' => ∃ v, e = .returned v ∧ R v w')

theorem Does.mono {P : Program} {g : Nat} {args : List Value} {w : World} {R R' : Value → World → Prop} (h : Does P g args w R) (hr : ∀ v w', R v w' → R' v w') : Does P g args w R' := by
  unfold Does at *
  exact ⟨h.1, h.2.mono fun e w' ⟨v, he, hv⟩ => ⟨v, he, hr _ _ hv⟩⟩
theorem Does.calls {P : Program} {g : Nat} {args : List Value} {w : World} {R : Value → World → Prop} (h : Does P g args w R) : Calls P g args.toArray w (fun e w' => ∃ v, e = .returned v ∧ R v w') := by
  unfold Does at h; exact h.2
theorem Does.of_calls {P : Program} {g : Nat} {args : List Value} {w : World} {R : Value → World → Prop} (hf : isFn P g = true) (h : Calls P g args.toArray w (fun e w' => ∃ v, e = .returned v ∧ R v w')) : Does P g args w R := by
  unfold Does; exact ⟨hf, h⟩

/-- an operation that is none of the pure ones: its law is laid beside -/
@[irreducible] def OpK (P : Program) (n : Nat) (o : Oper) (f : Fr) (w : World) (K : Value → World → Prop) : Prop :=
  ∀ (L : Act → World → Prop) (Q : Exit → Act → World → Prop), (∀ v w', K v w' → L ((act n f).put o.dst v) w') → o.wp P (act n f) w L Q

theorem OpK.run {P : Program} {n : Nat} {o : Oper} {f : Fr} {w w' : World} {v : Value} {K : Value → World → Prop} (h : (execOp (act n f).eval o).run P w = .ok (.value v) w') (hk : K v w') : OpK P n o f w K := by
  unfold OpK Oper.wp
  intro L Q hL
  rw [h]
  exact hL _ _ hk
theorem OpK.run_skip {P : Program} {n : Nat} {o : Oper} {f : Fr} {w w' : World} {K : Value → World → Prop} (h : (execOp (act n f).eval o).run P w = .ok .skip w') (hk : K undef w') : OpK P n o f w K := by
  unfold OpK Oper.wp
  intro L Q hL
  rw [h]
  exact hL _ _ hk
theorem OpK.mono {P : Program} {n : Nat} {o : Oper} {f : Fr} {w : World} {K K' : Value → World → Prop} (h : OpK P n o f w K) (hk : ∀ v w', K v w' → K' v w') : OpK P n o f w K' := by
  unfold OpK at *
  exact fun L Q hL => h L Q fun v w' hv => hL _ _ (hk _ _ hv)

/-- an instruction of the model's own that is carried out: its law says what it gives -/
@[irreducible] def SemK {α : Type} (P : Program) (s : Sem α) (w : World) (K : α → World → Prop) : Prop :=
  ∃ v w', s.run P w = .ok v w' ∧ K v w'
theorem SemK.of {α : Type} {P : Program} {s : Sem α} {w w' : World} {v : α} {K : α → World → Prop} (h : s.run P w = .ok v w') (hk : K v w') : SemK P s w K := by
  unfold SemK; exact ⟨v, w', h, hk⟩
theorem SemK.out {α : Type} {P : Program} {s : Sem α} {w : World} {K : α → World → Prop} (h : SemK P s w K) : ∃ v w', s.run P w = .ok v w' ∧ K v w' := by
  unfold SemK at h; exact h
def arith (op : BinOp) (t : Nat) (X Y : Operand) (x y : Value) : Sem Value := do eqGuard op t X Y x y; binOp op t x y

/-- K of v, v's head being looked at first (so that the frame holds values, not reckonings) -/
def force (v : Value) (K : Value → Prop) : Prop :=
  match v with
  | .bool b => K (.bool b)
  | .int k n => K (.int k n)
  | .float k n => K (.float k n)
  | .complex k a b => K (.complex k a b)
  | .string s => K (.string s)
  | .pointer a => K (.pointer a)
  | .slice a n c => K (.slice a n c)
  | .map r => K (.map r)
  | .chan r => K (.chan r)
  | .func f a b => K (.func f a b)
  | .nilFunc => K .nilFunc
  | .iface t v => K (.iface t v)
  | .nilIface => K .nilIface
  | .agg cs => K (.agg cs)
  | .tuple vs => K (.tuple vs)
theorem force_iff (v : Value) (K : Value → Prop) : force v K = K v := by cases v <;> rfl

/-- the operation's value goes into its slot -/
def putK (d : Option Nat) (f : Fr) (v : Value) (K : Fr → Prop) : Prop :=
  match d with
  | some d => K (upd f d v)
  | none => K f
theorem putK_iff (d : Option Nat) (f : Fr) (v : Value) (K : Fr → Prop) : putK d f v K = K (put f d v) := by cases d <;> rfl

def isC : Operand → Bool
  | .const _ => true
  | _ => false

/-- one operation -/
def vcOne (P : Program) (T : Tab) (n : Nat) (o : Oper) (f : Fr) (w : World) (K : Fr → World → Prop) : Prop :=
  match o.op with
  | .call { callee := .value x, args := ⟨as⟩, .. } =>
    match ev f x with
    | .func (.func g) ⟨first⟩ ⟨cap⟩ => Does P g (first ++ as.map (ev f) ++ cap) w (fun v w' => putK o.dst f v fun f => K f w')
    | _ => False
  | .load t x => SemK P (Instr.loadAt t (ev f x)) w (fun v w' => putK o.dst f v fun f => K f w')
  | .store t x v => SemK P (Instr.storeAt t (ev f x) (ev f v)) w (fun _ w' => putK o.dst f undef fun f => K f w')
  | .box t v => SemK P (Instr.box t (ev f v)) w (fun v w' => putK o.dst f v fun f => K f w')
  | .alloc t => SemK P (Instr.alloc t true (.tuple #[])) w (fun v w' => putK o.dst f v fun f => K f w')
  | .indexAddr t x i => SemK P (Instr.indexAt t (ev f x) (ev f i)) w (fun v w' => putK o.dst f v fun f => K f w')
  | .index t x i => SemK P (Instr.index t (ev f x) (ev f i)) w (fun v w' => putK o.dst f v fun f => K f w')
  | op => match pureOp T f op with
    | some v => force v fun v => putK o.dst f v fun f => K f w
    | none => match op with
      | .binOp op t x y _ => SemK P (arith op t x y (ev f x) (ev f y)) w (fun v w' => putK o.dst f v fun f => K f w')
      | .unOp op _ x => SemK P (Op.unary op (ev f x)) w (fun v w' => putK o.dst f v fun f => K f w')
      | .convert s t x => SemK P (convert s t (ev f x)) w (fun v w' => putK o.dst f v fun f => K f w')
      | .build t ⟨ps⟩ => SemK P (Instr.build t (ps.map fun p => (p.1, ev f p.2)).toArray) w (fun v w' => putK o.dst f v fun f => K f w')
      | .buildSlice t k ⟨ps⟩ => SemK P (Instr.buildSlice t k (ps.map fun p => (p.1, ev f p.2)).toArray) w (fun v w' => putK o.dst f v fun f => K f w')
      | .makeSlice t l c => SemK P (Instr.makeSlice t (ev f l) (ev f c)) w (fun v w' => putK o.dst f v fun f => K f w')
      | .makeMap t r => SemK P (Instr.makeMap t (r.map (ev f))) w (fun v w' => putK o.dst f v fun f => K f w')
      | .makeInterface t x => SemK P (Instr.makeInterface t (ev f x)) w (fun v w' => putK o.dst f v fun f => K f w')
      | .slice t x lo hi mx => SemK P (Instr.sliceAt t (ev f x) (lo.map (ev f)) (hi.map (ev f)) (mx.map (ev f))) w (fun v w' => putK o.dst f v fun f => K f w')
      | .field t x i => SemK P (Instr.field t (ev f x) i) w (fun v w' => putK o.dst f v fun f => K f w')
      | .call { callee := .builtin b, args := ⟨as⟩, argTypes := ats } =>
        SemK P (builtin b ats o.type (as.map isC).toArray (as.map (ev f)).toArray) w (fun v w' => match v with | .value v => (putK o.dst f v fun f => K f w') | _ => False)
      | _ => OpK P n o f w (fun v w' => putK o.dst f v fun f => K f w')

def vcGuard (all : List Oper) (o : Oper) (f : Fr) (yes no : Fr → Prop) : Prop :=
  match o.guard with
  | none => yes f
  | some (j, want) => match (all[j]?).bind (·.dst) with
    | none => no f
    | some s => match f s with
      | .bool b => match want with
        | true => IfB b (yes (upd f s (.bool true))) (no (upd f s (.bool false)))
        | false => IfB b (no (upd f s (.bool true))) (yes (upd f s (.bool false)))
      | _ => no f

/-- the operations one behind the other (by the recursor itself: so that Lean's two ways of unfolding agree) -/
noncomputable def vcOps (P : Program) (T : Tab) (n : Nat) (all : List Oper) (os : List Oper) : Fr → World → (Fr → World → Prop) → Prop :=
  List.rec (motive := fun _ => Fr → World → (Fr → World → Prop) → Prop) (fun f w K => K f w)
    (fun o _ ih f w K => vcGuard all o f (fun f => vcOne P T n o f w fun f w => ih f w K) (fun f => putK o.dst f undef fun f => ih f w K)) os
theorem vcOps_nil (P : Program) (T : Tab) (n : Nat) (all : List Oper) (f : Fr) (w : World) (K : Fr → World → Prop) : vcOps P T n all [] f w K = K f w := rfl
theorem vcOps_cons (P : Program) (T : Tab) (n : Nat) (all : List Oper) (o : Oper) (os : List Oper) (f : Fr) (w : World) (K : Fr → World → Prop) :
    vcOps P T n all (o :: os) f w K = vcGuard all o f (fun f => vcOne P T n o f w fun f w => vcOps P T n all os f w K) (fun f => putK o.dst f undef fun f => vcOps P T n all os f w K) := rfl

theorem upd_self (f : Fr) (s : Nat) : upd f s (f s) = f := by
  funext i
  by_cases h : i = s
  · subst h; exact upd_same _ _ _
  · exact upd_ne _ _ h

theorem yielded_act {n : Nat} {f : Fr} {all : Array Oper} {j s : Nat} (h : (all[j]?).bind (·.dst) = some s) (hs : s < n) :
    yielded all (act n f).tmps j = match f s with | .bool b => some b | _ => none := by
  unfold yielded
  rw [h]
  simp only [Option.bind_some]
  rw [act_get n f hs]
  cases f s <;> rfl

theorem vcGuard_sound {n : Nat} {all : Array Oper} {o : Oper} {f : Fr} {yes no : Fr → Prop} (hok : okOper n all o = true) (h : vcGuard all.toList o f yes no) :
    if Region.wanted o (yielded all (act n f).tmps) then yes f else no f := by
  unfold vcGuard at h
  unfold Region.wanted
  split at h
  · rename_i hg; simpa [hg] using h
  · rename_i j want hg
    simp only [okOper, hg, Bool.and_eq_true] at hok
    simp only [hg]
    have hl : all.toList[j]? = all[j]? := by simp
    rw [hl] at h
    split at h
    · rename_i hd
      have : yielded all (act n f).tmps j = none := by unfold yielded; rw [hd]; rfl
      simpa [this] using h
    · rename_i s hd
      have hs : s < n := by have := hok.2; rw [hd] at this; simpa [Nat.blt_eq] using this
      rw [yielded_act hd hs]
      split at h
      · rename_i b hb
        have hu : upd f s (.bool b) = f := by rw [← hb]; exact upd_self f s
        cases want <;> cases b <;> simp only [hu] at h <;> simpa using h
      · simpa using h

def okOps (n : Nat) (all : Array Oper) : Bool := all.toList.all (okOper n all)

theorem map_eval {n : Nat} {f : Fr} {l : List Operand} (h : ∀ x, x ∈ l → okOpd n x = true) : l.map (act n f).eval = l.map (ev f) :=
  List.map_congr_left fun x hx => ev_act (h x hx)

theorem vcOne_sound {P : Program} {T : Tab} (hT : T.fok P = true) {n : Nat} {all : Array Oper} {o : Oper} {f : Fr} {w : World} {K : Fr → World → Prop} (hok : okOper n all o = true)
    (h : vcOne P T n o f w K) {L : Act → World → Prop} {Q : Exit → Act → World → Prop} (hL : ∀ f w, K f w → L (act n f) w) : o.wp P (act n f) w L Q := by
  simp only [okOper, Bool.and_eq_true] at hok
  have hok := hok.1
  have hin := hok
  rw [List.all_eq_true] at hin
  have hL' : ∀ v w', (putK o.dst f v fun f => K f w') → L ((act n f).put o.dst v) w' := fun v w' hk => by
    rw [putK_iff] at hk
    have := hL _ _ hk
    rw [← act_puto] at this
    exact this
  unfold vcOne at h
  split at h
  · rename_i x as ats ho
    have hx : (act n f).eval x = ev f x := ev_act (hin x (by simp [ho, Op.operands, Call.operands]))
    have has : as.map (act n f).eval = as.map (ev f) := map_eval fun y hy => hin y (by simp [ho, Op.operands, Call.operands]; right; exact hy)
    split at h
    · rename_i g first cap hf
      unfold Does at h
      obtain ⟨hfn, hc⟩ := h
      unfold isFn at hfn
      split at hfn
      · rename_i fn hfn2
        simp only [Bool.and_eq_true, bne_iff_ne, ne_eq] at hfn
        have hbody : ¬ fn.body = none := by cases hb : fn.body <;> simp_all
        have hname : ¬ fn.name = "runtime.NumGoroutine" := hfn.2
        have hr : (execOp (act n f).eval o).run P w = .ok (.enter g (first ++ as.map (ev f) ++ cap).toArray) w := by
          unfold execOp
          simp only [ho]
          have e1 : (Array.mk as).map (act n f).eval = (as.map (ev f)).toArray := by
            apply Array.toList_inj.1
            simp only [Array.toList_map]
            exact has
          simp [resolve, hx, hf, Deferred.ofValue, invoke, callFunc, hfn2, hbody, hname, has]
        unfold Oper.wp
        rw [hr]
        rw [Oper.upon_enter]
        refine hc.mono fun e w' ⟨v, he, hv⟩ => ?_
        subst he
        exact hL' _ _ hv
      · cases hfn
    · exact h.elim
  · rename_i t x ho
    have hx : (act n f).eval x = ev f x := ev_act (hin x (by simp [ho, Op.operands]))
    obtain ⟨v, w', hr, hk⟩ := h.out
    have hrun : (execOp (act n f).eval o).run P w = .ok (.value v) w' := by
      unfold execOp
      simp only [ho, hx]
      simp [hr]
    unfold Oper.wp; rw [hrun]; exact hL' _ _ hk
  · rename_i t x y ho
    have hx : (act n f).eval x = ev f x := ev_act (hin x (by simp [ho, Op.operands]))
    have hy : (act n f).eval y = ev f y := ev_act (hin y (by simp [ho, Op.operands]))
    obtain ⟨v, w', hr, hk⟩ := h.out
    have hrun : (execOp (act n f).eval o).run P w = .ok .skip w' := by
      unfold execOp
      simp only [ho, hx, hy]
      simp [hr]
    unfold Oper.wp; rw [hrun]; exact hL' _ _ hk
  · rename_i t x ho
    have hx : (act n f).eval x = ev f x := ev_act (hin x (by simp [ho, Op.operands]))
    obtain ⟨v, w', hr, hk⟩ := h.out
    have hrun : (execOp (act n f).eval o).run P w = .ok (.value v) w' := by
      unfold execOp
      simp only [ho, hx]
      simp [hr]
    unfold Oper.wp; rw [hrun]; exact hL' _ _ hk
  · rename_i t ho
    obtain ⟨v, w', hr, hk⟩ := h.out
    have hrun : (execOp (act n f).eval o).run P w = .ok (.value v) w' := by
      unfold execOp
      simp only [ho]
      simp [hr]
    unfold Oper.wp; rw [hrun]; exact hL' _ _ hk
  · rename_i t x y ho
    have hx : (act n f).eval x = ev f x := ev_act (hin x (by simp [ho, Op.operands]))
    have hy : (act n f).eval y = ev f y := ev_act (hin y (by simp [ho, Op.operands]))
    obtain ⟨v, w', hr, hk⟩ := h.out
    have hrun : (execOp (act n f).eval o).run P w = .ok (.value v) w' := by
      unfold execOp
      simp only [ho, hx, hy]
      simp [hr]
    unfold Oper.wp; rw [hrun]; exact hL' _ _ hk
  · rename_i t x y ho
    have hx : (act n f).eval x = ev f x := ev_act (hin x (by simp [ho, Op.operands]))
    have hy : (act n f).eval y = ev f y := ev_act (hin y (by simp [ho, Op.operands]))
    obtain ⟨v, w', hr, hk⟩ := h.out
    have hrun : (execOp (act n f).eval o).run P w = .ok (.value v) w' := by
      unfold execOp
      simp only [ho, hx, hy]
      simp [hr]
    unfold Oper.wp; rw [hrun]; exact hL' _ _ hk
  · split at h
    · rename_i v hv
      rw [force_iff] at h
      have hr := pureOp_run hT hok hv w
      unfold Oper.wp; rw [hr]; exact hL' _ _ h
    · split at h
      · rename_i op t x y yt ho
        have hx : (act n f).eval x = ev f x := ev_act (hin x (by simp [ho, Op.operands]))
        have hy : (act n f).eval y = ev f y := ev_act (hin y (by simp [ho, Op.operands]))
        obtain ⟨v, w', hr, hk⟩ := h.out
        have hrun : (execOp (act n f).eval o).run P w = .ok (.value v) w' := by
          unfold execOp
          simp only [ho, hx, hy]
          unfold arith at hr
          simp only [Sem.run_bind] at hr ⊢
          rw [hr]; simp
        unfold Oper.wp; rw [hrun]; exact hL' _ _ hk
      · rename_i op t x ho
        have hx : (act n f).eval x = ev f x := ev_act (hin x (by simp [ho, Op.operands]))
        obtain ⟨v, w', hr, hk⟩ := h.out
        have hrun : (execOp (act n f).eval o).run P w = .ok (.value v) w' := by
          unfold execOp
          simp only [ho, hx]
          simp [hr]
        unfold Oper.wp; rw [hrun]; exact hL' _ _ hk
      · rename_i s t x ho
        have hx : (act n f).eval x = ev f x := ev_act (hin x (by simp [ho, Op.operands]))
        obtain ⟨v, w', hr, hk⟩ := h.out
        have hrun : (execOp (act n f).eval o).run P w = .ok (.value v) w' := by
          unfold execOp
          simp only [ho, hx]
          simp [hr]
        unfold Oper.wp; rw [hrun]; exact hL' _ _ hk
      · rename_i t ps ho
        have hps : (ps.map fun p : Nat × Operand => (p.1, (act n f).eval p.2)) = ps.map fun p => (p.1, ev f p.2) := List.map_congr_left fun p hp => by
          rw [ev_act (hin p.2 (by simp [ho, Op.operands]; exact ⟨p.1, hp⟩))]
        obtain ⟨v, w', hr, hk⟩ := h.out
        have hrun : (execOp (act n f).eval o).run P w = .ok (.value v) w' := by
          unfold execOp
          simp only [ho]
          simp [hps, hr]
        unfold Oper.wp; rw [hrun]; exact hL' _ _ hk
      · rename_i t k ps ho
        have hps : (ps.map fun p : Nat × Operand => (p.1, (act n f).eval p.2)) = ps.map fun p => (p.1, ev f p.2) := List.map_congr_left fun p hp => by
          rw [ev_act (hin p.2 (by simp [ho, Op.operands]; exact ⟨p.1, hp⟩))]
        obtain ⟨v, w', hr, hk⟩ := h.out
        have hrun : (execOp (act n f).eval o).run P w = .ok (.value v) w' := by
          unfold execOp
          simp only [ho]
          simp [hps, hr]
        unfold Oper.wp; rw [hrun]; exact hL' _ _ hk
      · rename_i t x y ho
        have hx : (act n f).eval x = ev f x := ev_act (hin x (by simp [ho, Op.operands]))
        have hy : (act n f).eval y = ev f y := ev_act (hin y (by simp [ho, Op.operands]))
        obtain ⟨v, w', hr, hk⟩ := h.out
        have hrun : (execOp (act n f).eval o).run P w = .ok (.value v) w' := by
          unfold execOp
          simp only [ho, hx, hy]
          simp [hr]
        unfold Oper.wp; rw [hrun]; exact hL' _ _ hk
      · rename_i t r ho
        have hps : r.map (act n f).eval = r.map (ev f) := by
          cases r with
          | none => rfl
          | some x => simp only [Option.map_some]; rw [ev_act (hin x (by simp [ho, Op.operands]))]
        obtain ⟨v, w', hr, hk⟩ := h.out
        have hrun : (execOp (act n f).eval o).run P w = .ok (.value v) w' := by
          unfold execOp
          simp only [ho, hps]
          simp [hr]
        unfold Oper.wp; rw [hrun]; exact hL' _ _ hk
      · rename_i t x ho
        have hx : (act n f).eval x = ev f x := ev_act (hin x (by simp [ho, Op.operands]))
        obtain ⟨v, w', hr, hk⟩ := h.out
        have hrun : (execOp (act n f).eval o).run P w = .ok (.value v) w' := by
          unfold execOp
          simp only [ho, hx]
          simp [hr]
        unfold Oper.wp; rw [hrun]; exact hL' _ _ hk
      · rename_i t x lo hi mx ho
        have hx : (act n f).eval x = ev f x := ev_act (hin x (by simp [ho, Op.operands]))
        have hlo : lo.map (act n f).eval = lo.map (ev f) := by
          cases lo with
          | none => rfl
          | some y => simp only [Option.map_some]; rw [ev_act (hin y (by simp [ho, Op.operands]))]
        have hhi : hi.map (act n f).eval = hi.map (ev f) := by
          cases hi with
          | none => rfl
          | some y => simp only [Option.map_some]; rw [ev_act (hin y (by simp [ho, Op.operands]))]
        have hmx : mx.map (act n f).eval = mx.map (ev f) := by
          cases mx with
          | none => rfl
          | some y => simp only [Option.map_some]; rw [ev_act (hin y (by simp [ho, Op.operands]))]
        obtain ⟨v, w', hr, hk⟩ := h.out
        have hrun : (execOp (act n f).eval o).run P w = .ok (.value v) w' := by
          unfold execOp
          simp only [ho, hx, hlo, hhi, hmx]
          simp [hr]
        unfold Oper.wp; rw [hrun]; exact hL' _ _ hk
      · rename_i t x i ho
        have hx : (act n f).eval x = ev f x := ev_act (hin x (by simp [ho, Op.operands]))
        obtain ⟨v, w', hr, hk⟩ := h.out
        have hrun : (execOp (act n f).eval o).run P w = .ok (.value v) w' := by
          unfold execOp
          simp only [ho, hx]
          simp [hr]
        unfold Oper.wp; rw [hrun]; exact hL' _ _ hk
      · rename_i b as ats ho
        have has : as.map (act n f).eval = as.map (ev f) := map_eval fun y hy => hin y (by simp [ho, Op.operands, Call.operands]; exact hy)
        obtain ⟨v, w', hr, hk⟩ := h.out
        split at hk
        · rename_i v
          have hrun : (execOp (act n f).eval o).run P w = .ok (.value v) w' := by
            unfold execOp
            simp only [ho]
            have e1 : (Array.mk as).map (act n f).eval = (as.map (ev f)).toArray := by
              apply Array.toList_inj.1
              simp only [Array.toList_map]
              exact has
            simp only [resolve, e1, Sem.run_bind, Sem.run_pure, Result.andThen_ok, invoke]
            refine (congrArg (fun c => Sem.run P (builtin b ats o.type c (as.map (ev f)).toArray) w) ?_).trans hr
            apply Array.toList_inj.1
            simp only [Array.toList_map]
            apply List.map_congr_left
            intro x _; cases x <;> rfl
          unfold Oper.wp; rw [hrun]; exact hL' _ _ hk
        · exact hk.elim
      · unfold OpK at h
        exact h L Q fun v w' hv => hL' _ _ hv

theorem vcOps_sound {P : Program} {T : Tab} (hT : T.fok P = true) {n : Nat} {all : Array Oper} (hok : okOps n all = true) {K : Fr → World → Prop} {Q : Exit → Act → World → Prop}
    (hQ : ∀ f w, K f w → Q .normal (act n f) w) : ∀ (m i : Nat) (f : Fr) (w : World), i + m = all.size → vcOps P T n all.toList (all.toList.drop i) f w K → wpOps P all Q (List.range' i m) (act n f) w
  | 0, i, f, w, hi, h => by
    have : all.toList.drop i = [] := by apply List.drop_eq_nil_of_le; simp; omega
    rw [this, vcOps_nil] at h
    simpa [wpOps] using hQ _ _ h
  | m + 1, i, f, w, hi, h => by
    have hlt : i < all.toList.length := by simp; omega
    rw [List.drop_eq_getElem_cons hlt] at h
    have ho : all[i]? = some (all[i]'(by simpa using hlt)) := by simp
    have hoki : okOper n all (all[i]'(by simpa using hlt)) = true := by
      unfold okOps at hok
      rw [List.all_eq_true] at hok
      exact hok _ (by simp)
    rw [vcOps_cons] at h
    have hg := vcGuard_sound hoki (by simpa using h)
    simp only [List.range'_succ, wpOps, ho]
    split
    · rename_i hw
      rw [if_pos hw] at hg
      left
      exact vcOne_sound hT hoki hg fun f w hk => vcOps_sound hT hok hQ m (i + 1) f w (by omega) hk
    · rename_i hw
      rw [if_neg hw, putK_iff] at hg
      rw [act_puto]
      exact vcOps_sound hT hok hQ m (i + 1) _ w (by omega) hg

/-- the three ways out of a piece of code, over frames -/
def lift (n : Nat) (Kn : Fr → World → Prop) (Ke : Nat → Fr → World → Prop) (Kr : Fr → World → Prop) : Exit → Act → World → Prop
  | .normal, a, w => ∃ f, a = act n f ∧ Kn f w
  | .exit id, a, w => ∃ f, a = act n f ∧ Ke id f w
  | .ret, a, w => ∃ f, a = act n f ∧ Kr f w
  | _, _, _ => False

@[irreducible] def LoopK (P : Program) (n : Nat) (body : Code) (f : Fr) (w : World) (Kn : Fr → World → Prop) (Ke : Nat → Fr → World → Prop) (Kr : Fr → World → Prop) : Prop :=
  (Code.loop body).wp P (lift n Kn Ke Kr) (act n f) w
@[irreducible] def DrawK (P : Program) (n : Nat) (ops : Array Oper) (f : Fr) (w : World) (K : Fr → World → Prop) : Prop :=
  ∀ id, (Code.region id ops true).wp P (lift n K (fun _ _ _ => False) (fun _ _ => False)) (act n f) w

noncomputable def vc (P : Program) (T : Tab) (n : Nat) (c : Code) : Fr → World → (Fr → World → Prop) → (Nat → Fr → World → Prop) → (Fr → World → Prop) → Prop :=
  Code.rec (motive := fun _ => Fr → World → (Fr → World → Prop) → (Nat → Fr → World → Prop) → (Fr → World → Prop) → Prop)
    (fun f w Kn _ _ => Kn f w)
    (fun _ ops draw f w Kn _ _ => match draw with
      | false => vcOps P T n ops.toList ops.toList f w Kn
      | true => DrawK P n ops f w Kn)
    (fun _ _ iha ihb f w Kn Ke Kr => iha f w (fun f w => ihb f w Kn Ke Kr) Ke Kr)
    (fun c _ _ iha ihb f w Kn Ke Kr => match ev f c with
      | .bool t => IfB t (iha f w Kn Ke Kr) (ihb f w Kn Ke Kr)
      | _ => False)
    (fun id _ ih f w Kn Ke Kr => ih f w Kn (fun i f w => bif Nat.beq i id then Kn f w else Ke i f w) Kr)
    (fun body _ f w Kn Ke Kr => LoopK P n body f w Kn Ke Kr)
    (fun _ _ _ _ _ _ _ _ _ _ _ => False)
    (fun id f w _ Ke _ => Ke id f w)
    (fun _ _ _ _ _ _ _ => False)
    (fun _ f w Kn _ _ => Kn f w)
    (fun _ _ _ _ _ _ => False)
    (fun f w _ _ Kr => Kr f w)
    (fun _ _ _ _ _ _ => False) c
section
variable (P : Program) (T : Tab) (n : Nat) (f : Fr) (w : World) (Kn : Fr → World → Prop) (Ke : Nat → Fr → World → Prop) (Kr : Fr → World → Prop)
theorem vc_skip : vc P T n .skip f w Kn Ke Kr = Kn f w := rfl
theorem vc_label (l : Nat) : vc P T n (.label l) f w Kn Ke Kr = Kn f w := rfl
theorem vc_region (id : Nat) (ops : Array Oper) : vc P T n (.region id ops false) f w Kn Ke Kr = vcOps P T n ops.toList ops.toList f w Kn := rfl
theorem vc_region_draw (id : Nat) (ops : Array Oper) : vc P T n (.region id ops true) f w Kn Ke Kr = DrawK P n ops f w Kn := rfl
theorem vc_seq (a b : Code) : vc P T n (.seq a b) f w Kn Ke Kr = vc P T n a f w (fun f w => vc P T n b f w Kn Ke Kr) Ke Kr := rfl
theorem vc_cond (c : Operand) (a b : Code) : vc P T n (.cond c a b) f w Kn Ke Kr = (match ev f c with
      | .bool t => IfB t (vc P T n a f w Kn Ke Kr) (vc P T n b f w Kn Ke Kr)
      | _ => False) := rfl
theorem vc_block (id : Nat) (b : Code) : vc P T n (.block id b) f w Kn Ke Kr = vc P T n b f w Kn (fun i f w => bif Nat.beq i id then Kn f w else Ke i f w) Kr := rfl
theorem vc_loop (b : Code) : vc P T n (.loop b) f w Kn Ke Kr = LoopK P n b f w Kn Ke Kr := rfl
theorem vc_exit (id : Nat) : vc P T n (.exit id) f w Kn Ke Kr = Ke id f w := rfl
theorem vc_ret : vc P T n .ret f w Kn Ke Kr = Kr f w := rfl
end

def okCode (n : Nat) : Code → Bool
  | .region _ ops _ => okOps n ops
  | .seq a b => okCode n a && okCode n b
  | .cond c a b => okOpd n c && okCode n a && okCode n b
  | .block _ b => okCode n b
  | .loop b => okCode n b
  | _ => true

theorem vc_sound {P : Program} {T : Tab} (hT : T.fok P = true) {n : Nat} : ∀ (c : Code) (f : Fr) (w : World) (Kn : Fr → World → Prop) (Ke : Nat → Fr → World → Prop) (Kr : Fr → World → Prop),
    okCode n c = true → vc P T n c f w Kn Ke Kr → c.wp P (lift n Kn Ke Kr) (act n f) w
  | .skip, f, w, Kn, Ke, Kr, _, h => wp_skip ⟨f, rfl, h⟩
  | .label _, f, w, Kn, Ke, Kr, _, h => wp_label ⟨f, rfl, h⟩
  | .region _ ops false, f, w, Kn, Ke, Kr, hok, h => by
    apply wp_region
    have := vcOps_sound hT (Q := lift n Kn Ke Kr) (K := Kn) (all := ops) hok (fun f w hk => ⟨f, rfl, hk⟩) ops.size 0 f w (by omega) (by rw [vc_region] at h; simpa using h)
    simpa [List.range_eq_range'] using this
  | .region id ops true, f, w, Kn, Ke, Kr, _, h => by
    rw [vc_region_draw] at h
    unfold DrawK at h
    refine wp_mono (h id) fun e a w hq => ?_
    cases e <;> simp only [lift] at hq ⊢ <;> first | exact hq | (obtain ⟨_, _, hq⟩ := hq; exact hq.elim) | exact hq.elim
  | .seq a b, f, w, Kn, Ke, Kr, hok, h => by
    simp only [okCode, Bool.and_eq_true] at hok
    apply wp_seq
    refine wp_mono (vc_sound hT a f w _ Ke Kr hok.1 h) fun e a' w' hq => ?_
    cases e with
    | normal =>
      obtain ⟨f', rfl, hb⟩ := hq
      exact vc_sound hT b f' w' Kn Ke Kr hok.2 hb
    | _ => exact hq
  | .cond c a b, f, w, Kn, Ke, Kr, hok, h => by
    simp only [okCode, Bool.and_eq_true] at hok
    rw [vc_cond] at h
    split at h
    · rename_i t ht
      refine wp_cond (t := t) (by rw [ev_act hok.1.1]; exact ht) ?_
      cases t
      · exact vc_sound hT b f w Kn Ke Kr hok.2 h
      · exact vc_sound hT a f w Kn Ke Kr hok.1.2 h
    · exact h.elim
  | .block id body, f, w, Kn, Ke, Kr, hok, h => by
    apply wp_block
    refine wp_mono (vc_sound hT body f w _ _ _ hok h) fun e a' w' hq => ?_
    cases e with
    | exit i =>
      obtain ⟨f', rfl, hq⟩ := hq
      simp only [Exit.inBlock]
      cases hb : Nat.beq i id with
      | true =>
        rw [hb] at hq
        rw [if_pos (Nat.eq_of_beq_eq_true hb)]
        exact ⟨f', rfl, hq⟩
      | false =>
        rw [hb] at hq
        rw [if_neg (fun e => by subst e; simp at hb)]
        exact ⟨f', rfl, hq⟩
    | _ => exact hq
  | .loop body, f, w, Kn, Ke, Kr, _, h => by
    rw [vc_loop] at h
    unfold LoopK at h
    exact h
  | .exit id, f, w, Kn, Ke, Kr, _, h => wp_exit ⟨f, rfl, h⟩
  | .ret, f, w, Kn, Ke, Kr, _, h => wp_ret ⟨f, rfl, h⟩
  | .rangeFunc .., _, _, _, _, _, _, h => h.elim
  | .scope .., _, _, _, _, _, _, h => h.elim
  | .goto .., _, _, _, _, _, _, h => h.elim
  | .refuse .., _, _, _, _, _, _, h => h.elim

/-- these slots hold these values; of the others nothing is known -/
def upds (g : Fr) : List Nat → List Value → Fr
  | s :: ss, v :: vs => upd (upds g ss vs) s v
  | _, _ => g
theorem upds_self (f : Fr) : ∀ l : List Nat, upds f l (l.map f) = f
  | [] => rfl
  | s :: ss => by simp only [List.map, upds, upds_self f ss]; exact upd_self f s

/-- A LOOP: 'slots': the slots of which the relation speaks (all that the body or what follows reads); the ghost 'a' -/
theorem LoopK.rule {α : Type} (slots : List Nat) (I : α → List Value → World → Prop) (μ : α → Nat) {P : Program} (T : Tab) (hT : T.fok P = true) {n : Nat} {body : Code} {f : Fr} {w : World}
    {Kn : Fr → World → Prop} {Ke : Nat → Fr → World → Prop} {Kr : Fr → World → Prop} (hok : okCode n body = true) (a0 : α) (h0 : I a0 (slots.map f) w)
    (step : ∀ a g vs w, I a vs w → vc P T n body (upds g slots vs) w (fun f' w' => ∃ a', μ a' < μ a ∧ I a' (slots.map f') w') Ke Kr) : LoopK P n body f w Kn Ke Kr := by
  unfold LoopK
  -- the measure is found by induction on it
  intro b k cs
  have key : ∀ m a f w, μ a = m → I a (slots.map f) w →
      ∃ e a' w', lift n Kn Ke Kr e a' w' ∧ Arrives P (lone (b.at (act n f) (.code body :: .inLoop body :: k)) cs w) b k cs e a' w' := by
    intro m
    induction m using Nat.strongRecOn with
    | _ m ih =>
      intro a f w hm hI
      have hs := step a f (slots.map f) w hI
      rw [upds_self] at hs
      obtain ⟨e, a₁, w₁, hq, harr⟩ := vc_sound hT body f w _ _ _ hok hs b (.inLoop body :: k) cs
      cases e with
      | normal =>
        obtain ⟨f', rfl, a', hlt, hI'⟩ := hq
        obtain ⟨e₂, a₂, w₂, hq₂, harr₂⟩ := ih (μ a') (hm ▸ hlt) a' f' w₁ rfl hI'
        exact ⟨e₂, a₂, w₂, hq₂, .of_steps (Steps.trans harr (.one step_inLoop)) harr₂⟩
      | exit id => exact ⟨.exit id, a₁, w₁, hq, .pass (x := .inLoop body) rfl (fun _ _ => .inl (by simp)) harr⟩
      | ret => exact ⟨.ret, a₁, w₁, hq, .pass (x := .inLoop body) rfl (fun _ _ => .inl (by simp)) harr⟩
      | goto l => exact hq.elim
      | panic ch => exact hq.elim
      | outgrown => exact hq.elim
  obtain ⟨e, a', w', hq, harr⟩ := key _ a0 f w rfl h0
  exact ⟨e, a', w', hq, .of_steps (.one step_loop) harr⟩

/-- a result that lies in memory is read -/
@[irreducible] def CellK (P : Program) (t : Nat) (x : Value) (w : World) (K : Value → Prop) : Prop :=
  ∃ v, (Instr.loadAt t x).run P w = .ok v w ∧ K v
theorem CellK.of {P : Program} {t : Nat} {x : Value} {w : World} {v : Value} {K : Value → Prop} (h : (Instr.loadAt t x).run P w = .ok v w) (hk : K v) : CellK P t x w K := by
  unfold CellK; exact ⟨v, h, hk⟩
theorem loadAt_as {P : Program} {t : Nat} {x v : Value} {w : World} (h : (Instr.loadAt t x).run P w = .ok v w) : (do loadVar t (← asAddr x) : Sem Value).run P w = .ok v w := by
  unfold Instr.loadAt at h
  cases x with
  | pointer a =>
    cases a with
    | none => simp [Instr.sureAddr] at h
    | some a => simpa [Instr.sureAddr, asAddr] using h
  | _ => simp [Instr.sureAddr] at h
/-- what a function hands back -/
noncomputable def rets (P : Program) (rs : List ResultVar) (f : Fr) (w : World) : (List Value → Prop) → Prop :=
  List.rec (motive := fun _ => (List Value → Prop) → Prop) (fun K => K [])
    (fun r _ ih K => match r with
      | .tmp t => force (f t) fun v => ih fun l => K (v :: l)
      | .cell a t => CellK P t (f a) w fun v => ih fun l => K (v :: l)) rs
theorem rets_nil (P : Program) (f : Fr) (w : World) (K : List Value → Prop) : rets P [] f w K = K [] := rfl
theorem rets_tmp (P : Program) (t : Nat) (rs : List ResultVar) (f : Fr) (w : World) (K : List Value → Prop) : rets P (.tmp t :: rs) f w K = force (f t) fun v => rets P rs f w fun l => K (v :: l) := rfl
theorem rets_cell (P : Program) (a t : Nat) (rs : List ResultVar) (f : Fr) (w : World) (K : List Value → Prop) : rets P (.cell a t :: rs) f w K = CellK P t (f a) w fun v => rets P rs f w fun l => K (v :: l) := rfl
def tupled : List Value → Value
  | [v] => v
  | vs => .tuple vs.toArray
def okRes (n : Nat) : ResultVar → Bool
  | .tmp t => Nat.blt t n
  | .cell a _ => Nat.blt a n

def resOne (tmps : Array Value) : ResultVar → Sem Value
  | .tmp t => pure (tmps.getD t undef)
  | .cell a t => do loadVar t (← asAddr (tmps.getD a undef))

theorem rets_run {P : Program} {n : Nat} {f : Fr} {w : World} : ∀ (rs : List ResultVar) (K : List Value → Prop), rs.all (okRes n) = true → rets P rs f w K →
    ∃ l, (rs.mapM (resOne (act n f).tmps)).run P w = .ok l w ∧ K l
  | [], K, _, h => ⟨[], by simp, h⟩
  | .tmp t :: rs, K, hok, h => by
    simp only [List.all_cons, Bool.and_eq_true, okRes, Nat.blt_eq] at hok
    rw [rets_tmp, force_iff] at h
    obtain ⟨l, hl, hk⟩ := rets_run rs _ hok.2 h
    refine ⟨f t :: l, ?_, hk⟩
    have := act_getD n f hok.1 undef
    simp only [List.mapM_cons, resOne, this]
    simp [hl]
  | .cell a t :: rs, K, hok, h => by
    simp only [List.all_cons, Bool.and_eq_true, okRes, Nat.blt_eq] at hok
    rw [rets_cell] at h
    unfold CellK at h
    obtain ⟨v, hr, hk⟩ := h
    obtain ⟨l, hl, hk⟩ := rets_run rs _ hok.2 hk
    refine ⟨v :: l, ?_, hk⟩
    have := act_getD n f hok.1 undef
    have hr := loadAt_as hr
    simp only [List.mapM_cons, resOne, this]
    rw [Sem.run_bind, hr]
    simp [hl]

theorem results_run {P : Program} {n : Nat} {f : Fr} {w : World} {fn : Func} {K : List Value → Prop} (hok : fn.results.toList.all (okRes n) = true) (h : rets P fn.results.toList f w K) :
    ∃ l, (results fn (act n f).tmps).run P w = .ok (tupled l) w ∧ K l := by
  obtain ⟨l, hl, hk⟩ := rets_run _ _ hok h
  refine ⟨l, ?_, hk⟩
  have e : results fn (act n f).tmps = (do
      let vs ← fn.results.mapM (resOne (act n f).tmps)
      pure (if h : vs.size = 1 then vs[0] else .tuple vs)) := by
    unfold results
    congr 1
  rw [e]
  have e2 : (fn.results.mapM (resOne (act n f).tmps)).run P w = .ok l.toArray w := by
    rw [Array.mapM_eq_mapM_toList]
    simp [hl]
  simp only [Sem.run_bind, e2]
  match l with
  | [] => simp [tupled]
  | [v] => simp [tupled]
  | a :: b :: r => simp [tupled]

def frameOf (args : List Value) : Fr := fun i => args.getD i undef

theorem entry_act {args : List Value} {n : Nat} (h : args.length ≤ n) :
    ({ tmps := args.toArray ++ Array.replicate (n - args.toArray.size) undef, defers := [] } : Act) = act n (frameOf args) := by
  simp only [act, Act.mk.injEq, and_true]
  apply Array.ext
  · simp; omega
  · intro i h1 h2
    simp only [Array.getElem_ofFn, frameOf]
    rw [Array.getElem_append]
    split
    · rename_i hlt
      simp at hlt
      simp [hlt]
    · rename_i hlt
      simp at hlt
      simp [hlt]

def okFn (fn : Func) (args : Nat) : Bool :=
  (match fn.body with | some c => okCode fn.ntmps c | none => false) && fn.results.toList.all (okRes fn.ntmps) && Nat.ble args fn.ntmps && fn.name != "runtime.NumGoroutine"

/-- A FUNCTION: by its code -/
theorem Does.of_vc {P : Program} {T : Tab} (hT : T.fok P = true) {g : Nat} {fn : Func} (hf : P.funcs[g]? = some fn) {c : Code} {n : Nat} {rs : List ResultVar} (hb : fn.body = some c) (hn : fn.ntmps = n) (hrs : fn.results.toList = rs)
    {args : List Value} (hok : okFn fn args.length = true) {w : World} {R : Value → World → Prop}
    (h : vc P T n c (frameOf args) w (fun f w => rets P rs f w fun l => force (tupled l) fun v => R v w) (fun _ _ _ => False) (fun f w => rets P rs f w fun l => force (tupled l) fun v => R v w)) : Does P g args w R := by
  subst hn
  subst hrs
  simp only [okFn, hb, Bool.and_eq_true, Nat.ble_eq] at hok
  obtain ⟨⟨⟨h1, h2⟩, h3⟩, h4⟩ := hok
  apply Does.of_calls
  · unfold isFn; rw [hf]; simp only [hb, Option.isSome_some, Bool.true_and]; exact h4
  · apply calls_of_wp hf hb
    rw [entry_act h3]
    refine wp_mono (vc_sound hT c _ w _ _ _ h1 h) fun e a w' hq => ?_
    cases e with
    | normal =>
      obtain ⟨f, rfl, hk⟩ := hq
      obtain ⟨l, hl, hk⟩ := results_run h2 hk
      rw [force_iff] at hk
      exact ⟨rfl, _, hl, _, rfl, hk⟩
    | ret =>
      obtain ⟨f, rfl, hk⟩ := hq
      obtain ⟨l, hl, hk⟩ := results_run h2 hk
      rw [force_iff] at hk
      exact ⟨rfl, _, hl, _, rfl, hk⟩
    | exit id => obtain ⟨f, rfl, hk⟩ := hq; exact hk.elim
    | goto l => exact hq.elim
    | panic ch => exact hq.elim
    | outgrown => exact hq.elim
end Go.Vc
