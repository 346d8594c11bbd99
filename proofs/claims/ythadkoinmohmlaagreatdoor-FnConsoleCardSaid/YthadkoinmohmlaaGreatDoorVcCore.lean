/- A calculus of verification conditions over the model: a piece of code whose condition holds runs as the condition says, for every program and frame. No conditions of its own. -/
import Derived.WalkKit
import Derived.Deep.Quiet
import Derived.OrdersHeld
import Derived.Laws.BytesString
namespace Go.Vc
open Go Go.RowKit
abbrev Fr:=Nat→Value
def upd (f:Fr) (d:Nat) (v:Value):Fr:=fun i=>bif Nat.beq i d then v else f i
def put (f:Fr):Option Nat→Value→Fr
  | some d,v=>upd f d v
  | none,_=>f
def act (n:Nat) (f:Fr):Act:={ tmps:=Array.ofFn (fun i:Fin n=>f i),defers:=[] }
def ev (f:Fr):Operand→Value
  | .tmp t=>f t
  | .const v=>v
  | .global g=>.pointer (some ⟨g,0,none⟩)
  | .func g=>.func (.func g) #[] #[]
theorem upd_same (f:Fr) (d:Nat) (v:Value):upd f d v d=v:=by simp [upd]
theorem upd_ne (f:Fr) {d i:Nat} (v:Value) (h:i≠d):upd f d v i=f i:=by
  have h2:Nat.beq i d=false:=by
    cases hb:Nat.beq i d with
    | false=>rfl
    | true=>exact absurd (Nat.eq_of_beq_eq_true hb) h
  simp [upd,h2]
theorem act_get (n:Nat) (f:Fr) {t:Nat} (h:t<n):(act n f).tmps[t]? = some (f t):=by
  simp [act,h]
theorem act_getD (n:Nat) (f:Fr) {t:Nat} (h:t<n) (u:Value):(act n f).tmps.getD t u=f t:=by
  simp [act,h]
theorem act_put (n:Nat) (f:Fr) {d:Nat} (v:Value):(act n f).put (some d) v=act n (upd f d v):=by
  have e:(Array.ofFn (fun i:Fin n=>f i)).setIfInBounds d v=Array.ofFn (fun i:Fin n=>upd f d v i):=by
    apply Array.ext
    · simp
    · intro i h1 h2;have h3:i<n:=by simpa using h2
      rw [Array.getElem_ofFn,Array.getElem_setIfInBounds];by_cases h:d=i
      · subst h;simp [upd_same]
      · rw [if_neg h,Array.getElem_ofFn,upd_ne f v (Ne.symm h)]
      · simpa using h3
  simp only [act,Act.put,e]
theorem act_puto (n:Nat) (f:Fr) (d:Option Nat) (v:Value):(act n f).put d v=act n (put f d v):=by
  cases d with
  | none=>rfl
  | some d=>exact act_put n f v
def okOpd (n:Nat):Operand→Bool
  | .tmp t=>Nat.blt t n
  | _=>true
theorem ev_act {n:Nat} {f:Fr} {x:Operand} (h:okOpd n x=true):(act n f).eval x=ev f x:=by
  cases x with
  | tmp t=>simp only [Act.eval,ev];exact act_getD n f (by simpa [okOpd,Nat.blt_eq] using h) _
  | _=>rfl
def okOper (n:Nat) (all:Array Oper) (o:Oper):Bool :=
  (o.op.operands.toList.all (okOpd n)) &&
  (match o.guard with
   | none=>true
   | some (j,_)=>match (all[j]?).bind (·.dst) with
     | none=>true
     | some s=>Nat.blt s n)
@[reducible] def IfB (b:Bool) (X Y:Prop):Prop :=
  match b with
  | true=>X
  | false=>Y
theorem IfB.split {b:Bool} {X Y:Prop} (h1:b=true→X) (h2:b=false→Y):IfB b X Y:=by
  cases b
  · exact h2 rfl
  · exact h1 rfl
theorem IfB.nsplit {b:Bool} {X Y:Prop} (h1:b=false→X) (h2:b=true→Y):IfB (!b) X Y:=by
  cases b
  · exact h1 rfl
  · exact h2 rfl
theorem IfB.dec {p:Prop} [Decidable p] {X Y:Prop} (h1:p→X) (h2:¬ p→Y):IfB (decide p) X Y:=by
  apply IfB.split
  · intro h;exact h1 (of_decide_eq_true h)
  · intro h;exact h2 (of_decide_eq_false h)
theorem IfB.ndec {p:Prop} [Decidable p] {X Y:Prop} (h1:¬ p→X) (h2:p→Y):IfB (!decide p) X Y:=by
  apply IfB.split
  · intro h;exact h1 (of_decide_eq_false (by simpa using h))
  · intro h;exact h2 (of_decide_eq_true (by simpa using h))
theorem IfB.eqt {b:Bool} {X Y:Prop} (h:b=true) (h1:X):IfB b X Y:=by subst h;exact h1
theorem IfB.eqf {b:Bool} {X Y:Prop} (h:b=false) (h1:Y):IfB b X Y:=by subst h;exact h1
theorem IfB.yes {p:Prop} [Decidable p] {X Y:Prop} (h:p) (h1:X):IfB (decide p) X Y:=IfB.eqt (decide_eq_true h) h1
theorem IfB.no {p:Prop} [Decidable p] {X Y:Prop} (h:¬ p) (h1:Y):IfB (decide p) X Y:=IfB.eqf (decide_eq_false h) h1
def pureBin (op:BinOp) (x y:Value):Option Value :=
  match x,y with
  | .int k a,.int k' b =>
    match op with
    | .eql=>if k=k' then some (.bool (decide (a=b))) else none
    | .neq=>if k=k' then some (.bool (!decide (a=b))) else none
    | .lss=>if k=k' then some (.bool (decide (a<b))) else none
    | .leq=>if k=k' then some (.bool (decide (a≤b))) else none
    | .gtr=>if k=k' then some (.bool (decide (b<a))) else none
    | .geq=>if k=k' then some (.bool (decide (b≤a))) else none
    | _=>none
  | .string a,.string b =>
    match op with
    | .eql=>some (.bool (decide (a=b)))
    | .neq=>some (.bool (!decide (a=b)))
    | .lss=>some (.bool (Op.bytesLess a.toList b.toList))
    | .leq=>some (.bool (Op.bytesLess a.toList b.toList || decide (a=b)))
    | .gtr=>some (.bool (!(Op.bytesLess a.toList b.toList || decide (a=b))))
    | .geq=>some (.bool (!Op.bytesLess a.toList b.toList))
    | _=>none
  | _,_=>none
theorem beqList_iff (a b:ByteArray):(a.toList == b.toList)=decide (a=b):=by
  rw [Bool.eq_iff_iff];simp only [beq_iff_eq,decide_eq_true_eq];constructor
  · intro h;rw [ByteArray.toList_eq,ByteArray.toList_eq] at h;obtain ⟨⟨x⟩⟩:=a;obtain ⟨⟨y⟩⟩:=b;simp at h;rw [h]
  · intro h;rw [h]
theorem pureBin_run {P:Program} {op:BinOp} {t:TypeId} {x y:Value} {v:Value} (h:pureBin op x y=some v) (X Y:Operand) (w:World) :
    ((do eqGuard op t X Y x y;binOp op t x y):Sem Value).run P w = .ok v w:=by
  unfold pureBin at h;split at h
  · rename_i k a k' b;split at h<;>(try (cases h;done)) <;>
    · split at h
      · rename_i hk;subst hk;simp only [Option.some.injEq] at h;subst h;simp [eqGuard,binOp,Op.intCmp,go_sem];try rfl
      · cases h
  · split at h<;>(try (cases h;done)) <;>
    · simp only [Option.some.injEq] at h;subst h;simp [eqGuard,binOp,Op.stringOp,go_sem,beqList_iff]
  · cases h
structure Tab where
  fo:List (List Nat)
  es:List Nat
  ag:List (Option Nat)
  ik:List (Option IntKind)
  st:List Bool
def fieldOff (P:Program) (s i:Nat):Option Nat :=
  match P.underlying s with
  | some (.struct fs)=>match fs[i]? with
    | some f=>match P.info? f.type with
      | some inf=>if inf.size=0 then none else some f.offset
      | none=>none
    | none=>none
  | _=>none
def elemSize (P:Program) (t:Nat):Option Nat :=
  match P.underlying t with
  | some (.slice e)=>match P.info? e with
    | some inf=>some inf.size
    | none=>none
  | _=>none
def intKindOf (P:Program) (t:Nat):Option IntKind :=
  match P.underlying t with
  | some (.int k)=>some k
  | _=>none
def isStr (P:Program) (t:Nat):Bool :=
  match P.underlying t with
  | some .string=>true
  | _=>false
def aggSize (P:Program) (t:Nat):Option Nat :=
  match P.underlying t,P.info? t with
  | some (.struct _),some inf=>some inf.size
  | some (.array _ _),some inf=>some inf.size
  | _,_=>none
def oneCell (P:Program) (t:Nat):Bool :=
  match P.underlying t,P.info? t with
  | some (.struct _),_=>false
  | some (.array _ _),_=>false
  | some _,some inf=>inf.size == 1
  | _,_=>false
def Tab.fok (P:Program) (T:Tab):Bool :=
  (T.fo.zipIdx.all fun (l,s)=>l.zipIdx.all fun (o,i)=>fieldOff P s i == some o) &&
  (T.es.zipIdx.all fun (n,t)=>n == 0 || elemSize P t == some n) &&
  (T.ik.zipIdx.all fun (k,t)=>k == none || intKindOf P t == k) &&
  (T.st.zipIdx.all fun (b,t)=>!b || isStr P t) &&
  (T.ag.zipIdx.all fun (n,t)=>match n with | some n=>aggSize P t == some n | none=>true)
theorem zipIdx_get {α:Type} {p:α×Nat→Bool} {l:List α} (h:l.zipIdx.all p=true) {i:Nat} {a:α} (hi:l[i]? = some a):p (a,i)=true:=by
  rw [List.all_eq_true] at h;apply h;rw [List.mem_zipIdx_iff_getElem?];simpa using hi
theorem Tab.fo_ok {P:Program} {T:Tab} (h:T.fok P=true) {s i o:Nat} {l:List Nat} (h1:T.fo[s]? = some l) (h2:l[i]? = some o):fieldOff P s i=some o:=by
  simp only [Tab.fok,Bool.and_eq_true] at h;have:=zipIdx_get (zipIdx_get h.1.1.1.1 h1) h2;simpa using this
theorem Tab.es_ok {P:Program} {T:Tab} (h:T.fok P=true) {t n:Nat} (h1:T.es[t]? = some (n+1)):elemSize P t=some (n+1):=by
  simp only [Tab.fok,Bool.and_eq_true] at h;have:=zipIdx_get h.1.1.1.2 h1;simpa using this
theorem Tab.st_ok {P:Program} {T:Tab} (h:T.fok P=true) {t:Nat} (h1:T.st[t]? = some true):P.underlying t=some .string:=by
  simp only [Tab.fok,Bool.and_eq_true] at h;have:=zipIdx_get h.1.2 h1;simp [isStr] at this;split at this<;>simp_all
theorem elemSize_slice {P:Program} {t n:Nat} (h:elemSize P t=some n):∃ e inf,P.underlying t=some (.slice e)∧P.info? e=some inf∧inf.size=n:=by
  unfold elemSize at h;split at h
  · rename_i e hu;split at h
    · rename_i inf hi;simp only [Option.some.injEq] at h;exact ⟨e,inf,hu,hi,h⟩
    · cases h
  · cases h
def pureOp (T:Tab) (f:Fr):Op→Option Value
  | .move x=>some (ev f x)
  | .assign x=>some (ev f x)
  | .pick c a b=>match ev f c with
    | .bool t=>some (bif t then ev f a else ev f b)
    | _=>none
  | .binOp op _ x y _=>match op with
    | .eql | .neq | .lss | .leq | .gtr | .geq=>pureBin op (ev f x) (ev f y)
    | _=>none
  | .unOp .not _ x=>match ev f x with
    | .bool b=>some (.bool (!b))
    | _=>none
  | .extract x i=>match ev f x with
    | .tuple ⟨vs⟩=>vs[i]?
    | _=>none
  | .call { callee := .builtin .len,args:=⟨[x]⟩,argTypes:=⟨[t]⟩ }=>match ev f x with
    | .string s=>match T.st[t]? with
      | some true=>some (.int .i64 s.size)
      | _=>none
    | .slice _ k _=>match T.es[t]? with
      | some (_+1)=>some (.int .i64 k)
      | _=>none
    | _=>none
  | .makeFunc fn first captured=>some (.func fn (first.toList.map (ev f)).toArray (captured.toList.map (ev f)).toArray)
  | .fieldAddr s x i=>match ev f x with
    | .pointer (some ⟨b,off,none⟩)=>match T.fo[s]? with
      | some l=>match l[i]? with
        | some o=>some (.pointer (some ⟨b,off+o,none⟩))
        | none=>none
      | none=>none
    | _=>none
  | .nilCheck x=>match ev f x with
    | .pointer (some a)=>some (.pointer (some a))
    | .func (.func g) a b=>some (.func (.func g) a b)
    | _=>none
  | _=>none
theorem addr_add_none (b off o:Nat):(Addr.mk b off none).add o=⟨b,off+o,none⟩:=by
  unfold Addr.add;split
  · rename_i h;subst h;rfl
  · rfl
theorem run_fieldAt {P:Program} {s i o b off:Nat} (h:fieldOff P s i=some o) (w:World) :
    (Instr.fieldAt s (.pointer (some ⟨b,off,none⟩)) i).run P w = .ok (.pointer (some ⟨b,off+o,none⟩)) w:=by
  unfold fieldOff at h;split at h
  · rename_i fs hu;split at h
    · rename_i fl hf;split at h
      · rename_i inf hi;split at h
        · cases h
        · rename_i hz;simp only [Option.some.injEq] at h;subst h;simp [Instr.fieldAt,run_underlying hu,hf,Instr.sureAddr,fieldPlace,sizeOf,typeInfo,hi,hz,addr_add_none]
      · cases h
    · cases h
  · cases h
theorem pureOp_run {P:Program} {T:Tab} (hT:T.fok P=true) {n:Nat} {f:Fr} {o:Oper} {v:Value}
    (hok:o.op.operands.toList.all (okOpd n)=true) (h:pureOp T f o.op=some v) (w:World) :
    (execOp (act n f).eval o).run P w = .ok (.value v) w:=by
  rw [List.all_eq_true] at hok;have hev:∀ x,x∈o.op.operands.toList→(act n f).eval x=ev f x:=fun x hx=>ev_act (hok x hx);clear hok;unfold pureOp at h;unfold execOp;split at h
  · rename_i x ho;simp only [Option.some.injEq] at h;subst h;simp only [ho];have:=hev x (by simp [ho,Op.operands]);simp [this]
  · rename_i x ho;simp only [Option.some.injEq] at h;subst h;simp only [ho];have:=hev x (by simp [ho,Op.operands]);simp [this]
  · rename_i c a b ho;simp only [ho];have h1:=hev c (by simp [ho,Op.operands]);have h2:=hev a (by simp [ho,Op.operands]);have h3:=hev b (by simp [ho,Op.operands]);split at h
    · rename_i t ht;simp only [Option.some.injEq] at h;subst h;rw [h1,h2,h3,ht];cases t<;>simp [asBool]
    · cases h
  · rename_i op t x y yt ho;simp only [ho];have h1:=hev x (by simp [ho,Op.operands]);have h2:=hev y (by simp [ho,Op.operands]);rw [h1,h2];have key:pureBin op (ev f x) (ev f y)=some v:=by
      split at h<;>first | exact h | cases h
    have:=pureBin_run (P:=P) (t:=t) key x y w;simp only [Sem.run_bind] at this ⊢;rw [this];simp
  · rename_i t x ho;simp only [ho];have h1:=hev x (by simp [ho,Op.operands]);split at h
    · rename_i b hb;simp only [Option.some.injEq] at h;subst h;rw [h1,hb];simp [Op.unary]
    · cases h
  · rename_i x i ho;simp only [ho];have h1:=hev x (by simp [ho,Op.operands]);split at h
    · rename_i vs hb;rw [h1,hb];simp [Instr.extract,h]
    · cases h
  · rename_i x t ho;simp only [ho];have h1:=hev x (by simp [ho,Op.operands,Call.operands]);split at h
    · rename_i s hs;split at h
      · rename_i ht;simp only [Option.some.injEq] at h;subst h;simp [resolve,h1,hs,invoke,builtin,Builtin.len_,run_underlying (Tab.st_ok hT ht),goInt]
      · cases h
    · rename_i k _ hs;split at h
      · rename_i m ht;simp only [Option.some.injEq] at h;subst h;obtain ⟨e,inf,hu,_,_⟩:=elemSize_slice (Tab.es_ok hT ht);simp [resolve,h1,hs,invoke,builtin,Builtin.len_,run_underlying hu,goInt]
      · cases h
    · cases h
  · rename_i fn first captured ho;simp only [ho,Option.some.injEq] at h ⊢;subst h;have e1:first.map (act n f).eval=(first.toList.map (ev f)).toArray:=by
      apply Array.toList_inj.1;simp only [Array.toList_map];apply List.map_congr_left;intro x hx;exact hev x (by simp [ho,Op.operands];left;simpa using hx)
    have e2:captured.map (act n f).eval=(captured.toList.map (ev f)).toArray:=by
      apply Array.toList_inj.1;simp only [Array.toList_map];apply List.map_congr_left;intro x hx;exact hev x (by simp [ho,Op.operands];right;simpa using hx)
    rw [e1,e2];simp [Instr.makeFunc]
  · rename_i s x i ho;simp only [ho];have h1:=hev x (by simp [ho,Op.operands]);split at h
    · rename_i b off hb;split at h
      · rename_i l hl;split at h
        · rename_i oo hoo;simp only [Option.some.injEq] at h;subst h;rw [h1,hb];have:=run_fieldAt (b:=b) (off:=off) (Tab.fo_ok hT hl hoo) w;simp only [Sem.run_bind];rw [this];simp
        · cases h
      · cases h
    · cases h
  · rename_i x ho;simp only [ho];have h1:=hev x (by simp [ho,Op.operands]);rw [h1];split at h
    · rename_i a hb;simp only [Option.some.injEq] at h;subst h;rw [hb];rfl
    · rename_i g a b hb;simp only [Option.some.injEq] at h;subst h;rw [hb];rfl
    · cases h
  · cases h
def isFn (P:Program) (g:Nat):Bool :=
  match P.funcs[g]? with
  | some fn=>fn.body.isSome && fn.name != "runtime.NumGoroutine"
  | none=>false
@[irreducible] def Does (P:Program) (g:Nat) (args:List Value) (w:World) (R:Value→World→Prop):Prop :=
  isFn P g=true∧Calls P g args.toArray w (fun e w'=>∃ v,e = .returned v∧R v w')
theorem Does.mono {P:Program} {g:Nat} {args:List Value} {w:World} {R R':Value→World→Prop} (h:Does P g args w R) (hr:∀ v w',R v w'→R' v w'):Does P g args w R':=by
  unfold Does at *;exact ⟨h.1,h.2.mono fun e w' ⟨v,he,hv⟩=>⟨v,he,hr _ _ hv⟩⟩
theorem Does.calls {P:Program} {g:Nat} {args:List Value} {w:World} {R:Value→World→Prop} (h:Does P g args w R):Calls P g args.toArray w (fun e w'=>∃ v,e = .returned v∧R v w'):=by
  unfold Does at h;exact h.2
theorem Does.of_calls {P:Program} {g:Nat} {args:List Value} {w:World} {R:Value→World→Prop} (hf:isFn P g=true) (h:Calls P g args.toArray w (fun e w'=>∃ v,e = .returned v∧R v w')):Does P g args w R:=by
  unfold Does;exact ⟨hf,h⟩
@[irreducible] def OpK (P:Program) (n:Nat) (o:Oper) (f:Fr) (w:World) (K:Value→World→Prop):Prop :=
  ∀ (L:Act→World→Prop) (Q:Exit→Act→World→Prop),(∀ v w',K v w'→L ((act n f).put o.dst v) w')→o.wp P (act n f) w L Q
@[irreducible] def SemK {α:Type} (P:Program) (s:Sem α) (w:World) (K:α→World→Prop):Prop :=
  ∃ v w',s.run P w = .ok v w'∧K v w'
theorem SemK.of {α:Type} {P:Program} {s:Sem α} {w w':World} {v:α} {K:α→World→Prop} (h:s.run P w = .ok v w') (hk:K v w'):SemK P s w K:=by
  unfold SemK;exact ⟨v,w',h,hk⟩
theorem SemK.out {α:Type} {P:Program} {s:Sem α} {w:World} {K:α→World→Prop} (h:SemK P s w K):∃ v w',s.run P w = .ok v w'∧K v w':=by
  unfold SemK at h;exact h
def arith (op:BinOp) (t:Nat) (X Y:Operand) (x y:Value):Sem Value:=do eqGuard op t X Y x y;binOp op t x y
def force (v:Value) (K:Value→Prop):Prop :=
  match v with
  | .bool b=>K (.bool b)
  | .int k n=>K (.int k n)
  | .float k n=>K (.float k n)
  | .complex k a b=>K (.complex k a b)
  | .string s=>K (.string s)
  | .pointer a=>K (.pointer a)
  | .slice a n c=>K (.slice a n c)
  | .map r=>K (.map r)
  | .chan r=>K (.chan r)
  | .func f a b=>K (.func f a b)
  | .nilFunc=>K .nilFunc
  | .iface t v=>K (.iface t v)
  | .nilIface=>K .nilIface
  | .agg cs=>K (.agg cs)
  | .tuple vs=>K (.tuple vs)
theorem force_iff (v:Value) (K:Value→Prop):force v K=K v:=by cases v<;>rfl
def putK (d:Option Nat) (f:Fr) (v:Value) (K:Fr→Prop):Prop :=
  match d with
  | some d=>K (upd f d v)
  | none=>K f
theorem putK_iff (d:Option Nat) (f:Fr) (v:Value) (K:Fr→Prop):putK d f v K=K (put f d v):=by cases d<;>rfl
def isC:Operand→Bool
  | .const _=>true
  | _=>false
def vcOne (P:Program) (T:Tab) (n:Nat) (o:Oper) (f:Fr) (w:World) (K:Fr→World→Prop):Prop :=
  match o.op with
  | .call { callee := .value x,args:=⟨as⟩,.. } =>
    match ev f x with
    | .func (.func g) ⟨first⟩ ⟨cap⟩=>Does P g (first++as.map (ev f)++cap) w (fun v w'=>putK o.dst f v fun f=>K f w')
    | _=>False
  | .load t x=>SemK P (Instr.loadAt t (ev f x)) w (fun v w'=>putK o.dst f v fun f=>K f w')
  | .store t x v=>SemK P (Instr.storeAt t (ev f x) (ev f v)) w (fun _ w'=>putK o.dst f undef fun f=>K f w')
  | .box t v=>SemK P (Instr.box t (ev f v)) w (fun v w'=>putK o.dst f v fun f=>K f w')
  | .alloc t=>SemK P (Instr.alloc t true (.tuple #[])) w (fun v w'=>putK o.dst f v fun f=>K f w')
  | .indexAddr t x i=>SemK P (Instr.indexAt t (ev f x) (ev f i)) w (fun v w'=>putK o.dst f v fun f=>K f w')
  | .index t x i=>SemK P (Instr.index t (ev f x) (ev f i)) w (fun v w'=>putK o.dst f v fun f=>K f w')
  | op=>match pureOp T f op with
    | some v=>force v fun v=>putK o.dst f v fun f=>K f w
    | none=>match op with
      | .binOp op t x y _=>SemK P (arith op t x y (ev f x) (ev f y)) w (fun v w'=>putK o.dst f v fun f=>K f w')
      | .unOp op _ x=>SemK P (Op.unary op (ev f x)) w (fun v w'=>putK o.dst f v fun f=>K f w')
      | .convert s t x=>SemK P (convert s t (ev f x)) w (fun v w'=>putK o.dst f v fun f=>K f w')
      | .build t ⟨ps⟩=>SemK P (Instr.build t (ps.map fun p=>(p.1,ev f p.2)).toArray) w (fun v w'=>putK o.dst f v fun f=>K f w')
      | .buildSlice t k ⟨ps⟩=>SemK P (Instr.buildSlice t k (ps.map fun p=>(p.1,ev f p.2)).toArray) w (fun v w'=>putK o.dst f v fun f=>K f w')
      | .makeSlice t l c=>SemK P (Instr.makeSlice t (ev f l) (ev f c)) w (fun v w'=>putK o.dst f v fun f=>K f w')
      | .makeMap t r=>SemK P (Instr.makeMap t (r.map (ev f))) w (fun v w'=>putK o.dst f v fun f=>K f w')
      | .makeInterface t x=>SemK P (Instr.makeInterface t (ev f x)) w (fun v w'=>putK o.dst f v fun f=>K f w')
      | .slice t x lo hi mx=>SemK P (Instr.sliceAt t (ev f x) (lo.map (ev f)) (hi.map (ev f)) (mx.map (ev f))) w (fun v w'=>putK o.dst f v fun f=>K f w')
      | .field t x i=>SemK P (Instr.field t (ev f x) i) w (fun v w'=>putK o.dst f v fun f=>K f w')
      | .call { callee := .builtin b,args:=⟨as⟩,argTypes:=ats } =>
        SemK P (builtin b ats o.type (as.map isC).toArray (as.map (ev f)).toArray) w (fun v w'=>match v with | .value v=>(putK o.dst f v fun f=>K f w') | _=>False)
      | _=>OpK P n o f w (fun v w'=>putK o.dst f v fun f=>K f w')
def vcGuard (all:List Oper) (o:Oper) (f:Fr) (yes no:Fr→Prop):Prop :=
  match o.guard with
  | none=>yes f
  | some (j,want)=>match (all[j]?).bind (·.dst) with
    | none=>no f
    | some s=>match f s with
      | .bool b=>match want with
        | true=>IfB b (yes (upd f s (.bool true))) (no (upd f s (.bool false)))
        | false=>IfB b (no (upd f s (.bool true))) (yes (upd f s (.bool false)))
      | _=>no f
noncomputable def vcOps (P:Program) (T:Tab) (n:Nat) (all:List Oper) (os:List Oper):Fr→World→(Fr→World→Prop)→Prop :=
  List.rec (motive:=fun _=>Fr→World→(Fr→World→Prop)→Prop) (fun f w K=>K f w)
    (fun o _ ih f w K=>vcGuard all o f (fun f=>vcOne P T n o f w fun f w=>ih f w K) (fun f=>putK o.dst f undef fun f=>ih f w K)) os
theorem vcOps_nil (P:Program) (T:Tab) (n:Nat) (all:List Oper) (f:Fr) (w:World) (K:Fr→World→Prop):vcOps P T n all [] f w K=K f w:=rfl
theorem vcOps_cons (P:Program) (T:Tab) (n:Nat) (all:List Oper) (o:Oper) (os:List Oper) (f:Fr) (w:World) (K:Fr→World→Prop) :
    vcOps P T n all (o :: os) f w K=vcGuard all o f (fun f=>vcOne P T n o f w fun f w=>vcOps P T n all os f w K) (fun f=>putK o.dst f undef fun f=>vcOps P T n all os f w K):=rfl
theorem upd_self (f:Fr) (s:Nat):upd f s (f s)=f:=by
  funext i;by_cases h:i=s
  · subst h;exact upd_same _ _ _
  · exact upd_ne _ _ h
theorem yielded_act {n:Nat} {f:Fr} {all:Array Oper} {j s:Nat} (h:(all[j]?).bind (·.dst)=some s) (hs:s<n) :
    yielded all (act n f).tmps j=match f s with | .bool b=>some b | _=>none:=by
  unfold yielded;rw [h];simp only [Option.bind_some];rw [act_get n f hs];cases f s<;>rfl
theorem vcGuard_sound {n:Nat} {all:Array Oper} {o:Oper} {f:Fr} {yes no:Fr→Prop} (hok:okOper n all o=true) (h:vcGuard all.toList o f yes no) :
    if Region.wanted o (yielded all (act n f).tmps) then yes f else no f:=by
  unfold vcGuard at h;unfold Region.wanted;split at h
  · rename_i hg;simpa [hg] using h
  · rename_i j want hg;simp only [okOper,hg,Bool.and_eq_true] at hok;simp only [hg];have hl:all.toList[j]? = all[j]? := by simp
    rw [hl] at h;split at h
    · rename_i hd;have:yielded all (act n f).tmps j=none:=by unfold yielded;rw [hd];rfl
      simpa [this] using h
    · rename_i s hd;have hs:s<n:=by have:=hok.2;rw [hd] at this;simpa [Nat.blt_eq] using this
      rw [yielded_act hd hs];split at h
      · rename_i b hb;have hu:upd f s (.bool b)=f:=by rw [← hb];exact upd_self f s
        cases want<;>cases b<;>simp only [hu] at h<;>simpa using h
      · simpa using h
def okOps (n:Nat) (all:Array Oper):Bool:=all.toList.all (okOper n all)
theorem map_eval {n:Nat} {f:Fr} {l:List Operand} (h:∀ x,x∈l→okOpd n x=true):l.map (act n f).eval=l.map (ev f) :=
  List.map_congr_left fun x hx=>ev_act (h x hx)
theorem vcOne_sound {P:Program} {T:Tab} (hT:T.fok P=true) {n:Nat} {all:Array Oper} {o:Oper} {f:Fr} {w:World} {K:Fr→World→Prop} (hok:okOper n all o=true)
    (h:vcOne P T n o f w K) {L:Act→World→Prop} {Q:Exit→Act→World→Prop} (hL:∀ f w,K f w→L (act n f) w):o.wp P (act n f) w L Q:=by
  simp only [okOper,Bool.and_eq_true] at hok;have hok:=hok.1;have hin:=hok;rw [List.all_eq_true] at hin;have hL':∀ v w',(putK o.dst f v fun f=>K f w')→L ((act n f).put o.dst v) w':=fun v w' hk=>by
    rw [putK_iff] at hk;have:=hL _ _ hk;rw [← act_puto] at this;exact this
  unfold vcOne at h;split at h
  · rename_i x as ats ho;have hx:(act n f).eval x=ev f x:=ev_act (hin x (by simp [ho,Op.operands,Call.operands]));have has:as.map (act n f).eval=as.map (ev f):=map_eval fun y hy=>hin y (by simp [ho,Op.operands,Call.operands];right;exact hy);split at h
    · rename_i g first cap hf;unfold Does at h;obtain ⟨hfn,hc⟩:=h;unfold isFn at hfn;split at hfn
      · rename_i fn hfn2;simp only [Bool.and_eq_true,bne_iff_ne,ne_eq] at hfn;have hbody:¬ fn.body=none:=by cases hb:fn.body<;>simp_all
        have hname:¬ fn.name = "runtime.NumGoroutine" := hfn.2;have hr:(execOp (act n f).eval o).run P w = .ok (.enter g (first++as.map (ev f)++cap).toArray) w:=by
          unfold execOp;simp only [ho];have e1:(Array.mk as).map (act n f).eval=(as.map (ev f)).toArray:=by
            apply Array.toList_inj.1;simp only [Array.toList_map];exact has
          simp [resolve,hx,hf,Deferred.ofValue,invoke,callFunc,hfn2,hbody,hname,has]
        unfold Oper.wp;rw [hr];rw [Oper.upon_enter];refine hc.mono fun e w' ⟨v,he,hv⟩=>?_;subst he;exact hL' _ _ hv
      · cases hfn
    · exact h.elim
  · rename_i t x ho;have hx:(act n f).eval x=ev f x:=ev_act (hin x (by simp [ho,Op.operands]));obtain ⟨v,w',hr,hk⟩:=h.out;have hrun:(execOp (act n f).eval o).run P w = .ok (.value v) w':=by
      unfold execOp;simp only [ho,hx];simp [hr]
    unfold Oper.wp;rw [hrun];exact hL' _ _ hk
  · rename_i t x y ho;have hx:(act n f).eval x=ev f x:=ev_act (hin x (by simp [ho,Op.operands]));have hy:(act n f).eval y=ev f y:=ev_act (hin y (by simp [ho,Op.operands]));obtain ⟨v,w',hr,hk⟩:=h.out;have hrun:(execOp (act n f).eval o).run P w = .ok .skip w':=by
      unfold execOp;simp only [ho,hx,hy];simp [hr]
    unfold Oper.wp;rw [hrun];exact hL' _ _ hk
  · rename_i t x ho;have hx:(act n f).eval x=ev f x:=ev_act (hin x (by simp [ho,Op.operands]));obtain ⟨v,w',hr,hk⟩:=h.out;have hrun:(execOp (act n f).eval o).run P w = .ok (.value v) w':=by
      unfold execOp;simp only [ho,hx];simp [hr]
    unfold Oper.wp;rw [hrun];exact hL' _ _ hk
  · rename_i t ho;obtain ⟨v,w',hr,hk⟩:=h.out;have hrun:(execOp (act n f).eval o).run P w = .ok (.value v) w':=by
      unfold execOp;simp only [ho];simp [hr]
    unfold Oper.wp;rw [hrun];exact hL' _ _ hk
  · rename_i t x y ho;have hx:(act n f).eval x=ev f x:=ev_act (hin x (by simp [ho,Op.operands]));have hy:(act n f).eval y=ev f y:=ev_act (hin y (by simp [ho,Op.operands]));obtain ⟨v,w',hr,hk⟩:=h.out;have hrun:(execOp (act n f).eval o).run P w = .ok (.value v) w':=by
      unfold execOp;simp only [ho,hx,hy];simp [hr]
    unfold Oper.wp;rw [hrun];exact hL' _ _ hk
  · rename_i t x y ho;have hx:(act n f).eval x=ev f x:=ev_act (hin x (by simp [ho,Op.operands]));have hy:(act n f).eval y=ev f y:=ev_act (hin y (by simp [ho,Op.operands]));obtain ⟨v,w',hr,hk⟩:=h.out;have hrun:(execOp (act n f).eval o).run P w = .ok (.value v) w':=by
      unfold execOp;simp only [ho,hx,hy];simp [hr]
    unfold Oper.wp;rw [hrun];exact hL' _ _ hk
  · split at h
    · rename_i v hv;rw [force_iff] at h;have hr:=pureOp_run hT hok hv w;unfold Oper.wp;rw [hr];exact hL' _ _ h
    · split at h
      · rename_i op t x y yt ho;have hx:(act n f).eval x=ev f x:=ev_act (hin x (by simp [ho,Op.operands]));have hy:(act n f).eval y=ev f y:=ev_act (hin y (by simp [ho,Op.operands]));obtain ⟨v,w',hr,hk⟩:=h.out;have hrun:(execOp (act n f).eval o).run P w = .ok (.value v) w':=by
          unfold execOp;simp only [ho,hx,hy];unfold arith at hr;simp only [Sem.run_bind] at hr ⊢;rw [hr];simp
        unfold Oper.wp;rw [hrun];exact hL' _ _ hk
      · rename_i op t x ho;have hx:(act n f).eval x=ev f x:=ev_act (hin x (by simp [ho,Op.operands]));obtain ⟨v,w',hr,hk⟩:=h.out;have hrun:(execOp (act n f).eval o).run P w = .ok (.value v) w':=by
          unfold execOp;simp only [ho,hx];simp [hr]
        unfold Oper.wp;rw [hrun];exact hL' _ _ hk
      · rename_i s t x ho;have hx:(act n f).eval x=ev f x:=ev_act (hin x (by simp [ho,Op.operands]));obtain ⟨v,w',hr,hk⟩:=h.out;have hrun:(execOp (act n f).eval o).run P w = .ok (.value v) w':=by
          unfold execOp;simp only [ho,hx];simp [hr]
        unfold Oper.wp;rw [hrun];exact hL' _ _ hk
      · rename_i t ps ho;have hps:(ps.map fun p:Nat×Operand=>(p.1,(act n f).eval p.2))=ps.map fun p=>(p.1,ev f p.2):=List.map_congr_left fun p hp=>by
          rw [ev_act (hin p.2 (by simp [ho,Op.operands];exact ⟨p.1,hp⟩))]
        obtain ⟨v,w',hr,hk⟩:=h.out;have hrun:(execOp (act n f).eval o).run P w = .ok (.value v) w':=by
          unfold execOp;simp only [ho];simp [hps,hr]
        unfold Oper.wp;rw [hrun];exact hL' _ _ hk
      · rename_i t k ps ho;have hps:(ps.map fun p:Nat×Operand=>(p.1,(act n f).eval p.2))=ps.map fun p=>(p.1,ev f p.2):=List.map_congr_left fun p hp=>by
          rw [ev_act (hin p.2 (by simp [ho,Op.operands];exact ⟨p.1,hp⟩))]
        obtain ⟨v,w',hr,hk⟩:=h.out;have hrun:(execOp (act n f).eval o).run P w = .ok (.value v) w':=by
          unfold execOp;simp only [ho];simp [hps,hr]
        unfold Oper.wp;rw [hrun];exact hL' _ _ hk
      · rename_i t x y ho;have hx:(act n f).eval x=ev f x:=ev_act (hin x (by simp [ho,Op.operands]));have hy:(act n f).eval y=ev f y:=ev_act (hin y (by simp [ho,Op.operands]));obtain ⟨v,w',hr,hk⟩:=h.out;have hrun:(execOp (act n f).eval o).run P w = .ok (.value v) w':=by
          unfold execOp;simp only [ho,hx,hy];simp [hr]
        unfold Oper.wp;rw [hrun];exact hL' _ _ hk
      · rename_i t r ho;have hps:r.map (act n f).eval=r.map (ev f):=by
          cases r with
          | none=>rfl
          | some x=>simp only [Option.map_some];rw [ev_act (hin x (by simp [ho,Op.operands]))]
        obtain ⟨v,w',hr,hk⟩:=h.out;have hrun:(execOp (act n f).eval o).run P w = .ok (.value v) w':=by
          unfold execOp;simp only [ho,hps];simp [hr]
        unfold Oper.wp;rw [hrun];exact hL' _ _ hk
      · rename_i t x ho;have hx:(act n f).eval x=ev f x:=ev_act (hin x (by simp [ho,Op.operands]));obtain ⟨v,w',hr,hk⟩:=h.out;have hrun:(execOp (act n f).eval o).run P w = .ok (.value v) w':=by
          unfold execOp;simp only [ho,hx];simp [hr]
        unfold Oper.wp;rw [hrun];exact hL' _ _ hk
      · rename_i t x lo hi mx ho;have hx:(act n f).eval x=ev f x:=ev_act (hin x (by simp [ho,Op.operands]));have hlo:lo.map (act n f).eval=lo.map (ev f):=by
          cases lo with
          | none=>rfl
          | some y=>simp only [Option.map_some];rw [ev_act (hin y (by simp [ho,Op.operands]))]
        have hhi:hi.map (act n f).eval=hi.map (ev f):=by
          cases hi with
          | none=>rfl
          | some y=>simp only [Option.map_some];rw [ev_act (hin y (by simp [ho,Op.operands]))]
        have hmx:mx.map (act n f).eval=mx.map (ev f):=by
          cases mx with
          | none=>rfl
          | some y=>simp only [Option.map_some];rw [ev_act (hin y (by simp [ho,Op.operands]))]
        obtain ⟨v,w',hr,hk⟩:=h.out;have hrun:(execOp (act n f).eval o).run P w = .ok (.value v) w':=by
          unfold execOp;simp only [ho,hx,hlo,hhi,hmx];simp [hr]
        unfold Oper.wp;rw [hrun];exact hL' _ _ hk
      · rename_i t x i ho;have hx:(act n f).eval x=ev f x:=ev_act (hin x (by simp [ho,Op.operands]));obtain ⟨v,w',hr,hk⟩:=h.out;have hrun:(execOp (act n f).eval o).run P w = .ok (.value v) w':=by
          unfold execOp;simp only [ho,hx];simp [hr]
        unfold Oper.wp;rw [hrun];exact hL' _ _ hk
      · rename_i b as ats ho;have has:as.map (act n f).eval=as.map (ev f):=map_eval fun y hy=>hin y (by simp [ho,Op.operands,Call.operands];exact hy);obtain ⟨v,w',hr,hk⟩:=h.out;split at hk
        · rename_i v;have hrun:(execOp (act n f).eval o).run P w = .ok (.value v) w':=by
            unfold execOp;simp only [ho];have e1:(Array.mk as).map (act n f).eval=(as.map (ev f)).toArray:=by
              apply Array.toList_inj.1;simp only [Array.toList_map];exact has
            simp only [resolve,e1,Sem.run_bind,Sem.run_pure,Result.andThen_ok,invoke];refine (congrArg (fun c=>Sem.run P (builtin b ats o.type c (as.map (ev f)).toArray) w) ?_).trans hr;apply Array.toList_inj.1;simp only [Array.toList_map];apply List.map_congr_left;intro x _;cases x<;>rfl
          unfold Oper.wp;rw [hrun];exact hL' _ _ hk
        · exact hk.elim
      · unfold OpK at h;exact h L Q fun v w' hv=>hL' _ _ hv
theorem vcOps_sound {P:Program} {T:Tab} (hT:T.fok P=true) {n:Nat} {all:Array Oper} (hok:okOps n all=true) {K:Fr→World→Prop} {Q:Exit→Act→World→Prop}
    (hQ:∀ f w,K f w→Q .normal (act n f) w):∀ (m i:Nat) (f:Fr) (w:World),i+m=all.size→vcOps P T n all.toList (all.toList.drop i) f w K→wpOps P all Q (List.range' i m) (act n f) w
  | 0,i,f,w,hi,h=>by
    have:all.toList.drop i=[]:=by apply List.drop_eq_nil_of_le;simp;omega
    rw [this,vcOps_nil] at h;simpa [wpOps] using hQ _ _ h
  | m+1,i,f,w,hi,h=>by
    have hlt:i<all.toList.length:=by simp;omega
    rw [List.drop_eq_getElem_cons hlt] at h;have ho:all[i]? = some (all[i]'(by simpa using hlt)):=by simp
    have hoki:okOper n all (all[i]'(by simpa using hlt))=true:=by
      unfold okOps at hok;rw [List.all_eq_true] at hok;exact hok _ (by simp)
    rw [vcOps_cons] at h;have hg:=vcGuard_sound hoki (by simpa using h);simp only [List.range'_succ,wpOps,ho];split
    · rename_i hw;rw [if_pos hw] at hg;left;exact vcOne_sound hT hoki hg fun f w hk=>vcOps_sound hT hok hQ m (i+1) f w (by omega) hk
    · rename_i hw;rw [if_neg hw,putK_iff] at hg;rw [act_puto];exact vcOps_sound hT hok hQ m (i+1) _ w (by omega) hg
def lift (n:Nat) (Kn:Fr→World→Prop) (Ke:Nat→Fr→World→Prop) (Kr:Fr→World→Prop):Exit→Act→World→Prop
  | .normal,a,w=>∃ f,a=act n f∧Kn f w
  | .exit id,a,w=>∃ f,a=act n f∧Ke id f w
  | .ret,a,w=>∃ f,a=act n f∧Kr f w
  | _,_,_=>False
@[irreducible] def LoopK (P:Program) (n:Nat) (body:Code) (f:Fr) (w:World) (Kn:Fr→World→Prop) (Ke:Nat→Fr→World→Prop) (Kr:Fr→World→Prop):Prop :=
  (Code.loop body).wp P (lift n Kn Ke Kr) (act n f) w
@[irreducible] def DrawK (P:Program) (n:Nat) (ops:Array Oper) (f:Fr) (w:World) (K:Fr→World→Prop):Prop :=
  ∀ id,(Code.region id ops true).wp P (lift n K (fun _ _ _=>False) (fun _ _=>False)) (act n f) w
noncomputable def vc (P:Program) (T:Tab) (n:Nat) (c:Code):Fr→World→(Fr→World→Prop)→(Nat→Fr→World→Prop)→(Fr→World→Prop)→Prop :=
  Code.rec (motive:=fun _=>Fr→World→(Fr→World→Prop)→(Nat→Fr→World→Prop)→(Fr→World→Prop)→Prop)
    (fun f w Kn _ _=>Kn f w)
    (fun _ ops draw f w Kn _ _=>match draw with
      | false=>vcOps P T n ops.toList ops.toList f w Kn
      | true=>DrawK P n ops f w Kn)
    (fun _ _ iha ihb f w Kn Ke Kr=>iha f w (fun f w=>ihb f w Kn Ke Kr) Ke Kr)
    (fun c _ _ iha ihb f w Kn Ke Kr=>match ev f c with
      | .bool t=>IfB t (iha f w Kn Ke Kr) (ihb f w Kn Ke Kr)
      | _=>False)
    (fun id _ ih f w Kn Ke Kr=>ih f w Kn (fun i f w=>bif Nat.beq i id then Kn f w else Ke i f w) Kr)
    (fun body _ f w Kn Ke Kr=>LoopK P n body f w Kn Ke Kr)
    (fun _ _ _ _ _ _ _ _ _ _ _=>False)
    (fun id f w _ Ke _=>Ke id f w)
    (fun _ _ _ _ _ _ _=>False)
    (fun _ f w Kn _ _=>Kn f w)
    (fun _ _ _ _ _ _=>False)
    (fun f w _ _ Kr=>Kr f w)
    (fun _ _ _ _ _ _=>False) c
section
variable (P:Program) (T:Tab) (n:Nat) (f:Fr) (w:World) (Kn:Fr→World→Prop) (Ke:Nat→Fr→World→Prop) (Kr:Fr→World→Prop)
theorem vc_region (id:Nat) (ops:Array Oper):vc P T n (.region id ops false) f w Kn Ke Kr=vcOps P T n ops.toList ops.toList f w Kn:=rfl
theorem vc_region_draw (id:Nat) (ops:Array Oper):vc P T n (.region id ops true) f w Kn Ke Kr=DrawK P n ops f w Kn:=rfl
theorem vc_cond (c : Operand) (a b : Code) : vc P T n (.cond c a b) f w Kn Ke Kr = (match ev f c with
      | .bool t=>IfB t (vc P T n a f w Kn Ke Kr) (vc P T n b f w Kn Ke Kr)
      | _=>False):=rfl
theorem vc_loop (b:Code):vc P T n (.loop b) f w Kn Ke Kr=LoopK P n b f w Kn Ke Kr:=rfl
end
def okCode (n:Nat):Code→Bool
  | .region _ ops _=>okOps n ops
  | .seq a b=>okCode n a && okCode n b
  | .cond c a b=>okOpd n c && okCode n a && okCode n b
  | .block _ b=>okCode n b
  | .loop b=>okCode n b
  | _=>true
theorem vc_sound {P:Program} {T:Tab} (hT:T.fok P=true) {n:Nat}:∀ (c:Code) (f:Fr) (w:World) (Kn:Fr→World→Prop) (Ke:Nat→Fr→World→Prop) (Kr:Fr→World→Prop),
    okCode n c=true→vc P T n c f w Kn Ke Kr→c.wp P (lift n Kn Ke Kr) (act n f) w
  | .skip,f,w,Kn,Ke,Kr,_,h=>wp_skip ⟨f,rfl,h⟩
  | .label _,f,w,Kn,Ke,Kr,_,h=>wp_label ⟨f,rfl,h⟩
  | .region _ ops false,f,w,Kn,Ke,Kr,hok,h=>by
    apply wp_region;have:=vcOps_sound hT (Q:=lift n Kn Ke Kr) (K:=Kn) (all:=ops) hok (fun f w hk=>⟨f,rfl,hk⟩) ops.size 0 f w (by omega) (by rw [vc_region] at h;simpa using h);simpa [List.range_eq_range'] using this
  | .region id ops true,f,w,Kn,Ke,Kr,_,h=>by
    rw [vc_region_draw] at h;unfold DrawK at h;refine wp_mono (h id) fun e a w hq=>?_;cases e<;>simp only [lift] at hq ⊢<;>first | exact hq | (obtain ⟨_,_,hq⟩:=hq;exact hq.elim) | exact hq.elim
  | .seq a b,f,w,Kn,Ke,Kr,hok,h=>by
    simp only [okCode,Bool.and_eq_true] at hok;apply wp_seq;refine wp_mono (vc_sound hT a f w _ Ke Kr hok.1 h) fun e a' w' hq=>?_;cases e with
    | normal =>
      obtain ⟨f',rfl,hb⟩:=hq;exact vc_sound hT b f' w' Kn Ke Kr hok.2 hb
    | _=>exact hq
  | .cond c a b,f,w,Kn,Ke,Kr,hok,h=>by
    simp only [okCode,Bool.and_eq_true] at hok;rw [vc_cond] at h;split at h
    · rename_i t ht;refine wp_cond (t:=t) (by rw [ev_act hok.1.1];exact ht) ?_;cases t
      · exact vc_sound hT b f w Kn Ke Kr hok.2 h
      · exact vc_sound hT a f w Kn Ke Kr hok.1.2 h
    · exact h.elim
  | .block id body,f,w,Kn,Ke,Kr,hok,h=>by
    apply wp_block;refine wp_mono (vc_sound hT body f w _ _ _ hok h) fun e a' w' hq=>?_;cases e with
    | exit i =>
      obtain ⟨f',rfl,hq⟩:=hq;simp only [Exit.inBlock];cases hb:Nat.beq i id with
      | true =>
        rw [hb] at hq;rw [if_pos (Nat.eq_of_beq_eq_true hb)];exact ⟨f',rfl,hq⟩
      | false =>
        rw [hb] at hq;rw [if_neg (fun e=>by subst e;simp at hb)];exact ⟨f',rfl,hq⟩
    | _=>exact hq
  | .loop body,f,w,Kn,Ke,Kr,_,h=>by
    rw [vc_loop] at h;unfold LoopK at h;exact h
  | .exit id,f,w,Kn,Ke,Kr,_,h=>wp_exit ⟨f,rfl,h⟩
  | .ret,f,w,Kn,Ke,Kr,_,h=>wp_ret ⟨f,rfl,h⟩
  | .rangeFunc ..,_,_,_,_,_,_,h=>h.elim
  | .scope ..,_,_,_,_,_,_,h=>h.elim
  | .goto ..,_,_,_,_,_,_,h=>h.elim
  | .refuse ..,_,_,_,_,_,_,h=>h.elim
def upds (g:Fr):List Nat→List Value→Fr
  | s :: ss,v :: vs=>upd (upds g ss vs) s v
  | _,_=>g
theorem upds_self (f:Fr):∀ l:List Nat,upds f l (l.map f)=f
  | []=>rfl
  | s :: ss=>by simp only [List.map,upds,upds_self f ss];exact upd_self f s
theorem LoopK.rule {α:Type} (slots:List Nat) (I:α→List Value→World→Prop) (μ:α→Nat) {P:Program} (T:Tab) (hT:T.fok P=true) {n:Nat} {body:Code} {f:Fr} {w:World}
    {Kn:Fr→World→Prop} {Ke:Nat→Fr→World→Prop} {Kr:Fr→World→Prop} (hok:okCode n body=true) (a0:α) (h0:I a0 (slots.map f) w)
    (step:∀ a g vs w,I a vs w→vc P T n body (upds g slots vs) w (fun f' w'=>∃ a',μ a'<μ a∧I a' (slots.map f') w') Ke Kr):LoopK P n body f w Kn Ke Kr:=by
  unfold LoopK;intro b k cs;have key:∀ m a f w,μ a=m→I a (slots.map f) w →
      ∃ e a' w',lift n Kn Ke Kr e a' w'∧Arrives P (lone (b.at (act n f) (.code body :: .inLoop body :: k)) cs w) b k cs e a' w':=by
    intro m;induction m using Nat.strongRecOn with
    | _ m ih =>
      intro a f w hm hI;have hs:=step a f (slots.map f) w hI;rw [upds_self] at hs;obtain ⟨e,a₁,w₁,hq,harr⟩:=vc_sound hT body f w _ _ _ hok hs b (.inLoop body :: k) cs;cases e with
      | normal =>
        obtain ⟨f',rfl,a',hlt,hI'⟩:=hq;obtain ⟨e₂,a₂,w₂,hq₂,harr₂⟩:=ih (μ a') (hm▸hlt) a' f' w₁ rfl hI';exact ⟨e₂,a₂,w₂,hq₂,.of_steps (Steps.trans harr (.one step_inLoop)) harr₂⟩
      | exit id=>exact ⟨.exit id,a₁,w₁,hq,.pass (x := .inLoop body) rfl (fun _ _=>.inl (by simp)) harr⟩
      | ret=>exact ⟨.ret,a₁,w₁,hq,.pass (x := .inLoop body) rfl (fun _ _=>.inl (by simp)) harr⟩
      | goto l=>exact hq.elim
      | panic ch=>exact hq.elim
      | outgrown=>exact hq.elim
  obtain ⟨e,a',w',hq,harr⟩:=key _ a0 f w rfl h0;exact ⟨e,a',w',hq,.of_steps (.one step_loop) harr⟩
@[irreducible] def CellK (P:Program) (t:Nat) (x:Value) (w:World) (K:Value→Prop):Prop :=
  ∃ v,(Instr.loadAt t x).run P w = .ok v w∧K v
theorem CellK.of {P:Program} {t:Nat} {x:Value} {w:World} {v:Value} {K:Value→Prop} (h:(Instr.loadAt t x).run P w = .ok v w) (hk:K v):CellK P t x w K:=by
  unfold CellK;exact ⟨v,h,hk⟩
theorem loadAt_as {P:Program} {t:Nat} {x v:Value} {w:World} (h:(Instr.loadAt t x).run P w = .ok v w):(do loadVar t (← asAddr x):Sem Value).run P w = .ok v w:=by
  unfold Instr.loadAt at h;cases x with
  | pointer a =>
    cases a with
    | none=>simp [Instr.sureAddr] at h
    | some a=>simpa [Instr.sureAddr,asAddr] using h
  | _=>simp [Instr.sureAddr] at h
noncomputable def rets (P:Program) (rs:List ResultVar) (f:Fr) (w:World):(List Value→Prop)→Prop :=
  List.rec (motive:=fun _=>(List Value→Prop)→Prop) (fun K=>K [])
    (fun r _ ih K=>match r with
      | .tmp t=>force (f t) fun v=>ih fun l=>K (v :: l)
      | .cell a t=>CellK P t (f a) w fun v=>ih fun l=>K (v :: l)) rs
theorem rets_tmp (P:Program) (t:Nat) (rs:List ResultVar) (f:Fr) (w:World) (K:List Value→Prop):rets P (.tmp t :: rs) f w K=force (f t) fun v=>rets P rs f w fun l=>K (v :: l):=rfl
theorem rets_cell (P:Program) (a t:Nat) (rs:List ResultVar) (f:Fr) (w:World) (K:List Value→Prop):rets P (.cell a t :: rs) f w K=CellK P t (f a) w fun v=>rets P rs f w fun l=>K (v :: l):=rfl
def tupled:List Value→Value
  | [v]=>v
  | vs=>.tuple vs.toArray
def okRes (n:Nat):ResultVar→Bool
  | .tmp t=>Nat.blt t n
  | .cell a _=>Nat.blt a n
def resOne (tmps:Array Value):ResultVar→Sem Value
  | .tmp t=>pure (tmps.getD t undef)
  | .cell a t=>do loadVar t (← asAddr (tmps.getD a undef))
theorem rets_run {P:Program} {n:Nat} {f:Fr} {w:World}:∀ (rs:List ResultVar) (K:List Value→Prop),rs.all (okRes n)=true→rets P rs f w K →
    ∃ l,(rs.mapM (resOne (act n f).tmps)).run P w = .ok l w∧K l
  | [],K,_,h=>⟨[],by simp,h⟩
  | .tmp t :: rs,K,hok,h=>by
    simp only [List.all_cons,Bool.and_eq_true,okRes,Nat.blt_eq] at hok;rw [rets_tmp,force_iff] at h;obtain ⟨l,hl,hk⟩:=rets_run rs _ hok.2 h;refine ⟨f t :: l,?_,hk⟩;have:=act_getD n f hok.1 undef;simp only [List.mapM_cons,resOne,this];simp [hl]
  | .cell a t :: rs,K,hok,h=>by
    simp only [List.all_cons,Bool.and_eq_true,okRes,Nat.blt_eq] at hok;rw [rets_cell] at h;unfold CellK at h;obtain ⟨v,hr,hk⟩:=h;obtain ⟨l,hl,hk⟩:=rets_run rs _ hok.2 hk;refine ⟨v :: l,?_,hk⟩;have:=act_getD n f hok.1 undef;have hr:=loadAt_as hr;simp only [List.mapM_cons,resOne,this];rw [Sem.run_bind,hr];simp [hl]
theorem results_run {P:Program} {n:Nat} {f:Fr} {w:World} {fn:Func} {K:List Value→Prop} (hok:fn.results.toList.all (okRes n)=true) (h:rets P fn.results.toList f w K) :
    ∃ l,(results fn (act n f).tmps).run P w = .ok (tupled l) w∧K l:=by
  obtain ⟨l,hl,hk⟩:=rets_run _ _ hok h;refine ⟨l,?_,hk⟩;have e:results fn (act n f).tmps=(do
      let vs ← fn.results.mapM (resOne (act n f).tmps)
      pure (if h:vs.size=1 then vs[0] else .tuple vs)):=by
    unfold results;congr 1
  rw [e];have e2:(fn.results.mapM (resOne (act n f).tmps)).run P w = .ok l.toArray w:=by
    rw [Array.mapM_eq_mapM_toList];simp [hl]
  simp only [Sem.run_bind,e2]
  match l with
  | []=>simp [tupled]
  | [v]=>simp [tupled]
  | a :: b :: r=>simp [tupled]
def frameOf (args:List Value):Fr:=fun i=>args.getD i undef
theorem entry_act {args:List Value} {n:Nat} (h:args.length≤n) :
    ({ tmps:=args.toArray++Array.replicate (n - args.toArray.size) undef,defers:=[] }:Act)=act n (frameOf args):=by
  simp only [act,Act.mk.injEq,and_true];apply Array.ext
  · simp;omega
  · intro i h1 h2;simp only [Array.getElem_ofFn,frameOf];rw [Array.getElem_append];split
    · rename_i hlt;simp at hlt;simp [hlt]
    · rename_i hlt;simp at hlt;simp [hlt]
def okFn (fn:Func) (args:Nat):Bool :=
  (match fn.body with | some c=>okCode fn.ntmps c | none=>false) && fn.results.toList.all (okRes fn.ntmps) && Nat.ble args fn.ntmps && fn.name != "runtime.NumGoroutine"
theorem Does.of_vc {P:Program} {T:Tab} (hT:T.fok P=true) {g:Nat} {fn:Func} (hf:P.funcs[g]? = some fn) {c:Code} {n:Nat} {rs:List ResultVar} (hb:fn.body=some c) (hn:fn.ntmps=n) (hrs:fn.results.toList=rs)
    {args:List Value} (hok:okFn fn args.length=true) {w:World} {R:Value→World→Prop}
    (h:vc P T n c (frameOf args) w (fun f w=>rets P rs f w fun l=>force (tupled l) fun v=>R v w) (fun _ _ _=>False) (fun f w=>rets P rs f w fun l=>force (tupled l) fun v=>R v w)):Does P g args w R:=by
  subst hn;subst hrs;simp only [okFn,hb,Bool.and_eq_true,Nat.ble_eq] at hok;obtain ⟨⟨⟨h1,h2⟩,h3⟩,h4⟩:=hok;apply Does.of_calls
  · unfold isFn;rw [hf];simp only [hb,Option.isSome_some,Bool.true_and];exact h4
  · apply calls_of_wp hf hb;rw [entry_act h3];refine wp_mono (vc_sound hT c _ w _ _ _ h1 h) fun e a w' hq=>?_;cases e with
    | normal =>
      obtain ⟨f,rfl,hk⟩:=hq;obtain ⟨l,hl,hk⟩:=results_run h2 hk;rw [force_iff] at hk;exact ⟨rfl,_,hl,_,rfl,hk⟩
    | ret =>
      obtain ⟨f,rfl,hk⟩:=hq;obtain ⟨l,hl,hk⟩:=results_run h2 hk;rw [force_iff] at hk;exact ⟨rfl,_,hl,_,rfl,hk⟩
    | exit id=>obtain ⟨f,rfl,hk⟩:=hq;exact hk.elim
    | goto l=>exact hq.elim
    | panic ch=>exact hq.elim
    | outgrown=>exact hq.elim
end Go.Vc
namespace Go.Vc
open Go Go.RowKit
abbrev Ext (w w':World):Prop:=Below w.heap.size w w'
theorem Ext.refl (w:World):Ext w w:=Below.refl _ _
theorem Ext.trans {a b c:World} (h:Ext a b) (k:Ext b c):Ext a c:=Below.trans h (Below.mono k h.size)
structure Chg (b:Nat) (w w':World):Prop where
  os:w'.os=w.os
  tape:w'.tape=w.tape
  output:w'.output=w.output
  size:w'.heap.size=w.heap.size
  block:∀ k,k≠b→w'.heap[k]? = w.heap[k]?
structure Mod (S:Nat→Prop) (w w':World):Prop where
  os:w'.os=w.os
  tape:w'.tape=w.tape
  output:w'.output=w.output
  size:w.heap.size≤w'.heap.size
  block:∀ k,¬ S k→k<w.heap.size→w'.heap[k]? = w.heap[k]?
abbrev But (b:Nat) (w w':World):Prop:=Mod (fun k=>k=b) w w'
theorem Mod.refl (S:Nat→Prop) (w:World):Mod S w w:=⟨rfl,rfl,rfl,Nat.le_refl _,fun _ _ _=>rfl⟩
theorem Mod.trans {S:Nat→Prop} {x y z:World} (h:Mod S x y) (k:Mod S y z):Mod S x z :=
  ⟨k.os.trans h.os,k.tape.trans h.tape,k.output.trans h.output,Nat.le_trans h.size k.size,
   fun i hi hl=>(k.block i hi (Nat.lt_of_lt_of_le hl h.size)).trans (h.block i hi hl)⟩
theorem Mod.mono {S S':Nat→Prop} {w w':World} (h:Mod S w w') (hs:∀ k,S k→S' k):Mod S' w w' :=
  ⟨h.os,h.tape,h.output,h.size,fun k hk hl=>h.block k (fun h'=>hk (hs k h')) hl⟩
theorem Chg.but {b:Nat} {w w':World} (h:Chg b w w'):But b w w':=⟨h.os,h.tape,h.output,Nat.le_of_eq h.size.symm,fun k hk _=>h.block k hk⟩
theorem Ext.mod {S:Nat→Prop} {w w':World} (h:Ext w w'):Mod S w w':=⟨h.os,h.tape,h.output,h.size,fun k _ hl=>h.block k hl⟩
theorem Ext.mod_trans {S:Nat→Prop} {a w w':World} (e:Ext a w) (h:Mod S w w') (hb:∀ k,S k→a.heap.size≤k):Ext a w' :=
  Below.trans e ⟨h.os,h.tape,h.output,h.size,fun k hk=>h.block k (fun hs=>by have:=hb k hs;omega) (Nat.lt_of_lt_of_le hk e.size)⟩
theorem Ext.but_trans {b:Nat} {a w w':World} (e:Ext a w) (h:But b w w') (hb:a.heap.size≤b):Ext a w':=Ext.mod_trans e h (fun k hk=>by omega)
def Cells (w:World) (b o:Nat) (vs:List Value):Prop:=∀ j v,vs[j]? = some v→w.cell? ⟨b,o+j,none⟩=some v
def Blk (w:World) (b:Nat) (cs:List Value) (t:Nat):Prop:=w.heap[b]? = some (.cells cs.toArray t (0,0))
theorem cell_lt {w:World} {a:Addr} {v:Value} (h:w.cell? a=some v):a.block<w.heap.size:=by
  unfold World.cell? at h;split at h
  · rename_i c e f hc;exact (Array.getElem?_eq_some_iff.1 hc).1
  · cases h
theorem cell_of_block {w w':World} {a:Addr} (h:w'.heap[a.block]? = w.heap[a.block]?):w'.cell? a=w.cell? a:=by
  unfold World.cell?;rw [h]
theorem Cells.ext {w w':World} {b o:Nat} {vs:List Value} (h:Cells w b o vs) (e:Ext w w'):Cells w' b o vs:=by
  intro j v hj;have h1:=h j v hj;rw [← h1];exact cell_of_block (e.block _ (cell_lt h1))
theorem Cells.mod {S:Nat→Prop} {w w':World} {b o:Nat} {vs:List Value} (h:Cells w b o vs) (e:Mod S w w') (hc:¬ S b):Cells w' b o vs:=by
  intro j v hj;have h1:=h j v hj;rw [← h1];exact cell_of_block (e.block _ hc (cell_lt h1))
theorem Blk.lt {w:World} {b t:Nat} {cs:List Value} (h:Blk w b cs t):b<w.heap.size:=(Array.getElem?_eq_some_iff.1 h).1
theorem Blk.ext {w w':World} {b t:Nat} {cs:List Value} (h:Blk w b cs t) (e:Ext w w'):Blk w' b cs t:=by
  unfold Blk at *;rw [e.block _ (Blk.lt h)];exact h
theorem Blk.mod {S:Nat→Prop} {w w':World} {b t:Nat} {cs:List Value} (h:Blk w b cs t) (e:Mod S w w') (hc:¬ S b):Blk w' b cs t:=by
  unfold Blk at *;rw [e.block _ hc (Blk.lt h)];exact h
theorem Blk.cells {w:World} {b t:Nat} {cs:List Value} (h:Blk w b cs t):Cells w b 0 cs:=by
  intro j v hj;unfold Blk at h;unfold World.cell?;simp only [h];simpa using hj
theorem Cells.drop {w:World} {b o:Nat} {vs:List Value} (h:Cells w b o vs) (k:Nat):Cells w b (o+k) (vs.drop k):=by
  intro j v hj;rw [List.getElem?_drop] at hj;have:=h (k+j) v hj;rwa [← Nat.add_assoc] at this
theorem Cells.take {w:World} {b o:Nat} {vs:List Value} (h:Cells w b o vs) (k:Nat):Cells w b o (vs.take k):=by
  intro j v hj;rw [List.getElem?_take] at hj;split at hj
  · exact h j v hj
  · cases hj
theorem Cells.append {w:World} {b o:Nat} {us vs:List Value}:Cells w b o (us++vs)↔Cells w b o us∧Cells w b (o+us.length) vs:=by
  constructor
  · intro h;refine ⟨fun j v hj=>h j v ?_,fun j v hj=>?_⟩
    · have hl:j<us.length:=(List.getElem?_eq_some_iff.1 hj).1;rw [List.getElem?_append_left hl];exact hj
    · have:=h (us.length+j) v (by rw [List.getElem?_append_right (by omega)];simpa using hj);rwa [← Nat.add_assoc] at this
  · rintro ⟨h1,h2⟩ j v hj;rcases Nat.lt_or_ge j us.length with hl | hl
    · rw [List.getElem?_append_left hl] at hj;exact h1 j v hj
    · rw [List.getElem?_append_right hl] at hj;have:=h2 _ _ hj;have e:o+us.length+(j - us.length)=o+j:=by omega
      rwa [e] at this
def cellish:Value→Bool
  | .agg _ | .tuple _=>false
  | _=>true
section
variable {P:Program}
theorem oneCell_spec {t:Nat} (h:oneCell P t=true):∃ d inf,P.underlying t=some d∧P.info? t=some inf∧inf.size=1∧(isAgg t).run P=fun w=>.ok false w:=by
  unfold oneCell at h;split at h<;>try cases h
  rename_i d inf h1 h2 hu hi;refine ⟨_,_,hu,hi,by simpa using h,?_⟩;funext w;simp only [isAgg,Sem.run_bind,run_underlying hu,Result.andThen_ok];rfl
theorem aggSize_spec {t n:Nat} (h:aggSize P t=some n):∃ inf,P.info? t=some inf∧inf.size=n∧(isAgg t).run P=fun w=>.ok true w:=by
  unfold aggSize at h;split at h<;>try cases h
  · rename_i fs inf hu hi;refine ⟨_,hi,rfl,?_⟩;funext w;simp [isAgg,run_underlying hu]
  · rename_i k e inf hu hi;refine ⟨_,hi,rfl,?_⟩;funext w;simp [isAgg,run_underlying hu]
theorem run_load1 {t:Nat} (ht:oneCell P t=true) {w:World} {a:Addr} {v:Value} (h:w.cell? a=some v):(Instr.loadAt t (.pointer (some a))).run P w = .ok v w:=by
  obtain ⟨d,inf,hu,hi,hs,hag⟩:=oneCell_spec ht;have hag:=congrFun hag w;simp only [Instr.loadAt,Instr.sureAddr,loadVar,Sem.run_bind,Sem.run_pure,Result.andThen_ok];rw [hag];simp [load,Sem.run,h]
theorem run_loadCellsFrom {w:World} {b o:Nat}:∀ (n i:Nat) (acc:Array Value) (vs:List Value),vs.length=n→Cells w b (o+i) vs →
    (loadCellsFrom ⟨b,o,none⟩ i n acc).run P w = .ok (acc++vs.toArray) w
  | 0,i,acc,vs,hl,_=>by
    have:vs=[]:=List.eq_nil_of_length_eq_zero hl;subst this;simp [loadCellsFrom]
  | n+1,i,acc,v :: vs,hl,hc=>by
    have h0:=hc 0 v (by simp);simp only [Nat.add_zero] at h0;simp only [loadCellsFrom,load,Sem.run_bind,Sem.run,addr_add_none,h0,Result.andThen_ok];rw [run_loadCellsFrom n (i+1) _ vs (by simpa using hl) (by
      have:=Cells.drop hc 1;simpa [Nat.add_assoc] using this)]
    simp
theorem run_loadAgg {t n:Nat} (ht:aggSize P t=some n) {w:World} {b o:Nat} {vs:List Value} (hl:vs.length=n) (h:Cells w b o vs) :
    (Instr.loadAt t (.pointer (some ⟨b,o,none⟩))).run P w = .ok (.agg vs.toArray) w:=by
  obtain ⟨inf,hi,hs,hag⟩:=aggSize_spec ht;have hag:=congrFun hag w;simp only [Instr.loadAt,Instr.sureAddr,loadVar,Sem.run_bind,Sem.run_pure,Result.andThen_ok];rw [hag];have:=run_loadCellsFrom (P:=P) (w:=w) (b:=b) (o:=o) n 0 #[] vs hl (by simpa using h);simp [sizeOf,typeInfo,hi,hs,loadCells,this]
theorem Blk.set {w:World} {b t k:Nat} {cs:List Value} (h:Blk w b cs t) (v:Value):Blk (w.setCell ⟨b,k,none⟩ v) b (cs.set k v) t∧Chg b w (w.setCell ⟨b,k,none⟩ v):=by
  unfold Blk at *;refine ⟨?_,⟨rfl,rfl,rfl,by simp [World.setCell],fun i hi=>Below.heap_setCell _ _ _ _ hi⟩⟩;simp only [World.setCell,Array.getElem?_modify];simp [h]
theorem run_store {w:World} {b t k:Nat} {cs:List Value} (h:Blk w b cs t) (hk:k<cs.length) {v:Value} (hv:cellish v=true) :
    (store ⟨b,k,none⟩ v).run P w = .ok () (w.setCell ⟨b,k,none⟩ v):=by
  have hc:w.cell? ⟨b,k,none⟩=some cs[k]:=by
    have:=h.cells k cs[k] (by simp);simpa using this
  have hf:w.frozen? ⟨b,k,none⟩=false:=by
    unfold Blk at h;unfold World.frozen?;simp [h]
  unfold store;cases v<;>simp only [cellish] at hv<;>simp [Sem.run,hc,hf]<;>cases hv
def splice (cs:List Value) (k:Nat):List Value→List Value
  | []=>cs
  | v :: vs=>splice (cs.set k v) (k+1) vs
theorem set_take_drop {α:Type} (cs:List α) (k:Nat) (v:α) (h:k<cs.length):cs.set k v=cs.take k++v :: cs.drop (k+1):=List.set_eq_take_append_cons_drop▸(if_pos h)
theorem splice_eq:∀ (vs:List Value) (cs:List Value) (k:Nat),k+vs.length≤cs.length→splice cs k vs=cs.take k++vs++cs.drop (k+vs.length)
  | [],cs,k,_=>by simp [splice]
  | v :: vs,cs,k,h=>by
    simp only [List.length_cons] at h;rw [splice,splice_eq vs _ _ (by simp;omega)];rw [set_take_drop cs k v (by omega)];have e1:(cs.take k++v :: cs.drop (k+1)).take (k+1)=cs.take k++[v]:=by
      rw [List.take_append];have:k - (cs.take k).length=0:=by simp;omega
      have h2:(cs.take k).length=k:=by simp;omega
      rw [h2,List.take_take];have h3:min (k+1) k=k:=by omega
      simp [h3]
    have e2:(cs.take k++v :: cs.drop (k+1)).drop (k+1+vs.length)=cs.drop (k+(vs.length+1)):=by
      have h2:(cs.take k).length=k:=by simp;omega
      rw [List.drop_append,h2,List.drop_eq_nil_of_le (by rw [h2];omega)];have:k+1+vs.length - k=vs.length+1:=by omega
      rw [this];simp only [List.nil_append,List.drop_succ_cons,List.drop_drop];congr 1;omega
    rw [e1,e2];simp
theorem run_storeCells {b t:Nat}:∀ (vs:List Value) (cs:List Value) (o i:Nat) (w:World),Blk w b cs t→o+i+vs.length≤cs.length→(∀ v∈vs,cellish v=true) →
    ∃ w',(storeCells ⟨b,o,none⟩ vs i).run P w = .ok () w'∧Blk w' b (splice cs (o+i) vs) t∧Chg b w w'
  | [],cs,o,i,w,h,_,_=>⟨w,by simp [storeCells],h,⟨rfl,rfl,rfl,rfl,fun _ _=>rfl⟩⟩
  | v :: vs,cs,o,i,w,h,hl,hv=>by
    simp only [List.length_cons] at hl;have h1:=run_store (P:=P) h (k:=o+i) (by omega) (hv v (by simp));obtain ⟨hb,hc⟩:=h.set (k:=o+i) v;obtain ⟨w',hr,hb',hc'⟩:=run_storeCells vs (cs.set (o+i) v) o (i+1) _ hb (by simp;omega) (fun u hu=>hv u (by simp [hu]));refine ⟨w',?_,?_,⟨hc'.os.trans hc.os,hc'.tape.trans hc.tape,hc'.output.trans hc.output,hc'.size.trans hc.size,fun k hk=>(hc'.block k hk).trans (hc.block k hk)⟩⟩
    · simp only [storeCells,Sem.run_bind,addr_add_none,h1,Result.andThen_ok];exact hr
    · rw [splice];exact hb'
theorem SemK.store1 {ty:Nat} (hty:oneCell P ty=true) {w:World} {b t k:Nat} {cs:List Value} (h:Blk w b cs t) (hk:k<cs.length) {v:Value} (hv:cellish v=true) {K:Unit→World→Prop}
    (hK:∀ w',Chg b w w'→Blk w' b (cs.set k v) t→K () w'):SemK P (Instr.storeAt ty (.pointer (some ⟨b,k,none⟩)) v) w K:=by
  obtain ⟨d,inf,hu,hi,hs,hag⟩:=oneCell_spec hty;obtain ⟨hb,hc⟩:=h.set (k:=k) v;refine SemK.of (w':=w.setCell ⟨b,k,none⟩ v) ?_ (hK _ hc hb);have hr:=run_store (P:=P) h hk hv;have hcells:v.cells = #[v]:=by cases v<;>first | rfl | cases hv
  simp [Instr.storeAt,Instr.sureAddr,storeVar,hcells,sizeOf,typeInfo,hi,hs,storeCells,addr_add_none,hr]
theorem SemK.storeAgg {ty n:Nat} (hty:aggSize P ty=some n) {w:World} {b t k:Nat} {cs:List Value} (h:Blk w b cs t) {vs:List Value} (hn:vs.length=n) (hk:k+n≤cs.length) (hv:∀ v∈vs,cellish v=true) {K:Unit→World→Prop}
    (hK:∀ w',Chg b w w'→Blk w' b (cs.take k++vs++cs.drop (k+n)) t→K () w'):SemK P (Instr.storeAt ty (.pointer (some ⟨b,k,none⟩)) (.agg ⟨vs⟩)) w K:=by
  obtain ⟨inf,hi,hs,hag⟩:=aggSize_spec hty;obtain ⟨w',hr,hb,hc⟩:=run_storeCells (P:=P) vs cs k 0 w h (by omega) hv;rw [Nat.add_zero,splice_eq _ _ _ (by omega),hn] at hb;refine SemK.of (w':=w') ?_ (hK _ hc hb);simp only [Instr.storeAt,Instr.sureAddr,storeVar,Value.cells,Sem.run_bind,Sem.run_pure,Result.andThen_ok,sizeOf,typeInfo];simp [hi,hs,hn,hr]
theorem SemK.load1 {ty:Nat} (hty:oneCell P ty=true) {w:World} {b o k:Nat} {vs:List Value} (h:Cells w b o vs) {v:Value} (hk:vs[k]? = some v) {K:Value→World→Prop} (hK:K v w) :
    SemK P (Instr.loadAt ty (.pointer (some ⟨b,o+k,none⟩))) w K:=SemK.of (run_load1 hty (h k v hk)) hK
theorem SemK.loadAgg {ty n:Nat} (hty:aggSize P ty=some n) {w:World} {b o:Nat} {vs:List Value} (h:Cells w b o vs) (hn:vs.length=n) {K:Value→World→Prop} (hK:K (.agg vs.toArray) w) :
    SemK P (Instr.loadAt ty (.pointer (some ⟨b,o,none⟩))) w K:=SemK.of (run_loadAgg hty hn h) hK
theorem alloc_ext (w:World) (o:Obj):Ext w (w.alloc o):=(Below.refl _ _).alloc (Nat.le_refl _) o
theorem alloc_blk (w:World) (cs:List Value) (t:Nat):Blk (w.alloc (.cells cs.toArray t)) w.heap.size cs t:=by
  unfold Blk;show (w.heap.push _)[w.heap.size]? = _;simp
theorem SemK.box {t:Nat} {v:Value} {w:World} {K:Value→World→Prop} (hK:∀ b w',w.heap.size≤b→b<w'.heap.size→Ext w w'→Blk w' b v.cells.toList t→K (.pointer (some ⟨b,0,none⟩)) w'):SemK P (Instr.box t v) w K:=by
  refine SemK.of (v := .pointer (some ⟨w.heap.size,0,none⟩)) (w':=w.alloc (.cells v.cells t)) ?_ (hK _ _ (Nat.le_refl _) ?_ (alloc_ext _ _) ?_)
  · simp only [Instr.box,newVar,newRow,newObj];rfl
  · show w.heap.size<(w.heap.push _).size;simp
  · exact alloc_blk w v.cells.toList t
theorem SemK.alloc {t:Nat} {z:Value} (hz:(P.info? t).bind (·.zero)=some z) {w:World} {K:Value→World→Prop} (hK:∀ b w',w.heap.size≤b→b<w'.heap.size→Ext w w'→Blk w' b z.cells.toList t→K (.pointer (some ⟨b,0,none⟩)) w') :
    SemK P (Instr.alloc t true (.tuple #[])) w K:=by
  rw [Option.bind_eq_some_iff] at hz;obtain ⟨inf,hi,hz⟩:=hz;refine SemK.of (v := .pointer (some ⟨w.heap.size,0,none⟩)) (w':=w.alloc (.cells z.cells t)) ?_ (hK _ _ (Nat.le_refl _) ?_ (alloc_ext _ _) ?_)
  · have h1:(zeroValue t).run P w = .ok z w:=by simp [zeroValue,typeInfo,hi,hz]
    simp only [Instr.alloc,Sem.run_bind,h1,newVar,newRow,newObj];rfl
  · show w.heap.size<(w.heap.push _).size;simp
  · exact alloc_blk w z.cells.toList t
theorem SemK.char {t:Nat} (ht:isStr P t=true) {s:ByteArray} {i:Int} {c:UInt8} (k:Nat) (hi:i=k) (hk:s.data.toList[k]? = some c) {kd:IntKind} {w:World} {K:Value→World→Prop} (hK:K (.int .u8 c.toNat) w) :
    SemK P (Instr.index t (.string s) (.int kd i)) w K:=by
  have hu:P.underlying t=some .string:=by
    unfold isStr at ht;split at ht<;>simp_all
  have hs:s[k]? = some c:=by
    have hlt:k<s.size:=by
      have:=(List.getElem?_eq_some_iff.1 hk).1;simpa using this
    rw [ByteArray.getElem?_lt' s k hlt];have:=(List.getElem?_eq_some_iff.1 hk).2;simp only [Option.some.injEq];rw [← this];rfl
  subst hi;refine SemK.of ?_ hK;simp [Instr.index,asIntOf,run_underlying hu,hs]
end
end Go.Vc
namespace Go.Vc
open Go Go.RowKit
def Arr {α:Type} (enc:α→List Value) (sz:Nat) (w:World) (a:Option Addr) (n:Nat) (xs:List α):Prop :=
  xs.length=n∧n≤maxLen∧∀ i x,xs[i]? = some x→∃ b o,a=some ⟨b,o,none⟩∧Cells w b (o+i * sz) (enc x)
theorem Arr.ext {α:Type} {enc:α→List Value} {sz:Nat} {w w':World} {a:Option Addr} {n:Nat} {xs:List α} (h:Arr enc sz w a n xs) (e:Ext w w'):Arr enc sz w' a n xs :=
  ⟨h.1,h.2.1,fun i x hi=>let ⟨b,o,ha,hc⟩:=h.2.2 i x hi;⟨b,o,ha,hc.ext e⟩⟩
theorem Arr.mod {α:Type} {enc:α→List Value} {sz:Nat} {S:Nat→Prop} {w w':World} {a:Option Addr} {n:Nat} {xs:List α} (h:Arr enc sz w a n xs) (e:Mod S w w') (hc:∀ x,a=some x→¬ S x.block):Arr enc sz w' a n xs :=
  ⟨h.1,h.2.1,fun i x hi=>let ⟨b,o,ha,hcs⟩:=h.2.2 i x hi;⟨b,o,ha,hcs.mod e (hc _ ha)⟩⟩
theorem Arr.len {α:Type} {enc:α→List Value} {sz:Nat} {w:World} {a:Option Addr} {n:Nat} {xs:List α} (h:Arr enc sz w a n xs):xs.length=n:=h.1
theorem Arr.le {α:Type} {enc:α→List Value} {sz:Nat} {w:World} {a:Option Addr} {n:Nat} {xs:List α} (h:Arr enc sz w a n xs):n≤9223372036854775807:=h.2.1
theorem Arr.nil {α:Type} {enc:α→List Value} {sz:Nat} {w:World} {a:Option Addr}:Arr enc sz w a 0 ([]:List α) :=
  ⟨rfl,Nat.zero_le _,fun _ _ h=>by simp at h⟩
def flat {α:Type} (enc:α→List Value) (xs:List α):List Value:=xs.flatMap enc
theorem flat_length {α:Type} {enc:α→List Value} {sz:Nat} (he:∀ x,(enc x).length=sz) (xs:List α):(flat enc xs).length=xs.length * sz:=by
  induction xs with
  | nil=>simp [flat]
  | cons x xs ih=>simp only [flat,List.flatMap_cons,List.length_append,List.length_cons] at *;rw [ih,he,Nat.add_mul];omega
theorem flat_append {α:Type} (enc:α→List Value) (xs ys:List α):flat enc (xs++ys)=flat enc xs++flat enc ys:=by simp [flat]
theorem flat_drop {α:Type} {enc:α→List Value} {sz:Nat} (he:∀ x,(enc x).length=sz):∀ (xs:List α) (i:Nat),(flat enc xs).drop (i * sz)=flat enc (xs.drop i)
  | xs,0=>by simp
  | [],i+1=>by simp [flat]
  | x :: xs,i+1=>by
    have h:=flat_drop he xs i;simp only [flat,List.flatMap_cons,List.drop_succ_cons] at *;rw [← h,Nat.add_mul,Nat.one_mul,Nat.add_comm,List.drop_append,he];rw [List.drop_eq_nil_of_le (by rw [he];omega)];simp
theorem Cells.elem {α:Type} {enc:α→List Value} {sz:Nat} (he:∀ x,(enc x).length=sz) {w:World} {b o:Nat} {xs:List α} {rest:List Value} (h:Cells w b o (flat enc xs++rest)) {i:Nat} {x:α} (hi:xs[i]? = some x) :
    Cells w b (o+i * sz) (enc x):=by
  have h1:=(Cells.append.1 h).1;have h2:=Cells.drop h1 (i * sz);rw [flat_drop he] at h2;have hlt:=(List.getElem?_eq_some_iff.1 hi).1;rw [List.drop_eq_getElem_cons hlt] at h2;have hx:=(List.getElem?_eq_some_iff.1 hi).2;rw [hx] at h2;simp only [flat,List.flatMap_cons] at h2;exact (Cells.append.1 h2).1
theorem Blk.arr {α:Type} {enc:α→List Value} {sz:Nat} (he:∀ x,(enc x).length=sz) {w:World} {b t n:Nat} {xs:List α} {rest:List Value} (h:Blk w b (flat enc xs++rest) t) (hn:xs.length=n) (hm:n≤maxLen):Arr enc sz w (some ⟨b,0,none⟩) n xs :=
  ⟨hn,hm,fun _ _ hi=>⟨b,0,rfl,Cells.elem he h.cells hi⟩⟩
theorem flat_update {α:Type} {enc:α→List Value} {sz:Nat} (he:∀ x,(enc x).length=sz) (l1 l2:List α) (x x':α) (rest:List Value) (j:Nat) (v:Value) (hj:j<sz) (hx:(enc x).set j v=enc x') :
    (flat enc (l1++x :: l2)++rest).set (l1.length * sz+j) v=flat enc (l1++x' :: l2)++rest:=by
  have hl:=flat_length he l1;simp only [flat_append,List.append_assoc];rw [List.set_append_right _ _ (by omega)];have e:l1.length * sz+j - (flat enc l1).length=j:=by omega
  rw [e];have h1:flat enc (x :: l2)=enc x++flat enc l2:=by simp [flat]
  have h2:flat enc (x' :: l2)=enc x'++flat enc l2:=by simp [flat]
  rw [h1,h2,List.append_assoc,List.append_assoc,List.set_append_left _ _ (by rw [he];exact hj),hx]
theorem drop_cons {α:Type} {xs:List α} {k:Nat} {x:α} (h:xs[k]? = some x):xs.drop k=x :: xs.drop (k+1):=by
  have hlt:=(List.getElem?_eq_some_iff.1 h).1;rw [List.drop_eq_getElem_cons hlt,(List.getElem?_eq_some_iff.1 h).2]
def Own {α:Type} (enc:α→List Value) (w:World) (a:Option Addr) (n t:Nat) (xs:List α):Prop :=
  xs.length=n∧n≤9223372036854775807∧((a=none∧n=0)∨∃ b rest,a=some ⟨b,0,none⟩∧Blk w b (flat enc xs++rest) t)
theorem Own.arr {α:Type} {enc:α→List Value} {sz:Nat} (he:∀ x,(enc x).length=sz) {w:World} {a:Option Addr} {n t:Nat} {xs:List α} (h:Own enc w a n t xs):Arr enc sz w a n xs:=by
  obtain ⟨h1,h2,h3⟩:=h;rcases h3 with ⟨rfl,rfl⟩ | ⟨b,rest,rfl,hb⟩
  · have:xs=[]:=List.eq_nil_of_length_eq_zero h1;subst this;exact Arr.nil
  · exact hb.arr he h1 h2
theorem Own.mod {α:Type} {enc:α→List Value} {S:Nat→Prop} {w w':World} {a:Option Addr} {n t:Nat} {xs:List α} (h:Own enc w a n t xs) (e:Mod S w w') (hc:∀ x,a=some x→¬ S x.block):Own enc w' a n t xs :=
  ⟨h.1,h.2.1,h.2.2.imp id fun ⟨b,rest,ha,hb⟩=>⟨b,rest,ha,hb.mod e (hc _ ha)⟩⟩
theorem Own.ext {α:Type} {enc:α→List Value} {w w':World} {a:Option Addr} {n t:Nat} {xs:List α} (h:Own enc w a n t xs) (e:Ext w w'):Own enc w' a n t xs :=
  ⟨h.1,h.2.1,h.2.2.imp id fun ⟨b,rest,ha,hb⟩=>⟨b,rest,ha,hb.ext e⟩⟩
theorem Own.nil {α:Type} {enc:α→List Value} {w:World} {t:Nat}:Own enc w none 0 t ([]:List α):=⟨rfl,by omega,.inl ⟨rfl,rfl⟩⟩
def blkIn (a:Option Addr) (k:Nat):Prop:=∃ x,a=some x∧k=x.block
def NewAt (B:Nat) (a:Option Addr):Prop:=∀ x,a=some x→B≤x.block
theorem NewAt.mono {B B':Nat} {a:Option Addr} (h:NewAt B a) (hb:B'≤B):NewAt B' a:=fun x hx=>Nat.le_trans hb (h x hx)
theorem NewAt.nil {B:Nat}:NewAt B none:=fun x hx=>by cases hx
section
variable {P:Program}
theorem SemK.index {α:Type} {enc:α→List Value} {sz t:Nat} (ht:elemSize P t=some sz) {w:World} {a:Option Addr} {n c:Nat} {xs:List α} (h:Arr enc sz w a n xs) {i:Int} (k:Nat) (hi:i=k) {x:α} (hx:xs[k]? = some x) {kd:IntKind}
    {K:Value→World→Prop} (hK:∀ b o,a=some ⟨b,o,none⟩→Cells w b (o+k * sz) (enc x)→K (.pointer (some ⟨b,o+k * sz,none⟩)) w):SemK P (Instr.indexAt t (.slice a n c) (.int kd i)) w K:=by
  obtain ⟨e,inf,hu,hinf,hs⟩:=elemSize_slice ht;obtain ⟨b,o,ha,hc⟩:=h.2.2 k x hx;have hlt:k<n:=by rw [← h.1];exact (List.getElem?_eq_some_iff.1 hx).1
  subst hi;subst ha;refine SemK.of ?_ (hK b o rfl hc);simp [Instr.indexAt,asIntOf,run_underlying hu,hlt,sizeOf,typeInfo,hinf,hs,addr_add_none]
theorem SemK.indexOwn {sz t:Nat} (ht:elemSize P t=some sz) {w:World} {b o n c:Nat} {i:Int} (k:Nat) (hi:i=k) (hlt:k<n) {kd:IntKind}
    {K:Value→World→Prop} (hK:K (.pointer (some ⟨b,o+k * sz,none⟩)) w):SemK P (Instr.indexAt t (.slice (some ⟨b,o,none⟩) n c) (.int kd i)) w K:=by
  obtain ⟨e,inf,hu,hinf,hs⟩:=elemSize_slice ht;subst hi;refine SemK.of ?_ hK;simp [Instr.indexAt,asIntOf,run_underlying hu,hlt,sizeOf,typeInfo,hinf,hs,addr_add_none]
theorem eqGuard_int (op:BinOp) (t:Nat) (X Y:Operand) (k k':IntKind) (a b:Int) (w:World):(eqGuard op t X Y (.int k a) (.int k' b)).run P w = .ok () w:=by
  cases op<;>simp [eqGuard]
theorem SemK.add {t:Nat} {X Y:Operand} {a b:Int} (r:Int) (hr:a+b=r) (h1 : -9223372036854775808≤r) (h2:r≤9223372036854775807) {w:World} {K:Value→World→Prop} (hK:K (.int .i64 r) w) :
    SemK P (arith .add t X Y (.int .i64 a) (.int .i64 b)) w K:=by
  refine SemK.of ?_ hK;have:=IntWalk.i64_in r ⟨h1,h2⟩;simp [arith,eqGuard_int,binOp,Op.intArith,hr,this]
theorem SemK.sub {t:Nat} {X Y:Operand} {a b:Int} (r:Int) (hr:a - b=r) (h1 : -9223372036854775808≤r) (h2:r≤9223372036854775807) {w:World} {K:Value→World→Prop} (hK:K (.int .i64 r) w) :
    SemK P (arith .sub t X Y (.int .i64 a) (.int .i64 b)) w K:=by
  refine SemK.of ?_ hK;have:=IntWalk.i64_in r ⟨h1,h2⟩;simp [arith,eqGuard_int,binOp,Op.intArith,hr,this]
theorem SemK.mul {t:Nat} {X Y:Operand} {a b:Int} (r:Int) (hr:a * b=r) (h1 : -9223372036854775808≤r) (h2:r≤9223372036854775807) {w:World} {K:Value→World→Prop} (hK:K (.int .i64 r) w) :
    SemK P (arith .mul t X Y (.int .i64 a) (.int .i64 b)) w K:=by
  refine SemK.of ?_ hK;have:=IntWalk.i64_in r ⟨h1,h2⟩;simp [arith,eqGuard_int,binOp,Op.intArith,hr,this]
theorem SemK.rem {t:Nat} {X Y:Operand} {a b:Int} (h0:0≤a) (hb:0<b) {w:World} {K:Value→World→Prop} (hK:K (.int .i64 (a % b)) w) :
    SemK P (arith .rem t X Y (.int .i64 a) (.int .i64 b)) w K:=by
  refine SemK.of ?_ hK;have hz:¬ b=0:=by omega
  have e:a.tmod b=a % b:=Int.tmod_eq_emod_of_nonneg h0;simp [arith,eqGuard_int,binOp,Op.intDiv,hz,e]
theorem SemK.wadd {t:Nat} {X Y:Operand} {a b:Int} {k:IntKind} {w:World} {K:Value→World→Prop} (hK:K (.int k (k.wrap (a+b))) w) :
    SemK P (arith .add t X Y (.int k a) (.int k b)) w K:=by
  refine SemK.of ?_ hK;simp [arith,eqGuard_int,binOp,Op.intArith]
theorem SemK.wsub {t:Nat} {X Y:Operand} {a b:Int} {k:IntKind} {w:World} {K:Value→World→Prop} (hK:K (.int k (k.wrap (a - b))) w) :
    SemK P (arith .sub t X Y (.int k a) (.int k b)) w K:=by
  refine SemK.of ?_ hK;simp [arith,eqGuard_int,binOp,Op.intArith]
theorem SemK.cat {t:Nat} {X Y:Operand} {a b:ByteArray} (hl:a.size+b.size≤9223372036854775807) {w:World} {K:Value→World→Prop} (hK:K (.string (a++b)) w) :
    SemK P (arith .add t X Y (.string a) (.string b)) w K:=by
  refine SemK.of ?_ hK;have e2:(a.size:Int)+b.size≤9223372036854775807:=by omega
  simp [arith,eqGuard,binOp,Op.stringOp,e2]
theorem SemK.conv {s t:Nat} {k:IntKind} (ht:intKindOf P t=some k) (hs:(P.underlying s).isSome=true) {k0:IntKind} {n:Int} (hw:k.wrap n=n) {w:World} {K:Value→World→Prop} (hK:K (.int k n) w) :
    SemK P (convert s t (.int k0 n)) w K:=by
  have hu:P.underlying t=some (.int k):=by
    unfold intKindOf at ht;split at ht<;>simp_all
  obtain ⟨d,hd⟩:=Option.isSome_iff_exists.1 hs;refine SemK.of ?_ hK;simp [convert,run_underlying hu,run_underlying hd,Conv.intToInt,hw]
def mkInfo (P:Program) (t:Nat):Option (Nat×List Value×Nat) :=
  match P.underlying t with
  | some (.slice e)=>match P.info? e with
    | some inf=>match inf.zero with
      | some z=>if z.cells.size=inf.size∧0<inf.size then some (e,z.cells.toList,inf.bytes) else none
      | none=>none
    | none=>none
  | _=>none
theorem mkInfo_spec {t e by_:Nat} {zs:List Value} (h:mkInfo P t=some (e,zs,by_)):∃ i z,P.underlying t=some (.slice e)∧P.info? e=some i∧i.zero=some z∧z.cells.toList=zs∧i.bytes=by_∧z.cells.size=i.size∧0<i.size:=by
  unfold mkInfo at h;split at h<;>try cases h
  rename_i e' hu;split at h<;>try cases h
  rename_i inf hi;split at h<;>try cases h
  rename_i z hz;split at h<;>try cases h
  rename_i hc;exact ⟨_,_,hu,hi,hz,rfl,rfl,hc.1,hc.2⟩
theorem madeCells_flat (z:Array Value) (hz:0<z.size) (n:Nat):(madeCells z (n * z.size)).toList=flat (fun _:Unit=>z.toList) (List.replicate n ()):=by
  apply List.ext_getElem?;intro j;by_cases hj:j<n * z.size
  · have h1:(madeCells z (n * z.size)).toList[j]? = some (z[j % z.size]!):=by simp [madeCells,hj]
    rw [h1];have hq:j / z.size<n:=(Nat.div_lt_iff_lt_mul hz).2 hj;have hd:=flat_drop (enc:=fun _:Unit=>z.toList) (sz:=z.size) (fun _=>by simp) (List.replicate n ()) (j / z.size);have hm:j % z.size<z.size:=Nat.mod_lt _ hz;have e:j=j / z.size * z.size+j % z.size:=by have:=Nat.div_add_mod j z.size;rw [Nat.mul_comm] at this;omega
    have h2:((flat (fun _:Unit=>z.toList) (List.replicate n ())).drop (j / z.size * z.size))[j % z.size]? = some (z[j % z.size]!):=by
      rw [hd,List.drop_replicate];obtain ⟨m,hm2⟩:∃ m,n - j / z.size=m+1:=⟨n - j / z.size - 1,by omega⟩;rw [hm2,List.replicate_succ];simp only [flat,List.flatMap_cons];rw [List.getElem?_append_left (by simpa using hm)];simp [hm]
    rw [List.getElem?_drop] at h2;rw [← e] at h2;exact h2.symm
  · rw [List.getElem?_eq_none (by simp [madeCells];omega),List.getElem?_eq_none (by rw [flat_length (sz:=z.size) (fun _=>by simp)];simp;omega)]
theorem SemK.make {t e by_:Nat} {zs:List Value} (ht:mkInfo P t=some (e,zs,by_)) {kl kc:IntKind} {m:Int} (n:Nat) (hm:m=n) (h63:n≤9223372036854775807) (hbytes:by_ * n≤281474976710656)
    {w:World} {K:Value→World→Prop} (hK:∀ b w',w.heap.size≤b→b<w'.heap.size→Ext w w'→Blk w' b (flat (fun _:Unit=>zs) (List.replicate n ())) e→K (.slice (some ⟨b,0,none⟩) n n) w') :
    SemK P (Instr.makeSlice t (.int kl m) (.int kc m)) w K:=by
  obtain ⟨i,z,hu,hi,hz,rfl,rfl,hs,hp⟩:=mkInfo_spec ht;subst hm;have hb':(i.bytes:Int) * (n:Int)≤281474976710656:=by
    have h:((i.bytes * n:Nat):Int)≤281474976710656:=by omega
    rwa [Int.natCast_mul] at h
  have hr:=run_make (P:=P) w t e i z hu hi hz kl kc n n (by omega) (Int.le_refl _) hb' (by omega);simp only [Int.toNat_natCast] at hr;refine SemK.of hr (hK _ _ (Nat.le_refl _) ?_ (alloc_ext _ _) ?_)
  · show w.heap.size<(w.heap.push _).size;simp
  · have:=alloc_blk w (madeCells z.cells (n * i.size)).toList e;rw [← madeCells_flat z.cells (by omega) n,hs];exact this
end
end Go.Vc
namespace Go.Vc
open Go Go.RowKit
@[irreducible] def DSemK (P:Program) (s:Sem Value) (w:World) (K:Value→Prop):Prop :=
  ∃ v,(∀ w',Ext w w'→s.run P w' = .ok v w')∧K v
theorem DSemK.of {P:Program} {s:Sem Value} {w:World} {K:Value→Prop} {v:Value} (h:∀ w',Ext w w'→SemK P s w' (fun u w''=>u=v∧w'=w'')) (hk:K v):DSemK P s w K:=by
  unfold DSemK;refine ⟨v,fun w' e=>?_,hk⟩;obtain ⟨u,w'',hr,rfl,rfl⟩:=(h w' e).out;exact hr
@[irreducible] def DDoes (P:Program) (g:Nat) (args:List Value) (w:World) (K:Value→Prop):Prop :=
  ∃ v,(∀ w',Ext w w'→Does P g args w' (fun u w''=>u=v∧Ext w' w''))∧K v
def dOne (P:Program) (T:Tab) (w:World) (o:Oper) (f:Fr) (K:Fr→Prop):Prop :=
  match o.op with
  | .call { callee := .value x,args:=⟨as⟩,.. } =>
    match ev f x with
    | .func (.func g) ⟨first⟩ ⟨cap⟩=>DDoes P g (first++as.map (ev f)++cap) w (fun v=>putK o.dst f v K)
    | _=>False
  | .load t x=>DSemK P (Instr.loadAt t (ev f x)) w (fun v=>putK o.dst f v K)
  | .indexAddr t x i=>DSemK P (Instr.indexAt t (ev f x) (ev f i)) w (fun v=>putK o.dst f v K)
  | .index t x i=>DSemK P (Instr.index t (ev f x) (ev f i)) w (fun v=>putK o.dst f v K)
  | op=>match pureOp T f op with
    | some v=>force v fun v=>putK o.dst f v K
    | none=>match op with
      | .binOp op t x y _=>DSemK P (arith op t x y (ev f x) (ev f y)) w (fun v=>putK o.dst f v K)
      | .unOp op _ x=>DSemK P (Op.unary op (ev f x)) w (fun v=>putK o.dst f v K)
      | .convert s t x=>DSemK P (convert s t (ev f x)) w (fun v=>putK o.dst f v K)
      | .slice t x lo hi mx=>DSemK P (Instr.sliceAt t (ev f x) (lo.map (ev f)) (hi.map (ev f)) (mx.map (ev f))) w (fun v=>putK o.dst f v K)
      | .build t ⟨ps⟩=>DSemK P (Instr.build t (ps.map fun p=>(p.1,ev f p.2)).toArray) w (fun v=>putK o.dst f v K)
      | _=>False
noncomputable def dOps (P:Program) (T:Tab) (w:World) (all:List Oper) (os:List Oper):Fr→(Fr→Prop)→Prop :=
  List.rec (motive:=fun _=>Fr→(Fr→Prop)→Prop) (fun f K=>K f)
    (fun o _ ih f K=>vcGuard all o f (fun f=>dOne P T w o f fun f=>ih f K) (fun f=>putK o.dst f undef fun f=>ih f K)) os
theorem dOps_cons (P:Program) (T:Tab) (w:World) (all:List Oper) (o:Oper) (os:List Oper) (f:Fr) (K:Fr→Prop) :
    dOps P T w all (o :: os) f K=vcGuard all o f (fun f=>dOne P T w o f fun f=>dOps P T w all os f K) (fun f=>putK o.dst f undef fun f=>dOps P T w all os f K):=rfl
theorem quiet_value {P:Program} {o:Oper} {n:Nat} {f:Fr} {C:World→Prop} {w:World} {v:Value} (h:(execOp (act n f).eval o).run P w = .ok (.value v) w):o.quietAt P (act n f) C w v:=by
  unfold Oper.quietAt;rw [h];exact ⟨rfl,rfl⟩
theorem dOne_sound {P:Program} {T:Tab} (hT:T.fok P=true) {n:Nat} {all:Array Oper} {o:Oper} {f:Fr} {w:World} {K:Fr→Prop} (hok:okOper n all o=true)
    (h:dOne P T w o f K) {L:Act→Prop} (hL:∀ f,K f→L (act n f)):o.quiet P (act n f) (fun w'=>Ext w w') L:=by
  simp only [okOper,Bool.and_eq_true] at hok;have hok:=hok.1;have hin:=hok;rw [List.all_eq_true] at hin;have hL':∀ v,putK o.dst f v K→L ((act n f).put o.dst v):=fun v hk=>by
    rw [putK_iff] at hk;have:=hL _ hk;rw [← act_puto] at this;exact this
  unfold dOne at h;split at h
  · rename_i x as ats ho;have hx:(act n f).eval x=ev f x:=ev_act (hin x (by simp [ho,Op.operands,Call.operands]));have has:as.map (act n f).eval=as.map (ev f):=map_eval fun y hy=>hin y (by simp [ho,Op.operands,Call.operands];right;exact hy);split at h
    · rename_i g first cap hf;unfold DDoes at h;obtain ⟨v,hd,hk⟩:=h;refine ⟨v,fun w' hw'=>?_,hL' _ hk⟩;have hd:=hd w' hw';unfold Does at hd;obtain ⟨hfn,hc⟩:=hd;unfold isFn at hfn;split at hfn
      · rename_i fn hfn2;simp only [Bool.and_eq_true,bne_iff_ne,ne_eq] at hfn;have hbody:¬ fn.body=none:=by cases hb:fn.body<;>simp_all
        have hname:¬ fn.name = "runtime.NumGoroutine" := hfn.2;have hr:(execOp (act n f).eval o).run P w' = .ok (.enter g (first++as.map (ev f)++cap).toArray) w':=by
          unfold execOp;simp only [ho];simp [resolve,hx,hf,Deferred.ofValue,invoke,callFunc,hfn2,hbody,hname,has]
        unfold Oper.quietAt;rw [hr];refine ⟨rfl,hc.mono fun e w'' ⟨u,he,hu,hx⟩=>?_⟩;subst he;subst hu;exact ⟨rfl,Ext.trans hw' hx⟩
      · cases hfn
    · exact h.elim
  · rename_i t x ho;have hx:(act n f).eval x=ev f x:=ev_act (hin x (by simp [ho,Op.operands]));unfold DSemK at h;obtain ⟨v,hr,hk⟩:=h;refine ⟨v,fun w' hw'=>quiet_value ?_,hL' _ hk⟩;have hr:=hr w' hw';unfold execOp;simp only [ho,hx];simp [hr]
  · rename_i t x y ho;have hx:(act n f).eval x=ev f x:=ev_act (hin x (by simp [ho,Op.operands]));have hy:(act n f).eval y=ev f y:=ev_act (hin y (by simp [ho,Op.operands]));unfold DSemK at h;obtain ⟨v,hr,hk⟩:=h;refine ⟨v,fun w' hw'=>quiet_value ?_,hL' _ hk⟩;have hr:=hr w' hw';unfold execOp;simp only [ho,hx,hy];simp [hr]
  · rename_i t x y ho;have hx:(act n f).eval x=ev f x:=ev_act (hin x (by simp [ho,Op.operands]));have hy:(act n f).eval y=ev f y:=ev_act (hin y (by simp [ho,Op.operands]));unfold DSemK at h;obtain ⟨v,hr,hk⟩:=h;refine ⟨v,fun w' hw'=>quiet_value ?_,hL' _ hk⟩;have hr:=hr w' hw';unfold execOp;simp only [ho,hx,hy];simp [hr]
  · split at h
    · rename_i v hv;rw [force_iff] at h;exact ⟨v,fun w' _=>quiet_value (pureOp_run hT hok hv w'),hL' _ h⟩
    · split at h
      · rename_i op t x y yt ho;have hx:(act n f).eval x=ev f x:=ev_act (hin x (by simp [ho,Op.operands]));have hy:(act n f).eval y=ev f y:=ev_act (hin y (by simp [ho,Op.operands]));unfold DSemK at h;obtain ⟨v,hr,hk⟩:=h;refine ⟨v,fun w' hw'=>quiet_value ?_,hL' _ hk⟩;have hr:=hr w' hw';unfold execOp;simp only [ho,hx,hy];unfold arith at hr;simp only [Sem.run_bind] at hr ⊢;rw [hr];simp
      · rename_i op t x ho;have hx:(act n f).eval x=ev f x:=ev_act (hin x (by simp [ho,Op.operands]));unfold DSemK at h;obtain ⟨v,hr,hk⟩:=h;refine ⟨v,fun w' hw'=>quiet_value ?_,hL' _ hk⟩;have hr:=hr w' hw';unfold execOp;simp only [ho,hx];simp [hr]
      · rename_i s t x ho;have hx:(act n f).eval x=ev f x:=ev_act (hin x (by simp [ho,Op.operands]));unfold DSemK at h;obtain ⟨v,hr,hk⟩:=h;refine ⟨v,fun w' hw'=>quiet_value ?_,hL' _ hk⟩;have hr:=hr w' hw';unfold execOp;simp only [ho,hx];simp [hr]
      · rename_i t x lo hi mx ho;have hx:(act n f).eval x=ev f x:=ev_act (hin x (by simp [ho,Op.operands]));have hlo:lo.map (act n f).eval=lo.map (ev f):=by
          cases lo with
          | none=>rfl
          | some y=>simp only [Option.map_some];rw [ev_act (hin y (by simp [ho,Op.operands]))]
        have hhi:hi.map (act n f).eval=hi.map (ev f):=by
          cases hi with
          | none=>rfl
          | some y=>simp only [Option.map_some];rw [ev_act (hin y (by simp [ho,Op.operands]))]
        have hmx:mx.map (act n f).eval=mx.map (ev f):=by
          cases mx with
          | none=>rfl
          | some y=>simp only [Option.map_some];rw [ev_act (hin y (by simp [ho,Op.operands]))]
        unfold DSemK at h;obtain ⟨v,hr,hk⟩:=h;refine ⟨v,fun w' hw'=>quiet_value ?_,hL' _ hk⟩;have hr:=hr w' hw';unfold execOp;simp only [ho,hx,hlo,hhi,hmx];simp [hr]
      · rename_i t ps ho;have hps:(ps.map fun p:Nat×Operand=>(p.1,(act n f).eval p.2))=ps.map fun p=>(p.1,ev f p.2):=List.map_congr_left fun p hp=>by
          rw [ev_act (hin p.2 (by simp [ho,Op.operands];exact ⟨p.1,hp⟩))]
        unfold DSemK at h;obtain ⟨v,hr,hk⟩:=h;refine ⟨v,fun w' hw'=>quiet_value ?_,hL' _ hk⟩;have hr:=hr w' hw';unfold execOp;simp only [ho];simp [hps,hr]
      · exact h.elim
theorem dOps_sound {P:Program} {T:Tab} (hT:T.fok P=true) {n:Nat} {all:Array Oper} (hok:okOps n all=true) {w:World} {K:Fr→Prop} {Q:Act→Prop}
    (hQ:∀ f,K f→Q (act n f)):∀ (os:List Oper) (f:Fr),(∀ o∈os,o∈all.toList)→dOps P T w all.toList os f K→wpQuiet P all (fun w'=>Ext w w') Q os (act n f)
  | [],f,_,h=>hQ _ h
  | o :: os,f,hm,h=>by
    have hoki:okOper n all o=true:=by
      unfold okOps at hok;rw [List.all_eq_true] at hok;exact hok _ (hm o (by simp))
    rw [dOps_cons] at h;have hg:=vcGuard_sound hoki h;simp only [wpQuiet];split
    · rename_i hw;rw [if_pos hw] at hg;exact dOne_sound hT hoki hg fun f hk=>dOps_sound hT hok hQ os f (fun o ho=>hm o (by simp [ho])) hk
    · rename_i hw;rw [if_neg hw,putK_iff] at hg;rw [act_puto];exact dOps_sound hT hok hQ os _ (fun o ho=>hm o (by simp [ho])) hg
theorem DrawK.det {P:Program} {T:Tab} (hT:T.fok P=true) (hm:P.follows .mixedOrders=true) {n:Nat} {ops:Array Oper} (hok:okOps n ops=true) (hB:Region.lexB .any ops=true) {f:Fr} {w:World} {K:Fr→World→Prop}
    (h:dOps P T w ops.toList ops.toList f fun f'=>∀ w',Ext w w'→K f' w'):DrawK P n ops f w K:=by
  unfold DrawK;intro id;refine wp_region_quiet (C:=fun w'=>Ext w w') hm hB ?_ ?_
  · exact ⟨rfl,rfl,rfl,Nat.le_refl _,fun _ _=>rfl⟩
  · exact dOps_sound hT hok (Q:=fun a'=>∀ w',Ext w w'→lift n K (fun _ _ _=>False) (fun _ _=>False) .normal a' w') (fun f' hk w' hw'=>⟨f',rfl,hk w' hw'⟩) _ f (fun _ ho=>ho) h
section
variable {P:Program}
theorem DSemK.index {α:Type} {enc:α→List Value} {sz t:Nat} (ht:elemSize P t=some sz) {w:World} {a:Option Addr} {n c:Nat} {xs:List α} (h:Arr enc sz w a n xs) {i:Int} (k:Nat) (hi:i=k) {x:α} (hx:xs[k]? = some x) {kd:IntKind}
    {K:Value→Prop} (hK:∀ b o,a=some ⟨b,o,none⟩→Cells w b (o+k * sz) (enc x)→K (.pointer (some ⟨b,o+k * sz,none⟩))):DSemK P (Instr.indexAt t (.slice a n c) (.int kd i)) w K:=by
  obtain ⟨b,o,ha,hc⟩:=h.2.2 k x hx;have hlt:k<n:=by rw [← h.1];exact (List.getElem?_eq_some_iff.1 hx).1
  subst ha;exact DSemK.of (fun w' _=>SemK.indexOwn ht k hi hlt ⟨rfl,rfl⟩) (hK b o rfl hc)
theorem DSemK.load0 {ty:Nat} (hty:oneCell P ty=true) {w:World} {b o:Nat} {vs:List Value} (h:Cells w b o vs) {v:Value} (hk:vs[0]? = some v) {K:Value→Prop} (hK:K v) :
    DSemK P (Instr.loadAt ty (.pointer (some ⟨b,o,none⟩))) w K:=DSemK.of (fun _ e=>SemK.load1 hty (k:=0) (h.ext e) hk ⟨rfl,rfl⟩) hK
theorem DSemK.load1 {ty:Nat} (hty:oneCell P ty=true) {w:World} {b o k:Nat} {vs:List Value} (h:Cells w b o vs) {v:Value} (hk:vs[k]? = some v) {K:Value→Prop} (hK:K v) :
    DSemK P (Instr.loadAt ty (.pointer (some ⟨b,o+k,none⟩))) w K:=DSemK.of (fun _ e=>SemK.load1 hty (h.ext e) hk ⟨rfl,rfl⟩) hK
theorem DSemK.loadAgg {ty n:Nat} (hty:aggSize P ty=some n) {w:World} {b o:Nat} {vs:List Value} (h:Cells w b o vs) (hn:vs.length=n) {K:Value→Prop} (hK:K (.agg vs.toArray)) :
    DSemK P (Instr.loadAt ty (.pointer (some ⟨b,o,none⟩))) w K:=DSemK.of (fun _ e=>SemK.loadAgg hty (h.ext e) hn ⟨rfl,rfl⟩) hK
theorem DSemK.char {t:Nat} (ht:isStr P t=true) {s:ByteArray} {i:Int} {c:UInt8} (k:Nat) (hi:i=k) (hk:s.data.toList[k]? = some c) {kd:IntKind} {w:World} {K:Value→Prop} (hK:K (.int .u8 c.toNat)) :
    DSemK P (Instr.index t (.string s) (.int kd i)) w K:=DSemK.of (fun _ _=>SemK.char ht k hi hk ⟨rfl,rfl⟩) hK
theorem DSemK.add {t:Nat} {X Y:Operand} {a b:Int} (r:Int) (hr:a+b=r) (h1 : -9223372036854775808≤r) (h2:r≤9223372036854775807) {w:World} {K:Value→Prop} (hK:K (.int .i64 r)) :
    DSemK P (arith .add t X Y (.int .i64 a) (.int .i64 b)) w K:=DSemK.of (fun _ _=>SemK.add r hr h1 h2 ⟨rfl,rfl⟩) hK
theorem DSemK.sub {t:Nat} {X Y:Operand} {a b:Int} (r:Int) (hr:a - b=r) (h1 : -9223372036854775808≤r) (h2:r≤9223372036854775807) {w:World} {K:Value→Prop} (hK:K (.int .i64 r)) :
    DSemK P (arith .sub t X Y (.int .i64 a) (.int .i64 b)) w K:=DSemK.of (fun _ _=>SemK.sub r hr h1 h2 ⟨rfl,rfl⟩) hK
theorem DSemK.cat {t:Nat} {X Y:Operand} {a b:ByteArray} (hl:a.size+b.size≤9223372036854775807) {w:World} {K:Value→Prop} (hK:K (.string (a++b))) :
    DSemK P (arith .add t X Y (.string a) (.string b)) w K:=DSemK.of (fun _ _=>SemK.cat hl ⟨rfl,rfl⟩) hK
theorem DSemK.conv {s t:Nat} {k:IntKind} (ht:intKindOf P t=some k) (hs:(P.underlying s).isSome=true) {k0:IntKind} {n:Int} (hw:k.wrap n=n) {w:World} {K:Value→Prop} (hK:K (.int k n)) :
    DSemK P (convert s t (.int k0 n)) w K:=DSemK.of (fun _ _=>SemK.conv ht hs hw ⟨rfl,rfl⟩) hK
theorem SemK.load0 {ty:Nat} (hty:oneCell P ty=true) {w:World} {b o:Nat} {vs:List Value} (h:Cells w b o vs) {v:Value} (hk:vs[0]? = some v) {K:Value→World→Prop} (hK:K v w) :
    SemK P (Instr.loadAt ty (.pointer (some ⟨b,o,none⟩))) w K:=SemK.load1 hty (k:=0) h hk hK
theorem run_slice_arr {t sz:Nat} (ht:elemSize P t=some sz) {a:Option Addr} {n c l h:Nat} (hl:l≤h) (hh:h≤n) (hn:n≤c) {lo hi:Option Value} {k k':IntKind} (hlo:(lo=none∧l=0)∨lo=some (.int k l)) (hhi:(hi=none∧h=n)∨hi=some (.int k' h)) (w:World) :
    (Instr.sliceAt t (.slice a n c) lo hi none).run P w = .ok (.slice (if c=l then a else a.map (·.add (l * sz))) (h - l) (c - l)) w:=by
  obtain ⟨e,inf,hu,hinf,hs⟩:=elemSize_slice ht;have h5:h≤c:=by omega
  rcases hlo with ⟨rfl,rfl⟩ | rfl<;>rcases hhi with ⟨rfl,rfl⟩ | rfl <;>
    simp [Instr.sliceAt,Instr.slice,run_underlying hu,Instr.sliceBounds,Instr.sliceBound,asIntOf,sizeOf,typeInfo,hinf,hs,hl,h5]
theorem Arr.sub {α:Type} {enc:α→List Value} {sz:Nat} {w:World} {a:Option Addr} {n c l h:Nat} {xs:List α} (hA:Arr enc sz w a n xs) (hl:l≤h) (hh:h≤n) (hn:n≤c) :
    Arr enc sz w (if c=l then a else a.map (·.add (l * sz))) (h - l) ((xs.drop l).take (h - l)):=by
  obtain ⟨h1,h2,h3⟩:=hA;refine ⟨by simp;omega,Nat.le_trans (Nat.sub_le _ _) (Nat.le_trans hh h2),fun i x hi=>?_⟩;rw [List.getElem?_take] at hi;split at hi
  · rename_i hlt;rw [List.getElem?_drop] at hi;obtain ⟨b,o,ha,hc⟩:=h3 _ _ hi;have hcl:¬ c=l:=by omega
    rw [if_neg hcl,ha];refine ⟨b,o+l * sz,by simp [addr_add_none],?_⟩;rw [Nat.add_mul,← Nat.add_assoc] at hc;exact hc
  · cases hi
theorem SemK.slice {α:Type} {enc:α→List Value} {t sz:Nat} (ht:elemSize P t=some sz) {w:World} {a:Option Addr} {n c:Nat} {xs:List α} (hA:Arr enc sz w a n xs) (l h:Nat) (hl:l≤h) (hh:h≤n) (hn:n≤c) {lo hi:Option Value} {k k':IntKind} (hlo:(lo=none∧l=0)∨lo=some (.int k l)) (hhi:(hi=none∧h=n)∨hi=some (.int k' h))
    {K:Value→World→Prop} (hK:∀ a',Arr enc sz w a' (h - l) ((xs.drop l).take (h - l))→K (.slice a' (h - l) (c - l)) w):SemK P (Instr.sliceAt t (.slice a n c) lo hi none) w K :=
  SemK.of (run_slice_arr ht hl hh hn hlo hhi w) (hK _ (hA.sub hl hh hn))
theorem DSemK.slice {α:Type} {enc:α→List Value} {t sz:Nat} (ht:elemSize P t=some sz) {w:World} {a:Option Addr} {n c:Nat} {xs:List α} (hA:Arr enc sz w a n xs) (l h:Nat) (hl:l≤h) (hh:h≤n) (hn:n≤c) {lo hi:Option Value} {k k':IntKind} (hlo:(lo=none∧l=0)∨lo=some (.int k l)) (hhi:(hi=none∧h=n)∨hi=some (.int k' h))
    {K:Value→Prop} (hK:∀ a',Arr enc sz w a' (h - l) ((xs.drop l).take (h - l))→K (.slice a' (h - l) (c - l))):DSemK P (Instr.sliceAt t (.slice a n c) lo hi none) w K :=
  DSemK.of (fun w' _=>SemK.of (run_slice_arr ht hl hh hn hlo hhi w') ⟨rfl,rfl⟩) (hK _ (hA.sub hl hh hn))
end
end Go.Vc
namespace Go.Vc
open Go Go.RowKit
def edgeB (ops:Array Oper) (i j:Nat):Bool :=
  match ops[j]? with
  | some o=>o.after.any fun e=>Region.binds .any e && e.on == i
  | none=>false
def isMv (o:Oper):Bool :=
  match o.op with
  | .move _=>o.guard.isNone
  | _=>false
def mvAt (ops:List Oper) (i:Nat):Bool :=
  match ops[i]? with
  | some o=>isMv o
  | none=>false
def sel (ops:List Oper) (l:List Nat):List Oper:=l.filterMap fun i=>ops[i]?
def closed (ops:Array Oper) (listed:Array Bool):Prop :=
  ∀ k o,ops[k]? = some o→listed.getD k true=true→∀ e∈o.after,Region.binds .any e=true→listed.getD e.on false=true
section
variable {P:Program} {ops:Array Oper} {C:World→Prop} {m:Nat} {listed:Array Bool}
theorem edge_spec {i j:Nat} (h:edgeB ops i j=true):∃ o,ops[j]? = some o∧∃ e∈o.after,Region.binds .any e=true∧e.on=i:=by
  unfold edgeB at h;split at h
  · rename_i o ho;rw [Array.any_eq_true'] at h;obtain ⟨e,he,hb⟩:=h;simp only [Bool.and_eq_true,beq_iff_eq] at hb;exact ⟨o,ho,e,he,hb⟩
  · cases h
theorem getD_ff {i:Nat} (h:listed.getD i false=true):listed.getD i true=true:=by
  rcases Nat.lt_or_ge i listed.size with hl | hl
  · simp [hl] at h ⊢;exact h
  · simp [Array.getElem?_eq_none hl] at h
theorem closed_set {i:Nat} (hc:closed ops listed) (hi:i∈Region.ready .any ops listed):closed ops (listed.setIfInBounds i true):=by
  intro k o hk hl e he hb;by_cases hik:i=k
  · subst hik;obtain ⟨_,o',ho',hall⟩:=mem_ready.1 hi;rw [hk] at ho';cases ho'
    exact getD_set_true (hall e he hb)
  · rw [getD_set_ne true hik] at hl;exact getD_set_true (hc k o hk hl e he hb)
theorem closed_none (ops:Array Oper):closed ops (Array.replicate ops.size false):=by
  intro k o hk hl;have:=(Array.getElem?_eq_some_iff.1 hk).1;simp [this] at hl
end
theorem isMv_spec {o:Oper} (h:isMv o=true):∃ x,o.op = .move x∧o.guard=none:=by
  unfold isMv at h;split at h
  · rename_i x hx;exact ⟨x,hx,by simpa using h⟩
  · cases h
end Go.Vc
namespace Go.Vc
open Go Go.RowKit
def isPure:Op→Bool
  | .move _ | .assign _ | .pick .. | .extract .. | .unOp .not _ _ | .makeFunc .. | .fieldAddr .. | .nilCheck _=>true
  | .binOp op _ _ _ _=>match op with
    | .eql | .neq | .lss | .leq | .gtr | .geq=>true
    | _=>false
  | _=>false
def isCallV:Op→Bool
  | .call { callee := .value _,.. }=>true
  | _=>false
def planB (ops:Array Oper):List (Nat×Bool)→Array Bool→Bool
  | [],listed=>(Region.ready .any ops listed).isEmpty
  | (i,s) :: l,listed=>(match s with
      | true=>Region.ready .any ops listed == [i]
      | false=>(Region.ready .any ops listed).contains i && Region.free .any ops listed i && (match ops[i]? with | some o=>!isCallV o.op | none=>false)) && planB ops l (listed.setIfInBounds i true)
def heldB (ops:Array Oper) (plan:List (Nat×Bool)):Bool:=Region.noSelect ops && Nat.beq plan.length ops.size && planB ops plan (Array.replicate ops.size false)
noncomputable def hOps (P:Program) (T:Tab) (n:Nat) (w0:World) (all:List Oper) (os:List (Oper×Bool)):Fr→World→(Fr→World→Prop)→Prop :=
  List.rec (motive:=fun _=>Fr→World→(Fr→World→Prop)→Prop) (fun f w K=>K f w)
    (fun o _ ih f w K=>vcGuard all o.1 f
      (fun f=>match (!o.2 || isPure o.1.op) with
        | true=>dOne P T w0 o.1 f fun f=>ih f w K
        | false=>vcOne P T n o.1 f w fun f w'=>Ext w0 w'∧ih f w' K)
      (fun f=>putK o.1.dst f undef fun f=>ih f w K)) os
theorem hOps_cons (P:Program) (T:Tab) (n:Nat) (w0:World) (all:List Oper) (o:Oper×Bool) (os:List (Oper×Bool)) (f:Fr) (w:World) (K:Fr→World→Prop) :
    hOps P T n w0 all (o :: os) f w K=vcGuard all o.1 f
      (fun f=>match (!o.2 || isPure o.1.op) with
        | true=>dOne P T w0 o.1 f fun f=>hOps P T n w0 all os f w K
        | false=>vcOne P T n o.1 f w fun f w'=>Ext w0 w'∧hOps P T n w0 all os f w' K)
      (fun f=>putK o.1.dst f undef fun f=>hOps P T n w0 all os f w K):=rfl
def selP (ops:List Oper) (l:List (Nat×Bool)):List (Oper×Bool):=l.filterMap fun i=>(ops[i.1]?).map fun o=>(o,i.2)
theorem dOne_yields {P:Program} {T:Tab} (hT:T.fok P=true) {n:Nat} {all:Array Oper} {o:Oper} {f:Fr} {w:World} {K:Fr→Prop} (hok:okOper n all o=true) (hnc:isCallV o.op=false)
    (h:dOne P T w o f K):∃ v,(∀ w',Ext w w'→(execOp (act n f).eval o).run P w' = .ok (.value v) w')∧K (put f o.dst v):=by
  simp only [okOper,Bool.and_eq_true] at hok;have hok:=hok.1;have hin:=hok;rw [List.all_eq_true] at hin;unfold dOne at h;split at h
  · rename_i x as ats ho;rw [ho] at hnc;simp [isCallV] at hnc
  · rename_i t x ho;have hx:(act n f).eval x=ev f x:=ev_act (hin x (by simp [ho,Op.operands]));unfold DSemK at h;obtain ⟨v,hr,hk⟩:=h;rw [putK_iff] at hk;refine ⟨v,fun w' hw'=>?_,hk⟩;have hr:=hr w' hw';unfold execOp;simp only [ho,hx];simp [hr]
  · rename_i t x y ho;have hx:(act n f).eval x=ev f x:=ev_act (hin x (by simp [ho,Op.operands]));have hy:(act n f).eval y=ev f y:=ev_act (hin y (by simp [ho,Op.operands]));unfold DSemK at h;obtain ⟨v,hr,hk⟩:=h;rw [putK_iff] at hk;refine ⟨v,fun w' hw'=>?_,hk⟩;have hr:=hr w' hw';unfold execOp;simp only [ho,hx,hy];simp [hr]
  · rename_i t x y ho;have hx:(act n f).eval x=ev f x:=ev_act (hin x (by simp [ho,Op.operands]));have hy:(act n f).eval y=ev f y:=ev_act (hin y (by simp [ho,Op.operands]));unfold DSemK at h;obtain ⟨v,hr,hk⟩:=h;rw [putK_iff] at hk;refine ⟨v,fun w' hw'=>?_,hk⟩;have hr:=hr w' hw';unfold execOp;simp only [ho,hx,hy];simp [hr]
  · split at h
    · rename_i v hv;rw [force_iff,putK_iff] at h;exact ⟨v,fun w' _=>pureOp_run hT hok hv w',h⟩
    · split at h
      · rename_i op t x y yt ho;have hx:(act n f).eval x=ev f x:=ev_act (hin x (by simp [ho,Op.operands]));have hy:(act n f).eval y=ev f y:=ev_act (hin y (by simp [ho,Op.operands]));unfold DSemK at h;obtain ⟨v,hr,hk⟩:=h;rw [putK_iff] at hk;refine ⟨v,fun w' hw'=>?_,hk⟩;have hr:=hr w' hw';unfold execOp;simp only [ho,hx,hy];unfold arith at hr;simp only [Sem.run_bind] at hr ⊢;rw [hr];simp
      · rename_i op t x ho;have hx:(act n f).eval x=ev f x:=ev_act (hin x (by simp [ho,Op.operands]));unfold DSemK at h;obtain ⟨v,hr,hk⟩:=h;rw [putK_iff] at hk;refine ⟨v,fun w' hw'=>?_,hk⟩;have hr:=hr w' hw';unfold execOp;simp only [ho,hx];simp [hr]
      · rename_i s t x ho;have hx:(act n f).eval x=ev f x:=ev_act (hin x (by simp [ho,Op.operands]));unfold DSemK at h;obtain ⟨v,hr,hk⟩:=h;rw [putK_iff] at hk;refine ⟨v,fun w' hw'=>?_,hk⟩;have hr:=hr w' hw';unfold execOp;simp only [ho,hx];simp [hr]
      · rename_i t x lo hi mx ho;have hx:(act n f).eval x=ev f x:=ev_act (hin x (by simp [ho,Op.operands]));have hlo:lo.map (act n f).eval=lo.map (ev f):=by
          cases lo with
          | none=>rfl
          | some y=>simp only [Option.map_some];rw [ev_act (hin y (by simp [ho,Op.operands]))]
        have hhi:hi.map (act n f).eval=hi.map (ev f):=by
          cases hi with
          | none=>rfl
          | some y=>simp only [Option.map_some];rw [ev_act (hin y (by simp [ho,Op.operands]))]
        have hmx:mx.map (act n f).eval=mx.map (ev f):=by
          cases mx with
          | none=>rfl
          | some y=>simp only [Option.map_some];rw [ev_act (hin y (by simp [ho,Op.operands]))]
        unfold DSemK at h;obtain ⟨v,hr,hk⟩:=h;rw [putK_iff] at hk;refine ⟨v,fun w' hw'=>?_,hk⟩;have hr:=hr w' hw';unfold execOp;simp only [ho,hx,hlo,hhi,hmx];simp [hr]
      · rename_i t ps ho;have hps:(ps.map fun p:Nat×Operand=>(p.1,(act n f).eval p.2))=ps.map fun p=>(p.1,ev f p.2):=List.map_congr_left fun p hp=>by
          rw [ev_act (hin p.2 (by simp [ho,Op.operands];exact ⟨p.1,hp⟩))]
        unfold DSemK at h;obtain ⟨v,hr,hk⟩:=h;rw [putK_iff] at hk;refine ⟨v,fun w' hw'=>?_,hk⟩;have hr:=hr w' hw';unfold execOp;simp only [ho];simp [hps,hr]
      · exact h.elim
theorem isPure_notCall {o:Op} (h:isPure o=true):isCallV o=false:=by
  unfold isCallV;split
  · simp [isPure] at h
  · rfl
theorem hOps_sound {P:Program} {T:Tab} (hT:T.fok P=true) {n:Nat} {ops:Array Oper} (hok:okOps n ops=true) (hs:Region.noSelect ops=true) {w0:World} {Q:Exit→Act→World→Prop} (hQp:∀ c a w,¬ Q (.panic c) a w) {K:Fr→World→Prop} (hQ:∀ f w,K f w→Q .normal (act n f) w) :
    ∀ (plan:List (Nat×Bool)) (listed:Array Bool) (f:Fr) (w:World),planB ops plan listed=true→Ext w0 w→hOps P T n w0 ops.toList (selP ops.toList plan) f w K →
      wpAnyH P .any ops Q (fun w'=>Ext w0 w') plan.length listed (act n f) w
  | [],listed,f,w,hB,_,h=>by
    simp only [planB,List.isEmpty_iff] at hB;exact wpAnyH_done hB (hQ f w h) _
  | (i,s) :: l,listed,f,w,hB,hw,h=>by
    simp only [planB,Bool.and_eq_true] at hB;obtain ⟨h1,hB'⟩:=hB;have hrd:i∈Region.ready .any ops listed:=by
      cases s
      · simp only [Bool.and_eq_true] at h1;simpa using h1.1.1
      · simp only [beq_iff_eq] at h1;rw [h1];simp
    obtain ⟨_,o,h0,_⟩:=mem_ready.1 hrd;have h0':ops.toList[i]? = some o:=by simpa using h0
    have hoki:okOper n ops o=true:=by
      unfold okOps at hok;rw [List.all_eq_true] at hok;exact hok _ (List.mem_of_getElem? h0')
    have hsel:selP ops.toList ((i,s) :: l)=(o,s) :: selP ops.toList l:=by
      unfold selP;rw [List.filterMap_cons_some (b:=(o,s)) (by simp [h0'])]
    rw [hsel,hOps_cons] at h;have hg:=vcGuard_sound hoki h;have ih:=fun (f:Fr) (w:World) (hw:Ext w0 w) (h:hOps P T n w0 ops.toList (selP ops.toList l) f w K)=>hOps_sound hT hok hs hQp hQ l (listed.setIfInBounds i true) f w hB' hw h;have byVal:∀ v,(Region.wanted o (yielded ops (act n f).tmps)=true→∀ w',Ext w0 w'→(execOp (act n f).eval o).run P w' = .ok (.value v) w')→(Region.wanted o (yielded ops (act n f).tmps)=false→v=undef) →
        hOps P T n w0 ops.toList (selP ops.toList l) (put f o.dst v) w K→wpOp P ops Q i (fun a' w'=>Ext w0 w'∧wpAnyH P .any ops Q (fun w'=>Ext w0 w') l.length (listed.setIfInBounds i true) a' w') (act n f) w:=by
      intro v hv hv2 hk;have hy:YieldsIf P ops (fun w'=>Ext w0 w') o v (act n f):=by
        cases hwn:Region.wanted o (yielded ops (act n f).tmps) with
        | true=>exact .inl ⟨hwn,hv hwn⟩
        | false=>exact .inr ⟨hwn,hv2 hwn⟩
      refine hy.wpOp h0 hw ⟨hw,?_⟩;rw [act_puto];exact ih _ _ hw hk
    cases s with
    | false =>
      simp only [Bool.and_eq_true,h0,Bool.not_eq_true'] at h1;obtain ⟨⟨hr,hf⟩,hnc⟩:=h1;have take:∀ v,(Region.wanted o (yielded ops (act n f).tmps)=true→∀ w',Ext w0 w'→(execOp (act n f).eval o).run P w' = .ok (.value v) w')→(Region.wanted o (yielded ops (act n f).tmps)=false→v=undef) →
          hOps P T n w0 ops.toList (selP ops.toList l) (put f o.dst v) w K→wpAnyH P .any ops Q (fun w'=>Ext w0 w') (l.length+1) listed (act n f) w:=by
        intro v hv hv2 hk;have hy:YieldsIf P ops (fun w'=>Ext w0 w') o v (act n f):=by
          cases hwn:Region.wanted o (yielded ops (act n f).tmps) with
          | true=>exact .inl ⟨hwn,hv hwn⟩
          | false=>exact .inr ⟨hwn,hv2 hwn⟩
        refine wpAnyH_take h0 hs hf hr (fun c a w hq=>(hQp _ _ _ hq).elim) hy hw ?_;rw [act_puto];exact ih _ _ hw hk
      split at hg
      · rename_i hwn;simp only [Bool.not_false,Bool.true_or] at hg;obtain ⟨v,hv,hk⟩:=dOne_yields hT hoki hnc hg;exact take v (fun _=>hv) (fun hf=>by rw [hwn] at hf;cases hf) hk
      · rename_i hwn;rw [putK_iff] at hg;exact take undef (fun ht=>absurd ht hwn) (fun _=>rfl) hg
    | true =>
      simp only [beq_iff_eq] at h1;refine wpAnyH_all h1 (by simp) fun j hj=>?_;simp only [List.mem_singleton] at hj;subst hj;split at hg
      · rename_i hwn;simp only [Bool.not_true,Bool.false_or] at hg;cases hp:isPure o.op with
        | true =>
          rw [hp] at hg;obtain ⟨v,hv,hk⟩:=dOne_yields hT hoki (isPure_notCall hp) hg;exact byVal v (fun _=>hv) (fun hf=>by rw [hwn] at hf;cases hf) hk
        | false =>
          rw [hp] at hg;unfold wpOp;simp only [h0,hwn,if_true];exact .inl (vcOne_sound hT hoki hg fun f w hk=>⟨hk.1,ih _ _ hk.1 hk.2⟩)
      · rename_i hwn;rw [putK_iff] at hg;exact byVal undef (fun ht=>absurd ht hwn) (fun _=>rfl) hg
theorem DrawK.held {P:Program} {T:Tab} (hT:T.fok P=true) (hm:P.follows .mixedOrders=true) {n:Nat} {ops:Array Oper} (plan:List (Nat×Bool)) (hok:okOps n ops=true) (hB:heldB ops plan=true) {f:Fr} {w:World} {K:Fr→World→Prop}
    (h:∀ w1,Ext w w1→hOps P T n w ops.toList (selP ops.toList plan) f w1 K):DrawK P n ops f w K:=by
  unfold DrawK;intro id;simp only [heldB,Bool.and_eq_true] at hB;obtain ⟨⟨hs,hl⟩,hB⟩:=hB;refine wp_region_held (S:=fun w'=>Ext w w') hm ?_;have e1:Ext w { w with drawn:=w.drawn+1 }:=⟨rfl,rfl,rfl,Nat.le_refl _,fun _ _=>rfl⟩;have:=hOps_sound hT hok hs (Q:=lift n K (fun _ _ _=>False) (fun _ _=>False)) (fun c a w hq=>hq.elim) (fun f w hk=>⟨f,rfl,hk⟩) plan _ f _ hB e1 (h _ e1);rw [Nat.eq_of_beq_eq_true hl] at this;exact this
end Go.Vc
namespace Go.Vc
open Go Go.RowKit
section
variable {P:Program} {ops:Array Oper} {Q:Exit→Act→World→Prop} {md:Region.Mode} {S:World→Prop} {L:Nat}
def wpAnyE (P:Program) (md:Region.Mode) (ops:Array Oper) (L:Nat) (Q:Exit→Act→World→Prop) (S:World→Prop):Nat→Array Bool→Act→World→Prop
  | 0,listed,a,w=>Region.ready md ops listed=[]∧Q .normal a w
  | k+1,listed,a,w =>
    (Region.ready md ops listed=[]→Q .normal a w) ∧
    ∀ i∈Region.ready md ops listed,wpOp P ops Q i (fun a' w'=>(i≠L→S w')∧wpAnyE P md ops L Q S k (listed.setIfInBounds i true) a' w') a w
theorem wpAnyE_any:∀ (k:Nat) (listed:Array Bool) (a:Act) (w:World),wpAnyE P md ops L Q S k listed a w→wpAny P md ops Q k listed a w
  | 0,_,_,_,h=>h
  | k+1,_,_,_,h=>⟨h.1,fun i hi=>wpOp_mono (fun a' w' h'=>wpAnyE_any k _ a' w' h'.2) (h.2 i hi)⟩
def Lasts (md:Region.Mode) (ops:Array Oper) (L:Nat):Prop:=∀ o,ops[L]? = some o→∀ m,m<ops.size→m≠L→∃ e∈o.after,Region.binds md e=true∧e.on=m
theorem wpAnyE_first (hL:Lasts md ops L) {i:Nat} {oi:Oper} {v:Value} (hi:ops[i]? = some oi) (hsel:∀ (j:Nat) (o:Oper) cs b,ops[j]? = some o→o.op≠.select cs b)
    (hQ:∀ c a w,Q (.panic c) (a.put oi.dst v) w→Q (.panic c) a w) :
    ∀ (k:Nat) (listed:Array Bool) (a:Act) (w:World),
      (∀ j oj,ops[j]? = some oj→j≠i→listed.getD j true=false→(∀ e∈oj.after,Region.binds md e=true→e.on≠i)→oi.apart ops oj=true) →
      i∈Region.ready md ops listed→YieldsIf P ops S oi v a→S w →
      wpAnyE P md ops L Q S k (listed.setIfInBounds i true) (a.put oi.dst v) w→wpAnyE P md ops L Q S (k+1) listed a w:=by
  intro k;induction k with
  | zero =>
    intro listed a w _ hr hy hS H;refine ⟨fun h=>(by rw [h] at hr;cases hr),fun j hj=>?_⟩;rcases Decidable.em (j=i) with rfl | hji
    · exact hy.wpOp hi hS ⟨fun _=>hS,H⟩
    · have:=ready_mono hj hji;rw [H.1] at this;cases this
  | succ k ih =>
    intro listed a w hfree hr hy hS H;refine ⟨fun h=>(by rw [h] at hr;cases hr),fun j hj=>?_⟩;rcases Decidable.em (j=i) with rfl | hji
    · exact hy.wpOp hi hS ⟨fun _=>hS,H⟩
    · obtain ⟨hjun,oj,hoj,hall⟩:=mem_ready.1 hj;have hnot:∀ e∈oj.after,Region.binds md e=true→e.on≠i:=fun e he hb heq=>by
        have h1:=hall e he hb;have h0:=(mem_ready.1 hr).1;rw [heq] at h1;rcases Nat.lt_or_ge i listed.size with h' | h'
        · simp [h'] at h0 h1;rw [h0] at h1;cases h1
        · simp [Array.getElem?_eq_none h'] at h1
      have hjL:j≠L:=fun e=>by
        subst e;obtain ⟨e,he,hb,hon⟩:=hL oj hoj i (Array.getElem?_eq_some_iff.1 hi).1 (Ne.symm hji);exact hnot e he hb hon
      have h2:=wpOp_putIf hoj (hfree j oj hoj hji hjun hnot) (fun cs b=>hsel i oi cs b hi) (fun cs b=>hsel j oj cs b hoj) hQ hy (H.2 j (ready_mono hj hji));refine wpOp_mono (fun a' w' h3=>?_) h2;have hS':S w':=h3.2.1 hjL;refine ⟨fun _=>hS',ih _ a' w' (fun k ok hk hki hun hno=>?_) (ready_mono hr (Ne.symm hji)) h3.1 hS' ?_⟩
      · refine hfree k ok hk hki ?_ hno;rcases Decidable.em (j=k) with rfl | hjk
        · exact hjun
        · rw [getD_set_ne true hjk] at hun;exact hun
      · rw [Array.setIfInBounds_comm _ _ hji];exact h3.2.2
theorem wpAnyE_take (hL:Lasts md ops L) {i:Nat} {oi:Oper} {v:Value} {k:Nat} {listed:Array Bool} {a:Act} {w:World} (hi:ops[i]? = some oi)
    (hs:Region.noSelect ops=true) (hf:Region.free md ops listed i=true) (hr:(Region.ready md ops listed).contains i=true)
    (hQ:∀ c a w,Q (.panic c) (a.put oi.dst v) w→Q (.panic c) a w) (hy:YieldsIf P ops S oi v a) (hS:S w)
    (h:wpAnyE P md ops L Q S k (listed.setIfInBounds i true) (a.put oi.dst v) w):wpAnyE P md ops L Q S (k+1) listed a w :=
  wpAnyE_first hL hi (Region.noSelect_spec hs) hQ k listed a w (Region.free_spec hi hf) (by simpa using hr) hy hS h
theorem wpAnyE_all {rs:List Nat} {k:Nat} {listed:Array Bool} {a:Act} {w:World} (hr:Region.ready md ops listed=rs) (hne:rs≠[])
    (h:∀ i∈rs,wpOp P ops Q i (fun a' w'=>(i≠L→S w')∧wpAnyE P md ops L Q S k (listed.setIfInBounds i true) a' w') a w):wpAnyE P md ops L Q S (k+1) listed a w :=
  ⟨fun h0=>absurd (hr▸h0) hne,hr▸h⟩
theorem wpAnyE_done {listed:Array Bool} {a:Act} {w:World} (hr:Region.ready md ops listed=[]) (h:Q .normal a w) :
    ∀ k,wpAnyE P md ops L Q S k listed a w
  | 0=>⟨hr,h⟩
  | _+1=>⟨fun _=>h,by rw [hr];simp⟩
end
def lastOr {α:Type}:List α→Prop→Prop→Prop
  | [],_,X=>X
  | _ :: _,E,X=>E∧X
noncomputable def hOpsS (P:Program) (T:Tab) (n:Nat) (w0:World) (all:List Oper) (os:List (Oper×Bool)):Fr→World→(Fr→World→Prop)→Prop :=
  List.rec (motive:=fun _=>Fr→World→(Fr→World→Prop)→Prop) (fun f w K=>K f w)
    (fun o os ih f w K=>vcGuard all o.1 f
      (fun f=>match (!o.2 || isPure o.1.op) with
        | true=>dOne P T w0 o.1 f fun f=>ih f w K
        | false=>vcOne P T n o.1 f w fun f w'=>lastOr os (Ext w0 w') (ih f w' K))
      (fun f=>putK o.1.dst f undef fun f=>ih f w K)) os
theorem hOpsS_cons (P:Program) (T:Tab) (n:Nat) (w0:World) (all:List Oper) (o:Oper×Bool) (os:List (Oper×Bool)) (f:Fr) (w:World) (K:Fr→World→Prop) :
    hOpsS P T n w0 all (o :: os) f w K=vcGuard all o.1 f
      (fun f=>match (!o.2 || isPure o.1.op) with
        | true=>dOne P T w0 o.1 f fun f=>hOpsS P T n w0 all os f w K
        | false=>vcOne P T n o.1 f w fun f w'=>lastOr os (Ext w0 w') (hOpsS P T n w0 all os f w' K))
      (fun f=>putK o.1.dst f undef fun f=>hOpsS P T n w0 all os f w K):=rfl
theorem hOpsS_sound {L:Nat} {P:Program} {T:Tab} (hT:T.fok P=true) {n:Nat} {ops:Array Oper} (hok:okOps n ops=true) (hs:Region.noSelect ops=true) (hL:Lasts .any ops L) {w0:World} {Q:Exit→Act→World→Prop} (hQp:∀ c a w,¬ Q (.panic c) a w) {K:Fr→World→Prop} (hQ:∀ f w,K f w→Q .normal (act n f) w) :
    ∀ (plan:List (Nat×Bool)) (listed:Array Bool) (f:Fr) (w:World),planB ops plan listed=true→(∀ x,plan.getLast? = some x→x.1=L)→Ext w0 w→hOpsS P T n w0 ops.toList (selP ops.toList plan) f w K →
      wpAnyE P .any ops L Q (fun w'=>Ext w0 w') plan.length listed (act n f) w
  | [],listed,f,w,hB,_,_,h=>by
    simp only [planB,List.isEmpty_iff] at hB;exact wpAnyE_done hB (hQ f w h) _
  | (i,s) :: l,listed,f,w,hB,hlast,hw,h=>by
    simp only [planB,Bool.and_eq_true] at hB;obtain ⟨h1,hB'⟩:=hB;have hrd:i∈Region.ready .any ops listed:=by
      cases s
      · simp only [Bool.and_eq_true] at h1;simpa using h1.1.1
      · simp only [beq_iff_eq] at h1;rw [h1];simp
    obtain ⟨_,o,h0,_⟩:=mem_ready.1 hrd;have h0':ops.toList[i]? = some o:=by simpa using h0
    have hoki:okOper n ops o=true:=by
      unfold okOps at hok;rw [List.all_eq_true] at hok;exact hok _ (List.mem_of_getElem? h0')
    have hsel:selP ops.toList ((i,s) :: l)=(o,s) :: selP ops.toList l:=by
      unfold selP;rw [List.filterMap_cons_some (b:=(o,s)) (by simp [h0'])]
    rw [hsel,hOpsS_cons] at h;have hg:=vcGuard_sound hoki h;have hlast':∀ x,l.getLast? = some x→x.1=L:=fun x hx=>hlast x (by
      cases l with
      | nil=>simp at hx
      | cons y l'=>rw [List.getLast?_cons_cons];exact hx)
    have ih:=fun (f:Fr) (w:World) (hw:Ext w0 w) (h:hOpsS P T n w0 ops.toList (selP ops.toList l) f w K)=>hOpsS_sound hT hok hs hL hQp hQ l (listed.setIfInBounds i true) f w hB' hlast' hw h;have byVal:∀ v,(Region.wanted o (yielded ops (act n f).tmps)=true→∀ w',Ext w0 w'→(execOp (act n f).eval o).run P w' = .ok (.value v) w')→(Region.wanted o (yielded ops (act n f).tmps)=false→v=undef) →
        hOpsS P T n w0 ops.toList (selP ops.toList l) (put f o.dst v) w K→wpOp P ops Q i (fun a' w'=>(i≠L→Ext w0 w')∧wpAnyE P .any ops L Q (fun w'=>Ext w0 w') l.length (listed.setIfInBounds i true) a' w') (act n f) w:=by
      intro v hv hv2 hk;have hy:YieldsIf P ops (fun w'=>Ext w0 w') o v (act n f):=by
        cases hwn:Region.wanted o (yielded ops (act n f).tmps) with
        | true=>exact .inl ⟨hwn,hv hwn⟩
        | false=>exact .inr ⟨hwn,hv2 hwn⟩
      refine hy.wpOp h0 hw ⟨fun _=>hw,?_⟩;rw [act_puto];exact ih _ _ hw hk
    cases s with
    | false =>
      simp only [Bool.and_eq_true,h0,Bool.not_eq_true'] at h1;obtain ⟨⟨hr,hf⟩,hnc⟩:=h1;have take:∀ v,(Region.wanted o (yielded ops (act n f).tmps)=true→∀ w',Ext w0 w'→(execOp (act n f).eval o).run P w' = .ok (.value v) w')→(Region.wanted o (yielded ops (act n f).tmps)=false→v=undef) →
          hOpsS P T n w0 ops.toList (selP ops.toList l) (put f o.dst v) w K→wpAnyE P .any ops L Q (fun w'=>Ext w0 w') (l.length+1) listed (act n f) w:=by
        intro v hv hv2 hk;have hy:YieldsIf P ops (fun w'=>Ext w0 w') o v (act n f):=by
          cases hwn:Region.wanted o (yielded ops (act n f).tmps) with
          | true=>exact .inl ⟨hwn,hv hwn⟩
          | false=>exact .inr ⟨hwn,hv2 hwn⟩
        refine wpAnyE_take hL h0 hs hf hr (fun c a w hq=>(hQp _ _ _ hq).elim) hy hw ?_;rw [act_puto];exact ih _ _ hw hk
      split at hg
      · rename_i hwn;simp only [Bool.not_false,Bool.true_or] at hg;obtain ⟨v,hv,hk⟩:=dOne_yields hT hoki hnc hg;exact take v (fun _=>hv) (fun hf=>by rw [hwn] at hf;cases hf) hk
      · rename_i hwn;rw [putK_iff] at hg;exact take undef (fun ht=>absurd ht hwn) (fun _=>rfl) hg
    | true =>
      simp only [beq_iff_eq] at h1;refine wpAnyE_all h1 (by simp) fun j hj=>?_;simp only [List.mem_singleton] at hj;subst hj;split at hg
      · rename_i hwn;simp only [Bool.not_true,Bool.false_or] at hg;cases hp:isPure o.op with
        | true =>
          rw [hp] at hg;obtain ⟨v,hv,hk⟩:=dOne_yields hT hoki (isPure_notCall hp) hg;exact byVal v (fun _=>hv) (fun hf=>by rw [hwn] at hf;cases hf) hk
        | false =>
          rw [hp] at hg;unfold wpOp;simp only [h0,hwn,if_true];exact .inl (vcOne_sound hT hoki hg fun f w hk=>by
            cases l with
            | nil =>
              simp only [planB,List.isEmpty_iff] at hB';exact ⟨fun hne=>absurd (hlast (j,true) rfl) hne,wpAnyE_done hB' (hQ f w hk) _⟩
            | cons y l' =>
              obtain ⟨j2,s2⟩:=y;have hrd2:j2∈Region.ready .any ops (listed.setIfInBounds j true):=by
                simp only [planB,Bool.and_eq_true] at hB';cases s2
                · simp only [Bool.and_eq_true] at hB';simpa using hB'.1.1.1
                · simp only [beq_iff_eq] at hB';rw [hB'.1];simp
              obtain ⟨_,o2,h02,_⟩:=mem_ready.1 hrd2;have hsel2:selP ops.toList ((j2,s2) :: l')=(o2,s2) :: selP ops.toList l':=by
                unfold selP;rw [List.filterMap_cons_some (b:=(o2,s2)) (by simp [h02])]
              rw [hsel2] at hk;have hk':Ext w0 w∧hOpsS P T n w0 ops.toList ((o2,s2) :: selP ops.toList l') f w K:=hk;rw [← hsel2] at hk';exact ⟨fun _=>hk'.1,ih _ _ hk'.1 hk'.2⟩)
      · rename_i hwn;rw [putK_iff] at hg;exact byVal undef (fun ht=>absurd ht hwn) (fun _=>rfl) hg
def lastsB (ops:Array Oper):Bool:=(List.range (ops.size - 1)).all fun m=>edgeB ops m (ops.size - 1)
theorem lastsB_spec {ops:Array Oper} (h:lastsB ops=true):Lasts .any ops (ops.size - 1):=by
  intro o ho m hm hne;unfold lastsB at h;rw [List.all_eq_true] at h;obtain ⟨o',ho',e,he,hb,hon⟩:=edge_spec (h m (List.mem_range.2 (by omega)));rw [ho] at ho';cases ho'
  exact ⟨e,he,hb,hon⟩
theorem DrawK.heldS {P:Program} {T:Tab} (hT:T.fok P=true) (hm:P.follows .mixedOrders=true) {n:Nat} {ops:Array Oper} (plan:List (Nat×Bool)) (hok:okOps n ops=true) (hB:(heldB ops plan && lastsB ops && (plan.getLast?.all fun x=>Nat.beq x.1 (ops.size - 1)))=true) {f:Fr} {w:World} {K:Fr→World→Prop}
    (h:∀ w1,Ext w w1→hOpsS P T n w ops.toList (selP ops.toList plan) f w1 K):DrawK P n ops f w K:=by
  unfold DrawK;intro id;simp only [heldB,Bool.and_eq_true] at hB;obtain ⟨⟨⟨⟨hs,hl⟩,hB⟩,hL⟩,hla⟩:=hB;refine wp_region_any hm (wpAnyE_any (L:=ops.size - 1) (S:=fun w'=>Ext w w') _ _ _ _ ?_);have e1:Ext w { w with drawn:=w.drawn+1 }:=⟨rfl,rfl,rfl,Nat.le_refl _,fun _ _=>rfl⟩;have:=hOpsS_sound hT hok hs (lastsB_spec hL) (Q:=lift n K (fun _ _ _=>False) (fun _ _=>False)) (fun c a w hq=>hq.elim) (fun f w hk=>⟨f,rfl,hk⟩) plan _ f _ hB (fun x hx=>by
    rw [hx] at hla;exact Nat.eq_of_beq_eq_true (by simpa using hla)) e1 (h _ e1)
  rw [Nat.eq_of_beq_eq_true hl] at this;exact this
end Go.Vc
namespace Go.Vc
open Go Go.RowKit
def bs (l:List UInt8):ByteArray:=⟨l.toArray⟩
theorem bs_data (l:List UInt8):(bs l).data.toList=l:=rfl
theorem bs_size (l:List UInt8):(bs l).size=l.length:=rfl
theorem bs_append (a b:List UInt8):bs a++bs b=bs (a++b):=by
  apply ByteArray.ext;show (bs a++bs b).data=_;rw [ByteArray.data_append];simp [bs]
theorem bs_self (s:ByteArray):bs s.data.toList=s:=by
  apply ByteArray.ext;simp [bs]
def seqVals:Nat→List (Nat×Value)→Option (List Value)
  | _,[]=>some []
  | k,(i,v) :: r=>bif Nat.beq i k then (seqVals (k+1) r).map (v :: ·) else none
def cellsOf (vs:List Value):List Value:=vs.flatMap fun v=>v.cells.toList
theorem foldl_splice:∀ (l:List Value) (cs:Array Value) (off j:Nat),((l.zipIdx j).foldl (fun cs (c,j)=>cs.setIfInBounds (off+j) c) cs).toList=splice cs.toList (off+j) l
  | [],cs,off,j=>rfl
  | v :: l,cs,off,j=>by
    simp only [List.zipIdx_cons,List.foldl_cons,splice];rw [foldl_splice l];simp [Nat.add_assoc]
theorem fill_seq {sz:Nat}:∀ (parts:List (Nat×Value)) (k:Nat) (vs:List Value) (done:List Value) (rest:List Value),seqVals k parts=some vs→(∀ v∈vs,v.cells.size=sz)→done.length=k * sz→rest.length=vs.length * sz →
    Instr.fill (fun i=>some (i * sz,sz)) (done++rest).toArray parts=some (done++cellsOf vs).toArray
  | [],k,vs,done,rest,h,_,hd,hr=>by
    simp only [seqVals,Option.some.injEq] at h;subst h;have:rest=[]:=List.eq_nil_of_length_eq_zero (by simpa using hr);subst this;rfl
  | (i,v) :: parts,k,vs,done,rest,h,hc,hd,hr=>by
    simp only [seqVals] at h;cases hb:Nat.beq i k with
    | false=>rw [hb] at h;cases h
    | true =>
      rw [hb] at h;have hik:i=k:=Nat.eq_of_beq_eq_true hb;subst hik;simp only [cond_true,Option.map_eq_some_iff] at h;obtain ⟨vs',h',rfl⟩:=h;have hv:v.cells.size=sz:=hc v (by simp);simp only [List.length_cons,Nat.add_mul,Nat.one_mul] at hr;unfold Instr.fill;have hcond:¬ (v.cells.size≠sz∨i * sz+v.cells.size > (done++rest).toArray.size):=by
        simp only [List.size_toArray,List.length_append];omega
      simp only [Bool.or_eq_true,decide_eq_true_eq,hcond,if_false];have hsp:(v.cells.zipIdx.foldl (fun cs (c,j)=>cs.setIfInBounds (i * sz+j) c) (done++rest).toArray)=(done++v.cells.toList++rest.drop sz).toArray:=by
        apply Array.toList_inj.1;have h1:=foldl_splice v.cells.toList (done++rest).toArray (i * sz) 0;rw [← Array.foldl_toList];have h2:v.cells.zipIdx.toList=v.cells.toList.zipIdx 0:=by simp
        rw [h2,h1];rw [splice_eq _ _ _ (by simp;omega)];simp only [Nat.add_zero,List.append_assoc];rw [← hd,List.take_left,List.drop_append];have hvl:v.cells.toList.length=sz:=by simp [hv]
        rw [List.drop_eq_nil_of_le (by omega)];have:done.length+v.cells.toList.length - done.length=sz:=by omega
        rw [this];simp
      have ih:=fill_seq parts (i+1) vs' (done++v.cells.toList) (rest.drop sz) h' (fun u hu=>hc u (by simp [hu])) (by simp [hd,hv,Nat.add_mul]) (by simp;omega);rw [hsp,ih];simp [cellsOf]
section
variable {P:Program}
theorem SemK.buildSlice {t e by_:Nat} {zs:List Value} (ht:mkInfo P t=some (e,zs,by_)) {len:Nat} {parts:List (Nat×Value)} (vs:List Value) (hv:seqVals 0 parts=some vs) (hlen:vs.length=len) (hc:∀ v∈vs,v.cells.size=zs.length)
    (hsmall:len * zs.length≤16777216) {w:World} {K:Value→World→Prop} (hK:∀ b w',w.heap.size≤b→b<w'.heap.size→Ext w w'→Blk w' b (cellsOf vs) e→K (.slice (some ⟨b,0,none⟩) len len) w') :
    SemK P (Instr.buildSlice t len parts.toArray) w K:=by
  obtain ⟨i,z,hu,hi,hz,rfl,rfl,hs,hp⟩:=mkInfo_spec ht;have hzl:z.cells.toList.length=i.size:=by simp [hs]
  rw [hzl] at hc hsmall;refine SemK.of (v := .slice (some ⟨w.heap.size,0,none⟩) len len) (w':=w.alloc (.cells (cellsOf vs).toArray e)) ?_ (hK _ _ (Nat.le_refl _) ?_ (alloc_ext _ _) (alloc_blk w _ _))
  · have hn:¬ (len * i.size > 2 ^ 24):=by omega
    have hf:∀ zs:Array Value,zs.size=len * i.size→Instr.fill (fun k=>some (k * i.size,i.size)) zs parts=some (cellsOf vs).toArray:=fun zs hzs=>by
      have:=fill_seq (sz:=i.size) parts 0 vs [] zs.toList hv hc (by simp) (by simp [hzs,hlen]);simpa using this
    by_cases h0:len * i.size=0
    · have h0':len=0:=by
        rcases Nat.mul_eq_zero.1 h0 with h | h
        · exact h
        · omega
      subst h0';simp only [Instr.buildSlice,Sem.run_bind,run_underlying hu,Result.andThen_ok,sizeOf,typeInfo,Sem.run_pure,program,Sem.run,hi];simp;rw [hf _ (by simp)];rfl
    · have h1:(zeroValue e).run P w = .ok z w:=by simp [zeroValue,typeInfo,hi,hz]
      have hl:len≠0:=fun h=>h0 (by simp [h]);have hl2:i.size≠0:=by omega
      simp only [Instr.buildSlice,Sem.run_bind,run_underlying hu,Result.andThen_ok,sizeOf,typeInfo,Sem.run_pure,program,Sem.run,hi];simp only [if_neg hn,Sem.run_pure,Result.andThen_ok,if_neg h0,Sem.run_bind,h1];simp only [hf _ (show ((Array.range (len * i.size)).map (z.cells[· % z.cells.size]!)).size=len * i.size by simp)];rfl
  · show w.heap.size<(w.heap.push _).size;simp
def byteCells (l:List UInt8):List Value:=l.map fun c=>.int .u8 c.toNat
def isBytes (P:Program) (t:Nat):Bool :=
  match P.underlying t with
  | some (.slice e)=>match P.underlying e with
    | some (.int .u8)=>true
    | _=>false
  | _=>false
theorem isBytes_spec {t:Nat} (h:isBytes P t=true):∃ e,P.underlying t=some (.slice e)∧P.underlying e=some (.int .u8):=by
  unfold isBytes at h;split at h<;>try cases h
  rename_i e hu;split at h<;>try cases h
  rename_i he;exact ⟨_,hu,he⟩
theorem foldl_push:∀ (l:List UInt8) (s:ByteArray),(l.map fun c=>(c.toNat:Int)).foldl (fun r n=>r.push (UInt8.ofNat n.toNat)) s=⟨s.data++l.toArray⟩
  | [],s=>by simp
  | c :: l,s=>by
    simp only [List.map_cons,List.foldl_cons,foldl_push l];apply ByteArray.ext;simp [ByteArray.push]
theorem SemK.toStr {s t:Nat} (hs:isBytes P s=true) (ht:isStr P t=true) {w:World} {b o n c:Nat} {l:List UInt8} (h:Cells w b o (byteCells l)) (hn:l.length=n) {K:Value→World→Prop} (hK:K (.string (bs l)) w) :
    SemK P (convert s t (.slice (some ⟨b,o,none⟩) n c)) w K:=by
  obtain ⟨e,hu,he⟩:=isBytes_spec hs;have hd:P.underlying t=some .string:=by
    unfold isStr at ht;split at ht<;>simp_all
  refine SemK.of ?_ hK;rw [run_convert_bytes_string w s t e _ _ _ hu he hd];have h1:=run_loadCellsFrom (P:=P) (w:=w) (b:=b) (o:=o) n 0 #[] (byteCells l) (by simp [byteCells,hn]) (by simpa using h);have h2:(loadCells ⟨b,o,none⟩ n).run P w = .ok ((l.map fun c=>(c.toNat:Int)).map (Value.int .u8)).toArray w:=by
    unfold loadCells;rw [h1];simp [byteCells,Function.comp_def]
  rw [run_bytesToString w ⟨b,o,none⟩ n c _ h2,foldl_push];congr 2;apply ByteArray.ext;simp [bs]
theorem SemK.toStr0 {s t:Nat} (hs:isBytes P s=true) (ht:isStr P t=true) {w:World} {n c:Nat} {K:Value→World→Prop} (hK:K (.string (bs [])) w) :
    SemK P (convert s t (.slice none n c)) w K:=by
  obtain ⟨e,hu,he⟩:=isBytes_spec hs;have hd:P.underlying t=some .string:=by
    unfold isStr at ht;split at ht<;>simp_all
  refine SemK.of ?_ hK;rw [run_convert_bytes_string w s t e _ _ _ hu he hd];simp [Conv.bytesToString];rfl
end
theorem jL {P:Program} {ty:Nat} {w:World} {b o k:Nat} {vs:List Value} (h:Cells w b o vs) {v:Value} (hk:vs[k]? = some v) {K:Value→World→Prop} (hK:K v w) (hty:oneCell P ty=true:=by kernel_rfl):SemK P (Instr.loadAt ty (.pointer (some ⟨b,o+k,none⟩))) w K:=SemK.load1 hty h hk hK
theorem jO {P:Program} {ty:Nat} {w:World} {b o:Nat} {vs:List Value} (h:Cells w b o vs) {v:Value} (hk:vs[0]? = some v) {K:Value→World→Prop} (hK:K v w) (hty:oneCell P ty=true:=by kernel_rfl):SemK P (Instr.loadAt ty (.pointer (some ⟨b,o,none⟩))) w K:=SemK.load0 hty h hk hK
theorem jA {P:Program} {ty n:Nat} {w:World} {b o:Nat} {vs:List Value} (h:Cells w b o vs) (hn:vs.length=n) {K:Value→World→Prop} (hK:K (.agg vs.toArray) w) (hty:aggSize P ty=some n:=by kernel_rfl):SemK P (Instr.loadAt ty (.pointer (some ⟨b,o,none⟩))) w K:=SemK.loadAgg hty h hn hK
theorem jI {P:Program} {α:Type} {enc:α→List Value} {sz t:Nat} {w:World} {a:Option Addr} {n c:Nat} {xs:List α} (h:Arr enc sz w a n xs) {i:Int} (k:Nat) (hi:i=k) {x:α} (hx:xs[k]? = some x) {kd:IntKind} {K:Value→World→Prop} (hK:∀ b o,a=some ⟨b,o,none⟩→Cells w b (o+k * sz) (enc x)→K (.pointer (some ⟨b,o+k * sz,none⟩)) w) (ht:elemSize P t=some sz:=by kernel_rfl):SemK P (Instr.indexAt t (.slice a n c) (.int kd i)) w K:=SemK.index ht h k hi hx hK
theorem jW {P:Program} {sz t:Nat} {w:World} {b o n c:Nat} {i:Int} (k:Nat) (hi:i=k) (hlt:k<n) {kd:IntKind} {K:Value→World→Prop} (hK:K (.pointer (some ⟨b,o+k * sz,none⟩)) w) (ht:elemSize P t=some sz:=by kernel_rfl):SemK P (Instr.indexAt t (.slice (some ⟨b,o,none⟩) n c) (.int kd i)) w K:=SemK.indexOwn ht k hi hlt hK
theorem jN {P:Program} {t:Nat} {z:Value} {w:World} {K:Value→World→Prop} (hK:∀ b w',w.heap.size≤b→b<w'.heap.size→Ext w w'→Blk w' b z.cells.toList t→K (.pointer (some ⟨b,0,none⟩)) w') (hz:(P.info? t).bind (·.zero)=some z:=by kernel_rfl):SemK P (Instr.alloc t true (.tuple #[])) w K:=SemK.alloc hz hK
theorem jR {P:Program} {t n:Nat} {w:World} {b o:Nat} {vs:List Value} (hl:vs.length=n) (h:Cells w b o vs) (ht:aggSize P t=some n:=by kernel_rfl):(Instr.loadAt t (.pointer (some ⟨b,o,none⟩))).run P w = .ok (.agg vs.toArray) w:=run_loadAgg ht hl h
theorem dL {P:Program} {ty:Nat} {w:World} {b o k:Nat} {vs:List Value} (h:Cells w b o vs) {v:Value} (hk:vs[k]? = some v) {K:Value→Prop} (hK:K v) (hty:oneCell P ty=true:=by kernel_rfl):DSemK P (Instr.loadAt ty (.pointer (some ⟨b,o+k,none⟩))) w K:=DSemK.load1 hty h hk hK
theorem dO {P:Program} {ty:Nat} {w:World} {b o:Nat} {vs:List Value} (h:Cells w b o vs) {v:Value} (hk:vs[0]? = some v) {K:Value→Prop} (hK:K v) (hty:oneCell P ty=true:=by kernel_rfl):DSemK P (Instr.loadAt ty (.pointer (some ⟨b,o,none⟩))) w K:=DSemK.load0 hty h hk hK
theorem dA {P:Program} {ty n:Nat} {w:World} {b o:Nat} {vs:List Value} (h:Cells w b o vs) (hn:vs.length=n) {K:Value→Prop} (hK:K (.agg vs.toArray)) (hty:aggSize P ty=some n:=by kernel_rfl):DSemK P (Instr.loadAt ty (.pointer (some ⟨b,o,none⟩))) w K:=DSemK.loadAgg hty h hn hK
theorem dI {P:Program} {α:Type} {enc:α→List Value} {sz t:Nat} {w:World} {a:Option Addr} {n c:Nat} {xs:List α} (h:Arr enc sz w a n xs) {i:Int} (k:Nat) (hi:i=k) {x:α} (hx:xs[k]? = some x) {kd:IntKind} {K:Value→Prop} (hK:∀ b o,a=some ⟨b,o,none⟩→Cells w b (o+k * sz) (enc x)→K (.pointer (some ⟨b,o+k * sz,none⟩))) (ht:elemSize P t=some sz:=by kernel_rfl):DSemK P (Instr.indexAt t (.slice a n c) (.int kd i)) w K:=DSemK.index ht h k hi hx hK
theorem jT {P:Program} {ty:Nat} {w:World} {b t k:Nat} {cs:List Value} (h:Blk w b cs t) (hk:k<cs.length) {v:Value} (hv:cellish v=true) {K:Unit→World→Prop} (hK:∀ w',Chg b w w'→Blk w' b (cs.set k v) t→K () w') (hty:oneCell P ty=true:=by kernel_rfl):SemK P (Instr.storeAt ty (.pointer (some ⟨b,k,none⟩)) v) w K:=SemK.store1 hty h hk hv hK
theorem jC {P:Program} {t:Nat} {s:ByteArray} {i:Int} {c:UInt8} (k:Nat) (hi:i=k) (hk:s.data.toList[k]? = some c) {kd:IntKind} {w:World} {K:Value→World→Prop} (hK:K (.int .u8 c.toNat) w) (ht:isStr P t=true:=by kernel_rfl):SemK P (Instr.index t (.string s) (.int kd i)) w K:=SemK.char ht k hi hk hK
theorem xt {a b c : World} (h : Ext a b) (k : Ext b c) : Ext a c:=Ext.trans h k
theorem xm {S : Nat → Prop} {a w w' : World} (e : Ext a w) (h : Mod S w w') (hb : ∀ k, S k → a.heap.size ≤ k) : Ext a w':=Ext.mod_trans e h hb
theorem xb {b : Nat} {a w w' : World} (e : Ext a w) (h : But b w w') (hb : a.heap.size ≤ b) : Ext a w':=Ext.but_trans e h hb
theorem bS {P:Program} {t e by_:Nat} {zs:List Value} (ht:mkInfo P t=some (e,zs,by_)) {len:Nat} {parts:List (Nat×Value)} (vs:List Value) {w:World} {K:Value→World→Prop} (hK:∀ b w',w.heap.size≤b→b<w'.heap.size→Ext w w'→Blk w' b (cellsOf vs) e→K (.slice (some ⟨b,0,none⟩) len len) w') (hv:seqVals 0 parts=some vs:=by rfl) (hlen:vs.length=len:=by rfl) (hc:∀ v∈vs,v.cells.size=zs.length:=by simp [Value.cells]) (hsmall:len * zs.length≤16777216:=by decide):SemK P (Instr.buildSlice t len parts.toArray) w K:=SemK.buildSlice ht vs hv hlen hc hsmall hK
end Go.Vc
