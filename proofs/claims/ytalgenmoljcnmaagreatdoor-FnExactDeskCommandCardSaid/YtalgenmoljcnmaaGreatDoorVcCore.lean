/- Parts of the proof; no conditions of its own. -/
import Derived.WalkKit
import Derived.Deep.Quiet
import Derived.OrdersHeld
import Derived.Laws.BytesString
namespace Go
variable {p:Prop}
theorem om (h:p:=by omega):p:=h
theorem kR (h:p:=by kernel_rfl):p:=h
theorem sI (h:p:=by simp):p:=h
theorem dE (h:p:=by decide):p:=h
theorem dK (h:p:=by decide +kernel):p:=h
theorem sW (h:p:=by simp;omega):p:=h
theorem rF (h:p:=by rfl):p:=h
end Go
namespace Go.Vc
section
open Go Go.RowKit
abbrev Fr:=Nat->Value
def W2 (f:Fr) (d:Nat) (v:Value):Fr:=fun i=>bif Nat.beq i d then v else f i
def put (f:Fr):Option Nat->Value->Fr
 | some d,v=>W2 f d v
 | none,_=>f
def A3 (n:Nat) (f:Fr):Act:={ tmps:=Array.ofFn (fun i:Fin n=>f i),defers:=[] }
def ev (f:Fr):Operand->Value
 | .tmp t=>f t
 | .const v=>v
 | .global g=>.pointer (some ⟨g,0,none⟩)
 | .func g=>.func (.func g) #[] #[]
theorem VK (f:Fr) (d:Nat) (v:Value):W2 f d v d=v:=by simp [W2]
theorem ZQ (f:Fr) {d i:Nat} (v:Value) (h:i≠d):W2 f d v i=f i:=by
 have a:Nat.beq i d=false:=by
  cases b:Nat.beq i d with
  | false=>rfl
  | true=>exact absurd (Nat.eq_of_beq_eq_true b) h
 simp [W2,a]
theorem aF9 (n:Nat) (f:Fr) {t:Nat} (h:t<n):(A3 n f).tmps[t]? = some (f t):=by
 simp [A3,h]
theorem Rg (n:Nat) (f:Fr) {t:Nat} (h:t<n) (u:Value):(A3 n f).tmps.getD t u=f t:=by
 simp [A3,h]
theorem aF8 (n:Nat) (f:Fr) {d:Nat} (v:Value):(A3 n f).put (some d) v=A3 n (W2 f d v):=by
 have c:(Array.ofFn (fun a:Fin n=>f a)).setIfInBounds d v=Array.ofFn (fun a:Fin n=>W2 f d v a):=by
  apply Array.ext
  .simp
  .intro a h e;have g:a<n:=by simpa using e
   rw [Array.getElem_ofFn,Array.getElem_setIfInBounds];by_cases b:d=a
   .subst b;simp [VK]
   .rw [if_neg b,Array.getElem_ofFn,ZQ f v (Ne.symm b)]
   .simpa using g
 simp only [A3,Act.put,c]
theorem BL (n:Nat) (f:Fr) (d:Option Nat) (v:Value):(A3 n f).put d v=A3 n (put f d v):=by
 cases d with
 | none=>rfl
 | some d=>exact aF8 n f v
def TJ (n:Nat):Operand->Bool
 | .tmp t=>Nat.blt t n
 | _=>true
theorem Ae {n:Nat} {f:Fr} {x:Operand} (h:TJ n x=true):(A3 n f).eval x=ev f x:=by
 cases x with
 | tmp t=>simp only [Act.eval,ev];exact Rg n f (by simpa [TJ,Nat.blt_eq] using h) _
 | _=>rfl
def DH (n:Nat) (all:Array Oper) (o:Oper):Bool :=
  (o.op.operands.toList.all (TJ n)) &&
  (match o.guard with
   | none=>true
   | some (j,_)=>match (all[j]?).bind (·.dst) with
     | none=>true
     | some s=>Nat.blt s n)
@[reducible] def K3 (b:Bool) (X Y:Prop):Prop :=
 match b with
 | true=>X
 | false=>Y
theorem BU {b:Bool} {X Y:Prop} (h1:b=true->X) (h2:b=false->Y):K3 b X Y:=by
 cases b
 .exact h2 rfl
 .exact h1 rfl
theorem BA {b:Bool} {X Y:Prop} (h1:b=false->X) (h2:b=true->Y):K3 (!b) X Y:=by
 cases b
 .exact h1 rfl
 .exact h2 rfl
theorem AF {p:Prop} [Decidable p] {X Y:Prop} (h1:p->X) (h2:¬ p->Y):K3 (decide p) X Y:=by
 apply BU
 .intro a;exact h1 (of_decide_eq_true a)
 .intro a;exact h2 (of_decide_eq_false a)
theorem AW {p:Prop} [Decidable p] {X Y:Prop} (h1:¬ p->X) (h2:p->Y):K3 (!decide p) X Y:=by
 apply BU
 .intro a;exact h1 (of_decide_eq_false (by simpa using a))
 .intro a;exact h2 (of_decide_eq_true (by simpa using a))
theorem Fh {b:Bool} {X Y:Prop} (h:b=true) (h1:X):K3 b X Y:=by subst h;exact h1
theorem DY {b:Bool} {X Y:Prop} (h:b=false) (h1:Y):K3 b X Y:=by subst h;exact h1
theorem K3.yes {p:Prop} [Decidable p] {X Y:Prop} (h:p) (h1:X):K3 (decide p) X Y:=Fh (decide_eq_true h) h1
theorem K3.no {p:Prop} [Decidable p] {X Y:Prop} (h:¬ p) (h1:Y):K3 (decide p) X Y:=DY (decide_eq_false h) h1
def Pl (op:BinOp) (x y:Value):Option Value :=
 match x,y with
 | .int k a,.int k' b =>
  match op with
  | .eql=>if k=k' then some (.bool (decide (a=b))) else none
  | .neq=>if k=k' then some (.bool (!decide (a=b))) else none
  | .lss=>if k=k' then some (.bool (decide (a<b))) else none
  | .leq=>if k=k' then some (.bool (decide (a<=b))) else none
  | .gtr=>if k=k' then some (.bool (decide (b<a))) else none
  | .geq=>if k=k' then some (.bool (decide (b<=a))) else none
  | _=>none
 | .string a,.string b =>
  match op with
  | .eql=>some (.bool (decide (a=b)))
  | .neq=>some (.bool (!decide (a=b)))
  | .lss=>some (.bool (Op.bytesLess a.toList b.toList))
  | .leq=>some (.bool (Op.bytesLess a.toList b.toList || decide (a=b)))
  | .gtr=>some (.bool (!(Op.bytesLess a.toList b.toList || decide (a=b))))
  | .geq=>some (.bool (!Op.bytesLess a.toList b.toList))
  | _=>none
 | _,_=>none
theorem PC (a b:ByteArray):(a.toList == b.toList)=decide (a=b):=by
 rw [Bool.eq_iff_iff];simp only [beq_iff_eq,decide_eq_true_eq];constructor
 .intro c;rw [ByteArray.toList_eq,ByteArray.toList_eq] at c;obtain ⟨⟨d⟩⟩:=a;obtain ⟨⟨e⟩⟩:=b;simp at c;rw [c]
 .intro c;rw [c]
theorem Vk {P:Program} {op:BinOp} {t:TypeId} {x y:Value} {v:Value} (h:Pl op x y=some v) (X Y:Operand) (w:World) :
  ((do eqGuard op t X Y x y;binOp op t x y):Sem Value).run P w = .ok v w:=by
 unfold Pl at h;split at h
 .rename_i d b e c;split at h<;>(try (cases h;done)) <;>
  .split at h
   .rename_i a;subst a;simp only [Option.some.injEq] at h;subst h;simp [eqGuard,binOp,Op.intCmp,go_sem];try rfl
   .cases h
 .split at h<;>(try (cases h;done)) <;>
  .simp only [Option.some.injEq] at h;subst h;simp [eqGuard,binOp,Op.stringOp,go_sem,PC]
 .cases h
structure HS where
 fo:List (List Nat)
 es:List Nat
 ag:List (Option Nat)
 ik:List (Option IntKind)
 st:List Bool
def NI (P:Program) (s i:Nat):Option Nat :=
 match P.underlying s with
 | some (.struct fs)=>match fs[i]? with
  | some f=>match P.info? f.type with
   | some inf=>if inf.size=0 then none else some f.offset
   | none=>none
  | none=>none
 | _=>none
def CQ (P:Program) (t:Nat):Option Nat :=
 match P.underlying t with
 | some (.slice e)=>match P.info? e with
  | some inf=>some inf.size
  | none=>none
 | _=>none
def I9 (P:Program) (t:Nat):Option IntKind :=
 match P.underlying t with
 | some (.int k)=>some k
 | _=>none
def HF (P:Program) (t:Nat):Bool :=
 match P.underlying t with
 | some .string=>true
 | _=>false
def D1 (P:Program) (t:Nat):Option Nat :=
 match P.underlying t,P.info? t with
 | some (.struct _),some inf=>some inf.size
 | some (.array _ _),some inf=>some inf.size
 | _,_=>none
def DK (P:Program) (t:Nat):Bool :=
 match P.underlying t,P.info? t with
 | some (.struct _),_=>false
 | some (.array _ _),_=>false
 | some _,some inf=>inf.size == 1
 | _,_=>false
def HS.fok (P:Program) (T:HS):Bool :=
 (T.fo.zipIdx.all fun (l,s)=>l.zipIdx.all fun (o,i)=>NI P s i == some o) &&
 (T.es.zipIdx.all fun (n,t)=>n == 0 || CQ P t == some n) &&
 (T.ik.zipIdx.all fun (k,t)=>k == none || I9 P t == k) &&
 (T.st.zipIdx.all fun (b,t)=>!b || HF P t) &&
 (T.ag.zipIdx.all fun (n,t)=>match n with | some n=>D1 P t == some n | none=>true)
theorem JM {α:Type} {p:α×Nat->Bool} {l:List α} (h:l.zipIdx.all p=true) {i:Nat} {a:α} (hi:l[i]? = some a):p (a,i)=true:=by
 rw [List.all_eq_true] at h;apply h;rw [List.mem_zipIdx_iff_getElem?];simpa using hi
theorem ZI {P:Program} {T:HS} (h:T.fok P=true) {s i o:Nat} {l:List Nat} (h1:T.fo[s]? = some l) (h2:l[i]? = some o):NI P s i=some o:=by
 simp only [HS.fok,Bool.and_eq_true] at h;have:=JM (JM h.1.1.1.1 h1) h2;simpa using this
theorem ZJ {P:Program} {T:HS} (h:T.fok P=true) {t n:Nat} (h1:T.es[t]? = some (n+1)):CQ P t=some (n+1):=by
 simp only [HS.fok,Bool.and_eq_true] at h;have:=JM h.1.1.1.2 h1;simpa using this
theorem ZH {P:Program} {T:HS} (h:T.fok P=true) {t:Nat} (h1:T.st[t]? = some true):P.underlying t=some .string:=by
 simp only [HS.fok,Bool.and_eq_true] at h;have:=JM h.1.2 h1;simp [HF] at this;split at this<;>simp_all
theorem Gd {P:Program} {t n:Nat} (h:CQ P t=some n):∃ e inf,P.underlying t=some (.slice e)/\P.info? e=some inf/\inf.size=n:=by
 unfold CQ at h;split at h
 .rename_i e b;split at h
  .rename_i inf a;simp only [Option.some.injEq] at h;exact ⟨e,inf,b,a,h⟩
  .cases h
 .cases h
def Nk (T:HS) (f:Fr):Op->Option Value
 | .move x=>some (ev f x)
 | .assign x=>some (ev f x)
 | .pick c a b=>match ev f c with
  | .bool t=>some (bif t then ev f a else ev f b)
  | _=>none
 | .binOp op _ x y _=>match op with
  | .eql | .neq | .lss | .leq | .gtr | .geq=>Pl op (ev f x) (ev f y)
  | _=>none
 | .unOp .not _ x=>match ev f x with
  | .bool b=>some (.bool (!b))
  | _=>none
 | .extract x i=>match ev f x with
  | .tuple ⟨vs⟩=>vs[i]?
  | _=>none
 | .call { callee := .builtin .len,args:=⟨[x]⟩,argTypes:=⟨[t]⟩ }=>match ev f x with
  | .string s=>match T.st[t]? with
   | some true=>some (.int .i64 s.size)
   | _=>none
  | .slice _ k _=>match T.es[t]? with
   | some (_+1)=>some (.int .i64 k)
   | _=>none
  | _=>none
 | .makeFunc fn first captured=>some (.func fn (first.toList.map (ev f)).toArray (captured.toList.map (ev f)).toArray)
 | .fieldAddr s x i=>match ev f x with
  | .pointer (some ⟨b,off,none⟩)=>match T.fo[s]? with
   | some l=>match l[i]? with
    | some o=>some (.pointer (some ⟨b,off+o,none⟩))
    | none=>none
   | none=>none
  | _=>none
 | .nilCheck x=>match ev f x with
  | .pointer (some a)=>some (.pointer (some a))
  | .func (.func g) a b=>some (.func (.func g) a b)
  | _=>none
 | _=>none
theorem CT (b off o:Nat):(Addr.mk b off none).add o=⟨b,off+o,none⟩:=by
 unfold Addr.add;split
 .rename_i a;subst a;rfl
 .rfl
theorem Vi {P:Program} {s i o b off:Nat} (h:NI P s i=some o) (w:World) :
  (Instr.fieldAt s (.pointer (some ⟨b,off,none⟩)) i).run P w = .ok (.pointer (some ⟨b,off+o,none⟩)) w:=by
 unfold NI at h;split at h
 .rename_i g d;split at h
  .rename_i f a;split at h
   .rename_i j c;split at h
    .cases h
    .rename_i e;simp only [Option.some.injEq] at h;subst h;simp [Instr.fieldAt,run_underlying d,a,Instr.sureAddr,fieldPlace,sizeOf,typeInfo,c,e,CT]
   .cases h
  .cases h
 .cases h
theorem JZ {P:Program} {T:HS} (hT:T.fok P=true) {n:Nat} {f:Fr} {o:Oper} {v:Value}
  (hok:o.op.operands.toList.all (TJ n)=true) (h:Nk T f o.op=some v) (w:World) :
  (execOp (A3 n f).eval o).run P w = .ok (.value v) w:=by
 rw [List.all_eq_true] at hok;have e:∀ c,c∈o.op.operands.toList->(A3 n f).eval c=ev f c:=fun c k=>Ae (hok c k);clear hok;unfold Nk at h;unfold execOp;split at h
 .rename_i c a;simp only [Option.some.injEq] at h;subst h;simp only [a];have:=e c (by simp [a,Op.operands]);simp [this]
 .rename_i c a;simp only [Option.some.injEq] at h;subst h;simp only [a];have:=e c (by simp [a,Op.operands]);simp [this]
 .rename_i u m i a;simp only [a];have d:=e u (by simp [a,Op.operands]);have p:=e m (by simp [a,Op.operands]);have z:=e i (by simp [a,Op.operands]);split at h
  .rename_i l j;simp only [Option.some.injEq] at h;subst h;rw [d,p,z,j];cases l<;>simp [asBool]
  .cases h
 .rename_i op l c r aq a;simp only [a];have d:=e c (by simp [a,Op.operands]);have p:=e r (by simp [a,Op.operands]);rw [d,p];have ae:Pl op (ev f c) (ev f r)=some v:=by
   split at h<;>first | exact h | cases h
  have:=Vk (P:=P) (t:=l) ae c r w;simp only [Sem.run_bind] at this ⊢;rw [this];simp
 .rename_i l c a;simp only [a];have d:=e c (by simp [a,Op.operands]);split at h
  .rename_i i g;simp only [Option.some.injEq] at h;subst h;rw [d,g];simp [Op.unary]
  .cases h
 .rename_i c ad a;simp only [a];have d:=e c (by simp [a,Op.operands]);split at h
  .rename_i ap g;rw [d,g];simp [Instr.extract,h]
  .cases h
 .rename_i c l a;simp only [a];have d:=e c (by simp [a,Op.operands,Call.operands]);split at h
  .rename_i ag q;split at h
   .rename_i j;simp only [Option.some.injEq] at h;subst h;simp [resolve,d,q,invoke,builtin,Builtin.len_,run_underlying (ZH hT j),goInt]
   .cases h
  .rename_i al _ q;split at h
   .rename_i an j;simp only [Option.some.injEq] at h;subst h;obtain ⟨ah,ak,ac,_,_⟩:=Gd (ZJ hT j);simp [resolve,d,q,invoke,builtin,Builtin.len_,run_underlying ac,goInt]
   .cases h
  .cases h
 .rename_i ai first s a;simp only [a,Option.some.injEq] at h ⊢;subst h;have x:first.map (A3 n f).eval=(first.toList.map (ev f)).toArray:=by
   apply Array.toList_inj.1;simp only [Array.toList_map];apply List.map_congr_left;intro c k;exact e c (by simp [a,Op.operands];left;simpa using k)
  have y:s.map (A3 n f).eval=(s.toList.map (ev f)).toArray:=by
   apply Array.toList_inj.1;simp only [Array.toList_map];apply List.map_congr_left;intro c k;exact e c (by simp [a,Op.operands];right;simpa using k)
  rw [x,y];simp [Instr.makeFunc]
 .rename_i ag c ad a;simp only [a];have d:=e c (by simp [a,Op.operands]);split at h
  .rename_i i af g;split at h
   .rename_i am aa;split at h
    .rename_i ao ab;simp only [Option.some.injEq] at h;subst h;rw [d,g];have:=Vi (b:=i) (off:=af) (ZI hT aa ab) w;simp only [Sem.run_bind];rw [this];simp
    .cases h
   .cases h
  .cases h
 .rename_i c a;simp only [a];have d:=e c (by simp [a,Op.operands]);rw [d];split at h
  .rename_i m g;simp only [Option.some.injEq] at h;subst h;rw [g];rfl
  .rename_i aj m i g;simp only [Option.some.injEq] at h;subst h;rw [g];rfl
  .cases h
 .cases h
def Zz (P:Program) (g:Nat):Bool :=
 match P.funcs[g]? with
 | some fn=>fn.body.isSome && fn.name != "runtime.NumGoroutine"
 | none=>false
@[irreducible] def E2 (P:Program) (g:Nat) (args:List Value) (w:World) (R:Value->World->Prop):Prop :=
 Zz P g=true/\Calls P g args.toArray w (fun e w'=>∃ v,e = .returned v/\R v w')
theorem E2.mono {P:Program} {g:Nat} {args:List Value} {w:World} {R R':Value->World->Prop} (h:E2 P g args w R) (hr:∀ v w',R v w'->R' v w'):E2 P g args w R':=by
 unfold E2 at *;exact ⟨h.1,h.2.mono fun c w' ⟨v,a,b⟩=>⟨v,a,hr _ _ b⟩⟩
theorem E2.calls {P:Program} {g:Nat} {args:List Value} {w:World} {R:Value->World->Prop} (h:E2 P g args w R):Calls P g args.toArray w (fun e w'=>∃ v,e = .returned v/\R v w'):=by
 unfold E2 at h;exact h.2
theorem C4 {P:Program} {g:Nat} {args:List Value} {w:World} {R:Value->World->Prop} (hf:Zz P g=true) (h:Calls P g args.toArray w (fun e w'=>∃ v,e = .returned v/\R v w')):E2 P g args w R:=by
 unfold E2;exact ⟨hf,h⟩
@[irreducible] def OpK (P:Program) (n:Nat) (o:Oper) (f:Fr) (w:World) (K:Value->World->Prop):Prop :=
 ∀ (L:Act->World->Prop) (Q:Exit->Act->World->Prop),(∀ v w',K v w'->L ((A3 n f).put o.dst v) w')->o.wp P (A3 n f) w L Q
@[irreducible] def AB {α:Type} (P:Program) (s:Sem α) (w:World) (K:α->World->Prop):Prop :=
 ∃ v w',s.run P w = .ok v w'/\K v w'
theorem A6 {α:Type} {P:Program} {s:Sem α} {w w':World} {v:α} {K:α->World->Prop} (h:s.run P w = .ok v w') (hk:K v w'):AB P s w K:=by
 unfold AB;exact ⟨v,w',h,hk⟩
theorem AB.out {α:Type} {P:Program} {s:Sem α} {w:World} {K:α->World->Prop} (h:AB P s w K):∃ v w',s.run P w = .ok v w'/\K v w':=by
 unfold AB at h;exact h
def Bl (op:BinOp) (t:Nat) (X Y:Operand) (x y:Value):Sem Value:=do eqGuard op t X Y x y;binOp op t x y
def Lr (v:Value) (K:Value->Prop):Prop :=
 match v with
 | .bool b=>K (.bool b)
 | .int k n=>K (.int k n)
 | .float k n=>K (.float k n)
 | .complex k a b=>K (.complex k a b)
 | .string s=>K (.string s)
 | .pointer a=>K (.pointer a)
 | .slice a n c=>K (.slice a n c)
 | .map r=>K (.map r)
 | .chan r=>K (.chan r)
 | .func f a b=>K (.func f a b)
 | .nilFunc=>K .nilFunc
 | .iface t v=>K (.iface t v)
 | .nilIface=>K .nilIface
 | .agg cs=>K (.agg cs)
 | .tuple vs=>K (.tuple vs)
theorem GI (v:Value) (K:Value->Prop):Lr v K=K v:=by cases v<;>rfl
def Cq (d:Option Nat) (f:Fr) (v:Value) (K:Fr->Prop):Prop :=
 match d with
 | some d=>K (W2 f d v)
 | none=>K f
theorem AY (d:Option Nat) (f:Fr) (v:Value) (K:Fr->Prop):Cq d f v K=K (put f d v):=by cases d<;>rfl
def isC:Operand->Bool
 | .const _=>true
 | _=>false
def Fl (P:Program) (T:HS) (n:Nat) (o:Oper) (f:Fr) (w:World) (K:Fr->World->Prop):Prop :=
 match o.op with
 | .call { callee := .value x,args:=⟨as⟩,.. } =>
  match ev f x with
  | .func (.func g) ⟨first⟩ ⟨cap⟩=>E2 P g (first++as.map (ev f)++cap) w (fun v w'=>Cq o.dst f v fun f=>K f w')
  | _=>False
 | .load t x=>AB P (Instr.loadAt t (ev f x)) w (fun v w'=>Cq o.dst f v fun f=>K f w')
 | .store t x v=>AB P (Instr.storeAt t (ev f x) (ev f v)) w (fun _ w'=>Cq o.dst f undef fun f=>K f w')
 | .box t v=>AB P (Instr.box t (ev f v)) w (fun v w'=>Cq o.dst f v fun f=>K f w')
 | .alloc t=>AB P (Instr.alloc t true (.tuple #[])) w (fun v w'=>Cq o.dst f v fun f=>K f w')
 | .indexAddr t x i=>AB P (Instr.indexAt t (ev f x) (ev f i)) w (fun v w'=>Cq o.dst f v fun f=>K f w')
 | .index t x i=>AB P (Instr.index t (ev f x) (ev f i)) w (fun v w'=>Cq o.dst f v fun f=>K f w')
 | op=>match Nk T f op with
  | some v=>Lr v fun v=>Cq o.dst f v fun f=>K f w
  | none=>match op with
   | .binOp op t x y _=>AB P (Bl op t x y (ev f x) (ev f y)) w (fun v w'=>Cq o.dst f v fun f=>K f w')
   | .unOp op _ x=>AB P (Op.unary op (ev f x)) w (fun v w'=>Cq o.dst f v fun f=>K f w')
   | .convert s t x=>AB P (convert s t (ev f x)) w (fun v w'=>Cq o.dst f v fun f=>K f w')
   | .build t ⟨ps⟩=>AB P (Instr.build t (ps.map fun p=>(p.1,ev f p.2)).toArray) w (fun v w'=>Cq o.dst f v fun f=>K f w')
   | .buildSlice t k ⟨ps⟩=>AB P (Instr.buildSlice t k (ps.map fun p=>(p.1,ev f p.2)).toArray) w (fun v w'=>Cq o.dst f v fun f=>K f w')
   | .makeSlice t l c=>AB P (Instr.makeSlice t (ev f l) (ev f c)) w (fun v w'=>Cq o.dst f v fun f=>K f w')
   | .makeMap t r=>AB P (Instr.makeMap t (r.map (ev f))) w (fun v w'=>Cq o.dst f v fun f=>K f w')
   | .makeInterface t x=>AB P (Instr.makeInterface t (ev f x)) w (fun v w'=>Cq o.dst f v fun f=>K f w')
   | .slice t x lo hi mx=>AB P (Instr.sliceAt t (ev f x) (lo.map (ev f)) (hi.map (ev f)) (mx.map (ev f))) w (fun v w'=>Cq o.dst f v fun f=>K f w')
   | .field t x i=>AB P (Instr.field t (ev f x) i) w (fun v w'=>Cq o.dst f v fun f=>K f w')
   | .call { callee := .builtin b,args:=⟨as⟩,argTypes:=ats } =>
    AB P (builtin b ats o.type (as.map isC).toArray (as.map (ev f)).toArray) w (fun v w'=>match v with | .value v=>(Cq o.dst f v fun f=>K f w') | _=>False)
   | _=>OpK P n o f w (fun v w'=>Cq o.dst f v fun f=>K f w')
def EU (all:List Oper) (o:Oper) (f:Fr) (yes no:Fr->Prop):Prop :=
 match o.guard with
 | none=>yes f
 | some (j,want)=>match (all[j]?).bind (·.dst) with
  | none=>no f
  | some s=>match f s with
   | .bool b=>match want with
    | true=>K3 b (yes (W2 f s (.bool true))) (no (W2 f s (.bool false)))
    | false=>K3 b (no (W2 f s (.bool true))) (yes (W2 f s (.bool false)))
   | _=>no f
noncomputable def P3 (P:Program) (T:HS) (n:Nat) (all:List Oper) (os:List Oper):Fr->World->(Fr->World->Prop)->Prop :=
 List.rec (motive:=fun _=>Fr->World->(Fr->World->Prop)->Prop) (fun f w K=>K f w)
  (fun o _ ih f w K=>EU all o f (fun f=>Fl P T n o f w fun f w=>ih f w K) (fun f=>Cq o.dst f undef fun f=>ih f w K)) os
theorem YS (P:Program) (T:HS) (n:Nat) (all:List Oper) (f:Fr) (w:World) (K:Fr->World->Prop):P3 P T n all [] f w K=K f w:=rfl
theorem Wz (P:Program) (T:HS) (n:Nat) (all:List Oper) (o:Oper) (os:List Oper) (f:Fr) (w:World) (K:Fr->World->Prop) :
  P3 P T n all (o :: os) f w K=EU all o f (fun f=>Fl P T n o f w fun f w=>P3 P T n all os f w K) (fun f=>Cq o.dst f undef fun f=>P3 P T n all os f w K):=rfl
theorem VJ (f:Fr) (s:Nat):W2 f s (f s)=f:=by
 funext i;by_cases a:i=s
 .subst a;exact VK _ _ _
 .exact ZQ _ _ a
theorem VH {n:Nat} {f:Fr} {all:Array Oper} {j s:Nat} (h:(all[j]?).bind (·.dst)=some s) (hs:s<n) :
  yielded all (A3 n f).tmps j=match f s with | .bool b=>some b | _=>none:=by
 unfold yielded;rw [h];simp only [Option.bind_some];rw [aF9 n f hs];cases f s<;>rfl
theorem Cg {n:Nat} {all:Array Oper} {o:Oper} {f:Fr} {yes no:Fr->Prop} (hok:DH n all o=true) (h:EU all.toList o f yes no) :
  if Region.wanted o (yielded all (A3 n f).tmps) then yes f else no f:=by
 unfold EU at h;unfold Region.wanted;split at h
 .rename_i b;simpa [b] using h
 .rename_i c l b;simp only [DH,b,Bool.and_eq_true] at hok;simp only [b];have i:all.toList[c]? = all[c]? := by simp
  rw [i] at h;split at h
  .rename_i a;have:yielded all (A3 n f).tmps c=none:=by unfold yielded;rw [a];rfl
   simpa [this] using h
  .rename_i d a;have j:d<n:=by have:=hok.2;rw [a] at this;simpa [Nat.blt_eq] using this
   rw [VH a j];split at h
   .rename_i e g;have k:W2 f d (.bool e)=f:=by rw [<- g];exact VJ f d
    cases l<;>cases e<;>simp only [k] at h<;>simpa using h
   .simpa using h
def DL (n:Nat) (all:Array Oper):Bool:=all.toList.all (DH n all)
theorem Qc {n:Nat} {f:Fr} {l:List Operand} (h:∀ x,x∈l->TJ n x=true):l.map (A3 n f).eval=l.map (ev f) :=
 List.map_congr_left fun x a=>Ae (h x a)
theorem CN {P:Program} {T:HS} (hT:T.fok P=true) {n:Nat} {all:Array Oper} {o:Oper} {f:Fr} {w:World} {K:Fr->World->Prop} (hok:DH n all o=true)
  (h:Fl P T n o f w K) {L:Act->World->Prop} {Q:Exit->Act->World->Prop} (hL:∀ f w,K f w->L (A3 n f) w):o.wp P (A3 n f) w L Q:=by
 simp only [DH,Bool.and_eq_true] at hok;have hok:=hok.1;have k:=hok;rw [List.all_eq_true] at k;have m:∀ c e,(Cq o.dst f c fun f=>K f e)->L ((A3 n f).put o.dst c) e:=fun c e g=>by
  rw [AY] at g;have:=hL _ _ g;rw [<- BL] at this;exact this
 unfold Fl at h;split at h
 .rename_i b s af a;have l:(A3 n f).eval b=ev f b:=Ae (k b (by simp [a,Op.operands,Call.operands]));have y:s.map (A3 n f).eval=s.map (ev f):=Qc fun j r=>k j (by simp [a,Op.operands,Call.operands];right;exact r);split at h
  .rename_i ak first aj ao;unfold E2 at h;obtain ⟨t,am⟩:=h;unfold Zz at t;split at t
   .rename_i z ap;simp only [Bool.and_eq_true,bne_iff_ne,ne_eq] at t;have al:¬ z.body=none:=by cases ay:z.body<;>simp_all
    have av:¬ z.name = "runtime.NumGoroutine" := t.2;have d:(execOp (A3 n f).eval o).run P w = .ok (.enter ak (first++s.map (ev f)++aj).toArray) w:=by
     unfold execOp;simp only [a];have ag:(Array.mk s).map (A3 n f).eval=(s.map (ev f)).toArray:=by
      apply Array.toList_inj.1;simp only [Array.toList_map];exact y
     simp [resolve,l,ao,Deferred.ofValue,invoke,callFunc,ap,al,av,y]
    unfold Oper.wp;rw [d];rw [Oper.upon_enter];refine am.mono fun ax e ⟨c,an,v⟩=>?_;subst an;exact m _ _ v
   .cases t
  .exact h.elim
 .rename_i q b a;have l:(A3 n f).eval b=ev f b:=Ae (k b (by simp [a,Op.operands]));obtain ⟨c,e,d,g⟩:=h.out;have i:(execOp (A3 n f).eval o).run P w = .ok (.value c) e:=by
   unfold execOp;simp only [a,l];simp [d]
  unfold Oper.wp;rw [i];exact m _ _ g
 .rename_i q b j a;have l:(A3 n f).eval b=ev f b:=Ae (k b (by simp [a,Op.operands]));have r:(A3 n f).eval j=ev f j:=Ae (k j (by simp [a,Op.operands]));obtain ⟨c,e,d,g⟩:=h.out;have i:(execOp (A3 n f).eval o).run P w = .ok .skip e:=by
   unfold execOp;simp only [a,l,r];simp [d]
  unfold Oper.wp;rw [i];exact m _ _ g
 .rename_i q b a;have l:(A3 n f).eval b=ev f b:=Ae (k b (by simp [a,Op.operands]));obtain ⟨c,e,d,g⟩:=h.out;have i:(execOp (A3 n f).eval o).run P w = .ok (.value c) e:=by
   unfold execOp;simp only [a,l];simp [d]
  unfold Oper.wp;rw [i];exact m _ _ g
 .rename_i q a;obtain ⟨c,e,d,g⟩:=h.out;have i:(execOp (A3 n f).eval o).run P w = .ok (.value c) e:=by
   unfold execOp;simp only [a];simp [d]
  unfold Oper.wp;rw [i];exact m _ _ g
 .rename_i q b j a;have l:(A3 n f).eval b=ev f b:=Ae (k b (by simp [a,Op.operands]));have r:(A3 n f).eval j=ev f j:=Ae (k j (by simp [a,Op.operands]));obtain ⟨c,e,d,g⟩:=h.out;have i:(execOp (A3 n f).eval o).run P w = .ok (.value c) e:=by
   unfold execOp;simp only [a,l,r];simp [d]
  unfold Oper.wp;rw [i];exact m _ _ g
 .rename_i q b j a;have l:(A3 n f).eval b=ev f b:=Ae (k b (by simp [a,Op.operands]));have r:(A3 n f).eval j=ev f j:=Ae (k j (by simp [a,Op.operands]));obtain ⟨c,e,d,g⟩:=h.out;have i:(execOp (A3 n f).eval o).run P w = .ok (.value c) e:=by
   unfold execOp;simp only [a,l,r];simp [d]
  unfold Oper.wp;rw [i];exact m _ _ g
 .split at h
  .rename_i c v;rw [GI] at h;have d:=JZ hT hok v w;unfold Oper.wp;rw [d];exact m _ _ h
  .split at h
   .rename_i aw q b j a2 a;have l:(A3 n f).eval b=ev f b:=Ae (k b (by simp [a,Op.operands]));have r:(A3 n f).eval j=ev f j:=Ae (k j (by simp [a,Op.operands]));obtain ⟨c,e,d,g⟩:=h.out;have i:(execOp (A3 n f).eval o).run P w = .ok (.value c) e:=by
     unfold execOp;simp only [a,l,r];unfold Bl at d;simp only [Sem.run_bind] at d ⊢;rw [d];simp
    unfold Oper.wp;rw [i];exact m _ _ g
   .rename_i aw q b a;have l:(A3 n f).eval b=ev f b:=Ae (k b (by simp [a,Op.operands]));obtain ⟨c,e,d,g⟩:=h.out;have i:(execOp (A3 n f).eval o).run P w = .ok (.value c) e:=by
     unfold execOp;simp only [a,l];simp [d]
    unfold Oper.wp;rw [i];exact m _ _ g
   .rename_i a1 q b a;have l:(A3 n f).eval b=ev f b:=Ae (k b (by simp [a,Op.operands]));obtain ⟨c,e,d,g⟩:=h.out;have i:(execOp (A3 n f).eval o).run P w = .ok (.value c) e:=by
     unfold execOp;simp only [a,l];simp [d]
    unfold Oper.wp;rw [i];exact m _ _ g
   .rename_i q x a;have u:(x.map fun p:Nat×Operand=>(p.1,(A3 n f).eval p.2))=x.map fun p=>(p.1,ev f p.2):=List.map_congr_left fun p ab=>by
     rw [Ae (k p.2 (by simp [a,Op.operands];exact ⟨p.1,ab⟩))]
    obtain ⟨c,e,d,g⟩:=h.out;have i:(execOp (A3 n f).eval o).run P w = .ok (.value c) e:=by
     unfold execOp;simp only [a];simp [u,d]
    unfold Oper.wp;rw [i];exact m _ _ g
   .rename_i q a0 x a;have u:(x.map fun p:Nat×Operand=>(p.1,(A3 n f).eval p.2))=x.map fun p=>(p.1,ev f p.2):=List.map_congr_left fun p ab=>by
     rw [Ae (k p.2 (by simp [a,Op.operands];exact ⟨p.1,ab⟩))]
    obtain ⟨c,e,d,g⟩:=h.out;have i:(execOp (A3 n f).eval o).run P w = .ok (.value c) e:=by
     unfold execOp;simp only [a];simp [u,d]
    unfold Oper.wp;rw [i];exact m _ _ g
   .rename_i q b j a;have l:(A3 n f).eval b=ev f b:=Ae (k b (by simp [a,Op.operands]));have r:(A3 n f).eval j=ev f j:=Ae (k j (by simp [a,Op.operands]));obtain ⟨c,e,d,g⟩:=h.out;have i:(execOp (A3 n f).eval o).run P w = .ok (.value c) e:=by
     unfold execOp;simp only [a,l,r];simp [d]
    unfold Oper.wp;rw [i];exact m _ _ g
   .rename_i q ae a;have u:ae.map (A3 n f).eval=ae.map (ev f):=by
     cases ae with
     | none=>rfl
     | some b=>simp only [Option.map_some];rw [Ae (k b (by simp [a,Op.operands]))]
    obtain ⟨c,e,d,g⟩:=h.out;have i:(execOp (A3 n f).eval o).run P w = .ok (.value c) e:=by
     unfold execOp;simp only [a,u];simp [d]
    unfold Oper.wp;rw [i];exact m _ _ g
   .rename_i q b a;have l:(A3 n f).eval b=ev f b:=Ae (k b (by simp [a,Op.operands]));obtain ⟨c,e,d,g⟩:=h.out;have i:(execOp (A3 n f).eval o).run P w = .ok (.value c) e:=by
     unfold execOp;simp only [a,l];simp [d]
    unfold Oper.wp;rw [i];exact m _ _ g
   .rename_i q b ac aa ad a;have l:(A3 n f).eval b=ev f b:=Ae (k b (by simp [a,Op.operands]));have ar:ac.map (A3 n f).eval=ac.map (ev f):=by
     cases ac with
     | none=>rfl
     | some j=>simp only [Option.map_some];rw [Ae (k j (by simp [a,Op.operands]))]
    have aq:aa.map (A3 n f).eval=aa.map (ev f):=by
     cases aa with
     | none=>rfl
     | some j=>simp only [Option.map_some];rw [Ae (k j (by simp [a,Op.operands]))]
    have au:ad.map (A3 n f).eval=ad.map (ev f):=by
     cases ad with
     | none=>rfl
     | some j=>simp only [Option.map_some];rw [Ae (k j (by simp [a,Op.operands]))]
    obtain ⟨c,e,d,g⟩:=h.out;have i:(execOp (A3 n f).eval o).run P w = .ok (.value c) e:=by
     unfold execOp;simp only [a,l,ar,aq,au];simp [d]
    unfold Oper.wp;rw [i];exact m _ _ g
   .rename_i q b az a;have l:(A3 n f).eval b=ev f b:=Ae (k b (by simp [a,Op.operands]));obtain ⟨c,e,d,g⟩:=h.out;have i:(execOp (A3 n f).eval o).run P w = .ok (.value c) e:=by
     unfold execOp;simp only [a,l];simp [d]
    unfold Oper.wp;rw [i];exact m _ _ g
   .rename_i ah s af a;have y:s.map (A3 n f).eval=s.map (ev f):=Qc fun j r=>k j (by simp [a,Op.operands,Call.operands];exact r);obtain ⟨c,e,d,g⟩:=h.out;split at g
    .rename_i c;have i:(execOp (A3 n f).eval o).run P w = .ok (.value c) e:=by
      unfold execOp;simp only [a];have ag:(Array.mk s).map (A3 n f).eval=(s.map (ev f)).toArray:=by
       apply Array.toList_inj.1;simp only [Array.toList_map];exact y
      simp only [resolve,ag,Sem.run_bind,Sem.run_pure,Result.andThen_ok,invoke];refine (congrArg (fun ai=>Sem.run P (builtin ah af o.type ai (s.map (ev f)).toArray) w) ?_).trans d;apply Array.toList_inj.1;simp only [Array.toList_map];apply List.map_congr_left;intro b _;cases b<;>rfl
     unfold Oper.wp;rw [i];exact m _ _ g
    .exact g.elim
   .unfold OpK at h;exact h L Q fun c e v=>m _ _ v
theorem KP {P:Program} {T:HS} (hT:T.fok P=true) {n:Nat} {all:Array Oper} (hok:DL n all=true) {K:Fr->World->Prop} {Q:Exit->Act->World->Prop}
  (hQ:∀ f w,K f w->Q .normal (A3 n f) w):∀ (m i:Nat) (f:Fr) (w:World),i+m=all.size->P3 P T n all.toList (all.toList.drop i) f w K->wpOps P all Q (List.range' i m) (A3 n f) w
 | 0,i,f,w,hi,h=>by
  have:all.toList.drop i=[]:=by apply List.drop_eq_nil_of_le;simp;omega
  rw [this,YS] at h;simpa [wpOps] using hQ _ _ h
 | m+1,i,f,w,hi,h=>by
  have b:i<all.toList.length:=sW
  rw [List.drop_eq_getElem_cons b] at h;have g:all[i]? = some (all[i]'(by simpa using b)):=sI
  have d:DH n all (all[i]'(by simpa using b))=true:=by
   unfold DL at hok;rw [List.all_eq_true] at hok;exact hok _ sI
  rw [Wz] at h;have a:=Cg d (by simpa using h);simp only [List.range'_succ,wpOps,g];split
  .rename_i c;rw [if_pos c] at a;left;exact CN hT d a fun f w e=>KP hT hok hQ m (i+1) f w om e
  .rename_i c;rw [if_neg c,AY] at a;rw [BL];exact KP hT hok hQ m (i+1) _ w om a
def Mo (n:Nat) (Kn:Fr->World->Prop) (Ke:Nat->Fr->World->Prop) (Kr:Fr->World->Prop):Exit->Act->World->Prop
 | .normal,a,w=>∃ f,a=A3 n f/\Kn f w
 | .exit id,a,w=>∃ f,a=A3 n f/\Ke id f w
 | .ret,a,w=>∃ f,a=A3 n f/\Kr f w
 | _,_,_=>False
@[irreducible] def T0 (P:Program) (n:Nat) (body:Code) (f:Fr) (w:World) (Kn:Fr->World->Prop) (Ke:Nat->Fr->World->Prop) (Kr:Fr->World->Prop):Prop :=
 (Code.loop body).wp P (Mo n Kn Ke Kr) (A3 n f) w
@[irreducible] def Eo (P:Program) (n:Nat) (ops:Array Oper) (f:Fr) (w:World) (K:Fr->World->Prop):Prop :=
 ∀ id,(Code.region id ops true).wp P (Mo n K (fun _ _ _=>False) (fun _ _=>False)) (A3 n f) w
noncomputable def vc (P:Program) (T:HS) (n:Nat) (c:Code):Fr->World->(Fr->World->Prop)->(Nat->Fr->World->Prop)->(Fr->World->Prop)->Prop :=
 Code.rec (motive:=fun _=>Fr->World->(Fr->World->Prop)->(Nat->Fr->World->Prop)->(Fr->World->Prop)->Prop)
  (fun f w Kn _ _=>Kn f w)
  (fun _ ops draw f w Kn _ _=>match draw with
   | false=>P3 P T n ops.toList ops.toList f w Kn
   | true=>Eo P n ops f w Kn)
  (fun _ _ iha ihb f w Kn Ke Kr=>iha f w (fun f w=>ihb f w Kn Ke Kr) Ke Kr)
  (fun c _ _ iha ihb f w Kn Ke Kr=>match ev f c with
   | .bool t=>K3 t (iha f w Kn Ke Kr) (ihb f w Kn Ke Kr)
   | _=>False)
  (fun id _ ih f w Kn Ke Kr=>ih f w Kn (fun i f w=>bif Nat.beq i id then Kn f w else Ke i f w) Kr)
  (fun body _ f w Kn Ke Kr=>T0 P n body f w Kn Ke Kr)
  (fun _ _ _ _ _ _ _ _ _ _ _=>False)
  (fun id f w _ Ke _=>Ke id f w)
  (fun _ _ _ _ _ _ _=>False)
  (fun _ f w Kn _ _=>Kn f w)
  (fun _ _ _ _ _ _=>False)
  (fun f w _ _ Kr=>Kr f w)
  (fun _ _ _ _ _ _=>False) c
section
variable (P:Program) (T:HS) (n:Nat) (f:Fr) (w:World) (Kn:Fr->World->Prop) (Ke:Nat->Fr->World->Prop) (Kr:Fr->World->Prop)
theorem YR (id:Nat) (ops:Array Oper):vc P T n (.region id ops false) f w Kn Ke Kr=P3 P T n ops.toList ops.toList f w Kn:=rfl
theorem P2 (id:Nat) (ops:Array Oper):vc P T n (.region id ops true) f w Kn Ke Kr=Eo P n ops f w Kn:=rfl
theorem aC2 (c : Operand) (a b : Code) : vc P T n (.cond c a b) f w Kn Ke Kr = (match ev f c with
      | .bool t=>K3 t (vc P T n a f w Kn Ke Kr) (vc P T n b f w Kn Ke Kr)
      | _=>False):=rfl
theorem aC1 (b:Code):vc P T n (.loop b) f w Kn Ke Kr=T0 P n b f w Kn Ke Kr:=rfl
end
def HM (n:Nat):Code->Bool
 | .region _ ops _=>DL n ops
 | .seq a b=>HM n a && HM n b
 | .cond c a b=>TJ n c && HM n a && HM n b
 | .block _ b=>HM n b
 | .loop b=>HM n b
 | _=>true
theorem Hs {P:Program} {T:HS} (hT:T.fok P=true) {n:Nat}:∀ (c:Code) (f:Fr) (w:World) (Kn:Fr->World->Prop) (Ke:Nat->Fr->World->Prop) (Kr:Fr->World->Prop),
  HM n c=true->vc P T n c f w Kn Ke Kr->c.wp P (Mo n Kn Ke Kr) (A3 n f) w
 | .skip,f,w,Kn,Ke,Kr,_,h=>wp_skip ⟨f,rfl,h⟩
 | .label _,f,w,Kn,Ke,Kr,_,h=>wp_label ⟨f,rfl,h⟩
 | .region _ ops false,f,w,Kn,Ke,Kr,hok,h=>by
  apply wp_region;have:=KP hT (Q:=Mo n Kn Ke Kr) (K:=Kn) (all:=ops) hok (fun f w o=>⟨f,rfl,o⟩) ops.size 0 f w om (by rw [YR] at h;simpa using h);simpa [List.range_eq_range'] using this
 | .region id ops true,f,w,Kn,Ke,Kr,_,h=>by
  rw [P2] at h;unfold Eo at h;refine wp_mono (h id) fun d g w a=>?_;cases d<;>simp only [Mo] at a ⊢<;>first | exact a | (obtain ⟨_,_,a⟩:=a;exact a.elim) | exact a.elim
 | .seq g b,f,w,Kn,Ke,Kr,hok,h=>by
  simp only [HM,Bool.and_eq_true] at hok;apply wp_seq;refine wp_mono (Hs hT g f w _ Ke Kr hok.1 h) fun d m l a=>?_;cases d with
  | normal =>
   obtain ⟨j,rfl,e⟩:=a;exact Hs hT b j l Kn Ke Kr hok.2 e
  | _=>exact a
 | .cond c g b,f,w,Kn,Ke,Kr,hok,h=>by
  simp only [HM,Bool.and_eq_true] at hok;rw [aC2] at h;split at h
  .rename_i k p;refine wp_cond (t:=k) (by rw [Ae hok.1.1];exact p) ?_;cases k
   .exact Hs hT b f w Kn Ke Kr hok.2 h
   .exact Hs hT g f w Kn Ke Kr hok.1.2 h
  .exact h.elim
 | .block id body,f,w,Kn,Ke,Kr,hok,h=>by
  apply wp_block;refine wp_mono (Hs hT body f w _ _ _ hok h) fun d m l a=>?_;cases d with
  | exit i =>
   obtain ⟨j,rfl,a⟩:=a;simp only [Exit.inBlock];cases e:Nat.beq i id with
   | true =>
    rw [e] at a;rw [if_pos (Nat.eq_of_beq_eq_true e)];exact ⟨j,rfl,a⟩
   | false =>
    rw [e] at a;rw [if_neg (fun d=>by subst d;simp at e)];exact ⟨j,rfl,a⟩
  | _=>exact a
 | .loop body,f,w,Kn,Ke,Kr,_,h=>by
  rw [aC1] at h;unfold T0 at h;exact h
 | .exit id,f,w,Kn,Ke,Kr,_,h=>wp_exit ⟨f,rfl,h⟩
 | .ret,f,w,Kn,Ke,Kr,_,h=>wp_ret ⟨f,rfl,h⟩
 | .rangeFunc ..,_,_,_,_,_,_,h=>h.elim
 | .scope ..,_,_,_,_,_,_,h=>h.elim
 | .goto ..,_,_,_,_,_,_,h=>h.elim
 | .refuse ..,_,_,_,_,_,_,h=>h.elim
def ZP (g:Fr):List Nat->List Value->Fr
 | s :: ss,v :: vs=>W2 (ZP g ss vs) s v
 | _,_=>g
theorem Sy (f:Fr):∀ l:List Nat,ZP f l (l.map f)=f
 | []=>rfl
 | s :: ss=>by simp only [List.map,ZP,Sy f ss];exact VJ f s
theorem Xn {α:Type} (slots:List Nat) (I:α->List Value->World->Prop) (μ:α->Nat) {P:Program} (T:HS) (hT:T.fok P=true) {n:Nat} {body:Code} {f:Fr} {w:World}
  {Kn:Fr->World->Prop} {Ke:Nat->Fr->World->Prop} {Kr:Fr->World->Prop} (hok:HM n body=true) (a0:α) (h0:I a0 (slots.map f) w)
  (step:∀ a g vs w,I a vs w->vc P T n body (ZP g slots vs) w (fun f' w'=>∃ a',μ a'<μ a/\I a' (slots.map f') w') Ke Kr):T0 P n body f w Kn Ke Kr:=by
 unfold T0;intro h j i;have z:∀ e a f w,μ a=e->I a (slots.map f) w ->
   ∃ c a' w',Mo n Kn Ke Kr c a' w'/\Arrives P (lone (h.at (A3 n f) (.code body :: .inLoop body :: j)) i w) h j i c a' w':=by
  intro e;induction e using Nat.strongRecOn with
  | _ e ih =>
   intro a f w v r;have o:=step a f (slots.map f) w r;rw [Sy] at o;obtain ⟨c,m,k,b,d⟩:=Hs hT body f w _ _ _ hok o h (.inLoop body :: j) i;cases c with
   | normal =>
    obtain ⟨f',rfl,a',u,s⟩:=b;obtain ⟨q,p,aa,y,t⟩:=ih (μ a') (v▸u) a' f' k rfl s;exact ⟨q,p,aa,y,.of_steps (Steps.trans d (.one step_inLoop)) t⟩
   | exit id=>exact ⟨.exit id,m,k,b,.pass (x := .inLoop body) rfl (fun _ _=>.inl sI) d⟩
   | ret=>exact ⟨.ret,m,k,b,.pass (x := .inLoop body) rfl (fun _ _=>.inl sI) d⟩
   | goto l=>exact b.elim
   | panic ch=>exact b.elim
   | outgrown=>exact b.elim
 obtain ⟨c,a',w',b,d⟩:=z _ a0 f w rfl h0;exact ⟨c,a',w',b,.of_steps (.one step_loop) d⟩
@[irreducible] def Ww (P:Program) (t:Nat) (x:Value) (w:World) (K:Value->Prop):Prop :=
 ∃ v,(Instr.loadAt t x).run P w = .ok v w/\K v
theorem AO {P:Program} {t:Nat} {x:Value} {w:World} {v:Value} {K:Value->Prop} (h:(Instr.loadAt t x).run P w = .ok v w) (hk:K v):Ww P t x w K:=by
 unfold Ww;exact ⟨v,h,hk⟩
theorem Ys {P:Program} {t:Nat} {x v:Value} {w:World} (h:(Instr.loadAt t x).run P w = .ok v w):(do loadVar t (← asAddr x):Sem Value).run P w = .ok v w:=by
 unfold Instr.loadAt at h;cases x with
 | pointer a =>
  cases a with
  | none=>simp [Instr.sureAddr] at h
  | some a=>simpa [Instr.sureAddr,asAddr] using h
 | _=>simp [Instr.sureAddr] at h
noncomputable def R4 (P:Program) (rs:List ResultVar) (f:Fr) (w:World):(List Value->Prop)->Prop :=
 List.rec (motive:=fun _=>(List Value->Prop)->Prop) (fun K=>K [])
  (fun r _ ih K=>match r with
   | .tmp t=>Lr (f t) fun v=>ih fun l=>K (v :: l)
   | .cell a t=>Ww P t (f a) w fun v=>ih fun l=>K (v :: l)) rs
theorem Zd (P:Program) (t:Nat) (rs:List ResultVar) (f:Fr) (w:World) (K:List Value->Prop):R4 P (.tmp t :: rs) f w K=Lr (f t) fun v=>R4 P rs f w fun l=>K (v :: l):=rfl
theorem Ym (P:Program) (a t:Nat) (rs:List ResultVar) (f:Fr) (w:World) (K:List Value->Prop):R4 P (.cell a t :: rs) f w K=Ww P t (f a) w fun v=>R4 P rs f w fun l=>K (v :: l):=rfl
def KQ:List Value->Value
 | [v]=>v
 | vs=>.tuple vs.toArray
def Vv (n:Nat):ResultVar->Bool
 | .tmp t=>Nat.blt t n
 | .cell a _=>Nat.blt a n
def QO (tmps:Array Value):ResultVar->Sem Value
 | .tmp t=>pure (tmps.getD t undef)
 | .cell a t=>do loadVar t (← asAddr (tmps.getD a undef))
theorem QN {P:Program} {n:Nat} {f:Fr} {w:World}:∀ (rs:List ResultVar) (K:List Value->Prop),rs.all (Vv n)=true->R4 P rs f w K ->
  ∃ l,(rs.mapM (QO (A3 n f).tmps)).run P w = .ok l w/\K l
 | [],K,_,h=>⟨[],sI,h⟩
 | .tmp t :: rs,K,hok,h=>by
  simp only [List.all_cons,Bool.and_eq_true,Vv,Nat.blt_eq] at hok;rw [Zd,GI] at h;obtain ⟨l,hl,hk⟩:=QN rs _ hok.2 h;refine ⟨f t :: l,?_,hk⟩;have:=Rg n f hok.1 undef;simp only [List.mapM_cons,QO,this];simp [hl]
 | .cell a t :: rs,K,hok,h=>by
  simp only [List.all_cons,Bool.and_eq_true,Vv,Nat.blt_eq] at hok;rw [Ym] at h;unfold Ww at h;obtain ⟨c,b,hk⟩:=h;obtain ⟨l,hl,hk⟩:=QN rs _ hok.2 hk;refine ⟨c :: l,?_,hk⟩;have:=Rg n f hok.1 undef;have b:=Ys b;simp only [List.mapM_cons,QO,this];rw [Sem.run_bind,b];simp [hl]
theorem Oj {P:Program} {n:Nat} {f:Fr} {w:World} {fn:Func} {K:List Value->Prop} (hok:fn.results.toList.all (Vv n)=true) (h:R4 P fn.results.toList f w K) :
  ∃ l,(results fn (A3 n f).tmps).run P w = .ok (KQ l) w/\K l:=by
 obtain ⟨l,i,g⟩:=QN _ _ hok h;refine ⟨l,?_,g⟩;have d:results fn (A3 n f).tmps=(do
   let c <- fn.results.mapM (QO (A3 n f).tmps)
   pure (if h:c.size=1 then c[0] else .tuple c)):=by
  unfold results;congr 1
 rw [d];have e:(fn.results.mapM (QO (A3 n f).tmps)).run P w = .ok l.toArray w:=by
  rw [Array.mapM_eq_mapM_toList];simp [i]
 simp only [Sem.run_bind,e]
 match l with
 | []=>simp [KQ]
 | [v]=>simp [KQ]
 | a :: b :: r=>simp [KQ]
def Pt (args:List Value):Fr:=fun i=>args.getD i undef
theorem Y6 {args:List Value} {n:Nat} (h:args.length<=n) :
  ({ tmps:=args.toArray++Array.replicate (n - args.toArray.size) undef,defers:=[] }:Act)=A3 n (Pt args):=by
 simp only [A3,Act.mk.injEq,and_true];apply Array.ext
 .simp;omega
 .intro d b c;simp only [Array.getElem_ofFn,Pt];rw [Array.getElem_append];split
  .rename_i a;simp at a;simp [a]
  .rename_i a;simp at a;simp [a]
def aI4 (fn:Func) (args:Nat):Bool :=
 (match fn.body with | some c=>HM fn.ntmps c | none=>false) && fn.results.toList.all (Vv fn.ntmps) && Nat.ble args fn.ntmps && fn.name != "runtime.NumGoroutine"
theorem Xq {P:Program} {T:HS} (hT:T.fok P=true) {g:Nat} {fn:Func} (hf:P.funcs[g]? = some fn) {c:Code} {n:Nat} {rs:List ResultVar} (hb:fn.body=some c) (hn:fn.ntmps=n) (hrs:fn.results.toList=rs)
  {args:List Value} (hok:aI4 fn args.length=true) {w:World} {R:Value->World->Prop}
  (h:vc P T n c (Pt args) w (fun f w=>R4 P rs f w fun l=>Lr (KQ l) fun v=>R v w) (fun _ _ _=>False) (fun f w=>R4 P rs f w fun l=>Lr (KQ l) fun v=>R v w)):E2 P g args w R:=by
 subst hn;subst hrs;simp only [aI4,hb,Bool.and_eq_true,Nat.ble_eq] at hok;obtain ⟨⟨⟨j,e⟩,k⟩,m⟩:=hok;apply C4
 .unfold Zz;rw [hf];simp only [hb,Option.isSome_some,Bool.true_and];exact m
 .apply calls_of_wp hf hb;rw [Y6 k];refine wp_mono (Hs hT c _ w _ _ _ j h) fun i o p b=>?_;cases i with
  | normal =>
   obtain ⟨f,rfl,a⟩:=b;obtain ⟨l,d,a⟩:=Oj e a;rw [GI] at a;exact ⟨rfl,_,d,_,rfl,a⟩
  | ret =>
   obtain ⟨f,rfl,a⟩:=b;obtain ⟨l,d,a⟩:=Oj e a;rw [GI] at a;exact ⟨rfl,_,d,_,rfl,a⟩
  | exit id=>obtain ⟨f,rfl,a⟩:=b;exact a.elim
  | goto l=>exact b.elim
  | panic ch=>exact b.elim
  | outgrown=>exact b.elim
end
section
open Go Go.RowKit
abbrev AD (w w':World):Prop:=Below w.heap.size w w'
theorem AD.refl (w:World):AD w w:=Below.refl _ _
theorem AD.trans {a b c:World} (h:AD a b) (k:AD b c):AD a c:=Below.trans h (Below.mono k h.size)
structure Oa (b:Nat) (w w':World):Prop where
 os:w'.os=w.os
 tape:w'.tape=w.tape
 output:w'.output=w.output
 size:w'.heap.size=w.heap.size
 block:∀ k,k≠b->w'.heap[k]? = w.heap[k]?
structure BP (S:Nat->Prop) (w w':World):Prop where
 os:w'.os=w.os
 tape:w'.tape=w.tape
 output:w'.output=w.output
 size:w.heap.size<=w'.heap.size
 block:∀ k,¬ S k->k<w.heap.size->w'.heap[k]? = w.heap[k]?
abbrev But (b:Nat) (w w':World):Prop:=BP (fun k=>k=b) w w'
theorem BP.refl (S:Nat->Prop) (w:World):BP S w w:=⟨rfl,rfl,rfl,Nat.le_refl _,fun _ _ _=>rfl⟩
theorem BP.trans {S:Nat->Prop} {x y z:World} (h:BP S x y) (k:BP S y z):BP S x z :=
  ⟨k.os.trans h.os,k.tape.trans h.tape,k.output.trans h.output,Nat.le_trans h.size k.size,
   fun c a b=>(k.block c a (Nat.lt_of_lt_of_le b h.size)).trans (h.block c a b)⟩
theorem BP.mono {S S':Nat->Prop} {w w':World} (h:BP S w w') (hs:∀ k,S k->S' k):BP S' w w' :=
 ⟨h.os,h.tape,h.output,h.size,fun k b c=>h.block k (fun a=>b (hs k a)) c⟩
theorem Oa.but {b:Nat} {w w':World} (h:Oa b w w'):But b w w':=⟨h.os,h.tape,h.output,Nat.le_of_eq h.size.symm,fun c a _=>h.block c a⟩
theorem AD.mod {S:Nat->Prop} {w w':World} (h:AD w w'):BP S w w':=⟨h.os,h.tape,h.output,h.size,fun b _ a=>h.block b a⟩
theorem Lt {S:Nat->Prop} {a w w':World} (e:AD a w) (h:BP S w w') (hb:∀ k,S k->a.heap.size<=k):AD a w' :=
 Below.trans e ⟨h.os,h.tape,h.output,h.size,fun k b=>h.block k (fun c=>by have:=hb k c;omega) (Nat.lt_of_lt_of_le b e.size)⟩
theorem AD.but_trans {b:Nat} {a w w':World} (e:AD a w) (h:But b w w') (hb:a.heap.size<=b):AD a w':=Lt e h (fun d c=>by omega)
def AK (w:World) (b o:Nat) (vs:List Value):Prop:=∀ j v,vs[j]? = some v->w.cell? ⟨b,o+j,none⟩=some v
def B8 (w:World) (b:Nat) (cs:List Value) (t:Nat):Prop:=w.heap[b]? = some (.cells cs.toArray t (0,0))
theorem Px {w:World} {a:Addr} {v:Value} (h:w.cell? a=some v):a.block<w.heap.size:=by
 unfold World.cell? at h;split at h
 .rename_i c d e b;exact (Array.getElem?_eq_some_iff.1 b).1
 .cases h
theorem Ix {w w':World} {a:Addr} (h:w'.heap[a.block]? = w.heap[a.block]?):w'.cell? a=w.cell? a:=by
 unfold World.cell?;rw [h]
theorem AK.ext {w w':World} {b o:Nat} {vs:List Value} (h:AK w b o vs) (e:AD w w'):AK w' b o vs:=by
 intro d f c;have a:=h d f c;rw [<- a];exact Ix (e.block _ (Px a))
theorem AK.mod {S:Nat->Prop} {w w':World} {b o:Nat} {vs:List Value} (h:AK w b o vs) (e:BP S w w') (hc:¬ S b):AK w' b o vs:=by
 intro d f c;have a:=h d f c;rw [<- a];exact Ix (e.block _ hc (Px a))
theorem B8.lt {w:World} {b t:Nat} {cs:List Value} (h:B8 w b cs t):b<w.heap.size:=(Array.getElem?_eq_some_iff.1 h).1
theorem B8.ext {w w':World} {b t:Nat} {cs:List Value} (h:B8 w b cs t) (e:AD w w'):B8 w' b cs t:=by
 unfold B8 at *;rw [e.block _ (B8.lt h)];exact h
theorem B8.mod {S:Nat->Prop} {w w':World} {b t:Nat} {cs:List Value} (h:B8 w b cs t) (e:BP S w w') (hc:¬ S b):B8 w' b cs t:=by
 unfold B8 at *;rw [e.block _ hc (B8.lt h)];exact h
theorem B8.cells {w:World} {b t:Nat} {cs:List Value} (h:B8 w b cs t):AK w b 0 cs:=by
 intro c d a;unfold B8 at h;unfold World.cell?;simp only [h];simpa using a
theorem AK.drop {w:World} {b o:Nat} {vs:List Value} (h:AK w b o vs) (k:Nat):AK w b (o+k) (vs.drop k):=by
 intro c d a;rw [List.getElem?_drop] at a;have:=h (k+c) d a;rwa [<- Nat.add_assoc] at this
theorem AK.take {w:World} {b o:Nat} {vs:List Value} (h:AK w b o vs) (k:Nat):AK w b o (vs.take k):=by
 intro c d a;rw [List.getElem?_take] at a;split at a
 .exact h c d a
 .cases a
theorem AK.append {w:World} {b o:Nat} {us vs:List Value}:AK w b o (us++vs)↔AK w b o us/\AK w b (o+us.length) vs:=by
 constructor
 .intro f;refine ⟨fun c e a=>f c e ?_,fun c e a=>?_⟩
  .have d:c<us.length:=(List.getElem?_eq_some_iff.1 a).1;rw [List.getElem?_append_left d];exact a
  .have:=f (us.length+c) e (by rw [List.getElem?_append_right om];simpa using a);rwa [<- Nat.add_assoc] at this
 .rintro ⟨h,i⟩ c e a;rcases Nat.lt_or_ge c us.length with d | d
  .rw [List.getElem?_append_left d] at a;exact h c e a
  .rw [List.getElem?_append_right d] at a;have:=i _ _ a;have g:o+us.length+(c - us.length)=o+c:=om
   rwa [g] at this
def AM:Value->Bool
 | .agg _ | .tuple _=>false
 | _=>true
section
variable {P:Program}
theorem HW {t:Nat} (h:DK P t=true):∃ d inf,P.underlying t=some d/\P.info? t=some inf/\inf.size=1/\(isAgg t).run P=fun w=>.ok false w:=by
 unfold DK at h;split at h<;>try cases h
 rename_i d inf c e a b;refine ⟨_,_,a,b,by simpa using h,?_⟩;funext w;simp only [isAgg,Sem.run_bind,run_underlying a,Result.andThen_ok];rfl
theorem NT {t n:Nat} (h:D1 P t=some n):∃ inf,P.info? t=some inf/\inf.size=n/\(isAgg t).run P=fun w=>.ok true w:=by
 unfold D1 at h;split at h<;>try cases h
 .rename_i d inf b a;refine ⟨_,a,rfl,?_⟩;funext w;simp [isAgg,run_underlying b]
 .rename_i e c inf b a;refine ⟨_,a,rfl,?_⟩;funext w;simp [isAgg,run_underlying b]
theorem Yk {t:Nat} (ht:DK P t=true) {w:World} {a:Addr} {v:Value} (h:w.cell? a=some v):(Instr.loadAt t (.pointer (some a))).run P w = .ok v w:=by
 obtain ⟨c,g,f,d,e,b⟩:=HW ht;have b:=congrFun b w;simp only [Instr.loadAt,Instr.sureAddr,loadVar,Sem.run_bind,Sem.run_pure,Result.andThen_ok];rw [b];simp [load,Sem.run,h]
theorem GY {w:World} {b o:Nat}:∀ (n i:Nat) (acc:Array Value) (vs:List Value),vs.length=n->AK w b (o+i) vs ->
  (loadCellsFrom ⟨b,o,none⟩ i n acc).run P w = .ok (acc++vs.toArray) w
 | 0,i,acc,vs,hl,_=>by
  have:vs=[]:=List.eq_nil_of_length_eq_zero hl;subst this;simp [loadCellsFrom]
 | n+1,i,acc,v :: vs,hl,hc=>by
  have a:=hc 0 v sI;simp only [Nat.add_zero] at a;simp only [loadCellsFrom,load,Sem.run_bind,Sem.run,CT,a,Result.andThen_ok];rw [GY n (i+1) _ vs (by simpa using hl) (by
   have:=AK.drop hc 1;simpa [Nat.add_assoc] using this)]
  simp
theorem Oi {t n:Nat} (ht:D1 P t=some n) {w:World} {b o:Nat} {vs:List Value} (hl:vs.length=n) (h:AK w b o vs) :
  (Instr.loadAt t (.pointer (some ⟨b,o,none⟩))).run P w = .ok (.agg vs.toArray) w:=by
 obtain ⟨e,c,d,a⟩:=NT ht;have a:=congrFun a w;simp only [Instr.loadAt,Instr.sureAddr,loadVar,Sem.run_bind,Sem.run_pure,Result.andThen_ok];rw [a];have:=GY (P:=P) (w:=w) (b:=b) (o:=o) n 0 #[] vs hl (by simpa using h);simp [sizeOf,typeInfo,c,d,loadCells,this]
theorem B8.set {w:World} {b t k:Nat} {cs:List Value} (h:B8 w b cs t) (v:Value):B8 (w.setCell ⟨b,k,none⟩ v) b (cs.set k v) t/\Oa b w (w.setCell ⟨b,k,none⟩ v):=by
 unfold B8 at *;refine ⟨?_,⟨rfl,rfl,rfl,by simp [World.setCell],fun c a=>Below.heap_setCell _ _ _ _ a⟩⟩;simp only [World.setCell,Array.getElem?_modify];simp [h]
theorem TB {w:World} {b t k:Nat} {cs:List Value} (h:B8 w b cs t) (hk:k<cs.length) {v:Value} (hv:AM v=true) :
  (store ⟨b,k,none⟩ v).run P w = .ok () (w.setCell ⟨b,k,none⟩ v):=by
 have a:w.cell? ⟨b,k,none⟩=some cs[k]:=by
  have:=h.cells k cs[k] sI;simpa using this
 have c:w.frozen? ⟨b,k,none⟩=false:=by
  unfold B8 at h;unfold World.frozen?;simp [h]
 unfold store;cases v<;>simp only [AM] at hv<;>simp [Sem.run,a,c]<;>cases hv
def KT (cs:List Value) (k:Nat):List Value->List Value
 | []=>cs
 | v :: vs=>KT (cs.set k v) (k+1) vs
theorem La {α:Type} (cs:List α) (k:Nat) (v:α) (h:k<cs.length):cs.set k v=cs.take k++v :: cs.drop (k+1):=List.set_eq_take_append_cons_drop▸(if_pos h)
theorem I3:∀ (vs:List Value) (cs:List Value) (k:Nat),k+vs.length<=cs.length->KT cs k vs=cs.take k++vs++cs.drop (k+vs.length)
 | [],cs,k,_=>by simp [KT]
 | v :: vs,cs,k,h=>by
  simp only [List.length_cons] at h;rw [KT,I3 vs _ _ sW];rw [La cs k v om];have e1:(cs.take k++v :: cs.drop (k+1)).take (k+1)=cs.take k++[v]:=by
   rw [List.take_append];have:k - (cs.take k).length=0:=sW
   have a:(cs.take k).length=k:=sW
   rw [a,List.take_take];have c:min (k+1) k=k:=om
   simp [c]
  have b:(cs.take k++v :: cs.drop (k+1)).drop (k+1+vs.length)=cs.drop (k+(vs.length+1)):=by
   have a:(cs.take k).length=k:=sW
   rw [List.drop_append,a,List.drop_eq_nil_of_le (by rw [a];omega)];have:k+1+vs.length - k=vs.length+1:=om
   rw [this];simp only [List.nil_append,List.drop_succ_cons,List.drop_drop];congr 1;omega
  rw [e1,b];simp
theorem Hv {b t:Nat}:∀ (vs:List Value) (cs:List Value) (o i:Nat) (w:World),B8 w b cs t->o+i+vs.length<=cs.length->(∀ v∈vs,AM v=true) ->
  ∃ w',(storeCells ⟨b,o,none⟩ vs i).run P w = .ok () w'/\B8 w' b (KT cs (o+i) vs) t/\Oa b w w'
 | [],cs,o,i,w,h,_,_=>⟨w,by simp [storeCells],h,⟨rfl,rfl,rfl,rfl,fun _ _=>rfl⟩⟩
 | v :: vs,cs,o,i,w,h,hl,hv=>by
  simp only [List.length_cons] at hl;have h1:=TB (P:=P) h (k:=o+i) om (hv v sI);obtain ⟨f,a⟩:=h.set (k:=o+i) v;obtain ⟨w',j,g,c⟩:=Hv vs (cs.set (o+i) v) o (i+1) _ f sW (fun m l=>hv m (by simp [l]));refine ⟨w',?_,?_,⟨c.os.trans a.os,c.tape.trans a.tape,c.output.trans a.output,c.size.trans a.size,fun e d=>(c.block e d).trans (a.block e d)⟩⟩
  .simp only [storeCells,Sem.run_bind,CT,h1,Result.andThen_ok];exact j
  .rw [KT];exact g
theorem Kz {ty:Nat} (hty:DK P ty=true) {w:World} {b t k:Nat} {cs:List Value} (h:B8 w b cs t) (hk:k<cs.length) {v:Value} (hv:AM v=true) {K:Unit->World->Prop}
  (hK:∀ w',Oa b w w'->B8 w' b (cs.set k v) t->K () w'):AB P (Instr.storeAt ty (.pointer (some ⟨b,k,none⟩)) v) w K:=by
 obtain ⟨i,m,l,e,g,j⟩:=HW hty;obtain ⟨a,c⟩:=h.set (k:=k) v;refine A6 (w':=w.setCell ⟨b,k,none⟩ v) ?_ (hK _ c a);have f:=TB (P:=P) h hk hv;have d:v.cells = #[v]:=by cases v<;>first | rfl | cases hv
 simp [Instr.storeAt,Instr.sureAddr,storeVar,d,sizeOf,typeInfo,e,g,storeCells,CT,f]
theorem Cl {ty n:Nat} (hty:D1 P ty=some n) {w:World} {b t k:Nat} {cs:List Value} (h:B8 w b cs t) {vs:List Value} (hn:vs.length=n) (hk:k+n<=cs.length) (hv:∀ v∈vs,AM v=true) {K:Unit->World->Prop}
  (hK:∀ w',Oa b w w'->B8 w' b (cs.take k++vs++cs.drop (k+n)) t->K () w'):AB P (Instr.storeAt ty (.pointer (some ⟨b,k,none⟩)) (.agg ⟨vs⟩)) w K:=by
 obtain ⟨i,d,f,g⟩:=NT hty;obtain ⟨w',e,a,c⟩:=Hv (P:=P) vs cs k 0 w h om hv;rw [Nat.add_zero,I3 _ _ _ om,hn] at a;refine A6 (w':=w') ?_ (hK _ c a);simp only [Instr.storeAt,Instr.sureAddr,storeVar,Value.cells,Sem.run_bind,Sem.run_pure,Result.andThen_ok,sizeOf,typeInfo];simp [d,f,hn,e]
theorem Gz {ty:Nat} (hty:DK P ty=true) {w:World} {b o k:Nat} {vs:List Value} (h:AK w b o vs) {v:Value} (hk:vs[k]? = some v) {K:Value->World->Prop} (hK:K v w) :
  AB P (Instr.loadAt ty (.pointer (some ⟨b,o+k,none⟩))) w K:=A6 (Yk hty (h k v hk)) hK
theorem Hg {ty n:Nat} (hty:D1 P ty=some n) {w:World} {b o:Nat} {vs:List Value} (h:AK w b o vs) (hn:vs.length=n) {K:Value->World->Prop} (hK:K (.agg vs.toArray) w) :
  AB P (Instr.loadAt ty (.pointer (some ⟨b,o,none⟩))) w K:=A6 (Oi hty hn h) hK
theorem JJ (w:World) (o:Obj):AD w (w.alloc o):=(Below.refl _ _).alloc (Nat.le_refl _) o
theorem JK (w:World) (cs:List Value) (t:Nat):B8 (w.alloc (.cells cs.toArray t)) w.heap.size cs t:=by
 unfold B8;show (w.heap.push _)[w.heap.size]? = _;simp
theorem AB.box {t:Nat} {v:Value} {w:World} {K:Value->World->Prop} (hK:∀ b w',w.heap.size<=b->b<w'.heap.size->AD w w'->B8 w' b v.cells.toList t->K (.pointer (some ⟨b,0,none⟩)) w'):AB P (Instr.box t v) w K:=by
 refine A6 (v := .pointer (some ⟨w.heap.size,0,none⟩)) (w':=w.alloc (.cells v.cells t)) ?_ (hK _ _ (Nat.le_refl _) ?_ (JJ _ _) ?_)
 .simp only [Instr.box,newVar,newRow,newObj];rfl
 .show w.heap.size<(w.heap.push _).size;simp
 .exact JK w v.cells.toList t
theorem AB.alloc {t:Nat} {z:Value} (hz:(P.info? t).bind (·.zero)=some z) {w:World} {K:Value->World->Prop} (hK:∀ b w',w.heap.size<=b->b<w'.heap.size->AD w w'->B8 w' b z.cells.toList t->K (.pointer (some ⟨b,0,none⟩)) w') :
  AB P (Instr.alloc t true (.tuple #[])) w K:=by
 rw [Option.bind_eq_some_iff] at hz;obtain ⟨d,c,hz⟩:=hz;refine A6 (v := .pointer (some ⟨w.heap.size,0,none⟩)) (w':=w.alloc (.cells z.cells t)) ?_ (hK _ _ (Nat.le_refl _) ?_ (JJ _ _) ?_)
 .have a:(zeroValue t).run P w = .ok z w:=by simp [zeroValue,typeInfo,c,hz]
  simp only [Instr.alloc,Sem.run_bind,a,newVar,newRow,newObj];rfl
 .show w.heap.size<(w.heap.push _).size;simp
 .exact JK w z.cells.toList t
theorem Tz {t:Nat} (ht:HF P t=true) {s:ByteArray} {i:Int} {c:UInt8} (k:Nat) (hi:i=k) (hk:s.data.toList[k]? = some c) {kd:IntKind} {w:World} {K:Value->World->Prop} (hK:K (.int .u8 c.toNat) w) :
  AB P (Instr.index t (.string s) (.int kd i)) w K:=by
 have d:P.underlying t=some .string:=by
  unfold HF at ht;split at ht<;>simp_all
 have b:s[k]? = some c:=by
  have a:k<s.size:=by
   have:=(List.getElem?_eq_some_iff.1 hk).1;simpa using this
  rw [ByteArray.getElem?_lt' s k a];have:=(List.getElem?_eq_some_iff.1 hk).2;simp only [Option.some.injEq];rw [<- this];rfl
 subst hi;refine A6 ?_ hK;simp [Instr.index,asIntOf,run_underlying d,b]
end
end
section
open Go Go.RowKit
def A4 {α:Type} (enc:α->List Value) (sz:Nat) (w:World) (a:Option Addr) (n:Nat) (xs:List α):Prop :=
 xs.length=n/\n<=maxLen/\∀ i x,xs[i]? = some x->∃ b o,a=some ⟨b,o,none⟩/\AK w b (o+i * sz) (enc x)
theorem A4.ext {α:Type} {enc:α->List Value} {sz:Nat} {w w':World} {a:Option Addr} {n:Nat} {xs:List α} (h:A4 enc sz w a n xs) (e:AD w w'):A4 enc sz w' a n xs :=
 ⟨h.1,h.2.1,fun g j f=>let ⟨b,i,c,d⟩:=h.2.2 g j f;⟨b,i,c,d.ext e⟩⟩
theorem A4.mod {α:Type} {enc:α->List Value} {sz:Nat} {S:Nat->Prop} {w w':World} {a:Option Addr} {n:Nat} {xs:List α} (h:A4 enc sz w a n xs) (e:BP S w w') (hc:∀ x,a=some x->¬ S x.block):A4 enc sz w' a n xs :=
 ⟨h.1,h.2.1,fun g x f=>let ⟨c,i,b,d⟩:=h.2.2 g x f;⟨c,i,b,d.mod e (hc _ b)⟩⟩
theorem A4.len {α:Type} {enc:α->List Value} {sz:Nat} {w:World} {a:Option Addr} {n:Nat} {xs:List α} (h:A4 enc sz w a n xs):xs.length=n:=h.1
theorem A4.le {α:Type} {enc:α->List Value} {sz:Nat} {w:World} {a:Option Addr} {n:Nat} {xs:List α} (h:A4 enc sz w a n xs):n<=9223372036854775807:=h.2.1
theorem A4.nil {α:Type} {enc:α->List Value} {sz:Nat} {w:World} {a:Option Addr}:A4 enc sz w a 0 ([]:List α) :=
 ⟨rfl,Nat.zero_le _,fun _ _ b=>by simp at b⟩
def Al {α:Type} (enc:α->List Value) (xs:List α):List Value:=xs.flatMap enc
theorem A1 {α:Type} {enc:α->List Value} {sz:Nat} (he:∀ x,(enc x).length=sz) (xs:List α):(Al enc xs).length=xs.length * sz:=by
 induction xs with
 | nil=>simp [Al]
 | cons x xs a=>simp only [Al,List.flatMap_cons,List.length_append,List.length_cons] at *;rw [a,he,Nat.add_mul];omega
theorem FN {α:Type} (enc:α->List Value) (xs ys:List α):Al enc (xs++ys)=Al enc xs++Al enc ys:=by simp [Al]
theorem LJ {α:Type} {enc:α->List Value} {sz:Nat} (he:∀ x,(enc x).length=sz):∀ (xs:List α) (i:Nat),(Al enc xs).drop (i * sz)=Al enc (xs.drop i)
 | xs,0=>sI
 | [],i+1=>by simp [Al]
 | x :: xs,i+1=>by
  have h:=LJ he xs i;simp only [Al,List.flatMap_cons,List.drop_succ_cons] at *;rw [<- h,Nat.add_mul,Nat.one_mul,Nat.add_comm,List.drop_append,he];rw [List.drop_eq_nil_of_le (by rw [he];omega)];simp
theorem Rt {α:Type} {enc:α->List Value} {sz:Nat} (he:∀ x,(enc x).length=sz) {w:World} {b o:Nat} {xs:List α} {rest:List Value} (h:AK w b o (Al enc xs++rest)) {i:Nat} {x:α} (hi:xs[i]? = some x) :
  AK w b (o+i * sz) (enc x):=by
 have c:=(AK.append.1 h).1;have a:=AK.drop c (i * sz);rw [LJ he] at a;have d:=(List.getElem?_eq_some_iff.1 hi).1;rw [List.drop_eq_getElem_cons d] at a;have e:=(List.getElem?_eq_some_iff.1 hi).2;rw [e] at a;simp only [Al,List.flatMap_cons] at a;exact (AK.append.1 a).1
theorem B8.arr {α:Type} {enc:α->List Value} {sz:Nat} (he:∀ x,(enc x).length=sz) {w:World} {b t n:Nat} {xs:List α} {rest:List Value} (h:B8 w b (Al enc xs++rest) t) (hn:xs.length=n) (hm:n<=maxLen):A4 enc sz w (some ⟨b,0,none⟩) n xs :=
 ⟨hn,hm,fun _ _ a=>⟨b,0,rfl,Rt he h.cells a⟩⟩
theorem Ia {α:Type} {enc:α->List Value} {sz:Nat} (he:∀ x,(enc x).length=sz) (l1 l2:List α) (x x':α) (rest:List Value) (j:Nat) (v:Value) (hj:j<sz) (hx:(enc x).set j v=enc x') :
  (Al enc (l1++x :: l2)++rest).set (l1.length * sz+j) v=Al enc (l1++x' :: l2)++rest:=by
 have d:=A1 he l1;simp only [FN,List.append_assoc];rw [List.set_append_right _ _ om];have a:l1.length * sz+j - (Al enc l1).length=j:=om
 rw [a];have b:Al enc (x :: l2)=enc x++Al enc l2:=by simp [Al]
 have c:Al enc (x' :: l2)=enc x'++Al enc l2:=by simp [Al]
 rw [b,c,List.append_assoc,List.append_assoc,List.set_append_left _ _ (by rw [he];exact hj),hx]
theorem Gv {α:Type} {xs:List α} {k:Nat} {x:α} (h:xs[k]? = some x):xs.drop k=x :: xs.drop (k+1):=by
 have a:=(List.getElem?_eq_some_iff.1 h).1;rw [List.drop_eq_getElem_cons a,(List.getElem?_eq_some_iff.1 h).2]
def Bs {α:Type} (enc:α->List Value) (w:World) (a:Option Addr) (n t:Nat) (xs:List α):Prop :=
 xs.length=n/\n<=9223372036854775807/\((a=none/\n=0)\/∃ b rest,a=some ⟨b,0,none⟩/\B8 w b (Al enc xs++rest) t)
theorem Bs.arr {α:Type} {enc:α->List Value} {sz:Nat} (he:∀ x,(enc x).length=sz) {w:World} {a:Option Addr} {n t:Nat} {xs:List α} (h:Bs enc w a n t xs):A4 enc sz w a n xs:=by
 obtain ⟨b,c,d⟩:=h;rcases d with ⟨rfl,rfl⟩ | ⟨f,rest,rfl,e⟩
 .have:xs=[]:=List.eq_nil_of_length_eq_zero b;subst this;exact A4.nil
 .exact e.arr he b c
theorem Bs.mod {α:Type} {enc:α->List Value} {S:Nat->Prop} {w w':World} {a:Option Addr} {n t:Nat} {xs:List α} (h:Bs enc w a n t xs) (e:BP S w w') (hc:∀ x,a=some x->¬ S x.block):Bs enc w' a n t xs :=
 ⟨h.1,h.2.1,h.2.2.imp id fun ⟨c,rest,b,d⟩=>⟨c,rest,b,d.mod e (hc _ b)⟩⟩
theorem Bs.ext {α:Type} {enc:α->List Value} {w w':World} {a:Option Addr} {n t:Nat} {xs:List α} (h:Bs enc w a n t xs) (e:AD w w'):Bs enc w' a n t xs :=
 ⟨h.1,h.2.1,h.2.2.imp id fun ⟨b,rest,c,d⟩=>⟨b,rest,c,d.ext e⟩⟩
theorem Bs.nil {α:Type} {enc:α->List Value} {w:World} {t:Nat}:Bs enc w none 0 t ([]:List α):=⟨rfl,om,.inl ⟨rfl,rfl⟩⟩
def AL (a:Option Addr) (k:Nat):Prop:=∃ x,a=some x/\k=x.block
def Ab (B:Nat) (a:Option Addr):Prop:=∀ x,a=some x->B<=x.block
theorem Ab.mono {B B':Nat} {a:Option Addr} (h:Ab B a) (hb:B'<=B):Ab B' a:=fun c b=>Nat.le_trans hb (h c b)
theorem Ab.nil {B:Nat}:Ab B none:=fun b a=>by cases a
section
variable {P:Program}
theorem AB.index {α:Type} {enc:α->List Value} {sz t:Nat} (ht:CQ P t=some sz) {w:World} {a:Option Addr} {n c:Nat} {xs:List α} (h:A4 enc sz w a n xs) {i:Int} (k:Nat) (hi:i=k) {x:α} (hx:xs[k]? = some x) {kd:IntKind}
  {K:Value->World->Prop} (hK:∀ b o,a=some ⟨b,o,none⟩->AK w b (o+k * sz) (enc x)->K (.pointer (some ⟨b,o+k * sz,none⟩)) w):AB P (Instr.indexAt t (.slice a n c) (.int kd i)) w K:=by
 obtain ⟨m,p,l,f,j⟩:=Gd ht;obtain ⟨b,o,d,e⟩:=h.2.2 k x hx;have g:k<n:=by rw [<- h.1];exact (List.getElem?_eq_some_iff.1 hx).1
 subst hi;subst d;refine A6 ?_ (hK b o rfl e);simp [Instr.indexAt,asIntOf,run_underlying l,g,sizeOf,typeInfo,f,j,CT]
theorem G9 {sz t:Nat} (ht:CQ P t=some sz) {w:World} {b o n c:Nat} {i:Int} (k:Nat) (hi:i=k) (hlt:k<n) {kd:IntKind}
  {K:Value->World->Prop} (hK:K (.pointer (some ⟨b,o+k * sz,none⟩)) w):AB P (Instr.indexAt t (.slice (some ⟨b,o,none⟩) n c) (.int kd i)) w K:=by
 obtain ⟨f,g,e,a,d⟩:=Gd ht;subst hi;refine A6 ?_ hK;simp [Instr.indexAt,asIntOf,run_underlying e,hlt,sizeOf,typeInfo,a,d,CT]
theorem CP (op:BinOp) (t:Nat) (X Y:Operand) (k k':IntKind) (a b:Int) (w:World):(eqGuard op t X Y (.int k a) (.int k' b)).run P w = .ok () w:=by
 cases op<;>simp [eqGuard]
theorem AB.add {t:Nat} {X Y:Operand} {a b:Int} (r:Int) (hr:a+b=r) (h1 : -9223372036854775808<=r) (h2:r<=9223372036854775807) {w:World} {K:Value->World->Prop} (hK:K (.int .i64 r) w) :
  AB P (Bl .add t X Y (.int .i64 a) (.int .i64 b)) w K:=by
 refine A6 ?_ hK;have:=IntWalk.i64_in r ⟨h1,h2⟩;simp [Bl,CP,binOp,Op.intArith,hr,this]
theorem AB.sub {t:Nat} {X Y:Operand} {a b:Int} (r:Int) (hr:a - b=r) (h1 : -9223372036854775808<=r) (h2:r<=9223372036854775807) {w:World} {K:Value->World->Prop} (hK:K (.int .i64 r) w) :
  AB P (Bl .sub t X Y (.int .i64 a) (.int .i64 b)) w K:=by
 refine A6 ?_ hK;have:=IntWalk.i64_in r ⟨h1,h2⟩;simp [Bl,CP,binOp,Op.intArith,hr,this]
theorem AB.mul {t:Nat} {X Y:Operand} {a b:Int} (r:Int) (hr:a * b=r) (h1 : -9223372036854775808<=r) (h2:r<=9223372036854775807) {w:World} {K:Value->World->Prop} (hK:K (.int .i64 r) w) :
  AB P (Bl .mul t X Y (.int .i64 a) (.int .i64 b)) w K:=by
 refine A6 ?_ hK;have:=IntWalk.i64_in r ⟨h1,h2⟩;simp [Bl,CP,binOp,Op.intArith,hr,this]
theorem AB.quo {t:Nat} {X Y:Operand} {a b:Int} (h0:0<=a) (ha:a<=9223372036854775807) (hb:0<b) {w:World} {K:Value->World->Prop} (hK:K (.int .i64 (a / b)) w) :
  AB P (Bl .quo t X Y (.int .i64 a) (.int .i64 b)) w K:=by
 refine A6 ?_ hK;have d:¬ b=0:=om
 have c:a.tdiv b=a / b:=Int.tdiv_eq_ediv_of_nonneg h0;have e:0<=a / b:=Int.ediv_nonneg h0 om;have f:a / b<=a:=Int.ediv_le_self _ h0;have:=IntWalk.i64_in (a / b) ⟨om,om⟩;simp [Bl,CP,binOp,Op.intDiv,d,c,this]
theorem AB.rem {t:Nat} {X Y:Operand} {a b:Int} (h0:0<=a) (hb:0<b) {w:World} {K:Value->World->Prop} (hK:K (.int .i64 (a % b)) w) :
  AB P (Bl .rem t X Y (.int .i64 a) (.int .i64 b)) w K:=by
 refine A6 ?_ hK;have d:¬ b=0:=om
 have c:a.tmod b=a % b:=Int.tmod_eq_emod_of_nonneg h0;simp [Bl,CP,binOp,Op.intDiv,d,c]
theorem Ho {t:Nat} {X Y:Operand} {a b:Int} {k:IntKind} {w:World} {K:Value->World->Prop} (hK:K (.int k (k.wrap (a+b))) w) :
  AB P (Bl .add t X Y (.int k a) (.int k b)) w K:=by
 refine A6 ?_ hK;simp [Bl,CP,binOp,Op.intArith]
theorem Hn {t:Nat} {X Y:Operand} {a b:Int} {k:IntKind} {w:World} {K:Value->World->Prop} (hK:K (.int k (k.wrap (a - b))) w) :
  AB P (Bl .sub t X Y (.int k a) (.int k b)) w K:=by
 refine A6 ?_ hK;simp [Bl,CP,binOp,Op.intArith]
theorem Ax {t:Nat} {X Y:Operand} {a b:ByteArray} (hl:a.size+b.size<=9223372036854775807) {w:World} {K:Value->World->Prop} (hK:K (.string (a++b)) w) :
  AB P (Bl .add t X Y (.string a) (.string b)) w K:=by
 refine A6 ?_ hK;have c:(a.size:Int)+b.size<=9223372036854775807:=om
 simp [Bl,eqGuard,binOp,Op.stringOp,c]
theorem As {s t:Nat} {k:IntKind} (ht:I9 P t=some k) (hs:(P.underlying s).isSome=true) {k0:IntKind} {n:Int} (hw:k.wrap n=n) {w:World} {K:Value->World->Prop} (hK:K (.int k n) w) :
  AB P (convert s t (.int k0 n)) w K:=by
 have b:P.underlying t=some (.int k):=by
  unfold I9 at ht;split at ht<;>simp_all
 obtain ⟨c,a⟩:=Option.isSome_iff_exists.1 hs;refine A6 ?_ hK;simp [convert,run_underlying b,run_underlying a,Conv.intToInt,hw]
def C8 (P:Program) (t:Nat):Option (Nat×List Value×Nat) :=
 match P.underlying t with
 | some (.slice e)=>match P.info? e with
  | some inf=>match inf.zero with
   | some z=>if z.cells.size=inf.size/\0<inf.size then some (e,z.cells.toList,inf.bytes) else none
   | none=>none
  | none=>none
 | _=>none
theorem GG {t e by_:Nat} {zs:List Value} (h:C8 P t=some (e,zs,by_)):∃ i z,P.underlying t=some (.slice e)/\P.info? e=some i/\i.zero=some z/\z.cells.toList=zs/\i.bytes=by_/\z.cells.size=i.size/\0<i.size:=by
 unfold C8 at h;split at h<;>try cases h
 rename_i f c;split at h<;>try cases h
 rename_i g b;split at h<;>try cases h
 rename_i z d;split at h<;>try cases h
 rename_i a;exact ⟨_,_,c,b,d,rfl,rfl,a.1,a.2⟩
theorem Qd (z:Array Value) (hz:0<z.size) (n:Nat):(madeCells z (n * z.size)).toList=Al (fun _:Unit=>z.toList) (List.replicate n ()):=by
 apply List.ext_getElem?;intro a;by_cases c:a<n * z.size
 .have g:(madeCells z (n * z.size)).toList[a]? = some (z[a % z.size]!):=by simp [madeCells,c]
  rw [g];have j:a / z.size<n:=(Nat.div_lt_iff_lt_mul hz).2 c;have h:=LJ (enc:=fun _:Unit=>z.toList) (sz:=z.size) (fun _=>by simp) (List.replicate n ()) (a / z.size);have d:a % z.size<z.size:=Nat.mod_lt _ hz;have f:a=a / z.size * z.size+a % z.size:=by have:=Nat.div_add_mod a z.size;rw [Nat.mul_comm] at this;omega
  have b:((Al (fun _:Unit=>z.toList) (List.replicate n ())).drop (a / z.size * z.size))[a % z.size]? = some (z[a % z.size]!):=by
   rw [h,List.drop_replicate];obtain ⟨e,i⟩:∃ e,n - a / z.size=e+1:=⟨n - a / z.size - 1,om⟩;rw [i,List.replicate_succ];simp only [Al,List.flatMap_cons];rw [List.getElem?_append_left (by simpa using d)];simp [d]
  rw [List.getElem?_drop] at b;rw [<- f] at b;exact b.symm
 .rw [List.getElem?_eq_none (by simp [madeCells];omega),List.getElem?_eq_none (by rw [A1 (sz:=z.size) (fun _=>by simp)];simp;omega)]
theorem AB.make {t e by_:Nat} {zs:List Value} (ht:C8 P t=some (e,zs,by_)) {kl kc:IntKind} {m:Int} (n:Nat) (hm:m=n) (h63:n<=9223372036854775807) (hbytes:by_ * n<=281474976710656)
  {w:World} {K:Value->World->Prop} (hK:∀ b w',w.heap.size<=b->b<w'.heap.size->AD w w'->B8 w' b (Al (fun _:Unit=>zs) (List.replicate n ())) e->K (.slice (some ⟨b,0,none⟩) n n) w') :
  AB P (Instr.makeSlice t (.int kl m) (.int kc m)) w K:=by
 obtain ⟨a,c,j,h,k,rfl,rfl,i,l⟩:=GG ht;subst hm;have g:(a.bytes:Int) * (n:Int)<=281474976710656:=by
  have f:((a.bytes * n:Nat):Int)<=281474976710656:=om
  rwa [Int.natCast_mul] at f
 have d:=run_make (P:=P) w t e a c j h k kl kc n n om (Int.le_refl _) g om;simp only [Int.toNat_natCast] at d;refine A6 d (hK _ _ (Nat.le_refl _) ?_ (JJ _ _) ?_)
 .show w.heap.size<(w.heap.push _).size;simp
 .have:=JK w (madeCells c.cells (n * a.size)).toList e;rw [<- Qd c.cells om n,i];exact this
theorem WW {α:Type} {enc:α->List Value} {sz:Nat} (he:∀ x,(enc x).length=sz) (done:List α) (zs v:List Value) (hz:zs.length=sz) (x:α) (hv:enc x=v) (m:Nat) :
  let cs:=Al enc done++Al (fun _:Unit=>zs) (List.replicate (m+1) ())
  cs.take (done.length * sz)++v++cs.drop (done.length * sz+sz)=Al enc (done++[x])++Al (fun _:Unit=>zs) (List.replicate m ()):=by
 intro cs;have a:(Al enc done).length=done.length * sz:=A1 he done;have b:cs.take (done.length * sz)=Al enc done:=by
  rw [<- a];exact List.take_left
 have c:cs.drop (done.length * sz+sz)=Al (fun _:Unit=>zs) (List.replicate m ()):=by
  show (Al enc done++Al (fun _:Unit=>zs) (List.replicate (m+1) ())).drop _=_;rw [List.drop_append,a,List.drop_eq_nil_of_le om];have:done.length * sz+sz - done.length * sz=sz:=om
  rw [this,List.replicate_succ];simp only [Al,List.flatMap_cons,List.nil_append];rw [List.drop_append,hz,List.drop_eq_nil_of_le om];simp
 rw [b,c,FN];subst hv;simp [Al]
end
end
section
open Go Go.RowKit
@[irreducible] def BQ (P:Program) (s:Sem Value) (w:World) (K:Value->Prop):Prop :=
 ∃ v,(∀ w',AD w w'->s.run P w' = .ok v w')/\K v
theorem Eh {P:Program} {s:Sem Value} {w:World} {K:Value->Prop} {v:Value} (h:∀ w',AD w w'->AB P s w' (fun u w''=>u=v/\w'=w'')) (hk:K v):BQ P s w K:=by
 unfold BQ;refine ⟨v,fun w' a=>?_,hk⟩;obtain ⟨u,w'',b,rfl,rfl⟩:=(h w' a).out;exact b
@[irreducible] def YQ (P:Program) (g:Nat) (args:List Value) (w:World) (K:Value->Prop):Prop :=
 ∃ v,(∀ w',AD w w'->E2 P g args w' (fun u w''=>u=v/\AD w' w''))/\K v
theorem Rs {P:Program} {g:Nat} {args:List Value} {w:World} {K:Value->Prop} {v:Value} (h:∀ w',AD w w'->E2 P g args w' (fun u w''=>u=v/\AD w' w'')) (hk:K v):YQ P g args w K:=by
 unfold YQ;exact ⟨v,h,hk⟩
def So (P:Program) (T:HS) (w:World) (o:Oper) (f:Fr) (K:Fr->Prop):Prop :=
 match o.op with
 | .call { callee := .value x,args:=⟨as⟩,.. } =>
  match ev f x with
  | .func (.func g) ⟨first⟩ ⟨cap⟩=>YQ P g (first++as.map (ev f)++cap) w (fun v=>Cq o.dst f v K)
  | _=>False
 | .load t x=>BQ P (Instr.loadAt t (ev f x)) w (fun v=>Cq o.dst f v K)
 | .indexAddr t x i=>BQ P (Instr.indexAt t (ev f x) (ev f i)) w (fun v=>Cq o.dst f v K)
 | .index t x i=>BQ P (Instr.index t (ev f x) (ev f i)) w (fun v=>Cq o.dst f v K)
 | op=>match Nk T f op with
  | some v=>Lr v fun v=>Cq o.dst f v K
  | none=>match op with
   | .binOp op t x y _=>BQ P (Bl op t x y (ev f x) (ev f y)) w (fun v=>Cq o.dst f v K)
   | .unOp op _ x=>BQ P (Op.unary op (ev f x)) w (fun v=>Cq o.dst f v K)
   | .convert s t x=>BQ P (convert s t (ev f x)) w (fun v=>Cq o.dst f v K)
   | .slice t x lo hi mx=>BQ P (Instr.sliceAt t (ev f x) (lo.map (ev f)) (hi.map (ev f)) (mx.map (ev f))) w (fun v=>Cq o.dst f v K)
   | .build t ⟨ps⟩=>BQ P (Instr.build t (ps.map fun p=>(p.1,ev f p.2)).toArray) w (fun v=>Cq o.dst f v K)
   | _=>False
noncomputable def aA7 (P:Program) (T:HS) (w:World) (all:List Oper) (os:List Oper):Fr->(Fr->Prop)->Prop :=
 List.rec (motive:=fun _=>Fr->(Fr->Prop)->Prop) (fun f K=>K f)
  (fun o _ ih f K=>EU all o f (fun f=>So P T w o f fun f=>ih f K) (fun f=>Cq o.dst f undef fun f=>ih f K)) os
theorem Y9 (P:Program) (T:HS) (w:World) (all:List Oper) (o:Oper) (os:List Oper) (f:Fr) (K:Fr->Prop) :
  aA7 P T w all (o :: os) f K=EU all o f (fun f=>So P T w o f fun f=>aA7 P T w all os f K) (fun f=>Cq o.dst f undef fun f=>aA7 P T w all os f K):=rfl
theorem D7 {P:Program} {o:Oper} {n:Nat} {f:Fr} {C:World->Prop} {w:World} {v:Value} (h:(execOp (A3 n f).eval o).run P w = .ok (.value v) w):o.quietAt P (A3 n f) C w v:=by
 unfold Oper.quietAt;rw [h];exact ⟨rfl,rfl⟩
theorem Xg {P:Program} {T:HS} (hT:T.fok P=true) {n:Nat} {all:Array Oper} {o:Oper} {f:Fr} {w:World} {K:Fr->Prop} (hok:DH n all o=true)
  (h:So P T w o f K) {L:Act->Prop} (hL:∀ f,K f->L (A3 n f)):o.quiet P (A3 n f) (fun w'=>AD w w') L:=by
 simp only [DH,Bool.and_eq_true] at hok;have hok:=hok.1;have j:=hok;rw [List.all_eq_true] at j;have l:∀ d,Cq o.dst f d K->L ((A3 n f).put o.dst d):=fun d e=>by
  rw [AY] at e;have:=hL _ e;rw [<- BL] at this;exact this
 unfold So at h;split at h
 .rename_i c t ar b;have k:(A3 n f).eval c=ev f c:=Ae (j c (by simp [b,Op.operands,Call.operands]));have ac:t.map (A3 n f).eval=t.map (ev f):=Qc fun g p=>j g (by simp [b,Op.operands,Call.operands];right;exact p);split at h
  .rename_i ab first aa ag;unfold YQ at h;obtain ⟨d,s,e⟩:=h;refine ⟨d,fun w' i=>?_,l _ e⟩;have s:=s w' i;unfold E2 at s;obtain ⟨r,ae⟩:=s;unfold Zz at r;split at r
   .rename_i u ah;simp only [Bool.and_eq_true,bne_iff_ne,ne_eq] at r;have ad:¬ u.body=none:=by cases av:u.body<;>simp_all
    have al:¬ u.name = "runtime.NumGoroutine" := r.2;have a:(execOp (A3 n f).eval o).run P w' = .ok (.enter ab (first++t.map (ev f)++aa).toArray) w':=by
     unfold execOp;simp only [b];simp [resolve,k,ag,Deferred.ofValue,invoke,callFunc,ah,ad,al,ac]
    unfold Oper.quietAt;rw [a];refine ⟨rfl,ae.mono fun au ay ⟨ax,af,ao,k⟩=>?_⟩;subst af;subst ao;exact ⟨rfl,AD.trans i k⟩
   .cases r
  .exact h.elim
 .rename_i q c b;have k:(A3 n f).eval c=ev f c:=Ae (j c (by simp [b,Op.operands]));unfold BQ at h;obtain ⟨d,a,e⟩:=h;refine ⟨d,fun w' i=>D7 ?_,l _ e⟩;have a:=a w' i;unfold execOp;simp only [b,k];simp [a]
 .rename_i q c g b;have k:(A3 n f).eval c=ev f c:=Ae (j c (by simp [b,Op.operands]));have p:(A3 n f).eval g=ev f g:=Ae (j g (by simp [b,Op.operands]));unfold BQ at h;obtain ⟨d,a,e⟩:=h;refine ⟨d,fun w' i=>D7 ?_,l _ e⟩;have a:=a w' i;unfold execOp;simp only [b,k,p];simp [a]
 .rename_i q c g b;have k:(A3 n f).eval c=ev f c:=Ae (j c (by simp [b,Op.operands]));have p:(A3 n f).eval g=ev f g:=Ae (j g (by simp [b,Op.operands]));unfold BQ at h;obtain ⟨d,a,e⟩:=h;refine ⟨d,fun w' i=>D7 ?_,l _ e⟩;have a:=a w' i;unfold execOp;simp only [b,k,p];simp [a]
 .split at h
  .rename_i d ap;rw [GI] at h;exact ⟨d,fun w' _=>D7 (JZ hT hok ap w'),l _ h⟩
  .split at h
   .rename_i aq q c g az b;have k:(A3 n f).eval c=ev f c:=Ae (j c (by simp [b,Op.operands]));have p:(A3 n f).eval g=ev f g:=Ae (j g (by simp [b,Op.operands]));unfold BQ at h;obtain ⟨d,a,e⟩:=h;refine ⟨d,fun w' i=>D7 ?_,l _ e⟩;have a:=a w' i;unfold execOp;simp only [b,k,p];unfold Bl at a;simp only [Sem.run_bind] at a ⊢;rw [a];simp
   .rename_i aq q c b;have k:(A3 n f).eval c=ev f c:=Ae (j c (by simp [b,Op.operands]));unfold BQ at h;obtain ⟨d,a,e⟩:=h;refine ⟨d,fun w' i=>D7 ?_,l _ e⟩;have a:=a w' i;unfold execOp;simp only [b,k];simp [a]
   .rename_i aw q c b;have k:(A3 n f).eval c=ev f c:=Ae (j c (by simp [b,Op.operands]));unfold BQ at h;obtain ⟨d,a,e⟩:=h;refine ⟨d,fun w' i=>D7 ?_,l _ e⟩;have a:=a w' i;unfold execOp;simp only [b,k];simp [a]
   .rename_i q c x v y b;have k:(A3 n f).eval c=ev f c:=Ae (j c (by simp [b,Op.operands]));have aj:x.map (A3 n f).eval=x.map (ev f):=by
     cases x with
     | none=>rfl
     | some g=>simp only [Option.map_some];rw [Ae (j g (by simp [b,Op.operands]))]
    have ai:v.map (A3 n f).eval=v.map (ev f):=by
     cases v with
     | none=>rfl
     | some g=>simp only [Option.map_some];rw [Ae (j g (by simp [b,Op.operands]))]
    have ak:y.map (A3 n f).eval=y.map (ev f):=by
     cases y with
     | none=>rfl
     | some g=>simp only [Option.map_some];rw [Ae (j g (by simp [b,Op.operands]))]
    unfold BQ at h;obtain ⟨d,a,e⟩:=h;refine ⟨d,fun w' i=>D7 ?_,l _ e⟩;have a:=a w' i;unfold execOp;simp only [b,k,aj,ai,ak];simp [a]
   .rename_i q z b;have an:(z.map fun m:Nat×Operand=>(m.1,(A3 n f).eval m.2))=z.map fun m=>(m.1,ev f m.2):=List.map_congr_left fun m am=>by
     rw [Ae (j m.2 (by simp [b,Op.operands];exact ⟨m.1,am⟩))]
    unfold BQ at h;obtain ⟨d,a,e⟩:=h;refine ⟨d,fun w' i=>D7 ?_,l _ e⟩;have a:=a w' i;unfold execOp;simp only [b];simp [an,a]
   .exact h.elim
theorem MP {P:Program} {T:HS} (hT:T.fok P=true) {n:Nat} {all:Array Oper} (hok:DL n all=true) {w:World} {K:Fr->Prop} {Q:Act->Prop}
  (hQ:∀ f,K f->Q (A3 n f)):∀ (os:List Oper) (f:Fr),(∀ o∈os,o∈all.toList)->aA7 P T w all.toList os f K->wpQuiet P all (fun w'=>AD w w') Q os (A3 n f)
 | [],f,_,h=>hQ _ h
 | o :: os,f,hm,h=>by
  have hoki:DH n all o=true:=by
   unfold DL at hok;rw [List.all_eq_true] at hok;exact hok _ (hm o sI)
  rw [Y9] at h;have a:=Cg hoki h;simp only [wpQuiet];split
  .rename_i c;rw [if_pos c] at a;exact Xg hT hoki a fun f d=>MP hT hok hQ os f (fun o b=>hm o (by simp [b])) d
  .rename_i c;rw [if_neg c,AY] at a;rw [BL];exact MP hT hok hQ os _ (fun o b=>hm o (by simp [b])) a
theorem BS {P:Program} {T:HS} (hT:T.fok P=true) (hm:P.follows .mixedOrders=true) {n:Nat} {ops:Array Oper} (hok:DL n ops=true) (hB:Region.lexB .any ops=true) {f:Fr} {w:World} {K:Fr->World->Prop}
  (h:aA7 P T w ops.toList ops.toList f fun f'=>∀ w',AD w w'->K f' w'):Eo P n ops f w K:=by
 unfold Eo;intro e;refine wp_region_quiet (C:=fun w'=>AD w w') hm hB ?_ ?_
 .exact ⟨rfl,rfl,rfl,Nat.le_refl _,fun _ _=>rfl⟩
 .exact MP hT hok (Q:=fun a=>∀ w',AD w w'->Mo n K (fun _ _ _=>False) (fun _ _=>False) .normal a w') (fun f' b w' d=>⟨f',rfl,b w' d⟩) _ f (fun _ c=>c) h
section
variable {P:Program}
theorem BQ.index {α:Type} {enc:α->List Value} {sz t:Nat} (ht:CQ P t=some sz) {w:World} {a:Option Addr} {n c:Nat} {xs:List α} (h:A4 enc sz w a n xs) {i:Int} (k:Nat) (hi:i=k) {x:α} (hx:xs[k]? = some x) {kd:IntKind}
  {K:Value->Prop} (hK:∀ b o,a=some ⟨b,o,none⟩->AK w b (o+k * sz) (enc x)->K (.pointer (some ⟨b,o+k * sz,none⟩))):BQ P (Instr.indexAt t (.slice a n c) (.int kd i)) w K:=by
 obtain ⟨b,o,d,e⟩:=h.2.2 k x hx;have f:k<n:=by rw [<- h.1];exact (List.getElem?_eq_some_iff.1 hx).1
 subst d;exact Eh (fun g _=>G9 ht k hi f ⟨rfl,rfl⟩) (hK b o rfl e)
theorem Wv {ty:Nat} (hty:DK P ty=true) {w:World} {b o:Nat} {vs:List Value} (h:AK w b o vs) {v:Value} (hk:vs[0]? = some v) {K:Value->Prop} (hK:K v) :
  BQ P (Instr.loadAt ty (.pointer (some ⟨b,o,none⟩))) w K:=Eh (fun _ a=>Gz hty (k:=0) (h.ext a) hk ⟨rfl,rfl⟩) hK
theorem Wu {ty:Nat} (hty:DK P ty=true) {w:World} {b o k:Nat} {vs:List Value} (h:AK w b o vs) {v:Value} (hk:vs[k]? = some v) {K:Value->Prop} (hK:K v) :
  BQ P (Instr.loadAt ty (.pointer (some ⟨b,o+k,none⟩))) w K:=Eh (fun _ a=>Gz hty (h.ext a) hk ⟨rfl,rfl⟩) hK
theorem Lu {ty n:Nat} (hty:D1 P ty=some n) {w:World} {b o:Nat} {vs:List Value} (h:AK w b o vs) (hn:vs.length=n) {K:Value->Prop} (hK:K (.agg vs.toArray)) :
  BQ P (Instr.loadAt ty (.pointer (some ⟨b,o,none⟩))) w K:=Eh (fun _ a=>Hg hty (h.ext a) hn ⟨rfl,rfl⟩) hK
theorem Xr {t:Nat} (ht:HF P t=true) {s:ByteArray} {i:Int} {c:UInt8} (k:Nat) (hi:i=k) (hk:s.data.toList[k]? = some c) {kd:IntKind} {w:World} {K:Value->Prop} (hK:K (.int .u8 c.toNat)) :
  BQ P (Instr.index t (.string s) (.int kd i)) w K:=Eh (fun _ _=>Tz ht k hi hk ⟨rfl,rfl⟩) hK
theorem BQ.add {t:Nat} {X Y:Operand} {a b:Int} (r:Int) (hr:a+b=r) (h1 : -9223372036854775808<=r) (h2:r<=9223372036854775807) {w:World} {K:Value->Prop} (hK:K (.int .i64 r)) :
  BQ P (Bl .add t X Y (.int .i64 a) (.int .i64 b)) w K:=Eh (fun _ _=>AB.add r hr h1 h2 ⟨rfl,rfl⟩) hK
theorem BQ.sub {t:Nat} {X Y:Operand} {a b:Int} (r:Int) (hr:a - b=r) (h1 : -9223372036854775808<=r) (h2:r<=9223372036854775807) {w:World} {K:Value->Prop} (hK:K (.int .i64 r)) :
  BQ P (Bl .sub t X Y (.int .i64 a) (.int .i64 b)) w K:=Eh (fun _ _=>AB.sub r hr h1 h2 ⟨rfl,rfl⟩) hK
theorem Hp {t:Nat} {X Y:Operand} {a b:ByteArray} (hl:a.size+b.size<=9223372036854775807) {w:World} {K:Value->Prop} (hK:K (.string (a++b))) :
  BQ P (Bl .add t X Y (.string a) (.string b)) w K:=Eh (fun _ _=>Ax hl ⟨rfl,rfl⟩) hK
theorem Xl {ty:Nat} (hty:DK P ty=true) {w:World} {b o:Nat} {vs:List Value} (h:AK w b o vs) {v:Value} (hk:vs[0]? = some v) {K:Value->World->Prop} (hK:K v w) :
  AB P (Instr.loadAt ty (.pointer (some ⟨b,o,none⟩))) w K:=Gz hty (k:=0) h hk hK
theorem EI {t sz:Nat} (ht:CQ P t=some sz) {a:Option Addr} {n c l h:Nat} (hl:l<=h) (hh:h<=n) (hn:n<=c) {lo hi:Option Value} {k k':IntKind} (hlo:(lo=none/\l=0)\/lo=some (.int k l)) (hhi:(hi=none/\h=n)\/hi=some (.int k' h)) (w:World) :
  (Instr.sliceAt t (.slice a n c) lo hi none).run P w = .ok (.slice (if c=l then a else a.map (·.add (l * sz))) (h - l) (c - l)) w:=by
 obtain ⟨g,i,f,d,e⟩:=Gd ht;have b:h<=c:=om
 rcases hlo with ⟨rfl,rfl⟩ | rfl<;>rcases hhi with ⟨rfl,rfl⟩ | rfl <;>
  simp [Instr.sliceAt,Instr.slice,run_underlying f,Instr.sliceBounds,Instr.sliceBound,asIntOf,sizeOf,typeInfo,d,e,hl,b]
theorem A4.sub {α:Type} {enc:α->List Value} {sz:Nat} {w:World} {a:Option Addr} {n c l h:Nat} {xs:List α} (hA:A4 enc sz w a n xs) (hl:l<=h) (hh:h<=n) (hn:n<=c) :
  A4 enc sz w (if c=l then a else a.map (·.add (l * sz))) (h - l) ((xs.drop l).take (h - l)):=by
 obtain ⟨m,f,g⟩:=hA;refine ⟨sW,Nat.le_trans (Nat.sub_le _ _) (Nat.le_trans hh f),fun p q b=>?_⟩;rw [List.getElem?_take] at b;split at b
 .rename_i o;rw [List.getElem?_drop] at b;obtain ⟨e,k,i,d⟩:=g _ _ b;have j:¬ c=l:=om
  rw [if_neg j,i];refine ⟨e,k+l * sz,by simp [CT],?_⟩;rw [Nat.add_mul,<- Nat.add_assoc] at d;exact d
 .cases b
theorem AB.slice {α:Type} {enc:α->List Value} {t sz:Nat} (ht:CQ P t=some sz) {w:World} {a:Option Addr} {n c:Nat} {xs:List α} (hA:A4 enc sz w a n xs) (l h:Nat) (hl:l<=h) (hh:h<=n) (hn:n<=c) {lo hi:Option Value} {k k':IntKind} (hlo:(lo=none/\l=0)\/lo=some (.int k l)) (hhi:(hi=none/\h=n)\/hi=some (.int k' h))
  {K:Value->World->Prop} (hK:∀ a',A4 enc sz w a' (h - l) ((xs.drop l).take (h - l))->K (.slice a' (h - l) (c - l)) w):AB P (Instr.sliceAt t (.slice a n c) lo hi none) w K :=
 A6 (EI ht hl hh hn hlo hhi w) (hK _ (hA.sub hl hh hn))
theorem BQ.slice {α:Type} {enc:α->List Value} {t sz:Nat} (ht:CQ P t=some sz) {w:World} {a:Option Addr} {n c:Nat} {xs:List α} (hA:A4 enc sz w a n xs) (l h:Nat) (hl:l<=h) (hh:h<=n) (hn:n<=c) {lo hi:Option Value} {k k':IntKind} (hlo:(lo=none/\l=0)\/lo=some (.int k l)) (hhi:(hi=none/\h=n)\/hi=some (.int k' h))
  {K:Value->Prop} (hK:∀ a',A4 enc sz w a' (h - l) ((xs.drop l).take (h - l))->K (.slice a' (h - l) (c - l))):BQ P (Instr.sliceAt t (.slice a n c) lo hi none) w K :=
 Eh (fun b _=>A6 (EI ht hl hh hn hlo hhi b) ⟨rfl,rfl⟩) (hK _ (hA.sub hl hh hn))
end
end
section
open Go Go.RowKit
def aM5 (ops:Array Oper) (i j:Nat):Bool :=
 match ops[j]? with
 | some o=>o.after.any fun e=>Region.binds .any e && e.on == i
 | none=>false
def aE2 (o:Oper):Bool :=
 match o.op with
 | .move _=>o.guard.isNone
 | _=>false
def aL5 (ops:List Oper) (i:Nat):Bool :=
 match ops[i]? with
 | some o=>aE2 o
 | none=>false
def sel (ops:List Oper) (l:List Nat):List Oper:=l.filterMap fun i=>ops[i]?
def Fk (ops:Array Oper) (listed:Array Bool):Prop :=
 ∀ k o,ops[k]? = some o->listed.getD k true=true->∀ e∈o.after,Region.binds .any e=true->listed.getD e.on false=true
section
variable {P:Program} {ops:Array Oper} {C:World->Prop} {m:Nat} {listed:Array Bool}
theorem X8 {i:Nat} (h:listed.getD i false=true):listed.getD i true=true:=by
 rcases Nat.lt_or_ge i listed.size with a | a
 .simp [a] at h ⊢;exact h
 .simp [Array.getElem?_eq_none a] at h
theorem E0 {i:Nat} (hc:Fk ops listed) (hi:i∈Region.ready .any ops listed):Fk ops (listed.setIfInBounds i true):=by
 intro h k e f a c b;by_cases d:i=h
 .subst d;obtain ⟨_,l,g,j⟩:=mem_ready.1 hi;rw [e] at g;cases g
  exact getD_set_true (j a c b)
 .rw [getD_set_ne true d] at f;exact getD_set_true (hc h k e f a c b)
theorem GL (ops:Array Oper):Fk ops (Array.replicate ops.size false):=by
 intro c d a b;have:=(Array.getElem?_eq_some_iff.1 a).1;simp [this] at b
end
theorem Yy {o:Oper} (h:aE2 o=true):∃ x,o.op = .move x/\o.guard=none:=by
 unfold aE2 at h;split at h
 .rename_i x a;exact ⟨x,a,by simpa using h⟩
 .cases h
end
section
open Go Go.RowKit
variable {P:Program} {T:HS} {n:Nat} {f:Fr} {w:World} {ops:Array Oper} {K:Fr->World->Prop}
def Qt:Op->Bool
 | .move _ | .assign _ | .pick .. | .extract .. | .unOp .not _ _ | .makeFunc .. | .fieldAddr .. | .nilCheck _=>true
 | .binOp op _ _ _ _=>match op with
  | .eql | .neq | .lss | .leq | .gtr | .geq=>true
  | _=>false
 | _=>false
def HZ:Op->Bool
 | .call { callee := .value _,.. }=>true
 | _=>false
def Vn (ops:Array Oper):List (Nat×Bool)->Array Bool->Bool
 | [],listed=>(Region.ready .any ops listed).isEmpty
 | (i,s) :: l,listed=>(match s with
   | true=>Region.ready .any ops listed == [i]
   | false=>(Region.ready .any ops listed).contains i && Region.free .any ops listed i && (match ops[i]? with | some o=>!HZ o.op | none=>false)) && Vn ops l (listed.setIfInBounds i true)
def Z1 (ops:Array Oper) (plan:List (Nat×Bool)):Bool:=Region.noSelect ops && Nat.beq plan.length ops.size && Vn ops plan (Array.replicate ops.size false)
noncomputable def Sm (P:Program) (T:HS) (n:Nat) (w0:World) (all:List Oper) (os:List (Oper×Bool)):Fr->World->(Fr->World->Prop)->Prop :=
 List.rec (motive:=fun _=>Fr->World->(Fr->World->Prop)->Prop) (fun f w K=>K f w)
  (fun o _ ih f w K=>EU all o.1 f
   (fun f=>match (!o.2 || Qt o.1.op) with
    | true=>So P T w0 o.1 f fun f=>ih f w K
    | false=>Fl P T n o.1 f w fun f w'=>AD w0 w'/\ih f w' K)
   (fun f=>Cq o.1.dst f undef fun f=>ih f w K)) os
theorem Yz (P:Program) (T:HS) (n:Nat) (w0:World) (all:List Oper) (o:Oper×Bool) (os:List (Oper×Bool)) (f:Fr) (w:World) (K:Fr->World->Prop) :
  Sm P T n w0 all (o :: os) f w K=EU all o.1 f
   (fun f=>match (!o.2 || Qt o.1.op) with
    | true=>So P T w0 o.1 f fun f=>Sm P T n w0 all os f w K
    | false=>Fl P T n o.1 f w fun f w'=>AD w0 w'/\Sm P T n w0 all os f w' K)
   (fun f=>Cq o.1.dst f undef fun f=>Sm P T n w0 all os f w K):=rfl
def UO (ops:List Oper) (l:List (Nat×Bool)):List (Oper×Bool):=l.filterMap fun i=>(ops[i.1]?).map fun o=>(o,i.2)
theorem Ic (hT:T.fok P=true) {all:Array Oper} {o:Oper} {K:Fr->Prop} (hok:DH n all o=true) (hnc:HZ o.op=false)
  (h:So P T w o f K):∃ v,(∀ w',AD w w'->(execOp (A3 n f).eval o).run P w' = .ok (.value v) w')/\K (put f o.dst v):=by
 simp only [DH,Bool.and_eq_true] at hok;have hok:=hok.1;have g:=hok;rw [List.all_eq_true] at g;unfold So at h;split at h
 .rename_i c ab ac b;rw [b] at hnc;simp [HZ] at hnc
 .rename_i l c b;have j:(A3 n f).eval c=ev f c:=Ae (g c (by simp [b,Op.operands]));unfold BQ at h;obtain ⟨v,a,d⟩:=h;rw [AY] at d;refine ⟨v,fun w' i=>?_,d⟩;have a:=a w' i;unfold execOp;simp only [b,j];simp [a]
 .rename_i l c e b;have j:(A3 n f).eval c=ev f c:=Ae (g c (by simp [b,Op.operands]));have m:(A3 n f).eval e=ev f e:=Ae (g e (by simp [b,Op.operands]));unfold BQ at h;obtain ⟨v,a,d⟩:=h;rw [AY] at d;refine ⟨v,fun w' i=>?_,d⟩;have a:=a w' i;unfold execOp;simp only [b,j,m];simp [a]
 .rename_i l c e b;have j:(A3 n f).eval c=ev f c:=Ae (g c (by simp [b,Op.operands]));have m:(A3 n f).eval e=ev f e:=Ae (g e (by simp [b,Op.operands]));unfold BQ at h;obtain ⟨v,a,d⟩:=h;rw [AY] at d;refine ⟨v,fun w' i=>?_,d⟩;have a:=a w' i;unfold execOp;simp only [b,j,m];simp [a]
 .split at h
  .rename_i v aa;rw [GI,AY] at h;exact ⟨v,fun w' _=>JZ hT hok aa w',h⟩
  .split at h
   .rename_i op l c e ae b;have j:(A3 n f).eval c=ev f c:=Ae (g c (by simp [b,Op.operands]));have m:(A3 n f).eval e=ev f e:=Ae (g e (by simp [b,Op.operands]));unfold BQ at h;obtain ⟨v,a,d⟩:=h;rw [AY] at d;refine ⟨v,fun w' i=>?_,d⟩;have a:=a w' i;unfold execOp;simp only [b,j,m];unfold Bl at a;simp only [Sem.run_bind] at a ⊢;rw [a];simp
   .rename_i op l c b;have j:(A3 n f).eval c=ev f c:=Ae (g c (by simp [b,Op.operands]));unfold BQ at h;obtain ⟨v,a,d⟩:=h;rw [AY] at d;refine ⟨v,fun w' i=>?_,d⟩;have a:=a w' i;unfold execOp;simp only [b,j];simp [a]
   .rename_i ad l c b;have j:(A3 n f).eval c=ev f c:=Ae (g c (by simp [b,Op.operands]));unfold BQ at h;obtain ⟨v,a,d⟩:=h;rw [AY] at d;refine ⟨v,fun w' i=>?_,d⟩;have a:=a w' i;unfold execOp;simp only [b,j];simp [a]
   .rename_i l c q p r b;have j:(A3 n f).eval c=ev f c:=Ae (g c (by simp [b,Op.operands]));have u:q.map (A3 n f).eval=q.map (ev f):=by
     cases q with
     | none=>rfl
     | some e=>simp only [Option.map_some];rw [Ae (g e (by simp [b,Op.operands]))]
    have t:p.map (A3 n f).eval=p.map (ev f):=by
     cases p with
     | none=>rfl
     | some e=>simp only [Option.map_some];rw [Ae (g e (by simp [b,Op.operands]))]
    have x:r.map (A3 n f).eval=r.map (ev f):=by
     cases r with
     | none=>rfl
     | some e=>simp only [Option.map_some];rw [Ae (g e (by simp [b,Op.operands]))]
    unfold BQ at h;obtain ⟨v,a,d⟩:=h;rw [AY] at d;refine ⟨v,fun w' i=>?_,d⟩;have a:=a w' i;unfold execOp;simp only [b,j,u,t,x];simp [a]
   .rename_i l s b;have z:(s.map fun k:Nat×Operand=>(k.1,(A3 n f).eval k.2))=s.map fun k=>(k.1,ev f k.2):=List.map_congr_left fun k y=>by
     rw [Ae (g k.2 (by simp [b,Op.operands];exact ⟨k.1,y⟩))]
    unfold BQ at h;obtain ⟨v,a,d⟩:=h;rw [AY] at d;refine ⟨v,fun w' i=>?_,d⟩;have a:=a w' i;unfold execOp;simp only [b];simp [z,a]
   .exact h.elim
theorem Qs {o:Op} (h:Qt o=true):HZ o=false:=by
 unfold HZ;split
 .simp [Qt] at h
 .rfl
theorem RB (hT:T.fok P=true) (hok:DL n ops=true) (hs:Region.noSelect ops=true) {w0:World} {Q:Exit->Act->World->Prop} (hQp:∀ c a w,¬ Q (.panic c) a w) (hQ:∀ f w,K f w->Q .normal (A3 n f) w) :
  ∀ (plan:List (Nat×Bool)) (listed:Array Bool) (f:Fr) (w:World),Vn ops plan listed=true->AD w0 w->Sm P T n w0 ops.toList (UO ops.toList plan) f w K ->
   wpAnyH P .any ops Q (fun w'=>AD w0 w') plan.length listed (A3 n f) w
 | [],listed,f,w,hB,_,h=>by
  simp only [Vn,List.isEmpty_iff] at hB;exact wpAnyH_done hB (hQ f w h) _
 | (i,s) :: l,listed,f,w,hB,hw,h=>by
  simp only [Vn,Bool.and_eq_true] at hB;obtain ⟨h1,hB'⟩:=hB;have af:i∈Region.ready .any ops listed:=by
   cases s
   .simp only [Bool.and_eq_true] at h1;simpa using h1.1.1
   .simp only [beq_iff_eq] at h1;rw [h1];simp
  obtain ⟨_,e,p,_⟩:=mem_ready.1 af;have z:ops.toList[i]? = some e:=by simpa using p
  have q:DH n ops e=true:=by
   unfold DL at hok;rw [List.all_eq_true] at hok;exact hok _ (List.mem_of_getElem? z)
  have ag:UO ops.toList ((i,s) :: l)=(e,s) :: UO ops.toList l:=by
   unfold UO;rw [List.filterMap_cons_some (b:=(e,s)) (by simp [z])]
  rw [ag,Yz] at h;have j:=Cg q h;have x:=fun (f:Fr) (w:World) (hw:AD w0 w) (h:Sm P T n w0 ops.toList (UO ops.toList l) f w K)=>RB hT hok hs hQp hQ l (listed.setIfInBounds i true) f w hB' hw h;have y:∀ g,(Region.wanted e (yielded ops (A3 n f).tmps)=true->∀ w',AD w0 w'->(execOp (A3 n f).eval e).run P w' = .ok (.value g) w')->(Region.wanted e (yielded ops (A3 n f).tmps)=false->g=undef) ->
    Sm P T n w0 ops.toList (UO ops.toList l) (put f e.dst g) w K->wpOp P ops Q i (fun ab w'=>AD w0 w'/\wpAnyH P .any ops Q (fun w'=>AD w0 w') l.length (listed.setIfInBounds i true) ab w') (A3 n f) w:=by
   intro g o u k;have v:YieldsIf P ops (fun w'=>AD w0 w') e g (A3 n f):=by
    cases d:Region.wanted e (yielded ops (A3 n f).tmps) with
    | true=>exact .inl ⟨d,o d⟩
    | false=>exact .inr ⟨d,u d⟩
   refine v.wpOp p hw ⟨hw,?_⟩;rw [BL];exact x _ _ hw k
  cases s with
  | false =>
   simp only [Bool.and_eq_true,p,Bool.not_eq_true'] at h1;obtain ⟨⟨ae,m⟩,ac⟩:=h1;have take:∀ g,(Region.wanted e (yielded ops (A3 n f).tmps)=true->∀ w',AD w0 w'->(execOp (A3 n f).eval e).run P w' = .ok (.value g) w')->(Region.wanted e (yielded ops (A3 n f).tmps)=false->g=undef) ->
     Sm P T n w0 ops.toList (UO ops.toList l) (put f e.dst g) w K->wpAnyH P .any ops Q (fun w'=>AD w0 w') (l.length+1) listed (A3 n f) w:=by
    intro g o u k;have v:YieldsIf P ops (fun w'=>AD w0 w') e g (A3 n f):=by
     cases d:Region.wanted e (yielded ops (A3 n f).tmps) with
     | true=>exact .inl ⟨d,o d⟩
     | false=>exact .inr ⟨d,u d⟩
    refine wpAnyH_take p hs m ae (fun c a w ad=>(hQp _ _ _ ad).elim) v hw ?_;rw [BL];exact x _ _ hw k
   split at j
   .rename_i d;simp only [Bool.not_false,Bool.true_or] at j;obtain ⟨g,o,k⟩:=Ic hT q ac j;exact take g (fun _=>o) (fun m=>by rw [d] at m;cases m) k
   .rename_i d;rw [AY] at j;exact take undef (fun t=>absurd t d) (fun _=>rfl) j
  | true =>
   simp only [beq_iff_eq] at h1;refine wpAnyH_all h1 sI fun ah aa=>?_;simp only [List.mem_singleton] at aa;subst aa;split at j
   .rename_i d;simp only [Bool.not_true,Bool.false_or] at j;cases r:Qt e.op with
    | true =>
     rw [r] at j;obtain ⟨g,o,k⟩:=Ic hT q (Qs r) j;exact y g (fun _=>o) (fun m=>by rw [d] at m;cases m) k
    | false =>
     rw [r] at j;unfold wpOp;simp only [p,d,if_true];exact .inl (CN hT q j fun f w k=>⟨k.1,x _ _ k.1 k.2⟩)
   .rename_i d;rw [AY] at j;exact y undef (fun t=>absurd t d) (fun _=>rfl) j
theorem Eo.held (hT:T.fok P=true) (hm:P.follows .mixedOrders=true) (plan:List (Nat×Bool)) (hok:DL n ops=true) (hB:Z1 ops plan=true)
  (h:∀ w1,AD w w1->Sm P T n w ops.toList (UO ops.toList plan) f w1 K):Eo P n ops f w K:=by
 unfold Eo;intro k;simp only [Z1,Bool.and_eq_true] at hB;obtain ⟨⟨e,c⟩,hB⟩:=hB;refine wp_region_held (S:=fun g=>AD w g) hm ?_;have a:AD w { w with drawn:=w.drawn+1 }:=⟨rfl,rfl,rfl,Nat.le_refl _,fun _ _=>rfl⟩;have:=RB hT hok e (Q:=Mo n K (fun _ _ _=>False) (fun _ _=>False)) (fun j i w d=>d.elim) (fun f w b=>⟨f,rfl,b⟩) plan _ f _ hB a (h _ a);rw [Nat.eq_of_beq_eq_true c] at this;exact this
end
section
open Go Go.RowKit
def bs (l:List UInt8):ByteArray:=⟨l.toArray⟩
theorem Py (l:List UInt8):(bs l).data.toList=l:=rfl
theorem BY (l:List UInt8):(bs l).size=l.length:=rfl
theorem OO (a b:List UInt8):bs a++bs b=bs (a++b):=by
 apply ByteArray.ext;show (bs a++bs b).data=_;rw [ByteArray.data_append];simp [bs]
theorem aF2 (s:ByteArray):bs s.data.toList=s:=by
 apply ByteArray.ext;simp [bs]
theorem aJ3 {a b:List UInt8}:bs a=bs b↔a=b:=⟨fun c=>by have:=congrArg (fun d=>d.data.toList) c;simpa [bs] using this,fun c=>by rw [c]⟩
def K7:Nat->List (Nat×Value)->Option (List Value)
 | _,[]=>some []
 | k,(i,v) :: r=>bif Nat.beq i k then (K7 (k+1) r).map (v :: ·) else none
def cellsOf (vs:List Value):List Value:=vs.flatMap fun v=>v.cells.toList
theorem Jl:∀ (l:List Value) (cs:Array Value) (off j:Nat),((l.zipIdx j).foldl (fun cs (c,j)=>cs.setIfInBounds (off+j) c) cs).toList=KT cs.toList (off+j) l
 | [],cs,off,j=>rfl
 | v :: l,cs,off,j=>by
  simp only [List.zipIdx_cons,List.foldl_cons,KT];rw [Jl l];simp [Nat.add_assoc]
theorem WZ {sz:Nat}:∀ (parts:List (Nat×Value)) (k:Nat) (vs:List Value) (done:List Value) (rest:List Value),K7 k parts=some vs->(∀ v∈vs,v.cells.size=sz)->done.length=k * sz->rest.length=vs.length * sz ->
  Instr.fill (fun i=>some (i * sz,sz)) (done++rest).toArray parts=some (done++cellsOf vs).toArray
 | [],k,vs,done,rest,h,_,hd,hr=>by
  simp only [K7,Option.some.injEq] at h;subst h;have:rest=[]:=List.eq_nil_of_length_eq_zero (by simpa using hr);subst this;rfl
 | (i,v) :: parts,k,vs,done,rest,h,hc,hd,hr=>by
  simp only [K7] at h;cases a:Nat.beq i k with
  | false=>rw [a] at h;cases h
  | true =>
   rw [a] at h;have l:i=k:=Nat.eq_of_beq_eq_true a;subst l;simp only [cond_true,Option.map_eq_some_iff] at h;obtain ⟨r,e,rfl⟩:=h;have b:v.cells.size=sz:=hc v sI;simp only [List.length_cons,Nat.add_mul,Nat.one_mul] at hr;unfold Instr.fill;have j:¬ (v.cells.size≠sz\/i * sz+v.cells.size > (done++rest).toArray.size):=by
    simp only [List.size_toArray,List.length_append];omega
   simp only [Bool.or_eq_true,decide_eq_true_eq,j,if_false];have m:(v.cells.zipIdx.foldl (fun d (c,p)=>d.setIfInBounds (i * sz+p) c) (done++rest).toArray)=(done++v.cells.toList++rest.drop sz).toArray:=by
    apply Array.toList_inj.1;have f:=Jl v.cells.toList (done++rest).toArray (i * sz) 0;rw [<- Array.foldl_toList];have g:v.cells.zipIdx.toList=v.cells.toList.zipIdx 0:=sI
    rw [g,f];rw [I3 _ _ _ sW];simp only [Nat.add_zero,List.append_assoc];rw [<- hd,List.take_left,List.drop_append];have s:v.cells.toList.length=sz:=by simp [b]
    rw [List.drop_eq_nil_of_le om];have:done.length+v.cells.toList.length - done.length=sz:=om
    rw [this];simp
   have o:=WZ parts (i+1) r (done++v.cells.toList) (rest.drop sz) e (fun q n=>hc q (by simp [n])) (by simp [hd,b,Nat.add_mul]) sW;rw [m,o];simp [cellsOf]
section
variable {P:Program}
theorem AB.buildSlice {t e by_:Nat} {zs:List Value} (ht:C8 P t=some (e,zs,by_)) {len:Nat} {parts:List (Nat×Value)} (vs:List Value) (hv:K7 0 parts=some vs) (hlen:vs.length=len) (hc:∀ v∈vs,v.cells.size=zs.length)
  (hsmall:len * zs.length<=16777216) {w:World} {K:Value->World->Prop} (hK:∀ b w',w.heap.size<=b->b<w'.heap.size->AD w w'->B8 w' b (cellsOf vs) e->K (.slice (some ⟨b,0,none⟩) len len) w') :
  AB P (Instr.buildSlice t len parts.toArray) w K:=by
 obtain ⟨a,d,i,g,n,rfl,rfl,m,u⟩:=GG ht;have o:d.cells.toList.length=a.size:=by simp [m]
 rw [o] at hc hsmall;refine A6 (v := .slice (some ⟨w.heap.size,0,none⟩) len len) (w':=w.alloc (.cells (cellsOf vs).toArray e)) ?_ (hK _ _ (Nat.le_refl _) ?_ (JJ _ _) (JK w _ _))
 .have l:¬ (len * a.size > 2 ^ 24):=om
  have h:∀ zs:Array Value,zs.size=len * a.size->Instr.fill (fun q=>some (q * a.size,a.size)) zs parts=some (cellsOf vs).toArray:=fun zs p=>by
   have:=WZ (sz:=a.size) parts 0 vs [] zs.toList hv hc sI (by simp [p,hlen]);simpa using this
  by_cases f:len * a.size=0
  .have j:len=0:=by
    rcases Nat.mul_eq_zero.1 f with c | c
    .exact c
    .omega
   subst j;simp only [Instr.buildSlice,Sem.run_bind,run_underlying i,Result.andThen_ok,sizeOf,typeInfo,Sem.run_pure,program,Sem.run,g];simp;rw [h _ sI];rfl
  .have k:(zeroValue e).run P w = .ok d w:=by simp [zeroValue,typeInfo,g,n]
   have r:len≠0:=fun c=>f (by simp [c]);have s:a.size≠0:=om
   simp only [Instr.buildSlice,Sem.run_bind,run_underlying i,Result.andThen_ok,sizeOf,typeInfo,Sem.run_pure,program,Sem.run,g];simp only [if_neg l,Sem.run_pure,Result.andThen_ok,if_neg f,Sem.run_bind,k];simp only [h _ (show ((Array.range (len * a.size)).map (d.cells[· % d.cells.size]!)).size=len * a.size by simp)];rfl
 .show w.heap.size<(w.heap.push _).size;simp
def Hm (l:List UInt8):List Value:=l.map fun c=>.int .u8 c.toNat
def Mz (P:Program) (t:Nat):Bool :=
 match P.underlying t with
 | some (.slice e)=>match P.underlying e with
  | some (.int .u8)=>true
  | _=>false
 | _=>false
theorem My {t:Nat} (h:Mz P t=true):∃ e,P.underlying t=some (.slice e)/\P.underlying e=some (.int .u8):=by
 unfold Mz at h;split at h<;>try cases h
 rename_i e b;split at h<;>try cases h
 rename_i a;exact ⟨_,b,a⟩
theorem RM:∀ (l:List UInt8) (s:ByteArray),(l.map fun c=>(c.toNat:Int)).foldl (fun r n=>r.push (UInt8.ofNat n.toNat)) s=⟨s.data++l.toArray⟩
 | [],s=>sI
 | c :: l,s=>by
  simp only [List.map_cons,List.foldl_cons,RM l];apply ByteArray.ext;simp [ByteArray.push]
theorem Rn {s t:Nat} (hs:Mz P s=true) (ht:HF P t=true) {w:World} {b o n c:Nat} {l:List UInt8} (h:AK w b o (Hm l)) (hn:l.length=n) {K:Value->World->Prop} (hK:K (.string (bs l)) w) :
  AB P (convert s t (.slice (some ⟨b,o,none⟩) n c)) w K:=by
 obtain ⟨a,i,g⟩:=My hs;have f:P.underlying t=some .string:=by
  unfold HF at ht;split at ht<;>simp_all
 refine A6 ?_ hK;rw [run_convert_bytes_string w s t a _ _ _ i g f];have d:=GY (P:=P) (w:=w) (b:=b) (o:=o) n 0 #[] (Hm l) (by simp [Hm,hn]) (by simpa using h);have e:(loadCells ⟨b,o,none⟩ n).run P w = .ok ((l.map fun c=>(c.toNat:Int)).map (Value.int .u8)).toArray w:=by
  unfold loadCells;rw [d];simp [Hm,Function.comp_def]
 rw [run_bytesToString w ⟨b,o,none⟩ n c _ e,RM];congr 2;apply ByteArray.ext;simp [bs]
theorem Wq {s t:Nat} (hs:Mz P s=true) (ht:HF P t=true) {w:World} {n c:Nat} {K:Value->World->Prop} (hK:K (.string (bs [])) w) :
  AB P (convert s t (.slice none n c)) w K:=by
 obtain ⟨a,e,d⟩:=My hs;have b:P.underlying t=some .string:=by
  unfold HF at ht;split at ht<;>simp_all
 refine A6 ?_ hK;rw [run_convert_bytes_string w s t a _ _ _ e d b];simp [Conv.bytesToString];rfl
end
theorem jL {P:Program} {ty:Nat} {w:World} {b o k:Nat} {vs:List Value} (h:AK w b o vs) {v:Value} (hk:vs[k]? = some v) {K:Value->World->Prop} (hK:K v w) (hty:DK P ty=true:=by kernel_rfl):AB P (Instr.loadAt ty (.pointer (some ⟨b,o+k,none⟩))) w K:=Gz hty h hk hK
theorem jO {P:Program} {ty:Nat} {w:World} {b o:Nat} {vs:List Value} (h:AK w b o vs) {v:Value} (hk:vs[0]? = some v) {K:Value->World->Prop} (hK:K v w) (hty:DK P ty=true:=by kernel_rfl):AB P (Instr.loadAt ty (.pointer (some ⟨b,o,none⟩))) w K:=Xl hty h hk hK
theorem jA {P:Program} {ty n:Nat} {w:World} {b o:Nat} {vs:List Value} (h:AK w b o vs) (hn:vs.length=n) {K:Value->World->Prop} (hK:K (.agg vs.toArray) w) (hty:D1 P ty=some n:=by kernel_rfl):AB P (Instr.loadAt ty (.pointer (some ⟨b,o,none⟩))) w K:=Hg hty h hn hK
theorem jI {P:Program} {α:Type} {enc:α->List Value} {sz t:Nat} {w:World} {a:Option Addr} {n c:Nat} {xs:List α} (h:A4 enc sz w a n xs) {i:Int} (k:Nat) (hi:i=k) {x:α} (hx:xs[k]? = some x) {kd:IntKind} {K:Value->World->Prop} (hK:∀ b o,a=some ⟨b,o,none⟩->AK w b (o+k * sz) (enc x)->K (.pointer (some ⟨b,o+k * sz,none⟩)) w) (ht:CQ P t=some sz:=by kernel_rfl):AB P (Instr.indexAt t (.slice a n c) (.int kd i)) w K:=AB.index ht h k hi hx hK
theorem jW {P:Program} {sz t:Nat} {w:World} {b o n c:Nat} {i:Int} (k:Nat) (hi:i=k) (hlt:k<n) {kd:IntKind} {K:Value->World->Prop} (hK:K (.pointer (some ⟨b,o+k * sz,none⟩)) w) (ht:CQ P t=some sz:=by kernel_rfl):AB P (Instr.indexAt t (.slice (some ⟨b,o,none⟩) n c) (.int kd i)) w K:=G9 ht k hi hlt hK
theorem jN {P:Program} {t:Nat} {z:Value} {w:World} {K:Value->World->Prop} (hK:∀ b w',w.heap.size<=b->b<w'.heap.size->AD w w'->B8 w' b z.cells.toList t->K (.pointer (some ⟨b,0,none⟩)) w') (hz:(P.info? t).bind (·.zero)=some z:=by kernel_rfl):AB P (Instr.alloc t true (.tuple #[])) w K:=AB.alloc hz hK
theorem jR {P:Program} {t n:Nat} {w:World} {b o:Nat} {vs:List Value} (hl:vs.length=n) (h:AK w b o vs) (ht:D1 P t=some n:=by kernel_rfl):(Instr.loadAt t (.pointer (some ⟨b,o,none⟩))).run P w = .ok (.agg vs.toArray) w:=Oi ht hl h
theorem dL {P:Program} {ty:Nat} {w:World} {b o k:Nat} {vs:List Value} (h:AK w b o vs) {v:Value} (hk:vs[k]? = some v) {K:Value->Prop} (hK:K v) (hty:DK P ty=true:=by kernel_rfl):BQ P (Instr.loadAt ty (.pointer (some ⟨b,o+k,none⟩))) w K:=Wu hty h hk hK
theorem dO {P:Program} {ty:Nat} {w:World} {b o:Nat} {vs:List Value} (h:AK w b o vs) {v:Value} (hk:vs[0]? = some v) {K:Value->Prop} (hK:K v) (hty:DK P ty=true:=by kernel_rfl):BQ P (Instr.loadAt ty (.pointer (some ⟨b,o,none⟩))) w K:=Wv hty h hk hK
theorem dA {P:Program} {ty n:Nat} {w:World} {b o:Nat} {vs:List Value} (h:AK w b o vs) (hn:vs.length=n) {K:Value->Prop} (hK:K (.agg vs.toArray)) (hty:D1 P ty=some n:=by kernel_rfl):BQ P (Instr.loadAt ty (.pointer (some ⟨b,o,none⟩))) w K:=Lu hty h hn hK
theorem dI {P:Program} {α:Type} {enc:α->List Value} {sz t:Nat} {w:World} {a:Option Addr} {n c:Nat} {xs:List α} (h:A4 enc sz w a n xs) {i:Int} (k:Nat) (hi:i=k) {x:α} (hx:xs[k]? = some x) {kd:IntKind} {K:Value->Prop} (hK:∀ b o,a=some ⟨b,o,none⟩->AK w b (o+k * sz) (enc x)->K (.pointer (some ⟨b,o+k * sz,none⟩))) (ht:CQ P t=some sz:=by kernel_rfl):BQ P (Instr.indexAt t (.slice a n c) (.int kd i)) w K:=BQ.index ht h k hi hx hK
theorem jT {P:Program} {ty:Nat} {w:World} {b t k:Nat} {cs:List Value} (h:B8 w b cs t) (hk:k<cs.length) {v:Value} (hv:AM v=true) {K:Unit->World->Prop} (hK:∀ w',Oa b w w'->B8 w' b (cs.set k v) t->K () w') (hty:DK P ty=true:=by kernel_rfl):AB P (Instr.storeAt ty (.pointer (some ⟨b,k,none⟩)) v) w K:=Kz hty h hk hv hK
theorem jC {P:Program} {t:Nat} {s:ByteArray} {i:Int} {c:UInt8} (k:Nat) (hi:i=k) (hk:s.data.toList[k]? = some c) {kd:IntKind} {w:World} {K:Value->World->Prop} (hK:K (.int .u8 c.toNat) w) (ht:HF P t=true:=by kernel_rfl):AB P (Instr.index t (.string s) (.int kd i)) w K:=Tz ht k hi hk hK
theorem xt {a b c : World} (h : AD a b) (k : AD b c) : AD a c:=AD.trans h k
theorem xm {S : Nat -> Prop} {a w w' : World} (e : AD a w) (h : BP S w w') (hb : ∀ k, S k -> a.heap.size <= k) : AD a w':=Lt e h hb
theorem xb {b : Nat} {a w w' : World} (e : AD a w) (h : But b w w') (hb : a.heap.size <= b) : AD a w':=AD.but_trans e h hb
theorem bS {P:Program} {t e by_:Nat} {zs:List Value} (ht:C8 P t=some (e,zs,by_)) {len:Nat} {parts:List (Nat×Value)} (vs:List Value) {w:World} {K:Value->World->Prop} (hK:∀ b w',w.heap.size<=b->b<w'.heap.size->AD w w'->B8 w' b (cellsOf vs) e->K (.slice (some ⟨b,0,none⟩) len len) w') (hv:K7 0 parts=some vs:=by rfl) (hlen:vs.length=len:=by rfl) (hc:∀ v∈vs,v.cells.size=zs.length:=by simp [Value.cells]) (hsmall:len * zs.length<=16777216:=by decide):AB P (Instr.buildSlice t len parts.toArray) w K:=AB.buildSlice ht vs hv hlen hc hsmall hK
def pB (l:List Nat):List (Nat×Bool):=l.map fun k=>(k/2,k%2==1)
theorem iY {p:Prop} [Decidable p] {X Y:Prop} (h1:X) (h:p:=by omega):K3 (decide p) X Y:=K3.yes h h1
theorem iN {p:Prop} [Decidable p] {X Y:Prop} (h1:Y) (h:¬ p:=by omega):K3 (decide p) X Y:=K3.no h h1
theorem iF {b:Bool} {X Y:Prop} (h1:Y) (h:b=false:=by (simp [*];done)):K3 b X Y:=DY h h1
theorem iT {b:Bool} {X Y:Prop} (h1:X) (h:b=true:=by (simp [*];done)):K3 b X Y:=Fh h h1
theorem nB {w w':World} {b:Nat} (h:AD w w') (g:w'.heap.size<=b):w.heap.size<=b:=Nat.le_trans (Below.size h) g
theorem jP {P:Program} {t:Nat} {X Y:Operand} {a b:Int} (r:Int) {w:World} {K:Value->World->Prop} (hK:K (.int .i64 r) w) (hr:a+b=r:=by omega) (h1:-9223372036854775808<=r:=by omega) (h2:r<=9223372036854775807:=by omega):AB P (Bl .add t X Y (.int .i64 a) (.int .i64 b)) w K:=AB.add r hr h1 h2 hK
theorem dM {P:Program} {g:Nat} {a:List Value} {w:World} {V:Value} {R:World->Prop} {Q:Value->World->Prop} (h:E2 P g a w fun v w'=>v = V/\R w') (k:∀ w',R w'->Q V w'):E2 P g a w Q:=h.mono fun _ w' ⟨b,c⟩=>b▸k w' c
end
end Go.Vc
