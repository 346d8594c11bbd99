/- Parts of the proof; no conditions of its own. -/
import Derived.Test.YtalgenmoljcnmaaGreatDoorVcCore
import Derived.Test.YtalgenmoljcnmaaGreatDoorModel
import Derived.Test.YtalgenmoljcnmaaGreatDoorFTotal
import Derived.Test.YtalgenmoljcnmaaGreatDoorCardW
import Derived.Test.YtalgenmoljcnmaaGreatDoorStab
namespace Go.Vc
section
open Go Go.RowKit
def aG7 (ops:Array Oper) (i:Nat) (r:List Nat) (t:Nat):Bool:=match ops[t]? with | some o=>o.after.any fun e=>Region.binds .any e && (e.on == i || r.contains e.on) | none=>false
def P4 (ops:Array Oper) (i:Nat):Nat->List Nat
 | 0=>[]
 | t+1=>if aG7 ops i (P4 ops i t) t then t :: P4 ops i t else P4 ops i t
theorem VL {ops:Array Oper} {i t j:Nat} (h:j∈P4 ops i (t+1)):j∈P4 ops i t\/(j=t/\∃ o,ops[t]? = some o/\∃ e∈o.after,Region.binds .any e=true/\(e.on=i\/e.on∈P4 ops i t)):=by
 unfold P4 at h;split at h
 .rename_i a;rcases List.mem_cons.1 h with rfl | h
  .right;refine ⟨rfl,?_⟩;unfold aG7 at a;split at a
   .rename_i o d;rw [Array.any_eq_true'] at a;obtain ⟨e,c,b⟩:=a;simp only [Bool.and_eq_true,Bool.or_eq_true,beq_iff_eq,List.contains_iff_mem] at b;exact ⟨o,d,e,c,b.1,b.2⟩
   .cases a
  .exact .inl h
 .exact .inl h
theorem Lx {ops:Array Oper} {listed:Array Bool} (hc:Fk ops listed) {i:Nat}:∀ (t j:Nat),j∈P4 ops i t->listed.getD j true=true->listed.getD i false=true
 | 0,j,h,_=>by cases h
 | t+1,j,h,hj=>by
  rcases VL h with h | ⟨rfl,o,ho,e,he,hb,h⟩
  .exact Lx hc t j h hj
  .have h1:=hc _ o ho hj e he hb;rcases h with rfl | h
   .exact h1
   .exact Lx hc _ e.on h (X8 h1)
theorem Sz {ops:Array Oper} {listed:Array Bool} (hc:Fk ops listed) {i:Nat}:∀ (t j:Nat),j∈P4 ops i t->j∈Region.ready .any ops listed->listed.getD i false=true
 | 0,j,h,_=>by cases h
 | t+1,j,h,hj=>by
  rcases VL h with h | ⟨rfl,o,ho,e,he,hb,h⟩
  .exact Sz hc t j h hj
  .obtain ⟨_,o',ho',hall⟩:=mem_ready.1 hj;rw [ho] at ho';cases ho'
   have a:=hall e he hb;rcases h with rfl | h
   .exact a
   .exact Lx hc _ e.on h (X8 a)
section
variable {P:Program} {ops:Array Oper} {Q:Exit->Act->World->Prop} {md:Region.Mode} {S:World->Prop} {W:Nat->Bool}
def B9 (P:Program) (md:Region.Mode) (ops:Array Oper) (W:Nat->Bool) (Q:Exit->Act->World->Prop) (S:World->Prop):Nat->Array Bool->Act->World->Prop
 | 0,listed,a,w=>Region.ready md ops listed=[]/\Q .normal a w
 | k+1,listed,a,w =>
  (Region.ready md ops listed=[]->Q .normal a w) /\
  ∀ i∈Region.ready md ops listed,wpOp P ops Q i (fun a' w'=>(S w->W i=false->S w')/\B9 P md ops W Q S k (listed.setIfInBounds i true) a' w') a w
theorem Fy:∀ (k:Nat) (listed:Array Bool) (a:Act) (w:World),B9 P md ops W Q S k listed a w->wpAny P md ops Q k listed a w
 | 0,_,_,_,h=>h
 | k+1,_,_,_,h=>⟨h.1,fun i hi=>wpOp_mono (fun a' w' h'=>Fy k _ a' w' h'.2) (h.2 i hi)⟩
theorem FV {T:World->Prop} {i:Nat} {oi:Oper} {v:Value} (hi:ops[i]? = some oi) (hsel:∀ (j:Nat) (o:Oper) cs b,ops[j]? = some o->o.op≠.select cs b)
  (hT:∀ (j:Nat) (oj:Oper),ops[j]? = some oj->j≠i->j∉P4 ops i ops.size->∀ w w',(S w->W j=false->S w')->T w->T w')
  (hQ:∀ c a w,Q (.panic c) (a.put oi.dst v) w->Q (.panic c) a w) :
  ∀ (k:Nat) (listed:Array Bool) (a:Act) (w:World),Fk ops listed ->
   (∀ j oj,ops[j]? = some oj->j≠i->listed.getD j true=false->(∀ e∈oj.after,Region.binds .any e=true->e.on≠i)->oi.apart ops oj=true) ->
   i∈Region.ready .any ops listed->YieldsIf P ops T oi v a->T w ->
   B9 P .any ops W Q S k (listed.setIfInBounds i true) (a.put oi.dst v) w->B9 P .any ops W Q S (k+1) listed a w:=by
 intro k;induction k with
 | zero =>
  intro listed a w _ _ d s q m;refine ⟨fun f=>(by rw [f] at d;cases d),fun j l=>?_⟩;rcases Decidable.em (j=i) with rfl | h
  .exact s.wpOp hi q ⟨fun f _=>f,m⟩
  .have:=ready_mono l h;rw [m.1] at this;cases this
 | succ k ao =>
  intro listed a w x y d s q m;refine ⟨fun f=>(by rw [f] at d;cases d),fun j l=>?_⟩;rcases Decidable.em (j=i) with rfl | h
  .exact s.wpOp hi q ⟨fun f _=>f,m⟩
  .obtain ⟨z,oj,r,ad⟩:=mem_ready.1 l;have n:∀ {b:Bool},listed.getD i false=true->listed.getD i true=false->b=true:=fun g u=>by
    rcases Nat.lt_or_ge i listed.size with t | t
    .simp [t] at u g;rw [u] at g;cases g
    .simp [Array.getElem?_eq_none t] at g
   have al:∀ e∈oj.after,Region.binds .any e=true->e.on≠i:=fun e af ae ag=>by
    have g:=ad e af ae;rw [ag] at g;exact absurd (n (b:=false) g (mem_ready.1 d).1) sI
   have am:j∉P4 ops i ops.size:=fun an=>absurd (n (b:=false) (Sz x _ j an l) (mem_ready.1 d).1) sI;have ab:=wpOp_putIf r (y j oj r h z al) (fun cs b=>hsel i oi cs b hi) (fun cs b=>hsel j oj cs b r) hQ s (m.2 j (ready_mono l h));refine wpOp_mono (fun aa w' p=>?_) ab;have ac:T w':=hT j oj r h am w w' p.2.1 q;refine ⟨p.2.1,ao _ aa w' (E0 x l) (fun k ok ai aj n ak=>?_) (ready_mono d (Ne.symm h)) p.1 ac ?_⟩
   .refine y k ok ai aj ?_ ak;rcases Decidable.em (j=k) with rfl | ah
    .exact z
    .rw [getD_set_ne true ah] at n;exact n
   .rw [Array.setIfInBounds_comm _ _ h];exact p.2.2
theorem F9 {listed:Array Bool} {a:Act} {w:World} (hr:Region.ready md ops listed=[]) (h:Q .normal a w) :
  ∀ k,B9 P md ops W Q S k listed a w
 | 0=>⟨hr,h⟩
 | _+1=>⟨fun _=>h,by rw [hr];simp⟩
end
@[irreducible] def DT (P:Program) (s:Sem Value) (K:Value->Prop):Prop:=∃ v,(∀ w',s.run P w' = .ok v w')/\K v
theorem K1 {P:Program} {s:Sem Value} {K:Value->Prop} {v:Value} (h:∀ w',AB P s w' (fun u w''=>u=v/\w'=w'')) (hk:K v):DT P s K:=by
 unfold DT;refine ⟨v,fun w'=>?_,hk⟩;obtain ⟨u,w'',a,rfl,rfl⟩:=(h w').out;exact a
theorem DT.add {P:Program} {t:Nat} {X Y:Operand} {a b:Int} (r:Int) (hr:a+b=r) (h1 : -9223372036854775808<=r) (h2:r<=9223372036854775807) {K:Value->Prop} (hK:K (.int .i64 r)) :
  DT P (Bl .add t X Y (.int .i64 a) (.int .i64 b)) K:=K1 (fun _=>AB.add r hr h1 h2 ⟨rfl,rfl⟩) hK
theorem DT.sub {P:Program} {t:Nat} {X Y:Operand} {a b:Int} (r:Int) (hr:a - b=r) (h1 : -9223372036854775808<=r) (h2:r<=9223372036854775807) {K:Value->Prop} (hK:K (.int .i64 r)) :
  DT P (Bl .sub t X Y (.int .i64 a) (.int .i64 b)) K:=K1 (fun _=>AB.sub r hr h1 h2 ⟨rfl,rfl⟩) hK
theorem K2 {P:Program} {sz t:Nat} (ht:CQ P t=Option.some sz) {b o n c:Nat} {i:Int} (k:Nat) (hi:i=k) (hlt:k<n) {kd:IntKind}
  {K:Value->Prop} (hK:K (.pointer (Option.some ⟨b,o+k * sz,none⟩))):DT P (Instr.indexAt t (.slice (Option.some ⟨b,o,none⟩) n c) (.int kd i)) K :=
 K1 (fun _=>G9 ht k hi hlt ⟨rfl,rfl⟩) hK
theorem GO {P:Program} {t:Nat} {X Y:Operand} {a b:ByteArray} (hl:a.size+b.size<=9223372036854775807) {K:Value->Prop} (hK:K (.string (a++b))) :
  DT P (Bl .add t X Y (.string a) (.string b)) K:=K1 (fun _=>Ax hl ⟨rfl,rfl⟩) hK
theorem DT.index {P:Program} {α:Type} {enc:α->List Value} {sz t:Nat} (ht:CQ P t=some sz) {w:World} {a:Option Addr} {n c:Nat} {xs:List α} (h:A4 enc sz w a n xs) {i:Int} (k:Nat) (hi:i=k) {x:α} (hx:xs[k]? = some x) {kd:IntKind}
  {K:Value->Prop} (hK:∀ b o,a=some ⟨b,o,none⟩->AK w b (o+k * sz) (enc x)->K (.pointer (some ⟨b,o+k * sz,none⟩))):DT P (Instr.indexAt t (.slice a n c) (.int kd i)) K:=by
 obtain ⟨b,o,d,e⟩:=h.2.2 k x hx;subst d;have f:k<n:=by rw [<- h.1];exact (List.getElem?_eq_some_iff.1 hx).1
 exact K2 ht k hi f (hK b o rfl e)
def Mi (P:Program) (T:HS) (o:Oper) (f:Fr) (K:Fr->Prop):Prop :=
 match o.op with
 | .indexAddr t x i=>DT P (Instr.indexAt t (ev f x) (ev f i)) (fun v=>Cq o.dst f v K)
 | op=>match Nk T f op with
  | some v=>Lr v fun v=>Cq o.dst f v K
  | none=>match op with
   | .binOp op t x y _=>DT P (Bl op t x y (ev f x) (ev f y)) (fun v=>Cq o.dst f v K)
   | _=>False
theorem DC {P:Program} {T:HS} (hT:T.fok P=true) {n:Nat} {all:Array Oper} {o:Oper} {f:Fr} {K:Fr->Prop} (hok:DH n all o=true)
  (h:Mi P T o f K):∃ v,(∀ w',(execOp (A3 n f).eval o).run P w' = .ok (.value v) w')/\K (put f o.dst v):=by
 simp only [DH,Bool.and_eq_true] at hok;have hok:=hok.1;have e:=hok;rw [List.all_eq_true] at e;unfold Mi at h;split at h
 .rename_i l c d b;have i:(A3 n f).eval c=ev f c:=Ae (e c (by simp [b,Op.operands]));have j:(A3 n f).eval d=ev f d:=Ae (e d (by simp [b,Op.operands]));unfold DT at h;obtain ⟨v,a,g⟩:=h;rw [AY] at g;refine ⟨v,fun w'=>?_,g⟩;have a:=a w';unfold execOp;simp only [b,i,j];simp [a]
 .split at h
  .rename_i v k;rw [GI,AY] at h;exact ⟨v,fun w'=>JZ hT hok k w',h⟩
  .split at h
   .rename_i m l c d p b;have i:(A3 n f).eval c=ev f c:=Ae (e c (by simp [b,Op.operands]));have j:(A3 n f).eval d=ev f d:=Ae (e d (by simp [b,Op.operands]));unfold DT at h;obtain ⟨v,a,g⟩:=h;rw [AY] at g;refine ⟨v,fun w'=>?_,g⟩;have a:=a w';unfold execOp;simp only [b,i,j];unfold Bl at a;simp only [Sem.run_bind] at a ⊢;rw [a];simp
   .exact h.elim
inductive LO
 | any | held | run | write | alone
def aM2:Op->Bool
 | .store ..=>true
 | .call { callee := .builtin .append,.. }=>true
 | _=>false
def DU (ops:Array Oper) (j:Nat):Bool:=match ops[j]? with | some o=>aM2 o.op | none=>false
def T1 (ops:Array Oper) (i:Nat):Bool:=(List.range ops.size).all fun j=>!DU ops j || (P4 ops i ops.size).contains j
def FI (ops:Array Oper):List (Nat×LO)->Bool->Array Bool->Bool
 | [],_,listed=>(Region.ready .any ops listed).isEmpty
 | (i,.any) :: l,d,listed=>(Region.ready .any ops listed).contains i && Region.free .any ops listed i && FI ops l d (listed.setIfInBounds i true)
 | (i,.held) :: l,d,listed=>(Region.ready .any ops listed).contains i && Region.free .any ops listed i && !d && T1 ops i && (match ops[i]? with | some o=>!HZ o.op | none=>false) && FI ops l d (listed.setIfInBounds i true)
 | (i,.run) :: l,d,listed=>Region.ready .any ops listed == [i] && !d && FI ops l d (listed.setIfInBounds i true)
 | (i,.write) :: l,_,listed=>Region.ready .any ops listed == [i] && DU ops i && FI ops l true (listed.setIfInBounds i true)
 | (i,.alone) :: l,d,listed=>Region.ready .any ops listed == [i] && FI ops l d (listed.setIfInBounds i true)
def X5 (ops:Array Oper) (plan:List (Nat×LO)):Bool:=Region.noSelect ops && Nat.beq plan.length ops.size && FI ops plan false (Array.replicate ops.size false)
noncomputable def H8 (P:Program) (T:HS) (n:Nat) (w0:World) (all:List Oper) (os:List (Oper×LO)):Fr->World->(Fr->World->Prop)->Prop :=
 List.rec (motive:=fun _=>Fr->World->(Fr->World->Prop)->Prop) (fun f w K=>K f w)
  (fun o _ ih f w K=>EU all o.1 f
   (fun f=>match o.2 with
    | .any=>Mi P T o.1 f fun f=>ih f w K
    | .held=>So P T w0 o.1 f fun f=>ih f w K
    | .run=>Fl P T n o.1 f w fun f w'=>AD w0 w'/\ih f w' K
    | .write=>Fl P T n o.1 f w fun f w'=>ih f w' K
    | .alone=>Mi P T o.1 f fun f=>ih f w K)
   (fun f=>Cq o.1.dst f undef fun f=>ih f w K)) os
theorem RC (P:Program) (T:HS) (n:Nat) (w0:World) (all:List Oper) (o:Oper×LO) (os:List (Oper×LO)) (f:Fr) (w:World) (K:Fr->World->Prop) :
  H8 P T n w0 all (o :: os) f w K=EU all o.1 f
   (fun f=>match o.2 with
    | .any=>Mi P T o.1 f fun f=>H8 P T n w0 all os f w K
    | .held=>So P T w0 o.1 f fun f=>H8 P T n w0 all os f w K
    | .run=>Fl P T n o.1 f w fun f w'=>AD w0 w'/\H8 P T n w0 all os f w' K
    | .write=>Fl P T n o.1 f w fun f w'=>H8 P T n w0 all os f w' K
    | .alone=>Mi P T o.1 f fun f=>H8 P T n w0 all os f w K)
   (fun f=>Cq o.1.dst f undef fun f=>H8 P T n w0 all os f w K):=rfl
def Dh (ops:List Oper) (l:List (Nat×LO)):List (Oper×LO):=l.filterMap fun i=>(ops[i.1]?).map fun o=>(o,i.2)
theorem Oz {P:Program} {T:HS} (hT:T.fok P=true) {n:Nat} {ops:Array Oper} (hok:DL n ops=true) (hs:Region.noSelect ops=true) {w0:World} {Q:Exit->Act->World->Prop} (hQp:∀ c a w,¬ Q (.panic c) a w) {K:Fr->World->Prop} (hQ:∀ f w,K f w->Q .normal (A3 n f) w) :
  ∀ (plan:List (Nat×LO)) (d:Bool) (listed:Array Bool) (f:Fr) (w:World),Fk ops listed->FI ops plan d listed=true->(d=false->AD w0 w)->H8 P T n w0 ops.toList (Dh ops.toList plan) f w K ->
   B9 P .any ops (DU ops) Q (fun w'=>AD w0 w') plan.length listed (A3 n f) w
 | [],d,listed,f,w,_,hB,_,h=>by
  simp only [FI,List.isEmpty_iff] at hB;exact F9 hB (hQ f w h) _
 | (i,s) :: l,d,listed,f,w,hcl,hB,hw,h=>by
  have hrd:i∈Region.ready .any ops listed:=by
   cases s<;>simp only [FI,Bool.and_eq_true] at hB
   .simpa using hB.1.1
   .simpa using hB.1.1.1.1.1
   .have:=hB.1.1;simp only [beq_iff_eq] at this;rw [this];simp
   .have:=hB.1.1;simp only [beq_iff_eq] at this;rw [this];simp
   .have:=hB.1;simp only [beq_iff_eq] at this;rw [this];simp
  obtain ⟨_,k,m,_⟩:=mem_ready.1 hrd;have ag:ops.toList[i]? = some k:=by simpa using m
  have y:DH n ops k=true:=by
   unfold DL at hok;rw [List.all_eq_true] at hok;exact hok _ (List.mem_of_getElem? ag)
  have ao:Dh ops.toList ((i,s) :: l)=(k,s) :: Dh ops.toList l:=by
   unfold Dh;rw [List.filterMap_cons_some (b:=(k,s)) (by simp [ag])]
  rw [ao,RC] at h;have g:=Cg y h;have x:=fun (d:Bool) (j:FI ops l d (listed.setIfInBounds i true)=true) (f:Fr) (w:World) (hw:d=false->AD w0 w) (h:H8 P T n w0 ops.toList (Dh ops.toList l) f w K)=>Oz hT hok hs hQp hQ l d (listed.setIfInBounds i true) f w (E0 hcl hrd) j hw h;have take:∀ {ab:Bool} {U:World->Prop} (r:Value),Region.free .any ops listed i=true->FI ops l ab (listed.setIfInBounds i true)=true->(ab=false->AD w0 w) ->
    (∀ (q:Nat) (ad:Oper),ops[q]? = some ad->q≠i->q∉P4 ops i ops.size->∀ w w',(AD w0 w->DU ops q=false->AD w0 w')->U w->U w')->U w ->
    (Region.wanted k (yielded ops (A3 n f).tmps)=true->∀ w',U w'->(execOp (A3 n f).eval k).run P w' = .ok (.value r) w')->(Region.wanted k (yielded ops (A3 n f).tmps)=false->r=undef) ->
    H8 P T n w0 ops.toList (Dh ops.toList l) (put f k.dst r) w K->B9 P .any ops (DU ops) Q (fun w'=>AD w0 w') (l.length+1) listed (A3 n f) w:=by
   intro ab U r o j z ac aj v ap p;have u:YieldsIf P ops U k r (A3 n f):=by
    cases e:Region.wanted k (yielded ops (A3 n f).tmps) with
    | true=>exact .inl ⟨e,v e⟩
    | false=>exact .inr ⟨e,ap e⟩
   refine FV m (Region.noSelect_spec hs) ac (fun c a w an=>(hQp _ _ _ an).elim) l.length listed (A3 n f) w hcl (Region.free_spec m o) hrd u aj ?_;rw [BL];exact x ab j _ _ z p
  have alone:Region.ready .any ops listed=[i]->wpOp P ops Q i (fun ah w'=>(AD w0 w->DU ops i=false->AD w0 w')/\B9 P .any ops (DU ops) Q (fun w'=>AD w0 w') l.length (listed.setIfInBounds i true) ah w') (A3 n f) w ->
    B9 P .any ops (DU ops) Q (fun w'=>AD w0 w') (l.length+1) listed (A3 n f) w:=by
   intro t am;refine ⟨fun m=>(by rw [t] at m;cases m),fun q aa=>?_⟩;rw [t] at aa;simp only [List.mem_singleton] at aa;subst aa;exact am
  cases s with
  | any =>
   simp only [FI,Bool.and_eq_true] at hB;obtain ⟨⟨t,o⟩,j⟩:=hB;split at g
   .rename_i e;obtain ⟨r,v,p⟩:=DC hT y g;exact take (U:=fun _=>True) r o j hw (fun _ _ _ _ _ _ _ _ _=>trivial) trivial (fun _ w' _=>v w') (fun o=>by rw [e] at o;cases o) p
   .rename_i e;rw [AY] at g;exact take (U:=fun _=>True) undef o j hw (fun _ _ _ _ _ _ _ _ _=>trivial) trivial (fun ae=>absurd ae e) (fun _=>rfl) g
  | held =>
   simp only [FI,Bool.and_eq_true,m,Bool.not_eq_true'] at hB;obtain ⟨⟨⟨⟨⟨t,o⟩,z⟩,af⟩,ak⟩,j⟩:=hB;have ac:∀ (q:Nat) (ad:Oper),ops[q]? = some ad->q≠i->q∉P4 ops i ops.size->∀ w w',(AD w0 w->DU ops q=false->AD w0 w')->AD w0 w->AD w0 w':=by
    intro q ad aa ar al w w' ai hw;refine ai hw ?_;unfold T1 at af;rw [List.all_eq_true] at af;have:=af q (List.mem_range.2 (Array.getElem?_eq_some_iff.1 aa).1);simp only [Bool.or_eq_true,Bool.not_eq_true',List.contains_iff_mem] at this;rcases this with h | h
    .exact h
    .exact absurd h al
   split at g
   .rename_i e;obtain ⟨r,v,p⟩:=Ic hT y ak g;exact take (U:=fun w'=>AD w0 w') r o j hw ac (hw z) (fun _=>v) (fun o=>by rw [e] at o;cases o) p
   .rename_i e;rw [AY] at g;exact take (U:=fun w'=>AD w0 w') undef o j hw ac (hw z) (fun ae=>absurd ae e) (fun _=>rfl) g
  | run =>
   simp only [FI,Bool.and_eq_true,Bool.not_eq_true',beq_iff_eq] at hB;obtain ⟨⟨t,z⟩,j⟩:=hB;refine alone t ?_;split at g
   .rename_i e;unfold wpOp;simp only [m,e,if_true];exact .inl (CN hT y g fun f w' p=>⟨fun _ _=>p.1,x d j _ _ (fun _=>p.1) p.2⟩)
   .rename_i e;rw [AY] at g;have u:YieldsIf P ops (fun _=>True) k undef (A3 n f) := .inr ⟨by simpa using e,rfl⟩;refine u.wpOp m trivial ⟨fun h _=>h,?_⟩;rw [BL];exact x d j _ _ hw g
  | write =>
   simp only [FI,Bool.and_eq_true,beq_iff_eq] at hB;obtain ⟨⟨t,aq⟩,j⟩:=hB;refine alone t ?_;split at g
   .rename_i e;unfold wpOp;simp only [m,e,if_true];exact .inl (CN hT y g fun f w' p=>⟨fun _ h=>by rw [aq] at h;(cases h),x true j _ _ (fun h=>by cases h) p⟩)
   .rename_i e;rw [AY] at g;have u:YieldsIf P ops (fun _=>True) k undef (A3 n f) := .inr ⟨by simpa using e,rfl⟩;refine u.wpOp m trivial ⟨fun h _=>h,?_⟩;rw [BL];exact x true j _ _ (fun h=>by cases h) g
  | alone =>
   simp only [FI,Bool.and_eq_true,beq_iff_eq] at hB;obtain ⟨t,j⟩:=hB;refine alone t ?_;split at g
   .rename_i e;obtain ⟨r,v,p⟩:=DC hT y g;have u:YieldsIf P ops (fun _=>True) k r (A3 n f) := .inl ⟨e,fun w' _=>v w'⟩;refine u.wpOp m trivial ⟨fun h _=>h,?_⟩;rw [BL];exact x d j _ _ hw p
   .rename_i e;rw [AY] at g;have u:YieldsIf P ops (fun _=>True) k undef (A3 n f) := .inr ⟨by simpa using e,rfl⟩;refine u.wpOp m trivial ⟨fun h _=>h,?_⟩;rw [BL];exact x d j _ _ hw g
theorem Au {P:Program} {T:HS} (hT:T.fok P=true) (hm:P.follows .mixedOrders=true) {n:Nat} {ops:Array Oper} (plan:List (Nat×LO)) (hok:DL n ops=true) (hB:X5 ops plan=true) {f:Fr} {w:World} {K:Fr->World->Prop}
  (h:∀ w1,AD w w1->H8 P T n w ops.toList (Dh ops.toList plan) f w1 K):Eo P n ops f w K:=by
 unfold Eo;intro k;simp only [X5,Bool.and_eq_true] at hB;obtain ⟨⟨e,c⟩,hB⟩:=hB;refine wp_region_any hm (Fy (W:=DU ops) (S:=fun g=>AD w g) _ _ _ _ ?_);have a:AD w { w with drawn:=w.drawn+1 }:=⟨rfl,rfl,rfl,Nat.le_refl _,fun _ _=>rfl⟩;have:=Oz hT hok e (Q:=Mo n K (fun _ _ _=>False) (fun _ _=>False)) (fun j i w d=>d.elim) (fun f w b=>⟨f,rfl,b⟩) plan false _ f _ (GL ops) hB (fun _=>a) (h _ a);rw [Nat.eq_of_beq_eq_true c] at this;exact this
@[irreducible] def DN (P:Program) (S:World->Prop) (s:Sem Value) (K:Value->Prop):Prop:=∃ v,(∀ w',S w'->s.run P w' = .ok v w')/\K v
theorem K4 {P:Program} {S:World->Prop} {s:Sem Value} {K:Value->Prop} {v:Value} (h:∀ w',S w'->AB P s w' (fun u w''=>u=v/\w'=w'')) (hk:K v):DN P S s K:=by
 unfold DN;refine ⟨v,fun w' b=>?_,hk⟩;obtain ⟨u,w'',a,rfl,rfl⟩:=(h w' b).out;exact a
theorem FU {P:Program} {S:World->Prop} {ty:Nat} (hty:DK P ty=true) {b o:Nat} {vs:List Value} (h:∀ w',S w'->AK w' b o vs) {v:Value} (hk:vs[0]? = some v) {K:Value->Prop} (hK:K v) :
  DN P S (Instr.loadAt ty (.pointer (some ⟨b,o,none⟩))) K:=K4 (fun w' a=>Gz hty (k:=0) (h w' a) hk ⟨rfl,rfl⟩) hK
theorem Bf {P:Program} {S:World->Prop} {ty n:Nat} (hty:D1 P ty=some n) {b o:Nat} {vs:List Value} (h:∀ w',S w'->AK w' b o vs) (hn:vs.length=n) {K:Value->Prop} (hK:K (.agg vs.toArray)) :
  DN P S (Instr.loadAt ty (.pointer (some ⟨b,o,none⟩))) K:=K4 (fun w' a=>Hg hty (h w' a) hn ⟨rfl,rfl⟩) hK
def Bar (b:Nat) (w:World):World->Prop:=fun w'=>BP (fun k=>k=b) w w'
theorem Wx (b:Nat) (w:World):Bar b w w:=BP.refl _ _
theorem aG5 {b:Nat} {w w1 w':World} (h:Bar b w w1) (e:Oa b w1 w'):Bar b w w':=BP.trans h e.but
theorem Bar.cells {b b' o:Nat} {w:World} {vs:List Value} (h:AK w b' o vs) (hne:b'≠b):∀ w',Bar b w w'->AK w' b' o vs:=fun _ a=>h.mod a hne
noncomputable def IZ (P:Program) (T:HS) (n:Nat) (S:World->Prop) (all:List Oper) (os:List (Oper×LO)):Fr->World->(Fr->World->Prop)->Prop :=
 List.rec (motive:=fun _=>Fr->World->(Fr->World->Prop)->Prop) (fun f w K=>K f w)
  (fun o _ ih f w K=>EU all o.1 f
   (fun f=>match o.2 with
    | .any=>Mi P T o.1 f fun f=>ih f w K
    | .held=>match o.1.op with
     | .load t x=>DN P S (Instr.loadAt t (ev f x)) fun v=>Cq o.1.dst f v fun f=>ih f w K
     | _=>False
    | .run=>Fl P T n o.1 f w fun f w'=>S w'/\ih f w' K
    | .write=>Fl P T n o.1 f w fun f w'=>S w'/\ih f w' K
    | .alone=>Mi P T o.1 f fun f=>ih f w K)
   (fun f=>Cq o.1.dst f undef fun f=>ih f w K)) os
theorem XX (P:Program) (T:HS) (n:Nat) (S:World->Prop) (all:List Oper) (o:Oper×LO) (os:List (Oper×LO)) (f:Fr) (w:World) (K:Fr->World->Prop) :
  IZ P T n S all (o :: os) f w K=EU all o.1 f
   (fun f=>match o.2 with
    | .any=>Mi P T o.1 f fun f=>IZ P T n S all os f w K
    | .held=>match o.1.op with
     | .load t x=>DN P S (Instr.loadAt t (ev f x)) fun v=>Cq o.1.dst f v fun f=>IZ P T n S all os f w K
     | _=>False
    | .run=>Fl P T n o.1 f w fun f w'=>S w'/\IZ P T n S all os f w' K
    | .write=>Fl P T n o.1 f w fun f w'=>S w'/\IZ P T n S all os f w' K
    | .alone=>Mi P T o.1 f fun f=>IZ P T n S all os f w K)
   (fun f=>Cq o.1.dst f undef fun f=>IZ P T n S all os f w K):=rfl
def HQ (ops:Array Oper):List (Nat×LO)->Array Bool->Bool
 | [],listed=>(Region.ready .any ops listed).isEmpty
 | (i,.any) :: l,listed=>(Region.ready .any ops listed).contains i && Region.free .any ops listed i && HQ ops l (listed.setIfInBounds i true)
 | (i,.held) :: l,listed=>(Region.ready .any ops listed).contains i && Region.free .any ops listed i && HQ ops l (listed.setIfInBounds i true)
 | (i,_) :: l,listed=>Region.ready .any ops listed == [i] && HQ ops l (listed.setIfInBounds i true)
def aH5 (ops:Array Oper) (plan:List (Nat×LO)):Bool:=Region.noSelect ops && Nat.beq plan.length ops.size && HQ ops plan (Array.replicate ops.size false)
theorem O0 {P:Program} {T:HS} (hT:T.fok P=true) {n:Nat} {ops:Array Oper} (hok:DL n ops=true) (hs:Region.noSelect ops=true) {S:World->Prop} {Q:Exit->Act->World->Prop} (hQp:∀ c a w,¬ Q (.panic c) a w) {K:Fr->World->Prop} (hQ:∀ f w,K f w->Q .normal (A3 n f) w) :
  ∀ (plan:List (Nat×LO)) (listed:Array Bool) (f:Fr) (w:World),Fk ops listed->HQ ops plan listed=true->S w->IZ P T n S ops.toList (Dh ops.toList plan) f w K ->
   B9 P .any ops (fun _=>false) Q S plan.length listed (A3 n f) w
 | [],listed,f,w,_,hB,_,h=>by
  simp only [HQ,List.isEmpty_iff] at hB;exact F9 hB (hQ f w h) _
 | (i,s) :: l,listed,f,w,hcl,hB,hw,h=>by
  have hrd:i∈Region.ready .any ops listed:=by
   cases s<;>simp only [HQ,Bool.and_eq_true] at hB
   .simpa using hB.1.1
   .simpa using hB.1.1
   .have:=hB.1;simp only [beq_iff_eq] at this;rw [this];simp
   .have:=hB.1;simp only [beq_iff_eq] at this;rw [this];simp
   .have:=hB.1;simp only [beq_iff_eq] at this;rw [this];simp
  obtain ⟨_,k,q,_⟩:=mem_ready.1 hrd;have ae:ops.toList[i]? = some k:=by simpa using q
  have u:DH n ops k=true:=by
   unfold DL at hok;rw [List.all_eq_true] at hok;exact hok _ (List.mem_of_getElem? ae)
  have am:Dh ops.toList ((i,s) :: l)=(k,s) :: Dh ops.toList l:=by
   unfold Dh;rw [List.filterMap_cons_some (b:=(k,s)) (by simp [ae])]
  rw [am,XX] at h;have d:=Cg u h;have ac:=fun (j:HQ ops l (listed.setIfInBounds i true)=true) (f:Fr) (w:World) (hw:S w) (h:IZ P T n S ops.toList (Dh ops.toList l) f w K)=>O0 hT hok hs hQp hQ l (listed.setIfInBounds i true) f w (E0 hcl hrd) j hw h;have take:∀ {U:World->Prop} (v:Value),Region.free .any ops listed i=true->HQ ops l (listed.setIfInBounds i true)=true ->
    (∀ w e,(S w->S e)->U w->U e)->U w ->
    (Region.wanted k (yielded ops (A3 n f).tmps)=true->∀ e,U e->(execOp (A3 n f).eval k).run P e = .ok (.value v) e)->(Region.wanted k (yielded ops (A3 n f).tmps)=false->v=undef) ->
    IZ P T n S ops.toList (Dh ops.toList l) (put f k.dst v) w K->B9 P .any ops (fun _=>false) Q S (l.length+1) listed (A3 n f) w:=by
   intro U v p j ai aj r ao m;have aa:YieldsIf P ops U k v (A3 n f):=by
    cases g:Region.wanted k (yielded ops (A3 n f).tmps) with
    | true=>exact .inl ⟨g,r g⟩
    | false=>exact .inr ⟨g,ao g⟩
   refine FV q (Region.noSelect_spec hs) (fun ar au _ _ _ w e an z=>ai w e (fun hs=>an hs rfl) z) (fun c a w al=>(hQp _ _ _ al).elim) l.length listed (A3 n f) w hcl (Region.free_spec q p) hrd aa aj ?_;rw [BL];exact ac j _ _ hw m
  have alone:Region.ready .any ops listed=[i]->wpOp P ops Q i (fun ah e=>(S w->(fun _:Nat=>false) i=false->S e)/\B9 P .any ops (fun _=>false) Q S l.length (listed.setIfInBounds i true) ah e) (A3 n f) w ->
    B9 P .any ops (fun _=>false) Q S (l.length+1) listed (A3 n f) w:=by
   intro o ak;refine ⟨fun q=>(by rw [o] at q;cases q),fun ar x=>?_⟩;rw [o] at x;simp only [List.mem_singleton] at x;subst x;exact ak
  have ab:∀ {v:Value},Region.ready .any ops listed=[i]->HQ ops l (listed.setIfInBounds i true)=true->YieldsIf P ops (fun _=>True) k v (A3 n f)->IZ P T n S ops.toList (Dh ops.toList l) (put f k.dst v) w K->B9 P .any ops (fun _=>false) Q S (l.length+1) listed (A3 n f) w:=by
   intro v o j aa m;refine alone o (aa.wpOp q trivial ⟨fun h _=>h,?_⟩);rw [BL];exact ac j _ _ hw m
  have ag:Region.ready .any ops listed=[i]->HQ ops l (listed.setIfInBounds i true)=true ->
    (if Region.wanted k (yielded ops (A3 n f).tmps)=true then Fl P T n k f w (fun f e=>S e/\IZ P T n S ops.toList (Dh ops.toList l) f e K) else Cq k.dst f undef fun f=>IZ P T n S ops.toList (Dh ops.toList l) f w K) ->
    B9 P .any ops (fun _=>false) Q S (l.length+1) listed (A3 n f) w:=by
   intro o j d;split at d
   .rename_i g;refine alone o ?_;unfold wpOp;simp only [q,g,if_true];exact .inl (CN hT u d fun f e m=>⟨fun _ _=>m.1,ac j _ _ m.1 m.2⟩)
   .rename_i g;rw [AY] at d;exact ab o j (v:=undef) (.inr ⟨by simpa using g,rfl⟩) d
  cases s with
  | any =>
   simp only [HQ,Bool.and_eq_true] at hB;obtain ⟨⟨o,p⟩,j⟩:=hB;split at d
   .rename_i g;obtain ⟨v,r,m⟩:=DC hT u d;exact take (U:=fun _=>True) v p j (fun _ _ _ _=>trivial) trivial (fun _ e _=>r e) (fun p=>by rw [g] at p;cases p) m
   .rename_i g;rw [AY] at d;exact take (U:=fun _=>True) undef p j (fun _ _ _ _=>trivial) trivial (fun y=>absurd y g) (fun _=>rfl) d
  | held =>
   simp only [HQ,Bool.and_eq_true] at hB;obtain ⟨⟨o,p⟩,j⟩:=hB;split at d
   .rename_i g;dsimp only at d;split at d
    .rename_i av ad af;have t:=u;simp only [DH,Bool.and_eq_true] at t;have t:=t.1;rw [List.all_eq_true] at t;have aq:(A3 n f).eval ad=ev f ad:=Ae (t ad (by simp [af,Op.operands]));unfold DN at d;obtain ⟨v,r,m⟩:=d;rw [AY] at m;refine take (U:=S) v p j (fun w e h z=>h z) hw (fun _ e ap=>?_) (fun p=>by rw [g] at p;cases p) m;have o:=r e ap;unfold execOp;simp only [af,aq];simp [o]
    .exact d.elim
   .rename_i g;rw [AY] at d;exact take (U:=fun _=>True) undef p j (fun _ _ _ _=>trivial) trivial (fun y=>absurd y g) (fun _=>rfl) d
  | run =>
   simp only [HQ,Bool.and_eq_true,beq_iff_eq] at hB;exact ag hB.1 hB.2 d
  | write =>
   simp only [HQ,Bool.and_eq_true,beq_iff_eq] at hB;exact ag hB.1 hB.2 d
  | alone =>
   simp only [HQ,Bool.and_eq_true,beq_iff_eq] at hB;obtain ⟨o,j⟩:=hB;split at d
   .rename_i g;obtain ⟨v,r,m⟩:=DC hT u d;exact ab o j (v:=v) (.inl ⟨g,fun e _=>r e⟩) m
   .rename_i g;rw [AY] at d;exact ab o j (v:=undef) (.inr ⟨by simpa using g,rfl⟩) d
theorem Eo.apart {P:Program} {T:HS} (hT:T.fok P=true) (hm:P.follows .mixedOrders=true) {n:Nat} {ops:Array Oper} (b:Nat) (plan:List (Nat×LO)) (hok:DL n ops=true) (hB:aH5 ops plan=true) {f:Fr} {w:World} {K:Fr->World->Prop}
  (h:∀ w1,AD w w1->IZ P T n (Bar b w1) ops.toList (Dh ops.toList plan) f w1 K):Eo P n ops f w K:=by
 unfold Eo;intro k;simp only [aH5,Bool.and_eq_true] at hB;obtain ⟨⟨g,d⟩,hB⟩:=hB;have a:AD w { w with drawn:=w.drawn+1 }:=⟨rfl,rfl,rfl,Nat.le_refl _,fun _ _=>rfl⟩;refine wp_region_any hm (Fy (W:=fun _=>false) (S:=Bar b { w with drawn:=w.drawn+1 }) _ _ _ _ ?_);have:=O0 hT hok g (Q:=Mo n K (fun _ _ _=>False) (fun _ _=>False)) (fun j i w e=>e.elim) (fun f w c=>⟨f,rfl,c⟩) plan _ f _ (GL ops) hB (Wx b _) (h _ a);rw [Nat.eq_of_beq_eq_true d] at this;exact this
end
section
open Go Go.RowKit
variable {P:Program} {ops:Array Oper} {T:HS} {n b o:Nat} {S:World->Prop} {Q:Exit->Act->World->Prop} {K:Fr->World->Prop} {w:World} {vs:List Value}
noncomputable def Ee (P:Program) (T:HS) (n:Nat) (S:World->Prop) (all:List Oper) (os:List (Oper×LO)):Fr->World->(Fr->World->Prop)->Prop :=
 List.rec (motive:=fun _=>Fr->World->(Fr->World->Prop)->Prop) (fun f w K=>K f w)
  (fun o _ ih f w K=>EU all o.1 f
   (fun f=>match o.2 with
    | .any=>Mi P T o.1 f fun f=>ih f w K
    | .held=>match o.1.op with
     | .load t x=>DN P S (Instr.loadAt t (ev f x)) fun v=>Cq o.1.dst f v fun f=>ih f w K
     | .index t x i=>DN P S (Instr.index t (ev f x) (ev f i)) fun v=>Cq o.1.dst f v fun f=>ih f w K
     | .convert s t x=>DN P S (convert s t (ev f x)) fun v=>Cq o.1.dst f v fun f=>ih f w K
     | .slice t x lo hi mx=>DN P S (Instr.sliceAt t (ev f x) (lo.map (ev f)) (hi.map (ev f)) (mx.map (ev f))) fun v=>Cq o.1.dst f v fun f=>ih f w K
     | .build t ⟨ps⟩=>DN P S (Instr.build t (ps.map fun p=>(p.1,ev f p.2)).toArray) fun v=>Cq o.1.dst f v fun f=>ih f w K
     | _=>False
    | .run=>Fl P T n o.1 f w fun f w'=>S w'/\ih f w' K
    | .write=>Fl P T n o.1 f w fun f w'=>ih f w' K
    | .alone=>Mi P T o.1 f fun f=>ih f w K)
   (fun f=>Cq o.1.dst f undef fun f=>ih f w K)) os
theorem Ji (P:Program) (T:HS) (n:Nat) (S:World->Prop) (all:List Oper) (o:Oper×LO) (os:List (Oper×LO)) (f:Fr) (w:World) (K:Fr->World->Prop) :
  Ee P T n S all (o :: os) f w K=EU all o.1 f
   (fun f=>match o.2 with
    | .any=>Mi P T o.1 f fun f=>Ee P T n S all os f w K
    | .held=>match o.1.op with
     | .load t x=>DN P S (Instr.loadAt t (ev f x)) fun v=>Cq o.1.dst f v fun f=>Ee P T n S all os f w K
     | .index t x i=>DN P S (Instr.index t (ev f x) (ev f i)) fun v=>Cq o.1.dst f v fun f=>Ee P T n S all os f w K
     | .convert s t x=>DN P S (convert s t (ev f x)) fun v=>Cq o.1.dst f v fun f=>Ee P T n S all os f w K
     | .slice t x lo hi mx=>DN P S (Instr.sliceAt t (ev f x) (lo.map (ev f)) (hi.map (ev f)) (mx.map (ev f))) fun v=>Cq o.1.dst f v fun f=>Ee P T n S all os f w K
     | .build t ⟨ps⟩=>DN P S (Instr.build t (ps.map fun p=>(p.1,ev f p.2)).toArray) fun v=>Cq o.1.dst f v fun f=>Ee P T n S all os f w K
     | _=>False
    | .run=>Fl P T n o.1 f w fun f w'=>S w'/\Ee P T n S all os f w' K
    | .write=>Fl P T n o.1 f w fun f w'=>Ee P T n S all os f w' K
    | .alone=>Mi P T o.1 f fun f=>Ee P T n S all os f w K)
   (fun f=>Cq o.1.dst f undef fun f=>Ee P T n S all os f w K):=rfl
def Fq (ops:Array Oper) (fin:Bool->Array Bool->Bool):List (Nat×LO)->Bool->Array Bool->Bool
 | [],d,listed=>fin d listed
 | (i,.any) :: l,d,listed=>(Region.ready .any ops listed).contains i && Region.free .any ops listed i && Fq ops fin l d (listed.setIfInBounds i true)
 | (i,.held) :: l,d,listed=>(Region.ready .any ops listed).contains i && Region.free .any ops listed i && !d && T1 ops i && (match ops[i]? with | some o=>!HZ o.op | none=>false) && Fq ops fin l d (listed.setIfInBounds i true)
 | (i,.run) :: l,d,listed=>Region.ready .any ops listed == [i] && !d && Fq ops fin l d (listed.setIfInBounds i true)
 | (i,.write) :: l,_,listed=>Region.ready .any ops listed == [i] && DU ops i && Fq ops fin l true (listed.setIfInBounds i true)
 | (i,.alone) :: l,d,listed=>Region.ready .any ops listed == [i] && Fq ops fin l d (listed.setIfInBounds i true)
theorem LB:∀ (l:List (Nat×LO)) (d:Bool) (listed:Array Bool),FI ops l d listed=Fq ops (fun _ x=>(Region.ready .any ops x).isEmpty) l d listed
 | [],_,_=>rfl
 | (i,.any) :: l,d,listed=>by simp only [FI,Fq,LB l]
 | (i,.held) :: l,d,listed=>by simp only [FI,Fq,LB l]
 | (i,.run) :: l,d,listed=>by simp only [FI,Fq,LB l]
 | (i,.write) :: l,d,listed=>by simp only [FI,Fq,LB l]
 | (i,.alone) :: l,d,listed=>by simp only [FI,Fq,LB l]
theorem NC (hT:T.fok P=true) (hok:DL n ops=true) (hs:Region.noSelect ops=true) (hQp:∀ c a w,¬ Q (.panic c) a w) {fin:Bool->Array Bool->Bool} {m:Nat}
  (hQ:∀ d listed f w,Fk ops listed->fin d listed=true->(d=false->S w)->K f w->B9 P .any ops (DU ops) Q S m listed (A3 n f) w) :
  ∀ (plan:List (Nat×LO)) (d:Bool) (listed:Array Bool) (f:Fr) (w:World),Fk ops listed->Fq ops fin plan d listed=true->(d=false->S w)->Ee P T n S ops.toList (Dh ops.toList plan) f w K ->
   B9 P .any ops (DU ops) Q S (m+plan.length) listed (A3 n f) w
 | [],d,listed,f,w,hcl,hB,hw,h=>hQ d listed f w hcl (by simpa only [Fq] using hB) hw h
 | (i,s) :: l,d,listed,f,w,hcl,hB,hw,h=>by
  have hrd:i∈Region.ready .any ops listed:=by
   cases s<;>simp only [Fq,Bool.and_eq_true] at hB
   .simpa using hB.1.1
   .simpa using hB.1.1.1.1.1
   .have:=hB.1.1;simp only [beq_iff_eq] at this;rw [this];simp
   .have:=hB.1.1;simp only [beq_iff_eq] at this;rw [this];simp
   .have:=hB.1;simp only [beq_iff_eq] at this;rw [this];simp
  obtain ⟨_,x,y,_⟩:=mem_ready.1 hrd;have av:ops.toList[i]? = some x:=by simpa using y
  have aj:DH n ops x=true:=by
   unfold DL at hok;rw [List.all_eq_true] at hok;exact hok _ (List.mem_of_getElem? av)
  have a8:Dh ops.toList ((i,s) :: l)=(x,s) :: Dh ops.toList l:=by
   unfold Dh;rw [List.filterMap_cons_some (b:=(x,s)) (by simp [av])]
  rw [a8,Ji] at h;have e:=Cg aj h;have ai:=fun (d:Bool) (p:Fq ops fin l d (listed.setIfInBounds i true)=true) (f:Fr) (w:World) (hw:d=false->S w) (h:Ee P T n S ops.toList (Dh ops.toList l) f w K)=>NC hT hok hs hQp hQ l d (listed.setIfInBounds i true) f w (E0 hcl hrd) p hw h;have take:∀ {al:Bool} {U:World->Prop} (r:Value),Region.free .any ops listed i=true->Fq ops fin l al (listed.setIfInBounds i true)=true->(al=false->S w) ->
    (∀ (aa:Nat) (am:Oper),ops[aa]? = some am->aa≠i->aa∉P4 ops i ops.size->∀ w j,(S w->DU ops aa=false->S j)->U w->U j)->U w ->
    (Region.wanted x (yielded ops (A3 n f).tmps)=true->∀ j,U j->(execOp (A3 n f).eval x).run P j = .ok (.value r) j)->(Region.wanted x (yielded ops (A3 n f).tmps)=false->r=undef) ->
    Ee P T n S ops.toList (Dh ops.toList l) (put f x.dst r) w K->B9 P .any ops (DU ops) Q S (m+l.length+1) listed (A3 n f) w:=by
   intro al U r g p ac af az u a9 o;have ab:YieldsIf P ops U x r (A3 n f):=by
    cases k:Region.wanted x (yielded ops (A3 n f).tmps) with
    | true=>exact .inl ⟨k,u k⟩
    | false=>exact .inr ⟨k,a9 k⟩
   refine FV y (Region.noSelect_spec hs) af (fun c a w a7=>(hQp _ _ _ a7).elim) (m+l.length) listed (A3 n f) w hcl (Region.free_spec y g) hrd ab az ?_;rw [BL];exact ai al p _ _ ac o
  have alone:Region.ready .any ops listed=[i]->wpOp P ops Q i (fun ax j=>(S w->DU ops i=false->S j)/\B9 P .any ops (DU ops) Q S (m+l.length) (listed.setIfInBounds i true) ax j) (A3 n f) w ->
    B9 P .any ops (DU ops) Q S (m+l.length+1) listed (A3 n f) w:=by
   intro q a4;refine ⟨fun y=>(by rw [q] at y;cases y),fun aa ak=>?_⟩;rw [q] at ak;simp only [List.mem_singleton] at ak;subst ak;exact a4
  cases s with
  | any =>
   simp only [Fq,Bool.and_eq_true] at hB;obtain ⟨⟨q,g⟩,p⟩:=hB;split at e
   .rename_i k;obtain ⟨r,u,o⟩:=DC hT aj e;exact take (U:=fun _=>True) r g p hw (fun _ _ _ _ _ _ _ _ _=>trivial) trivial (fun _ j _=>u j) (fun g=>by rw [k] at g;cases g) o
   .rename_i k;rw [AY] at e;exact take (U:=fun _=>True) undef g p hw (fun _ _ _ _ _ _ _ _ _=>trivial) trivial (fun ap=>absurd ap k) (fun _=>rfl) e
  | held =>
   simp only [Fq,Bool.and_eq_true,y,Bool.not_eq_true'] at hB;obtain ⟨⟨⟨⟨⟨q,g⟩,ac⟩,aq⟩,bb⟩,p⟩:=hB;have af:∀ (aa:Nat) (am:Oper),ops[aa]? = some am->aa≠i->aa∉P4 ops i ops.size->∀ w j,(S w->DU ops aa=false->S j)->S w->S j:=by
    intro aa am ak ba a3 w j ay hw;refine ay hw ?_;unfold T1 at aq;rw [List.all_eq_true] at aq;have:=aq aa (List.mem_range.2 (Array.getElem?_eq_some_iff.1 ak).1);simp only [Bool.or_eq_true,Bool.not_eq_true',List.contains_iff_mem] at this;rcases this with h | h
    .exact h
    .exact absurd h a3
   have z:=aj;simp only [DH,Bool.and_eq_true] at z;have z:=z.1;rw [List.all_eq_true] at z;split at e
   .rename_i k;dsimp only at e;split at e
    .rename_i an v t;have ah:(A3 n f).eval v=ev f v:=Ae (z v (by simp [t,Op.operands]));unfold DN at e;obtain ⟨r,u,o⟩:=e;rw [AY] at o;refine take (U:=S) r g p hw af (hw ac) (fun _ j ad=>?_) (fun g=>by rw [k] at g;cases g) o;have q:=u j ad;unfold execOp;simp only [t,ah];simp [q]
    .rename_i an v ae t;have ah:(A3 n f).eval v=ev f v:=Ae (z v (by simp [t,Op.operands]));have ab:(A3 n f).eval ae=ev f ae:=Ae (z ae (by simp [t,Op.operands]));unfold DN at e;obtain ⟨r,u,o⟩:=e;rw [AY] at o;refine take (U:=S) r g p hw af (hw ac) (fun _ j ad=>?_) (fun g=>by rw [k] at g;cases g) o;have q:=u j ad;unfold execOp;simp only [t,ah,ab];simp [q]
    .rename_i s an v t;have ah:(A3 n f).eval v=ev f v:=Ae (z v (by simp [t,Op.operands]));unfold DN at e;obtain ⟨r,u,o⟩:=e;rw [AY] at o;refine take (U:=S) r g p hw af (hw ac) (fun _ j ad=>?_) (fun g=>by rw [k] at g;cases g) o;have q:=u j ad;unfold execOp;simp only [t,ah];simp [q]
    .rename_i an v ar ao au t;have ah:(A3 n f).eval v=ev f v:=Ae (z v (by simp [t,Op.operands]));have a1:ar.map (A3 n f).eval=ar.map (ev f):=by
      cases ar with
      | none=>rfl
      | some ae=>simp only [Option.map_some];rw [Ae (z ae (by simp [t,Op.operands]))]
     have a0:ao.map (A3 n f).eval=ao.map (ev f):=by
      cases ao with
      | none=>rfl
      | some ae=>simp only [Option.map_some];rw [Ae (z ae (by simp [t,Op.operands]))]
     have a2:au.map (A3 n f).eval=au.map (ev f):=by
      cases au with
      | none=>rfl
      | some ae=>simp only [Option.map_some];rw [Ae (z ae (by simp [t,Op.operands]))]
     unfold DN at e;obtain ⟨r,u,o⟩:=e;rw [AY] at o;refine take (U:=S) r g p hw af (hw ac) (fun _ j ad=>?_) (fun g=>by rw [k] at g;cases g) o;have q:=u j ad;unfold execOp;simp only [t,ah,a1,a0,a2];simp [q]
    .rename_i an aw t;have a6:(aw.map fun ag:Nat×Operand=>(ag.1,(A3 n f).eval ag.2))=aw.map fun ag=>(ag.1,ev f ag.2):=List.map_congr_left fun ag a5=>by
      rw [Ae (z ag.2 (by simp [t,Op.operands];exact ⟨ag.1,a5⟩))]
     unfold DN at e;obtain ⟨r,u,o⟩:=e;rw [AY] at o;refine take (U:=S) r g p hw af (hw ac) (fun _ j ad=>?_) (fun g=>by rw [k] at g;cases g) o;have q:=u j ad;unfold execOp;simp only [t];simp [a6,q]
    .exact e.elim
   .rename_i k;rw [AY] at e;exact take (U:=S) undef g p hw af (hw ac) (fun ap=>absurd ap k) (fun _=>rfl) e
  | run =>
   simp only [Fq,Bool.and_eq_true,Bool.not_eq_true',beq_iff_eq] at hB;obtain ⟨⟨q,ac⟩,p⟩:=hB;refine alone q ?_;split at e
   .rename_i k;unfold wpOp;simp only [y,k,if_true];exact .inl (CN hT aj e fun f j o=>⟨fun _ _=>o.1,ai d p _ _ (fun _=>o.1) o.2⟩)
   .rename_i k;rw [AY] at e;have ab:YieldsIf P ops (fun _=>True) x undef (A3 n f) := .inr ⟨by simpa using k,rfl⟩;refine ab.wpOp y trivial ⟨fun h _=>h,?_⟩;rw [BL];exact ai d p _ _ hw e
  | write =>
   simp only [Fq,Bool.and_eq_true,beq_iff_eq] at hB;obtain ⟨⟨q,a'⟩,p⟩:=hB;refine alone q ?_;split at e
   .rename_i k;unfold wpOp;simp only [y,k,if_true];exact .inl (CN hT aj e fun f j o=>⟨fun _ h=>by rw [a'] at h;(cases h),ai true p _ _ (fun h=>by cases h) o⟩)
   .rename_i k;rw [AY] at e;have ab:YieldsIf P ops (fun _=>True) x undef (A3 n f) := .inr ⟨by simpa using k,rfl⟩;refine ab.wpOp y trivial ⟨fun h _=>h,?_⟩;rw [BL];exact ai true p _ _ (fun h=>by cases h) e
  | alone =>
   simp only [Fq,Bool.and_eq_true,beq_iff_eq] at hB;obtain ⟨q,p⟩:=hB;refine alone q ?_;split at e
   .rename_i k;obtain ⟨r,u,o⟩:=DC hT aj e;have ab:YieldsIf P ops (fun _=>True) x r (A3 n f) := .inl ⟨k,fun j _=>u j⟩;refine ab.wpOp y trivial ⟨fun h _=>h,?_⟩;rw [BL];exact ai d p _ _ hw o
   .rename_i k;rw [AY] at e;have ab:YieldsIf P ops (fun _=>True) x undef (A3 n f) := .inr ⟨by simpa using k,rfl⟩;refine ab.wpOp y trivial ⟨fun h _=>h,?_⟩;rw [BL];exact ai d p _ _ hw e
theorem WR (hT:T.fok P=true) (hok:DL n ops=true) (hs:Region.noSelect ops=true) (hQp:∀ c a w,¬ Q (.panic c) a w) (hQ:∀ f w,K f w->Q .normal (A3 n f) w)
  (plan:List (Nat×LO)) (d:Bool) (listed:Array Bool) (f:Fr) (w:World) (hcl:Fk ops listed) (hB:FI ops plan d listed=true) (hw:d=false->S w) (h:Ee P T n S ops.toList (Dh ops.toList plan) f w K) :
  B9 P .any ops (DU ops) Q S plan.length listed (A3 n f) w:=by
 have:=NC hT hok hs hQp (K:=K) (fin:=fun _ g=>(Region.ready .any ops g).isEmpty) (m:=0) (fun d listed f w _ b _ e=>F9 (by simpa using b) (hQ f w e) 0) plan d listed f w hcl (by rw [<- LB];exact hB) hw h;rwa [Nat.zero_add] at this
def Sr (a:Option Addr) (w:World):World->Prop:=fun w'=>BP (AL a) w w'
theorem Sr.cells {a:Option Addr} (h:AK w b o vs) (hne:¬ AL a b):∀ w',Sr a w w'->AK w' b o vs:=fun _ c=>h.mod c hne
theorem Cu {ty:Nat} (hty:DK P ty=true) {k:Nat} (h:∀ w',S w'->AK w' b o vs) {v:Value} (hk:vs[k]? = some v) {K:Value->Prop} (hK:K v) :
  DN P S (Instr.loadAt ty (.pointer (some ⟨b,o+k,none⟩))) K:=K4 (fun w' a=>Gz hty (h w' a) hk ⟨rfl,rfl⟩) hK
theorem DT.andNot {t:Nat} {X Y:Operand} {a b:Int} {k:IntKind} {K:Value->Prop} (hK:K (.int k (Jp k a b))) :
  DT P (Bl .andNot t X Y (.int k a) (.int k b)) K:=K1 (fun _=>AB.andNot ⟨rfl,rfl⟩) hK
theorem OZ (hT:T.fok P=true) (hm:P.follows .mixedOrders=true) (a:Option Addr) (plan:List (Nat×LO)) (hok:DL n ops=true) (hB:X5 ops plan=true) {f:Fr}
  (h:∀ w1,AD w w1->Ee P T n (Sr a w1) ops.toList (Dh ops.toList plan) f w1 K):Eo P n ops f w K:=by
 unfold Eo;intro j;simp only [X5,Bool.and_eq_true] at hB;obtain ⟨⟨g,d⟩,hB⟩:=hB;have b:AD w { w with drawn:=w.drawn+1 }:=⟨rfl,rfl,rfl,Nat.le_refl _,fun _ _=>rfl⟩;refine wp_region_any hm (Fy (W:=DU ops) (S:=Sr a { w with drawn:=w.drawn+1 }) _ _ _ _ ?_);have:=WR hT hok g (Q:=Mo n K (fun _ _ _=>False) (fun _ _=>False)) (fun i a w e=>e.elim) (fun f w c=>⟨f,rfl,c⟩) plan false _ f _ (GL ops) hB (fun _=>BP.refl _ _) (h _ b);rw [Nat.eq_of_beq_eq_true d] at this;exact this
end
section
open Go Go.RowKit
theorem pI {P:Program} {α:Type} {enc:α->List Value} {sz t:Nat} {w:World} {a:Option Addr} {n c:Nat} {xs:List α} (h:A4 enc sz w a n xs) {i:Int} (k:Nat) (hi:i=k) {x:α} (hx:xs[k]? = some x) {kd:IntKind} {K:Value->Prop} (hK:∀ b o,a=some ⟨b,o,none⟩->AK w b (o+k * sz) (enc x)->K (.pointer (some ⟨b,o+k * sz,none⟩))) (ht:CQ P t=some sz:=by kernel_rfl):DT P (Instr.indexAt t (.slice a n c) (.int kd i)) K:=DT.index ht h k hi hx hK
theorem pW {P:Program} {sz t:Nat} {b o n c:Nat} {i:Int} (k:Nat) (hi:i=k) (hlt:k<n) {kd:IntKind} {K:Value->Prop} (hK:K (.pointer (Option.some ⟨b,o+k * sz,none⟩))) (ht:CQ P t=Option.some sz:=by kernel_rfl):DT P (Instr.indexAt t (.slice (Option.some ⟨b,o,none⟩) n c) (.int kd i)) K:=K2 ht k hi hlt hK
def pZ (l:List Nat):List (Nat×LO):=l.map fun k=>(k/5,match k%5 with |0=>.any|1=>.held|2=>.run|3=>.write|_=>.alone)
end
end Go.Vc
namespace Go.Proofs.YtalgenmoljcnmaaGreatDoor
open Go Go.RowKit Go.Vc Go.M Go.Shelf Go.Proofs
variable {x:Ar} {b o:Nat} {w:World} {before ch:Int}
theorem sO {p:Prop} (h:p:=by (simp only [ByteArray.size_append,BY,Za,aG9,List.length_cons,List.length_nil];omega)):p:=h
theorem Fp (hx:x.ok) (hw:x.what.size<=1000) (hc:AK w b o x.enc):Dq 107 [.pointer (some ⟨b,o,none⟩)] w (fun v w'=>v = .string (DO x)/\AD w w'):=by
 obtain ⟨f,g,h,i⟩:=hx;have j:=Bh f.1 f.2;have l:=Bh g.1 g.2;have m:=Bh h.1 h.2;refine oV Tryz.func107 ?_;refine dH (pB [0,2,4,6,12,14,16,18,26,28,30,32,40,42,44,46,9,10,21,22,24,35,37,39,49,51]) ?_;intro p a;refine dL hc (k:=0) rfl ?_;refine dL hc (k:=1) rfl<|dL hc (k:=2) rfl<|dL hc (k:=3) rfl<|dM (CC f _) fun q c=>?_;exact ⟨(xt a c),Hp sO<|dM (CC g _) fun r d=>⟨(xt (xt a c) d),Hp sO<|Hp sO<|dM (CC h _) fun n e=>⟨(xt (xt (xt a c) d) e),Ax sO ⟨(xt (xt (xt a c) d) e),Ax sO ⟨(xt (xt (xt a c) d) e),Ax sO ⟨(xt (xt (xt a c) d) e),⟨rfl,(xt (xt (xt a c) d) e)⟩⟩⟩⟩⟩⟩⟩
theorem LV (h0:0<=before) (h1:before<=65520) {s:ByteArray} (hs:s.size<=1048576) (w:World):Dq 176 [.int .i64 before,.string s] w (fun v w'=>v = .int .i64 (U7 before s.data.toList)/\w=w'):=by
 have l:s.data.toList.length=s.size:=sI
 refine oV Tryz.func176 ?_;refine AB.add _ rfl om om ?_;refine AB.rem om om<|lR [1,5,6] (fun (a:Nat) g w'=>g=[.string s,.int .i64 ((s.data.toList.take a).foldl HP ((before+17) % 65521)),.int .i64 a]/\a<=s.size/\w=w') (fun a=>s.size - a) 0 ⟨rfl,om,rfl⟩ ?_;rintro a h _ w' ⟨rfl,j,rfl⟩;have i:=U6 (s.data.toList.take a) ((before+17) % 65521) om om;refine AF (fun d=>?_) fun d=>?_
 .obtain ⟨b,c⟩:∃ b,s.data.toList[a]? = some b:=AA om;have f:=Rb c ((before+17) % 65521);generalize (s.data.toList.take a).foldl HP ((before+17) % 65521)=n at *;refine AB.mul _ rfl om om<|jC a rfl c ?_;have m:=b.toNat_lt;exact As (k := .i64) kR kR (Bv om om)<|AB.add _ rfl om om<|AB.rem om om<|jP (((a+1:Nat):Int)) ⟨a+1,om,by rw [f];rfl,om,rfl⟩
 .have e:a=s.size:=om
  subst e;rw [List.take_of_length_le om];exact ⟨rfl,rfl⟩
theorem H6 (hx:x.ok) (hw:x.what.size<=1000) (hT:GR w):Dq 131 [.agg ⟨x.enc⟩] w (fun v w'=>v = .string (DO x)/\AD w w'):=by
 obtain ⟨h,i,j,t⟩:=hx;have u:=Bh h.1 h.2;have z:=Bh i.1 i.2;have aa:=Bh j.1 j.2;refine oV Tryz.func131 ?_;refine AB.box fun r ag s ab f d=>dH (pB [0,2,6,8,12,14,18,20,5,11,17,23,25,27]) ?_;intro ah a;refine dL d.cells (k:=0) rfl<|dL d.cells (k:=1) rfl<|dL d.cells (k:=2) rfl<|dL d.cells (k:=3) rfl<|dM (Cm h (hT.ext (xt f a))) fun ai b=>?_;refine ⟨(xt a b),dM (Cm i (hT.ext (xt (xt f a) b))) fun ac c=>⟨(xt (xt a b) c),dM (Cm j (hT.ext (xt (xt (xt f a) b) c))) fun ad e=>⟨(xt (xt (xt a b) c) e),bS BK (vs:=[Value.string (BV x.tray),Value.string (BV x.count),Value.string (BV x.sum),Value.string x.what]) ?_⟩⟩⟩;intro q ae o y g l;have p:=AH (n:=4) (enc:=eS) (xs:=[BV x.tray,BV x.count,BV x.sum,x.what]) AP l o rfl dE;exact ⟨(xt (xt (xt (xt a b) c) e) g),dM (Yt l om om om hw) fun af m=>⟨(xt (xt (xt (xt (xt a b) c) e) g) m),⟨rfl,(xt (xt (xt (xt (xt (xt f a) b) c) e) g) m)⟩⟩⟩
theorem Jh (h0:0<=before) (h1:before<=65520) (hx:x.ok) (hw:x.what.size<=1000) (hT:GR w):Dq 206 [.int .i64 before,.agg ⟨x.enc⟩] w (fun v w'=>v = .int .i64 (B0 before x)/\AD w w'):=by
 have ae:=Fz hx;refine oV Tryz.func206 ?_;refine AB.box ?_;intro u al aa ah e h;refine AB.add _ rfl om om ?_;refine AB.rem om om<|jA (n:=4) h.cells rfl<|dM (H6 hx hw (hT.ext e)) fun am l=>?_;unfold B0;generalize DO x=b at *;have af:b.data.toList.length=b.size:=sI
 refine VA kR Tryz.underlying98 Tryz.underlying5 om fun i j t ab ai m g=>lR [5,13,14,15] (fun (a:Nat) s w'=>s=[.int .i64 ((b.data.toList.take a).foldl HP ((before+17) % 65521)),.slice (some ⟨i,0,none⟩) b.size j,.int .i64 b.size,.int .i64 a]/\a<=b.size/\AD t w') (fun a=>b.size - a) 0 ⟨rfl,om,AD.refl _⟩ ?_;rintro a z _ w' ⟨rfl,ad,d⟩;have ac:=U6 (b.data.toList.take a) ((before+17) % 65521) om om;refine AF (fun o=>?_) fun o=>?_
 .obtain ⟨c,f⟩:∃ c,b.data.toList[a]? = some c:=AA om;have r:=Rb f ((before+17) % 65521);generalize (b.data.toList.take a).foldl HP ((before+17) % 65521)=ak at *;refine jI (g.ext d) a rfl f fun y aj _ p=>jO p rfl ?_;have ag:=c.toNat_lt;exact AB.mul _ rfl om om<|As (k := .i64) kR kR (Bv om om)<|AB.add _ rfl om om<|AB.rem om om<|jP (((a+1:Nat):Int)) ⟨a+1,om,by rw [r];rfl,om,d⟩
 .have q:a=b.size:=om
  subst q;rw [List.take_of_length_le om];exact ⟨rfl,xt (xt (xt e l) m) d⟩
theorem Ma (h0:0<=ch) (h1:ch<=65520) (hx:x.ok) (hw:x.what.size<=1000) (hc:AK w b o x.enc):Dq 175 [.int .i64 ch,.pointer (some ⟨b,o,none⟩)] w (fun v w'=>v = .string (E9 ch x)/\AD w w'):=by
 have e:=Fz hx;have f:=Bh (n:=ch) om om;have d:BH ch:=⟨om,om⟩;refine oV Tryz.func175 ?_;refine (CC d _).mono ?_;rintro _ g ⟨rfl,a⟩;refine Ax sO ?_;refine dM (Fp hx hw (hc.ext a)) fun h c=>Ax sO ?_;refine Ax sO ?_;exact ⟨rfl,(xt a c)⟩
theorem Lm (h0:0<=ch) (h1:ch<=65520) (hx:x.ok) (hw:x.what.size<=1000) (hT:GR w):Dq 205 [.int .i64 ch,.agg ⟨x.enc⟩] w (fun v w'=>v = .string (E9 ch x)/\AD w w'):=by
 have i:=Fz hx;have j:=Bh (n:=ch) om om;have f:BH ch:=⟨om,om⟩;refine oV Tryz.func205 ?_;refine AB.box fun g l h k d e=>dH (pB [0,6,3,4,9,11,13,15]) ?_;intro m a;refine dA (n:=4) e.cells rfl<|dM (Cm f (hT.ext (xt d a))) fun o b=>?_;exact ⟨(xt a b),Hp sO<|dM (H6 hx hw (hT.ext (xt (xt d a) b))) fun p c=>⟨(xt (xt a b) c),Ax sO ⟨(xt (xt a b) c),Ax sO ⟨(xt (xt a b) c),⟨rfl,(xt (xt (xt d a) b) c)⟩⟩⟩⟩⟩
end Go.Proofs.YtalgenmoljcnmaaGreatDoor
