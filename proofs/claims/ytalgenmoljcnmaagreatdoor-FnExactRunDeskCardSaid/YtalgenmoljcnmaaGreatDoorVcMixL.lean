/- Parts of the proof; no conditions of its own. -/
import Derived.Test.YtalgenmoljcnmaaGreatDoorVcPut
import Derived.Test.YtalgenmoljcnmaaGreatDoorRefC
import Derived.Test.YtalgenmoljcnmaaGreatDoorArgs
namespace Go.Vc
open Go Go.RowKit
variable {P:Program} {T:HD} {n m:Nat} {ops:Array Oper} {S:World->Prop} {Q:Exit->Act->World->Prop} {K:Fr->World->Prop} {f:Fr} {w:World}
theorem MV (L:List Nat) (hT:T.fok P=true) (hok:DF n ops=true) (hs:Region.noSelect ops=true) (hQp:∀ c a w,¬ Q (.panic c) a w) (hQ:∀ f w,K f w->Q .normal (Ay n f) w) :
  ∀ (plan:List (Nat×No)) (d:Bool) (listed:Array Bool) (f:Fr) (w:World),Fs ops listed->Eh L ops plan d listed=true->(d=false->S w)->Eb P T n S ops.toList (EX ops.toList plan) f w K ->
   Ce P .any ops (fun j=>L.contains j) Q S plan.length listed (Ay n f) w
 | [],d,listed,f,w,_,hB,_,h=>by
  simp only [Eh,List.isEmpty_iff] at hB;exact Gs hB (hQ f w h) _
 | (i,s) :: l,d,listed,f,w,hcl,hB,hw,h=>by
  have hrd:i∈Region.ready .any ops listed:=by
   cases s<;>simp only [Eh,Bool.and_eq_true] at hB
   .simpa using hB.1.1
   .simpa using hB.1.1.1.1.1
   .have:=hB.1.1;simp only [beq_iff_eq] at this;rw [this];simp
   .have:=hB.1.1;simp only [beq_iff_eq] at this;rw [this];simp
   .have:=hB.1;simp only [beq_iff_eq] at this;rw [this];simp
  obtain ⟨_,x,y,_⟩:=mem_ready.1 hrd;have au:ops.toList[i]? = some x:=by simpa using y
  have ai:DH n ops x=true:=by
   unfold DF at hok;rw [List.all_eq_true] at hok;exact hok _ (List.mem_of_getElem? au)
  have a7:EX ops.toList ((i,s) :: l)=(x,s) :: EX ops.toList l:=by
   unfold EX;rw [List.filterMap_cons_some (b:=(x,s)) (by simp [au])]
  rw [a7,JH] at h;have e:=Cf ai h;have ah:=fun (d:Bool) (p:Eh L ops l d (listed.setIfInBounds i true)=true) (f:Fr) (w:World) (hw:d=false->S w) (h:Eb P T n S ops.toList (EX ops.toList l) f w K)=>MV L hT hok hs hQp hQ l d (listed.setIfInBounds i true) f w (FL hcl hrd) p hw h;have take:∀ {ak:Bool} {U:World->Prop} (r:Value),Region.free .any ops listed i=true->Eh L ops l ak (listed.setIfInBounds i true)=true->(ak=false->S w) ->
    (∀ (j:Nat) (al:Oper),ops[j]? = some al->j≠i->j∉PJ ops i ops.size->∀ w k,(S w->L.contains j=false->S k)->U w->U k)->U w ->
    (Region.wanted x (yielded ops (Ay n f).tmps)=true->∀ k,U k->(execOp (Ay n f).eval x).run P k = .ok (.value r) k)->(Region.wanted x (yielded ops (Ay n f).tmps)=false->r=undef) ->
    Eb P T n S ops.toList (EX ops.toList l) (put f x.dst r) w K->Ce P .any ops (fun j=>L.contains j) Q S (l.length+1) listed (Ay n f) w:=by
   intro ak U r g p ab ae ay u a8 o;have aa:YieldsIf P ops U x r (Ay n f):=by
    cases m:Region.wanted x (yielded ops (Ay n f).tmps) with
    | true=>exact .inl ⟨m,u m⟩
    | false=>exact .inr ⟨m,a8 m⟩
   refine GB y (Region.noSelect_spec hs) ae (fun c a w a6=>(hQp _ _ _ a6).elim) l.length listed (Ay n f) w hcl (Region.free_spec y g) hrd aa ay ?_;rw [BJ];exact ah ak p _ _ ab o
  have alone:Region.ready .any ops listed=[i]->wpOp P ops Q i (fun aw k=>(S w->L.contains i=false->S k)/\Ce P .any ops (fun j=>L.contains j) Q S l.length (listed.setIfInBounds i true) aw k) (Ay n f) w ->
    Ce P .any ops (fun j=>L.contains j) Q S (l.length+1) listed (Ay n f) w:=by
   intro q a3;refine ⟨fun y=>(by rw [q] at y;cases y),fun j aj=>?_⟩;rw [q] at aj;simp only [List.mem_singleton] at aj;subst aj;exact a3
  cases s with
  | any =>
   simp only [Eh,Bool.and_eq_true] at hB;obtain ⟨⟨q,g⟩,p⟩:=hB;split at e
   .rename_i m;obtain ⟨r,u,o⟩:=Dl hT ai e;exact take (U:=fun _=>True) r g p hw (fun _ _ _ _ _ _ _ _ _=>trivial) trivial (fun _ k _=>u k) (fun g=>by rw [m] at g;cases g) o
   .rename_i m;rw [AY] at e;exact take (U:=fun _=>True) undef g p hw (fun _ _ _ _ _ _ _ _ _=>trivial) trivial (fun ao=>absurd ao m) (fun _=>rfl) e
  | held =>
   simp only [Eh,Bool.and_eq_true,y,Bool.not_eq_true'] at hB;obtain ⟨⟨⟨⟨⟨q,g⟩,ab⟩,ap⟩,ba⟩,p⟩:=hB;have ae:∀ (j:Nat) (al:Oper),ops[j]? = some al->j≠i->j∉PJ ops i ops.size->∀ w k,(S w->L.contains j=false->S k)->S w->S k:=by
    intro j al aj a' a2 w k ax hw;refine ax hw ?_;unfold Lp at ap;rw [List.all_eq_true] at ap;have:=ap j (List.mem_range.2 (Array.getElem?_eq_some_iff.1 aj).1);simp only [Bool.or_eq_true,Bool.not_eq_true',List.contains_iff_mem] at this;rcases this with h | h
    .exact h
    .exact absurd h a2
   have z:=ai;simp only [DH,Bool.and_eq_true] at z;have z:=z.1;rw [List.all_eq_true] at z;split at e
   .rename_i m;dsimp only at e;split at e
    .rename_i am v t;have ag:(Ay n f).eval v=ev f v:=Ac (z v (by simp [t,Op.operands]));unfold Db at e;obtain ⟨r,u,o⟩:=e;rw [AY] at o;refine take (U:=S) r g p hw ae (hw ab) (fun _ k ac=>?_) (fun g=>by rw [m] at g;cases g) o;have q:=u k ac;unfold execOp;simp only [t,ag];simp [q]
    .rename_i am v ad t;have ag:(Ay n f).eval v=ev f v:=Ac (z v (by simp [t,Op.operands]));have aa:(Ay n f).eval ad=ev f ad:=Ac (z ad (by simp [t,Op.operands]));unfold Db at e;obtain ⟨r,u,o⟩:=e;rw [AY] at o;refine take (U:=S) r g p hw ae (hw ab) (fun _ k ac=>?_) (fun g=>by rw [m] at g;cases g) o;have q:=u k ac;unfold execOp;simp only [t,ag,aa];simp [q]
    .rename_i s am v t;have ag:(Ay n f).eval v=ev f v:=Ac (z v (by simp [t,Op.operands]));unfold Db at e;obtain ⟨r,u,o⟩:=e;rw [AY] at o;refine take (U:=S) r g p hw ae (hw ab) (fun _ k ac=>?_) (fun g=>by rw [m] at g;cases g) o;have q:=u k ac;unfold execOp;simp only [t,ag];simp [q]
    .rename_i am v aq an ar t;have ag:(Ay n f).eval v=ev f v:=Ac (z v (by simp [t,Op.operands]));have a0:aq.map (Ay n f).eval=aq.map (ev f):=by
      cases aq with
      | none=>rfl
      | some ad=>simp only [Option.map_some];rw [Ac (z ad (by simp [t,Op.operands]))]
     have az:an.map (Ay n f).eval=an.map (ev f):=by
      cases an with
      | none=>rfl
      | some ad=>simp only [Option.map_some];rw [Ac (z ad (by simp [t,Op.operands]))]
     have a1:ar.map (Ay n f).eval=ar.map (ev f):=by
      cases ar with
      | none=>rfl
      | some ad=>simp only [Option.map_some];rw [Ac (z ad (by simp [t,Op.operands]))]
     unfold Db at e;obtain ⟨r,u,o⟩:=e;rw [AY] at o;refine take (U:=S) r g p hw ae (hw ab) (fun _ k ac=>?_) (fun g=>by rw [m] at g;cases g) o;have q:=u k ac;unfold execOp;simp only [t,ag,a0,az,a1];simp [q]
    .rename_i am av t;have a5:(av.map fun af:Nat×Operand=>(af.1,(Ay n f).eval af.2))=av.map fun af=>(af.1,ev f af.2):=List.map_congr_left fun af a4=>by
      rw [Ac (z af.2 (by simp [t,Op.operands];exact ⟨af.1,a4⟩))]
     unfold Db at e;obtain ⟨r,u,o⟩:=e;rw [AY] at o;refine take (U:=S) r g p hw ae (hw ab) (fun _ k ac=>?_) (fun g=>by rw [m] at g;cases g) o;have q:=u k ac;unfold execOp;simp only [t];simp [a5,q]
    .exact e.elim
   .rename_i m;rw [AY] at e;exact take (U:=S) undef g p hw ae (hw ab) (fun ao=>absurd ao m) (fun _=>rfl) e
  | run =>
   simp only [Eh,Bool.and_eq_true,Bool.not_eq_true',beq_iff_eq] at hB;obtain ⟨⟨q,ab⟩,p⟩:=hB;refine alone q ?_;split at e
   .rename_i m;unfold wpOp;simp only [y,m,if_true];exact .inl (CJ hT ai e fun f k o=>⟨fun _ _=>o.1,ah d p _ _ (fun _=>o.1) o.2⟩)
   .rename_i m;rw [AY] at e;have aa:YieldsIf P ops (fun _=>True) x undef (Ay n f) := .inr ⟨by simpa using m,rfl⟩;refine aa.wpOp y trivial ⟨fun h _=>h,?_⟩;rw [BJ];exact ah d p _ _ hw e
  | write =>
   simp only [Eh,Bool.and_eq_true,beq_iff_eq] at hB;obtain ⟨⟨q,a9⟩,p⟩:=hB;refine alone q ?_;split at e
   .rename_i m;unfold wpOp;simp only [y,m,if_true];exact .inl (CJ hT ai e fun f k o=>⟨fun _ h=>by rw [a9] at h;(cases h),ah true p _ _ (fun h=>by cases h) o⟩)
   .rename_i m;rw [AY] at e;have aa:YieldsIf P ops (fun _=>True) x undef (Ay n f) := .inr ⟨by simpa using m,rfl⟩;refine aa.wpOp y trivial ⟨fun h _=>h,?_⟩;rw [BJ];exact ah true p _ _ (fun h=>by cases h) e
  | alone =>
   simp only [Eh,Bool.and_eq_true,beq_iff_eq] at hB;obtain ⟨q,p⟩:=hB;refine alone q ?_;split at e
   .rename_i m;obtain ⟨r,u,o⟩:=Dl hT ai e;have aa:YieldsIf P ops (fun _=>True) x r (Ay n f) := .inl ⟨m,fun k _=>u k⟩;refine aa.wpOp y trivial ⟨fun h _=>h,?_⟩;rw [BJ];exact ah d p _ _ hw o
   .rename_i m;rw [AY] at e;have aa:YieldsIf P ops (fun _=>True) x undef (Ay n f) := .inr ⟨by simpa using m,rfl⟩;refine aa.wpOp y trivial ⟨fun h _=>h,?_⟩;rw [BJ];exact ah d p _ _ hw e
theorem H6 (L:List Nat) (hT:T.fok P=true) (hm:P.follows .mixedOrders=true) (a:Option Addr) (plan:List (Nat×No)) (hok:DF n ops=true) (hB:XC L ops plan=true)
  (h:∀ w1,AD w w1->Eb P T n (Sr a w1) ops.toList (EX ops.toList plan) f w1 K):E4 P n ops f w K:=by
 unfold E4;intro k;simp only [XC,Bool.and_eq_true] at hB;obtain ⟨⟨g,d⟩,hB⟩:=hB;have b:AD w { w with drawn:=w.drawn+1 }:=⟨rfl,rfl,rfl,Nat.le_refl _,fun _ _=>rfl⟩;refine wp_region_any hm (GW (W:=fun i=>L.contains i) (S:=Sr a { w with drawn:=w.drawn+1 }) _ _ _ _ ?_);have:=MV L hT hok g (Q:=L8 n K (fun _ _ _=>False) (fun _ _=>False)) (fun j a w e=>e.elim) (fun f w c=>⟨f,rfl,c⟩) plan false _ f _ (Gz ops) hB (fun _=>BY.refl _ _) (h _ b);rw [Nat.eq_of_beq_eq_true d] at this;exact this
def FY (L:List Nat) (ops:Array Oper) (fin:Bool->Array Bool->Bool):List (Nat×No)->Bool->Array Bool->Bool
 | [],d,listed=>fin d listed
 | (i,.any) :: l,d,listed=>(Region.ready .any ops listed).contains i && Region.free .any ops listed i && FY L ops fin l d (listed.setIfInBounds i true)
 | (i,.held) :: l,d,listed=>(Region.ready .any ops listed).contains i && Region.free .any ops listed i && !d && Lp L ops i && (match ops[i]? with | some o=>!HJ o.op | none=>false) && FY L ops fin l d (listed.setIfInBounds i true)
 | (i,.run) :: l,d,listed=>Region.ready .any ops listed == [i] && !d && FY L ops fin l d (listed.setIfInBounds i true)
 | (i,.write) :: l,_,listed=>Region.ready .any ops listed == [i] && L.contains i && FY L ops fin l true (listed.setIfInBounds i true)
 | (i,.alone) :: l,d,listed=>Region.ready .any ops listed == [i] && FY L ops fin l d (listed.setIfInBounds i true)
theorem LC (L:List Nat) (hT:T.fok P=true) (hok:DF n ops=true) (hs:Region.noSelect ops=true) (hQp:∀ c a w,¬ Q (.panic c) a w) {fin:Bool->Array Bool->Bool}
  (hQ:∀ d listed f w,Fs ops listed->fin d listed=true->(d=false->S w)->K f w->Ce P .any ops (fun j=>L.contains j) Q S m listed (Ay n f) w) :
  ∀ (plan:List (Nat×No)) (d:Bool) (listed:Array Bool) (f:Fr) (w:World),Fs ops listed->FY L ops fin plan d listed=true->(d=false->S w)->Eb P T n S ops.toList (EX ops.toList plan) f w K ->
   Ce P .any ops (fun j=>L.contains j) Q S (m+plan.length) listed (Ay n f) w
 | [],d,listed,f,w,hcl,hB,hw,h=>hQ d listed f w hcl (by simpa only [FY] using hB) hw h
 | (i,s) :: l,d,listed,f,w,hcl,hB,hw,h=>by
  have hrd:i∈Region.ready .any ops listed:=by
   cases s<;>simp only [FY,Bool.and_eq_true] at hB
   .simpa using hB.1.1
   .simpa using hB.1.1.1.1.1
   .have:=hB.1.1;simp only [beq_iff_eq] at this;rw [this];simp
   .have:=hB.1.1;simp only [beq_iff_eq] at this;rw [this];simp
   .have:=hB.1;simp only [beq_iff_eq] at this;rw [this];simp
  obtain ⟨_,y,z,_⟩:=mem_ready.1 hrd;have av:ops.toList[i]? = some y:=by simpa using z
  have aj:DH n ops y=true:=by
   unfold DF at hok;rw [List.all_eq_true] at hok;exact hok _ (List.mem_of_getElem? av)
  have a8:EX ops.toList ((i,s) :: l)=(y,s) :: EX ops.toList l:=by
   unfold EX;rw [List.filterMap_cons_some (b:=(y,s)) (by simp [av])]
  rw [a8,JH] at h;have e:=Cf aj h;have ai:=fun (d:Bool) (q:FY L ops fin l d (listed.setIfInBounds i true)=true) (f:Fr) (w:World) (hw:d=false->S w) (h:Eb P T n S ops.toList (EX ops.toList l) f w K)=>LC L hT hok hs hQp hQ l d (listed.setIfInBounds i true) f w (FL hcl hrd) q hw h;have take:∀ {al:Bool} {U:World->Prop} (t:Value),Region.free .any ops listed i=true->FY L ops fin l al (listed.setIfInBounds i true)=true->(al=false->S w) ->
    (∀ (j:Nat) (am:Oper),ops[j]? = some am->j≠i->j∉PJ ops i ops.size->∀ w k,(S w->L.contains j=false->S k)->U w->U k)->U w ->
    (Region.wanted y (yielded ops (Ay n f).tmps)=true->∀ k,U k->(execOp (Ay n f).eval y).run P k = .ok (.value t) k)->(Region.wanted y (yielded ops (Ay n f).tmps)=false->t=undef) ->
    Eb P T n S ops.toList (EX ops.toList l) (put f y.dst t) w K->Ce P .any ops (fun j=>L.contains j) Q S (m+l.length+1) listed (Ay n f) w:=by
   intro al U t g q ac af az v a9 p;have ab:YieldsIf P ops U y t (Ay n f):=by
    cases o:Region.wanted y (yielded ops (Ay n f).tmps) with
    | true=>exact .inl ⟨o,v o⟩
    | false=>exact .inr ⟨o,a9 o⟩
   refine GB z (Region.noSelect_spec hs) af (fun c a w a7=>(hQp _ _ _ a7).elim) (m+l.length) listed (Ay n f) w hcl (Region.free_spec z g) hrd ab az ?_;rw [BJ];exact ai al q _ _ ac p
  have alone:Region.ready .any ops listed=[i]->wpOp P ops Q i (fun ax k=>(S w->L.contains i=false->S k)/\Ce P .any ops (fun j=>L.contains j) Q S (m+l.length) (listed.setIfInBounds i true) ax k) (Ay n f) w ->
    Ce P .any ops (fun j=>L.contains j) Q S (m+l.length+1) listed (Ay n f) w:=by
   intro r a4;refine ⟨fun z=>(by rw [r] at z;cases z),fun j ak=>?_⟩;rw [r] at ak;simp only [List.mem_singleton] at ak;subst ak;exact a4
  cases s with
  | any =>
   simp only [FY,Bool.and_eq_true] at hB;obtain ⟨⟨r,g⟩,q⟩:=hB;split at e
   .rename_i o;obtain ⟨t,v,p⟩:=Dl hT aj e;exact take (U:=fun _=>True) t g q hw (fun _ _ _ _ _ _ _ _ _=>trivial) trivial (fun _ k _=>v k) (fun g=>by rw [o] at g;cases g) p
   .rename_i o;rw [AY] at e;exact take (U:=fun _=>True) undef g q hw (fun _ _ _ _ _ _ _ _ _=>trivial) trivial (fun ap=>absurd ap o) (fun _=>rfl) e
  | held =>
   simp only [FY,Bool.and_eq_true,z,Bool.not_eq_true'] at hB;obtain ⟨⟨⟨⟨⟨r,g⟩,ac⟩,aq⟩,bb⟩,q⟩:=hB;have af:∀ (j:Nat) (am:Oper),ops[j]? = some am->j≠i->j∉PJ ops i ops.size->∀ w k,(S w->L.contains j=false->S k)->S w->S k:=by
    intro j am ak ba a3 w k ay hw;refine ay hw ?_;unfold Lp at aq;rw [List.all_eq_true] at aq;have:=aq j (List.mem_range.2 (Array.getElem?_eq_some_iff.1 ak).1);simp only [Bool.or_eq_true,Bool.not_eq_true',List.contains_iff_mem] at this;rcases this with h | h
    .exact h
    .exact absurd h a3
   have aa:=aj;simp only [DH,Bool.and_eq_true] at aa;have aa:=aa.1;rw [List.all_eq_true] at aa;split at e
   .rename_i o;dsimp only at e;split at e
    .rename_i an x u;have ah:(Ay n f).eval x=ev f x:=Ac (aa x (by simp [u,Op.operands]));unfold Db at e;obtain ⟨t,v,p⟩:=e;rw [AY] at p;refine take (U:=S) t g q hw af (hw ac) (fun _ k ad=>?_) (fun g=>by rw [o] at g;cases g) p;have r:=v k ad;unfold execOp;simp only [u,ah];simp [r]
    .rename_i an x ae u;have ah:(Ay n f).eval x=ev f x:=Ac (aa x (by simp [u,Op.operands]));have ab:(Ay n f).eval ae=ev f ae:=Ac (aa ae (by simp [u,Op.operands]));unfold Db at e;obtain ⟨t,v,p⟩:=e;rw [AY] at p;refine take (U:=S) t g q hw af (hw ac) (fun _ k ad=>?_) (fun g=>by rw [o] at g;cases g) p;have r:=v k ad;unfold execOp;simp only [u,ah,ab];simp [r]
    .rename_i s an x u;have ah:(Ay n f).eval x=ev f x:=Ac (aa x (by simp [u,Op.operands]));unfold Db at e;obtain ⟨t,v,p⟩:=e;rw [AY] at p;refine take (U:=S) t g q hw af (hw ac) (fun _ k ad=>?_) (fun g=>by rw [o] at g;cases g) p;have r:=v k ad;unfold execOp;simp only [u,ah];simp [r]
    .rename_i an x ar ao au u;have ah:(Ay n f).eval x=ev f x:=Ac (aa x (by simp [u,Op.operands]));have a1:ar.map (Ay n f).eval=ar.map (ev f):=by
      cases ar with
      | none=>rfl
      | some ae=>simp only [Option.map_some];rw [Ac (aa ae (by simp [u,Op.operands]))]
     have a0:ao.map (Ay n f).eval=ao.map (ev f):=by
      cases ao with
      | none=>rfl
      | some ae=>simp only [Option.map_some];rw [Ac (aa ae (by simp [u,Op.operands]))]
     have a2:au.map (Ay n f).eval=au.map (ev f):=by
      cases au with
      | none=>rfl
      | some ae=>simp only [Option.map_some];rw [Ac (aa ae (by simp [u,Op.operands]))]
     unfold Db at e;obtain ⟨t,v,p⟩:=e;rw [AY] at p;refine take (U:=S) t g q hw af (hw ac) (fun _ k ad=>?_) (fun g=>by rw [o] at g;cases g) p;have r:=v k ad;unfold execOp;simp only [u,ah,a1,a0,a2];simp [r]
    .rename_i an aw u;have a6:(aw.map fun ag:Nat×Operand=>(ag.1,(Ay n f).eval ag.2))=aw.map fun ag=>(ag.1,ev f ag.2):=List.map_congr_left fun ag a5=>by
      rw [Ac (aa ag.2 (by simp [u,Op.operands];exact ⟨ag.1,a5⟩))]
     unfold Db at e;obtain ⟨t,v,p⟩:=e;rw [AY] at p;refine take (U:=S) t g q hw af (hw ac) (fun _ k ad=>?_) (fun g=>by rw [o] at g;cases g) p;have r:=v k ad;unfold execOp;simp only [u];simp [a6,r]
    .exact e.elim
   .rename_i o;rw [AY] at e;exact take (U:=S) undef g q hw af (hw ac) (fun ap=>absurd ap o) (fun _=>rfl) e
  | run =>
   simp only [FY,Bool.and_eq_true,Bool.not_eq_true',beq_iff_eq] at hB;obtain ⟨⟨r,ac⟩,q⟩:=hB;refine alone r ?_;split at e
   .rename_i o;unfold wpOp;simp only [z,o,if_true];exact .inl (CJ hT aj e fun f k p=>⟨fun _ _=>p.1,ai d q _ _ (fun _=>p.1) p.2⟩)
   .rename_i o;rw [AY] at e;have ab:YieldsIf P ops (fun _=>True) y undef (Ay n f) := .inr ⟨by simpa using o,rfl⟩;refine ab.wpOp z trivial ⟨fun h _=>h,?_⟩;rw [BJ];exact ai d q _ _ hw e
  | write =>
   simp only [FY,Bool.and_eq_true,beq_iff_eq] at hB;obtain ⟨⟨r,a'⟩,q⟩:=hB;refine alone r ?_;split at e
   .rename_i o;unfold wpOp;simp only [z,o,if_true];exact .inl (CJ hT aj e fun f k p=>⟨fun _ h=>by rw [a'] at h;(cases h),ai true q _ _ (fun h=>by cases h) p⟩)
   .rename_i o;rw [AY] at e;have ab:YieldsIf P ops (fun _=>True) y undef (Ay n f) := .inr ⟨by simpa using o,rfl⟩;refine ab.wpOp z trivial ⟨fun h _=>h,?_⟩;rw [BJ];exact ai true q _ _ (fun h=>by cases h) e
  | alone =>
   simp only [FY,Bool.and_eq_true,beq_iff_eq] at hB;obtain ⟨r,q⟩:=hB;refine alone r ?_;split at e
   .rename_i o;obtain ⟨t,v,p⟩:=Dl hT aj e;have ab:YieldsIf P ops (fun _=>True) y t (Ay n f) := .inl ⟨o,fun k _=>v k⟩;refine ab.wpOp z trivial ⟨fun h _=>h,?_⟩;rw [BJ];exact ai d q _ _ hw p
   .rename_i o;rw [AY] at e;have ab:YieldsIf P ops (fun _=>True) y undef (Ay n f) := .inr ⟨by simpa using o,rfl⟩;refine ab.wpOp z trivial ⟨fun h _=>h,?_⟩;rw [BJ];exact ai d q _ _ hw e
inductive PT where
 | done:PT
 | seq (l:List (Nat×No)) (t:PT):PT
 | alt (i:Nat) (t:PT) (j:Nat) (u:PT):PT
def PT.size:PT->Nat
 | .done=>0
 | .seq l t=>t.size+l.length
 | .alt _ t _ _=>t.size+1
def PT.ok (L:List Nat) (ops:Array Oper):PT->Bool->Array Bool->Bool
 | .done,_,listed=>(Region.ready .any ops listed).isEmpty
 | .seq l t,d,listed=>FY L ops (t.ok L ops) l d listed
 | .alt i t j u,d,listed=>!d && Region.ready .any ops listed == [i,j] && t.ok L ops false (listed.setIfInBounds i true) && u.ok L ops false (listed.setIfInBounds j true) && Nat.beq u.size t.size
noncomputable def ZE (P:Program) (T:HD) (n:Nat) (S:World->Prop) (all:List Oper) (t:PT):Fr->World->(Fr->World->Prop)->Prop :=
 PT.rec (motive:=fun _=>Fr->World->(Fr->World->Prop)->Prop) (fun f w K=>K f w)
  (fun l _ ih f w K=>Eb P T n S all (EX all l) f w fun f w=>ih f w K)
  (fun i _ j _ ih ih2 f w K=>DX (Eb P T n S all (EX all [(i,.run)]) f w fun f w=>ih f w K) (Eb P T n S all (EX all [(j,.run)]) f w fun f w=>ih2 f w K)) t
theorem aB3 (L:List Nat) (hT:T.fok P=true) (hok:DF n ops=true)
  {i:Nat} {listed:Array Bool} (hrd:i∈Region.ready .any ops listed) (hw:S w)
  (hQ:∀ f w,S w->K f w->Ce P .any ops (fun j=>L.contains j) Q S m (listed.setIfInBounds i true) (Ay n f) w)
  (h:Eb P T n S ops.toList (EX ops.toList [(i,.run)]) f w K) :
  wpOp P ops Q i (fun a' w'=>(S w->L.contains i=false->S w')/\Ce P .any ops (fun j=>L.contains j) Q S m (listed.setIfInBounds i true) a' w') (Ay n f) w:=by
 obtain ⟨_,a,d,_⟩:=mem_ready.1 hrd;have k:ops.toList[i]? = some a:=by simpa using d
 have l:DH n ops a=true:=by
  unfold DF at hok;rw [List.all_eq_true] at hok;exact hok _ (List.mem_of_getElem? k)
 have o:EX ops.toList [(i,.run)]=[(a,.run)]:=by
  unfold EX;rw [List.filterMap_cons_some (b:=(a,.run)) (by simp [k])];rfl
 rw [o,JH] at h;have c:=Cf l h;split at c
 .rename_i g;unfold wpOp;simp only [d,g,if_true];exact .inl (CJ hT l c fun f w' e=>⟨fun _ _=>e.1,hQ _ _ e.1 e.2⟩)
 .rename_i g;rw [AY] at c;have p:YieldsIf P ops (fun _=>True) a undef (Ay n f) := .inr ⟨by simpa using g,rfl⟩;refine p.wpOp d trivial ⟨fun h _=>h,?_⟩;rw [BJ];exact hQ _ _ hw c
theorem IE (L:List Nat) (hT:T.fok P=true) (hok:DF n ops=true) (hs:Region.noSelect ops=true) (hQp:∀ c a w,¬ Q (.panic c) a w) (hQ:∀ f w,K f w->Q .normal (Ay n f) w) :
  ∀ (t:PT) (d:Bool) (listed:Array Bool) (f:Fr) (w:World),Fs ops listed->t.ok L ops d listed=true->(d=false->S w)->ZE P T n S ops.toList t f w K ->
   Ce P .any ops (fun j=>L.contains j) Q S t.size listed (Ay n f) w
 | .done,d,listed,f,w,_,hB,_,h=>Gs (by simpa [PT.ok] using hB) (hQ f w h) _
 | .seq l t,d,listed,f,w,hcl,hB,hw,h =>
  LC L hT hok hs hQp (fin:=t.ok L ops) (m:=t.size) (K:=fun f w=>ZE P T n S ops.toList t f w K) (fun d listed f w hcl hf hw hk=>IE L hT hok hs hQp hQ t d listed f w hcl hf hw hk) l d listed f w hcl (by simpa only [PT.ok] using hB) hw h
 | .alt i t j u,d,listed,f,w,hcl,hB,hw,h=>by
  simp only [PT.ok,Bool.and_eq_true,Bool.not_eq_true',beq_iff_eq] at hB;obtain ⟨⟨⟨⟨hd,hr⟩,ht⟩,hu⟩,hsz⟩:=hB;have hsz:=Nat.eq_of_beq_eq_true hsz;obtain ⟨p,q⟩:=DX.out h;refine ⟨fun k=>(by rw [hr] at k;cases k),fun s b=>?_⟩;have e:=b;rw [hr] at b;simp only [List.mem_cons,List.not_mem_nil,or_false] at b;rcases b with rfl | rfl
  .exact aB3 L hT hok e (hw hd) (fun f w g hk=>IE L hT hok hs hQp hQ t false _ f w (FL hcl e) ht (fun _=>g) hk) p
  .show wpOp P ops Q _ (fun o r=>_/\Ce P .any ops (fun j=>L.contains j) Q S t.size _ o r) (Ay n f) w;rw [<- hsz];exact aB3 L hT hok e (hw hd) (fun f w g hk=>IE L hT hok hs hQp hQ u false _ f w (FL hcl e) hu (fun _=>g) hk) q
def aB2 (L:List Nat) (ops:Array Oper) (t:PT):Bool:=Region.noSelect ops && Nat.beq t.size ops.size && t.ok L ops false (Array.replicate ops.size false)
theorem Dn (L:List Nat) (hT:T.fok P=true) (hm:P.follows .mixedOrders=true) (a:Option Addr) (t:PT) (hok:DF n ops=true) (hB:aB2 L ops t=true)
  (h:∀ w1,AD w w1->ZE P T n (Sr a w1) ops.toList t f w1 K):E4 P n ops f w K:=by
 unfold E4;intro k;simp only [aB2,Bool.and_eq_true] at hB;obtain ⟨⟨g,d⟩,hB⟩:=hB;have b:AD w { w with drawn:=w.drawn+1 }:=⟨rfl,rfl,rfl,Nat.le_refl _,fun _ _=>rfl⟩;refine wp_region_any hm (GW (W:=fun i=>L.contains i) (S:=Sr a { w with drawn:=w.drawn+1 }) _ _ _ _ ?_);have:=IE L hT hok g (Q:=L8 n K (fun _ _ _=>False) (fun _ _=>False)) (fun j a w e=>e.elim) (fun f w c=>⟨f,rfl,c⟩) t false _ f _ (Gz ops) hB (fun _=>BY.refl _ _) (h _ b);rw [Nat.eq_of_beq_eq_true d] at this;exact this
theorem Fj {ty:Nat} (hty:Dx P ty=some n) {b o k:Nat} {vs:List Value} (h:∀ w',S w'->AK w' b o vs) (hn:((vs.drop k).take n).length=n) {K:Value->Prop} (hK:K (.agg ((vs.drop k).take n).toArray)) :
  Db P S (Instr.loadAt ty (.pointer (some ⟨b,o+k,none⟩))) K:=KN (fun w' a=>KI hty (h w' a) hn ⟨rfl,rfl⟩) hK
theorem AU {a:Option Addr} {w':World} (e:AD w w'):Sr a w w':=AD.mod e
end Go.Vc
namespace Go.Vc
open Go Go.RowKit
theorem Ai.cut {α:Type} {enc:α->List Value} {sz B e:Nat} (he:∀ x,(enc x).length=sz) {w:World} {a:Option Addr} {n c k:Nat} {xs:List α} (h:Ai enc sz B e w a n c xs) (hk:k<=n):Ai enc sz B e w a k c (xs.take k):=by
 obtain ⟨s,t,i⟩:=h;have b:(xs.take k).length=k:=by rw [List.length_take];omega
 have l:BD enc (xs.take k)=(BD enc xs).take (k * sz):=by
  have e:BD enc xs=BD enc (xs.take k)++BD enc (xs.drop k):=by rw [<- FJ,List.take_append_drop]
  rw [e,List.take_left' (by rw [B0 he,b])]
 rcases i with ⟨d,u⟩ | ⟨g,r,f,d,j,m,v,o,p,q⟩
 .simp only [Value.slice.injEq] at d;obtain ⟨rfl,_,rfl⟩:=d;have:k=0:=om
  subst this;exact ⟨b,by rw [B0 he,b],.inl ⟨rfl,rfl⟩⟩
 .simp only [Value.slice.injEq] at d;obtain ⟨rfl,_,rfl⟩:=d;refine ⟨b,by rw [B0 he,b],.inr ⟨g,c,f,rfl,j,m,om,o,p,?_⟩⟩;rw [l,<- q,List.take_take];congr 1;have:=Nat.mul_le_mul_right sz hk;omega
end Go.Vc
namespace Go.M
open Go Go.Vc
variable {p:Ag} {i:Nat}
theorem sum_cons (g:List Int->Int) (c:List Int) (d:List (List Int)):∀ L:List Int,(L.map fun k=>((c :: d).filter fun x=>decide (g x=k)).length).sum=(L.map fun k=>(d.filter fun x=>decide (g x=k)).length).sum+L.count (g c)
 | []=>sI
 | k :: L=>by
  rw [List.map_cons,List.sum_cons,List.map_cons,List.sum_cons,sum_cons g c d L,List.count_cons,List.filter_cons];by_cases h:g c=k
  .rw [if_pos (by simpa using h),if_pos (by simp [h])];simp;omega
  .rw [if_neg (by simpa using h),if_neg (by simp [Ne.symm h])];omega
theorem W2 (g:List Int->Int) {L:List Int} (hL:L.Nodup):∀ d:List (List Int),(∀ c∈d,g c∈L)->(L.map fun k=>(d.filter fun x=>decide (g x=k)).length).sum=d.length
 | [],_=>by
  have:∀ L:List Int,(L.map fun _=>0).sum=0:=by
   intro L;induction L with
   | nil=>rfl
   | cons k L b=>simpa using b
  simp [this]
 | c :: d,h=>by
  rw [sum_cons,W2 g hL d (fun x a=>h x (List.mem_cons_of_mem _ a)),List.length_cons,hL.count,if_pos (h c sI)]
theorem Zk {mode:Int} (hm:mode=1\/mode=2) (m:Int):Ci m mode∈BF mode:=by
 have d:∀ c a,c<=9->Ia c m=some a->1<=a/\a<=c:=by
  intro c;induction c with
  | zero=>intro a _ b;simp [Ia] at b
  | succ c e =>
   intro a f b;unfold Ia at b;split at b
   .cases b;omega
   .have:=e a om b;omega
 rcases hm with rfl | rfl
 .unfold Ci BF;rw [if_pos rfl,if_neg dE];cases b:Ia 9 m with
  | none=>dsimp only;split<;>decide
  | some a =>
   have:=d 9 a om b;dsimp only;rcases (show a=1\/a=2\/a=3\/a=4\/a=5\/a=6\/a=7\/a=8\/a=9 by omega) with rfl | rfl | rfl | rfl | rfl | rfl | rfl | rfl | rfl<;>decide
 .unfold Ci BF;rw [if_neg (by decide:¬ (2:Int)=1),if_pos (rfl:(2:Int)=2)]
  repeat' split
  all_goals decide
theorem Uv {d:List (List Int)} (hm:p.mode=1\/p.mode=2):(Gv d p).length=d.length:=by
 rw [O1,List.length_flatMap];exact W2 (fun a=>Ci (a.getD p.col.toNat 0) p.mode) (MY p.mode) d fun a _=>Zk hm _
theorem L0:∀ (l:List Ag) (d:List (List Int)),(∀ p∈l,p.mode=1\/p.mode=2)->(Ch d l).length=d.length
 | [],d,_=>rfl
 | p :: l,d,h=>by
  show (Ch (Gv d p) l).length=d.length;rw [L0 l _ (fun q hq=>h q (List.mem_cons_of_mem _ hq)),Uv (h p sI)]
theorem Xr (full:List Ag) (own:List Nat) (h:full[i]? = some p):Bp full (own++[i])=Bp full own++[p]:=by
 unfold Bp;rw [List.map_append,List.map_cons,List.map_nil,Ae h]
theorem Zl {full:List Ag} {own:List Nat} (h:∀ i∈own,i<full.length):∀ p∈Bp full own,p∈full:=by
 intro p c;obtain ⟨i,b,rfl⟩:=List.mem_map.1 c;obtain ⟨d,a⟩:=AA (h i b);rw [Ae a];exact List.mem_of_getElem? a
theorem Wf {ok:List Nat->Bool} {N more:Nat} {part:List Nat} (h:i+(more+1)<=N):(List.range' i (N - more - i)).findSome? (fun i=>D9 ok N more (i+1) (part++[i])) =
  match D9 ok N more (i+1) (part++[i]) with | some q=>some q | none=>(List.range' (i+1) (N - more - (i+1))).findSome? (fun i=>D9 ok N more (i+1) (part++[i])):=by
 have a:N - more - i=(N - more - (i+1))+1:=om
 rw [a,List.range'_succ,List.findSome?_cons];cases D9 ok N more (i+1) (part++[i])<;>rfl
end Go.M
namespace Go.Proofs.YtalgenmoljcnmaaGreatDoor
open Go Go.RowKit Go.Vc Go.M
variable {a:Option Addr} {n c:Nat} {xs:List (List Int)}
structure FSz (w0 w:World) (b B:Nat) (a b2 b3:Option Addr) (n c m2 d2 m3 d3:Nat) (full:List Ag) (part:List Nat) (ap:Option Addr) (np cp:Nat):Prop where
 ext:AD w0 w
 blk:CD w b [.slice a n c,.slice b2 m2 d2,.slice b3 m3 d3,.slice ap np cp] 218
 grow:Ai Ag.enc 2 B 193 w ap np cp (Bp full part)
 ne:∀ x,ap=some x->x.block≠b
 big:B<=w.heap.size
theorem Xj {w0:World} {b:Nat} {b2 b3:Option Addr} {m2 d2 m3 d3:Nat} {full:List Ag} {P:List Int} (hb:w0.heap.size<=b) (h:Ar Aa w0 a n xs) (hn2:n<=40) (hF:A4 Ag.enc 2 w0 b3 m3 full) (hm3:m3<=40) (hlm:∀ p∈full,p.mode=1\/p.mode=2)
  (hx:∀ x∈xs,x.length<=20/\(∀ m∈x,0<=m/\m<=4095)/\∀ p∈full,0<=p.col/\p.col<x.length) (hP:A4 eI 1 w0 b2 m2 P) (hPx:∀ i∈P,0<=i/\i.toNat<xs.length) (hPl:P.length=xs.length) :
  ∀ (more lo B:Nat) (part:List Nat) (w:World) (ap:Option Addr) (np cp:Nat),more=0\/w0.heap.size<=B->lo<=1000->part.length+more<=40->(∀ i∈part,i<m3)->FSz w0 w b B a b2 b3 n c m2 d2 m3 d3 full part ap np cp ->
   Dq 169 [.pointer (some ⟨b,0,none⟩),.int .i64 lo,.int .i64 more] w (fun v w'=>v = .bool (D9 (fun own=>decide (Ch xs (Bp full own)=P.map fun i=>xs.getD i.toNat [])) m3 more lo part).isSome /\
    ∃ ap' np' cp',FSz w0 w' b B a b2 b3 n c m2 d2 m3 d3 full ((D9 (fun own=>decide (Ch xs (Bp full own)=P.map fun i=>xs.getD i.toNat [])) m3 more lo part).getD part) ap' np' cp'):=by
 generalize br:(fun own=>decide (Ch xs (Bp full own)=P.map fun i=>xs.getD i.toNat []))=ok;have bg:=hF.len;intro more;induction more with
 | zero =>
  intro lo B part w ap np cp ag bq bp ak d;have a5:(Bp full part).length=part.length:=by simp [Bp]
  have a4:=d.grow.len;have ai:=Zl (full:=full) (own:=part) (by rw [bg];exact ak);have bt:ok part=decide (Ch xs (Bp full part)=P.map fun i=>xs.getD i.toNat []):=by rw [<- br]
  have bh:∀ z,AD w z->Dq 238 [.slice a n c,.slice b2 m2 d2,.slice ap np cp] z (fun v w'=>v = .bool (ok part)/\AD z w'):=fun z af=>by
   rw [bt];exact Qx (h.ext (xt d.ext af)) hn2 ((d.grow.own.arr AX).ext af) om (fun p j=>hlm p (ai p j)) (fun x al=>⟨(hx x al).1,(hx x al).2.1,fun p j=>(hx x al).2.2 p (ai p j)⟩) (hP.ext (xt d.ext af)) hPx (by rw [L0 _ _ (fun p j=>hlm p (ai p j)),hPl])
  have a0:D9 ok m3 0 lo part=if ok part=true then some part else none:=rfl
  have s:(D9 ok m3 0 lo part).isSome=ok part:=by rw [a0];cases ok part<;>rfl
  have bl:(D9 ok m3 0 lo part).getD part=part:=by rw [a0];cases ok part<;>rfl
  rw [s,bl];have f:=d.blk;refine oV Tryz.func169 ?_;refine dH (pB [0,2,4,6,8,10,12,14,17,19,21,23,25,27]) ?_;intro cm g;refine dL f.cells (k:=0) rfl ?_;refine dL f.cells (k:=1) rfl ?_;refine jL (f.ext g).cells (k:=3) rfl ?_;refine ⟨g,?_⟩;refine (bh _ g).mono ?_;rintro _ cn ⟨rfl,r⟩;refine ⟨(xt g r),?_⟩;exact ⟨rfl,ap,np,cp,xt d.ext (xt g r),d.blk.ext (xt g r),d.grow.ext (xt g r),d.ne,by have:=d.big;have:=(xt g r).size;omega⟩
 | succ more bz =>
  intro lo B part w ap np cp ag bq bp ak d;have ag:w0.heap.size<=B:=om
  have a5:(Bp full part).length=part.length:=by simp [Bp]
  refine oV Tryz.func169 ?_;have bi:D9 ok m3 (more+1) lo part=(List.range' lo (m3 - more - lo)).findSome? fun i=>D9 ok m3 more (i+1) (part++[i]):=rfl;refine lR [0,2,7] (fun (i:Nat) b6 w'=>∃ ap np cp,b6=[.pointer (some ⟨b,0,none⟩),.int .i64 ((more+1:Nat):Int),.int .i64 i]/\lo<=i/\i<=lo+m3/\FSz w0 w' b B a b2 b3 n c m2 d2 m3 d3 full part ap np cp/\D9 ok m3 (more+1) lo part=(List.range' i (m3 - more - i)).findSome? fun i=>D9 ok m3 more (i+1) (part++[i])) (fun i=>lo+m3+1 - i) lo ⟨_,_,_,rfl,om,om,d,bi⟩ ?_;rintro i b' _ ci ⟨ap,np,cp,rfl,ce,cf,d,s⟩;have ca:=d.big;have a4:=d.grow.len;rw [a5] at a4;have cd:=d.grow.le.1;have f:=d.blk;rcases Nat.lt_or_ge (i+more) m3 with bn | bn
  .obtain ⟨p,j⟩:=AA (l:=full) (k:=i) om;have t:=Wf (ok:=ok) (part:=part) (show i+(more+1)<=m3 by omega);rw [<- s] at t;have a6:=Xr full part j;refine jP (((i+(more+1):Nat):Int)) ?_;refine jL f.cells (k:=2) rfl ?_;refine iY ?_;refine jL f.cells (k:=3) rfl ?_;refine H6 [16] A8 mixed ap (pZ [0,5,10,15,25,30,35,45,21,41,50,56,62,67,70,75,83]) kR kR ?_;intro an q;have aj:¬ AN ap b:=fun ⟨x,hx,ah⟩=>d.ne x hx ah.symm;have ay:∀ u,AN ap u->B<=u:=fun u ⟨x,hx,a2⟩=>by have:=d.grow.new x hx;omega
   have aq:AD w0 an:=xt d.ext q;have co:=q.size;have cc:=f.lt;have ao:∀ w',Sr ap an w'->AK w' b 0 [.slice a n c,.slice b2 m2 d2,.slice b3 m3 d3,.slice ap np cp]:=Sr.cells (f.ext q).cells aj;refine C9 kR (k:=3) ao rfl ?_;refine C9 kR (k:=2) ao rfl ?_;refine pI (hF.ext aq) i rfl j ?_;intro av of bj bk;have cb:av<w0.heap.size:=hF.lt (by intro x;simp [Ag.enc]) om _ bj;have bb:∀ w',Sr ap an w'->AK w' av (of+i * 2) p.enc:=Sr.cells bk (fun h=>by have:=ay _ h;omega);refine Ba (n:=2) kR bb rfl ?_;refine AB.buildSlice EG (vs:=[Value.agg ⟨p.enc⟩]) (by rfl) (by rfl) (by simp [Value.cells,Ag.enc]) dE ?_;intro b8 cj bf cg o a8;have bd:=AG (n:=1) (enc:=Ag.enc) (xs:=[p]) AX a8 bf rfl dE;have cq:=o.size;refine ⟨AU o,?_⟩;refine AM (enc:=Ag.enc) EG AX (d.grow.ext (xt q o)) (bd.own.arr AX) (by intro aa _;simp [Ag.enc,AE]) om om om ?_;intro ac aw b7 ar y bx;have cr:=y.size;rw [<- a6] at ar;refine ⟨(AD.mod o).trans y,?_⟩;have a9:=(f.ext (xt q o)).mod y aj;refine jT a9 (k:=3) sI rfl ?_;intro a7 ad a';have cs:=ad.size;have a3:∀ x,ac=some x->x.block≠b:=fun x hx ah=>by
    rcases bx x.block ⟨x,hx,rfl⟩ with h | h
    .exact aj (ah▸h)
    .omega
   have bc:AD w0 b7:=xm (xt aq o) y (fun u a2=>by have:=ay u a2;omega);have be:FSz w0 a7 b B a b2 b3 n c m2 d2 m3 d3 full (part++[i]) ac (np+1) aw :=
    ⟨xb bc ad.but hb,a',ar.mod ad.but (fun aa am h=>a3 aa am h),a3,om⟩
   have bu:=bz (i+1) B (part++[i]) a7 ac (np+1) aw (.inr ag) om (by rw [List.length_append,List.length_singleton];omega) (fun b0 bo=>by
    rcases List.mem_append.1 bo with h | h
    .exact ak b0 h
    .rw [List.mem_singleton] at h;omega) be
   refine jP ((i+1:Nat):Int) ?_;refine AB.sub ((more:Nat):Int) om om om ?_;refine bu.mono ?_;rintro _ ck ⟨rfl,au,b5,ax,e⟩;cases a1:D9 ok m3 more (i+1) (part++[i]) with
   | some ch =>
    rw [a1] at t e;(conv=>whnf);rw [t];exact ⟨rfl,au,b5,ax,e⟩
   | none =>
    rw [a1] at t e;simp only [Option.getD_none] at e;have ab:=e.blk;refine jL ab.cells (k:=3) rfl ?_;(conv=>whnf);have b1:=e.grow.len;have b4:(Bp full (part++[i])).length=part.length+1:=by simp [Bp]
    rw [b4] at b1;have b9:=e.grow.le.1;refine HP (k' := .i64) kR (e.grow.own.arr AX) np om om (.inr (by rfl)) ?_;intro _;(conv=>whnf);have az:=e.grow.cut AX (k:=np) om;have bv:(Bp full (part++[i])).take np=Bp full part:=by
     rw [a6,List.take_left' om]
    rw [bv] at az;refine jT ab (k:=3) sI rfl ?_;intro cl ae ba;have ct:=ae.size;have cu:=ab.lt;refine jP ((i+1:Nat):Int) ?_;have:=e.big;exact ⟨i+1,om,au,np,ax,rfl,om,om,⟨xb e.ext ae.but hb,ba,az.mod ae.but (fun aa am h=>e.ne aa am h),e.ne,om⟩,t⟩
  .have bw:m3 - more - i=0:=om
   rw [bw] at s;have bm:D9 ok m3 (more+1) lo part=none:=s;rw [bm];refine jP (((i+(more+1):Nat):Int)) ?_;refine jL f.cells (k:=2) rfl ?_;refine iN ?_;exact ⟨rfl,ap,np,cp,d⟩
theorem Lz {w:World} (h:Ar Aa w a n xs) {f:AF} (hfo:f.ok) :
  Dq 102 [.slice a n c,.agg ⟨f.enc⟩] w (fun v w'=>∃ a' m c',v = .tuple #[.slice a' m c',.int .i64 (Fq xs f).2]/\A4 Ag.enc 2 w' a' m (Fq xs f).1/\AD w w'):=by
 have cp:=h.len;have ax:∀ e,AD w e->Dq 166 [.slice a n c,.agg ⟨f.enc⟩] e (fun v w'=>∃ a' bx c',v = .tuple #[.slice a' bx c',.int .i64 (Bn xs f).2]/\Ad e.heap.size a'/\Bw eS w' a' bx 9 ((Bn xs f).1.map Cd)/\AD e w'):=fun e a9=>El (h.ext a9) f;by_cases a0:(Bn xs f).2=0
 .obtain ⟨ay,ah,bq,ap⟩:=NP a0;rw [ap] at ax;have bp:=Ah ay;have da:=bp.1;have de:=EU ay;have db:=BV ah;by_cases bj:4<f.to_ - f.from_
  .have l:Fq xs f=([],5):=by simp [Fq,a0,bj]
   rw [l];refine oV Tryz.func102 ?_;refine AB.box ?_;intro cd cy cg cr am r;refine jA (n:=2) r.cells rfl ?_;refine (ax _ am).mono ?_;rintro _ b0 ⟨bf,cs,bh,rfl,ca,a4,z⟩;refine jL (r.ext z).cells (k:=1) rfl ?_;refine jL (r.ext z).cells (k:=0) rfl ?_;refine AB.sub _ rfl om om ?_;refine iY ?_;refine ⟨_,_,_,rfl,?_,(xt am z)⟩
   .exact A4.nil
  .have l:Fq xs f=(Bp (Bt f) (Mi xs f (2 ^ (Bt f).length)).1,0):=by simp [Fq,a0,bj]
   rw [l];have bb:∀ e,Dq 168 [.agg ⟨f.enc⟩] e (fun v w'=>∃ a n c,v = .slice a n c/\Ad e.heap.size a/\Bw Ag.enc w' a n 193 (Bt f)/\AD e w'):=fun e=>TL (by simp only [AR,Bool.and_eq_true,decide_eq_true_eq] at ah ⊢;omega) e;refine oV Tryz.func102 ?_;refine AB.box ?_;intro cd cy cg cr am r;refine jA (n:=2) r.cells rfl ?_;refine (ax _ am).mono ?_;rintro _ b0 ⟨bf,cs,bh,rfl,ca,a4,z⟩;refine jL (r.ext z).cells (k:=1) rfl ?_;refine jL (r.ext z).cells (k:=0) rfl ?_;refine AB.sub _ rfl om om ?_;refine iN ?_;(conv=>whnf);have aa:=xt am z;have bt:=(a4.arr AQ).len;rw [List.length_map,List.length_map,cp] at bt;subst bt;have bm:∀ e,AD b0 e->Dq 167 [.slice bf n bh] e (fun v w'=>∃ a' c',v = .slice a' n c'/\Ad e.heap.size a'/\Bw eI w' a' n 2 (Dj (xs.map (AS f)) (CF f))/\AD e w'):=fun e a9=>Jp ((a4.ext a9).arr AQ) (HO ay ah bq) (by unfold CF;omega) om;refine Dn [] A8 mixed none (.seq (pZ [0,5,16]) (.alt 2 (.alt 4 (.seq (pZ [27,32,37,40]) .done) 5 (.seq (pZ [22,32,37,40]) .done)) 5 (.seq (pZ [12,22,32,37,40]) .done))) kR kR ?_;intro a2 ag;have ct:∀ bd,¬ AN none bd:=fun bd ab=>by obtain ⟨a3,af,_⟩:=ab;cases af
   refine Ba (n:=2) kR (Sr.cells (r.ext (xt z ag)).cells (ct _)) rfl ?_;refine DX.mk ?_ ?_
   focus
    refine (bm _ ag).mono ?_;rintro _ b1 ⟨av,aw,rfl,b',ad,j⟩;refine ⟨AU j,?_⟩;refine DX.mk ?_ ?_
    focus
     refine (bb _).mono ?_;rintro _ q ⟨ak,a1,al,rfl,be,x,i⟩;refine ⟨AU (xt j i),?_⟩;refine bS EG (vs:=[]) ?_;intro ae aq an bw g s;have t:=Ab (enc:=Ag.enc) AX s an;refine ⟨AU (xt (xt j i) g),?_⟩;have a5:=(ad.arr AI).ext (xt i g);have au:=(x.arr AX).ext g;have u:=t;have ac:AD a2 aq:=xt (xt j i) g;generalize q.heap.size=aj at u;have ar:AD w aq:=xt (xt aa ag) ac;clear t ad x s;generalize ao:aq=p at *;clear ao
    rotate_left
    focus
     refine bS EG (vs:=[]) ?_;intro ae aq an bw g s;have t:=Ab (enc:=Ag.enc) AX s an;refine ⟨AU (xt j g),?_⟩;refine (bb _).mono ?_;rintro _ q ⟨ak,a1,al,rfl,be,x,i⟩;refine ⟨AU (xt (xt j g) i),?_⟩;have a5:=(ad.arr AI).ext (xt g i);have au:=x.arr AX;have u:=t.ext i;have ac:AD a2 q:=xt (xt j g) i;generalize b1.heap.size=aj at u;have ar:AD w q:=xt (xt aa ag) ac;clear t ad x s;generalize ao:q=p at *;clear ao
   rotate_left 2
   focus
    refine bS EG (vs:=[]) ?_;intro ae aq an bw g s;have t:=Ab (enc:=Ag.enc) AX s an;refine ⟨AU g,?_⟩;refine (bm _ (xt ag g)).mono ?_;rintro _ b1 ⟨av,aw,rfl,b',ad,j⟩;refine ⟨AU (xt g j),?_⟩;refine (bb _).mono ?_;rintro _ q ⟨ak,a1,al,rfl,be,x,i⟩;refine ⟨AU (xt (xt g j) i),?_⟩;have a5:=(ad.arr AI).ext i;have au:=x.arr AX;have u:=t.ext (xt j i);have ac:AD a2 q:=xt (xt g j) i;generalize a2.heap.size=aj at u;have ar:AD w q:=xt (xt aa ag) ac;clear t ad x s;generalize ao:q=p at *;clear ao
   all_goals
    refine AB.build aB9 rfl ?_;refine ⟨AU ac,?_⟩;refine AB.box ?_;intro y b2 c9 dk aa b7;have dt:=aa.size;refine ⟨AU (xt ac aa),?_⟩;have bk:=u.new _ rfl;have az:=u.lt _ rfl;have b9:FSz p b2 y aj a av ak n c n aw a1 al (Bt f) [] (some ⟨ae,0,none⟩) 0 0:=⟨aa,b7,by simpa [Bp] using u.ext aa,(fun a3 af l=>by cases af;have l:ae=y:=l;have az:ae<p.heap.size:=az;omega),by have az:ae<p.heap.size:=az;have bk:aj<=ae:=bk;omega⟩;refine lR [0,8,9] (fun (d:Nat) cw w'=>∃ ai a6 a8,cw=[.slice a n c,.pointer (some ⟨y,0,none⟩),.int .i64 d]/\d<=(Bt f).length/\(∀ m,m<d->D9 (fun own=>decide (Ch xs (Bp (Bt f) own)=KR xs f)) (Bt f).length m 0 []=none)/\(d=0\/p.heap.size<=ai)/\FSz p w' y ai a av ak n c n aw a1 al (Bt f) [] a6 0 a8) (fun d=>(Bt f).length - d) 0 ⟨aj,_,_,rfl,Nat.zero_le _,fun m br=>absurd br om,.inl rfl,b9⟩ ?_;rintro d c7 _ bz ⟨ai,a6,a8,rfl,ap,bu,ci,cb⟩;have co:=au.len;subst co;have cn:=QP f;have dc:(Bt f).length<=8:=by unfold CF at cn;omega
    have bv:=LR (xs.map (AS f)) (CF f);rw [List.length_map] at bv;have bl:=Xj (w0:=p) (b:=y) om (h.ext ar) om au om (fun cv bc=>(O6 ah bc).2.2) (fun a3 af=>by
     have bo:=bp.2 a3 af;have bn:=Br bo.1;exact ⟨bn.2.1,bn.2.2,fun cv bc=>by
      have:=O6 ah bc;rw [bo.2];exact ⟨this.1,this.2.1⟩⟩) a5 (fun df cj=>by
     obtain ⟨dh,cl⟩:=List.getElem?_of_mem cj;obtain ⟨dg,rfl,ck⟩:=NB cl;exact ⟨om,by simpa using ck⟩) bv d 0 ai [] bz a6 0 a8 ci om (by simp;omega) sI cb
    change Ev _ _ _ _ (fun v w'=>v = .bool (D9 (fun own=>decide (Ch xs (Bp (Bt f) own)=KR xs f)) (Bt f).length d 0 []).isSome/\∃ cc cu ce,FSz p w' y ai a av ak n c n aw (Bt f).length al (Bt f) ((D9 (fun own=>decide (Ch xs (Bp (Bt f) own)=KR xs f)) (Bt f).length d 0 []).getD []) cc cu ce) at bl;refine bl.mono ?_;rintro _ cx ⟨rfl,c3,dm,c6,o⟩;cases ab:D9 (fun own=>decide (Ch xs (Bp (Bt f) own)=KR xs f)) (Bt f).length d 0 [] with
    | some bd =>
     rw [ab] at o;refine jL o.blk.cells (k:=3) rfl ?_;refine ⟨_,_,_,rfl,?_,xt ar o.ext⟩;rw [X4 ab bu];exact o.grow.own.arr AX
    | none =>
     rw [ab] at o;have dd:d<(Bt f).length:=by
      rcases Nat.lt_or_ge d (Bt f).length with h | h
      .exact h
      .have:=X3 ay ah bq;have cm:d=(Bt f).length:=om
       rw [cm] at ab;exact absurd ab this
     refine bS EG (vs:=[]) ?_;intro bg dn ch dj ba b5;have b8:=Ab (enc:=Ag.enc) AX b5 ch;have b4:=o.blk.ext ba;refine jT b4 (k:=3) sI rfl ?_;intro dp a7 b6;have dr:=ba.size;have ds:=a7.size;have cz:=o.ext.size;have du:=o.blk.lt;refine jP ((d+1:Nat):Int) ?_;refine ⟨d+1,om,cx.heap.size,_,0,rfl,om,fun m br=>?_,.inr cz,⟨xb (xt o.ext ba) a7.but om,b6,by simpa [Bp] using b8.mod a7.but (fun dq cq ap=>by cases cq;have ap:bg=y:=ap;omega),(fun a3 af l=>by cases af;have l:bg=y:=l;omega),om⟩⟩;rcases Nat.lt_or_ge m d with h | h
     .exact bu m h
     .have:m=d:=om
      rw [this];exact ab
 .have l:Fq xs f=([],(Bn xs f).2):=by simp [Fq,a0]
  rw [l];refine oV Tryz.func102 ?_;refine AB.box ?_;intro c4 bz c8 di bi b3;refine jA (n:=2) b3.cells rfl ?_;refine (ax _ bi).mono ?_;rintro _ b2 ⟨c2,dl,c5,rfl,c0,c1,cf⟩;refine iT ?_;refine ⟨_,_,_,rfl,?_,(xt bi cf)⟩
  .exact A4.nil
end Go.Proofs.YtalgenmoljcnmaaGreatDoor
