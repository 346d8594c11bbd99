/- A region that draws its order, in which several operations write to old memory, walked by a plan; with the premises that the theorem names. -/
import Derived.Test.YthadkoinmohmlaaGreatDoorVcCore
import Derived.Test.YthadkoinmohmlaaGreatDoorVcApp
import Derived.Test.YthadkoinmohmlaaGreatDoorBasics
import Derived.Test.YthadkoinmohmlaaGreatDoorModel
namespace Go.Vc
open Go Go.RowKit
def upHit (ops:Array Oper) (i:Nat) (r:List Nat) (t:Nat):Bool:=match ops[t]? with | some o=>o.after.any fun e=>Region.binds .any e && (e.on == i || r.contains e.on) | none=>false
def upF (ops:Array Oper) (i:Nat):Nat→List Nat
  | 0=>[]
  | t+1=>if upHit ops i (upF ops i t) t then t :: upF ops i t else upF ops i t
theorem upF_step {ops:Array Oper} {i t j:Nat} (h:j∈upF ops i (t+1)):j∈upF ops i t∨(j=t∧∃ o,ops[t]? = some o∧∃ e∈o.after,Region.binds .any e=true∧(e.on=i∨e.on∈upF ops i t)):=by
  unfold upF at h;split at h
  · rename_i hc;rcases List.mem_cons.1 h with rfl | h
    · right;refine ⟨rfl,?_⟩;unfold upHit at hc;split at hc
      · rename_i o ho;rw [Array.any_eq_true'] at hc;obtain ⟨e,he,hb⟩:=hc;simp only [Bool.and_eq_true,Bool.or_eq_true,beq_iff_eq,List.contains_iff_mem] at hb;exact ⟨o,ho,e,he,hb.1,hb.2⟩
      · cases hc
    · exact .inl h
  · exact .inl h
theorem upF_listed {ops:Array Oper} {listed:Array Bool} (hc:closed ops listed) {i:Nat}:∀ (t j:Nat),j∈upF ops i t→listed.getD j true=true→listed.getD i false=true
  | 0,j,h,_=>by cases h
  | t+1,j,h,hj=>by
    rcases upF_step h with h | ⟨rfl,o,ho,e,he,hb,h⟩
    · exact upF_listed hc t j h hj
    · have h1:=hc _ o ho hj e he hb;rcases h with rfl | h
      · exact h1
      · exact upF_listed hc _ e.on h (getD_ff h1)
theorem upF_ready {ops:Array Oper} {listed:Array Bool} (hc:closed ops listed) {i:Nat}:∀ (t j:Nat),j∈upF ops i t→j∈Region.ready .any ops listed→listed.getD i false=true
  | 0,j,h,_=>by cases h
  | t+1,j,h,hj=>by
    rcases upF_step h with h | ⟨rfl,o,ho,e,he,hb,h⟩
    · exact upF_ready hc t j h hj
    · obtain ⟨_,o',ho',hall⟩:=mem_ready.1 hj;rw [ho] at ho';cases ho'
      have h1:=hall e he hb;rcases h with rfl | h
      · exact h1
      · exact upF_listed hc _ e.on h (getD_ff h1)
section
variable {P:Program} {ops:Array Oper} {Q:Exit→Act→World→Prop} {md:Region.Mode} {S:World→Prop} {W:Nat→Bool}
def wpAnyW (P:Program) (md:Region.Mode) (ops:Array Oper) (W:Nat→Bool) (Q:Exit→Act→World→Prop) (S:World→Prop):Nat→Array Bool→Act→World→Prop
  | 0,listed,a,w=>Region.ready md ops listed=[]∧Q .normal a w
  | k+1,listed,a,w =>
    (Region.ready md ops listed=[]→Q .normal a w) ∧
    ∀ i∈Region.ready md ops listed,wpOp P ops Q i (fun a' w'=>(S w→W i=false→S w')∧wpAnyW P md ops W Q S k (listed.setIfInBounds i true) a' w') a w
theorem wpAnyW_any:∀ (k:Nat) (listed:Array Bool) (a:Act) (w:World),wpAnyW P md ops W Q S k listed a w→wpAny P md ops Q k listed a w
  | 0,_,_,_,h=>h
  | k+1,_,_,_,h=>⟨h.1,fun i hi=>wpOp_mono (fun a' w' h'=>wpAnyW_any k _ a' w' h'.2) (h.2 i hi)⟩
theorem wpAnyW_first {T:World→Prop} {i:Nat} {oi:Oper} {v:Value} (hi:ops[i]? = some oi) (hsel:∀ (j:Nat) (o:Oper) cs b,ops[j]? = some o→o.op≠.select cs b)
    (hT:∀ (j:Nat) (oj:Oper),ops[j]? = some oj→j≠i→j∉upF ops i ops.size→∀ w w',(S w→W j=false→S w')→T w→T w')
    (hQ:∀ c a w,Q (.panic c) (a.put oi.dst v) w→Q (.panic c) a w) :
    ∀ (k:Nat) (listed:Array Bool) (a:Act) (w:World),closed ops listed →
      (∀ j oj,ops[j]? = some oj→j≠i→listed.getD j true=false→(∀ e∈oj.after,Region.binds .any e=true→e.on≠i)→oi.apart ops oj=true) →
      i∈Region.ready .any ops listed→YieldsIf P ops T oi v a→T w →
      wpAnyW P .any ops W Q S k (listed.setIfInBounds i true) (a.put oi.dst v) w→wpAnyW P .any ops W Q S (k+1) listed a w:=by
  intro k;induction k with
  | zero =>
    intro listed a w _ _ hr hy hS H;refine ⟨fun h=>(by rw [h] at hr;cases hr),fun j hj=>?_⟩;rcases Decidable.em (j=i) with rfl | hji
    · exact hy.wpOp hi hS ⟨fun h _=>h,H⟩
    · have:=ready_mono hj hji;rw [H.1] at this;cases this
  | succ k ih =>
    intro listed a w hcl hfree hr hy hS H;refine ⟨fun h=>(by rw [h] at hr;cases hr),fun j hj=>?_⟩;rcases Decidable.em (j=i) with rfl | hji
    · exact hy.wpOp hi hS ⟨fun h _=>h,H⟩
    · obtain ⟨hjun,oj,hoj,hall⟩:=mem_ready.1 hj;have hun:∀ {b:Bool},listed.getD i false=true→listed.getD i true=false→b=true:=fun h1 h0=>by
        rcases Nat.lt_or_ge i listed.size with h' | h'
        · simp [h'] at h0 h1;rw [h0] at h1;cases h1
        · simp [Array.getElem?_eq_none h'] at h1
      have hnot:∀ e∈oj.after,Region.binds .any e=true→e.on≠i:=fun e he hb heq=>by
        have h1:=hall e he hb;rw [heq] at h1;exact absurd (hun (b:=false) h1 (mem_ready.1 hr).1) (by simp)
      have hnup:j∉upF ops i ops.size:=fun hu=>absurd (hun (b:=false) (upF_ready hcl _ j hu hj) (mem_ready.1 hr).1) (by simp);have h2:=wpOp_putIf hoj (hfree j oj hoj hji hjun hnot) (fun cs b=>hsel i oi cs b hi) (fun cs b=>hsel j oj cs b hoj) hQ hy (H.2 j (ready_mono hj hji));refine wpOp_mono (fun a' w' h3=>?_) h2;have hS':T w':=hT j oj hoj hji hnup w w' h3.2.1 hS;refine ⟨h3.2.1,ih _ a' w' (closed_set hcl hj) (fun k ok hk hki hun hno=>?_) (ready_mono hr (Ne.symm hji)) h3.1 hS' ?_⟩
      · refine hfree k ok hk hki ?_ hno;rcases Decidable.em (j=k) with rfl | hjk
        · exact hjun
        · rw [getD_set_ne true hjk] at hun;exact hun
      · rw [Array.setIfInBounds_comm _ _ hji];exact h3.2.2
theorem wpAnyW_done {listed:Array Bool} {a:Act} {w:World} (hr:Region.ready md ops listed=[]) (h:Q .normal a w) :
    ∀ k,wpAnyW P md ops W Q S k listed a w
  | 0=>⟨hr,h⟩
  | _+1=>⟨fun _=>h,by rw [hr];simp⟩
end
@[irreducible] def PSemK (P:Program) (s:Sem Value) (K:Value→Prop):Prop:=∃ v,(∀ w',s.run P w' = .ok v w')∧K v
theorem PSemK.of {P:Program} {s:Sem Value} {K:Value→Prop} {v:Value} (h:∀ w',SemK P s w' (fun u w''=>u=v∧w'=w'')) (hk:K v):PSemK P s K:=by
  unfold PSemK;refine ⟨v,fun w'=>?_,hk⟩;obtain ⟨u,w'',hr,rfl,rfl⟩:=(h w').out;exact hr
theorem PSemK.add {P:Program} {t:Nat} {X Y:Operand} {a b:Int} (r:Int) (hr:a+b=r) (h1 : -9223372036854775808≤r) (h2:r≤9223372036854775807) {K:Value→Prop} (hK:K (.int .i64 r)) :
    PSemK P (arith .add t X Y (.int .i64 a) (.int .i64 b)) K:=PSemK.of (fun _=>SemK.add r hr h1 h2 ⟨rfl,rfl⟩) hK
theorem PSemK.sub {P:Program} {t:Nat} {X Y:Operand} {a b:Int} (r:Int) (hr:a - b=r) (h1 : -9223372036854775808≤r) (h2:r≤9223372036854775807) {K:Value→Prop} (hK:K (.int .i64 r)) :
    PSemK P (arith .sub t X Y (.int .i64 a) (.int .i64 b)) K:=PSemK.of (fun _=>SemK.sub r hr h1 h2 ⟨rfl,rfl⟩) hK
theorem PSemK.indexOwn {P:Program} {sz t:Nat} (ht:elemSize P t=Option.some sz) {b o n c:Nat} {i:Int} (k:Nat) (hi:i=k) (hlt:k<n) {kd:IntKind}
    {K:Value→Prop} (hK:K (.pointer (Option.some ⟨b,o+k * sz,none⟩))):PSemK P (Instr.indexAt t (.slice (Option.some ⟨b,o,none⟩) n c) (.int kd i)) K :=
  PSemK.of (fun _=>SemK.indexOwn ht k hi hlt ⟨rfl,rfl⟩) hK
theorem PSemK.cat {P:Program} {t:Nat} {X Y:Operand} {a b:ByteArray} (hl:a.size+b.size≤9223372036854775807) {K:Value→Prop} (hK:K (.string (a++b))) :
    PSemK P (arith .add t X Y (.string a) (.string b)) K:=PSemK.of (fun _=>SemK.cat hl ⟨rfl,rfl⟩) hK
theorem PSemK.index {P:Program} {α:Type} {enc:α→List Value} {sz t:Nat} (ht:elemSize P t=some sz) {w:World} {a:Option Addr} {n c:Nat} {xs:List α} (h:Arr enc sz w a n xs) {i:Int} (k:Nat) (hi:i=k) {x:α} (hx:xs[k]? = some x) {kd:IntKind}
    {K:Value→Prop} (hK:∀ b o,a=some ⟨b,o,none⟩→Cells w b (o+k * sz) (enc x)→K (.pointer (some ⟨b,o+k * sz,none⟩))):PSemK P (Instr.indexAt t (.slice a n c) (.int kd i)) K:=by
  obtain ⟨b,o,ha,hc⟩:=h.2.2 k x hx;subst ha;have hlt:k<n:=by rw [← h.1];exact (List.getElem?_eq_some_iff.1 hx).1
  exact PSemK.indexOwn ht k hi hlt (hK b o rfl hc)
def pOne (P:Program) (T:Tab) (o:Oper) (f:Fr) (K:Fr→Prop):Prop :=
  match o.op with
  | .indexAddr t x i=>PSemK P (Instr.indexAt t (ev f x) (ev f i)) (fun v=>putK o.dst f v K)
  | op=>match pureOp T f op with
    | some v=>force v fun v=>putK o.dst f v K
    | none=>match op with
      | .binOp op t x y _=>PSemK P (arith op t x y (ev f x) (ev f y)) (fun v=>putK o.dst f v K)
      | _=>False
theorem pOne_yields {P:Program} {T:Tab} (hT:T.fok P=true) {n:Nat} {all:Array Oper} {o:Oper} {f:Fr} {K:Fr→Prop} (hok:okOper n all o=true)
    (h:pOne P T o f K):∃ v,(∀ w',(execOp (act n f).eval o).run P w' = .ok (.value v) w')∧K (put f o.dst v):=by
  simp only [okOper,Bool.and_eq_true] at hok;have hok:=hok.1;have hin:=hok;rw [List.all_eq_true] at hin;unfold pOne at h;split at h
  · rename_i t x y ho;have hx:(act n f).eval x=ev f x:=ev_act (hin x (by simp [ho,Op.operands]));have hy:(act n f).eval y=ev f y:=ev_act (hin y (by simp [ho,Op.operands]));unfold PSemK at h;obtain ⟨v,hr,hk⟩:=h;rw [putK_iff] at hk;refine ⟨v,fun w'=>?_,hk⟩;have hr:=hr w';unfold execOp;simp only [ho,hx,hy];simp [hr]
  · split at h
    · rename_i v hv;rw [force_iff,putK_iff] at h;exact ⟨v,fun w'=>pureOp_run hT hok hv w',h⟩
    · split at h
      · rename_i op t x y yt ho;have hx:(act n f).eval x=ev f x:=ev_act (hin x (by simp [ho,Op.operands]));have hy:(act n f).eval y=ev f y:=ev_act (hin y (by simp [ho,Op.operands]));unfold PSemK at h;obtain ⟨v,hr,hk⟩:=h;rw [putK_iff] at hk;refine ⟨v,fun w'=>?_,hk⟩;have hr:=hr w';unfold execOp;simp only [ho,hx,hy];unfold arith at hr;simp only [Sem.run_bind] at hr ⊢;rw [hr];simp
      · exact h.elim
inductive Way
  | any | held | run | write | alone
def isWr:Op→Bool
  | .store ..=>true
  | .call { callee := .builtin .append,.. }=>true
  | _=>false
def writeAt (ops:Array Oper) (j:Nat):Bool:=match ops[j]? with | some o=>isWr o.op | none=>false
def waited (ops:Array Oper) (i:Nat):Bool:=(List.range ops.size).all fun j=>!writeAt ops j || (upF ops i ops.size).contains j
def planW (ops:Array Oper):List (Nat×Way)→Bool→Array Bool→Bool
  | [],_,listed=>(Region.ready .any ops listed).isEmpty
  | (i,.any) :: l,d,listed=>(Region.ready .any ops listed).contains i && Region.free .any ops listed i && planW ops l d (listed.setIfInBounds i true)
  | (i,.held) :: l,d,listed=>(Region.ready .any ops listed).contains i && Region.free .any ops listed i && !d && waited ops i && (match ops[i]? with | some o=>!isCallV o.op | none=>false) && planW ops l d (listed.setIfInBounds i true)
  | (i,.run) :: l,d,listed=>Region.ready .any ops listed == [i] && !d && planW ops l d (listed.setIfInBounds i true)
  | (i,.write) :: l,_,listed=>Region.ready .any ops listed == [i] && writeAt ops i && planW ops l true (listed.setIfInBounds i true)
  | (i,.alone) :: l,d,listed=>Region.ready .any ops listed == [i] && planW ops l d (listed.setIfInBounds i true)
def heldW (ops:Array Oper) (plan:List (Nat×Way)):Bool:=Region.noSelect ops && Nat.beq plan.length ops.size && planW ops plan false (Array.replicate ops.size false)
noncomputable def hOpsW (P:Program) (T:Tab) (n:Nat) (w0:World) (all:List Oper) (os:List (Oper×Way)):Fr→World→(Fr→World→Prop)→Prop :=
  List.rec (motive:=fun _=>Fr→World→(Fr→World→Prop)→Prop) (fun f w K=>K f w)
    (fun o _ ih f w K=>vcGuard all o.1 f
      (fun f=>match o.2 with
        | .any=>pOne P T o.1 f fun f=>ih f w K
        | .held=>dOne P T w0 o.1 f fun f=>ih f w K
        | .run=>vcOne P T n o.1 f w fun f w'=>Ext w0 w'∧ih f w' K
        | .write=>vcOne P T n o.1 f w fun f w'=>ih f w' K
        | .alone=>pOne P T o.1 f fun f=>ih f w K)
      (fun f=>putK o.1.dst f undef fun f=>ih f w K)) os
theorem hOpsW_cons (P:Program) (T:Tab) (n:Nat) (w0:World) (all:List Oper) (o:Oper×Way) (os:List (Oper×Way)) (f:Fr) (w:World) (K:Fr→World→Prop) :
    hOpsW P T n w0 all (o :: os) f w K=vcGuard all o.1 f
      (fun f=>match o.2 with
        | .any=>pOne P T o.1 f fun f=>hOpsW P T n w0 all os f w K
        | .held=>dOne P T w0 o.1 f fun f=>hOpsW P T n w0 all os f w K
        | .run=>vcOne P T n o.1 f w fun f w'=>Ext w0 w'∧hOpsW P T n w0 all os f w' K
        | .write=>vcOne P T n o.1 f w fun f w'=>hOpsW P T n w0 all os f w' K
        | .alone=>pOne P T o.1 f fun f=>hOpsW P T n w0 all os f w K)
      (fun f=>putK o.1.dst f undef fun f=>hOpsW P T n w0 all os f w K):=rfl
def selW (ops:List Oper) (l:List (Nat×Way)):List (Oper×Way):=l.filterMap fun i=>(ops[i.1]?).map fun o=>(o,i.2)
theorem hOpsW_sound {P:Program} {T:Tab} (hT:T.fok P=true) {n:Nat} {ops:Array Oper} (hok:okOps n ops=true) (hs:Region.noSelect ops=true) {w0:World} {Q:Exit→Act→World→Prop} (hQp:∀ c a w,¬ Q (.panic c) a w) {K:Fr→World→Prop} (hQ:∀ f w,K f w→Q .normal (act n f) w) :
    ∀ (plan:List (Nat×Way)) (d:Bool) (listed:Array Bool) (f:Fr) (w:World),closed ops listed→planW ops plan d listed=true→(d=false→Ext w0 w)→hOpsW P T n w0 ops.toList (selW ops.toList plan) f w K →
      wpAnyW P .any ops (writeAt ops) Q (fun w'=>Ext w0 w') plan.length listed (act n f) w
  | [],d,listed,f,w,_,hB,_,h=>by
    simp only [planW,List.isEmpty_iff] at hB;exact wpAnyW_done hB (hQ f w h) _
  | (i,s) :: l,d,listed,f,w,hcl,hB,hw,h=>by
    have hrd:i∈Region.ready .any ops listed:=by
      cases s<;>simp only [planW,Bool.and_eq_true] at hB
      · simpa using hB.1.1
      · simpa using hB.1.1.1.1.1
      · have:=hB.1.1;simp only [beq_iff_eq] at this;rw [this];simp
      · have:=hB.1.1;simp only [beq_iff_eq] at this;rw [this];simp
      · have:=hB.1;simp only [beq_iff_eq] at this;rw [this];simp
    obtain ⟨_,o,h0,_⟩:=mem_ready.1 hrd;have h0':ops.toList[i]? = some o:=by simpa using h0
    have hoki:okOper n ops o=true:=by
      unfold okOps at hok;rw [List.all_eq_true] at hok;exact hok _ (List.mem_of_getElem? h0')
    have hsel:selW ops.toList ((i,s) :: l)=(o,s) :: selW ops.toList l:=by
      unfold selW;rw [List.filterMap_cons_some (b:=(o,s)) (by simp [h0'])]
    rw [hsel,hOpsW_cons] at h;have hg:=vcGuard_sound hoki h;have ih:=fun (d:Bool) (hB':planW ops l d (listed.setIfInBounds i true)=true) (f:Fr) (w:World) (hw:d=false→Ext w0 w) (h:hOpsW P T n w0 ops.toList (selW ops.toList l) f w K)=>hOpsW_sound hT hok hs hQp hQ l d (listed.setIfInBounds i true) f w (closed_set hcl hrd) hB' hw h;have take:∀ {d':Bool} {U:World→Prop} (v:Value),Region.free .any ops listed i=true→planW ops l d' (listed.setIfInBounds i true)=true→(d'=false→Ext w0 w) →
        (∀ (j:Nat) (oj:Oper),ops[j]? = some oj→j≠i→j∉upF ops i ops.size→∀ w w',(Ext w0 w→writeAt ops j=false→Ext w0 w')→U w→U w')→U w →
        (Region.wanted o (yielded ops (act n f).tmps)=true→∀ w',U w'→(execOp (act n f).eval o).run P w' = .ok (.value v) w')→(Region.wanted o (yielded ops (act n f).tmps)=false→v=undef) →
        hOpsW P T n w0 ops.toList (selW ops.toList l) (put f o.dst v) w K→wpAnyW P .any ops (writeAt ops) Q (fun w'=>Ext w0 w') (l.length+1) listed (act n f) w:=by
      intro d' U v hf hB' hd hU hUw hv hv2 hk;have hy:YieldsIf P ops U o v (act n f):=by
        cases hwn:Region.wanted o (yielded ops (act n f).tmps) with
        | true=>exact .inl ⟨hwn,hv hwn⟩
        | false=>exact .inr ⟨hwn,hv2 hwn⟩
      refine wpAnyW_first h0 (Region.noSelect_spec hs) hU (fun c a w hq=>(hQp _ _ _ hq).elim) l.length listed (act n f) w hcl (Region.free_spec h0 hf) hrd hy hUw ?_;rw [act_puto];exact ih d' hB' _ _ hd hk
    have alone:Region.ready .any ops listed=[i]→wpOp P ops Q i (fun a' w'=>(Ext w0 w→writeAt ops i=false→Ext w0 w')∧wpAnyW P .any ops (writeAt ops) Q (fun w'=>Ext w0 w') l.length (listed.setIfInBounds i true) a' w') (act n f) w →
        wpAnyW P .any ops (writeAt ops) Q (fun w'=>Ext w0 w') (l.length+1) listed (act n f) w:=by
      intro hr hop;refine ⟨fun h0=>(by rw [hr] at h0;cases h0),fun j hj=>?_⟩;rw [hr] at hj;simp only [List.mem_singleton] at hj;subst hj;exact hop
    cases s with
    | any =>
      simp only [planW,Bool.and_eq_true] at hB;obtain ⟨⟨hr,hf⟩,hB'⟩:=hB;split at hg
      · rename_i hwn;obtain ⟨v,hv,hk⟩:=pOne_yields hT hoki hg;exact take (U:=fun _=>True) v hf hB' hw (fun _ _ _ _ _ _ _ _ _=>trivial) trivial (fun _ w' _=>hv w') (fun hf=>by rw [hwn] at hf;cases hf) hk
      · rename_i hwn;rw [putK_iff] at hg;exact take (U:=fun _=>True) undef hf hB' hw (fun _ _ _ _ _ _ _ _ _=>trivial) trivial (fun ht=>absurd ht hwn) (fun _=>rfl) hg
    | held =>
      simp only [planW,Bool.and_eq_true,h0,Bool.not_eq_true'] at hB;obtain ⟨⟨⟨⟨⟨hr,hf⟩,hd⟩,hwt⟩,hnc⟩,hB'⟩:=hB;have hU:∀ (j:Nat) (oj:Oper),ops[j]? = some oj→j≠i→j∉upF ops i ops.size→∀ w w',(Ext w0 w→writeAt ops j=false→Ext w0 w')→Ext w0 w→Ext w0 w':=by
        intro j oj hj hji hno w w' hS hw;refine hS hw ?_;unfold waited at hwt;rw [List.all_eq_true] at hwt;have:=hwt j (List.mem_range.2 (Array.getElem?_eq_some_iff.1 hj).1);simp only [Bool.or_eq_true,Bool.not_eq_true',List.contains_iff_mem] at this;rcases this with h | h
        · exact h
        · exact absurd h hno
      split at hg
      · rename_i hwn;obtain ⟨v,hv,hk⟩:=dOne_yields hT hoki hnc hg;exact take (U:=fun w'=>Ext w0 w') v hf hB' hw hU (hw hd) (fun _=>hv) (fun hf=>by rw [hwn] at hf;cases hf) hk
      · rename_i hwn;rw [putK_iff] at hg;exact take (U:=fun w'=>Ext w0 w') undef hf hB' hw hU (hw hd) (fun ht=>absurd ht hwn) (fun _=>rfl) hg
    | run =>
      simp only [planW,Bool.and_eq_true,Bool.not_eq_true',beq_iff_eq] at hB;obtain ⟨⟨hr,hd⟩,hB'⟩:=hB;refine alone hr ?_;split at hg
      · rename_i hwn;unfold wpOp;simp only [h0,hwn,if_true];exact .inl (vcOne_sound hT hoki hg fun f w' hk=>⟨fun _ _=>hk.1,ih d hB' _ _ (fun _=>hk.1) hk.2⟩)
      · rename_i hwn;rw [putK_iff] at hg;have hy:YieldsIf P ops (fun _=>True) o undef (act n f) := .inr ⟨by simpa using hwn,rfl⟩;refine hy.wpOp h0 trivial ⟨fun h _=>h,?_⟩;rw [act_puto];exact ih d hB' _ _ hw hg
    | write =>
      simp only [planW,Bool.and_eq_true,beq_iff_eq] at hB;obtain ⟨⟨hr,hwr⟩,hB'⟩:=hB;refine alone hr ?_;split at hg
      · rename_i hwn;unfold wpOp;simp only [h0,hwn,if_true];exact .inl (vcOne_sound hT hoki hg fun f w' hk=>⟨fun _ h=>by rw [hwr] at h;(cases h),ih true hB' _ _ (fun h=>by cases h) hk⟩)
      · rename_i hwn;rw [putK_iff] at hg;have hy:YieldsIf P ops (fun _=>True) o undef (act n f) := .inr ⟨by simpa using hwn,rfl⟩;refine hy.wpOp h0 trivial ⟨fun h _=>h,?_⟩;rw [act_puto];exact ih true hB' _ _ (fun h=>by cases h) hg
    | alone =>
      simp only [planW,Bool.and_eq_true,beq_iff_eq] at hB;obtain ⟨hr,hB'⟩:=hB;refine alone hr ?_;split at hg
      · rename_i hwn;obtain ⟨v,hv,hk⟩:=pOne_yields hT hoki hg;have hy:YieldsIf P ops (fun _=>True) o v (act n f) := .inl ⟨hwn,fun w' _=>hv w'⟩;refine hy.wpOp h0 trivial ⟨fun h _=>h,?_⟩;rw [act_puto];exact ih d hB' _ _ hw hk
      · rename_i hwn;rw [putK_iff] at hg;have hy:YieldsIf P ops (fun _=>True) o undef (act n f) := .inr ⟨by simpa using hwn,rfl⟩;refine hy.wpOp h0 trivial ⟨fun h _=>h,?_⟩;rw [act_puto];exact ih d hB' _ _ hw hg
theorem DrawK.writes {P:Program} {T:Tab} (hT:T.fok P=true) (hm:P.follows .mixedOrders=true) {n:Nat} {ops:Array Oper} (plan:List (Nat×Way)) (hok:okOps n ops=true) (hB:heldW ops plan=true) {f:Fr} {w:World} {K:Fr→World→Prop}
    (h:∀ w1,Ext w w1→hOpsW P T n w ops.toList (selW ops.toList plan) f w1 K):DrawK P n ops f w K:=by
  unfold DrawK;intro id;simp only [heldW,Bool.and_eq_true] at hB;obtain ⟨⟨hs,hl⟩,hB⟩:=hB;refine wp_region_any hm (wpAnyW_any (W:=writeAt ops) (S:=fun w'=>Ext w w') _ _ _ _ ?_);have e1:Ext w { w with drawn:=w.drawn+1 }:=⟨rfl,rfl,rfl,Nat.le_refl _,fun _ _=>rfl⟩;have:=hOpsW_sound hT hok hs (Q:=lift n K (fun _ _ _=>False) (fun _ _=>False)) (fun c a w hq=>hq.elim) (fun f w hk=>⟨f,rfl,hk⟩) plan false _ f _ (closed_none ops) hB (fun _=>e1) (h _ e1);rw [Nat.eq_of_beq_eq_true hl] at this;exact this
@[irreducible] def BSemK (P:Program) (S:World→Prop) (s:Sem Value) (K:Value→Prop):Prop:=∃ v,(∀ w',S w'→s.run P w' = .ok v w')∧K v
theorem BSemK.of {P:Program} {S:World→Prop} {s:Sem Value} {K:Value→Prop} {v:Value} (h:∀ w',S w'→SemK P s w' (fun u w''=>u=v∧w'=w'')) (hk:K v):BSemK P S s K:=by
  unfold BSemK;refine ⟨v,fun w' hw=>?_,hk⟩;obtain ⟨u,w'',hr,rfl,rfl⟩:=(h w' hw).out;exact hr
theorem BSemK.load0 {P:Program} {S:World→Prop} {ty:Nat} (hty:oneCell P ty=true) {b o:Nat} {vs:List Value} (h:∀ w',S w'→Cells w' b o vs) {v:Value} (hk:vs[0]? = some v) {K:Value→Prop} (hK:K v) :
    BSemK P S (Instr.loadAt ty (.pointer (some ⟨b,o,none⟩))) K:=BSemK.of (fun w' hw=>SemK.load1 hty (k:=0) (h w' hw) hk ⟨rfl,rfl⟩) hK
theorem BSemK.loadAgg {P:Program} {S:World→Prop} {ty n:Nat} (hty:aggSize P ty=some n) {b o:Nat} {vs:List Value} (h:∀ w',S w'→Cells w' b o vs) (hn:vs.length=n) {K:Value→Prop} (hK:K (.agg vs.toArray)) :
    BSemK P S (Instr.loadAt ty (.pointer (some ⟨b,o,none⟩))) K:=BSemK.of (fun w' hw=>SemK.loadAgg hty (h w' hw) hn ⟨rfl,rfl⟩) hK
end Go.Vc
namespace Go.Vc
open Go Go.RowKit
noncomputable def hOpsM (P:Program) (T:Tab) (n:Nat) (S:World→Prop) (all:List Oper) (os:List (Oper×Way)):Fr→World→(Fr→World→Prop)→Prop :=
  List.rec (motive:=fun _=>Fr→World→(Fr→World→Prop)→Prop) (fun f w K=>K f w)
    (fun o _ ih f w K=>vcGuard all o.1 f
      (fun f=>match o.2 with
        | .any=>pOne P T o.1 f fun f=>ih f w K
        | .held=>match o.1.op with
          | .load t x=>BSemK P S (Instr.loadAt t (ev f x)) fun v=>putK o.1.dst f v fun f=>ih f w K
          | .index t x i=>BSemK P S (Instr.index t (ev f x) (ev f i)) fun v=>putK o.1.dst f v fun f=>ih f w K
          | .convert s t x=>BSemK P S (convert s t (ev f x)) fun v=>putK o.1.dst f v fun f=>ih f w K
          | .slice t x lo hi mx=>BSemK P S (Instr.sliceAt t (ev f x) (lo.map (ev f)) (hi.map (ev f)) (mx.map (ev f))) fun v=>putK o.1.dst f v fun f=>ih f w K
          | .build t ⟨ps⟩=>BSemK P S (Instr.build t (ps.map fun p=>(p.1,ev f p.2)).toArray) fun v=>putK o.1.dst f v fun f=>ih f w K
          | _=>False
        | .run=>vcOne P T n o.1 f w fun f w'=>S w'∧ih f w' K
        | .write=>vcOne P T n o.1 f w fun f w'=>ih f w' K
        | .alone=>pOne P T o.1 f fun f=>ih f w K)
      (fun f=>putK o.1.dst f undef fun f=>ih f w K)) os
theorem hOpsM_cons (P:Program) (T:Tab) (n:Nat) (S:World→Prop) (all:List Oper) (o:Oper×Way) (os:List (Oper×Way)) (f:Fr) (w:World) (K:Fr→World→Prop) :
    hOpsM P T n S all (o :: os) f w K=vcGuard all o.1 f
      (fun f=>match o.2 with
        | .any=>pOne P T o.1 f fun f=>hOpsM P T n S all os f w K
        | .held=>match o.1.op with
          | .load t x=>BSemK P S (Instr.loadAt t (ev f x)) fun v=>putK o.1.dst f v fun f=>hOpsM P T n S all os f w K
          | .index t x i=>BSemK P S (Instr.index t (ev f x) (ev f i)) fun v=>putK o.1.dst f v fun f=>hOpsM P T n S all os f w K
          | .convert s t x=>BSemK P S (convert s t (ev f x)) fun v=>putK o.1.dst f v fun f=>hOpsM P T n S all os f w K
          | .slice t x lo hi mx=>BSemK P S (Instr.sliceAt t (ev f x) (lo.map (ev f)) (hi.map (ev f)) (mx.map (ev f))) fun v=>putK o.1.dst f v fun f=>hOpsM P T n S all os f w K
          | .build t ⟨ps⟩=>BSemK P S (Instr.build t (ps.map fun p=>(p.1,ev f p.2)).toArray) fun v=>putK o.1.dst f v fun f=>hOpsM P T n S all os f w K
          | _=>False
        | .run=>vcOne P T n o.1 f w fun f w'=>S w'∧hOpsM P T n S all os f w' K
        | .write=>vcOne P T n o.1 f w fun f w'=>hOpsM P T n S all os f w' K
        | .alone=>pOne P T o.1 f fun f=>hOpsM P T n S all os f w K)
      (fun f=>putK o.1.dst f undef fun f=>hOpsM P T n S all os f w K):=rfl
def planE (ops:Array Oper) (fin:Bool→Array Bool→Bool):List (Nat×Way)→Bool→Array Bool→Bool
  | [],d,listed=>fin d listed
  | (i,.any) :: l,d,listed=>(Region.ready .any ops listed).contains i && Region.free .any ops listed i && planE ops fin l d (listed.setIfInBounds i true)
  | (i,.held) :: l,d,listed=>(Region.ready .any ops listed).contains i && Region.free .any ops listed i && !d && waited ops i && (match ops[i]? with | some o=>!isCallV o.op | none=>false) && planE ops fin l d (listed.setIfInBounds i true)
  | (i,.run) :: l,d,listed=>Region.ready .any ops listed == [i] && !d && planE ops fin l d (listed.setIfInBounds i true)
  | (i,.write) :: l,_,listed=>Region.ready .any ops listed == [i] && writeAt ops i && planE ops fin l true (listed.setIfInBounds i true)
  | (i,.alone) :: l,d,listed=>Region.ready .any ops listed == [i] && planE ops fin l d (listed.setIfInBounds i true)
theorem planE_W {ops:Array Oper}:∀ (l:List (Nat×Way)) (d:Bool) (listed:Array Bool),planW ops l d listed=planE ops (fun _ x=>(Region.ready .any ops x).isEmpty) l d listed
  | [],_,_=>rfl
  | (i,.any) :: l,d,listed=>by simp only [planW,planE,planE_W l]
  | (i,.held) :: l,d,listed=>by simp only [planW,planE,planE_W l]
  | (i,.run) :: l,d,listed=>by simp only [planW,planE,planE_W l]
  | (i,.write) :: l,d,listed=>by simp only [planW,planE,planE_W l]
  | (i,.alone) :: l,d,listed=>by simp only [planW,planE,planE_W l]
theorem hOpsM_soundE {P:Program} {T:Tab} (hT:T.fok P=true) {n:Nat} {ops:Array Oper} (hok:okOps n ops=true) (hs:Region.noSelect ops=true) {S:World→Prop} {Q:Exit→Act→World→Prop} (hQp:∀ c a w,¬ Q (.panic c) a w) {K:Fr→World→Prop} {fin:Bool→Array Bool→Bool} {m:Nat}
    (hQ:∀ d listed f w,closed ops listed→fin d listed=true→(d=false→S w)→K f w→wpAnyW P .any ops (writeAt ops) Q S m listed (act n f) w) :
    ∀ (plan:List (Nat×Way)) (d:Bool) (listed:Array Bool) (f:Fr) (w:World),closed ops listed→planE ops fin plan d listed=true→(d=false→S w)→hOpsM P T n S ops.toList (selW ops.toList plan) f w K →
      wpAnyW P .any ops (writeAt ops) Q S (m+plan.length) listed (act n f) w
  | [],d,listed,f,w,hcl,hB,hw,h=>hQ d listed f w hcl (by simpa only [planE] using hB) hw h
  | (i,s) :: l,d,listed,f,w,hcl,hB,hw,h=>by
    have hrd:i∈Region.ready .any ops listed:=by
      cases s<;>simp only [planE,Bool.and_eq_true] at hB
      · simpa using hB.1.1
      · simpa using hB.1.1.1.1.1
      · have:=hB.1.1;simp only [beq_iff_eq] at this;rw [this];simp
      · have:=hB.1.1;simp only [beq_iff_eq] at this;rw [this];simp
      · have:=hB.1;simp only [beq_iff_eq] at this;rw [this];simp
    obtain ⟨_,o,h0,_⟩:=mem_ready.1 hrd;have h0':ops.toList[i]? = some o:=by simpa using h0
    have hoki:okOper n ops o=true:=by
      unfold okOps at hok;rw [List.all_eq_true] at hok;exact hok _ (List.mem_of_getElem? h0')
    have hsel:selW ops.toList ((i,s) :: l)=(o,s) :: selW ops.toList l:=by
      unfold selW;rw [List.filterMap_cons_some (b:=(o,s)) (by simp [h0'])]
    rw [hsel,hOpsM_cons] at h;have hg:=vcGuard_sound hoki h;have ih:=fun (d:Bool) (hB':planE ops fin l d (listed.setIfInBounds i true)=true) (f:Fr) (w:World) (hw:d=false→S w) (h:hOpsM P T n S ops.toList (selW ops.toList l) f w K)=>hOpsM_soundE hT hok hs hQp hQ l d (listed.setIfInBounds i true) f w (closed_set hcl hrd) hB' hw h;have take:∀ {d':Bool} {U:World→Prop} (v:Value),Region.free .any ops listed i=true→planE ops fin l d' (listed.setIfInBounds i true)=true→(d'=false→S w) →
        (∀ (j:Nat) (oj:Oper),ops[j]? = some oj→j≠i→j∉upF ops i ops.size→∀ w w',(S w→writeAt ops j=false→S w')→U w→U w')→U w →
        (Region.wanted o (yielded ops (act n f).tmps)=true→∀ w',U w'→(execOp (act n f).eval o).run P w' = .ok (.value v) w')→(Region.wanted o (yielded ops (act n f).tmps)=false→v=undef) →
        hOpsM P T n S ops.toList (selW ops.toList l) (put f o.dst v) w K→wpAnyW P .any ops (writeAt ops) Q S (m+l.length+1) listed (act n f) w:=by
      intro d' U v hf hB' hd hU hUw hv hv2 hk;have hy:YieldsIf P ops U o v (act n f):=by
        cases hwn:Region.wanted o (yielded ops (act n f).tmps) with
        | true=>exact .inl ⟨hwn,hv hwn⟩
        | false=>exact .inr ⟨hwn,hv2 hwn⟩
      refine wpAnyW_first h0 (Region.noSelect_spec hs) hU (fun c a w hq=>(hQp _ _ _ hq).elim) (m+l.length) listed (act n f) w hcl (Region.free_spec h0 hf) hrd hy hUw ?_;rw [act_puto];exact ih d' hB' _ _ hd hk
    have alone:Region.ready .any ops listed=[i]→wpOp P ops Q i (fun a' w'=>(S w→writeAt ops i=false→S w')∧wpAnyW P .any ops (writeAt ops) Q S (m+l.length) (listed.setIfInBounds i true) a' w') (act n f) w →
        wpAnyW P .any ops (writeAt ops) Q S (m+l.length+1) listed (act n f) w:=by
      intro hr hop;refine ⟨fun h0=>(by rw [hr] at h0;cases h0),fun j hj=>?_⟩;rw [hr] at hj;simp only [List.mem_singleton] at hj;subst hj;exact hop
    cases s with
    | any =>
      simp only [planE,Bool.and_eq_true] at hB;obtain ⟨⟨hr,hf⟩,hB'⟩:=hB;split at hg
      · rename_i hwn;obtain ⟨v,hv,hk⟩:=pOne_yields hT hoki hg;exact take (U:=fun _=>True) v hf hB' hw (fun _ _ _ _ _ _ _ _ _=>trivial) trivial (fun _ w' _=>hv w') (fun hf=>by rw [hwn] at hf;cases hf) hk
      · rename_i hwn;rw [putK_iff] at hg;exact take (U:=fun _=>True) undef hf hB' hw (fun _ _ _ _ _ _ _ _ _=>trivial) trivial (fun ht=>absurd ht hwn) (fun _=>rfl) hg
    | held =>
      simp only [planE,Bool.and_eq_true,h0,Bool.not_eq_true'] at hB;obtain ⟨⟨⟨⟨⟨hr,hf⟩,hd⟩,hwt⟩,hnc⟩,hB'⟩:=hB;have hU:∀ (j:Nat) (oj:Oper),ops[j]? = some oj→j≠i→j∉upF ops i ops.size→∀ w w',(S w→writeAt ops j=false→S w')→S w→S w':=by
        intro j oj hj hji hno w w' hS hw;refine hS hw ?_;unfold waited at hwt;rw [List.all_eq_true] at hwt;have:=hwt j (List.mem_range.2 (Array.getElem?_eq_some_iff.1 hj).1);simp only [Bool.or_eq_true,Bool.not_eq_true',List.contains_iff_mem] at this;rcases this with h | h
        · exact h
        · exact absurd h hno
      have hin:=hoki;simp only [okOper,Bool.and_eq_true] at hin;have hin:=hin.1;rw [List.all_eq_true] at hin;split at hg
      · rename_i hwn;dsimp only at hg;split at hg
        · rename_i t x ho;have hx:(act n f).eval x=ev f x:=ev_act (hin x (by simp [ho,Op.operands]));unfold BSemK at hg;obtain ⟨v,hv,hk⟩:=hg;rw [putK_iff] at hk;refine take (U:=S) v hf hB' hw hU (hw hd) (fun _ w' hw'=>?_) (fun hf=>by rw [hwn] at hf;cases hf) hk;have hr:=hv w' hw';unfold execOp;simp only [ho,hx];simp [hr]
        · rename_i t x y ho;have hx:(act n f).eval x=ev f x:=ev_act (hin x (by simp [ho,Op.operands]));have hy:(act n f).eval y=ev f y:=ev_act (hin y (by simp [ho,Op.operands]));unfold BSemK at hg;obtain ⟨v,hv,hk⟩:=hg;rw [putK_iff] at hk;refine take (U:=S) v hf hB' hw hU (hw hd) (fun _ w' hw'=>?_) (fun hf=>by rw [hwn] at hf;cases hf) hk;have hr:=hv w' hw';unfold execOp;simp only [ho,hx,hy];simp [hr]
        · rename_i s t x ho;have hx:(act n f).eval x=ev f x:=ev_act (hin x (by simp [ho,Op.operands]));unfold BSemK at hg;obtain ⟨v,hv,hk⟩:=hg;rw [putK_iff] at hk;refine take (U:=S) v hf hB' hw hU (hw hd) (fun _ w' hw'=>?_) (fun hf=>by rw [hwn] at hf;cases hf) hk;have hr:=hv w' hw';unfold execOp;simp only [ho,hx];simp [hr]
        · rename_i t x lo hi mx ho;have hx:(act n f).eval x=ev f x:=ev_act (hin x (by simp [ho,Op.operands]));have hlo:lo.map (act n f).eval=lo.map (ev f):=by
            cases lo with
            | none=>rfl
            | some y=>simp only [Option.map_some];rw [ev_act (hin y (by simp [ho,Op.operands]))]
          have hhi:hi.map (act n f).eval=hi.map (ev f):=by
            cases hi with
            | none=>rfl
            | some y=>simp only [Option.map_some];rw [ev_act (hin y (by simp [ho,Op.operands]))]
          have hmx:mx.map (act n f).eval=mx.map (ev f):=by
            cases mx with
            | none=>rfl
            | some y=>simp only [Option.map_some];rw [ev_act (hin y (by simp [ho,Op.operands]))]
          unfold BSemK at hg;obtain ⟨v,hv,hk⟩:=hg;rw [putK_iff] at hk;refine take (U:=S) v hf hB' hw hU (hw hd) (fun _ w' hw'=>?_) (fun hf=>by rw [hwn] at hf;cases hf) hk;have hr:=hv w' hw';unfold execOp;simp only [ho,hx,hlo,hhi,hmx];simp [hr]
        · rename_i t ps ho;have hps:(ps.map fun p:Nat×Operand=>(p.1,(act n f).eval p.2))=ps.map fun p=>(p.1,ev f p.2):=List.map_congr_left fun p hp=>by
            rw [ev_act (hin p.2 (by simp [ho,Op.operands];exact ⟨p.1,hp⟩))]
          unfold BSemK at hg;obtain ⟨v,hv,hk⟩:=hg;rw [putK_iff] at hk;refine take (U:=S) v hf hB' hw hU (hw hd) (fun _ w' hw'=>?_) (fun hf=>by rw [hwn] at hf;cases hf) hk;have hr:=hv w' hw';unfold execOp;simp only [ho];simp [hps,hr]
        · exact hg.elim
      · rename_i hwn;rw [putK_iff] at hg;exact take (U:=S) undef hf hB' hw hU (hw hd) (fun ht=>absurd ht hwn) (fun _=>rfl) hg
    | run =>
      simp only [planE,Bool.and_eq_true,Bool.not_eq_true',beq_iff_eq] at hB;obtain ⟨⟨hr,hd⟩,hB'⟩:=hB;refine alone hr ?_;split at hg
      · rename_i hwn;unfold wpOp;simp only [h0,hwn,if_true];exact .inl (vcOne_sound hT hoki hg fun f w' hk=>⟨fun _ _=>hk.1,ih d hB' _ _ (fun _=>hk.1) hk.2⟩)
      · rename_i hwn;rw [putK_iff] at hg;have hy:YieldsIf P ops (fun _=>True) o undef (act n f) := .inr ⟨by simpa using hwn,rfl⟩;refine hy.wpOp h0 trivial ⟨fun h _=>h,?_⟩;rw [act_puto];exact ih d hB' _ _ hw hg
    | write =>
      simp only [planE,Bool.and_eq_true,beq_iff_eq] at hB;obtain ⟨⟨hr,hwr⟩,hB'⟩:=hB;refine alone hr ?_;split at hg
      · rename_i hwn;unfold wpOp;simp only [h0,hwn,if_true];exact .inl (vcOne_sound hT hoki hg fun f w' hk=>⟨fun _ h=>by rw [hwr] at h;(cases h),ih true hB' _ _ (fun h=>by cases h) hk⟩)
      · rename_i hwn;rw [putK_iff] at hg;have hy:YieldsIf P ops (fun _=>True) o undef (act n f) := .inr ⟨by simpa using hwn,rfl⟩;refine hy.wpOp h0 trivial ⟨fun h _=>h,?_⟩;rw [act_puto];exact ih true hB' _ _ (fun h=>by cases h) hg
    | alone =>
      simp only [planE,Bool.and_eq_true,beq_iff_eq] at hB;obtain ⟨hr,hB'⟩:=hB;refine alone hr ?_;split at hg
      · rename_i hwn;obtain ⟨v,hv,hk⟩:=pOne_yields hT hoki hg;have hy:YieldsIf P ops (fun _=>True) o v (act n f) := .inl ⟨hwn,fun w' _=>hv w'⟩;refine hy.wpOp h0 trivial ⟨fun h _=>h,?_⟩;rw [act_puto];exact ih d hB' _ _ hw hk
      · rename_i hwn;rw [putK_iff] at hg;have hy:YieldsIf P ops (fun _=>True) o undef (act n f) := .inr ⟨by simpa using hwn,rfl⟩;refine hy.wpOp h0 trivial ⟨fun h _=>h,?_⟩;rw [act_puto];exact ih d hB' _ _ hw hg
theorem hOpsM_sound {P:Program} {T:Tab} (hT:T.fok P=true) {n:Nat} {ops:Array Oper} (hok:okOps n ops=true) (hs:Region.noSelect ops=true) {S:World→Prop} {Q:Exit→Act→World→Prop} (hQp:∀ c a w,¬ Q (.panic c) a w) {K:Fr→World→Prop} (hQ:∀ f w,K f w→Q .normal (act n f) w)
    (plan:List (Nat×Way)) (d:Bool) (listed:Array Bool) (f:Fr) (w:World) (hcl:closed ops listed) (hB:planW ops plan d listed=true) (hw:d=false→S w) (h:hOpsM P T n S ops.toList (selW ops.toList plan) f w K) :
    wpAnyW P .any ops (writeAt ops) Q S plan.length listed (act n f) w:=by
  have:=hOpsM_soundE hT hok hs hQp (K:=K) (fin:=fun _ x=>(Region.ready .any ops x).isEmpty) (m:=0) (fun d listed f w _ hf _ hk=>wpAnyW_done (by simpa using hf) (hQ f w hk) 0) plan d listed f w hcl (by rw [← planE_W];exact hB) hw h;rwa [Nat.zero_add] at this
def Sr (a:Option Addr) (w:World):World→Prop:=fun w'=>Mod (blkIn a) w w'
theorem Sr.cells {a:Option Addr} {b o:Nat} {w:World} {vs:List Value} (h:Cells w b o vs) (hne:¬ blkIn a b):∀ w',Sr a w w'→Cells w' b o vs:=fun _ hw=>h.mod hw hne
theorem BSemK.load1 {P:Program} {S:World→Prop} {ty:Nat} (hty:oneCell P ty=true) {b o k:Nat} {vs:List Value} (h:∀ w',S w'→Cells w' b o vs) {v:Value} (hk:vs[k]? = some v) {K:Value→Prop} (hK:K v) :
    BSemK P S (Instr.loadAt ty (.pointer (some ⟨b,o+k,none⟩))) K:=BSemK.of (fun w' hw=>SemK.load1 hty (h w' hw) hk ⟨rfl,rfl⟩) hK
theorem PSemK.andNot {P:Program} {t:Nat} {X Y:Operand} {a b:Int} {k:IntKind} {K:Value→Prop} (hK:K (.int k (andNotV k a b))) :
    PSemK P (arith .andNot t X Y (.int k a) (.int k b)) K:=PSemK.of (fun _=>SemK.andNot ⟨rfl,rfl⟩) hK
theorem DrawK.mix {P:Program} {T:Tab} (hT:T.fok P=true) (hm:P.follows .mixedOrders=true) {n:Nat} {ops:Array Oper} (a:Option Addr) (plan:List (Nat×Way)) (hok:okOps n ops=true) (hB:heldW ops plan=true) {f:Fr} {w:World} {K:Fr→World→Prop}
    (h:∀ w1,Ext w w1→hOpsM P T n (Sr a w1) ops.toList (selW ops.toList plan) f w1 K):DrawK P n ops f w K:=by
  unfold DrawK;intro id;simp only [heldW,Bool.and_eq_true] at hB;obtain ⟨⟨hs,hl⟩,hB⟩:=hB;have e1:Ext w { w with drawn:=w.drawn+1 }:=⟨rfl,rfl,rfl,Nat.le_refl _,fun _ _=>rfl⟩;refine wp_region_any hm (wpAnyW_any (W:=writeAt ops) (S:=Sr a { w with drawn:=w.drawn+1 }) _ _ _ _ ?_);have:=hOpsM_sound hT hok hs (Q:=lift n K (fun _ _ _=>False) (fun _ _=>False)) (fun c a w hq=>hq.elim) (fun f w hk=>⟨f,rfl,hk⟩) plan false _ f _ (closed_none ops) hB (fun _=>Mod.refl _ _) (h _ e1);rw [Nat.eq_of_beq_eq_true hl] at this;exact this
end Go.Vc
namespace Go.Vc
open Go Go.RowKit
end Go.Vc
namespace Go.Vc
open Go Go.RowKit
section
variable {P:Program}
end
theorem pI {P:Program} {α:Type} {enc:α→List Value} {sz t:Nat} {w:World} {a:Option Addr} {n c:Nat} {xs:List α} (h:Arr enc sz w a n xs) {i:Int} (k:Nat) (hi:i=k) {x:α} (hx:xs[k]? = some x) {kd:IntKind} {K:Value→Prop} (hK:∀ b o,a=some ⟨b,o,none⟩→Cells w b (o+k * sz) (enc x)→K (.pointer (some ⟨b,o+k * sz,none⟩))) (ht:elemSize P t=some sz:=by kernel_rfl):PSemK P (Instr.indexAt t (.slice a n c) (.int kd i)) K:=PSemK.index ht h k hi hx hK
theorem pW {P:Program} {sz t:Nat} {b o n c:Nat} {i:Int} (k:Nat) (hi:i=k) (hlt:k<n) {kd:IntKind} {K:Value→Prop} (hK:K (.pointer (Option.some ⟨b,o+k * sz,none⟩))) (ht:elemSize P t=Option.some sz:=by kernel_rfl):PSemK P (Instr.indexAt t (.slice (Option.some ⟨b,o,none⟩) n c) (.int kd i)) K:=PSemK.indexOwn ht k hi hlt hK
end Go.Vc
namespace Go.Proofs.YthadkoinmohmlaaGreatDoor
open Go Go.RowKit Go.Vc
theorem st_29:stInfo Tryz.prog 29=some ([.slice none 0 0,.slice none 0 0],[(0,1),(1,1)]):=by kernel_rfl
theorem st_31:stInfo Tryz.prog 31=some ([.slice none 0 0,.slice none 0 0,.string { data := #[] }],[(0,2),(2,1)]):=by kernel_rfl
theorem st_65:stInfo Tryz.prog 65=some ([.slice none 0 0,.slice none 0 0,.slice none 0 0,.slice none 0 0],[(0,1),(1,1),(2,1),(3,1)]):=by kernel_rfl
theorem st_91:stInfo Tryz.prog 91=some ([.slice none 0 0,.int .i64 0,.int .u64 0],[(0,1),(1,1),(2,1)]):=by kernel_rfl
theorem st_105:stInfo Tryz.prog 105=some ([.int .i64 0,.int .i64 0],[(0,1),(1,1)]):=by kernel_rfl
theorem st_119:stInfo Tryz.prog 119=some ([.int .i64 0,.int .i64 0,.slice none 0 0,.bool false],[(0,2),(2,1),(3,1)]):=by kernel_rfl
theorem st_131:stInfo Tryz.prog 131=some ([.slice none 0 0],[(0,1)]):=by kernel_rfl
theorem st_148:stInfo Tryz.prog 148=some ([.int .i64 0,.int .i64 0,.int .i64 0,.int .i64 0,.int .i64 0,.int .i64 0,.int .i64 0,.int .i64 0,.string { data := #[] }],[(0,1),(1,1),(2,1),(3,1),(4,2),(6,2),(8,1)]):=by kernel_rfl
theorem st_175:stInfo Tryz.prog 175=some ([.int .i64 0,.int .i64 0,.int .i64 0,.string { data := #[] }],[(0,1),(1,1),(2,1),(3,1)]):=by kernel_rfl
theorem st_190:stInfo Tryz.prog 190=some ([.int .i64 0,.int .i64 0],[(0,1),(1,1)]):=by kernel_rfl
theorem st_205:stInfo Tryz.prog 205=some ([.string { data := #[] },.int .i64 0,.int .i64 0,.slice none 0 0],[(0,1),(1,1),(2,1),(3,1)]):=by kernel_rfl
theorem st_255:stInfo Tryz.prog 255=some ([.string { data := #[] },.int .i64 0],[(0,1),(1,1)]):=by kernel_rfl
end Go.Proofs.YthadkoinmohmlaaGreatDoor
