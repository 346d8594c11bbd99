/- Contracts of functions of the given program, of the reference and of the laws: each says what a call returns, for all arguments that meet the premises that the theorem itself names. -/
import Derived.Test.YthadkoinmohmlaaGreatDoorVcPut
import Derived.Test.YthadkoinmohmlaaGreatDoorShelf
import Derived.Test.YthadkoinmohmlaaGreatDoorStepM
namespace Go.Vc
open Go Go.RowKit
theorem hOpsML_sound (L:List Nat) {P:Program} {T:Tab} (hT:T.fok P=true) {n:Nat} {ops:Array Oper} (hok:okOps n ops=true) (hs:Region.noSelect ops=true) {S:World→Prop} {Q:Exit→Act→World→Prop} (hQp:∀ c a w,¬ Q (.panic c) a w) {K:Fr→World→Prop} (hQ:∀ f w,K f w→Q .normal (act n f) w) :
    ∀ (plan:List (Nat×Way)) (d:Bool) (listed:Array Bool) (f:Fr) (w:World),closed ops listed→planL L ops plan d listed=true→(d=false→S w)→hOpsM P T n S ops.toList (selW ops.toList plan) f w K →
      wpAnyW P .any ops (fun j=>L.contains j) Q S plan.length listed (act n f) w
  | [],d,listed,f,w,_,hB,_,h=>by
    simp only [planL,List.isEmpty_iff] at hB;exact wpAnyW_done hB (hQ f w h) _
  | (i,s) :: l,d,listed,f,w,hcl,hB,hw,h=>by
    have hrd:i∈Region.ready .any ops listed:=by
      cases s<;>simp only [planL,Bool.and_eq_true] at hB
      · simpa using hB.1.1
      · simpa using hB.1.1.1.1.1
      · have:=hB.1.1;simp only [beq_iff_eq] at this;rw [this];simp
      · have:=hB.1.1;simp only [beq_iff_eq] at this;rw [this];simp
      · have:=hB.1;simp only [beq_iff_eq] at this;rw [this];simp
    obtain ⟨_,o,h0,_⟩:=mem_ready.1 hrd;have h0':ops.toList[i]? = some o:=by simpa using h0
    have hoki:okOper n ops o=true:=by
      unfold okOps at hok;rw [List.all_eq_true] at hok;exact hok _ (List.mem_of_getElem? h0')
    have hsel:selW ops.toList ((i,s) :: l)=(o,s) :: selW ops.toList l:=by
      unfold selW;rw [List.filterMap_cons_some (b:=(o,s)) (by simp [h0'])]
    rw [hsel,hOpsM_cons] at h;have hg:=vcGuard_sound hoki h;have ih:=fun (d:Bool) (hB':planL L ops l d (listed.setIfInBounds i true)=true) (f:Fr) (w:World) (hw:d=false→S w) (h:hOpsM P T n S ops.toList (selW ops.toList l) f w K)=>hOpsML_sound L hT hok hs hQp hQ l d (listed.setIfInBounds i true) f w (closed_set hcl hrd) hB' hw h;have take:∀ {d':Bool} {U:World→Prop} (v:Value),Region.free .any ops listed i=true→planL L ops l d' (listed.setIfInBounds i true)=true→(d'=false→S w) →
        (∀ (j:Nat) (oj:Oper),ops[j]? = some oj→j≠i→j∉upF ops i ops.size→∀ w w',(S w→L.contains j=false→S w')→U w→U w')→U w →
        (Region.wanted o (yielded ops (act n f).tmps)=true→∀ w',U w'→(execOp (act n f).eval o).run P w' = .ok (.value v) w')→(Region.wanted o (yielded ops (act n f).tmps)=false→v=undef) →
        hOpsM P T n S ops.toList (selW ops.toList l) (put f o.dst v) w K→wpAnyW P .any ops (fun j=>L.contains j) Q S (l.length+1) listed (act n f) w:=by
      intro d' U v hf hB' hd hU hUw hv hv2 hk;have hy:YieldsIf P ops U o v (act n f):=by
        cases hwn:Region.wanted o (yielded ops (act n f).tmps) with
        | true=>exact .inl ⟨hwn,hv hwn⟩
        | false=>exact .inr ⟨hwn,hv2 hwn⟩
      refine wpAnyW_first h0 (Region.noSelect_spec hs) hU (fun c a w hq=>(hQp _ _ _ hq).elim) l.length listed (act n f) w hcl (Region.free_spec h0 hf) hrd hy hUw ?_;rw [act_puto];exact ih d' hB' _ _ hd hk
    have alone:Region.ready .any ops listed=[i]→wpOp P ops Q i (fun a' w'=>(S w→L.contains i=false→S w')∧wpAnyW P .any ops (fun j=>L.contains j) Q S l.length (listed.setIfInBounds i true) a' w') (act n f) w →
        wpAnyW P .any ops (fun j=>L.contains j) Q S (l.length+1) listed (act n f) w:=by
      intro hr hop;refine ⟨fun h0=>(by rw [hr] at h0;cases h0),fun j hj=>?_⟩;rw [hr] at hj;simp only [List.mem_singleton] at hj;subst hj;exact hop
    cases s with
    | any =>
      simp only [planL,Bool.and_eq_true] at hB;obtain ⟨⟨hr,hf⟩,hB'⟩:=hB;split at hg
      · rename_i hwn;obtain ⟨v,hv,hk⟩:=pOne_yields hT hoki hg;exact take (U:=fun _=>True) v hf hB' hw (fun _ _ _ _ _ _ _ _ _=>trivial) trivial (fun _ w' _=>hv w') (fun hf=>by rw [hwn] at hf;cases hf) hk
      · rename_i hwn;rw [putK_iff] at hg;exact take (U:=fun _=>True) undef hf hB' hw (fun _ _ _ _ _ _ _ _ _=>trivial) trivial (fun ht=>absurd ht hwn) (fun _=>rfl) hg
    | held =>
      simp only [planL,Bool.and_eq_true,h0,Bool.not_eq_true'] at hB;obtain ⟨⟨⟨⟨⟨hr,hf⟩,hd⟩,hwt⟩,hnc⟩,hB'⟩:=hB;have hU:∀ (j:Nat) (oj:Oper),ops[j]? = some oj→j≠i→j∉upF ops i ops.size→∀ w w',(S w→L.contains j=false→S w')→S w→S w':=by
        intro j oj hj hji hno w w' hS hw;refine hS hw ?_;unfold waitedL at hwt;rw [List.all_eq_true] at hwt;have:=hwt j (List.mem_range.2 (Array.getElem?_eq_some_iff.1 hj).1);simp only [Bool.or_eq_true,Bool.not_eq_true',List.contains_iff_mem] at this;rcases this with h | h
        · exact h
        · exact absurd h hno
      have hin:=hoki;simp only [okOper,Bool.and_eq_true] at hin;have hin:=hin.1;rw [List.all_eq_true] at hin;split at hg
      · rename_i hwn;dsimp only at hg;split at hg
        · rename_i t x ho;have hx:(act n f).eval x=ev f x:=ev_act (hin x (by simp [ho,Op.operands]));unfold BSemK at hg;obtain ⟨v,hv,hk⟩:=hg;rw [putK_iff] at hk;refine take (U:=S) v hf hB' hw hU (hw hd) (fun _ w' hw'=>?_) (fun hf=>by rw [hwn] at hf;cases hf) hk;have hr:=hv w' hw';unfold execOp;simp only [ho,hx];simp [hr]
        · rename_i t x y ho;have hx:(act n f).eval x=ev f x:=ev_act (hin x (by simp [ho,Op.operands]));have hy:(act n f).eval y=ev f y:=ev_act (hin y (by simp [ho,Op.operands]));unfold BSemK at hg;obtain ⟨v,hv,hk⟩:=hg;rw [putK_iff] at hk;refine take (U:=S) v hf hB' hw hU (hw hd) (fun _ w' hw'=>?_) (fun hf=>by rw [hwn] at hf;cases hf) hk;have hr:=hv w' hw';unfold execOp;simp only [ho,hx,hy];simp [hr]
        · rename_i s t x ho;have hx:(act n f).eval x=ev f x:=ev_act (hin x (by simp [ho,Op.operands]));unfold BSemK at hg;obtain ⟨v,hv,hk⟩:=hg;rw [putK_iff] at hk;refine take (U:=S) v hf hB' hw hU (hw hd) (fun _ w' hw'=>?_) (fun hf=>by rw [hwn] at hf;cases hf) hk;have hr:=hv w' hw';unfold execOp;simp only [ho,hx];simp [hr]
        · rename_i t x lo hi mx ho;have hx:(act n f).eval x=ev f x:=ev_act (hin x (by simp [ho,Op.operands]));have hlo:lo.map (act n f).eval=lo.map (ev f):=by
            cases lo with
            | none=>rfl
            | some y=>simp only [Option.map_some];rw [ev_act (hin y (by simp [ho,Op.operands]))]
          have hhi:hi.map (act n f).eval=hi.map (ev f):=by
            cases hi with
            | none=>rfl
            | some y=>simp only [Option.map_some];rw [ev_act (hin y (by simp [ho,Op.operands]))]
          have hmx:mx.map (act n f).eval=mx.map (ev f):=by
            cases mx with
            | none=>rfl
            | some y=>simp only [Option.map_some];rw [ev_act (hin y (by simp [ho,Op.operands]))]
          unfold BSemK at hg;obtain ⟨v,hv,hk⟩:=hg;rw [putK_iff] at hk;refine take (U:=S) v hf hB' hw hU (hw hd) (fun _ w' hw'=>?_) (fun hf=>by rw [hwn] at hf;cases hf) hk;have hr:=hv w' hw';unfold execOp;simp only [ho,hx,hlo,hhi,hmx];simp [hr]
        · rename_i t ps ho;have hps:(ps.map fun p:Nat×Operand=>(p.1,(act n f).eval p.2))=ps.map fun p=>(p.1,ev f p.2):=List.map_congr_left fun p hp=>by
            rw [ev_act (hin p.2 (by simp [ho,Op.operands];exact ⟨p.1,hp⟩))]
          unfold BSemK at hg;obtain ⟨v,hv,hk⟩:=hg;rw [putK_iff] at hk;refine take (U:=S) v hf hB' hw hU (hw hd) (fun _ w' hw'=>?_) (fun hf=>by rw [hwn] at hf;cases hf) hk;have hr:=hv w' hw';unfold execOp;simp only [ho];simp [hps,hr]
        · exact hg.elim
      · rename_i hwn;rw [putK_iff] at hg;exact take (U:=S) undef hf hB' hw hU (hw hd) (fun ht=>absurd ht hwn) (fun _=>rfl) hg
    | run =>
      simp only [planL,Bool.and_eq_true,Bool.not_eq_true',beq_iff_eq] at hB;obtain ⟨⟨hr,hd⟩,hB'⟩:=hB;refine alone hr ?_;split at hg
      · rename_i hwn;unfold wpOp;simp only [h0,hwn,if_true];exact .inl (vcOne_sound hT hoki hg fun f w' hk=>⟨fun _ _=>hk.1,ih d hB' _ _ (fun _=>hk.1) hk.2⟩)
      · rename_i hwn;rw [putK_iff] at hg;have hy:YieldsIf P ops (fun _=>True) o undef (act n f) := .inr ⟨by simpa using hwn,rfl⟩;refine hy.wpOp h0 trivial ⟨fun h _=>h,?_⟩;rw [act_puto];exact ih d hB' _ _ hw hg
    | write =>
      simp only [planL,Bool.and_eq_true,beq_iff_eq] at hB;obtain ⟨⟨hr,hwr⟩,hB'⟩:=hB;refine alone hr ?_;split at hg
      · rename_i hwn;unfold wpOp;simp only [h0,hwn,if_true];exact .inl (vcOne_sound hT hoki hg fun f w' hk=>⟨fun _ h=>by rw [hwr] at h;(cases h),ih true hB' _ _ (fun h=>by cases h) hk⟩)
      · rename_i hwn;rw [putK_iff] at hg;have hy:YieldsIf P ops (fun _=>True) o undef (act n f) := .inr ⟨by simpa using hwn,rfl⟩;refine hy.wpOp h0 trivial ⟨fun h _=>h,?_⟩;rw [act_puto];exact ih true hB' _ _ (fun h=>by cases h) hg
    | alone =>
      simp only [planL,Bool.and_eq_true,beq_iff_eq] at hB;obtain ⟨hr,hB'⟩:=hB;refine alone hr ?_;split at hg
      · rename_i hwn;obtain ⟨v,hv,hk⟩:=pOne_yields hT hoki hg;have hy:YieldsIf P ops (fun _=>True) o v (act n f) := .inl ⟨hwn,fun w' _=>hv w'⟩;refine hy.wpOp h0 trivial ⟨fun h _=>h,?_⟩;rw [act_puto];exact ih d hB' _ _ hw hk
      · rename_i hwn;rw [putK_iff] at hg;have hy:YieldsIf P ops (fun _=>True) o undef (act n f) := .inr ⟨by simpa using hwn,rfl⟩;refine hy.wpOp h0 trivial ⟨fun h _=>h,?_⟩;rw [act_puto];exact ih d hB' _ _ hw hg
theorem DrawK.mixL (L:List Nat) {P:Program} {T:Tab} (hT:T.fok P=true) (hm:P.follows .mixedOrders=true) {n:Nat} {ops:Array Oper} (a:Option Addr) (plan:List (Nat×Way)) (hok:okOps n ops=true) (hB:heldL L ops plan=true) {f:Fr} {w:World} {K:Fr→World→Prop}
    (h:∀ w1,Ext w w1→hOpsM P T n (Sr a w1) ops.toList (selW ops.toList plan) f w1 K):DrawK P n ops f w K:=by
  unfold DrawK;intro id;simp only [heldL,Bool.and_eq_true] at hB;obtain ⟨⟨hs,hl⟩,hB⟩:=hB;have e1:Ext w { w with drawn:=w.drawn+1 }:=⟨rfl,rfl,rfl,Nat.le_refl _,fun _ _=>rfl⟩;refine wp_region_any hm (wpAnyW_any (W:=fun j=>L.contains j) (S:=Sr a { w with drawn:=w.drawn+1 }) _ _ _ _ ?_);have:=hOpsML_sound L hT hok hs (Q:=lift n K (fun _ _ _=>False) (fun _ _=>False)) (fun c a w hq=>hq.elim) (fun f w hk=>⟨f,rfl,hk⟩) plan false _ f _ (closed_none ops) hB (fun _=>Mod.refl _ _) (h _ e1);rw [Nat.eq_of_beq_eq_true hl] at this;exact this
def planEL (L:List Nat) (ops:Array Oper) (fin:Bool→Array Bool→Bool):List (Nat×Way)→Bool→Array Bool→Bool
  | [],d,listed=>fin d listed
  | (i,.any) :: l,d,listed=>(Region.ready .any ops listed).contains i && Region.free .any ops listed i && planEL L ops fin l d (listed.setIfInBounds i true)
  | (i,.held) :: l,d,listed=>(Region.ready .any ops listed).contains i && Region.free .any ops listed i && !d && waitedL L ops i && (match ops[i]? with | some o=>!isCallV o.op | none=>false) && planEL L ops fin l d (listed.setIfInBounds i true)
  | (i,.run) :: l,d,listed=>Region.ready .any ops listed == [i] && !d && planEL L ops fin l d (listed.setIfInBounds i true)
  | (i,.write) :: l,_,listed=>Region.ready .any ops listed == [i] && L.contains i && planEL L ops fin l true (listed.setIfInBounds i true)
  | (i,.alone) :: l,d,listed=>Region.ready .any ops listed == [i] && planEL L ops fin l d (listed.setIfInBounds i true)
theorem hOpsML_soundE (L:List Nat) {P:Program} {T:Tab} (hT:T.fok P=true) {n:Nat} {ops:Array Oper} (hok:okOps n ops=true) (hs:Region.noSelect ops=true) {S:World→Prop} {Q:Exit→Act→World→Prop} (hQp:∀ c a w,¬ Q (.panic c) a w) {K:Fr→World→Prop} {fin:Bool→Array Bool→Bool} {m:Nat}
    (hQ:∀ d listed f w,closed ops listed→fin d listed=true→(d=false→S w)→K f w→wpAnyW P .any ops (fun j=>L.contains j) Q S m listed (act n f) w) :
    ∀ (plan:List (Nat×Way)) (d:Bool) (listed:Array Bool) (f:Fr) (w:World),closed ops listed→planEL L ops fin plan d listed=true→(d=false→S w)→hOpsM P T n S ops.toList (selW ops.toList plan) f w K →
      wpAnyW P .any ops (fun j=>L.contains j) Q S (m+plan.length) listed (act n f) w
  | [],d,listed,f,w,hcl,hB,hw,h=>hQ d listed f w hcl (by simpa only [planEL] using hB) hw h
  | (i,s) :: l,d,listed,f,w,hcl,hB,hw,h=>by
    have hrd:i∈Region.ready .any ops listed:=by
      cases s<;>simp only [planEL,Bool.and_eq_true] at hB
      · simpa using hB.1.1
      · simpa using hB.1.1.1.1.1
      · have:=hB.1.1;simp only [beq_iff_eq] at this;rw [this];simp
      · have:=hB.1.1;simp only [beq_iff_eq] at this;rw [this];simp
      · have:=hB.1;simp only [beq_iff_eq] at this;rw [this];simp
    obtain ⟨_,o,h0,_⟩:=mem_ready.1 hrd;have h0':ops.toList[i]? = some o:=by simpa using h0
    have hoki:okOper n ops o=true:=by
      unfold okOps at hok;rw [List.all_eq_true] at hok;exact hok _ (List.mem_of_getElem? h0')
    have hsel:selW ops.toList ((i,s) :: l)=(o,s) :: selW ops.toList l:=by
      unfold selW;rw [List.filterMap_cons_some (b:=(o,s)) (by simp [h0'])]
    rw [hsel,hOpsM_cons] at h;have hg:=vcGuard_sound hoki h;have ih:=fun (d:Bool) (hB':planEL L ops fin l d (listed.setIfInBounds i true)=true) (f:Fr) (w:World) (hw:d=false→S w) (h:hOpsM P T n S ops.toList (selW ops.toList l) f w K)=>hOpsML_soundE L hT hok hs hQp hQ l d (listed.setIfInBounds i true) f w (closed_set hcl hrd) hB' hw h;have take:∀ {d':Bool} {U:World→Prop} (v:Value),Region.free .any ops listed i=true→planEL L ops fin l d' (listed.setIfInBounds i true)=true→(d'=false→S w) →
        (∀ (j:Nat) (oj:Oper),ops[j]? = some oj→j≠i→j∉upF ops i ops.size→∀ w w',(S w→L.contains j=false→S w')→U w→U w')→U w →
        (Region.wanted o (yielded ops (act n f).tmps)=true→∀ w',U w'→(execOp (act n f).eval o).run P w' = .ok (.value v) w')→(Region.wanted o (yielded ops (act n f).tmps)=false→v=undef) →
        hOpsM P T n S ops.toList (selW ops.toList l) (put f o.dst v) w K→wpAnyW P .any ops (fun j=>L.contains j) Q S (m+l.length+1) listed (act n f) w:=by
      intro d' U v hf hB' hd hU hUw hv hv2 hk;have hy:YieldsIf P ops U o v (act n f):=by
        cases hwn:Region.wanted o (yielded ops (act n f).tmps) with
        | true=>exact .inl ⟨hwn,hv hwn⟩
        | false=>exact .inr ⟨hwn,hv2 hwn⟩
      refine wpAnyW_first h0 (Region.noSelect_spec hs) hU (fun c a w hq=>(hQp _ _ _ hq).elim) (m+l.length) listed (act n f) w hcl (Region.free_spec h0 hf) hrd hy hUw ?_;rw [act_puto];exact ih d' hB' _ _ hd hk
    have alone:Region.ready .any ops listed=[i]→wpOp P ops Q i (fun a' w'=>(S w→L.contains i=false→S w')∧wpAnyW P .any ops (fun j=>L.contains j) Q S (m+l.length) (listed.setIfInBounds i true) a' w') (act n f) w →
        wpAnyW P .any ops (fun j=>L.contains j) Q S (m+l.length+1) listed (act n f) w:=by
      intro hr hop;refine ⟨fun h0=>(by rw [hr] at h0;cases h0),fun j hj=>?_⟩;rw [hr] at hj;simp only [List.mem_singleton] at hj;subst hj;exact hop
    cases s with
    | any =>
      simp only [planEL,Bool.and_eq_true] at hB;obtain ⟨⟨hr,hf⟩,hB'⟩:=hB;split at hg
      · rename_i hwn;obtain ⟨v,hv,hk⟩:=pOne_yields hT hoki hg;exact take (U:=fun _=>True) v hf hB' hw (fun _ _ _ _ _ _ _ _ _=>trivial) trivial (fun _ w' _=>hv w') (fun hf=>by rw [hwn] at hf;cases hf) hk
      · rename_i hwn;rw [putK_iff] at hg;exact take (U:=fun _=>True) undef hf hB' hw (fun _ _ _ _ _ _ _ _ _=>trivial) trivial (fun ht=>absurd ht hwn) (fun _=>rfl) hg
    | held =>
      simp only [planEL,Bool.and_eq_true,h0,Bool.not_eq_true'] at hB;obtain ⟨⟨⟨⟨⟨hr,hf⟩,hd⟩,hwt⟩,hnc⟩,hB'⟩:=hB;have hU:∀ (j:Nat) (oj:Oper),ops[j]? = some oj→j≠i→j∉upF ops i ops.size→∀ w w',(S w→L.contains j=false→S w')→S w→S w':=by
        intro j oj hj hji hno w w' hS hw;refine hS hw ?_;unfold waitedL at hwt;rw [List.all_eq_true] at hwt;have:=hwt j (List.mem_range.2 (Array.getElem?_eq_some_iff.1 hj).1);simp only [Bool.or_eq_true,Bool.not_eq_true',List.contains_iff_mem] at this;rcases this with h | h
        · exact h
        · exact absurd h hno
      have hin:=hoki;simp only [okOper,Bool.and_eq_true] at hin;have hin:=hin.1;rw [List.all_eq_true] at hin;split at hg
      · rename_i hwn;dsimp only at hg;split at hg
        · rename_i t x ho;have hx:(act n f).eval x=ev f x:=ev_act (hin x (by simp [ho,Op.operands]));unfold BSemK at hg;obtain ⟨v,hv,hk⟩:=hg;rw [putK_iff] at hk;refine take (U:=S) v hf hB' hw hU (hw hd) (fun _ w' hw'=>?_) (fun hf=>by rw [hwn] at hf;cases hf) hk;have hr:=hv w' hw';unfold execOp;simp only [ho,hx];simp [hr]
        · rename_i t x y ho;have hx:(act n f).eval x=ev f x:=ev_act (hin x (by simp [ho,Op.operands]));have hy:(act n f).eval y=ev f y:=ev_act (hin y (by simp [ho,Op.operands]));unfold BSemK at hg;obtain ⟨v,hv,hk⟩:=hg;rw [putK_iff] at hk;refine take (U:=S) v hf hB' hw hU (hw hd) (fun _ w' hw'=>?_) (fun hf=>by rw [hwn] at hf;cases hf) hk;have hr:=hv w' hw';unfold execOp;simp only [ho,hx,hy];simp [hr]
        · rename_i s t x ho;have hx:(act n f).eval x=ev f x:=ev_act (hin x (by simp [ho,Op.operands]));unfold BSemK at hg;obtain ⟨v,hv,hk⟩:=hg;rw [putK_iff] at hk;refine take (U:=S) v hf hB' hw hU (hw hd) (fun _ w' hw'=>?_) (fun hf=>by rw [hwn] at hf;cases hf) hk;have hr:=hv w' hw';unfold execOp;simp only [ho,hx];simp [hr]
        · rename_i t x lo hi mx ho;have hx:(act n f).eval x=ev f x:=ev_act (hin x (by simp [ho,Op.operands]));have hlo:lo.map (act n f).eval=lo.map (ev f):=by
            cases lo with
            | none=>rfl
            | some y=>simp only [Option.map_some];rw [ev_act (hin y (by simp [ho,Op.operands]))]
          have hhi:hi.map (act n f).eval=hi.map (ev f):=by
            cases hi with
            | none=>rfl
            | some y=>simp only [Option.map_some];rw [ev_act (hin y (by simp [ho,Op.operands]))]
          have hmx:mx.map (act n f).eval=mx.map (ev f):=by
            cases mx with
            | none=>rfl
            | some y=>simp only [Option.map_some];rw [ev_act (hin y (by simp [ho,Op.operands]))]
          unfold BSemK at hg;obtain ⟨v,hv,hk⟩:=hg;rw [putK_iff] at hk;refine take (U:=S) v hf hB' hw hU (hw hd) (fun _ w' hw'=>?_) (fun hf=>by rw [hwn] at hf;cases hf) hk;have hr:=hv w' hw';unfold execOp;simp only [ho,hx,hlo,hhi,hmx];simp [hr]
        · rename_i t ps ho;have hps:(ps.map fun p:Nat×Operand=>(p.1,(act n f).eval p.2))=ps.map fun p=>(p.1,ev f p.2):=List.map_congr_left fun p hp=>by
            rw [ev_act (hin p.2 (by simp [ho,Op.operands];exact ⟨p.1,hp⟩))]
          unfold BSemK at hg;obtain ⟨v,hv,hk⟩:=hg;rw [putK_iff] at hk;refine take (U:=S) v hf hB' hw hU (hw hd) (fun _ w' hw'=>?_) (fun hf=>by rw [hwn] at hf;cases hf) hk;have hr:=hv w' hw';unfold execOp;simp only [ho];simp [hps,hr]
        · exact hg.elim
      · rename_i hwn;rw [putK_iff] at hg;exact take (U:=S) undef hf hB' hw hU (hw hd) (fun ht=>absurd ht hwn) (fun _=>rfl) hg
    | run =>
      simp only [planEL,Bool.and_eq_true,Bool.not_eq_true',beq_iff_eq] at hB;obtain ⟨⟨hr,hd⟩,hB'⟩:=hB;refine alone hr ?_;split at hg
      · rename_i hwn;unfold wpOp;simp only [h0,hwn,if_true];exact .inl (vcOne_sound hT hoki hg fun f w' hk=>⟨fun _ _=>hk.1,ih d hB' _ _ (fun _=>hk.1) hk.2⟩)
      · rename_i hwn;rw [putK_iff] at hg;have hy:YieldsIf P ops (fun _=>True) o undef (act n f) := .inr ⟨by simpa using hwn,rfl⟩;refine hy.wpOp h0 trivial ⟨fun h _=>h,?_⟩;rw [act_puto];exact ih d hB' _ _ hw hg
    | write =>
      simp only [planEL,Bool.and_eq_true,beq_iff_eq] at hB;obtain ⟨⟨hr,hwr⟩,hB'⟩:=hB;refine alone hr ?_;split at hg
      · rename_i hwn;unfold wpOp;simp only [h0,hwn,if_true];exact .inl (vcOne_sound hT hoki hg fun f w' hk=>⟨fun _ h=>by rw [hwr] at h;(cases h),ih true hB' _ _ (fun h=>by cases h) hk⟩)
      · rename_i hwn;rw [putK_iff] at hg;have hy:YieldsIf P ops (fun _=>True) o undef (act n f) := .inr ⟨by simpa using hwn,rfl⟩;refine hy.wpOp h0 trivial ⟨fun h _=>h,?_⟩;rw [act_puto];exact ih true hB' _ _ (fun h=>by cases h) hg
    | alone =>
      simp only [planEL,Bool.and_eq_true,beq_iff_eq] at hB;obtain ⟨hr,hB'⟩:=hB;refine alone hr ?_;split at hg
      · rename_i hwn;obtain ⟨v,hv,hk⟩:=pOne_yields hT hoki hg;have hy:YieldsIf P ops (fun _=>True) o v (act n f) := .inl ⟨hwn,fun w' _=>hv w'⟩;refine hy.wpOp h0 trivial ⟨fun h _=>h,?_⟩;rw [act_puto];exact ih d hB' _ _ hw hk
      · rename_i hwn;rw [putK_iff] at hg;have hy:YieldsIf P ops (fun _=>True) o undef (act n f) := .inr ⟨by simpa using hwn,rfl⟩;refine hy.wpOp h0 trivial ⟨fun h _=>h,?_⟩;rw [act_puto];exact ih d hB' _ _ hw hg
inductive PT where
  | done:PT
  | seq (l:List (Nat×Way)) (t:PT):PT
  | alt (i:Nat) (t:PT) (j:Nat) (u:PT):PT
def PT.size:PT→Nat
  | .done=>0
  | .seq l t=>t.size+l.length
  | .alt _ t _ _=>t.size+1
def PT.ok (L:List Nat) (ops:Array Oper):PT→Bool→Array Bool→Bool
  | .done,_,listed=>(Region.ready .any ops listed).isEmpty
  | .seq l t,d,listed=>planEL L ops (t.ok L ops) l d listed
  | .alt i t j u,d,listed=>!d && Region.ready .any ops listed == [i,j] && t.ok L ops false (listed.setIfInBounds i true) && u.ok L ops false (listed.setIfInBounds j true) && Nat.beq u.size t.size
noncomputable def hTree (P:Program) (T:Tab) (n:Nat) (S:World→Prop) (all:List Oper) (t:PT):Fr→World→(Fr→World→Prop)→Prop :=
  PT.rec (motive:=fun _=>Fr→World→(Fr→World→Prop)→Prop) (fun f w K=>K f w)
    (fun l _ ih f w K=>hOpsM P T n S all (selW all l) f w fun f w=>ih f w K)
    (fun i _ j _ ih ih2 f w K=>Both (hOpsM P T n S all (selW all [(i,.run)]) f w fun f w=>ih f w K) (hOpsM P T n S all (selW all [(j,.run)]) f w fun f w=>ih2 f w K)) t
theorem hRun1 (L:List Nat) {P:Program} {T:Tab} (hT:T.fok P=true) {n:Nat} {ops:Array Oper} (hok:okOps n ops=true) {S:World→Prop} {Q:Exit→Act→World→Prop} {K:Fr→World→Prop}
    {i m:Nat} {listed:Array Bool} {f:Fr} {w:World} (hrd:i∈Region.ready .any ops listed) (hw:S w)
    (hQ:∀ f w,S w→K f w→wpAnyW P .any ops (fun j=>L.contains j) Q S m (listed.setIfInBounds i true) (act n f) w)
    (h:hOpsM P T n S ops.toList (selW ops.toList [(i,.run)]) f w K) :
    wpOp P ops Q i (fun a' w'=>(S w→L.contains i=false→S w')∧wpAnyW P .any ops (fun j=>L.contains j) Q S m (listed.setIfInBounds i true) a' w') (act n f) w:=by
  obtain ⟨_,o,h0,_⟩:=mem_ready.1 hrd;have h0':ops.toList[i]? = some o:=by simpa using h0
  have hoki:okOper n ops o=true:=by
    unfold okOps at hok;rw [List.all_eq_true] at hok;exact hok _ (List.mem_of_getElem? h0')
  have hsel:selW ops.toList [(i,.run)]=[(o,.run)]:=by
    unfold selW;rw [List.filterMap_cons_some (b:=(o,.run)) (by simp [h0'])];rfl
  rw [hsel,hOpsM_cons] at h;have hg:=vcGuard_sound hoki h;split at hg
  · rename_i hwn;unfold wpOp;simp only [h0,hwn,if_true];exact .inl (vcOne_sound hT hoki hg fun f w' hk=>⟨fun _ _=>hk.1,hQ _ _ hk.1 hk.2⟩)
  · rename_i hwn;rw [putK_iff] at hg;have hy:YieldsIf P ops (fun _=>True) o undef (act n f) := .inr ⟨by simpa using hwn,rfl⟩;refine hy.wpOp h0 trivial ⟨fun h _=>h,?_⟩;rw [act_puto];exact hQ _ _ hw hg
theorem hTree_sound (L:List Nat) {P:Program} {T:Tab} (hT:T.fok P=true) {n:Nat} {ops:Array Oper} (hok:okOps n ops=true) (hs:Region.noSelect ops=true) {S:World→Prop} {Q:Exit→Act→World→Prop} (hQp:∀ c a w,¬ Q (.panic c) a w) {K:Fr→World→Prop} (hQ:∀ f w,K f w→Q .normal (act n f) w) :
    ∀ (t:PT) (d:Bool) (listed:Array Bool) (f:Fr) (w:World),closed ops listed→t.ok L ops d listed=true→(d=false→S w)→hTree P T n S ops.toList t f w K →
      wpAnyW P .any ops (fun j=>L.contains j) Q S t.size listed (act n f) w
  | .done,d,listed,f,w,_,hB,_,h=>wpAnyW_done (by simpa [PT.ok] using hB) (hQ f w h) _
  | .seq l t,d,listed,f,w,hcl,hB,hw,h =>
    hOpsML_soundE L hT hok hs hQp (fin:=t.ok L ops) (m:=t.size) (K:=fun f w=>hTree P T n S ops.toList t f w K) (fun d listed f w hcl hf hw hk=>hTree_sound L hT hok hs hQp hQ t d listed f w hcl hf hw hk) l d listed f w hcl (by simpa only [PT.ok] using hB) hw h
  | .alt i t j u,d,listed,f,w,hcl,hB,hw,h=>by
    simp only [PT.ok,Bool.and_eq_true,Bool.not_eq_true',beq_iff_eq] at hB;obtain ⟨⟨⟨⟨hd,hr⟩,ht⟩,hu⟩,hsz⟩:=hB;have hsz:=Nat.eq_of_beq_eq_true hsz;obtain ⟨hka,hkb⟩:=Both.out h;refine ⟨fun h0=>(by rw [hr] at h0;cases h0),fun q hq=>?_⟩;have hq':=hq;rw [hr] at hq;simp only [List.mem_cons,List.not_mem_nil,or_false] at hq;rcases hq with rfl | rfl
    · exact hRun1 L hT hok hq' (hw hd) (fun f w hS hk=>hTree_sound L hT hok hs hQp hQ t false _ f w (closed_set hcl hq') ht (fun _=>hS) hk) hka
    · show wpOp P ops Q _ (fun a' w'=>_∧wpAnyW P .any ops (fun j=>L.contains j) Q S t.size _ a' w') (act n f) w;rw [← hsz];exact hRun1 L hT hok hq' (hw hd) (fun f w hS hk=>hTree_sound L hT hok hs hQp hQ u false _ f w (closed_set hcl hq') hu (fun _=>hS) hk) hkb
def heldT (L:List Nat) (ops:Array Oper) (t:PT):Bool:=Region.noSelect ops && Nat.beq t.size ops.size && t.ok L ops false (Array.replicate ops.size false)
theorem DrawK.forks (L:List Nat) {P:Program} {T:Tab} (hT:T.fok P=true) (hm:P.follows .mixedOrders=true) {n:Nat} {ops:Array Oper} (a:Option Addr) (t:PT) (hok:okOps n ops=true) (hB:heldT L ops t=true) {f:Fr} {w:World} {K:Fr→World→Prop}
    (h:∀ w1,Ext w w1→hTree P T n (Sr a w1) ops.toList t f w1 K):DrawK P n ops f w K:=by
  unfold DrawK;intro id;simp only [heldT,Bool.and_eq_true] at hB;obtain ⟨⟨hs,hl⟩,hB⟩:=hB;have e1:Ext w { w with drawn:=w.drawn+1 }:=⟨rfl,rfl,rfl,Nat.le_refl _,fun _ _=>rfl⟩;refine wp_region_any hm (wpAnyW_any (W:=fun j=>L.contains j) (S:=Sr a { w with drawn:=w.drawn+1 }) _ _ _ _ ?_);have:=hTree_sound L hT hok hs (Q:=lift n K (fun _ _ _=>False) (fun _ _=>False)) (fun c a w hq=>hq.elim) (fun f w hk=>⟨f,rfl,hk⟩) t false _ f _ (closed_none ops) hB (fun _=>Mod.refl _ _) (h _ e1);rw [Nat.eq_of_beq_eq_true hl] at this;exact this
theorem BSemK.loadAggAt {P:Program} {S:World→Prop} {ty n:Nat} (hty:aggSize P ty=some n) {b o k:Nat} {vs:List Value} (h:∀ w',S w'→Cells w' b o vs) (hn:((vs.drop k).take n).length=n) {K:Value→Prop} (hK:K (.agg ((vs.drop k).take n).toArray)) :
    BSemK P S (Instr.loadAt ty (.pointer (some ⟨b,o+k,none⟩))) K:=BSemK.of (fun w' hw=>SemK.loadAggAt hty (h w' hw) hn ⟨rfl,rfl⟩) hK
theorem Sr.of_ext {a:Option Addr} {w w':World} (e:Ext w w'):Sr a w w':=Ext.mod e
end Go.Vc
namespace Go.Vc
open Go Go.RowKit
def arrInfo (P:Program) (t:Nat):Option (Nat×Nat) :=
  match P.underlying t with
  | some (.array n e)=>match P.info? e with
    | some inf=>some (n,inf.size)
    | none=>none
  | _=>none
theorem SemK.indexArr {P:Program} {t n sz:Nat} (ht:arrInfo P t=some (n,sz)) {w:World} {b o:Nat} {i:Int} (k:Nat) (hi:i=k) (hlt:k<n) {kd:IntKind}
    {K:Value→World→Prop} (hK:K (.pointer (some ⟨b,o+k * sz,none⟩)) w):SemK P (Instr.indexAt t (.pointer (some ⟨b,o,none⟩)) (.int kd i)) w K:=by
  unfold arrInfo at ht;split at ht
  · rename_i m e hu;split at ht
    · rename_i inf hinf;simp only [Option.some.injEq,Prod.mk.injEq] at ht;obtain ⟨rfl,rfl⟩:=ht;subst hi;refine SemK.of ?_ hK;simp [Instr.indexAt,Instr.sureAddr,asIntOf,run_underlying hu,hlt,sizeOf,typeInfo,hinf,addr_add_none]
    · cases ht
  · cases ht
end Go.Vc
namespace Go.M
open Go Go.Vc
def strsData (xs:List ByteArray):DataW Unit := .agg (xs.map fun s=>.lit (.string s.data.toList))
theorem cells_of_strs {enc:TypeId×Value→Unit} {P:Program} {w:World} {base:Nat} {sp:Nat→Bool} {held:Bool} {fuel:Nat} {t e:TypeId} {n:Nat} {cs:List Value} {zs:List ByteArray} {p:List MemPlace}
    (ht:P.underlying t=some (.array n e)) (he:P.underlying e=some .string) (hce:P.cellsOf e=1) (hct:P.cellsOf t=n)
    (h:DataW.trod enc P w base sp held fuel t cs=some (strsData zs,p)):cs=zs.map Value.string:=by
  cases fuel with
  | zero=>simp [DataW.trod] at h
  | succ fuel =>
    simp only [DataW.trod,ht,hce,hct,Nat.mul_one] at h;split at h
    · rename_i hl;obtain ⟨xs,hm,hx⟩:=Option.map_eq_some_iff.1 h;have hxs:xs.map (·.1)=zs.map fun z=>(DataW.lit (.string z.data.toList):DataW Unit):=by
        have:=congrArg Prod.fst hx;simpa [strsData] using this
      have hxl:xs.length=n:=by simpa using Lib.mapM_length hm
      have hzl:zs.length=n:=by
        have:=congrArg List.length hxs;simp at this;omega
      apply List.ext_getElem?;intro i;by_cases hi:i<n
      · obtain ⟨b,hb,hf⟩:=Lib.mapM_at hm i i (by simp [hi]);obtain ⟨z,hc,rfl,_⟩:=DataW.trod_string he hf;have h1:cs[i]? = some (.string z):=by
          have:=congrArg (·[0]?) hc;simpa [List.getElem?_take,List.getElem?_drop] using this
        have h2:(xs.map (·.1))[i]? = some (DataW.lit (.string z.data.toList):DataW Unit):=by simp [hb]
        rw [hxs] at h2;simp only [List.getElem?_map,Option.map_eq_some_iff,DataW.lit.injEq,Lit.string.injEq] at h2;obtain ⟨z',hz',he'⟩:=h2;have:z'=z:=bytes_ext he';subst this;simp [h1,hz']
      · rw [List.getElem?_eq_none (by omega),List.getElem?_eq_none (by simp;omega)]
    · cases h
end Go.M
namespace Go.Proofs.YthadkoinmohmlaaGreatDoor
open Go Go.RowKit Go.Vc Go.M Go.Shelf Go.Proofs
def CodeNames (w:World):Prop:=w.var? Tryz.prog (Rows.fnConsoleRow.named.getD 8 Rows.fnConsoleRow.spec)=some (codeNamesM.map Value.string).toArray
theorem CodeNames.ext {w w':World} (h:CodeNames w) (e:Ext w w'):CodeNames w':=ext_var h e
theorem CodeNames.of_laid {rest:List (String×DataW Unit)} {W:World} (h:laidMet Tryz.prog (((Rows.fnConsoleRow.named.getD 8 Rows.fnConsoleRow.spec),strsData codeNamesM) :: rest) W):CodeNames W:=by
  obtain ⟨ps,⟨g',t',cs,fuel,p,q,hg',ht',hvar,hd,_,_⟩,_⟩:=h;obtain rfl:=Option.some.inj ((show (Tryz.prog).globalNamed (Rows.fnConsoleRow.named.getD 8 Rows.fnConsoleRow.spec)=some 0 from (by kernel_rfl)).symm.trans hg');obtain rfl:=Option.some.inj ((show ((Tryz.prog).globals[0]?).map (·.type)=some 123 from (by kernel_rfl)).symm.trans ht');unfold CodeNames;rw [hvar,← cells_of_strs Tryz.underlying123 Tryz.underlying9 (by kernel_rfl) (by kernel_rfl) hd]
theorem CodeNames.cells {w:World} (h:CodeNames w) {k:Nat} {s:ByteArray} (hs:codeNamesM[k]? = some s):Cells w 0 k [.string s]:=by
  have hc:=World.var?_cell (show (Tryz.prog).globalNamed (Rows.fnConsoleRow.named.getD 8 Rows.fnConsoleRow.spec)=some 0 from (by kernel_rfl)) h k;intro j v hj;cases j with
  | zero =>
    simp only [List.getElem?_cons_zero,Option.some.injEq] at hj;subst hj;rw [Nat.add_zero,hc];simp [hs]
  | succ j=>simp at hj
theorem impl_CodeName (k:Int) {w:World} (hN:CodeNames w):Does Tryz.prog 35 [.int .i64 k] w (fun v w'=>v = .string (codeNameM k)∧Ext w w'):=by
  cases hk:inB k 0 10
  · have he:codeNameM k=⟨#[]⟩:=by unfold codeNameM;rw [if_pos hk]
    rw [he];refine oV Tryz.func35 ?_;refine (impl_inside _ _ _ _).mono ?_;rintro _ _ ⟨rfl,rfl⟩;refine IfB.eqt (by simp [*];done) ?_;exact ⟨rfl,Ext.refl _⟩
  · have hb:=inB_true hk;have he:codeNameM k=codeNamesM.getD k.toNat ⟨#[]⟩:=by unfold codeNameM;rw [if_neg (by simp [hk])]
    obtain ⟨s,hs⟩:=get_of_lt (l:=codeNamesM) (k:=k.toNat) (by show k.toNat<11;omega);rw [he,getD_of hs];have hC:=hN.cells hs;refine oV Tryz.func35 ?_;refine (impl_inside _ _ _ _).mono ?_;rintro _ _ ⟨rfl,rfl⟩;refine IfB.eqf (by rw [hk];rfl) ?_;refine SemK.indexArr (n:=11) (sz:=1) (by kernel_rfl) k.toNat (by omega) (by omega) ?_;refine jO (vs:=[.string s]) (by simpa using hC) rfl ?_;exact ⟨rfl,Ext.refl _⟩
end Go.Proofs.YthadkoinmohmlaaGreatDoor
