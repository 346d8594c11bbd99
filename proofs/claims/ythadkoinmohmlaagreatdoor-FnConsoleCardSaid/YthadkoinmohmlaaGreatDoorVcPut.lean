/- Contracts of functions of the given program, of the reference and of the laws: each says what a call returns, for all arguments that meet the premises that the theorem itself names. -/
import Derived.Test.YthadkoinmohmlaaGreatDoorBasics
import Derived.Test.YthadkoinmohmlaaGreatDoorVcWrite
namespace Go.Vc
open Go Go.RowKit
theorem Mod.trans_mix {S S':Nat→Prop} {x y z:World} (h:Mod S x y) (k:Mod S' y z) (hb:∀ i,S' i→S i∨x.heap.size≤i):Mod S x z :=
  ⟨k.os.trans h.os,k.tape.trans h.tape,k.output.trans h.output,Nat.le_trans h.size k.size,fun i hi hl=>by
    rw [k.block i (fun hs=>(hb i hs).elim hi (fun h2=>by omega)) (Nat.lt_of_lt_of_le hl h.size),h.block i hi hl]⟩
def waitedL (L:List Nat) (ops:Array Oper) (i:Nat):Bool:=(List.range ops.size).all fun j=>!L.contains j || (upF ops i ops.size).contains j
def planL (L:List Nat) (ops:Array Oper):List (Nat×Way)→Bool→Array Bool→Bool
  | [],_,listed=>(Region.ready .any ops listed).isEmpty
  | (i,.any) :: l,d,listed=>(Region.ready .any ops listed).contains i && Region.free .any ops listed i && planL L ops l d (listed.setIfInBounds i true)
  | (i,.held) :: l,d,listed=>(Region.ready .any ops listed).contains i && Region.free .any ops listed i && !d && waitedL L ops i && (match ops[i]? with | some o=>!isCallV o.op | none=>false) && planL L ops l d (listed.setIfInBounds i true)
  | (i,.run) :: l,d,listed=>Region.ready .any ops listed == [i] && !d && planL L ops l d (listed.setIfInBounds i true)
  | (i,.write) :: l,_,listed=>Region.ready .any ops listed == [i] && L.contains i && planL L ops l true (listed.setIfInBounds i true)
  | (i,.alone) :: l,d,listed=>Region.ready .any ops listed == [i] && planL L ops l d (listed.setIfInBounds i true)
def heldL (L:List Nat) (ops:Array Oper) (plan:List (Nat×Way)):Bool:=Region.noSelect ops && Nat.beq plan.length ops.size && planL L ops plan false (Array.replicate ops.size false)
theorem hOpsL_sound (L:List Nat) {P:Program} {T:Tab} (hT:T.fok P=true) {n:Nat} {ops:Array Oper} (hok:okOps n ops=true) (hs:Region.noSelect ops=true) {w0:World} {Q:Exit→Act→World→Prop} (hQp:∀ c a w,¬ Q (.panic c) a w) {K:Fr→World→Prop} (hQ:∀ f w,K f w→Q .normal (act n f) w) :
    ∀ (plan:List (Nat×Way)) (d:Bool) (listed:Array Bool) (f:Fr) (w:World),closed ops listed→planL L ops plan d listed=true→(d=false→Ext w0 w)→hOpsW P T n w0 ops.toList (selW ops.toList plan) f w K →
      wpAnyW P .any ops (fun j=>L.contains j) Q (fun w'=>Ext w0 w') plan.length listed (act n f) w
  | [],d,listed,f,w,_,hB,_,h=>by
    simp only [planL,List.isEmpty_iff] at hB;exact wpAnyW_done hB (hQ f w h) _
  | (i,s) :: l,d,listed,f,w,hcl,hB,hw,h=>by
    have hrd:i∈Region.ready .any ops listed:=by
      cases s<;>simp only [planL,Bool.and_eq_true] at hB
      · simpa using hB.1.1
      · simpa using hB.1.1.1.1.1
      · have:=hB.1.1;simp only [beq_iff_eq] at this;rw [this];simp
      · have:=hB.1.1;simp only [beq_iff_eq] at this;rw [this];simp
      · have:=hB.1;simp only [beq_iff_eq] at this;rw [this];simp
    obtain ⟨_,o,h0,_⟩:=mem_ready.1 hrd;have h0':ops.toList[i]? = some o:=by simpa using h0
    have hoki:okOper n ops o=true:=by
      unfold okOps at hok;rw [List.all_eq_true] at hok;exact hok _ (List.mem_of_getElem? h0')
    have hsel:selW ops.toList ((i,s) :: l)=(o,s) :: selW ops.toList l:=by
      unfold selW;rw [List.filterMap_cons_some (b:=(o,s)) (by simp [h0'])]
    rw [hsel,hOpsW_cons] at h;have hg:=vcGuard_sound hoki h;have ih:=fun (d:Bool) (hB':planL L ops l d (listed.setIfInBounds i true)=true) (f:Fr) (w:World) (hw:d=false→Ext w0 w) (h:hOpsW P T n w0 ops.toList (selW ops.toList l) f w K)=>hOpsL_sound L hT hok hs hQp hQ l d (listed.setIfInBounds i true) f w (closed_set hcl hrd) hB' hw h;have take:∀ {d':Bool} {U:World→Prop} (v:Value),Region.free .any ops listed i=true→planL L ops l d' (listed.setIfInBounds i true)=true→(d'=false→Ext w0 w) →
        (∀ (j:Nat) (oj:Oper),ops[j]? = some oj→j≠i→j∉upF ops i ops.size→∀ w w',(Ext w0 w→L.contains j=false→Ext w0 w')→U w→U w')→U w →
        (Region.wanted o (yielded ops (act n f).tmps)=true→∀ w',U w'→(execOp (act n f).eval o).run P w' = .ok (.value v) w')→(Region.wanted o (yielded ops (act n f).tmps)=false→v=undef) →
        hOpsW P T n w0 ops.toList (selW ops.toList l) (put f o.dst v) w K→wpAnyW P .any ops (fun j=>L.contains j) Q (fun w'=>Ext w0 w') (l.length+1) listed (act n f) w:=by
      intro d' U v hf hB' hd hU hUw hv hv2 hk;have hy:YieldsIf P ops U o v (act n f):=by
        cases hwn:Region.wanted o (yielded ops (act n f).tmps) with
        | true=>exact .inl ⟨hwn,hv hwn⟩
        | false=>exact .inr ⟨hwn,hv2 hwn⟩
      refine wpAnyW_first h0 (Region.noSelect_spec hs) hU (fun c a w hq=>(hQp _ _ _ hq).elim) l.length listed (act n f) w hcl (Region.free_spec h0 hf) hrd hy hUw ?_;rw [act_puto];exact ih d' hB' _ _ hd hk
    have alone:Region.ready .any ops listed=[i]→wpOp P ops Q i (fun a' w'=>(Ext w0 w→L.contains i=false→Ext w0 w')∧wpAnyW P .any ops (fun j=>L.contains j) Q (fun w'=>Ext w0 w') l.length (listed.setIfInBounds i true) a' w') (act n f) w →
        wpAnyW P .any ops (fun j=>L.contains j) Q (fun w'=>Ext w0 w') (l.length+1) listed (act n f) w:=by
      intro hr hop;refine ⟨fun h0=>(by rw [hr] at h0;cases h0),fun j hj=>?_⟩;rw [hr] at hj;simp only [List.mem_singleton] at hj;subst hj;exact hop
    cases s with
    | any =>
      simp only [planL,Bool.and_eq_true] at hB;obtain ⟨⟨hr,hf⟩,hB'⟩:=hB;split at hg
      · rename_i hwn;obtain ⟨v,hv,hk⟩:=pOne_yields hT hoki hg;exact take (U:=fun _=>True) v hf hB' hw (fun _ _ _ _ _ _ _ _ _=>trivial) trivial (fun _ w' _=>hv w') (fun hf=>by rw [hwn] at hf;cases hf) hk
      · rename_i hwn;rw [putK_iff] at hg;exact take (U:=fun _=>True) undef hf hB' hw (fun _ _ _ _ _ _ _ _ _=>trivial) trivial (fun ht=>absurd ht hwn) (fun _=>rfl) hg
    | held =>
      simp only [planL,Bool.and_eq_true,h0,Bool.not_eq_true'] at hB;obtain ⟨⟨⟨⟨⟨hr,hf⟩,hd⟩,hwt⟩,hnc⟩,hB'⟩:=hB;have hU:∀ (j:Nat) (oj:Oper),ops[j]? = some oj→j≠i→j∉upF ops i ops.size→∀ w w',(Ext w0 w→L.contains j=false→Ext w0 w')→Ext w0 w→Ext w0 w':=by
        intro j oj hj hji hno w w' hS hw;refine hS hw ?_;unfold waitedL at hwt;rw [List.all_eq_true] at hwt;have:=hwt j (List.mem_range.2 (Array.getElem?_eq_some_iff.1 hj).1);simp only [Bool.or_eq_true,Bool.not_eq_true',List.contains_iff_mem] at this;rcases this with h | h
        · exact h
        · exact absurd h hno
      split at hg
      · rename_i hwn;obtain ⟨v,hv,hk⟩:=dOne_yields hT hoki hnc hg;exact take (U:=fun w'=>Ext w0 w') v hf hB' hw hU (hw hd) (fun _=>hv) (fun hf=>by rw [hwn] at hf;cases hf) hk
      · rename_i hwn;rw [putK_iff] at hg;exact take (U:=fun w'=>Ext w0 w') undef hf hB' hw hU (hw hd) (fun ht=>absurd ht hwn) (fun _=>rfl) hg
    | run =>
      simp only [planL,Bool.and_eq_true,Bool.not_eq_true',beq_iff_eq] at hB;obtain ⟨⟨hr,hd⟩,hB'⟩:=hB;refine alone hr ?_;split at hg
      · rename_i hwn;unfold wpOp;simp only [h0,hwn,if_true];exact .inl (vcOne_sound hT hoki hg fun f w' hk=>⟨fun _ _=>hk.1,ih d hB' _ _ (fun _=>hk.1) hk.2⟩)
      · rename_i hwn;rw [putK_iff] at hg;have hy:YieldsIf P ops (fun _=>True) o undef (act n f) := .inr ⟨by simpa using hwn,rfl⟩;refine hy.wpOp h0 trivial ⟨fun h _=>h,?_⟩;rw [act_puto];exact ih d hB' _ _ hw hg
    | write =>
      simp only [planL,Bool.and_eq_true,beq_iff_eq] at hB;obtain ⟨⟨hr,hwr⟩,hB'⟩:=hB;refine alone hr ?_;split at hg
      · rename_i hwn;unfold wpOp;simp only [h0,hwn,if_true];exact .inl (vcOne_sound hT hoki hg fun f w' hk=>⟨fun _ h=>by rw [hwr] at h;(cases h),ih true hB' _ _ (fun h=>by cases h) hk⟩)
      · rename_i hwn;rw [putK_iff] at hg;have hy:YieldsIf P ops (fun _=>True) o undef (act n f) := .inr ⟨by simpa using hwn,rfl⟩;refine hy.wpOp h0 trivial ⟨fun h _=>h,?_⟩;rw [act_puto];exact ih true hB' _ _ (fun h=>by cases h) hg
    | alone =>
      simp only [planL,Bool.and_eq_true,beq_iff_eq] at hB;obtain ⟨hr,hB'⟩:=hB;refine alone hr ?_;split at hg
      · rename_i hwn;obtain ⟨v,hv,hk⟩:=pOne_yields hT hoki hg;have hy:YieldsIf P ops (fun _=>True) o v (act n f) := .inl ⟨hwn,fun w' _=>hv w'⟩;refine hy.wpOp h0 trivial ⟨fun h _=>h,?_⟩;rw [act_puto];exact ih d hB' _ _ hw hk
      · rename_i hwn;rw [putK_iff] at hg;have hy:YieldsIf P ops (fun _=>True) o undef (act n f) := .inr ⟨by simpa using hwn,rfl⟩;refine hy.wpOp h0 trivial ⟨fun h _=>h,?_⟩;rw [act_puto];exact ih d hB' _ _ hw hg
theorem DrawK.loud (L:List Nat) {P:Program} {T:Tab} (hT:T.fok P=true) (hm:P.follows .mixedOrders=true) {n:Nat} {ops:Array Oper} (plan:List (Nat×Way)) (hok:okOps n ops=true) (hB:heldL L ops plan=true) {f:Fr} {w:World} {K:Fr→World→Prop}
    (h:∀ w1,Ext w w1→hOpsW P T n w ops.toList (selW ops.toList plan) f w1 K):DrawK P n ops f w K:=by
  unfold DrawK;intro id;simp only [heldL,Bool.and_eq_true] at hB;obtain ⟨⟨hs,hl⟩,hB⟩:=hB;refine wp_region_any hm (wpAnyW_any (W:=fun j=>L.contains j) (S:=fun w'=>Ext w w') _ _ _ _ ?_);have e1:Ext w { w with drawn:=w.drawn+1 }:=⟨rfl,rfl,rfl,Nat.le_refl _,fun _ _=>rfl⟩;have:=hOpsL_sound L hT hok hs (Q:=lift n K (fun _ _ _=>False) (fun _ _=>False)) (fun c a w hq=>hq.elim) (fun f w hk=>⟨f,rfl,hk⟩) plan false _ f _ (closed_none ops) hB (fun _=>e1) (h _ e1);rw [Nat.eq_of_beq_eq_true hl] at this;exact this
theorem SemK.clearOwn {P:Program} {α:Type} {enc:α→List Value} {t e by_:Nat} {z:Value} (ht:mkInfo P t=some (e,[z],by_)) (he:∀ x,(enc x).length=1) (hz:cellish z=true) {w:World} {b n tt k m c:Nat} {hs:List α} (h:Own enc w (some ⟨b,0,none⟩) n tt hs)
    (hkm:k+m=n) (hm:0<m) {ty:Nat} {cs:Array Bool} {K:Next→World→Prop} (hK:∀ w',Chg b w w'→Own enc w' (some ⟨b,0,none⟩) k tt (hs.take k)→K (.value (.tuple #[])) w') :
    SemK P (builtin .clear #[t] ty cs #[.slice (some ⟨b,0+k * 1,none⟩) m c]) w K:=by
  obtain ⟨i,z0,hu,hi,hz0,hzs,hbb,hss,hp⟩:=mkInfo_spec ht;obtain ⟨h1,h2,h3⟩:=h;rcases h3 with ⟨ha,_⟩ | ⟨b',rest,ha,hb⟩
  · cases ha
  cases ha
  have hl:(flat enc hs).length=n:=by rw [flat_length he,h1];omega
  have hzc:(Builtin.zeroCells z0.cells m).toList=List.replicate m z:=by
    have:z0.cells = #[z]:=by rw [← Array.toList_inj,hzs]
    rw [this];simp [Builtin.zeroCells];apply List.ext_getElem
    · simp
    · intro i h1 h2;simp [Nat.mod_one]
  obtain ⟨w',hr,hb2,hc⟩:=run_storeCells (P:=P) (List.replicate m z) (flat enc hs++rest) k 0 w hb (by rw [List.length_append,hl,List.length_replicate];omega) (by intro v hv;rw [List.eq_of_mem_replicate hv];exact hz);have hzv:(zeroValue e).run P w = .ok z0 w:=by
    simp [zeroValue,typeInfo,hi,hz0]
  obtain ⟨m',rfl⟩:∃ m',m=m'+1:=⟨m - 1,by omega⟩;refine SemK.of (w':=w') ?_ (hK w' hc ?_)
  · have e0:(⟨b,0+k * 1,none⟩:Addr)=⟨b,k,none⟩:=by simp
    rw [e0];simp [builtin,Builtin.clear_,run_underlying hu,hzv,hzc,hr]
  · refine ⟨by rw [List.length_take];omega,by omega,.inr ⟨b,List.replicate (m'+1) z++rest,rfl,?_⟩⟩;rw [Nat.add_zero,splice_eq _ _ _ (by rw [List.length_append,hl,List.length_replicate];omega)] at hb2;have e1:(flat enc hs++rest).take k=flat enc (hs.take k):=by
      have hsp:flat enc hs=flat enc (hs.take k)++flat enc (hs.drop k):=by rw [← flat_append,List.take_append_drop]
      have hlk:(flat enc (hs.take k)).length=k:=by rw [flat_length he,List.length_take];omega
      rw [hsp,List.append_assoc,List.take_left' hlk]
    have e2:(flat enc hs++rest).drop (k+(List.replicate (m'+1) z).length)=rest:=by
      rw [List.length_replicate,hkm,List.drop_left' hl]
    rw [e1,e2,List.append_assoc] at hb2;exact hb2
def fieldOne (P:Program) (t i off:Nat):Bool :=
  match P.underlying t with
  | some (.struct fields)=>match fields[i]? with
    | some f=>Nat.beq f.offset off && oneCell P f.type
    | none=>false
  | _=>false
theorem SemK.field {P:Program} {t i:Nat} (off:Nat) (ht:fieldOne P t i off=true) {w:World} {cs:Array Value} {v:Value} (hv:cs[off]? = some v) {K:Value→World→Prop} (hK:K v w):SemK P (Instr.field t (.agg cs) i) w K:=by
  unfold fieldOne at ht;split at ht<;>try cases ht
  rename_i fields hu;split at ht<;>try cases ht
  rename_i f hf;rw [Bool.and_eq_true] at ht;obtain ⟨d,inf,hu2,hi,hs,hag⟩:=oneCell_spec ht.2;have ho:=Nat.eq_of_beq_eq_true ht.1;refine SemK.of (w':=w) ?_ hK;have hag:=congrFun hag w;simp [Instr.field,run_underlying hu,hf,asAgg,part,hag,ho,hv]
theorem DSemK.build {P:Program} {t:Nat} {zs:List Value} {pl:List (Nat×Nat)} (h:stInfo P t=some (zs,pl)) {parts:List (Nat×Value)} {out:List Value} (ho:fillL pl zs parts=some out) {w:World} {K:Value→Prop} (hK:K (.agg ⟨out⟩)) :
    DSemK P (Instr.build t parts.toArray) w K:=DSemK.of (fun _ _=>SemK.build h ho ⟨rfl,rfl⟩) hK
theorem SemK.sliceEnd {P:Program} {t sz:Nat} (ht:elemSize P t=some sz) {w:World} {a:Option Addr} {n c:Nat} (h:Nat) (hh:h≤n) (hn:n≤c) {k':IntKind} {K:Value→World→Prop} (hK:K (.slice a h c) w):SemK P (Instr.sliceAt t (.slice a n c) none (some (.int k' h)) none) w K:=by
  refine SemK.of (run_slice_arr (k := .i64) ht (Nat.zero_le h) hh hn (.inl ⟨rfl,rfl⟩) (.inr rfl) w) ?_;have e:(if c=0 then a else a.map (·.add (0 * sz)))=a:=by
    split
    · rfl
    · rw [Nat.zero_mul];cases a with
      | none=>rfl
      | some x=>simp [addr_add0]
  rw [e];exact hK
theorem SemK.sliceFrom {P:Program} {t sz:Nat} (ht:elemSize P t=some sz) {w:World} {b n c:Nat} (l:Nat) (hl:l≤n) (hn:n≤c) (hlc:l<c) {k:IntKind} {K:Value→World→Prop} (hK:K (.slice (some ⟨b,0+l * sz,none⟩) (n - l) (c - l)) w):SemK P (Instr.sliceAt t (.slice (some ⟨b,0,none⟩) n c) (some (.int k l)) none none) w K:=by
  refine SemK.of (run_slice_arr (k' := .i64) ht hl (Nat.le_refl n) hn (.inr rfl) (.inl ⟨rfl,rfl⟩) w) ?_;rw [if_neg (by omega)];have e:(some (⟨b,0,none⟩:Addr)).map (·.add (l * sz))=some ⟨b,0+l * sz,none⟩:=by simp [addr_add_none]
  rw [e];exact hK
def filZ {α β:Type} (p:α→Bool):List α→List β→List β
  | x :: xs,y :: ys=>if p x=true then y :: filZ p xs ys else filZ p xs ys
  | _,_=>[]
theorem filZ_length {α β:Type} (p:α→Bool):∀ (xs:List α) (ys:List β),xs.length=ys.length→(filZ p xs ys).length=(xs.filter p).length
  | [],ys,_=>rfl
  | x :: xs,[],h=>by simp at h
  | x :: xs,y :: ys,h=>by
    have:=filZ_length p xs ys (by simpa using h);unfold filZ;rw [List.filter_cons];split<;>simp [this]
theorem filZ_snoc {α β:Type} (p:α→Bool) (x:α) (y:β):∀ (xs:List α) (ys:List β),xs.length=ys.length→filZ p (xs++[x]) (ys++[y])=if p x=true then filZ p xs ys++[y] else filZ p xs ys
  | [],[],_=>by simp [filZ]
  | [],_ :: _,h=>by simp at h
  | _ :: _,[],h=>by simp at h
  | a :: xs,b :: ys,h=>by
    have:=filZ_snoc p x y xs ys (by simpa using h);simp only [List.cons_append,filZ,this];split<;>split<;>simp
theorem filZ_sub {α:Type} (p:α→Bool):∀ (xs:List α) (fps:List (List Nat)),(filZ p xs fps).flatten.Sublist fps.flatten
  | [],fps=>by simp [filZ]
  | _ :: _,[]=>by simp [filZ]
  | x :: xs,f :: fps=>by
    have:=filZ_sub p xs fps;unfold filZ;split
    · simp only [List.flatten_cons];exact List.Sublist.append (List.Sublist.refl _) this
    · simp only [List.flatten_cons];exact this.trans (List.sublist_append_right _ _)
theorem ElO.cons {α:Type} {E:Ow α} {w:World} {h:Hd} {x:α} {f:List Nat} {hs:List Hd} {xs:List α} {fps:List (List Nat)} (hx:E w h x f) (ht:ElO E w hs xs fps):ElO E w (h :: hs) (x :: xs) (f :: fps):=by
  refine ⟨by simp [ht.1],by simp [ht.2.1],fun i a y g k1 k2 k3=>?_⟩;cases i with
  | zero=>simp at k1 k2 k3;subst k1;subst k2;subst k3;exact hx
  | succ i=>exact ht.2.2 i a y g (by simpa using k1) (by simpa using k2) (by simpa using k3)
theorem ElO.tail {α:Type} {E:Ow α} {w:World} {h:Hd} {x:α} {f:List Nat} {hs:List Hd} {xs:List α} {fps:List (List Nat)} (H:ElO E w (h :: hs) (x :: xs) (f :: fps)):E w h x f∧ElO E w hs xs fps :=
  ⟨H.2.2 0 h x f rfl rfl rfl,by simpa using H.1,by simpa using H.2.1,fun i a y g k1 k2 k3=>H.2.2 (i+1) a y g (by simpa using k1) (by simpa using k2) (by simpa using k3)⟩
theorem ElO.filter {α:Type} {E:Ow α} {w:World} (p:α→Bool):∀ {hs:List Hd} {xs:List α} {fps:List (List Nat)},ElO E w hs xs fps→ElO E w (filZ p xs hs) (xs.filter p) (filZ p xs fps)
  | [],[],[],_=>ElO.nil
  | h :: hs,x :: xs,f :: fps,H=>by
    have h1:=H.tail;have ih:=ElO.filter p h1.2;unfold filZ;rw [List.filter_cons];split
    · exact ih.cons h1.1
    · exact ih
  | [],_ :: _,_,H=>by have:=H.1;simp at this
  | _ :: _,[],_,H=>by have:=H.1;simp at this
  | [],[],_ :: _,H=>by have:=H.2.1;simp at this
  | _ :: _,_ :: _,[],H=>by have:=H.2.1;simp at this
theorem flatten_set_mem {fps:List (List Nat)} {i k:Nat} {f:List Nat} (h:k∈(fps.set i f).flatten):k∈fps.flatten∨k∈f:=by
  obtain ⟨g,hg,hk⟩:=List.mem_flatten.1 h;rcases List.mem_or_eq_of_mem_set hg with hg | rfl
  · exact .inl (List.mem_flatten.2 ⟨g,hg,hk⟩)
  · exact .inr hk
theorem GrowS.ext {α:Type} {E:Ow α} {R:Rd α} [OwE E R] {B e:Nat} {w w':World} {a:Option Addr} {n c:Nat} {xs:List α} {fp:List Nat} (h:GrowS E B e w a n c xs fp) (x:Ext w w'):GrowS E B e w' a n c xs fp:=by
  obtain ⟨hs,fps,h1,h2,h3⟩:=h;exact ⟨hs,fps,h1.ext x,h2.keep (fun k hk=>x.block k (h2.lt k hk)),h3⟩
theorem GrowS.keep {α:Type} {E:Ow α} {R:Rd α} [OwE E R] {B e:Nat} {w w':World} {a:Option Addr} {n c:Nat} {xs:List α} {fp:List Nat} (h:GrowS E B e w a n c xs fp) (hk:∀ k∈fp,w'.heap[k]? = w.heap[k]?):GrowS E B e w' a n c xs fp:=by
  obtain ⟨hs,fps,h1,h2,rfl⟩:=h;exact ⟨hs,fps,h1.kept (fun x hx=>hk _ (List.mem_append_left _ (mem_blks.2 ⟨x,hx,rfl⟩))),h2.keep (fun k h=>hk k (List.mem_append_right _ h)),rfl⟩
theorem GrowS.lt {α:Type} {E:Ow α} {R:Rd α} [OwE E R] {B e:Nat} {w:World} {a:Option Addr} {n c:Nat} {xs:List α} {fp:List Nat} (h:GrowS E B e w a n c xs fp):∀ k∈fp,k<w.heap.size:=h.own.lt
theorem GrowS.le {α:Type} {E:Ow α} {B e:Nat} {w:World} {a:Option Addr} {n c:Nat} {xs:List α} {fp:List Nat} (h:GrowS E B e w a n c xs fp):n≤c∧xs.length=n:=by
  obtain ⟨hs,fps,h1,h2,h3⟩:=h;exact ⟨h1.le.1,by rw [← h2.1,h1.len]⟩
theorem GrowS.new0 {α:Type} {E:Ow α} {w:World} {B b e:Nat} (h:Blk w b [] e) (hB:B≤b):GrowS E B e w (some ⟨b,0,none⟩) 0 0 ([]:List α) [b]:=⟨[],[],Grow.new0 eH_len h hB,ElO.nil,by simp [blks]⟩
theorem GrowS.blk {α:Type} {E:Ow α} {B e:Nat} {w:World} {a:Option Addr} {n c:Nat} {xs:List α} {fp:List Nat} (h:GrowS E B e w a n c xs fp):∀ k,blkIn a k→k∈fp:=by
  obtain ⟨hs,fps,h1,h2,rfl⟩:=h;exact fun k hk=>List.mem_append_left _ (mem_blks.2 hk)
theorem SemK.appendF {P:Program} {α:Type} {E:Ow α} {R:Rd α} [OwE E R] {t e by_ lo:Nat} {zs:List Value} (ht:mkInfo P t=some (e,zs,by_)) (hz:zs.length=1) {w:World} {a:Option Addr} {n c:Nat} {xs:List α} {fp:List Nat} (h:GrowS E lo e w a n c xs fp) (hnd:fp.Nodup) (hlo:lo≤w.heap.size)
    {b c':Nat} {d:Hd} {x:α} {f:List Nat} (hd:E w d x f) (hf:f.Nodup) (hdj:∀ k∈f,k∉fp) (hy:Cells w b 0 (eH d)) (hsm:n+1≤1099511627776) (hby:(n+1) * by_≤140737488355328) {ty:Nat} {cs:Array Bool} {K:Next→World→Prop}
    (hK:∀ a' c' w' fp',GrowS E lo e w' a' (n+1) c' (xs++[x]) fp'→fp'.Nodup→(∀ k∈fp',k∈fp∨k∈f∨k=w.heap.size)→Mod (blkIn a) w w'→K (.value (.slice a' (n+1) c')) w') :
    SemK P (builtin .append #[t,t] ty cs #[.slice a n c,.slice (some ⟨b,0,none⟩) 1 c']) w K:=by
  obtain ⟨hs,fps,h1,h2,rfl⟩:=h;rw [← hz] at h1;refine SemK.appendAt ht (fun x=>by rw [hz];rfl) h1 (ys:=[d]) (m:=1) hy rfl (by simp [flat,eH,cellish]) hsm hby hlo ?_;intro a' c2 w' hG hM hi;rw [hz] at hG;obtain ⟨n1,n2,n3⟩:=List.nodup_append.1 hnd;have hflt:∀ k∈f,k<w.heap.size:=OwE.lt hd;have hfl:∀ k∈fps.flatten,k<w.heap.size:=h2.lt;have hin:∀ k,k∈blks a'→k∈blks a∨k=w.heap.size:=fun k hk=>(hi k (mem_blks.1 hk)).imp (fun h=>mem_blks.2 h) id;refine hK a' c2 w' (blks a'++(fps++[f]).flatten) ⟨hs++[d],fps++[f],hG,?_,rfl⟩ ?_ ?_ hM
  · have hk2:ElO E w' hs xs fps:=(h2.keep fun k hk=>hM.block k (fun hkb=>n3 k (mem_blks.2 hkb) k hk rfl) (hfl k hk));exact hk2.snoc (OwE.keep hd fun k hk=>hM.block k (fun hkb=>hdj k hk (List.mem_append_left _ (mem_blks.2 hkb))) (hflt k hk))
  · have e1:(fps++[f]).flatten=fps.flatten++f:=by simp
    rw [e1];refine List.nodup_append.2 ⟨?_,List.nodup_append.2 ⟨n2,hf,fun p hp q hq e=>hdj q hq (e▸List.mem_append_right _ hp)⟩,fun p hp q hq e=>?_⟩
    · cases a' with
      | none=>simp [blks]
      | some y=>simp [blks]
    · subst e;rcases hin p hp with hpa | rfl
      · rcases List.mem_append.1 hq with hq | hq
        · exact n3 p hpa p hq rfl
        · exact hdj p hq (List.mem_append_left _ hpa)
      · rcases List.mem_append.1 hq with hq | hq
        · have:=hfl _ hq;omega
        · have:=hflt _ hq;omega
  · intro k hk;have e1:(fps++[f]).flatten=fps.flatten++f:=by simp
    rw [e1] at hk;rcases List.mem_append.1 hk with hk | hk
    · rcases hin k hk with hk | hk
      · exact .inl (List.mem_append_left _ hk)
      · exact .inr (.inr hk)
    · rcases List.mem_append.1 hk with hk | hk
      · exact .inl (List.mem_append_right _ hk)
      · exact .inr (.inl hk)
theorem ElR.app {α:Type} {R:Rd α} {w:World} {hs gs:List Hd} {xs ys:List α} (h:ElR R w hs xs) (g:ElR R w gs ys):ElR R w (hs++gs) (xs++ys):=by
  refine ⟨by simp [h.1,g.1],fun i d x h1 h2=>?_⟩;rcases Nat.lt_or_ge i hs.length with hi | hi
  · rw [List.getElem?_append_left hi] at h1;rw [List.getElem?_append_left (by rw [← h.1];exact hi)] at h2;exact h.2 i d x h1 h2
  · rw [List.getElem?_append_right hi] at h1;rw [List.getElem?_append_right (by rw [← h.1];exact hi)] at h2;rw [h.1] at h1;exact g.2 _ d x h1 h2
theorem SemK.appendDeck {P:Program} {α:Type} {E:Ow α} {R:Rd α} [OwE E R] [RdE R] {t e by_ lo:Nat} {zs:List Value} (ht:mkInfo P t=some (e,zs,by_)) (hz:zs.length=1) {w0 w:World} (e0:Ext w0 w) {a a2:Option Addr} {n c n2 c2:Nat} {xs ys:List α} (h:GrowN E lo e w a n c xs) (h0:w0.heap.size≤lo) (h1:lo≤w.heap.size) (h2:ArrS R w0 a2 n2 ys)
    (hsm:n+n2≤1099511627776) (hby:(n+n2) * by_≤140737488355328) {ty:Nat} {cs:Array Bool} {K:Next→World→Prop}
    (hK:∀ a' c' w',ArrS R w' a' (n+n2) (xs++ys)→n+n2≤c'→Ext w0 w'→K (.value (.slice a' (n+n2) c')) w') :
    SemK P (builtin .append #[t,t] ty cs #[.slice a n c,.slice a2 n2 c2]) w K:=by
  obtain ⟨hs,fps,g1,g2,g3⟩:=h;obtain ⟨gs,A2,E2⟩:=h2;refine SemK.appendArr0 (enc:=eH) ht (fun x=>by rw [hz];rfl) (by rw [hz];exact g1) (by rw [hz];exact A2.ext e0) (by intro y _;simp [eH,cellish]) hsm hby h1 ?_;intro a9 c9 w9 G9 m9 i9;rw [hz] at G9;obtain ⟨n1,n2',n3⟩:=List.nodup_append.1 g3.1;have hk:ElO E w9 hs xs fps:=g2.keep fun k hk=>m9.block k (fun hb=>n3 k (mem_blks.2 hb) k hk rfl) (g2.lt k hk);have hnew:∀ k,blkIn a k→w0.heap.size≤k:=fun k ⟨x,hx,hk⟩=>by have:=g1.new x hx;omega
  have E9:Ext w0 w9:=xm e0 m9 hnew;exact hK a9 c9 w9 ⟨hs++gs,G9.own.arr eH_len,hk.rd.app (E2.ext E9)⟩ G9.le.1 E9
def OG {α:Type} (E:Ow α) (te:Nat):Ow (List α):=fun w h xs fp=>∃ B,GrowS E B te w h.a h.n h.c xs fp
instance {α:Type} {E:Ow α} {R:Rd α} [OwE E R] {te:Nat}:OwE (OG E te) (RS R) where
  keep:=fun ⟨B,h⟩ hk=>⟨B,h.keep hk⟩
  lt:=fun ⟨_,h⟩=>h.lt
  rd:=fun ⟨_,h⟩=>⟨h.own.arr,h.le.1⟩
theorem OG.os {α:Type} {E:Ow α} {te:Nat} {w:World} {h:Hd} {x:List α} {fp:List Nat} (H:OG E te w h x fp):OS E w h x fp:=by
  obtain ⟨B,H⟩:=H;exact ⟨⟨te,H.own⟩,H.le.1⟩
theorem ElO.imp {α:Type} {E E':Ow α} {w:World} {hs:List Hd} {xs:List α} {fps:List (List Nat)} (H:ElO E w hs xs fps) (h:∀ d x f,E w d x f→E' w d x f):ElO E' w hs xs fps :=
  ⟨H.1,H.2.1,fun i a y g k1 k2 k3=>h _ _ _ (H.2.2 i a y g k1 k2 k3)⟩
theorem OwnS.imp {α:Type} {E E':Ow α} {w:World} {a:Option Addr} {n t:Nat} {xs:List α} {fp:List Nat} (H:OwnS E w a n t xs fp) (h:∀ d x f,E w d x f→E' w d x f):OwnS E' w a n t xs fp:=by
  obtain ⟨hs,fps,h1,h2,h3⟩:=H;exact ⟨hs,fps,h1,h2.imp h,h3⟩
theorem OwnS.hand {α:Type} {E:Ow α} {R:Rd α} [OwE E R] {u:World} {a:Option Addr} {n t:Nat} {xs:List α} {fp:List Nat} (h:OwnS E u a n t xs fp) (hnd:fp.Nodup) {k:Nat} {x0:α} (hx0:xs[k]? = some x0) :
    ∃ b d0 f0,a=some ⟨b,0,none⟩∧b∈fp∧Cells u b (0+k * 1) (eH d0)∧E u d0 x0 f0∧f0.Nodup∧b∉f0∧(∀ j∈f0,j∈fp) ∧
      ∀ (P:Program) (ty:Nat) (w:World) (d:Hd) (x:α) (f:List Nat),oneCell P ty=true→Mod (fun j=>j∈f0) u w→E w d x f→f.Nodup→(∀ j∈f,j∈f0∨j∉fp) →
        ∀ K:Unit→World→Prop,(∀ w' fp',Chg b w w'→OwnS E w' (some ⟨b,0,none⟩) n t (xs.set k x) fp'→fp'.Nodup→(∀ j∈fp',j∈fp∨j∈f)→K () w') →
          SemK P (Instr.storeAt ty (.pointer (some ⟨b,0+k * 1,none⟩)) (.slice d.a d.n d.c)) w K:=by
  obtain ⟨hs,fps,h1,h2,rfl⟩:=h;have hl:=(List.getElem?_eq_some_iff.1 hx0).1;obtain ⟨d0,hd0⟩:∃ d,hs[k]? = some d:=⟨_,List.getElem?_eq_getElem (by rw [h2.1];exact hl)⟩;obtain ⟨f0,hf0⟩:∃ f,fps[k]? = some f:=⟨_,List.getElem?_eq_getElem (by rw [h2.2.1];exact hl)⟩;obtain ⟨n1,n2,n3⟩:=List.nodup_append.1 hnd;obtain ⟨q1,q2⟩:=nodup_flatten_get n2 hf0;have hn0:0<n:=by rw [← h1.1,h2.1];omega
  obtain ⟨b,rfl⟩:=h1.some hn0;have hbf:∀ j∈fps.flatten,j≠b:=fun j hj e=>n3 b (by simp [blks]) j hj e.symm;have hf0s:∀ j∈f0,j∈fps.flatten:=fun j hj=>flatten_mem hf0 hj;have hb0:b∉f0:=fun hb=>hbf b (hf0s b hb) rfl;refine ⟨b,d0,f0,rfl,by simp [blks],Own.elem eH_len h1 hd0,h2.2.2 k d0 x0 f0 hd0 hx0 hf0,q1,hb0,fun j hj=>List.mem_append_right _ (hf0s j hj),?_⟩;intro P ty w d x f hty M hd hfn hfd K hK;have hbl:b<u.heap.size:=h1.lt _ rfl;have h1w:Own eH w (some ⟨b,0,none⟩) n t hs:=h1.keep fun j hj=>by
    simp only [blks,List.mem_singleton] at hj;subst hj;exact M.block j hb0 hbl
  have hbnf:b∉f:=fun hb=>by
    rcases hfd b hb with h | h
    · exact hb0 h
    · exact h (by simp [blks])
  refine SemK.storeOwn1 (j:=0) hty eH_len h1w hd0 (by omega) (v := .slice d.a d.n d.c) rfl d rfl fun w' hc hO=>?_;have hset:ElO E w' (hs.set k d) (xs.set k x) (fps.set k f):=by
    refine ⟨by simp [h2.1],by simp [h2.2.1],fun j h y g k1 k2 k3=>?_⟩;by_cases hji:j=k
    · subst hji;rw [set_get hd0] at k1;rw [set_get hx0] at k2;rw [set_get hf0] at k3;simp only [Option.some.injEq] at k1 k2 k3;subst k1;subst k2;subst k3;exact OwE.keep hd fun i hi=>hc.block i (fun e=>hbnf (e▸hi))
    · rw [List.getElem?_set_ne (Ne.symm hji)] at k1 k2 k3;have hEy:=h2.2.2 j h y g k1 k2 k3;refine OwE.keep hEy fun i hi=>?_;have hif:i∈fps.flatten:=flatten_mem k3 hi;rw [hc.block i (hbf i hif),M.block i (q2 j g hji k3 i hi) (OwE.lt hEy i hi)]
  have hdis:∀ i∈(fps.set k f).flatten,i∈fps.flatten∨i∈f:=fun i hi=>flatten_set_mem hi;refine hK w' (blks (some ⟨b,0,none⟩)++(fps.set k f).flatten) hc ⟨_,_,hO,hset,rfl⟩ (List.nodup_append.2 ⟨n1,?_,fun p hp q hq e=>?_⟩) fun j hj=>?_
  · clear hset hK hO;have key:∀ (fps:List (List Nat)) (k:Nat),fps.flatten.Nodup→fps[k]? = some f0→(∀ j∈f,j∈f0∨j∉fps.flatten)→(fps.set k f).flatten.Nodup:=by
      intro fps;induction fps with
      | nil=>intro k _ h;simp at h
      | cons g gs ih =>
        intro k hn hg hf;rw [List.flatten_cons,List.nodup_append] at hn;cases k with
        | zero =>
          simp at hg;subst hg;rw [List.set_cons_zero,List.flatten_cons,List.nodup_append];refine ⟨hfn,hn.2.1,fun p hp q hq e=>?_⟩;subst e;rcases hf p hp with h | h
          · exact hn.2.2 p h p hq rfl
          · exact h (by rw [List.flatten_cons];exact List.mem_append_right _ hq)
        | succ k =>
          simp at hg;rw [List.set_cons_succ,List.flatten_cons,List.nodup_append];refine ⟨hn.1,ih k hn.2.1 hg (fun j hj=>(hf j hj).imp id fun h h'=>h (by rw [List.flatten_cons];exact List.mem_append_right _ h')),fun p hp q hq e=>?_⟩;subst e;rcases flatten_set_mem hq with hq | hq
          · exact hn.2.2 p hp p hq rfl
          · rcases hf p hq with h | h
            · exact hn.2.2 p hp p (flatten_mem hg h) rfl
            · exact h (by rw [List.flatten_cons];exact List.mem_append_left _ hp)
    exact key fps k n2 hf0 fun j hj=>(hfd j hj).imp id fun h h'=>h (List.mem_append_right _ h')
  · simp only [blks,List.mem_singleton] at hp;subst hp;subst e;rcases hdis p hq with h | h
    · exact hbf p h rfl
    · exact hbnf h
  · rcases List.mem_append.1 hj with hj | hj
    · exact .inl (List.mem_append_left _ hj)
    · rcases hdis j hj with h | h
      · exact .inl (List.mem_append_right _ h)
      · exact .inr h
end Go.Vc
