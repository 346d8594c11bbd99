/- Parts of the proof; no conditions of its own. -/
import Derived.Test.YtalgenmoljcnmaaGreatDoorLibSl
import Derived.Test.YtalgenmoljcnmaaGreatDoorVcWrite
import Derived.Test.YtalgenmoljcnmaaGreatDoorStepM
import Derived.Test.YtalgenmoljcnmaaGreatDoorKeyW
import Derived.Test.YtalgenmoljcnmaaGreatDoorKeyZ
namespace Go.Vc
open Go Go.RowKit
variable {P:Program} {α β:Type} {T:HD} {n t e by_ b k c ty i sz B lo:Nat} {ops:Array Oper} {w0 w w':World} {K:Next->World->Prop} {cs:Array Bool} {zs:List Value} {a:Option Addr} {E E':Ow α} {h:Hd} {x:α} {f fp:List Nat} {hs:List Hd} {xs ys:List α} {fps:List (List Nat)} {R:Rd α}
theorem Cv {S S':Nat->Prop} {x y z:World} (h:BY S x y) (k:BY S' y z) (hb:∀ i,S' i->S i\/x.heap.size<=i):BY S x z :=
 ⟨k.os.trans h.os,k.tape.trans h.tape,k.output.trans h.output,Nat.le_trans h.size k.size,fun i a b=>by
  rw [k.block i (fun c=>(hb i c).elim a (fun d=>by omega)) (Nat.lt_of_lt_of_le b h.size),h.block i a b]⟩
def Lp (L:List Nat) (ops:Array Oper) (i:Nat):Bool:=(List.range ops.size).all fun j=>!L.contains j || (PJ ops i ops.size).contains j
def Eh (L:List Nat) (ops:Array Oper):List (Nat×No)->Bool->Array Bool->Bool
 | [],_,listed=>(Region.ready .any ops listed).isEmpty
 | (i,.any) :: l,d,listed=>(Region.ready .any ops listed).contains i && Region.free .any ops listed i && Eh L ops l d (listed.setIfInBounds i true)
 | (i,.held) :: l,d,listed=>(Region.ready .any ops listed).contains i && Region.free .any ops listed i && !d && Lp L ops i && (match ops[i]? with | some o=>!HJ o.op | none=>false) && Eh L ops l d (listed.setIfInBounds i true)
 | (i,.run) :: l,d,listed=>Region.ready .any ops listed == [i] && !d && Eh L ops l d (listed.setIfInBounds i true)
 | (i,.write) :: l,_,listed=>Region.ready .any ops listed == [i] && L.contains i && Eh L ops l true (listed.setIfInBounds i true)
 | (i,.alone) :: l,d,listed=>Region.ready .any ops listed == [i] && Eh L ops l d (listed.setIfInBounds i true)
def XC (L:List Nat) (ops:Array Oper) (plan:List (Nat×No)):Bool:=Region.noSelect ops && Nat.beq plan.length ops.size && Eh L ops plan false (Array.replicate ops.size false)
theorem OI (L:List Nat) (hT:T.fok P=true) (hok:DF n ops=true) (hs:Region.noSelect ops=true) {Q:Exit->Act->World->Prop} (hQp:∀ c a w,¬ Q (.panic c) a w) {K:Fr->World->Prop} (hQ:∀ f w,K f w->Q .normal (Ay n f) w) :
  ∀ (plan:List (Nat×No)) (d:Bool) (listed:Array Bool) (f:Fr) (w:World),Fs ops listed->Eh L ops plan d listed=true->(d=false->AD w0 w)->Ht P T n w0 ops.toList (EX ops.toList plan) f w K ->
   Ce P .any ops (fun j=>L.contains j) Q (fun w'=>AD w0 w') plan.length listed (Ay n f) w
 | [],d,listed,f,w,_,hB,_,h=>by
  simp only [Eh,List.isEmpty_iff] at hB;exact Gs hB (hQ f w h) _
 | (i,s) :: l,d,listed,f,w,hcl,hB,hw,h=>by
  have hrd:i∈Region.ready .any ops listed:=by
   cases s<;>simp only [Eh,Bool.and_eq_true] at hB
   .simpa using hB.1.1
   .simpa using hB.1.1.1.1.1
   .have:=hB.1.1;simp only [beq_iff_eq] at this;rw [this];simp
   .have:=hB.1.1;simp only [beq_iff_eq] at this;rw [this];simp
   .have:=hB.1;simp only [beq_iff_eq] at this;rw [this];simp
  obtain ⟨_,m,o,_⟩:=mem_ready.1 hrd;have ag:ops.toList[i]? = some m:=by simpa using o
  have y:DH n ops m=true:=by
   unfold DF at hok;rw [List.all_eq_true] at hok;exact hok _ (List.mem_of_getElem? ag)
  have ao:EX ops.toList ((i,s) :: l)=(m,s) :: EX ops.toList l:=by
   unfold EX;rw [List.filterMap_cons_some (b:=(m,s)) (by simp [ag])]
  rw [ao,QH] at h;have g:=Cf y h;have x:=fun (d:Bool) (k:Eh L ops l d (listed.setIfInBounds i true)=true) (f:Fr) (w:World) (hw:d=false->AD w0 w) (h:Ht P T n w0 ops.toList (EX ops.toList l) f w K)=>OI L hT hok hs hQp hQ l d (listed.setIfInBounds i true) f w (FL hcl hrd) k hw h;have take:∀ {ab:Bool} {U:World->Prop} (r:Value),Region.free .any ops listed i=true->Eh L ops l ab (listed.setIfInBounds i true)=true->(ab=false->AD w0 w) ->
    (∀ (j:Nat) (ad:Oper),ops[j]? = some ad->j≠i->j∉PJ ops i ops.size->∀ w w',(AD w0 w->L.contains j=false->AD w0 w')->U w->U w')->U w ->
    (Region.wanted m (yielded ops (Ay n f).tmps)=true->∀ w',U w'->(execOp (Ay n f).eval m).run P w' = .ok (.value r) w')->(Region.wanted m (yielded ops (Ay n f).tmps)=false->r=undef) ->
    Ht P T n w0 ops.toList (EX ops.toList l) (put f m.dst r) w K->Ce P .any ops (fun j=>L.contains j) Q (fun w'=>AD w0 w') (l.length+1) listed (Ay n f) w:=by
   intro ab U r p k z ac aj v ap q;have u:YieldsIf P ops U m r (Ay n f):=by
    cases e:Region.wanted m (yielded ops (Ay n f).tmps) with
    | true=>exact .inl ⟨e,v e⟩
    | false=>exact .inr ⟨e,ap e⟩
   refine GB o (Region.noSelect_spec hs) ac (fun c a w an=>(hQp _ _ _ an).elim) l.length listed (Ay n f) w hcl (Region.free_spec o p) hrd u aj ?_;rw [BJ];exact x ab k _ _ z q
  have alone:Region.ready .any ops listed=[i]->wpOp P ops Q i (fun ah w'=>(AD w0 w->L.contains i=false->AD w0 w')/\Ce P .any ops (fun j=>L.contains j) Q (fun w'=>AD w0 w') l.length (listed.setIfInBounds i true) ah w') (Ay n f) w ->
    Ce P .any ops (fun j=>L.contains j) Q (fun w'=>AD w0 w') (l.length+1) listed (Ay n f) w:=by
   intro t am;refine ⟨fun o=>(by rw [t] at o;cases o),fun j aa=>?_⟩;rw [t] at aa;simp only [List.mem_singleton] at aa;subst aa;exact am
  cases s with
  | any =>
   simp only [Eh,Bool.and_eq_true] at hB;obtain ⟨⟨t,p⟩,k⟩:=hB;split at g
   .rename_i e;obtain ⟨r,v,q⟩:=Dl hT y g;exact take (U:=fun _=>True) r p k hw (fun _ _ _ _ _ _ _ _ _=>trivial) trivial (fun _ w' _=>v w') (fun p=>by rw [e] at p;cases p) q
   .rename_i e;rw [AY] at g;exact take (U:=fun _=>True) undef p k hw (fun _ _ _ _ _ _ _ _ _=>trivial) trivial (fun ae=>absurd ae e) (fun _=>rfl) g
  | held =>
   simp only [Eh,Bool.and_eq_true,o,Bool.not_eq_true'] at hB;obtain ⟨⟨⟨⟨⟨t,p⟩,z⟩,af⟩,ak⟩,k⟩:=hB;have ac:∀ (j:Nat) (ad:Oper),ops[j]? = some ad->j≠i->j∉PJ ops i ops.size->∀ w w',(AD w0 w->L.contains j=false->AD w0 w')->AD w0 w->AD w0 w':=by
    intro j ad aa ar al w w' ai hw;refine ai hw ?_;unfold Lp at af;rw [List.all_eq_true] at af;have:=af j (List.mem_range.2 (Array.getElem?_eq_some_iff.1 aa).1);simp only [Bool.or_eq_true,Bool.not_eq_true',List.contains_iff_mem] at this;rcases this with h | h
    .exact h
    .exact absurd h al
   split at g
   .rename_i e;obtain ⟨r,v,q⟩:=F4 hT y ak g;exact take (U:=fun w'=>AD w0 w') r p k hw ac (hw z) (fun _=>v) (fun p=>by rw [e] at p;cases p) q
   .rename_i e;rw [AY] at g;exact take (U:=fun w'=>AD w0 w') undef p k hw ac (hw z) (fun ae=>absurd ae e) (fun _=>rfl) g
  | run =>
   simp only [Eh,Bool.and_eq_true,Bool.not_eq_true',beq_iff_eq] at hB;obtain ⟨⟨t,z⟩,k⟩:=hB;refine alone t ?_;split at g
   .rename_i e;unfold wpOp;simp only [o,e,if_true];exact .inl (CJ hT y g fun f w' q=>⟨fun _ _=>q.1,x d k _ _ (fun _=>q.1) q.2⟩)
   .rename_i e;rw [AY] at g;have u:YieldsIf P ops (fun _=>True) m undef (Ay n f) := .inr ⟨by simpa using e,rfl⟩;refine u.wpOp o trivial ⟨fun h _=>h,?_⟩;rw [BJ];exact x d k _ _ hw g
  | write =>
   simp only [Eh,Bool.and_eq_true,beq_iff_eq] at hB;obtain ⟨⟨t,aq⟩,k⟩:=hB;refine alone t ?_;split at g
   .rename_i e;unfold wpOp;simp only [o,e,if_true];exact .inl (CJ hT y g fun f w' q=>⟨fun _ h=>by rw [aq] at h;(cases h),x true k _ _ (fun h=>by cases h) q⟩)
   .rename_i e;rw [AY] at g;have u:YieldsIf P ops (fun _=>True) m undef (Ay n f) := .inr ⟨by simpa using e,rfl⟩;refine u.wpOp o trivial ⟨fun h _=>h,?_⟩;rw [BJ];exact x true k _ _ (fun h=>by cases h) g
  | alone =>
   simp only [Eh,Bool.and_eq_true,beq_iff_eq] at hB;obtain ⟨t,k⟩:=hB;refine alone t ?_;split at g
   .rename_i e;obtain ⟨r,v,q⟩:=Dl hT y g;have u:YieldsIf P ops (fun _=>True) m r (Ay n f) := .inl ⟨e,fun w' _=>v w'⟩;refine u.wpOp o trivial ⟨fun h _=>h,?_⟩;rw [BJ];exact x d k _ _ hw q
   .rename_i e;rw [AY] at g;have u:YieldsIf P ops (fun _=>True) m undef (Ay n f) := .inr ⟨by simpa using e,rfl⟩;refine u.wpOp o trivial ⟨fun h _=>h,?_⟩;rw [BJ];exact x d k _ _ hw g
theorem Gj (L:List Nat) (hT:T.fok P=true) (hm:P.follows .mixedOrders=true) (plan:List (Nat×No)) (hok:DF n ops=true) (hB:XC L ops plan=true) {f:Fr} {K:Fr->World->Prop}
  (h:∀ w1,AD w w1->Ht P T n w ops.toList (EX ops.toList plan) f w1 K):E4 P n ops f w K:=by
 unfold E4;intro l;simp only [XC,Bool.and_eq_true] at hB;obtain ⟨⟨e,c⟩,hB⟩:=hB;refine wp_region_any hm (GW (W:=fun g=>L.contains g) (S:=fun i=>AD w i) _ _ _ _ ?_);have a:AD w { w with drawn:=w.drawn+1 }:=⟨rfl,rfl,rfl,Nat.le_refl _,fun _ _=>rfl⟩;have:=OI L hT hok e (Q:=L8 n K (fun _ _ _=>False) (fun _ _=>False)) (fun k j w d=>d.elim) (fun f w b=>⟨f,rfl,b⟩) plan false _ f _ (Gz ops) hB (fun _=>a) (h _ a);rw [Nat.eq_of_beq_eq_true c] at this;exact this
theorem Rq {enc:α->List Value} {z:Value} (ht:Cq P t=some (e,[z],by_)) (he:∀ x,(enc x).length=1) (hz:AE z=true) {tt m:Nat} {hs:List α} (h:Bw enc w (some ⟨b,0,none⟩) n tt hs)
  (hkm:k+m=n) (hm:0<m) (hK:∀ w',OW b w w'->Bw enc w' (some ⟨b,0,none⟩) k tt (hs.take k)->K (.value (.tuple #[])) w') :
  AB P (builtin .clear #[t] ty cs #[.slice (some ⟨b,0+k * 1,none⟩) m c]) w K:=by
 obtain ⟨ai,i,ac,v,ae,ag,ak,am,al⟩:=FF ht;obtain ⟨j,q,r⟩:=h;rcases r with ⟨d,_⟩ | ⟨aj,rest,d,s⟩
 .cases d
 cases d
 have g:(BD enc hs).length=n:=by rw [B0 he,j];omega
 have af:(Builtin.zeroCells i.cells m).toList=List.replicate m z:=by
  have:i.cells = #[z]:=by rw [<- Array.toList_inj,ag]
  rw [this];simp [Builtin.zeroCells];apply List.ext_getElem
  .simp
  .intro ai j q;simp [Nat.mod_one]
 obtain ⟨w',aa,f,u⟩:=Hg (P:=P) (List.replicate m z) (BD enc hs++rest) k 0 w s (by rw [List.length_append,g,List.length_replicate];omega) (by intro an ad;rw [List.eq_of_mem_replicate ad];exact hz);have ah:(zeroValue e).run P w = .ok i w:=by
  simp [zeroValue,typeInfo,v,ae]
 obtain ⟨a,rfl⟩:∃ a,m=a+1:=⟨m - 1,om⟩;refine A1 (w':=w') ?_ (hK w' u ?_)
 .have l:(⟨b,0+k * 1,none⟩:Addr)=⟨b,k,none⟩:=sI
  rw [l];simp [builtin,Builtin.clear_,run_underlying ac,ah,af,aa]
 .refine ⟨by rw [List.length_take];omega,om,.inr ⟨b,List.replicate (a+1) z++rest,rfl,?_⟩⟩;rw [Nat.add_zero,Ic _ _ _ (by rw [List.length_append,g,List.length_replicate];omega)] at f;have o:(BD enc hs++rest).take k=BD enc (hs.take k):=by
   have ab:BD enc hs=BD enc (hs.take k)++BD enc (hs.drop k):=by rw [<- FJ,List.take_append_drop]
   have y:(BD enc (hs.take k)).length=k:=by rw [B0 he,List.length_take];omega
   rw [ab,List.append_assoc,List.take_left' y]
  have p:(BD enc hs++rest).drop (k+(List.replicate (a+1) z).length)=rest:=by
   rw [List.length_replicate,hkm,List.drop_left' g]
  rw [o,p,List.append_assoc] at f;exact f
def Vi (P:Program) (t i off:Nat):Bool :=
 match P.underlying t with
 | some (.struct fields)=>match fields[i]? with
  | some f=>Nat.beq f.offset off && DE P f.type
  | none=>false
 | _=>false
theorem AB.field (off:Nat) (ht:Vi P t i off=true) {cs:Array Value} {v:Value} (hv:cs[off]? = some v) {K:Value->World->Prop} (hK:K v w):AB P (Instr.field t (.agg cs) i) w K:=by
 unfold Vi at ht;split at ht<;>try cases ht
 rename_i g d;split at ht<;>try cases ht
 rename_i f b;rw [Bool.and_eq_true] at ht;obtain ⟨e,l,k,h,j,a⟩:=HG ht.2;have c:=Nat.eq_of_beq_eq_true ht.1;refine A1 (w':=w) ?_ hK;have a:=congrFun a w;simp [Instr.field,run_underlying d,b,asAgg,part,a,c,hv]
theorem BN.build {pl:List (Nat×Nat)} (h:Ej P t=some (zs,pl)) {parts:List (Nat×Value)} {out:List Value} (ho:QU pl zs parts=some out) {K:Value->Prop} (hK:K (.agg ⟨out⟩)) :
  BN P (Instr.build t parts.toArray) w K:=Ed (fun _ _=>AB.build h ho ⟨rfl,rfl⟩) hK
theorem Ro (ht:CL P t=some sz) (h:Nat) (hh:h<=n) (hn:n<=c) {k':IntKind} {K:Value->World->Prop} (hK:K (.slice a h c) w):AB P (Instr.sliceAt t (.slice a n c) none (some (.int k' h)) none) w K:=by
 refine A1 (EF (k := .i64) ht (Nat.zero_le h) hh hn (.inl ⟨rfl,rfl⟩) (.inr rfl) w) ?_;have b:(if c=0 then a else a.map (·.add (0 * sz)))=a:=by
  split
  .rfl
  .rw [Nat.zero_mul];cases a with
   | none=>rfl
   | some d=>simp [Sv]
 rw [b];exact hK
theorem Qr (ht:CL P t=some sz) (l:Nat) (hl:l<=n) (hn:n<=c) (hlc:l<c) {k:IntKind} {K:Value->World->Prop} (hK:K (.slice (some ⟨b,0+l * sz,none⟩) (n - l) (c - l)) w):AB P (Instr.sliceAt t (.slice (some ⟨b,0,none⟩) n c) (some (.int k l)) none none) w K:=by
 refine A1 (EF (k' := .i64) ht hl (Nat.le_refl n) hn (.inr rfl) (.inl ⟨rfl,rfl⟩) w) ?_;rw [if_neg om];have a:(some (⟨b,0,none⟩:Addr)).map (·.add (l * sz))=some ⟨b,0+l * sz,none⟩:=by simp [Cu]
 rw [a];exact hK
def HM {α β:Type} (p:α->Bool):List α->List β->List β
 | x :: xs,y :: ys=>if p x=true then y :: HM p xs ys else HM p xs ys
 | _,_=>[]
theorem OL (p:α->Bool):∀ (xs:List α) (ys:List β),xs.length=ys.length->(HM p xs ys).length=(xs.filter p).length
 | [],ys,_=>rfl
 | x :: xs,[],h=>by simp at h
 | x :: xs,y :: ys,h=>by
  have:=OL p xs ys (by simpa using h);unfold HM;rw [List.filter_cons];split<;>simp [this]
theorem SV (p:α->Bool) (x:α) (y:β):∀ (xs:List α) (ys:List β),xs.length=ys.length->HM p (xs++[x]) (ys++[y])=if p x=true then HM p xs ys++[y] else HM p xs ys
 | [],[],_=>by simp [HM]
 | [],_ :: _,h=>by simp at h
 | _ :: _,[],h=>by simp at h
 | a :: xs,b :: ys,h=>by
  have:=SV p x y xs ys (by simpa using h);simp only [List.cons_append,HM,this];split<;>split<;>simp
theorem Vf (p:α->Bool):∀ (xs:List α) (fps:List (List Nat)),(HM p xs fps).flatten.Sublist fps.flatten
 | [],fps=>by simp [HM]
 | _ :: _,[]=>by simp [HM]
 | x :: xs,f :: fps=>by
  have:=Vf p xs fps;unfold HM;split
  .simp only [List.flatten_cons];exact List.Sublist.append (List.Sublist.refl _) this
  .simp only [List.flatten_cons];exact this.trans (List.sublist_append_right _ _)
theorem HY.cons {α:Type} {E:Ow α} {w:World} {h:Hd} {x:α} {f:List Nat} {hs:List Hd} {xs:List α} {fps:List (List Nat)} (hx:E w h x f) (ht:HY E w hs xs fps):HY E w (h :: hs) (x :: xs) (f :: fps):=by
 refine ⟨by simp [ht.1],by simp [ht.2.1],fun a e i g b c d=>?_⟩;cases a with
 | zero=>simp at b c d;subst b;subst c;subst d;exact hx
 | succ a=>exact ht.2.2 a e i g (by simpa using b) (by simpa using c) (by simpa using d)
theorem HY.tail {α:Type} {E:Ow α} {w:World} {h:Hd} {x:α} {f:List Nat} {hs:List Hd} {xs:List α} {fps:List (List Nat)} (H:HY E w (h :: hs) (x :: xs) (f :: fps)):E w h x f/\HY E w hs xs fps :=
 ⟨H.2.2 0 h x f rfl rfl rfl,by simpa using H.1,by simpa using H.2.1,fun c a i b d e g=>H.2.2 (c+1) a i b (by simpa using d) (by simpa using e) (by simpa using g)⟩
theorem HY.filter (p:α->Bool):∀ {hs:List Hd} {xs:List α} {fps:List (List Nat)},HY E w hs xs fps->HY E w (HM p xs hs) (xs.filter p) (HM p xs fps)
 | [],[],[],_=>HY.nil
 | h :: hs,x :: xs,f :: fps,H=>by
  have h1:=H.tail;have a:=HY.filter p h1.2;unfold HM;rw [List.filter_cons];split
  .exact a.cons h1.1
  .exact a
 | [],_ :: _,_,H=>by have:=H.1;simp at this
 | _ :: _,[],_,H=>by have:=H.1;simp at this
 | [],[],_ :: _,H=>by have:=H.2.1;simp at this
 | _ :: _,_ :: _,[],H=>by have:=H.2.1;simp at this
theorem Ja (h:k∈(fps.set i f).flatten):k∈fps.flatten\/k∈f:=by
 obtain ⟨c,a,b⟩:=List.mem_flatten.1 h;rcases List.mem_or_eq_of_mem_set a with a | rfl
 .exact .inl (List.mem_flatten.2 ⟨c,a,b⟩)
 .exact .inr b
theorem Bx.ext {α:Type} {E:Ow α} {R:Rd α} [LH E R] {B e:Nat} {w w':World} {a:Option Addr} {n c:Nat} {xs:List α} {fp:List Nat} (h:Bx E B e w a n c xs fp) (x:AD w w'):Bx E B e w' a n c xs fp:=by
 obtain ⟨k,f,g,b,i⟩:=h;exact ⟨k,f,g.ext x,b.keep (fun d j=>x.block d (b.lt d j)),i⟩
theorem Bx.keep {α:Type} {E:Ow α} {R:Rd α} [LH E R] {B e:Nat} {w w':World} {a:Option Addr} {n c:Nat} {xs:List α} {fp:List Nat} (h:Bx E B e w a n c xs fp) (hk:∀ k∈fp,w'.heap[k]? = w.heap[k]?):Bx E B e w' a n c xs fp:=by
 obtain ⟨g,b,d,f,rfl⟩:=h;exact ⟨g,b,d.kept (fun j i=>hk _ (List.mem_append_left _ (A2.2 ⟨j,i,rfl⟩))),f.keep (fun k h=>hk k (List.mem_append_right _ h)),rfl⟩
theorem Bx.lt {α:Type} {E:Ow α} {R:Rd α} [LH E R] {B e:Nat} {w:World} {a:Option Addr} {n c:Nat} {xs:List α} {fp:List Nat} (h:Bx E B e w a n c xs fp):∀ k∈fp,k<w.heap.size:=h.own.lt
theorem Bx.le {α:Type} {E:Ow α} {B e:Nat} {w:World} {a:Option Addr} {n c:Nat} {xs:List α} {fp:List Nat} (h:Bx E B e w a n c xs fp):n<=c/\xs.length=n:=by
 obtain ⟨i,f,b,d,g⟩:=h;exact ⟨b.le.1,by rw [<- d.1,b.len]⟩
theorem Eu (h:CD w b [] e) (hB:B<=b):Bx E B e w (some ⟨b,0,none⟩) 0 0 ([]:List α) [b]:=⟨[],[],Ab Es h hB,HY.nil,by simp [BU]⟩
theorem Bx.blk {α:Type} {E:Ow α} {B e:Nat} {w:World} {a:Option Addr} {n c:Nat} {xs:List α} {fp:List Nat} (h:Bx E B e w a n c xs fp):∀ k,AN a k->k∈fp:=by
 obtain ⟨i,d,f,g,rfl⟩:=h;exact fun k b=>List.mem_append_left _ (A2.2 b)
theorem CY {P:Program} {α:Type} {E:Ow α} {R:Rd α} [LH E R] {t e by_ lo:Nat} {zs:List Value} (ht:Cq P t=some (e,zs,by_)) (hz:zs.length=1) {w:World} {a:Option Addr} {n c:Nat} {xs:List α} {fp:List Nat} (h:Bx E lo e w a n c xs fp) (hnd:fp.Nodup) (hlo:lo<=w.heap.size)
  {b c':Nat} {d:Hd} {x:α} {f:List Nat} (hd:E w d x f) (hf:f.Nodup) (hdj:∀ k∈f,k∉fp) (hy:AK w b 0 (eH d)) (hsm:n+1<=1099511627776) (hby:(n+1) * by_<=140737488355328) {ty:Nat} {cs:Array Bool} {K:Next->World->Prop}
  (hK:∀ a' c' w' fp',Bx E lo e w' a' (n+1) c' (xs++[x]) fp'->fp'.Nodup->(∀ k∈fp',k∈fp\/k∈f\/k=w.heap.size)->BY (AN a) w w'->K (.value (.slice a' (n+1) c')) w') :
  AB P (builtin .append #[t,t] ty cs #[.slice a n c,.slice (some ⟨b,0,none⟩) 1 c']) w K:=by
 obtain ⟨ac,j,s,u,rfl⟩:=h;rw [<- hz] at s;refine BR ht (fun x=>by rw [hz];rfl) s (ys:=[d]) (m:=1) hy rfl (by simp [BD,eH,AE]) hsm hby hlo ?_;intro a' af w' v p ag;rw [hz] at v;obtain ⟨aj,ai,ad⟩:=List.nodup_append.1 hnd;have z:∀ k∈f,k<w.heap.size:=LH.lt hd;have y:∀ k∈j.flatten,k<w.heap.size:=u.lt;have aa:∀ k,k∈BU a'->k∈BU a\/k=w.heap.size:=fun k g=>(ag k (A2.1 g)).imp (fun h=>A2.2 h) id;refine hK a' af w' (BU a'++(j++[f]).flatten) ⟨ac++[d],j++[f],v,?_,rfl⟩ ?_ ?_ p
 .have ah:HY E w' ac xs j:=(u.keep fun k g=>p.block k (fun q=>ad k (A2.2 q) k g rfl) (y k g));exact ah.snoc (LH.keep hd fun k g=>p.block k (fun q=>hdj k g (List.mem_append_left _ (A2.2 q))) (z k g))
 .have o:(j++[f]).flatten=j.flatten++f:=sI
  rw [o];refine List.nodup_append.2 ⟨?_,List.nodup_append.2 ⟨ai,hf,fun l r ae i e=>hdj ae i (e▸List.mem_append_right _ r)⟩,fun l r ae i e=>?_⟩
  .cases a' with
   | none=>simp [BU]
   | some ak=>simp [BU]
  .subst e;rcases aa l r with ab | rfl
   .rcases List.mem_append.1 i with i | i
    .exact ad l ab l i rfl
    .exact hdj l i (List.mem_append_left _ ab)
   .rcases List.mem_append.1 i with i | i
    .have:=y _ i;omega
    .have:=z _ i;omega
 .intro k g;have o:(j++[f]).flatten=j.flatten++f:=sI
  rw [o] at g;rcases List.mem_append.1 g with g | g
  .rcases aa k g with g | g
   .exact .inl (List.mem_append_left _ g)
   .exact .inr (.inr g)
  .rcases List.mem_append.1 g with g | g
   .exact .inl (List.mem_append_right _ g)
   .exact .inr (.inl g)
theorem UM.app {α:Type} {R:Rd α} {w:World} {hs gs:List Hd} {xs ys:List α} (h:UM R w hs xs) (g:UM R w gs ys):UM R w (hs++gs) (xs++ys):=by
 refine ⟨by simp [h.1,g.1],fun e d f a c=>?_⟩;rcases Nat.lt_or_ge e hs.length with b | b
 .rw [List.getElem?_append_left b] at a;rw [List.getElem?_append_left (by rw [<- h.1];exact b)] at c;exact h.2 e d f a c
 .rw [List.getElem?_append_right b] at a;rw [List.getElem?_append_right (by rw [<- h.1];exact b)] at c;rw [h.1] at a;exact g.2 _ d f a c
theorem Ou {P:Program} {α:Type} {E:Ow α} {R:Rd α} [LH E R] [RdE R] {t e by_ lo:Nat} {zs:List Value} (ht:Cq P t=some (e,zs,by_)) (hz:zs.length=1) {w0 w:World} (e0:AD w0 w) {a a2:Option Addr} {n c n2 c2:Nat} {xs ys:List α} (h:BZ E lo e w a n c xs) (h0:w0.heap.size<=lo) (h1:lo<=w.heap.size) (h2:Ar R w0 a2 n2 ys)
  (hsm:n+n2<=1099511627776) (hby:(n+n2) * by_<=140737488355328) {ty:Nat} {cs:Array Bool} {K:Next->World->Prop}
  (hK:∀ a' c' w',Ar R w' a' (n+n2) (xs++ys)->n+n2<=c'->AD w0 w'->K (.value (.slice a' (n+n2) c')) w') :
  AB P (builtin .append #[t,t] ty cs #[.slice a n c,.slice a2 n2 c2]) w K:=by
 obtain ⟨l,u,j,k,v⟩:=h;obtain ⟨x,p,q⟩:=h2;refine AM (enc:=eH) ht (fun o=>by rw [hz];rfl) (by rw [hz];exact j) (by rw [hz];exact p.ext e0) (by intro af _;simp [eH,AE]) hsm hby h1 ?_;intro r s g f m ac;rw [hz] at f;obtain ⟨ad,ae,ab⟩:=List.nodup_append.1 v.1;have d:HY E g l xs u:=k.keep fun b d=>m.block b (fun y=>ab b (A2.2 y) b d rfl) (k.lt b d);have z:∀ b,AN a b->w0.heap.size<=b:=fun b ⟨o,aa,d⟩=>by have:=j.new o aa;omega
 have i:AD w0 g:=xm e0 m z;exact hK r s g ⟨l++x,f.own.arr Es,d.rd.app (q.ext i)⟩ f.le.1 i
def OG {α:Type} (E:Ow α) (te:Nat):Ow (List α):=fun w h xs fp=>∃ B,Bx E B te w h.a h.n h.c xs fp
instance {α:Type} {E:Ow α} {R:Rd α} [LH E R] {te:Nat}:LH (OG E te) (RS R) where
 keep:=fun ⟨B,h⟩ hk=>⟨B,h.keep hk⟩
 lt:=fun ⟨_,h⟩=>h.lt
 rd:=fun ⟨_,h⟩=>⟨h.own.arr,h.le.1⟩
theorem OG.os {te:Nat} {x:List α} (H:OG E te w h x fp):OS E w h x fp:=by
 obtain ⟨a,H⟩:=H;exact ⟨⟨te,H.own⟩,H.le.1⟩
theorem HY.imp {α:Type} {E E':Ow α} {w:World} {hs:List Hd} {xs:List α} {fps:List (List Nat)} (H:HY E w hs xs fps) (h:∀ d x f,E w d x f->E' w d x f):HY E' w hs xs fps :=
 ⟨H.1,H.2.1,fun c a j b e g i=>h _ _ _ (H.2.2 c a j b e g i)⟩
theorem EO.imp {α:Type} {E E':Ow α} {w:World} {a:Option Addr} {n t:Nat} {xs:List α} {fp:List Nat} (H:EO E w a n t xs fp) (h:∀ d x f,E w d x f->E' w d x f):EO E' w a n t xs fp:=by
 obtain ⟨i,b,c,e,g⟩:=H;exact ⟨i,b,c,e.imp h,g⟩
theorem EO.hand [LH E R] {u:World} (h:EO E u a n t xs fp) (hnd:fp.Nodup) {x0:α} (hx0:xs[k]? = some x0) :
  ∃ b d0 f0,a=some ⟨b,0,none⟩/\b∈fp/\AK u b (0+k * 1) (eH d0)/\E u d0 x0 f0/\f0.Nodup/\b∉f0/\(∀ j∈f0,j∈fp) /\
   ∀ (P:Program) (ty:Nat) (w:World) (d:Hd) (x:α) (f:List Nat),DE P ty=true->BY (fun j=>j∈f0) u w->E w d x f->f.Nodup->(∀ j∈f,j∈f0\/j∉fp) ->
    ∀ K:Unit->World->Prop,(∀ w' fp',OW b w w'->EO E w' (some ⟨b,0,none⟩) n t (xs.set k x) fp'->fp'.Nodup->(∀ j∈fp',j∈fp\/j∈f)->K () w') ->
     AB P (Instr.storeAt ty (.pointer (some ⟨b,0+k * 1,none⟩)) (.slice d.a d.n d.c)) w K:=by
 obtain ⟨an,g,z,q,rfl⟩:=h;have ay:=(List.getElem?_eq_some_iff.1 hx0).1;obtain ⟨d0,ae⟩:∃ d,an[k]? = some d:=⟨_,List.getElem?_eq_getElem (by rw [q.1];exact ay)⟩;obtain ⟨f0,aa⟩:∃ f,g[k]? = some f:=⟨_,List.getElem?_eq_getElem (by rw [q.2.1];exact ay)⟩;obtain ⟨ba,a0,bb⟩:=List.nodup_append.1 hnd;obtain ⟨bc,bd⟩:=L7 a0 aa;have a7:0<n:=by rw [<- z.1,q.1];omega
 obtain ⟨b,rfl⟩:=z.some a7;have aj:∀ j∈g.flatten,j≠b:=fun j e o=>bb b (by simp [BU]) j e o.symm;have aw:∀ j∈f0,j∈g.flatten:=fun j e=>F2 aa e;have ai:b∉f0:=fun ah=>aj b (aw b ah) rfl;refine ⟨b,d0,f0,rfl,by simp [BU],AT Es z ae,q.2.2 k d0 x0 f0 ae hx0 aa,bc,ai,fun j e=>List.mem_append_right _ (aw j e),?_⟩;intro P ty w d x f a8 ao a4 a5 ax K aq;have a3:b<u.heap.size:=z.lt _ rfl;have a2:Bw eH w (some ⟨b,0,none⟩) n t an:=z.keep fun j e=>by
  simp only [BU,List.mem_singleton] at e;subst e;exact ao.block j ai a3
 have au:b∉f:=fun ah=>by
  rcases ax b ah with h | h
  .exact ai h
  .exact h (by simp [BU])
 refine C5 (j:=0) a8 Es a2 ae om (v := .slice d.a d.n d.c) rfl d rfl fun w' ak ar=>?_;have az:HY E w' (an.set k d) (xs.set k x) (g.set k f):=by
  refine ⟨by simp [q.1],by simp [q.2.1],fun j h be af ac ad y=>?_⟩;by_cases am:j=k
  .subst am;rw [Eo ae] at ac;rw [Eo hx0] at ad;rw [Eo aa] at y;simp only [Option.some.injEq] at ac ad y;subst ac;subst ad;subst y;exact LH.keep a4 fun i r=>ak.block i (fun o=>au (o▸r))
  .rw [List.getElem?_set_ne (Ne.symm am)] at ac ad y;have ap:=q.2.2 j h be af ac ad y;refine LH.keep ap fun i r=>?_;have a6:i∈g.flatten:=F2 y r;rw [ak.block i (aj i a6),ao.block i (bd j af am y i r) (LH.lt ap i r)]
 have av:∀ i∈(g.set k f).flatten,i∈g.flatten\/i∈f:=fun i r=>Ja r;refine aq w' (BU (some ⟨b,0,none⟩)++(g.set k f).flatten) ak ⟨_,_,ar,az,rfl⟩ (List.nodup_append.2 ⟨ba,?_,fun l p a1 m o=>?_⟩) fun j e=>?_
 .clear az aq ar;have a':∀ (g:List (List Nat)) (k:Nat),g.flatten.Nodup->g[k]? = some f0->(∀ j∈f,j∈f0\/j∉g.flatten)->(g.set k f).flatten.Nodup:=by
   intro g;induction g with
   | nil=>intro k _ h;simp at h
   | cons af bf a9 =>
    intro k s ab al;rw [List.flatten_cons,List.nodup_append] at s;cases k with
    | zero =>
     simp at ab;subst ab;rw [List.set_cons_zero,List.flatten_cons,List.nodup_append];refine ⟨a5,s.2.1,fun l p a1 m o=>?_⟩;subst o;rcases al l p with h | h
     .exact s.2.2 l h l m rfl
     .exact h (by rw [List.flatten_cons];exact List.mem_append_right _ m)
    | succ k =>
     simp at ab;rw [List.set_cons_succ,List.flatten_cons,List.nodup_append];refine ⟨s.1,a9 k s.2.1 ab (fun j e=>(al j e).imp id fun h ag=>h (by rw [List.flatten_cons];exact List.mem_append_right _ ag)),fun l p a1 m o=>?_⟩;subst o;rcases Ja m with m | m
     .exact s.2.2 l p l m rfl
     .rcases al l m with h | h
      .exact s.2.2 l p l (F2 ab h) rfl
      .exact h (by rw [List.flatten_cons];exact List.mem_append_left _ p)
  exact a' g k a0 aa fun j e=>(ax j e).imp id fun h ag=>h (List.mem_append_right _ ag)
 .simp only [BU,List.mem_singleton] at p;subst p;subst o;rcases av l m with h | h
  .exact aj l h rfl
  .exact au h
 .rcases List.mem_append.1 e with e | e
  .exact .inl (List.mem_append_left _ e)
  .rcases av j e with h | h
   .exact .inl (List.mem_append_right _ h)
   .exact .inr h
end Go.Vc
namespace Go.M
open Go Go.Vc
variable {c:UInt8} {t:ByteArray} {k:Nat} {l:List UInt8}
theorem Y9 (l:List UInt8) (c:UInt8):decide (0<=Lib.indexByte l c)=decide (c∈l):=by
 induction l with
 | nil=>rfl
 | cons e l b =>
  have i:=Lib.indexByte_ge l c;unfold Lib.indexByte;by_cases d:e=c
  .subst d;simp
  .rw [if_neg (by simpa using d)];have h:¬ c=e:=fun f=>d f.symm;by_cases a:c∈l
   .rw [decide_eq_true a] at b;have g:=of_decide_eq_true b;rw [if_neg (by simp;omega)];simp [a];omega
   .rw [decide_eq_false a] at b;have g:=of_decide_eq_false b;rw [if_pos (by simp;omega)];simp [a,h]
theorem Z3 (h:Lo c=true):LJ c.toNat:=by
 have a:c∈Mf:=of_decide_eq_true h;have b:∀ c∈Mf,LJ c.toNat:=by
  unfold LJ Mf;decide
 exact b c a
theorem Z4 (h:CM t=true) (hc:t.data.toList[k]? = some c):Lo c=true:=List.all_eq_true.1 h c (List.mem_of_getElem? hc)
theorem Wn (hx:l[k]? = some c) (h:(l.take k).all Lo=true) (hp:Lo c=true):(l.take (k+1)).all Lo=true:=by
 rw [List.take_add_one,hx];simp [h,hp]
theorem YH (hx:l[k]? = some c) (hp:Lo c=false):l.all Lo=false:=by
 rw [List.all_eq_false];exact ⟨c,List.mem_of_getElem? hx,by simp [hp]⟩
def GJ (t:ByteArray) (k:Nat):List Int:=((t.data.toList.take k).map fun c=>EA c.toNat)++List.replicate (t.size - k) 0
theorem Ta (t:ByteArray):GJ t 0=List.replicate t.size 0:=by simp [GJ]
theorem Tb (hc:t.data.toList[k]? = some c):(GJ t k).set k (EA c.toNat)=GJ t (k+1):=by
 have e:k<t.size:=by
  have:=(List.getElem?_eq_some_iff.1 hc).1;simpa using this
 unfold GJ;obtain ⟨a,b⟩:∃ a,t.size - k=a+1:=⟨t.size - k - 1,om⟩;have d:((t.data.toList.take k).map fun c=>EA c.toNat).length=k:=by simp;omega
 rw [List.take_add_one,hc,b,show t.size - (k+1)=a by omega,List.set_append_right _ _ om,d,Nat.sub_self];simp [List.replicate_succ]
theorem Ut (h:t.size<=k):GJ t k=CR t:=by
 unfold GJ CR;rw [List.take_of_length_le (by simpa using h),show t.size - k=0 by omega];simp
theorem Us (t:ByteArray) (h:k<=t.size):(GJ t k).length=t.size:=by
 simp [GJ];omega
end Go.M
namespace Go.Proofs.YtalgenmoljcnmaaGreatDoor
open Go Go.RowKit Go.Vc Go.M
variable {n:Nat} {t:ByteArray}
theorem Il (c:UInt8) (w:World):Dq 263 [.int .u8 c.toNat] w (fun v w'=>v = .bool (Lo c)/\AD w w'):=by
 refine oV Tryz.func263 ?_;refine (IS _ _ _).mono ?_;rintro _ _ ⟨rfl,rfl⟩;refine ⟨?_,AD.refl _⟩
 .exact congrArg Value.bool (Y9 Mf c)
theorem DJ (t:ByteArray) (ht:t.size<=1048576) (w:World):Dq 200 [.string t] w (fun v w'=>v = .bool (CM t)/\AD w w'):=by
 refine oV Tryz.func200 ?_;refine lR [0,3] (fun (a:Nat) j w'=>j=[.string t,.int .i64 a]/\a<=t.size/\(t.data.toList.take a).all Lo=true/\AD w w') (fun a=>t.size - a) 0 ⟨rfl,om,sI,AD.refl _⟩ ?_;rintro a l _ w' ⟨rfl,m,g,f⟩;have n:t.data.toList.length=t.size:=sI
 rcases Nat.lt_or_ge a t.size with i | i
 .obtain ⟨d,b⟩:∃ d,t.data.toList[a]? = some d:=AA om;cases h:Lo d
  .have c:CM t=false:=YH b h;rw [c];exact iY<|jC a rfl b<|dM (Il _ _) fun k e=>iT ⟨rfl,(xt f e)⟩
  .have c:=Wn b g h;exact iY<|jC a rfl b<|dM (Il _ _) fun k e=>iF<|jP (((a+1:Nat):Int)) ⟨a+1,om,rfl,om,om,(xt f e)⟩
 .rw [List.take_of_length_le om] at g;have c:CM t=true:=g;rw [c];exact iN ⟨rfl,f⟩
theorem Wb (hn:n<=1000) (w:World):Dq 264 [.int .i64 n] w (fun v w'=>∃ b,v = .agg #[.slice (some ⟨b,0,none⟩) n n]/\w.heap.size<=b/\Ai eI 1 w.heap.size 2 w' (some ⟨b,0,none⟩) n n (List.replicate n 0)/\AD w w'):=by
 refine oV Tryz.func264 ?_;refine jN (z := .agg #[.slice none 0 0]) ?_;intro m p j l d f;refine AB.make B5 (n) rfl om om ?_;intro i q k o e g;have a:=JR (enc:=eI) (z:=(0:Int)) AI rfl g k om;exact AB.build Jm rfl<|AW (vs:=[Value.slice (some { block:=i,off:=0 }) n n]) kR (f.ext e) rfl rfl (by simp [AE]) fun r c h=>AP (jR (n:=1) rfl h.cells) ⟨_,rfl,om,((a.mod c.but (Gh a.new l (Nat.le_refl _))).base (Below.size d)),(xb (xt d e) c.but j)⟩
theorem J5 (ht:CM t=true) (hn:t.size=n) (hn2:n<=1000) (w:World):Dq 201 [.string t,.int .i64 n] w (fun v w'=>∃ b,v = .agg #[.slice (some ⟨b,0,none⟩) n n]/\w.heap.size<=b/\Ai eI 1 w.heap.size 2 w' (some ⟨b,0,none⟩) n n (CR t)/\AD w w'):=by
 refine oV Tryz.func201 ?_;refine jN (z := .agg #[.slice none 0 0]) ?_;intro y af am ad p ak;refine (Wb hn2 _).mono ?_;rintro _ av ⟨c,rfl,ae,x,q⟩;refine jN (z := .agg #[.slice none 0 0]) fun l a' ax a6 h al=>AW (vs:=[Value.slice (some { block:=c,off:=0 }) n n]) kR al rfl rfl (by simp [AE]) ?_;intro a7 m ah;have a1:=p.size;have a2:=q.size;have a3:=h.size;have az:c<av.heap.size:=x.lt _ rfl;refine lR [0,4,5,6] (fun (a:Nat) ar w'=>ar=[.string t,.pointer (some ⟨y,0,none⟩),.pointer (some ⟨l,0,none⟩),.int .i64 a]/\a<=n/\Ai eI 1 af.heap.size 2 w' (some ⟨c,0,none⟩) n n (GJ t a)/\CD w' y [.slice none 0 0] 144/\CD w' l [.slice (some ⟨c,0,none⟩) n n] 144/\AD af w') (fun a=>n - a) 0 ⟨rfl,om,?_,?_,?_,?_⟩ ?_
 .rw [Ta,hn];exact ((x.mod (AD.mod (S:=fun _=>False) h) (fun _ _ i=>i)).base (Nat.le_refl _)).mod m.but (by rintro ag aq;cases aq;show ¬ c=_;omega)
 .exact (ak.ext (xt q h)).mod m.but om
 .exact ah
 .exact (xb (xt q h) m.but om)
 rintro a aw _ w' ⟨rfl,a0,f,ab,r,ac⟩;rcases Nat.lt_or_ge a n with ap | ap
 .obtain ⟨g,s⟩:∃ g,t.data.toList[a]? = some g:=AA (by simp;omega);have an:=Z3 (Z4 ht s);have a4:=Tb s;refine iY<|Av A8 mixed (pZ [0,10,15,20,6,26,32,35,43]) kR kR fun au d=>dL r.cells (k:=0) rfl<|Wy kR a rfl s<|dM (KA an _) fun a8 e=>⟨(xt d e),?_⟩;obtain ⟨ba,u⟩:∃ ag,(GJ t a)[a]? = some ag:=AA (by rw [Us t om];omega);refine pW (sz:=1) a rfl om ?_;have ay:=AT AI f.own u;refine HC (k:=a) (j:=0) kR AI (f.ext (xt d e)) u dE rfl (EA g.toNat) rfl ?_;intro a9 o aj;have a5:=Eo u ((EA g.toNat));refine jP (((a+1:Nat):Int)) ⟨a+1,om,rfl,om,by simpa [List.take_add_one,-List.take_append_getElem, *] using aj,((ab.ext (xt d e)).mod o.but (aB0 ad ae (Nat.le_refl _))),?_,(xb (xt (xt ac d) e) o.but ae)⟩
  .exact (r.ext (xt d e)).mod o.but (fun i=>by have i:l=c:=i;omega)
 .have ao:=Ut (t:=t) (k:=a) om;rw [ao] at f;exact iN<|jA (n:=1) r.cells rfl<|AW (vs:=[Value.slice (some { block:=c,off:=0 }) n n]) kR ab rfl rfl (by simp [AE]) fun au aa ai=>AP (jR (n:=1) rfl ai.cells) ⟨_,rfl,om,((f.mod aa.but (Gh f.new ad (Nat.le_refl _))).base (Below.size p)),(xb (xt p ac) aa.but am)⟩
theorem QC (ht:t.size<=1048576) (w:World):Dq 132 [.string t,.int .i64 t.size] w (fun v w'=>∃ a n c,v = .tuple #[.agg #[.slice a n c],.int .i64 (CG t)]/\(CG t=0->Ad w.heap.size a/\Ai eI 1 w.heap.size 2 w' a n c (CR t))/\AD w w'):=by
 unfold CG;cases g:Dc t.size 1 20
 .refine oV Tryz.func132 ?_;conv=>whnf
  refine jN (z := .agg #[.slice none 0 0]) ?_;intro ad ai y ae x m;refine (B8 _ _ _ _).mono ?_;rintro _ _ ⟨rfl,rfl⟩;refine iT ?_;refine AB.build Jm rfl ?_;refine jS (vs:=[Value.slice none 0 0]) m rfl rfl (by simp [AE]) ?_;intro aj s o;refine AP (jR (n:=1) rfl o.cells) ?_;exact ⟨_,_,_,rfl,by simp [g],(xb x s.but y)⟩
 .cases k:CM t
  .refine oV Tryz.func132 ?_;refine jN (z := .agg #[.slice none 0 0]) ?_;intro q ab f aa d e;refine (B8 _ _ _ _).mono ?_;rintro _ _ ⟨rfl,rfl⟩;refine iF ?_;refine iN ?_;refine (DJ _ ht _).mono ?_;rintro _ ac ⟨rfl,b⟩;refine iT ?_;refine AB.build Jm rfl ?_;refine jS (vs:=[Value.slice none 0 0]) (e.ext b) rfl rfl (by simp [AE]) ?_;intro ak u p;refine AP (jR (n:=1) rfl p.cells) ?_;exact ⟨_,_,_,rfl,by simp [g,k],(xb (xt d b) u.but f)⟩
  .refine oV Tryz.func132 ?_;conv=>whnf
   refine jN (z := .agg #[.slice none 0 0]) ?_;intro q ab f aa d e;refine (B8 _ _ _ _).mono ?_;rintro _ _ ⟨rfl,rfl⟩;refine iF ?_;refine iN ?_;refine (DJ _ ht _).mono ?_;rintro _ ac ⟨rfl,b⟩;refine iF ?_;refine (J5 k om (by have:=Bs g;omega) _).mono ?_;rintro _ ag ⟨r,rfl,af,h,j⟩;refine AW (vs:=[Value.slice (some { block:=r,off:=0 }) t.size t.size]) kR (e.ext (xt b j)) rfl rfl (by simp [AE]) ?_;intro ah i l;refine AP (jR (n:=1) rfl l.cells) ?_;refine ⟨_,_,_,rfl,?_,(xb (xt (xt d b) j) i.but f)⟩
   .exact fun _=>⟨Ad.some (by have:=d.size;have:=b.size;omega),((h.mod i.but (Gh h.new (by have:=b.size;omega) (Nat.le_refl _))).base (by have:=d.size;have:=b.size;omega))⟩
theorem Rg {w:World} {d:Hd} {xs:List Int} (R:Aa w d xs):Dq 135 [.agg ⟨eH d⟩] w (fun v w'=>v = .tuple #[.string (if BG xs=0 then Cd (CK xs) else ⟨#[]⟩),.int .i64 (BG xs)]/\AD w w'):=by
 obtain ⟨c,x⟩:=R;unfold BG;cases m:E2 xs
 .refine oV Tryz.func135 ?_;conv=>whnf
  exact AB.box fun t z u y g h=>jA (n:=1) h.cells rfl<|dM (Ea (c.ext g)) fun aa a=>iT ⟨rfl,(xt g a)⟩
 .cases o:Dd xs
  .refine oV Tryz.func135 ?_;refine AB.box ?_;intro i q l p a e;refine jA (n:=1) e.cells rfl<|dM (Ea (c.ext a)) fun r b=>?_;refine iF<|jL (e.ext b).cells (k:=0) rfl<|dM (Fo (c.ext (xt a b))) fun s f=>?_;refine iT ?_;exact ⟨rfl,(xt (xt a b) f)⟩
  .refine oV Tryz.func135 ?_;conv=>whnf
   exact AB.box fun i q l p a e=>jA (n:=1) e.cells rfl<|dM (Ea (c.ext a)) fun r b=>iF<|jL (e.ext b).cells (k:=0) rfl<|dM (Fo (c.ext (xt a b))) fun s f=>iF<|jL (e.ext (xt b f)).cells (k:=0) rfl<|dM (OC (c.ext (xt (xt a b) f)) o (by have:=c.len;have:=(Br m).2.1;omega)) fun ab j=>⟨rfl,(xt (xt (xt a b) f) j)⟩
end Go.Proofs.YtalgenmoljcnmaaGreatDoor
