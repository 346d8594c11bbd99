/- Parts of the proof; no conditions of its own. -/
import Derived.Test.YtalgenmoljcnmaaGreatDoorFTotal
import Derived.Test.YtalgenmoljcnmaaGreatDoorVcWrite
import Derived.Test.YtalgenmoljcnmaaGreatDoorOffi
import Derived.Test.YtalgenmoljcnmaaGreatDoorKeyW
import Derived.Test.YtalgenmoljcnmaaGreatDoorSortM
namespace Go.Vc
open Go Go.RowKit
variable {P:Program} {α β:Type} {T:HS} {n t e by_ b k c ty i sz B lo:Nat} {ops:Array Oper} {w0 w w':World} {K:Next->World->Prop} {cs:Array Bool} {zs:List Value} {a:Option Addr} {E E':Ow α} {h:Hd} {x:α} {f fp:List Nat} {hs:List Hd} {xs ys:List α} {fps:List (List Nat)} {R:Rd α}
theorem C0 {S S':Nat->Prop} {x y z:World} (h:BP S x y) (k:BP S' y z) (hb:∀ i,S' i->S i\/x.heap.size<=i):BP S x z :=
 ⟨k.os.trans h.os,k.tape.trans h.tape,k.output.trans h.output,Nat.le_trans h.size k.size,fun i a b=>by
  rw [k.block i (fun c=>(hb i c).elim a (fun d=>by omega)) (Nat.lt_of_lt_of_le b h.size),h.block i a b]⟩
def MV (L:List Nat) (ops:Array Oper) (i:Nat):Bool:=(List.range ops.size).all fun j=>!L.contains j || (P4 ops i ops.size).contains j
def El (L:List Nat) (ops:Array Oper):List (Nat×LO)->Bool->Array Bool->Bool
 | [],_,listed=>(Region.ready .any ops listed).isEmpty
 | (i,.any) :: l,d,listed=>(Region.ready .any ops listed).contains i && Region.free .any ops listed i && El L ops l d (listed.setIfInBounds i true)
 | (i,.held) :: l,d,listed=>(Region.ready .any ops listed).contains i && Region.free .any ops listed i && !d && MV L ops i && (match ops[i]? with | some o=>!HZ o.op | none=>false) && El L ops l d (listed.setIfInBounds i true)
 | (i,.run) :: l,d,listed=>Region.ready .any ops listed == [i] && !d && El L ops l d (listed.setIfInBounds i true)
 | (i,.write) :: l,_,listed=>Region.ready .any ops listed == [i] && L.contains i && El L ops l true (listed.setIfInBounds i true)
 | (i,.alone) :: l,d,listed=>Region.ready .any ops listed == [i] && El L ops l d (listed.setIfInBounds i true)
def X6 (L:List Nat) (ops:Array Oper) (plan:List (Nat×LO)):Bool:=Region.noSelect ops && Nat.beq plan.length ops.size && El L ops plan false (Array.replicate ops.size false)
theorem O1 (L:List Nat) (hT:T.fok P=true) (hok:DL n ops=true) (hs:Region.noSelect ops=true) {Q:Exit->Act->World->Prop} (hQp:∀ c a w,¬ Q (.panic c) a w) {K:Fr->World->Prop} (hQ:∀ f w,K f w->Q .normal (A3 n f) w) :
  ∀ (plan:List (Nat×LO)) (d:Bool) (listed:Array Bool) (f:Fr) (w:World),Fk ops listed->El L ops plan d listed=true->(d=false->AD w0 w)->H8 P T n w0 ops.toList (Dh ops.toList plan) f w K ->
   B9 P .any ops (fun j=>L.contains j) Q (fun w'=>AD w0 w') plan.length listed (A3 n f) w
 | [],d,listed,f,w,_,hB,_,h=>by
  simp only [El,List.isEmpty_iff] at hB;exact F9 hB (hQ f w h) _
 | (i,s) :: l,d,listed,f,w,hcl,hB,hw,h=>by
  have hrd:i∈Region.ready .any ops listed:=by
   cases s<;>simp only [El,Bool.and_eq_true] at hB
   .simpa using hB.1.1
   .simpa using hB.1.1.1.1.1
   .have:=hB.1.1;simp only [beq_iff_eq] at this;rw [this];simp
   .have:=hB.1.1;simp only [beq_iff_eq] at this;rw [this];simp
   .have:=hB.1;simp only [beq_iff_eq] at this;rw [this];simp
  obtain ⟨_,m,o,_⟩:=mem_ready.1 hrd;have ag:ops.toList[i]? = some m:=by simpa using o
  have y:DH n ops m=true:=by
   unfold DL at hok;rw [List.all_eq_true] at hok;exact hok _ (List.mem_of_getElem? ag)
  have ao:Dh ops.toList ((i,s) :: l)=(m,s) :: Dh ops.toList l:=by
   unfold Dh;rw [List.filterMap_cons_some (b:=(m,s)) (by simp [ag])]
  rw [ao,RC] at h;have g:=Cg y h;have x:=fun (d:Bool) (k:El L ops l d (listed.setIfInBounds i true)=true) (f:Fr) (w:World) (hw:d=false->AD w0 w) (h:H8 P T n w0 ops.toList (Dh ops.toList l) f w K)=>O1 L hT hok hs hQp hQ l d (listed.setIfInBounds i true) f w (E0 hcl hrd) k hw h;have take:∀ {ab:Bool} {U:World->Prop} (r:Value),Region.free .any ops listed i=true->El L ops l ab (listed.setIfInBounds i true)=true->(ab=false->AD w0 w) ->
    (∀ (j:Nat) (ad:Oper),ops[j]? = some ad->j≠i->j∉P4 ops i ops.size->∀ w w',(AD w0 w->L.contains j=false->AD w0 w')->U w->U w')->U w ->
    (Region.wanted m (yielded ops (A3 n f).tmps)=true->∀ w',U w'->(execOp (A3 n f).eval m).run P w' = .ok (.value r) w')->(Region.wanted m (yielded ops (A3 n f).tmps)=false->r=undef) ->
    H8 P T n w0 ops.toList (Dh ops.toList l) (put f m.dst r) w K->B9 P .any ops (fun j=>L.contains j) Q (fun w'=>AD w0 w') (l.length+1) listed (A3 n f) w:=by
   intro ab U r p k z ac aj v ap q;have u:YieldsIf P ops U m r (A3 n f):=by
    cases e:Region.wanted m (yielded ops (A3 n f).tmps) with
    | true=>exact .inl ⟨e,v e⟩
    | false=>exact .inr ⟨e,ap e⟩
   refine FV o (Region.noSelect_spec hs) ac (fun c a w an=>(hQp _ _ _ an).elim) l.length listed (A3 n f) w hcl (Region.free_spec o p) hrd u aj ?_;rw [BL];exact x ab k _ _ z q
  have alone:Region.ready .any ops listed=[i]->wpOp P ops Q i (fun ah w'=>(AD w0 w->L.contains i=false->AD w0 w')/\B9 P .any ops (fun j=>L.contains j) Q (fun w'=>AD w0 w') l.length (listed.setIfInBounds i true) ah w') (A3 n f) w ->
    B9 P .any ops (fun j=>L.contains j) Q (fun w'=>AD w0 w') (l.length+1) listed (A3 n f) w:=by
   intro t am;refine ⟨fun o=>(by rw [t] at o;cases o),fun j aa=>?_⟩;rw [t] at aa;simp only [List.mem_singleton] at aa;subst aa;exact am
  cases s with
  | any =>
   simp only [El,Bool.and_eq_true] at hB;obtain ⟨⟨t,p⟩,k⟩:=hB;split at g
   .rename_i e;obtain ⟨r,v,q⟩:=DC hT y g;exact take (U:=fun _=>True) r p k hw (fun _ _ _ _ _ _ _ _ _=>trivial) trivial (fun _ w' _=>v w') (fun p=>by rw [e] at p;cases p) q
   .rename_i e;rw [AY] at g;exact take (U:=fun _=>True) undef p k hw (fun _ _ _ _ _ _ _ _ _=>trivial) trivial (fun ae=>absurd ae e) (fun _=>rfl) g
  | held =>
   simp only [El,Bool.and_eq_true,o,Bool.not_eq_true'] at hB;obtain ⟨⟨⟨⟨⟨t,p⟩,z⟩,af⟩,ak⟩,k⟩:=hB;have ac:∀ (j:Nat) (ad:Oper),ops[j]? = some ad->j≠i->j∉P4 ops i ops.size->∀ w w',(AD w0 w->L.contains j=false->AD w0 w')->AD w0 w->AD w0 w':=by
    intro j ad aa ar al w w' ai hw;refine ai hw ?_;unfold MV at af;rw [List.all_eq_true] at af;have:=af j (List.mem_range.2 (Array.getElem?_eq_some_iff.1 aa).1);simp only [Bool.or_eq_true,Bool.not_eq_true',List.contains_iff_mem] at this;rcases this with h | h
    .exact h
    .exact absurd h al
   split at g
   .rename_i e;obtain ⟨r,v,q⟩:=Ic hT y ak g;exact take (U:=fun w'=>AD w0 w') r p k hw ac (hw z) (fun _=>v) (fun p=>by rw [e] at p;cases p) q
   .rename_i e;rw [AY] at g;exact take (U:=fun w'=>AD w0 w') undef p k hw ac (hw z) (fun ae=>absurd ae e) (fun _=>rfl) g
  | run =>
   simp only [El,Bool.and_eq_true,Bool.not_eq_true',beq_iff_eq] at hB;obtain ⟨⟨t,z⟩,k⟩:=hB;refine alone t ?_;split at g
   .rename_i e;unfold wpOp;simp only [o,e,if_true];exact .inl (CN hT y g fun f w' q=>⟨fun _ _=>q.1,x d k _ _ (fun _=>q.1) q.2⟩)
   .rename_i e;rw [AY] at g;have u:YieldsIf P ops (fun _=>True) m undef (A3 n f) := .inr ⟨by simpa using e,rfl⟩;refine u.wpOp o trivial ⟨fun h _=>h,?_⟩;rw [BL];exact x d k _ _ hw g
  | write =>
   simp only [El,Bool.and_eq_true,beq_iff_eq] at hB;obtain ⟨⟨t,aq⟩,k⟩:=hB;refine alone t ?_;split at g
   .rename_i e;unfold wpOp;simp only [o,e,if_true];exact .inl (CN hT y g fun f w' q=>⟨fun _ h=>by rw [aq] at h;(cases h),x true k _ _ (fun h=>by cases h) q⟩)
   .rename_i e;rw [AY] at g;have u:YieldsIf P ops (fun _=>True) m undef (A3 n f) := .inr ⟨by simpa using e,rfl⟩;refine u.wpOp o trivial ⟨fun h _=>h,?_⟩;rw [BL];exact x true k _ _ (fun h=>by cases h) g
  | alone =>
   simp only [El,Bool.and_eq_true,beq_iff_eq] at hB;obtain ⟨t,k⟩:=hB;refine alone t ?_;split at g
   .rename_i e;obtain ⟨r,v,q⟩:=DC hT y g;have u:YieldsIf P ops (fun _=>True) m r (A3 n f) := .inl ⟨e,fun w' _=>v w'⟩;refine u.wpOp o trivial ⟨fun h _=>h,?_⟩;rw [BL];exact x d k _ _ hw q
   .rename_i e;rw [AY] at g;have u:YieldsIf P ops (fun _=>True) m undef (A3 n f) := .inr ⟨by simpa using e,rfl⟩;refine u.wpOp o trivial ⟨fun h _=>h,?_⟩;rw [BL];exact x d k _ _ hw g
theorem G0 (L:List Nat) (hT:T.fok P=true) (hm:P.follows .mixedOrders=true) (plan:List (Nat×LO)) (hok:DL n ops=true) (hB:X6 L ops plan=true) {f:Fr} {K:Fr->World->Prop}
  (h:∀ w1,AD w w1->H8 P T n w ops.toList (Dh ops.toList plan) f w1 K):Eo P n ops f w K:=by
 unfold Eo;intro l;simp only [X6,Bool.and_eq_true] at hB;obtain ⟨⟨e,c⟩,hB⟩:=hB;refine wp_region_any hm (Fy (W:=fun g=>L.contains g) (S:=fun i=>AD w i) _ _ _ _ ?_);have a:AD w { w with drawn:=w.drawn+1 }:=⟨rfl,rfl,rfl,Nat.le_refl _,fun _ _=>rfl⟩;have:=O1 L hT hok e (Q:=Mo n K (fun _ _ _=>False) (fun _ _=>False)) (fun k j w d=>d.elim) (fun f w b=>⟨f,rfl,b⟩) plan false _ f _ (GL ops) hB (fun _=>a) (h _ a);rw [Nat.eq_of_beq_eq_true c] at this;exact this
theorem Sw {enc:α->List Value} {z:Value} (ht:C8 P t=some (e,[z],by_)) (he:∀ x,(enc x).length=1) (hz:AM z=true) {tt m:Nat} {hs:List α} (h:Bs enc w (some ⟨b,0,none⟩) n tt hs)
  (hkm:k+m=n) (hm:0<m) (hK:∀ w',Oa b w w'->Bs enc w' (some ⟨b,0,none⟩) k tt (hs.take k)->K (.value (.tuple #[])) w') :
  AB P (builtin .clear #[t] ty cs #[.slice (some ⟨b,0+k * 1,none⟩) m c]) w K:=by
 obtain ⟨ai,i,ac,v,ae,ag,ak,am,al⟩:=GG ht;obtain ⟨j,q,r⟩:=h;rcases r with ⟨d,_⟩ | ⟨aj,rest,d,s⟩
 .cases d
 cases d
 have g:(Al enc hs).length=n:=by rw [A1 he,j];omega
 have af:(Builtin.zeroCells i.cells m).toList=List.replicate m z:=by
  have:i.cells = #[z]:=by rw [<- Array.toList_inj,ag]
  rw [this];simp [Builtin.zeroCells];apply List.ext_getElem
  .simp
  .intro ai j q;simp [Nat.mod_one]
 obtain ⟨w',aa,f,u⟩:=Hv (P:=P) (List.replicate m z) (Al enc hs++rest) k 0 w s (by rw [List.length_append,g,List.length_replicate];omega) (by intro an ad;rw [List.eq_of_mem_replicate ad];exact hz);have ah:(zeroValue e).run P w = .ok i w:=by
  simp [zeroValue,typeInfo,v,ae]
 obtain ⟨a,rfl⟩:∃ a,m=a+1:=⟨m - 1,om⟩;refine A6 (w':=w') ?_ (hK w' u ?_)
 .have l:(⟨b,0+k * 1,none⟩:Addr)=⟨b,k,none⟩:=sI
  rw [l];simp [builtin,Builtin.clear_,run_underlying ac,ah,af,aa]
 .refine ⟨by rw [List.length_take];omega,om,.inr ⟨b,List.replicate (a+1) z++rest,rfl,?_⟩⟩;rw [Nat.add_zero,I3 _ _ _ (by rw [List.length_append,g,List.length_replicate];omega)] at f;have o:(Al enc hs++rest).take k=Al enc (hs.take k):=by
   have ab:Al enc hs=Al enc (hs.take k)++Al enc (hs.drop k):=by rw [<- FN,List.take_append_drop]
   have y:(Al enc (hs.take k)).length=k:=by rw [A1 he,List.length_take];omega
   rw [ab,List.append_assoc,List.take_left' y]
  have p:(Al enc hs++rest).drop (k+(List.replicate (a+1) z).length)=rest:=by
   rw [List.length_replicate,hkm,List.drop_left' g]
  rw [o,p,List.append_assoc] at f;exact f
def Wd (P:Program) (t i off:Nat):Bool :=
 match P.underlying t with
 | some (.struct fields)=>match fields[i]? with
  | some f=>Nat.beq f.offset off && DK P f.type
  | none=>false
 | _=>false
theorem AB.field (off:Nat) (ht:Wd P t i off=true) {cs:Array Value} {v:Value} (hv:cs[off]? = some v) {K:Value->World->Prop} (hK:K v w):AB P (Instr.field t (.agg cs) i) w K:=by
 unfold Wd at ht;split at ht<;>try cases ht
 rename_i g d;split at ht<;>try cases ht
 rename_i f b;rw [Bool.and_eq_true] at ht;obtain ⟨e,l,k,h,j,a⟩:=HW ht.2;have c:=Nat.eq_of_beq_eq_true ht.1;refine A6 (w':=w) ?_ hK;have a:=congrFun a w;simp [Instr.field,run_underlying d,b,asAgg,part,a,c,hv]
theorem BQ.build {pl:List (Nat×Nat)} (h:Er P t=some (zs,pl)) {parts:List (Nat×Value)} {out:List Value} (ho:RQ pl zs parts=some out) {K:Value->Prop} (hK:K (.agg ⟨out⟩)) :
  BQ P (Instr.build t parts.toArray) w K:=Eh (fun _ _=>AB.build h ho ⟨rfl,rfl⟩) hK
theorem Su (ht:CQ P t=some sz) (h:Nat) (hh:h<=n) (hn:n<=c) {k':IntKind} {K:Value->World->Prop} (hK:K (.slice a h c) w):AB P (Instr.sliceAt t (.slice a n c) none (some (.int k' h)) none) w K:=by
 refine A6 (EI (k := .i64) ht (Nat.zero_le h) hh hn (.inl ⟨rfl,rfl⟩) (.inr rfl) w) ?_;have b:(if c=0 then a else a.map (·.add (0 * sz)))=a:=by
  split
  .rfl
  .rw [Nat.zero_mul];cases a with
   | none=>rfl
   | some d=>simp [Tw]
 rw [b];exact hK
theorem Ro (ht:CQ P t=some sz) (l:Nat) (hl:l<=n) (hn:n<=c) (hlc:l<c) {k:IntKind} {K:Value->World->Prop} (hK:K (.slice (some ⟨b,0+l * sz,none⟩) (n - l) (c - l)) w):AB P (Instr.sliceAt t (.slice (some ⟨b,0,none⟩) n c) (some (.int k l)) none none) w K:=by
 refine A6 (EI (k' := .i64) ht hl (Nat.le_refl n) hn (.inr rfl) (.inl ⟨rfl,rfl⟩) w) ?_;rw [if_neg om];have a:(some (⟨b,0,none⟩:Addr)).map (·.add (l * sz))=some ⟨b,0+l * sz,none⟩:=by simp [CT]
 rw [a];exact hK
def Hc {α β:Type} (p:α->Bool):List α->List β->List β
 | x :: xs,y :: ys=>if p x=true then y :: Hc p xs ys else Hc p xs ys
 | _,_=>[]
theorem O4 (p:α->Bool):∀ (xs:List α) (ys:List β),xs.length=ys.length->(Hc p xs ys).length=(xs.filter p).length
 | [],ys,_=>rfl
 | x :: xs,[],h=>by simp at h
 | x :: xs,y :: ys,h=>by
  have:=O4 p xs ys (by simpa using h);unfold Hc;rw [List.filter_cons];split<;>simp [this]
theorem TZ (p:α->Bool) (x:α) (y:β):∀ (xs:List α) (ys:List β),xs.length=ys.length->Hc p (xs++[x]) (ys++[y])=if p x=true then Hc p xs ys++[y] else Hc p xs ys
 | [],[],_=>by simp [Hc]
 | [],_ :: _,h=>by simp at h
 | _ :: _,[],h=>by simp at h
 | a :: xs,b :: ys,h=>by
  have:=TZ p x y xs ys (by simpa using h);simp only [List.cons_append,Hc,this];split<;>split<;>simp
theorem Wa (p:α->Bool):∀ (xs:List α) (fps:List (List Nat)),(Hc p xs fps).flatten.Sublist fps.flatten
 | [],fps=>by simp [Hc]
 | _ :: _,[]=>by simp [Hc]
 | x :: xs,f :: fps=>by
  have:=Wa p xs fps;unfold Hc;split
  .simp only [List.flatten_cons];exact List.Sublist.append (List.Sublist.refl _) this
  .simp only [List.flatten_cons];exact this.trans (List.sublist_append_right _ _)
theorem HJ.cons {α:Type} {E:Ow α} {w:World} {h:Hd} {x:α} {f:List Nat} {hs:List Hd} {xs:List α} {fps:List (List Nat)} (hx:E w h x f) (ht:HJ E w hs xs fps):HJ E w (h :: hs) (x :: xs) (f :: fps):=by
 refine ⟨by simp [ht.1],by simp [ht.2.1],fun a e i g b c d=>?_⟩;cases a with
 | zero=>simp at b c d;subst b;subst c;subst d;exact hx
 | succ a=>exact ht.2.2 a e i g (by simpa using b) (by simpa using c) (by simpa using d)
theorem HJ.tail {α:Type} {E:Ow α} {w:World} {h:Hd} {x:α} {f:List Nat} {hs:List Hd} {xs:List α} {fps:List (List Nat)} (H:HJ E w (h :: hs) (x :: xs) (f :: fps)):E w h x f/\HJ E w hs xs fps :=
 ⟨H.2.2 0 h x f rfl rfl rfl,by simpa using H.1,by simpa using H.2.1,fun c a i b d e g=>H.2.2 (c+1) a i b (by simpa using d) (by simpa using e) (by simpa using g)⟩
theorem HJ.filter (p:α->Bool):∀ {hs:List Hd} {xs:List α} {fps:List (List Nat)},HJ E w hs xs fps->HJ E w (Hc p xs hs) (xs.filter p) (Hc p xs fps)
 | [],[],[],_=>HJ.nil
 | h :: hs,x :: xs,f :: fps,H=>by
  have h1:=H.tail;have a:=HJ.filter p h1.2;unfold Hc;rw [List.filter_cons];split
  .exact a.cons h1.1
  .exact a
 | [],_ :: _,_,H=>by have:=H.1;simp at this
 | _ :: _,[],_,H=>by have:=H.1;simp at this
 | [],[],_ :: _,H=>by have:=H.2.1;simp at this
 | _ :: _,_ :: _,[],H=>by have:=H.2.1;simp at this
theorem J6 (h:k∈(fps.set i f).flatten):k∈fps.flatten\/k∈f:=by
 obtain ⟨c,a,b⟩:=List.mem_flatten.1 h;rcases List.mem_or_eq_of_mem_set a with a | rfl
 .exact .inl (List.mem_flatten.2 ⟨c,a,b⟩)
 .exact .inr b
theorem CH.ext {α:Type} {E:Ow α} {R:Rd α} [Ju E R] {B e:Nat} {w w':World} {a:Option Addr} {n c:Nat} {xs:List α} {fp:List Nat} (h:CH E B e w a n c xs fp) (x:AD w w'):CH E B e w' a n c xs fp:=by
 obtain ⟨k,f,g,b,i⟩:=h;exact ⟨k,f,g.ext x,b.keep (fun d j=>x.block d (b.lt d j)),i⟩
theorem CH.keep {α:Type} {E:Ow α} {R:Rd α} [Ju E R] {B e:Nat} {w w':World} {a:Option Addr} {n c:Nat} {xs:List α} {fp:List Nat} (h:CH E B e w a n c xs fp) (hk:∀ k∈fp,w'.heap[k]? = w.heap[k]?):CH E B e w' a n c xs fp:=by
 obtain ⟨g,b,d,f,rfl⟩:=h;exact ⟨g,b,d.kept (fun j i=>hk _ (List.mem_append_left _ (Az.2 ⟨j,i,rfl⟩))),f.keep (fun k h=>hk k (List.mem_append_right _ h)),rfl⟩
theorem CH.lt {α:Type} {E:Ow α} {R:Rd α} [Ju E R] {B e:Nat} {w:World} {a:Option Addr} {n c:Nat} {xs:List α} {fp:List Nat} (h:CH E B e w a n c xs fp):∀ k∈fp,k<w.heap.size:=h.own.lt
theorem CH.le {α:Type} {E:Ow α} {B e:Nat} {w:World} {a:Option Addr} {n c:Nat} {xs:List α} {fp:List Nat} (h:CH E B e w a n c xs fp):n<=c/\xs.length=n:=by
 obtain ⟨i,f,b,d,g⟩:=h;exact ⟨b.le.1,by rw [<- d.1,b.len]⟩
theorem E1 (h:B8 w b [] e) (hB:B<=b):CH E B e w (some ⟨b,0,none⟩) 0 0 ([]:List α) [b]:=⟨[],[],Ag Dz h hB,HJ.nil,by simp [BW]⟩
theorem CH.blk {α:Type} {E:Ow α} {B e:Nat} {w:World} {a:Option Addr} {n c:Nat} {xs:List α} {fp:List Nat} (h:CH E B e w a n c xs fp):∀ k,AL a k->k∈fp:=by
 obtain ⟨i,d,f,g,rfl⟩:=h;exact fun k b=>List.mem_append_left _ (Az.2 b)
theorem Co {P:Program} {α:Type} {E:Ow α} {R:Rd α} [Ju E R] {t e by_ lo:Nat} {zs:List Value} (ht:C8 P t=some (e,zs,by_)) (hz:zs.length=1) {w:World} {a:Option Addr} {n c:Nat} {xs:List α} {fp:List Nat} (h:CH E lo e w a n c xs fp) (hnd:fp.Nodup) (hlo:lo<=w.heap.size)
  {b c':Nat} {d:Hd} {x:α} {f:List Nat} (hd:E w d x f) (hf:f.Nodup) (hdj:∀ k∈f,k∉fp) (hy:AK w b 0 (eH d)) (hsm:n+1<=1099511627776) (hby:(n+1) * by_<=140737488355328) {ty:Nat} {cs:Array Bool} {K:Next->World->Prop}
  (hK:∀ a' c' w' fp',CH E lo e w' a' (n+1) c' (xs++[x]) fp'->fp'.Nodup->(∀ k∈fp',k∈fp\/k∈f\/k=w.heap.size)->BP (AL a) w w'->K (.value (.slice a' (n+1) c')) w') :
  AB P (builtin .append #[t,t] ty cs #[.slice a n c,.slice (some ⟨b,0,none⟩) 1 c']) w K:=by
 obtain ⟨ac,j,s,u,rfl⟩:=h;rw [<- hz] at s;refine Ba ht (fun x=>by rw [hz];rfl) s (ys:=[d]) (m:=1) hy rfl (by simp [Al,eH,AM]) hsm hby hlo ?_;intro a' af w' v p ag;rw [hz] at v;obtain ⟨aj,ai,ad⟩:=List.nodup_append.1 hnd;have z:∀ k∈f,k<w.heap.size:=Ju.lt hd;have y:∀ k∈j.flatten,k<w.heap.size:=u.lt;have aa:∀ k,k∈BW a'->k∈BW a\/k=w.heap.size:=fun k g=>(ag k (Az.1 g)).imp (fun h=>Az.2 h) id;refine hK a' af w' (BW a'++(j++[f]).flatten) ⟨ac++[d],j++[f],v,?_,rfl⟩ ?_ ?_ p
 .have ah:HJ E w' ac xs j:=(u.keep fun k g=>p.block k (fun q=>ad k (Az.2 q) k g rfl) (y k g));exact ah.snoc (Ju.keep hd fun k g=>p.block k (fun q=>hdj k g (List.mem_append_left _ (Az.2 q))) (z k g))
 .have o:(j++[f]).flatten=j.flatten++f:=sI
  rw [o];refine List.nodup_append.2 ⟨?_,List.nodup_append.2 ⟨ai,hf,fun l r ae i e=>hdj ae i (e▸List.mem_append_right _ r)⟩,fun l r ae i e=>?_⟩
  .cases a' with
   | none=>simp [BW]
   | some ak=>simp [BW]
  .subst e;rcases aa l r with ab | rfl
   .rcases List.mem_append.1 i with i | i
    .exact ad l ab l i rfl
    .exact hdj l i (List.mem_append_left _ ab)
   .rcases List.mem_append.1 i with i | i
    .have:=y _ i;omega
    .have:=z _ i;omega
 .intro k g;have o:(j++[f]).flatten=j.flatten++f:=sI
  rw [o] at g;rcases List.mem_append.1 g with g | g
  .rcases aa k g with g | g
   .exact .inl (List.mem_append_left _ g)
   .exact .inr (.inr g)
  .rcases List.mem_append.1 g with g | g
   .exact .inl (List.mem_append_right _ g)
   .exact .inr (.inl g)
theorem VG.app {α:Type} {R:Rd α} {w:World} {hs gs:List Hd} {xs ys:List α} (h:VG R w hs xs) (g:VG R w gs ys):VG R w (hs++gs) (xs++ys):=by
 refine ⟨by simp [h.1,g.1],fun e d f a c=>?_⟩;rcases Nat.lt_or_ge e hs.length with b | b
 .rw [List.getElem?_append_left b] at a;rw [List.getElem?_append_left (by rw [<- h.1];exact b)] at c;exact h.2 e d f a c
 .rw [List.getElem?_append_right b] at a;rw [List.getElem?_append_right (by rw [<- h.1];exact b)] at c;rw [h.1] at a;exact g.2 _ d f a c
theorem Pe {P:Program} {α:Type} {E:Ow α} {R:Rd α} [Ju E R] [RdE R] {t e by_ lo:Nat} {zs:List Value} (ht:C8 P t=some (e,zs,by_)) (hz:zs.length=1) {w0 w:World} (e0:AD w0 w) {a a2:Option Addr} {n c n2 c2:Nat} {xs ys:List α} (h:Bm E lo e w a n c xs) (h0:w0.heap.size<=lo) (h1:lo<=w.heap.size) (h2:Ac R w0 a2 n2 ys)
  (hsm:n+n2<=1099511627776) (hby:(n+n2) * by_<=140737488355328) {ty:Nat} {cs:Array Bool} {K:Next->World->Prop}
  (hK:∀ a' c' w',Ac R w' a' (n+n2) (xs++ys)->n+n2<=c'->AD w0 w'->K (.value (.slice a' (n+n2) c')) w') :
  AB P (builtin .append #[t,t] ty cs #[.slice a n c,.slice a2 n2 c2]) w K:=by
 obtain ⟨l,u,j,k,v⟩:=h;obtain ⟨x,p,q⟩:=h2;refine AN (enc:=eH) ht (fun o=>by rw [hz];rfl) (by rw [hz];exact j) (by rw [hz];exact p.ext e0) (by intro af _;simp [eH,AM]) hsm hby h1 ?_;intro r s g f m ac;rw [hz] at f;obtain ⟨ad,ae,ab⟩:=List.nodup_append.1 v.1;have d:HJ E g l xs u:=k.keep fun b d=>m.block b (fun y=>ab b (Az.2 y) b d rfl) (k.lt b d);have z:∀ b,AL a b->w0.heap.size<=b:=fun b ⟨o,aa,d⟩=>by have:=j.new o aa;omega
 have i:AD w0 g:=xm e0 m z;exact hK r s g ⟨l++x,f.own.arr Dz,d.rd.app (q.ext i)⟩ f.le.1 i
def OG {α:Type} (E:Ow α) (te:Nat):Ow (List α):=fun w h xs fp=>∃ B,CH E B te w h.a h.n h.c xs fp
instance {α:Type} {E:Ow α} {R:Rd α} [Ju E R] {te:Nat}:Ju (OG E te) (RS R) where
 keep:=fun ⟨B,h⟩ hk=>⟨B,h.keep hk⟩
 lt:=fun ⟨_,h⟩=>h.lt
 rd:=fun ⟨_,h⟩=>⟨h.own.arr,h.le.1⟩
theorem OG.os {te:Nat} {x:List α} (H:OG E te w h x fp):OS E w h x fp:=by
 obtain ⟨a,H⟩:=H;exact ⟨⟨te,H.own⟩,H.le.1⟩
theorem HJ.imp {α:Type} {E E':Ow α} {w:World} {hs:List Hd} {xs:List α} {fps:List (List Nat)} (H:HJ E w hs xs fps) (h:∀ d x f,E w d x f->E' w d x f):HJ E' w hs xs fps :=
 ⟨H.1,H.2.1,fun c a j b e g i=>h _ _ _ (H.2.2 c a j b e g i)⟩
theorem DM.imp {α:Type} {E E':Ow α} {w:World} {a:Option Addr} {n t:Nat} {xs:List α} {fp:List Nat} (H:DM E w a n t xs fp) (h:∀ d x f,E w d x f->E' w d x f):DM E' w a n t xs fp:=by
 obtain ⟨i,b,c,e,g⟩:=H;exact ⟨i,b,c,e.imp h,g⟩
theorem DM.hand [Ju E R] {u:World} (h:DM E u a n t xs fp) (hnd:fp.Nodup) {x0:α} (hx0:xs[k]? = some x0) :
  ∃ b d0 f0,a=some ⟨b,0,none⟩/\b∈fp/\AK u b (0+k * 1) (eH d0)/\E u d0 x0 f0/\f0.Nodup/\b∉f0/\(∀ j∈f0,j∈fp) /\
   ∀ (P:Program) (ty:Nat) (w:World) (d:Hd) (x:α) (f:List Nat),DK P ty=true->BP (fun j=>j∈f0) u w->E w d x f->f.Nodup->(∀ j∈f,j∈f0\/j∉fp) ->
    ∀ K:Unit->World->Prop,(∀ w' fp',Oa b w w'->DM E w' (some ⟨b,0,none⟩) n t (xs.set k x) fp'->fp'.Nodup->(∀ j∈fp',j∈fp\/j∈f)->K () w') ->
     AB P (Instr.storeAt ty (.pointer (some ⟨b,0+k * 1,none⟩)) (.slice d.a d.n d.c)) w K:=by
 obtain ⟨an,g,z,q,rfl⟩:=h;have ay:=(List.getElem?_eq_some_iff.1 hx0).1;obtain ⟨d0,ae⟩:∃ d,an[k]? = some d:=⟨_,List.getElem?_eq_getElem (by rw [q.1];exact ay)⟩;obtain ⟨f0,aa⟩:∃ f,g[k]? = some f:=⟨_,List.getElem?_eq_getElem (by rw [q.2.1];exact ay)⟩;obtain ⟨ba,a0,bb⟩:=List.nodup_append.1 hnd;obtain ⟨bc,bd⟩:=IT a0 aa;have a7:0<n:=by rw [<- z.1,q.1];omega
 obtain ⟨b,rfl⟩:=z.some a7;have aj:∀ j∈g.flatten,j≠b:=fun j e o=>bb b (by simp [BW]) j e o.symm;have aw:∀ j∈f0,j∈g.flatten:=fun j e=>EB aa e;have ai:b∉f0:=fun ah=>aj b (aw b ah) rfl;refine ⟨b,d0,f0,rfl,by simp [BW],AU Dz z ae,q.2.2 k d0 x0 f0 ae hx0 aa,bc,ai,fun j e=>List.mem_append_right _ (aw j e),?_⟩;intro P ty w d x f a8 ao a4 a5 ax K aq;have a3:b<u.heap.size:=z.lt _ rfl;have a2:Bs eH w (some ⟨b,0,none⟩) n t an:=z.keep fun j e=>by
  simp only [BW,List.mem_singleton] at e;subst e;exact ao.block j ai a3
 have au:b∉f:=fun ah=>by
  rcases ax b ah with h | h
  .exact ai h
  .exact h (by simp [BW])
 refine DA (j:=0) a8 Dz a2 ae om (v := .slice d.a d.n d.c) rfl d rfl fun w' ak ar=>?_;have az:HJ E w' (an.set k d) (xs.set k x) (g.set k f):=by
  refine ⟨by simp [q.1],by simp [q.2.1],fun j h be af ac ad y=>?_⟩;by_cases am:j=k
  .subst am;rw [D6 ae] at ac;rw [D6 hx0] at ad;rw [D6 aa] at y;simp only [Option.some.injEq] at ac ad y;subst ac;subst ad;subst y;exact Ju.keep a4 fun i r=>ak.block i (fun o=>au (o▸r))
  .rw [List.getElem?_set_ne (Ne.symm am)] at ac ad y;have ap:=q.2.2 j h be af ac ad y;refine Ju.keep ap fun i r=>?_;have a6:i∈g.flatten:=EB y r;rw [ak.block i (aj i a6),ao.block i (bd j af am y i r) (Ju.lt ap i r)]
 have av:∀ i∈(g.set k f).flatten,i∈g.flatten\/i∈f:=fun i r=>J6 r;refine aq w' (BW (some ⟨b,0,none⟩)++(g.set k f).flatten) ak ⟨_,_,ar,az,rfl⟩ (List.nodup_append.2 ⟨ba,?_,fun l p a1 m o=>?_⟩) fun j e=>?_
 .clear az aq ar;have a':∀ (g:List (List Nat)) (k:Nat),g.flatten.Nodup->g[k]? = some f0->(∀ j∈f,j∈f0\/j∉g.flatten)->(g.set k f).flatten.Nodup:=by
   intro g;induction g with
   | nil=>intro k _ h;simp at h
   | cons af bf a9 =>
    intro k s ab al;rw [List.flatten_cons,List.nodup_append] at s;cases k with
    | zero =>
     simp at ab;subst ab;rw [List.set_cons_zero,List.flatten_cons,List.nodup_append];refine ⟨a5,s.2.1,fun l p a1 m o=>?_⟩;subst o;rcases al l p with h | h
     .exact s.2.2 l h l m rfl
     .exact h (by rw [List.flatten_cons];exact List.mem_append_right _ m)
    | succ k =>
     simp at ab;rw [List.set_cons_succ,List.flatten_cons,List.nodup_append];refine ⟨s.1,a9 k s.2.1 ab (fun j e=>(al j e).imp id fun h ag=>h (by rw [List.flatten_cons];exact List.mem_append_right _ ag)),fun l p a1 m o=>?_⟩;subst o;rcases J6 m with m | m
     .exact s.2.2 l p l m rfl
     .rcases al l m with h | h
      .exact s.2.2 l p l (EB ab h) rfl
      .exact h (by rw [List.flatten_cons];exact List.mem_append_left _ p)
  exact a' g k a0 aa fun j e=>(ax j e).imp id fun h ag=>h (List.mem_append_right _ ag)
 .simp only [BW,List.mem_singleton] at p;subst p;subst o;rcases av l m with h | h
  .exact aj l h rfl
  .exact au h
 .rcases List.mem_append.1 e with e | e
  .exact .inl (List.mem_append_left _ e)
  .rcases av j e with h | h
   .exact .inl (List.mem_append_right _ h)
   .exact .inr h
end Go.Vc
namespace Go.M
open Go Go.Vc
variable {c:UInt8} {t:ByteArray} {k:Nat} {l:List UInt8}
theorem Z0 (l:List UInt8) (c:UInt8):decide (0<=Lib.indexByte l c)=decide (c∈l):=by
 induction l with
 | nil=>rfl
 | cons e l b =>
  have i:=Lib.indexByte_ge l c;unfold Lib.indexByte;by_cases d:e=c
  .subst d;simp
  .rw [if_neg (by simpa using d)];have h:¬ c=e:=fun f=>d f.symm;by_cases a:c∈l
   .rw [decide_eq_true a] at b;have g:=of_decide_eq_true b;rw [if_neg sW];simp [a];omega
   .rw [decide_eq_false a] at b;have g:=of_decide_eq_false b;rw [if_pos sW];simp [a,h]
theorem aF0 (h:MU c=true):Lv c.toNat:=by
 have a:c∈NO:=of_decide_eq_true h;have b:∀ c∈NO,Lv c.toNat:=by
  unfold Lv NO;decide
 exact b c a
theorem aF1 (h:CR t=true) (hc:t.data.toList[k]? = some c):MU c=true:=List.all_eq_true.1 h c (List.mem_of_getElem? hc)
theorem Xh (hx:l[k]? = some c) (h:(l.take k).all MU=true) (hp:MU c=true):(l.take (k+1)).all MU=true:=by
 rw [List.take_add_one,hx];simp [h,hp]
theorem ZD (hx:l[k]? = some c) (hp:MU c=false):l.all MU=false:=by
 rw [List.all_eq_false];exact ⟨c,List.mem_of_getElem? hx,by simp [hp]⟩
def Ga (t:ByteArray) (k:Nat):List Int:=((t.data.toList.take k).map fun c=>ED c.toNat)++List.replicate (t.size - k) 0
theorem UW (t:ByteArray):Ga t 0=List.replicate t.size 0:=by simp [Ga]
theorem UX (hc:t.data.toList[k]? = some c):(Ga t k).set k (ED c.toNat)=Ga t (k+1):=by
 have e:k<t.size:=by
  have:=(List.getElem?_eq_some_iff.1 hc).1;simpa using this
 unfold Ga;obtain ⟨a,b⟩:∃ a,t.size - k=a+1:=⟨t.size - k - 1,om⟩;have d:((t.data.toList.take k).map fun c=>ED c.toNat).length=k:=sW
 rw [List.take_add_one,hc,b,show t.size - (k+1)=a by omega,List.set_append_right _ _ om,d,Nat.sub_self];simp [List.replicate_succ]
theorem Vm (h:t.size<=k):Ga t k=CW t:=by
 unfold Ga CW;rw [List.take_of_length_le (by simpa using h),show t.size - k=0 by omega];simp
theorem Vl (t:ByteArray) (h:k<=t.size):(Ga t k).length=t.size:=by
 simp [Ga];omega
end Go.M
namespace Go.Proofs.YtalgenmoljcnmaaGreatDoor
open Go Go.RowKit Go.Vc Go.M
variable {n:Nat} {t:ByteArray}
theorem JB (c:UInt8) (w:World):Dq 263 [.int .u8 c.toNat] w (fun v w'=>v = .bool (MU c)/\AD w w'):=by
 refine oV Tryz.func263 ?_;refine (Is _ _ _).mono ?_;rintro _ _ ⟨rfl,rfl⟩;refine ⟨?_,AD.refl _⟩
 .exact congrArg Value.bool (Z0 NO c)
theorem DQ (t:ByteArray) (ht:t.size<=1048576) (w:World):Dq 200 [.string t] w (fun v w'=>v = .bool (CR t)/\AD w w'):=by
 refine oV Tryz.func200 ?_;refine lR [0,3] (fun (a:Nat) j w'=>j=[.string t,.int .i64 a]/\a<=t.size/\(t.data.toList.take a).all MU=true/\AD w w') (fun a=>t.size - a) 0 ⟨rfl,om,sI,AD.refl _⟩ ?_;rintro a l _ w' ⟨rfl,m,g,f⟩;have n:t.data.toList.length=t.size:=sI
 rcases Nat.lt_or_ge a t.size with i | i
 .obtain ⟨d,b⟩:∃ d,t.data.toList[a]? = some d:=AA om;cases h:MU d
  .have c:CR t=false:=ZD b h;rw [c];exact iY<|jC a rfl b<|dM (JB _ _) fun k e=>iT ⟨rfl,(xt f e)⟩
  .have c:=Xh b g h;exact iY<|jC a rfl b<|dM (JB _ _) fun k e=>iF<|jP (((a+1:Nat):Int)) ⟨a+1,om,rfl,om,om,(xt f e)⟩
 .rw [List.take_of_length_le om] at g;have c:CR t=true:=g;rw [c];exact iN ⟨rfl,f⟩
theorem XW (hn:n<=1000) (w:World):Dq 264 [.int .i64 n] w (fun v w'=>∃ b,v = .agg #[.slice (some ⟨b,0,none⟩) n n]/\w.heap.size<=b/\An eI 1 w.heap.size 2 w' (some ⟨b,0,none⟩) n n (List.replicate n 0)/\AD w w'):=by
 refine oV Tryz.func264 ?_;refine jN (z := .agg #[.slice none 0 0]) ?_;intro m p j l d f;refine AB.make B3 (n) rfl om om ?_;intro i q k o e g;have a:=Hh (enc:=eI) (z:=(0:Int)) AI rfl g k om;exact AB.build KS rfl<|AX (vs:=[Value.slice (some { block:=i,off:=0 }) n n]) kR (f.ext e) rfl rfl cE fun r c h=>AO (jR (n:=1) rfl h.cells) ⟨_,rfl,om,((a.mod c.but (Gy a.new l (Nat.le_refl _))).base (Below.size d)),(xb (xt d e) c.but j)⟩
theorem Kl (ht:CR t=true) (hn:t.size=n) (hn2:n<=1000) (w:World):Dq 201 [.string t,.int .i64 n] w (fun v w'=>∃ b,v = .agg #[.slice (some ⟨b,0,none⟩) n n]/\w.heap.size<=b/\An eI 1 w.heap.size 2 w' (some ⟨b,0,none⟩) n n (CW t)/\AD w w'):=by
 refine oV Tryz.func201 ?_;refine jN (z := .agg #[.slice none 0 0]) ?_;intro y af am ad p ak;refine (XW hn2 _).mono ?_;rintro _ av ⟨c,rfl,ae,x,q⟩;refine jN (z := .agg #[.slice none 0 0]) fun l a' ax a6 h al=>AX (vs:=[Value.slice (some { block:=c,off:=0 }) n n]) kR al rfl rfl cE ?_;intro a7 m ah;have a1:=p.size;have a2:=q.size;have a3:=h.size;have az:c<av.heap.size:=x.lt _ rfl;refine lR [0,4,5,6] (fun (a:Nat) ar w'=>ar=[.string t,.pointer (some ⟨y,0,none⟩),.pointer (some ⟨l,0,none⟩),.int .i64 a]/\a<=n/\An eI 1 af.heap.size 2 w' (some ⟨c,0,none⟩) n n (Ga t a)/\B8 w' y [.slice none 0 0] 144/\B8 w' l [.slice (some ⟨c,0,none⟩) n n] 144/\AD af w') (fun a=>n - a) 0 ⟨rfl,om,?_,?_,?_,?_⟩ ?_
 .rw [UW,hn];exact ((x.mod (AD.mod (S:=fun _=>False) h) (fun _ _ i=>i)).base (Nat.le_refl _)).mod m.but (by rintro ag aq;cases aq;show ¬ c=_;omega)
 .exact (ak.ext (xt q h)).mod m.but om
 .exact ah
 .exact (xb (xt q h) m.but om)
 rintro a aw _ w' ⟨rfl,a0,f,ab,r,ac⟩;rcases Nat.lt_or_ge a n with ap | ap
 .obtain ⟨g,s⟩:∃ g,t.data.toList[a]? = some g:=AA sW;have an:=aF0 (aF1 ht s);have a4:=UX s;refine iY<|Au A7 mixed (pZ [0,10,15,20,6,26,32,35,43]) kR kR fun au d=>dL r.cells (k:=0) rfl<|Xr kR a rfl s<|dM (Ks an _) fun a8 e=>⟨(xt d e),?_⟩;obtain ⟨ba,u⟩:∃ ag,(Ga t a)[a]? = some ag:=AA (by rw [Vl t om];omega);refine pW (sz:=1) a rfl om ?_;have ay:=AU AI f.own u;refine Fx (k:=a) (j:=0) kR AI (f.ext (xt d e)) u dE rfl (ED g.toNat) rfl ?_;intro a9 o aj;have a5:=D6 u ((ED g.toNat));refine jP (((a+1:Nat):Int)) ⟨a+1,om,rfl,om,by simpa [List.take_add_one,-List.take_append_getElem, *] using aj,((ab.ext (xt d e)).mod o.but (aH2 ad ae (Nat.le_refl _))),?_,(xb (xt (xt ac d) e) o.but ae)⟩
  .exact (r.ext (xt d e)).mod o.but (fun i=>by have i:l=c:=i;omega)
 .have ao:=Vm (t:=t) (k:=a) om;rw [ao] at f;exact iN<|jA (n:=1) r.cells rfl<|AX (vs:=[Value.slice (some { block:=c,off:=0 }) n n]) kR ab rfl rfl cE fun au aa ai=>AO (jR (n:=1) rfl ai.cells) ⟨_,rfl,om,((f.mod aa.but (Gy f.new ad (Nat.le_refl _))).base (Below.size p)),(xb (xt p ac) aa.but am)⟩
theorem Q6 (ht:t.size<=1048576) (w:World):Dq 132 [.string t,.int .i64 t.size] w (fun v w'=>∃ a n c,v = .tuple #[.agg #[.slice a n c],.int .i64 (CK t)]/\(CK t=0->Ab w.heap.size a/\An eI 1 w.heap.size 2 w' a n c (CW t))/\AD w w'):=by
 unfold CK;cases g:Ey t.size 1 20
 .refine oV Tryz.func132 ?_;conv=>whnf
  refine jN (z := .agg #[.slice none 0 0]) ?_;intro ad ai y ae x m;refine (CD _ _ _ _).mono ?_;rintro _ _ ⟨rfl,rfl⟩;refine iT ?_;refine AB.build KS rfl ?_;refine jS (vs:=[Value.slice none 0 0]) m rfl rfl cE ?_;intro aj s o;refine AO (jR (n:=1) rfl o.cells) ?_;exact ⟨_,_,_,rfl,by simp [g],(xb x s.but y)⟩
 .cases k:CR t
  .refine oV Tryz.func132 ?_;refine jN (z := .agg #[.slice none 0 0]) ?_;intro q ab f aa d e;refine (CD _ _ _ _).mono ?_;rintro _ _ ⟨rfl,rfl⟩;refine iF ?_;refine iN ?_;refine (DQ _ ht _).mono ?_;rintro _ ac ⟨rfl,b⟩;refine iT ?_;refine AB.build KS rfl ?_;refine jS (vs:=[Value.slice none 0 0]) (e.ext b) rfl rfl cE ?_;intro ak u p;refine AO (jR (n:=1) rfl p.cells) ?_;exact ⟨_,_,_,rfl,by simp [g,k],(xb (xt d b) u.but f)⟩
  .refine oV Tryz.func132 ?_;conv=>whnf
   refine jN (z := .agg #[.slice none 0 0]) ?_;intro q ab f aa d e;refine (CD _ _ _ _).mono ?_;rintro _ _ ⟨rfl,rfl⟩;refine iF ?_;refine iN ?_;refine (DQ _ ht _).mono ?_;rintro _ ac ⟨rfl,b⟩;refine iF ?_;refine (Kl k om (by have:=Bx g;omega) _).mono ?_;rintro _ ag ⟨r,rfl,af,h,j⟩;refine AX (vs:=[Value.slice (some { block:=r,off:=0 }) t.size t.size]) kR (e.ext (xt b j)) rfl rfl cE ?_;intro ah i l;refine AO (jR (n:=1) rfl l.cells) ?_;refine ⟨_,_,_,rfl,?_,(xb (xt (xt d b) j) i.but f)⟩
   .exact fun _=>⟨Ab.some (by have:=d.size;have:=b.size;omega),((h.mod i.but (Gy h.new (by have:=b.size;omega) (Nat.le_refl _))).base (by have:=d.size;have:=b.size;omega))⟩
theorem Sj {w:World} {d:Hd} {xs:List Int} (R:AZ w d xs):Dq 135 [.agg ⟨eH d⟩] w (fun v w'=>v = .tuple #[.string (if BG xs=0 then Cf (CO xs) else ⟨#[]⟩),.int .i64 (BG xs)]/\AD w w'):=by
 obtain ⟨c,x⟩:=R;unfold BG;cases m:FA xs
 .refine oV Tryz.func135 ?_;conv=>whnf
  exact AB.box fun t z u y g h=>jA (n:=1) h.cells rfl<|dM (Ed (c.ext g)) fun aa a=>iT ⟨rfl,(xt g a)⟩
 .cases o:Di xs
  .refine oV Tryz.func135 ?_;refine AB.box ?_;intro i q l p a e;refine jA (n:=1) e.cells rfl<|dM (Ed (c.ext a)) fun r b=>?_;refine iF<|jL (e.ext b).cells (k:=0) rfl<|dM (F2 (c.ext (xt a b))) fun s f=>?_;refine iT ?_;exact ⟨rfl,(xt (xt a b) f)⟩
  .refine oV Tryz.func135 ?_;conv=>whnf
   exact AB.box fun i q l p a e=>jA (n:=1) e.cells rfl<|dM (Ed (c.ext a)) fun r b=>iF<|jL (e.ext b).cells (k:=0) rfl<|dM (F2 (c.ext (xt a b))) fun s f=>iF<|jL (e.ext (xt b f)).cells (k:=0) rfl<|dM (Ov (c.ext (xt (xt a b) f)) o (by have:=c.len;have:=(Bp m).2.1;omega)) fun ab j=>⟨rfl,(xt (xt (xt a b) f) j)⟩
end Go.Proofs.YtalgenmoljcnmaaGreatDoor
namespace Go.M
open Go Go.Vc
theorem KR (d:List (List Int)) (f:AE) (n:Nat):FF d f (n+1)=if Ht d f n=true then FF d f n++[n] else FF d f n:=by
 unfold FF;rw [List.range_succ,List.filter_append];split<;>simp [*]
theorem W4 {d:List (List Int)} {f:AE} {k:Nat} (h:Ht d f k=true):(FF d f (k+1)).length=(FF d f k).length+1:=by rw [KR,if_pos h];simp
theorem YX {d:List (List Int)} {f:AE} {k:Nat} (h:Ht d f k=false):(FF d f (k+1)).length=(FF d f k).length:=by rw [KR,if_neg (by simp [h])]
theorem S4 (d:List (List Int)) (f:AE) (k:Nat):(FF d f k).length<=k:=by
 unfold FF;have:=List.length_filter_le (Ht d f) (List.range k);rw [List.length_range] at this;exact this
theorem YZ {d:List (List Int)} {f:AE} {k:Nat} {x y:List Int} (hx:d[k+1]? = some x) (hy:d[k]? = some y):Ht d f (k+1)=decide (CY (AS f x) (AS f y)<0):=by
 simp [Ht,List.getD_eq_getElem?_getD,hx,hy]
theorem P7 {d:List (List Int)} {f:AE}:(FF d f 1).length=0:=by
 rw [KR,if_neg (by simp [Ht])];rfl
section
variable {ds:List (List (List Int))} {ts:List ByteArray} {f:AE}
theorem JG {d:List (List Int)} (h:d∈ds) (hd:A2 d=false):BT ds ts f=1:=by
 unfold BT;rw [if_pos (List.any_eq_true.2 ⟨d,h,by simp [hd]⟩)]
theorem F7 {α:Type} {l:List α} {p:α->Bool} (h:∀ x∈l,p x=true):¬ (l.any fun x=>!p x)=true:=by
 intro a;obtain ⟨x,c,b⟩:=List.any_eq_true.1 a;simp [h x c] at b
theorem IB (h1:∀ d∈ds,A2 d=true) {d:List (List Int)} (h:d∈ds) (hd:AR f (AJ d)=false):BT ds ts f=2:=by
 unfold BT;rw [if_neg (F7 h1),if_pos (List.any_eq_true.2 ⟨d,h,by simp [hd]⟩)]
theorem Tf (h1:∀ d∈ds,A2 d=true) (h2:∀ d∈ds,AR f (AJ d)=true) {t:ByteArray} (h:t∈ts) (ht:¬ (t.size:Int)=f.to_ - f.from_):BT ds ts f=2:=by
 unfold BT;rw [if_neg (F7 h1),if_neg (F7 h2),if_pos (List.any_eq_true.2 ⟨t,h,by simp [ht]⟩)]
theorem YD (h1:∀ d∈ds,A2 d=true) (h2:∀ d∈ds,AR f (AJ d)=true) (h3:∀ t∈ts,(t.size:Int)=f.to_ - f.from_) {t:ByteArray} (h:t∈ts) (ht:CR t=false):BT ds ts f=7:=by
 unfold BT;rw [if_neg (F7 h1),if_neg (F7 h2),if_neg (F7 fun t ht=>decide_eq_true (h3 t ht)),if_pos (List.any_eq_true.2 ⟨t,h,by simp [ht]⟩)]
theorem JF (h1:∀ d∈ds,A2 d=true) (h2:∀ d∈ds,AR f (AJ d)=true) (h3:∀ t∈ts,(t.size:Int)=f.to_ - f.from_) (h4:∀ t∈ts,CR t=true) {d:List (List Int)} (h:d∈ds) (hd:Dg d f=false):BT ds ts f=8:=by
 unfold BT;rw [if_neg (F7 h1),if_neg (F7 h2),if_neg (F7 fun t a=>decide_eq_true (h3 t a)),if_neg (F7 h4),if_pos (List.any_eq_true.2 ⟨d,h,by simp [hd]⟩)]
theorem Pv (h1:∀ d∈ds,A2 d=true) (h2:∀ d∈ds,AR f (AJ d)=true) (h3:∀ t∈ts,(t.size:Int)=f.to_ - f.from_) (h4:∀ t∈ts,CR t=true) (h5:∀ d∈ds,Dg d f=true):BT ds ts f=0:=by
 unfold BT;rw [if_neg (F7 h1),if_neg (F7 h2),if_neg (F7 fun t a=>decide_eq_true (h3 t a)),if_neg (F7 h4),if_neg (F7 h5)]
end
theorem Ge {α:Type} {l:List α} {k:Nat} {x:α} {p:α->Prop} (hx:l[k]? = some x) (h:∀ y∈l.take k,p y) (hp:p x):∀ y∈l.take (k+1),p y:=by
 intro y a;rw [List.take_add_one,hx] at a;rcases List.mem_append.1 a with a | a
 .exact h y a
 .simp at a;subst a;exact hp
theorem HH {α:Type} {l:List α} {k:Nat} {p:α->Prop} (hk:l.length<=k) (h:∀ y∈l.take k,p y):∀ y∈l,p y:=by
 rw [List.take_of_length_le hk] at h;exact h
end Go.M
namespace Go.Proofs.YtalgenmoljcnmaaGreatDoor
open Go Go.RowKit Go.Vc Go.M
variable {w:World} {a:Option Addr} {n c:Nat} {xs:List (List Int)} {f:AE}
theorem XV (h:Ac AZ w a n xs) (hd:A2 xs=true) (hf:AR f (AJ xs)=true) :
  Dq 354 [.slice a n c,.agg ⟨f.enc⟩] w (fun v w'=>∃ a' c',v = .slice a' (FF xs f xs.length).length c'/\AD w w'):=by
 have bx:=h.len;have ag:=h.le;have an:=Am hd;have bn:=an.1;have aj:∀ c∈xs,AR f c.length=true:=fun c a9=>by rw [(an.2 c a9).2];exact hf
 have a5:∀ j q r e m,AZ j q e->AZ j r m->e∈xs->m∈xs->Dq 275 [.agg ⟨eH q⟩,.agg ⟨eH r⟩,.agg ⟨f.enc⟩] j (fun v w'=>v = .int .i64 (CY (AS f e) (AS f m))/\AD j w'):=fun j q r e m u x p s=>Ez u x (aj e p) (aj m s);obtain ⟨ao,af,ak⟩:=h;have bv:=af.len;refine oV Tryz.func354 ?_;refine AB.box ?_;intro ac ar bm b1 a1 av;refine bS B3 (vs:=[]) ?_;intro bg b6 a2 b2 ai aw;have ay:=Ag (enc:=eI) AI aw a2;refine lR [0,3,5,6] (fun (g:Nat) be w'=>∃ a' t c' au,be=[.slice a n c,.pointer (some ⟨ac,0,none⟩),.slice a' t c',.int .i64 g]/\1<=g/\g<=n+1/\(g<=n\/g=1)/\t=(FF xs f g).length/\An eI 1 ar.heap.size 2 w' a' t c' au/\AK w' ac 0 f.enc/\AD ar w') (fun g=>n+1 - g) 1 ⟨_,_,_,_,rfl,om,om,om,P7.symm,ay,(av.ext ai).cells,ai⟩ ?_;rintro g bl _ w' ⟨a',t,c',au,rfl,bt,br,bu,ag,z,ae,ab⟩;have aa:=xt a1 ab;have bw:=S4 xs f g;have bd:∀ e,a'=some e->e.block≠ac:=fun e p=>by have:=z.new e p;omega
 rcases Nat.lt_or_ge g n with bc | bc
 .obtain ⟨b,rfl⟩:∃ b,g=b+1:=⟨g - 1,om⟩;obtain ⟨q,al⟩:=AA (l:=ao) (k:=b+1) om;obtain ⟨e,p,u⟩:=ak.get al;obtain ⟨r,am⟩:=AA (l:=ao) (k:=b) om;obtain ⟨m,s,x⟩:=ak.get am;have a6:∀ j,AD w j->Dq 275 [.agg ⟨eH q⟩,.agg ⟨eH r⟩,.agg ⟨f.enc⟩] j (fun v w'=>v = .int .i64 (CY (AS f e) (AS f m))/\AD j w'):=fun j ah=>a5 j q r e m ⟨u.1.ext ah,u.2⟩ ⟨x.1.ext ah,x.2⟩ (List.mem_of_getElem? p) (List.mem_of_getElem? s);have ap:=YZ (f:=f) p s;have bq:=RX (AS f e) (AS f m);have bz:((b+1:Nat):Int) - 1=b:=om
  refine iY<|dH (pB [0,2,4,6,8,10,12,14,16,19,21,23]) fun b7 i=>dI (af.ext aa) (b+1) rfl al fun bh b4 bo a7=>dA (n:=1) a7 rfl<|BQ.sub (((b:Nat):Int)) om om om<|dI (af.ext aa) b rfl am fun bi b5 bp a8=>dA (n:=1) a8 rfl<|jA (n:=2) (ae.ext i) rfl ⟨i,dM (a6 _ (xt aa i)) fun b8 o=>⟨(xt i o),AF (fun ad=>?_) fun ad=>?_⟩⟩
  .refine bS B3 (vs:=[Value.int IntKind.i64 ↑(b+1)]) ?_;intro bj b9 a3 b3 y ax;have az:=AH (n:=1) (enc:=eI) (xs:=[↑(b+1)]) AI ax a3 rfl dE;refine AN (enc:=eI) B3 AI (z.ext (xt (xt i o) y)) (az.own.arr AI) (by intro m _;simp [eI,AM]) om om (Below.size (xt (xt (xt ab i) o) y)) fun bf bk b' a0 aq b0=>jP (((b+1+1:Nat):Int)) ⟨b+1+1,om,_,_,_,_,rfl,om,om,om,?_,a0,(ae.ext (xt (xt i o) y)).mod aq (by rintro ⟨e,p,ba⟩;exact bd e p ba.symm),(xm (xt (xt (xt ab i) o) y) aq (AQ z.new))⟩;have s:=W4 (d:=xs) (f:=f) (k:=b+1) (by rw [ap];exact decide_eq_true ad);omega
  .refine jP (((b+1+1:Nat):Int)) ⟨b+1+1,om,_,_,_,_,rfl,om,om,om,?_,z.ext (xt i o),(ae.ext (xt i o)),(xt (xt ab i) o)⟩;have s:=YX (d:=xs) (f:=f) (k:=b+1) (by rw [ap];exact decide_eq_false ad);omega
 .refine iN ?_;(conv=>whnf);have bb:t=(FF xs f xs.length).length:=by
   rcases Nat.lt_or_ge 0 n with a4 | a4
   .rw [ag,show g=xs.length by omega]
   .rw [ag,show g=1 by omega,P7,show xs.length=0 by omega];rfl
  subst bb;exact ⟨_,_,rfl,aa⟩
theorem Fb (h:Ac AZ w a n xs) (hd:A2 xs=true) (hf:AR f (AJ xs)=true) :
  Dq 342 [.slice a n c,.agg ⟨f.enc⟩] w (fun v w'=>v = .bool (GQ xs f)/\AD w w'):=by
 have l:∀ b,AD w b->Dq 354 [.slice a n c,.agg ⟨f.enc⟩] b (fun v w'=>∃ g i,v = .slice g (FF xs f xs.length).length i/\AD b w'):=fun b j=>XV (h.ext j) hd hf;have r:=S4 xs f xs.length;unfold GQ;refine oV Tryz.func342 ?_;refine AB.box ?_;intro o t q s d e;refine jA (n:=2) e.cells rfl<|(l _ d).mono ?_;rintro _ u ⟨m,p,rfl,k⟩;exact ⟨by simp [*],(xt d k)⟩
theorem Fc {b:Option Addr} {m d:Nat} {ds:List (List (List Int))} {ts:List ByteArray} (h:Ac CA w a n ds) (hT:A4 eS 1 w b m ts) (hne:ds≠[]) (hts:∀ t∈ts,t.size<=1048576) (hf:f.ok) :
  Dq 341 [.agg ⟨f.enc⟩,.bool true,.slice b m d,.slice a n c] w (fun v w'=>v = .int .i64 (BT ds ts f)/\AD w w'):=by
 have cc:=h.len;have b':=h.le;have ca:=hT.len;have cb:=hT.le;obtain ⟨ap,bc⟩:∃ ap,ap∈ds:=List.exists_mem_of_ne_nil _ hne;obtain ⟨aw,aj,az⟩:=h;have b8:=aj.len;refine oV Tryz.func341 ?_;refine AB.box ?_;intro ae cg b2 cf bi be;have b3:∀ q,AD w q->A4 eH 1 q a n aw:=fun q ak=>aj.ext ak;refine lR [1,2,3,4,19,20,21] (fun (j:Nat) ag w'=>ag=[.bool true,.slice b m d,.slice a n c,.pointer (some ⟨ae,0,none⟩),.slice a n c,.int .i64 n,.int .i64 j]/\j<=n/\(∀ ad∈ds.take j,A2 ad=true)/\AK w' ae 0 f.enc/\AD w w') (fun j=>n - j) 0 ⟨rfl,om,sI,be.cells,bi⟩ ?_;rintro j au _ ch ⟨rfl,b7,a8,g,e⟩;rcases Nat.lt_or_ge j n with bp | bp
 .obtain ⟨ab,y⟩:=AA (l:=aw) (k:=j) om;obtain ⟨ac,aa,ao⟩:=az.get y;have ai:∀ q,AD w q->Dq 111 [.slice ab.a ab.n ab.c] q (fun v w'=>v = .bool (A2 ac)/\AD q w'):=fun q ak=>Dy (ao.1.ext ak);cases r:A2 ac
  .rw [JG (List.mem_of_getElem? aa) r];exact iY<|jI (aj.ext e) j rfl y fun bf bv bk a1=>jO a1 rfl<|dM (ai _ e) fun bd aq=>iT ⟨rfl,(xt e aq)⟩
  .have av:=Ge (p:=fun ad=>A2 ad=true) aa a8 r;exact iY<|jI (aj.ext e) j rfl y fun bf bv bk a1=>jO a1 rfl<|dM (ai _ e) fun bd aq=>iF<|jP (((j+1:Nat):Int)) ⟨j+1,om,rfl,om,om,(g.ext aq),(xt e aq)⟩
 .obtain rfl:j=n:=om
  have ah:=HH (show ds.length<=j by omega) a8;refine iN ?_;have ce:=e;refine lR [2,3,4,31,32,33] (fun (i:Nat) ag w'=>ag=[.slice b m d,.slice a j c,.pointer (some ⟨ae,0,none⟩),.slice a j c,.int .i64 j,.int .i64 i]/\i<=j/\(∀ ad∈ds.take i,AR f (AJ ad)=true)/\AK w' ae 0 f.enc/\AD w w') (fun i=>j - i) 0 ⟨rfl,om,sI,g,e⟩ ?_;clear e g;rintro i au _ ci ⟨rfl,b5,a9,g,e⟩;rcases Nat.lt_or_ge i j with bn | bn
  .obtain ⟨ab,y⟩:=AA (l:=aw) (k:=i) om;obtain ⟨ac,aa,ao⟩:=az.get y;have bu:=ah ac (List.mem_of_getElem? aa);have bt:=EX bu;have ai:∀ q,AD w q->Dq 209 [.slice ab.a ab.n ab.c] q (fun v w'=>v = .int .i64 (AJ ac)/\AD q w'):=fun q ak=>DP (ao.1.ext ak);cases r:AR f (AJ ac)
   .rw [IB ah (List.mem_of_getElem? aa) r];exact iY<|jI (aj.ext e) i rfl y fun ax a5 a0 al=>jO al rfl<|dH (pB [0,3,5,7,9]) fun b1 af=>dA (n:=2) g rfl<|dM (ai _ (xt e af)) fun a6 x=>⟨(xt af x),dM (DX _ _ _) fun b0 am=>⟨(xt (xt af x) am),iT ⟨rfl,(xt (xt (xt e af) x) am)⟩⟩⟩
   .have av:=Ge (p:=fun ad=>AR f (AJ ad)=true) aa a9 r;exact iY<|jI (aj.ext e) i rfl y fun ax a5 a0 al=>jO al rfl<|dH (pB [0,3,5,7,9]) fun b1 af=>dA (n:=2) g rfl<|dM (ai _ (xt e af)) fun a6 x=>⟨(xt af x),dM (DX _ _ _) fun b0 am=>⟨(xt (xt af x) am),iF<|jP (((i+1:Nat):Int)) ⟨i+1,om,rfl,om,om,(g.ext (xt (xt af x) am)),(xt (xt (xt e af) x) am)⟩⟩⟩
  .obtain rfl:i=j:=om
   have an:=HH (show ds.length<=i by omega) a9;have b4:=Bc (an ap bc);have bt:=EX (ah ap bc);refine iN<|lR [2,3,4,43,44,45] (fun (o:Nat) ag w'=>ag=[.slice b m d,.slice a i c,.pointer (some ⟨ae,0,none⟩),.slice b m d,.int .i64 m,.int .i64 o]/\o<=m/\(∀ t∈ts.take o,(t.size:Int)=f.to_ - f.from_)/\AK w' ae 0 f.enc/\AD w w') (fun o=>m - o) 0 ⟨rfl,om,sI,g,e⟩ ?_;clear e g;rintro o au _ cj ⟨rfl,b6,a',g,e⟩;rcases Nat.lt_or_ge o m with bo | bo
   .obtain ⟨t,z⟩:=AA (l:=ts) (k:=o) om;have a4:=hts t (List.mem_of_getElem? z);by_cases r:(t.size:Int)=f.to_ - f.from_
    .have av:=Ge (p:=fun t=>(ByteArray.size t:Int)=f.to_ - f.from_) z a' r;exact iY<|jI (hT.ext e) o rfl z fun ax a5 a0 al=>jO al rfl<|jL g (k:=1) rfl<|jL g (k:=0) rfl<|AB.sub _ rfl om om<|iF<|jP (((o+1:Nat):Int)) ⟨o+1,om,rfl,om,om,g,e⟩
    .rw [Tf ah an (List.mem_of_getElem? z) r];exact iY<|jI (hT.ext e) o rfl z fun ax a5 a0 al=>jO al rfl<|jL g (k:=1) rfl<|jL g (k:=0) rfl<|AB.sub _ rfl om om<|iT ⟨rfl,e⟩
   .obtain rfl:o=m:=om
    have ay:=HH (show ts.length<=o by omega) a';refine iN<|lR [3,4,58,59,60] (fun (s:Nat) ag w'=>ag=[.slice a i c,.pointer (some ⟨ae,0,none⟩),.slice b o d,.int .i64 o,.int .i64 s]/\s<=o/\(∀ t∈ts.take s,CR t=true)/\AK w' ae 0 f.enc/\AD w w') (fun s=>o - s) 0 ⟨rfl,om,sI,g,e⟩ ?_;clear e g;rintro s au _ ck ⟨rfl,b9,ba,g,e⟩;rcases Nat.lt_or_ge s o with bq | bq
    .obtain ⟨t,z⟩:=AA (l:=ts) (k:=s) om;have a4:=hts t (List.mem_of_getElem? z);cases r:CR t
     .rw [YD ah an ay (List.mem_of_getElem? z) r];exact iY<|jI (hT.ext e) s rfl z fun bg bw bl a2=>jO a2 rfl<|dM (DQ _ a4 _) fun a6 x=>iT ⟨rfl,(xt e x)⟩
     .have av:=Ge (p:=fun t=>CR t=true) z ba r;exact iY<|jI (hT.ext e) s rfl z fun bg bw bl a2=>jO a2 rfl<|dM (DQ _ a4 _) fun a6 x=>iF<|jP (((s+1:Nat):Int)) ⟨s+1,om,rfl,om,om,(g.ext x),(xt e x)⟩
    .obtain rfl:s=o:=om
     have a7:=HH (show ts.length<=s by omega) ba;refine iN<|lR [4,68,69,70] (fun (u:Nat) ag w'=>ag=[.pointer (some ⟨ae,0,none⟩),.slice a i c,.int .i64 i,.int .i64 u]/\u<=i/\(∀ ad∈ds.take u,Dg ad f=true)/\AK w' ae 0 f.enc/\AD w w') (fun u=>i - u) 0 ⟨rfl,om,sI,g,e⟩ ?_;clear e g;rintro u au _ bd ⟨rfl,cd,bb,g,e⟩;rcases Nat.lt_or_ge u i with br | br
     .obtain ⟨ab,y⟩:=AA (l:=aw) (k:=u) om;obtain ⟨ac,aa,ao⟩:=az.get y;have ai:∀ q,AD w q->Dq 210 [.slice ab.a ab.n ab.c,.agg ⟨f.enc⟩] q (fun v w'=>v = .bool (Dg ac f)/\AD q w'):=fun q ak=>FM (ao.1.ext ak) (ah ac (List.mem_of_getElem? aa)) (an ac (List.mem_of_getElem? aa));cases r:Dg ac f
      .rw [JF ah an ay a7 (List.mem_of_getElem? aa) r];exact iY<|jI (aj.ext e) u rfl y fun bh bx bm a3=>jO a3 rfl<|jA (n:=2) g rfl<|dM (ai _ e) fun bz ar=>iT ⟨rfl,(xt e ar)⟩
      .have av:=Ge (p:=fun ad=>Dg ad f=true) aa bb r;exact iY<|jI (aj.ext e) u rfl y fun bh bx bm a3=>jO a3 rfl<|jA (n:=2) g rfl<|dM (ai _ e) fun bz ar=>iF<|jP (((u+1:Nat):Int)) ⟨u+1,om,rfl,om,om,(g.ext ar),(xt e ar)⟩
     .obtain rfl:u=i:=om
      have bj:=HH (show ds.length<=u by omega) bb;rw [Pv ah an ay a7 bj];exact iN ⟨rfl,e⟩
end Go.Proofs.YtalgenmoljcnmaaGreatDoor
namespace Go.M
open Go Go.Vc
variable {α β:Type} {p:α->Bool}
theorem WY {l:List α} (h:l.any p=false):l.filter (fun x=>!p x)=l:=by
 rw [List.filter_eq_self];intro x a;rw [List.any_eq_false] at h;simpa using h x a
theorem Wb {α β:Type} {p:α->Bool}:∀ {xs:List α} {ys:List β},xs.length=ys.length->xs.any p=false->Hc (fun x=>!p x) xs ys=ys
 | [],[],_,_=>rfl
 | [],_ :: _,h,_=>by simp at h
 | _ :: _,[],h,_=>by simp at h
 | x :: xs,y :: ys,h,hp=>by
  rw [List.any_cons,Bool.or_eq_false_iff] at hp;have:=Wb (p:=p) (xs:=xs) (ys:=ys) (by simpa using h) hp.2;unfold Hc;rw [hp.1,this];rfl
theorem TY (q:α->Bool) {xs:List α} {ys:List β} (h:xs.length=ys.length) {k:Nat} {x:α} {y:β} (hx:xs[k]? = some x) (hy:ys[k]? = some y) :
  Hc q (xs.take (k+1)) (ys.take (k+1))=if q x=true then Hc q (xs.take k) (ys.take k)++[y] else Hc q (xs.take k) (ys.take k):=by
 rw [List.take_add_one,List.take_add_one,hx,hy];exact TZ q x y _ _ (by simp [h])
theorem R3 {L:List α} {m:Nat} (d:α) (h:m<L.length):(L.set m d).take (m+1)=L.take m++[d]:=by
 rw [List.take_add_one,List.take_set_of_le (Nat.le_refl m),D6 (List.getElem?_eq_getElem h)];rfl
end Go.M
namespace Go.Proofs.YtalgenmoljcnmaaGreatDoor
open Go Go.RowKit Go.Vc Go.M
variable {w:World} {a:Option Addr} {n c g:Nat} {xs:List (List Int)} {p:List Int->Bool} {cap:List Value}
theorem LP (h:Ac AZ w a n xs)
  (hg:∀ d x,x∈xs->AZ w d x->∀ w',AD w w'->E2 Tryz.prog g (.agg ⟨eH d⟩ :: cap) w' (fun v w''=>v = .bool (p x)/\AD w' w'')) :
  Dq 313 [.slice a n c,.func (.func g) ⟨[]⟩ ⟨cap⟩] w (fun v w'=>∃ r:Int,v = .int .i64 r/\((r = -1/\xs.any p=false)\/∃ i x,r=(i:Nat)/\xs[i]? = some x/\p x=true/\(xs.take i).any p=false)/\AD w w'):=by
 have am:=h.len;have al:=h.le;obtain ⟨ae,o,ab⟩:=h;have ak:=o.len;refine oV Tryz.func313 ?_;refine lR [0,1,7,8] (fun (b:Nat) ag w'=>ag=[.slice a n c,.func (.func g) ⟨[]⟩ ⟨cap⟩,.int .i64 n,.int .i64 b]/\b<=n/\(xs.take b).any p=false/\AD w w') (fun b=>n - b) 0 ⟨rfl,om,sI,AD.refl _⟩ ?_;rintro b ai _ w' ⟨rfl,aj,f,e⟩;rcases Nat.lt_or_ge b n with ad | ad
 .obtain ⟨d,s⟩:=AA (l:=ae) (k:=b) om;obtain ⟨x,u,z⟩:=ab.get s;have j:=hg d x (List.mem_of_getElem? u) z;have y:=G8 (p:=p) u;cases t:p x
  .rw [t] at j y;rw [f,Bool.or_false] at y;exact iY<|jI (o.ext e) b rfl s fun aa af ac q=>jA (n:=1) q rfl<|dM (j _ e) fun ah m=>jP (((b+1:Nat):Int)) ⟨b+1,om,rfl,om,om,(xt e m)⟩
  .rw [t] at j;exact iY<|jI (o.ext e) b rfl s fun aa af ac q=>jA (n:=1) q rfl<|dM (j _ e) fun ah m=>⟨_,rfl,.inr ⟨b,x,rfl,u,t,f⟩,(xt e m)⟩
 .rw [List.take_of_length_le om] at f;exact iN ⟨_,rfl,.inl ⟨rfl,f⟩,e⟩
theorem H0 {t:Nat} {fp:List Nat} (h:DM Aw w a n t xs fp) (hnd:fp.Nodup) (hnc:n<=c)
  (hg:∀ u,BP (AL a) w u->∀ d x,x∈xs->AZ u d x->E2 Tryz.prog g (.agg ⟨eH d⟩ :: cap) u (fun v w''=>v = .bool (p x)/\AD u w'')) :
  Dq 345 [.slice a n c,.func (.func g) ⟨[]⟩ ⟨cap⟩] w (fun v w'=>∃ m fp',v = .slice a m c/\m=(xs.filter fun x=>!p x).length/\m<=n/\DM Aw w' a m t (xs.filter fun x=>!p x) fp'/\fp'.Sublist fp/\BP (AL a) w w'):=by
 have bb:=h.arr;have bc:=LP (c:=c) bb (p:=p) (cap:=cap) (fun d x s au u av=>hg u (av.mod) d x s ⟨au.1.ext av,au.2⟩);have a2:=h.len;obtain ⟨e,ai,r,aw,rfl⟩:=h;have a0:e.length=n:=r.1;have b5:=r.2.1;obtain ⟨b7,b8,br⟩:=List.nodup_append.1 hnd;have am:∀ {u:World},BP (AL a) w u->HJ Aw u e xs ai:=fun a4=>aw.keep fun b al=>a4.block b (fun bg=>br b (Az.2 bg) b al rfl) (aw.lt b al);refine oV Tryz.func345 ?_;refine bc.mono ?_;rintro _ ca ⟨b',rfl,bo,q⟩;rcases bo with ⟨rfl,bf⟩ | ⟨j,ce,rfl,a1,bm,bn⟩
 ·(conv=>whnf);rw [WY bf];exact ⟨n,_,rfl,om,om,⟨e,ai,r.ext q,am (q.mod),rfl⟩,List.Sublist.refl _,q.mod⟩
 .have b1:j<n:=by rw [<- a2];exact (List.getElem?_eq_some_iff.1 a1).1
  have b2:(j:Int)+1<=9223372036854775807:=om
  obtain ⟨y,rfl⟩:=r.some om;have af:xs.length=e.length:=by rw [a0,a2]
  refine jP (((j+1:Nat):Int))<|lR [0,1,5,6] (fun (b:Nat) bt w'=>∃ m f,bt=[.slice (some ⟨y,0,none⟩) n c,.func (.func g) ⟨[]⟩ ⟨cap⟩,.int .i64 (m:Nat),.int .i64 (b:Nat)]/\b<=n/\m<b/\f.length=n/\f.take m=Hc (fun x=>!p x) (xs.take b) (e.take b)/\f.drop b=e.drop b/\Bs eH w' (some ⟨y,0,none⟩) n t f/\BP (AL (some ⟨y,0,none⟩)) w w') (fun b=>n - b) (j+1) ⟨j,e,rfl,om,om,a0,?_,rfl,r.ext q,q.mod⟩ ?_
  .obtain ⟨bx,bi⟩:∃ d,e[j]? = some d:=AA om;rw [TY _ af a1 bi,if_neg (by simp [bm]),Wb (by simp [af]) bn]
  rintro b bz _ w' ⟨m,f,rfl,al,b3,ax,i,ay,ac,ab⟩;have b4:(Hc (fun x=>!p x) (xs.take b) (e.take b)).length=m:=by rw [<- i,List.length_take];omega
  rcases Nat.lt_or_ge b n with bj | bj
  .obtain ⟨d,aj⟩:=AA (l:=e) (k:=b) om;obtain ⟨x,s⟩:=AA (l:=xs) (k:=b) om;have bd:f[b]? = some d:=by
    have a9:(f.drop b)[0]? = (e.drop b)[0]? := by rw [ay]
    simpa [aj] using a9
   have ae:=TY (fun x=>!p x) af s aj;have az:f.drop (b+1)=e.drop (b+1):=by
    have:=congrArg (List.drop 1) ay;simpa [List.drop_drop] using this
   refine iY<|jI (ac.arr Dz) b rfl bd fun bv b9 b0 bh=>jA (n:=1) bh rfl<|jN (z := .agg #[.slice none 0 0]) fun bw cb ba b6 a' a3=>jS (vs:=[Value.slice d.a d.n d.c]) a3 rfl rfl cE fun an a6 ao=>jA (n:=1) ao.cells rfl ?_;(conv=>whnf);have ah:AD w' an:=xb a' a6.but ba;have ap:=ab.trans ah.mod;have be:AZ an d x:=(am ap).rd.2 b d x aj s;have ad:=hg an ap d x (List.mem_of_getElem? s) be;cases ag:p x
   .rw [ag] at ad;rw [ag] at ae;refine ad.mono ?_;rintro _ bu ⟨rfl,aa⟩;have o:=xt ah aa;refine jA (n:=1) (ao.ext aa).cells rfl<|jW (sz:=1) m rfl om ?_;obtain ⟨cf,bp⟩:=AA (l:=f) (k:=m) om;refine Ss kR Dz (ac.ext o) bp d (by simp [eH,AM]) fun cc a7 a5=>jP (((m+1:Nat):Int))<|jP (((b+1:Nat):Int)) ⟨b+1,om,m+1,f.set m d,rfl,om,om,by simp [ax],?_,?_,a5,(ab.trans o.mod).trans (a7.but.mono fun bq ak=>⟨_,rfl,ak⟩)⟩
    .rw [R3 d om,i,ae];rfl
    .rw [List.drop_set_of_lt om,az]
   .rw [ag] at ad;rw [ag] at ae;refine ad.mono ?_;rintro _ bu ⟨rfl,aa⟩;have o:=xt ah aa;refine jP (((b+1:Nat):Int)) ⟨b+1,om,m,f,rfl,om,om,ax,?_,az,ac.ext o,ab.trans o.mod⟩;rw [i,ae];rfl
  .obtain rfl:b=n:=om
   rw [List.take_of_length_le (show e.length<=b by omega),List.take_of_length_le (show xs.length<=b by omega)] at i;have bk:=O4 (fun x=>!p x) xs e af;have bl:m=(xs.filter fun x=>!p x).length:=by
    rw [<- bk,<- i,List.length_take];omega
   refine iN<|Ro (sz:=1) kR m om om om<|Sw (z := .slice none 0 0) (k:=m) (m:=b - m) Bz Dz rfl ac om om fun cd a8 ar=>Su (sz:=1) kR m om om ?_;(conv=>whnf);have aq:=ab.trans (a8.but.mono fun bq ak=>⟨_,rfl,ak⟩);rw [i] at ar;refine ⟨m,BW (some ⟨y,0,none⟩)++(Hc (fun x=>!p x) xs ai).flatten,rfl,bl,om,⟨_,_,ar,(am aq).filter _,rfl⟩,(List.Sublist.refl _).append (Wa _ _ _),aq⟩
end Go.Proofs.YtalgenmoljcnmaaGreatDoor
namespace Go.M
open Go Go.Vc
variable {d:List (List Int)} {W m:Nat} {X:List (List (List Int))} {x:ET} {D:B7}
theorem JE (h40:d.length<=40) (h:∀ c∈d,FA c=true/\c.length=W):A2 d=true:=by
 unfold A2;rw [Bool.and_eq_true];refine ⟨?_,decide_eq_true h40⟩;rw [List.all_eq_true];intro f b;rw [List.mem_range] at b;obtain ⟨c,a⟩:=AA b;rw [ON a,Bool.and_eq_true];refine ⟨(h c (List.mem_of_getElem? a)).1,decide_eq_true ?_⟩;rw [(h c (List.mem_of_getElem? a)).2];cases d with
 | nil=>simp at b
 | cons e g=>exact ((h e sI).2).symm
theorem TK (h6:X.length=6) (hm:m<=20) (h:∀ d∈X,d.length<=40/\∀ c∈d,FA c=true/\c.length=W):Aq X m=true:=by
 unfold Aq;simp only [Bool.and_eq_true,decide_eq_true_eq];refine ⟨⟨?_,h6⟩,hm⟩;have i:∀ d∈X,d≠[]->AG X=W:=by
  intro d a k;have n:∀ X:List (List (List Int)),(∀ d∈X,∀ c∈d,c.length=W)->(∃ d∈X,d≠[])->AG X=W:=by
   intro X;induction X with
   | nil=>rintro _ ⟨d,a,_⟩;simp at a
   | cons o p l =>
    intro e g;cases o with
    | nil =>
     obtain ⟨d,a,f⟩:=g;rcases List.mem_cons.1 a with rfl | a
     .exact absurd rfl f
     .exact l (fun d a=>e d (List.mem_cons_of_mem _ a)) ⟨d,a,f⟩
    | cons c b=>exact e (c :: b) sI c sI
  exact n X (fun d a c j=>((h d a).2 c j).2) ⟨d,a,k⟩
 rw [List.all_eq_true];intro d a;unfold GB;rw [Bool.and_eq_true];refine ⟨JE (h d a).1 (h d a).2,?_⟩;cases d with
 | nil=>rfl
 | cons c b =>
  simp only [List.headD_cons,Bool.or_eq_true,decide_eq_true_eq];right;rw [i (c :: b) a sI];exact decide_eq_true ((h (c :: b) a).2 c sI).2
theorem A8 (h:Aq X m=true):X.length=6/\m<=20/\∀ d∈X,d.length<=40/\∀ c∈d,FA c=true/\c.length=AG X:=by
 have b:=h;unfold Aq at b;simp only [Bool.and_eq_true,decide_eq_true_eq,List.all_eq_true] at b;refine ⟨b.1.2,b.2,fun d i=>?_⟩;have e:=b.1.1 d i;unfold GB at e;rw [Bool.and_eq_true] at e;have f:=Am e.1;refine ⟨f.1,fun c g=>⟨(f.2 c g).1,?_⟩⟩;cases d with
 | nil=>simp at g
 | cons j k =>
  have a:=e.2;simp only [List.headD_cons,Bool.or_eq_true,decide_eq_true_eq] at a;rw [(f.2 c g).2];rcases a with a | a
  .simp at a
  .exact of_decide_eq_true a
theorem WS {α:Type} {l:List α} {i:Nat} {z:α} (h:i<l.length):l.getD i z∈l:=by
 rw [List.getD_eq_getElem?_getD,List.getElem?_eq_getElem h];exact List.getElem_mem h
theorem Td {a b:List (List Int)} (ha:a.length<=40):(Be a b x).1.length<=40/\∀ c∈(Be a b x).1,c∈a\/c∈b:=by
 unfold Be;split
 .unfold GD;split
  .simp
  .exact ⟨by simp only [UQ];omega,fun c d=>.inl ((UP _ _).subset d)⟩
 split
 .unfold CI;split
  .simp
  .split
   .simp
   .split
    .simp
    .split
     .simp
     .refine ⟨?_,fun c d=>?_⟩
      .simp only [UQ,List.length_append];omega
      .exact List.mem_append.1 ((UP _ _).subset d)
 split
 .unfold Cw;split
  .simp
  .refine ⟨?_,fun c d=>.inl ((List.mem_filter.1 d).1)⟩;have:=List.length_filter_le (fun c=>decide (C6 x.field c x.text=0)) a;simp only;omega
 split
 .unfold EK;split
  .simp
  .refine ⟨?_,fun c d=>?_⟩
   .have:(A0 (a.map (AS x.field))).length<=(a.map (AS x.field)).length:=by
     unfold A0 De;refine Nat.le_trans (List.length_filter_le _ _) ?_;simp
    rw [List.length_map] at this;simp only [List.length_map];omega
   .obtain ⟨f,e,rfl⟩:=List.mem_map.1 d;have:=(Gq.1 e).1;rw [List.length_map] at this;exact .inl (WS this)
 .split
  .simp
  .refine ⟨?_,fun c d=>.inl ((List.mem_filter.1 d).1)⟩;unfold Cc;have:=List.length_filter_le (fun c=>decide (Kt b c x.field=decide (x.kind=3))) a;simp only;omega
theorem Jk (h:Aq X m=true) (k:Nat):(X.getD k []).length<=40/\∀ c∈X.getD k [],FA c=true/\c.length=AG X:=by
 rcases Nat.lt_or_ge k X.length with a | a
 .exact (A8 h).2.2 _ (WS a)
 .rw [List.getD_eq_getElem?_getD,List.getElem?_eq_none a];simp
theorem Ja {k:Nat} (h:Aq X m=true) (h40:d.length<=40) (hd:∀ c∈d,FA c=true/\c.length=AG X):Aq (X.set k d) m=true:=by
 have a:=A8 h;refine TK (W:=AG X) (by rw [List.length_set];exact a.1) a.2.1 fun e b=>?_;rcases List.mem_or_eq_of_mem_set b with b | rfl
 .exact a.2.2 e b
 .exact ⟨h40,hd⟩
theorem Lz {Y:List (List AT)} (h:Aq X Y.length=true) (h0:(Ap X Y (AG X) x).2=0) :
  Aq (Ap X Y (AG X) x).1.1 (Ap X Y (AG X) x).1.2.length=true:=by
 have g:=A8 h;unfold Ap at h0 ⊢;split at h0
 .cases h0
 rename_i n;rw [if_neg n];split at h0
 .cases h0
 rename_i k;rw [if_neg k];split at h0
 .rename_i e;split at h0
  .rename_i c;exact absurd h0 c
  rename_i c;rw [if_pos e,if_neg c];refine TK (W:=AG X) g.1 ?_ g.2.2;have o:Y.length≠20:=fun l=>k ⟨e,l⟩;have:=g.2.1;simp only [List.length_append,List.length_cons,List.length_nil];omega
 .rename_i e;split at h0
  .rename_i c;exact absurd h0 c
  rename_i c;rw [if_neg e,if_neg c];have i:=Jk h x.a.toNat;have m:=Jk h x.b.toNat;have j:=Td (x:=x) (b:=X.getD x.b.toNat []) i.1;refine Ja h j.1 fun f d=>?_;rcases j.2 f d with d | d
  .exact i.2 f d
  .exact m.2 f d
theorem Dj {s:ByteArray}:FP X m s=true↔Aq X m=true/\Aj s=0:=by simp [FP]
theorem Rc (s:ByteArray):(D4 s).2=Aj s:=by
 unfold D4;split<;>simp [*]
theorem Xb {w:ByteArray} {a:DF} (h:FP D.X D.Y.length D.s=true) (h0:(BE D w a).2=0) :
  FP (BE D w a).1.1.X (BE D w a).1.1.Y.length (BE D w a).1.1.s=true/\(BE D w a).1.2≠[]:=by
 obtain ⟨f,e⟩:=Dj.1 h;have g:∀ r,CM r≠[]:=fun r=>by simp [CM]
 unfold BE at h0 ⊢;by_cases k:w=Hr
 .rw [if_pos k];exact ⟨h,g _⟩
 rw [if_neg k] at h0 ⊢;by_cases l:w=CU
 .rw [if_pos l] at h0 ⊢;by_cases b:CK (a.texts.getD 0 ⟨#[]⟩)≠0
  .rw [if_pos b] at h0;exact absurd h0 b
  rw [if_neg b] at h0 ⊢;by_cases c:Aq (D.X.set (a.trays.getD 0 0).toNat (D.X.getD (a.trays.getD 0 0).toNat []++[CW (a.texts.getD 0 ⟨#[]⟩)])) D.Y.length=false
  .rw [if_pos c] at h0;cases h0
  rw [if_neg c];exact ⟨Dj.2 ⟨by simpa using c,e⟩,sI⟩
 rw [if_neg l] at h0 ⊢;by_cases b:w=CL
 .rw [if_pos b];exact ⟨Dj.2 ⟨Ja f sI sI,e⟩,sI⟩
 rw [if_neg b] at h0 ⊢;by_cases c:w=Cd
 .rw [if_pos c] at h0 ⊢;cases p:(D.X.getD (a.trays.getD 0 0).toNat []).find? (fun j=>decide (BG j≠0)) with
  | some j =>
   rw [p] at h0;have:=List.find?_some p;simp only [decide_eq_true_eq] at this;exact absurd h0 this
  | none=>exact ⟨h,g _⟩
 rw [if_neg c] at h0 ⊢;by_cases m:w=D2
 .rw [if_pos m] at h0 ⊢;split at h0
  .rename_i i;exact absurd h0 i
  .rename_i i;rw [if_neg i];refine ⟨Dj.2 ⟨f,?_⟩,sI⟩;simp only at h0;rw [Rc] at h0;exact h0
 rw [if_neg m] at h0 ⊢;by_cases n:w=Cp
 .rw [if_pos n];exact ⟨h,sI⟩
 rw [if_neg n] at h0 ⊢;by_cases o:w=GS
 .rw [if_pos o];exact ⟨h,g _⟩
 rw [if_neg o] at h0 ⊢;by_cases d:(Ap D.X D.Y (AG D.X) (Bb w a)).2≠0
 .rw [if_pos d] at h0;exact absurd h0 d
 rw [if_neg d];have q:=Lz f (by simpa using d);split
 .exact ⟨Dj.2 ⟨q,e⟩,sI⟩
 .exact ⟨Dj.2 ⟨q,e⟩,sI⟩
theorem To (line:ByteArray) (h:FP D.X D.Y.length D.s=true) :
  (EM D line).2=7\/((EM D line).2=0/\FP (EM D line).1.1.X (EM D line).1.1.Y.length (EM D line).1.1.s=true/\(EM D line).1.2≠[]):=by
 unfold EM;rw [if_neg (by simp [h])];split
 .exact .inl rfl
 .split
  .exact .inr ⟨rfl,h,sI⟩
  .split
   .exact .inr ⟨rfl,h,sI⟩
   .rename_i b;have a:(BE D ((Ay 32 line).headD ⟨#[]⟩) (Bi (Bd ((Ay 32 line).headD ⟨#[]⟩)) ((Ay 32 line).drop 1)).1).2=0:=by simpa using b
    exact .inr ⟨a,Xb h a⟩
end Go.M
