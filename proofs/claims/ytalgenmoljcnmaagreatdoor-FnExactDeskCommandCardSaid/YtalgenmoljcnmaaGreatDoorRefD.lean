/- Parts of the proof; no conditions of its own. -/
import Derived.Test.YtalgenmoljcnmaaGreatDoorRefC
import Derived.Test.YtalgenmoljcnmaaGreatDoorArgs
namespace Go.Vc
open Go Go.RowKit
theorem An.cut {α:Type} {enc:α->List Value} {sz B e:Nat} (he:∀ x,(enc x).length=sz) {w:World} {a:Option Addr} {n c k:Nat} {xs:List α} (h:An enc sz B e w a n c xs) (hk:k<=n):An enc sz B e w a k c (xs.take k):=by
 obtain ⟨s,t,i⟩:=h;have b:(xs.take k).length=k:=by rw [List.length_take];omega
 have l:Al enc (xs.take k)=(Al enc xs).take (k * sz):=by
  have e:Al enc xs=Al enc (xs.take k)++Al enc (xs.drop k):=by rw [<- FN,List.take_append_drop]
  rw [e,List.take_left' (by rw [A1 he,b])]
 rcases i with ⟨d,u⟩ | ⟨g,r,f,d,j,m,v,o,p,q⟩
 .simp only [Value.slice.injEq] at d;obtain ⟨rfl,_,rfl⟩:=d;have:k=0:=om
  subst this;exact ⟨b,by rw [A1 he,b],.inl ⟨rfl,rfl⟩⟩
 .simp only [Value.slice.injEq] at d;obtain ⟨rfl,_,rfl⟩:=d;refine ⟨b,by rw [A1 he,b],.inr ⟨g,c,f,rfl,j,m,om,o,p,?_⟩⟩;rw [l,<- q,List.take_take];congr 1;have:=Nat.mul_le_mul_right sz hk;omega
end Go.Vc
namespace Go.M
open Go Go.Vc
variable {p:Ak} {i:Nat}
theorem sum_cons (g:List Int->Int) (c:List Int) (d:List (List Int)):∀ L:List Int,(L.map fun k=>((c :: d).filter fun x=>decide (g x=k)).length).sum=(L.map fun k=>(d.filter fun x=>decide (g x=k)).length).sum+L.count (g c)
 | []=>sI
 | k :: L=>by
  rw [List.map_cons,List.sum_cons,List.map_cons,List.sum_cons,sum_cons g c d L,List.count_cons,List.filter_cons];by_cases h:g c=k
  .rw [if_pos (by simpa using h),if_pos (by simp [h])];simp;omega
  .rw [if_neg (by simpa using h),if_neg (by simp [Ne.symm h])];omega
theorem Xw (g:List Int->Int) {L:List Int} (hL:L.Nodup):∀ d:List (List Int),(∀ c∈d,g c∈L)->(L.map fun k=>(d.filter fun x=>decide (g x=k)).length).sum=d.length
 | [],_=>by
  have:∀ L:List Int,(L.map fun _=>0).sum=0:=by
   intro L;induction L with
   | nil=>rfl
   | cons k L b=>simpa using b
  simp [this]
 | c :: d,h=>by
  rw [sum_cons,Xw g hL d (fun x a=>h x (List.mem_cons_of_mem _ a)),List.length_cons,hL.count,if_pos (h c sI)]
theorem aD0 {mode:Int} (hm:mode=1\/mode=2) (m:Int):Cj m mode∈BF mode:=by
 have d:∀ c a,c<=9->I2 c m=some a->1<=a/\a<=c:=by
  intro c;induction c with
  | zero=>intro a _ b;simp [I2] at b
  | succ c e =>
   intro a f b;unfold I2 at b;split at b
   .cases b;omega
   .have:=e a om b;omega
 rcases hm with rfl | rfl
 .unfold Cj BF;rw [if_pos rfl,if_neg dE];cases b:I2 9 m with
  | none=>dsimp only;split<;>decide
  | some a =>
   have:=d 9 a om b;dsimp only;rcases (show a=1\/a=2\/a=3\/a=4\/a=5\/a=6\/a=7\/a=8\/a=9 by omega) with rfl | rfl | rfl | rfl | rfl | rfl | rfl | rfl | rfl<;>decide
 .unfold Cj BF;rw [if_neg (by decide:¬ (2:Int)=1),if_pos (rfl:(2:Int)=2)]
  repeat' split
  all_goals decide
theorem Vp {d:List (List Int)} (hm:p.mode=1\/p.mode=2):(HC d p).length=d.length:=by
 rw [Pm,List.length_flatMap];exact Xw (fun a=>Cj (a.getD p.col.toNat 0) p.mode) (NH p.mode) d fun a _=>aD0 hm _
theorem Mh:∀ (l:List Ak) (d:List (List Int)),(∀ p∈l,p.mode=1\/p.mode=2)->(Ci d l).length=d.length
 | [],d,_=>rfl
 | p :: l,d,h=>by
  show (Ci (HC d p) l).length=d.length;rw [Mh l _ (fun q hq=>h q (List.mem_cons_of_mem _ hq)),Vp (h p sI)]
theorem Yn (full:List Ak) (own:List Nat) (h:full[i]? = some p):Bw full (own++[i])=Bw full own++[p]:=by
 unfold Bw;rw [List.map_append,List.map_cons,List.map_nil,Af h]
theorem aD1 {full:List Ak} {own:List Nat} (h:∀ i∈own,i<full.length):∀ p∈Bw full own,p∈full:=by
 intro p c;obtain ⟨i,b,rfl⟩:=List.mem_map.1 c;obtain ⟨d,a⟩:=AA (h i b);rw [Af a];exact List.mem_of_getElem? a
theorem Xa {ok:List Nat->Bool} {N more:Nat} {part:List Nat} (h:i+(more+1)<=N):(List.range' i (N - more - i)).findSome? (fun i=>EC ok N more (i+1) (part++[i])) =
  match EC ok N more (i+1) (part++[i]) with | some q=>some q | none=>(List.range' (i+1) (N - more - (i+1))).findSome? (fun i=>EC ok N more (i+1) (part++[i])):=by
 have a:N - more - i=(N - more - (i+1))+1:=om
 rw [a,List.range'_succ,List.findSome?_cons];cases EC ok N more (i+1) (part++[i])<;>rfl
end Go.M
namespace Go.Proofs.YtalgenmoljcnmaaGreatDoor
open Go Go.RowKit Go.Vc Go.M
variable {a:Option Addr} {n c:Nat} {xs:List (List Int)}
structure FSy (w0 w:World) (b B:Nat) (a b2 b3:Option Addr) (n c m2 d2 m3 d3:Nat) (full:List Ak) (part:List Nat) (ap:Option Addr) (np cp:Nat):Prop where
 ext:AD w0 w
 blk:B8 w b [.slice a n c,.slice b2 m2 d2,.slice b3 m3 d3,.slice ap np cp] 218
 grow:An Ak.enc 2 B 193 w ap np cp (Bw full part)
 ne:∀ x,ap=some x->x.block≠b
 big:B<=w.heap.size
theorem Yf {w0:World} {b:Nat} {b2 b3:Option Addr} {m2 d2 m3 d3:Nat} {full:List Ak} {P:List Int} (hb:w0.heap.size<=b) (h:Ac AZ w0 a n xs) (hn2:n<=40) (hF:A4 Ak.enc 2 w0 b3 m3 full) (hm3:m3<=40) (hlm:∀ p∈full,p.mode=1\/p.mode=2)
  (hx:∀ x∈xs,x.length<=20/\(∀ m∈x,0<=m/\m<=4095)/\∀ p∈full,0<=p.col/\p.col<x.length) (hP:A4 eI 1 w0 b2 m2 P) (hPx:∀ i∈P,0<=i/\i.toNat<xs.length) (hPl:P.length=xs.length) :
  ∀ (more lo B:Nat) (part:List Nat) (w:World) (ap:Option Addr) (np cp:Nat),more=0\/w0.heap.size<=B->lo<=1000->part.length+more<=40->(∀ i∈part,i<m3)->FSy w0 w b B a b2 b3 n c m2 d2 m3 d3 full part ap np cp ->
   Dq 169 [.pointer (some ⟨b,0,none⟩),.int .i64 lo,.int .i64 more] w (fun v w'=>v = .bool (EC (fun own=>decide (Ci xs (Bw full own)=P.map fun i=>xs.getD i.toNat [])) m3 more lo part).isSome /\
    ∃ ap' np' cp',FSy w0 w' b B a b2 b3 n c m2 d2 m3 d3 full ((EC (fun own=>decide (Ci xs (Bw full own)=P.map fun i=>xs.getD i.toNat [])) m3 more lo part).getD part) ap' np' cp'):=by
 generalize br:(fun own=>decide (Ci xs (Bw full own)=P.map fun i=>xs.getD i.toNat []))=ok;have bg:=hF.len;intro more;induction more with
 | zero =>
  intro lo B part w ap np cp ag bq bp ak d;have a5:(Bw full part).length=part.length:=by simp [Bw]
  have a4:=d.grow.len;have ai:=aD1 (full:=full) (own:=part) (by rw [bg];exact ak);have bt:ok part=decide (Ci xs (Bw full part)=P.map fun i=>xs.getD i.toNat []):=by rw [<- br]
  have bh:∀ z,AD w z->Dq 238 [.slice a n c,.slice b2 m2 d2,.slice ap np cp] z (fun v w'=>v = .bool (ok part)/\AD z w'):=fun z af=>by
   rw [bt];exact Rv (h.ext (xt d.ext af)) hn2 ((d.grow.own.arr Aa).ext af) om (fun p j=>hlm p (ai p j)) (fun x al=>⟨(hx x al).1,(hx x al).2.1,fun p j=>(hx x al).2.2 p (ai p j)⟩) (hP.ext (xt d.ext af)) hPx (by rw [Mh _ _ (fun p j=>hlm p (ai p j)),hPl])
  have a0:EC ok m3 0 lo part=if ok part=true then some part else none:=rfl
  have s:(EC ok m3 0 lo part).isSome=ok part:=by rw [a0];cases ok part<;>rfl
  have bl:(EC ok m3 0 lo part).getD part=part:=by rw [a0];cases ok part<;>rfl
  rw [s,bl];have f:=d.blk;refine oV Tryz.func169 ?_;refine dH (pB [0,2,4,6,8,10,12,14,17,19,21,23,25,27]) ?_;intro cm g;refine dL f.cells (k:=0) rfl ?_;refine dL f.cells (k:=1) rfl<|jL (f.ext g).cells (k:=3) rfl ?_;exact ⟨g,dM (bh _ g) fun cn r=>⟨(xt g r),⟨rfl,ap,np,cp,xt d.ext (xt g r),d.blk.ext (xt g r),d.grow.ext (xt g r),d.ne,by have:=d.big;have:=(xt g r).size;omega⟩⟩⟩
 | succ more bz =>
  intro lo B part w ap np cp ag bq bp ak d;have ag:w0.heap.size<=B:=om
  have a5:(Bw full part).length=part.length:=by simp [Bw]
  refine oV Tryz.func169 ?_;have bi:EC ok m3 (more+1) lo part=(List.range' lo (m3 - more - lo)).findSome? fun i=>EC ok m3 more (i+1) (part++[i]):=rfl;refine lR [0,2,7] (fun (i:Nat) b6 w'=>∃ ap np cp,b6=[.pointer (some ⟨b,0,none⟩),.int .i64 ((more+1:Nat):Int),.int .i64 i]/\lo<=i/\i<=lo+m3/\FSy w0 w' b B a b2 b3 n c m2 d2 m3 d3 full part ap np cp/\EC ok m3 (more+1) lo part=(List.range' i (m3 - more - i)).findSome? fun i=>EC ok m3 more (i+1) (part++[i])) (fun i=>lo+m3+1 - i) lo ⟨_,_,_,rfl,om,om,d,bi⟩ ?_;rintro i b' _ ci ⟨ap,np,cp,rfl,ce,cf,d,s⟩;have ca:=d.big;have a4:=d.grow.len;rw [a5] at a4;have cd:=d.grow.le.1;have f:=d.blk;rcases Nat.lt_or_ge (i+more) m3 with bn | bn
  .obtain ⟨p,j⟩:=AA (l:=full) (k:=i) om;have t:=Xa (ok:=ok) (part:=part) (show i+(more+1)<=m3 by omega);rw [<- s] at t;have a6:=Yn full part j;refine jP (((i+(more+1):Nat):Int))<|jL f.cells (k:=2) rfl<|iY<|jL f.cells (k:=3) rfl<|IJ [16] A7 mixed ap (pZ [0,5,10,15,25,30,35,45,21,41,50,56,62,67,70,75,83]) kR kR ?_;intro an q;have aj:¬ AL ap b:=fun ⟨x,hx,ah⟩=>d.ne x hx ah.symm;have ay:∀ u,AL ap u->B<=u:=fun u ⟨x,hx,a2⟩=>by have:=d.grow.new x hx;omega
   have aq:AD w0 an:=xt d.ext q;have co:=q.size;have cc:=f.lt;have ao:∀ w',Sr ap an w'->AK w' b 0 [.slice a n c,.slice b2 m2 d2,.slice b3 m3 d3,.slice ap np cp]:=Sr.cells (f.ext q).cells aj;refine Cu kR (k:=3) ao rfl<|Cu kR (k:=2) ao rfl<|pI (hF.ext aq) i rfl j ?_;intro av of bj bk;have cb:av<w0.heap.size:=hF.lt (by intro x;simp [Ak.enc]) om _ bj;have bb:∀ w',Sr ap an w'->AK w' av (of+i * 2) p.enc:=Sr.cells bk (fun h=>by have:=ay _ h;omega);refine Bf (n:=2) kR bb rfl<|AB.buildSlice EJ (vs:=[Value.agg ⟨p.enc⟩]) rF rF (by simp [Value.cells,Ak.enc]) dE ?_;intro b8 cj bf cg o a8;have bd:=AH (n:=1) (enc:=Ak.enc) (xs:=[p]) Aa a8 bf rfl dE;have cq:=o.size;refine ⟨AV o,AN (enc:=Ak.enc) EJ Aa (d.grow.ext (xt q o)) (bd.own.arr Aa) (by intro aa _;simp [Ak.enc,AM]) om om om ?_⟩;intro ac aw b7 ar y bx;have cr:=y.size;rw [<- a6] at ar;refine ⟨(AD.mod o).trans y,?_⟩;have a9:=(f.ext (xt q o)).mod y aj;refine jT a9 (k:=3) sI rfl ?_;intro a7 ad a';have cs:=ad.size;have a3:∀ x,ac=some x->x.block≠b:=fun x hx ah=>by
    rcases bx x.block ⟨x,hx,rfl⟩ with h | h
    .exact aj (ah▸h)
    .omega
   have bc:AD w0 b7:=xm (xt aq o) y (fun u a2=>by have:=ay u a2;omega);have be:FSy w0 a7 b B a b2 b3 n c m2 d2 m3 d3 full (part++[i]) ac (np+1) aw :=
    ⟨xb bc ad.but hb,a',ar.mod ad.but (fun aa am h=>a3 aa am h),a3,om⟩
   have bu:=bz (i+1) B (part++[i]) a7 ac (np+1) aw (.inr ag) om (by rw [List.length_append,List.length_singleton];omega) (fun b0 bo=>by
    rcases List.mem_append.1 bo with h | h
    .exact ak b0 h
    .rw [List.mem_singleton] at h;omega) be
   refine jP ((i+1:Nat):Int)<|AB.sub ((more:Nat):Int) om om om<|bu.mono ?_;rintro _ ck ⟨rfl,au,b5,ax,e⟩;cases a1:EC ok m3 more (i+1) (part++[i]) with
   | some ch =>
    rw [a1] at t e;(conv=>whnf);rw [t];exact ⟨rfl,au,b5,ax,e⟩
   | none =>
    rw [a1] at t e;simp only [Option.getD_none] at e;have ab:=e.blk;refine jL ab.cells (k:=3) rfl ?_;(conv=>whnf);have b1:=e.grow.len;have b4:(Bw full (part++[i])).length=part.length+1:=by simp [Bw]
    rw [b4] at b1;have b9:=e.grow.le.1;refine Jr (k' := .i64) kR (e.grow.own.arr Aa) np om om (.inr rF) ?_;intro _;(conv=>whnf);have az:=e.grow.cut Aa (k:=np) om;have bv:(Bw full (part++[i])).take np=Bw full part:=by
     rw [a6,List.take_left' om]
    rw [bv] at az;refine jT ab (k:=3) sI rfl ?_;intro cl ae ba;have ct:=ae.size;have cu:=ab.lt;refine jP ((i+1:Nat):Int) ?_;have:=e.big;exact ⟨i+1,om,au,np,ax,rfl,om,om,⟨xb e.ext ae.but hb,ba,az.mod ae.but (fun aa am h=>e.ne aa am h),e.ne,om⟩,t⟩
  .have bw:m3 - more - i=0:=om
   rw [bw] at s;have bm:EC ok m3 (more+1) lo part=none:=s;rw [bm];exact jP (((i+(more+1):Nat):Int))<|jL f.cells (k:=2) rfl<|iN ⟨rfl,ap,np,cp,d⟩
theorem Mg {w:World} (h:Ac AZ w a n xs) {f:AE} (hfo:f.ok) :
  Dq 102 [.slice a n c,.agg ⟨f.enc⟩] w (fun v w'=>∃ a' m c',v = .tuple #[.slice a' m c',.int .i64 (F4 xs f).2]/\A4 Ak.enc 2 w' a' m (F4 xs f).1/\AD w w'):=by
 have cp:=h.len;have ax:∀ e,AD w e->Dq 166 [.slice a n c,.agg ⟨f.enc⟩] e (fun v w'=>∃ a' bx c',v = .tuple #[.slice a' bx c',.int .i64 (Bu xs f).2]/\Ab e.heap.size a'/\Bs eS w' a' bx 9 ((Bu xs f).1.map Cf)/\AD e w'):=fun e a9=>Eu (h.ext a9) f;by_cases a0:(Bu xs f).2=0
 .obtain ⟨ay,ah,bq,ap⟩:=N5 a0;rw [ap] at ax;have bp:=Am ay;have da:=bp.1;have de:=EX ay;have db:=Bc ah;by_cases bj:4<f.to_ - f.from_
  .have l:F4 xs f=([],5):=by simp [F4,a0,bj]
   rw [l];refine oV Tryz.func102 ?_;refine AB.box ?_;intro cd cy cg cr am r;refine jA (n:=2) r.cells rfl<|(ax _ am).mono ?_;rintro _ b0 ⟨bf,cs,bh,rfl,ca,a4,z⟩;refine jL (r.ext z).cells (k:=1) rfl<|jL (r.ext z).cells (k:=0) rfl<|AB.sub _ rfl om om<|iY ⟨_,_,_,rfl,?_,(xt am z)⟩
   .exact A4.nil
  .have l:F4 xs f=(Bw (By f) (NR xs f (2 ^ (By f).length)).1,0):=by simp [F4,a0,bj]
   rw [l];have bb:∀ e,Dq 168 [.agg ⟨f.enc⟩] e (fun v w'=>∃ a n c,v = .slice a n c/\Ab e.heap.size a/\Bs Ak.enc w' a n 193 (By f)/\AD e w'):=fun e=>UH (by simp only [AR,Bool.and_eq_true,decide_eq_true_eq] at ah ⊢;omega) e;refine oV Tryz.func102 ?_;refine AB.box ?_;intro cd cy cg cr am r;refine jA (n:=2) r.cells rfl<|(ax _ am).mono ?_;rintro _ b0 ⟨bf,cs,bh,rfl,ca,a4,z⟩;refine jL (r.ext z).cells (k:=1) rfl<|jL (r.ext z).cells (k:=0) rfl<|AB.sub _ rfl om om<|iN ?_;(conv=>whnf);have aa:=xt am z;have bt:=(a4.arr AP).len;rw [List.length_map,List.length_map,cp] at bt;subst bt;have bm:∀ e,AD b0 e->Dq 167 [.slice bf n bh] e (fun v w'=>∃ a' c',v = .slice a' n c'/\Ab e.heap.size a'/\Bs eI w' a' n 2 (Ds (xs.map (AS f)) (CJ f))/\AD e w'):=fun e a9=>KW ((a4.ext a9).arr AP) (Hf ay ah bq) (by unfold CJ;omega) om;refine Du [] A7 mixed none (.seq (pZ [0,5,16]) (.alt 2 (.alt 4 (.seq (pZ [27,32,37,40]) .done) 5 (.seq (pZ [22,32,37,40]) .done)) 5 (.seq (pZ [12,22,32,37,40]) .done))) kR kR ?_;intro a2 ag;have ct:∀ bd,¬ AL none bd:=fun bd ab=>by obtain ⟨a3,af,_⟩:=ab;cases af
   refine Bf (n:=2) kR (Sr.cells (r.ext (xt z ag)).cells (ct _)) rfl<|Dd.mk ?_ ?_
   focus
    refine (bm _ ag).mono ?_;rintro _ b1 ⟨av,aw,rfl,b',ad,j⟩;refine ⟨AV j,Dd.mk ?_ ?_⟩
    focus
     refine (bb _).mono ?_;rintro _ q ⟨ak,a1,al,rfl,be,x,i⟩;refine ⟨AV (xt j i),bS EJ (vs:=[]) ?_⟩;intro ae aq an bw g s;have t:=Ag (enc:=Ak.enc) Aa s an;refine ⟨AV (xt (xt j i) g),?_⟩;have a5:=(ad.arr AI).ext (xt i g);have au:=(x.arr Aa).ext g;have u:=t;have ac:AD a2 aq:=xt (xt j i) g;generalize q.heap.size=aj at u;have ar:AD w aq:=xt (xt aa ag) ac;clear t ad x s;generalize ao:aq=p at *;clear ao
    rotate_left
    focus
     refine bS EJ (vs:=[]) ?_;intro ae aq an bw g s;have t:=Ag (enc:=Ak.enc) Aa s an;refine ⟨AV (xt j g),(bb _).mono ?_⟩;rintro _ q ⟨ak,a1,al,rfl,be,x,i⟩;refine ⟨AV (xt (xt j g) i),?_⟩;have a5:=(ad.arr AI).ext (xt g i);have au:=x.arr Aa;have u:=t.ext i;have ac:AD a2 q:=xt (xt j g) i;generalize b1.heap.size=aj at u;have ar:AD w q:=xt (xt aa ag) ac;clear t ad x s;generalize ao:q=p at *;clear ao
   rotate_left 2
   focus
    refine bS EJ (vs:=[]) ?_;intro ae aq an bw g s;have t:=Ag (enc:=Ak.enc) Aa s an;refine ⟨AV g,(bm _ (xt ag g)).mono ?_⟩;rintro _ b1 ⟨av,aw,rfl,b',ad,j⟩;refine ⟨AV (xt g j),(bb _).mono ?_⟩;rintro _ q ⟨ak,a1,al,rfl,be,x,i⟩;refine ⟨AV (xt (xt g j) i),?_⟩;have a5:=(ad.arr AI).ext i;have au:=x.arr Aa;have u:=t.ext (xt j i);have ac:AD a2 q:=xt (xt g j) i;generalize a2.heap.size=aj at u;have ar:AD w q:=xt (xt aa ag) ac;clear t ad x s;generalize ao:q=p at *;clear ao
   all_goals
    refine AB.build aI1 rfl ⟨AV ac,AB.box ?_⟩;intro y b2 c9 dk aa b7;have dt:=aa.size;refine ⟨AV (xt ac aa),?_⟩;have bk:=u.new _ rfl;have az:=u.lt _ rfl;have b9:FSy p b2 y aj a av ak n c n aw a1 al (By f) [] (some ⟨ae,0,none⟩) 0 0:=⟨aa,b7,by simpa [Bw] using u.ext aa,(fun a3 af l=>by cases af;have l:ae=y:=l;have az:ae<p.heap.size:=az;omega),by have az:ae<p.heap.size:=az;have bk:aj<=ae:=bk;omega⟩;refine lR [0,8,9] (fun (d:Nat) cw w'=>∃ ai a6 a8,cw=[.slice a n c,.pointer (some ⟨y,0,none⟩),.int .i64 d]/\d<=(By f).length/\(∀ m,m<d->EC (fun own=>decide (Ci xs (Bw (By f) own)=K8 xs f)) (By f).length m 0 []=none)/\(d=0\/p.heap.size<=ai)/\FSy p w' y ai a av ak n c n aw a1 al (By f) [] a6 0 a8) (fun d=>(By f).length - d) 0 ⟨aj,_,_,rfl,Nat.zero_le _,fun m br=>absurd br om,.inl rfl,b9⟩ ?_;rintro d c7 _ bz ⟨ai,a6,a8,rfl,ap,bu,ci,cb⟩;have co:=au.len;subst co;have cn:=RL f;have dc:(By f).length<=8:=by unfold CJ at cn;omega
    have bv:=L8 (xs.map (AS f)) (CJ f);rw [List.length_map] at bv;have bl:=Yf (w0:=p) (b:=y) om (h.ext ar) om au om (fun cv bc=>(Pr ah bc).2.2) (fun a3 af=>by
     have bo:=bp.2 a3 af;have bn:=Bp bo.1;exact ⟨bn.2.1,bn.2.2,fun cv bc=>by
      have:=Pr ah bc;rw [bo.2];exact ⟨this.1,this.2.1⟩⟩) a5 (fun df cj=>by
     obtain ⟨dh,cl⟩:=List.getElem?_of_mem cj;obtain ⟨dg,rfl,ck⟩:=Nl cl;exact ⟨om,by simpa using ck⟩) bv d 0 ai [] bz a6 0 a8 ci om sW sI cb
    change E2 _ _ _ _ (fun v w'=>v = .bool (EC (fun own=>decide (Ci xs (Bw (By f) own)=K8 xs f)) (By f).length d 0 []).isSome/\∃ cc cu ce,FSy p w' y ai a av ak n c n aw (By f).length al (By f) ((EC (fun own=>decide (Ci xs (Bw (By f) own)=K8 xs f)) (By f).length d 0 []).getD []) cc cu ce) at bl;refine bl.mono ?_;rintro _ cx ⟨rfl,c3,dm,c6,o⟩;cases ab:EC (fun own=>decide (Ci xs (Bw (By f) own)=K8 xs f)) (By f).length d 0 [] with
    | some bd =>
     rw [ab] at o;refine jL o.blk.cells (k:=3) rfl ⟨_,_,_,rfl,?_,xt ar o.ext⟩;rw [Y1 ab bu];exact o.grow.own.arr Aa
    | none =>
     rw [ab] at o;have dd:d<(By f).length:=by
      rcases Nat.lt_or_ge d (By f).length with h | h
      .exact h
      .have:=Y0 ay ah bq;have cm:d=(By f).length:=om
       rw [cm] at ab;exact absurd ab this
     refine bS EJ (vs:=[]) ?_;intro bg dn ch dj ba b5;have b8:=Ag (enc:=Ak.enc) Aa b5 ch;have b4:=o.blk.ext ba;refine jT b4 (k:=3) sI rfl ?_;intro dp a7 b6;have dr:=ba.size;have ds:=a7.size;have cz:=o.ext.size;have du:=o.blk.lt;refine jP ((d+1:Nat):Int) ⟨d+1,om,cx.heap.size,_,0,rfl,om,fun m br=>?_,.inr cz,⟨xb (xt o.ext ba) a7.but om,b6,by simpa [Bw] using b8.mod a7.but (fun dq cq ap=>by cases cq;have ap:bg=y:=ap;omega),(fun a3 af l=>by cases af;have l:bg=y:=l;omega),om⟩⟩;rcases Nat.lt_or_ge m d with h | h
     .exact bu m h
     .have:m=d:=om
      rw [this];exact ab
 .have l:F4 xs f=([],(Bu xs f).2):=by simp [F4,a0]
  rw [l];refine oV Tryz.func102 ?_;refine AB.box ?_;intro c4 bz c8 di bi b3;refine jA (n:=2) b3.cells rfl<|(ax _ bi).mono ?_;rintro _ b2 ⟨c2,dl,c5,rfl,c0,c1,cf⟩;refine iT ⟨_,_,_,rfl,?_,(xt bi cf)⟩
  .exact A4.nil
end Go.Proofs.YtalgenmoljcnmaaGreatDoor
namespace Go.Vc
open Go Go.RowKit
theorem Bm.low {α:Type} {E:Ow α} {R:Rd α} [Ju E R] {S:Nat->Prop} {lo t:Nat} {w w':World} {a:Option Addr} {n c:Nat} {xs:List α} (h:Bm E lo t w a n c xs) (M:BP S w w') (hs:∀ k,S k->k<lo):Bm E lo t w' a n c xs:=by
 obtain ⟨j,g,d,e,f⟩:=h;exact ⟨j,g,d.mod M (fun m l b=>by have:=d.new m l;have:=hs _ b;omega),e.keep (fun k b=>M.block k (fun i=>by have:=hs _ i;have:=(f.2 k (List.mem_append_right _ b)).1;omega) (e.lt k b)),f.wide (Nat.le_refl _) M.size⟩
end Go.Vc
namespace Go.M
open Go Go.Vc
variable {s:AE} {d:List (List Int)}
theorem Kd {s:AE}:∀ {d:List (List Int)},ER d s=true->D8 d s=d.map fun c=>(Ec (Ad c s)).getD 0
 | [],_=>rfl
 | c :: d,h=>by
  have h1:=TL h;have e:=h1 c sI;have a:=Kd (s:=s) (d:=d) (Nq fun g f=>h1 g (List.mem_cons_of_mem _ f));unfold D8 at a ⊢;obtain ⟨i,b⟩:=Option.isSome_iff_exists.1 e;rw [List.filterMap_cons,b,List.map_cons,b,a];rfl
theorem VR:∀ (l:List Int) (a:Int),l.foldl (· + ·) a=a+l.sum
 | [],a=>sI
 | x :: l,a=>by rw [List.foldl_cons,VR l,List.sum_cons];omega
theorem T4 (d:List (List Int)) (s:AE):Dv d s=(D8 d s).sum:=by unfold Dv;rw [VR];omega
theorem Vy (h:ER d s=true) (p m:Nat):D8 ((d.drop p).take m) s=((D8 d s).drop p).take m:=by
 rw [Kd h,Kd (MB h fun b a=>List.mem_of_mem_drop (List.mem_of_mem_take a))];simp [List.map_drop,List.map_take]
theorem Zl (h12:∀ c∈d,(Ad c s).length<=12):∀ x∈D8 d s,-((1000000000000:Nat):Int)<x/\x<(1000000000000:Nat):=by
 intro x e;obtain ⟨c,a,b⟩:=List.mem_filterMap.1 e;have:=QV b (h12 c a);omega
theorem Q8 {f:AE} {g p:Nat} (hp:(A0 (d.map (AS f)))[g]? = some p):∃ y,d[p]? = some y/\p<DZ (A0 (d.map (AS f))) d.length g/\DZ (A0 (d.map (AS f))) d.length g<=d.length /\
  (Bj d f)[g]? = some ((d.drop p).take (DZ (A0 (d.map (AS f))) d.length g - p))/\EV ((d.drop p).take (DZ (A0 (d.map (AS f))) d.length g - p)) f=Cf (AS f y):=by
 have a:=U4 hp;rw [List.length_map] at a;obtain ⟨y,b⟩:=AA (l:=d) (k:=p) om;exact ⟨y,b,a.1,a.2,TS hp,by unfold EV;rw [Q9 (XY b om)]⟩
end Go.M
namespace Go.Proofs.YtalgenmoljcnmaaGreatDoor
open Go Go.RowKit Go.Vc Go.M
variable {w:World} {q d n c p r n1 c1 n2 c2 n3 c3:Nat} {f s:AE} {b a a1 a2 a3:Option Addr} {xs:List (List Int)} {N:List Int}
theorem L5 (hc:AK w q 0 (L7 f b d)) (hA:A4 AE.enc 2 w b 1 [s]) (hfo:f.ok) (hso:s.ok) {width:Int} (hw:1<=width/\width<=20) :
  Dq 239 [.pointer (some ⟨q,0,none⟩),.int .i64 width] w (fun v w'=>v = .bool (AR f width && Ah s width)/\AD w w'):=by
 cases ay:AR f width
 .refine oV Tryz.func239 ?_;refine (Ev _ _ _ _).mono ?_;rintro _ _ ⟨rfl,rfl⟩;refine BA (fun j=>?_) fun j=>?_
  .exact ⟨rfl,AD.refl _⟩
  .have ag:=Bx j;refine jG (n:=2) (k:=0) hc rfl ?_;refine (Ch _ _ _).mono ?_;rintro _ ap ⟨rfl,o⟩;refine iT ?_;exact ⟨rfl,o⟩
 .refine oV Tryz.func239 ?_;conv=>whnf
  refine (Ev _ _ _ _).mono ?_;rintro _ _ ⟨rfl,rfl⟩;refine BA (fun j=>?_) fun j=>?_
  .exact absurd j (by simp [Ey];omega)
  .have ag:=Bx j;refine jG (n:=2) (k:=0) hc rfl ?_;refine (Ch _ _ _).mono ?_;rintro _ ap ⟨rfl,o⟩;refine iF ?_;refine lR [0,1,5] (fun (g:Nat) am w'=>am=[.pointer (some ⟨q,0,none⟩),.int .i64 width,.int .i64 g]/\g<=1/\(g=1->Ah s width=true)/\AD w w') (fun g=>1 - g) 0 ⟨rfl,om,om,o⟩ ?_;rintro g ar _ a1 ⟨rfl,aw,ai,l⟩;have e:=hc.ext l;have h:=hA.ext l;rcases Nat.lt_or_ge g 1 with ah | ah
   .obtain rfl:g=0:=om
    have m:Ah s width=(AR s width && decide (s.to_ - s.from_<=12)):=rfl;have i:([s]:List AE)[0]? = some s:=rfl;cases u:AR s width
    .rw [u] at m;rw [m];refine jL e (k:=2) rfl ?_;refine dH (pB [0,2,4,6,8,10,12,15,17,19,21,22,24,26,28,30,32,34,36,38,40,42,44,47,49,51,53,55,57,59]) ?_;intro a2 y;refine dL e (k:=2) rfl ?_;refine dI h 0 rfl i ?_;intro aq az av af;refine dA (n:=2) af rfl ?_;refine (Ch _ _ _).mono ?_;rintro _ a0 ⟨rfl,x⟩;refine ⟨(xt y x),?_⟩;refine iT ?_;exact ⟨rfl,(xt (xt l y) x)⟩
    .rw [u] at m;have ax:=Bc u;by_cases au:12<s.to_ - s.from_
     .refine jL e (k:=2) rfl ?_;refine dH (pB [0,2,4,6,8,10,12,15,17,19,21,22,24,26,28,30,32,34,36,38,40,42,44,47,49,51,53,55,57,59]) ?_;intro an a;refine dL e (k:=2) rfl ?_;refine dI h 0 rfl i ?_;intro z aj ac p;refine dA (n:=2) p rfl ?_;refine (Ch _ _ _).mono ?_;rintro _ ao ⟨rfl,c⟩;refine ⟨(xt a c),?_⟩;refine iF ?_;refine dL e (k:=2) rfl ?_;refine dI h 0 rfl i ?_;intro aa ak ad r;refine dL r (k:=1) rfl ?_;refine dL e (k:=2) rfl ?_;refine jI (h.ext (xt a c)) 0 rfl i ?_;intro ab al ae t;refine ⟨(xt a c),?_⟩;refine jL t (k:=0) rfl ?_;refine ⟨(xt a c),?_⟩;refine AB.sub _ rfl om om ?_;refine ⟨(xt a c),?_⟩;refine iY ?_;exact ⟨by simp [*],(xt (xt l a) c)⟩
     .rw [decide_eq_true om] at m;refine jL e (k:=2) rfl ?_;refine dH (pB [0,2,4,6,8,10,12,15,17,19,21,22,24,26,28,30,32,34,36,38,40,42,44,47,49,51,53,55,57,59]) ?_;intro an a;refine dL e (k:=2) rfl ?_;refine dI h 0 rfl i ?_;intro z aj ac p;refine dA (n:=2) p rfl ?_;refine (Ch _ _ _).mono ?_;rintro _ ao ⟨rfl,c⟩;refine ⟨(xt a c),?_⟩;refine iF ?_;refine dL e (k:=2) rfl ?_;refine dI h 0 rfl i ?_;intro aa ak ad r;refine dL r (k:=1) rfl ?_;refine dL e (k:=2) rfl ?_;refine jI (h.ext (xt a c)) 0 rfl i ?_;intro ab al ae t;refine ⟨(xt a c),?_⟩;refine jL t (k:=0) rfl ?_;refine ⟨(xt a c),?_⟩;refine AB.sub _ rfl om om ?_;refine ⟨(xt a c),?_⟩;refine iN ?_;refine jP (((0+1:Nat):Int)) ?_;exact ⟨1,om,rfl,om,fun _=>m,xt (xt l a) c⟩
   .obtain rfl:g=1:=om
    have m:=ai rfl;refine jL e (k:=2) rfl ?_;refine jL e (k:=2) rfl ?_;exact ⟨by simp [*],l⟩
theorem JT (h:Ac AZ w a n xs) (hc:AK w q 0 (L7 f b d)) (hA:A4 AE.enc 2 w b 1 [s]) (hfo:f.ok) (hso:s.ok) :
  Dq 170 [.pointer (some ⟨q,0,none⟩),.slice a n c] w (fun v w'=>∃ r,v = .tuple #[.pointer (some ⟨r,0,none⟩),.int .i64 (Bn xs f s)]/\(Bn xs f s=0->∃ a1 n1 c1 a2 n2 c2 a3 n3 c3,AK w' r 0 [.slice a1 n1 c1,.slice a2 n2 c2,.slice a3 n3 c3] /\
   A4 eS 1 w' a1 n1 ((xs.map (AS f)).map Cf)/\Ac AZ w' a2 n2 ((D8 xs s).map fun x=>[x])/\A4 eI 1 w' a3 n3 ((A0 (xs.map (AS f))).map fun (i:Nat)=>(i:Int)))/\AD w w'):=by
 have ew:=h.len;by_cases aa:A2 xs=true
 .have ch:=Am aa;have ep:=ch.1;have ex:=EX aa;by_cases ds:AR f (AJ xs)=true/\Ah s (AJ xs)=true
  .obtain ⟨ap,ax⟩:=ds;have dt:(AR f (AJ xs) && Ah s (AJ xs))=true:=by rw [ap,ax];rfl
   have an:∀ p,AD w p->Dq 166 [.slice a n c,.agg ⟨f.enc⟩] p (fun v w'=>∃ bk cq dc,v = .tuple #[.slice bk cq dc,.int .i64 (Bu xs f).2]/\Ab p.heap.size bk/\Bs eS w' bk cq 9 ((Bu xs f).1.map Cf)/\AD p w'):=fun p bl=>Eu (h.ext bl) f;rw [Mv aa ap] at an;by_cases aw:Dg xs f=true
   .rw [if_pos aw] at an;dsimp only at an;refine oV Tryz.func170 ?_;refine AB.build T5 rfl ?_;refine AB.box fun t cr a' ay m bh=>dM (DW (h.ext m)) fun cs g=>?_;refine iF<|dM (EH (h.ext (xt m g))) fun ct o=>(L5 (hc.ext (xt (xt m g) o)) (hA.ext (xt (xt m g) o)) hfo hso om).mono ?_;rintro _ cu ⟨rfl,u⟩;refine iF ?_;refine jG (n:=2) (k:=0) (hc.ext (xt (xt (xt m g) o) u)) rfl<|(an _ (xt (xt (xt m g) o) u)).mono ?_;rintro _ a4 ⟨af,ai,al,rfl,ar,b6,a8⟩;have dl:AD w a4:=xt (xt (xt (xt m g) o) u) a8;have b4:B8 a4 t [.slice none 0 0,.slice none 0 0,.slice none 0 0] 226:=bh.ext (xt (xt (xt g o) u) a8);have eq:=b4.lt;obtain ⟨d3,cd,dk⟩:=h;have eu:=cd.len;refine lR [0,1,6,7,9] (fun (j:Nat) az w'=>∃ a2 c2,az=[.pointer (some ⟨q,0,none⟩),.slice a n c,.pointer (some ⟨t,0,none⟩),.slice af ai al,.int .i64 j]/\j<=n/\(∀ i c,i<j->xs[i]? = some c->(Ec (Ad c s)).isSome=true)/\B8 w' t [.slice none 0 0,.slice a2 j c2,.slice none 0 0] 226/\Bm Aw a4.heap.size 65 w' a2 j c2 ((D8 (xs.take j) s).map fun x=>[x])/\BP (fun ad=>ad=t) a4 w') (fun j=>n - j) 0 ⟨_,_,rfl,om,fun i c ci=>by omega,b4,Xo,Vc.BP.refl _ _⟩ ?_;rintro j em _ a0 ⟨a2,c2,rfl,et,cf,ca,ba,bb⟩;have ao:AD w a0:=xb dl bb om;have cc:=hc.ext ao;have b':=hA.ext ao;have cm:([s]:List AE)[0]? = some s:=rfl;rcases Nat.lt_or_ge j n with dw | dw
    .obtain ⟨b8,bz⟩:=AA (l:=d3) (k:=j) om;obtain ⟨z,aq,bj⟩:=dk.get bz;have co:=ch.2 z (List.mem_of_getElem? aq);have cn:=Bp co.1;have bd:Ah s z.length=true:=by rw [co.2];exact ax
     have b0:AR s z.length=true:=by simp only [Ah,Bool.and_eq_true] at bd;exact bd.1
     have es:=Bc b0;have er:s.to_ - s.from_<=12:=by simp only [Ah,Bool.and_eq_true,decide_eq_true_eq] at bd;exact bd.2
     have be:=bj.1;have ey:=be.len;have ce:=cd.ext ao;rcases On (Ad z s) with cg | ⟨aj,du,ck⟩
     .have dy:ER xs s=false:=by
       simp only [ER,Bool.not_eq_false',List.any_eq_true];refine ⟨z,List.mem_of_getElem? aq,?_⟩;cases cl:Ec (Ad z s) with
       | none=>rfl
       | some v=>simp [DI,cl] at cg
      have bx:Bn xs f s=8:=by
       unfold Bn;rw [if_neg (by simp [aa]),if_neg (by simp [ap,ax]),if_pos (.inl dy)]
      rw [bx];have br:∀ p a n c,A4 eI 1 p a n (Ad z s)->n<=12->Dq 240 [.slice a n c] p (fun v w'=>v = .tuple #[.int .i64 0,.bool false]/\AD p w'):=fun p a n c hA bp=>by have h:=KX (w:=p) (c:=c) hA bp (fun b2 b1=>cn.2.2 b2 (L9 b1));rw [cg] at h;exact h
      refine iY<|bS B3 (vs:=[]) ?_;intro c9 eb bo d5 bm bg;have b5:=Ag (enc:=eI) AI bg bo;refine lR [0,1,6,7,9,10,11] (fun (i:Nat) az w'=>∃ a3 c3,az=[.pointer (some ⟨q,0,none⟩),.slice a n c,.pointer (some ⟨t,0,none⟩),.slice af ai al,.int .i64 j,.slice a3 0 c3,.int .i64 i]/\i=0/\AD a0 w') (fun i=>0) 0 ⟨_,_,rfl,rfl,bm⟩ ?_;rintro _ dg _ b3 ⟨a3,c3,rfl,rfl,y⟩;have bc:=xt ao y;have am:=cc.ext y;have bq:=b'.ext y;have bu:=ce.ext y;have au:AZ b3 b8 z:=⟨be.ext bc,bj.2⟩;refine jL am (k:=2) rfl<|dH (pB [0,2,4,6,8,10,12,15,17,19,21,23,25,26,28,31,33]) fun a5 e=>dI bu j rfl bz fun da d9 dm bv=>dL am (k:=2) rfl<|jI (bq.ext e) 0 rfl cm fun db d' dn bw=>⟨e,jA (n:=2) bw rfl ⟨e,(JV ⟨au.1.ext e,au.2⟩ (bv.ext e) b0).mono ?_⟩⟩;rintro _ ed ⟨c8,de,rfl,bf,ea,ae⟩;exact ⟨(xt e ae),dM (br _ _ _ _ bf om) fun ee ag=>⟨(xt (xt e ae) ag),⟨_,rfl,om,(xt (xt (xt bc e) ae) ag)⟩⟩⟩
     .have d1:=QU (f:=s) aq ck;have br:∀ p a n c,A4 eI 1 p a n (Ad z s)->n<=12->Dq 240 [.slice a n c] p (fun v w'=>v = .tuple #[.int .i64 aj,.bool true]/\AD p w'):=fun p a n c hA bp=>by have h:=KX (w:=p) (c:=c) hA bp (fun b2 b1=>cn.2.2 b2 (L9 b1));rw [du] at h;exact h
      have dz:∀ i c,i<j+1->xs[i]? = some c->(Ec (Ad c s)).isSome=true:=fun i c ci hc=>by
       by_cases bl:i=j
       .subst bl;rw [aq] at hc;cases hc;rw [ck];rfl
       .exact cf i c om hc
      refine iY<|bS B3 (vs:=[]) ?_;intro c9 eb bo d5 bm bg;have b5:=Ag (enc:=eI) AI bg bo;refine lR [0,1,6,7,9,10,11] (fun (i:Nat) az w'=>∃ a3 c3,az=[.pointer (some ⟨q,0,none⟩),.slice a n c,.pointer (some ⟨t,0,none⟩),.slice af ai al,.int .i64 j,.slice a3 i c3,.int .i64 i]/\i<=1/\An eI 1 a0.heap.size 2 w' a3 i c3 (([aj]:List Int).take i)/\AD a0 w') (fun i=>1 - i) 0 ⟨_,_,rfl,om,b5,bm⟩ ?_;rintro i dg _ b3 ⟨a3,c3,rfl,ci,ah,y⟩;have bc:=xt ao y;have am:=cc.ext y;have bq:=b'.ext y;have bu:=ce.ext y;have au:AZ b3 b8 z:=⟨be.ext bc,bj.2⟩;have cb:=ca.ext y;rcases Nat.lt_or_ge i 1 with dv | dv
      .obtain rfl:i=0:=om
       refine jL am (k:=2) rfl<|dH (pB [0,2,4,6,8,10,12,15,17,19,21,23,25,26,28,31,33]) fun a5 e=>dI bu j rfl bz fun da d9 dm bv=>dL am (k:=2) rfl<|jI (bq.ext e) 0 rfl cm fun db d' dn bw=>⟨e,jA (n:=2) bw rfl ⟨e,(JV ⟨au.1.ext e,au.2⟩ (bv.ext e) b0).mono ?_⟩⟩;rintro _ ed ⟨c8,de,rfl,bf,ea,ae⟩;refine ⟨(xt e ae),dM (br _ _ _ _ bf om) fun ee ag=>⟨(xt (xt e ae) ag),bS B3 (vs:=[Value.int IntKind.i64 aj]) ?_⟩⟩;intro ej e9 dh e3 bn cx;have c0:=AH (n:=1) (enc:=eI) (xs:=[aj]) AI cx dh rfl dE;exact D0 (enc:=eI) B3 AI (ah.ext (xt (xt (xt e ae) ag) bn)) (c0.own.arr AI) yI om om (Below.size (xt (xt (xt (xt y e) ae) ag) bn)) fun eh el e' c4 d7 e0=>jP (((0+1:Nat):Int)) ⟨1,om,_,_,rfl,om,c4,xm (xt (xt (xt (xt y e) ae) ag) bn) d7 (AQ ah.new)⟩
      .obtain rfl:i=1:=om
       refine jL am (k:=2) rfl<|jL cb.cells (k:=1) rfl<|bS Zq (vs:=[Value.slice a3 1 c3]) ?_;intro c' a5 eo e2 e ak;(conv=>whnf);have cy:AK a5 c' 0 (eH ⟨a3,1,c3⟩):=ak.cells;have d4:([aj]:List Int).take 1=[aj]:=rfl;rw [d4] at ah;have cj:=Bm.new ba;refine Cb (x:=[aj]) Zq rfl ba bb.size (xt y e) (FR ((ah.ext e).own) ah.le.1) (DB ah.new (fun x ac=>Nat.lt_of_lt_of_le (ah.lt x ac) e.size)) cy om om ?_;intro eg ek e6 cz cp ez;have d8:¬ AL a2 t:=fun ⟨x,ac,av⟩=>by have:=cj x ac;omega
       have cv:=(cb.ext e).mod cp d8;refine jT cv (k:=1) sI rfl fun e7 b7 cw=>jP (((j+1:Nat):Int)) ⟨j+1,om,_,_,rfl,om,dz,cw,?_,?_⟩
       .rw [d1,List.map_append];exact cz.low b7.but (fun ad ab=>by have ab:ad=t:=ab;omega)
       .exact ((bb.trans (AD.mod (xt y e))).trans_new cp (fun ad ⟨x,ac,av⟩=>by have:=cj x ac;omega)).trans b7.but
    .obtain rfl:j=n:=om
     have d0:ER xs s=true:=by
      simp only [ER,Bool.not_eq_true',List.any_eq_false];intro z aq cl;obtain ⟨ad,ab⟩:=List.getElem?_of_mem aq;have:=cf ad z (by have:=(List.getElem?_eq_some_iff.1 ab).1;omega) ab;cases ac:Ec (Ad z s)<;>simp_all
     have dp:Bn xs f s=0:=by
      unfold Bn;rw [if_neg (by simp [aa]),if_neg (by simp [ap,ax]),if_neg (by simp [d0,aw])]
     rw [dp];rw [List.take_of_length_le om] at ba;have bt:A4 eS 1 a0 af ai ((xs.map (AS f)).map Cf):=(b6.mod bb (fun x ac av=>by have:=ar x ac;have:=g.size;have:=o.size;have:=u.size;omega)).arr AP;have d2:=Hf aa ap aw;have dx:=bt.len;rw [List.length_map,List.length_map] at dx;refine iN<|jT ca (k:=0) (Nat.le_of_ble_eq_true rfl) rfl ?_;intro a5 a6 ak;have ak:B8 a5 t [Value.slice af ai al,Value.slice a2 j c2,Value.slice none 0 0] _:=ak;refine (KV (bt.mod a6.but (Gy ar ay (Below.size (xt (xt g o) u)))) d2 om).mono ?_;rintro _ e8 ⟨c7,d6,dd,rfl,c5,c6,a9⟩;refine jT (ak.ext a9) (k:=2) (Nat.le_of_ble_eq_true rfl) rfl ?_;intro ec a7 bi;have bi:B8 ec t [Value.slice af ai al,Value.slice a2 j c2,Value.slice c7 d6 dd] _:=bi;refine ⟨_,rfl,?_,(xb (xt (xb ao a6.but a') a9) a7.but a')⟩
     .refine fun _=>⟨_,_,_,_,_,_,_,_,_,bi.cells,((bt.mod a6.but (Gy ar ay (Below.size (xt (xt g o) u)))).ext a9).mod a7.but (Gy ar ay (Below.size (xt (xt g o) u))),?_,?_⟩
      .exact (((ba.low a6.but (fun ad ab=>by have ab:ad=t:=ab;omega)).ext a9).low a7.but (fun ad ab=>by have ab:ad=t:=ab;omega)).ownN.arr
      .exact (c6.mod a7.but (fun x ac av=>by have:=c5 x ac;have:=ak.lt;have av:x.block=t:=av;omega)).arr AI
   .rw [if_neg aw] at an;have bx:Bn xs f s=8:=by simp [Bn,aa,ap,ax,aw]
    rw [bx];refine oV Tryz.func170 ?_;refine AB.build T5 rfl ?_;refine AB.box ?_;intro t cr a' ay m bh;refine dM (DW (h.ext m)) fun cs g=>iF ?_;refine dM (EH (h.ext (xt m g))) fun ct o=>dM (L5 (hc.ext (xt (xt m g) o)) (hA.ext (xt (xt m g) o)) hfo hso om) fun cu u=>?_;refine iF ?_;refine jG (n:=2) (k:=0) (hc.ext (xt (xt (xt m g) o) u)) rfl<|(an _ (xt (xt (xt m g) o) u)).mono ?_;rintro _ a4 ⟨af,ai,al,rfl,ar,b6,a8⟩;exact ⟨_,rfl,om,(xt (xt (xt (xt m g) o) u) a8)⟩
  .have dr:Bn xs f s=2:=by
    unfold Bn;rw [if_neg (by simp [aa]),if_pos (by cases di:AR f (AJ xs)<;>cases dj:Ah s (AJ xs)<;>simp_all)]
   rw [dr];have dt:(AR f (AJ xs) && Ah s (AJ xs))=false:=by cases di:AR f (AJ xs)<;>cases dj:Ah s (AJ xs)<;>simp_all
   refine oV Tryz.func170 ?_;refine AB.build T5 rfl ?_;refine AB.box ?_;intro t cr a' ay m bh;refine dM (DW (h.ext m)) fun cs g=>iF ?_;refine dM (EH (h.ext (xt m g))) fun ct o=>dM (L5 (hc.ext (xt (xt m g) o)) (hA.ext (xt (xt m g) o)) hfo hso om) fun cu u=>?_;refine iT ?_;exact ⟨_,rfl,om,(xt (xt (xt m g) o) u)⟩
 .have dq:Bn xs f s=1:=by simp [Bn,aa]
  rw [dq];have aa:A2 xs=false:=by simpa using aa
  refine oV Tryz.func170 ?_;refine AB.build T5 rfl ?_;refine AB.box ?_;intro ei e4 en e1 b9 ef;refine dM (DW (h.ext b9)) fun e5 df=>iT ?_;exact ⟨_,rfl,om,(xt b9 df)⟩
theorem ZU {B:Nat}:∀ {l:List Int},(∀ x∈l,-(B:Int)<x/\x<B)→-(B * l.length:Int)<=l.sum/\l.sum<=B * l.length
 | [],_=>sI
 | x :: l,h=>by
  have h1:=h x sI;have c:=ZU (l:=l) fun b a=>h b (List.mem_cons_of_mem _ a);rw [List.sum_cons,List.length_cons,Int.natCast_add,Int.mul_add];omega
theorem ZT {i:Nat} {x:Int} (hp:p<=i) (hx:N[i]? = some x):((N.drop p).take (i+1 - p)).sum=((N.drop p).take (i - p)).sum+x:=by
 have a:i+1 - p=(i - p)+1:=om
 rw [a,List.take_add_one,List.getElem?_drop,show p+(i - p)=i by omega,hx];simp
theorem S9 (hc:AK w r 0 [.slice a1 n1 c1,.slice a2 n2 c2,.slice a3 n3 c3]) (hN:Ac AZ w a2 n2 (N.map fun x=>[x])) (hNb:∀ x∈N,-1000000000000<x/\x<1000000000000) (hn40:n2<=40)
 (hpq:p<=q) (hq:q<=n2) :
  Dq 173 [.pointer (some ⟨r,0,none⟩),.int .i64 p,.int .i64 q,.int .i64 1] w (fun v w'=>∃ b,v = .slice (some ⟨b,0,none⟩) 1 1/\B8 w' b [.int .i64 ((N.drop p).take (q - p)).sum] 2/\w.heap.size<=b/\AD w w'):=by
 have ak:=hN.len;rw [List.length_map] at ak;refine oV Tryz.func173 ?_;refine AB.make B3 (1) rfl om om ?_;intro e bt t bl ah o;have az:=Hh (enc:=eI) (z:=(0:Int)) AI rfl o t om;refine lR [0,2,3,9,10] (fun (a:Nat) j w'=>j=[.pointer (some ⟨r,0,none⟩),.int .i64 q,.int .i64 1,.slice (some ⟨e,0,none⟩) 1 1,.int .i64 a]/\p<=a/\a<=q/\B8 w' e [.int .i64 ((N.drop p).take (a - p)).sum] 2/\AD w w') (fun a=>q - a) p ⟨rfl,Nat.le_refl _,hpq,by rw [Nat.sub_self,List.take_zero];exact o,ah⟩ ?_;rintro a a9 _ bq ⟨rfl,aq,bg,u,h⟩;have ba:=hc.ext h;rcases Nat.lt_or_ge a q with ao | ao
 .obtain ⟨x,i⟩:=AA (l:=N) (k:=a) om;have au:=ZT aq i;have bk:=hNb x (List.mem_of_getElem? i);have bi:=ZU (B:=1000000000000) (l:=(N.drop p).take (a - p)) fun ay ax=>hNb ay (List.mem_of_mem_drop (List.mem_of_mem_take ax));have bj:((N.drop p).take (a - p)).length<=40:=by rw [List.length_take,List.length_drop];omega
  generalize bc:((N.drop p).take (a - p)).sum=d at *;generalize bb:((N.drop p).take (a - p)).length=a0 at *;refine iY<|lR [0,2,3,9,10,11] (fun (c:Nat) j w'=>j=[.pointer (some ⟨r,0,none⟩),.int .i64 q,.int .i64 1,.slice (some ⟨e,0,none⟩) 1 1,.int .i64 a,.int .i64 c]/\c<=1/\B8 w' e [.int .i64 (if c=0 then d else d+x)] 2/\AD w w') (fun c=>1 - c) 0 ⟨rfl,om,u,h⟩ ?_;rintro c a' _ br ⟨rfl,bh,f,g⟩;have ai:=hc.ext g;rcases Nat.lt_or_ge c 1 with ap | ap
  .obtain rfl:c=0:=om
   rw [if_pos rfl] at f;obtain ⟨ar,aa,aj⟩:=hN.ext g;have aw:(N.map fun x=>[x])[a]? = some [x]:=by simp [i]
   obtain ⟨a8,ab⟩:=AA (l:=ar) (k:=a) (by have:=aa.len;omega);obtain ⟨bw,ac,af⟩:=aj.get ab;rw [aw] at ac;cases ac
   have ad:=af.1;have av:([x]:List Int)[0]? = some x:=rfl;have m:=(AH (n:=1) (enc:=eI) (xs:=[d]) AI f (Nat.le_refl e) rfl dE).own.arr AI;have y:([d]:List Int)[0]? = some d:=rfl;refine Au A7 mixed (pZ [0,5,10,20,25,30,40,55,16,36,45,51,60,66,70,75,83]) kR kR fun bu s=>pI m 0 rfl y ?_;rintro a4 bm ⟨⟩ al;refine dL al (k:=0) rfl<|dL ai (k:=1) rfl<|pI aa a rfl ab fun a5 bn bd am=>dO am rfl<|pI ad 0 rfl av fun a6 bo be an=>dL an (k:=0) rfl<|DT.add _ rfl om om<|pI m 0 rfl y ?_;rintro a7 bp ⟨⟩ bf;exact jT (f.ext s) (k:=0) (Nat.le_of_ble_eq_true rfl) rfl fun bv ag ae=>jP (((0+1:Nat):Int)) ⟨1,om,rfl,om,ae,xb (xt g s) ag.but t⟩
  .obtain rfl:c=1:=om
   rw [if_neg dE] at f;refine jP (((a+1:Nat):Int)) ⟨a+1,om,rfl,om,om,?_,g⟩
   .rw [au];exact f
 .obtain rfl:a=q:=om
  exact iN ⟨_,rfl,u,om,h⟩
theorem Vb {S:List Nat} (hc:AK w r 0 [.slice a1 n1 c1,.slice a2 n2 c2,.slice a3 n3 c3]) (hS:A4 eI 1 w a3 n3 (S.map fun (i:Nat)=>(i:Int))) {g:Nat} (hg:g<n3) (hn3:n3<=1000) :
  Dq 171 [.pointer (some ⟨r,0,none⟩),.int .i64 g] w (fun v w'=>v = .int .i64 (DZ S n1 g)/\AD w w'):=by
 have e:=hS.len;rw [List.length_map] at e;refine oV Tryz.func171 ?_;conv=>whnf
 rcases Nat.lt_or_ge (g+1) n3 with d | d
 .obtain ⟨c,b⟩:=AA (l:=S) (k:=g+1) om;have h:(S.map fun (i:Nat)=>(i:Int))[g+1]? = some (c:Int):=by simp [b]
  have a:DZ S n1 g=c:=by simp [DZ,List.getD,b]
  rw [a];exact jP (((g+1:Nat):Int))<|jL hc (k:=2) rfl<|iY<|jL hc (k:=2) rfl<|jP (((g+1:Nat):Int))<|jI hS (g+1) rfl h fun j n m f=>jO f rfl ⟨rfl,AD.refl _⟩
 .have a:DZ S n1 g=n1:=by simp [DZ,List.getD,List.getElem?_eq_none (show S.length<=g+1 by omega)]
  rw [a];exact jP (((g+1:Nat):Int))<|jL hc (k:=2) rfl<|iN<|jL hc (k:=0) rfl ⟨rfl,AD.refl _⟩
theorem Mf (h:Ac AZ w a n xs) (hfo:f.ok) (hso:s.ok) (hA:A4 AE.enc 2 w b 1 [s]) :
  Dq 104 [.agg ⟨L7 f b d⟩,.slice a n c] w (fun v w'=>∃ a' m c',v = .tuple #[.slice a' m c',.int .i64 (HK xs f s).2]/\((HK xs f s).2=0->m<=41/\m<=c'/\A4 eS 1 w' a' m (HK xs f s).1)/\AD w w'):=by
 have a8:=h.len;by_cases ao:Bn xs f s=0
 .have a6:HK xs f s=(((Bj xs f).map fun r=>Fv r f s)++[bs [42,42,32]++BV (Dv xs s)],0):=by simp [HK,ao]
  rw [a6];obtain ⟨cr,ec,c0,bu,ef⟩:=Ph ao;have a5:=Am cr;have ck:=a5.1;have cj:∀ ab∈xs,ab.length<=20:=fun ab x=>(Bp (a5.2 ab x).1).2.1;have bi:∀ c∈xs,(Ad c s).length<=12:=fun c a4=>(Im (by rw [(a5.2 c a4).2];exact c0)).1;have bk:∀ g y,AD w g->AK g y 0 (L7 f b d)->Dq 170 [.pointer (some ⟨y,0,none⟩),.slice a n c] g _:=fun g y j a4=>JT (c:=c) (h.ext j) a4 (hA.ext j) hfo hso;rw [ao] at bk;have ed:=Hk xs f;have ee:=Jj xs f;have eh:=JP (d:=xs) (f:=s) bi ck;have br:=Zl (s:=s) bi;have cu:(xs.map (AS f)).length=n:=by rw [List.length_map];exact a8
  have cw:(D8 xs s).length=n:=by rw [Kd bu,List.length_map];exact a8
  refine oV Tryz.func104 ?_;refine AB.box ?_;intro ax e' d2 ep bf av;refine (bk _ _ bf av.cells).mono ?_;rintro _ aq ⟨ap,rfl,c9,az⟩;refine bS BK (vs:=[]) ?_;intro dq fa ch eq bh b8;have cc:=Ag (enc:=eS) AP b8 ch;refine jL (av.ext (xt az bh)).cells (k:=2) rfl ?_;(conv=>whnf);obtain ⟨de,et,du,df,eu,dv,dg,ag,dw,ai,au,bb,ah⟩:=c9 rfl;have bg:=xt bf az;have bz:=au.len;have b0:=bb.len;have c6:=ah.len;rw [List.length_map,cu] at bz;rw [List.length_map,cw] at b0;rw [List.length_map] at c6;subst bz;subst b0;have a3:∀ g (i y:Nat),AD aq g->i<=y->y<=n->Dq 173 [.pointer (some ⟨ap,0,none⟩),.int .i64 i,.int .i64 y,.int .i64 1] g (fun v w'=>∃ b,v = .slice (some ⟨b,0,none⟩) 1 1/\A4 eI 1 w' (some ⟨b,0,none⟩) 1 [(((D8 xs s).drop i).take (y - i)).sum]/\AD g w'):=fun g i y j cy cz=>(S9 (ai.ext j) (bb.ext j) (by simpa using br) om cy cz).mono fun _ w' ⟨b,c4,b5,d5,ce⟩=>⟨b,c4,(AH (n:=1) (enc:=eI) AI b5 (Nat.le_refl b) rfl dE).own.arr AI,ce⟩;have cm:∀ g (r:Nat),AD aq g->r<ag->Dq 171 [.pointer (some ⟨ap,0,none⟩),.int .i64 r] g (fun v w'=>v = .int .i64 (DZ (A0 (xs.map (AS f))) n r)/\AD g w'):=fun g r j ct=>Vb (ai.ext j) (ah.ext j) ct om;refine lR [2,6,8,9,10] (fun (e:Nat) ba w'=>∃ ak al,ba=[.pointer (some ⟨ax,0,none⟩),.pointer (some ⟨ap,0,none⟩),.slice ak e al,.int .i64 1,.int .i64 e]/\e<=ag/\An eS 1 aq.heap.size 9 w' ak e al (((Bj xs f).take e).map fun r=>Fv r f s)/\AD aq w') (fun e=>ag - e) 0 ⟨_,_,rfl,om,by simpa using cc,bh⟩ ?_;rintro e r _ da ⟨ak,al,rfl,bp,ae,aa⟩;have aj:=ai.ext aa;have dc:=au.ext aa;have b4:=ah.ext aa;have es:=ae.len;rcases Nat.lt_or_ge e ag with bq | bq
  .obtain ⟨i,bv⟩:=AA (l:=A0 (xs.map (AS f))) (k:=e) om;have a9:((A0 (xs.map (AS f))).map fun (c5:Nat)=>(c5:Int))[e]? = some (i:Int):=by simp [bv]
   obtain ⟨q,bw,cx,bm,bn,bo⟩:=Q8 bv;rw [a8] at cx bm bn bo;have cv:((xs.map (AS f)).map Cf)[i]? = some (Cf (AS f q)):=by simp [bw]
   have bt:=Cz (fun r=>Fv r f s) bn;have c3:Fv ((xs.drop i).take (DZ (A0 (xs.map (AS f))) n e - i)) f s=bs [42]++Cf (AS f q)++bs [32]++BV (((D8 xs s).drop i).take (DZ (A0 (xs.map (AS f))) n e - i)).sum:=by unfold Fv;rw [bo,T4,Vy bu]
   rw [c3] at bt;have eg:=ZU (l:=((D8 xs s).drop i).take (DZ (A0 (xs.map (AS f))) n e - i)) fun ab x=>br ab (List.mem_of_mem_drop (List.mem_of_mem_take x));have ei:(((D8 xs s).drop i).take (DZ (A0 (xs.map (AS f))) n e - i)).length<=40:=by rw [List.length_take,List.length_drop];omega
   have an:=fun g j=>a3 g i (DZ (A0 (xs.map (AS f))) n e) j om bm;have bj:=fun g j=>cm g e j bq;generalize (((D8 xs s).drop i).take (DZ (A0 (xs.map (AS f))) n e - i)).length=dd at *;generalize (((D8 xs s).drop i).take (DZ (A0 (xs.map (AS f))) n e - i)).sum=o at *;generalize DZ (A0 (xs.map (AS f))) n e=dz at *;have cs:=Bh (n:=o) om om;have a7:DE [o]=BV o:=Nw o;have af:=fun g b (ar:A4 eI 1 g (some ⟨b,0,none⟩) 1 [o])=>Mc (c:=1) ar (by intro ab x;rw [List.mem_singleton] at x;subst x;unfold BH;omega) dE;rw [a7] at af;have ej:=I1 (AS f q);have eb:(AS f q).length<=20:=by
    have:=cj q (List.mem_of_getElem? bw);have d3:(AS f q).length=(Ad q f).length:=by simp [AS,CO]
    have d4:(Ad q f).length<=q.length:=by unfold Ad;simp;omega
    omega
   generalize d6:Cf (AS f q)=bx at *;generalize cl:BV o=dec at *;refine jL aj (k:=2) rfl<|iY<|jL aj (k:=2) rfl<|jI b4 e rfl a9 fun dt ez ea cq=>jO cq rfl<|lR [2,6,8,9,10,11] (fun (em:Nat) ba w'=>ba=[.pointer (some ⟨ax,0,none⟩),.pointer (some ⟨ap,0,none⟩),.slice ak e al,.int .i64 1,.int .i64 e,.int .i64 i]/\AD da w') (fun _=>0) 0 ⟨rfl,AD.refl _⟩ ?_;rintro _ d0 _ db ⟨rfl,bl⟩;have u:=xt aa bl;have aw:=ai.ext u;have b3:=au.ext u;have bc:=ah.ext u;have b':AK db ax 0 (L7 f b d):=(av.ext (xt az u)).cells;have bd:=ae.ext bl;refine dM (bj _ u) fun e3 p=>iY<|jL (b'.ext p) (k:=3) rfl<|Au A7 mixed (pZ [0,5,10,15,25,30,35,45,80,85,90,95,105,120,125,135,21,41,50,56,60,66,70,75,101,110,116,132,142,147,150,157,163,165]) kR kR ?_;intro e4 t;refine dL (aw.ext p) (k:=0) rfl ?_;refine dL (aw.ext p) (k:=2) rfl<|pI (bc.ext p) e rfl a9 fun dk ew d8 cn=>dO cn rfl<|pI (b3.ext p) i rfl cv fun dl ex d9 co=>dO co rfl ?_;refine GO sO ?_;refine GO sO<|dL (aw.ext p) (k:=2) rfl<|pI (bc.ext p) e rfl a9 fun dm ey d' cp=>dO cp rfl<|dM (bj _ (xt (xt u p) t)) fun e5 z=>?_;refine ⟨(xt t z),(an _ (xt (xt (xt u p) t) z)).mono ?_⟩;rintro _ e6 ⟨dn,rfl,b1,ac⟩;refine ⟨(xt (xt t z) ac),dM (af _ _ b1) fun e7 ad=>⟨(xt (xt (xt t z) ac) ad),GO sO<|bS BK (vs:=[Value.string ({ data := #[42] }++bx++{ data := #[32] }++dec)]) ?_⟩⟩;intro dp e8 cg eo am b7;have ca:=AH (n:=1) (enc:=eS) (xs:=[{ data := #[42] }++bx++{ data := #[32] }++dec]) AP b7 cg rfl dE;refine ⟨(xt (xt (xt (xt t z) ac) ad) am),AN (enc:=eS) BK AP (bd.ext (xt (xt (xt (xt (xt p t) z) ac) ad) am)) (ca.own.arr AP) (by intro q _;simp [eS,AM]) om om (Below.size (xt (xt (xt (xt (xt (xt u p) t) z) ac) ad) am)) fun dh dx e9 cb c7 ek=>jP (((e+1:Nat):Int)) ⟨e+1,om,_,_,rfl,om,?_,(xm (xt (xt (xt (xt (xt (xt u p) t) z) ac) ad) am) c7 (AQ bd.new))⟩⟩
   .rw [bt];exact cb
  .obtain rfl:e=ag:=om
   have c2:((Bj xs f).take e)=Bj xs f:=List.take_of_length_le om;rw [c2] at ae;have d7:=a3;have an:=fun g j=>a3 g 0 n j om (Nat.le_refl _);have c1:(((D8 xs s).drop 0).take (n - 0)).sum=Dv xs s:=by rw [T4,List.drop_zero,List.take_of_length_le om]
   rw [c1] at an;generalize Dv xs s=o at *;have cs:=Bh (n:=o) om om;have a7:DE [o]=BV o:=Nw o;have af:=fun g b (ar:A4 eI 1 g (some ⟨b,0,none⟩) 1 [o])=>Mc (c:=1) ar (by intro ab x;rw [List.mem_singleton] at x;subst x;unfold BH;omega) dE;rw [a7] at af;generalize cl:BV o=dec at *;refine jL aj (k:=2) rfl<|iN<|jL aj (k:=0) rfl<|(an _ aa).mono ?_;rintro _ fc ⟨dr,rfl,b2,a0⟩;refine dM (af _ _ b2) fun fd a1=>Ax sO<|bS BK (vs:=[Value.string ({ data := #[42,42,32] }++dec)]) ?_;intro ds fe ci er a2 b9;have cd:=AH (n:=1) (enc:=eS) (xs:=[{ data := #[42,42,32] }++dec]) AP b9 ci rfl dE;refine AN (enc:=eS) BK AP (ae.ext (xt (xt a0 a1) a2)) (cd.own.arr AP) (by intro q _;simp [eS,AM]) om om (Below.size (xt (xt (xt aa a0) a1) a2)) fun di dy ff be c8 el=>⟨_,_,_,rfl,?_,(xm (xt (xt (xt (xt bg aa) a0) a1) a2) c8 (fun e bp=>Nat.le_trans (Below.size bg) (AQ ae.new e bp)))⟩
   .exact fun _=>⟨om,be.le.1,be.own.arr AP⟩
 .have a6:HK xs f s=([],Bn xs f s):=by simp [HK,ao]
  rw [a6];refine oV Tryz.func104 ?_;refine AB.box ?_;intro dj e2 d1 en ay b6;refine (JT (h.ext ay) b6.cells (hA.ext ay) hfo hso).mono ?_;rintro _ fb ⟨e1,rfl,e0,cf⟩;exact iT ⟨_,_,_,rfl,om,(xt ay cf)⟩
end Go.Proofs.YtalgenmoljcnmaaGreatDoor
