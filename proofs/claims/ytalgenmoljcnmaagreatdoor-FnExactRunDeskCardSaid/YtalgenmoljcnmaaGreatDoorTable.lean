/- Parts of the proof; no conditions of its own. -/
import Derived.Test.YtalgenmoljcnmaaGreatDoorJourR
import Derived.Test.YtalgenmoljcnmaaGreatDoorDec
import Derived.Test.YtalgenmoljcnmaaGreatDoorOffice
import Derived.Test.YtalgenmoljcnmaaGreatDoorNum
import Derived.Test.YtalgenmoljcnmaaGreatDoorLibSl
namespace Go.M
open Go Go.Vc
variable {l:List Int}
def jn (l:List Int):List UInt8:=Lib.join (l.map Lib.itoa) [32]
theorem Tn (x:Int):jn [x]=Lib.itoa x:=by simp [jn,Lib.join_one]
theorem WY:jn []=[]:=rfl
theorem JY (sep:List UInt8) (a b:List (List UInt8)):Lib.joinTail sep (a++b)=Lib.joinTail sep a++Lib.joinTail sep b:=by simp [Lib.joinTail]
theorem Zt (h:l≠[]) (x:Int):jn (l++[x])=jn l++32 :: Lib.itoa x:=by
 cases l with
 | nil=>exact absurd rfl h
 | cons a l =>
  unfold jn;rw [List.cons_append,List.map_cons,List.map_cons,Lib.join_cons,Lib.join_cons,List.map_append,JY];simp [Lib.joinTail]
theorem Tm {k:Nat} {x:Int} (h:l[k]? = some x) (hk:0<k):jn (l.take (k+1))=jn (l.take k)++32 :: Lib.itoa x:=by
 have b:=(List.getElem?_eq_some_iff.1 h).1;rw [List.take_add_one,h];refine Zt (fun a=>?_) x;have:=congrArg List.length a;rw [List.length_take,List.length_nil] at this;omega
theorem Zu (n:Int):Lib.itoa n≠[]:=by
 unfold Lib.itoa;split
 .simp
 .exact HN _
theorem Y7 {n:Int} (h:BM n):(Lib.itoa n).length<=21:=Bc h.1 h.2
theorem WZ (h:∀ x∈l,BM x):∀ k,(jn (l.take k)).length<=22 * k:=by
 intro k;induction k with
 | zero=>simp [WY]
 | succ k d =>
  cases a:l[k]? with
  | none =>
   rw [List.take_add_one,a];simp;omega
  | some x =>
   have c:=Y7 (h x (List.mem_of_getElem? a));by_cases b:0<k
   .rw [Tm a b];simp;omega
   .have:k=0:=om
    subst this;rw [List.take_add_one,a];simp [Tn];omega
theorem aF0 (h:l≠[]):jn l≠[]:=by
 cases l with
 | nil=>exact absurd rfl h
 | cons b l =>
  unfold jn;rw [List.map_cons,Lib.join_cons];intro a;exact Zu b (List.append_eq_nil_iff.1 a).1
def C6 (l:List Int):ByteArray:=if l=[] then bs [45] else bs (jn l)
end Go.M
namespace Go.Proofs.YtalgenmoljcnmaaGreatDoor
open Go Go.RowKit Go.Vc Go.M Go.Shelf Go.Proofs
variable {w:World} {n c:Nat} {a:Option Addr} {xs:List Int}
theorem Px {b t:Nat} {xs:List ByteArray} {sep:ByteArray} (O:Bw eS w (some ⟨b,0,none⟩) n t xs) (hnc:n<=c) (hN:n<=140737488355328) (hl:(Lib.join (xs.map (·.data.toList)) sep.data.toList).length<=140737488355328) :
  Dq 146 [.slice (some ⟨b,0,none⟩) n c,.string sep] w (fun v w'=>v = .string (bs (Lib.join (xs.map (·.data.toList)) sep.data.toList))/\AD w w'):=by
 obtain ⟨e,h,f⟩:=O;rcases f with ⟨a,_⟩ | ⟨g,rest,a,d⟩
 .cases a
 .cases a
  exact VB (AK.append.1 d.cells).1 d.lt e hnc hN hl
theorem MO (h:A4 eI 1 w a n xs) (hok:∀ x∈xs,BM x) (hsm:n<=1000) (hT:F7 w) :
  Dq 134 [.slice a n c] w (fun v w'=>v = .string (C6 xs)/\AD w w'):=by
 have aj:=h.len;unfold C6;by_cases i:xs=[]
 .rw [if_pos i];have ak:n=0:=by rw [<- aj,i];rfl
  refine oV Tryz.func134 ?_;refine iY ?_;exact ⟨rfl,AD.refl _⟩
 .rw [if_neg i];have ak:n≠0:=fun ax=>i (List.eq_nil_of_length_eq_zero om);refine oV Tryz.func134 ?_;refine iN ?_;refine bS BI (vs:=[]) ?_;intro ar a5 ab a2 z q;have s:=Ab (enc:=eS) AQ q ab;refine lR [3,10,11,12] (fun (b:Nat) ao w'=>∃ k j g,ao=[.slice k j g,.slice a n c,.int .i64 n,.int .i64 b]/\b<=n/\Ai eS 1 w.heap.size 9 w' k j g ((xs.take b).map BP)/\AD w w') (fun b=>n - b) 0 ⟨_,_,_,rfl,om,s,z⟩ ?_;rintro b ay _ w' ⟨k,j,g,rfl,az,d,e⟩;have al:=d.len;have af:=d.le.1;rw [List.length_map,List.length_take] at al;by_cases a0:b<n
  .obtain ⟨x,o⟩:∃ x,xs[b]? = some x:=AA om;have am:=hok x (List.mem_of_getElem? o);have ai:=Q9 (f:=BP) o;refine iY<|jI (h.ext e) b rfl o fun au a4 _ ae=>jO ae rfl<|dM (Ck am (hT.ext e)) fun a7 l=>bS BI (vs:=[Value.string (BP x)]) ?_;intro av a8 ac a3 m r;have t:=AG (n:=1) (enc:=eS) (xs:=[BP x]) AQ r ac rfl dE;refine AM (enc:=eS) BI AQ (d.ext (xt l m)) (t.own.arr AQ) (by intro a' _;simp [eS,AE]) om om (Below.size (xt (xt e l) m)) fun aq aw a9 u an a1=>jP (((b+1:Nat):Int)) ⟨b+1,om,_,_,_,rfl,om,?_,(xm (xt (xt e l) m) an (AO d.new))⟩
   .rw [ai];exact u
  .have ah:b=n:=om
   subst ah;rw [List.take_of_length_le om] at d;obtain ⟨y,rfl⟩:=d.own.some om;have ag:=WZ hok xs.length;rw [List.take_length] at ag;have p:Lib.join ((xs.map BP).map (·.data.toList)) [32]=jn xs:=by
    unfold jn;rw [List.map_map];rfl
   have ad:Dq 146 [.slice (some ⟨y,0,none⟩) j g,.string { data := #[32] }] w' (fun v ap=>v = .string (bs (jn xs))/\AD w' ap):=by
    have:=Px (sep:={ data := #[32] }) d.own af om (by rw [show (ByteArray.mk #[32]).data.toList=[32] from rfl,p];omega);rw [show (ByteArray.mk #[32]).data.toList=[32] from rfl,p] at this;exact this
   exact iN<|dM (ad) fun a6 aa=>⟨rfl,(xt e aa)⟩
theorem Lv (h:A4 eI 1 w a n xs) (hok:∀ x∈xs,BM x) (hsm:n<=1000) :
  Dq 172 [.slice a n c] w (fun v w'=>v = .string (C6 xs)/\AD w w'):=by
 have ai:=h.len;have r:=WZ hok;refine oV Tryz.func172 ?_;refine lR [0,3,4] (fun (b:Nat) ab w'=>ab=[.slice a n c,.string (bs (jn (xs.take b))),.int .i64 b]/\b<=n/\AD w w') (fun b=>n - b) 0 ⟨rfl,om,AD.refl _⟩ ?_;rintro b ae _ w' ⟨rfl,ag,d⟩;have o:=r b;by_cases ah:b<n
 .obtain ⟨x,e⟩:∃ x,xs[b]? = some x:=AA om;have f:=hok x (List.mem_of_getElem? e);have af:=Bc f.1 f.2;by_cases t:0<b
  .have l:bs (jn (xs.take (b+1)))=bs (jn (xs.take b))++{ data := #[32] }++BP x:=by
    rw [Tm e t];apply CV;simp [bs,BP]
   have s:(bs (jn (xs.take b))).size<=22 * b:=by rw [AV];exact o
   exact iY<|iY<|Ao (by simp only [ByteArray.size_append,AV,CO,CZ,List.length_cons,List.length_nil];omega)<|jI (h.ext d) b rfl e fun p z _ j=>jO j rfl<|dM (B7 f _) fun ac i=>Ao (by simp only [ByteArray.size_append,AV,CO,CZ,List.length_cons,List.length_nil];omega)<|jP (((b+1:Nat):Int)) ⟨b+1,om,by rw [l];rfl,om,xt d i⟩
  .have u:b=0:=om
   subst u;have l:bs (jn (xs.take (0+1)))=bs (jn (xs.take 0))++BP x:=by
    rw [List.take_add_one,e];simp only [List.take_zero,List.nil_append,Option.toList_some,Tn,WY];apply CV;simp [bs,BP]
   have s:(bs (jn (xs.take 0))).size<=22 * 0:=by rw [AV];exact o
   exact iY<|jI (h.ext d) 0 rfl e fun p z _ j=>jL j (k:=0) rfl<|dM (B7 f _) fun ac i=>Ao om<|jP (((0+1:Nat):Int)) ⟨0+1,om,by rw [l];rfl,om,xt d i⟩
 .have y:b=n:=om
  subst y;rw [List.take_of_length_le om];unfold C6;by_cases g:xs=[]
  .rw [if_pos g];subst g;have m:bs (jn [])={ data := #[] }:=rfl;rw [m];exact iN ⟨rfl,d⟩
  .rw [if_neg g];have m:¬ bs (jn xs)={ data := #[] }:=fun q=>aF0 g (by
    have:=congrArg (fun aa:ByteArray=>aa.data.toList) q;simpa [bs] using this)
   generalize bs (jn xs)=ad at *;exact iN<|iN ⟨rfl,d⟩
end Go.Proofs.YtalgenmoljcnmaaGreatDoor
namespace Go.M
open Go Go.Vc
variable {X:List (List (List Int))} {d:List (List Int)} {m k:Nat}
def AH:List (List (List Int))->Nat
 | []=>20
 | [] :: l=>AH l
 | (c :: _) :: _=>c.length
theorem Jw:∀ {X:List (List (List Int))} {k:Nat} {x:List (List Int)} {c:List Int},(∀ i y,i<k->X[i]? = some y->y=[])->X[k]? = some x->x[0]? = some c->AH X=c.length
 | [],_,_,_,_,h,_=>by simp at h
 | y :: l,0,x,c,_,h,hc=>by
  simp at h;subst h;cases y with
  | nil=>simp at hc
  | cons a f=>simp at hc;subst hc;rfl
 | y :: l,k+1,x,c,he,h,hc=>by
  have b:y=[]:=he 0 y om rfl;subst b;show AH l=c.length;exact Jw (k:=k) (fun i a e d=>he (i+1) a om (by simpa using d)) (by simpa using h) hc
theorem IN:∀ {X:List (List (List Int))},(∀ i y,i<X.length->X[i]? = some y->y=[])->AH X=20
 | [],_=>rfl
 | y :: l,he=>by
  have hy:y=[]:=he 0 y sI rfl;subst hy;exact IN (X:=l) (fun i b c a=>he (i+1) b (by simp;omega) (by simpa using a))
def Fx (X:List (List (List Int))) (d:List (List Int)):Bool:=Ax d && (decide (d=[]) || decide ((d.headD []).length=AH X))
def Ap (X:List (List (List Int))) (m:Nat):Bool:=X.all (Fx X) && decide (X.length=6) && decide (m<=20)
theorem Ru (h:Ax d=false):Fx X d=false:=by simp [Fx,h]
theorem UT:Fx X []=true:=by simp [Fx,Ax]
theorem W1 {c:List Int} (h:Ax d=true) (hc:d[0]? = some c):Fx X d=decide (c.length=AH X):=by
 cases d with
 | nil=>simp at hc
 | cons b a=>simp at hc;subst hc;simp [Fx,h]
theorem JB (hd:X[k]? = some d) (h:Fx X d=false):Ap X m=false:=by
 have:X.all (Fx X)=false:=by
  rw [List.all_eq_false];exact ⟨d,List.mem_of_getElem? hd,by simp [h]⟩
 simp [Ap,this]
theorem Pl (h:∀ i d,i<X.length->X[i]? = some d->Fx X d=true):Ap X m=(decide (X.length=6) && decide (m<=20)):=by
 have:X.all (Fx X)=true:=by
  rw [List.all_eq_true];intro d b;obtain ⟨i,a⟩:=List.mem_iff_getElem?.1 b;exact h i d (List.getElem?_eq_some_iff.1 a).1 a
 simp [Ap,this]
theorem WQ (h:¬ X.length=6):Ap X m=false:=by simp [Ap,h]
theorem U2 (h:¬ m<=20):Ap X m=false:=by simp [Ap,h]
theorem WR (h:Ap X m=true):X.length=6/\∀ d∈X,Ax d=true:=by
 simp only [Ap,Bool.and_eq_true,decide_eq_true_eq,List.all_eq_true] at h;refine ⟨h.1.2,fun d a=>?_⟩;have:=h.1.1 d a;simp only [Fx,Bool.and_eq_true] at this;exact this.1
def At (X:List (List (List Int))):List Int:=X.map fun d=>(d.length:Int)
def Fe (X:List (List (List Int))) (m:Nat) (s:ByteArray):Bool:=Ap X m && decide (Aj s=0)
theorem WU (s:ByteArray):(BQ s).2.2=Aj s:=by
 unfold BQ;split
 .rename_i a;exact a.symm
 .rfl
theorem Mc (h:X[k]? = some d):(At X)[k]? = some (d.length:Int):=by simp [At,h]
theorem JN (X:List (List (List Int))):(At X).length=X.length:=by simp [At]
theorem OR (h:∀ d∈X,d.length<=40):∀ x∈At X,BM x:=by
 intro x b;obtain ⟨d,a,rfl⟩:=List.mem_map.1 b;have:=h d a;unfold BM;omega
end Go.M
namespace Go.Proofs.YtalgenmoljcnmaaGreatDoor
open Go Go.Shelf Go.Proofs Go.RowKit Go.Vc Go.M
variable {w:World} {a b:Option Addr} {n c m d q:Nat} {X:List (List (List Int))} {s:List Value}
theorem Hq (h:Ar DM w a n X):Dq 123 [.agg #[.slice a n c,.slice b m d]] w (fun v w'=>v = .int .i64 (AH X)/\AD w w'):=by
 have a6:=h.len;have a5:=h.le;obtain ⟨ah,j,aj⟩:=h;have a3:=j.len;refine oV Tryz.func123 ?_;conv=>whnf
 refine AB.box ?_;intro av bb t a' af ab;(conv=>whnf);refine jL ab.cells (k:=0) rfl ?_;(conv=>whnf);refine lR [6,7,8] (fun (e:Nat) ar w'=>ar=[.slice a n c,.int .i64 n,.int .i64 e]/\e<=n/\(∀ f g,f<e->X[f]? = some g->g=[])/\AD w w') (fun e=>n - e) 0 ⟨rfl,om,fun f g z=>by omega,af⟩ ?_;rintro e az _ bc ⟨rfl,a2,o,i⟩;rcases Nat.lt_or_ge e n with an | an
 .obtain ⟨t,q⟩:=AA (l:=ah) (k:=e) om;obtain ⟨au,aa,s⟩:=aj.get q;have a9:=s.1.len;rcases Nat.eq_zero_or_pos t.n with ai | ai
  .have ap:au=[]:=List.eq_nil_of_length_eq_zero om;have a8:∀ f g,f<e+1->X[f]? = some g->g=[]:=fun f g z r=>by
    by_cases ae:f=e
    .subst ae;rw [aa] at r;cases r;exact ap
    .exact o f g om r
   (conv=>whnf);refine iY ?_;(conv=>whnf);refine jI (j.ext i) e rfl q ?_;intro ad aq ak p;(conv=>whnf);refine jO p rfl ?_;(conv=>whnf);refine iN ?_;(conv=>whnf);refine jP (((e+1:Nat):Int)) ?_;(conv=>whnf);exact ⟨e+1,om,rfl,om,om,i⟩
  .obtain ⟨ao,x,u⟩:=s.1;have a4:=x.len;have a7:=u.1;obtain ⟨ay,y⟩:=AA (l:=ao) (k:=0) om;obtain ⟨ax,am,ac⟩:=u.get y;have a1:=ac.1.len;rw [Jw o aa am];(conv=>whnf);refine iY ?_;(conv=>whnf);refine jI (j.ext i) e rfl q ?_;intro ad aq ak p;(conv=>whnf);refine jO p rfl ?_;(conv=>whnf);refine iY ?_;(conv=>whnf);refine jI (x.ext i) 0 rfl y ?_;intro aw ba a0 al;(conv=>whnf);refine jA (n:=1) al rfl ?_;(conv=>whnf);refine dM (C4 _) fun bd ag=>?_;(conv=>whnf);exact ⟨by simp only [*],(xt i ag)⟩
 .rw [IN (fun f g z=>o f g om)];(conv=>whnf);refine iN ?_;(conv=>whnf);exact ⟨rfl,i⟩
theorem II (h:Ar DM w a n X) (hc:AK w q 0 ([.slice a n c,.slice b m d]++s)):Dq 118 [.pointer (some ⟨q,0,none⟩)] w (fun v w'=>v = .int .i64 (AH X)/\AD w w'):=by
 have a7:=h.len;have a6:=h.le;obtain ⟨ag,j,ai⟩:=h;have a4:=j.len;refine oV Tryz.func118 ?_;conv=>whnf
 refine lR [0,3] (fun (e:Nat) ar w'=>ar=[.pointer (some ⟨q,0,none⟩),.int .i64 e]/\e<=n/\(∀ g i,g<e->X[g]? = some i->i=[])/\AD w w') (fun e=>n - e) 0 ⟨rfl,om,fun g i aa=>by omega,AD.refl _⟩ ?_;rintro e az _ bc ⟨rfl,a3,p,f⟩;rcases Nat.lt_or_ge e n with an | an
 .obtain ⟨af,o⟩:=AA (l:=ag) (k:=e) om;obtain ⟨au,ab,u⟩:=ai.get o;have a':=u.1.len;rcases Nat.eq_zero_or_pos af.n with ah | ah
  .have ap:au=[]:=List.eq_nil_of_length_eq_zero om;have a9:∀ g i,g<e+1->X[g]? = some i->i=[]:=fun g i aa t=>by
    by_cases ae:g=e
    .subst ae;rw [ab] at t;cases t;exact ap
    .exact p g i om t
   (conv=>whnf);refine jL (hc.ext f) (k:=0) rfl ?_;(conv=>whnf);refine iY ?_;(conv=>whnf);refine jL (hc.ext f) (k:=0) rfl ?_;(conv=>whnf);refine jI (j.ext f) e rfl o ?_;intro ad aq aj r;(conv=>whnf);refine jO r rfl ?_;(conv=>whnf);refine iN ?_;(conv=>whnf);refine jP (((e+1:Nat):Int)) ?_;(conv=>whnf);exact ⟨e+1,om,rfl,om,om,f⟩
  .obtain ⟨ao,y,x⟩:=u.1;have a5:=y.len;have a8:=x.1;obtain ⟨ay,z⟩:=AA (l:=ao) (k:=0) om;obtain ⟨ax,am,ac⟩:=x.get z;have a2:=ac.1.len;rw [Jw p ab am];(conv=>whnf);refine jL (hc.ext f) (k:=0) rfl ?_;(conv=>whnf);refine iY ?_;(conv=>whnf);refine jL (hc.ext f) (k:=0) rfl ?_;(conv=>whnf);refine jI (j.ext f) e rfl o ?_;intro ad aq aj r;(conv=>whnf);refine jO r rfl ?_;(conv=>whnf);refine iY ?_;(conv=>whnf);refine jL (hc.ext f) (k:=0) rfl ?_;(conv=>whnf);refine jI (j.ext f) e rfl o ?_;intro av ba a0 ak;(conv=>whnf);refine jO ak rfl ?_;(conv=>whnf);refine jI (y.ext f) 0 rfl z ?_;intro aw bb a1 al;(conv=>whnf);refine jL al (k:=0) rfl ?_;(conv=>whnf);exact ⟨by simp only [*],f⟩
 .rw [IN (fun g i aa=>p g i om)];(conv=>whnf);refine jL (hc.ext f) (k:=0) rfl ?_;(conv=>whnf);refine iN ?_;(conv=>whnf);exact ⟨rfl,f⟩
theorem Gd (h:Ar DM w a n X):Dq 66 [.agg #[.slice a n c,.slice b m d]] w (fun v w'=>v = .bool (Ap X m)/\AD w w'):=by
 have b0:=h.len;have bz:=h.le;have a0:=fun aq (r:AD w aq)=>Hq (c:=c) (b:=b) (m:=m) (d:=d) (h.ext r);have a9:=h;obtain ⟨a8,aa,bd⟩:=a9;have bw:=aa.len;by_cases bb:X.length=6
 .by_cases ba:m<=20
  .refine oV Tryz.func66 ?_;conv=>whnf
   refine AB.box ?_;intro aw a2 a7 bk z q;(conv=>whnf);refine jL q.cells (k:=0) rfl ?_;(conv=>whnf);with_reducible refine Ak (fun ah=>?_) (fun ah=>?_)
   ·(conv=>whnf);exact ⟨om,z⟩
   ·(conv=>whnf);refine jL q.cells (k:=1) rfl ?_;(conv=>whnf);refine iN ?_;(conv=>whnf);refine jL q.cells (k:=0) rfl ?_;(conv=>whnf);refine lR [1,16,17,18] (fun (g:Nat) bm w'=>bm=[.pointer (some ⟨aw,0,none⟩),.slice a n c,.int .i64 n,.int .i64 g]/\g<=n/\(∀ i o,i<g->X[i]? = some o->Fx X o=true)/\AD a2 w') (fun g=>n - g) 0 ⟨rfl,om,fun i o ao=>by omega,AD.refl _⟩ ?_;rintro g br _ b4 ⟨rfl,bv,al,y⟩;have j:=xt z y;rcases Nat.lt_or_ge g n with bg | bg
    .obtain ⟨ay,ab⟩:=AA (l:=a8) (k:=g) om;obtain ⟨a3,ad,af⟩:=bd.get ab;have b2:=af.1.len;have x:=fun aq (r:AD w aq)=>Du (c:=ay.c) (af.1.ext r);cases ae:Ax a3
     .rw [ae] at x;rw [JB ad (Ru ae)];(conv=>whnf);refine iY ?_;(conv=>whnf);refine jI (aa.ext j) g rfl ab ?_;intro ag ap ak t;(conv=>whnf);refine jO t rfl ?_;(conv=>whnf);refine dH (pB [1,3,5,7,9,11,13,15,16,18,20,24,23,27,29,31,33]) ?_;(conv=>whnf);intro ar e;(conv=>whnf);refine (x _ (xt j e)).mono ?_;rintro _ au ⟨rfl,f⟩;(conv=>whnf);refine ⟨(xt e f),?_⟩;(conv=>whnf);exact ⟨rfl,(xt (xt j e) f)⟩
     .rw [ae] at x;rcases Nat.eq_zero_or_pos ay.n with a' | a'
      .have bj:a3=[]:=List.eq_nil_of_length_eq_zero om;have bh:∀ i o,i<g+1->X[i]? = some o->Fx X o=true:=fun i o ao u=>by
        by_cases r:i=g
        .subst r;rw [ad] at u;cases u;rw [bj];exact UT
        .exact al i o om u
       (conv=>whnf);refine iY ?_;(conv=>whnf);refine jI (aa.ext j) g rfl ab ?_;intro ag ap ak t;(conv=>whnf);refine jO t rfl ?_;(conv=>whnf);refine dH (pB [1,3,5,7,9,11,13,15,16,18,20,24,23,27,29,31,33]) ?_;(conv=>whnf);intro ar e;(conv=>whnf);refine (x _ (xt j e)).mono ?_;rintro _ au ⟨rfl,f⟩;(conv=>whnf);refine ⟨(xt e f),?_⟩;(conv=>whnf);refine ⟨(xt e f),?_⟩;(conv=>whnf);refine iN ?_;(conv=>whnf);refine jP (((g+1:Nat):Int)) ?_;(conv=>whnf);exact ⟨g+1,om,rfl,om,om,(xt (xt y e) f)⟩
      .obtain ⟨bi,aj,az⟩:=af.1;have bx:=aj.len;have b1:=az.1;obtain ⟨bq,an⟩:=AA (l:=bi) (k:=0) om;obtain ⟨a6,bf,a4⟩:=az.get an;have bu:=a4.1.len;have ac:=W1 (X:=X) ae bf;by_cases a1:a6.length=AH X
       .rw [decide_eq_true a1] at ac;have bh:∀ i o,i<g+1->X[i]? = some o->Fx X o=true:=fun i o ao u=>by
         by_cases r:i=g
         .subst r;rw [ad] at u;cases u;exact ac
         .exact al i o om u
        (conv=>whnf);refine iY ?_;(conv=>whnf);refine jI (aa.ext j) g rfl ab ?_;intro ag ap ak t;(conv=>whnf);refine jO t rfl ?_;(conv=>whnf);refine dH (pB [1,3,5,7,9,11,13,15,16,18,20,24,23,27,29,31,33]) ?_;(conv=>whnf);intro ar e;(conv=>whnf);refine dM (x _ (xt j e)) fun au f=>?_;(conv=>whnf);refine ⟨(xt e f),?_⟩;(conv=>whnf);refine ⟨(xt e f),?_⟩;(conv=>whnf);refine iY ?_;(conv=>whnf);refine dI (aj.ext j) 0 rfl an ?_;intro a5 bl be am;(conv=>whnf);refine dA (n:=1) am rfl ?_;(conv=>whnf);refine dA (n:=2) (q.ext y).cells rfl ?_;(conv=>whnf);refine (C4 _).mono ?_;rintro _ bn ⟨rfl,p⟩;(conv=>whnf);refine ⟨(xt (xt e f) p),?_⟩;(conv=>whnf);refine (a0 _ (xt (xt (xt j e) f) p)).mono ?_;rintro _ bo ⟨rfl,s⟩;(conv=>whnf);refine ⟨(xt (xt (xt e f) p) s),?_⟩;(conv=>whnf);with_reducible refine Ak (fun ai=>?_) (fun ai=>?_)
        ·(conv=>whnf);exact ⟨om,(xt (xt (xt (xt j e) f) p) s)⟩
        ·(conv=>whnf);refine jP (((g+1:Nat):Int)) ?_;(conv=>whnf);exact ⟨g+1,om,rfl,om,om,(xt (xt (xt (xt y e) f) p) s)⟩
       .rw [decide_eq_false a1] at ac;rw [JB ad ac];(conv=>whnf);refine iY ?_;(conv=>whnf);refine jI (aa.ext j) g rfl ab ?_;intro ag ap ak t;(conv=>whnf);refine jO t rfl ?_;(conv=>whnf);refine dH (pB [1,3,5,7,9,11,13,15,16,18,20,24,23,27,29,31,33]) ?_;(conv=>whnf);intro ar e;(conv=>whnf);refine dM (x _ (xt j e)) fun au f=>?_;(conv=>whnf);refine ⟨(xt e f),?_⟩;(conv=>whnf);refine ⟨(xt e f),?_⟩;(conv=>whnf);refine iY ?_;(conv=>whnf);refine dI (aj.ext j) 0 rfl an ?_;intro a5 bl be am;(conv=>whnf);refine dA (n:=1) am rfl ?_;(conv=>whnf);refine dA (n:=2) (q.ext y).cells rfl ?_;(conv=>whnf);refine dM (C4 _) fun bn p=>?_;(conv=>whnf);refine ⟨(xt (xt e f) p),?_⟩;(conv=>whnf);refine dM (a0 _ (xt (xt (xt j e) f) p)) fun bo s=>?_;(conv=>whnf);refine ⟨(xt (xt (xt e f) p) s),?_⟩;(conv=>whnf);with_reducible refine Ak (fun ai=>?_) (fun ai=>?_)
        ·(conv=>whnf);exact ⟨rfl,(xt (xt (xt (xt j e) f) p) s)⟩
        ·(conv=>whnf);refine jP (((g+1:Nat):Int)) ?_;(conv=>whnf);exact ⟨g+1,om,rfl,om,om,(xt (xt (xt (xt y e) f) p) s)⟩
    .rw [Pl (fun i o ao=>al i o om)];(conv=>whnf);refine iN ?_;(conv=>whnf);exact ⟨by simp_all,j⟩
  .rw [U2 ba];refine oV Tryz.func66 ?_;conv=>whnf
   refine AB.box ?_;intro aw a2 a7 bk z q;(conv=>whnf);refine jL q.cells (k:=0) rfl ?_;(conv=>whnf);with_reducible refine Ak (fun ah=>?_) (fun ah=>?_)
   ·(conv=>whnf);exact ⟨rfl,z⟩
   ·(conv=>whnf);refine jL q.cells (k:=1) rfl ?_;(conv=>whnf);refine iY ?_;(conv=>whnf);exact ⟨rfl,z⟩
 .rw [WQ bb];refine oV Tryz.func66 ?_;conv=>whnf
  refine AB.box ?_;intro bp b5 bt b3 ax av;(conv=>whnf);refine jL av.cells (k:=0) rfl ?_;(conv=>whnf);with_reducible refine Ak (fun bc=>?_) (fun bc=>?_)
  ·(conv=>whnf);exact ⟨rfl,ax⟩
  ·(conv=>whnf);refine jL av.cells (k:=1) rfl ?_;(conv=>whnf);refine iY ?_;(conv=>whnf);exact ⟨rfl,ax⟩
theorem PX (h:Ar DM w a n X) (hc:AK w q 0 ([.slice a n c,.slice b m d]++s)):Dq 61 [.pointer (some ⟨q,0,none⟩)] w (fun v w'=>v = .bool (Ap X m)/\AD w w'):=by
 have bt:=h.len;have br:=h.le;have ax:=fun ap (t:AD w ap)=>II (h.ext t) (hc.ext t);have a7:=h;obtain ⟨a6,p,a'⟩:=a7;have bp:=p.len;refine oV Tryz.func61 ?_;conv=>whnf
 refine lR [0,3] (fun (i:Nat) bj w'=>bj=[.pointer (some ⟨q,0,none⟩),.int .i64 i]/\i<=n/\(∀ j o,j<i->X[j]? = some o->Fx X o=true)/\AD w w') (fun i=>n - i) 0 ⟨rfl,om,fun j o an=>by omega,AD.refl _⟩ ?_;rintro i bm _ bw ⟨rfl,bo,aj,f⟩;rcases Nat.lt_or_ge i n with bd | bd
 .obtain ⟨av,r⟩:=AA (l:=a6) (k:=i) om;obtain ⟨a1,ac,ae⟩:=a'.get r;have bv:=ae.1.len;have z:=fun ap (t:AD w ap)=>DQ (c:=av.c) (ae.1.ext t);cases ad:Ax a1
  .rw [ad] at z;rw [JB ac (Ru ad)];(conv=>whnf);refine jL (hc.ext f) (k:=0) rfl ?_;(conv=>whnf);refine iY ?_;(conv=>whnf);refine dH (pB [0,2,4,6,9,11,13,15,17,19,20,22,24,26,29,31,33,35,37,39,40,42,44,46,48,50,52,54,56,58,60,63,65,67,69,71]) ?_;(conv=>whnf);intro aq e;(conv=>whnf);refine dL (hc.ext f) (k:=0) rfl ?_;(conv=>whnf);refine jI (p.ext (xt f e)) i rfl r ?_;intro af ao ai x;(conv=>whnf);refine ⟨e,?_⟩;(conv=>whnf);refine jO x rfl ?_;(conv=>whnf);refine ⟨e,?_⟩;(conv=>whnf);refine (z _ (xt f e)).mono ?_;rintro _ ar ⟨rfl,g⟩;(conv=>whnf);refine ⟨(xt e g),?_⟩;(conv=>whnf);exact ⟨rfl,(xt (xt f e) g)⟩
  .rw [ad] at z;rcases Nat.eq_zero_or_pos av.n with a8 | a8
   .have bg:a1=[]:=List.eq_nil_of_length_eq_zero om;have be:∀ j o,j<i+1->X[j]? = some o->Fx X o=true:=fun j o an y=>by
     by_cases t:j=i
     .subst t;rw [ac] at y;cases y;rw [bg];exact UT
     .exact aj j o om y
    (conv=>whnf);refine jL (hc.ext f) (k:=0) rfl ?_;(conv=>whnf);refine iY ?_;(conv=>whnf);refine dH (pB [0,2,4,6,9,11,13,15,17,19,20,22,24,26,29,31,33,35,37,39,40,42,44,46,48,50,52,54,56,58,60,63,65,67,69,71]) ?_;(conv=>whnf);intro aq e;(conv=>whnf);refine dL (hc.ext f) (k:=0) rfl ?_;(conv=>whnf);refine jI (p.ext (xt f e)) i rfl r ?_;intro af ao ai x;(conv=>whnf);refine ⟨e,?_⟩;(conv=>whnf);refine jO x rfl ?_;(conv=>whnf);refine ⟨e,?_⟩;(conv=>whnf);refine (z _ (xt f e)).mono ?_;rintro _ ar ⟨rfl,g⟩;(conv=>whnf);refine ⟨(xt e g),?_⟩;(conv=>whnf);refine dL (hc.ext f) (k:=0) rfl ?_;(conv=>whnf);refine jI (p.ext (xt (xt f e) g)) i rfl r ?_;intro au a0 ay aa;(conv=>whnf);refine ⟨(xt e g),?_⟩;(conv=>whnf);refine jO aa rfl ?_;(conv=>whnf);refine ⟨(xt e g),?_⟩;(conv=>whnf);refine ⟨(xt e g),?_⟩;(conv=>whnf);refine iN ?_;(conv=>whnf);refine jP (((i+1:Nat):Int)) ?_;(conv=>whnf);exact ⟨i+1,om,rfl,om,om,(xt (xt f e) g)⟩
   .obtain ⟨bf,ah,aw⟩:=ae.1;have bq:=ah.len;have bu:=aw.1;obtain ⟨bl,am⟩:=AA (l:=bf) (k:=0) om;obtain ⟨a5,bc,a2⟩:=aw.get am;have bn:=a2.1.len;have ab:=W1 (X:=X) ad bc;by_cases az:a5.length=AH X
    .rw [decide_eq_true az] at ab;have be:∀ j o,j<i+1->X[j]? = some o->Fx X o=true:=fun j o an y=>by
      by_cases t:j=i
      .subst t;rw [ac] at y;cases y;exact ab
      .exact aj j o om y
     (conv=>whnf);refine jL (hc.ext f) (k:=0) rfl ?_;(conv=>whnf);refine iY ?_;(conv=>whnf);refine dH (pB [0,2,4,6,9,11,13,15,17,19,20,22,24,26,29,31,33,35,37,39,40,42,44,46,48,50,52,54,56,58,60,63,65,67,69,71]) ?_;(conv=>whnf);intro aq e;(conv=>whnf);refine dL (hc.ext f) (k:=0) rfl ?_;(conv=>whnf);refine jI (p.ext (xt f e)) i rfl r ?_;intro af ao ai x;(conv=>whnf);refine ⟨e,?_⟩;(conv=>whnf);refine jO x rfl ?_;(conv=>whnf);refine ⟨e,?_⟩;(conv=>whnf);refine (z _ (xt f e)).mono ?_;rintro _ ar ⟨rfl,g⟩;(conv=>whnf);refine ⟨(xt e g),?_⟩;(conv=>whnf);refine dL (hc.ext f) (k:=0) rfl ?_;(conv=>whnf);refine jI (p.ext (xt (xt f e) g)) i rfl r ?_;intro au a0 ay aa;(conv=>whnf);refine ⟨(xt e g),?_⟩;(conv=>whnf);refine jO aa rfl ?_;(conv=>whnf);refine ⟨(xt e g),?_⟩;(conv=>whnf);refine ⟨(xt e g),?_⟩;(conv=>whnf);refine iY ?_;(conv=>whnf);refine dL (hc.ext f) (k:=0) rfl ?_;(conv=>whnf);refine dI (p.ext f) i rfl r ?_;intro a3 bh ba ak;(conv=>whnf);refine dO ak rfl ?_;(conv=>whnf);refine dI (ah.ext f) 0 rfl am ?_;intro a4 bi bb al;(conv=>whnf);refine dL al (k:=0) rfl ?_;(conv=>whnf);refine (ax _ (xt (xt f e) g)).mono ?_;rintro _ bk ⟨rfl,u⟩;(conv=>whnf);refine ⟨(xt (xt e g) u),?_⟩;(conv=>whnf);with_reducible refine Ak (fun ag=>?_) (fun ag=>?_)
     ·(conv=>whnf);exact ⟨om,(xt (xt (xt f e) g) u)⟩
     ·(conv=>whnf);refine jP (((i+1:Nat):Int)) ?_;(conv=>whnf);exact ⟨i+1,om,rfl,om,om,(xt (xt (xt f e) g) u)⟩
    .rw [decide_eq_false az] at ab;rw [JB ac ab];(conv=>whnf);refine jL (hc.ext f) (k:=0) rfl ?_;(conv=>whnf);refine iY ?_;(conv=>whnf);refine dH (pB [0,2,4,6,9,11,13,15,17,19,20,22,24,26,29,31,33,35,37,39,40,42,44,46,48,50,52,54,56,58,60,63,65,67,69,71]) ?_;(conv=>whnf);intro aq e;(conv=>whnf);refine dL (hc.ext f) (k:=0) rfl ?_;(conv=>whnf);refine jI (p.ext (xt f e)) i rfl r ?_;intro af ao ai x;(conv=>whnf);refine ⟨e,?_⟩;(conv=>whnf);refine jO x rfl ?_;(conv=>whnf);refine ⟨e,?_⟩;(conv=>whnf);refine (z _ (xt f e)).mono ?_;rintro _ ar ⟨rfl,g⟩;(conv=>whnf);refine ⟨(xt e g),?_⟩;(conv=>whnf);refine dL (hc.ext f) (k:=0) rfl ?_;(conv=>whnf);refine jI (p.ext (xt (xt f e) g)) i rfl r ?_;intro au a0 ay aa;(conv=>whnf);refine ⟨(xt e g),?_⟩;(conv=>whnf);refine jO aa rfl ?_;(conv=>whnf);refine ⟨(xt e g),?_⟩;(conv=>whnf);refine ⟨(xt e g),?_⟩;(conv=>whnf);refine iY ?_;(conv=>whnf);refine dL (hc.ext f) (k:=0) rfl ?_;(conv=>whnf);refine dI (p.ext f) i rfl r ?_;intro a3 bh ba ak;(conv=>whnf);refine dO ak rfl ?_;(conv=>whnf);refine dI (ah.ext f) 0 rfl am ?_;intro a4 bi bb al;(conv=>whnf);refine dL al (k:=0) rfl ?_;(conv=>whnf);refine dM (ax _ (xt (xt f e) g)) fun bk u=>?_;(conv=>whnf);refine ⟨(xt (xt e g) u),?_⟩;(conv=>whnf);with_reducible refine Ak (fun ag=>?_) (fun ag=>?_)
     ·(conv=>whnf);exact ⟨rfl,(xt (xt (xt f e) g) u)⟩
     ·(conv=>whnf);refine jP (((i+1:Nat):Int)) ?_;(conv=>whnf);exact ⟨i+1,om,rfl,om,om,(xt (xt (xt f e) g) u)⟩
 .rw [Pl (fun j o an=>aj j o om)];(conv=>whnf);refine jL (hc.ext f) (k:=0) rfl ?_;(conv=>whnf);refine iN ?_;(conv=>whnf);refine jL (hc.ext f) (k:=0) rfl ?_;(conv=>whnf);with_reducible refine AL (fun a9=>?_) (fun a9=>?_)
  ·(conv=>whnf);refine jL (hc.ext f) (k:=1) rfl ?_;(conv=>whnf);refine ⟨?_,f⟩
   .rw [decide_eq_true (show X.length=6 by omega),Bool.true_and];congr 1;exact decide_eq_decide.2 om
  ·(conv=>whnf);refine ⟨?_,f⟩
   .rw [decide_eq_false (show ¬ X.length=6 by omega),Bool.false_and]
theorem Ho (a:Option Addr) (n c:Nat) (w:World):Dq 133 [.slice a n c] w (fun v w'=>v = .int .i64 n/\w=w'):=by
 refine oV Tryz.func133 ?_;conv=>whnf
 exact ⟨rfl,rfl⟩
theorem QB {s:ByteArray} (h:Ar DM w a n X) (hs:s.size<=1048576) (hT:F7 w) (hEr:EP w) (hM:Dy w):Dq 29 [.agg #[.slice a n c,.slice b m d,.string s]] w (fun v w'=>v = .bool (Fe X m s)/\AD w w'):=by
 have r:=fun e (f:AD w e)=>Gd (c:=c) (b:=b) (m:=m) (d:=d) (h.ext f);have q:∀ e,AD w e->Dq 65 [.string s] e (fun v w'=>∃ a n c,v = .tuple #[.slice a n c,.int .i64 (Aj s)]/\AD e w'):=fun e f=>(MP hs (hT.ext f) (hEr.ext f) (hM.ext f)).mono (by
  rintro _ ae ⟨a,n,c,rfl,_,_,o⟩;rw [WU];exact ⟨a,n,c,rfl,o⟩)
 unfold Fe;generalize Ap X m=t at *;generalize Aj s=u at *;refine oV Tryz.func29 ?_;conv=>whnf
 refine AB.box ?_;intro y ad aa ab g j;(conv=>whnf);refine jL j.cells (k:=2) rfl ?_;(conv=>whnf);refine (q _ g).mono ?_;rintro _ af ⟨x,ac,z,rfl,i⟩;(conv=>whnf);refine jG (n:=2) (k:=0) (j.ext i).cells rfl ?_;(conv=>whnf);refine (r _ (xt g i)).mono ?_;rintro _ ag ⟨rfl,l⟩;(conv=>whnf);with_reducible refine BS (fun p=>?_) (fun p=>?_)
 ·(conv=>whnf);exact ⟨by simp [*],(xt (xt g i) l)⟩
 ·(conv=>whnf);exact ⟨by simp [*],(xt (xt g i) l)⟩
theorem IU (h:Ar DM w a n X) (h6:X.length=6) (hX:∀ x∈X,x.length<=40) (hT:F7 w):Dq 76 [.agg #[.slice a n c,.slice b m d]] w (fun v w'=>v = .string (C6 (At X))/\AD w w'):=by
 have bb:=h.len;have ba:=h.le;have a7:=JN X;have ap:=OR hX;obtain ⟨ak,r,am⟩:=h;have a':=r.len;refine oV Tryz.func76 ?_;conv=>whnf
 refine AB.box ?_;intro a1 u a5 be ah z;(conv=>whnf);refine bS B5 (vs:=[]) ?_;intro a2 bl aj bf q aa;have ad:=Ab (enc:=eI) AI aa aj;(conv=>whnf);refine jL (z.ext q).cells (k:=0) rfl ?_;(conv=>whnf);have a8:(At X).length=n:=om
 refine lR [3,8,9,10] (fun (e:Nat) ax w'=>∃ f i,ax=[.slice f e i,.slice a n c,.int .i64 n,.int .i64 e]/\e<=n/\Ai eI 1 u.heap.size 2 w' f e i ((At X).take e)/\AD u w') (fun e=>n - e) 0 ⟨_,_,rfl,om,ad,q⟩ ?_;rintro e a4 _ bh ⟨f,i,rfl,a9,g,p⟩;have hX:=xt ah p;rcases Nat.lt_or_ge e n with ar | ar
 .obtain ⟨o,s⟩:=AA (l:=ak) (k:=e) om;obtain ⟨x,au,ae⟩:=am.get s;have av:=ae.1.len;have aq:(At X).take (e+1)=(At X).take e++[(o.n:Int)]:=by
   rw [List.take_add_one,Mc au,av];rfl
  (conv=>whnf);refine iY ?_;(conv=>whnf);refine jI (r.ext hX) e rfl s ?_;intro az bg a6 ao;(conv=>whnf);refine jO ao rfl ?_;(conv=>whnf);refine (Ho _ _ _ _).mono ?_;rintro _ _ ⟨rfl,rfl⟩;(conv=>whnf);refine bS B5 (vs:=[Value.int IntKind.i64 ↑o.n]) ?_;intro a0 bj ai bd j y;have ab:=AG (n:=1) (enc:=eI) (xs:=[↑o.n]) AI y ai rfl dE;(conv=>whnf);refine AM (enc:=eI) B5 AI (g.ext j) (ab.own.arr AI) (by intro bm _;simp [eI,AE]) om om (Below.size (xt p j)) ?_;intro ay a3 bk ac aw bc;(conv=>whnf);refine jP (((e+1:Nat):Int)) ?_;(conv=>whnf);refine ⟨e+1,om,_,_,rfl,om,?_,(xm (xt p j) aw (AO g.new))⟩
  .rw [aq];exact ac
 .obtain rfl:e=n:=om
  rw [List.take_of_length_le om] at g;have an:=fun t c (al:A4 eI 1 t f e (At X)) (af:AD w t)=>MO (c:=c) al ap om (hT.ext af);(conv=>whnf);refine iN ?_;(conv=>whnf);refine dM (an _ _ (g.own.arr AI) hX) fun bi ag=>?_;(conv=>whnf);exact ⟨rfl,(xt hX ag)⟩
theorem Iz {s:ByteArray} (h:Ar DM w a n X) (hc:AK w q 0 [.slice a n c,.slice b m d,.string s]) (h6:X.length=6) (hX:∀ x∈X,x.length<=40):Dq 47 [.pointer (some ⟨q,0,none⟩)] w (fun v w'=>v = .string (C6 (At X))/\AD w w'):=by
 have az:=h.len;have ay:=h.le;have u:=JN X;have y:=OR hX;have ag:=WZ y;obtain ⟨ad,o,ae⟩:=h;have ax:=o.len;refine oV Tryz.func47 ?_;conv=>whnf
 refine lR [0,3,4] (fun (e:Nat) aq w'=>aq=[.pointer (some ⟨q,0,none⟩),.string (bs (jn ((At X).take e))),.int .i64 e]/\e<=n/\AD w w') (fun e=>n - e) 0 ⟨rfl,om,AD.refl _⟩ ?_;rintro e au _ a0 ⟨rfl,aw,hX⟩;have z:=ag e;rcases Nat.lt_or_ge e n with ak | ak
 .obtain ⟨j,r⟩:=AA (l:=ad) (k:=e) om;obtain ⟨x,am,aa⟩:=ae.get r;have an:=aa.1.len;have f:=Mc am;rw [an] at f;have g:BM (j.n:Int):=y _ (List.mem_of_getElem? f);have av:=Bc g.1 g.2;by_cases ai:0<e
  .have t:bs (jn ((At X).take (e+1)))=bs (jn ((At X).take e))++{ data := #[32] }++BP (j.n:Int):=by
    rw [Tm f ai];apply CV;simp [bs,BP]
   have ah:(bs (jn ((At X).take e))).size<=22 * e:=by rw [AV];exact z
   (conv=>whnf);refine jL (hc.ext hX) (k:=0) rfl ?_;(conv=>whnf);refine iY ?_;(conv=>whnf);refine iY ?_;(conv=>whnf);refine Ao (by simp only [ByteArray.size_append,AV,CO,CZ,List.length_cons,List.length_nil];omega) ?_;(conv=>whnf);refine jL (hc.ext hX) (k:=0) rfl ?_;(conv=>whnf);refine jI (o.ext hX) e rfl r ?_;intro ab ap af p;(conv=>whnf);refine jO p rfl ?_;(conv=>whnf);refine dM (B7 g _) fun ar i=>?_;(conv=>whnf);refine Ao (by simp only [ByteArray.size_append,AV,CO,CZ,List.length_cons,List.length_nil];omega) ?_;(conv=>whnf);refine jP (((e+1:Nat):Int)) ?_;(conv=>whnf);exact ⟨e+1,om,by rw [t];rfl,om,xt hX i⟩
  .have aj:e=0:=om
   subst aj;have t:bs (jn ((At X).take (0+1)))=bs (jn ((At X).take 0))++BP (j.n:Int):=by
    rw [List.take_add_one,f];simp only [List.take_zero,List.nil_append,Option.toList_some,Tn,WY];apply CV;simp [bs,BP]
   have ah:(bs (jn ((At X).take 0))).size<=22 * 0:=by rw [AV];exact z
   (conv=>whnf);refine jL (hc.ext hX) (k:=0) rfl ?_;(conv=>whnf);refine iY ?_;(conv=>whnf);refine jL (hc.ext hX) (k:=0) rfl ?_;(conv=>whnf);refine jI (o.ext hX) 0 rfl r ?_;intro ab ap af p;(conv=>whnf);refine jL p (k:=0) rfl ?_;(conv=>whnf);refine dM (B7 g _) fun ar i=>?_;(conv=>whnf);refine Ao om ?_;(conv=>whnf);refine jP (((0+1:Nat):Int)) ?_;(conv=>whnf);exact ⟨0+1,om,by rw [t];rfl,om,xt hX i⟩
 .obtain rfl:e=n:=om
  rw [List.take_of_length_le om];have ao:¬ At X=[]:=fun ac=>by rw [ac] at u;simp at u;omega
  have al:C6 (At X)=bs (jn (At X)):=by unfold C6;rw [if_neg ao]
  rw [al];(conv=>whnf);refine jL (hc.ext hX) (k:=0) rfl ?_;(conv=>whnf);refine iN ?_;(conv=>whnf);exact ⟨rfl,hX⟩
end Go.Proofs.YtalgenmoljcnmaaGreatDoor
