/- Parts of the proof; no conditions of its own. -/
import Derived.Test.YtalgenmoljcnmaaGreatDoorCardW
import Derived.Test.YtalgenmoljcnmaaGreatDoorJourR
import Derived.Test.YtalgenmoljcnmaaGreatDoorStab
import Derived.Test.YtalgenmoljcnmaaGreatDoorFTotal
import Derived.Test.YtalgenmoljcnmaaGreatDoorVcWrite
namespace Go.M
open Go Go.Vc
variable {X:List (List (List Int))} {d:List (List Int)} {m k:Nat}
def AG:List (List (List Int))->Nat
 | []=>20
 | [] :: l=>AG l
 | (c :: _) :: _=>c.length
theorem Kc:∀ {X:List (List (List Int))} {k:Nat} {x:List (List Int)} {c:List Int},(∀ i y,i<k->X[i]? = some y->y=[])->X[k]? = some x->x[0]? = some c->AG X=c.length
 | [],_,_,_,_,h,_=>by simp at h
 | y :: l,0,x,c,_,h,hc=>by
  simp at h;subst h;cases y with
  | nil=>simp at hc
  | cons a f=>simp at hc;subst hc;rfl
 | y :: l,k+1,x,c,he,h,hc=>by
  have b:y=[]:=he 0 y om rfl;subst b;show AG l=c.length;exact Kc (k:=k) (fun i a e d=>he (i+1) a om (by simpa using d)) (by simpa using h) hc
theorem Ip:∀ {X:List (List (List Int))},(∀ i y,i<X.length->X[i]? = some y->y=[])->AG X=20
 | [],_=>rfl
 | y :: l,he=>by
  have hy:y=[]:=he 0 y sI rfl;subst hy;exact Ip (X:=l) (fun i b c a=>he (i+1) b sW (by simpa using a))
def GB (X:List (List (List Int))) (d:List (List Int)):Bool:=A2 d && (decide (d=[]) || decide ((d.headD []).length=AG X))
def Aq (X:List (List (List Int))) (m:Nat):Bool:=X.all (GB X) && decide (X.length=6) && decide (m<=20)
theorem S0 (h:A2 d=false):GB X d=false:=by simp [GB,h]
theorem VN:GB X []=true:=by simp [GB,A2]
theorem Xv {c:List Int} (h:A2 d=true) (hc:d[0]? = some c):GB X d=decide (c.length=AG X):=by
 cases d with
 | nil=>simp at hc
 | cons b a=>simp at hc;subst hc;simp [GB,h]
theorem Jb (hd:X[k]? = some d) (h:GB X d=false):Aq X m=false:=by
 have:X.all (GB X)=false:=by
  rw [List.all_eq_false];exact ⟨d,List.mem_of_getElem? hd,by simp [h]⟩
 simp [Aq,this]
theorem QT (h:∀ i d,i<X.length->X[i]? = some d->GB X d=true):Aq X m=(decide (X.length=6) && decide (m<=20)):=by
 have:X.all (GB X)=true:=by
  rw [List.all_eq_true];intro d b;obtain ⟨i,a⟩:=List.mem_iff_getElem?.1 b;exact h i d (List.getElem?_eq_some_iff.1 a).1 a
 simp [Aq,this]
theorem XL (h:¬ X.length=6):Aq X m=false:=by simp [Aq,h]
theorem Vw (h:¬ m<=20):Aq X m=false:=by simp [Aq,h]
theorem XM (h:Aq X m=true):X.length=6/\∀ d∈X,A2 d=true:=by
 simp only [Aq,Bool.and_eq_true,decide_eq_true_eq,List.all_eq_true] at h;refine ⟨h.1.2,fun d a=>?_⟩;have:=h.1.1 d a;simp only [GB,Bool.and_eq_true] at this;exact this.1
def At (X:List (List (List Int))):List Int:=X.map fun d=>(d.length:Int)
def FP (X:List (List (List Int))) (m:Nat) (s:ByteArray):Bool:=Aq X m && decide (Aj s=0)
theorem XP (s:ByteArray):(BZ s).2.2=Aj s:=by
 unfold BZ;split
 .rename_i a;exact a.symm
 .rfl
theorem NL (h:X[k]? = some d):(At X)[k]? = some (d.length:Int):=by simp [At,h]
theorem Jo (X:List (List (List Int))):(At X).length=X.length:=by simp [At]
theorem PA (h:∀ d∈X,d.length<=40):∀ x∈At X,BH x:=by
 intro x b;obtain ⟨d,a,rfl⟩:=List.mem_map.1 b;have:=h d a;unfold BH;omega
end Go.M
namespace Go.Proofs.YtalgenmoljcnmaaGreatDoor
open Go Go.Shelf Go.Proofs Go.RowKit Go.Vc Go.M
variable {w:World} {a b:Option Addr} {n c m d q:Nat} {X:List (List (List Int))} {s:ByteArray}
theorem H5 (h:Ac CA w a n X):Dq 123 [.agg #[.slice a n c,.slice b m d]] w (fun v w'=>v = .int .i64 (AG X)/\AD w w'):=by
 have a6:=h.len;have a5:=h.le;obtain ⟨ah,j,aj⟩:=h;have a3:=j.len;refine oV Tryz.func123 ?_;conv=>whnf
 refine AB.box ?_;intro av bb t a' af ab;(conv=>whnf);refine jL ab.cells (k:=0) rfl ?_;(conv=>whnf);refine lR [6,7,8] (fun (e:Nat) ar w'=>ar=[.slice a n c,.int .i64 n,.int .i64 e]/\e<=n/\(∀ f g,f<e->X[f]? = some g->g=[])/\AD w w') (fun e=>n - e) 0 ⟨rfl,om,fun f g z=>by omega,af⟩ ?_;rintro e az _ bc ⟨rfl,a2,o,i⟩;rcases Nat.lt_or_ge e n with an | an
 .obtain ⟨t,q⟩:=AA (l:=ah) (k:=e) om;obtain ⟨au,aa,s⟩:=aj.get q;have a9:=s.1.len;rcases Nat.eq_zero_or_pos t.n with ai | ai
  .have ap:au=[]:=List.eq_nil_of_length_eq_zero om;have a8:∀ f g,f<e+1->X[f]? = some g->g=[]:=fun f g z r=>by
    by_cases ae:f=e
    .subst ae;rw [aa] at r;cases r;exact ap
    .exact o f g om r
   (conv=>whnf);refine iY ?_;(conv=>whnf);refine jI (j.ext i) e rfl q ?_;intro ad aq ak p;(conv=>whnf);refine jO p rfl ?_;(conv=>whnf);refine iN ?_;(conv=>whnf);refine jP (((e+1:Nat):Int)) ?_;(conv=>whnf);exact ⟨e+1,om,rfl,om,om,i⟩
  .obtain ⟨ao,x,u⟩:=s.1;have a4:=x.len;have a7:=u.1;obtain ⟨ay,y⟩:=AA (l:=ao) (k:=0) om;obtain ⟨ax,am,ac⟩:=u.get y;have a1:=ac.1.len;rw [Kc o aa am];(conv=>whnf);refine iY ?_;(conv=>whnf);refine jI (j.ext i) e rfl q ?_;intro ad aq ak p;(conv=>whnf);refine jO p rfl ?_;(conv=>whnf);refine iY ?_;(conv=>whnf);refine jI (x.ext i) 0 rfl y ?_;intro aw ba a0 al;(conv=>whnf);refine jA (n:=1) al rfl ?_;(conv=>whnf);refine dM (C9 _) fun bd ag=>?_;(conv=>whnf);exact ⟨by simp only [*],(xt i ag)⟩
 .rw [Ip (fun f g z=>o f g om)];(conv=>whnf);refine iN ?_;(conv=>whnf);exact ⟨rfl,i⟩
theorem Ij {s:List Value} (h:Ac CA w a n X) (hc:AK w q 0 ([.slice a n c,.slice b m d]++s)):Dq 118 [.pointer (some ⟨q,0,none⟩)] w (fun v w'=>v = .int .i64 (AG X)/\AD w w'):=by
 have a7:=h.len;have a6:=h.le;obtain ⟨ag,j,ai⟩:=h;have a4:=j.len;refine oV Tryz.func118 ?_;conv=>whnf
 refine lR [0,3] (fun (e:Nat) ar w'=>ar=[.pointer (some ⟨q,0,none⟩),.int .i64 e]/\e<=n/\(∀ g i,g<e->X[g]? = some i->i=[])/\AD w w') (fun e=>n - e) 0 ⟨rfl,om,fun g i aa=>by omega,AD.refl _⟩ ?_;rintro e az _ bc ⟨rfl,a3,p,f⟩;rcases Nat.lt_or_ge e n with an | an
 .obtain ⟨af,o⟩:=AA (l:=ag) (k:=e) om;obtain ⟨au,ab,u⟩:=ai.get o;have a':=u.1.len;rcases Nat.eq_zero_or_pos af.n with ah | ah
  .have ap:au=[]:=List.eq_nil_of_length_eq_zero om;have a9:∀ g i,g<e+1->X[g]? = some i->i=[]:=fun g i aa t=>by
    by_cases ae:g=e
    .subst ae;rw [ab] at t;cases t;exact ap
    .exact p g i om t
   (conv=>whnf);refine jL (hc.ext f) (k:=0) rfl ?_;(conv=>whnf);refine iY ?_;(conv=>whnf);refine jL (hc.ext f) (k:=0) rfl ?_;(conv=>whnf);refine jI (j.ext f) e rfl o ?_;intro ad aq aj r;(conv=>whnf);refine jO r rfl ?_;(conv=>whnf);refine iN ?_;(conv=>whnf);refine jP (((e+1:Nat):Int)) ?_;(conv=>whnf);exact ⟨e+1,om,rfl,om,om,f⟩
  .obtain ⟨ao,y,x⟩:=u.1;have a5:=y.len;have a8:=x.1;obtain ⟨ay,z⟩:=AA (l:=ao) (k:=0) om;obtain ⟨ax,am,ac⟩:=x.get z;have a2:=ac.1.len;rw [Kc p ab am];(conv=>whnf);refine jL (hc.ext f) (k:=0) rfl ?_;(conv=>whnf);refine iY ?_;(conv=>whnf);refine jL (hc.ext f) (k:=0) rfl ?_;(conv=>whnf);refine jI (j.ext f) e rfl o ?_;intro ad aq aj r;(conv=>whnf);refine jO r rfl ?_;(conv=>whnf);refine iY ?_;(conv=>whnf);refine jL (hc.ext f) (k:=0) rfl ?_;(conv=>whnf);refine jI (j.ext f) e rfl o ?_;intro av ba a0 ak;(conv=>whnf);refine jO ak rfl ?_;(conv=>whnf);refine jI (y.ext f) 0 rfl z ?_;intro aw bb a1 al;(conv=>whnf);refine jL al (k:=0) rfl ?_;(conv=>whnf);exact ⟨by simp only [*],f⟩
 .rw [Ip (fun g i aa=>p g i om)];(conv=>whnf);refine jL (hc.ext f) (k:=0) rfl ?_;(conv=>whnf);refine iN ?_;(conv=>whnf);exact ⟨rfl,f⟩
theorem Gu (h:Ac CA w a n X):Dq 66 [.agg #[.slice a n c,.slice b m d]] w (fun v w'=>v = .bool (Aq X m)/\AD w w'):=by
 have b0:=h.len;have bz:=h.le;have a0:=fun aq (r:AD w aq)=>H5 (c:=c) (b:=b) (m:=m) (d:=d) (h.ext r);have a9:=h;obtain ⟨a8,aa,bd⟩:=a9;have bw:=aa.len;by_cases bb:X.length=6
 .by_cases ba:m<=20
  .refine oV Tryz.func66 ?_;conv=>whnf
   refine AB.box ?_;intro aw a2 a7 bk z q;(conv=>whnf);refine jL q.cells (k:=0) rfl ?_;(conv=>whnf);with_reducible refine AW (fun ah=>?_) (fun ah=>?_)
   ·(conv=>whnf);exact ⟨om,z⟩
   ·(conv=>whnf);refine jL q.cells (k:=1) rfl ?_;(conv=>whnf);refine iN ?_;(conv=>whnf);refine jL q.cells (k:=0) rfl ?_;(conv=>whnf);refine lR [1,16,17,18] (fun (g:Nat) bm w'=>bm=[.pointer (some ⟨aw,0,none⟩),.slice a n c,.int .i64 n,.int .i64 g]/\g<=n/\(∀ i o,i<g->X[i]? = some o->GB X o=true)/\AD a2 w') (fun g=>n - g) 0 ⟨rfl,om,fun i o ao=>by omega,AD.refl _⟩ ?_;rintro g br _ b4 ⟨rfl,bv,al,y⟩;have j:=xt z y;rcases Nat.lt_or_ge g n with bg | bg
    .obtain ⟨ay,ab⟩:=AA (l:=a8) (k:=g) om;obtain ⟨a3,ad,af⟩:=bd.get ab;have b2:=af.1.len;have x:=fun aq (r:AD w aq)=>Dy (c:=ay.c) (af.1.ext r);cases ae:A2 a3
     .rw [ae] at x;rw [Jb ad (S0 ae)];(conv=>whnf);refine iY ?_;(conv=>whnf);refine jI (aa.ext j) g rfl ab ?_;intro ag ap ak t;(conv=>whnf);refine jO t rfl ?_;(conv=>whnf);refine dH (pB [1,3,5,7,9,11,13,15,16,18,20,24,23,27,29,31,33]) ?_;(conv=>whnf);intro ar e;(conv=>whnf);refine (x _ (xt j e)).mono ?_;rintro _ au ⟨rfl,f⟩;(conv=>whnf);refine ⟨(xt e f),?_⟩;(conv=>whnf);exact ⟨rfl,(xt (xt j e) f)⟩
     .rw [ae] at x;rcases Nat.eq_zero_or_pos ay.n with a' | a'
      .have bj:a3=[]:=List.eq_nil_of_length_eq_zero om;have bh:∀ i o,i<g+1->X[i]? = some o->GB X o=true:=fun i o ao u=>by
        by_cases r:i=g
        .subst r;rw [ad] at u;cases u;rw [bj];exact VN
        .exact al i o om u
       (conv=>whnf);refine iY ?_;(conv=>whnf);refine jI (aa.ext j) g rfl ab ?_;intro ag ap ak t;(conv=>whnf);refine jO t rfl ?_;(conv=>whnf);refine dH (pB [1,3,5,7,9,11,13,15,16,18,20,24,23,27,29,31,33]) ?_;(conv=>whnf);intro ar e;(conv=>whnf);refine (x _ (xt j e)).mono ?_;rintro _ au ⟨rfl,f⟩;(conv=>whnf);refine ⟨(xt e f),?_⟩;(conv=>whnf);refine ⟨(xt e f),?_⟩;(conv=>whnf);refine iN ?_;(conv=>whnf);refine jP (((g+1:Nat):Int)) ?_;(conv=>whnf);exact ⟨g+1,om,rfl,om,om,(xt (xt y e) f)⟩
      .obtain ⟨bi,aj,az⟩:=af.1;have bx:=aj.len;have b1:=az.1;obtain ⟨bq,an⟩:=AA (l:=bi) (k:=0) om;obtain ⟨a6,bf,a4⟩:=az.get an;have bu:=a4.1.len;have ac:=Xv (X:=X) ae bf;by_cases a1:a6.length=AG X
       .rw [decide_eq_true a1] at ac;have bh:∀ i o,i<g+1->X[i]? = some o->GB X o=true:=fun i o ao u=>by
         by_cases r:i=g
         .subst r;rw [ad] at u;cases u;exact ac
         .exact al i o om u
        (conv=>whnf);refine iY ?_;(conv=>whnf);refine jI (aa.ext j) g rfl ab ?_;intro ag ap ak t;(conv=>whnf);refine jO t rfl ?_;(conv=>whnf);refine dH (pB [1,3,5,7,9,11,13,15,16,18,20,24,23,27,29,31,33]) ?_;(conv=>whnf);intro ar e;(conv=>whnf);refine dM (x _ (xt j e)) fun au f=>?_;(conv=>whnf);refine ⟨(xt e f),?_⟩;(conv=>whnf);refine ⟨(xt e f),?_⟩;(conv=>whnf);refine iY ?_;(conv=>whnf);refine dI (aj.ext j) 0 rfl an ?_;intro a5 bl be am;(conv=>whnf);refine dA (n:=1) am rfl ?_;(conv=>whnf);refine dA (n:=2) (q.ext y).cells rfl ?_;(conv=>whnf);refine (C9 _).mono ?_;rintro _ bn ⟨rfl,p⟩;(conv=>whnf);refine ⟨(xt (xt e f) p),?_⟩;(conv=>whnf);refine (a0 _ (xt (xt (xt j e) f) p)).mono ?_;rintro _ bo ⟨rfl,s⟩;(conv=>whnf);refine ⟨(xt (xt (xt e f) p) s),?_⟩;(conv=>whnf);with_reducible refine AW (fun ai=>?_) (fun ai=>?_)
        ·(conv=>whnf);exact ⟨om,(xt (xt (xt (xt j e) f) p) s)⟩
        ·(conv=>whnf);refine jP (((g+1:Nat):Int)) ?_;(conv=>whnf);exact ⟨g+1,om,rfl,om,om,(xt (xt (xt (xt y e) f) p) s)⟩
       .rw [decide_eq_false a1] at ac;rw [Jb ad ac];(conv=>whnf);refine iY ?_;(conv=>whnf);refine jI (aa.ext j) g rfl ab ?_;intro ag ap ak t;(conv=>whnf);refine jO t rfl ?_;(conv=>whnf);refine dH (pB [1,3,5,7,9,11,13,15,16,18,20,24,23,27,29,31,33]) ?_;(conv=>whnf);intro ar e;(conv=>whnf);refine dM (x _ (xt j e)) fun au f=>?_;(conv=>whnf);refine ⟨(xt e f),?_⟩;(conv=>whnf);refine ⟨(xt e f),?_⟩;(conv=>whnf);refine iY ?_;(conv=>whnf);refine dI (aj.ext j) 0 rfl an ?_;intro a5 bl be am;(conv=>whnf);refine dA (n:=1) am rfl ?_;(conv=>whnf);refine dA (n:=2) (q.ext y).cells rfl ?_;(conv=>whnf);refine dM (C9 _) fun bn p=>?_;(conv=>whnf);refine ⟨(xt (xt e f) p),?_⟩;(conv=>whnf);refine dM (a0 _ (xt (xt (xt j e) f) p)) fun bo s=>?_;(conv=>whnf);refine ⟨(xt (xt (xt e f) p) s),?_⟩;(conv=>whnf);with_reducible refine AW (fun ai=>?_) (fun ai=>?_)
        ·(conv=>whnf);exact ⟨rfl,(xt (xt (xt (xt j e) f) p) s)⟩
        ·(conv=>whnf);refine jP (((g+1:Nat):Int)) ?_;(conv=>whnf);exact ⟨g+1,om,rfl,om,om,(xt (xt (xt (xt y e) f) p) s)⟩
    .rw [QT (fun i o ao=>al i o om)];(conv=>whnf);refine iN ?_;(conv=>whnf);exact ⟨by simp_all,j⟩
  .rw [Vw ba];refine oV Tryz.func66 ?_;conv=>whnf
   refine AB.box ?_;intro aw a2 a7 bk z q;(conv=>whnf);refine jL q.cells (k:=0) rfl ?_;(conv=>whnf);with_reducible refine AW (fun ah=>?_) (fun ah=>?_)
   ·(conv=>whnf);exact ⟨rfl,z⟩
   ·(conv=>whnf);refine jL q.cells (k:=1) rfl ?_;(conv=>whnf);refine iY ?_;(conv=>whnf);exact ⟨rfl,z⟩
 .rw [XL bb];refine oV Tryz.func66 ?_;conv=>whnf
  refine AB.box ?_;intro bp b5 bt b3 ax av;(conv=>whnf);refine jL av.cells (k:=0) rfl ?_;(conv=>whnf);with_reducible refine AW (fun bc=>?_) (fun bc=>?_)
  ·(conv=>whnf);exact ⟨rfl,ax⟩
  ·(conv=>whnf);refine jL av.cells (k:=1) rfl ?_;(conv=>whnf);refine iY ?_;(conv=>whnf);exact ⟨rfl,ax⟩
theorem L4 {s:List Value} (h:Ac CA w a n X) (hc:AK w q 0 ([.slice a n c,.slice b m d]++s)):Dq 61 [.pointer (some ⟨q,0,none⟩)] w (fun v w'=>v = .bool (Aq X m)/\AD w w'):=by
 have bt:=h.len;have br:=h.le;have ax:=fun ap (t:AD w ap)=>Ij (h.ext t) (hc.ext t);have a7:=h;obtain ⟨a6,p,a'⟩:=a7;have bp:=p.len;refine oV Tryz.func61 ?_;conv=>whnf
 refine lR [0,3] (fun (i:Nat) bj w'=>bj=[.pointer (some ⟨q,0,none⟩),.int .i64 i]/\i<=n/\(∀ j o,j<i->X[j]? = some o->GB X o=true)/\AD w w') (fun i=>n - i) 0 ⟨rfl,om,fun j o an=>by omega,AD.refl _⟩ ?_;rintro i bm _ bw ⟨rfl,bo,aj,f⟩;rcases Nat.lt_or_ge i n with bd | bd
 .obtain ⟨av,r⟩:=AA (l:=a6) (k:=i) om;obtain ⟨a1,ac,ae⟩:=a'.get r;have bv:=ae.1.len;have z:=fun ap (t:AD w ap)=>DW (c:=av.c) (ae.1.ext t);cases ad:A2 a1
  .rw [ad] at z;rw [Jb ac (S0 ad)];(conv=>whnf);refine jL (hc.ext f) (k:=0) rfl ?_;(conv=>whnf);refine iY ?_;(conv=>whnf);refine dH (pB [0,2,4,6,9,11,13,15,17,19,20,22,24,26,29,31,33,35,37,39,40,42,44,46,48,50,52,54,56,58,60,63,65,67,69,71]) ?_;(conv=>whnf);intro aq e;(conv=>whnf);refine dL (hc.ext f) (k:=0) rfl ?_;(conv=>whnf);refine jI (p.ext (xt f e)) i rfl r ?_;intro af ao ai x;(conv=>whnf);refine ⟨e,?_⟩;(conv=>whnf);refine jO x rfl ?_;(conv=>whnf);refine ⟨e,?_⟩;(conv=>whnf);refine (z _ (xt f e)).mono ?_;rintro _ ar ⟨rfl,g⟩;(conv=>whnf);refine ⟨(xt e g),?_⟩;(conv=>whnf);exact ⟨rfl,(xt (xt f e) g)⟩
  .rw [ad] at z;rcases Nat.eq_zero_or_pos av.n with a8 | a8
   .have bg:a1=[]:=List.eq_nil_of_length_eq_zero om;have be:∀ j o,j<i+1->X[j]? = some o->GB X o=true:=fun j o an y=>by
     by_cases t:j=i
     .subst t;rw [ac] at y;cases y;rw [bg];exact VN
     .exact aj j o om y
    (conv=>whnf);refine jL (hc.ext f) (k:=0) rfl ?_;(conv=>whnf);refine iY ?_;(conv=>whnf);refine dH (pB [0,2,4,6,9,11,13,15,17,19,20,22,24,26,29,31,33,35,37,39,40,42,44,46,48,50,52,54,56,58,60,63,65,67,69,71]) ?_;(conv=>whnf);intro aq e;(conv=>whnf);refine dL (hc.ext f) (k:=0) rfl ?_;(conv=>whnf);refine jI (p.ext (xt f e)) i rfl r ?_;intro af ao ai x;(conv=>whnf);refine ⟨e,?_⟩;(conv=>whnf);refine jO x rfl ?_;(conv=>whnf);refine ⟨e,?_⟩;(conv=>whnf);refine (z _ (xt f e)).mono ?_;rintro _ ar ⟨rfl,g⟩;(conv=>whnf);refine ⟨(xt e g),?_⟩;(conv=>whnf);refine dL (hc.ext f) (k:=0) rfl ?_;(conv=>whnf);refine jI (p.ext (xt (xt f e) g)) i rfl r ?_;intro au a0 ay aa;(conv=>whnf);refine ⟨(xt e g),?_⟩;(conv=>whnf);refine jO aa rfl ?_;(conv=>whnf);refine ⟨(xt e g),?_⟩;(conv=>whnf);refine ⟨(xt e g),?_⟩;(conv=>whnf);refine iN ?_;(conv=>whnf);refine jP (((i+1:Nat):Int)) ?_;(conv=>whnf);exact ⟨i+1,om,rfl,om,om,(xt (xt f e) g)⟩
   .obtain ⟨bf,ah,aw⟩:=ae.1;have bq:=ah.len;have bu:=aw.1;obtain ⟨bl,am⟩:=AA (l:=bf) (k:=0) om;obtain ⟨a5,bc,a2⟩:=aw.get am;have bn:=a2.1.len;have ab:=Xv (X:=X) ad bc;by_cases az:a5.length=AG X
    .rw [decide_eq_true az] at ab;have be:∀ j o,j<i+1->X[j]? = some o->GB X o=true:=fun j o an y=>by
      by_cases t:j=i
      .subst t;rw [ac] at y;cases y;exact ab
      .exact aj j o om y
     (conv=>whnf);refine jL (hc.ext f) (k:=0) rfl ?_;(conv=>whnf);refine iY ?_;(conv=>whnf);refine dH (pB [0,2,4,6,9,11,13,15,17,19,20,22,24,26,29,31,33,35,37,39,40,42,44,46,48,50,52,54,56,58,60,63,65,67,69,71]) ?_;(conv=>whnf);intro aq e;(conv=>whnf);refine dL (hc.ext f) (k:=0) rfl ?_;(conv=>whnf);refine jI (p.ext (xt f e)) i rfl r ?_;intro af ao ai x;(conv=>whnf);refine ⟨e,?_⟩;(conv=>whnf);refine jO x rfl ?_;(conv=>whnf);refine ⟨e,?_⟩;(conv=>whnf);refine (z _ (xt f e)).mono ?_;rintro _ ar ⟨rfl,g⟩;(conv=>whnf);refine ⟨(xt e g),?_⟩;(conv=>whnf);refine dL (hc.ext f) (k:=0) rfl ?_;(conv=>whnf);refine jI (p.ext (xt (xt f e) g)) i rfl r ?_;intro au a0 ay aa;(conv=>whnf);refine ⟨(xt e g),?_⟩;(conv=>whnf);refine jO aa rfl ?_;(conv=>whnf);refine ⟨(xt e g),?_⟩;(conv=>whnf);refine ⟨(xt e g),?_⟩;(conv=>whnf);refine iY ?_;(conv=>whnf);refine dL (hc.ext f) (k:=0) rfl ?_;(conv=>whnf);refine dI (p.ext f) i rfl r ?_;intro a3 bh ba ak;(conv=>whnf);refine dO ak rfl ?_;(conv=>whnf);refine dI (ah.ext f) 0 rfl am ?_;intro a4 bi bb al;(conv=>whnf);refine dL al (k:=0) rfl ?_;(conv=>whnf);refine (ax _ (xt (xt f e) g)).mono ?_;rintro _ bk ⟨rfl,u⟩;(conv=>whnf);refine ⟨(xt (xt e g) u),?_⟩;(conv=>whnf);with_reducible refine AW (fun ag=>?_) (fun ag=>?_)
     ·(conv=>whnf);exact ⟨om,(xt (xt (xt f e) g) u)⟩
     ·(conv=>whnf);refine jP (((i+1:Nat):Int)) ?_;(conv=>whnf);exact ⟨i+1,om,rfl,om,om,(xt (xt (xt f e) g) u)⟩
    .rw [decide_eq_false az] at ab;rw [Jb ac ab];(conv=>whnf);refine jL (hc.ext f) (k:=0) rfl ?_;(conv=>whnf);refine iY ?_;(conv=>whnf);refine dH (pB [0,2,4,6,9,11,13,15,17,19,20,22,24,26,29,31,33,35,37,39,40,42,44,46,48,50,52,54,56,58,60,63,65,67,69,71]) ?_;(conv=>whnf);intro aq e;(conv=>whnf);refine dL (hc.ext f) (k:=0) rfl ?_;(conv=>whnf);refine jI (p.ext (xt f e)) i rfl r ?_;intro af ao ai x;(conv=>whnf);refine ⟨e,?_⟩;(conv=>whnf);refine jO x rfl ?_;(conv=>whnf);refine ⟨e,?_⟩;(conv=>whnf);refine (z _ (xt f e)).mono ?_;rintro _ ar ⟨rfl,g⟩;(conv=>whnf);refine ⟨(xt e g),?_⟩;(conv=>whnf);refine dL (hc.ext f) (k:=0) rfl ?_;(conv=>whnf);refine jI (p.ext (xt (xt f e) g)) i rfl r ?_;intro au a0 ay aa;(conv=>whnf);refine ⟨(xt e g),?_⟩;(conv=>whnf);refine jO aa rfl ?_;(conv=>whnf);refine ⟨(xt e g),?_⟩;(conv=>whnf);refine ⟨(xt e g),?_⟩;(conv=>whnf);refine iY ?_;(conv=>whnf);refine dL (hc.ext f) (k:=0) rfl ?_;(conv=>whnf);refine dI (p.ext f) i rfl r ?_;intro a3 bh ba ak;(conv=>whnf);refine dO ak rfl ?_;(conv=>whnf);refine dI (ah.ext f) 0 rfl am ?_;intro a4 bi bb al;(conv=>whnf);refine dL al (k:=0) rfl ?_;(conv=>whnf);refine dM (ax _ (xt (xt f e) g)) fun bk u=>?_;(conv=>whnf);refine ⟨(xt (xt e g) u),?_⟩;(conv=>whnf);with_reducible refine AW (fun ag=>?_) (fun ag=>?_)
     ·(conv=>whnf);exact ⟨rfl,(xt (xt (xt f e) g) u)⟩
     ·(conv=>whnf);refine jP (((i+1:Nat):Int)) ?_;(conv=>whnf);exact ⟨i+1,om,rfl,om,om,(xt (xt (xt f e) g) u)⟩
 .rw [QT (fun j o an=>aj j o om)];(conv=>whnf);refine jL (hc.ext f) (k:=0) rfl ?_;(conv=>whnf);refine iN ?_;(conv=>whnf);refine jL (hc.ext f) (k:=0) rfl ?_;(conv=>whnf);with_reducible refine AF (fun a9=>?_) (fun a9=>?_)
  ·(conv=>whnf);refine jL (hc.ext f) (k:=1) rfl ?_;(conv=>whnf);refine ⟨?_,f⟩
   .rw [decide_eq_true (show X.length=6 by omega),Bool.true_and];congr 1;exact decide_eq_decide.2 om
  ·(conv=>whnf);refine ⟨?_,f⟩
   .rw [decide_eq_false (show ¬ X.length=6 by omega),Bool.false_and]
theorem H3 (a:Option Addr) (n c:Nat) (w:World):Dq 133 [.slice a n c] w (fun v w'=>v = .int .i64 n/\w=w'):=by
 refine oV Tryz.func133 ?_;conv=>whnf
 exact ⟨rfl,rfl⟩
theorem Q5 (h:Ac CA w a n X) (hs:s.size<=1048576) (hT:GR w) (hEr:Eg w) (hM:EE w):Dq 29 [.agg #[.slice a n c,.slice b m d,.string s]] w (fun v w'=>v = .bool (FP X m s)/\AD w w'):=by
 have r:=fun e (f:AD w e)=>Gu (c:=c) (b:=b) (m:=m) (d:=d) (h.ext f);have q:∀ e,AD w e->Dq 65 [.string s] e (fun v w'=>∃ a n c,v = .tuple #[.slice a n c,.int .i64 (Aj s)]/\AD e w'):=fun e f=>(M7 hs (hT.ext f) (hEr.ext f) (hM.ext f)).mono (by
  rintro _ ae ⟨a,n,c,rfl,_,_,o⟩;rw [XP];exact ⟨a,n,c,rfl,o⟩)
 unfold FP;generalize Aq X m=t at *;generalize Aj s=u at *;refine oV Tryz.func29 ?_;conv=>whnf
 refine AB.box ?_;intro y ad aa ab g j;(conv=>whnf);refine jL j.cells (k:=2) rfl ?_;(conv=>whnf);refine (q _ g).mono ?_;rintro _ af ⟨x,ac,z,rfl,i⟩;(conv=>whnf);refine jG (n:=2) (k:=0) (j.ext i).cells rfl ?_;(conv=>whnf);refine (r _ (xt g i)).mono ?_;rintro _ ag ⟨rfl,l⟩;(conv=>whnf);with_reducible refine BU (fun p=>?_) (fun p=>?_)
 ·(conv=>whnf);exact ⟨by simp [*],(xt (xt g i) l)⟩
 ·(conv=>whnf);exact ⟨by simp [*],(xt (xt g i) l)⟩
theorem W6 (h:Ac CA w a n X) (hc:AK w q 0 [.slice a n c,.slice b m d,.string s]) (hs:s.size<=1048576):Dq 26 [.pointer (some ⟨q,0,none⟩)] w (fun v w'=>v = .bool (FP X m s)/\AD w w'):=by
 have p:=fun e (i:AD w e)=>L4 (h.ext i) (hc.ext i);have o:∀ e,Dq 60 [.string s] e (fun v w'=>∃ g,v = .tuple #[.pointer (some ⟨g,0,none⟩),.int .i64 (Aj s)]/\AD e w'):=fun e=>(HU hs e).mono (by
  rintro _ x ⟨g,rfl,f,_⟩;exact ⟨g,rfl,f⟩)
 unfold FP;generalize Aq X m=r at *;generalize Aj s=t at *;refine oV Tryz.func26 ?_;conv=>whnf
 refine jL hc (k:=2) rfl ?_;(conv=>whnf);refine (o _).mono ?_;rintro _ y ⟨u,rfl,f⟩;(conv=>whnf);refine (p _ f).mono ?_;rintro _ z ⟨rfl,j⟩;(conv=>whnf);with_reducible refine BU (fun l=>?_) (fun l=>?_)
 ·(conv=>whnf);exact ⟨by simp [*],(xt f j)⟩
 ·(conv=>whnf);exact ⟨by simp [*],(xt f j)⟩
theorem Iu (h:Ac CA w a n X) (h6:X.length=6) (hX:∀ x∈X,x.length<=40) (hT:GR w):Dq 76 [.agg #[.slice a n c,.slice b m d]] w (fun v w'=>v = .string (DE (At X))/\AD w w'):=by
 have bb:=h.len;have ba:=h.le;have a7:=Jo X;have ap:=PA hX;obtain ⟨ak,r,am⟩:=h;have a':=r.len;refine oV Tryz.func76 ?_;conv=>whnf
 refine AB.box ?_;intro a1 u a5 be ah z;(conv=>whnf);refine bS B3 (vs:=[]) ?_;intro a2 bl aj bf q aa;have ad:=Ag (enc:=eI) AI aa aj;(conv=>whnf);refine jL (z.ext q).cells (k:=0) rfl ?_;(conv=>whnf);have a8:(At X).length=n:=om
 refine lR [3,8,9,10] (fun (e:Nat) ax w'=>∃ f i,ax=[.slice f e i,.slice a n c,.int .i64 n,.int .i64 e]/\e<=n/\An eI 1 u.heap.size 2 w' f e i ((At X).take e)/\AD u w') (fun e=>n - e) 0 ⟨_,_,rfl,om,ad,q⟩ ?_;rintro e a4 _ bh ⟨f,i,rfl,a9,g,p⟩;have hX:=xt ah p;rcases Nat.lt_or_ge e n with ar | ar
 .obtain ⟨o,s⟩:=AA (l:=ak) (k:=e) om;obtain ⟨x,au,ae⟩:=am.get s;have av:=ae.1.len;have aq:(At X).take (e+1)=(At X).take e++[(o.n:Int)]:=by
   rw [List.take_add_one,NL au,av];rfl
  (conv=>whnf);refine iY ?_;(conv=>whnf);refine jI (r.ext hX) e rfl s ?_;intro az bg a6 ao;(conv=>whnf);refine jO ao rfl ?_;(conv=>whnf);refine (H3 _ _ _ _).mono ?_;rintro _ _ ⟨rfl,rfl⟩;(conv=>whnf);refine bS B3 (vs:=[Value.int IntKind.i64 ↑o.n]) ?_;intro a0 bj ai bd j y;have ab:=AH (n:=1) (enc:=eI) (xs:=[↑o.n]) AI y ai rfl dE;(conv=>whnf);refine AN (enc:=eI) B3 AI (g.ext j) (ab.own.arr AI) (by intro bm _;simp [eI,AM]) om om (Below.size (xt p j)) ?_;intro ay a3 bk ac aw bc;(conv=>whnf);refine jP (((e+1:Nat):Int)) ?_;(conv=>whnf);refine ⟨e+1,om,_,_,rfl,om,?_,(xm (xt p j) aw (AQ g.new))⟩
  .rw [aq];exact ac
 .obtain rfl:e=n:=om
  rw [List.take_of_length_le om] at g;have an:=fun t c (al:A4 eI 1 t f e (At X)) (af:AD w t)=>M6 (c:=c) al ap om (hT.ext af);(conv=>whnf);refine iN ?_;(conv=>whnf);refine dM (an _ _ (g.own.arr AI) hX) fun bi ag=>?_;(conv=>whnf);exact ⟨rfl,(xt hX ag)⟩
theorem JQ (h:Ac CA w a n X) (hc:AK w q 0 [.slice a n c,.slice b m d,.string s]) (h6:X.length=6) (hX:∀ x∈X,x.length<=40):Dq 47 [.pointer (some ⟨q,0,none⟩)] w (fun v w'=>v = .string (DE (At X))/\AD w w'):=by
 have az:=h.len;have ay:=h.le;have u:=Jo X;have y:=PA hX;have ag:=XU y;obtain ⟨ad,o,ae⟩:=h;have ax:=o.len;refine oV Tryz.func47 ?_;conv=>whnf
 refine lR [0,3,4] (fun (e:Nat) aq w'=>aq=[.pointer (some ⟨q,0,none⟩),.string (bs (jn ((At X).take e))),.int .i64 e]/\e<=n/\AD w w') (fun e=>n - e) 0 ⟨rfl,om,AD.refl _⟩ ?_;rintro e au _ a0 ⟨rfl,aw,hX⟩;have z:=ag e;rcases Nat.lt_or_ge e n with ak | ak
 .obtain ⟨j,r⟩:=AA (l:=ad) (k:=e) om;obtain ⟨x,am,aa⟩:=ae.get r;have an:=aa.1.len;have f:=NL am;rw [an] at f;have g:BH (j.n:Int):=y _ (List.mem_of_getElem? f);have av:=Bh g.1 g.2;by_cases ai:0<e
  .have t:bs (jn ((At X).take (e+1)))=bs (jn ((At X).take e))++{ data := #[32] }++BV (j.n:Int):=by
    rw [Up f ai];apply Cs;simp [bs,BV]
   have ah:(bs (jn ((At X).take e))).size<=22 * e:=by rw [BY];exact z
   (conv=>whnf);refine jL (hc.ext hX) (k:=0) rfl ?_;(conv=>whnf);refine iY ?_;(conv=>whnf);refine iY ?_;(conv=>whnf);refine Ax sO ?_;(conv=>whnf);refine jL (hc.ext hX) (k:=0) rfl ?_;(conv=>whnf);refine jI (o.ext hX) e rfl r ?_;intro ab ap af p;(conv=>whnf);refine jO p rfl ?_;(conv=>whnf);refine dM (CC g _) fun ar i=>?_;(conv=>whnf);refine Ax sO ?_;(conv=>whnf);refine jP (((e+1:Nat):Int)) ?_;(conv=>whnf);exact ⟨e+1,om,by rw [t];rfl,om,xt hX i⟩
  .have aj:e=0:=om
   subst aj;have t:bs (jn ((At X).take (0+1)))=bs (jn ((At X).take 0))++BV (j.n:Int):=by
    rw [List.take_add_one,f];simp only [List.take_zero,List.nil_append,Option.toList_some,Uq,XT];apply Cs;simp [bs,BV]
   have ah:(bs (jn ((At X).take 0))).size<=22 * 0:=by rw [BY];exact z
   (conv=>whnf);refine jL (hc.ext hX) (k:=0) rfl ?_;(conv=>whnf);refine iY ?_;(conv=>whnf);refine jL (hc.ext hX) (k:=0) rfl ?_;(conv=>whnf);refine jI (o.ext hX) 0 rfl r ?_;intro ab ap af p;(conv=>whnf);refine jL p (k:=0) rfl ?_;(conv=>whnf);refine dM (CC g _) fun ar i=>?_;(conv=>whnf);refine Ax om ?_;(conv=>whnf);refine jP (((0+1:Nat):Int)) ?_;(conv=>whnf);exact ⟨0+1,om,by rw [t];rfl,om,xt hX i⟩
 .obtain rfl:e=n:=om
  rw [List.take_of_length_le om];have ao:¬ At X=[]:=fun ac=>by rw [ac] at u;simp at u;omega
  have al:DE (At X)=bs (jn (At X)):=by unfold DE;rw [if_neg ao]
  rw [al];(conv=>whnf);refine jL (hc.ext hX) (k:=0) rfl ?_;(conv=>whnf);refine iN ?_;(conv=>whnf);exact ⟨rfl,hX⟩
end Go.Proofs.YtalgenmoljcnmaaGreatDoor
namespace Go.M
open Go Go.Vc
def MU (c:UInt8):Bool:=decide (c∈NO)
def CR (t:ByteArray):Bool:=t.data.toList.all MU
def CW (t:ByteArray):List Int:=t.data.toList.map fun c=>ED c.toNat
def CK (t:ByteArray):Int:=if Ey t.size 1 20=false then 2 else if CR t=false then 7 else 0
def BG (c:List Int):Int:=if FA c=false then 1 else if Di c=false then 8 else 0
def Dg (d:List (List Int)) (f:AE):Bool:=d.all fun c=>Di (Ad c f)
def BT (ds:List (List (List Int))) (ts:List ByteArray) (f:AE):Int :=
 if ds.any (fun d=>!A2 d)=true then 1
 else if ds.any (fun d=>!AR f (AJ d))=true then 2
 else if ts.any (fun t=>!decide ((t.size:Int)=f.to_ - f.from_))=true then 2
 else if ts.any (fun t=>!CR t)=true then 7
 else if ds.any (fun d=>!Dg d f)=true then 8 else 0
def Ht (d:List (List Int)) (f:AE) (i:Nat):Bool:=decide (0<i) && decide (CY (AS f (d.getD i [])) (AS f (d.getD (i - 1) []))<0)
def FF (d:List (List Int)) (f:AE) (n:Nat):List Nat:=(List.range n).filter (Ht d f)
def GQ (d:List (List Int)) (f:AE):Bool:=decide ((FF d f d.length).length=0)
noncomputable def CI (a b:List (List Int)) (f:AE):List (List Int)×Int :=
 if BT [a,b] [] f≠0 then ([],BT [a,b] [] f)
 else if a≠[]/\b≠[]/\AJ a≠AJ b then ([],9)
 else if GQ a f=false\/GQ b f=false then ([],6)
 else if 40<a.length+b.length then ([],5)
 else (K8 (a++b) f,0)
def Kt (d:List (List Int)) (c:List Int) (f:AE):Bool:=d.any fun x=>decide (CY (AS f x) (AS f c)=0)
def Cc (d o:List (List Int)) (f:AE) (e:Bool):List (List Int):=d.filter fun c=>decide (Kt o c f=e)
def CX (a b:List (List Int)) (f:AE):Int :=
 if BT [a,b] [] f≠0 then BT [a,b] [] f else if GQ a f=false\/GQ b f=false then 6 else 0
def C6 (f:AE) (c:List Int) (t:ByteArray):Int:=CY (AS f c) (CO (CW t))
def Cw (d:List (List Int)) (f:AE) (t:ByteArray):List (List Int)×Int :=
 if BT [d] [t,t] f≠0 then ([],BT [d] [t,t] f) else (d.filter fun c=>decide (C6 f c t=0),0)
def EK (d:List (List Int)) (f:AE):List (List Int)×Int :=
 if BT [d] [] f≠0 then ([],BT [d] [] f) else ((A0 (d.map (AS f))).map fun i=>d.getD i [],0)
noncomputable def GD (d:List (List Int)) (f:AE):List (List Int)×Int:=if (Bu d f).2≠0 then ([],(Bu d f).2) else (K8 d f,0)
def Dv (d:List (List Int)) (f:AE):Int:=(D8 d f).foldl (· + ·) 0
def ER (d:List (List Int)) (f:AE):Bool := !d.any fun c=>(Ec (Ad c f)).isNone
def EV (g:List (List Int)) (f:AE):ByteArray:=Cf (AS f (g.headD []))
def A5 (d:List (List Int)) (f s:AE):List AT×Int :=
 if ER d s=false\/Dg d f=false then ([],8) else ((Bj d f).map fun g=>⟨EV g f,Dv g s⟩,0)
structure ET where
 kind:Int
 a:Int
 b:Int
 dst:Int
 field:AE
 sum:AE
 text:ByteArray
def ET.enc (x:ET):List Value:=[.int .i64 x.kind,.int .i64 x.a,.int .i64 x.b,.int .i64 x.dst]++x.field.enc++x.sum.enc++[.string x.text]
def ET.ok (x:ET):Prop:=BH x.kind/\BH x.a/\BH x.b/\BH x.dst/\x.field.ok/\x.sum.ok/\x.text.size<=1048576
def Gi (k:Int):Bool:=Ey k 2 4
def EP (x:ET) (width:Int):Bool :=
 if Ey width 1 20=false\/Ey x.kind 1 7=false\/Ey x.a 0 5=false\/Ey x.b 0 5=false\/Ey x.dst 0 5=false then false
 else if (x.b≠0/\Gi x.kind=false)\/(x.dst≠0/\x.kind=7)\/AR x.field width=false then false
 else if (x.kind=7/\Ah x.sum width=false)\/(x.kind≠7/\¬ (x.sum.from_=0/\x.sum.to_=0)) then false
 else if x.kind=5 then CR x.text && decide ((x.text.size:Int)=x.field.to_ - x.field.from_)
 else decide (x.text.size=0)
noncomputable def Be (a b:List (List Int)) (x:ET):List (List Int)×Int :=
 if x.kind=1 then GD a x.field else if x.kind=2 then CI a b x.field else if x.kind=5 then Cw a x.field x.text else if x.kind=6 then EK a x.field
 else if CX a b x.field≠0 then ([],CX a b x.field) else (Cc a b x.field (decide (x.kind=3)),0)
abbrev aG0:=List (List (List Int))×List (List AT)
noncomputable def Ap (X:List (List (List Int))) (Y:List (List AT)) (width:Nat) (x:ET):aG0×Int :=
 if EP x width=false then (([],[]),2)
 else if x.kind=7/\Y.length=20 then (([],[]),5)
 else if x.kind=7 then (if (A5 (X.getD x.a.toNat []) x.field x.sum).2≠0 then (([],[]),(A5 (X.getD x.a.toNat []) x.field x.sum).2) else ((X,Y++[(A5 (X.getD x.a.toNat []) x.field x.sum).1]),0))
 else if (Be (X.getD x.a.toNat []) (X.getD x.b.toNat []) x).2≠0 then (([],[]),(Be (X.getD x.a.toNat []) (X.getD x.b.toNat []) x).2)
 else ((X.set x.dst.toNat (Be (X.getD x.a.toNat []) (X.getD x.b.toNat []) x).1,Y),0)
def Bn (d:List (List Int)) (f s:AE):Int :=
 if A2 d=false then 1 else if AR f (AJ d)=false\/Ah s (AJ d)=false then 2 else if ER d s=false\/Dg d f=false then 8 else 0
def Fv (g:List (List Int)) (f s:AE):ByteArray:=bs [42]++EV g f++bs [32]++BV (Dv g s)
def HK (d:List (List Int)) (f s:AE):List ByteArray×Int :=
 if Bn d f s≠0 then ([],Bn d f s) else (((Bj d f).map fun g=>Fv g f s)++[bs [42,42,32]++BV (Dv d s)],0)
structure Ak where
 col:Int
 mode:Int
def Ak.enc (p:Ak):List Value:=[.int .i64 p.col,.int .i64 p.mode]
instance:Inhabited Ak:=⟨⟨0,0⟩⟩
def Da (m:Int) (k:Nat):Bool:=decide (m / 2 ^ k % 2=1)
def I2:Nat->Int->Option Nat
 | 0,_=>none
 | k+1,m=>if Da m (k+3)=true then some (k+1) else I2 k m
def Cj (m mode:Int):Int :=
 if mode=1 then (match I2 9 m with | some d=>(d:Int) | none=>if m=4 then 0 else 12)
 else if Da m 0=true then 11 else if Da m 1=true then 10 else if Da m 2=true/\¬ m / 8=0 then 0 else if ¬ m=0 then 1 else 12
def BF (mode:Int):List Int:=if mode=2 then [12,11,10,0,1] else [12,0,1,2,3,4,5,6,7,8,9]
def Dx (p:Ak) (k:Int) (c:List Int):Bool:=decide (Cj (c.getD p.col.toNat 0) p.mode=k)
def Cr (d:List (List Int)) (p:Ak):List (List (List Int)):=(List.range 13).map fun (k:Nat)=>d.filter (Dx p k)
def HC (d:List (List Int)) (p:Ak):List (List Int):=(BF p.mode).flatMap fun k=>(Cr d p).getD k.toNat []
def Ci (d:List (List Int)) (l:List Ak):List (List Int):=l.foldl HC d
def By (f:AE):List Ak:=(List.range (CJ f)).flatMap fun (i:Nat)=>[⟨f.to_ - 1 - i,1⟩,⟨f.to_ - 1 - i,2⟩]
def DG (n s:Nat):List Nat:=(List.range n).filter fun i=>s.testBit i
def Bw (full:List Ak) (own:List Nat):List Ak:=own.map fun i=>full.getD i default
def FC:List Nat->List Nat->Int
 | [],[]=>0
 | [],_ :: _=>-1
 | _ :: _,[]=>1
 | x :: xs,y :: ys=>if x<y then -1 else if y<x then 1 else FC xs ys
def Cv (d:List (List Int)) (due:List (List Int)) (full:List Ak) (st:List Nat×Bool) (s:Nat):List Nat×Bool :=
 if st.2=true/\st.1.length<(DG full.length s).length then st
 else if (st.2=true/\(DG full.length s).length=st.1.length/\0<FC (DG full.length s) st.1)\/¬ Ci d (Bw full (DG full.length s))=due then st
 else (DG full.length s,true)
noncomputable def NR (d:List (List Int)) (f:AE) (k:Nat):List Nat×Bool:=(List.range k).foldl (Cv d (K8 d f) (By f)) ([],false)
noncomputable def F4 (d:List (List Int)) (f:AE):List Ak×Int :=
 if (Bu d f).2≠0 then ([],(Bu d f).2) else if 4<f.to_ - f.from_ then ([],5) else (Bw (By f) (NR d f (2 ^ (By f).length)).1,0)
def Bg (p:Ak):ByteArray:=BV p.col++(if p.mode=1 then bs [100] else bs [122])
def Dp (sep:UInt8) (l:List ByteArray):ByteArray:=bs (Lib.join (l.map (·.data.toList)) [sep])
def ES (s:ByteArray):ByteArray:=if s.size=0 then bs [45] else s
structure B7 where
 X:List (List (List Int))
 Y:List (List AT)
 s:ByteArray
structure DF where
 trays:List Int
 nums:List Int
 fields:List AE
 texts:List ByteArray
def CU:ByteArray:=⟨#[99,97,114,100]⟩
def CL:ByteArray:=⟨#[99,108,101,97,114]⟩
def C5:ByteArray:=⟨#[102,105,114,115,116]⟩
def Hr:ByteArray:=⟨#[108,111,103]⟩
def DV:ByteArray:=⟨#[109,97,116,99,104]⟩
def DJ:ByteArray:=⟨#[109,101,114,103,101]⟩
def D2:ByteArray:=⟨#[110,111,116,101]⟩
def Cp:ByteArray:=⟨#[112,97,115,115,101,115]⟩
def EY:ByteArray:=⟨#[114,101,115,116]⟩
def B1:ByteArray:=⟨#[115,101,108,101,99,116]⟩
def Cd:ByteArray:=⟨#[115,104,111,119]⟩
def Dr:ByteArray:=⟨#[115,111,114,116]⟩
def GS:ByteArray:=⟨#[116,97,98]⟩
def BM:ByteArray:=⟨#[116,111,116,97,108]⟩
def Bd (w:ByteArray):List UInt8 :=
 if w=CU then [116,120] else if w=CL\/w=Cd then [116] else if w=Dr\/w=C5 then [116,102,116]
 else if w=DJ\/w=DV\/w=EY then [116,116,102,116] else if w=B1 then [116,102,120,116] else if w=BM then [116,102,102]
 else if w=Cp then [116,102] else if w=GS then [116,102,102] else if w=D2 then [116,110,120] else []
def B4 (s:ByteArray):AE×Bool :=
 (⟨Ao (bs (Lib.cut s.data.toList [45]).1),Ao (bs (Lib.cut s.data.toList [45]).2.1)⟩,
  (Lib.cut s.data.toList [45]).2.2 && Ei (bs (Lib.cut s.data.toList [45]).1) && Ei (bs (Lib.cut s.data.toList [45]).2.1) && decide (0<=Ao (bs (Lib.cut s.data.toList [45]).1)) && decide (0<=Ao (bs (Lib.cut s.data.toList [45]).2.1)))
def Cn (a:DF) (p:UInt8) (w:ByteArray):DF×Bool :=
 if p=116 then ({ a with trays:=a.trays++[Ao w] },Ei w) else if p=110 then ({ a with nums:=a.nums++[Ao w] },Ei w)
 else if p=102 then ({ a with fields:=a.fields++[(B4 w).1] },(B4 w).2) else ({ a with texts:=a.texts++[w] },true)
def D3:DF:=⟨[],[],[],[]⟩
def Cy (ps:List (UInt8×ByteArray)):DF×Bool:=ps.foldl (fun st p=>if st.2=true then Cn st.1 p.1 p.2 else st) (D3,true)
def Bi (p:List UInt8) (ws:List ByteArray):DF×Int :=
 if (Cy (p.zip ws)).2=false then (D3,7) else if (Cy (p.zip ws)).1.trays.any (fun t=>!Ey t 0 5)=true then (D3,2) else ((Cy (p.zip ws)).1,0)
def CM (l:List ByteArray):List ByteArray:=l++[bs [111,107,32]++BV l.length]
def Df (w:ByteArray):Int:=if w=Dr then 1 else if w=C5 then 6 else if w=DJ then 2 else if w=DV then 3 else if w=EY then 4 else if w=B1 then 5 else if w=BM then 7 else 0
def Bb (w:ByteArray) (a:DF):ET :=
  { kind:=Df w,a:=a.trays.getD 0 0,b:=if Gi (Df w)=true then a.trays.getD 1 0 else 0,dst:=if w=BM then 0 else a.trays.getD (a.trays.length - 1) 0,
    field:=a.fields.getD 0 ⟨0,0⟩,sum:=if w=BM then a.fields.getD 1 ⟨0,0⟩ else ⟨0,0⟩,text:=if w=B1 then a.texts.getD 0 ⟨#[]⟩ else ⟨#[]⟩ }
def CV (t:AT):ByteArray:=t.name++bs [61]++BV t.sum
def GV (l:List AT):ByteArray:=Dp 59 (l.map CV)
noncomputable def BE (D:B7) (w:ByteArray) (a:DF):(B7×List ByteArray)×Int :=
  if w=Hr then ((D,CM ((BZ D.s).1.map DO)),(BZ D.s).2.2)
  else if w=CU then
    (if CK (a.texts.getD 0 ⟨#[]⟩)≠0 then ((D,[]),CK (a.texts.getD 0 ⟨#[]⟩))
     else if Aq (D.X.set (a.trays.getD 0 0).toNat (D.X.getD (a.trays.getD 0 0).toNat []++[CW (a.texts.getD 0 ⟨#[]⟩)])) D.Y.length=false then ((D,[]),6)
     else (({ D with X:=D.X.set (a.trays.getD 0 0).toNat (D.X.getD (a.trays.getD 0 0).toNat []++[CW (a.texts.getD 0 ⟨#[]⟩)]) },[DE (At (D.X.set (a.trays.getD 0 0).toNat (D.X.getD (a.trays.getD 0 0).toNat []++[CW (a.texts.getD 0 ⟨#[]⟩)])))]),0))
  else if w=CL then (({ D with X:=D.X.set (a.trays.getD 0 0).toNat [] },[DE (At (D.X.set (a.trays.getD 0 0).toNat []))]),0)
  else if w=Cd then
    (match (D.X.getD (a.trays.getD 0 0).toNat []).find? (fun c=>decide (BG c≠0)) with
     | some c=>((D,[]),BG c)
     | none=>((D,CM ((D.X.getD (a.trays.getD 0 0).toNat []).map fun c=>Cf (CO c))),0))
  else if w=D2 then
    (if (A9 D.s ⟨a.trays.getD 0 0,(D.X.getD (a.trays.getD 0 0).toNat []).length,a.nums.getD 0 0,a.texts.getD 0 ⟨#[]⟩⟩).2≠0 then ((D,[]),(A9 D.s ⟨a.trays.getD 0 0,(D.X.getD (a.trays.getD 0 0).toNat []).length,a.nums.getD 0 0,a.texts.getD 0 ⟨#[]⟩⟩).2)
     else (({ D with s:=(A9 D.s ⟨a.trays.getD 0 0,(D.X.getD (a.trays.getD 0 0).toNat []).length,a.nums.getD 0 0,a.texts.getD 0 ⟨#[]⟩⟩).1 },[BV (D4 (A9 D.s ⟨a.trays.getD 0 0,(D.X.getD (a.trays.getD 0 0).toNat []).length,a.nums.getD 0 0,a.texts.getD 0 ⟨#[]⟩⟩).1).1]),
       (D4 (A9 D.s ⟨a.trays.getD 0 0,(D.X.getD (a.trays.getD 0 0).toNat []).length,a.nums.getD 0 0,a.texts.getD 0 ⟨#[]⟩⟩).1).2))
  else if w=Cp then ((D,[ES (Dp 32 ((F4 (D.X.getD (a.trays.getD 0 0).toNat []) (a.fields.getD 0 ⟨0,0⟩)).1.map Bg))]),(F4 (D.X.getD (a.trays.getD 0 0).toNat []) (a.fields.getD 0 ⟨0,0⟩)).2)
  else if w=GS then ((D,CM (HK (D.X.getD (a.trays.getD 0 0).toNat []) (a.fields.getD 0 ⟨0,0⟩) (a.fields.getD 1 ⟨0,0⟩)).1),(HK (D.X.getD (a.trays.getD 0 0).toNat []) (a.fields.getD 0 ⟨0,0⟩) (a.fields.getD 1 ⟨0,0⟩)).2)
  else if (Ap D.X D.Y (AG D.X) (Bb w a)).2≠0 then ((D,[]),(Ap D.X D.Y (AG D.X) (Bb w a)).2)
  else if w≠BM then (({ D with X:=(Ap D.X D.Y (AG D.X) (Bb w a)).1.1,Y:=(Ap D.X D.Y (AG D.X) (Bb w a)).1.2 },[DE (At (Ap D.X D.Y (AG D.X) (Bb w a)).1.1)]),0)
  else (({ D with X:=(Ap D.X D.Y (AG D.X) (Bb w a)).1.1,Y:=(Ap D.X D.Y (AG D.X) (Bb w a)).1.2 },[ES (GV ((Ap D.X D.Y (AG D.X) (Bb w a)).1.2.getLastD []))]),0)
def deskWordsM:List ByteArray:=[CU,CL,C5,Hr,DV,DJ,D2,Cp,EY,B1,Cd,Dr,GS,BM]
def EL:List ByteArray:=[⟨#[111,107]⟩,⟨#[105,110,118,97,108,105,100]⟩,⟨#[114,97,110,103,101]⟩,⟨#[110,111,116,45,102,111,117,110,100]⟩,⟨#[101,120,105,115,116,115]⟩,⟨#[102,117,108,108]⟩,⟨#[115,116,97,116,101]⟩,⟨#[115,121,110,116,97,120]⟩,⟨#[102,111,114,109,97,116]⟩,⟨#[99,108,97,115,104]⟩,⟨#[106,97,109]⟩]
def E4 (k:Int):ByteArray:=if Ey k 0 10=false then ⟨#[]⟩ else EL.getD k.toNat ⟨#[]⟩
def Fe (k:Int):ByteArray:=bs [101,114,114,111,114,32]++E4 k
def HN:B7:=⟨[],[],⟨#[]⟩⟩
noncomputable def EM (D:B7) (line:ByteArray):(B7×List ByteArray)×Int :=
 if FP D.X D.Y.length D.s=false then ((HN,[]),1)
 else if ¬ (deskWordsM.any fun x=>decide (x=(Ay 32 line).headD ⟨#[]⟩))=true\/¬ (Ay 32 line).length - 1=(Bd ((Ay 32 line).headD ⟨#[]⟩)).length then ((HN,[]),7)
 else if (Bi (Bd ((Ay 32 line).headD ⟨#[]⟩)) ((Ay 32 line).drop 1)).2≠0 then ((D,[Fe (Bi (Bd ((Ay 32 line).headD ⟨#[]⟩)) ((Ay 32 line).drop 1)).2]),0)
 else if (BE D ((Ay 32 line).headD ⟨#[]⟩) (Bi (Bd ((Ay 32 line).headD ⟨#[]⟩)) ((Ay 32 line).drop 1)).1).2≠0 then ((D,[Fe (BE D ((Ay 32 line).headD ⟨#[]⟩) (Bi (Bd ((Ay 32 line).headD ⟨#[]⟩)) ((Ay 32 line).drop 1)).1).2]),0)
 else BE D ((Ay 32 line).headD ⟨#[]⟩) (Bi (Bd ((Ay 32 line).headD ⟨#[]⟩)) ((Ay 32 line).drop 1)).1
end Go.M
namespace Go.Proofs.YtalgenmoljcnmaaGreatDoor
open Go Go.RowKit Go.Vc Go.M
variable {w:World} {xs:List Int}
theorem Km (x:Int) (w:World):Dq 320 [.int .i64 x] w (fun v w'=>v = .bool (!decide (x=0))/\AD w w'):=by
 refine oV Tryz.func320 ?_;exact ⟨rfl,AD.refl _⟩
theorem SY {d:Hd} (R:AZ w d xs) (hm:∀ m∈xs,0<=m/\m<=4095) {f:AE} (hf:Ah f xs.length=true) :
  Dq 285 [.agg ⟨eH d⟩,.agg ⟨f.enc⟩] w (fun v w'=>v = .tuple #[.int .i64 (DI (Ad xs f)).1,.bool (DI (Ad xs f)).2]/\AD w w'):=by
 obtain ⟨a4,bv⟩:=R;have cg:=a4.len;simp only [Ah,Bool.and_eq_true,decide_eq_true_eq] at hf;have bo:=Bc hf.1;have bm:=hf.2;obtain ⟨a7,a8⟩:=f;simp only at bo bm;obtain ⟨a,rfl⟩:∃ a:Nat,a7=a:=⟨a7.toNat,om⟩;obtain ⟨b,rfl⟩:∃ b:Nat,a8=b:=⟨a8.toNat,om⟩;have bc:∀ m∈Ad xs ⟨(a:Int),(b:Int)⟩,0<=m/\m<=4095:=fun m bu=>hm m (L9 bu);obtain ⟨i,a1⟩:∃ i,(xs.drop a).take (b - a)=i:=⟨_,rfl⟩;have bz:Ad xs ⟨(a:Int),(b:Int)⟩=i:=by unfold Ad;simpa using a1
 rw [bz] at bc ⊢;have bb:i.length=b - a:=by rw [<- a1];simp;omega
 obtain ⟨q,m,aj⟩:∃ q m,i=q++[m]:=⟨i.dropLast,i.getLast (by intro af;subst af;simp at bb;omega),(List.dropLast_concat_getLast _).symm⟩;have ci:q.length+1=b - a:=by rw [<- bb,aj];simp
 have ac:i[b - a - 1]? = some m:=by rw [aj,List.getElem?_append_right om];simp [show b - a - 1 - q.length=0 by omega]
 have ad:=bc m (List.mem_of_getElem? ac);have b0:i.set (b - a - 1) (DS m)=q++[DS m]:=by rw [aj,List.set_append,if_neg om];simp [show b - a - 1 - q.length=0 by omega]
 have cc:=YM ad.1 ad.2;have a9:CG 11=2:=NQ rfl;have hand:=aL7 ad.1 ad.2;have bn:=aF5 ad.1 ad.2;refine oV Tryz.func285 ?_;refine AB.box ?_;intro b6 cn b9 ck an bg;refine AB.box fun b7 b3 b' cl ag a6=>jL (bg.ext ag).cells (k:=0) rfl<|jL a6.cells (k:=0) rfl<|jL a6.cells (k:=1) rfl<|AB.slice (k := .i64) (k' := .i64) kR (a4.ext (xt an ag)) a b om om bv (.inr rF) (.inr rF) ?_;rw [a1];intro b5 a5;have aq:i.any (fun e=>!decide (e=0)) = !decide (∀ e∈i,e=0):=by
  rw [Bool.eq_iff_iff];simp [List.any_eq_true]
 by_cases ar:∀ e∈i,e=0
 .have ch:=Zm ar;rw [decide_eq_true ar] at aq;refine (Iw a5 om).mono ?_;rintro _ be ⟨bj,av,rfl,bh,s,aw⟩;refine dM (Dn (s.own.arr AI) (p:=fun e=>!decide (e=0)) (cap:=[]) (fun e _ w' _=>Km e w')) fun b2 u=>?_;rw [aq];exact ⟨by simp_all,(xt (xt (xt an ag) aw) u)⟩
 .have a2:=Zn q m (by rw [<- aj];exact ar);rw [<- aj] at a2;rw [decide_eq_false ar] at aq;refine (Iw a5 om).mono ?_;rintro _ be ⟨bj,av,rfl,bh,s,aw⟩;refine dM (Dn (s.own.arr AI) (p:=fun e=>!decide (e=0)) (cap:=[]) (fun e _ w' _=>Km e w')) fun b2 u=>?_;rw [aq];refine AB.sub (((b - a - 1:Nat):Int)) om om om<|dH (pB [0,2,4,6,9,11,13,15]) ?_;intro co z;obtain ⟨am,rfl⟩:=((s.ext u).own).some om;have bl:b3.heap.size<=am:=s.new _ rfl;have cm:am<be.heap.size:=s.lt _ rfl;refine CS (sz:=1) kR (b - a - 1) rfl om ?_;have bq:=AU AI (s.ext u).own ac;refine dO bq rfl<|dM (CE _ _) fun cp aa=>⟨(xt z aa),AB.and ⟨(xt z aa),Au A7 mixed (pZ [0,5,10,16,22,25,30,38]) kR kR fun cq ax=>pW (sz:=1) (b - a - 1) rfl om ?_⟩⟩;have br:=AU AI (s.ext (xt (xt u z) aa)).own ac;refine dO br rfl<|dM (CE _ _) fun cr ay=>⟨(xt ax ay),DT.andNot<|pW (sz:=1) (b - a - 1) rfl om ?_⟩;have cb:=AU AI (s.ext (xt (xt u z) aa)).own ac;refine Fx (k:=b - a - 1) (j:=0) kR AI (s.ext (xt (xt (xt (xt u z) aa) ax) ay)) ac dE rfl (Jp IntKind.i64 m (CG 11)) rfl ?_;intro bf bk n;have cj:=D6 ac ((Jp IntKind.i64 m (CG 11)));(conv=>whnf);have bw:(!decide (FQ IntKind.i64 m (CG 11)=0))=Dw m:=by
   rw [a9,hand];cases Dw m<;>simp
  rw [bw];rw [a9,bn,b0] at n;generalize ao:q++[DS m]=al at n;have ca:al.length=b - a:=by rw [<- ao];simp;omega
  have ap:al[b - a - 1]? = some (DS m):=by rw [<- ao,List.getElem?_append_right om];simp [show b - a - 1 - q.length=0 by omega]
  have bi:AD w bf:=xb (xt (xt (xt (xt (xt (xt (xt an ag) aw) u) z) aa) ax) ay) bk.but (nB (xt an ag) bl);refine lR [6,7,8,9,10,42,43,44] (fun (c:Nat) b1 w'=>∃ ak y,b1=[.slice (some ⟨am,0,none⟩) (b - a) av,.int .i64 ((b - a - 1:Nat):Int),.bool (Dw m),.int .i64 ak,.bool y,.slice (some ⟨am,0,none⟩) (b - a) av,.int .i64 ((b - a:Nat):Int),.int .i64 c]/\c<=b - a/\(al.take c).foldl B5 (some (0,false))=some (ak,y)/\AD bf w') (fun c=>b - a - c) 0 ⟨0,false,rfl,om,sI,AD.refl _⟩ ?_;rintro c b8 _ b4 ⟨ak,y,rfl,ce,ai,h⟩;have t:AD w b4:=xt bi h;rcases Nat.lt_or_ge c (b - a) with bt | bt
  .obtain ⟨e,ae⟩:=AA (l:=al) (k:=c) om;have ab:=TV ae (some (0,false));rw [ai,D9] at ab;have bx:=LC ai sW;have cd:=Kw e;by_cases ah:e=0/\y=false
   .rw [if_pos ah] at ab;obtain ⟨bd,bp⟩:=ah;subst bp;refine iY<|jW (sz:=1) c rfl om ?_;have g:=AU AI (n.ext h).own ae;exact jO g rfl<|dM (Gb _ _) fun au o=>iY<|jP (((c+1:Nat):Int)) ⟨c+1,om,_,_,rfl,om,om,(xt h o)⟩
   .rw [if_neg ah] at ab;by_cases a':B6 e<0
    .rw [if_pos a'] at ab;have x:=Uc (r:=q) (m:=m) (by rw [ao];exact TW ab);rw [a2] at x;cases y
     .have bd:¬ e=0:=fun af=>ah ⟨af,rfl⟩;refine iY<|jW (sz:=1) c rfl om ?_;have g:=AU AI (n.ext h).own ae;exact jO g rfl<|dM (Gb _ _) fun au o=>iN<|iY ⟨by simp_all,(xt t o)⟩
     .refine iY<|jW (sz:=1) c rfl om ?_;have g:=AU AI (n.ext h).own ae;refine jO g rfl<|dM (Gb _ _) fun au o=>AF (fun az=>?_) fun az=>?_
      .exact iY ⟨by simp_all,(xt t o)⟩
      .exact iY ⟨by simp_all,(xt t o)⟩
    .rw [if_neg a'] at ab;cases y
     .have bd:¬ e=0:=fun af=>ah ⟨af,rfl⟩;refine iY<|jW (sz:=1) c rfl om ?_;have g:=AU AI (n.ext h).own ae;exact jO g rfl<|dM (Gb _ _) fun au o=>iN<|iN<|AB.mul _ rfl om om<|AB.add _ rfl om om<|jP (((c+1:Nat):Int)) ⟨c+1,om,_,_,rfl,om,om,(xt h o)⟩
     .refine iY<|jW (sz:=1) c rfl om ?_;have g:=AU AI (n.ext h).own ae;refine jO g rfl<|dM (Gb _ _) fun au o=>AF (fun az=>?_) fun az=>?_
      .exact iN<|AB.mul _ rfl om om<|AB.add _ rfl om om<|jP (((c+1:Nat):Int)) ⟨c+1,om,_,_,rfl,om,om,(xt h o)⟩
      .exact iN<|AB.mul _ rfl om om<|AB.add _ rfl om om<|jP (((c+1:Nat):Int)) ⟨c+1,om,_,_,rfl,om,om,(xt h o)⟩
  .have cf:c=b - a:=om
   have bx:=LC ai sW;rw [List.take_of_length_le om] at ai;have x:=Ub (r:=q) (m:=m) (by rw [ao];exact ai);rw [a2] at x;cases y
   .rw [if_pos (.inl rfl)] at x;exact iN ⟨by simp_all,t⟩
   .by_cases a0:DS m=0
    .rw [if_pos (.inr (.inl a0))] at x;refine iN<|jW (sz:=1) (b - a - 1) rfl om ?_;have g:=AU AI (n.ext h).own ap;exact jO g rfl<|iY ⟨by simp_all,t⟩
    .cases a3:Dw m
     .rw [a3,if_neg (by simp [a0]),if_neg sI] at x;refine iN<|jW (sz:=1) (b - a - 1) rfl om ?_;have g:=AU AI (n.ext h).own ap;exact jO g rfl<|iN ⟨by simp_all,t⟩
     .by_cases ba:ak=0
      .rw [if_pos (.inr (.inr ⟨a3,ba⟩))] at x;refine iN<|jW (sz:=1) (b - a - 1) rfl om ?_;have g:=AU AI (n.ext h).own ap;exact jO g rfl<|iN<|iY ⟨by simp_all,t⟩
      .rw [a3,if_neg (by simp [a0,ba]),if_pos rfl] at x;refine iN<|jW (sz:=1) (b - a - 1) rfl om ?_;have g:=AU AI (n.ext h).own ap;exact jO g rfl<|iN<|iN<|AB.neg (-ak) rfl om om ⟨by simp_all,t⟩
theorem KX {a:Option Addr} {n c:Nat} (h:A4 eI 1 w a n xs) (hn12:n<=12) (hm:∀ m∈xs,0<=m/\m<=4095) :
  Dq 240 [.slice a n c] w (fun v w'=>v = .tuple #[.int .i64 (DI xs).1,.bool (DI xs).2]/\AD w w'):=by
 have aw:=h.len;rcases Nat.eq_zero_or_pos n with a2 | a2
 .subst a2;have af:xs=[]:=List.eq_nil_of_length_eq_zero aw;subst af;have a9:DI []=(0,true):=rfl;rw [a9];refine oV Tryz.func240 ?_;conv=>whnf
  refine lR [0,4,5,6,7] (fun (d:Nat) ax w'=>ax=[.slice a 0 c,.int .i64 0,.bool false,.bool false,.int .i64 0]/\AD w w') (fun d=>d) 0 ⟨rfl,AD.refl _⟩ ?_;rintro d a3 _ bd ⟨rfl,b⟩;(conv=>whnf);exact ⟨rfl,b⟩
 obtain ⟨aj,m,s⟩:∃ aj m,xs=aj++[m]:=⟨xs.dropLast,xs.getLast (by intro u;subst u;simp at aw;omega),(List.dropLast_concat_getLast _).symm⟩;have bm:aj.length+1=n:=by rw [<- aw,s];simp
 have y:xs[n - 1]? = some m:=by rw [s,List.getElem?_append_right om];simp [show n - 1 - aj.length=0 by omega]
 have a':xs.take (n - 1)=aj:=by rw [s];simp [show n - 1=aj.length by omega]
 have al:=hm m (List.mem_of_getElem? y);have bg:=YM al.1 al.2;have hand:=aL7 al.1 al.2;refine oV Tryz.func240 ?_;conv=>whnf
 refine lR [0,4,5,6,7] (fun (d:Nat) ax w'=>∃ g t ab,ax=[.slice a n c,.int .i64 g,.bool t,.bool ab,.int .i64 d]/\d<=n/\(ab=false->(xs.take d).foldl B5 (some (0,false))=some (g,t))/\(ab=true->d=n/\0<=g/\g<=10000000000009/\DI xs=if g=0 then (0,false) else (-g,true))/\(ab=false->d=n->Dw m=false)/\AD w w') (fun d=>n - d) 0 ⟨0,false,false,rfl,om,fun _=>by simp,(fun h=>by cases h),(fun _ h=>by omega),AD.refl _⟩ ?_;rintro d a3 _ bd ⟨g,t,ab,rfl,bi,a0,a1,a4,b⟩;rcases Nat.lt_or_ge d n with a7 | a7
 .obtain rfl:ab=false:=by
   cases ab
   .rfl
   .have:=(a1 rfl).1;omega
  have ae:=a0 rfl;obtain ⟨ak,aa⟩:=AA (l:=xs) (k:=d) om;have f:=TV aa (some (0,false));rw [ae,D9] at f;have bl:=LC ae sW;have bh:=Kw ak;by_cases a8:d=n - 1
  .subst a8;rw [y] at aa;cases aa
   rw [a'] at ae;cases ah:Dw m
   .have be:FQ IntKind.i64 m 2=0:=by rw [hand,ah];rfl
    rw [List.take_of_length_le om] at f;by_cases q:m=0/\t=false
    .rw [if_pos q] at f;obtain ⟨af,ar⟩:=q;subst ar;(conv=>whnf);refine iY ?_;(conv=>whnf);refine jI (h.ext b) (n - 1) rfl y ?_;intro o r p e;(conv=>whnf);refine jO e rfl ?_;(conv=>whnf);refine AB.sub (((n - 1:Nat):Int)) om om om ?_;(conv=>whnf);refine iY ?_;(conv=>whnf);refine AB.and ?_;(conv=>whnf);with_reducible refine AW (fun j=>?_) (fun j=>?_)
     ·(conv=>whnf);refine AB.sub _ rfl om om ?_;(conv=>whnf);refine iY ?_;(conv=>whnf);refine (BN _ _).mono ?_;rintro _ am ⟨rfl,x⟩;(conv=>whnf);refine iY ?_;(conv=>whnf);exact ⟨om,(xt b x)⟩
     ·(conv=>whnf);refine iY ?_;(conv=>whnf);refine jP (((n - 1+1:Nat):Int)) ?_;(conv=>whnf);refine ⟨n - 1+1,om,g,false,false,rfl,om,(fun _=>by rw [List.take_of_length_le om];exact f),(fun h=>by cases h),(fun _ _=>rfl),?_⟩;exact b
    .rw [if_neg q] at f;by_cases z:B6 m<0
     .rw [if_pos z,s] at f;have ag:=Vz ah f;rw [<- s] at ag;cases t
      .have af:¬ m=0:=fun u=>q ⟨u,rfl⟩;(conv=>whnf);refine iY ?_;(conv=>whnf);refine jI (h.ext b) (n - 1) rfl y ?_;intro o r p e;(conv=>whnf);refine jO e rfl ?_;(conv=>whnf);refine AB.sub (((n - 1:Nat):Int)) om om om ?_;(conv=>whnf);refine iY ?_;(conv=>whnf);refine AB.and ?_;(conv=>whnf);refine iF ?_;(conv=>whnf);refine iN ?_;(conv=>whnf);refine (BN _ _).mono ?_;rintro _ ay ⟨rfl,ac⟩;(conv=>whnf);refine iY ?_;(conv=>whnf);exact ⟨by simp_all,(xt b ac)⟩
      ·(conv=>whnf);refine iY ?_;(conv=>whnf);refine jI (h.ext b) (n - 1) rfl y ?_;intro o r p e;(conv=>whnf);refine jO e rfl ?_;(conv=>whnf);refine AB.sub (((n - 1:Nat):Int)) om om om ?_;(conv=>whnf);refine iY ?_;(conv=>whnf);refine AB.and ?_;(conv=>whnf);refine iF ?_;(conv=>whnf);with_reducible refine AF (fun j=>?_) (fun j=>?_)
       ·(conv=>whnf);refine (BN _ _).mono ?_;rintro _ am ⟨rfl,x⟩;(conv=>whnf);refine iY ?_;(conv=>whnf);exact ⟨by simp_all,(xt b x)⟩
       ·(conv=>whnf);refine (BN _ _).mono ?_;rintro _ az ⟨rfl,ad⟩;(conv=>whnf);refine iY ?_;(conv=>whnf);exact ⟨by simp_all,(xt b ad)⟩
     .rw [if_neg z] at f;cases t
      .have af:¬ m=0:=fun u=>q ⟨u,rfl⟩;(conv=>whnf);refine iY ?_;(conv=>whnf);refine jI (h.ext b) (n - 1) rfl y ?_;intro o r p e;(conv=>whnf);refine jO e rfl ?_;(conv=>whnf);refine AB.sub (((n - 1:Nat):Int)) om om om ?_;(conv=>whnf);refine iY ?_;(conv=>whnf);refine AB.and ?_;(conv=>whnf);refine iF ?_;(conv=>whnf);refine iN ?_;(conv=>whnf);refine (BN _ _).mono ?_;rintro _ ay ⟨rfl,ac⟩;(conv=>whnf);refine iN ?_;(conv=>whnf);refine AB.mul _ rfl om om ?_;(conv=>whnf);refine AB.add _ rfl om om ?_;(conv=>whnf);refine jP (((n - 1+1:Nat):Int)) ?_;(conv=>whnf);refine ⟨n - 1+1,om,10 * g+B6 m,true,false,rfl,om,(fun _=>by rw [List.take_of_length_le om];exact f),(fun h=>by cases h),(fun _ _=>rfl),?_⟩;exact (xt b ac)
      ·(conv=>whnf);refine iY ?_;(conv=>whnf);refine jI (h.ext b) (n - 1) rfl y ?_;intro o r p e;(conv=>whnf);refine jO e rfl ?_;(conv=>whnf);refine AB.sub (((n - 1:Nat):Int)) om om om ?_;(conv=>whnf);refine iY ?_;(conv=>whnf);refine AB.and ?_;(conv=>whnf);refine iF ?_;(conv=>whnf);with_reducible refine AF (fun j=>?_) (fun j=>?_)
       ·(conv=>whnf);refine (BN _ _).mono ?_;rintro _ am ⟨rfl,x⟩;(conv=>whnf);refine iN ?_;(conv=>whnf);refine AB.mul _ rfl om om ?_;(conv=>whnf);refine AB.add _ rfl om om ?_;(conv=>whnf);refine jP (((n - 1+1:Nat):Int)) ?_;(conv=>whnf);refine ⟨n - 1+1,om,10 * g+B6 m,true,false,rfl,om,(fun _=>by rw [List.take_of_length_le om];exact f),(fun h=>by cases h),(fun _ _=>rfl),?_⟩;exact (xt b x)
       ·(conv=>whnf);refine (BN _ _).mono ?_;rintro _ az ⟨rfl,ad⟩;(conv=>whnf);refine iN ?_;(conv=>whnf);refine AB.mul _ rfl om om ?_;(conv=>whnf);refine AB.add _ rfl om om ?_;(conv=>whnf);refine jP (((n - 1+1:Nat):Int)) ?_;(conv=>whnf);refine ⟨n - 1+1,om,10 * g+B6 m,true,false,rfl,om,(fun _=>by rw [List.take_of_length_le om];exact f),(fun h=>by cases h),(fun _ _=>rfl),?_⟩;exact (xt b ad)
   .have bf:FQ IntKind.i64 m 2=2:=by rw [hand,ah];rfl
    have au:DS m=m - 2:=by simp [DS,ah]
    have ai:=Ua ah ae;rw [<- s] at ai;have a5:=Kw (DS m);by_cases z:B6 (m - 2)<0
    .rw [au,if_pos z] at ai;(conv=>whnf);refine iY ?_;(conv=>whnf);refine jI (h.ext b) (n - 1) rfl y ?_;intro o r p e;(conv=>whnf);refine jO e rfl ?_;(conv=>whnf);refine AB.sub (((n - 1:Nat):Int)) om om om ?_;(conv=>whnf);refine iY ?_;(conv=>whnf);refine AB.and ?_;(conv=>whnf);refine iT ?_;(conv=>whnf);refine AB.sub _ rfl om om ?_;(conv=>whnf);with_reducible refine AF (fun j=>?_) (fun j=>?_)
     ·(conv=>whnf);with_reducible refine BA (fun aq=>?_) (fun aq=>?_)
      ·(conv=>whnf);refine (BN _ _).mono ?_;rintro _ ba ⟨rfl,an⟩;(conv=>whnf);refine iY ?_;(conv=>whnf);exact ⟨by simp_all,(xt b an)⟩
      ·(conv=>whnf);refine (BN _ _).mono ?_;rintro _ bb ⟨rfl,ao⟩;(conv=>whnf);refine iY ?_;(conv=>whnf);exact ⟨by simp_all,(xt b ao)⟩
     ·(conv=>whnf);refine (BN _ _).mono ?_;rintro _ bc ⟨rfl,ap⟩;(conv=>whnf);refine iY ?_;(conv=>whnf);exact ⟨by simp_all,(xt b ap)⟩
    .rw [au,if_neg z] at ai;rw [au] at a5;(conv=>whnf);refine iY ?_;(conv=>whnf);refine jI (h.ext b) (n - 1) rfl y ?_;intro o r p e;(conv=>whnf);refine jO e rfl ?_;(conv=>whnf);refine AB.sub (((n - 1:Nat):Int)) om om om ?_;(conv=>whnf);refine iY ?_;(conv=>whnf);refine AB.and ?_;(conv=>whnf);refine iT ?_;(conv=>whnf);refine AB.sub _ rfl om om ?_;(conv=>whnf);with_reducible refine AF (fun j=>?_) (fun j=>?_)
     ·(conv=>whnf);with_reducible refine BA (fun aq=>?_) (fun aq=>?_)
      ·(conv=>whnf);refine (BN _ _).mono ?_;rintro _ ba ⟨rfl,an⟩;(conv=>whnf);refine iN ?_;(conv=>whnf);refine AB.mul _ rfl om om ?_;(conv=>whnf);refine AB.add _ rfl om om ?_;(conv=>whnf);refine jP (((n - 1+1:Nat):Int)) ?_;(conv=>whnf);refine ⟨n - 1+1,om,10 * g+B6 (m - 2),true,true,rfl,om,(fun h=>by cases h),(fun _=>⟨om,om,om,ai⟩),(fun h=>by cases h),?_⟩;exact (xt b an)
      ·(conv=>whnf);refine (BN _ _).mono ?_;rintro _ bb ⟨rfl,ao⟩;(conv=>whnf);refine iN ?_;(conv=>whnf);refine AB.mul _ rfl om om ?_;(conv=>whnf);refine AB.add _ rfl om om ?_;(conv=>whnf);refine jP (((n - 1+1:Nat):Int)) ?_;(conv=>whnf);refine ⟨n - 1+1,om,10 * g+B6 (m - 2),true,true,rfl,om,(fun h=>by cases h),(fun _=>⟨om,om,om,ai⟩),(fun h=>by cases h),?_⟩;exact (xt b ao)
     ·(conv=>whnf);refine (BN _ _).mono ?_;rintro _ bc ⟨rfl,ap⟩;(conv=>whnf);refine iN ?_;(conv=>whnf);refine AB.mul _ rfl om om ?_;(conv=>whnf);refine AB.add _ rfl om om ?_;(conv=>whnf);refine jP (((n - 1+1:Nat):Int)) ?_;(conv=>whnf);refine ⟨n - 1+1,om,10 * g+B6 (m - 2),true,true,rfl,om,(fun h=>by cases h),(fun _=>⟨om,om,om,ai⟩),(fun h=>by cases h),?_⟩;exact (xt b ap)
  .by_cases q:ak=0/\t=false
   .rw [if_pos q] at f;obtain ⟨af,ar⟩:=q;subst ar;(conv=>whnf);refine iY ?_;(conv=>whnf);refine jI (h.ext b) d rfl aa ?_;intro o r p e;(conv=>whnf);refine jO e rfl ?_;(conv=>whnf);refine AB.sub (((n - 1:Nat):Int)) om om om ?_;(conv=>whnf);refine iN ?_;(conv=>whnf);refine iY ?_;(conv=>whnf);refine jP (((d+1:Nat):Int)) ?_;(conv=>whnf);exact ⟨d+1,om,_,_,_,rfl,om,by simp_all,by simp [*],om,b⟩
   .rw [if_neg q] at f;by_cases z:B6 ak<0
    .rw [if_pos z] at f;have ag:DI xs=(0,false):=by
      rw [s];refine XO (TW (i:=d+1) ?_);rw [s,List.take_append_of_le_length om] at f;exact f
     cases t
     .have af:¬ ak=0:=fun u=>q ⟨u,rfl⟩;(conv=>whnf);refine iY ?_;(conv=>whnf);refine jI (h.ext b) d rfl aa ?_;intro o r p e;(conv=>whnf);refine jO e rfl ?_;(conv=>whnf);refine AB.sub (((n - 1:Nat):Int)) om om om ?_;(conv=>whnf);refine iN ?_;(conv=>whnf);refine iN ?_;(conv=>whnf);refine (BN _ _).mono ?_;rintro _ ay ⟨rfl,ac⟩;(conv=>whnf);refine iY ?_;(conv=>whnf);exact ⟨by simp_all,(xt b ac)⟩
     ·(conv=>whnf);refine iY ?_;(conv=>whnf);refine jI (h.ext b) d rfl aa ?_;intro o r p e;(conv=>whnf);refine jO e rfl ?_;(conv=>whnf);refine AB.sub (((n - 1:Nat):Int)) om om om ?_;(conv=>whnf);refine iN ?_;(conv=>whnf);with_reducible refine AF (fun j=>?_) (fun j=>?_)
      ·(conv=>whnf);refine (BN _ _).mono ?_;rintro _ am ⟨rfl,x⟩;(conv=>whnf);refine iY ?_;(conv=>whnf);exact ⟨by simp_all,(xt b x)⟩
      ·(conv=>whnf);refine (BN _ _).mono ?_;rintro _ az ⟨rfl,ad⟩;(conv=>whnf);refine iY ?_;(conv=>whnf);exact ⟨by simp_all,(xt b ad)⟩
    .rw [if_neg z] at f;cases t
     .have af:¬ ak=0:=fun u=>q ⟨u,rfl⟩;(conv=>whnf);refine iY ?_;(conv=>whnf);refine jI (h.ext b) d rfl aa ?_;intro o r p e;(conv=>whnf);refine jO e rfl ?_;(conv=>whnf);refine AB.sub (((n - 1:Nat):Int)) om om om ?_;(conv=>whnf);refine iN ?_;(conv=>whnf);refine iN ?_;(conv=>whnf);refine (BN _ _).mono ?_;rintro _ ay ⟨rfl,ac⟩;(conv=>whnf);refine iN ?_;(conv=>whnf);refine AB.mul _ rfl om om ?_;(conv=>whnf);refine AB.add _ rfl om om ?_;(conv=>whnf);refine jP (((d+1:Nat):Int)) ?_;(conv=>whnf);exact ⟨d+1,om,_,_,_,rfl,om,by simp_all,by simp [*],om,(xt b ac)⟩
     ·(conv=>whnf);refine iY ?_;(conv=>whnf);refine jI (h.ext b) d rfl aa ?_;intro o r p e;(conv=>whnf);refine jO e rfl ?_;(conv=>whnf);refine AB.sub (((n - 1:Nat):Int)) om om om ?_;(conv=>whnf);refine iN ?_;(conv=>whnf);with_reducible refine AF (fun j=>?_) (fun j=>?_)
      ·(conv=>whnf);refine (BN _ _).mono ?_;rintro _ am ⟨rfl,x⟩;(conv=>whnf);refine iN ?_;(conv=>whnf);refine AB.mul _ rfl om om ?_;(conv=>whnf);refine AB.add _ rfl om om ?_;(conv=>whnf);refine jP (((d+1:Nat):Int)) ?_;(conv=>whnf);exact ⟨d+1,om,_,_,_,rfl,om,by simp_all,by simp [*],om,(xt b x)⟩
      ·(conv=>whnf);refine (BN _ _).mono ?_;rintro _ az ⟨rfl,ad⟩;(conv=>whnf);refine iN ?_;(conv=>whnf);refine AB.mul _ rfl om om ?_;(conv=>whnf);refine AB.add _ rfl om om ?_;(conv=>whnf);refine jP (((d+1:Nat):Int)) ?_;(conv=>whnf);exact ⟨d+1,om,_,_,_,rfl,om,by simp_all,by simp [*],om,(xt b ad)⟩
 .have a6:d=n:=om
  cases ab
  .have ae:=a0 rfl;have ah:=a4 rfl a6;rw [List.take_of_length_le om,s] at ae;have ag:=UZ ah ae;rw [<- s] at ag;(conv=>whnf);refine iN ?_;(conv=>whnf);exact ⟨by simp_all,b⟩
  .obtain ⟨_,bj,bk,ag⟩:=a1 rfl;by_cases av:g=0
   .rw [if_pos av] at ag;subst av;(conv=>whnf);refine iN ?_;(conv=>whnf);refine AB.neg 0 rfl om om ?_;(conv=>whnf);exact ⟨by simp_all,b⟩
   .rw [if_neg av] at ag;(conv=>whnf);refine iN ?_;(conv=>whnf);refine AB.neg (-g) rfl om om ?_;(conv=>whnf);exact ⟨by simp_all,b⟩
end Go.Proofs.YtalgenmoljcnmaaGreatDoor
