/- Parts of the proof; no conditions of its own. -/
import Derived.Test.YtalgenmoljcnmaaGreatDoorVcApp
import Derived.Test.YtalgenmoljcnmaaGreatDoorNum
import Derived.Test.YtalgenmoljcnmaaGreatDoorCardsM
import Derived.Test.YtalgenmoljcnmaaGreatDoorLibSl
import Derived.Test.YtalgenmoljcnmaaGreatDoorVcWrite
namespace Go.M
open Go Go.Vc
variable {α:Type} {r:Int->Int->Prop} {x:Int} {A:List α} {k:Nat} {L:List Int}
theorem Jg.put (hs:Jg r) {S1 S2:List Int} (h:(S1++S2).Pairwise (DW r)) (h1:S1=[]\/∃ z,S1.getLast? = some z/\DW r z x) (h2:S2=[]\/∃ z,S2.head? = some z/\DW r x z) :
  (S1++x :: S2).Pairwise (DW r):=by
 refine hs.inserted h (fun d a=>?_) h1;rcases h2 with rfl | ⟨z,c,b⟩
 .cases a
 .cases S2 with
  | nil=>cases a
  | cons f e =>
   simp at c;subst c;rcases List.mem_cons.1 a with rfl | a
   .exact b
   .exact hs.lexTr b ((List.pairwise_cons.1 (List.pairwise_append.1 h).2.1).1 d a)
theorem GY {x:α} (h:A[k]? = some x):(A.take (k+1)).getLast? = some x:=by
 rw [GX h];simp
theorem HU {x:α} (h:A[k]? = some x):(A.drop k).head? = some x:=by
 rw [FW h];rfl
theorem Xp (h:Np L) (hx:L[k]? = some x):∀ y∈L.take k,y<x:=by
 have a:L=L.take k++x :: L.drop (k+1):=by
  have:=List.take_append_drop k L;rw [FW hx] at this;exact this.symm
 intro y b;unfold Np at h;rw [a] at h;exact (List.pairwise_append.1 h).2.2 y b x sI
theorem LP {z:Int} (h:z∈sortL r L):z∈L:=(En r L).subset h
theorem Hi (h:Np L):L.Nodup:=h.imp (fun h=>by omega)
theorem Pd {M:List Int} (h:Np L) (hs:M.Sublist L):Np M:=h.sublist hs
theorem Jg.ins_done (hs:Jg r) (hL:Np L) {m:Nat} (hx:L[k]? = some x) (h2:∀ y∈(Go.M.sortL r (L.take k)).drop m,DW r x y)
  (h1:m=0\/∃ z,(Go.M.sortL r (L.take k))[m - 1]? = some z/\DW r z x) :
  (Go.M.sortL r (L.take k)).take m++x :: (Go.M.sortL r (L.take k)).drop m=Go.M.sortL r (L.take (k+1)):=by
 have d:(L.take (k+1)).Nodup:=Hi (Pd hL (List.take_sublist _ _));have h:=hs.sortL (Hi (Pd hL (List.take_sublist k L)));have e:=En r (L.take k);generalize Go.M.sortL r (L.take k)=M at *;refine hs.is d ?_ ?_
 .rw [GX hx];have b:(M.take m++x :: M.drop m).Perm (x :: M):=by
   have:=List.perm_middle (a:=x) (l₁:=M.take m) (l₂:=M.drop m);rwa [List.take_append_drop] at this
  exact b.trans ((e.cons x).trans ((List.perm_append_singleton x _).symm))
 .refine hs.inserted (by rwa [List.take_append_drop]) h2 ?_;rcases h1 with rfl | ⟨z,f,g⟩
  .exact .inl sI
  .by_cases c:m=0
   .subst c;exact .inl sI
   .right;refine ⟨z,?_,g⟩;have:=GY f;rwa [show m - 1+1=m by omega] at this
theorem Xl (L:List Int):Go.M.sortL r (L.take 1)++L.drop 1=L:=by
 cases L with
 | nil=>rfl
 | cons a L=>simp [Go.M.sortL,Go.M.insL]
theorem FC (r:Int->Int->Prop) (L:List Int):(Go.M.sortL r L).length=L.length:=(En r L).length_eq
end Go.M
namespace Go.Proofs.YtalgenmoljcnmaaGreatDoor
open Go Go.RowKit Go.Vc Go.M
variable {w:World} {b n c t p q m g s:Nat} {A X Y B L R:List Int} {r:Int->Int->Prop} {cmp:Int->Int->Int} {cap:List Value} {x y:Int}
theorem Gc {F:Value} {Z:List Int} (h:Bw eI w (some ⟨b,0,none⟩) n t (A++(X++(Y++(Z++B))))) (hp:A.length=p) (hm:X.length=m) (hz:Z.length=m) (hq:p+m+Y.length=q) (hn6:n<=1000000) :
  Dq 360 [.slice (some ⟨b,0,none⟩) n c,.int .i64 p,.int .i64 q,.int .i64 m,F] w (fun v w'=>v = .tuple #[]/\BY (AN (some ⟨b,0,none⟩)) w w'/\Bw eI w' (some ⟨b,0,none⟩) n t (A++(Z++(Y++(X++B))))):=by
 have al:=h.1;simp only [List.length_append] at al;refine oV Tryz.func360 ?_;refine lR [0,1,2,3,10] (fun (a:Nat) ao w'=>ao=[.slice (some ⟨b,0,none⟩) n c,.int .i64 p,.int .i64 q,.int .i64 m,.int .i64 a]/\a<=m/\BY (AN (some ⟨b,0,none⟩)) w w'/\Bw eI w' (some ⟨b,0,none⟩) n t (A++(Z.take a++(X.drop a++(Y++(X.take a++(Z.drop a++B))))))) (fun a=>m - a) 0 ⟨rfl,om,Vc.BY.refl _ _,by simpa using h⟩ ?_;rintro a aq _ w' ⟨rfl,av,aa,f⟩;by_cases aw:a<m
 .obtain ⟨d,ab⟩:∃ d,X[a]? = some d:=AA om;obtain ⟨e,ac⟩:∃ d,Z[a]? = some d:=AA om;have s:A++(Z.take a++(X.drop a++(Y++(X.take a++(Z.drop a++B)))))=(A++Z.take a)++d :: ((X.drop (a+1)++(Y++X.take a))++e :: (Z.drop (a+1)++B)):=by
   rw [FW ab,FW ac];simp
  have l:(A++Z.take a).length=p+a:=by simp;omega
  have o:(A++Z.take a).length+1+(X.drop (a+1)++(Y++X.take a)).length=q+a:=by simp;omega
  have am:=Oy (x:=d) (y:=e) (Z:=Z.drop (a+1)++B) l o;have g:=Go.M.Lg (x:=d) (B:=(X.drop (a+1)++(Y++X.take a))++e :: (Z.drop (a+1)++B)) l;have r:=O5 (x:=d) (y:=e) (Z:=Z.drop (a+1)++B) o;have u:(A++Z.take a)++e :: ((X.drop (a+1)++(Y++X.take a))++d :: (Z.drop (a+1)++B))=A++(Z.take (a+1)++(X.drop (a+1)++(Y++(X.take (a+1)++(Z.drop (a+1)++B))))):=by
   rw [GX ab,GX ac];simp
  rw [u] at am;rw [s] at f;generalize (A++Z.take a)++d :: ((X.drop (a+1)++(Y++X.take a))++e :: (Z.drop (a+1)++B))=ap at *;have az:=f.1;have ad:(ap.set (p+a) e)[q+a]? = some e:=by rw [List.getElem?_set_ne om];exact r
  clear s u l o h;refine iY<|Av A8 mixed (pZ [0,5,10,15,20,25,30,35,40,45,50,55,60,70,75,80,85,90,66,96,100,108,110,118]) kR kR fun a2 z=>DN.add (((p+a:Nat):Int)) om om om<|DN.add (((q+a:Nat):Int)) om om om<|DN.add (((q+a:Nat):Int)) om om om<|pW (sz:=1) (q+a) rfl om ?_;have ak:=AT AI f r;refine DN.add (((p+a:Nat):Int)) om om om<|pW (sz:=1) (p+a) rfl om ?_;have aj:=AT AI f g;refine dO ak rfl<|dO aj rfl<|pW (sz:=1) (p+a) rfl om ?_;have ar:=AT AI f g;refine C5 (k:=p+a) (j:=0) kR AI (f.ext z) g dE rfl (e) rfl ?_;intro a0 ag ae;have ax:=Eo g ((e));refine pW (sz:=1) (q+a) rfl om ?_;have au:=AT AI f r;refine C5 (k:=q+a) (j:=0) kR AI ae ad dE rfl (d) rfl ?_;intro a1 ah af;have ay:=Eo ad ((d));exact jP (((a+1:Nat):Int)) ⟨a+1,om,rfl,om,(((aa.trans z.mod).trans (ag.but.mono (fun an i=>⟨_,rfl,i⟩))).trans (ah.but.mono (fun an i=>⟨_,rfl,i⟩))),by simpa [List.take_add_one,-List.take_append_getElem, *] using af⟩
 .have ai:a=m:=om
  subst ai;rw [List.take_of_length_le om,List.take_of_length_le om,List.drop_eq_nil_of_le om,List.drop_eq_nil_of_le om] at f;exact iN ⟨rfl,aa,f⟩
theorem Ih (hs:Jg r) (hr:∀ i j,cmp i j<0↔r i j) (hi:∀ i j,BM (cmp i j)) (h:Bw eI w (some ⟨b,0,none⟩) n t (A++(L++B))) (hL:Np L)
  (hg:∀ i∈L,∀ j∈L,∀ w',BY (AN (some ⟨b,0,none⟩)) w w'->Ev Tryz.prog g (.int .i64 i :: .int .i64 j :: cap) w' (fun v w''=>v = .int .i64 (cmp i j)/\AD w' w''))
 (hp:A.length=p) (hq:p+L.length=q) (hn6:n<=1000000) :
  Dq 339 [.slice (some ⟨b,0,none⟩) n c,.int .i64 p,.int .i64 q,.func (.func g) ⟨[]⟩ ⟨cap⟩] w (fun v w'=>v = .tuple #[]/\BY (AN (some ⟨b,0,none⟩)) w w'/\Bw eI w' (some ⟨b,0,none⟩) n t (A++(sortL r L++B))):=by
 have bl:=h.1;simp only [List.length_append] at bl;have b2:L.Nodup:=hL.imp (fun h=>by omega);refine oV Tryz.func339 ?_;refine jP (((p+1:Nat):Int))<|lR [0,1,2,3,8] (fun (d:Nat) au w'=>au=[.slice (some ⟨b,0,none⟩) n c,.int .i64 p,.int .i64 q,.func (.func g) ⟨[]⟩ ⟨cap⟩,.int .i64 (p+d:Nat)]/\1<=d/\(d<=L.length\/d=1)/\BY (AN (some ⟨b,0,none⟩)) w w'/\Bw eI w' (some ⟨b,0,none⟩) n t (A++(sortL r (L.take d)++(L.drop d++B)))) (fun d=>L.length+1 - d) 1 ⟨rfl,om,om,Vc.BY.refl _ _,by rw [<- List.append_assoc (sortL r (L.take 1)),Xl];exact h⟩ ?_;rintro d bu _ w' ⟨rfl,b0,bz,aw,z⟩;by_cases bh:d<L.length
 .obtain ⟨o,ah⟩:∃ o,L[d]? = some o:=AA bh;have bo:=List.mem_of_getElem? ah;have bj:=Xp hL ah;have bd:=FC r (L.take d);have ax:∀ f∈sortL r (L.take d),f∈L.take d:=fun f aa=>LP aa;have a0:=fun a=>hs.ins_done (m:=a) hL ah;rw [List.length_take] at bd;generalize sortL r (L.take d)=e at *;refine iY<|lR [0,1,2,3,8,9] (fun (a:Nat) au aj=>au=[.slice (some ⟨b,0,none⟩) n c,.int .i64 p,.int .i64 q,.func (.func g) ⟨[]⟩ ⟨cap⟩,.int .i64 (p+d:Nat),.int .i64 (p+a:Nat)]/\a<=d/\(∀ af∈e.drop a,DW r o af)/\BY (AN (some ⟨b,0,none⟩)) w aj/\Bw eI aj (some ⟨b,0,none⟩) n t (A++(e.take a++o :: (e.drop a++(L.drop (d+1)++B))))) (fun a=>a) d ⟨rfl,om,by rw [List.drop_eq_nil_of_le om];simp,aw,by rw [FW ah] at z;rw [List.take_of_length_le om,List.drop_eq_nil_of_le om];simpa using z⟩ ?_;rintro a bv _ aj ⟨rfl,b1,ap,ag,s⟩;have a3:(A++e.take a).length=p+a:=by simp;omega
  by_cases bk:a=0
  .subst bk;have an:=a0 0 ap (.inl rfl);have ao:A++(e.take 0++o :: (e.drop 0++(L.drop (d+1)++B)))=A++(sortL r (L.take (d+1))++(L.drop (d+1)++B)):=by
    rw [<- an];simp
   rw [ao] at s;exact dH (pB [0,3,5,7,8,10,12,14,16,18,21,23,25,27,29,31,33]) fun a8 l=>iN<|jP (((p+d+1:Nat):Int)) ⟨d+1,om,rfl,om,om,(ag.trans (AD.mod l)),(s.ext l)⟩
  .obtain ⟨f,aa⟩:∃ f,e[a - 1]? = some f:=AA om;have a2:=List.mem_of_getElem? aa;have bq:f∈L:=List.mem_of_mem_take (ax f a2);have br:=bj f (ax f a2);have az:=fun a7 (ak:AD aj a7)=>hg o bo f bq a7 (ag.trans ak.mod);have bn:e.take a=e.take (a - 1)++[f]:=by
    have:=GX aa;rwa [show a - 1+1=a by omega] at this
   have a1:e.drop (a - 1)=f :: e.drop a:=by
    have:=FW aa;rwa [show a - 1+1=a by omega] at this
   have ac:A++(e.take a++o :: (e.drop a++(L.drop (d+1)++B)))=(A++e.take (a - 1))++f :: ([]++o :: (e.drop a++(L.drop (d+1)++B))):=by
    rw [bn];simp
   have ai:(A++e.take (a - 1)).length=p+a - 1:=by simp;omega
   have aq:=Oy (x:=f) (y:=o) (Y:=[]) (Z:=e.drop a++(L.drop (d+1)++B)) (j:=p+a) ai (by simp;omega);have ae:=Go.M.Lg (x:=f) (B:=[]++o :: (e.drop a++(L.drop (d+1)++B))) ai;have ab:=O5 (x:=f) (y:=o) (Y:=[]) (Z:=e.drop a++(L.drop (d+1)++B)) (j:=p+a) (X:=A++e.take (a - 1)) (by simp;omega);have ad:(A++e.take (a - 1))++o :: ([]++f :: (e.drop a++(L.drop (d+1)++B)))=A++(e.take (a - 1)++o :: (e.drop (a - 1)++(L.drop (d+1)++B))):=by
    rw [a1];simp
   rw [ad] at aq;by_cases ay:cmp o f<0
   .have bi:∀ af∈e.drop (a - 1),DW r o af:=by
     rw [a1];intro af ar;rcases List.mem_cons.1 ar with rfl | ar
     .exact .inl ((hr _ _).1 ay)
     .exact ap af ar
    rw [ac] at s;generalize (A++e.take (a - 1))++f :: ([]++o :: (e.drop a++(L.drop (d+1)++B)))=a9 at *;have bp:=s.1;have a6:(a9.set (p+a) f)[p+a - 1]? = some f:=by rw [List.getElem?_set_ne om];exact ae
    have bm:(a9.set (p+a) f).set (p+a - 1) o=A++(e.take (a - 1)++o :: (e.drop (a - 1)++(L.drop (d+1)++B))):=by rw [List.set_comm _ _ om];exact aq
    clear ac ad a3 ai h z;refine dH (pB [0,3,5,7,8,10,12,14,16,18,21,23,25,27,29,31,33]) fun a8 l=>iY<|CN (sz:=1) kR (p+a) rfl om ?_;have am:=AT AI s ab;refine dO am rfl<|AB.sub (((p+a - 1:Nat):Int)) om om om ⟨l,jW (sz:=1) (p+a - 1) rfl om ?_⟩;have al:=AT AI (s.ext l) ae;refine ⟨l,jO al rfl ⟨l,dM (az _ l) fun bt u=>⟨(xt l u),iY<|Av A8 mixed (pZ [0,5,10,15,20,25,30,35,40,50,55,60,46,66,70,78,80,88]) kR kR fun b5 av=>DN.sub (((p+a - 1:Nat):Int)) om om om<|DN.sub (((p+a - 1:Nat):Int)) om om om<|pW (sz:=1) (p+a - 1) rfl om ?_⟩⟩⟩;have be:=AT AI (s.ext (xt l u)) ae;refine pW (sz:=1) (p+a) rfl om ?_;have bf:=AT AI (s.ext (xt l u)) ab;refine dO be rfl<|dO bf rfl<|pW (sz:=1) (p+a) rfl om ?_;have bw:=AT AI (s.ext (xt l u)) ab;refine C5 (k:=p+a) (j:=0) kR AI (s.ext (xt (xt l u) av)) ab dE rfl (f) rfl ?_;intro b6 bb a';have b3:=Eo ab ((f));refine pW (sz:=1) (p+a - 1) rfl om ?_;have bx:=AT AI (s.ext (xt l u)) ae;refine C5 (k:=p+a - 1) (j:=0) kR AI a' a6 dE rfl (o) rfl ?_;intro b7 bc ba;have b4:=Eo a6 ((o));exact AB.sub (((p+a - 1:Nat):Int)) om om om ⟨a - 1,om,by rw [show p+(a - 1)=p+a - 1 by omega];rfl,om,bi,((ag.trans (xt (xt l u) av).mod).trans (bb.but.mono (fun i hi=>⟨_,rfl,hi⟩))).trans (bc.but.mono (fun i hi=>⟨_,rfl,hi⟩)),by rw [<- bm];exact ba⟩
   .have an:=a0 a ap (.inr ⟨f,aa,hs.lex_of_not br (fun bg=>ay ((hr _ _).2 bg))⟩);have ao:A++(e.take a++o :: (e.drop a++(L.drop (d+1)++B)))=A++(sortL r (L.take (d+1))++(L.drop (d+1)++B)):=by
     rw [<- an];simp
    have a4:(A++(e.take a++o :: (e.drop a++(L.drop (d+1)++B))))[p+a - 1]? = some f:=by rw [ac];exact ae
    have a5:(A++(e.take a++o :: (e.drop a++(L.drop (d+1)++B))))[p+a]? = some o:=by rw [ac];exact ab
    rw [ao] at s a4 a5;have bp:=s.1;clear ac ad a3 ai h z aq;refine dH (pB [0,3,5,7,8,10,12,14,16,18,21,23,25,27,29,31,33]) fun a8 l=>iY<|CN (sz:=1) kR (p+a) rfl om ?_;have am:=AT AI s a5;refine dO am rfl<|AB.sub (((p+a - 1:Nat):Int)) om om om ⟨l,jW (sz:=1) (p+a - 1) rfl om ?_⟩;have al:=AT AI (s.ext l) a4;exact ⟨l,jO al rfl ⟨l,dM (az _ l) fun bt u=>⟨(xt l u),iN<|jP (((p+d+1:Nat):Int)) ⟨d+1,om,rfl,om,om,(ag.trans (AD.mod (xt l u))),(s.ext (xt l u))⟩⟩⟩⟩
 .have ak:L.take d=L:=List.take_of_length_le om;have ad:L.drop d=[]:=List.drop_eq_nil_of_le om;rw [ak,ad,List.nil_append] at z;exact iN ⟨rfl,aw,z⟩
theorem K2 {gf:Nat} (h:Bw eI w (some ⟨b,0,none⟩) n t (A++(X++(Y++B)))) (hp:A.length=p) (hm:p+X.length=m) (hq:m+Y.length=q) (hX:0<X.length) (hY:0<Y.length) (hn6:n<=1000000) :
  Dq 353 [.slice (some ⟨b,0,none⟩) n c,.int .i64 p,.int .i64 m,.int .i64 q,.func (.func gf) ⟨[]⟩ ⟨cap⟩] w (fun v w'=>v = .tuple #[]/\BY (AN (some ⟨b,0,none⟩)) w w'/\Bw eI w' (some ⟨b,0,none⟩) n t (A++(Y++(X++B)))):=by
 have av:=h.1;simp only [List.length_append] at av;refine oV Tryz.func353 ?_;refine AB.sub (((m - (p):Nat):Int)) om om om ?_;refine AB.sub (((q - (m):Nat):Int)) om om om<|lR [0,2,4,10,11] (fun (ad:Nat) ax w'=>∃ (a d:Nat) (f g e i:List Int),ax=[.slice (some ⟨b,0,none⟩) n c,.int .i64 m,.func (.func gf) ⟨[]⟩ ⟨cap⟩,.int .i64 a,.int .i64 d]/\ad=a+d/\g.length=a/\e.length=d/\0<a/\0<d/\p+f.length+a=m/\f++(e++(g++i))=Y++X/\BY (AN (some ⟨b,0,none⟩)) w w'/\Bw eI w' (some ⟨b,0,none⟩) n t (A++(f++(g++(e++(i++B)))))) (fun ad=>ad) (X.length+Y.length) ⟨m - p,q - m,[],X,Y,[],rfl,om,om,om,om,om,by simp;omega,sI,Vc.BY.refl _ _,by simpa using h⟩ ?_;rintro ad ay _ w' ⟨a,d,f,g,e,i,rfl,a1,ah,ar,ap,au,am,z,af,o⟩;have aw:=o.1;simp only [List.length_append] at aw;have ae:(A++f).length=m - a:=by simp;omega
 by_cases az:a=d
 .have k:Bw eI w' (some ⟨b,0,none⟩) n t ((A++f)++(g++([]++(e++(i++B))))):=by simpa using o
  have j:=Gc (F := .func (.func gf) ⟨[]⟩ ⟨cap⟩) (c:=c) (p:=m - a) (q:=m) (m:=a) k ae ah om (by simp;omega) hn6;have l:(A++f)++(e++([]++(g++(i++B))))=A++(Y++(X++B)):=by
   rw [<- List.append_assoc Y X B,<- z];simp
  rw [l] at j;have aq:(a:Int)=d:=om
  refine iF<|AB.sub (((m - (a):Nat):Int)) om om om<|(j).mono ?_;rintro _ ai ⟨rfl,aa,r⟩;exact ⟨rfl,(af.trans aa),r⟩
 have aq:¬ (a:Int)=d:=om
 by_cases a0:d<a
 .have an:g=g.take d++g.drop d:=(List.take_append_drop _ _).symm;have ab:(g.take d).length=d:=by simp;omega
  have ac:(g.drop d).length=a - d:=by simp;omega
  generalize g.take d=s at *;generalize g.drop d=u at *;subst an;have k:Bw eI w' (some ⟨b,0,none⟩) n t ((A++f)++(s++(u++(e++(i++B))))):=by simpa using o
  have j:=Gc (F := .func (.func gf) ⟨[]⟩ ⟨cap⟩) (c:=c) (p:=m - a) (q:=m) (m:=d) k ae ab ar om hn6;have l:(A++f)++(e++(u++(s++(i++B))))=A++((f++e)++(u++(s++(i++B)))):=sI
  rw [l] at j;have ag:(f++e)++(s++(u++i))=Y++X:=by rw [<- z];simp
  have al:p+(f++e).length+(a - d)=m:=by simp;omega
  clear k z o l;generalize f++e=aj at *;refine iT<|iY<|AB.sub (((m - (a):Nat):Int)) om om om<|(j).mono ?_;rintro _ ai ⟨rfl,aa,r⟩;exact AB.sub (((a - (d):Nat):Int)) om om om ⟨(a - d)+d,om,a - d,d,aj,u,s,i,rfl,rfl,ac,ab,om,au,al,ag,af.trans aa,r⟩
 .have ao:e=e.take (d - a)++e.drop (d - a):=(List.take_append_drop _ _).symm;have ab:(e.take (d - a)).length=d - a:=by simp;omega
  have ac:(e.drop (d - a)).length=a:=by simp;omega
  generalize e.take (d - a)=x at *;generalize e.drop (d - a)=y at *;subst ao;have k:Bw eI w' (some ⟨b,0,none⟩) n t ((A++f)++(g++(x++(y++(i++B))))):=by simpa using o
  have j:=Gc (F := .func (.func gf) ⟨[]⟩ ⟨cap⟩) (c:=c) (p:=m - a) (q:=m+d - a) (m:=a) k ae ah ac om hn6;have l:(A++f)++(y++(x++(g++(i++B))))=A++(f++(y++(x++((g++i)++B)))):=sI
  rw [l] at j;have ag:f++(x++(y++(g++i)))=Y++X:=by rw [<- z];simp
  clear k z o l;generalize g++i=ak at *;refine iT<|iN<|AB.sub (((m - (a):Nat):Int)) om om om<|jP (((m+d:Nat):Int))<|AB.sub (((m+d - (a):Nat):Int)) om om om<|(j).mono ?_;rintro _ ai ⟨rfl,aa,r⟩;exact AB.sub (((d - (a):Nat):Int)) om om om ⟨a+(d - a),om,a,d - a,f,y,x,ak,rfl,rfl,ac,ab,ap,om,am,ag,af.trans aa,r⟩
theorem Po (hs:Jg r) (hR:R.Pairwise (DW r)) (hlt:∀ y∈R,x<y) (h1:s=0\/∃ y,R[s - 1]? = some y/\r y x) (h2:R.length<=s\/∃ y,R[s]? = some y/\¬ r y x) :
  (R.take s++x :: R.drop s).Perm ([x]++R)/\(R.take s++x :: R.drop s).Pairwise (DW r):=by
 refine ⟨?_,hs.put (by rwa [List.take_append_drop]) ?_ ?_⟩
 .have:=List.perm_middle (a:=x) (l₁:=R.take s) (l₂:=R.drop s);rwa [List.take_append_drop] at this
 .rcases h1 with rfl | ⟨y,b,c⟩
  .exact .inl sI
  .by_cases e:s=0
   .subst e;exact .inl sI
   .refine .inr ⟨y,?_,.inl c⟩;have:=GY b;rwa [show s - 1+1=s by omega] at this
 .rcases h2 with d | ⟨y,b,c⟩
  .exact .inl (List.drop_eq_nil_of_le d)
  .exact .inr ⟨y,HU b,hs.lex_of_not (hlt y (List.mem_of_getElem? b)) c⟩
theorem Oa (hs:Jg r) (hL:L.Pairwise (DW r)) (hlt:∀ z∈L,z<y) (h1:s=0\/∃ z,L[s - 1]? = some z/\¬ r y z) (h2:L.length<=s\/∃ z,L[s]? = some z/\r y z) :
  (L.take s++y :: L.drop s).Perm (L++[y])/\(L.take s++y :: L.drop s).Pairwise (DW r):=by
 refine ⟨?_,hs.put (by rwa [List.take_append_drop]) ?_ ?_⟩
 .have:=List.perm_middle (a:=y) (l₁:=L.take s) (l₂:=L.drop s);rw [List.take_append_drop] at this;exact this.trans (List.perm_append_singleton y L).symm
 .rcases h1 with rfl | ⟨z,b,c⟩
  .exact .inl sI
  .by_cases e:s=0
   .subst e;exact .inl sI
   .refine .inr ⟨z,?_,hs.lex_of_not (hlt z (List.mem_of_getElem? b)) c⟩;have:=GY b;rwa [show s - 1+1=s by omega] at this
 .rcases h2 with d | ⟨z,b,c⟩
  .exact .inl (List.drop_eq_nil_of_le d)
  .exact .inr ⟨z,HU b,.inl c⟩
theorem KZ {α:Type} {A L B:List α} {i:Nat} {x:α} (hp:A.length=p) (hi:p<=i) (h:L[i - p]? = some x):(A++(L++B))[i]? = some x:=by
 rw [MW (j:=i - p) om,NZ (List.getElem?_eq_some_iff.1 h).1];exact h
theorem RF (hs:Jg r) (hr:∀ i j,cmp i j<0↔r i j) (h:Bw eI w (some ⟨b,0,none⟩) n t (A++([x]++(R++B)))) (hR:R.Pairwise (DW r)) (hR0:0<R.length) (hlt:∀ y∈R,x<y)
  (hg:∀ i∈R,∀ w',BY (AN (some ⟨b,0,none⟩)) w w'->Ev Tryz.prog g (.int .i64 i :: .int .i64 x :: cap) w' (fun v w''=>v = .int .i64 (cmp i x)/\AD w' w''))
 (hp:A.length=p) (hm:p+1=m) (hq:m+R.length=q) (hn6:n<=1000000) :
  Dq 340 [.slice (some ⟨b,0,none⟩) n c,.int .i64 p,.int .i64 m,.int .i64 q,.func (.func g) ⟨[]⟩ ⟨cap⟩] w (fun v w'=>v = .tuple #[]/\BY (AN (some ⟨b,0,none⟩)) w w'/\∃ M,M.Perm ([x]++R)/\M.Pairwise (DW r)/\Bw eI w' (some ⟨b,0,none⟩) n t (A++(M++B))):=by
 have a':=h.1;simp only [List.length_append,List.length_cons,List.length_nil] at a';have af:(A++([x]++(R++B)))[p]? = some x:=Go.M.Lg hp;have aq:∀ i y,m<=i->R[i - m]? = some y->(A++([x]++(R++B)))[i]? = some y:=fun i y ab l=>by
  have:A++([x]++(R++B))=(A++[x])++(R++B):=sI
  rw [this];exact KZ (by simp;omega) ab l
 have bp:(m:Int) - p=1:=om
 refine oV Tryz.func340 ?_;refine AB.sub 1 om om om ?_;refine lR [0,1,4,10,11] (fun (u:Nat) aj w'=>∃ i j:Nat,aj=[.slice (some ⟨b,0,none⟩) n c,.int .i64 p,.func (.func g) ⟨[]⟩ ⟨cap⟩,.int .i64 i,.int .i64 j]/\j - i<=u/\m<=i/\i<=j/\j<=q/\(i - m=0\/∃ y,R[i - m - 1]? = some y/\r y x)/\(R.length<=j - m\/∃ y,R[j - m]? = some y/\¬ r y x)/\BY (AN (some ⟨b,0,none⟩)) w w'/\Bw eI w' (some ⟨b,0,none⟩) n t (A++([x]++(R++B)))) (fun u=>u) (q - m) ⟨m,q,rfl,om,om,om,om,om,om,Vc.BY.refl _ _,h⟩ ?_;rintro u bf _ w' ⟨i,j,rfl,bq,bo,bl,bm,a3,a4,ac,e⟩;by_cases bn:i<j
 .obtain ⟨o,ae⟩:∃ o,o=(i+j) / 2:=⟨_,rfl⟩;obtain ⟨y,l⟩:∃ y,R[o - m]? = some y:=AA om;have ag:=aq o y om l;have bd:=List.mem_of_getElem? l;have ap:=fun au (a2:AD w' au)=>hg y bd au (ac.trans a2.mod);rw [ae] at ag;generalize A++([x]++(R++B))=aw at *;have bc:=e.1;by_cases ao:cmp y x<0
  .have bh:(i+j) / 2+1 - m=0\/∃ y,R[(i+j) / 2+1 - m - 1]? = some y/\r y x := .inr ⟨y,by rw [<- ae,show o+1 - m - 1=o - m by omega];exact l,(hr _ _).1 ao⟩;refine iY<|jP (((i+j:Nat):Int))<|As (k := .u64) kR kR (EW om om)<|Ex dE<|As kR kR (Bo om om)<|dH (pB [0,2,4,6,8,10,13,15,17,19,21]) fun av d=>CN (sz:=1) kR ((i+j) / 2) rfl om ?_;have aa:=AT AI e ag;refine dO aa rfl<|jW (sz:=1) p rfl om ?_;have z:=AT AI (e.ext d) af;exact ⟨d,jO z rfl ⟨d,dM (ap _ d) fun be s=>⟨(xt d s),iY<|jP ((((i+j) / 2+1:Nat):Int)) ⟨u - 1,om,_,_,rfl,om,om,om,om,om,om,((ac.trans d.mod).trans s.mod),(e.ext (xt d s))⟩⟩⟩⟩
  .have bi:R.length<=(i+j) / 2 - m\/∃ y,R[(i+j) / 2 - m]? = some y/\¬ r y x := .inr ⟨y,by rw [<- ae];exact l,fun o=>ao ((hr _ _).2 o)⟩;refine iY<|jP (((i+j:Nat):Int))<|As (k := .u64) kR kR (EW om om)<|Ex dE<|As kR kR (Bo om om)<|dH (pB [0,2,4,6,8,10,13,15,17,19,21]) fun av d=>CN (sz:=1) kR ((i+j) / 2) rfl om ?_;have aa:=AT AI e ag;refine dO aa rfl<|jW (sz:=1) p rfl om ?_;have z:=AT AI (e.ext d) af;exact ⟨d,jO z rfl ⟨d,dM (ap _ d) fun be s=>⟨(xt d s),iN ⟨u - 1,om,_,_,rfl,om,om,om,om,om,om,((ac.trans d.mod).trans s.mod),(e.ext (xt d s))⟩⟩⟩⟩
 .have a6:i=j:=om
  subst a6;have a7:=Po hs hR hlt a3 a4;refine iN<|lR [0,10,13] (fun (a:Nat) aj ak=>aj=[.slice (some ⟨b,0,none⟩) n c,.int .i64 i,.int .i64 (p+a:Nat)]/\a<=i - m/\BY (AN (some ⟨b,0,none⟩)) w ak/\Bw eI ak (some ⟨b,0,none⟩) n t (A++(R.take a++x :: (R.drop a++B)))) (fun a=>i - m - a) 0 ⟨rfl,om,ac,by simpa using e⟩ ?_;rintro a bg _ ak ⟨rfl,bt,an,f⟩;by_cases br:a<i - m
  .obtain ⟨y,l⟩:∃ y,R[a]? = some y:=AA om;have al:A++(R.take a++x :: (R.drop a++B))=(A++R.take a)++x :: ([]++y :: (R.drop (a+1)++B)):=by
    rw [FW l];simp
   have ah:(A++R.take a).length=p+a:=by simp;omega
   have bb:=Oy (x:=x) (y:=y) (Y:=[]) (Z:=R.drop (a+1)++B) (j:=p+a+1) ah (by simp;omega);have ad:=Go.M.Lg (x:=x) (B:=[]++y :: (R.drop (a+1)++B)) ah;have ai:=O5 (x:=x) (y:=y) (Y:=[]) (Z:=R.drop (a+1)++B) (j:=p+a+1) (X:=A++R.take a) (by simp;omega);have am:(A++R.take a)++y :: ([]++x :: (R.drop (a+1)++B))=A++(R.take (a+1)++x :: (R.drop (a+1)++B)):=by
    rw [GX l];simp
   rw [am] at bb;rw [al] at f;generalize (A++R.take a)++x :: ([]++y :: (R.drop (a+1)++B))=aw at *;have bc:=f.1;have ar:(aw.set (p+a) y)[p+a+1]? = some y:=by rw [List.getElem?_set_ne om];exact ai
   clear al am ah h e af aq;refine AB.sub (((i - 1:Nat):Int)) om om om<|iY<|Av A8 mixed (pZ [0,5,10,15,20,25,30,35,40,50,55,60,46,66,70,78,80,88]) kR kR fun av d=>DN.add (((p+a+1:Nat):Int)) om om om<|DN.add (((p+a+1:Nat):Int)) om om om<|pW (sz:=1) (p+a+1) rfl om ?_;have aa:=AT AI f ai;refine pW (sz:=1) (p+a) rfl om ?_;have z:=AT AI f ad;refine dO aa rfl<|dO z rfl<|pW (sz:=1) (p+a) rfl om ?_;have bj:=AT AI f ad;refine C5 (k:=p+a) (j:=0) kR AI (f.ext d) ad dE rfl (y) rfl ?_;intro bw a0 ax;have bu:=Eo ad ((y));refine pW (sz:=1) (p+a+1) rfl om ?_;have bk:=AT AI f ai;refine C5 (k:=p+a+1) (j:=0) kR AI ax ar dE rfl (x) rfl ?_;intro bx a1 ay;have bv:=Eo ar ((x));exact jP (((p+a+1:Nat):Int)) ⟨a+1,om,rfl,om,(((an.trans d.mod).trans (a0.but.mono (fun i ab=>⟨_,rfl,ab⟩))).trans (a1.but.mono (fun i ab=>⟨_,rfl,ab⟩))),by simpa [List.take_add_one,-List.take_append_getElem, *] using ay⟩
  .have ba:a=i - m:=om
   subst ba;have a5:A++(R.take (i - m)++x :: (R.drop (i - m)++B))=A++((R.take (i - m)++x :: R.drop (i - m))++B):=sI
   rw [a5] at f;obtain ⟨a8,a9⟩:=a7;generalize R.take (i - m)++x :: R.drop (i - m)=az at *;exact AB.sub (((i - 1:Nat):Int)) om om om<|iN ⟨rfl,an,az,a8,a9,f⟩
theorem RE (hs:Jg r) (hr:∀ i j,cmp i j<0↔r i j) (h:Bw eI w (some ⟨b,0,none⟩) n t (A++(L++([y]++B)))) (hL:L.Pairwise (DW r)) (hL0:1<L.length) (hlt:∀ z∈L,z<y)
  (hg:∀ i∈L,∀ w',BY (AN (some ⟨b,0,none⟩)) w w'->Ev Tryz.prog g (.int .i64 y :: .int .i64 i :: cap) w' (fun v w''=>v = .int .i64 (cmp y i)/\AD w' w''))
 (hp:A.length=p) (hm:p+L.length=m) (hq:m+1=q) (hn6:n<=1000000) :
  Dq 340 [.slice (some ⟨b,0,none⟩) n c,.int .i64 p,.int .i64 m,.int .i64 q,.func (.func g) ⟨[]⟩ ⟨cap⟩] w (fun v w'=>v = .tuple #[]/\BY (AN (some ⟨b,0,none⟩)) w w'/\∃ M,M.Perm (L++[y])/\M.Pairwise (DW r)/\Bw eI w' (some ⟨b,0,none⟩) n t (A++(M++B))):=by
 have bd:=h.1;simp only [List.length_append,List.length_cons,List.length_nil] at bd;have ah:(A++(L++([y]++B)))[m]? = some y:=by
  have:A++(L++([y]++B))=(A++L)++y :: B:=sI
  rw [this];exact Go.M.Lg (by simp;omega)
 have av:∀ i z,p<=i->L[i - p]? = some z->(A++(L++([y]++B)))[i]? = some z:=fun i z ad o=>KZ hp ad o;have bv:¬ (m:Int) - p=1:=om
 have bw:(q:Int) - m=1:=om
 refine oV Tryz.func340 ?_;refine AB.sub (((m - p:Nat):Int)) om om om<|iN<|AB.sub 1 om om om<|lR [0,2,4,14,15] (fun (u:Nat) al w'=>∃ i j:Nat,al=[.slice (some ⟨b,0,none⟩) n c,.int .i64 m,.func (.func g) ⟨[]⟩ ⟨cap⟩,.int .i64 i,.int .i64 j]/\j - i<=u/\p<=i/\i<=j/\j<=m/\(i - p=0\/∃ z,L[i - p - 1]? = some z/\¬ r y z)/\(L.length<=j - p\/∃ z,L[j - p]? = some z/\r y z)/\BY (AN (some ⟨b,0,none⟩)) w w'/\Bw eI w' (some ⟨b,0,none⟩) n t (A++(L++([y]++B)))) (fun u=>u) (m - p) ⟨p,m,rfl,om,om,om,om,om,om,Vc.BY.refl _ _,h⟩ ?_;rintro u bk _ w' ⟨i,j,rfl,bx,bu,bq,br,a6,a7,aa,f⟩;by_cases bt:i<j
 .obtain ⟨s,ag⟩:∃ s,s=(i+j) / 2:=⟨_,rfl⟩;obtain ⟨z,o⟩:∃ z,L[s - p]? = some z:=AA om;have ai:=av s z om o;have bi:=List.mem_of_getElem? o;have au:=fun ay (a5:AD w' ay)=>hg z bi ay (aa.trans a5.mod);rw [ag] at ai;generalize A++(L++([y]++B))=an at *;have bh:=f.1;by_cases ar:cmp y z<0
  .have bn:L.length<=(i+j) / 2 - p\/∃ z,L[(i+j) / 2 - p]? = some z/\r y z := .inr ⟨z,by rw [<- ag];exact o,(hr _ _).1 ar⟩;refine iY<|jP (((i+j:Nat):Int))<|As (k := .u64) kR kR (EW om om)<|Ex dE<|As kR kR (Bo om om)<|dH (pB [0,2,4,6,8,10,13,15,17,19,21,23]) fun az d=>CN (sz:=1) kR m rfl om ?_;have ac:=AT AI f ah;refine dO ac rfl<|jW (sz:=1) ((i+j) / 2) rfl om ?_;have ab:=AT AI (f.ext d) ai;refine ⟨d,jO ab rfl ⟨d,dM (au _ d) fun bj e=>⟨(xt d e),Ak (fun af=>?_) fun af=>?_⟩⟩⟩
   .exact jP ((((i+j) / 2+1:Nat):Int)) ⟨u+1,om,_,_,rfl,om,om,om,om,om,om,((aa.trans d.mod).trans e.mod),(f.ext (xt d e))⟩
   .exact ⟨u - 1,om,_,_,rfl,om,om,om,om,om,om,((aa.trans d.mod).trans e.mod),(f.ext (xt d e))⟩
  .have bm:(i+j) / 2+1 - p=0\/∃ z,L[(i+j) / 2+1 - p - 1]? = some z/\¬ r y z := .inr ⟨z,by rw [<- ag,show s+1 - p - 1=s - p by omega];exact o,fun s=>ar ((hr _ _).2 s)⟩;refine iY<|jP (((i+j:Nat):Int))<|As (k := .u64) kR kR (EW om om)<|Ex dE<|As kR kR (Bo om om)<|dH (pB [0,2,4,6,8,10,13,15,17,19,21,23]) fun az d=>CN (sz:=1) kR m rfl om ?_;have ac:=AT AI f ah;refine dO ac rfl<|jW (sz:=1) ((i+j) / 2) rfl om ?_;have ab:=AT AI (f.ext d) ai;refine ⟨d,jO ab rfl ⟨d,dM (au _ d) fun bj e=>⟨(xt d e),Ak (fun af=>?_) fun af=>?_⟩⟩⟩
   .exact jP ((((i+j) / 2+1:Nat):Int)) ⟨u - 1,om,_,_,rfl,om,om,om,om,om,om,((aa.trans d.mod).trans e.mod),(f.ext (xt d e))⟩
   .exact ⟨u+1,om,_,_,rfl,om,om,om,om,om,om,((aa.trans d.mod).trans e.mod),(f.ext (xt d e))⟩
 .have a':i=j:=om
  subst a';have ba:=Oa hs hL hlt a6 a7;refine iN<|lR [0,14,17] (fun (a:Nat) al am=>al=[.slice (some ⟨b,0,none⟩) n c,.int .i64 i,.int .i64 (p+a:Nat)]/\i - p<=a/\a<=L.length/\BY (AN (some ⟨b,0,none⟩)) w am/\Bw eI am (some ⟨b,0,none⟩) n t (A++(L.take a++y :: (L.drop a++B)))) (fun a=>a) L.length ⟨by rw [hm];rfl,om,om,aa,by rw [List.take_of_length_le (Nat.le_refl _),List.drop_eq_nil_of_le (Nat.le_refl _)];simpa using f⟩ ?_;rintro a bl _ am ⟨rfl,b0,b1,aq,l⟩;by_cases bz:i - p<a
  .obtain ⟨z,o⟩:∃ z,L[a - 1]? = some z:=AA om;have bg:L.take a=L.take (a - 1)++[z]:=by
    have:=GX o;rwa [show a - 1+1=a by omega] at this
   have a8:L.drop (a - 1)=z :: L.drop a:=by
    have:=FW o;rwa [show a - 1+1=a by omega] at this
   have ao:A++(L.take a++y :: (L.drop a++B))=(A++L.take (a - 1))++z :: ([]++y :: (L.drop a++B)):=by
    rw [bg];simp
   have aj:(A++L.take (a - 1)).length=p+a - 1:=by simp;omega
   have aw:=Oy (x:=z) (y:=y) (Y:=[]) (Z:=L.drop a++B) (j:=p+a) aj (by simp;omega);have ak:=Go.M.Lg (x:=z) (B:=[]++y :: (L.drop a++B)) aj;have ae:=O5 (x:=z) (y:=y) (Y:=[]) (Z:=L.drop a++B) (j:=p+a) (X:=A++L.take (a - 1)) (by simp;omega);have ap:(A++L.take (a - 1))++y :: ([]++z :: (L.drop a++B))=A++(L.take (a - 1)++y :: (L.drop (a - 1)++B)):=by
    rw [a8];simp
   rw [ap] at aw;rw [ao] at l;generalize (A++L.take (a - 1))++z :: ([]++y :: (L.drop a++B))=an at *;have bh:=l.1;have ax:(an.set (p+a) z)[p+a - 1]? = some z:=by rw [List.getElem?_set_ne om];exact ak
   have bf:(an.set (p+a) z).set (p+a - 1) y=A++(L.take (a - 1)++y :: (L.drop (a - 1)++B)):=by rw [List.set_comm _ _ om];exact aw
   clear ao ap aj h f ah av;refine iY<|Av A8 mixed (pZ [0,5,10,15,20,25,30,35,40,50,55,60,46,66,70,78,80,88]) kR kR fun az d=>DN.sub (((p+a - 1:Nat):Int)) om om om<|DN.sub (((p+a - 1:Nat):Int)) om om om<|pW (sz:=1) (p+a - 1) rfl om ?_;have ac:=AT AI l ak;refine pW (sz:=1) (p+a) rfl om ?_;have ab:=AT AI l ae;refine dO ac rfl<|dO ab rfl<|pW (sz:=1) (p+a) rfl om ?_;have bo:=AT AI l ae;refine C5 (k:=p+a) (j:=0) kR AI (l.ext d) ae dE rfl (z) rfl ?_;intro b4 a3 a0;have b2:=Eo ae ((z));refine pW (sz:=1) (p+a - 1) rfl om ?_;have bp:=AT AI l ak;refine C5 (k:=p+a - 1) (j:=0) kR AI a0 ax dE rfl (y) rfl ?_;intro b5 a4 a1;have b3:=Eo ax ((y));exact AB.sub (((p+a - 1:Nat):Int)) om om om ⟨a - 1,om,by rw [show p+(a - 1)=p+a - 1 by omega];rfl,om,om,((aq.trans d.mod).trans (a3.but.mono (fun i ad=>⟨_,rfl,ad⟩))).trans (a4.but.mono (fun i ad=>⟨_,rfl,ad⟩)),by rw [<- bf];exact a1⟩
  .have be:a=i - p:=om
   subst be;have a9:A++(L.take (i - p)++y :: (L.drop (i - p)++B))=A++((L.take (i - p)++y :: L.drop (i - p))++B):=sI
   rw [a9] at l;obtain ⟨bb,bc⟩:=ba;generalize L.take (i - p)++y :: L.drop (i - p)=a2 at *;exact iN ⟨rfl,aq,a2,bb,bc,l⟩
end Go.Proofs.YtalgenmoljcnmaaGreatDoor
