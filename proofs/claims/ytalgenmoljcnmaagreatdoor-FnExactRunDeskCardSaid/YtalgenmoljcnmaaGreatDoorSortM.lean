/- Parts of the proof; no conditions of its own. -/
import Derived.Test.YtalgenmoljcnmaaGreatDoorSortI
namespace Go.Proofs.YtalgenmoljcnmaaGreatDoor
open Go Go.RowKit Go.Vc Go.M
variable {r:Int->Int->Prop} {cmp:Int->Int->Int} {b n c t g f p m q:Nat} {cap:List Value} {w:World} {A L R B:List Int}
set_option maxHeartbeats 4000000 in
theorem RD (hs:Jg r) (hr:∀ i j,cmp i j<0↔r i j) (hn6:n<=1000000) (ih:∀ {w:World} {A L R B:List Int},L.length+R.length<=f->0<L.length->0<R.length ->
  Bw eI w (some ⟨b,0,none⟩) n t (A++(L++(R++B)))->L.Pairwise (DW r)->R.Pairwise (DW r)->(∀ x∈L,∀ y∈R,x<y) ->
  (∀ i∈L++R,∀ j∈L++R,∀ w',BY (AN (some ⟨b,0,none⟩)) w w'->Ev Tryz.prog g (.int .i64 i :: .int .i64 j :: cap) w' (fun v w''=>v = .int .i64 (cmp i j)/\AD w' w'')) ->
  ∀ {p m q:Nat},A.length=p->p+L.length=m->m+R.length=q ->
  Dq 340 [.slice (some ⟨b,0,none⟩) n c,.int .i64 p,.int .i64 m,.int .i64 q,.func (.func g) ⟨[]⟩ ⟨cap⟩] w (fun v w'=>v = .tuple #[]/\BY (AN (some ⟨b,0,none⟩)) w w'/\∃ M,M.Perm (L++R)/\M.Pairwise (DW r)/\Bw eI w' (some ⟨b,0,none⟩) n t (A++(M++B))))
 (hf:L.length+R.length<=f+1) (hL1:1<L.length) (hR1:1<R.length)
  (h:Bw eI w (some ⟨b,0,none⟩) n t (A++(L++(R++B)))) (hL:L.Pairwise (DW r)) (hR:R.Pairwise (DW r)) (hlt:∀ x∈L,∀ y∈R,x<y)
  (hg:∀ i∈L++R,∀ j∈L++R,∀ w',BY (AN (some ⟨b,0,none⟩)) w w'->Ev Tryz.prog g (.int .i64 i :: .int .i64 j :: cap) w' (fun v w''=>v = .int .i64 (cmp i j)/\AD w' w''))
 (hp:A.length=p) (hm:p+L.length=m) (hq:m+R.length=q) (hside:(p+q) / 2<m) :
  Dq 340 [.slice (some ⟨b,0,none⟩) n c,.int .i64 p,.int .i64 m,.int .i64 q,.func (.func g) ⟨[]⟩ ⟨cap⟩] w (fun v w'=>v = .tuple #[]/\BY (AN (some ⟨b,0,none⟩)) w w'/\∃ M,M.Perm (L++R)/\M.Pairwise (DW r)/\Bw eI w' (some ⟨b,0,none⟩) n t (A++(M++B))):=by
 have cc:=h.1;simp only [List.length_append] at cc;obtain ⟨d,cb⟩:∃ d,d=(p+q) / 2:=⟨_,rfl⟩;have cz:¬ (m:Int) - p=1:=om
 have c0:¬ (q:Int) - m=1:=om
 have br:∀ i aq,p<=i->L[i - p]? = some aq->(A++(L++(R++B)))[i]? = some aq:=fun i aq ap e=>KZ hp ap e;have bt:∀ i aq,m<=i->R[i - m]? = some aq->(A++(L++(R++B)))[i]? = some aq:=fun i aq ap e=>by
  have:A++(L++(R++B))=(A++L)++(R++B):=sI
  rw [this];exact KZ (by simp;omega) ap e
 refine oV Tryz.func340 ?_;conv=>whnf
 refine AB.sub (((m - (p):Nat):Int)) om om om ?_;(conv=>whnf);refine iN ?_;(conv=>whnf);refine AB.sub (((q - (m):Nat):Int)) om om om ?_;(conv=>whnf);refine iN ?_;(conv=>whnf);refine jP (((p+q:Nat):Int)) ?_;(conv=>whnf);refine As (k := .u64) kR kR (EW om om) ?_
 (conv=>whnf);refine Ex dE ?_;(conv=>whnf);refine As kR kR (Bo om om) ?_
 (conv=>whnf);refine jP ((((p+q) / 2+m:Nat):Int)) ?_;(conv=>whnf);refine iY ?_;(conv=>whnf);refine AB.sub ((((p+q) / 2+m - (q):Nat):Int)) om om om ?_;(conv=>whnf);refine AB.sub ((((p+q) / 2+m - 1:Nat):Int)) om om om ?_;(conv=>whnf);refine lR [0,1,2,3,4,18,19,20,21,22] (fun (al:Nat) cm w'=>∃ a l:Nat,cm=[.slice (some ⟨b,0,none⟩) n c,.int .i64 p,.int .i64 m,.int .i64 q,.func (.func g) ⟨[]⟩ ⟨cap⟩,.int .i64 d,.int .i64 (d+m:Nat),.int .i64 a,.int .i64 l,.int .i64 (d+m - 1:Nat)]/\l - a<=al/\d+m - q<=a/\a<=l/\l<=d/\(a=d+m - q\/∃ x y,L[a - 1 - p]? = some x/\R[d+m - a - m]? = some y/\¬ r y x)/\(l=d\/∃ x y,L[l - p]? = some x/\R[d+m - 1 - l - m]? = some y/\r y x)/\BY (AN (some ⟨b,0,none⟩)) w w'/\Bw eI w' (some ⟨b,0,none⟩) n t (A++(L++(R++B)))) (fun al=>al) (d - (d+m - q)) ⟨d+m - q,d,by rw [cb];rfl,om,om,om,om,.inl rfl,.inl rfl,Vc.BY.refl _ _,h⟩ ?_;rintro al cv _ bj ⟨a,l,rfl,c2,cx,c3,cw,a8,az,ab,af⟩;by_cases cy:a<l
 .obtain ⟨x,ac⟩:∃ x,L[(a+l) / 2 - p]? = some x:=AA om;obtain ⟨y,ad⟩:∃ y,R[d+m - 1 - (a+l) / 2 - m]? = some y:=AA om;have bu:=br ((a+l) / 2) x om ac;have bv:=bt (d+m - 1 - (a+l) / 2) y om ad;have bq:=fun l (b7:AD bj l)=>hg y (by simp [List.mem_of_getElem? ad]) x (by simp [List.mem_of_getElem? ac]) l (ab.trans b7.mod);have c4:=af.1;generalize A++(L++(R++B))=da at *;by_cases bp:cmp y x<0
  .have bl:(a+l) / 2=d\/∃ x y,L[(a+l) / 2 - p]? = some x/\R[d+m - 1 - (a+l) / 2 - m]? = some y/\r y x := .inr ⟨x,y,ac,ad,(hr _ _).1 bp⟩;(conv=>whnf);refine iY ?_;(conv=>whnf);refine jP (((a+l:Nat):Int)) ?_;(conv=>whnf);refine As (k := .u64) kR kR (EW om om) ?_
   (conv=>whnf);refine Ex dE ?_;(conv=>whnf);refine As kR kR (Bo om om) ?_
   (conv=>whnf);refine dH (pB [0,2,4,6,8,10,12,14,17,19,21,23,25,27]) ?_;(conv=>whnf);intro cp aa;(conv=>whnf);refine BN.sub (((d+m - 1 - ((a+l) / 2):Nat):Int)) om om om ?_;(conv=>whnf);refine CN (sz:=1) kR (d+m - 1 - (a+l) / 2) rfl om ?_;have be:=AT AI af bv;(conv=>whnf);refine dO be rfl ?_;(conv=>whnf);refine jW (sz:=1) ((a+l) / 2) rfl om ?_;have bd:=AT AI (af.ext aa) bu;(conv=>whnf);refine ⟨aa,?_⟩;(conv=>whnf);refine jO bd rfl ?_;(conv=>whnf);refine ⟨aa,?_⟩;(conv=>whnf);refine dM (bq _ aa) fun cn ae=>?_;(conv=>whnf);refine ⟨(xt aa ae),?_⟩;(conv=>whnf);with_reducible refine Ak (fun a9=>?_) (fun a9=>?_)
   ·(conv=>whnf);refine jP ((((a+l) / 2+1:Nat):Int)) ?_;(conv=>whnf);exact ⟨al+1,om,_,_,rfl,om,om,om,om,om,om,((ab.trans aa.mod).trans ae.mod),(af.ext (xt aa ae))⟩
   ·(conv=>whnf);exact ⟨al - 1,om,_,_,rfl,om,om,om,om,om,om,((ab.trans aa.mod).trans ae.mod),(af.ext (xt aa ae))⟩
  .have bk:(a+l) / 2+1=d+m - q\/∃ x y,L[(a+l) / 2+1 - 1 - p]? = some x/\R[d+m - ((a+l) / 2+1) - m]? = some y/\¬ r y x := .inr ⟨x,y,by rw [show (a+l) / 2+1 - 1 - p=(a+l) / 2 - p by omega];exact ac,by rw [show d+m - ((a+l) / 2+1) - m=d+m - 1 - (a+l) / 2 - m by omega];exact ad,fun ca=>bp ((hr _ _).2 ca)⟩;(conv=>whnf);refine iY ?_;(conv=>whnf);refine jP (((a+l:Nat):Int)) ?_;(conv=>whnf);refine As (k := .u64) kR kR (EW om om) ?_
   (conv=>whnf);refine Ex dE ?_;(conv=>whnf);refine As kR kR (Bo om om) ?_
   (conv=>whnf);refine dH (pB [0,2,4,6,8,10,12,14,17,19,21,23,25,27]) ?_;(conv=>whnf);intro cp aa;(conv=>whnf);refine BN.sub (((d+m - 1 - ((a+l) / 2):Nat):Int)) om om om ?_;(conv=>whnf);refine CN (sz:=1) kR (d+m - 1 - (a+l) / 2) rfl om ?_;have be:=AT AI af bv;(conv=>whnf);refine dO be rfl ?_;(conv=>whnf);refine jW (sz:=1) ((a+l) / 2) rfl om ?_;have bd:=AT AI (af.ext aa) bu;(conv=>whnf);refine ⟨aa,?_⟩;(conv=>whnf);refine jO bd rfl ?_;(conv=>whnf);refine ⟨aa,?_⟩;(conv=>whnf);refine dM (bq _ aa) fun cn ae=>?_;(conv=>whnf);refine ⟨(xt aa ae),?_⟩;(conv=>whnf);with_reducible refine Ak (fun a9=>?_) (fun a9=>?_)
   ·(conv=>whnf);refine jP ((((a+l) / 2+1:Nat):Int)) ?_;(conv=>whnf);exact ⟨al - 1,om,_,_,rfl,om,om,om,om,om,om,((ab.trans aa.mod).trans ae.mod),(af.ext (xt aa ae))⟩
   ·(conv=>whnf);exact ⟨al+1,om,_,_,rfl,om,om,om,om,om,om,((ab.trans aa.mod).trans ae.mod),(af.ext (xt aa ae))⟩
 .have ce:a=l:=om
  subst ce;have b8:L=L.take (a - p)++L.drop (a - p):=(List.take_append_drop _ _).symm;have b':R=R.take (d - a)++R.drop (d - a):=(List.take_append_drop _ _).symm;have c5:(L.take (a - p)).length=a - p:=by rw [List.length_take];omega
  have c6:(L.drop (a - p)).length=m - a:=by rw [List.length_drop];omega
  have c7:(R.take (d - a)).length=d - a:=by rw [List.length_take];omega
  have c8:(R.drop (d - a)).length=q - (d+m - a):=by rw [List.length_drop];omega
  have bk:L.take (a - p)=[]\/R.drop (d - a)=[]\/∃ x y,(L.take (a - p)).getLast? = some x/\(R.drop (d - a)).head? = some y/\DW r x y:=by
   rcases a8 with a8 | ⟨x,y,ac,ad,bi⟩
   .exact .inr (.inl (List.drop_eq_nil_of_le om))
   .by_cases bg:a=p
    .left;rw [bg,Nat.sub_self];rfl
    .refine .inr (.inr ⟨x,y,?_,HU (by rw [show d - a=d+m - a - m by omega];exact ad),hs.lex_of_not (hlt x (List.mem_of_getElem? ac) y (List.mem_of_getElem? ad)) bi⟩);have:=GY ac;rwa [show a - 1 - p+1=a - p by omega] at this
  have bl:L.drop (a - p)=[]\/R.take (d - a)=[]\/∃ x y,(R.take (d - a)).getLast? = some x/\(L.drop (a - p)).head? = some y/\DW r x y:=by
   rcases az with az | ⟨x,y,ac,ad,bi⟩
   .right;left;rw [az,Nat.sub_self];rfl
   .by_cases bg:a=d
    .right;left;rw [bg,Nat.sub_self];rfl
    .refine .inr (.inr ⟨y,x,?_,HU ac,.inl bi⟩);have:=GY ad;rwa [show d+m - 1 - a - m+1=d - a by omega] at this
  clear a8 az br bt;generalize L.take (a - p)=u at *;generalize L.drop (a - p)=o at *;generalize R.take (d - a)=z at *;generalize R.drop (d - a)=s at *;subst b8;subst b';have ah:=List.pairwise_append.1 hL;have aj:=List.pairwise_append.1 hR;have ak:=fun am b3 ci ck cj cl=>hs.merged (M1:=am) (M2:=b3) hL hR bk bl ci ck cj cl;have a0:Bw eI bj (some ⟨b,0,none⟩) n t ((A++u)++(o++(z++(s++B)))):=by simpa using af
  have bn:=fun cf cg=>K2 (c:=c) (gf:=g) (cap:=cap) (p:=a) (m:=m) (q:=d+m - a) a0 (by simp;omega) om om cf cg hn6;have cd:(A++u)++(z++(o++(s++B)))=A++((u++z)++(o++(s++B))):=sI
  rw [cd] at bn;have bo:0<u.length->0<z.length->∀ l,BY (AN (some ⟨b,0,none⟩)) w l->Bw eI l (some ⟨b,0,none⟩) n t (A++((u++z)++(o++(s++B))))->Dq 340 [.slice (some ⟨b,0,none⟩) n c,.int .i64 p,.int .i64 a,.int .i64 d,.func (.func g) ⟨[]⟩ ⟨cap⟩] l (fun v w'=>v = .tuple #[]/\BY (AN (some ⟨b,0,none⟩)) l w'/\∃ M,M.Perm (u++z)/\M.Pairwise (DW r)/\Bw eI w' (some ⟨b,0,none⟩) n t (A++(M++(o++(s++B))))):=fun a5 a6 l bh a' =>
   ih (w:=l) (A:=A) (L:=u) (R:=z) (B:=o++(s++B)) (by simp only [List.length_append] at hf;omega) a5 a6 (by simpa using a') ah.1 aj.1 (fun x ac y ad=>hlt x (by simp [ac]) y (by simp [ad])) (fun i ap j bf w' M=>hg i (by rcases List.mem_append.1 ap with h | h<;>simp [h]) j (by rcases List.mem_append.1 bf with h | h<;>simp [h]) w' (bh.trans M)) hp om om
  have a2:0<o.length->0<s.length->∀ l am,am.Perm (u++z)->BY (AN (some ⟨b,0,none⟩)) w l->Bw eI l (some ⟨b,0,none⟩) n t (A++(am++(o++(s++B))))->Dq 340 [.slice (some ⟨b,0,none⟩) n c,.int .i64 d,.int .i64 (d+m - a:Nat),.int .i64 q,.func (.func g) ⟨[]⟩ ⟨cap⟩] l (fun v w'=>v = .tuple #[]/\BY (AN (some ⟨b,0,none⟩)) l w'/\∃ M,M.Perm (o++s)/\M.Pairwise (DW r)/\Bw eI w' (some ⟨b,0,none⟩) n t ((A++am)++(M++B))):=fun a5 a6 l am ai bh a' =>
   ih (w:=l) (A:=A++am) (L:=o) (R:=s) (B:=B) (by simp only [List.length_append] at hf;omega) a5 a6 (by simpa using a') ah.2.1 aj.2.1 (fun x ac y ad=>hlt x (by simp [ac]) y (by simp [ad])) (fun i ap j bf w' M=>hg i (by rcases List.mem_append.1 ap with h | h<;>simp [h]) j (by rcases List.mem_append.1 bf with h | h<;>simp [h]) w' (bh.trans M)) (by have:=ai.length_eq;simp only [List.length_append] at *;omega) om om
  have c1:A++((u++z)++(o++(s++B)))=A++((u++z)++((o++s)++B)):=sI
  have av:o.length=0->o=[]:=List.eq_nil_of_length_eq_zero;have ba:z.length=0->z=[]:=List.eq_nil_of_length_eq_zero;have bm:u.length=0->u=[]:=List.eq_nil_of_length_eq_zero;have a1:s.length=0->s=[]:=List.eq_nil_of_length_eq_zero;by_cases cs:a<m/\m<d+m - a
  .have bb:=bn om om;have ct:(a:Int)<m:=om
   have cu:(m:Int)<(d+m - a:Nat):=om
   by_cases b6:p<a/\a<d
   .have bc:=bo om om;by_cases a7:d<d+m - a/\d+m - a<q
    .have aw:=a2 om om;(conv=>whnf);refine iN ?_;(conv=>whnf);refine AB.sub (((d+m - (a):Nat):Int)) om om om ?_;(conv=>whnf);refine iY ?_;(conv=>whnf);refine iY ?_;(conv=>whnf);refine (bb).mono ?_;rintro _ b1 ⟨rfl,ag,au⟩;(conv=>whnf);refine iY ?_;(conv=>whnf);refine iY ?_;(conv=>whnf);refine (bc _ ((ab.trans ag)) au).mono ?_;rintro _ co ⟨rfl,a3,b2,ar,ay,a4⟩;(conv=>whnf);refine iY ?_;(conv=>whnf);refine iY ?_;(conv=>whnf);refine (aw _ _ ar (((ab.trans ag).trans a3)) a4).mono ?_;rintro _ c' ⟨rfl,ch,cr,bz,b0,b5⟩;(conv=>whnf);exact ⟨rfl,(((ab.trans ag).trans a3).trans ch),_,(ak _ _ ar ay bz b0).1,(ak _ _ ar ay bz b0).2,by simpa using b5⟩
    .have an:(o++s).Perm (o++s):=List.Perm.refl _;have ao:(o++s).Pairwise (DW r):=by
      have e:o=[]\/s=[]:=by
       by_cases e:o.length=0
       .exact .inl (av e)
       .exact .inr (a1 om)
      rcases e with e | e
      .rw [e];exact aj.2.1
      .rw [e,List.append_nil];exact ah.2.1
     (conv=>whnf);refine iN ?_;(conv=>whnf);refine AB.sub (((d+m - (a):Nat):Int)) om om om ?_;(conv=>whnf);refine iY ?_;(conv=>whnf);refine iY ?_;(conv=>whnf);refine (bb).mono ?_;rintro _ b1 ⟨rfl,ag,au⟩;(conv=>whnf);refine iY ?_;(conv=>whnf);refine iY ?_;(conv=>whnf);refine (bc _ ((ab.trans ag)) au).mono ?_;rintro _ co ⟨rfl,a3,b2,ar,ay,a4⟩;(conv=>whnf);refine iY ?_;(conv=>whnf);refine iN ?_;(conv=>whnf);exact ⟨rfl,((ab.trans ag).trans a3),_,(ak _ _ ar ay an ao).1,(ak _ _ ar ay an ao).2,by simpa using a4⟩
   .have ai:(u++z).Perm (u++z):=List.Perm.refl _;have ax:(u++z).Pairwise (DW r):=by
     have e:u=[]\/z=[]:=by
      by_cases e:u.length=0
      .exact .inl (bm e)
      .exact .inr (ba om)
     rcases e with e | e
     .rw [e];exact aj.1
     .rw [e,List.append_nil];exact ah.1
    by_cases a7:d<d+m - a/\d+m - a<q
    .have aw:=a2 om om;exfalso;omega
    .have an:(o++s).Perm (o++s):=List.Perm.refl _;have ao:(o++s).Pairwise (DW r):=by
      have e:o=[]\/s=[]:=by
       by_cases e:o.length=0
       .exact .inl (av e)
       .exact .inr (a1 om)
      rcases e with e | e
      .rw [e];exact aj.2.1
      .rw [e,List.append_nil];exact ah.2.1
     (conv=>whnf);refine iN ?_;(conv=>whnf);refine AB.sub (((d+m - (a):Nat):Int)) om om om ?_;(conv=>whnf);refine iY ?_;(conv=>whnf);refine iY ?_;(conv=>whnf);refine (bb).mono ?_;rintro _ b1 ⟨rfl,ag,au⟩;(conv=>whnf);refine iN ?_;(conv=>whnf);refine iY ?_;(conv=>whnf);refine iN ?_;(conv=>whnf);exact ⟨rfl,(ab.trans ag),_,(ak _ _ ai ax an ao).1,(ak _ _ ai ax an ao).2,by simpa using au⟩
  .have b9:Bw eI bj (some ⟨b,0,none⟩) n t (A++((u++z)++(o++(s++B)))):=by
    have e:o=[]\/z=[]:=by
     by_cases e:o.length=0
     .exact .inl (av e)
     .exact .inr (ba om)
    rcases e with e | e<;>(rw [e] at a0 ⊢;simpa using a0)
   clear af a0;by_cases b6:p<a/\a<d
   .have bc:=bo om om;by_cases a7:d<d+m - a/\d+m - a<q
    .have aw:=a2 om om;exfalso;omega
    .have an:(o++s).Perm (o++s):=List.Perm.refl _;have ao:(o++s).Pairwise (DW r):=by
      have e:o=[]\/s=[]:=by
       by_cases e:o.length=0
       .exact .inl (av e)
       .exact .inr (a1 om)
      rcases e with e | e
      .rw [e];exact aj.2.1
      .rw [e,List.append_nil];exact ah.2.1
     exfalso;omega
   .have ai:(u++z).Perm (u++z):=List.Perm.refl _;have ax:(u++z).Pairwise (DW r):=by
     have e:u=[]\/z=[]:=by
      by_cases e:u.length=0
      .exact .inl (bm e)
      .exact .inr (ba om)
     rcases e with e | e
     .rw [e];exact aj.1
     .rw [e,List.append_nil];exact ah.1
    by_cases a7:d<d+m - a/\d+m - a<q
    .have aw:=a2 om om;(conv=>whnf);refine iN ?_;(conv=>whnf);refine AB.sub (((d+m - (a):Nat):Int)) om om om ?_;(conv=>whnf);refine iY ?_;(conv=>whnf);refine iN ?_;(conv=>whnf);refine iY ?_;(conv=>whnf);refine iN ?_;(conv=>whnf);refine iY ?_;(conv=>whnf);refine iY ?_;(conv=>whnf);refine (aw _ _ ai (ab) b9).mono ?_;rintro _ c9 ⟨rfl,ag,cq,bw,bx,b4⟩;(conv=>whnf);exact ⟨rfl,(ab.trans ag),_,(ak _ _ ai ax bw bx).1,(ak _ _ ai ax bw bx).2,by simpa using b4⟩
    .have an:(o++s).Perm (o++s):=List.Perm.refl _;have ao:(o++s).Pairwise (DW r):=by
      have e:o=[]\/s=[]:=by
       by_cases e:o.length=0
       .exact .inl (av e)
       .exact .inr (a1 om)
      rcases e with e | e
      .rw [e];exact aj.2.1
      .rw [e,List.append_nil];exact ah.2.1
     exfalso;omega
set_option maxHeartbeats 4000000 in
theorem RC (hs:Jg r) (hr:∀ i j,cmp i j<0↔r i j) (hn6:n<=1000000) (ih:∀ {w:World} {A L R B:List Int},L.length+R.length<=f->0<L.length->0<R.length ->
  Bw eI w (some ⟨b,0,none⟩) n t (A++(L++(R++B)))->L.Pairwise (DW r)->R.Pairwise (DW r)->(∀ x∈L,∀ y∈R,x<y) ->
  (∀ i∈L++R,∀ j∈L++R,∀ w',BY (AN (some ⟨b,0,none⟩)) w w'->Ev Tryz.prog g (.int .i64 i :: .int .i64 j :: cap) w' (fun v w''=>v = .int .i64 (cmp i j)/\AD w' w'')) ->
  ∀ {p m q:Nat},A.length=p->p+L.length=m->m+R.length=q ->
  Dq 340 [.slice (some ⟨b,0,none⟩) n c,.int .i64 p,.int .i64 m,.int .i64 q,.func (.func g) ⟨[]⟩ ⟨cap⟩] w (fun v w'=>v = .tuple #[]/\BY (AN (some ⟨b,0,none⟩)) w w'/\∃ M,M.Perm (L++R)/\M.Pairwise (DW r)/\Bw eI w' (some ⟨b,0,none⟩) n t (A++(M++B))))
 (hf:L.length+R.length<=f+1) (hL1:1<L.length) (hR1:1<R.length)
  (h:Bw eI w (some ⟨b,0,none⟩) n t (A++(L++(R++B)))) (hL:L.Pairwise (DW r)) (hR:R.Pairwise (DW r)) (hlt:∀ x∈L,∀ y∈R,x<y)
  (hg:∀ i∈L++R,∀ j∈L++R,∀ w',BY (AN (some ⟨b,0,none⟩)) w w'->Ev Tryz.prog g (.int .i64 i :: .int .i64 j :: cap) w' (fun v w''=>v = .int .i64 (cmp i j)/\AD w' w''))
 (hp:A.length=p) (hm:p+L.length=m) (hq:m+R.length=q) (hside:¬ (p+q) / 2<m) :
  Dq 340 [.slice (some ⟨b,0,none⟩) n c,.int .i64 p,.int .i64 m,.int .i64 q,.func (.func g) ⟨[]⟩ ⟨cap⟩] w (fun v w'=>v = .tuple #[]/\BY (AN (some ⟨b,0,none⟩)) w w'/\∃ M,M.Perm (L++R)/\M.Pairwise (DW r)/\Bw eI w' (some ⟨b,0,none⟩) n t (A++(M++B))):=by
 have cc:=h.1;simp only [List.length_append] at cc;obtain ⟨d,cb⟩:∃ d,d=(p+q) / 2:=⟨_,rfl⟩;have cz:¬ (m:Int) - p=1:=om
 have c0:¬ (q:Int) - m=1:=om
 have bt:∀ i ar,p<=i->L[i - p]? = some ar->(A++(L++(R++B)))[i]? = some ar:=fun i ar aq e=>KZ hp aq e;have bu:∀ i ar,m<=i->R[i - m]? = some ar->(A++(L++(R++B)))[i]? = some ar:=fun i ar aq e=>by
  have:A++(L++(R++B))=(A++L)++(R++B):=sI
  rw [this];exact KZ (by simp;omega) aq e
 refine oV Tryz.func340 ?_;conv=>whnf
 refine AB.sub (((m - (p):Nat):Int)) om om om ?_;(conv=>whnf);refine iN ?_;(conv=>whnf);refine AB.sub (((q - (m):Nat):Int)) om om om ?_;(conv=>whnf);refine iN ?_;(conv=>whnf);refine jP (((p+q:Nat):Int)) ?_;(conv=>whnf);refine As (k := .u64) kR kR (EW om om) ?_
 (conv=>whnf);refine Ex dE ?_;(conv=>whnf);refine As kR kR (Bo om om) ?_
 (conv=>whnf);refine jP ((((p+q) / 2+m:Nat):Int)) ?_;(conv=>whnf);refine iN ?_;(conv=>whnf);refine AB.sub ((((p+q) / 2+m - 1:Nat):Int)) om om om ?_;(conv=>whnf);refine lR [0,1,2,3,4,18,19,20,21,22] (fun (an:Nat) cm w'=>∃ a l:Nat,cm=[.slice (some ⟨b,0,none⟩) n c,.int .i64 p,.int .i64 m,.int .i64 q,.func (.func g) ⟨[]⟩ ⟨cap⟩,.int .i64 d,.int .i64 (d+m:Nat),.int .i64 a,.int .i64 l,.int .i64 (d+m - 1:Nat)]/\l - a<=an/\p<=a/\a<=l/\l<=m/\(a=p\/∃ x y,L[a - 1 - p]? = some x/\R[d+m - a - m]? = some y/\¬ r y x)/\(l=m\/∃ x y,L[l - p]? = some x/\R[d+m - 1 - l - m]? = some y/\r y x)/\BY (AN (some ⟨b,0,none⟩)) w w'/\Bw eI w' (some ⟨b,0,none⟩) n t (A++(L++(R++B)))) (fun an=>an) (m - (p)) ⟨p,m,by rw [cb];rfl,om,om,om,om,.inl rfl,.inl rfl,Vc.BY.refl _ _,h⟩ ?_;rintro an cv _ bj ⟨a,l,rfl,c2,cx,c3,cw,az,a9,ab,af⟩;by_cases cy:a<l
 .obtain ⟨x,ac⟩:∃ x,L[(a+l) / 2 - p]? = some x:=AA om;obtain ⟨y,ad⟩:∃ y,R[d+m - 1 - (a+l) / 2 - m]? = some y:=AA om;have bv:=bt ((a+l) / 2) x om ac;have bw:=bu (d+m - 1 - (a+l) / 2) y om ad;have br:=fun l (b8:AD bj l)=>hg y (by simp [List.mem_of_getElem? ad]) x (by simp [List.mem_of_getElem? ac]) l (ab.trans b8.mod);have c4:=af.1;generalize A++(L++(R++B))=da at *;by_cases bq:cmp y x<0
  .have bl:(a+l) / 2=m\/∃ x y,L[(a+l) / 2 - p]? = some x/\R[d+m - 1 - (a+l) / 2 - m]? = some y/\r y x := .inr ⟨x,y,ac,ad,(hr _ _).1 bq⟩;(conv=>whnf);refine iY ?_;(conv=>whnf);refine jP (((a+l:Nat):Int)) ?_;(conv=>whnf);refine As (k := .u64) kR kR (EW om om) ?_
   (conv=>whnf);refine Ex dE ?_;(conv=>whnf);refine As kR kR (Bo om om) ?_
   (conv=>whnf);refine dH (pB [0,2,4,6,8,10,12,14,17,19,21,23,25,27]) ?_;(conv=>whnf);intro cp aa;(conv=>whnf);refine BN.sub (((d+m - 1 - ((a+l) / 2):Nat):Int)) om om om ?_;(conv=>whnf);refine CN (sz:=1) kR (d+m - 1 - (a+l) / 2) rfl om ?_;have be:=AT AI af bw;(conv=>whnf);refine dO be rfl ?_;(conv=>whnf);refine jW (sz:=1) ((a+l) / 2) rfl om ?_;have bd:=AT AI (af.ext aa) bv;(conv=>whnf);refine ⟨aa,?_⟩;(conv=>whnf);refine jO bd rfl ?_;(conv=>whnf);refine ⟨aa,?_⟩;(conv=>whnf);refine dM (br _ aa) fun cn ae=>?_;(conv=>whnf);refine ⟨(xt aa ae),?_⟩;(conv=>whnf);with_reducible refine Ak (fun a8=>?_) (fun a8=>?_)
   ·(conv=>whnf);refine jP ((((a+l) / 2+1:Nat):Int)) ?_;(conv=>whnf);exact ⟨an+1,om,_,_,rfl,om,om,om,om,om,om,((ab.trans aa.mod).trans ae.mod),(af.ext (xt aa ae))⟩
   ·(conv=>whnf);exact ⟨an - 1,om,_,_,rfl,om,om,om,om,om,om,((ab.trans aa.mod).trans ae.mod),(af.ext (xt aa ae))⟩
  .have bk:(a+l) / 2+1=p\/∃ x y,L[(a+l) / 2+1 - 1 - p]? = some x/\R[d+m - ((a+l) / 2+1) - m]? = some y/\¬ r y x := .inr ⟨x,y,by rw [show (a+l) / 2+1 - 1 - p=(a+l) / 2 - p by omega];exact ac,by rw [show d+m - ((a+l) / 2+1) - m=d+m - 1 - (a+l) / 2 - m by omega];exact ad,fun ca=>bq ((hr _ _).2 ca)⟩;(conv=>whnf);refine iY ?_;(conv=>whnf);refine jP (((a+l:Nat):Int)) ?_;(conv=>whnf);refine As (k := .u64) kR kR (EW om om) ?_
   (conv=>whnf);refine Ex dE ?_;(conv=>whnf);refine As kR kR (Bo om om) ?_
   (conv=>whnf);refine dH (pB [0,2,4,6,8,10,12,14,17,19,21,23,25,27]) ?_;(conv=>whnf);intro cp aa;(conv=>whnf);refine BN.sub (((d+m - 1 - ((a+l) / 2):Nat):Int)) om om om ?_;(conv=>whnf);refine CN (sz:=1) kR (d+m - 1 - (a+l) / 2) rfl om ?_;have be:=AT AI af bw;(conv=>whnf);refine dO be rfl ?_;(conv=>whnf);refine jW (sz:=1) ((a+l) / 2) rfl om ?_;have bd:=AT AI (af.ext aa) bv;(conv=>whnf);refine ⟨aa,?_⟩;(conv=>whnf);refine jO bd rfl ?_;(conv=>whnf);refine ⟨aa,?_⟩;(conv=>whnf);refine dM (br _ aa) fun cn ae=>?_;(conv=>whnf);refine ⟨(xt aa ae),?_⟩;(conv=>whnf);with_reducible refine Ak (fun a8=>?_) (fun a8=>?_)
   ·(conv=>whnf);refine jP ((((a+l) / 2+1:Nat):Int)) ?_;(conv=>whnf);exact ⟨an - 1,om,_,_,rfl,om,om,om,om,om,om,((ab.trans aa.mod).trans ae.mod),(af.ext (xt aa ae))⟩
   ·(conv=>whnf);exact ⟨an+1,om,_,_,rfl,om,om,om,om,om,om,((ab.trans aa.mod).trans ae.mod),(af.ext (xt aa ae))⟩
 .have ce:a=l:=om
  subst ce;have b9:L=L.take (a - p)++L.drop (a - p):=(List.take_append_drop _ _).symm;have b':R=R.take (d - a)++R.drop (d - a):=(List.take_append_drop _ _).symm;have c5:(L.take (a - p)).length=a - p:=by rw [List.length_take];omega
  have c6:(L.drop (a - p)).length=m - a:=by rw [List.length_drop];omega
  have c7:(R.take (d - a)).length=d - a:=by rw [List.length_take];omega
  have c8:(R.drop (d - a)).length=q - (d+m - a):=by rw [List.length_drop];omega
  have bk:L.take (a - p)=[]\/R.drop (d - a)=[]\/∃ x y,(L.take (a - p)).getLast? = some x/\(R.drop (d - a)).head? = some y/\DW r x y:=by
   rcases az with az | ⟨x,y,ac,ad,bi⟩
   .left;rw [az,Nat.sub_self];rfl
   .by_cases bg:a=p
    .left;rw [bg,Nat.sub_self];rfl
    .refine .inr (.inr ⟨x,y,?_,HU (by rw [show d - a=d+m - a - m by omega];exact ad),hs.lex_of_not (hlt x (List.mem_of_getElem? ac) y (List.mem_of_getElem? ad)) bi⟩);have:=GY ac;rwa [show a - 1 - p+1=a - p by omega] at this
  have bl:L.drop (a - p)=[]\/R.take (d - a)=[]\/∃ x y,(R.take (d - a)).getLast? = some x/\(L.drop (a - p)).head? = some y/\DW r x y:=by
   rcases a9 with a9 | ⟨x,y,ac,ad,bi⟩
   .exact .inl (List.drop_eq_nil_of_le om)
   .by_cases bg:a=d
    .right;left;rw [bg,Nat.sub_self];rfl
    .refine .inr (.inr ⟨y,x,?_,HU ac,.inl bi⟩);have:=GY ad;rwa [show d+m - 1 - a - m+1=d - a by omega] at this
  clear az a9 bt bu;generalize L.take (a - p)=u at *;generalize L.drop (a - p)=o at *;generalize R.take (d - a)=z at *;generalize R.drop (d - a)=s at *;subst b9;subst b';have al:=List.pairwise_append.1 hL;have am:=List.pairwise_append.1 hR;have ah:=fun ao b4 ci ck cj cl=>hs.merged (M1:=ao) (M2:=b4) hL hR bk bl ci ck cj cl;have a0:Bw eI bj (some ⟨b,0,none⟩) n t ((A++u)++(o++(z++(s++B)))):=by simpa using af
  have bo:=fun cf cg=>K2 (c:=c) (gf:=g) (cap:=cap) (p:=a) (m:=m) (q:=d+m - a) a0 (by simp;omega) om om cf cg hn6;have cd:(A++u)++(z++(o++(s++B)))=A++((u++z)++(o++(s++B))):=sI
  rw [cd] at bo;have bp:0<u.length->0<z.length->∀ l,BY (AN (some ⟨b,0,none⟩)) w l->Bw eI l (some ⟨b,0,none⟩) n t (A++((u++z)++(o++(s++B))))->Dq 340 [.slice (some ⟨b,0,none⟩) n c,.int .i64 p,.int .i64 a,.int .i64 d,.func (.func g) ⟨[]⟩ ⟨cap⟩] l (fun v w'=>v = .tuple #[]/\BY (AN (some ⟨b,0,none⟩)) l w'/\∃ M,M.Perm (u++z)/\M.Pairwise (DW r)/\Bw eI w' (some ⟨b,0,none⟩) n t (A++(M++(o++(s++B))))):=fun a5 a6 l bh a' =>
   ih (w:=l) (A:=A) (L:=u) (R:=z) (B:=o++(s++B)) (by simp only [List.length_append] at hf;omega) a5 a6 (by simpa using a') al.1 am.1 (fun x ac y ad=>hlt x (by simp [ac]) y (by simp [ad])) (fun i aq j bf w' M=>hg i (by rcases List.mem_append.1 aq with h | h<;>simp [h]) j (by rcases List.mem_append.1 bf with h | h<;>simp [h]) w' (bh.trans M)) hp om om
  have a2:0<o.length->0<s.length->∀ l ao,ao.Perm (u++z)->BY (AN (some ⟨b,0,none⟩)) w l->Bw eI l (some ⟨b,0,none⟩) n t (A++(ao++(o++(s++B))))->Dq 340 [.slice (some ⟨b,0,none⟩) n c,.int .i64 d,.int .i64 (d+m - a:Nat),.int .i64 q,.func (.func g) ⟨[]⟩ ⟨cap⟩] l (fun v w'=>v = .tuple #[]/\BY (AN (some ⟨b,0,none⟩)) l w'/\∃ M,M.Perm (o++s)/\M.Pairwise (DW r)/\Bw eI w' (some ⟨b,0,none⟩) n t ((A++ao)++(M++B))):=fun a5 a6 l ao ag bh a' =>
   ih (w:=l) (A:=A++ao) (L:=o) (R:=s) (B:=B) (by simp only [List.length_append] at hf;omega) a5 a6 (by simpa using a') al.2.1 am.2.1 (fun x ac y ad=>hlt x (by simp [ac]) y (by simp [ad])) (fun i aq j bf w' M=>hg i (by rcases List.mem_append.1 aq with h | h<;>simp [h]) j (by rcases List.mem_append.1 bf with h | h<;>simp [h]) w' (bh.trans M)) (by have:=ag.length_eq;simp only [List.length_append] at *;omega) om om
  have c1:A++((u++z)++(o++(s++B)))=A++((u++z)++((o++s)++B)):=sI
  have aw:o.length=0->o=[]:=List.eq_nil_of_length_eq_zero;have ba:z.length=0->z=[]:=List.eq_nil_of_length_eq_zero;have bm:u.length=0->u=[]:=List.eq_nil_of_length_eq_zero;have a1:s.length=0->s=[]:=List.eq_nil_of_length_eq_zero;by_cases cs:a<m/\m<d+m - a
  .have bb:=bo om om;have ct:(a:Int)<m:=om
   have cu:(m:Int)<(d+m - a:Nat):=om
   by_cases b7:p<a/\a<d
   .have bc:=bp om om;by_cases a7:d<d+m - a/\d+m - a<q
    .have ax:=a2 om om;(conv=>whnf);refine iN ?_;(conv=>whnf);refine AB.sub (((d+m - (a):Nat):Int)) om om om ?_;(conv=>whnf);refine iY ?_;(conv=>whnf);refine iY ?_;(conv=>whnf);refine (bb).mono ?_;rintro _ b2 ⟨rfl,ai,av⟩;(conv=>whnf);refine iY ?_;(conv=>whnf);refine iY ?_;(conv=>whnf);refine (bc _ ((ab.trans ai)) av).mono ?_;rintro _ co ⟨rfl,a3,b3,au,ay,a4⟩;(conv=>whnf);refine iY ?_;(conv=>whnf);refine iY ?_;(conv=>whnf);refine (ax _ _ au (((ab.trans ai).trans a3)) a4).mono ?_;rintro _ c' ⟨rfl,ch,cr,b0,b1,b6⟩;(conv=>whnf);exact ⟨rfl,(((ab.trans ai).trans a3).trans ch),_,(ah _ _ au ay b0 b1).1,(ah _ _ au ay b0 b1).2,by simpa using b6⟩
    .have aj:(o++s).Perm (o++s):=List.Perm.refl _;have ak:(o++s).Pairwise (DW r):=by
      have e:o=[]\/s=[]:=by
       by_cases e:o.length=0
       .exact .inl (aw e)
       .exact .inr (a1 om)
      rcases e with e | e
      .rw [e];exact am.2.1
      .rw [e,List.append_nil];exact al.2.1
     exfalso;omega
   .have ag:(u++z).Perm (u++z):=List.Perm.refl _;have ap:(u++z).Pairwise (DW r):=by
     have e:u=[]\/z=[]:=by
      by_cases e:u.length=0
      .exact .inl (bm e)
      .exact .inr (ba om)
     rcases e with e | e
     .rw [e];exact am.1
     .rw [e,List.append_nil];exact al.1
    by_cases a7:d<d+m - a/\d+m - a<q
    .have ax:=a2 om om;(conv=>whnf);refine iN ?_;(conv=>whnf);refine AB.sub (((d+m - (a):Nat):Int)) om om om ?_;(conv=>whnf);refine iY ?_;(conv=>whnf);refine iY ?_;(conv=>whnf);refine (bb).mono ?_;rintro _ b2 ⟨rfl,ai,av⟩;(conv=>whnf);refine iN ?_;(conv=>whnf);refine iY ?_;(conv=>whnf);refine iY ?_;(conv=>whnf);refine (ax _ _ ag ((ab.trans ai)) av).mono ?_;rintro _ co ⟨rfl,a3,b3,au,ay,a4⟩;(conv=>whnf);exact ⟨rfl,((ab.trans ai).trans a3),_,(ah _ _ ag ap au ay).1,(ah _ _ ag ap au ay).2,by simpa using a4⟩
    .have aj:(o++s).Perm (o++s):=List.Perm.refl _;have ak:(o++s).Pairwise (DW r):=by
      have e:o=[]\/s=[]:=by
       by_cases e:o.length=0
       .exact .inl (aw e)
       .exact .inr (a1 om)
      rcases e with e | e
      .rw [e];exact am.2.1
      .rw [e,List.append_nil];exact al.2.1
     (conv=>whnf);refine iN ?_;(conv=>whnf);refine AB.sub (((d+m - (a):Nat):Int)) om om om ?_;(conv=>whnf);refine iY ?_;(conv=>whnf);refine iY ?_;(conv=>whnf);refine (bb).mono ?_;rintro _ b2 ⟨rfl,ai,av⟩;(conv=>whnf);refine iN ?_;(conv=>whnf);refine iY ?_;(conv=>whnf);refine iN ?_;(conv=>whnf);exact ⟨rfl,(ab.trans ai),_,(ah _ _ ag ap aj ak).1,(ah _ _ ag ap aj ak).2,by simpa using av⟩
  .have bn:Bw eI bj (some ⟨b,0,none⟩) n t (A++((u++z)++(o++(s++B)))):=by
    have e:o=[]\/z=[]:=by
     by_cases e:o.length=0
     .exact .inl (aw e)
     .exact .inr (ba om)
    rcases e with e | e<;>(rw [e] at a0 ⊢;simpa using a0)
   clear af a0;by_cases b7:p<a/\a<d
   .have bc:=bp om om;by_cases a7:d<d+m - a/\d+m - a<q
    .have ax:=a2 om om;exfalso;omega
    .have aj:(o++s).Perm (o++s):=List.Perm.refl _;have ak:(o++s).Pairwise (DW r):=by
      have e:o=[]\/s=[]:=by
       by_cases e:o.length=0
       .exact .inl (aw e)
       .exact .inr (a1 om)
      rcases e with e | e
      .rw [e];exact am.2.1
      .rw [e,List.append_nil];exact al.2.1
     (conv=>whnf);refine iN ?_;(conv=>whnf);refine AB.sub (((d+m - (a):Nat):Int)) om om om ?_;(conv=>whnf);refine iN ?_;(conv=>whnf);refine iY ?_;(conv=>whnf);refine iY ?_;(conv=>whnf);refine (bc _ (ab) bn).mono ?_;rintro _ c9 ⟨rfl,ai,cq,bx,bz,b5⟩;(conv=>whnf);refine iN ?_;(conv=>whnf);exact ⟨rfl,(ab.trans ai),_,(ah _ _ bx bz aj ak).1,(ah _ _ bx bz aj ak).2,by simpa using b5⟩
   .have ag:(u++z).Perm (u++z):=List.Perm.refl _;have ap:(u++z).Pairwise (DW r):=by
     have e:u=[]\/z=[]:=by
      by_cases e:u.length=0
      .exact .inl (bm e)
      .exact .inr (ba om)
     rcases e with e | e
     .rw [e];exact am.1
     .rw [e,List.append_nil];exact al.1
    by_cases a7:d<d+m - a/\d+m - a<q
    .have ax:=a2 om om;exfalso;omega
    .have aj:(o++s).Perm (o++s):=List.Perm.refl _;have ak:(o++s).Pairwise (DW r):=by
      have e:o=[]\/s=[]:=by
       by_cases e:o.length=0
       .exact .inl (aw e)
       .exact .inr (a1 om)
      rcases e with e | e
      .rw [e];exact am.2.1
      .rw [e,List.append_nil];exact al.2.1
     (conv=>whnf);refine iN ?_;(conv=>whnf);refine AB.sub (((d+m - (a):Nat):Int)) om om om ?_;(conv=>whnf);refine iN ?_;(conv=>whnf);refine iY ?_;(conv=>whnf);refine iN ?_;(conv=>whnf);refine iN ?_;(conv=>whnf);exact ⟨rfl,ab,_,(ah _ _ ag ap aj ak).1,(ah _ _ ag ap aj ak).2,by simpa using bn⟩
theorem JX (hs:Jg r) (hr:∀ i j,cmp i j<0↔r i j) (hn6:n<=1000000):∀ (f:Nat) {w:World} {A L R B:List Int},L.length+R.length<=f->0<L.length->0<R.length ->
  Bw eI w (some ⟨b,0,none⟩) n t (A++(L++(R++B)))->L.Pairwise (DW r)->R.Pairwise (DW r)->(∀ x∈L,∀ y∈R,x<y) ->
  (∀ i∈L++R,∀ j∈L++R,∀ w',BY (AN (some ⟨b,0,none⟩)) w w'->Ev Tryz.prog g (.int .i64 i :: .int .i64 j :: cap) w' (fun v w''=>v = .int .i64 (cmp i j)/\AD w' w'')) ->
  ∀ {p m q:Nat},A.length=p->p+L.length=m->m+R.length=q ->
  Dq 340 [.slice (some ⟨b,0,none⟩) n c,.int .i64 p,.int .i64 m,.int .i64 q,.func (.func g) ⟨[]⟩ ⟨cap⟩] w (fun v w'=>v = .tuple #[]/\BY (AN (some ⟨b,0,none⟩)) w w'/\∃ M,M.Perm (L++R)/\M.Pairwise (DW r)/\Bw eI w' (some ⟨b,0,none⟩) n t (A++(M++B)))
 | 0,w,A,L,R,B,hf,hL0,hR0,h,hL,hR,hlt,hg,p,m,q,hp,hm,hq=>om
 | f+1,w,A,L,R,B,hf,hL0,hR0,h,hL,hR,hlt,hg,p,m,q,hp,hm,hq=>by
  have hn:=h.1;simp only [List.length_append] at hn;by_cases k:L.length=1
  .obtain ⟨x,rfl⟩:=List.length_eq_one_iff.1 k;exact RF hs hr h hR hR0 (fun y o=>hlt x sI y o) (fun i a w' M=>hg i (by simp [a]) x sI w' M) hp om hq hn6
  by_cases l:R.length=1
  .obtain ⟨y,rfl⟩:=List.length_eq_one_iff.1 l;exact RE hs hr h hL om (fun u s=>hlt u s y sI) (fun i a w' M=>hg y sI i (by simp [a]) w' M) hp hm om hn6
  have e:=@JX hs hr hn6 f;by_cases d:(p+q) / 2<m
  .exact RD hs hr hn6 e hf om om h hL hR hlt hg hp hm hq d
  .exact RC hs hr hn6 e hf om om h hL hR hlt hg hp hm hq d
end Go.Proofs.YtalgenmoljcnmaaGreatDoor
namespace Go.M
open Go Go.Vc
noncomputable def Un (r:Int->Int->Prop) (L:List Int):Nat->List Int
 | 0=>[]
 | k+1=>Un r L k++sortL r ((L.drop (20 * k)).take 20)
theorem W4 (r:Int->Int->Prop) (L:List Int):∀ k,20 * k<=L.length->(Un r L k).length=20 * k
 | 0,_=>rfl
 | k+1,h=>by
  have:=W4 r L k om;simp only [Un,List.length_append,FC,List.length_take,List.length_drop];omega
theorem WK {L:List Int} (h:Np L) (k:Nat):∀ x∈L.take k,∀ y∈L.drop k,x<y:=by
 have a:L.take k++L.drop k=L:=List.take_append_drop k L;unfold Np at h;rw [<- a] at h;exact (List.pairwise_append.1 h).2.2
end Go.M
namespace Go.Proofs.YtalgenmoljcnmaaGreatDoor
open Go Go.RowKit Go.Vc Go.M
variable {r:Int->Int->Prop} {cmp:Int->Int->Int} {w:World} {b n c t g:Nat} {cap:List Value} {L:List Int}
theorem RG (hs:Jg r) (hr:∀ i j,cmp i j<0↔r i j) (hi:∀ i j,BM (cmp i j)) (h:Bw eI w (some ⟨b,0,none⟩) n t L) (hL:Np L) (hn40:n<=40)
  (hg:∀ i∈L,∀ j∈L,∀ w',BY (AN (some ⟨b,0,none⟩)) w w'->Ev Tryz.prog g (.int .i64 i :: .int .i64 j :: cap) w' (fun v w''=>v = .int .i64 (cmp i j)/\AD w' w'')) :
  Dq 314 [.slice (some ⟨b,0,none⟩) n c,.int .i64 n,.func (.func g) ⟨[]⟩ ⟨cap⟩] w (fun v w'=>v = .tuple #[]/\BY (AN (some ⟨b,0,none⟩)) w w'/\Bw eI w' (some ⟨b,0,none⟩) n t (sortL r L)):=by
 have bj:=h.1;have ah:∀ {k:List Int},k.Sublist L->Np k:=fun a7=>Pd hL a7;refine oV Tryz.func314 ?_;refine lR [0,1,2,6,7,8] (fun (a:Nat) l w'=>l=[.slice (some ⟨b,0,none⟩) n c,.int .i64 n,.func (.func g) ⟨[]⟩ ⟨cap⟩,.int .i64 20,.int .i64 (20 * a:Nat),.int .i64 (20 * a+20:Nat)]/\20 * a<=n/\BY (AN (some ⟨b,0,none⟩)) w w'/\Bw eI w' (some ⟨b,0,none⟩) n t (Un r L a++(L.drop (20 * a)++[]))) (fun a=>2 - a) 0 ⟨rfl,om,Vc.BY.refl _ _,by simpa [Un] using h⟩ ?_;rintro a be _ af ⟨rfl,bh,y,an⟩;have au:=W4 r L a om;by_cases bi:20 * a+20<=n
 .have s:Dq 339 [.slice (some ⟨b,0,none⟩) n c,.int .i64 (20 * a:Nat),.int .i64 (20 * a+20:Nat),.func (.func g) ⟨[]⟩ ⟨cap⟩] af (fun v w'=>v = .tuple #[]/\BY (AN (some ⟨b,0,none⟩)) af w'/\Bw eI w' (some ⟨b,0,none⟩) n t (Un r L (a+1)++(L.drop (20 * (a+1))++[]))):=by
   have aa:L.drop (20 * a)=(L.drop (20 * a)).take 20++L.drop (20 * (a+1)):=by
    have:=List.take_append_drop 20 (L.drop (20 * a));rw [List.drop_drop] at this;rw [show 20 * (a+1)=20 * a+20 by omega];exact this.symm
   have a0:Bw eI af (some ⟨b,0,none⟩) n t (Un r L a++((L.drop (20 * a)).take 20++(L.drop (20 * (a+1))++[]))):=by
    rw [<- List.append_assoc ((L.drop (20 * a)).take 20),<- aa];exact an
   have ac:∀ i∈(L.drop (20 * a)).take 20,i∈L:=fun i hi=>List.mem_of_mem_drop (List.mem_of_mem_take hi);have:=Ih (c:=c) hs hr hi a0 (ah ((List.take_sublist _ _).trans (List.drop_sublist _ _))) (fun i hi j ab w' k=>hg i (ac i hi) j (ac j ab) w' (y.trans k)) (p:=20 * a) (q:=20 * a+20) au (by rw [List.length_take,List.length_drop];omega) om;have ay:Un r L (a+1)++(L.drop (20 * (a+1))++[])=Un r L a++(sortL r ((L.drop (20 * a)).take 20)++(L.drop (20 * (a+1))++[])):=by simp [Un]
   rw [ay];exact this
  refine iY<|(s).mono ?_;rintro _ av ⟨rfl,ad,x⟩;exact jP (((20 * a+20+20:Nat):Int)) ⟨a+1,om,rfl,om,(y.trans ad),x⟩
 .have s:Dq 339 [.slice (some ⟨b,0,none⟩) n c,.int .i64 (20 * a:Nat),.int .i64 n,.func (.func g) ⟨[]⟩ ⟨cap⟩] af (fun v w'=>v = .tuple #[]/\BY (AN (some ⟨b,0,none⟩)) af w'/\Bw eI w' (some ⟨b,0,none⟩) n t (Un r L a++(sortL r (L.drop (20 * a))++[]))):=by
   have ac:∀ i∈L.drop (20 * a),i∈L:=fun i hi=>List.mem_of_mem_drop hi;exact Ih (c:=c) hs hr hi an (ah (List.drop_sublist _ _)) (fun i hi j ab w' k=>hg i (ac i hi) j (ac j ab) w' (y.trans k)) (p:=20 * a) (q:=n) au (by rw [List.length_drop];omega) om
  by_cases bl:n<=20
  .have ak:Un r L a++(sortL r (L.drop (20 * a))++[])=sortL r L:=by
    have a8:a=0\/a=1:=om
    rcases a8 with rfl | rfl
    .simp [Un]
    .have aa:L.drop (20 * 1)=[]:=List.drop_eq_nil_of_le om;rw [aa];simp [Un,sortL,List.take_of_length_le (show L.length<=20 by omega)]
   rw [ak] at s;have bk:¬ (20:Int)<n:=om
   refine iN<|(s).mono ?_;rintro _ av ⟨rfl,ad,x⟩;refine lR [0,1,2,6] (fun (_:Nat) l w'=>l=[.slice (some ⟨b,0,none⟩) n c,.int .i64 n,.func (.func g) ⟨[]⟩ ⟨cap⟩,.int .i64 20]/\BY (AN (some ⟨b,0,none⟩)) w w'/\Bw eI w' (some ⟨b,0,none⟩) n t (sortL r L)) (fun _=>0) 0 ⟨rfl,y.trans ad,x⟩ ?_;rintro _ az _ bc ⟨rfl,z,o⟩;exact iN ⟨rfl,z,o⟩
  .have ak:Un r L a++(sortL r (L.drop (20 * a))++[])=[]++(sortL r (L.take 20)++(sortL r (L.drop 20)++[])):=by
    have a9:a=1\/(a=2/\n=40):=om
    rcases a9 with rfl | ⟨rfl,am⟩
    .simp [Un]
    .have aa:L.drop (20 * 2)=[]:=List.drop_eq_nil_of_le om;have a':(L.drop (20 * 1)).take 20=L.drop 20:=List.take_of_length_le (by simp;omega);rw [aa];simp only [Un,a'];simp [sortL]
   rw [ak] at s;have ao:∀ ae,BY (AN (some ⟨b,0,none⟩)) w ae->Bw eI ae (some ⟨b,0,none⟩) n t ([]++(sortL r (L.take 20)++(sortL r (L.drop 20)++[])))->Dq 340 [.slice (some ⟨b,0,none⟩) n c,.int .i64 0,.int .i64 20,.int .i64 n,.func (.func g) ⟨[]⟩ ⟨cap⟩] ae (fun v w'=>v = .tuple #[]/\BY (AN (some ⟨b,0,none⟩)) ae w'/\Bw eI w' (some ⟨b,0,none⟩) n t (sortL r L)):=fun ae ba a1=>by
    have ar:∀ d∈sortL r (L.take 20),d∈L.take 20:=fun d e=>LP e;have ap:∀ d∈sortL r (L.drop 20),d∈L.drop 20:=fun d e=>LP e;have aq:∀ d∈sortL r (L.take 20)++sortL r (L.drop 20),d∈L:=fun d e=>by
     rcases List.mem_append.1 e with e | e
     .exact List.mem_of_mem_take (ar d e)
     .exact List.mem_of_mem_drop (ap d e)
    have:=JX (c:=c) hs hr (show n<=1000000 by omega) n (A:=[]) (B:=[]) (by rw [FC,FC,List.length_take,List.length_drop];omega) (by rw [FC,List.length_take];omega) (by rw [FC,List.length_drop];omega) a1
     (hs.sortL (Hi (ah (List.take_sublist _ _)))) (hs.sortL (Hi (ah (List.drop_sublist _ _)))) (fun d e aw bb=>WK hL 20 d (ar d e) aw (ap aw bb))
     (fun i hi j ab w' k=>hg i (aq i hi) j (aq j ab) w' (ba.trans k)) (p:=0) (m:=20) (q:=n) rfl (by rw [FC,List.length_take];omega) (by rw [FC,List.length_drop];omega)
    refine this.mono ?_;rintro _ w' ⟨rfl,ax,k,a2,a6,o⟩;have a3:k.Perm L:=a2.trans (((En r _).append (En r _)).trans (by rw [List.take_append_drop]));rw [hs.is (Hi hL) a3 a6] at o;exact ⟨rfl,ax,by simpa using o⟩
   refine iN<|(s).mono ?_;rintro _ av ⟨rfl,ad,x⟩;refine lR [0,1,2,6] (fun (f:Nat) l w'=>(f=1/\l=[.slice (some ⟨b,0,none⟩) n c,.int .i64 n,.func (.func g) ⟨[]⟩ ⟨cap⟩,.int .i64 20]/\BY (AN (some ⟨b,0,none⟩)) w w'/\Bw eI w' (some ⟨b,0,none⟩) n t ([]++(sortL r (L.take 20)++(sortL r (L.drop 20)++[]))))\/(f=0/\l=[.slice (some ⟨b,0,none⟩) n c,.int .i64 n,.func (.func g) ⟨[]⟩ ⟨cap⟩,.int .i64 40]/\BY (AN (some ⟨b,0,none⟩)) w w'/\Bw eI w' (some ⟨b,0,none⟩) n t (sortL r L))) (fun f=>f) 1 (.inl ⟨rfl,rfl,y.trans ad,x⟩) ?_;rintro f az _ bc (⟨rfl,rfl,z,o⟩ | ⟨rfl,rfl,z,o⟩)
   .have bg:(20:Int)<n:=om
    refine iY<|AB.mul 40 om om om<|lR [0,1,2,6,7,8] (fun (f:Nat) l w'=>(f=1/\l=[.slice (some ⟨b,0,none⟩) n c,.int .i64 n,.func (.func g) ⟨[]⟩ ⟨cap⟩,.int .i64 20,.int .i64 0,.int .i64 40]/\BY (AN (some ⟨b,0,none⟩)) w w'/\Bw eI w' (some ⟨b,0,none⟩) n t ([]++(sortL r (L.take 20)++(sortL r (L.drop 20)++[]))))\/(f=0/\l=[.slice (some ⟨b,0,none⟩) n c,.int .i64 n,.func (.func g) ⟨[]⟩ ⟨cap⟩,.int .i64 20,.int .i64 40,.int .i64 80]/\BY (AN (some ⟨b,0,none⟩)) w w'/\Bw eI w' (some ⟨b,0,none⟩) n t (sortL r L))) (fun f=>f) 1 (.inl ⟨rfl,rfl,z,o⟩) ?_;rintro f bf _ ai (⟨rfl,rfl,u,ag⟩ | ⟨rfl,rfl,u,ag⟩)
    .by_cases am:n=40
     .have a4:Dq 340 [.slice (some ⟨b,0,none⟩) n c,.int .i64 0,.int .i64 20,.int .i64 40,.func (.func g) ⟨[]⟩ ⟨cap⟩] ai (fun v w'=>v = .tuple #[]/\BY (AN (some ⟨b,0,none⟩)) ai w'/\Bw eI w' (some ⟨b,0,none⟩) n t (sortL r L)):=by
       have:=ao ai u ag;rw [show ((n:Nat):Int)=40 by omega] at this;exact this
      refine iY<|AB.add _ rfl om om<|(a4).mono ?_;rintro _ bd ⟨rfl,al,aj⟩;exact AB.mul _ rfl om om<|AB.add _ rfl om om ⟨0,om,.inr ⟨rfl,rfl,(u.trans al),aj⟩⟩
     .have a5:=ao ai u ag;refine iN<|AB.add _ rfl om om<|iY<|(a5).mono ?_;rintro _ bd ⟨rfl,al,aj⟩;exact AB.mul _ rfl om om ⟨0,om,.inr ⟨rfl,rfl,(u.trans al),aj⟩⟩
    .exact iN<|AB.add _ rfl om om<|iN<|AB.mul _ rfl om om ⟨0,om,.inr ⟨rfl,rfl,u,ag⟩⟩
   .have am:¬ (40:Int)<n:=om
    exact iN ⟨rfl,z,o⟩
theorem L9 (hs:Jg r) (hr:∀ i j,cmp i j<0↔r i j) (hi:∀ i j,BM (cmp i j)) (h:Bw eI w (some ⟨b,0,none⟩) n t L) (hL:Np L) (hn40:n<=40)
  (hg:∀ i∈L,∀ j∈L,∀ w',BY (AN (some ⟨b,0,none⟩)) w w'->Ev Tryz.prog g (.int .i64 i :: .int .i64 j :: cap) w' (fun v w''=>v = .int .i64 (cmp i j)/\AD w' w'')) :
  Dq 273 [.slice (some ⟨b,0,none⟩) n c,.func (.func g) ⟨[]⟩ ⟨cap⟩] w (fun v w'=>v = .tuple #[]/\BY (AN (some ⟨b,0,none⟩)) w w'/\Bw eI w' (some ⟨b,0,none⟩) n t (sortL r L)):=by
 have d:=RG (c:=c) hs hr hi h hL hn40 hg;refine oV Tryz.func273 ?_;refine (d).mono ?_;rintro _ f ⟨rfl,e,a⟩;exact ⟨rfl,e,a⟩
end Go.Proofs.YtalgenmoljcnmaaGreatDoor
