/- Parts of the proof; no conditions of its own. -/
import Derived.Test.YtalgenmoljcnmaaGreatDoorKeyW
import Derived.Test.YtalgenmoljcnmaaGreatDoorFTotal
namespace Go.Proofs.YtalgenmoljcnmaaGreatDoor
open Go Go.RowKit Go.Vc Go.M
variable {r:Int->Int->Prop} {cmp:Int->Int->Int} {b n c t g f p m q:Nat} {cap:List Value} {w:World} {A L R B:List Int}
set_option maxHeartbeats 4000000 in
theorem R9 (hs:KD r) (hr:∀ i j,cmp i j<0↔r i j) (hn6:n<=1000000) (ih:∀ {w:World} {A L R B:List Int},L.length+R.length<=f->0<L.length->0<R.length ->
  Bs eI w (some ⟨b,0,none⟩) n t (A++(L++(R++B)))->L.Pairwise (Dc r)->R.Pairwise (Dc r)->(∀ x∈L,∀ y∈R,x<y) ->
  (∀ i∈L++R,∀ j∈L++R,∀ w',BP (AL (some ⟨b,0,none⟩)) w w'->E2 Tryz.prog g (.int .i64 i :: .int .i64 j :: cap) w' (fun v w''=>v = .int .i64 (cmp i j)/\AD w' w'')) ->
  ∀ {p m q:Nat},A.length=p->p+L.length=m->m+R.length=q ->
  Dq 340 [.slice (some ⟨b,0,none⟩) n c,.int .i64 p,.int .i64 m,.int .i64 q,.func (.func g) ⟨[]⟩ ⟨cap⟩] w (fun v w'=>v = .tuple #[]/\BP (AL (some ⟨b,0,none⟩)) w w'/\∃ M,M.Perm (L++R)/\M.Pairwise (Dc r)/\Bs eI w' (some ⟨b,0,none⟩) n t (A++(M++B))))
 (hf:L.length+R.length<=f+1) (hL1:1<L.length) (hR1:1<R.length)
  (h:Bs eI w (some ⟨b,0,none⟩) n t (A++(L++(R++B)))) (hL:L.Pairwise (Dc r)) (hR:R.Pairwise (Dc r)) (hlt:∀ x∈L,∀ y∈R,x<y)
  (hg:∀ i∈L++R,∀ j∈L++R,∀ w',BP (AL (some ⟨b,0,none⟩)) w w'->E2 Tryz.prog g (.int .i64 i :: .int .i64 j :: cap) w' (fun v w''=>v = .int .i64 (cmp i j)/\AD w' w''))
 (hp:A.length=p) (hm:p+L.length=m) (hq:m+R.length=q) (hside:(p+q) / 2<m) :
  Dq 340 [.slice (some ⟨b,0,none⟩) n c,.int .i64 p,.int .i64 m,.int .i64 q,.func (.func g) ⟨[]⟩ ⟨cap⟩] w (fun v w'=>v = .tuple #[]/\BP (AL (some ⟨b,0,none⟩)) w w'/\∃ M,M.Perm (L++R)/\M.Pairwise (Dc r)/\Bs eI w' (some ⟨b,0,none⟩) n t (A++(M++B))):=by
 have cc:=h.1;simp only [List.length_append] at cc;obtain ⟨d,cb⟩:∃ d,d=(p+q) / 2:=⟨_,rfl⟩;have cz:¬ (m:Int) - p=1:=om
 have c0:¬ (q:Int) - m=1:=om
 have br:∀ i aq,p<=i->L[i - p]? = some aq->(A++(L++(R++B)))[i]? = some aq:=fun i aq ap e=>LI hp ap e;have bt:∀ i aq,m<=i->R[i - m]? = some aq->(A++(L++(R++B)))[i]? = some aq:=fun i aq ap e=>by
  have:A++(L++(R++B))=(A++L)++(R++B):=sI
  rw [this];exact LI sW ap e
 refine oV Tryz.func340 ?_;conv=>whnf
 refine AB.sub (((m - (p):Nat):Int)) om om om ?_;(conv=>whnf);refine iN ?_;(conv=>whnf);refine AB.sub (((q - (m):Nat):Int)) om om om ?_;(conv=>whnf);refine iN ?_;(conv=>whnf);refine jP (((p+q:Nat):Int)) ?_;(conv=>whnf);refine As (k := .u64) kR kR (EZ om om) ?_
 (conv=>whnf);refine E5 dE ?_;(conv=>whnf);refine As kR kR (Bv om om) ?_
 (conv=>whnf);refine jP ((((p+q) / 2+m:Nat):Int)) ?_;(conv=>whnf);refine iY ?_;(conv=>whnf);refine AB.sub ((((p+q) / 2+m - (q):Nat):Int)) om om om ?_;(conv=>whnf);refine AB.sub ((((p+q) / 2+m - 1:Nat):Int)) om om om ?_;(conv=>whnf);refine lR [0,1,2,3,4,18,19,20,21,22] (fun (al:Nat) cm w'=>∃ a l:Nat,cm=[.slice (some ⟨b,0,none⟩) n c,.int .i64 p,.int .i64 m,.int .i64 q,.func (.func g) ⟨[]⟩ ⟨cap⟩,.int .i64 d,.int .i64 (d+m:Nat),.int .i64 a,.int .i64 l,.int .i64 (d+m - 1:Nat)]/\l - a<=al/\d+m - q<=a/\a<=l/\l<=d/\(a=d+m - q\/∃ x y,L[a - 1 - p]? = some x/\R[d+m - a - m]? = some y/\¬ r y x)/\(l=d\/∃ x y,L[l - p]? = some x/\R[d+m - 1 - l - m]? = some y/\r y x)/\BP (AL (some ⟨b,0,none⟩)) w w'/\Bs eI w' (some ⟨b,0,none⟩) n t (A++(L++(R++B)))) (fun al=>al) (d - (d+m - q)) ⟨d+m - q,d,by rw [cb];rfl,om,om,om,om,.inl rfl,.inl rfl,Vc.BP.refl _ _,h⟩ ?_;rintro al cv _ bj ⟨a,l,rfl,c2,cx,c3,cw,a8,az,ab,af⟩;by_cases cy:a<l
 .obtain ⟨x,ac⟩:∃ x,L[(a+l) / 2 - p]? = some x:=AA om;obtain ⟨y,ad⟩:∃ y,R[d+m - 1 - (a+l) / 2 - m]? = some y:=AA om;have bu:=br ((a+l) / 2) x om ac;have bv:=bt (d+m - 1 - (a+l) / 2) y om ad;have bq:=fun l (b7:AD bj l)=>hg y (by simp [List.mem_of_getElem? ad]) x (by simp [List.mem_of_getElem? ac]) l (ab.trans b7.mod);have c4:=af.1;generalize A++(L++(R++B))=da at *;by_cases bp:cmp y x<0
  .have bl:(a+l) / 2=d\/∃ x y,L[(a+l) / 2 - p]? = some x/\R[d+m - 1 - (a+l) / 2 - m]? = some y/\r y x := .inr ⟨x,y,ac,ad,(hr _ _).1 bp⟩;(conv=>whnf);refine iY ?_;(conv=>whnf);refine jP (((a+l:Nat):Int)) ?_;(conv=>whnf);refine As (k := .u64) kR kR (EZ om om) ?_
   (conv=>whnf);refine E5 dE ?_;(conv=>whnf);refine As kR kR (Bv om om) ?_
   (conv=>whnf);refine dH (pB [0,2,4,6,8,10,12,14,17,19,21,23,25,27]) ?_;(conv=>whnf);intro cp aa;(conv=>whnf);refine BQ.sub (((d+m - 1 - ((a+l) / 2):Nat):Int)) om om om ?_;(conv=>whnf);refine CS (sz:=1) kR (d+m - 1 - (a+l) / 2) rfl om ?_;have be:=AU AI af bv;(conv=>whnf);refine dO be rfl ?_;(conv=>whnf);refine jW (sz:=1) ((a+l) / 2) rfl om ?_;have bd:=AU AI (af.ext aa) bu;(conv=>whnf);refine ⟨aa,?_⟩;(conv=>whnf);refine jO bd rfl ?_;(conv=>whnf);refine ⟨aa,?_⟩;(conv=>whnf);refine dM (bq _ aa) fun cn ae=>?_;(conv=>whnf);refine ⟨(xt aa ae),?_⟩;(conv=>whnf);with_reducible refine AW (fun a9=>?_) (fun a9=>?_)
   ·(conv=>whnf);refine jP ((((a+l) / 2+1:Nat):Int)) ?_;(conv=>whnf);exact ⟨al+1,om,_,_,rfl,om,om,om,om,om,om,((ab.trans aa.mod).trans ae.mod),(af.ext (xt aa ae))⟩
   ·(conv=>whnf);exact ⟨al - 1,om,_,_,rfl,om,om,om,om,om,om,((ab.trans aa.mod).trans ae.mod),(af.ext (xt aa ae))⟩
  .have bk:(a+l) / 2+1=d+m - q\/∃ x y,L[(a+l) / 2+1 - 1 - p]? = some x/\R[d+m - ((a+l) / 2+1) - m]? = some y/\¬ r y x := .inr ⟨x,y,by rw [show (a+l) / 2+1 - 1 - p=(a+l) / 2 - p by omega];exact ac,by rw [show d+m - ((a+l) / 2+1) - m=d+m - 1 - (a+l) / 2 - m by omega];exact ad,fun ca=>bp ((hr _ _).2 ca)⟩;(conv=>whnf);refine iY ?_;(conv=>whnf);refine jP (((a+l:Nat):Int)) ?_;(conv=>whnf);refine As (k := .u64) kR kR (EZ om om) ?_
   (conv=>whnf);refine E5 dE ?_;(conv=>whnf);refine As kR kR (Bv om om) ?_
   (conv=>whnf);refine dH (pB [0,2,4,6,8,10,12,14,17,19,21,23,25,27]) ?_;(conv=>whnf);intro cp aa;(conv=>whnf);refine BQ.sub (((d+m - 1 - ((a+l) / 2):Nat):Int)) om om om ?_;(conv=>whnf);refine CS (sz:=1) kR (d+m - 1 - (a+l) / 2) rfl om ?_;have be:=AU AI af bv;(conv=>whnf);refine dO be rfl ?_;(conv=>whnf);refine jW (sz:=1) ((a+l) / 2) rfl om ?_;have bd:=AU AI (af.ext aa) bu;(conv=>whnf);refine ⟨aa,?_⟩;(conv=>whnf);refine jO bd rfl ?_;(conv=>whnf);refine ⟨aa,?_⟩;(conv=>whnf);refine dM (bq _ aa) fun cn ae=>?_;(conv=>whnf);refine ⟨(xt aa ae),?_⟩;(conv=>whnf);with_reducible refine AW (fun a9=>?_) (fun a9=>?_)
   ·(conv=>whnf);refine jP ((((a+l) / 2+1:Nat):Int)) ?_;(conv=>whnf);exact ⟨al - 1,om,_,_,rfl,om,om,om,om,om,om,((ab.trans aa.mod).trans ae.mod),(af.ext (xt aa ae))⟩
   ·(conv=>whnf);exact ⟨al+1,om,_,_,rfl,om,om,om,om,om,om,((ab.trans aa.mod).trans ae.mod),(af.ext (xt aa ae))⟩
 .have ce:a=l:=om
  subst ce;have b8:L=L.take (a - p)++L.drop (a - p):=(List.take_append_drop _ _).symm;have b':R=R.take (d - a)++R.drop (d - a):=(List.take_append_drop _ _).symm;have c5:(L.take (a - p)).length=a - p:=by rw [List.length_take];omega
  have c6:(L.drop (a - p)).length=m - a:=by rw [List.length_drop];omega
  have c7:(R.take (d - a)).length=d - a:=by rw [List.length_take];omega
  have c8:(R.drop (d - a)).length=q - (d+m - a):=by rw [List.length_drop];omega
  have bk:L.take (a - p)=[]\/R.drop (d - a)=[]\/∃ x y,(L.take (a - p)).getLast? = some x/\(R.drop (d - a)).head? = some y/\Dc r x y:=by
   rcases a8 with a8 | ⟨x,y,ac,ad,bi⟩
   .exact .inr (.inl (List.drop_eq_nil_of_le om))
   .by_cases bg:a=p
    .left;rw [bg,Nat.sub_self];rfl
    .refine .inr (.inr ⟨x,y,?_,Hl (by rw [show d - a=d+m - a - m by omega];exact ad),hs.lex_of_not (hlt x (List.mem_of_getElem? ac) y (List.mem_of_getElem? ad)) bi⟩);have:=Gp ac;rwa [show a - 1 - p+1=a - p by omega] at this
  have bl:L.drop (a - p)=[]\/R.take (d - a)=[]\/∃ x y,(R.take (d - a)).getLast? = some x/\(L.drop (a - p)).head? = some y/\Dc r x y:=by
   rcases az with az | ⟨x,y,ac,ad,bi⟩
   .right;left;rw [az,Nat.sub_self];rfl
   .by_cases bg:a=d
    .right;left;rw [bg,Nat.sub_self];rfl
    .refine .inr (.inr ⟨y,x,?_,Hl ac,.inl bi⟩);have:=Gp ad;rwa [show d+m - 1 - a - m+1=d - a by omega] at this
  clear a8 az br bt;generalize L.take (a - p)=u at *;generalize L.drop (a - p)=o at *;generalize R.take (d - a)=z at *;generalize R.drop (d - a)=s at *;subst b8;subst b';have ah:=List.pairwise_append.1 hL;have aj:=List.pairwise_append.1 hR;have ak:=fun am b3 ci ck cj cl=>hs.merged (M1:=am) (M2:=b3) hL hR bk bl ci ck cj cl;have a0:Bs eI bj (some ⟨b,0,none⟩) n t ((A++u)++(o++(z++(s++B)))):=by simpa using af
  have bn:=fun cf cg=>Lf (c:=c) (gf:=g) (cap:=cap) (p:=a) (m:=m) (q:=d+m - a) a0 sW om om cf cg hn6;have cd:(A++u)++(z++(o++(s++B)))=A++((u++z)++(o++(s++B))):=sI
  rw [cd] at bn;have bo:0<u.length->0<z.length->∀ l,BP (AL (some ⟨b,0,none⟩)) w l->Bs eI l (some ⟨b,0,none⟩) n t (A++((u++z)++(o++(s++B))))->Dq 340 [.slice (some ⟨b,0,none⟩) n c,.int .i64 p,.int .i64 a,.int .i64 d,.func (.func g) ⟨[]⟩ ⟨cap⟩] l (fun v w'=>v = .tuple #[]/\BP (AL (some ⟨b,0,none⟩)) l w'/\∃ M,M.Perm (u++z)/\M.Pairwise (Dc r)/\Bs eI w' (some ⟨b,0,none⟩) n t (A++(M++(o++(s++B))))):=fun a5 a6 l bh a' =>
   ih (w:=l) (A:=A) (L:=u) (R:=z) (B:=o++(s++B)) (by simp only [List.length_append] at hf;omega) a5 a6 (by simpa using a') ah.1 aj.1 (fun x ac y ad=>hlt x (by simp [ac]) y (by simp [ad])) (fun i ap j bf w' M=>hg i (by rcases List.mem_append.1 ap with h | h<;>simp [h]) j (by rcases List.mem_append.1 bf with h | h<;>simp [h]) w' (bh.trans M)) hp om om
  have a2:0<o.length->0<s.length->∀ l am,am.Perm (u++z)->BP (AL (some ⟨b,0,none⟩)) w l->Bs eI l (some ⟨b,0,none⟩) n t (A++(am++(o++(s++B))))->Dq 340 [.slice (some ⟨b,0,none⟩) n c,.int .i64 d,.int .i64 (d+m - a:Nat),.int .i64 q,.func (.func g) ⟨[]⟩ ⟨cap⟩] l (fun v w'=>v = .tuple #[]/\BP (AL (some ⟨b,0,none⟩)) l w'/\∃ M,M.Perm (o++s)/\M.Pairwise (Dc r)/\Bs eI w' (some ⟨b,0,none⟩) n t ((A++am)++(M++B))):=fun a5 a6 l am ai bh a' =>
   ih (w:=l) (A:=A++am) (L:=o) (R:=s) (B:=B) (by simp only [List.length_append] at hf;omega) a5 a6 (by simpa using a') ah.2.1 aj.2.1 (fun x ac y ad=>hlt x (by simp [ac]) y (by simp [ad])) (fun i ap j bf w' M=>hg i (by rcases List.mem_append.1 ap with h | h<;>simp [h]) j (by rcases List.mem_append.1 bf with h | h<;>simp [h]) w' (bh.trans M)) (by have:=ai.length_eq;simp only [List.length_append] at *;omega) om om
  have c1:A++((u++z)++(o++(s++B)))=A++((u++z)++((o++s)++B)):=sI
  have av:o.length=0->o=[]:=List.eq_nil_of_length_eq_zero;have ba:z.length=0->z=[]:=List.eq_nil_of_length_eq_zero;have bm:u.length=0->u=[]:=List.eq_nil_of_length_eq_zero;have a1:s.length=0->s=[]:=List.eq_nil_of_length_eq_zero;by_cases cs:a<m/\m<d+m - a
  .have bb:=bn om om;have ct:(a:Int)<m:=om
   have cu:(m:Int)<(d+m - a:Nat):=om
   by_cases b6:p<a/\a<d
   .have bc:=bo om om;by_cases a7:d<d+m - a/\d+m - a<q
    .have aw:=a2 om om;(conv=>whnf);refine iN ?_;(conv=>whnf);refine AB.sub (((d+m - (a):Nat):Int)) om om om ?_;(conv=>whnf);refine iY ?_;(conv=>whnf);refine iY ?_;(conv=>whnf);refine (bb).mono ?_;rintro _ b1 ⟨rfl,ag,au⟩;(conv=>whnf);refine iY ?_;(conv=>whnf);refine iY ?_;(conv=>whnf);refine (bc _ ((ab.trans ag)) au).mono ?_;rintro _ co ⟨rfl,a3,b2,ar,ay,a4⟩;(conv=>whnf);refine iY ?_;(conv=>whnf);refine iY ?_;(conv=>whnf);refine (aw _ _ ar (((ab.trans ag).trans a3)) a4).mono ?_;rintro _ c' ⟨rfl,ch,cr,bz,b0,b5⟩;(conv=>whnf);exact ⟨rfl,(((ab.trans ag).trans a3).trans ch),_,(ak _ _ ar ay bz b0).1,(ak _ _ ar ay bz b0).2,by simpa using b5⟩
    .have an:(o++s).Perm (o++s):=List.Perm.refl _;have ao:(o++s).Pairwise (Dc r):=by
      have e:o=[]\/s=[]:=by
       by_cases e:o.length=0
       .exact .inl (av e)
       .exact .inr (a1 om)
      rcases e with e | e
      .rw [e];exact aj.2.1
      .rw [e,List.append_nil];exact ah.2.1
     (conv=>whnf);refine iN ?_;(conv=>whnf);refine AB.sub (((d+m - (a):Nat):Int)) om om om ?_;(conv=>whnf);refine iY ?_;(conv=>whnf);refine iY ?_;(conv=>whnf);refine (bb).mono ?_;rintro _ b1 ⟨rfl,ag,au⟩;(conv=>whnf);refine iY ?_;(conv=>whnf);refine iY ?_;(conv=>whnf);refine (bc _ ((ab.trans ag)) au).mono ?_;rintro _ co ⟨rfl,a3,b2,ar,ay,a4⟩;(conv=>whnf);refine iY ?_;(conv=>whnf);refine iN ?_;(conv=>whnf);exact ⟨rfl,((ab.trans ag).trans a3),_,(ak _ _ ar ay an ao).1,(ak _ _ ar ay an ao).2,by simpa using a4⟩
   .have ai:(u++z).Perm (u++z):=List.Perm.refl _;have ax:(u++z).Pairwise (Dc r):=by
     have e:u=[]\/z=[]:=by
      by_cases e:u.length=0
      .exact .inl (bm e)
      .exact .inr (ba om)
     rcases e with e | e
     .rw [e];exact aj.1
     .rw [e,List.append_nil];exact ah.1
    by_cases a7:d<d+m - a/\d+m - a<q
    .have aw:=a2 om om;exfalso;omega
    .have an:(o++s).Perm (o++s):=List.Perm.refl _;have ao:(o++s).Pairwise (Dc r):=by
      have e:o=[]\/s=[]:=by
       by_cases e:o.length=0
       .exact .inl (av e)
       .exact .inr (a1 om)
      rcases e with e | e
      .rw [e];exact aj.2.1
      .rw [e,List.append_nil];exact ah.2.1
     (conv=>whnf);refine iN ?_;(conv=>whnf);refine AB.sub (((d+m - (a):Nat):Int)) om om om ?_;(conv=>whnf);refine iY ?_;(conv=>whnf);refine iY ?_;(conv=>whnf);refine (bb).mono ?_;rintro _ b1 ⟨rfl,ag,au⟩;(conv=>whnf);refine iN ?_;(conv=>whnf);refine iY ?_;(conv=>whnf);refine iN ?_;(conv=>whnf);exact ⟨rfl,(ab.trans ag),_,(ak _ _ ai ax an ao).1,(ak _ _ ai ax an ao).2,by simpa using au⟩
  .have b9:Bs eI bj (some ⟨b,0,none⟩) n t (A++((u++z)++(o++(s++B)))):=by
    have e:o=[]\/z=[]:=by
     by_cases e:o.length=0
     .exact .inl (av e)
     .exact .inr (ba om)
    rcases e with e | e<;>(rw [e] at a0 ⊢;simpa using a0)
   clear af a0;by_cases b6:p<a/\a<d
   .have bc:=bo om om;by_cases a7:d<d+m - a/\d+m - a<q
    .have aw:=a2 om om;exfalso;omega
    .have an:(o++s).Perm (o++s):=List.Perm.refl _;have ao:(o++s).Pairwise (Dc r):=by
      have e:o=[]\/s=[]:=by
       by_cases e:o.length=0
       .exact .inl (av e)
       .exact .inr (a1 om)
      rcases e with e | e
      .rw [e];exact aj.2.1
      .rw [e,List.append_nil];exact ah.2.1
     exfalso;omega
   .have ai:(u++z).Perm (u++z):=List.Perm.refl _;have ax:(u++z).Pairwise (Dc r):=by
     have e:u=[]\/z=[]:=by
      by_cases e:u.length=0
      .exact .inl (bm e)
      .exact .inr (ba om)
     rcases e with e | e
     .rw [e];exact aj.1
     .rw [e,List.append_nil];exact ah.1
    by_cases a7:d<d+m - a/\d+m - a<q
    .have aw:=a2 om om;(conv=>whnf);refine iN ?_;(conv=>whnf);refine AB.sub (((d+m - (a):Nat):Int)) om om om ?_;(conv=>whnf);refine iY ?_;(conv=>whnf);refine iN ?_;(conv=>whnf);refine iY ?_;(conv=>whnf);refine iN ?_;(conv=>whnf);refine iY ?_;(conv=>whnf);refine iY ?_;(conv=>whnf);refine (aw _ _ ai (ab) b9).mono ?_;rintro _ c9 ⟨rfl,ag,cq,bw,bx,b4⟩;(conv=>whnf);exact ⟨rfl,(ab.trans ag),_,(ak _ _ ai ax bw bx).1,(ak _ _ ai ax bw bx).2,by simpa using b4⟩
    .have an:(o++s).Perm (o++s):=List.Perm.refl _;have ao:(o++s).Pairwise (Dc r):=by
      have e:o=[]\/s=[]:=by
       by_cases e:o.length=0
       .exact .inl (av e)
       .exact .inr (a1 om)
      rcases e with e | e
      .rw [e];exact aj.2.1
      .rw [e,List.append_nil];exact ah.2.1
     exfalso;omega
set_option maxHeartbeats 4000000 in
theorem R8 (hs:KD r) (hr:∀ i j,cmp i j<0↔r i j) (hn6:n<=1000000) (ih:∀ {w:World} {A L R B:List Int},L.length+R.length<=f->0<L.length->0<R.length ->
  Bs eI w (some ⟨b,0,none⟩) n t (A++(L++(R++B)))->L.Pairwise (Dc r)->R.Pairwise (Dc r)->(∀ x∈L,∀ y∈R,x<y) ->
  (∀ i∈L++R,∀ j∈L++R,∀ w',BP (AL (some ⟨b,0,none⟩)) w w'->E2 Tryz.prog g (.int .i64 i :: .int .i64 j :: cap) w' (fun v w''=>v = .int .i64 (cmp i j)/\AD w' w'')) ->
  ∀ {p m q:Nat},A.length=p->p+L.length=m->m+R.length=q ->
  Dq 340 [.slice (some ⟨b,0,none⟩) n c,.int .i64 p,.int .i64 m,.int .i64 q,.func (.func g) ⟨[]⟩ ⟨cap⟩] w (fun v w'=>v = .tuple #[]/\BP (AL (some ⟨b,0,none⟩)) w w'/\∃ M,M.Perm (L++R)/\M.Pairwise (Dc r)/\Bs eI w' (some ⟨b,0,none⟩) n t (A++(M++B))))
 (hf:L.length+R.length<=f+1) (hL1:1<L.length) (hR1:1<R.length)
  (h:Bs eI w (some ⟨b,0,none⟩) n t (A++(L++(R++B)))) (hL:L.Pairwise (Dc r)) (hR:R.Pairwise (Dc r)) (hlt:∀ x∈L,∀ y∈R,x<y)
  (hg:∀ i∈L++R,∀ j∈L++R,∀ w',BP (AL (some ⟨b,0,none⟩)) w w'->E2 Tryz.prog g (.int .i64 i :: .int .i64 j :: cap) w' (fun v w''=>v = .int .i64 (cmp i j)/\AD w' w''))
 (hp:A.length=p) (hm:p+L.length=m) (hq:m+R.length=q) (hside:¬ (p+q) / 2<m) :
  Dq 340 [.slice (some ⟨b,0,none⟩) n c,.int .i64 p,.int .i64 m,.int .i64 q,.func (.func g) ⟨[]⟩ ⟨cap⟩] w (fun v w'=>v = .tuple #[]/\BP (AL (some ⟨b,0,none⟩)) w w'/\∃ M,M.Perm (L++R)/\M.Pairwise (Dc r)/\Bs eI w' (some ⟨b,0,none⟩) n t (A++(M++B))):=by
 have cc:=h.1;simp only [List.length_append] at cc;obtain ⟨d,cb⟩:∃ d,d=(p+q) / 2:=⟨_,rfl⟩;have cz:¬ (m:Int) - p=1:=om
 have c0:¬ (q:Int) - m=1:=om
 have bt:∀ i ar,p<=i->L[i - p]? = some ar->(A++(L++(R++B)))[i]? = some ar:=fun i ar aq e=>LI hp aq e;have bu:∀ i ar,m<=i->R[i - m]? = some ar->(A++(L++(R++B)))[i]? = some ar:=fun i ar aq e=>by
  have:A++(L++(R++B))=(A++L)++(R++B):=sI
  rw [this];exact LI sW aq e
 refine oV Tryz.func340 ?_;conv=>whnf
 refine AB.sub (((m - (p):Nat):Int)) om om om ?_;(conv=>whnf);refine iN ?_;(conv=>whnf);refine AB.sub (((q - (m):Nat):Int)) om om om ?_;(conv=>whnf);refine iN ?_;(conv=>whnf);refine jP (((p+q:Nat):Int)) ?_;(conv=>whnf);refine As (k := .u64) kR kR (EZ om om) ?_
 (conv=>whnf);refine E5 dE ?_;(conv=>whnf);refine As kR kR (Bv om om) ?_
 (conv=>whnf);refine jP ((((p+q) / 2+m:Nat):Int)) ?_;(conv=>whnf);refine iN ?_;(conv=>whnf);refine AB.sub ((((p+q) / 2+m - 1:Nat):Int)) om om om ?_;(conv=>whnf);refine lR [0,1,2,3,4,18,19,20,21,22] (fun (an:Nat) cm w'=>∃ a l:Nat,cm=[.slice (some ⟨b,0,none⟩) n c,.int .i64 p,.int .i64 m,.int .i64 q,.func (.func g) ⟨[]⟩ ⟨cap⟩,.int .i64 d,.int .i64 (d+m:Nat),.int .i64 a,.int .i64 l,.int .i64 (d+m - 1:Nat)]/\l - a<=an/\p<=a/\a<=l/\l<=m/\(a=p\/∃ x y,L[a - 1 - p]? = some x/\R[d+m - a - m]? = some y/\¬ r y x)/\(l=m\/∃ x y,L[l - p]? = some x/\R[d+m - 1 - l - m]? = some y/\r y x)/\BP (AL (some ⟨b,0,none⟩)) w w'/\Bs eI w' (some ⟨b,0,none⟩) n t (A++(L++(R++B)))) (fun an=>an) (m - (p)) ⟨p,m,by rw [cb];rfl,om,om,om,om,.inl rfl,.inl rfl,Vc.BP.refl _ _,h⟩ ?_;rintro an cv _ bj ⟨a,l,rfl,c2,cx,c3,cw,az,a9,ab,af⟩;by_cases cy:a<l
 .obtain ⟨x,ac⟩:∃ x,L[(a+l) / 2 - p]? = some x:=AA om;obtain ⟨y,ad⟩:∃ y,R[d+m - 1 - (a+l) / 2 - m]? = some y:=AA om;have bv:=bt ((a+l) / 2) x om ac;have bw:=bu (d+m - 1 - (a+l) / 2) y om ad;have br:=fun l (b8:AD bj l)=>hg y (by simp [List.mem_of_getElem? ad]) x (by simp [List.mem_of_getElem? ac]) l (ab.trans b8.mod);have c4:=af.1;generalize A++(L++(R++B))=da at *;by_cases bq:cmp y x<0
  .have bl:(a+l) / 2=m\/∃ x y,L[(a+l) / 2 - p]? = some x/\R[d+m - 1 - (a+l) / 2 - m]? = some y/\r y x := .inr ⟨x,y,ac,ad,(hr _ _).1 bq⟩;(conv=>whnf);refine iY ?_;(conv=>whnf);refine jP (((a+l:Nat):Int)) ?_;(conv=>whnf);refine As (k := .u64) kR kR (EZ om om) ?_
   (conv=>whnf);refine E5 dE ?_;(conv=>whnf);refine As kR kR (Bv om om) ?_
   (conv=>whnf);refine dH (pB [0,2,4,6,8,10,12,14,17,19,21,23,25,27]) ?_;(conv=>whnf);intro cp aa;(conv=>whnf);refine BQ.sub (((d+m - 1 - ((a+l) / 2):Nat):Int)) om om om ?_;(conv=>whnf);refine CS (sz:=1) kR (d+m - 1 - (a+l) / 2) rfl om ?_;have be:=AU AI af bw;(conv=>whnf);refine dO be rfl ?_;(conv=>whnf);refine jW (sz:=1) ((a+l) / 2) rfl om ?_;have bd:=AU AI (af.ext aa) bv;(conv=>whnf);refine ⟨aa,?_⟩;(conv=>whnf);refine jO bd rfl ?_;(conv=>whnf);refine ⟨aa,?_⟩;(conv=>whnf);refine dM (br _ aa) fun cn ae=>?_;(conv=>whnf);refine ⟨(xt aa ae),?_⟩;(conv=>whnf);with_reducible refine AW (fun a8=>?_) (fun a8=>?_)
   ·(conv=>whnf);refine jP ((((a+l) / 2+1:Nat):Int)) ?_;(conv=>whnf);exact ⟨an+1,om,_,_,rfl,om,om,om,om,om,om,((ab.trans aa.mod).trans ae.mod),(af.ext (xt aa ae))⟩
   ·(conv=>whnf);exact ⟨an - 1,om,_,_,rfl,om,om,om,om,om,om,((ab.trans aa.mod).trans ae.mod),(af.ext (xt aa ae))⟩
  .have bk:(a+l) / 2+1=p\/∃ x y,L[(a+l) / 2+1 - 1 - p]? = some x/\R[d+m - ((a+l) / 2+1) - m]? = some y/\¬ r y x := .inr ⟨x,y,by rw [show (a+l) / 2+1 - 1 - p=(a+l) / 2 - p by omega];exact ac,by rw [show d+m - ((a+l) / 2+1) - m=d+m - 1 - (a+l) / 2 - m by omega];exact ad,fun ca=>bq ((hr _ _).2 ca)⟩;(conv=>whnf);refine iY ?_;(conv=>whnf);refine jP (((a+l:Nat):Int)) ?_;(conv=>whnf);refine As (k := .u64) kR kR (EZ om om) ?_
   (conv=>whnf);refine E5 dE ?_;(conv=>whnf);refine As kR kR (Bv om om) ?_
   (conv=>whnf);refine dH (pB [0,2,4,6,8,10,12,14,17,19,21,23,25,27]) ?_;(conv=>whnf);intro cp aa;(conv=>whnf);refine BQ.sub (((d+m - 1 - ((a+l) / 2):Nat):Int)) om om om ?_;(conv=>whnf);refine CS (sz:=1) kR (d+m - 1 - (a+l) / 2) rfl om ?_;have be:=AU AI af bw;(conv=>whnf);refine dO be rfl ?_;(conv=>whnf);refine jW (sz:=1) ((a+l) / 2) rfl om ?_;have bd:=AU AI (af.ext aa) bv;(conv=>whnf);refine ⟨aa,?_⟩;(conv=>whnf);refine jO bd rfl ?_;(conv=>whnf);refine ⟨aa,?_⟩;(conv=>whnf);refine dM (br _ aa) fun cn ae=>?_;(conv=>whnf);refine ⟨(xt aa ae),?_⟩;(conv=>whnf);with_reducible refine AW (fun a8=>?_) (fun a8=>?_)
   ·(conv=>whnf);refine jP ((((a+l) / 2+1:Nat):Int)) ?_;(conv=>whnf);exact ⟨an - 1,om,_,_,rfl,om,om,om,om,om,om,((ab.trans aa.mod).trans ae.mod),(af.ext (xt aa ae))⟩
   ·(conv=>whnf);exact ⟨an+1,om,_,_,rfl,om,om,om,om,om,om,((ab.trans aa.mod).trans ae.mod),(af.ext (xt aa ae))⟩
 .have ce:a=l:=om
  subst ce;have b9:L=L.take (a - p)++L.drop (a - p):=(List.take_append_drop _ _).symm;have b':R=R.take (d - a)++R.drop (d - a):=(List.take_append_drop _ _).symm;have c5:(L.take (a - p)).length=a - p:=by rw [List.length_take];omega
  have c6:(L.drop (a - p)).length=m - a:=by rw [List.length_drop];omega
  have c7:(R.take (d - a)).length=d - a:=by rw [List.length_take];omega
  have c8:(R.drop (d - a)).length=q - (d+m - a):=by rw [List.length_drop];omega
  have bk:L.take (a - p)=[]\/R.drop (d - a)=[]\/∃ x y,(L.take (a - p)).getLast? = some x/\(R.drop (d - a)).head? = some y/\Dc r x y:=by
   rcases az with az | ⟨x,y,ac,ad,bi⟩
   .left;rw [az,Nat.sub_self];rfl
   .by_cases bg:a=p
    .left;rw [bg,Nat.sub_self];rfl
    .refine .inr (.inr ⟨x,y,?_,Hl (by rw [show d - a=d+m - a - m by omega];exact ad),hs.lex_of_not (hlt x (List.mem_of_getElem? ac) y (List.mem_of_getElem? ad)) bi⟩);have:=Gp ac;rwa [show a - 1 - p+1=a - p by omega] at this
  have bl:L.drop (a - p)=[]\/R.take (d - a)=[]\/∃ x y,(R.take (d - a)).getLast? = some x/\(L.drop (a - p)).head? = some y/\Dc r x y:=by
   rcases a9 with a9 | ⟨x,y,ac,ad,bi⟩
   .exact .inl (List.drop_eq_nil_of_le om)
   .by_cases bg:a=d
    .right;left;rw [bg,Nat.sub_self];rfl
    .refine .inr (.inr ⟨y,x,?_,Hl ac,.inl bi⟩);have:=Gp ad;rwa [show d+m - 1 - a - m+1=d - a by omega] at this
  clear az a9 bt bu;generalize L.take (a - p)=u at *;generalize L.drop (a - p)=o at *;generalize R.take (d - a)=z at *;generalize R.drop (d - a)=s at *;subst b9;subst b';have al:=List.pairwise_append.1 hL;have am:=List.pairwise_append.1 hR;have ah:=fun ao b4 ci ck cj cl=>hs.merged (M1:=ao) (M2:=b4) hL hR bk bl ci ck cj cl;have a0:Bs eI bj (some ⟨b,0,none⟩) n t ((A++u)++(o++(z++(s++B)))):=by simpa using af
  have bo:=fun cf cg=>Lf (c:=c) (gf:=g) (cap:=cap) (p:=a) (m:=m) (q:=d+m - a) a0 sW om om cf cg hn6;have cd:(A++u)++(z++(o++(s++B)))=A++((u++z)++(o++(s++B))):=sI
  rw [cd] at bo;have bp:0<u.length->0<z.length->∀ l,BP (AL (some ⟨b,0,none⟩)) w l->Bs eI l (some ⟨b,0,none⟩) n t (A++((u++z)++(o++(s++B))))->Dq 340 [.slice (some ⟨b,0,none⟩) n c,.int .i64 p,.int .i64 a,.int .i64 d,.func (.func g) ⟨[]⟩ ⟨cap⟩] l (fun v w'=>v = .tuple #[]/\BP (AL (some ⟨b,0,none⟩)) l w'/\∃ M,M.Perm (u++z)/\M.Pairwise (Dc r)/\Bs eI w' (some ⟨b,0,none⟩) n t (A++(M++(o++(s++B))))):=fun a5 a6 l bh a' =>
   ih (w:=l) (A:=A) (L:=u) (R:=z) (B:=o++(s++B)) (by simp only [List.length_append] at hf;omega) a5 a6 (by simpa using a') al.1 am.1 (fun x ac y ad=>hlt x (by simp [ac]) y (by simp [ad])) (fun i aq j bf w' M=>hg i (by rcases List.mem_append.1 aq with h | h<;>simp [h]) j (by rcases List.mem_append.1 bf with h | h<;>simp [h]) w' (bh.trans M)) hp om om
  have a2:0<o.length->0<s.length->∀ l ao,ao.Perm (u++z)->BP (AL (some ⟨b,0,none⟩)) w l->Bs eI l (some ⟨b,0,none⟩) n t (A++(ao++(o++(s++B))))->Dq 340 [.slice (some ⟨b,0,none⟩) n c,.int .i64 d,.int .i64 (d+m - a:Nat),.int .i64 q,.func (.func g) ⟨[]⟩ ⟨cap⟩] l (fun v w'=>v = .tuple #[]/\BP (AL (some ⟨b,0,none⟩)) l w'/\∃ M,M.Perm (o++s)/\M.Pairwise (Dc r)/\Bs eI w' (some ⟨b,0,none⟩) n t ((A++ao)++(M++B))):=fun a5 a6 l ao ag bh a' =>
   ih (w:=l) (A:=A++ao) (L:=o) (R:=s) (B:=B) (by simp only [List.length_append] at hf;omega) a5 a6 (by simpa using a') al.2.1 am.2.1 (fun x ac y ad=>hlt x (by simp [ac]) y (by simp [ad])) (fun i aq j bf w' M=>hg i (by rcases List.mem_append.1 aq with h | h<;>simp [h]) j (by rcases List.mem_append.1 bf with h | h<;>simp [h]) w' (bh.trans M)) (by have:=ag.length_eq;simp only [List.length_append] at *;omega) om om
  have c1:A++((u++z)++(o++(s++B)))=A++((u++z)++((o++s)++B)):=sI
  have aw:o.length=0->o=[]:=List.eq_nil_of_length_eq_zero;have ba:z.length=0->z=[]:=List.eq_nil_of_length_eq_zero;have bm:u.length=0->u=[]:=List.eq_nil_of_length_eq_zero;have a1:s.length=0->s=[]:=List.eq_nil_of_length_eq_zero;by_cases cs:a<m/\m<d+m - a
  .have bb:=bo om om;have ct:(a:Int)<m:=om
   have cu:(m:Int)<(d+m - a:Nat):=om
   by_cases b7:p<a/\a<d
   .have bc:=bp om om;by_cases a7:d<d+m - a/\d+m - a<q
    .have ax:=a2 om om;(conv=>whnf);refine iN ?_;(conv=>whnf);refine AB.sub (((d+m - (a):Nat):Int)) om om om ?_;(conv=>whnf);refine iY ?_;(conv=>whnf);refine iY ?_;(conv=>whnf);refine (bb).mono ?_;rintro _ b2 ⟨rfl,ai,av⟩;(conv=>whnf);refine iY ?_;(conv=>whnf);refine iY ?_;(conv=>whnf);refine (bc _ ((ab.trans ai)) av).mono ?_;rintro _ co ⟨rfl,a3,b3,au,ay,a4⟩;(conv=>whnf);refine iY ?_;(conv=>whnf);refine iY ?_;(conv=>whnf);refine (ax _ _ au (((ab.trans ai).trans a3)) a4).mono ?_;rintro _ c' ⟨rfl,ch,cr,b0,b1,b6⟩;(conv=>whnf);exact ⟨rfl,(((ab.trans ai).trans a3).trans ch),_,(ah _ _ au ay b0 b1).1,(ah _ _ au ay b0 b1).2,by simpa using b6⟩
    .have aj:(o++s).Perm (o++s):=List.Perm.refl _;have ak:(o++s).Pairwise (Dc r):=by
      have e:o=[]\/s=[]:=by
       by_cases e:o.length=0
       .exact .inl (aw e)
       .exact .inr (a1 om)
      rcases e with e | e
      .rw [e];exact am.2.1
      .rw [e,List.append_nil];exact al.2.1
     exfalso;omega
   .have ag:(u++z).Perm (u++z):=List.Perm.refl _;have ap:(u++z).Pairwise (Dc r):=by
     have e:u=[]\/z=[]:=by
      by_cases e:u.length=0
      .exact .inl (bm e)
      .exact .inr (ba om)
     rcases e with e | e
     .rw [e];exact am.1
     .rw [e,List.append_nil];exact al.1
    by_cases a7:d<d+m - a/\d+m - a<q
    .have ax:=a2 om om;(conv=>whnf);refine iN ?_;(conv=>whnf);refine AB.sub (((d+m - (a):Nat):Int)) om om om ?_;(conv=>whnf);refine iY ?_;(conv=>whnf);refine iY ?_;(conv=>whnf);refine (bb).mono ?_;rintro _ b2 ⟨rfl,ai,av⟩;(conv=>whnf);refine iN ?_;(conv=>whnf);refine iY ?_;(conv=>whnf);refine iY ?_;(conv=>whnf);refine (ax _ _ ag ((ab.trans ai)) av).mono ?_;rintro _ co ⟨rfl,a3,b3,au,ay,a4⟩;(conv=>whnf);exact ⟨rfl,((ab.trans ai).trans a3),_,(ah _ _ ag ap au ay).1,(ah _ _ ag ap au ay).2,by simpa using a4⟩
    .have aj:(o++s).Perm (o++s):=List.Perm.refl _;have ak:(o++s).Pairwise (Dc r):=by
      have e:o=[]\/s=[]:=by
       by_cases e:o.length=0
       .exact .inl (aw e)
       .exact .inr (a1 om)
      rcases e with e | e
      .rw [e];exact am.2.1
      .rw [e,List.append_nil];exact al.2.1
     (conv=>whnf);refine iN ?_;(conv=>whnf);refine AB.sub (((d+m - (a):Nat):Int)) om om om ?_;(conv=>whnf);refine iY ?_;(conv=>whnf);refine iY ?_;(conv=>whnf);refine (bb).mono ?_;rintro _ b2 ⟨rfl,ai,av⟩;(conv=>whnf);refine iN ?_;(conv=>whnf);refine iY ?_;(conv=>whnf);refine iN ?_;(conv=>whnf);exact ⟨rfl,(ab.trans ai),_,(ah _ _ ag ap aj ak).1,(ah _ _ ag ap aj ak).2,by simpa using av⟩
  .have bn:Bs eI bj (some ⟨b,0,none⟩) n t (A++((u++z)++(o++(s++B)))):=by
    have e:o=[]\/z=[]:=by
     by_cases e:o.length=0
     .exact .inl (aw e)
     .exact .inr (ba om)
    rcases e with e | e<;>(rw [e] at a0 ⊢;simpa using a0)
   clear af a0;by_cases b7:p<a/\a<d
   .have bc:=bp om om;by_cases a7:d<d+m - a/\d+m - a<q
    .have ax:=a2 om om;exfalso;omega
    .have aj:(o++s).Perm (o++s):=List.Perm.refl _;have ak:(o++s).Pairwise (Dc r):=by
      have e:o=[]\/s=[]:=by
       by_cases e:o.length=0
       .exact .inl (aw e)
       .exact .inr (a1 om)
      rcases e with e | e
      .rw [e];exact am.2.1
      .rw [e,List.append_nil];exact al.2.1
     (conv=>whnf);refine iN ?_;(conv=>whnf);refine AB.sub (((d+m - (a):Nat):Int)) om om om ?_;(conv=>whnf);refine iN ?_;(conv=>whnf);refine iY ?_;(conv=>whnf);refine iY ?_;(conv=>whnf);refine (bc _ (ab) bn).mono ?_;rintro _ c9 ⟨rfl,ai,cq,bx,bz,b5⟩;(conv=>whnf);refine iN ?_;(conv=>whnf);exact ⟨rfl,(ab.trans ai),_,(ah _ _ bx bz aj ak).1,(ah _ _ bx bz aj ak).2,by simpa using b5⟩
   .have ag:(u++z).Perm (u++z):=List.Perm.refl _;have ap:(u++z).Pairwise (Dc r):=by
     have e:u=[]\/z=[]:=by
      by_cases e:u.length=0
      .exact .inl (bm e)
      .exact .inr (ba om)
     rcases e with e | e
     .rw [e];exact am.1
     .rw [e,List.append_nil];exact al.1
    by_cases a7:d<d+m - a/\d+m - a<q
    .have ax:=a2 om om;exfalso;omega
    .have aj:(o++s).Perm (o++s):=List.Perm.refl _;have ak:(o++s).Pairwise (Dc r):=by
      have e:o=[]\/s=[]:=by
       by_cases e:o.length=0
       .exact .inl (aw e)
       .exact .inr (a1 om)
      rcases e with e | e
      .rw [e];exact am.2.1
      .rw [e,List.append_nil];exact al.2.1
     (conv=>whnf);refine iN ?_;(conv=>whnf);refine AB.sub (((d+m - (a):Nat):Int)) om om om ?_;(conv=>whnf);refine iN ?_;(conv=>whnf);refine iY ?_;(conv=>whnf);refine iN ?_;(conv=>whnf);refine iN ?_;(conv=>whnf);exact ⟨rfl,ab,_,(ah _ _ ag ap aj ak).1,(ah _ _ ag ap aj ak).2,by simpa using bn⟩
theorem J3 {r:Int->Int->Prop} (hs:KD r) {cmp:Int->Int->Int} (hr:∀ i j,cmp i j<0↔r i j) {b n c t g:Nat} {cap:List Value} (hn6:n<=1000000):∀ (f:Nat) {w:World} {A L R B:List Int},L.length+R.length<=f->0<L.length->0<R.length ->
  Bs eI w (some ⟨b,0,none⟩) n t (A++(L++(R++B)))->L.Pairwise (Dc r)->R.Pairwise (Dc r)->(∀ x∈L,∀ y∈R,x<y) ->
  (∀ i∈L++R,∀ j∈L++R,∀ w',BP (AL (some ⟨b,0,none⟩)) w w'->E2 Tryz.prog g (.int .i64 i :: .int .i64 j :: cap) w' (fun v w''=>v = .int .i64 (cmp i j)/\AD w' w'')) ->
  ∀ {p m q:Nat},A.length=p->p+L.length=m->m+R.length=q ->
  Dq 340 [.slice (some ⟨b,0,none⟩) n c,.int .i64 p,.int .i64 m,.int .i64 q,.func (.func g) ⟨[]⟩ ⟨cap⟩] w (fun v w'=>v = .tuple #[]/\BP (AL (some ⟨b,0,none⟩)) w w'/\∃ M,M.Perm (L++R)/\M.Pairwise (Dc r)/\Bs eI w' (some ⟨b,0,none⟩) n t (A++(M++B)))
 | 0,w,A,L,R,B,hf,hL0,hR0,h,hL,hR,hlt,hg,p,m,q,hp,hm,hq=>om
 | f+1,w,A,L,R,B,hf,hL0,hR0,h,hL,hR,hlt,hg,p,m,q,hp,hm,hq=>by
  have hn:=h.1;simp only [List.length_append] at hn;by_cases k:L.length=1
  .obtain ⟨x,rfl⟩:=List.length_eq_one_iff.1 k;exact SC hs hr h hR hR0 (fun y o=>hlt x sI y o) (fun i a w' M=>hg i (by simp [a]) x sI w' M) hp om hq hn6
  by_cases l:R.length=1
  .obtain ⟨y,rfl⟩:=List.length_eq_one_iff.1 l;exact SA hs hr h hL om (fun u s=>hlt u s y sI) (fun i a w' M=>hg y sI i (by simp [a]) w' M) hp hm om hn6
  have e:=@J3 r hs cmp hr b n c t g cap hn6 f;by_cases d:(p+q) / 2<m
  .exact R9 hs hr hn6 e hf om om h hL hR hlt hg hp hm hq d
  .exact R8 hs hr hn6 e hf om om h hL hR hlt hg hp hm hq d
end Go.Proofs.YtalgenmoljcnmaaGreatDoor
namespace Go.M
open Go Go.Vc
noncomputable def Vg (r:Int->Int->Prop) (L:List Int):Nat->List Int
 | 0=>[]
 | k+1=>Vg r L k++sortL r ((L.drop (20 * k)).take 20)
theorem Xy (r:Int->Int->Prop) (L:List Int):∀ k,20 * k<=L.length->(Vg r L k).length=20 * k
 | 0,_=>rfl
 | k+1,h=>by
  have:=Xy r L k om;simp only [Vg,List.length_append,FH,List.length_take,List.length_drop];omega
theorem XC {L:List Int} (h:OW L) (k:Nat):∀ x∈L.take k,∀ y∈L.drop k,x<y:=by
 have a:L.take k++L.drop k=L:=List.take_append_drop k L;unfold OW at h;rw [<- a] at h;exact (List.pairwise_append.1 h).2.2
end Go.M
namespace Go.Proofs.YtalgenmoljcnmaaGreatDoor
open Go Go.RowKit Go.Vc Go.M
variable {r:Int->Int->Prop} {cmp:Int->Int->Int} {w:World} {b n c t g:Nat} {cap:List Value} {L:List Int}
theorem SD (hs:KD r) (hr:∀ i j,cmp i j<0↔r i j) (hi:∀ i j,BH (cmp i j)) (h:Bs eI w (some ⟨b,0,none⟩) n t L) (hL:OW L) (hn40:n<=40)
  (hg:∀ i∈L,∀ j∈L,∀ w',BP (AL (some ⟨b,0,none⟩)) w w'->E2 Tryz.prog g (.int .i64 i :: .int .i64 j :: cap) w' (fun v w''=>v = .int .i64 (cmp i j)/\AD w' w'')) :
  Dq 314 [.slice (some ⟨b,0,none⟩) n c,.int .i64 n,.func (.func g) ⟨[]⟩ ⟨cap⟩] w (fun v w'=>v = .tuple #[]/\BP (AL (some ⟨b,0,none⟩)) w w'/\Bs eI w' (some ⟨b,0,none⟩) n t (sortL r L)):=by
 have bj:=h.1;have ah:∀ {k:List Int},k.Sublist L->OW k:=fun a7=>QM hL a7;refine oV Tryz.func314 ?_;refine lR [0,1,2,6,7,8] (fun (a:Nat) l w'=>l=[.slice (some ⟨b,0,none⟩) n c,.int .i64 n,.func (.func g) ⟨[]⟩ ⟨cap⟩,.int .i64 20,.int .i64 (20 * a:Nat),.int .i64 (20 * a+20:Nat)]/\20 * a<=n/\BP (AL (some ⟨b,0,none⟩)) w w'/\Bs eI w' (some ⟨b,0,none⟩) n t (Vg r L a++(L.drop (20 * a)++[]))) (fun a=>2 - a) 0 ⟨rfl,om,Vc.BP.refl _ _,by simpa [Vg] using h⟩ ?_;rintro a be _ af ⟨rfl,bh,y,an⟩;have au:=Xy r L a om;by_cases bi:20 * a+20<=n
 .have s:Dq 339 [.slice (some ⟨b,0,none⟩) n c,.int .i64 (20 * a:Nat),.int .i64 (20 * a+20:Nat),.func (.func g) ⟨[]⟩ ⟨cap⟩] af (fun v w'=>v = .tuple #[]/\BP (AL (some ⟨b,0,none⟩)) af w'/\Bs eI w' (some ⟨b,0,none⟩) n t (Vg r L (a+1)++(L.drop (20 * (a+1))++[]))):=by
   have aa:L.drop (20 * a)=(L.drop (20 * a)).take 20++L.drop (20 * (a+1)):=by
    have:=List.take_append_drop 20 (L.drop (20 * a));rw [List.drop_drop] at this;rw [show 20 * (a+1)=20 * a+20 by omega];exact this.symm
   have a0:Bs eI af (some ⟨b,0,none⟩) n t (Vg r L a++((L.drop (20 * a)).take 20++(L.drop (20 * (a+1))++[]))):=by
    rw [<- List.append_assoc ((L.drop (20 * a)).take 20),<- aa];exact an
   have ac:∀ i∈(L.drop (20 * a)).take 20,i∈L:=fun i hi=>List.mem_of_mem_drop (List.mem_of_mem_take hi);have:=I6 (c:=c) hs hr hi a0 (ah ((List.take_sublist _ _).trans (List.drop_sublist _ _))) (fun i hi j ab w' k=>hg i (ac i hi) j (ac j ab) w' (y.trans k)) (p:=20 * a) (q:=20 * a+20) au (by rw [List.length_take,List.length_drop];omega) om;have ay:Vg r L (a+1)++(L.drop (20 * (a+1))++[])=Vg r L a++(sortL r ((L.drop (20 * a)).take 20)++(L.drop (20 * (a+1))++[])):=by simp [Vg]
   rw [ay];exact this
  refine iY<|(s).mono ?_;rintro _ av ⟨rfl,ad,x⟩;exact jP (((20 * a+20+20:Nat):Int)) ⟨a+1,om,rfl,om,(y.trans ad),x⟩
 .have s:Dq 339 [.slice (some ⟨b,0,none⟩) n c,.int .i64 (20 * a:Nat),.int .i64 n,.func (.func g) ⟨[]⟩ ⟨cap⟩] af (fun v w'=>v = .tuple #[]/\BP (AL (some ⟨b,0,none⟩)) af w'/\Bs eI w' (some ⟨b,0,none⟩) n t (Vg r L a++(sortL r (L.drop (20 * a))++[]))):=by
   have ac:∀ i∈L.drop (20 * a),i∈L:=fun i hi=>List.mem_of_mem_drop hi;exact I6 (c:=c) hs hr hi an (ah (List.drop_sublist _ _)) (fun i hi j ab w' k=>hg i (ac i hi) j (ac j ab) w' (y.trans k)) (p:=20 * a) (q:=n) au (by rw [List.length_drop];omega) om
  by_cases bl:n<=20
  .have ak:Vg r L a++(sortL r (L.drop (20 * a))++[])=sortL r L:=by
    have a8:a=0\/a=1:=om
    rcases a8 with rfl | rfl
    .simp [Vg]
    .have aa:L.drop (20 * 1)=[]:=List.drop_eq_nil_of_le om;rw [aa];simp [Vg,sortL,List.take_of_length_le (show L.length<=20 by omega)]
   rw [ak] at s;have bk:¬ (20:Int)<n:=om
   refine iN<|(s).mono ?_;rintro _ av ⟨rfl,ad,x⟩;refine lR [0,1,2,6] (fun (_:Nat) l w'=>l=[.slice (some ⟨b,0,none⟩) n c,.int .i64 n,.func (.func g) ⟨[]⟩ ⟨cap⟩,.int .i64 20]/\BP (AL (some ⟨b,0,none⟩)) w w'/\Bs eI w' (some ⟨b,0,none⟩) n t (sortL r L)) (fun _=>0) 0 ⟨rfl,y.trans ad,x⟩ ?_;rintro _ az _ bc ⟨rfl,z,o⟩;exact iN ⟨rfl,z,o⟩
  .have ak:Vg r L a++(sortL r (L.drop (20 * a))++[])=[]++(sortL r (L.take 20)++(sortL r (L.drop 20)++[])):=by
    have a9:a=1\/(a=2/\n=40):=om
    rcases a9 with rfl | ⟨rfl,am⟩
    .simp [Vg]
    .have aa:L.drop (20 * 2)=[]:=List.drop_eq_nil_of_le om;have a':(L.drop (20 * 1)).take 20=L.drop 20:=List.take_of_length_le sW;rw [aa];simp only [Vg,a'];simp [sortL]
   rw [ak] at s;have ao:∀ ae,BP (AL (some ⟨b,0,none⟩)) w ae->Bs eI ae (some ⟨b,0,none⟩) n t ([]++(sortL r (L.take 20)++(sortL r (L.drop 20)++[])))->Dq 340 [.slice (some ⟨b,0,none⟩) n c,.int .i64 0,.int .i64 20,.int .i64 n,.func (.func g) ⟨[]⟩ ⟨cap⟩] ae (fun v w'=>v = .tuple #[]/\BP (AL (some ⟨b,0,none⟩)) ae w'/\Bs eI w' (some ⟨b,0,none⟩) n t (sortL r L)):=fun ae ba a1=>by
    have ar:∀ d∈sortL r (L.take 20),d∈L.take 20:=fun d e=>L6 e;have ap:∀ d∈sortL r (L.drop 20),d∈L.drop 20:=fun d e=>L6 e;have aq:∀ d∈sortL r (L.take 20)++sortL r (L.drop 20),d∈L:=fun d e=>by
     rcases List.mem_append.1 e with e | e
     .exact List.mem_of_mem_take (ar d e)
     .exact List.mem_of_mem_drop (ap d e)
    have:=J3 (c:=c) hs hr (show n<=1000000 by omega) n (A:=[]) (B:=[]) (by rw [FH,FH,List.length_take,List.length_drop];omega) (by rw [FH,List.length_take];omega) (by rw [FH,List.length_drop];omega) a1
     (hs.sortL (Hw (ah (List.take_sublist _ _)))) (hs.sortL (Hw (ah (List.drop_sublist _ _)))) (fun d e aw bb=>XC hL 20 d (ar d e) aw (ap aw bb))
     (fun i hi j ab w' k=>hg i (aq i hi) j (aq j ab) w' (ba.trans k)) (p:=0) (m:=20) (q:=n) rfl (by rw [FH,List.length_take];omega) (by rw [FH,List.length_drop];omega)
    refine this.mono ?_;rintro _ w' ⟨rfl,ax,k,a2,a6,o⟩;have a3:k.Perm L:=a2.trans (((Ew r _).append (Ew r _)).trans (by rw [List.take_append_drop]));rw [hs.is (Hw hL) a3 a6] at o;exact ⟨rfl,ax,by simpa using o⟩
   refine iN<|(s).mono ?_;rintro _ av ⟨rfl,ad,x⟩;refine lR [0,1,2,6] (fun (f:Nat) l w'=>(f=1/\l=[.slice (some ⟨b,0,none⟩) n c,.int .i64 n,.func (.func g) ⟨[]⟩ ⟨cap⟩,.int .i64 20]/\BP (AL (some ⟨b,0,none⟩)) w w'/\Bs eI w' (some ⟨b,0,none⟩) n t ([]++(sortL r (L.take 20)++(sortL r (L.drop 20)++[]))))\/(f=0/\l=[.slice (some ⟨b,0,none⟩) n c,.int .i64 n,.func (.func g) ⟨[]⟩ ⟨cap⟩,.int .i64 40]/\BP (AL (some ⟨b,0,none⟩)) w w'/\Bs eI w' (some ⟨b,0,none⟩) n t (sortL r L))) (fun f=>f) 1 (.inl ⟨rfl,rfl,y.trans ad,x⟩) ?_;rintro f az _ bc (⟨rfl,rfl,z,o⟩ | ⟨rfl,rfl,z,o⟩)
   .have bg:(20:Int)<n:=om
    refine iY<|AB.mul 40 om om om<|lR [0,1,2,6,7,8] (fun (f:Nat) l w'=>(f=1/\l=[.slice (some ⟨b,0,none⟩) n c,.int .i64 n,.func (.func g) ⟨[]⟩ ⟨cap⟩,.int .i64 20,.int .i64 0,.int .i64 40]/\BP (AL (some ⟨b,0,none⟩)) w w'/\Bs eI w' (some ⟨b,0,none⟩) n t ([]++(sortL r (L.take 20)++(sortL r (L.drop 20)++[]))))\/(f=0/\l=[.slice (some ⟨b,0,none⟩) n c,.int .i64 n,.func (.func g) ⟨[]⟩ ⟨cap⟩,.int .i64 20,.int .i64 40,.int .i64 80]/\BP (AL (some ⟨b,0,none⟩)) w w'/\Bs eI w' (some ⟨b,0,none⟩) n t (sortL r L))) (fun f=>f) 1 (.inl ⟨rfl,rfl,z,o⟩) ?_;rintro f bf _ ai (⟨rfl,rfl,u,ag⟩ | ⟨rfl,rfl,u,ag⟩)
    .by_cases am:n=40
     .have a4:Dq 340 [.slice (some ⟨b,0,none⟩) n c,.int .i64 0,.int .i64 20,.int .i64 40,.func (.func g) ⟨[]⟩ ⟨cap⟩] ai (fun v w'=>v = .tuple #[]/\BP (AL (some ⟨b,0,none⟩)) ai w'/\Bs eI w' (some ⟨b,0,none⟩) n t (sortL r L)):=by
       have:=ao ai u ag;rw [show ((n:Nat):Int)=40 by omega] at this;exact this
      refine iY<|AB.add _ rfl om om<|(a4).mono ?_;rintro _ bd ⟨rfl,al,aj⟩;exact AB.mul _ rfl om om<|AB.add _ rfl om om ⟨0,om,.inr ⟨rfl,rfl,(u.trans al),aj⟩⟩
     .have a5:=ao ai u ag;refine iN<|AB.add _ rfl om om<|iY<|(a5).mono ?_;rintro _ bd ⟨rfl,al,aj⟩;exact AB.mul _ rfl om om ⟨0,om,.inr ⟨rfl,rfl,(u.trans al),aj⟩⟩
    .exact iN<|AB.add _ rfl om om<|iN<|AB.mul _ rfl om om ⟨0,om,.inr ⟨rfl,rfl,u,ag⟩⟩
   .have am:¬ (40:Int)<n:=om
    exact iN ⟨rfl,z,o⟩
theorem Mp (hs:KD r) (hr:∀ i j,cmp i j<0↔r i j) (hi:∀ i j,BH (cmp i j)) (h:Bs eI w (some ⟨b,0,none⟩) n t L) (hL:OW L) (hn40:n<=40)
  (hg:∀ i∈L,∀ j∈L,∀ w',BP (AL (some ⟨b,0,none⟩)) w w'->E2 Tryz.prog g (.int .i64 i :: .int .i64 j :: cap) w' (fun v w''=>v = .int .i64 (cmp i j)/\AD w' w'')) :
  Dq 273 [.slice (some ⟨b,0,none⟩) n c,.func (.func g) ⟨[]⟩ ⟨cap⟩] w (fun v w'=>v = .tuple #[]/\BP (AL (some ⟨b,0,none⟩)) w w'/\Bs eI w' (some ⟨b,0,none⟩) n t (sortL r L)):=by
 have d:=SD (c:=c) hs hr hi h hL hn40 hg;refine oV Tryz.func273 ?_;refine (d).mono ?_;rintro _ f ⟨rfl,e,a⟩;exact ⟨rfl,e,a⟩
end Go.Proofs.YtalgenmoljcnmaaGreatDoor
namespace Go.M
open Go Go.Vc
variable {d:List (List Int)} {f:AE} {i:Nat} {c:List Int}
theorem aF7 (xs:List (List Int)) (q:List Int->Bool):(xs.any fun c=>!q c) = !xs.all q:=by rw [List.not_all_eq_any_not]
def aA8 (K:List (List Int)) (L:Nat) (i j:Int):Int:=CY (Mw K L i) (Mw K L j)
theorem aE7 (K:List (List Int)) (L:Nat) (i j:Int):BH (aA8 K L i j):=by
 have:=RX (Mw K L i) (Mw K L j);unfold aA8 BH;omega
theorem X2 {L:Nat} (h:d[i]? = some c):Mw (d.map (AS f)) L (i:Int)=AS f c:=by
 unfold Mw;rw [List.getD_eq_getElem?_getD,List.getElem?_map,Int.toNat_natCast,h];rfl
theorem WT {z:List Int} (h:d[i]? = some c):(d.map (AS f)).getD i z=AS f c:=by
 rw [List.getD_eq_getElem?_getD,List.getElem?_map,h];rfl
end Go.M
namespace Go.Proofs.YtalgenmoljcnmaaGreatDoor
open Go Go.RowKit Go.Vc Go.M
variable {w:World} {a:Option Addr} {n c g:Nat} {xs:List (List Int)} {p:List Int->Bool} {cap:List Value} {d:Hd} {f:AE}
theorem Mq (h:Ac AZ w a n xs)
  (hg:∀ d x,x∈xs->AZ w d x->∀ w',AD w w'->E2 Tryz.prog g (.agg ⟨eH d⟩ :: cap) w' (fun v w''=>v = .bool (p x)/\AD w' w'')) :
  Dq 313 [.slice a n c,.func (.func g) ⟨[]⟩ ⟨cap⟩] w (fun v w'=>∃ r:Int,v = .int .i64 r/\decide (0<=r)=xs.any p∧-1<=r/\AD w w'):=by
 have am:=h.len;have al:=h.le;obtain ⟨ae,j,aa⟩:=h;have ak:=j.len;refine oV Tryz.func313 ?_;refine lR [0,1,7,8] (fun (b:Nat) ag w'=>ag=[.slice a n c,.func (.func g) ⟨[]⟩ ⟨cap⟩,.int .i64 n,.int .i64 b]/\b<=n/\(xs.take b).any p=false/\AD w w') (fun b=>n - b) 0 ⟨rfl,om,sI,AD.refl _⟩ ?_;rintro b ai _ w' ⟨rfl,aj,m,e⟩;rcases Nat.lt_or_ge b n with ad | ad
 .obtain ⟨d,q⟩:=AA (l:=ae) (k:=b) om;obtain ⟨x,t,y⟩:=aa.get q;have f:=hg d x (List.mem_of_getElem? t) y;have u:=G8 (p:=p) t;cases s:p x
  .rw [s] at f u;rw [m,Bool.or_false] at u;exact iY<|jI (j.ext e) b rfl q fun z af ab o=>jA (n:=1) o rfl<|dM (f _ e) fun ah i=>jP (((b+1:Nat):Int)) ⟨b+1,om,rfl,om,om,(xt e i)⟩
  .rw [s] at f;have ac:xs.any p=true:=List.any_eq_true.2 ⟨x,List.mem_of_getElem? t,s⟩;rw [ac];exact iY<|jI (j.ext e) b rfl q fun z af ab o=>jA (n:=1) o rfl<|dM (f _ e) fun ah i=>⟨_,rfl,rfl,om,(xt e i)⟩
 .rw [List.take_of_length_le om] at m;rw [m];exact iN ⟨_,rfl,rfl,om,e⟩
theorem HD (h:Ac AZ w a n xs)
  (hg:∀ d x,x∈xs->AZ w d x->∀ w',AD w w'->E2 Tryz.prog g (.agg ⟨eH d⟩ :: cap) w' (fun v w''=>v = .bool (p x)/\AD w' w'')) :
  Dq 270 [.slice a n c,.func (.func g) ⟨[]⟩ ⟨cap⟩] w (fun v w'=>v = .bool (xs.any p)/\AD w w'):=by
 refine oV Tryz.func270 ?_;refine (Mq h hg).mono ?_;rintro _ j ⟨i,rfl,e,f,b⟩;exact ⟨by simp only [*],b⟩
theorem PV {b:Nat} {xs:List Int} (R:AZ w d xs) (hf:AR f xs.length=true) (hc:AK w b 0 f.enc) :
  Dq 271 [.agg ⟨eH d⟩,.pointer (some ⟨b,0,none⟩)] w (fun v w'=>v = .bool (!Di (Ad xs f))/\AD w w'):=by
 have i:∀ a,AD w a->Dq 272 [.agg ⟨eH d⟩,.agg ⟨f.enc⟩] a (fun v w'=>v = .bool (Di (Ad xs f))/\AD a w'):=fun a g=>Sa ⟨R.1.ext g,R.2⟩ hf;refine oV Tryz.func271 ?_;refine AB.box ?_;intro j m k l c e;refine jA (n:=1) e.cells rfl<|jA (n:=2) (hc.ext c) rfl<|dM (i _ c) fun o h=>?_;exact ⟨rfl,(xt c h)⟩
theorem FM (h:Ac AZ w a n xs) (hd:A2 xs=true) (hf:AR f (AJ xs)=true) :
  Dq 210 [.slice a n c,.agg ⟨f.enc⟩] w (fun v w'=>v = .bool (xs.all fun c=>Di (Ad c f))/\AD w w'):=by
 have r:=Am hd;have o:=aF7 xs (fun c=>Di (Ad c f));have m:∀ b e,AD w b->AK b e 0 f.enc->Dq 270 [.slice a n c,.func (.func 271) ⟨[]⟩ ⟨[.pointer (some ⟨e,0,none⟩)]⟩] b (fun v w'=>v = .bool (!xs.all fun c=>Di (Ad c f))/\AD b w'):=fun b e l q=>by
  rw [<- o];exact HD (h.ext l) (p:=fun c=>!Di (Ad c f)) (fun x u s g w' d=>PV ⟨g.1.ext d,g.2⟩ (by rw [(r.2 u s).2];exact hf) (q.ext d))
 refine oV Tryz.func210 ?_;refine AB.box fun k t y z i j=>(m t k i j.cells).mono ?_;rintro _ aa ⟨rfl,d⟩;exact ⟨by rw [Bool.not_not],xt i d⟩
theorem Lj (h:Ac AZ w a n xs) (f:AE) :
  Dq 138 [.slice a n c,.agg ⟨f.enc⟩] w (fun v w'=>v = .int .i64 (Bu xs f).2/\AD w w'):=by
 cases k:A2 xs
 .rw [I8 k];refine oV Tryz.func138 ?_;refine AB.box fun ak ar am ao u aj=>(Dy (h.ext u)).mono ?_;rintro _ y ⟨rfl,m⟩;refine iT ?_;exact ⟨rfl,(xt u m)⟩
 .cases o:AR f (AJ xs)
  .rw [H2 k o];refine oV Tryz.func138 ?_;refine AB.box ?_;intro al au an ap m aa;refine dM (Dy (h.ext m)) fun av d=>?_;refine iF ?_;refine dH (pB [0,3,5,7,9,11]) fun z p=>dA (n:=2) (aa.ext d).cells rfl ?_;refine dM (DP (h.ext (xt (xt m d) p))) fun aw b=>⟨(xt p b),?_⟩;exact dM (DX _ _ _) fun aq x=>⟨(xt (xt p b) x),iT ⟨rfl,(xt (xt (xt (xt m d) p) b) x)⟩⟩
  .cases q:xs.all fun c=>Di (Ad c f)
   .have ad:Bu xs f=([],8):=by
     unfold Bu;rw [if_neg (by simp [k]),if_neg (by simp [o]),if_pos q]
    rw [ad];have t:∀ j,AD w j->Dq 210 [.slice a n c,.agg ⟨f.enc⟩] j (fun v w'=>v = .bool false/\AD j w'):=fun j r=>by
     have:=FM (c:=c) (h.ext r) k o;rw [q] at this;exact this
    refine oV Tryz.func138 ?_;refine AB.box ?_;intro ab y ac ae d l;refine dM (Dy (h.ext d)) fun z e=>?_;refine iF ?_;refine dH (pB [0,3,5,7,9,11]) fun ah b=>dA (n:=2) (l.ext e).cells rfl ?_;refine dM (DP (h.ext (xt (xt d e) b))) fun ai g=>⟨(xt b g),?_⟩;exact dM (DX _ _ _) fun af i=>⟨(xt (xt b g) i),iF<|jA (n:=2) (l.ext (xt (xt (xt e b) g) i)).cells rfl<|dM (t _ (xt (xt (xt (xt d e) b) g) i)) fun ag s=>⟨rfl,(xt (xt (xt (xt (xt d e) b) g) i) s)⟩⟩
   .rw [N6 k o q];have t:∀ j,AD w j->Dq 210 [.slice a n c,.agg ⟨f.enc⟩] j (fun v w'=>v = .bool true/\AD j w'):=fun j r=>by
     have:=FM (c:=c) (h.ext r) k o;rw [q] at this;exact this
    refine oV Tryz.func138 ?_;refine AB.box ?_;intro ab y ac ae d l;refine dM (Dy (h.ext d)) fun z e=>?_;refine iF ?_;refine dH (pB [0,3,5,7,9,11]) fun ah b=>dA (n:=2) (l.ext e).cells rfl ?_;refine dM (DP (h.ext (xt (xt d e) b))) fun ai g=>⟨(xt b g),?_⟩;exact dM (DX _ _ _) fun af i=>⟨(xt (xt b g) i),iF<|jA (n:=2) (l.ext (xt (xt (xt e b) g) i)).cells rfl<|dM (t _ (xt (xt (xt (xt d e) b) g) i)) fun ag s=>⟨rfl,(xt (xt (xt (xt (xt d e) b) g) i) s)⟩⟩
theorem SX {b2 b3:Nat} (h:Ac AZ w a n xs) (hd:A2 xs=true) (hf:AR f (AJ xs)=true) (hc2:AK w b2 0 [.slice a n c]) (hc3:AK w b3 0 f.enc) {i j:Nat} (hi:i<n) (hj:j<n) :
  Dq 274 [.int .i64 i,.int .i64 j,.pointer (some ⟨b2,0,none⟩),.pointer (some ⟨b3,0,none⟩)] w (fun v w'=>v = .int .i64 (aA8 (xs.map (AS f)) (CJ f) i j)/\AD w w'):=by
 have ao:=h.len;have an:=h.le;obtain ⟨y,e,s⟩:=h;have am:=e.len;obtain ⟨ab,t⟩:=AA (l:=y) (k:=i) om;obtain ⟨g,z,o⟩:=s.get t;obtain ⟨ac,u⟩:=AA (l:=y) (k:=j) om;obtain ⟨m,aa,p⟩:=s.get u;have x:=Am hd;have ad:AR f g.length=true:=by rw [(x.2 g (List.mem_of_getElem? z)).2];exact hf
 have ae:AR f m.length=true:=by rw [(x.2 m (List.mem_of_getElem? aa)).2];exact hf
 unfold aA8;rw [X2 z,X2 aa];have af:∀ d,AD w d->Dq 275 [.agg ⟨eH ab⟩,.agg ⟨eH ac⟩,.agg ⟨f.enc⟩] d (fun v w'=>v = .int .i64 (CY (AS f g) (AS f m))/\AD d w'):=fun d q=>Ez ⟨o.1.ext q,o.2⟩ ⟨p.1.ext q,p.2⟩ ad ae;refine oV Tryz.func274 ?_;refine dH (pB [0,2,4,6,8,10,12,14,17,19,21]) ?_;intro au b;refine dL hc2 (k:=0) rfl ?_;refine dI e i rfl t fun ai ap ak ag=>dA (n:=1) ag rfl<|dL hc2 (k:=0) rfl<|dI e j rfl u fun aj aq al ah=>dA (n:=1) ah rfl<|jA (n:=2) (hc3.ext b) rfl ?_;exact ⟨b,dM (af _ b) fun ar r=>⟨(xt b r),⟨rfl,(xt b r)⟩⟩⟩
theorem Ux (h:Ac AZ w a n xs) (hd:A2 xs=true) (hf:AR f (AJ xs)=true) :
  Dq 211 [.slice a n c,.agg ⟨f.enc⟩] w (fun v w'=>∃ a' c',v = .slice a' n c'/\Ab w.heap.size a'/\Bs eI w' a' n 2 (Ds (xs.map (AS f)) (CJ f))/\AD w w'):=by
 have au:=h.len;have bb:=h.le;have am:=Am hd;have a9:=am.1;have aj:∀ b∈xs.map (AS f),b.length=CJ f:=fun b y=>by
  obtain ⟨c,al,rfl⟩:=List.mem_map.1 y;exact NN hd hf al
 refine oV Tryz.func211 ?_;refine AB.box ?_;intro t z a7 bj m r;refine AB.box ?_;intro u o a8 bk d aa;refine bS B3 (vs:=[]) ?_;intro a4 bp ai bm x ac;have ae:=Ag (enc:=eI) AI ac ai;refine jL (r.ext (xt d x)).cells (k:=0) rfl<|lR [2,3,5,8,9,10] (fun (b:Nat) a0 w'=>∃ j l,a0=[.pointer (some ⟨t,0,none⟩),.pointer (some ⟨u,0,none⟩),.slice (some ⟨j,0,none⟩) b l,.slice a n c,.int .i64 n,.int .i64 b]/\b<=n/\An eI 1 o.heap.size 2 w' (some ⟨j,0,none⟩) b l (FD b)/\AD o w') (fun b=>n - b) 0 ⟨_,_,rfl,om,ae,x⟩ ?_;rintro b a6 _ bq ⟨j,l,rfl,y,e,i⟩;have av:=Hi b;have bf:=HA b;rcases Nat.lt_or_ge b n with ar | ar
 .refine iY<|bS B3 (vs:=[Value.int IntKind.i64 ↑b]) ?_;intro a2 bn ah bl q ab;have ad:=AH (n:=1) (enc:=eI) (xs:=[↑b]) AI ab ah rfl dE;refine AN (enc:=eI) B3 AI (e.ext q) (ad.own.arr AI) (by intro bt _;simp [eI,AM]) om om (Below.size (xt i q)) fun a1 a5 bo s ay bh=>jP (((b+1:Nat):Int)) ?_;obtain ⟨a3,rfl⟩:=s.own.some om;refine ⟨b+1,om,_,_,rfl,om,?_,xm (xt i q) ay (AQ e.new)⟩;rw [av];exact s
 .obtain rfl:b=n:=om
  have ba:=xt (xt m d) i;have bc:o.heap.size<=j:=e.new _ rfl;have ak:=Mp (c:=l) (g:=274) (cap:=[.pointer (some ⟨t,0,none⟩),.pointer (some ⟨u,0,none⟩)]) (Ka aj) (cmp:=aA8 (xs.map (AS f)) (CJ f)) (fun aw ax=>Iff.rfl) (aE7 _ _) e.own (NY _) om (fun aw an ax ap z af=>by
   obtain ⟨bg,ao,rfl⟩:=GU.1 an;obtain ⟨bi,aq,rfl⟩:=GU.1 ap;have p:AD o z:=xm i af (AQ e.new);exact SX (h.ext (xt (xt m d) p)) hd hf ((r.ext d).ext p).cells (aa.ext p).cells ao aq)
  refine iN<|ak.mono ?_;rintro _ br ⟨rfl,az,ag⟩;have bd:=m.size;have be:=d.size;refine ⟨_,_,rfl,Ab.some om,?_,xt (xt m d) (xm i az (AQ e.new))⟩;unfold Ds;rw [List.length_map,au];exact ag
theorem Hb {xs:List Int} (R:AZ w d xs) (hx:d.n<=1000000) :
  Dq 181 [.agg ⟨eH d⟩] w (fun v w'=>∃ a' c',v = .agg ⟨eH ⟨a',d.n,c'⟩⟩/\Ab w.heap.size a'/\An eI 1 w.heap.size 2 w' a' d.n c' xs/\AD w w'):=by
 obtain ⟨h,u⟩:=R;refine oV Tryz.func181 ?_;refine AB.box ?_;intro r aa t x a i;refine jN (z := .agg #[.slice none 0 0]) fun s ab p y b j=>jL (i.ext b).cells (k:=0) rfl<|(Iw (h.ext (xt a b)) hx).mono ?_;rintro _ ac ⟨m,o,rfl,q,c,f⟩;refine AB.build KS rfl<|jS (vs:=[Value.slice m d.n o]) (j.ext f) rfl rfl (by simp [AM]) fun ad e l=>AO (jR (n:=1) rfl l.cells) ⟨_,_,rfl,?_,?_,?_⟩
 .exact (c.new.mono (Below.size (xt a b)))
 .exact (c.base (Below.size (xt a b))).kept (fun g hx=>e.but.block _ (by have:=c.new g hx;omega) (c.lt g hx))
 .exact (xb (xt (xt a b) f) e.but (nB a p))
end Go.Proofs.YtalgenmoljcnmaaGreatDoor
namespace Go.M
open Go Go.Vc
variable {d S:List (List Int)} {f:AE} {k:Nat} {c:List Int}
theorem Xx {i:Nat} (hi:(Ds (d.map (AS f)) (CJ f))[k]? = some (i:Int)) (hc:d[i]? = some c):(K8 d f).take (k+1)=(K8 d f).take k++[c]:=by
 have:(K8 d f)[k]? = some c:=by
  unfold K8;rw [List.getElem?_map,hi,Option.map_some,Int.toNat_natCast,List.getD_eq_getElem?_getD,hc];rfl
 rw [List.take_add_one,this];rfl
theorem Nl {z:Int} (hi:(Ds (d.map (AS f)) (CJ f))[k]? = some z):∃ i:Nat,z=i/\i<d.length:=by
 have:=XG (List.mem_of_getElem? hi);rw [List.length_map] at this;exact ⟨z.toNat,om,this.2⟩
def CF (S:List (List Int)) (k:Nat):List Int:=(De S k).map fun (s:Nat)=>(s:Int)
theorem QA (h:F0 S k=false):CF S (k+1)=CF S k:=by simp [CF,MY,h]
theorem IQ (h:F0 S k=true):CF S (k+1)=CF S k++[(k:Int)]:=by simp [CF,MY,h]
theorem VT (S:List (List Int)):F0 S 0=true:=by simp [F0]
theorem Ya {c':List Int} (h:d[k]? = some c) (h':d[k+1]? = some c'):F0 (d.map (AS f)) (k+1) = !decide (CY (AS f c) (AS f c')=0):=by
 unfold F0;rw [WT h',Nat.add_sub_cancel,WT h];simp
theorem HB (S:List (List Int)) (k:Nat):(CF S k).length<=k:=by
 unfold CF De;rw [List.length_map];have:=List.length_filter_le (F0 S) (List.range k);rw [List.length_range] at this;exact this
end Go.M
namespace Go.Proofs.YtalgenmoljcnmaaGreatDoor
open Go Go.RowKit Go.Vc Go.M
variable {w:World} {a:Option Addr} {n c:Nat} {xs:List (List Int)} {f:AE}
theorem It (h:Ac AZ w a n xs) (hd:A2 xs=true) (hf:AR f (AJ xs)=true) :
  Dq 140 [.slice a n c,.agg ⟨f.enc⟩] w (fun v w'=>∃ a' c',v = .slice a' n c'/\n<=c'/\Dl Aw w' w.heap.size w'.heap.size a' n 144 (K8 xs f)/\AD w w'):=by
 have b5:=h.len;have b4:=h.le;have ar:=Am hd;have bz:=ar.1;have be:∀ e,AD w e->Dq 211 [.slice a n c,.agg ⟨f.enc⟩] e (fun v w'=>∃ a' c',v = .slice a' n c'/\Ab e.heap.size a'/\Bs eI w' a' n 2 (Ds (xs.map (AS f)) (CJ f))/\AD e w'):=fun e z=>Ux (h.ext z) hd hf;have bi:=L8 (xs.map (AS f)) (CJ f);rw [List.length_map] at bi;have b6:=UQ xs f;have bb:=h;obtain ⟨bj,ao,bc⟩:=bb;have b3:=ao.len;refine oV Tryz.func140 ?_;refine AB.box ?_;intro bq t bw b9 aa a0;refine bS Bz (vs:=[]) ?_;intro ai bo al ca ab a2;have a6:Bm Aw t.heap.size 144 bo (some ⟨ai,0,none⟩) 0 0 []:=EO a2 al;refine jA (n:=2) (a0.ext ab).cells rfl<|(be _ (xt aa ab)).mono ?_;rintro _ cd ⟨q,ba,rfl,a7,ag,ak⟩;have a4:=a6.ext ak;refine lR [0,5,11,12,13] (fun (b:Nat) bm w'=>∃ m y,bm=[.slice a n c,.slice m b y,.slice q n ba,.int .i64 n,.int .i64 b]/\b<=n/\Bm Aw t.heap.size 144 w' m b y ((K8 xs f).take b)/\A4 eI 1 w' q n (Ds (xs.map (AS f)) (CJ f))/\K6 m q/\Ab t.heap.size m/\AD t w'/\(∀ d,q=some d->d.block<w'.heap.size)) (fun b=>n - b) 0 ⟨_,_,rfl,om,a4,ag.arr AI,?_,Ab.some al,xt ab ak,?_⟩ ?_
 .intro p s av;obtain ⟨d,g,au⟩:=av;cases g
  have:=a7 p s;have au:p.block=ai:=au;omega
 .exact fun d g=>Nat.lt_of_lt_of_le (ag.lt d g) (Nat.le_refl _)
 rintro b bv _ ce ⟨m,y,rfl,av,r,am,ap,ax,ac,an⟩;have ad:=xt aa ac;rcases Nat.lt_or_ge b n with bh | bh
 .obtain ⟨ch,ae⟩:=AA (l:=Ds (xs.map (AS f)) (CJ f)) (k:=b) om;obtain ⟨ay,rfl,b2⟩:=Nl ae;obtain ⟨o,aq⟩:=AA (l:=bj) (k:=ay) om;obtain ⟨p,s,x⟩:=bc.get aq;have bl:=Xx ae s;have b7:=Bp (ar.2 p (List.mem_of_getElem? s)).1;have b8:=x.1.len;have bd:∀ e,AD w e->Dq 181 [.agg ⟨eH o⟩] e (fun v w'=>∃ a' c',v = .agg ⟨eH ⟨a',o.n,c'⟩⟩/\Ab e.heap.size a'/\An eI 1 e.heap.size 2 w' a' o.n c' p/\AD e w'):=fun e z=>Hb ⟨x.1.ext z,x.2⟩ om;refine iY<|jI am b rfl ae fun br cb b0 bf=>jO bf rfl<|jI (ao.ext ad) ay rfl aq fun bt cc b1 bg=>jA (n:=1) bg rfl<|(bd _ ad).mono ?_;rintro _ cf ⟨ah,aj,rfl,a8,u,j⟩;refine AB.buildSlice Bz (vs:=[Value.agg ⟨eH ⟨ah,o.n,aj⟩⟩]) rF rF (by simp [Value.cells,eH]) dE ?_;intro a9 bn bx b' i a1;have a3:AK bn a9 0 (eH ⟨ah,o.n,aj⟩):=a1.cells;have bk:=ac.size;refine Cb Bz rfl r bk (xt j i) (FR ((u.ext i).own) u.le.1) (DB a8 (fun d g=>Nat.lt_of_lt_of_le (u.lt d g) i.size)) a3 om om fun bp bu cg a5 af az=>jP (((b+1:Nat):Int)) ⟨b+1,om,_,_,rfl,om,by rw [bl];exact a5,(am.ext (xt j i)).mod af ap,?_,?_,xm (xt (xt ac j) i) af (AQ ax),fun d g=>by have:=an d g;have:=j.size;have:=i.size;have:=af.size;omega⟩
  .exact K6.app ap az (fun d g=>by
    have:=an d g;have:=j.size;have:=i.size;omega)
  .intro d g;rcases az d.block ⟨d,g,rfl⟩ with aw | aw
   .exact AQ ax _ aw
   .have:=j.size;have:=i.size;omega
 .obtain rfl:b=n:=om
  rw [List.take_of_length_le om] at r;refine iN ⟨_,_,rfl,?_,?_,ad⟩
  .exact r.le.1
  .exact r.ownN.wide (Below.size aa) (Nat.le_refl _)
theorem Ln (h:Ac AZ w a n xs) (hf:∀ x∈xs,AR f x.length=true) (hn2:n<=40) :
  Dq 224 [.slice a n c,.agg ⟨f.enc⟩] w (fun v w'=>∃ a' m c',v = .slice a' m c'/\Ab w.heap.size a'/\Bs eI w' a' m 2 (CF (xs.map (AS f)) n)/\AD w w'):=by
 have cc:=h.len;have cb:=h.le;obtain ⟨az,s,ax⟩:=h;have ca:=s.len;refine oV Tryz.func224 ?_;refine AB.box ?_;intro bh a5 b8 cg aw ao;refine bS B3 (vs:=[]) ?_;intro b4 cq bp cj bk bb;have bg:=Ag (enc:=eI) AI bb bp;refine lR [0,3,5,9,10,11] (fun (b:Nat) bx w'=>∃ ae am af,bx=[.slice a n c,.pointer (some ⟨bh,0,none⟩),.slice ae am af,.slice a n c,.int .i64 n,.int .i64 b]/\b<=n/\An eI 1 a5.heap.size 2 w' ae am af (CF (xs.map (AS f)) b)/\AD a5 w') (fun b=>n - b) 0 ⟨_,_,_,rfl,om,bg,bk⟩ ?_;rintro b b7 _ cl ⟨ae,am,af,rfl,b9,r,j⟩;have o:=xt aw j;have ck:=r.len;have cd:=HB (xs.map (AS f)) b;rcases Nat.lt_or_ge b n with br | br
 .obtain ⟨p,ac⟩:=AA (l:=az) (k:=b) om;obtain ⟨aa,a0,ap⟩:=ax.get ac;have bl:=hf aa (List.mem_of_getElem? a0);rcases Nat.eq_zero_or_pos b with rfl | b'
  .have y:=IQ (VT (xs.map (AS f)));refine iY<|jI (s.ext o) 0 rfl ac fun ar a4 ay u=>jA (n:=1) u rfl<|jN (z := .agg #[.slice none 0 0]) fun au a6 i a3 g t=>jS (vs:=[Value.slice p.a p.n p.c]) t rfl rfl (by simp [AM]) fun a7 e ab=>dH (pB [1,3,5,6,8,10,12,14,16,19,21,23,25]) fun a8 d=>bS B3 (vs:=[Value.int IntKind.i64 ↑0]) ?_;intro b2 cm bn ch ag a9;have bc:=AH (n:=1) (enc:=eI) (xs:=[↑0]) AI a9 bn rfl dE;refine AN (enc:=eI) B3 AI (r.ext (xt (xt (xb g e.but i) d) ag)) (bc.own.arr AI) (by intro aa _;simp [eI,AM]) om om (Below.size (xt (xt (xb (xt j g) e.but (nB j i)) d) ag)) fun b0 b5 cn bd bu ce=>jP (((0+1:Nat):Int)) ⟨0+1,om,_,_,_,rfl,om,by rw [y];exact bd,xm (xt (xt (xb (xt j g) e.but (nB j i)) d) ag) bu (AQ r.new)⟩
  .obtain ⟨b,rfl⟩:∃ bt,b=bt+1:=⟨b - 1,om⟩;obtain ⟨bj,ak⟩:=AA (l:=az) (k:=b) om;obtain ⟨an,a1,aq⟩:=ax.get ak;have bm:=hf an (List.mem_of_getElem? a1);have al:=Ya (f:=f) a1 a0;have ai:∀ ad,AD w ad->Dq 275 [.agg ⟨eH bj⟩,.agg ⟨eH p⟩,.agg ⟨f.enc⟩] ad (fun v w'=>v = .int .i64 (CY (AS f an) (AS f aa))/\AD ad w'):=fun ad av=>Ez ⟨aq.1.ext av,aq.2⟩ ⟨ap.1.ext av,ap.2⟩ bm bl;by_cases a2:CY (AS f an) (AS f aa)=0
   .rw [a2] at ai al;have y:=QA (S:=xs.map (AS f)) (k:=b+1) (by rw [al];rfl);refine iY<|jI (s.ext o) (b+1) rfl ac fun ar a4 ay u=>jA (n:=1) u rfl<|jN (z := .agg #[.slice none 0 0]) fun au a6 i a3 g t=>jS (vs:=[Value.slice p.a p.n p.c]) t rfl rfl (by simp [AM]) fun a7 e ab=>dH (pB [1,3,5,6,8,10,12,14,16,19,21,23,25]) fun a8 d=>BQ.sub (((b:Nat):Int)) om om om<|dI (s.ext (xb (xt o g) e.but (nB o i))) b rfl ak fun bi bw bq aj=>dA (n:=1) aj rfl<|dA (n:=1) ab.cells rfl<|jA (n:=2) (ao.ext (xt (xb (xt j g) e.but (nB j i)) d)).cells rfl ⟨d,dM (ai _ (xt (xb (xt o g) e.but (nB o i)) d)) fun bz q=>⟨(xt d q),jP (((b+1+1:Nat):Int)) ⟨b+1+1,om,_,_,_,rfl,om,by rw [y];exact r.ext (xt (xt (xb g e.but i) d) q),xt (xt (xb (xt j g) e.but (nB j i)) d) q⟩⟩⟩
   .have y:=IQ (S:=xs.map (AS f)) (k:=b+1) (by rw [al];simp [a2]);refine iY<|jI (s.ext o) (b+1) rfl ac fun ar a4 ay u=>jA (n:=1) u rfl<|jN (z := .agg #[.slice none 0 0]) fun au a6 i a3 g t=>jS (vs:=[Value.slice p.a p.n p.c]) t rfl rfl (by simp [AM]) fun a7 e ab=>dH (pB [1,3,5,6,8,10,12,14,16,19,21,23,25]) fun a8 d=>BQ.sub (((b:Nat):Int)) om om om<|dI (s.ext (xb (xt o g) e.but (nB o i))) b rfl ak fun bi bw bq aj=>dA (n:=1) aj rfl<|dA (n:=1) ab.cells rfl<|jA (n:=2) (ao.ext (xt (xb (xt j g) e.but (nB j i)) d)).cells rfl ⟨d,dM (ai _ (xt (xb (xt o g) e.but (nB o i)) d)) fun bz q=>⟨(xt d q),iT<|bS B3 (vs:=[Value.int IntKind.i64 ↑(b+1)]) ?_⟩⟩;intro b3 co bo ci ah ba;have be:=AH (n:=1) (enc:=eI) (xs:=[↑(b+1)]) AI ba bo rfl dE;refine AN (enc:=eI) B3 AI (r.ext (xt (xt (xt (xb g e.but i) d) q) ah)) (be.own.arr AI) (by intro aa _;simp [eI,AM]) om om (Below.size (xt (xt (xt (xb (xt j g) e.but (nB j i)) d) q) ah)) fun b1 b6 cp bf bv cf=>jP (((b+1+1:Nat):Int)) ⟨b+1+1,om,_,_,_,rfl,om,by rw [y];exact bf,xm (xt (xt (xt (xb (xt j g) e.but (nB j i)) d) q) ah) bv (AQ r.new)⟩
 .obtain rfl:b=n:=om
  exact iN ⟨_,_,_,rfl,(r.new.mono (Below.size aw)),r.own,o⟩
end Go.Proofs.YtalgenmoljcnmaaGreatDoor
namespace Go.Vc
open Go Go.RowKit
variable {P:Program}
theorem PD {α:Type} {enc:α->List Value} {t sz:Nat} (ht:CQ P t=some sz) {w:World} {a:Option Addr} {n c:Nat} (l h:Nat) (hl:l<=h) (hh:h<=n) (hn:n<=c) {lo hi:Option Value} {k k':IntKind} (hlo:(lo=none/\l=0)\/lo=some (.int k l)) (hhi:(hi=none/\h=n)\/hi=some (.int k' h))
  {K:Value->World->Prop} (hK:∀ a',(∀ u (ys:List α),A4 enc sz u a n ys->A4 enc sz u a' (h - l) ((ys.drop l).take (h - l)))->K (.slice a' (h - l) (c - l)) w):AB P (Instr.sliceAt t (.slice a n c) lo hi none) w K :=
 A6 (EI ht hl hh hn hlo hhi w) (hK _ (fun _ _ b=>b.sub hl hh hn))
theorem VG.part {α:Type} {R:Rd α} {w:World} {hs:List Hd} {xs:List α} (h:VG R w hs xs) (l m:Nat):VG R w ((hs.drop l).take m) ((xs.drop l).take m):=by
 refine ⟨by simp [h.1],fun f c e a b=>?_⟩;rw [List.getElem?_take] at a b;split at a
 .rename_i d;rw [if_pos d] at b;rw [List.getElem?_drop] at a b;exact h.2 _ c e a b
 .cases a
end Go.Vc
namespace Go.M
open Go Go.Vc
theorem Od {S:List (List Int)} {n k s:Nat} (h:(De S n)[k]? = some s):(CF S n)[k]? = some (s:Int):=by simp [CF,h]
theorem QB (S:List (List Int)) (n:Nat):(CF S n).length=(De S n).length:=by simp [CF]
theorem Jj (d:List (List Int)) (f:AE):(Bj d f).length=(A0 (d.map (AS f))).length:=by simp [Bj]
theorem TS {d:List (List Int)} {f:AE} {k s:Nat} (h:(A0 (d.map (AS f)))[k]? = some s):(Bj d f)[k]? = some ((d.drop s).take (DZ (A0 (d.map (AS f))) d.length k - s)):=by
 have a:=(List.getElem?_eq_some_iff.1 h).1;unfold Bj;rw [List.getElem?_map,List.getElem?_range a,Option.map_some,Af h]
theorem XY {d:List (List Int)} {s m:Nat} {y:List Int} (h:d[s]? = some y) (hm:0<m):((d.drop s).take m)[0]? = some y:=by
 rw [List.getElem?_take,if_pos hm,List.getElem?_drop,Nat.add_zero];exact h
end Go.M
namespace Go.Proofs.YtalgenmoljcnmaaGreatDoor
open Go Go.RowKit Go.Vc Go.M
theorem Lk (a:Option Addr) (n c:Nat) (w:World):Dq 133 [.slice a n c] w (fun v w'=>v = .int .i64 n/\w=w'):=by
 refine oV Tryz.func133 ?_;exact ⟨rfl,rfl⟩
theorem Ox {w:World} {a:Option Addr} {n c:Nat} {xs:List (List Int)} (h:Ac AZ w a n xs) {f:AE} (hf:∀ x∈xs,AR f x.length=true) (hn2:n<=40) (hnc:n<=c) :
  Dq 148 [.slice a n c,.agg ⟨f.enc⟩] w (fun v w'=>∃ a' m c',v = .slice a' m c'/\(∀ u,BP (fun j=>¬ Iv w.heap.size w'.heap.size j) w' u->Ac AZ u a n xs->Ac CA u a' m (Bj xs f))/\AD w w'):=by
 have a8:=h.len;have cy:=h.le;have b2:∀ u,AD w u->Dq 224 [.slice a n c,.agg ⟨f.enc⟩] u (fun v w'=>∃ a' m c',v = .slice a' m c'/\Ab u.heap.size a'/\Bs eI w' a' m 2 (CF (xs.map (AS f)) n)/\AD u w'):=fun u bz=>Ln (h.ext bz) hf hn2;obtain ⟨c0,b4,cs⟩:=h;have cx:=b4.len;have a3:(xs.map (AS f)).length=n:=by rw [List.length_map];exact a8
 have an:A0 (xs.map (AS f))=De (xs.map (AS f)) n:=by unfold A0;rw [a3]
 have b':=Jj xs f;rw [an] at b';have cv:=QB (xs.map (AS f)) n;refine oV Tryz.func148 ?_;refine AB.box ?_;intro cn ay cp c1 au bj;refine bS EA (vs:=[]) ?_;intro bw c8 a2 c4 av bm;have bp:=Ag (enc:=eH) Dz bm a2;refine jA (n:=2) (bj.ext av).cells rfl ?_;refine (b2 _ (xt au av)).mono ?_;rintro _ c6 ⟨aa,m,a0,rfl,br,ap,a1⟩;have cz:=ap.1;have cw:=HB (xs.map (AS f)) n;refine lR [0,5,6,14,15,16] (fun (b:Nat) cj w'=>∃ ab ar z,cj=[.slice a n c,.slice ab b ar,.slice aa m a0,.slice aa m a0,.int .i64 m,.int .i64 b]/\b<=m/\An eH 1 ay.heap.size 78 w' ab b ar z/\(∀ (g:Nat) (o:Hd),z[g]? = some o->∃ y,(Bj xs f)[g]? = some y/\∀ u,Ac AZ u a n xs->CA u o y)/\A4 eI 1 w' aa m (CF (xs.map (AS f)) n)/\K6 ab aa/\Ab ay.heap.size ab/\AD ay w'/\(∀ x,aa=some x->x.block<w'.heap.size)) (fun b=>m - b) 0 ⟨_,_,[],rfl,om,bp.ext a1,?_,ap.arr AI,?_,Ab.some a2,xt av a1,fun x e=>ap.lt x e⟩ ?_
 .intro g o p;simp at p
 .intro be ch al;obtain ⟨x,e,a5⟩:=al;cases e
  have:=br be ch;have a5:be.block=bw:=a5;omega
 rintro b co _ c7 ⟨ab,ar,z,rfl,al,ad,a4,ac,ak,af,s,aj⟩;have b6:=xt au s;have cu:=ad.len;rcases Nat.lt_or_ge b m with cd | cd
 .obtain ⟨d,bb⟩:=AA (l:=De (xs.map (AS f)) n) (k:=b) om;have bd:=Od bb;have bc:(A0 (xs.map (AS f)))[b]? = some d:=by rw [an];exact bb
  have a6:=U4 bc;rw [a3] at a6;have a7:=TS bc;rw [a8] at a7;have a9:∀ (aq:Option Addr) (i:Nat),i=DZ (A0 (xs.map (AS f))) n b->(∀ u (bf:List Hd),A4 eH 1 u a n bf->A4 eH 1 u aq (i - d) ((bf.drop d).take (i - d)))->∀ (g:Nat) (o:Hd),(z++[⟨aq,i - d,c - d⟩])[g]? = some o->∃ y,(Bj xs f)[g]? = some y/\∀ u,Ac AZ u a n xs->CA u o y:=fun aq i ce bi g o p=>by
   rcases Nat.lt_or_ge g b with ca | ca
   .rw [List.getElem?_append_left om] at p;exact a4 g o p
   .have cb:g=b:=by
     have:=(List.getElem?_eq_some_iff.1 p).1;rw [List.length_append] at this;simp at this;omega
    subst cb;rw [List.getElem?_append_right om,show g - z.length=0 by omega] at p;simp at p;subst p;subst ce;exact ⟨_,a7,fun u ax=>by
     obtain ⟨cg,b5,b0⟩:=ax;exact ⟨⟨_,bi u cg b5,b0.part _ _⟩,by show _ - d<=c - d;omega⟩⟩
  rcases Nat.lt_or_ge (b+1) m with cc | cc
  .obtain ⟨i,ba⟩:=AA (l:=De (xs.map (AS f)) n) (k:=b+1) om;have cf:=Od ba;have am:i=DZ (A0 (xs.map (AS f))) n b:=by
    unfold DZ;rw [an,Af ba]
   rw [<- am] at a6;refine iY ?_;refine jI ac b rfl bd ?_;intro bu ci b7 aw;refine jO aw rfl ?_;refine (Lk _ _ _ _).mono ?_;rintro _ _ ⟨rfl,rfl⟩;refine jP (((b+1:Nat):Int)) ?_;refine iY ?_;refine jP (((b+1:Nat):Int)) ?_;refine jI ac (b+1) rfl cf ?_;intro az c5 ct b8;refine jO b8 rfl ?_;refine PD (enc:=eH) (sz:=1) kR d i om om om (.inr rF) (.inr rF) ?_;intro ai bh;refine bS EA (vs:=[Value.slice ai (i - d) (c - d)]) ?_;intro bv cl cr c3 r bl;have bo:AK cl bv 0 (Al eH [⟨ai,i - d,c - d⟩]):=bl.cells;refine Ba EA Dz (ad.ext r) (ys:=[⟨ai,i - d,c - d⟩]) (m:=1) bo rfl (by simp [Al,eH,AM]) om om (Below.size (xt s r)) ?_;intro bt bx cm ao t ag;refine jP (((b+1:Nat):Int)) ?_;refine ⟨b+1,om,_,_,_,rfl,om,ao,a9 ai i am bh,(ac.ext r).mod t ak,K6.app ak ag (fun x e=>by have:=aj x e;have:=r.size;omega),fun x e=>?_,xm (xt s r) t (AQ af),fun x e=>by have:=aj x e;have:=r.size;have:=t.size;omega⟩;rcases ag x.block ⟨x,e,rfl⟩ with ae | ae
   .exact AQ af _ ae
   .have:=s.size;have:=r.size;omega
  .have am:n=DZ (A0 (xs.map (AS f))) n b:=by
    unfold DZ;rw [List.getD_eq_getElem?_getD,an,List.getElem?_eq_none om];rfl
   refine iY ?_;refine jI ac b rfl bd ?_;intro bu ci b7 aw;refine jO aw rfl ?_;refine (Lk _ _ _ _).mono ?_;rintro _ _ ⟨rfl,rfl⟩;refine jP (((b+1:Nat):Int)) ?_;refine iN ?_;refine PD (enc:=eH) (sz:=1) kR d n om om om (.inr rF) (.inr rF) ?_;intro ah bg;refine bS EA (vs:=[Value.slice ah (n - d) (c - d)]) ?_;intro az ck cq c2 q bk;have bn:AK ck az 0 (Al eH [⟨ah,n - d,c - d⟩]):=bk.cells;refine Ba EA Dz (ad.ext q) (ys:=[⟨ah,n - d,c - d⟩]) (m:=1) bn rfl (by simp [Al,eH,AM]) om om (Below.size (xt s q)) ?_;intro bt bx cm ao t ag;refine jP (((b+1:Nat):Int)) ?_;refine ⟨b+1,om,_,_,_,rfl,om,ao,a9 ah n am bg,(ac.ext q).mod t ak,K6.app ak ag (fun x e=>by have:=aj x e;have:=q.size;omega),fun x e=>?_,xm (xt s q) t (AQ af),fun x e=>by have:=aj x e;have:=q.size;have:=t.size;omega⟩;rcases ag x.block ⟨x,e,rfl⟩ with ae | ae
   .exact AQ af _ ae
   .have:=s.size;have:=q.size;omega
 .obtain rfl:b=m:=om
  refine iN ?_;refine ⟨_,_,_,rfl,fun u bq ax=>⟨z,(ad.own.arr Dz).mod bq (fun x e al=>al ⟨Nat.le_trans (Below.size au) (af x e),ad.lt x e⟩),om,fun g o x b9 e=>?_⟩,b6⟩;obtain ⟨y,b1,b3⟩:=a4 g o b9;rw [b1] at e;cases e
  exact b3 _ ax
end Go.Proofs.YtalgenmoljcnmaaGreatDoor
