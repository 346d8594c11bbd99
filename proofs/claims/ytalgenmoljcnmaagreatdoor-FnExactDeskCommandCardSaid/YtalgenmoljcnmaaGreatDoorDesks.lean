/- Parts of the proof; no conditions of its own. -/
import Derived.Test.YtalgenmoljcnmaaGreatDoorDeal
import Derived.Test.YtalgenmoljcnmaaGreatDoorCardW
import Derived.Test.YtalgenmoljcnmaaGreatDoorStab
import Derived.Test.YtalgenmoljcnmaaGreatDoorFTotal
import Derived.Test.YtalgenmoljcnmaaGreatDoorModel
namespace Go.M
open Go Go.Vc
variable {w:World} {n:Nat}
theorem GP {α:Type} {E:Ow α} {lo t:Nat} {a:Option Addr} {c:Nat} {xs:List α} (h:Bm E lo t w a n c xs):∃ fp,CH E lo t w a n c xs fp/\Fg lo w.heap.size fp:=by
 obtain ⟨g,b,d,e,f⟩:=h;exact ⟨_,⟨g,b,d,e,rfl⟩,f⟩
theorem LN {b:Nat} {ds:List Hd} (C:AK w b 0 (Al eH ds)) (hn:ds.length=n) (hm:n<=1000):A4 eH 1 w (some ⟨b,0,none⟩) n ds:=by
 refine ⟨hn,by unfold maxLen;omega,fun a f j=>⟨b,0,rfl,?_⟩⟩;have d:=AK.drop C a;have g:(Al eH ds).drop a=eH f++(Al eH ds).drop (a+1):=by
  have h:ds.drop a=f :: ds.drop (a+1):=Gv j;have e:∀ c,(Al eH ds).drop c=Al eH (ds.drop c):=fun c=>by
   have:=LJ Dz ds c;rwa [Nat.mul_one] at this
  rw [e,e,h];simp [Al]
 rw [g] at d;have i:=AK.take d 1;simpa [eH] using i
end Go.M
namespace Go.Proofs.YtalgenmoljcnmaaGreatDoor
open Go Go.RowKit Go.Vc Go.M
variable {w:World} {a b:Option Addr} {n c m d:Nat} {X:List (List (List Int))}
def Gj (w:World) (lo hi:Nat) (a:Option Addr) (n c:Nat) (b:Option Addr) (m d:Nat) (X:List (List (List Int))) (Y:List (List AT)):Prop :=
 ∃ fp gp,CH (OG Aw 144) lo 78 w a n c X fp/\CH En lo 161 w b m d Y gp/\Fg lo hi (fp++gp)
theorem Ko {Y:List (List AT)} (h:Ac CA w a n X) (h2:Ac FB w b m Y) (hn2:n<=1000) (hm2:m<=1000) (hX:∀ x∈X,x.length<=1000/\∀ y∈x,y.length<=1000) (hY:∀ y∈Y,y.length<=1048576) :
  Dq 84 [.agg #[.slice a n c,.slice b m d]] w (fun v w'=>∃ a' c' b' d',v = .agg #[.slice a' n c',.slice b' m d']/\Gj w' w.heap.size w'.heap.size a' n c' b' m d' X Y/\AD w w'):=by
 have eb:=h.len;have ea:=h2.len;obtain ⟨dg,b5,c4⟩:=h;obtain ⟨c3,b6,c5⟩:=h2;have d8:=b5.len;have d9:=b6.len;refine oV Tryz.func84 ?_;refine AB.box ?_;intro bh es dz ee bj bu;refine jN (z := .agg #[.slice none 0 0,.slice none 0 0]) ?_;intro a3 eu d1 eh al cj;refine bS EA (vs:=[]) ?_;intro t ey d2 ei ac cn;refine bS Le (vs:=[]) fun q ez d3 ej u cp=>AB.build Oe rfl<|jN (z := .agg #[.slice none 0 0,.slice none 0 0]) fun j e0 c2 ek ad cr=>AX (vs:=[Value.slice (some { block:=t,off:=0 }) 0 0,Value.slice (some { block:=q,off:=0 }) 0 0]) kR cr rfl rfl cE fun a1 ab cs=>jL (bu.ext (xb (xt (xt (xt al ac) u) ad) ab.but (nB (xt (xt al ac) u) c2))).cells (k:=0) rfl ?_;have cv:=xt (xt (xt (xt bj al) ac) u) ad;have cw:AD w a1:=xb cv ab.but (by have:=Below.size (xt (xt (xt bj al) ac) u);omega);have e4:=bj.size;have e8:=al.size;have e9:=ac.size;have fa:=u.size;have fb:=ad.size;have fc:=ab.but.size;have cx:CH (OG Aw 144) w.heap.size 78 a1 (some ⟨t,0,none⟩) 0 0 [] [t]:=E1 ((cn.ext (xt u ad)).mod ab.but (fun h=>by have h:t=j:=h;omega)) om;have de:∀ e,e=t\/e=j->w.heap.size<=e:=fun e g=>om
 refine lR [1,2,3,12,13,14] (fun (i:Nat) bt w'=>∃ aj av am,bt=[.pointer (some ⟨bh,0,none⟩),.pointer (some ⟨a3,0,none⟩),.pointer (some ⟨j,0,none⟩),.slice a n c,.int .i64 n,.int .i64 i]/\i<=n/\CH (OG Aw 144) w.heap.size 78 w' aj i av (X.take i) am/\am.Nodup/\(∀ e∈am,e=t\/a1.heap.size<=e)/\B8 w' j [.slice aj i av,.slice (some ⟨q,0,none⟩) 0 0] 34/\BP (fun e=>e=t\/e=j) a1 w') (fun i=>n - i) 0 ⟨_,_,_,rfl,om,by simpa using cx,sI,sI,cs,Vc.BP.refl _ _⟩ ?_;rintro i c0 _ s ⟨aj,av,am,rfl,d7,af,b9,ao,ae,an⟩;have bd:AD w s:=xm cw an de;have fd:=an.size;rcases Nat.lt_or_ge i n with dd | dd
 .obtain ⟨p,ah⟩:=AA (l:=dg) (k:=i) om;obtain ⟨x,a0,ar⟩:=c4.get ah;obtain ⟨dh,di⟩:=hX x (List.mem_of_getElem? a0);have df:=ar.1.len;have c7:∀ aq,AD w aq->Dq 112 [.slice p.a p.n p.c] aq (fun v w'=>∃ a' c',v = .slice a' p.n c'/\p.n<=c'/\Bm Aw aq.heap.size 144 w' a' p.n c' x/\Ab aq.heap.size a'/\AD aq w'):=fun aq b2=>FZ (ar.1.ext b2) om di;refine iY<|jI (b5.ext bd) i rfl ah fun dt el d4 c8=>jO c8 rfl<|Au A7 mixed (pZ [0,10,6,17,22,28,30,38]) kR kR fun eq aw=>dL ae.cells (k:=0) rfl<|(c7 _ (xt bd aw)).mono ?_;rintro _ er ⟨bw,bx,rfl,en,dl,ds,a6⟩;refine ⟨(xt aw a6),bS EA (vs:=[Value.slice bw p.n bx]) fun du dm dy ed a7 cg=>⟨(xt (xt aw a6) a7),?_⟩⟩;obtain ⟨cz,c6,bl⟩:=GP dl;have ba:AD s dm:=xt (xt aw a6) a7;have e1:=aw.size;have e2:=a6.size;have e3:=a7.size;have bp:=af.lt;refine Co EA rfl (af.ext ba) b9 om (d:=⟨bw,p.n,bx⟩) (x:=x) (f:=cz) ⟨_,c6.ext a7⟩ bl.1 (fun e g bn=>by have:=(bl.2 e g).1;have:=bp e bn;omega) cg.cells om om ?_;intro bg bi eo b3 bf bq br aa;have bm:∀ e,AL aj e->e≠j:=fun e g=>by have:=ao e (af.blk e g);omega
  have bk:=(ae.ext ba).mod aa (fun h=>bm j h rfl);have dr:=aa.size;refine jT bk (k:=0) sI rfl fun ep bz cf=>jP (((i+1:Nat):Int)) ?_;have az:∀ e∈b3,e=t\/a1.heap.size<=e:=fun e g=>by
   rcases br e g with r | r | r
   .exact ao e r
   .have:=(bl.2 e r).1;omega
   .omega
  refine ⟨i+1,om,bg,bi,b3,rfl,om,?_,bq,az,cf,?_⟩
  .rw [List.take_add_one,a0];exact bf.keep fun e g=>bz.block e (by have:=az e g;omega)
  .exact C0 (C0 (an.trans ba.mod) aa (fun e g=>(ao e (af.blk e g)).imp .inl id)) bz.but (fun e g=>.inl (.inr g))
 .obtain rfl:i=n:=om
  rw [List.take_of_length_le om] at af;refine iN ?_;have ct:AK s bh 0 [.slice a i c,.slice b m d]:=(((bu.ext (xt (xt (xt al ac) u) ad)).mod ab.but (fun h=>by have h:bh=j:=h;omega)).mod an (fun h=>by omega)).cells;have ck:B8 s a3 [.slice none 0 0,.slice none 0 0] 34:=((cj.ext (xt (xt ac u) ad)).mod ab.but (fun h=>by have h:a3=j:=h;omega)).mod an (fun h=>by omega);have cq:B8 s q [] 161:=((cp.ext ad).mod ab.but (fun h=>by have h:q=j:=h;omega)).mod an (fun h=>by omega);have cy:CH En w.heap.size 161 s (some ⟨q,0,none⟩) 0 0 [] [q]:=E1 cq om;refine jL ct (k:=1) rfl<|lR [2,3,27,28,29] (fun (o:Nat) bt w'=>∃ au a5 ax,bt=[.pointer (some ⟨a3,0,none⟩),.pointer (some ⟨j,0,none⟩),.slice b m d,.int .i64 m,.int .i64 o]/\o<=m/\CH En w.heap.size 161 w' au o a5 (Y.take o) ax/\ax.Nodup/\(∀ e∈ax,e=q\/s.heap.size<=e)/\B8 w' j [.slice aj i av,.slice au o a5] 34/\BP (fun e=>e=q\/e=j) s w') (fun o=>m - o) 0 ⟨_,_,_,rfl,om,by simpa using cy,sI,sI,ae,Vc.BP.refl _ _⟩ ?_;rintro o c0 _ cd ⟨au,a5,ax,rfl,d6,ag,ca,ap,ae,ay⟩;have bb:AD w cd:=xm bd ay (fun e g=>by omega);have fe:=ay.size;rcases Nat.lt_or_ge o m with dc | dc
  .obtain ⟨p,ah⟩:=AA (l:=c3) (k:=o) om;obtain ⟨x,a0,ar⟩:=c5.get ah;have dh:=hY x (List.mem_of_getElem? a0);have df:=ar.1.len;refine iY<|jI (b6.ext bb) o rfl ah fun dv em d5 c9=>jO c9 rfl<|G0 [6,8] A7 mixed (pZ [0,15,6,12,22,27,33,35,43]) kR kR fun ce ak=>dL ae.cells (k:=1) rfl<|bS Hz (vs:=[]) ?_;intro dw et c1 ef a8 ch;have bv:=Ag (enc:=AT.enc) BJ ch c1;refine ⟨(xt ak a8),D0 (enc:=AT.enc) Hz BJ bv (ar.1.ext (xt (xt bb ak) a8)) (by intro y _;simp [AT.enc,AM]) om om (Below.size a8) ?_⟩;intro ai b0 dn be dk ec;have a2:AD ce dn:=xm a8 dk (AQ bv.new);refine ⟨xt ak a2,bS Le (vs:=[Value.slice ai p.n b0]) fun dx dp d0 eg a9 ci=>⟨xt (xt ak a2) a9,?_⟩⟩;have bc:AD cd dp:=xt (xt ak a2) a9;have e5:=ak.size;have e6:=a2.size;have e7:=a9.size;have bp:=ag.lt;have b7:∀ e∈BW ai,ce.heap.size<=e:=fun e g=>by
    obtain ⟨y,dj,rfl⟩:=Az.1 g;exact be.new y dj
   have da:(BW ai).Nodup:=by cases ai<;>simp [BW]
   refine Co Le rfl (ag.ext bc) ca om (d:=⟨ai,p.n,b0⟩) (x:=x) (f:=BW ai) (FR (be.ext a9).own be.le.1) da (fun e g bn=>by have:=b7 e g;have:=bp e bn;omega) ci.cells om om ?_;intro bg bi ew b4 bf bq br aa;have bm:∀ e,AL au e->e≠j:=fun e g=>by have:=ap e (ag.blk e g);omega
   have bk:=(ae.ext bc).mod aa (fun h=>bm j h rfl);have dr:=aa.size;refine jT bk (k:=1) sI rfl fun ex b1 cm=>jP (((o+1:Nat):Int)) ?_;have az:∀ e∈b4,e=q\/s.heap.size<=e:=fun e g=>by
    rcases br e g with r | r | r
    .exact ap e r
    .have:=b7 e r;omega
    .omega
   refine ⟨o+1,om,bg,bi,b4,rfl,om,?_,bq,az,cm,?_⟩
   .rw [List.take_add_one,a0];exact bf.keep fun e g=>b1.block e (by have:=az e g;omega)
   .exact C0 (C0 (ay.trans bc.mod) aa (fun e g=>(ap e (ag.blk e g)).imp .inl id)) b1.but (fun e g=>.inl (.inr g))
  .obtain rfl:o=m:=om
   rw [List.take_of_length_le om] at ag;have b8:∀ e∈am,e≠q/\e≠j:=fun e g=>by have:=ao e g;omega
   refine iN<|jA (n:=2) ae.cells rfl ?_;have cl:=ck.mod ay (fun h=>by omega);refine jS (vs:=[Value.slice aj i av,Value.slice au o a5]) cl rfl rfl cE fun dq a4 co=>AO (jR (n:=2) rfl co.cells) ?_;have cu:AD w dq:=xb bb a4.but om;have e':=a4.but.size;have bo:=af.lt;have db:=ag.lt;refine ⟨_,_,_,_,rfl,⟨am,ax,(af.keep fun e g=>ay.block e (fun h=>by have:=b8 e g;omega) (bo e g)).keep fun e g=>a4.block e (by have:=ao e g;omega),ag.keep fun e g=>a4.block e (by have:=ap e g;omega),List.nodup_append.2 ⟨b9,ca,fun cc cb p ah b2=>?_⟩,fun e g=>?_⟩,cu⟩
   .have:=b8 cc cb;have:=bo cc cb;have:=ap p ah;omega
   .rcases List.mem_append.1 g with g | g
    .have:=ao e g;have:=bo e g;omega
    .have:=ap e g;have:=db e g;omega
theorem WI (h:Ac CA w a n X) {x:ET} (hx:x.ok) (ha:0<=x.a/\x.a<n) (hb:0<=x.b/\x.b<n) (hk:1<=x.kind/\x.kind<=6) :
  Dq 288 [.agg #[.slice a n c,.slice b m d],.agg ⟨x.enc⟩] w (fun v w'=>∃ a' m' c',v = .tuple #[.slice a' m' c',.int .i64 (Be (X.getD x.a.toNat []) (X.getD x.b.toNat []) x).2] /\
   ((Be (X.getD x.a.toNat []) (X.getD x.b.toNat []) x).2=0->m'<=c'/\Dl Aw w' w.heap.size w'.heap.size a' m' 144 (Be (X.getD x.a.toNat []) (X.getD x.b.toNat []) x).1)/\AD w w'):=by
 have b1:=h.len;obtain ⟨bj,u,bi⟩:=h;have b0:=u.len;obtain ⟨s,af⟩:=AA (l:=bj) (k:=x.a.toNat) om;obtain ⟨o,bu,RA⟩:=bi.get af;obtain ⟨an,ag⟩:=AA (l:=bj) (k:=x.b.toNat) om;obtain ⟨q,bv,a5⟩:=bi.get ag;rw [Af bu,Af bv];obtain ⟨_,_,_,_,a7,_,bx⟩:=hx;have bp:∀ j,AD w j->Dq 322 [.slice s.a s.n s.c,.agg ⟨x.field.enc⟩] j (fun v w'=>∃ a' m c',v = .tuple #[.slice a' m c',.int .i64 (GD o x.field).2]/\((GD o x.field).2=0->m<=c'/\Dl Aw w' j.heap.size w'.heap.size a' m 144 (GD o x.field).1)/\AD j w'):=fun j aa=>Sg (RA.1.ext aa) x.field;have bq:∀ j,AD w j->Dq 323 [.slice s.a s.n s.c,.slice an.a an.n an.c,.agg ⟨x.field.enc⟩] j (fun v w'=>∃ a' m c',v = .tuple #[.slice a' m c',.int .i64 (CI o q x.field).2]/\((CI o q x.field).2=0->m<=c'/\Dl Aw w' j.heap.size w'.heap.size a' m 144 (CI o q x.field).1)/\AD j w'):=fun j aa=>Pa (RA.1.ext aa) (a5.1.ext aa) a7 RA.2 a5.2;have br:∀ j,AD w j->Dq 324 [.slice s.a s.n s.c,.agg ⟨x.field.enc⟩,.string x.text] j (fun v w'=>∃ a' m c',v = .tuple #[.slice a' m c',.int .i64 (Cw o x.field x.text).2]/\((Cw o x.field x.text).2=0->m<=c'/\Dl Aw w' j.heap.size w'.heap.size a' m 144 (Cw o x.field x.text).1)/\AD j w'):=fun j aa=>OE (RA.1.ext aa) a7 bx RA.2;have bt:∀ j,AD w j->Dq 325 [.slice s.a s.n s.c,.agg ⟨x.field.enc⟩] j (fun v w'=>∃ a' m c',v = .tuple #[.slice a' m c',.int .i64 (EK o x.field).2]/\((EK o x.field).2=0->m<=c'/\Dl Aw w' j.heap.size w'.heap.size a' m 144 (EK o x.field).1)/\AD j w'):=fun j aa=>MK (RA.1.ext aa) a7 RA.2;have a6:∀ j,AD w j->Dq 326 [.slice s.a s.n s.c,.slice an.a an.n an.c,.agg ⟨x.field.enc⟩] j (fun v w'=>∃ a' m c',v = .tuple #[.slice a' m c',.int .i64 (CX o q x.field)]/\(CX o q x.field=0->∃ b ad bb ae bc,a'=some ⟨b,0,none⟩/\m=4/\c'=4/\AK w' b 0 (Al eH [ad,bb,ae,bc])/\ad.n<=ad.c/\ae.n<=ae.c/\Dl Aw w' j.heap.size w'.heap.size ad.a ad.n 144 (Cc o q x.field true)/\Dl Aw w' j.heap.size w'.heap.size ae.a ae.n 144 (Cc o q x.field false))/\AD j w'):=fun j aa=>Pb (RA.1.ext aa) (a5.1.ext aa) a7 RA.2 a5.2;by_cases au:x.kind=1
 .have ac:Be o q x=GD o x.field:=by unfold Be;rw [if_pos au]
  rw [ac];refine oV Tryz.func288 ?_;refine AB.box ?_;intro ai a0 ao av g p;refine AB.box fun aj a1 ap aw e i=>BS A7 mixed kR kR ?_;refine dL (p.ext e).cells (k:=0) rfl<|dL i.cells (k:=1) rfl ?_;refine dI (u.ext (xt g e)) x.a.toNat om af fun ak ay aq y=>dO y rfl<|dL (p.ext e).cells (k:=0) rfl<|dL i.cells (k:=2) rfl ?_;refine dI (u.ext (xt g e)) x.b.toNat om ag fun al az ar z=>dO z rfl fun a2 f=>jL (i.ext f).cells (k:=0) rfl ?_;refine iY<|jG (n:=2) (k:=4) (i.ext f).cells rfl<|(bp _ (xt (xt g e) f)).mono ?_;rintro _ a3 ⟨ah,ax,am,rfl,r,t⟩;refine ⟨_,_,_,rfl,?_,(xt (xt (xt g e) f) t)⟩
  .exact fun ab=>⟨(r ab).1,(r ab).2.wide (Below.size (xt (xt g e) f)) (Nat.le_refl _)⟩
 by_cases a4:x.kind=2
 .have ac:Be o q x=CI o q x.field:=by unfold Be;rw [if_neg au,if_pos a4]
  rw [ac];refine oV Tryz.func288 ?_;refine AB.box ?_;intro ai a0 ao av g p;refine AB.box fun aj a1 ap aw e i=>BS A7 mixed kR kR ?_;refine dL (p.ext e).cells (k:=0) rfl<|dL i.cells (k:=1) rfl ?_;refine dI (u.ext (xt g e)) x.a.toNat om af fun ak ay aq y=>dO y rfl<|dL (p.ext e).cells (k:=0) rfl<|dL i.cells (k:=2) rfl ?_;refine dI (u.ext (xt g e)) x.b.toNat om ag fun al az ar z=>dO z rfl fun a2 f=>jL (i.ext f).cells (k:=0) rfl<|iN ?_;refine iY<|jG (n:=2) (k:=4) (i.ext f).cells rfl<|(bq _ (xt (xt g e) f)).mono ?_;rintro _ a3 ⟨ah,ax,am,rfl,r,t⟩;refine ⟨_,_,_,rfl,?_,(xt (xt (xt g e) f) t)⟩
  .exact fun ab=>⟨(r ab).1,(r ab).2.wide (Below.size (xt (xt g e) f)) (Nat.le_refl _)⟩
 by_cases a8:x.kind=5
 .have ac:Be o q x=Cw o x.field x.text:=by unfold Be;rw [if_neg au,if_neg a4,if_pos a8]
  rw [ac];refine oV Tryz.func288 ?_;refine AB.box ?_;intro ai a0 ao av g p;refine AB.box fun aj a1 ap aw e i=>BS A7 mixed kR kR ?_;refine dL (p.ext e).cells (k:=0) rfl<|dL i.cells (k:=1) rfl ?_;refine dI (u.ext (xt g e)) x.a.toNat om af fun ak ay aq y=>dO y rfl<|dL (p.ext e).cells (k:=0) rfl<|dL i.cells (k:=2) rfl ?_;refine dI (u.ext (xt g e)) x.b.toNat om ag fun al az ar z=>dO z rfl fun a2 f=>jL (i.ext f).cells (k:=0) rfl<|iN<|iN ?_;refine iY<|jG (n:=2) (k:=4) (i.ext f).cells rfl<|jL (i.ext f).cells (k:=8) rfl<|(br _ (xt (xt g e) f)).mono ?_;rintro _ a3 ⟨ah,ax,am,rfl,r,t⟩;refine ⟨_,_,_,rfl,?_,(xt (xt (xt g e) f) t)⟩
  .exact fun ab=>⟨(r ab).1,(r ab).2.wide (Below.size (xt (xt g e) f)) (Nat.le_refl _)⟩
 by_cases bf:x.kind=6
 .have ac:Be o q x=EK o x.field:=by unfold Be;rw [if_neg au,if_neg a4,if_neg a8,if_pos bf]
  rw [ac];refine oV Tryz.func288 ?_;refine AB.box ?_;intro ai a0 ao av g p;refine AB.box fun aj a1 ap aw e i=>BS A7 mixed kR kR ?_;refine dL (p.ext e).cells (k:=0) rfl<|dL i.cells (k:=1) rfl ?_;refine dI (u.ext (xt g e)) x.a.toNat om af fun ak ay aq y=>dO y rfl<|dL (p.ext e).cells (k:=0) rfl<|dL i.cells (k:=2) rfl ?_;refine dI (u.ext (xt g e)) x.b.toNat om ag fun al az ar z=>dO z rfl fun a2 f=>jL (i.ext f).cells (k:=0) rfl<|iN<|iN<|iN ?_;refine iY<|jG (n:=2) (k:=4) (i.ext f).cells rfl<|(bt _ (xt (xt g e) f)).mono ?_;rintro _ a3 ⟨ah,ax,am,rfl,r,t⟩;refine ⟨_,_,_,rfl,?_,(xt (xt (xt g e) f) t)⟩
  .exact fun ab=>⟨(r ab).1,(r ab).2.wide (Below.size (xt (xt g e) f)) (Nat.le_refl _)⟩
 by_cases be:CX o q x.field=0
 .have ac:Be o q x=(Cc o q x.field (decide (x.kind=3)),0):=by unfold Be;rw [if_neg au,if_neg a4,if_neg a8,if_neg bf,if_neg (by simp [be])]
  rw [ac];rw [be] at a6;by_cases bk:x.kind=3
  .rw [decide_eq_true bk];refine oV Tryz.func288 ?_;refine AB.box ?_;intro ai a0 ao av g p;refine AB.box fun aj a1 ap aw e i=>BS A7 mixed kR kR ?_;refine dL (p.ext e).cells (k:=0) rfl<|dL i.cells (k:=1) rfl ?_;refine dI (u.ext (xt g e)) x.a.toNat om af fun ak ay aq y=>dO y rfl<|dL (p.ext e).cells (k:=0) rfl<|dL i.cells (k:=2) rfl ?_;refine dI (u.ext (xt g e)) x.b.toNat om ag fun al az ar z=>dO z rfl fun a2 f=>jL (i.ext f).cells (k:=0) rfl<|iN<|iN<|iN<|iN<|jG (n:=2) (k:=4) (i.ext f).cells rfl<|(a6 _ (xt (xt g e) f)).mono ?_;rintro _ a3 ⟨ah,ax,am,rfl,r,t⟩;refine jL (i.ext (xt f t)).cells (k:=0) rfl<|iY ?_;obtain ⟨bo,ad,bb,ae,bc,rfl,rfl,rfl,ba,bl,bm,bg,bh⟩:=r rfl;have a9:=LN (n:=4) ba rfl om;exact jI a9 0 rfl (x:=ad) rfl fun bn bz bw bd=>jO bd rfl ⟨_,_,_,rfl,fun _=>⟨bl,bg.wide (Below.size (xt (xt g e) f)) (Nat.le_refl _)⟩,xt (xt (xt g e) f) t⟩
  .rw [decide_eq_false bk];refine oV Tryz.func288 ?_;refine AB.box ?_;intro ai a0 ao av g p;refine AB.box fun aj a1 ap aw e i=>BS A7 mixed kR kR ?_;refine dL (p.ext e).cells (k:=0) rfl<|dL i.cells (k:=1) rfl ?_;refine dI (u.ext (xt g e)) x.a.toNat om af fun ak ay aq y=>dO y rfl<|dL (p.ext e).cells (k:=0) rfl<|dL i.cells (k:=2) rfl ?_;refine dI (u.ext (xt g e)) x.b.toNat om ag fun al az ar z=>dO z rfl fun a2 f=>jL (i.ext f).cells (k:=0) rfl<|iN<|iN<|iN<|iN<|jG (n:=2) (k:=4) (i.ext f).cells rfl<|(a6 _ (xt (xt g e) f)).mono ?_;rintro _ a3 ⟨ah,ax,am,rfl,r,t⟩;refine jL (i.ext (xt f t)).cells (k:=0) rfl<|iN ?_;obtain ⟨bo,ad,bb,ae,bc,rfl,rfl,rfl,ba,bl,bm,bg,bh⟩:=r rfl;have a9:=LN (n:=4) ba rfl om;exact jI a9 2 rfl (x:=ae) rfl fun bn bz bw bd=>jO bd rfl ⟨_,_,_,rfl,fun _=>⟨bm,bh.wide (Below.size (xt (xt g e) f)) (Nat.le_refl _)⟩,xt (xt (xt g e) f) t⟩
 .have ac:Be o q x=([],CX o q x.field):=by unfold Be;rw [if_neg au,if_neg a4,if_neg a8,if_neg bf,if_pos be]
  rw [ac];refine oV Tryz.func288 ?_;refine AB.box ?_;intro ai a0 ao av g p;refine AB.box fun aj a1 ap aw e i=>BS A7 mixed kR kR ?_;refine dL (p.ext e).cells (k:=0) rfl<|dL i.cells (k:=1) rfl ?_;refine dI (u.ext (xt g e)) x.a.toNat om af fun ak ay aq y=>dO y rfl<|dL (p.ext e).cells (k:=0) rfl<|dL i.cells (k:=2) rfl ?_;refine dI (u.ext (xt g e)) x.b.toNat om ag fun al az ar z=>dO z rfl fun a2 f=>jL (i.ext f).cells (k:=0) rfl<|iN<|iN<|iN<|iN<|jG (n:=2) (k:=4) (i.ext f).cells rfl<|(a6 _ (xt (xt g e) f)).mono ?_;rintro _ a3 ⟨ah,ax,am,rfl,r,t⟩;exact iT ⟨_,_,_,rfl,om,(xt (xt (xt g e) f) t)⟩
end Go.Proofs.YtalgenmoljcnmaaGreatDoor
namespace Go.Proofs.YtalgenmoljcnmaaGreatDoor
section
open Go Go.RowKit Go.Vc Go.M
variable {w:World} {a a':Option Addr} {n n' c c':Nat} {xs ys:List Int}
theorem UM (h:A4 eI 1 w a n xs) (h':A4 eI 1 w a' n' ys) :
  Dq 293 [.slice a n c,.slice a' n' c'] w (fun v w'=>v = .bool (decide (xs=ys))/\AD w w'):=by
 have z:=h.len;have aa:=h'.len;have y:=h.le;refine oV Tryz.func293 ?_;conv=>whnf
 refine AW (fun l=>?_) fun l=>?_
 .exact ⟨by rw [decide_eq_false (fun e=>by subst e;omega)],AD.refl _⟩
 .refine lR [0,1,5] (fun (b:Nat) r w'=>r=[.slice a n c,.slice a' n' c',.int .i64 b]/\b<=n/\xs.take b=ys.take b/\AD w w') (fun b=>n - b) 0 ⟨rfl,om,sI,AD.refl _⟩ ?_;rintro b u _ w' ⟨rfl,x,o,d⟩;refine AF (fun m=>?_) fun m=>?_
  .refine BS A7 mixed kR kR ?_;obtain ⟨ag,k⟩:∃ g,xs[b]? = some g:=AA om;refine dI (h.ext d) b rfl k fun s ac _ p=>dO p rfl ?_;obtain ⟨ah,f⟩:∃ g,ys[b]? = some g:=AA om;refine dI (h'.ext d) b rfl f fun t ad _ q=>dO q rfl fun af i=>AW (fun j=>?_) fun j=>?_
   .refine ⟨?_,(xt d i)⟩
    .exact congrArg Value.bool (decide_eq_false (fun e=>by subst e;rw [k] at f;cases f;simp at j)).symm
   .exact jP (((b+1:Nat):Int)) ⟨b+1,om,rfl,om,by simp [List.take_add_one, *],(xt d i)⟩
  .have ab:b=n:=om
   have ae:List.take b xs=xs:=List.take_of_length_le om;refine ⟨?_,d⟩
   .exact congrArg Value.bool (decide_eq_true (by rw [<- List.take_of_length_le (show xs.length<=b by omega),o,List.take_of_length_le om])).symm
theorem Uf (h:A4 eI 1 w a n xs) (h':A4 eI 1 w a' n' ys) :
  Dq 277 [.slice a n c,.slice a' n' c'] w (fun v w'=>v = .bool (decide (xs=ys))/\AD w w'):=by
 have z:=h.len;have aa:=h'.len;have y:=h.le;refine oV Tryz.func277 ?_;conv=>whnf
 refine AW (fun l=>?_) fun l=>?_
 .exact ⟨by rw [decide_eq_false (fun e=>by subst e;omega)],AD.refl _⟩
 .refine lR [0,1,12,13] (fun (b:Nat) r w'=>r=[.slice a n c,.slice a' n' c',.int .i64 n,.int .i64 b]/\b<=n/\xs.take b=ys.take b/\AD w w') (fun b=>n - b) 0 ⟨rfl,om,sI,AD.refl _⟩ ?_;rintro b u _ w' ⟨rfl,x,o,d⟩;refine AF (fun m=>?_) fun m=>?_
  .refine BS A7 mixed kR kR ?_;obtain ⟨ag,k⟩:∃ g,xs[b]? = some g:=AA om;refine dI (h.ext d) b rfl k fun s ac _ p=>dO p rfl ?_;obtain ⟨ah,f⟩:∃ g,ys[b]? = some g:=AA om;refine dI (h'.ext d) b rfl f fun t ad _ q=>dO q rfl fun af i=>AW (fun j=>?_) fun j=>?_
   .refine ⟨?_,(xt d i)⟩
    .exact congrArg Value.bool (decide_eq_false (fun e=>by subst e;rw [k] at f;cases f;simp at j)).symm
   .exact jP (((b+1:Nat):Int)) ⟨b+1,om,rfl,om,by simp [List.take_add_one, *],(xt d i)⟩
  .have ab:b=n:=om
   have ae:List.take b xs=xs:=List.take_of_length_le om;refine ⟨?_,d⟩
   .exact congrArg Value.bool (decide_eq_true (by rw [<- List.take_of_length_le (show xs.length<=b by omega),o,List.take_of_length_le om])).symm
theorem Si {d d':Hd} (A:A4 eI 1 w d.a d.n xs) (A':A4 eI 1 w d'.a d'.n ys) :
  Dq 216 [.agg ⟨eH d⟩,.agg ⟨eH d'⟩] w (fun v w'=>v = .bool (decide (xs=ys))/\AD w w'):=by
 refine oV Tryz.func216 ?_;refine AB.box ?_;intro h p j m c e;refine AB.box fun i q l o b f=>jL (e.ext b).cells (k:=0) rfl<|jL f.cells (k:=0) rfl<|dM (Uf (A.ext (xt c b)) (A'.ext (xt c b))) fun r g=>?_;exact ⟨rfl,(xt (xt c b) g)⟩
end
section
open Go Go.RowKit Go.Vc Go.M
variable {w:World} {a a':Option Addr} {n n' c c':Nat} {xs ys:List (List Int)}
theorem Mr (h:Ac AZ w a n xs) (h':Ac AZ w a' n' ys) :
  Dq 215 [.slice a n c,.slice a' n' c',.func (.func 216) ⟨[]⟩ ⟨[]⟩] w (fun v w'=>v = .bool (decide (xs=ys))/\AD w w'):=by
 have a4:=h.len;have a5:=h'.len;have a3:=h.le;obtain ⟨m,x,al⟩:=h;obtain ⟨aq,y,am⟩:=h';have a1:=x.len;have a2:=y.len;refine oV Tryz.func215 ?_;conv=>whnf
 refine AW (fun aj=>?_) fun aj=>?_
 .exact ⟨by rw [decide_eq_false (fun l=>by subst l;omega)],AD.refl _⟩
 .refine lR [1,2,15,16,17] (fun (d:Nat) au w'=>au=[.slice a' n' c',.func (.func 216) ⟨[]⟩ ⟨[]⟩,.slice a n c,.int .i64 n,.int .i64 d]/\d<=n/\xs.take d=ys.take d/\AD w w') (fun d=>n - d) 0 ⟨rfl,om,sI,AD.refl _⟩ ?_;rintro d az _ w' ⟨rfl,a0,an,b⟩;refine AF (fun ak=>?_) fun ak=>?_
  .obtain ⟨p,aa⟩:∃ o,m[d]? = some o:=AA om;obtain ⟨bk,ar,r⟩:=al.get aa;have ad:=r.1;have a9:=r.2;refine jI (x.ext b) d rfl aa fun av bb _ ao=>jA (n:=1) ao rfl<|jN (z := .agg #[.slice none 0 0]) fun aw bf g a7 f af=>jS (vs:=[Value.slice p.a p.n p.c]) af rfl rfl (by simp [AM]) ?_;intro bg e ag;obtain ⟨q,ab⟩:∃ o,aq[d]? = some o:=AA om;obtain ⟨bl,ac,s⟩:=am.get ab;have ae:=s.1;have ba:=s.2;refine jI (y.ext (xb (xt b f) e.but (nB b g))) d rfl ab fun ax bc _ ap=>jA (n:=1) ap rfl<|jN (z := .agg #[.slice none 0 0]) fun ay bh k a8 j ah=>jS (vs:=[Value.slice q.a q.n q.c]) ah rfl rfl (by simp [AM]) fun bi i ai=>jA (n:=1) (ag.ext (xb j i.but k)).cells rfl<|jA (n:=1) ai.cells rfl<|dM (Si (ad.ext (xb (xt (xb (xt b f) e.but (nB b g)) j) i.but (nB (xb (xt b f) e.but (nB b g)) k))) (ae.ext (xb (xt (xb (xt b f) e.but (nB b g)) j) i.but (nB (xb (xt b f) e.but (nB b g)) k)))) fun bj t=>AW (fun u=>?_) fun u=>?_
   .refine ⟨?_,(xt (xb (xt (xb (xt b f) e.but (nB b g)) j) i.but (nB (xb (xt b f) e.but (nB b g)) k)) t)⟩
    .exact congrArg Value.bool (decide_eq_false (fun l=>by subst l;rw [ar] at ac;cases ac;simp at u)).symm
   .exact jP (((d+1:Nat):Int)) ⟨d+1,om,rfl,om,by simp [List.take_add_one, *],(xt (xb (xt (xb (xt b f) e.but (nB b g)) j) i.but (nB (xb (xt b f) e.but (nB b g)) k)) t)⟩
  .have a6:d=n:=om
   have bd:List.take d xs=xs:=List.take_of_length_le om;have be:List.take d m=m:=List.take_of_length_le om;refine ⟨?_,b⟩
   .exact congrArg Value.bool (decide_eq_true (by rw [<- List.take_of_length_le (show xs.length<=d by omega),an,List.take_of_length_le om])).symm
theorem Sh (h:Ac AZ w a n xs) (h':Ac AZ w a' n' ys) :
  Dq 143 [.slice a n c,.slice a' n' c'] w (fun v w'=>v = .bool (decide (xs=ys))/\AD w w'):=by
 refine oV Tryz.func143 ?_;refine (Mr h h').mono ?_;rintro _ d ⟨rfl,b⟩;exact ⟨rfl,b⟩
end
end Go.Proofs.YtalgenmoljcnmaaGreatDoor
namespace Go.Vc
open Go Go.RowKit
variable {P:Program}
theorem EN {t:Nat} {X Y:Operand} {a b:Int} {k k':IntKind} (r:Int) (hb:0<=b) (he:a.fdiv (2 ^ min b.toNat k.bits)=r) {w:World} {K:Value->World->Prop} (hK:K (.int k r) w) :
  AB P (Bl .shr t X Y (.int k a) (.int k' b)) w K:=AB.shr hb (he▸hK)
theorem Xk {t:Nat} {X Y:Operand} {a b:Int} {k k':IntKind} (r:Int) (hb:0<=b) (he:k.wrap (a * 2 ^ min b.toNat k.bits)=r) {w:World} {K:Value->World->Prop} (hK:K (.int k r) w) :
  AB P (Bl .shl t X Y (.int k a) (.int k' b)) w K:=AB.shl hb (he▸hK)
theorem MT {t:Nat} {X Y:Operand} {a b:Int} {k:IntKind} (r:Int) (he:FQ k a b=r) {w:World} {K:Value->World->Prop} (hK:K (.int k r) w) :
  AB P (Bl .and t X Y (.int k a) (.int k b)) w K:=AB.and (he▸hK)
theorem HJ.app {α:Type} {E:Ow α} {w:World} {hs gs:List Hd} {xs ys:List α} {fps gps:List (List Nat)} (h:HJ E w hs xs fps) (g:HJ E w gs ys gps):HJ E w (hs++gs) (xs++ys) (fps++gps):=by
 refine ⟨by simp [h.1,g.1],by simp [h.2.1,g.2.1],fun i e j f b d c=>?_⟩;rcases Nat.lt_or_ge i hs.length with a | a
 .rw [List.getElem?_append_left a] at b;rw [List.getElem?_append_left (by rw [<- h.1];exact a)] at d;rw [List.getElem?_append_left (by rw [h.2.1,<- h.1];exact a)] at c;exact h.2.2 i e j f b d c
 .rw [List.getElem?_append_right a] at b;rw [List.getElem?_append_right (by rw [<- h.1];exact a)] at d;rw [List.getElem?_append_right (by rw [h.2.1,<- h.1];exact a)] at c;rw [h.1] at b;rw [h.2.1] at c;exact g.2.2 _ e j f b d c
theorem Jt {P:Program} {α:Type} {E:Ow α} {R:Rd α} [Ju E R] {t e by_ lo lo2:Nat} {zs:List Value} (ht:C8 P t=some (e,zs,by_)) (hz:zs.length=1) {w:World} {a a2:Option Addr} {n c n2 c2:Nat} {xs ys:List α} {fp gp:List Nat} (h:CH E lo e w a n c xs fp) (hnd:fp.Nodup) (hlo:lo<=w.heap.size)
  (h2:CH E lo2 e w a2 n2 c2 ys gp) (hgd:gp.Nodup) (hdj:∀ k∈gp,k∉fp) (hsm:n+n2<=1099511627776) (hby:(n+n2) * by_<=140737488355328) {ty:Nat} {cs:Array Bool} {K:Next->World->Prop}
  (hK:∀ a' c' w' fp',CH E lo e w' a' (n+n2) c' (xs++ys) fp'->fp'.Nodup->(∀ k∈fp',k∈fp\/k∈gp\/k=w.heap.size)->BP (AL a) w w'->K (.value (.slice a' (n+n2) c')) w') :
  AB P (builtin .append #[t,t] ty cs #[.slice a n c,.slice a2 n2 c2]) w K:=by
 obtain ⟨y,f,ae,q,rfl⟩:=h;obtain ⟨ad,g,ac,p,rfl⟩:=h2;refine AN (enc:=eH) ht (fun an=>by rw [hz];rfl) (by rw [hz];exact ae) (by rw [hz];exact ac.own.arr Dz) (by intro aj _;simp [eH,AM]) hsm hby hlo ?_;intro a' ab w' r j af;rw [hz] at r;obtain ⟨am,ai,z⟩:=List.nodup_append.1 hnd;obtain ⟨ak,ah,al⟩:=List.nodup_append.1 hgd;have s:∀ k∈f.flatten,k<w.heap.size:=q.lt;have u:∀ k∈g.flatten,k<w.heap.size:=p.lt;have v:∀ k,k∈BW a'->k∈BW a\/k=w.heap.size:=fun k b=>(af k (Az.1 b)).imp (fun h=>Az.2 h) id;have o:(f++g).flatten=f.flatten++g.flatten:=sI
 refine hK a' ab w' (BW a'++(f++g).flatten) ⟨y++ad,f++g,r,?_,rfl⟩ ?_ ?_ j
 .have ag:HJ E w' y xs f:=q.keep fun k b=>j.block k (fun l=>z k (Az.2 l) k b rfl) (s k b);exact ag.app (p.keep fun k b=>j.block k (fun l=>hdj k (List.mem_append_right _ b) (List.mem_append_left _ (Az.2 l))) (u k b))
 .rw [o];refine List.nodup_append.2 ⟨?_,List.nodup_append.2 ⟨ai,ah,fun i m aa d e=>hdj aa (List.mem_append_right _ d) (e▸List.mem_append_right _ m)⟩,fun i m aa d e=>?_⟩
  .cases a' with
   | none=>simp [BW]
   | some aj=>simp [BW]
  .subst e;rcases v i m with x | rfl
   .rcases List.mem_append.1 d with d | d
    .exact z i x i d rfl
    .exact hdj i (List.mem_append_right _ d) (List.mem_append_left _ x)
   .rcases List.mem_append.1 d with d | d
    .have:=s _ d;omega
    .have:=u _ d;omega
 .intro k b;rw [o] at b;rcases List.mem_append.1 b with b | b
  .rcases v k b with b | b
   .exact .inl (List.mem_append_left _ b)
   .exact .inr (.inr b)
  .rcases List.mem_append.1 b with b | b
   .exact .inl (List.mem_append_right _ b)
   .exact .inr (.inl (List.mem_append_right _ b))
end Go.Vc
namespace Go.M
open Go Go.Vc
variable {m:Int} {k:Nat} {L:List Int} {d:List (List Int)} {p:Ak}
theorem FW {p:Nat->Prop} (key:∀ a b:Fin 64,p (a.val * 64+b.val)) {n:Nat} (hn:n<4096):p n:=by
 have c:=key ⟨n / 64,om⟩ ⟨n % 64,om⟩;have d:n / 64 * 64+n % 64=n:=om
 dsimp only at c;rw [d] at c;exact c
theorem aJ8 (h0:0<=m) (h1:m<=4095):FQ .i64 m 1=m % 2:=by
 obtain ⟨a,rfl⟩:∃ a:Nat,m=a:=⟨m.toNat,om⟩;exact FW (p:=fun a=>FQ .i64 (a:Int) 1=(a:Int) % 2) (by decide +kernel) om
theorem aH9 (h0:0<=m) (h1:m<=4095):FQ .i64 m 1=if Da m 0=true then 1 else 0:=by
 obtain ⟨a,rfl⟩:∃ a:Nat,m=a:=⟨m.toNat,om⟩;exact FW (p:=fun a=>FQ .i64 (a:Int) 1=if Da (a:Int) 0=true then 1 else 0) (by decide +kernel) om
theorem aH8 (h0:0<=m) (h1:m<=4095):FQ .i64 m 2=if Da m 1=true then 2 else 0:=by
 obtain ⟨a,rfl⟩:∃ a:Nat,m=a:=⟨m.toNat,om⟩;exact FW (p:=fun a=>FQ .i64 (a:Int) 2=if Da (a:Int) 1=true then 2 else 0) (by decide +kernel) om
theorem aH7 (h0:0<=m) (h1:m<=4095):FQ .i64 m 4=if Da m 2=true then 4 else 0:=by
 obtain ⟨a,rfl⟩:∃ a:Nat,m=a:=⟨m.toNat,om⟩;exact FW (p:=fun a=>FQ .i64 (a:Int) 4=if Da (a:Int) 2=true then 4 else 0) (by decide +kernel) om
theorem RR (k:Nat):m.fdiv (2 ^ k)=m / 2 ^ k:=Int.fdiv_eq_ediv_of_nonneg _ (by have:(0:Int)<2 ^ k:=Int.pow_pos dE;omega)
theorem Vf:m.fdiv (2 ^ min (3:Int).toNat IntKind.i64.bits)=m / 8:=by
 have a:min (3:Int).toNat IntKind.i64.bits=3:=dE
 rw [a,RR];rfl
theorem Tb (h0:0<=m) (h1:m<=4095) (k:Nat):0<=m / 2 ^ k/\m / 2 ^ k<=4095:=by
 have a:(0:Int)<2 ^ k:=Int.pow_pos dE;refine ⟨Int.ediv_nonneg h0 om,Int.le_trans (Int.ediv_le_self _ h0) h1⟩
theorem aE4 (hk:k<=8):(m / 8).fdiv (2 ^ min ((k:Int)).toNat IntKind.i64.bits)=m / 2 ^ (k+3):=by
 have a:min ((k:Int)).toNat IntKind.i64.bits=k:=by
  have:IntKind.i64.bits=64:=rfl;rw [this,Int.toNat_natCast];omega
 rw [a,RR,Int.ediv_ediv_of_nonneg dE,Int.pow_add,Int.mul_comm];rfl
theorem aE5 (h0:0<=m) (h1:m<=4095) (k:Nat):FQ .i64 (m / 2 ^ (k+3)) 1=m / 2 ^ (k+3) % 2:=aJ8 (Tb h0 h1 _).1 (Tb h0 h1 _).2
theorem RI (mode:Int):(BF mode).length<=11:=by unfold BF;split<;>decide
theorem NH (mode:Int):(BF mode).Nodup:=by unfold BF;split<;>decide
theorem RJ (mode:Int):∀ k∈BF mode,0<=k/\k<=12:=by unfold BF;split<;>decide
theorem RH (g:List Int->Int) (c:List Int) (d:List (List Int)):∀ L:List Int,L.Nodup->(L.map fun k=>((c :: d).filter fun c=>decide (g c=k)).length).sum<=(L.map fun k=>(d.filter fun c=>decide (g c=k)).length).sum+(if g c∈L then 1 else 0)
 | [],_=>sI
 | k :: L,h=>by
  rw [List.nodup_cons] at h;have ih:=RH g c d L h.2;simp only [List.map_cons,List.sum_cons];by_cases a:g c=k
  .have e:¬ g c∈L:=by rw [a];exact h.1
   rw [if_neg e] at ih;rw [if_pos (by rw [a];simp)];rw [List.filter_cons_of_pos (by simp [a]),List.length_cons];omega
  .rw [List.filter_cons_of_neg (by simp [a])];have f:(if g c∈k :: L then 1 else 0)=(if g c∈L then 1 else 0:Nat):=by
    by_cases b:g c∈L
    .rw [if_pos b,if_pos (List.mem_cons_of_mem _ b)]
    .rw [if_neg b,if_neg (by simp [a,b])]
   omega
theorem NG (g:List Int->Int) (h:L.Nodup):∀ d:List (List Int),(L.map fun k=>(d.filter fun c=>decide (g c=k)).length).sum<=d.length
 | []=>by
  have:∀ L:List Int,(L.map fun _=>0).sum=0:=by
   intro L;induction L with
   | nil=>rfl
   | cons k L b=>simpa using b
  simp [this]
 | c :: d=>by
  have a:=RH g c d L h;have e:=NG g h d;rw [List.length_cons];split at a<;>omega
theorem XF (d:List (List Int)) (p:Ak) {k:Int} (h0:0<=k) (h1:k<=12):(Cr d p).getD k.toNat []=d.filter (Dx p k):=by
 unfold Cr;have a:k.toNat<13:=om
 rw [List.getD_eq_getElem?_getD,List.getElem?_map,List.getElem?_range a];simp only [Option.map_some,Option.getD_some];rw [show ((k.toNat:Nat):Int)=k by omega]
theorem Pm (d:List (List Int)) (p:Ak):HC d p=(BF p.mode).flatMap fun k=>d.filter (Dx p k):=by
 unfold HC;have:∀ a:List Int,(∀ k∈a,0<=k/\k<=12)->(a.flatMap fun k=>(Cr d p).getD k.toNat [])=a.flatMap fun k=>d.filter (Dx p k):=by
  intro a;induction a with
  | nil=>intro _;rfl
  | cons k a e =>
   intro b;rw [List.flatMap_cons,List.flatMap_cons,e fun f c=>b f (List.mem_cons_of_mem _ c),XF d p (b k sI).1 (b k sI).2]
 exact this _ (RJ _)
theorem Zh (d:List (List Int)) (p:Ak):(HC d p).length<=d.length:=by
 rw [Pm,List.length_flatMap];exact NG (fun a=>Cj (a.getD p.col.toNat 0) p.mode) (NH _) d
theorem Zg {c:List Int} (h:c∈HC d p):c∈d:=by
 rw [Pm,List.mem_flatMap] at h;obtain ⟨b,_,a⟩:=h;exact (List.mem_filter.1 a).1
theorem US:∀ (l:List Ak) (d:List (List Int)),(Ci d l).length<=d.length
 | [],_=>Nat.le_refl _
 | p :: l,d=>Nat.le_trans (US l (HC d p)) (Zh d p)
theorem UR:∀ (l:List Ak) (d:List (List Int)) {c:List Int},c∈Ci d l->c∈d
 | [],_,_,h=>h
 | p :: l,d,_,h=>Zg (UR l (HC d p) h)
theorem Vh {l:List Ak} (h:l[k]? = some p):Ci d (l.take (k+1))=HC (Ci d (l.take k)) p:=by
 unfold Ci;rw [List.take_add_one,h,List.foldl_append];rfl
theorem TT {Ps:List (List (List Int))} {x:Int} (h:L[k]? = some x):((L.take (k+1)).flatMap fun k=>Ps.getD k.toNat [])=((L.take k).flatMap fun k=>Ps.getD k.toNat [])++Ps.getD x.toNat []:=by
 rw [List.take_add_one,h,List.flatMap_append];simp
theorem Ok (d:List (List Int)) (p:Ak):(Cr d p).length=13:=by simp [Cr]
theorem Ol (d:List (List Int)) (p:Ak) (hk:k<13):(Cr d p)[k]? = some (d.filter (Dx p k)):=by
 unfold Cr;rw [List.getElem?_map,List.getElem?_range hk];rfl
theorem Aa (x:Ak):(Ak.enc x).length=2:=rfl
end Go.M
namespace Go.Proofs.YtalgenmoljcnmaaGreatDoor
open Go Go.RowKit Go.Vc Go.M
variable {mode:Int} {w:World} {a:Option Addr} {n c:Nat} {xs:List (List Int)}
theorem SW {m:Int} (h0:0<=m) (h1:m<=4095) (w:World):Dq 279 [.int .i64 m,.int .i64 mode] w (fun v w'=>v = .int .i64 (Cj m mode)/\AD w w'):=by
 have g:∀ c,Dq 316 [.int .i64 12] c (fun v w'=>v = .int .i64 1/\AD c w'):=fun c=>by
  have:=CE 12 c;rw [Pz rfl] at this;exact this
 have i:∀ c,Dq 316 [.int .i64 11] c (fun v w'=>v = .int .i64 2/\AD c w'):=fun c=>by
  have:=CE 11 c;rw [NQ rfl] at this;exact this
 have f:∀ c,Dq 316 [.int .i64 0] c (fun v w'=>v = .int .i64 4/\AD c w'):=fun c=>by
  have:=CE 0 c;rw [show CG 0=4 from rfl] at this;exact this
 by_cases ab:mode=1
 .have s:Cj m mode=(match I2 9 m with | some ad=>(ad:Int) | none=>if m=4 then 0 else 12):=by
   unfold Cj;rw [if_pos ab];cases I2 9 m<;>rfl
  rw [s];refine oV Tryz.func279 ?_;refine EN (m / 8) om Vf ?_;refine iY<|lR [0,5,6] (fun (a:Nat) an w'=>an=[.int .i64 m,.int .i64 (m / 8),.int .i64 (9 - (a:Int))]/\a<=9/\I2 9 m=I2 (9 - a) m/\w'=w) (fun a=>9 - a) 0 ⟨rfl,om,rfl,rfl⟩ ?_;rintro a ao _ w' ⟨rfl,ar,t,rfl⟩;rcases Nat.lt_or_ge a 9 with aj | aj
  .have o:I2 (9 - a) m=if Da m (8 - a+3)=true then some (9 - a) else I2 (8 - a) m:=by
    rw [show 9 - a=(8 - a)+1 by omega];rfl
   have ai:=aE5 h0 h1 (8 - a);have n:Da m (8 - a+3)=decide (m / 2 ^ (8 - a+3) % 2=1):=rfl;generalize al:m / 2 ^ (8 - a+3)=u at *;refine iY<|AB.sub (((8 - a:Nat):Int)) om om om<|EN u om (by rw [aE4 om];exact al)<|MT (u % 2) ai ?_;by_cases aa:u % 2=1
   .refine iY ?_;(conv=>whnf);rw [decide_eq_true aa] at n;rw [if_pos n] at o;rw [t,o];exact ⟨congrArg (Value.int .i64) (by simp only;omega),AD.refl _⟩
   .refine iN<|AB.sub (9 - ((a+1:Nat):Int)) om om om ?_;(conv=>whnf);rw [decide_eq_false aa] at n;rw [if_neg (by simp [n])] at o;exact ⟨a+1,om,rfl,om,by rw [t,o,show 9 - (a+1)=8 - a by omega],rfl⟩
  .obtain rfl:a=9:=om
   have am:I2 9 m=none:=t;rw [am];by_cases ap:m=4
   .exact dM (f _) fun e b=>iY ⟨by simp [*],b⟩
   .exact dM (f _) fun e b=>iN ⟨by simp [*],b⟩
 .have s:Cj m mode=(if Da m 0=true then 11 else if Da m 1=true then 10 else if Da m 2=true/\¬ m / 8=0 then 0 else if ¬ m=0 then 1 else 12):=by
   unfold Cj;rw [if_neg ab]
  rw [s];have l:=aH9 h0 h1;have r:=aH8 h0 h1;have z:=aH7 h0 h1;have aq:=Vf (m:=m);cases j:Da m 0
  .cases p:Da m 1
   .cases k:Da m 2
    .simp only [j,p,k,if_true,if_false,Bool.false_eq_true,false_and,true_and] at l r z ⊢;by_cases ak:m=0
     .rw [if_neg om];refine oV Tryz.func279 ?_;refine EN (m / 8) om Vf ?_;refine iN<|dM (g _) fun e b=>AB.and<|AW (fun af=>?_) fun af=>?_
      .exact ⟨om,b⟩
      .refine dM (i _) fun av q=>AB.and<|AW (fun ag=>?_) fun ag=>?_
       .exact ⟨om,(xt b q)⟩
       .refine dM (f _) fun aw y=>AB.and<|AW (fun ah=>?_) fun ah=>?_
        .exact iF<|iF ⟨rfl,(xt (xt b q) y)⟩
        .exact iF ⟨rfl,(xt (xt b q) y)⟩
     .rw [if_pos om];refine oV Tryz.func279 ?_;refine EN (m / 8) om Vf ?_;refine iN<|dM (g _) fun e b=>AB.and ?_;refine iF<|dM (i _) fun x d=>AB.and ?_;refine iF<|dM (f _) fun ac h=>AB.and ?_;refine iF ?_;refine iT ?_;exact ⟨rfl,(xt (xt b d) h)⟩
    .simp only [j,p,k,if_true,if_false,Bool.false_eq_true,false_and,true_and] at l r z ⊢;have ak:¬ m=0:=fun ae=>by rw [ae] at k;revert k;decide
     by_cases au:m / 8=0
     .rw [if_neg om,if_pos om];refine oV Tryz.func279 ?_;refine EN (m / 8) om Vf ?_;refine iN<|dM (g _) fun e b=>AB.and ?_;refine iF<|dM (i _) fun x d=>AB.and ?_;refine iF<|dM (f _) fun ac h=>AB.and ?_;refine iT ?_;refine iF ?_;refine iT ?_;exact ⟨rfl,(xt (xt b d) h)⟩
     .rw [if_pos om];refine oV Tryz.func279 ?_;refine EN (m / 8) om Vf ?_;refine iN<|dM (g _) fun e b=>AB.and ?_;refine iF<|dM (i _) fun x d=>AB.and ?_;refine iF<|dM (f _) fun ac h=>AB.and ?_;refine iT ?_;refine iT ?_;exact ⟨rfl,(xt (xt b d) h)⟩
   .simp only [j,p,if_true,if_false,Bool.false_eq_true,false_and,true_and] at l r ⊢;refine oV Tryz.func279 ?_;refine EN (m / 8) om Vf ?_;refine iN<|dM (g _) fun e b=>AB.and ?_;refine iF<|dM (i _) fun x d=>AB.and ?_;refine iT ?_;exact ⟨rfl,(xt b d)⟩
  .simp only [j,if_true] at l ⊢;refine oV Tryz.func279 ?_;refine EN (m / 8) om Vf ?_;refine iN<|dM (g _) fun e b=>AB.and ?_;refine iT ?_;exact ⟨rfl,b⟩
theorem SU (h:Ac AZ w a n xs) (hn2:n<=40) {p:Ak} (hx:∀ x∈xs,x.length<=20/\(∀ m∈x,0<=m/\m<=4095)/\0<=p.col/\p.col<x.length) :
  Dq 218 [.slice a n c,.agg ⟨p.enc⟩] w (fun v w'=>∃ a' c',v = .slice a' 13 c'/\Ac CA w' a' 13 (Cr xs p)/\AD w w'):=by
 have di:=h.len;have dg:=h.le;obtain ⟨cr,ay,ch⟩:=h;have df:=ay.len;have dj:=Ok xs p;refine oV Tryz.func218 ?_;refine AB.box ?_;intro a7 bm c9 dm ba ai;refine bS EA (vs:=[]) ?_;intro a8 c3 cf dp bb br;have dw:=ba.size;have dy:=bb.size;have bw:CH (OG Aw 144) w.heap.size 78 c3 (some ⟨a8,0,none⟩) 0 0 [] [a8]:=E1 br om;refine lR [0,3,5,11] (fun (e:Nat) a2 w'=>∃ ak al an,a2=[.slice a n c,.pointer (some ⟨a7,0,none⟩),.slice ak e al,.int .i64 e]/\e<=13/\CH (OG Aw 144) w.heap.size 78 w' ak e al ((Cr xs p).take e) an/\an.Nodup/\(∀ b∈an,bm.heap.size<=b)/\AD bm w') (fun e=>13 - e) 0 ⟨_,_,_,rfl,om,by simpa using bw,sI,by simpa using cf,bb⟩ ?_;rintro e ce _ a3 ⟨ak,al,an,rfl,de,ag,cp,bf,ap⟩;have be:=xt ba ap;rcases Nat.lt_or_ge e 13 with bg | bg
 .refine iY<|bS Bz (vs:=[]) ?_;intro b7 c4 cg dq cb bt;have bx:Bm Aw a3.heap.size 144 c4 (some ⟨b7,0,none⟩) 0 0 []:=EO bt cg;refine lR [0,3,5,6,7,11,15,16,17] (fun (b:Nat) a2 w'=>∃ ac ae af,a2=[.slice a n c,.pointer (some ⟨a7,0,none⟩),.slice ak e al,.int .i64 e,.slice ae ac af,.int .i64 e,.slice a n c,.int .i64 n,.int .i64 b]/\b<=n/\ac<=b/\Bm Aw a3.heap.size 144 w' ae ac af ((xs.take b).filter (Dx p e))/\AD a3 w') (fun b=>n - b) 0 ⟨_,_,_,rfl,om,om,by simpa using bx,cb⟩ ?_;rintro b ce _ bo ⟨ac,ae,af,rfl,ab,dh,ah,t⟩;have y:=xt be t;have u:=xt ap t;rcases Nat.lt_or_ge b n with cn | cn
  .obtain ⟨i,a1⟩:=AA (l:=cr) (k:=b) om;obtain ⟨aa,bl,ad⟩:=ch.get a1;have dk:=ad.1.len;have cs:=hx aa (List.mem_of_getElem? bl);obtain ⟨v,ar⟩:=AA (l:=aa) (k:=p.col.toNat) om;have bk:=cs.2.1 v (List.mem_of_getElem? ar);have dd:p.col=(p.col.toNat:Int):=om
   have bh:Dx p e aa=decide (Cj v p.mode=e):=by
    unfold Dx;rw [List.getD_eq_getElem?_getD,ar];rfl
   have bc:∀ q,Dq 279 [.int .i64 v,.int .i64 p.mode] q (fun cz w'=>cz = .int .i64 (Cj v p.mode)/\AD q w'):=fun q=>SW bk.1 bk.2 q;have cj:∀ q,AD w q->Dq 181 [.agg ⟨eH i⟩] q (fun v w'=>∃ a' c',v = .agg ⟨eH ⟨a',i.n,c'⟩⟩/\Ab q.heap.size a'/\An eI 1 q.heap.size 2 w' a' i.n c' aa/\AD q w'):=fun q b'=>Hb ⟨ad.1.ext b',ad.2⟩ om;have bd:=ad.1;have dc:=ad.2;have aq:(xs.take (b+1)).filter (Dx p e)=(xs.take b).filter (Dx p e)++(if Dx p e aa=true then [aa] else []):=by
    rw [List.take_add_one,bl,List.filter_append];by_cases bj:Dx p e aa=true
    .simp [bj]
    .simp [bj]
   by_cases bi:Cj v p.mode=e
   .rw [bh,decide_eq_true bi,if_pos rfl] at aq;refine iY<|jI (ay.ext y) b rfl a1 fun b4 cw ck az=>jA (n:=1) az rfl<|jN (z := .agg #[.slice none 0 0]) fun b5 c0 o ct j au=>jS (vs:=[Value.slice i.a i.n i.c]) au rfl rfl cE fun c1 g aj=>dH (pB [0,2,4,6,8,10,12,14,18,17,21]) fun c2 r=>dL aj.cells (k:=0) rfl<|dL (ai.ext (xb (xt u j) g.but (nB u o))).cells (k:=0) rfl<|dI (bd.ext (xb (xt y j) g.but (nB y o))) (p.col).toNat om ar fun b6 cx cl a0=>dO a0 rfl<|dL (ai.ext (xb (xt u j) g.but (nB u o))).cells (k:=1) rfl<|dM (bc _) fun bn s=>⟨(xt r s),iY<|jA (n:=1) (aj.ext (xt r s)).cells rfl<|(cj _ (xt (xt (xb (xt y j) g.but (nB y o)) r) s)).mono ?_⟩;rintro _ du ⟨a6,a9,rfl,b2,av,ca⟩;refine AB.buildSlice Bz (vs:=[Value.agg ⟨eH ⟨a6,i.n,a9⟩⟩]) rF rF (by simp [Value.cells,eH]) dE ?_;intro b8 bp db dr aw bu;have bv:AK bp b8 0 (eH ⟨a6,i.n,a9⟩):=bu.cells;have a5:AD bo bp:=xt (xt (xt (xt (xb j g.but o) r) s) ca) aw;have c5:=Below.size (xt (xt (xb j g.but o) r) s);exact Cb Bz rfl ah t.size a5 (FR ((av.ext aw).own) av.le.1) (DB (b2.mono c5) (fun x hx=>Nat.lt_of_lt_of_le (av.blk_lt x hx).2 aw.size)) bv om om fun c6 c8 dv bz cu dl=>jP (((b+1:Nat):Int)) ⟨b+1,om,_,_,_,rfl,om,om,by rw [aq];exact bz,xm (xt t a5) cu (AQ (Bm.new ah))⟩
   .rw [bh,decide_eq_false bi,if_neg sI,List.append_nil] at aq;refine iY<|jI (ay.ext y) b rfl a1 fun b4 cw ck az=>jA (n:=1) az rfl<|jN (z := .agg #[.slice none 0 0]) fun b5 c0 o ct j au=>jS (vs:=[Value.slice i.a i.n i.c]) au rfl rfl cE fun c1 g aj=>dH (pB [0,2,4,6,8,10,12,14,18,17,21]) fun c2 r=>dL aj.cells (k:=0) rfl<|dL (ai.ext (xb (xt u j) g.but (nB u o))).cells (k:=0) rfl<|dI (bd.ext (xb (xt y j) g.but (nB y o))) (p.col).toNat om ar fun b6 cx cl a0=>dO a0 rfl<|dL (ai.ext (xb (xt u j) g.but (nB u o))).cells (k:=1) rfl<|dM (bc _) fun bn s=>⟨(xt r s),iN<|jP (((b+1:Nat):Int)) ?_⟩;have a4:AD bo bn:=xt (xt (xb j g.but o) r) s;exact ⟨b+1,om,_,_,_,rfl,om,om,by rw [aq];exact ah.ext a4,xt t a4⟩
  .obtain rfl:b=n:=om
   rw [List.take_of_length_le om] at ah;have cq:=Ol xs p bg;refine iN<|bS EA (vs:=[Value.slice ae ac af]) ?_;intro c7 dt da dn am bq;obtain ⟨cc,ci,ax⟩:=GP ah;have co:=ag.lt;have d0:=t.size;have dz:=ap.size;have dx:=am.size;refine Co EA rfl (ag.ext (xt t am)) cp om (d:=⟨ae,ac,af⟩) (x:=xs.filter (Dx p e)) (f:=cc) ⟨_,ci.ext am⟩ ax.1 (fun b ab cm=>by have:=(ax.2 b ab).1;have:=co b cm;omega) bq.cells om om fun b3 b9 ds cd b0 cv cy b1=>jP (((e+1:Nat):Int)) ?_;exact ⟨e+1,om,b3,b9,cd,rfl,om,by rw [List.take_add_one,cq];exact b0,cv,fun b ab=>by
    rcases cy b ab with ao | ao | ao
    .exact bf b ao
    .have:=(ax.2 b ao).1;omega
    .omega,xm (xt (xt ap t) am) b1 fun b ab=>bf b (ag.blk b ab)⟩
 .obtain rfl:e=13:=om
  rw [List.take_of_length_le om] at ag;exact ⟨_,_,rfl,ag.own.arr,be⟩
theorem N8 (mode:Int) (w:World):Dq 278 [.int .i64 mode] w (fun v w'=>∃ a n c,v = .slice a n c/\A4 eI 1 w' a n (BF mode)/\(∀ x,a=some x->w.heap.size<=x.block/\x.block<w'.heap.size)/\AD w w'):=by
 unfold BF;refine oV Tryz.func278 ?_;conv=>whnf
 by_cases f:mode=2
 .rw [if_pos f];refine iY<|bS B3 (vs:=[Value.int IntKind.i64 12,Value.int IntKind.i64 11,Value.int IntKind.i64 10,Value.int IntKind.i64 0,Value.int IntKind.i64 1]) ?_;intro p r d m k g;have i:=AH (n:=5) (enc:=eI) (xs:=[12,11,10,0,1]) AI g d rfl dE;exact ⟨_,_,_,rfl,i.own.arr AI,fun x b=>by cases b;exact ⟨d,m⟩,k⟩
 .rw [if_neg f];refine iN<|bS B3 (vs:=[Value.int IntKind.i64 12,Value.int IntKind.i64 0,Value.int IntKind.i64 1,Value.int IntKind.i64 2,Value.int IntKind.i64 3,Value.int IntKind.i64 4,Value.int IntKind.i64 5,Value.int IntKind.i64 6,Value.int IntKind.i64 7,Value.int IntKind.i64 8,Value.int IntKind.i64 9]) ?_;intro q s e o l h;have j:=AH (n:=11) (enc:=eI) (xs:=[12,0,1,2,3,4,5,6,7,8,9]) AI h e rfl dE;exact ⟨_,_,_,rfl,j.own.arr AI,fun x b=>by cases b;exact ⟨e,o⟩,l⟩
theorem Sc {Ps:List (List (List Int))} (h:Ac CA w a 13 Ps) (hx:∀ d∈Ps,d.length<=40/\∀ x∈d,x.length<=20) :
  Dq 217 [.slice a 13 c,.int .i64 mode] w (fun v w'=>∃ a' m c',v = .slice a' m c'/\m<=c'/\Ac AZ w' a' m ((BF mode).flatMap fun k=>Ps.getD k.toNat [])/\AD w w'):=by
 have b2:=h.len;obtain ⟨bd,ak,a1⟩:=h;have b0:=ak.len;have bx:=RI mode;have a9:=RJ mode;have a4:∀ e,Dq 278 [.int .i64 mode] e (fun v w'=>∃ a ao c,v = .slice a ao c/\A4 eI 1 w' a ao (BF mode)/\(∀ x,a=some x->e.heap.size<=x.block/\x.block<w'.heap.size)/\AD e w'):=fun e=>N8 mode e;refine oV Tryz.func217 ?_;refine bS Bz (vs:=[]) ?_;intro ah ap aj bg ai au;have aw:CH Aw w.heap.size 144 ap (some ⟨ah,0,none⟩) 0 0 [] [ah]:=E1 au aj;refine (a4 _).mono ?_;rintro _ aq ⟨ag,no,ay,rfl,ad,ax,z⟩;have b3:=ad.len;refine lR [0,5,10,11,12] (fun (k:Nat) bk w'=>∃ u q y s,bk=[.slice a 13 c,.slice u q y,.slice ag no ay,.int .i64 no,.int .i64 k]/\k<=no/\q<=40 * k/\CH Aw w.heap.size 144 w' u q y (((BF mode).take k).flatMap fun k=>Ps.getD k.toNat []) s/\s.Nodup/\(∀ b∈s,w.heap.size<=b/\(b<ap.heap.size\/aq.heap.size<=b))/\AD w w'/\aq.heap.size<=w'.heap.size/\A4 eI 1 w' ag no (BF mode)) (fun k=>no - k) 0 ⟨_,_,_,_,rfl,om,om,by simpa using aw.ext z,sI,by simpa using ⟨aj,.inl bg⟩,xt ai z,Nat.le_refl _,ad⟩ ?_;have cd:=ai.size;have ce:=z.size;rintro k bq _ ca ⟨u,q,y,s,rfl,bz,b1,f,bc,ab,o,bu,ae⟩;rcases Nat.lt_or_ge k no with ba | ba
 .obtain ⟨v,ac⟩:=AA (l:=BF mode) (k:=k) om;have b4:=a9 v (List.mem_of_getElem? ac);obtain ⟨g,am⟩:=AA (l:=bd) (k:=v.toNat) om;obtain ⟨ar,an,af⟩:=a1.get am;have b5:=af.1.len;have bf:=hx ar (List.mem_of_getElem? an);have al:=TT (Ps:=Ps) ac;rw [List.getD_eq_getElem?_getD (l:=Ps) (i:=v.toNat),an,Option.getD_some] at al;have a3:∀ e,AD w e->Dq 112 [.slice g.a g.n g.c] e (fun v w'=>∃ a' c',v = .slice a' g.n c'/\g.n<=c'/\Bm Aw e.heap.size 144 w' a' g.n c' ar/\Ab e.heap.size a'/\AD e w'):=fun e az=>FZ (af.1.ext az) om (fun x be=>by have:=bf.2 x be;omega);refine iY<|jI ae k rfl ac fun bn b6 bv a6=>jO a6 rfl<|jI (ak.ext o) v.toNat om am fun bo b7 bw a7=>jO a7 rfl<|(a3 _ o).mono ?_;rintro _ b9 ⟨bm,bp,rfl,b8,bi,bl,r⟩;obtain ⟨br,a2,aa⟩:=GP bi;have bb:=f.lt;have cb:=r.size;have cf:=o.size;refine Jt Bz rfl (f.ext r) bc om a2 aa.1 (fun b p a8=>by have:=(aa.2 b p).1;have:=bb b a8;omega) om om ?_;intro a' c' b' a0 av bh bj t;have cc:=t.size;refine jP (((k+1:Nat):Int)) ?_;exact ⟨k+1,om,a',q+g.n,c',a0,rfl,om,om,by rw [al];exact av,bh,fun b p=>by
   rcases bj b p with j | j | j
   .exact ab b j
   .have:=(aa.2 b j).1;omega
   .omega,xm (xt o r) t (fun b p=>(ab b (f.blk b p)).1),om,(ae.ext r).mod t fun x hx a5=>by
   have j:=ax x hx;have bt:=(ab _ (f.blk _ a5)).2;omega⟩
 .obtain rfl:k=no:=om
  rw [List.take_of_length_le om] at f;exact iN ⟨_,_,_,rfl,f.le.1,f.own.arr,o⟩
theorem Qw {b:Option Addr} {m d:Nat} (h:Ac AZ w a n xs) (hn2:n<=40) {l:List Ak} (hl:A4 Ak.enc 2 w b m l) (hm2:m<=40) (hx:∀ x∈xs,x.length<=20/\(∀ m∈x,0<=m/\m<=4095)/\∀ p∈l,0<=p.col/\p.col<x.length) :
  Dq 144 [.slice a n c,.slice b m d] w (fun v w'=>∃ a' m' c',v = .slice a' m' c'/\Ac AZ w' a' m' (Ci xs l)/\AD w w'):=by
 have bk:=h.len;have bj:=hl.len;have au:∀ e,AD w e->Dq 112 [.slice a n c] e (fun v w'=>∃ a' c',v = .slice a' n c'/\n<=c'/\Bm Aw e.heap.size 144 w' a' n c' xs/\Ab e.heap.size a'/\AD e w'):=fun e u=>FZ (h.ext u) om (fun x i=>by have:=(hx x i).1;omega);refine oV Tryz.func144 ?_;refine (au _ (AD.refl _)).mono ?_;rintro _ a4 ⟨an,bd,rfl,ay,am,a6,ao⟩;have ap:Ac AZ a4 an n xs:=am.ownN.arr;refine lR [5,10,11,12] (fun (f:Nat) a3 w'=>∃ o j q,a3=[.slice o j q,.slice b m d,.int .i64 m,.int .i64 f]/\f<=m/\j<=q/\Ac AZ w' o j (Ci xs (l.take f))/\AD w w') (fun f=>m - f) 0 ⟨_,_,_,rfl,om,ay,by simpa [Ci] using ap,ao⟩ ?_;rintro f be _ a5 ⟨o,j,q,rfl,bg,bi,s,t⟩;rcases Nat.lt_or_ge f m with az | az
 .obtain ⟨p,aa⟩:=AA (l:=l) (k:=f) om;have a0:=List.mem_of_getElem? aa;have a1:=Vh (d:=xs) aa;have bl:=US (l.take f) xs;have bh:=s.len;generalize aq:Ci xs (l.take f)=g at *;have ag:∀ x∈g,x.length<=20/\(∀ m∈x,0<=m/\m<=4095)/\0<=p.col/\p.col<x.length:=fun x i=>by
   rw [<- aq] at i;have:=hx x (UR _ _ i);exact ⟨this.1,this.2.1,this.2.2 p a0⟩
  have aw:∀ e,AD a5 e->Dq 218 [.slice o j q,.agg ⟨p.enc⟩] e (fun v w'=>∃ a' c',v = .slice a' 13 c'/\Ac CA w' a' 13 (Cr g p)/\AD e w'):=fun e u=>SU (s.ext u) om ag;have av:∀ d∈Cr g p,d.length<=40/\∀ x∈d,x.length<=20:=fun d ah=>by
   unfold Cr at ah;obtain ⟨a2,_,rfl⟩:=List.mem_map.1 ah;exact ⟨by have:=List.length_filter_le (Dx p a2) g;omega,fun x i=>(ag x (List.mem_filter.1 i).1).1⟩
  have ar:∀ e a' c',Ac CA e a' 13 (Cr g p)->Dq 217 [.slice a' 13 c',.int .i64 p.mode] e (fun v w'=>∃ a' m c',v = .slice a' m c'/\m<=c'/\Ac AZ w' a' m (HC g p)/\AD e w'):=fun e a' c' ai=>Sc ai av;refine iY<|jI (hl.ext t) f rfl aa fun a9 bo bf ax=>jA (n:=2) ax rfl<|jN (z := .agg #[.int .i64 0,.int .i64 0]) fun ba bt af bm ae al=>jS al (vs:=p.enc) rfl rfl (by simp [Ak.enc,AM]) fun bu ac ab=>dH (pB [0,2,6,8,5,11,13]) fun bv r=>dA (n:=2) ab.cells rfl<|dL ab.cells (k:=1) rfl<|(aw _ (xt (xb ae ac.but af) r)).mono ?_;rintro _ bq ⟨a8,bb,rfl,aj,y⟩;refine ⟨(xt r y),(ar _ _ _ aj).mono ?_⟩;rintro _ br ⟨a7,bn,bc,rfl,bp,ak,ad⟩;refine ⟨(xt (xt r y) ad),jP (((f+1:Nat):Int)) ⟨f+1,om,_,_,_,rfl,om,om,?_,(xt (xt (xt (xb (xt t ae) ac.but (nB t af)) r) y) ad)⟩⟩
  .rw [a1];exact ak
 .obtain rfl:f=m:=om
  rw [List.take_of_length_le om] at s;exact iN ⟨_,_,_,rfl,s,t⟩
end Go.Proofs.YtalgenmoljcnmaaGreatDoor
