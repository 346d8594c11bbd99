/- Parts of the proof; no conditions of its own. -/
import Derived.Test.YtalgenmoljcnmaaGreatDoorSteps
import Derived.Test.YtalgenmoljcnmaaGreatDoorOffice
import Derived.Test.YtalgenmoljcnmaaGreatDoorNum
import Derived.Test.YtalgenmoljcnmaaGreatDoorLibSl
import Derived.Test.YtalgenmoljcnmaaGreatDoorVcApp
namespace Go.M
open Go Go.Vc
variable {w:World} {n:Nat}
theorem F9 {α:Type} {E:Ow α} {lo t:Nat} {a:Option Addr} {c:Nat} {xs:List α} (h:BZ E lo t w a n c xs):∃ fp,Bx E lo t w a n c xs fp/\Kj lo w.heap.size fp:=by
 obtain ⟨g,b,d,e,f⟩:=h;exact ⟨_,⟨g,b,d,e,rfl⟩,f⟩
theorem Kf {b:Nat} {ds:List Hd} (C:AK w b 0 (BD eH ds)) (hn:ds.length=n) (hm:n<=1000):A4 eH 1 w (some ⟨b,0,none⟩) n ds:=by
 refine ⟨hn,by unfold maxLen;omega,fun a f j=>⟨b,0,rfl,?_⟩⟩;have d:=AK.drop C a;have g:(BD eH ds).drop a=eH f++(BD eH ds).drop (a+1):=by
  have h:ds.drop a=f :: ds.drop (a+1):=Nf j;have e:∀ c,(BD eH ds).drop c=BD eH (ds.drop c):=fun c=>by
   have:=Ka Es ds c;rwa [Nat.mul_one] at this
  rw [e,e,h];simp [BD]
 rw [g] at d;have i:=AK.take d 1;simpa [eH] using i
end Go.M
namespace Go.Proofs.YtalgenmoljcnmaaGreatDoor
open Go Go.RowKit Go.Vc Go.M
variable {w:World} {a b:Option Addr} {n c m d:Nat} {X:List (List (List Int))}
def GQ (w:World) (lo hi:Nat) (a:Option Addr) (n c:Nat) (b:Option Addr) (m d:Nat) (X:List (List (List Int))) (Y:List (List A9)):Prop :=
 ∃ fp gp,Bx (OG A0 144) lo 78 w a n c X fp/\Bx G4 lo 161 w b m d Y gp/\Kj lo hi (fp++gp)
theorem J7 {Y:List (List A9)} (h:Ar DM w a n X) (h2:Ar LG w b m Y) (hn2:n<=1000) (hm2:m<=1000) (hX:∀ x∈X,x.length<=1000/\∀ y∈x,y.length<=1000) (hY:∀ y∈Y,y.length<=1048576) :
  Dq 84 [.agg #[.slice a n c,.slice b m d]] w (fun v w'=>∃ a' c' b' d',v = .agg #[.slice a' n c',.slice b' m d']/\GQ w' w.heap.size w'.heap.size a' n c' b' m d' X Y/\AD w w'):=by
 have eb:=h.len;have ea:=h2.len;obtain ⟨dg,b5,c4⟩:=h;obtain ⟨c3,b6,c5⟩:=h2;have d8:=b5.len;have d9:=b6.len;refine oV Tryz.func84 ?_;refine AB.box ?_;intro bh es dz ee bj bu;refine jN (z := .agg #[.slice none 0 0,.slice none 0 0]) ?_;intro a3 eu d1 eh al cj;refine bS Dm (vs:=[]) ?_;intro t ey d2 ei ac cn;refine bS K1 (vs:=[]) fun q ez d3 ej u cp=>AB.build Ko rfl<|jN (z := .agg #[.slice none 0 0,.slice none 0 0]) fun j e0 c2 ek ad cr=>AW (vs:=[Value.slice (some { block:=t,off:=0 }) 0 0,Value.slice (some { block:=q,off:=0 }) 0 0]) kR cr rfl rfl (by simp [AE]) fun a1 ab cs=>jL (bu.ext (xb (xt (xt (xt al ac) u) ad) ab.but (nB (xt (xt al ac) u) c2))).cells (k:=0) rfl ?_;have cv:=xt (xt (xt (xt bj al) ac) u) ad;have cw:AD w a1:=xb cv ab.but (by have:=Below.size (xt (xt (xt bj al) ac) u);omega);have e4:=bj.size;have e8:=al.size;have e9:=ac.size;have fa:=u.size;have fb:=ad.size;have fc:=ab.but.size;have cx:Bx (OG A0 144) w.heap.size 78 a1 (some ⟨t,0,none⟩) 0 0 [] [t]:=Eu ((cn.ext (xt u ad)).mod ab.but (fun h=>by have h:t=j:=h;omega)) om;have de:∀ e,e=t\/e=j->w.heap.size<=e:=fun e g=>om
 refine lR [1,2,3,12,13,14] (fun (i:Nat) bt w'=>∃ aj av am,bt=[.pointer (some ⟨bh,0,none⟩),.pointer (some ⟨a3,0,none⟩),.pointer (some ⟨j,0,none⟩),.slice a n c,.int .i64 n,.int .i64 i]/\i<=n/\Bx (OG A0 144) w.heap.size 78 w' aj i av (X.take i) am/\am.Nodup/\(∀ e∈am,e=t\/a1.heap.size<=e)/\CD w' j [.slice aj i av,.slice (some ⟨q,0,none⟩) 0 0] 34/\BY (fun e=>e=t\/e=j) a1 w') (fun i=>n - i) 0 ⟨_,_,_,rfl,om,by simpa using cx,sI,sI,cs,Vc.BY.refl _ _⟩ ?_;rintro i c0 _ s ⟨aj,av,am,rfl,d7,af,b9,ao,ae,an⟩;have bd:AD w s:=xm cw an de;have fd:=an.size;rcases Nat.lt_or_ge i n with dd | dd
 .obtain ⟨p,ah⟩:=AA (l:=dg) (k:=i) om;obtain ⟨x,a0,ar⟩:=c4.get ah;obtain ⟨dh,di⟩:=hX x (List.mem_of_getElem? a0);have df:=ar.1.len;have c7:∀ aq,AD w aq->Dq 112 [.slice p.a p.n p.c] aq (fun v w'=>∃ a' c',v = .slice a' p.n c'/\p.n<=c'/\BZ A0 aq.heap.size 144 w' a' p.n c' x/\Ad aq.heap.size a'/\AD aq w'):=fun aq b2=>FR (ar.1.ext b2) om di;refine iY<|jI (b5.ext bd) i rfl ah fun dt el d4 c8=>jO c8 rfl<|Av A8 mixed (pZ [0,10,6,17,22,28,30,38]) kR kR fun eq aw=>dL ae.cells (k:=0) rfl<|(c7 _ (xt bd aw)).mono ?_;rintro _ er ⟨bw,bx,rfl,en,dl,ds,a6⟩;refine ⟨(xt aw a6),bS Dm (vs:=[Value.slice bw p.n bx]) fun du dm dy ed a7 cg=>⟨(xt (xt aw a6) a7),?_⟩⟩;obtain ⟨cz,c6,bl⟩:=F9 dl;have ba:AD s dm:=xt (xt aw a6) a7;have e1:=aw.size;have e2:=a6.size;have e3:=a7.size;have bp:=af.lt;refine CY Dm rfl (af.ext ba) b9 om (d:=⟨bw,p.n,bx⟩) (x:=x) (f:=cz) ⟨_,c6.ext a7⟩ bl.1 (fun e g bn=>by have:=(bl.2 e g).1;have:=bp e bn;omega) cg.cells om om ?_;intro bg bi eo b3 bf bq br aa;have bm:∀ e,AN aj e->e≠j:=fun e g=>by have:=ao e (af.blk e g);omega
  have bk:=(ae.ext ba).mod aa (fun h=>bm j h rfl);have dr:=aa.size;refine jT bk (k:=0) sI rfl fun ep bz cf=>jP (((i+1:Nat):Int)) ?_;have az:∀ e∈b3,e=t\/a1.heap.size<=e:=fun e g=>by
   rcases br e g with r | r | r
   .exact ao e r
   .have:=(bl.2 e r).1;omega
   .omega
  refine ⟨i+1,om,bg,bi,b3,rfl,om,?_,bq,az,cf,?_⟩
  .rw [List.take_add_one,a0];exact bf.keep fun e g=>bz.block e (by have:=az e g;omega)
  .exact Cv (Cv (an.trans ba.mod) aa (fun e g=>(ao e (af.blk e g)).imp .inl id)) bz.but (fun e g=>.inl (.inr g))
 .obtain rfl:i=n:=om
  rw [List.take_of_length_le om] at af;refine iN ?_;have ct:AK s bh 0 [.slice a i c,.slice b m d]:=(((bu.ext (xt (xt (xt al ac) u) ad)).mod ab.but (fun h=>by have h:bh=j:=h;omega)).mod an (fun h=>by omega)).cells;have ck:CD s a3 [.slice none 0 0,.slice none 0 0] 34:=((cj.ext (xt (xt ac u) ad)).mod ab.but (fun h=>by have h:a3=j:=h;omega)).mod an (fun h=>by omega);have cq:CD s q [] 161:=((cp.ext ad).mod ab.but (fun h=>by have h:q=j:=h;omega)).mod an (fun h=>by omega);have cy:Bx G4 w.heap.size 161 s (some ⟨q,0,none⟩) 0 0 [] [q]:=Eu cq om;refine jL ct (k:=1) rfl<|lR [2,3,27,28,29] (fun (o:Nat) bt w'=>∃ au a5 ax,bt=[.pointer (some ⟨a3,0,none⟩),.pointer (some ⟨j,0,none⟩),.slice b m d,.int .i64 m,.int .i64 o]/\o<=m/\Bx G4 w.heap.size 161 w' au o a5 (Y.take o) ax/\ax.Nodup/\(∀ e∈ax,e=q\/s.heap.size<=e)/\CD w' j [.slice aj i av,.slice au o a5] 34/\BY (fun e=>e=q\/e=j) s w') (fun o=>m - o) 0 ⟨_,_,_,rfl,om,by simpa using cy,sI,sI,ae,Vc.BY.refl _ _⟩ ?_;rintro o c0 _ cd ⟨au,a5,ax,rfl,d6,ag,ca,ap,ae,ay⟩;have bb:AD w cd:=xm bd ay (fun e g=>by omega);have fe:=ay.size;rcases Nat.lt_or_ge o m with dc | dc
  .obtain ⟨p,ah⟩:=AA (l:=c3) (k:=o) om;obtain ⟨x,a0,ar⟩:=c5.get ah;have dh:=hY x (List.mem_of_getElem? a0);have df:=ar.1.len;refine iY<|jI (b6.ext bb) o rfl ah fun dv em d5 c9=>jO c9 rfl<|Gj [6,8] A8 mixed (pZ [0,15,6,12,22,27,33,35,43]) kR kR fun ce ak=>dL ae.cells (k:=1) rfl<|bS IQ (vs:=[]) ?_;intro dw et c1 ef a8 ch;have bv:=Ab (enc:=A9.enc) Bu ch c1;refine ⟨(xt ak a8),Dw (enc:=A9.enc) IQ Bu bv (ar.1.ext (xt (xt bb ak) a8)) (by intro y _;simp [A9.enc,AE]) om om (Below.size a8) ?_⟩;intro ai b0 dn be dk ec;have a2:AD ce dn:=xm a8 dk (AO bv.new);refine ⟨xt ak a2,bS K1 (vs:=[Value.slice ai p.n b0]) fun dx dp d0 eg a9 ci=>⟨xt (xt ak a2) a9,?_⟩⟩;have bc:AD cd dp:=xt (xt ak a2) a9;have e5:=ak.size;have e6:=a2.size;have e7:=a9.size;have bp:=ag.lt;have b7:∀ e∈BU ai,ce.heap.size<=e:=fun e g=>by
    obtain ⟨y,dj,rfl⟩:=A2.1 g;exact be.new y dj
   have da:(BU ai).Nodup:=by cases ai<;>simp [BU]
   refine CY K1 rfl (ag.ext bc) ca om (d:=⟨ai,p.n,b0⟩) (x:=x) (f:=BU ai) (Fg (be.ext a9).own be.le.1) da (fun e g bn=>by have:=b7 e g;have:=bp e bn;omega) ci.cells om om ?_;intro bg bi ew b4 bf bq br aa;have bm:∀ e,AN au e->e≠j:=fun e g=>by have:=ap e (ag.blk e g);omega
   have bk:=(ae.ext bc).mod aa (fun h=>bm j h rfl);have dr:=aa.size;refine jT bk (k:=1) sI rfl fun ex b1 cm=>jP (((o+1:Nat):Int)) ?_;have az:∀ e∈b4,e=q\/s.heap.size<=e:=fun e g=>by
    rcases br e g with r | r | r
    .exact ap e r
    .have:=b7 e r;omega
    .omega
   refine ⟨o+1,om,bg,bi,b4,rfl,om,?_,bq,az,cm,?_⟩
   .rw [List.take_add_one,a0];exact bf.keep fun e g=>b1.block e (by have:=az e g;omega)
   .exact Cv (Cv (ay.trans bc.mod) aa (fun e g=>(ap e (ag.blk e g)).imp .inl id)) b1.but (fun e g=>.inl (.inr g))
  .obtain rfl:o=m:=om
   rw [List.take_of_length_le om] at ag;have b8:∀ e∈am,e≠q/\e≠j:=fun e g=>by have:=ao e g;omega
   refine iN<|jA (n:=2) ae.cells rfl ?_;have cl:=ck.mod ay (fun h=>by omega);refine jS (vs:=[Value.slice aj i av,Value.slice au o a5]) cl rfl rfl (by simp [AE]) fun dq a4 co=>AP (jR (n:=2) rfl co.cells) ?_;have cu:AD w dq:=xb bb a4.but om;have e':=a4.but.size;have bo:=af.lt;have db:=ag.lt;refine ⟨_,_,_,_,rfl,⟨am,ax,(af.keep fun e g=>ay.block e (fun h=>by have:=b8 e g;omega) (bo e g)).keep fun e g=>a4.block e (by have:=ao e g;omega),ag.keep fun e g=>a4.block e (by have:=ap e g;omega),List.nodup_append.2 ⟨b9,ca,fun cc cb p ah b2=>?_⟩,fun e g=>?_⟩,cu⟩
   .have:=b8 cc cb;have:=bo cc cb;have:=ap p ah;omega
   .rcases List.mem_append.1 g with g | g
    .have:=ao e g;have:=bo e g;omega
    .have:=ap e g;have:=db e g;omega
theorem VM (h:Ar DM w a n X) {x:EB} (hx:x.ok) (ha:0<=x.a/\x.a<n) (hb:0<=x.b/\x.b<n) (hk:1<=x.kind/\x.kind<=6) :
  Dq 288 [.agg #[.slice a n c,.slice b m d],.agg ⟨x.enc⟩] w (fun v w'=>∃ a' m' c',v = .tuple #[.slice a' m' c',.int .i64 (BX (X.getD x.a.toNat []) (X.getD x.b.toNat []) x).2] /\
   ((BX (X.getD x.a.toNat []) (X.getD x.b.toNat []) x).2=0->m'<=c'/\D2 A0 w' w.heap.size w'.heap.size a' m' 144 (BX (X.getD x.a.toNat []) (X.getD x.b.toNat []) x).1)/\AD w w'):=by
 have b1:=h.len;obtain ⟨bj,u,bi⟩:=h;have b0:=u.len;obtain ⟨s,af⟩:=AA (l:=bj) (k:=x.a.toNat) om;obtain ⟨o,bu,RA⟩:=bi.get af;obtain ⟨an,ag⟩:=AA (l:=bj) (k:=x.b.toNat) om;obtain ⟨q,bv,a5⟩:=bi.get ag;rw [Ae bu,Ae bv];obtain ⟨_,_,_,_,a7,_,bx⟩:=hx;have bp:∀ j,AD w j->Dq 322 [.slice s.a s.n s.c,.agg ⟨x.field.enc⟩] j (fun v w'=>∃ a' m c',v = .tuple #[.slice a' m c',.int .i64 (Fy o x.field).2]/\((Fy o x.field).2=0->m<=c'/\D2 A0 w' j.heap.size w'.heap.size a' m 144 (Fy o x.field).1)/\AD j w'):=fun j aa=>Rc (RA.1.ext aa) x.field;have bq:∀ j,AD w j->Dq 323 [.slice s.a s.n s.c,.slice an.a an.n an.c,.agg ⟨x.field.enc⟩] j (fun v w'=>∃ a' m c',v = .tuple #[.slice a' m c',.int .i64 (CE o q x.field).2]/\((CE o q x.field).2=0->m<=c'/\D2 A0 w' j.heap.size w'.heap.size a' m 144 (CE o q x.field).1)/\AD j w'):=fun j aa=>Ok (RA.1.ext aa) (a5.1.ext aa) a7 RA.2 a5.2;have br:∀ j,AD w j->Dq 324 [.slice s.a s.n s.c,.agg ⟨x.field.enc⟩,.string x.text] j (fun v w'=>∃ a' m c',v = .tuple #[.slice a' m c',.int .i64 (Cp o x.field x.text).2]/\((Cp o x.field x.text).2=0->m<=c'/\D2 A0 w' j.heap.size w'.heap.size a' m 144 (Cp o x.field x.text).1)/\AD j w'):=fun j aa=>NX (RA.1.ext aa) a7 bx RA.2;have bt:∀ j,AD w j->Dq 325 [.slice s.a s.n s.c,.agg ⟨x.field.enc⟩] j (fun v w'=>∃ a' m c',v = .tuple #[.slice a' m c',.int .i64 (EH o x.field).2]/\((EH o x.field).2=0->m<=c'/\D2 A0 w' j.heap.size w'.heap.size a' m 144 (EH o x.field).1)/\AD j w'):=fun j aa=>Lf (RA.1.ext aa) a7 RA.2;have a6:∀ j,AD w j->Dq 326 [.slice s.a s.n s.c,.slice an.a an.n an.c,.agg ⟨x.field.enc⟩] j (fun v w'=>∃ a' m c',v = .tuple #[.slice a' m c',.int .i64 (CS o q x.field)]/\(CS o q x.field=0->∃ b ad bb ae bc,a'=some ⟨b,0,none⟩/\m=4/\c'=4/\AK w' b 0 (BD eH [ad,bb,ae,bc])/\ad.n<=ad.c/\ae.n<=ae.c/\D2 A0 w' j.heap.size w'.heap.size ad.a ad.n 144 (Ca o q x.field true)/\D2 A0 w' j.heap.size w'.heap.size ae.a ae.n 144 (Ca o q x.field false))/\AD j w'):=fun j aa=>Ol (RA.1.ext aa) (a5.1.ext aa) a7 RA.2 a5.2;by_cases au:x.kind=1
 .have ac:BX o q x=Fy o x.field:=by unfold BX;rw [if_pos au]
  rw [ac];refine oV Tryz.func288 ?_;refine AB.box ?_;intro ai a0 ao av g p;refine AB.box fun aj a1 ap aw e i=>Bl A8 mixed kR kR ?_;refine dL (p.ext e).cells (k:=0) rfl<|dL i.cells (k:=1) rfl ?_;refine dI (u.ext (xt g e)) x.a.toNat om af fun ak ay aq y=>dO y rfl<|dL (p.ext e).cells (k:=0) rfl<|dL i.cells (k:=2) rfl ?_;refine dI (u.ext (xt g e)) x.b.toNat om ag fun al az ar z=>dO z rfl fun a2 f=>jL (i.ext f).cells (k:=0) rfl ?_;refine iY<|jG (n:=2) (k:=4) (i.ext f).cells rfl<|(bp _ (xt (xt g e) f)).mono ?_;rintro _ a3 ⟨ah,ax,am,rfl,r,t⟩;refine ⟨_,_,_,rfl,?_,(xt (xt (xt g e) f) t)⟩
  .exact fun ab=>⟨(r ab).1,(r ab).2.wide (Below.size (xt (xt g e) f)) (Nat.le_refl _)⟩
 by_cases a4:x.kind=2
 .have ac:BX o q x=CE o q x.field:=by unfold BX;rw [if_neg au,if_pos a4]
  rw [ac];refine oV Tryz.func288 ?_;refine AB.box ?_;intro ai a0 ao av g p;refine AB.box fun aj a1 ap aw e i=>Bl A8 mixed kR kR ?_;refine dL (p.ext e).cells (k:=0) rfl<|dL i.cells (k:=1) rfl ?_;refine dI (u.ext (xt g e)) x.a.toNat om af fun ak ay aq y=>dO y rfl<|dL (p.ext e).cells (k:=0) rfl<|dL i.cells (k:=2) rfl ?_;refine dI (u.ext (xt g e)) x.b.toNat om ag fun al az ar z=>dO z rfl fun a2 f=>jL (i.ext f).cells (k:=0) rfl<|iN ?_;refine iY<|jG (n:=2) (k:=4) (i.ext f).cells rfl<|(bq _ (xt (xt g e) f)).mono ?_;rintro _ a3 ⟨ah,ax,am,rfl,r,t⟩;refine ⟨_,_,_,rfl,?_,(xt (xt (xt g e) f) t)⟩
  .exact fun ab=>⟨(r ab).1,(r ab).2.wide (Below.size (xt (xt g e) f)) (Nat.le_refl _)⟩
 by_cases a8:x.kind=5
 .have ac:BX o q x=Cp o x.field x.text:=by unfold BX;rw [if_neg au,if_neg a4,if_pos a8]
  rw [ac];refine oV Tryz.func288 ?_;refine AB.box ?_;intro ai a0 ao av g p;refine AB.box fun aj a1 ap aw e i=>Bl A8 mixed kR kR ?_;refine dL (p.ext e).cells (k:=0) rfl<|dL i.cells (k:=1) rfl ?_;refine dI (u.ext (xt g e)) x.a.toNat om af fun ak ay aq y=>dO y rfl<|dL (p.ext e).cells (k:=0) rfl<|dL i.cells (k:=2) rfl ?_;refine dI (u.ext (xt g e)) x.b.toNat om ag fun al az ar z=>dO z rfl fun a2 f=>jL (i.ext f).cells (k:=0) rfl<|iN<|iN ?_;refine iY<|jG (n:=2) (k:=4) (i.ext f).cells rfl<|jL (i.ext f).cells (k:=8) rfl<|(br _ (xt (xt g e) f)).mono ?_;rintro _ a3 ⟨ah,ax,am,rfl,r,t⟩;refine ⟨_,_,_,rfl,?_,(xt (xt (xt g e) f) t)⟩
  .exact fun ab=>⟨(r ab).1,(r ab).2.wide (Below.size (xt (xt g e) f)) (Nat.le_refl _)⟩
 by_cases bf:x.kind=6
 .have ac:BX o q x=EH o x.field:=by unfold BX;rw [if_neg au,if_neg a4,if_neg a8,if_pos bf]
  rw [ac];refine oV Tryz.func288 ?_;refine AB.box ?_;intro ai a0 ao av g p;refine AB.box fun aj a1 ap aw e i=>Bl A8 mixed kR kR ?_;refine dL (p.ext e).cells (k:=0) rfl<|dL i.cells (k:=1) rfl ?_;refine dI (u.ext (xt g e)) x.a.toNat om af fun ak ay aq y=>dO y rfl<|dL (p.ext e).cells (k:=0) rfl<|dL i.cells (k:=2) rfl ?_;refine dI (u.ext (xt g e)) x.b.toNat om ag fun al az ar z=>dO z rfl fun a2 f=>jL (i.ext f).cells (k:=0) rfl<|iN<|iN<|iN ?_;refine iY<|jG (n:=2) (k:=4) (i.ext f).cells rfl<|(bt _ (xt (xt g e) f)).mono ?_;rintro _ a3 ⟨ah,ax,am,rfl,r,t⟩;refine ⟨_,_,_,rfl,?_,(xt (xt (xt g e) f) t)⟩
  .exact fun ab=>⟨(r ab).1,(r ab).2.wide (Below.size (xt (xt g e) f)) (Nat.le_refl _)⟩
 by_cases be:CS o q x.field=0
 .have ac:BX o q x=(Ca o q x.field (decide (x.kind=3)),0):=by unfold BX;rw [if_neg au,if_neg a4,if_neg a8,if_neg bf,if_neg (by simp [be])]
  rw [ac];rw [be] at a6;by_cases bk:x.kind=3
  .rw [decide_eq_true bk];refine oV Tryz.func288 ?_;refine AB.box ?_;intro ai a0 ao av g p;refine AB.box fun aj a1 ap aw e i=>Bl A8 mixed kR kR ?_;refine dL (p.ext e).cells (k:=0) rfl<|dL i.cells (k:=1) rfl ?_;refine dI (u.ext (xt g e)) x.a.toNat om af fun ak ay aq y=>dO y rfl<|dL (p.ext e).cells (k:=0) rfl<|dL i.cells (k:=2) rfl ?_;refine dI (u.ext (xt g e)) x.b.toNat om ag fun al az ar z=>dO z rfl fun a2 f=>jL (i.ext f).cells (k:=0) rfl<|iN<|iN<|iN<|iN<|jG (n:=2) (k:=4) (i.ext f).cells rfl<|(a6 _ (xt (xt g e) f)).mono ?_;rintro _ a3 ⟨ah,ax,am,rfl,r,t⟩;refine jL (i.ext (xt f t)).cells (k:=0) rfl<|iY ?_;obtain ⟨bo,ad,bb,ae,bc,rfl,rfl,rfl,ba,bl,bm,bg,bh⟩:=r rfl;have a9:=Kf (n:=4) ba rfl om;exact jI a9 0 rfl (x:=ad) rfl fun bn bz bw bd=>jO bd rfl ⟨_,_,_,rfl,fun _=>⟨bl,bg.wide (Below.size (xt (xt g e) f)) (Nat.le_refl _)⟩,xt (xt (xt g e) f) t⟩
  .rw [decide_eq_false bk];refine oV Tryz.func288 ?_;refine AB.box ?_;intro ai a0 ao av g p;refine AB.box fun aj a1 ap aw e i=>Bl A8 mixed kR kR ?_;refine dL (p.ext e).cells (k:=0) rfl<|dL i.cells (k:=1) rfl ?_;refine dI (u.ext (xt g e)) x.a.toNat om af fun ak ay aq y=>dO y rfl<|dL (p.ext e).cells (k:=0) rfl<|dL i.cells (k:=2) rfl ?_;refine dI (u.ext (xt g e)) x.b.toNat om ag fun al az ar z=>dO z rfl fun a2 f=>jL (i.ext f).cells (k:=0) rfl<|iN<|iN<|iN<|iN<|jG (n:=2) (k:=4) (i.ext f).cells rfl<|(a6 _ (xt (xt g e) f)).mono ?_;rintro _ a3 ⟨ah,ax,am,rfl,r,t⟩;refine jL (i.ext (xt f t)).cells (k:=0) rfl<|iN ?_;obtain ⟨bo,ad,bb,ae,bc,rfl,rfl,rfl,ba,bl,bm,bg,bh⟩:=r rfl;have a9:=Kf (n:=4) ba rfl om;exact jI a9 2 rfl (x:=ae) rfl fun bn bz bw bd=>jO bd rfl ⟨_,_,_,rfl,fun _=>⟨bm,bh.wide (Below.size (xt (xt g e) f)) (Nat.le_refl _)⟩,xt (xt (xt g e) f) t⟩
 .have ac:BX o q x=([],CS o q x.field):=by unfold BX;rw [if_neg au,if_neg a4,if_neg a8,if_neg bf,if_pos be]
  rw [ac];refine oV Tryz.func288 ?_;refine AB.box ?_;intro ai a0 ao av g p;refine AB.box fun aj a1 ap aw e i=>Bl A8 mixed kR kR ?_;refine dL (p.ext e).cells (k:=0) rfl<|dL i.cells (k:=1) rfl ?_;refine dI (u.ext (xt g e)) x.a.toNat om af fun ak ay aq y=>dO y rfl<|dL (p.ext e).cells (k:=0) rfl<|dL i.cells (k:=2) rfl ?_;refine dI (u.ext (xt g e)) x.b.toNat om ag fun al az ar z=>dO z rfl fun a2 f=>jL (i.ext f).cells (k:=0) rfl<|iN<|iN<|iN<|iN<|jG (n:=2) (k:=4) (i.ext f).cells rfl<|(a6 _ (xt (xt g e) f)).mono ?_;rintro _ a3 ⟨ah,ax,am,rfl,r,t⟩;exact iT ⟨_,_,_,rfl,om,(xt (xt (xt g e) f) t)⟩
end Go.Proofs.YtalgenmoljcnmaaGreatDoor
namespace Go.M
open Go Go.Vc
end Go.M
namespace Go.Proofs.YtalgenmoljcnmaaGreatDoor
open Go Go.RowKit Go.Vc Go.M
variable {w:World} {a a':Option Addr} {n n' c c':Nat} {xs ys:List Int}
theorem TQ (h:A4 eI 1 w a n xs) (h':A4 eI 1 w a' n' ys) :
  Dq 293 [.slice a n c,.slice a' n' c'] w (fun v w'=>v = .bool (decide (xs=ys))/\AD w w'):=by
 have z:=h.len;have aa:=h'.len;have y:=h.le;refine oV Tryz.func293 ?_;conv=>whnf
 refine Ak (fun l=>?_) fun l=>?_
 .exact ⟨by rw [decide_eq_false (fun e=>by subst e;omega)],AD.refl _⟩
 .refine lR [0,1,5] (fun (b:Nat) r w'=>r=[.slice a n c,.slice a' n' c',.int .i64 b]/\b<=n/\xs.take b=ys.take b/\AD w w') (fun b=>n - b) 0 ⟨rfl,om,sI,AD.refl _⟩ ?_;rintro b u _ w' ⟨rfl,x,o,d⟩;refine AL (fun m=>?_) fun m=>?_
  .refine Bl A8 mixed kR kR ?_;obtain ⟨ag,k⟩:∃ g,xs[b]? = some g:=AA om;refine dI (h.ext d) b rfl k fun s ac _ p=>dO p rfl ?_;obtain ⟨ah,f⟩:∃ g,ys[b]? = some g:=AA om;refine dI (h'.ext d) b rfl f fun t ad _ q=>dO q rfl fun af i=>Ak (fun j=>?_) fun j=>?_
   .refine ⟨?_,(xt d i)⟩
    .exact congrArg Value.bool (decide_eq_false (fun e=>by subst e;rw [k] at f;cases f;simp at j)).symm
   .exact jP (((b+1:Nat):Int)) ⟨b+1,om,rfl,om,by simp [List.take_add_one, *],(xt d i)⟩
  .have ab:b=n:=om
   have ae:List.take b xs=xs:=List.take_of_length_le om;refine ⟨?_,d⟩
   .exact congrArg Value.bool (decide_eq_true (by rw [<- List.take_of_length_le (show xs.length<=b by omega),o,List.take_of_length_le om])).symm
theorem Tk (h:A4 eI 1 w a n xs) (h':A4 eI 1 w a' n' ys) :
  Dq 277 [.slice a n c,.slice a' n' c'] w (fun v w'=>v = .bool (decide (xs=ys))/\AD w w'):=by
 have z:=h.len;have aa:=h'.len;have y:=h.le;refine oV Tryz.func277 ?_;conv=>whnf
 refine Ak (fun l=>?_) fun l=>?_
 .exact ⟨by rw [decide_eq_false (fun e=>by subst e;omega)],AD.refl _⟩
 .refine lR [0,1,12,13] (fun (b:Nat) r w'=>r=[.slice a n c,.slice a' n' c',.int .i64 n,.int .i64 b]/\b<=n/\xs.take b=ys.take b/\AD w w') (fun b=>n - b) 0 ⟨rfl,om,sI,AD.refl _⟩ ?_;rintro b u _ w' ⟨rfl,x,o,d⟩;refine AL (fun m=>?_) fun m=>?_
  .refine Bl A8 mixed kR kR ?_;obtain ⟨ag,k⟩:∃ g,xs[b]? = some g:=AA om;refine dI (h.ext d) b rfl k fun s ac _ p=>dO p rfl ?_;obtain ⟨ah,f⟩:∃ g,ys[b]? = some g:=AA om;refine dI (h'.ext d) b rfl f fun t ad _ q=>dO q rfl fun af i=>Ak (fun j=>?_) fun j=>?_
   .refine ⟨?_,(xt d i)⟩
    .exact congrArg Value.bool (decide_eq_false (fun e=>by subst e;rw [k] at f;cases f;simp at j)).symm
   .exact jP (((b+1:Nat):Int)) ⟨b+1,om,rfl,om,by simp [List.take_add_one, *],(xt d i)⟩
  .have ab:b=n:=om
   have ae:List.take b xs=xs:=List.take_of_length_le om;refine ⟨?_,d⟩
   .exact congrArg Value.bool (decide_eq_true (by rw [<- List.take_of_length_le (show xs.length<=b by omega),o,List.take_of_length_le om])).symm
theorem Rf {d d':Hd} (A:A4 eI 1 w d.a d.n xs) (A':A4 eI 1 w d'.a d'.n ys) :
  Dq 216 [.agg ⟨eH d⟩,.agg ⟨eH d'⟩] w (fun v w'=>v = .bool (decide (xs=ys))/\AD w w'):=by
 refine oV Tryz.func216 ?_;refine AB.box ?_;intro h p j m c e;refine AB.box fun i q l o b f=>jL (e.ext b).cells (k:=0) rfl<|jL f.cells (k:=0) rfl<|dM (Tk (A.ext (xt c b)) (A'.ext (xt c b))) fun r g=>?_;exact ⟨rfl,(xt (xt c b) g)⟩
end Go.Proofs.YtalgenmoljcnmaaGreatDoor
namespace Go.Proofs.YtalgenmoljcnmaaGreatDoor
open Go Go.RowKit Go.Vc Go.M
variable {w:World} {a a':Option Addr} {n n' c c':Nat} {xs ys:List (List Int)}
theorem MB (h:Ar Aa w a n xs) (h':Ar Aa w a' n' ys) :
  Dq 215 [.slice a n c,.slice a' n' c',.func (.func 216) ⟨[]⟩ ⟨[]⟩] w (fun v w'=>v = .bool (decide (xs=ys))/\AD w w'):=by
 have a4:=h.len;have a5:=h'.len;have a3:=h.le;obtain ⟨m,x,al⟩:=h;obtain ⟨aq,y,am⟩:=h';have a1:=x.len;have a2:=y.len;refine oV Tryz.func215 ?_;conv=>whnf
 refine Ak (fun aj=>?_) fun aj=>?_
 .exact ⟨by rw [decide_eq_false (fun l=>by subst l;omega)],AD.refl _⟩
 .refine lR [1,2,15,16,17] (fun (d:Nat) au w'=>au=[.slice a' n' c',.func (.func 216) ⟨[]⟩ ⟨[]⟩,.slice a n c,.int .i64 n,.int .i64 d]/\d<=n/\xs.take d=ys.take d/\AD w w') (fun d=>n - d) 0 ⟨rfl,om,sI,AD.refl _⟩ ?_;rintro d az _ w' ⟨rfl,a0,an,b⟩;refine AL (fun ak=>?_) fun ak=>?_
  .obtain ⟨p,aa⟩:∃ o,m[d]? = some o:=AA om;obtain ⟨bk,ar,r⟩:=al.get aa;have ad:=r.1;have a9:=r.2;refine jI (x.ext b) d rfl aa fun av bb _ ao=>jA (n:=1) ao rfl<|jN (z := .agg #[.slice none 0 0]) fun aw bf g a7 f af=>jS (vs:=[Value.slice p.a p.n p.c]) af rfl rfl (by simp [AE]) ?_;intro bg e ag;obtain ⟨q,ab⟩:∃ o,aq[d]? = some o:=AA om;obtain ⟨bl,ac,s⟩:=am.get ab;have ae:=s.1;have ba:=s.2;refine jI (y.ext (xb (xt b f) e.but (nB b g))) d rfl ab fun ax bc _ ap=>jA (n:=1) ap rfl<|jN (z := .agg #[.slice none 0 0]) fun ay bh k a8 j ah=>jS (vs:=[Value.slice q.a q.n q.c]) ah rfl rfl (by simp [AE]) fun bi i ai=>jA (n:=1) (ag.ext (xb j i.but k)).cells rfl<|jA (n:=1) ai.cells rfl<|dM (Rf (ad.ext (xb (xt (xb (xt b f) e.but (nB b g)) j) i.but (nB (xb (xt b f) e.but (nB b g)) k))) (ae.ext (xb (xt (xb (xt b f) e.but (nB b g)) j) i.but (nB (xb (xt b f) e.but (nB b g)) k)))) fun bj t=>Ak (fun u=>?_) fun u=>?_
   .refine ⟨?_,(xt (xb (xt (xb (xt b f) e.but (nB b g)) j) i.but (nB (xb (xt b f) e.but (nB b g)) k)) t)⟩
    .exact congrArg Value.bool (decide_eq_false (fun l=>by subst l;rw [ar] at ac;cases ac;simp at u)).symm
   .exact jP (((d+1:Nat):Int)) ⟨d+1,om,rfl,om,by simp [List.take_add_one, *],(xt (xb (xt (xb (xt b f) e.but (nB b g)) j) i.but (nB (xb (xt b f) e.but (nB b g)) k)) t)⟩
  .have a6:d=n:=om
   have bd:List.take d xs=xs:=List.take_of_length_le om;have be:List.take d m=m:=List.take_of_length_le om;refine ⟨?_,b⟩
   .exact congrArg Value.bool (decide_eq_true (by rw [<- List.take_of_length_le (show xs.length<=d by omega),an,List.take_of_length_le om])).symm
theorem Re (h:Ar Aa w a n xs) (h':Ar Aa w a' n' ys) :
  Dq 143 [.slice a n c,.slice a' n' c'] w (fun v w'=>v = .bool (decide (xs=ys))/\AD w w'):=by
 refine oV Tryz.func143 ?_;refine (MB h h').mono ?_;rintro _ d ⟨rfl,b⟩;exact ⟨rfl,b⟩
end Go.Proofs.YtalgenmoljcnmaaGreatDoor
