/- Parts of the proof; no conditions of its own. -/
import Derived.Test.YtalgenmoljcnmaaGreatDoorRefD
import Derived.Test.YtalgenmoljcnmaaGreatDoorVcPut
import Derived.Test.YtalgenmoljcnmaaGreatDoorFew
import Derived.Test.YtalgenmoljcnmaaGreatDoorRefC
import Derived.Test.YtalgenmoljcnmaaGreatDoorDeckC
import Derived.Test.YtalgenmoljcnmaaGreatDoorJourR
namespace Go.Vc
open Go Go.RowKit
theorem Jv {α:Type} {E:Ow α} {w:World} {B e:Nat}:CH E B e w none 0 0 ([]:List α) []:=⟨[],[],An.nil,HJ.nil,by simp [BW]⟩
end Go.Vc
namespace Go.Proofs.YtalgenmoljcnmaaGreatDoor
open Go Go.RowKit Go.Vc Go.M
variable {w:World} {a b:Option Addr} {n c m d q r:Nat} {X:List (List (List Int))} {Y:List (List AT)} {st:ET}
theorem JS (k:Int) (w:World):Dq 110 [.int .i64 k] w (fun v w'=>v = .bool (Gi k)/\AD w w'):=by
 refine oV Tryz.func110 ?_;refine (Ev _ _ _ _).mono ?_;rintro _ _ ⟨rfl,rfl⟩;exact ⟨rfl,AD.refl _⟩
theorem Mb {x:ET} (hx:x.ok) {width:Int} (hw:1<=width/\width<=20) {b:Nat} (hc:AK w b 0 x.enc) :
  Dq 178 [.pointer (some ⟨b,0,none⟩),.int .i64 width] w (fun v w'=>v = .bool (EP x width)/\AD w w'):=by
 have ay:Ey width 1 20=true:=by simp [Ey];omega
 have aw:(x.text=(⟨#[]⟩:ByteArray))=(x.text.size=0):=by
  refine propext ⟨fun e=>by rw [e];rfl,fun e=>?_⟩;apply Cs;have j:x.text.data.toList.length=0:=by simpa using e
  rw [List.eq_nil_of_length_eq_zero j]
 have af:AR x.field width=true->AR x.field 20=true:=fun e=>by
  simp only [AR,Bool.and_eq_true,decide_eq_true_eq] at e ⊢;omega
 have ac:∀ p,AR x.field width=true->Dq 244 [.string x.text,.agg ⟨x.field.enc⟩] p _:=fun p e=>Md hx.2.2.2.2.2.2 (af e) p;obtain ⟨ar,aj,ak,al,am,ah,ax⟩:=hx;refine oV Tryz.func178 ?_;conv=>whnf
 refine jL hc (k:=0) rfl ?_;(conv=>whnf);refine (Ev _ _ _ _).mono ?_;rintro _ _ ⟨rfl,rfl⟩;(conv=>whnf);with_reducible refine BA (fun j=>?_) (fun j=>?_)
 ·(conv=>whnf);refine ⟨congrArg Value.bool fS,AD.refl _⟩
 ·(conv=>whnf);have an:=Bx j;refine jL hc (k:=1) rfl ?_;(conv=>whnf);refine (GX _ _).mono ?_;rintro _ _ ⟨rfl,rfl⟩;(conv=>whnf);with_reducible refine BA (fun s=>?_) (fun s=>?_)
  ·(conv=>whnf);refine ⟨congrArg Value.bool fS,AD.refl _⟩
  ·(conv=>whnf);have ao:=Bx s;refine jL hc (k:=2) rfl ?_;(conv=>whnf);refine (GX _ _).mono ?_;rintro _ _ ⟨rfl,rfl⟩;(conv=>whnf);with_reducible refine BA (fun t=>?_) (fun t=>?_)
   ·(conv=>whnf);refine ⟨congrArg Value.bool fS,AD.refl _⟩
   ·(conv=>whnf);have ap:=Bx t;refine jL hc (k:=3) rfl ?_;(conv=>whnf);refine (GX _ _).mono ?_;rintro _ _ ⟨rfl,rfl⟩;(conv=>whnf);with_reducible refine BA (fun u=>?_) (fun u=>?_)
    ·(conv=>whnf);refine ⟨congrArg Value.bool fS,AD.refl _⟩
    ·(conv=>whnf);have aq:=Bx u;refine jG (n:=2) (k:=4) hc rfl ?_;(conv=>whnf);refine (Ch _ _ _).mono ?_;rintro _ z ⟨rfl,f⟩;(conv=>whnf);with_reducible refine BA (fun r=>?_) (fun r=>?_)
     ·(conv=>whnf);refine ⟨congrArg Value.bool fS,f⟩
     ·(conv=>whnf);refine jL (hc.ext f) (k:=2) rfl ?_;(conv=>whnf);with_reducible refine AW (fun h=>?_) (fun h=>?_)
      focus
       (conv=>whnf);refine jL (hc.ext f) (k:=0) rfl ?_;(conv=>whnf);refine (JS _ _).mono ?_;rintro _ aa ⟨rfl,m⟩;(conv=>whnf);with_reducible refine BA (fun g=>?_) (fun g=>?_)
       ·(conv=>whnf);refine ⟨congrArg Value.bool fS,(xt f m)⟩
       have a:AD w aa:=xt f m;have ae:¬ (x.b≠0/\Gi x.kind=false):=by simp [g]
       have y:x.b=0\/Gi x.kind=true := .inr g;clear m h g;generalize aa=wt at *
      rotate_left
      focus
       have a:AD w z:=f;have ae:¬ (x.b≠0/\Gi x.kind=false):=by simp [h]
       have y:x.b=0\/Gi x.kind=true := .inl (by simpa using h);clear h;generalize z=wt at *
      all_goals
       (conv=>whnf);refine jL (hc.ext a) (k:=0) rfl ?_;(conv=>whnf);with_reducible refine AF (fun g=>?_) (fun g=>?_)
       ·(conv=>whnf);refine dH (pB [1,3,5,7,9,11,12,14,16,18,21,23,25,27,28,30,32,34,36,39,41,43,45,47,49,51,53,55,57,59,61,63,65,67,69]) ?_;(conv=>whnf);intro az c;(conv=>whnf);refine jL (hc.ext (xt a c)) (k:=3) rfl ?_;(conv=>whnf);refine ⟨c,?_⟩;(conv=>whnf);with_reducible refine AF (fun ab=>?_) (fun ab=>?_)
        ·(conv=>whnf);refine D5 (n:=2) kR (k:=6) (hc.ext a) rfl ?_;(conv=>whnf);refine (Ch _ _ _).mono ?_;rintro _ a0 ⟨rfl,d⟩;(conv=>whnf);refine ⟨(xt c d),?_⟩;(conv=>whnf);with_reducible refine BU (fun l=>?_) (fun l=>?_)
         ·(conv=>whnf);refine dL (hc.ext a) (k:=7) rfl ?_;(conv=>whnf);refine jL (hc.ext (xt (xt a c) d)) (k:=6) rfl ?_;(conv=>whnf);refine ⟨(xt c d),?_⟩;(conv=>whnf);have av:=Bc l;refine AB.sub _ rfl om om ?_;(conv=>whnf);refine ⟨(xt c d),?_⟩;(conv=>whnf);with_reducible refine AF (fun o=>?_) (fun o=>?_)
          ·(conv=>whnf);refine jL (hc.ext (xt (xt a c) d)) (k:=8) rfl ?_;(conv=>whnf);refine ⟨(xt c d),?_⟩;(conv=>whnf);refine ⟨congrArg Value.bool (by first | (simp [EP, *];done) | (simp_all [EP,Gi,Ey,Ah];done)),(xt (xt a c) d)⟩
          ·(conv=>whnf);refine ⟨congrArg Value.bool (by first | (simp [EP, *];done) | (simp_all [EP,Gi,Ey,Ah];done)),(xt (xt a c) d)⟩
         ·(conv=>whnf);refine ⟨congrArg Value.bool (by first | (simp [EP, *];done) | (simp_all [EP,Gi,Ey,Ah];done)),(xt (xt a c) d)⟩
        ·(conv=>whnf);refine ⟨congrArg Value.bool (by first | (simp [EP, *];done) | (simp_all [EP,Gi,Ey,Ah];done)),(xt a c)⟩
       ·(conv=>whnf);refine jG (n:=2) (k:=6) (hc.ext a) rfl ?_;(conv=>whnf);refine AB.build QC rfl ?_;(conv=>whnf);refine Js (ks:=[false,false]) (xs:=x.sum.enc) (ys:=(AE.mk 0 0).enc) kR kR (GN ah) (GN ⟨by unfold BH;decide,by unfold BH;decide⟩) ?_;rw [show F3 x.sum.enc (AE.mk 0 0).enc=_ from II x.sum];(conv=>whnf);with_reducible refine AW (fun l=>?_) (fun l=>?_)
        ·(conv=>whnf);refine ⟨congrArg Value.bool (by first | (simp [EP, *];done) | (simp_all [EP,Gi,Ey,Ah];done)),a⟩
        ·(conv=>whnf);refine jL (hc.ext a) (k:=0) rfl ?_;(conv=>whnf);with_reducible refine AF (fun o=>?_) (fun o=>?_)
         ·(conv=>whnf);refine dH (pB [0,2,4,6,9,11,13,15,17,19,21]) ?_;(conv=>whnf);intro a1 i;(conv=>whnf);refine dL (hc.ext a) (k:=8) rfl ?_;(conv=>whnf);refine jG (n:=2) (k:=4) (hc.ext (xt a i)) rfl ?_;(conv=>whnf);refine ⟨i,?_⟩;(conv=>whnf);refine (ac _ r).mono ?_;rintro _ a2 ⟨rfl,q⟩;(conv=>whnf);refine ⟨(xt i q),?_⟩;(conv=>whnf);refine ⟨?_,(xt (xt a i) q)⟩;have ai:EP x width=(CR x.text && decide ((x.text.size:Int)=x.field.to_ - x.field.from_)):=by rcases y with ad | ad<;>simp_all [EP]
          rw [ai];by_cases ag:(x.text.size:Int)=x.field.to_ - x.field.from_<;>cases au:CR x.text<;>simp [ag]
         ·(conv=>whnf);refine jL (hc.ext a) (k:=8) rfl ?_;(conv=>whnf);refine ⟨congrArg Value.bool (by first | (simp [EP, *];done) | (simp_all [EP,Gi,Ey,Ah];done)),a⟩
theorem KU {s:List Value} (h:Ac CA w a n X) (h2:Ac FB w b m Y) (hc:AK w q 0 ([.slice a n c,.slice b m d]++s)) (hn2:n<=1000) (hm2:m<=1000) (hX:∀ x∈X,x.length<=1000/\∀ y∈x,y.length<=1000) (hY:∀ y∈Y,y.length<=1048576) :
  Dq 62 [.pointer (some ⟨q,0,none⟩)] w (fun v w'=>∃ a' c' b' d',v = .agg #[.slice a' n c',.slice b' m d']/\Gj w' w.heap.size w'.heap.size a' n c' b' m d' X Y/\AD w w'):=by
 have d2:=h.len;have d1:=h2.len;obtain ⟨c7,b5,cr⟩:=h;obtain ⟨cq,b6,cs⟩:=h2;have dz:=b5.len;have d0:=b6.len;refine oV Tryz.func62 ?_;refine jN (z := .agg #[.slice none 0 0,.slice none 0 0]) ?_;intro t eh ds d7 b2 cf;refine AB.build Oe rfl<|jN (z := .agg #[.slice none 0 0,.slice none 0 0]) fun j ek dt d8 bh ck=>jS (vs:=[.slice none 0 0,.slice none 0 0]) ck rfl rfl cE ?_;intro u bf a7;have er:=b2.size;have et:=bh.size;have eu:=bf.but.size;have cm:AD w u:=xb (xt b2 bh) bf.but om;have bt:B8 u t [.slice none 0 0,.slice none 0 0] 34:=(cf.ext bh).mod bf.but (fun h=>by have h:t=j:=h;omega);refine lR [0,2,3,4] (fun (i:Nat) bq w'=>∃ ag an ap,bq=[.pointer (some ⟨q,0,none⟩),.pointer (some ⟨t,0,none⟩),.pointer (some ⟨j,0,none⟩),.int .i64 i]/\i<=n/\CH (OG Aw 144) w.heap.size 78 w' ag i an (X.take i) ap/\ap.Nodup/\(∀ e∈ap,u.heap.size<=e)/\B8 w' j [.slice ag i an,.slice none 0 0] 34/\BP (fun e=>e=j) u w') (fun i=>n - i) 0 ⟨_,_,[],rfl,om,Jv,sI,sI,a7,Vc.BP.refl _ _⟩ ?_;rintro i co _ ae ⟨ag,an,ap,rfl,dy,ac,b8,ai,ab,a6⟩;have az:AD w ae:=xb cm a6 om;have ew:=a6.size;have a9:AK ae q 0 ([.slice a n c,.slice b m d]++s):=hc.ext az;rcases Nat.lt_or_ge i n with c3 | c3
 .obtain ⟨p,av⟩:=AA (l:=c7) (k:=i) om;obtain ⟨x,aw,al⟩:=cr.get av;obtain ⟨c8,c9⟩:=hX x (List.mem_of_getElem? aw);have c6:=al.1.len;have cv:=b5.ext az;have cu:∀ ak,AD w ak->Dq 92 [.slice p.a p.n p.c] ak (fun v w'=>∃ a' c',v = .slice a' p.n c'/\p.n<=c'/\Bm Aw ak.heap.size 144 w' a' p.n c' x/\Ab ak.heap.size a'/\AD ak w'):=fun ak b1=>HV (al.1.ext b1) om c9;refine jL a9 (k:=0) rfl<|iY<|Au A7 mixed (pZ [0,10,15,20,30,6,26,35,41,47,52,58,60,68]) kR kR fun ec ao=>dL ab.cells (k:=0) rfl<|dL a9 (k:=0) rfl<|pI cv i rfl av fun dk d9 du cx=>dO cx rfl<|(cu _ (xt az ao)).mono ?_;rintro _ ee ⟨bv,bw,rfl,eb,dd,dj,a2⟩;refine ⟨(xt ao a2),bS EA (vs:=[Value.slice bv p.n bw]) fun dl de dq d4 a3 cc=>⟨(xt (xt ao a2) a3),?_⟩⟩;obtain ⟨cn,ct,bj⟩:=GP dd;have ba:AD ae de:=xt (xt ao a2) a3;have el:=ao.size;have em:=a2.size;have en:=a3.size;have bn:=ac.lt;refine Co EA rfl (ac.ext ba) b8 om (d:=⟨bv,p.n,bw⟩) (x:=x) (f:=cn) ⟨_,ct.ext a3⟩ bj.1 (fun e g bl=>by have:=(bj.2 e g).1;have:=bn e bl;omega) cc.cells om om ?_;intro be bg ef b3 bd bo bp aa;have cz:j<u.heap.size:=a7.lt;have bk:∀ e,AL ag e->e≠j:=fun e g=>by have:=ai e (ac.blk e g);omega
  have bi:=(ab.ext ba).mod aa (fun h=>bk j h rfl);have di:=aa.size;refine jT bi (k:=0) sI rfl fun ed bx cb=>jP (((i+1:Nat):Int)) ?_;have au:∀ e∈b3,u.heap.size<=e:=fun e g=>by
   rcases bp e g with r | r | r
   .exact ai e r
   .have:=(bj.2 e r).1;omega
   .omega
  refine ⟨i+1,om,be,bg,b3,rfl,om,?_,bo,au,cb,?_⟩
  .rw [List.take_add_one,aw];exact bd.keep fun e g=>bx.block e (by have:=au e g;omega)
  .exact C0 (C0 (a6.trans ba.mod) aa (fun e g=>.inr (ai e (ac.blk e g)))) bx.but (fun e g=>.inl g)
 .obtain rfl:i=n:=om
  rw [List.take_of_length_le om] at ac;refine jL a9 (k:=0) rfl<|iN ?_;have ch:B8 ae t [.slice none 0 0,.slice none 0 0] 34:=bt.mod a6 (fun h=>by have h:t=j:=h;omega);have cz:j<u.heap.size:=a7.lt;refine lR [0,2,3,5] (fun (o:Nat) bq w'=>∃ am a1 aq,bq=[.pointer (some ⟨q,0,none⟩),.pointer (some ⟨t,0,none⟩),.pointer (some ⟨j,0,none⟩),.int .i64 o]/\o<=m/\CH En w.heap.size 161 w' am o a1 (Y.take o) aq/\aq.Nodup/\(∀ e∈aq,ae.heap.size<=e)/\B8 w' j [.slice ag i an,.slice am o a1] 34/\BP (fun e=>e=j) ae w') (fun o=>m - o) 0 ⟨_,_,[],rfl,om,Jv,sI,sI,ab,Vc.BP.refl _ _⟩ ?_;rintro o co _ br ⟨am,a1,aq,rfl,dx,ad,b9,aj,ab,ar⟩;have ax:AD w br:=xb az ar om;have ex:=ar.size;have a8:AK br q 0 ([.slice a i c,.slice b m d]++s):=hc.ext ax;rcases Nat.lt_or_ge o m with c2 | c2
  .obtain ⟨p,av⟩:=AA (l:=cq) (k:=o) om;obtain ⟨x,aw,al⟩:=cs.get av;have c8:=hY x (List.mem_of_getElem? aw);have c6:=al.1.len;have cw:=b6.ext ax;refine jL a8 (k:=1) rfl<|iY<|G0 [12,14] A7 mixed (pZ [0,15,20,25,35,6,31,40,46,12,52,57,63,65,73]) kR kR fun ca ah=>dL ab.cells (k:=1) rfl<|dL a8 (k:=1) rfl<|pI cw o rfl av fun dm ea dv cy=>dO cy rfl<|bS Hz (vs:=[]) ?_;intro dn eg cp d5 a4 cd;have bu:=Ag (enc:=AT.enc) BJ cd cp;refine ⟨(xt ah a4),D0 (enc:=AT.enc) Hz BJ bu (al.1.ext (xt (xt ax ah) a4)) (by intro y _;simp [AT.enc,AM]) om om (Below.size a4) ?_⟩;intro af bz df bc db d3;have ay:AD ca df:=xm a4 db (AQ bu.new);refine ⟨xt ah ay,bS Le (vs:=[Value.slice af p.n bz]) fun dp dg dr d6 a5 ce=>⟨xt (xt ah ay) a5,?_⟩⟩;have bb:AD br dg:=xt (xt ah ay) a5;have eo:=ah.size;have ep:=ay.size;have eq:=a5.size;have bn:=ad.lt;have b7:∀ e∈BW af,ca.heap.size<=e:=fun e g=>by
    obtain ⟨y,da,rfl⟩:=Az.1 g;exact bc.new y da
   have c0:(BW af).Nodup:=by cases af<;>simp [BW]
   refine Co Le rfl (ad.ext bb) b9 om (d:=⟨af,p.n,bz⟩) (x:=x) (f:=BW af) (FR (bc.ext a5).own bc.le.1) c0 (fun e g bl=>by have:=b7 e g;have:=bn e bl;omega) ce.cells om om ?_;intro be bg ei b4 bd bo bp aa;have bk:∀ e,AL am e->e≠j:=fun e g=>by have:=aj e (ad.blk e g);omega
   have bi:=(ab.ext bb).mod aa (fun h=>bk j h rfl);have di:=aa.size;refine jT bi (k:=1) sI rfl fun ej b0 cg=>jP (((o+1:Nat):Int)) ?_;have au:∀ e∈b4,ae.heap.size<=e:=fun e g=>by
    rcases bp e g with r | r | r
    .exact aj e r
    .have:=b7 e r;omega
    .omega
   refine ⟨o+1,om,be,bg,b4,rfl,om,?_,bo,au,cg,?_⟩
   .rw [List.take_add_one,aw];exact bd.keep fun e g=>b0.block e (by have:=au e g;omega)
   .exact C0 (C0 (ar.trans bb.mod) aa (fun e g=>.inr (aj e (ad.blk e g)))) b0.but (fun e g=>.inl g)
  .obtain rfl:o=m:=om
   rw [List.take_of_length_le om] at ad;refine jL a8 (k:=1) rfl<|iN<|jA (n:=2) ab.cells rfl ?_;have ci:=ch.mod ar (fun h=>by have h:t=j:=h;omega);refine jS (vs:=[Value.slice ag i an,Value.slice am o a1]) ci rfl rfl cE fun dh a0 cj=>AO (jR (n:=2) rfl cj.cells) ?_;have cl:AD w dh:=xb ax a0.but om;have es:=a0.but.size;have bm:=ac.lt;have c1:=ad.lt;have dw:t<u.heap.size:=bt.lt;refine ⟨_,_,_,_,rfl,⟨ap,aq,(ac.keep fun e g=>ar.block e (fun h=>by have:=ai e g;omega) (bm e g)).keep fun e g=>a0.block e (by have:=ai e g;omega),ad.keep fun e g=>a0.block e (by have:=aj e g;omega),List.nodup_append.2 ⟨b8,b9,fun dc c4 q c5 b1=>?_⟩,fun e g=>?_⟩,cl⟩
   .have:=bm dc c4;have:=aj q c5;omega
   .rcases List.mem_append.1 g with g | g
    .have:=ai e g;have:=bm e g;omega
    .have:=aj e g;have:=c1 e g;omega
theorem UF {xs:List (List Int)} (h:Ac AZ w a n xs) {f s:AE} (hfo:f.ok) (hso:s.ok) (hd:A2 xs=true) (hf:AR f (AJ xs)=true) (hs:Ah s (AJ xs)=true) :
  Dq 245 [.slice a n c,.agg ⟨f.enc⟩,.agg ⟨s.enc⟩] w (fun v w'=>∃ a' m c',v = .tuple #[.slice a' m c',.int .i64 (A5 xs f s).2]/\((A5 xs f s).2=0->Ab w.heap.size a'/\m<=c'/\m<=40/\Bs AT.enc w' a' m 237 (A5 xs f s).1)/\AD w w'):=by
 have a1:=h.len;have az:=Am hd;have b7:=az.1;have ai:∀ e r p a7,AD w e->AK e r 0 (L7 f p a7)->A4 AE.enc 2 e p 1 [s]->Dq 170 [.pointer (some ⟨r,0,none⟩),.slice a n c] e _:=fun e r p a7 j ay b8=>JT (c:=c) (h.ext j) ay b8 hfo hso;have ad:Bn xs f s=if ER xs s=false\/Dg xs f=false then 8 else 0:=by
  unfold Bn;rw [if_neg (by simp [hd]),if_neg (by simp [hf,hs])]
 by_cases aj:ER xs s=false\/Dg xs f=false
 .rw [if_pos aj] at ad;have a0:A5 xs f s=([],8):=by unfold A5;rw [if_pos aj]
  rw [a0];rw [ad] at ai;refine oV Tryz.func245 ?_;refine AB.box ?_;intro bv c1 b3 cu ab am;refine AB.box fun bw c2 b4 cv x an=>jA (n:=2) (am.ext x).cells rfl<|jA (n:=2) an.cells rfl ?_;refine bS J1 (vs:=[Value.agg #[Value.int IntKind.i64 s.from_,Value.int IntKind.i64 s.to_]]) ?_;intro bx c3 ax cw ac ao;have ar:=AH (n:=1) (enc:=AE.enc) (xs:=[⟨s.from_,s.to_⟩]) Br ao ax rfl dE;refine AB.build T7 rfl<|AB.box fun bz c4 b5 cx y ap=>(ai _ _ _ _ (xt (xt (xt ab x) ac) y) ap.cells ((ar.ext y).own.arr Br)).mono ?_;rintro _ af ⟨ak,rfl,bl,aw⟩;exact ⟨_,_,_,rfl,om,(xt (xt (xt (xt ab x) ac) y) aw)⟩
 .rw [if_neg aj] at ad;have a0:A5 xs f s=((Bj xs f).map fun g=>⟨EV g f,Dv g s⟩,0):=by unfold A5;rw [if_neg aj]
  rw [a0];rw [ad] at ai;obtain ⟨_,_,_,bf,dv⟩:=Ph ad;have dl:∀ a2∈xs,a2.length<=20:=fun a2 cr=>(Bp (az.2 a2 cr).1).2.1;have a9:∀ c∈xs,(Ad c s).length<=12:=fun c ay=>(Im (by rw [(az.2 c ay).2];exact hs)).1;have dt:=Hk xs f;have du:=Jj xs f;have dx:=JP (d:=xs) (f:=s) a9 b7;have ck:=Zl (s:=s) a9;have ci:(xs.map (AS f)).length=n:=by rw [List.length_map];exact a1
  have cl:(D8 xs s).length=n:=by rw [Kd bf,List.length_map];exact a1
  refine oV Tryz.func245 ?_;refine AB.box ?_;intro bv c1 b3 cu ab am;refine AB.box fun bw c2 b4 cv x an=>jA (n:=2) (am.ext x).cells rfl<|jA (n:=2) an.cells rfl ?_;refine bS J1 (vs:=[Value.agg #[Value.int IntKind.i64 s.from_,Value.int IntKind.i64 s.to_]]) ?_;intro bx c3 ax cw ac ao;have ar:=AH (n:=1) (enc:=AE.enc) (xs:=[⟨s.from_,s.to_⟩]) Br ao ax rfl dE;refine AB.build T7 rfl<|AB.box fun bz c4 b5 cx y ap=>(ai _ _ _ _ (xt (xt (xt ab x) ac) y) ap.cells ((ar.ext y).own.arr Br)).mono ?_;rintro _ af ⟨ak,rfl,bl,aw⟩;refine bS Hz (vs:=[]) ?_;intro db ed b6 d0 b1 bq;have bu:=Ag (enc:=AT.enc) BJ bq b6;(conv=>whnf);obtain ⟨c5,d2,dg,c7,d3,di,c8,ae,dj,aq,a4,a5,al⟩:=bl rfl;have a8:=xt (xt (xt (xt ab x) ac) y) aw;have bj:=a4.len;have bk:=a5.len;have cy:=al.len;rw [List.length_map,ci] at bj;rw [List.length_map,cl] at bk;rw [List.length_map] at cy;subst bj;subst bk;have ca:∀ e (i r:Nat),AD af e->i<=r->r<=n->Dq 173 [.pointer (some ⟨ak,0,none⟩),.int .i64 i,.int .i64 r,.int .i64 1] e (fun v w'=>∃ p,v = .slice (some ⟨p,0,none⟩) 1 1/\A4 eI 1 w' (some ⟨p,0,none⟩) 1 [(((D8 xs s).drop i).take (r - i)).sum]/\AD e w'):=fun e i r j cn co=>(S9 (aq.ext j) (a5.ext j) (by simpa using ck) om cn co).mono fun _ w' ⟨p,cq,bo,dm,b0⟩=>⟨p,cq,(AH (n:=1) (enc:=eI) AI bo (Nat.le_refl p) rfl dE).own.arr AI,b0⟩;have b9:∀ e (g:Nat),AD af e->g<ae->Dq 171 [.pointer (some ⟨ak,0,none⟩),.int .i64 g] e (fun v w'=>v = .int .i64 (DZ (A0 (xs.map (AS f))) n g)/\AD e w'):=fun e g j ch=>Vb (aq.ext j) (al.ext j) ch om;refine lR [8,10,11] (fun (b:Nat) c0 w'=>∃ au av,c0=[.pointer (some ⟨ak,0,none⟩),.slice au b av,.int .i64 b]/\b<=ae/\An AT.enc 2 af.heap.size 237 w' au b av (((Bj xs f).take b).map fun g=>(⟨EV g f,Dv g s⟩:AT))/\AD af w') (fun b=>ae - b) 0 ⟨_,_,rfl,om,by simpa using bu,b1⟩ ?_;rintro b g _ eb ⟨au,av,rfl,dw,z,t⟩;have aa:=aq.ext t;have bn:=a4.ext t;have a6:=al.ext t;have d1:=z.len;rcases Nat.lt_or_ge b ae with bd | bd
  .obtain ⟨i,bg⟩:=AA (l:=A0 (xs.map (AS f))) (k:=b) om;have bh:((A0 (xs.map (AS f))).map fun (ct:Nat)=>(ct:Int))[b]? = some (i:Int):=by simp [bg]
   obtain ⟨a3,cs,cm,ba,bb,bc⟩:=Q8 bg;rw [a1] at cm ba bb bc;have cj:((xs.map (AS f)).map Cf)[i]? = some (Cf (AS f a3)):=by simp [cs]
   have be:=Cz (fun g=>(⟨EV g f,Dv g s⟩:AT)) bb;rw [bc,T4,Vy bf] at be;have cc:=fun e j=>ca e i (DZ (A0 (xs.map (AS f))) n b) j om ba;have b':=fun e j=>b9 e b j bd;generalize (((D8 xs s).drop i).take (DZ (A0 (xs.map (AS f))) n b - i)).sum=ag at *;generalize DZ (A0 (xs.map (AS f))) n b=dk at *;have cb:([ag]:List Int)[0]? = some ag:=rfl;generalize dn:Cf (AS f a3)=bi at *;refine jL aa (k:=2) rfl<|iY<|Au A7 mixed (pZ [0,5,10,15,25,30,35,45,70,75,80,85,95,110,115,21,41,50,56,60,66,91,100,106,122,127,130,137,142,147,153,155]) kR kR fun ec o=>dL aa (k:=0) rfl<|dL aa (k:=2) rfl<|pI a6 b rfl bh fun dc d4 dp cd=>dO cd rfl<|pI bn i rfl cj fun de d6 dr cf=>dO cf rfl<|dL aa (k:=2) rfl<|pI a6 b rfl bh fun df d7 ds cg=>dO cg rfl<|dM (b' _ (xt t o)) fun d8 q=>⟨(xt o q),(cc _ (xt (xt t o) q)).mono ?_⟩;rintro _ d9 ⟨c9,rfl,bm,u⟩;refine ⟨(xt (xt o q) u),pI bm 0 rfl cb ?_⟩;rintro dd d5 dq ce;refine jL ce (k:=0) rfl ⟨(xt (xt o q) u),AB.build ZW rfl ⟨(xt (xt o q) u),bS Hz (vs:=[Value.agg #[Value.string bi,Value.int IntKind.i64 ag]]) ?_⟩⟩;intro da d' b2 dz ah bp;have br:=AH (n:=1) (enc:=AT.enc) (xs:=[⟨bi,ag⟩]) BJ bp b2 rfl dE;refine ⟨(xt (xt (xt o q) u) ah),AN (enc:=AT.enc) Hz BJ (z.ext (xt (xt (xt o q) u) ah)) (br.own.arr BJ) (by intro a3 _;simp [AT.enc,AM]) om om (Below.size (xt (xt (xt (xt t o) q) u) ah)) fun c6 dh ea bt cz dy=>jP (((b+1:Nat):Int)) ⟨b+1,om,_,_,rfl,om,?_,(xm (xt (xt (xt (xt t o) q) u) ah) cz (AQ z.new))⟩⟩
   .rw [be];exact bt
  .obtain rfl:b=ae:=om
   have cp:((Bj xs f).take b)=Bj xs f:=List.take_of_length_le om;rw [cp] at z;refine jL aa (k:=2) rfl<|iN ⟨_,_,_,rfl,?_,(xt a8 t)⟩
   .exact fun _=>⟨z.new.mono (Below.size a8),z.le.1,om,z.own⟩
theorem UG (h:Ac CA w a n X) (hc:AK w q 0 [.slice a n c,.slice b m d]) (hx:st.ok) (hcr:AK w r 0 st.enc) (h6:n=6) (ha:0<=st.a/\st.a<=5) (hb:0<=st.b/\st.b<=5) (hk:1<=st.kind/\st.kind<=6) :
  Dq 246 [.pointer (some ⟨q,0,none⟩),.pointer (some ⟨r,0,none⟩)] w (fun v w'=>∃ a' m' c',v = .tuple #[.slice a' m' c',.int .i64 (Be (X.getD st.a.toNat []) (X.getD st.b.toNat []) st).2] /\
   ((Be (X.getD st.a.toNat []) (X.getD st.b.toNat []) st).2=0->m'<=c'/\Dl Aw w' w.heap.size w'.heap.size a' m' 144 (Be (X.getD st.a.toNat []) (X.getD st.b.toNat []) st).1)/\AD w w'):=by
 have b3:=h.len;obtain ⟨ar,af,ao⟩:=h;have b2:=af.len;obtain ⟨aa,ap⟩:=AA (l:=ar) (k:=st.a.toNat) om;obtain ⟨a2,bb,RA⟩:=ao.get ap;obtain ⟨am,aq⟩:=AA (l:=ar) (k:=st.b.toNat) om;obtain ⟨a3,bc,u⟩:=ao.get aq;rw [Af bb,Af bc];obtain ⟨_,_,_,_,b4,_,au⟩:=hx;have bu:=fun o (j:AD w o)=>LZ (c:=aa.c) (RA.1.ext j) st.field;have bv:=fun o (j:AD w o)=>Jx (c:=aa.c) (c2:=am.c) (RA.1.ext j) (u.1.ext j) st.field RA.2 u.2;have bx:=fun o (j:AD w o)=>I4 (c:=aa.c) (RA.1.ext j) st.field au;have bz:=fun o (j:AD w o)=>Hu (c:=aa.c) (RA.1.ext j) st.field;have bw:=fun o (j:AD w o)=>Jy (c:=aa.c) (c2:=am.c) (RA.1.ext j) (u.1.ext j) st.field;generalize g:Be a2 a3 st=r;unfold Be at g;refine oV Tryz.func246 ?_;refine BS A7 mixed kR kR ?_;refine dL hc (k:=0) rfl ?_;refine dL hcr (k:=1) rfl ?_;refine dI af (st.a).toNat om ap fun bm b' b0 be=>dO be rfl fun cb e=>BS A7 mixed kR kR ?_;refine dL (hc.ext e) (k:=0) rfl<|dL (hcr.ext e) (k:=2) rfl<|dI (af.ext e) (st.b).toNat om aq fun bn ca b1 bf=>dO bf rfl fun cc f=>jL (hcr.ext (xt e f)) (k:=0) rfl<|AF (fun p=>?_) fun p=>?_
 .refine jG (n:=2) (k:=4) (hcr.ext (xt e f)) rfl<|(LZ (RA.1.ext (xt e f)) _).mono ?_;rintro _ cd ⟨bh,b5,bo,rfl,ax,a8⟩;(conv=>whnf);rw [if_pos p] at g;subst g;exact ⟨_,_,_,rfl,fun i=>⟨(ax i).1,(ax i).2.wide (Below.size (xt e f)) (Nat.le_refl _)⟩,xt (xt e f) a8⟩
 .refine AF (fun s=>?_) fun s=>?_
  .refine jG (n:=2) (k:=4) (hcr.ext (xt e f)) rfl<|(Jx (RA.1.ext (xt e f)) (u.1.ext (xt e f)) _ RA.2 u.2).mono ?_;rintro _ ce ⟨bi,b6,bp,rfl,ay,a9⟩;(conv=>whnf);rw [if_neg p,if_pos s] at g;subst g;exact ⟨_,_,_,rfl,fun i=>⟨(ay i).1,(ay i).2.wide (Below.size (xt e f)) (Nat.le_refl _)⟩,xt (xt e f) a9⟩
  .refine AF (fun z=>?_) fun z=>?_
   .refine dH (pB [0,2,4,6,8,11,13,15,17,19,20,23,25,27]) fun cf y=>D5 (n:=2) kR (k:=4) (hcr.ext (xt e f)) rfl<|jL (hcr.ext (xt (xt e f) y)) (k:=8) rfl ⟨y,(I4 (RA.1.ext (xt (xt e f) y)) _ au).mono ?_⟩;rintro _ cg ⟨bj,b7,bq,rfl,az,an⟩;refine ⟨(xt y an),?_⟩;(conv=>whnf);rw [if_neg p,if_neg s,if_pos z] at g;subst g;exact ⟨_,_,_,rfl,fun i=>⟨(az i).1,(az i).2.wide (Below.size (xt (xt e f) y)) (Nat.le_refl _)⟩,xt (xt (xt e f) y) an⟩
   .refine AF (fun ab=>?_) fun ab=>?_
    .refine jG (n:=2) (k:=4) (hcr.ext (xt e f)) rfl<|(Hu (RA.1.ext (xt e f)) _).mono ?_;rintro _ ch ⟨bk,b8,br,rfl,a0,ba⟩;(conv=>whnf);rw [if_neg p,if_neg s,if_neg z,if_pos ab] at g;subst g;exact ⟨_,_,_,rfl,fun i=>⟨(a0 i).1,(a0 i).2.wide (Below.size (xt e f)) (Nat.le_refl _)⟩,xt (xt e f) ba⟩
    .refine jG (n:=2) (k:=4) (hcr.ext (xt e f)) rfl<|(Jy (RA.1.ext (xt e f)) (u.1.ext (xt e f)) _).mono ?_;rintro _ ci ⟨bl,b9,bt,rfl,a1,ac⟩;refine AW (fun t=>?_) fun t=>?_
     ·(conv=>whnf);rw [if_neg p,if_neg s,if_neg z,if_neg ab,if_pos t] at g;subst g;exact ⟨_,_,_,rfl,fun i=>absurd i t,xt (xt e f) ac⟩
     .refine jL (hcr.ext (xt (xt e f) ac)) (k:=0) rfl<|AF (fun ae=>?_) fun ae=>?_
      ·(conv=>whnf);rw [if_neg p,if_neg s,if_neg z,if_neg ab,if_neg (fun ah=>ah t),decide_eq_true ae] at g;subst g;obtain ⟨a5,ak,a6,al,a7,rfl,rfl,rfl,ad,av,aw,ai,aj⟩:=a1 t;exact jI (LN (n:=4) ad rfl dE) 0 rfl (x:=ak) rfl fun a4 bg bd ag=>jO ag rfl ⟨_,_,_,rfl,fun _=>⟨av,ai.wide (Below.size (xt e f)) (Nat.le_refl _)⟩,xt (xt e f) ac⟩
      ·(conv=>whnf);rw [if_neg p,if_neg s,if_neg z,if_neg ab,if_neg (fun ah=>ah t),decide_eq_false ae] at g;subst g;obtain ⟨a5,ak,a6,al,a7,rfl,rfl,rfl,ad,av,aw,ai,aj⟩:=a1 t;exact jI (LN (n:=4) ad rfl dE) 2 rfl (x:=al) rfl fun a4 bg bd ag=>jO ag rfl ⟨_,_,_,rfl,fun _=>⟨aw,aj.wide (Below.size (xt e f)) (Nat.le_refl _)⟩,xt (xt e f) ac⟩
theorem W7 {lo hi:Nat} (O:Gj w lo hi a n c b m d X Y) (hhi:hi<=w.heap.size) (ho:Aq X m=true) (Bq:B8 w q [.slice a n c,.slice b m d] 34) (hq:hi<=q) (hlo:lo<=hi) (hx:st.ok) (hcr:AK w r 0 st.enc) (hz1:EP st (AG X)=true) :
  Dq 179 [.pointer (some ⟨q,0,none⟩),.pointer (some ⟨r,0,none⟩)] w (fun v w'=>v = .int .i64 (Ap X Y (AG X) st).2/\∃ a' n' c' b' m' d',B8 w' q [.slice a' n' c',.slice b' m' d'] 34 /\
   ((Ap X Y (AG X) st).2=0->n'<=c'/\m'<=d'/\Ct w' lo w'.heap.size a' n' b' m' (Ap X Y (AG X) st).1.1 (Ap X Y (AG X) st).1.2)/\BP (fun j=>lo<=j/\(j<hi\/j=q)) w w'):=by
 have g:=O.desk.2.2.rd.1;have bh:=O.desk.2.2.rd.2;have dl:=g.len;have dk:=bh.len;have ck:=A8 ho;have da:=ck.1;have cj:n=6:=om
 obtain ⟨dn,bq,dc,de,di,a1,cn⟩:=P8 hz1;have al:st.kind≠7->∀ ad,AD w ad->Dq 246 [.pointer (some ⟨q,0,none⟩),.pointer (some ⟨r,0,none⟩)] ad _:=fun db ad o=>UG (g.ext o) (Bq.ext o).cells hx (hcr.ext o) cj om om om;by_cases u:st.kind=7
 .by_cases a2:Y.length=20
  .have s:Ap X Y (AG X) st=(([],[]),5):=by unfold Ap;rw [if_neg (by simp [hz1]),if_pos ⟨u,a2⟩]
   rw [s];refine oV Tryz.func179 ?_;refine jL hcr (k:=0) rfl ?_;refine iY<|jL Bq.cells (k:=1) rfl<|iY ?_;exact ⟨rfl,_,_,_,_,_,_,Bq,om,Vc.BP.refl _ _⟩
  .have bi:=Vx ho st.a.toNat;have bj:=Np (k:=st.a.toNat) ho a1 om;have bk:=Xz (k:=st.a.toNat) ho (cn u) om;have b8:=g;obtain ⟨co,bm,cc⟩:=b8;have dj:=bm.len;obtain ⟨ar,bp⟩:=AA (l:=co) (k:=st.a.toNat) om;obtain ⟨ae,ca,RA⟩:=cc.get bp;have a3:X.getD st.a.toNat []=ae:=Af ca;rw [a3] at bi bj bk;have cd:∀ ad,AD w ad->Dq 245 [.slice ar.a ar.n ar.c,.agg ⟨st.field.enc⟩,.agg ⟨st.sum.enc⟩] ad _:=fun ad o=>UF (c:=ar.c) (RA.1.ext o) hx.2.2.2.2.1 hx.2.2.2.2.2.1 bi bj bk;refine oV Tryz.func179 ?_;refine jL hcr (k:=0) rfl ?_;refine iY<|jL Bq.cells (k:=1) rfl<|iN<|dH (pB [0,2,4,6,8,10,12,14,16,18,20,22,24,26,29,31,33,35,37,39,40,42,45,47]) ?_;intro c0 p;refine dL Bq.cells (k:=0) rfl<|dL hcr (k:=1) rfl ?_;refine dI bm (st.a).toNat om bp fun c5 ds dd ce=>dO ce rfl<|D5 (n:=2) kR (k:=4) hcr rfl<|jG (n:=2) (k:=6) (hcr.ext p) rfl ?_;refine ⟨p,(cd _ p).mono ?_⟩;rintro _ dt ⟨ag,bv,be,rfl,cv,ak⟩;refine ⟨(xt p ak),?_⟩;(conv=>whnf);by_cases t:(A5 ae st.field st.sum).2=0
   .have s:Ap X Y (AG X) st=((X,Y++[(A5 ae st.field st.sum).1]),0):=by
     unfold Ap;rw [if_neg (by simp [hz1]),if_neg (fun g=>a2 g.2),if_pos u,a3,if_neg (by simp [t])]
    rw [s];refine iY<|jL (Bq.ext (xt p ak)).cells (k:=1) rfl<|bS Le (vs:=[Value.slice ag bv be]) ?_;intro c6 cz c9 dp bf bz;obtain ⟨aa,ah,af,y,ab⟩:=O;obtain ⟨a6,a7,an⟩:=List.nodup_append.1 ab.1;have ac:=af.lt;have au:=y.lt;have av:∀ j∈ah,lo<=j/\j<hi:=fun j e=>ab.2 j (List.mem_append_right _ e);have am:∀ j∈aa,lo<=j/\j<hi:=fun j e=>ab.2 j (List.mem_append_left _ e);obtain ⟨b2,cs,dq,b3⟩:=cv t;have ai:AD w cz:=xt (xt p ak) bf;have d0:=p.size;have dy:=ai.size;have bo:∀ j∈BW ag,c0.heap.size<=j:=fun j e=>by
     obtain ⟨c1,cq,rfl⟩:=Az.1 e;exact b2 c1 cq
    have cg:(BW ag).Nodup:=by cases ag<;>simp [BW]
    refine Co Le rfl (y.ext ai) a7 (show lo<=_ by omega) (d:=⟨ag,bv,be⟩) (x:=(A5 ae st.field st.sum).1) (f:=BW ag) (FR (b3.ext bf) cs) cg (fun j e a1=>by have:=bo j e;have:=au j a1;omega) bz.cells om om ?_;intro b5 b6 du ay a9 cu cx aq;have bn:∀ j,AL b j->lo<=j/\j<hi:=fun j e=>av j (y.blk j e);have cb:=(Bq.ext ai).mod aq (fun g=>by have:=bn q g;omega);have cm:=Bq.lt;have dz:=aq.size;refine jT cb (k:=1) sI rfl ?_;intro aw i b0;have c2:=i.but.size;have ci:=a9.lt;have a5:∀ j∈ay,lo<=j/\j≠q/\j∉aa:=fun j e=>by
     rcases cx j e with h | h | h
     .have:=av j h;exact ⟨this.1,om,fun g=>an j g j h rfl⟩
     .have:=bo j h;exact ⟨om,om,fun g=>by have:=ac j g;omega⟩
     .exact ⟨om,om,fun g=>by have:=ac j g;omega⟩
    have ba:CH (OG Aw 144) lo 78 aw a n c X aa:=af.keep fun j e=>by
     have h:=ac j e;have bh:=am j e;rw [i.block j om,aq.block j (fun g=>an j e j (y.blk j g) rfl) om,ai.block j h]
    have ap:CH En lo 161 aw b5 (m+1) b6 (Y++[(A5 ae st.field st.sum).1]) ay:=a9.keep fun j e=>i.block j (a5 j e).2.1;refine ⟨by rw [t],_,_,_,_,_,_,b0,fun _=>⟨ba.le.1,ap.le.1,_,_,aa,ay,ba.own.imp (fun _ _ _ g=>OG.os g),ap.own,List.nodup_append.2 ⟨a6,cu,fun bw a4 q hq o=>(a5 q hq).2.2 (o▸a4)⟩,fun j e=>?_⟩,?_⟩
    .rcases List.mem_append.1 e with e | e
     .have:=ac j e;have:=am j e;omega
     .have:=ci j e;have:=a5 j e;omega
    .exact (ai.mod.trans (aq.mono fun j e=>by have:=bn j e;omega)).trans (i.but.mono fun j e=>by have e:j=q:=e;omega)
   .have s:Ap X Y (AG X) st=(([],[]),(A5 ae st.field st.sum).2):=by
     unfold Ap;rw [if_neg (by simp [hz1]),if_neg (fun g=>a2 g.2),if_pos u,a3,if_pos t]
    rw [s];exact iN ⟨rfl,_,_,_,_,_,_,Bq.ext (xt p ak),fun b9=>absurd b9 t,(xt p ak).mod⟩
 .have al:=al u;by_cases t:(Be (X.getD st.a.toNat []) (X.getD st.b.toNat []) st).2=0
  .have s:Ap X Y (AG X) st=((X.set st.dst.toNat (Be (X.getD st.a.toNat []) (X.getD st.b.toNat []) st).1,Y),0):=by
    unfold Ap;rw [if_neg (by simp [hz1]),if_neg (fun g=>u g.1),if_neg u];exact if_neg (fun g=>g t)
   rw [s];rw [t] at al;refine oV Tryz.func179 ?_;refine jL hcr (k:=0) rfl ?_;refine iN<|(al _ (AD.refl _)).mono ?_;rintro _ cy ⟨bc,bu,bd,rfl,bx,z⟩;refine Au A7 mixed (pZ [0,5,10,20,25,30,40,16,36,45,53]) kR kR fun a8 ax=>dL (Bq.ext z).cells (k:=0) rfl<|dL (hcr.ext z) (k:=3) rfl ?_;(conv=>whnf);obtain ⟨aa,ah,af,y,ab⟩:=O;obtain ⟨a6,a7,an⟩:=List.nodup_append.1 ab.1;have ac:=af.lt;have au:=y.lt;have av:∀ j∈ah,lo<=j/\j<hi:=fun j e=>ab.2 j (List.mem_append_right _ e);have am:∀ j∈aa,lo<=j/\j<hi:=fun j e=>ab.2 j (List.mem_append_left _ e);obtain ⟨cr,b7,bl,az⟩:=bx rfl;have dw:=z.size;have dx:=ax.size;have ao:AD w a8:=xt z ax;have b4:DM Gm a8 a n 78 X aa:=(af.ext ao).own.imp (fun _ _ _ g=>OG.os g);obtain ⟨dv,cp⟩:=AA (l:=X) (k:=st.dst.toNat) om;obtain ⟨aj,c7,c8,cf,a0,c3,c4,dr,df,dm,cl⟩:=b4.hand a6 cp;subst cf;have dg:=ac aj a0;have dh:=am aj a0;refine pW (sz:=1) st.dst.toNat om om<|cl _ _ a8 ⟨bc,bu,bd⟩ _ b7 kR (Vc.BP.refl _ _) ⟨⟨_,bl.keep fun bt bq=>ax.block bt (bl.lt bt bq)⟩,cr⟩ az.1 (fun j e=>.inr fun g=>by have:=(az.2 j e).1;have:=ac j g;omega) _ ?_;intro aw bg i bb ct cw;have cm:=Bq.lt;have b1:=(Bq.ext ao).mod i.but (fun g=>by have g:q=aj:=g;omega);have c2:=i.but.size;have ch:=bb.lt;have br:∀ j∈bg,lo<=j/\j∉ah:=fun j e=>by
    rcases cw j e with h | h
    .exact ⟨(am j h).1,fun g=>an j h j g rfl⟩
    .have:=(az.2 j h).1;exact ⟨om,fun g=>by have:=au j g;omega⟩
   have ap:DM En aw b m 161 Y ah:=(y.ext ao).own.keep fun j e=>by
    rw [i.block j (fun g=>an aj a0 j e g.symm)]
   exact ⟨rfl,_,_,_,_,_,_,b1,fun _=>⟨af.le.1,y.le.1,_,_,bg,ah,bb,ap,List.nodup_append.2 ⟨ct,a7,fun bw a4 q hq o=>(br bw a4).2 (o▸hq)⟩,fun j e=>by
    rcases List.mem_append.1 e with e | e
    .have:=ch j e;have:=br j e;omega
    .have:=au j e;have:=av j e;omega⟩,ao.mod.trans (i.but.mono fun j e=>by have e:j=aj:=e;omega)⟩
  .have s:Ap X Y (AG X) st=(([],[]),(Be (X.getD st.a.toNat []) (X.getD st.b.toNat []) st).2):=by
    unfold Ap;rw [if_neg (by simp [hz1]),if_neg (fun g=>u g.1),if_neg u,if_pos t]
   rw [s];refine oV Tryz.func179 ?_;refine jL hcr (k:=0) rfl ?_;refine iN<|(al _ (AD.refl _)).mono ?_;rintro _ cy ⟨bc,bu,bd,rfl,bx,z⟩;exact iN ⟨rfl,_,_,_,_,_,_,(Bq.ext z),om,z.mod⟩
theorem Ve (h:Ac CA w a n X) (h2:Ac FB w b m Y) (ho:Aq X m=true) (hY:∀ y∈Y,y.length<=1048576) (hx:st.ok) :
  Dq 108 [.agg #[.slice a n c,.slice b m d],.agg ⟨st.enc⟩] w (fun v w'=>∃ a' n' c' b' m' d',v = .tuple #[.agg #[.slice a' n' c',.slice b' m' d'],.int .i64 (Ap X Y (AG X) st).2] /\
   ((Ap X Y (AG X) st).2=0->n'<=c'/\m'<=d'/\Ct w' w.heap.size w'.heap.size a' n' b' m' (Ap X Y (AG X) st).1.1 (Ap X Y (AG X) st).1.2)/\AD w w'):=by
 have ch:=h.len;have cg:=h2.len;have ah:=A8 ho;have ce:=ah.1;have bp:∀ az∈X,az.length<=1000/\∀ y∈az,y.length<=1000:=fun y au=>⟨by have:=(ah.2.2 y au).1;omega,fun b9 br=>by have:=(Bp ((ah.2.2 y au).2 b9 br).1).2.1;omega⟩;have cj:=Om ho;have ci:n=6:=om
 have bo:=fun r ai (x:AD w r) (ae:AK r ai 0 [.slice a n c,.slice b m d])=>KU (s:=[]) (h.ext x) (h2.ext x) ae om om bp hY;have ag:=fun r ai (x:AD w r) (ae:AK r ai 0 [.slice a n c,.slice b m d])=>L4 (b:=b) (m:=m) (d:=d) (s:=[]) (h.ext x) ae;rw [ho] at ag;cases av:EP st (AG X)
 .have bq:Ap X Y (AG X) st=(([],[]),2):=by unfold Ap;rw [if_pos av]
  rw [bq];refine oV Tryz.func108 ?_;refine AB.box ?_;intro be b6 bl bu j l;refine AB.box fun u b7 bm aw g t=>jN (z := .agg #[.slice none 0 0,.slice none 0 0]) fun o b8 ab ax e ad=>dM (ag _ _ (xt (xt j g) e) (l.ext (xt g e)).cells) fun b3 f=>dM (Ij (h.ext (xt (xt (xt j g) e) f)) (l.ext (xt (xt g e) f)).cells) fun b4 i=>(Mb hx om (t.ext (xt (xt e f) i)).cells).mono ?_;rintro _ ac ⟨rfl,k⟩;refine iT ?_;exact AB.build Oe rfl<|jS (vs:=[Value.slice none 0 0,Value.slice none 0 0]) (ad.ext (xt (xt f i) k)) rfl rfl cE fun cp bg a0=>AO (jR (n:=2) rfl a0.cells) ⟨_,_,_,_,_,_,rfl,om,(xb (xt (xt (xt (xt (xt j g) e) f) i) k) bg.but (nB (xt j g) ab))⟩
 .refine oV Tryz.func108 ?_;conv=>whnf
  refine AB.box ?_;intro be b6 bl bu j l;refine AB.box fun u b7 bm aw g t=>jN (z := .agg #[.slice none 0 0,.slice none 0 0]) fun o b8 ab ax e ad=>dM (ag _ _ (xt (xt j g) e) (l.ext (xt g e)).cells) fun b3 f=>dM (Ij (h.ext (xt (xt (xt j g) e) f)) (l.ext (xt (xt g e) f)).cells) fun b4 i=>dM (Mb hx om (t.ext (xt (xt e f) i)).cells) fun ac k=>iF<|(bo _ _ (xt (xt (xt (xt (xt j g) e) f) i) k) (l.ext (xt (xt (xt (xt g e) f) i) k)).cells).mono ?_;rintro _ cq ⟨ba,bf,bc,bj,rfl,b1,aa⟩;refine jN (z := .agg #[.slice none 0 0,.slice none 0 0]) fun ao cr ap cm q a1=>jS (vs:=[Value.slice ba n bf,Value.slice bc m bj]) a1 rfl rfl cE ?_;intro aj p a2;have al:AD w ac:=xt (xt (xt (xt (xt j g) e) f) i) k;have cu:=al.size;have cv:=aa.size;have cw:=q.size;have cx:=p.but.size;have co:o<ac.heap.size:=Nat.lt_of_lt_of_le ax (Below.size (xt (xt f i) k));have cn:u<ac.heap.size:=Nat.lt_of_lt_of_le aw (Below.size (xt (xt (xt e f) i) k));have cc:=xt (xt (xt (xt j g) e) f) i;have a9:=(b1.ext q).but p.but (.inr ap);have a6:B8 aj u st.enc 95:=(t.ext (xt (xt (xt (xt (xt e f) i) k) aa) q)).mod p.but (fun h=>by have h:u=ao:=h;omega);have a7:B8 aj o [.slice none 0 0,.slice none 0 0] 34:=(ad.ext (xt (xt (xt (xt f i) k) aa) q)).mod p.but (fun h=>by have h:o=ao:=h;omega);have a8:AD w aj:=xb (xt (xt al aa) q) p.but om;refine (W7 a9 om ho a2 ap om hx a6.cells av).mono ?_;rintro _ b5 ⟨rfl,bb,bw,bi,bd,bv,bk,a3,ay,an⟩;have ak:=a7.mod an (fun h=>by omega);have am:AD w b5:=xm a8 an (fun ck cf=>by omega);generalize Ap X Y (AG X) st=b2 at *;obtain ⟨⟨ca,cb⟩,cl⟩:=b2;dsimp only at ay ⊢;refine AW (fun aq=>?_) fun aq=>?_
  .exact AB.build Oe rfl<|jS (vs:=[Value.slice none 0 0,Value.slice none 0 0]) ak rfl rfl cE fun cs bh a4=>AO (jR (n:=2) rfl a4.cells) ⟨_,_,_,_,_,_,rfl,om,(xb am bh.but (nB (xt j g) ab))⟩
  .refine jA (n:=2) a3.cells rfl<|jS (vs:=[Value.slice bb bw bi,Value.slice bd bv bk]) ak rfl rfl cE fun ct af a5=>AO (jR (n:=2) rfl a5.cells) ⟨_,_,_,_,_,_,(by simp only [aq];rfl),?_,(xb am af.but (nB (xt j g) ab))⟩
   .intro bn;obtain ⟨bx,bz,b0⟩:=ay bn;exact ⟨bx,bz,(b0.mod af.but (fun bt cd h2 ar=>by have ar:bt=o:=ar;omega)).wide om af.but.size⟩
end Go.Proofs.YtalgenmoljcnmaaGreatDoor
namespace Go.M
open Go Go.Vc
variable {g d:List (List Int)} {f s:AE} {X:List (List (List Int))} {x:ET} {D:B7}
structure Jq (l:List ByteArray):Prop where
 n:l.length<=4001
 s:∀ x∈l,x.size<=40000
theorem Hj:Jq []:=⟨sI,sI⟩
theorem Gs {x:ByteArray} (h:x.size<=40000):Jq [x]:=⟨sI,by simpa using h⟩
theorem Yo (c:List Int) (f:AE):(Ad c f).length<=c.length:=by
 unfold Ad;simp;omega
theorem ZC (f:AE) (c:List Int):(AS f c).length=(Ad c f).length:=by simp [AS,CO]
theorem Gw {n:Int} (h0 : -40000000000000<=n) (h1:n<=40000000000000):(BV n).size<=21:=Bh om om
theorem HY {l:List ByteArray} (hl:l.length<=4000) (hs:∀ x∈l,x.size<=40000):Jq (CM l):=by
 unfold CM;refine ⟨sW,fun x a=>?_⟩;rcases List.mem_append.1 a with a | a
 .exact hs x a
 .rw [List.mem_singleton] at a;subst a;have:=Gw (n:=(l.length:Int)) om om;rw [ByteArray.size_append,BY];simp;omega
theorem Lp (h0:g≠[]) (h20:∀ c∈g,c.length<=20):(EV g f).size<=20:=by
 unfold EV;rw [I1,ZC];cases g with
 | nil=>exact absurd rfl h0
 | cons c a =>
  have:=Yo c f;have:=h20 c sI;simp only [List.headD_cons];omega
theorem RD (h:g∈Bj d f):g≠[]/\g.length<=d.length/\∀ c∈g,c∈d:=by
 obtain ⟨b,a⟩:=List.mem_iff_getElem?.1 h;exact RE a
theorem YC (hd:A2 d=true):∀ c∈d,c.length<=20:=fun c a=>(Bp ((Am hd).2 c a).1).2.1
theorem Na (hd:A2 d=true) (hs:Ah s (AJ d)=true) (hl:g.length<=d.length) (hg:∀ c∈g,c∈d) : -40000000000000<=Dv g s/\Dv g s<=40000000000000 :=
 JP (fun c a=>(Im (by rw [((Am hd).2 c (hg c a)).2];exact hs)).1) (by have:=(Am hd).1;omega)
theorem YV (d:List (List Int)) (f s:AE):Jq (CM (HK d f s).1):=by
 unfold HK;by_cases h:Bn d f s=0
 .rw [if_neg (by simp [h])];obtain ⟨c,r,j,_,_⟩:=Ph h;have q:=(Am c).1;have t:=Hk d f;refine HY sW fun u a=>?_;rcases List.mem_append.1 a with a | a
  .obtain ⟨o,n,rfl⟩:=List.mem_map.1 a;obtain ⟨k,l,i⟩:=RD n;have p:=Lp (f:=f) k fun e g=>YC c e (i e g);have b:=Na c j l i;have m:=Gw b.1 b.2;unfold Fv;simp only [ByteArray.size_append,BY,List.length_cons,List.length_nil];omega
  .rw [List.mem_singleton] at a;subst a;have b:=Na c j (Nat.le_refl _) fun e g=>g;have m:=Gw b.1 b.2;simp only [ByteArray.size_append,BY,List.length_cons,List.length_nil];omega
 .rw [if_pos h];exact HY sI sI
theorem Ot {B:Nat} (c:UInt8) (l:List ByteArray) (h:∀ x∈l,x.size<=B):(Dp c l).size<=l.length * (B+1):=by
 unfold Dp;rw [BY];have:=Po c (l.map (·.data.toList)) (B:=B) (fun e a=>by
  obtain ⟨d,b,rfl⟩:=List.mem_map.1 a;have:=h d b;simpa using this)
 simpa using this
theorem RU {s:ByteArray} (h:s.size<=40000):(ES s).size<=40000:=by
 unfold ES;split
 .rw [BY];simp
 .exact h
theorem ZR (hd:A2 d=true) (hs:Ah s (AJ d)=true):(A5 d f s).1.length<=40/\∀ x∈(A5 d f s).1,x.name.size<=20∧-40000000000000<=x.sum/\x.sum<=40000000000000:=by
 unfold A5;split
 .exact ⟨sI,sI⟩
 .have k:=(Am hd).1;have l:=Hk d f;refine ⟨sW,fun x i=>?_⟩;obtain ⟨j,h,rfl⟩:=List.mem_map.1 i;obtain ⟨c,e,b⟩:=RD h;exact ⟨Lp c fun a g=>YC hd a (b a g),Na hd hs e b⟩
theorem T3 {l:List AT} (hn:l.length<=40) (h:∀ x∈l,x.name.size<=20∧-40000000000000<=x.sum/\x.sum<=40000000000000):(GV l).size<=40000:=by
 unfold GV;have:=Ot (B:=42) 59 (l.map CV) (fun x c=>by
  obtain ⟨d,b,rfl⟩:=List.mem_map.1 c;have a:=h d b;have e:=Gw a.2.1 a.2.2;unfold CV;simp only [ByteArray.size_append,BY,List.length_cons,List.length_nil];omega)
 rw [List.length_map] at this;omega
theorem NK (h6:X.length=6) (h:∀ d∈X,d.length<=41):(DE (At X)).size<=40000:=by
 unfold DE;split
 .rw [BY];simp
 .rw [BY];unfold jn;have:=Po 32 ((At X).map Lib.itoa) (B:=21) (fun g e=>by
   obtain ⟨f,b,rfl⟩:=List.mem_map.1 e;unfold At at b;obtain ⟨d,c,rfl⟩:=List.mem_map.1 b;have:=h d c;have a:=Gw (n:=(d.length:Int)) om om;unfold BV at a;rw [BY] at a;exact a)
  rw [List.length_map,Jo] at this;omega
theorem VS {Y:List (List AT)} {W:Nat} (h0:(Ap X Y W x).2=0) :
  EP x W=true/\((x.kind=7/\(Ap X Y W x).1=(X,Y++[(A5 (X.getD x.a.toNat []) x.field x.sum).1]))\/(x.kind≠7/\(Ap X Y W x).1=(X.set x.dst.toNat (Be (X.getD x.a.toNat []) (X.getD x.b.toNat []) x).1,Y))):=by
 unfold Ap at h0 ⊢;split at h0
 .cases h0
 rename_i e;rw [if_neg e];split at h0
 .cases h0
 rename_i f;rw [if_neg f];split at h0
 .rename_i d;rw [if_pos d];split at h0
  .rename_i c;exact absurd h0 c
  .rename_i c;rw [if_neg c];exact ⟨by simpa using e,.inl ⟨d,rfl⟩⟩
 .rename_i d;rw [if_neg d];split at h0
  .rename_i c;exact absurd h0 c
  .rename_i c;rw [if_neg c];exact ⟨by simpa using e,.inr ⟨d,rfl⟩⟩
theorem Nc {W:Int} (h:EP x W=true) (h7:x.kind=7):Ah x.sum W=true:=by
 unfold EP at h;split at h
 .cases h
 split at h
 .cases h
 split at h
 .cases h
 .rename_i a;simp only [not_or,not_and,Bool.not_eq_false] at a;exact a.1 h7
theorem V0 (s:ByteArray):Jq (CM ((BZ s).1.map DO)):=by
 have b:=Jc s;refine HY (by simpa using b) fun g c=>?_;obtain ⟨d,a,rfl⟩:=List.mem_map.1 c;unfold BZ at a;split at a
 .have:=(Eb _ s.data.toList 0 (Nat.le_refl _) dE dE).1 d a;have e:=Fz (Ki this);have f:=FJ this;omega
 .cases a
theorem U8 (s:ByteArray):0<=(D4 s).1/\(D4 s).1<=600000:=by
 unfold D4;split
 .have:=Pk (l:=(BB s.data.toList 0).1) (fun b a=>(Eb _ s.data.toList 0 (Nat.le_refl _) dE dE).1 b a) 6;simpa using this
 .simp
theorem U2:(F4 d f).1.length<=8/\∀ p∈(F4 d f).1,0<=p.col/\p.col<20/\(p.mode=1\/p.mode=2):=by
 unfold F4;split
 .exact ⟨sI,sI⟩
 rename_i b;split
 .exact ⟨sI,sI⟩
 rename_i g;have c:(Bu d f).2=0:=by simpa using b
 have a:=WB c;have l:=Xt a.1;have h:=Bc a.2.1;have j:(CJ f:Int)=f.to_ - f.from_:=by unfold CJ;omega
 have k:=RL f;have i:=Wk d (K8 d f) (By f) (2 ^ (By f).length);refine ⟨?_,fun p e=>?_⟩
 .unfold Bw NR;rw [List.length_map];omega
 .have:=Pr a.2.1 (Vo (YK d (K8 d f) (By f) _) e);exact ⟨this.1,om,this.2.2⟩
theorem UY (d:List (List Int)) (f:AE):Jq [ES (Dp 32 ((F4 d f).1.map Bg))]:=by
 obtain ⟨g,b⟩:=U2 (d:=d) (f:=f);refine Gs (RU ?_);have:=Ot (B:=22) 32 ((F4 d f).1.map Bg) (fun j e=>by
  obtain ⟨a,c,rfl⟩:=List.mem_map.1 e;have h:=b a c;have i:=Gw (n:=a.col) om om;unfold Bg;rw [ByteArray.size_append];split<;>rw [BY]<;>simp<;>omega)
 rw [List.length_map] at this;omega
theorem Xd {w:ByteArray} {a:DF} (h:FP D.X D.Y.length D.s=true):Jq (BE D w a).1.2/\((∀ y∈D.Y,y.length<=1048576)->∀ y∈(BE D w a).1.1.Y,y.length<=1048576):=by
 obtain ⟨ai,aw⟩:=Dj.1 h;have t:=XM ai;have ag:∀ e∈D.X,e.length<=40:=fun e f=>(Am (t.2 e f)).1;have i:=Jk ai;have z:∀ (d:Nat) (e:List (List Int)),e.length<=41->(DE (At (D.X.set d e))).size<=40000:=fun d e f=>NK (by simp [t.1]) fun al c=>by
  rcases List.mem_or_eq_of_mem_set c with c | rfl
  .have:=ag al c;omega
  .exact f
 unfold BE;by_cases ab:w=Hr
 .rw [if_pos ab];exact ⟨V0 _,fun h=>h⟩
 rw [if_neg ab];by_cases ac:w=CU
 .rw [if_pos ac];by_cases l:CK (a.texts.getD 0 ⟨#[]⟩)≠0
  .rw [if_pos l];exact ⟨Hj,fun h=>h⟩
  rw [if_neg l];by_cases m:Aq (D.X.set (a.trays.getD 0 0).toNat (D.X.getD (a.trays.getD 0 0).toNat []++[CW (a.texts.getD 0 ⟨#[]⟩)])) D.Y.length=false
  .rw [if_pos m];exact ⟨Hj,fun h=>h⟩
  rw [if_neg m];exact ⟨Gs (z _ _ (by have:=(i (a.trays.getD 0 0).toNat).1;rw [List.length_append];simp only [List.length_singleton];omega)),fun h=>h⟩
 rw [if_neg ac];by_cases l:w=CL
 .rw [if_pos l];exact ⟨Gs (z _ _ sI),fun h=>h⟩
 rw [if_neg l];by_cases m:w=Cd
 .rw [if_pos m];cases ax:(D.X.getD (a.trays.getD 0 0).toNat []).find? (fun g=>decide (BG g≠0)) with
  | some g=>exact ⟨Hj,fun h=>h⟩
  | none =>
   refine ⟨HY (by have:=(i (a.trays.getD 0 0).toNat).1;rw [List.length_map];omega) fun q p=>?_,fun h=>h⟩;obtain ⟨g,an,rfl⟩:=List.mem_map.1 p;have:=(Bp ((i (a.trays.getD 0 0).toNat).2 g an).1).2.1;rw [I1,GF];omega
 rw [if_neg m];by_cases ad:w=D2
 .rw [if_pos ad];by_cases o:(A9 D.s ⟨a.trays.getD 0 0,(D.X.getD (a.trays.getD 0 0).toNat []).length,a.nums.getD 0 0,a.texts.getD 0 ⟨#[]⟩⟩).2≠0
  .rw [if_pos o];exact ⟨Hj,fun h=>h⟩
  .rw [if_neg o];refine ⟨Gs ?_,fun h=>h⟩;have:=U8 (A9 D.s ⟨a.trays.getD 0 0,(D.X.getD (a.trays.getD 0 0).toNat []).length,a.nums.getD 0 0,a.texts.getD 0 ⟨#[]⟩⟩).1;have:=Gw (n:=(D4 (A9 D.s ⟨a.trays.getD 0 0,(D.X.getD (a.trays.getD 0 0).toNat []).length,a.nums.getD 0 0,a.texts.getD 0 ⟨#[]⟩⟩).1).1) om om;omega
 rw [if_neg ad];by_cases o:w=Cp
 .rw [if_pos o];exact ⟨UY _ _,fun h=>h⟩
 rw [if_neg o];by_cases ae:w=GS
 .rw [if_pos ae];exact ⟨YV _ _ _,fun h=>h⟩
 rw [if_neg ae];by_cases aa:(Ap D.X D.Y (AG D.X) (Bb w a)).2≠0
 .rw [if_pos aa];exact ⟨Hj,fun h=>h⟩
 rw [if_neg aa];have au:(Ap D.X D.Y (AG D.X) (Bb w a)).2=0:=by simpa using aa
 obtain ⟨ah,v⟩:=VS au;have ao:∀ d,A2 (D.X.getD d [])=true:=fun d=>JE (W:=AG D.X) (i d).1 (i d).2;have ak:∀ (d:Nat) r s,Ah s (AG D.X)=true->(A5 (D.X.getD d []) r s).1.length<=40/\∀ q∈(A5 (D.X.getD d []) r s).1,q.name.size<=20∧-40000000000000<=q.sum/\q.sum<=40000000000000:=fun d r s ap=>by
  cases f:D.X.getD d [] with
  | nil=>exact ⟨by unfold A5;split<;>simp [Bj,A0,De],fun q p=>by unfold A5 at p;split at p<;>simp [Bj,A0,De] at p⟩
  | cons g av =>
   have am:=(i d).2 g (by rw [f];simp);have af:=ao d;rw [f] at af;exact ZR af (by show Ah s ((g.length:Nat):Int)=true;rw [am.2];exact ap)
 have aj:(∀ y∈D.Y,y.length<=1048576)->∀ y∈(Ap D.X D.Y (AG D.X) (Bb w a)).1.2,y.length<=1048576:=by
  rcases v with ⟨j,c⟩ | ⟨j,c⟩
  .rw [c];intro h y k;rcases List.mem_append.1 k with k | k
   .exact h y k
   .rw [List.mem_singleton] at k;subst k;have:=(ak (Bb w a).a.toNat (Bb w a).field _ (Nc ah j)).1;omega
  .rw [c];exact fun h=>h
 by_cases u:w≠BM
 .rw [if_pos u];refine ⟨Gs ?_,aj⟩;rcases v with ⟨j,c⟩ | ⟨j,c⟩
  .rw [c];exact NK t.1 fun e f=>by have:=ag e f;omega
  .rw [c];have:=Td (a:=D.X.getD (Bb w a).a.toNat []) (b:=D.X.getD (Bb w a).b.toNat []) (x:=Bb w a) (i _).1;exact z _ _ om
 .rw [if_neg u];have aq:w=BM:=Classical.not_not.1 u;have j:(Bb w a).kind=7:=by rw [aq];rfl
  refine ⟨Gs (RU ?_),aj⟩;rcases v with ⟨_,c⟩ | ⟨ar,c⟩
  .rw [c];rw [List.getLastD_eq_getLast?,List.getLast?_append];simp only [List.getLast?_singleton,Option.some_or,Option.getD_some];have:=ak (Bb w a).a.toNat (Bb w a).field _ (Nc ah j);exact T3 this.1 this.2
  .exact absurd j ar
theorem G7 (k:Int):(E4 k).size<=9:=by
 unfold E4;split
 .decide
 .have:∀ a:Nat,(EL.getD a ⟨#[]⟩).size<=9:=fun a=>by
   rcases Nat.lt_or_ge a 11 with b | b
   .have c:∀ a:Fin 11,(EL.getD a.val ⟨#[]⟩).size<=9:=dE
    exact c ⟨a,b⟩
   .rw [List.getD_eq_getElem?_getD,List.getElem?_eq_none (by exact b)];decide
  exact this _
theorem Ta (k:Int):Jq [Fe k]:=by
 refine Gs ?_;have:=G7 k;unfold Fe;rw [ByteArray.size_append,BY];simp;omega
theorem ZB (line:ByteArray) (h:FP D.X D.Y.length D.s=true):Jq (EM D line).1.2/\((EM D line).2=0->(∀ y∈D.Y,y.length<=1048576)->∀ y∈(EM D line).1.1.Y,y.length<=1048576):=by
 unfold EM;rw [if_neg (by simp [h])];split
 .exact ⟨Hj,fun b=>by cases b⟩
 split
 .exact ⟨Ta _,fun _ h=>h⟩
 split
 .exact ⟨Ta _,fun _ h=>h⟩
 .have:=Xd (D:=D) (w:=(Ay 32 line).headD ⟨#[]⟩) (a:=(Bi (Bd ((Ay 32 line).headD ⟨#[]⟩)) ((Ay 32 line).drop 1)).1) h;exact ⟨this.1,fun _=>this.2⟩
end Go.M
namespace Go.Proofs.YtalgenmoljcnmaaGreatDoor
section
open Go Go.RowKit Go.Vc Go.M Go.Shelf Go.Proofs
variable {t:Int} {w:World}
theorem J5 {log:ByteArray} (hs:log.size<=1048576) (ht:BH t) (hT:GR w) (hE:Eg w) (hM:EE w) :
  Dq 207 [.string log,.int .i64 t] w (fun v w'=>∃ a n c,v = .tuple #[.slice a n c,.int .i64 (Iy log t).2]/\Ab w.heap.size a/\Bs Ar.enc w' a n 151 (Iy log t).1/\AD w w'):=by
 have s:=Eb _ log.data.toList 0 (Nat.le_refl _) om om;have bq:log.data.toList.length=log.size:=sI
 obtain ⟨p,ae,ad,o⟩:∃ p ae ad,BZ log=(p,ae,ad):=⟨_,_,_,rfl⟩;have ag:∀ g,GR g->Eg g->EE g->Dq 121 [.string log] g (fun v w'=>∃ a n c,v = .tuple #[.slice a n c,.int .i64 ae,.int .i64 ad]/\Ab g.heap.size a/\Bs Ar.enc w' a n 151 p/\AD g w'):=fun g a1 a2 a3=>Jg hs o a1 a2 a3;unfold BZ at o;unfold Iy;by_cases am:Aj log=0
 .rw [if_pos am] at o ⊢;have bl:=s.2.2.2.1;have bm:=s.2.2.2.2;generalize (BB log.data.toList 0).2.2=bz at *;generalize (BB log.data.toList 0).1=bw at *;cases o
  clear s;cases br:Ey t 0 5
  .rw [if_neg sI];dsimp only;refine oV Tryz.func207 ?_;refine (ag _ hT hE hM).mono ?_;rintro _ aj ⟨ak,f,al,rfl,av,y,r⟩;refine (FL _ _).mono ?_;rintro _ _ ⟨rfl,rfl⟩;refine iT ?_;exact ⟨_,_,_,rfl,Ab.nil,Bs.nil,r⟩
  .rw [if_pos rfl];dsimp only;refine oV Tryz.func207 ?_;refine (ag _ hT hE hM).mono ?_;rintro _ aj ⟨ak,f,al,rfl,av,y,r⟩;refine (FL _ _).mono ?_;rintro _ _ ⟨rfl,rfl⟩;refine iF ?_;refine bS HO (vs:=[]) ?_;intro bf b0 az bu ax ao;have aq:=Ag (enc:=Ar.enc) Av ao az;have bn:=y.1;refine lR [1,9,27,28,29] (fun (b:Nat) a9 w'=>∃ aa ai ac,a9=[.int .i64 t,.slice aa ai ac,.slice ak f al,.int .i64 f,.int .i64 b]/\b<=f/\An Ar.enc 4 aj.heap.size 151 w' aa ai ac (Db (p.take b) t)/\AD aj w') (fun b=>f - b) 0 ⟨_,_,_,rfl,om,aq,ax⟩ ?_;rintro b bj _ w' ⟨aa,ai,ac,rfl,bk,e,d⟩;have bp:=e.len;have a4:=IH (p.take b) t;rw [List.length_take] at a4;have i:=y.ext d;by_cases bo:b<f
   .obtain ⟨h,u⟩:∃ h,(p)[b]? = some h:=AA om;by_cases an:h.tray=t
    .skip;refine iY ?_;obtain ⟨ab,rfl⟩:=(i).some om;have a7:ab<w'.heap.size:=i.lt _ rfl;refine jW (sz:=4) b rfl om ?_;have ah:=AU Av i u;refine jA (n:=4) ah rfl ?_;refine jN (z := .agg #[.int .i64 0,.int .i64 0,.int .i64 0,.string { data := #[] }]) ?_;intro aw a' m a6 l x;refine jS x (vs:=h.enc) rfl rfl (by simp [Ar.enc,AM]) fun ba j q=>jL q.cells (k:=0) rfl<|iY<|jA (n:=4) q.cells rfl<|AB.buildSlice HO (vs:=[Value.agg h.enc.toArray]) rF rF (by simp [Value.cells,Ar.enc]) dE ?_;intro bg b1 a0 bv af ap;have ar:=AH (n:=1) (enc:=Ar.enc) (xs:=[h]) Av ap a0 rfl dE;refine AN (enc:=Ar.enc) HO Av (e.ext (xt (xb l j.but m) af)) (ar.own.arr Av) (by intro b4 _;simp [Ar.enc,AM]) om om (Below.size (xt (xb (xt d l) j.but (nB d m)) af)) fun be bh b2 au a8 bt=>jP (((b+1:Nat):Int)) ⟨b+1,om,_,_,_,rfl,om,?_,(xm (xt (xb (xt d l) j.but (nB d m)) af) a8 (AQ e.new))⟩
     .rw [Ig u,if_pos an];exact au
    .skip;refine iY ?_;obtain ⟨ab,rfl⟩:=(i).some om;have a7:ab<w'.heap.size:=i.lt _ rfl;refine jW (sz:=4) b rfl om ?_;have ah:=AU Av i u;refine jA (n:=4) ah rfl<|jN (z := .agg #[.int .i64 0,.int .i64 0,.int .i64 0,.string { data := #[] }]) fun aw a' m a6 l x=>jS x (vs:=h.enc) rfl rfl (by simp [Ar.enc,AM]) fun ba j q=>jL q.cells (k:=0) rfl<|iN<|jP (((b+1:Nat):Int)) ⟨b+1,om,_,_,_,rfl,om,?_,(xb (xt d l) j.but (nB d m))⟩
     .rw [Ig u,if_neg an];exact e.ext (xb l j.but m)
   .have a5:b=f:=om
    subst a5;rw [List.take_of_length_le om] at e;exact iN ⟨_,_,_,rfl,(e.new.mono (Below.size r)),e.own,(xt r d)⟩
 .rw [if_neg am] at o ⊢;cases o
  clear s;dsimp only;refine oV Tryz.func207 ?_;refine (ag _ hT hE hM).mono ?_;rintro _ b3 ⟨bd,bx,bi,rfl,bb,bc,ay⟩;exact iT ⟨_,_,_,rfl,Ab.nil,Bs.nil,ay⟩
theorem LW {a:Option Addr} {n c:Nat} {xs:List Ar} (h:A4 Ar.enc 4 w a n xs) (hn:n<=4000) (ht:BH t) :
  Dq 177 [.slice a n c,.int .i64 t] w (fun v w'=>∃ a2 n2 c2,v = .slice a2 n2 c2/\Ab w.heap.size a2/\Bs Ar.enc w' a2 n2 151 (Db xs t)/\AD w w'):=by
 have ap:=h.len;have p:=IH xs t;refine oV Tryz.func177 ?_;refine bS HO (vs:=[]) ?_;intro aj ay ab av aa r;have u:=Ag (enc:=Ar.enc) Av r ab;refine lR [0,1,5,6] (fun (b:Nat) ah w'=>∃ i o j,ah=[.slice a n c,.int .i64 t,.slice i o j,.int .i64 b]/\b<=n/\An Ar.enc 4 w.heap.size 151 w' i o j (Db (xs.take b) t)/\AD w w') (fun b=>n - b) 0 ⟨_,_,_,rfl,om,u,aa⟩ ?_;rintro b an _ w' ⟨i,o,j,rfl,ao,d,e⟩;have ar:=d.len;have p:=IH (xs.take b) t;rw [List.length_take] at p;by_cases aq:b<n
 .obtain ⟨g,f⟩:∃ g,(xs)[b]? = some g:=AA om;by_cases q:g.tray=t
  .skip;refine iY<|jI (h.ext e) b rfl f fun z ag _ m=>jL m (k:=0) rfl<|iY<|jI (h.ext e) b rfl f fun al ax _ ad=>jA (n:=4) ad rfl<|AB.buildSlice HO (vs:=[Value.agg g.enc.toArray]) rF rF (by simp [Value.cells,Ar.enc]) dE ?_;intro ak az ac aw l s;have x:=AH (n:=1) (enc:=Ar.enc) (xs:=[g]) Av s ac rfl dE;refine AN (enc:=Ar.enc) HO Av (d.ext l) (x.own.arr Av) (by intro a1 _;simp [Ar.enc,AM]) om om (Below.size (xt e l)) fun ai am a0 y af au=>jP (((b+1:Nat):Int)) ⟨b+1,om,_,_,_,rfl,om,?_,(xm (xt e l) af (AQ d.new))⟩
   .rw [Ig f,if_pos q];exact y
  .skip;refine iY<|jI (h.ext e) b rfl f fun z ag _ m=>jL m (k:=0) rfl<|iN<|jP (((b+1:Nat):Int)) ⟨b+1,om,_,_,_,rfl,om,?_,e⟩
   .rw [Ig f,if_neg q];exact d
 .have ae:b=n:=om
  subst ae;rw [List.take_of_length_le om] at d;exact iN ⟨_,_,_,rfl,d.new,d.own,e⟩
end
section
open Go Go.RowKit Go.Vc Go.M Go.Shelf Go.Proofs
variable {log:ByteArray}
theorem Sl (hs:log.size<=1048576) {w:World} (hT:GR w) (hE:Eg w) (hM:EE w) :
  Dq 137 [.string log] w (fun v w'=>v=Vs (D4 log)/\AD w w'):=by
 have o:=Eb _ log.data.toList 0 (Nat.le_refl _) om om;unfold D4;refine oV Tryz.func137 ?_;conv=>whnf
 by_cases s:Aj log=0
 .rw [if_pos s];have ai:=o.1;have u:=o.2.2.2.1;have bc:=o.2.2.2.2;have bd:log.data.toList.length=log.size:=sI
  have a7:log.size<=4000:=by rcases Ce log with ⟨al,am⟩ | ⟨al,am,a2⟩ | ⟨al,am,a2⟩<;>omega
  clear o;have n:∀ (k:Nat) a,k<6->GR a->Eg a->EE a->Dq 207 [.string log,.int .i64 k] a (fun v w'=>∃ c b d,v = .tuple #[.slice c b d,.int .i64 0]/\Ab a.heap.size c/\Bs Ar.enc w' c b 151 (Db (BB log.data.toList 0).1 k)/\AD a w'):=fun k a a6 j l m=>by
   have:=J5 (t:=(k:Int)) hs ⟨om,om⟩ j l m;have i:Iy log (k:Int)=(Db (BB log.data.toList 0).1 k,0):=by
    unfold Iy;rw [if_pos s,if_pos (by simp only [Ey,Bool.and_eq_true,decide_eq_true_eq];omega)]
   rw [i] at this;exact this
  generalize (BB log.data.toList 0).2.2=bh at *;generalize (BB log.data.toList 0).2.1=a5 at *;generalize (BB log.data.toList 0).1=g at *;have ah:=Pk ai;refine lR [0,4,8] (fun (k:Nat) ad w'=>ad=[.string log,.int .i64 (Fm g k),.int .i64 k]/\k<=6/\AD w w') (fun k=>6 - k) 0 ⟨rfl,om,AD.refl _⟩ ?_;rintro k av _ w' ⟨rfl,bb,e⟩;have ay:(Db g k).length=0->Fm g (k+1)=Fm g k:=fun y=>by
   have:Db g (k:Int)=[]:=List.eq_nil_of_length_eq_zero y;simp [Fm,this,GH]
  have az:∀ b f,(Db g k).length=b+1->(Db g k)[b]? = some f->Fm g (k+1)=Fm g k+f.count:=fun b f y e=>by
   simp only [Fm,GH];rw [RG y,e]
  have a9:=ah k;have a':=ah (k+1);have a0:∀ b f,(Db g k)[b]? = some f->Cx f=true:=fun b f e=>ai f (MR (List.mem_of_getElem? e));have a8:=IH g k;have ba:BH (k:Int):=⟨om,om⟩;by_cases ag:k<6
  .generalize ae:Db g (k:Int)=p at *;cases af:p.length with
   | zero =>
    have z:∀ a,GR a->Eg a->EE a->Dq 207 [.string log,.int .i64 k] a (fun v w'=>∃ c d,v = .tuple #[.slice c 0 d,.int .i64 0]/\Ab a.heap.size c/\Bs Ar.enc w' c 0 151 p/\AD a w'):=fun a j l m=>by
     refine (n k a ag j l m).mono ?_;rintro _ aj ⟨c,ac,d,rfl,q,h,i⟩;rw [ae] at h;have aa:ac=0:=by have:=h.1;omega
     subst aa;exact ⟨c,d,rfl,q,h,i⟩
    have u:=ay af;clear n;refine iY<|(z _ (hT.ext e) (hE.ext e) (hM.ext e)).mono ?_;rintro _ ak ⟨ao,aq,rfl,an,r,x⟩;exact jP (((k+1:Nat):Int)) ⟨k+1,om,by rw [u];rfl,om,xt e x⟩
   | succ b =>
    obtain ⟨f,ab⟩:∃ f,p[b]? = some f:=AA om;have z:∀ a,GR a->Eg a->EE a->Dq 207 [.string log,.int .i64 k] a (fun v w'=>∃ c d,v = .tuple #[.slice c (b+1) d,.int .i64 0]/\Ab a.heap.size c/\Bs Ar.enc w' c (b+1) 151 p/\AD a w'):=fun a j l m=>by
     refine (n k a ag j l m).mono ?_;rintro _ aj ⟨c,ac,d,rfl,q,h,i⟩;rw [ae] at h;have aa:ac=b+1:=by have:=h.1;omega
     subst aa;exact ⟨c,d,rfl,q,h,i⟩
    have u:=az b f af ab;have a1:=a0 b f ab;have be:=Ki a1;clear n;refine iY<|(z _ (hT.ext e) (hE.ext e) (hM.ext e)).mono ?_;rintro _ ak ⟨ao,aq,rfl,an,r,x⟩;refine iY<|AB.sub ((b:Nat):Int) om om om ?_;obtain ⟨ap,rfl⟩:=(r).some om;have bf:ap<ak.heap.size:=r.lt _ rfl;refine jW (sz:=4) b rfl om ?_;have aw:=AU Av r ab;exact jL aw (k:=1) rfl<|AB.add _ rfl om om<|jP (((k+1:Nat):Int)) ⟨k+1,om,by rw [u];rfl,om,xt e x⟩
  .have ax:k=6:=om
   subst ax;exact ⟨rfl,e⟩
 .rw [if_neg s];have n:∀ a,GR a->Eg a->EE a->Dq 207 [.string log,.int .i64 0] a (fun v w'=>∃ c b d,v = .tuple #[.slice c b d,.int .i64 (Aj log)]/\AD a w'):=fun a j l m=>by
   refine (J5 (t:=0) hs ⟨om,om⟩ j l m).mono ?_;rintro _ aj ⟨c,b,d,rfl,q,h,i⟩;have ar:(Iy log 0).2=Aj log:=by
    unfold Iy;rw [if_neg s]
   rw [ar];exact ⟨c,b,d,rfl,i⟩
  clear o;refine lR [0,4,8] (fun (k:Nat) ad w'=>k=0/\ad=[.string log,.int .i64 0,.int .i64 0]/\w=w') (fun k=>6 - k) 0 ⟨rfl,rfl,rfl⟩ ?_;rintro k av _ w' ⟨rfl,rfl,rfl⟩;refine (n _ hT hE hM).mono ?_;rintro _ bi ⟨a3,bg,a4,rfl,au⟩;exact iT ⟨rfl,au⟩
theorem R0 (hs:log.size<=1048576) (w:World) :
  Dq 106 [.string log] w (fun v w'=>v=Vs (D4 log)/\AD w w'):=by
 have o:=Eb _ log.data.toList 0 (Nat.le_refl _) om om;have bh:log.data.toList.length=log.size:=sI
 unfold D4;have n:∀ b,Dq 60 [.string log] b (fun v w'=>∃ m,v = .tuple #[.pointer (some ⟨m,0,none⟩),.int .i64 (Aj log)]/\AD b w'/\b.heap.size<=m /\
   (log.size<=4000->∃ f d i,B8 w' m [.string log,.int .i64 ((BB log.data.toList 0).2.2:Nat),.int .i64 (BB log.data.toList 0).2.1,.slice f d i] 156/\Ab b.heap.size f/\Bs Ar.enc w' f d 151 (BB log.data.toList 0).1)):=fun b=>HU hs b
 by_cases ad:Aj log=0
 .rw [if_pos ad];have av:log.size<=4000:=by rcases Ce log with ⟨ap,aq⟩ | ⟨ap,aq,a4⟩ | ⟨ap,aq,a4⟩<;>omega
  have am:=o.1;have t:=o.2.2.2.1;have be:=o.2.2.2.2;clear o;generalize (BB log.data.toList 0).2.2=bk at *;generalize (BB log.data.toList 0).2.1=a9 at *;generalize (BB log.data.toList 0).1=c at *;rw [ad] at n;have al:=Pk am;refine oV Tryz.func106 ?_;refine (n _).mono ?_;rintro _ ao ⟨m,rfl,z,p,u⟩;obtain ⟨f,d,i,ah,r,g⟩:=u av;have bf:=g.1;clear n u;refine lR [4,6,7] (fun (a:Nat) a3 w'=>a3=[.pointer (some ⟨m,0,none⟩),.int .i64 (Fm c a),.int .i64 a]/\a<=6/\AD ao w') (fun a=>6 - a) 0 ⟨rfl,om,AD.refl _⟩ ?_;rintro a a' _ w' ⟨rfl,bd,h⟩;have ay:(Db c a).length=0->Fm c (a+1)=Fm c a:=fun ab=>by
   have:Db c (a:Int)=[]:=List.eq_nil_of_length_eq_zero ab;simp [Fm,this,GH]
  have az:∀ d e,(Db c a).length=d+1->(Db c a)[d]? = some e->Fm c (a+1)=Fm c a+e.count:=fun d e ab h=>by
   simp only [Fm,GH];rw [RG ab,h]
  have bb:=al a;have bc:=al (a+1);have a0:∀ d e,(Db c a)[d]? = some e->Cx e=true:=fun d e h=>am e (MR (List.mem_of_getElem? h));have ba:=IH c a;have ak:BH (a:Int):=⟨om,om⟩;by_cases bg:a<6
  .generalize ai:Db c (a:Int)=q at *;cases aj:q.length with
   | zero =>
    have ac:∀ b,A4 Ar.enc 4 b f d c->Dq 177 [.slice f d i,.int .i64 a] b (fun v w'=>∃ l x,v = .slice l 0 x/\Ab b.heap.size l/\Bs Ar.enc w' l 0 151 q/\AD b w'):=fun b p=>by
     refine (LW p om ak).mono ?_;rintro _ a2 ⟨f,ag,i,rfl,r,g,y⟩;rw [ai] at g;have ae:ag=0:=by have:=g.1;omega
     subst ae;exact ⟨f,i,rfl,r,g,y⟩
    have t:=ay aj;skip;refine iY<|jL (ah.ext h).cells (k:=3) rfl<|(ac _ ((g.ext h).arr Av)).mono ?_;rintro _ an ⟨a5,a7,rfl,ar,s,aa⟩;exact jP (((a+1:Nat):Int)) ⟨a+1,om,by rw [t];rfl,om,xt h aa⟩
   | succ j =>
    obtain ⟨e,af⟩:∃ e,q[j]? = some e:=AA om;have ac:∀ b,A4 Ar.enc 4 b f d c->Dq 177 [.slice f d i,.int .i64 a] b (fun v w'=>∃ l x,v = .slice l (j+1) x/\Ab b.heap.size l/\Bs Ar.enc w' l (j+1) 151 q/\AD b w'):=fun b p=>by
     refine (LW p om ak).mono ?_;rintro _ a2 ⟨f,ag,i,rfl,r,g,y⟩;rw [ai] at g;have ae:ag=j+1:=by have:=g.1;omega
     subst ae;exact ⟨f,i,rfl,r,g,y⟩
    have t:=az j e aj af;have a1:=a0 j e af;have bi:=Ki a1;skip;refine iY<|jL (ah.ext h).cells (k:=3) rfl<|(ac _ ((g.ext h).arr Av)).mono ?_;rintro _ an ⟨a6,a8,rfl,ar,s,aa⟩;refine iY<|AB.sub ((j:Nat):Int) om om om ?_;obtain ⟨au,rfl⟩:=(s).some om;have bj:au<an.heap.size:=s.lt _ rfl;refine jW (sz:=4) j rfl om ?_;have aw:=AU Av s af;exact jL aw (k:=1) rfl<|AB.add _ rfl om om<|jP (((a+1:Nat):Int)) ⟨a+1,om,by rw [t];rfl,om,xt h aa⟩
  .have ax:a=6:=om
   subst ax;exact ⟨rfl,(xt z h)⟩
 .rw [if_neg ad];refine oV Tryz.func106 ?_;refine (n _).mono ?_;rintro _ ao ⟨m,rfl,z,p,u⟩;clear n u o;exact iT ⟨rfl,z⟩
end
end Go.Proofs.YtalgenmoljcnmaaGreatDoor
