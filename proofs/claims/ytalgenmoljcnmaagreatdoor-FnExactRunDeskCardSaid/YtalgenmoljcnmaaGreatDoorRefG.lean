/- Parts of the proof; no conditions of its own. -/
import Derived.Test.YtalgenmoljcnmaaGreatDoorRefE
namespace Go.Vc
open Go Go.RowKit
theorem Bx.none {α:Type} {E:Ow α} {w:World} {B e:Nat}:Bx E B e w none 0 0 ([]:List α) []:=⟨[],[],Ai.nil,HY.nil,by simp [BU]⟩
end Go.Vc
namespace Go.Proofs.YtalgenmoljcnmaaGreatDoor
open Go Go.RowKit Go.Vc Go.M
variable {w:World} {a b:Option Addr} {n c m d q r:Nat} {X:List (List (List Int))} {Y:List (List A9)} {st:EB}
theorem I2 (k:Int) (w:World):Dq 110 [.int .i64 k] w (fun v w'=>v = .bool (DV k)/\AD w w'):=by
 refine oV Tryz.func110 ?_;refine (Em _ _ _ _).mono ?_;rintro _ _ ⟨rfl,rfl⟩;exact ⟨rfl,AD.refl _⟩
theorem Lu {x:EB} (hx:x.ok) {width:Int} (hw:1<=width/\width<=20) {b:Nat} (hc:AK w b 0 x.enc) :
  Dq 178 [.pointer (some ⟨b,0,none⟩),.int .i64 width] w (fun v w'=>v = .bool (BE x width)/\AD w w'):=by
 have az:Dc width 1 20=true:=by simp [Dc];omega
 have ax:(x.text=(⟨#[]⟩:ByteArray))=(x.text.size=0):=by
  refine propext ⟨fun e=>by rw [e];rfl,fun e=>?_⟩;apply CV;have j:x.text.data.toList.length=0:=by simpa using e
  rw [List.eq_nil_of_length_eq_zero j]
 have af:AR x.field width=true->AR x.field 20=true:=fun e=>by
  simp only [AR,Bool.and_eq_true,decide_eq_true_eq] at e ⊢;omega
 have ac:∀ p,AR x.field width=true->Dq 244 [.string x.text,.agg ⟨x.field.enc⟩] p _:=fun p e=>Lw hx.2.2.2.2.2.2 (af e) p;obtain ⟨au,ak,al,am,an,ah,ay⟩:=hx;refine oV Tryz.func178 ?_;conv=>whnf
 refine jL hc (k:=0) rfl ?_;(conv=>whnf);refine (Em _ _ _ _).mono ?_;rintro _ _ ⟨rfl,rfl⟩;(conv=>whnf);with_reducible refine A7 (fun j=>?_) (fun j=>?_)
 ·(conv=>whnf);refine ⟨congrArg Value.bool (by first | (simp [BE, *];done) | (simp_all [BE,DV,Dc];done)),AD.refl _⟩
 ·(conv=>whnf);have ao:=Bs j;refine jL hc (k:=1) rfl ?_;(conv=>whnf);refine (GG _ _).mono ?_;rintro _ _ ⟨rfl,rfl⟩;(conv=>whnf);with_reducible refine A7 (fun s=>?_) (fun s=>?_)
  ·(conv=>whnf);refine ⟨congrArg Value.bool (by first | (simp [BE, *];done) | (simp_all [BE,DV,Dc];done)),AD.refl _⟩
  ·(conv=>whnf);have ap:=Bs s;refine jL hc (k:=2) rfl ?_;(conv=>whnf);refine (GG _ _).mono ?_;rintro _ _ ⟨rfl,rfl⟩;(conv=>whnf);with_reducible refine A7 (fun t=>?_) (fun t=>?_)
   ·(conv=>whnf);refine ⟨congrArg Value.bool (by first | (simp [BE, *];done) | (simp_all [BE,DV,Dc];done)),AD.refl _⟩
   ·(conv=>whnf);have aq:=Bs t;refine jL hc (k:=3) rfl ?_;(conv=>whnf);refine (GG _ _).mono ?_;rintro _ _ ⟨rfl,rfl⟩;(conv=>whnf);with_reducible refine A7 (fun u=>?_) (fun u=>?_)
    ·(conv=>whnf);refine ⟨congrArg Value.bool (by first | (simp [BE, *];done) | (simp_all [BE,DV,Dc];done)),AD.refl _⟩
    ·(conv=>whnf);have ar:=Bs u;refine jG (n:=2) (k:=4) hc rfl ?_;(conv=>whnf);refine (Cg _ _ _).mono ?_;rintro _ z ⟨rfl,f⟩;(conv=>whnf);with_reducible refine A7 (fun r=>?_) (fun r=>?_)
     ·(conv=>whnf);refine ⟨congrArg Value.bool (by first | (simp [BE, *];done) | (simp_all [BE,DV,Dc];done)),f⟩
     ·(conv=>whnf);refine jL (hc.ext f) (k:=2) rfl ?_;(conv=>whnf);with_reducible refine Ak (fun h=>?_) (fun h=>?_)
      focus
       (conv=>whnf);refine jL (hc.ext f) (k:=0) rfl ?_;(conv=>whnf);refine (I2 _ _).mono ?_;rintro _ aa ⟨rfl,m⟩;(conv=>whnf);with_reducible refine A7 (fun g=>?_) (fun g=>?_)
       ·(conv=>whnf);refine ⟨congrArg Value.bool (by first | (simp [BE, *];done) | (simp_all [BE,DV,Dc];done)),(xt f m)⟩
       have a:AD w aa:=xt f m;have ae:¬ (x.b≠0/\DV x.kind=false):=by simp [g]
       have y:x.b=0\/DV x.kind=true := .inr g;clear m h g;generalize aa=aj at *
      rotate_left
      focus
       have a:AD w z:=f;have ae:¬ (x.b≠0/\DV x.kind=false):=by simp [h]
       have y:x.b=0\/DV x.kind=true := .inl (by simpa using h);clear h;generalize z=aj at *
      all_goals
       (conv=>whnf);refine jL (hc.ext a) (k:=0) rfl ?_;(conv=>whnf);with_reducible refine AL (fun g=>?_) (fun g=>?_)
       ·(conv=>whnf);refine dH (pB [1,3,5,7,9,11,12,14,16,18,21,23,25,27,28,30,32,34,36,39,41,43,45,47,49,51,53,55,57,59,61,63,65,67,69]) ?_;(conv=>whnf);intro a0 c;(conv=>whnf);refine jL (hc.ext (xt a c)) (k:=3) rfl ?_;(conv=>whnf);refine ⟨c,?_⟩;(conv=>whnf);with_reducible refine AL (fun ab=>?_) (fun ab=>?_)
        ·(conv=>whnf);refine D4 (n:=2) kR (k:=6) (hc.ext a) rfl ?_;(conv=>whnf);refine (Cg _ _ _).mono ?_;rintro _ a1 ⟨rfl,d⟩;(conv=>whnf);refine ⟨(xt c d),?_⟩;(conv=>whnf);with_reducible refine BS (fun l=>?_) (fun l=>?_)
         ·(conv=>whnf);refine dL (hc.ext a) (k:=7) rfl ?_;(conv=>whnf);refine jL (hc.ext (xt (xt a c) d)) (k:=6) rfl ?_;(conv=>whnf);refine ⟨(xt c d),?_⟩;(conv=>whnf);have aw:=BV l;refine AB.sub _ rfl om om ?_;(conv=>whnf);refine ⟨(xt c d),?_⟩;(conv=>whnf);with_reducible refine AL (fun o=>?_) (fun o=>?_)
          ·(conv=>whnf);refine jL (hc.ext (xt (xt a c) d)) (k:=8) rfl ?_;(conv=>whnf);refine ⟨(xt c d),?_⟩;(conv=>whnf);refine ⟨congrArg Value.bool (by first | (simp [BE, *];done) | (simp_all [BE,DV,Dc,Af];done)),(xt (xt a c) d)⟩
          ·(conv=>whnf);refine ⟨congrArg Value.bool (by first | (simp [BE, *];done) | (simp_all [BE,DV,Dc,Af];done)),(xt (xt a c) d)⟩
         ·(conv=>whnf);refine ⟨congrArg Value.bool (by first | (simp [BE, *];done) | (simp_all [BE,DV,Dc,Af];done)),(xt (xt a c) d)⟩
        ·(conv=>whnf);refine ⟨congrArg Value.bool (by first | (simp [BE, *];done) | (simp_all [BE,DV,Dc,Af];done)),(xt a c)⟩
       ·(conv=>whnf);refine jG (n:=2) (k:=6) (hc.ext a) rfl ?_;(conv=>whnf);refine AB.build PU rfl ?_;(conv=>whnf);refine JP (ks:=[false,false]) (xs:=x.sum.enc) (ys:=(AF.mk 0 0).enc) kR kR (F6 ah) (F6 ⟨by unfold BM;decide,by unfold BM;decide⟩) ?_;rw [show Fp x.sum.enc (AF.mk 0 0).enc=_ from H5 x.sum];(conv=>whnf);with_reducible refine Ak (fun l=>?_) (fun l=>?_)
        ·(conv=>whnf);refine ⟨congrArg Value.bool (by first | (simp [BE, *];done) | (simp_all [BE,DV,Dc,Af];done)),a⟩
        ·(conv=>whnf);refine jL (hc.ext a) (k:=0) rfl ?_;(conv=>whnf);with_reducible refine AL (fun o=>?_) (fun o=>?_)
         ·(conv=>whnf);refine dH (pB [0,2,4,6,9,11,13,15,17,19,21]) ?_;(conv=>whnf);intro a2 i;(conv=>whnf);refine dL (hc.ext a) (k:=8) rfl ?_;(conv=>whnf);refine jG (n:=2) (k:=4) (hc.ext (xt a i)) rfl ?_;(conv=>whnf);refine ⟨i,?_⟩;(conv=>whnf);refine (ac _ r).mono ?_;rintro _ a3 ⟨rfl,q⟩;(conv=>whnf);refine ⟨(xt i q),?_⟩;(conv=>whnf);refine ⟨?_,(xt (xt a i) q)⟩;have ai:BE x width=(CM x.text && decide ((x.text.size:Int)=x.field.to_ - x.field.from_)):=by rcases y with ad | ad<;>simp_all [BE]
          rw [ai];by_cases ag:(x.text.size:Int)=x.field.to_ - x.field.from_<;>cases av:CM x.text<;>simp [ag]
         ·(conv=>whnf);refine jL (hc.ext a) (k:=8) rfl ?_;(conv=>whnf);refine ⟨congrArg Value.bool (by first | (simp [BE, *];done) | (simp_all [BE,DV,Dc,Af];done)),a⟩
theorem Nw {s:List Value} (h:Ar DM w a n X) (h2:Ar LG w b m Y) (hc:AK w q 0 ([.slice a n c,.slice b m d]++s)) (hn2:n<=1000) (hm2:m<=1000) (hX:∀ x∈X,x.length<=1000/\∀ y∈x,y.length<=1000) (hY:∀ y∈Y,y.length<=1048576) :
  Dq 62 [.pointer (some ⟨q,0,none⟩)] w (fun v w'=>∃ a' c' b' d',v = .agg #[.slice a' n c',.slice b' m d']/\GQ w' w.heap.size w'.heap.size a' n c' b' m d' X Y/\AD w w'):=by
 have d2:=h.len;have d1:=h2.len;obtain ⟨c7,b5,cr⟩:=h;obtain ⟨cq,b6,cs⟩:=h2;have dz:=b5.len;have d0:=b6.len;refine oV Tryz.func62 ?_;refine jN (z := .agg #[.slice none 0 0,.slice none 0 0]) ?_;intro t eh ds d7 b2 cf;refine AB.build Ko rfl ?_;refine jN (z := .agg #[.slice none 0 0,.slice none 0 0]) ?_;intro j ek dt d8 bh ck;refine jS (vs:=[.slice none 0 0,.slice none 0 0]) ck rfl rfl (by simp [AE]) ?_;intro u bf a7;have er:=b2.size;have et:=bh.size;have eu:=bf.but.size;have cm:AD w u:=xb (xt b2 bh) bf.but om;have bt:CD u t [.slice none 0 0,.slice none 0 0] 34:=(cf.ext bh).mod bf.but (fun h=>by have h:t=j:=h;omega);refine lR [0,2,3,4] (fun (i:Nat) bq w'=>∃ ag an ap,bq=[.pointer (some ⟨q,0,none⟩),.pointer (some ⟨t,0,none⟩),.pointer (some ⟨j,0,none⟩),.int .i64 i]/\i<=n/\Bx (OG A0 144) w.heap.size 78 w' ag i an (X.take i) ap/\ap.Nodup/\(∀ e∈ap,u.heap.size<=e)/\CD w' j [.slice ag i an,.slice none 0 0] 34/\BY (fun e=>e=j) u w') (fun i=>n - i) 0 ⟨_,_,[],rfl,om,Bx.none,sI,sI,a7,Vc.BY.refl _ _⟩ ?_;rintro i co _ ae ⟨ag,an,ap,rfl,dy,ac,b8,ai,ab,a6⟩;have az:AD w ae:=xb cm a6 om;have ew:=a6.size;have a9:AK ae q 0 ([.slice a n c,.slice b m d]++s):=hc.ext az;rcases Nat.lt_or_ge i n with c3 | c3
 .obtain ⟨p,av⟩:=AA (l:=c7) (k:=i) om;obtain ⟨x,aw,al⟩:=cr.get av;obtain ⟨c8,c9⟩:=hX x (List.mem_of_getElem? aw);have c6:=al.1.len;have cv:=b5.ext az;have cu:∀ ak,AD w ak->Dq 92 [.slice p.a p.n p.c] ak (fun v w'=>∃ a' c',v = .slice a' p.n c'/\p.n<=c'/\BZ A0 ak.heap.size 144 w' a' p.n c' x/\Ad ak.heap.size a'/\AD ak w'):=fun ak b1=>HF (al.1.ext b1) om c9;refine jL a9 (k:=0) rfl ?_;refine iY ?_;refine Av A8 mixed (pZ [0,10,15,20,30,6,26,35,41,47,52,58,60,68]) kR kR ?_;intro ec ao;refine dL ab.cells (k:=0) rfl ?_;refine dL a9 (k:=0) rfl ?_;refine pI cv i rfl av ?_;intro dk d9 du cx;refine dO cx rfl ?_;refine (cu _ (xt az ao)).mono ?_;rintro _ ee ⟨bv,bw,rfl,eb,dd,dj,a2⟩;refine ⟨(xt ao a2),?_⟩;refine bS Dm (vs:=[Value.slice bv p.n bw]) ?_;intro dl de dq d4 a3 cc;refine ⟨(xt (xt ao a2) a3),?_⟩;obtain ⟨cn,ct,bj⟩:=F9 dd;have ba:AD ae de:=xt (xt ao a2) a3;have el:=ao.size;have em:=a2.size;have en:=a3.size;have bn:=ac.lt;refine CY Dm rfl (ac.ext ba) b8 om (d:=⟨bv,p.n,bw⟩) (x:=x) (f:=cn) ⟨_,ct.ext a3⟩ bj.1 (fun e g bl=>by have:=(bj.2 e g).1;have:=bn e bl;omega) cc.cells om om ?_;intro be bg ef b3 bd bo bp aa;have cz:j<u.heap.size:=a7.lt;have bk:∀ e,AN ag e->e≠j:=fun e g=>by have:=ai e (ac.blk e g);omega
  have bi:=(ab.ext ba).mod aa (fun h=>bk j h rfl);have di:=aa.size;refine jT bi (k:=0) sI rfl ?_;intro ed bx cb;refine jP (((i+1:Nat):Int)) ?_;have au:∀ e∈b3,u.heap.size<=e:=fun e g=>by
   rcases bp e g with r | r | r
   .exact ai e r
   .have:=(bj.2 e r).1;omega
   .omega
  refine ⟨i+1,om,be,bg,b3,rfl,om,?_,bo,au,cb,?_⟩
  .rw [List.take_add_one,aw];exact bd.keep fun e g=>bx.block e (by have:=au e g;omega)
  .exact Cv (Cv (a6.trans ba.mod) aa (fun e g=>.inr (ai e (ac.blk e g)))) bx.but (fun e g=>.inl g)
 .obtain rfl:i=n:=om
  rw [List.take_of_length_le om] at ac;refine jL a9 (k:=0) rfl ?_;refine iN ?_;have ch:CD ae t [.slice none 0 0,.slice none 0 0] 34:=bt.mod a6 (fun h=>by have h:t=j:=h;omega);have cz:j<u.heap.size:=a7.lt;refine lR [0,2,3,5] (fun (o:Nat) bq w'=>∃ am a1 aq,bq=[.pointer (some ⟨q,0,none⟩),.pointer (some ⟨t,0,none⟩),.pointer (some ⟨j,0,none⟩),.int .i64 o]/\o<=m/\Bx G4 w.heap.size 161 w' am o a1 (Y.take o) aq/\aq.Nodup/\(∀ e∈aq,ae.heap.size<=e)/\CD w' j [.slice ag i an,.slice am o a1] 34/\BY (fun e=>e=j) ae w') (fun o=>m - o) 0 ⟨_,_,[],rfl,om,Bx.none,sI,sI,ab,Vc.BY.refl _ _⟩ ?_;rintro o co _ br ⟨am,a1,aq,rfl,dx,ad,b9,aj,ab,ar⟩;have ax:AD w br:=xb az ar om;have ex:=ar.size;have a8:AK br q 0 ([.slice a i c,.slice b m d]++s):=hc.ext ax;rcases Nat.lt_or_ge o m with c2 | c2
  .obtain ⟨p,av⟩:=AA (l:=cq) (k:=o) om;obtain ⟨x,aw,al⟩:=cs.get av;have c8:=hY x (List.mem_of_getElem? aw);have c6:=al.1.len;have cw:=b6.ext ax;refine jL a8 (k:=1) rfl ?_;refine iY ?_;refine Gj [12,14] A8 mixed (pZ [0,15,20,25,35,6,31,40,46,12,52,57,63,65,73]) kR kR ?_;intro ca ah;refine dL ab.cells (k:=1) rfl ?_;refine dL a8 (k:=1) rfl ?_;refine pI cw o rfl av ?_;intro dm ea dv cy;refine dO cy rfl ?_;refine bS IQ (vs:=[]) ?_;intro dn eg cp d5 a4 cd;have bu:=Ab (enc:=A9.enc) Bu cd cp;refine ⟨(xt ah a4),?_⟩;refine Dw (enc:=A9.enc) IQ Bu bu (al.1.ext (xt (xt ax ah) a4)) (by intro y _;simp [A9.enc,AE]) om om (Below.size a4) ?_;intro af bz df bc db d3;have ay:AD ca df:=xm a4 db (AO bu.new);refine ⟨xt ah ay,?_⟩;refine bS K1 (vs:=[Value.slice af p.n bz]) ?_;intro dp dg dr d6 a5 ce;refine ⟨xt (xt ah ay) a5,?_⟩;have bb:AD br dg:=xt (xt ah ay) a5;have eo:=ah.size;have ep:=ay.size;have eq:=a5.size;have bn:=ad.lt;have b7:∀ e∈BU af,ca.heap.size<=e:=fun e g=>by
    obtain ⟨y,da,rfl⟩:=A2.1 g;exact bc.new y da
   have c0:(BU af).Nodup:=by cases af<;>simp [BU]
   refine CY K1 rfl (ad.ext bb) b9 om (d:=⟨af,p.n,bz⟩) (x:=x) (f:=BU af) (Fg (bc.ext a5).own bc.le.1) c0 (fun e g bl=>by have:=b7 e g;have:=bn e bl;omega) ce.cells om om ?_;intro be bg ei b4 bd bo bp aa;have bk:∀ e,AN am e->e≠j:=fun e g=>by have:=aj e (ad.blk e g);omega
   have bi:=(ab.ext bb).mod aa (fun h=>bk j h rfl);have di:=aa.size;refine jT bi (k:=1) sI rfl ?_;intro ej b0 cg;refine jP (((o+1:Nat):Int)) ?_;have au:∀ e∈b4,ae.heap.size<=e:=fun e g=>by
    rcases bp e g with r | r | r
    .exact aj e r
    .have:=b7 e r;omega
    .omega
   refine ⟨o+1,om,be,bg,b4,rfl,om,?_,bo,au,cg,?_⟩
   .rw [List.take_add_one,aw];exact bd.keep fun e g=>b0.block e (by have:=au e g;omega)
   .exact Cv (Cv (ar.trans bb.mod) aa (fun e g=>.inr (aj e (ad.blk e g)))) b0.but (fun e g=>.inl g)
  .obtain rfl:o=m:=om
   rw [List.take_of_length_le om] at ad;refine jL a8 (k:=1) rfl ?_;refine iN ?_;refine jA (n:=2) ab.cells rfl ?_;have ci:=ch.mod ar (fun h=>by have h:t=j:=h;omega);refine jS (vs:=[Value.slice ag i an,Value.slice am o a1]) ci rfl rfl (by simp [AE]) ?_;intro dh a0 cj;refine AP (jR (n:=2) rfl cj.cells) ?_;have cl:AD w dh:=xb ax a0.but om;have es:=a0.but.size;have bm:=ac.lt;have c1:=ad.lt;have dw:t<u.heap.size:=bt.lt;refine ⟨_,_,_,_,rfl,⟨ap,aq,(ac.keep fun e g=>ar.block e (fun h=>by have:=ai e g;omega) (bm e g)).keep fun e g=>a0.block e (by have:=ai e g;omega),ad.keep fun e g=>a0.block e (by have:=aj e g;omega),List.nodup_append.2 ⟨b8,b9,fun dc c4 q c5 b1=>?_⟩,fun e g=>?_⟩,cl⟩
   .have:=bm dc c4;have:=aj q c5;omega
   .rcases List.mem_append.1 g with g | g
    .have:=ai e g;have:=bm e g;omega
    .have:=aj e g;have:=c1 e g;omega
theorem TI {xs:List (List Int)} (h:Ar Aa w a n xs) {f s:AF} (hfo:f.ok) (hso:s.ok) (hd:Ax xs=true) (hf:AR f (AJ xs)=true) (hs:Af s (AJ xs)=true) :
  Dq 245 [.slice a n c,.agg ⟨f.enc⟩,.agg ⟨s.enc⟩] w (fun v w'=>∃ a' m c',v = .tuple #[.slice a' m c',.int .i64 (Az xs f s).2]/\((Az xs f s).2=0->Ad w.heap.size a'/\m<=c'/\m<=40/\Bw A9.enc w' a' m 237 (Az xs f s).1)/\AD w w'):=by
 have a1:=h.len;have az:=Ah hd;have b7:=az.1;have ai:∀ e r p a7,AD w e->AK e r 0 (LQ f p a7)->A4 AF.enc 2 e p 1 [s]->Dq 170 [.pointer (some ⟨r,0,none⟩),.slice a n c] e _:=fun e r p a7 j ay b8=>I3 (c:=c) (h.ext j) ay b8 hfo hso;have ad:Bh xs f s=if EM xs s=false\/Da xs f=false then 8 else 0:=by
  unfold Bh;rw [if_neg (by simp [hd]),if_neg (by simp [hf,hs])]
 by_cases aj:EM xs s=false\/Da xs f=false
 .rw [if_pos aj] at ad;have a0:Az xs f s=([],8):=by unfold Az;rw [if_pos aj]
  rw [a0];rw [ad] at ai;refine oV Tryz.func245 ?_;refine AB.box ?_;intro bv c1 b3 cu ab am;refine AB.box ?_;intro bw c2 b4 cv x an;refine jA (n:=2) (am.ext x).cells rfl ?_;refine jA (n:=2) an.cells rfl ?_;refine bS JV (vs:=[Value.agg #[Value.int IntKind.i64 s.from_,Value.int IntKind.i64 s.to_]]) ?_;intro bx c3 ax cw ac ao;have ar:=AG (n:=1) (enc:=AF.enc) (xs:=[⟨s.from_,s.to_⟩]) Bj ao ax rfl dE;refine AB.build TA rfl ?_;refine AB.box ?_;intro bz c4 b5 cx y ap;refine (ai _ _ _ _ (xt (xt (xt ab x) ac) y) ap.cells ((ar.ext y).own.arr Bj)).mono ?_;rintro _ af ⟨ak,rfl,bl,aw⟩;exact ⟨_,_,_,rfl,om,(xt (xt (xt (xt ab x) ac) y) aw)⟩
 .rw [if_neg aj] at ad;have a0:Az xs f s=((Be xs f).map fun g=>⟨ES g f,Dp g s⟩,0):=by unfold Az;rw [if_neg aj]
  rw [a0];rw [ad] at ai;obtain ⟨_,_,_,bf,dv⟩:=Ox ad;have dl:∀ a2∈xs,a2.length<=20:=fun a2 cr=>(Br (az.2 a2 cr).1).2.1;have a9:∀ c∈xs,(AZ c s).length<=12:=fun c ay=>(IM (by rw [(az.2 c ay).2];exact hs)).1;have dt:=HT xs f;have du:=JI xs f;have dx:=Iy (d:=xs) (f:=s) a9 b7;have ck:=Yt (s:=s) a9;have ci:(xs.map (AS f)).length=n:=by rw [List.length_map];exact a1
  have cl:(D7 xs s).length=n:=by rw [Jx bf,List.length_map];exact a1
  refine oV Tryz.func245 ?_;refine AB.box ?_;intro bv c1 b3 cu ab am;refine AB.box ?_;intro bw c2 b4 cv x an;refine jA (n:=2) (am.ext x).cells rfl ?_;refine jA (n:=2) an.cells rfl ?_;refine bS JV (vs:=[Value.agg #[Value.int IntKind.i64 s.from_,Value.int IntKind.i64 s.to_]]) ?_;intro bx c3 ax cw ac ao;have ar:=AG (n:=1) (enc:=AF.enc) (xs:=[⟨s.from_,s.to_⟩]) Bj ao ax rfl dE;refine AB.build TA rfl ?_;refine AB.box ?_;intro bz c4 b5 cx y ap;refine (ai _ _ _ _ (xt (xt (xt ab x) ac) y) ap.cells ((ar.ext y).own.arr Bj)).mono ?_;rintro _ af ⟨ak,rfl,bl,aw⟩;refine bS IQ (vs:=[]) ?_;intro db ed b6 d0 b1 bq;have bu:=Ab (enc:=A9.enc) Bu bq b6;(conv=>whnf);obtain ⟨c5,d2,dg,c7,d3,di,c8,ae,dj,aq,a4,a5,al⟩:=bl rfl;have a8:=xt (xt (xt (xt ab x) ac) y) aw;have bj:=a4.len;have bk:=a5.len;have cy:=al.len;rw [List.length_map,ci] at bj;rw [List.length_map,cl] at bk;rw [List.length_map] at cy;subst bj;subst bk;have ca:∀ e (i r:Nat),AD af e->i<=r->r<=n->Dq 173 [.pointer (some ⟨ak,0,none⟩),.int .i64 i,.int .i64 r,.int .i64 1] e (fun v w'=>∃ p,v = .slice (some ⟨p,0,none⟩) 1 1/\A4 eI 1 w' (some ⟨p,0,none⟩) 1 [(((D7 xs s).drop i).take (r - i)).sum]/\AD e w'):=fun e i r j cn co=>(R4 (aq.ext j) (a5.ext j) (by simpa using ck) om cn co).mono fun _ w' ⟨p,cq,bo,dm,b0⟩=>⟨p,cq,(AG (n:=1) (enc:=eI) AI bo (Nat.le_refl p) rfl dE).own.arr AI,b0⟩;have b9:∀ e (g:Nat),AD af e->g<ae->Dq 171 [.pointer (some ⟨ak,0,none⟩),.int .i64 g] e (fun v w'=>v = .int .i64 (DS (Aw (xs.map (AS f))) n g)/\AD e w'):=fun e g j ch=>Uj (aq.ext j) (al.ext j) ch om;refine lR [8,10,11] (fun (b:Nat) c0 w'=>∃ au av,c0=[.pointer (some ⟨ak,0,none⟩),.slice au b av,.int .i64 b]/\b<=ae/\Ai A9.enc 2 af.heap.size 237 w' au b av (((Be xs f).take b).map fun g=>(⟨ES g f,Dp g s⟩:A9))/\AD af w') (fun b=>ae - b) 0 ⟨_,_,rfl,om,by simpa using bu,b1⟩ ?_;rintro b g _ eb ⟨au,av,rfl,dw,z,t⟩;have aa:=aq.ext t;have bn:=a4.ext t;have a6:=al.ext t;have d1:=z.len;rcases Nat.lt_or_ge b ae with bd | bd
  .obtain ⟨i,bg⟩:=AA (l:=Aw (xs.map (AS f))) (k:=b) om;have bh:((Aw (xs.map (AS f))).map fun (ct:Nat)=>(ct:Int))[b]? = some (i:Int):=by simp [bg]
   obtain ⟨a3,cs,cm,ba,bb,bc⟩:=QE bg;rw [a1] at cm ba bb bc;have cj:((xs.map (AS f)).map Cd)[i]? = some (Cd (AS f a3)):=by simp [cs]
   have be:=Ct (fun g=>(⟨ES g f,Dp g s⟩:A9)) bb;rw [bc,S7,U4 bf] at be;have cc:=fun e j=>ca e i (DS (Aw (xs.map (AS f))) n b) j om ba;have b':=fun e j=>b9 e b j bd;generalize (((D7 xs s).drop i).take (DS (Aw (xs.map (AS f))) n b - i)).sum=ag at *;generalize DS (Aw (xs.map (AS f))) n b=dk at *;have cb:([ag]:List Int)[0]? = some ag:=rfl;generalize dn:Cd (AS f a3)=bi at *;refine jL aa (k:=2) rfl ?_;refine iY ?_;refine Av A8 mixed (pZ [0,5,10,15,25,30,35,45,70,75,80,85,95,110,115,21,41,50,56,60,66,91,100,106,122,127,130,137,142,147,153,155]) kR kR ?_;intro ec o;refine dL aa (k:=0) rfl ?_;refine dL aa (k:=2) rfl ?_;refine pI a6 b rfl bh ?_;intro dc d4 dp cd;refine dO cd rfl ?_;refine pI bn i rfl cj ?_;intro de d6 dr cf;refine dO cf rfl ?_;refine dL aa (k:=2) rfl ?_;refine pI a6 b rfl bh ?_;intro df d7 ds cg;refine dO cg rfl ?_;refine (b' _ (xt t o)).mono ?_;rintro _ d8 ⟨rfl,q⟩;refine ⟨(xt o q),?_⟩;refine (cc _ (xt (xt t o) q)).mono ?_;rintro _ d9 ⟨c9,rfl,bm,u⟩;refine ⟨(xt (xt o q) u),?_⟩;refine pI bm 0 rfl cb ?_;rintro dd d5 dq ce;refine jL ce (k:=0) rfl ?_;refine ⟨(xt (xt o q) u),?_⟩;refine AB.build Yc rfl ?_;refine ⟨(xt (xt o q) u),?_⟩;refine bS IQ (vs:=[Value.agg #[Value.string bi,Value.int IntKind.i64 ag]]) ?_;intro da d' b2 dz ah bp;have br:=AG (n:=1) (enc:=A9.enc) (xs:=[⟨bi,ag⟩]) Bu bp b2 rfl dE;refine ⟨(xt (xt (xt o q) u) ah),?_⟩;refine AM (enc:=A9.enc) IQ Bu (z.ext (xt (xt (xt o q) u) ah)) (br.own.arr Bu) (by intro a3 _;simp [A9.enc,AE]) om om (Below.size (xt (xt (xt (xt t o) q) u) ah)) ?_;intro c6 dh ea bt cz dy;refine jP (((b+1:Nat):Int)) ?_;refine ⟨b+1,om,_,_,rfl,om,?_,(xm (xt (xt (xt (xt t o) q) u) ah) cz (AO z.new))⟩
   .rw [be];exact bt
  .obtain rfl:b=ae:=om
   have cp:((Be xs f).take b)=Be xs f:=List.take_of_length_le om;rw [cp] at z;refine jL aa (k:=2) rfl ?_;refine iN ?_;refine ⟨_,_,_,rfl,?_,(xt a8 t)⟩
   .exact fun _=>⟨z.new.mono (Below.size a8),z.le.1,om,z.own⟩
theorem TK (h:Ar DM w a n X) (hc:AK w q 0 [.slice a n c,.slice b m d]) (hx:st.ok) (hcr:AK w r 0 st.enc) (h6:n=6) (ha:0<=st.a/\st.a<=5) (hb:0<=st.b/\st.b<=5) (hk:1<=st.kind/\st.kind<=6) :
  Dq 246 [.pointer (some ⟨q,0,none⟩),.pointer (some ⟨r,0,none⟩)] w (fun v w'=>∃ a' m' c',v = .tuple #[.slice a' m' c',.int .i64 (BX (X.getD st.a.toNat []) (X.getD st.b.toNat []) st).2] /\
   ((BX (X.getD st.a.toNat []) (X.getD st.b.toNat []) st).2=0->m'<=c'/\D2 A0 w' w.heap.size w'.heap.size a' m' 144 (BX (X.getD st.a.toNat []) (X.getD st.b.toNat []) st).1)/\AD w w'):=by
 have b3:=h.len;obtain ⟨ar,af,ao⟩:=h;have b2:=af.len;obtain ⟨aa,ap⟩:=AA (l:=ar) (k:=st.a.toNat) om;obtain ⟨a2,bb,RA⟩:=ao.get ap;obtain ⟨am,aq⟩:=AA (l:=ar) (k:=st.b.toNat) om;obtain ⟨a3,bc,u⟩:=ao.get aq;rw [Ae bb,Ae bc];obtain ⟨_,_,_,_,b4,_,au⟩:=hx;have bu:=fun o (j:AD w o)=>Kv (c:=aa.c) (RA.1.ext j) st.field;have bv:=fun o (j:AD w o)=>JS (c:=aa.c) (c2:=am.c) (RA.1.ext j) (u.1.ext j) st.field RA.2 u.2;have bx:=fun o (j:AD w o)=>Ie (c:=aa.c) (RA.1.ext j) st.field au;have bz:=fun o (j:AD w o)=>Hf (c:=aa.c) (RA.1.ext j) st.field;have bw:=fun o (j:AD w o)=>JT (c:=aa.c) (c2:=am.c) (RA.1.ext j) (u.1.ext j) st.field;generalize g:BX a2 a3 st=r;unfold BX at g;refine oV Tryz.func246 ?_;refine Bl A8 mixed kR kR ?_;refine dL hc (k:=0) rfl ?_;refine dL hcr (k:=1) rfl ?_;refine dI af (st.a).toNat om ap ?_;intro bm b' b0 be;refine dO be rfl ?_;intro cb e;refine Bl A8 mixed kR kR ?_;refine dL (hc.ext e) (k:=0) rfl ?_;refine dL (hcr.ext e) (k:=2) rfl ?_;refine dI (af.ext e) (st.b).toNat om aq ?_;intro bn ca b1 bf;refine dO bf rfl ?_;intro cc f;refine jL (hcr.ext (xt e f)) (k:=0) rfl ?_;refine AL (fun p=>?_) fun p=>?_
 .refine jG (n:=2) (k:=4) (hcr.ext (xt e f)) rfl ?_;refine (Kv (RA.1.ext (xt e f)) _).mono ?_;rintro _ cd ⟨bh,b5,bo,rfl,ax,a8⟩;(conv=>whnf);rw [if_pos p] at g;subst g;exact ⟨_,_,_,rfl,fun i=>⟨(ax i).1,(ax i).2.wide (Below.size (xt e f)) (Nat.le_refl _)⟩,xt (xt e f) a8⟩
 .refine AL (fun s=>?_) fun s=>?_
  .refine jG (n:=2) (k:=4) (hcr.ext (xt e f)) rfl ?_;refine (JS (RA.1.ext (xt e f)) (u.1.ext (xt e f)) _ RA.2 u.2).mono ?_;rintro _ ce ⟨bi,b6,bp,rfl,ay,a9⟩;(conv=>whnf);rw [if_neg p,if_pos s] at g;subst g;exact ⟨_,_,_,rfl,fun i=>⟨(ay i).1,(ay i).2.wide (Below.size (xt e f)) (Nat.le_refl _)⟩,xt (xt e f) a9⟩
  .refine AL (fun z=>?_) fun z=>?_
   .refine dH (pB [0,2,4,6,8,11,13,15,17,19,20,23,25,27]) ?_;intro cf y;refine D4 (n:=2) kR (k:=4) (hcr.ext (xt e f)) rfl ?_;refine jL (hcr.ext (xt (xt e f) y)) (k:=8) rfl ?_;refine ⟨y,?_⟩;refine (Ie (RA.1.ext (xt (xt e f) y)) _ au).mono ?_;rintro _ cg ⟨bj,b7,bq,rfl,az,an⟩;refine ⟨(xt y an),?_⟩;(conv=>whnf);rw [if_neg p,if_neg s,if_pos z] at g;subst g;exact ⟨_,_,_,rfl,fun i=>⟨(az i).1,(az i).2.wide (Below.size (xt (xt e f) y)) (Nat.le_refl _)⟩,xt (xt (xt e f) y) an⟩
   .refine AL (fun ab=>?_) fun ab=>?_
    .refine jG (n:=2) (k:=4) (hcr.ext (xt e f)) rfl ?_;refine (Hf (RA.1.ext (xt e f)) _).mono ?_;rintro _ ch ⟨bk,b8,br,rfl,a0,ba⟩;(conv=>whnf);rw [if_neg p,if_neg s,if_neg z,if_pos ab] at g;subst g;exact ⟨_,_,_,rfl,fun i=>⟨(a0 i).1,(a0 i).2.wide (Below.size (xt e f)) (Nat.le_refl _)⟩,xt (xt e f) ba⟩
    .refine jG (n:=2) (k:=4) (hcr.ext (xt e f)) rfl ?_;refine (JT (RA.1.ext (xt e f)) (u.1.ext (xt e f)) _).mono ?_;rintro _ ci ⟨bl,b9,bt,rfl,a1,ac⟩;refine Ak (fun t=>?_) fun t=>?_
     ·(conv=>whnf);rw [if_neg p,if_neg s,if_neg z,if_neg ab,if_pos t] at g;subst g;exact ⟨_,_,_,rfl,fun i=>absurd i t,xt (xt e f) ac⟩
     .refine jL (hcr.ext (xt (xt e f) ac)) (k:=0) rfl ?_;refine AL (fun ae=>?_) fun ae=>?_
      ·(conv=>whnf);rw [if_neg p,if_neg s,if_neg z,if_neg ab,if_neg (fun ah=>ah t),decide_eq_true ae] at g;subst g;obtain ⟨a5,ak,a6,al,a7,rfl,rfl,rfl,ad,av,aw,ai,aj⟩:=a1 t;refine jI (Kf (n:=4) ad rfl dE) 0 rfl (x:=ak) rfl ?_;intro a4 bg bd ag;refine jO ag rfl ?_;exact ⟨_,_,_,rfl,fun _=>⟨av,ai.wide (Below.size (xt e f)) (Nat.le_refl _)⟩,xt (xt e f) ac⟩
      ·(conv=>whnf);rw [if_neg p,if_neg s,if_neg z,if_neg ab,if_neg (fun ah=>ah t),decide_eq_false ae] at g;subst g;obtain ⟨a5,ak,a6,al,a7,rfl,rfl,rfl,ad,av,aw,ai,aj⟩:=a1 t;refine jI (Kf (n:=4) ad rfl dE) 2 rfl (x:=al) rfl ?_;intro a4 bg bd ag;refine jO ag rfl ?_;exact ⟨_,_,_,rfl,fun _=>⟨aw,aj.wide (Below.size (xt e f)) (Nat.le_refl _)⟩,xt (xt e f) ac⟩
theorem WE {lo hi:Nat} (O:GQ w lo hi a n c b m d X Y) (hhi:hi<=w.heap.size) (ho:Ap X m=true) (Bq:CD w q [.slice a n c,.slice b m d] 34) (hq:hi<=q) (hlo:lo<=hi) (hx:st.ok) (hcr:AK w r 0 st.enc) (hz1:BE st (AH X)=true) :
  Dq 179 [.pointer (some ⟨q,0,none⟩),.pointer (some ⟨r,0,none⟩)] w (fun v w'=>v = .int .i64 (Am X Y (AH X) st).2/\∃ a' n' c' b' m' d',CD w' q [.slice a' n' c',.slice b' m' d'] 34 /\
   ((Am X Y (AH X) st).2=0->n'<=c'/\m'<=d'/\C8 w' lo w'.heap.size a' n' b' m' (Am X Y (AH X) st).1.1 (Am X Y (AH X) st).1.2)/\BY (fun j=>lo<=j/\(j<hi\/j=q)) w w'):=by
 have g:=O.desk.2.2.rd.1;have bh:=O.desk.2.2.rd.2;have dl:=g.len;have dk:=bh.len;have ck:=BA ho;have da:=ck.1;have cj:n=6:=om
 obtain ⟨dn,bq,dc,de,di,a1,cn⟩:=PM hz1;have al:st.kind≠7->∀ ad,AD w ad->Dq 246 [.pointer (some ⟨q,0,none⟩),.pointer (some ⟨r,0,none⟩)] ad _:=fun db ad o=>TK (g.ext o) (Bq.ext o).cells hx (hcr.ext o) cj om om om;by_cases u:st.kind=7
 .by_cases a2:Y.length=20
  .have s:Am X Y (AH X) st=(([],[]),5):=by unfold Am;rw [if_neg (by simp [hz1]),if_pos ⟨u,a2⟩]
   rw [s];refine oV Tryz.func179 ?_;refine jL hcr (k:=0) rfl ?_;refine iY ?_;refine jL Bq.cells (k:=1) rfl ?_;refine iY ?_;exact ⟨rfl,_,_,_,_,_,_,Bq,om,Vc.BY.refl _ _⟩
  .have bi:=U3 ho st.a.toNat;have bj:=NC (k:=st.a.toNat) ho a1 om;have bk:=W5 (k:=st.a.toNat) ho (cn u) om;have b8:=g;obtain ⟨co,bm,cc⟩:=b8;have dj:=bm.len;obtain ⟨ar,bp⟩:=AA (l:=co) (k:=st.a.toNat) om;obtain ⟨ae,ca,RA⟩:=cc.get bp;have a3:X.getD st.a.toNat []=ae:=Ae ca;rw [a3] at bi bj bk;have cd:∀ ad,AD w ad->Dq 245 [.slice ar.a ar.n ar.c,.agg ⟨st.field.enc⟩,.agg ⟨st.sum.enc⟩] ad _:=fun ad o=>TI (c:=ar.c) (RA.1.ext o) hx.2.2.2.2.1 hx.2.2.2.2.2.1 bi bj bk;refine oV Tryz.func179 ?_;refine jL hcr (k:=0) rfl ?_;refine iY ?_;refine jL Bq.cells (k:=1) rfl ?_;refine iN ?_;refine dH (pB [0,2,4,6,8,10,12,14,16,18,20,22,24,26,29,31,33,35,37,39,40,42,45,47]) ?_;intro c0 p;refine dL Bq.cells (k:=0) rfl ?_;refine dL hcr (k:=1) rfl ?_;refine dI bm (st.a).toNat om bp ?_;intro c5 ds dd ce;refine dO ce rfl ?_;refine D4 (n:=2) kR (k:=4) hcr rfl ?_;refine jG (n:=2) (k:=6) (hcr.ext p) rfl ?_;refine ⟨p,?_⟩;refine (cd _ p).mono ?_;rintro _ dt ⟨ag,bv,be,rfl,cv,ak⟩;refine ⟨(xt p ak),?_⟩;(conv=>whnf);by_cases t:(Az ae st.field st.sum).2=0
   .have s:Am X Y (AH X) st=((X,Y++[(Az ae st.field st.sum).1]),0):=by
     unfold Am;rw [if_neg (by simp [hz1]),if_neg (fun g=>a2 g.2),if_pos u,a3,if_neg (by simp [t])]
    rw [s];refine iY ?_;refine jL (Bq.ext (xt p ak)).cells (k:=1) rfl ?_;refine bS K1 (vs:=[Value.slice ag bv be]) ?_;intro c6 cz c9 dp bf bz;obtain ⟨aa,ah,af,y,ab⟩:=O;obtain ⟨a6,a7,an⟩:=List.nodup_append.1 ab.1;have ac:=af.lt;have au:=y.lt;have av:∀ j∈ah,lo<=j/\j<hi:=fun j e=>ab.2 j (List.mem_append_right _ e);have am:∀ j∈aa,lo<=j/\j<hi:=fun j e=>ab.2 j (List.mem_append_left _ e);obtain ⟨b2,cs,dq,b3⟩:=cv t;have ai:AD w cz:=xt (xt p ak) bf;have d0:=p.size;have dy:=ai.size;have bo:∀ j∈BU ag,c0.heap.size<=j:=fun j e=>by
     obtain ⟨c1,cq,rfl⟩:=A2.1 e;exact b2 c1 cq
    have cg:(BU ag).Nodup:=by cases ag<;>simp [BU]
    refine CY K1 rfl (y.ext ai) a7 (show lo<=_ by omega) (d:=⟨ag,bv,be⟩) (x:=(Az ae st.field st.sum).1) (f:=BU ag) (Fg (b3.ext bf) cs) cg (fun j e a1=>by have:=bo j e;have:=au j a1;omega) bz.cells om om ?_;intro b5 b6 du ay a9 cu cx aq;have bn:∀ j,AN b j->lo<=j/\j<hi:=fun j e=>av j (y.blk j e);have cb:=(Bq.ext ai).mod aq (fun g=>by have:=bn q g;omega);have cm:=Bq.lt;have dz:=aq.size;refine jT cb (k:=1) sI rfl ?_;intro aw i b0;have c2:=i.but.size;have ci:=a9.lt;have a5:∀ j∈ay,lo<=j/\j≠q/\j∉aa:=fun j e=>by
     rcases cx j e with h | h | h
     .have:=av j h;exact ⟨this.1,om,fun g=>an j g j h rfl⟩
     .have:=bo j h;exact ⟨om,om,fun g=>by have:=ac j g;omega⟩
     .exact ⟨om,om,fun g=>by have:=ac j g;omega⟩
    have ba:Bx (OG A0 144) lo 78 aw a n c X aa:=af.keep fun j e=>by
     have h:=ac j e;have bh:=am j e;rw [i.block j om,aq.block j (fun g=>an j e j (y.blk j g) rfl) om,ai.block j h]
    have ap:Bx G4 lo 161 aw b5 (m+1) b6 (Y++[(Az ae st.field st.sum).1]) ay:=a9.keep fun j e=>i.block j (a5 j e).2.1;refine ⟨by rw [t],_,_,_,_,_,_,b0,fun _=>⟨ba.le.1,ap.le.1,_,_,aa,ay,ba.own.imp (fun _ _ _ g=>OG.os g),ap.own,List.nodup_append.2 ⟨a6,cu,fun bw a4 q hq o=>(a5 q hq).2.2 (o▸a4)⟩,fun j e=>?_⟩,?_⟩
    .rcases List.mem_append.1 e with e | e
     .have:=ac j e;have:=am j e;omega
     .have:=ci j e;have:=a5 j e;omega
    .exact (ai.mod.trans (aq.mono fun j e=>by have:=bn j e;omega)).trans (i.but.mono fun j e=>by have e:j=q:=e;omega)
   .have s:Am X Y (AH X) st=(([],[]),(Az ae st.field st.sum).2):=by
     unfold Am;rw [if_neg (by simp [hz1]),if_neg (fun g=>a2 g.2),if_pos u,a3,if_pos t]
    rw [s];refine iN ?_;exact ⟨rfl,_,_,_,_,_,_,Bq.ext (xt p ak),fun b9=>absurd b9 t,(xt p ak).mod⟩
 .have al:=al u;by_cases t:(BX (X.getD st.a.toNat []) (X.getD st.b.toNat []) st).2=0
  .have s:Am X Y (AH X) st=((X.set st.dst.toNat (BX (X.getD st.a.toNat []) (X.getD st.b.toNat []) st).1,Y),0):=by
    unfold Am;rw [if_neg (by simp [hz1]),if_neg (fun g=>u g.1),if_neg u];exact if_neg (fun g=>g t)
   rw [s];rw [t] at al;refine oV Tryz.func179 ?_;refine jL hcr (k:=0) rfl ?_;refine iN ?_;refine (al _ (AD.refl _)).mono ?_;rintro _ cy ⟨bc,bu,bd,rfl,bx,z⟩;refine Av A8 mixed (pZ [0,5,10,20,25,30,40,16,36,45,53]) kR kR ?_;intro a8 ax;refine dL (Bq.ext z).cells (k:=0) rfl ?_;refine dL (hcr.ext z) (k:=3) rfl ?_;(conv=>whnf);obtain ⟨aa,ah,af,y,ab⟩:=O;obtain ⟨a6,a7,an⟩:=List.nodup_append.1 ab.1;have ac:=af.lt;have au:=y.lt;have av:∀ j∈ah,lo<=j/\j<hi:=fun j e=>ab.2 j (List.mem_append_right _ e);have am:∀ j∈aa,lo<=j/\j<hi:=fun j e=>ab.2 j (List.mem_append_left _ e);obtain ⟨cr,b7,bl,az⟩:=bx rfl;have dw:=z.size;have dx:=ax.size;have ao:AD w a8:=xt z ax;have b4:EO Jc a8 a n 78 X aa:=(af.ext ao).own.imp (fun _ _ _ g=>OG.os g);obtain ⟨dv,cp⟩:=AA (l:=X) (k:=st.dst.toNat) om;obtain ⟨aj,c7,c8,cf,a0,c3,c4,dr,df,dm,cl⟩:=b4.hand a6 cp;subst cf;have dg:=ac aj a0;have dh:=am aj a0;refine pW (sz:=1) st.dst.toNat om om ?_;refine cl _ _ a8 ⟨bc,bu,bd⟩ _ b7 kR (Vc.BY.refl _ _) ⟨⟨_,bl.keep fun bt bq=>ax.block bt (bl.lt bt bq)⟩,cr⟩ az.1 (fun j e=>.inr fun g=>by have:=(az.2 j e).1;have:=ac j g;omega) _ ?_;intro aw bg i bb ct cw;have cm:=Bq.lt;have b1:=(Bq.ext ao).mod i.but (fun g=>by have g:q=aj:=g;omega);have c2:=i.but.size;have ch:=bb.lt;have br:∀ j∈bg,lo<=j/\j∉ah:=fun j e=>by
    rcases cw j e with h | h
    .exact ⟨(am j h).1,fun g=>an j h j g rfl⟩
    .have:=(az.2 j h).1;exact ⟨om,fun g=>by have:=au j g;omega⟩
   have ap:EO G4 aw b m 161 Y ah:=(y.ext ao).own.keep fun j e=>by
    rw [i.block j (fun g=>an aj a0 j e g.symm)]
   exact ⟨rfl,_,_,_,_,_,_,b1,fun _=>⟨af.le.1,y.le.1,_,_,bg,ah,bb,ap,List.nodup_append.2 ⟨ct,a7,fun bw a4 q hq o=>(br bw a4).2 (o▸hq)⟩,fun j e=>by
    rcases List.mem_append.1 e with e | e
    .have:=ch j e;have:=br j e;omega
    .have:=au j e;have:=av j e;omega⟩,ao.mod.trans (i.but.mono fun j e=>by have e:j=aj:=e;omega)⟩
  .have s:Am X Y (AH X) st=(([],[]),(BX (X.getD st.a.toNat []) (X.getD st.b.toNat []) st).2):=by
    unfold Am;rw [if_neg (by simp [hz1]),if_neg (fun g=>u g.1),if_neg u,if_pos t]
   rw [s];refine oV Tryz.func179 ?_;refine jL hcr (k:=0) rfl ?_;refine iN ?_;refine (al _ (AD.refl _)).mono ?_;rintro _ cy ⟨bc,bu,bd,rfl,bx,z⟩;refine iN ?_;exact ⟨rfl,_,_,_,_,_,_,(Bq.ext z),om,z.mod⟩
theorem Ul (h:Ar DM w a n X) (h2:Ar LG w b m Y) (ho:Ap X m=true) (hY:∀ y∈Y,y.length<=1048576) (hx:st.ok) :
  Dq 108 [.agg #[.slice a n c,.slice b m d],.agg ⟨st.enc⟩] w (fun v w'=>∃ a' n' c' b' m' d',v = .tuple #[.agg #[.slice a' n' c',.slice b' m' d'],.int .i64 (Am X Y (AH X) st).2] /\
   ((Am X Y (AH X) st).2=0->n'<=c'/\m'<=d'/\C8 w' w.heap.size w'.heap.size a' n' b' m' (Am X Y (AH X) st).1.1 (Am X Y (AH X) st).1.2)/\AD w w'):=by
 have ch:=h.len;have cg:=h2.len;have ah:=BA ho;have ce:=ah.1;have bp:∀ az∈X,az.length<=1000/\∀ y∈az,y.length<=1000:=fun y au=>⟨by have:=(ah.2.2 y au).1;omega,fun b9 br=>by have:=(Br ((ah.2.2 y au).2 b9 br).1).2.1;omega⟩;have cj:=N4 ho;have ci:n=6:=om
 have bo:=fun r ai (x:AD w r) (ae:AK r ai 0 [.slice a n c,.slice b m d])=>Nw (s:=[]) (h.ext x) (h2.ext x) ae om om bp hY;have ag:=fun r ai (x:AD w r) (ae:AK r ai 0 [.slice a n c,.slice b m d])=>PX (b:=b) (m:=m) (d:=d) (s:=[]) (h.ext x) ae;rw [ho] at ag;cases av:BE st (AH X)
 .have bq:Am X Y (AH X) st=(([],[]),2):=by unfold Am;rw [if_pos av]
  rw [bq];refine oV Tryz.func108 ?_;refine AB.box ?_;intro be b6 bl bu j l;refine AB.box ?_;intro u b7 bm aw g t;refine jN (z := .agg #[.slice none 0 0,.slice none 0 0]) ?_;intro o b8 ab ax e ad;refine (ag _ _ (xt (xt j g) e) (l.ext (xt g e)).cells).mono ?_;rintro _ b3 ⟨rfl,f⟩;refine (II (h.ext (xt (xt (xt j g) e) f)) (l.ext (xt (xt g e) f)).cells).mono ?_;rintro _ b4 ⟨rfl,i⟩;refine (Lu hx om (t.ext (xt (xt e f) i)).cells).mono ?_;rintro _ ac ⟨rfl,k⟩;refine iT ?_;refine AB.build Ko rfl ?_;refine jS (vs:=[Value.slice none 0 0,Value.slice none 0 0]) (ad.ext (xt (xt f i) k)) rfl rfl (by simp [AE]) ?_;intro cp bg a0;refine AP (jR (n:=2) rfl a0.cells) ?_;exact ⟨_,_,_,_,_,_,rfl,om,(xb (xt (xt (xt (xt (xt j g) e) f) i) k) bg.but (nB (xt j g) ab))⟩
 .refine oV Tryz.func108 ?_;conv=>whnf
  refine AB.box ?_;intro be b6 bl bu j l;refine AB.box ?_;intro u b7 bm aw g t;refine jN (z := .agg #[.slice none 0 0,.slice none 0 0]) ?_;intro o b8 ab ax e ad;refine (ag _ _ (xt (xt j g) e) (l.ext (xt g e)).cells).mono ?_;rintro _ b3 ⟨rfl,f⟩;refine (II (h.ext (xt (xt (xt j g) e) f)) (l.ext (xt (xt g e) f)).cells).mono ?_;rintro _ b4 ⟨rfl,i⟩;refine (Lu hx om (t.ext (xt (xt e f) i)).cells).mono ?_;rintro _ ac ⟨rfl,k⟩;refine iF ?_;refine (bo _ _ (xt (xt (xt (xt (xt j g) e) f) i) k) (l.ext (xt (xt (xt (xt g e) f) i) k)).cells).mono ?_;rintro _ cq ⟨ba,bf,bc,bj,rfl,b1,aa⟩;refine jN (z := .agg #[.slice none 0 0,.slice none 0 0]) ?_;intro ao cr ap cm q a1;refine jS (vs:=[Value.slice ba n bf,Value.slice bc m bj]) a1 rfl rfl (by simp [AE]) ?_;intro aj p a2;have al:AD w ac:=xt (xt (xt (xt (xt j g) e) f) i) k;have cu:=al.size;have cv:=aa.size;have cw:=q.size;have cx:=p.but.size;have co:o<ac.heap.size:=Nat.lt_of_lt_of_le ax (Below.size (xt (xt f i) k));have cn:u<ac.heap.size:=Nat.lt_of_lt_of_le aw (Below.size (xt (xt (xt e f) i) k));have cc:=xt (xt (xt (xt j g) e) f) i;have a9:=(b1.ext q).but p.but (.inr ap);have a6:CD aj u st.enc 95:=(t.ext (xt (xt (xt (xt (xt e f) i) k) aa) q)).mod p.but (fun h=>by have h:u=ao:=h;omega);have a7:CD aj o [.slice none 0 0,.slice none 0 0] 34:=(ad.ext (xt (xt (xt (xt f i) k) aa) q)).mod p.but (fun h=>by have h:o=ao:=h;omega);have a8:AD w aj:=xb (xt (xt al aa) q) p.but om;refine (WE a9 om ho a2 ap om hx a6.cells av).mono ?_;rintro _ b5 ⟨rfl,bb,bw,bi,bd,bv,bk,a3,ay,an⟩;have ak:=a7.mod an (fun h=>by omega);have am:AD w b5:=xm a8 an (fun ck cf=>by omega);generalize Am X Y (AH X) st=b2 at *;obtain ⟨⟨ca,cb⟩,cl⟩:=b2;dsimp only at ay ⊢;refine Ak (fun aq=>?_) fun aq=>?_
  .refine AB.build Ko rfl ?_;refine jS (vs:=[Value.slice none 0 0,Value.slice none 0 0]) ak rfl rfl (by simp [AE]) ?_;intro cs bh a4;refine AP (jR (n:=2) rfl a4.cells) ?_;exact ⟨_,_,_,_,_,_,rfl,om,(xb am bh.but (nB (xt j g) ab))⟩
  .refine jA (n:=2) a3.cells rfl ?_;refine jS (vs:=[Value.slice bb bw bi,Value.slice bd bv bk]) ak rfl rfl (by simp [AE]) ?_;intro ct af a5;refine AP (jR (n:=2) rfl a5.cells) ?_;refine ⟨_,_,_,_,_,_,(by simp only [aq];rfl),?_,(xb am af.but (nB (xt j g) ab))⟩
   .intro bn;obtain ⟨bx,bz,b0⟩:=ay bn;exact ⟨bx,bz,(b0.mod af.but (fun bt cd h2 ar=>by have ar:bt=o:=ar;omega)).wide om af.but.size⟩
end Go.Proofs.YtalgenmoljcnmaaGreatDoor
