/- Parts of the proof; no conditions of its own. -/
import Derived.Test.YtalgenmoljcnmaaGreatDoorVcMixL
namespace Go.Vc
open Go Go.RowKit
theorem BZ.low {α:Type} {E:Ow α} {R:Rd α} [LH E R] {S:Nat->Prop} {lo t:Nat} {w w':World} {a:Option Addr} {n c:Nat} {xs:List α} (h:BZ E lo t w a n c xs) (M:BY S w w') (hs:∀ k,S k->k<lo):BZ E lo t w' a n c xs:=by
 obtain ⟨j,g,d,e,f⟩:=h;exact ⟨j,g,d.mod M (fun m l b=>by have:=d.new m l;have:=hs _ b;omega),e.keep (fun k b=>M.block k (fun i=>by have:=hs _ i;have:=(f.2 k (List.mem_append_right _ b)).1;omega) (e.lt k b)),f.wide (Nat.le_refl _) M.size⟩
end Go.Vc
namespace Go.M
open Go Go.Vc
variable {s:AF} {d:List (List Int)}
theorem Jx:∀ {d:List (List Int)},EM d s=true->D7 d s=d.map fun c=>(EZ (AZ c s)).getD 0
 | [],_=>rfl
 | c :: d,h=>by
  have h1:=SH h;have e:=h1 c sI;have a:=Jx (d:=d) (ND fun g f=>h1 g (List.mem_cons_of_mem _ f));unfold D7 at a ⊢;obtain ⟨i,b⟩:=Option.isSome_iff_exists.1 e;rw [List.filterMap_cons,b,List.map_cons,b,a];rfl
theorem UY:∀ (l:List Int) (a:Int),l.foldl (· + ·) a=a+l.sum
 | [],a=>sI
 | x :: l,a=>by rw [List.foldl_cons,UY l,List.sum_cons];omega
theorem S7 (d:List (List Int)) (s:AF):Dp d s=(D7 d s).sum:=by unfold Dp;rw [UY];omega
theorem U4 (h:EM d s=true) (p m:Nat):D7 ((d.drop p).take m) s=((D7 d s).drop p).take m:=by
 rw [Jx h,Jx (LV h fun b a=>List.mem_of_mem_drop (List.mem_of_mem_take a))];simp [List.map_drop,List.map_take]
theorem Yt (h12:∀ c∈d,(AZ c s).length<=12):∀ x∈D7 d s,-((1000000000000:Nat):Int)<x/\x<(1000000000000:Nat):=by
 intro x e;obtain ⟨c,a,b⟩:=List.mem_filterMap.1 e;have:=Pn b (h12 c a);omega
theorem QE {f:AF} {g p:Nat} (hp:(Aw (d.map (AS f)))[g]? = some p):∃ y,d[p]? = some y/\p<DS (Aw (d.map (AS f))) d.length g/\DS (Aw (d.map (AS f))) d.length g<=d.length /\
  (Be d f)[g]? = some ((d.drop p).take (DS (Aw (d.map (AS f))) d.length g - p))/\ES ((d.drop p).take (DS (Aw (d.map (AS f))) d.length g - p)) f=Cd (AS f y):=by
 have a:=T5 hp;rw [List.length_map] at a;obtain ⟨y,b⟩:=AA (l:=d) (k:=p) om;exact ⟨y,b,a.1,a.2,SO hp,by unfold ES;rw [QF (Wd b om)]⟩
end Go.M
namespace Go.Proofs.YtalgenmoljcnmaaGreatDoor
open Go Go.RowKit Go.Vc Go.M
variable {w:World} {q d n c p r n1 c1 n2 c2 n3 c3:Nat} {f s:AF} {b a a1 a2 a3:Option Addr} {xs:List (List Int)} {N:List Int}
theorem LO (hc:AK w q 0 (LQ f b d)) (hA:A4 AF.enc 2 w b 1 [s]) (hfo:f.ok) (hso:s.ok) {width:Int} (hw:1<=width/\width<=20) :
  Dq 239 [.pointer (some ⟨q,0,none⟩),.int .i64 width] w (fun v w'=>v = .bool (AR f width && Af s width)/\AD w w'):=by
 cases ay:AR f width
 .refine oV Tryz.func239 ?_;refine (Em _ _ _ _).mono ?_;rintro _ _ ⟨rfl,rfl⟩;refine A7 (fun j=>?_) fun j=>?_
  .exact ⟨rfl,AD.refl _⟩
  .have ag:=Bs j;refine jG (n:=2) (k:=0) hc rfl ?_;refine (Cg _ _ _).mono ?_;rintro _ ap ⟨rfl,o⟩;refine iT ?_;exact ⟨rfl,o⟩
 .refine oV Tryz.func239 ?_;conv=>whnf
  refine (Em _ _ _ _).mono ?_;rintro _ _ ⟨rfl,rfl⟩;refine A7 (fun j=>?_) fun j=>?_
  .exact absurd j (by simp [Dc];omega)
  .have ag:=Bs j;refine jG (n:=2) (k:=0) hc rfl ?_;refine (Cg _ _ _).mono ?_;rintro _ ap ⟨rfl,o⟩;refine iF ?_;refine lR [0,1,5] (fun (g:Nat) am w'=>am=[.pointer (some ⟨q,0,none⟩),.int .i64 width,.int .i64 g]/\g<=1/\(g=1->Af s width=true)/\AD w w') (fun g=>1 - g) 0 ⟨rfl,om,om,o⟩ ?_;rintro g ar _ a1 ⟨rfl,aw,ai,l⟩;have e:=hc.ext l;have h:=hA.ext l;rcases Nat.lt_or_ge g 1 with ah | ah
   .obtain rfl:g=0:=om
    have m:Af s width=(AR s width && decide (s.to_ - s.from_<=12)):=rfl;have i:([s]:List AF)[0]? = some s:=rfl;cases u:AR s width
    .rw [u] at m;rw [m];refine jL e (k:=2) rfl ?_;refine dH (pB [0,2,4,6,8,10,12,15,17,19,21,22,24,26,28,30,32,34,36,38,40,42,44,47,49,51,53,55,57,59]) ?_;intro a2 y;refine dL e (k:=2) rfl ?_;refine dI h 0 rfl i ?_;intro aq az av af;refine dA (n:=2) af rfl ?_;refine (Cg _ _ _).mono ?_;rintro _ a0 ⟨rfl,x⟩;refine ⟨(xt y x),?_⟩;refine iT ?_;exact ⟨rfl,(xt (xt l y) x)⟩
    .rw [u] at m;have ax:=BV u;by_cases au:12<s.to_ - s.from_
     .refine jL e (k:=2) rfl ?_;refine dH (pB [0,2,4,6,8,10,12,15,17,19,21,22,24,26,28,30,32,34,36,38,40,42,44,47,49,51,53,55,57,59]) ?_;intro an a;refine dL e (k:=2) rfl ?_;refine dI h 0 rfl i ?_;intro z aj ac p;refine dA (n:=2) p rfl ?_;refine (Cg _ _ _).mono ?_;rintro _ ao ⟨rfl,c⟩;refine ⟨(xt a c),?_⟩;refine iF ?_;refine dL e (k:=2) rfl ?_;refine dI h 0 rfl i ?_;intro aa ak ad r;refine dL r (k:=1) rfl ?_;refine dL e (k:=2) rfl ?_;refine jI (h.ext (xt a c)) 0 rfl i ?_;intro ab al ae t;refine ⟨(xt a c),?_⟩;refine jL t (k:=0) rfl ?_;refine ⟨(xt a c),?_⟩;refine AB.sub _ rfl om om ?_;refine ⟨(xt a c),?_⟩;refine iY ?_;exact ⟨by simp [*],(xt (xt l a) c)⟩
     .rw [decide_eq_true om] at m;refine jL e (k:=2) rfl ?_;refine dH (pB [0,2,4,6,8,10,12,15,17,19,21,22,24,26,28,30,32,34,36,38,40,42,44,47,49,51,53,55,57,59]) ?_;intro an a;refine dL e (k:=2) rfl ?_;refine dI h 0 rfl i ?_;intro z aj ac p;refine dA (n:=2) p rfl ?_;refine (Cg _ _ _).mono ?_;rintro _ ao ⟨rfl,c⟩;refine ⟨(xt a c),?_⟩;refine iF ?_;refine dL e (k:=2) rfl ?_;refine dI h 0 rfl i ?_;intro aa ak ad r;refine dL r (k:=1) rfl ?_;refine dL e (k:=2) rfl ?_;refine jI (h.ext (xt a c)) 0 rfl i ?_;intro ab al ae t;refine ⟨(xt a c),?_⟩;refine jL t (k:=0) rfl ?_;refine ⟨(xt a c),?_⟩;refine AB.sub _ rfl om om ?_;refine ⟨(xt a c),?_⟩;refine iN ?_;refine jP (((0+1:Nat):Int)) ?_;exact ⟨1,om,rfl,om,fun _=>m,xt (xt l a) c⟩
   .obtain rfl:g=1:=om
    have m:=ai rfl;refine jL e (k:=2) rfl ?_;refine jL e (k:=2) rfl ?_;exact ⟨by simp [*],l⟩
theorem I3 (h:Ar Aa w a n xs) (hc:AK w q 0 (LQ f b d)) (hA:A4 AF.enc 2 w b 1 [s]) (hfo:f.ok) (hso:s.ok) :
  Dq 170 [.pointer (some ⟨q,0,none⟩),.slice a n c] w (fun v w'=>∃ r,v = .tuple #[.pointer (some ⟨r,0,none⟩),.int .i64 (Bh xs f s)]/\(Bh xs f s=0->∃ a1 n1 c1 a2 n2 c2 a3 n3 c3,AK w' r 0 [.slice a1 n1 c1,.slice a2 n2 c2,.slice a3 n3 c3] /\
   A4 eS 1 w' a1 n1 ((xs.map (AS f)).map Cd)/\Ar Aa w' a2 n2 ((D7 xs s).map fun x=>[x])/\A4 eI 1 w' a3 n3 ((Aw (xs.map (AS f))).map fun (i:Nat)=>(i:Int)))/\AD w w'):=by
 have ew:=h.len;by_cases aa:Ax xs=true
 .have ch:=Ah aa;have ep:=ch.1;have ex:=EU aa;by_cases ds:AR f (AJ xs)=true/\Af s (AJ xs)=true
  .obtain ⟨ap,ax⟩:=ds;have dt:(AR f (AJ xs) && Af s (AJ xs))=true:=by rw [ap,ax];rfl
   have an:∀ p,AD w p->Dq 166 [.slice a n c,.agg ⟨f.enc⟩] p (fun v w'=>∃ bk cq dc,v = .tuple #[.slice bk cq dc,.int .i64 (Bn xs f).2]/\Ad p.heap.size bk/\Bw eS w' bk cq 9 ((Bn xs f).1.map Cd)/\AD p w'):=fun p bl=>El (h.ext bl) f;rw [MF aa ap] at an;by_cases aw:Da xs f=true
   .rw [if_pos aw] at an;dsimp only at an;refine oV Tryz.func170 ?_;refine AB.build S8 rfl ?_;refine AB.box ?_;intro t cr a' ay m bh;refine (DQ (h.ext m)).mono ?_;rintro _ cs ⟨rfl,g⟩;refine iF ?_;refine (EE (h.ext (xt m g))).mono ?_;rintro _ ct ⟨rfl,o⟩;refine (LO (hc.ext (xt (xt m g) o)) (hA.ext (xt (xt m g) o)) hfo hso om).mono ?_;rintro _ cu ⟨rfl,u⟩;refine iF ?_;refine jG (n:=2) (k:=0) (hc.ext (xt (xt (xt m g) o) u)) rfl ?_;refine (an _ (xt (xt (xt m g) o) u)).mono ?_;rintro _ a4 ⟨af,ai,al,rfl,ar,b6,a8⟩;have dl:AD w a4:=xt (xt (xt (xt m g) o) u) a8;have b4:CD a4 t [.slice none 0 0,.slice none 0 0,.slice none 0 0] 226:=bh.ext (xt (xt (xt g o) u) a8);have eq:=b4.lt;obtain ⟨d3,cd,dk⟩:=h;have eu:=cd.len;refine lR [0,1,6,7,9] (fun (j:Nat) az w'=>∃ a2 c2,az=[.pointer (some ⟨q,0,none⟩),.slice a n c,.pointer (some ⟨t,0,none⟩),.slice af ai al,.int .i64 j]/\j<=n/\(∀ i c,i<j->xs[i]? = some c->(EZ (AZ c s)).isSome=true)/\CD w' t [.slice none 0 0,.slice a2 j c2,.slice none 0 0] 226/\BZ A0 a4.heap.size 65 w' a2 j c2 ((D7 (xs.take j) s).map fun x=>[x])/\BY (fun ad=>ad=t) a4 w') (fun j=>n - j) 0 ⟨_,_,rfl,om,fun i c ci=>by omega,b4,BZ.none,Vc.BY.refl _ _⟩ ?_;rintro j em _ a0 ⟨a2,c2,rfl,et,cf,ca,ba,bb⟩;have ao:AD w a0:=xb dl bb om;have cc:=hc.ext ao;have b':=hA.ext ao;have cm:([s]:List AF)[0]? = some s:=rfl;rcases Nat.lt_or_ge j n with dw | dw
    .obtain ⟨b8,bz⟩:=AA (l:=d3) (k:=j) om;obtain ⟨z,aq,bj⟩:=dk.get bz;have co:=ch.2 z (List.mem_of_getElem? aq);have cn:=Br co.1;have bd:Af s z.length=true:=by rw [co.2];exact ax
     have b0:AR s z.length=true:=by simp only [Af,Bool.and_eq_true] at bd;exact bd.1
     have es:=BV b0;have er:s.to_ - s.from_<=12:=by simp only [Af,Bool.and_eq_true,decide_eq_true_eq] at bd;exact bd.2
     have be:=bj.1;have ey:=be.len;have ce:=cd.ext ao;rcases N5 (AZ z s) with cg | ⟨aj,du,ck⟩
     .have dy:EM xs s=false:=by
       simp only [EM,Bool.not_eq_false',List.any_eq_true];refine ⟨z,List.mem_of_getElem? aq,?_⟩;cases cl:EZ (AZ z s) with
       | none=>rfl
       | some v=>simp [DC,cl] at cg
      have bx:Bh xs f s=8:=by
       unfold Bh;rw [if_neg (by simp [aa]),if_neg (by simp [ap,ax]),if_pos (.inl dy)]
      rw [bx];have br:∀ p a n c,A4 eI 1 p a n (AZ z s)->n<=12->Dq 240 [.slice a n c] p (fun v w'=>v = .tuple #[.int .i64 0,.bool false]/\AD p w'):=fun p a n c hA bp=>by have h:=Jq (w:=p) (c:=c) hA bp (fun b2 b1=>cn.2.2 b2 (LS b1));rw [cg] at h;exact h
      refine iY ?_;refine bS B5 (vs:=[]) ?_;intro c9 eb bo d5 bm bg;have b5:=Ab (enc:=eI) AI bg bo;refine lR [0,1,6,7,9,10,11] (fun (i:Nat) az w'=>∃ a3 c3,az=[.pointer (some ⟨q,0,none⟩),.slice a n c,.pointer (some ⟨t,0,none⟩),.slice af ai al,.int .i64 j,.slice a3 0 c3,.int .i64 i]/\i=0/\AD a0 w') (fun i=>0) 0 ⟨_,_,rfl,rfl,bm⟩ ?_;rintro _ dg _ b3 ⟨a3,c3,rfl,rfl,y⟩;have bc:=xt ao y;have am:=cc.ext y;have bq:=b'.ext y;have bu:=ce.ext y;have au:Aa b3 b8 z:=⟨be.ext bc,bj.2⟩;refine jL am (k:=2) rfl ?_;refine dH (pB [0,2,4,6,8,10,12,15,17,19,21,23,25,26,28,31,33]) ?_;intro a5 e;refine dI bu j rfl bz ?_;intro da d9 dm bv;refine dL am (k:=2) rfl ?_;refine jI (bq.ext e) 0 rfl cm ?_;intro db d' dn bw;refine ⟨e,?_⟩;refine jA (n:=2) bw rfl ?_;refine ⟨e,?_⟩;refine (I5 ⟨au.1.ext e,au.2⟩ (bv.ext e) b0).mono ?_;rintro _ ed ⟨c8,de,rfl,bf,ea,ae⟩;refine ⟨(xt e ae),?_⟩;refine (br _ _ _ _ bf om).mono ?_;rintro _ ee ⟨rfl,ag⟩;refine ⟨(xt (xt e ae) ag),?_⟩;exact ⟨_,rfl,om,(xt (xt (xt bc e) ae) ag)⟩
     .have d1:=Pm (f:=s) aq ck;have br:∀ p a n c,A4 eI 1 p a n (AZ z s)->n<=12->Dq 240 [.slice a n c] p (fun v w'=>v = .tuple #[.int .i64 aj,.bool true]/\AD p w'):=fun p a n c hA bp=>by have h:=Jq (w:=p) (c:=c) hA bp (fun b2 b1=>cn.2.2 b2 (LS b1));rw [du] at h;exact h
      have dz:∀ i c,i<j+1->xs[i]? = some c->(EZ (AZ c s)).isSome=true:=fun i c ci hc=>by
       by_cases bl:i=j
       .subst bl;rw [aq] at hc;cases hc;rw [ck];rfl
       .exact cf i c om hc
      refine iY ?_;refine bS B5 (vs:=[]) ?_;intro c9 eb bo d5 bm bg;have b5:=Ab (enc:=eI) AI bg bo;refine lR [0,1,6,7,9,10,11] (fun (i:Nat) az w'=>∃ a3 c3,az=[.pointer (some ⟨q,0,none⟩),.slice a n c,.pointer (some ⟨t,0,none⟩),.slice af ai al,.int .i64 j,.slice a3 i c3,.int .i64 i]/\i<=1/\Ai eI 1 a0.heap.size 2 w' a3 i c3 (([aj]:List Int).take i)/\AD a0 w') (fun i=>1 - i) 0 ⟨_,_,rfl,om,b5,bm⟩ ?_;rintro i dg _ b3 ⟨a3,c3,rfl,ci,ah,y⟩;have bc:=xt ao y;have am:=cc.ext y;have bq:=b'.ext y;have bu:=ce.ext y;have au:Aa b3 b8 z:=⟨be.ext bc,bj.2⟩;have cb:=ca.ext y;rcases Nat.lt_or_ge i 1 with dv | dv
      .obtain rfl:i=0:=om
       refine jL am (k:=2) rfl ?_;refine dH (pB [0,2,4,6,8,10,12,15,17,19,21,23,25,26,28,31,33]) ?_;intro a5 e;refine dI bu j rfl bz ?_;intro da d9 dm bv;refine dL am (k:=2) rfl ?_;refine jI (bq.ext e) 0 rfl cm ?_;intro db d' dn bw;refine ⟨e,?_⟩;refine jA (n:=2) bw rfl ?_;refine ⟨e,?_⟩;refine (I5 ⟨au.1.ext e,au.2⟩ (bv.ext e) b0).mono ?_;rintro _ ed ⟨c8,de,rfl,bf,ea,ae⟩;refine ⟨(xt e ae),?_⟩;refine (br _ _ _ _ bf om).mono ?_;rintro _ ee ⟨rfl,ag⟩;refine ⟨(xt (xt e ae) ag),?_⟩;refine bS B5 (vs:=[Value.int IntKind.i64 aj]) ?_;intro ej e9 dh e3 bn cx;have c0:=AG (n:=1) (enc:=eI) (xs:=[aj]) AI cx dh rfl dE;refine Dw (enc:=eI) B5 AI (ah.ext (xt (xt (xt e ae) ag) bn)) (c0.own.arr AI) (by intro z _;simp [eI,AE]) om om (Below.size (xt (xt (xt (xt y e) ae) ag) bn)) ?_;intro eh el e' c4 d7 e0;refine jP (((0+1:Nat):Int)) ?_;exact ⟨1,om,_,_,rfl,om,c4,xm (xt (xt (xt (xt y e) ae) ag) bn) d7 (AO ah.new)⟩
      .obtain rfl:i=1:=om
       refine jL am (k:=2) rfl ?_;refine jL cb.cells (k:=1) rfl ?_;refine bS Yy (vs:=[Value.slice a3 1 c3]) ?_;intro c' a5 eo e2 e ak;(conv=>whnf);have cy:AK a5 c' 0 (eH ⟨a3,1,c3⟩):=ak.cells;have d4:([aj]:List Int).take 1=[aj]:=rfl;rw [d4] at ah;have cj:=BZ.new ba;refine CX (x:=[aj]) Yy rfl ba bb.size (xt y e) (Fg ((ah.ext e).own) ah.le.1) (Dr ah.new (fun x ac=>Nat.lt_of_lt_of_le (ah.lt x ac) e.size)) cy om om ?_;intro eg ek e6 cz cp ez;have d8:¬ AN a2 t:=fun ⟨x,ac,av⟩=>by have:=cj x ac;omega
       have cv:=(cb.ext e).mod cp d8;refine jT cv (k:=1) sI rfl ?_;intro e7 b7 cw;refine jP (((j+1:Nat):Int)) ?_;refine ⟨j+1,om,_,_,rfl,om,dz,cw,?_,?_⟩
       .rw [d1,List.map_append];exact cz.low b7.but (fun ad ab=>by have ab:ad=t:=ab;omega)
       .exact ((bb.trans (AD.mod (xt y e))).trans_new cp (fun ad ⟨x,ac,av⟩=>by have:=cj x ac;omega)).trans b7.but
    .obtain rfl:j=n:=om
     have d0:EM xs s=true:=by
      simp only [EM,Bool.not_eq_true',List.any_eq_false];intro z aq cl;obtain ⟨ad,ab⟩:=List.getElem?_of_mem aq;have:=cf ad z (by have:=(List.getElem?_eq_some_iff.1 ab).1;omega) ab;cases ac:EZ (AZ z s)<;>simp_all
     have dp:Bh xs f s=0:=by
      unfold Bh;rw [if_neg (by simp [aa]),if_neg (by simp [ap,ax]),if_neg (by simp [d0,aw])]
     rw [dp];rw [List.take_of_length_le om] at ba;have bt:A4 eS 1 a0 af ai ((xs.map (AS f)).map Cd):=(b6.mod bb (fun x ac av=>by have:=ar x ac;have:=g.size;have:=o.size;have:=u.size;omega)).arr AQ;have d2:=HO aa ap aw;have dx:=bt.len;rw [List.length_map,List.length_map] at dx;refine iN ?_;refine jT ca (k:=0) (Nat.le_of_ble_eq_true rfl) rfl ?_;intro a5 a6 ak;have ak:CD a5 t [Value.slice af ai al,Value.slice a2 j c2,Value.slice none 0 0] _:=ak;refine (Jo (bt.mod a6.but (Gh ar ay (Below.size (xt (xt g o) u)))) d2 om).mono ?_;rintro _ e8 ⟨c7,d6,dd,rfl,c5,c6,a9⟩;refine jT (ak.ext a9) (k:=2) (Nat.le_of_ble_eq_true rfl) rfl ?_;intro ec a7 bi;have bi:CD ec t [Value.slice af ai al,Value.slice a2 j c2,Value.slice c7 d6 dd] _:=bi;refine ⟨_,rfl,?_,(xb (xt (xb ao a6.but a') a9) a7.but a')⟩
     .refine fun _=>⟨_,_,_,_,_,_,_,_,_,bi.cells,((bt.mod a6.but (Gh ar ay (Below.size (xt (xt g o) u)))).ext a9).mod a7.but (Gh ar ay (Below.size (xt (xt g o) u))),?_,?_⟩
      .exact (((ba.low a6.but (fun ad ab=>by have ab:ad=t:=ab;omega)).ext a9).low a7.but (fun ad ab=>by have ab:ad=t:=ab;omega)).ownN.arr
      .exact (c6.mod a7.but (fun x ac av=>by have:=c5 x ac;have:=ak.lt;have av:x.block=t:=av;omega)).arr AI
   .rw [if_neg aw] at an;have bx:Bh xs f s=8:=by simp [Bh,aa,ap,ax,aw]
    rw [bx];refine oV Tryz.func170 ?_;refine AB.build S8 rfl ?_;refine AB.box ?_;intro t cr a' ay m bh;refine (DQ (h.ext m)).mono ?_;rintro _ cs ⟨rfl,g⟩;refine iF ?_;refine (EE (h.ext (xt m g))).mono ?_;rintro _ ct ⟨rfl,o⟩;refine (LO (hc.ext (xt (xt m g) o)) (hA.ext (xt (xt m g) o)) hfo hso om).mono ?_;rintro _ cu ⟨rfl,u⟩;refine iF ?_;refine jG (n:=2) (k:=0) (hc.ext (xt (xt (xt m g) o) u)) rfl ?_;refine (an _ (xt (xt (xt m g) o) u)).mono ?_;rintro _ a4 ⟨af,ai,al,rfl,ar,b6,a8⟩;exact ⟨_,rfl,om,(xt (xt (xt (xt m g) o) u) a8)⟩
  .have dr:Bh xs f s=2:=by
    unfold Bh;rw [if_neg (by simp [aa]),if_pos (by cases di:AR f (AJ xs)<;>cases dj:Af s (AJ xs)<;>simp_all)]
   rw [dr];have dt:(AR f (AJ xs) && Af s (AJ xs))=false:=by cases di:AR f (AJ xs)<;>cases dj:Af s (AJ xs)<;>simp_all
   refine oV Tryz.func170 ?_;refine AB.build S8 rfl ?_;refine AB.box ?_;intro t cr a' ay m bh;refine (DQ (h.ext m)).mono ?_;rintro _ cs ⟨rfl,g⟩;refine iF ?_;refine (EE (h.ext (xt m g))).mono ?_;rintro _ ct ⟨rfl,o⟩;refine (LO (hc.ext (xt (xt m g) o)) (hA.ext (xt (xt m g) o)) hfo hso om).mono ?_;rintro _ cu ⟨rfl,u⟩;refine iT ?_;exact ⟨_,rfl,om,(xt (xt (xt m g) o) u)⟩
 .have dq:Bh xs f s=1:=by simp [Bh,aa]
  rw [dq];have aa:Ax xs=false:=by simpa using aa
  refine oV Tryz.func170 ?_;refine AB.build S8 rfl ?_;refine AB.box ?_;intro ei e4 en e1 b9 ef;refine (DQ (h.ext b9)).mono ?_;rintro _ e5 ⟨rfl,df⟩;refine iT ?_;exact ⟨_,rfl,om,(xt b9 df)⟩
theorem Ya {B:Nat}:∀ {l:List Int},(∀ x∈l,-(B:Int)<x/\x<B)→-(B * l.length:Int)<=l.sum/\l.sum<=B * l.length
 | [],_=>sI
 | x :: l,h=>by
  have h1:=h x sI;have c:=Ya (l:=l) fun b a=>h b (List.mem_cons_of_mem _ a);rw [List.sum_cons,List.length_cons,Int.natCast_add,Int.mul_add];omega
theorem YZ {i:Nat} {x:Int} (hp:p<=i) (hx:N[i]? = some x):((N.drop p).take (i+1 - p)).sum=((N.drop p).take (i - p)).sum+x:=by
 have a:i+1 - p=(i - p)+1:=om
 rw [a,List.take_add_one,List.getElem?_drop,show p+(i - p)=i by omega,hx];simp
theorem R4 (hc:AK w r 0 [.slice a1 n1 c1,.slice a2 n2 c2,.slice a3 n3 c3]) (hN:Ar Aa w a2 n2 (N.map fun x=>[x])) (hNb:∀ x∈N,-1000000000000<x/\x<1000000000000) (hn40:n2<=40)
 (hpq:p<=q) (hq:q<=n2) :
  Dq 173 [.pointer (some ⟨r,0,none⟩),.int .i64 p,.int .i64 q,.int .i64 1] w (fun v w'=>∃ b,v = .slice (some ⟨b,0,none⟩) 1 1/\CD w' b [.int .i64 ((N.drop p).take (q - p)).sum] 2/\w.heap.size<=b/\AD w w'):=by
 have ak:=hN.len;rw [List.length_map] at ak;refine oV Tryz.func173 ?_;refine AB.make B5 (1) rfl om om ?_;intro e bt t bl ah o;have az:=JR (enc:=eI) (z:=(0:Int)) AI rfl o t om;refine lR [0,2,3,9,10] (fun (a:Nat) j w'=>j=[.pointer (some ⟨r,0,none⟩),.int .i64 q,.int .i64 1,.slice (some ⟨e,0,none⟩) 1 1,.int .i64 a]/\p<=a/\a<=q/\CD w' e [.int .i64 ((N.drop p).take (a - p)).sum] 2/\AD w w') (fun a=>q - a) p ⟨rfl,Nat.le_refl _,hpq,by rw [Nat.sub_self,List.take_zero];exact o,ah⟩ ?_;rintro a a9 _ bq ⟨rfl,aq,bg,u,h⟩;have ba:=hc.ext h;rcases Nat.lt_or_ge a q with ao | ao
 .obtain ⟨x,i⟩:=AA (l:=N) (k:=a) om;have au:=YZ aq i;have bk:=hNb x (List.mem_of_getElem? i);have bi:=Ya (B:=1000000000000) (l:=(N.drop p).take (a - p)) fun ay ax=>hNb ay (List.mem_of_mem_drop (List.mem_of_mem_take ax));have bj:((N.drop p).take (a - p)).length<=40:=by rw [List.length_take,List.length_drop];omega
  generalize bc:((N.drop p).take (a - p)).sum=d at *;generalize bb:((N.drop p).take (a - p)).length=a0 at *;refine iY ?_;refine lR [0,2,3,9,10,11] (fun (c:Nat) j w'=>j=[.pointer (some ⟨r,0,none⟩),.int .i64 q,.int .i64 1,.slice (some ⟨e,0,none⟩) 1 1,.int .i64 a,.int .i64 c]/\c<=1/\CD w' e [.int .i64 (if c=0 then d else d+x)] 2/\AD w w') (fun c=>1 - c) 0 ⟨rfl,om,u,h⟩ ?_;rintro c a' _ br ⟨rfl,bh,f,g⟩;have ai:=hc.ext g;rcases Nat.lt_or_ge c 1 with ap | ap
  .obtain rfl:c=0:=om
   rw [if_pos rfl] at f;obtain ⟨ar,aa,aj⟩:=hN.ext g;have aw:(N.map fun x=>[x])[a]? = some [x]:=by simp [i]
   obtain ⟨a8,ab⟩:=AA (l:=ar) (k:=a) (by have:=aa.len;omega);obtain ⟨bw,ac,af⟩:=aj.get ab;rw [aw] at ac;cases ac
   have ad:=af.1;have av:([x]:List Int)[0]? = some x:=rfl;have m:=(AG (n:=1) (enc:=eI) (xs:=[d]) AI f (Nat.le_refl e) rfl dE).own.arr AI;have y:([d]:List Int)[0]? = some d:=rfl;refine Av A8 mixed (pZ [0,5,10,20,25,30,40,55,16,36,45,51,60,66,70,75,83]) kR kR ?_;intro bu s;refine pI m 0 rfl y ?_;rintro a4 bm ⟨⟩ al;refine dL al (k:=0) rfl ?_;refine dL ai (k:=1) rfl ?_;refine pI aa a rfl ab ?_;intro a5 bn bd am;refine dO am rfl ?_;refine pI ad 0 rfl av ?_;intro a6 bo be an;refine dL an (k:=0) rfl ?_;refine DN.add _ rfl om om ?_;refine pI m 0 rfl y ?_;rintro a7 bp ⟨⟩ bf;refine jT (f.ext s) (k:=0) (Nat.le_of_ble_eq_true rfl) rfl ?_;intro bv ag ae;refine jP (((0+1:Nat):Int)) ?_;exact ⟨1,om,rfl,om,ae,xb (xt g s) ag.but t⟩
  .obtain rfl:c=1:=om
   rw [if_neg dE] at f;refine jP (((a+1:Nat):Int)) ?_;refine ⟨a+1,om,rfl,om,om,?_,g⟩
   .rw [au];exact f
 .obtain rfl:a=q:=om
  refine iN ?_;exact ⟨_,rfl,u,om,h⟩
theorem Uj {S:List Nat} (hc:AK w r 0 [.slice a1 n1 c1,.slice a2 n2 c2,.slice a3 n3 c3]) (hS:A4 eI 1 w a3 n3 (S.map fun (i:Nat)=>(i:Int))) {g:Nat} (hg:g<n3) (hn3:n3<=1000) :
  Dq 171 [.pointer (some ⟨r,0,none⟩),.int .i64 g] w (fun v w'=>v = .int .i64 (DS S n1 g)/\AD w w'):=by
 have e:=hS.len;rw [List.length_map] at e;refine oV Tryz.func171 ?_;conv=>whnf
 rcases Nat.lt_or_ge (g+1) n3 with d | d
 .obtain ⟨c,b⟩:=AA (l:=S) (k:=g+1) om;have h:(S.map fun (i:Nat)=>(i:Int))[g+1]? = some (c:Int):=by simp [b]
  have a:DS S n1 g=c:=by simp [DS,List.getD,b]
  rw [a];refine jP (((g+1:Nat):Int)) ?_;refine jL hc (k:=2) rfl ?_;refine iY ?_;refine jL hc (k:=2) rfl ?_;refine jP (((g+1:Nat):Int)) ?_;refine jI hS (g+1) rfl h ?_;intro j n m f;refine jO f rfl ?_;exact ⟨rfl,AD.refl _⟩
 .have a:DS S n1 g=n1:=by simp [DS,List.getD,List.getElem?_eq_none (show S.length<=g+1 by omega)]
  rw [a];refine jP (((g+1:Nat):Int)) ?_;refine jL hc (k:=2) rfl ?_;refine iN ?_;refine jL hc (k:=0) rfl ?_;exact ⟨rfl,AD.refl _⟩
theorem Ly (h:Ar Aa w a n xs) (hfo:f.ok) (hso:s.ok) (hA:A4 AF.enc 2 w b 1 [s]) :
  Dq 104 [.agg ⟨LQ f b d⟩,.slice a n c] w (fun v w'=>∃ a' m c',v = .tuple #[.slice a' m c',.int .i64 (G7 xs f s).2]/\((G7 xs f s).2=0->m<=41/\m<=c'/\A4 eS 1 w' a' m (G7 xs f s).1)/\AD w w'):=by
 have a8:=h.len;by_cases ao:Bh xs f s=0
 .have a6:G7 xs f s=(((Be xs f).map fun r=>Fh r f s)++[bs [42,42,32]++BP (Dp xs s)],0):=by simp [G7,ao]
  rw [a6];obtain ⟨cr,ec,c0,bu,ef⟩:=Ox ao;have a5:=Ah cr;have ck:=a5.1;have cj:∀ ab∈xs,ab.length<=20:=fun ab x=>(Br (a5.2 ab x).1).2.1;have bi:∀ c∈xs,(AZ c s).length<=12:=fun c a4=>(IM (by rw [(a5.2 c a4).2];exact c0)).1;have bk:∀ g y,AD w g->AK g y 0 (LQ f b d)->Dq 170 [.pointer (some ⟨y,0,none⟩),.slice a n c] g _:=fun g y j a4=>I3 (c:=c) (h.ext j) a4 (hA.ext j) hfo hso;rw [ao] at bk;have ed:=HT xs f;have ee:=JI xs f;have eh:=Iy (d:=xs) (f:=s) bi ck;have br:=Yt (s:=s) bi;have cu:(xs.map (AS f)).length=n:=by rw [List.length_map];exact a8
  have cw:(D7 xs s).length=n:=by rw [Jx bu,List.length_map];exact a8
  refine oV Tryz.func104 ?_;refine AB.box ?_;intro ax e' d2 ep bf av;refine (bk _ _ bf av.cells).mono ?_;rintro _ aq ⟨ap,rfl,c9,az⟩;refine bS BI (vs:=[]) ?_;intro dq fa ch eq bh b8;have cc:=Ab (enc:=eS) AQ b8 ch;refine jL (av.ext (xt az bh)).cells (k:=2) rfl ?_;(conv=>whnf);obtain ⟨de,et,du,df,eu,dv,dg,ag,dw,ai,au,bb,ah⟩:=c9 rfl;have bg:=xt bf az;have bz:=au.len;have b0:=bb.len;have c6:=ah.len;rw [List.length_map,cu] at bz;rw [List.length_map,cw] at b0;rw [List.length_map] at c6;subst bz;subst b0;have a3:∀ g (i y:Nat),AD aq g->i<=y->y<=n->Dq 173 [.pointer (some ⟨ap,0,none⟩),.int .i64 i,.int .i64 y,.int .i64 1] g (fun v w'=>∃ b,v = .slice (some ⟨b,0,none⟩) 1 1/\A4 eI 1 w' (some ⟨b,0,none⟩) 1 [(((D7 xs s).drop i).take (y - i)).sum]/\AD g w'):=fun g i y j cy cz=>(R4 (ai.ext j) (bb.ext j) (by simpa using br) om cy cz).mono fun _ w' ⟨b,c4,b5,d5,ce⟩=>⟨b,c4,(AG (n:=1) (enc:=eI) AI b5 (Nat.le_refl b) rfl dE).own.arr AI,ce⟩;have cm:∀ g (r:Nat),AD aq g->r<ag->Dq 171 [.pointer (some ⟨ap,0,none⟩),.int .i64 r] g (fun v w'=>v = .int .i64 (DS (Aw (xs.map (AS f))) n r)/\AD g w'):=fun g r j ct=>Uj (ai.ext j) (ah.ext j) ct om;refine lR [2,6,8,9,10] (fun (e:Nat) ba w'=>∃ ak al,ba=[.pointer (some ⟨ax,0,none⟩),.pointer (some ⟨ap,0,none⟩),.slice ak e al,.int .i64 1,.int .i64 e]/\e<=ag/\Ai eS 1 aq.heap.size 9 w' ak e al (((Be xs f).take e).map fun r=>Fh r f s)/\AD aq w') (fun e=>ag - e) 0 ⟨_,_,rfl,om,by simpa using cc,bh⟩ ?_;rintro e r _ da ⟨ak,al,rfl,bp,ae,aa⟩;have aj:=ai.ext aa;have dc:=au.ext aa;have b4:=ah.ext aa;have es:=ae.len;rcases Nat.lt_or_ge e ag with bq | bq
  .obtain ⟨i,bv⟩:=AA (l:=Aw (xs.map (AS f))) (k:=e) om;have a9:((Aw (xs.map (AS f))).map fun (c5:Nat)=>(c5:Int))[e]? = some (i:Int):=by simp [bv]
   obtain ⟨q,bw,cx,bm,bn,bo⟩:=QE bv;rw [a8] at cx bm bn bo;have cv:((xs.map (AS f)).map Cd)[i]? = some (Cd (AS f q)):=by simp [bw]
   have bt:=Ct (fun r=>Fh r f s) bn;have c3:Fh ((xs.drop i).take (DS (Aw (xs.map (AS f))) n e - i)) f s=bs [42]++Cd (AS f q)++bs [32]++BP (((D7 xs s).drop i).take (DS (Aw (xs.map (AS f))) n e - i)).sum:=by unfold Fh;rw [bo,S7,U4 bu]
   rw [c3] at bt;have eg:=Ya (l:=((D7 xs s).drop i).take (DS (Aw (xs.map (AS f))) n e - i)) fun ab x=>br ab (List.mem_of_mem_drop (List.mem_of_mem_take x));have ei:(((D7 xs s).drop i).take (DS (Aw (xs.map (AS f))) n e - i)).length<=40:=by rw [List.length_take,List.length_drop];omega
   have an:=fun g j=>a3 g i (DS (Aw (xs.map (AS f))) n e) j om bm;have bj:=fun g j=>cm g e j bq;generalize (((D7 xs s).drop i).take (DS (Aw (xs.map (AS f))) n e - i)).length=dd at *;generalize (((D7 xs s).drop i).take (DS (Aw (xs.map (AS f))) n e - i)).sum=o at *;generalize DS (Aw (xs.map (AS f))) n e=dz at *;have cs:=Bc (n:=o) om om;have a7:C6 [o]=BP o:=NJ o;have af:=fun g b (ar:A4 eI 1 g (some ⟨b,0,none⟩) 1 [o])=>Lv (c:=1) ar (by intro ab x;rw [List.mem_singleton] at x;subst x;unfold BM;omega) dE;rw [a7] at af;have ej:=IZ (AS f q);have eb:(AS f q).length<=20:=by
    have:=cj q (List.mem_of_getElem? bw);have d3:(AS f q).length=(AZ q f).length:=by simp [AS,CK]
    have d4:(AZ q f).length<=q.length:=by unfold AZ;simp;omega
    omega
   generalize d6:Cd (AS f q)=bx at *;generalize cl:BP o=dec at *;refine jL aj (k:=2) rfl ?_;refine iY ?_;refine jL aj (k:=2) rfl ?_;refine jI b4 e rfl a9 ?_;intro dt ez ea cq;refine jO cq rfl ?_;refine lR [2,6,8,9,10,11] (fun (em:Nat) ba w'=>ba=[.pointer (some ⟨ax,0,none⟩),.pointer (some ⟨ap,0,none⟩),.slice ak e al,.int .i64 1,.int .i64 e,.int .i64 i]/\AD da w') (fun _=>0) 0 ⟨rfl,AD.refl _⟩ ?_;rintro _ d0 _ db ⟨rfl,bl⟩;have u:=xt aa bl;have aw:=ai.ext u;have b3:=au.ext u;have bc:=ah.ext u;have b':AK db ax 0 (LQ f b d):=(av.ext (xt az u)).cells;have bd:=ae.ext bl;refine (bj _ u).mono ?_;rintro _ e3 ⟨rfl,p⟩;refine iY ?_;refine jL (b'.ext p) (k:=3) rfl ?_;refine Av A8 mixed (pZ [0,5,10,15,25,30,35,45,80,85,90,95,105,120,125,135,21,41,50,56,60,66,70,75,101,110,116,132,142,147,150,157,163,165]) kR kR ?_;intro e4 t;refine dL (aw.ext p) (k:=0) rfl ?_;refine dL (aw.ext p) (k:=2) rfl ?_;refine pI (bc.ext p) e rfl a9 ?_;intro dk ew d8 cn;refine dO cn rfl ?_;refine pI (b3.ext p) i rfl cv ?_;intro dl ex d9 co;refine dO co rfl ?_;refine F8 (by simp only [ByteArray.size_append,AV,CO,CZ,List.length_cons,List.length_nil];omega) ?_;refine F8 (by simp only [ByteArray.size_append,AV,CO,CZ,List.length_cons,List.length_nil];omega) ?_;refine dL (aw.ext p) (k:=2) rfl ?_;refine pI (bc.ext p) e rfl a9 ?_;intro dm ey d' cp;refine dO cp rfl ?_;refine (bj _ (xt (xt u p) t)).mono ?_;rintro _ e5 ⟨rfl,z⟩;refine ⟨(xt t z),?_⟩;refine (an _ (xt (xt (xt u p) t) z)).mono ?_;rintro _ e6 ⟨dn,rfl,b1,ac⟩;refine ⟨(xt (xt t z) ac),?_⟩;refine (af _ _ b1).mono ?_;rintro _ e7 ⟨rfl,ad⟩;refine ⟨(xt (xt (xt t z) ac) ad),?_⟩;refine F8 (by simp only [ByteArray.size_append,AV,CO,CZ,List.length_cons,List.length_nil];omega) ?_;refine bS BI (vs:=[Value.string ({ data := #[42] }++bx++{ data := #[32] }++dec)]) ?_;intro dp e8 cg eo am b7;have ca:=AG (n:=1) (enc:=eS) (xs:=[{ data := #[42] }++bx++{ data := #[32] }++dec]) AQ b7 cg rfl dE;refine ⟨(xt (xt (xt (xt t z) ac) ad) am),?_⟩;refine AM (enc:=eS) BI AQ (bd.ext (xt (xt (xt (xt (xt p t) z) ac) ad) am)) (ca.own.arr AQ) (by intro q _;simp [eS,AE]) om om (Below.size (xt (xt (xt (xt (xt (xt u p) t) z) ac) ad) am)) ?_;intro dh dx e9 cb c7 ek;refine jP (((e+1:Nat):Int)) ?_;refine ⟨e+1,om,_,_,rfl,om,?_,(xm (xt (xt (xt (xt (xt (xt u p) t) z) ac) ad) am) c7 (AO bd.new))⟩
   .rw [bt];exact cb
  .obtain rfl:e=ag:=om
   have c2:((Be xs f).take e)=Be xs f:=List.take_of_length_le om;rw [c2] at ae;have d7:=a3;have an:=fun g j=>a3 g 0 n j om (Nat.le_refl _);have c1:(((D7 xs s).drop 0).take (n - 0)).sum=Dp xs s:=by rw [S7,List.drop_zero,List.take_of_length_le om]
   rw [c1] at an;generalize Dp xs s=o at *;have cs:=Bc (n:=o) om om;have a7:C6 [o]=BP o:=NJ o;have af:=fun g b (ar:A4 eI 1 g (some ⟨b,0,none⟩) 1 [o])=>Lv (c:=1) ar (by intro ab x;rw [List.mem_singleton] at x;subst x;unfold BM;omega) dE;rw [a7] at af;generalize cl:BP o=dec at *;refine jL aj (k:=2) rfl ?_;refine iN ?_;refine jL aj (k:=0) rfl ?_;refine (an _ aa).mono ?_;rintro _ fc ⟨dr,rfl,b2,a0⟩;refine (af _ _ b2).mono ?_;rintro _ fd ⟨rfl,a1⟩;refine Ao (by simp only [ByteArray.size_append,AV,CO,CZ,List.length_cons,List.length_nil];omega) ?_;refine bS BI (vs:=[Value.string ({ data := #[42,42,32] }++dec)]) ?_;intro ds fe ci er a2 b9;have cd:=AG (n:=1) (enc:=eS) (xs:=[{ data := #[42,42,32] }++dec]) AQ b9 ci rfl dE;refine AM (enc:=eS) BI AQ (ae.ext (xt (xt a0 a1) a2)) (cd.own.arr AQ) (by intro q _;simp [eS,AE]) om om (Below.size (xt (xt (xt aa a0) a1) a2)) ?_;intro di dy ff be c8 el;refine ⟨_,_,_,rfl,?_,(xm (xt (xt (xt (xt bg aa) a0) a1) a2) c8 (fun e bp=>Nat.le_trans (Below.size bg) (AO ae.new e bp)))⟩
   .exact fun _=>⟨om,be.le.1,be.own.arr AQ⟩
 .have a6:G7 xs f s=([],Bh xs f s):=by simp [G7,ao]
  rw [a6];refine oV Tryz.func104 ?_;refine AB.box ?_;intro dj e2 d1 en ay b6;refine (I3 (h.ext ay) b6.cells (hA.ext ay) hfo hso).mono ?_;rintro _ fb ⟨e1,rfl,e0,cf⟩;refine iT ?_;exact ⟨_,_,_,rfl,om,(xt ay cf)⟩
end Go.Proofs.YtalgenmoljcnmaaGreatDoor
