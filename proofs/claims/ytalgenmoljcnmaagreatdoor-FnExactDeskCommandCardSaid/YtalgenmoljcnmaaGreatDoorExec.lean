/- Parts of the proof; no conditions of its own. -/
import Derived.Test.YtalgenmoljcnmaaGreatDoorArgs
import Derived.Test.YtalgenmoljcnmaaGreatDoorRefG
import Derived.Test.YtalgenmoljcnmaaGreatDoorDeckC
import Derived.Test.YtalgenmoljcnmaaGreatDoorCardW
import Derived.Test.YtalgenmoljcnmaaGreatDoorOffi
namespace Go.M
open Go Go.Vc
def Kh (s:ByteArray) (x:Ar):Int:=if (A9 s x).2≠0 then (A9 s x).2 else (D4 (A9 s x).1).2
theorem Zp (s:ByteArray):∀ x∈(BZ s).1,Cx x=true:=by
 intro b a;unfold BZ at a;split at a
 .exact (Eb _ s.data.toList 0 (Nat.le_refl _) dE dE).1 b a
 .cases a
theorem NU (s:ByteArray) (x:Ar) (h:s.size<=1048576):(A9 s x).1.size<=1048576:=by
 unfold A9;split
 .split
  .exact Nat.zero_le _
  .split
   .exact Nat.zero_le _
   .simp only [ByteArray.size_append];omega
 .exact Nat.zero_le _
theorem RN {α:Type} {l:List α} {p:α->Bool} {k:Nat} {y:α} (hy:l[k]? = some y) (hp:p y=true) (h:∀ j x,j<k->l[j]? = some x->p x=false):l.find? p=some y:=by
 rw [List.find?_eq_some_iff_getElem];obtain ⟨c,a⟩:=List.getElem?_eq_some_iff.1 hy;refine ⟨hp,k,c,a,fun j b=>?_⟩;have:=h j l[j] b (List.getElem?_eq_getElem om);simp [this]
end Go.M
namespace Go.Proofs.YtalgenmoljcnmaaGreatDoor
open Go Go.RowKit Go.Vc Go.M
variable {w:World} {n c m d n2 c2:Nat} {a b a2:Option Addr} {X:List (List (List Int))} {Y:List (List AT)} {s:ByteArray}
theorem Gj.rd {lo hi:Nat} (h:Gj w lo hi a n c b m d X Y):Ac CA w a n X/\Ac FB w b m Y:=(h.desk).2.2.rd
theorem Uy (h:Ac CA w a n X) (h2:Ac FB w b m Y) (ho:Aq X m=true) (hY:∀ y∈Y,y.length<=1048576) :
  Dq 36 [.agg #[.slice a n c,.slice b m d,.string s]] w (fun v w'=>∃ lo hi a' c' b' d',v = .agg #[.slice a' n c',.slice b' m d',.string s]/\w.heap.size<=lo/\hi<=w'.heap.size/\Gj w' lo hi a' n c' b' m d' X Y/\AD w w'):=by
 have o:=A8 ho;have an:=o.2.1;have ao:=h.len;have ae:∀ g,AD w g->Dq 84 [.agg #[.slice a n c,.slice b m d]] g (fun v w'=>∃ a' c' b' d',v = .agg #[.slice a' n c',.slice b' m d']/\Gj w' g.heap.size w'.heap.size a' n c' b' m d' X Y/\AD g w'):=fun g q=>Ko (h.ext q) (h2.ext q) om om (fun t r=>⟨by have:=(o.2.2 t r).1;omega,fun y af=>by have:=(Bp ((o.2.2 t r).2 y af).1).2.1;omega⟩) hY;refine oV Tryz.func36 ?_;refine AB.box ?_;intro aj ar al ap l p;refine jN (z := .agg #[.slice none 0 0,.slice none 0 0,.string { data := #[] }]) fun ak au am aq e u=>Au A7 mixed (pZ [0,15,6,21,12,26,33]) kR kR ?_;intro ah f;refine D5 (n:=2) kR (k:=0) (p.ext e).cells rfl<|dL (p.ext e).cells (k:=2) rfl<|(ae _ (xt (xt l e) f)).mono ?_;rintro _ ai ⟨aa,ac,ab,ad,rfl,ag,i⟩;refine ⟨(xt f i),BQ.build QD rfl<|jS (vs:=[Value.slice aa n ac,Value.slice ab m ad,Value.string s]) (u.ext (xt f i)) rfl rfl cE fun av j x=>AO (jR (n:=3) rfl x.cells) ?_⟩;have aw:=l.size;have ax:=e.size;have ay:=f.size;have az:=i.size;have a0:=j.but.size;exact ⟨ah.heap.size,ai.heap.size,_,_,_,_,rfl,om,om,ag.but j.but om,xb (xt (xt (xt l e) f) i) j.but om⟩
theorem Uu (hs:s.size<=1048576) (hT:GR w) (hE:Eg w) (hM:EE w) :
  Dq 74 [.agg #[.slice a n c,.slice b m d,.string s]] w (fun v w'=>∃ al nl cl,v = .tuple #[.agg #[.slice a n c,.slice b m d,.string s],.slice al nl cl,.int .i64 (BZ s).2.2]/\Ab w.heap.size al/\Bs eS w' al nl 9 (CM ((BZ s).1.map DO))/\AD w w'):=by
 have cn:=Jc s;have b0:∀ j∈(BZ s).1,Cx j=true:=Zp s;have bv:∀ e,GR e->Eg e->EE e->Dq 65 [.string s] e (fun v w'=>∃ a n c,v = .tuple #[.slice a n c,.int .i64 (BZ s).2.2]/\Ab e.heap.size a/\Bs Ar.enc w' a n 151 (BZ s).1/\AD e w'):=fun e af br bt=>M7 hs af br bt;generalize (BZ s).2.2=bn at *;generalize (BZ s).1=ai at *;refine oV Tryz.func74 ?_;refine AB.box ?_;intro am cw cj cq t ax;refine jN (z := .agg #[.slice none 0 0,.slice none 0 0,.string { data := #[] }]) fun ab c1 ck cu i bb=>jL (ax.ext i).cells (k:=2) rfl<|(bv _ (hT.ext (xt t i)) (hE.ext (xt t i)) (hM.ext (xt t i))).mono ?_;rintro _ av ⟨bi,u,bm,rfl,cb,aa,p⟩;have a8:=aa.arr Av;have co:=a8.len;refine bS BK (vs:=[]) ?_;intro bj b' bp cr bo a9;have c7:=Below.size (xt (xt t i) p);have bf:An eS 1 w.heap.size 9 b' (some ⟨bj,0,none⟩) 0 0 []:=Ag (enc:=eS) AP a9 om;refine lR [1,2,6,7,17,18,19] (fun (f:Nat) b9 w'=>∃ ak a2,b9=[.pointer (some ⟨am,0,none⟩),.pointer (some ⟨ab,0,none⟩),.int .i64 bn,.slice ak f a2,.slice bi u bm,.int .i64 u,.int .i64 f]/\f<=u/\An eS 1 w.heap.size 9 w' ak f a2 ((ai.take f).map DO)/\(∀ g,AL ak g->av.heap.size<=g)/\AD av w') (fun f=>u - f) 0 ⟨_,_,rfl,om,by simpa using bf,?_,bo⟩ ?_
 .rintro g ⟨j,y,rfl⟩;cases y
  exact bp
 rintro f ci _ a5 ⟨r,bl,rfl,cm,aq,ag,o⟩;have be:=xt (xt t i) p;have q:=xt be o;rcases Nat.lt_or_ge f u with bz | bz
 .obtain ⟨j,y⟩:=AA (l:=ai) (k:=f) om;have a3:=b0 j (List.mem_of_getElem? y);have b4:=Ki a3;have cp:=FJ a3;have b2:=Cz DO y;have bw:∀ e,GR e->Dq 131 [.agg ⟨j.enc⟩] e (fun v w'=>v = .string (DO j)/\AD e w'):=fun e h=>H6 b4 om h;refine iY ?_;obtain ⟨bk,rfl⟩:=((aa.ext o)).some om;have cv:bk<av.heap.size:=aa.lt _ rfl;refine jW (sz:=4) f rfl om ?_;have bx:=AU Av (aa.ext o) y;refine jA (n:=4) bx rfl<|jN (z := .agg #[.int .i64 0,.int .i64 0,.int .i64 0,.string { data := #[] }]) fun ce cy ae cs ad a'=>jS a' (vs:=j.enc) rfl rfl (by simp [Ar.enc,AM]) fun cz ac ba=>jA (n:=4) ba.cells rfl<|dM (bw _ (hT.ext (xb (xt q ad) ac.but (nB q ae)))) fun a6 ao=>bS BK (vs:=[Value.string (DO j)]) ?_;intro cf a7 bq ct ap ah;have bg:=AH (n:=1) (enc:=eS) (xs:=[DO j]) AP ah bq rfl dE;refine AN (enc:=eS) BK AP (aq.ext (xt (xt (xb ad ac.but ae) ao) ap)) (bg.own.arr AP) (by intro aw _;simp [eS,AM]) om om (Below.size (xt (xt (xb (xt q ad) ac.but (nB q ae)) ao) ap)) fun cd ch c0 bh b8 b7=>jP (((f+1:Nat):Int)) ?_;have ay:AD a5 a7:=(xt (xt (xb ad ac.but ae) ao) ap);have c4:=ay.size;have ca:=o.size;exact ⟨f+1,om,_,_,rfl,om,by rw [b2];exact bh,fun a4 b3=>(b7 a4 b3).elim (ag a4) (fun h=>by omega),xm (xt o ay) b8 ag⟩
 .obtain rfl:f=u:=om
  rw [List.take_of_length_le om] at aq;have bu:∀ e,AD a5 e->Dq 82 [.slice r f bl] e (fun v w'=>∃ aj a0,v = .slice aj (f+1) a0/\An eS 1 w.heap.size 9 w' aj (f+1) a0 (CM (ai.map DO))/\(∀ g,AL aj g->AL r g\/e.heap.size<=g)/\BP (AL r) e w'):=fun e an=>Kp (aq.ext an) (Nat.le_trans q.size an.size) om (hT.ext (xt q an));refine iN ?_;have b1:¬ AL r am:=fun h=>by
   have:=ag am h;have:=i.size;have:=p.size;omega
  have c2:=t.size;have ar:∀ g,AL r g->w.heap.size<=g/\¬ g=ab:=fun g h=>by
   have:=ag g h;have:=i.size;have:=p.size;constructor<;>omega
  refine OZ A7 mixed r (pZ [5,15,1,12,23,25,30]) kR kR fun cx x=>Bf (n:=3) kR (Sr.cells ((ax.ext (xt (xt (xt i p) o) x)).cells) b1) rfl<|(bu _ x).mono ?_;rintro _ a6 ⟨cc,cg,rfl,az,b6,au⟩;have c3:=x.size;have c6:=p.size;have ca:=o.size;have c5:=i.size;refine ⟨au,?_⟩;have bc:=((bb.ext (xt p o)).ext x).mod au (fun h=>(ar ab h).2 rfl);refine jS (vs:=[Value.slice a n c,Value.slice b m d,Value.string s]) bc rfl rfl cE fun a7 a1 ah=>AO (jR (n:=3) rfl ah.cells) ?_;have bd:AD w a6:=xm (xt q x) au (fun g h=>(ar g h).1);exact ⟨_,_,_,rfl,az.new,(az.mod a1.but (fun aw b5 h=>by
   have h:aw.block=ab:=h;rcases b6 _ ⟨aw,b5,rfl⟩ with af | af
   .exact (ar _ af).2 h
   .omega)).own,xb bd a1.but om⟩
theorem Uv (h:Ac CA w a n X) (h6:n=6) (hX40:∀ x∈X,x.length<=1000) (hs:s.size<=1048576) (hT:GR w) (hE:Eg w) (hM:EE w) {a1 a3 a4:Option Addr} {n1 n3 n4 c1 c3 c4:Nat} {T N:List Int} {Z:List ByteArray} {t k:Int} {z:ByteArray} (h1:A4 eI 1 w a1 n1 T) (h2:A4 eI 1 w a2 n2 N) (h4:A4 eS 1 w a4 n4 Z)
  (ht:T[0]? = some t) (hk:N[0]? = some k) (hz:Z[0]? = some z) (tb:0<=t/\t<=5) (hki:BH k) (hzs:z.size<=1048576) :
  Dq 78 [.agg #[.slice a n c,.slice b m d,.string s],.agg #[.slice a1 n1 c1,.slice a2 n2 c2,.slice a3 n3 c3,.slice a4 n4 c4]] w (fun v w'=>∃ s' al nl cl,v = .tuple #[.agg #[.slice a n c,.slice b m d,.string s'],.slice al nl cl,.int .i64 (Kh s ⟨t,(X.getD t.toNat []).length,k,z⟩)] /\
   (Kh s ⟨t,(X.getD t.toNat []).length,k,z⟩=0->s'=(A9 s ⟨t,(X.getD t.toNat []).length,k,z⟩).1/\Ab w.heap.size al/\Bs eS w' al nl 9 [BV (D4 (A9 s ⟨t,(X.getD t.toNat []).length,k,z⟩).1).1])/\AD w w'):=by
 have dm:=h.len;obtain ⟨cy,bc,cr⟩:=h;have dl:=bc.len;obtain ⟨da,bh⟩:=AA (l:=cy) (k:=t.toNat) om;obtain ⟨x,bx,cf⟩:=cr.get bh;have cz:=cf.1.len;have dn:=hX40 x (List.mem_of_getElem? bx);have cx:X.getD t.toNat []=x:=Af bx;rw [cx];have c0:Ar.ok ⟨t,(x.length:Nat),k,z⟩:=by
  refine ⟨⟨?_,?_⟩,⟨?_,?_⟩,hki,?_⟩<;>dsimp only [IP]<;>omega
 have bu:∀ u,GR u->Eg u->EE u->Dq 136 [.string s,.agg #[.int .i64 t,.int .i64 da.n,.int .i64 k,.string z]] u (fun v w'=>v = .tuple #[.string (A9 s ⟨t,(x.length:Nat),k,z⟩).1,.int .i64 (A9 s ⟨t,(x.length:Nat),k,z⟩).2]/\AD u w'):=fun u bi bj bk=>by
  have:=Uz (log:=s) hs c0 bi bj bk;rw [<- cz];exact this
 have cw:=NU s ⟨t,(x.length:Nat),k,z⟩ hs;unfold Kh;generalize A9 s ⟨t,(x.length:Nat),k,z⟩=am at *;have dk:=U8 am.1;have bv:∀ u,GR u->Eg u->EE u->Dq 137 [.string am.1] u (fun v w'=>v=Vs (D4 am.1)/\AD u w'):=fun u bi bj bk=>Sl cw bi bj bk;generalize D4 am.1=cp at *;obtain ⟨ak,db⟩:=am;obtain ⟨aa,dj⟩:=cp;unfold Vs at bv;dsimp only at *;have bw:BH aa:=by unfold BH;omega
 by_cases bz:db=0
 .rw [if_neg om];subst bz;refine oV Tryz.func78 ?_;refine AB.box ?_;intro bl dc ac aj g ad;refine AB.box fun cg dd cq c5 e ae=>jN (z := .agg #[.slice none 0 0,.slice none 0 0,.string { data := #[] }]) fun an de y c6 f af=>jL (ae.ext f).cells (k:=0) rfl<|jI (h1.ext (xt (xt g e) f)) 0 rfl ht fun ch c7 cs bd=>jL bd (k:=0) rfl<|dH (pB [0,2,4,6,8,10,12,14,16,20,22,24,26,28,30,32,34,19,37,39,41,42,44,47,49]) ?_;intro df i;refine dL (ad.ext (xt e f)).cells (k:=2) rfl<|dL (ad.ext (xt e f)).cells (k:=0) rfl ?_;refine dI (bc.ext (xt (xt g e) f)) (t).toNat om bh fun ci c8 ct be=>dO be rfl<|dL (ae.ext f).cells (k:=1) rfl<|dI (h2.ext (xt (xt g e) f)) 0 rfl hk fun cj c9 cu bf=>dL bf (k:=0) rfl<|dL (ae.ext f).cells (k:=3) rfl<|dI (h4.ext (xt (xt g e) f)) 0 rfl hz fun ck c' cv bg=>dL bg (k:=0) rfl<|(H3 _ _ _ _).mono ?_;rintro _ _ ⟨rfl,rfl⟩;refine ⟨i,?_⟩;refine AB.build Fi rfl ?_;refine ⟨i,?_⟩;refine dM (bu _ (hT.ext (xt (xt (xt g e) f) i)) (hE.ext (xt (xt (xt g e) f) i)) (hM.ext (xt (xt (xt g e) f) i))) fun dg j=>?_;refine ⟨(xt i j),?_⟩;refine jT (ad.ext (xt (xt (xt e f) i) j)) (k:=2) (Nat.le_of_ble_eq_true rfl) rfl ?_;intro b0 o ag;have ag:B8 b0 bl [Value.slice a n c,Value.slice b m d,Value.string ak] _:=ag;refine (bv _ (hT.ext (xb (xt (xt (xt (xt g e) f) i) j) o.but ac)) (hE.ext (xb (xt (xt (xt (xt g e) f) i) j) o.but ac)) (hM.ext (xb (xt (xt (xt (xt g e) f) i) j) o.but ac))).mono ?_;rintro _ du ⟨rfl,p⟩;refine Xp A7 mixed (.mv 1 (.mv 4 (.alt 0 (.alt 2 (.alt 3 (.alt 5 (.alt 6 (.alt 7 .leaf .stop) .stop) .stop) (.alt 5 (.alt 3 (.alt 6 (.alt 7 .leaf .stop) .stop) .stop) .stop)) .stop) (.alt 2 (.alt 0 (.alt 3 (.alt 5 (.alt 6 (.alt 7 .leaf .stop) .stop) .stop) (.alt 5 (.alt 3 (.alt 6 (.alt 7 .leaf .stop) .stop) .stop) .stop)) (.alt 3 (.alt 0 (.alt 5 (.alt 6 (.alt 7 .leaf .stop) .stop) .stop) .stop) .stop)) .stop)))) kR kR ?_;intro dv q;refine Dd.mk ?_ ?_
  .refine jA (n:=3) (ag.ext (xt p q)).cells rfl<|Dd.one<|(Cm bw (hT.ext (xt (xt (xb (xt (xt (xt (xt g e) f) i) j) o.but ac) p) q))).mono ?_;rintro _ dw ⟨rfl,ai⟩;refine Dd.mk ?_ ?_
   .refine bS BK (vs:=[Value.string (BV aa)]) ?_;intro cm dx bo dp a9 b1;have ca:=AH (n:=1) (enc:=eS) (xs:=[BV aa]) AP b1 bo rfl dE;refine Dd.one<|jS (vs:=[Value.slice a n c,Value.slice b m d,Value.string ak]) (((af.ext (xt i j)).mod o.but (Nv y aj (Below.size e))).ext (xt (xt (xt p q) ai) a9)) rfl rfl cE ?_;intro dy a6 b2;refine Dd.one<|Dd.one ?_;refine AO (jR (n:=3) rfl b2.cells) ⟨_,_,_,_,rfl,?_,(xb (xt (xt (xt (xt (xb (xt (xt (xt (xt g e) f) i) j) o.but ac) p) q) ai) a9) a6.but (nB (xt g e) y))⟩
    .have ap:=g.size;have aq:=e.size;have au:=f.size;have av:=i.size;have aw:=j.size;have ax:=o.but.size;have ay:=p.size;have az:=q.size;have a0:=ai.size;have a5:=a9.size;have ar:=a6.but.size;exact fun _=>⟨rfl,fun ah r=>by cases r;exact Nat.le_trans om bo,(ca.mod a6.but (fun ah r h=>by cases r;have h:cm=an:=h;omega)).own⟩
   .refine Dd.one<|jS (vs:=[Value.slice a n c,Value.slice b m d,Value.string ak]) (((af.ext (xt i j)).mod o.but (Nv y aj (Below.size e))).ext (xt (xt p q) ai)) rfl rfl cE ?_;intro dz bm b3;refine Dd.one ?_;refine bS BK (vs:=[Value.string (BV aa)]) ?_;intro dh d0 bp dq a' b4;have cb:=AH (n:=1) (enc:=eS) (xs:=[BV aa]) AP b4 bp rfl dE;refine Dd.one ?_;refine Dd.one<|AO (jR (n:=3) rfl (b3.ext a').cells) ⟨_,_,_,_,rfl,?_,(xt (xb (xt (xt (xt (xb (xt (xt (xt (xt g e) f) i) j) o.but ac) p) q) ai) bm.but (nB (xt g e) y)) a')⟩
    .have ap:=g.size;have aq:=e.size;have au:=f.size;have av:=i.size;have aw:=j.size;have ax:=o.but.size;have ay:=p.size;have az:=q.size;have a0:=ai.size;have a5:=bm.but.size;have ar:=a'.size;exact fun _=>⟨rfl,fun ah r=>by cases r;exact Nat.le_trans om bp,cb.own⟩
  .refine Dd.one<|dM (Cm bw (hT.ext (xt (xt (xb (xt (xt (xt (xt g e) f) i) j) o.but ac) p) q))) fun d1 ab=>Dd.mk ?_ ?_
   .refine jA (n:=3) (ag.ext (xt (xt p q) ab)).cells rfl<|Dd.mk ?_ ?_
    .refine bS BK (vs:=[Value.string (BV aa)]) ?_;intro cn d2 bq dr ba b5;have cc:=AH (n:=1) (enc:=eS) (xs:=[BV aa]) AP b5 bq rfl dE;refine Dd.one ?_;refine jS (vs:=[Value.slice a n c,Value.slice b m d,Value.string ak]) (((af.ext (xt i j)).mod o.but (Nv y aj (Below.size e))).ext (xt (xt (xt p q) ab) ba)) rfl rfl cE fun d3 a7 b6=>Dd.one ?_;refine Dd.one ?_;refine AO (jR (n:=3) rfl b6.cells) ⟨_,_,_,_,rfl,?_,(xb (xt (xt (xt (xt (xb (xt (xt (xt (xt g e) f) i) j) o.but ac) p) q) ab) ba) a7.but (nB (xt g e) y))⟩
     .have ap:=g.size;have aq:=e.size;have au:=f.size;have av:=i.size;have aw:=j.size;have ax:=o.but.size;have ay:=p.size;have az:=q.size;have a0:=ab.size;have a5:=ba.size;have ar:=a7.but.size;exact fun _=>⟨rfl,fun ah r=>by cases r;exact Nat.le_trans om bq,(cc.mod a7.but (fun ah r h=>by cases r;have h:cn=an:=h;omega)).own⟩
    .refine Dd.one<|jS (vs:=[Value.slice a n c,Value.slice b m d,Value.string ak]) (((af.ext (xt i j)).mod o.but (Nv y aj (Below.size e))).ext (xt (xt p q) ab)) rfl rfl cE ?_;intro d4 bn b7;refine Dd.one ?_;refine bS BK (vs:=[Value.string (BV aa)]) ?_;intro di d5 br ds bb b8;have cd:=AH (n:=1) (enc:=eS) (xs:=[BV aa]) AP b8 br rfl dE;refine Dd.one ?_;refine Dd.one<|AO (jR (n:=3) rfl (b7.ext bb).cells) ⟨_,_,_,_,rfl,?_,(xt (xb (xt (xt (xt (xb (xt (xt (xt (xt g e) f) i) j) o.but ac) p) q) ab) bn.but (nB (xt g e) y)) bb)⟩
     .have ap:=g.size;have aq:=e.size;have au:=f.size;have av:=i.size;have aw:=j.size;have ax:=o.but.size;have ay:=p.size;have az:=q.size;have a0:=ab.size;have a5:=bn.but.size;have ar:=bb.size;exact fun _=>⟨rfl,fun ah r=>by cases r;exact Nat.le_trans om br,cd.own⟩
   .refine Dd.one<|bS BK (vs:=[Value.string (BV aa)]) ?_;intro co d6 bt dt ao b9;have ce:=AH (n:=1) (enc:=eS) (xs:=[BV aa]) AP b9 bt rfl dE;refine Dd.one<|jA (n:=3) (ag.ext (xt (xt (xt p q) ab) ao)).cells rfl<|Dd.one ?_;refine jS (vs:=[Value.slice a n c,Value.slice b m d,Value.string ak]) (((af.ext (xt i j)).mod o.but (Nv y aj (Below.size e))).ext (xt (xt (xt p q) ab) ao)) rfl rfl cE ?_;intro d7 a8 b';refine Dd.one<|Dd.one ?_;refine AO (jR (n:=3) rfl b'.cells) ⟨_,_,_,_,rfl,?_,(xb (xt (xt (xt (xt (xb (xt (xt (xt (xt g e) f) i) j) o.but ac) p) q) ab) ao) a8.but (nB (xt g e) y))⟩
    .have ap:=g.size;have aq:=e.size;have au:=f.size;have av:=i.size;have aw:=j.size;have ax:=o.but.size;have ay:=p.size;have az:=q.size;have a0:=ab.size;have a5:=ao.size;have ar:=a8.but.size;exact fun _=>⟨rfl,fun ah r=>by cases r;exact Nat.le_trans om bt,(ce.mod a8.but (fun ah r h=>by cases r;have h:co=an:=h;omega)).own⟩
 .rw [if_pos bz];refine oV Tryz.func78 ?_;refine AB.box ?_;intro bl dc ac aj g ad;refine AB.box ?_;intro cg dd cq c5 e ae;refine jN (z := .agg #[.slice none 0 0,.slice none 0 0,.string { data := #[] }]) ?_;intro an de y c6 f af;refine jL (ae.ext f).cells (k:=0) rfl ?_;refine jI (h1.ext (xt (xt g e) f)) 0 rfl ht fun ch c7 cs bd=>jL bd (k:=0) rfl<|dH (pB [0,2,4,6,8,10,12,14,16,20,22,24,26,28,30,32,34,19,37,39,41,42,44,47,49]) fun df i=>dL (ad.ext (xt e f)).cells (k:=2) rfl<|dL (ad.ext (xt e f)).cells (k:=0) rfl<|dI (bc.ext (xt (xt g e) f)) (t).toNat om bh ?_;intro ci c8 ct be;refine dO be rfl<|dL (ae.ext f).cells (k:=1) rfl ?_;refine dI (h2.ext (xt (xt g e) f)) 0 rfl hk fun cj c9 cu bf=>dL bf (k:=0) rfl<|dL (ae.ext f).cells (k:=3) rfl<|dI (h4.ext (xt (xt g e) f)) 0 rfl hz fun ck c' cv bg=>dL bg (k:=0) rfl<|(H3 _ _ _ _).mono ?_;rintro _ _ ⟨rfl,rfl⟩;refine ⟨i,?_⟩;refine AB.build Fi rfl ?_;refine ⟨i,?_⟩;refine (bu _ (hT.ext (xt (xt (xt g e) f) i)) (hE.ext (xt (xt (xt g e) f) i)) (hM.ext (xt (xt (xt g e) f) i))).mono ?_;rintro _ dg ⟨rfl,j⟩;refine ⟨(xt i j),?_⟩;refine iT ?_;refine jA (n:=3) (ad.ext (xt (xt (xt e f) i) j)).cells rfl<|jS (vs:=[Value.slice a n c,Value.slice b m d,Value.string s]) (af.ext (xt i j)) rfl rfl cE ?_;intro b0 o ag;refine AO (jR (n:=3) rfl ag.cells) ?_;exact ⟨_,_,_,_,rfl,om,(xb (xt (xt (xt (xt g e) f) i) j) o.but (nB (xt g e) y))⟩
theorem Qu {xs:List (List Int)} (h:Ac AZ w a2 n2 xs) (hn2:n2<=1000) (hT:GR w) :
  Dq 77 [.agg #[.slice a n c,.slice b m d,.string s],.slice a2 n2 c2] w (fun v w'=>∃ al nl cl,v = .tuple #[.agg #[.slice a n c,.slice b m d,.string s],.slice al nl cl,.int .i64 (match xs.find? (fun c=>decide (BG c≠0)) with | some c=>BG c | none=>0)] /\
   ((match xs.find? (fun c=>decide (BG c≠0)) with | some c=>BG c | none=>0)=0->Ab w.heap.size al/\Bs eS w' al nl 9 (CM (xs.map fun c=>Cf (CO c))))/\AD w w'):=by
 have cw:=h.len;obtain ⟨ca,az,b2⟩:=h;have cv:=az.len;generalize bg:(match xs.find? (fun c=>decide (BG c≠0)) with | some c=>BG c | none=>0)=be;have b5:∀ e i,xs[e]? = some i->(∀ j f,j<e->xs[j]? = some f->BG f=0)->BG i≠0->be=BG i:=fun e i ac ae b1=>by
  rw [<- bg,RN ac (by simpa using b1) fun j f af p=>by simpa using ae j f af p]
 have b8:(∀ f∈xs,BG f=0)->be=0:=fun ae=>by
  rw [<- bg];have:xs.find? (fun c=>decide (BG c≠0))=none:=by
   rw [List.find?_eq_none];intro f p;simp [ae f p]
  rw [this]
 refine oV Tryz.func77 ?_;refine AB.box ?_;intro aw c1 cs cx am a8;refine jN (z := .agg #[.slice none 0 0,.slice none 0 0,.string { data := #[] }]) ?_;intro aj bk b0 c0 y a9;refine bS BK (vs:=[]) ?_;intro bt ch bx cy bf bl;have c':=Below.size (xt am y);have c6:=bf.size;have bp:An eS 1 w.heap.size 9 ch (some ⟨bt,0,none⟩) 0 0 []:=Ag (enc:=eS) AP bl om;refine lR [2,4,7,13,14,15] (fun (e:Nat) cg w'=>∃ av bd,cg=[.pointer (some ⟨aw,0,none⟩),.pointer (some ⟨aj,0,none⟩),.slice av e bd,.slice a2 n2 c2,.int .i64 n2,.int .i64 e]/\e<=n2/\An eS 1 w.heap.size 9 w' av e bd ((xs.take e).map fun c=>Cf (CO c))/\(∀ g,AL av g->bk.heap.size<=g)/\(∀ j f,j<e->xs[j]? = some f->BG f=0)/\AD bk w') (fun e=>n2 - e) 0 ⟨_,_,rfl,om,by simpa using bp,?_,fun j f af=>by omega,bf⟩ ?_
 .rintro g ⟨f,p,rfl⟩;cases p
  exact bx
 rintro e cr _ bj ⟨ad,bw,rfl,cu,ay,ao,a0,q⟩;have bo:=xt am y;have o:=xt bo q;rcases Nat.lt_or_ge e n2 with b6 | b6
 .obtain ⟨aa,a3⟩:=AA (l:=ca) (k:=e) om;obtain ⟨i,ac,bb⟩:=b2.get a3;have b9:=Cz (fun c=>Cf (CO c)) ac;have an:∀ r,AD w r->Dq 135 [.agg ⟨eH aa⟩] r (fun v w'=>v = .tuple #[.string (if BG i=0 then Cf (CO i) else ⟨#[]⟩),.int .i64 (BG i)]/\AD r w'):=fun r ah=>Sj ⟨bb.1.ext ah,bb.2⟩;by_cases ap:BG i=0
  .rw [ap,if_pos rfl] at an;generalize ct:Cf (CO i)=bi at *;refine iY<|jI (az.ext o) e rfl a3 fun bu cf b4 a1=>jA (n:=1) a1 rfl<|jN (z := .agg #[.slice none 0 0]) fun bv ci x cd u aq=>jS (vs:=[Value.slice aa.a aa.n aa.c]) aq rfl rfl cE fun cj t ar=>jA (n:=1) ar.cells rfl<|dM (an _ (xb (xt o u) t.but (nB o x))) fun a6 ab=>bS BK (vs:=[Value.string bi]) ?_;intro co a7 bz cz ax ag;have bq:=AH (n:=1) (enc:=eS) (xs:=[bi]) AP ag bz rfl dE;refine AN (enc:=eS) BK AP (ay.ext (xt (xt (xb u t.but x) ab) ax)) (bq.own.arr AP) (by intro i _;simp [eS,AM]) om om (Below.size (xt (xt (xb (xt o u) t.but (nB o x)) ab) ax)) fun cn cq c4 br ce cc=>jP (((e+1:Nat):Int)) ?_;have a':AD bj a7:=(xt (xt (xb u t.but x) ab) ax);have c8:=a'.size;have ck:=q.size;exact ⟨e+1,om,_,_,rfl,om,by rw [b9];exact br,fun bh b'=>(cc bh b').elim (ao bh) (fun h=>by omega),fun j f af p=>by
    rcases Nat.lt_or_ge j e with h | h
    .exact a0 j f h p
    .obtain rfl:j=e:=om
     rw [ac] at p;cases p
     exact ap,xm (xt q a') ce ao⟩
  .rw [b5 e i ac a0 ap];rw [if_neg ap] at an;exact iY<|jI (az.ext o) e rfl a3 fun bu cf b4 a1=>jA (n:=1) a1 rfl<|jN (z := .agg #[.slice none 0 0]) fun bv ci x cd u aq=>jS (vs:=[Value.slice aa.a aa.n aa.c]) aq rfl rfl cE fun cj t ar=>jA (n:=1) ar.cells rfl<|dM (an _ (xb (xt o u) t.but (nB o x))) fun a6 ab=>iT<|jA (n:=3) (a8.ext (xt (xb (xt (xt y q) u) t.but (nB (xt y q) x)) ab)).cells rfl<|jS (vs:=[Value.slice a n c,Value.slice b m d,Value.string s]) (a9.ext (xt (xb (xt q u) t.but (nB q x)) ab)) rfl rfl cE fun a7 ak ag=>AO (jR (n:=3) rfl ag.cells) ⟨_,_,_,rfl,om,(xb (xt (xb (xt o u) t.but (nB o x)) ab) ak.but (nB am b0))⟩
 .obtain rfl:e=n2:=om
  rw [List.take_of_length_le om] at ay;rw [b8 fun f p=>by obtain ⟨j,af⟩:=List.mem_iff_getElem?.1 p;exact a0 j f (by have:=(List.getElem?_eq_some_iff.1 af).1;omega) af];have b3:∀ r,AD bj r->Dq 82 [.slice ad e bw] r (fun v w'=>∃ au bc,v = .slice au (e+1) bc/\An eS 1 w.heap.size 9 w' au (e+1) bc (CM (xs.map fun c=>Cf (CO c)))/\(∀ g,AL au g->AL ad g\/r.heap.size<=g)/\BP (AL ad) r w'):=fun r ah=>Kp (ay.ext ah) (Nat.le_trans o.size ah.size) om (hT.ext (xt o ah));refine iN ?_;have b7:¬ AL ad aw:=fun h=>by
   have:=ao aw h;have:=y.size;skip;omega
  have c5:=am.size;have a4:∀ g,AL ad g->w.heap.size<=g/\¬ g=aj:=fun g h=>by
   have:=ao g h;have:=y.size;skip;constructor<;>omega
  refine OZ A7 mixed ad (pZ [5,1,12,18,20,25]) kR kR fun c3 ai=>Bf (n:=3) kR (Sr.cells ((a8.ext (xt (xt y q) ai)).cells) b7) rfl<|(b3 _ ai).mono ?_;rintro _ a6 ⟨cm,cp,rfl,ba,cb,a5⟩;have c7:=ai.size;have ck:=q.size;have c9:=y.size;refine ⟨a5,?_⟩;have bm:=((a9.ext q).ext ai).mod a5 (fun h=>(a4 aj h).2 rfl);refine jS (vs:=[Value.slice a n c,Value.slice b m d,Value.string s]) bm rfl rfl cE fun a7 ak ag=>AO (jR (n:=3) rfl ag.cells) ?_;have bn:AD w a6:=xm (xt o ai) a5 (fun g h=>(a4 g h).1);exact ⟨_,_,_,rfl,fun _=>⟨ba.new,(ba.mod ak.but (fun i ac h=>by
   have h:i.block=aj:=h;rcases cb _ ⟨i,ac,rfl⟩ with ae | ae
   .exact (a4 _ ae).2 h
   .omega)).own⟩,xb bn ak.but om⟩
end Go.Proofs.YtalgenmoljcnmaaGreatDoor
namespace Go.Vc
open Go Go.RowKit
def YN (P:Program) (t:Nat):Option (Nat×Nat) :=
 match P.underlying t with
 | some (.array n e)=>match P.info? e with
  | some inf=>some (n,inf.size)
  | none=>none
 | _=>none
theorem Sv {P:Program} {t n sz:Nat} (ht:YN P t=some (n,sz)) {w:World} {b o:Nat} {i:Int} (k:Nat) (hi:i=k) (hlt:k<n) {kd:IntKind}
  {K:Value->World->Prop} (hK:K (.pointer (some ⟨b,o+k * sz,none⟩)) w):AB P (Instr.indexAt t (.pointer (some ⟨b,o,none⟩)) (.int kd i)) w K:=by
 unfold YN at ht;split at ht
 .rename_i f d c;split at ht
  .rename_i e a;simp only [Option.some.injEq,Prod.mk.injEq] at ht;obtain ⟨rfl,rfl⟩:=ht;subst hi;refine A6 ?_ hK;simp [Instr.indexAt,Instr.sureAddr,asIntOf,run_underlying c,hlt,sizeOf,typeInfo,a,CT]
  .cases ht
 .cases ht
end Go.Vc
namespace Go.M
open Go Go.Vc
def P6 (xs:List ByteArray):DataW Unit := .agg (xs.map fun s=>.lit (.string s.data.toList))
theorem Sp {enc:TypeId×Value->Unit} {P:Program} {w:World} {base:Nat} {sp:Nat->Bool} {held:Bool} {fuel:Nat} {t e:TypeId} {n:Nat} {cs:List Value} {zs:List ByteArray} {p:List MemPlace}
  (ht:P.underlying t=some (.array n e)) (he:P.underlying e=some .string) (hce:P.cellsOf e=1) (hct:P.cellsOf t=n)
  (h:DataW.trod enc P w base sp held fuel t cs=some (P6 zs,p)):cs=zs.map Value.string:=by
 cases fuel with
 | zero=>simp [DataW.trod] at h
 | succ fuel =>
  simp only [DataW.trod,ht,hce,hct,Nat.mul_one] at h;split at h
  .rename_i v;obtain ⟨d,f,q⟩:=Option.map_eq_some_iff.1 h;have g:d.map (·.1)=zs.map fun b=>(DataW.lit (.string b.data.toList):DataW Unit):=by
    have:=congrArg Prod.fst q;simpa [P6] using this
   have x:d.length=n:=by simpa using Lib.mapM_length f
   have y:zs.length=n:=by
    have:=congrArg List.length g;simp at this;omega
   apply List.ext_getElem?;intro a;by_cases o:a<n
   .obtain ⟨u,j,m⟩:=Lib.mapM_at f a a (by simp [o]);obtain ⟨b,k,rfl,_⟩:=DataW.trod_string he m;have i:cs[a]? = some (.string b):=by
     have:=congrArg (·[0]?) k;simpa [List.getElem?_take,List.getElem?_drop] using this
    have c:(d.map (·.1))[a]? = some (DataW.lit (.string b.data.toList):DataW Unit):=by simp [j]
    rw [g] at c;simp only [List.getElem?_map,Option.map_eq_some_iff,DataW.lit.injEq,Lit.string.injEq] at c;obtain ⟨s,r,l⟩:=c;have:s=b:=Cs l;subst this;simp [i,r]
   .rw [List.getElem?_eq_none om,List.getElem?_eq_none sW]
  .cases h
end Go.M
namespace Go.Proofs.YtalgenmoljcnmaaGreatDoor
open Go Go.RowKit Go.Vc Go.M Go.Shelf Go.Proofs
variable {w:World}
def E6 (w:World):Prop:=w.var? Tryz.prog (Rows.fnExactRunDeskRow.named.getD 8 Rows.fnExactRunDeskRow.spec)=some (EL.map Value.string).toArray
theorem E6.ext {w':World} (h:E6 w) (e:AD w w'):E6 w':=Pu h e
theorem NW {rest:List (String×DataW Unit)} {W:World} (h:laidMet Tryz.prog (((Rows.fnExactRunDeskRow.named.getD 8 Rows.fnExactRunDeskRow.spec),P6 EL) :: rest) W):E6 W:=by
 obtain ⟨j,⟨g,l,e,f,i,k,b,c,d,a,_,_⟩,_⟩:=h;obtain rfl:=Option.some.inj ((show (Tryz.prog).globalNamed (Rows.fnExactRunDeskRow.named.getD 8 Rows.fnExactRunDeskRow.spec)=some 0 from kR).symm.trans b);obtain rfl:=Option.some.inj ((show ((Tryz.prog).globals[0]?).map (·.type)=some 137 from kR).symm.trans c);unfold E6;rw [d,<- Sp Tryz.underlying137 Tryz.underlying9 kR kR a]
theorem E6.cells (h:E6 w) {k:Nat} {s:ByteArray} (hs:EL[k]? = some s):AK w 0 k [.string s]:=by
 have c:=World.var?_cell (show (Tryz.prog).globalNamed (Rows.fnExactRunDeskRow.named.getD 8 Rows.fnExactRunDeskRow.spec)=some 0 from kR) h k;intro b d a;cases b with
 | zero =>
  simp only [List.getElem?_cons_zero,Option.some.injEq] at a;subst a;rw [Nat.add_zero,c];simp [hs]
 | succ b=>simp at a
theorem Lo (k:Int) (hN:E6 w):Dq 37 [.int .i64 k] w (fun v w'=>v = .string (E4 k)/\AD w w'):=by
 cases a:Ey k 0 10
 .have b:E4 k=⟨#[]⟩:=by unfold E4;rw [if_pos a]
  rw [b];refine oV Tryz.func37 ?_;refine (CD _ _ _ _).mono ?_;rintro _ _ ⟨rfl,rfl⟩;refine iT ?_;exact ⟨rfl,AD.refl _⟩
 .have f:=Bx a;have b:E4 k=EL.getD k.toNat ⟨#[]⟩:=by unfold E4;rw [if_neg (by simp [a])]
  obtain ⟨e,c⟩:=AA (l:=EL) (k:=k.toNat) (by show k.toNat<11;omega);rw [b,Af c];have d:=hN.cells c;refine oV Tryz.func37 ?_;refine (CD _ _ _ _).mono ?_;rintro _ _ ⟨rfl,rfl⟩;refine DY (by rw [a];rfl) ?_;refine Sv (n:=11) (sz:=1) kR k.toNat om om ?_;refine jO (vs:=[.string e]) (by simpa using d) rfl ?_;exact ⟨rfl,AD.refl _⟩
end Go.Proofs.YtalgenmoljcnmaaGreatDoor
namespace Go.M
open Go Go.Vc
def CZ (X:List (List (List Int))) (t:Int) (z:ByteArray):List (List (List Int)):=X.set t.toNat (X.getD t.toNat []++[CW z])
def Kx (X:List (List (List Int))) (m:Nat) (t:Int) (z:ByteArray):Int :=
 if CK z≠0 then CK z else if Aq (CZ X t z) m=false then 6 else 0
end Go.M
namespace Go.Proofs.YtalgenmoljcnmaaGreatDoor
section
open Go Go.RowKit Go.Vc Go.M
theorem Uw {w:World} {lo hi n c m d:Nat} {a b:Option Addr} {s:ByteArray} {X:List (List (List Int))} {Y:List (List AT)} (h:Gj w lo hi a n c b m d X Y) (hhi:hi<=w.heap.size) (ho:Aq X m=true) (hT:∀ u,BP (Iv lo hi) w u->GR u) {a1 a2 a3 a4:Option Addr} {n1 n2 n3 n4 c1 c2 c3 c4:Nat} {T:List Int} {Z:List ByteArray} {t:Int} {z:ByteArray} (h1:A4 eI 1 w a1 n1 T) (h4:A4 eS 1 w a4 n4 Z)
  (ht:T[0]? = some t) (hz:Z[0]? = some z) (tb:0<=t/\t<=5) (hzs:z.size<=1048576) :
  Dq 75 [.agg #[.slice a n c,.slice b m d,.string s],.agg #[.slice a1 n1 c1,.slice a2 n2 c2,.slice a3 n3 c3,.slice a4 n4 c4]] w (fun v w'=>∃ al nl cl,v = .tuple #[.agg #[.slice a n c,.slice b m d,.string s],.slice al nl cl,.int .i64 (Kx X m t z)] /\
   (Kx X m t z=0->∃ hi',w.heap.size<=hi'/\hi'<=w'.heap.size/\(∀ u,BP (fun k=>hi<=k/\k<w.heap.size) w' u->Ct u lo hi' a n b m (CZ X t z) Y)/\Ab hi' al/\Bs eS w' al nl 9 [DE (At (CZ X t z))])/\BP (Iv lo hi) w w'):=by
 have dn:=A8 ho;have fp:=dn.1;have dh:=h.rd;have fu:=dh.1.len;have ft:=dh.2.len;have bb:∀ u,Dq 132 [.string z,.int .i64 z.size] u (fun v w'=>∃ a n c,v = .tuple #[.agg #[.slice a n c],.int .i64 (CK z)]/\(CK z=0->Ab u.heap.size a/\An eI 1 u.heap.size 2 w' a n c (CW z))/\AD u w'):=fun u=>Q6 hzs u;unfold Kx;by_cases b4:CK z=0
 .rw [if_neg om];rw [b4] at bb;refine oV Tryz.func75 ?_;refine AB.box ?_;intro aw fb eg e1 ac a5;refine AB.box fun a' fc eh e2 q a6=>jN (z := .agg #[.slice none 0 0,.slice none 0 0,.string { data := #[] }]) fun ai fd ck e3 p a7=>Du [14] A7 mixed none (.seq (pZ [0,20,6,10,16,26,30,36,40]) (.alt 9 (.seq (pZ [50,55,60,67,73,75]) .done) 13 (.seq (pZ [47,50,55,60,73,75]) .done))) kR kR ?_;intro av i;have bf:∀ ao,¬ AL none ao:=fun ao bc=>by obtain ⟨x,be,_⟩:=bc;cases be
  have a8:∀ w',Sr none av w'->AK w' a' 0 [.slice a1 n1 c1,.slice a2 n2 c2,.slice a3 n3 c3,.slice a4 n4 c4]:=Sr.cells (a6.ext (xt p i)).cells (bf _);refine Cu kR (k:=3) a8 rfl<|pI (h4.ext (xt (xt (xt ac q) p) i)) 0 rfl hz ?_;intro ce cx cp br;have bm:∀ w',Sr none av w'->AK w' ce (cx+0 * 1) [.string z]:=Sr.cells br (bf _);refine FU kR bm rfl<|Cu kR (k:=3) a8 rfl<|pI (h4.ext (xt (xt (xt ac q) p) i)) 0 rfl hz ?_;intro cf cy cq bt;have bn:∀ w',Sr none av w'->AK w' cf (cy+0 * 1) [.string z]:=Sr.cells bt (bf _);refine FU kR bn rfl<|Dd.mk ?_ ?_
  focus
   refine (bb _).mono ?_;rintro _ c0 ⟨r,ag,af,rfl,bg,j⟩;refine ⟨AV j,jN (z := .agg #[.slice none 0 0]) fun ah cz ar cv o a0=>⟨AV (xt j o),jS (vs:=[Value.slice r ag af]) a0 rfl rfl cE ?_⟩⟩;intro ae y bx;(conv=>whnf);have bo:AD w ae:=xb (xt (xt (xt (xt (xt ac q) p) i) j) o) y.but (by have:=ac.size;have:=q.size;have:=p.size;have:=i.size;have:=j.size;omega);have fh:=ac.size;have fi:=q.size;have fj:=p.size;have fk:=i.size;have fl:=j.size;have fe:=o.size;have ff:=y.but.size;have b9:B8 ae aw [.slice a n c,.slice b m d,.string s] 36:=(a5.ext (xt (xt (xt (xt q p) i) j) o)).mod y.but (fun h=>by have h:aw=ah:=h;omega);have c5:B8 ae a' [.slice a1 n1 c1,.slice a2 n2 c2,.slice a3 n3 c3,.slice a4 n4 c4] 68:=(a6.ext (xt (xt (xt p i) j) o)).mod y.but (fun h=>by have h:a'=ah:=h;omega);have c6:=(a7.ext (xt (xt i j) o)).mod y.but (fun h=>by have h:ai=ah:=h;omega);obtain ⟨au,a9⟩:=bg rfl;have bz:An eI 1 w.heap.size 2 ae r ag af (CW z):=((a9.ext o).mod y.but (fun aa ad h=>by
    have h:aa.block=ah:=h;have h1:=au aa ad;have bl:=(a9.blk_lt aa ad).2;omega)).base om
   have di:Ab w.heap.size r:=au.mono om;have dj:∀ e∈BW r,av.heap.size<=e:=fun e g=>by
    obtain ⟨aa,ad,rfl⟩:=Az.1 g;have:=au aa ad;omega
   clear a8 bm bn br bt cp cq a5 a6 a7 bg bb a9 au
  rotate_left
  focus
   refine jN (z := .agg #[.slice none 0 0]) fun ah cz ar cv o a0=>⟨AV o,(bb _).mono ?_⟩;rintro _ c0 ⟨r,ag,af,rfl,bg,j⟩;refine ⟨AV (xt o j),jS (vs:=[Value.slice r ag af]) (a0.ext j) rfl rfl cE ?_⟩;intro ae y bx;(conv=>whnf);have bo:AD w ae:=xb (xt (xt (xt (xt (xt ac q) p) i) o) j) y.but (by have:=ac.size;have:=q.size;have:=p.size;have:=i.size;omega);have fh:=ac.size;have fi:=q.size;have fj:=p.size;have fk:=i.size;have fl:=j.size;have fe:=o.size;have ff:=y.but.size;have b9:B8 ae aw [.slice a n c,.slice b m d,.string s] 36:=(a5.ext (xt (xt (xt (xt q p) i) o) j)).mod y.but (fun h=>by have h:aw=ah:=h;omega);have c5:B8 ae a' [.slice a1 n1 c1,.slice a2 n2 c2,.slice a3 n3 c3,.slice a4 n4 c4] 68:=(a6.ext (xt (xt (xt p i) o) j)).mod y.but (fun h=>by have h:a'=ah:=h;omega);have c6:=(a7.ext (xt (xt i o) j)).mod y.but (fun h=>by have h:ai=ah:=h;omega);obtain ⟨au,a9⟩:=bg rfl;have bz:An eI 1 w.heap.size 2 ae r ag af (CW z):=(a9.mod y.but (fun aa ad h=>by
    have h:aa.block=ah:=h;have h1:=au aa ad;have bl:=(a9.blk_lt aa ad).2;omega)).base om
   have di:Ab w.heap.size r:=au.mono om;have dj:∀ e∈BW r,av.heap.size<=e:=fun e g=>by
    obtain ⟨aa,ad,rfl⟩:=Az.1 g;have:=au aa ad;omega
   clear a8 bm bn br bt cp cq a5 a6 a7 bg bb a9 au
  all_goals
   refine jL c5.cells (k:=0) rfl<|jI (h1.ext bo) 0 rfl ht fun fn fx fq en=>jO en rfl ?_;(conv=>whnf);obtain ⟨ci,cm,d5,c',cn⟩:=h;obtain ⟨e5,e7,cw⟩:=List.nodup_append.1 cn.1;have d7:DM (OG Aw 144) ae a n 78 X ci:=(d5.ext bo).own;obtain ⟨bw,cu⟩:=AA (l:=X) (k:=t.toNat) om;obtain ⟨ab,aj,dd,ep,b3,dz,d3,e8,em,bd,ey⟩:=d7.hand e5 cu;subst ep;obtain ⟨fm,ez,ec,ed,ee,ef⟩:=d3;have bp:CH Aw 0 144 ae aj.a aj.n aj.c bw dd:=⟨ez,ec,ed.base (Nat.zero_le _),ee,ef⟩;have et:X.getD t.toNat []=bw:=Af cu;have fv:=(dn.2.2 bw (List.mem_of_getElem? cu)).1;have fs:aj.n<=40:=by have:=bp.le.2;omega
   have ak:∀ e∈ci,lo<=e/\e<hi:=fun e g=>cn.2 e (List.mem_append_left _ g);have dm:∀ e,hi<=e->¬ AL aj.a e:=fun e g h=>by have:=ak e (bd e (bp.blk e h));omega
   have ew:¬ AL aj.a ab:=fun h=>em (bp.blk ab h);refine IJ [14] A7 mixed aj.a (pZ [0,5,15,20,25,35,11,31,40,46,51,57,62,65,73]) kR kR ?_;intro bv ba;have c7:∀ w',Sr aj.a bv w'->AK w' aw 0 [.slice (some ⟨ab,0,none⟩) n c,.slice b m d,.string s]:=Sr.cells (b9.ext ba).cells (dm _ om);have d0:∀ w',Sr aj.a bv w'->AK w' ah 0 [.slice r ag af]:=Sr.cells (bx.ext ba).cells (dm _ om);have d2:∀ w',Sr aj.a bv w'->AK w' ab (0+t.toNat * 1) (eH aj):=Sr.cells (dz.ext ba) ew;refine Cu kR (k:=0) c7 rfl<|Cu kR (k:=0) c7 rfl<|pW (sz:=1) t.toNat om om<|FU kR d2 rfl<|Bf (n:=1) kR d0 rfl<|AB.buildSlice Bz (vs:=[Value.agg ⟨eH ⟨r,ag,af⟩⟩]) rF rF (by simp [Value.cells,eH]) dE ?_;intro d9 e' fo fw bj dx;have d1:AK e' d9 0 (eH ⟨r,ag,af⟩):=dx.cells;refine ⟨AV bj,?_⟩;have fz:=ba.size;have f0:=bj.size;have cr:∀ e∈BW r,w.heap.size<=e/\e<ae.heap.size:=fun e g=>by
    obtain ⟨aa,ad,rfl⟩:=Az.1 g;exact ⟨di aa ad,(bz.blk_lt aa ad).2⟩
   have eq:(BW r).Nodup:=by cases r<;>simp [BW]
   refine Co Bz rfl (bp.ext (xt ba bj)) e8 (Nat.zero_le _) (d:=⟨r,ag,af⟩) (x:=CW z) (f:=BW r) (FR (bz.ext (xt ba bj)).own bz.le.1) eq (fun e g bu=>by have:=cr e g;have:=ak e (bd e bu);omega) d1 om om fun d8 d' ds eb d4 e6 dq cc=>⟨(AD.mod bj).trans cc,pW (sz:=1) t.toNat om om ?_⟩;have b0:BP (fun e=>e∈dd) ae ds:=(AD.mod (xt ba bj)).trans (cc.mono fun e g=>bp.blk e g);refine ey _ _ ds ⟨d8,aj.n+1,d'⟩ (bw++[CW z]) eb kR b0 ⟨0,d4⟩ e6 (fun e g=>by
    rcases dq e g with h | h | h
    .exact .inl h
    .exact .inr fun bu=>by have:=cr e h;have:=ak e bu;omega
    .exact .inr fun bu=>by have:=ak e bu;omega) _ ?_
   intro am de b2 bq e4 e9;have f1:=cc.size;have f2:=b2.but.size;have cd:BP (Iv lo hi) w am:=((AD.mod bo).trans (b0.mono fun e g=>ak e (bd e g))).trans (b2.but.mono fun e g=>by have g:e=ab:=g;subst g;exact ak e b3);have dg:∀ {ao:Nat} {dc:List Value} {dr:Nat},B8 ae ao dc dr->hi<=ao->B8 am ao dc dr:=fun dw bc=>(dw.mod b0 (fun h=>by have:=ak _ (bd _ h);omega)).mod b2.but (fun h=>by have h:_=ab:=h;have:=ak _ b3;omega);have b':=dg b9 om;have ca:=dg c6 om;have el:X.set t.toNat (bw++[CW z])=CZ X t z:=by unfold CZ;rw [et]
   rw [el] at bq;have ej:GR am:=hT am cd;have ek:∀ u,AD am u->Dq 66 [.agg #[.slice (some ⟨ab,0,none⟩) n c,.slice b m d]] u (fun v w'=>v = .bool (Aq (CZ X t z) m)/\AD u w'):=fun u bi=>Gu (bq.arr.ext bi);refine jG (n:=2) (k:=0) b'.cells rfl<|dM (ek _ (AD.refl _)) fun fy ay=>?_;have f4:=ay.size;(conv=>whnf);cases ex:Aq (CZ X t z) m
   .rw [if_pos rfl];exact jA (n:=3) (b'.ext ay).cells rfl<|AX (vs:=[Value.slice (some ⟨ab,0,none⟩) n c,Value.slice b m d,Value.string s]) kR (ca.ext ay) rfl rfl cE fun dt ea dy=>AO (jR (n:=3) rfl dy.cells) ⟨_,_,_,rfl,(fun h=>by cases h),(cd.trans (AD.mod ay)).trans_new ea.but (fun k an=>by have an:k=ai:=an;omega)⟩
   .rw [if_neg sI];have dp:=A8 ex;have ei:∀ u,AD am u->Dq 76 [.agg #[.slice (some ⟨ab,0,none⟩) n c,.slice b m d]] u (fun v w'=>v = .string (DE (At (CZ X t z)))/\AD u w'):=fun u bi=>Iu (bq.arr.ext bi) dp.1 (fun x be=>(dp.2.2 x be).1) (ej.ext bi);have f3:=ay.size;have er:=c'.lt;have ct:∀ e∈cm,lo<=e/\e<hi:=fun e g=>cn.2 e (List.mem_append_right _ g);have da:DM En am b m 161 Y cm:=c'.own.keep fun e g=>by
     have h1:=er e g;rw [b2.block e (fun h=>cw ab b3 e g h.symm),b0.block e (fun h=>cw e (bd e h) e g rfl) om,bo.block e h1]
    have fr:=ak ab b3;have cs:∀ e∈de,(e∈ci\/w.heap.size<=e)/\lo<=e/\e≠ai:=fun e g=>by
     rcases e9 e g with h | h
     .have:=ak e h;exact ⟨.inl h,this.1,om⟩
     .rcases dq e h with h | h | h
      .have:=ak e (bd e h);exact ⟨.inl (bd e h),this.1,om⟩
      .have h1:=cr e h;have bl:=dj e h;exact ⟨.inr h1.1,om,om⟩
      .exact ⟨.inr om,om,om⟩
    have dl:=bq.lt;have es:=da.lt;have c9:∀ (ap:World) (aq:Nat),BP (fun e=>e=ai) am ap->am.heap.size<=aq->Bs eS ap (some ⟨aq,0,none⟩) 1 9 [DE (At (CZ X t z))]->∃ al nl cl,Value.tuple #[.agg #[.slice (some ⟨ab,0,none⟩) n c,.slice b m d,.string s],.slice (some ⟨aq,0,none⟩) 1 1,.int .i64 0]=Value.tuple #[.agg #[.slice (some ⟨ab,0,none⟩) n c,.slice b m d,.string s],.slice al nl cl,.int .i64 0] /\
      ((0:Int)=0->∃ hi',w.heap.size<=hi'/\hi'<=ap.heap.size/\(∀ u,BP (fun k=>hi<=k/\k<w.heap.size) ap u->Ct u lo hi' (some ⟨ab,0,none⟩) n b m (CZ X t z) Y)/\Ab hi' al/\Bs eS ap al nl 9 [DE (At (CZ X t z))])/\BP (Iv lo hi) w ap:=by
     intro ap aq b1 eo d6;have dv:=b1.size;refine ⟨_,_,_,rfl,fun _=>⟨am.heap.size,om,dv,fun u db=>⟨78,161,de,cm,(bq.keep fun e g=>by
      have h1:=cs e g;have bl:=dl e g;rw [db.block e (fun eu=>by rcases h1.1 with df | df;have:=ak e df;omega;omega) om,b1.block e h1.2.2 bl]).imp (fun _ _ _ h=>OG.os h),da.keep fun e g=>by
      have h1:=ct e g;have bl:=es e g;rw [db.block e (fun eu=>by omega) om,b1.block e om bl],List.nodup_append.2 ⟨e4,e7,fun b5 b4 ao bc bi=>?_⟩,fun e g=>?_⟩,?_,d6⟩,C0 cd b1 (fun e g=>.inr om)⟩
     .subst bi;have h1:=ct b5 bc;rcases (cs b5 b4).1 with h | h
      .exact cw b5 h b5 bc rfl
      .omega
     .rcases List.mem_append.1 g with g | g
      .exact ⟨(cs e g).2.1,dl e g⟩
      .have:=ct e g;omega
     .intro aa ad;cases ad
      exact eo
    refine Du [] A7 mixed (some ⟨ai,0,none⟩) (.seq (pZ [5,1,11,17]) (.alt 4 (.seq (pZ [27,30,35]) .done) 5 (.seq (pZ [22,30,35]) .done))) kR kR ?_;intro dt ch;have c8:∀ w',Sr (some ⟨ai,0,none⟩) dt w'->AK w' aw 0 [.slice (some ⟨ab,0,none⟩) n c,.slice b m d,.string s]:=Sr.cells (b'.ext (xt ay ch)).cells (by rintro ⟨x,be,dk⟩;cases be;have dk:aw=ai:=dk;omega);refine Bf (n:=3) kR c8 rfl<|E3 (n:=2) kR (k:=0) c8 rfl<|dM (ei _ (xt ay ch)) fun fa bk=>⟨AV bk,?_⟩;have bh:AD am fa:=xt (xt ay ch) bk;have co:∀ {x aa:World},But ai x aa->BP (AL (some (⟨ai,0,none⟩:Addr))) x aa:=fun h=>h.mono fun e g=>⟨_,rfl,g⟩;refine Dd.mk ?_ ?_
    .refine bS BK (vs:=[Value.string (DE (At (CZ X t z)))]) ?_;intro aq du cj e0 az b7;have cb:=AH (n:=1) (enc:=eS) (xs:=[DE (At (CZ X t z))]) AP b7 cj rfl dE;refine ⟨AV (xt bk az),AX (vs:=[Value.slice (some ⟨ab,0,none⟩) n c,Value.slice b m d,Value.string s]) kR (ca.ext (xt bh az)) rfl rfl cE fun ap ax b8=>⟨(AV (xt bk az)).trans (co ax.but),AO (jR (n:=3) rfl b8.cells) ?_⟩⟩;have fg:=bh.size;exact c9 ap aq ((AD.mod (xt bh az)).trans ax.but) om (cb.mod ax.but (fun aa ad h=>by
      cases ad
      have h:aq=ai:=h;omega)).own
    .refine AX (vs:=[Value.slice (some ⟨ab,0,none⟩) n c,Value.slice b m d,Value.string s]) kR (ca.ext bh) rfl rfl cE fun ap ax b8=>⟨(AV bk).trans (co ax.but),bS BK (vs:=[Value.string (DE (At (CZ X t z)))]) ?_⟩;intro aq du cj e0 az b7;have cb:=AH (n:=1) (enc:=eS) (xs:=[DE (At (CZ X t z))]) AP b7 cj rfl dE;refine ⟨((AV bk).trans (co ax.but)).trans (AD.mod az),AO (jR (n:=3) rfl (b8.ext az).cells) ?_⟩;have fg:=bh.size;have dv:=ax.but.size;exact c9 du aq (((AD.mod bh).trans ax.but).trans (AD.mod az)) om cb.own
 .rw [if_pos b4];refine oV Tryz.func75 ?_;refine AB.box ?_;intro aw fb eg e1 ac a5;refine AB.box fun a' fc eh e2 q a6=>jN (z := .agg #[.slice none 0 0,.slice none 0 0,.string { data := #[] }]) fun ai fd ck e3 p a7=>Du [14] A7 mixed none (.seq (pZ [0,20,6,10,16,26,30,36,40]) (.alt 9 (.seq (pZ [50,55,60,67,73,75]) .done) 13 (.seq (pZ [47,50,55,60,73,75]) .done))) kR kR ?_;intro av i;have bf:∀ ao,¬ AL none ao:=fun ao bc=>by obtain ⟨x,be,_⟩:=bc;cases be
  have a8:∀ w',Sr none av w'->AK w' a' 0 [.slice a1 n1 c1,.slice a2 n2 c2,.slice a3 n3 c3,.slice a4 n4 c4]:=Sr.cells (a6.ext (xt p i)).cells (bf _);refine Cu kR (k:=3) a8 rfl<|pI (h4.ext (xt (xt (xt ac q) p) i)) 0 rfl hz ?_;intro ce cx cp br;have bm:∀ w',Sr none av w'->AK w' ce (cx+0 * 1) [.string z]:=Sr.cells br (bf _);refine FU kR bm rfl<|Cu kR (k:=3) a8 rfl<|pI (h4.ext (xt (xt (xt ac q) p) i)) 0 rfl hz ?_;intro cf cy cq bt;have bn:∀ w',Sr none av w'->AK w' cf (cy+0 * 1) [.string z]:=Sr.cells bt (bf _);refine FU kR bn rfl<|Dd.mk ?_ ?_
  .refine (bb _).mono ?_;rintro _ c0 ⟨r,ag,af,rfl,bg,j⟩;exact ⟨AV j,jN (z := .agg #[.slice none 0 0]) fun ah cz ar cv o a0=>⟨AV (xt j o),jS (vs:=[Value.slice r ag af]) a0 rfl rfl cE fun ae y bx=>iT<|jA (n:=3) (a5.ext (xb (xt (xt (xt (xt q p) i) j) o) y.but (nB (xt (xt (xt q p) i) j) ar))).cells rfl<|jS (vs:=[Value.slice a n c,Value.slice b m d,Value.string s]) (a7.ext (xb (xt (xt i j) o) y.but (nB (xt i j) ar))) rfl rfl cE fun bv cg b6=>AO (jR (n:=3) rfl b6.cells) ⟨_,_,_,rfl,om,(((((((ac.mod.trans q.mod).trans p.mod).trans i.mod).trans j.mod).trans o.mod).trans_new y.but (fun k an=>Nat.le_trans (Below.size (xt (xt (xt (xt ac q) p) i) j)) (Nat.le_trans ar (Nat.le_of_eq an.symm)))).trans_new cg.but (fun k an=>Nat.le_trans (Below.size (xt ac q)) (Nat.le_trans ck (Nat.le_of_eq an.symm))))⟩⟩⟩
  .refine jN (z := .agg #[.slice none 0 0]) fun ah cz ar cv o a0=>⟨AV o,(bb _).mono ?_⟩;rintro _ c0 ⟨r,ag,af,rfl,bg,j⟩;exact ⟨AV (xt o j),jS (vs:=[Value.slice r ag af]) (a0.ext j) rfl rfl cE fun ae y bx=>iT<|jA (n:=3) (a5.ext (xb (xt (xt (xt (xt q p) i) o) j) y.but (nB (xt (xt q p) i) ar))).cells rfl<|jS (vs:=[Value.slice a n c,Value.slice b m d,Value.string s]) (a7.ext (xb (xt (xt i o) j) y.but (nB i ar))) rfl rfl cE fun bv cg b6=>AO (jR (n:=3) rfl b6.cells) ⟨_,_,_,rfl,om,(((((((ac.mod.trans q.mod).trans p.mod).trans i.mod).trans o.mod).trans j.mod).trans_new y.but (fun k an=>Nat.le_trans (Below.size (xt (xt (xt ac q) p) i)) (Nat.le_trans ar (Nat.le_of_eq an.symm)))).trans_new cg.but (fun k an=>Nat.le_trans (Below.size (xt ac q)) (Nat.le_trans ck (Nat.le_of_eq an.symm))))⟩⟩
end
section
open Go Go.RowKit Go.Vc Go.M
variable {w w' w1 w2:World} {fp fX fY:List Nat} {b n c m d no co n' c' t t2:Nat} {D D':B7} {out out':List ByteArray} {a b2 ao a':Option Addr}
def P0 (w:World) (fp:List Nat) (b:Nat) (D:B7) (out:List ByteArray):Prop :=
 ∃ (a:Option Addr) (n c:Nat) (b2:Option Addr) (m d:Nat) (ao:Option Addr) (no co t t2:Nat) (fX fY:List Nat),
  B8 w b [.slice a n c,.slice b2 m d,.string D.s,.slice ao no co] 49/\DM Gm w a n t D.X fX/\DM En w b2 m t2 D.Y fY/\An eS 1 0 9 w ao no co out/\fp=b :: (BW ao++(fX++fY))/\fp.Nodup
def Rm (w:World) (fp:List Nat) (b:Nat) (w':World) (D:B7) (out:List ByteArray):Prop:=∃ fp',P0 w' fp' b D out/\(∀ k∈fp',k∈fp\/w.heap.size<=k)/\BP (fun k=>k∈fp) w w'
theorem P0.lt (h:P0 w fp b D out):∀ k∈fp,k<w.heap.size:=by
 obtain ⟨j,t,n,m,s,p,l,no,o,v,x,q,r,c,e,f,d,rfl,u⟩:=h;intro k a;rcases List.mem_cons.1 a with rfl | a
 .exact c.lt
 rcases List.mem_append.1 a with a | a
 .obtain ⟨i,g,rfl⟩:=Az.1 a;exact d.lt i g
 rcases List.mem_append.1 a with a | a
 .exact e.lt k a
 .exact f.lt k a
theorem P0.mod {S:Nat->Prop} (h:P0 w fp b D out) (M:BP S w w') (hs:∀ k∈fp,¬ S k):P0 w' fp b D out:=by
 have q:=h.lt;obtain ⟨l,t,n,m,s,p,c,no,o,v,x,d,e,f,i,j,g,rfl,u⟩:=h;have a:∀ k∈b :: (BW c++(d++e)),w'.heap[k]? = w.heap[k]? := fun k a=>M.block k (hs k a) (q k a);refine ⟨l,t,n,m,s,p,c,no,o,v,x,d,e,f.mod M (hs b sI),i.keep fun k h=>a k ?_,j.keep fun k h=>a k ?_,g.kept fun y r=>a _ ?_,rfl,u⟩
 .simp [h]
 .simp [h]
 .exact List.mem_cons_of_mem _ (List.mem_append_left _ (Az.2 ⟨y,r,rfl⟩))
theorem P0.ext (h:P0 w fp b D out) (e:AD w w'):P0 w' fp b D out:=h.mod (S:=fun _=>False) e.mod fun _ _ h=>h
theorem Xj (h:P0 w fp b D out) (e:AD w w'):Rm w fp b w' D out:=⟨fp,h.ext e,fun _ a=>.inl a,e.mod⟩
theorem MS {fp1:List Nat} (s1:∀ k∈fp1,k∈fp\/w.heap.size<=k) (M1:BP (fun k=>k∈fp) w w1) (hl:∀ k∈fp,k<w.heap.size) (h:Rm w1 fp1 b w2 D' out'):Rm w fp b w2 D' out':=by
 obtain ⟨g,f,l,a⟩:=h;have m:=M1.size;refine ⟨g,f,fun e j=>?_,⟨a.os.trans M1.os,a.tape.trans M1.tape,a.output.trans M1.output,Nat.le_trans M1.size a.size,fun c d i=>?_⟩⟩
 .rcases l e j with h | h
  .exact s1 e h
  .exact .inr om
 .rw [a.block c (fun h=>(s1 c h).elim d om) om,M1.block c d i]
theorem Ca (h:P0 w fp b D out) (e:AD w w1) (k:Rm w1 fp b w2 D' out'):Rm w fp b w2 D' out':=by
 obtain ⟨d,c,i,a⟩:=k;have j:=e.size;exact ⟨d,c,fun g f=>(i g f).imp id om,(AD.mod e).trans a⟩
theorem Rl (B:B8 w b [.slice a n c,.slice b2 m d,.string D.s,.slice ao no co] 49) (OX:DM Gm w a n t D.X fX) (OY:DM En w b2 m t2 D.Y fY) (G:An eS 1 0 9 w ao no co out)
  (nd:(b :: (BW ao++(fX++fY))).Nodup) (G1:An eS 1 0 9 w1 a' n' c' out') (M:BP (AL ao) w w1) (hi:∀ k,AL a' k->AL ao k\/w.heap.size<=k) (ch:Oa b w1 w2) (B2:B8 w2 b [.slice a n c,.slice b2 m d,.string D.s,.slice a' n' c'] 49):Rm w (b :: (BW ao++(fX++fY))) b w2 D out':=by
 have u:P0 w (b :: (BW ao++(fX++fY))) b D out:=⟨a,n,c,b2,m,d,ao,no,co,t,t2,fX,fY,B,OX,OY,G,rfl,nd⟩;have o:=u.lt;obtain ⟨j,z⟩:=List.nodup_cons.1 nd;obtain ⟨ac,y,r⟩:=List.nodup_append.1 z;have ab:=B.lt;have l:∀ k∈fX++fY,w2.heap[k]? = w.heap[k]? := fun k e=>by
  rw [ch.block k (fun g=>j (g▸List.mem_append_right _ e)),M.block k (fun f=>r k (Az.2 f) k e rfl) (o k (List.mem_cons_of_mem _ (List.mem_append_right _ e)))]
 have i:∀ k∈BW a',k∈BW ao\/w.heap.size<=k:=fun k e=>(hi k (Az.1 e)).imp (fun f=>Az.2 f) id;have p:∀ k∈BW a',k≠b:=fun k e g=>by
  subst g;rcases i k e with f | f
  .exact j (List.mem_append_left _ f)
  .omega
 refine ⟨b :: (BW a'++(fX++fY)),⟨a,n,c,b2,m,d,a',n',c',t,t2,fX,fY,B2,OX.keep fun k e=>l k (List.mem_append_left _ e),OY.keep fun k e=>l k (List.mem_append_right _ e),G1.kept fun aa x=>ch.block _ (p _ (Az.2 ⟨aa,x,rfl⟩)),rfl,?_⟩,?_,?_⟩
 .refine List.nodup_cons.2 ⟨fun f=>?_,List.nodup_append.2 ⟨by cases a'<;>simp [BW],y,fun h v ad q g=>?_⟩⟩
  .rcases List.mem_append.1 f with f | f
   .exact p b f rfl
   .exact j (List.mem_append_right _ f)
  .subst g;rcases i h v with f | f
   .exact r h f h q rfl
   .have:=o h (List.mem_cons_of_mem _ (List.mem_append_right _ q));omega
 .intro k e;rcases List.mem_cons.1 e with rfl | e
  .exact .inl sI
  rcases List.mem_append.1 e with e | e
  .exact (i k e).imp (fun f=>List.mem_cons_of_mem _ (List.mem_append_left _ f)) id
  .exact .inl (List.mem_cons_of_mem _ (List.mem_append_right _ e))
 .exact (M.mono fun k e=>List.mem_cons_of_mem _ (List.mem_append_left _ (Az.2 e))).trans (ch.but.mono fun k e=>by have e:k=b:=e;simp [e])
theorem Ky {b2':Option Addr} {m' d' t' t2':Nat} {gX gY:List Nat} {X:List (List (List Int))} {Y:List (List AT)} {s:ByteArray} (B:B8 w b [.slice a n c,.slice b2 m d,.string D.s,.slice ao no co] 49) (OX:DM Gm w a n t D.X fX) (OY:DM En w b2 m t2 D.Y fY) (G:An eS 1 0 9 w ao no co out)
  (nd:(b :: (BW ao++(fX++fY))).Nodup) (e:AD w w1) (OX1:DM Gm w1 a' n' t' X gX) (OY1:DM En w1 b2' m' t2' Y gY) (ndg:(gX++gY).Nodup) (hg:∀ k∈gX++gY,k∈fX++fY\/w.heap.size<=k) (ch:Oa b w1 w2) (B2:B8 w2 b [.slice a' n' c',.slice b2' m' d',.string s,.slice ao no co] 49):Rm w (b :: (BW ao++(fX++fY))) b w2 ⟨X,Y,s⟩ out:=by
 obtain ⟨p,v⟩:=List.nodup_cons.1 nd;obtain ⟨u,z,x⟩:=List.nodup_append.1 v;have y:=B.lt;have q:=G.lt;have h:∀ k∈gX++gY,k≠b:=fun k f e=>by
  subst e;rcases hg k f with g | g
  .exact p (List.mem_append_right _ g)
  .omega
 have l:∀ k∈BW ao,k≠b:=fun k f e=>p (e▸List.mem_append_left _ f);refine ⟨b :: (BW ao++(gX++gY)),⟨a',n',c',b2',m',d',ao,no,co,t',t2',gX,gY,B2,OX1.keep fun k f=>ch.block k (h k (List.mem_append_left _ f)),OY1.keep fun k f=>ch.block k (h k (List.mem_append_right _ f)),(G.ext e).kept fun j i=>ch.block _ (l _ (Az.2 ⟨j,i,rfl⟩)),rfl,?_⟩,?_,?_⟩
 .refine List.nodup_cons.2 ⟨fun g=>?_,List.nodup_append.2 ⟨u,ndg,fun aa o ab r e=>?_⟩⟩
  .rcases List.mem_append.1 g with g | g
   .exact l b g rfl
   .exact h b g rfl
  .subst e;obtain ⟨j,i,rfl⟩:=Az.1 o;rcases hg _ r with g | g
   .exact x _ o _ g rfl
   .have:=q j i;omega
 .intro k f;rcases List.mem_cons.1 f with rfl | f
  .exact .inl sI
  rcases List.mem_append.1 f with f | f
  .exact .inl (List.mem_cons_of_mem _ (List.mem_append_left _ f))
  .exact (hg k f).imp (fun g=>List.mem_cons_of_mem _ (List.mem_append_right _ g)) id
 .exact (AD.mod e).trans (ch.but.mono fun k f=>by have f:k=b:=f;simp [f])
theorem Fo (h:P0 w fp b D out) (ho:out.length<=100000000) (t:ByteArray) :
  Dq 21 [.pointer (some ⟨b,0,none⟩),.string t] w (fun _ w'=>Rm w fp b w' D (out++[t])):=by
 obtain ⟨y,am,ad,ab,al,ag,aa,no,af,ao,an,ah,ai,c,o,p,d,rfl,f⟩:=h;have aj:=d.len;refine oV Tryz.func21 ?_;refine jL c.cells (k:=3) rfl ?_;refine bS BK (vs:=[Value.string t]) ?_;intro ac ap r ak a g;have l:=AH (n:=1) (enc:=eS) (xs:=[t]) AP g r rfl dE;refine AN (enc:=eS) BK AP (d.ext a) (l.own.arr AP) (by intro au _;simp [eS,AM]) om om om ?_;intro z ae aq m e u;have x:=(List.nodup_cons.1 f).1;have i:=(c.ext a).mod e (fun h=>x (List.mem_append_left _ (Az.2 h)));have av:=a.size;exact jT i (k:=3) sI rfl fun ar q j=>Rl c o p d f m ((AD.mod a).trans e) (fun v s=>(u v s).imp id om) q j
theorem Ej (h:P0 w fp b D out) (ho:out.length<=100000000) (code:Int) :
  Dq 19 [.pointer (some ⟨b,0,none⟩),.int .i64 code] w (fun v w'=>(code=0/\v = .bool false/\w'=w)\/(code≠0/\v = .bool true/\Rm w fp b w' D (out++[Fe code]))):=by
 by_cases c:code=0
 .refine oV Tryz.func19<|iY ?_;exact .inl ⟨c,rfl,rfl⟩
 .refine oV Tryz.func19 ?_;conv=>whnf
  refine iN<|dM (Rz _ _) fun e a=>Ax (Nat.le_trans (Nat.add_le_add_left (G7 _) _) dE)<|(Fo (h.ext a) ho (Fe code)).mono ?_;rintro _ f d;exact .inr ⟨c,rfl,Ca h a d⟩
theorem Ng (h:P0 w fp b D out) (ho:out.length<=10000000) {al:Option Addr} {nl cl:Nat} {ls:List ByteArray} (hA:A4 eS 1 w al nl ls) (hl:nl<=100000) :
  Dq 101 [.pointer (some ⟨b,0,none⟩),.slice al nl cl] w (fun _ w'=>Rm w fp b w' D (out++CM ls)):=by
 have v:=hA.len;have t:=h.lt;obtain ⟨ab,aq,af,ae,ap,ai,ad,no,ah,au,ar,aj,ak,a,p,q,c,rfl,g⟩:=h;have ao:=c.len;refine oV Tryz.func101 ?_;refine jL a.cells (k:=3) rfl ?_;refine AN (enc:=eS) BK AP c hA (by intro az _;simp [eS,AM]) om om om ?_;intro ac ag av l f x;have z:=(List.nodup_cons.1 g).1;have i:=a.mod f (fun h=>z (List.mem_append_left _ (Az.2 h)));refine jT i (k:=3) sI rfl ?_;intro aw r j;obtain ⟨am,d,aa,o⟩:=Rl a p q c g l f (fun y u=>(x y u).imp id om) r j;have an:=Bh (n:=(nl:Int)) om om;refine dM (CC (by unfold BH;omega) _) fun ax e=>Ax (by simp only [ByteArray.size_append,BY,Za,List.length_cons,List.length_nil];omega)<|(Fo (d.ext e) (by rw [List.length_append];omega) _).mono ?_;rintro _ ay m;have s:out++CM ls=(out++ls)++[⟨#[111,107,32]⟩++BV (nl:Int)]:=by rw [List.append_assoc,<- v];rfl
 (conv=>whnf);rw [s];exact MS aa o t (Ca d e m)
end
end Go.Proofs.YtalgenmoljcnmaaGreatDoor
namespace Go.M
open Go Go.Vc
variable {t:ByteArray} {p:List UInt8}
def aH1 (p:List UInt8):Bool:=(List.range p.length).all fun i=>(decide (p[i]?≠some 116) || !(p.take i).contains 110) && (decide (p[i]? = some 116) || decide (p[i]? = some 110) || decide (p[i]? = some 102) || decide (p[i]? = some 120)) && (decide (p[i]?≠some 120) || !(p.take i).contains 120)
theorem aI3 (h:(deskWordsM.any fun x=>decide (x=t))=true):aH1 (Bd t)=true:=by
 have:=TF h;generalize Bd t=a at *;revert a;decide
theorem aH0 (h:(deskWordsM.any fun x=>decide (x=t))=true):(Bd t).length<=4:=by
 have:=TF h;generalize Bd t=a at *;revert a;decide
theorem Zf (h:aH1 p=true) {i:Nat} {c:UInt8} (hc:p[i]? = some c):(c=116->110∉p.take i)/\(c=116\/c=110\/c=102\/c=120)/\(c=120->120∉p.take i):=by
 have g:=(List.getElem?_eq_some_iff.1 hc).1;have:=List.all_eq_true.1 h i (List.mem_range.2 g);rw [hc] at this;simp only [Bool.and_eq_true,Bool.or_eq_true,decide_eq_true_eq,Option.some.injEq,Bool.not_eq_true',List.contains_eq_mem,decide_eq_false_iff_not,ne_eq] at this;obtain ⟨⟨d,e⟩,f⟩:=this;refine ⟨fun a=>d.resolve_left (fun b=>b a),by rcases e with ((h | h) | h) | h<;>simp [h],fun a=>f.resolve_left (fun b=>b a)⟩
theorem Xi {ws:List ByteArray}:∀ i,((Cy ((p.zip ws).take i)).1.nums≠[]->110∈p.take i)/\((Cy ((p.zip ws).take i)).1.texts≠[]->∃ c∈p.take i,c≠116/\c≠110/\c≠102):=by
 intro i;induction i with
 | zero=>simp [Cy,D3]
 | succ i d =>
  cases f:(p.zip ws)[i]? with
  | none =>
   have l:(p.zip ws).length<=i:=by simpa using f
   rw [List.take_of_length_le om,<- List.take_of_length_le l];refine ⟨fun a=>List.mem_of_mem_take (i:=i) ?_,fun a=>?_⟩
   .have:=d.1 a;rw [List.take_take];simpa using this
   .obtain ⟨c,e,b⟩:=d.2 a;exact ⟨c,(List.take_subset_take_left p om) e,b⟩
  | some n =>
   obtain ⟨c,o⟩:=n;have m:p[i]? = some c:=by
    rw [List.getElem?_zip_eq_some] at f;exact f.1
   have g:c∈p.take (i+1):=by
    rw [List.take_add_one,m];simp
   rw [MQ f];split
   .unfold Cn;split
    .exact ⟨fun a=>(List.take_subset_take_left p om) (d.1 a),fun a=>by obtain ⟨c,e,b⟩:=d.2 a;exact ⟨c,(List.take_subset_take_left p om) e,b⟩⟩
    split
    .rename_i j;exact ⟨fun _=>j▸g,fun a=>by obtain ⟨c,e,b⟩:=d.2 a;exact ⟨c,(List.take_subset_take_left p om) e,b⟩⟩
    split
    .exact ⟨fun a=>(List.take_subset_take_left p om) (d.1 a),fun a=>by obtain ⟨c,e,b⟩:=d.2 a;exact ⟨c,(List.take_subset_take_left p om) e,b⟩⟩
    .rename_i h b k;exact ⟨fun a=>(List.take_subset_take_left p om) (d.1 a),fun _=>⟨c,g,h,b,k⟩⟩
   .exact ⟨fun a=>(List.take_subset_take_left p om) (d.1 a),fun a=>by obtain ⟨c,e,b⟩:=d.2 a;exact ⟨c,(List.take_subset_take_left p om) e,b⟩⟩
end Go.M
namespace Go.Proofs.YtalgenmoljcnmaaGreatDoor
open Go Go.RowKit Go.Vc Go.M
theorem MZ {s:ByteArray} (hs:s.size<=1048576) (w:World):Dq 95 [.string s] w (fun v w'=>∃ f:AE,v = .tuple #[.agg ⟨f.enc⟩,.bool (B4 s).2]/\((B4 s).2=true->f=(B4 s).1)/\AD w w'):=by
 have t:∀ c,Dq 18 [.string s,.int .u8 45] c (fun v w'=>∃ u ai,v = .slice u (Ay 45 s).length ai/\A4 eS 1 w' u (Ay 45 s).length (Ay 45 s)/\AD c w'):=fun c=>(G2 hs 45 c).mono fun _ w' ⟨u,bb,ai,a2,_,ar,aw⟩=>by
  have aj:=ar.arr AP;have ag:=aj.len;subst ag;exact ⟨u,ai,a2,aj,aw⟩
 have k:∀ e∈Ay 45 s,e.size<=1048576:=fun e ah=>by have:=Ea ah;omega
 have j:∀ c (e:ByteArray),e.size<=1048576->Dq 96 [.string e] c (fun v w'=>v = .tuple #[.int .i64 (Ao e),.bool (Ei e)]/\AD c w'):=fun c e ah=>Bo ah c;rcases Wc s with ⟨a,b,ab,a3,a4,aa⟩ | ⟨aa,ax⟩
 .rw [ab] at t k;have x:=fun c=>j c a (k a sI);have y:=fun c=>j c b (k b sI);rw [a3] at x;rw [a4] at y;clear j;have ac:([a,b]:List ByteArray)[0]? = some a:=rfl;have ad:([a,b]:List ByteArray)[1]? = some b:=rfl;rw [aa];refine oV Tryz.func95 ?_;refine jN (z := .agg #[.int .i64 0,.int .i64 0]) ?_;intro al ao r an p l;refine (t _).mono ?_;rintro _ ap ⟨ak,am,rfl,h,d⟩;exact jI h 0 rfl ac fun au a7 ay ae=>jO ae rfl<|dM (x _) fun a9 g=>jI (h.ext g) 1 rfl ad fun av a8 az af=>jO af rfl<|dM (y _) fun a' q=>AB.build QC rfl<|AX (vs:=[.int .i64 (Ao a),.int .i64 (Ao b)]) kR (l.ext (xt (xt d g) q)) rfl rfl cE fun aq o m=>AO (jR (n:=2) rfl m.cells) ⟨⟨Ao a,Ao b⟩,rfl,(fun _=>rfl),xb (xt (xt (xt p d) g) q) o.but r⟩
 .by_cases ag:(Ay 45 s).length=2
  .obtain ⟨a,b,ab,a0⟩:=ax ag;rw [ab] at t k;have x:=fun c=>j c a (k a sI);have y:=fun c=>j c b (k b sI);have ac:([a,b]:List ByteArray)[0]? = some a:=rfl;have ad:([a,b]:List ByteArray)[1]? = some b:=rfl;clear j;have a1:(Ei a && Ei b)=false:=by rcases a0 with i | i<;>simp [i]
   generalize Ei a=a5 at *;generalize Ei b=a6 at *;rw [aa];refine oV Tryz.func95 ?_;refine jN (z := .agg #[.int .i64 0,.int .i64 0]) ?_;intro al ao r an p l;refine (t _).mono ?_;rintro _ ap ⟨ak,am,rfl,h,d⟩;refine jI h 0 rfl ac fun au a7 ay ae=>jO ae rfl<|dM (x _) fun a9 g=>jI (h.ext g) 1 rfl ad fun av a8 az af=>jO af rfl<|dM (y _) fun a' q=>AB.build QC rfl ?_;cases a5
   rotate_left
   obtain rfl:a6=false:=by simpa using a1
   all_goals
    exact AX (vs:=[.int .i64 (Ao a),.int .i64 (Ao b)]) kR (l.ext (xt (xt d g) q)) rfl rfl cE fun aq o m=>AO (jR (n:=2) rfl m.cells) ⟨⟨Ao a,Ao b⟩,rfl,(fun i=>absurd i Bool.false_ne_true),xb (xt (xt (xt p d) g) q) o.but r⟩
  .rw [aa];generalize ab:Ay 45 s=ba at *;refine oV Tryz.func95 ?_;refine jN (z := .agg #[.int .i64 0,.int .i64 0]) ?_;intro al ao r an p l;refine (t _).mono ?_;rintro _ ap ⟨ak,am,rfl,h,d⟩;exact Fh sW<|AB.build QC rfl<|jS (vs:=[.int .i64 0,.int .i64 0]) (l.ext d) rfl rfl cE fun aq o m=>AO (jR (n:=2) rfl m.cells) ⟨⟨0,0⟩,rfl,(fun i=>absurd i Bool.false_ne_true),xb (xt p d) o.but r⟩
structure SB (w:World) (B b:Nat) (N:List Int) (F:List AE) (t:ByteArray) (a1 a2:Option Addr) (c1 c2:Nat):Prop where
 blk:B8 w b [.slice a1 N.length c1,.slice a2 F.length c2,.string t] 85
 g1:An eI 1 B 2 w a1 N.length c1 N
 g2:An AE.enc 2 B 90 w a2 F.length c2 F
 lt:b<B
 d:∀ k,¬ (AL a1 k/\AL a2 k)
section
variable {w w' w0 w1 w2:World} {B b:Nat} {N:List Int} {F:List AE} {t:ByteArray} {a1 a2:Option Addr} {c1 c2:Nat}
theorem SB.ext (h:SB w B b N F t a1 a2 c1 c2) (e:AD w w'):SB w' B b N F t a1 a2 c1 c2:=⟨h.blk.ext e,h.g1.ext e,h.g2.ext e,h.lt,h.d⟩
theorem SB.push1 (h:SB w0 B b N F t a1 a2 c1 c2) {x:Int} {a:Option Addr} {c:Nat} (g:An eI 1 B 2 w1 a (N.length+1) c (N++[x])) (M:BP (AL a1) w0 w1) (hi:∀ k,AL a k->AL a1 k\/k=w0.heap.size) (m:Oa b w1 w2)
  (B2:B8 w2 b [.slice a (N.length+1) c,.slice a2 F.length c2,.string t] 85):SB w2 B b (N++[x]) F t a a2 c c2:=by
 have o:=h.lt;refine ⟨by simpa using B2,?_,?_,o,fun k ⟨j,l⟩=>?_⟩
 .simpa using g.mod m.but fun e f i=>by have:=g.new e f;have i:e.block=b:=i;omega
 .exact (h.g2.mod M fun e f j=>h.d e.block ⟨j,e,f,rfl⟩).mod m.but fun e f i=>by have:=h.g2.new e f;have i:e.block=b:=i;omega
 .rcases hi k j with n | n
  .exact h.d k ⟨n,l⟩
  .obtain ⟨e,f,p⟩:=l;have:=h.g2.lt e f;omega
theorem SB.push2 (h:SB w0 B b N F t a1 a2 c1 c2) {x:AE} {a:Option Addr} {c:Nat} (g:An AE.enc 2 B 90 w1 a (F.length+1) c (F++[x])) (M:BP (AL a2) w0 w1) (hi:∀ k,AL a k->AL a2 k\/k=w0.heap.size) (m:Oa b w1 w2)
  (B2:B8 w2 b [.slice a1 N.length c1,.slice a (F.length+1) c,.string t] 85):SB w2 B b N (F++[x]) t a1 a c1 c:=by
 have o:=h.lt;refine ⟨by simpa using B2,?_,?_,o,fun k ⟨j,n⟩=>?_⟩
 .exact (h.g1.mod M fun e f j=>h.d e.block ⟨⟨e,f,rfl⟩,j⟩).mod m.but fun e f i=>by have:=h.g1.new e f;have i:e.block=b:=i;omega
 .simpa using g.mod m.but fun e f i=>by have:=g.new e f;have i:e.block=b:=i;omega
 .rcases hi k n with l | l
  .exact h.d k ⟨j,l⟩
  .obtain ⟨e,f,p⟩:=j;have:=h.g1.lt e f;omega
theorem SB.put (h:SB w0 B b N F t a1 a2 c1 c2) {s:ByteArray} (m:Oa b w0 w2) (B2:B8 w2 b [.slice a1 N.length c1,.slice a2 F.length c2,.string s] 85):SB w2 B b N F s a1 a2 c1 c2 :=
 ⟨B2,h.g1.mod m.but fun c e a=>by have:=h.g1.new c e;have:=h.lt;have a:c.block=b:=a;omega,h.g2.mod m.but fun c e a=>by have:=h.g2.new c e;have:=h.lt;have a:c.block=b:=a;omega,h.lt,h.d⟩
end
theorem UA {w:World} {a:Option Addr} {n c:Nat} {W:List ByteArray} (hA:A4 eS 1 w a n W) (hw:∀ x∈W,x.size<=1048576) {t:ByteArray} (ht:W[0]? = some t) (hk:(Go.M.deskWordsM.any fun x=>decide (x=t))=true) (hl:W.length=(Bd t).length+1) :
  Dq 45 [.slice a n c] w (fun v w'=>∃ r,v = .tuple #[.pointer (some ⟨r,0,none⟩),.int .i64 (Bi (Bd t) (W.drop 1)).2]/\((Bi (Bd t) (W.drop 1)).2=0->∃ a1 n1 c1 a2 n2 c2,AK w' r 0 [.slice a1 n1 c1,.slice a2 n2 c2,.string ((Bi (Bd t) (W.drop 1)).1.texts.getD 0 ⟨#[]⟩)] /\
   A4 eI 1 w' a1 n1 ((Bi (Bd t) (W.drop 1)).1.trays++(Bi (Bd t) (W.drop 1)).1.nums)/\A4 AE.enc 2 w' a2 n2 (Bi (Bd t) (W.drop 1)).1.fields)/\AD w w'):=by
 have di:=hA.len;have bv:=aI3 hk;have dj:=aH0 hk;have ci:=fun ai=>(UC t ai).mono fun v w' h=>(⟨h.1 hk,h.2⟩:v = .string (bs (Bd t))/\AD ai w');generalize de:Bd t=e at *;have cm:∀ b,(W.drop 1)[b]? = W[b+1]? := fun b=>by rw [List.getElem?_drop,Nat.add_comm]
 have cu:∀ x∈W.drop 1,x.size<=1048576:=fun x ah=>hw x (List.mem_of_mem_drop ah);have cw:(e.zip (W.drop 1)).length=e.length:=by rw [List.length_zip,List.length_drop];omega
 generalize dm:W.drop 1=g at *;have dl:(bs e).size=e.length:=BY _;refine oV Tryz.func45 ?_;refine jI hA 0 rfl ht ?_;intro da dq dg cn;refine jL cn (k:=0) rfl<|dM (ci _) fun du au=>AB.build aK6 rfl<|AB.box ?_;intro bd a' a3 cz ce b7;have cl:SB a' a'.heap.size bd (D3.trays++D3.nums) D3.fields (D3.texts.getD 0 ⟨#[]⟩) none none 0 0:=⟨b7,An.nil,An.nil,cz,(by rintro b ⟨⟨x,ah,_⟩,_⟩;cases ah)⟩;have ax:=xt au ce;refine lR [0,4,5,6,7] (fun (b:Nat) c3 w'=>∃ a1 a2 c1 c2,c3=[.slice a n c,.string (bs e),.pointer (some ⟨bd,0,none⟩),.bool (!(Cy ((e.zip g).take b)).1.trays.any (fun t=>!Ey t 0 5)),.int .i64 b]/\b<=e.length/\(Cy ((e.zip g).take b)).2=true/\SB w' a'.heap.size bd ((Cy ((e.zip g).take b)).1.trays++(Cy ((e.zip g).take b)).1.nums) (Cy ((e.zip g).take b)).1.fields ((Cy ((e.zip g).take b)).1.texts.getD 0 ⟨#[]⟩) a1 a2 c1 c2/\AD w w'/\a'.heap.size<=w'.heap.size/\(Cy ((e.zip g).take b)).1.trays.length+(Cy ((e.zip g).take b)).1.nums.length<=b/\(Cy ((e.zip g).take b)).1.fields.length<=b) (fun b=>e.length - b) 0 ⟨none,none,0,0,rfl,Nat.zero_le _,rfl,cl,ax,Nat.le_refl _,Nat.le_refl _,Nat.le_refl _⟩ ?_;rintro b db _ c4 ⟨a1,a2,c1,c2,rfl,dh,a6,i,s,dk,a8,an⟩;rcases Nat.lt_or_ge b e.length with bu | bu
 .obtain ⟨cd,bl⟩:=AA (l:=e) (k:=b) bu;obtain ⟨x,ah⟩:=AA (l:=g) (k:=b) (by rw [List.length_zip] at cw;omega);have a7:W[b+1]? = some x:=by rw [<- cm];exact ah
  have d:=MQ (ZN bl ah);rw [if_pos a6] at d;have bm:(Cy ((e.zip g).take (b+1))).2=false->Bi e g=(D3,7):=fun h=>by unfold Bi;rw [if_pos (Wn h)]
  have bw:=cu x (List.mem_of_getElem? ah);obtain ⟨co,cp,cq⟩:=Zf bv bl;obtain ⟨cs,ct⟩:=Xi (p:=e) (ws:=g) b;have a5:=hA.ext s;generalize (Cy ((e.zip g).take b)).1=f at *;have al:(bs e).data.toList[b]? = some cd:=bl;have bq:∀ ai,Dq 96 [.string x] ai (fun v w'=>v = .tuple #[.int .i64 (Ao x),.bool (Ei x)]/\AD ai w'):=fun ai=>Bo bw ai;rcases cp with rfl | rfl | rfl | rfl
  .have am:f.nums=[]:=Classical.byContradiction fun h=>co rfl (cs h);rw [Ts] at d;rw [am,List.append_nil] at i;rw [am] at a8;have bx:f.trays.length<=b:=by simpa using a8
   generalize ae:f.trays.any (fun t=>!Ey t 0 5)=aj at *;refine iY<|jP (((b+1:Nat):Int))<|jI a5 (b+1) rfl a7 fun bc bp bk ag=>jO ag rfl<|jC b rfl al<|dM (bq _) fun c6 q=>BA (fun aa=>?_) fun aa=>?_
   ·(conv=>whnf);rw [bm (by rw [d];exact aa)];exact ⟨_,rfl,(fun h=>absurd h dE),xt s q⟩
   .refine jL (i.ext q).blk.cells (k:=0) rfl<|bS B3 (vs:=[Value.int .i64 (Ao x)]) ?_;intro cb bz cg cy af ba;have j:=i.ext (xt q af);have c8:=Below.size (xt q af);refine Ba (enc:=eI) B3 AI j.g1 (ys:=[Ao x]) (m:=1) ba.cells rfl (by simp [Al,eI,AM]) om om om ?_;intro aq ar b0 bb ac bn;have bi:=j.blk.mod ac (fun ⟨y,u,ab⟩=>by have:=j.g1.new y u;have:=j.lt;omega);refine jT bi (k:=0) sI rfl ?_;intro aw o ao;have ad:=j.push1 bb ac bn o ao;have b1:=ac.size;have b2:=o.but.size;have ap:AD w aw:=xb (xm (xt s (xt q af)) ac (fun bo ⟨y,u,ab⟩=>by have:=j.g1.new y u;have:=ax.size;omega)) o.but (nB au a3);(conv=>whnf);have bt:(!((f.trays++[Ao x]).any fun t=>!Ey t 0 5))=(!aj && Ey (Ao x) 0 5):=by simp [ae]
    cases aj
    .refine jC b rfl al<|(GX _ _).mono ?_;rintro _ _ ⟨rfl,rfl⟩;refine jP (((b+1:Nat):Int)) ?_;refine ⟨b+1,om,aq,a2,ar,c2,?_,om,by rw [d];exact aa,?_,ap,om,?_,by rw [d];exact Nat.le_succ_of_le an⟩
     .rw [d];show _=[_,_,_,Value.bool (!((f.trays++[Ao x]).any fun t=>!Ey t 0 5)),_];rw [bt];rfl
     .rw [d];show SB _ _ _ ((f.trays++[Ao x])++f.nums) _ _ _ _ _ _;rw [am,List.append_nil];exact ad
     .rw [d];show (f.trays++[Ao x]).length+f.nums.length<=b+1;rw [am,List.length_append];simpa using bx
    .refine jP (((b+1:Nat):Int)) ?_;refine ⟨b+1,om,aq,a2,ar,c2,?_,om,by rw [d];exact aa,?_,ap,om,?_,by rw [d];exact Nat.le_succ_of_le an⟩
     .rw [d];show _=[_,_,_,Value.bool (!((f.trays++[Ao x]).any fun t=>!Ey t 0 5)),_];rw [bt];rfl
     .rw [d];show SB _ _ _ ((f.trays++[Ao x])++f.nums) _ _ _ _ _ _;rw [am,List.append_nil];exact ad
     .rw [d];show (f.trays++[Ao x]).length+f.nums.length<=b+1;rw [am,List.length_append];simpa using bx
  .rw [Tt] at d;generalize ae:f.trays.any (fun t=>!Ey t 0 5)=aj at *;refine iY ?_;refine jP (((b+1:Nat):Int)) ?_;refine jI a5 (b+1) rfl a7 ?_;intro bc bp bk ag;refine jO ag rfl<|jC b rfl al<|dM (bq _) fun c6 q=>BA (fun aa=>?_) fun aa=>?_
   ·(conv=>whnf);rw [bm (by rw [d];exact aa)];exact ⟨_,rfl,(fun h=>absurd h dE),xt s q⟩
   .refine jL (i.ext q).blk.cells (k:=0) rfl<|bS B3 (vs:=[Value.int .i64 (Ao x)]) ?_;intro cb bz cg cy af ba;have j:=i.ext (xt q af);have c8:=Below.size (xt q af);refine Ba (enc:=eI) B3 AI j.g1 (ys:=[Ao x]) (m:=1) ba.cells rfl (by simp [Al,eI,AM]) (by rw [List.length_append];omega) (by rw [List.length_append];omega) om ?_;intro aq ar b0 bb ac bn;have bi:=j.blk.mod ac (fun ⟨y,u,ab⟩=>by have:=j.g1.new y u;have:=j.lt;omega);refine jT bi (k:=0) sI rfl ?_;intro aw o ao;have ad:=j.push1 bb ac bn o ao;have b1:=ac.size;have b2:=o.but.size;have ap:AD w aw:=xb (xm (xt s (xt q af)) ac (fun bo ⟨y,u,ab⟩=>by have:=j.g1.new y u;have:=ax.size;omega)) o.but (nB au a3);(conv=>whnf);cases aj
    .refine jC b rfl al<|jP (((b+1:Nat):Int)) ⟨b+1,om,aq,a2,ar,c2,?_,om,by rw [d];exact aa,?_,ap,om,?_,by rw [d];exact Nat.le_succ_of_le an⟩
     .rw [d];show _=[_,_,_,Value.bool (!(f.trays.any fun t=>!Ey t 0 5)),_];rw [ae];rfl
     .rw [d];show SB _ _ _ (f.trays++(f.nums++[Ao x])) _ _ _ _ _ _;rw [<- List.append_assoc];exact ad
     .rw [d];show f.trays.length+(f.nums++[Ao x]).length<=b+1;rw [List.length_append,List.length_singleton];omega
    .refine jP (((b+1:Nat):Int)) ⟨b+1,om,aq,a2,ar,c2,?_,om,by rw [d];exact aa,?_,ap,om,?_,by rw [d];exact Nat.le_succ_of_le an⟩
     .rw [d];show _=[_,_,_,Value.bool (!(f.trays.any fun t=>!Ey t 0 5)),_];rw [ae];rfl
     .rw [d];show SB _ _ _ (f.trays++(f.nums++[Ao x])) _ _ _ _ _ _;rw [<- List.append_assoc];exact ad
     .rw [d];show f.trays.length+(f.nums++[Ao x]).length<=b+1;rw [List.length_append,List.length_singleton];omega
  .rw [Tu] at d;generalize ae:f.trays.any (fun t=>!Ey t 0 5)=aj at *;refine iY<|jP (((b+1:Nat):Int))<|jI a5 (b+1) rfl a7 fun bc bp bk ag=>jO ag rfl<|jC b rfl al<|(MZ bw _).mono ?_;rintro _ bz ⟨cf,rfl,c0,ay⟩;refine jN (z := .agg #[.int .i64 0,.int .i64 0]) fun c9 b0 dc dn bg b4=>jS b4 (vs:=cf.enc) rfl rfl (by simp [AE.enc,AM]) fun aw o ao=>BA (fun a4=>?_) fun a4=>?_
   ·(conv=>whnf);rw [bm (by rw [d];exact a4)];exact ⟨_,rfl,(fun h=>absurd h dE),xb (xt (xt s ay) bg) o.but (by have:=s.size;have:=ay.size;omega)⟩
   .obtain rfl:=c0 a4;have dw:=ay.size;have b1:=bg.size;have b2:=o.but.size;have df:=i.lt;have bj:AD c4 aw:=xb (xt ay bg) o.but om;have ad:=i.ext bj;have dx:=bj.size;refine Au A7 mixed (pZ [0,5,10,15,21,26,32,38,40,45,53]) kR kR fun dr az=>dL ad.blk.cells (k:=1) rfl<|dA (n:=2) ao.cells rfl<|AB.buildSlice J1 (vs:=[Value.agg ⟨(B4 x).1.enc⟩]) rF rF (by simp [Value.cells,AE.enc]) dE fun c' ds dd dp a0 b5=>⟨xt az a0,?_⟩;have ak:=ad.ext (xt az a0);have dy:=Below.size (xt az a0);refine Ba (enc:=AE.enc) J1 Br ak.g2 (ys:=[(B4 x).1]) (m:=1) b5.cells rfl (by simp [Al,AE.enc,AM]) om om om ?_;intro ca cc dt b' a9 cx;have ch:=ak.blk.mod a9 (fun ⟨y,u,ab⟩=>by have:=ak.g2.new y u;have:=ak.lt;omega);refine jT ch (k:=1) sI rfl ?_;intro c7 bf b6;have ck:=ak.push2 b' a9 cx bf b6;have dz:=a9.size;have d0:=bf.but.size;have b9:AD w c7:=xb (xm (xt (xt s bj) (xt az a0)) a9 (fun bo ⟨y,u,ab⟩=>by have:=ak.g2.new y u;have:=ax.size;omega)) bf.but (nB au a3);refine jP (((b+1:Nat):Int)) ⟨b+1,om,a1,ca,c1,cc,by rw [d,<- ae];rfl,om,by rw [d];exact a4,?_,b9,om,by rw [d];exact Nat.le_succ_of_le a8,by rw [d];simpa using an⟩;rw [d];exact ck
  .have cv:f.texts=[]:=Classical.byContradiction fun h=>by
    obtain ⟨c,br,bh⟩:=ct h;obtain ⟨bo,cr⟩:=List.mem_iff_getElem?.1 (List.mem_of_mem_take br);rcases (Zf bv cr).2.1 with rfl | rfl | rfl | rfl
    .exact bh.1 rfl
    .exact bh.2.1 rfl
    .exact bh.2.2 rfl
    .exact cq rfl br
   rw [Tr dE dE dE] at d;generalize ae:f.trays.any (fun t=>!Ey t 0 5)=aj at *;refine iY<|jP (((b+1:Nat):Int))<|jI a5 (b+1) rfl a7 fun bc bp bk ag=>jO ag rfl<|jC b rfl al<|jT i.blk (k:=2) sI rfl ?_;intro c5 be b3;have cj:=i.put be b3;have dv:=be.but.size;have b8:AD w c5:=xb s be.but (nB au a3);refine jP (((b+1:Nat):Int)) ⟨b+1,om,a1,a2,c1,c2,by rw [d,<- ae];rfl,om,by rw [d],?_,b8,om,by rw [d];exact Nat.le_succ_of_le a8,by rw [d];exact Nat.le_succ_of_le an⟩;rw [d,cv];exact cj
 .obtain rfl:b=e.length:=om
  rw [List.take_of_length_le om] at a6 i;refine iN<|BA (fun av=>?_) fun av=>?_
  ·(conv=>whnf);rw [List.take_of_length_le (l:=e.zip g) om] at av;have ab:Bi e g=(D3,2):=by unfold Bi;rw [if_neg (by simp [a6]),if_pos (by simpa using av)]
   rw [ab];exact ⟨_,rfl,(fun h=>absurd h dE),s⟩
  ·(conv=>whnf);rw [List.take_of_length_le (l:=e.zip g) om] at av;have ab:Bi e g=((Cy (e.zip g)).1,0):=by unfold Bi;rw [if_neg (by simp [a6]),if_neg (by simpa using av)]
   rw [ab];exact ⟨_,rfl,fun _=>⟨_,_,_,_,_,_,i.blk.cells,i.g1.own.arr AI,i.g2.own.arr Br⟩,s⟩
end Go.Proofs.YtalgenmoljcnmaaGreatDoor
