/- Parts of the proof; no conditions of its own. -/
import Derived.Test.YtalgenmoljcnmaaGreatDoorArgs
import Derived.Test.YtalgenmoljcnmaaGreatDoorRunM
import Derived.Test.YtalgenmoljcnmaaGreatDoorDoSt
import Derived.Test.YtalgenmoljcnmaaGreatDoorOffice
import Derived.Test.YtalgenmoljcnmaaGreatDoorStepM
import Derived.Test.YtalgenmoljcnmaaGreatDoorVcMixL
namespace Go.M
open Go Go.Vc
def J0 (s:ByteArray) (x:An):Int:=if (A3 s x).2≠0 then (A3 s x).2 else (D1 (A3 s x).1).2
theorem Yx (s:ByteArray):∀ x∈(BQ s).1,Cr x=true:=by
 intro b a;unfold BQ at a;split at a
 .exact (EY _ s.data.toList 0 (Nat.le_refl _) dE dE).1 b a
 .cases a
theorem Ml (s:ByteArray) (x:An) (h:s.size<=1048576):(A3 s x).1.size<=1048576:=by
 unfold A3;split
 .split
  .exact Nat.zero_le _
  .split
   .exact Nat.zero_le _
   .simp only [ByteArray.size_append];omega
 .exact Nat.zero_le _
theorem QR {α:Type} {l:List α} {p:α->Bool} {k:Nat} {y:α} (hy:l[k]? = some y) (hp:p y=true) (h:∀ j x,j<k->l[j]? = some x->p x=false):l.find? p=some y:=by
 rw [List.find?_eq_some_iff_getElem];obtain ⟨c,a⟩:=List.getElem?_eq_some_iff.1 hy;refine ⟨hp,k,c,a,fun j b=>?_⟩;have:=h j l[j] b (List.getElem?_eq_getElem om);simp [this]
end Go.M
namespace Go.Proofs.YtalgenmoljcnmaaGreatDoor
open Go Go.RowKit Go.Vc Go.M
variable {w:World} {n c m d n2 c2:Nat} {a b a2:Option Addr} {X:List (List (List Int))} {Y:List (List A9)} {s:ByteArray}
theorem GQ.rd {lo hi:Nat} (h:GQ w lo hi a n c b m d X Y):Ar DM w a n X/\Ar LG w b m Y:=(h.desk).2.2.rd
theorem Tw (h:Ar DM w a n X) (h2:Ar LG w b m Y) (ho:Ap X m=true) (hY:∀ y∈Y,y.length<=1048576) :
  Dq 36 [.agg #[.slice a n c,.slice b m d,.string s]] w (fun v w'=>∃ lo hi a' c' b' d',v = .agg #[.slice a' n c',.slice b' m d',.string s]/\w.heap.size<=lo/\hi<=w'.heap.size/\GQ w' lo hi a' n c' b' m d' X Y/\AD w w'):=by
 have o:=BA ho;have an:=o.2.1;have ao:=h.len;have ae:∀ g,AD w g->Dq 84 [.agg #[.slice a n c,.slice b m d]] g (fun v w'=>∃ a' c' b' d',v = .agg #[.slice a' n c',.slice b' m d']/\GQ w' g.heap.size w'.heap.size a' n c' b' m d' X Y/\AD g w'):=fun g q=>J7 (h.ext q) (h2.ext q) om om (fun t r=>⟨by have:=(o.2.2 t r).1;omega,fun y af=>by have:=(Br ((o.2.2 t r).2 y af).1).2.1;omega⟩) hY;refine oV Tryz.func36 ?_;refine AB.box ?_;intro aj ar al ap l p;refine jN (z := .agg #[.slice none 0 0,.slice none 0 0,.string { data := #[] }]) fun ak au am aq e u=>Av A8 mixed (pZ [0,15,6,21,12,26,33]) kR kR ?_;intro ah f;refine D4 (n:=2) kR (k:=0) (p.ext e).cells rfl<|dL (p.ext e).cells (k:=2) rfl<|(ae _ (xt (xt l e) f)).mono ?_;rintro _ ai ⟨aa,ac,ab,ad,rfl,ag,i⟩;refine ⟨(xt f i),BN.build Rz rfl<|jS (vs:=[Value.slice aa n ac,Value.slice ab m ad,Value.string s]) (u.ext (xt f i)) rfl rfl (by simp [AE]) fun av j x=>AP (jR (n:=3) rfl x.cells) ?_⟩;have aw:=l.size;have ax:=e.size;have ay:=f.size;have az:=i.size;have a0:=j.but.size;exact ⟨ah.heap.size,ai.heap.size,_,_,_,_,rfl,om,om,ag.but j.but om,xb (xt (xt (xt l e) f) i) j.but om⟩
theorem Ts (hs:s.size<=1048576) (hT:F7 w) (hE:EP w) (hM:Dy w) :
  Dq 74 [.agg #[.slice a n c,.slice b m d,.string s]] w (fun v w'=>∃ al nl cl,v = .tuple #[.agg #[.slice a n c,.slice b m d,.string s],.slice al nl cl,.int .i64 (BQ s).2.2]/\Ad w.heap.size al/\Bw eS w' al nl 9 (CI ((BQ s).1.map DG))/\AD w w'):=by
 have cn:=JC s;have b0:∀ j∈(BQ s).1,Cr j=true:=Yx s;have bv:∀ e,F7 e->EP e->Dy e->Dq 65 [.string s] e (fun v w'=>∃ a n c,v = .tuple #[.slice a n c,.int .i64 (BQ s).2.2]/\Ad e.heap.size a/\Bw An.enc w' a n 151 (BQ s).1/\AD e w'):=fun e af br bt=>MP hs af br bt;generalize (BQ s).2.2=bn at *;generalize (BQ s).1=ai at *;refine oV Tryz.func74 ?_;refine AB.box ?_;intro am cw cj cq t ax;refine jN (z := .agg #[.slice none 0 0,.slice none 0 0,.string { data := #[] }]) fun ab c1 ck cu i bb=>jL (ax.ext i).cells (k:=2) rfl<|(bv _ (hT.ext (xt t i)) (hE.ext (xt t i)) (hM.ext (xt t i))).mono ?_;rintro _ av ⟨bi,u,bm,rfl,cb,aa,p⟩;have a8:=aa.arr Au;have co:=a8.len;refine bS BI (vs:=[]) ?_;intro bj b' bp cr bo a9;have c7:=Below.size (xt (xt t i) p);have bf:Ai eS 1 w.heap.size 9 b' (some ⟨bj,0,none⟩) 0 0 []:=Ab (enc:=eS) AQ a9 om;refine lR [1,2,6,7,17,18,19] (fun (f:Nat) b9 w'=>∃ ak a2,b9=[.pointer (some ⟨am,0,none⟩),.pointer (some ⟨ab,0,none⟩),.int .i64 bn,.slice ak f a2,.slice bi u bm,.int .i64 u,.int .i64 f]/\f<=u/\Ai eS 1 w.heap.size 9 w' ak f a2 ((ai.take f).map DG)/\(∀ g,AN ak g->av.heap.size<=g)/\AD av w') (fun f=>u - f) 0 ⟨_,_,rfl,om,by simpa using bf,?_,bo⟩ ?_
 .rintro g ⟨j,y,rfl⟩;cases y
  exact bp
 rintro f ci _ a5 ⟨r,bl,rfl,cm,aq,ag,o⟩;have be:=xt (xt t i) p;have q:=xt be o;rcases Nat.lt_or_ge f u with bz | bz
 .obtain ⟨j,y⟩:=AA (l:=ai) (k:=f) om;have a3:=b0 j (List.mem_of_getElem? y);have b4:=J1 a3;have cp:=FE a3;have b2:=Ct DG y;have bw:∀ e,F7 e->Dq 131 [.agg ⟨j.enc⟩] e (fun v w'=>v = .string (DG j)/\AD e w'):=fun e h=>Hr b4 om h;refine iY ?_;obtain ⟨bk,rfl⟩:=((aa.ext o)).some om;have cv:bk<av.heap.size:=aa.lt _ rfl;refine jW (sz:=4) f rfl om ?_;have bx:=AT Au (aa.ext o) y;refine jA (n:=4) bx rfl<|jN (z := .agg #[.int .i64 0,.int .i64 0,.int .i64 0,.string { data := #[] }]) fun ce cy ae cs ad a'=>jS a' (vs:=j.enc) rfl rfl (by simp [An.enc,AE]) fun cz ac ba=>jA (n:=4) ba.cells rfl<|dM (bw _ (hT.ext (xb (xt q ad) ac.but (nB q ae)))) fun a6 ao=>bS BI (vs:=[Value.string (DG j)]) ?_;intro cf a7 bq ct ap ah;have bg:=AG (n:=1) (enc:=eS) (xs:=[DG j]) AQ ah bq rfl dE;refine AM (enc:=eS) BI AQ (aq.ext (xt (xt (xb ad ac.but ae) ao) ap)) (bg.own.arr AQ) (by intro aw _;simp [eS,AE]) om om (Below.size (xt (xt (xb (xt q ad) ac.but (nB q ae)) ao) ap)) fun cd ch c0 bh b8 b7=>jP (((f+1:Nat):Int)) ?_;have ay:AD a5 a7:=(xt (xt (xb ad ac.but ae) ao) ap);have c4:=ay.size;have ca:=o.size;exact ⟨f+1,om,_,_,rfl,om,by rw [b2];exact bh,fun a4 b3=>(b7 a4 b3).elim (ag a4) (fun h=>by omega),xm (xt o ay) b8 ag⟩
 .obtain rfl:f=u:=om
  rw [List.take_of_length_le om] at aq;have bu:∀ e,AD a5 e->Dq 82 [.slice r f bl] e (fun v w'=>∃ aj a0,v = .slice aj (f+1) a0/\Ai eS 1 w.heap.size 9 w' aj (f+1) a0 (CI (ai.map DG))/\(∀ g,AN aj g->AN r g\/e.heap.size<=g)/\BY (AN r) e w'):=fun e an=>J8 (aq.ext an) (Nat.le_trans q.size an.size) om (hT.ext (xt q an));refine iN ?_;have b1:¬ AN r am:=fun h=>by
   have:=ag am h;have:=i.size;have:=p.size;omega
  have c2:=t.size;have ar:∀ g,AN r g->w.heap.size<=g/\¬ g=ab:=fun g h=>by
   have:=ag g h;have:=i.size;have:=p.size;constructor<;>omega
  refine Nq A8 mixed r (pZ [5,15,1,12,23,25,30]) kR kR fun cx x=>Ba (n:=3) kR (Sr.cells ((ax.ext (xt (xt (xt i p) o) x)).cells) b1) rfl<|(bu _ x).mono ?_;rintro _ a6 ⟨cc,cg,rfl,az,b6,au⟩;have c3:=x.size;have c6:=p.size;have ca:=o.size;have c5:=i.size;refine ⟨au,?_⟩;have bc:=((bb.ext (xt p o)).ext x).mod au (fun h=>(ar ab h).2 rfl);refine jS (vs:=[Value.slice a n c,Value.slice b m d,Value.string s]) bc rfl rfl (by simp [AE]) fun a7 a1 ah=>AP (jR (n:=3) rfl ah.cells) ?_;have bd:AD w a6:=xm (xt q x) au (fun g h=>(ar g h).1);exact ⟨_,_,_,rfl,az.new,(az.mod a1.but (fun aw b5 h=>by
   have h:aw.block=ab:=h;rcases b6 _ ⟨aw,b5,rfl⟩ with af | af
   .exact (ar _ af).2 h
   .omega)).own,xb bd a1.but om⟩
theorem Tt (h:Ar DM w a n X) (h6:n=6) (hX40:∀ x∈X,x.length<=1000) (hs:s.size<=1048576) (hT:F7 w) (hE:EP w) (hM:Dy w) {a1 a3 a4:Option Addr} {n1 n3 n4 c1 c3 c4:Nat} {T N:List Int} {Z:List ByteArray} {t k:Int} {z:ByteArray} (h1:A4 eI 1 w a1 n1 T) (h2:A4 eI 1 w a2 n2 N) (h4:A4 eS 1 w a4 n4 Z)
  (ht:T[0]? = some t) (hk:N[0]? = some k) (hz:Z[0]? = some z) (tb:0<=t/\t<=5) (hki:BM k) (hzs:z.size<=1048576) :
  Dq 78 [.agg #[.slice a n c,.slice b m d,.string s],.agg #[.slice a1 n1 c1,.slice a2 n2 c2,.slice a3 n3 c3,.slice a4 n4 c4]] w (fun v w'=>∃ s' al nl cl,v = .tuple #[.agg #[.slice a n c,.slice b m d,.string s'],.slice al nl cl,.int .i64 (J0 s ⟨t,(X.getD t.toNat []).length,k,z⟩)] /\
   (J0 s ⟨t,(X.getD t.toNat []).length,k,z⟩=0->s'=(A3 s ⟨t,(X.getD t.toNat []).length,k,z⟩).1/\Ad w.heap.size al/\Bw eS w' al nl 9 [BP (D1 (A3 s ⟨t,(X.getD t.toNat []).length,k,z⟩).1).1])/\AD w w'):=by
 have dm:=h.len;obtain ⟨cy,bc,cr⟩:=h;have dl:=bc.len;obtain ⟨da,bh⟩:=AA (l:=cy) (k:=t.toNat) om;obtain ⟨x,bx,cf⟩:=cr.get bh;have cz:=cf.1.len;have dn:=hX40 x (List.mem_of_getElem? bx);have cx:X.getD t.toNat []=x:=Ae bx;rw [cx];have c0:An.ok ⟨t,(x.length:Nat),k,z⟩:=by
  refine ⟨⟨?_,?_⟩,⟨?_,?_⟩,hki,?_⟩<;>dsimp only [Nt]<;>omega
 have bu:∀ u,F7 u->EP u->Dy u->Dq 136 [.string s,.agg #[.int .i64 t,.int .i64 da.n,.int .i64 k,.string z]] u (fun v w'=>v = .tuple #[.string (A3 s ⟨t,(x.length:Nat),k,z⟩).1,.int .i64 (A3 s ⟨t,(x.length:Nat),k,z⟩).2]/\AD u w'):=fun u bi bj bk=>by
  have:=Tz (log:=s) hs c0 bi bj bk;rw [<- cz];exact this
 have cw:=Ml s ⟨t,(x.length:Nat),k,z⟩ hs;unfold J0;generalize A3 s ⟨t,(x.length:Nat),k,z⟩=am at *;have dk:=UB am.1;have bv:∀ u,F7 u->EP u->Dy u->Dq 137 [.string am.1] u (fun v w'=>v=Uy (D1 am.1)/\AD u w'):=fun u bi bj bk=>Ri cw bi bj bk;generalize D1 am.1=cp at *;obtain ⟨ak,db⟩:=am;obtain ⟨aa,dj⟩:=cp;unfold Uy at bv;dsimp only at *;have bw:BM aa:=by unfold BM;omega
 by_cases bz:db=0
 .rw [if_neg om];subst bz;refine oV Tryz.func78 ?_;refine AB.box ?_;intro bl dc ac aj g ad;refine AB.box fun cg dd cq c5 e ae=>jN (z := .agg #[.slice none 0 0,.slice none 0 0,.string { data := #[] }]) fun an de y c6 f af=>jL (ae.ext f).cells (k:=0) rfl<|jI (h1.ext (xt (xt g e) f)) 0 rfl ht fun ch c7 cs bd=>jL bd (k:=0) rfl<|dH (pB [0,2,4,6,8,10,12,14,16,20,22,24,26,28,30,32,34,19,37,39,41,42,44,47,49]) ?_;intro df i;refine dL (ad.ext (xt e f)).cells (k:=2) rfl<|dL (ad.ext (xt e f)).cells (k:=0) rfl ?_;refine dI (bc.ext (xt (xt g e) f)) (t).toNat om bh fun ci c8 ct be=>dO be rfl<|dL (ae.ext f).cells (k:=1) rfl<|dI (h2.ext (xt (xt g e) f)) 0 rfl hk fun cj c9 cu bf=>dL bf (k:=0) rfl<|dL (ae.ext f).cells (k:=3) rfl<|dI (h4.ext (xt (xt g e) f)) 0 rfl hz fun ck c' cv bg=>dL bg (k:=0) rfl<|(Ho _ _ _ _).mono ?_;rintro _ _ ⟨rfl,rfl⟩;refine ⟨i,?_⟩;refine AB.build FX rfl ?_;refine ⟨i,?_⟩;refine dM (bu _ (hT.ext (xt (xt (xt g e) f) i)) (hE.ext (xt (xt (xt g e) f) i)) (hM.ext (xt (xt (xt g e) f) i))) fun dg j=>?_;refine ⟨(xt i j),?_⟩;refine jT (ad.ext (xt (xt (xt e f) i) j)) (k:=2) (Nat.le_of_ble_eq_true rfl) rfl ?_;intro b0 o ag;have ag:CD b0 bl [Value.slice a n c,Value.slice b m d,Value.string ak] _:=ag;refine (bv _ (hT.ext (xb (xt (xt (xt (xt g e) f) i) j) o.but ac)) (hE.ext (xb (xt (xt (xt (xt g e) f) i) j) o.but ac)) (hM.ext (xb (xt (xt (xt (xt g e) f) i) j) o.but ac))).mono ?_;rintro _ du ⟨rfl,p⟩;refine Ww A8 mixed (.mv 1 (.mv 4 (.alt 0 (.alt 2 (.alt 3 (.alt 5 (.alt 6 (.alt 7 .leaf .stop) .stop) .stop) (.alt 5 (.alt 3 (.alt 6 (.alt 7 .leaf .stop) .stop) .stop) .stop)) .stop) (.alt 2 (.alt 0 (.alt 3 (.alt 5 (.alt 6 (.alt 7 .leaf .stop) .stop) .stop) (.alt 5 (.alt 3 (.alt 6 (.alt 7 .leaf .stop) .stop) .stop) .stop)) (.alt 3 (.alt 0 (.alt 5 (.alt 6 (.alt 7 .leaf .stop) .stop) .stop) .stop) .stop)) .stop)))) kR kR ?_;intro dv q;refine DX.mk ?_ ?_
  .refine jA (n:=3) (ag.ext (xt p q)).cells rfl<|DX.one<|(Ck bw (hT.ext (xt (xt (xb (xt (xt (xt (xt g e) f) i) j) o.but ac) p) q))).mono ?_;rintro _ dw ⟨rfl,ai⟩;refine DX.mk ?_ ?_
   .refine bS BI (vs:=[Value.string (BP aa)]) ?_;intro cm dx bo dp a9 b1;have ca:=AG (n:=1) (enc:=eS) (xs:=[BP aa]) AQ b1 bo rfl dE;refine DX.one<|jS (vs:=[Value.slice a n c,Value.slice b m d,Value.string ak]) (((af.ext (xt i j)).mod o.but (NI y aj (Below.size e))).ext (xt (xt (xt p q) ai) a9)) rfl rfl (by simp [AE]) ?_;intro dy a6 b2;refine DX.one<|DX.one ?_;refine AP (jR (n:=3) rfl b2.cells) ⟨_,_,_,_,rfl,?_,(xb (xt (xt (xt (xt (xb (xt (xt (xt (xt g e) f) i) j) o.but ac) p) q) ai) a9) a6.but (nB (xt g e) y))⟩
    .have ap:=g.size;have aq:=e.size;have au:=f.size;have av:=i.size;have aw:=j.size;have ax:=o.but.size;have ay:=p.size;have az:=q.size;have a0:=ai.size;have a5:=a9.size;have ar:=a6.but.size;exact fun _=>⟨rfl,fun ah r=>by cases r;exact Nat.le_trans om bo,(ca.mod a6.but (fun ah r h=>by cases r;have h:cm=an:=h;omega)).own⟩
   .refine DX.one<|jS (vs:=[Value.slice a n c,Value.slice b m d,Value.string ak]) (((af.ext (xt i j)).mod o.but (NI y aj (Below.size e))).ext (xt (xt p q) ai)) rfl rfl (by simp [AE]) ?_;intro dz bm b3;refine DX.one ?_;refine bS BI (vs:=[Value.string (BP aa)]) ?_;intro dh d0 bp dq a' b4;have cb:=AG (n:=1) (enc:=eS) (xs:=[BP aa]) AQ b4 bp rfl dE;refine DX.one ?_;refine DX.one<|AP (jR (n:=3) rfl (b3.ext a').cells) ⟨_,_,_,_,rfl,?_,(xt (xb (xt (xt (xt (xb (xt (xt (xt (xt g e) f) i) j) o.but ac) p) q) ai) bm.but (nB (xt g e) y)) a')⟩
    .have ap:=g.size;have aq:=e.size;have au:=f.size;have av:=i.size;have aw:=j.size;have ax:=o.but.size;have ay:=p.size;have az:=q.size;have a0:=ai.size;have a5:=bm.but.size;have ar:=a'.size;exact fun _=>⟨rfl,fun ah r=>by cases r;exact Nat.le_trans om bp,cb.own⟩
  .refine DX.one<|dM (Ck bw (hT.ext (xt (xt (xb (xt (xt (xt (xt g e) f) i) j) o.but ac) p) q))) fun d1 ab=>DX.mk ?_ ?_
   .refine jA (n:=3) (ag.ext (xt (xt p q) ab)).cells rfl<|DX.mk ?_ ?_
    .refine bS BI (vs:=[Value.string (BP aa)]) ?_;intro cn d2 bq dr ba b5;have cc:=AG (n:=1) (enc:=eS) (xs:=[BP aa]) AQ b5 bq rfl dE;refine DX.one ?_;refine jS (vs:=[Value.slice a n c,Value.slice b m d,Value.string ak]) (((af.ext (xt i j)).mod o.but (NI y aj (Below.size e))).ext (xt (xt (xt p q) ab) ba)) rfl rfl (by simp [AE]) fun d3 a7 b6=>DX.one ?_;refine DX.one ?_;refine AP (jR (n:=3) rfl b6.cells) ⟨_,_,_,_,rfl,?_,(xb (xt (xt (xt (xt (xb (xt (xt (xt (xt g e) f) i) j) o.but ac) p) q) ab) ba) a7.but (nB (xt g e) y))⟩
     .have ap:=g.size;have aq:=e.size;have au:=f.size;have av:=i.size;have aw:=j.size;have ax:=o.but.size;have ay:=p.size;have az:=q.size;have a0:=ab.size;have a5:=ba.size;have ar:=a7.but.size;exact fun _=>⟨rfl,fun ah r=>by cases r;exact Nat.le_trans om bq,(cc.mod a7.but (fun ah r h=>by cases r;have h:cn=an:=h;omega)).own⟩
    .refine DX.one<|jS (vs:=[Value.slice a n c,Value.slice b m d,Value.string ak]) (((af.ext (xt i j)).mod o.but (NI y aj (Below.size e))).ext (xt (xt p q) ab)) rfl rfl (by simp [AE]) ?_;intro d4 bn b7;refine DX.one ?_;refine bS BI (vs:=[Value.string (BP aa)]) ?_;intro di d5 br ds bb b8;have cd:=AG (n:=1) (enc:=eS) (xs:=[BP aa]) AQ b8 br rfl dE;refine DX.one ?_;refine DX.one<|AP (jR (n:=3) rfl (b7.ext bb).cells) ⟨_,_,_,_,rfl,?_,(xt (xb (xt (xt (xt (xb (xt (xt (xt (xt g e) f) i) j) o.but ac) p) q) ab) bn.but (nB (xt g e) y)) bb)⟩
     .have ap:=g.size;have aq:=e.size;have au:=f.size;have av:=i.size;have aw:=j.size;have ax:=o.but.size;have ay:=p.size;have az:=q.size;have a0:=ab.size;have a5:=bn.but.size;have ar:=bb.size;exact fun _=>⟨rfl,fun ah r=>by cases r;exact Nat.le_trans om br,cd.own⟩
   .refine DX.one<|bS BI (vs:=[Value.string (BP aa)]) ?_;intro co d6 bt dt ao b9;have ce:=AG (n:=1) (enc:=eS) (xs:=[BP aa]) AQ b9 bt rfl dE;refine DX.one<|jA (n:=3) (ag.ext (xt (xt (xt p q) ab) ao)).cells rfl<|DX.one ?_;refine jS (vs:=[Value.slice a n c,Value.slice b m d,Value.string ak]) (((af.ext (xt i j)).mod o.but (NI y aj (Below.size e))).ext (xt (xt (xt p q) ab) ao)) rfl rfl (by simp [AE]) ?_;intro d7 a8 b';refine DX.one<|DX.one ?_;refine AP (jR (n:=3) rfl b'.cells) ⟨_,_,_,_,rfl,?_,(xb (xt (xt (xt (xt (xb (xt (xt (xt (xt g e) f) i) j) o.but ac) p) q) ab) ao) a8.but (nB (xt g e) y))⟩
    .have ap:=g.size;have aq:=e.size;have au:=f.size;have av:=i.size;have aw:=j.size;have ax:=o.but.size;have ay:=p.size;have az:=q.size;have a0:=ab.size;have a5:=ao.size;have ar:=a8.but.size;exact fun _=>⟨rfl,fun ah r=>by cases r;exact Nat.le_trans om bt,(ce.mod a8.but (fun ah r h=>by cases r;have h:co=an:=h;omega)).own⟩
 .rw [if_pos bz];refine oV Tryz.func78 ?_;refine AB.box ?_;intro bl dc ac aj g ad;refine AB.box ?_;intro cg dd cq c5 e ae;refine jN (z := .agg #[.slice none 0 0,.slice none 0 0,.string { data := #[] }]) ?_;intro an de y c6 f af;refine jL (ae.ext f).cells (k:=0) rfl ?_;refine jI (h1.ext (xt (xt g e) f)) 0 rfl ht fun ch c7 cs bd=>jL bd (k:=0) rfl<|dH (pB [0,2,4,6,8,10,12,14,16,20,22,24,26,28,30,32,34,19,37,39,41,42,44,47,49]) fun df i=>dL (ad.ext (xt e f)).cells (k:=2) rfl<|dL (ad.ext (xt e f)).cells (k:=0) rfl<|dI (bc.ext (xt (xt g e) f)) (t).toNat om bh ?_;intro ci c8 ct be;refine dO be rfl<|dL (ae.ext f).cells (k:=1) rfl ?_;refine dI (h2.ext (xt (xt g e) f)) 0 rfl hk fun cj c9 cu bf=>dL bf (k:=0) rfl<|dL (ae.ext f).cells (k:=3) rfl<|dI (h4.ext (xt (xt g e) f)) 0 rfl hz fun ck c' cv bg=>dL bg (k:=0) rfl<|(Ho _ _ _ _).mono ?_;rintro _ _ ⟨rfl,rfl⟩;refine ⟨i,?_⟩;refine AB.build FX rfl ?_;refine ⟨i,?_⟩;refine (bu _ (hT.ext (xt (xt (xt g e) f) i)) (hE.ext (xt (xt (xt g e) f) i)) (hM.ext (xt (xt (xt g e) f) i))).mono ?_;rintro _ dg ⟨rfl,j⟩;refine ⟨(xt i j),?_⟩;refine iT ?_;refine jA (n:=3) (ad.ext (xt (xt (xt e f) i) j)).cells rfl<|jS (vs:=[Value.slice a n c,Value.slice b m d,Value.string s]) (af.ext (xt i j)) rfl rfl (by simp [AE]) ?_;intro b0 o ag;refine AP (jR (n:=3) rfl ag.cells) ?_;exact ⟨_,_,_,_,rfl,om,(xb (xt (xt (xt (xt g e) f) i) j) o.but (nB (xt g e) y))⟩
theorem P0 {xs:List (List Int)} (h:Ar Aa w a2 n2 xs) (hn2:n2<=1000) (hT:F7 w) :
  Dq 77 [.agg #[.slice a n c,.slice b m d,.string s],.slice a2 n2 c2] w (fun v w'=>∃ al nl cl,v = .tuple #[.agg #[.slice a n c,.slice b m d,.string s],.slice al nl cl,.int .i64 (match xs.find? (fun c=>decide (BG c≠0)) with | some c=>BG c | none=>0)] /\
   ((match xs.find? (fun c=>decide (BG c≠0)) with | some c=>BG c | none=>0)=0->Ad w.heap.size al/\Bw eS w' al nl 9 (CI (xs.map fun c=>Cd (CK c))))/\AD w w'):=by
 have cw:=h.len;obtain ⟨ca,az,b2⟩:=h;have cv:=az.len;generalize bg:(match xs.find? (fun c=>decide (BG c≠0)) with | some c=>BG c | none=>0)=be;have b5:∀ e i,xs[e]? = some i->(∀ j f,j<e->xs[j]? = some f->BG f=0)->BG i≠0->be=BG i:=fun e i ac ae b1=>by
  rw [<- bg,QR ac (by simpa using b1) fun j f af p=>by simpa using ae j f af p]
 have b8:(∀ f∈xs,BG f=0)->be=0:=fun ae=>by
  rw [<- bg];have:xs.find? (fun c=>decide (BG c≠0))=none:=by
   rw [List.find?_eq_none];intro f p;simp [ae f p]
  rw [this]
 refine oV Tryz.func77 ?_;refine AB.box ?_;intro aw c1 cs cx am a8;refine jN (z := .agg #[.slice none 0 0,.slice none 0 0,.string { data := #[] }]) ?_;intro aj bk b0 c0 y a9;refine bS BI (vs:=[]) ?_;intro bt ch bx cy bf bl;have c':=Below.size (xt am y);have c6:=bf.size;have bp:Ai eS 1 w.heap.size 9 ch (some ⟨bt,0,none⟩) 0 0 []:=Ab (enc:=eS) AQ bl om;refine lR [2,4,7,13,14,15] (fun (e:Nat) cg w'=>∃ av bd,cg=[.pointer (some ⟨aw,0,none⟩),.pointer (some ⟨aj,0,none⟩),.slice av e bd,.slice a2 n2 c2,.int .i64 n2,.int .i64 e]/\e<=n2/\Ai eS 1 w.heap.size 9 w' av e bd ((xs.take e).map fun c=>Cd (CK c))/\(∀ g,AN av g->bk.heap.size<=g)/\(∀ j f,j<e->xs[j]? = some f->BG f=0)/\AD bk w') (fun e=>n2 - e) 0 ⟨_,_,rfl,om,by simpa using bp,?_,fun j f af=>by omega,bf⟩ ?_
 .rintro g ⟨f,p,rfl⟩;cases p
  exact bx
 rintro e cr _ bj ⟨ad,bw,rfl,cu,ay,ao,a0,q⟩;have bo:=xt am y;have o:=xt bo q;rcases Nat.lt_or_ge e n2 with b6 | b6
 .obtain ⟨aa,a3⟩:=AA (l:=ca) (k:=e) om;obtain ⟨i,ac,bb⟩:=b2.get a3;have b9:=Ct (fun c=>Cd (CK c)) ac;have an:∀ r,AD w r->Dq 135 [.agg ⟨eH aa⟩] r (fun v w'=>v = .tuple #[.string (if BG i=0 then Cd (CK i) else ⟨#[]⟩),.int .i64 (BG i)]/\AD r w'):=fun r ah=>Rg ⟨bb.1.ext ah,bb.2⟩;by_cases ap:BG i=0
  .rw [ap,if_pos rfl] at an;generalize ct:Cd (CK i)=bi at *;refine iY<|jI (az.ext o) e rfl a3 fun bu cf b4 a1=>jA (n:=1) a1 rfl<|jN (z := .agg #[.slice none 0 0]) fun bv ci x cd u aq=>jS (vs:=[Value.slice aa.a aa.n aa.c]) aq rfl rfl (by simp [AE]) fun cj t ar=>jA (n:=1) ar.cells rfl<|dM (an _ (xb (xt o u) t.but (nB o x))) fun a6 ab=>bS BI (vs:=[Value.string bi]) ?_;intro co a7 bz cz ax ag;have bq:=AG (n:=1) (enc:=eS) (xs:=[bi]) AQ ag bz rfl dE;refine AM (enc:=eS) BI AQ (ay.ext (xt (xt (xb u t.but x) ab) ax)) (bq.own.arr AQ) (by intro i _;simp [eS,AE]) om om (Below.size (xt (xt (xb (xt o u) t.but (nB o x)) ab) ax)) fun cn cq c4 br ce cc=>jP (((e+1:Nat):Int)) ?_;have a':AD bj a7:=(xt (xt (xb u t.but x) ab) ax);have c8:=a'.size;have ck:=q.size;exact ⟨e+1,om,_,_,rfl,om,by rw [b9];exact br,fun bh b'=>(cc bh b').elim (ao bh) (fun h=>by omega),fun j f af p=>by
    rcases Nat.lt_or_ge j e with h | h
    .exact a0 j f h p
    .obtain rfl:j=e:=om
     rw [ac] at p;cases p
     exact ap,xm (xt q a') ce ao⟩
  .rw [b5 e i ac a0 ap];rw [if_neg ap] at an;exact iY<|jI (az.ext o) e rfl a3 fun bu cf b4 a1=>jA (n:=1) a1 rfl<|jN (z := .agg #[.slice none 0 0]) fun bv ci x cd u aq=>jS (vs:=[Value.slice aa.a aa.n aa.c]) aq rfl rfl (by simp [AE]) fun cj t ar=>jA (n:=1) ar.cells rfl<|dM (an _ (xb (xt o u) t.but (nB o x))) fun a6 ab=>iT<|jA (n:=3) (a8.ext (xt (xb (xt (xt y q) u) t.but (nB (xt y q) x)) ab)).cells rfl<|jS (vs:=[Value.slice a n c,Value.slice b m d,Value.string s]) (a9.ext (xt (xb (xt q u) t.but (nB q x)) ab)) rfl rfl (by simp [AE]) fun a7 ak ag=>AP (jR (n:=3) rfl ag.cells) ⟨_,_,_,rfl,om,(xb (xt (xb (xt o u) t.but (nB o x)) ab) ak.but (nB am b0))⟩
 .obtain rfl:e=n2:=om
  rw [List.take_of_length_le om] at ay;rw [b8 fun f p=>by obtain ⟨j,af⟩:=List.mem_iff_getElem?.1 p;exact a0 j f (by have:=(List.getElem?_eq_some_iff.1 af).1;omega) af];have b3:∀ r,AD bj r->Dq 82 [.slice ad e bw] r (fun v w'=>∃ au bc,v = .slice au (e+1) bc/\Ai eS 1 w.heap.size 9 w' au (e+1) bc (CI (xs.map fun c=>Cd (CK c)))/\(∀ g,AN au g->AN ad g\/r.heap.size<=g)/\BY (AN ad) r w'):=fun r ah=>J8 (ay.ext ah) (Nat.le_trans o.size ah.size) om (hT.ext (xt o ah));refine iN ?_;have b7:¬ AN ad aw:=fun h=>by
   have:=ao aw h;have:=y.size;skip;omega
  have c5:=am.size;have a4:∀ g,AN ad g->w.heap.size<=g/\¬ g=aj:=fun g h=>by
   have:=ao g h;have:=y.size;skip;constructor<;>omega
  refine Nq A8 mixed ad (pZ [5,1,12,18,20,25]) kR kR fun c3 ai=>Ba (n:=3) kR (Sr.cells ((a8.ext (xt (xt y q) ai)).cells) b7) rfl<|(b3 _ ai).mono ?_;rintro _ a6 ⟨cm,cp,rfl,ba,cb,a5⟩;have c7:=ai.size;have ck:=q.size;have c9:=y.size;refine ⟨a5,?_⟩;have bm:=((a9.ext q).ext ai).mod a5 (fun h=>(a4 aj h).2 rfl);refine jS (vs:=[Value.slice a n c,Value.slice b m d,Value.string s]) bm rfl rfl (by simp [AE]) fun a7 ak ag=>AP (jR (n:=3) rfl ag.cells) ?_;have bn:AD w a6:=xm (xt o ai) a5 (fun g h=>(a4 g h).1);exact ⟨_,_,_,rfl,fun _=>⟨ba.new,(ba.mod ak.but (fun i ac h=>by
   have h:i.block=aj:=h;rcases cb _ ⟨i,ac,rfl⟩ with ae | ae
   .exact (a4 _ ae).2 h
   .omega)).own⟩,xb bn ak.but om⟩
end Go.Proofs.YtalgenmoljcnmaaGreatDoor
namespace Go.Vc
open Go Go.RowKit
def XT (P:Program) (t:Nat):Option (Nat×Nat) :=
 match P.underlying t with
 | some (.array n e)=>match P.info? e with
  | some inf=>some (n,inf.size)
  | none=>none
 | _=>none
theorem Rp {P:Program} {t n sz:Nat} (ht:XT P t=some (n,sz)) {w:World} {b o:Nat} {i:Int} (k:Nat) (hi:i=k) (hlt:k<n) {kd:IntKind}
  {K:Value->World->Prop} (hK:K (.pointer (some ⟨b,o+k * sz,none⟩)) w):AB P (Instr.indexAt t (.pointer (some ⟨b,o,none⟩)) (.int kd i)) w K:=by
 unfold XT at ht;split at ht
 .rename_i f d c;split at ht
  .rename_i e a;simp only [Option.some.injEq,Prod.mk.injEq] at ht;obtain ⟨rfl,rfl⟩:=ht;subst hi;refine A1 ?_ hK;simp [Instr.indexAt,Instr.sureAddr,asIntOf,run_underlying c,hlt,sizeOf,typeInfo,a,Cu]
  .cases ht
 .cases ht
end Go.Vc
namespace Go.M
open Go Go.Vc
def PK (xs:List ByteArray):DataW Unit := .agg (xs.map fun s=>.lit (.string s.data.toList))
theorem Rl {enc:TypeId×Value->Unit} {P:Program} {w:World} {base:Nat} {sp:Nat->Bool} {held:Bool} {fuel:Nat} {t e:TypeId} {n:Nat} {cs:List Value} {zs:List ByteArray} {p:List MemPlace}
  (ht:P.underlying t=some (.array n e)) (he:P.underlying e=some .string) (hce:P.cellsOf e=1) (hct:P.cellsOf t=n)
  (h:DataW.trod enc P w base sp held fuel t cs=some (PK zs,p)):cs=zs.map Value.string:=by
 cases fuel with
 | zero=>simp [DataW.trod] at h
 | succ fuel =>
  simp only [DataW.trod,ht,hce,hct,Nat.mul_one] at h;split at h
  .rename_i v;obtain ⟨d,f,q⟩:=Option.map_eq_some_iff.1 h;have g:d.map (·.1)=zs.map fun b=>(DataW.lit (.string b.data.toList):DataW Unit):=by
    have:=congrArg Prod.fst q;simpa [PK] using this
   have x:d.length=n:=by simpa using Lib.mapM_length f
   have y:zs.length=n:=by
    have:=congrArg List.length g;simp at this;omega
   apply List.ext_getElem?;intro a;by_cases o:a<n
   .obtain ⟨u,j,m⟩:=Lib.mapM_at f a a (by simp [o]);obtain ⟨b,k,rfl,_⟩:=DataW.trod_string he m;have i:cs[a]? = some (.string b):=by
     have:=congrArg (·[0]?) k;simpa [List.getElem?_take,List.getElem?_drop] using this
    have c:(d.map (·.1))[a]? = some (DataW.lit (.string b.data.toList):DataW Unit):=by simp [j]
    rw [g] at c;simp only [List.getElem?_map,Option.map_eq_some_iff,DataW.lit.injEq,Lit.string.injEq] at c;obtain ⟨s,r,l⟩:=c;have:s=b:=CV l;subst this;simp [i,r]
   .rw [List.getElem?_eq_none om,List.getElem?_eq_none (by simp;omega)]
  .cases h
end Go.M
namespace Go.Proofs.YtalgenmoljcnmaaGreatDoor
open Go Go.RowKit Go.Vc Go.M Go.Shelf Go.Proofs
variable {w:World}
def Ee (w:World):Prop:=w.var? Tryz.prog (Rows.fnExactRunDeskRow.named.getD 8 Rows.fnExactRunDeskRow.spec)=some (EI.map Value.string).toArray
theorem Ee.ext {w':World} (h:Ee w) (e:AD w w'):Ee w':=O8 h e
theorem Mx {rest:List (String×DataW Unit)} {W:World} (h:laidMet Tryz.prog (((Rows.fnExactRunDeskRow.named.getD 8 Rows.fnExactRunDeskRow.spec),PK EI) :: rest) W):Ee W:=by
 obtain ⟨j,⟨g,l,e,f,i,k,b,c,d,a,_,_⟩,_⟩:=h;obtain rfl:=Option.some.inj ((show (Tryz.prog).globalNamed (Rows.fnExactRunDeskRow.named.getD 8 Rows.fnExactRunDeskRow.spec)=some 0 from kR).symm.trans b);obtain rfl:=Option.some.inj ((show ((Tryz.prog).globals[0]?).map (·.type)=some 137 from kR).symm.trans c);unfold Ee;rw [d,<- Rl Tryz.underlying137 Tryz.underlying9 kR kR a]
theorem Ee.cells (h:Ee w) {k:Nat} {s:ByteArray} (hs:EI[k]? = some s):AK w 0 k [.string s]:=by
 have c:=World.var?_cell (show (Tryz.prog).globalNamed (Rows.fnExactRunDeskRow.named.getD 8 Rows.fnExactRunDeskRow.spec)=some 0 from kR) h k;intro b d a;cases b with
 | zero =>
  simp only [List.getElem?_cons_zero,Option.some.injEq] at a;subst a;rw [Nat.add_zero,c];simp [hs]
 | succ b=>simp at a
theorem K9 (k:Int) (hN:Ee w):Dq 37 [.int .i64 k] w (fun v w'=>v = .string (Ew k)/\AD w w'):=by
 cases a:Dc k 0 10
 .have b:Ew k=⟨#[]⟩:=by unfold Ew;rw [if_pos a]
  rw [b];refine oV Tryz.func37 ?_;refine (B8 _ _ _ _).mono ?_;rintro _ _ ⟨rfl,rfl⟩;refine iT ?_;exact ⟨rfl,AD.refl _⟩
 .have f:=Bs a;have b:Ew k=EI.getD k.toNat ⟨#[]⟩:=by unfold Ew;rw [if_neg (by simp [a])]
  obtain ⟨e,c⟩:=AA (l:=EI) (k:=k.toNat) (by show k.toNat<11;omega);rw [b,Ae c];have d:=hN.cells c;refine oV Tryz.func37 ?_;refine (B8 _ _ _ _).mono ?_;rintro _ _ ⟨rfl,rfl⟩;refine E3 (by rw [a];rfl) ?_;refine Rp (n:=11) (sz:=1) kR k.toNat om om ?_;refine jO (vs:=[.string e]) (by simpa using d) rfl ?_;exact ⟨rfl,AD.refl _⟩
end Go.Proofs.YtalgenmoljcnmaaGreatDoor
namespace Go.M
open Go Go.Vc
def CU (X:List (List (List Int))) (t:Int) (z:ByteArray):List (List (List Int)):=X.set t.toNat (X.getD t.toNat []++[CR z])
def KF (X:List (List (List Int))) (m:Nat) (t:Int) (z:ByteArray):Int :=
 if CG z≠0 then CG z else if Ap (CU X t z) m=false then 6 else 0
end Go.M
namespace Go.Proofs.YtalgenmoljcnmaaGreatDoor
open Go Go.RowKit Go.Vc Go.M
theorem Tu {w:World} {lo hi n c m d:Nat} {a b:Option Addr} {s:ByteArray} {X:List (List (List Int))} {Y:List (List A9)} (h:GQ w lo hi a n c b m d X Y) (hhi:hi<=w.heap.size) (ho:Ap X m=true) (hT:∀ u,BY (Iv lo hi) w u->F7 u) {a1 a2 a3 a4:Option Addr} {n1 n2 n3 n4 c1 c2 c3 c4:Nat} {T:List Int} {Z:List ByteArray} {t:Int} {z:ByteArray} (h1:A4 eI 1 w a1 n1 T) (h4:A4 eS 1 w a4 n4 Z)
  (ht:T[0]? = some t) (hz:Z[0]? = some z) (tb:0<=t/\t<=5) (hzs:z.size<=1048576) :
  Dq 75 [.agg #[.slice a n c,.slice b m d,.string s],.agg #[.slice a1 n1 c1,.slice a2 n2 c2,.slice a3 n3 c3,.slice a4 n4 c4]] w (fun v w'=>∃ al nl cl,v = .tuple #[.agg #[.slice a n c,.slice b m d,.string s],.slice al nl cl,.int .i64 (KF X m t z)] /\
   (KF X m t z=0->∃ hi',w.heap.size<=hi'/\hi'<=w'.heap.size/\(∀ u,BY (fun k=>hi<=k/\k<w.heap.size) w' u->C8 u lo hi' a n b m (CU X t z) Y)/\Ad hi' al/\Bw eS w' al nl 9 [C6 (At (CU X t z))])/\BY (Iv lo hi) w w'):=by
 have dn:=BA ho;have fp:=dn.1;have dh:=h.rd;have fu:=dh.1.len;have ft:=dh.2.len;have bb:∀ u,Dq 132 [.string z,.int .i64 z.size] u (fun v w'=>∃ a n c,v = .tuple #[.agg #[.slice a n c],.int .i64 (CG z)]/\(CG z=0->Ad u.heap.size a/\Ai eI 1 u.heap.size 2 w' a n c (CR z))/\AD u w'):=fun u=>QC hzs u;unfold KF;by_cases b4:CG z=0
 .rw [if_neg om];rw [b4] at bb;refine oV Tryz.func75 ?_;refine AB.box ?_;intro aw fb eg e1 ac a5;refine AB.box fun a' fc eh e2 q a6=>jN (z := .agg #[.slice none 0 0,.slice none 0 0,.string { data := #[] }]) fun ai fd ck e3 p a7=>Dn [14] A8 mixed none (.seq (pZ [0,20,6,10,16,26,30,36,40]) (.alt 9 (.seq (pZ [50,55,60,67,73,75]) .done) 13 (.seq (pZ [47,50,55,60,73,75]) .done))) kR kR ?_;intro av i;have bf:∀ ao,¬ AN none ao:=fun ao bc=>by obtain ⟨x,be,_⟩:=bc;cases be
  have a8:∀ w',Sr none av w'->AK w' a' 0 [.slice a1 n1 c1,.slice a2 n2 c2,.slice a3 n3 c3,.slice a4 n4 c4]:=Sr.cells (a6.ext (xt p i)).cells (bf _);refine C9 kR (k:=3) a8 rfl<|pI (h4.ext (xt (xt (xt ac q) p) i)) 0 rfl hz ?_;intro ce cx cp br;have bm:∀ w',Sr none av w'->AK w' ce (cx+0 * 1) [.string z]:=Sr.cells br (bf _);refine FO kR bm rfl<|C9 kR (k:=3) a8 rfl<|pI (h4.ext (xt (xt (xt ac q) p) i)) 0 rfl hz ?_;intro cf cy cq bt;have bn:∀ w',Sr none av w'->AK w' cf (cy+0 * 1) [.string z]:=Sr.cells bt (bf _);refine FO kR bn rfl<|DX.mk ?_ ?_
  focus
   refine (bb _).mono ?_;rintro _ c0 ⟨r,ag,af,rfl,bg,j⟩;refine ⟨AU j,jN (z := .agg #[.slice none 0 0]) fun ah cz ar cv o a0=>⟨AU (xt j o),jS (vs:=[Value.slice r ag af]) a0 rfl rfl (by simp [AE]) ?_⟩⟩;intro ae y bx;(conv=>whnf);have bo:AD w ae:=xb (xt (xt (xt (xt (xt ac q) p) i) j) o) y.but (by have:=ac.size;have:=q.size;have:=p.size;have:=i.size;have:=j.size;omega);have fh:=ac.size;have fi:=q.size;have fj:=p.size;have fk:=i.size;have fl:=j.size;have fe:=o.size;have ff:=y.but.size;have b9:CD ae aw [.slice a n c,.slice b m d,.string s] 36:=(a5.ext (xt (xt (xt (xt q p) i) j) o)).mod y.but (fun h=>by have h:aw=ah:=h;omega);have c5:CD ae a' [.slice a1 n1 c1,.slice a2 n2 c2,.slice a3 n3 c3,.slice a4 n4 c4] 68:=(a6.ext (xt (xt (xt p i) j) o)).mod y.but (fun h=>by have h:a'=ah:=h;omega);have c6:=(a7.ext (xt (xt i j) o)).mod y.but (fun h=>by have h:ai=ah:=h;omega);obtain ⟨au,a9⟩:=bg rfl;have bz:Ai eI 1 w.heap.size 2 ae r ag af (CR z):=((a9.ext o).mod y.but (fun aa ad h=>by
    have h:aa.block=ah:=h;have h1:=au aa ad;have bl:=(a9.blk_lt aa ad).2;omega)).base om
   have di:Ad w.heap.size r:=au.mono om;have dj:∀ e∈BU r,av.heap.size<=e:=fun e g=>by
    obtain ⟨aa,ad,rfl⟩:=A2.1 g;have:=au aa ad;omega
   clear a8 bm bn br bt cp cq a5 a6 a7 bg bb a9 au
  rotate_left
  focus
   refine jN (z := .agg #[.slice none 0 0]) fun ah cz ar cv o a0=>⟨AU o,(bb _).mono ?_⟩;rintro _ c0 ⟨r,ag,af,rfl,bg,j⟩;refine ⟨AU (xt o j),jS (vs:=[Value.slice r ag af]) (a0.ext j) rfl rfl (by simp [AE]) ?_⟩;intro ae y bx;(conv=>whnf);have bo:AD w ae:=xb (xt (xt (xt (xt (xt ac q) p) i) o) j) y.but (by have:=ac.size;have:=q.size;have:=p.size;have:=i.size;omega);have fh:=ac.size;have fi:=q.size;have fj:=p.size;have fk:=i.size;have fl:=j.size;have fe:=o.size;have ff:=y.but.size;have b9:CD ae aw [.slice a n c,.slice b m d,.string s] 36:=(a5.ext (xt (xt (xt (xt q p) i) o) j)).mod y.but (fun h=>by have h:aw=ah:=h;omega);have c5:CD ae a' [.slice a1 n1 c1,.slice a2 n2 c2,.slice a3 n3 c3,.slice a4 n4 c4] 68:=(a6.ext (xt (xt (xt p i) o) j)).mod y.but (fun h=>by have h:a'=ah:=h;omega);have c6:=(a7.ext (xt (xt i o) j)).mod y.but (fun h=>by have h:ai=ah:=h;omega);obtain ⟨au,a9⟩:=bg rfl;have bz:Ai eI 1 w.heap.size 2 ae r ag af (CR z):=(a9.mod y.but (fun aa ad h=>by
    have h:aa.block=ah:=h;have h1:=au aa ad;have bl:=(a9.blk_lt aa ad).2;omega)).base om
   have di:Ad w.heap.size r:=au.mono om;have dj:∀ e∈BU r,av.heap.size<=e:=fun e g=>by
    obtain ⟨aa,ad,rfl⟩:=A2.1 g;have:=au aa ad;omega
   clear a8 bm bn br bt cp cq a5 a6 a7 bg bb a9 au
  all_goals
   refine jL c5.cells (k:=0) rfl<|jI (h1.ext bo) 0 rfl ht fun fn fx fq en=>jO en rfl ?_;(conv=>whnf);obtain ⟨ci,cm,d5,c',cn⟩:=h;obtain ⟨e5,e7,cw⟩:=List.nodup_append.1 cn.1;have d7:EO (OG A0 144) ae a n 78 X ci:=(d5.ext bo).own;obtain ⟨bw,cu⟩:=AA (l:=X) (k:=t.toNat) om;obtain ⟨ab,aj,dd,ep,b3,dz,d3,e8,em,bd,ey⟩:=d7.hand e5 cu;subst ep;obtain ⟨fm,ez,ec,ed,ee,ef⟩:=d3;have bp:Bx A0 0 144 ae aj.a aj.n aj.c bw dd:=⟨ez,ec,ed.base (Nat.zero_le _),ee,ef⟩;have et:X.getD t.toNat []=bw:=Ae cu;have fv:=(dn.2.2 bw (List.mem_of_getElem? cu)).1;have fs:aj.n<=40:=by have:=bp.le.2;omega
   have ak:∀ e∈ci,lo<=e/\e<hi:=fun e g=>cn.2 e (List.mem_append_left _ g);have dm:∀ e,hi<=e->¬ AN aj.a e:=fun e g h=>by have:=ak e (bd e (bp.blk e h));omega
   have ew:¬ AN aj.a ab:=fun h=>em (bp.blk ab h);refine H6 [14] A8 mixed aj.a (pZ [0,5,15,20,25,35,11,31,40,46,51,57,62,65,73]) kR kR ?_;intro bv ba;have c7:∀ w',Sr aj.a bv w'->AK w' aw 0 [.slice (some ⟨ab,0,none⟩) n c,.slice b m d,.string s]:=Sr.cells (b9.ext ba).cells (dm _ om);have d0:∀ w',Sr aj.a bv w'->AK w' ah 0 [.slice r ag af]:=Sr.cells (bx.ext ba).cells (dm _ om);have d2:∀ w',Sr aj.a bv w'->AK w' ab (0+t.toNat * 1) (eH aj):=Sr.cells (dz.ext ba) ew;refine C9 kR (k:=0) c7 rfl<|C9 kR (k:=0) c7 rfl<|pW (sz:=1) t.toNat om om<|FO kR d2 rfl<|Ba (n:=1) kR d0 rfl<|AB.buildSlice Bm (vs:=[Value.agg ⟨eH ⟨r,ag,af⟩⟩]) (by rfl) (by rfl) (by simp [Value.cells,eH]) dE ?_;intro d9 e' fo fw bj dx;have d1:AK e' d9 0 (eH ⟨r,ag,af⟩):=dx.cells;refine ⟨AU bj,?_⟩;have fz:=ba.size;have f0:=bj.size;have cr:∀ e∈BU r,w.heap.size<=e/\e<ae.heap.size:=fun e g=>by
    obtain ⟨aa,ad,rfl⟩:=A2.1 g;exact ⟨di aa ad,(bz.blk_lt aa ad).2⟩
   have eq:(BU r).Nodup:=by cases r<;>simp [BU]
   refine CY Bm rfl (bp.ext (xt ba bj)) e8 (Nat.zero_le _) (d:=⟨r,ag,af⟩) (x:=CR z) (f:=BU r) (Fg (bz.ext (xt ba bj)).own bz.le.1) eq (fun e g bu=>by have:=cr e g;have:=ak e (bd e bu);omega) d1 om om fun d8 d' ds eb d4 e6 dq cc=>⟨(AD.mod bj).trans cc,pW (sz:=1) t.toNat om om ?_⟩;have b0:BY (fun e=>e∈dd) ae ds:=(AD.mod (xt ba bj)).trans (cc.mono fun e g=>bp.blk e g);refine ey _ _ ds ⟨d8,aj.n+1,d'⟩ (bw++[CR z]) eb kR b0 ⟨0,d4⟩ e6 (fun e g=>by
    rcases dq e g with h | h | h
    .exact .inl h
    .exact .inr fun bu=>by have:=cr e h;have:=ak e bu;omega
    .exact .inr fun bu=>by have:=ak e bu;omega) _ ?_
   intro am de b2 bq e4 e9;have f1:=cc.size;have f2:=b2.but.size;have cd:BY (Iv lo hi) w am:=((AD.mod bo).trans (b0.mono fun e g=>ak e (bd e g))).trans (b2.but.mono fun e g=>by have g:e=ab:=g;subst g;exact ak e b3);have dg:∀ {ao:Nat} {dc:List Value} {dr:Nat},CD ae ao dc dr->hi<=ao->CD am ao dc dr:=fun dw bc=>(dw.mod b0 (fun h=>by have:=ak _ (bd _ h);omega)).mod b2.but (fun h=>by have h:_=ab:=h;have:=ak _ b3;omega);have b':=dg b9 om;have ca:=dg c6 om;have el:X.set t.toNat (bw++[CR z])=CU X t z:=by unfold CU;rw [et]
   rw [el] at bq;have ej:F7 am:=hT am cd;have ek:∀ u,AD am u->Dq 66 [.agg #[.slice (some ⟨ab,0,none⟩) n c,.slice b m d]] u (fun v w'=>v = .bool (Ap (CU X t z) m)/\AD u w'):=fun u bi=>Gd (bq.arr.ext bi);refine jG (n:=2) (k:=0) b'.cells rfl<|dM (ek _ (AD.refl _)) fun fy ay=>?_;have f4:=ay.size;(conv=>whnf);cases ex:Ap (CU X t z) m
   .rw [if_pos rfl];exact jA (n:=3) (b'.ext ay).cells rfl<|AW (vs:=[Value.slice (some ⟨ab,0,none⟩) n c,Value.slice b m d,Value.string s]) kR (ca.ext ay) rfl rfl (by simp [AE]) fun dt ea dy=>AP (jR (n:=3) rfl dy.cells) ⟨_,_,_,rfl,(fun h=>by cases h),(cd.trans (AD.mod ay)).trans_new ea.but (fun k an=>by have an:k=ai:=an;omega)⟩
   .rw [if_neg sI];have dp:=BA ex;have ei:∀ u,AD am u->Dq 76 [.agg #[.slice (some ⟨ab,0,none⟩) n c,.slice b m d]] u (fun v w'=>v = .string (C6 (At (CU X t z)))/\AD u w'):=fun u bi=>IU (bq.arr.ext bi) dp.1 (fun x be=>(dp.2.2 x be).1) (ej.ext bi);have f3:=ay.size;have er:=c'.lt;have ct:∀ e∈cm,lo<=e/\e<hi:=fun e g=>cn.2 e (List.mem_append_right _ g);have da:EO G4 am b m 161 Y cm:=c'.own.keep fun e g=>by
     have h1:=er e g;rw [b2.block e (fun h=>cw ab b3 e g h.symm),b0.block e (fun h=>cw e (bd e h) e g rfl) om,bo.block e h1]
    have fr:=ak ab b3;have cs:∀ e∈de,(e∈ci\/w.heap.size<=e)/\lo<=e/\e≠ai:=fun e g=>by
     rcases e9 e g with h | h
     .have:=ak e h;exact ⟨.inl h,this.1,om⟩
     .rcases dq e h with h | h | h
      .have:=ak e (bd e h);exact ⟨.inl (bd e h),this.1,om⟩
      .have h1:=cr e h;have bl:=dj e h;exact ⟨.inr h1.1,om,om⟩
      .exact ⟨.inr om,om,om⟩
    have dl:=bq.lt;have es:=da.lt;have c9:∀ (ap:World) (aq:Nat),BY (fun e=>e=ai) am ap->am.heap.size<=aq->Bw eS ap (some ⟨aq,0,none⟩) 1 9 [C6 (At (CU X t z))]->∃ al nl cl,Value.tuple #[.agg #[.slice (some ⟨ab,0,none⟩) n c,.slice b m d,.string s],.slice (some ⟨aq,0,none⟩) 1 1,.int .i64 0]=Value.tuple #[.agg #[.slice (some ⟨ab,0,none⟩) n c,.slice b m d,.string s],.slice al nl cl,.int .i64 0] /\
      ((0:Int)=0->∃ hi',w.heap.size<=hi'/\hi'<=ap.heap.size/\(∀ u,BY (fun k=>hi<=k/\k<w.heap.size) ap u->C8 u lo hi' (some ⟨ab,0,none⟩) n b m (CU X t z) Y)/\Ad hi' al/\Bw eS ap al nl 9 [C6 (At (CU X t z))])/\BY (Iv lo hi) w ap:=by
     intro ap aq b1 eo d6;have dv:=b1.size;refine ⟨_,_,_,rfl,fun _=>⟨am.heap.size,om,dv,fun u db=>⟨78,161,de,cm,(bq.keep fun e g=>by
      have h1:=cs e g;have bl:=dl e g;rw [db.block e (fun eu=>by rcases h1.1 with df | df;have:=ak e df;omega;omega) om,b1.block e h1.2.2 bl]).imp (fun _ _ _ h=>OG.os h),da.keep fun e g=>by
      have h1:=ct e g;have bl:=es e g;rw [db.block e (fun eu=>by omega) om,b1.block e om bl],List.nodup_append.2 ⟨e4,e7,fun b5 b4 ao bc bi=>?_⟩,fun e g=>?_⟩,?_,d6⟩,Cv cd b1 (fun e g=>.inr om)⟩
     .subst bi;have h1:=ct b5 bc;rcases (cs b5 b4).1 with h | h
      .exact cw b5 h b5 bc rfl
      .omega
     .rcases List.mem_append.1 g with g | g
      .exact ⟨(cs e g).2.1,dl e g⟩
      .have:=ct e g;omega
     .intro aa ad;cases ad
      exact eo
    refine Dn [] A8 mixed (some ⟨ai,0,none⟩) (.seq (pZ [5,1,11,17]) (.alt 4 (.seq (pZ [27,30,35]) .done) 5 (.seq (pZ [22,30,35]) .done))) kR kR ?_;intro dt ch;have c8:∀ w',Sr (some ⟨ai,0,none⟩) dt w'->AK w' aw 0 [.slice (some ⟨ab,0,none⟩) n c,.slice b m d,.string s]:=Sr.cells (b'.ext (xt ay ch)).cells (by rintro ⟨x,be,dk⟩;cases be;have dk:aw=ai:=dk;omega);refine Ba (n:=3) kR c8 rfl<|Fj (n:=2) kR (k:=0) c8 rfl<|dM (ei _ (xt ay ch)) fun fa bk=>⟨AU bk,?_⟩;have bh:AD am fa:=xt (xt ay ch) bk;have co:∀ {x aa:World},But ai x aa->BY (AN (some (⟨ai,0,none⟩:Addr))) x aa:=fun h=>h.mono fun e g=>⟨_,rfl,g⟩;refine DX.mk ?_ ?_
    .refine bS BI (vs:=[Value.string (C6 (At (CU X t z)))]) ?_;intro aq du cj e0 az b7;have cb:=AG (n:=1) (enc:=eS) (xs:=[C6 (At (CU X t z))]) AQ b7 cj rfl dE;refine ⟨AU (xt bk az),AW (vs:=[Value.slice (some ⟨ab,0,none⟩) n c,Value.slice b m d,Value.string s]) kR (ca.ext (xt bh az)) rfl rfl (by simp [AE]) fun ap ax b8=>⟨(AU (xt bk az)).trans (co ax.but),AP (jR (n:=3) rfl b8.cells) ?_⟩⟩;have fg:=bh.size;exact c9 ap aq ((AD.mod (xt bh az)).trans ax.but) om (cb.mod ax.but (fun aa ad h=>by
      cases ad
      have h:aq=ai:=h;omega)).own
    .refine AW (vs:=[Value.slice (some ⟨ab,0,none⟩) n c,Value.slice b m d,Value.string s]) kR (ca.ext bh) rfl rfl (by simp [AE]) fun ap ax b8=>⟨(AU bk).trans (co ax.but),bS BI (vs:=[Value.string (C6 (At (CU X t z)))]) ?_⟩;intro aq du cj e0 az b7;have cb:=AG (n:=1) (enc:=eS) (xs:=[C6 (At (CU X t z))]) AQ b7 cj rfl dE;refine ⟨((AU bk).trans (co ax.but)).trans (AD.mod az),AP (jR (n:=3) rfl (b8.ext az).cells) ?_⟩;have fg:=bh.size;have dv:=ax.but.size;exact c9 du aq (((AD.mod bh).trans ax.but).trans (AD.mod az)) om cb.own
 .rw [if_pos b4];refine oV Tryz.func75 ?_;refine AB.box ?_;intro aw fb eg e1 ac a5;refine AB.box fun a' fc eh e2 q a6=>jN (z := .agg #[.slice none 0 0,.slice none 0 0,.string { data := #[] }]) fun ai fd ck e3 p a7=>Dn [14] A8 mixed none (.seq (pZ [0,20,6,10,16,26,30,36,40]) (.alt 9 (.seq (pZ [50,55,60,67,73,75]) .done) 13 (.seq (pZ [47,50,55,60,73,75]) .done))) kR kR ?_;intro av i;have bf:∀ ao,¬ AN none ao:=fun ao bc=>by obtain ⟨x,be,_⟩:=bc;cases be
  have a8:∀ w',Sr none av w'->AK w' a' 0 [.slice a1 n1 c1,.slice a2 n2 c2,.slice a3 n3 c3,.slice a4 n4 c4]:=Sr.cells (a6.ext (xt p i)).cells (bf _);refine C9 kR (k:=3) a8 rfl<|pI (h4.ext (xt (xt (xt ac q) p) i)) 0 rfl hz ?_;intro ce cx cp br;have bm:∀ w',Sr none av w'->AK w' ce (cx+0 * 1) [.string z]:=Sr.cells br (bf _);refine FO kR bm rfl<|C9 kR (k:=3) a8 rfl<|pI (h4.ext (xt (xt (xt ac q) p) i)) 0 rfl hz ?_;intro cf cy cq bt;have bn:∀ w',Sr none av w'->AK w' cf (cy+0 * 1) [.string z]:=Sr.cells bt (bf _);refine FO kR bn rfl<|DX.mk ?_ ?_
  .refine (bb _).mono ?_;rintro _ c0 ⟨r,ag,af,rfl,bg,j⟩;exact ⟨AU j,jN (z := .agg #[.slice none 0 0]) fun ah cz ar cv o a0=>⟨AU (xt j o),jS (vs:=[Value.slice r ag af]) a0 rfl rfl (by simp [AE]) fun ae y bx=>iT<|jA (n:=3) (a5.ext (xb (xt (xt (xt (xt q p) i) j) o) y.but (nB (xt (xt (xt q p) i) j) ar))).cells rfl<|jS (vs:=[Value.slice a n c,Value.slice b m d,Value.string s]) (a7.ext (xb (xt (xt i j) o) y.but (nB (xt i j) ar))) rfl rfl (by simp [AE]) fun bv cg b6=>AP (jR (n:=3) rfl b6.cells) ⟨_,_,_,rfl,om,(((((((ac.mod.trans q.mod).trans p.mod).trans i.mod).trans j.mod).trans o.mod).trans_new y.but (fun k an=>Nat.le_trans (Below.size (xt (xt (xt (xt ac q) p) i) j)) (Nat.le_trans ar (Nat.le_of_eq an.symm)))).trans_new cg.but (fun k an=>Nat.le_trans (Below.size (xt ac q)) (Nat.le_trans ck (Nat.le_of_eq an.symm))))⟩⟩⟩
  .refine jN (z := .agg #[.slice none 0 0]) fun ah cz ar cv o a0=>⟨AU o,(bb _).mono ?_⟩;rintro _ c0 ⟨r,ag,af,rfl,bg,j⟩;exact ⟨AU (xt o j),jS (vs:=[Value.slice r ag af]) (a0.ext j) rfl rfl (by simp [AE]) fun ae y bx=>iT<|jA (n:=3) (a5.ext (xb (xt (xt (xt (xt q p) i) o) j) y.but (nB (xt (xt q p) i) ar))).cells rfl<|jS (vs:=[Value.slice a n c,Value.slice b m d,Value.string s]) (a7.ext (xb (xt (xt i o) j) y.but (nB i ar))) rfl rfl (by simp [AE]) fun bv cg b6=>AP (jR (n:=3) rfl b6.cells) ⟨_,_,_,rfl,om,(((((((ac.mod.trans q.mod).trans p.mod).trans i.mod).trans o.mod).trans j.mod).trans_new y.but (fun k an=>Nat.le_trans (Below.size (xt (xt (xt ac q) p) i)) (Nat.le_trans ar (Nat.le_of_eq an.symm)))).trans_new cg.but (fun k an=>Nat.le_trans (Below.size (xt ac q)) (Nat.le_trans ck (Nat.le_of_eq an.symm))))⟩⟩
end Go.Proofs.YtalgenmoljcnmaaGreatDoor
