/- Parts of the proof; no conditions of its own. -/
import Derived.Test.YtalgenmoljcnmaaGreatDoorFew
import Derived.Test.YtalgenmoljcnmaaGreatDoorKeyW
import Derived.Test.YtalgenmoljcnmaaGreatDoorDesks
import Derived.Test.YtalgenmoljcnmaaGreatDoorSortM
import Derived.Test.YtalgenmoljcnmaaGreatDoorStab
import Derived.Test.YtalgenmoljcnmaaGreatDoorFTotal
import Derived.Test.YtalgenmoljcnmaaGreatDoorCardW
import Derived.Test.YtalgenmoljcnmaaGreatDoorVcWrite
namespace Go.Proofs.YtalgenmoljcnmaaGreatDoor
open Go Go.RowKit Go.Vc Go.M
variable {w:World} {xs:List Int}
theorem KY {a:Option Addr} {n c:Nat} (h:A4 eI 1 w a n xs) (hn:n<=1000000) :
  Dq 231 [.slice a n c] w (fun v w'=>∃ (a':Option Addr) (c':Nat),v = .slice a' n c'/\An eI 1 w.heap.size 2 w' a' n c' xs/\AD w w'):=by
 refine oV Tryz.func231 ?_;refine bS B3 (vs:=[]) ?_;intro k p g o b e;have d:=Ag (enc:=eI) AI e g;exact D0 (enc:=eI) B3 AI d (h.ext b) (by intro r _;simp [eI,AM]) om om (Below.size b) fun j l q f i m=>⟨_,_,rfl,f,(xm b i (AQ d.new))⟩
theorem Ek {b o:Nat} {d:Hd} (hc:AK w b o (eH d)) (h:A4 eI 1 w d.a d.n xs) (hn:d.n<=1000) :
  Dq 161 [.pointer (some ⟨b,o,none⟩)] w (fun v w'=>∃ (a':Option Addr) (c':Nat),v = .agg #[.slice a' d.n c']/\An eI 1 w.heap.size 2 w' a' d.n c' xs/\AD w w'):=by
 obtain ⟨t,p,u⟩:=d;simp only at h hn;refine oV Tryz.func161 ?_;refine jN (z := .agg #[.slice none 0 0]) ?_;intro s x q r c i;refine jL (hc.ext c) (k:=0) rfl<|(KY (h.ext c) om).mono ?_;rintro _ y ⟨l,m,rfl,e,g⟩;exact AB.build KS rfl<|jS (vs:=[Value.slice l p m]) (i.ext g) rfl rfl (by simp [AM]) fun aa f j=>AO (jR (n:=1) rfl j.cells) ⟨_,_,rfl,((e.mod f.but (Gy e.new r (Nat.le_refl _))).base (Below.size c)),(xb (xt c g) f.but q)⟩
end Go.Proofs.YtalgenmoljcnmaaGreatDoor
namespace Go.M
open Go Go.Vc
variable {X:List (List (List Int))} {m k:Nat} {f:AE}
theorem Om (h:Aq X m=true):1<=AG X/\AG X<=20:=by
 have g:=A8 h;have j:∀ X:List (List (List Int)),(∀ b∈X,∀ a∈b,FA a=true)->1<=AG X/\AG X<=20:=by
  intro X;induction X with
  | nil=>intro _;simp [AG]
  | cons k l i =>
   intro d;cases k with
   | nil=>exact i fun b c=>d b (List.mem_cons_of_mem _ c)
   | cons a e =>
    have:=Bp (d (a :: e) sI a sI);exact ⟨this.1,this.2.1⟩
 exact j X fun b c a f=>((g.2.2 b c).2 a f).1
theorem Np (h:Aq X m=true) (hf:AR f (AG X)=true) (hw:AG X<=20):AR f (AJ (X.getD k []))=true:=by
 have b:=Jk h k;cases d:X.getD k [] with
 | nil =>
  have:=Bc hf;unfold AR AJ;simp;omega
 | cons a c =>
  rw [d] at b;have:AJ (a :: c)=AG X:=(b.2 a sI).2;rw [this];exact hf
theorem Xz (h:Aq X m=true) (hf:Ah f (AG X)=true) (hw:AG X<=20):Ah f (AJ (X.getD k []))=true:=by
 simp only [Ah,Bool.and_eq_true] at hf ⊢;exact ⟨Np h hf.1 hw,hf.2⟩
theorem Vx (h:Aq X m=true) (k:Nat):A2 (X.getD k [])=true:=JE (Jk h k).1 (Jk h k).2
theorem P8 {x:ET} {width:Int} (h:EP x width=true):(1<=width/\width<=20)/\(1<=x.kind/\x.kind<=7)/\(0<=x.a/\x.a<=5)/\(0<=x.b/\x.b<=5)/\(0<=x.dst/\x.dst<=5)/\AR x.field width=true/\(x.kind=7->Ah x.sum width=true):=by
 unfold EP at h;split at h
 .cases h
 rename_i c;split at h
 .cases h
 rename_i d;split at h
 .cases h
 rename_i e;simp only [not_or,Bool.not_eq_false] at c d e;refine ⟨Bx c.1,Bx c.2.1,Bx c.2.2.1,Bx c.2.2.2.1,Bx c.2.2.2.2,d.2.2,fun f=>?_⟩;have:=e.1;simp only [f,true_and,Bool.not_eq_false] at this;exact this
end Go.M
namespace Go.Proofs.YtalgenmoljcnmaaGreatDoor
open Go Go.RowKit Go.Vc Go.M
variable {w w':World} {lo hi n c m d:Nat} {a b:Option Addr} {X:List (List (List Int))} {Y:List (List AT)} {st:ET}
theorem Gj.desk (h:Gj w lo hi a n c b m d X Y):n<=c/\m<=d/\Ct w lo hi a n b m X Y:=by
 obtain ⟨g,i,e,f,j⟩:=h;exact ⟨e.le.1,f.le.1,_,_,g,i,e.own.imp (fun _ _ _ h=>OG.os h),f.own,j⟩
theorem Gj.ext (h:Gj w lo hi a n c b m d X Y) (e:AD w w'):Gj w' lo hi a n c b m d X Y:=by
 obtain ⟨f,g,i,j,k⟩:=h;exact ⟨f,g,i.ext e,j.ext e,k⟩
theorem Gj.but {q:Nat} (h:Gj w lo hi a n c b m d X Y) (e:But q w w') (hq:q<lo\/hi<=q):Gj w' lo hi a n c b m d X Y:=by
 obtain ⟨i,j,k,l,o⟩:=h;have p:∀ f∈i++j,f≠q:=fun f g=>by have:=o.2 f g;omega
 exact ⟨i,j,k.keep fun f g=>e.block f (p f (List.mem_append_left _ g)) (k.lt f g),l.keep fun f g=>e.block f (p f (List.mem_append_right _ g)) (l.lt f g),o⟩
theorem WH (h:Ac CA w a n X) (h2:Ac FB w b m Y) (ho:Aq X m=true) (hY:∀ y∈Y,y.length<=1048576) (hx:st.ok) :
  Dq 225 [.agg #[.slice a n c,.slice b m d],.agg ⟨st.enc⟩] w (fun v w'=>∃ a' n' c' b' m' d',v = .tuple #[.agg #[.slice a' n' c',.slice b' m' d'],.int .i64 (Ap X Y (AG X) st).2] /\
   ((Ap X Y (AG X) st).2=0->n'<=c'/\m'<=d'/\Ct w' w.heap.size w'.heap.size a' n' b' m' (Ap X Y (AG X) st).1.1 (Ap X Y (AG X) st).1.2)/\AD w w'):=by
 have fz:=h.len;have fy:=h2.len;have c3:=A8 ho;have fo:=c3.1;have eh:∀ du∈X,du.length<=1000/\∀ y∈du,y.length<=1000:=fun y b8=>⟨by have:=(c3.2.2 y b8).1;omega,fun e6 ew=>by have:=(Bp ((c3.2.2 y b8).2 e6 ew).1).2.1;omega⟩;have b7:∀ ac,AD w ac->Dq 84 [.agg #[.slice a n c,.slice b m d]] ac (fun v w'=>∃ a' c' b' d',v = .agg #[.slice a' n c',.slice b' m d']/\Gj w' ac.heap.size w'.heap.size a' n c' b' m d' X Y/\AD ac w'):=fun ac ai=>Ko (h.ext ai) (h2.ext ai) om om eh hY;have bh:∀ ac,AD w ac->Dq 123 [.agg #[.slice a n c,.slice b m d]] ac (fun v w'=>v = .int .i64 (AG X)/\AD ac w'):=fun ac ai=>H5 (h.ext ai);have bi:∀ ac,BH (AG X)->Dq 286 [.agg ⟨st.enc⟩,.int .i64 (AG X)] ac (fun v w'=>v = .bool (EP st (AG X))/\AD ac w'):=fun ac em=>Q4 hx em ac;have f3:=Om ho;have bj:BH (AG X):=by unfold BH;omega
 have f0:n=6:=om
 cases bd:EP st (AG X)
 .have an:Ap X Y (AG X) st=(([],[]),2):=by unfold Ap;rw [if_pos bd]
  rw [an];refine oV Tryz.func225 ?_;conv=>whnf
  refine AB.box ?_;intro fj gb fn f5 cq d0;(conv=>whnf);refine AB.box ?_;intro bn b2 bp bu s ad;(conv=>whnf);refine jN (z := .agg #[.slice none 0 0,.slice none 0 0]) ?_;intro bo b3 bf bv q ab;(conv=>whnf);refine dH (pB [0,3,5,7,9,11]) ?_;(conv=>whnf);intro bz i;(conv=>whnf);refine dA (n:=9) (ad.ext q).cells rfl ?_;(conv=>whnf);refine jA (n:=2) (d0.ext (xt (xt s q) i)).cells rfl ?_;(conv=>whnf);refine ⟨i,?_⟩;(conv=>whnf);refine dM (bh _ (xt (xt (xt cq s) q) i)) fun f8 e=>?_;(conv=>whnf);refine ⟨(xt i e),?_⟩;(conv=>whnf);refine dM (bi _ bj) fun f9 co=>?_;(conv=>whnf);refine ⟨(xt (xt i e) co),?_⟩;(conv=>whnf);refine iT ?_;(conv=>whnf);refine AB.build Oe rfl ?_;(conv=>whnf);refine jS (vs:=[Value.slice none 0 0,Value.slice none 0 0]) (ab.ext (xt (xt i e) co)) rfl rfl cE ?_;intro ae d7 dv;(conv=>whnf);refine AO (jR (n:=2) rfl dv.cells) ?_;(conv=>whnf);exact ⟨_,_,_,_,_,_,rfl,om,(xb (xt (xt (xt (xt (xt cq s) q) i) e) co) d7.but (nB (xt cq s) bf))⟩
 .obtain ⟨f2,fw,fq,fr,fv,c0,eq⟩:=P8 bd;have bb:st.kind≠7->∀ ac,AD w ac->Dq 288 [.agg #[.slice a n c,.slice b m d],.agg ⟨st.enc⟩] ac (fun v w'=>∃ a' m' c',v = .tuple #[.slice a' m' c',.int .i64 (Be (X.getD st.a.toNat []) (X.getD st.b.toNat []) st).2] /\
   ((Be (X.getD st.a.toNat []) (X.getD st.b.toNat []) st).2=0->m'<=c'/\Dl Aw w' ac.heap.size w'.heap.size a' m' 144 (Be (X.getD st.a.toNat []) (X.getD st.b.toNat []) st).1)/\AD ac w'):=fun fp ac ai=>WI (h.ext ai) hx om om om
  by_cases ax:st.kind=7
  .by_cases c1:Y.length=20
   .have an:Ap X Y (AG X) st=(([],[]),5):=by unfold Ap;rw [if_neg (by simp [bd]),if_pos ⟨ax,c1⟩]
    rw [an];refine oV Tryz.func225 ?_;conv=>whnf
    refine AB.box ?_;intro bn b2 bp bu s ad;(conv=>whnf);refine AB.box ?_;intro bo b3 bf bv q ab;(conv=>whnf);refine jN (z := .agg #[.slice none 0 0,.slice none 0 0]) ?_;intro ah bz ba b9 i ar;(conv=>whnf);refine dH (pB [0,3,5,7,9,11]) ?_;(conv=>whnf);intro ca e;(conv=>whnf);refine dA (n:=9) (ab.ext i).cells rfl ?_;(conv=>whnf);refine jA (n:=2) (ad.ext (xt (xt q i) e)).cells rfl ?_;(conv=>whnf);refine ⟨e,?_⟩;(conv=>whnf);refine dM (bh _ (xt (xt (xt s q) i) e)) fun cb j=>?_;(conv=>whnf);refine ⟨(xt e j),?_⟩;(conv=>whnf);refine dM (bi _ bj) fun ae o=>?_;(conv=>whnf);refine ⟨(xt (xt e j) o),?_⟩;(conv=>whnf);refine iF ?_;(conv=>whnf);refine jL (ab.ext (xt (xt (xt i e) j) o)).cells (k:=0) rfl ?_;(conv=>whnf);refine iY ?_;(conv=>whnf);refine jL (ad.ext (xt (xt (xt (xt q i) e) j) o)).cells (k:=1) rfl ?_;(conv=>whnf);refine iY ?_;(conv=>whnf);refine AB.build Oe rfl ?_;(conv=>whnf);refine jS (vs:=[Value.slice none 0 0,Value.slice none 0 0]) (ar.ext (xt (xt e j) o)) rfl rfl cE ?_;intro f' d8 dw;(conv=>whnf);refine AO (jR (n:=2) rfl dw.cells) ?_;(conv=>whnf);exact ⟨_,_,_,_,_,_,rfl,om,(xb (xt (xt (xt (xt (xt s q) i) e) j) o) d8.but (nB (xt s q) ba))⟩
   .have dj:=Vx ho st.a.toNat;have dk:=Np (k:=st.a.toNat) ho c0 om;have dl:=Xz (k:=st.a.toNat) ho (eq ax) om;have ec:=h;obtain ⟨er,cv,ef⟩:=ec;have fx:=cv.len;obtain ⟨cn,cz⟩:=AA (l:=er) (k:=st.a.toNat) om;obtain ⟨ao,ed,RA⟩:=ef.get cz;have c2:X.getD st.a.toNat []=ao:=Af ed;rw [c2] at dj dk dl;have cu:∀ ac,AD w ac->Dq 287 [.slice cn.a cn.n cn.c,.agg ⟨st.field.enc⟩,.agg ⟨st.sum.enc⟩] ac (fun v w'=>∃ a' m c',v = .tuple #[.slice a' m c',.int .i64 (A5 ao st.field st.sum).2]/\((A5 ao st.field st.sum).2=0->Ab ac.heap.size a'/\m<=c'/\m<=40/\Bs AT.enc w' a' m 237 (A5 ao st.field st.sum).1)/\AD ac w'):=fun ac ai=>SS (RA.1.ext ai) RA.2 dj dk dl;by_cases a4:(A5 ao st.field st.sum).2=0
    .have an:Ap X Y (AG X) st=((X,Y++[(A5 ao st.field st.sum).1]),0):=by
      unfold Ap;rw [if_neg (by simp [bd]),if_neg (fun h=>c1 h.2),if_pos ax,c2,if_neg (by simp [a4])]
     rw [an];rw [a4] at cu;refine oV Tryz.func225 ?_;conv=>whnf
     refine AB.box ?_;intro bn b2 bp bu s ad;(conv=>whnf);refine AB.box ?_;intro bo b3 bf bv q ab;(conv=>whnf);refine jN (z := .agg #[.slice none 0 0,.slice none 0 0]) ?_;intro ah bz ba b9 i ar;(conv=>whnf);refine dH (pB [0,3,5,7,9,11]) ?_;(conv=>whnf);intro ca e;(conv=>whnf);refine dA (n:=9) (ab.ext i).cells rfl ?_;(conv=>whnf);refine jA (n:=2) (ad.ext (xt (xt q i) e)).cells rfl ?_;(conv=>whnf);refine ⟨e,?_⟩;(conv=>whnf);refine dM (bh _ (xt (xt (xt s q) i) e)) fun cb j=>?_;(conv=>whnf);refine ⟨(xt e j),?_⟩;(conv=>whnf);refine dM (bi _ bj) fun ae o=>?_;(conv=>whnf);refine ⟨(xt (xt e j) o),?_⟩;(conv=>whnf);refine iF ?_;(conv=>whnf);refine jL (ab.ext (xt (xt (xt i e) j) o)).cells (k:=0) rfl ?_;(conv=>whnf);refine iY ?_;(conv=>whnf);refine jL (ad.ext (xt (xt (xt (xt q i) e) j) o)).cells (k:=1) rfl ?_;(conv=>whnf);refine iN ?_;(conv=>whnf);refine jA (n:=2) (ad.ext (xt (xt (xt (xt q i) e) j) o)).cells rfl ?_;(conv=>whnf);refine (b7 _ (xt (xt (xt (xt (xt s q) i) e) j) o)).mono ?_;rintro _ aq ⟨ak,al,ap,a0,rfl,bx,p⟩;(conv=>whnf);refine jN (z := .agg #[.slice none 0 0,.slice none 0 0]) ?_;intro av dd aa c9 u a6;(conv=>whnf);refine jS (vs:=[Value.slice ak n al,Value.slice ap m a0]) a6 rfl rfl cE ?_;intro a5 t az;(conv=>whnf);refine jL (ab.ext (xb (xt (xt (xt (xt (xt i e) j) o) p) u) t.but (nB (xt (xt (xt (xt i e) j) o) p) aa))).cells (k:=0) rfl ?_;(conv=>whnf);refine iY ?_;(conv=>whnf);refine dH (pB [0,2,4,6,8,10,12,14,17,19,21,23,24,26,29,31]) ?_;(conv=>whnf);intro dt ag;(conv=>whnf);refine dL (ad.ext (xb (xt (xt (xt (xt (xt (xt q i) e) j) o) p) u) t.but (nB (xt (xt (xt (xt (xt q i) e) j) o) p) aa))).cells (k:=0) rfl ?_;(conv=>whnf);refine dL (ab.ext (xb (xt (xt (xt (xt (xt i e) j) o) p) u) t.but (nB (xt (xt (xt (xt i e) j) o) p) aa))).cells (k:=1) rfl ?_;(conv=>whnf);have c8:=cz;refine dI (cv.ext (xb (xt (xt (xt (xt (xt (xt (xt s q) i) e) j) o) p) u) t.but (nB (xt (xt (xt (xt (xt (xt s q) i) e) j) o) p) aa))) (st.a).toNat om c8 ?_;intro d6 e1 ei cx;(conv=>whnf);refine dO cx rfl ?_;(conv=>whnf);refine D5 (n:=2) kR (k:=4) (ab.ext (xb (xt (xt (xt (xt (xt i e) j) o) p) u) t.but (nB (xt (xt (xt (xt i e) j) o) p) aa))).cells rfl ?_;(conv=>whnf);refine jG (n:=2) (k:=6) (ab.ext (xt (xb (xt (xt (xt (xt (xt i e) j) o) p) u) t.but (nB (xt (xt (xt (xt i e) j) o) p) aa)) ag)).cells rfl ?_;(conv=>whnf);refine ⟨ag,?_⟩;(conv=>whnf);refine (cu _ (xt (xb (xt (xt (xt (xt (xt (xt (xt s q) i) e) j) o) p) u) t.but (nB (xt (xt (xt (xt (xt (xt s q) i) e) j) o) p) aa)) ag)).mono ?_;rintro _ e4 ⟨a7,da,cl,rfl,ds,a1⟩;(conv=>whnf);refine ⟨(xt ag a1),?_⟩;(conv=>whnf);refine jL (az.ext (xt ag a1)).cells (k:=1) rfl ?_;(conv=>whnf);refine bS Le (vs:=[Value.slice a7 da cl]) ?_;intro fi b0 fm f4 cp cf;(conv=>whnf);obtain ⟨a9,bg,be,au,bc⟩:=bx;obtain ⟨db,dc,bw⟩:=List.nodup_append.1 bc.1;have a2:=be.lt;have a3:=au.lt;have bk:AD w ae:=xt (xt (xt (xt (xt s q) i) e) j) o;have bl:AD w aq:=xt bk p;have ch:AD w a5:=xb (xt bl u) t.but (by have:=bl.size;omega);have e9:=bk.size;have fe:=s.size;have ff:=q.size;have e7:=i.size;have e8:=Below.size (xt (xt e j) o);have e':=p.size;have fa:=u.size;have fb:=t.but.size;have cd:B8 a5 ah [.slice none 0 0,.slice none 0 0] 34:=(ar.ext (xt (xt (xt (xt e j) o) p) u)).mod t.but (fun h=>by have h:ah=av:=h;omega);have bt:∀ g∈bg,ae.heap.size<=g:=fun g r=>(bc.2 g (List.mem_append_right _ r)).1;have br:∀ g∈a9,ae.heap.size<=g:=fun g r=>(bc.2 g (List.mem_append_left _ r)).1;obtain ⟨d3,ey,f6,d4⟩:=ds rfl;have b4:AD a5 b0:=xt (xt ag a1) cp;have gd:=ag.size;have gf:=a1.size;have gg:=cp.size;have bq:∀ g,g<aq.heap.size->b0.heap[g]? = aq.heap[g]? := fun g r=>by
      rw [b4.block g om,t.block g om,u.block g r]
     have dm:∀ g∈BW a7,dt.heap.size<=g:=fun g r=>by
      obtain ⟨y,b8,rfl⟩:=Az.1 r;exact d3 y b8
     have el:(BW a7).Nodup:=by cases a7<;>simp [BW]
     have ej:ae.heap.size<=b0.heap.size:=om
     refine Co Le rfl (au.keep fun g r=>bq g (a3 g r)) dc ej (d:=⟨a7,da,cl⟩) (x:=(A5 ao st.field st.sum).1) (f:=BW a7) (FR (d4.ext cp) ey) el (fun g r c0=>by have:=dm g r;have:=a3 g c0;omega) cf.cells om om ?_;intro ck cm e5 cs de e0 e3 bm;have cw:∀ g,AL ap g->g<aq.heap.size/\ae.heap.size<=g:=fun g r=>⟨a3 g (au.blk g r),bt g (au.blk g r)⟩;have ee:=(az.ext b4).mod bm (fun h=>by have:=cw av h;omega);have gh:=bm.size;have d1:AD w b0:=xt ch b4;have d2:AD w e5:=xm d1 bm (fun g r=>by have:=cw g r;omega);(conv=>whnf);refine jT ee (k:=1) sI rfl ?_;intro b1 am dz;have ce:B8 b1 ah [.slice none 0 0,.slice none 0 0] 34:=((cd.ext b4).mod bm (fun h=>by have:=cw ah h;omega)).mod am.but (fun h=>by have h:ah=av:=h;omega);(conv=>whnf);refine jA (n:=2) dz.cells rfl ?_;(conv=>whnf);refine AX (vs:=[Value.slice ak n al,Value.slice ck (m+1) cm]) kR ce rfl rfl cE ?_;intro ay aw cg;(conv=>whnf);refine AO (jR (n:=2) rfl cg.cells) ?_;(conv=>whnf);have ci:AD w b1:=xb d2 am.but om;have cj:AD w ay:=xb ci aw.but om;have fc:=am.but.size;have fd:=aw.but.size;have eo:=de.lt;have c6:∀ g∈cs,ae.heap.size<=g/\g≠av/\g∉a9:=fun g r=>by
      rcases e3 g r with af | af | af
      .exact ⟨bt g af,by have:=a3 g af;omega,fun h=>bw g h g af rfl⟩
      .have:=dm g af;exact ⟨om,om,fun h=>by have:=a2 g h;omega⟩
      .exact ⟨om,om,fun h=>by have:=a2 g h;omega⟩
     have b5:CH (OG Aw 144) ae.heap.size 78 ay ak n al X a9:=be.keep fun g r=>by
      have af:=a2 g r;have h2:=br g r;rw [aw.block g om,am.block g om,bm.block g (fun h=>bw g r g (au.blk g h) rfl) om,bq g af]
     have b6:CH En ae.heap.size 161 ay ck (m+1) cm (Y++[(A5 ao st.field st.sum).1]) cs:=de.keep fun g r=>by
      have h2:=c6 g r;rw [aw.block g om,am.block g h2.2.1]
     have bb:n<=al/\m+1<=cm/\Ct ay w.heap.size ay.heap.size ak n ck (m+1) X (Y++[(A5 ao st.field st.sum).1]):=⟨b5.le.1,b6.le.1,_,_,a9,cs,b5.own.imp (fun _ _ _ h=>OG.os h),b6.own,List.nodup_append.2 ⟨db,e0,fun dp c4 dq c5 ai=>(c6 dq c5).2.2 (ai▸c4)⟩,fun g r=>by
      rcases List.mem_append.1 r with r | r
      .have:=a2 g r;have:=br g r;omega
      .have:=eo g r;have:=c6 g r;omega⟩
     exact ⟨_,_,_,_,_,_,rfl,fun _=>bb,cj⟩
    .have an:Ap X Y (AG X) st=(([],[]),(A5 ao st.field st.sum).2):=by
      unfold Ap;rw [if_neg (by simp [bd]),if_neg (fun h=>c1 h.2),if_pos ax,c2,if_pos a4]
     rw [an];refine oV Tryz.func225 ?_;conv=>whnf
     refine AB.box ?_;intro bn b2 bp bu s ad;(conv=>whnf);refine AB.box ?_;intro bo b3 bf bv q ab;(conv=>whnf);refine jN (z := .agg #[.slice none 0 0,.slice none 0 0]) ?_;intro ah bz ba b9 i ar;(conv=>whnf);refine dH (pB [0,3,5,7,9,11]) ?_;(conv=>whnf);intro ca e;(conv=>whnf);refine dA (n:=9) (ab.ext i).cells rfl ?_;(conv=>whnf);refine jA (n:=2) (ad.ext (xt (xt q i) e)).cells rfl ?_;(conv=>whnf);refine ⟨e,?_⟩;(conv=>whnf);refine dM (bh _ (xt (xt (xt s q) i) e)) fun cb j=>?_;(conv=>whnf);refine ⟨(xt e j),?_⟩;(conv=>whnf);refine dM (bi _ bj) fun ae o=>?_;(conv=>whnf);refine ⟨(xt (xt e j) o),?_⟩;(conv=>whnf);refine iF ?_;(conv=>whnf);refine jL (ab.ext (xt (xt (xt i e) j) o)).cells (k:=0) rfl ?_;(conv=>whnf);refine iY ?_;(conv=>whnf);refine jL (ad.ext (xt (xt (xt (xt q i) e) j) o)).cells (k:=1) rfl ?_;(conv=>whnf);refine iN ?_;(conv=>whnf);refine jA (n:=2) (ad.ext (xt (xt (xt (xt q i) e) j) o)).cells rfl ?_;(conv=>whnf);refine (b7 _ (xt (xt (xt (xt (xt s q) i) e) j) o)).mono ?_;rintro _ aq ⟨ak,al,ap,a0,rfl,bx,p⟩;(conv=>whnf);refine jN (z := .agg #[.slice none 0 0,.slice none 0 0]) ?_;intro av dd aa c9 u a6;(conv=>whnf);refine jS (vs:=[Value.slice ak n al,Value.slice ap m a0]) a6 rfl rfl cE ?_;intro a5 t az;(conv=>whnf);refine jL (ab.ext (xb (xt (xt (xt (xt (xt i e) j) o) p) u) t.but (nB (xt (xt (xt (xt i e) j) o) p) aa))).cells (k:=0) rfl ?_;(conv=>whnf);refine iY ?_;(conv=>whnf);refine dH (pB [0,2,4,6,8,10,12,14,17,19,21,23,24,26,29,31]) ?_;(conv=>whnf);intro dt ag;(conv=>whnf);refine dL (ad.ext (xb (xt (xt (xt (xt (xt (xt q i) e) j) o) p) u) t.but (nB (xt (xt (xt (xt (xt q i) e) j) o) p) aa))).cells (k:=0) rfl ?_;(conv=>whnf);refine dL (ab.ext (xb (xt (xt (xt (xt (xt i e) j) o) p) u) t.but (nB (xt (xt (xt (xt i e) j) o) p) aa))).cells (k:=1) rfl ?_;(conv=>whnf);have c8:=cz;refine dI (cv.ext (xb (xt (xt (xt (xt (xt (xt (xt s q) i) e) j) o) p) u) t.but (nB (xt (xt (xt (xt (xt (xt s q) i) e) j) o) p) aa))) (st.a).toNat om c8 ?_;intro d6 e1 ei cx;(conv=>whnf);refine dO cx rfl ?_;(conv=>whnf);refine D5 (n:=2) kR (k:=4) (ab.ext (xb (xt (xt (xt (xt (xt i e) j) o) p) u) t.but (nB (xt (xt (xt (xt i e) j) o) p) aa))).cells rfl ?_;(conv=>whnf);refine jG (n:=2) (k:=6) (ab.ext (xt (xb (xt (xt (xt (xt (xt i e) j) o) p) u) t.but (nB (xt (xt (xt (xt i e) j) o) p) aa)) ag)).cells rfl ?_;(conv=>whnf);refine ⟨ag,?_⟩;(conv=>whnf);refine (cu _ (xt (xb (xt (xt (xt (xt (xt (xt (xt s q) i) e) j) o) p) u) t.but (nB (xt (xt (xt (xt (xt (xt s q) i) e) j) o) p) aa)) ag)).mono ?_;rintro _ e4 ⟨a7,da,cl,rfl,ds,a1⟩;(conv=>whnf);refine ⟨(xt ag a1),?_⟩;(conv=>whnf);refine iT ?_;(conv=>whnf);refine AB.build Oe rfl ?_;(conv=>whnf);refine jS (vs:=[Value.slice none 0 0,Value.slice none 0 0]) (ar.ext (xt (xt (xb (xt (xt (xt (xt e j) o) p) u) t.but (nB (xt (xt (xt e j) o) p) aa)) ag) a1)) rfl rfl cE ?_;intro b0 ea cf;(conv=>whnf);refine AO (jR (n:=2) rfl cf.cells) ?_;(conv=>whnf);exact ⟨_,_,_,_,_,_,rfl,om,(xb (xt (xt (xb (xt (xt (xt (xt (xt (xt (xt s q) i) e) j) o) p) u) t.but (nB (xt (xt (xt (xt (xt (xt s q) i) e) j) o) p) aa)) ag) a1) ea.but (nB (xt s q) ba))⟩
  .have bb:=bb ax;by_cases a4:(Be (X.getD st.a.toNat []) (X.getD st.b.toNat []) st).2=0
   .have an:Ap X Y (AG X) st=((X.set st.dst.toNat (Be (X.getD st.a.toNat []) (X.getD st.b.toNat []) st).1,Y),0):=by
     unfold Ap;rw [if_neg (by simp [bd]),if_neg (fun h=>ax h.1),if_neg ax];exact if_neg (fun h=>h a4)
    rw [an];rw [a4] at bb;refine oV Tryz.func225 ?_;conv=>whnf
    refine AB.box ?_;intro bn b2 bp bu s ad;(conv=>whnf);refine AB.box ?_;intro bo b3 bf bv q ab;(conv=>whnf);refine jN (z := .agg #[.slice none 0 0,.slice none 0 0]) ?_;intro ah bz ba b9 i ar;(conv=>whnf);refine dH (pB [0,3,5,7,9,11]) ?_;(conv=>whnf);intro ca e;(conv=>whnf);refine dA (n:=9) (ab.ext i).cells rfl ?_;(conv=>whnf);refine jA (n:=2) (ad.ext (xt (xt q i) e)).cells rfl ?_;(conv=>whnf);refine ⟨e,?_⟩;(conv=>whnf);refine dM (bh _ (xt (xt (xt s q) i) e)) fun cb j=>?_;(conv=>whnf);refine ⟨(xt e j),?_⟩;(conv=>whnf);refine dM (bi _ bj) fun ae o=>?_;(conv=>whnf);refine ⟨(xt (xt e j) o),?_⟩;(conv=>whnf);refine iF ?_;(conv=>whnf);refine jL (ab.ext (xt (xt (xt i e) j) o)).cells (k:=0) rfl ?_;(conv=>whnf);refine iN ?_;(conv=>whnf);refine jA (n:=2) (ad.ext (xt (xt (xt (xt q i) e) j) o)).cells rfl ?_;(conv=>whnf);refine (b7 _ (xt (xt (xt (xt (xt s q) i) e) j) o)).mono ?_;rintro _ aq ⟨ak,al,ap,a0,rfl,bx,p⟩;(conv=>whnf);refine jN (z := .agg #[.slice none 0 0,.slice none 0 0]) ?_;intro av dd aa c9 u a6;(conv=>whnf);refine jS (vs:=[Value.slice ak n al,Value.slice ap m a0]) a6 rfl rfl cE ?_;intro a5 t az;(conv=>whnf);refine jL (ab.ext (xb (xt (xt (xt (xt (xt i e) j) o) p) u) t.but (nB (xt (xt (xt (xt i e) j) o) p) aa))).cells (k:=0) rfl ?_;(conv=>whnf);refine iN ?_;(conv=>whnf);refine jA (n:=2) (ad.ext (xb (xt (xt (xt (xt (xt (xt q i) e) j) o) p) u) t.but (nB (xt (xt (xt (xt (xt q i) e) j) o) p) aa))).cells rfl ?_;(conv=>whnf);refine jA (n:=9) (ab.ext (xb (xt (xt (xt (xt (xt i e) j) o) p) u) t.but (nB (xt (xt (xt (xt i e) j) o) p) aa))).cells rfl ?_;(conv=>whnf);refine (bb _ (xb (xt (xt (xt (xt (xt (xt (xt s q) i) e) j) o) p) u) t.but (nB (xt (xt (xt (xt (xt (xt s q) i) e) j) o) p) aa))).mono ?_;rintro _ cc ⟨dg,dn,dh,rfl,dr,aj⟩;(conv=>whnf);refine jL (az.ext aj).cells (k:=0) rfl ?_;(conv=>whnf);refine jL (ab.ext (xt (xb (xt (xt (xt (xt (xt i e) j) o) p) u) t.but (nB (xt (xt (xt (xt i e) j) o) p) aa)) aj)).cells (k:=3) rfl ?_;(conv=>whnf);obtain ⟨a9,bg,be,au,bc⟩:=bx;obtain ⟨db,dc,bw⟩:=List.nodup_append.1 bc.1;have a2:=be.lt;have a3:=au.lt;have bk:AD w ae:=xt (xt (xt (xt (xt s q) i) e) j) o;have bl:AD w aq:=xt bk p;have ch:AD w a5:=xb (xt bl u) t.but (by have:=bl.size;omega);have e9:=bk.size;have fe:=s.size;have ff:=q.size;have e7:=i.size;have e8:=Below.size (xt (xt e j) o);have e':=p.size;have fa:=u.size;have fb:=t.but.size;have cd:B8 a5 ah [.slice none 0 0,.slice none 0 0] 34:=(ar.ext (xt (xt (xt (xt e j) o) p) u)).mod t.but (fun h=>by have h:ah=av:=h;omega);have bt:∀ g∈bg,ae.heap.size<=g:=fun g r=>(bc.2 g (List.mem_append_right _ r)).1;have br:∀ g∈a9,ae.heap.size<=g:=fun g r=>(bc.2 g (List.mem_append_left _ r)).1;obtain ⟨ex,eb,eg,ct⟩:=dr rfl;have ge:=aj.size;have bq:∀ g,g<aq.heap.size->cc.heap[g]? = aq.heap[g]? := fun g r=>by
     rw [aj.block g om,t.block g om,u.block g r]
    have d5:DM Gm cc ak n 78 X a9:=(be.keep fun g r=>bq g (a2 g r)).own.imp (fun _ _ _ h=>OG.os h);obtain ⟨gc,es⟩:=AA (l:=X) (k:=st.dst.toNat) om;obtain ⟨a8,fk,fl,ek,cy,fg,fh,f7,fs,f1,ep⟩:=d5.hand db es;subst ek;have ft:=a2 a8 cy;have fu:=br a8 cy;refine jW (sz:=1) st.dst.toNat om om ?_;(conv=>whnf);refine ep _ _ cc ⟨dg,dn,dh⟩ _ eb kR (Vc.BP.refl _ _) ⟨⟨_,eg⟩,ex⟩ ct.1 (fun g r=>.inr fun h=>by have:=(ct.2 g r).1;have:=a2 g h;omega) _ ?_;intro b1 cr am df ez e2;have ce:B8 b1 ah [.slice none 0 0,.slice none 0 0] 34:=(cd.ext aj).mod am.but (fun h=>by have h:ah=a8:=h;omega);have dx:=(az.ext aj).mod am.but (fun h=>by have h:av=a8:=h;omega);(conv=>whnf);refine jA (n:=2) dx.cells rfl ?_;(conv=>whnf);refine AX (vs:=[Value.slice (some ⟨a8,0,none⟩) n al,Value.slice ap m a0]) kR ce rfl rfl cE ?_;intro ay aw cg;(conv=>whnf);refine AO (jR (n:=2) rfl cg.cells) ?_;(conv=>whnf);have ci:AD w b1:=xb (xt ch aj) am.but om;have cj:AD w ay:=xb ci aw.but om;have fc:=am.but.size;have fd:=aw.but.size;have en:=df.lt;have c7:∀ g∈cr,ae.heap.size<=g/\g∉bg:=fun g r=>by
     rcases e2 g r with af | af
     .exact ⟨br g af,fun h=>bw g af g h rfl⟩
     .have:=(ct.2 g af).1;exact ⟨om,fun h=>by have:=a3 g h;omega⟩
    have b5:DM Gm ay (some ⟨a8,0,none⟩) n 78 (X.set st.dst.toNat (Be (X.getD st.a.toNat []) (X.getD st.b.toNat []) st).1) cr:=df.keep fun g r=>aw.block g (by have:=c7 g r;omega);have b6:DM En ay ap m 161 Y bg:=au.own.keep fun g r=>by
     have af:=a3 g r;have h2:=bt g r;rw [aw.block g om,am.block g (fun h=>bw a8 cy g r h.symm),bq g af]
    have et:=be.le.1;have eu:=au.le.1;exact ⟨_,_,_,_,_,_,rfl,fun _=>⟨et,eu,_,_,cr,bg,b5,b6,List.nodup_append.2 ⟨ez,dc,fun dp c4 dq c5 ai=>(c7 dp c4).2 (ai▸c5)⟩,fun g r=>by
     rcases List.mem_append.1 r with r | r
     .have:=en g r;have:=c7 g r;omega
     .have:=a3 g r;have:=bt g r;omega⟩,cj⟩
   .have an:Ap X Y (AG X) st=(([],[]),(Be (X.getD st.a.toNat []) (X.getD st.b.toNat []) st).2):=by
     unfold Ap;rw [if_neg (by simp [bd]),if_neg (fun h=>ax h.1),if_neg ax,if_pos a4]
    rw [an];refine oV Tryz.func225 ?_;conv=>whnf
    refine AB.box ?_;intro bn b2 bp bu s ad;(conv=>whnf);refine AB.box ?_;intro bo b3 bf bv q ab;(conv=>whnf);refine jN (z := .agg #[.slice none 0 0,.slice none 0 0]) ?_;intro ah bz ba b9 i ar;(conv=>whnf);refine dH (pB [0,3,5,7,9,11]) ?_;(conv=>whnf);intro ca e;(conv=>whnf);refine dA (n:=9) (ab.ext i).cells rfl ?_;(conv=>whnf);refine jA (n:=2) (ad.ext (xt (xt q i) e)).cells rfl ?_;(conv=>whnf);refine ⟨e,?_⟩;(conv=>whnf);refine dM (bh _ (xt (xt (xt s q) i) e)) fun cb j=>?_;(conv=>whnf);refine ⟨(xt e j),?_⟩;(conv=>whnf);refine dM (bi _ bj) fun ae o=>?_;(conv=>whnf);refine ⟨(xt (xt e j) o),?_⟩;(conv=>whnf);refine iF ?_;(conv=>whnf);refine jL (ab.ext (xt (xt (xt i e) j) o)).cells (k:=0) rfl ?_;(conv=>whnf);refine iN ?_;(conv=>whnf);refine jA (n:=2) (ad.ext (xt (xt (xt (xt q i) e) j) o)).cells rfl ?_;(conv=>whnf);refine (b7 _ (xt (xt (xt (xt (xt s q) i) e) j) o)).mono ?_;rintro _ aq ⟨ak,al,ap,a0,rfl,bx,p⟩;(conv=>whnf);refine jN (z := .agg #[.slice none 0 0,.slice none 0 0]) ?_;intro av dd aa c9 u a6;(conv=>whnf);refine jS (vs:=[Value.slice ak n al,Value.slice ap m a0]) a6 rfl rfl cE ?_;intro a5 t az;(conv=>whnf);refine jL (ab.ext (xb (xt (xt (xt (xt (xt i e) j) o) p) u) t.but (nB (xt (xt (xt (xt i e) j) o) p) aa))).cells (k:=0) rfl ?_;(conv=>whnf);refine iN ?_;(conv=>whnf);refine jA (n:=2) (ad.ext (xb (xt (xt (xt (xt (xt (xt q i) e) j) o) p) u) t.but (nB (xt (xt (xt (xt (xt q i) e) j) o) p) aa))).cells rfl ?_;(conv=>whnf);refine jA (n:=9) (ab.ext (xb (xt (xt (xt (xt (xt i e) j) o) p) u) t.but (nB (xt (xt (xt (xt i e) j) o) p) aa))).cells rfl ?_;(conv=>whnf);refine (bb _ (xb (xt (xt (xt (xt (xt (xt (xt s q) i) e) j) o) p) u) t.but (nB (xt (xt (xt (xt (xt (xt s q) i) e) j) o) p) aa))).mono ?_;rintro _ cc ⟨dg,dn,dh,rfl,dr,aj⟩;(conv=>whnf);with_reducible refine AW (fun di=>?_) (fun di=>?_)
    ·(conv=>whnf);refine AB.build Oe rfl ?_;(conv=>whnf);refine jS (vs:=[Value.slice none 0 0,Value.slice none 0 0]) (ar.ext (xt (xb (xt (xt (xt (xt e j) o) p) u) t.but (nB (xt (xt (xt e j) o) p) aa)) aj)) rfl rfl cE ?_;intro ga d9 dy;(conv=>whnf);refine AO (jR (n:=2) rfl dy.cells) ?_;(conv=>whnf);exact ⟨_,_,_,_,_,_,rfl,om,(xb (xt (xb (xt (xt (xt (xt (xt (xt (xt s q) i) e) j) o) p) u) t.but (nB (xt (xt (xt (xt (xt (xt s q) i) e) j) o) p) aa)) aj) d9.but (nB (xt s q) ba))⟩
    ·(conv=>whnf);refine jL (az.ext aj).cells (k:=0) rfl ?_;(conv=>whnf);refine jL (ab.ext (xt (xb (xt (xt (xt (xt (xt i e) j) o) p) u) t.but (nB (xt (xt (xt (xt i e) j) o) p) aa)) aj)).cells (k:=3) rfl ?_;(conv=>whnf);exact absurd (by simpa using di) a4
theorem WK (h:Ac CA w a n X) (h2:Ac FB w b m Y) (ho:Aq X m=true) (hY:∀ y∈Y,y.length<=1048576) (hx:st.ok) :
  Dq 152 [.agg #[.slice a n c,.slice b m d],.agg ⟨st.enc⟩] w (fun v w'=>∃ a' n' c' b' m' d',v = .tuple #[.agg #[.slice a' n' c',.slice b' m' d'],.int .i64 (Ap X Y (AG X) st).2] /\
   ((Ap X Y (AG X) st).2=0->n'<=c'/\m'<=d'/\Ct w' w.heap.size w'.heap.size a' n' b' m' (Ap X Y (AG X) st).1.1 (Ap X Y (AG X) st).1.2)/\AD w w'):=by
 have ah:∀ e,AD w e->Dq 66 [.agg #[.slice a n c,.slice b m d]] e (fun v w'=>v = .bool true/\AD e w'):=fun e k=>by
  have:=Gu (c:=c) (m:=m) (b:=b) (d:=d) (h.ext k);rw [ho] at this;exact this
 have ag:∀ e,AD w e->Dq 225 [.agg #[.slice a n c,.slice b m d],.agg ⟨st.enc⟩] e (fun v w'=>∃ a' n' c' b' m' d',v = .tuple #[.agg #[.slice a' n' c',.slice b' m' d'],.int .i64 (Ap X Y (AG X) st).2] /\
   ((Ap X Y (AG X) st).2=0->n'<=c'/\m'<=d'/\Ct w' e.heap.size w'.heap.size a' n' b' m' (Ap X Y (AG X) st).1.1 (Ap X Y (AG X) st).1.2)/\AD e w'):=fun e k=>WH (h.ext k) (h2.ext k) ho hY hx
 refine oV Tryz.func152 ?_;refine AB.box ?_;intro al ax an aq j q;refine AB.box fun am ay ao ar f u=>jN (z := .agg #[.slice none 0 0,.slice none 0 0]) fun ac az af au g x=>jA (n:=2) (q.ext (xt f g)).cells rfl<|dM (ah _ (xt (xt j f) g)) fun a0 i=>jA (n:=2) (q.ext (xt (xt f g) i)).cells rfl<|jA (n:=9) (u.ext (xt g i)).cells rfl<|(ag _ (xt (xt (xt j f) g) i)).mono ?_;rintro _ av ⟨aa,ak,ad,ab,aj,ae,rfl,p,r⟩;refine jS (vs:=[Value.slice aa ak ad,Value.slice ab aj ae]) (x.ext (xt i r)) rfl rfl cE fun aw l t=>AO (jR (n:=2) rfl t.cells) ⟨_,_,_,_,_,_,rfl,?_,(xb (xt (xt (xt (xt j f) g) i) r) l.but (nB (xt j f) af))⟩
 .exact fun o=>⟨(p o).1,(p o).2.1,((p o).2.2.mod l.but (fun ai ap h2 s=>by have s:ai=ac:=s;have:=i.size;omega)).wide (Below.size (xt (xt (xt j f) g) i)) l.but.size⟩
end Go.Proofs.YtalgenmoljcnmaaGreatDoor
namespace Go.M
open Go Go.Vc
theorem Ex {ks:List (List Int)} {i:Nat} {x:List Int} (h:ks[i]? = some x):(ks.map Cf)[i]? = some (Cf x):=by rw [List.getElem?_map,h];rfl
end Go.M
namespace Go.M
section
open Go Go.Vc
variable {c:UInt8} {p:List UInt8}
theorem JI (l:List UInt8):(bs l).data.toList=l:=by simp [bs]
theorem Zo {s:ByteArray} (h:Ei s=true):BV (Ao s)=s:=by
 unfold Ei at h;unfold Ao;cases a:Kf s with
 | none=>rw [a] at h;cases h
 | some b=>exact (Nr a).1.symm
theorem aJ1 {r:List UInt8} (h:c∉p):Lib.cut (p++c :: r) [c]=(p,r,true):=by
 unfold Lib.cut;rw [Lib.index_one,Ha c r p h,if_pos om];simp
theorem aJ0 (h:c∉p):Lib.cut p [c]=(p,[],false):=by
 unfold Lib.cut;rw [Lib.index_one,Jf c p h,if_neg om]
end
end Go.M
namespace Go.M
open Go Go.Vc
theorem ZA {c:UInt8} (s:ByteArray):(bs (Lib.cut s.data.toList [c]).1).size<=s.size/\(bs (Lib.cut s.data.toList [c]).2.1).size<=s.size:=by
 have a:s.data.toList.length=s.size:=sI
 rw [BY,BY];unfold Lib.cut;split
 .simp;omega
 .simp
end Go.M
