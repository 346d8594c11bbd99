/- Parts of the proof; no conditions of its own. -/
import Derived.Test.YtalgenmoljcnmaaGreatDoorCards
import Derived.JoinedOf
import Derived.Test.YtalgenmoljcnmaaGreatDoorTie
import Derived.Test.YtalgenmoljcnmaaGreatDoorRefK
import Derived.Test.YtalgenmoljcnmaaGreatDoorVcApp
import Derived.Test.YtalgenmoljcnmaaGreatDoorOffice
namespace Go.Vc
open Go Go.RowKit
theorem Db.slice {P:Program} {α:Type} {enc:α->List Value} {t sz:Nat} (ht:CL P t=some sz) {S:World->Prop} {w:World} {a:Option Addr} {n c:Nat} {xs:List α} (hA:A4 enc sz w a n xs) (l h:Nat) (hl:l<=h) (hh:h<=n) (hn:n<=c) {lo hi:Option Value} {k k':IntKind} (hlo:(lo=none/\l=0)\/lo=some (.int k l)) (hhi:(hi=none/\h=n)\/hi=some (.int k' h))
  {K:Value->Prop} (hK:∀ a',A4 enc sz w a' (h - l) ((xs.drop l).take (h - l))->K (.slice a' (h - l) (c - l))):Db P S (Instr.sliceAt t (.slice a n c) lo hi none) K :=
 KN (fun b _=>A1 (EF ht hl hh hn hlo hhi b) ⟨rfl,rfl⟩) (hK _ (hA.sub hl hh hn))
end Go.Vc
namespace Go.M
open Go Go.Vc
theorem ZA {l:List ByteArray} {x z:ByteArray} (h:l[0]? = some x):l.headD z=x:=by
 cases l with
 | nil=>cases h
 | cons a b=>simpa using h
theorem Zm (w:ByteArray):(BW w).length<=4:=by
 unfold BW
 repeat' split
 all_goals decide
end Go.M
namespace Go.Proofs.YtalgenmoljcnmaaGreatDoor
open Go Go.RowKit Go.Vc Go.M
theorem Rk:deskWordsM=Go.M.deskWordsM:=by
 unfold deskWordsM;rfl
def aF4 (w w':World) (v:Value) (r:(Bv×List ByteArray)×Int):Prop :=
 ∃ a' n' c' b' m' d' s' al nl cl,v = .tuple #[.agg #[.slice a' n' c',.slice b' m' d',.string s'],.slice al nl cl,.int .i64 r.2] /\
  (r.2=0->s'=r.1.1.s/\n'<=c'/\m'<=d'/\∃ lo hi,w.heap.size<=lo/\hi<=w'.heap.size/\C8 w' lo hi a' n' b' m' r.1.1.X r.1.1.Y/\Ad hi al/\Ad w.heap.size al/\Bw eS w' al nl 9 r.1.2) /\
  (r.2≠0->a'=none/\n'=0/\b'=none/\m'=0/\s'=⟨#[]⟩/\al=none/\nl=0)/\AD w w'
set_option maxHeartbeats 4000000 in
theorem NY {w:World} {a b:Option Addr} {n c m d:Nat} {D:Bv} (h:Ar DM w a n D.X) (h2:Ar LG w b m D.Y) (hs:D.s.size<=1048576) (hY:∀ y∈D.Y,y.length<=1048576) {line:ByteArray} (hl:line.size<=1048576) (hT:F7 w) (hE:EP w) (hM:Dy w) (hN:Ee w) :
  Dq 10 [.agg #[.slice a n c,.slice b m d,.string D.s],.string line] w (fun v w'=>aF4 w w' v (Ez D line)):=by
 have gs:=h.len;have ft:=h2.len;have eh:∀ i,AD w i->Dq 29 [.agg #[.slice a n c,.slice b m d,.string D.s]] i (fun v w'=>v = .bool (Fe D.X m D.s)/\AD i w'):=fun i u=>QB (h.ext u) hs (hT.ext u) (hE.ext u) (hM.ext u);have fo:∀ i,Dy i->Dq 30 [.string line,.string ⟨#[32]⟩] i (fun v w'=>∃ b,v = .slice (some ⟨b,0,none⟩) (Aq 32 line).length (Aq 32 line).length/\i.heap.size<=b/\CD w' b (BD eS (Aq 32 line)) 9/\AD i w'):=fun i fv=>NK om fv;have gw:=Gk 32 line;have gx:=PV 32 line;have en:∀ ac∈Aq 32 line,ac.size<=1048576:=fun ac av=>by have:=D3 av;omega
 have ah:Ez D line=Ez D line:=rfl;conv at ah=>rhs;unfold Ez
 generalize Ez D line=cp at *;generalize gn:Aq 32 line=g at *;obtain ⟨f,em⟩:=AA (l:=g) (k:=0) om;rw [ZA em,ft] at ah;have gu:=Zm f;by_cases c1:Fe D.X m D.s=true
 .rw [if_neg (by simp [c1])] at ah;have dq:Ap D.X m=true:=(Dv.1 c1).1;have gt:=BA dq;have c0:∀ i,AD w i->Dq 36 [.agg #[.slice a n c,.slice b m d,.string D.s]] i (fun v w'=>∃ aa ai ae af aq au,v = .agg #[.slice ae n af,.slice aq m au,.string D.s]/\i.heap.size<=aa/\ai<=w'.heap.size/\GQ w' aa ai ae n af aq m au D.X D.Y/\AD i w'):=fun i u=>Tw (h.ext u) (h2.ext u) dq hY;refine oV Tryz.func10 ?_;conv=>whnf
  refine AB.box ?_;intro cx f4 fj fw bk ct;(conv=>whnf);refine jN (z := .agg #[.slice none 0 0,.slice none 0 0,.string { data := #[] }]) ?_;intro ar f9 fk fy a3 dc;(conv=>whnf);refine jA (n:=3) (ct.ext a3).cells rfl ?_;(conv=>whnf);refine (eh _ (xt bk a3)).mono ?_;rintro _ f' ⟨rfl,bl⟩;rw [c1];(conv=>whnf);refine (fo _ (hM.ext (xt (xt bk a3) bl))).mono ?_;rintro _ g3 ⟨gh,rfl,fl,e6,cz⟩;have e8:=AG (n:=g.length) (enc:=eS) (xs:=g) AQ e6 fl rfl om;have ed:=e8.own.arr AQ;(conv=>whnf);refine jI ed 0 rfl em ?_;intro gi gz gp fp;(conv=>whnf);refine jO fp rfl ?_;(conv=>whnf);refine (QD _).mono ?_;rintro _ g4 ⟨gj,gy,gk,rfl,gl,cf,fb⟩;have e3:=fb.arr AQ;(conv=>whnf);refine (Oc e3 f).mono ?_;rintro _ ea ⟨rfl,cg⟩;rw [Rk];have ee:AD w ea:=xt (xt (xt (xt (xt bk a3) bl) cz) cf) cg;have c9:=ct.ext (xt (xt (xt (xt a3 bl) cz) cf) cg);have cb:=dc.ext (xt (xt (xt bl cz) cf) cg);have e4:=ed.ext (xt cf cg);have ga:=bk.size;have g':=a3.size;have ha:=Below.size (xt (xt (xt bl cz) cf) cg);have ef:∀ (b8 ad:World),AD ea b8->OW ar b8 ad->cp=((LW,[]),7)->aF4 w ad (.tuple #[.agg #[.slice none 0 0,.slice none 0 0,.string ⟨#[]⟩],.slice none 0 0,.int .i64 7]) cp:=by
   intro b8 ad am br a';rw [a'];exact ⟨_,_,_,_,_,_,_,_,_,_,rfl,(fun h=>by cases h),fun _=>⟨rfl,rfl,rfl,rfl,rfl,rfl,rfl⟩,xb (xt ee am) br.but om⟩
  by_cases ci:(Go.M.deskWordsM.any fun ac=>decide (ac=f))=true
  .rw [ci];(conv=>whnf);refine AB.sub ((g.length:Int) - 1) rfl om om ?_;(conv=>whnf);refine (Hp f _).mono ?_;rintro _ b8 ⟨rfl,am⟩;have gv:(bs (BW f)).size=(BW f).length:=AV _;(conv=>whnf);by_cases dp:g.length - 1=(BW f).length
   .rw [if_neg (by simp [ci,dp])] at ah;refine E3 (by simp only [Bool.not_eq_false',decide_eq_true_eq,bne_eq_false_iff_eq];omega) ?_;have e7:AD w b8:=xt ee am;have gq:(g.drop 1).length=g.length - 1:=List.length_drop;have b7:∀ i ae af,AD w i->A4 eS 1 i ae (g.length - 1) (g.drop 1)->Dq 34 [.string (bs (BW f)),.slice ae (g.length - 1) af] i _:=fun i ae af u e2=>RP (c:=af) e2 dp.symm (fun ac av=>en ac (List.mem_of_mem_drop av)) om (hT.ext u) (hE.ext u) (hM.ext u);(conv=>whnf);refine Dn [9] A8 mixed none (.seq (pZ [0,10,16]) (.alt 1 (.alt 4 (.seq (pZ [25,30,35,42,48,50]) .done) 8 (.seq (pZ [22,25,30,35,48,50]) .done)) 8 (.seq (pZ [7,22,25,30,35,48,50]) .done))) kR kR ?_;(conv=>whnf);intro ad a6;have b2:AD w ad:=xt e7 a6;have g5:=am.size;have g6:=a6.size;(conv=>whnf);refine Db.slice kR (e4.ext (xt am a6)) 1 g.length om om om (k' := .i64) (.inr rfl) (.inl ⟨rfl,rfl⟩) ?_;intro gg cs;have fr:(g.drop 1).take (g.length - 1)=g.drop 1:=List.take_of_length_le om;rw [fr] at cs;(conv=>whnf);refine DX.mk ?_ ?_
    focus
     (conv=>whnf);refine (Hp f _).mono ?_;rintro _ es ⟨rfl,r⟩;(conv=>whnf);refine ⟨AU r,?_⟩;(conv=>whnf);refine DX.mk ?_ ?_
     focus
      (conv=>whnf);refine (b7 _ _ _ (xt b2 r) (cs.ext r)).mono ?_;rintro _ cq ⟨be,ba,b3,bf,bb,b4,bg,bc,b5,bh,bd,b6,rfl,aw,ak⟩;(conv=>whnf);refine ⟨AU (xt r ak),?_⟩;(conv=>whnf);refine jN (z := .agg #[.slice none 0 0,.slice none 0 0,.slice none 0 0,.slice none 0 0]) ?_;intro a1 c6 dj ep x bi;(conv=>whnf);refine ⟨AU (xt (xt r ak) x),?_⟩;(conv=>whnf);refine jS (vs:=[.slice be ba b3,.slice bf bb b4,.slice bg bc b5,.slice bh bd b6]) bi rfl rfl (by simp [AE]) ?_;intro q o c7;(conv=>whnf);have eu:=r.size;have ew:=ak.size;have ex:=x.size;have ey:=o.but.size;have aj:AD ad c6:=xt (xt r ak) x;have cw:AD cq q:=xb x o.but dj;have d4:(Bd (BW f) (g.drop 1)).2=0->A4 eI 1 q be ba (Bd (BW f) (g.drop 1)).1.trays/\A4 eI 1 q bf bb (Bd (BW f) (g.drop 1)).1.nums/\A4 AF.enc 2 q bg bc (Bd (BW f) (g.drop 1)).1.fields/\A4 eS 1 q bh bd (Bd (BW f) (g.drop 1)).1.texts:=fun a4=>⟨(aw a4).1.ext cw,(aw a4).2.1.ext cw,(aw a4).2.2.1.ext cw,(aw a4).2.2.2.1.ext cw⟩;have ca:=((c9.ext (xt am a6)).ext aj).mod o.but (fun e=>by have e:cx=a1:=e;omega);have cu:=((cb.ext (xt am a6)).ext aj).mod o.but (fun e=>by have e:ar=a1:=e;omega);have cv:AD w q:=xb (xt b2 aj) o.but om;have et:ad.heap.size<=q.heap.size:=by have:=aj.size;omega
      clear aw bi b7
     rotate_left
     focus
      (conv=>whnf);refine jN (z := .agg #[.slice none 0 0,.slice none 0 0,.slice none 0 0,.slice none 0 0]) ?_;intro a1 c6 dj ep x bi;(conv=>whnf);refine ⟨AU (xt r x),?_⟩;(conv=>whnf);refine (b7 _ _ _ (xt (xt b2 r) x) (cs.ext (xt r x))).mono ?_;rintro _ cq ⟨be,ba,b3,bf,bb,b4,bg,bc,b5,bh,bd,b6,rfl,aw,ak⟩;(conv=>whnf);refine ⟨AU (xt (xt r x) ak),?_⟩;(conv=>whnf);refine jS (vs:=[.slice be ba b3,.slice bf bb b4,.slice bg bc b5,.slice bh bd b6]) (bi.ext ak) rfl rfl (by simp [AE]) ?_;intro q o c7;(conv=>whnf);have eu:=r.size;have ew:=ak.size;have ex:=x.size;have ey:=o.but.size;have aj:AD ad cq:=xt (xt r x) ak;have nB:∀ {ac:Option Addr},Ad c6.heap.size ac->∀ y,ac=some y->¬ y.block=a1:=fun av y t e=>by have:=av y t;omega
      have d4:(Bd (BW f) (g.drop 1)).2=0->A4 eI 1 q be ba (Bd (BW f) (g.drop 1)).1.trays/\A4 eI 1 q bf bb (Bd (BW f) (g.drop 1)).1.nums/\A4 AF.enc 2 q bg bc (Bd (BW f) (g.drop 1)).1.fields/\A4 eS 1 q bh bd (Bd (BW f) (g.drop 1)).1.texts:=fun a4=>by
       obtain ⟨d7,d8,d9,d',du,dv,dw,dx⟩:=aw a4;exact ⟨d7.mod o.but (nB du),d8.mod o.but (nB dv),d9.mod o.but (nB dw),d'.mod o.but (nB dx)⟩
      have ca:=((c9.ext (xt am a6)).ext aj).mod o.but (fun e=>by have e:cx=a1:=e;omega);have cu:=((cb.ext (xt am a6)).ext aj).mod o.but (fun e=>by have e:ar=a1:=e;omega);have cv:AD w q:=xb (xt b2 aj) o.but om;have et:ad.heap.size<=q.heap.size:=by have:=aj.size;omega
      clear aw bi b7
    rotate_left 2
    focus
     (conv=>whnf);refine jN (z := .agg #[.slice none 0 0,.slice none 0 0,.slice none 0 0,.slice none 0 0]) ?_;intro a1 c6 dj ep x bi;(conv=>whnf);refine ⟨AU x,?_⟩;(conv=>whnf);refine (Hp f _).mono ?_;rintro _ es ⟨rfl,r⟩;(conv=>whnf);refine ⟨AU (xt x r),?_⟩;(conv=>whnf);refine (b7 _ _ _ (xt (xt b2 x) r) (cs.ext (xt x r))).mono ?_;rintro _ cq ⟨be,ba,b3,bf,bb,b4,bg,bc,b5,bh,bd,b6,rfl,aw,ak⟩;(conv=>whnf);refine ⟨AU (xt (xt x r) ak),?_⟩;(conv=>whnf);refine jS (vs:=[.slice be ba b3,.slice bf bb b4,.slice bg bc b5,.slice bh bd b6]) (bi.ext (xt r ak)) rfl rfl (by simp [AE]) ?_;intro q o c7;(conv=>whnf);have eu:=r.size;have ew:=ak.size;have ex:=x.size;have ey:=o.but.size;have aj:AD ad cq:=xt (xt x r) ak;have nB:∀ {ac:Option Addr},Ad es.heap.size ac->∀ y,ac=some y->¬ y.block=a1:=fun av y t e=>by have:=av y t;omega
     have d4:(Bd (BW f) (g.drop 1)).2=0->A4 eI 1 q be ba (Bd (BW f) (g.drop 1)).1.trays/\A4 eI 1 q bf bb (Bd (BW f) (g.drop 1)).1.nums/\A4 AF.enc 2 q bg bc (Bd (BW f) (g.drop 1)).1.fields/\A4 eS 1 q bh bd (Bd (BW f) (g.drop 1)).1.texts:=fun a4=>by
      obtain ⟨d7,d8,d9,d',du,dv,dw,dx⟩:=aw a4;exact ⟨d7.mod o.but (nB du),d8.mod o.but (nB dv),d9.mod o.but (nB dw),d'.mod o.but (nB dx)⟩
     have ca:=((c9.ext (xt am a6)).ext aj).mod o.but (fun e=>by have e:cx=a1:=e;omega);have cu:=((cb.ext (xt am a6)).ext aj).mod o.but (fun e=>by have e:ar=a1:=e;omega);have cv:AD w q:=xb (xt b2 aj) o.but om;have et:ad.heap.size<=q.heap.size:=by have:=aj.size;omega
     clear aw bi b7
    all_goals
     by_cases c2:(Bd (BW f) (g.drop 1)).2=0
     .obtain ⟨fc,fd,fe,ff⟩:=d4 c2;obtain ⟨fh,fg,fi⟩:=XU (p:=BW f) (ws:=g.drop 1) om (fun ac av=>en ac (List.mem_of_mem_drop av)) c2;rw [if_neg (fun bv=>bv c2)] at ah;generalize (Bd (BW f) (g.drop 1)).1=ec at *;refine iY ?_;(conv=>whnf);refine Dn [10] A8 mixed none (.seq (pZ [10,1,16]) (.alt 1 (.alt 4 (.seq (pZ [25,30,35,40,47,53,55,60]) .done) 9 (.seq (pZ [22,25,30,35,40,53,55,60]) .done)) 9 (.seq (pZ [7,22,25,30,35,40,53,55,60]) .done))) kR kR ?_;(conv=>whnf);intro an a2;have eq:∀ er,¬ AN none er:=fun er fu=>by obtain ⟨ac,av,_⟩:=fu;cases av
      have bj:AD w an:=xt cv a2;have g7:=a2.size;have dm:∀ i aa ai ae af aq au,AD an i->GQ i aa ai ae n af aq m au D.X D.Y->an.heap.size<=aa->ai<=i.heap.size->Dq 35 [.agg #[.slice ae n af,.slice aq m au,.string D.s],.string f,.agg #[.slice be ba b3,.slice bf bb b4,.slice bg bc b5,.slice bh bd b6]] i (fun v w'=>Jd i w' aa ai v (BC D f ec)):=fun i aa ai ae af aq au u fa gr fs=>NU fa fs dq hs hY (fun g1 e'=>hT.ext (xm (xt bj u) e' (fun dr bx=>by have:=bx.1;have:=bj.size;omega))) (hE.ext (xt bj u)) (hM.ext (xt bj u)) (fc.ext (xt a2 u)) (fd.ext (xt a2 u)) (fe.ext (xt a2 u)) (ff.ext (xt a2 u)) fh fi fg ci;generalize BC D f ec=f3 at *;obtain ⟨⟨dd,e9⟩,c3⟩:=f3;dsimp only at ah;(conv=>whnf);refine Ba (n:=3) kR (Sr.cells (ca.ext a2).cells (eq _)) rfl ?_;(conv=>whnf);refine Ba (n:=4) kR (Sr.cells (c7.ext a2).cells (eq _)) rfl ?_;(conv=>whnf);refine DX.mk ?_ ?_
      focus
       (conv=>whnf);refine (c0 _ bj).mono ?_;rintro _ b0 ⟨aa,ai,ae,af,aq,au,rfl,d6,d5,c5,al⟩;(conv=>whnf);refine ⟨AU al,?_⟩;(conv=>whnf);refine DX.mk ?_ ?_
       focus
        (conv=>whnf);refine (dm _ aa ai ae af aq au al c5 d6 d5).mono ?_;rintro _ ax ⟨bo,bn,bt,bq,bm,bu,bz,cd,dy,eg,rfl,d3,a0⟩;(conv=>whnf);have ao:AD an ax:=xm al a0 (fun dr bx=>by have:=bx.1;omega);refine ⟨AU ao,?_⟩;(conv=>whnf);refine jN (z := .agg #[.slice none 0 0,.slice none 0 0,.string { data := #[] }]) ?_;intro j cr dk ds ag b';(conv=>whnf);refine ⟨AU (xt ao ag),?_⟩;(conv=>whnf);refine jS (vs:=[.slice bo bn bt,.slice bq bm bu,.string bz]) b' rfl rfl (by simp [AE]) ?_;intro ap ce c8;(conv=>whnf);have ez:=al.size;have e0:=ao.size;have e1:=a0.size;have az:BY (fun ab=>ab=j) ax ap:=(AD.mod ag).trans ce.but;have cc:AD an ap:=FN ao az om;have dn:(ai<=j/\j<b0.heap.size)\/ax.heap.size<=j\/(j<aa/\j<b0.heap.size) := .inr (.inl dk);have ek:an.heap.size<=j:=om
        generalize ei:b0=eb at *
       rotate_left
       focus
        (conv=>whnf);refine jN (z := .agg #[.slice none 0 0,.slice none 0 0,.string { data := #[] }]) ?_;intro j cr dk ds ag b';(conv=>whnf);refine ⟨AU (xt al ag),?_⟩;(conv=>whnf);have ez:=al.size;have gb:=ag.size;refine (dm _ aa ai ae af aq au (xt al ag) (c5.ext ag) d6 om).mono ?_;rintro _ ax ⟨bo,bn,bt,bq,bm,bu,bz,cd,dy,eg,rfl,d3,a0⟩;(conv=>whnf);have ao:AD an ax:=xm (xt al ag) a0 (fun dr bx=>by have:=bx.1;omega);refine ⟨AU ao,?_⟩;(conv=>whnf);refine jS (vs:=[.slice bo bn bt,.slice bq bm bu,.string bz]) (b'.mod a0 (fun e=>by have:=e.2;omega)) rfl rfl (by simp [AE]) ?_;intro ap ce c8;(conv=>whnf);have e0:=ao.size;have e1:=a0.size;have az:BY (fun ab=>ab=j) ax ap:=ce.but;have cc:AD an ap:=FN ao az om;have dn:(ai<=j/\j<cr.heap.size)\/ax.heap.size<=j\/(j<aa/\j<cr.heap.size) := .inl ⟨om,ds⟩;have ek:an.heap.size<=j:=om
        generalize ei:cr=eb at *
      rotate_left 2
      focus
       (conv=>whnf);refine jN (z := .agg #[.slice none 0 0,.slice none 0 0,.string { data := #[] }]) ?_;intro j cr dk ds ag b';(conv=>whnf);refine ⟨AU ag,?_⟩;(conv=>whnf);refine (c0 _ (xt bj ag)).mono ?_;rintro _ b0 ⟨aa,ai,ae,af,aq,au,rfl,d6,d5,c5,al⟩;(conv=>whnf);refine ⟨AU (xt ag al),?_⟩;(conv=>whnf);have ez:=al.size;have gb:=ag.size;refine (dm _ aa ai ae af aq au (xt ag al) c5 om d5).mono ?_;rintro _ ax ⟨bo,bn,bt,bq,bm,bu,bz,cd,dy,eg,rfl,d3,a0⟩;(conv=>whnf);have ao:AD an ax:=xm (xt ag al) a0 (fun dr bx=>by have:=bx.1;omega);refine ⟨AU ao,?_⟩;(conv=>whnf);refine jS (vs:=[.slice bo bn bt,.slice bq bm bu,.string bz]) ((b'.ext al).mod a0 (fun e=>by have:=e.1;omega)) rfl rfl (by simp [AE]) ?_;intro ap ce c8;(conv=>whnf);have e0:=ao.size;have e1:=a0.size;have az:BY (fun ab=>ab=j) ax ap:=ce.but;have cc:AD an ap:=FN ao az om;have dn:(ai<=j/\j<b0.heap.size)\/ax.heap.size<=j\/(j<aa/\j<b0.heap.size) := .inr (.inr ⟨om,om⟩);have ek:an.heap.size<=j:=om
       generalize ei:b0=eb at *;have g0:an.heap.size<=aa:=om
      all_goals
       have g8:=az.size;have f0:c3=0->bz=dd.s/\bn<=bt/\bm<=bu/\∃ bw,bw<=ap.heap.size/\C8 ap aa bw bo bn bq bm dd.X dd.Y/\Ad bw cd/\Ad eb.heap.size cd/\Bw eS ap cd dy 9 e9:=fun a4=>by
        obtain ⟨dz,d0,d1,bw,fz,cl,d2,cm,c4⟩:=d3 a4;refine ⟨dz,d0,d1,bw,om,?_,d2,cm,?_⟩
        .rcases dn with ej | ej | ej
         .exact cl _ (az.mono fun ab e=>by have e:ab=j:=e;omega)
         .exact (cl _ (Vc.BY.refl _ _)).mod az (fun ab ch h2 e=>by have e:ab=j:=e;omega)
         .exact (cl _ (Vc.BY.refl _ _)).mod az (fun ab ch h2 e=>by have e:ab=j:=e;omega)
        .exact c4.mod az (fun y t e=>by
          have e:y.block=j:=e;have ch:=cm y t;have h2:=c4.lt y t;omega)
       have c':=(ca.ext a2).ext cc;have b1:=(cu.ext a2).ext cc;have ay:AD w ap:=xt bj cc;by_cases eo:c3=0
       .subst eo;rw [if_neg sI] at ah;obtain ⟨dz,d0,d1,bw,fz,cl,d2,cm,c4⟩:=f0 rfl;(conv=>whnf);refine jA (n:=3) c8.cells rfl ?_;(conv=>whnf);refine jS (vs:=[.slice bo bn bt,.slice bq bm bu,.string bz]) b1 rfl rfl (by simp [AE]) ?_;intro g2 cy e5;(conv=>whnf);refine AP (jR (n:=3) rfl e5.cells) ?_;(conv=>whnf);have g9:=cy.but.size;have gm:=bj.size;rw [ah];exact ⟨_,_,_,_,_,_,_,_,_,_,rfl,fun _=>⟨dz,d0,d1,aa,bw,om,om,cl.mod cy.but (fun ab ch h2 e=>by have e:ab=ar:=e;omega),d2,cm.mono om,c4.mod cy.but (fun y t e=>by
         have e:y.block=ar:=e;have:=cm y t;omega)⟩,(fun bv=>absurd rfl bv),xb ay cy.but om⟩
       .rw [if_pos eo] at ah;refine iN ?_;(conv=>whnf);refine jA (n:=3) c'.cells rfl ?_;(conv=>whnf);refine (c0 _ ay).mono ?_;rintro _ f5 ⟨dt,ck,df,dh,dg,di,rfl,f1,f2,cn,a7⟩;(conv=>whnf);refine (K9 _ (hN.ext (xt ay a7))).mono ?_;rintro _ f6 ⟨rfl,a8⟩;(conv=>whnf);refine Ao (Nat.le_trans (Nat.add_le_add_left (Gp _) _) dE) ?_;(conv=>whnf);refine bS BI (vs:=[Value.string (E1 c3)]) ?_;intro bp f7 dl fx a9 da;have de:=AG (n:=1) (enc:=eS) (xs:=[E1 c3]) AQ da dl rfl dE;(conv=>whnf);refine jS (vs:=[.slice df n dh,.slice dg m di,.string D.s]) (b1.ext (xt (xt a7 a8) a9)) rfl rfl (by simp [AE]) ?_;intro f8 a5 db;(conv=>whnf);refine AP (jR (n:=3) rfl db.cells) ?_;(conv=>whnf);have gc:=a7.size;have gd:=a8.size;have ge:=a9.size;have gf:=a5.but.size;have fn:=ay.size;have fm:=b1.lt;have co:=cn.desk;rw [ah];exact ⟨_,_,_,_,_,_,_,_,_,_,rfl,fun _=>⟨rfl,co.1,co.2.1,dt,ck,om,om,(cn.ext (xt a8 a9)).desk.2.2.mod a5.but (fun ab ch h2 e=>by have e:ab=ar:=e;omega),(fun y t=>by cases t;show ck<=bp;omega),(fun y t=>by cases t;show w.heap.size<=bp;omega),(de.mod a5.but (fun y t e=>by
         cases t
         have e:bp=ar:=e;omega)).own⟩,(fun bv=>absurd rfl bv),xb (xt (xt (xt ay a7) a8) a9) a5.but om⟩
     .rw [if_pos c2] at ah;refine iN ?_;(conv=>whnf);have c':=ca;have b1:=cu;have ay:AD w q:=cv;refine jA (n:=3) c'.cells rfl ?_;(conv=>whnf);refine (c0 _ ay).mono ?_;rintro _ f5 ⟨dt,ck,df,dh,dg,di,rfl,f1,f2,cn,a7⟩;(conv=>whnf);refine (K9 _ (hN.ext (xt ay a7))).mono ?_;rintro _ f6 ⟨rfl,a8⟩;(conv=>whnf);refine Ao (Nat.le_trans (Nat.add_le_add_left (Gp _) _) dE) ?_;(conv=>whnf);refine bS BI (vs:=[Value.string (E1 (Bd (BW f) (g.drop 1)).2)]) ?_;intro bp f7 dl fx a9 da;have de:=AG (n:=1) (enc:=eS) (xs:=[E1 (Bd (BW f) (g.drop 1)).2]) AQ da dl rfl dE;(conv=>whnf);refine jS (vs:=[.slice df n dh,.slice dg m di,.string D.s]) (b1.ext (xt (xt a7 a8) a9)) rfl rfl (by simp [AE]) ?_;intro f8 a5 db;(conv=>whnf);refine AP (jR (n:=3) rfl db.cells) ?_;(conv=>whnf);have gc:=a7.size;have gd:=a8.size;have ge:=a9.size;have gf:=a5.but.size;have fn:=ay.size;have fm:=b1.lt;have co:=cn.desk;rw [ah];exact ⟨_,_,_,_,_,_,_,_,_,_,rfl,fun _=>⟨rfl,co.1,co.2.1,dt,ck,om,om,(cn.ext (xt a8 a9)).desk.2.2.mod a5.but (fun ab ch h2 e=>by have e:ab=ar:=e;omega),(fun y t=>by cases t;show ck<=bp;omega),(fun y t=>by cases t;show w.heap.size<=bp;omega),(de.mod a5.but (fun y t e=>by
       cases t
       have e:bp=ar:=e;omega)).own⟩,(fun bv=>absurd rfl bv),xb (xt (xt (xt ay a7) a8) a9) a5.but om⟩
   .have a':cp=((LW,[]),7):=by rw [ah,if_pos (.inr dp)]
    refine ET (by simp only [Bool.not_eq_true',decide_eq_false_iff_not];omega) ?_;(conv=>whnf);refine AB.build Rz rfl ?_;(conv=>whnf);refine jS (vs:=[.slice none 0 0,.slice none 0 0,.string { data := #[] }]) (cb.ext am) rfl rfl (by simp [AE]) ?_;intro ad br b9;(conv=>whnf);refine AP (jR (n:=3) rfl b9.cells) ?_;(conv=>whnf);have cj:=ef b8 ad am br a';rw [a'] at cj ⊢;exact cj
  .have fq:(Go.M.deskWordsM.any fun ac=>decide (ac=f))=false:=(Bool.not_eq_true _).mp ci;have a':cp=((LW,[]),7):=by rw [ah,if_pos (.inl ci)]
   rw [fq];(conv=>whnf);refine AB.build Rz rfl ?_;(conv=>whnf);refine jS (vs:=[.slice none 0 0,.slice none 0 0,.string { data := #[] }]) cb rfl rfl (by simp [AE]) ?_;intro ad br b9;(conv=>whnf);refine AP (jR (n:=3) rfl b9.cells) ?_;(conv=>whnf);have cj:=ef ea ad (AD.refl _) br a';rw [a'] at cj ⊢;exact cj
 .have el:Fe D.X m D.s=false:=by simpa using c1
  have a':cp=((LW,[]),1):=by rw [ah,if_pos el]
  rw [a'];refine oV Tryz.func10 ?_;conv=>whnf
  refine AB.box ?_;intro cx f4 fj fw bk ct;(conv=>whnf);refine jN (z := .agg #[.slice none 0 0,.slice none 0 0,.string { data := #[] }]) ?_;intro ar f9 fk fy a3 dc;(conv=>whnf);refine jA (n:=3) (ct.ext a3).cells rfl ?_;(conv=>whnf);refine (eh _ (xt bk a3)).mono ?_;rintro _ f' ⟨rfl,bl⟩;rw [el];(conv=>whnf);refine AB.build Rz rfl ?_;(conv=>whnf);refine jS (vs:=[.slice none 0 0,.slice none 0 0,.string { data := #[] }]) (dc.ext bl) rfl rfl (by simp [AE]) ?_;intro ad br b9;(conv=>whnf);refine AP (jR (n:=3) rfl b9.cells) ?_;(conv=>whnf);have ga:=bk.size;exact ⟨_,_,_,_,_,_,_,_,_,_,rfl,(fun h=>by cases h),fun _=>⟨rfl,rfl,rfl,rfl,rfl,rfl,rfl⟩,xb (xt (xt bk a3) bl) br.but om⟩
end Go.Proofs.YtalgenmoljcnmaaGreatDoor
namespace Go.M
open Go Go.Vc
theorem YC {X:List (List (List Int))} {m:Nat} {s:ByteArray} (h:Fe X m s=true):s.size<=4000:=by
 have:=(Dv.1 h).2;rcases CB s with ⟨_,b⟩ | ⟨a,_⟩ | ⟨a,_⟩<;>omega
theorem Wo {l:List UInt8}:bs l=⟨#[]⟩↔l=[]:=by
 constructor
 .intro a;have:=congrArg ByteArray.size a;rw [AV] at this;exact List.eq_nil_of_length_eq_zero this
 .rintro rfl;rfl
theorem Zy (l:List UInt8):(Lib.cut l [10]).1.length<=l.length:=by
 by_cases a:(10:UInt8)∈l
 .obtain ⟨c,d,rfl,b⟩:=List.eq_append_cons_of_mem a;rw [T7 b];simp
 .rw [T6 a];exact Nat.le_refl _
end Go.M
namespace Go.Proofs.YtalgenmoljcnmaaGreatDoor
open Go Go.RowKit Go.Vc Go.M
set_option maxHeartbeats 4000000 in
theorem Tx {w:World} {s:ByteArray} (hs:s.size<=1048576) (hT:F7 w) (hE:EP w) (hM:Dy w) (hN:Ee w) :
  Dq 6 [.string s] w (fun v w'=>v = .string (TX s)/\AD w w'):=by
 refine oV Tryz.func6 ?_;refine Ty.mono ?_;rintro _ dv ⟨bg,bj,bh,bk,rfl,b6,bl⟩;refine jN (z := .agg #[.slice none 0 0,.slice none 0 0,.string { data := #[] }]) ?_;intro m dx c9 dm a9 b0;refine jS (vs:=[.slice bg 6 bj,.slice bh 0 bk,.string { data := #[] }]) b0 rfl rfl (by simp [AE]) ?_;intro bx a8 b1;have d0:=bl.size;have d1:=a9.size;have d2:=a8.but.size;have b':AD w bx:=xb (xt bl a9) a8.but om;have b7:=(b6.mod (S:=fun _=>False) (AD.mod a9) (fun _ _ _ r=>r)).mod a8.but (fun ad bn bo f=>by have f:ad=m:=f;omega);have cj:bs s.data.toList=s:=CV (by simp [bs]);refine lR [0,3,4,5] (fun (i:List UInt8×List ByteArray) ae w'=>∃ ai a3 am ak a1 aq a0 aw,ae=[.string (bs i.1),.string (bs (De i.2).2),.pointer (some ⟨m,0,none⟩),.int .i64 i.2.length]/\i.2.length<=60/\Hv s.data.toList=i.2++Hv i.1/\i.1.length<=s.size/\CD w' m [.slice ai a3 am,.slice ak a1 aq,.string (De i.2).1.s] 36/\C8 w' a0 aw ai a3 ak a1 (De i.2).1.X (De i.2).1.Y/\(m<a0\/aw<=m)/\bx.heap.size<=w'.heap.size/\AD w w') (fun i=>i.1.length) (s.data.toList,[]) ⟨bg,6,bj,bh,0,bk,_,_,by rw [cj];rfl,sI,rfl,sI,b1,b7,.inr om,om,b'⟩ ?_;rintro ⟨h,e⟩ i ae c3 ⟨ai,a3,am,ak,a1,aq,a0,aw,ct,f,ab,ax,ag,bf,ci,c6,t⟩;obtain rfl:ae=[.string (bs h),.string (bs (De e).2),.pointer (some ⟨m,0,none⟩),.int .i64 e.length]:=ct;have f:e.length<=60:=f;have ab:Hv s.data.toList=e++Hv h:=ab;have ax:h.length<=s.size:=ax;have az:=Yj e;have dk:=az.s;have bt:=Hh e;by_cases ac:h=[]
 .subst ac;have cq:=Zi ab f;rw [cq];exact ⟨rfl,t⟩
 .have ay:=Qa ac;have de:=Zy h;have br:=Yi ab ac;have ck:=fun a'=>Yl (s:=s) ab a' ac;have cf:∀ a5,Dy a5->Dq 24 [.string (bs h),.string ⟨#[10]⟩] a5 (fun v w'=>v = .tuple #[.string (bs (Lib.cut h [10]).1),.string (bs (Lib.cut h [10]).2.1),.bool (Lib.cut h [10]).2.2]/\AD a5 w'):=fun a5 cs=>by
   have:=W8 (s:=bs h) (c:=10) (by rw [AV];omega) cs;rw [Gg] at this;exact this
  refine ET (by simp [Wo,ac]) ?_;refine (cf _ (hM.ext t)).mono ?_;rintro _ c4 ⟨rfl,q⟩;(conv=>whnf);by_cases a':e.length=60
  .rw [ck a'];refine iY ?_;refine Ao (by rw [AV];show _+11<=_;omega) ?_;refine ⟨?_,xt t q⟩;rw [UC];rfl
  .refine iN ?_;(conv=>whnf);generalize cn:bs (Lib.cut h [10]).1=o at *;have bp:(e++[o]).length<=60:=by
    rw [List.length_append,List.length_singleton];omega
   have co:o.size<=1048576:=by rw [<- cn,AV];omega
   have bq:=PN (st:=De e) (line:=o);have bu:=M3 (st:=De e) (line:=o);have av:=Ng (D:=(De e).1) o az.v;have dh:=YC az.v;obtain ⟨cb,cc⟩:=bf.rd;have ah:AD w c4:=xt t q;have cg:=NY (D:=(De e).1) (c:=am) (d:=aq) (cb.ext q) (cc.ext q) om az.y co (hT.ext ah) (hE.ext ah) (hM.ext ah) (hN.ext ah);refine jA (n:=3) (ag.ext q).cells rfl ?_;refine cg.mono ?_;rintro _ dy ⟨aj,a4,an,al,a2,ar,c2,cd,aa,ce,rfl,bw,_,bm⟩;refine jN (z := .agg #[.slice none 0 0,.slice none 0 0,.string { data := #[] }]) ?_;intro bi dz c' dn au b2;refine jS (vs:=[.slice aj a4 an,.slice al a2 ar,.string c2]) b2 rfl rfl (by simp [AE]) ?_;intro c5 ao b3;(conv=>whnf);have d3:=q.size;have d4:=bm.size;have d5:=au.size;have d6:=ao.but.size;have db:=ag.lt;have p:AD c3 c5:=xb (xt (xt q bm) au) ao.but om;generalize dc:Ez (De e).1 o=c1 at *;obtain ⟨⟨a7,j⟩,cu⟩:=c1;dsimp only at bw bq bu av;by_cases bc:cu=0
   .subst bc;obtain ⟨cw,dq,dr,cv,cl,ds,dt,cx,du,cy,bv⟩:=bw rfl;subst cw;have u:De (e++[o])=(a7,(De e).2++Bf j):=by rw [bt,bu rfl]
    have di:=N6 av.1;have bz:=((bv.arr AQ).ext au).mod ao.but (fun af bb f=>by
     have f:af.block=bi:=f;have:=bv.lt af bb;omega)
    have b8:=(cx.mod (S:=fun _=>False) (AD.mod au) (fun _ _ _ r=>r)).mod ao.but (fun ad bn bo f=>by have f:ad=bi:=f;omega);refine jA (n:=3) b3.cells rfl ?_;refine jS (vs:=[.slice aj a4 an,.slice al a2 ar,.string a7.s]) (ag.ext p) rfl rfl (by simp [AE]) ?_;intro bd ap b4;have d7:=ap.but.size;have be:=bz.mod ap.but (fun af bb f=>by
     have f:af.block=m:=f;have:=cy af bb;omega)
    have ca:AD w bd:=xb (xt t p) ap.but (by have:=t.size;omega);have b5:CD bd m [.slice aj a4 an,.slice al a2 ar,.string a7.s] 36:=b4;have b9:=b8.mod ap.but (fun ad bn bo f=>by have f:ad=m:=f;omega);have dj:=be.len;have dg:=av.1.n;refine lR [0,3,4,5,42,43,44] (fun (g:Nat) ae w'=>ae=[.string (bs (Lib.cut h [10]).2.1),.string (bs ((De e).2++Bf (j.take g))),.pointer (some ⟨m,0,none⟩),.int .i64 e.length,.slice cd aa ce,.int .i64 aa,.int .i64 g]/\g<=aa/\AD bd w') (fun g=>aa - g) 0 ⟨by rw [show (De e).2++Bf (j.take 0)=(De e).2 by simp [Bf]];rfl,om,AD.refl _⟩ ?_;rintro g c8 _ dw ⟨rfl,dd,x⟩;rcases Nat.lt_or_ge g aa with cm | cm
    .obtain ⟨a6,ba⟩:=AA (l:=j) (k:=g) om;have cp:=WW ba;have df:=RB j g;have dl:=av.1.s a6 (List.mem_of_getElem? ba);refine iY ?_;refine jI (be.ext x) g rfl ba ?_;intro c7 dp da ch;refine jO ch rfl ?_;refine Ao (by show _+1<=_;omega) ?_;have cz:(bs ((De e).2++Bf (j.take g))).size=(De e).2.length+(Bf (j.take g)).length:=by rw [AV,List.length_append]
     have c0:(a6++⟨#[10]⟩:ByteArray).size=a6.size+1:=by rw [ByteArray.size_append];rfl
     refine Ao (a:=bs ((De e).2++Bf (j.take g))) (b:=a6++⟨#[10]⟩) (by rw [cz,c0];omega) ?_;refine jP (((g+1:Nat):Int)) ?_;refine ⟨g+1,om,?_,om,x⟩;rw [cp,<- List.append_assoc,UC,UC];rfl
    .obtain rfl:g=aa:=om
     have cr:j.take g=j:=List.take_of_length_le om;rw [cr];refine iN ?_;refine jP (((e.length+1:Nat):Int)) ?_;refine ⟨((Lib.cut h [10]).2.1,e++[o]),ay,aj,a4,an,al,a2,ar,cv,cl,?_,bp,br,(Nat.le_trans (Nat.le_of_lt ay) ax),?_,?_,.inl om,?_,xt ca x⟩
     .rw [u];simp only [List.length_append,List.length_singleton];rfl
     .rw [u];exact b5.ext x
     .rw [u];exact b9.mod (S:=fun _=>False) (AD.mod x) (fun _ _ _ r=>r)
     .have:=x.size;have:=p.size;omega
   .have u:De (e++[o])=((De e).1,(De e).2++[63,10]):=by rw [bt,bq bc]
    refine ET (by simp [bc]) ?_;refine Ao (by rw [AV];show _+2<=_;omega) ?_;refine jP (((e.length+1:Nat):Int)) ?_;refine ⟨((Lib.cut h [10]).2.1,e++[o]),ay,ai,a3,am,ak,a1,aq,a0,aw,?_,bp,br,(Nat.le_trans (Nat.le_of_lt ay) ax),?_,?_,ci,Nat.le_trans c6 p.size,xt t p⟩
    .rw [u];simp only [List.length_append,List.length_singleton];rw [UC];rfl
    .rw [u];exact ag.ext p
    .rw [u];exact bf.mod (S:=fun _=>False) (AD.mod p) (fun _ _ _ r=>r)
end Go.Proofs.YtalgenmoljcnmaaGreatDoor
namespace Go.Proofs.YtalgenmoljcnmaaGreatDoor
open Go
theorem H3 {a b:Bool} (h:a=true) (k:b=true):(a && b)=true:=by rw [h,k];rfl
theorem Xn:Tryz.pinned.checked.prog.mainIs=some (Rows.fnExactRunDeskCard.stood.harness.1,Rows.fnExactRunDeskCard.stood.harness.2.toList):=by kernel_rfl
theorem WI:Tryz.prog.stopsHeard=true:=by kernel_rfl
theorem WJ:Tryz.prog.mayEnter=true:=by kernel_rfl
theorem WH:(Rows.fnExactRunDeskCard.stood.row.lifted == Tryz.prog.liftsFinal)=true:=by kernel_rfl
theorem Xm:(Tryz.prog.make == some Rows.fnExactRunDeskCard.stood.row.make)=true:=by kernel_rfl
theorem WG:true=Tryz.pinned.checked.prog.looks []:=by kernel_rfl
end Go.Proofs.YtalgenmoljcnmaaGreatDoor
namespace Go.Proofs.YtalgenmoljcnmaaGreatDoor
open Go Go.Shelf Go.Proofs Go.RowKit Go.Vc Go.M Go.ChangeShapes Go.WideShapes Go.ChangeAt
open Go.ChangeMaps (open_string)
variable {H:Type}
set_option linter.unusedVariables false in
theorem VD {w:World} {x0:ByteArray} (ok0:Nt x0)  (hT:F7 w) (hE:EP w) (hM:Dy w) (hN:Ee w):Dq 3 [.string x0] w (fun v w'=>v = .bool true/\AD w w'):=by
 have i:=fun d (c:x0.size<=1048576)=>TR (w:=d) c;have h:=fun d (a:AD w d) (c:x0.size<=1048576)=>Tx c (hT.ext a) (hE.ext a) (hM.ext a) (hN.ext a);generalize TX x0=k at *;refine oV Tryz.func3 ?_;conv=>whnf
 refine AL (fun g=>?_) fun g=>?_
 .exact ⟨rfl,AD.refl _⟩
 .refine (i _ om).mono ?_;rintro _ l ⟨rfl,b⟩;have j:=b;refine (h _ b om).mono ?_;rintro _ m ⟨rfl,f⟩;have e:=(xt b f);refine E3 (by simp;done) ?_;exact ⟨rfl,e⟩
set_option maxRecDepth 100000 in
theorem Td {enc:TypeId×Value->H} {base:Nat} (W:World) (args:List Value) (ds:List (DataW H)) (p:List MemPlace) (hA:DataW.TrodAll enc Tryz.prog W 0 (fun _=>true) true (Tryz.f3).params.toList args ds p)
  (hv:∀ (j:Nat) t v,(Tryz.f3).params[j]? = some t->args[j]? = some v->Value.okWide Tryz.prog W .any base t v) (hL:laidMet Tryz.prog Rows.fnExactRunDeskRow.laid W) (_hsh:W.ShapedOpen Tryz.prog):Dq 3 args W (fun v w'=>v = .bool true/\AD W w'):=by
 have a:(Tryz.f3).params.toList=[9]:=rfl;rw [a] at hA;obtain ⟨e,k,f,g,h,i,rfl,rfl,rfl,b,d⟩:=trodAll_cons hA;obtain ⟨rfl,rfl,rfl⟩:=trodAll_nil d;obtain ⟨l,rfl,rfl,rfl,c⟩:=open_string Tryz.underlying9 (hv 0 9 e (by rw [<- Array.getElem?_toList,a];rfl) rfl) b;exact VD c (Vx hL.tail.tail) (UK hL.tail.tail.tail.tail.tail hL.tail.tail.tail.tail) (Qu _hsh) (Mx hL.tail.tail.tail.tail.tail.tail)
set_option maxRecDepth 100000 in
theorem Mr (os:Os):((World.laidAll Tryz.prog os Rows.fnExactRunDeskRow.laid).forCall (fun _ _=>0) ⟨#[],#[.string { data := #[] }],[]⟩).Shaped Tryz.checked.prog:=World.shaped_of_ZipB kR kR
set_option maxRecDepth 100000 in
theorem Mq (os:Os):Input.okWideB Tryz.checked.prog ((World.laidAll Tryz.prog os Rows.fnExactRunDeskRow.laid).forCall (fun _ _=>0) ⟨#[],#[.string { data := #[] }],[]⟩) 3 ⟨#[],#[.string { data := #[] }],[]⟩=true:=kR
set_option maxRecDepth 100000 in
theorem Mp (os:Os) (enc:TypeId×Value->H):(Rows.fnExactRunDeskSpec).preB enc Tryz.checked.prog Tryz.f3 Rows.fnExactRunDeskRow.domain false ((World.laidAll Tryz.prog os Rows.fnExactRunDeskRow.laid).forCall (fun _ _=>0) ⟨#[],#[.string { data := #[] }],[]⟩).memory #[.string { data := #[] }] 8=true:=kR
set_option maxRecDepth 100000 in
theorem Mo (os:Os) (enc:TypeId×Value->H):(Rows.fnExactRunDeskSpec).sizedB enc Tryz.checked.prog Tryz.f3 false ((World.laidAll Tryz.prog os Rows.fnExactRunDeskRow.laid).forCall (fun _ _=>0) ⟨#[],#[.string { data := #[] }],[]⟩).memory #[.string { data := #[] }] 8=true:=kR
set_option maxRecDepth 100000 in
theorem Mn (os:Os):laidMet Tryz.checked.prog Rows.fnExactRunDeskRow.laid ((World.laidAll Tryz.prog os Rows.fnExactRunDeskRow.laid).forCall (fun _ _=>0) ⟨#[],#[.string { data := #[] }],[]⟩).memory:=laidMet_laidAll _ kR kR
set_option maxRecDepth 100000 in
theorem Jh (os:Os) (started:os.Started) (H:Type) (enc:TypeId×Value->H) (F:Stop.Interp) :
  ReturnsInHanded {} Tryz.checked os 3 .any ((OpenSpec.ofChange Rows.fnExactRunDeskSpec).preRow enc Tryz.prog Tryz.f3 Rows.fnExactRunDeskRow.domain false Rows.fnExactRunDeskRow.laid) (((OpenSpec.ofChange Rows.fnExactRunDeskSpec).at F).post enc Tryz.prog Tryz.f3 false true false false):=by
 refine returnsInHanded_of_row (C:=Tryz.checked) (s:=OpenSpec.ofChange Rows.fnExactRunDeskSpec) Zp started kR Tryz.func3
  (PG (enc:=enc) (C:=Tryz.checked) (World.laidAll Tryz.prog os Rows.fnExactRunDeskRow.laid) #[.string { data := #[] }] 8 (World.laidAll_os _ _ _) (Mr os) (Mq os) (Mp os enc) (Mo os enc)
   (by rw [MakeChecks.laidMetH_plain _ _ _ kR];exact Mn os)) ?_
 intro b base c a f e l i _ _ _ d j _;rw [MakeChecks.laidMetH_plain _ _ _ kR] at d;exact NO (P:=Tryz.prog) (fn:=Tryz.f3) (s:=Rows.fnExactRunDeskSpec) (n:=(Rows.fnExactRunDeskRow.named.getD 8 Rows.fnExactRunDeskRow.spec)) (g0:=0) (t0:=137) rfl kR kR kR dE rfl Tryz.underlying4 Y3 kR
  (fun a o g=>match a,g with | [d0],_=>⟨rfl,rfl,rfl⟩) b c a f e (fun m h k=>Td b c.toList a m h k d j) l i
theorem Mw:(Rows.fnExactRunDeskRow.inPlace == Tryz.prog.inPlace 3)=true:=kR
theorem Mv:(Rows.fnExactRunDeskRow.unfollowed == Tryz.prog.unfollowed 3)=true:=kR
theorem Mu:(Rows.fnExactRunDeskRow.recurses == Tryz.prog.recurses 3)=true:=kR
theorem Mt:(Rows.fnExactRunDeskRow.named == Tryz.prog.varsNamed 3)=true:=kR
theorem Ms:(Rows.fnExactRunDeskRow.plainKeys == Tryz.prog.plainKeys)=true:=kR
theorem Ji:joinedFacts Tryz.prog 3 Tryz.f3 (OpenSpec.ofChange Rows.fnExactRunDeskSpec).bare Rows.fnExactRunDeskRow=true:=by
 unfold joinedFacts;exact H3 (H3 (H3 (H3 (H3 (H3 (H3 (H3 (H3 (H3 (H3 (H3 (H3 (H3 (H3 (H3 (H3 (H3 (H3 (H3 (H3 (H3 (H3 kR Mw) Mv) Mu) Mt) kR) kR) kR) kR) kR) kR) kR) kR) kR) Ms) kR) WI) WJ) WH) Xm) kR) kR) kR) kR
theorem G5:Tryz.prog.funcNamed Rows.fnExactRunDeskRow.func=some 3:=kR
theorem Ln:Rows.FnExactRunDeskSaid :=
 OpenClaim.holds_of_cond 3 Tryz.f3 rfl rfl rfl rfl rfl rfl rfl ⟨rfl,rfl,rfl,rfl,rfl⟩ rfl rfl rfl rfl rfl G5 Tryz.func3 Ji
  (of_decide_eq_true kR) (by unfold Func.isWrapper;first | (rw [if_pos (by decide +kernel)];kernel_rfl) | (rw [if_neg (by decide +kernel)];exact ⟨rfl,rfl⟩))
  (fun os c b enc _ a=>by rw [OpenClaim.pre_eq_preRow];exact Jh os c b enc a)
theorem Kk:false=Rows.fnExactRunDeskRow.goesBy Tryz.pinned.checked.prog:=kR
theorem Mm:Rows.fnExactRunDeskRow.wfByText (OpenSpec.ofChange Rows.fnExactRunDeskSpec)=true:=kR
theorem KM (f:FuncId) (fn:Func) (hf:Tryz.pinned.checked.prog.funcNamed Rows.fnExactRunDeskRow.func=some f) (hfn:Tryz.pinned.checked.prog.funcs[f]? = some fn) :
  true=Tryz.pinned.checked.prog.looks []/\∀ (j:Nat) t,fn.params[j]? = some t->Tryz.pinned.checked.prog.wantsStandIn t=false:=by
 obtain rfl:f=3:=Option.some.inj (G5.symm.trans hf) |>.symm;obtain rfl:fn=Tryz.f3:=(Option.some.inj (Tryz.func3.symm.trans hfn)).symm;refine ⟨WG,fun j t b=>?_⟩;have a:(Tryz.f3.params.toList.all fun c=>!Tryz.prog.wantsStandIn c)=true:=kR
 exact (show Tryz.prog.wantsStandIn t=false by simpa using List.all_eq_true.1 a t (by simpa using Array.mem_of_getElem? b))
theorem FnExactRunDesk_holds:Rows.FnExactRunDeskCardSaid :=
 Claim7.holds_tied_plain_at .later [] _ _ _ _ Ln (fun _ a=>by cases a) Mm (fun _ a=>by cases a) fnExactRunDesk_row_tie rfl ⟨rfl,rfl⟩ Xn rfl KM Kk
end Go.Proofs.YtalgenmoljcnmaaGreatDoor
