/- Parts of the proof; no conditions of its own. -/
import Derived.Test.YtalgenmoljcnmaaGreatDoorCards
import Derived.JoinedOf
import Derived.Test.YtalgenmoljcnmaaGreatDoorTie
import Derived.Test.YtalgenmoljcnmaaGreatDoorRefJ
import Derived.Test.YtalgenmoljcnmaaGreatDoorCardW
import Derived.Test.YtalgenmoljcnmaaGreatDoorJourR
import Derived.Test.YtalgenmoljcnmaaGreatDoorDesks
import Derived.Test.YtalgenmoljcnmaaGreatDoorModel
import Derived.Test.YtalgenmoljcnmaaGreatDoorStab
import Derived.Test.YtalgenmoljcnmaaGreatDoorRefG
namespace Go.Vc
open Go Go.RowKit
theorem DN.slice {P:Program} {α:Type} {enc:α->List Value} {t sz:Nat} (ht:CQ P t=some sz) {S:World->Prop} {w:World} {a:Option Addr} {n c:Nat} {xs:List α} (hA:A4 enc sz w a n xs) (l h:Nat) (hl:l<=h) (hh:h<=n) (hn:n<=c) {lo hi:Option Value} {k k':IntKind} (hlo:(lo=none/\l=0)\/lo=some (.int k l)) (hhi:(hi=none/\h=n)\/hi=some (.int k' h))
  {K:Value->Prop} (hK:∀ a',A4 enc sz w a' (h - l) ((xs.drop l).take (h - l))->K (.slice a' (h - l) (c - l))):DN P S (Instr.sliceAt t (.slice a n c) lo hi none) K :=
 K4 (fun b _=>A6 (EI ht hl hh hn hlo hhi b) ⟨rfl,rfl⟩) (hK _ (hA.sub hl hh hn))
end Go.Vc
namespace Go.M
open Go Go.Vc
theorem Z2 {l:List ByteArray} {x z:ByteArray} (h:l[0]? = some x):l.headD z=x:=by
 cases l with
 | nil=>cases h
 | cons a b=>simpa using h
theorem aD2 (w:ByteArray):(Bd w).length<=4:=by
 unfold Bd
 repeat' split
 all_goals decide
end Go.M
namespace Go.Proofs.YtalgenmoljcnmaaGreatDoor
open Go Go.RowKit Go.Vc Go.M
theorem Sn:deskWordsM=Go.M.deskWordsM:=by
 unfold deskWordsM;rfl
def aB8 (w w':World) (v:Value) (r:(B7×List ByteArray)×Int):Prop :=
 ∃ a' n' c' b' m' d' s' al nl cl,v = .tuple #[.agg #[.slice a' n' c',.slice b' m' d',.string s'],.slice al nl cl,.int .i64 r.2] /\
  (r.2=0->s'=r.1.1.s/\n'<=c'/\m'<=d'/\∃ lo hi,w.heap.size<=lo/\hi<=w'.heap.size/\Ct w' lo hi a' n' b' m' r.1.1.X r.1.1.Y/\Ab hi al/\Ab w.heap.size al/\Bs eS w' al nl 9 r.1.2) /\
  (r.2≠0->a'=none/\n'=0/\b'=none/\m'=0/\s'=⟨#[]⟩/\al=none/\nl=0)/\AD w w'
set_option maxHeartbeats 4000000 in
theorem OF {w:World} {a b:Option Addr} {n c m d:Nat} {D:B7} (h:Ac CA w a n D.X) (h2:Ac FB w b m D.Y) (hs:D.s.size<=1048576) (hY:∀ y∈D.Y,y.length<=1048576) {line:ByteArray} (hl:line.size<=1048576) (hT:GR w) (hE:Eg w) (hM:EE w) (hN:E6 w) :
  Dq 10 [.agg #[.slice a n c,.slice b m d,.string D.s],.string line] w (fun v w'=>aB8 w w' v (EM D line)):=by
 have gs:=h.len;have ft:=h2.len;have eh:∀ i,AD w i->Dq 29 [.agg #[.slice a n c,.slice b m d,.string D.s]] i (fun v w'=>v = .bool (FP D.X m D.s)/\AD i w'):=fun i u=>Q5 (h.ext u) hs (hT.ext u) (hE.ext u) (hM.ext u);have fo:∀ i,EE i->Dq 30 [.string line,.string ⟨#[32]⟩] i (fun v w'=>∃ b,v = .slice (some ⟨b,0,none⟩) (Ay 32 line).length (Ay 32 line).length/\i.heap.size<=b/\B8 w' b (Al eS (Ay 32 line)) 9/\AD i w'):=fun i fv=>Nx om fv;have gw:=Ii 32 line;have gx:=QE 32 line;have en:∀ ac∈Ay 32 line,ac.size<=1048576:=fun ac av=>by have:=Ea av;omega
 have ah:EM D line=EM D line:=rfl;conv at ah=>rhs;unfold EM
 generalize EM D line=cp at *;generalize gn:Ay 32 line=g at *;obtain ⟨f,em⟩:=AA (l:=g) (k:=0) om;rw [Z2 em,ft] at ah;have gu:=aD2 f;by_cases c1:FP D.X m D.s=true
 .rw [if_neg (by simp [c1])] at ah;have dq:Aq D.X m=true:=(Dj.1 c1).1;have gt:=A8 dq;have c0:∀ i,AD w i->Dq 36 [.agg #[.slice a n c,.slice b m d,.string D.s]] i (fun v w'=>∃ aa ai ae af aq au,v = .agg #[.slice ae n af,.slice aq m au,.string D.s]/\i.heap.size<=aa/\ai<=w'.heap.size/\Gj w' aa ai ae n af aq m au D.X D.Y/\AD i w'):=fun i u=>Uy (h.ext u) (h2.ext u) dq hY;refine oV Tryz.func10 ?_;conv=>whnf
  refine AB.box ?_;intro cx f4 fj fw bk ct;(conv=>whnf);refine jN (z := .agg #[.slice none 0 0,.slice none 0 0,.string { data := #[] }]) ?_;intro ar f9 fk fy a3 dc;(conv=>whnf);refine jA (n:=3) (ct.ext a3).cells rfl ?_;(conv=>whnf);refine dM (eh _ (xt bk a3)) fun f' bl=>?_;rw [c1];(conv=>whnf);refine (fo _ (hM.ext (xt (xt bk a3) bl))).mono ?_;rintro _ g3 ⟨gh,rfl,fl,e6,cz⟩;have e8:=AH (n:=g.length) (enc:=eS) (xs:=g) AP e6 fl rfl om;have ed:=e8.own.arr AP;(conv=>whnf);refine jI ed 0 rfl em ?_;intro gi gz gp fp;(conv=>whnf);refine jO fp rfl ?_;(conv=>whnf);refine (Q7 _).mono ?_;rintro _ g4 ⟨gj,gy,gk,rfl,gl,cf,fb⟩;have e3:=fb.arr AP;(conv=>whnf);refine dM (PH e3 f) fun ea cg=>?_;rw [Sn];have ee:AD w ea:=xt (xt (xt (xt (xt bk a3) bl) cz) cf) cg;have c9:=ct.ext (xt (xt (xt (xt a3 bl) cz) cf) cg);have cb:=dc.ext (xt (xt (xt bl cz) cf) cg);have e4:=ed.ext (xt cf cg);have ga:=bk.size;have g':=a3.size;have ha:=Below.size (xt (xt (xt bl cz) cf) cg);have ef:∀ (b8 ad:World),AD ea b8->Oa ar b8 ad->cp=((HN,[]),7)->aB8 w ad (.tuple #[.agg #[.slice none 0 0,.slice none 0 0,.string ⟨#[]⟩],.slice none 0 0,.int .i64 7]) cp:=by
   intro b8 ad am br a';rw [a'];exact ⟨_,_,_,_,_,_,_,_,_,_,rfl,(fun h=>by cases h),fun _=>⟨rfl,rfl,rfl,rfl,rfl,rfl,rfl⟩,xb (xt ee am) br.but om⟩
  by_cases ci:(Go.M.deskWordsM.any fun ac=>decide (ac=f))=true
  .rw [ci];(conv=>whnf);refine AB.sub ((g.length:Int) - 1) rfl om om ?_;(conv=>whnf);refine dM (H4 f _) fun b8 am=>?_;have gv:(bs (Bd f)).size=(Bd f).length:=BY _;(conv=>whnf);by_cases dp:g.length - 1=(Bd f).length
   .rw [if_neg (by simp [ci,dp])] at ah;refine DY (by simp only [Bool.not_eq_false',decide_eq_true_eq,bne_eq_false_iff_eq];omega) ?_;have e7:AD w b8:=xt ee am;have gq:(g.drop 1).length=g.length - 1:=List.length_drop;have b7:∀ i ae af,AD w i->A4 eS 1 i ae (g.length - 1) (g.drop 1)->Dq 34 [.string (bs (Bd f)),.slice ae (g.length - 1) af] i _:=fun i ae af u e2=>SV (c:=af) e2 dp.symm (fun ac av=>en ac (List.mem_of_mem_drop av)) om (hT.ext u) (hE.ext u) (hM.ext u);(conv=>whnf);refine Du [9] A7 mixed none (.seq (pZ [0,10,16]) (.alt 1 (.alt 4 (.seq (pZ [25,30,35,42,48,50]) .done) 8 (.seq (pZ [22,25,30,35,48,50]) .done)) 8 (.seq (pZ [7,22,25,30,35,48,50]) .done))) kR kR ?_;(conv=>whnf);intro ad a6;have b2:AD w ad:=xt e7 a6;have g5:=am.size;have g6:=a6.size;(conv=>whnf);refine DN.slice kR (e4.ext (xt am a6)) 1 g.length om om om (k' := .i64) (.inr rfl) (.inl ⟨rfl,rfl⟩) ?_;intro gg cs;have fr:(g.drop 1).take (g.length - 1)=g.drop 1:=List.take_of_length_le om;rw [fr] at cs;(conv=>whnf);refine Dd.mk ?_ ?_
    focus
     (conv=>whnf);refine dM (H4 f _) fun es r=>?_;(conv=>whnf);refine ⟨AV r,?_⟩;(conv=>whnf);refine Dd.mk ?_ ?_
     focus
      (conv=>whnf);refine (b7 _ _ _ (xt b2 r) (cs.ext r)).mono ?_;rintro _ cq ⟨be,ba,b3,bf,bb,b4,bg,bc,b5,bh,bd,b6,rfl,aw,ak⟩;(conv=>whnf);refine ⟨AV (xt r ak),?_⟩;(conv=>whnf);refine jN (z := .agg #[.slice none 0 0,.slice none 0 0,.slice none 0 0,.slice none 0 0]) ?_;intro a1 c6 dj ep x bi;(conv=>whnf);refine ⟨AV (xt (xt r ak) x),?_⟩;(conv=>whnf);refine jS (vs:=[.slice be ba b3,.slice bf bb b4,.slice bg bc b5,.slice bh bd b6]) bi rfl rfl cE ?_;intro q o c7;(conv=>whnf);have eu:=r.size;have ew:=ak.size;have ex:=x.size;have ey:=o.but.size;have aj:AD ad c6:=xt (xt r ak) x;have cw:AD cq q:=xb x o.but dj;have d4:(Bi (Bd f) (g.drop 1)).2=0->A4 eI 1 q be ba (Bi (Bd f) (g.drop 1)).1.trays/\A4 eI 1 q bf bb (Bi (Bd f) (g.drop 1)).1.nums/\A4 AE.enc 2 q bg bc (Bi (Bd f) (g.drop 1)).1.fields/\A4 eS 1 q bh bd (Bi (Bd f) (g.drop 1)).1.texts:=fun a4=>⟨(aw a4).1.ext cw,(aw a4).2.1.ext cw,(aw a4).2.2.1.ext cw,(aw a4).2.2.2.1.ext cw⟩;have ca:=((c9.ext (xt am a6)).ext aj).mod o.but (fun e=>by have e:cx=a1:=e;omega);have cu:=((cb.ext (xt am a6)).ext aj).mod o.but (fun e=>by have e:ar=a1:=e;omega);have cv:AD w q:=xb (xt b2 aj) o.but om;have et:ad.heap.size<=q.heap.size:=by have:=aj.size;omega
      clear aw bi b7
     rotate_left
     focus
      (conv=>whnf);refine jN (z := .agg #[.slice none 0 0,.slice none 0 0,.slice none 0 0,.slice none 0 0]) ?_;intro a1 c6 dj ep x bi;(conv=>whnf);refine ⟨AV (xt r x),?_⟩;(conv=>whnf);refine (b7 _ _ _ (xt (xt b2 r) x) (cs.ext (xt r x))).mono ?_;rintro _ cq ⟨be,ba,b3,bf,bb,b4,bg,bc,b5,bh,bd,b6,rfl,aw,ak⟩;(conv=>whnf);refine ⟨AV (xt (xt r x) ak),?_⟩;(conv=>whnf);refine jS (vs:=[.slice be ba b3,.slice bf bb b4,.slice bg bc b5,.slice bh bd b6]) (bi.ext ak) rfl rfl cE ?_;intro q o c7;(conv=>whnf);have eu:=r.size;have ew:=ak.size;have ex:=x.size;have ey:=o.but.size;have aj:AD ad cq:=xt (xt r x) ak;have nB:∀ {ac:Option Addr},Ab c6.heap.size ac->∀ y,ac=some y->¬ y.block=a1:=fun av y t e=>by have:=av y t;omega
      have d4:(Bi (Bd f) (g.drop 1)).2=0->A4 eI 1 q be ba (Bi (Bd f) (g.drop 1)).1.trays/\A4 eI 1 q bf bb (Bi (Bd f) (g.drop 1)).1.nums/\A4 AE.enc 2 q bg bc (Bi (Bd f) (g.drop 1)).1.fields/\A4 eS 1 q bh bd (Bi (Bd f) (g.drop 1)).1.texts:=fun a4=>by
       obtain ⟨d7,d8,d9,d',du,dv,dw,dx⟩:=aw a4;exact ⟨d7.mod o.but (nB du),d8.mod o.but (nB dv),d9.mod o.but (nB dw),d'.mod o.but (nB dx)⟩
      have ca:=((c9.ext (xt am a6)).ext aj).mod o.but (fun e=>by have e:cx=a1:=e;omega);have cu:=((cb.ext (xt am a6)).ext aj).mod o.but (fun e=>by have e:ar=a1:=e;omega);have cv:AD w q:=xb (xt b2 aj) o.but om;have et:ad.heap.size<=q.heap.size:=by have:=aj.size;omega
      clear aw bi b7
    rotate_left 2
    focus
     (conv=>whnf);refine jN (z := .agg #[.slice none 0 0,.slice none 0 0,.slice none 0 0,.slice none 0 0]) ?_;intro a1 c6 dj ep x bi;(conv=>whnf);refine ⟨AV x,?_⟩;(conv=>whnf);refine dM (H4 f _) fun es r=>?_;(conv=>whnf);refine ⟨AV (xt x r),?_⟩;(conv=>whnf);refine (b7 _ _ _ (xt (xt b2 x) r) (cs.ext (xt x r))).mono ?_;rintro _ cq ⟨be,ba,b3,bf,bb,b4,bg,bc,b5,bh,bd,b6,rfl,aw,ak⟩;(conv=>whnf);refine ⟨AV (xt (xt x r) ak),?_⟩;(conv=>whnf);refine jS (vs:=[.slice be ba b3,.slice bf bb b4,.slice bg bc b5,.slice bh bd b6]) (bi.ext (xt r ak)) rfl rfl cE ?_;intro q o c7;(conv=>whnf);have eu:=r.size;have ew:=ak.size;have ex:=x.size;have ey:=o.but.size;have aj:AD ad cq:=xt (xt x r) ak;have nB:∀ {ac:Option Addr},Ab es.heap.size ac->∀ y,ac=some y->¬ y.block=a1:=fun av y t e=>by have:=av y t;omega
     have d4:(Bi (Bd f) (g.drop 1)).2=0->A4 eI 1 q be ba (Bi (Bd f) (g.drop 1)).1.trays/\A4 eI 1 q bf bb (Bi (Bd f) (g.drop 1)).1.nums/\A4 AE.enc 2 q bg bc (Bi (Bd f) (g.drop 1)).1.fields/\A4 eS 1 q bh bd (Bi (Bd f) (g.drop 1)).1.texts:=fun a4=>by
      obtain ⟨d7,d8,d9,d',du,dv,dw,dx⟩:=aw a4;exact ⟨d7.mod o.but (nB du),d8.mod o.but (nB dv),d9.mod o.but (nB dw),d'.mod o.but (nB dx)⟩
     have ca:=((c9.ext (xt am a6)).ext aj).mod o.but (fun e=>by have e:cx=a1:=e;omega);have cu:=((cb.ext (xt am a6)).ext aj).mod o.but (fun e=>by have e:ar=a1:=e;omega);have cv:AD w q:=xb (xt b2 aj) o.but om;have et:ad.heap.size<=q.heap.size:=by have:=aj.size;omega
     clear aw bi b7
    all_goals
     by_cases c2:(Bi (Bd f) (g.drop 1)).2=0
     .obtain ⟨fc,fd,fe,ff⟩:=d4 c2;obtain ⟨fh,fg,fi⟩:=YO (p:=Bd f) (ws:=g.drop 1) om (fun ac av=>en ac (List.mem_of_mem_drop av)) c2;rw [if_neg (fun bv=>bv c2)] at ah;generalize (Bi (Bd f) (g.drop 1)).1=ec at *;refine iY ?_;(conv=>whnf);refine Du [10] A7 mixed none (.seq (pZ [10,1,16]) (.alt 1 (.alt 4 (.seq (pZ [25,30,35,40,47,53,55,60]) .done) 9 (.seq (pZ [22,25,30,35,40,53,55,60]) .done)) 9 (.seq (pZ [7,22,25,30,35,40,53,55,60]) .done))) kR kR ?_;(conv=>whnf);intro an a2;have eq:∀ er,¬ AL none er:=fun er fu=>by obtain ⟨ac,av,_⟩:=fu;cases av
      have bj:AD w an:=xt cv a2;have g7:=a2.size;have dm:∀ i aa ai ae af aq au,AD an i->Gj i aa ai ae n af aq m au D.X D.Y->an.heap.size<=aa->ai<=i.heap.size->Dq 35 [.agg #[.slice ae n af,.slice aq m au,.string D.s],.string f,.agg #[.slice be ba b3,.slice bf bb b4,.slice bg bc b5,.slice bh bd b6]] i (fun v w'=>KA i w' aa ai v (BE D f ec)):=fun i aa ai ae af aq au u fa gr fs=>OB fa fs dq hs hY (fun g1 e'=>hT.ext (xm (xt bj u) e' (fun dr bx=>by have:=bx.1;have:=bj.size;omega))) (hE.ext (xt bj u)) (hM.ext (xt bj u)) (fc.ext (xt a2 u)) (fd.ext (xt a2 u)) (fe.ext (xt a2 u)) (ff.ext (xt a2 u)) fh fi fg ci;generalize BE D f ec=f3 at *;obtain ⟨⟨dd,e9⟩,c3⟩:=f3;dsimp only at ah;(conv=>whnf);refine Bf (n:=3) kR (Sr.cells (ca.ext a2).cells (eq _)) rfl ?_;(conv=>whnf);refine Bf (n:=4) kR (Sr.cells (c7.ext a2).cells (eq _)) rfl ?_;(conv=>whnf);refine Dd.mk ?_ ?_
      focus
       (conv=>whnf);refine (c0 _ bj).mono ?_;rintro _ b0 ⟨aa,ai,ae,af,aq,au,rfl,d6,d5,c5,al⟩;(conv=>whnf);refine ⟨AV al,?_⟩;(conv=>whnf);refine Dd.mk ?_ ?_
       focus
        (conv=>whnf);refine (dm _ aa ai ae af aq au al c5 d6 d5).mono ?_;rintro _ ax ⟨bo,bn,bt,bq,bm,bu,bz,cd,dy,eg,rfl,d3,a0⟩;(conv=>whnf);have ao:AD an ax:=xm al a0 (fun dr bx=>by have:=bx.1;omega);refine ⟨AV ao,?_⟩;(conv=>whnf);refine jN (z := .agg #[.slice none 0 0,.slice none 0 0,.string { data := #[] }]) ?_;intro j cr dk ds ag b';(conv=>whnf);refine ⟨AV (xt ao ag),?_⟩;(conv=>whnf);refine jS (vs:=[.slice bo bn bt,.slice bq bm bu,.string bz]) b' rfl rfl cE ?_;intro ap ce c8;(conv=>whnf);have ez:=al.size;have e0:=ao.size;have e1:=a0.size;have az:BP (fun ab=>ab=j) ax ap:=(AD.mod ag).trans ce.but;have cc:AD an ap:=FT ao az om;have dn:(ai<=j/\j<b0.heap.size)\/ax.heap.size<=j\/(j<aa/\j<b0.heap.size) := .inr (.inl dk);have ek:an.heap.size<=j:=om
        generalize ei:b0=eb at *
       rotate_left
       focus
        (conv=>whnf);refine jN (z := .agg #[.slice none 0 0,.slice none 0 0,.string { data := #[] }]) ?_;intro j cr dk ds ag b';(conv=>whnf);refine ⟨AV (xt al ag),?_⟩;(conv=>whnf);have ez:=al.size;have gb:=ag.size;refine (dm _ aa ai ae af aq au (xt al ag) (c5.ext ag) d6 om).mono ?_;rintro _ ax ⟨bo,bn,bt,bq,bm,bu,bz,cd,dy,eg,rfl,d3,a0⟩;(conv=>whnf);have ao:AD an ax:=xm (xt al ag) a0 (fun dr bx=>by have:=bx.1;omega);refine ⟨AV ao,?_⟩;(conv=>whnf);refine jS (vs:=[.slice bo bn bt,.slice bq bm bu,.string bz]) (b'.mod a0 (fun e=>by have:=e.2;omega)) rfl rfl cE ?_;intro ap ce c8;(conv=>whnf);have e0:=ao.size;have e1:=a0.size;have az:BP (fun ab=>ab=j) ax ap:=ce.but;have cc:AD an ap:=FT ao az om;have dn:(ai<=j/\j<cr.heap.size)\/ax.heap.size<=j\/(j<aa/\j<cr.heap.size) := .inl ⟨om,ds⟩;have ek:an.heap.size<=j:=om
        generalize ei:cr=eb at *
      rotate_left 2
      focus
       (conv=>whnf);refine jN (z := .agg #[.slice none 0 0,.slice none 0 0,.string { data := #[] }]) ?_;intro j cr dk ds ag b';(conv=>whnf);refine ⟨AV ag,?_⟩;(conv=>whnf);refine (c0 _ (xt bj ag)).mono ?_;rintro _ b0 ⟨aa,ai,ae,af,aq,au,rfl,d6,d5,c5,al⟩;(conv=>whnf);refine ⟨AV (xt ag al),?_⟩;(conv=>whnf);have ez:=al.size;have gb:=ag.size;refine (dm _ aa ai ae af aq au (xt ag al) c5 om d5).mono ?_;rintro _ ax ⟨bo,bn,bt,bq,bm,bu,bz,cd,dy,eg,rfl,d3,a0⟩;(conv=>whnf);have ao:AD an ax:=xm (xt ag al) a0 (fun dr bx=>by have:=bx.1;omega);refine ⟨AV ao,?_⟩;(conv=>whnf);refine jS (vs:=[.slice bo bn bt,.slice bq bm bu,.string bz]) ((b'.ext al).mod a0 (fun e=>by have:=e.1;omega)) rfl rfl cE ?_;intro ap ce c8;(conv=>whnf);have e0:=ao.size;have e1:=a0.size;have az:BP (fun ab=>ab=j) ax ap:=ce.but;have cc:AD an ap:=FT ao az om;have dn:(ai<=j/\j<b0.heap.size)\/ax.heap.size<=j\/(j<aa/\j<b0.heap.size) := .inr (.inr ⟨om,om⟩);have ek:an.heap.size<=j:=om
       generalize ei:b0=eb at *;have g0:an.heap.size<=aa:=om
      all_goals
       have g8:=az.size;have f0:c3=0->bz=dd.s/\bn<=bt/\bm<=bu/\∃ bw,bw<=ap.heap.size/\Ct ap aa bw bo bn bq bm dd.X dd.Y/\Ab bw cd/\Ab eb.heap.size cd/\Bs eS ap cd dy 9 e9:=fun a4=>by
        obtain ⟨dz,d0,d1,bw,fz,cl,d2,cm,c4⟩:=d3 a4;refine ⟨dz,d0,d1,bw,om,?_,d2,cm,?_⟩
        .rcases dn with ej | ej | ej
         .exact cl _ (az.mono fun ab e=>by have e:ab=j:=e;omega)
         .exact (cl _ (Vc.BP.refl _ _)).mod az (fun ab ch h2 e=>by have e:ab=j:=e;omega)
         .exact (cl _ (Vc.BP.refl _ _)).mod az (fun ab ch h2 e=>by have e:ab=j:=e;omega)
        .exact c4.mod az (fun y t e=>by
          have e:y.block=j:=e;have ch:=cm y t;have h2:=c4.lt y t;omega)
       have c':=(ca.ext a2).ext cc;have b1:=(cu.ext a2).ext cc;have ay:AD w ap:=xt bj cc;by_cases eo:c3=0
       .subst eo;rw [if_neg sI] at ah;obtain ⟨dz,d0,d1,bw,fz,cl,d2,cm,c4⟩:=f0 rfl;(conv=>whnf);refine jA (n:=3) c8.cells rfl ?_;(conv=>whnf);refine jS (vs:=[.slice bo bn bt,.slice bq bm bu,.string bz]) b1 rfl rfl cE ?_;intro g2 cy e5;(conv=>whnf);refine AO (jR (n:=3) rfl e5.cells) ?_;(conv=>whnf);have g9:=cy.but.size;have gm:=bj.size;rw [ah];exact ⟨_,_,_,_,_,_,_,_,_,_,rfl,fun _=>⟨dz,d0,d1,aa,bw,om,om,cl.mod cy.but (fun ab ch h2 e=>by have e:ab=ar:=e;omega),d2,cm.mono om,c4.mod cy.but (fun y t e=>by
         have e:y.block=ar:=e;have:=cm y t;omega)⟩,(fun bv=>absurd rfl bv),xb ay cy.but om⟩
       .rw [if_pos eo] at ah;refine iN ?_;(conv=>whnf);refine jA (n:=3) c'.cells rfl ?_;(conv=>whnf);refine (c0 _ ay).mono ?_;rintro _ f5 ⟨dt,ck,df,dh,dg,di,rfl,f1,f2,cn,a7⟩;(conv=>whnf);refine dM (Lo _ (hN.ext (xt ay a7))) fun f6 a8=>?_;(conv=>whnf);refine Ax (Nat.le_trans (Nat.add_le_add_left (G7 _) _) dE) ?_;(conv=>whnf);refine bS BK (vs:=[Value.string (Fe c3)]) ?_;intro bp f7 dl fx a9 da;have de:=AH (n:=1) (enc:=eS) (xs:=[Fe c3]) AP da dl rfl dE;(conv=>whnf);refine jS (vs:=[.slice df n dh,.slice dg m di,.string D.s]) (b1.ext (xt (xt a7 a8) a9)) rfl rfl cE ?_;intro f8 a5 db;(conv=>whnf);refine AO (jR (n:=3) rfl db.cells) ?_;(conv=>whnf);have gc:=a7.size;have gd:=a8.size;have ge:=a9.size;have gf:=a5.but.size;have fn:=ay.size;have fm:=b1.lt;have co:=cn.desk;rw [ah];exact ⟨_,_,_,_,_,_,_,_,_,_,rfl,fun _=>⟨rfl,co.1,co.2.1,dt,ck,om,om,(cn.ext (xt a8 a9)).desk.2.2.mod a5.but (fun ab ch h2 e=>by have e:ab=ar:=e;omega),(fun y t=>by cases t;show ck<=bp;omega),(fun y t=>by cases t;show w.heap.size<=bp;omega),(de.mod a5.but (fun y t e=>by
         cases t
         have e:bp=ar:=e;omega)).own⟩,(fun bv=>absurd rfl bv),xb (xt (xt (xt ay a7) a8) a9) a5.but om⟩
     .rw [if_pos c2] at ah;refine iN ?_;(conv=>whnf);have c':=ca;have b1:=cu;have ay:AD w q:=cv;refine jA (n:=3) c'.cells rfl ?_;(conv=>whnf);refine (c0 _ ay).mono ?_;rintro _ f5 ⟨dt,ck,df,dh,dg,di,rfl,f1,f2,cn,a7⟩;(conv=>whnf);refine dM (Lo _ (hN.ext (xt ay a7))) fun f6 a8=>?_;(conv=>whnf);refine Ax (Nat.le_trans (Nat.add_le_add_left (G7 _) _) dE) ?_;(conv=>whnf);refine bS BK (vs:=[Value.string (Fe (Bi (Bd f) (g.drop 1)).2)]) ?_;intro bp f7 dl fx a9 da;have de:=AH (n:=1) (enc:=eS) (xs:=[Fe (Bi (Bd f) (g.drop 1)).2]) AP da dl rfl dE;(conv=>whnf);refine jS (vs:=[.slice df n dh,.slice dg m di,.string D.s]) (b1.ext (xt (xt a7 a8) a9)) rfl rfl cE ?_;intro f8 a5 db;(conv=>whnf);refine AO (jR (n:=3) rfl db.cells) ?_;(conv=>whnf);have gc:=a7.size;have gd:=a8.size;have ge:=a9.size;have gf:=a5.but.size;have fn:=ay.size;have fm:=b1.lt;have co:=cn.desk;rw [ah];exact ⟨_,_,_,_,_,_,_,_,_,_,rfl,fun _=>⟨rfl,co.1,co.2.1,dt,ck,om,om,(cn.ext (xt a8 a9)).desk.2.2.mod a5.but (fun ab ch h2 e=>by have e:ab=ar:=e;omega),(fun y t=>by cases t;show ck<=bp;omega),(fun y t=>by cases t;show w.heap.size<=bp;omega),(de.mod a5.but (fun y t e=>by
       cases t
       have e:bp=ar:=e;omega)).own⟩,(fun bv=>absurd rfl bv),xb (xt (xt (xt ay a7) a8) a9) a5.but om⟩
   .have a':cp=((HN,[]),7):=by rw [ah,if_pos (.inr dp)]
    refine Fh (by simp only [Bool.not_eq_true',decide_eq_false_iff_not];omega) ?_;(conv=>whnf);refine AB.build QD rfl ?_;(conv=>whnf);refine jS (vs:=[.slice none 0 0,.slice none 0 0,.string { data := #[] }]) (cb.ext am) rfl rfl cE ?_;intro ad br b9;(conv=>whnf);refine AO (jR (n:=3) rfl b9.cells) ?_;(conv=>whnf);have cj:=ef b8 ad am br a';rw [a'] at cj ⊢;exact cj
  .have fq:(Go.M.deskWordsM.any fun ac=>decide (ac=f))=false:=(Bool.not_eq_true _).mp ci;have a':cp=((HN,[]),7):=by rw [ah,if_pos (.inl ci)]
   rw [fq];(conv=>whnf);refine AB.build QD rfl ?_;(conv=>whnf);refine jS (vs:=[.slice none 0 0,.slice none 0 0,.string { data := #[] }]) cb rfl rfl cE ?_;intro ad br b9;(conv=>whnf);refine AO (jR (n:=3) rfl b9.cells) ?_;(conv=>whnf);have cj:=ef ea ad (AD.refl _) br a';rw [a'] at cj ⊢;exact cj
 .have el:FP D.X m D.s=false:=by simpa using c1
  have a':cp=((HN,[]),1):=by rw [ah,if_pos el]
  rw [a'];refine oV Tryz.func10 ?_;conv=>whnf
  refine AB.box ?_;intro cx f4 fj fw bk ct;(conv=>whnf);refine jN (z := .agg #[.slice none 0 0,.slice none 0 0,.string { data := #[] }]) ?_;intro ar f9 fk fy a3 dc;(conv=>whnf);refine jA (n:=3) (ct.ext a3).cells rfl ?_;(conv=>whnf);refine dM (eh _ (xt bk a3)) fun f' bl=>?_;rw [el];(conv=>whnf);refine AB.build QD rfl ?_;(conv=>whnf);refine jS (vs:=[.slice none 0 0,.slice none 0 0,.string { data := #[] }]) (dc.ext bl) rfl rfl cE ?_;intro ad br b9;(conv=>whnf);refine AO (jR (n:=3) rfl b9.cells) ?_;(conv=>whnf);have ga:=bk.size;exact ⟨_,_,_,_,_,_,_,_,_,_,rfl,(fun h=>by cases h),fun _=>⟨rfl,rfl,rfl,rfl,rfl,rfl,rfl⟩,xb (xt (xt bk a3) bl) br.but om⟩
end Go.Proofs.YtalgenmoljcnmaaGreatDoor
namespace Go.M
open Go Go.Vc
def I0 (x:List (List Int)):Prop:=x.length+Ai Bt x<=1048576
end Go.M
namespace Go.Proofs.YtalgenmoljcnmaaGreatDoor
section
open Go Go.RowKit Go.Vc Go.M
variable {w:World} {a b:Option Addr} {n c m d:Nat} {xs X:List (List (List Int))} {left:Int} {Y:List (List AT)} {s:ByteArray}
theorem Qj (h:Ac CA w a n xs) (h0:0<=left) (h1:left<=1048576) :
  Dq 58 [.slice a n c,.int .i64 left] w (fun v w'=>∃ r:Int,v = .int .i64 r/\(r = -1\/(0<=r/\r+n+(Ai BR xs:Nat)<=left/\FSz I0 xs))/\AD w w'):=by
 have al:=h.len;have ak:=h.le;obtain ⟨ab,p,y⟩:=h;have aj:=p.len;refine oV Tryz.func58 ?_;refine AB.sub (left - n) rfl om om ?_;refine AF (fun ad=>?_) fun ad=>?_
 .exact ⟨-1,rfl,.inl rfl,AD.refl _⟩
 refine lR [0,1,5] (fun (b:Nat) af w'=>∃ r:Int,af=[.slice a n c,.int .i64 r,.int .i64 b]/\b<=n/\0<=r/\r+n+(Ai BR (xs.take b):Nat)<=left/\(∀ l∈xs.take b,I0 l)/\AD w w') (fun b=>n - b) 0 ⟨left - n,rfl,om,om,(by have:Ai BR (xs.take 0)=0:=rfl;omega),sI,AD.refl _⟩ ?_;rintro b ah _ w' ⟨r,rfl,ai,s,aa,i,e⟩;refine AF (fun u=>?_) fun u=>?_
 .obtain ⟨f,j⟩:∃ f,xs[b]? = some f:=AA om;obtain ⟨g,q⟩:∃ g,ab[b]? = some g:=AA om;have o:=y.2 b g f q j;have ao:=o.1.len;have am:=Ep (wt:=BR) j;have an:BR f=Ai Bt f:=rfl;refine jI (p.ext e) b rfl q fun ag ap _ z=>jL z (k:=0) rfl<|(SN (o.1.ext e) s om).mono ?_;rintro _ ar ⟨ae,rfl,t,m⟩;refine AF (fun x=>?_) fun x=>?_
  .exact ⟨-1,rfl,.inl rfl,xt e m⟩
  .refine jP (((b+1:Nat):Int)) ?_;(conv=>whnf);rcases t with t | ⟨ac,aq⟩
   .omega
   refine ⟨b+1,om,ae,rfl,om,ac,om,fun l d=>?_,xt e m⟩;rw [List.take_add_one,j] at d;rcases List.mem_append.1 d with d | d
   .exact i l d
   .simp only [Option.toList_some,List.mem_singleton] at d;subst d;unfold I0;omega
 ·(conv=>whnf);rw [List.take_of_length_le om] at aa i;exact ⟨r,rfl,.inr ⟨s,om,om,i⟩,e⟩
theorem PJ {xs:List (List AT)} (h:Ac FB w a n xs) (hok:∀ x∈xs,No x) (h0:0<=left) (h1:left<=1048576) :
  Dq 59 [.slice a n c,.int .i64 left] w (fun v w'=>∃ r:Int,v = .int .i64 r/\(r = -1\/(0<=r/\r+n<=left/\2 * r+(Ai BX xs:Nat)<=2 * left/\FSz J9 xs))/\AD w w'):=by
 have an:=h.len;have am:=h.le;obtain ⟨ad,o,z⟩:=h;have al:=o.len;refine oV Tryz.func59 ?_;refine AB.sub (left - n) rfl om om ?_;refine AF (fun af=>?_) fun af=>?_
 .exact ⟨-1,rfl,.inl rfl,AD.refl _⟩
 refine lR [0,1,5] (fun (b:Nat) ah w'=>∃ r:Int,ah=[.slice a n c,.int .i64 r,.int .i64 b]/\b<=n/\0<=r/\r+n<=left/\2 * r+(Ai BX (xs.take b):Nat)<=2 * left/\(∀ j∈xs.take b,J9 j)/\AD w w') (fun b=>n - b) 0 ⟨left - n,rfl,om,om,om,(by have:Ai BX (xs.take 0)=0:=rfl;omega),sI,AD.refl _⟩ ?_;rintro b aj _ w' ⟨r,rfl,ak,q,ac,t,i,e⟩;refine AF (fun u=>?_) fun u=>?_
 .obtain ⟨x,f⟩:∃ x,xs[b]? = some x:=AA om;obtain ⟨g,p⟩:∃ g,ad[b]? = some g:=AA om;have m:=z.2 b g x p f;have aq:=m.1.len;have ao:=Ep (wt:=BX) f;have ap:BX x=2 * x.length:=rfl;refine jI (o.ext e) b rfl p fun ai ar _ aa=>jL aa (k:=0) rfl<|(SM (m.1.ext e) (hok x (List.mem_of_getElem? f)) q om).mono ?_;rintro _ av ⟨ag,rfl,s,l⟩;refine AF (fun y=>?_) fun y=>?_
  .exact ⟨-1,rfl,.inl rfl,xt e l⟩
  .refine jP (((b+1:Nat):Int)) ?_;(conv=>whnf);rcases s with s | ⟨ae,au⟩
   .omega
   have ab:J9 x:=by unfold J9;omega
   refine ⟨b+1,om,ag,rfl,om,ae,om,om,fun j d=>?_,xt e l⟩;rw [List.take_add_one,f] at d;rcases List.mem_append.1 d with d | d
   .exact i j d
   .simp only [Option.toList_some,List.mem_singleton] at d;subst d;exact ab
 ·(conv=>whnf);rw [List.take_of_length_le om] at t i;exact ⟨r,rfl,.inr ⟨q,ac,t,om,i⟩,e⟩
theorem Qh (h1:Ac CA w a n X) (h2:Ac FB w b m Y) (hok:∀ x∈Y,No x) (h0:0<=left) (hl:left<=1048576) :
  Dq 25 [.agg #[.slice a n c,.slice b m d],.int .i64 left] w (fun v w'=>∃ r:Int,v = .int .i64 r/\(r = -1\/(0<=r/\r<=left/\(Ai BR X:Nat)<=left/\(Ai BX Y:Nat)<=2 * left/\FSz I0 X/\FSz J9 Y))/\AD w w'):=by
 refine oV Tryz.func25 ?_;refine AB.box ?_;intro z ad _ _ e i;refine jL i.cells (k:=0) rfl<|(Qj (h1.ext e) h0 hl).mono ?_;rintro _ ae ⟨r,rfl,j,g⟩;refine AF (fun p=>?_) fun p=>?_
 .exact ⟨-1,rfl,.inl rfl,xt e g⟩
 .refine jL (i.ext g).cells (k:=1) rfl ?_;(conv=>whnf);have f:=xt e g;rcases j with j | ⟨o,aa,u⟩
  .omega
  refine (PJ (h2.ext f) hok o om).mono ?_;rintro _ af ⟨t,rfl,l,h⟩;refine AF (fun q=>?_) fun q=>?_
  .exact ⟨-1,rfl,.inl rfl,xt f h⟩
  ·(conv=>whnf);rcases l with l | ⟨s,ab,ac,y⟩
   .omega
   exact ⟨t,rfl,.inr ⟨s,om,om,om,u,y⟩,xt f h⟩
theorem Ul (h:Gg w a n b m X Y) (hok:∀ x∈Y,No x) (hs:IP s) (h0:0<=left) (hl:left<=1048576) :
  Dq 7 [.agg #[.slice a n c,.slice b m d,.string s],.int .i64 left] w (fun v w'=>∃ r:Int,v = .int .i64 r/\(r = -1\/(0<=r/\r<=left/\Ai BR X<=1048576/\Ai BX Y<=2097152/\FSz I0 X/\FSz J9 Y/\s.size<=1048576))/\AD w w'):=by
 obtain ⟨l,o⟩:=h;simp only [IP] at hs;refine oV Tryz.func7 ?_;refine AB.box ?_;intro y ad _ _ e i;refine jG (n:=2) (k:=0) i.cells rfl<|(Qh (l.ext e) (o.ext e) hok h0 hl).mono ?_;rintro _ ae ⟨r,rfl,j,f⟩;refine AF (fun p=>?_) fun p=>?_
 .exact ⟨-1,rfl,.inl rfl,xt e f⟩
 .refine jL (i.ext f).cells (k:=2) rfl ?_;(conv=>whnf);have g:=xt e f;rcases j with j | ⟨z,aa,ab,ac,t,u⟩
  .omega
  refine AB.sub (r - s.size) rfl om om<|AF (fun q=>?_) fun q=>?_
  .exact ⟨-1,rfl,.inl rfl,g⟩
  .exact ⟨r - s.size,rfl,.inr ⟨om,om,om,om,t,u,om⟩,g⟩
theorem Qg (h:Ac CA w a n xs) (hsm:FSz I0 xs) :
  Dq 63 [.slice a n c] w (fun v w'=>∃ b,v = .slice (some ⟨b,0,none⟩) n n/\w.heap.size<=b/\Dl Gm w' w.heap.size w'.heap.size (some ⟨b,0,none⟩) n 78 xs/\AD w w'):=by
 have bc:=h.len;have bb:=h.le;have bd:=hsm.1;obtain ⟨a1,ag,aw⟩:=h;have a':=ag.len;refine oV Tryz.func63 ?_;refine AB.make EA n rfl om om ?_;intro b am ae a2 ad av;refine lR [0,3,4] (fun (d:Nat) a4 w'=>∃ i m,a4=[.slice a n c,.slice (some ⟨b,0,none⟩) n n,.int .i64 d]/\d<=n/\AD w w'/\i.length=d/\HJ Gm w' i (xs.take d) m/\Fg am.heap.size w'.heap.size m.flatten/\B8 w' b (Al eH i++Al (fun _:Unit=>[.slice none 0 0]) (List.replicate (n - d) ())) 78/\am.heap.size<=w'.heap.size) (fun d=>n - d) 0 ⟨[],[],rfl,om,ad,rfl,HJ.nil,Fg.nil,by simpa [Al] using av,Nat.le_refl _⟩ ?_;rintro d a7 _ w' ⟨i,m,rfl,a9,u,x,s,aa,t,ak⟩;refine AF (fun au=>?_) fun au=>?_
 .obtain ⟨j,o⟩:∃ j,xs[d]? = some j:=AA om;obtain ⟨l,ah⟩:∃ l,a1[d]? = some l:=AA om;have af:=aw.2 d l j ah o;have ay:=hsm.2 j (List.mem_of_getElem? o);have be:=af.1.len;unfold I0 at ay;refine jI (ag.ext u) d rfl ah fun a6 bf _ az=>jL az (k:=0) rfl<|(SL (af.1.ext u) om).mono ?_;rintro _ a5 ⟨ac,rfl,a8,⟨z,an,y⟩,r⟩;obtain ⟨f,ai⟩:∃ f:Hd,f=⟨some ⟨ac,0,none⟩,l.n,l.n⟩:=⟨_,rfl⟩;have ao:Gm a5 f j z:=by rw [ai];exact ⟨⟨_,an⟩,Nat.le_refl _⟩
  rw [show Value.slice (some ⟨ac,0,none⟩) l.n l.n = .slice f.a f.n f.c by rw [ai]];refine jW (sz:=1) d rfl om ?_;(conv=>whnf);obtain ⟨e,g⟩:∃ e,n - d=e+1:=⟨n - d - 1,om⟩;rw [g] at t;have al:=A1 (enc:=fun _:Unit=>[Value.slice none 0 0]) (sz:=1) (fun _=>rfl) (List.replicate (e+1) ());rw [List.length_replicate] at al;refine jT (t.ext r) (k:=0+d * 1) (by simp only [List.length_append,A1 Dz,al,x];omega) rfl ?_;intro ab q p
  replace p:B8 ab b ((Al eH i++Al (fun _:Unit=>[Value.slice none 0 0]) (List.replicate (e+1) ())).set (0+d * 1) (.slice f.a f.n f.c)) 78:=p
  rw [show 0+d * 1=d by omega,TX x] at p;refine jP (((d+1:Nat):Int)) ?_;have bh:=r.size;have a3:=q.but.size;have aj:=s.lt;have ax:HJ Gm ab i (xs.take d) m:=(s.keep (fun e g=>r.block e (aj e g))).keep (fun e g=>q.but.block e (by have:=aa.2 e g;omega) (by have:=aj e g;omega));have ap:Gm ab f j z:=Ju.keep ao (fun e g=>q.but.block _ (by have:=y.2 e g;omega) (by have:=y.2 e g;omega));have aq:xs.take (d+1)=xs.take d++[j]:=by rw [List.take_add_one,o];rfl
  have ar:n - (d+1)=e:=om
  refine ⟨d+1,om,i++[f],m++[z],rfl,om,(xt u r).but_trans q.but om,by simp [x],?_,?_,?_,om⟩
  .rw [aq];exact ax.snoc ap
  .rw [List.flatten_append];refine Fg.app aa ?_ ak om;simpa using y.wide (Nat.le_refl _) a3
  .rw [ar];exact p
 ·(conv=>whnf);have a0:d=n:=om
  subst a0;rw [List.take_of_length_le om] at s;have bg:=ad.size;have ba:=t.lt;exact ⟨b,rfl,ae,⟨_,⟨i,m,⟨x,om,.inr ⟨b,[],rfl,by simpa [Al] using t⟩⟩,s,rfl⟩,Fg.app (DB (Ab.some ae) (by rintro j o;cases o;exact a2)) aa om ak⟩,u⟩
theorem PI {xs:List (List AT)} (h:Ac FB w a n xs) (hsm:FSz J9 xs) :
  Dq 64 [.slice a n c] w (fun v w'=>∃ b,v = .slice (some ⟨b,0,none⟩) n n/\w.heap.size<=b/\Dl En w' w.heap.size w'.heap.size (some ⟨b,0,none⟩) n 161 xs/\AD w w'):=by
 have ba:=h.len;have a':=h.le;have bb:=hsm.1;obtain ⟨a0,af,av⟩:=h;have a8:=af.len;refine oV Tryz.func64 ?_;refine AB.make Le n rfl om om ?_;intro b al ad a1 ac au;refine lR [0,3,4] (fun (d:Nat) a3 w'=>∃ i o,a3=[.slice a n c,.slice (some ⟨b,0,none⟩) n n,.int .i64 d]/\d<=n/\AD w w'/\i.length=d/\HJ En w' i (xs.take d) o/\Fg al.heap.size w'.heap.size o.flatten/\B8 w' b (Al eH i++Al (fun _:Unit=>[.slice none 0 0]) (List.replicate (n - d) ())) 161/\al.heap.size<=w'.heap.size) (fun d=>n - d) 0 ⟨[],[],rfl,om,ac,rfl,HJ.nil,Fg.nil,by simpa [Al] using au,Nat.le_refl _⟩ ?_;rintro d a5 _ w' ⟨i,o,rfl,a7,x,y,t,z,u,aj⟩;refine AF (fun ar=>?_) fun ar=>?_
 .obtain ⟨j,p⟩:∃ j,xs[d]? = some j:=AA om;obtain ⟨l,ag⟩:∃ l,a0[d]? = some l:=AA om;have ae:=av.2 d l j ag p;have ax:=hsm.2 j (List.mem_of_getElem? p);refine jI (af.ext x) d rfl ag fun a4 bc _ ay=>jL ay (k:=0) rfl<|(SJ (ae.1.ext x) (by have:=ae.1.len;unfold J9 at ax;omega)).mono ?_;rintro _ am ⟨m,rfl,a6,s,ab⟩;obtain ⟨f,ah⟩:∃ f:Hd,f=⟨some ⟨m,0,none⟩,l.n,l.n⟩:=⟨_,rfl⟩;have a2:m<am.heap.size:=ab.lt _ rfl;have an:En am f j [m]:=by rw [ah];exact FR ab (Nat.le_refl _)
  rw [show Value.slice (some ⟨m,0,none⟩) l.n l.n = .slice f.a f.n f.c by rw [ah]];refine jW (sz:=1) d rfl om ?_;(conv=>whnf);obtain ⟨e,g⟩:∃ e,n - d=e+1:=⟨n - d - 1,om⟩;rw [g] at u;have ak:=A1 (enc:=fun _:Unit=>[Value.slice none 0 0]) (sz:=1) (fun _=>rfl) (List.replicate (e+1) ());rw [List.length_replicate] at ak;refine jT (u.ext s) (k:=0+d * 1) (by simp only [List.length_append,A1 Dz,ak,y];omega) rfl ?_;intro aa r q
  replace q:B8 aa b ((Al eH i++Al (fun _:Unit=>[Value.slice none 0 0]) (List.replicate (e+1) ())).set (0+d * 1) (.slice f.a f.n f.c)) 161:=q
  rw [show 0+d * 1=d by omega,TX y] at q;refine jP (((d+1:Nat):Int)) ?_;have be:=s.size;have bf:=r.but.size;have ai:=t.lt;have aw:HJ En aa i (xs.take d) o:=(t.keep (fun e g=>s.block e (ai e g))).keep (fun e g=>r.but.block e (by have:=z.2 e g;omega) (by have:=ai e g;omega));have ao:En aa f j [m]:=Ju.keep an (fun e g=>by
   simp only [List.mem_singleton] at g;subst g;exact r.but.block _ om a2)
  have ap:xs.take (d+1)=xs.take d++[j]:=by rw [List.take_add_one,p];rfl
  have aq:n - (d+1)=e:=om
  refine ⟨d+1,om,i++[f],o++[[m]],rfl,om,(xt x s).but_trans r.but om,by simp [y],?_,?_,?_,om⟩
  .rw [ap];exact aw.snoc ao
  .rw [List.flatten_append];exact Fg.app z (⟨sI,sW⟩) aj om
  .rw [aq];exact q
 ·(conv=>whnf);have az:d=n:=om
  subst az;rw [List.take_of_length_le om] at t;have bd:=ac.size;have a9:=u.lt;exact ⟨b,rfl,ad,⟨_,⟨i,o,⟨y,om,.inr ⟨b,[],rfl,by simpa [Al] using u⟩⟩,t,rfl⟩,Fg.app (DB (Ab.some ad) (by rintro j p;cases p;exact a1)) z om aj⟩,x⟩
theorem Qf (h1:Ac CA w a n X) (h2:Ac FB w b m Y) (f1:FSz I0 X) (f2:FSz J9 Y) :
  Dq 28 [.agg #[.slice a n c,.slice b m d]] w (fun v w'=>∃ a' b',v = .agg #[.slice a' n n,.slice b' m m]/\Ct w' w.heap.size w'.heap.size a' n b' m X Y/\AD w w'):=by
 refine oV Tryz.func28 ?_;refine AB.box ?_;intro ar bb av ay p t;refine jN (z := .agg #[.slice none 0 0,.slice none 0 0]) fun u bc aw az g ab=>jN (z := .agg #[.slice none 0 0,.slice none 0 0]) fun s bd r a0 h ac=>jL (t.ext (xt g h)).cells (k:=0) rfl<|(Qg (h1.ext (xt (xt p g) h)) f1).mono ?_;rintro _ be ⟨aj,rfl,ax,ao,j⟩;refine jT (ac.ext j) (k:=0) dE rfl fun a7 i x=>jL (t.ext (xb (xt (xt g h) j) i.but (nB g r))).cells (k:=1) rfl<|(PI (h2.ext (xb (xt (xt (xt p g) h) j) i.but (nB (xt p g) r))) f2).mono ?_;rintro _ a8 ⟨ai,rfl,au,an,o⟩;refine jT (x.ext o) (k:=1) (Nat.le_of_ble_eq_true rfl) rfl fun a9 l y=>jA (n:=2) y.cells rfl<|AX (vs:=[Value.slice (some ⟨aj,0,none⟩) n n,Value.slice (some ⟨ai,0,none⟩) m m]) kR (ab.ext (xb (xt (xb (xt h j) i.but r) o) l.but r)) rfl rfl (by simp [AM]) fun ba q aa=>AO (jR (n:=2) rfl aa.cells) ?_;have a3:=p.size;have a4:=g.size;have a5:=h.size;have a6:=j.size;have ap:=i.but.size;have aq:=o.size;have a1:=l.but.size;have a2:=q.but.size;obtain ⟨am,ah,af⟩:=(((ao.mod i.but (fun f h1 h2 e=>by have e:f=s:=e;omega)).ext o).mod l.but (fun f h1 h2 e=>by have e:f=s:=e;omega)).mod q.but (fun f h1 h2 e=>by have e:f=u:=e;omega);obtain ⟨al,ag,ae⟩:=(an.mod l.but (fun f h1 h2 e=>by have e:f=s:=e;omega)).mod q.but (fun f h1 h2 e=>by have e:f=u:=e;omega);have ad:=xt p (xt g h);exact ⟨_,_,rfl,⟨_,_,am,al,ah,ag,(Fg.app (af.wide (Nat.le_refl _) ap) ae om aq).wide om om⟩,(((((xt ad j).but_trans i.but om) |> fun ak=>xt ak o).but_trans l.but om).but_trans q.but om)⟩
theorem Ui (h:Gg w a n b m X Y) (f1:FSz I0 X) (f2:FSz J9 Y) :
  Dq 9 [.agg #[.slice a n c,.slice b m d,.string s]] w (fun v w'=>∃ a' b',v = .agg #[.slice a' n n,.slice b' m m,.string s]/\Ct w' w.heap.size w'.heap.size a' n b' m X Y/\AD w w'):=by
 obtain ⟨r,t⟩:=h;refine oV Tryz.func9 ?_;refine AB.box ?_;intro ak a1 al am g x;refine jN (z := .agg #[.slice none 0 0,.slice none 0 0,.string { data := #[] }]) fun ag a2 ai an e ad=>jN (z := .agg #[.slice none 0 0,.slice none 0 0,.string { data := #[] }]) fun y a3 o ao i ae=>jG (n:=2) (k:=0) (x.ext (xt e i)).cells rfl<|(Qf (r.ext (xt (xt g e) i)) (t.ext (xt (xt g e) i)) f1 f2).mono ?_;rintro _ a4 ⟨af,ah,rfl,aj,l⟩;refine Cl kR (ae.ext l) rfl (k:=0) (by simp [Value.cells]) (by simp [AM]) fun ay j aa=>jL (x.ext (xb (xt (xt e i) l) j.but (nB e o))).cells (k:=2) rfl<|jT aa (k:=2) (Nat.le_of_ble_eq_true rfl) rfl fun az q ab=>jA (n:=3) ab.cells rfl<|jS (vs:=[Value.slice af n n,Value.slice ah m m,Value.string s]) (ad.ext (xb (xb (xt i l) j.but o) q.but o)) rfl rfl (by simp [AM]) fun a0 u ac=>AO (jR (n:=3) rfl ac.cells) ?_;have au:=g.size;have av:=e.size;have aw:=i.size;have ax:=l.size;have ap:=j.but.size;have aq:=q.but.size;have ar:=u.but.size;refine ⟨_,_,rfl,(((aj.mod j.but (fun p r t f=>by have f:p=y:=f;omega)).mod q.but (fun p r t f=>by have f:p=y:=f;omega)).mod u.but (fun p r t f=>by have f:p=ag:=f;omega)).wide om om,(xb (xb (xb (xt (xt (xt g e) i) l) j.but (nB (xt g e) o)) q.but (nB (xt g e) o)) u.but (nB g ai))⟩
end
section
open Go
theorem IG {a b:Bool} (h:a=true) (k:b=true):(a && b)=true:=by rw [h,k];rfl
theorem Yj:Tryz.pinned.checked.prog.mainIs=some (Rows.fnExactRunDeskCard.stood.harness.1,Rows.fnExactRunDeskCard.stood.harness.2.toList):=by kernel_rfl
theorem XA:Tryz.prog.stopsHeard=true:=by kernel_rfl
theorem XB:Tryz.prog.mayEnter=true:=by kernel_rfl
theorem W9:(Rows.fnExactRunDeskCard.stood.row.lifted == Tryz.prog.liftsFinal)=true:=by kernel_rfl
theorem Yi:(Tryz.prog.make == some Rows.fnExactRunDeskCard.stood.row.make)=true:=by kernel_rfl
theorem W8:true=Tryz.pinned.checked.prog.looks []:=by kernel_rfl
end
end Go.Proofs.YtalgenmoljcnmaaGreatDoor
namespace Go.M
open Go Go.Vc
def aA6 (s:ByteArray) (Y:List (List AT)):Prop:=IP s/\∀ x∈Y,No x
end Go.M
namespace Go.Proofs.YtalgenmoljcnmaaGreatDoor
section
open Go Go.RowKit Go.Vc Go.M Go.ChangeShapes Go.WideShapes Go.ChangeAt
open Go.ChangeMaps (open_string)
variable {H:Type} {fuel:Nat} {cs:List Value}
set_option maxRecDepth 100000 in
theorem XK {enc:TypeId×Value->H} (W:World) {x:DataW H×List MemPlace} (h:DataW.trod enc Tryz.prog W 0 (fun _=>true) true fuel 243 cs=some x) :
  ∃ d y,cs=eH d/\AZ W d y/\True:=by
 have l:cs.length=1:=(Ly Tryz.underlying243 h).1.trans kR;obtain ⟨i,y,a⟩:=MW Tryz.underlying243 h 0 rfl (ft:=65) (off:=0) (sz:=1) rfl rfl kR;have c:(cs.drop 0).take 1=cs:=by rw [List.drop_zero,List.take_of_length_le om]
 rw [c] at a;obtain ⟨d,k,e,b,_,g⟩:=P5 (encα:=eI) (ok:=fun _=>True) (sz:=1) Tryz.underlying65 kR om (fun i cs x h=>let ⟨j,f,_,_⟩:=DataW.trod_int Tryz.underlying2 h;⟨j,f,trivial⟩) AI a;exact ⟨d,k,e,⟨b,g⟩,trivial⟩
theorem XJ {enc:TypeId×Value->H} (W:World) {x:DataW H×List MemPlace} (h:DataW.trod enc Tryz.prog W 0 (fun _=>true) true fuel 165 cs=some x) :
  ∃ d y,cs=eH d/\CA W d y/\True:=by
 obtain ⟨d,e,b,a,_,c⟩:=NZ (R:=AZ) (ok:=fun _=>True) Tryz.underlying165 kR (fun f cs x h=>XK W h) h;exact ⟨d,e,b,⟨a,c⟩,trivial⟩
theorem XH {enc:TypeId×Value->H} (W:World) {x:DataW H×List MemPlace} (h:DataW.trod enc Tryz.prog W 0 (fun _=>true) true fuel 167 cs=some x) :
  ∃ d y,cs=eH d/\FB W d y/\No y:=by
 obtain ⟨d,f,b,a,e,c⟩:=P5 (encα:=AT.enc) (ok:=AT.ok) (sz:=2) Tryz.underlying167 kR om (fun g cs x h=>Rh (YU (ks:=[true,false]) kR h)) BJ h;exact ⟨d,f,b,⟨a,c⟩,e⟩
set_option maxRecDepth 100000 in
theorem XI {enc:TypeId×Value->H} (W:World) {v:Value} {d:DataW H} {p:List MemPlace} {base:Nat} (hok:Value.okWide Tryz.prog W .any base 29 v) (h:DataW.Trod enc Tryz.prog W 0 (fun _=>true) true 29 v d p) :
  ∃ k s X Y,v=dkV k s/\DkR W k X Y/\aA6 s Y:=by
 obtain ⟨b,o,rfl,g⟩:=Zj Tryz.underlying29 hok h;have w:b.length=3:=(Ly Tryz.underlying29 g).1.trans kR;obtain ⟨ah,aj,l⟩:=MW Tryz.underlying29 g 0 rfl (ft:=27) (off:=0) (sz:=2) rfl rfl kR;obtain ⟨ai,ak,u⟩:=MW Tryz.underlying29 g 1 rfl (ft:=9) (off:=2) (sz:=1) rfl rfl kR;obtain ⟨s,m,_,x⟩:=DataW.trod_string Tryz.underlying9 u;obtain ⟨af,al,ab⟩:=MW Tryz.underlying27 l 0 rfl (ft:=24) (off:=0) (sz:=1) rfl rfl kR;obtain ⟨ag,am,ac⟩:=MW Tryz.underlying27 l 1 rfl (ft:=25) (off:=1) (sz:=1) rfl rfl kR;obtain ⟨e,X,i,r,_,ad⟩:=NZ (R:=CA) (ok:=fun _=>True) Tryz.underlying24 kR (fun o b q h=>XJ W h) ab;obtain ⟨f,Y,j,t,aa,ae⟩:=NZ (R:=FB) (ok:=No) Tryz.underlying25 kR (fun o b q h=>XH W h) ac;refine ⟨⟨e.a,e.n,e.c,f.a,f.n,f.c⟩,s,X,Y,?_,⟨r,t⟩,x,aa⟩
 match b,w with
 | [q,y,z],_ =>
  simp [eH] at i j m;subst i j m;rfl
end
section
open Go Go.RowKit Go.Vc Go.M
variable {w:World} {a:Option Addr} {n c k0:Nat} {xs:List ByteArray}
theorem Qn {a':Option Addr} {n' c':Nat} {ys:List ByteArray} (h:A4 eS 1 w a n xs) (h':A4 eS 1 w a' n' ys) :
  Dq 12 [.slice a n c,.slice a' n' c'] w (fun v w'=>v = .bool (decide (xs=ys))/\AD w w'):=by
 have aa:=h.len;have ab:=h'.len;have z:=h.le;refine oV Tryz.func12 ?_;conv=>whnf
 refine AW (fun o=>?_) fun o=>?_
 .refine ⟨?_,AD.refl _⟩;have:¬ xs=ys:=fun m=>by subst m;omega
  rw [decide_eq_false this]
 .refine lR [0,1,5] (fun (b:Nat) s w'=>s=[.slice a n c,.slice a' n' c',.int .i64 b]/\b<=n/\xs.take b=ys.take b/\AD w w') (fun b=>n - b) 0 ⟨rfl,om,sI,AD.refl _⟩ ?_;rintro b x _ w' ⟨rfl,y,j,d⟩;refine AF (fun p=>?_) fun p=>?_
  .obtain ⟨k,f⟩:∃ k,xs[b]? = some k:=AA om;obtain ⟨l,g⟩:∃ l,ys[b]? = some l:=AA om;refine BS A7 mixed kR kR<|dI (h.ext d) b rfl f fun t ac _ q=>dO q rfl<|dI (h'.ext d) b rfl g fun u ad _ r=>dO r rfl fun ae i=>AW (fun e=>?_) fun e=>?_
   .exact ⟨by rw [decide_eq_false (Nu f g e)],xt d i⟩
   .exact AB.add (b+1) rfl om om ⟨b+1,om,rfl,om,JO j f g e,xt d i⟩
  .refine ⟨?_,d⟩;rw [decide_eq_true (MM j om om)]
theorem N2 {t:Nat} (h:Bs eS w a n t xs) (hk0:k0+n<=1000000000) :
  Dq 14 [.slice a n c,.int .i64 k0] w (fun v w'=>v = .int .i64 ((k0+n:Nat):Int)/\BP (AL a) w w'/\Bs eS w' a n t (HR k0 n)):=by
 obtain ⟨ac,x,g⟩:=h;refine oV Tryz.func14 ?_;refine lR [0,1,5] (fun (b:Nat) z w'=>z=[.slice a n c,.int .i64 ((k0+b:Nat):Int),.int .i64 b]/\b<=n/\BP (AL a) w w' /\
  ((a=none/\n=0)\/∃ d rest,a=some ⟨d,0,none⟩/\B8 w' d (Al eS (HR k0 b++xs.drop b)++rest) t)) (fun b=>n - b) 0 ⟨rfl,om,BP.refl _ _,?_⟩ ?_
 .rcases g with g | ⟨d,rest,i,f⟩
  .exact .inl g
  .exact .inr ⟨d,rest,i,by simpa [HR] using f⟩
 rintro b aa _ w' ⟨rfl,ab,m,e⟩;refine AF (fun p=>?_) fun p=>?_
 .obtain ⟨d,rest,rfl,f⟩:∃ d rest,a=some ⟨d,0,none⟩/\B8 w' d (Al eS (HR k0 b++xs.drop b)++rest) t:=by
   rcases e with ⟨_,e⟩ | e
   .omega
   .exact e
  obtain ⟨j,y⟩:∃ j,xs[b]? = some j:=AA om;refine dM (G5 (k0+b) om w') fun ae l=>jW (sz:=1) b rfl om ?_;have u:(HR k0 b).length=b:=Mn _ _;refine jT (f.ext l) (k:=0+b * 1) (by
   simp only [List.length_append,A1 AP,List.length_drop];omega) rfl ?_
  intro af r q;refine jP (((k0+(b+1):Nat):Int))<|jP (((b+1:Nat):Int)) ⟨b+1,om,rfl,om,m.trans ((AD.mod l).trans (r.but.mono fun ad s=>⟨_,rfl,s⟩)),.inr ⟨d,rest,rfl,?_⟩⟩;have o:(Al eS (HR k0 b++xs.drop b)++rest).set (0+b * 1) (.string (IU (k0+b)))=Al eS (HR k0 (b+1)++xs.drop (b+1))++rest:=by
   have:=Ia AP (HR k0 b) (xs.drop (b+1)) j (IU (k0+b)) rest 0 (.string (IU (k0+b))) om rfl;rw [Gv y,XR,List.append_assoc];rw [u] at this;simpa using this
  rw [<- o];exact q
 ·(conv=>whnf);have:b=n:=om
  subst this;refine ⟨rfl,m,Mn _ _,x,?_⟩;rcases e with e | ⟨d,rest,i,f⟩
  .exact .inl e
  .refine .inr ⟨d,rest,i,?_⟩;rw [List.drop_eq_nil_of_le om] at f;simpa using f
theorem I7 (h:A4 eS 1 w a n (HR k0 n)) (hk0:k0+n<=1000000000) :
  Dq 16 [.slice a n c,.int .i64 k0] w (fun v w'=>v = .int .i64 ((k0+n:Nat):Int)/\AD w w'):=by
 have q:=h.le;refine oV Tryz.func16 ?_;refine lR [0,1,5] (fun (b:Nat) l w'=>l=[.slice a n c,.int .i64 ((k0+b:Nat):Int),.int .i64 b]/\b<=n/\AD w w') (fun b=>n - b) 0 ⟨rfl,om,AD.refl _⟩ ?_;rintro b o _ w' ⟨rfl,p,d⟩;refine AF (fun g=>?_) fun g=>?_
 .have j:=Yq (k:=k0) (show b<n by omega);exact BS A7 mixed kR kR<|dI (h.ext d) b rfl j fun m r _ i=>dO i rfl<|Rs (fun e _=>G5 (k0+b) om e) fun e f=>DY sI<|jP (((k0+(b+1):Nat):Int))<|jP (((b+1:Nat):Int)) ⟨b+1,om,rfl,om,xt d f⟩
 ·(conv=>whnf);have:b=n:=om
  subst this;exact ⟨rfl,d⟩
end
end Go.Proofs.YtalgenmoljcnmaaGreatDoor
namespace Go.M
open Go Go.Vc
variable {D:B7}
theorem aA9 {line:ByteArray} (h:(EM D line).2≠0):(EM D line).1=(HN,[]):=by
 unfold EM at h ⊢;split
 .rfl
 .rename_i c;rw [if_neg c] at h;split
  .rfl
  .rename_i d;rw [if_neg d] at h;split
   .rename_i b;rw [if_pos b] at h;exact absurd rfl h
   .rename_i b;rw [if_neg b] at h;split
    .rename_i a;rw [if_pos a] at h;exact absurd rfl h
    .rename_i a;rw [if_neg a] at h;exact absurd h a
theorem Xs {α:Type} {wt:α->Nat} {B:Nat}:∀ {xs:List α},(∀ x∈xs,wt x<=B)->Ai wt xs<=xs.length * B
 | [],_=>by simp [Ai]
 | x :: xs,h=>by
  have h1:=Xs (xs:=xs) fun b a=>h b (List.mem_cons_of_mem _ a);have c:=h x sI;rw [Lw,List.length_cons,Nat.add_mul];omega
theorem aJ2 (line:ByteArray) (hY:∀ y∈D.Y,y.length<=1048576):Ai BR (EM D line).1.1.X<=4800/\Ai BX (EM D line).1.1.Y<=41943040/\(EM D line).1.2.length<=4001:=by
 by_cases a:(EM D line).2=0
 .have g:FP D.X D.Y.length D.s=true:=Classical.byContradiction fun d=>by
   unfold EM at a;rw [if_pos (by simpa using d)] at a;cases a
  obtain ⟨i,j⟩:=ZB line g;have l:=j a hY;rcases To line g with d | ⟨_,t,_⟩
  .omega
  .obtain ⟨o,_⟩:=Dj.1 t;obtain ⟨f,k,p⟩:=A8 o;generalize (EM D line).1=c at *;refine ⟨?_,?_,i.n⟩
   .have:=Xs (wt:=BR) (B:=800) (xs:=c.1.X) fun b r=>by
     have e:=p b r;have m:=Xs (wt:=Bt) (B:=20) (xs:=b) fun h q=>(Bp (e.2 h q).1).2.1;have f:b.length * 20<=40 * 20:=Nat.mul_le_mul_right _ e.1;unfold BR;omega
    rw [f] at this;omega
   .have:=Xs (wt:=BX) (B:=2097152) (xs:=c.1.Y) fun y u=>by
     have:=l y u;unfold BX;omega
    have m:c.1.Y.length * 2097152<=20 * 2097152:=Nat.mul_le_mul_right _ k;omega
 .rw [aA9 a];simp [HN,Ai]
end Go.M
namespace Go.Proofs.YtalgenmoljcnmaaGreatDoor
open Go Go.Shelf Go.Proofs Go.RowKit Go.Vc Go.M Go.ChangeShapes Go.WideShapes Go.ChangeAt
open Go.ChangeMaps (open_string)
variable {H:Type} {w w':World} {v:Value} {r:(B7×List ByteArray)×Int}
theorem aG3.all (h:aG3 w w' v r) (hr:r.2≠0->r.1=(HN,[])):∃ a n c b m d al nl cl,v = .tuple #[.agg #[.slice a n c,.slice b m d,.string r.1.1.s],.slice al nl cl,.int .i64 r.2]/\Rr w' w.heap.size w'.heap.size a n b m r.1.1.X r.1.1.Y/\Ab w.heap.size al/\Bs eS w' al nl 9 r.1.2/\AD w w':=by
 obtain ⟨k,u,g,l,t,i,aa,al,nl,cl,rfl,o,p,j⟩:=h;by_cases e:r.2=0
 .obtain ⟨rfl,x,y,z⟩:=o e;exact ⟨k,u,g,l,t,i,al,nl,cl,rfl,x,y,z,j⟩
 .obtain ⟨rfl,rfl,rfl,rfl,rfl,rfl,rfl⟩:=p e;have f:=hr e;refine ⟨none,0,g,none,0,i,none,0,cl,by rw [f];rfl,fun ab _=>?_,(fun ac q=>by cases q),?_,j⟩
  .rw [f];exact ⟨Ac.nil,Ac.nil⟩
  .rw [f];exact (An.nil (sz:=1) (B:=0)).own
theorem aB8.all (h:aB8 w w' v r) (hr:r.2≠0->r.1=(HN,[])):∃ a n c b m d al nl cl lo hi,v = .tuple #[.agg #[.slice a n c,.slice b m d,.string r.1.1.s],.slice al nl cl,.int .i64 r.2]/\w.heap.size<=lo/\hi<=w'.heap.size/\Ct w' lo hi a n b m r.1.1.X r.1.1.Y/\Ab hi al/\Ab w.heap.size al/\Bs eS w' al nl 9 r.1.2/\AD w w':=by
 obtain ⟨l,u,j,o,t,k,ae,al,nl,cl,rfl,p,q,e⟩:=h;by_cases f:r.2=0
 .obtain ⟨rfl,_,_,lo,hi,x,y,z,aa,ab,ac⟩:=p f;exact ⟨l,u,j,o,t,k,al,nl,cl,lo,hi,rfl,x,y,z,aa,ab,ac,e⟩
 .obtain ⟨rfl,rfl,rfl,rfl,rfl,rfl,rfl⟩:=q f;have g:=hr f;refine ⟨none,0,j,none,0,k,none,0,cl,w'.heap.size,w'.heap.size,by rw [g];rfl,e.size,Nat.le_refl _,?_,(fun ad i=>by cases i),(fun ad i=>by cases i),?_,e⟩
  .rw [g];exact ⟨78,161,[],[],(Jv (B:=0)).own,(Jv (B:=0)).own,Fg.nil⟩
  .rw [g];exact (An.nil (sz:=1) (B:=0)).own
set_option maxHeartbeats 4000000 in
theorem PU {k:Dk} {s line:ByteArray} {X:List (List (List Int))} {Y:List (List AT)} (h:DkR w k X Y) (ok:aA6 s Y) (ok1:IP line) (hT:GR w) (hEr:Eg w) (hM:EE w) (hN:E6 w) :
  Dq 4 [dkV k s,.string line] w (fun v w'=>v = .bool true/\AD w w'):=by
 obtain ⟨fh,fg⟩:=ok;obtain ⟨dh,bd,dj,di,ax,dk⟩:=k;have gd:ax=Y.length:=(DkR.ext h (AD.refl _)).2.len.symm;have de:∀ a,AD w a->Dq 7 [.agg #[.slice dh bd dj,.slice di ax dk,.string s],.int .i64 1048576] a _:=fun a l=>Ul (Gg.ext h l) fg fh om om;have bc:∀ a,AD w a->Go.M.FSz I0 X->Go.M.FSz J9 Y->Dq 9 [.agg #[.slice dh bd dj,.slice di ax dk,.string s]] a _:=fun a l aj ae=>Ui (Gg.ext h l) aj ae;have df:(∀ e∈Y,e.length<=1048576)->_:=aJ2 (D:=⟨X,Y,s⟩) line;have cb:(EM ⟨X,Y,s⟩ line).2≠0->_:=aA9;have e6:∀ a g i j o q t,Gg a g i o q X Y->s.size<=1048576->(∀ e∈Y,e.length<=1048576)->line.size<=1048576->Dq 8 [.agg #[.slice g i j,.slice o q t,.string s],.string line] a _:=fun a g i j o q t av u p b7=>(Nh (D:=⟨X,Y,s⟩) (c:=j) (d:=t) av.1 av.2 u p b7).mono fun v w' x=>aG3.all x cb;have dd:∀ a g i j o q t,AD w a->Gg a g i o q X Y->s.size<=1048576->(∀ e∈Y,e.length<=1048576)->line.size<=1048576->Dq 10 [.agg #[.slice g i j,.slice o q t,.string s],.string line] a _:=fun a g i j o q t l av u p b7=>(OF (D:=⟨X,Y,s⟩) (c:=j) (d:=t) av.1 av.2 u p b7 (hT.ext l) (hEr.ext l) (hM.ext l) (hN.ext l)).mono fun v w' x=>aB8.all x cb;have bb:∀ a g i j o q t ac af aq b0 cc c8 (X:List (List (List Int))) (Y:List (List AT)) (s:ByteArray),Gg a g i o q X Y->Gg a ac af b0 cc X Y->Dq 11 [.agg #[.slice g i j,.slice o q t,.string s],.agg #[.slice ac af aq,.slice b0 cc c8,.string s]] a (fun v w'=>v = .bool true/\AD a w'):=fun a g i j o q t ac af aq b0 cc c8 X Y s u p=>(V8 u p).mono (by
  rintro _ fl ⟨rfl,l⟩;exact ⟨sI,l⟩)
 have b8:∀ a g i j ac af aq (bu:List ByteArray),A4 eS 1 a g i bu->A4 eS 1 a ac af bu->Dq 12 [.slice g i j,.slice ac af aq] a (fun v w'=>v = .bool true/\AD a w'):=fun a g i j ac af aq bu u p=>(Qn u p).mono (by
  rintro _ fl ⟨rfl,l⟩;exact ⟨sI,l⟩)
 generalize EM ⟨X,Y,s⟩ line=fi at *;obtain ⟨⟨⟨ao,ap,cd⟩,fp⟩,f3⟩:=fi;dsimp only at *;clear cb;refine oV Tryz.func4 ?_;conv=>whnf
 refine AB.box ?_;intro fw gu ga e8 b1 ch;(conv=>whnf);with_reducible refine AF (fun p=>?_) (fun p=>?_)
 ·(conv=>whnf);exact ⟨rfl,b1⟩
 (conv=>whnf);refine jA (n:=3) ch.cells rfl ?_;(conv=>whnf);refine (de _ b1).mono ?_;rintro _ g7 ⟨gt,rfl,dl,b5⟩;have a3:=(xt b1 b5);(conv=>whnf);with_reducible refine AF (fun e4=>?_) (fun e4=>?_)
 ·(conv=>whnf);exact ⟨rfl,a3⟩
 obtain ⟨f7,f8,f9,f',aj,ae,b6⟩:=dl.resolve_left om;have e0:=ae.2;have ba:∀ e∈Y,e.length<=1048576:=fun e f=>by have:=e0 e f;unfold J9 at this;exact this
 obtain ⟨ge,gf,gg⟩:=df ba;have ca:line.size<=1048576:=om
 have al:=ch.ext b5;clear de df dl;(conv=>whnf);refine jA (n:=3) al.cells rfl ?_;(conv=>whnf);refine (bc _ a3 aj ae).mono ?_;rintro _ cf ⟨fs,fz,rfl,cu,a8⟩;have d0:=xt a3 a8;(conv=>whnf);refine (e6 _ _ _ _ _ _ _ cu.rd b6 ba ca).mono ?_;rintro _ az ⟨d9,fe,eh,ec,fb,en,fu,gr,f5,rfl,cz,fo,bw,a9⟩;have bq:=xt d0 a9;have hg:=a3.size;have hh:=a8.size;have hi:=a9.size;(conv=>whnf);refine jN (z := .agg #[.slice none 0 0,.slice none 0 0,.string { data := #[] }]) ?_;intro ef g8 e1 e9 ew ck;(conv=>whnf);refine jS (vs:=[.slice d9 fe eh,.slice ec fb en,.string cd]) ck rfl rfl cE ?_;intro be c7 cl;have an:AD az be:=ew.but_trans c7.but e1;have hl:=an.size;(conv=>whnf);refine jA (n:=3) (al.ext (xt (xt a8 a9) an)).cells rfl ?_;(conv=>whnf);refine (bc _ (xt bq an) aj ae).mono ?_;rintro _ dn ⟨d',ed,rfl,bn,a'⟩;have hj:=a'.size;(conv=>whnf);refine jN (z := .agg #[.slice none 0 0,.slice none 0 0,.string { data := #[] }]) ?_;intro f0 g9 e2 gi ex co;(conv=>whnf);refine jS (vs:=[.slice d' bd bd,.slice ed ax ax,.string s]) co rfl rfl cE ?_;intro dq ej bj;have ag:AD dn dq:=ex.but_trans ej.but e2;have hm:=ag.size;have d4:=xt (xt bq an) (xt a' ag);(conv=>whnf);refine jA (n:=3) bj.cells rfl ?_;(conv=>whnf);refine (dd _ _ _ _ _ _ _ d4 (bn.ext ag).rd b6 ba ca).mono ?_;rintro _ dp ⟨ea,ff,ei,ee,fc,eo,fv,gs,f6,gn,gc,rfl,gp,gh,cv,cg,ak,a6,au⟩;have hk:=au.size;(conv=>whnf);refine jN (z := .agg #[.slice none 0 0,.slice none 0 0,.string { data := #[] }]) ?_;intro f1 g' dc gj ey cq;(conv=>whnf);refine jS (vs:=[.slice ea ff ei,.slice ee fc eo,.string cd]) cq rfl rfl cE ?_;intro bf ek bl;have ab:AD dp bf:=ey.but_trans ek.but dc;have hn:=ab.size;have a4:AD az bf:=xt (xt an (xt a' ag)) (xt au ab);have d1:AD be bf:=xt (xt a' ag) (xt au ab);have cy:=xt bq a4;have bi:=cl.ext d1;have bk:=bj.ext (xt au ab);have bh:=al.ext (xt (xt a8 a9) a4);have bp:=cv.ext ab;have bz:=a6.ext ab;have bo:=bn.ext (xt ag (xt au ab));have bv:=cz.mod (S:=fun _=>False) (AD.mod a4) (fun _ h=>h.elim) (Nat.le_refl _) (Nat.le_refl _);have bx:=bw.ext a4;have b9:=bw.lt;have e5:=a6.lt;have gl:=a6.1;have e':ef<be.heap.size:=Nat.lt_of_lt_of_le e9 c7.but.size;clear cz bw cv a6 bn cu cl bj ck co cq;(conv=>whnf);refine jA (n:=3) bl.cells rfl ?_;(conv=>whnf);refine jA (n:=3) bi.cells rfl ?_;(conv=>whnf);refine (bb _ _ _ _ _ _ _ _ _ _ _ _ _ _ _ _ bp.rd bv.rd).mono ?_;rintro _ gv ⟨rfl,b2⟩;(conv=>whnf);refine (b8 _ _ _ _ _ _ _ _ ((bz.ext b2).arr AP) ((bx.ext b2).arr AP)).mono ?_;rintro _ gw ⟨rfl,ep⟩;have am:=xt b2 ep;(conv=>whnf);refine DY (by simp;done) ?_;(conv=>whnf);refine dH (pB [0,3,5,7,9]) ?_;(conv=>whnf);intro gx ad;(conv=>whnf);refine dA (n:=3) (bk.ext am).cells rfl ?_;(conv=>whnf);refine jA (n:=3) (bh.ext (xt am ad)).cells rfl ?_;(conv=>whnf);refine ⟨ad,?_⟩;(conv=>whnf);refine (bc _ (xt cy (xt am ad)) aj ae).mono ?_;rintro _ gy ⟨fq,fx,rfl,dw,a7⟩;(conv=>whnf);refine ⟨xt ad a7,?_⟩;(conv=>whnf);refine (bb _ _ _ _ _ _ _ _ _ _ _ _ _ _ _ _ (bo.ext (xt am (xt ad a7))).rd dw.rd).mono ?_;rintro _ dm ⟨rfl,c9⟩;(conv=>whnf);refine ⟨xt (xt ad a7) c9,?_⟩;(conv=>whnf);have m:AD bf dm:=xt am (xt (xt ad a7) c9);have cp:=bk.ext m;have cr:=bl.ext m;have cm:=bi.ext m;have ci:=bh.ext m;have cw:=bp.ext m;have c5:=bz.ext m;have c3:=bx.ext m;have c0:=bv.mod (S:=fun _=>False) (AD.mod m) (fun _ h=>h.elim) (Nat.le_refl _) (Nat.le_refl _);have d2:=xt cy m;have hb:=m.size;refine jA (n:=3) cp.cells rfl ?_;(conv=>whnf);refine (Lh (k0:=1) (bo.ext m) om).mono ?_;rintro _ fj ⟨rfl,aa,_⟩;have hc:=aa.size;have mv:∀ {y:Nat} {ar:List Value} {ay:Nat},B8 dm y ar ay->(y<be.heap.size\/dn.heap.size<=y)->B8 fj y ar ay:=fun bg e7=>bg.mod aa (fun b=>by have:=b.1;have:=b.2;omega);have bm:=mv cr (.inr om);have cn:=mv cm (.inl e');have cj:=mv ci (.inl (by have:=al.lt;omega));have cx:=cw.mod aa (fun k u p b=>by have:=b.2;omega);have c6:=c5.mod aa (fun e f b=>by have:=b.2;have:=ak e f;omega);have c4:=c3.mod aa (fun e f b=>by have:=b.1;have:=b9 e f;omega);have c1:=c0.mod (lo':=cf.heap.size) (hi':=az.heap.size) aa (fun k b x=>by have:=b.1;have:=x.2;omega) (Nat.le_refl _) (Nat.le_refl _);have d3:=xm d2 aa (fun dg b'=>by have:=b'.1;omega);clear mv cr cm ci cw c5 c3 c0 bl bi bh bp bz bx bv bk cp al bo aa;(conv=>whnf);refine jA (n:=3) bm.cells rfl ?_;(conv=>whnf);refine jA (n:=3) cn.cells rfl ?_;(conv=>whnf);refine (bb _ _ _ _ _ _ _ _ _ _ _ _ _ _ _ _ cx.rd c1.rd).mono ?_;rintro _ gz ⟨rfl,b3⟩;(conv=>whnf);refine (b8 _ _ _ _ _ _ _ _ ((c6.ext b3).arr AP) ((c4.ext b3).arr AP)).mono ?_;rintro _ fk ⟨rfl,eq⟩;have r:=xt b3 eq;have hd:=r.size;(conv=>whnf);refine DY (by simp;done) ?_;(conv=>whnf);refine jA (n:=3) (bm.ext r).cells rfl ?_;(conv=>whnf);refine (Lh (k0:=1) (cx.ext r) om).mono ?_;rintro _ g0 ⟨rfl,ah,dx⟩;have he:=ah.size;(conv=>whnf);refine (N2 (k0:=1+Ai BR ao+Ai BX ap) ((c6.ext r).mod ah (fun e f b=>by have:=b.2;have:=cg e f;omega)) om).mono ?_;rintro _ ce ⟨rfl,ai,c2⟩;have hf:=ai.size;have ct:=dx.mod ai (fun k u p ⟨e,f,b⟩=>by have:=cg e f;omega);have mv:∀ {y:Nat} {ar:List Value} {ay:Nat},B8 fk y ar ay->(y<dq.heap.size\/dp.heap.size<=y)->B8 ce y ar ay:=fun bg e7=>(bg.mod ah (fun b=>by have:=b.1;have:=b.2;omega)).mod ai (fun ⟨e,f,b⟩=>by have:=ak e f;have:=e5 e f;omega);have cs:=mv (bm.ext r) (.inr dc);have dt:=mv (cn.ext r) (.inl om);have ds:=mv (cj.ext r) (.inl (by have:=cj.lt;have:=e8;have:=b5.size;omega));have d7:=((c4.ext r).mod ah (fun e f b=>by have:=b.1;have:=b9 e f;omega)).mod ai (fun e f ⟨a0,aw,b⟩=>by have:=ak a0 aw;have:=b9 e f;omega);have d5:=((c1.mod (S:=fun _=>False) (AD.mod r) (fun _ h=>h.elim) (Nat.le_refl _) (Nat.le_refl _)).mod (lo':=cf.heap.size) (hi':=az.heap.size) ah (fun k b x=>by have:=b.1;have:=x.2;omega) (Nat.le_refl _) (Nat.le_refl _)).mod (lo':=cf.heap.size) (hi':=az.heap.size) ai (fun k ⟨a0,aw,b⟩ x=>by have:=ak a0 aw;have:=x.2;omega) (Nat.le_refl _) (Nat.le_refl _);have bt:=xm (xm (xt d3 r) ah (fun dg b'=>by have:=b'.1;omega)) ai (fun dg ⟨a0,aw,b⟩=>by have:=ak a0 aw;omega);(conv=>whnf);refine jA (n:=3) cs.cells rfl ?_;(conv=>whnf);refine (Li (k0:=1) (X:=ao) (Y:=ap) ct.rd om).mono ?_;rintro _ g1 ⟨rfl,c'⟩;(conv=>whnf);refine (I7 (k0:=1+Ai BR ao+Ai BX ap) ((c2.ext c').arr AP) om).mono ?_;rintro _ g2 ⟨rfl,er⟩;have a1:=xt c' er;(conv=>whnf);refine DY (by simp;done) ?_;(conv=>whnf);refine jA (n:=3) (ds.ext a1).cells rfl ?_;(conv=>whnf);refine (bc _ (xt bt a1) aj ae).mono ?_;rintro _ g3 ⟨fr,fy,rfl,dy,da⟩;(conv=>whnf);refine (dd _ _ _ _ _ _ _ (xt (xt bt a1) da) dy.rd b6 ba ca).mono ?_;rintro _ fm ⟨d8,fd,eg,eb,fa,em,ft,gq,f4,gm,gb,rfl,_,_,dz,_,_,d6,es⟩;(conv=>whnf);refine jN (z := .agg #[.slice none 0 0,.slice none 0 0,.string { data := #[] }]) ?_;intro f2 ha e3 gk ez du;(conv=>whnf);refine jS (vs:=[.slice d8 fd eg,.slice eb fa em,.string cd]) du rfl rfl cE ?_;intro dr el dv;have br:AD fm dr:=ez.but_trans el.but e3;have a5:AD ce dr:=xt a1 (xt (xt da es) br);(conv=>whnf);refine jA (n:=3) dv.cells rfl ?_;(conv=>whnf);refine jA (n:=3) (dt.ext a5).cells rfl ?_;(conv=>whnf);refine (bb _ _ _ _ _ _ _ _ _ _ _ _ _ _ _ _ (dz.ext br).rd (d5.rd.ext a5)).mono ?_;rintro _ g4 ⟨rfl,b4⟩;(conv=>whnf);refine (b8 _ _ _ _ _ _ _ _ (((d6.ext br).ext b4).arr AP) ((d7.ext (xt a5 b4)).arr AP)).mono ?_;rintro _ fn ⟨rfl,et⟩;have a2:AD ce fn:=xt a5 (xt b4 et);(conv=>whnf);refine DY (by simp;done) ?_;(conv=>whnf);refine jA (n:=3) (cs.ext a2).cells rfl ?_;(conv=>whnf);refine (Li (k0:=1) (X:=ao) (Y:=ap) (ct.ext a2).rd om).mono ?_;rintro _ g5 ⟨rfl,db⟩;(conv=>whnf);refine (I7 (k0:=1+Ai BR ao+Ai BX ap) ((c2.ext (xt a2 db)).arr AP) om).mono ?_;rintro _ g6 ⟨rfl,eu⟩;(conv=>whnf);refine DY (by simp;done) ?_;(conv=>whnf);exact ⟨rfl,xt bt (xt (xt a2 db) eu)⟩
end Go.Proofs.YtalgenmoljcnmaaGreatDoor
