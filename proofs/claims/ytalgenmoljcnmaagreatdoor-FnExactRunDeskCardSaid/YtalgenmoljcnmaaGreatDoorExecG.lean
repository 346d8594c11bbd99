/- Parts of the proof; no conditions of its own. -/
import Derived.Test.YtalgenmoljcnmaaGreatDoorExecD
import Derived.Test.YtalgenmoljcnmaaGreatDoorRefF
namespace Go.M
open Go Go.Vc
variable {A:C7}
theorem T0 {l:List Int} (h:∀ x∈l,BM x) (k:Nat):BM (l.getD k 0):=by
 rw [List.getD_eq_getElem?_getD];cases a:l[k]? with
 | none=>exact ⟨dE,dE⟩
 | some x=>exact h x (List.mem_of_getElem? a)
theorem XD {l:List AF} (h:∀ x∈l,x.ok) (k:Nat):(l.getD k ⟨0,0⟩).ok:=by
 rw [List.getD_eq_getElem?_getD];cases a:l[k]? with
 | none=>exact ⟨⟨dE,dE⟩,⟨dE,dE⟩⟩
 | some x=>exact h x (List.mem_of_getElem? a)
theorem XF {l:List ByteArray} (h:∀ x∈l,x.size<=1048576) (k:Nat):(l.getD k ⟨#[]⟩).size<=1048576:=by
 rw [List.getD_eq_getElem?_getD];cases a:l[k]? with
 | none=>exact Nat.zero_le _
 | some x=>exact h x (List.mem_of_getElem? a)
theorem Zq (w:ByteArray):BM (DZ w):=by
 unfold DZ
 repeat' split
 all_goals exact ⟨dE,dE⟩
theorem Ry (h:Fv A) (w:ByteArray):(BT w A).ok:=by
 refine ⟨Zq w,T0 h.t 0,?_,?_,XD h.f 0,?_,?_⟩
 .show BM (if DV (DZ w)=true then A.trays.getD 1 0 else 0);split
  .exact T0 h.t 1
  .exact ⟨dE,dE⟩
 .show BM (if w=BK then 0 else A.trays.getD (A.trays.length - 1) 0);split
  .exact ⟨dE,dE⟩
  .exact T0 h.t _
 .show (if w=BK then A.fields.getD 1 ⟨0,0⟩ else ⟨0,0⟩:AF).ok;split
  .exact XD h.f 1
  .exact ⟨⟨dE,dE⟩,⟨dE,dE⟩⟩
 .show (if w=Bz then A.texts.getD 0 ⟨#[]⟩ else ⟨#[]⟩:ByteArray).size<=1048576;split
  .exact XF h.x 0
  .exact Nat.zero_le _
theorem X5 {D:Bv} {w:ByteArray} (h1:w≠Ha) (h2:w≠CP) (h3:w≠CH) (h4:w≠Cb) (h5:w≠Dz) (h6:w≠Cm) (h7:w≠GC) :
  (BC D w A).2=(Am D.X D.Y (AH D.X) (BT w A)).2/\((BC D w A).2=0->(BC D w A).1=({ D with X:=(Am D.X D.Y (AH D.X) (BT w A)).1.1,Y:=(Am D.X D.Y (AH D.X) (BT w A)).1.2 },if w≠BK then [C6 (At (Am D.X D.Y (AH D.X) (BT w A)).1.1)] else [EN (GF ((Am D.X D.Y (AH D.X) (BT w A)).1.2.getLastD []))])):=by
 unfold BC;rw [if_neg h1,if_neg h2,if_neg h3,if_neg h4,if_neg h5,if_neg h6,if_neg h7];by_cases b:(Am D.X D.Y (AH D.X) (BT w A)).2≠0
 .rw [if_pos b];exact ⟨rfl,fun d=>absurd d b⟩
 .rw [if_neg b];have c:(Am D.X D.Y (AH D.X) (BT w A)).2=0:=Classical.not_not.1 b;by_cases a:w≠BK
  .rw [if_pos a,if_pos a];exact ⟨c.symm,fun _=>rfl⟩
  .rw [if_neg a,if_neg a];exact ⟨c.symm,fun _=>rfl⟩
end Go.M
namespace Go.Proofs.YtalgenmoljcnmaaGreatDoor
open Go Go.RowKit Go.Vc Go.M
variable {w:World} {lo hi n c m d n1 n2 n3 n4 c1 c2 c3 c4:Nat} {a b a1 a2 a3 a4:Option Addr} {D:Bv} {A:C7}
theorem Ra (h:GQ w lo hi a n c b m d D.X D.Y) (hhi:hi<=w.heap.size) (ho:Ap D.X m=true) (hs:D.s.size<=1048576) (hY:∀ y∈D.Y,y.length<=1048576) (hTm:∀ u,BY (Iv lo hi) w u->F7 u) (hE:EP w) (hM:Dy w) (h1:A4 eI 1 w a1 n1 A.trays) (h2:A4 eI 1 w a2 n2 A.nums) (h3:A4 AF.enc 2 w a3 n3 A.fields) (h4:A4 eS 1 w a4 n4 A.texts) (hA:Fv A) (hb:∀ t∈A.trays,0<=t/\t<=5) {t:Int} {f g:AF} (ht:A.trays[0]? = some t) (hf:A.fields[0]? = some f) (hg:A.fields[1]? = some g) :
  Dq 35 [.agg #[.slice a n c,.slice b m d,.string D.s],.string GC,.agg #[.slice a1 n1 c1,.slice a2 n2 c2,.slice a3 n3 c3,.slice a4 n4 c4]] w (fun v w'=>Jd w w' lo hi v (BC D GC A)):=by
 have a7:=hTm w (Vc.BY.refl _ _);have a9:=h.desk;have ap:=h.rd;have co:=ap.1.len;have cm:=ap.2.len;have bb:=BA ho;have cg:=bb.1;have c0:=hb t (List.mem_of_getElem? ht);obtain ⟨b1,a8,bq⟩:=ap.1;have cl:=a8.len;obtain ⟨i,bc⟩:=AA (l:=b1) (k:=t.toNat) om;obtain ⟨j,bd,al⟩:=bq.get bc;have bz:D.X.getD t.toNat []=j:=Ae bd;have cq:=al.1.len;have cp:=(bb.2.2 j (List.mem_of_getElem? bd)).1;have a':BC D GC A=((D,CI (G7 j f g).1),(G7 j f g).2):=by
  unfold BC;rw [if_neg dE,if_neg dE,if_neg dE,if_neg dE,if_neg dE,if_neg dE,if_pos rfl,Ae ht,Ae hf,Ae hg,bz]
 rw [a'];have br:∀ u am a5,AD w u->A4 AF.enc 2 u am 1 [g]->Dq 81 [.agg ⟨LQ f am a5⟩,.slice i.a i.n i.c] u (fun v w'=>∃ o m ad,v = .tuple #[.slice o m ad,.int .i64 (G7 j f g).2]/\Ai eS 1 u.heap.size 9 w' o m ad (G7 j f g).1/\m<=41/\AD u w'):=fun u am a5 q bg=>MN (al.1.ext q) al.2 (hA.f f (List.mem_of_getElem? hf)) (hA.f g (List.mem_of_getElem? hg)) bg (a7.ext q);generalize G7 j f g=b2 at *;obtain ⟨bl,cc⟩:=b2;dsimp only at *;refine oV Tryz.func35 ?_;refine AB.box ?_;intro bn c7 cd ct a6 av;refine AB.box fun b9 c8 ce cu ao ax=>jN (z := .agg #[.slice none 0 0,.slice none 0 0,.string { data := #[] }]) ?_;intro an b4 cf cv ah bj;have de:=a6.size;have df:=ao.size;have dg:=ah.size;have ac:AD w b4:=xt (xt a6 ao) ah;have aw:=av.ext (xt ao ah);have aj:=ax.ext ah;clear av ax;refine jL aj.cells (k:=0) rfl<|jI (h1.ext ac) 0 rfl ht fun b' cy cj bw=>jO bw rfl<|Av A8 mixed (pZ [0,20,50,55,65,6,10,16,26,30,36,61,70,76,42,46,82,85,90,95,100,105]) kR kR fun c9 aa=>dL aj.cells (k:=2) rfl<|pI (h3.ext ac) 0 rfl hf fun ca cz ck bx=>dA (n:=2) bx rfl<|dL aj.cells (k:=2) rfl<|pI (h3.ext ac) 1 rfl hg fun b6 cw ch bu=>dA (n:=2) bu rfl<|dL aw.cells (k:=0) rfl<|pI (a8.ext ac) t.toNat om bc fun b7 cx ci bv=>dO bv rfl<|bS JV (vs:=[Value.agg #[Value.int IntKind.i64 g.from_,Value.int IntKind.i64 g.to_]]) ?_;intro b8 au bp cs r bh;have bk:=AG (n:=1) (enc:=AF.enc) (xs:=[g]) Bj bh bp rfl dE;refine ⟨xt aa r,BN.build TA rfl ?_⟩;have ay:AD w au:=xt (xt ac aa) r;refine (br _ _ _ ay (bk.own.arr Bj)).mono ?_;rintro _ bf ⟨p,ar,bo,rfl,ak,cn,x⟩;refine ⟨xt (xt aa r) x,?_⟩;have dh:=aa.size;have c':=r.size;have da:=x.size;have az:AD w bf:=xt ay x;have b0:¬ AN p bn:=fun e=>by
  obtain ⟨y,aq,a'⟩:=e;have:=ak.new y aq;omega
 have bt:∀ u,AD bf u->Dq 82 [.slice p ar bo] u (fun v w'=>∃ o ad,v = .slice o (ar+1) ad/\Ai eS 1 au.heap.size 9 w' o (ar+1) ad (CI bl)/\(∀ i,AN o i->AN p i\/u.heap.size<=i)/\BY (AN p) u w'):=fun u q=>J8 (ak.ext q) (Nat.le_trans x.size q.size) om (a7.ext (xt az q));refine Nq A8 mixed p (pZ [5,15,1,12,23,25,30]) kR kR fun c5 ae=>Ba (n:=3) kR (Sr.cells ((aw.ext (xt (xt (xt aa r) x) ae)).cells) b0) rfl<|(bt _ ae).mono ?_;rintro _ b3 ⟨b5,cb,rfl,af,cr,ai⟩;refine ⟨ai,?_⟩;have db:=ae.size;have dc:=ai.size;have ba:∀ ab,AN p ab->au.heap.size<=ab:=fun ab e=>AO ak.new ab e;refine jS (vs:=[Value.slice a n c,Value.slice b m d,Value.string D.s]) ((bj.ext (xt (xt (xt aa r) x) ae)).mod ai (fun e=>by have:=ba an e;omega)) rfl rfl (by simp [AE]) fun c6 ag bi=>AP (jR (n:=3) rfl bi.cells) ?_;have dd:=ag.but.size;have a0:AD w b3:=xm (xt az ae) ai (fun ab e=>by have:=ba ab e;omega);exact ⟨_,_,_,_,_,_,_,_,_,_,rfl,fun _=>⟨rfl,a9.1,a9.2.1,hi,om,fun u bm=>(((h.ext a0).but ag.but om).desk.2.2).mod bm (fun be h1 h2 h3=>by omega),af.new.mono om,af.new.mono om,(af.mod ag.but (fun y aq e=>by
  have e:y.block=an:=e;have:=af.new y aq;omega)).own⟩,(AD.mod a0).trans_new ag.but (fun be e=>by have e:be=an:=e;omega)⟩
theorem P6 {word:ByteArray} (hst:word=Di\/word=Cx\/word=DD\/word=DP\/word=EV\/word=Bz\/word=BK) (h:GQ w lo hi a n c b m d D.X D.Y) (hhi:hi<=w.heap.size) (ho:Ap D.X m=true) (hs:D.s.size<=1048576) (hY:∀ y∈D.Y,y.length<=1048576) (hTm:∀ u,BY (Iv lo hi) w u->F7 u) (hE:EP w) (hM:Dy w) (h1:A4 eI 1 w a1 n1 A.trays) (h2:A4 eI 1 w a2 n2 A.nums) (h3:A4 AF.enc 2 w a3 n3 A.fields) (h4:A4 eS 1 w a4 n4 A.texts) (hA:Fv A) (hb:∀ t∈A.trays,0<=t/\t<=5) {t0:Int} (ht:A.trays[0]? = some t0) (hSt:∀ u,AD w u->Dq 153 [.string word,.agg #[.slice a1 n1 c1,.slice a2 n2 c2,.slice a3 n3 c3,.slice a4 n4 c4]] u (fun v w'=>v = .agg ⟨(BT word A).enc⟩/\AD u w')) :
  Dq 35 [.agg #[.slice a n c,.slice b m d,.string D.s],.string word,.agg #[.slice a1 n1 c1,.slice a2 n2 c2,.slice a3 n3 c3,.slice a4 n4 c4]] w (fun v w'=>Jd w w' lo hi v (BC D word A)):=by
 have ax:=hTm w (Vc.BY.refl _ _);have bz:=h.desk;have j:=h.rd;have b2:=j.1.len;have b1:=j.2.len;have a5:=BA ho;have bv:=a5.1;obtain ⟨ah,ai⟩:(BC D word A).2=_/\((BC D word A).2=0->(BC D word A).1=_):=by
  refine X5 ?_ ?_ ?_ ?_ ?_ ?_ ?_<;>(rcases hst with h | h | h | h | h | h | h<;>rw [h]<;>decide)
 have aw:∀ u,AD w u->Dq 83 [.agg #[.slice a n c,.slice b m d,.string D.s],.string word,.agg ⟨[.slice a1 n1 c1,.slice a2 n2 c2,.slice a3 n3 c3,.slice a4 n4 c4]⟩] u _:=fun u g=>RV (X:=D.X) (Y:=D.Y) (c:=c) (d:=d) (s:=D.s) (j.1.ext g) (j.2.ext g) ho hY (Ry hA word) (fun a6=>by rw [a6];rfl) (ax.ext g) rfl (fun cb av=>hSt _ (xt g av));generalize BC D word A=bf at *;obtain ⟨b',ca⟩:=bf;dsimp only at ah ai;subst ah;rcases hst with rfl | rfl | rfl | rfl | rfl | rfl | rfl
 all_goals
  refine oV Tryz.func35 ?_;refine AB.box ?_;intro bj cc bq b3 ae ab;refine AB.box fun bk cd br b4 r ac=>jN (z := .agg #[.slice none 0 0,.slice none 0 0,.string { data := #[] }]) ?_;intro q bg bt b5 i ak;have ch:=ae.size;have ci:=r.size;have cj:=i.size;have p:AD w bg:=xt (xt ae r) i;have aj:=ab.ext (xt r i);have ad:=ac.ext i;clear ab ac;refine jL ad.cells (k:=0) rfl<|jI (h1.ext p) 0 rfl ht fun bl b7 bw ay=>jO ay rfl<|jA (n:=3) aj.cells rfl<|jA (n:=4) ad.cells rfl<|(aw _ p).mono ?_;rintro _ ce ⟨ao,a',ar,ap,a9,au,bi,b6,bm,rfl,be,x⟩;have ck:=x.size;refine jS (vs:=[Value.slice ao a' ar,Value.slice ap a9 au,Value.string D.s]) (ak.ext x) rfl rfl (by simp [AE]) fun cf f al=>AP (jR (n:=3) rfl al.cells) ?_;have cl:=f.but.size;have b0:lo<=w.heap.size:=by
   obtain ⟨bp,bu,am,bh,ag⟩:=h;obtain ⟨cg,a7⟩:=AA (l:=D.X) (k:=0) om;obtain ⟨aq,bn,bo,bx,az,_⟩:=am.own.hand (List.nodup_append.1 ag.1).1 a7;have:=ag.2 aq (List.mem_append_left _ az);omega
  refine ⟨_,_,_,_,_,_,_,_,_,_,rfl,fun af=>?_,(AD.mod (xt p x)).trans_new f.but (fun o e=>by have e:o=q:=e;omega)⟩;obtain ⟨ba,bb,a0,b8,b9,bc,aa,bd⟩:=be af;rw [ai af];refine ⟨rfl,ba,bb,a0,om,fun u an=>((bc.mod f.but (fun o h1 h2 e=>by have e:o=q:=e;omega)).mod an (fun o h1 h2 e=>by omega)).wide om (Nat.le_refl _),aa,aa.mono om,?_⟩;exact bd.mod f.but (fun y a8 e=>by
   have e:y.block=q:=e;have:=aa y a8;omega)
end Go.Proofs.YtalgenmoljcnmaaGreatDoor
namespace Go.M
open Go Go.Vc
variable {D:Bv} {r:(Bv×List ByteArray)×Int} {c:UInt8}
noncomputable def Je (D:Bv) (r:(Bv×List ByteArray)×Int):Bv×List ByteArray:=if r.2≠0 then (D,[E1 r.2]) else r.1
theorem I8 (h:r.2≠0):Je D r=(D,[E1 r.2]):=if_pos h
theorem I7 (h:r.2=0):Je D r=r.1:=if_neg (by simp [h])
theorem Ud {p r:List UInt8} (hp:c∉p):DA c (p++c :: r)=p :: DA c r:=by
 unfold DA;rw [ED c _ _ [] hp];rfl
theorem WD {l:List UInt8} (h:c∉l):DA c l=[l]:=by
 unfold DA;rw [E9 c _ [] h];rfl
def Gy (l:List ByteArray):List ByteArray:=if l.getLast? = some ⟨#[]⟩ then l.dropLast else l
theorem Wk {x:ByteArray} {l:List ByteArray} (h:l≠[]):Gy (x :: l)=x :: Gy l:=by
 cases l with
 | nil=>exact absurd rfl h
 | cons a l =>
  unfold Gy;rw [List.getLast?_cons_cons];split<;>rfl
theorem Qb:∀ (n:Nat) (l:List UInt8),l.length<=n->Hv l=Gy ((DA 10 l).map bs)
 | 0,l,h=>by
  have:l=[]:=List.eq_nil_of_length_eq_zero om;subst this;decide
 | n+1,l,h=>by
  by_cases b:(10:UInt8)∈l
  .obtain ⟨f,e,rfl,c⟩:=List.eq_append_cons_of_mem b;rw [Kb sI,T7 c,Ud c,List.map_cons,Wk (by simp [Ib])];have:=Qb n e (by simp at h;omega);dsimp only;rw [this]
  .rw [WD b];by_cases a:l=[]
   .subst a;decide
   .rw [Kb a,T6 b];dsimp only;rw [Vk];have:bs l≠⟨#[]⟩:=fun h=>a (by have:=congrArg (fun d:ByteArray=>d.data.toList) h;dsimp only at this;rw [Gg] at this;exact this);simp [Gy,this]
end Go.M
namespace Go.Proofs.YtalgenmoljcnmaaGreatDoor
open Go Go.RowKit Go.Vc Go.M
theorem Vv {w w1 w2:World} {b bT:Nat} {D:Bv} {out:List ByteArray} {b2 ao:Option Addr} {n c m d no co t t2:Nat} {fX fY fX':List Nat} {X:List (List (List Int))} (B:CD w b [.slice (some ⟨bT,0,none⟩) n c,.slice b2 m d,.string D.s,.slice ao no co] 49) (OY:EO G4 w b2 m t2 D.Y fY) (G:Ai eS 1 0 9 w ao no co out)
  (nd:(b :: (BU ao++(fX++fY))).Nodup) (hX:∀ k∈fX,k<w.heap.size) (e:AD w w1) (ch:OW bT w1 w2) (hbT:bT∈fX) (OX':EO Jc w2 (some ⟨bT,0,none⟩) n t X fX') (nd':fX'.Nodup) (sub:∀ j∈fX',j∈fX\/w.heap.size<=j):Qq w (b :: (BU ao++(fX++fY))) b w2 ⟨X,D.Y,D.s⟩ out:=by
 obtain ⟨o,ae⟩:=List.nodup_cons.1 nd;obtain ⟨ad,ab,q⟩:=List.nodup_append.1 ae;obtain ⟨ah,ac,u⟩:=List.nodup_append.1 ab;have ag:=B.lt;have y:=G.lt;have v:=OY.lt;have z:b≠bT:=fun a=>o (a▸List.mem_append_right _ (List.mem_append_left _ hbT));have x:∀ k∈BU ao,k≠bT:=fun k f a=>q k f bT (List.mem_append_left _ hbT) a;have aa:∀ k∈fY,k≠bT:=fun k f a=>u bT hbT k f a.symm;refine ⟨b :: (BU ao++(fX'++fY)),⟨_,n,c,b2,m,d,ao,no,co,t,t2,fX',fY,(B.ext e).mod ch.but (fun a=>z a),OX',OY.keep fun k f=>?_,(G.ext e).kept fun r p=>ch.block _ (x _ (A2.2 ⟨r,p,rfl⟩)),rfl,?_⟩,?_,?_⟩
 .rw [ch.block k (aa k f),e.block k (v k f)]
 .refine List.nodup_cons.2 ⟨fun a=>?_,List.nodup_append.2 ⟨ad,List.nodup_append.2 ⟨nd',ac,fun i h af g l=>?_⟩,fun i h af g l=>?_⟩⟩
  .rcases List.mem_append.1 a with a | a
   .exact o (List.mem_append_left _ a)
   rcases List.mem_append.1 a with a | a
   .rcases sub b a with a | a
    .exact o (List.mem_append_right _ (List.mem_append_left _ a))
    .omega
   .exact o (List.mem_append_right _ (List.mem_append_right _ a))
  .subst l;rcases sub i h with a | a
   .exact u i a i g rfl
   .have:=v i g;omega
  .subst l;obtain ⟨r,p,l⟩:=A2.1 h;rcases List.mem_append.1 g with g | g
   .rcases sub _ g with a | a
    .exact q _ h _ (List.mem_append_left _ a) rfl
    .have:=y r p;omega
   .exact q _ h _ (List.mem_append_right _ g) rfl
 .intro k f;rcases List.mem_cons.1 f with rfl | f
  .exact .inl sI
  rcases List.mem_append.1 f with f | f
  .exact .inl (List.mem_cons_of_mem _ (List.mem_append_left _ f))
  rcases List.mem_append.1 f with f | f
  .exact (sub k f).imp (fun a=>List.mem_cons_of_mem _ (List.mem_append_right _ (List.mem_append_left _ a))) id
  .exact .inl (List.mem_cons_of_mem _ (List.mem_append_right _ (List.mem_append_right _ f)))
 .exact (AD.mod e).trans (ch.but.mono fun k f=>by
   have f:k=bT:=f;subst f;simp [hbT])
end Go.Proofs.YtalgenmoljcnmaaGreatDoor
namespace Go.M
open Go Go.Vc
noncomputable def Vo (D:Bv) (t:Int) (z:ByteArray):(Bv×List ByteArray)×Int :=
 if CG z≠0 then ((D,[]),CG z) else if Ap (CU D.X t z) D.Y.length=false then ((D,[]),6) else (({ D with X:=CU D.X t z },[C6 (At (CU D.X t z))]),0)
def Nz (D:Bv) (d:List (List Int)):(Bv×List ByteArray)×Int :=
 match d.find? (fun c=>decide (BG c≠0)) with
 | some c=>((D,[]),BG c)
 | none=>((D,CI (d.map fun c=>Cd (CK c))),0)
def U7 (D:Bv) (x:An):(Bv×List ByteArray)×Int :=
 if (A3 D.s x).2≠0 then ((D,[]),(A3 D.s x).2) else (({ D with s:=(A3 D.s x).1 },[BP (D1 (A3 D.s x).1).1]),(D1 (A3 D.s x).1).2)
noncomputable def Ux (D:Bv) (d:List (List Int)) (f:AF):(Bv×List ByteArray)×Int:=((D,[EN (Dh 32 ((Fq d f).1.map Bb))]),(Fq d f).2)
def YY (D:Bv) (d:List (List Int)) (f g:AF):(Bv×List ByteArray)×Int:=((D,CI (G7 d f g).1),(G7 d f g).2)
def Xu (D:Bv):(Bv×List ByteArray)×Int:=((D,CI ((BQ D.s).1.map DG)),(BQ D.s).2.2)
noncomputable def M4 (D:Bv) (x:EB):(Bv×List ByteArray)×Int :=
 if (Am D.X D.Y (AH D.X) x).2≠0 then ((D,[]),(Am D.X D.Y (AH D.X) x).2)
 else if x.kind≠7 then (({ D with X:=(Am D.X D.Y (AH D.X) x).1.1,Y:=(Am D.X D.Y (AH D.X) x).1.2 },[C6 (At (Am D.X D.Y (AH D.X) x).1.1)]),0)
 else (({ D with X:=(Am D.X D.Y (AH D.X) x).1.1,Y:=(Am D.X D.Y (AH D.X) x).1.2 },[EN (GF ((Am D.X D.Y (AH D.X) x).1.2.getLastD []))]),0)
theorem R7:∀ (f:Nat) (l q:List UInt8) (ch:Int),l.length<=f->¬ (A5 l ch).2.2<l.length->(A5 (l++q) ch).2.2=l.length+(A5 q (A5 l ch).2.1).2.2
 | f,l,q,ch,hf,h=>by
  by_cases hm:(10:UInt8)∈l
  .obtain ⟨p,r,rfl,hp⟩:=List.eq_append_cons_of_mem hm;cases a:Df (bs p) ch with
   | none =>
    rw [KT hp a] at h;simp at h
   | some g =>
    obtain ⟨i,b⟩:=g;rw [Fm hp a] at h;have c:=Fm (r:=r) hp a;have d:=Fm (r:=r++q) hp a;rw [List.append_assoc,List.cons_append,d,c];cases f with
    | zero=>simp at hf
    | succ f =>
     have:=R7 f r q b (by simp at hf;omega) (by simp at h ⊢;omega);dsimp only;rw [this];simp;omega
  .have e:l=[]:=by
    rw [Hj hm] at h;exact List.eq_nil_of_length_eq_zero (by dsimp only at h;omega)
   subst e;rw [Hj hm];simp
theorem UD (s:ByteArray) (x:An) (h:(A3 s x).2=0):Aj (A3 s x).1=0:=by
 unfold A3 at h ⊢;by_cases b:Aj s=0
 .rw [if_pos b] at h ⊢;by_cases a:Cr x=false
  .rw [if_pos a] at h;cases h
  .rw [if_neg a] at h ⊢;by_cases d:4000<s.size+(E0 (By (A5 s.data.toList 0).2.1 x) x).size
   .rw [if_pos d] at h;cases h
   .rw [if_neg d];dsimp only;have f:¬ (A5 s.data.toList 0).2.2<s.data.toList.length:=by
     rcases CB s with h | h | h
     .omega
     .omega
     .simpa using h.2.1
    have c:(s++E0 (By (A5 s.data.toList 0).2.1 x) x).data.toList=s.data.toList++(JW (By (A5 s.data.toList 0).2.1 x) x++10 :: []):=by
     rw [VA];simp [ZX,Gg]
    have e:=R7 _ s.data.toList (JW (By (A5 s.data.toList 0).2.1 x) x++10 :: []) 0 (Nat.le_refl _) f;rw [Fm (Y0 (by simpa using a)) (Q8 (by simpa using a)),<- c] at e;have g:(s++E0 (By (A5 s.data.toList 0).2.1 x) x).size=s.data.toList.length+((JW (By (A5 s.data.toList 0).2.1 x) x).length+1):=by
     have:=congrArg List.length c;simpa using this
    rw [ByteArray.size_append] at g;rcases CB (s++E0 (By (A5 s.data.toList 0).2.1 x) x) with h | h | h
    .rw [ByteArray.size_append] at h;omega
    .rw [ByteArray.size_append] at h;dsimp only at e;omega
    .exact h.2.2
 .rw [if_neg b] at h;exact absurd h b
theorem Y6 {c:UInt8} {l:List ByteArray} (h:l≠[]) (hx:∀ x∈l,x.size≠0):(Dh c l).size≠0:=by
 rcases List.eq_nil_or_concat l with rfl | ⟨d,b,rfl⟩
 .exact absurd rfl h
 rw [List.concat_eq_append] at *
 .by_cases a:d=[]
  .subst a;rw [List.nil_append,OB];exact hx b sI
  .rw [Pz c a];simp only [ByteArray.size_append];have:=hx b sI;omega
theorem Uw (p:Ag):(Bb p).size≠0:=by
 unfold Bb;rw [ByteArray.size_append];split<;>rw [AV]<;>simp
end Go.M
namespace Go.Proofs.YtalgenmoljcnmaaGreatDoor
open Go Go.RowKit Go.Vc Go.M
variable {w:World} {fp:List Nat} {b:Nat} {D:Bv} {out:List ByteArray} {t:Int} {f:AF} {z:ByteArray}
theorem Ue (h:Oq w fp b D out) (ho:out.length<=1000000) (h6:D.X.length=6) (tb:0<=t/\t<=5) (hfo:f.ok) :
  Dq 49 [.pointer (some ⟨b,0,none⟩),.int .i64 t,.agg ⟨f.enc⟩] w (fun _ w'=>Qq w fp b w' (Je D (Ux D (D.X.getD t.toNat []) f)).1 (out++(Je D (Ux D (D.X.getD t.toNat []) f)).2)):=by
 have e:=h;obtain ⟨a0,bk,a6,a4,bi,a9,a2,no,a8,bo,bn,a',ba,aa,ac,az,ay,bd,bl⟩:=h;have x:=ac.arr;have bf:=x.len;obtain ⟨ao,y,ag⟩:=x;have be:=y.len;obtain ⟨ar,z⟩:=AA (l:=ao) (k:=t.toNat) om;obtain ⟨r,ap,ad⟩:=ag.get z;have al:D.X.getD t.toNat []=r:=Ae ap;rw [al];have ah:=fun av (af:AD w av)=>Lz (c:=ar.c) (ad.1.ext af) hfo;have ak:=T3 (d:=r) (f:=f);unfold Ux;generalize Fq r f=au at *;obtain ⟨m,ae⟩:=au;dsimp only at *;refine oV Tryz.func49 ?_;refine AB.box ?_;intro a5 br bb bh j ab;refine dH (pB [0,2,4,6,8,10,12,14,16,19,21,23,24,26,29,31]) ?_;intro bt i;refine dL (aa.ext j).cells (k:=0) rfl ?_;refine dI (y.ext j) (t).toNat om z ?_;intro a3 bm bc ai;refine dO ai rfl ?_;refine jA (n:=2) (ab.ext i).cells rfl ?_;refine ⟨i,?_⟩;refine (ah _ (xt j i)).mono ?_;rintro _ aw ⟨a1,bj,a7,rfl,s,u⟩;refine ⟨(xt i u),?_⟩;have a:AD w aw:=xt (xt j i) u;refine (D5 (e.ext a) om ae).mono ?_;rintro _ bp (⟨o,rfl,rfl⟩ | ⟨o,rfl,g⟩)
 .subst o;rw [I7 rfl];have am:=s.len;(conv=>whnf);by_cases p:m=[]
  .subst p;refine KL.yes (by simp at am;omega) ?_;refine (FA (e.ext a) om _).mono ?_;rintro _ ax g;exact CW e a g
  .have bg:m.length≠0:=fun h=>p (List.length_eq_zero_iff.1 h);refine iN ?_;(conv=>whnf);have aj:EN (Dh 32 (m.map Bb))=Dh 32 (m.map Bb):=by
    unfold EN;rw [if_neg (Y6 (by simpa using p) (by
     intro bu aq;obtain ⟨q,_,rfl⟩:=List.mem_map.1 aq;exact Uw q))]
   rw [aj];refine (TM s (fun q an=>by have:=ak.2 q an;unfold BM;omega) om).mono ?_;rintro _ ax ⟨rfl,v⟩;refine (FA (e.ext (xt a v)) om _).mono ?_;rintro _ bq g;exact CW e (xt a v) g
 .rw [I8 o];exact CW e a g
theorem Ye (h:Oq w fp b D out) (ho:out.length<=1000000) (h6:D.X.length=6) (tb:0<=t/\t<=5) {g:AF} (hfo:f.ok) (hgo:g.ok) :
  Dq 50 [.pointer (some ⟨b,0,none⟩),.int .i64 t,.agg ⟨f.enc⟩,.agg ⟨g.enc⟩] w (fun _ w'=>Qq w fp b w' (Je D (YY D (D.X.getD t.toNat []) f g)).1 (out++(Je D (YY D (D.X.getD t.toNat []) f g)).2)):=by
 have m:=h;obtain ⟨a1,bq,a9,a6,bo,bb,a3,no,ba,bx,bw,bc,bd,aa,af,a0,az,bh,br⟩:=h;have s:=af.arr;have bj:=s.len;obtain ⟨aq,u,am⟩:=s;have bi:=u.len;obtain ⟨au,v⟩:=AA (l:=aq) (k:=t.toNat) om;obtain ⟨y,ar,ag⟩:=am.get v;have ap:D.X.getD t.toNat []=y:=Ae ar;rw [ap];have an:=fun x (ak:AD w x) {ah:Option Addr} {aj:Nat} (z:A4 AF.enc 2 x ah 1 [g])=>Ly (c:=au.c) (d:=aj) (ag.1.ext ak) hfo hgo z;unfold YY;generalize G7 y f g=ax at *;obtain ⟨bk,ai⟩:=ax;dsimp only at *;refine oV Tryz.func50 ?_;refine AB.box ?_;intro a7 b2 be bm o ac;refine AB.box ?_;intro a8 b3 bf bn e ad;refine dH (pB [0,2,8,10,12,14,16,18,20,22,24,5,7,27,29,30,32,35,37]) ?_;intro b4 i;refine dA (n:=2) (ac.ext e).cells rfl ?_;refine dA (n:=2) ad.cells rfl ?_;refine dL (aa.ext (xt o e)).cells (k:=0) rfl ?_;refine dI (u.ext (xt o e)) (t).toNat om v ?_;intro a4 bt bg ao;refine dO ao rfl ?_;refine bS JV (vs:=[Value.agg #[Value.int IntKind.i64 g.from_,Value.int IntKind.i64 g.to_]]) ?_;intro a5 bz al bl a ab;have ae:=AG (n:=1) (enc:=AF.enc) (xs:=[⟨g.from_,g.to_⟩]) Bj ab al rfl dE;refine ⟨(xt i a),?_⟩;refine AB.build TA rfl ?_;refine ⟨(xt i a),?_⟩;refine (an _ (xt (xt (xt o e) i) a) (ae.own.arr Bj)).mono ?_;rintro _ ay ⟨a2,bp,a',rfl,av,r⟩;refine ⟨(xt (xt i a) r),?_⟩;have j:AD w ay:=xt (xt o e) (xt (xt i a) r);refine (D5 (m.ext j) om ai).mono ?_;rintro _ b0 (⟨p,rfl,rfl⟩ | ⟨p,rfl,q⟩)
 .obtain ⟨bu,bv,aw⟩:=av p;subst p;rw [I7 rfl];refine (M7 (m.ext j) om aw om).mono ?_;rintro _ b1 q;exact CW m j q
 .rw [I8 p];exact CW m j q
theorem Xh (h:Oq w fp b D out) (ho:out.length<=1000000) (h6:D.X.length=6) (hX:∀ x∈D.X,x.length<=1000) (hs:D.s.size<=1048576) {k:Int} (tb:0<=t/\t<=5) (hk:BM k) (hz:z.size<=1048576) :
  Dq 51 [.pointer (some ⟨b,0,none⟩),.int .i64 t,.int .i64 k,.string z] w (fun _ w'=>Qq w fp b w' (Je D (U7 D ⟨t,(D.X.getD t.toNat []).length,k,z⟩)).1 (out++(Je D (U7 D ⟨t,(D.X.getD t.toNat []).length,k,z⟩)).2)):=by
 have m:=h;obtain ⟨ar,bh,aw,av,bg,a0,au,no,az,b8,b7,bt,bu,e,f,j,ao,a',ah⟩:=h;have ad:=f.arr;have b0:=ad.len;obtain ⟨bd,ae,a3⟩:=ad;have bz:=ae.len;obtain ⟨ai,af⟩:=AA (l:=bd) (k:=t.toNat) om;obtain ⟨x,ag,aq⟩:=a3.get af;have ba:D.X.getD t.toNat []=x:=Ae ag;have be:=aq.1.len;have b1:=hX x (List.mem_of_getElem? ag);rw [ba];have bf:An.ok ⟨t,(x.length:Nat),k,z⟩:=by
  refine ⟨⟨?_,?_⟩,⟨?_,?_⟩,hk,?_⟩<;>dsimp only [Nt]<;>omega
 have a2:∀ c,Dq 105 [.string D.s,.agg #[.int .i64 t,.int .i64 ai.n,.int .i64 k,.string z]] c (fun bm w'=>bm = .tuple #[.string (A3 D.s ⟨t,(x.length:Nat),k,z⟩).1,.int .i64 (A3 D.s ⟨t,(x.length:Nat),k,z⟩).2]/\AD c w'):=fun c=>by
  have:=TS hs bf c;rw [<- be];exact this
 have bc:=UD D.s ⟨t,(x.length:Nat),k,z⟩;have a4:=Ml D.s ⟨t,(x.length:Nat),k,z⟩ hs;unfold U7;generalize A3 D.s ⟨t,(x.length:Nat),k,z⟩=o at *;have bx:=UB o.1;have ac:=fun c=>Q3 a4 c;generalize a6:D1 o.1=r at *;obtain ⟨bk,aj⟩:=o;have a7:aj=0->r.2=0:=fun a1=>by rw [<- a6,Qi];exact bc a1
 obtain ⟨ay,br⟩:=r;unfold Uy at ac;dsimp only at *;have bb:BM ay:=by unfold BM;omega
 refine oV Tryz.func51 ?_;refine jL e.cells (k:=0) rfl ?_;refine jI ae (t).toNat om af ?_;intro bp b6 bw a5;refine jO a5 rfl ?_;refine AB.build FX rfl ?_;refine jN (z := .agg #[.int .i64 0,.int .i64 0,.int .i64 0,.string { data := #[] }]) ?_;intro bq ce ab b2 aa an;refine jS (vs:=[Value.int IntKind.i64 t,Value.int IntKind.i64 ai.n,Value.int IntKind.i64 k,Value.string z]) an rfl rfl (by simp [AE]) ?_;intro b9 q ak;refine dH (pB [0,2,4,6,8,11,13,15,16,18,21,23]) ?_;intro b' g;refine dL (e.ext (xb aa q.but ab)).cells (k:=2) rfl ?_;refine jA (n:=4) (ak.ext g).cells rfl ?_;refine ⟨g,?_⟩;refine (a2 _).mono ?_;rintro _ bn ⟨rfl,u⟩;refine ⟨(xt g u),?_⟩;have a:AD w bn:=xt (xt (xb aa q.but ab) g) u;refine (D5 (m.ext a) om aj).mono ?_;rintro _ ca (⟨d,rfl,rfl⟩ | ⟨d,rfl,i⟩)
 .have a8:=a7 d;subst d a8;rw [if_neg sI,I7 rfl];refine jT (e.ext a) (k:=2) (Nat.le_of_ble_eq_true rfl) rfl ?_;intro bo ax al;have am:CD bo b [.slice ar bh aw,.slice av bg a0,.string bk,.slice au no az] _:=al;have a9:=m.lt;subst a';obtain ⟨b4,bj⟩:=List.nodup_cons.1 ah;obtain ⟨b3,bi,b5⟩:=List.nodup_append.1 bj;obtain ⟨bv,p,bl,ap⟩:=KG e f j ao ah a (f.keep fun k hk=>a.block k (f.lt k hk)) (j.keep fun k hk=>a.block k (j.lt k hk)) bi (fun k hk=>.inl hk) ax am;refine (ac _).mono ?_;rintro _ cb ⟨rfl,v⟩;refine (B7 bb _).mono ?_;rintro _ cc ⟨rfl,y⟩;refine (FA (p.ext (xt v y)) om _).mono ?_;rintro _ cd i;exact Ll bl ap a9 (CW p (xt v y) i)
 .rw [if_pos d,I8 d];exact CW m a i
theorem Yf (h:Oq w fp b D out) (ho:out.length<=1000000) (hs:D.s.size<=4000) (hj:Aj D.s=0) :
  Dq 52 [.pointer (some ⟨b,0,none⟩)] w (fun _ w'=>Qq w fp b w' (Je D (Xu D)).1 (out++(Je D (Xu D)).2)):=by
 have v:=h;obtain ⟨a3,bq,a9,a8,bp,bc,a6,no,bb,bv,bu,bd,be,z,a1,a2,az,bh,br⟩:=h;have am:Xu D=((D,CI ((A5 D.s.data.toList 0).1.map DG)),0):=by unfold Xu BQ;rw [if_pos hj]
 have bg:(A5 D.s.data.toList 0).1.length<=4000:=by have:=JC D.s;unfold BQ at this;rw [if_pos hj] at this;exact this
 have ap:∀ d∈(A5 D.s.data.toList 0).1,Cr d=true:=(EY _ D.s.data.toList 0 (Nat.le_refl _) dE dE).1;rw [am,I7 rfl];refine oV Tryz.func52 ?_;refine jL z.cells (k:=2) rfl ?_;refine (I1 om _).mono ?_;rintro _ i ⟨av,rfl,ai,bt,au⟩;obtain ⟨a5,g,ba,j,a0,e⟩:=au hs;generalize (A5 D.s.data.toList 0).1=u at *;have y:=e.arr Au;have bj:=y.len;refine bS BI (vs:=[]) ?_;intro ah ax al bn aj ab;have ae:Ai eS 1 i.heap.size 9 ax (some ⟨ah,0,none⟩) 0 0 []:=Ab (enc:=eS) AQ ab al;refine lR [0,2,4,5] (fun (a:Nat) aw w'=>∃ m o,aw=[.pointer (some ⟨b,0,none⟩),.pointer (some ⟨av,0,none⟩),.slice m a o,.int .i64 a]/\a<=g/\Ai eS 1 i.heap.size 9 w' m a o ((u.take a).map DG)/\AD i w') (fun a=>g - a) 0 ⟨_,_,rfl,om,by simpa using ae,aj⟩ ?_;rintro a bf _ ay ⟨m,o,rfl,bi,f,c⟩;rcases Nat.lt_or_ge a g with ao | ao
 .obtain ⟨d,r⟩:=AA (l:=u) (k:=a) om;have aq:=Ct DG r;have x:=ap d (List.mem_of_getElem? r);have bk:=FE x;refine jL (j.ext c).cells (k:=3) rfl ?_;refine iY ?_;refine jL (j.ext c).cells (k:=3) rfl ?_;obtain ⟨ag,rfl⟩:=((e.ext c)).some om;have bo:ag<i.heap.size:=e.lt _ rfl;refine jW (sz:=4) a rfl om ?_;have an:=AT Au (e.ext c) r;refine (Fa (J1 x) om an).mono ?_;rintro _ bx ⟨rfl,p⟩;refine bS BI (vs:=[Value.string (DG d)]) ?_;intro a7 bz ak bm q aa;have ac:=AG (n:=1) (enc:=eS) (xs:=[DG d]) AQ aa ak rfl dE;refine AM (enc:=eS) BI AQ (f.ext (xt p q)) (ac.own.arr AQ) (by intro b1 _;simp [eS,AE]) om om (Below.size (xt (xt c p) q)) ?_;intro a4 a' b0 ad ar bl;refine jP (((a+1:Nat):Int)) ?_;refine ⟨a+1,om,_,_,rfl,om,?_,(xm (xt (xt c p) q) ar (AO f.new))⟩;rw [aq];exact ad
 .obtain rfl:a=g:=om
  rw [List.take_of_length_le om] at f;refine jL (j.ext c).cells (k:=3) rfl ?_;refine iN ?_;have t:AD w ay:=xt ai c;refine (M7 (v.ext t) om (f.own.arr AQ) om).mono ?_;rintro _ bw af;exact CW v t af
theorem Xg (h:Oq w fp b D out) (ho:out.length<=1000000) (h6:D.X.length=6) (hX:∀ x∈D.X,x.length<=1000/\∀ y∈x,y.length<=1000) (tb:0<=t/\t<=5) :
  Dq 48 [.pointer (some ⟨b,0,none⟩),.int .i64 t] w (fun _ w'=>Qq w fp b w' (Je D (Nz D (D.X.getD t.toNat []))).1 (out++(Je D (Nz D (D.X.getD t.toNat []))).2)):=by
 have q:=h;obtain ⟨bi,ca,f,bn,b',br,bk,no,bq,cg,cf,bu,bv,an,av,bh,bg,b1,cb⟩:=h;have ag:=av.arr;have b5:=ag.len;obtain ⟨a',ah,a2⟩:=ag;have b3:=ah.len;obtain ⟨g,ak⟩:=AA (l:=a') (k:=t.toNat) om;obtain ⟨x,al,ae⟩:=a2.get ak;have a7:D.X.getD t.toNat []=x:=Ae al;have b6:=ae.1.len;have am:=hX x (List.mem_of_getElem? al);rw [a7];have bx:x.length<=1000:=am.1;obtain ⟨ay,ai,a3⟩:=ae.1;have b4:=ai.len;refine oV Tryz.func48 ?_;refine bS BI (vs:=[]) ?_;intro aw bf a0 b9 aa ap;have au:Ai eS 1 w.heap.size 9 bf (some ⟨aw,0,none⟩) 0 0 []:=Ab (enc:=eS) AQ ap a0;refine jL (an.ext aa).cells (k:=0) rfl ?_;refine jI (ah.ext aa) (t).toNat om ak ?_;intro bo cd b0 a6;refine jO a6 rfl ?_;refine lR [0,4,5,6] (fun (d:Nat) be w'=>∃ u v,be=[.pointer (some ⟨b,0,none⟩),.slice u d v,.slice g.a g.n g.c,.int .i64 d]/\d<=g.n/\Ai eS 1 w.heap.size 9 w' u d v ((x.take d).map fun f=>Cd (CK f))/\(∀ e y,e<d->x[e]? = some y->BG y=0)/\AD w w') (fun d=>g.n - d) 0 ⟨_,_,rfl,om,by simpa using au,fun e y i=>by omega,aa⟩ ?_;rintro d bw _ cm ⟨u,v,rfl,b2,r,ab,hX⟩;rcases Nat.lt_or_ge d g.n with a8 | a8
 .obtain ⟨bt,aj⟩:=AA (l:=ay) (k:=d) om;obtain ⟨y,j,af⟩:=a3.get aj;have a9:=Ct (fun f=>Cd (CK f)) j;have ba:=am.2 y (List.mem_of_getElem? j);have a4:=fun bd (ax:AD w bd)=>Q1 ⟨af.1.ext ax,af.2⟩ ba;have ac:BG y≠0->Nz D x=((D,[]),BG y):=fun a1=>by
   unfold Nz;rw [QR j (by simpa using a1) fun e ad i p=>by simpa using ab e ad i p]
  refine iY ?_;refine jI (ai.ext hX) d rfl aj ?_;intro bl cc bz a5;refine jA (n:=1) a5 rfl ?_;refine (a4 _ hX).mono ?_;rintro _ ci ⟨ce,rfl,bc,m⟩;refine (D5 (q.ext (xt hX m)) om (BG y)).mono ?_;rintro _ cj (⟨o,rfl,rfl⟩ | ⟨o,rfl,s⟩)
  .obtain rfl:=bc o;refine bS BI (vs:=[Value.string (Cd (CK y))]) ?_;intro bm ck az b8 z ao;have aq:=AG (n:=1) (enc:=eS) (xs:=[Cd (CK y)]) AQ ao az rfl dE;refine AM (enc:=eS) BI AQ (r.ext (xt m z)) (aq.own.arr AQ) (by intro y _;simp [eS,AE]) om om (Below.size (xt (xt hX m) z)) ?_;intro bj bp cl ar bb b7;refine jP (((d+1:Nat):Int)) ?_;exact ⟨d+1,om,_,_,rfl,om,by rw [a9];exact ar,fun e ad i p=>by
    rcases Nat.lt_or_ge e d with h | h
    .exact ab e ad h p
    .obtain rfl:e=d:=om
     rw [j] at p;cases p
     exact o,xm (xt (xt hX m) z) bb (AO r.new)⟩
  .rw [ac o,I8 o];exact CW q (xt hX m) s
 .obtain rfl:d=g.n:=om
  rw [List.take_of_length_le om] at r;have ac:Nz D x=((D,CI (x.map fun f=>Cd (CK f))),0):=by
   unfold Nz;have:x.find? (fun f=>decide (BG f≠0))=none:=by
    rw [List.find?_eq_none];intro y j;obtain ⟨e,i⟩:=List.mem_iff_getElem?.1 j;simp [ab e y (by have:=(List.getElem?_eq_some_iff.1 i).1;omega) i]
   rw [this]
  rw [ac,I7 rfl];refine iN ?_;refine (M7 (q.ext hX) om (r.own.arr AQ) om).mono ?_;rintro _ ch s;exact CW q hX s
theorem Xf (h:Oq w fp b D out) (hO:out.length<=1000000) (ho:Ap D.X D.Y.length=true) (hY:∀ y∈D.Y,y.length<=1048576) {st:EB} (hx:st.ok) :
  Dq 53 [.pointer (some ⟨b,0,none⟩),.agg ⟨st.enc⟩] w (fun _ w'=>Qq w fp b w' (Je D (M4 D st)).1 (out++(Je D (M4 D st)).2)):=by
 have a5:=h;obtain ⟨cv,c',b0,cw,cm,b2,bz,no,b1,de,dc,cy,cz,ar,bg,a4,bv,ce,cn⟩:=h;have ch:=a4.arr.len;have ci:Ap D.X cm=true:=by rw [<- ch];exact ho
 have av:=fun cp (bm:AD w cp)=>Ul (c:=b0) (d:=b2) (bg.arr.ext bm) (a4.arr.ext bm) ci hY hx;have cb:(Am D.X D.Y (AH D.X) st).2=0->(Am D.X D.Y (AH D.X) st).1.1.length=6/\∀ ah∈(Am D.X D.Y (AH D.X) st).1.1,ah.length<=40:=fun i=>by
  have:=BA (LL (x:=st) ho i);exact ⟨this.1,fun ah hx=>(this.2.2 ah hx).1⟩
 have b7:(Am D.X D.Y (AH D.X) st).2=0->st.kind=7->∃ q p,(Am D.X D.Y (AH D.X) st).1.2=q++[p]/\p.length<=40/\∀ ah∈p,ah.name.size<=20/\BM ah.sum:=fun i cj=>Rx ho i cj;unfold M4;generalize Am D.X D.Y (AH D.X) st=co at *;obtain ⟨⟨bk,bl⟩,a7⟩:=co;dsimp only at *;have a':=a5.lt;subst ce;refine oV Tryz.func53 ?_;refine AB.box ?_;intro a6 az c1 c9 aj a1;have dj:=aj.size;have c6:=ar.lt;refine Dn [11] A8 mixed none (.seq (pZ [0,5,10,15,21,26]) (.alt 6 (.seq (pZ [35,40,45,52,58,60]) .done) 10 (.seq (pZ [32,35,40,45,58,60]) .done))) kR kR ?_;intro a0 r;have br:∀ ap,¬ AN none ap:=fun ap ax=>by obtain ⟨ah,hx,_⟩:=ax;cases hx
 have dk:=r.size;refine Fj (n:=2) kR (k:=0) (Sr.cells (ar.ext (xt aj r)).cells (br _)) rfl ?_;refine Ba (n:=9) kR (Sr.cells (a1.ext r).cells (br _)) rfl ?_;refine DX.mk ?_ ?_
 focus
  refine (av _ (xt aj r)).mono ?_;rintro _ v ⟨ab,t,ad,ac,o,ae,rfl,u,g⟩;refine ⟨AU g,?_⟩;refine jN (z := .agg #[.slice none 0 0,.slice none 0 0]) ?_;intro e aq b3 ck a al;refine ⟨AU (xt g a),?_⟩;refine jS (vs:=[Value.slice ab t ad,Value.slice ac o ae]) al rfl rfl (by simp [AE]) ?_;intro ag f a2;have cs:=g.size;have ct:=a.size;have cu:=f.but.size;have am:AD w ag:=xb (xt (xt (xt aj r) g) a) f.but om;have bd:=(a1.ext (xt (xt r g) a)).mod f.but (fun h=>by have h:a6=e:=h;omega);have ax:a7=0->t<=ad/\o<=ae/\C8 ag a0.heap.size v.heap.size ab t ac o bk bl:=fun i=>⟨(u i).1,(u i).2.1,((u i).2.2.mod (S:=fun _=>False) (AD.mod a) (fun _ _ _ h=>h)).mod f.but (fun m b4 b5 j=>by have j:m=e:=j;omega)⟩;have cd:az.heap.size<=e/\az.heap.size<=a0.heap.size/\v.heap.size<=ag.heap.size/\(e<a0.heap.size\/v.heap.size<=e):=om
  generalize a0.heap.size=cl at *;generalize v.heap.size=cf at *;clear u av a al f
 rotate_left
 focus
  refine jN (z := .agg #[.slice none 0 0,.slice none 0 0]) ?_;intro e v b3 ck a al;refine ⟨AU a,?_⟩;refine (av _ (xt (xt aj r) a)).mono ?_;rintro _ aq ⟨ab,t,ad,ac,o,ae,rfl,u,g⟩;refine ⟨AU (xt a g),?_⟩;refine jS (vs:=[Value.slice ab t ad,Value.slice ac o ae]) (al.ext g) rfl rfl (by simp [AE]) ?_;intro ag f a2;have cs:=g.size;have ct:=a.size;have cu:=f.but.size;have am:AD w ag:=xb (xt (xt (xt aj r) a) g) f.but om;have bd:=(a1.ext (xt (xt r a) g)).mod f.but (fun h=>by have h:a6=e:=h;omega);have ax:a7=0->t<=ad/\o<=ae/\C8 ag v.heap.size aq.heap.size ab t ac o bk bl:=fun i=>⟨(u i).1,(u i).2.1,(u i).2.2.mod f.but (fun m b4 b5 j=>by have j:m=e:=j;omega)⟩;have cd:az.heap.size<=e/\az.heap.size<=v.heap.size/\aq.heap.size<=ag.heap.size/\(e<v.heap.size\/aq.heap.size<=e):=om
  generalize v.heap.size=cl at *;generalize aq.heap.size=cf at *;clear u av a al f
 all_goals
  refine (D5 (a5.ext am) om a7).mono ?_;rintro _ di (⟨af,rfl,rfl⟩ | ⟨af,rfl,aa⟩)
  .obtain ⟨_,_,db,dd,c2,c3,bh,bi,aw⟩:=ax af;obtain ⟨ca,b'⟩:=cb af;rw [if_neg (fun ba=>ba af)];refine jA (n:=2) a2.cells rfl ?_;refine EJ kR (ar.ext am) (k:=0) (vs:=[.slice ab t ad,.slice ac o ae]) rfl (Nat.le_of_ble_eq_true rfl) (by simp [AE]) ?_;intro cr an bu;have bf:CD cr b [.slice ab t ad,.slice ac o ae,.string D.s,.slice bz no b1] 49:=bu;obtain ⟨c0,ai,bc,a3⟩:=KG ar bg a4 bv cn am bh bi aw.1 (fun m j=>.inr (by have:=aw.2 m j;omega)) an bf;have bw:=(bh.keep fun m j=>an.block m (by have:=aw.2 m (List.mem_append_left _ j);omega)).arr;have bx:=(bi.keep fun m j=>an.block m (by have:=aw.2 m (List.mem_append_right _ j);omega)).arr;have be:=a2.mod an.but (fun h=>by have h:e=b:=h;omega);have bt:=bd.mod an.but (fun h=>by have h:a6=b:=h;omega);refine jL bt.cells (k:=0) rfl ?_;(conv=>whnf);by_cases ao:st.kind=7
   .refine E3 (by simp [ao]) ?_;rw [if_neg (fun ba=>ba ao),I7 rfl];obtain ⟨q,p,rfl,c4,b8⟩:=b7 af ao;have b6:(q++[p]).getLastD []=p:=by rw [List.getLastD_eq_getLast?,List.getLast?_append];rfl
    rw [b6];obtain ⟨bq,a8,bo⟩:=bx;have c7:=a8.len;have cg:bq.length=(q++[p]).length:=bo.1;rw [List.length_append,List.length_singleton] at cg;obtain ⟨ap,bp⟩:=AA (l:=bq) (k:=q.length) om;have bj:=bo.2 q.length ap p bp sI;have b9:=OZ (c:=ap.c) bj.1 b8 (by have:=bj.1.len;omega);generalize GF p=ak at *;have c8:o=q.length+1:=om
    refine jL be.cells (k:=1) rfl ?_;refine jL be.cells (k:=1) rfl ?_;refine AB.sub ((q.length:Nat):Int) om om (by have:=a8.2.1;unfold maxLen at this;omega) ?_;refine jI a8 q.length om bp ?_;intro cx da c5 cc;refine jO cc rfl ?_;refine b9.mono ?_;rintro _ dh ⟨rfl,au⟩;(conv=>whnf);by_cases ay:ak.size=0
    .have bb:ak=⟨#[]⟩:=by
      apply ByteArray.ext;exact Array.eq_empty_of_size_eq_zero ay
     have a9:EN ak=⟨#[45]⟩:=by unfold EN;rw [if_pos ay];rfl
     rw [a9];refine ET (by simp [bb]) ?_;refine (FA (ai.ext au) om _).mono ?_;rintro _ cq aa;exact Ll bc a3 a' (CW ai au aa)
    .have bb:¬ ak=⟨#[]⟩:=fun h=>ay (by rw [h];rfl);have a9:EN ak=ak:=by unfold EN;rw [if_neg ay]
     rw [a9];refine E3 (by simp [bb]) ?_;refine (FA (ai.ext au) om _).mono ?_;rintro _ cq aa;exact Ll bc a3 a' (CW ai au aa)
   .refine ET (by simp [ao]) ?_;rw [if_pos ao,I7 rfl];refine (Iz bw (bf.cells.take 3) ca b').mono ?_;rintro _ df ⟨rfl,bn⟩;refine (FA (ai.ext bn) om _).mono ?_;rintro _ dg aa;exact Ll bc a3 a' (CW ai bn aa)
  .rw [if_pos af,I8 af];exact CW a5 am aa
theorem Xk (h:Oq w fp b D out) (hO:out.length<=1000000) (ho:Ap D.X D.Y.length=true) (hY:∀ y∈D.Y,y.length<=1048576) (tb:0<=t/\t<=5) (hz:z.size<=1048576) :
  Dq 46 [.pointer (some ⟨b,0,none⟩),.int .i64 t,.string z] w (fun _ w'=>Qq w fp b w' (Je D (Vo D t z)).1 (out++(Je D (Vo D t z)).2)):=by
 have am:=h;obtain ⟨d5,au,d7,d6,ai,d8,bx,no,b0,eo,en,d9,d',aw,a',ba,cl,df,dr⟩:=h;have di:=ba.arr.len;have eh:=a'.arr.len;have aq:=BA ho;have ed:=aq.1;have c9:∀ a5∈D.X,a5.length<=1000/\∀ y∈a5,y.length<=1000:=fun y q=>⟨by have:=(aq.2.2 y q).1;omega,fun z hz=>by have:=(Br ((aq.2.2 y q).2 z hz).1).2.1;omega⟩;have de:=am.lt;have ef:=aw.lt;subst df;unfold Vo;refine oV Tryz.func46 ?_;refine (Pb hz _).mono ?_;rintro _ et ⟨m,aj,ag,rfl,dz,b3⟩;refine jN (z := .agg #[.slice none 0 0]) ?_;intro bc eu ec el bg cf;refine jS (vs:=[Value.slice m aj ag]) cf rfl rfl (by simp [AE]) ?_;intro d2 bd ca;have e5:=b3.size;have e6:=bg.size;have ew:=bd.but.size;have ae:AD w d2:=xb (xt b3 bg) bd.but om;refine (D5 (am.ext ae) om (CG z)).mono ?_;rintro _ ad (⟨v,rfl,rfl⟩ | ⟨v,rfl,al⟩)
 .rw [if_neg (fun dh=>dh v)];obtain ⟨da,a8⟩:=dz v;have a7:Ai eI 1 w.heap.size 2 ad m aj ag (CR z):=(a8.ext bg).mod bd.but (fun y q h=>by
   have h:y.block=bc:=h;have c8:=(a8.blk_lt y q).2;omega)
  refine (Nw (s:=[.string D.s,.slice bx no b0]) (a'.arr.ext ae) (ba.arr.ext ae) (aw.ext ae).cells om (by have:=aq.2.1;omega) c9 hY).mono ?_;rintro _ bm ⟨cu,an,af,ao,rfl,dy,b1⟩;refine jN (z := .agg #[.slice none 0 0,.slice none 0 0]) ?_;intro bb ep c6 ej bf cc;refine jS (vs:=[Value.slice cu au an,Value.slice af ai ao]) cc rfl rfl (by simp [AE]) ?_;intro a3 be bp;(conv=>whnf);have ex:=b1.size;have ey:=bf.size;have ez:=be.but.size;obtain ⟨c2,bh,cn,bt,bi⟩:=(dy.ext bf).but be.but (.inr c6);have a6:AD ad a3:=xb (xt b1 bf) be.but om;have co:=a7.ext a6;have cb:=ca.ext a6;obtain ⟨dt,dv,a2⟩:=List.nodup_append.1 bi.1;have cr:=cn.own;obtain ⟨av,bl⟩:=AA (l:=D.X) (k:=t.toNat) om;obtain ⟨j,i,b4,dc,b5,cg,ck,dw,db,ac,dm⟩:=cr.hand dt bl;subst dc;obtain ⟨d4,dp,c1,c3,c4,c5⟩:=ck;have ak:Bx A0 0 144 a3 i.a i.n i.c av b4:=⟨dp,c1,c3.base (Nat.zero_le _),c4,c5⟩;have dg:D.X.getD t.toNat []=av:=Ae bl;have ei:=(aq.2.2 av (List.mem_of_getElem? bl)).1;have eg:i.n<=40:=by have:=ak.le.2;omega
  have o:∀ e∈c2,ad.heap.size<=e/\e<bm.heap.size:=fun e g=>bi.2 e (List.mem_append_left _ g);have bk:∀ e∈bh,ad.heap.size<=e/\e<bm.heap.size:=fun e g=>bi.2 e (List.mem_append_right _ g);have b6:∀ e,e<ad.heap.size\/bm.heap.size<=e->¬ AN i.a e:=fun e g h=>by have:=o e (ac e (ak.blk e h));omega
  have dj:¬ AN i.a j:=fun h=>db (ak.blk j h);refine H6 [12] A8 mixed i.a (pZ [0,10,15,25,6,21,30,36,41,47,52,55,63]) kR kR ?_;intro bn u;have br:∀ w',Sr i.a bn w'->AK w' bb 0 [.slice (some ⟨j,0,none⟩) au an,.slice af ai ao]:=Sr.cells (bp.ext u).cells (b6 _ om);have ch:∀ w',Sr i.a bn w'->AK w' bc 0 [.slice m aj ag]:=Sr.cells (cb.ext u).cells (b6 _ om);have cj:∀ w',Sr i.a bn w'->AK w' j (0+t.toNat * 1) (eH i):=Sr.cells (cg.ext u) dj;refine C9 kR (k:=0) br rfl ?_;refine C9 kR (k:=0) br rfl ?_;refine pW (sz:=1) t.toNat om om ?_;refine FO kR cj rfl ?_;refine Ba (n:=1) kR ch rfl ?_;refine AB.buildSlice Bm (vs:=[Value.agg ⟨eH ⟨m,aj,ag⟩⟩]) (by rfl) (by rfl) (by simp [Value.cells,eH]) dE ?_;intro cw d3 eb ek ah cd;have ci:AK d3 cw 0 (eH ⟨m,aj,ag⟩):=cd.cells;refine ⟨AU ah,?_⟩;have e0:=u.size;have e1:=ah.size;have a1:∀ e∈BU m,w.heap.size<=e/\e<ad.heap.size/\e≠bc:=fun e g=>by
   obtain ⟨y,q,rfl⟩:=A2.1 g;have c8:=(a8.blk_lt y q).2;exact ⟨da y q,(a7.blk_lt y q).2,om⟩
  have dd:(BU m).Nodup:=by cases m<;>simp [BU]
  refine CY Bm rfl (ak.ext (xt u ah)) dw (Nat.zero_le _) (d:=⟨m,aj,ag⟩) (x:=CR z) (f:=BU m) (Fg (co.ext (xt u ah)).own a7.le.1) dd (fun e g ap=>by have:=a1 e g;have:=o e (ac e ap);omega) ci om om ?_;intro cv cx b9 cz cm du b8 a9;refine ⟨(AD.mod ah).trans a9,?_⟩;refine pW (sz:=1) t.toNat om om ?_;have ay:BY (fun e=>e∈b4) a3 b9:=(AD.mod (xt u ah)).trans (a9.mono fun e g=>ak.blk e g);refine dm _ _ b9 ⟨cv,i.n+1,cx⟩ (av++[CR z]) cz kR ay ⟨0,cm⟩ du (fun e g=>by
   rcases b8 e g with h | h | h
   .exact .inl h
   .exact .inr fun ap=>by have:=a1 e h;have:=o e ap;omega
   .exact .inr fun ap=>by have:=o e ap;omega) _ ?_
  intro a4 c0 a0 az ds d1;have e2:=a9.size;have e3:=a0.but.size;have ee:=o j b5;have c':D.X.set t.toNat (av++[CR z])=CU D.X t z:=by unfold CU;rw [dg]
  rw [c'] at az;have cp:BY (fun e=>ad.heap.size<=e) a3 a4:=(ay.mono fun e g=>(o e (ac e g)).1).trans (a0.but.mono fun e g=>by have g:e=j:=g;omega);have ax:AD w a4:=xm (xt ae a6) cp (fun e g=>by omega);have bo:CD a4 bb [.slice (some ⟨j,0,none⟩) au an,.slice af ai ao] 34:=(bp.mod ay (fun h=>by have:=o _ (ac _ h);omega)).mod a0.but (fun h=>by have h:bb=j:=h;omega);have bu:EO G4 a4 af ai 161 D.Y bh:=bt.own.keep fun e g=>by
   have c7:=bt.lt e g;rw [a0.block e (fun h=>a2 j b5 e g h.symm),ay.block e (fun h=>a2 e (ac e h) e g rfl) c7]
  have bj:∀ e∈c0,w.heap.size<=e/\e∉bh:=fun e g=>by
   rcases d1 e g with h | h
   .exact ⟨by have:=o e h;omega,fun aa=>a2 e h e aa rfl⟩
   .rcases b8 e h with h | h | h
    .exact ⟨by have:=o e (ac e h);omega,fun aa=>a2 e (ac e h) e aa rfl⟩
    .exact ⟨(a1 e h).1,fun aa=>by have:=a1 e h;have:=bk e aa;omega⟩
    .exact ⟨om,fun aa=>by have:=bk e aa;omega⟩
  refine (PX (s:=[]) az.arr bo.cells).mono ?_;rintro _ eq ⟨rfl,p⟩;rw [<- di];(conv=>whnf);cases dk:Ap (CU D.X t z) D.Y.length
  .rw [if_pos rfl,I8 (r:=((D,[]),6)) (show (6:Int)≠0 by decide)];refine (D5 (am.ext (xt ax p)) om 6).mono ?_;rintro _ b' (⟨v,_,_⟩ | ⟨_,rfl,al⟩)
   .cases v
   exact CW am (xt ax p) al
  .rw [if_neg sI,I7 rfl];have b7:=BA dk;refine jA (n:=2) (bo.ext p).cells rfl ?_;have e4:=p.size;refine EJ kR (aw.ext (xt ax p)) (k:=0) (vs:=[.slice (some ⟨j,0,none⟩) au an,.slice af ai ao]) rfl (Nat.le_of_ble_eq_true rfl) (by simp [AE]) ?_;intro b' bz ce;have bq:CD b' b [.slice (some ⟨j,0,none⟩) au an,.slice af ai ao,.string D.s,.slice bx no b0] 49:=ce;have bv:=(az.keep fun e g=>p.block e (az.lt e g)).imp (fun _ _ _ h=>OG.os h);have cs:=bu.keep fun e g=>p.block e (bu.lt e g);obtain ⟨ea,bw,d0,cq⟩:=KG aw a' ba cl dr (xt ax p) bv cs (List.nodup_append.2 ⟨ds,dv,fun dx dl em dn cy=>(bj dx dl).2 (cy▸dn)⟩) (fun ar ab=>.inr (by
    rcases List.mem_append.1 ab with ab | ab
    .exact (bj ar ab).1
    .have:=bk ar ab;omega)) bz bq
   have ct:=(bv.keep fun ar ab=>bz.block ar (by have:=(bj ar ab).1;omega)).arr;refine (Iz ct (bq.cells.take 3) b7.1 (fun a5 dq=>(b7.2.2 a5 dq).1)).mono ?_;rintro _ er ⟨rfl,b2⟩;refine (FA (bw.ext b2) om _).mono ?_;rintro _ es al;exact Ll d0 cq de (CW bw b2 al)
 .rw [if_pos v,I8 v];exact CW am ae al
end Go.Proofs.YtalgenmoljcnmaaGreatDoor
