/- Parts of the proof; no conditions of its own. -/
import Derived.Test.YtalgenmoljcnmaaGreatDoorExecG
import Derived.Test.YtalgenmoljcnmaaGreatDoorRunM
namespace Go.Proofs.YtalgenmoljcnmaaGreatDoor
open Go Go.RowKit Go.Vc Go.M
variable {w:World}
theorem TJ {a:Option Addr} {c:Nat} :
  Dq 42 [.slice a 0 c] w (fun v w'=>∃ a c,v = .agg #[.slice a 6 c,.slice none 0 0]/\C8 w' w.heap.size w'.heap.size a 6 none 0 (List.replicate 6 []) []/\AD w w'):=by
 refine oV Tryz.func42 ?_;refine jN (z := .agg #[.slice none 0 0,.slice none 0 0]) ?_;intro y i ba bf ar a1;refine (Q0).mono ?_;rintro _ b5 ⟨p,rfl,b2,b3,bi,av⟩;refine bS Dm (vs:=[Value.slice (some { block:=p,off:=0 }) 0 0]) ?_;intro q a0 bt b1 ak a3;refine AB.build Ko rfl ?_;have cb:=av.size;have cc:=ak.size;have a8:Bx Jc i.heap.size 78 a0 (some ⟨q,0,none⟩) 1 1 [[]] [q,p]:=⟨[⟨some ⟨p,0,none⟩,0,0⟩],[[p]],AG (n:=1) (xs:=[⟨some ⟨p,0,none⟩,0,0⟩]) Es a3 om rfl om,HY.nil.snoc (PE (bi.ext ak)),rfl⟩;refine jN (z := .agg #[.slice none 0 0,.slice none 0 0]) ?_;intro h b6 bb bg a' a4;refine AW (vs:=[Value.slice (some { block:=q,off:=0 }) 1 1,Value.slice none 0 0]) kR a4 rfl rfl (by simp [AE]) ?_;intro ac ap ae;have aw:AD a0 ac:=a'.but_trans ap.but bb;have a5:=a8.ext aw;have an:AD i ac:=xt av (xt ak aw);have ae:CD ac h [Value.slice (some { block:=q,off:=0 }) 1 1,Value.slice none 0 0] 34:=ae;have t:CD ac y [.slice none 0 0,.slice none 0 0] 34:=a1.ext an;refine lR [2,3,4] (fun (g:Nat) bk w'=>∃ o aa l,bk=[.pointer (some ⟨y,0,none⟩),.pointer (some ⟨h,0,none⟩),.int .i64 g]/\1<=g/\g<=6/\CD w' y [.slice none 0 0,.slice none 0 0] 34/\CD w' h [.slice o g aa,.slice none 0 0] 34/\Bx Jc i.heap.size 78 w' o g aa (List.replicate g []) l/\l.Nodup/\(∀ b∈l,i.heap.size<=b/\b≠h)/\AD i w'/\h<w'.heap.size) (fun g=>6 - g) 1 ⟨some ⟨q,0,none⟩,1,_,rfl,om,om,t,ae,a5,by simp;omega,by simp;omega,an,Nat.lt_of_lt_of_le bg ap.but.size⟩ ?_;rintro g bp _ w' ⟨o,aa,l,rfl,bv,bw,t,ad,j,az,s,ah,bx⟩;have bu:=ah.size;refine AL (fun bc=>?_) fun bc=>?_
 .refine jL ad.cells (k:=0) rfl ?_;refine bS Bm (vs:=[]) ?_;intro ai bl bq bz a9 af;refine bS Dm (vs:=[Value.slice (some { block:=ai,off:=0 }) 0 0]) ?_;intro bo bm br b0 au a2;have r:AD w' bm:=xt a9 au;have b9:=r.size;have al:=j.lt;refine CY Dm rfl (j.ext r) az om (d:=⟨some ⟨ai,0,none⟩,0,0⟩) (x:=[]) (f:=[ai]) (PE (af.ext au)) sI (fun b e bd=>by rw [List.mem_singleton] at e;have:=al b bd;omega) a2.cells om om ?_;intro ao aq b4 ax a7 bh bj u;have ay:∀ b,(b<i.heap.size\/b=h)->¬ AN o b:=fun b e m=>by
   have:=s b (j.blk b m);omega
  refine jT ((ad.ext r).mod u (ay h (.inr rfl))) (k:=0+0) sI rfl ?_;intro bn ab ag;have ag:CD bn h [.slice ao ((g+1:Nat):Int).toNat aq,.slice none 0 0] 34:=ag;have am:∀ b∈ax,i.heap.size<=b/\b≠h:=fun b e=>by
   rcases bj b e with m | m | m
   .exact s b m
   .rw [List.mem_singleton] at m;omega
   .omega
  refine jP (((g+1:Nat):Int)) ?_;have b':=u.size;have ca:=ab.but.size;refine ⟨g+1,om,ao,aq,ax,rfl,om,om,((t.ext r).mod u (ay y (.inl bf))).mod ab.but (by have:=am;omega),ag,?_,bh,am,?_,om⟩
  .rw [List.replicate_succ'];exact a7.keep fun b e=>ab.block b (am b e).2
  .exact ((xt ah r).mod_trans u (fun b e=>(s b (j.blk b e)).1)).but_trans ab.but om
 .refine jA (n:=2) ad.cells rfl ?_;refine jS (vs:=[Value.slice o g aa,Value.slice none 0 0]) t rfl rfl (by simp [AE]) ?_;intro bl aj af;refine AP (jR (n:=2) rfl af.cells) ?_;(conv=>whnf);have be:g=6:=om
  subst be;have b7:=ar.size;have b8:=aj.but.size;have al:=j.lt;have a6:=j.keep fun b e=>aj.block b (by have:=s b e;omega);exact ⟨_,_,rfl,⟨_,161,l,[],a6.own,(Bx.none (B:=0)).own,by simpa using az,fun b e=>by
   have e:b∈l:=by simpa using e
   have:=s b e;have:=al b e;omega⟩,(xt ar ah).but_trans aj.but ba⟩
theorem TE :
  Dq 17 [] w (fun v w'=>∃ a c,v = .agg #[.slice a 6 c,.slice none 0 0,.string { data := #[] }]/\C8 w' w.heap.size w'.heap.size a 6 none 0 (List.replicate 6 []) []/\AD w w'):=by
 refine oV Tryz.func17 ?_;refine jN (z := .agg #[.slice none 0 0,.slice none 0 0,.string { data := #[] }]) ?_;intro k aa m x e h;refine bS Bm (vs:=[]) ?_;intro t ab u y d s;refine (TJ).mono ?_;rintro _ ac ⟨j,l,rfl,r,f⟩;refine AB.build Rz rfl ?_;refine jS (vs:=[Value.slice j 6 l,Value.slice none 0 0,Value.string { data := #[] }]) (h.ext (xt d f)) rfl rfl (by simp [AE]) ?_;intro ad b i;refine AP (jR (n:=3) rfl i.cells) ?_;refine ⟨_,_,rfl,?_,(xb (xt (xt e d) f) b.but m)⟩;have p:=d.size;have o:=e.size;exact (r.mod b.but (fun q o p g=>by have g:q=k:=g;omega)).wide om b.but.size
end Go.Proofs.YtalgenmoljcnmaaGreatDoor
namespace Go.M
open Go Go.Vc
variable {t:ByteArray} {A:C7}
theorem UP {w:ByteArray} (h:(deskWordsM.any fun x=>decide (x=w))=true):w=CP\/w=CH\/w=Cx\/w=Ha\/w=DP\/w=DD\/w=Dz\/w=Cm\/w=EV\/w=Bz\/w=Cb\/w=Di\/w=GC\/w=BK:=by
 obtain ⟨x,b,a⟩:=List.any_eq_true.1 h;have a:=of_decide_eq_true a;subst a;unfold deskWordsM at b;simpa using b
theorem Ns (h:(deskWordsM.any fun x=>decide (x=t))=true):t=CP\/t=CH\/t=Cb\/t=Cm\/t=GC\/t=Dz\/t=Ha\/(t=Di\/t=Cx\/t=DD\/t=DP\/t=EV\/t=Bz\/t=BK):=by
 rcases UP h with h | h | h | h | h | h | h | h | h | h | h | h | h | h<;>simp [h]
theorem LM (hs:t=Di\/t=Cx\/t=DD\/t=DP\/t=EV\/t=Bz\/t=BK) (h:UL A (BW t)):A.nums=[]/\1<=A.trays.length/\A.trays.length<=4/\1<=A.fields.length/\(DV (DZ t)=true->2<=A.trays.length)/\(DZ t=7->2<=A.fields.length)/\(DZ t=7↔t=BK)/\(t=Bz\/A.texts=[]):=by
 have a:=h.t;have d:=h.n;have c:=h.f;have e:=h.x;rcases hs with rfl | rfl | rfl | rfl | rfl | rfl | rfl
 all_goals
  refine ⟨List.length_eq_zero_iff.1 (d.trans dE),?_,?_,?_,fun b=>?_,fun b=>?_,dE,?_⟩
  .rw [a];decide
  .rw [a];decide
  .rw [c];decide
  .rw [a];first | decide | exact absurd b dE
  .rw [c];first | decide | exact absurd b dE
  .first | exact .inl rfl | exact .inr (List.length_eq_zero_iff.1 (e.trans dE))
theorem Xc (hs:t=Di\/t=Cx\/t=DD\/t=DP\/t=EV\/t=Bz\/t=BK) (h:UL A (BW t)):∃ t0 tl t1 f0 f1 z,Qo t A t0 tl t1 f0 f1 z:=by
 obtain ⟨o,p,r,q,j,i,e,n⟩:=LM hs h;obtain ⟨t0,f⟩:=AA (l:=A.trays) (k:=0) om;obtain ⟨tl,g⟩:=AA (l:=A.trays) (k:=A.trays.length - 1) om;obtain ⟨f0,d⟩:=AA (l:=A.fields) (k:=0) om;refine ⟨t0,tl,A.trays.getD 1 0,f0,A.fields.getD 1 ⟨0,0⟩,A.texts.getD 0 ⟨#[]⟩,f,g,d,fun b=>?_,fun b=>?_,fun b=>?_⟩
 .obtain ⟨c,a⟩:=AA (l:=A.trays) (k:=1) (j b);rw [a,Ae a]
 .obtain ⟨c,a⟩:=AA (l:=A.fields) (k:=1) (i (e.2 b));rw [a,Ae a]
 .have m:A.texts.length=1:=by rw [h.x,b];decide
  obtain ⟨c,a⟩:=AA (l:=A.texts) (k:=0) om;rw [a,Ae a]
end Go.M
namespace Go.Proofs.YtalgenmoljcnmaaGreatDoor
open Go Go.RowKit Go.Vc Go.M
theorem NU {word:ByteArray} {w:World} {lo hi n c m d:Nat} {a b:Option Addr} {D:Bv} (h:GQ w lo hi a n c b m d D.X D.Y) (hhi:hi<=w.heap.size) (ho:Ap D.X m=true) (hs:D.s.size<=1048576) (hY:∀ y∈D.Y,y.length<=1048576) (hTm:∀ u,BY (Iv lo hi) w u->F7 u) (hE:EP w) (hM:Dy w) {A:C7} {a1 a2 a3 a4:Option Addr} {n1 n2 n3 n4 c1 c2 c3 c4:Nat} (h1:A4 eI 1 w a1 n1 A.trays) (h2:A4 eI 1 w a2 n2 A.nums) (h3:A4 AF.enc 2 w a3 n3 A.fields) (h4:A4 eS 1 w a4 n4 A.texts) (hA:Fv A) (hb:∀ t∈A.trays,0<=t/\t<=5) (hO:UL A (BW word)) (hw:(Go.M.deskWordsM.any fun x=>decide (x=word))=true) :
  Dq 35 [.agg #[.slice a n c,.slice b m d,.string D.s],.string word,.agg #[.slice a1 n1 c1,.slice a2 n2 c2,.slice a3 n3 c3,.slice a4 n4 c4]] w (fun v w'=>Jd w w' lo hi v (BC D word A)):=by
 have al:=h1.len;rcases Ns hw with rfl | rfl | rfl | rfl | rfl | rfl | rfl | p
 .have g:A.trays.length=1:=hO.t.trans dE;have o:A.nums.length=0:=hO.n.trans dE;have i:A.fields.length=0:=hO.f.trans dE;have j:A.texts.length=1:=hO.x.trans dE;obtain ⟨t,e⟩:=AA (l:=A.trays) (k:=0) om;obtain ⟨ab,z⟩:=AA (l:=A.texts) (k:=0) om;exact P9 h hhi ho hs hY hTm hE hM h1 h2 h3 h4 hA hb e z
 .have g:A.trays.length=1:=hO.t.trans dE;have o:A.nums.length=0:=hO.n.trans dE;have i:A.fields.length=0:=hO.f.trans dE;have j:A.texts.length=0:=hO.x.trans dE;obtain ⟨t,e⟩:=AA (l:=A.trays) (k:=0) om;exact Oe h hhi ho hs hY hTm hE hM h1 h2 h3 h4 hA hb e
 .have g:A.trays.length=1:=hO.t.trans dE;have o:A.nums.length=0:=hO.n.trans dE;have i:A.fields.length=0:=hO.f.trans dE;have j:A.texts.length=0:=hO.x.trans dE;obtain ⟨t,e⟩:=AA (l:=A.trays) (k:=0) om;exact P7 h hhi ho hs hY hTm hE hM h1 h2 h3 h4 hA hb e
 .have g:A.trays.length=1:=hO.t.trans dE;have o:A.nums.length=0:=hO.n.trans dE;have i:A.fields.length=1:=hO.f.trans dE;have j:A.texts.length=0:=hO.x.trans dE;obtain ⟨t,e⟩:=AA (l:=A.trays) (k:=0) om;obtain ⟨ac,r⟩:=AA (l:=A.fields) (k:=0) om;exact NT h hhi ho hs hY hTm hE hM h1 h2 h3 h4 hA hb e r
 .have g:A.trays.length=1:=hO.t.trans dE;have o:A.nums.length=0:=hO.n.trans dE;have i:A.fields.length=2:=hO.f.trans dE;have j:A.texts.length=0:=hO.x.trans dE;obtain ⟨t,e⟩:=AA (l:=A.trays) (k:=0) om;obtain ⟨ac,r⟩:=AA (l:=A.fields) (k:=0) om;obtain ⟨ah,ad⟩:=AA (l:=A.fields) (k:=1) om;exact Ra h hhi ho hs hY hTm hE hM h1 h2 h3 h4 hA hb e r ad
 .have g:A.trays.length=1:=hO.t.trans dE;have o:A.nums.length=1:=hO.n.trans dE;have i:A.fields.length=0:=hO.f.trans dE;have j:A.texts.length=1:=hO.x.trans dE;obtain ⟨t,e⟩:=AA (l:=A.trays) (k:=0) om;obtain ⟨ak,ae⟩:=AA (l:=A.nums) (k:=0) om;obtain ⟨ab,z⟩:=AA (l:=A.texts) (k:=0) om;exact P8 h hhi ho hs hY hTm hE hM h1 h2 h3 h4 hA hb e ae z
 .have g:A.trays.length=0:=hO.t.trans dE;have o:A.nums.length=0:=hO.n.trans dE;have i:A.fields.length=0:=hO.f.trans dE;have j:A.texts.length=0:=hO.x.trans dE;exact Rb h hhi ho hs hY hTm hE hM h1 h2 h3 h4 hA hb
 .obtain ⟨ap,g,j,i,ar,aq,ai,aj⟩:=LM p hO;obtain ⟨am,ao,an,af,ag,ab,aa⟩:=Xc p hO;exact P6 p h hhi ho hs hY hTm hE hM h1 h2 h3 h4 hA hb aa.a0 fun u q=>VJ p (h1.ext q) (h3.ext q) (h4.ext q) om aa
end Go.Proofs.YtalgenmoljcnmaaGreatDoor
namespace Go.M
open Go Go.Vc
variable {D:Bv} {line t:ByteArray} {ws:List ByteArray}
theorem X8 (D:Bv) (A:C7):BC D CP A=Vo D (A.trays.getD 0 0) (A.texts.getD 0 ⟨#[]⟩):=by
 unfold BC Vo;rw [if_neg dE,if_pos rfl];rfl
theorem Wj (D:Bv) (A:C7):BC D CH A=(({ D with X:=D.X.set (A.trays.getD 0 0).toNat [] },[C6 (At (D.X.set (A.trays.getD 0 0).toNat []))]),0):=by
 unfold BC;rw [if_neg dE,if_neg dE,if_pos rfl]
theorem X6 (D:Bv) (A:C7):BC D Cb A=Nz D (D.X.getD (A.trays.getD 0 0).toNat []):=by
 unfold BC Nz;rw [if_neg dE,if_neg dE,if_neg dE,if_pos rfl];rfl
theorem X7 (D:Bv) (A:C7):BC D Dz A=U7 D ⟨A.trays.getD 0 0,(D.X.getD (A.trays.getD 0 0).toNat []).length,A.nums.getD 0 0,A.texts.getD 0 ⟨#[]⟩⟩:=by
 unfold BC U7;rw [if_neg dE,if_neg dE,if_neg dE,if_neg dE,if_pos rfl]
theorem Vj (D:Bv) (A:C7):BC D Cm A=Ux D (D.X.getD (A.trays.getD 0 0).toNat []) (A.fields.getD 0 ⟨0,0⟩):=by
 unfold BC Ux;rw [if_neg dE,if_neg dE,if_neg dE,if_neg dE,if_neg dE,if_pos rfl]
theorem ZH (D:Bv) (A:C7):BC D GC A=YY D (D.X.getD (A.trays.getD 0 0).toNat []) (A.fields.getD 0 ⟨0,0⟩) (A.fields.getD 1 ⟨0,0⟩):=by
 unfold BC YY;rw [if_neg dE,if_neg dE,if_neg dE,if_neg dE,if_neg dE,if_neg dE,if_pos rfl]
theorem ZI (D:Bv) (A:C7):BC D Ha A=Xu D:=by
 unfold BC Xu;rw [if_pos rfl]
theorem Wh {w:ByteArray} {A:C7} (h1:w≠Ha) (h2:w≠CP) (h3:w≠CH) (h4:w≠Cb) (h5:w≠Dz) (h6:w≠Cm) (h7:w≠GC) (hk:DZ w=7↔w=BK):BC D w A=M4 D (BT w A):=by
 unfold BC M4;rw [if_neg h1,if_neg h2,if_neg h3,if_neg h4,if_neg h5,if_neg h6,if_neg h7];have c:(BT w A).kind=DZ w:=rfl;rw [c];by_cases b:w=BK
 .rw [if_neg (show ¬ w≠BK from fun a=>a b),if_neg (show ¬ DZ w≠7 from fun a=>a (hk.2 b))]
 .rw [if_pos (show w≠BK from b),if_pos (show DZ w≠7 from fun a=>b (hk.1 a))]
theorem Z1 (hD:Fe D.X D.Y.length D.s=true) (hs:Aq 32 line=t :: ws) (h:¬ (deskWordsM.any fun x=>decide (x=t))=true\/¬ ws.length=(BW t).length):Ez D line=((LW,[]),7):=by
 unfold Ez;rw [if_neg (by simp [hD]),hs,List.headD_cons,List.length_cons,Nat.add_sub_cancel,if_pos h]
theorem ZQ (hD:Fe D.X D.Y.length D.s=true) (hs:Aq 32 line=t :: ws) (hk:(deskWordsM.any fun x=>decide (x=t))=true) (hl:ws.length=(BW t).length) (ha:(Bd (BW t) ws).2≠0):Ez D line=((D,[E1 (Bd (BW t) ws).2]),0):=by
 unfold Ez;rw [if_neg (by simp [hD]),hs,List.headD_cons,List.length_cons,Nat.add_sub_cancel,if_neg (by simp [hk,hl]),List.drop_succ_cons,List.drop_zero,if_pos ha]
theorem ZP (hD:Fe D.X D.Y.length D.s=true) (hs:Aq 32 line=t :: ws) (hk:(deskWordsM.any fun x=>decide (x=t))=true) (hl:ws.length=(BW t).length) (ha:(Bd (BW t) ws).2=0) :
  (Ez D line).2=0/\(Ez D line).1=Je D (BC D t (Bd (BW t) ws).1):=by
 unfold Ez;rw [if_neg (by simp [hD]),hs,List.headD_cons,List.length_cons,Nat.add_sub_cancel,if_neg (by simp [hk,hl]),List.drop_succ_cons,List.drop_zero,if_neg (by simp [ha])];unfold Je;split
 .exact ⟨rfl,rfl⟩
 .rename_i a;exact ⟨by simpa using a,rfl⟩
end Go.M
namespace Go.Proofs.YtalgenmoljcnmaaGreatDoor
open Go Go.RowKit Go.Vc Go.M
theorem TB {w:World} {a1 a2:Option Addr} {n1 c1 n2 c2 r:Nat} {T:List Int} {F:List AF} {z:ByteArray} (hc:AK w r 0 [.slice a1 n1 c1,.slice a2 n2 c2,.string z]) (h1:A4 eI 1 w a1 n1 T) (h2:A4 AF.enc 2 w a2 n2 F) {k t0 tl t1:Int} {f0 f1:AF} (h0:T[0]? = some t0) (hl:T[T.length - 1]? = some tl) (hf:F[0]? = some f0) (hb:DV k=true->T[1]? = some t1) (h7:k=7->F[1]? = some f1) (hn:n1<=1000) :
  Dq 54 [.int .i64 k,.pointer (some ⟨r,0,none⟩)] w (fun v w'=>v = .agg ⟨(EB.mk k t0 (if DV k=true then t1 else 0) (if k=7 then 0 else tl) f0 (if k=7 then f1 else ⟨0,0⟩) z).enc⟩/\AD w w'):=by
 have ba:=h1.len;have bc:=h2.len;have bh:=(List.getElem?_eq_some_iff.1 h0).1;have bi:=(List.getElem?_eq_some_iff.1 hf).1;refine oV Tryz.func54 ?_;refine jN (z := .agg #[.int .i64 0,.int .i64 0,.int .i64 0,.int .i64 0,.int .i64 0,.int .i64 0,.int .i64 0,.int .i64 0,.string { data := #[] }]) ?_;intro af a5 au bd f ac;refine Av A8 mixed (pZ [0,5,10,15,35,40,45,65,70,75,21,25,31,51,55,61,81,86,92,98]) kR kR ?_;intro bl p;refine dL (hc.ext f) (k:=0) rfl ?_;refine pI (h1.ext f) 0 rfl h0 ?_;intro a6 be av ai;refine dL ai (k:=0) rfl ?_;refine dL (hc.ext f) (k:=1) rfl ?_;refine pI (h2.ext f) 0 rfl hf ?_;intro a7 bf aw aj;refine dA (n:=2) aj rfl ?_;refine dL (hc.ext f) (k:=2) rfl ?_;refine BN.build aA7 rfl ?_;refine jN (z := .agg #[.int .i64 0,.int .i64 0,.int .i64 0,.int .i64 0,.int .i64 0,.int .i64 0,.int .i64 0,.int .i64 0,.string { data := #[] }]) ?_;intro ad bj a9 bb o ab;refine ⟨xt p o,?_⟩;refine jS (vs:=[.int .i64 k,.int .i64 t0,.int .i64 0,.int .i64 0,.int .i64 f0.from_,.int .i64 f0.to_,.int .i64 0,.int .i64 0,.string z]) ab rfl rfl (by simp [AE]) ?_;intro an x s;have bo:=f.size;have bp:=p.size;have bm:=o.size;have bn:=x.but.size;have u:AD a5 an:=xb (xt p o) x.but om;have e:AD w an:=xt f u;have t:=ac.ext u;have m:=hc.ext e;have aa:=h1.ext e;have aq:=h2.ext e;have y:w.heap.size<=af:=au;have g:w.heap.size<=ad:=om
 have q:¬ af=ad:=om
 clear f p o x u ac ab ai aj av aw;(conv=>whnf);by_cases d:k=7
 .have ak:=h7 d;have a0:=(List.getElem?_eq_some_iff.1 ak).1;rw [if_neg (by rw [d];decide),if_pos d,if_pos d];refine KL.yes d ?_;refine jL m (k:=1) rfl ?_;refine jI aq 1 rfl ak ?_;intro ae am ah l;refine jA (n:=2) l rfl ?_;refine EJ kR s (vs:=f1.enc) rfl (k:=6) (by simp [Value.cells,AF.enc]) (by simp [AF.enc,AE]) ?_;intro ao a h;refine jA (n:=9) h.cells rfl ?_;refine AW (vs:=(EB.mk k t0 0 0 f0 f1 z).enc) kR (t.mod a.but q) rfl rfl (by simp [EB.enc,AF.enc,AE]) ?_;intro ap j i;refine AP (jR (n:=9) rfl i.cells) ?_;exact ⟨rfl,xb (xb e a.but g) j.but y⟩
 .rw [if_neg d,if_neg d];have ay:T.length - 1=n1 - 1:=om
  rw [ay] at hl;cases az:DV k
  .rw [if_neg sI];refine KL.no d ?_;refine Av A8 mixed (pZ [0,5,10,20,25,30,16,36,41,45,50,56,60,68]) kR kR ?_;intro a3 b;refine dL m (k:=0) rfl ?_;refine dL m (k:=0) rfl ?_;refine DN.sub (((n1 - 1:Nat):Int)) om om om ?_;refine pI aa (n1 - 1) rfl hl ?_;intro ae am ah l;refine dO l rfl ?_;refine jT (s.ext b) (k:=3) (Nat.le_of_ble_eq_true rfl) rfl ?_;intro ao a h;refine (I2 _ _).mono ?_;rintro _ a4 ⟨rfl,c⟩;refine iF ?_;refine jA (n:=9) (h.ext c).cells rfl ?_;refine AW (vs:=(EB.mk k t0 0 tl f0 ⟨0,0⟩ z).enc) kR (((t.ext b).mod a.but q).ext c) rfl rfl (by simp [EB.enc,AF.enc,AE]) ?_;intro ap j i;refine AP (jR (n:=9) rfl i.cells) ?_;exact ⟨rfl,xb (xt (xb (xt e b) a.but g) c) j.but y⟩
  .rw [if_pos rfl];have al:=hb az;have a0:=(List.getElem?_eq_some_iff.1 al).1;refine KL.no d ?_;refine Av A8 mixed (pZ [0,5,10,20,25,30,16,36,41,45,50,56,60,68]) kR kR ?_;intro a3 b;refine dL m (k:=0) rfl ?_;refine dL m (k:=0) rfl ?_;refine DN.sub (((n1 - 1:Nat):Int)) om om om ?_;refine pI aa (n1 - 1) rfl hl ?_;intro ae am ah l;refine dO l rfl ?_;refine jT (s.ext b) (k:=3) (Nat.le_of_ble_eq_true rfl) rfl ?_;intro ao a h;refine (I2 _ _).mono ?_;rintro _ a4 ⟨rfl,c⟩;refine iT ?_;refine jL (hc.ext (xt (xb (xt e b) a.but g) c)) (k:=0) rfl ?_;refine jI (h1.ext (xt (xb (xt e b) a.but g) c)) 1 rfl al ?_;intro a8 bg a' ax;refine jO ax rfl ?_;refine jT (h.ext c) (k:=2) (Nat.le_of_ble_eq_true rfl) rfl ?_;intro bk ag ar;refine jA (n:=9) ar.cells rfl ?_;refine AW (vs:=(EB.mk k t0 t1 tl f0 ⟨0,0⟩ z).enc) kR ((((t.ext b).mod a.but q).ext c).mod ag.but q) rfl rfl (by simp [EB.enc,AF.enc,AE]) ?_;intro ap j i;refine AP (jR (n:=9) rfl i.cells) ?_;exact ⟨rfl,xb (xb (xt (xb (xt e b) a.but g) c) ag.but g) j.but y⟩
end Go.Proofs.YtalgenmoljcnmaaGreatDoor
namespace Go.M
open Go Go.Vc
theorem Ze {t:ByteArray} {A:C7} {t0 tl t1:Int} {f0 f1:AF} (hk:DZ t=7↔t=BK) (hx:t=Bz\/A.texts=[]) (h0:A.trays[0]? = some t0) (hl:A.trays[A.trays.length - 1]? = some tl) (hf:A.fields[0]? = some f0) (hb:DV (DZ t)=true->A.trays[1]? = some t1) (h7:DZ t=7->A.fields[1]? = some f1) :
  BT t A=EB.mk (DZ t) t0 (if DV (DZ t)=true then t1 else 0) (if DZ t=7 then 0 else tl) f0 (if DZ t=7 then f1 else ⟨0,0⟩) (A.texts.getD 0 ⟨#[]⟩):=by
 unfold BT;rw [Ae h0,Ae hl,Ae hf];congr 1
 .by_cases a:DV (DZ t)=true
  .rw [if_pos a,if_pos a,Ae (hb a)]
  .rw [if_neg a,if_neg a]
 .by_cases a:t=BK
  .rw [if_pos a,if_pos (hk.2 a)]
  .rw [if_neg a,if_neg fun b=>a (hk.1 b)]
 .by_cases a:t=BK
  .rw [if_pos a,if_pos (hk.2 a),Ae (h7 (hk.2 a))]
  .rw [if_neg a,if_neg fun b=>a (hk.1 b)]
 .rcases hx with a | a
  .rw [if_pos a]
  .rw [a];split<;>rfl
theorem Wl {X:List (List (List Int))} {m:Nat} {s:ByteArray} (h:Fe X m s=true):s.size<=4000:=by
 rcases CB s with a | a | a
 .have:=(Dv.1 h).2;omega
 .exact a.1
 .exact a.1
end Go.M
namespace Go.Proofs.YtalgenmoljcnmaaGreatDoor
open Go Go.RowKit Go.Vc Go.M
set_option maxHeartbeats 4000000 in
theorem Zf {w:World} {fp:List Nat} {b:Nat} {D:Bv} {out:List ByteArray} (h:Oq w fp b D out) (hO:out.length<=900000) (hD:Fe D.X D.Y.length D.s=true) (hY:∀ y∈D.Y,y.length<=1048576) {line:ByteArray} (hl:line.size<=1048576) :
  Dq 20 [.pointer (some ⟨b,0,none⟩),.string line] w (fun v w'=>((Ez D line).2≠0/\v = .bool false/\Qq w fp b w' D out)\/((Ez D line).2=0/\v = .bool true/\Qq w fp b w' (Ez D line).1.1 (out++(Ez D line).1.2))):=by
 obtain ⟨ba,ay⟩:=Dv.1 hD;have bn:=BA ba;have a7:=bn.1;have cc:∀ j∈D.X,j.length<=1000/\∀ y∈j,y.length<=1000:=fun y cp=>⟨by have:=(bn.2.2 y cp).1;omega,fun cx bb=>by have:=(Br ((bn.2.2 y cp).2 cx bb).1).2.1;omega⟩;have dr:=Wl hD;obtain ⟨c,m,am⟩:∃ c m,Aq 32 line=c :: m:=by
  cases ag:Aq 32 line with
  | nil=>exact absurd ag (by unfold Aq;simp [Ib])
  | cons c m=>exact ⟨c,m,rfl⟩
 have co:∀ j∈c :: m,j.size<=1048576:=fun j ab=>by rw [<- am] at ab;have:=D3 ab;omega
 have dv:m.length+1<=1048577:=by have:=Gk 32 line;rw [am,List.length_cons] at this;omega
 have cb:∀ ad,Dq 18 [.string line,.int .u8 32] ad (fun v w'=>∃ aq ah,v = .slice aq (m.length+1) ah/\A4 eS 1 w' aq (m.length+1) (c :: m)/\AD ad w'):=fun ad=>(Gl hl 32 ad).mono fun _ w' ⟨aq,bt,ah,du,_,c2,au⟩=>by
  have a:=c2.arr AQ;have hl:=a.len;rw [am] at a hl;have ci:bt=m.length+1:=by rw [<- hl];rfl
  subst ci;exact ⟨aq,ah,du,a,au⟩
 have bi:=fun ad=>TC c ad;generalize az:(if (Go.M.deskWordsM.any fun j=>decide (j=c))=true then (BW c).length+1 else 0)=ct at bi;have dt:ct<=5:=by
  rw [<- az];split
  .have:=aA8 (t:=c) ‹_›;omega
  .omega
 refine oV Tryz.func20 ?_;refine (cb _).mono ?_;rintro _ fc ⟨d',es,rfl,a3,b7⟩;refine jI a3 0 rfl (x:=c) rfl ?_;intro b2 e4 dd ce;refine jO ce rfl ?_;refine (bi _).mono ?_;rintro _ fg ⟨rfl,a6⟩;have bd:=xt b7 a6;(conv=>whnf);by_cases dq:ct=m.length+1
 rotate_left
 .refine ET (by simp;omega) ?_;refine .inl ⟨?_,rfl,Wq h bd⟩;rw [Z1 hD am (by
   by_cases q:(Go.M.deskWordsM.any fun j=>decide (j=c))=true
   .rw [if_pos q] at az;exact .inr om
   .exact .inl q)]
  decide
 have q:(Go.M.deskWordsM.any fun j=>decide (j=c))=true:=Classical.byContradiction fun q=>by
  rw [if_neg q] at az;omega
 rw [if_pos q] at az;have a':m.length=(BW c).length:=om
 refine E3 (by simp;omega) ?_;refine (TD (a3.ext a6) co (t:=c) rfl q (by rw [List.length_cons,a'])).mono ?_;rintro _ fh ⟨e7,rfl,bu,bf⟩;rw [show (c :: m).drop 1=m from rfl] at bu;have ap:=xt bd bf;refine (D5 (h.ext ap) om (Bd (BW c) m).2).mono ?_;rintro _ bv (⟨ag,rfl,rfl⟩ | ⟨ag,rfl,g⟩)
 rotate_left
 ·(conv=>whnf);rw [ZQ hD am q a' ag];exact .inr ⟨rfl,rfl,CW h ap g⟩
 obtain ⟨b6,b4⟩:=ZP hD am q a' ag;obtain ⟨al,aa,ak⟩:=XU a'.symm (fun j ab=>co j (List.mem_cons_of_mem _ ab)) ag;obtain ⟨ea,ex,ee,eb,ey,ef,p,z,ao⟩:=bu ag;rw [b4,b6];generalize (Bd (BW c) m).1=a at *;have bw:=a3.ext (xt a6 bf);have bb:=XF al.x 0;have o:=h.ext ap;have br:=z.len;have eu:=ao.len;rw [List.length_append] at br;have af:∀ {w' bx cs},Qq bv fp b w' bx cs->((0:Int)≠0/\Value.bool true=Value.bool false/\Qq w fp b w' D out)\/((0:Int)=0/\Value.bool true=Value.bool true/\Qq w fp b w' bx cs):=fun g=>.inr ⟨rfl,rfl,CW h ap g⟩;generalize bp:a.texts.getD 0 ⟨#[]⟩=cx at *;clear ce dd bu b7 a6 bf bd ap h cb bi az dv b4 b6 a3 dt dq ag;refine jI bw 0 rfl (x:=c) rfl ?_;intro ed e5 eo df;refine jO df rfl ?_;rcases Ns q with rfl | rfl | rfl | rfl | rfl | rfl | rfl | bo
 .have aj:a.trays.length=1:=aa.t.trans dE;obtain ⟨e,d⟩:=AA (l:=a.trays) (k:=0) om;have r:(a.trays++a.nums)[0]? = some e:=by rw [List.getElem?_append_left om];exact d
  have ac:=ak e (List.mem_of_getElem? d);rw [X8,Ae d,bp];refine Gj [11] A8 mixed (pZ [0,5,10,15,35,40,45,21,25,31,51,58]) kR kR ?_;intro a2 i;refine dL p (k:=0) rfl ?_;refine pI z 0 rfl r ?_;intro ar a0 aw u;refine dO u rfl ?_;refine dL p (k:=2) rfl ?_;refine (Xk (o.ext i) om ba hY ac bb).mono ?_;rintro _ an g;exact af (CW o i g)
 .have aj:a.trays.length=1:=aa.t.trans dE;obtain ⟨e,d⟩:=AA (l:=a.trays) (k:=0) om;have r:(a.trays++a.nums)[0]? = some e:=by rw [List.getElem?_append_left om];exact d
  have ac:=ak e (List.mem_of_getElem? d);rw [Wj,Ae d,I7 rfl];have dj:=o.lt;have c4:=o;obtain ⟨aq,bt,c6,b2,dx,c8,c5,no,c7,fb,e',ei,ej,bc,a5,c3,c0,dk,cq⟩:=c4;subst dk;have ci:=a5.arr.len;obtain ⟨d0,d2⟩:=List.nodup_cons.1 cq;obtain ⟨e0,dz,e2⟩:=List.nodup_append.1 d2;obtain ⟨dy,ez,eh⟩:=List.nodup_append.1 dz;obtain ⟨fi,dw⟩:=AA (l:=D.X) (k:=e.toNat) om;obtain ⟨b3,eg,c9,dh,cf,d8,d9,e1,eq,er,dp⟩:=a5.hand dy dw;subst dh;have dn:Ap (D.X.set e.toNat []) D.Y.length=true:=JA ba sI sI;have cj:=BA dn;refine Av A8 mixed (pZ [0,5,10,15,20,30,35,40,26,46,50,56,62,65,73]) kR kR ?_;intro a2 i;refine dL bc.cells (k:=0) rfl ?_;refine dL p (k:=0) rfl ?_;refine pI z 0 rfl r ?_;intro ar a0 aw u;refine dO u rfl ?_;refine bS Bm (vs:=[]) ?_;intro be cu em ew b' cz;have fm:=i.size;have fl:=b'.size;have a4:AD bv cu:=xt i b';refine ⟨a4,?_⟩;refine pW (sz:=1) e.toNat om om ?_;refine dp _ _ cu ⟨some ⟨be,0,none⟩,0,0⟩ [] [be] kR (AD.mod a4) (PE cz) sI (fun bq ay=>.inr fun ae=>by
   rw [List.mem_singleton] at ay;have:=a5.lt bq ae;omega) _ ?_
  intro d5 ek b5 bz d1 d4;obtain ⟨el,b0,d3,c1⟩:=Vv bc c3 c0 cq (fun ah q=>a5.lt ah q) a4 b5 cf bz d1 (fun bq ay=>(d4 bq ay).imp id fun h=>by rw [List.mem_singleton] at h;omega);have cy:CD d5 b [.slice (some ⟨b3,0,none⟩) bt c6,.slice b2 dx c8,.string D.s,.slice c5 no c7] 49:=(bc.ext a4).mod b5.but (fun h=>d0 (by have h:b=b3:=h;rw [h];exact List.mem_append_right _ (List.mem_append_left _ cf)));refine (Iz bz.arr (cy.cells.take 3) cj.1 (fun j ab=>(cj.2.2 j ab).1)).mono ?_;rintro _ fe ⟨rfl,b9⟩;refine (FA (b0.ext b9) om _).mono ?_;rintro _ ff g;exact af (Ll d3 c1 dj (CW b0 b9 g))
 .have aj:a.trays.length=1:=aa.t.trans dE;obtain ⟨e,d⟩:=AA (l:=a.trays) (k:=0) om;have r:(a.trays++a.nums)[0]? = some e:=by rw [List.getElem?_append_left om];exact d
  have ac:=ak e (List.mem_of_getElem? d);rw [X6,Ae d];refine jL p (k:=0) rfl ?_;refine jI z 0 rfl r ?_;intro ar a0 aw u;refine jO u rfl ?_;refine (Xg o om a7 cc ac).mono ?_;rintro _ an g;exact af g
 .have aj:a.trays.length=1:=aa.t.trans dE;have cw:a.fields.length=1:=aa.f.trans dE;obtain ⟨e,d⟩:=AA (l:=a.trays) (k:=0) om;obtain ⟨bg,ae⟩:=AA (l:=a.fields) (k:=0) om;have r:(a.trays++a.nums)[0]? = some e:=by rw [List.getElem?_append_left om];exact d
  have ac:=ak e (List.mem_of_getElem? d);have bj:=al.f bg (List.mem_of_getElem? ae);rw [Vj,Ae d,Ae ae];refine Gj [13] A8 mixed (pZ [0,5,10,15,35,40,45,21,25,31,51,55,61,68]) kR kR ?_;intro a2 i;refine dL p (k:=0) rfl ?_;refine pI z 0 rfl r ?_;intro ar a0 aw u;refine dO u rfl ?_;refine dL p (k:=1) rfl ?_;refine pI ao 0 rfl ae ?_;intro b1 cr cd ax;refine dA (n:=2) ax rfl ?_;refine (Ue (o.ext i) om a7 ac bj).mono ?_;rintro _ an g;exact af (CW o i g)
 .have aj:a.trays.length=1:=aa.t.trans dE;have cw:a.fields.length=2:=aa.f.trans dE;obtain ⟨e,d⟩:=AA (l:=a.trays) (k:=0) om;obtain ⟨bg,ae⟩:=AA (l:=a.fields) (k:=0) om;obtain ⟨c',bk⟩:=AA (l:=a.fields) (k:=1) om;have r:(a.trays++a.nums)[0]? = some e:=by rw [List.getElem?_append_left om];exact d
  have ac:=ak e (List.mem_of_getElem? d);have bj:=al.f bg (List.mem_of_getElem? ae);have dl:=al.f c' (List.mem_of_getElem? bk);rw [ZH,Ae d,Ae ae,Ae bk];refine Gj [19] A8 mixed (pZ [0,5,10,15,35,40,45,65,70,75,21,25,31,51,55,61,81,85,91,98]) kR kR ?_;intro a2 i;refine dL p (k:=0) rfl ?_;refine pI z 0 rfl r ?_;intro ar a0 aw u;refine dO u rfl ?_;refine dL p (k:=1) rfl ?_;refine pI ao 0 rfl ae ?_;intro b1 cr cd ax;refine dA (n:=2) ax rfl ?_;refine dL p (k:=1) rfl ?_;refine pI ao 1 rfl bk ?_;intro ec e3 en de;refine dA (n:=2) de rfl ?_;refine (Ye (o.ext i) om a7 ac bj dl).mono ?_;rintro _ an g;exact af (CW o i g)
 .have aj:a.trays.length=1:=aa.t.trans dE;have fj:a.nums.length=1:=aa.n.trans dE;obtain ⟨e,d⟩:=AA (l:=a.trays) (k:=0) om;obtain ⟨ah,bm⟩:=AA (l:=a.nums) (k:=0) om;have r:(a.trays++a.nums)[0]? = some e:=by rw [List.getElem?_append_left om];exact d
  have dc:(a.trays++a.nums)[1]? = some ah:=by rw [List.getElem?_append_right om,aj];exact bm
  have ac:=ak e (List.mem_of_getElem? d);have dm:=al.n ah (List.mem_of_getElem? bm);rw [X7,Ae d,Ae bm,bp];refine Gj [17] A8 mixed (pZ [0,5,10,15,35,40,45,65,70,75,21,25,31,51,55,61,81,88]) kR kR ?_;intro a2 i;refine dL p (k:=0) rfl ?_;refine pI z 0 rfl r ?_;intro ar a0 aw u;refine dO u rfl ?_;refine dL p (k:=0) rfl ?_;refine pI z 1 rfl dc ?_;intro b1 cr cd ax;refine dO ax rfl ?_;refine dL p (k:=2) rfl ?_;refine (Xh (o.ext i) om a7 (fun j ab=>(cc j ab).1) om ac dm bb).mono ?_;rintro _ an g;exact af (CW o i g)
 .rw [ZI];refine (Yf o om dr ay).mono ?_;rintro _ an g;exact af g
 .obtain ⟨cv,aj,fk,cw,d7,d6,ch,ab⟩:=LM bo aa;obtain ⟨e9,cm⟩:=AA (l:=a.trays) (k:=0) om;obtain ⟨fa,cn⟩:=AA (l:=a.trays) (k:=a.trays.length - 1) om;obtain ⟨c9,cg⟩:=AA (l:=a.fields) (k:=0) om;have a8:∃ a1,DV (DZ c)=true->a.trays[1]? = some a1:=by
   by_cases h:DV (DZ c)=true
   .obtain ⟨a1,bh⟩:=AA (l:=a.trays) (k:=1) (d7 h);exact ⟨a1,fun _=>bh⟩
   .exact ⟨0,fun bl=>absurd bl h⟩
  have a9:∃ av,DZ c=7->a.fields[1]? = some av:=by
   by_cases h:DZ c=7
   .obtain ⟨av,bh⟩:=AA (l:=a.fields) (k:=1) (d6 h);exact ⟨av,fun _=>bh⟩
   .exact ⟨⟨0,0⟩,fun bl=>absurd bl h⟩
  obtain ⟨a1,a8⟩:=a8;obtain ⟨av,a9⟩:=a9;have cl:=Ze ch ab cm cn cg a8 a9;have ds:=Ry al c;rw [cv,List.append_nil] at z;rw [bp] at cl;have ca:=fun ad (au:AD bv ad)=>TB (k:=DZ c) (t1:=a1) (f1:=av) (p.ext au) (z.ext au) (ao.ext au) cm cn cg a8 a9 (by rw [cv] at br;simp at br;omega);rw [<- cl] at ca;have da:BC D c a=M4 D (BT c a):=by
   refine Wh ?_ ?_ ?_ ?_ ?_ ?_ ?_ ch<;>(rcases bo with h | h | h | h | h | h | h<;>rw [h]<;>decide)
  rw [da];generalize BT c a=e8 at *;have db:=fun ad=>TF c ad;generalize DZ c=et at *;have ai:∀ s:ByteArray,(s=CP\/s=CH\/s=Cb\/s=Cm\/s=GC\/s=Dz\/s=Ha)->¬ c=s:=fun s ck di=>by
   subst di;rcases bo with h | h | h | h | h | h | h<;>rw [h] at ck<;>revert ck<;>decide
  refine KL.no (ai _ (.inl rfl)) ?_;refine KL.no (ai _ (.inr (.inl rfl))) ?_;refine KL.no (ai _ (.inr (.inr (.inl rfl)))) ?_;refine KL.no (ai _ (.inr (.inr (.inr (.inl rfl))))) ?_;refine KL.no (ai _ (.inr (.inr (.inr (.inr (.inl rfl)))))) ?_;refine KL.no (ai _ (.inr (.inr (.inr (.inr (.inr (.inl rfl))))))) ?_;refine KL.no (ai _ (.inr (.inr (.inr (.inr (.inr (.inr rfl))))))) ?_;refine jI bw 0 rfl (x:=c) rfl ?_;intro be e6 ep dg;refine jO dg rfl ?_;refine (db _).mono ?_;rintro _ a2 ⟨rfl,i⟩;refine (ca _ i).mono ?_;rintro _ fd ⟨rfl,b8⟩;refine (Xf (o.ext (xt i b8)) om ba hY ds).mono ?_;rintro _ an g;exact af (CW o (xt i b8) g)
end Go.Proofs.YtalgenmoljcnmaaGreatDoor
namespace Go.M
open Go Go.Vc
theorem Pu (l:List ByteArray) (x:ByteArray):Bf (l++[x])=Bf l++(x.data.toList++[10]):=by
 unfold Bf;rw [List.map_append,List.flatten_append];simp
theorem Xw (l k:List ByteArray):Bf (l++k)=Bf l++Bf k:=by
 unfold Bf;rw [List.map_append,List.flatten_append]
end Go.M
namespace Go.Proofs.YtalgenmoljcnmaaGreatDoor
open Go Go.RowKit Go.Vc Go.M
variable {w:World} {s:ByteArray}
theorem UE {lo hi n c m d q:Nat} {a b2:Option Addr} {X:List (List (List Int))} {Y:List (List A9)} (h:C8 w lo hi a n b2 m X Y) (B:CD w q [.slice a n c,.slice b2 m d,.string s,.slice none 0 0] 49) (hq:q<lo\/hi<=q):∃ fp,Oq w fp q ⟨X,Y,s⟩ []/\∀ k∈fp,k=q\/(lo<=k/\k<hi):=by
 obtain ⟨o,p,f,g,i,j,e⟩:=h;refine ⟨q :: (BU none++(f++g)),⟨a,n,c,b2,m,d,none,0,0,o,p,f,g,B,i,j,Ai.nil,rfl,?_⟩,fun k b=>?_⟩
 .exact List.nodup_cons.2 ⟨fun l=>by have:=e.2 q (by simpa [BU] using l);omega,by simpa [BU] using e.1⟩
 .rcases List.mem_cons.1 b with b | b
  .exact .inl b
  .exact .inr (e.2 k (by simpa [BU] using b))
set_option maxHeartbeats 4000000 in
theorem TR (hs:s.size<=1048576):Dq 5 [.string s] w (fun v w'=>v = .string (TX s)/\AD w w'):=by
 have a1:=Qb _ s.data.toList (Nat.le_refl _);have b2:(DA 10 s.data.toList).map bs=Aq 10 s:=rfl;rw [b2] at a1;have b4:Aq 10 s≠[]:=by unfold Aq;simp [Ib]
 have cg:∀ a∈Aq 10 s,a.size<=1048576:=fun a d=>by have:=D3 d;omega
 have cf:=Gk 10 s;have bd:=fun co=>Jr hs 10 co;generalize Aq 10 s=c at *;have b3:1<=c.length:=List.length_pos_iff.2 b4;obtain ⟨a,d⟩:=AA (l:=c) (k:=c.length - 1) om;have ah:c.getLast? = some a:=by rw [List.getLast?_eq_getElem?];exact d
 refine oV Tryz.func5 ?_;refine (TE).mono ?_;rintro _ c6 ⟨ct,cw,rfl,a7,ba⟩;refine AB.build aE1 rfl ?_;refine AB.box ?_;intro a' c7 b0 c3 au a6;have c9:=ba.size;have c':=au.size;obtain ⟨ax,a9,b9⟩:=UE (s:=⟨#[]⟩) (a7.ext au) a6 (.inr b0);have b':∀ b∈ax,w.heap.size<=b:=fun b bh=>by have:=b9 b bh;omega
 have b7:=a9.lt;refine (bd _).mono ?_;rintro _ a4 ⟨q,cj,ch,rfl,bf,a8,ar,av⟩;have da:=av.size;have u:=ar.arr AQ;have a3:=u.len;have bm:=a9.ext av;have bj:AD w a4:=xt (xt ba au) av;have b5:∀ a,q=some a->a.block<a4.heap.size/\a.block∉ax:=fun a d=>⟨ar.lt a d,fun af=>by have:=a8 a d;have:=b7 _ af;omega⟩;clear ar a8 a6 a7;refine AB.sub ((c.length - 1:Nat):Int) om om om ?_;refine jI u (c.length - 1) rfl d ?_;intro cu c4 be az;refine jO az rfl ?_;(conv=>whnf);have bc:(Gy c).length<=c.length/\((Gy c).length=c.length - 1\/Gy c=c):=by
  unfold Gy;split
  .simp
  .exact ⟨Nat.le_refl _,.inr rfl⟩
 have ce:∀ a5∈Gy c,a5.size<=1048576:=fun a5 ak=>cg a5 (by
  unfold Gy at ak;split at ak
  .exact List.mem_of_mem_take (by rw [<- List.dropLast_eq_take];exact ak)
  .exact ak)
 by_cases aj:a=⟨#[]⟩
 focus
  have aa:Gy c=c.take (c.length - 1):=by
   unfold Gy;rw [if_pos (by rw [ah,aj]),List.dropLast_eq_take]
  refine ET (by simp [aj]) ?_;refine AB.sub ((c.length - 1:Nat):Int) om om om ?_;refine HP kR u (c.length - 1) om bf (.inr rfl) ?_;intro ad;rw [<- aa] at ad;clear d ah az be aa bc;generalize c.length - 1=j at *
 rotate_left
 focus
  have aa:Gy c=c:=by
   unfold Gy;rw [if_neg (by rw [ah];simpa using aj)]
  have ad:A4 eS 1 a4 q c.length (Gy c):=by rw [aa,a3];exact u
  refine E3 (by simp [aj]) ?_;rw [show cj=c.length from a3.symm];clear d ah az be aa bc;generalize c.length=j at *
 all_goals
  clear u a3 b3 cf bd bf;have cy:=ad.len;generalize Gy c=f at *;refine lR [3,4,5] (fun (b:Nat) cp w'=>∃ out ay,cp=[.pointer (some ⟨a',0,none⟩),.slice q j ch,.int .i64 b]/\b<=j/\b<=60/\Oq w' ay a' (De (f.take b)).1 out/\Bf out=(De (f.take b)).2/\out.length<=b * 4002/\(∀ e∈ay,w.heap.size<=e)/\A4 eS 1 w' q j f/\(∀ a,q=some a->a.block<w'.heap.size/\a.block∉ay)/\AD w w') (fun b=>j - b) 0 ⟨[],ax,rfl,Nat.zero_le _,Nat.zero_le _,bm,rfl,sI,b',ad,b5,bj⟩ ?_;rintro b cx _ cq ⟨out,bx,rfl,bh,c0,ae,t,c1,ab,an,r,p⟩;have ac:=Yj (f.take b);have cb:(f.take b).length=b:=by rw [List.length_take];omega
  rw [cb] at ac;have cd:=ac.s;have a0:∀ {bb:List Nat},(∀ e∈bb,e∈bx\/cq.heap.size<=e)->∀ a,q=some a->a.block∉bb:=fun af a d cc=>(af _ cc).elim (r a d).2 (by have:=(r a d).1;omega);rcases Nat.lt_or_ge b j with ca | ca
  .obtain ⟨al,a2⟩:=AA (l:=f) (k:=b) om;have ai:f.take (b+1)=f.take b++[al]:=by rw [List.take_add_one,a2];rfl
   refine iY ?_;(conv=>whnf);rcases Nat.lt_or_ge b 60 with b1 | b1
   .refine iN ?_;refine jI an b rfl a2 ?_;intro cv c5 cz b6;refine jO b6 rfl ?_;refine (Zf ae om ac.v ac.y (ce al (List.mem_of_getElem? a2))).mono ?_;rintro _ am (⟨h,rfl,z,x,m,g⟩ | ⟨h,rfl,z,x,m,g⟩)
    .have o:AD w am:=xm p g ab;have cs:=g.size;have ag:∀ e∈z,w.heap.size<=e:=fun e i=>(m e i).elim (ab e) (by have:=p.size;omega);refine (FA x om _).mono ?_;rintro _ c8 ⟨bz,bn,bi,aq⟩;have db:=aq.size;refine jP (((b+1:Nat):Int)) ?_;refine ⟨b+1,om,out++[⟨#[63]⟩],bz,rfl,om,om,?_,?_,by rw [List.length_append,List.length_singleton];omega,fun e i=>(bi e i).elim (ag e) (by have:=o.size;omega),(an.mod g (fun a d=>(r a d).2)).mod aq (fun a d=>a0 m a d),fun a d=>⟨by have:=(r a d).1;omega,a0 (fun e i=>(bi e i).elim (m e) (fun af=>.inr om)) a d⟩,xm o aq ag⟩
     .rw [ai,Hh,PN h];exact bn
     .rw [ai,Hh,PN h,Pu,t];rfl
    .have o:AD w am:=xm p g ab;have cs:=g.size;have ag:∀ e∈z,w.heap.size<=e:=fun e i=>(m e i).elim (ab e) (by have:=p.size;omega);have c2:=(Ng al ac.v).1.n;refine jP (((b+1:Nat):Int)) ?_;refine ⟨b+1,om,out++(Ez (De (f.take b)).1 al).1.2,z,rfl,om,om,?_,?_,by rw [List.length_append];omega,ag,an.mod g (fun a d=>(r a d).2),fun a d=>⟨by have:=(r a d).1;omega,a0 m a d⟩,o⟩
     .rw [ai,Hh,M3 h];exact x
     .rw [ai,Hh,M3 h,Xw,t]
   .refine iY ?_;obtain rfl:b=60:=om
    refine (D5 ae om 5).mono ?_;rintro _ am (⟨h,_,_⟩ | ⟨_,rfl,z,x,m,g⟩)
    .exact absurd h dE
    have o:AD w am:=xm p g ab;obtain ⟨bo,ck,br,bq,ci,bu,bp,no,bt,cn,cm,bv,bw,ao,bk,bl,ap,b8,cl⟩:=x;have bg:Bf (out++[E1 5])=(De (f.take 60)).2++[101,114,114,111,114,32,102,117,108,108,10]:=by
     rw [Pu,t];rfl
    refine jL ao.cells (k:=3) rfl ?_;refine (Kp (ap.own.arr AQ) (by rw [bg,List.length_append];simp only [List.length_cons,List.length_nil];omega)).mono ?_;rintro _ cr ⟨rfl,aw⟩;refine ⟨?_,xt o aw⟩;rw [bg];unfold TX;rw [a1,if_neg om]
  .obtain rfl:b=j:=om
   rw [List.take_of_length_le om] at ae t cd;obtain ⟨bo,ck,br,bq,ci,bu,bp,no,bt,cn,cm,bv,bw,ao,bk,bl,ap,b8,cl⟩:=ae;refine iN ?_;refine jL ao.cells (k:=3) rfl ?_;refine (Kp (ap.own.arr AQ) (by rw [t];omega)).mono ?_;rintro _ cr ⟨rfl,aw⟩;refine ⟨?_,xt p aw⟩;rw [t];unfold TX;rw [a1,if_pos om]
end Go.Proofs.YtalgenmoljcnmaaGreatDoor
