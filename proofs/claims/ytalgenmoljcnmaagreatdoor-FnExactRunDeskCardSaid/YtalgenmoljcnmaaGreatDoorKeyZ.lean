/- Parts of the proof; no conditions of its own. -/
import Derived.Test.YtalgenmoljcnmaaGreatDoorKeyW
import Derived.Test.YtalgenmoljcnmaaGreatDoorSortM
import Derived.Test.YtalgenmoljcnmaaGreatDoorNum
namespace Go.M
open Go Go.Vc
variable {d:List (List Int)} {f:AF} {i:Nat} {c:List Int}
theorem aA0 (xs:List (List Int)) (q:List Int->Bool):(xs.any fun c=>!q c) = !xs.all q:=by rw [List.not_all_eq_any_not]
def ZO (K:List (List Int)) (L:Nat) (i j:Int):Int:=CT (MG K L i) (MG K L j)
theorem Z0 (K:List (List Int)) (L:Nat) (i j:Int):BM (ZO K L i j):=by
 have:=Qd (MG K L i) (MG K L j);unfold ZO BM;omega
theorem W9 {L:Nat} (h:d[i]? = some c):MG (d.map (AS f)) L (i:Int)=AS f c:=by
 unfold MG;rw [List.getD_eq_getElem?_getD,List.getElem?_map,Int.toNat_natCast,h];rfl
theorem VW {z:List Int} (h:d[i]? = some c):(d.map (AS f)).getD i z=AS f c:=by
 rw [List.getD_eq_getElem?_getD,List.getElem?_map,h];rfl
end Go.M
namespace Go.Proofs.YtalgenmoljcnmaaGreatDoor
open Go Go.RowKit Go.Vc Go.M
variable {w:World} {a:Option Addr} {n c g:Nat} {xs:List (List Int)} {p:List Int->Bool} {cap:List Value} {d:Hd} {f:AF}
theorem MA (h:Ar Aa w a n xs)
  (hg:∀ d x,x∈xs->Aa w d x->∀ w',AD w w'->Ev Tryz.prog g (.agg ⟨eH d⟩ :: cap) w' (fun v w''=>v = .bool (p x)/\AD w' w'')) :
  Dq 313 [.slice a n c,.func (.func g) ⟨[]⟩ ⟨cap⟩] w (fun v w'=>∃ r:Int,v = .int .i64 r/\decide (0<=r)=xs.any p∧-1<=r/\AD w w'):=by
 have am:=h.len;have al:=h.le;obtain ⟨ae,j,aa⟩:=h;have ak:=j.len;refine oV Tryz.func313 ?_;refine lR [0,1,7,8] (fun (b:Nat) ag w'=>ag=[.slice a n c,.func (.func g) ⟨[]⟩ ⟨cap⟩,.int .i64 n,.int .i64 b]/\b<=n/\(xs.take b).any p=false/\AD w w') (fun b=>n - b) 0 ⟨rfl,om,sI,AD.refl _⟩ ?_;rintro b ai _ w' ⟨rfl,aj,m,e⟩;rcases Nat.lt_or_ge b n with ad | ad
 .obtain ⟨d,q⟩:=AA (l:=ae) (k:=b) om;obtain ⟨x,t,y⟩:=aa.get q;have f:=hg d x (List.mem_of_getElem? t) y;have u:=Gq (p:=p) t;cases s:p x
  .rw [s] at f u;rw [m,Bool.or_false] at u;exact iY<|jI (j.ext e) b rfl q fun z af ab o=>jA (n:=1) o rfl<|dM (f _ e) fun ah i=>jP (((b+1:Nat):Int)) ⟨b+1,om,rfl,om,om,(xt e i)⟩
  .rw [s] at f;have ac:xs.any p=true:=List.any_eq_true.2 ⟨x,List.mem_of_getElem? t,s⟩;rw [ac];exact iY<|jI (j.ext e) b rfl q fun z af ab o=>jA (n:=1) o rfl<|dM (f _ e) fun ah i=>⟨_,rfl,rfl,om,(xt e i)⟩
 .rw [List.take_of_length_le om] at m;rw [m];exact iN ⟨_,rfl,rfl,om,e⟩
theorem Gw (h:Ar Aa w a n xs)
  (hg:∀ d x,x∈xs->Aa w d x->∀ w',AD w w'->Ev Tryz.prog g (.agg ⟨eH d⟩ :: cap) w' (fun v w''=>v = .bool (p x)/\AD w' w'')) :
  Dq 270 [.slice a n c,.func (.func g) ⟨[]⟩ ⟨cap⟩] w (fun v w'=>v = .bool (xs.any p)/\AD w w'):=by
 refine oV Tryz.func270 ?_;refine (MA h hg).mono ?_;rintro _ j ⟨i,rfl,e,f,b⟩;exact ⟨by simp only [*],b⟩
theorem Od {b:Nat} {xs:List Int} (R:Aa w d xs) (hf:AR f xs.length=true) (hc:AK w b 0 f.enc) :
  Dq 271 [.agg ⟨eH d⟩,.pointer (some ⟨b,0,none⟩)] w (fun v w'=>v = .bool (!Dd (AZ xs f))/\AD w w'):=by
 have i:∀ a,AD w a->Dq 272 [.agg ⟨eH d⟩,.agg ⟨f.enc⟩] a (fun v w'=>v = .bool (Dd (AZ xs f))/\AD a w'):=fun a g=>RW ⟨R.1.ext g,R.2⟩ hf;refine oV Tryz.func271 ?_;refine AB.box ?_;intro j m k l c e;refine jA (n:=1) e.cells rfl<|jA (n:=2) (hc.ext c) rfl<|dM (i _ c) fun o h=>?_;exact ⟨rfl,(xt c h)⟩
theorem FI (h:Ar Aa w a n xs) (hd:Ax xs=true) (hf:AR f (AJ xs)=true) :
  Dq 210 [.slice a n c,.agg ⟨f.enc⟩] w (fun v w'=>v = .bool (xs.all fun c=>Dd (AZ c f))/\AD w w'):=by
 have r:=Ah hd;have o:=aA0 xs (fun c=>Dd (AZ c f));have m:∀ b e,AD w b->AK b e 0 f.enc->Dq 270 [.slice a n c,.func (.func 271) ⟨[]⟩ ⟨[.pointer (some ⟨e,0,none⟩)]⟩] b (fun v w'=>v = .bool (!xs.all fun c=>Dd (AZ c f))/\AD b w'):=fun b e l q=>by
  rw [<- o];exact Gw (h.ext l) (p:=fun c=>!Dd (AZ c f)) (fun x u s g w' d=>Od ⟨g.1.ext d,g.2⟩ (by rw [(r.2 u s).2];exact hf) (q.ext d))
 refine oV Tryz.func210 ?_;refine AB.box fun k t y z i j=>(m t k i j.cells).mono ?_;rintro _ aa ⟨rfl,d⟩;exact ⟨by rw [Bool.not_not],xt i d⟩
theorem K4 (h:Ar Aa w a n xs) (f:AF) :
  Dq 138 [.slice a n c,.agg ⟨f.enc⟩] w (fun v w'=>v = .int .i64 (Bn xs f).2/\AD w w'):=by
 cases k:Ax xs
 .rw [Ii k];refine oV Tryz.func138 ?_;refine AB.box fun ak ar am ao u aj=>(Du (h.ext u)).mono ?_;rintro _ y ⟨rfl,m⟩;refine iT ?_;exact ⟨rfl,(xt u m)⟩
 .cases o:AR f (AJ xs)
  .rw [Hn k o];refine oV Tryz.func138 ?_;refine AB.box ?_;intro al au an ap m aa;refine dM (Du (h.ext m)) fun av d=>?_;refine iF ?_;refine dH (pB [0,3,5,7,9,11]) fun z p=>dA (n:=2) (aa.ext d).cells rfl ?_;refine dM (DI (h.ext (xt (xt m d) p))) fun aw b=>⟨(xt p b),?_⟩;exact dM (DR _ _ _) fun aq x=>⟨(xt (xt p b) x),iT ⟨rfl,(xt (xt (xt (xt m d) p) b) x)⟩⟩
  .cases q:xs.all fun c=>Dd (AZ c f)
   .have ad:Bn xs f=([],8):=by
     unfold Bn;rw [if_neg (by simp [k]),if_neg (by simp [o]),if_pos q]
    rw [ad];have t:∀ j,AD w j->Dq 210 [.slice a n c,.agg ⟨f.enc⟩] j (fun v w'=>v = .bool false/\AD j w'):=fun j r=>by
     have:=FI (c:=c) (h.ext r) k o;rw [q] at this;exact this
    refine oV Tryz.func138 ?_;refine AB.box ?_;intro ab y ac ae d l;refine dM (Du (h.ext d)) fun z e=>?_;refine iF ?_;refine dH (pB [0,3,5,7,9,11]) fun ah b=>dA (n:=2) (l.ext e).cells rfl ?_;refine dM (DI (h.ext (xt (xt d e) b))) fun ai g=>⟨(xt b g),?_⟩;exact dM (DR _ _ _) fun af i=>⟨(xt (xt b g) i),iF<|jA (n:=2) (l.ext (xt (xt (xt e b) g) i)).cells rfl<|dM (t _ (xt (xt (xt (xt d e) b) g) i)) fun ag s=>⟨rfl,(xt (xt (xt (xt (xt d e) b) g) i) s)⟩⟩
   .rw [NQ k o q];have t:∀ j,AD w j->Dq 210 [.slice a n c,.agg ⟨f.enc⟩] j (fun v w'=>v = .bool true/\AD j w'):=fun j r=>by
     have:=FI (c:=c) (h.ext r) k o;rw [q] at this;exact this
    refine oV Tryz.func138 ?_;refine AB.box ?_;intro ab y ac ae d l;refine dM (Du (h.ext d)) fun z e=>?_;refine iF ?_;refine dH (pB [0,3,5,7,9,11]) fun ah b=>dA (n:=2) (l.ext e).cells rfl ?_;refine dM (DI (h.ext (xt (xt d e) b))) fun ai g=>⟨(xt b g),?_⟩;exact dM (DR _ _ _) fun af i=>⟨(xt (xt b g) i),iF<|jA (n:=2) (l.ext (xt (xt (xt e b) g) i)).cells rfl<|dM (t _ (xt (xt (xt (xt d e) b) g) i)) fun ag s=>⟨rfl,(xt (xt (xt (xt (xt d e) b) g) i) s)⟩⟩
theorem RR {b2 b3:Nat} (h:Ar Aa w a n xs) (hd:Ax xs=true) (hf:AR f (AJ xs)=true) (hc2:AK w b2 0 [.slice a n c]) (hc3:AK w b3 0 f.enc) {i j:Nat} (hi:i<n) (hj:j<n) :
  Dq 274 [.int .i64 i,.int .i64 j,.pointer (some ⟨b2,0,none⟩),.pointer (some ⟨b3,0,none⟩)] w (fun v w'=>v = .int .i64 (ZO (xs.map (AS f)) (CF f) i j)/\AD w w'):=by
 have ao:=h.len;have an:=h.le;obtain ⟨y,e,s⟩:=h;have am:=e.len;obtain ⟨ab,t⟩:=AA (l:=y) (k:=i) om;obtain ⟨g,z,o⟩:=s.get t;obtain ⟨ac,u⟩:=AA (l:=y) (k:=j) om;obtain ⟨m,aa,p⟩:=s.get u;have x:=Ah hd;have ad:AR f g.length=true:=by rw [(x.2 g (List.mem_of_getElem? z)).2];exact hf
 have ae:AR f m.length=true:=by rw [(x.2 m (List.mem_of_getElem? aa)).2];exact hf
 unfold ZO;rw [W9 z,W9 aa];have af:∀ d,AD w d->Dq 275 [.agg ⟨eH ab⟩,.agg ⟨eH ac⟩,.agg ⟨f.enc⟩] d (fun v w'=>v = .int .i64 (CT (AS f g) (AS f m))/\AD d w'):=fun d q=>Er ⟨o.1.ext q,o.2⟩ ⟨p.1.ext q,p.2⟩ ad ae;refine oV Tryz.func274 ?_;refine dH (pB [0,2,4,6,8,10,12,14,17,19,21]) ?_;intro au b;refine dL hc2 (k:=0) rfl ?_;refine dI e i rfl t fun ai ap ak ag=>dA (n:=1) ag rfl<|dL hc2 (k:=0) rfl<|dI e j rfl u fun aj aq al ah=>dA (n:=1) ah rfl<|jA (n:=2) (hc3.ext b) rfl ?_;exact ⟨b,dM (af _ b) fun ar r=>⟨(xt b r),⟨rfl,(xt b r)⟩⟩⟩
theorem Tv (h:Ar Aa w a n xs) (hd:Ax xs=true) (hf:AR f (AJ xs)=true) :
  Dq 211 [.slice a n c,.agg ⟨f.enc⟩] w (fun v w'=>∃ a' c',v = .slice a' n c'/\Ad w.heap.size a'/\Bw eI w' a' n 2 (Dj (xs.map (AS f)) (CF f))/\AD w w'):=by
 have au:=h.len;have bb:=h.le;have am:=Ah hd;have a9:=am.1;have aj:∀ b∈xs.map (AS f),b.length=CF f:=fun b y=>by
  obtain ⟨c,al,rfl⟩:=List.mem_map.1 y;exact Me hd hf al
 refine oV Tryz.func211 ?_;refine AB.box ?_;intro t z a7 bj m r;refine AB.box ?_;intro u o a8 bk d aa;refine bS B5 (vs:=[]) ?_;intro a4 bp ai bm x ac;have ae:=Ab (enc:=eI) AI ac ai;refine jL (r.ext (xt d x)).cells (k:=0) rfl<|lR [2,3,5,8,9,10] (fun (b:Nat) a0 w'=>∃ j l,a0=[.pointer (some ⟨t,0,none⟩),.pointer (some ⟨u,0,none⟩),.slice (some ⟨j,0,none⟩) b l,.slice a n c,.int .i64 n,.int .i64 b]/\b<=n/\Ai eI 1 o.heap.size 2 w' (some ⟨j,0,none⟩) b l (E6 b)/\AD o w') (fun b=>n - b) 0 ⟨_,_,rfl,om,ae,x⟩ ?_;rintro b a6 _ bq ⟨j,l,rfl,y,e,i⟩;have av:=HR b;have bf:=Gt b;rcases Nat.lt_or_ge b n with ar | ar
 .refine iY<|bS B5 (vs:=[Value.int IntKind.i64 ↑b]) ?_;intro a2 bn ah bl q ab;have ad:=AG (n:=1) (enc:=eI) (xs:=[↑b]) AI ab ah rfl dE;refine AM (enc:=eI) B5 AI (e.ext q) (ad.own.arr AI) (by intro bt _;simp [eI,AE]) om om (Below.size (xt i q)) fun a1 a5 bo s ay bh=>jP (((b+1:Nat):Int)) ?_;obtain ⟨a3,rfl⟩:=s.own.some om;refine ⟨b+1,om,_,_,rfl,om,?_,xm (xt i q) ay (AO e.new)⟩;rw [av];exact s
 .obtain rfl:b=n:=om
  have ba:=xt (xt m d) i;have bc:o.heap.size<=j:=e.new _ rfl;have ak:=L9 (c:=l) (g:=274) (cap:=[.pointer (some ⟨t,0,none⟩),.pointer (some ⟨u,0,none⟩)]) (Ju aj) (cmp:=ZO (xs.map (AS f)) (CF f)) (fun aw ax=>Iff.rfl) (Z0 _ _) e.own (Mz _) om (fun aw an ax ap z af=>by
   obtain ⟨bg,ao,rfl⟩:=GD.1 an;obtain ⟨bi,aq,rfl⟩:=GD.1 ap;have p:AD o z:=xm i af (AO e.new);exact RR (h.ext (xt (xt m d) p)) hd hf ((r.ext d).ext p).cells (aa.ext p).cells ao aq)
  refine iN<|ak.mono ?_;rintro _ br ⟨rfl,az,ag⟩;have bd:=m.size;have be:=d.size;refine ⟨_,_,rfl,Ad.some om,?_,xt (xt m d) (xm i az (AO e.new))⟩;unfold Dj;rw [List.length_map,au];exact ag
theorem HL {xs:List Int} (R:Aa w d xs) (hx:d.n<=1000000) :
  Dq 181 [.agg ⟨eH d⟩] w (fun v w'=>∃ a' c',v = .agg ⟨eH ⟨a',d.n,c'⟩⟩/\Ad w.heap.size a'/\Ai eI 1 w.heap.size 2 w' a' d.n c' xs/\AD w w'):=by
 obtain ⟨h,u⟩:=R;refine oV Tryz.func181 ?_;refine AB.box ?_;intro r aa t x a i;refine jN (z := .agg #[.slice none 0 0]) fun s ab p y b j=>jL (i.ext b).cells (k:=0) rfl<|(IV (h.ext (xt a b)) hx).mono ?_;rintro _ ac ⟨m,o,rfl,q,c,f⟩;refine AB.build Jm rfl<|jS (vs:=[Value.slice m d.n o]) (j.ext f) rfl rfl (by simp [AE]) fun ad e l=>AP (jR (n:=1) rfl l.cells) ⟨_,_,rfl,?_,?_,?_⟩
 .exact (c.new.mono (Below.size (xt a b)))
 .exact (c.base (Below.size (xt a b))).kept (fun g hx=>e.but.block _ (by have:=c.new g hx;omega) (c.lt g hx))
 .exact (xb (xt (xt a b) f) e.but (nB a p))
end Go.Proofs.YtalgenmoljcnmaaGreatDoor
namespace Go.M
open Go Go.Vc
variable {d S:List (List Int)} {f:AF} {k:Nat} {c:List Int}
theorem W3 {i:Nat} (hi:(Dj (d.map (AS f)) (CF f))[k]? = some (i:Int)) (hc:d[i]? = some c):(KR d f).take (k+1)=(KR d f).take k++[c]:=by
 have:(KR d f)[k]? = some c:=by
  unfold KR;rw [List.getElem?_map,hi,Option.map_some,Int.toNat_natCast,List.getD_eq_getElem?_getD,hc];rfl
 rw [List.take_add_one,this];rfl
theorem NB {z:Int} (hi:(Dj (d.map (AS f)) (CF f))[k]? = some z):∃ i:Nat,z=i/\i<d.length:=by
 have:=WO (List.mem_of_getElem? hi);rw [List.length_map] at this;exact ⟨z.toNat,om,this.2⟩
def CA (S:List (List Int)) (k:Nat):List Int:=(DY S k).map fun (s:Nat)=>(s:Int)
theorem PR (h:Fl S k=false):CA S (k+1)=CA S k:=by simp [CA,Lr,h]
theorem H9 (h:Fl S k=true):CA S (k+1)=CA S k++[(k:Int)]:=by simp [CA,Lr,h]
theorem Ua (S:List (List Int)):Fl S 0=true:=by simp [Fl]
theorem Xe {c':List Int} (h:d[k]? = some c) (h':d[k+1]? = some c'):Fl (d.map (AS f)) (k+1) = !decide (CT (AS f c) (AS f c')=0):=by
 unfold Fl;rw [VW h',Nat.add_sub_cancel,VW h];simp
theorem Gu (S:List (List Int)) (k:Nat):(CA S k).length<=k:=by
 unfold CA DY;rw [List.length_map];have:=List.length_filter_le (Fl S) (List.range k);rw [List.length_range] at this;exact this
end Go.M
namespace Go.Proofs.YtalgenmoljcnmaaGreatDoor
open Go Go.RowKit Go.Vc Go.M
variable {w:World} {a:Option Addr} {n c:Nat} {xs:List (List Int)} {f:AF}
theorem IT (h:Ar Aa w a n xs) (hd:Ax xs=true) (hf:AR f (AJ xs)=true) :
  Dq 140 [.slice a n c,.agg ⟨f.enc⟩] w (fun v w'=>∃ a' c',v = .slice a' n c'/\n<=c'/\D2 A0 w' w.heap.size w'.heap.size a' n 144 (KR xs f)/\AD w w'):=by
 have b5:=h.len;have b4:=h.le;have ar:=Ah hd;have bz:=ar.1;have be:∀ e,AD w e->Dq 211 [.slice a n c,.agg ⟨f.enc⟩] e (fun v w'=>∃ a' c',v = .slice a' n c'/\Ad e.heap.size a'/\Bw eI w' a' n 2 (Dj (xs.map (AS f)) (CF f))/\AD e w'):=fun e z=>Tv (h.ext z) hd hf;have bi:=LR (xs.map (AS f)) (CF f);rw [List.length_map] at bi;have b6:=TU xs f;have bb:=h;obtain ⟨bj,ao,bc⟩:=bb;have b3:=ao.len;refine oV Tryz.func140 ?_;refine AB.box ?_;intro bq t bw b9 aa a0;refine bS Bm (vs:=[]) ?_;intro ai bo al ca ab a2;have a6:BZ A0 t.heap.size 144 bo (some ⟨ai,0,none⟩) 0 0 []:=EL a2 al;refine jA (n:=2) (a0.ext ab).cells rfl<|(be _ (xt aa ab)).mono ?_;rintro _ cd ⟨q,ba,rfl,a7,ag,ak⟩;have a4:=a6.ext ak;refine lR [0,5,11,12,13] (fun (b:Nat) bm w'=>∃ m y,bm=[.slice a n c,.slice m b y,.slice q n ba,.int .i64 n,.int .i64 b]/\b<=n/\BZ A0 t.heap.size 144 w' m b y ((KR xs f).take b)/\A4 eI 1 w' q n (Dj (xs.map (AS f)) (CF f))/\KP m q/\Ad t.heap.size m/\AD t w'/\(∀ d,q=some d->d.block<w'.heap.size)) (fun b=>n - b) 0 ⟨_,_,rfl,om,a4,ag.arr AI,?_,Ad.some al,xt ab ak,?_⟩ ?_
 .intro p s av;obtain ⟨d,g,au⟩:=av;cases g
  have:=a7 p s;have au:p.block=ai:=au;omega
 .exact fun d g=>Nat.lt_of_lt_of_le (ag.lt d g) (Nat.le_refl _)
 rintro b bv _ ce ⟨m,y,rfl,av,r,am,ap,ax,ac,an⟩;have ad:=xt aa ac;rcases Nat.lt_or_ge b n with bh | bh
 .obtain ⟨ch,ae⟩:=AA (l:=Dj (xs.map (AS f)) (CF f)) (k:=b) om;obtain ⟨ay,rfl,b2⟩:=NB ae;obtain ⟨o,aq⟩:=AA (l:=bj) (k:=ay) om;obtain ⟨p,s,x⟩:=bc.get aq;have bl:=W3 ae s;have b7:=Br (ar.2 p (List.mem_of_getElem? s)).1;have b8:=x.1.len;have bd:∀ e,AD w e->Dq 181 [.agg ⟨eH o⟩] e (fun v w'=>∃ a' c',v = .agg ⟨eH ⟨a',o.n,c'⟩⟩/\Ad e.heap.size a'/\Ai eI 1 e.heap.size 2 w' a' o.n c' p/\AD e w'):=fun e z=>HL ⟨x.1.ext z,x.2⟩ om;refine iY<|jI am b rfl ae fun br cb b0 bf=>jO bf rfl<|jI (ao.ext ad) ay rfl aq fun bt cc b1 bg=>jA (n:=1) bg rfl<|(bd _ ad).mono ?_;rintro _ cf ⟨ah,aj,rfl,a8,u,j⟩;refine AB.buildSlice Bm (vs:=[Value.agg ⟨eH ⟨ah,o.n,aj⟩⟩]) (by rfl) (by rfl) (by simp [Value.cells,eH]) dE ?_;intro a9 bn bx b' i a1;have a3:AK bn a9 0 (eH ⟨ah,o.n,aj⟩):=a1.cells;have bk:=ac.size;refine CX Bm rfl r bk (xt j i) (Fg ((u.ext i).own) u.le.1) (Dr a8 (fun d g=>Nat.lt_of_lt_of_le (u.lt d g) i.size)) a3 om om fun bp bu cg a5 af az=>jP (((b+1:Nat):Int)) ⟨b+1,om,_,_,rfl,om,by rw [bl];exact a5,(am.ext (xt j i)).mod af ap,?_,?_,xm (xt (xt ac j) i) af (AO ax),fun d g=>by have:=an d g;have:=j.size;have:=i.size;have:=af.size;omega⟩
  .exact KP.app ap az (fun d g=>by
    have:=an d g;have:=j.size;have:=i.size;omega)
  .intro d g;rcases az d.block ⟨d,g,rfl⟩ with aw | aw
   .exact AO ax _ aw
   .have:=j.size;have:=i.size;omega
 .obtain rfl:b=n:=om
  rw [List.take_of_length_le om] at r;refine iN ⟨_,_,rfl,?_,?_,ad⟩
  .exact r.le.1
  .exact r.ownN.wide (Below.size aa) (Nat.le_refl _)
theorem K8 (h:Ar Aa w a n xs) (hf:∀ x∈xs,AR f x.length=true) (hn2:n<=40) :
  Dq 224 [.slice a n c,.agg ⟨f.enc⟩] w (fun v w'=>∃ a' m c',v = .slice a' m c'/\Ad w.heap.size a'/\Bw eI w' a' m 2 (CA (xs.map (AS f)) n)/\AD w w'):=by
 have cc:=h.len;have cb:=h.le;obtain ⟨az,s,ax⟩:=h;have ca:=s.len;refine oV Tryz.func224 ?_;refine AB.box ?_;intro bh a5 b8 cg aw ao;refine bS B5 (vs:=[]) ?_;intro b4 cq bp cj bk bb;have bg:=Ab (enc:=eI) AI bb bp;refine lR [0,3,5,9,10,11] (fun (b:Nat) bx w'=>∃ ae am af,bx=[.slice a n c,.pointer (some ⟨bh,0,none⟩),.slice ae am af,.slice a n c,.int .i64 n,.int .i64 b]/\b<=n/\Ai eI 1 a5.heap.size 2 w' ae am af (CA (xs.map (AS f)) b)/\AD a5 w') (fun b=>n - b) 0 ⟨_,_,_,rfl,om,bg,bk⟩ ?_;rintro b b7 _ cl ⟨ae,am,af,rfl,b9,r,j⟩;have o:=xt aw j;have ck:=r.len;have cd:=Gu (xs.map (AS f)) b;rcases Nat.lt_or_ge b n with br | br
 .obtain ⟨p,ac⟩:=AA (l:=az) (k:=b) om;obtain ⟨aa,a0,ap⟩:=ax.get ac;have bl:=hf aa (List.mem_of_getElem? a0);rcases Nat.eq_zero_or_pos b with rfl | b'
  .have y:=H9 (Ua (xs.map (AS f)));refine iY<|jI (s.ext o) 0 rfl ac fun ar a4 ay u=>jA (n:=1) u rfl<|jN (z := .agg #[.slice none 0 0]) fun au a6 i a3 g t=>jS (vs:=[Value.slice p.a p.n p.c]) t rfl rfl (by simp [AE]) fun a7 e ab=>dH (pB [1,3,5,6,8,10,12,14,16,19,21,23,25]) fun a8 d=>bS B5 (vs:=[Value.int IntKind.i64 ↑0]) ?_;intro b2 cm bn ch ag a9;have bc:=AG (n:=1) (enc:=eI) (xs:=[↑0]) AI a9 bn rfl dE;refine AM (enc:=eI) B5 AI (r.ext (xt (xt (xb g e.but i) d) ag)) (bc.own.arr AI) (by intro aa _;simp [eI,AE]) om om (Below.size (xt (xt (xb (xt j g) e.but (nB j i)) d) ag)) fun b0 b5 cn bd bu ce=>jP (((0+1:Nat):Int)) ⟨0+1,om,_,_,_,rfl,om,by rw [y];exact bd,xm (xt (xt (xb (xt j g) e.but (nB j i)) d) ag) bu (AO r.new)⟩
  .obtain ⟨b,rfl⟩:∃ bt,b=bt+1:=⟨b - 1,om⟩;obtain ⟨bj,ak⟩:=AA (l:=az) (k:=b) om;obtain ⟨an,a1,aq⟩:=ax.get ak;have bm:=hf an (List.mem_of_getElem? a1);have al:=Xe (f:=f) a1 a0;have ai:∀ ad,AD w ad->Dq 275 [.agg ⟨eH bj⟩,.agg ⟨eH p⟩,.agg ⟨f.enc⟩] ad (fun v w'=>v = .int .i64 (CT (AS f an) (AS f aa))/\AD ad w'):=fun ad av=>Er ⟨aq.1.ext av,aq.2⟩ ⟨ap.1.ext av,ap.2⟩ bm bl;by_cases a2:CT (AS f an) (AS f aa)=0
   .rw [a2] at ai al;have y:=PR (S:=xs.map (AS f)) (k:=b+1) (by rw [al];rfl);refine iY<|jI (s.ext o) (b+1) rfl ac fun ar a4 ay u=>jA (n:=1) u rfl<|jN (z := .agg #[.slice none 0 0]) fun au a6 i a3 g t=>jS (vs:=[Value.slice p.a p.n p.c]) t rfl rfl (by simp [AE]) fun a7 e ab=>dH (pB [1,3,5,6,8,10,12,14,16,19,21,23,25]) fun a8 d=>BN.sub (((b:Nat):Int)) om om om<|dI (s.ext (xb (xt o g) e.but (nB o i))) b rfl ak fun bi bw bq aj=>dA (n:=1) aj rfl<|dA (n:=1) ab.cells rfl<|jA (n:=2) (ao.ext (xt (xb (xt j g) e.but (nB j i)) d)).cells rfl ⟨d,dM (ai _ (xt (xb (xt o g) e.but (nB o i)) d)) fun bz q=>⟨(xt d q),jP (((b+1+1:Nat):Int)) ⟨b+1+1,om,_,_,_,rfl,om,by rw [y];exact r.ext (xt (xt (xb g e.but i) d) q),xt (xt (xb (xt j g) e.but (nB j i)) d) q⟩⟩⟩
   .have y:=H9 (S:=xs.map (AS f)) (k:=b+1) (by rw [al];simp [a2]);refine iY<|jI (s.ext o) (b+1) rfl ac fun ar a4 ay u=>jA (n:=1) u rfl<|jN (z := .agg #[.slice none 0 0]) fun au a6 i a3 g t=>jS (vs:=[Value.slice p.a p.n p.c]) t rfl rfl (by simp [AE]) fun a7 e ab=>dH (pB [1,3,5,6,8,10,12,14,16,19,21,23,25]) fun a8 d=>BN.sub (((b:Nat):Int)) om om om<|dI (s.ext (xb (xt o g) e.but (nB o i))) b rfl ak fun bi bw bq aj=>dA (n:=1) aj rfl<|dA (n:=1) ab.cells rfl<|jA (n:=2) (ao.ext (xt (xb (xt j g) e.but (nB j i)) d)).cells rfl ⟨d,dM (ai _ (xt (xb (xt o g) e.but (nB o i)) d)) fun bz q=>⟨(xt d q),iT<|bS B5 (vs:=[Value.int IntKind.i64 ↑(b+1)]) ?_⟩⟩;intro b3 co bo ci ah ba;have be:=AG (n:=1) (enc:=eI) (xs:=[↑(b+1)]) AI ba bo rfl dE;refine AM (enc:=eI) B5 AI (r.ext (xt (xt (xt (xb g e.but i) d) q) ah)) (be.own.arr AI) (by intro aa _;simp [eI,AE]) om om (Below.size (xt (xt (xt (xb (xt j g) e.but (nB j i)) d) q) ah)) fun b1 b6 cp bf bv cf=>jP (((b+1+1:Nat):Int)) ⟨b+1+1,om,_,_,_,rfl,om,by rw [y];exact bf,xm (xt (xt (xt (xb (xt j g) e.but (nB j i)) d) q) ah) bv (AO r.new)⟩
 .obtain rfl:b=n:=om
  exact iN ⟨_,_,_,rfl,(r.new.mono (Below.size aw)),r.own,o⟩
end Go.Proofs.YtalgenmoljcnmaaGreatDoor
namespace Go.Vc
open Go Go.RowKit
variable {P:Program}
theorem OV {α:Type} {enc:α->List Value} {t sz:Nat} (ht:CL P t=some sz) {w:World} {a:Option Addr} {n c:Nat} (l h:Nat) (hl:l<=h) (hh:h<=n) (hn:n<=c) {lo hi:Option Value} {k k':IntKind} (hlo:(lo=none/\l=0)\/lo=some (.int k l)) (hhi:(hi=none/\h=n)\/hi=some (.int k' h))
  {K:Value->World->Prop} (hK:∀ a',(∀ u (ys:List α),A4 enc sz u a n ys->A4 enc sz u a' (h - l) ((ys.drop l).take (h - l)))->K (.slice a' (h - l) (c - l)) w):AB P (Instr.sliceAt t (.slice a n c) lo hi none) w K :=
 A1 (EF ht hl hh hn hlo hhi w) (hK _ (fun _ _ b=>b.sub hl hh hn))
theorem UM.part {α:Type} {R:Rd α} {w:World} {hs:List Hd} {xs:List α} (h:UM R w hs xs) (l m:Nat):UM R w ((hs.drop l).take m) ((xs.drop l).take m):=by
 refine ⟨by simp [h.1],fun f c e a b=>?_⟩;rw [List.getElem?_take] at a b;split at a
 .rename_i d;rw [if_pos d] at b;rw [List.getElem?_drop] at a b;exact h.2 _ c e a b
 .cases a
end Go.Vc
namespace Go.M
open Go Go.Vc
theorem Nv {S:List (List Int)} {n k s:Nat} (h:(DY S n)[k]? = some s):(CA S n)[k]? = some (s:Int):=by simp [CA,h]
theorem PS (S:List (List Int)) (n:Nat):(CA S n).length=(DY S n).length:=by simp [CA]
theorem JI (d:List (List Int)) (f:AF):(Be d f).length=(Aw (d.map (AS f))).length:=by simp [Be]
theorem SO {d:List (List Int)} {f:AF} {k s:Nat} (h:(Aw (d.map (AS f)))[k]? = some s):(Be d f)[k]? = some ((d.drop s).take (DS (Aw (d.map (AS f))) d.length k - s)):=by
 have a:=(List.getElem?_eq_some_iff.1 h).1;unfold Be;rw [List.getElem?_map,List.getElem?_range a,Option.map_some,Ae h]
theorem Wd {d:List (List Int)} {s m:Nat} {y:List Int} (h:d[s]? = some y) (hm:0<m):((d.drop s).take m)[0]? = some y:=by
 rw [List.getElem?_take,if_pos hm,List.getElem?_drop,Nat.add_zero];exact h
section
variable {d:List (List Int)} {f:AF} (hd:Ax d=true) (hf:AR f (AJ d)=true)
end
end Go.M
namespace Go.Proofs.YtalgenmoljcnmaaGreatDoor
open Go Go.RowKit Go.Vc Go.M
theorem K5 (a:Option Addr) (n c:Nat) (w:World):Dq 133 [.slice a n c] w (fun v w'=>v = .int .i64 n/\w=w'):=by
 refine oV Tryz.func133 ?_;exact ⟨rfl,rfl⟩
theorem OD {w:World} {a:Option Addr} {n c:Nat} {xs:List (List Int)} (h:Ar Aa w a n xs) {f:AF} (hf:∀ x∈xs,AR f x.length=true) (hn2:n<=40) (hnc:n<=c) :
  Dq 148 [.slice a n c,.agg ⟨f.enc⟩] w (fun v w'=>∃ a' m c',v = .slice a' m c'/\(∀ u,BY (fun j=>¬ Iv w.heap.size w'.heap.size j) w' u->Ar Aa u a n xs->Ar DM u a' m (Be xs f))/\AD w w'):=by
 have a8:=h.len;have cy:=h.le;have b2:∀ u,AD w u->Dq 224 [.slice a n c,.agg ⟨f.enc⟩] u (fun v w'=>∃ a' m c',v = .slice a' m c'/\Ad u.heap.size a'/\Bw eI w' a' m 2 (CA (xs.map (AS f)) n)/\AD u w'):=fun u bz=>K8 (h.ext bz) hf hn2;obtain ⟨c0,b4,cs⟩:=h;have cx:=b4.len;have a3:(xs.map (AS f)).length=n:=by rw [List.length_map];exact a8
 have an:Aw (xs.map (AS f))=DY (xs.map (AS f)) n:=by unfold Aw;rw [a3]
 have b':=JI xs f;rw [an] at b';have cv:=PS (xs.map (AS f)) n;refine oV Tryz.func148 ?_;refine AB.box ?_;intro cn ay cp c1 au bj;refine bS Dm (vs:=[]) ?_;intro bw c8 a2 c4 av bm;have bp:=Ab (enc:=eH) Es bm a2;refine jA (n:=2) (bj.ext av).cells rfl ?_;refine (b2 _ (xt au av)).mono ?_;rintro _ c6 ⟨aa,m,a0,rfl,br,ap,a1⟩;have cz:=ap.1;have cw:=Gu (xs.map (AS f)) n;refine lR [0,5,6,14,15,16] (fun (b:Nat) cj w'=>∃ ab ar z,cj=[.slice a n c,.slice ab b ar,.slice aa m a0,.slice aa m a0,.int .i64 m,.int .i64 b]/\b<=m/\Ai eH 1 ay.heap.size 78 w' ab b ar z/\(∀ (g:Nat) (o:Hd),z[g]? = some o->∃ y,(Be xs f)[g]? = some y/\∀ u,Ar Aa u a n xs->DM u o y)/\A4 eI 1 w' aa m (CA (xs.map (AS f)) n)/\KP ab aa/\Ad ay.heap.size ab/\AD ay w'/\(∀ x,aa=some x->x.block<w'.heap.size)) (fun b=>m - b) 0 ⟨_,_,[],rfl,om,bp.ext a1,?_,ap.arr AI,?_,Ad.some a2,xt av a1,fun x e=>ap.lt x e⟩ ?_
 .intro g o p;simp at p
 .intro be ch al;obtain ⟨x,e,a5⟩:=al;cases e
  have:=br be ch;have a5:be.block=bw:=a5;omega
 rintro b co _ c7 ⟨ab,ar,z,rfl,al,ad,a4,ac,ak,af,s,aj⟩;have b6:=xt au s;have cu:=ad.len;rcases Nat.lt_or_ge b m with cd | cd
 .obtain ⟨d,bb⟩:=AA (l:=DY (xs.map (AS f)) n) (k:=b) om;have bd:=Nv bb;have bc:(Aw (xs.map (AS f)))[b]? = some d:=by rw [an];exact bb
  have a6:=T5 bc;rw [a3] at a6;have a7:=SO bc;rw [a8] at a7;have a9:∀ (aq:Option Addr) (i:Nat),i=DS (Aw (xs.map (AS f))) n b->(∀ u (bf:List Hd),A4 eH 1 u a n bf->A4 eH 1 u aq (i - d) ((bf.drop d).take (i - d)))->∀ (g:Nat) (o:Hd),(z++[⟨aq,i - d,c - d⟩])[g]? = some o->∃ y,(Be xs f)[g]? = some y/\∀ u,Ar Aa u a n xs->DM u o y:=fun aq i ce bi g o p=>by
   rcases Nat.lt_or_ge g b with ca | ca
   .rw [List.getElem?_append_left om] at p;exact a4 g o p
   .have cb:g=b:=by
     have:=(List.getElem?_eq_some_iff.1 p).1;rw [List.length_append] at this;simp at this;omega
    subst cb;rw [List.getElem?_append_right om,show g - z.length=0 by omega] at p;simp at p;subst p;subst ce;exact ⟨_,a7,fun u ax=>by
     obtain ⟨cg,b5,b0⟩:=ax;exact ⟨⟨_,bi u cg b5,b0.part _ _⟩,by show _ - d<=c - d;omega⟩⟩
  rcases Nat.lt_or_ge (b+1) m with cc | cc
  .obtain ⟨i,ba⟩:=AA (l:=DY (xs.map (AS f)) n) (k:=b+1) om;have cf:=Nv ba;have am:i=DS (Aw (xs.map (AS f))) n b:=by
    unfold DS;rw [an,Ae ba]
   rw [<- am] at a6;refine iY ?_;refine jI ac b rfl bd ?_;intro bu ci b7 aw;refine jO aw rfl ?_;refine (K5 _ _ _ _).mono ?_;rintro _ _ ⟨rfl,rfl⟩;refine jP (((b+1:Nat):Int)) ?_;refine iY ?_;refine jP (((b+1:Nat):Int)) ?_;refine jI ac (b+1) rfl cf ?_;intro az c5 ct b8;refine jO b8 rfl ?_;refine OV (enc:=eH) (sz:=1) kR d i om om om (.inr (by rfl)) (.inr (by rfl)) ?_;intro ai bh;refine bS Dm (vs:=[Value.slice ai (i - d) (c - d)]) ?_;intro bv cl cr c3 r bl;have bo:AK cl bv 0 (BD eH [⟨ai,i - d,c - d⟩]):=bl.cells;refine BR Dm Es (ad.ext r) (ys:=[⟨ai,i - d,c - d⟩]) (m:=1) bo rfl (by simp [BD,eH,AE]) om om (Below.size (xt s r)) ?_;intro bt bx cm ao t ag;refine jP (((b+1:Nat):Int)) ?_;refine ⟨b+1,om,_,_,_,rfl,om,ao,a9 ai i am bh,(ac.ext r).mod t ak,KP.app ak ag (fun x e=>by have:=aj x e;have:=r.size;omega),fun x e=>?_,xm (xt s r) t (AO af),fun x e=>by have:=aj x e;have:=r.size;have:=t.size;omega⟩;rcases ag x.block ⟨x,e,rfl⟩ with ae | ae
   .exact AO af _ ae
   .have:=s.size;have:=r.size;omega
  .have am:n=DS (Aw (xs.map (AS f))) n b:=by
    unfold DS;rw [List.getD_eq_getElem?_getD,an,List.getElem?_eq_none om];rfl
   refine iY ?_;refine jI ac b rfl bd ?_;intro bu ci b7 aw;refine jO aw rfl ?_;refine (K5 _ _ _ _).mono ?_;rintro _ _ ⟨rfl,rfl⟩;refine jP (((b+1:Nat):Int)) ?_;refine iN ?_;refine OV (enc:=eH) (sz:=1) kR d n om om om (.inr (by rfl)) (.inr (by rfl)) ?_;intro ah bg;refine bS Dm (vs:=[Value.slice ah (n - d) (c - d)]) ?_;intro az ck cq c2 q bk;have bn:AK ck az 0 (BD eH [⟨ah,n - d,c - d⟩]):=bk.cells;refine BR Dm Es (ad.ext q) (ys:=[⟨ah,n - d,c - d⟩]) (m:=1) bn rfl (by simp [BD,eH,AE]) om om (Below.size (xt s q)) ?_;intro bt bx cm ao t ag;refine jP (((b+1:Nat):Int)) ?_;refine ⟨b+1,om,_,_,_,rfl,om,ao,a9 ah n am bg,(ac.ext q).mod t ak,KP.app ak ag (fun x e=>by have:=aj x e;have:=q.size;omega),fun x e=>?_,xm (xt s q) t (AO af),fun x e=>by have:=aj x e;have:=q.size;have:=t.size;omega⟩;rcases ag x.block ⟨x,e,rfl⟩ with ae | ae
   .exact AO af _ ae
   .have:=s.size;have:=q.size;omega
 .obtain rfl:b=m:=om
  refine iN ?_;refine ⟨_,_,_,rfl,fun u bq ax=>⟨z,(ad.own.arr Es).mod bq (fun x e al=>al ⟨Nat.le_trans (Below.size au) (af x e),ad.lt x e⟩),om,fun g o x b9 e=>?_⟩,b6⟩;obtain ⟨y,b1,b3⟩:=a4 g o b9;rw [b1] at e;cases e
  exact b3 _ ax
end Go.Proofs.YtalgenmoljcnmaaGreatDoor
