/- Parts of the proof; no conditions of its own. -/
import Derived.Test.YtalgenmoljcnmaaGreatDoorColl
import Derived.Test.YtalgenmoljcnmaaGreatDoorCardsM
import Derived.Test.YtalgenmoljcnmaaGreatDoorNum
import Derived.Test.YtalgenmoljcnmaaGreatDoorVcApp
namespace Go.M
open Go Go.Vc
variable {α:Type} {xs ys d:List (List Int)} {f:AF} {lo n c b:Nat} {w:World} {a:Option Addr} {t:ByteArray}
theorem aC3 (a e:Bool):(!(a != e))=decide (a=e):=by cases a<;>cases e<;>rfl
theorem Pp (d o:List (List Int)) (f:AF) (e:Bool):(d.filter fun x=>!(KB o x f != e))=Ca d o f e:=by
 unfold Ca;congr 1;funext x;exact aC3 _ _
theorem WV (h1:Ax xs=true) (h2:Ax ys=true) (f1:AR f (AJ xs)=true) (f2:AR f (AJ ys)=true) (hq:¬ (xs≠[]/\ys≠[]/\AJ xs≠AJ ys)) (h40:xs.length+ys.length<=40) :
  Ax (xs++ys)=true/\AR f (AJ (xs++ys))=true:=by
 cases xs with
 | nil=>exact ⟨h2,f2⟩
 | cons c xs =>
  cases ys with
  | nil=>rw [List.append_nil];exact ⟨h1,f1⟩
  | cons g ys =>
   have e:AJ (c :: xs)=AJ (g :: ys):=Decidable.byContradiction fun d=>hq ⟨sI,sI,d⟩;refine ⟨Ip (W:=AJ (c :: xs)) (by rw [List.length_append];omega) fun b a=>?_,f1⟩;rcases List.mem_append.1 a with a | a
   .exact (Ah h1).2 b a
   .rw [e];exact (Ah h2).2 b a
theorem OK {d:List (List Int)} {f:AF} {k i:Nat} {c:List Int} {ss:List Nat} (hi:(ss.map fun (s:Nat)=>(s:Int))[k]? = some (i:Int)) (hc:d[i]? = some c):((ss.map fun i=>d.getD i [])).take (k+1)=((ss.map fun i=>d.getD i [])).take k++[c]:=by
 have:(ss.map fun i=>d.getD i [])[k]? = some c:=by
  rw [List.getElem?_map] at hi ⊢;cases a:ss[k]? with
  | none=>rw [a] at hi;cases hi
  | some s =>
   rw [a] at hi;simp only [Option.map_some,Option.some.injEq] at hi;have:s=i:=om
   subst this;simp [List.getD_eq_getElem?_getD,hc]
 rw [List.take_add_one,this];rfl
theorem BZ.new {E:Ow α} {t:Nat} {xs:List α} (h:BZ E lo t w a n c xs):Ad lo a:=by
 obtain ⟨e,d,b,_,_⟩:=h;exact b.new
theorem Yb {hi:Nat} {p q:List Nat} (h:Kj lo hi p) (s:q.Sublist p):Kj lo hi q:=⟨h.1.sublist s,fun b a=>h.2 b (s.subset a)⟩
theorem Q6 (t:ByteArray):(CR t).length=t.size:=by simp [CR]
theorem UW:(d.filter fun x=>!(decide (Cy f x t<0) || decide (0<Cy f x t)))=d.filter fun c=>decide (Cy f c t=0):=by
 congr 1;funext x;generalize Cy f x t=e;by_cases a:e<0
 .simp [a];omega
 .by_cases b:0<e
  .simp [a,b];omega
  .simp [a,b];omega
theorem NH {l:List α} {p:α->Bool} (h:¬ (l.any fun x=>!p x)=true):∀ x∈l,p x=true:=by
 intro x b;cases a:p x
 .exact absurd (List.any_eq_true.2 ⟨x,b,by simp [a]⟩) h
 .rfl
theorem Hw {ds:List (List (List Int))} {ts:List ByteArray} (h:BO ds ts f=0):(∀ d∈ds,Ax d=true)/\(∀ d∈ds,AR f (AJ d)=true)/\(∀ t∈ts,(t.size:Int)=f.to_ - f.from_)/\(∀ t∈ts,CM t=true)/\(∀ d∈ds,Da d f=true):=by
 unfold BO at h;split at h
 .cases h
 rename_i a;split at h
 .cases h
 rename_i b;split at h
 .cases h
 rename_i c;split at h
 .cases h
 rename_i e;split at h
 .cases h
 rename_i g;exact ⟨NH a,NH b,fun t i=>of_decide_eq_true (NH c t i),NH e,NH g⟩
theorem Vt (h:Ar Aa w a n xs) (hnc:n<=c) (C:AK w b 0 [.slice a n c]):Ar DM w (some ⟨b,0,none⟩) 1 [xs]:=by
 refine ⟨[⟨a,n,c⟩],⟨rfl,by unfold maxLen;omega,fun d i f=>?_⟩,rfl,fun d j i e g=>?_⟩
 .cases d with
  | zero=>simp at f;subst f;exact ⟨b,0,rfl,by simpa [eH] using C⟩
  | succ d=>simp at f
 .cases d with
  | zero=>simp at e g;subst e;subst g;exact ⟨h,hnc⟩
  | succ d=>simp at e
theorem Vs {a2:Option Addr} {n2 c2:Nat} (h:Ar Aa w a n xs) (hnc:n<=c) (h2:Ar Aa w a2 n2 ys) (hnc2:n2<=c2) (C:AK w b 0 [.slice a n c,.slice a2 n2 c2]):Ar DM w (some ⟨b,0,none⟩) 2 [xs,ys]:=by
 refine ⟨[⟨a,n,c⟩,⟨a2,n2,c2⟩],⟨rfl,by unfold maxLen;omega,fun d i f=>?_⟩,rfl,fun d j i e g=>?_⟩
 .cases d with
  | zero=>simp at f;subst f;exact ⟨b,0,rfl,by simpa [eH] using AK.take C 1⟩
  | succ d=>cases d with
   | zero=>simp at f;subst f;exact ⟨b,0,rfl,by simpa [eH] using AK.drop C 1⟩
   | succ d=>simp at f
 .cases d with
  | zero=>simp at e g;subst e;subst g;exact ⟨h,hnc⟩
  | succ d=>cases d with
   | zero=>simp at e g;subst e;subst g;exact ⟨h2,hnc2⟩
   | succ d=>simp at e
theorem Z6 {s:ByteArray} (C:AK w b 0 [.string s,.string t]):A4 eS 1 w (some ⟨b,0,none⟩) 2 [s,t]:=by
 refine ⟨rfl,by unfold maxLen;omega,fun c d a=>?_⟩;cases c with
 | zero=>simp at a;subst a;exact ⟨b,0,rfl,by simpa [eS] using AK.take C 1⟩
 | succ c=>cases c with
  | zero=>simp at a;subst a;exact ⟨b,0,rfl,by simpa [eS] using AK.drop C 1⟩
  | succ c=>simp at a
end Go.M
namespace Go.Proofs.YtalgenmoljcnmaaGreatDoor
open Go Go.RowKit Go.Vc Go.M
variable {w:World} {a a2:Option Addr} {n c b1 b2 b3 n2 c2:Nat} {xs ys:List (List Int)} {d:Hd} {x y:List Int} {f:AF} {t:ByteArray}
theorem FR (h:Ar Aa w a n xs) (hn2:n<=1000) (hx:∀ x∈xs,x.length<=1000) :
  Dq 112 [.slice a n c] w (fun v w'=>∃ a' c',v = .slice a' n c'/\n<=c'/\BZ A0 w.heap.size 144 w' a' n c' xs/\Ad w.heap.size a'/\AD w w'):=by
 have bh:=h.len;have bg:=h.le;obtain ⟨az,u,av⟩:=h;have bf:=u.len;refine oV Tryz.func112 ?_;refine bS Bm (vs:=[]) ?_;intro am a6 au bn aq af;have aj:BZ A0 w.heap.size 144 a6 (some ⟨am,0,none⟩) 0 0 []:=EL af au;refine lR [3,7,8,9] (fun (b:Nat) a2 w'=>∃ p q,a2=[.slice p b q,.slice a n c,.int .i64 n,.int .i64 b]/\b<=n/\BZ A0 w.heap.size 144 w' p b q (xs.take b)/\AD w w') (fun b=>n - b) 0 ⟨_,_,rfl,om,by simpa using aj,aq⟩ ?_;rintro b bb _ a3 ⟨p,q,rfl,be,e,g⟩;rcases Nat.lt_or_ge b n with ay | ay
 .obtain ⟨d,y⟩:=AA (l:=az) (k:=b) om;obtain ⟨ab,aa,o⟩:=av.get y;have bj:=o.1.len;have bi:=hx ab (List.mem_of_getElem? aa);have aw:∀ f,AD w f->Dq 181 [.agg ⟨eH d⟩] f (fun v w'=>∃ a' c',v = .agg ⟨eH ⟨a',d.n,c'⟩⟩/\Ad f.heap.size a'/\Ai eI 1 f.heap.size 2 w' a' d.n c' ab/\AD f w'):=fun f ao=>HL ⟨o.1.ext ao,o.2⟩ om;refine iY<|jI (u.ext g) b rfl y fun a8 bo bd ax=>jA (n:=1) ax rfl<|jN (z := .agg #[.slice none 0 0]) fun a9 bp ar bl ap ac=>jS (vs:=[Value.slice d.a d.n d.c]) ac rfl rfl (by simp [AE]) fun a4 an ad=>jA (n:=1) ad.cells rfl ?_;have i:AD a3 a4:=xb ap an.but ar;refine (aw _ (xt g i)).mono ?_;rintro _ bq ⟨r,s,rfl,ak,m,t⟩;refine AB.buildSlice Bm (vs:=[Value.agg ⟨eH ⟨r,d.n,s⟩⟩]) (by rfl) (by rfl) (by simp [Value.cells,eH]) dE ?_;intro al a5 bc bm j ae;have ag:AK a5 al 0 (eH ⟨r,d.n,s⟩):=ae.cells;have a0:=Below.size (xt g i);have ah:=e.ext i;refine CX Bm rfl ah a0 (xt t j) (Fg ((m.ext j).own) m.le.1) (Dr ak (fun x hx=>Nat.lt_of_lt_of_le (m.lt x hx) j.size)) ag om om fun a7 ba br ai a1 bk=>jP (((b+1:Nat):Int)) ⟨b+1,om,_,_,rfl,om,by rw [List.take_add_one,aa];exact ai,xm (xt (xt (xt g i) t) j) a1 (AO (BZ.new e))⟩
 .obtain rfl:b=n:=om
  rw [List.take_of_length_le om] at e;exact iN ⟨_,_,rfl,e.le.1,e,BZ.new e,g⟩
theorem P5 {d':Hd} (R:Aa w d x) (R':Aa w d' y) (hf:AR f x.length=true) (hf':AR f y.length=true) (C1:AK w b1 0 [.slice d'.a d'.n d'.c]) (C2:AK w b2 0 f.enc) :
  Dq 357 [.agg ⟨eH d⟩,.pointer (some ⟨b1,0,none⟩),.pointer (some ⟨b2,0,none⟩)] w (fun v w'=>v = .bool (decide (CT (AS f x) (AS f y)=0))/\AD w w'):=by
 have m:=Qd (AS f x) (AS f y);have j:∀ e,AD w e->Dq 275 [.agg ⟨eH d⟩,.agg ⟨eH d'⟩,.agg ⟨f.enc⟩] e (fun v w'=>v = .int .i64 (CT (AS f x) (AS f y))/\AD e w'):=fun e g=>Er ⟨R.1.ext g,R.2⟩ ⟨R'.1.ext g,R'.2⟩ hf hf';refine oV Tryz.func357 ?_;refine AB.box ?_;intro k p l o b h;refine jA (n:=1) h.cells rfl<|jA (n:=1) (C1.ext b) rfl<|jA (n:=2) (C2.ext b) rfl<|dM (j _ b) fun q i=>?_;exact ⟨rfl,(xt b i)⟩
theorem RX (h:Ar Aa w a n xs) (R:Aa w d y) (hf:∀ x∈xs,AR f x.length=true) (hf':AR f y.length=true) :
  Dq 347 [.slice a n c,.agg ⟨eH d⟩,.agg ⟨f.enc⟩] w (fun v w'=>v = .bool (KB xs y f)/\AD w w'):=by
 unfold KB;refine oV Tryz.func347 ?_;refine AB.box ?_;intro m ad u aa g j;refine AB.box ?_;intro s r z ab e k;have l:AK r m 0 [.slice d.a d.n d.c]:=(j.ext e).cells;exact dM (Gw (h.ext (xt g e)) (p:=fun x=>decide (CT (AS f x) (AS f y)=0)) (fun t x q i ac b=>P5 ⟨i.1.ext b,i.2⟩ ⟨R.1.ext (xt (xt g e) b),R.2⟩ (hf x q) hf' (l.ext b) (k.cells.ext b))) fun ae o=>⟨rfl,xt (xt g e) o⟩
theorem MQ (h:Ar Aa w a n xs) (R:Aa w d y) (hf:∀ x∈xs,AR f x.length=true) (hf':AR f y.length=true) {e:Bool}
  (C1:AK w b1 0 [.slice a n c]) (C2:AK w b2 0 f.enc) (C3:AK w b3 0 [.bool e]) :
  Dq 346 [.agg ⟨eH d⟩,.pointer (some ⟨b1,0,none⟩),.pointer (some ⟨b2,0,none⟩),.pointer (some ⟨b3,0,none⟩)] w (fun v w'=>v = .bool (KB xs y f != e)/\AD w w'):=by
 have m:∀ g,AD w g->Dq 347 [.slice a n c,.agg ⟨eH d⟩,.agg ⟨f.enc⟩] g (fun v w'=>v = .bool (KB xs y f)/\AD g w'):=fun g e=>RX (h.ext e) ⟨R.1.ext e,R.2⟩ hf hf';refine oV Tryz.func346 ?_;refine AB.box fun o r p q b l=>dH (pB [0,2,4,8,7,11,13]) ?_;intro s i;refine dL (C1.ext b) (k:=0) rfl<|dA (n:=1) l.cells rfl<|dA (n:=2) (C2.ext b) rfl<|dL (C3.ext b) (k:=0) rfl<|dM (m _ (xt b i)) fun t j=>?_;exact ⟨(xt i j),Rr kR ⟨rfl,(xt (xt b i) j)⟩⟩
theorem Im {b:Nat} (h:Ar Aa w a n xs) (h2:Ar Aa w a2 n2 ys) (hf:∀ x∈xs,AR f x.length=true) (hf2:∀ x∈ys,AR f x.length=true) (hn2:n<=1000) (hx:∀ x∈xs,x.length<=1000) (e:Bool) (C2:AK w b 0 f.enc) :
  Dq 344 [.slice a n c,.slice a2 n2 c2,.bool e,.pointer (some ⟨b,0,none⟩)] w (fun v w'=>∃ a' m c',v = .slice a' m c'/\m<=c'/\D2 A0 w' w.heap.size w'.heap.size a' m 144 (Ca xs ys f e)/\AD w w'):=by
 refine oV Tryz.func344 ?_;refine AB.box ?_;intro ah a3 au az t ab;refine AB.box fun ai o av a0 j ac=>(FR (h.ext (xt t j)) hn2 hx).mono ?_;rintro _ a4 ⟨s,ap,rfl,al,af,r,k⟩;have q:=xt t j;have i:=xt q k;obtain ⟨ar,ak,u⟩:=af.ownN;have ay:=q.size;have l:∀ d,AN s d->w.heap.size<=d:=fun d ⟨x,hx,am⟩=>by have:=r x hx;omega
 have aa:∀ d,AN s d->o.heap.size<=d:=fun d ⟨x,hx,am⟩=>by have:=r x hx;omega
 have ad:AK o ah 0 [.slice a2 n2 c2]:=(ab.ext j).cells;have ae:AK o ai 0 [.bool e]:=ac.cells;refine (Hm ak u.1 al (p:=fun x=>KB ys x f != e) (fun a1 g aq x ao ag=>MQ (h2.ext (xm i g l)) ag hf2 (hf x ao) (ad.ext (xm k g aa)) (C2.ext (xm i g l)) (ae.ext (xm k g aa)))).mono ?_;rintro _ a5 ⟨m,aj,rfl,aw,ax,z,an,y⟩;rw [Pp] at z;exact ⟨_,_,_,rfl,om,⟨aj,z,(Yb u an).wide om y.size⟩,xm i y l⟩
theorem NV (R:Aa w d x) (hf:AR f x.length=true) (hx:x.length<=20) (ht:CM t=true) (htl:(t.size:Int)=f.to_ - f.from_) :
  Dq 356 [.agg ⟨eH d⟩,.agg ⟨f.enc⟩,.string t] w (fun v w'=>v = .int .i64 (Cy f x t)/\AD w w'):=by
 have r:=BV hf;have ae:=R.1.len;obtain ⟨n,s⟩:=R;obtain ⟨l,m⟩:=f;simp only at r htl;obtain ⟨a,rfl⟩:∃ a:Nat,l=a:=⟨l.toNat,om⟩;obtain ⟨b,rfl⟩:∃ b:Nat,m=b:=⟨m.toNat,om⟩;have u:t.size=b - a:=om
 unfold Cy AS AZ;simp only [Int.toNat_natCast];refine oV Tryz.func356 ?_;refine AB.box ?_;intro z ai ac af i p;refine AB.box fun aa ak ad ag h g=>dH (pB [0,2,4,6,8,10,12,14,16,18,20,22,24,27,29,31,33]) ?_;intro al c;refine dL (p.ext h).cells (k:=0) rfl<|dL g.cells (k:=0) rfl<|dL g.cells (k:=1) rfl<|BN.slice (k := .i64) (k' := .i64) kR (n.ext (xt i h)) a b om om s (.inr (by rfl)) (.inr (by rfl)) fun y o=>dL g.cells (k:=1) rfl<|dL g.cells (k:=0) rfl<|BN.sub (((b - a:Nat):Int)) (by first | (show (b:Int) - (a:Int)=_;omega) | (show _=(b:Int) - (a:Int);omega)) om om<|(J5 ht u om _).mono ?_;rintro _ am ⟨ab,rfl,ah,q,e⟩;exact ⟨(xt c e),AB.field 0 kR rfl ⟨(xt c e),dM (ID (o.ext (xt c e)) (q.own.arr AI)) fun aj j=>⟨(xt (xt c e) j),⟨rfl,(xt (xt (xt (xt i h) c) e) j)⟩⟩⟩⟩
theorem Ki (R:Aa w d x) (hf:AR f x.length=true) (hx:x.length<=20) (ht:CM t=true) (htl:(t.size:Int)=f.to_ - f.from_) (C1:AK w b1 0 f.enc) (C2:AK w b2 0 [.string t]) (C3:AK w b3 0 [.string t]) :
  Dq 355 [.agg ⟨eH d⟩,.pointer (some ⟨b1,0,none⟩),.pointer (some ⟨b2,0,none⟩),.pointer (some ⟨b3,0,none⟩)] w (fun v w'=>v = .bool (decide (Cy f x t<0) || decide (0<Cy f x t))/\AD w w'):=by
 have o : -1<=Cy f x t/\Cy f x t<=1:=Qd _ _;have g:∀ c,AD w c->Dq 356 [.agg ⟨eH d⟩,.agg ⟨f.enc⟩,.string t] c (fun v w'=>v = .int .i64 (Cy f x t)/\AD c w'):=fun c h=>NV ⟨R.1.ext h,R.2⟩ hf hx ht htl;refine oV Tryz.func355 ?_;refine AB.box ?_;intro l q m p a e;refine jA (n:=1) e.cells rfl<|jA (n:=2) (C1.ext a) rfl<|jL (C2.ext a) (k:=0) rfl<|dM (g _ a) fun r b=>AL (fun j=>?_) fun j=>?_
 .exact ⟨by simp [*],(xt a b)⟩
 .exact jA (n:=1) (e.ext b).cells rfl<|jA (n:=2) (C1.ext (xt a b)) rfl<|jL (C3.ext (xt a b)) (k:=0) rfl<|dM (g _ (xt a b)) fun s i=>⟨by simp [*],(xt (xt a b) i)⟩
theorem Le (h:Ar Aa w a n xs) (hfo:f.ok) (hts:t.size<=1048576) (hnc:n<=c) :
  Dq 343 [.slice a n c,.agg ⟨f.enc⟩,.string t,.string t] w (fun v w'=>∃ a' m c',v = .tuple #[.slice a' m c',.int .i64 (Cp xs f t).2]/\((Cp xs f t).2=0->m<=c'/\D2 A0 w' w.heap.size w'.heap.size a' m 144 (Cp xs f t).1)/\AD w w'):=by
 have ag:∀ g ac j,AD w g->AK g ac 0 [.slice a n c]->AK g j 0 [.string t,.string t]->Dq 341 [.agg ⟨f.enc⟩,.bool true,.slice (some ⟨j,0,none⟩) 2 2,.slice (some ⟨ac,0,none⟩) 1 1] g (fun v w'=>v = .int .i64 (BO [xs] [t,t] f)/\AD g w'):=fun g ac j bd x y =>
  FV (Vt (h.ext bd) hnc x) (Z6 y) sI (by simp [hts]) hfo
 have ce:=h.len;by_cases s:BO [xs] [t,t] f=0
 .have ai:Cp xs f t=(xs.filter fun c=>decide (Cy f c t=0),0):=by simp [Cp,s]
  obtain ⟨bk,bl,bq,bj,_⟩:=Hw s;have a0:=Ah (bk xs sI);have bm:∀ b∈xs,AR f b.length=true:=fun b d=>by rw [(a0.2 b d).2];exact bl xs sI
  have aw:∀ b∈xs,b.length<=20:=fun b d=>(Br (a0.2 b d).1).2.1;rw [ai];rw [s] at ag;refine oV Tryz.func343 ?_;refine AB.box ?_;intro ba cv b' cm au ak;refine AB.box fun bb cw ca cn o al=>AB.box fun bc cx cb co i am=>jA (n:=2) (ak.ext (xt o i)).cells rfl<|jL (al.ext i).cells (k:=0) rfl<|jL am.cells (k:=0) rfl ?_;refine bS BI (vs:=[Value.string t,Value.string t]) ?_;intro b1 cy bh cp ae an;have bw:=AG (n:=2) (enc:=eS) (xs:=[t,t]) AQ an bh rfl dE;refine bS Dm (vs:=[Value.slice a n c]) fun b2 cz cc cq q a4=>dM (ag _ _ _ (xt (xt (xt (xt au o) i) ae) q) a4.cells (an.ext q).cells) fun u av=>?_;have a8:=xt (xt au o) i;have z:=xt (xt (xt a8 ae) q) av;have aa:=xt (xt ae q) av;have x:AK u ba 0 f.enc:=(ak.ext (xt (xt o i) aa)).cells;have y:AK u bb 0 [.string t]:=(al.ext (xt i aa)).cells;have a6:AK u bc 0 [.string t]:=(am.ext aa).cells;refine (FR (h.ext z) om (fun b d=>by have:=aw b d;omega)).mono ?_;rintro _ c0 ⟨ap,b4,rfl,br,bt,ao,r⟩;have a7:=xt z r;obtain ⟨b6,bi,ax⟩:=bt.ownN;have ch:=z.size;have bo:∀ e,AN ap e->w.heap.size<=e:=fun e ⟨b,d,bn⟩=>by have:=ao b d;omega
  have ah:∀ e,AN ap e->u.heap.size<=e:=fun e ⟨b,d,bn⟩=>by have:=ao b d;omega
  refine (Hm bi ax.1 br (p:=fun b=>decide (Cy f b t<0) || decide (0<Cy f b t)) (fun g ab b5 b d a9=>Ki a9 (bm b d) (aw b d) (bj t sI) (bq t sI) (x.ext (xm r ab ah)) (y.ext (xm r ab ah)) (a6.ext (xm r ab ah)))).mono ?_;rintro _ bu ⟨m,bf,rfl,cf,cg,az,bp,ay⟩;rw [UW] at az;exact ⟨_,_,_,rfl,fun _=>⟨om,⟨bf,az,(Yb ax bp).wide om ay.size⟩⟩,xm a7 ay bo⟩
 .have ai:Cp xs f t=([],BO [xs] [t,t] f):=by simp [Cp,s]
  rw [ai];refine oV Tryz.func343 ?_;refine AB.box ?_;intro bx cs b7 ci aq a1;refine AB.box fun j ct b8 cj ad a2=>AB.box fun bz cu b9 ck l a3=>jA (n:=2) (a1.ext (xt ad l)).cells rfl<|jL (a2.ext l).cells (k:=0) rfl<|jL a3.cells (k:=0) rfl ?_;refine bS BI (vs:=[Value.string t,Value.string t]) ?_;intro b0 bu bg cl ar aj;have bv:=AG (n:=2) (enc:=eS) (xs:=[t,t]) AQ aj bg rfl dE;exact bS Dm (vs:=[Value.slice a n c]) fun b3 c1 cd cr af a5=>dM (ag _ _ _ (xt (xt (xt (xt aq ad) l) ar) af) a5.cells (aj.ext af).cells) fun c2 be=>iT ⟨_,_,_,rfl,om,(xt (xt (xt (xt (xt aq ad) l) ar) af) be)⟩
theorem NX (h:Ar Aa w a n xs) (hfo:f.ok) (hts:t.size<=1048576) (hnc:n<=c) :
  Dq 324 [.slice a n c,.agg ⟨f.enc⟩,.string t] w (fun v w'=>∃ a' m c',v = .tuple #[.slice a' m c',.int .i64 (Cp xs f t).2]/\((Cp xs f t).2=0->m<=c'/\D2 A0 w' w.heap.size w'.heap.size a' m 144 (Cp xs f t).1)/\AD w w'):=by
 refine oV Tryz.func324 ?_;refine AB.box ?_;intro k r o p b g;refine jA (n:=2) g.cells rfl<|(Le (h.ext b) hfo hts hnc).mono ?_;rintro _ s ⟨j,q,l,rfl,e,i⟩;refine ⟨_,_,_,rfl,?_,(xt b i)⟩
 .exact fun d=>⟨(e d).1,(e d).2.wide (Below.size b) (Nat.le_refl _)⟩
theorem Rc (h:Ar Aa w a n xs) (f:AF) :
  Dq 322 [.slice a n c,.agg ⟨f.enc⟩] w (fun v w'=>∃ a' m c',v = .tuple #[.slice a' m c',.int .i64 (Fy xs f).2]/\((Fy xs f).2=0->m<=c'/\D2 A0 w' w.heap.size w'.heap.size a' m 144 (Fy xs f).1)/\AD w w'):=by
 have i:∀ e,AD w e->Dq 138 [.slice a n c,.agg ⟨f.enc⟩] e (fun v w'=>v = .int .i64 (Bn xs f).2/\AD e w'):=fun e l=>K4 (h.ext l) f;rcases Lb xs f with ⟨t,j,z⟩ | ⟨ab,ac,ag,j⟩
 .have aa:t≠0:=om
  have p:Fy xs f=([],t):=by simp [Fy,j,aa]
  rw [p];rw [j] at i;rcases z with rfl | rfl | rfl
  .refine oV Tryz.func322 ?_;refine AB.box ?_;intro k r o q b g;refine jA (n:=2) g.cells rfl<|dM (i _ b) fun s d=>?_;exact ⟨_,_,_,rfl,om,(xt b d)⟩
  .refine oV Tryz.func322 ?_;refine AB.box ?_;intro k r o q b g;refine jA (n:=2) g.cells rfl<|dM (i _ b) fun s d=>?_;exact ⟨_,_,_,rfl,om,(xt b d)⟩
  .refine oV Tryz.func322 ?_;conv=>whnf
   exact AB.box fun k r o q b g=>jA (n:=2) g.cells rfl<|dM (i _ b) fun s d=>⟨_,_,_,rfl,om,(xt b d)⟩
 .have p:Fy xs f=(KR xs f,0):=by simp [Fy,j]
  rw [p];rw [j] at i;have y:∀ e,AD w e->Dq 140 [.slice a n c,.agg ⟨f.enc⟩] e (fun v w'=>∃ a' c',v = .slice a' n c'/\n<=c'/\D2 A0 w' e.heap.size w'.heap.size a' n 144 (KR xs f)/\AD e w'):=fun e l=>IT (h.ext l) ab ac;refine oV Tryz.func322 ?_;refine AB.box ?_;intro k r o q b g;refine jA (n:=2) g.cells rfl<|dM (i _ b) fun s d=>jA (n:=2) (g.ext d).cells rfl<|(y _ (xt b d)).mono ?_;rintro _ ah ⟨ae,af,rfl,ad,u,x⟩;refine ⟨_,_,_,rfl,?_,(xt (xt b d) x)⟩
  .exact fun _=>⟨ad,u.wide (Below.size (xt b d)) (Nat.le_refl _)⟩
theorem Ol (h:Ar Aa w a n xs) (h2:Ar Aa w a2 n2 ys) (hfo:f.ok) (hnc:n<=c) (hnc2:n2<=c2) :
  Dq 326 [.slice a n c,.slice a2 n2 c2,.agg ⟨f.enc⟩] w (fun v w'=>∃ a' m c',v = .tuple #[.slice a' m c',.int .i64 (CS xs ys f)]/\(CS xs ys f=0->∃ b d0 d1 d2 d3,a'=some ⟨b,0,none⟩/\m=4/\c'=4/\AK w' b 0 (BD eH [d0,d1,d2,d3])/\d0.n<=d0.c/\d2.n<=d2.c/\D2 A0 w' w.heap.size w'.heap.size d0.a d0.n 144 (Ca xs ys f true)/\D2 A0 w' w.heap.size w'.heap.size d2.a d2.n 144 (Ca xs ys f false))/\AD w w'):=by
 have x:∀ d b,AD w d->AK d b 0 [.slice a n c,.slice a2 n2 c2]->Dq 341 [.agg ⟨f.enc⟩,.bool true,.slice none 0 0,.slice (some ⟨b,0,none⟩) 2 2] d (fun v w'=>v = .int .i64 (BO [xs,ys] [] f)/\AD d w'):=fun d b k bk =>
  FV (Vs (h.ext k) hnc (h2.ext k) hnc2 bk) A4.nil sI sI hfo
 have b3:=h.len;have b4:=h2.len;unfold CS;by_cases ab:BO [xs,ys] [] f=0
 .obtain ⟨z,aa,_,_,_⟩:=Hw ab;have a3:=Ah (z xs sI);have a4:=Ah (z ys sI);have a5:∀ l∈xs,AR f l.length=true:=fun l s=>by rw [(a3.2 l s).2];exact aa xs sI
  have a6:∀ l∈ys,AR f l.length=true:=fun l s=>by rw [(a4.2 l s).2];exact aa ys sI
  have bp:∀ l∈xs,l.length<=1000:=fun l s=>by have:=(Br (a3.2 l s).1).2.1;omega
  have bq:∀ l∈ys,l.length<=1000:=fun l s=>by have:=(Br (a4.2 l s).1).2.1;omega
  have ae:∀ d,AD w d->Dq 342 [.slice a n c,.agg ⟨f.enc⟩] d (fun v w'=>v = .bool (GA xs f)/\AD d w'):=fun d k=>FU (h.ext k) (z xs sI) (aa xs sI);have az:∀ d,AD w d->Dq 342 [.slice a2 n2 c2,.agg ⟨f.enc⟩] d (fun v w'=>v = .bool (GA ys f)/\AD d w'):=fun d k=>FU (h2.ext k) (z ys sI) (aa ys sI);have a0:∀ d b k,AD w d->AK d b 0 f.enc->Dq 344 [.slice a n c,.slice a2 n2 c2,.bool k,.pointer (some ⟨b,0,none⟩)] d (fun v w'=>∃ a' m c',v = .slice a' m c'/\m<=c'/\D2 A0 w' d.heap.size w'.heap.size a' m 144 (Ca xs ys f k)/\AD d w'):=fun d b k u ac=>Im (h.ext u) (h2.ext u) a5 a6 om bp k ac;have a1:∀ d b k,AD w d->AK d b 0 f.enc->Dq 344 [.slice a2 n2 c2,.slice a n c,.bool k,.pointer (some ⟨b,0,none⟩)] d (fun v w'=>∃ a' m c',v = .slice a' m c'/\m<=c'/\D2 A0 w' d.heap.size w'.heap.size a' m 144 (Ca ys xs f k)/\AD d w'):=fun d b k u ac=>Im (h2.ext u) (h.ext u) a6 a5 om bq k ac;rw [ab] at x;rw [if_neg (by simp [ab])];cases b5:GA xs f
  .rw [if_pos (.inl rfl)];refine oV Tryz.func326 ?_;refine AB.box ?_;intro al bd ax a7 i o;refine jA (n:=2) o.cells rfl ?_;refine bS Dm (vs:=[Value.slice a n c,Value.slice a2 n2 c2]) fun am be ay a8 e t=>dM (x _ _ (xt i e) t.cells) fun bf g=>jA (n:=2) (o.ext (xt e g)).cells rfl<|dM (ae _ (xt (xt i e) g)) fun bg j=>?_;refine iT ?_;exact ⟨_,_,_,rfl,om,(xt (xt (xt i e) g) j)⟩
  .cases b6:GA ys f
   .rw [if_pos (.inr rfl)];refine oV Tryz.func326 ?_;refine AB.box ?_;intro al bd ax a7 i o;refine jA (n:=2) o.cells rfl ?_;refine bS Dm (vs:=[Value.slice a n c,Value.slice a2 n2 c2]) fun am be ay a8 e t=>dM (x _ _ (xt i e) t.cells) fun bf g=>jA (n:=2) (o.ext (xt e g)).cells rfl<|dM (ae _ (xt (xt i e) g)) fun bg j=>?_;refine iF<|jA (n:=2) (o.ext (xt (xt e g) j)).cells rfl<|dM (az _ (xt (xt (xt i e) g) j)) fun bu p=>?_;refine iT ?_;exact ⟨_,_,_,rfl,om,(xt (xt (xt (xt i e) g) j) p)⟩
   .rw [if_neg sI];refine oV Tryz.func326 ?_;refine AB.box ?_;intro al bd ax a7 i o;refine jA (n:=2) o.cells rfl ?_;refine bS Dm (vs:=[Value.slice a n c,Value.slice a2 n2 c2]) fun am be ay a8 e t=>dM (x _ _ (xt i e) t.cells) fun bf g=>jA (n:=2) (o.ext (xt e g)).cells rfl<|dM (ae _ (xt (xt i e) g)) fun bg j=>?_;refine iF<|jA (n:=2) (o.ext (xt (xt e g) j)).cells rfl<|dM (az _ (xt (xt (xt i e) g) j)) fun bu p=>?_;refine iF<|(a0 _ _ _ (xt (xt (xt (xt i e) g) j) p) (o.ext (xt (xt (xt e g) j) p)).cells).mono ?_;rintro _ cd ⟨ah,a9,an,rfl,br,bl,q⟩;refine (a1 _ _ _ (xt (xt (xt (xt (xt i e) g) j) p) q) (o.ext (xt (xt (xt (xt e g) j) p) q)).cells).mono ?_;rintro _ ce ⟨ai,ba,ao,rfl,b',bv,r⟩;refine (a0 _ _ _ (xt (xt (xt (xt (xt (xt i e) g) j) p) q) r) (o.ext (xt (xt (xt (xt (xt e g) j) p) q) r)).cells).mono ?_;rintro _ cf ⟨aj,bb,ap,rfl,bt,bm,y⟩;refine (a1 _ _ _ (xt (xt (xt (xt (xt (xt (xt i e) g) j) p) q) r) y) (o.ext (xt (xt (xt (xt (xt (xt e g) j) p) q) r) y)).cells).mono ?_;rintro _ cg ⟨ak,bc,aq,rfl,ca,bw,av⟩;refine bS Dm (vs:=[Value.slice ah a9 an,Value.slice ai ba ao,Value.slice aj bb ap,Value.slice ak bc aq]) fun bn ch b2 b9 aw bj=>⟨_,_,_,rfl,?_,(xt (xt (xt (xt (xt (xt (xt (xt (xt i e) g) j) p) q) r) y) av) aw)⟩
    .have af:=xt (xt (xt (xt i e) g) j) p;have ad:=xt av aw;have ag:=xt (xt r y) ad;exact fun _=>⟨bn,⟨ah,a9,an⟩,⟨ai,ba,ao⟩,⟨aj,bb,ap⟩,⟨ak,bc,aq⟩,rfl,rfl,rfl,bj.cells,br,bt,(bl.ext ag).wide (Below.size af) (Below.size ag),(bm.ext ad).wide (Below.size (xt (xt af q) r)) (Below.size ad)⟩
 .rw [if_pos ab];refine oV Tryz.func326 ?_;refine AB.box ?_;intro bx cb b0 b7 ar bh;refine jA (n:=2) bh.cells rfl ?_;refine bS Dm (vs:=[Value.slice a n c,Value.slice a2 n2 c2]) fun bz cc b1 b8 au bi=>dM (x _ _ (xt ar au) bi.cells) fun ci bo=>?_;refine iT ?_;exact ⟨_,_,_,rfl,om,(xt (xt ar au) bo)⟩
theorem Lf (h:Ar Aa w a n xs) (hfo:f.ok) (hnc:n<=c) :
  Dq 325 [.slice a n c,.agg ⟨f.enc⟩] w (fun v w'=>∃ a' m c',v = .tuple #[.slice a' m c',.int .i64 (EH xs f).2]/\((EH xs f).2=0->m<=c'/\D2 A0 w' w.heap.size w'.heap.size a' m 144 (EH xs f).1)/\AD w w'):=by
 have ao:∀ d ah,AD w d->AK d ah 0 [.slice a n c]->Dq 341 [.agg ⟨f.enc⟩,.bool true,.slice none 0 0,.slice (some ⟨ah,0,none⟩) 1 1] d (fun v w'=>v = .int .i64 (BO [xs] [] f)/\AD d w'):=fun d ah t bg =>
  FV (Vt (h.ext t) hnc bg) A4.nil sI sI hfo
 have b6:=h.len;have cy:=h.le;by_cases ad:BO [xs] [] f=0
 .have aq:EH xs f=((Aw (xs.map (AS f))).map fun i=>xs.getD i [],0):=by simp [EH,ad]
  obtain ⟨b0,b1,_,_,_⟩:=Hw ad;have ap:=Ah (b0 xs sI);have cs:=ap.1;have b3:∀ b∈xs,AR f b.length=true:=fun b g=>by rw [(ap.2 b g).2];exact b1 xs sI
  have bt:∀ b∈xs,b.length<=20:=fun b g=>(Br (ap.2 b g).1).2.1;rw [aq];rw [ad] at ao;have p:∀ d,AD w d->Dq 224 [.slice a n c,.agg ⟨f.enc⟩] d (fun v w'=>∃ a' m c',v = .slice a' m c'/\Ad d.heap.size a'/\Bw eI w' a' m 2 (CA (xs.map (AS f)) n)/\AD d w'):=fun d t=>K8 (h.ext t) b3 om;have ba:CA (xs.map (AS f)) n=(Aw (xs.map (AS f))).map fun (q:Nat)=>(q:Int):=by
   unfold CA Aw;rw [List.length_map,b6]
  have br:=h;obtain ⟨b8,a5,bu⟩:=br;have cw:=a5.len;refine oV Tryz.func325 ?_;refine AB.box ?_;intro ch dc cp c3 ak ax;refine jA (n:=2) ax.cells rfl ?_;refine bS Dm (vs:=[Value.slice a n c]) fun ci dd cq c4 aa bd=>dM (ao _ _ (xt ak aa) bd.cells) fun aw al=>?_;refine bS Bm (vs:=[]) fun ai ca bq c5 ab be=>jA (n:=2) (ax.ext (xt (xt aa al) ab)).cells rfl<|(p _ (xt (xt (xt ak aa) al) ab)).mono ?_;rintro _ df ⟨r,j,bo,rfl,bl,y,a2⟩;(conv=>whnf);have ae:=xt (xt ak aa) al;have cd:=xt ae ab;have bk:BZ A0 aw.heap.size 144 ca (some ⟨ai,0,none⟩) 0 0 []:=EL be bq;have bi:=bk.ext a2;rw [ba] at y;have b7:=y.1;have cx:j<=n:=by
   have:=Gu (xs.map (AS f)) n;rw [ba] at this;omega
  have bw:KP (some ⟨ai,0,none⟩) r:=by
   intro x ac a9;obtain ⟨b,g,a8⟩:=a9;cases g
   have:=bl x ac;have a8:x.block=ai:=a8;omega
  refine lR [0,7,20,21,22] (fun (e:Nat) b' w'=>∃ z aj,b'=[.slice a n c,.slice z e aj,.slice r j bo,.int .i64 j,.int .i64 e]/\e<=j/\BZ A0 aw.heap.size 144 w' z e aj (((Aw (xs.map (AS f))).map fun i=>xs.getD i []).take e)/\A4 eI 1 w' r j ((Aw (xs.map (AS f))).map fun (q:Nat)=>(q:Int))/\KP z r/\AD aw w'/\(∀ b,r=some b->b.block<w'.heap.size)) (fun e=>j - e) 0 ⟨_,_,rfl,om,by simpa using bi,y.arr AI,bw,xt ab a2,fun b g=>y.lt b g⟩ ?_;rintro e cm _ da ⟨z,aj,rfl,a9,p,a3,a6,am,a4⟩;have an:=xt ae am;rcases Nat.lt_or_ge e j with b5 | b5
  .obtain ⟨cc,au⟩:=AA (l:=(Aw (xs.map (AS f))).map fun (q:Nat)=>(q:Int)) (k:=e) om;obtain ⟨i,b4,cv⟩:∃ i:Nat,cc=i/\i<n:=by
    have:=List.mem_of_getElem? au;obtain ⟨q,ar,rfl⟩:=List.mem_map.1 this;have:=(GZ.1 ar).1;rw [List.length_map] at this;exact ⟨q,rfl,om⟩
   subst b4;obtain ⟨s,a7⟩:=AA (l:=b8) (k:=i) om;obtain ⟨x,ac,ag⟩:=bu.get a7;have b2:=OK (f:=f) au ac;have cz:=bt x (List.mem_of_getElem? ac);have c0:=ag.1.len;have bv:∀ d,AD w d->Dq 181 [.agg ⟨eH s⟩] d (fun v w'=>∃ a' c',v = .agg ⟨eH ⟨a',s.n,c'⟩⟩/\Ad d.heap.size a'/\Ai eI 1 d.heap.size 2 w' a' s.n c' x/\AD d w'):=fun d t=>HL ⟨ag.1.ext t,ag.2⟩ om;refine iY<|jI a3 e rfl au fun cj c7 ct bx=>jO bx rfl<|jI (a5.ext an) i rfl a7 fun ck c8 cu bz=>jA (n:=1) bz rfl<|(bv _ an).mono ?_;rintro _ dg ⟨ay,az,rfl,bm,af,u⟩;refine AB.buildSlice Bm (vs:=[Value.agg ⟨eH ⟨ay,s.n,az⟩⟩]) (by rfl) (by rfl) (by simp [Value.cells,eH]) dE ?_;intro bn cb cr c6 o bf;have bh:AK cb bn 0 (eH ⟨ay,s.n,az⟩):=bf.cells;have ar:=am.size;refine CX Bm rfl p ar (xt u o) (Fg ((af.ext o).own) af.le.1) (Dr bm (fun b g=>Nat.lt_of_lt_of_le (af.lt b g) o.size)) bh om om fun ce cl dh bj av b9=>jP (((e+1:Nat):Int)) ⟨e+1,om,_,_,rfl,om,by rw [b2];exact bj,(a3.ext (xt u o)).mod av a6,?_,xm (xt (xt am u) o) av (AO (BZ.new p)),fun b g=>by have:=a4 b g;have:=u.size;have:=o.size;have:=av.size;omega⟩;exact KP.app a6 b9 (fun b g=>by
    have:=a4 b g;have:=u.size;have:=o.size;omega)
  .obtain rfl:e=j:=om
   rw [List.take_of_length_le (by simp at b7 ⊢;omega)] at p;exact iN ⟨_,_,_,rfl,fun _=>⟨p.le.1,p.ownN.wide (Below.size ae) (Nat.le_refl _)⟩,an⟩
 .have aq:EH xs f=([],BO [xs] [] f):=by simp [EH,ad]
  rw [aq];refine oV Tryz.func325 ?_;refine AB.box ?_;intro cf c9 cn c1 a0 bb;refine jA (n:=2) bb.cells rfl ?_;refine bS Dm (vs:=[Value.slice a n c]) fun cg db co c2 a1 bc=>dM (ao _ _ (xt a0 a1) bc.cells) fun de bp=>?_;refine iT ?_;exact ⟨_,_,_,rfl,om,(xt (xt a0 a1) bp)⟩
theorem Ok (h:Ar Aa w a n xs) (h2:Ar Aa w a2 n2 ys) (hfo:f.ok) (hnc:n<=c) (hnc2:n2<=c2) :
  Dq 323 [.slice a n c,.slice a2 n2 c2,.agg ⟨f.enc⟩] w (fun v w'=>∃ a' m c',v = .tuple #[.slice a' m c',.int .i64 (CE xs ys f).2]/\((CE xs ys f).2=0->m<=c'/\D2 A0 w' w.heap.size w'.heap.size a' m 144 (CE xs ys f).1)/\AD w w'):=by
 have ah:∀ b ad,AD w b->AK b ad 0 [.slice a n c,.slice a2 n2 c2]->Dq 341 [.agg ⟨f.enc⟩,.bool true,.slice none 0 0,.slice (some ⟨ad,0,none⟩) 2 2] b (fun v w'=>v = .int .i64 (BO [xs,ys] [] f)/\AD b w'):=fun b ad g a5 =>
  FV (Vs (h.ext g) hnc (h2.ext g) hnc2 a5) A4.nil sI sI hfo
 have be:=h.len;have bf:=h2.len;by_cases k:BO [xs,ys] [] f=0
 .obtain ⟨j,p,_,_,_⟩:=Hw k;have au:=Ah (j xs sI);have bd:=Ah (j ys sI);have b5:∀ e∈xs,AR f e.length=true:=fun e u=>by rw [(au.2 e u).2];exact p xs sI
  have b6:∀ e∈ys,AR f e.length=true:=fun e u=>by rw [(bd.2 e u).2];exact p ys sI
  have a8:∀ e∈xs,e.length<=1000:=fun e u=>by have:=(Br (au.2 e u).1).2.1;omega
  have a9:∀ b,AD w b->Dq 342 [.slice a n c,.agg ⟨f.enc⟩] b (fun v w'=>v = .bool (GA xs f)/\AD b w'):=fun b g=>FU (h.ext g) (j xs sI) (p xs sI);have ba:∀ b,AD w b->Dq 342 [.slice a2 n2 c2,.agg ⟨f.enc⟩] b (fun v w'=>v = .bool (GA ys f)/\AD b w'):=fun b g=>FU (h2.ext g) (j ys sI) (p ys sI);have b7:=EU (j xs sI);have b8:=EU (j ys sI);have bb:∀ b,AD w b->Dq 209 [.slice a n c] b (fun v w'=>v = .int .i64 (AJ xs)/\AD b w'):=fun b g=>DI (h.ext g);have bc:∀ b,AD w b->Dq 209 [.slice a2 n2 c2] b (fun v w'=>v = .int .i64 (AJ ys)/\AD b w'):=fun b g=>DI (h2.ext g);rw [k] at ah;have ax:xs=[]↔n=0:=by rw [<- be];exact List.length_eq_zero_iff.symm
  have ay:ys=[]↔n2=0:=by rw [<- bf];exact List.length_eq_zero_iff.symm
  have bi:¬ (xs≠[]/\ys≠[]/\AJ xs≠AJ ys)->GA xs f=false->CE xs ys f=([],6):=fun d aj=>by unfold CE;rw [if_neg (by simp [k]),if_neg d,if_pos (.inl aj)]
  have bj:¬ (xs≠[]/\ys≠[]/\AJ xs≠AJ ys)->GA ys f=false->CE xs ys f=([],6):=fun d aj=>by unfold CE;rw [if_neg (by simp [k]),if_neg d,if_pos (.inr aj)]
  have bh:¬ (xs≠[]/\ys≠[]/\AJ xs≠AJ ys)->GA xs f=true->GA ys f=true->40<n+n2->CE xs ys f=([],5):=fun d ag h2 aq=>by unfold CE;rw [if_neg (by simp [k]),if_neg d,if_neg (by simp [ag,h2]),if_pos om]
  have bg:¬ (xs≠[]/\ys≠[]/\AJ xs≠AJ ys)->GA xs f=true->GA ys f=true->¬ 40<n+n2->CE xs ys f=(KR (xs++ys) f,0):=fun d ag h2 aq=>by unfold CE;rw [if_neg (by simp [k]),if_neg d,if_neg (by simp [ag,h2]),if_neg om]
  have ar:¬ (xs≠[]/\ys≠[]/\AJ xs≠AJ ys)->¬ 40<n+n2->Ax (xs++ys)=true/\AR f (AJ (xs++ys))=true:=fun d aq=>WV (j xs sI) (j ys sI) (p xs sI) (p ys sI) d om;refine oV Tryz.func323 ?_;conv=>whnf
  refine AB.box ?_;intro bu cf b2 b' r x;(conv=>whnf);refine jA (n:=2) x.cells rfl ?_;(conv=>whnf);refine bS Dm (vs:=[Value.slice a n c,Value.slice a2 n2 c2]) ?_;intro bv cg b3 ca o y;(conv=>whnf);refine dM (ah _ _ (xt r o) y.cells) fun az s=>?_;have i:=xt (xt r o) s;have q:=xt o s;(conv=>whnf);by_cases av:n=0
  focus
   have d:¬ (xs≠[]/\ys≠[]/\AJ xs≠AJ ys):=fun d=>d.1 (ax.2 av);refine iN ?_;clear r o s y;generalize az=a0 at *
  rotate_left
  focus
   refine iY ?_;(conv=>whnf);by_cases aw:n2=0
   focus
    have d:¬ (xs≠[]/\ys≠[]/\AJ xs≠AJ ys):=fun d=>d.2.1 (ay.2 aw);refine iN ?_;clear r o s y;generalize az=a0 at *
   rotate_left
   focus
    refine iY ?_;(conv=>whnf);refine dM (bb _ i) fun ch aa=>?_;(conv=>whnf);refine dM (bc _ (xt i aa)) fun bn ae=>?_;have i:=xt i (xt aa ae);have q:=xt q (xt aa ae);(conv=>whnf);by_cases bk:(AJ xs:Int)=AJ ys
    rotate_left
    .have ai:CE xs ys f=([],9):=by unfold CE;rw [if_neg (by simp [k]),if_pos ⟨fun h=>av (ax.1 h),fun h=>aw (ay.1 h),fun h=>bk om⟩]
     rw [ai];refine iT ?_;(conv=>whnf);exact ⟨_,_,_,rfl,om,i⟩
    have d:¬ (xs≠[]/\ys≠[]/\AJ xs≠AJ ys):=fun d=>d.2.2 om;refine iF ?_;clear r o s y aa ae;generalize bn=a0 at *
  all_goals
   (conv=>whnf);refine jA (n:=2) (x.ext q).cells rfl ?_;(conv=>whnf);refine dM (a9 _ i) fun cj t=>?_;(conv=>whnf);cases ak:GA xs f
   .rw [bi d ak];(conv=>whnf);exact ⟨_,_,_,rfl,om,xt i t⟩
   (conv=>whnf);refine jA (n:=2) (x.ext (xt q t)).cells rfl ?_;(conv=>whnf);refine dM (ba _ (xt i t)) fun ck an=>?_;have l:=xt (xt i t) an;(conv=>whnf);cases al:GA ys f
   .rw [bj d al];(conv=>whnf);exact ⟨_,_,_,rfl,om,l⟩
   (conv=>whnf);refine jP (((n+n2:Nat):Int)) ?_;(conv=>whnf);by_cases ac:40<n+n2
   .rw [bh d ak al ac];refine iY ?_;(conv=>whnf);exact ⟨_,_,_,rfl,om,l⟩
   rw [bg d ak al ac];refine iN ?_;(conv=>whnf);refine dH (pB [0,4,8,3,7,11,13,15]) ?_;(conv=>whnf);intro ci ab;(conv=>whnf);refine dA (n:=2) (x.ext (xt (xt q t) an)).cells rfl ?_;(conv=>whnf);refine (FR (h.ext (xt l ab)) om a8).mono ?_;rintro _ cm ⟨bp,bx,rfl,cd,bl,bo,af⟩;(conv=>whnf);refine ⟨(xt ab af),?_⟩;(conv=>whnf);refine Ou Bm rfl (xt ab af) bl (Below.size ab) (Below.size af) (h2.ext l) om om ?_;intro br b0 cp a1 cc z;(conv=>whnf);refine ⟨z,?_⟩;(conv=>whnf);refine (IT a1 (ar d ac).1 (ar d ac).2).mono ?_;rintro _ cn ⟨bq,bz,rfl,bm,a6,ap⟩;(conv=>whnf);refine ⟨(xt z ap),?_⟩;(conv=>whnf);exact ⟨_,_,_,rfl,fun _=>⟨bm,a6.wide (Below.size (xt l z)) (Nat.le_refl _)⟩,xt (xt l z) ap⟩
 .have ai:CE xs ys f=([],BO [xs,ys] [] f):=by simp [CE,k]
  rw [ai];refine oV Tryz.func323 ?_;conv=>whnf
  refine AB.box ?_;intro bt ce b1 b9 am a3;(conv=>whnf);refine jA (n:=2) a3.cells rfl ?_;(conv=>whnf);refine bS Dm (vs:=[Value.slice a n c,Value.slice a2 n2 c2]) ?_;intro bw cl b4 cb ao a4;(conv=>whnf);refine dM (ah _ _ (xt am ao) a4.cells) fun co a7=>?_;(conv=>whnf);refine iT ?_;(conv=>whnf);exact ⟨_,_,_,rfl,om,(xt (xt am ao) a7)⟩
end Go.Proofs.YtalgenmoljcnmaaGreatDoor
namespace Go.M
open Go Go.Vc
theorem F6 {x:AF} (h:x.ok):UJ [false,false] x.enc:=by
 obtain ⟨a,b⟩:=h;exact ⟨_,_,rfl,a,⟨_,_,rfl,b,rfl⟩⟩
end Go.M
namespace Go.Proofs.YtalgenmoljcnmaaGreatDoor
open Go Go.RowKit Go.Vc Go.M
end Go.Proofs.YtalgenmoljcnmaaGreatDoor
