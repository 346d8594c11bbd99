/- Parts of the proof; no conditions of its own. -/
import Derived.Test.YtalgenmoljcnmaaGreatDoorVcPut
import Derived.Test.YtalgenmoljcnmaaGreatDoorModel
import Derived.Test.YtalgenmoljcnmaaGreatDoorStab
import Derived.Test.YtalgenmoljcnmaaGreatDoorFTotal
namespace Go.M
open Go Go.Vc
variable {α:Type} {xs ys d:List (List Int)} {f:AE} {lo n c b:Nat} {w:World} {a:Option Addr} {t:ByteArray}
theorem aI5 (a e:Bool):(!(a != e))=decide (a=e):=by cases a<;>cases e<;>rfl
theorem QY (d o:List (List Int)) (f:AE) (e:Bool):(d.filter fun x=>!(Kt o x f != e))=Cc d o f e:=by
 unfold Cc;congr 1;funext x;exact aI5 _ _
theorem XQ (h1:A2 xs=true) (h2:A2 ys=true) (f1:AR f (AJ xs)=true) (f2:AR f (AJ ys)=true) (hq:¬ (xs≠[]/\ys≠[]/\AJ xs≠AJ ys)) (h40:xs.length+ys.length<=40) :
  A2 (xs++ys)=true/\AR f (AJ (xs++ys))=true:=by
 cases xs with
 | nil=>exact ⟨h2,f2⟩
 | cons c xs =>
  cases ys with
  | nil=>rw [List.append_nil];exact ⟨h1,f1⟩
  | cons g ys =>
   have e:AJ (c :: xs)=AJ (g :: ys):=Decidable.byContradiction fun d=>hq ⟨sI,sI,d⟩;refine ⟨JE (W:=AJ (c :: xs)) (by rw [List.length_append];omega) fun b a=>?_,f1⟩;rcases List.mem_append.1 a with a | a
   .exact (Am h1).2 b a
   .rw [e];exact (Am h2).2 b a
theorem O3 {d:List (List Int)} {f:AE} {k i:Nat} {c:List Int} {ss:List Nat} (hi:(ss.map fun (s:Nat)=>(s:Int))[k]? = some (i:Int)) (hc:d[i]? = some c):((ss.map fun i=>d.getD i [])).take (k+1)=((ss.map fun i=>d.getD i [])).take k++[c]:=by
 have:(ss.map fun i=>d.getD i [])[k]? = some c:=by
  rw [List.getElem?_map] at hi ⊢;cases a:ss[k]? with
  | none=>rw [a] at hi;cases hi
  | some s =>
   rw [a] at hi;simp only [Option.map_some,Option.some.injEq] at hi;have:s=i:=om
   subst this;simp [List.getD_eq_getElem?_getD,hc]
 rw [List.take_add_one,this];rfl
theorem Bm.new {E:Ow α} {t:Nat} {xs:List α} (h:Bm E lo t w a n c xs):Ab lo a:=by
 obtain ⟨e,d,b,_,_⟩:=h;exact b.new
theorem ZV {hi:Nat} {p q:List Nat} (h:Fg lo hi p) (s:q.Sublist p):Fg lo hi q:=⟨h.1.sublist s,fun b a=>h.2 b (s.subset a)⟩
theorem R5 (t:ByteArray):(CW t).length=t.size:=by simp [CW]
theorem VP:(d.filter fun x=>!(decide (C6 f x t<0) || decide (0<C6 f x t)))=d.filter fun c=>decide (C6 f c t=0):=by
 congr 1;funext x;generalize C6 f x t=e;by_cases a:e<0
 .simp [a];omega
 .by_cases b:0<e
  .simp [a,b];omega
  .simp [a,b];omega
theorem Nt {l:List α} {p:α->Bool} (h:¬ (l.any fun x=>!p x)=true):∀ x∈l,p x=true:=by
 intro x b;cases a:p x
 .exact absurd (List.any_eq_true.2 ⟨x,b,by simp [a]⟩) h
 .rfl
theorem IA {ds:List (List (List Int))} {ts:List ByteArray} (h:BT ds ts f=0):(∀ d∈ds,A2 d=true)/\(∀ d∈ds,AR f (AJ d)=true)/\(∀ t∈ts,(t.size:Int)=f.to_ - f.from_)/\(∀ t∈ts,CR t=true)/\(∀ d∈ds,Dg d f=true):=by
 unfold BT at h;split at h
 .cases h
 rename_i a;split at h
 .cases h
 rename_i b;split at h
 .cases h
 rename_i c;split at h
 .cases h
 rename_i e;split at h
 .cases h
 rename_i g;exact ⟨Nt a,Nt b,fun t i=>of_decide_eq_true (Nt c t i),Nt e,Nt g⟩
theorem Wm (h:Ac AZ w a n xs) (hnc:n<=c) (C:AK w b 0 [.slice a n c]):Ac CA w (some ⟨b,0,none⟩) 1 [xs]:=by
 refine ⟨[⟨a,n,c⟩],⟨rfl,by unfold maxLen;omega,fun d i f=>?_⟩,rfl,fun d j i e g=>?_⟩
 .cases d with
  | zero=>simp at f;subst f;exact ⟨b,0,rfl,by simpa [eH] using C⟩
  | succ d=>simp at f
 .cases d with
  | zero=>simp at e g;subst e;subst g;exact ⟨h,hnc⟩
  | succ d=>simp at e
theorem Wl {a2:Option Addr} {n2 c2:Nat} (h:Ac AZ w a n xs) (hnc:n<=c) (h2:Ac AZ w a2 n2 ys) (hnc2:n2<=c2) (C:AK w b 0 [.slice a n c,.slice a2 n2 c2]):Ac CA w (some ⟨b,0,none⟩) 2 [xs,ys]:=by
 refine ⟨[⟨a,n,c⟩,⟨a2,n2,c2⟩],⟨rfl,by unfold maxLen;omega,fun d i f=>?_⟩,rfl,fun d j i e g=>?_⟩
 .cases d with
  | zero=>simp at f;subst f;exact ⟨b,0,rfl,by simpa [eH] using AK.take C 1⟩
  | succ d=>cases d with
   | zero=>simp at f;subst f;exact ⟨b,0,rfl,by simpa [eH] using AK.drop C 1⟩
   | succ d=>simp at f
 .cases d with
  | zero=>simp at e g;subst e;subst g;exact ⟨h,hnc⟩
  | succ d=>cases d with
   | zero=>simp at e g;subst e;subst g;exact ⟨h2,hnc2⟩
   | succ d=>simp at e
theorem aF3 {s:ByteArray} (C:AK w b 0 [.string s,.string t]):A4 eS 1 w (some ⟨b,0,none⟩) 2 [s,t]:=by
 refine ⟨rfl,by unfold maxLen;omega,fun c d a=>?_⟩;cases c with
 | zero=>simp at a;subst a;exact ⟨b,0,rfl,by simpa [eS] using AK.take C 1⟩
 | succ c=>cases c with
  | zero=>simp at a;subst a;exact ⟨b,0,rfl,by simpa [eS] using AK.drop C 1⟩
  | succ c=>simp at a
end Go.M
namespace Go.Proofs.YtalgenmoljcnmaaGreatDoor
open Go Go.RowKit Go.Vc Go.M
variable {w:World} {a a2:Option Addr} {n c b1 b2 b3 n2 c2:Nat} {xs ys:List (List Int)} {d:Hd} {x y:List Int} {f:AE} {t:ByteArray}
theorem FZ (h:Ac AZ w a n xs) (hn2:n<=1000) (hx:∀ x∈xs,x.length<=1000) :
  Dq 112 [.slice a n c] w (fun v w'=>∃ a' c',v = .slice a' n c'/\n<=c'/\Bm Aw w.heap.size 144 w' a' n c' xs/\Ab w.heap.size a'/\AD w w'):=by
 have bh:=h.len;have bg:=h.le;obtain ⟨az,u,av⟩:=h;have bf:=u.len;refine oV Tryz.func112 ?_;refine bS Bz (vs:=[]) ?_;intro am a6 au bn aq af;have aj:Bm Aw w.heap.size 144 a6 (some ⟨am,0,none⟩) 0 0 []:=EO af au;refine lR [3,7,8,9] (fun (b:Nat) a2 w'=>∃ p q,a2=[.slice p b q,.slice a n c,.int .i64 n,.int .i64 b]/\b<=n/\Bm Aw w.heap.size 144 w' p b q (xs.take b)/\AD w w') (fun b=>n - b) 0 ⟨_,_,rfl,om,by simpa using aj,aq⟩ ?_;rintro b bb _ a3 ⟨p,q,rfl,be,e,g⟩;rcases Nat.lt_or_ge b n with ay | ay
 .obtain ⟨d,y⟩:=AA (l:=az) (k:=b) om;obtain ⟨ab,aa,o⟩:=av.get y;have bj:=o.1.len;have bi:=hx ab (List.mem_of_getElem? aa);have aw:∀ f,AD w f->Dq 181 [.agg ⟨eH d⟩] f (fun v w'=>∃ a' c',v = .agg ⟨eH ⟨a',d.n,c'⟩⟩/\Ab f.heap.size a'/\An eI 1 f.heap.size 2 w' a' d.n c' ab/\AD f w'):=fun f ao=>Hb ⟨o.1.ext ao,o.2⟩ om;refine iY<|jI (u.ext g) b rfl y fun a8 bo bd ax=>jA (n:=1) ax rfl<|jN (z := .agg #[.slice none 0 0]) fun a9 bp ar bl ap ac=>jS (vs:=[Value.slice d.a d.n d.c]) ac rfl rfl cE fun a4 an ad=>jA (n:=1) ad.cells rfl ?_;have i:AD a3 a4:=xb ap an.but ar;refine (aw _ (xt g i)).mono ?_;rintro _ bq ⟨r,s,rfl,ak,m,t⟩;refine AB.buildSlice Bz (vs:=[Value.agg ⟨eH ⟨r,d.n,s⟩⟩]) rF rF (by simp [Value.cells,eH]) dE ?_;intro al a5 bc bm j ae;have ag:AK a5 al 0 (eH ⟨r,d.n,s⟩):=ae.cells;have a0:=Below.size (xt g i);have ah:=e.ext i;refine Cb Bz rfl ah a0 (xt t j) (FR ((m.ext j).own) m.le.1) (DB ak (fun x hx=>Nat.lt_of_lt_of_le (m.lt x hx) j.size)) ag om om fun a7 ba br ai a1 bk=>jP (((b+1:Nat):Int)) ⟨b+1,om,_,_,rfl,om,by rw [List.take_add_one,aa];exact ai,xm (xt (xt (xt g i) t) j) a1 (AQ (Bm.new e))⟩
 .obtain rfl:b=n:=om
  rw [List.take_of_length_le om] at e;exact iN ⟨_,_,rfl,e.le.1,e,Bm.new e,g⟩
theorem Qz {d':Hd} (R:AZ w d x) (R':AZ w d' y) (hf:AR f x.length=true) (hf':AR f y.length=true) (C1:AK w b1 0 [.slice d'.a d'.n d'.c]) (C2:AK w b2 0 f.enc) :
  Dq 357 [.agg ⟨eH d⟩,.pointer (some ⟨b1,0,none⟩),.pointer (some ⟨b2,0,none⟩)] w (fun v w'=>v = .bool (decide (CY (AS f x) (AS f y)=0))/\AD w w'):=by
 have m:=RX (AS f x) (AS f y);have j:∀ e,AD w e->Dq 275 [.agg ⟨eH d⟩,.agg ⟨eH d'⟩,.agg ⟨f.enc⟩] e (fun v w'=>v = .int .i64 (CY (AS f x) (AS f y))/\AD e w'):=fun e g=>Ez ⟨R.1.ext g,R.2⟩ ⟨R'.1.ext g,R'.2⟩ hf hf';refine oV Tryz.func357 ?_;refine AB.box ?_;intro k p l o b h;refine jA (n:=1) h.cells rfl<|jA (n:=1) (C1.ext b) rfl<|jA (n:=2) (C2.ext b) rfl<|dM (j _ b) fun q i=>?_;exact ⟨rfl,(xt b i)⟩
theorem Sb (h:Ac AZ w a n xs) (R:AZ w d y) (hf:∀ x∈xs,AR f x.length=true) (hf':AR f y.length=true) :
  Dq 347 [.slice a n c,.agg ⟨eH d⟩,.agg ⟨f.enc⟩] w (fun v w'=>v = .bool (Kt xs y f)/\AD w w'):=by
 unfold Kt;refine oV Tryz.func347 ?_;refine AB.box ?_;intro m ad u aa g j;refine AB.box ?_;intro s r z ab e k;have l:AK r m 0 [.slice d.a d.n d.c]:=(j.ext e).cells;exact dM (HD (h.ext (xt g e)) (p:=fun x=>decide (CY (AS f x) (AS f y)=0)) (fun t x q i ac b=>Qz ⟨i.1.ext b,i.2⟩ ⟨R.1.ext (xt (xt g e) b),R.2⟩ (hf x q) hf' (l.ext b) (k.cells.ext b))) fun ae o=>⟨rfl,xt (xt g e) o⟩
theorem M8 (h:Ac AZ w a n xs) (R:AZ w d y) (hf:∀ x∈xs,AR f x.length=true) (hf':AR f y.length=true) {e:Bool}
  (C1:AK w b1 0 [.slice a n c]) (C2:AK w b2 0 f.enc) (C3:AK w b3 0 [.bool e]) :
  Dq 346 [.agg ⟨eH d⟩,.pointer (some ⟨b1,0,none⟩),.pointer (some ⟨b2,0,none⟩),.pointer (some ⟨b3,0,none⟩)] w (fun v w'=>v = .bool (Kt xs y f != e)/\AD w w'):=by
 have m:∀ g,AD w g->Dq 347 [.slice a n c,.agg ⟨eH d⟩,.agg ⟨f.enc⟩] g (fun v w'=>v = .bool (Kt xs y f)/\AD g w'):=fun g e=>Sb (h.ext e) ⟨R.1.ext e,R.2⟩ hf hf';refine oV Tryz.func346 ?_;refine AB.box fun o r p q b l=>dH (pB [0,2,4,8,7,11,13]) ?_;intro s i;refine dL (C1.ext b) (k:=0) rfl<|dA (n:=1) l.cells rfl<|dA (n:=2) (C2.ext b) rfl<|dL (C3.ext b) (k:=0) rfl<|dM (m _ (xt b i)) fun t j=>?_;exact ⟨(xt i j),Sx kR ⟨rfl,(xt (xt b i) j)⟩⟩
theorem JC {b:Nat} (h:Ac AZ w a n xs) (h2:Ac AZ w a2 n2 ys) (hf:∀ x∈xs,AR f x.length=true) (hf2:∀ x∈ys,AR f x.length=true) (hn2:n<=1000) (hx:∀ x∈xs,x.length<=1000) (e:Bool) (C2:AK w b 0 f.enc) :
  Dq 344 [.slice a n c,.slice a2 n2 c2,.bool e,.pointer (some ⟨b,0,none⟩)] w (fun v w'=>∃ a' m c',v = .slice a' m c'/\m<=c'/\Dl Aw w' w.heap.size w'.heap.size a' m 144 (Cc xs ys f e)/\AD w w'):=by
 refine oV Tryz.func344 ?_;refine AB.box ?_;intro ah a3 au az t ab;refine AB.box fun ai o av a0 j ac=>(FZ (h.ext (xt t j)) hn2 hx).mono ?_;rintro _ a4 ⟨s,ap,rfl,al,af,r,k⟩;have q:=xt t j;have i:=xt q k;obtain ⟨ar,ak,u⟩:=af.ownN;have ay:=q.size;have l:∀ d,AL s d->w.heap.size<=d:=fun d ⟨x,hx,am⟩=>by have:=r x hx;omega
 have aa:∀ d,AL s d->o.heap.size<=d:=fun d ⟨x,hx,am⟩=>by have:=r x hx;omega
 have ad:AK o ah 0 [.slice a2 n2 c2]:=(ab.ext j).cells;have ae:AK o ai 0 [.bool e]:=ac.cells;refine (H0 ak u.1 al (p:=fun x=>Kt ys x f != e) (fun a1 g aq x ao ag=>M8 (h2.ext (xm i g l)) ag hf2 (hf x ao) (ad.ext (xm k g aa)) (C2.ext (xm i g l)) (ae.ext (xm k g aa)))).mono ?_;rintro _ a5 ⟨m,aj,rfl,aw,ax,z,an,y⟩;rw [QY] at z;exact ⟨_,_,_,rfl,om,⟨aj,z,(ZV u an).wide om y.size⟩,xm i y l⟩
theorem OC (R:AZ w d x) (hf:AR f x.length=true) (hx:x.length<=20) (ht:CR t=true) (htl:(t.size:Int)=f.to_ - f.from_) :
  Dq 356 [.agg ⟨eH d⟩,.agg ⟨f.enc⟩,.string t] w (fun v w'=>v = .int .i64 (C6 f x t)/\AD w w'):=by
 have r:=Bc hf;have ae:=R.1.len;obtain ⟨n,s⟩:=R;obtain ⟨l,m⟩:=f;simp only at r htl;obtain ⟨a,rfl⟩:∃ a:Nat,l=a:=⟨l.toNat,om⟩;obtain ⟨b,rfl⟩:∃ b:Nat,m=b:=⟨m.toNat,om⟩;have u:t.size=b - a:=om
 unfold C6 AS Ad;simp only [Int.toNat_natCast];refine oV Tryz.func356 ?_;refine AB.box ?_;intro z ai ac af i p;refine AB.box fun aa ak ad ag h g=>dH (pB [0,2,4,6,8,10,12,14,16,18,20,22,24,27,29,31,33]) ?_;intro al c;refine dL (p.ext h).cells (k:=0) rfl<|dL g.cells (k:=0) rfl<|dL g.cells (k:=1) rfl<|BQ.slice (k := .i64) (k' := .i64) kR (n.ext (xt i h)) a b om om s (.inr rF) (.inr rF) fun y o=>dL g.cells (k:=1) rfl<|dL g.cells (k:=0) rfl<|BQ.sub (((b - a:Nat):Int)) (by first | (show (b:Int) - (a:Int)=_;omega) | (show _=(b:Int) - (a:Int);omega)) om om<|(Kl ht u om _).mono ?_;rintro _ am ⟨ab,rfl,ah,q,e⟩;exact ⟨(xt c e),AB.field 0 kR rfl ⟨(xt c e),dM (IX (o.ext (xt c e)) (q.own.arr AI)) fun aj j=>⟨(xt (xt c e) j),⟨rfl,(xt (xt (xt (xt i h) c) e) j)⟩⟩⟩⟩
theorem LR (R:AZ w d x) (hf:AR f x.length=true) (hx:x.length<=20) (ht:CR t=true) (htl:(t.size:Int)=f.to_ - f.from_) (C1:AK w b1 0 f.enc) (C2:AK w b2 0 [.string t]) (C3:AK w b3 0 [.string t]) :
  Dq 355 [.agg ⟨eH d⟩,.pointer (some ⟨b1,0,none⟩),.pointer (some ⟨b2,0,none⟩),.pointer (some ⟨b3,0,none⟩)] w (fun v w'=>v = .bool (decide (C6 f x t<0) || decide (0<C6 f x t))/\AD w w'):=by
 have o : -1<=C6 f x t/\C6 f x t<=1:=RX _ _;have g:∀ c,AD w c->Dq 356 [.agg ⟨eH d⟩,.agg ⟨f.enc⟩,.string t] c (fun v w'=>v = .int .i64 (C6 f x t)/\AD c w'):=fun c h=>OC ⟨R.1.ext h,R.2⟩ hf hx ht htl;refine oV Tryz.func355 ?_;refine AB.box ?_;intro l q m p a e;refine jA (n:=1) e.cells rfl<|jA (n:=2) (C1.ext a) rfl<|jL (C2.ext a) (k:=0) rfl<|dM (g _ a) fun r b=>AF (fun j=>?_) fun j=>?_
 .exact ⟨by simp [*],(xt a b)⟩
 .exact jA (n:=1) (e.ext b).cells rfl<|jA (n:=2) (C1.ext (xt a b)) rfl<|jL (C3.ext (xt a b)) (k:=0) rfl<|dM (g _ (xt a b)) fun s i=>⟨by simp [*],(xt (xt a b) i)⟩
theorem MJ (h:Ac AZ w a n xs) (hfo:f.ok) (hts:t.size<=1048576) (hnc:n<=c) :
  Dq 343 [.slice a n c,.agg ⟨f.enc⟩,.string t,.string t] w (fun v w'=>∃ a' m c',v = .tuple #[.slice a' m c',.int .i64 (Cw xs f t).2]/\((Cw xs f t).2=0->m<=c'/\Dl Aw w' w.heap.size w'.heap.size a' m 144 (Cw xs f t).1)/\AD w w'):=by
 have ag:∀ g ac j,AD w g->AK g ac 0 [.slice a n c]->AK g j 0 [.string t,.string t]->Dq 341 [.agg ⟨f.enc⟩,.bool true,.slice (some ⟨j,0,none⟩) 2 2,.slice (some ⟨ac,0,none⟩) 1 1] g (fun v w'=>v = .int .i64 (BT [xs] [t,t] f)/\AD g w'):=fun g ac j bd x y =>
  Fc (Wm (h.ext bd) hnc x) (aF3 y) sI (by simp [hts]) hfo
 have ce:=h.len;by_cases s:BT [xs] [t,t] f=0
 .have ai:Cw xs f t=(xs.filter fun c=>decide (C6 f c t=0),0):=by simp [Cw,s]
  obtain ⟨bk,bl,bq,bj,_⟩:=IA s;have a0:=Am (bk xs sI);have bm:∀ b∈xs,AR f b.length=true:=fun b d=>by rw [(a0.2 b d).2];exact bl xs sI
  have aw:∀ b∈xs,b.length<=20:=fun b d=>(Bp (a0.2 b d).1).2.1;rw [ai];rw [s] at ag;refine oV Tryz.func343 ?_;refine AB.box ?_;intro ba cv b' cm au ak;refine AB.box fun bb cw ca cn o al=>AB.box fun bc cx cb co i am=>jA (n:=2) (ak.ext (xt o i)).cells rfl<|jL (al.ext i).cells (k:=0) rfl<|jL am.cells (k:=0) rfl ?_;refine bS BK (vs:=[Value.string t,Value.string t]) ?_;intro b1 cy bh cp ae an;have bw:=AH (n:=2) (enc:=eS) (xs:=[t,t]) AP an bh rfl dE;refine bS EA (vs:=[Value.slice a n c]) fun b2 cz cc cq q a4=>dM (ag _ _ _ (xt (xt (xt (xt au o) i) ae) q) a4.cells (an.ext q).cells) fun u av=>?_;have a8:=xt (xt au o) i;have z:=xt (xt (xt a8 ae) q) av;have aa:=xt (xt ae q) av;have x:AK u ba 0 f.enc:=(ak.ext (xt (xt o i) aa)).cells;have y:AK u bb 0 [.string t]:=(al.ext (xt i aa)).cells;have a6:AK u bc 0 [.string t]:=(am.ext aa).cells;refine (FZ (h.ext z) om (fun b d=>by have:=aw b d;omega)).mono ?_;rintro _ c0 ⟨ap,b4,rfl,br,bt,ao,r⟩;have a7:=xt z r;obtain ⟨b6,bi,ax⟩:=bt.ownN;have ch:=z.size;have bo:∀ e,AL ap e->w.heap.size<=e:=fun e ⟨b,d,bn⟩=>by have:=ao b d;omega
  have ah:∀ e,AL ap e->u.heap.size<=e:=fun e ⟨b,d,bn⟩=>by have:=ao b d;omega
  refine (H0 bi ax.1 br (p:=fun b=>decide (C6 f b t<0) || decide (0<C6 f b t)) (fun g ab b5 b d a9=>LR a9 (bm b d) (aw b d) (bj t sI) (bq t sI) (x.ext (xm r ab ah)) (y.ext (xm r ab ah)) (a6.ext (xm r ab ah)))).mono ?_;rintro _ bu ⟨m,bf,rfl,cf,cg,az,bp,ay⟩;rw [VP] at az;exact ⟨_,_,_,rfl,fun _=>⟨om,⟨bf,az,(ZV ax bp).wide om ay.size⟩⟩,xm a7 ay bo⟩
 .have ai:Cw xs f t=([],BT [xs] [t,t] f):=by simp [Cw,s]
  rw [ai];refine oV Tryz.func343 ?_;refine AB.box ?_;intro bx cs b7 ci aq a1;refine AB.box fun j ct b8 cj ad a2=>AB.box fun bz cu b9 ck l a3=>jA (n:=2) (a1.ext (xt ad l)).cells rfl<|jL (a2.ext l).cells (k:=0) rfl<|jL a3.cells (k:=0) rfl ?_;refine bS BK (vs:=[Value.string t,Value.string t]) ?_;intro b0 bu bg cl ar aj;have bv:=AH (n:=2) (enc:=eS) (xs:=[t,t]) AP aj bg rfl dE;exact bS EA (vs:=[Value.slice a n c]) fun b3 c1 cd cr af a5=>dM (ag _ _ _ (xt (xt (xt (xt aq ad) l) ar) af) a5.cells (aj.ext af).cells) fun c2 be=>iT ⟨_,_,_,rfl,om,(xt (xt (xt (xt (xt aq ad) l) ar) af) be)⟩
theorem OE (h:Ac AZ w a n xs) (hfo:f.ok) (hts:t.size<=1048576) (hnc:n<=c) :
  Dq 324 [.slice a n c,.agg ⟨f.enc⟩,.string t] w (fun v w'=>∃ a' m c',v = .tuple #[.slice a' m c',.int .i64 (Cw xs f t).2]/\((Cw xs f t).2=0->m<=c'/\Dl Aw w' w.heap.size w'.heap.size a' m 144 (Cw xs f t).1)/\AD w w'):=by
 refine oV Tryz.func324 ?_;refine AB.box ?_;intro k r o p b g;refine jA (n:=2) g.cells rfl<|(MJ (h.ext b) hfo hts hnc).mono ?_;rintro _ s ⟨j,q,l,rfl,e,i⟩;refine ⟨_,_,_,rfl,?_,(xt b i)⟩
 .exact fun d=>⟨(e d).1,(e d).2.wide (Below.size b) (Nat.le_refl _)⟩
theorem Sg (h:Ac AZ w a n xs) (f:AE) :
  Dq 322 [.slice a n c,.agg ⟨f.enc⟩] w (fun v w'=>∃ a' m c',v = .tuple #[.slice a' m c',.int .i64 (GD xs f).2]/\((GD xs f).2=0->m<=c'/\Dl Aw w' w.heap.size w'.heap.size a' m 144 (GD xs f).1)/\AD w w'):=by
 have i:∀ e,AD w e->Dq 138 [.slice a n c,.agg ⟨f.enc⟩] e (fun v w'=>v = .int .i64 (Bu xs f).2/\AD e w'):=fun e l=>Lj (h.ext l) f;rcases MG xs f with ⟨t,j,z⟩ | ⟨ab,ac,ag,j⟩
 .have aa:t≠0:=om
  have p:GD xs f=([],t):=by simp [GD,j,aa]
  rw [p];rw [j] at i;rcases z with rfl | rfl | rfl
  .refine oV Tryz.func322 ?_;refine AB.box ?_;intro k r o q b g;refine jA (n:=2) g.cells rfl<|dM (i _ b) fun s d=>?_;exact ⟨_,_,_,rfl,om,(xt b d)⟩
  .refine oV Tryz.func322 ?_;refine AB.box ?_;intro k r o q b g;refine jA (n:=2) g.cells rfl<|dM (i _ b) fun s d=>?_;exact ⟨_,_,_,rfl,om,(xt b d)⟩
  .refine oV Tryz.func322 ?_;conv=>whnf
   exact AB.box fun k r o q b g=>jA (n:=2) g.cells rfl<|dM (i _ b) fun s d=>⟨_,_,_,rfl,om,(xt b d)⟩
 .have p:GD xs f=(K8 xs f,0):=by simp [GD,j]
  rw [p];rw [j] at i;have y:∀ e,AD w e->Dq 140 [.slice a n c,.agg ⟨f.enc⟩] e (fun v w'=>∃ a' c',v = .slice a' n c'/\n<=c'/\Dl Aw w' e.heap.size w'.heap.size a' n 144 (K8 xs f)/\AD e w'):=fun e l=>It (h.ext l) ab ac;refine oV Tryz.func322 ?_;refine AB.box ?_;intro k r o q b g;refine jA (n:=2) g.cells rfl<|dM (i _ b) fun s d=>jA (n:=2) (g.ext d).cells rfl<|(y _ (xt b d)).mono ?_;rintro _ ah ⟨ae,af,rfl,ad,u,x⟩;refine ⟨_,_,_,rfl,?_,(xt (xt b d) x)⟩
  .exact fun _=>⟨ad,u.wide (Below.size (xt b d)) (Nat.le_refl _)⟩
theorem Pb (h:Ac AZ w a n xs) (h2:Ac AZ w a2 n2 ys) (hfo:f.ok) (hnc:n<=c) (hnc2:n2<=c2) :
  Dq 326 [.slice a n c,.slice a2 n2 c2,.agg ⟨f.enc⟩] w (fun v w'=>∃ a' m c',v = .tuple #[.slice a' m c',.int .i64 (CX xs ys f)]/\(CX xs ys f=0->∃ b d0 d1 d2 d3,a'=some ⟨b,0,none⟩/\m=4/\c'=4/\AK w' b 0 (Al eH [d0,d1,d2,d3])/\d0.n<=d0.c/\d2.n<=d2.c/\Dl Aw w' w.heap.size w'.heap.size d0.a d0.n 144 (Cc xs ys f true)/\Dl Aw w' w.heap.size w'.heap.size d2.a d2.n 144 (Cc xs ys f false))/\AD w w'):=by
 have x:∀ d b,AD w d->AK d b 0 [.slice a n c,.slice a2 n2 c2]->Dq 341 [.agg ⟨f.enc⟩,.bool true,.slice none 0 0,.slice (some ⟨b,0,none⟩) 2 2] d (fun v w'=>v = .int .i64 (BT [xs,ys] [] f)/\AD d w'):=fun d b k bk =>
  Fc (Wl (h.ext k) hnc (h2.ext k) hnc2 bk) A4.nil sI sI hfo
 have b3:=h.len;have b4:=h2.len;unfold CX;by_cases ab:BT [xs,ys] [] f=0
 .obtain ⟨z,aa,_,_,_⟩:=IA ab;have a3:=Am (z xs sI);have a4:=Am (z ys sI);have a5:∀ l∈xs,AR f l.length=true:=fun l s=>by rw [(a3.2 l s).2];exact aa xs sI
  have a6:∀ l∈ys,AR f l.length=true:=fun l s=>by rw [(a4.2 l s).2];exact aa ys sI
  have bp:∀ l∈xs,l.length<=1000:=fun l s=>by have:=(Bp (a3.2 l s).1).2.1;omega
  have bq:∀ l∈ys,l.length<=1000:=fun l s=>by have:=(Bp (a4.2 l s).1).2.1;omega
  have ae:∀ d,AD w d->Dq 342 [.slice a n c,.agg ⟨f.enc⟩] d (fun v w'=>v = .bool (GQ xs f)/\AD d w'):=fun d k=>Fb (h.ext k) (z xs sI) (aa xs sI);have az:∀ d,AD w d->Dq 342 [.slice a2 n2 c2,.agg ⟨f.enc⟩] d (fun v w'=>v = .bool (GQ ys f)/\AD d w'):=fun d k=>Fb (h2.ext k) (z ys sI) (aa ys sI);have a0:∀ d b k,AD w d->AK d b 0 f.enc->Dq 344 [.slice a n c,.slice a2 n2 c2,.bool k,.pointer (some ⟨b,0,none⟩)] d (fun v w'=>∃ a' m c',v = .slice a' m c'/\m<=c'/\Dl Aw w' d.heap.size w'.heap.size a' m 144 (Cc xs ys f k)/\AD d w'):=fun d b k u ac=>JC (h.ext u) (h2.ext u) a5 a6 om bp k ac;have a1:∀ d b k,AD w d->AK d b 0 f.enc->Dq 344 [.slice a2 n2 c2,.slice a n c,.bool k,.pointer (some ⟨b,0,none⟩)] d (fun v w'=>∃ a' m c',v = .slice a' m c'/\m<=c'/\Dl Aw w' d.heap.size w'.heap.size a' m 144 (Cc ys xs f k)/\AD d w'):=fun d b k u ac=>JC (h2.ext u) (h.ext u) a6 a5 om bq k ac;rw [ab] at x;rw [if_neg (by simp [ab])];cases b5:GQ xs f
  .rw [if_pos (.inl rfl)];refine oV Tryz.func326 ?_;refine AB.box ?_;intro al bd ax a7 i o;refine jA (n:=2) o.cells rfl ?_;refine bS EA (vs:=[Value.slice a n c,Value.slice a2 n2 c2]) fun am be ay a8 e t=>dM (x _ _ (xt i e) t.cells) fun bf g=>jA (n:=2) (o.ext (xt e g)).cells rfl<|dM (ae _ (xt (xt i e) g)) fun bg j=>?_;refine iT ?_;exact ⟨_,_,_,rfl,om,(xt (xt (xt i e) g) j)⟩
  .cases b6:GQ ys f
   .rw [if_pos (.inr rfl)];refine oV Tryz.func326 ?_;refine AB.box ?_;intro al bd ax a7 i o;refine jA (n:=2) o.cells rfl ?_;refine bS EA (vs:=[Value.slice a n c,Value.slice a2 n2 c2]) fun am be ay a8 e t=>dM (x _ _ (xt i e) t.cells) fun bf g=>jA (n:=2) (o.ext (xt e g)).cells rfl<|dM (ae _ (xt (xt i e) g)) fun bg j=>?_;refine iF<|jA (n:=2) (o.ext (xt (xt e g) j)).cells rfl<|dM (az _ (xt (xt (xt i e) g) j)) fun bu p=>?_;refine iT ?_;exact ⟨_,_,_,rfl,om,(xt (xt (xt (xt i e) g) j) p)⟩
   .rw [if_neg sI];refine oV Tryz.func326 ?_;refine AB.box ?_;intro al bd ax a7 i o;refine jA (n:=2) o.cells rfl ?_;refine bS EA (vs:=[Value.slice a n c,Value.slice a2 n2 c2]) fun am be ay a8 e t=>dM (x _ _ (xt i e) t.cells) fun bf g=>jA (n:=2) (o.ext (xt e g)).cells rfl<|dM (ae _ (xt (xt i e) g)) fun bg j=>?_;refine iF<|jA (n:=2) (o.ext (xt (xt e g) j)).cells rfl<|dM (az _ (xt (xt (xt i e) g) j)) fun bu p=>?_;refine iF<|(a0 _ _ _ (xt (xt (xt (xt i e) g) j) p) (o.ext (xt (xt (xt e g) j) p)).cells).mono ?_;rintro _ cd ⟨ah,a9,an,rfl,br,bl,q⟩;refine (a1 _ _ _ (xt (xt (xt (xt (xt i e) g) j) p) q) (o.ext (xt (xt (xt (xt e g) j) p) q)).cells).mono ?_;rintro _ ce ⟨ai,ba,ao,rfl,b',bv,r⟩;refine (a0 _ _ _ (xt (xt (xt (xt (xt (xt i e) g) j) p) q) r) (o.ext (xt (xt (xt (xt (xt e g) j) p) q) r)).cells).mono ?_;rintro _ cf ⟨aj,bb,ap,rfl,bt,bm,y⟩;refine (a1 _ _ _ (xt (xt (xt (xt (xt (xt (xt i e) g) j) p) q) r) y) (o.ext (xt (xt (xt (xt (xt (xt e g) j) p) q) r) y)).cells).mono ?_;rintro _ cg ⟨ak,bc,aq,rfl,ca,bw,av⟩;refine bS EA (vs:=[Value.slice ah a9 an,Value.slice ai ba ao,Value.slice aj bb ap,Value.slice ak bc aq]) fun bn ch b2 b9 aw bj=>⟨_,_,_,rfl,?_,(xt (xt (xt (xt (xt (xt (xt (xt (xt i e) g) j) p) q) r) y) av) aw)⟩
    .have af:=xt (xt (xt (xt i e) g) j) p;have ad:=xt av aw;have ag:=xt (xt r y) ad;exact fun _=>⟨bn,⟨ah,a9,an⟩,⟨ai,ba,ao⟩,⟨aj,bb,ap⟩,⟨ak,bc,aq⟩,rfl,rfl,rfl,bj.cells,br,bt,(bl.ext ag).wide (Below.size af) (Below.size ag),(bm.ext ad).wide (Below.size (xt (xt af q) r)) (Below.size ad)⟩
 .rw [if_pos ab];refine oV Tryz.func326 ?_;refine AB.box ?_;intro bx cb b0 b7 ar bh;refine jA (n:=2) bh.cells rfl ?_;refine bS EA (vs:=[Value.slice a n c,Value.slice a2 n2 c2]) fun bz cc b1 b8 au bi=>dM (x _ _ (xt ar au) bi.cells) fun ci bo=>?_;refine iT ?_;exact ⟨_,_,_,rfl,om,(xt (xt ar au) bo)⟩
theorem MK (h:Ac AZ w a n xs) (hfo:f.ok) (hnc:n<=c) :
  Dq 325 [.slice a n c,.agg ⟨f.enc⟩] w (fun v w'=>∃ a' m c',v = .tuple #[.slice a' m c',.int .i64 (EK xs f).2]/\((EK xs f).2=0->m<=c'/\Dl Aw w' w.heap.size w'.heap.size a' m 144 (EK xs f).1)/\AD w w'):=by
 have ao:∀ d ah,AD w d->AK d ah 0 [.slice a n c]->Dq 341 [.agg ⟨f.enc⟩,.bool true,.slice none 0 0,.slice (some ⟨ah,0,none⟩) 1 1] d (fun v w'=>v = .int .i64 (BT [xs] [] f)/\AD d w'):=fun d ah t bg =>
  Fc (Wm (h.ext t) hnc bg) A4.nil sI sI hfo
 have b6:=h.len;have cy:=h.le;by_cases ad:BT [xs] [] f=0
 .have aq:EK xs f=((A0 (xs.map (AS f))).map fun i=>xs.getD i [],0):=by simp [EK,ad]
  obtain ⟨b0,b1,_,_,_⟩:=IA ad;have ap:=Am (b0 xs sI);have cs:=ap.1;have b3:∀ b∈xs,AR f b.length=true:=fun b g=>by rw [(ap.2 b g).2];exact b1 xs sI
  have bt:∀ b∈xs,b.length<=20:=fun b g=>(Bp (ap.2 b g).1).2.1;rw [aq];rw [ad] at ao;have p:∀ d,AD w d->Dq 224 [.slice a n c,.agg ⟨f.enc⟩] d (fun v w'=>∃ a' m c',v = .slice a' m c'/\Ab d.heap.size a'/\Bs eI w' a' m 2 (CF (xs.map (AS f)) n)/\AD d w'):=fun d t=>Ln (h.ext t) b3 om;have ba:CF (xs.map (AS f)) n=(A0 (xs.map (AS f))).map fun (q:Nat)=>(q:Int):=by
   unfold CF A0;rw [List.length_map,b6]
  have br:=h;obtain ⟨b8,a5,bu⟩:=br;have cw:=a5.len;refine oV Tryz.func325 ?_;refine AB.box ?_;intro ch dc cp c3 ak ax;refine jA (n:=2) ax.cells rfl ?_;refine bS EA (vs:=[Value.slice a n c]) fun ci dd cq c4 aa bd=>dM (ao _ _ (xt ak aa) bd.cells) fun aw al=>?_;refine bS Bz (vs:=[]) fun ai ca bq c5 ab be=>jA (n:=2) (ax.ext (xt (xt aa al) ab)).cells rfl<|(p _ (xt (xt (xt ak aa) al) ab)).mono ?_;rintro _ df ⟨r,j,bo,rfl,bl,y,a2⟩;(conv=>whnf);have ae:=xt (xt ak aa) al;have cd:=xt ae ab;have bk:Bm Aw aw.heap.size 144 ca (some ⟨ai,0,none⟩) 0 0 []:=EO be bq;have bi:=bk.ext a2;rw [ba] at y;have b7:=y.1;have cx:j<=n:=by
   have:=HB (xs.map (AS f)) n;rw [ba] at this;omega
  have bw:K6 (some ⟨ai,0,none⟩) r:=by
   intro x ac a9;obtain ⟨b,g,a8⟩:=a9;cases g
   have:=bl x ac;have a8:x.block=ai:=a8;omega
  refine lR [0,7,20,21,22] (fun (e:Nat) b' w'=>∃ z aj,b'=[.slice a n c,.slice z e aj,.slice r j bo,.int .i64 j,.int .i64 e]/\e<=j/\Bm Aw aw.heap.size 144 w' z e aj (((A0 (xs.map (AS f))).map fun i=>xs.getD i []).take e)/\A4 eI 1 w' r j ((A0 (xs.map (AS f))).map fun (q:Nat)=>(q:Int))/\K6 z r/\AD aw w'/\(∀ b,r=some b->b.block<w'.heap.size)) (fun e=>j - e) 0 ⟨_,_,rfl,om,by simpa using bi,y.arr AI,bw,xt ab a2,fun b g=>y.lt b g⟩ ?_;rintro e cm _ da ⟨z,aj,rfl,a9,p,a3,a6,am,a4⟩;have an:=xt ae am;rcases Nat.lt_or_ge e j with b5 | b5
  .obtain ⟨cc,au⟩:=AA (l:=(A0 (xs.map (AS f))).map fun (q:Nat)=>(q:Int)) (k:=e) om;obtain ⟨i,b4,cv⟩:∃ i:Nat,cc=i/\i<n:=by
    have:=List.mem_of_getElem? au;obtain ⟨q,ar,rfl⟩:=List.mem_map.1 this;have:=(Gq.1 ar).1;rw [List.length_map] at this;exact ⟨q,rfl,om⟩
   subst b4;obtain ⟨s,a7⟩:=AA (l:=b8) (k:=i) om;obtain ⟨x,ac,ag⟩:=bu.get a7;have b2:=O3 (f:=f) au ac;have cz:=bt x (List.mem_of_getElem? ac);have c0:=ag.1.len;have bv:∀ d,AD w d->Dq 181 [.agg ⟨eH s⟩] d (fun v w'=>∃ a' c',v = .agg ⟨eH ⟨a',s.n,c'⟩⟩/\Ab d.heap.size a'/\An eI 1 d.heap.size 2 w' a' s.n c' x/\AD d w'):=fun d t=>Hb ⟨ag.1.ext t,ag.2⟩ om;refine iY<|jI a3 e rfl au fun cj c7 ct bx=>jO bx rfl<|jI (a5.ext an) i rfl a7 fun ck c8 cu bz=>jA (n:=1) bz rfl<|(bv _ an).mono ?_;rintro _ dg ⟨ay,az,rfl,bm,af,u⟩;refine AB.buildSlice Bz (vs:=[Value.agg ⟨eH ⟨ay,s.n,az⟩⟩]) rF rF (by simp [Value.cells,eH]) dE ?_;intro bn cb cr c6 o bf;have bh:AK cb bn 0 (eH ⟨ay,s.n,az⟩):=bf.cells;have ar:=am.size;refine Cb Bz rfl p ar (xt u o) (FR ((af.ext o).own) af.le.1) (DB bm (fun b g=>Nat.lt_of_lt_of_le (af.lt b g) o.size)) bh om om fun ce cl dh bj av b9=>jP (((e+1:Nat):Int)) ⟨e+1,om,_,_,rfl,om,by rw [b2];exact bj,(a3.ext (xt u o)).mod av a6,?_,xm (xt (xt am u) o) av (AQ (Bm.new p)),fun b g=>by have:=a4 b g;have:=u.size;have:=o.size;have:=av.size;omega⟩;exact K6.app a6 b9 (fun b g=>by
    have:=a4 b g;have:=u.size;have:=o.size;omega)
  .obtain rfl:e=j:=om
   rw [List.take_of_length_le (by simp at b7 ⊢;omega)] at p;exact iN ⟨_,_,_,rfl,fun _=>⟨p.le.1,p.ownN.wide (Below.size ae) (Nat.le_refl _)⟩,an⟩
 .have aq:EK xs f=([],BT [xs] [] f):=by simp [EK,ad]
  rw [aq];refine oV Tryz.func325 ?_;refine AB.box ?_;intro cf c9 cn c1 a0 bb;refine jA (n:=2) bb.cells rfl ?_;refine bS EA (vs:=[Value.slice a n c]) fun cg db co c2 a1 bc=>dM (ao _ _ (xt a0 a1) bc.cells) fun de bp=>?_;refine iT ?_;exact ⟨_,_,_,rfl,om,(xt (xt a0 a1) bp)⟩
theorem Pa (h:Ac AZ w a n xs) (h2:Ac AZ w a2 n2 ys) (hfo:f.ok) (hnc:n<=c) (hnc2:n2<=c2) :
  Dq 323 [.slice a n c,.slice a2 n2 c2,.agg ⟨f.enc⟩] w (fun v w'=>∃ a' m c',v = .tuple #[.slice a' m c',.int .i64 (CI xs ys f).2]/\((CI xs ys f).2=0->m<=c'/\Dl Aw w' w.heap.size w'.heap.size a' m 144 (CI xs ys f).1)/\AD w w'):=by
 have ah:∀ b ad,AD w b->AK b ad 0 [.slice a n c,.slice a2 n2 c2]->Dq 341 [.agg ⟨f.enc⟩,.bool true,.slice none 0 0,.slice (some ⟨ad,0,none⟩) 2 2] b (fun v w'=>v = .int .i64 (BT [xs,ys] [] f)/\AD b w'):=fun b ad g a5 =>
  Fc (Wl (h.ext g) hnc (h2.ext g) hnc2 a5) A4.nil sI sI hfo
 have be:=h.len;have bf:=h2.len;by_cases k:BT [xs,ys] [] f=0
 .obtain ⟨j,p,_,_,_⟩:=IA k;have au:=Am (j xs sI);have bd:=Am (j ys sI);have b5:∀ e∈xs,AR f e.length=true:=fun e u=>by rw [(au.2 e u).2];exact p xs sI
  have b6:∀ e∈ys,AR f e.length=true:=fun e u=>by rw [(bd.2 e u).2];exact p ys sI
  have a8:∀ e∈xs,e.length<=1000:=fun e u=>by have:=(Bp (au.2 e u).1).2.1;omega
  have a9:∀ b,AD w b->Dq 342 [.slice a n c,.agg ⟨f.enc⟩] b (fun v w'=>v = .bool (GQ xs f)/\AD b w'):=fun b g=>Fb (h.ext g) (j xs sI) (p xs sI);have ba:∀ b,AD w b->Dq 342 [.slice a2 n2 c2,.agg ⟨f.enc⟩] b (fun v w'=>v = .bool (GQ ys f)/\AD b w'):=fun b g=>Fb (h2.ext g) (j ys sI) (p ys sI);have b7:=EX (j xs sI);have b8:=EX (j ys sI);have bb:∀ b,AD w b->Dq 209 [.slice a n c] b (fun v w'=>v = .int .i64 (AJ xs)/\AD b w'):=fun b g=>DP (h.ext g);have bc:∀ b,AD w b->Dq 209 [.slice a2 n2 c2] b (fun v w'=>v = .int .i64 (AJ ys)/\AD b w'):=fun b g=>DP (h2.ext g);rw [k] at ah;have ax:xs=[]↔n=0:=by rw [<- be];exact List.length_eq_zero_iff.symm
  have ay:ys=[]↔n2=0:=by rw [<- bf];exact List.length_eq_zero_iff.symm
  have bi:¬ (xs≠[]/\ys≠[]/\AJ xs≠AJ ys)->GQ xs f=false->CI xs ys f=([],6):=fun d aj=>by unfold CI;rw [if_neg (by simp [k]),if_neg d,if_pos (.inl aj)]
  have bj:¬ (xs≠[]/\ys≠[]/\AJ xs≠AJ ys)->GQ ys f=false->CI xs ys f=([],6):=fun d aj=>by unfold CI;rw [if_neg (by simp [k]),if_neg d,if_pos (.inr aj)]
  have bh:¬ (xs≠[]/\ys≠[]/\AJ xs≠AJ ys)->GQ xs f=true->GQ ys f=true->40<n+n2->CI xs ys f=([],5):=fun d ag h2 aq=>by unfold CI;rw [if_neg (by simp [k]),if_neg d,if_neg (by simp [ag,h2]),if_pos om]
  have bg:¬ (xs≠[]/\ys≠[]/\AJ xs≠AJ ys)->GQ xs f=true->GQ ys f=true->¬ 40<n+n2->CI xs ys f=(K8 (xs++ys) f,0):=fun d ag h2 aq=>by unfold CI;rw [if_neg (by simp [k]),if_neg d,if_neg (by simp [ag,h2]),if_neg om]
  have ar:¬ (xs≠[]/\ys≠[]/\AJ xs≠AJ ys)->¬ 40<n+n2->A2 (xs++ys)=true/\AR f (AJ (xs++ys))=true:=fun d aq=>XQ (j xs sI) (j ys sI) (p xs sI) (p ys sI) d om;refine oV Tryz.func323 ?_;conv=>whnf
  refine AB.box ?_;intro bu cf b2 b' r x;(conv=>whnf);refine jA (n:=2) x.cells rfl ?_;(conv=>whnf);refine bS EA (vs:=[Value.slice a n c,Value.slice a2 n2 c2]) ?_;intro bv cg b3 ca o y;(conv=>whnf);refine dM (ah _ _ (xt r o) y.cells) fun az s=>?_;have i:=xt (xt r o) s;have q:=xt o s;(conv=>whnf);by_cases av:n=0
  focus
   have d:¬ (xs≠[]/\ys≠[]/\AJ xs≠AJ ys):=fun d=>d.1 (ax.2 av);refine iN ?_;clear r o s y;generalize az=a0 at *
  rotate_left
  focus
   refine iY ?_;(conv=>whnf);by_cases aw:n2=0
   focus
    have d:¬ (xs≠[]/\ys≠[]/\AJ xs≠AJ ys):=fun d=>d.2.1 (ay.2 aw);refine iN ?_;clear r o s y;generalize az=a0 at *
   rotate_left
   focus
    refine iY ?_;(conv=>whnf);refine dM (bb _ i) fun ch aa=>?_;(conv=>whnf);refine dM (bc _ (xt i aa)) fun bn ae=>?_;have i:=xt i (xt aa ae);have q:=xt q (xt aa ae);(conv=>whnf);by_cases bk:(AJ xs:Int)=AJ ys
    rotate_left
    .have ai:CI xs ys f=([],9):=by unfold CI;rw [if_neg (by simp [k]),if_pos ⟨fun h=>av (ax.1 h),fun h=>aw (ay.1 h),fun h=>bk om⟩]
     rw [ai];refine iT ?_;(conv=>whnf);exact ⟨_,_,_,rfl,om,i⟩
    have d:¬ (xs≠[]/\ys≠[]/\AJ xs≠AJ ys):=fun d=>d.2.2 om;refine iF ?_;clear r o s y aa ae;generalize bn=a0 at *
  all_goals
   (conv=>whnf);refine jA (n:=2) (x.ext q).cells rfl ?_;(conv=>whnf);refine dM (a9 _ i) fun cj t=>?_;(conv=>whnf);cases ak:GQ xs f
   .rw [bi d ak];(conv=>whnf);exact ⟨_,_,_,rfl,om,xt i t⟩
   (conv=>whnf);refine jA (n:=2) (x.ext (xt q t)).cells rfl ?_;(conv=>whnf);refine dM (ba _ (xt i t)) fun ck an=>?_;have l:=xt (xt i t) an;(conv=>whnf);cases al:GQ ys f
   .rw [bj d al];(conv=>whnf);exact ⟨_,_,_,rfl,om,l⟩
   (conv=>whnf);refine jP (((n+n2:Nat):Int)) ?_;(conv=>whnf);by_cases ac:40<n+n2
   .rw [bh d ak al ac];refine iY ?_;(conv=>whnf);exact ⟨_,_,_,rfl,om,l⟩
   rw [bg d ak al ac];refine iN ?_;(conv=>whnf);refine dH (pB [0,4,8,3,7,11,13,15]) ?_;(conv=>whnf);intro ci ab;(conv=>whnf);refine dA (n:=2) (x.ext (xt (xt q t) an)).cells rfl ?_;(conv=>whnf);refine (FZ (h.ext (xt l ab)) om a8).mono ?_;rintro _ cm ⟨bp,bx,rfl,cd,bl,bo,af⟩;(conv=>whnf);refine ⟨(xt ab af),?_⟩;(conv=>whnf);refine Pe Bz rfl (xt ab af) bl (Below.size ab) (Below.size af) (h2.ext l) om om ?_;intro br b0 cp a1 cc z;(conv=>whnf);refine ⟨z,?_⟩;(conv=>whnf);refine (It a1 (ar d ac).1 (ar d ac).2).mono ?_;rintro _ cn ⟨bq,bz,rfl,bm,a6,ap⟩;(conv=>whnf);refine ⟨(xt z ap),?_⟩;(conv=>whnf);exact ⟨_,_,_,rfl,fun _=>⟨bm,a6.wide (Below.size (xt l z)) (Nat.le_refl _)⟩,xt (xt l z) ap⟩
 .have ai:CI xs ys f=([],BT [xs,ys] [] f):=by simp [CI,k]
  rw [ai];refine oV Tryz.func323 ?_;conv=>whnf
  refine AB.box ?_;intro bt ce b1 b9 am a3;(conv=>whnf);refine jA (n:=2) a3.cells rfl ?_;(conv=>whnf);refine bS EA (vs:=[Value.slice a n c,Value.slice a2 n2 c2]) ?_;intro bw cl b4 cb ao a4;(conv=>whnf);refine dM (ah _ _ (xt am ao) a4.cells) fun co a7=>?_;(conv=>whnf);refine iT ?_;(conv=>whnf);exact ⟨_,_,_,rfl,om,(xt (xt am ao) a7)⟩
end Go.Proofs.YtalgenmoljcnmaaGreatDoor
namespace Go.M
open Go Go.Vc
theorem GN {x:AE} (h:x.ok):Pg [false,false] x.enc:=by
 obtain ⟨a,b⟩:=h;exact ⟨_,_,rfl,a,⟨_,_,rfl,b,rfl⟩⟩
end Go.M
namespace Go.M
open Go Go.Vc
variable {n:Int} {c:List Int} {f:AE} {d:List (List Int)} {k:Nat}
theorem QV {l:List Int} (h:Ec l=some n) (hl:l.length<=12) : -999999999999<=n/\n<=999999999999+0:=by
 unfold Ec at h;cases b:l.getLast? with
 | none =>
  rw [b] at h;simp at h;omega
 | some f =>
  rw [b] at h;simp only at h;have i:=Kw (DS f);split at h
  .split at h
   .cases h
   .rename_i g c a;have m:l.dropLast.length<=11:=by rw [List.length_dropLast];omega
    have d:=LF _ 0 false 0 om om _ _ a;have j:(10:Int) ^ (0+l.dropLast.length)<=10 ^ 11:=by
     have:=Nat.pow_le_pow_right (show 0<10 by omega) (show 0+l.dropLast.length<=11 by omega);have e:((10 ^ (0+l.dropLast.length):Nat):Int)<=((10 ^ 11:Nat):Int):=by exact_mod_cast this
     simpa using e
    have k:(10:Int) ^ 11=100000000000:=dE
    split at h
    .cases h
    split at h
    .cases h
    .simp only [Option.some.injEq] at h;omega
  .split at h
   .cases h
   .rename_i g c a;have d:=LC a hl;simp only [Option.some.injEq] at h;first | omega | (split at h<;>first | (cases h;done) | (simp only [Option.some.injEq] at h;omega))
theorem II (x:AE):F3 x.enc [.int .i64 0,.int .i64 0]=decide (x.from_=0/\x.to_=0):=by
 by_cases a:x.from_=0<;>by_cases b:x.to_=0<;>simp [F3,AE.enc,a,b]
theorem Im (hf:Ah f c.length=true):(Ad c f).length<=12/\AR f c.length=true:=by
 simp only [Ah,Bool.and_eq_true,decide_eq_true_eq] at hf;have:=Bc hf.1;exact ⟨by rw [MA hf.1];omega,hf.1⟩
theorem YW (hc:d[k]? = some c) (hn:Ec (Ad c f)=some n):Dv (d.take (k+1)) f=Dv (d.take k) f+n:=by
 unfold Dv;rw [QU hc hn,List.foldl_append];rfl
theorem TM (hc:d[k]? = some c) (hn:Ec (Ad c f)=none):ER d f=false:=by
 unfold ER;have:(d.any fun c=>(Ec (Ad c f)).isNone)=true:=List.any_eq_true.2 ⟨c,List.mem_of_getElem? hc,by rw [hn];rfl⟩;rw [this];rfl
theorem Nq (h:∀ c∈d,(Ec (Ad c f)).isSome=true):ER d f=true:=by
 unfold ER;have:(d.any fun c=>(Ec (Ad c f)).isNone)=false:=by
  rw [List.any_eq_false];intro c a;have:=h c a;cases b:Ec (Ad c f) with
  | none=>rw [b] at this;cases this
  | some e=>simp
 rw [this];rfl
theorem TL (h:ER d f=true):∀ c∈d,(Ec (Ad c f)).isSome=true:=by
 intro c a;cases e:Ec (Ad c f) with
 | none =>
  obtain ⟨g,b⟩:=List.mem_iff_getElem?.1 a;rw [TM b e] at h;cases h
 | some i=>rfl
theorem JP (h12:∀ c∈d,(Ad c f).length<=12) (h40:d.length<=40) : -40000000000000<=Dv d f/\Dv d f<=40000000000000:=by
 have i:∀ (d:List (List Int)) (a:Int),(∀ c∈d,(Ad c f).length<=12)->a - 1000000000000 * d.length<=(D8 d f).foldl (· + ·) a/\(D8 d f).foldl (· + ·) a<=a+1000000000000 * d.length:=by
  intro d;induction d with
  | nil=>intro a _;simp [D8]
  | cons c k g =>
   intro a b;unfold D8;rw [List.filterMap_cons];cases h:Ec (Ad c f) with
   | none =>
    have:=g a fun c e=>b c (List.mem_cons_of_mem _ e);unfold D8 at this;simp only [List.length_cons];omega
   | some j =>
    have l:=QV h (b c sI);have:=g (a+j) fun c e=>b c (List.mem_cons_of_mem _ e);unfold D8 at this;simp only [List.foldl_cons,List.length_cons];omega
 have:=i d 0 h12;unfold Dv;omega
theorem RE {g:List (List Int)} (h:(Bj d f)[k]? = some g):g≠[]/\g.length<=d.length/\∀ c∈g,c∈d:=by
 unfold Bj at h;rw [List.getElem?_map] at h;have a:k<(A0 (d.map (AS f))).length:=by
  rcases Nat.lt_or_ge k (A0 (d.map (AS f))).length with a | a
  .exact a
  .rw [List.getElem?_eq_none (by simpa using a)] at h;cases h
 rw [List.getElem?_range a,Option.map_some,Option.some.injEq] at h;have i:(A0 (d.map (AS f)))[k]? = some ((A0 (d.map (AS f))).getD k 0):=by
  rw [List.getD_eq_getElem?_getD,List.getElem?_eq_getElem a];rfl
 have e:=U4 i;rw [List.length_map] at e;generalize (A0 (d.map (AS f))).getD k 0=j at i e h;subst h;refine ⟨fun b=>?_,?_,fun c b=>List.mem_of_mem_drop (List.mem_of_mem_take b)⟩
 .have:=congrArg List.length b;simp at this;omega
 .simp;omega
end Go.M
namespace Go.Proofs.YtalgenmoljcnmaaGreatDoor
open Go Go.RowKit Go.Vc Go.M
theorem IW {w:World} {a b:Option Addr} {n c d:Nat} {xs:List (List Int)} (h:Ac AZ w a n xs) {f:AE} (hA:A4 AE.enc 2 w b 1 [f]) (hd:A2 xs=true) (hf:Ah f (AJ xs)=true) :
  Dq 223 [.slice b 1 d,.slice a n c] w (fun v w'=>∃ a' n' c',v = .tuple #[.slice a' n' c',.bool (ER xs f)]/\(ER xs f=true->n'=1/\Ab w.heap.size a'/\Bs eI w' a' 1 2 [Dv xs f])/\AD w w'):=by
 have ci:=h.len;have ch:=h.le;have ao:=Am hd;have ae:∀ e∈xs,Ah f e.length=true:=fun e j=>by rw [(ao.2 e j).2];exact hf
 have bq:∀ e∈xs,∀ az∈e,0<=az/\az<=4095:=fun e j=>(Bp (ao.2 e j).1).2.2;have bg:=ao.1;have bj:∀ o d e,e∈xs->AZ o d e->Dq 285 [.agg ⟨eH d⟩,.agg ⟨f.enc⟩] o (fun v w'=>v = .tuple #[.int .i64 (DI (Ad e f)).1,.bool (DI (Ad e f)).2]/\AD o w'):=fun o d e j aa=>SY aa (bq e j) (ae e j);obtain ⟨bw,ak,bi⟩:=h;have cg:=ak.len;refine oV Tryz.func223 ?_;refine bS B3 (vs:=[]) ?_;intro ca cq be cm bb a1;have a3:=Ag (enc:=eI) AI a1 be;refine lR [1,6,15,16,17] (fun (i:Nat) ar w'=>∃ ab ac,ar=[.slice a n c,.slice ab i ac,.slice b 1 d,.int .i64 (1:Nat),.int .i64 i]/\i<=1/\An eI 1 w.heap.size 2 w' ab i ac (if i=0 then [] else [Dv xs f])/\(i=1->ER xs f=true)/\AD w w') (fun i=>1 - i) 0 ⟨_,_,rfl,om,by simpa using a3,om,bb⟩ ?_;rintro i bc _ b4 ⟨ab,ac,rfl,cf,x,bo,al⟩;rcases Nat.lt_or_ge i 1 with bp | bp
 .obtain rfl:i=0:=om
  have bm:([f]:List AE)[0]? = some f:=rfl;have bh:=hA.ext al;simp only [if_true] at x;refine jI bh 0 rfl bm fun b' co cd bl=>jA (n:=2) bl rfl<|jN (z := .agg #[.int .i64 0,.int .i64 0]) fun aw cp bd cl ba a0=>jS (vs:=[Value.int .i64 f.from_,Value.int .i64 f.to_]) a0 rfl rfl cE ?_;intro au a8 y;have y:B8 au aw f.enc _:=y;have av:AD b4 au:=xb ba a8.but bd;refine lR [1,6,8,9,15,16,17,21,22,23] (fun (g:Nat) ar w'=>ar=[.slice a n c,.slice ab 0 ac,.pointer (some ⟨aw,0,none⟩),.int .i64 (Dv (xs.take g) f),.slice b 1 d,.int .i64 (1:Nat),.int .i64 (0:Nat),.slice a n c,.int .i64 n,.int .i64 g]/\g<=n/\(∀ c∈xs.take g,(Ec (Ad c f)).isSome=true)/\AD au w') (fun g=>n - g) 0 ⟨rfl,om,sI,AD.refl _⟩ ?_;rintro g bc _ ct ⟨rfl,ce,ax,q⟩;have m:=xt (xt al av) q;rcases Nat.lt_or_ge g n with bn | bn
  .obtain ⟨r,ap⟩:=AA (l:=bw) (k:=g) om;obtain ⟨e,j,aa⟩:=bi.get ap;have ay:=List.mem_of_getElem? j;have ad:∀ o,AD w o->Dq 285 [.agg ⟨eH r⟩,.agg ⟨f.enc⟩] o (fun v w'=>v = .tuple #[.int .i64 (DI (Ad e f)).1,.bool (DI (Ad e f)).2]/\AD o w'):=fun o a9=>bj o r e ay ⟨aa.1.ext a9,aa.2⟩;have bv:=Im (ae e ay);rcases On (Ad e f) with af | ⟨b8,b0,aq⟩
   .rw [af] at ad;have bu:Ec (Ad e f)=none:=by
     unfold DI at af;split at af
     .assumption
     .cases af
    rw [TM j bu];exact iY<|jI (ak.ext m) g rfl ap fun a6 b3 bk am=>jA (n:=1) am rfl<|jN (z := .agg #[.slice none 0 0]) fun a7 b5 u b1 t ag=>jS (vs:=[Value.slice r.a r.n r.c]) ag rfl rfl cE fun b6 s ah=>jA (n:=1) ah.cells rfl<|jA (n:=2) (y.ext (xb (xt q t) s.but (nB q u))).cells rfl<|dM (ad _ (xb (xt m t) s.but (nB m u))) fun b7 aj=>⟨_,_,_,rfl,by simp [*],(xt (xb (xt m t) s.but (nB m u)) aj)⟩
   .rw [b0] at ad;have cj:=QV aq bv.1;have bx:=JP (d:=xs.take g) (f:=f) (fun c an=>(Im (ae c (List.mem_of_mem_take an))).1) (by rw [List.length_take];omega);have bz:=YW j aq;have bt:=Ge (p:=fun c=>(Ec (Ad c f)).isSome=true) j ax (by rw [aq];rfl);refine iY<|jI (ak.ext m) g rfl ap fun a6 b3 bk am=>jA (n:=1) am rfl<|jN (z := .agg #[.slice none 0 0]) fun a7 b5 u b1 t ag=>jS (vs:=[Value.slice r.a r.n r.c]) ag rfl rfl cE fun b6 s ah=>jA (n:=1) ah.cells rfl<|jA (n:=2) (y.ext (xb (xt q t) s.but (nB q u))).cells rfl<|dM (ad _ (xb (xt m t) s.but (nB m u))) fun b7 aj=>AB.add (Dv (List.take g xs) f+b8) rfl om om<|jP (((g+1:Nat):Int)) ⟨g+1,om,by rw [bz];rfl,om,bt,(xt (xb (xt q t) s.but (nB q u)) aj)⟩
  .obtain rfl:g=n:=om
   have br:=Nq (HH (show xs.length<=g by omega) ax);have bx:=JP (d:=xs) (f:=f) (fun c an=>(Im (ae c an)).1) bg;rw [List.take_of_length_le om];refine iN<|bS B3 (vs:=[Value.int IntKind.i64 (Dv xs f)]) ?_;intro cb cr bf cn ai a2;have a4:=AH (n:=1) (enc:=eI) (xs:=[Dv xs f]) AI a2 bf rfl dE;exact D0 (enc:=eI) B3 AI (x.ext (xt (xt av q) ai)) (a4.own.arr AI) (by intro cu _;simp [eI,AM]) om om (Below.size (xt m ai)) fun b9 cc cs a5 b2 ck=>jP (((0+1:Nat):Int)) ⟨1,om,_,_,rfl,om,by simpa using a5,fun _=>br,xm (xt m ai) b2 (AQ x.new)⟩
 .obtain rfl:i=1:=om
  rw [bo rfl];refine ⟨_,_,_,rfl,?_,al⟩
  .exact fun _=>⟨rfl,x.new,by simpa using x.own⟩
theorem Fs (k:Int) (w:World):Dq 226 [.int .i64 k] w (fun v w'=>v = .bool (Gi k)/\w=w'):=by
 refine oV Tryz.func226 ?_;refine (CD _ _ _ _).mono ?_;rintro _ _ ⟨rfl,rfl⟩;exact ⟨rfl,rfl⟩
theorem fS {p:Prop} (h:p:=by (first | (simp [EP, *];done) | (simp_all [EP,Gi,Ey];done))):p:=h
theorem Q4 {x:ET} (hx:x.ok) {width:Int} (h0:BH width) (w:World):Dq 286 [.agg ⟨x.enc⟩,.int .i64 width] w (fun v w'=>v = .bool (EP x width)/\AD w w'):=by
 have ap:AR x.field width=true->Ey width 1 20=true->IntKind.i64.wrap (x.field.to_ - x.field.from_)=x.field.to_ - x.field.from_:=fun r i=>by
  have:=Bc r;have:=Bx i;exact Bv om om
 have ao:(x.text=(⟨#[]⟩:ByteArray))=(x.text.size=0):=by
  refine propext ⟨fun h=>by rw [h];rfl,fun h=>?_⟩;apply Cs;have i:x.text.data.toList.length=0:=by simpa using h
  rw [List.eq_nil_of_length_eq_zero i]
 refine oV Tryz.func286 ?_;conv=>whnf
 refine AB.box ?_;intro ah ar ai aq c a;(conv=>whnf);refine (CD _ _ _ _).mono ?_;rintro _ _ ⟨rfl,rfl⟩;(conv=>whnf);with_reducible refine BA (fun m=>?_) (fun m=>?_)
 ·(conv=>whnf);refine ⟨?_,c⟩
  .exact congrArg Value.bool fS
 ·(conv=>whnf);have ak:=Bx m;refine jL a.cells (k:=0) rfl ?_;(conv=>whnf);refine (CD _ _ _ _).mono ?_;rintro _ _ ⟨rfl,rfl⟩;(conv=>whnf);with_reducible refine BA (fun o=>?_) (fun o=>?_)
  ·(conv=>whnf);refine ⟨?_,c⟩
   .exact congrArg Value.bool fS
  ·(conv=>whnf);have al:=Bx o;refine jL a.cells (k:=1) rfl ?_;(conv=>whnf);refine (FL _ _).mono ?_;rintro _ _ ⟨rfl,rfl⟩;(conv=>whnf);with_reducible refine BA (fun p=>?_) (fun p=>?_)
   ·(conv=>whnf);refine ⟨?_,c⟩
    .exact congrArg Value.bool fS
   ·(conv=>whnf);have am:=Bx p;refine jL a.cells (k:=2) rfl ?_;(conv=>whnf);refine (FL _ _).mono ?_;rintro _ _ ⟨rfl,rfl⟩;(conv=>whnf);with_reducible refine BA (fun q=>?_) (fun q=>?_)
    ·(conv=>whnf);refine ⟨?_,c⟩
     .exact congrArg Value.bool fS
    ·(conv=>whnf);have an:=Bx q;refine jL a.cells (k:=3) rfl ?_;(conv=>whnf);refine (FL _ _).mono ?_;rintro _ _ ⟨rfl,rfl⟩;(conv=>whnf);with_reducible refine BA (fun l=>?_) (fun l=>?_)
     ·(conv=>whnf);refine ⟨?_,c⟩
      .exact congrArg Value.bool fS
     ·(conv=>whnf);have aj:=Bx l;refine jL a.cells (k:=2) rfl ?_;(conv=>whnf);with_reducible refine AW (fun s=>?_) (fun s=>?_)
      focus
       (conv=>whnf);refine jL a.cells (k:=0) rfl ?_;(conv=>whnf);refine (Fs _ _).mono ?_;rintro _ _ ⟨rfl,rfl⟩;(conv=>whnf);with_reducible refine BA (fun t=>?_) (fun t=>?_)
       ·(conv=>whnf);refine ⟨?_,c⟩
        .exact congrArg Value.bool fS
      all_goals
       (conv=>whnf);refine jL a.cells (k:=3) rfl ?_;(conv=>whnf);with_reducible refine AW (fun u=>?_) (fun u=>?_)
       ·(conv=>whnf);refine jL a.cells (k:=0) rfl ?_;(conv=>whnf);with_reducible refine AF (fun y=>?_) (fun y=>?_)
        ·(conv=>whnf);refine ⟨?_,c⟩
         .exact congrArg Value.bool fS
        ·(conv=>whnf);refine jG (n:=2) (k:=4) a.cells rfl ?_;(conv=>whnf);refine (DX _ _ _).mono ?_;rintro _ au ⟨rfl,d⟩;(conv=>whnf);with_reducible refine BA (fun z=>?_) (fun z=>?_)
         ·(conv=>whnf);refine ⟨?_,(xt c d)⟩
          .exact congrArg Value.bool fS
         ·(conv=>whnf);refine jL (a.ext d).cells (k:=0) rfl ?_;(conv=>whnf);refine iN ?_;(conv=>whnf);refine jL (a.ext d).cells (k:=0) rfl ?_;(conv=>whnf);refine iT ?_;(conv=>whnf);refine jG (n:=2) (k:=6) (a.ext d).cells rfl ?_;(conv=>whnf);refine AB.build QC rfl ?_;(conv=>whnf);refine Js (ks:=[false,false]) (xs:=x.sum.enc) (ys:=(AE.mk 0 0).enc) kR kR (GN hx.2.2.2.2.2.1) (GN ⟨by unfold BH;decide,by unfold BH;decide⟩) ?_;rw [show F3 x.sum.enc (AE.mk 0 0).enc=_ from II x.sum];(conv=>whnf);with_reducible refine AW (fun aa=>?_) (fun aa=>?_)
          ·(conv=>whnf);refine ⟨?_,(xt c d)⟩
           .exact congrArg Value.bool fS
          ·(conv=>whnf);refine jL (a.ext d).cells (k:=0) rfl ?_;(conv=>whnf);with_reducible refine AF (fun ab=>?_) (fun ab=>?_)
           ·(conv=>whnf);refine jL (a.ext d).cells (k:=8) rfl ?_;(conv=>whnf);refine (DQ _ hx.2.2.2.2.2.2 _).mono ?_;rintro _ aw ⟨rfl,e⟩;(conv=>whnf);with_reducible refine BU (fun j=>?_) (fun j=>?_)
            ·(conv=>whnf);refine jL (a.ext (xt d e)).cells (k:=8) rfl ?_;(conv=>whnf);refine jL (a.ext (xt d e)).cells (k:=5) rfl ?_;(conv=>whnf);refine jL (a.ext (xt d e)).cells (k:=4) rfl ?_;(conv=>whnf);refine Hn ?_;(conv=>whnf);refine ⟨?_,(xt (xt c d) e)⟩
             .exact congrArg Value.bool fS
            ·(conv=>whnf);refine ⟨?_,(xt (xt c d) e)⟩
             .exact congrArg Value.bool fS
           ·(conv=>whnf);refine jL (a.ext d).cells (k:=8) rfl ?_;(conv=>whnf);refine ⟨?_,(xt c d)⟩
            .exact congrArg Value.bool fS
       ·(conv=>whnf);refine jG (n:=2) (k:=4) a.cells rfl ?_;(conv=>whnf);refine (DX _ _ _).mono ?_;rintro _ av ⟨rfl,b⟩;(conv=>whnf);with_reducible refine BA (fun ac=>?_) (fun ac=>?_)
        ·(conv=>whnf);refine ⟨?_,(xt c b)⟩
         .exact congrArg Value.bool fS
        ·(conv=>whnf);refine jL (a.ext b).cells (k:=0) rfl ?_;(conv=>whnf);with_reducible refine AF (fun ad=>?_) (fun ad=>?_)
         ·(conv=>whnf);refine jG (n:=2) (k:=6) (a.ext b).cells rfl ?_;(conv=>whnf);refine (H7 hx.2.2.2.2.2.1 om om _).mono ?_;rintro _ ax ⟨rfl,f⟩;(conv=>whnf);with_reducible refine BA (fun af=>?_) (fun af=>?_)
          ·(conv=>whnf);refine ⟨?_,(xt (xt c b) f)⟩
           .exact congrArg Value.bool fS
          ·(conv=>whnf);refine jL (a.ext (xt b f)).cells (k:=0) rfl ?_;(conv=>whnf);refine iF ?_;(conv=>whnf);refine jL (a.ext (xt b f)).cells (k:=0) rfl ?_;(conv=>whnf);refine iN ?_;(conv=>whnf);refine jL (a.ext (xt b f)).cells (k:=8) rfl ?_;(conv=>whnf);refine ⟨?_,(xt (xt c b) f)⟩
           .exact congrArg Value.bool fS
         ·(conv=>whnf);refine jL (a.ext b).cells (k:=0) rfl ?_;(conv=>whnf);refine iT ?_;(conv=>whnf);refine jG (n:=2) (k:=6) (a.ext b).cells rfl ?_;(conv=>whnf);refine AB.build QC rfl ?_;(conv=>whnf);refine Js (ks:=[false,false]) (xs:=x.sum.enc) (ys:=(AE.mk 0 0).enc) kR kR (GN hx.2.2.2.2.2.1) (GN ⟨by unfold BH;decide,by unfold BH;decide⟩) ?_;rw [show F3 x.sum.enc (AE.mk 0 0).enc=_ from II x.sum];(conv=>whnf);with_reducible refine AW (fun j=>?_) (fun j=>?_)
          ·(conv=>whnf);refine ⟨?_,(xt c b)⟩
           .exact congrArg Value.bool fS
          ·(conv=>whnf);refine jL (a.ext b).cells (k:=0) rfl ?_;(conv=>whnf);with_reducible refine AF (fun ae=>?_) (fun ae=>?_)
           ·(conv=>whnf);refine jL (a.ext b).cells (k:=8) rfl ?_;(conv=>whnf);refine (DQ _ hx.2.2.2.2.2.2 _).mono ?_;rintro _ ay ⟨rfl,g⟩;(conv=>whnf);with_reducible refine BU (fun ag=>?_) (fun ag=>?_)
            ·(conv=>whnf);refine jL (a.ext (xt b g)).cells (k:=8) rfl ?_;(conv=>whnf);refine jL (a.ext (xt b g)).cells (k:=5) rfl ?_;(conv=>whnf);refine jL (a.ext (xt b g)).cells (k:=4) rfl ?_;(conv=>whnf);refine Hn ?_;(conv=>whnf);refine ⟨?_,(xt (xt c b) g)⟩
             .exact congrArg Value.bool fS
            ·(conv=>whnf);refine ⟨?_,(xt (xt c b) g)⟩
             .exact congrArg Value.bool fS
           ·(conv=>whnf);refine jL (a.ext b).cells (k:=8) rfl ?_;(conv=>whnf);refine ⟨?_,(xt c b)⟩
            .exact congrArg Value.bool fS
end Go.Proofs.YtalgenmoljcnmaaGreatDoor
namespace Go.M
open Go Go.Vc
variable {d g:List (List Int)} {s:AE}
theorem RF (hd:A2 d=true) (h0:g≠[]) (hl:g.length<=d.length) (hg:∀ c∈g,c∈d):A2 g=true/\AJ g=AJ d:=by
 have a:=Am hd;refine ⟨JE (W:=AJ d) om fun c b=>a.2 c (hg c b),?_⟩;cases g with
 | nil=>exact absurd rfl h0
 | cons c e=>exact (a.2 c (hg c sI)).2
theorem Hk (d:List (List Int)) (f:AE):(Bj d f).length<=d.length:=by
 rw [Jj];unfold A0 De;refine Nat.le_trans (List.length_filter_le _ _) ?_;simp
theorem Po {B:Nat} (sep:UInt8):∀ l:List (List UInt8),(∀ x∈l,x.length<=B)->(Lib.join l [sep]).length<=l.length * (B+1)
 | [],_=>by simp [Lib.join]
 | x :: xs,h=>by
  have key:∀ l:List (List UInt8),(∀ x∈l,x.length<=B)->(Lib.joinTail [sep] l).length<=l.length * (B+1):=by
   intro l;induction l with
   | nil=>intro _;simp [Lib.joinTail]
   | cons b d i =>
    intro h;have e:=i fun c a=>h c (by simp [a]);have f:=h b sI;have g:Lib.joinTail [sep] (b :: d)=sep :: (b++Lib.joinTail [sep] d):=by simp [Lib.joinTail]
    rw [g,List.length_cons,List.length_append,List.length_cons,Nat.add_mul];omega
  have e:=key xs fun c a=>h c (by simp [a]);have f:=h x sI;rw [Lib.join_cons,List.length_append,List.length_cons,Nat.add_mul];omega
theorem Cz {α β:Type} {l:List α} {k:Nat} {x:α} (g:α->β) (h:l[k]? = some x):(l.take (k+1)).map g=(l.take k).map g++[g x]:=by
 rw [List.take_add_one,h];simp
theorem MB (h:ER d s=true) (hg:∀ c∈g,c∈d):ER g s=true:=Nq fun c a=>TL h c (hg c a)
theorem WO {f:AE} (h:Dg d f=true):∀ c∈d,Di (Ad c f)=true:=List.all_eq_true.1 h
theorem Q9 {c:List Int} (h:g[0]? = some c):g.headD []=c:=by
 cases g with
 | nil=>cases h
 | cons a b=>simpa using h
theorem Br (x:AE):(AE.enc x).length=2:=rfl
theorem OP {w:World} {b t:Nat} (B:B8 w b s.enc t):A4 AE.enc 2 w (some ⟨b,0,none⟩) 1 [s]:=by
 refine ⟨rfl,by unfold maxLen;omega,fun c d a=>?_⟩;cases c with
 | zero=>simp at a;subst a;exact ⟨b,0,rfl,by simpa using B.cells⟩
 | succ c=>simp at a
end Go.M
namespace Go.Proofs.YtalgenmoljcnmaaGreatDoor
open Go Go.RowKit Go.Vc Go.M
variable {w:World} {a:Option Addr} {n c:Nat}
theorem SS {xs:List (List Int)} (h:Ac AZ w a n xs) (hnc:n<=c) {f s:AE} (hd:A2 xs=true) (hf:AR f (AJ xs)=true) (hs:Ah s (AJ xs)=true) :
  Dq 287 [.slice a n c,.agg ⟨f.enc⟩,.agg ⟨s.enc⟩] w (fun v w'=>∃ a' m c',v = .tuple #[.slice a' m c',.int .i64 (A5 xs f s).2]/\((A5 xs f s).2=0->Ab w.heap.size a'/\m<=c'/\m<=40/\Bs AT.enc w' a' m 237 (A5 xs f s).1)/\AD w w'):=by
 have dy:=h.len;have dw:=h.le;have ax:=Am hd;have dp:=ax.1;have bx:∀ ab∈xs,AR f ab.length=true:=fun ab ap=>by rw [(ax.2 ab ap).2];exact hf
 have cq:∀ ab∈xs,ab.length<=20:=fun ab ap=>(Bp (ax.2 ab ap).1).2.1;have al:∀ b ac x,AD w b->A4 AE.enc 2 b ac 1 [s]->Dq 223 [.slice ac 1 x,.slice a n c] b (fun v w'=>∃ a' ag c',v = .tuple #[.slice a' ag c',.bool (ER xs s)]/\(ER xs s=true->ag=1/\Ab b.heap.size a'/\Bs eI w' a' 1 2 [Dv xs s])/\AD b w'):=fun b ac x t a2=>IW (h.ext t) a2 hd hs;have aw:∀ b,AD w b->Dq 210 [.slice a n c,.agg ⟨f.enc⟩] b (fun v w'=>v = .bool (Dg xs f)/\AD b w'):=fun b t=>FM (h.ext t) hd hf;have cu:∀ b,AD w b->Dq 148 [.slice a n c,.agg ⟨f.enc⟩] b (fun v w'=>∃ a' m c',v = .slice a' m c'/\(∀ bd,BP (fun o=>¬ Iv b.heap.size w'.heap.size o) w' bd->Ac AZ bd a n xs->Ac CA bd a' m (Bj xs f))/\AD b w'):=fun b t=>Ox (h.ext t) bx om hnc;have dt:=Hk xs f;cases am:ER xs s
 .have aa:A5 xs f s=([],8):=by simp [A5,am]
  rw [aa];rw [am] at al;refine oV Tryz.func287 ?_;refine AB.box ?_;intro a5 b8 bm b1 q ah;refine AB.box fun a6 b9 bn b2 i ai=>jA (n:=2) ai.cells rfl ?_;refine bS J1 (vs:=[Value.agg #[Value.int IntKind.i64 s.from_,Value.int IntKind.i64 s.to_]]) fun bj a0 bo b3 g an=>(al _ _ _ (xt (xt q i) g) (OP an)).mono ?_;rintro _ b' ⟨bi,b5,bk,rfl,b6,p⟩;exact ⟨_,_,_,rfl,om,(xt (xt (xt q i) g) p)⟩
 .cases aq:Dg xs f
  .have aa:A5 xs f s=([],8):=by simp [A5,aq]
   rw [aa];rw [am] at al;rw [aq] at aw;refine oV Tryz.func287 ?_;refine AB.box ?_;intro a5 b8 bm b1 q ah;refine AB.box fun a6 b9 bn b2 i ai=>jA (n:=2) ai.cells rfl ?_;refine bS J1 (vs:=[Value.agg #[Value.int IntKind.i64 s.from_,Value.int IntKind.i64 s.to_]]) fun bj a0 bo b3 g an=>(al _ _ _ (xt (xt q i) g) (OP an)).mono ?_;rintro _ b' ⟨bi,b5,bk,rfl,b6,p⟩;exact jA (n:=2) (ah.ext (xt (xt i g) p)).cells rfl<|dM (aw _ (xt (xt (xt q i) g) p)) fun dd ad=>⟨_,_,_,rfl,om,(xt (xt (xt (xt q i) g) p) ad)⟩
  .have aa:A5 xs f s=((Bj xs f).map fun e=>⟨EV e f,Dv e s⟩,0):=by simp [A5,am,aq]
   rw [aa];rw [am] at al;rw [aq] at aw;refine oV Tryz.func287 ?_;refine AB.box ?_;intro a5 b8 bm b1 q ah;refine AB.box fun a6 b9 bn b2 i ai=>jA (n:=2) ai.cells rfl ?_;refine bS J1 (vs:=[Value.agg #[Value.int IntKind.i64 s.from_,Value.int IntKind.i64 s.to_]]) fun bj a0 bo b3 g an=>(al _ _ _ (xt (xt q i) g) (OP an)).mono ?_;rintro _ b' ⟨bi,b5,bk,rfl,b6,p⟩;refine jA (n:=2) (ah.ext (xt (xt i g) p)).cells rfl<|dM (aw _ (xt (xt (xt q i) g) p)) fun dd ad=>bS Hz (vs:=[]) ?_;intro cj ca cm d1 au cb;have ce:=Ag (enc:=AT.enc) BJ cb cm;refine jA (n:=2) (ah.ext (xt (xt (xt (xt i g) p) ad) au)).cells rfl<|(cu _ (xt (xt (xt (xt (xt q i) g) p) ad) au)).mono ?_;rintro _ a1 ⟨ci,af,cl,rfl,b7,av⟩;have dx:af=(Bj xs f).length:=by
    have cr:=xt (xt (xt (xt (xt (xt q i) g) p) ad) au) av;have:=(b7 a1 (Vc.BP.refl _ _) (h.ext cr)).len;omega
   have ec:=av.size;refine lR [4,5,10,33,34,35] (fun (j:Nat) dc w'=>∃ ar a7,dc=[.pointer (some ⟨a5,0,none⟩),.pointer (some ⟨a6,0,none⟩),.slice ar j a7,.slice ci af cl,.int .i64 af,.int .i64 j]/\j<=af/\An AT.enc 2 a0.heap.size 237 w' ar j a7 (((Bj xs f).take j).map fun e=>⟨EV e f,Dv e s⟩)/\(∀ o,AL ar o->o<ca.heap.size\/a1.heap.size<=o)/\BP (fun o=>¬ Iv ca.heap.size a1.heap.size o) a1 w'/\AD a0 w') (fun j=>af - j) 0 ⟨_,_,rfl,om,(ce.ext av).base (by have:=p.size;have:=ad.size;omega),?_,Vc.BP.refl _ _,xt (xt (xt p ad) au) av⟩ ?_
   .rintro o ⟨ab,ap,aa⟩;cases ap
    have aa:o=cj:=aa;omega
   have bf:=xt (xt q i) g;rintro j e _ be ⟨ar,a7,rfl,bb,ak,b0,a3,ao⟩;have bu:=xt bf ao;rcases Nat.lt_or_ge j af with c4 | c4
   .obtain ⟨e,a9⟩:=AA (l:=Bj xs f) (k:=j) om;obtain ⟨bz,c1,ay⟩:=RE a9;obtain ⟨c0,c2⟩:=RF hd bz c1 ay;obtain ⟨r,az⟩:=AA (l:=e) (k:=0) (List.length_pos_iff.2 bz);have bc:=ay r (List.mem_of_getElem? az);have c3:EV e f=Cf (AS f r):=by unfold EV;rw [Q9 az]
    have c5:=Cz (fun e=>(⟨EV e f,Dv e s⟩:AT)) a9;rw [c3] at c5;obtain ⟨cp,bt,cs⟩:=b7 be a3 (h.ext bu);have dq:=bt.len;obtain ⟨x,bv⟩:=AA (l:=cp) (k:=j) om;have bg:=cs.2 j x _ bv a9;have cv:∀ b ac a8,AD be b->A4 AE.enc 2 b ac 1 [s]->Dq 223 [.slice ac 1 a8,.slice x.a x.n x.c] b (fun v w'=>∃ a' ag c',v = .tuple #[.slice a' ag c',.bool true]/\(ag=1/\Ab b.heap.size a'/\Bs eI w' a' 1 2 [Dv e s])/\AD b w'):=fun b ac a8 t a2=>by
     have:=IW (d:=a8) (c:=x.c) (bg.1.ext t) a2 c0 (by rw [c2];exact hs);rw [MB am ay] at this;refine this.mono ?_;rintro v w' ⟨a',ag,c',c9,da,db⟩;exact ⟨a',ag,c',c9,da rfl,db⟩
    obtain ⟨c6,br,bq⟩:=bg.1;have dv:=br.len;have dz:=bq.1;have du:=(List.getElem?_eq_some_iff.1 az).1;obtain ⟨bl,bw⟩:=AA (l:=c6) (k:=0) om;have bh:=bq.2 0 bl r bw az;have ct:∀ b,AD be b->Dq 149 [.agg ⟨eH bl⟩,.agg ⟨f.enc⟩] b (fun v w'=>v = .string (Cf (AS f r))/\AD b w'):=fun b t=>Kq ⟨bh.1.ext t,bh.2⟩ (bx r bc) (cq r bc) (WO aq r bc);have d0:=JP (d:=e) (f:=s) (fun c cz=>(Im (by rw [(ax.2 c (ay c cz)).2];exact hs)).1) om;refine iY<|jI bt j rfl bv fun di d6 dr cw=>jO cw rfl<|jA (n:=2) (ai.ext (xt g ao)).cells rfl<|bS J1 (vs:=[Value.agg #[Value.int IntKind.i64 s.from_,Value.int IntKind.i64 s.to_]]) ?_;intro dj d8 cn d2 u cc;have cf:=AH (n:=1) (enc:=AE.enc) (xs:=[⟨s.from_,s.to_⟩]) Br cc cn rfl dE;refine (cv _ _ _ u (cf.own.arr Br)).mono ?_;rintro _ de ⟨dg,d5,dm,rfl,⟨rfl,df,a4⟩,y⟩;refine Au A7 mixed (pZ [0,5,10,30,35,16,21,41,27,46,52,58,60]) kR kR fun d9 z=>pI (br.ext (xt u y)) 0 rfl bw ?_;intro dk d7 ds cx;have c7:([Dv e s]:List Int)[0]? = some (Dv e s):=rfl;obtain ⟨ck,rfl⟩:=(a4).some om;have d4:ck<de.heap.size:=a4.lt _ rfl;refine pW (sz:=1) 0 rfl om ?_;have cy:=AU AI a4 c7;refine dA (n:=1) cx rfl<|dA (n:=2) (ah.ext (xt (xt (xt (xt i g) ao) u) y)).cells rfl<|dL cy (k:=0) rfl<|dM (ct _ (xt (xt u y) z)) fun d' ae=>⟨(xt z ae),BQ.build ZW rfl<|bS Hz (vs:=[Value.agg #[Value.string (Cf (AS f r)),Value.int IntKind.i64 (Dv e s)]]) ?_⟩;intro dl ea co d3 aj cd;have cg:=AH (n:=1) (enc:=AT.enc) (xs:=[⟨Cf (AS f r),Dv e s⟩]) BJ cd co rfl dE;refine ⟨(xt (xt z ae) aj),AN (enc:=AT.enc) Hz BJ (ak.ext (xt (xt (xt (xt u y) z) ae) aj)) (cg.own.arr BJ) (by intro r _;simp [AT.enc,AM]) om om (Below.size (xt (xt (xt (xt (xt ao u) y) z) ae) aj)) fun dh dn eb ch b4 c8=>jP (((j+1:Nat):Int)) ⟨j+1,om,_,_,rfl,om,by simpa [List.take_add_one,-List.take_append_getElem, *] using ch,?_,?_,(xm (xt (xt (xt (xt (xt ao u) y) z) ae) aj) b4 (AQ ak.new))⟩⟩
    .intro o ba;rcases c8 o ba with bp | bp
     .exact b0 o bp
     .have:=a3.size;have:=Below.size (xt (xt (xt (xt u y) z) ae) aj);omega
    .exact a3.trans ((AD.mod (xt (xt (xt (xt u y) z) ae) aj)).trans (b4.mono fun o ba bb=>by
      have:=b0 o ba;have:=bb.1;have:=bb.2;omega))
   .obtain rfl:j=af:=om
    rw [List.take_of_length_le om] at ak;refine iN ⟨_,_,_,rfl,?_,bu⟩
    .exact fun _=>⟨ak.new.mono (Below.size bf),ak.le.1,om,ak.own⟩
theorem PZ {xs:List AT} (h:A4 AT.enc 2 w a n xs) (hok:∀ x∈xs,x.name.size<=20/\BH x.sum) (hn2:n<=40) (hT:GR w) :
  Dq 154 [.slice a n c] w (fun v w'=>v = .string (GV xs)/\AD w w'):=by
 have a':=h.len;refine oV Tryz.func154 ?_;refine bS BK (vs:=[]) ?_;intro a0 bj al bd ai ae;have ah:=Ag (enc:=eS) AP ae al;refine lR [3,7,8,9] (fun (b:Nat) aw w'=>∃ j r,aw=[.slice j b r,.slice a n c,.int .i64 n,.int .i64 b]/\b<=n/\(∃ aa,j=some ⟨aa,0,none⟩)/\An eS 1 w.heap.size 9 w' j b r ((xs.take b).map CV)/\AD w w') (fun b=>n - b) 0 ⟨_,_,rfl,om,⟨_,rfl⟩,by simpa using ah,ai⟩ ?_;rintro b a4 _ bk ⟨j,r,rfl,a9,⟨aa,rfl⟩,g,d⟩;rcases Nat.lt_or_ge b n with ao | ao
 .obtain ⟨x,s⟩:=AA (l:=xs) (k:=b) om;obtain ⟨ba,t⟩:=hok x (List.mem_of_getElem? s);have ap:=Cz CV s;have a8:=Bh t.1 t.2;refine iY<|jI (h.ext d) b rfl s fun a1 bf a7 an=>jA (n:=2) an rfl<|jN (z := .agg #[.string { data := #[] },.int .i64 0]) fun a2 bm q be p af=>jS af (vs:=x.enc) rfl rfl (by simp [AT.enc,AM]) fun bn m u=>Au A7 mixed (pZ [0,5,20,11,15,26,32,35,42,48,50]) kR kR fun bo e=>dL u.cells (k:=0) rfl<|GO sO<|dL u.cells (k:=1) rfl<|dM (Cm t (hT.ext (xt (xb (xt d p) m.but (nB d q)) e))) fun bg f=>⟨(xt e f),GO sO<|bS BK (vs:=[Value.string (x.name++{ data := #[61] }++BV x.sum)]) ?_⟩;intro az bh ak bc o ad;have ag:=AH (n:=1) (enc:=eS) (xs:=[x.name++{ data := #[61] }++BV x.sum]) AP ad ak rfl dE;refine ⟨(xt (xt e f) o),AN (enc:=eS) BK AP (g.ext (xt (xt (xt (xb p m.but q) e) f) o)) (ag.own.arr AP) (by intro ax _;simp [eS,AM]) om om (Below.size (xt (xt (xt (xb (xt d p) m.but (nB d q)) e) f) o)) fun ay a3 bi y av bb=>jP (((b+1:Nat):Int)) ⟨b+1,om,_,_,rfl,om,?_,?_,(xm (xt (xt (xt (xb (xt d p) m.but (nB d q)) e) f) o) av (AQ g.new))⟩⟩
  .exact y.own.some om
  .rw [ap];exact y
 .obtain rfl:b=n:=om
  rw [List.take_of_length_le om] at g;have ac:=Po 59 ((xs.map CV).map (·.data.toList)) (B:=42) (fun ax ar=>by
   obtain ⟨bp,au,rfl⟩:=List.mem_map.1 ar;obtain ⟨i,aq,rfl⟩:=List.mem_map.1 au;have ab:=hok i aq;have a5:=Bh ab.2.1 ab.2.2;have a6:(CV i).size=i.name.size+1+(BV i.sum).size:=by
    unfold CV;rw [ByteArray.size_append,ByteArray.size_append];rfl
   show (CV i).data.toList.length<=42;simp;omega)
  have am:=Qp (sep:=⟨#[59]⟩) g.own g.le.1 om (by
   simp only [List.length_map] at ac;have:(Lib.join (List.map (fun x=>x.data.toList) (List.map CV xs)) [59]).length<=40 * 43:=by
    exact Nat.le_trans ac<|Nat.mul_le_mul_right _ om
   show (Lib.join _ [59]).length<=_;omega)
  refine iN<|am.mono ?_;rintro _ bl ⟨rfl,aj⟩;exact ⟨rfl,xt d aj⟩
end Go.Proofs.YtalgenmoljcnmaaGreatDoor
