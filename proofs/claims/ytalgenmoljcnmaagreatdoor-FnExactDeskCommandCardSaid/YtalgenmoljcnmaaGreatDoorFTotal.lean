/- Parts of the proof; no conditions of its own. -/
import Derived.Test.YtalgenmoljcnmaaGreatDoorStab
import Derived.Test.YtalgenmoljcnmaaGreatDoorModel
import Derived.Test.YtalgenmoljcnmaaGreatDoorVcCore
namespace Go.M
open Go Go.Vc
variable {k:Nat}
structure AT where
 name:ByteArray
 sum:Int
theorem J7 {a b:AT}:a=b↔a.name=b.name/\a.sum=b.sum:=by
 constructor
 .intro c;subst c;simp
 .intro c;cases a;cases b;simp at c;simp [c]
instance:DecidableEq AT:=fun a b=>decidable_of_iff (a.name=b.name/\a.sum=b.sum) J7.symm
instance:Inhabited AT:=⟨⟨.empty,0⟩⟩
def AT.enc (x:AT):List Value:=[.string x.name,.int .i64 x.sum]
theorem BJ (x:AT):x.enc.length=2:=rfl
def AT.ok (x:AT):Prop:=IP x.name/\BH x.sum
def AT.wt (x:AT):Nat:=x.name.size
theorem Rh {cs:List Value} (h:Pg [true,false] cs):∃ x:AT,cs=x.enc/\x.ok:=by
 obtain ⟨c,_,rfl,a,⟨d,_,rfl,b,rfl⟩⟩:=h;exact ⟨⟨c,d⟩,rfl,a,b⟩
def GM (xs:List AT):Nat:=(xs.map AT.wt).sum
theorem OU {xs:List AT} {x:AT} (h:xs[k]? = some x):GM (xs.take (k+1))=GM (xs.take k)+x.wt:=by
 simp [GM,List.take_add_one,h]
def HI (k:Nat):AT:=⟨IU (k+0),((k+1:Nat):Int)⟩
def BO (k n:Nat):List AT:=(List.range n).map fun i=>HI (k+2 * i)
theorem EW (k n:Nat):(BO k n).length=n:=by simp [BO]
theorem OV {n i:Nat} (h:i<n):(BO k n)[i]? = some (HI (k+2 * i)):=by simp [BO,h]
theorem NV (k n:Nat):BO k (n+1)=BO k n++[HI (k+2 * n)]:=by simp [BO,List.range_succ]
end Go.M
namespace Go.Proofs.YtalgenmoljcnmaaGreatDoor
open Go Go.RowKit Go.Vc Go.M
variable {left:Int} {w:World} {a:Option Addr} {n c k0:Nat} {xs:List AT}
theorem Uk {x:AT} (hx:x.ok) (h0:0<=left) (h1:left<=1152921504606846976) (w:World):Dq 187 [.agg ⟨x.enc⟩,.int .i64 left] w (fun v w'=>∃ r:Int,v = .int .i64 r/\(r = -1\/(0<=r/\r+x.wt=left))/\AD w w'):=by
 obtain ⟨f,g⟩:=hx;simp only [IP,BH] at f g;refine oV Tryz.func187 ?_;refine AB.box ?_;intro b h _ _ a c;have d:AK h b 0 x.enc:=c.cells;refine jL d (k:=0) rfl<|AB.sub (left - x.name.size) rfl om om<|AF (fun e=>?_) fun e=>?_
 .exact ⟨-1,rfl,.inl rfl,a⟩
 exact ⟨(left - x.name.size),rfl,.inr ⟨om,by simp only [AT.wt];omega⟩,a⟩
theorem Uh (x:AT) (w:World):Dq 190 [.agg ⟨x.enc⟩] w (fun v w'=>v = .agg ⟨x.enc⟩/\AD w w'):=by
 refine oV Tryz.func190 ?_;refine AB.box ?_;intro ab af _ am a ad;have ae:AK af ab 0 x.enc:=ad.cells;refine jN (z := .agg #[.string { data := #[] },.int .i64 0]) fun ap aq aj an b t=>jN (z := .agg #[.string { data := #[] },.int .i64 0]) ?_;intro g ag ak ao f c;have c:B8 ag g [.string { data := #[] },.int .i64 0] 237:=c;have h:=(ae.ext b).ext f;have u:=t.ext f;have o:=xt a (xt b f);refine jL h (k:=0) rfl<|jT c (k:=0+0) sI rfl ?_;intro ah d j;have r:B8 ah g [.string x.name,.int .i64 0] 237:=j;have i:=h.mod d.but om;have y:=u.mod d.but om;have p:=o.but_trans d.but (by have:=a.size;have:=b.size;omega);refine jL i (k:=1) rfl<|jT r (k:=0+1) sI rfl ?_;intro ai e l;have s:B8 ai g [.string x.name,.int .i64 x.sum] 237:=l;have al:=i.mod e.but om;have aa:=y.mod e.but om;have q:=p.but_trans e.but (by have:=a.size;have:=b.size;omega);exact jA (n:=2) s.cells rfl<|Cl kR (n:=2) aa (vs:=x.enc) rfl (k:=0) (by simp [Value.cells]) (by simp [AT.enc,AM]) fun ar ac m=>AO (jR (n:=2) (vs:=x.enc) rfl m.cells) ⟨rfl,q.but_trans ac.but (by have:=a.size;omega)⟩
theorem Un (x y:AT) (w:World):Dq 228 [.agg ⟨x.enc⟩,.agg ⟨y.enc⟩] w (fun v w'=>v = .bool (decide (x=y))/\AD w w'):=by
 refine oV Tryz.func228 ?_;refine AB.box ?_;intro i o _ _ l m;refine AB.box ?_;intro j h _ _ e n;have f:AK h i 0 x.enc:=(m.ext e).cells;have g:AK h j 0 y.enc:=n.cells;have a:=xt l e;refine jL f (k:=0) rfl<|jL g (k:=0) rfl<|AW (fun c=>?_) fun c=>?_
 .exact ⟨by rw [decide_eq_false (fun b=>c (by rw [b]))],a⟩
 refine jL f (k:=1) rfl<|jL g (k:=1) rfl<|AW (fun d=>?_) fun d=>?_
 .exact ⟨by rw [decide_eq_false (fun b=>d (by rw [b]))],a⟩
 exact ⟨by rw [decide_eq_true (J7.2 ⟨c,d⟩)],a⟩
theorem SM (h:A4 AT.enc 2 w a n xs) (hok:∀ x∈xs,x.ok) (h0:0<=left) (h1:left<=1152921504606846976) :
  Dq 115 [.slice a n c,.int .i64 left] w (fun v w'=>∃ r:Int,v = .int .i64 r/\(r = -1\/(0<=r/\r+n+GM xs=left))/\AD w w'):=by
 have z:=h.len;have y:=h.le;refine oV Tryz.func115 ?_;refine AB.sub (left - n) rfl om om ?_;refine AF (fun o=>?_) fun o=>?_
 .exact ⟨-1,rfl,.inl rfl,AD.refl _⟩
 refine lR [0,1,5] (fun (b:Nat) q w'=>∃ r:Int,q=[.slice a n c,.int .i64 r,.int .i64 b]/\b<=n/\0<=r/\r+n+GM (xs.take b)=left/\AD w w') (fun b=>n - b) 0 ⟨left - n,rfl,om,om,by simp [GM],AD.refl _⟩ ?_;rintro b t _ w' ⟨r,rfl,u,g,i,d⟩;refine AF (fun j=>?_) fun j=>?_
 .obtain ⟨x,e⟩:∃ x,xs[b]? = some x:=AA om;have m:=hok x (List.mem_of_getElem? e);refine jI (h.ext d) b rfl e fun s ab _ l=>jA (n:=2) l rfl<|(Uk m g om w').mono ?_;rintro _ ac ⟨p,rfl,aa,f⟩;refine AF (fun k=>?_) fun k=>?_
  .exact ⟨-1,rfl,.inl rfl,xt d f⟩
  .refine jP (((b+1:Nat):Int)) ⟨b+1,om,p,rfl,om,om,?_,xt d f⟩;rw [OU e];omega
 ·(conv=>whnf);rw [List.take_of_length_le om] at i;exact ⟨r,rfl,.inr ⟨g,i⟩,d⟩
theorem SJ (h:A4 AT.enc 2 w a n xs) (hsm:n<=1048576) :
  Dq 120 [.slice a n c] w (fun v w'=>∃ b,v = .slice (some ⟨b,0,none⟩) n n/\w.heap.size<=b/\AD w w'/\Bs AT.enc w' (some ⟨b,0,none⟩) n 237 xs):=by
 have ad:=h.len;refine oV Tryz.func120 ?_;refine AB.make Hz n rfl om om ?_;intro b ak x ai u z;refine lR [0,3,4] (fun (d:Nat) ae w'=>ae=[.slice a n c,.slice (some ⟨b,0,none⟩) n n,.int .i64 d]/\d<=n/\AD w w'/\B8 w' b (Al AT.enc (xs.take d)++Al (fun _:Unit=>[.string { data := #[] },.int .i64 0]) (List.replicate (n - d) ())) 237) (fun d=>n - d) 0
  ⟨rfl,om,u,by simpa [Al] using z⟩ ?_
 rintro d ag _ w' ⟨rfl,ah,i,g⟩;refine AF (fun y=>?_) fun y=>?_
 .obtain ⟨e,p⟩:∃ e,xs[d]? = some e:=AA om;refine jI (h.ext i) d rfl p fun af aj _ aa=>jA (n:=2) aa rfl<|dM (Uh e w') fun al l=>jW (sz:=2) d rfl om ?_;(conv=>whnf);have m:(xs.take d).length=d:=sW
  obtain ⟨f,ab⟩:∃ f,n - d=f+1:=⟨n - d - 1,om⟩;have o:=WW BJ (xs.take d) [.string { data := #[] },.int .i64 0] e.enc rfl e rfl f;simp only [m] at o;rw [ab] at g;have q:=A1 (enc:=fun _:Unit=>[.string { data := #[] },.int .i64 0]) (sz:=2) (fun _=>rfl) (List.replicate (f+1) ());rw [List.length_replicate] at q;refine Cl kR (n:=2) (g.ext l) (vs:=e.enc) rfl (k:=0+d * 2) (by
   simp only [List.length_append,A1 BJ,q,m];omega) (by simp [AT.enc,AM]) ?_
  intro am r j;rw [Nat.zero_add,o] at j;refine jP (((d+1:Nat):Int)) ⟨d+1,om,rfl,om,(xt i l).but_trans r.but om,?_⟩;have s:xs.take (d+1)=xs.take d++[e]:=by rw [List.take_add_one,p];rfl
  have t:n - (d+1)=f:=om
  rw [s,t];exact j
 ·(conv=>whnf);have ac:d=n:=om
  subst ac;refine ⟨b,rfl,x,i,ad,om,.inr ⟨b,[],rfl,?_⟩⟩;rw [List.take_of_length_le om] at g;simpa [Al] using g
theorem SO {a':Option Addr} {n' c':Nat} {ys:List AT} (h:A4 AT.enc 2 w a n xs) (h':A4 AT.enc 2 w a' n' ys) :
  Dq 156 [.slice a n c,.slice a' n' c'] w (fun v w'=>v = .bool (decide (xs=ys))/\AD w w'):=by
 have ab:=h.len;have ac:=h'.len;have aa:=h.le;refine oV Tryz.func156 ?_;conv=>whnf
 refine AW (fun p=>?_) fun p=>?_
 .refine ⟨?_,AD.refl _⟩;have:¬ xs=ys:=fun o=>by subst o;omega
  rw [decide_eq_false this]
 .refine lR [0,1,5] (fun (b:Nat) t w'=>t=[.slice a n c,.slice a' n' c',.int .i64 b]/\b<=n/\xs.take b=ys.take b/\AD w w') (fun b=>n - b) 0 ⟨rfl,om,sI,AD.refl _⟩ ?_;rintro b y _ w' ⟨rfl,z,l,d⟩;refine AF (fun q=>?_) fun q=>?_
  .obtain ⟨i,f⟩:∃ i,xs[b]? = some i:=AA om;obtain ⟨j,g⟩:∃ j,ys[b]? = some j:=AA om;refine BS A7 mixed kR kR<|dI (h.ext d) b rfl f fun u ad _ r=>dA (n:=2) r rfl<|dI (h'.ext d) b rfl g fun x ae _ s=>dA (n:=2) s rfl<|Rs (fun m _=>Un i j m) fun m k=>AW (fun e=>?_) fun e=>?_
   .exact ⟨by rw [decide_eq_false (Nu f g e)],xt d k⟩
   .exact AB.add (b+1) rfl om om ⟨b+1,om,rfl,om,JO l f g e,xt d k⟩
  .refine ⟨?_,d⟩;rw [decide_eq_true (MM l om om)]
theorem PK {t:Nat} (h:Bs AT.enc w a n t xs) (hk0:k0+2 * n<=1000000000) :
  Dq 158 [.slice a n c,.int .i64 k0] w (fun v w'=>v = .int .i64 ((k0+2 * n:Nat):Int)/\BP (AL a) w w'/\Bs AT.enc w' a n t (BO k0 n)):=by
 obtain ⟨ay,ao,m⟩:=h;refine oV Tryz.func158 ?_;refine lR [0,1,5] (fun (b:Nat) ar w'=>ar=[.slice a n c,.int .i64 ((k0+2 * b:Nat):Int),.int .i64 b]/\b<=n/\BP (AL a) w w' /\
  ((a=none/\n=0)\/∃ d rest,a=some ⟨d,0,none⟩/\B8 w' d (Al AT.enc (BO k0 b++xs.drop b)++rest) t)) (fun b=>n - b) 0 ⟨rfl,om,BP.refl _ _,?_⟩ ?_
 .rcases m with m | ⟨d,rest,o,j⟩
  .exact .inl m
  .exact .inr ⟨d,rest,o,by simpa [BO] using j⟩
 rintro b aw _ aa ⟨rfl,ax,r,e⟩;refine AF (fun al=>?_) fun al=>?_
 .obtain ⟨d,rest,rfl,q⟩:∃ d rest,a=some ⟨d,0,none⟩/\B8 aa d (Al AT.enc (BO k0 b++xs.drop b)++rest) t:=by
   rcases e with ⟨_,e⟩ | e
   .omega
   .exact e
  obtain ⟨g,ap⟩:∃ g,xs[b]? = some g:=AA om;have x:(BO k0 b).length=b:=EW _ _;have az:(xs.drop (b+1)).length+b+1=n:=sW
  rw [Gv ap] at q;have y:∀ (f:AT),(Al AT.enc (BO k0 b++f :: xs.drop (b+1))++rest).length=n * 2+rest.length:=fun f=>by
   simp only [List.length_append,A1 BJ,List.length_cons,x];omega
  have z:∀ (f l:AT) (i:Nat) (v:Value),i<2->f.enc.set i v=l.enc->(Al AT.enc (BO k0 b++f :: xs.drop (b+1))++rest).set (0+b * 2+i) v=Al AT.enc (BO k0 b++l :: xs.drop (b+1))++rest:=fun f l i v an aq=>by
   have:=Ia BJ (BO k0 b) (xs.drop (b+1)) f l rest i v an aq;rw [x] at this;rw [Nat.zero_add];exact this
  have u:∀ p,p=d->AL (some ⟨d,0,none⟩) p:=fun p am=>⟨_,rfl,am⟩;refine dM (G5 (k0+2 * b+0) om aa) fun a0 s=>?_;have ab:=q.ext s;have ag:=r.trans (AD.mod s);refine jW (sz:=2) b rfl om<|jT ab (k:=0+b * 2+0) (by rw [y];omega) rfl ?_;intro au aj ae;have ac:B8 au d (Al AT.enc (BO k0 b++(⟨IU (k0+2 * b+0),g.sum⟩:AT) :: xs.drop (b+1))++rest) t:=by rw [<- z g (⟨IU (k0+2 * b+0),g.sum⟩:AT) 0 _ om rfl];exact ae
  have ah:=ag.trans (aj.but.mono u);refine jP (((k0+2 * b+1:Nat):Int))<|jW (sz:=2) b rfl om<|jT ac (k:=0+b * 2+1) (by rw [y];omega) rfl ?_;intro av ak af;have ad:B8 av d (Al AT.enc (BO k0 b++(⟨IU (k0+2 * b+0),((k0+2 * b+1:Nat):Int)⟩:AT) :: xs.drop (b+1))++rest) t:=by rw [<- z (⟨IU (k0+2 * b+0),g.sum⟩:AT) (⟨IU (k0+2 * b+0),((k0+2 * b+1:Nat):Int)⟩:AT) 1 _ om rfl];exact af
  have ai:=ah.trans (ak.but.mono u);refine jP (((k0+2 * b+2:Nat):Int))<|jP (((b+1:Nat):Int)) ⟨b+1,om,rfl,om,ai,.inr ⟨d,rest,rfl,?_⟩⟩;rw [NV,List.append_assoc];exact ad
 ·(conv=>whnf);have:b=n:=om
  subst this;refine ⟨rfl,r,EW _ _,ao,?_⟩;rcases e with e | ⟨d,rest,o,j⟩
  .exact .inl e
  .refine .inr ⟨d,rest,o,?_⟩;rw [List.drop_eq_nil_of_le om] at j;simpa using j
theorem PO (h:A4 AT.enc 2 w a n (BO k0 n)) (hk0:k0+2 * n<=1000000000) :
  Dq 160 [.slice a n c,.int .i64 k0] w (fun v w'=>v = .int .i64 ((k0+2 * n:Nat):Int)/\AD w w'):=by
 have s:=h.le;refine oV Tryz.func160 ?_;refine lR [0,1,5] (fun (b:Nat) o w'=>o=[.slice a n c,.int .i64 ((k0+2 * b:Nat):Int),.int .i64 b]/\b<=n/\AD w w') (fun b=>n - b) 0 ⟨rfl,om,AD.refl _⟩ ?_;rintro b q _ t ⟨rfl,r,d⟩;refine AF (fun l=>?_) fun l=>?_
 .have g:=OV (k:=k0) (show b<n by omega);refine BS A7 mixed kR kR<|dI (h.ext d) b rfl g fun i m _ e=>dL e (k:=0) rfl<|Rs (fun p _=>G5 (k0+2 * b+0) om p) ?_;intro u j;have f:=xt d j;exact DY (by simp [HI])<|jP (((k0+2 * b+1:Nat):Int))<|jI (h.ext f) b rfl g fun i m _ e=>jL e (k:=1) rfl<|DY (by simp [HI])<|jP (((k0+2 * b+2:Nat):Int))<|jP (((b+1:Nat):Int)) ⟨b+1,om,rfl,om,f⟩
 ·(conv=>whnf);have:b=n:=om
  subst this;exact ⟨rfl,d⟩
end Go.Proofs.YtalgenmoljcnmaaGreatDoor
namespace Go.M
open Go Go.Vc
structure aJ9 where
 name:ByteArray
 cards:Int
 year:Int
 keep:Int
 lent:ByteArray
theorem Sq {a b:aJ9}:a=b↔a.name=b.name/\a.cards=b.cards/\a.year=b.year/\a.keep=b.keep/\a.lent=b.lent:=by
 constructor
 .intro c;subst c;simp
 .intro c;cases a;cases b;simp at c;simp [c]
instance:DecidableEq aJ9:=fun a b=>decidable_of_iff (a.name=b.name/\a.cards=b.cards/\a.year=b.year/\a.keep=b.keep/\a.lent=b.lent) Sq.symm
instance:Inhabited aJ9:=⟨⟨.empty,0,0,0,.empty⟩⟩
end Go.M
namespace Go.M
open Go Go.Vc
structure aB4 where
 name:ByteArray
 count:Int
 least:Int
 price:Int
theorem Ri {a b:aB4}:a=b↔a.name=b.name/\a.count=b.count/\a.least=b.least/\a.price=b.price:=by
 constructor
 .intro c;subst c;simp
 .intro c;cases a;cases b;simp at c;simp [c]
instance:DecidableEq aB4:=fun a b=>decidable_of_iff (a.name=b.name/\a.count=b.count/\a.least=b.least/\a.price=b.price) Ri.symm
instance:Inhabited aB4:=⟨⟨.empty,0,0,0⟩⟩
end Go.M
namespace Go.M
open Go Go.Vc
variable {α:Type} {p:α->Bool} {xs:List α} {k:Nat} {x:α}
def WM {α:Type} (p:α->Bool) (xs:List α):Int:=match xs.findIdx? p with | some i=>i | none=>-1
theorem NA {α:Type} {p:α->Bool} {xs:List α} (h:xs.any p=false):WM p xs = -1:=by
 have:xs.findIdx? p=none:=by
  rw [List.findIdx?_eq_none_iff];intro b a;rw [List.any_eq_false] at h;simpa using h b a
 simp [WM,this]
theorem Oy {α:Type} {p:α->Bool} {xs:List α} (h:xs.any p=true):0<=WM p xs:=by
 unfold WM;split
 .omega
 .rename_i a;rw [List.findIdx?_eq_none_iff] at a;rw [List.any_eq_true] at h;obtain ⟨d,c,b⟩:=h;rw [a d c] at b;cases b
theorem X4 {α:Type} {p:α->Bool} {xs:List α} {k:Nat} {x:α} (h:(xs.take k).any p=false) (hx:xs[k]? = some x) (hp:p x=true):WM p xs=k:=by
 have:xs.findIdx? p=some k:=by
  rw [List.findIdx?_eq_some_iff_getElem];have b:=(List.getElem?_eq_some_iff.1 hx).1;refine ⟨b,?_,fun c a=>?_⟩
  .rw [(List.getElem?_eq_some_iff.1 hx).2];exact hp
  .rw [List.any_eq_false] at h;apply h;rw [List.mem_iff_getElem?];exact ⟨c,by rw [List.getElem?_take,if_pos a,List.getElem?_eq_getElem om]⟩
 simp [WM,this]
theorem G8 {α:Type} {p:α->Bool} {xs:List α} {k:Nat} {x:α} (hx:xs[k]? = some x):(xs.take (k+1)).any p=((xs.take k).any p || p x):=by
 rw [List.take_add_one,hx];simp
end Go.M
namespace Go.Proofs.YtalgenmoljcnmaaGreatDoor
section
open Go Go.RowKit Go.Vc Go.M
variable {w:World} {a:Option Addr} {n c g:Nat} {xs:List Int} {p:Int->Bool} {cap:List Value}
theorem Ny (h:A4 eI 1 w a n xs)
  (hg:∀ x∈xs,∀ w',AD w w'->E2 Tryz.prog g (.int .i64 x :: cap) w' (fun v w''=>v = .bool (p x)/\AD w' w'')) :
  Dq 130 [.slice a n c,.func (.func g) ⟨[]⟩ ⟨cap⟩] w (fun v w'=>v = .int .i64 (WM p xs)/\AD w w'):=by
 have u:=h.len;have t:=h.le;refine oV Tryz.func130 ?_;refine lR [0,1,7,8] (fun (b:Nat) o w'=>o=[.slice a n c,.func (.func g) ⟨[]⟩ ⟨cap⟩,.int .i64 n,.int .i64 b]/\b<=n/\(xs.take b).any p=false/\AD w w') (fun b=>n - b) 0 ⟨rfl,om,sI,AD.refl _⟩ ?_;rintro b r _ w' ⟨rfl,s,e,d⟩;refine AF (fun k=>?_) fun k=>?_
 .obtain ⟨x,f⟩:∃ x,xs[b]? = some x:=AA om;have m:=hg x (List.mem_of_getElem? f);refine jI (h.ext d) b rfl f fun q y _ l=>jO l rfl<|dM (m w' d) fun z j=>BU (fun i=>?_) fun i=>?_
  .exact ⟨by rw [X4 e f i],xt d j⟩
  .exact jP (((b+1:Nat):Int)) ⟨b+1,om,rfl,om,by rw [G8 f,e,i];rfl,xt d j⟩
 ·(conv=>whnf);rw [List.take_of_length_le om] at e;exact ⟨by rw [NA e],d⟩
theorem Dn (h:A4 eI 1 w a n xs)
  (hg:∀ x∈xs,∀ w',AD w w'->E2 Tryz.prog g (.int .i64 x :: cap) w' (fun v w''=>v = .bool (p x)/\AD w' w'')) :
  Dq 71 [.slice a n c,.func (.func g) ⟨[]⟩ ⟨cap⟩] w (fun v w'=>v = .bool (xs.any p)/\AD w w'):=by
 refine oV Tryz.func71 ?_;refine (Ny h hg).mono ?_;rintro _ e ⟨rfl,d⟩;refine ⟨?_,d⟩;congr 1;cases b:xs.any p with
 | true=>exact decide_eq_true (Oy b)
 | false=>rw [NA b];rfl
end
end Go.Proofs.YtalgenmoljcnmaaGreatDoor
namespace Go.M
open Go Go.Vc
def E8 (k n:Nat):List Int:=(List.range n).map fun i=>((k+i:Nat):Int)
theorem G4 (k n:Nat):(E8 k n).length=n:=by simp [E8]
theorem XS {k n i:Nat} (h:i<n):(E8 k n)[i]? = some ((k+i:Nat):Int):=by simp [E8,h]
theorem V3 (k n:Nat):E8 k (n+1)=E8 k n++[((k+n:Nat):Int)]:=by simp [E8,List.range_succ]
end Go.M
namespace Go.Proofs.YtalgenmoljcnmaaGreatDoor
open Go Go.RowKit Go.Vc Go.M
variable {w:World} {a:Option Addr} {n c k0:Nat} {xs:List Int}
theorem SQ {a':Option Addr} {n' c':Nat} {ys:List Int} (h:A4 eI 1 w a n xs) (h':A4 eI 1 w a' n' ys) :
  Dq 289 [.slice a n c,.slice a' n' c'] w (fun v w'=>v = .bool (decide (xs=ys))/\AD w w'):=by
 have aa:=h.len;have ab:=h'.len;have z:=h.le;refine oV Tryz.func289 ?_;conv=>whnf
 refine AW (fun o=>?_) fun o=>?_
 .refine ⟨?_,AD.refl _⟩;have:¬ xs=ys:=fun m=>by subst m;omega
  rw [decide_eq_false this]
 .refine lR [0,1,5] (fun (b:Nat) s w'=>s=[.slice a n c,.slice a' n' c',.int .i64 b]/\b<=n/\xs.take b=ys.take b/\AD w w') (fun b=>n - b) 0 ⟨rfl,om,sI,AD.refl _⟩ ?_;rintro b x _ w' ⟨rfl,y,j,d⟩;refine AF (fun p=>?_) fun p=>?_
  .obtain ⟨k,f⟩:∃ k,xs[b]? = some k:=AA om;obtain ⟨l,g⟩:∃ l,ys[b]? = some l:=AA om;refine BS A7 mixed kR kR<|dI (h.ext d) b rfl f fun t ac _ q=>dO q rfl<|dI (h'.ext d) b rfl g fun u ad _ r=>dO r rfl fun ae i=>AW (fun e=>?_) fun e=>?_
   .exact ⟨by rw [decide_eq_false (Nu f g e)],xt d i⟩
   .exact AB.add (b+1) rfl om om ⟨b+1,om,rfl,om,JO j f g e,xt d i⟩
  .refine ⟨?_,d⟩;rw [decide_eq_true (MM j om om)]
theorem PM {t:Nat} (h:Bs eI w a n t xs) (hk0:k0+n<=1000000000) :
  Dq 229 [.slice a n c,.int .i64 k0] w (fun v w'=>v = .int .i64 ((k0+n:Nat):Int)/\BP (AL a) w w'/\Bs eI w' a n t (E8 k0 n)):=by
 obtain ⟨ab,u,g⟩:=h;refine oV Tryz.func229 ?_;refine lR [0,1,5] (fun (b:Nat) y w'=>y=[.slice a n c,.int .i64 ((k0+b:Nat):Int),.int .i64 b]/\b<=n/\BP (AL a) w w' /\
  ((a=none/\n=0)\/∃ d rest,a=some ⟨d,0,none⟩/\B8 w' d (Al eI (E8 k0 b++xs.drop b)++rest) t)) (fun b=>n - b) 0 ⟨rfl,om,BP.refl _ _,?_⟩ ?_
 .rcases g with g | ⟨d,rest,i,f⟩
  .exact .inl g
  .exact .inr ⟨d,rest,i,by simpa [E8] using f⟩
 rintro b z _ w' ⟨rfl,aa,l,e⟩;refine AF (fun o=>?_) fun o=>?_
 .obtain ⟨d,rest,rfl,f⟩:∃ d rest,a=some ⟨d,0,none⟩/\B8 w' d (Al eI (E8 k0 b++xs.drop b)++rest) t:=by
   rcases e with ⟨_,e⟩ | e
   .omega
   .exact e
  obtain ⟨j,x⟩:∃ j,xs[b]? = some j:=AA om;refine jW (sz:=1) b rfl om ?_;have s:(E8 k0 b).length=b:=G4 _ _;refine jT f (k:=0+b * 1) (by
   simp only [List.length_append,A1 AI,List.length_drop];omega) rfl ?_
  intro ad q p;refine jP (((k0+(b+1):Nat):Int))<|jP (((b+1:Nat):Int)) ⟨b+1,om,rfl,om,l.trans (q.but.mono fun ac r=>⟨_,rfl,r⟩),.inr ⟨d,rest,rfl,?_⟩⟩;have m:(Al eI (E8 k0 b++xs.drop b)++rest).set (0+b * 1) (.int .i64 ((k0+b:Nat):Int))=Al eI (E8 k0 (b+1)++xs.drop (b+1))++rest:=by
   have:=Ia AI (E8 k0 b) (xs.drop (b+1)) j ((k0+b:Nat):Int) rest 0 (.int .i64 ((k0+b:Nat):Int)) om rfl;rw [Gv x,V3,List.append_assoc];rw [s] at this;simpa using this
  rw [<- m];exact p
 ·(conv=>whnf);have:b=n:=om
  subst this;refine ⟨rfl,l,G4 _ _,u,?_⟩;rcases e with e | ⟨d,rest,i,f⟩
  .exact .inl e
  .refine .inr ⟨d,rest,i,?_⟩;rw [List.drop_eq_nil_of_le om] at f;simpa using f
theorem PR (h:A4 eI 1 w a n (E8 k0 n)) (hk0:k0+n<=1000000000) :
  Dq 230 [.slice a n c,.int .i64 k0] w (fun v w'=>v = .int .i64 ((k0+n:Nat):Int)/\AD w w'):=by
 have o:=h.le;refine oV Tryz.func230 ?_;refine lR [0,1,5] (fun (b:Nat) i w'=>i=[.slice a n c,.int .i64 ((k0+b:Nat):Int),.int .i64 b]/\b<=n/\AD w w') (fun b=>n - b) 0 ⟨rfl,om,AD.refl _⟩ ?_;rintro b l _ w' ⟨rfl,m,d⟩;refine AF (fun e=>?_) fun e=>?_
 .have g:=XS (k:=k0) (show b<n by omega);exact jI (h.ext d) b rfl g fun j p _ f=>jO f rfl<|DY sI<|jP (((k0+(b+1):Nat):Int))<|jP (((b+1:Nat):Int)) ⟨b+1,om,rfl,om,d⟩
 ·(conv=>whnf);have:b=n:=om
  subst this;exact ⟨rfl,d⟩
theorem SK (h:A4 eI 1 w a n xs) (hsm:n<=1048576) :
  Dq 252 [.slice a n c] w (fun v w'=>∃ b,v = .slice (some ⟨b,0,none⟩) n n/\w.heap.size<=b/\AD w w'/\Bs eI w' (some ⟨b,0,none⟩) n 2 xs):=by
 have m:=h.len;refine oV Tryz.func252 ?_;refine AB.make B3 n rfl om om ?_;intro b al i aj t x;have r:=Hh (enc:=eI) (z:=(0:Int)) AI rfl x i om;refine lR [0,3,4] (fun (d:Nat) ab w'=>ab=[.slice a n c,.slice (some ⟨b,0,none⟩) n n,.int .i64 d]/\d<=n/\AD w w'/\An eI 1 w.heap.size 2 w' (some ⟨b,0,none⟩) n n (xs.take d++List.replicate (n - d) 0)) (fun d=>n - d) 0 ⟨rfl,om,t,by simpa using r⟩ ?_;rintro d ae _ w' ⟨rfl,ag,e,f⟩;refine AF (fun u=>?_) fun u=>?_
 .obtain ⟨p,o⟩:∃ ac,xs[d]? = some ac:=AA om;refine jI (h.ext e) d rfl o fun ad ak _ y=>jO y rfl ?_;have g:=Z8 (0:Int) m (show d<n by omega);refine jW (sz:=1) d rfl om ?_;have af:=AU AI f.own g;refine Fx (k:=d) (j:=0) kR AI f g dE rfl (p) rfl ?_;intro am s q;have ah:=D6 g ((p));refine jP (((d+1:Nat):Int)) ⟨d+1,om,rfl,om,(xb e s.but i),?_⟩
  .rw [<- Z7 m o];exact q
 .have ai:d=n:=om
  have aa:List.take d xs=xs:=List.take_of_length_le om;refine ⟨_,rfl,om,e,?_⟩
  .have l:=f.own;rw [aa,show n - d=0 by omega] at l;simpa using l
end Go.Proofs.YtalgenmoljcnmaaGreatDoor
namespace Go.Vc
section
open Go Go.RowKit
structure Hd where
 a:Option Addr
 n:Nat
 c:Nat
def eH (h:Hd):List Value:=[.slice h.a h.n h.c]
theorem Dz (h:Hd):(eH h).length=1:=rfl
instance:Inhabited Hd:=⟨⟨none,0,0⟩⟩
abbrev Rd (α:Type):=World->Hd->α->Prop
class RdE {α:Type} (R:Rd α):Prop where
 ext:∀ {w w':World} {h:Hd} {x:α},R w h x->AD w w'->R w' h x
def VG {α:Type} (R:Rd α) (w:World) (hs:List Hd) (xs:List α):Prop :=
 hs.length=xs.length/\∀ (i:Nat) (h:Hd) (x:α),hs[i]? = some h->xs[i]? = some x->R w h x
theorem VG.ext {α:Type} {R:Rd α} [RdE R] {w w':World} {hs:List Hd} {xs:List α} (h:VG R w hs xs) (e:AD w w'):VG R w' hs xs :=
 ⟨h.1,fun d a f b c=>RdE.ext (h.2 d a f b c) e⟩
theorem VG.get {α:Type} {R:Rd α} {w:World} {hs:List Hd} {xs:List α} (h:VG R w hs xs) {k:Nat} {d:Hd} (hd:hs[k]? = some d):∃ x,xs[k]? = some x/\R w d x:=by
 have b:=(List.getElem?_eq_some_iff.1 hd).1;obtain ⟨x,a⟩:∃ x,xs[k]? = some x:=⟨_,List.getElem?_eq_getElem (by rw [<- h.1];exact b)⟩;exact ⟨x,a,h.2 k d x hd a⟩
def Ac {α:Type} (R:Rd α) (w:World) (a:Option Addr) (n:Nat) (xs:List α):Prop:=∃ hs,A4 eH 1 w a n hs/\VG R w hs xs
theorem Ac.ext {α:Type} {R:Rd α} [RdE R] {w w':World} {a:Option Addr} {n:Nat} {xs:List α} (h:Ac R w a n xs) (e:AD w w'):Ac R w' a n xs :=
 let ⟨d,b,c⟩:=h
 ⟨d,b.ext e,c.ext e⟩
theorem Ac.len {α:Type} {R:Rd α} {w:World} {a:Option Addr} {n:Nat} {xs:List α} (h:Ac R w a n xs):xs.length=n:=by
 obtain ⟨d,b,c⟩:=h;rw [<- c.1,b.len]
theorem Ac.le {α:Type} {R:Rd α} {w:World} {a:Option Addr} {n:Nat} {xs:List α} (h:Ac R w a n xs):n<=9223372036854775807:=by
 obtain ⟨c,b,_⟩:=h;exact b.le
theorem Ac.nil {α:Type} {R:Rd α} {w:World} {a:Option Addr}:Ac R w a 0 ([]:List α):=⟨[],A4.nil,rfl,fun d c e b=>by simp at b⟩
def RA {α:Type} (enc:α->List Value) (sz:Nat):Rd (List α):=fun w h xs=>A4 enc sz w h.a h.n xs/\h.n<=h.c
instance {α:Type} {enc:α->List Value} {sz:Nat}:RdE (RA enc sz):=⟨fun h e=>⟨h.1.ext e,h.2⟩⟩
def RS {α:Type} (R:Rd α):Rd (List α):=fun w h xs=>Ac R w h.a h.n xs/\h.n<=h.c
instance {α:Type} {R:Rd α} [RdE R]:RdE (RS R):=⟨fun h e=>⟨h.1.ext e,h.2⟩⟩
def BW:Option Addr->List Nat
 | none=>[]
 | some x=>[x.block]
theorem Az {a:Option Addr} {k:Nat}:k∈BW a↔AL a k:=by
 cases a with
 | none=>simp [BW,AL]
 | some b=>simp [BW,AL]
abbrev Ow (α:Type):=World->Hd->α->List Nat->Prop
class Ju {α:Type} (E:Ow α) (R:outParam (Rd α)):Prop where
 keep:∀ {w w':World} {h:Hd} {x:α} {fp:List Nat},E w h x fp->(∀ k∈fp,w'.heap[k]? = w.heap[k]?)->E w' h x fp
 lt:∀ {w:World} {h:Hd} {x:α} {fp:List Nat},E w h x fp->∀ k∈fp,k<w.heap.size
 rd:∀ {w:World} {h:Hd} {x:α} {fp:List Nat},E w h x fp->R w h x
def HJ {α:Type} (E:Ow α) (w:World) (hs:List Hd) (xs:List α) (fps:List (List Nat)):Prop :=
 hs.length=xs.length/\fps.length=xs.length/\∀ (i:Nat) (h:Hd) (x:α) (f:List Nat),hs[i]? = some h->xs[i]? = some x->fps[i]? = some f->E w h x f
def DM {α:Type} (E:Ow α) (w:World) (a:Option Addr) (n t:Nat) (xs:List α) (fp:List Nat):Prop :=
 ∃ hs fps,Bs eH w a n t hs/\HJ E w hs xs fps/\fp=BW a++fps.flatten
def CH {α:Type} (E:Ow α) (B e:Nat) (w:World) (a:Option Addr) (n c:Nat) (xs:List α) (fp:List Nat):Prop :=
 ∃ hs fps,An eH 1 B e w a n c hs/\HJ E w hs xs fps/\fp=BW a++fps.flatten
theorem CH.own {α:Type} {E:Ow α} {B e:Nat} {w:World} {a:Option Addr} {n c:Nat} {xs:List α} {fp:List Nat} (h:CH E B e w a n c xs fp):DM E w a n e xs fp:=by
 obtain ⟨i,b,d,f,g⟩:=h;exact ⟨i,b,d.own,f,g⟩
theorem Bs.keep {α:Type} {enc:α->List Value} {w w':World} {a:Option Addr} {n t:Nat} {xs:List α} (h:Bs enc w a n t xs) (hk:∀ k∈BW a,w'.heap[k]? = w.heap[k]?):Bs enc w' a n t xs :=
 ⟨h.1,h.2.1,h.2.2.imp id fun ⟨b,rest,c,d⟩=>⟨b,rest,c,by
  unfold B8 at *;rw [hk b (by rw [c];simp [BW])];exact d⟩⟩
theorem EB {fps:List (List Nat)} {i k:Nat} {f:List Nat} (h:fps[i]? = some f) (hk:k∈f):k∈fps.flatten :=
 List.mem_flatten.2 ⟨f,List.mem_of_getElem? h,hk⟩
theorem HJ.keep {α:Type} {E:Ow α} {R:Rd α} [Ju E R] {w w':World} {hs:List Hd} {xs:List α} {fps:List (List Nat)} (h:HJ E w hs xs fps) (hk:∀ k∈fps.flatten,w'.heap[k]? = w.heap[k]?):HJ E w' hs xs fps :=
 ⟨h.1,h.2.1,fun g b i c d e a=>Ju.keep (h.2.2 g b i c d e a) fun k f=>hk k (EB a f)⟩
theorem HJ.lt {α:Type} {E:Ow α} {R:Rd α} [Ju E R] {w:World} {hs:List Hd} {xs:List α} {fps:List (List Nat)} (h:HJ E w hs xs fps):∀ k∈fps.flatten,k<w.heap.size:=by
 intro k j;obtain ⟨f,i,l⟩:=List.mem_flatten.1 j;obtain ⟨b,d⟩:=List.mem_iff_getElem?.1 i;have e:=(List.getElem?_eq_some_iff.1 d).1;obtain ⟨c,m⟩:∃ c,xs[b]? = some c:=⟨_,List.getElem?_eq_getElem (by rw [<- h.2.1];exact e)⟩;obtain ⟨a,g⟩:∃ a,hs[b]? = some a:=⟨_,List.getElem?_eq_getElem (by rw [h.1,<- h.2.1];exact e)⟩;exact Ju.lt (h.2.2 b a c f g m d) k l
theorem HJ.rd {α:Type} {E:Ow α} {R:Rd α} [Ju E R] {w:World} {hs:List Hd} {xs:List α} {fps:List (List Nat)} (h:HJ E w hs xs fps):VG R w hs xs :=
 ⟨h.1,fun c d i e b=>by
  have g:=(List.getElem?_eq_some_iff.1 b).1;obtain ⟨a,f⟩:∃ a,fps[c]? = some a:=⟨_,List.getElem?_eq_getElem (by rw [h.2.1];exact g)⟩;exact Ju.rd (h.2.2 c d i a e b f)⟩
theorem DM.keep {α:Type} {E:Ow α} {R:Rd α} [Ju E R] {w w':World} {a:Option Addr} {n t:Nat} {xs:List α} {fp:List Nat} (h:DM E w a n t xs fp) (hk:∀ k∈fp,w'.heap[k]? = w.heap[k]?):DM E w' a n t xs fp:=by
 obtain ⟨f,c,d,e,rfl⟩:=h;exact ⟨f,c,d.keep fun k b=>hk k (List.mem_append_left _ b),e.keep fun k b=>hk k (List.mem_append_right _ b),rfl⟩
theorem DM.lt {α:Type} {E:Ow α} {R:Rd α} [Ju E R] {w:World} {a:Option Addr} {n t:Nat} {xs:List α} {fp:List Nat} (h:DM E w a n t xs fp):∀ k∈fp,k<w.heap.size:=by
 obtain ⟨i,g,c,d,rfl⟩:=h;intro k b;rcases List.mem_append.1 b with b | b
 .obtain ⟨f,e,rfl⟩:=Az.1 b;exact c.lt f e
 .exact d.lt k b
theorem DM.arr {α:Type} {E:Ow α} {R:Rd α} [Ju E R] {w:World} {a:Option Addr} {n t:Nat} {xs:List α} {fp:List Nat} (h:DM E w a n t xs fp):Ac R w a n xs:=by
 obtain ⟨d,e,b,c,_⟩:=h;exact ⟨d,b.arr Dz,c.rd⟩
theorem DM.len {α:Type} {E:Ow α} {w:World} {a:Option Addr} {n t:Nat} {xs:List α} {fp:List Nat} (h:DM E w a n t xs fp):xs.length=n:=by
 obtain ⟨e,d,b,c,_⟩:=h;rw [<- c.1,b.1]
def OA {α:Type} (enc:α->List Value):Ow (List α):=fun w h xs fp=>(∃ t,Bs enc w h.a h.n t xs)/\h.n<=h.c/\fp=BW h.a
class aB7 {α:Type} (enc:α->List Value) (sz:outParam Nat):Prop where
 len:∀ x,(enc x).length=sz
instance {α:Type} {enc:α->List Value} {sz:Nat} [aB7 enc sz]:Ju (OA enc) (RA enc sz) where
 keep:=fun ⟨⟨t,h1⟩,h2,h3⟩ hk=>⟨⟨t,h1.keep (by rw [<- h3];exact hk)⟩,h2,h3⟩
 lt:=fun ⟨⟨t,h1⟩,h2,h3⟩ k hk=>by
  rw [h3] at hk;obtain ⟨x,hx,rfl⟩:=Az.1 hk;exact h1.lt x hx
 rd:=fun ⟨⟨t,h1⟩,h2,_⟩=>⟨h1.arr aB7.len,h2⟩
def OS {α:Type} (E:Ow α):Ow (List α):=fun w h xs fp=>(∃ t,DM E w h.a h.n t xs fp)/\h.n<=h.c
instance {α:Type} {E:Ow α} {R:Rd α} [Ju E R]:Ju (OS E) (RS R) where
 keep:=fun ⟨⟨t,h1⟩,h2⟩ hk=>⟨⟨t,h1.keep hk⟩,h2⟩
 lt:=fun ⟨⟨t,h1⟩,_⟩=>h1.lt
 rd:=fun ⟨⟨t,h1⟩,h2⟩=>⟨h1.arr,h2⟩
def Iv (lo hi:Nat):Nat->Prop:=fun k=>lo<=k/\k<hi
def Fg (lo hi:Nat) (fp:List Nat):Prop:=fp.Nodup/\∀ k∈fp,lo<=k/\k<hi
def Dl {α:Type} (E:Ow α) (w:World) (lo hi:Nat) (a:Option Addr) (n t:Nat) (xs:List α):Prop:=∃ fp,DM E w a n t xs fp/\Fg lo hi fp
theorem Dl.arr {α:Type} {E:Ow α} {R:Rd α} [Ju E R] {w:World} {lo hi:Nat} {a:Option Addr} {n t:Nat} {xs:List α} (h:Dl E w lo hi a n t xs):Ac R w a n xs:=by
 obtain ⟨b,h,_⟩:=h;exact h.arr
theorem Dl.mod {α:Type} {E:Ow α} {R:Rd α} [Ju E R] {S:Nat->Prop} {w w':World} {lo hi:Nat} {a:Option Addr} {n t:Nat} {xs:List α} (h:Dl E w lo hi a n t xs) (m:BP S w w') (hs:∀ k,lo<=k->k<hi->¬ S k):Dl E w' lo hi a n t xs:=by
 obtain ⟨c,h,hi⟩:=h;exact ⟨c,h.keep fun k b=>m.block k (hs k (hi.2 k b).1 (hi.2 k b).2) (h.lt k b),hi⟩
theorem Dl.ext {α:Type} {E:Ow α} {R:Rd α} [Ju E R] {w w':World} {lo hi:Nat} {a:Option Addr} {n t:Nat} {xs:List α} (h:Dl E w lo hi a n t xs) (e:AD w w'):Dl E w' lo hi a n t xs:=by
 obtain ⟨c,h,hi⟩:=h;exact ⟨c,h.keep fun b d=>e.block b (h.lt b d),hi⟩
theorem Dl.wide {α:Type} {E:Ow α} {w:World} {lo hi lo' hi':Nat} {a:Option Addr} {n t:Nat} {xs:List α} (h:Dl E w lo hi a n t xs) (h1:lo'<=lo) (h2:hi<=hi'):Dl E w lo' hi' a n t xs:=by
 obtain ⟨d,h,hi⟩:=h;exact ⟨d,h,hi.1,fun c b=>⟨Nat.le_trans h1 (hi.2 c b).1,Nat.lt_of_lt_of_le (hi.2 c b).2 h2⟩⟩
theorem IT {fps:List (List Nat)} (h:fps.flatten.Nodup) {i:Nat} {f:List Nat} (hi:fps[i]? = some f):f.Nodup/\∀ j g,j≠i->fps[j]? = some g->∀ k∈g,k∉f:=by
 induction fps generalizing i with
 | nil=>simp at hi
 | cons q r n =>
  rw [List.flatten_cons,List.nodup_append] at h;obtain ⟨l,m,d⟩:=h;cases i with
  | zero =>
   simp at hi;subst hi;refine ⟨l,fun j g e a k b c=>?_⟩;cases j with
   | zero=>exact e rfl
   | succ j =>
    simp at a;exact d k c k (EB a b) rfl
  | succ i =>
   simp at hi;obtain ⟨o,p⟩:=n m hi;refine ⟨o,fun j g e a k b c=>?_⟩;cases j with
   | zero =>
    simp at a;subst a;exact d k b k (EB hi c) rfl
   | succ j=>exact p j g om (by simpa using a) k b c
theorem DM.focus {α:Type} {E:Ow α} {R:Rd α} [Ju E R] {w:World} {a:Option Addr} {n t:Nat} {xs:List α} {fp:List Nat} (h:DM E w a n t xs fp) (hnd:fp.Nodup) {i:Nat} {x:α} (hx:xs[i]? = some x) :
  ∃ b d f,a=some ⟨b,0,none⟩/\b∈fp/\AK w b (0+i * 1) (eH d)/\E w d x f/\f.Nodup/\(∀ k∈f,k∈fp)/\b∉f /\
   ∀ w' x',BP (fun k=>k∈f) w w'->E w' d x' f->DM E w' a n t (xs.set i x') fp:=by
 obtain ⟨aa,u,j,c,rfl⟩:=h;have z:=(List.getElem?_eq_some_iff.1 hx).1;obtain ⟨d,q⟩:∃ d,aa[i]? = some d:=⟨_,List.getElem?_eq_getElem (by rw [c.1];exact z)⟩;obtain ⟨f,g⟩:∃ f,u[i]? = some f:=⟨_,List.getElem?_eq_getElem (by rw [c.2.1];exact z)⟩;rw [List.nodup_append] at hnd;obtain ⟨_,ah,ac⟩:=hnd;obtain ⟨ai,aj⟩:=IT ah g;have ag:0<n:=by rw [<- j.1,c.1];omega
 obtain ⟨b,rfl⟩:=j.some ag;refine ⟨b,d,f,rfl,by simp [BW],AU Dz j q,c.2.2 i d x f q hx g,ai,fun k e=>List.mem_append_right _ (EB g e),fun p=>ac b (by simp [BW]) b (EB g p) rfl,fun w' x' ab ad=>?_⟩;have ae:b∉f:=fun p=>ac b (by simp [BW]) b (EB g p) rfl;have af:b<w.heap.size:=j.lt _ rfl;refine ⟨aa,u,j.keep fun k e=>?_,⟨by simp [c.1],by simp [c.2.1],fun s h ak v o l m=>?_⟩,rfl⟩
 .simp only [BW,List.mem_singleton] at e;subst e;exact ab.block k ae af
 .by_cases r:s=i
  .subst r;rw [q] at o;rw [g] at m;simp only [Option.some.injEq] at o m;subst o;subst m;rw [D6 hx] at l;simp only [Option.some.injEq] at l;subst l;exact ad
  .rw [List.getElem?_set_ne (Ne.symm r)] at l;have y:=c.2.2 s h ak v o l m;exact Ju.keep y fun k e=>ab.block k (aj s v r m k e) (Ju.lt y k e)
def DD {α:Type} (mk:Nat->α->α) (wt:α->Nat):Nat->List α->List α
 | _,[]=>[]
 | k,x :: xs=>mk k x :: DD mk wt (k+wt x) xs
def Ai {α:Type} (wt:α->Nat) (xs:List α):Nat:=(xs.map wt).sum
section
variable {α:Type} {mk:Nat->α->α} {wt:α->Nat}
theorem Lw (x:α) (xs:List α):Ai wt (x :: xs)=wt x+Ai wt xs:=by simp [Ai]
theorem Ep {xs:List α} {k:Nat} {x:α} (h:xs[k]? = some x):Ai wt (xs.take (k+1))=Ai wt (xs.take k)+wt x:=by
 simp [Ai,List.take_add_one,h]
theorem Hq {xs:List α} {k:Nat} {x:α} (h:xs[k]? = some x):Ai wt (xs.take k)+wt x<=Ai wt xs:=by
 have a:xs=xs.take k++x :: xs.drop (k+1):=(GW h).symm;conv=>rhs;rw [a]
 simp [Ai]
theorem FX:∀ (xs:List α) (k:Nat),(DD mk wt k xs).length=xs.length
 | [],_=>rfl
 | x :: xs,k=>by simp [DD,FX xs]
theorem QW:∀ (xs:List α) (k:Nat) (x:α),DD mk wt k (xs++[x])=DD mk wt k xs++[mk (k+Ai wt xs) x]
 | [],k,x=>by simp [DD,Ai]
 | y :: xs,k,x=>by
  simp only [List.cons_append,DD,QW xs,Lw];rw [Nat.add_assoc]
theorem LG:∀ {xs:List α} {i:Nat} {x:α} (k:Nat),xs[i]? = some x->(DD mk wt k xs)[i]? = some (mk (k+Ai wt (xs.take i)) x)
 | [],i,x,k,h=>by simp at h
 | y :: xs,0,x,k,h=>by simp at h;subst h;simp [DD,Ai]
 | y :: xs,i+1,x,k,h=>by
  have:=LG (k+wt y) (show xs[i]? = some x by simpa using h);simp only [DD,List.getElem?_cons_succ,List.take_succ_cons,Lw];rw [this,Nat.add_assoc]
theorem Qa {xs:List α} {i:Nat} {x:α} (k:Nat) (h:xs[i]? = some x):(DD mk wt k (xs.take i)++xs.drop i)[i]? = some x:=by
 have b:=(List.getElem?_eq_some_iff.1 h).1;have a:(DD mk wt k (xs.take i)).length=i:=by rw [FX];simp;omega
 rw [List.getElem?_append_right om,a,Nat.sub_self,List.getElem?_drop];simpa using h
theorem QZ {xs:List α} {i:Nat} {x:α} (k:Nat) (h:xs[i]? = some x) :
  (DD mk wt k (xs.take i)++xs.drop i).set i (mk (k+Ai wt (xs.take i)) x)=DD mk wt k (xs.take (i+1))++xs.drop (i+1):=by
 have b:=(List.getElem?_eq_some_iff.1 h).1;have a:(DD mk wt k (xs.take i)).length=i:=by rw [FX];simp;omega
 rw [List.set_append_right _ _ om,a,Nat.sub_self,Gv h,List.set_cons_zero,List.take_add_one,h];simp only [Option.toList_some,QW,List.append_assoc,List.cons_append,List.nil_append]
end
theorem HJ.snoc {α:Type} {E:Ow α} {w:World} {hs:List Hd} {xs:List α} {fps:List (List Nat)} (h:HJ E w hs xs fps) {d:Hd} {x:α} {f:List Nat} (hd:E w d x f):HJ E w (hs++[d]) (xs++[x]) (fps++[f]):=by
 obtain ⟨e,g,l⟩:=h;refine ⟨by simp [e],by simp [g],fun i j n k b a c=>?_⟩;rcases Nat.lt_trichotomy i xs.length with p | m | o
 .rw [List.getElem?_append_left om] at b a c;exact l i j n k b a c
 .subst m;rw [<- e,List.getElem?_concat_length] at b;rw [List.getElem?_concat_length] at a;rw [<- g,List.getElem?_concat_length] at c;simp only [Option.some.injEq] at b a c;subst b;subst a;subst c;exact hd
 .rw [List.getElem?_eq_none sW] at a;cases a
theorem HJ.nil {α:Type} {E:Ow α} {w:World}:HJ E w [] ([]:List α) []:=⟨rfl,rfl,fun d c e b a=>by simp at a⟩
theorem Fg.nil {lo hi:Nat}:Fg lo hi []:=⟨List.nodup_nil,sI⟩
theorem Fg.app {lo s s':Nat} {p f:List Nat} (h:Fg lo s p) (hf:Fg s s' f) (h1:lo<=s) (h2:s<=s'):Fg lo s' (p++f):=by
 refine ⟨List.nodup_append.2 ⟨h.1,hf.1,fun c e d g=>?_⟩,fun b a=>?_⟩
 .have:=(h.2 c e).2;have:=(hf.2 d g).1;omega
 .rcases List.mem_append.1 a with a | a
  .have:=h.2 b a;omega
  .have:=hf.2 b a;omega
theorem Fg.wide {lo hi lo' hi':Nat} {p:List Nat} (h:Fg lo hi p) (h1:lo'<=lo) (h2:hi<=hi'):Fg lo' hi' p :=
 ⟨h.1,fun b a=>⟨Nat.le_trans h1 (h.2 b a).1,Nat.lt_of_lt_of_le (h.2 b a).2 h2⟩⟩
theorem DB {lo:Nat} {a:Option Addr} {s:Nat} (h:Ab lo a) (hl:∀ x,a=some x->x.block<s):Fg lo s (BW a):=by
 cases a with
 | none=>exact Fg.nil
 | some x=>exact ⟨by simp [Vc.BW],by simp only [Vc.BW,List.mem_singleton];rintro b rfl;exact ⟨h x rfl,hl x rfl⟩⟩
theorem FR {α:Type} {enc:α->List Value} {w:World} {a:Option Addr} {n c t:Nat} {xs:List α} (h:Bs enc w a n t xs) (hc:n<=c):OA enc w ⟨a,n,c⟩ xs (BW a):=⟨⟨t,h⟩,hc,rfl⟩
def Bm {α:Type} (E:Ow α) (lo t:Nat) (w:World) (a:Option Addr) (n c:Nat) (xs:List α):Prop :=
 ∃ hs fps,An eH 1 lo t w a n c hs/\HJ E w hs xs fps/\Fg lo w.heap.size (BW a++fps.flatten)
theorem Bm.ext {α:Type} {E:Ow α} {R:Rd α} [Ju E R] {lo t:Nat} {w w':World} {a:Option Addr} {n c:Nat} {xs:List α} (h:Bm E lo t w a n c xs) (e:AD w w'):Bm E lo t w' a n c xs:=by
 obtain ⟨k,f,g,b,i⟩:=h;exact ⟨k,f,g.ext e,b.keep (fun d j=>e.block d (b.lt d j)),i.wide (Nat.le_refl _) e.size⟩
theorem Bm.ownN {α:Type} {E:Ow α} {lo t:Nat} {w:World} {a:Option Addr} {n c:Nat} {xs:List α} (h:Bm E lo t w a n c xs):Dl E w lo w.heap.size a n t xs:=by
 obtain ⟨g,b,d,e,f⟩:=h;exact ⟨_,⟨g,b,d.own,e,rfl⟩,f⟩
theorem Bm.le {α:Type} {E:Ow α} {lo t:Nat} {w:World} {a:Option Addr} {n c:Nat} {xs:List α} (h:Bm E lo t w a n c xs):n<=c/\xs.length=n:=by
 obtain ⟨g,e,b,d,f⟩:=h;exact ⟨b.le.1,by rw [<- d.1,b.len]⟩
theorem EO {α:Type} {E:Ow α} {w:World} {B b e:Nat} (h:B8 w b [] e) (hB:B<=b):Bm E B e w (some ⟨b,0,none⟩) 0 0 ([]:List α) :=
 ⟨[],[],Ag Dz h hB,HJ.nil,by
  have a:=h.lt;exact ⟨by simp [BW],by simp only [BW,List.flatten_nil,List.append_nil,List.mem_singleton];rintro c rfl;exact ⟨hB,a⟩⟩⟩
theorem Xo {α:Type} {E:Ow α} {w:World} {B e:Nat}:Bm E B e w none 0 0 ([]:List α) :=
 ⟨[],[],An.nil,HJ.nil,by exact Fg.nil⟩
theorem Cb {P:Program} {α:Type} {E:Ow α} {R:Rd α} [Ju E R] {t e by_ lo:Nat} {zs:List Value} (ht:C8 P t=some (e,zs,by_)) (hz:zs.length=1) {u w:World} {a:Option Addr} {n c:Nat} {xs:List α} (h:Bm E lo e u a n c xs) (hlo:lo<=u.heap.size) (hu:AD u w)
  {b c':Nat} {d:Hd} {x:α} {f:List Nat} (hd:E w d x f) (hf:Fg u.heap.size w.heap.size f) (hy:AK w b 0 (eH d)) (hsm:n+1<=1099511627776) (hby:(n+1) * by_<=140737488355328) {ty:Nat} {cs:Array Bool} {K:Next->World->Prop}
  (hK:∀ a' c' w',Bm E lo e w' a' (n+1) c' (xs++[x])->BP (AL a) w w'->(∀ k,AL a' k->AL a k\/k=w.heap.size)->K (.value (.slice a' (n+1) c')) w') :
  AB P (builtin .append #[t,t] ty cs #[.slice a n c,.slice (some ⟨b,0,none⟩) 1 c']) w K:=by
 obtain ⟨ae,o,aa,v,q⟩:=h;have ab:=aa.ext hu;rw [<- hz] at ab;refine Ba ht (fun x=>by rw [hz];rfl) ab (ys:=[d]) (m:=1) hy rfl (by simp [Al,eH,AM]) hsm hby (Nat.le_trans hlo hu.size) ?_;intro a' af w' r s ac;rw [hz] at r;refine hK a' af w' ⟨ae++[d],o++[f],r,?_,?_⟩ s ac
 .have aj:HJ E w' ae xs o:=(v.keep fun k g=>by
   rw [s.block k ?_ (Nat.lt_of_lt_of_le (v.lt k g) hu.size)]
   .exact hu.block k (v.lt k g)
   .rintro ak;have:=(List.nodup_append.1 q.1).2.2 k (Az.2 ak) k g;exact this rfl)
  refine aj.snoc (Ju.keep hd fun k g=>s.block k ?_ (hf.2 k g).2);rintro ⟨l,hy,rfl⟩;have:=aa.lt l hy;have:=(hf.2 _ g).1;omega
 .have ao:=s.size;have ag:(o++[f]).flatten=o.flatten++f:=sI
  rw [ag];obtain ⟨aq,am,an⟩:=List.nodup_append.1 q.1;have ai:∀ k,k∈BW a'->k∈BW a\/k=w.heap.size:=fun k g=>(ac k (Az.1 g)).imp (fun h=>Az.2 h) id;have al:∀ k,k∈BW a'->k<w'.heap.size:=fun k g=>by
   obtain ⟨l,hy,rfl⟩:=Az.1 g;exact r.lt l hy
  have ah:∀ k,k∈BW a'->lo<=k:=fun k g=>by
   obtain ⟨l,hy,rfl⟩:=Az.1 g;exact r.new l hy
  have y:∀ k∈o.flatten,lo<=k/\k<u.heap.size:=fun k g=>q.2 k (List.mem_append_right _ g);have ap:=hu.size;refine ⟨List.nodup_append.2 ⟨?_,List.nodup_append.2 ⟨am,hf.1,fun p z j i=>?_⟩,fun p z j i=>?_⟩,fun k g=>?_⟩
  .cases a' with
   | none=>simp [BW]
   | some l=>simp [BW]
  .have:=(y p z).2;have:=(hf.2 j i).1;omega
  .rcases ai p z with ad | rfl
   .rcases List.mem_append.1 i with i | i
    .exact an p ad j i
    .have:=q.2 p (List.mem_append_left _ ad);have:=(hf.2 j i).1;omega
   .rcases List.mem_append.1 i with i | i
    .have:=(y j i).2;omega
    .have:=(hf.2 j i).2;omega
  .rcases List.mem_append.1 g with g | g
   .exact ⟨ah k g,al k g⟩
   .rcases List.mem_append.1 g with g | g
    .have:=y k g;omega
    .have:=hf.2 k g;omega
def Er (P:Program) (t:Nat):Option (List Value×List (Nat×Nat)) :=
 match P.info? t,P.underlying t with
 | some it,some (.struct fields) =>
  match it.zero,fields.toList.mapM (fun f=>(P.info? f.type).map fun i=>(f.offset,i.size)) with
  | some z,some places=>some (z.cells.toList,places)
  | _,_=>none
 | _,_=>none
def RQ (pl:List (Nat×Nat)):List Value->List (Nat×Value)->Option (List Value)
 | cs,[]=>some cs
 | cs,(i,v) :: r =>
  match pl[i]? with
  | none=>none
  | some (off,size) =>
   bif Nat.beq v.cells.toList.length size && Nat.ble (off+size) cs.length then RQ pl (cs.take off++v.cells.toList++cs.drop (off+size)) r else none
theorem RP (pl:List (Nat×Nat)):∀ (parts:List (Nat×Value)) (cs out:List Value),RQ pl cs parts=some out->Instr.fill (pl.toArray[·]?) cs.toArray parts=some out.toArray
 | [],cs,out,h=>by
  simp only [RQ,Option.some.injEq] at h;subst h;rfl
 | (i,v) :: r,cs,out,h=>by
  unfold RQ at h;cases hp:pl[i]? with
  | none=>simp [hp] at h
  | some m =>
   obtain ⟨a,size⟩:=m;simp only [hp] at h;cases b:(Nat.beq v.cells.toList.length size && Nat.ble (a+size) cs.length) with
   | false=>rw [b] at h;cases h
   | true =>
    rw [b] at h;simp only [cond_true] at h;simp only [Bool.and_eq_true] at b;have d:v.cells.size=size:=by simpa using Nat.eq_of_beq_eq_true b.1
    have n:a+size<=cs.length:=Nat.le_of_ble_eq_true b.2;have k:=RP pl r _ out h;unfold Instr.fill;simp only [List.getElem?_toArray,hp];have o:¬ (v.cells.size≠size\/a+v.cells.size > cs.toArray.size):=by
     simp only [List.size_toArray];omega
    have j:(decide (v.cells.size≠size) || decide (a+v.cells.size > cs.toArray.size))=false:=by
     simp only [List.size_toArray,Bool.or_eq_false_iff,decide_eq_false_iff_not];omega
    have e:=Jl v.cells.toList cs.toArray a 0;have f:v.cells.zipIdx.foldl (fun cs (c,l)=>cs.setIfInBounds (a+l) c) cs.toArray=(cs.take a++v.cells.toList++cs.drop (a+size)).toArray:=by
     rw [<- Array.foldl_toList];have g:v.cells.zipIdx.toList=v.cells.toList.zipIdx 0:=sI
     rw [g];apply Array.toList_inj.1;rw [e,I3 _ _ _ sW];simp [d]
    rw [if_neg (by simpa using j),f];simpa using k
theorem VV {P:Program} {t:Nat} {zs:List Value} {pl:List (Nat×Nat)} (h:Er P t=some (zs,pl)) {parts:List (Nat×Value)} {out:List Value} (ho:RQ pl zs parts=some out):P.built t parts=some out.toArray:=by
 unfold Er at h;unfold Program.built;cases a:P.info? t with
 | none=>simp [a] at h
 | some i =>
  cases b:P.underlying t with
  | none=>simp [a,b] at h
  | some f =>
   cases f<;>try (simp [a,b] at h;done)
   case struct fields =>
    cases c:i.zero with
    | none=>simp [a,b,c] at h
    | some k =>
     cases d:fields.toList.mapM (fun e=>(P.info? e.type).map fun g=>(e.offset,g.size)) with
     | none=>simp [a,b,c,d] at h
     | some j =>
      simp only [a,b,c,d,Option.some.injEq,Prod.mk.injEq] at h;obtain ⟨rfl,rfl⟩:=h;have:=RP j parts k.cells.toList out ho;simp only [c,d];simpa using this
theorem AB.build {P:Program} {t:Nat} {zs:List Value} {pl:List (Nat×Nat)} (h:Er P t=some (zs,pl)) {parts:List (Nat×Value)} {out:List Value} (ho:RQ pl zs parts=some out) {w:World} {K:Value->World->Prop} (hK:K (.agg ⟨out⟩) w) :
  AB P (Instr.build t parts.toArray) w K :=
 A6 (run_build w t parts.toArray out.toArray (by simpa using VV h ho)) hK
theorem aG1 {α:Type} {E:Ow α} {w:World} {b e:Nat} (h:B8 w b [] e):OS E w ⟨some ⟨b,0,none⟩,0,0⟩ ([]:List α) [b] :=
 ⟨⟨e,[],[],(Ag Dz h (Nat.le_refl b)).own,HJ.nil,rfl⟩,Nat.le_refl 0⟩
end
section
open Go Go.RowKit Go.ChangeShapes Go.WideShapes
section
variable {H:Type} {enc:TypeId×Value->H} {P:Program}
theorem P5 {α:Type} [Inhabited α] {encα:α->List Value} {ok:α->Prop} {sz e t fuel:Nat} {W:World} {cs:List Value} {x:DataW H×List MemPlace} (ht:P.underlying t=some (.slice e)) (hsz:P.cellsOf e=sz) (hpos:0<sz)
  (hone:∀ (n:Nat) (cs:List Value) (x:DataW H×List MemPlace),DataW.trod enc P W 0 (fun _=>true) true n e cs=some x->∃ y,cs=encα y/\ok y) (hlen:∀ y,(encα y).length=sz)
  (hf:DataW.trod enc P W 0 (fun _=>true) true fuel t cs=some x) :
  ∃ d xs,cs=eH d/\A4 encα sz W d.a d.n xs/\(∀ x∈xs,ok x)/\d.n<=d.c:=by
 rcases Go.Deep.open_slice ht hf with ⟨l,_⟩ | ⟨i,n,c,aj,ap,am,an,l,_,q,ae,r,_,o⟩
 .exact ⟨⟨none,0,0⟩,[],l,A4.nil,sI,Nat.le_refl _⟩
 .simp only [if_true] at r;subst r;rw [hsz] at o;have ai:∀ b,b<n->∃ y,W.cells? 0 (i.add (b * sz)) sz=some (encα y)/\ok y:=fun b g=>by
   obtain ⟨ao,z,j⟩:=o b om;obtain ⟨y,rfl,ah⟩:=hone _ _ _ j;exact ⟨y,z,ah⟩
  obtain ⟨h,k⟩:=Go.Deep.choose_lt ai;refine ⟨⟨some i,n,aj⟩,(List.range n).map h,l,⟨sI,Nat.le_trans q ae,?_⟩,?_,q⟩
  .intro b x f;have g:b<n:=by
    have:=(List.getElem?_eq_some_iff.1 f).1;simpa using this
   simp [g] at f;subst f;obtain ⟨aa,_⟩:=k b g;obtain ⟨_,_,ab⟩:=World.cells?_some aa;obtain ⟨v,ak,al⟩:=i;have af:al=none:=by
    have w:=k 0 om;obtain ⟨_,_,ac⟩:=World.cells?_some w.1;have m:=ac 0 hpos;obtain ⟨aq,ag⟩:∃ u,(encα (h 0))[0]? = some u:=⟨_,List.getElem?_eq_getElem (by rw [hlen];exact hpos)⟩;rw [ag] at m;have j:=World.cell?_spot m;simpa [Addr.add] using j
   subst af;refine ⟨v,ak,rfl,fun s u p=>?_⟩;have ad:s<sz:=by rw [<- hlen (h b)];exact (List.getElem?_eq_some_iff.1 p).1
   have:=ab s ad;rw [p] at this;rw [CT,CT] at this;exact this
  .intro x f;simp at f;obtain ⟨b,g,rfl⟩:=f;exact (k b g).2
theorem PB {β:Type} {Q:Hd->β->Prop}:∀ {hs:List Hd},(∀ d∈hs,∃ y,Q d y)->∃ ys:List β,hs.length=ys.length/\∀ (i:Nat) (d:Hd) (y:β),hs[i]? = some d->ys[i]? = some y->Q d y
 | [],_=>⟨[],rfl,fun i d y h=>by simp at h⟩
 | d :: hs,h=>by
  obtain ⟨y,hy⟩:=h d sI;obtain ⟨ys,e,f⟩:=PB (hs:=hs) fun d g=>h d (by simp [g]);refine ⟨y :: ys,by simp [e],fun i c j a b=>?_⟩;cases i with
  | zero =>
   simp at a b;subst a;subst b;exact hy
  | succ i=>exact f i c j (by simpa using a) (by simpa using b)
theorem NZ {α:Type} {R:Rd α} {ok:α->Prop} {e t fuel:Nat} {W:World} {cs:List Value} {x:DataW H×List MemPlace} (ht:P.underlying t=some (.slice e)) (hsz:P.cellsOf e=1)
  (hone:∀ (n:Nat) (cs:List Value) (x:DataW H×List MemPlace),DataW.trod enc P W 0 (fun _=>true) true n e cs=some x->∃ d y,cs=eH d/\R W d y/\ok y)
  (hf:DataW.trod enc P W 0 (fun _=>true) true fuel t cs=some x) :
  ∃ d xs,cs=eH d/\Ac R W d.a d.n xs/\(∀ x∈xs,ok x)/\d.n<=d.c:=by
 obtain ⟨d,p,j,k,l,m⟩:=P5 (encα:=eH) (ok:=fun d=>∃ y,R W d y/\ok y) ht hsz om (fun n cs x i=>let ⟨d,y,b,f⟩:=hone n cs x i;⟨d,b,y,f⟩) Dz hf;obtain ⟨u,b,f⟩:=PB (Q:=fun d y=>R W d y/\ok y) l;refine ⟨d,u,j,⟨p,k,b,fun g d y r s=>(f g d y r s).1⟩,fun y q=>?_,m⟩;obtain ⟨g,h⟩:=List.mem_iff_getElem?.1 q;have o:=(List.getElem?_eq_some_iff.1 h).1;exact (f g _ y (List.getElem?_eq_getElem (by rw [b];exact o)) h).2
theorem Ly {t fuel:Nat} {W:World} {cs:List Value} {x:DataW H×List MemPlace} {fs:Array Field} (ht:P.underlying t=some (.struct fs)) (hf:DataW.trod enc P W 0 (fun _=>true) true fuel t cs=some x) :
  cs.length=P.cellsOf t/\∀ (i:Nat) (f:Field),fs[i]? = some f->∃ n y,DataW.trod enc P W 0 (fun _=>true) true n f.type ((cs.drop f.offset).take (P.cellsOf f.type))=some y:=by
 obtain ⟨h,n,_,_,e,g,c⟩:=DataW.trod_struct ht hf;refine ⟨e,fun i f a=>⟨n,?_⟩⟩;have b:=c i f a;have d:i<h.length:=by rw [g];exact (Array.getElem?_eq_some_iff.1 a).1
 exact ⟨_,by rw [b];exact List.getElem?_eq_getElem d⟩
theorem MW {t fuel:Nat} {W:World} {cs:List Value} {x:DataW H×List MemPlace} {fs:Array Field} (ht:P.underlying t=some (.struct fs)) (hf:DataW.trod enc P W 0 (fun _=>true) true fuel t cs=some x) (i:Nat) {f:Field} (hi:fs[i]? = some f) {ft off sz:Nat} (h1:f.type=ft) (h2:f.offset=off) (h3:P.cellsOf ft=sz) :
  ∃ n y,DataW.trod enc P W 0 (fun _=>true) true n ft ((cs.drop off).take sz)=some y:=by
 subst h1 h2 h3;exact (Ly ht hf).2 i f hi
theorem Zj {t base:Nat} {W:World} {v:Value} {d:DataW H} {p:List MemPlace} {fs:Array Field} (hu:P.underlying t=some (.struct fs)) (hok:Value.okWide P W .any base t v) (h:DataW.Trod enc P W 0 (fun _=>true) true t v d p) :
  ∃ (cs:List Value) (n:Nat),v = .agg ⟨cs⟩/\DataW.trod enc P W 0 (fun _=>true) true n t cs=some (d,p):=by
 obtain ⟨a,b⟩:=h;unfold Value.okWide at hok;rw [hu] at hok;obtain ⟨cs,rfl,_,_⟩:=hok;exact ⟨cs.toList,a,rfl,b⟩
end
end
end Go.Vc
namespace Go.Proofs.YtalgenmoljcnmaaGreatDoor
open Go Go.RowKit Go.Vc
theorem Oe:Er Tryz.prog 34=some ([.slice none 0 0,.slice none 0 0],[(0,1),(1,1)]):=kR
theorem QD:Er Tryz.prog 36=some ([.slice none 0 0,.slice none 0 0,.string { data := #[] }],[(0,2),(2,1)]):=kR
theorem aK7:Er Tryz.prog 49=some ([.slice none 0 0,.slice none 0 0,.string { data := #[] },.slice none 0 0],[(0,3),(3,1)]):=kR
theorem VU:Er Tryz.prog 68=some ([.slice none 0 0,.slice none 0 0,.slice none 0 0,.slice none 0 0],[(0,1),(1,1),(2,1),(3,1)]):=kR
theorem aK6:Er Tryz.prog 85=some ([.slice none 0 0,.slice none 0 0,.string { data := #[] }],[(0,1),(1,1),(2,1)]):=kR
theorem QC:Er Tryz.prog 90=some ([.int .i64 0,.int .i64 0],[(0,1),(1,1)]):=kR
theorem aG8:Er Tryz.prog 95=some ([.int .i64 0,.int .i64 0,.int .i64 0,.int .i64 0,.int .i64 0,.int .i64 0,.int .i64 0,.int .i64 0,.string { data := #[] }],[(0,1),(1,1),(2,1),(3,1),(4,2),(6,2),(8,1)]):=kR
theorem T7:Er Tryz.prog 133=some ([.int .i64 0,.int .i64 0,.slice none 0 0,.bool false],[(0,2),(2,1),(3,1)]):=kR
theorem KS:Er Tryz.prog 144=some ([.slice none 0 0],[(0,1)]):=kR
theorem Fi:Er Tryz.prog 151=some ([.int .i64 0,.int .i64 0,.int .i64 0,.string { data := #[] }],[(0,1),(1,1),(2,1),(3,1)]):=kR
theorem ZX:Er Tryz.prog 156=some ([.string { data := #[] },.int .i64 0,.int .i64 0,.slice none 0 0],[(0,1),(1,1),(2,1),(3,1)]):=kR
theorem T6:Er Tryz.prog 193=some ([.int .i64 0,.int .i64 0],[(0,1),(1,1)]):=kR
theorem aI1:Er Tryz.prog 218=some ([.slice none 0 0,.slice none 0 0,.slice none 0 0,.slice none 0 0],[(0,1),(1,1),(2,1),(3,1)]):=kR
theorem T5:Er Tryz.prog 226=some ([.slice none 0 0,.slice none 0 0,.slice none 0 0],[(0,1),(1,1),(2,1)]):=kR
theorem ZW:Er Tryz.prog 237=some ([.string { data := #[] },.int .i64 0],[(0,1),(1,1)]):=kR
end Go.Proofs.YtalgenmoljcnmaaGreatDoor
namespace Go.M
open Go Go.Vc
instance:aB7 eI 1:=⟨AI⟩
instance:aB7 eS 1:=⟨AP⟩
instance:aB7 AT.enc 2:=⟨BJ⟩
abbrev AZ:Rd (List Int):=RA eI 1
abbrev CA:Rd (List (List Int)):=RS AZ
abbrev FB:Rd (List AT):=RA AT.enc 2
abbrev Aw:Ow (List Int):=OA eI
abbrev Gm:Ow (List (List Int)):=OS Aw
abbrev En:Ow (List AT):=OA AT.enc
def Kj (k:Nat) (x:List Int):List Int:=E8 k x.length
def Bt (x:List Int):Nat:=x.length
def Jd (k:Nat) (x:List (List Int)):List (List Int):=DD Kj Bt k x
def BR (x:List (List Int)):Nat:=Ai Bt x
def Ir (k:Nat) (x:List AT):List AT:=BO k x.length
def BX (x:List AT):Nat:=2 * x.length
end Go.M
namespace Go.Proofs.YtalgenmoljcnmaaGreatDoor
open Go Go.RowKit Go.Vc Go.M
variable {w:World} {a a':Option Addr} {n n' c c' t k0:Nat} {xs:List (List Int)} {fp:List Nat}
theorem V9 {d d':Hd} {xs ys:List Int} (A:A4 eI 1 w d.a d.n xs) (A':A4 eI 1 w d'.a d'.n ys) :
  Dq 227 [.agg ⟨eH d⟩,.agg ⟨eH d'⟩] w (fun v w'=>v = .bool (decide (xs=ys))/\AD w w'):=by
 refine oV Tryz.func227 ?_;refine AB.box ?_;intro i q l o c f;refine AB.box fun j r m p b g=>jL (f.ext b).cells (k:=0) rfl<|jL g.cells (k:=0) rfl<|dM (SQ (A.ext (xt c b)) (A'.ext (xt c b))) fun s e=>AW (fun h=>?_) fun h=>?_
 .exact ⟨by simp [*],(xt (xt c b) e)⟩
 .exact ⟨by simp [*],(xt (xt c b) e)⟩
theorem Uo {ys:List (List Int)} (h:Ac AZ w a n xs) (h':Ac AZ w a' n' ys) :
  Dq 155 [.slice a n c,.slice a' n' c'] w (fun v w'=>v = .bool (decide (xs=ys))/\AD w w'):=by
 have ao:=h.len;have ap:=h'.len;have an:=h.le;obtain ⟨i,o,z⟩:=h;obtain ⟨ae,p,aa⟩:=h';have al:=o.len;have am:=p.len;refine oV Tryz.func155 ?_;conv=>whnf
 refine AW (fun x=>?_) fun x=>?_
 .exact ⟨by rw [decide_eq_false (fun f=>by subst f;omega)],AD.refl _⟩
 .refine lR [0,1,5] (fun (b:Nat) ag w'=>ag=[.slice a n c,.slice a' n' c',.int .i64 b]/\b<=n/\xs.take b=ys.take b/\AD w w') (fun b=>n - b) 0 ⟨rfl,om,sI,AD.refl _⟩ ?_;rintro b aj _ w' ⟨rfl,ak,ab,e⟩;refine AF (fun y=>?_) fun y=>?_
  .refine dH (pB [0,2,4,6,8,11,13,15,17,19]) ?_;intro az d;obtain ⟨a1,q⟩:∃ j,i[b]? = some j:=AA om;obtain ⟨a3,af,k⟩:=z.get q;have t:=k.1;have ar:=k.2;refine dI (o.ext e) b rfl q fun ah av _ ac=>dA ac rfl ?_;obtain ⟨a2,r⟩:∃ j,ae[b]? = some j:=AA om;obtain ⟨a4,s,l⟩:=aa.get r;have u:=l.1;have au:=l.2;refine jI (p.ext (xt e d)) b rfl r fun ai aw _ ad=>⟨d,jA ad rfl ⟨d,dM (V9 (t.ext (xt e d)) (u.ext (xt e d))) fun a0 g=>⟨(xt d g),AW (fun m=>?_) fun m=>?_⟩⟩⟩
   .refine ⟨?_,(xt (xt e d) g)⟩
    .exact congrArg Value.bool (decide_eq_false (fun f=>by subst f;rw [af] at s;cases s;simp at m)).symm
   .exact jP (((b+1:Nat):Int)) ⟨b+1,om,rfl,om,by simp [List.take_add_one, *],(xt (xt e d) g)⟩
  .have aq:b=n:=om
   have ax:List.take b xs=xs:=List.take_of_length_le om;have ay:List.take b i=i:=List.take_of_length_le om;refine ⟨?_,e⟩
   .exact congrArg Value.bool (decide_eq_true (by rw [<- List.take_of_length_le (show xs.length<=b by omega),ab,List.take_of_length_le om])).symm
theorem Qk (h:DM Aw w a n t xs fp) (hnd:fp.Nodup) (hk0:k0+Ai Bt xs<=1000000000) :
  Dq 157 [.slice a n c,.int .i64 k0] w (fun v w'=>v = .int .i64 ((k0+Ai Bt xs:Nat):Int)/\BP (fun j=>j∈fp) w w'/\DM Aw w' a n t (DD Kj Bt k0 xs) fp):=by
 have aq:=h.len;have ap:=h.arr.le;refine oV Tryz.func157 ?_;refine lR [0,1,5] (fun (b:Nat) ai w'=>ai=[.slice a n c,.int .i64 ((k0+Ai Bt (xs.take b):Nat):Int),.int .i64 b]/\b<=n/\BP (fun j=>j∈fp) w w'/\DM Aw w' a n t (DD Kj Bt k0 (xs.take b)++xs.drop b) fp) (fun b=>n - b) 0 ⟨by simp [Ai];exact ⟨rfl,rfl,rfl⟩,om,Vc.BP.refl _ _,by simpa [DD] using h⟩ ?_;rintro b ak _ w' ⟨rfl,ao,m,g⟩;refine AF (fun u=>?_) fun u=>?_
 .obtain ⟨d,e⟩:∃ d,xs[b]? = some d:=AA om;have ae:=Ep (wt:=Bt) e;have ar:=Hq (wt:=Bt) e;obtain ⟨aj,f,s,rfl,am,y,x,an,ab,al,ad⟩:=g.focus hnd (Qa k0 e);obtain ⟨⟨ah,p⟩,z,o⟩:=x;have aa:d.length=f.n:=p.1;have af:Bt d=f.n:=by unfold Bt;omega
  refine jW (sz:=1) b rfl om<|jL y (k:=0) rfl<|(PM (k0:=k0+Ai Bt (xs.take b)) p om).mono ?_;rintro _ q ⟨rfl,ag,r⟩;refine jP (((b+1:Nat):Int)) ?_;(conv=>whnf);have i:BP (fun j=>j∈s) w' q:=ag.mono fun j ac=>by rw [o];exact Az.2 ac
  have l:=ad q (Kj (k0+Ai Bt (xs.take b)) d) i ⟨⟨ah,by unfold Kj;rw [aa];exact r⟩,z,o⟩;rw [QZ k0 e] at l;exact ⟨b+1,om,by rw [show k0+Ai Bt (xs.take (b+1))=k0+Ai Bt (xs.take b)+f.n by rw [ae,af];omega];rfl,om,m.trans (i.mono ab),l⟩
 ·(conv=>whnf);have:b=n:=om
  subst this;rw [List.take_of_length_le om,List.drop_eq_nil_of_le om,List.append_nil] at g;rw [List.take_of_length_le om];exact ⟨rfl,m,g⟩
theorem Ql (h:Ac AZ w a n (DD Kj Bt k0 xs)) (hk0:k0+Ai Bt xs<=1000000000) :
  Dq 159 [.slice a n c,.int .i64 k0] w (fun v w'=>v = .int .i64 ((k0+Ai Bt xs:Nat):Int)/\AD w w'):=by
 have u:=h.len;rw [FX] at u;have af:=h.le;obtain ⟨x,j,r⟩:=h;have ae:=j.len;refine oV Tryz.func159 ?_;refine lR [0,1,5] (fun (b:Nat) aa w'=>aa=[.slice a n c,.int .i64 ((k0+Ai Bt (xs.take b):Nat):Int),.int .i64 b]/\b<=n/\AD w w') (fun b=>n - b) 0 ⟨by simp [Ai];exact ⟨rfl,rfl,rfl⟩,om,AD.refl _⟩ ?_;rintro b ac _ w' ⟨rfl,ad,f⟩;refine AF (fun q=>?_) fun q=>?_
 .obtain ⟨e,i⟩:∃ e,xs[b]? = some e:=AA om;obtain ⟨d,l⟩:∃ d,x[b]? = some d:=AA om;have y:=Ep (wt:=Bt) i;have ag:=Hq (wt:=Bt) i;have s:=r.2 b d _ l (LG k0 i);have g:=s.1;have m:d.n=e.length:=by
   have:=g.len;simp only [Kj,G4,EW] at this;exact this.symm
  have z:Bt e=e.length:=by unfold Bt;omega
  have o:A4 eI 1 w d.a d.n (E8 (k0+Ai Bt (xs.take b)) d.n):=by rw [m];rw [m] at g;exact g
  refine jI (j.ext f) b rfl l ?_;intro ab ah _ t;refine jL t (k:=0) rfl ?_;refine (PR (o.ext f) om).mono ?_;rintro _ ai ⟨rfl,p⟩;(conv=>whnf);try refine iN ?_
  refine jP (((b+1:Nat):Int)) ?_;exact ⟨b+1,om,by rw [show k0+Ai Bt (xs.take (b+1))=k0+Ai Bt (xs.take b)+d.n by rw [y,z];omega];rfl,om,xt f p⟩
 ·(conv=>whnf);have:b=n:=om
  subst this;rw [List.take_of_length_le om];exact ⟨rfl,f⟩
theorem SR {xs ys:List (List (List Int))} (h:Ac CA w a n xs) (h':Ac CA w a' n' ys) :
  Dq 86 [.slice a n c,.slice a' n' c'] w (fun v w'=>v = .bool (decide (xs=ys))/\AD w w'):=by
 have ao:=h.len;have ap:=h'.len;have an:=h.le;obtain ⟨i,o,z⟩:=h;obtain ⟨ae,p,aa⟩:=h';have al:=o.len;have am:=p.len;refine oV Tryz.func86 ?_;conv=>whnf
 refine AW (fun x=>?_) fun x=>?_
 .exact ⟨by rw [decide_eq_false (fun f=>by subst f;omega)],AD.refl _⟩
 .refine lR [0,1,5] (fun (b:Nat) ag w'=>ag=[.slice a n c,.slice a' n' c',.int .i64 b]/\b<=n/\xs.take b=ys.take b/\AD w w') (fun b=>n - b) 0 ⟨rfl,om,sI,AD.refl _⟩ ?_;rintro b aj _ w' ⟨rfl,ak,ab,e⟩;refine AF (fun y=>?_) fun y=>?_
  .refine dH (pB [0,2,4,6,8,11,13,15,17,19]) ?_;intro az d;obtain ⟨a1,q⟩:∃ j,i[b]? = some j:=AA om;obtain ⟨a3,af,k⟩:=z.get q;have t:=k.1;have ar:=k.2;refine dI (o.ext e) b rfl q fun ah av _ ac=>dO ac rfl ?_;obtain ⟨a2,r⟩:∃ j,ae[b]? = some j:=AA om;obtain ⟨a4,s,l⟩:=aa.get r;have u:=l.1;have au:=l.2;refine jI (p.ext (xt e d)) b rfl r fun ai aw _ ad=>⟨d,jO ad rfl ⟨d,dM (Uo (t.ext (xt e d)) (u.ext (xt e d))) fun a0 g=>⟨(xt d g),AW (fun m=>?_) fun m=>?_⟩⟩⟩
   .refine ⟨?_,(xt (xt e d) g)⟩
    .exact congrArg Value.bool (decide_eq_false (fun f=>by subst f;rw [af] at s;cases s;simp at m)).symm
   .exact jP (((b+1:Nat):Int)) ⟨b+1,om,rfl,om,by simp [List.take_add_one, *],(xt (xt e d) g)⟩
  .have aq:b=n:=om
   have ax:List.take b xs=xs:=List.take_of_length_le om;have ay:List.take b i=i:=List.take_of_length_le om;refine ⟨?_,e⟩
   .exact congrArg Value.bool (decide_eq_true (by rw [<- List.take_of_length_le (show xs.length<=b by omega),ab,List.take_of_length_le om])).symm
theorem PN {xs:List (List (List Int))} (h:DM Gm w a n t xs fp) (hnd:fp.Nodup) (hk0:k0+Ai BR xs<=1000000000) :
  Dq 88 [.slice a n c,.int .i64 k0] w (fun v w'=>v = .int .i64 ((k0+Ai BR xs:Nat):Int)/\BP (fun j=>j∈fp) w w'/\DM Gm w' a n t (DD Jd BR k0 xs) fp):=by
 have am:=h.len;have al:=h.arr.le;refine oV Tryz.func88 ?_;refine lR [0,1,5] (fun (b:Nat) ac w'=>ac=[.slice a n c,.int .i64 ((k0+Ai BR (xs.take b):Nat):Int),.int .i64 b]/\b<=n/\BP (fun j=>j∈fp) w w'/\DM Gm w' a n t (DD Jd BR k0 (xs.take b)++xs.drop b) fp) (fun b=>n - b) 0 ⟨by simp [Ai];exact ⟨rfl,rfl,rfl⟩,om,Vc.BP.refl _ _,by simpa [DD] using h⟩ ?_;rintro b ah _ w' ⟨rfl,ak,l,f⟩;refine AF (fun o=>?_) fun o=>?_
 .obtain ⟨d,e⟩:∃ d,xs[b]? = some d:=AA om;have z:=Ep (wt:=BR) e;have an:=Hq (wt:=BR) e;obtain ⟨ae,af,ag,rfl,aj,q,p,s,u,ai,y⟩:=f.focus hnd (Qa k0 e);obtain ⟨⟨ab,x⟩,r⟩:=p;have aa:BR d=Ai Bt d:=rfl;refine jW (sz:=1) b rfl om<|jL q (k:=0) rfl<|(Qk (k0:=k0+Ai BR (xs.take b)) x s om).mono ?_;rintro _ ad ⟨rfl,g,m⟩;refine jP (((b+1:Nat):Int)) ?_;(conv=>whnf);have i:=y ad (Jd (k0+Ai BR (xs.take b)) d) g ⟨⟨ab,m⟩,r⟩;rw [QZ k0 e] at i;exact ⟨b+1,om,by rw [show k0+Ai BR (xs.take (b+1))=k0+Ai BR (xs.take b)+Ai Bt d by rw [z,aa];omega];rfl,om,l.trans (g.mono u),i⟩
 ·(conv=>whnf);have:b=n:=om
  subst this;rw [List.take_of_length_le om,List.drop_eq_nil_of_le om,List.append_nil] at f;rw [List.take_of_length_le om];exact ⟨rfl,l,f⟩
theorem PS {xs:List (List (List Int))} (h:Ac CA w a n (DD Jd BR k0 xs)) (hk0:k0+Ai BR xs<=1000000000) :
  Dq 90 [.slice a n c,.int .i64 k0] w (fun v w'=>v = .int .i64 ((k0+Ai BR xs:Nat):Int)/\AD w w'):=by
 have t:=h.len;rw [FX] at t;have ae:=h.le;obtain ⟨u,i,q⟩:=h;have ad:=i.len;refine oV Tryz.func90 ?_;refine lR [0,1,5] (fun (b:Nat) z w'=>z=[.slice a n c,.int .i64 ((k0+Ai BR (xs.take b):Nat):Int),.int .i64 b]/\b<=n/\AD w w') (fun b=>n - b) 0 ⟨by simp [Ai];exact ⟨rfl,rfl,rfl⟩,om,AD.refl _⟩ ?_;rintro b ab _ w' ⟨rfl,ac,f⟩;refine AF (fun p=>?_) fun p=>?_
 .obtain ⟨d,g⟩:∃ d,xs[b]? = some d:=AA om;obtain ⟨e,j⟩:∃ e,u[b]? = some e:=AA om;have x:=Ep (wt:=BR) g;have af:=Hq (wt:=BR) g;have r:=q.2 b e _ j (LG k0 g);have l:=r.1;have y:BR d=Ai Bt d:=rfl;have m:Ac AZ w e.a e.n (DD Kj Bt (k0+Ai BR (xs.take b)) d):=l;refine jI (i.ext f) b rfl j ?_;intro aa ag _ s;refine jL s (k:=0) rfl ?_;refine (Ql (m.ext f) om).mono ?_;rintro _ ah ⟨rfl,o⟩;(conv=>whnf);try refine iN ?_
  refine jP (((b+1:Nat):Int)) ?_;exact ⟨b+1,om,by rw [show k0+Ai BR (xs.take (b+1))=k0+Ai BR (xs.take b)+Ai Bt d by rw [x,y];omega];rfl,om,xt f o⟩
 ·(conv=>whnf);have:b=n:=om
  subst this;rw [List.take_of_length_le om];exact ⟨rfl,f⟩
theorem Qm {xs ys:List (List AT)} (h:Ac FB w a n xs) (h':Ac FB w a' n' ys) :
  Dq 87 [.slice a n c,.slice a' n' c'] w (fun v w'=>v = .bool (decide (xs=ys))/\AD w w'):=by
 have ao:=h.len;have ap:=h'.len;have an:=h.le;obtain ⟨i,o,z⟩:=h;obtain ⟨ae,p,aa⟩:=h';have al:=o.len;have am:=p.len;refine oV Tryz.func87 ?_;conv=>whnf
 refine AW (fun x=>?_) fun x=>?_
 .exact ⟨by rw [decide_eq_false (fun f=>by subst f;omega)],AD.refl _⟩
 .refine lR [0,1,5] (fun (b:Nat) ag w'=>ag=[.slice a n c,.slice a' n' c',.int .i64 b]/\b<=n/\xs.take b=ys.take b/\AD w w') (fun b=>n - b) 0 ⟨rfl,om,sI,AD.refl _⟩ ?_;rintro b aj _ w' ⟨rfl,ak,ab,e⟩;refine AF (fun y=>?_) fun y=>?_
  .refine dH (pB [0,2,4,6,8,11,13,15,17,19]) ?_;intro az d;obtain ⟨a1,q⟩:∃ j,i[b]? = some j:=AA om;obtain ⟨a3,af,k⟩:=z.get q;have t:=k.1;have ar:=k.2;refine dI (o.ext e) b rfl q fun ah av _ ac=>dO ac rfl ?_;obtain ⟨a2,r⟩:∃ j,ae[b]? = some j:=AA om;obtain ⟨a4,s,l⟩:=aa.get r;have u:=l.1;have au:=l.2;refine jI (p.ext (xt e d)) b rfl r fun ai aw _ ad=>⟨d,jO ad rfl ⟨d,dM (SO (t.ext (xt e d)) (u.ext (xt e d))) fun a0 g=>⟨(xt d g),AW (fun m=>?_) fun m=>?_⟩⟩⟩
   .refine ⟨?_,(xt (xt e d) g)⟩
    .exact congrArg Value.bool (decide_eq_false (fun f=>by subst f;rw [af] at s;cases s;simp at m)).symm
   .exact jP (((b+1:Nat):Int)) ⟨b+1,om,rfl,om,by simp [List.take_add_one, *],(xt (xt e d) g)⟩
  .have aq:b=n:=om
   have ax:List.take b xs=xs:=List.take_of_length_le om;have ay:List.take b i=i:=List.take_of_length_le om;refine ⟨?_,e⟩
   .exact congrArg Value.bool (decide_eq_true (by rw [<- List.take_of_length_le (show xs.length<=b by omega),ab,List.take_of_length_le om])).symm
theorem N1 {xs:List (List AT)} (h:DM En w a n t xs fp) (hnd:fp.Nodup) (hk0:k0+Ai BX xs<=1000000000) :
  Dq 89 [.slice a n c,.int .i64 k0] w (fun v w'=>v = .int .i64 ((k0+Ai BX xs:Nat):Int)/\BP (fun j=>j∈fp) w w'/\DM En w' a n t (DD Ir BX k0 xs) fp):=by
 have aq:=h.len;have ap:=h.arr.le;refine oV Tryz.func89 ?_;refine lR [0,1,5] (fun (b:Nat) ai w'=>ai=[.slice a n c,.int .i64 ((k0+Ai BX (xs.take b):Nat):Int),.int .i64 b]/\b<=n/\BP (fun j=>j∈fp) w w'/\DM En w' a n t (DD Ir BX k0 (xs.take b)++xs.drop b) fp) (fun b=>n - b) 0 ⟨by simp [Ai];exact ⟨rfl,rfl,rfl⟩,om,Vc.BP.refl _ _,by simpa [DD] using h⟩ ?_;rintro b ak _ w' ⟨rfl,ao,m,g⟩;refine AF (fun u=>?_) fun u=>?_
 .obtain ⟨d,e⟩:∃ d,xs[b]? = some d:=AA om;have ae:=Ep (wt:=BX) e;have ar:=Hq (wt:=BX) e;obtain ⟨aj,f,s,rfl,am,y,x,an,ab,al,ad⟩:=g.focus hnd (Qa k0 e);obtain ⟨⟨ah,p⟩,z,o⟩:=x;have aa:d.length=f.n:=p.1;have af:BX d=2 * f.n:=by unfold BX;omega
  refine jW (sz:=1) b rfl om<|jL y (k:=0) rfl<|(PK (k0:=k0+Ai BX (xs.take b)) p om).mono ?_;rintro _ q ⟨rfl,ag,r⟩;refine jP (((b+1:Nat):Int)) ?_;(conv=>whnf);have i:BP (fun j=>j∈s) w' q:=ag.mono fun j ac=>by rw [o];exact Az.2 ac
  have l:=ad q (Ir (k0+Ai BX (xs.take b)) d) i ⟨⟨ah,by unfold Ir;rw [aa];exact r⟩,z,o⟩;rw [QZ k0 e] at l;exact ⟨b+1,om,by rw [show k0+Ai BX (xs.take (b+1))=k0+Ai BX (xs.take b)+2 * f.n by rw [ae,af];omega];rfl,om,m.trans (i.mono ab),l⟩
 ·(conv=>whnf);have:b=n:=om
  subst this;rw [List.take_of_length_le om,List.drop_eq_nil_of_le om,List.append_nil] at g;rw [List.take_of_length_le om];exact ⟨rfl,m,g⟩
theorem N3 {xs:List (List AT)} (h:Ac FB w a n (DD Ir BX k0 xs)) (hk0:k0+Ai BX xs<=1000000000) :
  Dq 91 [.slice a n c,.int .i64 k0] w (fun v w'=>v = .int .i64 ((k0+Ai BX xs:Nat):Int)/\AD w w'):=by
 have u:=h.len;rw [FX] at u;have af:=h.le;obtain ⟨x,j,r⟩:=h;have ae:=j.len;refine oV Tryz.func91 ?_;refine lR [0,1,5] (fun (b:Nat) aa w'=>aa=[.slice a n c,.int .i64 ((k0+Ai BX (xs.take b):Nat):Int),.int .i64 b]/\b<=n/\AD w w') (fun b=>n - b) 0 ⟨by simp [Ai];exact ⟨rfl,rfl,rfl⟩,om,AD.refl _⟩ ?_;rintro b ac _ w' ⟨rfl,ad,f⟩;refine AF (fun q=>?_) fun q=>?_
 .obtain ⟨e,i⟩:∃ e,xs[b]? = some e:=AA om;obtain ⟨d,l⟩:∃ d,x[b]? = some d:=AA om;have y:=Ep (wt:=BX) i;have ag:=Hq (wt:=BX) i;have s:=r.2 b d _ l (LG k0 i);have g:=s.1;have m:d.n=e.length:=by
   have:=g.len;simp only [Ir,G4,EW] at this;exact this.symm
  have z:BX e=2 * e.length:=by unfold BX;omega
  have o:A4 AT.enc 2 w d.a d.n (BO (k0+Ai BX (xs.take b)) d.n):=by rw [m];rw [m] at g;exact g
  refine jI (j.ext f) b rfl l ?_;intro ab ah _ t;refine jL t (k:=0) rfl ?_;refine (PO (o.ext f) om).mono ?_;rintro _ ai ⟨rfl,p⟩;(conv=>whnf);try refine iN ?_
  refine jP (((b+1:Nat):Int)) ?_;exact ⟨b+1,om,by rw [show k0+Ai BX (xs.take (b+1))=k0+Ai BX (xs.take b)+2 * d.n by rw [y,z];omega];rfl,om,xt f p⟩
 ·(conv=>whnf);have:b=n:=om
  subst this;rw [List.take_of_length_le om];exact ⟨rfl,f⟩
end Go.Proofs.YtalgenmoljcnmaaGreatDoor
