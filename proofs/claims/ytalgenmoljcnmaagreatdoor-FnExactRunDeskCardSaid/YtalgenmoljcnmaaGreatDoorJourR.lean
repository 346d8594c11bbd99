/- Parts of the proof; no conditions of its own. -/
import Derived.Test.YtalgenmoljcnmaaGreatDoorVcWrite
import Derived.Test.YtalgenmoljcnmaaGreatDoorNum
import Derived.Test.YtalgenmoljcnmaaGreatDoorLibSl
import Derived.Test.YtalgenmoljcnmaaGreatDoorOffice
namespace Go.Proofs.YtalgenmoljcnmaaGreatDoor
open Go Go.RowKit Go.Vc Go.M Go.Shelf Go.Proofs
variable {w:World} {log:ByteArray}
theorem K6 {line:ByteArray} (hs:line.size<=4000) {before:Int} (h0:0<=before) (h1:before<=65520) (hT:F7 w) (hE:EP w) (hM:Dy w) :
  Dq 254 [.string line,.int .i64 before] w (fun v w'=>((∃ n c,Df line before=some (n,c)/\v = .tuple #[.agg ⟨An.enc n⟩,.int .i64 c,.bool true]) \/
   (Df line before=none/\∃ n c,v = .tuple #[.agg ⟨An.enc n⟩,.int .i64 c,.bool false]))/\AD w w'):=by
 have b9:Aq 32 line≠[]:=fun a8=>by have:=PV 32 line;rw [a8] at this;simp at this
 by_cases a':(Aq 32 line).length=5
 .obtain ⟨am,j,k,l,m,af⟩:=aB1 a';have u:=IP af before;have ck:j.size<=line.size:=D3 (c:=32) (by rw [af];simp);have cl:k.size<=line.size:=D3 (c:=32) (by rw [af];simp);have cm:l.size<=line.size:=D3 (c:=32) (by rw [af];simp);have cn:m.size<=line.size:=D3 (c:=32) (by rw [af];simp);have al:An.ok ⟨Al j,Al k,Al l,m⟩:=⟨Gm j,Gm k,Gm l,by simp only [Nt];omega⟩;have ay:[am,j,k,l,m][1]? = some j:=rfl;have az:[am,j,k,l,m][2]? = some k:=rfl;have a0:[am,j,k,l,m][3]? = some l:=rfl;have a1:[am,j,k,l,m][4]? = some m:=rfl;obtain ⟨g,ag⟩:∃ g:An,g=⟨Al j,Al k,Al l,m⟩:=⟨_,rfl⟩;rw [<- ag] at u al;have av:=Hz before h0 g;have b8:=KY av.1 av.2 al;have b3:∀ i,Dq 204 [.agg #[.int .i64 (Al j),.int .i64 (Al k),.int .i64 (Al l),.string m]] i (fun v x=>v = .bool (Cr g)/\AD i x):=fun i=>by
   have:=GL al i;rw [ag] at this ⊢;exact this
  have b1:∀ i,F7 i->g.what.size<=1000->Dq 206 [.int .i64 before,.agg #[.int .i64 (Al j),.int .i64 (Al k),.int .i64 (Al l),.string m]] i (fun v x=>v = .int .i64 (By before g)/\AD i x):=fun i ak bb=>by
   have:=JG h0 h1 al bb ak;rw [ag] at this ⊢;exact this
  have b2:∀ i,F7 i->g.what.size<=1000->Dq 205 [.int .i64 (By before g),.agg #[.int .i64 (Al j),.int .i64 (Al k),.int .i64 (Al l),.string m]] i (fun v x=>v = .string (E0 (By before g) g)/\AD i x):=fun i ak bb=>by
   have:=K7 av.1 av.2 al bb ak;rw [ag] at this ⊢;exact this
  have b4:Cr g=true->g.what.size<=12:=FE;have au:∀ i,Dy i->Dq 30 [.string line,.string ⟨#[32]⟩] i (fun v x=>∃ an,v = .slice (some ⟨an,0,none⟩) 5 5/\A4 eS 1 x (some ⟨an,0,none⟩) 5 [am,j,k,l,m]/\AD i x):=fun i ak =>
   (NK (c:=32) om ak).mono (by
    rintro _ x ⟨an,rfl,bx,bn,a8⟩;rw [af] at bn ⊢;exact ⟨an,rfl,(AG (n:=5) (enc:=eS) AQ bn bx rfl dE).own.arr AQ,a8⟩)
  refine oV Tryz.func254 ?_;conv=>whnf
  cases b5:Ef j
  .refine jN (z := .agg #[.int .i64 0,.int .i64 0,.int .i64 0,.string { data := #[] }]) fun ao a2 s ax d r=>(au _ (hM.ext d)).mono ?_;rintro _ bh ⟨ap,rfl,h,b⟩;refine jI h 1 rfl ay fun a3 bd _ ab=>jO ab rfl<|dM (BB om (hT.ext (xt d b)) (hE.ext (xt d b))) fun bi a=>jI (h.ext a) 2 rfl az fun a4 be _ ac=>jO ac rfl<|dM (BB om (hT.ext (xt (xt d b) a)) (hE.ext (xt (xt d b) a))) fun bj e=>jI (h.ext (xt a e)) 3 rfl a0 fun a5 bf _ ad=>jO ad rfl<|dM (BB om (hT.ext (xt (xt (xt d b) a) e)) (hE.ext (xt (xt (xt d b) a) e))) fun bk f=>jI (h.ext (xt (xt a e) f)) 4 rfl a1 fun a6 bg _ ae=>jO ae rfl<|AB.build FX rfl<|jN (z := .agg #[.int .i64 0,.int .i64 0,.int .i64 0,.string { data := #[] }]) fun a7 bl q bc p y=>AW (vs:=[Value.int IntKind.i64 (Al j),Value.int IntKind.i64 (Al k),Value.int IntKind.i64 (Al l),Value.string m]) kR y rfl rfl (by simp [AE]) fun bm o aa=>iT<|AB.build FX rfl<|jS (vs:=[Value.int IntKind.i64 0,Value.int IntKind.i64 0,Value.int IntKind.i64 0,Value.string { data := #[] }]) (r.ext (xb (xt (xt (xt (xt b a) e) f) p) o.but (nB (xt (xt (xt b a) e) f) q))) rfl rfl (by simp [AE]) fun bp ai ah=>AP (jR (n:=4) rfl ah.cells) ⟨?_,(xb (xb (xt (xt (xt (xt (xt d b) a) e) f) p) o.but (nB (xt (xt (xt (xt d b) a) e) f) q)) ai.but s)⟩
   .exact .inr ⟨by rw [u,if_neg (by simp [*])],⟨0,0,0,{ data := #[] }⟩,0,rfl⟩
  cases b6:Ef k
  .refine jN (z := .agg #[.int .i64 0,.int .i64 0,.int .i64 0,.string { data := #[] }]) fun ao a2 s ax d r=>(au _ (hM.ext d)).mono ?_;rintro _ bh ⟨ap,rfl,h,b⟩;refine jI h 1 rfl ay fun a3 bd _ ab=>jO ab rfl<|dM (BB om (hT.ext (xt d b)) (hE.ext (xt d b))) fun bi a=>jI (h.ext a) 2 rfl az fun a4 be _ ac=>jO ac rfl<|dM (BB om (hT.ext (xt (xt d b) a)) (hE.ext (xt (xt d b) a))) fun bj e=>jI (h.ext (xt a e)) 3 rfl a0 fun a5 bf _ ad=>jO ad rfl<|dM (BB om (hT.ext (xt (xt (xt d b) a) e)) (hE.ext (xt (xt (xt d b) a) e))) fun bk f=>jI (h.ext (xt (xt a e) f)) 4 rfl a1 fun a6 bg _ ae=>jO ae rfl<|AB.build FX rfl<|jN (z := .agg #[.int .i64 0,.int .i64 0,.int .i64 0,.string { data := #[] }]) fun a7 bl q bc p y=>AW (vs:=[Value.int IntKind.i64 (Al j),Value.int IntKind.i64 (Al k),Value.int IntKind.i64 (Al l),Value.string m]) kR y rfl rfl (by simp [AE]) fun bm o aa=>iF<|iT<|AB.build FX rfl<|jS (vs:=[Value.int IntKind.i64 0,Value.int IntKind.i64 0,Value.int IntKind.i64 0,Value.string { data := #[] }]) (r.ext (xb (xt (xt (xt (xt b a) e) f) p) o.but (nB (xt (xt (xt b a) e) f) q))) rfl rfl (by simp [AE]) fun bp ai ah=>AP (jR (n:=4) rfl ah.cells) ⟨?_,(xb (xb (xt (xt (xt (xt (xt d b) a) e) f) p) o.but (nB (xt (xt (xt (xt d b) a) e) f) q)) ai.but s)⟩
   .exact .inr ⟨by rw [u,if_neg (by simp [*])],⟨0,0,0,{ data := #[] }⟩,0,rfl⟩
  cases b7:Ef l
  .refine jN (z := .agg #[.int .i64 0,.int .i64 0,.int .i64 0,.string { data := #[] }]) fun ao a2 s ax d r=>(au _ (hM.ext d)).mono ?_;rintro _ bh ⟨ap,rfl,h,b⟩;refine jI h 1 rfl ay fun a3 bd _ ab=>jO ab rfl<|dM (BB om (hT.ext (xt d b)) (hE.ext (xt d b))) fun bi a=>jI (h.ext a) 2 rfl az fun a4 be _ ac=>jO ac rfl<|dM (BB om (hT.ext (xt (xt d b) a)) (hE.ext (xt (xt d b) a))) fun bj e=>jI (h.ext (xt a e)) 3 rfl a0 fun a5 bf _ ad=>jO ad rfl<|dM (BB om (hT.ext (xt (xt (xt d b) a) e)) (hE.ext (xt (xt (xt d b) a) e))) fun bk f=>jI (h.ext (xt (xt a e) f)) 4 rfl a1 fun a6 bg _ ae=>jO ae rfl<|AB.build FX rfl<|jN (z := .agg #[.int .i64 0,.int .i64 0,.int .i64 0,.string { data := #[] }]) fun a7 bl q bc p y=>AW (vs:=[Value.int IntKind.i64 (Al j),Value.int IntKind.i64 (Al k),Value.int IntKind.i64 (Al l),Value.string m]) kR y rfl rfl (by simp [AE]) fun bm o aa=>iF<|iF<|iT<|AB.build FX rfl<|jS (vs:=[Value.int IntKind.i64 0,Value.int IntKind.i64 0,Value.int IntKind.i64 0,Value.string { data := #[] }]) (r.ext (xb (xt (xt (xt (xt b a) e) f) p) o.but (nB (xt (xt (xt b a) e) f) q))) rfl rfl (by simp [AE]) fun bp ai ah=>AP (jR (n:=4) rfl ah.cells) ⟨?_,(xb (xb (xt (xt (xt (xt (xt d b) a) e) f) p) o.but (nB (xt (xt (xt (xt d b) a) e) f) q)) ai.but s)⟩
   .exact .inr ⟨by rw [u,if_neg (by simp [*])],⟨0,0,0,{ data := #[] }⟩,0,rfl⟩
  refine jN (z := .agg #[.int .i64 0,.int .i64 0,.int .i64 0,.string { data := #[] }]) fun ao a2 s ax d r=>(au _ (hM.ext d)).mono ?_;rintro _ bh ⟨ap,rfl,h,b⟩;refine jI h 1 rfl ay fun a3 bd _ ab=>jO ab rfl<|dM (BB om (hT.ext (xt d b)) (hE.ext (xt d b))) fun bi a=>jI (h.ext a) 2 rfl az fun a4 be _ ac=>jO ac rfl<|dM (BB om (hT.ext (xt (xt d b) a)) (hE.ext (xt (xt d b) a))) fun bj e=>jI (h.ext (xt a e)) 3 rfl a0 fun a5 bf _ ad=>jO ad rfl<|dM (BB om (hT.ext (xt (xt (xt d b) a) e)) (hE.ext (xt (xt (xt d b) a) e))) fun bk f=>jI (h.ext (xt (xt a e) f)) 4 rfl a1 fun a6 bg _ ae=>jO ae rfl<|AB.build FX rfl<|jN (z := .agg #[.int .i64 0,.int .i64 0,.int .i64 0,.string { data := #[] }]) fun a7 bl q bc p y=>AW (vs:=[Value.int IntKind.i64 (Al j),Value.int IntKind.i64 (Al k),Value.int IntKind.i64 (Al l),Value.string m]) kR y rfl rfl (by simp [AE]) fun bm o aa=>iF<|iF<|iF<|jA (n:=4) aa.cells rfl<|dM (b3 _) fun ce t=>A7 (fun ar=>?_) fun ar=>?_
  .refine AB.build FX rfl<|jS (vs:=[Value.int IntKind.i64 0,Value.int IntKind.i64 0,Value.int IntKind.i64 0,Value.string { data := #[] }]) (r.ext (xt (xb (xt (xt (xt (xt b a) e) f) p) o.but (nB (xt (xt (xt b a) e) f) q)) t)) rfl rfl (by simp [AE]) fun cf bv br=>AP (jR (n:=4) rfl br.cells) ⟨?_,(xb (xt (xb (xt (xt (xt (xt (xt d b) a) e) f) p) o.but (nB (xt (xt (xt (xt d b) a) e) f) q)) t) bv.but s)⟩
   .exact .inr ⟨by rw [u,if_neg (by rw [ar];simp)],⟨0,0,0,{ data := #[] }⟩,0,rfl⟩
  .have b':=b4 ar;refine jA (n:=4) (aa.ext t).cells rfl<|dM (b1 _ (hT.ext (xt (xb (xt (xt (xt (xt (xt d b) a) e) f) p) o.but (nB (xt (xt (xt (xt d b) a) e) f) q)) t)) om) fun cg aj=>Av A8 mixed (pZ [5,10,25,30,1,16,22,35,43,45,50]) kR kR fun ch aq=>F8 (by simp only [ByteArray.size_append,AV,CO,CZ,List.length_cons,List.length_nil];omega)<|dA (n:=4) (aa.ext (xt t aj)).cells rfl<|dA (n:=4) (aa.ext (xt t aj)).cells rfl<|dM (b2 _ (hT.ext (xt (xt (xt (xb (xt (xt (xt (xt (xt d b) a) e) f) p) o.but (nB (xt (xt (xt (xt d b) a) e) f) q)) t) aj) aq)) om) fun ci a9=>⟨(xt aq a9),AW (vs:=[Value.int IntKind.i64 (Al j),Value.int IntKind.i64 (Al k),Value.int IntKind.i64 (Al l),Value.string m]) kR (r.ext (xt (xt (xt (xt (xb (xt (xt (xt (xt b a) e) f) p) o.but (nB (xt (xt (xt b a) e) f) q)) t) aj) aq) a9)) rfl rfl (by simp [AE]) fun cj bw bt=>AP (jR (n:=4) rfl bt.cells) ⟨?_,(xb (xt (xt (xt (xt (xb (xt (xt (xt (xt (xt d b) a) e) f) p) o.but (nB (xt (xt (xt (xt d b) a) e) f) q)) t) aj) aq) a9) bw.but s)⟩⟩
   .by_cases aw:E0 (By before g) g=line++ZX
    .have ba:decide (E0 (By before g) g=line++{ data := #[10] })=true:=decide_eq_true aw;exact .inl ⟨g,By before g,by rw [u,if_pos ⟨by rw [b5,b6,b7,ar];rfl,aw⟩],by rw [ba,ag];rfl⟩
    .have ba:decide (E0 (By before g) g=line++{ data := #[10] })=false:=decide_eq_false aw;exact .inr ⟨by rw [u,if_neg (fun bz=>aw bz.2)],g,By before g,by rw [ba,ag];rfl⟩
 .have u:=L6 a' before;refine oV Tryz.func254 ?_;refine jN (z := .agg #[.int .i64 0,.int .i64 0,.int .i64 0,.string { data := #[] }]) ?_;intro ao a2 s ax d r;refine (NK om (hM.ext d)).mono ?_;rintro _ cc ⟨ap,rfl,ca,cb,bo⟩;refine Ak (fun b0=>?_) fun b0=>?_
  .refine AB.build FX rfl<|jS (vs:=[Value.int IntKind.i64 0,Value.int IntKind.i64 0,Value.int IntKind.i64 0,Value.string { data := #[] }]) (r.ext bo) rfl rfl (by simp [AE]) fun cd bu bq=>AP (jR (n:=4) rfl bq.cells) ⟨?_,(xb (xt d bo) bu.but s)⟩
   .exact .inr ⟨u,⟨0,0,0,{ data := #[] }⟩,0,rfl⟩
  .exact absurd om a'
theorem Ik (hs:log.size<=4000) (hT:F7 w) (hE:EP w) (hM:Dy w) :
  Dq 191 [.string log] w (fun v w'=>∃ a n c,v = .tuple #[.slice a n c,.int .i64 (A5 log.data.toList 0).2.1,.int .i64 (A5 log.data.toList 0).2.2]/\Ad w.heap.size a/\Bw An.enc w' a n 151 (A5 log.data.toList 0).1/\AD w w'):=by
 have bk:log.data.toList.length=log.size:=sI
 refine oV Tryz.func191 ?_;refine bS HA (vs:=[]) ?_;intro bc bq a1 bm a0 aq;have av:=Ab (enc:=An.enc) (sz:=4) Au aq a1;refine lR [0,5,6,7] (fun (b:Nat) a7 w'=>∃ y am aa out h,a7=[.string log,.slice y am aa,.int .i64 h,.int .i64 b]/\b<=log.size/\0<=h/\h<=65520/\Ai An.enc 4 w.heap.size 151 w' y am aa out/\out.length<=b/\A5 log.data.toList 0=(out++(A5 (log.data.toList.drop b) h).1,(A5 (log.data.toList.drop b) h).2.1,b+(A5 (log.data.toList.drop b) h).2.2)/\AD w w') (fun b=>log.size - b) 0 ⟨_,_,_,_,_,rfl,om,om,om,av,sI,sI,a0⟩ ?_;rintro b bg _ w' ⟨y,am,aa,out,h,rfl,bh,af,an,m,bj,l,f⟩;have o:=m.len;have ao:(log.extract b log.size).data.toList=log.data.toList.drop b:=by
  rw [FK,List.take_of_length_le sI];simp [bs]
 by_cases ah:(10:UInt8)∈log.data.toList.drop b
 .obtain ⟨g,bp,r,ai⟩:=Ft ah;have u:∀ d,Dq 253 [.string (log.extract b log.size),.int .u8 10] d (fun v i=>v = .int .i64 (g.length:Nat)/\d=i):=fun d=>by
   refine (IS (log.extract b log.size) 10 d).mono ?_;rintro _ _ ⟨rfl,rfl⟩;rw [ao,r,HK _ _ _ ai];exact ⟨rfl,rfl⟩
  have bi:g.length+1+b<=log.size:=by
   have:=congrArg List.length r;simp at this;omega
  have a3:=W7 r;have ap:log.extract b (b+g.length)=bs g:=by
   rw [FK,r];congr 1;simp
  cases o:Df (bs g) h with
  | none =>
   have ae:∀ d,F7 d->EP d->Dy d->Dq 254 [.string (log.extract b (b+g.length)),.int .i64 h] d (fun v i=>∃ n c,v = .tuple #[.agg ⟨An.enc n⟩,.int .i64 c,.bool false]/\AD d i):=fun d aj ak al=>by
    rw [ap];refine (K6 (line:=bs g) (by rw [AV];omega) af an aj ak al).mono ?_;rintro _ i ⟨e | e,ac⟩
    .obtain ⟨n,c,e,_⟩:=e;rw [o] at e;cases e
    .obtain ⟨_,n,c,rfl⟩:=e;exact ⟨n,c,rfl,ac⟩
   rw [r,KT ai o] at l;simp only [List.append_nil,Nat.add_zero] at l;rw [l];refine B6 (k := .i64) (k' := .i64) kR (b) (log.size) om om (.inr (by rfl)) (.inl ⟨rfl,rfl⟩)<|(u _).mono ?_;rintro _ _ ⟨rfl,rfl⟩;refine AB.add _ rfl om om ?_;refine B6 (k := .i64) (k' := .i64) kR (b) (b+g.length) om om (.inr (by rfl)) (.inr (by rfl))<|(ae _ (hT.ext f) (hE.ext f) (hM.ext f)).mono ?_;rintro _ a9 ⟨a6,bf,rfl,j⟩;refine jN (z := .agg #[.int .i64 0,.int .i64 0,.int .i64 0,.string { data := #[] }]) ?_;intro az a' t a4 q x;exact jS x (vs:=a6.enc) rfl rfl (by simp [An.enc,AE]) fun a8 s bb=>⟨_,_,_,rfl,m.new,(m.ext (xb (xt j q) s.but (nB j t))).own,(xb (xt (xt f j) q) s.but (nB (xt f j) t))⟩
  | some ba =>
   obtain ⟨n,c⟩:=ba;have ae:∀ d,F7 d->EP d->Dy d->Dq 254 [.string (log.extract b (b+g.length)),.int .i64 h] d (fun v i=>v = .tuple #[.agg ⟨An.enc n⟩,.int .i64 c,.bool true]/\AD d i):=fun d aj ak al=>by
    rw [ap];refine (K6 (line:=bs g) (by rw [AV];omega) af an aj ak al).mono ?_;rintro _ i ⟨e | e,ac⟩
    .obtain ⟨bo,be,e,rfl⟩:=e;rw [o] at e;cases e;exact ⟨rfl,ac⟩
    .rw [o] at e;cases e.1
   rw [r,Fm ai o] at l;refine B6 (k := .i64) (k' := .i64) kR (b) (log.size) om om (.inr (by rfl)) (.inl ⟨rfl,rfl⟩)<|(u _).mono ?_;rintro _ _ ⟨rfl,rfl⟩;refine AB.add _ rfl om om ?_;refine B6 (k := .i64) (k' := .i64) kR (b) (b+g.length) om om (.inr (by rfl)) (.inr (by rfl)) ?_;refine (ae _ (hT.ext f) (hE.ext f) (hM.ext f)).mono ?_;rintro _ br ⟨rfl,p⟩;refine jN (z := .agg #[.int .i64 0,.int .i64 0,.int .i64 0,.string { data := #[] }]) ?_;intro bd bt ad bn j ar;refine jS ar (vs:=n.enc) rfl rfl (by simp [An.enc,AE]) ?_;intro a9 ab au;refine jA (n:=4) au.cells rfl<|AB.buildSlice HA (vs:=[Value.agg n.enc.toArray]) (by rfl) (by rfl) (by simp [Value.cells,An.enc]) dE ?_;intro az a' t a4 q x;have ax:=AG (n:=1) (enc:=An.enc) (xs:=[n]) Au x t rfl dE;refine AM (enc:=An.enc) HA Au (m.ext (xt (xb (xt p j) ab.but (nB p ad)) q)) (ax.own.arr Au) (by intro bu _;simp [An.enc,AE]) om om (Below.size (xt (xb (xt (xt f p) j) ab.but (nB (xt f p) ad)) q)) ?_;intro ay s a8 aw a5 bl;refine jP (((g.length+1:Nat):Int)) ?_;refine AB.add _ rfl om om ?_;(conv=>whnf);obtain ⟨_,a2,_⟩:=Jz o;have ag:=Hz h af n;rw [<- a2] at ag;refine ⟨b+(g.length+1),om,ay,_,s,out++[n],c,rfl,om,ag.1,ag.2,aw,by simp;omega,?_,xm (xt (xb (xt (xt f p) j) ab.but (nB (xt f p) ad)) q) a5 (AO m.new)⟩;rw [a3,l];simp [Nat.add_assoc]
 .have u:∀ d,Dq 253 [.string (log.extract b log.size),.int .u8 10] d (fun v i=>v = .int .i64 (-1)/\d=i):=fun d=>by
   refine (IS (log.extract b log.size) 10 d).mono ?_;rintro _ _ ⟨rfl,rfl⟩;rw [ao,JE _ _ ah];exact ⟨rfl,rfl⟩
  rw [Hj ah] at l;simp only [List.append_nil,Nat.add_zero] at l;rw [l];refine B6 (k := .i64) (k' := .i64) kR (b) (log.size) om om (.inr (by rfl)) (.inl ⟨rfl,rfl⟩) ?_;refine (u _).mono ?_;rintro _ _ ⟨rfl,rfl⟩;exact ⟨_,_,_,rfl,m.new,m.own,f⟩
theorem Xi {w0:World} {r:Nat} {at_:Nat} {ch:Int} {out:List An} {a:Option Addr} {n c:Nat} (hs:log.size<=4000) (hat:at_<=log.size) (h0:0<=ch) (h1:ch<=65520)
  (B:CD w r [.string log,.int .i64 at_,.int .i64 ch,.slice a n c] 156) (G:Ai An.enc 4 w0.heap.size 151 w a n c out) (hr:w0.heap.size<=r) (hne:∀ k,AN a k->k≠r) (hE0:AD w0 w) (hol:out.length<=at_) :
  Dq 188 [.pointer (some ⟨r,0,none⟩)] w (fun v w'=>AD w0 w'/\((v = .bool false/\A5 (log.data.toList.drop at_) ch=([],ch,0)/\AD w w') \/
   ∃ p rest n2 c2 a' n' c',v = .bool true/\log.data.toList.drop at_=p++10 :: rest/\(10:UInt8)∉p/\Df (bs p) ch=some (n2,c2)/\CD w' r [.string log,.int .i64 (at_+(p.length+1):Nat),.int .i64 c2,.slice a' n' c'] 156 /\
    Ai An.enc 4 w0.heap.size 151 w' a' n' c' (out++[n2])/\(∀ k,AN a' k->k≠r))):=by
 have db:log.data.toList.length=log.size:=sI
 have c9:=G.len;have da:=B.lt;refine oV Tryz.func188 ?_;refine jL B.cells (k:=1) rfl ?_;refine lR [0,3] (fun (k:Nat) cy w'=>cy=[.pointer (some ⟨r,0,none⟩),.int .i64 k]/\at_<=k/\k<=log.size/\(10:UInt8)∉(log.data.toList.drop at_).take (k - at_)/\w=w') (fun k=>log.size - k) at_ ⟨rfl,om,om,sI,rfl⟩ ?_;rintro k c3 _ w' ⟨rfl,c6,b8,az,rfl⟩;refine jL B.cells (k:=0) rfl ?_;(conv=>whnf);by_cases c7:k<log.size
 .obtain ⟨u,al⟩:∃ u,log.data.toList[k]? = some u:=AA om;have b7:(log.data.toList.drop at_)[k - at_]? = some u:=by rw [List.getElem?_drop,<- al];congr 1;omega
  by_cases bq:u=10
  .subst bq;obtain ⟨p,a2⟩:∃ p,p=(log.data.toList.drop at_).take (k - at_):=⟨_,rfl⟩;rw [<- a2] at az;have cu:p.length=k - at_:=by rw [a2];simp;omega
   have bt:log.data.toList.drop at_=p++10 :: log.data.toList.drop (k+1):=by
    have:=(Hc b7).symm;rw [this,a2,List.drop_drop];congr 3;omega
   have b9:log.extract at_ k=bs p:=by
    rw [FK,<- a2]
   have b':log.extract at_ (k+1)=bs p++ZX:=by
    rw [FK,bt];have ar:k+1 - at_=(p++[10]).length:=by simp;omega
    have cm:p++10 :: log.data.toList.drop (k+1)=(p++[10])++log.data.toList.drop (k+1):=sI
    rw [ar,cm,List.take_left,aC9];rfl
   clear a2;have ag:=KT (p:=p) (r:=log.data.toList.drop (k+1)) az (ch:=ch);rw [<- bt] at ag;by_cases bp:(Aq 32 (bs p)).length=5
   .obtain ⟨a4,o,q,s,x,ay⟩:=aB1 bp;have af:=IP ay ch;have dv:(bs p).size=k - at_:=by rw [AV,cu]
    have dr:o.size<=(bs p).size:=D3 (c:=32) (by rw [ay];simp);have ds:q.size<=(bs p).size:=D3 (c:=32) (by rw [ay];simp);have dt:s.size<=(bs p).size:=D3 (c:=32) (by rw [ay];simp);have du:x.size<=(bs p).size:=D3 (c:=32) (by rw [ay];simp);have a0:An.ok ⟨Al o,Al q,Al s,x⟩:=⟨Gm o,Gm q,Gm s,by simp only [Nt];omega⟩;have be:[a4,o,q,s,x][1]? = some o:=rfl;have bf:[a4,o,q,s,x][2]? = some q:=rfl;have bg:[a4,o,q,s,x][3]? = some s:=rfl;have bh:[a4,o,q,s,x][4]? = some x:=rfl;obtain ⟨t,ca⟩:∃ t:An,t=⟨Al o,Al q,Al s,x⟩:=⟨_,rfl⟩;rw [<- ca] at af a0;have a8:=Hz ch h0 t;have c8:=KY a8.1 a8.2 a0;have dd:=Fk a0;have bb:t.enc=[.int .i64 (Al o),.int .i64 (Al q),.int .i64 (Al s),.string x]:=by rw [ca];rfl
    have cv:Cr t=true->t.what.size<=12:=FE;have cs:∀ h u,AK h u 0 [.int .i64 (Al o),.int .i64 (Al q),.int .i64 (Al s),.string x]->Dq 174 [.pointer (some ⟨u,0,none⟩)] h (fun v aa=>v = .bool (Cr t)/\h=aa):=fun h u a1=>I0 a0 (bb▸a1);have ct:∀ h u,AK h u 0 [.int .i64 (Al o),.int .i64 (Al q),.int .i64 (Al s),.string x]->t.what.size<=1000->Dq 107 [.pointer (some ⟨u,0,none⟩)] h (fun v aa=>v = .string (DG t)/\AD h aa):=fun h u a1 ba=>Fa a0 ba (bb▸a1);have cq:∀ h,t.what.size<=1000->Dq 176 [.int .i64 ch,.string (DG t)] h (fun v aa=>v = .int .i64 (By ch t)/\h=aa):=fun h ba=>Kq h0 h1 om h;have cr:∀ h u,AK h u 0 [.int .i64 (Al o),.int .i64 (Al q),.int .i64 (Al s),.string x]->t.what.size<=1000->Dq 175 [.int .i64 (By ch t),.pointer (some ⟨u,0,none⟩)] h (fun v aa=>v = .string (E0 (By ch t) t)/\AD h aa):=fun h u a1 ba=>Lt a8.1 a8.2 a0 ba (bb▸a1);have ax:∀ h,Dq 18 [.string (log.extract at_ k),.int .u8 32] h (fun v aa=>∃ a n c,v = .slice a 5 c/\n=5/\Ad h.heap.size a/\Bw eS aa a 5 9 [a4,o,q,s,x]/\AD h aa):=fun h=>by
     rw [b9];refine (Gl om 32 h).mono ?_;rintro _ aa ⟨a,n,c,rfl,h1,aw,bn⟩;rw [ay] at aw;have:n=5:=aw.1.symm;subst this;exact ⟨a,5,c,rfl,rfl,h1,aw,bn⟩
    cases bc:Ef o
    .refine iY ?_;refine jL B.cells (k:=0) rfl ?_;refine jC k rfl al ?_;refine jL B.cells (k:=0) rfl ?_;refine iN ?_;refine dH (pB [0,2,4,6,8,10,12,14,17,19,21,23]) ?_;intro bi b;refine dL B.cells (k:=0) rfl ?_;refine dL B.cells (k:=1) rfl ?_;refine B6 (k := .i64) (k' := .i64) kR (at_) (k) om om (.inr (by rfl)) (.inr (by rfl)) ?_;refine ⟨b,?_⟩;refine (ax _).mono ?_;rintro _ aq ⟨a5,bd,a6,rfl,rfl,bj,i,f⟩;refine ⟨(xt b f),?_⟩;obtain ⟨ak,rfl⟩:=(i).some om;have bw:ak<aq.heap.size:=i.lt _ rfl;refine jW (sz:=1) 1 rfl om ?_;have am:=AT AQ i be;refine jO am rfl ?_;refine (Bi om _).mono ?_;rintro _ bx ⟨rfl,d⟩;refine jW (sz:=1) 2 rfl om ?_;have an:=AT AQ (i.ext d) bf;refine jO an rfl ?_;refine (Bi om _).mono ?_;rintro _ bz ⟨rfl,e⟩;refine jW (sz:=1) 3 rfl om ?_;have ao:=AT AQ (i.ext (xt d e)) bg;refine jO ao rfl ?_;refine (Bi om _).mono ?_;rintro _ b0 ⟨rfl,g⟩;refine jW (sz:=1) 4 rfl om ?_;have ap:=AT AQ (i.ext (xt (xt d e) g)) bh;refine jO ap rfl ?_;refine AB.build FX rfl ?_;refine jN (z := .agg #[.int .i64 0,.int .i64 0,.int .i64 0,.string { data := #[] }]) ?_;intro bl b1 m bv l ai;refine AW (vs:=[Value.int IntKind.i64 (Al o),Value.int IntKind.i64 (Al q),Value.int IntKind.i64 (Al s),Value.string x]) kR ai rfl rfl (by simp [AE]) ?_;intro b2 j aj;refine iT ?_;refine ⟨(xb (xt (xt (xt (xt (xt (xt hE0 b) f) d) e) g) l) j.but (nB (xt (xt (xt (xt (xt hE0 b) f) d) e) g) m)),?_⟩;refine ?_
     .exact .inl ⟨rfl,ag (by rw [af,if_neg (by simp [bc])]),(xb (xt (xt (xt (xt (xt b f) d) e) g) l) j.but (nB (xt (xt (xt (xt b f) d) e) g) m))⟩
    cases bu:Ef q
    .refine iY ?_;refine jL B.cells (k:=0) rfl ?_;refine jC k rfl al ?_;refine jL B.cells (k:=0) rfl ?_;refine iN ?_;refine dH (pB [0,2,4,6,8,10,12,14,17,19,21,23]) ?_;intro bi b;refine dL B.cells (k:=0) rfl ?_;refine dL B.cells (k:=1) rfl ?_;refine B6 (k := .i64) (k' := .i64) kR (at_) (k) om om (.inr (by rfl)) (.inr (by rfl)) ?_;refine ⟨b,?_⟩;refine (ax _).mono ?_;rintro _ aq ⟨a5,bd,a6,rfl,rfl,bj,i,f⟩;refine ⟨(xt b f),?_⟩;obtain ⟨ak,rfl⟩:=(i).some om;have bw:ak<aq.heap.size:=i.lt _ rfl;refine jW (sz:=1) 1 rfl om ?_;have am:=AT AQ i be;refine jO am rfl ?_;refine (Bi om _).mono ?_;rintro _ bx ⟨rfl,d⟩;refine jW (sz:=1) 2 rfl om ?_;have an:=AT AQ (i.ext d) bf;refine jO an rfl ?_;refine (Bi om _).mono ?_;rintro _ bz ⟨rfl,e⟩;refine jW (sz:=1) 3 rfl om ?_;have ao:=AT AQ (i.ext (xt d e)) bg;refine jO ao rfl ?_;refine (Bi om _).mono ?_;rintro _ b0 ⟨rfl,g⟩;refine jW (sz:=1) 4 rfl om ?_;have ap:=AT AQ (i.ext (xt (xt d e) g)) bh;refine jO ap rfl ?_;refine AB.build FX rfl ?_;refine jN (z := .agg #[.int .i64 0,.int .i64 0,.int .i64 0,.string { data := #[] }]) ?_;intro bl b1 m bv l ai;refine AW (vs:=[Value.int IntKind.i64 (Al o),Value.int IntKind.i64 (Al q),Value.int IntKind.i64 (Al s),Value.string x]) kR ai rfl rfl (by simp [AE]) ?_;intro b2 j aj;refine iF ?_;refine iT ?_;refine ⟨(xb (xt (xt (xt (xt (xt (xt hE0 b) f) d) e) g) l) j.but (nB (xt (xt (xt (xt (xt hE0 b) f) d) e) g) m)),?_⟩;refine ?_
     .exact .inl ⟨rfl,ag (by rw [af,if_neg (by simp [bc,bu])]),(xb (xt (xt (xt (xt (xt b f) d) e) g) l) j.but (nB (xt (xt (xt (xt b f) d) e) g) m))⟩
    cases cb:Ef s
    .refine iY ?_;refine jL B.cells (k:=0) rfl ?_;refine jC k rfl al ?_;refine jL B.cells (k:=0) rfl ?_;refine iN ?_;refine dH (pB [0,2,4,6,8,10,12,14,17,19,21,23]) ?_;intro bi b;refine dL B.cells (k:=0) rfl ?_;refine dL B.cells (k:=1) rfl ?_;refine B6 (k := .i64) (k' := .i64) kR (at_) (k) om om (.inr (by rfl)) (.inr (by rfl)) ?_;refine ⟨b,?_⟩;refine (ax _).mono ?_;rintro _ aq ⟨a5,bd,a6,rfl,rfl,bj,i,f⟩;refine ⟨(xt b f),?_⟩;obtain ⟨ak,rfl⟩:=(i).some om;have bw:ak<aq.heap.size:=i.lt _ rfl;refine jW (sz:=1) 1 rfl om ?_;have am:=AT AQ i be;refine jO am rfl ?_;refine (Bi om _).mono ?_;rintro _ bx ⟨rfl,d⟩;refine jW (sz:=1) 2 rfl om ?_;have an:=AT AQ (i.ext d) bf;refine jO an rfl ?_;refine (Bi om _).mono ?_;rintro _ bz ⟨rfl,e⟩;refine jW (sz:=1) 3 rfl om ?_;have ao:=AT AQ (i.ext (xt d e)) bg;refine jO ao rfl ?_;refine (Bi om _).mono ?_;rintro _ b0 ⟨rfl,g⟩;refine jW (sz:=1) 4 rfl om ?_;have ap:=AT AQ (i.ext (xt (xt d e) g)) bh;refine jO ap rfl ?_;refine AB.build FX rfl ?_;refine jN (z := .agg #[.int .i64 0,.int .i64 0,.int .i64 0,.string { data := #[] }]) ?_;intro bl b1 m bv l ai;refine AW (vs:=[Value.int IntKind.i64 (Al o),Value.int IntKind.i64 (Al q),Value.int IntKind.i64 (Al s),Value.string x]) kR ai rfl rfl (by simp [AE]) ?_;intro b2 j aj;refine iF ?_;refine iF ?_;refine iT ?_;refine ⟨(xb (xt (xt (xt (xt (xt (xt hE0 b) f) d) e) g) l) j.but (nB (xt (xt (xt (xt (xt hE0 b) f) d) e) g) m)),?_⟩;refine ?_
     .exact .inl ⟨rfl,ag (by rw [af,if_neg (by simp [bc,bu,cb])]),(xb (xt (xt (xt (xt (xt b f) d) e) g) l) j.but (nB (xt (xt (xt (xt b f) d) e) g) m))⟩
    refine iY ?_;refine jL B.cells (k:=0) rfl ?_;refine jC k rfl al ?_;refine jL B.cells (k:=0) rfl ?_;refine iN ?_;refine dH (pB [0,2,4,6,8,10,12,14,17,19,21,23]) ?_;intro bi b;refine dL B.cells (k:=0) rfl ?_;refine dL B.cells (k:=1) rfl ?_;refine B6 (k := .i64) (k' := .i64) kR (at_) (k) om om (.inr (by rfl)) (.inr (by rfl)) ?_;refine ⟨b,?_⟩;refine (ax _).mono ?_;rintro _ aq ⟨a5,bd,a6,rfl,rfl,bj,i,f⟩;refine ⟨(xt b f),?_⟩;obtain ⟨ak,rfl⟩:=(i).some om;have bw:ak<aq.heap.size:=i.lt _ rfl;refine jW (sz:=1) 1 rfl om ?_;have am:=AT AQ i be;refine jO am rfl ?_;refine (Bi om _).mono ?_;rintro _ bx ⟨rfl,d⟩;refine jW (sz:=1) 2 rfl om ?_;have an:=AT AQ (i.ext d) bf;refine jO an rfl ?_;refine (Bi om _).mono ?_;rintro _ bz ⟨rfl,e⟩;refine jW (sz:=1) 3 rfl om ?_;have ao:=AT AQ (i.ext (xt d e)) bg;refine jO ao rfl ?_;refine (Bi om _).mono ?_;rintro _ b0 ⟨rfl,g⟩;refine jW (sz:=1) 4 rfl om ?_;have ap:=AT AQ (i.ext (xt (xt d e) g)) bh;refine jO ap rfl ?_;refine AB.build FX rfl ?_;refine jN (z := .agg #[.int .i64 0,.int .i64 0,.int .i64 0,.string { data := #[] }]) ?_;intro bl b1 m bv l ai;refine AW (vs:=[Value.int IntKind.i64 (Al o),Value.int IntKind.i64 (Al q),Value.int IntKind.i64 (Al s),Value.string x]) kR ai rfl rfl (by simp [AE]) ?_;intro b2 j aj;refine iF ?_;refine iF ?_;refine iF ?_;refine (cs _ _ aj.cells).mono ?_;rintro _ _ ⟨rfl,rfl⟩;refine A7 (fun a7=>?_) fun a7=>?_
    .refine ⟨(xb (xt (xt (xt (xt (xt (xt hE0 b) f) d) e) g) l) j.but (nB (xt (xt (xt (xt (xt hE0 b) f) d) e) g) m)),?_⟩;refine ?_
     .exact .inl ⟨rfl,ag (by rw [af,if_neg (by rw [a7];simp)]),(xb (xt (xt (xt (xt (xt b f) d) e) g) l) j.but (nB (xt (xt (xt (xt b f) d) e) g) m))⟩
    .have dc:=cv a7;refine dH (pB [0,2,4,6,9,11,13]) ?_;intro dg y;refine dL (B.ext (xb (xt (xt (xt (xt (xt b f) d) e) g) l) j.but (nB (xt (xt (xt (xt b f) d) e) g) m))).cells (k:=2) rfl ?_;refine (ct _ _ (aj.ext y).cells om).mono ?_;rintro _ dh ⟨rfl,ab⟩;refine ⟨(xt y ab),?_⟩;refine (cq _ om).mono ?_;rintro _ _ ⟨rfl,rfl⟩;refine ⟨(xt y ab),?_⟩;refine dH (pB [0,4,6,8,10,12,14,16,18,20,22,24,3,27]) ?_;intro di ad;refine dL (B.ext (xt (xt (xb (xt (xt (xt (xt (xt b f) d) e) g) l) j.but (nB (xt (xt (xt (xt b f) d) e) g) m)) y) ab)).cells (k:=0) rfl ?_;refine dL (B.ext (xt (xt (xb (xt (xt (xt (xt (xt b f) d) e) g) l) j.but (nB (xt (xt (xt (xt b f) d) e) g) m)) y) ab)).cells (k:=1) rfl ?_;refine BN.add (((k+1:Nat):Int)) om om om ?_;refine H7 (k := .i64) (k' := .i64) kR (at_) (k+1) om om (.inr (by rfl)) (.inr (by rfl)) ?_;refine (cr _ _ (aj.ext (xt (xt y ab) ad)).cells om).mono ?_;rintro _ dj ⟨rfl,ae⟩;refine ⟨(xt ad ae),?_⟩;refine Ak (fun bo=>?_) fun bo=>?_
     .refine ⟨(xt (xt (xt (xt (xb (xt (xt (xt (xt (xt (xt hE0 b) f) d) e) g) l) j.but (nB (xt (xt (xt (xt (xt hE0 b) f) d) e) g) m)) y) ab) ad) ae),?_⟩;refine ?_
      .exact .inl ⟨rfl,ag (by rw [af,if_neg (fun ac=>bo (by rw [b'];exact ac.2))]),(xt (xt (xt (xt (xb (xt (xt (xt (xt (xt b f) d) e) g) l) j.but (nB (xt (xt (xt (xt b f) d) e) g) m)) y) ab) ad) ae)⟩
     .refine Av A8 mixed (pZ [0,5,10,15,21,26,32,38,40,45,53]) kR kR ?_;intro dk au;refine dL (B.ext (xt (xt (xt (xt (xb (xt (xt (xt (xt (xt b f) d) e) g) l) j.but (nB (xt (xt (xt (xt b f) d) e) g) m)) y) ab) ad) ae)).cells (k:=3) rfl ?_;refine dA (n:=4) (aj.ext (xt (xt (xt y ab) ad) ae)).cells rfl ?_;refine bS HA (vs:=[Value.agg #[Value.int IntKind.i64 (Al o),Value.int IntKind.i64 (Al q),Value.int IntKind.i64 (Al s),Value.string x]]) ?_;intro c1 dl co de av cd;have cj:=AG (n:=1) (enc:=An.enc) (xs:=[t]) Au (by simpa [BD,cellsOf,Value.cells,bb] using cd) co rfl dE;refine ⟨(xt au av),?_⟩;refine AM (enc:=An.enc) HA Au (G.ext (xt (xt (xt (xt (xt (xt (xb (xt (xt (xt (xt (xt b f) d) e) g) l) j.but (nB (xt (xt (xt (xt b f) d) e) g) m)) y) ab) ad) ae) au) av)) (cj.own.arr Au) (by intro ah _;simp [An.enc,AE]) om om (Below.size (xt (xt (xt (xt (xt (xt (xb (xt (xt (xt (xt (xt (xt hE0 b) f) d) e) g) l) j.but (nB (xt (xt (xt (xt (xt hE0 b) f) d) e) g) m)) y) ab) ad) ae) au) av)) ?_;intro bk b3 dm ck cc cw;have ci:=(B.ext (xt (xt (xt (xt (xt (xt (xb (xt (xt (xt (xt (xt b f) d) e) g) l) j.but (nB (xt (xt (xt (xt b f) d) e) g) m)) y) ab) ad) ae) au) av)).mod cc (fun ac=>hne _ ac rfl);refine jT (k:=3) ci sI (v := .slice bk (n+1) b3) rfl ?_;intro dn b4 ce;have a9:∀ k,AN bk k->k≠r:=fun k b8=>by
       rcases cw k b8 with ac | ac
       .exact hne k ac
       .have:=Below.size (xt (xt (xt (xt (xt (xt (xb (xt (xt (xt (xt (xt b f) d) e) g) l) j.but (nB (xt (xt (xt (xt b f) d) e) g) m)) y) ab) ad) ae) au) av);omega
      have cl:=ck.mod b4.but (fun ah a3 ac=>a9 ah.block ⟨ah,a3,rfl⟩ ac);refine jT ce (k:=2) (Nat.le_of_ble_eq_true rfl) rfl ?_;intro dp b5 cf;refine jP (((k+1:Nat):Int)) ?_;refine jT cf (k:=1) (Nat.le_of_ble_eq_true rfl) rfl ?_;intro dq b6 cg;refine ⟨(xb (xb (xb (xm (xt (xt (xt (xt (xt (xt (xb (xt (xt (xt (xt (xt (xt hE0 b) f) d) e) g) l) j.but (nB (xt (xt (xt (xt (xt hE0 b) f) d) e) g) m)) y) ab) ad) ae) au) av) cc (AO G.new)) b4.but hr) b5.but hr) b6.but hr),?_⟩;refine ?_
      .have cn:at_+(p.length+1)=k+1:=om
       refine .inr ⟨p,log.data.toList.drop (k+1),t,By ch t,bk,n+1,b3,rfl,bt,az,by rw [af,if_pos ⟨by rw [bc,bu,cb,a7];rfl,bo.trans b'⟩],by rw [cn];exact cg,?_,a9⟩;exact (cl.mod b5.but (fun ah a3 ac=>a9 ah.block ⟨ah,a3,rfl⟩ ac)).mod b6.but (fun ah a3 ac=>a9 ah.block ⟨ah,a3,rfl⟩ ac)
   .have af:=L6 bp ch;have ax:∀ h,Dq 18 [.string (log.extract at_ k),.int .u8 32] h (fun v aa=>∃ a n c,v = .slice a n c/\n≠5/\Ad h.heap.size a/\Bw eS aa a n 9 (Aq 32 (bs p))/\AD h aa):=fun h=>by
     rw [b9];refine (Gl (by rw [AV];omega) 32 h).mono ?_;rintro _ aa ⟨a,n,c,rfl,h1,aw,bn⟩;exact ⟨a,n,c,rfl,by rw [<- aw.1];exact bp,h1,aw,bn⟩
    refine iY ?_;refine jL B.cells (k:=0) rfl ?_;refine jC k rfl al ?_;refine jL B.cells (k:=0) rfl ?_;refine iN ?_;refine dH (pB [0,2,4,6,8,10,12,14,17,19,21,23]) ?_;intro bi b;refine dL B.cells (k:=0) rfl ?_;refine dL B.cells (k:=1) rfl ?_;refine B6 (k := .i64) (k' := .i64) kR (at_) (k) om om (.inr (by rfl)) (.inr (by rfl)) ?_;refine ⟨b,?_⟩;refine (ax _).mono ?_;rintro _ df ⟨a5,bd,a6,rfl,cx,cz,c0,bm⟩;refine ⟨(xt b bm),?_⟩;refine Ak (fun cp=>?_) fun cp=>?_
    .refine ⟨(xt (xt hE0 b) bm),?_⟩;refine ?_
     .exact .inl ⟨rfl,ag af,(xt b bm)⟩
    .exact absurd om cx
  .have c4:¬ ((u.toNat:Int)=10):=by
    intro ar;exact bq (UInt8.toNat_inj.1 (by show u.toNat=10;omega))
   have br:(10:UInt8)∉(log.data.toList.drop at_).take (k+1 - at_):=by
    have ar:k+1 - at_=(k - at_)+1:=om
    rw [ar,List.take_add_one,b7];simp only [Option.toList_some,List.mem_append,List.mem_singleton,not_or];exact ⟨az,fun ar=>bq ar.symm⟩
   refine iY ?_;refine jL B.cells (k:=0) rfl ?_;refine jC k rfl al ?_;refine iT ?_;refine jP (((k+1:Nat):Int)) ?_;exact ⟨k+1,om,rfl,om,om,br,rfl⟩
 .have c5:k=log.size:=om
  have br:(10:UInt8)∉log.data.toList.drop at_:=by
   rw [List.take_of_length_le (by simp;omega)] at az;exact az
  have ag:=Hj br ch;refine iN ?_;refine jL B.cells (k:=0) rfl ?_;refine iY ?_;refine ⟨hE0,?_⟩;refine ?_
  .exact .inl ⟨rfl,ag,AD.refl _⟩
theorem TH (hs:log.size<=4000) (w:World) :
  Dq 116 [.string log] w (fun v w'=>∃ r a n c,v = .pointer (some ⟨r,0,none⟩)/\CD w' r [.string log,.int .i64 ((A5 log.data.toList 0).2.2:Nat),.int .i64 (A5 log.data.toList 0).2.1,.slice a n c] 156/\w.heap.size<=r/\Ad w.heap.size a/\Bw An.enc w' a n 151 (A5 log.data.toList 0).1/\AD w w'):=by
 have ay:log.data.toList.length=log.size:=sI
 refine oV Tryz.func116 ?_;refine bS HA (vs:=[]) ?_;intro p a1 ak az q ac;have af:=Ab (enc:=An.enc) (sz:=4) Au ac ak;refine AB.build Yd rfl<|AB.box fun e a2 aw a0 s ad=>lR [3] (fun (b:Nat) au w'=>∃ a n c out d,au=[.pointer (some ⟨e,0,none⟩)]/\b<=log.size/\0<=d/\d<=65520/\CD w' e [.string log,.int .i64 b,.int .i64 d,.slice a n c] 156/\Ai An.enc 4 w.heap.size 151 w' a n c out/\(∀ b,AN a b->b≠e)/\out.length<=b/\A5 log.data.toList 0=(out++(A5 (log.data.toList.drop b) d).1,(A5 (log.data.toList.drop b) d).2.1,b+(A5 (log.data.toList.drop b) d).2.2)/\AD w w') (fun b=>log.size - b) 0
  ⟨some ⟨p,0,none⟩,0,0,[],0,rfl,om,om,om,ad,af.ext s,fun b j=>by obtain ⟨a4,m,rfl⟩:=j;cases m;show p≠e;omega,sI,sI,xt q s⟩ ?_
 rintro b av _ w' ⟨a,n,c,out,d,rfl,j,y,al,o,g,an,aq,f,m⟩;have x:w.heap.size<=e:=by have:=Below.size q;omega
 refine (Xi hs j y al o g x an m aq).mono ?_;rintro _ a3 ⟨t,h | h⟩
 .obtain ⟨rfl,l,u⟩:=h;rw [l] at f;simp only [List.append_nil,Nat.add_zero] at f;rw [f];exact ⟨e,a,n,c,rfl,o.ext u,x,g.new,(g.ext u).own,t⟩
 .obtain ⟨ab,rest,aa,ai,ah,ar,aj,rfl,k,ap,z,ae,ag,ao⟩:=h;have ax:ab.length+1+b<=log.size:=by
   have:=congrArg List.length k;simp at this;omega
  have l:=W7 k;rw [k,Fm ap z] at f;obtain ⟨_,am,_⟩:=Jz z;have i:=Hz d y aa;rw [<- am] at i;refine ⟨b+(ab.length+1),om,ah,ar,aj,out++[aa],ai,rfl,om,i.1,i.2,ae,ag,ao,by simp;omega,?_,t⟩;rw [l,f];simp [Nat.add_assoc]
theorem I1 (hs:log.size<=1048576) (w:World) :
  Dq 60 [.string log] w (fun v w'=>∃ r,v = .tuple #[.pointer (some ⟨r,0,none⟩),.int .i64 (Aj log)]/\AD w w'/\w.heap.size<=r /\
   (log.size<=4000->∃ a n c,CD w' r [.string log,.int .i64 ((A5 log.data.toList 0).2.2:Nat),.int .i64 (A5 log.data.toList 0).2.1,.slice a n c] 156/\Ad w.heap.size a/\Bw An.enc w' a n 151 (A5 log.data.toList 0).1)):=by
 have x:=(EY _ log.data.toList 0 (Nat.le_refl _) om om).2.2.2.1;have y:log.data.toList.length=log.size:=sI
 refine oV Tryz.func60 ?_;conv=>whnf
 by_cases j:4000<log.size
 .have b:Aj log=5:=by unfold Aj;rw [if_pos j]
  rw [b];exact iY<|AB.build Yd rfl<|AB.box fun t ab u z p s=>⟨_,rfl,p,om,om⟩
 .have b:Aj log=if (A5 log.data.toList 0).2.2<log.size then 8 else 0:=by unfold Aj;rw [if_neg j]
  rw [b];refine iN<|(TH om _).mono ?_;rintro _ aa ⟨o,g,l,h,rfl,d,m,e,f,i⟩;refine jL d.cells (k:=1) rfl<|Ak (fun q=>?_) fun q=>?_
  ·(conv=>whnf);rw [if_pos om];exact ⟨o,rfl,i,m,fun _=>⟨g,l,h,d,e,f⟩⟩
  ·(conv=>whnf);rw [if_neg om];exact ⟨o,rfl,i,m,fun _=>⟨g,l,h,d,e,f⟩⟩
end Go.Proofs.YtalgenmoljcnmaaGreatDoor
namespace Go.Proofs.YtalgenmoljcnmaaGreatDoor
open Go Go.RowKit Go.Vc Go.M Go.Shelf Go.Proofs
variable {log:ByteArray} {w:World} {x:An}
theorem JF (hs:log.size<=1048576) {l:List An} {ch cd:Int} (hm:BQ log=(l,ch,cd)) (hT:F7 w) (hE:EP w) (hM:Dy w) :
  Dq 121 [.string log] w (fun v w'=>∃ a n c,v = .tuple #[.slice a n c,.int .i64 ch,.int .i64 cd]/\Ad w.heap.size a/\Bw An.enc w' a n 151 l/\AD w w'):=by
 unfold BQ at hm;have o:=(EY _ log.data.toList 0 (Nat.le_refl _) om om).2.2.2.1;rcases CB log with ⟨b,e⟩ | ⟨b,e,f⟩ | ⟨b,e,f⟩
 .rw [e] at hm;cases hm
  refine oV Tryz.func121 ?_;refine iY ?_;exact ⟨_,_,_,rfl,Ad.nil,Bw.nil,AD.refl _⟩
 .rw [f] at hm;cases hm
  refine oV Tryz.func121 ?_;refine iN<|(Ik b hT hE hM).mono ?_;rintro _ m ⟨i,k,j,rfl,g,h,d⟩;exact iY ⟨_,_,_,rfl,Ad.nil,Bw.nil,d⟩
 .rw [f,if_pos rfl] at hm;cases hm
  refine oV Tryz.func121 ?_;refine iN<|(Ik b hT hE hM).mono ?_;rintro _ m ⟨i,k,j,rfl,g,h,d⟩;exact iN ⟨_,_,_,rfl,g,h,d⟩
theorem MP (hs:log.size<=1048576) (hT:F7 w) (hE:EP w) (hM:Dy w) :
  Dq 65 [.string log] w (fun v w'=>∃ a n c,v = .tuple #[.slice a n c,.int .i64 (BQ log).2.2]/\Ad w.heap.size a/\Bw An.enc w' a n 151 (BQ log).1/\AD w w'):=by
 obtain ⟨f,e,d,g⟩:∃ f e d,BQ log=(f,e,d):=⟨_,_,_,rfl⟩;rw [g];have o:∀ b,F7 b->EP b->Dy b->Dq 121 [.string log] b (fun v w'=>∃ a n c,v = .tuple #[.slice a n c,.int .i64 e,.int .i64 d]/\Ad b.heap.size a/\Bw An.enc w' a n 151 f/\AD b w'):=fun b k l m=>JF hs g k l m;refine oV Tryz.func65 ?_;refine (o _ hT hE hM).mono ?_;rintro _ s ⟨p,r,q,rfl,h,i,j⟩;exact ⟨_,_,_,rfl,h,i,j⟩
theorem Tz (hs:log.size<=1048576) (hx:x.ok) (hT:F7 w) (hE:EP w) (hM:Dy w) :
  Dq 136 [.string log,.agg ⟨x.enc⟩] w (fun v w'=>v = .tuple #[.string (A3 log x).1,.int .i64 (A3 log x).2]/\AD w w'):=by
 have l:=EY _ log.data.toList 0 (Nat.le_refl _) om om;obtain ⟨y,i,t,j⟩:∃ y i t,BQ log=(y,i,t):=⟨_,_,_,rfl⟩;have p:∀ f,F7 f->EP f->Dy f->Dq 121 [.string log] f (fun v w'=>∃ s ad ak,v = .tuple #[.slice s ad ak,.int .i64 i,.int .i64 t]/\Ad f.heap.size s/\Bw An.enc w' s ad 151 y/\AD f w'):=fun f ap aq ar=>JF hs j ap aq ar;unfold BQ at j;unfold A3;by_cases ac:Aj log=0
 .rw [if_pos ac] at j ⊢;have u:=l.2.1;have ab:=l.2.2.1;generalize (A5 log.data.toList 0).2.1=bf at *;cases j
  have q:=Hz i u x;have bi:=KY q.1 q.2 hx;cases av:Cr x
  .rw [if_pos rfl];dsimp only;clear l;refine oV Tryz.func136 ?_;refine AB.box ?_;intro bc br bh bl o ae;refine (p _ (hT.ext o) (hE.ext o) (hM.ext o)).mono ?_;rintro _ bp ⟨ba,bn,be,rfl,a7,a9,z⟩;exact jA (n:=4) (ae.ext z).cells rfl<|dM (GL hx _) fun bq am=>iT ⟨rfl,(xt (xt o z) am)⟩
  .have bj:=FE av;have aa:∀ f,F7 f->Dq 205 [.int .i64 (By i x),.agg ⟨x.enc⟩] f (fun v ay=>v = .string (E0 (By i x) x)/\AD f ay):=fun f au=>K7 q.1 q.2 hx om au;rw [if_neg sI];generalize E0 (By i x) x=af at *;clear l;by_cases r:4000<log.size+af.size
   .rw [if_pos r];dsimp only;refine oV Tryz.func136 ?_;refine AB.box ?_;intro aj az ao aw a h;refine (p _ (hT.ext a) (hE.ext a) (hM.ext a)).mono ?_;rintro _ a0 ⟨ai,ax,al,rfl,ag,ah,b⟩;refine jA (n:=4) (h.ext b).cells rfl<|dM (GL hx _) fun a1 d=>iF<|dH (pB [0,2,4,8,7,11,13,15]) fun a2 c=>dA (n:=4) (h.ext (xt b d)).cells rfl<|dA (n:=4) (h.ext (xt b d)).cells rfl<|dM (JG u ab hx om (hT.ext (xt (xt (xt a b) d) c))) fun a3 e=>⟨(xt c e),dM (aa _ (hT.ext (xt (xt (xt (xt a b) d) c) e))) fun a4 g=>⟨(xt (xt c e) g),Ao om ⟨(xt (xt c e) g),AL (fun k=>?_) fun k=>?_⟩⟩⟩
    .exact ⟨rfl,(xt (xt (xt (xt (xt a b) d) c) e) g)⟩
    .refine ⟨?_,(xt (xt (xt (xt (xt a b) d) c) e) g)⟩
     .exact absurd r (by rw [ByteArray.size_append] at k;omega)
   .rw [if_neg r];dsimp only;refine oV Tryz.func136 ?_;refine AB.box ?_;intro aj az ao aw a h;refine (p _ (hT.ext a) (hE.ext a) (hM.ext a)).mono ?_;rintro _ a0 ⟨ai,ax,al,rfl,ag,ah,b⟩;refine jA (n:=4) (h.ext b).cells rfl<|dM (GL hx _) fun a1 d=>iF<|dH (pB [0,2,4,8,7,11,13,15]) fun a2 c=>dA (n:=4) (h.ext (xt b d)).cells rfl<|dA (n:=4) (h.ext (xt b d)).cells rfl<|dM (JG u ab hx om (hT.ext (xt (xt (xt a b) d) c))) fun a3 e=>⟨(xt c e),dM (aa _ (hT.ext (xt (xt (xt (xt a b) d) c) e))) fun a4 g=>⟨(xt (xt c e) g),Ao om ⟨(xt (xt c e) g),AL (fun k=>?_) fun k=>?_⟩⟩⟩
    .refine ⟨?_,(xt (xt (xt (xt (xt a b) d) c) e) g)⟩
     .exact absurd (by rw [ByteArray.size_append] at k;omega) r
    .exact ⟨rfl,(xt (xt (xt (xt (xt a b) d) c) e) g)⟩
 .rw [if_neg ac] at j ⊢;cases j
  dsimp only;clear l;refine oV Tryz.func136 ?_;refine AB.box ?_;intro bb bo bg bk m a5;refine (p _ (hT.ext m) (hE.ext m) (hM.ext m)).mono ?_;rintro _ bt ⟨a',bm,bd,rfl,a6,a8,an⟩;exact iT ⟨rfl,(xt m an)⟩
theorem TS (hs:log.size<=1048576) (hx:x.ok) (w:World) :
  Dq 105 [.string log,.agg ⟨x.enc⟩] w (fun v w'=>v = .tuple #[.string (A3 log x).1,.int .i64 (A3 log x).2]/\AD w w'):=by
 have p:=EY _ log.data.toList 0 (Nat.le_refl _) om om;have aa:=p.2.1;have ah:=p.2.2.1;have n:∀ b,Dq 60 [.string log] b (fun v w'=>∃ l,v = .tuple #[.pointer (some ⟨l,0,none⟩),.int .i64 (Aj log)]/\AD b w'/\b.heap.size<=l /\
   (log.size<=4000->∃ m r u,CD w' l [.string log,.int .i64 ((A5 log.data.toList 0).2.2:Nat),.int .i64 (A5 log.data.toList 0).2.1,.slice m r u] 156/\Ad b.heap.size m/\Bw An.enc w' m r 151 (A5 log.data.toList 0).1)):=fun b=>I1 hs b
 have ay:=Fk hx;have o:=Hz (A5 log.data.toList 0).2.1 aa x;have aw:=KY o.1 o.2 hx;unfold A3;refine oV Tryz.func105 ?_;refine AB.box ?_;intro ar a2 av az i g;(conv=>whnf);by_cases ab:Aj log=0
 .rw [if_pos ab];have af:log.size<=4000:=by rcases CB log with ⟨ac,ad⟩ | ⟨ac,ad,ao⟩ | ⟨ac,ad,ao⟩<;>omega
  refine (n _).mono ?_;rintro _ an ⟨l,rfl,d,ai,f⟩;obtain ⟨m,r,u,t,ap,aq⟩:=f af;clear p f n;cases aj:Cr x
  .rw [if_pos rfl];dsimp only;refine iF ?_;refine (I0 hx (g.ext d).cells).mono ?_;rintro _ _ ⟨rfl,rfl⟩;refine iT ?_;exact ⟨rfl,(xt i d)⟩
  .have ax:=FE aj;rw [if_neg sI];generalize (A5 log.data.toList 0).2.1=h at *;generalize (A5 log.data.toList 0).2.2=a0 at *;generalize (A5 log.data.toList 0).1=a1 at *;have y:∀ b,Dq 176 [.int .i64 h,.string (DG x)] b (fun v s=>v = .int .i64 (By h x)/\b=s):=fun b=>Kq aa ah om b;have z:∀ b q,AK b q 0 x.enc->Dq 175 [.int .i64 (By h x),.pointer (some ⟨q,0,none⟩)] b (fun v s=>v = .string (E0 (By h x) x)/\AD b s):=fun b q ag=>Lt o.1 o.2 hx om ag;generalize E0 (By h x) x=ae at *;generalize By h x=au at *;by_cases f:4000<log.size+ae.size
   .rw [if_pos f];dsimp only;refine iF ?_;refine (I0 hx (g.ext d).cells).mono ?_;rintro _ _ ⟨rfl,rfl⟩;refine iF ?_;refine dH (pB [0,2,4,6,8,11,13,15,17,19]) ?_;intro ak a;refine dL t.cells (k:=2) rfl ?_;refine (Fa hx om (g.ext (xt d a)).cells).mono ?_;rintro _ al ⟨rfl,c⟩;refine ⟨(xt a c),?_⟩;refine (y _).mono ?_;rintro _ _ ⟨rfl,rfl⟩;refine ⟨(xt a c),?_⟩;refine (z _ _ (g.ext (xt (xt d a) c)).cells).mono ?_;rintro _ am ⟨rfl,e⟩;refine ⟨(xt (xt a c) e),?_⟩;refine Ao om ?_;refine ⟨(xt (xt a c) e),?_⟩;refine AL (fun j=>?_) fun j=>?_
    .exact ⟨rfl,(xt (xt (xt (xt i d) a) c) e)⟩
    .refine ⟨?_,(xt (xt (xt (xt i d) a) c) e)⟩
     .exact absurd f (by rw [ByteArray.size_append] at j;omega)
   .rw [if_neg f];dsimp only;refine iF ?_;refine (I0 hx (g.ext d).cells).mono ?_;rintro _ _ ⟨rfl,rfl⟩;refine iF ?_;refine dH (pB [0,2,4,6,8,11,13,15,17,19]) ?_;intro ak a;refine dL t.cells (k:=2) rfl ?_;refine (Fa hx om (g.ext (xt d a)).cells).mono ?_;rintro _ al ⟨rfl,c⟩;refine ⟨(xt a c),?_⟩;refine (y _).mono ?_;rintro _ _ ⟨rfl,rfl⟩;refine ⟨(xt a c),?_⟩;refine (z _ _ (g.ext (xt (xt d a) c)).cells).mono ?_;rintro _ am ⟨rfl,e⟩;refine ⟨(xt (xt a c) e),?_⟩;refine Ao om ?_;refine ⟨(xt (xt a c) e),?_⟩;refine AL (fun j=>?_) fun j=>?_
    .refine ⟨?_,(xt (xt (xt (xt i d) a) c) e)⟩
     .exact absurd (by rw [ByteArray.size_append] at j;omega) f
    .exact ⟨rfl,(xt (xt (xt (xt i d) a) c) e)⟩
 .rw [if_neg ab];dsimp only;refine (n _).mono ?_;rintro _ an ⟨l,rfl,d,ai,f⟩;clear f p n;refine iT ?_;exact ⟨rfl,(xt i d)⟩
end Go.Proofs.YtalgenmoljcnmaaGreatDoor
namespace Go.M
open Go Go.Vc
end Go.M
namespace Go.Proofs.YtalgenmoljcnmaaGreatDoor
open Go Go.RowKit Go.Vc Go.M
end Go.Proofs.YtalgenmoljcnmaaGreatDoor
namespace Go.M
open Go Go.Vc
end Go.M
namespace Go.Proofs.YtalgenmoljcnmaaGreatDoor
open Go Go.RowKit Go.Vc Go.M
end Go.Proofs.YtalgenmoljcnmaaGreatDoor
