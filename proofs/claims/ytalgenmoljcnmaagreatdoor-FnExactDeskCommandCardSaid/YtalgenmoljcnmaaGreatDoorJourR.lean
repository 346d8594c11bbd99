/- Parts of the proof; no conditions of its own. -/
import Derived.Test.YtalgenmoljcnmaaGreatDoorVcWrite
import Derived.Test.YtalgenmoljcnmaaGreatDoorStab
import Derived.Test.YtalgenmoljcnmaaGreatDoorFTotal
import Derived.Test.YtalgenmoljcnmaaGreatDoorCardW
namespace Go.Proofs.YtalgenmoljcnmaaGreatDoor
section
open Go Go.RowKit Go.Vc Go.M Go.Shelf Go.Proofs
variable {w:World} {log:ByteArray}
theorem cE {p:Prop} (h:p:=by (simp [AM])):p:=h
theorem Ll {line:ByteArray} (hs:line.size<=4000) {before:Int} (h0:0<=before) (h1:before<=65520) (hT:GR w) (hE:Eg w) (hM:EE w) :
  Dq 254 [.string line,.int .i64 before] w (fun v w'=>((∃ n c,Dm line before=some (n,c)/\v = .tuple #[.agg ⟨Ar.enc n⟩,.int .i64 c,.bool true]) \/
   (Dm line before=none/\∃ n c,v = .tuple #[.agg ⟨Ar.enc n⟩,.int .i64 c,.bool false]))/\AD w w'):=by
 have b9:Ay 32 line≠[]:=fun a8=>by have:=QE 32 line;rw [a8] at this;simp at this
 by_cases a':(Ay 32 line).length=5
 .obtain ⟨am,j,k,l,m,af⟩:=aH3 a';have u:=Iq af before;have ck:j.size<=line.size:=Ea (c:=32) (by rw [af];simp);have cl:k.size<=line.size:=Ea (c:=32) (by rw [af];simp);have cm:l.size<=line.size:=Ea (c:=32) (by rw [af];simp);have cn:m.size<=line.size:=Ea (c:=32) (by rw [af];simp);have al:Ar.ok ⟨Ao j,Ao k,Ao l,m⟩:=⟨G3 j,G3 k,G3 l,by simp only [IP];omega⟩;have ay:[am,j,k,l,m][1]? = some j:=rfl;have az:[am,j,k,l,m][2]? = some k:=rfl;have a0:[am,j,k,l,m][3]? = some l:=rfl;have a1:[am,j,k,l,m][4]? = some m:=rfl;obtain ⟨g,ag⟩:∃ g:Ar,g=⟨Ao j,Ao k,Ao l,m⟩:=⟨_,rfl⟩;rw [<- ag] at u al;have av:=ID before h0 g;have b8:=LH av.1 av.2 al;have b3:∀ i,Dq 204 [.agg #[.int .i64 (Ao j),.int .i64 (Ao k),.int .i64 (Ao l),.string m]] i (fun v x=>v = .bool (Cx g)/\AD i x):=fun i=>by
   have:=Gc al i;rw [ag] at this ⊢;exact this
  have b1:∀ i,GR i->g.what.size<=1000->Dq 206 [.int .i64 before,.agg #[.int .i64 (Ao j),.int .i64 (Ao k),.int .i64 (Ao l),.string m]] i (fun v x=>v = .int .i64 (B0 before g)/\AD i x):=fun i ak bb=>by
   have:=Jh h0 h1 al bb ak;rw [ag] at this ⊢;exact this
  have b2:∀ i,GR i->g.what.size<=1000->Dq 205 [.int .i64 (B0 before g),.agg #[.int .i64 (Ao j),.int .i64 (Ao k),.int .i64 (Ao l),.string m]] i (fun v x=>v = .string (E9 (B0 before g) g)/\AD i x):=fun i ak bb=>by
   have:=Lm av.1 av.2 al bb ak;rw [ag] at this ⊢;exact this
  have b4:Cx g=true->g.what.size<=12:=FJ;have au:∀ i,EE i->Dq 30 [.string line,.string ⟨#[32]⟩] i (fun v x=>∃ an,v = .slice (some ⟨an,0,none⟩) 5 5/\A4 eS 1 x (some ⟨an,0,none⟩) 5 [am,j,k,l,m]/\AD i x):=fun i ak =>
   (Nx (c:=32) om ak).mono (by
    rintro _ x ⟨an,rfl,bx,bn,a8⟩;rw [af] at bn ⊢;exact ⟨an,rfl,(AH (n:=5) (enc:=eS) AP bn bx rfl dE).own.arr AP,a8⟩)
  refine oV Tryz.func254 ?_;conv=>whnf
  cases b5:Ei j
  .refine jN (z := .agg #[.int .i64 0,.int .i64 0,.int .i64 0,.string { data := #[] }]) fun ao a2 s ax d r=>(au _ (hM.ext d)).mono ?_;rintro _ bh ⟨ap,rfl,h,b⟩;refine jI h 1 rfl ay fun a3 bd _ ab=>jO ab rfl<|dM (BD om (hT.ext (xt d b)) (hE.ext (xt d b))) fun bi a=>jI (h.ext a) 2 rfl az fun a4 be _ ac=>jO ac rfl<|dM (BD om (hT.ext (xt (xt d b) a)) (hE.ext (xt (xt d b) a))) fun bj e=>jI (h.ext (xt a e)) 3 rfl a0 fun a5 bf _ ad=>jO ad rfl<|dM (BD om (hT.ext (xt (xt (xt d b) a) e)) (hE.ext (xt (xt (xt d b) a) e))) fun bk f=>jI (h.ext (xt (xt a e) f)) 4 rfl a1 fun a6 bg _ ae=>jO ae rfl<|AB.build Fi rfl<|jN (z := .agg #[.int .i64 0,.int .i64 0,.int .i64 0,.string { data := #[] }]) fun a7 bl q bc p y=>AX (vs:=[Value.int IntKind.i64 (Ao j),Value.int IntKind.i64 (Ao k),Value.int IntKind.i64 (Ao l),Value.string m]) kR y rfl rfl cE fun bm o aa=>iT<|AB.build Fi rfl<|jS (vs:=[Value.int IntKind.i64 0,Value.int IntKind.i64 0,Value.int IntKind.i64 0,Value.string { data := #[] }]) (r.ext (xb (xt (xt (xt (xt b a) e) f) p) o.but (nB (xt (xt (xt b a) e) f) q))) rfl rfl cE fun bp ai ah=>AO (jR (n:=4) rfl ah.cells) ⟨?_,(xb (xb (xt (xt (xt (xt (xt d b) a) e) f) p) o.but (nB (xt (xt (xt (xt d b) a) e) f) q)) ai.but s)⟩
   .exact .inr ⟨by rw [u,if_neg (by simp [*])],⟨0,0,0,{ data := #[] }⟩,0,rfl⟩
  cases b6:Ei k
  .refine jN (z := .agg #[.int .i64 0,.int .i64 0,.int .i64 0,.string { data := #[] }]) fun ao a2 s ax d r=>(au _ (hM.ext d)).mono ?_;rintro _ bh ⟨ap,rfl,h,b⟩;refine jI h 1 rfl ay fun a3 bd _ ab=>jO ab rfl<|dM (BD om (hT.ext (xt d b)) (hE.ext (xt d b))) fun bi a=>jI (h.ext a) 2 rfl az fun a4 be _ ac=>jO ac rfl<|dM (BD om (hT.ext (xt (xt d b) a)) (hE.ext (xt (xt d b) a))) fun bj e=>jI (h.ext (xt a e)) 3 rfl a0 fun a5 bf _ ad=>jO ad rfl<|dM (BD om (hT.ext (xt (xt (xt d b) a) e)) (hE.ext (xt (xt (xt d b) a) e))) fun bk f=>jI (h.ext (xt (xt a e) f)) 4 rfl a1 fun a6 bg _ ae=>jO ae rfl<|AB.build Fi rfl<|jN (z := .agg #[.int .i64 0,.int .i64 0,.int .i64 0,.string { data := #[] }]) fun a7 bl q bc p y=>AX (vs:=[Value.int IntKind.i64 (Ao j),Value.int IntKind.i64 (Ao k),Value.int IntKind.i64 (Ao l),Value.string m]) kR y rfl rfl cE fun bm o aa=>iF<|iT<|AB.build Fi rfl<|jS (vs:=[Value.int IntKind.i64 0,Value.int IntKind.i64 0,Value.int IntKind.i64 0,Value.string { data := #[] }]) (r.ext (xb (xt (xt (xt (xt b a) e) f) p) o.but (nB (xt (xt (xt b a) e) f) q))) rfl rfl cE fun bp ai ah=>AO (jR (n:=4) rfl ah.cells) ⟨?_,(xb (xb (xt (xt (xt (xt (xt d b) a) e) f) p) o.but (nB (xt (xt (xt (xt d b) a) e) f) q)) ai.but s)⟩
   .exact .inr ⟨by rw [u,if_neg (by simp [*])],⟨0,0,0,{ data := #[] }⟩,0,rfl⟩
  cases b7:Ei l
  .refine jN (z := .agg #[.int .i64 0,.int .i64 0,.int .i64 0,.string { data := #[] }]) fun ao a2 s ax d r=>(au _ (hM.ext d)).mono ?_;rintro _ bh ⟨ap,rfl,h,b⟩;refine jI h 1 rfl ay fun a3 bd _ ab=>jO ab rfl<|dM (BD om (hT.ext (xt d b)) (hE.ext (xt d b))) fun bi a=>jI (h.ext a) 2 rfl az fun a4 be _ ac=>jO ac rfl<|dM (BD om (hT.ext (xt (xt d b) a)) (hE.ext (xt (xt d b) a))) fun bj e=>jI (h.ext (xt a e)) 3 rfl a0 fun a5 bf _ ad=>jO ad rfl<|dM (BD om (hT.ext (xt (xt (xt d b) a) e)) (hE.ext (xt (xt (xt d b) a) e))) fun bk f=>jI (h.ext (xt (xt a e) f)) 4 rfl a1 fun a6 bg _ ae=>jO ae rfl<|AB.build Fi rfl<|jN (z := .agg #[.int .i64 0,.int .i64 0,.int .i64 0,.string { data := #[] }]) fun a7 bl q bc p y=>AX (vs:=[Value.int IntKind.i64 (Ao j),Value.int IntKind.i64 (Ao k),Value.int IntKind.i64 (Ao l),Value.string m]) kR y rfl rfl cE fun bm o aa=>iF<|iF<|iT<|AB.build Fi rfl<|jS (vs:=[Value.int IntKind.i64 0,Value.int IntKind.i64 0,Value.int IntKind.i64 0,Value.string { data := #[] }]) (r.ext (xb (xt (xt (xt (xt b a) e) f) p) o.but (nB (xt (xt (xt b a) e) f) q))) rfl rfl cE fun bp ai ah=>AO (jR (n:=4) rfl ah.cells) ⟨?_,(xb (xb (xt (xt (xt (xt (xt d b) a) e) f) p) o.but (nB (xt (xt (xt (xt d b) a) e) f) q)) ai.but s)⟩
   .exact .inr ⟨by rw [u,if_neg (by simp [*])],⟨0,0,0,{ data := #[] }⟩,0,rfl⟩
  refine jN (z := .agg #[.int .i64 0,.int .i64 0,.int .i64 0,.string { data := #[] }]) fun ao a2 s ax d r=>(au _ (hM.ext d)).mono ?_;rintro _ bh ⟨ap,rfl,h,b⟩;refine jI h 1 rfl ay fun a3 bd _ ab=>jO ab rfl<|dM (BD om (hT.ext (xt d b)) (hE.ext (xt d b))) fun bi a=>jI (h.ext a) 2 rfl az fun a4 be _ ac=>jO ac rfl<|dM (BD om (hT.ext (xt (xt d b) a)) (hE.ext (xt (xt d b) a))) fun bj e=>jI (h.ext (xt a e)) 3 rfl a0 fun a5 bf _ ad=>jO ad rfl<|dM (BD om (hT.ext (xt (xt (xt d b) a) e)) (hE.ext (xt (xt (xt d b) a) e))) fun bk f=>jI (h.ext (xt (xt a e) f)) 4 rfl a1 fun a6 bg _ ae=>jO ae rfl<|AB.build Fi rfl<|jN (z := .agg #[.int .i64 0,.int .i64 0,.int .i64 0,.string { data := #[] }]) fun a7 bl q bc p y=>AX (vs:=[Value.int IntKind.i64 (Ao j),Value.int IntKind.i64 (Ao k),Value.int IntKind.i64 (Ao l),Value.string m]) kR y rfl rfl cE fun bm o aa=>iF<|iF<|iF<|jA (n:=4) aa.cells rfl<|dM (b3 _) fun ce t=>BA (fun ar=>?_) fun ar=>?_
  .refine AB.build Fi rfl<|jS (vs:=[Value.int IntKind.i64 0,Value.int IntKind.i64 0,Value.int IntKind.i64 0,Value.string { data := #[] }]) (r.ext (xt (xb (xt (xt (xt (xt b a) e) f) p) o.but (nB (xt (xt (xt b a) e) f) q)) t)) rfl rfl cE fun cf bv br=>AO (jR (n:=4) rfl br.cells) ⟨?_,(xb (xt (xb (xt (xt (xt (xt (xt d b) a) e) f) p) o.but (nB (xt (xt (xt (xt d b) a) e) f) q)) t) bv.but s)⟩
   .exact .inr ⟨by rw [u,if_neg (by rw [ar];simp)],⟨0,0,0,{ data := #[] }⟩,0,rfl⟩
  .have b':=b4 ar;refine jA (n:=4) (aa.ext t).cells rfl<|dM (b1 _ (hT.ext (xt (xb (xt (xt (xt (xt (xt d b) a) e) f) p) o.but (nB (xt (xt (xt (xt d b) a) e) f) q)) t)) om) fun cg aj=>Au A7 mixed (pZ [5,10,25,30,1,16,22,35,43,45,50]) kR kR fun ch aq=>GO sO<|dA (n:=4) (aa.ext (xt t aj)).cells rfl<|dA (n:=4) (aa.ext (xt t aj)).cells rfl<|dM (b2 _ (hT.ext (xt (xt (xt (xb (xt (xt (xt (xt (xt d b) a) e) f) p) o.but (nB (xt (xt (xt (xt d b) a) e) f) q)) t) aj) aq)) om) fun ci a9=>⟨(xt aq a9),AX (vs:=[Value.int IntKind.i64 (Ao j),Value.int IntKind.i64 (Ao k),Value.int IntKind.i64 (Ao l),Value.string m]) kR (r.ext (xt (xt (xt (xt (xb (xt (xt (xt (xt b a) e) f) p) o.but (nB (xt (xt (xt b a) e) f) q)) t) aj) aq) a9)) rfl rfl cE fun cj bw bt=>AO (jR (n:=4) rfl bt.cells) ⟨?_,(xb (xt (xt (xt (xt (xb (xt (xt (xt (xt (xt d b) a) e) f) p) o.but (nB (xt (xt (xt (xt d b) a) e) f) q)) t) aj) aq) a9) bw.but s)⟩⟩
   .by_cases aw:E9 (B0 before g) g=line++nlB
    .have ba:decide (E9 (B0 before g) g=line++{ data := #[10] })=true:=decide_eq_true aw;exact .inl ⟨g,B0 before g,by rw [u,if_pos ⟨by rw [b5,b6,b7,ar];rfl,aw⟩],by rw [ba,ag];rfl⟩
    .have ba:decide (E9 (B0 before g) g=line++{ data := #[10] })=false:=decide_eq_false aw;exact .inr ⟨by rw [u,if_neg (fun bz=>aw bz.2)],g,B0 before g,by rw [ba,ag];rfl⟩
 .have u:=Mm a' before;refine oV Tryz.func254 ?_;refine jN (z := .agg #[.int .i64 0,.int .i64 0,.int .i64 0,.string { data := #[] }]) ?_;intro ao a2 s ax d r;refine (Nx om (hM.ext d)).mono ?_;rintro _ cc ⟨ap,rfl,ca,cb,bo⟩;refine AW (fun b0=>?_) fun b0=>?_
  .refine AB.build Fi rfl<|jS (vs:=[Value.int IntKind.i64 0,Value.int IntKind.i64 0,Value.int IntKind.i64 0,Value.string { data := #[] }]) (r.ext bo) rfl rfl cE fun cd bu bq=>AO (jR (n:=4) rfl bq.cells) ⟨?_,(xb (xt d bo) bu.but s)⟩
   .exact .inr ⟨u,⟨0,0,0,{ data := #[] }⟩,0,rfl⟩
  .exact absurd om a'
theorem JA (hs:log.size<=4000) (hT:GR w) (hE:Eg w) (hM:EE w) :
  Dq 191 [.string log] w (fun v w'=>∃ a n c,v = .tuple #[.slice a n c,.int .i64 (BB log.data.toList 0).2.1,.int .i64 (BB log.data.toList 0).2.2]/\Ab w.heap.size a/\Bs Ar.enc w' a n 151 (BB log.data.toList 0).1/\AD w w'):=by
 have bk:log.data.toList.length=log.size:=sI
 refine oV Tryz.func191 ?_;refine bS HO (vs:=[]) ?_;intro bc bq a1 bm a0 aq;have av:=Ag (enc:=Ar.enc) (sz:=4) Av aq a1;refine lR [0,5,6,7] (fun (b:Nat) a7 w'=>∃ y am aa out h,a7=[.string log,.slice y am aa,.int .i64 h,.int .i64 b]/\b<=log.size/\0<=h/\h<=65520/\An Ar.enc 4 w.heap.size 151 w' y am aa out/\out.length<=b/\BB log.data.toList 0=(out++(BB (log.data.toList.drop b) h).1,(BB (log.data.toList.drop b) h).2.1,b+(BB (log.data.toList.drop b) h).2.2)/\AD w w') (fun b=>log.size - b) 0 ⟨_,_,_,_,_,rfl,om,om,om,av,sI,sI,a0⟩ ?_;rintro b bg _ w' ⟨y,am,aa,out,h,rfl,bh,af,an,m,bj,l,f⟩;have o:=m.len;have ao:(log.extract b log.size).data.toList=log.data.toList.drop b:=by
  rw [FO,List.take_of_length_le sI];simp [bs]
 by_cases ah:(10:UInt8)∈log.data.toList.drop b
 .obtain ⟨g,bp,r,ai⟩:=F6 ah;have u:∀ d,Dq 253 [.string (log.extract b log.size),.int .u8 10] d (fun v i=>v = .int .i64 (g.length:Nat)/\d=i):=fun d=>by
   refine (Is (log.extract b log.size) 10 d).mono ?_;rintro _ _ ⟨rfl,rfl⟩;rw [ao,r,Ha _ _ _ ai];exact ⟨rfl,rfl⟩
  have bi:g.length+1+b<=log.size:=by
   have:=congrArg List.length r;simp at this;omega
  have a3:=X1 r;have ap:log.extract b (b+g.length)=bs g:=by
   rw [FO,r];congr 1;simp
  cases o:Dm (bs g) h with
  | none =>
   have ae:∀ d,GR d->Eg d->EE d->Dq 254 [.string (log.extract b (b+g.length)),.int .i64 h] d (fun v i=>∃ n c,v = .tuple #[.agg ⟨Ar.enc n⟩,.int .i64 c,.bool false]/\AD d i):=fun d aj ak al=>by
    rw [ap];refine (Ll (line:=bs g) (by rw [BY];omega) af an aj ak al).mono ?_;rintro _ i ⟨e | e,ac⟩
    .obtain ⟨n,c,e,_⟩:=e;rw [o] at e;cases e
    .obtain ⟨_,n,c,rfl⟩:=e;exact ⟨n,c,rfl,ac⟩
   rw [r,LA ai o] at l;simp only [List.append_nil,Nat.add_zero] at l;rw [l];refine CB (k := .i64) (k' := .i64) kR (b) (log.size) om om (.inr rF) (.inl ⟨rfl,rfl⟩)<|(u _).mono ?_;rintro _ _ ⟨rfl,rfl⟩;refine AB.add _ rfl om om ?_;refine CB (k := .i64) (k' := .i64) kR (b) (b+g.length) om om (.inr rF) (.inr rF)<|(ae _ (hT.ext f) (hE.ext f) (hM.ext f)).mono ?_;rintro _ a9 ⟨a6,bf,rfl,j⟩;refine jN (z := .agg #[.int .i64 0,.int .i64 0,.int .i64 0,.string { data := #[] }]) ?_;intro az a' t a4 q x;exact jS x (vs:=a6.enc) rfl rfl (by simp [Ar.enc,AM]) fun a8 s bb=>⟨_,_,_,rfl,m.new,(m.ext (xb (xt j q) s.but (nB j t))).own,(xb (xt (xt f j) q) s.but (nB (xt f j) t))⟩
  | some ba =>
   obtain ⟨n,c⟩:=ba;have ae:∀ d,GR d->Eg d->EE d->Dq 254 [.string (log.extract b (b+g.length)),.int .i64 h] d (fun v i=>v = .tuple #[.agg ⟨Ar.enc n⟩,.int .i64 c,.bool true]/\AD d i):=fun d aj ak al=>by
    rw [ap];refine (Ll (line:=bs g) (by rw [BY];omega) af an aj ak al).mono ?_;rintro _ i ⟨e | e,ac⟩
    .obtain ⟨bo,be,e,rfl⟩:=e;rw [o] at e;cases e;exact ⟨rfl,ac⟩
    .rw [o] at e;cases e.1
   rw [r,F1 ai o] at l;refine CB (k := .i64) (k' := .i64) kR (b) (log.size) om om (.inr rF) (.inl ⟨rfl,rfl⟩)<|(u _).mono ?_;rintro _ _ ⟨rfl,rfl⟩;refine AB.add _ rfl om om ?_;refine CB (k := .i64) (k' := .i64) kR (b) (b+g.length) om om (.inr rF) (.inr rF) ?_;refine (ae _ (hT.ext f) (hE.ext f) (hM.ext f)).mono ?_;rintro _ br ⟨rfl,p⟩;refine jN (z := .agg #[.int .i64 0,.int .i64 0,.int .i64 0,.string { data := #[] }]) ?_;intro bd bt ad bn j ar;refine jS ar (vs:=n.enc) rfl rfl (by simp [Ar.enc,AM]) ?_;intro a9 ab au;refine jA (n:=4) au.cells rfl<|AB.buildSlice HO (vs:=[Value.agg n.enc.toArray]) rF rF (by simp [Value.cells,Ar.enc]) dE ?_;intro az a' t a4 q x;have ax:=AH (n:=1) (enc:=Ar.enc) (xs:=[n]) Av x t rfl dE;refine AN (enc:=Ar.enc) HO Av (m.ext (xt (xb (xt p j) ab.but (nB p ad)) q)) (ax.own.arr Av) (by intro bu _;simp [Ar.enc,AM]) om om (Below.size (xt (xb (xt (xt f p) j) ab.but (nB (xt f p) ad)) q)) ?_;intro ay s a8 aw a5 bl;refine jP (((g.length+1:Nat):Int)) ?_;refine AB.add _ rfl om om ?_;(conv=>whnf);obtain ⟨_,a2,_⟩:=Kg o;have ag:=ID h af n;rw [<- a2] at ag;refine ⟨b+(g.length+1),om,ay,_,s,out++[n],c,rfl,om,ag.1,ag.2,aw,sW,?_,xm (xt (xb (xt (xt f p) j) ab.but (nB (xt f p) ad)) q) a5 (AQ m.new)⟩;rw [a3,l];simp [Nat.add_assoc]
 .have u:∀ d,Dq 253 [.string (log.extract b log.size),.int .u8 10] d (fun v i=>v = .int .i64 (-1)/\d=i):=fun d=>by
   refine (Is (log.extract b log.size) 10 d).mono ?_;rintro _ _ ⟨rfl,rfl⟩;rw [ao,Jf _ _ ah];exact ⟨rfl,rfl⟩
  rw [Hx ah] at l;simp only [List.append_nil,Nat.add_zero] at l;rw [l];refine CB (k := .i64) (k' := .i64) kR (b) (log.size) om om (.inr rF) (.inl ⟨rfl,rfl⟩) ?_;refine (u _).mono ?_;rintro _ _ ⟨rfl,rfl⟩;exact ⟨_,_,_,rfl,m.new,m.own,f⟩
theorem Ye {w0:World} {r:Nat} {at_:Nat} {ch:Int} {out:List Ar} {a:Option Addr} {n c:Nat} (hs:log.size<=4000) (hat:at_<=log.size) (h0:0<=ch) (h1:ch<=65520)
  (B:B8 w r [.string log,.int .i64 at_,.int .i64 ch,.slice a n c] 156) (G:An Ar.enc 4 w0.heap.size 151 w a n c out) (hr:w0.heap.size<=r) (hne:∀ k,AL a k->k≠r) (hE0:AD w0 w) (hol:out.length<=at_) :
  Dq 188 [.pointer (some ⟨r,0,none⟩)] w (fun v w'=>AD w0 w'/\((v = .bool false/\BB (log.data.toList.drop at_) ch=([],ch,0)/\AD w w') \/
   ∃ p rest n2 c2 a' n' c',v = .bool true/\log.data.toList.drop at_=p++10 :: rest/\(10:UInt8)∉p/\Dm (bs p) ch=some (n2,c2)/\B8 w' r [.string log,.int .i64 (at_+(p.length+1):Nat),.int .i64 c2,.slice a' n' c'] 156 /\
    An Ar.enc 4 w0.heap.size 151 w' a' n' c' (out++[n2])/\(∀ k,AL a' k->k≠r))):=by
 have db:log.data.toList.length=log.size:=sI
 have c9:=G.len;have da:=B.lt;refine oV Tryz.func188 ?_;refine jL B.cells (k:=1) rfl ?_;refine lR [0,3] (fun (k:Nat) cy w'=>cy=[.pointer (some ⟨r,0,none⟩),.int .i64 k]/\at_<=k/\k<=log.size/\(10:UInt8)∉(log.data.toList.drop at_).take (k - at_)/\w=w') (fun k=>log.size - k) at_ ⟨rfl,om,om,sI,rfl⟩ ?_;rintro k c3 _ w' ⟨rfl,c6,b8,az,rfl⟩;refine jL B.cells (k:=0) rfl ?_;(conv=>whnf);by_cases c7:k<log.size
 .obtain ⟨u,al⟩:∃ u,log.data.toList[k]? = some u:=AA om;have b7:(log.data.toList.drop at_)[k - at_]? = some u:=by rw [List.getElem?_drop,<- al];congr 1;omega
  by_cases bq:u=10
  .subst bq;obtain ⟨p,a2⟩:∃ p,p=(log.data.toList.drop at_).take (k - at_):=⟨_,rfl⟩;rw [<- a2] at az;have cu:p.length=k - at_:=by rw [a2];simp;omega
   have bt:log.data.toList.drop at_=p++10 :: log.data.toList.drop (k+1):=by
    have:=(GW b7).symm;rw [this,a2,List.drop_drop];congr 3;omega
   have b9:log.extract at_ k=bs p:=by
    rw [FO,<- a2]
   have b':log.extract at_ (k+1)=bs p++nlB:=by
    rw [FO,bt];have ar:k+1 - at_=(p++[10]).length:=sW
    have cm:p++10 :: log.data.toList.drop (k+1)=(p++[10])++log.data.toList.drop (k+1):=sI
    rw [ar,cm,List.take_left,aJ4];rfl
   clear a2;have ag:=LA (p:=p) (r:=log.data.toList.drop (k+1)) az (ch:=ch);rw [<- bt] at ag;by_cases bp:(Ay 32 (bs p)).length=5
   .obtain ⟨a4,o,q,s,x,ay⟩:=aH3 bp;have af:=Iq ay ch;have dv:(bs p).size=k - at_:=by rw [BY,cu]
    have dr:o.size<=(bs p).size:=Ea (c:=32) (by rw [ay];simp);have ds:q.size<=(bs p).size:=Ea (c:=32) (by rw [ay];simp);have dt:s.size<=(bs p).size:=Ea (c:=32) (by rw [ay];simp);have du:x.size<=(bs p).size:=Ea (c:=32) (by rw [ay];simp);have a0:Ar.ok ⟨Ao o,Ao q,Ao s,x⟩:=⟨G3 o,G3 q,G3 s,by simp only [IP];omega⟩;have be:[a4,o,q,s,x][1]? = some o:=rfl;have bf:[a4,o,q,s,x][2]? = some q:=rfl;have bg:[a4,o,q,s,x][3]? = some s:=rfl;have bh:[a4,o,q,s,x][4]? = some x:=rfl;obtain ⟨t,ca⟩:∃ t:Ar,t=⟨Ao o,Ao q,Ao s,x⟩:=⟨_,rfl⟩;rw [<- ca] at af a0;have a8:=ID ch h0 t;have c8:=LH a8.1 a8.2 a0;have dd:=Fz a0;have bb:t.enc=[.int .i64 (Ao o),.int .i64 (Ao q),.int .i64 (Ao s),.string x]:=by rw [ca];rfl
    have cv:Cx t=true->t.what.size<=12:=FJ;have cs:∀ h u,AK h u 0 [.int .i64 (Ao o),.int .i64 (Ao q),.int .i64 (Ao s),.string x]->Dq 174 [.pointer (some ⟨u,0,none⟩)] h (fun v aa=>v = .bool (Cx t)/\h=aa):=fun h u a1=>JR a0 (bb▸a1);have ct:∀ h u,AK h u 0 [.int .i64 (Ao o),.int .i64 (Ao q),.int .i64 (Ao s),.string x]->t.what.size<=1000->Dq 107 [.pointer (some ⟨u,0,none⟩)] h (fun v aa=>v = .string (DO t)/\AD h aa):=fun h u a1 ba=>Fp a0 ba (bb▸a1);have cq:∀ h,t.what.size<=1000->Dq 176 [.int .i64 ch,.string (DO t)] h (fun v aa=>v = .int .i64 (B0 ch t)/\h=aa):=fun h ba=>LV h0 h1 om h;have cr:∀ h u,AK h u 0 [.int .i64 (Ao o),.int .i64 (Ao q),.int .i64 (Ao s),.string x]->t.what.size<=1000->Dq 175 [.int .i64 (B0 ch t),.pointer (some ⟨u,0,none⟩)] h (fun v aa=>v = .string (E9 (B0 ch t) t)/\AD h aa):=fun h u a1 ba=>Ma a8.1 a8.2 a0 ba (bb▸a1);have ax:∀ h,Dq 18 [.string (log.extract at_ k),.int .u8 32] h (fun v aa=>∃ a n c,v = .slice a 5 c/\n=5/\Ab h.heap.size a/\Bs eS aa a 5 9 [a4,o,q,s,x]/\AD h aa):=fun h=>by
     rw [b9];refine (G2 om 32 h).mono ?_;rintro _ aa ⟨a,n,c,rfl,h1,aw,bn⟩;rw [ay] at aw;have:n=5:=aw.1.symm;subst this;exact ⟨a,5,c,rfl,rfl,h1,aw,bn⟩
    cases bc:Ei o
    .refine iY ?_;refine jL B.cells (k:=0) rfl ?_;refine jC k rfl al ?_;refine jL B.cells (k:=0) rfl ?_;refine iN ?_;refine dH (pB [0,2,4,6,8,10,12,14,17,19,21,23]) ?_;intro bi b;refine dL B.cells (k:=0) rfl ?_;refine dL B.cells (k:=1) rfl ?_;refine CB (k := .i64) (k' := .i64) kR (at_) (k) om om (.inr rF) (.inr rF) ?_;refine ⟨b,?_⟩;refine (ax _).mono ?_;rintro _ aq ⟨a5,bd,a6,rfl,rfl,bj,i,f⟩;refine ⟨(xt b f),?_⟩;obtain ⟨ak,rfl⟩:=(i).some om;have bw:ak<aq.heap.size:=i.lt _ rfl;refine jW (sz:=1) 1 rfl om ?_;have am:=AU AP i be;refine jO am rfl ?_;refine (Bo om _).mono ?_;rintro _ bx ⟨rfl,d⟩;refine jW (sz:=1) 2 rfl om ?_;have an:=AU AP (i.ext d) bf;refine jO an rfl ?_;refine (Bo om _).mono ?_;rintro _ bz ⟨rfl,e⟩;refine jW (sz:=1) 3 rfl om ?_;have ao:=AU AP (i.ext (xt d e)) bg;refine jO ao rfl ?_;refine (Bo om _).mono ?_;rintro _ b0 ⟨rfl,g⟩;refine jW (sz:=1) 4 rfl om ?_;have ap:=AU AP (i.ext (xt (xt d e) g)) bh;refine jO ap rfl ?_;refine AB.build Fi rfl ?_;refine jN (z := .agg #[.int .i64 0,.int .i64 0,.int .i64 0,.string { data := #[] }]) ?_;intro bl b1 m bv l ai;refine AX (vs:=[Value.int IntKind.i64 (Ao o),Value.int IntKind.i64 (Ao q),Value.int IntKind.i64 (Ao s),Value.string x]) kR ai rfl rfl cE ?_;intro b2 j aj;refine iT ?_;refine ⟨(xb (xt (xt (xt (xt (xt (xt hE0 b) f) d) e) g) l) j.but (nB (xt (xt (xt (xt (xt hE0 b) f) d) e) g) m)),?_⟩;refine ?_
     .exact .inl ⟨rfl,ag (by rw [af,if_neg (by simp [bc])]),(xb (xt (xt (xt (xt (xt b f) d) e) g) l) j.but (nB (xt (xt (xt (xt b f) d) e) g) m))⟩
    cases bu:Ei q
    .refine iY ?_;refine jL B.cells (k:=0) rfl ?_;refine jC k rfl al ?_;refine jL B.cells (k:=0) rfl ?_;refine iN ?_;refine dH (pB [0,2,4,6,8,10,12,14,17,19,21,23]) ?_;intro bi b;refine dL B.cells (k:=0) rfl ?_;refine dL B.cells (k:=1) rfl ?_;refine CB (k := .i64) (k' := .i64) kR (at_) (k) om om (.inr rF) (.inr rF) ?_;refine ⟨b,?_⟩;refine (ax _).mono ?_;rintro _ aq ⟨a5,bd,a6,rfl,rfl,bj,i,f⟩;refine ⟨(xt b f),?_⟩;obtain ⟨ak,rfl⟩:=(i).some om;have bw:ak<aq.heap.size:=i.lt _ rfl;refine jW (sz:=1) 1 rfl om ?_;have am:=AU AP i be;refine jO am rfl ?_;refine (Bo om _).mono ?_;rintro _ bx ⟨rfl,d⟩;refine jW (sz:=1) 2 rfl om ?_;have an:=AU AP (i.ext d) bf;refine jO an rfl ?_;refine (Bo om _).mono ?_;rintro _ bz ⟨rfl,e⟩;refine jW (sz:=1) 3 rfl om ?_;have ao:=AU AP (i.ext (xt d e)) bg;refine jO ao rfl ?_;refine (Bo om _).mono ?_;rintro _ b0 ⟨rfl,g⟩;refine jW (sz:=1) 4 rfl om ?_;have ap:=AU AP (i.ext (xt (xt d e) g)) bh;refine jO ap rfl ?_;refine AB.build Fi rfl ?_;refine jN (z := .agg #[.int .i64 0,.int .i64 0,.int .i64 0,.string { data := #[] }]) ?_;intro bl b1 m bv l ai;refine AX (vs:=[Value.int IntKind.i64 (Ao o),Value.int IntKind.i64 (Ao q),Value.int IntKind.i64 (Ao s),Value.string x]) kR ai rfl rfl cE ?_;intro b2 j aj;refine iF ?_;refine iT ?_;refine ⟨(xb (xt (xt (xt (xt (xt (xt hE0 b) f) d) e) g) l) j.but (nB (xt (xt (xt (xt (xt hE0 b) f) d) e) g) m)),?_⟩;refine ?_
     .exact .inl ⟨rfl,ag (by rw [af,if_neg (by simp [bc,bu])]),(xb (xt (xt (xt (xt (xt b f) d) e) g) l) j.but (nB (xt (xt (xt (xt b f) d) e) g) m))⟩
    cases cb:Ei s
    .refine iY ?_;refine jL B.cells (k:=0) rfl ?_;refine jC k rfl al ?_;refine jL B.cells (k:=0) rfl ?_;refine iN ?_;refine dH (pB [0,2,4,6,8,10,12,14,17,19,21,23]) ?_;intro bi b;refine dL B.cells (k:=0) rfl ?_;refine dL B.cells (k:=1) rfl ?_;refine CB (k := .i64) (k' := .i64) kR (at_) (k) om om (.inr rF) (.inr rF) ?_;refine ⟨b,?_⟩;refine (ax _).mono ?_;rintro _ aq ⟨a5,bd,a6,rfl,rfl,bj,i,f⟩;refine ⟨(xt b f),?_⟩;obtain ⟨ak,rfl⟩:=(i).some om;have bw:ak<aq.heap.size:=i.lt _ rfl;refine jW (sz:=1) 1 rfl om ?_;have am:=AU AP i be;refine jO am rfl ?_;refine (Bo om _).mono ?_;rintro _ bx ⟨rfl,d⟩;refine jW (sz:=1) 2 rfl om ?_;have an:=AU AP (i.ext d) bf;refine jO an rfl ?_;refine (Bo om _).mono ?_;rintro _ bz ⟨rfl,e⟩;refine jW (sz:=1) 3 rfl om ?_;have ao:=AU AP (i.ext (xt d e)) bg;refine jO ao rfl ?_;refine (Bo om _).mono ?_;rintro _ b0 ⟨rfl,g⟩;refine jW (sz:=1) 4 rfl om ?_;have ap:=AU AP (i.ext (xt (xt d e) g)) bh;refine jO ap rfl ?_;refine AB.build Fi rfl ?_;refine jN (z := .agg #[.int .i64 0,.int .i64 0,.int .i64 0,.string { data := #[] }]) ?_;intro bl b1 m bv l ai;refine AX (vs:=[Value.int IntKind.i64 (Ao o),Value.int IntKind.i64 (Ao q),Value.int IntKind.i64 (Ao s),Value.string x]) kR ai rfl rfl cE ?_;intro b2 j aj;refine iF ?_;refine iF ?_;refine iT ?_;refine ⟨(xb (xt (xt (xt (xt (xt (xt hE0 b) f) d) e) g) l) j.but (nB (xt (xt (xt (xt (xt hE0 b) f) d) e) g) m)),?_⟩;refine ?_
     .exact .inl ⟨rfl,ag (by rw [af,if_neg (by simp [bc,bu,cb])]),(xb (xt (xt (xt (xt (xt b f) d) e) g) l) j.but (nB (xt (xt (xt (xt b f) d) e) g) m))⟩
    refine iY ?_;refine jL B.cells (k:=0) rfl ?_;refine jC k rfl al ?_;refine jL B.cells (k:=0) rfl ?_;refine iN ?_;refine dH (pB [0,2,4,6,8,10,12,14,17,19,21,23]) ?_;intro bi b;refine dL B.cells (k:=0) rfl ?_;refine dL B.cells (k:=1) rfl ?_;refine CB (k := .i64) (k' := .i64) kR (at_) (k) om om (.inr rF) (.inr rF) ?_;refine ⟨b,?_⟩;refine (ax _).mono ?_;rintro _ aq ⟨a5,bd,a6,rfl,rfl,bj,i,f⟩;refine ⟨(xt b f),?_⟩;obtain ⟨ak,rfl⟩:=(i).some om;have bw:ak<aq.heap.size:=i.lt _ rfl;refine jW (sz:=1) 1 rfl om ?_;have am:=AU AP i be;refine jO am rfl ?_;refine (Bo om _).mono ?_;rintro _ bx ⟨rfl,d⟩;refine jW (sz:=1) 2 rfl om ?_;have an:=AU AP (i.ext d) bf;refine jO an rfl ?_;refine (Bo om _).mono ?_;rintro _ bz ⟨rfl,e⟩;refine jW (sz:=1) 3 rfl om ?_;have ao:=AU AP (i.ext (xt d e)) bg;refine jO ao rfl ?_;refine (Bo om _).mono ?_;rintro _ b0 ⟨rfl,g⟩;refine jW (sz:=1) 4 rfl om ?_;have ap:=AU AP (i.ext (xt (xt d e) g)) bh;refine jO ap rfl ?_;refine AB.build Fi rfl ?_;refine jN (z := .agg #[.int .i64 0,.int .i64 0,.int .i64 0,.string { data := #[] }]) ?_;intro bl b1 m bv l ai;refine AX (vs:=[Value.int IntKind.i64 (Ao o),Value.int IntKind.i64 (Ao q),Value.int IntKind.i64 (Ao s),Value.string x]) kR ai rfl rfl cE ?_;intro b2 j aj;refine iF ?_;refine iF ?_;refine iF ?_;refine (cs _ _ aj.cells).mono ?_;rintro _ _ ⟨rfl,rfl⟩;refine BA (fun a7=>?_) fun a7=>?_
    .refine ⟨(xb (xt (xt (xt (xt (xt (xt hE0 b) f) d) e) g) l) j.but (nB (xt (xt (xt (xt (xt hE0 b) f) d) e) g) m)),?_⟩;refine ?_
     .exact .inl ⟨rfl,ag (by rw [af,if_neg (by rw [a7];simp)]),(xb (xt (xt (xt (xt (xt b f) d) e) g) l) j.but (nB (xt (xt (xt (xt b f) d) e) g) m))⟩
    .have dc:=cv a7;refine dH (pB [0,2,4,6,9,11,13]) ?_;intro dg y;refine dL (B.ext (xb (xt (xt (xt (xt (xt b f) d) e) g) l) j.but (nB (xt (xt (xt (xt b f) d) e) g) m))).cells (k:=2) rfl ?_;refine (ct _ _ (aj.ext y).cells om).mono ?_;rintro _ dh ⟨rfl,ab⟩;refine ⟨(xt y ab),?_⟩;refine (cq _ om).mono ?_;rintro _ _ ⟨rfl,rfl⟩;refine ⟨(xt y ab),?_⟩;refine dH (pB [0,4,6,8,10,12,14,16,18,20,22,24,3,27]) ?_;intro di ad;refine dL (B.ext (xt (xt (xb (xt (xt (xt (xt (xt b f) d) e) g) l) j.but (nB (xt (xt (xt (xt b f) d) e) g) m)) y) ab)).cells (k:=0) rfl ?_;refine dL (B.ext (xt (xt (xb (xt (xt (xt (xt (xt b f) d) e) g) l) j.but (nB (xt (xt (xt (xt b f) d) e) g) m)) y) ab)).cells (k:=1) rfl ?_;refine BQ.add (((k+1:Nat):Int)) om om om ?_;refine IK (k := .i64) (k' := .i64) kR (at_) (k+1) om om (.inr rF) (.inr rF) ?_;refine (cr _ _ (aj.ext (xt (xt y ab) ad)).cells om).mono ?_;rintro _ dj ⟨rfl,ae⟩;refine ⟨(xt ad ae),?_⟩;refine AW (fun bo=>?_) fun bo=>?_
     .refine ⟨(xt (xt (xt (xt (xb (xt (xt (xt (xt (xt (xt hE0 b) f) d) e) g) l) j.but (nB (xt (xt (xt (xt (xt hE0 b) f) d) e) g) m)) y) ab) ad) ae),?_⟩;refine ?_
      .exact .inl ⟨rfl,ag (by rw [af,if_neg (fun ac=>bo (by rw [b'];exact ac.2))]),(xt (xt (xt (xt (xb (xt (xt (xt (xt (xt b f) d) e) g) l) j.but (nB (xt (xt (xt (xt b f) d) e) g) m)) y) ab) ad) ae)⟩
     .refine Au A7 mixed (pZ [0,5,10,15,21,26,32,38,40,45,53]) kR kR ?_;intro dk au;refine dL (B.ext (xt (xt (xt (xt (xb (xt (xt (xt (xt (xt b f) d) e) g) l) j.but (nB (xt (xt (xt (xt b f) d) e) g) m)) y) ab) ad) ae)).cells (k:=3) rfl ?_;refine dA (n:=4) (aj.ext (xt (xt (xt y ab) ad) ae)).cells rfl ?_;refine bS HO (vs:=[Value.agg #[Value.int IntKind.i64 (Ao o),Value.int IntKind.i64 (Ao q),Value.int IntKind.i64 (Ao s),Value.string x]]) ?_;intro c1 dl co de av cd;have cj:=AH (n:=1) (enc:=Ar.enc) (xs:=[t]) Av (by simpa [Al,cellsOf,Value.cells,bb] using cd) co rfl dE;refine ⟨(xt au av),?_⟩;refine AN (enc:=Ar.enc) HO Av (G.ext (xt (xt (xt (xt (xt (xt (xb (xt (xt (xt (xt (xt b f) d) e) g) l) j.but (nB (xt (xt (xt (xt b f) d) e) g) m)) y) ab) ad) ae) au) av)) (cj.own.arr Av) (by intro ah _;simp [Ar.enc,AM]) om om (Below.size (xt (xt (xt (xt (xt (xt (xb (xt (xt (xt (xt (xt (xt hE0 b) f) d) e) g) l) j.but (nB (xt (xt (xt (xt (xt hE0 b) f) d) e) g) m)) y) ab) ad) ae) au) av)) ?_;intro bk b3 dm ck cc cw;have ci:=(B.ext (xt (xt (xt (xt (xt (xt (xb (xt (xt (xt (xt (xt b f) d) e) g) l) j.but (nB (xt (xt (xt (xt b f) d) e) g) m)) y) ab) ad) ae) au) av)).mod cc (fun ac=>hne _ ac rfl);refine jT (k:=3) ci sI (v := .slice bk (n+1) b3) rfl ?_;intro dn b4 ce;have a9:∀ k,AL bk k->k≠r:=fun k b8=>by
       rcases cw k b8 with ac | ac
       .exact hne k ac
       .have:=Below.size (xt (xt (xt (xt (xt (xt (xb (xt (xt (xt (xt (xt b f) d) e) g) l) j.but (nB (xt (xt (xt (xt b f) d) e) g) m)) y) ab) ad) ae) au) av);omega
      have cl:=ck.mod b4.but (fun ah a3 ac=>a9 ah.block ⟨ah,a3,rfl⟩ ac);refine jT ce (k:=2) (Nat.le_of_ble_eq_true rfl) rfl ?_;intro dp b5 cf;refine jP (((k+1:Nat):Int)) ?_;refine jT cf (k:=1) (Nat.le_of_ble_eq_true rfl) rfl ?_;intro dq b6 cg;refine ⟨(xb (xb (xb (xm (xt (xt (xt (xt (xt (xt (xb (xt (xt (xt (xt (xt (xt hE0 b) f) d) e) g) l) j.but (nB (xt (xt (xt (xt (xt hE0 b) f) d) e) g) m)) y) ab) ad) ae) au) av) cc (AQ G.new)) b4.but hr) b5.but hr) b6.but hr),?_⟩;refine ?_
      .have cn:at_+(p.length+1)=k+1:=om
       refine .inr ⟨p,log.data.toList.drop (k+1),t,B0 ch t,bk,n+1,b3,rfl,bt,az,by rw [af,if_pos ⟨by rw [bc,bu,cb,a7];rfl,bo.trans b'⟩],by rw [cn];exact cg,?_,a9⟩;exact (cl.mod b5.but (fun ah a3 ac=>a9 ah.block ⟨ah,a3,rfl⟩ ac)).mod b6.but (fun ah a3 ac=>a9 ah.block ⟨ah,a3,rfl⟩ ac)
   .have af:=Mm bp ch;have ax:∀ h,Dq 18 [.string (log.extract at_ k),.int .u8 32] h (fun v aa=>∃ a n c,v = .slice a n c/\n≠5/\Ab h.heap.size a/\Bs eS aa a n 9 (Ay 32 (bs p))/\AD h aa):=fun h=>by
     rw [b9];refine (G2 (by rw [BY];omega) 32 h).mono ?_;rintro _ aa ⟨a,n,c,rfl,h1,aw,bn⟩;exact ⟨a,n,c,rfl,by rw [<- aw.1];exact bp,h1,aw,bn⟩
    refine iY ?_;refine jL B.cells (k:=0) rfl ?_;refine jC k rfl al ?_;refine jL B.cells (k:=0) rfl ?_;refine iN ?_;refine dH (pB [0,2,4,6,8,10,12,14,17,19,21,23]) ?_;intro bi b;refine dL B.cells (k:=0) rfl ?_;refine dL B.cells (k:=1) rfl ?_;refine CB (k := .i64) (k' := .i64) kR (at_) (k) om om (.inr rF) (.inr rF) ?_;refine ⟨b,?_⟩;refine (ax _).mono ?_;rintro _ df ⟨a5,bd,a6,rfl,cx,cz,c0,bm⟩;refine ⟨(xt b bm),?_⟩;refine AW (fun cp=>?_) fun cp=>?_
    .refine ⟨(xt (xt hE0 b) bm),?_⟩;refine ?_
     .exact .inl ⟨rfl,ag af,(xt b bm)⟩
    .exact absurd om cx
  .have c4:¬ ((u.toNat:Int)=10):=by
    intro ar;exact bq (UInt8.toNat_inj.1 (by show u.toNat=10;omega))
   have br:(10:UInt8)∉(log.data.toList.drop at_).take (k+1 - at_):=by
    have ar:k+1 - at_=(k - at_)+1:=om
    rw [ar,List.take_add_one,b7];simp only [Option.toList_some,List.mem_append,List.mem_singleton,not_or];exact ⟨az,fun ar=>bq ar.symm⟩
   refine iY ?_;refine jL B.cells (k:=0) rfl ?_;refine jC k rfl al ?_;refine iT ?_;refine jP (((k+1:Nat):Int)) ?_;exact ⟨k+1,om,rfl,om,om,br,rfl⟩
 .have c5:k=log.size:=om
  have br:(10:UInt8)∉log.data.toList.drop at_:=by
   rw [List.take_of_length_le sW] at az;exact az
  have ag:=Hx br ch;refine iN ?_;refine jL B.cells (k:=0) rfl ?_;refine iY ?_;refine ⟨hE0,?_⟩;refine ?_
  .exact .inl ⟨rfl,ag,AD.refl _⟩
theorem UE (hs:log.size<=4000) (w:World) :
  Dq 116 [.string log] w (fun v w'=>∃ r a n c,v = .pointer (some ⟨r,0,none⟩)/\B8 w' r [.string log,.int .i64 ((BB log.data.toList 0).2.2:Nat),.int .i64 (BB log.data.toList 0).2.1,.slice a n c] 156/\w.heap.size<=r/\Ab w.heap.size a/\Bs Ar.enc w' a n 151 (BB log.data.toList 0).1/\AD w w'):=by
 have ay:log.data.toList.length=log.size:=sI
 refine oV Tryz.func116 ?_;refine bS HO (vs:=[]) ?_;intro p a1 ak az q ac;have af:=Ag (enc:=Ar.enc) (sz:=4) Av ac ak;refine AB.build ZX rfl<|AB.box fun e a2 aw a0 s ad=>lR [3] (fun (b:Nat) au w'=>∃ a n c out d,au=[.pointer (some ⟨e,0,none⟩)]/\b<=log.size/\0<=d/\d<=65520/\B8 w' e [.string log,.int .i64 b,.int .i64 d,.slice a n c] 156/\An Ar.enc 4 w.heap.size 151 w' a n c out/\(∀ b,AL a b->b≠e)/\out.length<=b/\BB log.data.toList 0=(out++(BB (log.data.toList.drop b) d).1,(BB (log.data.toList.drop b) d).2.1,b+(BB (log.data.toList.drop b) d).2.2)/\AD w w') (fun b=>log.size - b) 0
  ⟨some ⟨p,0,none⟩,0,0,[],0,rfl,om,om,om,ad,af.ext s,fun b j=>by obtain ⟨a4,m,rfl⟩:=j;cases m;show p≠e;omega,sI,sI,xt q s⟩ ?_
 rintro b av _ w' ⟨a,n,c,out,d,rfl,j,y,al,o,g,an,aq,f,m⟩;have x:w.heap.size<=e:=by have:=Below.size q;omega
 refine (Ye hs j y al o g x an m aq).mono ?_;rintro _ a3 ⟨t,h | h⟩
 .obtain ⟨rfl,l,u⟩:=h;rw [l] at f;simp only [List.append_nil,Nat.add_zero] at f;rw [f];exact ⟨e,a,n,c,rfl,o.ext u,x,g.new,(g.ext u).own,t⟩
 .obtain ⟨ab,rest,aa,ai,ah,ar,aj,rfl,k,ap,z,ae,ag,ao⟩:=h;have ax:ab.length+1+b<=log.size:=by
   have:=congrArg List.length k;simp at this;omega
  have l:=X1 k;rw [k,F1 ap z] at f;obtain ⟨_,am,_⟩:=Kg z;have i:=ID d y aa;rw [<- am] at i;refine ⟨b+(ab.length+1),om,ah,ar,aj,out++[aa],ai,rfl,om,i.1,i.2,ae,ag,ao,sW,?_,t⟩;rw [l,f];simp [Nat.add_assoc]
theorem HU (hs:log.size<=1048576) (w:World) :
  Dq 60 [.string log] w (fun v w'=>∃ r,v = .tuple #[.pointer (some ⟨r,0,none⟩),.int .i64 (Aj log)]/\AD w w'/\w.heap.size<=r /\
   (log.size<=4000->∃ a n c,B8 w' r [.string log,.int .i64 ((BB log.data.toList 0).2.2:Nat),.int .i64 (BB log.data.toList 0).2.1,.slice a n c] 156/\Ab w.heap.size a/\Bs Ar.enc w' a n 151 (BB log.data.toList 0).1)):=by
 have x:=(Eb _ log.data.toList 0 (Nat.le_refl _) om om).2.2.2.1;have y:log.data.toList.length=log.size:=sI
 refine oV Tryz.func60 ?_;conv=>whnf
 by_cases j:4000<log.size
 .have b:Aj log=5:=by unfold Aj;rw [if_pos j]
  rw [b];exact iY<|AB.build ZX rfl<|AB.box fun t ab u z p s=>⟨_,rfl,p,om,om⟩
 .have b:Aj log=if (BB log.data.toList 0).2.2<log.size then 8 else 0:=by unfold Aj;rw [if_neg j]
  rw [b];refine iN<|(UE om _).mono ?_;rintro _ aa ⟨o,g,l,h,rfl,d,m,e,f,i⟩;refine jL d.cells (k:=1) rfl<|AW (fun q=>?_) fun q=>?_
  ·(conv=>whnf);rw [if_pos om];exact ⟨o,rfl,i,m,fun _=>⟨g,l,h,d,e,f⟩⟩
  ·(conv=>whnf);rw [if_neg om];exact ⟨o,rfl,i,m,fun _=>⟨g,l,h,d,e,f⟩⟩
end
section
open Go Go.RowKit Go.Vc Go.M Go.Shelf Go.Proofs
variable {log:ByteArray} {w:World} {x:Ar}
theorem Jg (hs:log.size<=1048576) {l:List Ar} {ch cd:Int} (hm:BZ log=(l,ch,cd)) (hT:GR w) (hE:Eg w) (hM:EE w) :
  Dq 121 [.string log] w (fun v w'=>∃ a n c,v = .tuple #[.slice a n c,.int .i64 ch,.int .i64 cd]/\Ab w.heap.size a/\Bs Ar.enc w' a n 151 l/\AD w w'):=by
 unfold BZ at hm;have o:=(Eb _ log.data.toList 0 (Nat.le_refl _) om om).2.2.2.1;rcases Ce log with ⟨b,e⟩ | ⟨b,e,f⟩ | ⟨b,e,f⟩
 .rw [e] at hm;cases hm
  refine oV Tryz.func121 ?_;refine iY ?_;exact ⟨_,_,_,rfl,Ab.nil,Bs.nil,AD.refl _⟩
 .rw [f] at hm;cases hm
  refine oV Tryz.func121 ?_;refine iN<|(JA b hT hE hM).mono ?_;rintro _ m ⟨i,k,j,rfl,g,h,d⟩;exact iY ⟨_,_,_,rfl,Ab.nil,Bs.nil,d⟩
 .rw [f,if_pos rfl] at hm;cases hm
  refine oV Tryz.func121 ?_;refine iN<|(JA b hT hE hM).mono ?_;rintro _ m ⟨i,k,j,rfl,g,h,d⟩;exact iN ⟨_,_,_,rfl,g,h,d⟩
theorem M7 (hs:log.size<=1048576) (hT:GR w) (hE:Eg w) (hM:EE w) :
  Dq 65 [.string log] w (fun v w'=>∃ a n c,v = .tuple #[.slice a n c,.int .i64 (BZ log).2.2]/\Ab w.heap.size a/\Bs Ar.enc w' a n 151 (BZ log).1/\AD w w'):=by
 obtain ⟨f,e,d,g⟩:∃ f e d,BZ log=(f,e,d):=⟨_,_,_,rfl⟩;rw [g];have o:∀ b,GR b->Eg b->EE b->Dq 121 [.string log] b (fun v w'=>∃ a n c,v = .tuple #[.slice a n c,.int .i64 e,.int .i64 d]/\Ab b.heap.size a/\Bs Ar.enc w' a n 151 f/\AD b w'):=fun b k l m=>Jg hs g k l m;refine oV Tryz.func65 ?_;refine (o _ hT hE hM).mono ?_;rintro _ s ⟨p,r,q,rfl,h,i,j⟩;exact ⟨_,_,_,rfl,h,i,j⟩
theorem Uz (hs:log.size<=1048576) (hx:x.ok) (hT:GR w) (hE:Eg w) (hM:EE w) :
  Dq 136 [.string log,.agg ⟨x.enc⟩] w (fun v w'=>v = .tuple #[.string (A9 log x).1,.int .i64 (A9 log x).2]/\AD w w'):=by
 have l:=Eb _ log.data.toList 0 (Nat.le_refl _) om om;obtain ⟨y,i,t,j⟩:∃ y i t,BZ log=(y,i,t):=⟨_,_,_,rfl⟩;have p:∀ f,GR f->Eg f->EE f->Dq 121 [.string log] f (fun v w'=>∃ s ad ak,v = .tuple #[.slice s ad ak,.int .i64 i,.int .i64 t]/\Ab f.heap.size s/\Bs Ar.enc w' s ad 151 y/\AD f w'):=fun f ap aq ar=>Jg hs j ap aq ar;unfold BZ at j;unfold A9;by_cases ac:Aj log=0
 .rw [if_pos ac] at j ⊢;have u:=l.2.1;have ab:=l.2.2.1;generalize (BB log.data.toList 0).2.1=bf at *;cases j
  have q:=ID i u x;have bi:=LH q.1 q.2 hx;cases av:Cx x
  .rw [if_pos rfl];dsimp only;clear l;refine oV Tryz.func136 ?_;refine AB.box ?_;intro bc br bh bl o ae;refine (p _ (hT.ext o) (hE.ext o) (hM.ext o)).mono ?_;rintro _ bp ⟨ba,bn,be,rfl,a7,a9,z⟩;exact jA (n:=4) (ae.ext z).cells rfl<|dM (Gc hx _) fun bq am=>iT ⟨rfl,(xt (xt o z) am)⟩
  .have bj:=FJ av;have aa:∀ f,GR f->Dq 205 [.int .i64 (B0 i x),.agg ⟨x.enc⟩] f (fun v ay=>v = .string (E9 (B0 i x) x)/\AD f ay):=fun f au=>Lm q.1 q.2 hx om au;rw [if_neg sI];generalize E9 (B0 i x) x=af at *;clear l;by_cases r:4000<log.size+af.size
   .rw [if_pos r];dsimp only;refine oV Tryz.func136 ?_;refine AB.box ?_;intro aj az ao aw a h;refine (p _ (hT.ext a) (hE.ext a) (hM.ext a)).mono ?_;rintro _ a0 ⟨ai,ax,al,rfl,ag,ah,b⟩;refine jA (n:=4) (h.ext b).cells rfl<|dM (Gc hx _) fun a1 d=>iF<|dH (pB [0,2,4,8,7,11,13,15]) fun a2 c=>dA (n:=4) (h.ext (xt b d)).cells rfl<|dA (n:=4) (h.ext (xt b d)).cells rfl<|dM (Jh u ab hx om (hT.ext (xt (xt (xt a b) d) c))) fun a3 e=>⟨(xt c e),dM (aa _ (hT.ext (xt (xt (xt (xt a b) d) c) e))) fun a4 g=>⟨(xt (xt c e) g),Ax om ⟨(xt (xt c e) g),AF (fun k=>?_) fun k=>?_⟩⟩⟩
    .exact ⟨rfl,(xt (xt (xt (xt (xt a b) d) c) e) g)⟩
    .refine ⟨?_,(xt (xt (xt (xt (xt a b) d) c) e) g)⟩
     .exact absurd r (by rw [ByteArray.size_append] at k;omega)
   .rw [if_neg r];dsimp only;refine oV Tryz.func136 ?_;refine AB.box ?_;intro aj az ao aw a h;refine (p _ (hT.ext a) (hE.ext a) (hM.ext a)).mono ?_;rintro _ a0 ⟨ai,ax,al,rfl,ag,ah,b⟩;refine jA (n:=4) (h.ext b).cells rfl<|dM (Gc hx _) fun a1 d=>iF<|dH (pB [0,2,4,8,7,11,13,15]) fun a2 c=>dA (n:=4) (h.ext (xt b d)).cells rfl<|dA (n:=4) (h.ext (xt b d)).cells rfl<|dM (Jh u ab hx om (hT.ext (xt (xt (xt a b) d) c))) fun a3 e=>⟨(xt c e),dM (aa _ (hT.ext (xt (xt (xt (xt a b) d) c) e))) fun a4 g=>⟨(xt (xt c e) g),Ax om ⟨(xt (xt c e) g),AF (fun k=>?_) fun k=>?_⟩⟩⟩
    .refine ⟨?_,(xt (xt (xt (xt (xt a b) d) c) e) g)⟩
     .exact absurd (by rw [ByteArray.size_append] at k;omega) r
    .exact ⟨rfl,(xt (xt (xt (xt (xt a b) d) c) e) g)⟩
 .rw [if_neg ac] at j ⊢;cases j
  dsimp only;clear l;refine oV Tryz.func136 ?_;refine AB.box ?_;intro bb bo bg bk m a5;refine (p _ (hT.ext m) (hE.ext m) (hM.ext m)).mono ?_;rintro _ bt ⟨a',bm,bd,rfl,a6,a8,an⟩;exact iT ⟨rfl,(xt m an)⟩
theorem UN (hs:log.size<=1048576) (hx:x.ok) (w:World) :
  Dq 105 [.string log,.agg ⟨x.enc⟩] w (fun v w'=>v = .tuple #[.string (A9 log x).1,.int .i64 (A9 log x).2]/\AD w w'):=by
 have p:=Eb _ log.data.toList 0 (Nat.le_refl _) om om;have aa:=p.2.1;have ah:=p.2.2.1;have n:∀ b,Dq 60 [.string log] b (fun v w'=>∃ l,v = .tuple #[.pointer (some ⟨l,0,none⟩),.int .i64 (Aj log)]/\AD b w'/\b.heap.size<=l /\
   (log.size<=4000->∃ m r u,B8 w' l [.string log,.int .i64 ((BB log.data.toList 0).2.2:Nat),.int .i64 (BB log.data.toList 0).2.1,.slice m r u] 156/\Ab b.heap.size m/\Bs Ar.enc w' m r 151 (BB log.data.toList 0).1)):=fun b=>HU hs b
 have ay:=Fz hx;have o:=ID (BB log.data.toList 0).2.1 aa x;have aw:=LH o.1 o.2 hx;unfold A9;refine oV Tryz.func105 ?_;refine AB.box ?_;intro ar a2 av az i g;(conv=>whnf);by_cases ab:Aj log=0
 .rw [if_pos ab];have af:log.size<=4000:=by rcases Ce log with ⟨ac,ad⟩ | ⟨ac,ad,ao⟩ | ⟨ac,ad,ao⟩<;>omega
  refine (n _).mono ?_;rintro _ an ⟨l,rfl,d,ai,f⟩;obtain ⟨m,r,u,t,ap,aq⟩:=f af;clear p f n;cases aj:Cx x
  .rw [if_pos rfl];dsimp only;refine iF ?_;refine (JR hx (g.ext d).cells).mono ?_;rintro _ _ ⟨rfl,rfl⟩;refine iT ?_;exact ⟨rfl,(xt i d)⟩
  .have ax:=FJ aj;rw [if_neg sI];generalize (BB log.data.toList 0).2.1=h at *;generalize (BB log.data.toList 0).2.2=a0 at *;generalize (BB log.data.toList 0).1=a1 at *;have y:∀ b,Dq 176 [.int .i64 h,.string (DO x)] b (fun v s=>v = .int .i64 (B0 h x)/\b=s):=fun b=>LV aa ah om b;have z:∀ b q,AK b q 0 x.enc->Dq 175 [.int .i64 (B0 h x),.pointer (some ⟨q,0,none⟩)] b (fun v s=>v = .string (E9 (B0 h x) x)/\AD b s):=fun b q ag=>Ma o.1 o.2 hx om ag;generalize E9 (B0 h x) x=ae at *;generalize B0 h x=au at *;by_cases f:4000<log.size+ae.size
   .rw [if_pos f];dsimp only;refine iF ?_;refine (JR hx (g.ext d).cells).mono ?_;rintro _ _ ⟨rfl,rfl⟩;refine iF ?_;refine dH (pB [0,2,4,6,8,11,13,15,17,19]) ?_;intro ak a;refine dL t.cells (k:=2) rfl ?_;refine (Fp hx om (g.ext (xt d a)).cells).mono ?_;rintro _ al ⟨rfl,c⟩;refine ⟨(xt a c),?_⟩;refine (y _).mono ?_;rintro _ _ ⟨rfl,rfl⟩;refine ⟨(xt a c),?_⟩;refine (z _ _ (g.ext (xt (xt d a) c)).cells).mono ?_;rintro _ am ⟨rfl,e⟩;refine ⟨(xt (xt a c) e),?_⟩;refine Ax om ?_;refine ⟨(xt (xt a c) e),?_⟩;refine AF (fun j=>?_) fun j=>?_
    .exact ⟨rfl,(xt (xt (xt (xt i d) a) c) e)⟩
    .refine ⟨?_,(xt (xt (xt (xt i d) a) c) e)⟩
     .exact absurd f (by rw [ByteArray.size_append] at j;omega)
   .rw [if_neg f];dsimp only;refine iF ?_;refine (JR hx (g.ext d).cells).mono ?_;rintro _ _ ⟨rfl,rfl⟩;refine iF ?_;refine dH (pB [0,2,4,6,8,11,13,15,17,19]) ?_;intro ak a;refine dL t.cells (k:=2) rfl ?_;refine (Fp hx om (g.ext (xt d a)).cells).mono ?_;rintro _ al ⟨rfl,c⟩;refine ⟨(xt a c),?_⟩;refine (y _).mono ?_;rintro _ _ ⟨rfl,rfl⟩;refine ⟨(xt a c),?_⟩;refine (z _ _ (g.ext (xt (xt d a) c)).cells).mono ?_;rintro _ am ⟨rfl,e⟩;refine ⟨(xt (xt a c) e),?_⟩;refine Ax om ?_;refine ⟨(xt (xt a c) e),?_⟩;refine AF (fun j=>?_) fun j=>?_
    .refine ⟨?_,(xt (xt (xt (xt i d) a) c) e)⟩
     .exact absurd (by rw [ByteArray.size_append] at j;omega) f
    .exact ⟨rfl,(xt (xt (xt (xt i d) a) c) e)⟩
 .rw [if_neg ab];dsimp only;refine (n _).mono ?_;rintro _ an ⟨l,rfl,d,ai,f⟩;clear f p n;refine iT ?_;exact ⟨rfl,(xt i d)⟩
end
end Go.Proofs.YtalgenmoljcnmaaGreatDoor
namespace Go.M
open Go Go.Vc
variable {xs:List (List Int)}
theorem Yv {x:List Int} (h:x∈xs):x.length<=Ai Bt xs:=by
 obtain ⟨b,a⟩:=List.mem_iff_getElem?.1 h;have:=Hq (wt:=Bt) a;unfold Bt at *;omega
theorem aL9 {n:Nat} (hn:xs.length=n) (h:n+Ai Bt xs<=1048576):FSz YP xs :=
 ⟨om,fun b a=>by
  have:=Yv a;unfold YP;omega⟩
end Go.M
namespace Go.Proofs.YtalgenmoljcnmaaGreatDoor
open Go Go.RowKit Go.Vc Go.M
variable {w:World} {d:Hd} {xs:List Int} {a:Option Addr} {n c:Nat} {left:Int}
theorem Uj (A:A4 eI 1 w d.a d.n xs) (hF:YP xs) :
  Dq 189 [.agg ⟨eH d⟩] w (fun v w'=>∃ d2 b2,v = .agg ⟨eH d2⟩/\w.heap.size<=b2/\b2<w'.heap.size/\Aw w' d2 xs [b2]/\AD w w'):=by
 have ae:=A.len;unfold YP at hF;refine oV Tryz.func189 ?_;refine AB.box ?_;intro s y _ af c u;have x:AK y s 0 (eH d):=u.cells;refine jN (z := .agg #[.slice none 0 0]) fun ab aj ad ag e m=>jN (z := .agg #[.slice none 0 0]) fun ac ak t ah f o=>jL (x.ext (xt e f)) (k:=0) rfl<|(SK (A.ext (xt (xt c e) f)) om).mono ?_;rintro _ al ⟨b,rfl,ai,h,r⟩;refine jT (o.ext h) (k:=0) dE rfl fun am g p=>jA (n:=1) p.cells rfl<|AX (vs:=[Value.slice (some { block:=b,off:=0 }) d.n d.n]) kR (m.ext (xb (xt f h) g.but t)) rfl rfl (by simp [AM]) fun an l q=>AO (jR (n:=1) rfl q.cells) ?_;have j:=(r.mod g.but (by rintro aa i;cases i;show ¬ b=_;omega)).mod l.but (by rintro aa i;cases i;show ¬ b=_;omega);exact ⟨⟨some ⟨b,0,none⟩,d.n,d.n⟩,b,rfl,(by have:=f.size;have:=e.size;have:=c.size;omega),j.lt _ rfl,FR j (Nat.le_refl _),(((xt c (xt e (xt f h))).but_trans g.but (by have:=e.size;have:=c.size;omega)).but_trans l.but (by have:=c.size;omega))⟩
theorem Qi (hm:n<=9223372036854775807) (h0:0<=left) (h1:left<=1048576) :
  Dq 251 [.slice a n c,.int .i64 left] w (fun v w'=>∃ r:Int,v = .int .i64 r/\(r = -1\/(0<=r/\r=left - n))/\AD w w'):=by
 refine oV Tryz.func251 ?_;refine AB.sub (left - n) rfl om om ?_;refine AF (fun b=>?_) fun b=>?_
 .exact ⟨-1,rfl,.inl rfl,AD.refl _⟩
 exact ⟨left - n,rfl,.inr ⟨om,rfl⟩,AD.refl _⟩
theorem Um (A:A4 eI 1 w d.a d.n xs) (h0:0<=left) (h1:left<=1048576) :
  Dq 186 [.agg ⟨eH d⟩,.int .i64 left] w (fun v w'=>∃ r:Int,v = .int .i64 r/\(r = -1\/(0<=r/\r=left - d.n))/\AD w w'):=by
 have j:=A.le;refine oV Tryz.func186 ?_;refine AB.box ?_;intro f o _ _ b h;have i:AK o f 0 (eH d):=h.cells;refine jL i (k:=0) rfl<|(Qi j h0 h1).mono ?_;rintro _ p ⟨r,rfl,e,c⟩;refine AF (fun g=>?_) fun g=>?_
 .exact ⟨-1,rfl,.inl rfl,xt b c⟩
 .refine ⟨r,rfl,?_,xt b c⟩;rcases e with e | ⟨l,m⟩
  .omega
  .exact .inr ⟨l,m⟩
theorem SN {xs:List (List Int)} (h:Ac AZ w a n xs) (h0:0<=left) (h1:left<=1048576) :
  Dq 114 [.slice a n c,.int .i64 left] w (fun v w'=>∃ r:Int,v = .int .i64 r/\(r = -1\/(0<=r/\r+n+(Ai Bt xs:Nat)<=left))/\AD w w'):=by
 have ah:=h.len;have ag:=h.le;obtain ⟨x,j,s⟩:=h;have af:=j.len;refine oV Tryz.func114 ?_;refine AB.sub (left - n) rfl om om ?_;refine AF (fun z=>?_) fun z=>?_
 .exact ⟨-1,rfl,.inl rfl,AD.refl _⟩
 refine lR [0,1,5] (fun (b:Nat) ab w'=>∃ r:Int,ab=[.slice a n c,.int .i64 r,.int .i64 b]/\b<=n/\0<=r/\r+n+(Ai Bt (xs.take b):Nat)=left/\AD w w') (fun b=>n - b) 0 ⟨left - n,rfl,om,om,by simp [Ai],AD.refl _⟩ ?_;rintro b ad _ w' ⟨r,rfl,ae,l,u,d⟩;refine AF (fun p=>?_) fun p=>?_
 .obtain ⟨e,o⟩:∃ e,xs[b]? = some e:=AA om;obtain ⟨f,k⟩:∃ f,x[b]? = some f:=AA om;have i:=s.2 b f e k o;have ak:=i.1.len;have ai:=Ep (wt:=Bt) o;have aj:Bt e=e.length:=rfl;refine jI (j.ext d) b rfl k fun ac al _ t=>jA (n:=1) t rfl<|(Um (i.1.ext d) l om).mono ?_;rintro _ an ⟨aa,rfl,m,g⟩;refine AF (fun q=>?_) fun q=>?_
  .exact ⟨-1,rfl,.inl rfl,xt d g⟩
  .refine jP (((b+1:Nat):Int)) ?_;(conv=>whnf);rcases m with m | ⟨y,am⟩
   .omega
   exact ⟨b+1,om,aa,rfl,om,y,om,xt d g⟩
 ·(conv=>whnf);rw [List.take_of_length_le om] at u;exact ⟨r,rfl,.inr ⟨l,om⟩,d⟩
theorem SL {xs:List (List Int)} (h:Ac AZ w a n xs) (hsz:n+Ai Bt xs<=1048576) :
  Dq 119 [.slice a n c] w (fun v w'=>∃ b,v = .slice (some ⟨b,0,none⟩) n n/\w.heap.size<=b/\Dl Aw w' w.heap.size w'.heap.size (some ⟨b,0,none⟩) n 144 xs/\AD w w'):=by
 have az:=h.len;have a':=h.le;have ag:=aL9 az hsz;have ba:=ag.1;obtain ⟨a0,ac,ar⟩:=h;have a8:=ac.len;refine oV Tryz.func119 ?_;refine AB.make Bz n rfl om om ?_;intro b aj ab a1 aa aq;refine lR [0,3,4] (fun (d:Nat) a3 w'=>∃ g j,a3=[.slice a n c,.slice (some ⟨b,0,none⟩) n n,.int .i64 d]/\d<=n/\AD w w'/\g.length=d/\HJ Aw w' g (xs.take d) j/\Fg aj.heap.size w'.heap.size j.flatten/\B8 w' b (Al eH g++Al (fun _:Unit=>[.slice none 0 0]) (List.replicate (n - d) ())) 144/\aj.heap.size<=w'.heap.size) (fun d=>n - d) 0 ⟨[],[],rfl,om,aa,rfl,HJ.nil,Fg.nil,by simpa [Al] using aq,Nat.le_refl _⟩ ?_;rintro d a5 _ w' ⟨g,j,rfl,a7,s,t,q,x,r,ah⟩;refine AF (fun ap=>?_) fun ap=>?_
 .obtain ⟨i,m⟩:∃ i,xs[d]? = some i:=AA om;obtain ⟨u,ad⟩:∃ u,a0[d]? = some u:=AA om;have aw:=ar.2 d u i ad m;have av:=ag.2 i (List.mem_of_getElem? m);refine jI (ac.ext s) d rfl ad fun a4 bb _ ax=>jA (n:=1) ax rfl<|(Uj (aw.1.ext s) av).mono ?_;rintro _ bf ⟨l,z,rfl,a6,a2,al,p⟩;refine jW (sz:=1) d rfl om ?_;(conv=>whnf);obtain ⟨e,f⟩:∃ e,n - d=e+1:=⟨n - d - 1,om⟩;have af:=WW Dz g [.slice none 0 0] (eH l) rfl l rfl e;simp only [t] at af;rw [f] at r;have ai:=A1 (enc:=fun _:Unit=>[Value.slice none 0 0]) (sz:=1) (fun _=>rfl) (List.replicate (e+1) ());rw [List.length_replicate] at ai;refine Cl kR (n:=1) (r.ext p) (vs:=eH l) rfl (k:=0+d * 1) (by simp only [List.length_append,A1 Dz,ai,t];omega) (by simp [eH,AM]) ?_;intro ak o y;rw [Nat.zero_add,af] at y;refine jP (((d+1:Nat):Int)) ?_;have bd:=p.size;have be:=o.but.size;have ae:=q.lt;have au:HJ Aw ak g (xs.take d) j:=(q.keep (fun e f=>p.block e (ae e f))).keep (fun e f=>o.but.block e (by have:=x.2 e f;omega) (by have:=ae e f;omega));have am:Aw ak l i [z]:=Ju.keep al (fun e f=>by
   simp only [List.mem_singleton] at f;subst f;exact o.but.block _ om a2)
  have an:xs.take (d+1)=xs.take d++[i]:=by rw [List.take_add_one,m];rfl
  have ao:n - (d+1)=e:=om
  refine ⟨d+1,om,g++[l],j++[[z]],rfl,om,(xt s p).but_trans o.but om,by simp [t],?_,?_,?_,om⟩
  .rw [an];exact au.snoc am
  .rw [List.flatten_append];exact Fg.app x (⟨sI,sW⟩) ah om
  .rw [ao];exact y
 ·(conv=>whnf);have ay:d=n:=om
  subst ay;rw [List.take_of_length_le om] at q;have bc:=aa.size;have a9:=r.lt;exact ⟨b,rfl,ab,⟨_,⟨g,j,⟨t,om,.inr ⟨b,[],rfl,by simpa [Al] using r⟩⟩,q,rfl⟩,Fg.app (DB (Ab.some ab) (by rintro i m;cases m;exact a1)) x om ah⟩,s⟩
end Go.Proofs.YtalgenmoljcnmaaGreatDoor
namespace Go.M
open Go Go.Vc
variable {l:List Int}
def jn (l:List Int):List UInt8:=Lib.join (l.map Lib.itoa) [32]
theorem Uq (x:Int):jn [x]=Lib.itoa x:=by simp [jn,Lib.join_one]
theorem XT:jn []=[]:=rfl
theorem J4 (sep:List UInt8) (a b:List (List UInt8)):Lib.joinTail sep (a++b)=Lib.joinTail sep a++Lib.joinTail sep b:=by simp [Lib.joinTail]
theorem aE0 (h:l≠[]) (x:Int):jn (l++[x])=jn l++32 :: Lib.itoa x:=by
 cases l with
 | nil=>exact absurd rfl h
 | cons a l =>
  unfold jn;rw [List.cons_append,List.map_cons,List.map_cons,Lib.join_cons,Lib.join_cons,List.map_append,J4];simp [Lib.joinTail]
theorem Up {k:Nat} {x:Int} (h:l[k]? = some x) (hk:0<k):jn (l.take (k+1))=jn (l.take k)++32 :: Lib.itoa x:=by
 have b:=(List.getElem?_eq_some_iff.1 h).1;rw [List.take_add_one,h];refine aE0 (fun a=>?_) x;have:=congrArg List.length a;rw [List.length_take,List.length_nil] at this;omega
theorem aE1 (n:Int):Lib.itoa n≠[]:=by
 unfold Lib.itoa;split
 .simp
 .exact He _
theorem Zy {n:Int} (h:BH n):(Lib.itoa n).length<=21:=Bh h.1 h.2
theorem XU (h:∀ x∈l,BH x):∀ k,(jn (l.take k)).length<=22 * k:=by
 intro k;induction k with
 | zero=>simp [XT]
 | succ k d =>
  cases a:l[k]? with
  | none =>
   rw [List.take_add_one,a];simp;omega
  | some x =>
   have c:=Zy (h x (List.mem_of_getElem? a));by_cases b:0<k
   .rw [Up a b];simp;omega
   .have:k=0:=om
    subst this;rw [List.take_add_one,a];simp [Uq];omega
theorem aL6 (h:l≠[]):jn l≠[]:=by
 cases l with
 | nil=>exact absurd rfl h
 | cons b l =>
  unfold jn;rw [List.map_cons,Lib.join_cons];intro a;exact aE1 b (List.append_eq_nil_iff.1 a).1
def DE (l:List Int):ByteArray:=if l=[] then bs [45] else bs (jn l)
end Go.M
namespace Go.Proofs.YtalgenmoljcnmaaGreatDoor
open Go Go.RowKit Go.Vc Go.M Go.Shelf Go.Proofs
variable {w:World} {n c:Nat} {a:Option Addr} {xs:List Int}
theorem Qp {b t:Nat} {xs:List ByteArray} {sep:ByteArray} (O:Bs eS w (some ⟨b,0,none⟩) n t xs) (hnc:n<=c) (hN:n<=140737488355328) (hl:(Lib.join (xs.map (·.data.toList)) sep.data.toList).length<=140737488355328) :
  Dq 146 [.slice (some ⟨b,0,none⟩) n c,.string sep] w (fun v w'=>v = .string (bs (Lib.join (xs.map (·.data.toList)) sep.data.toList))/\AD w w'):=by
 obtain ⟨e,h,f⟩:=O;rcases f with ⟨a,_⟩ | ⟨g,rest,a,d⟩
 .cases a
 .cases a
  exact V6 (AK.append.1 d.cells).1 d.lt e hnc hN hl
theorem M6 (h:A4 eI 1 w a n xs) (hok:∀ x∈xs,BH x) (hsm:n<=1000) (hT:GR w) :
  Dq 134 [.slice a n c] w (fun v w'=>v = .string (DE xs)/\AD w w'):=by
 have aj:=h.len;unfold DE;by_cases i:xs=[]
 .rw [if_pos i];have ak:n=0:=by rw [<- aj,i];rfl
  refine oV Tryz.func134 ?_;refine iY ?_;exact ⟨rfl,AD.refl _⟩
 .rw [if_neg i];have ak:n≠0:=fun ax=>i (List.eq_nil_of_length_eq_zero om);refine oV Tryz.func134 ?_;refine iN ?_;refine bS BK (vs:=[]) ?_;intro ar a5 ab a2 z q;have s:=Ag (enc:=eS) AP q ab;refine lR [3,10,11,12] (fun (b:Nat) ao w'=>∃ k j g,ao=[.slice k j g,.slice a n c,.int .i64 n,.int .i64 b]/\b<=n/\An eS 1 w.heap.size 9 w' k j g ((xs.take b).map BV)/\AD w w') (fun b=>n - b) 0 ⟨_,_,_,rfl,om,s,z⟩ ?_;rintro b ay _ w' ⟨k,j,g,rfl,az,d,e⟩;have al:=d.len;have af:=d.le.1;rw [List.length_map,List.length_take] at al;by_cases a0:b<n
  .obtain ⟨x,o⟩:∃ x,xs[b]? = some x:=AA om;have am:=hok x (List.mem_of_getElem? o);have ai:=R7 (f:=BV) o;refine iY<|jI (h.ext e) b rfl o fun au a4 _ ae=>jO ae rfl<|dM (Cm am (hT.ext e)) fun a7 l=>bS BK (vs:=[Value.string (BV x)]) ?_;intro av a8 ac a3 m r;have t:=AH (n:=1) (enc:=eS) (xs:=[BV x]) AP r ac rfl dE;refine AN (enc:=eS) BK AP (d.ext (xt l m)) (t.own.arr AP) (by intro a' _;simp [eS,AM]) om om (Below.size (xt (xt e l) m)) fun aq aw a9 u an a1=>jP (((b+1:Nat):Int)) ⟨b+1,om,_,_,_,rfl,om,?_,(xm (xt (xt e l) m) an (AQ d.new))⟩
   .rw [ai];exact u
  .have ah:b=n:=om
   subst ah;rw [List.take_of_length_le om] at d;obtain ⟨y,rfl⟩:=d.own.some om;have ag:=XU hok xs.length;rw [List.take_length] at ag;have p:Lib.join ((xs.map BV).map (·.data.toList)) [32]=jn xs:=by
    unfold jn;rw [List.map_map];rfl
   have ad:Dq 146 [.slice (some ⟨y,0,none⟩) j g,.string { data := #[32] }] w' (fun v ap=>v = .string (bs (jn xs))/\AD w' ap):=by
    have:=Qp (sep:={ data := #[32] }) d.own af om (by rw [show (ByteArray.mk #[32]).data.toList=[32] from rfl,p];omega);rw [show (ByteArray.mk #[32]).data.toList=[32] from rfl,p] at this;exact this
   exact iN<|dM (ad) fun a6 aa=>⟨rfl,(xt e aa)⟩
theorem sO1 {p:Prop} (h:p:=by (simp only [ByteArray.size_append,BY,Za,aG9,List.length_cons,List.length_nil];omega)):p:=h
theorem Mc (h:A4 eI 1 w a n xs) (hok:∀ x∈xs,BH x) (hsm:n<=1000) :
  Dq 172 [.slice a n c] w (fun v w'=>v = .string (DE xs)/\AD w w'):=by
 have ai:=h.len;have r:=XU hok;refine oV Tryz.func172 ?_;refine lR [0,3,4] (fun (b:Nat) ab w'=>ab=[.slice a n c,.string (bs (jn (xs.take b))),.int .i64 b]/\b<=n/\AD w w') (fun b=>n - b) 0 ⟨rfl,om,AD.refl _⟩ ?_;rintro b ae _ w' ⟨rfl,ag,d⟩;have o:=r b;by_cases ah:b<n
 .obtain ⟨x,e⟩:∃ x,xs[b]? = some x:=AA om;have f:=hok x (List.mem_of_getElem? e);have af:=Bh f.1 f.2;by_cases t:0<b
  .have l:bs (jn (xs.take (b+1)))=bs (jn (xs.take b))++{ data := #[32] }++BV x:=by
    rw [Up e t];apply Cs;simp [bs,BV]
   have s:(bs (jn (xs.take b))).size<=22 * b:=by rw [BY];exact o
   exact iY<|iY<|Ax sO1<|jI (h.ext d) b rfl e fun p z _ j=>jO j rfl<|dM (CC f _) fun ac i=>Ax sO1<|jP (((b+1:Nat):Int)) ⟨b+1,om,by rw [l];rfl,om,xt d i⟩
  .have u:b=0:=om
   subst u;have l:bs (jn (xs.take (0+1)))=bs (jn (xs.take 0))++BV x:=by
    rw [List.take_add_one,e];simp only [List.take_zero,List.nil_append,Option.toList_some,Uq,XT];apply Cs;simp [bs,BV]
   have s:(bs (jn (xs.take 0))).size<=22 * 0:=by rw [BY];exact o
   exact iY<|jI (h.ext d) 0 rfl e fun p z _ j=>jL j (k:=0) rfl<|dM (CC f _) fun ac i=>Ax om<|jP (((0+1:Nat):Int)) ⟨0+1,om,by rw [l];rfl,om,xt d i⟩
 .have y:b=n:=om
  subst y;rw [List.take_of_length_le om];unfold DE;by_cases g:xs=[]
  .rw [if_pos g];subst g;have m:bs (jn [])={ data := #[] }:=rfl;rw [m];exact iN ⟨rfl,d⟩
  .rw [if_neg g];have m:¬ bs (jn xs)={ data := #[] }:=fun q=>aL6 g (by
    have:=congrArg (fun aa:ByteArray=>aa.data.toList) q;simpa [bs] using this)
   generalize bs (jn xs)=ad at *;exact iN<|iN ⟨rfl,d⟩
end Go.Proofs.YtalgenmoljcnmaaGreatDoor
