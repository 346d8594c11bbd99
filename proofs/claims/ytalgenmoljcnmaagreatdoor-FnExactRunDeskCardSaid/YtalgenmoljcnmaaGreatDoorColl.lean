/- Parts of the proof; no conditions of its own. -/
import Derived.Test.YtalgenmoljcnmaaGreatDoorVcPut
import Derived.Test.YtalgenmoljcnmaaGreatDoorStepM
namespace Go.M
open Go Go.Vc
theorem Jl (d:List (List Int)) (f:AF) (n:Nat):E8 d f (n+1)=if He d f n=true then E8 d f n++[n] else E8 d f n:=by
 unfold E8;rw [List.range_succ,List.filter_append];split<;>simp [*]
theorem WB {d:List (List Int)} {f:AF} {k:Nat} (h:He d f k=true):(E8 d f (k+1)).length=(E8 d f k).length+1:=by rw [Jl,if_pos h];simp
theorem Xb {d:List (List Int)} {f:AF} {k:Nat} (h:He d f k=false):(E8 d f (k+1)).length=(E8 d f k).length:=by rw [Jl,if_neg (by simp [h])]
theorem Rw (d:List (List Int)) (f:AF) (k:Nat):(E8 d f k).length<=k:=by
 unfold E8;have:=List.length_filter_le (He d f) (List.range k);rw [List.length_range] at this;exact this
theorem Xd {d:List (List Int)} {f:AF} {k:Nat} {x y:List Int} (hx:d[k+1]? = some x) (hy:d[k]? = some y):He d f (k+1)=decide (CT (AS f x) (AS f y)<0):=by
 simp [He,List.getD_eq_getElem?_getD,hx,hy]
theorem PL {d:List (List Int)} {f:AF}:(E8 d f 1).length=0:=by
 rw [Jl,if_neg (by simp [He])];rfl
section
variable {ds:List (List (List Int))} {ts:List ByteArray} {f:AF}
theorem Ir {d:List (List Int)} (h:d∈ds) (hd:Ax d=false):BO ds ts f=1:=by
 unfold BO;rw [if_pos (List.any_eq_true.2 ⟨d,h,by simp [hd]⟩)]
theorem Fu {α:Type} {l:List α} {p:α->Bool} (h:∀ x∈l,p x=true):¬ (l.any fun x=>!p x)=true:=by
 intro a;obtain ⟨x,c,b⟩:=List.any_eq_true.1 a;simp [h x c] at b
theorem Hx (h1:∀ d∈ds,Ax d=true) {d:List (List Int)} (h:d∈ds) (hd:AR f (AJ d)=false):BO ds ts f=2:=by
 unfold BO;rw [if_neg (Fu h1),if_pos (List.any_eq_true.2 ⟨d,h,by simp [hd]⟩)]
theorem Sd (h1:∀ d∈ds,Ax d=true) (h2:∀ d∈ds,AR f (AJ d)=true) {t:ByteArray} (h:t∈ts) (ht:¬ (t.size:Int)=f.to_ - f.from_):BO ds ts f=2:=by
 unfold BO;rw [if_neg (Fu h1),if_neg (Fu h2),if_pos (List.any_eq_true.2 ⟨t,h,by simp [ht]⟩)]
theorem XJ (h1:∀ d∈ds,Ax d=true) (h2:∀ d∈ds,AR f (AJ d)=true) (h3:∀ t∈ts,(t.size:Int)=f.to_ - f.from_) {t:ByteArray} (h:t∈ts) (ht:CM t=false):BO ds ts f=7:=by
 unfold BO;rw [if_neg (Fu h1),if_neg (Fu h2),if_neg (Fu fun t ht=>decide_eq_true (h3 t ht)),if_pos (List.any_eq_true.2 ⟨t,h,by simp [ht]⟩)]
theorem Iq (h1:∀ d∈ds,Ax d=true) (h2:∀ d∈ds,AR f (AJ d)=true) (h3:∀ t∈ts,(t.size:Int)=f.to_ - f.from_) (h4:∀ t∈ts,CM t=true) {d:List (List Int)} (h:d∈ds) (hd:Da d f=false):BO ds ts f=8:=by
 unfold BO;rw [if_neg (Fu h1),if_neg (Fu h2),if_neg (Fu fun t a=>decide_eq_true (h3 t a)),if_neg (Fu h4),if_pos (List.any_eq_true.2 ⟨d,h,by simp [hd]⟩)]
theorem O9 (h1:∀ d∈ds,Ax d=true) (h2:∀ d∈ds,AR f (AJ d)=true) (h3:∀ t∈ts,(t.size:Int)=f.to_ - f.from_) (h4:∀ t∈ts,CM t=true) (h5:∀ d∈ds,Da d f=true):BO ds ts f=0:=by
 unfold BO;rw [if_neg (Fu h1),if_neg (Fu h2),if_neg (Fu fun t a=>decide_eq_true (h3 t a)),if_neg (Fu h4),if_neg (Fu h5)]
end
theorem GN {α:Type} {l:List α} {k:Nat} {x:α} {p:α->Prop} (hx:l[k]? = some x) (h:∀ y∈l.take k,p y) (hp:p x):∀ y∈l.take (k+1),p y:=by
 intro y a;rw [List.take_add_one,hx] at a;rcases List.mem_append.1 a with a | a
 .exact h y a
 .simp at a;subst a;exact hp
theorem G2 {α:Type} {l:List α} {k:Nat} {p:α->Prop} (hk:l.length<=k) (h:∀ y∈l.take k,p y):∀ y∈l,p y:=by
 rw [List.take_of_length_le hk] at h;exact h
end Go.M
namespace Go.Proofs.YtalgenmoljcnmaaGreatDoor
open Go Go.RowKit Go.Vc Go.M
variable {w:World} {a:Option Addr} {n c:Nat} {xs:List (List Int)} {f:AF}
theorem Wa (h:Ar Aa w a n xs) (hd:Ax xs=true) (hf:AR f (AJ xs)=true) :
  Dq 354 [.slice a n c,.agg ⟨f.enc⟩] w (fun v w'=>∃ a' c',v = .slice a' (E8 xs f xs.length).length c'/\AD w w'):=by
 have bx:=h.len;have ag:=h.le;have an:=Ah hd;have bn:=an.1;have aj:∀ c∈xs,AR f c.length=true:=fun c a9=>by rw [(an.2 c a9).2];exact hf
 have a5:∀ j q r e m,Aa j q e->Aa j r m->e∈xs->m∈xs->Dq 275 [.agg ⟨eH q⟩,.agg ⟨eH r⟩,.agg ⟨f.enc⟩] j (fun v w'=>v = .int .i64 (CT (AS f e) (AS f m))/\AD j w'):=fun j q r e m u x p s=>Er u x (aj e p) (aj m s);obtain ⟨ao,af,ak⟩:=h;have bv:=af.len;refine oV Tryz.func354 ?_;refine AB.box ?_;intro ac ar bm b1 a1 av;refine bS B5 (vs:=[]) ?_;intro bg b6 a2 b2 ai aw;have ay:=Ab (enc:=eI) AI aw a2;refine lR [0,3,5,6] (fun (g:Nat) be w'=>∃ a' t c' au,be=[.slice a n c,.pointer (some ⟨ac,0,none⟩),.slice a' t c',.int .i64 g]/\1<=g/\g<=n+1/\(g<=n\/g=1)/\t=(E8 xs f g).length/\Ai eI 1 ar.heap.size 2 w' a' t c' au/\AK w' ac 0 f.enc/\AD ar w') (fun g=>n+1 - g) 1 ⟨_,_,_,_,rfl,om,om,om,PL.symm,ay,(av.ext ai).cells,ai⟩ ?_;rintro g bl _ w' ⟨a',t,c',au,rfl,bt,br,bu,ag,z,ae,ab⟩;have aa:=xt a1 ab;have bw:=Rw xs f g;have bd:∀ e,a'=some e->e.block≠ac:=fun e p=>by have:=z.new e p;omega
 rcases Nat.lt_or_ge g n with bc | bc
 .obtain ⟨b,rfl⟩:∃ b,g=b+1:=⟨g - 1,om⟩;obtain ⟨q,al⟩:=AA (l:=ao) (k:=b+1) om;obtain ⟨e,p,u⟩:=ak.get al;obtain ⟨r,am⟩:=AA (l:=ao) (k:=b) om;obtain ⟨m,s,x⟩:=ak.get am;have a6:∀ j,AD w j->Dq 275 [.agg ⟨eH q⟩,.agg ⟨eH r⟩,.agg ⟨f.enc⟩] j (fun v w'=>v = .int .i64 (CT (AS f e) (AS f m))/\AD j w'):=fun j ah=>a5 j q r e m ⟨u.1.ext ah,u.2⟩ ⟨x.1.ext ah,x.2⟩ (List.mem_of_getElem? p) (List.mem_of_getElem? s);have ap:=Xd (f:=f) p s;have bq:=Qd (AS f e) (AS f m);have bz:((b+1:Nat):Int) - 1=b:=om
  refine iY<|dH (pB [0,2,4,6,8,10,12,14,16,19,21,23]) fun b7 i=>dI (af.ext aa) (b+1) rfl al fun bh b4 bo a7=>dA (n:=1) a7 rfl<|BN.sub (((b:Nat):Int)) om om om<|dI (af.ext aa) b rfl am fun bi b5 bp a8=>dA (n:=1) a8 rfl<|jA (n:=2) (ae.ext i) rfl ⟨i,dM (a6 _ (xt aa i)) fun b8 o=>⟨(xt i o),AL (fun ad=>?_) fun ad=>?_⟩⟩
  .refine bS B5 (vs:=[Value.int IntKind.i64 ↑(b+1)]) ?_;intro bj b9 a3 b3 y ax;have az:=AG (n:=1) (enc:=eI) (xs:=[↑(b+1)]) AI ax a3 rfl dE;refine AM (enc:=eI) B5 AI (z.ext (xt (xt i o) y)) (az.own.arr AI) (by intro m _;simp [eI,AE]) om om (Below.size (xt (xt (xt ab i) o) y)) fun bf bk b' a0 aq b0=>jP (((b+1+1:Nat):Int)) ⟨b+1+1,om,_,_,_,_,rfl,om,om,om,?_,a0,(ae.ext (xt (xt i o) y)).mod aq (by rintro ⟨e,p,ba⟩;exact bd e p ba.symm),(xm (xt (xt (xt ab i) o) y) aq (AO z.new))⟩;have s:=WB (d:=xs) (f:=f) (k:=b+1) (by rw [ap];exact decide_eq_true ad);omega
  .refine jP (((b+1+1:Nat):Int)) ⟨b+1+1,om,_,_,_,_,rfl,om,om,om,?_,z.ext (xt i o),(ae.ext (xt i o)),(xt (xt ab i) o)⟩;have s:=Xb (d:=xs) (f:=f) (k:=b+1) (by rw [ap];exact decide_eq_false ad);omega
 .refine iN ?_;(conv=>whnf);have bb:t=(E8 xs f xs.length).length:=by
   rcases Nat.lt_or_ge 0 n with a4 | a4
   .rw [ag,show g=xs.length by omega]
   .rw [ag,show g=1 by omega,PL,show xs.length=0 by omega];rfl
  subst bb;exact ⟨_,_,rfl,aa⟩
theorem FU (h:Ar Aa w a n xs) (hd:Ax xs=true) (hf:AR f (AJ xs)=true) :
  Dq 342 [.slice a n c,.agg ⟨f.enc⟩] w (fun v w'=>v = .bool (GA xs f)/\AD w w'):=by
 have l:∀ b,AD w b->Dq 354 [.slice a n c,.agg ⟨f.enc⟩] b (fun v w'=>∃ g i,v = .slice g (E8 xs f xs.length).length i/\AD b w'):=fun b j=>Wa (h.ext j) hd hf;have r:=Rw xs f xs.length;unfold GA;refine oV Tryz.func342 ?_;refine AB.box ?_;intro o t q s d e;refine jA (n:=2) e.cells rfl<|(l _ d).mono ?_;rintro _ u ⟨m,p,rfl,k⟩;exact ⟨by simp [*],(xt d k)⟩
theorem FV {b:Option Addr} {m d:Nat} {ds:List (List (List Int))} {ts:List ByteArray} (h:Ar DM w a n ds) (hT:A4 eS 1 w b m ts) (hne:ds≠[]) (hts:∀ t∈ts,t.size<=1048576) (hf:f.ok) :
  Dq 341 [.agg ⟨f.enc⟩,.bool true,.slice b m d,.slice a n c] w (fun v w'=>v = .int .i64 (BO ds ts f)/\AD w w'):=by
 have cc:=h.len;have b':=h.le;have ca:=hT.len;have cb:=hT.le;obtain ⟨ap,bc⟩:∃ ap,ap∈ds:=List.exists_mem_of_ne_nil _ hne;obtain ⟨aw,aj,az⟩:=h;have b8:=aj.len;refine oV Tryz.func341 ?_;refine AB.box ?_;intro ae cg b2 cf bi be;have b3:∀ q,AD w q->A4 eH 1 q a n aw:=fun q ak=>aj.ext ak;refine lR [1,2,3,4,19,20,21] (fun (j:Nat) ag w'=>ag=[.bool true,.slice b m d,.slice a n c,.pointer (some ⟨ae,0,none⟩),.slice a n c,.int .i64 n,.int .i64 j]/\j<=n/\(∀ ad∈ds.take j,Ax ad=true)/\AK w' ae 0 f.enc/\AD w w') (fun j=>n - j) 0 ⟨rfl,om,sI,be.cells,bi⟩ ?_;rintro j au _ ch ⟨rfl,b7,a8,g,e⟩;rcases Nat.lt_or_ge j n with bp | bp
 .obtain ⟨ab,y⟩:=AA (l:=aw) (k:=j) om;obtain ⟨ac,aa,ao⟩:=az.get y;have ai:∀ q,AD w q->Dq 111 [.slice ab.a ab.n ab.c] q (fun v w'=>v = .bool (Ax ac)/\AD q w'):=fun q ak=>Du (ao.1.ext ak);cases r:Ax ac
  .rw [Ir (List.mem_of_getElem? aa) r];exact iY<|jI (aj.ext e) j rfl y fun bf bv bk a1=>jO a1 rfl<|dM (ai _ e) fun bd aq=>iT ⟨rfl,(xt e aq)⟩
  .have av:=GN (p:=fun ad=>Ax ad=true) aa a8 r;exact iY<|jI (aj.ext e) j rfl y fun bf bv bk a1=>jO a1 rfl<|dM (ai _ e) fun bd aq=>iF<|jP (((j+1:Nat):Int)) ⟨j+1,om,rfl,om,om,(g.ext aq),(xt e aq)⟩
 .obtain rfl:j=n:=om
  have ah:=G2 (show ds.length<=j by omega) a8;refine iN ?_;have ce:=e;refine lR [2,3,4,31,32,33] (fun (i:Nat) ag w'=>ag=[.slice b m d,.slice a j c,.pointer (some ⟨ae,0,none⟩),.slice a j c,.int .i64 j,.int .i64 i]/\i<=j/\(∀ ad∈ds.take i,AR f (AJ ad)=true)/\AK w' ae 0 f.enc/\AD w w') (fun i=>j - i) 0 ⟨rfl,om,sI,g,e⟩ ?_;clear e g;rintro i au _ ci ⟨rfl,b5,a9,g,e⟩;rcases Nat.lt_or_ge i j with bn | bn
  .obtain ⟨ab,y⟩:=AA (l:=aw) (k:=i) om;obtain ⟨ac,aa,ao⟩:=az.get y;have bu:=ah ac (List.mem_of_getElem? aa);have bt:=EU bu;have ai:∀ q,AD w q->Dq 209 [.slice ab.a ab.n ab.c] q (fun v w'=>v = .int .i64 (AJ ac)/\AD q w'):=fun q ak=>DI (ao.1.ext ak);cases r:AR f (AJ ac)
   .rw [Hx ah (List.mem_of_getElem? aa) r];exact iY<|jI (aj.ext e) i rfl y fun ax a5 a0 al=>jO al rfl<|dH (pB [0,3,5,7,9]) fun b1 af=>dA (n:=2) g rfl<|dM (ai _ (xt e af)) fun a6 x=>⟨(xt af x),dM (DR _ _ _) fun b0 am=>⟨(xt (xt af x) am),iT ⟨rfl,(xt (xt (xt e af) x) am)⟩⟩⟩
   .have av:=GN (p:=fun ad=>AR f (AJ ad)=true) aa a9 r;exact iY<|jI (aj.ext e) i rfl y fun ax a5 a0 al=>jO al rfl<|dH (pB [0,3,5,7,9]) fun b1 af=>dA (n:=2) g rfl<|dM (ai _ (xt e af)) fun a6 x=>⟨(xt af x),dM (DR _ _ _) fun b0 am=>⟨(xt (xt af x) am),iF<|jP (((i+1:Nat):Int)) ⟨i+1,om,rfl,om,om,(g.ext (xt (xt af x) am)),(xt (xt (xt e af) x) am)⟩⟩⟩
  .obtain rfl:i=j:=om
   have an:=G2 (show ds.length<=i by omega) a9;have b4:=BV (an ap bc);have bt:=EU (ah ap bc);refine iN<|lR [2,3,4,43,44,45] (fun (o:Nat) ag w'=>ag=[.slice b m d,.slice a i c,.pointer (some ⟨ae,0,none⟩),.slice b m d,.int .i64 m,.int .i64 o]/\o<=m/\(∀ t∈ts.take o,(t.size:Int)=f.to_ - f.from_)/\AK w' ae 0 f.enc/\AD w w') (fun o=>m - o) 0 ⟨rfl,om,sI,g,e⟩ ?_;clear e g;rintro o au _ cj ⟨rfl,b6,a',g,e⟩;rcases Nat.lt_or_ge o m with bo | bo
   .obtain ⟨t,z⟩:=AA (l:=ts) (k:=o) om;have a4:=hts t (List.mem_of_getElem? z);by_cases r:(t.size:Int)=f.to_ - f.from_
    .have av:=GN (p:=fun t=>(ByteArray.size t:Int)=f.to_ - f.from_) z a' r;exact iY<|jI (hT.ext e) o rfl z fun ax a5 a0 al=>jO al rfl<|jL g (k:=1) rfl<|jL g (k:=0) rfl<|AB.sub _ rfl om om<|iF<|jP (((o+1:Nat):Int)) ⟨o+1,om,rfl,om,om,g,e⟩
    .rw [Sd ah an (List.mem_of_getElem? z) r];exact iY<|jI (hT.ext e) o rfl z fun ax a5 a0 al=>jO al rfl<|jL g (k:=1) rfl<|jL g (k:=0) rfl<|AB.sub _ rfl om om<|iT ⟨rfl,e⟩
   .obtain rfl:o=m:=om
    have ay:=G2 (show ts.length<=o by omega) a';refine iN<|lR [3,4,58,59,60] (fun (s:Nat) ag w'=>ag=[.slice a i c,.pointer (some ⟨ae,0,none⟩),.slice b o d,.int .i64 o,.int .i64 s]/\s<=o/\(∀ t∈ts.take s,CM t=true)/\AK w' ae 0 f.enc/\AD w w') (fun s=>o - s) 0 ⟨rfl,om,sI,g,e⟩ ?_;clear e g;rintro s au _ ck ⟨rfl,b9,ba,g,e⟩;rcases Nat.lt_or_ge s o with bq | bq
    .obtain ⟨t,z⟩:=AA (l:=ts) (k:=s) om;have a4:=hts t (List.mem_of_getElem? z);cases r:CM t
     .rw [XJ ah an ay (List.mem_of_getElem? z) r];exact iY<|jI (hT.ext e) s rfl z fun bg bw bl a2=>jO a2 rfl<|dM (DJ _ a4 _) fun a6 x=>iT ⟨rfl,(xt e x)⟩
     .have av:=GN (p:=fun t=>CM t=true) z ba r;exact iY<|jI (hT.ext e) s rfl z fun bg bw bl a2=>jO a2 rfl<|dM (DJ _ a4 _) fun a6 x=>iF<|jP (((s+1:Nat):Int)) ⟨s+1,om,rfl,om,om,(g.ext x),(xt e x)⟩
    .obtain rfl:s=o:=om
     have a7:=G2 (show ts.length<=s by omega) ba;refine iN<|lR [4,68,69,70] (fun (u:Nat) ag w'=>ag=[.pointer (some ⟨ae,0,none⟩),.slice a i c,.int .i64 i,.int .i64 u]/\u<=i/\(∀ ad∈ds.take u,Da ad f=true)/\AK w' ae 0 f.enc/\AD w w') (fun u=>i - u) 0 ⟨rfl,om,sI,g,e⟩ ?_;clear e g;rintro u au _ bd ⟨rfl,cd,bb,g,e⟩;rcases Nat.lt_or_ge u i with br | br
     .obtain ⟨ab,y⟩:=AA (l:=aw) (k:=u) om;obtain ⟨ac,aa,ao⟩:=az.get y;have ai:∀ q,AD w q->Dq 210 [.slice ab.a ab.n ab.c,.agg ⟨f.enc⟩] q (fun v w'=>v = .bool (Da ac f)/\AD q w'):=fun q ak=>FI (ao.1.ext ak) (ah ac (List.mem_of_getElem? aa)) (an ac (List.mem_of_getElem? aa));cases r:Da ac f
      .rw [Iq ah an ay a7 (List.mem_of_getElem? aa) r];exact iY<|jI (aj.ext e) u rfl y fun bh bx bm a3=>jO a3 rfl<|jA (n:=2) g rfl<|dM (ai _ e) fun bz ar=>iT ⟨rfl,(xt e ar)⟩
      .have av:=GN (p:=fun ad=>Da ad f=true) aa bb r;exact iY<|jI (aj.ext e) u rfl y fun bh bx bm a3=>jO a3 rfl<|jA (n:=2) g rfl<|dM (ai _ e) fun bz ar=>iF<|jP (((u+1:Nat):Int)) ⟨u+1,om,rfl,om,om,(g.ext ar),(xt e ar)⟩
     .obtain rfl:u=i:=om
      have bj:=G2 (show ds.length<=u by omega) bb;rw [O9 ah an ay a7 bj];exact iN ⟨rfl,e⟩
end Go.Proofs.YtalgenmoljcnmaaGreatDoor
namespace Go.M
open Go Go.Vc
variable {α β:Type} {p:α->Bool}
theorem Vd {l:List α} (h:l.any p=false):l.filter (fun x=>!p x)=l:=by
 rw [List.filter_eq_self];intro x a;rw [List.any_eq_false] at h;simpa using h x a
theorem Vg:∀ {xs:List α} {ys:List β},xs.length=ys.length->xs.any p=false->HM (fun x=>!p x) xs ys=ys
 | [],[],_,_=>rfl
 | [],_ :: _,h,_=>by simp at h
 | _ :: _,[],h,_=>by simp at h
 | x :: xs,y :: ys,h,hp=>by
  rw [List.any_cons,Bool.or_eq_false_iff] at hp;have:=Vg (xs:=xs) (ys:=ys) (by simpa using h) hp.2;unfold HM;rw [hp.1,this];rfl
theorem SU (q:α->Bool) {xs:List α} {ys:List β} (h:xs.length=ys.length) {k:Nat} {x:α} {y:β} (hx:xs[k]? = some x) (hy:ys[k]? = some y) :
  HM q (xs.take (k+1)) (ys.take (k+1))=if q x=true then HM q (xs.take k) (ys.take k)++[y] else HM q (xs.take k) (ys.take k):=by
 rw [List.take_add_one,List.take_add_one,hx,hy];exact SV q x y _ _ (by simp [h])
theorem Q4 {L:List α} {m:Nat} (d:α) (h:m<L.length):(L.set m d).take (m+1)=L.take m++[d]:=by
 rw [List.take_add_one,List.take_set_of_le (Nat.le_refl m),Eo (List.getElem?_eq_getElem h)];rfl
end Go.M
namespace Go.Proofs.YtalgenmoljcnmaaGreatDoor
open Go Go.RowKit Go.Vc Go.M
variable {w:World} {a:Option Addr} {n c g:Nat} {xs:List (List Int)} {p:List Int->Bool} {cap:List Value}
theorem Kg (h:Ar Aa w a n xs)
  (hg:∀ d x,x∈xs->Aa w d x->∀ w',AD w w'->Ev Tryz.prog g (.agg ⟨eH d⟩ :: cap) w' (fun v w''=>v = .bool (p x)/\AD w' w'')) :
  Dq 313 [.slice a n c,.func (.func g) ⟨[]⟩ ⟨cap⟩] w (fun v w'=>∃ r:Int,v = .int .i64 r/\((r = -1/\xs.any p=false)\/∃ i x,r=(i:Nat)/\xs[i]? = some x/\p x=true/\(xs.take i).any p=false)/\AD w w'):=by
 have am:=h.len;have al:=h.le;obtain ⟨ae,o,ab⟩:=h;have ak:=o.len;refine oV Tryz.func313 ?_;refine lR [0,1,7,8] (fun (b:Nat) ag w'=>ag=[.slice a n c,.func (.func g) ⟨[]⟩ ⟨cap⟩,.int .i64 n,.int .i64 b]/\b<=n/\(xs.take b).any p=false/\AD w w') (fun b=>n - b) 0 ⟨rfl,om,sI,AD.refl _⟩ ?_;rintro b ai _ w' ⟨rfl,aj,f,e⟩;rcases Nat.lt_or_ge b n with ad | ad
 .obtain ⟨d,s⟩:=AA (l:=ae) (k:=b) om;obtain ⟨x,u,z⟩:=ab.get s;have j:=hg d x (List.mem_of_getElem? u) z;have y:=Gq (p:=p) u;cases t:p x
  .rw [t] at j y;rw [f,Bool.or_false] at y;exact iY<|jI (o.ext e) b rfl s fun aa af ac q=>jA (n:=1) q rfl<|dM (j _ e) fun ah m=>jP (((b+1:Nat):Int)) ⟨b+1,om,rfl,om,om,(xt e m)⟩
  .rw [t] at j;exact iY<|jI (o.ext e) b rfl s fun aa af ac q=>jA (n:=1) q rfl<|dM (j _ e) fun ah m=>⟨_,rfl,.inr ⟨b,x,rfl,u,t,f⟩,(xt e m)⟩
 .rw [List.take_of_length_le om] at f;exact iN ⟨_,rfl,.inl ⟨rfl,f⟩,e⟩
theorem Hm {t:Nat} {fp:List Nat} (h:EO A0 w a n t xs fp) (hnd:fp.Nodup) (hnc:n<=c)
  (hg:∀ u,BY (AN a) w u->∀ d x,x∈xs->Aa u d x->Ev Tryz.prog g (.agg ⟨eH d⟩ :: cap) u (fun v w''=>v = .bool (p x)/\AD u w'')) :
  Dq 345 [.slice a n c,.func (.func g) ⟨[]⟩ ⟨cap⟩] w (fun v w'=>∃ m fp',v = .slice a m c/\m=(xs.filter fun x=>!p x).length/\m<=n/\EO A0 w' a m t (xs.filter fun x=>!p x) fp'/\fp'.Sublist fp/\BY (AN a) w w'):=by
 have bb:=h.arr;have bc:=Kg (c:=c) bb (p:=p) (cap:=cap) (fun d x s au u av=>hg u (av.mod) d x s ⟨au.1.ext av,au.2⟩);have a2:=h.len;obtain ⟨e,ai,r,aw,rfl⟩:=h;have a0:e.length=n:=r.1;have b5:=r.2.1;obtain ⟨b7,b8,br⟩:=List.nodup_append.1 hnd;have am:∀ {u:World},BY (AN a) w u->HY A0 u e xs ai:=fun a4=>aw.keep fun b al=>a4.block b (fun bg=>br b (A2.2 bg) b al rfl) (aw.lt b al);refine oV Tryz.func345 ?_;refine bc.mono ?_;rintro _ ca ⟨b',rfl,bo,q⟩;rcases bo with ⟨rfl,bf⟩ | ⟨j,ce,rfl,a1,bm,bn⟩
 ·(conv=>whnf);rw [Vd bf];exact ⟨n,_,rfl,om,om,⟨e,ai,r.ext q,am (q.mod),rfl⟩,List.Sublist.refl _,q.mod⟩
 .have b1:j<n:=by rw [<- a2];exact (List.getElem?_eq_some_iff.1 a1).1
  have b2:(j:Int)+1<=9223372036854775807:=om
  obtain ⟨y,rfl⟩:=r.some om;have af:xs.length=e.length:=by rw [a0,a2]
  refine jP (((j+1:Nat):Int))<|lR [0,1,5,6] (fun (b:Nat) bt w'=>∃ m f,bt=[.slice (some ⟨y,0,none⟩) n c,.func (.func g) ⟨[]⟩ ⟨cap⟩,.int .i64 (m:Nat),.int .i64 (b:Nat)]/\b<=n/\m<b/\f.length=n/\f.take m=HM (fun x=>!p x) (xs.take b) (e.take b)/\f.drop b=e.drop b/\Bw eH w' (some ⟨y,0,none⟩) n t f/\BY (AN (some ⟨y,0,none⟩)) w w') (fun b=>n - b) (j+1) ⟨j,e,rfl,om,om,a0,?_,rfl,r.ext q,q.mod⟩ ?_
  .obtain ⟨bx,bi⟩:∃ d,e[j]? = some d:=AA om;rw [SU _ af a1 bi,if_neg (by simp [bm]),Vg (by simp [af]) bn]
  rintro b bz _ w' ⟨m,f,rfl,al,b3,ax,i,ay,ac,ab⟩;have b4:(HM (fun x=>!p x) (xs.take b) (e.take b)).length=m:=by rw [<- i,List.length_take];omega
  rcases Nat.lt_or_ge b n with bj | bj
  .obtain ⟨d,aj⟩:=AA (l:=e) (k:=b) om;obtain ⟨x,s⟩:=AA (l:=xs) (k:=b) om;have bd:f[b]? = some d:=by
    have a9:(f.drop b)[0]? = (e.drop b)[0]? := by rw [ay]
    simpa [aj] using a9
   have ae:=SU (fun x=>!p x) af s aj;have az:f.drop (b+1)=e.drop (b+1):=by
    have:=congrArg (List.drop 1) ay;simpa [List.drop_drop] using this
   refine iY<|jI (ac.arr Es) b rfl bd fun bv b9 b0 bh=>jA (n:=1) bh rfl<|jN (z := .agg #[.slice none 0 0]) fun bw cb ba b6 a' a3=>jS (vs:=[Value.slice d.a d.n d.c]) a3 rfl rfl (by simp [AE]) fun an a6 ao=>jA (n:=1) ao.cells rfl ?_;(conv=>whnf);have ah:AD w' an:=xb a' a6.but ba;have ap:=ab.trans ah.mod;have be:Aa an d x:=(am ap).rd.2 b d x aj s;have ad:=hg an ap d x (List.mem_of_getElem? s) be;cases ag:p x
   .rw [ag] at ad;rw [ag] at ae;refine ad.mono ?_;rintro _ bu ⟨rfl,aa⟩;have o:=xt ah aa;refine jA (n:=1) (ao.ext aa).cells rfl<|jW (sz:=1) m rfl om ?_;obtain ⟨cf,bp⟩:=AA (l:=f) (k:=m) om;refine Rn kR Es (ac.ext o) bp d (by simp [eH,AE]) fun cc a7 a5=>jP (((m+1:Nat):Int))<|jP (((b+1:Nat):Int)) ⟨b+1,om,m+1,f.set m d,rfl,om,om,by simp [ax],?_,?_,a5,(ab.trans o.mod).trans (a7.but.mono fun bq ak=>⟨_,rfl,ak⟩)⟩
    .rw [Q4 d om,i,ae];rfl
    .rw [List.drop_set_of_lt om,az]
   .rw [ag] at ad;rw [ag] at ae;refine ad.mono ?_;rintro _ bu ⟨rfl,aa⟩;have o:=xt ah aa;refine jP (((b+1:Nat):Int)) ⟨b+1,om,m,f,rfl,om,om,ax,?_,az,ac.ext o,ab.trans o.mod⟩;rw [i,ae];rfl
  .obtain rfl:b=n:=om
   rw [List.take_of_length_le (show e.length<=b by omega),List.take_of_length_le (show xs.length<=b by omega)] at i;have bk:=OL (fun x=>!p x) xs e af;have bl:m=(xs.filter fun x=>!p x).length:=by
    rw [<- bk,<- i,List.length_take];omega
   refine iN<|Qr (sz:=1) kR m om om om<|Rq (z := .slice none 0 0) (k:=m) (m:=b - m) Bm Es rfl ac om om fun cd a8 ar=>Ro (sz:=1) kR m om om ?_;(conv=>whnf);have aq:=ab.trans (a8.but.mono fun bq ak=>⟨_,rfl,ak⟩);rw [i] at ar;refine ⟨m,BU (some ⟨y,0,none⟩)++(HM (fun x=>!p x) xs ai).flatten,rfl,bl,om,⟨_,_,ar,(am aq).filter _,rfl⟩,(List.Sublist.refl _).append (Vf _ _ _),aq⟩
end Go.Proofs.YtalgenmoljcnmaaGreatDoor
namespace Go.M
open Go Go.Vc
variable {d:List (List Int)} {W m:Nat} {X:List (List (List Int))} {x:EB} {D:Bv}
theorem Ip (h40:d.length<=40) (h:∀ c∈d,E2 c=true/\c.length=W):Ax d=true:=by
 unfold Ax;rw [Bool.and_eq_true];refine ⟨?_,decide_eq_true h40⟩;rw [List.all_eq_true];intro f b;rw [List.mem_range] at b;obtain ⟨c,a⟩:=AA b;rw [Nj a,Bool.and_eq_true];refine ⟨(h c (List.mem_of_getElem? a)).1,decide_eq_true ?_⟩;rw [(h c (List.mem_of_getElem? a)).2];cases d with
 | nil=>simp at b
 | cons e g=>exact ((h e sI).2).symm
theorem SG (h6:X.length=6) (hm:m<=20) (h:∀ d∈X,d.length<=40/\∀ c∈d,E2 c=true/\c.length=W):Ap X m=true:=by
 unfold Ap;simp only [Bool.and_eq_true,decide_eq_true_eq];refine ⟨⟨?_,h6⟩,hm⟩;have i:∀ d∈X,d≠[]->AH X=W:=by
  intro d a k;have n:∀ X:List (List (List Int)),(∀ d∈X,∀ c∈d,c.length=W)->(∃ d∈X,d≠[])->AH X=W:=by
   intro X;induction X with
   | nil=>rintro _ ⟨d,a,_⟩;simp at a
   | cons o p l =>
    intro e g;cases o with
    | nil =>
     obtain ⟨d,a,f⟩:=g;rcases List.mem_cons.1 a with rfl | a
     .exact absurd rfl f
     .exact l (fun d a=>e d (List.mem_cons_of_mem _ a)) ⟨d,a,f⟩
    | cons c b=>exact e (c :: b) sI c sI
  exact n X (fun d a c j=>((h d a).2 c j).2) ⟨d,a,k⟩
 rw [List.all_eq_true];intro d a;unfold Fx;rw [Bool.and_eq_true];refine ⟨Ip (h d a).1 (h d a).2,?_⟩;cases d with
 | nil=>rfl
 | cons c b =>
  simp only [List.headD_cons,Bool.or_eq_true,decide_eq_true_eq];right;rw [i (c :: b) a sI];exact decide_eq_true ((h (c :: b) a).2 c sI).2
theorem BA (h:Ap X m=true):X.length=6/\m<=20/\∀ d∈X,d.length<=40/\∀ c∈d,E2 c=true/\c.length=AH X:=by
 have b:=h;unfold Ap at b;simp only [Bool.and_eq_true,decide_eq_true_eq,List.all_eq_true] at b;refine ⟨b.1.2,b.2,fun d i=>?_⟩;have e:=b.1.1 d i;unfold Fx at e;rw [Bool.and_eq_true] at e;have f:=Ah e.1;refine ⟨f.1,fun c g=>⟨(f.2 c g).1,?_⟩⟩;cases d with
 | nil=>simp at g
 | cons j k =>
  have a:=e.2;simp only [List.headD_cons,Bool.or_eq_true,decide_eq_true_eq] at a;rw [(f.2 c g).2];rcases a with a | a
  .simp at a
  .exact of_decide_eq_true a
theorem VV {α:Type} {l:List α} {i:Nat} {z:α} (h:i<l.length):l.getD i z∈l:=by
 rw [List.getD_eq_getElem?_getD,List.getElem?_eq_getElem h];exact List.getElem_mem h
theorem Sa {a b:List (List Int)} (ha:a.length<=40):(BX a b x).1.length<=40/\∀ c∈(BX a b x).1,c∈a\/c∈b:=by
 unfold BX;split
 .unfold Fy;split
  .simp
  .exact ⟨by simp only [TU];omega,fun c d=>.inl ((TT _ _).subset d)⟩
 split
 .unfold CE;split
  .simp
  .split
   .simp
   .split
    .simp
    .split
     .simp
     .refine ⟨?_,fun c d=>?_⟩
      .simp only [TU,List.length_append];omega
      .exact List.mem_append.1 ((TT _ _).subset d)
 split
 .unfold Cp;split
  .simp
  .refine ⟨?_,fun c d=>.inl ((List.mem_filter.1 d).1)⟩;have:=List.length_filter_le (fun c=>decide (Cy x.field c x.text=0)) a;simp only;omega
 split
 .unfold EH;split
  .simp
  .refine ⟨?_,fun c d=>?_⟩
   .have:(Aw (a.map (AS x.field))).length<=(a.map (AS x.field)).length:=by
     unfold Aw DY;refine Nat.le_trans (List.length_filter_le _ _) ?_;simp
    rw [List.length_map] at this;simp only [List.length_map];omega
   .obtain ⟨f,e,rfl⟩:=List.mem_map.1 d;have:=(GZ.1 e).1;rw [List.length_map] at this;exact .inl (VV this)
 .split
  .simp
  .refine ⟨?_,fun c d=>.inl ((List.mem_filter.1 d).1)⟩;unfold Ca;have:=List.length_filter_le (fun c=>decide (KB b c x.field=decide (x.kind=3))) a;simp only;omega
theorem JJ (h:Ap X m=true) (k:Nat):(X.getD k []).length<=40/\∀ c∈X.getD k [],E2 c=true/\c.length=AH X:=by
 rcases Nat.lt_or_ge k X.length with a | a
 .exact (BA h).2.2 _ (VV a)
 .rw [List.getD_eq_getElem?_getD,List.getElem?_eq_none a];simp
theorem JA {k:Nat} (h:Ap X m=true) (h40:d.length<=40) (hd:∀ c∈d,E2 c=true/\c.length=AH X):Ap (X.set k d) m=true:=by
 have a:=BA h;refine SG (W:=AH X) (by rw [List.length_set];exact a.1) a.2.1 fun e b=>?_;rcases List.mem_or_eq_of_mem_set b with b | rfl
 .exact a.2.2 e b
 .exact ⟨h40,hd⟩
theorem LL {Y:List (List A9)} (h:Ap X Y.length=true) (h0:(Am X Y (AH X) x).2=0) :
  Ap (Am X Y (AH X) x).1.1 (Am X Y (AH X) x).1.2.length=true:=by
 have g:=BA h;unfold Am at h0 ⊢;split at h0
 .cases h0
 rename_i n;rw [if_neg n];split at h0
 .cases h0
 rename_i k;rw [if_neg k];split at h0
 .rename_i e;split at h0
  .rename_i c;exact absurd h0 c
  rename_i c;rw [if_pos e,if_neg c];refine SG (W:=AH X) g.1 ?_ g.2.2;have o:Y.length≠20:=fun l=>k ⟨e,l⟩;have:=g.2.1;simp only [List.length_append,List.length_cons,List.length_nil];omega
 .rename_i e;split at h0
  .rename_i c;exact absurd h0 c
  rename_i c;rw [if_neg e,if_neg c];have i:=JJ h x.a.toNat;have m:=JJ h x.b.toNat;have j:=Sa (x:=x) (b:=X.getD x.b.toNat []) i.1;refine JA h j.1 fun f d=>?_;rcases j.2 f d with d | d
  .exact i.2 f d
  .exact m.2 f d
theorem Dv {s:ByteArray}:Fe X m s=true↔Ap X m=true/\Aj s=0:=by simp [Fe]
theorem Qi (s:ByteArray):(D1 s).2=Aj s:=by
 unfold D1;split<;>simp [*]
theorem Wg {w:ByteArray} {a:C7} (h:Fe D.X D.Y.length D.s=true) (h0:(BC D w a).2=0) :
  Fe (BC D w a).1.1.X (BC D w a).1.1.Y.length (BC D w a).1.1.s=true/\(BC D w a).1.2≠[]:=by
 obtain ⟨f,e⟩:=Dv.1 h;have g:∀ r,CI r≠[]:=fun r=>by simp [CI]
 unfold BC at h0 ⊢;by_cases k:w=Ha
 .rw [if_pos k];exact ⟨h,g _⟩
 rw [if_neg k] at h0 ⊢;by_cases l:w=CP
 .rw [if_pos l] at h0 ⊢;by_cases b:CG (a.texts.getD 0 ⟨#[]⟩)≠0
  .rw [if_pos b] at h0;exact absurd h0 b
  rw [if_neg b] at h0 ⊢;by_cases c:Ap (D.X.set (a.trays.getD 0 0).toNat (D.X.getD (a.trays.getD 0 0).toNat []++[CR (a.texts.getD 0 ⟨#[]⟩)])) D.Y.length=false
  .rw [if_pos c] at h0;cases h0
  rw [if_neg c];exact ⟨Dv.2 ⟨by simpa using c,e⟩,sI⟩
 rw [if_neg l] at h0 ⊢;by_cases b:w=CH
 .rw [if_pos b];exact ⟨Dv.2 ⟨JA f sI sI,e⟩,sI⟩
 rw [if_neg b] at h0 ⊢;by_cases c:w=Cb
 .rw [if_pos c] at h0 ⊢;cases p:(D.X.getD (a.trays.getD 0 0).toNat []).find? (fun j=>decide (BG j≠0)) with
  | some j =>
   rw [p] at h0;have:=List.find?_some p;simp only [decide_eq_true_eq] at this;exact absurd h0 this
  | none=>exact ⟨h,g _⟩
 rw [if_neg c] at h0 ⊢;by_cases m:w=Dz
 .rw [if_pos m] at h0 ⊢;split at h0
  .rename_i i;exact absurd h0 i
  .rename_i i;rw [if_neg i];refine ⟨Dv.2 ⟨f,?_⟩,sI⟩;simp only at h0;rw [Qi] at h0;exact h0
 rw [if_neg m] at h0 ⊢;by_cases n:w=Cm
 .rw [if_pos n];exact ⟨h,sI⟩
 rw [if_neg n] at h0 ⊢;by_cases o:w=GC
 .rw [if_pos o];exact ⟨h,g _⟩
 rw [if_neg o] at h0 ⊢;by_cases d:(Am D.X D.Y (AH D.X) (BT w a)).2≠0
 .rw [if_pos d] at h0;exact absurd h0 d
 rw [if_neg d];have q:=LL f (by simpa using d);split
 .exact ⟨Dv.2 ⟨q,e⟩,sI⟩
 .exact ⟨Dv.2 ⟨q,e⟩,sI⟩
theorem YF (line:ByteArray) (h:Fe D.X D.Y.length D.s=true) :
  (Ez D line).2=7\/((Ez D line).2=0/\Fe (Ez D line).1.1.X (Ez D line).1.1.Y.length (Ez D line).1.1.s=true/\(Ez D line).1.2≠[]):=by
 unfold Ez;rw [if_neg (by simp [h])];split
 .exact .inl rfl
 .split
  .exact .inr ⟨rfl,h,sI⟩
  .split
   .exact .inr ⟨rfl,h,sI⟩
   .rename_i b;have a:(BC D ((Aq 32 line).headD ⟨#[]⟩) (Bd (BW ((Aq 32 line).headD ⟨#[]⟩)) ((Aq 32 line).drop 1)).1).2=0:=by simpa using b
    exact .inr ⟨a,Wg h a⟩
end Go.M
