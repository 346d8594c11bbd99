/- Parts of the proof; no conditions of its own. -/
import Derived.Test.YtalgenmoljcnmaaGreatDoorExecC
import Derived.Test.YtalgenmoljcnmaaGreatDoorRefG
import Derived.Test.YtalgenmoljcnmaaGreatDoorArgs
namespace Go.M
open Go Go.Vc
noncomputable def Wh (D:B7) (t:Int) (z:ByteArray):(B7×List ByteArray)×Int :=
 if CK z≠0 then ((D,[]),CK z) else if Aq (CZ D.X t z) D.Y.length=false then ((D,[]),6) else (({ D with X:=CZ D.X t z },[DE (At (CZ D.X t z))]),0)
def Oh (D:B7) (d:List (List Int)):(B7×List ByteArray)×Int :=
 match d.find? (fun c=>decide (BG c≠0)) with
 | some c=>((D,[]),BG c)
 | none=>((D,CM (d.map fun c=>Cf (CO c))),0)
def V1 (D:B7) (x:Ar):(B7×List ByteArray)×Int :=
 if (A9 D.s x).2≠0 then ((D,[]),(A9 D.s x).2) else (({ D with s:=(A9 D.s x).1 },[BV (D4 (A9 D.s x).1).1]),(D4 (A9 D.s x).1).2)
noncomputable def Vr (D:B7) (d:List (List Int)) (f:AE):(B7×List ByteArray)×Int:=((D,[ES (Dp 32 ((F4 d f).1.map Bg))]),(F4 d f).2)
def ZS (D:B7) (d:List (List Int)) (f g:AE):(B7×List ByteArray)×Int:=((D,CM (HK d f g).1),(HK d f g).2)
def Yr (D:B7):(B7×List ByteArray)×Int:=((D,CM ((BZ D.s).1.map DO)),(BZ D.s).2.2)
noncomputable def Nb (D:B7) (x:ET):(B7×List ByteArray)×Int :=
 if (Ap D.X D.Y (AG D.X) x).2≠0 then ((D,[]),(Ap D.X D.Y (AG D.X) x).2)
 else if x.kind≠7 then (({ D with X:=(Ap D.X D.Y (AG D.X) x).1.1,Y:=(Ap D.X D.Y (AG D.X) x).1.2 },[DE (At (Ap D.X D.Y (AG D.X) x).1.1)]),0)
 else (({ D with X:=(Ap D.X D.Y (AG D.X) x).1.1,Y:=(Ap D.X D.Y (AG D.X) x).1.2 },[ES (GV ((Ap D.X D.Y (AG D.X) x).1.2.getLastD []))]),0)
theorem TC:∀ (f:Nat) (l q:List UInt8) (ch:Int),l.length<=f->¬ (BB l ch).2.2<l.length->(BB (l++q) ch).2.2=l.length+(BB q (BB l ch).2.1).2.2
 | f,l,q,ch,hf,h=>by
  by_cases hm:(10:UInt8)∈l
  .obtain ⟨p,r,rfl,hp⟩:=List.eq_append_cons_of_mem hm;cases a:Dm (bs p) ch with
   | none =>
    rw [LA hp a] at h;simp at h
   | some g =>
    obtain ⟨i,b⟩:=g;rw [F1 hp a] at h;have c:=F1 (r:=r) hp a;have d:=F1 (r:=r++q) hp a;rw [List.append_assoc,List.cons_append,d,c];cases f with
    | zero=>simp at hf
    | succ f =>
     have:=TC f r q b (by simp at hf;omega) (by simp at h ⊢;omega);dsimp only;rw [this];simp;omega
  .have e:l=[]:=by
    rw [Hx hm] at h;exact List.eq_nil_of_length_eq_zero (by dsimp only at h;omega)
   subst e;rw [Hx hm];simp
theorem U9 (s:ByteArray) (x:Ar) (h:(A9 s x).2=0):Aj (A9 s x).1=0:=by
 unfold A9 at h ⊢;by_cases b:Aj s=0
 .rw [if_pos b] at h ⊢;by_cases a:Cx x=false
  .rw [if_pos a] at h;cases h
  .rw [if_neg a] at h ⊢;by_cases d:4000<s.size+(E9 (B0 (BB s.data.toList 0).2.1 x) x).size
   .rw [if_pos d] at h;cases h
   .rw [if_neg d];dsimp only;have f:¬ (BB s.data.toList 0).2.2<s.data.toList.length:=by
     rcases Ce s with h | h | h
     .omega
     .omega
     .simpa using h.2.1
    have c:(s++E9 (B0 (BB s.data.toList 0).2.1 x) x).data.toList=s.data.toList++(J2 (B0 (BB s.data.toList 0).2.1 x) x++10 :: []):=by
     rw [V5];simp [nlB,JI]
    have e:=TC _ s.data.toList (J2 (B0 (BB s.data.toList 0).2.1 x) x++10 :: []) 0 (Nat.le_refl _) f;rw [F1 (Zs (by simpa using a)) (R6 (by simpa using a)),<- c] at e;have g:(s++E9 (B0 (BB s.data.toList 0).2.1 x) x).size=s.data.toList.length+((J2 (B0 (BB s.data.toList 0).2.1 x) x).length+1):=by
     have:=congrArg List.length c;simpa using this
    rw [ByteArray.size_append] at g;rcases Ce (s++E9 (B0 (BB s.data.toList 0).2.1 x) x) with h | h | h
    .rw [ByteArray.size_append] at h;omega
    .rw [ByteArray.size_append] at h;dsimp only at e;omega
    .exact h.2.2
 .rw [if_neg b] at h;exact absurd h b
theorem Zx {c:UInt8} {l:List ByteArray} (h:l≠[]) (hx:∀ x∈l,x.size≠0):(Dp c l).size≠0:=by
 rcases List.eq_nil_or_concat l with rfl | ⟨d,b,rfl⟩
 .exact absurd rfl h
 rw [List.concat_eq_append] at *
 .by_cases a:d=[]
  .subst a;rw [List.nil_append,Ou];exact hx b sI
  .rw [Qr c a];simp only [ByteArray.size_append];have:=hx b sI;omega
theorem Vq (p:Ak):(Bg p).size≠0:=by
 unfold Bg;rw [ByteArray.size_append];split<;>rw [BY]<;>simp
end Go.M
namespace Go.Proofs.YtalgenmoljcnmaaGreatDoor
section
open Go Go.RowKit Go.Vc Go.M
variable {w:World} {fp:List Nat} {b:Nat} {D:B7} {out:List ByteArray} {t:Int} {f:AE} {z:ByteArray}
theorem VW (h:P0 w fp b D out) (ho:out.length<=1000000) (h6:D.X.length=6) (tb:0<=t/\t<=5) (hfo:f.ok) :
  Dq 49 [.pointer (some ⟨b,0,none⟩),.int .i64 t,.agg ⟨f.enc⟩] w (fun _ w'=>Rm w fp b w' (KB D (Vr D (D.X.getD t.toNat []) f)).1 (out++(KB D (Vr D (D.X.getD t.toNat []) f)).2)):=by
 have e:=h;obtain ⟨a0,bk,a6,a4,bi,a9,a2,no,a8,bo,bn,a',ba,aa,ac,az,ay,bd,bl⟩:=h;have x:=ac.arr;have bf:=x.len;obtain ⟨ao,y,ag⟩:=x;have be:=y.len;obtain ⟨ar,z⟩:=AA (l:=ao) (k:=t.toNat) om;obtain ⟨r,ap,ad⟩:=ag.get z;have al:D.X.getD t.toNat []=r:=Af ap;rw [al];have ah:=fun av (af:AD w av)=>Mg (c:=ar.c) (ad.1.ext af) hfo;have ak:=U2 (d:=r) (f:=f);unfold Vr;generalize F4 r f=au at *;obtain ⟨m,ae⟩:=au;dsimp only at *;refine oV Tryz.func49 ?_;refine AB.box fun a5 br bb bh j ab=>dH (pB [0,2,4,6,8,10,12,14,16,19,21,23,24,26,29,31]) ?_;intro bt i;refine dL (aa.ext j).cells (k:=0) rfl ?_;refine dI (y.ext j) (t).toNat om z fun a3 bm bc ai=>dO ai rfl<|jA (n:=2) (ab.ext i).cells rfl ?_;refine ⟨i,(ah _ (xt j i)).mono ?_⟩;rintro _ aw ⟨a1,bj,a7,rfl,s,u⟩;refine ⟨(xt i u),?_⟩;have a:AD w aw:=xt (xt j i) u;refine (Ej (e.ext a) om ae).mono ?_;rintro _ bp (⟨o,rfl,rfl⟩ | ⟨o,rfl,g⟩)
 .subst o;rw [JX rfl];have am:=s.len;(conv=>whnf);by_cases p:m=[]
  .subst p;refine K3.yes (by simp at am;omega)<|(Fo (e.ext a) om _).mono ?_;rintro _ ax g;exact Ca e a g
  .have bg:m.length≠0:=fun h=>p (List.length_eq_zero_iff.1 h);refine iN ?_;(conv=>whnf);have aj:ES (Dp 32 (m.map Bg))=Dp 32 (m.map Bg):=by
    unfold ES;rw [if_neg (Zx (by simpa using p) (by
     intro bu aq;obtain ⟨q,_,rfl⟩:=List.mem_map.1 aq;exact Vq q))]
   rw [aj];refine dM (UI s (fun q an=>by have:=ak.2 q an;unfold BH;omega) om) fun ax v=>(Fo (e.ext (xt a v)) om _).mono ?_;rintro _ bq g;exact Ca e (xt a v) g
 .rw [JY o];exact Ca e a g
theorem ZY (h:P0 w fp b D out) (ho:out.length<=1000000) (h6:D.X.length=6) (tb:0<=t/\t<=5) {g:AE} (hfo:f.ok) (hgo:g.ok) :
  Dq 50 [.pointer (some ⟨b,0,none⟩),.int .i64 t,.agg ⟨f.enc⟩,.agg ⟨g.enc⟩] w (fun _ w'=>Rm w fp b w' (KB D (ZS D (D.X.getD t.toNat []) f g)).1 (out++(KB D (ZS D (D.X.getD t.toNat []) f g)).2)):=by
 have m:=h;obtain ⟨a1,bq,a9,a6,bo,bb,a3,no,ba,bx,bw,bc,bd,aa,af,a0,az,bh,br⟩:=h;have s:=af.arr;have bj:=s.len;obtain ⟨aq,u,am⟩:=s;have bi:=u.len;obtain ⟨au,v⟩:=AA (l:=aq) (k:=t.toNat) om;obtain ⟨y,ar,ag⟩:=am.get v;have ap:D.X.getD t.toNat []=y:=Af ar;rw [ap];have an:=fun x (ak:AD w x) {ah:Option Addr} {aj:Nat} (z:A4 AE.enc 2 x ah 1 [g])=>Mf (c:=au.c) (d:=aj) (ag.1.ext ak) hfo hgo z;unfold ZS;generalize HK y f g=ax at *;obtain ⟨bk,ai⟩:=ax;dsimp only at *;refine oV Tryz.func50 ?_;refine AB.box ?_;intro a7 b2 be bm o ac;refine AB.box fun a8 b3 bf bn e ad=>dH (pB [0,2,8,10,12,14,16,18,20,22,24,5,7,27,29,30,32,35,37]) ?_;intro b4 i;refine dA (n:=2) (ac.ext e).cells rfl<|dA (n:=2) ad.cells rfl<|dL (aa.ext (xt o e)).cells (k:=0) rfl ?_;refine dI (u.ext (xt o e)) (t).toNat om v fun a4 bt bg ao=>dO ao rfl ?_;refine bS J1 (vs:=[Value.agg #[Value.int IntKind.i64 g.from_,Value.int IntKind.i64 g.to_]]) ?_;intro a5 bz al bl a ab;have ae:=AH (n:=1) (enc:=AE.enc) (xs:=[⟨g.from_,g.to_⟩]) Br ab al rfl dE;refine ⟨(xt i a),AB.build T7 rfl ⟨(xt i a),(an _ (xt (xt (xt o e) i) a) (ae.own.arr Br)).mono ?_⟩⟩;rintro _ ay ⟨a2,bp,a',rfl,av,r⟩;refine ⟨(xt (xt i a) r),?_⟩;have j:AD w ay:=xt (xt o e) (xt (xt i a) r);refine (Ej (m.ext j) om ai).mono ?_;rintro _ b0 (⟨p,rfl,rfl⟩ | ⟨p,rfl,q⟩)
 .obtain ⟨bu,bv,aw⟩:=av p;subst p;rw [JX rfl];refine (Ng (m.ext j) om aw om).mono ?_;rintro _ b1 q;exact Ca m j q
 .rw [JY p];exact Ca m j q
theorem Yd (h:P0 w fp b D out) (ho:out.length<=1000000) (h6:D.X.length=6) (hX:∀ x∈D.X,x.length<=1000) (hs:D.s.size<=1048576) {k:Int} (tb:0<=t/\t<=5) (hk:BH k) (hz:z.size<=1048576) :
  Dq 51 [.pointer (some ⟨b,0,none⟩),.int .i64 t,.int .i64 k,.string z] w (fun _ w'=>Rm w fp b w' (KB D (V1 D ⟨t,(D.X.getD t.toNat []).length,k,z⟩)).1 (out++(KB D (V1 D ⟨t,(D.X.getD t.toNat []).length,k,z⟩)).2)):=by
 have m:=h;obtain ⟨ar,bh,aw,av,bg,a0,au,no,az,b8,b7,bt,bu,e,f,j,ao,a',ah⟩:=h;have ad:=f.arr;have b0:=ad.len;obtain ⟨bd,ae,a3⟩:=ad;have bz:=ae.len;obtain ⟨ai,af⟩:=AA (l:=bd) (k:=t.toNat) om;obtain ⟨x,ag,aq⟩:=a3.get af;have ba:D.X.getD t.toNat []=x:=Af ag;have be:=aq.1.len;have b1:=hX x (List.mem_of_getElem? ag);rw [ba];have bf:Ar.ok ⟨t,(x.length:Nat),k,z⟩:=by
  refine ⟨⟨?_,?_⟩,⟨?_,?_⟩,hk,?_⟩<;>dsimp only [IP]<;>omega
 have a2:∀ c,Dq 105 [.string D.s,.agg #[.int .i64 t,.int .i64 ai.n,.int .i64 k,.string z]] c (fun bm w'=>bm = .tuple #[.string (A9 D.s ⟨t,(x.length:Nat),k,z⟩).1,.int .i64 (A9 D.s ⟨t,(x.length:Nat),k,z⟩).2]/\AD c w'):=fun c=>by
  have:=UN hs bf c;rw [<- be];exact this
 have bc:=U9 D.s ⟨t,(x.length:Nat),k,z⟩;have a4:=NU D.s ⟨t,(x.length:Nat),k,z⟩ hs;unfold V1;generalize A9 D.s ⟨t,(x.length:Nat),k,z⟩=o at *;have bx:=U8 o.1;have ac:=fun c=>R0 a4 c;generalize a6:D4 o.1=r at *;obtain ⟨bk,aj⟩:=o;have a7:aj=0->r.2=0:=fun a1=>by rw [<- a6,Rc];exact bc a1
 obtain ⟨ay,br⟩:=r;unfold Vs at ac;dsimp only at *;have bb:BH ay:=by unfold BH;omega
 refine oV Tryz.func51 ?_;refine jL e.cells (k:=0) rfl ?_;refine jI ae (t).toNat om af fun bp b6 bw a5=>jO a5 rfl<|AB.build Fi rfl<|jN (z := .agg #[.int .i64 0,.int .i64 0,.int .i64 0,.string { data := #[] }]) fun bq ce ab b2 aa an=>jS (vs:=[Value.int IntKind.i64 t,Value.int IntKind.i64 ai.n,Value.int IntKind.i64 k,Value.string z]) an rfl rfl cE fun b9 q ak=>dH (pB [0,2,4,6,8,11,13,15,16,18,21,23]) ?_;intro b' g;refine dL (e.ext (xb aa q.but ab)).cells (k:=2) rfl<|jA (n:=4) (ak.ext g).cells rfl ?_;refine ⟨g,dM (a2 _) fun bn u=>⟨(xt g u),?_⟩⟩;have a:AD w bn:=xt (xt (xb aa q.but ab) g) u;refine (Ej (m.ext a) om aj).mono ?_;rintro _ ca (⟨d,rfl,rfl⟩ | ⟨d,rfl,i⟩)
 .have a8:=a7 d;subst d a8;rw [if_neg sI,JX rfl];refine jT (e.ext a) (k:=2) (Nat.le_of_ble_eq_true rfl) rfl ?_;intro bo ax al;have am:B8 bo b [.slice ar bh aw,.slice av bg a0,.string bk,.slice au no az] _:=al;have a9:=m.lt;subst a';obtain ⟨b4,bj⟩:=List.nodup_cons.1 ah;obtain ⟨b3,bi,b5⟩:=List.nodup_append.1 bj;obtain ⟨bv,p,bl,ap⟩:=Ky e f j ao ah a (f.keep fun k hk=>a.block k (f.lt k hk)) (j.keep fun k hk=>a.block k (j.lt k hk)) bi (fun k hk=>.inl hk) ax am;refine dM (ac _) fun cb v=>dM (CC bb _) fun cc y=>(Fo (p.ext (xt v y)) om _).mono ?_;rintro _ cd i;exact MS bl ap a9 (Ca p (xt v y) i)
 .rw [if_pos d,JY d];exact Ca m a i
theorem ZZ (h:P0 w fp b D out) (ho:out.length<=1000000) (hs:D.s.size<=4000) (hj:Aj D.s=0) :
  Dq 52 [.pointer (some ⟨b,0,none⟩)] w (fun _ w'=>Rm w fp b w' (KB D (Yr D)).1 (out++(KB D (Yr D)).2)):=by
 have v:=h;obtain ⟨a3,bq,a9,a8,bp,bc,a6,no,bb,bv,bu,bd,be,z,a1,a2,az,bh,br⟩:=h;have am:Yr D=((D,CM ((BB D.s.data.toList 0).1.map DO)),0):=by unfold Yr BZ;rw [if_pos hj]
 have bg:(BB D.s.data.toList 0).1.length<=4000:=by have:=Jc D.s;unfold BZ at this;rw [if_pos hj] at this;exact this
 have ap:∀ d∈(BB D.s.data.toList 0).1,Cx d=true:=(Eb _ D.s.data.toList 0 (Nat.le_refl _) dE dE).1;rw [am,JX rfl];refine oV Tryz.func52 ?_;refine jL z.cells (k:=2) rfl ?_;refine (HU om _).mono ?_;rintro _ i ⟨av,rfl,ai,bt,au⟩;obtain ⟨a5,g,ba,j,a0,e⟩:=au hs;generalize (BB D.s.data.toList 0).1=u at *;have y:=e.arr Av;have bj:=y.len;refine bS BK (vs:=[]) ?_;intro ah ax al bn aj ab;have ae:An eS 1 i.heap.size 9 ax (some ⟨ah,0,none⟩) 0 0 []:=Ag (enc:=eS) AP ab al;refine lR [0,2,4,5] (fun (a:Nat) aw w'=>∃ m o,aw=[.pointer (some ⟨b,0,none⟩),.pointer (some ⟨av,0,none⟩),.slice m a o,.int .i64 a]/\a<=g/\An eS 1 i.heap.size 9 w' m a o ((u.take a).map DO)/\AD i w') (fun a=>g - a) 0 ⟨_,_,rfl,om,by simpa using ae,aj⟩ ?_;rintro a bf _ ay ⟨m,o,rfl,bi,f,c⟩;rcases Nat.lt_or_ge a g with ao | ao
 .obtain ⟨d,r⟩:=AA (l:=u) (k:=a) om;have aq:=Cz DO r;have x:=ap d (List.mem_of_getElem? r);have bk:=FJ x;refine jL (j.ext c).cells (k:=3) rfl<|iY<|jL (j.ext c).cells (k:=3) rfl ?_;obtain ⟨ag,rfl⟩:=((e.ext c)).some om;have bo:ag<i.heap.size:=e.lt _ rfl;refine jW (sz:=4) a rfl om ?_;have an:=AU Av (e.ext c) r;refine dM (Fp (Ki x) om an) fun bx p=>bS BK (vs:=[Value.string (DO d)]) ?_;intro a7 bz ak bm q aa;have ac:=AH (n:=1) (enc:=eS) (xs:=[DO d]) AP aa ak rfl dE;refine AN (enc:=eS) BK AP (f.ext (xt p q)) (ac.own.arr AP) (by intro b1 _;simp [eS,AM]) om om (Below.size (xt (xt c p) q)) fun a4 a' b0 ad ar bl=>jP (((a+1:Nat):Int)) ⟨a+1,om,_,_,rfl,om,?_,(xm (xt (xt c p) q) ar (AQ f.new))⟩;rw [aq];exact ad
 .obtain rfl:a=g:=om
  rw [List.take_of_length_le om] at f;refine jL (j.ext c).cells (k:=3) rfl<|iN ?_;have t:AD w ay:=xt ai c;refine (Ng (v.ext t) om (f.own.arr AP) om).mono ?_;rintro _ bw af;exact Ca v t af
theorem Yc (h:P0 w fp b D out) (ho:out.length<=1000000) (h6:D.X.length=6) (hX:∀ x∈D.X,x.length<=1000/\∀ y∈x,y.length<=1000) (tb:0<=t/\t<=5) :
  Dq 48 [.pointer (some ⟨b,0,none⟩),.int .i64 t] w (fun _ w'=>Rm w fp b w' (KB D (Oh D (D.X.getD t.toNat []))).1 (out++(KB D (Oh D (D.X.getD t.toNat []))).2)):=by
 have q:=h;obtain ⟨bi,ca,f,bn,b',br,bk,no,bq,cg,cf,bu,bv,an,av,bh,bg,b1,cb⟩:=h;have ag:=av.arr;have b5:=ag.len;obtain ⟨a',ah,a2⟩:=ag;have b3:=ah.len;obtain ⟨g,ak⟩:=AA (l:=a') (k:=t.toNat) om;obtain ⟨x,al,ae⟩:=a2.get ak;have a7:D.X.getD t.toNat []=x:=Af al;have b6:=ae.1.len;have am:=hX x (List.mem_of_getElem? al);rw [a7];have bx:x.length<=1000:=am.1;obtain ⟨ay,ai,a3⟩:=ae.1;have b4:=ai.len;refine oV Tryz.func48 ?_;refine bS BK (vs:=[]) ?_;intro aw bf a0 b9 aa ap;have au:An eS 1 w.heap.size 9 bf (some ⟨aw,0,none⟩) 0 0 []:=Ag (enc:=eS) AP ap a0;refine jL (an.ext aa).cells (k:=0) rfl<|jI (ah.ext aa) (t).toNat om ak fun bo cd b0 a6=>jO a6 rfl<|lR [0,4,5,6] (fun (d:Nat) be w'=>∃ u v,be=[.pointer (some ⟨b,0,none⟩),.slice u d v,.slice g.a g.n g.c,.int .i64 d]/\d<=g.n/\An eS 1 w.heap.size 9 w' u d v ((x.take d).map fun f=>Cf (CO f))/\(∀ e y,e<d->x[e]? = some y->BG y=0)/\AD w w') (fun d=>g.n - d) 0 ⟨_,_,rfl,om,by simpa using au,fun e y i=>by omega,aa⟩ ?_;rintro d bw _ cm ⟨u,v,rfl,b2,r,ab,hX⟩;rcases Nat.lt_or_ge d g.n with a8 | a8
 .obtain ⟨bt,aj⟩:=AA (l:=ay) (k:=d) om;obtain ⟨y,j,af⟩:=a3.get aj;have a9:=Cz (fun f=>Cf (CO f)) j;have ba:=am.2 y (List.mem_of_getElem? j);have a4:=fun bd (ax:AD w bd)=>Ry ⟨af.1.ext ax,af.2⟩ ba;have ac:BG y≠0->Oh D x=((D,[]),BG y):=fun a1=>by
   unfold Oh;rw [RN j (by simpa using a1) fun e ad i p=>by simpa using ab e ad i p]
  refine iY<|jI (ai.ext hX) d rfl aj fun bl cc bz a5=>jA (n:=1) a5 rfl<|(a4 _ hX).mono ?_;rintro _ ci ⟨ce,rfl,bc,m⟩;refine (Ej (q.ext (xt hX m)) om (BG y)).mono ?_;rintro _ cj (⟨o,rfl,rfl⟩ | ⟨o,rfl,s⟩)
  .obtain rfl:=bc o;refine bS BK (vs:=[Value.string (Cf (CO y))]) ?_;intro bm ck az b8 z ao;have aq:=AH (n:=1) (enc:=eS) (xs:=[Cf (CO y)]) AP ao az rfl dE;refine AN (enc:=eS) BK AP (r.ext (xt m z)) (aq.own.arr AP) (by intro y _;simp [eS,AM]) om om (Below.size (xt (xt hX m) z)) fun bj bp cl ar bb b7=>jP (((d+1:Nat):Int)) ?_;exact ⟨d+1,om,_,_,rfl,om,by rw [a9];exact ar,fun e ad i p=>by
    rcases Nat.lt_or_ge e d with h | h
    .exact ab e ad h p
    .obtain rfl:e=d:=om
     rw [j] at p;cases p
     exact o,xm (xt (xt hX m) z) bb (AQ r.new)⟩
  .rw [ac o,JY o];exact Ca q (xt hX m) s
 .obtain rfl:d=g.n:=om
  rw [List.take_of_length_le om] at r;have ac:Oh D x=((D,CM (x.map fun f=>Cf (CO f))),0):=by
   unfold Oh;have:x.find? (fun f=>decide (BG f≠0))=none:=by
    rw [List.find?_eq_none];intro y j;obtain ⟨e,i⟩:=List.mem_iff_getElem?.1 j;simp [ab e y (by have:=(List.getElem?_eq_some_iff.1 i).1;omega) i]
   rw [this]
  rw [ac,JX rfl];refine iN<|(Ng (q.ext hX) om (r.own.arr AP) om).mono ?_;rintro _ ch s;exact Ca q hX s
theorem Yb (h:P0 w fp b D out) (hO:out.length<=1000000) (ho:Aq D.X D.Y.length=true) (hY:∀ y∈D.Y,y.length<=1048576) {st:ET} (hx:st.ok) :
  Dq 53 [.pointer (some ⟨b,0,none⟩),.agg ⟨st.enc⟩] w (fun _ w'=>Rm w fp b w' (KB D (Nb D st)).1 (out++(KB D (Nb D st)).2)):=by
 have a5:=h;obtain ⟨cv,c',b0,cw,cm,b2,bz,no,b1,de,dc,cy,cz,ar,bg,a4,bv,ce,cn⟩:=h;have ch:=a4.arr.len;have ci:Aq D.X cm=true:=by rw [<- ch];exact ho
 have av:=fun cp (bm:AD w cp)=>Ve (c:=b0) (d:=b2) (bg.arr.ext bm) (a4.arr.ext bm) ci hY hx;have cb:(Ap D.X D.Y (AG D.X) st).2=0->(Ap D.X D.Y (AG D.X) st).1.1.length=6/\∀ ah∈(Ap D.X D.Y (AG D.X) st).1.1,ah.length<=40:=fun i=>by
  have:=A8 (Lz (x:=st) ho i);exact ⟨this.1,fun ah hx=>(this.2.2 ah hx).1⟩
 have b7:(Ap D.X D.Y (AG D.X) st).2=0->st.kind=7->∃ q p,(Ap D.X D.Y (AG D.X) st).1.2=q++[p]/\p.length<=40/\∀ ah∈p,ah.name.size<=20/\BH ah.sum:=fun i cj=>S5 ho i cj;unfold Nb;generalize Ap D.X D.Y (AG D.X) st=co at *;obtain ⟨⟨bk,bl⟩,a7⟩:=co;dsimp only at *;have a':=a5.lt;subst ce;refine oV Tryz.func53 ?_;refine AB.box ?_;intro a6 az c1 c9 aj a1;have dj:=aj.size;have c6:=ar.lt;refine Du [11] A7 mixed none (.seq (pZ [0,5,10,15,21,26]) (.alt 6 (.seq (pZ [35,40,45,52,58,60]) .done) 10 (.seq (pZ [32,35,40,45,58,60]) .done))) kR kR ?_;intro a0 r;have br:∀ ap,¬ AL none ap:=fun ap ax=>by obtain ⟨ah,hx,_⟩:=ax;cases hx
 have dk:=r.size;refine E3 (n:=2) kR (k:=0) (Sr.cells (ar.ext (xt aj r)).cells (br _)) rfl<|Bf (n:=9) kR (Sr.cells (a1.ext r).cells (br _)) rfl<|Dd.mk ?_ ?_
 focus
  refine (av _ (xt aj r)).mono ?_;rintro _ v ⟨ab,t,ad,ac,o,ae,rfl,u,g⟩;refine ⟨AV g,jN (z := .agg #[.slice none 0 0,.slice none 0 0]) fun e aq b3 ck a al=>⟨AV (xt g a),jS (vs:=[Value.slice ab t ad,Value.slice ac o ae]) al rfl rfl cE ?_⟩⟩;intro ag f a2;have cs:=g.size;have ct:=a.size;have cu:=f.but.size;have am:AD w ag:=xb (xt (xt (xt aj r) g) a) f.but om;have bd:=(a1.ext (xt (xt r g) a)).mod f.but (fun h=>by have h:a6=e:=h;omega);have ax:a7=0->t<=ad/\o<=ae/\Ct ag a0.heap.size v.heap.size ab t ac o bk bl:=fun i=>⟨(u i).1,(u i).2.1,((u i).2.2.mod (S:=fun _=>False) (AD.mod a) (fun _ _ _ h=>h)).mod f.but (fun m b4 b5 j=>by have j:m=e:=j;omega)⟩;have cd:az.heap.size<=e/\az.heap.size<=a0.heap.size/\v.heap.size<=ag.heap.size/\(e<a0.heap.size\/v.heap.size<=e):=om
  generalize a0.heap.size=cl at *;generalize v.heap.size=cf at *;clear u av a al f
 rotate_left
 focus
  refine jN (z := .agg #[.slice none 0 0,.slice none 0 0]) fun e v b3 ck a al=>⟨AV a,(av _ (xt (xt aj r) a)).mono ?_⟩;rintro _ aq ⟨ab,t,ad,ac,o,ae,rfl,u,g⟩;refine ⟨AV (xt a g),jS (vs:=[Value.slice ab t ad,Value.slice ac o ae]) (al.ext g) rfl rfl cE ?_⟩;intro ag f a2;have cs:=g.size;have ct:=a.size;have cu:=f.but.size;have am:AD w ag:=xb (xt (xt (xt aj r) a) g) f.but om;have bd:=(a1.ext (xt (xt r a) g)).mod f.but (fun h=>by have h:a6=e:=h;omega);have ax:a7=0->t<=ad/\o<=ae/\Ct ag v.heap.size aq.heap.size ab t ac o bk bl:=fun i=>⟨(u i).1,(u i).2.1,(u i).2.2.mod f.but (fun m b4 b5 j=>by have j:m=e:=j;omega)⟩;have cd:az.heap.size<=e/\az.heap.size<=v.heap.size/\aq.heap.size<=ag.heap.size/\(e<v.heap.size\/aq.heap.size<=e):=om
  generalize v.heap.size=cl at *;generalize aq.heap.size=cf at *;clear u av a al f
 all_goals
  refine (Ej (a5.ext am) om a7).mono ?_;rintro _ di (⟨af,rfl,rfl⟩ | ⟨af,rfl,aa⟩)
  .obtain ⟨_,_,db,dd,c2,c3,bh,bi,aw⟩:=ax af;obtain ⟨ca,b'⟩:=cb af;rw [if_neg (fun ba=>ba af)];refine jA (n:=2) a2.cells rfl<|Cl kR (ar.ext am) (k:=0) (vs:=[.slice ab t ad,.slice ac o ae]) rfl (Nat.le_of_ble_eq_true rfl) cE ?_;intro cr an bu;have bf:B8 cr b [.slice ab t ad,.slice ac o ae,.string D.s,.slice bz no b1] 49:=bu;obtain ⟨c0,ai,bc,a3⟩:=Ky ar bg a4 bv cn am bh bi aw.1 (fun m j=>.inr (by have:=aw.2 m j;omega)) an bf;have bw:=(bh.keep fun m j=>an.block m (by have:=aw.2 m (List.mem_append_left _ j);omega)).arr;have bx:=(bi.keep fun m j=>an.block m (by have:=aw.2 m (List.mem_append_right _ j);omega)).arr;have be:=a2.mod an.but (fun h=>by have h:e=b:=h;omega);have bt:=bd.mod an.but (fun h=>by have h:a6=b:=h;omega);refine jL bt.cells (k:=0) rfl ?_;(conv=>whnf);by_cases ao:st.kind=7
   .refine DY (by simp [ao]) ?_;rw [if_neg (fun ba=>ba ao),JX rfl];obtain ⟨q,p,rfl,c4,b8⟩:=b7 af ao;have b6:(q++[p]).getLastD []=p:=by rw [List.getLastD_eq_getLast?,List.getLast?_append];rfl
    rw [b6];obtain ⟨bq,a8,bo⟩:=bx;have c7:=a8.len;have cg:bq.length=(q++[p]).length:=bo.1;rw [List.length_append,List.length_singleton] at cg;obtain ⟨ap,bp⟩:=AA (l:=bq) (k:=q.length) om;have bj:=bo.2 q.length ap p bp sI;have b9:=PE (c:=ap.c) bj.1 b8 (by have:=bj.1.len;omega);generalize GV p=ak at *;have c8:o=q.length+1:=om
    refine jL be.cells (k:=1) rfl<|jL be.cells (k:=1) rfl<|AB.sub ((q.length:Nat):Int) om om (by have:=a8.2.1;unfold maxLen at this;omega)<|jI a8 q.length om bp fun cx da c5 cc=>jO cc rfl<|b9.mono ?_;rintro _ dh ⟨rfl,au⟩;(conv=>whnf);by_cases ay:ak.size=0
    .have bb:ak=⟨#[]⟩:=by
      apply ByteArray.ext;exact Array.eq_empty_of_size_eq_zero ay
     have a9:ES ak=⟨#[45]⟩:=by unfold ES;rw [if_pos ay];rfl
     rw [a9];refine Fh (by simp [bb])<|(Fo (ai.ext au) om _).mono ?_;rintro _ cq aa;exact MS bc a3 a' (Ca ai au aa)
    .have bb:¬ ak=⟨#[]⟩:=fun h=>ay (by rw [h];rfl);have a9:ES ak=ak:=by unfold ES;rw [if_neg ay]
     rw [a9];refine DY (by simp [bb])<|(Fo (ai.ext au) om _).mono ?_;rintro _ cq aa;exact MS bc a3 a' (Ca ai au aa)
   .refine Fh (by simp [ao]) ?_;rw [if_pos ao,JX rfl];refine dM (JQ bw (bf.cells.take 3) ca b') fun df bn=>(Fo (ai.ext bn) om _).mono ?_;rintro _ dg aa;exact MS bc a3 a' (Ca ai bn aa)
  .rw [if_pos af,JY af];exact Ca a5 am aa
theorem Yg (h:P0 w fp b D out) (hO:out.length<=1000000) (ho:Aq D.X D.Y.length=true) (hY:∀ y∈D.Y,y.length<=1048576) (tb:0<=t/\t<=5) (hz:z.size<=1048576) :
  Dq 46 [.pointer (some ⟨b,0,none⟩),.int .i64 t,.string z] w (fun _ w'=>Rm w fp b w' (KB D (Wh D t z)).1 (out++(KB D (Wh D t z)).2)):=by
 have am:=h;obtain ⟨d5,au,d7,d6,ai,d8,bx,no,b0,eo,en,d9,d',aw,a',ba,cl,df,dr⟩:=h;have di:=ba.arr.len;have eh:=a'.arr.len;have aq:=A8 ho;have ed:=aq.1;have c9:∀ a5∈D.X,a5.length<=1000/\∀ y∈a5,y.length<=1000:=fun y q=>⟨by have:=(aq.2.2 y q).1;omega,fun z hz=>by have:=(Bp ((aq.2.2 y q).2 z hz).1).2.1;omega⟩;have de:=am.lt;have ef:=aw.lt;subst df;unfold Wh;refine oV Tryz.func46 ?_;refine (QK hz _).mono ?_;rintro _ et ⟨m,aj,ag,rfl,dz,b3⟩;refine jN (z := .agg #[.slice none 0 0]) fun bc eu ec el bg cf=>jS (vs:=[Value.slice m aj ag]) cf rfl rfl cE ?_;intro d2 bd ca;have e5:=b3.size;have e6:=bg.size;have ew:=bd.but.size;have ae:AD w d2:=xb (xt b3 bg) bd.but om;refine (Ej (am.ext ae) om (CK z)).mono ?_;rintro _ ad (⟨v,rfl,rfl⟩ | ⟨v,rfl,al⟩)
 .rw [if_neg (fun dh=>dh v)];obtain ⟨da,a8⟩:=dz v;have a7:An eI 1 w.heap.size 2 ad m aj ag (CW z):=(a8.ext bg).mod bd.but (fun y q h=>by
   have h:y.block=bc:=h;have c8:=(a8.blk_lt y q).2;omega)
  refine (KU (s:=[.string D.s,.slice bx no b0]) (a'.arr.ext ae) (ba.arr.ext ae) (aw.ext ae).cells om (by have:=aq.2.1;omega) c9 hY).mono ?_;rintro _ bm ⟨cu,an,af,ao,rfl,dy,b1⟩;refine jN (z := .agg #[.slice none 0 0,.slice none 0 0]) fun bb ep c6 ej bf cc=>jS (vs:=[Value.slice cu au an,Value.slice af ai ao]) cc rfl rfl cE ?_;intro a3 be bp;(conv=>whnf);have ex:=b1.size;have ey:=bf.size;have ez:=be.but.size;obtain ⟨c2,bh,cn,bt,bi⟩:=(dy.ext bf).but be.but (.inr c6);have a6:AD ad a3:=xb (xt b1 bf) be.but om;have co:=a7.ext a6;have cb:=ca.ext a6;obtain ⟨dt,dv,a2⟩:=List.nodup_append.1 bi.1;have cr:=cn.own;obtain ⟨av,bl⟩:=AA (l:=D.X) (k:=t.toNat) om;obtain ⟨j,i,b4,dc,b5,cg,ck,dw,db,ac,dm⟩:=cr.hand dt bl;subst dc;obtain ⟨d4,dp,c1,c3,c4,c5⟩:=ck;have ak:CH Aw 0 144 a3 i.a i.n i.c av b4:=⟨dp,c1,c3.base (Nat.zero_le _),c4,c5⟩;have dg:D.X.getD t.toNat []=av:=Af bl;have ei:=(aq.2.2 av (List.mem_of_getElem? bl)).1;have eg:i.n<=40:=by have:=ak.le.2;omega
  have o:∀ e∈c2,ad.heap.size<=e/\e<bm.heap.size:=fun e g=>bi.2 e (List.mem_append_left _ g);have bk:∀ e∈bh,ad.heap.size<=e/\e<bm.heap.size:=fun e g=>bi.2 e (List.mem_append_right _ g);have b6:∀ e,e<ad.heap.size\/bm.heap.size<=e->¬ AL i.a e:=fun e g h=>by have:=o e (ac e (ak.blk e h));omega
  have dj:¬ AL i.a j:=fun h=>db (ak.blk j h);refine IJ [12] A7 mixed i.a (pZ [0,10,15,25,6,21,30,36,41,47,52,55,63]) kR kR ?_;intro bn u;have br:∀ w',Sr i.a bn w'->AK w' bb 0 [.slice (some ⟨j,0,none⟩) au an,.slice af ai ao]:=Sr.cells (bp.ext u).cells (b6 _ om);have ch:∀ w',Sr i.a bn w'->AK w' bc 0 [.slice m aj ag]:=Sr.cells (cb.ext u).cells (b6 _ om);have cj:∀ w',Sr i.a bn w'->AK w' j (0+t.toNat * 1) (eH i):=Sr.cells (cg.ext u) dj;refine Cu kR (k:=0) br rfl<|Cu kR (k:=0) br rfl<|pW (sz:=1) t.toNat om om<|FU kR cj rfl<|Bf (n:=1) kR ch rfl<|AB.buildSlice Bz (vs:=[Value.agg ⟨eH ⟨m,aj,ag⟩⟩]) rF rF (by simp [Value.cells,eH]) dE ?_;intro cw d3 eb ek ah cd;have ci:AK d3 cw 0 (eH ⟨m,aj,ag⟩):=cd.cells;refine ⟨AV ah,?_⟩;have e0:=u.size;have e1:=ah.size;have a1:∀ e∈BW m,w.heap.size<=e/\e<ad.heap.size/\e≠bc:=fun e g=>by
   obtain ⟨y,q,rfl⟩:=Az.1 g;have c8:=(a8.blk_lt y q).2;exact ⟨da y q,(a7.blk_lt y q).2,om⟩
  have dd:(BW m).Nodup:=by cases m<;>simp [BW]
  refine Co Bz rfl (ak.ext (xt u ah)) dw (Nat.zero_le _) (d:=⟨m,aj,ag⟩) (x:=CW z) (f:=BW m) (FR (co.ext (xt u ah)).own a7.le.1) dd (fun e g ap=>by have:=a1 e g;have:=o e (ac e ap);omega) ci om om fun cv cx b9 cz cm du b8 a9=>⟨(AD.mod ah).trans a9,pW (sz:=1) t.toNat om om ?_⟩;have ay:BP (fun e=>e∈b4) a3 b9:=(AD.mod (xt u ah)).trans (a9.mono fun e g=>ak.blk e g);refine dm _ _ b9 ⟨cv,i.n+1,cx⟩ (av++[CW z]) cz kR ay ⟨0,cm⟩ du (fun e g=>by
   rcases b8 e g with h | h | h
   .exact .inl h
   .exact .inr fun ap=>by have:=a1 e h;have:=o e ap;omega
   .exact .inr fun ap=>by have:=o e ap;omega) _ ?_
  intro a4 c0 a0 az ds d1;have e2:=a9.size;have e3:=a0.but.size;have ee:=o j b5;have c':D.X.set t.toNat (av++[CW z])=CZ D.X t z:=by unfold CZ;rw [dg]
  rw [c'] at az;have cp:BP (fun e=>ad.heap.size<=e) a3 a4:=(ay.mono fun e g=>(o e (ac e g)).1).trans (a0.but.mono fun e g=>by have g:e=j:=g;omega);have ax:AD w a4:=xm (xt ae a6) cp (fun e g=>by omega);have bo:B8 a4 bb [.slice (some ⟨j,0,none⟩) au an,.slice af ai ao] 34:=(bp.mod ay (fun h=>by have:=o _ (ac _ h);omega)).mod a0.but (fun h=>by have h:bb=j:=h;omega);have bu:DM En a4 af ai 161 D.Y bh:=bt.own.keep fun e g=>by
   have c7:=bt.lt e g;rw [a0.block e (fun h=>a2 j b5 e g h.symm),ay.block e (fun h=>a2 e (ac e h) e g rfl) c7]
  have bj:∀ e∈c0,w.heap.size<=e/\e∉bh:=fun e g=>by
   rcases d1 e g with h | h
   .exact ⟨by have:=o e h;omega,fun aa=>a2 e h e aa rfl⟩
   .rcases b8 e h with h | h | h
    .exact ⟨by have:=o e (ac e h);omega,fun aa=>a2 e (ac e h) e aa rfl⟩
    .exact ⟨(a1 e h).1,fun aa=>by have:=a1 e h;have:=bk e aa;omega⟩
    .exact ⟨om,fun aa=>by have:=bk e aa;omega⟩
  refine dM (L4 (s:=[]) az.arr bo.cells) fun eq p=>?_;rw [<- di];(conv=>whnf);cases dk:Aq (CZ D.X t z) D.Y.length
  .rw [if_pos rfl,JY (r:=((D,[]),6)) (show (6:Int)≠0 by decide)];refine (Ej (am.ext (xt ax p)) om 6).mono ?_;rintro _ b' (⟨v,_,_⟩ | ⟨_,rfl,al⟩)
   .cases v
   exact Ca am (xt ax p) al
  .rw [if_neg sI,JX rfl];have b7:=A8 dk;refine jA (n:=2) (bo.ext p).cells rfl ?_;have e4:=p.size;refine Cl kR (aw.ext (xt ax p)) (k:=0) (vs:=[.slice (some ⟨j,0,none⟩) au an,.slice af ai ao]) rfl (Nat.le_of_ble_eq_true rfl) cE ?_;intro b' bz ce;have bq:B8 b' b [.slice (some ⟨j,0,none⟩) au an,.slice af ai ao,.string D.s,.slice bx no b0] 49:=ce;have bv:=(az.keep fun e g=>p.block e (az.lt e g)).imp (fun _ _ _ h=>OG.os h);have cs:=bu.keep fun e g=>p.block e (bu.lt e g);obtain ⟨ea,bw,d0,cq⟩:=Ky aw a' ba cl dr (xt ax p) bv cs (List.nodup_append.2 ⟨ds,dv,fun dx dl em dn cy=>(bj dx dl).2 (cy▸dn)⟩) (fun ar ab=>.inr (by
    rcases List.mem_append.1 ab with ab | ab
    .exact (bj ar ab).1
    .have:=bk ar ab;omega)) bz bq
   have ct:=(bv.keep fun ar ab=>bz.block ar (by have:=(bj ar ab).1;omega)).arr;refine dM (JQ ct (bq.cells.take 3) b7.1 (fun a5 dq=>(b7.2.2 a5 dq).1)) fun er b2=>(Fo (bw.ext b2) om _).mono ?_;rintro _ es al;exact MS d0 cq de (Ca bw b2 al)
 .rw [if_pos v,JY v];exact Ca am ae al
end
end Go.Proofs.YtalgenmoljcnmaaGreatDoor
namespace Go.M
open Go Go.Vc
variable {t:ByteArray} {A:DF}
theorem VI {w:ByteArray} (h:(deskWordsM.any fun x=>decide (x=w))=true):w=CU\/w=CL\/w=C5\/w=Hr\/w=DV\/w=DJ\/w=D2\/w=Cp\/w=EY\/w=B1\/w=Cd\/w=Dr\/w=GS\/w=BM:=by
 obtain ⟨x,b,a⟩:=List.any_eq_true.1 h;have a:=of_decide_eq_true a;subst a;unfold deskWordsM at b;simpa using b
theorem Ob (h:(deskWordsM.any fun x=>decide (x=t))=true):t=CU\/t=CL\/t=Cd\/t=Cp\/t=GS\/t=D2\/t=Hr\/(t=Dr\/t=C5\/t=DJ\/t=DV\/t=EY\/t=B1\/t=BM):=by
 rcases VI h with h | h | h | h | h | h | h | h | h | h | h | h | h | h<;>simp [h]
theorem L0 (hs:t=Dr\/t=C5\/t=DJ\/t=DV\/t=EY\/t=B1\/t=BM) (h:VF A (Bd t)):A.nums=[]/\1<=A.trays.length/\A.trays.length<=4/\1<=A.fields.length/\(Gi (Df t)=true->2<=A.trays.length)/\(Df t=7->2<=A.fields.length)/\(Df t=7↔t=BM)/\(t=B1\/A.texts=[]):=by
 have a:=h.t;have d:=h.n;have c:=h.f;have e:=h.x;rcases hs with rfl | rfl | rfl | rfl | rfl | rfl | rfl
 all_goals
  refine ⟨List.length_eq_zero_iff.1 (d.trans dE),?_,?_,?_,fun b=>?_,fun b=>?_,dE,?_⟩
  .rw [a];decide
  .rw [a];decide
  .rw [c];decide
  .rw [a];first | decide | exact absurd b dE
  .rw [c];first | decide | exact absurd b dE
  .first | exact .inl rfl | exact .inr (List.length_eq_zero_iff.1 (e.trans dE))
theorem YY (hs:t=Dr\/t=C5\/t=DJ\/t=DV\/t=EY\/t=B1\/t=BM) (h:VF A (Bd t)):∃ t0 tl t1 f0 f1 z,Rk t A t0 tl t1 f0 f1 z:=by
 obtain ⟨o,p,r,q,j,i,e,n⟩:=L0 hs h;obtain ⟨t0,f⟩:=AA (l:=A.trays) (k:=0) om;obtain ⟨tl,g⟩:=AA (l:=A.trays) (k:=A.trays.length - 1) om;obtain ⟨f0,d⟩:=AA (l:=A.fields) (k:=0) om;refine ⟨t0,tl,A.trays.getD 1 0,f0,A.fields.getD 1 ⟨0,0⟩,A.texts.getD 0 ⟨#[]⟩,f,g,d,fun b=>?_,fun b=>?_,fun b=>?_⟩
 .obtain ⟨c,a⟩:=AA (l:=A.trays) (k:=1) (j b);rw [a,Af a]
 .obtain ⟨c,a⟩:=AA (l:=A.fields) (k:=1) (i (e.2 b));rw [a,Af a]
 .have m:A.texts.length=1:=by rw [h.x,b];decide
  obtain ⟨c,a⟩:=AA (l:=A.texts) (k:=0) om;rw [a,Af a]
end Go.M
namespace Go.Proofs.YtalgenmoljcnmaaGreatDoor
open Go Go.RowKit Go.Vc Go.M
theorem OB {word:ByteArray} {w:World} {lo hi n c m d:Nat} {a b:Option Addr} {D:B7} (h:Gj w lo hi a n c b m d D.X D.Y) (hhi:hi<=w.heap.size) (ho:Aq D.X m=true) (hs:D.s.size<=1048576) (hY:∀ y∈D.Y,y.length<=1048576) (hTm:∀ u,BP (Iv lo hi) w u->GR u) (hE:Eg w) (hM:EE w) {A:DF} {a1 a2 a3 a4:Option Addr} {n1 n2 n3 n4 c1 c2 c3 c4:Nat} (h1:A4 eI 1 w a1 n1 A.trays) (h2:A4 eI 1 w a2 n2 A.nums) (h3:A4 AE.enc 2 w a3 n3 A.fields) (h4:A4 eS 1 w a4 n4 A.texts) (hA:F8 A) (hb:∀ t∈A.trays,0<=t/\t<=5) (hO:VF A (Bd word)) (hw:(Go.M.deskWordsM.any fun x=>decide (x=word))=true) :
  Dq 35 [.agg #[.slice a n c,.slice b m d,.string D.s],.string word,.agg #[.slice a1 n1 c1,.slice a2 n2 c2,.slice a3 n3 c3,.slice a4 n4 c4]] w (fun v w'=>KA w w' lo hi v (BE D word A)):=by
 have al:=h1.len;rcases Ob hw with rfl | rfl | rfl | rfl | rfl | rfl | rfl | p
 .have g:A.trays.length=1:=hO.t.trans dE;have o:A.nums.length=0:=hO.n.trans dE;have i:A.fields.length=0:=hO.f.trans dE;have j:A.texts.length=1:=hO.x.trans dE;obtain ⟨t,e⟩:=AA (l:=A.trays) (k:=0) om;obtain ⟨ab,z⟩:=AA (l:=A.texts) (k:=0) om;exact Q3 h hhi ho hs hY hTm hE hM h1 h2 h3 h4 hA hb e z
 .have g:A.trays.length=1:=hO.t.trans dE;have o:A.nums.length=0:=hO.n.trans dE;have i:A.fields.length=0:=hO.f.trans dE;have j:A.texts.length=0:=hO.x.trans dE;obtain ⟨t,e⟩:=AA (l:=A.trays) (k:=0) om;exact PW h hhi ho hs hY hTm hE hM h1 h2 h3 h4 hA hb e
 .have g:A.trays.length=1:=hO.t.trans dE;have o:A.nums.length=0:=hO.n.trans dE;have i:A.fields.length=0:=hO.f.trans dE;have j:A.texts.length=0:=hO.x.trans dE;obtain ⟨t,e⟩:=AA (l:=A.trays) (k:=0) om;exact Q1 h hhi ho hs hY hTm hE hM h1 h2 h3 h4 hA hb e
 .have g:A.trays.length=1:=hO.t.trans dE;have o:A.nums.length=0:=hO.n.trans dE;have i:A.fields.length=1:=hO.f.trans dE;have j:A.texts.length=0:=hO.x.trans dE;obtain ⟨t,e⟩:=AA (l:=A.trays) (k:=0) om;obtain ⟨ac,r⟩:=AA (l:=A.fields) (k:=0) om;exact N9 h hhi ho hs hY hTm hE hM h1 h2 h3 h4 hA hb e r
 .have g:A.trays.length=1:=hO.t.trans dE;have o:A.nums.length=0:=hO.n.trans dE;have i:A.fields.length=2:=hO.f.trans dE;have j:A.texts.length=0:=hO.x.trans dE;obtain ⟨t,e⟩:=AA (l:=A.trays) (k:=0) om;obtain ⟨ac,r⟩:=AA (l:=A.fields) (k:=0) om;obtain ⟨ah,ad⟩:=AA (l:=A.fields) (k:=1) om;exact Se h hhi ho hs hY hTm hE hM h1 h2 h3 h4 hA hb e r ad
 .have g:A.trays.length=1:=hO.t.trans dE;have o:A.nums.length=1:=hO.n.trans dE;have i:A.fields.length=0:=hO.f.trans dE;have j:A.texts.length=1:=hO.x.trans dE;obtain ⟨t,e⟩:=AA (l:=A.trays) (k:=0) om;obtain ⟨ak,ae⟩:=AA (l:=A.nums) (k:=0) om;obtain ⟨ab,z⟩:=AA (l:=A.texts) (k:=0) om;exact Q2 h hhi ho hs hY hTm hE hM h1 h2 h3 h4 hA hb e ae z
 .have g:A.trays.length=0:=hO.t.trans dE;have o:A.nums.length=0:=hO.n.trans dE;have i:A.fields.length=0:=hO.f.trans dE;have j:A.texts.length=0:=hO.x.trans dE;exact Sf h hhi ho hs hY hTm hE hM h1 h2 h3 h4 hA hb
 .obtain ⟨ap,g,j,i,ar,aq,ai,aj⟩:=L0 p hO;obtain ⟨am,ao,an,af,ag,ab,aa⟩:=YY p hO;exact Q0 p h hhi ho hs hY hTm hE hM h1 h2 h3 h4 hA hb aa.a0 fun u q=>WE p (h1.ext q) (h3.ext q) (h4.ext q) om aa
end Go.Proofs.YtalgenmoljcnmaaGreatDoor
namespace Go.M
open Go Go.Vc
variable {D:B7} {line t:ByteArray} {ws:List ByteArray}
theorem Y5 (D:B7) (A:DF):BE D CU A=Wh D (A.trays.getD 0 0) (A.texts.getD 0 ⟨#[]⟩):=by
 unfold BE Wh;rw [if_neg dE,if_pos rfl];rfl
theorem Xe (D:B7) (A:DF):BE D CL A=(({ D with X:=D.X.set (A.trays.getD 0 0).toNat [] },[DE (At (D.X.set (A.trays.getD 0 0).toNat []))]),0):=by
 unfold BE;rw [if_neg dE,if_neg dE,if_pos rfl]
theorem Y3 (D:B7) (A:DF):BE D Cd A=Oh D (D.X.getD (A.trays.getD 0 0).toNat []):=by
 unfold BE Oh;rw [if_neg dE,if_neg dE,if_neg dE,if_pos rfl];rfl
theorem Y4 (D:B7) (A:DF):BE D D2 A=V1 D ⟨A.trays.getD 0 0,(D.X.getD (A.trays.getD 0 0).toNat []).length,A.nums.getD 0 0,A.texts.getD 0 ⟨#[]⟩⟩:=by
 unfold BE V1;rw [if_neg dE,if_neg dE,if_neg dE,if_neg dE,if_pos rfl]
theorem We (D:B7) (A:DF):BE D Cp A=Vr D (D.X.getD (A.trays.getD 0 0).toNat []) (A.fields.getD 0 ⟨0,0⟩):=by
 unfold BE Vr;rw [if_neg dE,if_neg dE,if_neg dE,if_neg dE,if_neg dE,if_pos rfl]
theorem aA1 (D:B7) (A:DF):BE D GS A=ZS D (D.X.getD (A.trays.getD 0 0).toNat []) (A.fields.getD 0 ⟨0,0⟩) (A.fields.getD 1 ⟨0,0⟩):=by
 unfold BE ZS;rw [if_neg dE,if_neg dE,if_neg dE,if_neg dE,if_neg dE,if_neg dE,if_pos rfl]
theorem aA2 (D:B7) (A:DF):BE D Hr A=Yr D:=by
 unfold BE Yr;rw [if_pos rfl]
theorem Xc {w:ByteArray} {A:DF} (h1:w≠Hr) (h2:w≠CU) (h3:w≠CL) (h4:w≠Cd) (h5:w≠D2) (h6:w≠Cp) (h7:w≠GS) (hk:Df w=7↔w=BM):BE D w A=Nb D (Bb w A):=by
 unfold BE Nb;rw [if_neg h1,if_neg h2,if_neg h3,if_neg h4,if_neg h5,if_neg h6,if_neg h7];have c:(Bb w A).kind=Df w:=rfl;rw [c];by_cases b:w=BM
 .rw [if_neg (show ¬ w≠BM from fun a=>a b),if_neg (show ¬ Df w≠7 from fun a=>a (hk.2 b))]
 .rw [if_pos (show w≠BM from b),if_pos (show Df w≠7 from fun a=>b (hk.1 a))]
theorem aE8 (hD:FP D.X D.Y.length D.s=true) (hs:Ay 32 line=t :: ws) (h:¬ (deskWordsM.any fun x=>decide (x=t))=true\/¬ ws.length=(Bd t).length):EM D line=((HN,[]),7):=by
 unfold EM;rw [if_neg (by simp [hD]),hs,List.headD_cons,List.length_cons,Nat.add_sub_cancel,if_pos h]
theorem aB1 (hD:FP D.X D.Y.length D.s=true) (hs:Ay 32 line=t :: ws) (hk:(deskWordsM.any fun x=>decide (x=t))=true) (hl:ws.length=(Bd t).length) (ha:(Bi (Bd t) ws).2≠0):EM D line=((D,[Fe (Bi (Bd t) ws).2]),0):=by
 unfold EM;rw [if_neg (by simp [hD]),hs,List.headD_cons,List.length_cons,Nat.add_sub_cancel,if_neg (by simp [hk,hl]),List.drop_succ_cons,List.drop_zero,if_pos ha]
theorem aB0 (hD:FP D.X D.Y.length D.s=true) (hs:Ay 32 line=t :: ws) (hk:(deskWordsM.any fun x=>decide (x=t))=true) (hl:ws.length=(Bd t).length) (ha:(Bi (Bd t) ws).2=0) :
  (EM D line).2=0/\(EM D line).1=KB D (BE D t (Bi (Bd t) ws).1):=by
 unfold EM;rw [if_neg (by simp [hD]),hs,List.headD_cons,List.length_cons,Nat.add_sub_cancel,if_neg (by simp [hk,hl]),List.drop_succ_cons,List.drop_zero,if_neg (by simp [ha])];unfold KB;split
 .exact ⟨rfl,rfl⟩
 .rename_i a;exact ⟨by simpa using a,rfl⟩
end Go.M
namespace Go.Proofs.YtalgenmoljcnmaaGreatDoor
open Go Go.RowKit Go.Vc Go.M
variable {w:World}
theorem T8 {a1 a2:Option Addr} {n1 c1 n2 c2 r:Nat} {T:List Int} {F:List AE} {z:ByteArray} (hc:AK w r 0 [.slice a1 n1 c1,.slice a2 n2 c2,.string z]) (h1:A4 eI 1 w a1 n1 T) (h2:A4 AE.enc 2 w a2 n2 F) {k t0 tl t1:Int} {f0 f1:AE} (h0:T[0]? = some t0) (hl:T[T.length - 1]? = some tl) (hf:F[0]? = some f0) (hb:Gi k=true->T[1]? = some t1) (h7:k=7->F[1]? = some f1) (hn:n1<=1000) :
  Dq 54 [.int .i64 k,.pointer (some ⟨r,0,none⟩)] w (fun v w'=>v = .agg ⟨(ET.mk k t0 (if Gi k=true then t1 else 0) (if k=7 then 0 else tl) f0 (if k=7 then f1 else ⟨0,0⟩) z).enc⟩/\AD w w'):=by
 have ba:=h1.len;have bc:=h2.len;have bh:=(List.getElem?_eq_some_iff.1 h0).1;have bi:=(List.getElem?_eq_some_iff.1 hf).1;refine oV Tryz.func54 ?_;refine jN (z := .agg #[.int .i64 0,.int .i64 0,.int .i64 0,.int .i64 0,.int .i64 0,.int .i64 0,.int .i64 0,.int .i64 0,.string { data := #[] }]) fun af a5 au bd f ac=>Au A7 mixed (pZ [0,5,10,15,35,40,45,65,70,75,21,25,31,51,55,61,81,86,92,98]) kR kR ?_;intro bl p;refine dL (hc.ext f) (k:=0) rfl<|pI (h1.ext f) 0 rfl h0 fun a6 be av ai=>dL ai (k:=0) rfl<|dL (hc.ext f) (k:=1) rfl<|pI (h2.ext f) 0 rfl hf fun a7 bf aw aj=>dA (n:=2) aj rfl<|dL (hc.ext f) (k:=2) rfl<|BQ.build aG8 rfl<|jN (z := .agg #[.int .i64 0,.int .i64 0,.int .i64 0,.int .i64 0,.int .i64 0,.int .i64 0,.int .i64 0,.int .i64 0,.string { data := #[] }]) ?_;intro ad bj a9 bb o ab;refine ⟨xt p o,jS (vs:=[.int .i64 k,.int .i64 t0,.int .i64 0,.int .i64 0,.int .i64 f0.from_,.int .i64 f0.to_,.int .i64 0,.int .i64 0,.string z]) ab rfl rfl cE ?_⟩;intro an x s;have bo:=f.size;have bp:=p.size;have bm:=o.size;have bn:=x.but.size;have u:AD a5 an:=xb (xt p o) x.but om;have e:AD w an:=xt f u;have t:=ac.ext u;have m:=hc.ext e;have aa:=h1.ext e;have aq:=h2.ext e;have y:w.heap.size<=af:=au;have g:w.heap.size<=ad:=om
 have q:¬ af=ad:=om
 clear f p o x u ac ab ai aj av aw;(conv=>whnf);by_cases d:k=7
 .have ak:=h7 d;have a0:=(List.getElem?_eq_some_iff.1 ak).1;rw [if_neg (by rw [d];decide),if_pos d,if_pos d];exact K3.yes d<|jL m (k:=1) rfl<|jI aq 1 rfl ak fun ae am ah l=>jA (n:=2) l rfl<|Cl kR s (vs:=f1.enc) rfl (k:=6) (by simp [Value.cells,AE.enc]) (by simp [AE.enc,AM]) fun ao a h=>jA (n:=9) h.cells rfl<|AX (vs:=(ET.mk k t0 0 0 f0 f1 z).enc) kR (t.mod a.but q) rfl rfl (by simp [ET.enc,AE.enc,AM]) fun ap j i=>AO (jR (n:=9) rfl i.cells) ⟨rfl,xb (xb e a.but g) j.but y⟩
 .rw [if_neg d,if_neg d];have ay:T.length - 1=n1 - 1:=om
  rw [ay] at hl;cases az:Gi k
  .rw [if_neg sI];exact K3.no d<|Au A7 mixed (pZ [0,5,10,20,25,30,16,36,41,45,50,56,60,68]) kR kR fun a3 b=>dL m (k:=0) rfl<|dL m (k:=0) rfl<|DT.sub (((n1 - 1:Nat):Int)) om om om<|pI aa (n1 - 1) rfl hl fun ae am ah l=>dO l rfl<|jT (s.ext b) (k:=3) (Nat.le_of_ble_eq_true rfl) rfl fun ao a h=>dM (JS _ _) fun a4 c=>iF<|jA (n:=9) (h.ext c).cells rfl<|AX (vs:=(ET.mk k t0 0 tl f0 ⟨0,0⟩ z).enc) kR (((t.ext b).mod a.but q).ext c) rfl rfl (by simp [ET.enc,AE.enc,AM]) fun ap j i=>AO (jR (n:=9) rfl i.cells) ⟨rfl,xb (xt (xb (xt e b) a.but g) c) j.but y⟩
  .rw [if_pos rfl];have al:=hb az;have a0:=(List.getElem?_eq_some_iff.1 al).1;exact K3.no d<|Au A7 mixed (pZ [0,5,10,20,25,30,16,36,41,45,50,56,60,68]) kR kR fun a3 b=>dL m (k:=0) rfl<|dL m (k:=0) rfl<|DT.sub (((n1 - 1:Nat):Int)) om om om<|pI aa (n1 - 1) rfl hl fun ae am ah l=>dO l rfl<|jT (s.ext b) (k:=3) (Nat.le_of_ble_eq_true rfl) rfl fun ao a h=>dM (JS _ _) fun a4 c=>iT<|jL (hc.ext (xt (xb (xt e b) a.but g) c)) (k:=0) rfl<|jI (h1.ext (xt (xb (xt e b) a.but g) c)) 1 rfl al fun a8 bg a' ax=>jO ax rfl<|jT (h.ext c) (k:=2) (Nat.le_of_ble_eq_true rfl) rfl fun bk ag ar=>jA (n:=9) ar.cells rfl<|AX (vs:=(ET.mk k t0 t1 tl f0 ⟨0,0⟩ z).enc) kR ((((t.ext b).mod a.but q).ext c).mod ag.but q) rfl rfl (by simp [ET.enc,AE.enc,AM]) fun ap j i=>AO (jR (n:=9) rfl i.cells) ⟨rfl,xb (xb (xt (xb (xt e b) a.but g) c) ag.but g) j.but y⟩
theorem UD {a b:Option Addr} {n c m d q:Nat} {s:ByteArray} {X:List (List (List Int))} {Y:List (List AT)} (h:Ac CA w a n X) (h2:Ac FB w b m Y) (hc:AK w q 0 [.slice a n c,.slice b m d,.string s]) (ho:Aq X m=true) (hY:∀ y∈Y,y.length<=1048576) :
  Dq 27 [.pointer (some ⟨q,0,none⟩)] w (fun v w'=>∃ a' n' c' b' m' d',v = .agg #[.slice a' n' c',.slice b' m' d',.string s]/\Ct w' w.heap.size w'.heap.size a' n' b' m' X Y/\AD w w'):=by
 have aj:=h.len;have i:=A8 ho;have ac:∀ r∈X,r.length<=1000/\∀ y∈r,y.length<=1000:=fun y p=>⟨by have:=(i.2.2 y p).1;omega,fun ah ad=>by have:=(Bp ((i.2.2 y p).2 ah ad).1).2.1;omega⟩;have ab:=fun ag (l:AD w ag)=>KU (s:=[.string s]) (h.ext l) (h2.ext l) (hc.ext l) (by have:=i.1;omega) (by have:=i.2.1;omega) ac hY;refine oV Tryz.func27 ?_;refine jN (z := .agg #[.slice none 0 0,.slice none 0 0,.string { data := #[] }]) fun x an aa ak g u=>Au A7 mixed (pZ [0,5,10,20,25,30,36,17,41,48]) kR kR ?_;intro ao e;refine dL (hc.ext g) (k:=2) rfl<|(ab _ (xt g e)).mono ?_;rintro _ al ⟨a',c',b',d',rfl,af,f⟩;refine ⟨(xt e f),BQ.build QD rfl<|jS (vs:=[.slice a' n c',.slice b' m d',.string s]) (u.ext (xt e f)) rfl rfl cE fun am j t=>AO (jR (n:=3) rfl t.cells) ?_⟩;have aq:=g.size;have ar:=e.size;have ap:=f.size;exact ⟨_,_,_,_,_,_,rfl,(af.desk.2.2.mod j.but (fun ae ai h2 o=>by have o:ae=x:=o;omega)).wide om j.but.size,xb (xt (xt g e) f) j.but aa⟩
end Go.Proofs.YtalgenmoljcnmaaGreatDoor
namespace Go.M
open Go Go.Vc
theorem aC6 {t:ByteArray} {A:DF} {t0 tl t1:Int} {f0 f1:AE} (hk:Df t=7↔t=BM) (hx:t=B1\/A.texts=[]) (h0:A.trays[0]? = some t0) (hl:A.trays[A.trays.length - 1]? = some tl) (hf:A.fields[0]? = some f0) (hb:Gi (Df t)=true->A.trays[1]? = some t1) (h7:Df t=7->A.fields[1]? = some f1) :
  Bb t A=ET.mk (Df t) t0 (if Gi (Df t)=true then t1 else 0) (if Df t=7 then 0 else tl) f0 (if Df t=7 then f1 else ⟨0,0⟩) (A.texts.getD 0 ⟨#[]⟩):=by
 unfold Bb;rw [Af h0,Af hl,Af hf];congr 1
 .by_cases a:Gi (Df t)=true
  .rw [if_pos a,if_pos a,Af (hb a)]
  .rw [if_neg a,if_neg a]
 .by_cases a:t=BM
  .rw [if_pos a,if_pos (hk.2 a)]
  .rw [if_neg a,if_neg fun b=>a (hk.1 b)]
 .by_cases a:t=BM
  .rw [if_pos a,if_pos (hk.2 a),Af (h7 (hk.2 a))]
  .rw [if_neg a,if_neg fun b=>a (hk.1 b)]
 .rcases hx with a | a
  .rw [if_pos a]
  .rw [a];split<;>rfl
theorem Xf {X:List (List (List Int))} {m:Nat} {s:ByteArray} (h:FP X m s=true):s.size<=4000:=by
 rcases Ce s with a | a | a
 .have:=(Dj.1 h).2;omega
 .exact a.1
 .exact a.1
end Go.M
namespace Go.Proofs.YtalgenmoljcnmaaGreatDoor
section
open Go Go.RowKit Go.Vc Go.M
set_option maxHeartbeats 4000000 in
theorem aC7 {w:World} {fp:List Nat} {b:Nat} {D:B7} {out:List ByteArray} (h:P0 w fp b D out) (hO:out.length<=900000) (hD:FP D.X D.Y.length D.s=true) (hY:∀ y∈D.Y,y.length<=1048576) {line:ByteArray} (hl:line.size<=1048576) :
  Dq 20 [.pointer (some ⟨b,0,none⟩),.string line] w (fun v w'=>((EM D line).2≠0/\v = .bool false/\Rm w fp b w' D out)\/((EM D line).2=0/\v = .bool true/\Rm w fp b w' (EM D line).1.1 (out++(EM D line).1.2))):=by
 obtain ⟨ba,ay⟩:=Dj.1 hD;have bn:=A8 ba;have a7:=bn.1;have cc:∀ j∈D.X,j.length<=1000/\∀ y∈j,y.length<=1000:=fun y cp=>⟨by have:=(bn.2.2 y cp).1;omega,fun cx bb=>by have:=(Bp ((bn.2.2 y cp).2 cx bb).1).2.1;omega⟩;have dr:=Xf hD;obtain ⟨c,m,am⟩:∃ c m,Ay 32 line=c :: m:=by
  cases ag:Ay 32 line with
  | nil=>exact absurd ag (by unfold Ay;simp [Nd])
  | cons c m=>exact ⟨c,m,rfl⟩
 have co:∀ j∈c :: m,j.size<=1048576:=fun j ab=>by rw [<- am] at ab;have:=Ea ab;omega
 have dv:m.length+1<=1048577:=by have:=Ii 32 line;rw [am,List.length_cons] at this;omega
 have cb:∀ ad,Dq 18 [.string line,.int .u8 32] ad (fun v w'=>∃ aq ah,v = .slice aq (m.length+1) ah/\A4 eS 1 w' aq (m.length+1) (c :: m)/\AD ad w'):=fun ad=>(G2 hl 32 ad).mono fun _ w' ⟨aq,bt,ah,du,_,c2,au⟩=>by
  have a:=c2.arr AP;have hl:=a.len;rw [am] at a hl;have ci:bt=m.length+1:=by rw [<- hl];rfl
  subst ci;exact ⟨aq,ah,du,a,au⟩
 have bi:=fun ad=>T9 c ad;generalize az:(if (Go.M.deskWordsM.any fun j=>decide (j=c))=true then (Bd c).length+1 else 0)=ct at bi;have dt:ct<=5:=by
  rw [<- az];split
  .have:=aH0 (t:=c) ‹_›;omega
  .omega
 refine oV Tryz.func20 ?_;refine (cb _).mono ?_;rintro _ fc ⟨d',es,rfl,a3,b7⟩;refine jI a3 0 rfl (x:=c) rfl fun b2 e4 dd ce=>jO ce rfl<|dM (bi _) fun fg a6=>?_;have bd:=xt b7 a6;(conv=>whnf);by_cases dq:ct=m.length+1
 rotate_left
 .refine Fh sW<|.inl ⟨?_,rfl,Xj h bd⟩;rw [aE8 hD am (by
   by_cases q:(Go.M.deskWordsM.any fun j=>decide (j=c))=true
   .rw [if_pos q] at az;exact .inr om
   .exact .inl q)]
  decide
 have q:(Go.M.deskWordsM.any fun j=>decide (j=c))=true:=Classical.byContradiction fun q=>by
  rw [if_neg q] at az;omega
 rw [if_pos q] at az;have a':m.length=(Bd c).length:=om
 refine DY sW<|(UA (a3.ext a6) co (t:=c) rfl q (by rw [List.length_cons,a'])).mono ?_;rintro _ fh ⟨e7,rfl,bu,bf⟩;rw [show (c :: m).drop 1=m from rfl] at bu;have ap:=xt bd bf;refine (Ej (h.ext ap) om (Bi (Bd c) m).2).mono ?_;rintro _ bv (⟨ag,rfl,rfl⟩ | ⟨ag,rfl,g⟩)
 rotate_left
 ·(conv=>whnf);rw [aB1 hD am q a' ag];exact .inr ⟨rfl,rfl,Ca h ap g⟩
 obtain ⟨b6,b4⟩:=aB0 hD am q a' ag;obtain ⟨al,aa,ak⟩:=YO a'.symm (fun j ab=>co j (List.mem_cons_of_mem _ ab)) ag;obtain ⟨ea,ex,ee,eb,ey,ef,p,z,ao⟩:=bu ag;rw [b4,b6];generalize (Bi (Bd c) m).1=a at *;have bw:=a3.ext (xt a6 bf);have bb:=X9 al.x 0;have o:=h.ext ap;have br:=z.len;have eu:=ao.len;rw [List.length_append] at br;have af:∀ {w' bx cs},Rm bv fp b w' bx cs->((0:Int)≠0/\Value.bool true=Value.bool false/\Rm w fp b w' D out)\/((0:Int)=0/\Value.bool true=Value.bool true/\Rm w fp b w' bx cs):=fun g=>.inr ⟨rfl,rfl,Ca h ap g⟩;generalize bp:a.texts.getD 0 ⟨#[]⟩=cx at *;clear ce dd bu b7 a6 bf bd ap h cb bi az dv b4 b6 a3 dt dq ag;refine jI bw 0 rfl (x:=c) rfl fun ed e5 eo df=>jO df rfl ?_;rcases Ob q with rfl | rfl | rfl | rfl | rfl | rfl | rfl | bo
 .have aj:a.trays.length=1:=aa.t.trans dE;obtain ⟨e,d⟩:=AA (l:=a.trays) (k:=0) om;have r:(a.trays++a.nums)[0]? = some e:=by rw [List.getElem?_append_left om];exact d
  have ac:=ak e (List.mem_of_getElem? d);rw [Y5,Af d,bp];refine G0 [11] A7 mixed (pZ [0,5,10,15,35,40,45,21,25,31,51,58]) kR kR fun a2 i=>dL p (k:=0) rfl<|pI z 0 rfl r fun ar a0 aw u=>dO u rfl<|dL p (k:=2) rfl<|(Yg (o.ext i) om ba hY ac bb).mono ?_;rintro _ an g;exact af (Ca o i g)
 .have aj:a.trays.length=1:=aa.t.trans dE;obtain ⟨e,d⟩:=AA (l:=a.trays) (k:=0) om;have r:(a.trays++a.nums)[0]? = some e:=by rw [List.getElem?_append_left om];exact d
  have ac:=ak e (List.mem_of_getElem? d);rw [Xe,Af d,JX rfl];have dj:=o.lt;have c4:=o;obtain ⟨aq,bt,c6,b2,dx,c8,c5,no,c7,fb,e',ei,ej,bc,a5,c3,c0,dk,cq⟩:=c4;subst dk;have ci:=a5.arr.len;obtain ⟨d0,d2⟩:=List.nodup_cons.1 cq;obtain ⟨e0,dz,e2⟩:=List.nodup_append.1 d2;obtain ⟨dy,ez,eh⟩:=List.nodup_append.1 dz;obtain ⟨fi,dw⟩:=AA (l:=D.X) (k:=e.toNat) om;obtain ⟨b3,eg,c9,dh,cf,d8,d9,e1,eq,er,dp⟩:=a5.hand dy dw;subst dh;have dn:Aq (D.X.set e.toNat []) D.Y.length=true:=Ja ba sI sI;have cj:=A8 dn;refine Au A7 mixed (pZ [0,5,10,15,20,30,35,40,26,46,50,56,62,65,73]) kR kR fun a2 i=>dL bc.cells (k:=0) rfl<|dL p (k:=0) rfl<|pI z 0 rfl r fun ar a0 aw u=>dO u rfl<|bS Bz (vs:=[]) ?_;intro be cu em ew b' cz;have fm:=i.size;have fl:=b'.size;have a4:AD bv cu:=xt i b';refine ⟨a4,pW (sz:=1) e.toNat om om ?_⟩;refine dp _ _ cu ⟨some ⟨be,0,none⟩,0,0⟩ [] [be] kR (AD.mod a4) (aG1 cz) sI (fun bq ay=>.inr fun ae=>by
   rw [List.mem_singleton] at ay;have:=a5.lt bq ae;omega) _ ?_
  intro d5 ek b5 bz d1 d4;obtain ⟨el,b0,d3,c1⟩:=Wp bc c3 c0 cq (fun ah q=>a5.lt ah q) a4 b5 cf bz d1 (fun bq ay=>(d4 bq ay).imp id fun h=>by rw [List.mem_singleton] at h;omega);have cy:B8 d5 b [.slice (some ⟨b3,0,none⟩) bt c6,.slice b2 dx c8,.string D.s,.slice c5 no c7] 49:=(bc.ext a4).mod b5.but (fun h=>d0 (by have h:b=b3:=h;rw [h];exact List.mem_append_right _ (List.mem_append_left _ cf)));refine dM (JQ bz.arr (cy.cells.take 3) cj.1 (fun j ab=>(cj.2.2 j ab).1)) fun fe b9=>(Fo (b0.ext b9) om _).mono ?_;rintro _ ff g;exact af (MS d3 c1 dj (Ca b0 b9 g))
 .have aj:a.trays.length=1:=aa.t.trans dE;obtain ⟨e,d⟩:=AA (l:=a.trays) (k:=0) om;have r:(a.trays++a.nums)[0]? = some e:=by rw [List.getElem?_append_left om];exact d
  have ac:=ak e (List.mem_of_getElem? d);rw [Y3,Af d];refine jL p (k:=0) rfl<|jI z 0 rfl r fun ar a0 aw u=>jO u rfl<|(Yc o om a7 cc ac).mono ?_;rintro _ an g;exact af g
 .have aj:a.trays.length=1:=aa.t.trans dE;have cw:a.fields.length=1:=aa.f.trans dE;obtain ⟨e,d⟩:=AA (l:=a.trays) (k:=0) om;obtain ⟨bg,ae⟩:=AA (l:=a.fields) (k:=0) om;have r:(a.trays++a.nums)[0]? = some e:=by rw [List.getElem?_append_left om];exact d
  have ac:=ak e (List.mem_of_getElem? d);have bj:=al.f bg (List.mem_of_getElem? ae);rw [We,Af d,Af ae];refine G0 [13] A7 mixed (pZ [0,5,10,15,35,40,45,21,25,31,51,55,61,68]) kR kR fun a2 i=>dL p (k:=0) rfl<|pI z 0 rfl r fun ar a0 aw u=>dO u rfl<|dL p (k:=1) rfl<|pI ao 0 rfl ae fun b1 cr cd ax=>dA (n:=2) ax rfl<|(VW (o.ext i) om a7 ac bj).mono ?_;rintro _ an g;exact af (Ca o i g)
 .have aj:a.trays.length=1:=aa.t.trans dE;have cw:a.fields.length=2:=aa.f.trans dE;obtain ⟨e,d⟩:=AA (l:=a.trays) (k:=0) om;obtain ⟨bg,ae⟩:=AA (l:=a.fields) (k:=0) om;obtain ⟨c',bk⟩:=AA (l:=a.fields) (k:=1) om;have r:(a.trays++a.nums)[0]? = some e:=by rw [List.getElem?_append_left om];exact d
  have ac:=ak e (List.mem_of_getElem? d);have bj:=al.f bg (List.mem_of_getElem? ae);have dl:=al.f c' (List.mem_of_getElem? bk);rw [aA1,Af d,Af ae,Af bk];refine G0 [19] A7 mixed (pZ [0,5,10,15,35,40,45,65,70,75,21,25,31,51,55,61,81,85,91,98]) kR kR fun a2 i=>dL p (k:=0) rfl<|pI z 0 rfl r fun ar a0 aw u=>dO u rfl<|dL p (k:=1) rfl<|pI ao 0 rfl ae fun b1 cr cd ax=>dA (n:=2) ax rfl<|dL p (k:=1) rfl<|pI ao 1 rfl bk fun ec e3 en de=>dA (n:=2) de rfl<|(ZY (o.ext i) om a7 ac bj dl).mono ?_;rintro _ an g;exact af (Ca o i g)
 .have aj:a.trays.length=1:=aa.t.trans dE;have fj:a.nums.length=1:=aa.n.trans dE;obtain ⟨e,d⟩:=AA (l:=a.trays) (k:=0) om;obtain ⟨ah,bm⟩:=AA (l:=a.nums) (k:=0) om;have r:(a.trays++a.nums)[0]? = some e:=by rw [List.getElem?_append_left om];exact d
  have dc:(a.trays++a.nums)[1]? = some ah:=by rw [List.getElem?_append_right om,aj];exact bm
  have ac:=ak e (List.mem_of_getElem? d);have dm:=al.n ah (List.mem_of_getElem? bm);rw [Y4,Af d,Af bm,bp];refine G0 [17] A7 mixed (pZ [0,5,10,15,35,40,45,65,70,75,21,25,31,51,55,61,81,88]) kR kR fun a2 i=>dL p (k:=0) rfl<|pI z 0 rfl r fun ar a0 aw u=>dO u rfl<|dL p (k:=0) rfl<|pI z 1 rfl dc fun b1 cr cd ax=>dO ax rfl<|dL p (k:=2) rfl<|(Yd (o.ext i) om a7 (fun j ab=>(cc j ab).1) om ac dm bb).mono ?_;rintro _ an g;exact af (Ca o i g)
 .rw [aA2];refine (ZZ o om dr ay).mono ?_;rintro _ an g;exact af g
 .obtain ⟨cv,aj,fk,cw,d7,d6,ch,ab⟩:=L0 bo aa;obtain ⟨e9,cm⟩:=AA (l:=a.trays) (k:=0) om;obtain ⟨fa,cn⟩:=AA (l:=a.trays) (k:=a.trays.length - 1) om;obtain ⟨c9,cg⟩:=AA (l:=a.fields) (k:=0) om;have a8:∃ a1,Gi (Df c)=true->a.trays[1]? = some a1:=by
   by_cases h:Gi (Df c)=true
   .obtain ⟨a1,bh⟩:=AA (l:=a.trays) (k:=1) (d7 h);exact ⟨a1,fun _=>bh⟩
   .exact ⟨0,fun bl=>absurd bl h⟩
  have a9:∃ av,Df c=7->a.fields[1]? = some av:=by
   by_cases h:Df c=7
   .obtain ⟨av,bh⟩:=AA (l:=a.fields) (k:=1) (d6 h);exact ⟨av,fun _=>bh⟩
   .exact ⟨⟨0,0⟩,fun bl=>absurd bl h⟩
  obtain ⟨a1,a8⟩:=a8;obtain ⟨av,a9⟩:=a9;have cl:=aC6 ch ab cm cn cg a8 a9;have ds:=S6 al c;rw [cv,List.append_nil] at z;rw [bp] at cl;have ca:=fun ad (au:AD bv ad)=>T8 (k:=Df c) (t1:=a1) (f1:=av) (p.ext au) (z.ext au) (ao.ext au) cm cn cg a8 a9 (by rw [cv] at br;simp at br;omega);rw [<- cl] at ca;have da:BE D c a=Nb D (Bb c a):=by
   refine Xc ?_ ?_ ?_ ?_ ?_ ?_ ?_ ch<;>(rcases bo with h | h | h | h | h | h | h<;>rw [h]<;>decide)
  rw [da];generalize Bb c a=e8 at *;have db:=fun ad=>UB c ad;generalize Df c=et at *;have ai:∀ s:ByteArray,(s=CU\/s=CL\/s=Cd\/s=Cp\/s=GS\/s=D2\/s=Hr)->¬ c=s:=fun s ck di=>by
   subst di;rcases bo with h | h | h | h | h | h | h<;>rw [h] at ck<;>revert ck<;>decide
  refine K3.no (ai _ (.inl rfl))<|K3.no (ai _ (.inr (.inl rfl)))<|K3.no (ai _ (.inr (.inr (.inl rfl))))<|K3.no (ai _ (.inr (.inr (.inr (.inl rfl)))))<|K3.no (ai _ (.inr (.inr (.inr (.inr (.inl rfl))))))<|K3.no (ai _ (.inr (.inr (.inr (.inr (.inr (.inl rfl)))))))<|K3.no (ai _ (.inr (.inr (.inr (.inr (.inr (.inr rfl)))))))<|jI bw 0 rfl (x:=c) rfl fun be e6 ep dg=>jO dg rfl<|dM (db _) fun a2 i=>dM (ca _ i) fun fd b8=>(Yb (o.ext (xt i b8)) om ba hY ds).mono ?_;rintro _ an g;exact af (Ca o (xt i b8) g)
end
section
open Go Go.RowKit Go.Vc Go.M
variable {w:World} {n c m d:Nat} {a:Option Addr}
theorem Wo {lo hi q:Nat} {b2:Option Addr} {X:List (List (List Int))} {Y:List (List AT)} {s:ByteArray} (h:Ct w lo hi a n b2 m X Y) (B:B8 w q [.slice a n c,.slice b2 m d,.string s,.slice none 0 0] 49) (hq:q<lo\/hi<=q):∃ fp,P0 w fp q ⟨X,Y,s⟩ []/\∀ k∈fp,k=q\/(lo<=k/\k<hi):=by
 obtain ⟨o,p,f,g,i,j,e⟩:=h;refine ⟨q :: (BW none++(f++g)),⟨a,n,c,b2,m,d,none,0,0,o,p,f,g,B,i,j,An.nil,rfl,?_⟩,fun k b=>?_⟩
 .exact List.nodup_cons.2 ⟨fun l=>by have:=e.2 q (by simpa [BW] using l);omega,by simpa [BW] using e.1⟩
 .rcases List.mem_cons.1 b with b | b
  .exact .inl b
  .exact .inr (e.2 k (by simpa [BW] using b))
def aG3 (w w':World) (v:Value) (r:(B7×List ByteArray)×Int):Prop :=
 ∃ a' n' c' b' m' d' s' al nl cl,v = .tuple #[.agg #[.slice a' n' c',.slice b' m' d',.string s'],.slice al nl cl,.int .i64 r.2] /\
  (r.2=0->s'=r.1.1.s/\Rr w' w.heap.size w'.heap.size a' n' b' m' r.1.1.X r.1.1.Y/\Ab w.heap.size al/\Bs eS w' al nl 9 r.1.2) /\
  (r.2≠0->a'=none/\n'=0/\b'=none/\m'=0/\s'=⟨#[]⟩/\al=none/\nl=0)/\AD w w'
theorem Nh {b:Option Addr} {D:B7} (h:Ac CA w a n D.X) (h2:Ac FB w b m D.Y) (hs:D.s.size<=1048576) (hY:∀ y∈D.Y,y.length<=1048576) {line:ByteArray} (hl:line.size<=1048576) :
  Dq 8 [.agg #[.slice a n c,.slice b m d,.string D.s],.string line] w (fun v w'=>aG3 w w' v (EM D line)):=by
 have aw:=h2.len;have af:=fun u az (ac:AD w u) (am:AK u az 0 [.slice a n c,.slice b m d,.string D.s])=>W6 (h.ext ac) am hs;cases o:FP D.X m D.s
 .rw [o] at af;have bx:EM D line=((HN,[]),1):=by
   unfold EM;rw [if_pos (by rw [aw];exact o)]
  rw [bx];refine oV Tryz.func8 ?_;refine AB.box ?_;intro bi b7 bo bz j aa;refine jN (z := .agg #[.slice none 0 0,.slice none 0 0,.string { data := #[] }]) fun q b8 bp b0 g aj=>dM (af _ _ (xt j g) (aa.ext g).cells) fun b9 l=>AB.build QD rfl<|jS (vs:=[.slice none 0 0,.slice none 0 0,.string ⟨#[]⟩]) (aj.ext l) rfl rfl cE fun b' bl a8=>AO (jR (n:=3) rfl a8.cells) ?_;exact ⟨_,_,_,_,_,_,_,_,_,_,rfl,(fun f=>by cases f),(fun _=>⟨rfl,rfl,rfl,rfl,rfl,rfl,rfl⟩),xb (xt (xt j g) l) bl.but (by have:=j.size;omega)⟩
 .rw [o] at af;rw [<- aw] at o;have bt:=fun u az (ac:AD w u) (am:AK u az 0 [.slice a n c,.slice b m d,.string D.s])=>UD (h.ext ac) (h2.ext ac) am (by rw [<- aw];exact (Dj.1 o).1) hY;refine oV Tryz.func8 ?_;refine AB.box ?_;intro bi b7 bo bz j aa;refine jN (z := .agg #[.slice none 0 0,.slice none 0 0,.string { data := #[] }]) fun q b8 bp b0 g aj=>dM (af _ _ (xt j g) (aa.ext g).cells) fun b9 l=>(bt _ _ (xt (xt j g) l) (aa.ext (xt g l)).cells).mono ?_;rintro _ b' ⟨cc,cm,ce,cd,cl,ch,rfl,b3,aq⟩;refine AB.build aK7 rfl<|AB.box ?_;intro bj ca bq ck ad a9;have cu:=j.size;have cv:=g.size;have cw:=l.size;have cx:=aq.size;have cy:=ad.size;obtain ⟨bn,bf,bv⟩:=Wo (s:=D.s) (b3.ext ad) a9 (.inr bq);have t:∀ e∈bn,w.heap.size<=e/\e≠q:=fun e i=>by have:=bv e i;omega
  have a1:AD w ca:=xt (xt (xt (xt j g) l) aq) ad;have ak:=aj.ext (xt (xt l aq) ad);have a2:w.heap.size<=q:=om
  refine (aC7 (D:=D) bf sI o hY hl).mono ?_;rintro _ ai (⟨ag,rfl,ae,ao,a6,p⟩ | ⟨ag,rfl,ae,ao,a6,p⟩)
  .have al:=ak.mod p (fun h=>(t _ h).2 rfl);have an:AD w ai:=xm a1 p (fun ay au=>(t ay au).1);have bu:(EM D line).2=7:=(To line o).elim id fun h=>absurd h.1 ag;exact AB.build QD rfl<|jS (vs:=[.slice none 0 0,.slice none 0 0,.string ⟨#[]⟩]) al rfl rfl cE fun cr ap a'=>AO (jR (n:=3) rfl a'.cells) ⟨_,_,_,_,_,_,_,_,_,_,by rw [bu],(fun f=>absurd f ag),(fun _=>⟨rfl,rfl,rfl,rfl,rfl,rfl,rfl⟩),xb an ap.but a2⟩
  .have al:=ak.mod p (fun h=>(t _ h).2 rfl);have an:AD w ai:=xm a1 p (fun ay au=>(t ay au).1);have a5:=ao.lt;have cz:=p.size;obtain ⟨bg,b2,ap,bk,b1,bm,bh,no,cg,cp,co,ci,cj,a0,bd,be,bb,ah,cn⟩:=ao;have ar:∀ e∈ae,w.heap.size<=e/\e≠q:=fun e i=>by
    rcases a6 e i with h | h
    .exact t e h
    .have:=ak.lt;omega
   generalize EM D line=b4 at *;obtain ⟨⟨ba,cb⟩,cf⟩:=b4;dsimp only at *;subst ag;have a3:bj≠q:=om
   refine Eo.apart A7 mixed q (pZ [0,5,10,20,25,30,16,36,42,45,50]) kR kR fun cq r=>E3 (n:=3) kR (k:=0) (Bar.cells (a0.ext r).cells a3) rfl<|Cu kR (k:=3) (Bar.cells (a0.ext r).cells a3) rfl<|jS (vs:=[.slice bg b2 ap,.slice bk b1 bm,.string ba.s]) (al.ext r) rfl rfl cE fun b5 ab a7=>⟨aG5 (Wx _ _) ab,AO (jR (n:=3) rfl a7.cells) ?_⟩;have cs:=r.size;have ct:=ab.but.size;have i:∀ e∈ae,b5.heap[e]? = ai.heap[e]? := fun e i=>by rw [ab.block e (ar e i).2,r.block e (a5 e i)]
   have bw:Ab w.heap.size bh:=fun x ax=>(ar x.block (by rw [ah];exact List.mem_cons_of_mem _ (List.mem_append_left _ (Az.2 ⟨x,ax,rfl⟩)))).1;refine ⟨_,_,_,_,_,_,_,_,_,_,rfl,fun _=>⟨rfl,fun b6 bc=>?_,bw,(bb.kept fun x ax=>i x.block (by rw [ah];exact List.mem_cons_of_mem _ (List.mem_append_left _ (Az.2 ⟨x,ax,rfl⟩)))).own⟩,(fun f=>absurd rfl f),xb (xt an r) ab.but a2⟩;have a4:∀ e∈ae,b6.heap[e]? = ai.heap[e]? := fun e av=>by
    have br:=ar e av;have h2:=a5 e av;rw [bc.block e (fun f=>f ⟨br.1,om⟩) om,i e av]
   exact ⟨(bd.keep fun e f=>a4 e (by rw [ah];simp [f])).arr,(be.keep fun e f=>a4 e (by rw [ah];simp [f])).arr⟩
end
end Go.Proofs.YtalgenmoljcnmaaGreatDoor
