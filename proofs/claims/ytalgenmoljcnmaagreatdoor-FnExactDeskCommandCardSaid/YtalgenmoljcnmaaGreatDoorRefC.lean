/- Parts of the proof; no conditions of its own. -/
import Derived.Test.YtalgenmoljcnmaaGreatDoorRefB
import Derived.Test.YtalgenmoljcnmaaGreatDoorDesks
import Derived.Test.YtalgenmoljcnmaaGreatDoorDeal
import Derived.Test.YtalgenmoljcnmaaGreatDoorStab
import Derived.Test.YtalgenmoljcnmaaGreatDoorModel
namespace Go.M
open Go Go.Vc
variable {k:Nat}
theorem aJ7 {m:Int} (h0:0<=m) (h1:m<=4095) (hk:k<9):FQ .i64 m (CG ((k+1:Nat):Int))=if Da m (k+3)=true then CG ((k+1:Nat):Int) else 0:=by
 obtain ⟨a,rfl⟩:∃ a:Nat,m=a:=⟨m.toNat,om⟩;rcases (show k=0\/k=1\/k=2\/k=3\/k=4\/k=5\/k=6\/k=7\/k=8 by omega) with rfl | rfl | rfl | rfl | rfl | rfl | rfl | rfl | rfl
 .exact FW (p:=fun a=>FQ .i64 (a:Int) (CG ((0+1:Nat):Int))=if Da (a:Int) (0+3)=true then CG ((0+1:Nat):Int) else 0) (by decide +kernel) om
 .exact FW (p:=fun a=>FQ .i64 (a:Int) (CG ((1+1:Nat):Int))=if Da (a:Int) (1+3)=true then CG ((1+1:Nat):Int) else 0) (by decide +kernel) om
 .exact FW (p:=fun a=>FQ .i64 (a:Int) (CG ((2+1:Nat):Int))=if Da (a:Int) (2+3)=true then CG ((2+1:Nat):Int) else 0) (by decide +kernel) om
 .exact FW (p:=fun a=>FQ .i64 (a:Int) (CG ((3+1:Nat):Int))=if Da (a:Int) (3+3)=true then CG ((3+1:Nat):Int) else 0) (by decide +kernel) om
 .exact FW (p:=fun a=>FQ .i64 (a:Int) (CG ((4+1:Nat):Int))=if Da (a:Int) (4+3)=true then CG ((4+1:Nat):Int) else 0) (by decide +kernel) om
 .exact FW (p:=fun a=>FQ .i64 (a:Int) (CG ((5+1:Nat):Int))=if Da (a:Int) (5+3)=true then CG ((5+1:Nat):Int) else 0) (by decide +kernel) om
 .exact FW (p:=fun a=>FQ .i64 (a:Int) (CG ((6+1:Nat):Int))=if Da (a:Int) (6+3)=true then CG ((6+1:Nat):Int) else 0) (by decide +kernel) om
 .exact FW (p:=fun a=>FQ .i64 (a:Int) (CG ((7+1:Nat):Int))=if Da (a:Int) (7+3)=true then CG ((7+1:Nat):Int) else 0) (by decide +kernel) om
 .exact FW (p:=fun a=>FQ .i64 (a:Int) (CG ((8+1:Nat):Int))=if Da (a:Int) (8+3)=true then CG ((8+1:Nat):Int) else 0) (by decide +kernel) om
def WU (f:AE) (n:Nat):List Ak:=(List.range n).flatMap fun (i:Nat)=>[⟨f.to_ - 1 - i,1⟩,⟨f.to_ - 1 - i,2⟩]
theorem aJ5 (hk:k<9):¬ CG ((k+1:Nat):Int)=0:=by
 rcases (show k=0\/k=1\/k=2\/k=3\/k=4\/k=5\/k=6\/k=7\/k=8 by omega) with rfl | rfl | rfl | rfl | rfl | rfl | rfl | rfl | rfl<;>decide
end Go.M
namespace Go.Proofs.YtalgenmoljcnmaaGreatDoor
open Go Go.RowKit Go.Vc Go.M
variable {m mode:Int} {w:World} {p:Ak} {a b:Option Addr} {n c d:Nat} {xs:List (List Int)} {l:List Ak}
theorem QI (h0:0<=m) (h1:m<=4095) (w:World):Dq 361 [.int .i64 m] w (fun v w'=>v = .int .i64 (Cj m 1)/\AD w w'):=by
 have p:Cj m 1=(match I2 9 m with | some o=>(o:Int) | none=>if m=4 then 0 else 12):=if_pos rfl;rw [p];have n:CG 0=4:=dE
 refine oV Tryz.func361 ?_;refine lR [0,3] (fun (a:Nat) s w'=>s=[.int .i64 m,.int .i64 a]/\a<=9/\I2 9 m=I2 a m/\AD w w') (fun a=>a) 9 ⟨rfl,om,rfl,AD.refl _⟩ ?_;rintro a u _ aa ⟨rfl,y,i,b⟩;rcases Nat.eq_zero_or_pos a with rfl | z
 .have q:I2 9 m=none:=by rw [i];rfl
  rw [q];dsimp only;by_cases g:m=4
  .rw [if_pos g];subst g;refine dM (Dt _ _) fun j f=>?_;rw [n];exact ⟨rfl,xt b f⟩
  .rw [if_neg g];refine dM (Dt _ _) fun j f=>?_;rw [n];exact iN ⟨rfl,xt b f⟩
 .obtain ⟨a,rfl⟩:∃ r,a=r+1:=⟨a - 1,om⟩;have hand:=aJ7 h0 h1 (k:=a) om;have x:=aJ5 (k:=a) om;have l:∀ d,Dq 232 [.int .i64 ((a+1:Nat):Int)] d (fun v w'=>v = .int .i64 (CG ((a+1:Nat):Int))/\AD d w'):=fun d=>Dt _ d;generalize CG ((a+1:Nat):Int)=t at *;cases c:Da m (a+3)
  .have h:I2 9 m=I2 a m:=by rw [i];exact if_neg (by simp [c])
   rw [c,if_neg sI] at hand;exact iY<|dM (l _) fun j e=>AB.and<|iF<|AB.sub (((a:Nat):Int)) om om om ⟨a,om,rfl,om,h,xt b e⟩
  .have h:I2 9 m=some (a+1):=by rw [i];exact if_pos c
   rw [c,if_pos rfl] at hand;rw [h];dsimp only;exact iY<|dM (l _) fun j e=>AB.and<|iT ⟨rfl,(xt b e)⟩
theorem Rw (h0:0<=m) (h1:m<=4095) (w:World):Dq 362 [.int .i64 m] w (fun v w'=>v = .int .i64 (Cj m 2)/\AD w w'):=by
 have g:=aH9 h0 h1;have h:=aH8 h0 h1;have i:=aH7 h0 h1;have n:Cj m 2=if Da m 0=true then 11 else if Da m 1=true then 10 else if Da m 2=true/\¬ m / 8=0 then 0 else if ¬ m=0 then 1 else 12:=if_neg dE
 rw [n];cases d:Da m 0
 .rw [d,if_neg sI] at g;rw [if_neg sI];cases e:Da m 1
  .rw [e,if_neg sI] at h;rw [if_neg sI];cases a:Da m 2
   .rw [a,if_neg sI] at i;rw [if_neg sI];by_cases b:m=0
    .rw [if_neg (by simp [b])];refine oV Tryz.func362 ?_;refine AB.and ?_;refine AW (fun k=>?_) fun k=>?_
     .exact ⟨om,AD.refl _⟩
     .refine AB.and<|AW (fun l=>?_) fun l=>?_
      .exact ⟨om,AD.refl _⟩
      .refine AB.and<|AW (fun c=>?_) fun c=>?_
       .exact iY ⟨om,AD.refl _⟩
       .exact iF ⟨rfl,AD.refl _⟩
    .rw [if_pos b];refine oV Tryz.func362 ?_;refine AB.and ?_;refine iF<|AB.and ?_;refine iF<|AB.and ?_;refine iF ?_;refine iT ?_;exact ⟨rfl,AD.refl _⟩
   .rw [a,if_pos rfl] at i;have b:¬ m=0:=fun j=>by rw [j] at a;revert a;decide
    by_cases f:m / 8=0
    .rw [if_neg (by simp [f]),if_pos b];have c:m<=7:=om
     refine oV Tryz.func362 ?_;refine AB.and ?_;refine iF<|AB.and ?_;refine iF<|AB.and ?_;refine iT<|iN ?_;refine iT ?_;exact ⟨rfl,AD.refl _⟩
    .rw [if_pos ⟨rfl,f⟩];have c:7<m:=om
     refine oV Tryz.func362 ?_;refine AB.and ?_;refine iF<|AB.and ?_;refine iF<|AB.and ?_;refine iT<|iY ?_;exact ⟨rfl,AD.refl _⟩
  .rw [e,if_pos rfl] at h;rw [if_pos rfl];refine oV Tryz.func362 ?_;refine AB.and ?_;refine iF<|AB.and ?_;refine iT ?_;exact ⟨rfl,AD.refl _⟩
 .rw [d,if_pos rfl] at g;rw [if_pos rfl];refine oV Tryz.func362 ?_;refine AB.and ?_;refine iT ?_;exact ⟨rfl,AD.refl _⟩
theorem QG {b o:Nat} {d:Hd} {xs:List Int} (A:A4 eI 1 w d.a d.n xs) (hc:AK w b o (eH d)) (hp:0<=p.col/\p.col<xs.length) (hm:p.mode=1\/p.mode=2) {v:Int} (hv:xs[p.col.toNat]? = some v) (hvb:0<=v/\v<=4095) :
  Dq 359 [.pointer (some ⟨b,o,none⟩),.agg ⟨p.enc⟩] w (fun v' w'=>v' = .int .i64 (Cj v p.mode)/\AD w w'):=by
 have r:∀ e,Dq 361 [.int .i64 v] e (fun v' w'=>v' = .int .i64 (Cj v 1)/\AD e w'):=fun e=>QI hvb.1 hvb.2 e;have s:∀ e,Dq 362 [.int .i64 v] e (fun v' w'=>v' = .int .i64 (Cj v 2)/\AD e w'):=fun e=>Rw hvb.1 hvb.2 e;obtain ⟨col,mode⟩:=p;simp only at hp hm hv;obtain ⟨i,rfl⟩:∃ i:Nat,col=i:=⟨col.toNat,om⟩;rw [Int.toNat_natCast] at hv;simp only;rcases hm with rfl | rfl
 .refine oV Tryz.func359 ?_;refine AB.box ?_;intro l y q u f g;refine jL g.cells (k:=1) rfl<|dH (pB [0,2,4,6,9,11,13,15,17,19]) ?_;intro z c;refine dL (hc.ext f) (k:=0) rfl<|jL (g.ext c).cells (k:=0) rfl ?_;exact ⟨c,jI (A.ext (xt f c)) i rfl hv fun m x t j=>⟨c,jO j rfl ⟨c,dM (r _) fun aa h=>⟨(xt c h),⟨rfl,(xt (xt f c) h)⟩⟩⟩⟩⟩
 .refine oV Tryz.func359 ?_;conv=>whnf
  exact AB.box fun l y q u f g=>jL g.cells (k:=1) rfl<|dH (pB [0,2,4,6,9,11,13,15,17,19]) fun z c=>dL (hc.ext f) (k:=0) rfl<|jL (g.ext c).cells (k:=0) rfl ⟨c,jI (A.ext (xt f c)) i rfl hv fun m x t j=>⟨c,jO j rfl ⟨c,dM (s _) fun aa h=>⟨(xt c h),⟨rfl,(xt (xt f c) h)⟩⟩⟩⟩⟩
theorem UJ (h:Ac AZ w a n xs) (hn2:n<=40) (hpm:p.mode=1\/p.mode=2) (hx:∀ x∈xs,x.length<=20/\(∀ m∈x,0<=m/\m<=4095)/\0<=p.col/\p.col<x.length) :
  Dq 349 [.slice a n c,.agg ⟨p.enc⟩] w (fun v w'=>∃ a' c',v = .slice a' 13 c'/\Ac CA w' a' 13 (Cr xs p)/\AD w w'):=by
 have c1:=h.len;have cz:=h.le;obtain ⟨cf,ak,b6⟩:=h;have cy:=ak.len;have c2:=Ok xs p;refine oV Tryz.func349 ?_;refine AB.box ?_;intro a0 bh ct c5 a3 ay;refine bS EA (vs:=[]) ?_;intro a1 cm b4 c7 a4 bk;have df:=a3.size;have dh:=a4.size;have bo:CH (OG Aw 144) w.heap.size 78 cm (some ⟨a1,0,none⟩) 0 0 [] [a1]:=E1 bk om;refine lR [0,3,5,6] (fun (e:Nat) aw w'=>∃ af ag ai,aw=[.slice a n c,.pointer (some ⟨a0,0,none⟩),.slice af e ag,.int .i64 e]/\e<=13/\CH (OG Aw 144) w.heap.size 78 w' af e ag ((Cr xs p).take e) ai/\ai.Nodup/\(∀ b∈ai,bh.heap.size<=b)/\AD bh w') (fun e=>13 - e) 0 ⟨_,_,_,rfl,om,by simpa using bo,sI,by simpa using b4,a4⟩ ?_;rintro e b3 _ ax ⟨af,ag,ai,rfl,cx,ac,cd,a9,al⟩;have a7:=xt a3 al;rcases Nat.lt_or_ge e 13 with ba | ba
 .refine iY<|bS Bz (vs:=[]) ?_;intro bx co b5 c9 b0 bm;have bp:Bm Aw ax.heap.size 144 co (some ⟨bx,0,none⟩) 0 0 []:=EO bm b5;refine lR [0,3,5,6,7,8] (fun (b:Nat) aw w'=>∃ z aa ab,aw=[.slice a n c,.pointer (some ⟨a0,0,none⟩),.slice af e ag,.int .i64 e,.slice aa z ab,.int .i64 b]/\b<=n/\z<=b/\Bm Aw ax.heap.size 144 w' aa z ab ((xs.take b).filter (Dx p e))/\AD ax w') (fun b=>n - b) 0 ⟨_,_,_,rfl,om,om,by simpa using bp,b0⟩ ?_;rintro b b3 _ dd ⟨z,aa,ab,rfl,y,c0,ad,o⟩;have u:=xt a7 o;have a8:=xt al o;rcases Nat.lt_or_ge b n with cb | cb
  .obtain ⟨t,am⟩:=AA (l:=cf) (k:=b) om;obtain ⟨s,bf,ap⟩:=b6.get am;have c3:=ap.1.len;have bg:=hx s (List.mem_of_getElem? bf);obtain ⟨v,ao⟩:=AA (l:=s) (k:=p.col.toNat) om;have be:=bg.2.1 v (List.mem_of_getElem? ao);have bb:Dx p e s=decide (Cj v p.mode=e):=by
    unfold Dx;rw [List.getD_eq_getElem?_getD,ao];rfl
   have a6:∀ i q r,AD w i->AK i q r (eH t)->Dq 359 [.pointer (some ⟨q,r,none⟩),.agg ⟨p.enc⟩] i (fun ck w'=>ck = .int .i64 (Cj v p.mode)/\AD i w'):=fun i q r aq av=>QG (ap.1.ext aq) av bg.2.2 hpm ao be;have b8:∀ i q r,AD w i->AK i q r (eH t)->Dq 161 [.pointer (some ⟨q,r,none⟩)] i (fun v w'=>∃ (a':Option Addr) (c':Nat),v = .agg #[.slice a' t.n c']/\An eI 1 i.heap.size 2 w' a' t.n c' s/\AD i w'):=fun i q r aq av=>Ek av (ap.1.ext aq) om;have an:(xs.take (b+1)).filter (Dx p e)=(xs.take b).filter (Dx p e)++(if Dx p e s=true then [s] else []):=by
    rw [List.take_add_one,bf,List.filter_append];by_cases bd:Dx p e s=true
    .simp [bd]
    .simp [bd]
   clear be ao;by_cases bc:Cj v p.mode=e
   .rw [bb,decide_eq_true bc,if_pos rfl] at an;refine iY<|dH (pB [0,2,4,6,10,9,13]) fun bi g=>dI (ak.ext u) b rfl am fun bv ci b9 au=>dA (n:=2) (ay.ext a8).cells rfl<|dM (a6 _ _ _ (xt u g) (au.ext g)) fun cl j=>⟨(xt g j),iY<|jI (ak.ext (xt (xt u g) j)) b rfl am fun cr da cw b'=>(b8 _ _ _ (xt (xt u g) j) b').mono ?_⟩;rintro _ dc ⟨az,a2,rfl,ae,a5⟩;refine bS Bz (vs:=[Value.agg #[Value.slice az t.n a2]]) ?_;intro bw cn cv c8 ah bl;have bn:AK cn bw 0 (eH ⟨az,t.n,a2⟩):=bl.cells;exact Cb Bz rfl (ad.ext (xt g j)) (Below.size (xt (xt o g) j)) (xt a5 ah) (FR ((ae.ext ah).own) ae.le.1) (DB ae.new (fun x hx=>Nat.lt_of_lt_of_le (ae.lt x hx) ah.size)) bn om om fun cp cs de bq cg c4=>jP (((b+1:Nat):Int)) ⟨b+1,om,_,_,_,rfl,om,om,by rw [an];exact bq,xm (xt (xt (xt (xt o g) j) a5) ah) cg (AQ (Bm.new ad))⟩
   .rw [bb,decide_eq_false bc,if_neg sI,List.append_nil] at an;refine iY<|dH (pB [0,2,4,6,10,9,13]) fun bi g=>dI (ak.ext u) b rfl am fun bv ci b9 au=>dA (n:=2) (ay.ext a8).cells rfl<|dM (a6 _ _ _ (xt u g) (au.ext g)) fun cl j=>⟨(xt g j),iN<|jP (((b+1:Nat):Int)) ⟨b+1,om,_,_,_,rfl,om,om,?_,(xt (xt o g) j)⟩⟩
    .rw [an];exact ad.ext (xt g j)
  .obtain rfl:b=n:=om
   rw [List.take_of_length_le om] at ad;have ce:=Ol xs p ba;refine iN<|bS EA (vs:=[Value.slice aa z ab]) ?_;intro cq bi cu c6 g bj;obtain ⟨b1,b7,ar⟩:=GP ad;have cc:=ac.lt;have dj:=o.size;have di:=al.size;have dg:=g.size;refine Co EA rfl (ac.ext (xt o g)) cd om (d:=⟨aa,z,ab⟩) (x:=xs.filter (Dx p e)) (f:=b1) ⟨_,b7.ext g⟩ ar.1 (fun b y ca=>by have:=(ar.2 b y).1;have:=cc b ca;omega) bj.cells om om fun bu bz db b2 br ch cj bt=>jP (((e+1:Nat):Int)) ?_;exact ⟨e+1,om,bu,bz,b2,rfl,om,by rw [List.take_add_one,ce];exact br,ch,fun b y=>by
    rcases cj b y with aj | aj | aj
    .exact a9 b aj
    .have:=(ar.2 b aj).1;omega
    .omega,xm (xt (xt al o) g) bt fun b y=>a9 b (ac.blk b y)⟩
 .obtain rfl:e=13:=om
  rw [List.take_of_length_le om] at ac;exact ⟨_,_,rfl,ac.own.arr,a7⟩
theorem Rx (hm:mode=1\/mode=2) (w:World):Dq 358 [.int .i64 mode] w (fun v w'=>∃ a n c,v = .slice a n c/\A4 eI 1 w' a n (BF mode)/\(∀ x,a=some x->w.heap.size<=x.block/\x.block<w'.heap.size)/\AD w w'):=by
 rcases hm with rfl | rfl
 .refine oV Tryz.func358 ?_;refine bS B3 (vs:=[Value.int IntKind.i64 12,Value.int IntKind.i64 0,Value.int IntKind.i64 1,Value.int IntKind.i64 2,Value.int IntKind.i64 3,Value.int IntKind.i64 4,Value.int IntKind.i64 5,Value.int IntKind.i64 6,Value.int IntKind.i64 7,Value.int IntKind.i64 8,Value.int IntKind.i64 9]) ?_;intro g i f h e b;have d:=AH (n:=11) (enc:=eI) (xs:=[12,0,1,2,3,4,5,6,7,8,9]) AI b f rfl dE;exact ⟨_,_,_,rfl,(d.own.arr AI),by simp [*],e⟩
 .refine oV Tryz.func358 ?_;conv=>whnf
  refine bS B3 (vs:=[Value.int IntKind.i64 12,Value.int IntKind.i64 11,Value.int IntKind.i64 10,Value.int IntKind.i64 0,Value.int IntKind.i64 1]) ?_;intro g i f h e b;have d:=AH (n:=5) (enc:=eI) (xs:=[12,11,10,0,1]) AI b f rfl dE;exact ⟨_,_,_,rfl,(d.own.arr AI),by simp [*],e⟩
theorem QH {Ps:List (List (List Int))} (h:Ac CA w a 13 Ps) (hmo:mode=1\/mode=2) (hx:∀ d∈Ps,d.length<=40/\∀ x∈d,x.length<=20) :
  Dq 348 [.slice a 13 c,.int .i64 mode] w (fun v w'=>∃ a' m c',v = .slice a' m c'/\m<=c'/\Ac AZ w' a' m ((BF mode).flatMap fun k=>Ps.getD k.toNat [])/\AD w w'):=by
 have br:=h.len;obtain ⟨a3,ah,au⟩:=h;have bp:=ah.len;have bn:=RI mode;have az:=RJ mode;refine oV Tryz.func348 ?_;refine (Rx hmo _).mono ?_;rintro _ q ⟨ap,no,aq,rfl,aa,bf,ae⟩;have bt:=aa.len;have b6:=ae.size;refine bS Bz (vs:=[]) ?_;intro ad bb ag bw af am;have b7:=af.size;have ao:CH Aw q.heap.size 144 bb (some ⟨ad,0,none⟩) 0 0 [] [ad]:=E1 am ag;refine lR [0,5,6,7] (fun (k:Nat) ba w'=>∃ r g s j,ba=[.slice a 13 c,.slice ap no aq,.slice r g s,.int .i64 k]/\k<=no/\g<=40 * k/\CH Aw q.heap.size 144 w' r g s (((BF mode).take k).flatMap fun k=>Ps.getD k.toNat []) j/\j.Nodup/\(∀ b∈j,q.heap.size<=b)/\AD q w') (fun k=>no - k) 0 ⟨_,_,_,_,rfl,om,om,by simpa using ao,sI,by simpa using ag,af⟩ ?_;rintro k bj _ b3 ⟨r,g,s,j,rfl,bo,bq,e,a2,ai,p⟩;have y:=xt ae p;rcases Nat.lt_or_ge k no with a0 | a0
 .obtain ⟨v,z⟩:=AA (l:=BF mode) (k:=k) om;have bu:=az v (List.mem_of_getElem? z);obtain ⟨a7,ak⟩:=AA (l:=a3) (k:=v.toNat) om;obtain ⟨bc,al,ac⟩:=au.get ak;have bv:=ac.1.len;have a5:=hx bc (List.mem_of_getElem? al);have aj:=TT (Ps:=Ps) z;rw [List.getD_eq_getElem?_getD (l:=Ps) (i:=v.toNat),al,Option.getD_some] at aj;refine iY<|jI (aa.ext p) k rfl z fun bg bx bl aw=>jO aw rfl<|jI (ah.ext y) v.toNat om ak fun bh bz bm ax=>jO ax rfl<|(HV (ac.1.ext y) om (fun x a4=>by have:=a5.2 x a4;omega)).mono ?_;rintro _ b1 ⟨be,bi,rfl,b0,a8,bd,t⟩;obtain ⟨bk,av,u⟩:=GP a8;have a1:=e.lt;have b4:=t.size;have b8:=p.size;refine Jt Bz rfl (e.ext t) a2 om av u.1 (fun b f ay=>by have:=(u.2 b f).1;have:=a1 b ay;omega) om om ?_;intro a' c' b2 ar an a6 a9 ab;have b5:=ab.size;refine jP (((k+1:Nat):Int)) ?_;exact ⟨k+1,om,a',g+a7.n,c',ar,rfl,om,om,by rw [aj];exact an,a6,fun b f=>by
   rcases a9 b f with o | o | o
   .exact ai b o
   .have:=(u.2 b o).1;omega
   .omega,xm (xt p t) ab (fun b f=>ai b (e.blk b f))⟩
 .obtain rfl:k=no:=om
  rw [List.take_of_length_le om] at e;exact iN ⟨_,_,_,rfl,e.le.1,e.own.arr,y⟩
theorem VZ (h:Ac AZ w a n xs) (hn2:n<=40) (hpm:p.mode=1\/p.mode=2) (hx:∀ x∈xs,x.length<=20/\(∀ m∈x,0<=m/\m<=4095)/\0<=p.col/\p.col<x.length) :
  Dq 327 [.slice a n c,.agg ⟨p.enc⟩] w (fun v w'=>∃ a' m' c',v = .slice a' m' c'/\m'<=c'/\Ac AZ w' a' m' (HC xs p)/\AD w w'):=by
 have ah:=h.len;have y:∀ b,AD w b->Dq 349 [.slice a n c,.agg ⟨p.enc⟩] b (fun v w'=>∃ a' c',v = .slice a' 13 c'/\Ac CA w' a' 13 (Cr xs p)/\AD b w'):=fun b s=>UJ (h.ext s) hn2 hpm hx;have u:∀ e∈Cr xs p,e.length<=40/\∀ x∈e,x.length<=20:=fun e l=>by
  unfold Cr at l;obtain ⟨aa,_,rfl⟩:=List.mem_map.1 l;exact ⟨by have:=List.length_filter_le (Dx p aa) xs;omega,fun x z=>(hx x (List.mem_filter.1 z).1).1⟩
 have t:∀ b a' c',Ac CA b a' 13 (Cr xs p)->Dq 348 [.slice a' 13 c',.int .i64 p.mode] b (fun v w'=>∃ a' m c',v = .slice a' m c'/\m<=c'/\Ac AZ w' a' m (HC xs p)/\AD b w'):=fun b a' c' o=>QH o hpm u;refine oV Tryz.func327 ?_;refine AB.box fun ad am ag ai j g=>dH (pB [0,2,6,8,5,11,13]) ?_;intro an d;refine dA (n:=2) g.cells rfl<|dL g.cells (k:=1) rfl<|(y _ (xt j d)).mono ?_;rintro _ ao ⟨ac,af,rfl,r,f⟩;refine ⟨(xt d f),(t _ _ _ r).mono ?_⟩;rintro _ al ⟨ab,aj,ae,rfl,ak,q,i⟩;exact ⟨(xt (xt d f) i),⟨_,_,_,rfl,om,q,(xt (xt (xt j d) f) i)⟩⟩
theorem Va {m:Nat} (h:Ac AZ w a n xs) (hn2:n<=40) (hl:A4 Ak.enc 2 w b m l) (hm2:m<=40) (hlm:∀ p∈l,p.mode=1\/p.mode=2) (hx:∀ x∈xs,x.length<=20/\(∀ m∈x,0<=m/\m<=4095)/\∀ p∈l,0<=p.col/\p.col<x.length) :
  Dq 292 [.slice a n c,.slice b m d] w (fun v w'=>∃ a' m' c',v = .slice a' m' c'/\Ac AZ w' a' m' (Ci xs l)/\AD w w'):=by
 have a3:=h.len;have a2:=hl.len;refine oV Tryz.func292 ?_;refine (HV h om (fun x o=>by have:=(hx x o).1;omega)).mono ?_;rintro _ ao ⟨aa,aw,rfl,aj,z,aq,ad⟩;have ae:Ac AZ ao aa n xs:=z.ownN.arr;refine lR [1,5,6] (fun (e:Nat) an w'=>∃ g f i,an=[.slice b m d,.slice g f i,.int .i64 e]/\e<=m/\f<=i/\Ac AZ w' g f (Ci xs (l.take e))/\AD w w') (fun e=>m - e) 0 ⟨_,_,_,rfl,om,aj,by simpa [Ci] using ae,ad⟩ ?_;rintro e ax _ ap ⟨g,f,i,rfl,az,a1,j,r⟩;rcases Nat.lt_or_ge e m with ak | ak
 .obtain ⟨p,s⟩:=AA (l:=l) (k:=e) om;have u:=List.mem_of_getElem? s;have al:=Vh (d:=xs) s;have a4:=US (l.take e) xs;have a0:=j.len;generalize af:Ci xs (l.take e)=t at *;have ag:∀ x∈t,x.length<=20/\(∀ m∈x,0<=m/\m<=4095)/\0<=p.col/\p.col<x.length:=fun x o=>by
   rw [<- af] at o;have:=hx x (UR _ _ o);exact ⟨this.1,this.2.1,this.2.2 p u⟩
  have ah:∀ q,AD ap q->Dq 327 [.slice g f i,.agg ⟨p.enc⟩] q (fun v w'=>∃ a' m' c',v = .slice a' m' c'/\m'<=c'/\Ac AZ w' a' m' (HC t p)/\AD q w'):=fun q ab=>VZ (j.ext ab) om (hlm p u) ag;refine iY<|jI (hl.ext r) e rfl s fun au a6 ay ai=>jA (n:=2) ai rfl<|(ah _ (AD.refl _)).mono ?_;rintro _ a7 ⟨ar,a5,av,rfl,am,y,ac⟩;exact jP (((e+1:Nat):Int)) ⟨e+1,om,_,_,_,rfl,om,am,by rw [al];exact y,xt r ac⟩
 .obtain rfl:e=m:=om
  rw [List.take_of_length_le om] at j;exact iN ⟨_,_,_,rfl,j,r⟩
theorem UH {f:AE} (hf:AR f 20=true) (w:World):Dq 168 [.agg ⟨f.enc⟩] w (fun v w'=>∃ a n c,v = .slice a n c/\Ab w.heap.size a/\Bs Ak.enc w' a n 193 (By f)/\AD w w'):=by
 have am:=Bc hf;have an:(CJ f:Int)=f.to_ - f.from_:=by unfold CJ;omega
 have ab:By f=WU f (CJ f):=rfl;rw [ab];refine oV Tryz.func168 ?_;refine AB.box ?_;intro x m al ar o h;refine bS EJ (vs:=[]) ?_;intro y ag z au p q;have s:An Ak.enc 2 m.heap.size 193 ag (some ⟨y,0,none⟩) 0 0 []:=Ag Aa q z;refine jL (h.ext p).cells (k:=1) rfl<|AB.sub (f.to_ - 1 - ((0:Nat):Int)) om om om<|lR [1,3,4] (fun (b:Nat) af w'=>∃ i g j,af=[.pointer (some ⟨x,0,none⟩),.slice i g j,.int .i64 (f.to_ - 1 - (b:Nat))]/\b<=CJ f/\g=2 * b/\An Ak.enc 2 m.heap.size 193 w' i g j (WU f b)/\AD m w') (fun b=>CJ f - b) 0 ⟨_,_,_,rfl,om,rfl,s,p⟩ ?_;rintro b ak _ aw ⟨i,g,j,rfl,ao,ap,e,d⟩;have ad:WU f (b+1)=WU f b++[⟨f.to_ - 1 - (b:Nat),1⟩,⟨f.to_ - 1 - (b:Nat),2⟩]:=by
  unfold WU;rw [List.range_succ,List.flatMap_append];simp
 rcases Nat.lt_or_ge b (CJ f) with ac | ac
 .refine jL (h.ext d).cells (k:=0) rfl<|iY<|AB.build T6 rfl<|AB.build T6 rfl<|bS EJ (vs:=[Value.agg #[Value.int IntKind.i64 (f.to_ - 1 - ↑b),Value.int IntKind.i64 1],Value.agg #[Value.int IntKind.i64 (f.to_ - 1 - ↑b),Value.int IntKind.i64 2]]) ?_;intro ai ax aa av l r;have t:=AH (n:=2) (enc:=Ak.enc) (xs:=[⟨f.to_ - 1 - ↑b,1⟩,⟨f.to_ - 1 - ↑b,2⟩]) Aa r aa rfl dE;exact AN (enc:=Ak.enc) EJ Aa (e.ext l) (t.own.arr Aa) (by intro az _;simp [Ak.enc,AM]) om om (Below.size (xt d l)) fun ah aj ay u ae aq=>AB.sub _ rfl om om ⟨b+1,om,_,_,_,by rw [show f.to_ - 1 - ((b:Nat):Int) - 1=f.to_ - 1 - ((b+1:Nat):Int) by omega];rfl,om,om,by rw [ad];exact u,xm (xt d l) ae (AQ e.new)⟩
 .obtain rfl:b=CJ f:=om
  exact jL (h.ext d).cells (k:=0) rfl<|iN ⟨_,_,_,rfl,(e.new.mono (Below.size o)),e.own,(xt o d)⟩
theorem Rv {b2:Option Addr} {m m2 d2:Nat} (h:Ac AZ w a n xs) (hn2:n<=40) (hl:A4 Ak.enc 2 w b m l) (hm2:m<=40) (hlm:∀ p∈l,p.mode=1\/p.mode=2) (hx:∀ x∈xs,x.length<=20/\(∀ m∈x,0<=m/\m<=4095)/\∀ p∈l,0<=p.col/\p.col<x.length) {P:List Int} (hP:A4 eI 1 w b2 m2 P) (hPx:∀ i∈P,0<=i/\i.toNat<xs.length) (hPl:P.length=(Ci xs l).length) :
  Dq 238 [.slice a n c,.slice b2 m2 d2,.slice b m d] w (fun v w'=>v = .bool (decide (Ci xs l=P.map fun i=>xs.getD i.toNat []))/\AD w w'):=by
 have b5:=h.len;have bx:=hP.len;have a9:∀ o,AD w o->Dq 292 [.slice a n c,.slice b m d] o (fun v w'=>∃ aw a0 a5,v = .slice aw a0 a5/\Ac AZ w' aw a0 (Ci xs l)/\AD o w'):=fun o j=>Va (h.ext j) hn2 (hl.ext j) hm2 hlm hx;generalize bw:Ci xs l=t at *;have b0:=h.le;obtain ⟨bg,aj,ah⟩:=h;have b4:=aj.len;refine oV Tryz.func238 ?_;refine (a9 _ (AD.refl _)).mono ?_;rintro _ bq ⟨a1,aa,a6,rfl,r,a7⟩;have b6:=r.len;have b1:=r.le;obtain ⟨a8,ak,ai⟩:=r;have b3:=ak.len;refine lR [0,1,7,8] (fun (f:Nat) bo w'=>bo=[.slice a n c,.slice b2 m2 d2,.slice a1 aa a6,.int .i64 f]/\f<=aa/\(∀ (i:Nat) x g,i<f->t[i]? = some x->P[i]? = some g->x=xs.getD g.toNat [])/\AD bq w') (fun f=>aa - f) 0 ⟨rfl,om,fun i x g aq=>by omega,AD.refl _⟩ ?_;rintro f bv _ br ⟨rfl,bz,ay,y⟩;have s:=xt a7 y;rcases Nat.lt_or_ge f aa with bc | bc
 .obtain ⟨ag,ao⟩:=AA (l:=a8) (k:=f) om;obtain ⟨x,z,ae⟩:=ai.get ao;obtain ⟨g,q⟩:=AA (l:=P) (k:=f) om;have bf:=hPx g (List.mem_of_getElem? q);obtain ⟨g,rfl⟩:∃ bj:Nat,g=bj:=⟨g.toNat,om⟩;rw [Int.toNat_natCast] at bf;obtain ⟨d2,ap⟩:=AA (l:=bg) (k:=g) om;obtain ⟨av,bh,af⟩:=ah.get ap;have az:xs.getD g []=av:=Af bh;have ad:=ae.1;have r:=af.1;have ab:∀ o,AD br o->Dq 293 [.slice ag.a ag.n ag.c,.slice d2.a d2.n d2.c] o (fun v w'=>v = .bool (decide (x=av))/\AD o w'):=fun o j=>UM (ad.ext (xt y j)) (r.ext (xt s j));by_cases ac:x=av
  .have bd:∀ (i:Nat) x g,i<f+1->t[i]? = some x->P[i]? = some g->x=xs.getD g.toNat []:=fun i bu bn aq au ar=>by
    by_cases j:i=f
    .subst j;rw [z] at au;rw [q] at ar;cases au
     cases ar
     rw [Int.toNat_natCast,az,ac]
    .exact ay i bu bn om au ar
   rw [decide_eq_true ac] at ab;clear ah ai ae af ad r;exact iY<|dH (pB [0,2,4,6,8,10,12,15,17,19,21,23,25,27,29]) fun bt e=>dI (ak.ext y) f rfl ao fun a3 bl ba am=>dL am (k:=0) rfl<|jI (hP.ext (xt s e)) f rfl q fun a4 bm bb an=>⟨e,jO an rfl ⟨e,jI (aj.ext (xt s e)) g rfl ap fun a2 bk a' al=>⟨e,jL al (k:=0) rfl ⟨e,dM (ab _ e) fun bp u=>⟨(xt e u),jP (((f+1:Nat):Int)) ⟨f+1,om,rfl,om,bd,xt y (xt e u)⟩⟩⟩⟩⟩⟩
  .have be:¬ t=P.map fun i=>xs.getD i.toNat []:=fun j=>ac (by
    have ax:=congrArg (·[f]?) j;simp only [List.getElem?_map,z,q,Option.map_some,Int.toNat_natCast,az,Option.some.injEq] at ax;exact ax)
   rw [decide_eq_false be];rw [decide_eq_false ac] at ab;clear ah ai ae af ad r;exact iY<|dH (pB [0,2,4,6,8,10,12,15,17,19,21,23,25,27,29]) fun bt e=>dI (ak.ext y) f rfl ao fun a3 bl ba am=>dL am (k:=0) rfl<|jI (hP.ext (xt s e)) f rfl q fun a4 bm bb an=>⟨e,jO an rfl ⟨e,jI (aj.ext (xt s e)) g rfl ap fun a2 bk a' al=>⟨e,jL al (k:=0) rfl ⟨e,dM (ab _ e) fun bp u=>⟨(xt e u),⟨rfl,(xt (xt s e) u)⟩⟩⟩⟩⟩⟩
 .obtain rfl:f=aa:=om
  have bi:t=P.map fun i=>xs.getD i.toNat []:=by
   apply List.ext_getElem?;intro i;rw [List.getElem?_map];by_cases aq:i<t.length
   .obtain ⟨x,z⟩:=AA aq;obtain ⟨g,q⟩:=AA (l:=P) (k:=i) om;rw [z,q,Option.map_some,ay i x g om z q]
   .rw [List.getElem?_eq_none om,List.getElem?_eq_none (l:=P) om];rfl
  rw [decide_eq_true bi];exact iN ⟨rfl,s⟩
end Go.Proofs.YtalgenmoljcnmaaGreatDoor
namespace Go.M
open Go Go.Vc
variable {d:List (List Int)}
def L7 (f:AE) (b:Option Addr) (d:Nat):List Value:=f.enc++[.slice b 1 d,.bool false]
theorem Nw (n:Int):DE [n]=BV n:=by
 unfold DE;rw [if_neg sI,Uq];rfl
theorem Xt (h:A2 d=true):1<=AJ d/\AJ d<=20:=by
 have b:=Am h;cases d with
 | nil=>exact ⟨dE,dE⟩
 | cons a c =>
  have:=Bp (b.2 a sI).1;exact ⟨this.1,this.2.1⟩
theorem Ph {f s:AE} (h:Bn d f s=0):A2 d=true/\AR f (AJ d)=true/\Ah s (AJ d)=true/\ER d s=true/\Dg d f=true:=by
 unfold Bn at h;split at h
 .cases h
 rename_i c;split at h
 .cases h
 rename_i a;split at h
 .cases h
 rename_i b;simp only [not_or,Bool.not_eq_false] at c a b;exact ⟨c,a.1,a.2,b.1,b.2⟩
end Go.M
namespace Go.Proofs.YtalgenmoljcnmaaGreatDoor
section
open Go Go.RowKit Go.Vc Go.M
variable {w:World} {a b:Option Addr} {n c g d:Nat} {xs:List (List Int)} {p:AE->Bool} {cap:List Value} {f s:AE}
theorem ME {xs:List AE} (h:A4 AE.enc 2 w a n xs)
  (hg:∀ x∈xs,∀ w',AD w w'->E2 Tryz.prog g (.agg ⟨x.enc⟩ :: cap) w' (fun v w''=>v = .bool (p x)/\AD w' w'')) :
  Dq 319 [.slice a n c,.func (.func g) ⟨[]⟩ ⟨cap⟩] w (fun v w'=>v = .int .i64 (WM p xs)/\AD w w'):=by
 have u:=h.len;have t:=h.le;refine oV Tryz.func319 ?_;refine lR [0,1,7,8] (fun (b:Nat) o w'=>o=[.slice a n c,.func (.func g) ⟨[]⟩ ⟨cap⟩,.int .i64 n,.int .i64 b]/\b<=n/\(xs.take b).any p=false/\AD w w') (fun b=>n - b) 0 ⟨rfl,om,sI,AD.refl _⟩ ?_;rintro b r _ w' ⟨rfl,s,e,d⟩;refine AF (fun k=>?_) fun k=>?_
 .obtain ⟨x,f⟩:∃ x,xs[b]? = some x:=AA om;have m:=hg x (List.mem_of_getElem? f);refine jI (h.ext d) b rfl f fun q y _ l=>jA (n:=2) l rfl<|dM (m w' d) fun z j=>BU (fun i=>?_) fun i=>?_
  .exact ⟨by rw [X4 e f i],xt d j⟩
  .exact jP (((b+1:Nat):Int)) ⟨b+1,om,rfl,om,by rw [G8 f,e,i];rfl,xt d j⟩
 ·(conv=>whnf);rw [List.take_of_length_le om] at e;exact ⟨by rw [NA e],d⟩
theorem KC {xs:List AE} (h:A4 AE.enc 2 w a n xs)
  (hg:∀ x∈xs,∀ w',AD w w'->E2 Tryz.prog g (.agg ⟨x.enc⟩ :: cap) w' (fun v w''=>v = .bool (p x)/\AD w' w'')) :
  Dq 282 [.slice a n c,.func (.func g) ⟨[]⟩ ⟨cap⟩] w (fun v w'=>v = .bool (xs.any p)/\AD w w'):=by
 refine oV Tryz.func282 ?_;refine (ME h hg).mono ?_;rintro _ e ⟨rfl,d⟩;refine ⟨?_,d⟩;congr 1;cases b:xs.any p with
 | true=>exact decide_eq_true (Oy b)
 | false=>rw [NA b];rfl
theorem OD {b:Nat} (hf:f.ok) {n:Int} (h0:0<=n) (hn:n<=1000) (hc:AK w b 0 [.int .i64 n]) :
  Dq 283 [.agg ⟨f.enc⟩,.pointer (some ⟨b,0,none⟩)] w (fun v w'=>v = .bool (!Ah f n)/\AD w w'):=by
 have g:∀ a,Dq 284 [.agg ⟨f.enc⟩,.int .i64 n] a (fun v w'=>v = .bool (Ah f n)/\AD a w'):=fun a=>H7 hf h0 hn a;refine oV Tryz.func283 ?_;refine AB.box ?_;intro h l i j c d;refine jA (n:=2) d.cells rfl<|jL (hc.ext c) (k:=0) rfl<|dM (g _) fun m e=>?_;exact ⟨rfl,(xt c e)⟩
theorem PX (hf:f.ok) (hs:s.ok) (hA:A4 AE.enc 2 w b 1 [s]) (h0:1<=n) (hn:n<=20) :
  Dq 222 [.agg ⟨L7 f b d⟩,.int .i64 n] w (fun v w'=>v = .bool (AR f n && Ah s n)/\AD w w'):=by
 have ae:Ey (n:Int) 1 20=true:=by simp [Ey];omega
 have r:∀ a,Dq 85 [.int .i64 n,.int .i64 1,.int .i64 20] a (fun v w'=>v = .bool true/\a=w'):=fun a=>by
  have:=CD n 1 20 a;rw [ae] at this;exact this
 have o:∀ a,Dq 208 [.agg ⟨f.enc⟩,.int .i64 n] a (fun v w'=>v = .bool (AR f n)/\AD a w'):=fun a=>DX f n a;have ac:∀ a l,AD w a->AK a l 0 [.int .i64 n]->Dq 282 [.slice b 1 d,.func (.func 283) ⟨[]⟩ ⟨[.pointer (some ⟨l,0,none⟩)]⟩] a (fun v w'=>v = .bool (!Ah s n)/\AD a w'):=fun a l y ad=>by
  have:=KC (c:=d) (cap:=[.pointer (some ⟨l,0,none⟩)]) (hA.ext y) (p:=fun q=>!Ah q n) (g:=283) (fun q af w' e=>by
   obtain rfl:q=s:=by simpa using af
   exact OD hs om om (ad.ext e))
  simpa using this
 cases t:AR f n
 .rw [t] at o;simp only [Bool.false_and];refine oV Tryz.func222 ?_;refine AB.box ?_;intro u ai aa ag m j;refine AB.box fun x aj ab ah e i=>jL i.cells (k:=0) rfl<|(r _).mono ?_;rintro _ _ ⟨rfl,rfl⟩;refine jG (n:=2) (k:=0) (j.ext e).cells rfl ?_;refine jL i.cells (k:=0) rfl ?_;exact dM (o _) fun ak h=>⟨rfl,(xt (xt m e) h)⟩
 .rw [t] at o;simp only [Bool.true_and];refine oV Tryz.func222 ?_;refine AB.box ?_;intro u ai aa ag m j;refine AB.box ?_;intro x aj ab ah e i;refine jL i.cells (k:=0) rfl<|(r _).mono ?_;rintro _ _ ⟨rfl,rfl⟩;refine jG (n:=2) (k:=0) (j.ext e).cells rfl ?_;refine jL i.cells (k:=0) rfl ?_;refine (o _).mono ?_;rintro _ ak ⟨rfl,h⟩;refine jL (j.ext (xt e h)).cells (k:=2) rfl<|jL (j.ext (xt e h)).cells (k:=2) rfl<|(ac _ _ (xt (xt m e) h) (i.ext h).cells).mono ?_;rintro _ al ⟨rfl,z⟩;exact ⟨by simp [*],(xt (xt (xt m e) h) z)⟩
theorem Qv (h:Ac AZ w a n xs) (hf:f.ok) (hs:s.ok) (hA:A4 AE.enc 2 w b 1 [s]) :
  Dq 147 [.agg ⟨L7 f b d⟩,.slice a n c] w (fun v w'=>v = .int .i64 (Bn xs f s)/\AD w w'):=by
 have z:∀ g,AD w g->Dq 111 [.slice a n c] g (fun v w'=>v = .bool (A2 xs)/\AD g w'):=fun g q=>Dy (h.ext q);cases t:A2 xs
 .rw [t] at z;have u:Bn xs f s=1:=by simp [Bn,t]
  rw [u];refine oV Tryz.func147 ?_;refine AB.box fun ba bp be bi al a9=>(z _ al).mono ?_;rintro _ a7 ⟨rfl,aa⟩;exact ⟨rfl,(xt al aa)⟩
 .rw [t] at z;have am:=Xt t;have ab:∀ g,AD w g->Dq 222 [.agg ⟨L7 f b d⟩,.int .i64 (AJ xs)] g (fun v w'=>v = .bool (AR f (AJ xs) && Ah s (AJ xs))/\AD g w'):=fun g q=>PX hf hs (hA.ext q) am.1 am.2;have af:∀ g,AD w g->Dq 209 [.slice a n c] g (fun v w'=>v = .int .i64 (AJ xs)/\AD g w'):=fun g q=>DP (h.ext q);cases p:(AR f (AJ xs) && Ah s (AJ xs))
  .rw [p] at ab;have u:Bn xs f s=2:=by
    unfold Bn;rw [if_neg (by simp [t]),if_pos (by cases bh:AR f (AJ xs)<;>simp_all)]
   rw [u];refine oV Tryz.func147 ?_;refine AB.box ?_;intro bb bq bf bj aa au;refine dM (z _ aa) fun ap r=>?_;refine dH (pB [0,3,5,7,9,11]) fun a8 i=>dA (n:=4) (au.ext r).cells rfl ?_;refine dM (af _ (xt (xt aa r) i)) fun ar o=>⟨(xt i o),?_⟩;exact dM (ab _ (xt (xt (xt aa r) i) o)) fun ao l=>⟨(xt (xt i o) l),⟨rfl,(xt (xt (xt (xt aa r) i) o) l)⟩⟩
  .rw [p] at ab;rw [Bool.and_eq_true] at p;have ac:∀ g,AD w g->Dq 223 [.slice b 1 d,.slice a n c] g (fun v w'=>∃ ai an ax,v = .tuple #[.slice ai an ax,.bool (ER xs s)]/\(ER xs s=true->an=1/\Ab g.heap.size ai/\Bs eI w' ai 1 2 [Dv xs s])/\AD g w'):=fun g q=>IW (h.ext q) (hA.ext q) t p.2;have ae:∀ g,AD w g->Dq 210 [.slice a n c,.agg ⟨f.enc⟩] g (fun v w'=>v = .bool (Dg xs f)/\AD g w'):=fun g q=>FM (h.ext q) t p.1;cases ag:ER xs s
   .rw [ag] at ac;have u:Bn xs f s=8:=by
     unfold Bn;rw [if_neg (by simp [t]),if_neg (by simp [p.1,p.2]),if_pos (by simp [ag])]
    rw [u];refine oV Tryz.func147 ?_;refine AB.box ?_;intro bc a7 bg bk r ak;refine dM (z _ r) fun a8 j=>?_;refine dH (pB [0,3,5,7,9,11]) fun aq o=>dA (n:=4) (ak.ext j).cells rfl ?_;refine dM (af _ (xt (xt r j) o)) fun br e=>⟨(xt o e),?_⟩;refine dM (ab _ (xt (xt (xt r j) o) e)) fun bn ad=>⟨(xt (xt o e) ad),jL (ak.ext (xt (xt (xt j o) e) ad)).cells (k:=2) rfl<|(ac _ (xt (xt (xt (xt r j) o) e) ad)).mono ?_⟩;rintro _ bo ⟨a',bl,bd,rfl,bm,az⟩;exact ⟨rfl,(xt (xt (xt (xt (xt r j) o) e) ad) az)⟩
   .rw [ag] at ac;cases ah:Dg xs f
    .rw [ah] at ae;have u:Bn xs f s=8:=by
      unfold Bn;rw [if_neg (by simp [t]),if_neg (by simp [p.1,p.2]),if_pos (by simp [ah])]
     rw [u];refine oV Tryz.func147 ?_;refine AB.box ?_;intro aw ap a0 a1 j x;refine dM (z _ j) fun aq i=>?_;refine dH (pB [0,3,5,7,9,11]) fun ar e=>dA (n:=4) (x.ext i).cells rfl ?_;refine dM (af _ (xt (xt j i) e)) fun ao l=>⟨(xt e l),?_⟩;refine dM (ab _ (xt (xt (xt j i) e) l)) fun a4 m=>⟨(xt (xt e l) m),jL (x.ext (xt (xt (xt i e) l) m)).cells (k:=2) rfl<|(ac _ (xt (xt (xt (xt j i) e) l) m)).mono ?_⟩;rintro _ a5 ⟨av,a2,ay,rfl,a3,y⟩;exact jG (n:=2) (k:=0) (x.ext (xt (xt (xt (xt i e) l) m) y)).cells rfl<|dM (ae _ (xt (xt (xt (xt (xt j i) e) l) m) y)) fun a6 aj=>⟨rfl,(xt (xt (xt (xt (xt (xt j i) e) l) m) y) aj)⟩
    .rw [ah] at ae;have u:Bn xs f s=0:=by
      unfold Bn;rw [if_neg (by simp [t]),if_neg (by simp [p.1,p.2]),if_neg (by simp [ag,ah])]
     rw [u];refine oV Tryz.func147 ?_;refine AB.box ?_;intro aw ap a0 a1 j x;refine dM (z _ j) fun aq i=>?_;refine dH (pB [0,3,5,7,9,11]) fun ar e=>dA (n:=4) (x.ext i).cells rfl ?_;refine dM (af _ (xt (xt j i) e)) fun ao l=>⟨(xt e l),?_⟩;refine dM (ab _ (xt (xt (xt j i) e) l)) fun a4 m=>⟨(xt (xt e l) m),jL (x.ext (xt (xt (xt i e) l) m)).cells (k:=2) rfl<|(ac _ (xt (xt (xt (xt j i) e) l) m)).mono ?_⟩;rintro _ a5 ⟨av,a2,ay,rfl,a3,y⟩;exact jG (n:=2) (k:=0) (x.ext (xt (xt (xt (xt i e) l) m) y)).cells rfl<|dM (ae _ (xt (xt (xt (xt (xt j i) e) l) m) y)) fun a6 aj=>⟨rfl,(xt (xt (xt (xt (xt (xt j i) e) l) m) y) aj)⟩
theorem M0 (h:Ac AZ w a n xs) (hA:A4 AE.enc 2 w b 1 [s]) (hd:A2 xs=true) (hs:Ah s (AJ xs)=true) (hn:ER xs s=true) (hT:GR w) :
  Dq 150 [.agg ⟨L7 f b d⟩,.slice a n c] w (fun v w'=>v = .string (BV (Dv xs s))/\AD w w'):=by
 have p:=Am hd;have ak:=JP (d:=xs) (f:=s) (fun c z=>(Im (by rw [(p.2 c z).2];exact hs)).1) p.1;have y:∀ e,AD w e->Dq 223 [.slice b 1 d,.slice a n c] e (fun v w'=>∃ g l i,v = .tuple #[.slice g l i,.bool true]/\(l=1/\Ab e.heap.size g/\Bs eI w' g 1 2 [Dv xs s])/\AD e w'):=fun e j=>by
  have:=IW (d:=d) (c:=c) (h.ext j) (hA.ext j) hd hs;rw [hn] at this;refine this.mono ?_;rintro v w' ⟨g,l,i,ab,ac,ad⟩;exact ⟨g,l,i,ab,ac rfl,ad⟩
 have x:∀ e g i,AD w e->Bs eI e g 1 2 [Dv xs s]->Dq 134 [.slice g 1 i] e (fun v w'=>v = .string (BV (Dv xs s))/\AD e w'):=fun e g i j r=>by
  have:=M6 (c:=i) (r.arr AI) (by intro ae aa;obtain rfl:ae=Dv xs s:=(by simpa using aa);exact ⟨om,om⟩) om (hT.ext j);rw [Nw] at this;exact this
 refine oV Tryz.func150 ?_;refine AB.box ?_;intro ah an aj al m q;refine jL q.cells (k:=2) rfl<|(y _ m).mono ?_;rintro _ ap ⟨ag,am,ai,rfl,⟨rfl,af,t⟩,o⟩;exact dM (x _ _ _ (xt m o) t) fun ao u=>⟨rfl,(xt (xt m o) u)⟩
theorem M5 (h:Ac AZ w a n xs) (hnc:n<=c) (hfo:f.ok) (hso:s.ok) (hA:A4 AE.enc 2 w b 1 [s]) (hT:GR w) :
  Dq 81 [.agg ⟨L7 f b d⟩,.slice a n c] w (fun v w'=>∃ a' m c',v = .tuple #[.slice a' m c',.int .i64 (HK xs f s).2]/\An eS 1 w.heap.size 9 w' a' m c' (HK xs f s).1/\m<=41/\AD w w'):=by
 have d4:=h.len;have d2:=h.le;have a6:∀ g,AD w g->Dq 147 [.agg ⟨L7 f b d⟩,.slice a n c] g (fun v w'=>v = .int .i64 (Bn xs f s)/\AD g w'):=fun g q=>Qv (h.ext q) hfo hso (hA.ext q);by_cases ay:Bn xs f s=0
 .have ac:HK xs f s=(((Bj xs f).map fun o=>Fv o f s)++[bs [42,42,32]++BV (Dv xs s)],0):=by simp [HK,ay]
  rw [ac];rw [ay] at a6;obtain ⟨bb,cw,av,b1,c1⟩:=Ph ay;have ai:=Am bb;have ck:=ai.1;have bw:∀ aa∈xs,AR f aa.length=true:=fun aa ak=>by rw [(ai.2 aa ak).2];exact cw
  have bq:∀ aa∈xs,aa.length<=20:=fun aa ak=>(Bp (ai.2 aa ak).1).2.1;have cp:∀ g,AD w g->Dq 148 [.slice a n c,.agg ⟨f.enc⟩] g (fun v w'=>∃ a' m c',v = .slice a' m c'/\(∀ be,BP (fun e=>¬ Iv g.heap.size w'.heap.size e) w' be->Ac AZ be a n xs->Ac CA be a' m (Bj xs f))/\AD g w'):=fun g q=>Ox (h.ext q) bw om hnc;have dz:=Hk xs f;have d7:=JP (d:=xs) (f:=s) (fun c ba=>(Im (by rw [(ai.2 c ba).2];exact av)).1) ck;refine oV Tryz.func81 ?_;refine AB.box ?_;intro bk ej dq ea an ab;refine jA (n:=4) ab.cells rfl<|dM (a6 _ an) fun b5 t=>?_;refine bS BK (vs:=[]) ?_;intro ce b6 ch eb ao b8;have b':=Ag (enc:=eS) AP b8 ch;refine jG (n:=2) (k:=0) (ab.ext (xt t ao)).cells rfl<|(cp _ (xt (xt an t) ao)).mono ?_;rintro _ az ⟨bj,x,bl,rfl,b4,ap⟩;have d3:x=(Bj xs f).length:=by
   have cm:=xt (xt (xt an t) ao) ap;have:=(b4 az (Vc.BP.refl _ _) (h.ext cm)).len;omega
  have ep:=ap.size;refine lR [1,2,7,23,24,25] (fun (i:Nat) bf w'=>∃ ad al,bf=[.slice a n c,.pointer (some ⟨bk,0,none⟩),.slice ad i al,.slice bj x bl,.int .i64 x,.int .i64 i]/\i<=x/\An eS 1 b5.heap.size 9 w' ad i al (((Bj xs f).take i).map fun o=>Fv o f s)/\(∀ e,AL ad e->e<b6.heap.size\/az.heap.size<=e)/\BP (fun e=>¬ Iv b6.heap.size az.heap.size e) az w'/\AD b5 w') (fun i=>x - i) 0 ⟨_,_,rfl,om,by simpa using b'.ext ap,?_,Vc.BP.refl _ _,xt ao ap⟩ ?_
  .rintro e ⟨aa,ak,ac⟩;cases ak
   have ac:e=ce:=ac;omega
  have a1:=xt an t;rintro i o _ bg ⟨ad,al,rfl,aj,ag,bz,a2,u⟩;have ah:=xt a1 u;rcases Nat.lt_or_ge i x with c3 | c3
  .obtain ⟨o,bc⟩:=AA (l:=Bj xs f) (k:=i) om;obtain ⟨bx,cy,ar⟩:=RE bc;obtain ⟨cx,cz⟩:=RF bb bx cy ar;obtain ⟨j,aw⟩:=AA (l:=o) (k:=0) (List.length_pos_iff.2 bx);have ax:=ar j (List.mem_of_getElem? aw);have c0:EV o f=Cf (AS f j):=by unfold EV;rw [Q9 aw]
   have b0:=Cz (fun o=>Fv o f s) bc;have c4:Fv o f s=bs [42]++Cf (AS f j)++bs [32]++BV (Dv o s):=by unfold Fv;rw [c0]
   rw [c4] at b0;obtain ⟨cj,br,cn⟩:=b4 bg a2 (h.ext ah);have du:=br.len;obtain ⟨p,bt⟩:=AA (l:=cj) (k:=i) om;have bh:=cn.2 i p _ bt bc;have cq:∀ g,AD bg g->Dq 150 [.agg ⟨L7 f b d⟩,.slice p.a p.n p.c] g (fun v w'=>v = .string (BV (Dv o s))/\AD g w'):=fun g q=>M0 (bh.1.ext q) (hA.ext (xt ah q)) cx (by rw [cz];exact av) (MB b1 ar) (hT.ext (xt ah q));obtain ⟨b2,a8,a7⟩:=bh.1;have d1:=a8.len;have d5:=a7.1;have d0:=(List.getElem?_eq_some_iff.1 aw).1;obtain ⟨bm,bu⟩:=AA (l:=b2) (k:=0) om;have bi:=a7.2 0 bm j bu aw;have co:∀ g,AD bg g->Dq 149 [.agg ⟨eH bm⟩,.agg ⟨f.enc⟩] g (fun v w'=>v = .string (Cf (AS f j))/\AD g w'):=fun g q=>Kq ⟨bi.1.ext q,bi.2⟩ (bw j ax) (bq j ax) (WO c1 j ax);have d6:=JP (d:=o) (f:=s) (fun c ba=>(Im (by rw [(ai.2 c (ar c ba)).2];exact av)).1) om;have cv:=Bh (n:=Dv o s) om om;have d8:=I1 (AS f j);have dy:(AS f j).length<=20:=by
    have:=bq j ax;have dr:(AS f j).length=(Ad j f).length:=by simp [AS,CO]
    have ds:(Ad j f).length<=j.length:=by unfold Ad;simp;omega
    omega
   generalize dt:Cf (AS f j)=bd at *;generalize cl:BV (Dv o s)=dec at *;refine iY<|jI br i rfl bt fun dj ed dv cs=>jO cs rfl<|dH (pB [0,2,4,7,9,11,13]) fun en ae=>dI a8 0 rfl bu fun dk ee dw ct=>dA (n:=1) ct rfl<|jG (n:=2) (k:=0) (ab.ext (xt (xt t u) ae)).cells rfl ⟨ae,dM (co _ ae) fun c9 bo=>⟨(xt ae bo),lR [1,2,7,9,10,23,24,25,35,36,37] (fun (e:Nat) bf w'=>bf=[.slice a n c,.pointer (some ⟨bk,0,none⟩),.slice ad i al,.slice p.a p.n p.c,.string bd,.slice bj x bl,.int .i64 x,.int .i64 i,.slice p.a p.n p.c,.int .i64 p.n,.int .i64 e]/\e<=p.n/\AD c9 w') (fun e=>p.n - e) 0 ⟨rfl,om,AD.refl _⟩ ?_⟩⟩;rintro e dn _ eh ⟨rfl,au,a9⟩;have r:=xt (xt ae bo) a9;rcases Nat.lt_or_ge e p.n with c2 | c2
   .obtain ⟨am,bv⟩:=AA (l:=b2) (k:=e) om;obtain ⟨dc,c5⟩:=AA (l:=o) (k:=e) om;have de:=a7.2 e am dc bv c5;exact iY<|jI (a8.ext r) e rfl bv fun dl ef dx cu=>jA (n:=1) cu rfl<|jN (z := .agg #[.slice none 0 0]) fun cf da aq c7 y a0=>jS (vs:=[Value.slice am.a am.n am.c]) a0 rfl rfl cE fun db a3 dd=>jL (ab.ext (xb (xt (xt (xt t u) r) y) a3.but (nB (xt (xt t u) r) aq))).cells (k:=3) rfl<|jP (((e+1:Nat):Int)) ⟨e+1,om,rfl,om,(xb (xt a9 y) a3.but (nB a9 aq))⟩
   .obtain rfl:e=p.n:=om
    refine iN<|Ax sO<|Ax sO<|jA (n:=4) (ab.ext (xt (xt t u) r)).cells rfl<|dM (cq _ r) fun eo af=>Ax sO<|bS BK (vs:=[Value.string ({ data := #[42] }++bd++{ data := #[32] }++dec)]) ?_;intro cf da aq c7 y a0;have cc:=AH (n:=1) (enc:=eS) (xs:=[{ data := #[42] }++bd++{ data := #[32] }++dec]) AP a0 aq rfl dE;refine AN (enc:=eS) BK AP (ag.ext (xt (xt r af) y)) (cc.own.arr AP) (by intro j _;simp [eS,AM]) om om (Below.size (xt (xt (xt u r) af) y)) fun dg a3 db cd b3 c6=>jP (((i+1:Nat):Int)) ⟨i+1,om,_,_,rfl,om,?_,?_,?_,(xm (xt (xt (xt u r) af) y) b3 (AQ ag.new))⟩
    .rw [b0];exact cd
    .intro e au;rcases c6 e au with bp | bp
     .exact bz e bp
     .have:=a2.size;have:=Below.size (xt (xt r af) y);omega
    .exact a2.trans ((AD.mod (xt (xt r af) y)).trans (b3.mono fun e au aj=>by
      have:=bz e au;have:=aj.1;have:=aj.2;omega))
  .obtain rfl:i=x:=om
   rw [List.take_of_length_le om] at ag;have cv:=Bh (n:=Dv xs s) om om;have cr:∀ g,AD w g->Dq 150 [.agg ⟨L7 f b d⟩,.slice a n c] g (fun v w'=>v = .string (BV (Dv xs s))/\AD g w'):=fun g q=>M0 (h.ext q) (hA.ext q) bb av b1 (hT.ext q);generalize cl:BV (Dv xs s)=dec at *;refine iN<|jA (n:=4) (ab.ext (xt t u)).cells rfl<|dM (cr _ ah) fun ek a4=>Ax sO<|bS BK (vs:=[Value.string ({ data := #[42,42,32] }++dec)]) ?_;intro di el ci ec a5 b9;have ca:=AH (n:=1) (enc:=eS) (xs:=[{ data := #[42,42,32] }++dec]) AP b9 ci rfl dE;exact AN (enc:=eS) BK AP (ag.ext (xt a4 a5)) (ca.own.arr AP) (by intro j _;simp [eS,AM]) om om (Below.size (xt (xt u a4) a5)) fun df dm em cb c8 d9=>⟨_,_,_,rfl,(cb.base (Below.size a1)),om,(xm (xt (xt ah a4) a5) c8 (fun i aj=>Nat.le_trans (Below.size a1) (AQ ag.new i aj)))⟩
 .have ac:HK xs f s=([],Bn xs f s):=by simp [HK,ay]
  rw [ac];refine oV Tryz.func81 ?_;refine AB.box ?_;intro dh eg dp d' bn b7;refine jA (n:=4) b7.cells rfl<|dM (a6 _ bn) fun ei cg=>?_;refine iT ?_;refine ⟨_,_,_,rfl,?_,om,(xt bn cg)⟩
  .exact An.nil
end
section
open Go Go.RowKit Go.Vc Go.M
def deskWordsM:List ByteArray:=[bs [99,97,114,100],bs [99,108,101,97,114],bs [102,105,114,115,116],bs [108,111,103],bs [109,97,116,99,104],bs [109,101,114,103,101],bs [110,111,116,101],bs [112,97,115,115,101,115],bs [114,101,115,116],bs [115,101,108,101,99,116],bs [115,104,111,119],bs [115,111,114,116],bs [116,97,98],bs [116,111,116,97,108]]
def aG2 (w:World) (xs:List ByteArray) (v:Value) (w':World):Prop:=∃ b n c,v = .slice (some ⟨b,0,none⟩) n c/\w.heap.size<=b/\AD w w'/\Bs eS w' (some ⟨b,0,none⟩) n 9 xs
theorem Q7 (w:World):Dq 32 [] w (aG2 w deskWordsM):=by
 refine oV Tryz.func32 ?_;refine AB.buildSlice BK (deskWordsM.map .string) rF rF (by simp [Value.cells,deskWordsM]) dE ?_;intro a f d e b c;exact ⟨a,14,14,rfl,d,b,rfl,om,.inr ⟨a,[],rfl,c⟩⟩
attribute [irreducible] deskWordsM
end
end Go.Proofs.YtalgenmoljcnmaaGreatDoor
