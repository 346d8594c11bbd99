/- Parts of the proof; no conditions of its own. -/
import Derived.Test.YtalgenmoljcnmaaGreatDoorRefB
import Derived.Test.YtalgenmoljcnmaaGreatDoorPass
import Derived.Test.YtalgenmoljcnmaaGreatDoorSteps
import Derived.Test.YtalgenmoljcnmaaGreatDoorNum
import Derived.Test.YtalgenmoljcnmaaGreatDoorVcApp
namespace Go.M
open Go Go.Vc
variable {k:Nat}
theorem aD2 {m:Int} (h0:0<=m) (h1:m<=4095) (hk:k<9):FM .i64 m (CC ((k+1:Nat):Int))=if DT m (k+3)=true then CC ((k+1:Nat):Int) else 0:=by
 obtain ⟨a,rfl⟩:∃ a:Nat,m=a:=⟨m.toNat,om⟩;rcases (show k=0\/k=1\/k=2\/k=3\/k=4\/k=5\/k=6\/k=7\/k=8 by omega) with rfl | rfl | rfl | rfl | rfl | rfl | rfl | rfl | rfl
 .exact FP (p:=fun a=>FM .i64 (a:Int) (CC ((0+1:Nat):Int))=if DT (a:Int) (0+3)=true then CC ((0+1:Nat):Int) else 0) (by decide +kernel) om
 .exact FP (p:=fun a=>FM .i64 (a:Int) (CC ((1+1:Nat):Int))=if DT (a:Int) (1+3)=true then CC ((1+1:Nat):Int) else 0) (by decide +kernel) om
 .exact FP (p:=fun a=>FM .i64 (a:Int) (CC ((2+1:Nat):Int))=if DT (a:Int) (2+3)=true then CC ((2+1:Nat):Int) else 0) (by decide +kernel) om
 .exact FP (p:=fun a=>FM .i64 (a:Int) (CC ((3+1:Nat):Int))=if DT (a:Int) (3+3)=true then CC ((3+1:Nat):Int) else 0) (by decide +kernel) om
 .exact FP (p:=fun a=>FM .i64 (a:Int) (CC ((4+1:Nat):Int))=if DT (a:Int) (4+3)=true then CC ((4+1:Nat):Int) else 0) (by decide +kernel) om
 .exact FP (p:=fun a=>FM .i64 (a:Int) (CC ((5+1:Nat):Int))=if DT (a:Int) (5+3)=true then CC ((5+1:Nat):Int) else 0) (by decide +kernel) om
 .exact FP (p:=fun a=>FM .i64 (a:Int) (CC ((6+1:Nat):Int))=if DT (a:Int) (6+3)=true then CC ((6+1:Nat):Int) else 0) (by decide +kernel) om
 .exact FP (p:=fun a=>FM .i64 (a:Int) (CC ((7+1:Nat):Int))=if DT (a:Int) (7+3)=true then CC ((7+1:Nat):Int) else 0) (by decide +kernel) om
 .exact FP (p:=fun a=>FM .i64 (a:Int) (CC ((8+1:Nat):Int))=if DT (a:Int) (8+3)=true then CC ((8+1:Nat):Int) else 0) (by decide +kernel) om
def VX (f:AF) (n:Nat):List Ag:=(List.range n).flatMap fun (i:Nat)=>[⟨f.to_ - 1 - i,1⟩,⟨f.to_ - 1 - i,2⟩]
theorem aD0 (hk:k<9):¬ CC ((k+1:Nat):Int)=0:=by
 rcases (show k=0\/k=1\/k=2\/k=3\/k=4\/k=5\/k=6\/k=7\/k=8 by omega) with rfl | rfl | rfl | rfl | rfl | rfl | rfl | rfl | rfl<;>decide
end Go.M
namespace Go.Proofs.YtalgenmoljcnmaaGreatDoor
open Go Go.RowKit Go.Vc Go.M
variable {m mode:Int} {w:World} {p:Ag} {a b:Option Addr} {n c d:Nat} {xs:List (List Int)} {l:List Ag}
theorem Pa (h0:0<=m) (h1:m<=4095) (w:World):Dq 361 [.int .i64 m] w (fun v w'=>v = .int .i64 (Ci m 1)/\AD w w'):=by
 have p:Ci m 1=(match Ia 9 m with | some o=>(o:Int) | none=>if m=4 then 0 else 12):=if_pos rfl;rw [p];have n:CC 0=4:=dE
 refine oV Tryz.func361 ?_;refine lR [0,3] (fun (a:Nat) s w'=>s=[.int .i64 m,.int .i64 a]/\a<=9/\Ia 9 m=Ia a m/\AD w w') (fun a=>a) 9 ⟨rfl,om,rfl,AD.refl _⟩ ?_;rintro a u _ aa ⟨rfl,y,i,b⟩;rcases Nat.eq_zero_or_pos a with rfl | z
 .have q:Ia 9 m=none:=by rw [i];rfl
  rw [q];dsimp only;by_cases g:m=4
  .rw [if_pos g];subst g;refine (Dk _ _).mono ?_;rintro _ j ⟨rfl,f⟩;rw [n];exact ⟨rfl,xt b f⟩
  .rw [if_neg g];refine (Dk _ _).mono ?_;rintro _ j ⟨rfl,f⟩;rw [n];refine iN ?_;exact ⟨rfl,xt b f⟩
 .obtain ⟨a,rfl⟩:∃ r,a=r+1:=⟨a - 1,om⟩;have hand:=aD2 h0 h1 (k:=a) om;have x:=aD0 (k:=a) om;have l:∀ d,Dq 232 [.int .i64 ((a+1:Nat):Int)] d (fun v w'=>v = .int .i64 (CC ((a+1:Nat):Int))/\AD d w'):=fun d=>Dk _ d;generalize CC ((a+1:Nat):Int)=t at *;cases c:DT m (a+3)
  .have h:Ia 9 m=Ia a m:=by rw [i];exact if_neg (by simp [c])
   rw [c,if_neg sI] at hand;refine iY ?_;refine (l _).mono ?_;rintro _ j ⟨rfl,e⟩;refine AB.and ?_;refine iF ?_;refine AB.sub (((a:Nat):Int)) om om om ?_;exact ⟨a,om,rfl,om,h,xt b e⟩
  .have h:Ia 9 m=some (a+1):=by rw [i];exact if_pos c
   rw [c,if_pos rfl] at hand;rw [h];dsimp only;refine iY ?_;refine (l _).mono ?_;rintro _ j ⟨rfl,e⟩;refine AB.and ?_;refine iT ?_;exact ⟨rfl,(xt b e)⟩
theorem Qy (h0:0<=m) (h1:m<=4095) (w:World):Dq 362 [.int .i64 m] w (fun v w'=>v = .int .i64 (Ci m 2)/\AD w w'):=by
 have g:=aB6 h0 h1;have h:=aB5 h0 h1;have i:=aB4 h0 h1;have n:Ci m 2=if DT m 0=true then 11 else if DT m 1=true then 10 else if DT m 2=true/\¬ m / 8=0 then 0 else if ¬ m=0 then 1 else 12:=if_neg dE
 rw [n];cases d:DT m 0
 .rw [d,if_neg sI] at g;rw [if_neg sI];cases e:DT m 1
  .rw [e,if_neg sI] at h;rw [if_neg sI];cases a:DT m 2
   .rw [a,if_neg sI] at i;rw [if_neg sI];by_cases b:m=0
    .rw [if_neg (by simp [b])];refine oV Tryz.func362 ?_;refine AB.and ?_;refine Ak (fun k=>?_) fun k=>?_
     .exact ⟨om,AD.refl _⟩
     .refine AB.and ?_;refine Ak (fun l=>?_) fun l=>?_
      .exact ⟨om,AD.refl _⟩
      .refine AB.and ?_;refine Ak (fun c=>?_) fun c=>?_
       .refine iY ?_;exact ⟨om,AD.refl _⟩
       .refine iF ?_;exact ⟨rfl,AD.refl _⟩
    .rw [if_pos b];refine oV Tryz.func362 ?_;refine AB.and ?_;refine iF ?_;refine AB.and ?_;refine iF ?_;refine AB.and ?_;refine iF ?_;refine iT ?_;exact ⟨rfl,AD.refl _⟩
   .rw [a,if_pos rfl] at i;have b:¬ m=0:=fun j=>by rw [j] at a;revert a;decide
    by_cases f:m / 8=0
    .rw [if_neg (by simp [f]),if_pos b];have c:m<=7:=om
     refine oV Tryz.func362 ?_;refine AB.and ?_;refine iF ?_;refine AB.and ?_;refine iF ?_;refine AB.and ?_;refine iT ?_;refine iN ?_;refine iT ?_;exact ⟨rfl,AD.refl _⟩
    .rw [if_pos ⟨rfl,f⟩];have c:7<m:=om
     refine oV Tryz.func362 ?_;refine AB.and ?_;refine iF ?_;refine AB.and ?_;refine iF ?_;refine AB.and ?_;refine iT ?_;refine iY ?_;exact ⟨rfl,AD.refl _⟩
  .rw [e,if_pos rfl] at h;rw [if_pos rfl];refine oV Tryz.func362 ?_;refine AB.and ?_;refine iF ?_;refine AB.and ?_;refine iT ?_;exact ⟨rfl,AD.refl _⟩
 .rw [d,if_pos rfl] at g;rw [if_pos rfl];refine oV Tryz.func362 ?_;refine AB.and ?_;refine iT ?_;exact ⟨rfl,AD.refl _⟩
theorem PY {b o:Nat} {d:Hd} {xs:List Int} (A:A4 eI 1 w d.a d.n xs) (hc:AK w b o (eH d)) (hp:0<=p.col/\p.col<xs.length) (hm:p.mode=1\/p.mode=2) {v:Int} (hv:xs[p.col.toNat]? = some v) (hvb:0<=v/\v<=4095) :
  Dq 359 [.pointer (some ⟨b,o,none⟩),.agg ⟨p.enc⟩] w (fun v' w'=>v' = .int .i64 (Ci v p.mode)/\AD w w'):=by
 have r:∀ e,Dq 361 [.int .i64 v] e (fun v' w'=>v' = .int .i64 (Ci v 1)/\AD e w'):=fun e=>Pa hvb.1 hvb.2 e;have s:∀ e,Dq 362 [.int .i64 v] e (fun v' w'=>v' = .int .i64 (Ci v 2)/\AD e w'):=fun e=>Qy hvb.1 hvb.2 e;obtain ⟨col,mode⟩:=p;simp only at hp hm hv;obtain ⟨i,rfl⟩:∃ i:Nat,col=i:=⟨col.toNat,om⟩;rw [Int.toNat_natCast] at hv;simp only;rcases hm with rfl | rfl
 .refine oV Tryz.func359 ?_;refine AB.box ?_;intro l y q u f g;refine jL g.cells (k:=1) rfl ?_;refine dH (pB [0,2,4,6,9,11,13,15,17,19]) ?_;intro z c;refine dL (hc.ext f) (k:=0) rfl ?_;refine jL (g.ext c).cells (k:=0) rfl ?_;refine ⟨c,?_⟩;refine jI (A.ext (xt f c)) i rfl hv ?_;intro m x t j;refine ⟨c,?_⟩;refine jO j rfl ?_;refine ⟨c,?_⟩;refine (r _).mono ?_;rintro _ aa ⟨rfl,h⟩;refine ⟨(xt c h),?_⟩;exact ⟨rfl,(xt (xt f c) h)⟩
 .refine oV Tryz.func359 ?_;conv=>whnf
  refine AB.box ?_;intro l y q u f g;refine jL g.cells (k:=1) rfl ?_;refine dH (pB [0,2,4,6,9,11,13,15,17,19]) ?_;intro z c;refine dL (hc.ext f) (k:=0) rfl ?_;refine jL (g.ext c).cells (k:=0) rfl ?_;refine ⟨c,?_⟩;refine jI (A.ext (xt f c)) i rfl hv ?_;intro m x t j;refine ⟨c,?_⟩;refine jO j rfl ?_;refine ⟨c,?_⟩;refine (s _).mono ?_;rintro _ aa ⟨rfl,h⟩;refine ⟨(xt c h),?_⟩;exact ⟨rfl,(xt (xt f c) h)⟩
theorem TN (h:Ar Aa w a n xs) (hn2:n<=40) (hpm:p.mode=1\/p.mode=2) (hx:∀ x∈xs,x.length<=20/\(∀ m∈x,0<=m/\m<=4095)/\0<=p.col/\p.col<x.length) :
  Dq 349 [.slice a n c,.agg ⟨p.enc⟩] w (fun v w'=>∃ a' c',v = .slice a' 13 c'/\Ar DM w' a' 13 (Cn xs p)/\AD w w'):=by
 have c1:=h.len;have cz:=h.le;obtain ⟨cf,ak,b6⟩:=h;have cy:=ak.len;have c2:=N2 xs p;refine oV Tryz.func349 ?_;refine AB.box ?_;intro a0 bh ct c5 a3 ay;refine bS Dm (vs:=[]) ?_;intro a1 cm b4 c7 a4 bk;have df:=a3.size;have dh:=a4.size;have bo:Bx (OG A0 144) w.heap.size 78 cm (some ⟨a1,0,none⟩) 0 0 [] [a1]:=Eu bk om;refine lR [0,3,5,6] (fun (e:Nat) aw w'=>∃ af ag ai,aw=[.slice a n c,.pointer (some ⟨a0,0,none⟩),.slice af e ag,.int .i64 e]/\e<=13/\Bx (OG A0 144) w.heap.size 78 w' af e ag ((Cn xs p).take e) ai/\ai.Nodup/\(∀ b∈ai,bh.heap.size<=b)/\AD bh w') (fun e=>13 - e) 0 ⟨_,_,_,rfl,om,by simpa using bo,sI,by simpa using b4,a4⟩ ?_;rintro e b3 _ ax ⟨af,ag,ai,rfl,cx,ac,cd,a9,al⟩;have a7:=xt a3 al;rcases Nat.lt_or_ge e 13 with ba | ba
 .refine iY ?_;refine bS Bm (vs:=[]) ?_;intro bx co b5 c9 b0 bm;have bp:BZ A0 ax.heap.size 144 co (some ⟨bx,0,none⟩) 0 0 []:=EL bm b5;refine lR [0,3,5,6,7,8] (fun (b:Nat) aw w'=>∃ z aa ab,aw=[.slice a n c,.pointer (some ⟨a0,0,none⟩),.slice af e ag,.int .i64 e,.slice aa z ab,.int .i64 b]/\b<=n/\z<=b/\BZ A0 ax.heap.size 144 w' aa z ab ((xs.take b).filter (Dt p e))/\AD ax w') (fun b=>n - b) 0 ⟨_,_,_,rfl,om,om,by simpa using bp,b0⟩ ?_;rintro b b3 _ dd ⟨z,aa,ab,rfl,y,c0,ad,o⟩;have u:=xt a7 o;have a8:=xt al o;rcases Nat.lt_or_ge b n with cb | cb
  .obtain ⟨t,am⟩:=AA (l:=cf) (k:=b) om;obtain ⟨s,bf,ap⟩:=b6.get am;have c3:=ap.1.len;have bg:=hx s (List.mem_of_getElem? bf);obtain ⟨v,ao⟩:=AA (l:=s) (k:=p.col.toNat) om;have be:=bg.2.1 v (List.mem_of_getElem? ao);have bb:Dt p e s=decide (Ci v p.mode=e):=by
    unfold Dt;rw [List.getD_eq_getElem?_getD,ao];rfl
   have a6:∀ i q r,AD w i->AK i q r (eH t)->Dq 359 [.pointer (some ⟨q,r,none⟩),.agg ⟨p.enc⟩] i (fun ck w'=>ck = .int .i64 (Ci v p.mode)/\AD i w'):=fun i q r aq av=>PY (ap.1.ext aq) av bg.2.2 hpm ao be;have b8:∀ i q r,AD w i->AK i q r (eH t)->Dq 161 [.pointer (some ⟨q,r,none⟩)] i (fun v w'=>∃ (a':Option Addr) (c':Nat),v = .agg #[.slice a' t.n c']/\Ai eI 1 i.heap.size 2 w' a' t.n c' s/\AD i w'):=fun i q r aq av=>Eg av (ap.1.ext aq) om;have an:(xs.take (b+1)).filter (Dt p e)=(xs.take b).filter (Dt p e)++(if Dt p e s=true then [s] else []):=by
    rw [List.take_add_one,bf,List.filter_append];by_cases bd:Dt p e s=true
    .simp [bd]
    .simp [bd]
   clear be ao;by_cases bc:Ci v p.mode=e
   .rw [bb,decide_eq_true bc,if_pos rfl] at an;refine iY ?_;refine dH (pB [0,2,4,6,10,9,13]) ?_;intro bi g;refine dI (ak.ext u) b rfl am ?_;intro bv ci b9 au;refine dA (n:=2) (ay.ext a8).cells rfl ?_;refine (a6 _ _ _ (xt u g) (au.ext g)).mono ?_;rintro _ cl ⟨rfl,j⟩;refine ⟨(xt g j),?_⟩;refine iY ?_;refine jI (ak.ext (xt (xt u g) j)) b rfl am ?_;intro cr da cw b';refine (b8 _ _ _ (xt (xt u g) j) b').mono ?_;rintro _ dc ⟨az,a2,rfl,ae,a5⟩;refine bS Bm (vs:=[Value.agg #[Value.slice az t.n a2]]) ?_;intro bw cn cv c8 ah bl;have bn:AK cn bw 0 (eH ⟨az,t.n,a2⟩):=bl.cells;refine CX Bm rfl (ad.ext (xt g j)) (Below.size (xt (xt o g) j)) (xt a5 ah) (Fg ((ae.ext ah).own) ae.le.1) (Dr ae.new (fun x hx=>Nat.lt_of_lt_of_le (ae.lt x hx) ah.size)) bn om om ?_;intro cp cs de bq cg c4;refine jP (((b+1:Nat):Int)) ?_;exact ⟨b+1,om,_,_,_,rfl,om,om,by rw [an];exact bq,xm (xt (xt (xt (xt o g) j) a5) ah) cg (AO (BZ.new ad))⟩
   .rw [bb,decide_eq_false bc,if_neg sI,List.append_nil] at an;refine iY ?_;refine dH (pB [0,2,4,6,10,9,13]) ?_;intro bi g;refine dI (ak.ext u) b rfl am ?_;intro bv ci b9 au;refine dA (n:=2) (ay.ext a8).cells rfl ?_;refine (a6 _ _ _ (xt u g) (au.ext g)).mono ?_;rintro _ cl ⟨rfl,j⟩;refine ⟨(xt g j),?_⟩;refine iN ?_;refine jP (((b+1:Nat):Int)) ?_;refine ⟨b+1,om,_,_,_,rfl,om,om,?_,(xt (xt o g) j)⟩
    .rw [an];exact ad.ext (xt g j)
  .obtain rfl:b=n:=om
   rw [List.take_of_length_le om] at ad;have ce:=N3 xs p ba;refine iN ?_;refine bS Dm (vs:=[Value.slice aa z ab]) ?_;intro cq bi cu c6 g bj;obtain ⟨b1,b7,ar⟩:=F9 ad;have cc:=ac.lt;have dj:=o.size;have di:=al.size;have dg:=g.size;refine CY Dm rfl (ac.ext (xt o g)) cd om (d:=⟨aa,z,ab⟩) (x:=xs.filter (Dt p e)) (f:=b1) ⟨_,b7.ext g⟩ ar.1 (fun b y ca=>by have:=(ar.2 b y).1;have:=cc b ca;omega) bj.cells om om ?_;intro bu bz db b2 br ch cj bt;refine jP (((e+1:Nat):Int)) ?_;exact ⟨e+1,om,bu,bz,b2,rfl,om,by rw [List.take_add_one,ce];exact br,ch,fun b y=>by
    rcases cj b y with aj | aj | aj
    .exact a9 b aj
    .have:=(ar.2 b aj).1;omega
    .omega,xm (xt (xt al o) g) bt fun b y=>a9 b (ac.blk b y)⟩
 .obtain rfl:e=13:=om
  rw [List.take_of_length_le om] at ac;exact ⟨_,_,rfl,ac.own.arr,a7⟩
theorem Qz (hm:mode=1\/mode=2) (w:World):Dq 358 [.int .i64 mode] w (fun v w'=>∃ a n c,v = .slice a n c/\A4 eI 1 w' a n (BF mode)/\(∀ x,a=some x->w.heap.size<=x.block/\x.block<w'.heap.size)/\AD w w'):=by
 rcases hm with rfl | rfl
 .refine oV Tryz.func358 ?_;refine bS B5 (vs:=[Value.int IntKind.i64 12,Value.int IntKind.i64 0,Value.int IntKind.i64 1,Value.int IntKind.i64 2,Value.int IntKind.i64 3,Value.int IntKind.i64 4,Value.int IntKind.i64 5,Value.int IntKind.i64 6,Value.int IntKind.i64 7,Value.int IntKind.i64 8,Value.int IntKind.i64 9]) ?_;intro g i f h e b;have d:=AG (n:=11) (enc:=eI) (xs:=[12,0,1,2,3,4,5,6,7,8,9]) AI b f rfl dE;exact ⟨_,_,_,rfl,(d.own.arr AI),by simp [*],e⟩
 .refine oV Tryz.func358 ?_;conv=>whnf
  refine bS B5 (vs:=[Value.int IntKind.i64 12,Value.int IntKind.i64 11,Value.int IntKind.i64 10,Value.int IntKind.i64 0,Value.int IntKind.i64 1]) ?_;intro g i f h e b;have d:=AG (n:=5) (enc:=eI) (xs:=[12,11,10,0,1]) AI b f rfl dE;exact ⟨_,_,_,rfl,(d.own.arr AI),by simp [*],e⟩
theorem PZ {Ps:List (List (List Int))} (h:Ar DM w a 13 Ps) (hmo:mode=1\/mode=2) (hx:∀ d∈Ps,d.length<=40/\∀ x∈d,x.length<=20) :
  Dq 348 [.slice a 13 c,.int .i64 mode] w (fun v w'=>∃ a' m c',v = .slice a' m c'/\m<=c'/\Ar Aa w' a' m ((BF mode).flatMap fun k=>Ps.getD k.toNat [])/\AD w w'):=by
 have br:=h.len;obtain ⟨a3,ah,au⟩:=h;have bp:=ah.len;have bn:=QN mode;have az:=QO mode;refine oV Tryz.func348 ?_;refine (Qz hmo _).mono ?_;rintro _ q ⟨ap,no,aq,rfl,aa,bf,ae⟩;have bt:=aa.len;have b6:=ae.size;refine bS Bm (vs:=[]) ?_;intro ad bb ag bw af am;have b7:=af.size;have ao:Bx A0 q.heap.size 144 bb (some ⟨ad,0,none⟩) 0 0 [] [ad]:=Eu am ag;refine lR [0,5,6,7] (fun (k:Nat) ba w'=>∃ r g s j,ba=[.slice a 13 c,.slice ap no aq,.slice r g s,.int .i64 k]/\k<=no/\g<=40 * k/\Bx A0 q.heap.size 144 w' r g s (((BF mode).take k).flatMap fun k=>Ps.getD k.toNat []) j/\j.Nodup/\(∀ b∈j,q.heap.size<=b)/\AD q w') (fun k=>no - k) 0 ⟨_,_,_,_,rfl,om,om,by simpa using ao,sI,by simpa using ag,af⟩ ?_;rintro k bj _ b3 ⟨r,g,s,j,rfl,bo,bq,e,a2,ai,p⟩;have y:=xt ae p;rcases Nat.lt_or_ge k no with a0 | a0
 .obtain ⟨v,z⟩:=AA (l:=BF mode) (k:=k) om;have bu:=az v (List.mem_of_getElem? z);obtain ⟨a7,ak⟩:=AA (l:=a3) (k:=v.toNat) om;obtain ⟨bc,al,ac⟩:=au.get ak;have bv:=ac.1.len;have a5:=hx bc (List.mem_of_getElem? al);have aj:=SP (Ps:=Ps) z;rw [List.getD_eq_getElem?_getD (l:=Ps) (i:=v.toNat),al,Option.getD_some] at aj;refine iY ?_;refine jI (aa.ext p) k rfl z ?_;intro bg bx bl aw;refine jO aw rfl ?_;refine jI (ah.ext y) v.toNat om ak ?_;intro bh bz bm ax;refine jO ax rfl ?_;refine (HF (ac.1.ext y) om (fun x a4=>by have:=a5.2 x a4;omega)).mono ?_;rintro _ b1 ⟨be,bi,rfl,b0,a8,bd,t⟩;obtain ⟨bk,av,u⟩:=F9 a8;have a1:=e.lt;have b4:=t.size;have b8:=p.size;refine JQ Bm rfl (e.ext t) a2 om av u.1 (fun b f ay=>by have:=(u.2 b f).1;have:=a1 b ay;omega) om om ?_;intro a' c' b2 ar an a6 a9 ab;have b5:=ab.size;refine jP (((k+1:Nat):Int)) ?_;exact ⟨k+1,om,a',g+a7.n,c',ar,rfl,om,om,by rw [aj];exact an,a6,fun b f=>by
   rcases a9 b f with o | o | o
   .exact ai b o
   .have:=(u.2 b o).1;omega
   .omega,xm (xt p t) ab (fun b f=>ai b (e.blk b f))⟩
 .obtain rfl:k=no:=om
  rw [List.take_of_length_le om] at e;refine iN ?_;exact ⟨_,_,_,rfl,e.le.1,e.own.arr,y⟩
theorem Uh (h:Ar Aa w a n xs) (hn2:n<=40) (hpm:p.mode=1\/p.mode=2) (hx:∀ x∈xs,x.length<=20/\(∀ m∈x,0<=m/\m<=4095)/\0<=p.col/\p.col<x.length) :
  Dq 327 [.slice a n c,.agg ⟨p.enc⟩] w (fun v w'=>∃ a' m' c',v = .slice a' m' c'/\m'<=c'/\Ar Aa w' a' m' (Gv xs p)/\AD w w'):=by
 have ah:=h.len;have y:∀ b,AD w b->Dq 349 [.slice a n c,.agg ⟨p.enc⟩] b (fun v w'=>∃ a' c',v = .slice a' 13 c'/\Ar DM w' a' 13 (Cn xs p)/\AD b w'):=fun b s=>TN (h.ext s) hn2 hpm hx;have u:∀ e∈Cn xs p,e.length<=40/\∀ x∈e,x.length<=20:=fun e l=>by
  unfold Cn at l;obtain ⟨aa,_,rfl⟩:=List.mem_map.1 l;exact ⟨by have:=List.length_filter_le (Dt p aa) xs;omega,fun x z=>(hx x (List.mem_filter.1 z).1).1⟩
 have t:∀ b a' c',Ar DM b a' 13 (Cn xs p)->Dq 348 [.slice a' 13 c',.int .i64 p.mode] b (fun v w'=>∃ a' m c',v = .slice a' m c'/\m<=c'/\Ar Aa w' a' m (Gv xs p)/\AD b w'):=fun b a' c' o=>PZ o hpm u;refine oV Tryz.func327 ?_;refine AB.box ?_;intro ad am ag ai j g;refine dH (pB [0,2,6,8,5,11,13]) ?_;intro an d;refine dA (n:=2) g.cells rfl ?_;refine dL g.cells (k:=1) rfl ?_;refine (y _ (xt j d)).mono ?_;rintro _ ao ⟨ac,af,rfl,r,f⟩;refine ⟨(xt d f),?_⟩;refine (t _ _ _ r).mono ?_;rintro _ al ⟨ab,aj,ae,rfl,ak,q,i⟩;refine ⟨(xt (xt d f) i),?_⟩;exact ⟨_,_,_,rfl,om,q,(xt (xt (xt j d) f) i)⟩
theorem Ui {m:Nat} (h:Ar Aa w a n xs) (hn2:n<=40) (hl:A4 Ag.enc 2 w b m l) (hm2:m<=40) (hlm:∀ p∈l,p.mode=1\/p.mode=2) (hx:∀ x∈xs,x.length<=20/\(∀ m∈x,0<=m/\m<=4095)/\∀ p∈l,0<=p.col/\p.col<x.length) :
  Dq 292 [.slice a n c,.slice b m d] w (fun v w'=>∃ a' m' c',v = .slice a' m' c'/\Ar Aa w' a' m' (Ch xs l)/\AD w w'):=by
 have a3:=h.len;have a2:=hl.len;refine oV Tryz.func292 ?_;refine (HF h om (fun x o=>by have:=(hx x o).1;omega)).mono ?_;rintro _ ao ⟨aa,aw,rfl,aj,z,aq,ad⟩;have ae:Ar Aa ao aa n xs:=z.ownN.arr;refine lR [1,5,6] (fun (e:Nat) an w'=>∃ g f i,an=[.slice b m d,.slice g f i,.int .i64 e]/\e<=m/\f<=i/\Ar Aa w' g f (Ch xs (l.take e))/\AD w w') (fun e=>m - e) 0 ⟨_,_,_,rfl,om,aj,by simpa [Ch] using ae,ad⟩ ?_;rintro e ax _ ap ⟨g,f,i,rfl,az,a1,j,r⟩;rcases Nat.lt_or_ge e m with ak | ak
 .obtain ⟨p,s⟩:=AA (l:=l) (k:=e) om;have u:=List.mem_of_getElem? s;have al:=Uo (d:=xs) s;have a4:=TW (l.take e) xs;have a0:=j.len;generalize af:Ch xs (l.take e)=t at *;have ag:∀ x∈t,x.length<=20/\(∀ m∈x,0<=m/\m<=4095)/\0<=p.col/\p.col<x.length:=fun x o=>by
   rw [<- af] at o;have:=hx x (TV _ _ o);exact ⟨this.1,this.2.1,this.2.2 p u⟩
  have ah:∀ q,AD ap q->Dq 327 [.slice g f i,.agg ⟨p.enc⟩] q (fun v w'=>∃ a' m' c',v = .slice a' m' c'/\m'<=c'/\Ar Aa w' a' m' (Gv t p)/\AD q w'):=fun q ab=>Uh (j.ext ab) om (hlm p u) ag;refine iY ?_;refine jI (hl.ext r) e rfl s ?_;intro au a6 ay ai;refine jA (n:=2) ai rfl ?_;refine (ah _ (AD.refl _)).mono ?_;rintro _ a7 ⟨ar,a5,av,rfl,am,y,ac⟩;refine jP (((e+1:Nat):Int)) ?_;exact ⟨e+1,om,_,_,_,rfl,om,am,by rw [al];exact y,xt r ac⟩
 .obtain rfl:e=m:=om
  rw [List.take_of_length_le om] at j;refine iN ?_;exact ⟨_,_,_,rfl,j,r⟩
theorem TL {f:AF} (hf:AR f 20=true) (w:World):Dq 168 [.agg ⟨f.enc⟩] w (fun v w'=>∃ a n c,v = .slice a n c/\Ad w.heap.size a/\Bw Ag.enc w' a n 193 (Bt f)/\AD w w'):=by
 have am:=BV hf;have an:(CF f:Int)=f.to_ - f.from_:=by unfold CF;omega
 have ab:Bt f=VX f (CF f):=rfl;rw [ab];refine oV Tryz.func168 ?_;refine AB.box ?_;intro x m al ar o h;refine bS EG (vs:=[]) ?_;intro y ag z au p q;have s:Ai Ag.enc 2 m.heap.size 193 ag (some ⟨y,0,none⟩) 0 0 []:=Ab AX q z;refine jL (h.ext p).cells (k:=1) rfl ?_;refine AB.sub (f.to_ - 1 - ((0:Nat):Int)) om om om ?_;refine lR [1,3,4] (fun (b:Nat) af w'=>∃ i g j,af=[.pointer (some ⟨x,0,none⟩),.slice i g j,.int .i64 (f.to_ - 1 - (b:Nat))]/\b<=CF f/\g=2 * b/\Ai Ag.enc 2 m.heap.size 193 w' i g j (VX f b)/\AD m w') (fun b=>CF f - b) 0 ⟨_,_,_,rfl,om,rfl,s,p⟩ ?_;rintro b ak _ aw ⟨i,g,j,rfl,ao,ap,e,d⟩;have ad:VX f (b+1)=VX f b++[⟨f.to_ - 1 - (b:Nat),1⟩,⟨f.to_ - 1 - (b:Nat),2⟩]:=by
  unfold VX;rw [List.range_succ,List.flatMap_append];simp
 rcases Nat.lt_or_ge b (CF f) with ac | ac
 .refine jL (h.ext d).cells (k:=0) rfl ?_;refine iY ?_;refine AB.build S9 rfl ?_;refine AB.build S9 rfl ?_;refine bS EG (vs:=[Value.agg #[Value.int IntKind.i64 (f.to_ - 1 - ↑b),Value.int IntKind.i64 1],Value.agg #[Value.int IntKind.i64 (f.to_ - 1 - ↑b),Value.int IntKind.i64 2]]) ?_;intro ai ax aa av l r;have t:=AG (n:=2) (enc:=Ag.enc) (xs:=[⟨f.to_ - 1 - ↑b,1⟩,⟨f.to_ - 1 - ↑b,2⟩]) AX r aa rfl dE;refine AM (enc:=Ag.enc) EG AX (e.ext l) (t.own.arr AX) (by intro az _;simp [Ag.enc,AE]) om om (Below.size (xt d l)) ?_;intro ah aj ay u ae aq;refine AB.sub _ rfl om om ?_;exact ⟨b+1,om,_,_,_,by rw [show f.to_ - 1 - ((b:Nat):Int) - 1=f.to_ - 1 - ((b+1:Nat):Int) by omega];rfl,om,om,by rw [ad];exact u,xm (xt d l) ae (AO e.new)⟩
 .obtain rfl:b=CF f:=om
  refine jL (h.ext d).cells (k:=0) rfl ?_;refine iN ?_;exact ⟨_,_,_,rfl,(e.new.mono (Below.size o)),e.own,(xt o d)⟩
theorem Qx {b2:Option Addr} {m m2 d2:Nat} (h:Ar Aa w a n xs) (hn2:n<=40) (hl:A4 Ag.enc 2 w b m l) (hm2:m<=40) (hlm:∀ p∈l,p.mode=1\/p.mode=2) (hx:∀ x∈xs,x.length<=20/\(∀ m∈x,0<=m/\m<=4095)/\∀ p∈l,0<=p.col/\p.col<x.length) {P:List Int} (hP:A4 eI 1 w b2 m2 P) (hPx:∀ i∈P,0<=i/\i.toNat<xs.length) (hPl:P.length=(Ch xs l).length) :
  Dq 238 [.slice a n c,.slice b2 m2 d2,.slice b m d] w (fun v w'=>v = .bool (decide (Ch xs l=P.map fun i=>xs.getD i.toNat []))/\AD w w'):=by
 have b5:=h.len;have bx:=hP.len;have a9:∀ o,AD w o->Dq 292 [.slice a n c,.slice b m d] o (fun v w'=>∃ aw a0 a5,v = .slice aw a0 a5/\Ar Aa w' aw a0 (Ch xs l)/\AD o w'):=fun o j=>Ui (h.ext j) hn2 (hl.ext j) hm2 hlm hx;generalize bw:Ch xs l=t at *;have b0:=h.le;obtain ⟨bg,aj,ah⟩:=h;have b4:=aj.len;refine oV Tryz.func238 ?_;refine (a9 _ (AD.refl _)).mono ?_;rintro _ bq ⟨a1,aa,a6,rfl,r,a7⟩;have b6:=r.len;have b1:=r.le;obtain ⟨a8,ak,ai⟩:=r;have b3:=ak.len;refine lR [0,1,7,8] (fun (f:Nat) bo w'=>bo=[.slice a n c,.slice b2 m2 d2,.slice a1 aa a6,.int .i64 f]/\f<=aa/\(∀ (i:Nat) x g,i<f->t[i]? = some x->P[i]? = some g->x=xs.getD g.toNat [])/\AD bq w') (fun f=>aa - f) 0 ⟨rfl,om,fun i x g aq=>by omega,AD.refl _⟩ ?_;rintro f bv _ br ⟨rfl,bz,ay,y⟩;have s:=xt a7 y;rcases Nat.lt_or_ge f aa with bc | bc
 .obtain ⟨ag,ao⟩:=AA (l:=a8) (k:=f) om;obtain ⟨x,z,ae⟩:=ai.get ao;obtain ⟨g,q⟩:=AA (l:=P) (k:=f) om;have bf:=hPx g (List.mem_of_getElem? q);obtain ⟨g,rfl⟩:∃ bj:Nat,g=bj:=⟨g.toNat,om⟩;rw [Int.toNat_natCast] at bf;obtain ⟨d2,ap⟩:=AA (l:=bg) (k:=g) om;obtain ⟨av,bh,af⟩:=ah.get ap;have az:xs.getD g []=av:=Ae bh;have ad:=ae.1;have r:=af.1;have ab:∀ o,AD br o->Dq 293 [.slice ag.a ag.n ag.c,.slice d2.a d2.n d2.c] o (fun v w'=>v = .bool (decide (x=av))/\AD o w'):=fun o j=>TQ (ad.ext (xt y j)) (r.ext (xt s j));by_cases ac:x=av
  .have bd:∀ (i:Nat) x g,i<f+1->t[i]? = some x->P[i]? = some g->x=xs.getD g.toNat []:=fun i bu bn aq au ar=>by
    by_cases j:i=f
    .subst j;rw [z] at au;rw [q] at ar;cases au
     cases ar
     rw [Int.toNat_natCast,az,ac]
    .exact ay i bu bn om au ar
   rw [decide_eq_true ac] at ab;clear ah ai ae af ad r;refine iY ?_;refine dH (pB [0,2,4,6,8,10,12,15,17,19,21,23,25,27,29]) ?_;intro bt e;refine dI (ak.ext y) f rfl ao ?_;intro a3 bl ba am;refine dL am (k:=0) rfl ?_;refine jI (hP.ext (xt s e)) f rfl q ?_;intro a4 bm bb an;refine ⟨e,?_⟩;refine jO an rfl ?_;refine ⟨e,?_⟩;refine jI (aj.ext (xt s e)) g rfl ap ?_;intro a2 bk a' al;refine ⟨e,?_⟩;refine jL al (k:=0) rfl ?_;refine ⟨e,?_⟩;refine (ab _ e).mono ?_;rintro _ bp ⟨rfl,u⟩;refine ⟨(xt e u),?_⟩;refine jP (((f+1:Nat):Int)) ?_;exact ⟨f+1,om,rfl,om,bd,xt y (xt e u)⟩
  .have be:¬ t=P.map fun i=>xs.getD i.toNat []:=fun j=>ac (by
    have ax:=congrArg (·[f]?) j;simp only [List.getElem?_map,z,q,Option.map_some,Int.toNat_natCast,az,Option.some.injEq] at ax;exact ax)
   rw [decide_eq_false be];rw [decide_eq_false ac] at ab;clear ah ai ae af ad r;refine iY ?_;refine dH (pB [0,2,4,6,8,10,12,15,17,19,21,23,25,27,29]) ?_;intro bt e;refine dI (ak.ext y) f rfl ao ?_;intro a3 bl ba am;refine dL am (k:=0) rfl ?_;refine jI (hP.ext (xt s e)) f rfl q ?_;intro a4 bm bb an;refine ⟨e,?_⟩;refine jO an rfl ?_;refine ⟨e,?_⟩;refine jI (aj.ext (xt s e)) g rfl ap ?_;intro a2 bk a' al;refine ⟨e,?_⟩;refine jL al (k:=0) rfl ?_;refine ⟨e,?_⟩;refine (ab _ e).mono ?_;rintro _ bp ⟨rfl,u⟩;refine ⟨(xt e u),?_⟩;exact ⟨rfl,(xt (xt s e) u)⟩
 .obtain rfl:f=aa:=om
  have bi:t=P.map fun i=>xs.getD i.toNat []:=by
   apply List.ext_getElem?;intro i;rw [List.getElem?_map];by_cases aq:i<t.length
   .obtain ⟨x,z⟩:=AA aq;obtain ⟨g,q⟩:=AA (l:=P) (k:=i) om;rw [z,q,Option.map_some,ay i x g om z q]
   .rw [List.getElem?_eq_none om,List.getElem?_eq_none (l:=P) om];rfl
  rw [decide_eq_true bi];refine iN ?_;exact ⟨rfl,s⟩
end Go.Proofs.YtalgenmoljcnmaaGreatDoor
namespace Go.M
open Go Go.Vc
variable {d:List (List Int)}
def LQ (f:AF) (b:Option Addr) (d:Nat):List Value:=f.enc++[.slice b 1 d,.bool false]
theorem NJ (n:Int):C6 [n]=BP n:=by
 unfold C6;rw [if_neg sI,Tn];rfl
theorem Wz (h:Ax d=true):1<=AJ d/\AJ d<=20:=by
 have b:=Ah h;cases d with
 | nil=>exact ⟨dE,dE⟩
 | cons a c =>
  have:=Br (b.2 a sI).1;exact ⟨this.1,this.2.1⟩
theorem Ox {f s:AF} (h:Bh d f s=0):Ax d=true/\AR f (AJ d)=true/\Af s (AJ d)=true/\EM d s=true/\Da d f=true:=by
 unfold Bh at h;split at h
 .cases h
 rename_i c;split at h
 .cases h
 rename_i a;split at h
 .cases h
 rename_i b;simp only [not_or,Bool.not_eq_false] at c a b;exact ⟨c,a.1,a.2,b.1,b.2⟩
end Go.M
namespace Go.Proofs.YtalgenmoljcnmaaGreatDoor
open Go Go.RowKit Go.Vc Go.M
variable {w:World} {a b:Option Addr} {n c g d:Nat} {xs:List (List Int)} {p:AF->Bool} {cap:List Value} {f s:AF}
theorem LZ {xs:List AF} (h:A4 AF.enc 2 w a n xs)
  (hg:∀ x∈xs,∀ w',AD w w'->Ev Tryz.prog g (.agg ⟨x.enc⟩ :: cap) w' (fun v w''=>v = .bool (p x)/\AD w' w'')) :
  Dq 319 [.slice a n c,.func (.func g) ⟨[]⟩ ⟨cap⟩] w (fun v w'=>v = .int .i64 (VQ p xs)/\AD w w'):=by
 have u:=h.len;have t:=h.le;refine oV Tryz.func319 ?_;refine lR [0,1,7,8] (fun (b:Nat) o w'=>o=[.slice a n c,.func (.func g) ⟨[]⟩ ⟨cap⟩,.int .i64 n,.int .i64 b]/\b<=n/\(xs.take b).any p=false/\AD w w') (fun b=>n - b) 0 ⟨rfl,om,sI,AD.refl _⟩ ?_;rintro b r _ w' ⟨rfl,s,e,d⟩;refine AL (fun k=>?_) fun k=>?_
 .obtain ⟨x,f⟩:∃ x,xs[b]? = some x:=AA om;have m:=hg x (List.mem_of_getElem? f);refine jI (h.ext d) b rfl f fun q y _ l=>jA (n:=2) l rfl<|dM (m w' d) fun z j=>BS (fun i=>?_) fun i=>?_
  .exact ⟨by rw [XA e f i],xt d j⟩
  .exact jP (((b+1:Nat):Int)) ⟨b+1,om,rfl,om,by rw [Gq f,e,i];rfl,xt d j⟩
 ·(conv=>whnf);rw [List.take_of_length_le om] at e;exact ⟨by rw [MS e],d⟩
theorem Jf {xs:List AF} (h:A4 AF.enc 2 w a n xs)
  (hg:∀ x∈xs,∀ w',AD w w'->Ev Tryz.prog g (.agg ⟨x.enc⟩ :: cap) w' (fun v w''=>v = .bool (p x)/\AD w' w'')) :
  Dq 282 [.slice a n c,.func (.func g) ⟨[]⟩ ⟨cap⟩] w (fun v w'=>v = .bool (xs.any p)/\AD w w'):=by
 refine oV Tryz.func282 ?_;refine (LZ h hg).mono ?_;rintro _ e ⟨rfl,d⟩;refine ⟨?_,d⟩;congr 1;cases b:xs.any p with
 | true=>exact decide_eq_true (OE b)
 | false=>rw [MS b];rfl
theorem NW {b:Nat} (hf:f.ok) {n:Int} (h0:0<=n) (hn:n<=1000) (hc:AK w b 0 [.int .i64 n]) :
  Dq 283 [.agg ⟨f.enc⟩,.pointer (some ⟨b,0,none⟩)] w (fun v w'=>v = .bool (!Af f n)/\AD w w'):=by
 have g:∀ a,Dq 284 [.agg ⟨f.enc⟩,.int .i64 n] a (fun v w'=>v = .bool (Af f n)/\AD a w'):=fun a=>Hs hf h0 hn a;refine oV Tryz.func283 ?_;refine AB.box ?_;intro h l i j c d;refine jA (n:=2) d.cells rfl<|jL (hc.ext c) (k:=0) rfl<|dM (g _) fun m e=>?_;exact ⟨rfl,(xt c e)⟩
theorem Of (hf:f.ok) (hs:s.ok) (hA:A4 AF.enc 2 w b 1 [s]) (h0:1<=n) (hn:n<=20) :
  Dq 222 [.agg ⟨LQ f b d⟩,.int .i64 n] w (fun v w'=>v = .bool (AR f n && Af s n)/\AD w w'):=by
 have ae:Dc (n:Int) 1 20=true:=by simp [Dc];omega
 have r:∀ a,Dq 85 [.int .i64 n,.int .i64 1,.int .i64 20] a (fun v w'=>v = .bool true/\a=w'):=fun a=>by
  have:=B8 n 1 20 a;rw [ae] at this;exact this
 have o:∀ a,Dq 208 [.agg ⟨f.enc⟩,.int .i64 n] a (fun v w'=>v = .bool (AR f n)/\AD a w'):=fun a=>DR f n a;have ac:∀ a l,AD w a->AK a l 0 [.int .i64 n]->Dq 282 [.slice b 1 d,.func (.func 283) ⟨[]⟩ ⟨[.pointer (some ⟨l,0,none⟩)]⟩] a (fun v w'=>v = .bool (!Af s n)/\AD a w'):=fun a l y ad=>by
  have:=Jf (c:=d) (cap:=[.pointer (some ⟨l,0,none⟩)]) (hA.ext y) (p:=fun q=>!Af q n) (g:=283) (fun q af w' e=>by
   obtain rfl:q=s:=by simpa using af
   exact NW hs om om (ad.ext e))
  simpa using this
 cases t:AR f n
 .rw [t] at o;simp only [Bool.false_and];refine oV Tryz.func222 ?_;refine AB.box ?_;intro u ai aa ag m j;refine AB.box fun x aj ab ah e i=>jL i.cells (k:=0) rfl<|(r _).mono ?_;rintro _ _ ⟨rfl,rfl⟩;refine jG (n:=2) (k:=0) (j.ext e).cells rfl ?_;refine jL i.cells (k:=0) rfl ?_;exact dM (o _) fun ak h=>⟨rfl,(xt (xt m e) h)⟩
 .rw [t] at o;simp only [Bool.true_and];refine oV Tryz.func222 ?_;refine AB.box ?_;intro u ai aa ag m j;refine AB.box ?_;intro x aj ab ah e i;refine jL i.cells (k:=0) rfl<|(r _).mono ?_;rintro _ _ ⟨rfl,rfl⟩;refine jG (n:=2) (k:=0) (j.ext e).cells rfl ?_;refine jL i.cells (k:=0) rfl ?_;refine (o _).mono ?_;rintro _ ak ⟨rfl,h⟩;refine jL (j.ext (xt e h)).cells (k:=2) rfl<|jL (j.ext (xt e h)).cells (k:=2) rfl<|(ac _ _ (xt (xt m e) h) (i.ext h).cells).mono ?_;rintro _ al ⟨rfl,z⟩;exact ⟨by simp [*],(xt (xt (xt m e) h) z)⟩
theorem P1 (h:Ar Aa w a n xs) (hf:f.ok) (hs:s.ok) (hA:A4 AF.enc 2 w b 1 [s]) :
  Dq 147 [.agg ⟨LQ f b d⟩,.slice a n c] w (fun v w'=>v = .int .i64 (Bh xs f s)/\AD w w'):=by
 have z:∀ g,AD w g->Dq 111 [.slice a n c] g (fun v w'=>v = .bool (Ax xs)/\AD g w'):=fun g q=>Du (h.ext q);cases t:Ax xs
 .rw [t] at z;have u:Bh xs f s=1:=by simp [Bh,t]
  rw [u];refine oV Tryz.func147 ?_;refine AB.box fun ba bp be bi al a9=>(z _ al).mono ?_;rintro _ a7 ⟨rfl,aa⟩;exact ⟨rfl,(xt al aa)⟩
 .rw [t] at z;have am:=Wz t;have ab:∀ g,AD w g->Dq 222 [.agg ⟨LQ f b d⟩,.int .i64 (AJ xs)] g (fun v w'=>v = .bool (AR f (AJ xs) && Af s (AJ xs))/\AD g w'):=fun g q=>Of hf hs (hA.ext q) am.1 am.2;have af:∀ g,AD w g->Dq 209 [.slice a n c] g (fun v w'=>v = .int .i64 (AJ xs)/\AD g w'):=fun g q=>DI (h.ext q);cases p:(AR f (AJ xs) && Af s (AJ xs))
  .rw [p] at ab;have u:Bh xs f s=2:=by
    unfold Bh;rw [if_neg (by simp [t]),if_pos (by cases bh:AR f (AJ xs)<;>simp_all)]
   rw [u];refine oV Tryz.func147 ?_;refine AB.box ?_;intro bb bq bf bj aa au;refine dM (z _ aa) fun ap r=>?_;refine dH (pB [0,3,5,7,9,11]) fun a8 i=>dA (n:=4) (au.ext r).cells rfl ?_;refine dM (af _ (xt (xt aa r) i)) fun ar o=>⟨(xt i o),?_⟩;exact dM (ab _ (xt (xt (xt aa r) i) o)) fun ao l=>⟨(xt (xt i o) l),⟨rfl,(xt (xt (xt (xt aa r) i) o) l)⟩⟩
  .rw [p] at ab;rw [Bool.and_eq_true] at p;have ac:∀ g,AD w g->Dq 223 [.slice b 1 d,.slice a n c] g (fun v w'=>∃ ai an ax,v = .tuple #[.slice ai an ax,.bool (EM xs s)]/\(EM xs s=true->an=1/\Ad g.heap.size ai/\Bw eI w' ai 1 2 [Dp xs s])/\AD g w'):=fun g q=>IC (h.ext q) (hA.ext q) t p.2;have ae:∀ g,AD w g->Dq 210 [.slice a n c,.agg ⟨f.enc⟩] g (fun v w'=>v = .bool (Da xs f)/\AD g w'):=fun g q=>FI (h.ext q) t p.1;cases ag:EM xs s
   .rw [ag] at ac;have u:Bh xs f s=8:=by
     unfold Bh;rw [if_neg (by simp [t]),if_neg (by simp [p.1,p.2]),if_pos (by simp [ag])]
    rw [u];refine oV Tryz.func147 ?_;refine AB.box ?_;intro bc a7 bg bk r ak;refine dM (z _ r) fun a8 j=>?_;refine dH (pB [0,3,5,7,9,11]) fun aq o=>dA (n:=4) (ak.ext j).cells rfl ?_;refine dM (af _ (xt (xt r j) o)) fun br e=>⟨(xt o e),?_⟩;refine dM (ab _ (xt (xt (xt r j) o) e)) fun bn ad=>⟨(xt (xt o e) ad),jL (ak.ext (xt (xt (xt j o) e) ad)).cells (k:=2) rfl<|(ac _ (xt (xt (xt (xt r j) o) e) ad)).mono ?_⟩;rintro _ bo ⟨a',bl,bd,rfl,bm,az⟩;exact ⟨rfl,(xt (xt (xt (xt (xt r j) o) e) ad) az)⟩
   .rw [ag] at ac;cases ah:Da xs f
    .rw [ah] at ae;have u:Bh xs f s=8:=by
      unfold Bh;rw [if_neg (by simp [t]),if_neg (by simp [p.1,p.2]),if_pos (by simp [ah])]
     rw [u];refine oV Tryz.func147 ?_;refine AB.box ?_;intro aw ap a0 a1 j x;refine dM (z _ j) fun aq i=>?_;refine dH (pB [0,3,5,7,9,11]) fun ar e=>dA (n:=4) (x.ext i).cells rfl ?_;refine dM (af _ (xt (xt j i) e)) fun ao l=>⟨(xt e l),?_⟩;refine dM (ab _ (xt (xt (xt j i) e) l)) fun a4 m=>⟨(xt (xt e l) m),jL (x.ext (xt (xt (xt i e) l) m)).cells (k:=2) rfl<|(ac _ (xt (xt (xt (xt j i) e) l) m)).mono ?_⟩;rintro _ a5 ⟨av,a2,ay,rfl,a3,y⟩;exact jG (n:=2) (k:=0) (x.ext (xt (xt (xt (xt i e) l) m) y)).cells rfl<|dM (ae _ (xt (xt (xt (xt (xt j i) e) l) m) y)) fun a6 aj=>⟨rfl,(xt (xt (xt (xt (xt (xt j i) e) l) m) y) aj)⟩
    .rw [ah] at ae;have u:Bh xs f s=0:=by
      unfold Bh;rw [if_neg (by simp [t]),if_neg (by simp [p.1,p.2]),if_neg (by simp [ag,ah])]
     rw [u];refine oV Tryz.func147 ?_;refine AB.box ?_;intro aw ap a0 a1 j x;refine dM (z _ j) fun aq i=>?_;refine dH (pB [0,3,5,7,9,11]) fun ar e=>dA (n:=4) (x.ext i).cells rfl ?_;refine dM (af _ (xt (xt j i) e)) fun ao l=>⟨(xt e l),?_⟩;refine dM (ab _ (xt (xt (xt j i) e) l)) fun a4 m=>⟨(xt (xt e l) m),jL (x.ext (xt (xt (xt i e) l) m)).cells (k:=2) rfl<|(ac _ (xt (xt (xt (xt j i) e) l) m)).mono ?_⟩;rintro _ a5 ⟨av,a2,ay,rfl,a3,y⟩;exact jG (n:=2) (k:=0) (x.ext (xt (xt (xt (xt i e) l) m) y)).cells rfl<|dM (ae _ (xt (xt (xt (xt (xt j i) e) l) m) y)) fun a6 aj=>⟨rfl,(xt (xt (xt (xt (xt (xt j i) e) l) m) y) aj)⟩
theorem MK (h:Ar Aa w a n xs) (hA:A4 AF.enc 2 w b 1 [s]) (hd:Ax xs=true) (hs:Af s (AJ xs)=true) (hn:EM xs s=true) (hT:F7 w) :
  Dq 150 [.agg ⟨LQ f b d⟩,.slice a n c] w (fun v w'=>v = .string (BP (Dp xs s))/\AD w w'):=by
 have p:=Ah hd;have ak:=Iy (d:=xs) (f:=s) (fun c z=>(IM (by rw [(p.2 c z).2];exact hs)).1) p.1;have y:∀ e,AD w e->Dq 223 [.slice b 1 d,.slice a n c] e (fun v w'=>∃ g l i,v = .tuple #[.slice g l i,.bool true]/\(l=1/\Ad e.heap.size g/\Bw eI w' g 1 2 [Dp xs s])/\AD e w'):=fun e j=>by
  have:=IC (d:=d) (c:=c) (h.ext j) (hA.ext j) hd hs;rw [hn] at this;refine this.mono ?_;rintro v w' ⟨g,l,i,ab,ac,ad⟩;exact ⟨g,l,i,ab,ac rfl,ad⟩
 have x:∀ e g i,AD w e->Bw eI e g 1 2 [Dp xs s]->Dq 134 [.slice g 1 i] e (fun v w'=>v = .string (BP (Dp xs s))/\AD e w'):=fun e g i j r=>by
  have:=MO (c:=i) (r.arr AI) (by intro ae aa;obtain rfl:ae=Dp xs s:=(by simpa using aa);exact ⟨om,om⟩) om (hT.ext j);rw [NJ] at this;exact this
 refine oV Tryz.func150 ?_;refine AB.box ?_;intro ah an aj al m q;refine jL q.cells (k:=2) rfl<|(y _ m).mono ?_;rintro _ ap ⟨ag,am,ai,rfl,⟨rfl,af,t⟩,o⟩;exact dM (x _ _ _ (xt m o) t) fun ao u=>⟨rfl,(xt (xt m o) u)⟩
theorem MN (h:Ar Aa w a n xs) (hnc:n<=c) (hfo:f.ok) (hso:s.ok) (hA:A4 AF.enc 2 w b 1 [s]) (hT:F7 w) :
  Dq 81 [.agg ⟨LQ f b d⟩,.slice a n c] w (fun v w'=>∃ a' m c',v = .tuple #[.slice a' m c',.int .i64 (G7 xs f s).2]/\Ai eS 1 w.heap.size 9 w' a' m c' (G7 xs f s).1/\m<=41/\AD w w'):=by
 have d4:=h.len;have d2:=h.le;have a6:∀ g,AD w g->Dq 147 [.agg ⟨LQ f b d⟩,.slice a n c] g (fun v w'=>v = .int .i64 (Bh xs f s)/\AD g w'):=fun g q=>P1 (h.ext q) hfo hso (hA.ext q);by_cases ay:Bh xs f s=0
 .have ac:G7 xs f s=(((Be xs f).map fun o=>Fh o f s)++[bs [42,42,32]++BP (Dp xs s)],0):=by simp [G7,ay]
  rw [ac];rw [ay] at a6;obtain ⟨bb,cw,av,b1,c1⟩:=Ox ay;have ai:=Ah bb;have ck:=ai.1;have bw:∀ aa∈xs,AR f aa.length=true:=fun aa ak=>by rw [(ai.2 aa ak).2];exact cw
  have bq:∀ aa∈xs,aa.length<=20:=fun aa ak=>(Br (ai.2 aa ak).1).2.1;have cp:∀ g,AD w g->Dq 148 [.slice a n c,.agg ⟨f.enc⟩] g (fun v w'=>∃ a' m c',v = .slice a' m c'/\(∀ be,BY (fun e=>¬ Iv g.heap.size w'.heap.size e) w' be->Ar Aa be a n xs->Ar DM be a' m (Be xs f))/\AD g w'):=fun g q=>OD (h.ext q) bw om hnc;have dz:=HT xs f;have d7:=Iy (d:=xs) (f:=s) (fun c ba=>(IM (by rw [(ai.2 c ba).2];exact av)).1) ck;refine oV Tryz.func81 ?_;refine AB.box ?_;intro bk ej dq ea an ab;refine jA (n:=4) ab.cells rfl<|dM (a6 _ an) fun b5 t=>?_;refine bS BI (vs:=[]) ?_;intro ce b6 ch eb ao b8;have b':=Ab (enc:=eS) AQ b8 ch;refine jG (n:=2) (k:=0) (ab.ext (xt t ao)).cells rfl<|(cp _ (xt (xt an t) ao)).mono ?_;rintro _ az ⟨bj,x,bl,rfl,b4,ap⟩;have d3:x=(Be xs f).length:=by
   have cm:=xt (xt (xt an t) ao) ap;have:=(b4 az (Vc.BY.refl _ _) (h.ext cm)).len;omega
  have ep:=ap.size;refine lR [1,2,7,23,24,25] (fun (i:Nat) bf w'=>∃ ad al,bf=[.slice a n c,.pointer (some ⟨bk,0,none⟩),.slice ad i al,.slice bj x bl,.int .i64 x,.int .i64 i]/\i<=x/\Ai eS 1 b5.heap.size 9 w' ad i al (((Be xs f).take i).map fun o=>Fh o f s)/\(∀ e,AN ad e->e<b6.heap.size\/az.heap.size<=e)/\BY (fun e=>¬ Iv b6.heap.size az.heap.size e) az w'/\AD b5 w') (fun i=>x - i) 0 ⟨_,_,rfl,om,by simpa using b'.ext ap,?_,Vc.BY.refl _ _,xt ao ap⟩ ?_
  .rintro e ⟨aa,ak,ac⟩;cases ak
   have ac:e=ce:=ac;omega
  have a1:=xt an t;rintro i o _ bg ⟨ad,al,rfl,aj,ag,bz,a2,u⟩;have ah:=xt a1 u;rcases Nat.lt_or_ge i x with c3 | c3
  .obtain ⟨o,bc⟩:=AA (l:=Be xs f) (k:=i) om;obtain ⟨bx,cy,ar⟩:=QJ bc;obtain ⟨cx,cz⟩:=QK bb bx cy ar;obtain ⟨j,aw⟩:=AA (l:=o) (k:=0) (List.length_pos_iff.2 bx);have ax:=ar j (List.mem_of_getElem? aw);have c0:ES o f=Cd (AS f j):=by unfold ES;rw [QF aw]
   have b0:=Ct (fun o=>Fh o f s) bc;have c4:Fh o f s=bs [42]++Cd (AS f j)++bs [32]++BP (Dp o s):=by unfold Fh;rw [c0]
   rw [c4] at b0;obtain ⟨cj,br,cn⟩:=b4 bg a2 (h.ext ah);have du:=br.len;obtain ⟨p,bt⟩:=AA (l:=cj) (k:=i) om;have bh:=cn.2 i p _ bt bc;have cq:∀ g,AD bg g->Dq 150 [.agg ⟨LQ f b d⟩,.slice p.a p.n p.c] g (fun v w'=>v = .string (BP (Dp o s))/\AD g w'):=fun g q=>MK (bh.1.ext q) (hA.ext (xt ah q)) cx (by rw [cz];exact av) (LV b1 ar) (hT.ext (xt ah q));obtain ⟨b2,a8,a7⟩:=bh.1;have d1:=a8.len;have d5:=a7.1;have d0:=(List.getElem?_eq_some_iff.1 aw).1;obtain ⟨bm,bu⟩:=AA (l:=b2) (k:=0) om;have bi:=a7.2 0 bm j bu aw;have co:∀ g,AD bg g->Dq 149 [.agg ⟨eH bm⟩,.agg ⟨f.enc⟩] g (fun v w'=>v = .string (Cd (AS f j))/\AD g w'):=fun g q=>J9 ⟨bi.1.ext q,bi.2⟩ (bw j ax) (bq j ax) (VS c1 j ax);have d6:=Iy (d:=o) (f:=s) (fun c ba=>(IM (by rw [(ai.2 c (ar c ba)).2];exact av)).1) om;have cv:=Bc (n:=Dp o s) om om;have d8:=IZ (AS f j);have dy:(AS f j).length<=20:=by
    have:=bq j ax;have dr:(AS f j).length=(AZ j f).length:=by simp [AS,CK]
    have ds:(AZ j f).length<=j.length:=by unfold AZ;simp;omega
    omega
   generalize dt:Cd (AS f j)=bd at *;generalize cl:BP (Dp o s)=dec at *;refine iY<|jI br i rfl bt fun dj ed dv cs=>jO cs rfl<|dH (pB [0,2,4,7,9,11,13]) fun en ae=>dI a8 0 rfl bu fun dk ee dw ct=>dA (n:=1) ct rfl<|jG (n:=2) (k:=0) (ab.ext (xt (xt t u) ae)).cells rfl ⟨ae,dM (co _ ae) fun c9 bo=>⟨(xt ae bo),lR [1,2,7,9,10,23,24,25,35,36,37] (fun (e:Nat) bf w'=>bf=[.slice a n c,.pointer (some ⟨bk,0,none⟩),.slice ad i al,.slice p.a p.n p.c,.string bd,.slice bj x bl,.int .i64 x,.int .i64 i,.slice p.a p.n p.c,.int .i64 p.n,.int .i64 e]/\e<=p.n/\AD c9 w') (fun e=>p.n - e) 0 ⟨rfl,om,AD.refl _⟩ ?_⟩⟩;rintro e dn _ eh ⟨rfl,au,a9⟩;have r:=xt (xt ae bo) a9;rcases Nat.lt_or_ge e p.n with c2 | c2
   .obtain ⟨am,bv⟩:=AA (l:=b2) (k:=e) om;obtain ⟨dc,c5⟩:=AA (l:=o) (k:=e) om;have de:=a7.2 e am dc bv c5;exact iY<|jI (a8.ext r) e rfl bv fun dl ef dx cu=>jA (n:=1) cu rfl<|jN (z := .agg #[.slice none 0 0]) fun cf da aq c7 y a0=>jS (vs:=[Value.slice am.a am.n am.c]) a0 rfl rfl (by simp [AE]) fun db a3 dd=>jL (ab.ext (xb (xt (xt (xt t u) r) y) a3.but (nB (xt (xt t u) r) aq))).cells (k:=3) rfl<|jP (((e+1:Nat):Int)) ⟨e+1,om,rfl,om,(xb (xt a9 y) a3.but (nB a9 aq))⟩
   .obtain rfl:e=p.n:=om
    refine iN<|Ao (by simp only [ByteArray.size_append,AV,CO,CZ,List.length_cons,List.length_nil];omega)<|Ao (by simp only [ByteArray.size_append,AV,CO,CZ,List.length_cons,List.length_nil];omega)<|jA (n:=4) (ab.ext (xt (xt t u) r)).cells rfl<|dM (cq _ r) fun eo af=>Ao (by simp only [ByteArray.size_append,AV,CO,CZ,List.length_cons,List.length_nil];omega)<|bS BI (vs:=[Value.string ({ data := #[42] }++bd++{ data := #[32] }++dec)]) ?_;intro cf da aq c7 y a0;have cc:=AG (n:=1) (enc:=eS) (xs:=[{ data := #[42] }++bd++{ data := #[32] }++dec]) AQ a0 aq rfl dE;refine AM (enc:=eS) BI AQ (ag.ext (xt (xt r af) y)) (cc.own.arr AQ) (by intro j _;simp [eS,AE]) om om (Below.size (xt (xt (xt u r) af) y)) fun dg a3 db cd b3 c6=>jP (((i+1:Nat):Int)) ⟨i+1,om,_,_,rfl,om,?_,?_,?_,(xm (xt (xt (xt u r) af) y) b3 (AO ag.new))⟩
    .rw [b0];exact cd
    .intro e au;rcases c6 e au with bp | bp
     .exact bz e bp
     .have:=a2.size;have:=Below.size (xt (xt r af) y);omega
    .exact a2.trans ((AD.mod (xt (xt r af) y)).trans (b3.mono fun e au aj=>by
      have:=bz e au;have:=aj.1;have:=aj.2;omega))
  .obtain rfl:i=x:=om
   rw [List.take_of_length_le om] at ag;have cv:=Bc (n:=Dp xs s) om om;have cr:∀ g,AD w g->Dq 150 [.agg ⟨LQ f b d⟩,.slice a n c] g (fun v w'=>v = .string (BP (Dp xs s))/\AD g w'):=fun g q=>MK (h.ext q) (hA.ext q) bb av b1 (hT.ext q);generalize cl:BP (Dp xs s)=dec at *;refine iN<|jA (n:=4) (ab.ext (xt t u)).cells rfl<|dM (cr _ ah) fun ek a4=>Ao (by simp only [ByteArray.size_append,AV,CO,CZ,List.length_cons,List.length_nil];omega)<|bS BI (vs:=[Value.string ({ data := #[42,42,32] }++dec)]) ?_;intro di el ci ec a5 b9;have ca:=AG (n:=1) (enc:=eS) (xs:=[{ data := #[42,42,32] }++dec]) AQ b9 ci rfl dE;exact AM (enc:=eS) BI AQ (ag.ext (xt a4 a5)) (ca.own.arr AQ) (by intro j _;simp [eS,AE]) om om (Below.size (xt (xt u a4) a5)) fun df dm em cb c8 d9=>⟨_,_,_,rfl,(cb.base (Below.size a1)),om,(xm (xt (xt ah a4) a5) c8 (fun i aj=>Nat.le_trans (Below.size a1) (AO ag.new i aj)))⟩
 .have ac:G7 xs f s=([],Bh xs f s):=by simp [G7,ay]
  rw [ac];refine oV Tryz.func81 ?_;refine AB.box ?_;intro dh eg dp d' bn b7;refine jA (n:=4) b7.cells rfl<|dM (a6 _ bn) fun ei cg=>?_;refine iT ?_;refine ⟨_,_,_,rfl,?_,om,(xt bn cg)⟩
  .exact Ai.nil
end Go.Proofs.YtalgenmoljcnmaaGreatDoor
namespace Go.Proofs.YtalgenmoljcnmaaGreatDoor
open Go Go.RowKit Go.Vc Go.M
def deskWordsM:List ByteArray:=[bs [99,97,114,100],bs [99,108,101,97,114],bs [102,105,114,115,116],bs [108,111,103],bs [109,97,116,99,104],bs [109,101,114,103,101],bs [110,111,116,101],bs [112,97,115,115,101,115],bs [114,101,115,116],bs [115,101,108,101,99,116],bs [115,104,111,119],bs [115,111,114,116],bs [116,97,98],bs [116,111,116,97,108]]
def aA4 (w:World) (xs:List ByteArray) (v:Value) (w':World):Prop:=∃ b n c,v = .slice (some ⟨b,0,none⟩) n c/\w.heap.size<=b/\AD w w'/\Bw eS w' (some ⟨b,0,none⟩) n 9 xs
theorem QD (w:World):Dq 32 [] w (aA4 w deskWordsM):=by
 refine oV Tryz.func32 ?_;refine AB.buildSlice BI (deskWordsM.map .string) (by rfl) (by rfl) (by simp [Value.cells,deskWordsM]) dE ?_;intro a f d e b c;exact ⟨a,14,14,rfl,d,b,rfl,om,.inr ⟨a,[],rfl,c⟩⟩
attribute [irreducible] deskWordsM
end Go.Proofs.YtalgenmoljcnmaaGreatDoor
