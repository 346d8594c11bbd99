/- Parts of the proof; no conditions of its own. -/
import Derived.Test.YtalgenmoljcnmaaGreatDoorDesks
namespace Go.Vc
open Go Go.RowKit
variable {P:Program}
theorem EK {t:Nat} {X Y:Operand} {a b:Int} {k k':IntKind} (r:Int) (hb:0<=b) (he:a.fdiv (2 ^ min b.toNat k.bits)=r) {w:World} {K:Value->World->Prop} (hK:K (.int k r) w) :
  AB P (Bk .shr t X Y (.int k a) (.int k' b)) w K:=AB.shr hb (he▸hK)
theorem Ws {t:Nat} {X Y:Operand} {a b:Int} {k k':IntKind} (r:Int) (hb:0<=b) (he:k.wrap (a * 2 ^ min b.toNat k.bits)=r) {w:World} {K:Value->World->Prop} (hK:K (.int k r) w) :
  AB P (Bk .shl t X Y (.int k a) (.int k' b)) w K:=AB.shl hb (he▸hK)
theorem Lm {t:Nat} {X Y:Operand} {a b:Int} {k:IntKind} (r:Int) (he:FM k a b=r) {w:World} {K:Value->World->Prop} (hK:K (.int k r) w) :
  AB P (Bk .and t X Y (.int k a) (.int k b)) w K:=AB.and (he▸hK)
theorem HY.app {α:Type} {E:Ow α} {w:World} {hs gs:List Hd} {xs ys:List α} {fps gps:List (List Nat)} (h:HY E w hs xs fps) (g:HY E w gs ys gps):HY E w (hs++gs) (xs++ys) (fps++gps):=by
 refine ⟨by simp [h.1,g.1],by simp [h.2.1,g.2.1],fun i e j f b d c=>?_⟩;rcases Nat.lt_or_ge i hs.length with a | a
 .rw [List.getElem?_append_left a] at b;rw [List.getElem?_append_left (by rw [<- h.1];exact a)] at d;rw [List.getElem?_append_left (by rw [h.2.1,<- h.1];exact a)] at c;exact h.2.2 i e j f b d c
 .rw [List.getElem?_append_right a] at b;rw [List.getElem?_append_right (by rw [<- h.1];exact a)] at d;rw [List.getElem?_append_right (by rw [h.2.1,<- h.1];exact a)] at c;rw [h.1] at b;rw [h.2.1] at c;exact g.2.2 _ e j f b d c
theorem JQ {P:Program} {α:Type} {E:Ow α} {R:Rd α} [LH E R] {t e by_ lo lo2:Nat} {zs:List Value} (ht:Cq P t=some (e,zs,by_)) (hz:zs.length=1) {w:World} {a a2:Option Addr} {n c n2 c2:Nat} {xs ys:List α} {fp gp:List Nat} (h:Bx E lo e w a n c xs fp) (hnd:fp.Nodup) (hlo:lo<=w.heap.size)
  (h2:Bx E lo2 e w a2 n2 c2 ys gp) (hgd:gp.Nodup) (hdj:∀ k∈gp,k∉fp) (hsm:n+n2<=1099511627776) (hby:(n+n2) * by_<=140737488355328) {ty:Nat} {cs:Array Bool} {K:Next->World->Prop}
  (hK:∀ a' c' w' fp',Bx E lo e w' a' (n+n2) c' (xs++ys) fp'->fp'.Nodup->(∀ k∈fp',k∈fp\/k∈gp\/k=w.heap.size)->BY (AN a) w w'->K (.value (.slice a' (n+n2) c')) w') :
  AB P (builtin .append #[t,t] ty cs #[.slice a n c,.slice a2 n2 c2]) w K:=by
 obtain ⟨y,f,ae,q,rfl⟩:=h;obtain ⟨ad,g,ac,p,rfl⟩:=h2;refine AM (enc:=eH) ht (fun an=>by rw [hz];rfl) (by rw [hz];exact ae) (by rw [hz];exact ac.own.arr Es) (by intro aj _;simp [eH,AE]) hsm hby hlo ?_;intro a' ab w' r j af;rw [hz] at r;obtain ⟨am,ai,z⟩:=List.nodup_append.1 hnd;obtain ⟨ak,ah,al⟩:=List.nodup_append.1 hgd;have s:∀ k∈f.flatten,k<w.heap.size:=q.lt;have u:∀ k∈g.flatten,k<w.heap.size:=p.lt;have v:∀ k,k∈BU a'->k∈BU a\/k=w.heap.size:=fun k b=>(af k (A2.1 b)).imp (fun h=>A2.2 h) id;have o:(f++g).flatten=f.flatten++g.flatten:=sI
 refine hK a' ab w' (BU a'++(f++g).flatten) ⟨y++ad,f++g,r,?_,rfl⟩ ?_ ?_ j
 .have ag:HY E w' y xs f:=q.keep fun k b=>j.block k (fun l=>z k (A2.2 l) k b rfl) (s k b);exact ag.app (p.keep fun k b=>j.block k (fun l=>hdj k (List.mem_append_right _ b) (List.mem_append_left _ (A2.2 l))) (u k b))
 .rw [o];refine List.nodup_append.2 ⟨?_,List.nodup_append.2 ⟨ai,ah,fun i m aa d e=>hdj aa (List.mem_append_right _ d) (e▸List.mem_append_right _ m)⟩,fun i m aa d e=>?_⟩
  .cases a' with
   | none=>simp [BU]
   | some aj=>simp [BU]
  .subst e;rcases v i m with x | rfl
   .rcases List.mem_append.1 d with d | d
    .exact z i x i d rfl
    .exact hdj i (List.mem_append_right _ d) (List.mem_append_left _ x)
   .rcases List.mem_append.1 d with d | d
    .have:=s _ d;omega
    .have:=u _ d;omega
 .intro k b;rw [o] at b;rcases List.mem_append.1 b with b | b
  .rcases v k b with b | b
   .exact .inl (List.mem_append_left _ b)
   .exact .inr (.inr b)
  .rcases List.mem_append.1 b with b | b
   .exact .inl (List.mem_append_right _ b)
   .exact .inr (.inl (List.mem_append_right _ b))
end Go.Vc
namespace Go.M
open Go Go.Vc
variable {m:Int} {k:Nat} {L:List Int} {d:List (List Int)} {p:Ag}
theorem FP {p:Nat->Prop} (key:∀ a b:Fin 64,p (a.val * 64+b.val)) {n:Nat} (hn:n<4096):p n:=by
 have c:=key ⟨n / 64,om⟩ ⟨n % 64,om⟩;have d:n / 64 * 64+n % 64=n:=om
 dsimp only at c;rw [d] at c;exact c
theorem aD3 (h0:0<=m) (h1:m<=4095):FM .i64 m 1=m % 2:=by
 obtain ⟨a,rfl⟩:∃ a:Nat,m=a:=⟨m.toNat,om⟩;exact FP (p:=fun a=>FM .i64 (a:Int) 1=(a:Int) % 2) (by decide +kernel) om
theorem aB6 (h0:0<=m) (h1:m<=4095):FM .i64 m 1=if DT m 0=true then 1 else 0:=by
 obtain ⟨a,rfl⟩:∃ a:Nat,m=a:=⟨m.toNat,om⟩;exact FP (p:=fun a=>FM .i64 (a:Int) 1=if DT (a:Int) 0=true then 1 else 0) (by decide +kernel) om
theorem aB5 (h0:0<=m) (h1:m<=4095):FM .i64 m 2=if DT m 1=true then 2 else 0:=by
 obtain ⟨a,rfl⟩:∃ a:Nat,m=a:=⟨m.toNat,om⟩;exact FP (p:=fun a=>FM .i64 (a:Int) 2=if DT (a:Int) 1=true then 2 else 0) (by decide +kernel) om
theorem aB4 (h0:0<=m) (h1:m<=4095):FM .i64 m 4=if DT m 2=true then 4 else 0:=by
 obtain ⟨a,rfl⟩:∃ a:Nat,m=a:=⟨m.toNat,om⟩;exact FP (p:=fun a=>FM .i64 (a:Int) 4=if DT (a:Int) 2=true then 4 else 0) (by decide +kernel) om
theorem QV (k:Nat):m.fdiv (2 ^ k)=m / 2 ^ k:=Int.fdiv_eq_ediv_of_nonneg _ (by have:(0:Int)<2 ^ k:=Int.pow_pos dE;omega)
theorem Um:m.fdiv (2 ^ min (3:Int).toNat IntKind.i64.bits)=m / 8:=by
 have a:min (3:Int).toNat IntKind.i64.bits=3:=dE
 rw [a,QV];rfl
theorem SX (h0:0<=m) (h1:m<=4095) (k:Nat):0<=m / 2 ^ k/\m / 2 ^ k<=4095:=by
 have a:(0:Int)<2 ^ k:=Int.pow_pos dE;refine ⟨Int.ediv_nonneg h0 om,Int.le_trans (Int.ediv_le_self _ h0) h1⟩
theorem Zw (hk:k<=8):(m / 8).fdiv (2 ^ min ((k:Int)).toNat IntKind.i64.bits)=m / 2 ^ (k+3):=by
 have a:min ((k:Int)).toNat IntKind.i64.bits=k:=by
  have:IntKind.i64.bits=64:=rfl;rw [this,Int.toNat_natCast];omega
 rw [a,QV,Int.ediv_ediv_of_nonneg dE,Int.pow_add,Int.mul_comm];rfl
theorem Zx (h0:0<=m) (h1:m<=4095) (k:Nat):FM .i64 (m / 2 ^ (k+3)) 1=m / 2 ^ (k+3) % 2:=aD3 (SX h0 h1 _).1 (SX h0 h1 _).2
theorem QN (mode:Int):(BF mode).length<=11:=by unfold BF;split<;>decide
theorem MY (mode:Int):(BF mode).Nodup:=by unfold BF;split<;>decide
theorem QO (mode:Int):∀ k∈BF mode,0<=k/\k<=12:=by unfold BF;split<;>decide
theorem QM (g:List Int->Int) (c:List Int) (d:List (List Int)):∀ L:List Int,L.Nodup->(L.map fun k=>((c :: d).filter fun c=>decide (g c=k)).length).sum<=(L.map fun k=>(d.filter fun c=>decide (g c=k)).length).sum+(if g c∈L then 1 else 0)
 | [],_=>sI
 | k :: L,h=>by
  rw [List.nodup_cons] at h;have ih:=QM g c d L h.2;simp only [List.map_cons,List.sum_cons];by_cases a:g c=k
  .have e:¬ g c∈L:=by rw [a];exact h.1
   rw [if_neg e] at ih;rw [if_pos (by rw [a];simp)];rw [List.filter_cons_of_pos (by simp [a]),List.length_cons];omega
  .rw [List.filter_cons_of_neg (by simp [a])];have f:(if g c∈k :: L then 1 else 0)=(if g c∈L then 1 else 0:Nat):=by
    by_cases b:g c∈L
    .rw [if_pos b,if_pos (List.mem_cons_of_mem _ b)]
    .rw [if_neg b,if_neg (by simp [a,b])]
   omega
theorem MX (g:List Int->Int) (h:L.Nodup):∀ d:List (List Int),(L.map fun k=>(d.filter fun c=>decide (g c=k)).length).sum<=d.length
 | []=>by
  have:∀ L:List Int,(L.map fun _=>0).sum=0:=by
   intro L;induction L with
   | nil=>rfl
   | cons k L b=>simpa using b
  simp [this]
 | c :: d=>by
  have a:=QM g c d L h;have e:=MX g h d;rw [List.length_cons];split at a<;>omega
theorem WN (d:List (List Int)) (p:Ag) {k:Int} (h0:0<=k) (h1:k<=12):(Cn d p).getD k.toNat []=d.filter (Dt p k):=by
 unfold Cn;have a:k.toNat<13:=om
 rw [List.getD_eq_getElem?_getD,List.getElem?_map,List.getElem?_range a];simp only [Option.map_some,Option.getD_some];rw [show ((k.toNat:Nat):Int)=k by omega]
theorem O1 (d:List (List Int)) (p:Ag):Gv d p=(BF p.mode).flatMap fun k=>d.filter (Dt p k):=by
 unfold Gv;have:∀ a:List Int,(∀ k∈a,0<=k/\k<=12)->(a.flatMap fun k=>(Cn d p).getD k.toNat [])=a.flatMap fun k=>d.filter (Dt p k):=by
  intro a;induction a with
  | nil=>intro _;rfl
  | cons k a e =>
   intro b;rw [List.flatMap_cons,List.flatMap_cons,e fun f c=>b f (List.mem_cons_of_mem _ c),WN d p (b k sI).1 (b k sI).2]
 exact this _ (QO _)
theorem Yq (d:List (List Int)) (p:Ag):(Gv d p).length<=d.length:=by
 rw [O1,List.length_flatMap];exact MX (fun a=>Ci (a.getD p.col.toNat 0) p.mode) (MY _) d
theorem Yp {c:List Int} (h:c∈Gv d p):c∈d:=by
 rw [O1,List.mem_flatMap] at h;obtain ⟨b,_,a⟩:=h;exact (List.mem_filter.1 a).1
theorem TW:∀ (l:List Ag) (d:List (List Int)),(Ch d l).length<=d.length
 | [],_=>Nat.le_refl _
 | p :: l,d=>Nat.le_trans (TW l (Gv d p)) (Yq d p)
theorem TV:∀ (l:List Ag) (d:List (List Int)) {c:List Int},c∈Ch d l->c∈d
 | [],_,_,h=>h
 | p :: l,d,_,h=>Yp (TV l (Gv d p) h)
theorem Uo {l:List Ag} (h:l[k]? = some p):Ch d (l.take (k+1))=Gv (Ch d (l.take k)) p:=by
 unfold Ch;rw [List.take_add_one,h,List.foldl_append];rfl
theorem SP {Ps:List (List (List Int))} {x:Int} (h:L[k]? = some x):((L.take (k+1)).flatMap fun k=>Ps.getD k.toNat [])=((L.take k).flatMap fun k=>Ps.getD k.toNat [])++Ps.getD x.toNat []:=by
 rw [List.take_add_one,h,List.flatMap_append];simp
theorem N2 (d:List (List Int)) (p:Ag):(Cn d p).length=13:=by simp [Cn]
theorem N3 (d:List (List Int)) (p:Ag) (hk:k<13):(Cn d p)[k]? = some (d.filter (Dt p k)):=by
 unfold Cn;rw [List.getElem?_map,List.getElem?_range hk];rfl
theorem AX (x:Ag):(Ag.enc x).length=2:=rfl
end Go.M
namespace Go.Proofs.YtalgenmoljcnmaaGreatDoor
open Go Go.RowKit Go.Vc Go.M
variable {mode:Int} {w:World} {a:Option Addr} {n c:Nat} {xs:List (List Int)}
theorem RQ {m:Int} (h0:0<=m) (h1:m<=4095) (w:World):Dq 279 [.int .i64 m,.int .i64 mode] w (fun v w'=>v = .int .i64 (Ci m mode)/\AD w w'):=by
 have g:∀ c,Dq 316 [.int .i64 12] c (fun v w'=>v = .int .i64 1/\AD c w'):=fun c=>by
  have:=B9 12 c;rw [PD rfl] at this;exact this
 have i:∀ c,Dq 316 [.int .i64 11] c (fun v w'=>v = .int .i64 2/\AD c w'):=fun c=>by
  have:=B9 11 c;rw [Mh rfl] at this;exact this
 have f:∀ c,Dq 316 [.int .i64 0] c (fun v w'=>v = .int .i64 4/\AD c w'):=fun c=>by
  have:=B9 0 c;rw [show CC 0=4 from rfl] at this;exact this
 by_cases ab:mode=1
 .have s:Ci m mode=(match Ia 9 m with | some ad=>(ad:Int) | none=>if m=4 then 0 else 12):=by
   unfold Ci;rw [if_pos ab];cases Ia 9 m<;>rfl
  rw [s];refine oV Tryz.func279 ?_;refine EK (m / 8) om Um ?_;refine iY<|lR [0,5,6] (fun (a:Nat) an w'=>an=[.int .i64 m,.int .i64 (m / 8),.int .i64 (9 - (a:Int))]/\a<=9/\Ia 9 m=Ia (9 - a) m/\w'=w) (fun a=>9 - a) 0 ⟨rfl,om,rfl,rfl⟩ ?_;rintro a ao _ w' ⟨rfl,ar,t,rfl⟩;rcases Nat.lt_or_ge a 9 with aj | aj
  .have o:Ia (9 - a) m=if DT m (8 - a+3)=true then some (9 - a) else Ia (8 - a) m:=by
    rw [show 9 - a=(8 - a)+1 by omega];rfl
   have ai:=Zx h0 h1 (8 - a);have n:DT m (8 - a+3)=decide (m / 2 ^ (8 - a+3) % 2=1):=rfl;generalize al:m / 2 ^ (8 - a+3)=u at *;refine iY<|AB.sub (((8 - a:Nat):Int)) om om om<|EK u om (by rw [Zw om];exact al)<|Lm (u % 2) ai ?_;by_cases aa:u % 2=1
   .refine iY ?_;(conv=>whnf);rw [decide_eq_true aa] at n;rw [if_pos n] at o;rw [t,o];exact ⟨congrArg (Value.int .i64) (by simp only;omega),AD.refl _⟩
   .refine iN<|AB.sub (9 - ((a+1:Nat):Int)) om om om ?_;(conv=>whnf);rw [decide_eq_false aa] at n;rw [if_neg (by simp [n])] at o;exact ⟨a+1,om,rfl,om,by rw [t,o,show 9 - (a+1)=8 - a by omega],rfl⟩
  .obtain rfl:a=9:=om
   have am:Ia 9 m=none:=t;rw [am];by_cases ap:m=4
   .exact dM (f _) fun e b=>iY ⟨by simp [*],b⟩
   .exact dM (f _) fun e b=>iN ⟨by simp [*],b⟩
 .have s:Ci m mode=(if DT m 0=true then 11 else if DT m 1=true then 10 else if DT m 2=true/\¬ m / 8=0 then 0 else if ¬ m=0 then 1 else 12):=by
   unfold Ci;rw [if_neg ab]
  rw [s];have l:=aB6 h0 h1;have r:=aB5 h0 h1;have z:=aB4 h0 h1;have aq:=Um (m:=m);cases j:DT m 0
  .cases p:DT m 1
   .cases k:DT m 2
    .simp only [j,p,k,if_true,if_false,Bool.false_eq_true,false_and,true_and] at l r z ⊢;by_cases ak:m=0
     .rw [if_neg om];refine oV Tryz.func279 ?_;refine EK (m / 8) om Um ?_;refine iN<|dM (g _) fun e b=>AB.and<|Ak (fun af=>?_) fun af=>?_
      .exact ⟨om,b⟩
      .refine dM (i _) fun av q=>AB.and<|Ak (fun ag=>?_) fun ag=>?_
       .exact ⟨om,(xt b q)⟩
       .refine dM (f _) fun aw y=>AB.and<|Ak (fun ah=>?_) fun ah=>?_
        .exact iF<|iF ⟨rfl,(xt (xt b q) y)⟩
        .exact iF ⟨rfl,(xt (xt b q) y)⟩
     .rw [if_pos om];refine oV Tryz.func279 ?_;refine EK (m / 8) om Um ?_;refine iN<|dM (g _) fun e b=>AB.and ?_;refine iF<|dM (i _) fun x d=>AB.and ?_;refine iF<|dM (f _) fun ac h=>AB.and ?_;refine iF ?_;refine iT ?_;exact ⟨rfl,(xt (xt b d) h)⟩
    .simp only [j,p,k,if_true,if_false,Bool.false_eq_true,false_and,true_and] at l r z ⊢;have ak:¬ m=0:=fun ae=>by rw [ae] at k;revert k;decide
     by_cases au:m / 8=0
     .rw [if_neg om,if_pos om];refine oV Tryz.func279 ?_;refine EK (m / 8) om Um ?_;refine iN<|dM (g _) fun e b=>AB.and ?_;refine iF<|dM (i _) fun x d=>AB.and ?_;refine iF<|dM (f _) fun ac h=>AB.and ?_;refine iT ?_;refine iF ?_;refine iT ?_;exact ⟨rfl,(xt (xt b d) h)⟩
     .rw [if_pos om];refine oV Tryz.func279 ?_;refine EK (m / 8) om Um ?_;refine iN<|dM (g _) fun e b=>AB.and ?_;refine iF<|dM (i _) fun x d=>AB.and ?_;refine iF<|dM (f _) fun ac h=>AB.and ?_;refine iT ?_;refine iT ?_;exact ⟨rfl,(xt (xt b d) h)⟩
   .simp only [j,p,if_true,if_false,Bool.false_eq_true,false_and,true_and] at l r ⊢;refine oV Tryz.func279 ?_;refine EK (m / 8) om Um ?_;refine iN<|dM (g _) fun e b=>AB.and ?_;refine iF<|dM (i _) fun x d=>AB.and ?_;refine iT ?_;exact ⟨rfl,(xt b d)⟩
  .simp only [j,if_true] at l ⊢;refine oV Tryz.func279 ?_;refine EK (m / 8) om Um ?_;refine iN<|dM (g _) fun e b=>AB.and ?_;refine iT ?_;exact ⟨rfl,b⟩
theorem RO (h:Ar Aa w a n xs) (hn2:n<=40) {p:Ag} (hx:∀ x∈xs,x.length<=20/\(∀ m∈x,0<=m/\m<=4095)/\0<=p.col/\p.col<x.length) :
  Dq 218 [.slice a n c,.agg ⟨p.enc⟩] w (fun v w'=>∃ a' c',v = .slice a' 13 c'/\Ar DM w' a' 13 (Cn xs p)/\AD w w'):=by
 have di:=h.len;have dg:=h.le;obtain ⟨cr,ay,ch⟩:=h;have df:=ay.len;have dj:=N2 xs p;refine oV Tryz.func218 ?_;refine AB.box ?_;intro a7 bm c9 dm ba ai;refine bS Dm (vs:=[]) ?_;intro a8 c3 cf dp bb br;have dw:=ba.size;have dy:=bb.size;have bw:Bx (OG A0 144) w.heap.size 78 c3 (some ⟨a8,0,none⟩) 0 0 [] [a8]:=Eu br om;refine lR [0,3,5,11] (fun (e:Nat) a2 w'=>∃ ak al an,a2=[.slice a n c,.pointer (some ⟨a7,0,none⟩),.slice ak e al,.int .i64 e]/\e<=13/\Bx (OG A0 144) w.heap.size 78 w' ak e al ((Cn xs p).take e) an/\an.Nodup/\(∀ b∈an,bm.heap.size<=b)/\AD bm w') (fun e=>13 - e) 0 ⟨_,_,_,rfl,om,by simpa using bw,sI,by simpa using cf,bb⟩ ?_;rintro e ce _ a3 ⟨ak,al,an,rfl,de,ag,cp,bf,ap⟩;have be:=xt ba ap;rcases Nat.lt_or_ge e 13 with bg | bg
 .refine iY<|bS Bm (vs:=[]) ?_;intro b7 c4 cg dq cb bt;have bx:BZ A0 a3.heap.size 144 c4 (some ⟨b7,0,none⟩) 0 0 []:=EL bt cg;refine lR [0,3,5,6,7,11,15,16,17] (fun (b:Nat) a2 w'=>∃ ac ae af,a2=[.slice a n c,.pointer (some ⟨a7,0,none⟩),.slice ak e al,.int .i64 e,.slice ae ac af,.int .i64 e,.slice a n c,.int .i64 n,.int .i64 b]/\b<=n/\ac<=b/\BZ A0 a3.heap.size 144 w' ae ac af ((xs.take b).filter (Dt p e))/\AD a3 w') (fun b=>n - b) 0 ⟨_,_,_,rfl,om,om,by simpa using bx,cb⟩ ?_;rintro b ce _ bo ⟨ac,ae,af,rfl,ab,dh,ah,t⟩;have y:=xt be t;have u:=xt ap t;rcases Nat.lt_or_ge b n with cn | cn
  .obtain ⟨i,a1⟩:=AA (l:=cr) (k:=b) om;obtain ⟨aa,bl,ad⟩:=ch.get a1;have dk:=ad.1.len;have cs:=hx aa (List.mem_of_getElem? bl);obtain ⟨v,ar⟩:=AA (l:=aa) (k:=p.col.toNat) om;have bk:=cs.2.1 v (List.mem_of_getElem? ar);have dd:p.col=(p.col.toNat:Int):=om
   have bh:Dt p e aa=decide (Ci v p.mode=e):=by
    unfold Dt;rw [List.getD_eq_getElem?_getD,ar];rfl
   have bc:∀ q,Dq 279 [.int .i64 v,.int .i64 p.mode] q (fun cz w'=>cz = .int .i64 (Ci v p.mode)/\AD q w'):=fun q=>RQ bk.1 bk.2 q;have cj:∀ q,AD w q->Dq 181 [.agg ⟨eH i⟩] q (fun v w'=>∃ a' c',v = .agg ⟨eH ⟨a',i.n,c'⟩⟩/\Ad q.heap.size a'/\Ai eI 1 q.heap.size 2 w' a' i.n c' aa/\AD q w'):=fun q b'=>HL ⟨ad.1.ext b',ad.2⟩ om;have bd:=ad.1;have dc:=ad.2;have aq:(xs.take (b+1)).filter (Dt p e)=(xs.take b).filter (Dt p e)++(if Dt p e aa=true then [aa] else []):=by
    rw [List.take_add_one,bl,List.filter_append];by_cases bj:Dt p e aa=true
    .simp [bj]
    .simp [bj]
   by_cases bi:Ci v p.mode=e
   .rw [bh,decide_eq_true bi,if_pos rfl] at aq;refine iY<|jI (ay.ext y) b rfl a1 fun b4 cw ck az=>jA (n:=1) az rfl<|jN (z := .agg #[.slice none 0 0]) fun b5 c0 o ct j au=>jS (vs:=[Value.slice i.a i.n i.c]) au rfl rfl (by simp [AE]) fun c1 g aj=>dH (pB [0,2,4,6,8,10,12,14,18,17,21]) fun c2 r=>dL aj.cells (k:=0) rfl<|dL (ai.ext (xb (xt u j) g.but (nB u o))).cells (k:=0) rfl<|dI (bd.ext (xb (xt y j) g.but (nB y o))) (p.col).toNat om ar fun b6 cx cl a0=>dO a0 rfl<|dL (ai.ext (xb (xt u j) g.but (nB u o))).cells (k:=1) rfl<|dM (bc _) fun bn s=>⟨(xt r s),iY<|jA (n:=1) (aj.ext (xt r s)).cells rfl<|(cj _ (xt (xt (xb (xt y j) g.but (nB y o)) r) s)).mono ?_⟩;rintro _ du ⟨a6,a9,rfl,b2,av,ca⟩;refine AB.buildSlice Bm (vs:=[Value.agg ⟨eH ⟨a6,i.n,a9⟩⟩]) (by rfl) (by rfl) (by simp [Value.cells,eH]) dE ?_;intro b8 bp db dr aw bu;have bv:AK bp b8 0 (eH ⟨a6,i.n,a9⟩):=bu.cells;have a5:AD bo bp:=xt (xt (xt (xt (xb j g.but o) r) s) ca) aw;have c5:=Below.size (xt (xt (xb j g.but o) r) s);exact CX Bm rfl ah t.size a5 (Fg ((av.ext aw).own) av.le.1) (Dr (b2.mono c5) (fun x hx=>Nat.lt_of_lt_of_le (av.blk_lt x hx).2 aw.size)) bv om om fun c6 c8 dv bz cu dl=>jP (((b+1:Nat):Int)) ⟨b+1,om,_,_,_,rfl,om,om,by rw [aq];exact bz,xm (xt t a5) cu (AO (BZ.new ah))⟩
   .rw [bh,decide_eq_false bi,if_neg sI,List.append_nil] at aq;refine iY<|jI (ay.ext y) b rfl a1 fun b4 cw ck az=>jA (n:=1) az rfl<|jN (z := .agg #[.slice none 0 0]) fun b5 c0 o ct j au=>jS (vs:=[Value.slice i.a i.n i.c]) au rfl rfl (by simp [AE]) fun c1 g aj=>dH (pB [0,2,4,6,8,10,12,14,18,17,21]) fun c2 r=>dL aj.cells (k:=0) rfl<|dL (ai.ext (xb (xt u j) g.but (nB u o))).cells (k:=0) rfl<|dI (bd.ext (xb (xt y j) g.but (nB y o))) (p.col).toNat om ar fun b6 cx cl a0=>dO a0 rfl<|dL (ai.ext (xb (xt u j) g.but (nB u o))).cells (k:=1) rfl<|dM (bc _) fun bn s=>⟨(xt r s),iN<|jP (((b+1:Nat):Int)) ?_⟩;have a4:AD bo bn:=xt (xt (xb j g.but o) r) s;exact ⟨b+1,om,_,_,_,rfl,om,om,by rw [aq];exact ah.ext a4,xt t a4⟩
  .obtain rfl:b=n:=om
   rw [List.take_of_length_le om] at ah;have cq:=N3 xs p bg;refine iN<|bS Dm (vs:=[Value.slice ae ac af]) ?_;intro c7 dt da dn am bq;obtain ⟨cc,ci,ax⟩:=F9 ah;have co:=ag.lt;have d0:=t.size;have dz:=ap.size;have dx:=am.size;refine CY Dm rfl (ag.ext (xt t am)) cp om (d:=⟨ae,ac,af⟩) (x:=xs.filter (Dt p e)) (f:=cc) ⟨_,ci.ext am⟩ ax.1 (fun b ab cm=>by have:=(ax.2 b ab).1;have:=co b cm;omega) bq.cells om om fun b3 b9 ds cd b0 cv cy b1=>jP (((e+1:Nat):Int)) ?_;exact ⟨e+1,om,b3,b9,cd,rfl,om,by rw [List.take_add_one,cq];exact b0,cv,fun b ab=>by
    rcases cy b ab with ao | ao | ao
    .exact bf b ao
    .have:=(ax.2 b ao).1;omega
    .omega,xm (xt (xt ap t) am) b1 fun b ab=>bf b (ag.blk b ab)⟩
 .obtain rfl:e=13:=om
  rw [List.take_of_length_le om] at ag;exact ⟨_,_,rfl,ag.own.arr,be⟩
theorem NS (mode:Int) (w:World):Dq 278 [.int .i64 mode] w (fun v w'=>∃ a n c,v = .slice a n c/\A4 eI 1 w' a n (BF mode)/\(∀ x,a=some x->w.heap.size<=x.block/\x.block<w'.heap.size)/\AD w w'):=by
 unfold BF;refine oV Tryz.func278 ?_;conv=>whnf
 by_cases f:mode=2
 .rw [if_pos f];refine iY<|bS B5 (vs:=[Value.int IntKind.i64 12,Value.int IntKind.i64 11,Value.int IntKind.i64 10,Value.int IntKind.i64 0,Value.int IntKind.i64 1]) ?_;intro p r d m k g;have i:=AG (n:=5) (enc:=eI) (xs:=[12,11,10,0,1]) AI g d rfl dE;exact ⟨_,_,_,rfl,i.own.arr AI,fun x b=>by cases b;exact ⟨d,m⟩,k⟩
 .rw [if_neg f];refine iN<|bS B5 (vs:=[Value.int IntKind.i64 12,Value.int IntKind.i64 0,Value.int IntKind.i64 1,Value.int IntKind.i64 2,Value.int IntKind.i64 3,Value.int IntKind.i64 4,Value.int IntKind.i64 5,Value.int IntKind.i64 6,Value.int IntKind.i64 7,Value.int IntKind.i64 8,Value.int IntKind.i64 9]) ?_;intro q s e o l h;have j:=AG (n:=11) (enc:=eI) (xs:=[12,0,1,2,3,4,5,6,7,8,9]) AI h e rfl dE;exact ⟨_,_,_,rfl,j.own.arr AI,fun x b=>by cases b;exact ⟨e,o⟩,l⟩
theorem RY {Ps:List (List (List Int))} (h:Ar DM w a 13 Ps) (hx:∀ d∈Ps,d.length<=40/\∀ x∈d,x.length<=20) :
  Dq 217 [.slice a 13 c,.int .i64 mode] w (fun v w'=>∃ a' m c',v = .slice a' m c'/\m<=c'/\Ar Aa w' a' m ((BF mode).flatMap fun k=>Ps.getD k.toNat [])/\AD w w'):=by
 have b2:=h.len;obtain ⟨bd,ak,a1⟩:=h;have b0:=ak.len;have bx:=QN mode;have a9:=QO mode;have a4:∀ e,Dq 278 [.int .i64 mode] e (fun v w'=>∃ a ao c,v = .slice a ao c/\A4 eI 1 w' a ao (BF mode)/\(∀ x,a=some x->e.heap.size<=x.block/\x.block<w'.heap.size)/\AD e w'):=fun e=>NS mode e;refine oV Tryz.func217 ?_;refine bS Bm (vs:=[]) ?_;intro ah ap aj bg ai au;have aw:Bx A0 w.heap.size 144 ap (some ⟨ah,0,none⟩) 0 0 [] [ah]:=Eu au aj;refine (a4 _).mono ?_;rintro _ aq ⟨ag,no,ay,rfl,ad,ax,z⟩;have b3:=ad.len;refine lR [0,5,10,11,12] (fun (k:Nat) bk w'=>∃ u q y s,bk=[.slice a 13 c,.slice u q y,.slice ag no ay,.int .i64 no,.int .i64 k]/\k<=no/\q<=40 * k/\Bx A0 w.heap.size 144 w' u q y (((BF mode).take k).flatMap fun k=>Ps.getD k.toNat []) s/\s.Nodup/\(∀ b∈s,w.heap.size<=b/\(b<ap.heap.size\/aq.heap.size<=b))/\AD w w'/\aq.heap.size<=w'.heap.size/\A4 eI 1 w' ag no (BF mode)) (fun k=>no - k) 0 ⟨_,_,_,_,rfl,om,om,by simpa using aw.ext z,sI,by simpa using ⟨aj,.inl bg⟩,xt ai z,Nat.le_refl _,ad⟩ ?_;have cd:=ai.size;have ce:=z.size;rintro k bq _ ca ⟨u,q,y,s,rfl,bz,b1,f,bc,ab,o,bu,ae⟩;rcases Nat.lt_or_ge k no with ba | ba
 .obtain ⟨v,ac⟩:=AA (l:=BF mode) (k:=k) om;have b4:=a9 v (List.mem_of_getElem? ac);obtain ⟨g,am⟩:=AA (l:=bd) (k:=v.toNat) om;obtain ⟨ar,an,af⟩:=a1.get am;have b5:=af.1.len;have bf:=hx ar (List.mem_of_getElem? an);have al:=SP (Ps:=Ps) ac;rw [List.getD_eq_getElem?_getD (l:=Ps) (i:=v.toNat),an,Option.getD_some] at al;have a3:∀ e,AD w e->Dq 112 [.slice g.a g.n g.c] e (fun v w'=>∃ a' c',v = .slice a' g.n c'/\g.n<=c'/\BZ A0 e.heap.size 144 w' a' g.n c' ar/\Ad e.heap.size a'/\AD e w'):=fun e az=>FR (af.1.ext az) om (fun x be=>by have:=bf.2 x be;omega);refine iY<|jI ae k rfl ac fun bn b6 bv a6=>jO a6 rfl<|jI (ak.ext o) v.toNat om am fun bo b7 bw a7=>jO a7 rfl<|(a3 _ o).mono ?_;rintro _ b9 ⟨bm,bp,rfl,b8,bi,bl,r⟩;obtain ⟨br,a2,aa⟩:=F9 bi;have bb:=f.lt;have cb:=r.size;have cf:=o.size;refine JQ Bm rfl (f.ext r) bc om a2 aa.1 (fun b p a8=>by have:=(aa.2 b p).1;have:=bb b a8;omega) om om ?_;intro a' c' b' a0 av bh bj t;have cc:=t.size;refine jP (((k+1:Nat):Int)) ?_;exact ⟨k+1,om,a',q+g.n,c',a0,rfl,om,om,by rw [al];exact av,bh,fun b p=>by
   rcases bj b p with j | j | j
   .exact ab b j
   .have:=(aa.2 b j).1;omega
   .omega,xm (xt o r) t (fun b p=>(ab b (f.blk b p)).1),om,(ae.ext r).mod t fun x hx a5=>by
   have j:=ax x hx;have bt:=(ab _ (f.blk _ a5)).2;omega⟩
 .obtain rfl:k=no:=om
  rw [List.take_of_length_le om] at f;exact iN ⟨_,_,_,rfl,f.le.1,f.own.arr,o⟩
theorem P2 {b:Option Addr} {m d:Nat} (h:Ar Aa w a n xs) (hn2:n<=40) {l:List Ag} (hl:A4 Ag.enc 2 w b m l) (hm2:m<=40) (hx:∀ x∈xs,x.length<=20/\(∀ m∈x,0<=m/\m<=4095)/\∀ p∈l,0<=p.col/\p.col<x.length) :
  Dq 144 [.slice a n c,.slice b m d] w (fun v w'=>∃ a' m' c',v = .slice a' m' c'/\Ar Aa w' a' m' (Ch xs l)/\AD w w'):=by
 have bk:=h.len;have bj:=hl.len;have au:∀ e,AD w e->Dq 112 [.slice a n c] e (fun v w'=>∃ a' c',v = .slice a' n c'/\n<=c'/\BZ A0 e.heap.size 144 w' a' n c' xs/\Ad e.heap.size a'/\AD e w'):=fun e u=>FR (h.ext u) om (fun x i=>by have:=(hx x i).1;omega);refine oV Tryz.func144 ?_;refine (au _ (AD.refl _)).mono ?_;rintro _ a4 ⟨an,bd,rfl,ay,am,a6,ao⟩;have ap:Ar Aa a4 an n xs:=am.ownN.arr;refine lR [5,10,11,12] (fun (f:Nat) a3 w'=>∃ o j q,a3=[.slice o j q,.slice b m d,.int .i64 m,.int .i64 f]/\f<=m/\j<=q/\Ar Aa w' o j (Ch xs (l.take f))/\AD w w') (fun f=>m - f) 0 ⟨_,_,_,rfl,om,ay,by simpa [Ch] using ap,ao⟩ ?_;rintro f be _ a5 ⟨o,j,q,rfl,bg,bi,s,t⟩;rcases Nat.lt_or_ge f m with az | az
 .obtain ⟨p,aa⟩:=AA (l:=l) (k:=f) om;have a0:=List.mem_of_getElem? aa;have a1:=Uo (d:=xs) aa;have bl:=TW (l.take f) xs;have bh:=s.len;generalize aq:Ch xs (l.take f)=g at *;have ag:∀ x∈g,x.length<=20/\(∀ m∈x,0<=m/\m<=4095)/\0<=p.col/\p.col<x.length:=fun x i=>by
   rw [<- aq] at i;have:=hx x (TV _ _ i);exact ⟨this.1,this.2.1,this.2.2 p a0⟩
  have aw:∀ e,AD a5 e->Dq 218 [.slice o j q,.agg ⟨p.enc⟩] e (fun v w'=>∃ a' c',v = .slice a' 13 c'/\Ar DM w' a' 13 (Cn g p)/\AD e w'):=fun e u=>RO (s.ext u) om ag;have av:∀ d∈Cn g p,d.length<=40/\∀ x∈d,x.length<=20:=fun d ah=>by
   unfold Cn at ah;obtain ⟨a2,_,rfl⟩:=List.mem_map.1 ah;exact ⟨by have:=List.length_filter_le (Dt p a2) g;omega,fun x i=>(ag x (List.mem_filter.1 i).1).1⟩
  have ar:∀ e a' c',Ar DM e a' 13 (Cn g p)->Dq 217 [.slice a' 13 c',.int .i64 p.mode] e (fun v w'=>∃ a' m c',v = .slice a' m c'/\m<=c'/\Ar Aa w' a' m (Gv g p)/\AD e w'):=fun e a' c' ai=>RY ai av;refine iY<|jI (hl.ext t) f rfl aa fun a9 bo bf ax=>jA (n:=2) ax rfl<|jN (z := .agg #[.int .i64 0,.int .i64 0]) fun ba bt af bm ae al=>jS al (vs:=p.enc) rfl rfl (by simp [Ag.enc,AE]) fun bu ac ab=>dH (pB [0,2,6,8,5,11,13]) fun bv r=>dA (n:=2) ab.cells rfl<|dL ab.cells (k:=1) rfl<|(aw _ (xt (xb ae ac.but af) r)).mono ?_;rintro _ bq ⟨a8,bb,rfl,aj,y⟩;refine ⟨(xt r y),(ar _ _ _ aj).mono ?_⟩;rintro _ br ⟨a7,bn,bc,rfl,bp,ak,ad⟩;refine ⟨(xt (xt r y) ad),jP (((f+1:Nat):Int)) ⟨f+1,om,_,_,_,rfl,om,om,?_,(xt (xt (xt (xb (xt t ae) ac.but (nB t af)) r) y) ad)⟩⟩
  .rw [a1];exact ak
 .obtain rfl:f=m:=om
  rw [List.take_of_length_le om] at s;exact iN ⟨_,_,_,rfl,s,t⟩
end Go.Proofs.YtalgenmoljcnmaaGreatDoor
