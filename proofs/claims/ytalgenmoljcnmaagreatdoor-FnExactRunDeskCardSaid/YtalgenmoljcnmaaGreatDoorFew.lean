/- Parts of the proof; no conditions of its own. -/
import Derived.Test.YtalgenmoljcnmaaGreatDoorPass
namespace Go.Vc
open Go Go.RowKit
theorem Wu {P:Program} {s t:Nat} {k:IntKind} (ht:Ij P t=some k) (hs:(P.underlying s).isSome=true) {k0:IntKind} {n:Int} {w:World} {K:Value->World->Prop} (hK:K (.int k (k.wrap n)) w) :
  AB P (convert s t (.int k0 n)) w K:=by
 have b:P.underlying t=some (.int k):=by
  unfold Ij at ht;split at ht<;>simp_all
 obtain ⟨c,a⟩:=Option.isSome_iff_exists.1 hs;refine A1 ?_ hK;simp [convert,run_underlying b,run_underlying a,Conv.intToInt]
end Go.Vc
namespace Go.M
open Go Go.Vc
variable {n s k:Nat} {f:AF} {p:Ag} {full:List Ag}
theorem Vp (s i:Nat):decide (((s:Int) / 2 ^ i) % 2=1)=s.testBit i:=by
 rw [Nat.testBit_eq_decide_div_mod_eq,decide_eq_decide];constructor
 .intro a
  exact_mod_cast a
 .intro a
  exact_mod_cast a
theorem Ig (k s:Nat):DB (k+1) s=if s.testBit k=true then DB k s++[k] else DB k s:=by
 unfold DB;rw [List.range_succ,List.filter_append];by_cases a:s.testBit k=true
 .rw [if_pos a];simp [a]
 .rw [if_neg a];simp [a]
theorem L3 (k s:Nat):(DB k s).length<=k:=by
 unfold DB;refine Nat.le_trans (List.length_filter_le _ _) ?_;simp
theorem O2 {i:Nat} (h:i∈DB n s):i<n:=by
 have:=(List.mem_filter.1 h).1;simpa using this
theorem Kd (d due:List (List Int)) (full:List Ag) (k:Nat):(List.range (k+1)).foldl (Co d due full) ([],false)=Co d due full ((List.range k).foldl (Co d due full) ([],false)) k:=by
 rw [List.range_succ,List.foldl_append];rfl
theorem XQ (d due:List (List Int)) (full:List Ag) (k:Nat):∀ i∈((List.range k).foldl (Co d due full) ([],false)).1,i<full.length:=by
 induction k with
 | zero=>simp
 | succ k a =>
  rw [Kd];unfold Co;split
  .exact a
  split
  .exact a
  .intro i b;exact O2 b
theorem Vr (d due:List (List Int)) (full:List Ag) (k:Nat):((List.range k).foldl (Co d due full) ([],false)).1.length<=full.length:=by
 induction k with
 | zero=>simp
 | succ k a =>
  rw [Kd];unfold Co;split
  .exact a
  split
  .exact a
  .exact L3 _ _
theorem QP (f:AF):(Bt f).length=2 * CF f:=by
 unfold Bt;rw [List.length_flatMap];have:∀ a:Nat,((List.range a).map fun _=>2).sum=2 * a:=by
  intro a;induction a with
  | zero=>rfl
  | succ a b=>rw [List.range_succ,List.map_append,List.sum_append,b];simp;omega
 simpa using this (CF f)
theorem SQ (f:AF) (k:Nat):((List.range (k+1)).flatMap fun (i:Nat)=>([⟨f.to_ - 1 - i,1⟩,⟨f.to_ - 1 - i,2⟩]:List Ag))=((List.range k).flatMap fun (i:Nat)=>([⟨f.to_ - 1 - i,1⟩,⟨f.to_ - 1 - i,2⟩]:List Ag))++[⟨f.to_ - 1 - k,1⟩,⟨f.to_ - 1 - k,2⟩]:=by
 rw [List.range_succ,List.flatMap_append];simp
theorem O6 {W:Int} (hf:AR f W=true) (hp:p∈Bt f):0<=p.col/\p.col<W/\(p.mode=1\/p.mode=2):=by
 have c:=BV hf;unfold Bt at hp;rw [List.mem_flatMap] at hp;obtain ⟨b,a,hp⟩:=hp;have a:b<CF f:=by simpa using a
 have d:(CF f:Int)=f.to_ - f.from_:=by unfold CF;omega
 simp only [List.mem_cons,List.not_mem_nil,or_false] at hp;rcases hp with rfl | rfl
 .exact ⟨by simp only;omega,by simp only;omega,.inl rfl⟩
 .exact ⟨by simp only;omega,by simp only;omega,.inr rfl⟩
theorem R9 (hp:full[k]? = some p):Bp full (DB (k+1) s)=if s.testBit k=true then Bp full (DB k s)++[p] else Bp full (DB k s):=by
 rw [Ig];split
 .unfold Bp;rw [List.map_append,List.map_singleton,List.getD_eq_getElem?_getD,hp];rfl
 .rfl
theorem Uu {own:List Nat} (h:∀ i∈own,i<full.length) (hp:p∈Bp full own):p∈full:=by
 unfold Bp at hp;obtain ⟨i,a,rfl⟩:=List.mem_map.1 hp;have:=h i a;rw [List.getD_eq_getElem?_getD,List.getElem?_eq_getElem this];exact List.getElem_mem _
def U0 (s:Nat):Nat:=(DB 8 s).length
theorem Ys (hn:n<=8) (hs:s<2 ^ n):(DB n s).length=U0 s:=by
 have a:∀ n:Fin 9,∀ s:Fin 256,s.val<2 ^ n.val->(DB n.val s.val).length=U0 s.val:=by decide +kernel
 have b:2 ^ n<=2 ^ 8:=Nat.pow_le_pow_right dE hn;exact a ⟨n,om⟩ ⟨s,om⟩ hs
def aE8 (x:Int):Int:=IntKind.u64.wrap (FM .u64 (x.fdiv (2 ^ min (1:Int).toNat IntKind.u64.bits)) 6148914691236517205+FM .u64 x 6148914691236517205)
def aE7 (x:Int):Int:=IntKind.u64.wrap (FM .u64 (x.fdiv (2 ^ min (2:Int).toNat IntKind.u64.bits)) 3689348814741910323+FM .u64 x 3689348814741910323)
def aE6 (x:Int):Int:=FM .u64 (IntKind.u64.wrap (x.fdiv (2 ^ min (4:Int).toNat IntKind.u64.bits)+x)) 1085102592571150095
def aE5 (x:Int):Int:=IntKind.u64.wrap (x+x.fdiv (2 ^ min (8:Int).toNat IntKind.u64.bits))
def aE4 (x:Int):Int:=IntKind.u64.wrap (x+x.fdiv (2 ^ min (16:Int).toNat IntKind.u64.bits))
def aE3 (x:Int):Int:=IntKind.u64.wrap (x+x.fdiv (2 ^ min (32:Int).toNat IntKind.u64.bits))
def aE2 (x:Int):Int:=FM .i64 (IntKind.i64.wrap (aE3 (aE4 (aE5 (aE6 (aE7 (aE8 x))))))) 127
theorem VG {d:List (List Int)} (h:(Bn d f).2=0):Ax d=true/\AR f (AJ d)=true/\Da d f=true:=by
 rcases Lb d f with ⟨g,e,i⟩ | ⟨a,b,c,_⟩
 .rw [e] at h;simp only at h;omega
 .exact ⟨a,b,c⟩
theorem Yg {m:Int} (hk:k<=8):m.fdiv (2 ^ min ((k:Int)).toNat IntKind.i64.bits)=m / 2 ^ k:=by
 have a:min ((k:Int)).toNat IntKind.i64.bits=k:=by
  have:IntKind.i64.bits=64:=rfl;rw [this,Int.toNat_natCast];omega
 rw [a,QV]
theorem Zg (h:n<=8):IntKind.i64.wrap (1 * 2 ^ min ((n:Int)).toNat IntKind.i64.bits)=((2 ^ n:Nat):Int):=by
 have a:∀ n:Fin 9,IntKind.i64.wrap (1 * 2 ^ min ((n.val:Int)).toNat IntKind.i64.bits)=((2 ^ n.val:Nat):Int):=by decide +kernel
 exact a ⟨n,om⟩
end Go.M
namespace Go.Proofs.YtalgenmoljcnmaaGreatDoor
open Go Go.RowKit Go.Vc Go.M
variable {f:AF} {s n c:Nat} {w:World} {a:Option Addr}
theorem RZ {W:Int} (hf:AR f W=true) (hW:W<=1000) (w:World):Dq 139 [.agg ⟨f.enc⟩] w (fun v w'=>∃ a n c,v = .slice a n c/\A4 Ag.enc 2 w' a n (Bt f)/\AD w w'):=by
 have ak:=BV hf;have am:(CF f:Int)=f.to_ - f.from_:=by unfold CF;omega
 refine oV Tryz.func139 ?_;conv=>whnf
 refine AB.box ?_;intro u o aj ao x e;(conv=>whnf);refine bS EG (vs:=[]) ?_;intro af ar y ap l p;have r:=Ab (enc:=Ag.enc) AX p y;(conv=>whnf);refine jL (e.ext l).cells (k:=1) rfl ?_;(conv=>whnf);refine AB.sub (f.to_ - 1 - ((0:Nat):Int)) om om om ?_;(conv=>whnf);refine lR [1,3,4] (fun (b:Nat) ad w'=>∃ g h,ad=[.pointer (some ⟨u,0,none⟩),.slice g (2 * b) h,.int .i64 (f.to_ - 1 - (b:Int))]/\b<=CF f/\Ai Ag.enc 2 o.heap.size 193 w' g (2 * b) h ((List.range b).flatMap fun (m:Nat)=>([⟨f.to_ - 1 - m,1⟩,⟨f.to_ - 1 - m,2⟩]:List Ag))/\AD o w') (fun b=>CF f - b) 0 ⟨_,_,rfl,om,by simpa using r,l⟩ ?_;rintro b ai _ au ⟨g,h,rfl,al,j,d⟩;have ab:=SQ f b;rcases Nat.lt_or_ge b (CF f) with aa | aa
 ·(conv=>whnf);refine jL (e.ext d).cells (k:=0) rfl ?_;(conv=>whnf);refine iY ?_;(conv=>whnf);refine AB.build S9 rfl ?_;(conv=>whnf);refine AB.build S9 rfl ?_;(conv=>whnf);refine bS EG (vs:=[Value.agg #[Value.int IntKind.i64 (f.to_ - 1 - ↑b),Value.int IntKind.i64 1],Value.agg #[Value.int IntKind.i64 (f.to_ - 1 - ↑b),Value.int IntKind.i64 2]]) ?_;intro ag av z aq i q;have s:=AG (n:=2) (enc:=Ag.enc) (xs:=[⟨f.to_ - 1 - ↑b,1⟩,⟨f.to_ - 1 - ↑b,2⟩]) AX q z rfl dE;(conv=>whnf);refine AM (enc:=Ag.enc) EG AX (j.ext i) (s.own.arr AX) (by intro ax _;simp [Ag.enc,AE]) om om (Below.size (xt d i)) ?_;intro ae ah aw t ac an;(conv=>whnf);refine AB.sub (f.to_ - 1 - ((b+1:Nat):Int)) om om om ?_;(conv=>whnf);exact ⟨b+1,om,_,_,rfl,om,by rw [ab];exact t,xm (xt d i) ac (AO j.new)⟩
 .obtain rfl:b=CF f:=om
  (conv=>whnf);refine jL (e.ext d).cells (k:=0) rfl ?_;(conv=>whnf);refine iN ?_;(conv=>whnf);exact ⟨_,_,_,rfl,(j.own.arr AX),(xt x d)⟩
theorem Ob (hs:s<256) (w:World):Dq 213 [.int .u64 s] w (fun v w'=>v = .int .i64 (U0 s)/\AD w w'):=by
 have b:∀ s:Fin 256,aE2 (s.val:Int)=(U0 s.val:Int):=by decide +kernel
 have a:=b ⟨s,hs⟩;simp only at a;unfold aE2 aE3 aE4 aE5 aE6 aE7 aE8 at a;refine oV Tryz.func213 ?_;conv=>whnf
 refine AB.shr om ?_;(conv=>whnf);refine AB.and ?_;(conv=>whnf);refine AB.and ?_;(conv=>whnf);refine HX ?_;(conv=>whnf);refine AB.shr om ?_;(conv=>whnf);refine AB.and ?_;(conv=>whnf);refine AB.and ?_;(conv=>whnf);refine HX ?_;(conv=>whnf);refine AB.shr om ?_;(conv=>whnf);refine HX ?_;(conv=>whnf);refine AB.and ?_;(conv=>whnf);refine AB.shr om ?_;(conv=>whnf);refine HX ?_;(conv=>whnf);refine AB.shr om ?_;(conv=>whnf);refine HX ?_;(conv=>whnf);refine AB.shr om ?_;(conv=>whnf);refine HX ?_;(conv=>whnf);refine Wu (k := .i64) kR kR ?_
 (conv=>whnf);refine AB.and ?_;(conv=>whnf);exact ⟨congrArg (Value.int .i64) a,AD.refl _⟩
theorem RI (hs:s<256) (w:World):Dq 141 [.int .u64 s] w (fun v w'=>v = .int .i64 (U0 s)/\AD w w'):=by
 refine oV Tryz.func141 ?_;conv=>whnf
 refine dM (Ob hs _) fun b a=>?_;(conv=>whnf);exact ⟨rfl,a⟩
theorem VK {m:Int} (hm:m=1\/m=2) (w:World):Dq 145 [.int .i64 m] w (fun v w'=>v = .bool true/\w=w'):=by
 rcases hm with rfl | rfl
 .refine oV Tryz.func145 ?_;conv=>whnf
  exact ⟨rfl,rfl⟩
 .refine oV Tryz.func145 ?_;conv=>whnf
  exact ⟨rfl,rfl⟩
theorem Rh {l:List Ag} (h:A4 Ag.enc 2 w a n l) (hn2:n<=40) (hok:∀ p∈l,BM p.col/\(p.mode=1\/p.mode=2)) (hT:F7 w) :
  Dq 80 [.slice a n c] w (fun v w'=>v = .string (Dh 32 (l.map Bb))/\AD w w'):=by
 have bu:=h.len;have a5:∀ p∈l,∀ aa,Dq 145 [.int .i64 p.mode] aa (fun v w'=>v = .bool true/\aa=w'):=fun p t aa=>VK (hok p t).2 aa;refine oV Tryz.func80 ?_;conv=>whnf
 refine bS BI (vs:=[]) ?_;intro bn bw a3 bv a1 au;have av:=Ab (enc:=eS) AQ au a3;(conv=>whnf);refine lR [3,7,8,9] (fun (b:Nat) bf w'=>∃ x ae,bf=[.slice x b ae,.slice a n c,.int .i64 n,.int .i64 b]/\b<=n/\(∃ ak,x=some ⟨ak,0,none⟩)/\Ai eS 1 w.heap.size 9 w' x b ae ((l.take b).map Bb)/\AD w w') (fun b=>n - b) 0 ⟨_,_,rfl,om,⟨_,rfl⟩,by simpa using av,a1⟩ ?_;rintro b bo _ bx ⟨x,ae,rfl,bt,⟨ak,rfl⟩,q,d⟩;rcases Nat.lt_or_ge b n with a7 | a7
 .obtain ⟨p,t⟩:=AA (l:=l) (k:=b) om;have aq:=List.mem_of_getElem? t;obtain ⟨ai,a9⟩:=hok p aq;have am:=a5 p aq;have ap:=Ct Bb t;have br:=Bc ai.1 ai.2;have an:=ai;rcases a9 with r | r
  .have ah:Bb p=BP p.col++bs [100]:=by unfold Bb;rw [if_pos r]
   (conv=>whnf);refine iY ?_;(conv=>whnf);refine jI (h.ext d) b rfl t ?_;intro ax be a6 ag;(conv=>whnf);refine jA (n:=2) ag rfl ?_;(conv=>whnf);refine jN (z := .agg #[.int .i64 0,.int .i64 0]) ?_;intro ay bg o bc j ab;(conv=>whnf);refine jS ab (vs:=p.enc) rfl rfl (by simp [Ag.enc,AE]) ?_;intro bh i g;(conv=>whnf);refine jL g.cells (k:=1) rfl ?_;(conv=>whnf);refine (am _).mono ?_;rintro _ _ ⟨rfl,rfl⟩;(conv=>whnf);refine Av A8 mixed (pZ [0,5,20,35,11,26,30,41,46,17,50,57,63,65]) kR kR ?_;(conv=>whnf);intro bi e;(conv=>whnf);refine dL g.cells (k:=0) rfl ?_;(conv=>whnf);refine dL g.cells (k:=1) (v := .int .i64 1) (by simp [Ag.enc,r]) ?_;(conv=>whnf);refine DN.sub 0 rfl om om ?_;(conv=>whnf);refine dL g.cells (k:=1) (v := .int .i64 1) (by simp [Ag.enc,r]) ?_;(conv=>whnf);refine H7 kR (s:=⟨#[100,122]⟩) 0 1 dE dE (.inr rfl) (.inr rfl) ?_;(conv=>whnf);rw [show (ByteArray.mk #[100,122]).extract 0 1=bs [100] from by decide];refine dM (Ck an (hT.ext (xt (xb (xt d j) i.but (nB d o)) e))) fun bj f=>?_;(conv=>whnf);refine ⟨(xt e f),?_⟩;(conv=>whnf);refine F8 (by simp only [ByteArray.size_append,AV,CO,CZ,List.length_cons,List.length_nil];omega) ?_;(conv=>whnf);refine bS BI (vs:=[Value.string (BP p.col++bs [100])]) ?_;intro az bk af bd m ac;have ad:=AG (n:=1) (enc:=eS) (xs:=[BP p.col++bs [100]]) AQ ac af rfl dE;(conv=>whnf);refine ⟨(xt (xt e f) m),?_⟩;(conv=>whnf);refine AM (enc:=eS) BI AQ (q.ext (xt (xt (xt (xb j i.but o) e) f) m)) (ad.own.arr AQ) (by intro ar _;simp [eS,AE]) om om (Below.size (xt (xt (xt (xb (xt d j) i.but (nB d o)) e) f) m)) ?_;intro aw a0 bl u aj bb;(conv=>whnf);refine jP (((b+1:Nat):Int)) ?_;(conv=>whnf);refine ⟨b+1,om,_,_,rfl,om,?_,?_,(xm (xt (xt (xt (xb (xt d j) i.but (nB d o)) e) f) m) aj (AO q.new))⟩
   .exact u.own.some om
   .rw [ap,ah];exact u
  .have ah:Bb p=BP p.col++bs [122]:=by unfold Bb;rw [if_neg om]
   (conv=>whnf);refine iY ?_;(conv=>whnf);refine jI (h.ext d) b rfl t ?_;intro ax be a6 ag;(conv=>whnf);refine jA (n:=2) ag rfl ?_;(conv=>whnf);refine jN (z := .agg #[.int .i64 0,.int .i64 0]) ?_;intro ay bg o bc j ab;(conv=>whnf);refine jS ab (vs:=p.enc) rfl rfl (by simp [Ag.enc,AE]) ?_;intro bh i g;(conv=>whnf);refine jL g.cells (k:=1) rfl ?_;(conv=>whnf);refine (am _).mono ?_;rintro _ _ ⟨rfl,rfl⟩;(conv=>whnf);refine Av A8 mixed (pZ [0,5,20,35,11,26,30,41,46,17,50,57,63,65]) kR kR ?_;(conv=>whnf);intro bi e;(conv=>whnf);refine dL g.cells (k:=0) rfl ?_;(conv=>whnf);refine dL g.cells (k:=1) (v := .int .i64 2) (by simp [Ag.enc,r]) ?_;(conv=>whnf);refine DN.sub 1 rfl om om ?_;(conv=>whnf);refine dL g.cells (k:=1) (v := .int .i64 2) (by simp [Ag.enc,r]) ?_;(conv=>whnf);refine H7 kR (s:=⟨#[100,122]⟩) 1 2 dE dE (.inr rfl) (.inr rfl) ?_;(conv=>whnf);rw [show (ByteArray.mk #[100,122]).extract 1 2=bs [122] from by decide];refine dM (Ck an (hT.ext (xt (xb (xt d j) i.but (nB d o)) e))) fun bj f=>?_;(conv=>whnf);refine ⟨(xt e f),?_⟩;(conv=>whnf);refine F8 (by simp only [ByteArray.size_append,AV,CO,CZ,List.length_cons,List.length_nil];omega) ?_;(conv=>whnf);refine bS BI (vs:=[Value.string (BP p.col++bs [122])]) ?_;intro az bk af bd m ac;have ad:=AG (n:=1) (enc:=eS) (xs:=[BP p.col++bs [122]]) AQ ac af rfl dE;(conv=>whnf);refine ⟨(xt (xt e f) m),?_⟩;(conv=>whnf);refine AM (enc:=eS) BI AQ (q.ext (xt (xt (xt (xb j i.but o) e) f) m)) (ad.own.arr AQ) (by intro ar _;simp [eS,AE]) om om (Below.size (xt (xt (xt (xb (xt d j) i.but (nB d o)) e) f) m)) ?_;intro aw a0 bl u aj bb;(conv=>whnf);refine jP (((b+1:Nat):Int)) ?_;(conv=>whnf);refine ⟨b+1,om,_,_,rfl,om,?_,?_,(xm (xt (xt (xt (xb (xt d j) i.but (nB d o)) e) f) m) aj (AO q.new))⟩
   .exact u.own.some om
   .rw [ap,ah];exact u
 .obtain rfl:b=n:=om
  rw [List.take_of_length_le om] at q;have ao:=O3 32 ((l.map Bb).map (·.data.toList)) (B:=22) (fun ar a'=>by
   obtain ⟨b0,ba,rfl⟩:=List.mem_map.1 a';obtain ⟨y,a8,rfl⟩:=List.mem_map.1 ba;have al:=hok y a8;have bp:=Bc al.1.1 al.1.2;have bq:(Bb y).size=(BP y.col).size+1:=by
    unfold Bb;rw [ByteArray.size_append];split<;>rfl
   show (Bb y).data.toList.length<=22;simp;omega)
  have a4:=Px (sep:=⟨#[32]⟩) q.own q.le.1 om (by
   simp only [List.length_map] at ao;have:(Lib.join (List.map (fun bm=>bm.data.toList) (List.map Bb l)) [32]).length<=40 * 23:=by
    exact Nat.le_trans ao<|Nat.mul_le_mul_right _ om
   show (Lib.join _ [32]).length<=_;omega)
  (conv=>whnf);refine iN ?_;(conv=>whnf);refine a4.mono ?_;rintro _ bz ⟨rfl,a2⟩;(conv=>whnf);exact ⟨rfl,xt d a2⟩
theorem FQ (x:Int) (w:World):Dq 276 [.int .i64 x] w (fun v w'=>v = .bool false/\w=w'):=by
 refine oV Tryz.func276 ?_;conv=>whnf
 exact ⟨by simp [*],rfl⟩
theorem LY (x y:Int) (w:World):Dq 214 [.int .i64 x,.int .i64 y] w (fun v w'=>v = .int .i64 (if x<y then -1 else if y<x then 1 else 0)/\AD w w'):=by
 by_cases a:x<y
 .rw [if_pos a];refine oV Tryz.func214 ?_;conv=>whnf
  refine (FQ _ _).mono ?_;rintro _ _ ⟨rfl,rfl⟩;(conv=>whnf);refine (FQ _ _).mono ?_;rintro _ _ ⟨rfl,rfl⟩;(conv=>whnf);refine iY ?_;(conv=>whnf);exact ⟨rfl,AD.refl _⟩
 .rw [if_neg a];by_cases b:y<x
  .rw [if_pos b];refine oV Tryz.func214 ?_;conv=>whnf
   refine (FQ _ _).mono ?_;rintro _ _ ⟨rfl,rfl⟩;(conv=>whnf);refine (FQ _ _).mono ?_;rintro _ _ ⟨rfl,rfl⟩;(conv=>whnf);refine iN ?_;(conv=>whnf);refine iY ?_;(conv=>whnf);exact ⟨rfl,AD.refl _⟩
  .rw [if_neg b];refine oV Tryz.func214 ?_;conv=>whnf
   refine (FQ _ _).mono ?_;rintro _ _ ⟨rfl,rfl⟩;(conv=>whnf);refine (FQ _ _).mono ?_;rintro _ _ ⟨rfl,rfl⟩;(conv=>whnf);refine iN ?_;(conv=>whnf);refine iN ?_;(conv=>whnf);exact ⟨rfl,AD.refl _⟩
theorem J2 {b:Option Addr} {m d:Nat} {xs ys:List Nat} (h:A4 eI 1 w a n (xs.map fun (i:Nat)=>(i:Int))) (h2:A4 eI 1 w b m (ys.map fun (i:Nat)=>(i:Int))) :
  Dq 142 [.slice a n c,.slice b m d] w (fun v w'=>v = .int .i64 (E5 xs ys)/\AD w w'):=by
 have a0:n<=9223372036854775807:=h.2.1;have av:=h.len;have au:=h2.len;rw [List.length_map] at av;rw [List.length_map] at au;have ao:∀ (k r:Nat),xs[k]? = some r->(xs.map fun (i:Nat)=>(i:Int))[k]? = some (r:Int):=fun k r ad=>by rw [List.getElem?_map,ad];rfl
 have ap:∀ (k r:Nat),ys[k]? = some r->(ys.map fun (i:Nat)=>(i:Int))[k]? = some (r:Int):=fun k r ad=>by rw [List.getElem?_map,ad];rfl
 refine oV Tryz.func142 ?_;conv=>whnf
 refine lR [0,1,9,10,11] (fun (k:Nat) aw w'=>aw=[.slice a n c,.slice b m d,.slice a n c,.int .i64 n,.int .i64 k]/\k<=n/\k<=m/\E5 xs ys=E5 (xs.drop k) (ys.drop k)/\AD w w') (fun k=>n - k) 0 ⟨rfl,om,om,rfl,AD.refl _⟩ ?_;rintro k ax _ a2 ⟨rfl,ay,az,e,j⟩;rcases Nat.lt_or_ge k n with ar | ar
 .obtain ⟨o,ai⟩:=AA (l:=xs) (k:=k) om;have y:=ao k o ai;have x:xs.drop k=o :: xs.drop (k+1):=by rw [List.drop_eq_getElem_cons om];rw [(List.getElem?_eq_some_iff.1 ai).2]
  rcases Nat.lt_or_ge k m with aq | aq
  .obtain ⟨f,aj⟩:=AA (l:=ys) (k:=k) om;have ac:=ap k f aj;have p:ys.drop k=f :: ys.drop (k+1):=by rw [List.drop_eq_getElem_cons om];rw [(List.getElem?_eq_some_iff.1 aj).2]
   rw [x,p] at e;simp only [E5] at e;by_cases ag:o<f
   .rw [if_pos ag] at e;have t:∀ g,Dq 214 [.int .i64 o,.int .i64 f] g (fun v w'=>v = .int .i64 (-1)/\AD g w'):=fun g=>by
     have:=LY o f g;rw [if_pos om] at this;exact this
    rw [e];(conv=>whnf);refine iY ?_;(conv=>whnf);refine jI (h.ext j) k rfl y ?_;intro aa ae ab q;(conv=>whnf);refine jO q rfl ?_;(conv=>whnf);refine iN ?_;(conv=>whnf);refine jI (h2.ext j) k rfl ac ?_;intro af al ah u;(conv=>whnf);refine jO u rfl ?_;(conv=>whnf);refine dM (t _) fun am s=>?_;(conv=>whnf);exact ⟨rfl,(xt j s)⟩
   .rw [if_neg ag] at e;by_cases ak:f<o
    .rw [if_pos ak] at e;have t:∀ g,Dq 214 [.int .i64 o,.int .i64 f] g (fun v w'=>v = .int .i64 1/\AD g w'):=fun g=>by
      have:=LY o f g;rw [if_neg om,if_pos om] at this;exact this
     rw [e];(conv=>whnf);refine iY ?_;(conv=>whnf);refine jI (h.ext j) k rfl y ?_;intro aa ae ab q;(conv=>whnf);refine jO q rfl ?_;(conv=>whnf);refine iN ?_;(conv=>whnf);refine jI (h2.ext j) k rfl ac ?_;intro af al ah u;(conv=>whnf);refine jO u rfl ?_;(conv=>whnf);refine dM (t _) fun am s=>?_;(conv=>whnf);exact ⟨rfl,(xt j s)⟩
    .rw [if_neg ak] at e;have t:∀ g,Dq 214 [.int .i64 o,.int .i64 f] g (fun v w'=>v = .int .i64 0/\AD g w'):=fun g=>by
      have:=LY o f g;rw [if_neg om,if_neg om] at this;exact this
     (conv=>whnf);refine iY ?_;(conv=>whnf);refine jI (h.ext j) k rfl y ?_;intro aa ae ab q;(conv=>whnf);refine jO q rfl ?_;(conv=>whnf);refine iN ?_;(conv=>whnf);refine jI (h2.ext j) k rfl ac ?_;intro af al ah u;(conv=>whnf);refine jO u rfl ?_;(conv=>whnf);refine dM (t _) fun am s=>?_;(conv=>whnf);refine jP (((k+1:Nat):Int)) ?_;(conv=>whnf);exact ⟨k+1,om,rfl,om,om,om,(xt j s)⟩
  .have p:ys.drop k=[]:=List.drop_eq_nil_of_le om;rw [x,p] at e;simp only [E5] at e;rw [e];(conv=>whnf);refine iY ?_;(conv=>whnf);refine jI (h.ext j) k rfl y ?_;intro aa ae ab q;(conv=>whnf);refine jO q rfl ?_;(conv=>whnf);refine iY ?_;(conv=>whnf);exact ⟨rfl,j⟩
 .have x:xs.drop k=[]:=List.drop_eq_nil_of_le om;by_cases a1:n<m
  .have p:∃ f z,ys.drop k=f :: z:=by
    cases an:ys.drop k with
    | nil=>have:=congrArg List.length an;simp at this;omega
    | cons f z=>exact ⟨f,z,rfl⟩
   obtain ⟨f,z,p⟩:=p;rw [x,p] at e;simp only [E5] at e;rw [e];(conv=>whnf);refine iN ?_;(conv=>whnf);refine iY ?_;(conv=>whnf);exact ⟨rfl,j⟩
  .have p:ys.drop k=[]:=List.drop_eq_nil_of_le om;rw [x,p] at e;simp only [E5] at e;rw [e];(conv=>whnf);refine iN ?_;(conv=>whnf);refine iN ?_;(conv=>whnf);exact ⟨rfl,j⟩
theorem MR {xs:List (List Int)} (h:Ar Aa w a n xs) (hfo:f.ok) :
  Dq 79 [.slice a n c,.agg ⟨f.enc⟩] w (fun v w'=>∃ a' m c',v = .tuple #[.slice a' m c',.int .i64 (Fq xs f).2]/\A4 Ag.enc 2 w' a' m (Fq xs f).1/\AD w w'):=by
 have gb:=h.len;have cd:∀ g,AD w g->Dq 138 [.slice a n c,.agg ⟨f.enc⟩] g (fun v w'=>v = .int .i64 (Bn xs f).2/\AD g w'):=fun g r=>K4 (h.ext r) f;by_cases b2:(Bn xs f).2=0
 .obtain ⟨dc,cf,f7⟩:=VG b2;rw [b2] at cd;have dw:=Ah dc;have f2:=dw.1;have gf:=EU dc;have f5:=BV cf;by_cases ao:4<f.to_ - f.from_
  .have u:Fq xs f=([],5):=by simp [Fq,b2,ao]
   rw [u];refine oV Tryz.func79 ?_;conv=>whnf
   refine AB.box ?_;intro ec fg ej e6 bo a7;(conv=>whnf);refine jA (n:=2) a7.cells rfl ?_;(conv=>whnf);refine dM (cd _ bo) fun fh a6=>?_;(conv=>whnf);refine jL (a7.ext a6).cells (k:=1) rfl ?_;(conv=>whnf);refine jL (a7.ext a6).cells (k:=0) rfl ?_;(conv=>whnf);refine AB.sub _ rfl om om ?_;(conv=>whnf);refine iY ?_;(conv=>whnf);refine ⟨_,_,_,rfl,?_,(xt bo a6)⟩
   .exact A4.nil
  .have u:Fq xs f=(Bp (Bt f) (Mi xs f (2 ^ (Bt f).length)).1,0):=by simp [Fq,b2,ao]
   rw [u];have er:∀ g,Dq 139 [.agg ⟨f.enc⟩] g (fun v w'=>∃ a n c,v = .slice a n c/\A4 Ag.enc 2 w' a n (Bt f)/\AD g w'):=fun g=>RZ cf om g;have en:∀ g,AD w g->Dq 140 [.slice a n c,.agg ⟨f.enc⟩] g (fun v w'=>∃ a' c',v = .slice a' n c'/\n<=c'/\D2 A0 w' g.heap.size w'.heap.size a' n 144 (KR xs f)/\AD g w'):=fun g r=>IT (h.ext r) dc cf;have f6:(CF f:Int)=f.to_ - f.from_:=by unfold CF;omega
   have f9:=QP f;have dd:(Bt f).length<=8:=om
   have e3:∀ x∈Bt f,0<=x.col/\x.col<AJ xs/\(x.mode=1\/x.mode=2):=fun x ay=>O6 cf ay;generalize ep:Bt f=e at *;have dt:∀ g (own:List Nat) a' af c',AD w g->(∀ al∈own,al<e.length)->own.length<=8->A4 Ag.enc 2 g a' af (Bp e own)->Dq 144 [.slice a n c,.slice a' af c'] g (fun v w'=>∃ a' af c',v = .slice a' af c'/\Ar Aa w' a' af (Ch xs (Bp e own))/\AD g w'):=fun g own a' af c' r e2 dz b5=>by
    have f':=b5.len;have ga:(Bp e own).length=own.length:=by simp [Bp]
    exact P2 (h.ext r) om b5 om (fun am ab=>by
     have dv:=dw.2 am ab;have du:=Br dv.1;exact ⟨du.2.1,du.2.2,fun x ay=>by
      have:=e3 x (Uu e2 ay);rw [dv.2];exact ⟨this.1,this.2.1⟩⟩)
   have gd:(2:Nat) ^ e.length<=2 ^ 8:=Nat.pow_le_pow_right dE dd;refine oV Tryz.func79 ?_;conv=>whnf
   refine AB.box ?_;intro ec fg ej e6 bo a7;(conv=>whnf);refine jA (n:=2) a7.cells rfl ?_;(conv=>whnf);refine dM (cd _ bo) fun fh a6=>?_;(conv=>whnf);refine jL (a7.ext a6).cells (k:=1) rfl ?_;(conv=>whnf);refine jL (a7.ext a6).cells (k:=0) rfl ?_;(conv=>whnf);refine AB.sub _ rfl om om ?_;(conv=>whnf);refine iN ?_;(conv=>whnf);refine dH (pB [0,4,6,3,9,11,13]) ?_;(conv=>whnf);intro gn b9;(conv=>whnf);refine dA (n:=2) (a7.ext a6).cells rfl ?_;(conv=>whnf);refine dA (n:=2) (a7.ext a6).cells rfl ?_;(conv=>whnf);refine (er _).mono ?_;rintro _ gp ⟨bk,fb,bn,rfl,b6,b'⟩;(conv=>whnf);refine ⟨(xt b9 b'),?_⟩;(conv=>whnf);refine (en _ (xt (xt (xt bo a6) b9) b')).mono ?_;rintro _ fi ⟨b7,b8,rfl,gl,d',c1⟩;(conv=>whnf);refine ⟨(xt (xt b9 b') c1),?_⟩;(conv=>whnf);refine bS LX (vs:=[]) ?_;intro fw fj ek gh c2 d4;have d7:=Ab (enc:=eI) AI d4 ek;(conv=>whnf);have e0:fb=e.length:=by have:=b6.len;omega
   subst e0;refine Ws ((2 ^ e.length:Nat):Int) om (Zg dd) ?_;(conv=>whnf);have bq:∀ g a' af c' dj,AD fi g->Ar Aa g a' af dj->Dq 143 [.slice a' af c',.slice b7 n b8] g (fun v w'=>v = .bool (decide (dj=KR xs f))/\AD g w'):=fun g a' af c' dj r b5=>Re b5 ((d'.ext r).arr);generalize eo:KR xs f=aa at *;have d6:=xt (xt (xt (xt bo a6) b9) b') c1;generalize eq:2 ^ e.length=bd at *;refine lR [0,7,8,9,10,41,42] (fun (b:Nat) bi w'=>∃ ar aw,bi=[.slice a n c,.slice bk e.length bn,.slice b7 n b8,.slice ar ((List.range b).foldl (Co xs aa e) ([],false)).1.length aw,.bool ((List.range b).foldl (Co xs aa e) ([],false)).2,.int .i64 (bd:Int),.int .i64 b]/\b<=bd/\A4 eI 1 w' ar ((List.range b).foldl (Co xs aa e) ([],false)).1.length (((List.range b).foldl (Co xs aa e) ([],false)).1.map fun (al:Nat)=>(al:Int))/\AD fj w') (fun b=>bd - b) 0 ⟨_,_,rfl,Nat.zero_le _,by simpa using d7.own.arr AI,AD.refl _⟩ ?_;rintro b f0 _ ag ⟨ar,aw,rfl,f8,az,a3⟩;have o:=Kd xs aa e b;have db:=Vr xs aa e b;have ce:=XQ xs aa e b;have cm:=xt (xt c1 c2) a3;have bj:=xt c2 a3;have cn:=xt (xt d6 c2) a3;rcases Nat.lt_or_ge b bd with dy | dy
   .generalize ge:(List.range b).foldl (Co xs aa e) ([],false)=dg at *;obtain ⟨j,dq⟩:=dg;dsimp only at az db ce ⊢;have dz:=Ys (n:=e.length) (s:=b) dd (by rw [eq];exact dy);have gc:=L3 e.length b;have ds:∀ g,Dq 141 [.int .u64 (b:Int)] g (fun v w'=>v = .int .i64 ((DB e.length b).length:Int)/\AD g w'):=fun g=>by
     have:=RI (s:=b) om g;rw [<- dz] at this;exact this
    cases dq
    ·(conv=>whnf);refine iY ?_;(conv=>whnf);have bw:AD ag ag:=AD.refl _;refine bS LX (vs:=[]) ?_;intro bl fk c4 e7 bz ci;(conv=>whnf);refine bS EG (vs:=[]) ?_;intro bm bu c5 d0 a1 bv;have dk:=Below.size bw;have fq:=bz.size;have fr:=a1.size;have cq:Ai eI 1 ag.heap.size 3 bu (some ⟨bl,0,none⟩) 0 0 ([]:List Int):=(Ab (enc:=eI) AI ci (Nat.le_trans dk c4)).ext a1;have bx:Ai Ag.enc 2 ag.heap.size 193 bu (some ⟨bm,0,none⟩) 0 0 []:=Ab (enc:=Ag.enc) AX bv om;(conv=>whnf);refine lR [0,7,8,9,10,11,12,13,41,42,56,57,58] (fun (d:Nat) bi w'=>∃ ad an ah au,bi=[.slice a n c,.slice bk e.length bn,.slice b7 n b8,.slice ar j.length aw,.bool false,.int .i64 b,.slice ad (DB d b).length an,.slice ah (DB d b).length au,.int .i64 (bd:Int),.int .i64 b,.slice bk e.length bn,.int .i64 (e.length:Int),.int .i64 d]/\d<=e.length/\Ai eI 1 ag.heap.size 3 w' ad (DB d b).length an ((DB d b).map fun (al:Nat)=>(al:Int))/\Ai Ag.enc 2 ag.heap.size 193 w' ah (DB d b).length au (Bp e (DB d b))/\(∀ ac,AN ad ac->¬ AN ah ac)/\AD ag w') (fun d=>e.length - d) 0 ⟨_,_,_,_,rfl,Nat.zero_le _,cq,bx,?_,xt (xt bw bz) a1⟩ ?_
     .rintro ac ⟨am,ab,rfl⟩ ⟨ap,ak,u⟩;cases ab
      cases ak
      have u:bl=bm:=u;omega
     rintro d dr _ bb ⟨ad,an,ah,au,rfl,dx,y,aq,a8,i⟩;have ez:=L3 d b;rcases Nat.lt_or_ge d e.length with br | br
     .obtain ⟨x,ay⟩:=AA (l:=e) (k:=d) om;have a4:=R9 (s:=b) ay;have p:=Ig d b;have hand:FM .i64 ((b:Int) / 2 ^ d) 1=(b:Int) / 2 ^ d % 2:=aD3 (SX om om _).1 (SX om om _).2;have a9:=Vp b d;(conv=>whnf);refine iY ?_;(conv=>whnf);refine jI (b6.ext (xt cm i)) d rfl ay ?_;intro ed fc es da;(conv=>whnf);refine jA (n:=2) da rfl ?_;(conv=>whnf);refine jN (z := .agg #[.int .i64 0,.int .i64 0]) ?_;intro ee fl c6 e8 c3 cj;(conv=>whnf);refine jS cj (vs:=x.enc) rfl rfl (by simp [Ag.enc,AE]) ?_;intro di c0 ck;have q:AD bb di:=xb c3 c0.but c6;(conv=>whnf);refine EK ((b:Int) / 2 ^ d) om (Yg om) ?_;(conv=>whnf);refine Lm ((b:Int) / 2 ^ d % 2) hand ?_;(conv=>whnf);cases b1:b.testBit d
      .rw [b1] at a9 a4 p;simp only [Bool.false_eq_true,if_false] at a4 p;refine E3 a9 ?_;(conv=>whnf);refine jP (((d+1:Nat):Int)) ?_;(conv=>whnf);exact ⟨d+1,om,ad,an,ah,au,by rw [p];rfl,om,by rw [p];exact y.ext q,by rw [p];exact aq.ext q,a8,xt i q⟩
      .rw [b1] at a9 a4 p;simp only [if_true] at a4 p;refine ET a9 ?_;(conv=>whnf);refine bS LX (vs:=[Value.int IntKind.i64 (d:Int)]) ?_;intro ef fn em e9 aj cl;(conv=>whnf);refine BR (enc:=eI) LX AI (y.ext (xt q aj)) (ys:=[(d:Int)]) (m:=1) cl.cells rfl (by simp [BD,eI,AE]) om om (Below.size (xt (xt i q) aj)) ?_;intro ct cx fd co a5 bh;(conv=>whnf);have cr:=(aq.ext (xt q aj)).mod a5 (fun ap ak av=>a8 _ av ⟨ap,ak,rfl⟩);refine jA (n:=2) ((ck.ext aj).mod a5 (fun av=>by
        obtain ⟨ap,ak,u⟩:=av;have:=(y.blk_lt ap ak).2;omega)).cells rfl ?_
       (conv=>whnf);refine AB.buildSlice EG (vs:=[.agg ⟨x.enc⟩]) (by rfl) (by rfl) (by simp [Value.cells,Ag.enc]) dE ?_;intro eb fe ei e5 a0 ch;(conv=>whnf);refine BR (enc:=Ag.enc) EG AX (cr.ext a0) (ys:=[x]) (m:=1) ch.cells rfl (by simp [BD,Ag.enc,AE]) om om (Below.size (xt (xm (xt (xt i q) aj) a5 (AO y.new)) a0)) ?_;intro cu cy ff cp b3 de;(conv=>whnf);refine jP (((d+1:Nat):Int)) ?_;(conv=>whnf);have fs:=q.size;have ft:=aj.size;have fo:=a5.size;have fp:=a0.size;refine ⟨d+1,om,ct,cx,cu,cy,by rw [p,List.length_append];rfl,om,?_,?_,?_,?_⟩
       .rw [p,List.length_append,List.map_append];exact (co.ext a0).mod b3 (fun ap ak av=>by
         rcases bh _ ⟨ap,ak,rfl⟩ with a2 | a2
         .exact a8 _ a2 av
         .obtain ⟨am,ab,u⟩:=av;have:=(aq.blk_lt am ab).2;omega)
       .rw [a4,p,List.length_append];exact cp
       .intro ac a2 c7;rcases de ac c7 with be | be
        .rcases bh ac a2 with ao | ao
         .exact a8 ac ao be
         .obtain ⟨am,ab,u⟩:=be;have:=(aq.blk_lt am ab).2;omega
        .rcases bh ac a2 with ao | ao
         .obtain ⟨am,ab,u⟩:=ao;have:=(y.blk_lt am ab).2;omega
         .omega
       .exact xm (xt (xm (xt (xt i q) aj) a5 (AO y.new)) a0) b3 (AO aq.new)
     .obtain rfl:d=e.length:=om
      have cb:∀ g,AD bb g->Dq 142 [.slice ad (DB e.length b).length an,.slice ar j.length aw] g (fun v w'=>v = .int .i64 (E5 (DB e.length b) j)/\AD g w'):=fun g r=>J2 ((y.own.arr AI).ext r) (az.ext (xt i r));have bf:∀ g,AD bb g->Dq 144 [.slice a n c,.slice ah (DB e.length b).length au] g (fun v w'=>∃ a' af c',v = .slice a' af c'/\Ar Aa w' a' af (Ch xs (Bp e (DB e.length b)))/\AD g w'):=fun g r=>dt g _ ah _ au (xt (xt cn i) r) (fun al bg=>O2 bg) om ((aq.own.arr AX).ext r);have ca:=y.own.arr AI;generalize c8:DB e.length b=own at *;generalize c9:Ch xs (Bp e own)=bt at *;have ae:Co xs aa e (j,false) b=if (false:Bool)=true/\j.length<own.length then (j,false) else if ((false:Bool)=true/\own.length=j.length/\0<E5 own j)\/¬ bt=aa then (j,false) else (own,true):=by
       unfold Co;rw [c8,c9]
      by_cases ba:bt=aa
      .rw [if_neg sI,if_neg (by simp [ba])] at ae;rw [ae] at o;(conv=>whnf);refine iN ?_;(conv=>whnf);refine (bf _ (AD.refl _)).mono ?_;rintro _ dh ⟨cs,df,cw,rfl,bc,ai⟩;(conv=>whnf);refine dM (bq _ _ _ _ _ (xt (xt bj i) ai) bc) fun b4 t=>?_;(conv=>whnf);refine iF ?_;(conv=>whnf);refine jP (((b+1:Nat):Int)) ?_;(conv=>whnf);exact ⟨b+1,om,ad,an,by rw [o];rfl,om,by rw [o];exact ca.ext (xt (ai) t),xt a3 (xt i (xt (ai) t))⟩
      .rw [if_neg sI,if_pos (.inr ba)] at ae;rw [ae] at o;(conv=>whnf);refine iN ?_;(conv=>whnf);refine (bf _ (AD.refl _)).mono ?_;rintro _ dh ⟨cs,df,cw,rfl,bc,ai⟩;(conv=>whnf);refine dM (bq _ _ _ _ _ (xt (xt bj i) ai) bc) fun b4 t=>?_;(conv=>whnf);refine iT ?_;(conv=>whnf);refine jP (((b+1:Nat):Int)) ?_;(conv=>whnf);exact ⟨b+1,om,ar,aw,by rw [o];rfl,om,by rw [o];exact az.ext (xt i (xt (ai) t)),xt a3 (xt i (xt (ai) t))⟩
    .by_cases dl:j.length<(DB e.length b).length
     .have e4:Co xs aa e (j,true) b=(j,true):=by unfold Co;rw [if_pos ⟨rfl,dl⟩]
      rw [e4] at o;(conv=>whnf);refine iY ?_;(conv=>whnf);refine As (k := .u64) kR kR (EW om om) ?_
      (conv=>whnf);refine dM (ds _) fun d1 bp=>?_;(conv=>whnf);refine iY ?_;(conv=>whnf);refine jP (((b+1:Nat):Int)) ?_;(conv=>whnf);exact ⟨b+1,om,ar,aw,by rw [o];rfl,om,by rw [o];exact az.ext bp,xt a3 bp⟩
     ·(conv=>whnf);refine iY ?_;(conv=>whnf);refine As (k := .u64) kR kR (EW om om) ?_
      (conv=>whnf);refine dM (ds _) fun d1 bp=>?_;(conv=>whnf);refine iN ?_;(conv=>whnf);have bw:AD ag d1:=bp;refine bS LX (vs:=[]) ?_;intro bl fk c4 e7 bz ci;(conv=>whnf);refine bS EG (vs:=[]) ?_;intro bm bu c5 d0 a1 bv;have dk:=Below.size bw;have fq:=bz.size;have fr:=a1.size;have cq:Ai eI 1 ag.heap.size 3 bu (some ⟨bl,0,none⟩) 0 0 ([]:List Int):=(Ab (enc:=eI) AI ci (Nat.le_trans dk c4)).ext a1;have bx:Ai Ag.enc 2 ag.heap.size 193 bu (some ⟨bm,0,none⟩) 0 0 []:=Ab (enc:=Ag.enc) AX bv om;(conv=>whnf);refine lR [0,7,8,9,10,11,12,13,41,42,56,57,58] (fun (d:Nat) bi w'=>∃ ad an ah au,bi=[.slice a n c,.slice bk e.length bn,.slice b7 n b8,.slice ar j.length aw,.bool true,.int .i64 b,.slice ad (DB d b).length an,.slice ah (DB d b).length au,.int .i64 (bd:Int),.int .i64 b,.slice bk e.length bn,.int .i64 (e.length:Int),.int .i64 d]/\d<=e.length/\Ai eI 1 ag.heap.size 3 w' ad (DB d b).length an ((DB d b).map fun (al:Nat)=>(al:Int))/\Ai Ag.enc 2 ag.heap.size 193 w' ah (DB d b).length au (Bp e (DB d b))/\(∀ ac,AN ad ac->¬ AN ah ac)/\AD ag w') (fun d=>e.length - d) 0 ⟨_,_,_,_,rfl,Nat.zero_le _,cq,bx,?_,xt (xt bw bz) a1⟩ ?_
      .rintro ac ⟨am,ab,rfl⟩ ⟨ap,ak,u⟩;cases ab
       cases ak
       have u:bl=bm:=u;omega
      rintro d dr _ bb ⟨ad,an,ah,au,rfl,dx,y,aq,a8,i⟩;have ez:=L3 d b;rcases Nat.lt_or_ge d e.length with br | br
      .obtain ⟨x,ay⟩:=AA (l:=e) (k:=d) om;have a4:=R9 (s:=b) ay;have p:=Ig d b;have hand:FM .i64 ((b:Int) / 2 ^ d) 1=(b:Int) / 2 ^ d % 2:=aD3 (SX om om _).1 (SX om om _).2;have a9:=Vp b d;(conv=>whnf);refine iY ?_;(conv=>whnf);refine jI (b6.ext (xt cm i)) d rfl ay ?_;intro ed fc es da;(conv=>whnf);refine jA (n:=2) da rfl ?_;(conv=>whnf);refine jN (z := .agg #[.int .i64 0,.int .i64 0]) ?_;intro ee fl c6 e8 c3 cj;(conv=>whnf);refine jS cj (vs:=x.enc) rfl rfl (by simp [Ag.enc,AE]) ?_;intro di c0 ck;have q:AD bb di:=xb c3 c0.but c6;(conv=>whnf);refine EK ((b:Int) / 2 ^ d) om (Yg om) ?_;(conv=>whnf);refine Lm ((b:Int) / 2 ^ d % 2) hand ?_;(conv=>whnf);cases b1:b.testBit d
       .rw [b1] at a9 a4 p;simp only [Bool.false_eq_true,if_false] at a4 p;refine E3 a9 ?_;(conv=>whnf);refine jP (((d+1:Nat):Int)) ?_;(conv=>whnf);exact ⟨d+1,om,ad,an,ah,au,by rw [p];rfl,om,by rw [p];exact y.ext q,by rw [p];exact aq.ext q,a8,xt i q⟩
       .rw [b1] at a9 a4 p;simp only [if_true] at a4 p;refine ET a9 ?_;(conv=>whnf);refine bS LX (vs:=[Value.int IntKind.i64 (d:Int)]) ?_;intro ef fn em e9 aj cl;(conv=>whnf);refine BR (enc:=eI) LX AI (y.ext (xt q aj)) (ys:=[(d:Int)]) (m:=1) cl.cells rfl (by simp [BD,eI,AE]) om om (Below.size (xt (xt i q) aj)) ?_;intro ct cx fd co a5 bh;(conv=>whnf);have cr:=(aq.ext (xt q aj)).mod a5 (fun ap ak av=>a8 _ av ⟨ap,ak,rfl⟩);refine jA (n:=2) ((ck.ext aj).mod a5 (fun av=>by
         obtain ⟨ap,ak,u⟩:=av;have:=(y.blk_lt ap ak).2;omega)).cells rfl ?_
        (conv=>whnf);refine AB.buildSlice EG (vs:=[.agg ⟨x.enc⟩]) (by rfl) (by rfl) (by simp [Value.cells,Ag.enc]) dE ?_;intro eb fe ei e5 a0 ch;(conv=>whnf);refine BR (enc:=Ag.enc) EG AX (cr.ext a0) (ys:=[x]) (m:=1) ch.cells rfl (by simp [BD,Ag.enc,AE]) om om (Below.size (xt (xm (xt (xt i q) aj) a5 (AO y.new)) a0)) ?_;intro cu cy ff cp b3 de;(conv=>whnf);refine jP (((d+1:Nat):Int)) ?_;(conv=>whnf);have fs:=q.size;have ft:=aj.size;have fo:=a5.size;have fp:=a0.size;refine ⟨d+1,om,ct,cx,cu,cy,by rw [p,List.length_append];rfl,om,?_,?_,?_,?_⟩
        .rw [p,List.length_append,List.map_append];exact (co.ext a0).mod b3 (fun ap ak av=>by
          rcases bh _ ⟨ap,ak,rfl⟩ with a2 | a2
          .exact a8 _ a2 av
          .obtain ⟨am,ab,u⟩:=av;have:=(aq.blk_lt am ab).2;omega)
        .rw [a4,p,List.length_append];exact cp
        .intro ac a2 c7;rcases de ac c7 with be | be
         .rcases bh ac a2 with ao | ao
          .exact a8 ac ao be
          .obtain ⟨am,ab,u⟩:=be;have:=(aq.blk_lt am ab).2;omega
         .rcases bh ac a2 with ao | ao
          .obtain ⟨am,ab,u⟩:=ao;have:=(y.blk_lt am ab).2;omega
          .omega
        .exact xm (xt (xm (xt (xt i q) aj) a5 (AO y.new)) a0) b3 (AO aq.new)
      .obtain rfl:d=e.length:=om
       have cb:∀ g,AD bb g->Dq 142 [.slice ad (DB e.length b).length an,.slice ar j.length aw] g (fun v w'=>v = .int .i64 (E5 (DB e.length b) j)/\AD g w'):=fun g r=>J2 ((y.own.arr AI).ext r) (az.ext (xt i r));have bf:∀ g,AD bb g->Dq 144 [.slice a n c,.slice ah (DB e.length b).length au] g (fun v w'=>∃ a' af c',v = .slice a' af c'/\Ar Aa w' a' af (Ch xs (Bp e (DB e.length b)))/\AD g w'):=fun g r=>dt g _ ah _ au (xt (xt cn i) r) (fun al bg=>O2 bg) om ((aq.own.arr AX).ext r);have ca:=y.own.arr AI;generalize c8:DB e.length b=own at *;generalize c9:Ch xs (Bp e own)=bt at *;have ae:Co xs aa e (j,true) b=if (true:Bool)=true/\j.length<own.length then (j,true) else if ((true:Bool)=true/\own.length=j.length/\0<E5 own j)\/¬ bt=aa then (j,true) else (own,true):=by
        unfold Co;rw [c8,c9]
       rw [if_neg (fun h=>dl h.2)] at ae;by_cases dn:own.length=j.length
       .by_cases dm:0<E5 own j
        .rw [if_pos (.inl ⟨rfl,dn,dm⟩)] at ae;rw [ae] at o;(conv=>whnf);refine iN ?_;(conv=>whnf);refine iY ?_;(conv=>whnf);refine dM (cb _ (AD.refl _)) fun d2 ax=>?_;(conv=>whnf);refine iY ?_;(conv=>whnf);refine jP (((b+1:Nat):Int)) ?_;(conv=>whnf);exact ⟨b+1,om,ar,aw,by rw [o];rfl,om,by rw [o];exact az.ext (xt i (ax)),xt a3 (xt i (ax))⟩
        .by_cases ba:bt=aa
         .rw [if_neg (by rintro (h | h);exact dm h.2.2;exact h ba)] at ae;rw [ae] at o;(conv=>whnf);refine iN ?_;(conv=>whnf);refine iY ?_;(conv=>whnf);refine dM (cb _ (AD.refl _)) fun d2 ax=>?_;(conv=>whnf);refine iN ?_;(conv=>whnf);refine (bf _ ax).mono ?_;rintro _ b4 ⟨ea,e',eg,rfl,cg,t⟩;(conv=>whnf);refine dM (bq _ _ _ _ _ (xt (xt (xt bj i) ax) t) cg) fun fm b0=>?_;(conv=>whnf);refine iF ?_;(conv=>whnf);refine jP (((b+1:Nat):Int)) ?_;(conv=>whnf);exact ⟨b+1,om,ad,an,by rw [o];rfl,om,by rw [o];exact ca.ext (xt (xt (ax) t) b0),xt a3 (xt i (xt (xt (ax) t) b0))⟩
         .rw [if_pos (.inr ba)] at ae;rw [ae] at o;(conv=>whnf);refine iN ?_;(conv=>whnf);refine iY ?_;(conv=>whnf);refine dM (cb _ (AD.refl _)) fun d2 ax=>?_;(conv=>whnf);refine iN ?_;(conv=>whnf);refine (bf _ ax).mono ?_;rintro _ b4 ⟨ea,e',eg,rfl,cg,t⟩;(conv=>whnf);refine dM (bq _ _ _ _ _ (xt (xt (xt bj i) ax) t) cg) fun fm b0=>?_;(conv=>whnf);refine iT ?_;(conv=>whnf);refine jP (((b+1:Nat):Int)) ?_;(conv=>whnf);exact ⟨b+1,om,ar,aw,by rw [o];rfl,om,by rw [o];exact az.ext (xt i (xt (xt (ax) t) b0)),xt a3 (xt i (xt (xt (ax) t) b0))⟩
       .by_cases ba:bt=aa
        .rw [if_neg (by rintro (h | h);exact dn h.2.1;exact h ba)] at ae;rw [ae] at o;(conv=>whnf);refine iN ?_;(conv=>whnf);refine iN ?_;(conv=>whnf);refine (bf _ (AD.refl _)).mono ?_;rintro _ dh ⟨cs,df,cw,rfl,bc,ai⟩;(conv=>whnf);refine dM (bq _ _ _ _ _ (xt (xt bj i) ai) bc) fun b4 t=>?_;(conv=>whnf);refine iF ?_;(conv=>whnf);refine jP (((b+1:Nat):Int)) ?_;(conv=>whnf);exact ⟨b+1,om,ad,an,by rw [o];rfl,om,by rw [o];exact ca.ext (xt (ai) t),xt a3 (xt i (xt (ai) t))⟩
        .rw [if_pos (.inr ba)] at ae;rw [ae] at o;(conv=>whnf);refine iN ?_;(conv=>whnf);refine iN ?_;(conv=>whnf);refine (bf _ (AD.refl _)).mono ?_;rintro _ dh ⟨cs,df,cw,rfl,bc,ai⟩;(conv=>whnf);refine dM (bq _ _ _ _ _ (xt (xt bj i) ai) bc) fun b4 t=>?_;(conv=>whnf);refine iT ?_;(conv=>whnf);refine jP (((b+1:Nat):Int)) ?_;(conv=>whnf);exact ⟨b+1,om,ar,aw,by rw [o];rfl,om,by rw [o];exact az.ext (xt i (xt (ai) t)),xt a3 (xt i (xt (ai) t))⟩
   .obtain rfl:b=bd:=om
    have ew:(List.range b).foldl (Co xs aa e) ([],false)=Mi xs f b:=by unfold Mi;rw [eo,ep]
    rw [ew] at az db ce ⊢;generalize Mi xs f b=dg at *;obtain ⟨j,dq⟩:=dg;dsimp only at az db ce ⊢;(conv=>whnf);refine iN ?_;(conv=>whnf);refine bS EG (vs:=[]) ?_;intro fx gq el gi bp d5;have d8:=Ab (enc:=Ag.enc) AX d5 el;(conv=>whnf);refine lR [7,16,102,103,104] (fun (d:Nat) bi w'=>∃ cv cz,bi=[.slice bk e.length bn,.slice cv d cz,.slice ar j.length aw,.int .i64 (j.length:Int),.int .i64 d]/\d<=j.length/\Ai Ag.enc 2 ag.heap.size 193 w' cv d cz (Bp e (j.take d))/\AD ag w') (fun d=>j.length - d) 0 ⟨_,_,rfl,Nat.zero_le _,by simpa [Bp] using d8,bp⟩ ?_;rintro d dr _ bb ⟨cv,cz,rfl,dx,cc,i⟩;rcases Nat.lt_or_ge d j.length with br | br
    .obtain ⟨al,bg⟩:=AA br;have ey:=ce al (List.mem_of_getElem? bg);obtain ⟨x,ay⟩:=AA ey;have e1:Bp e (j.take (d+1))=Bp e (j.take d)++[x]:=by
      unfold Bp;rw [List.take_add_one,bg,List.map_append];simp [List.getD_eq_getElem?_getD,ay]
     have ex:(j.map fun (al:Nat)=>(al:Int))[d]? = some (al:Int):=by rw [List.getElem?_map,bg];rfl
     (conv=>whnf);refine iY ?_;(conv=>whnf);refine jI (az.ext i) d rfl ex ?_;intro fy gj f3 et;(conv=>whnf);refine jO et rfl ?_;(conv=>whnf);refine jI (b6.ext (xt cm i)) al rfl ay ?_;intro bl gk f4 eu;(conv=>whnf);refine jA (n:=2) eu rfl ?_;(conv=>whnf);refine AB.buildSlice EG (vs:=[Value.agg x.enc.toArray]) (by rfl) (by rfl) (by simp [Value.cells,Ag.enc]) dE ?_;intro bm bu c5 d0 a1 bv;have bx:=AG (n:=1) (enc:=Ag.enc) (xs:=[x]) AX bv c5 rfl dE;(conv=>whnf);refine AM (enc:=Ag.enc) EG AX (cc.ext a1) (bx.own.arr AX) (by intro ap _;simp [Ag.enc,AE]) om om (Below.size (xt i a1)) ?_;intro fu fz gr d9 fa i64;(conv=>whnf);refine jP (((d+1:Nat):Int)) ?_;(conv=>whnf);refine ⟨d+1,om,_,_,rfl,om,?_,(xm (xt i a1) fa (AO cc.new))⟩
     .rw [e1];exact d9
    .obtain rfl:d=j.length:=om
     rw [List.take_of_length_le om] at cc;(conv=>whnf);refine iN ?_;(conv=>whnf);exact ⟨_,_,_,rfl,cc.own.arr AX,xt cn i⟩
 .have u:Fq xs f=([],(Bn xs f).2):=by simp [Fq,b2]
  rw [u];refine oV Tryz.func79 ?_;conv=>whnf
  refine AB.box ?_;intro fv gm f1 gg dp d3;(conv=>whnf);refine jA (n:=2) d3.cells rfl ?_;(conv=>whnf);refine dM (cd _ dp) fun ag eh=>?_;(conv=>whnf);refine iT ?_;(conv=>whnf);refine ⟨_,_,_,rfl,?_,(xt dp eh)⟩
  .exact A4.nil
end Go.Proofs.YtalgenmoljcnmaaGreatDoor
