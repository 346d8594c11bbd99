/- Parts of the proof; no conditions of its own. -/
import Derived.Test.YtalgenmoljcnmaaGreatDoorDesks
import Derived.Test.YtalgenmoljcnmaaGreatDoorVcPut
import Derived.Test.YtalgenmoljcnmaaGreatDoorStab
import Derived.Test.YtalgenmoljcnmaaGreatDoorModel
import Derived.Test.YtalgenmoljcnmaaGreatDoorVcWrite
import Derived.Test.YtalgenmoljcnmaaGreatDoorFTotal
import Derived.Test.YtalgenmoljcnmaaGreatDoorKeyW
namespace Go.Vc
open Go Go.RowKit
theorem Xm {P:Program} {s t:Nat} {k:IntKind} (ht:I9 P t=some k) (hs:(P.underlying s).isSome=true) {k0:IntKind} {n:Int} {w:World} {K:Value->World->Prop} (hK:K (.int k (k.wrap n)) w) :
  AB P (convert s t (.int k0 n)) w K:=by
 have b:P.underlying t=some (.int k):=by
  unfold I9 at ht;split at ht<;>simp_all
 obtain ⟨c,a⟩:=Option.isSome_iff_exists.1 hs;refine A6 ?_ hK;simp [convert,run_underlying b,run_underlying a,Conv.intToInt]
end Go.Vc
namespace Go.M
open Go Go.Vc
variable {n s k:Nat} {f:AE} {p:Ak} {full:List Ak}
theorem Wi (s i:Nat):decide (((s:Int) / 2 ^ i) % 2=1)=s.testBit i:=by
 rw [Nat.testBit_eq_decide_div_mod_eq,decide_eq_decide];constructor
 .intro a
  exact_mod_cast a
 .intro a
  exact_mod_cast a
theorem I5 (k s:Nat):DG (k+1) s=if s.testBit k=true then DG k s++[k] else DG k s:=by
 unfold DG;rw [List.range_succ,List.filter_append];by_cases a:s.testBit k=true
 .rw [if_pos a];simp [a]
 .rw [if_neg a];simp [a]
theorem Mj (k s:Nat):(DG k s).length<=k:=by
 unfold DG;refine Nat.le_trans (List.length_filter_le _ _) ?_;simp
theorem Pn {i:Nat} (h:i∈DG n s):i<n:=by
 have:=(List.mem_filter.1 h).1;simpa using this
theorem LM (d due:List (List Int)) (full:List Ak) (k:Nat):(List.range (k+1)).foldl (Cv d due full) ([],false)=Cv d due full ((List.range k).foldl (Cv d due full) ([],false)) k:=by
 rw [List.range_succ,List.foldl_append];rfl
theorem YK (d due:List (List Int)) (full:List Ak) (k:Nat):∀ i∈((List.range k).foldl (Cv d due full) ([],false)).1,i<full.length:=by
 induction k with
 | zero=>simp
 | succ k a =>
  rw [LM];unfold Cv;split
  .exact a
  split
  .exact a
  .intro i b;exact Pn b
theorem Wk (d due:List (List Int)) (full:List Ak) (k:Nat):((List.range k).foldl (Cv d due full) ([],false)).1.length<=full.length:=by
 induction k with
 | zero=>simp
 | succ k a =>
  rw [LM];unfold Cv;split
  .exact a
  split
  .exact a
  .exact Mj _ _
theorem RL (f:AE):(By f).length=2 * CJ f:=by
 unfold By;rw [List.length_flatMap];have:∀ a:Nat,((List.range a).map fun _=>2).sum=2 * a:=by
  intro a;induction a with
  | zero=>rfl
  | succ a b=>rw [List.range_succ,List.map_append,List.sum_append,b];simp;omega
 simpa using this (CJ f)
theorem TU (f:AE) (k:Nat):((List.range (k+1)).flatMap fun (i:Nat)=>([⟨f.to_ - 1 - i,1⟩,⟨f.to_ - 1 - i,2⟩]:List Ak))=((List.range k).flatMap fun (i:Nat)=>([⟨f.to_ - 1 - i,1⟩,⟨f.to_ - 1 - i,2⟩]:List Ak))++[⟨f.to_ - 1 - k,1⟩,⟨f.to_ - 1 - k,2⟩]:=by
 rw [List.range_succ,List.flatMap_append];simp
theorem Pr {W:Int} (hf:AR f W=true) (hp:p∈By f):0<=p.col/\p.col<W/\(p.mode=1\/p.mode=2):=by
 have c:=Bc hf;unfold By at hp;rw [List.mem_flatMap] at hp;obtain ⟨b,a,hp⟩:=hp;have a:b<CJ f:=by simpa using a
 have d:(CJ f:Int)=f.to_ - f.from_:=by unfold CJ;omega
 simp only [List.mem_cons,List.not_mem_nil,or_false] at hp;rcases hp with rfl | rfl
 .exact ⟨by simp only;omega,by simp only;omega,.inl rfl⟩
 .exact ⟨by simp only;omega,by simp only;omega,.inr rfl⟩
theorem TE (hp:full[k]? = some p):Bw full (DG (k+1) s)=if s.testBit k=true then Bw full (DG k s)++[p] else Bw full (DG k s):=by
 rw [I5];split
 .unfold Bw;rw [List.map_append,List.map_singleton,List.getD_eq_getElem?_getD,hp];rfl
 .rfl
theorem Vo {own:List Nat} (h:∀ i∈own,i<full.length) (hp:p∈Bw full own):p∈full:=by
 unfold Bw at hp;obtain ⟨i,a,rfl⟩:=List.mem_map.1 hp;have:=h i a;rw [List.getD_eq_getElem?_getD,List.getElem?_eq_getElem this];exact List.getElem_mem _
def Vu (s:Nat):Nat:=(DG 8 s).length
theorem Zk (hn:n<=8) (hs:s<2 ^ n):(DG n s).length=Vu s:=by
 have a:∀ n:Fin 9,∀ s:Fin 256,s.val<2 ^ n.val->(DG n.val s.val).length=Vu s.val:=by decide +kernel
 have b:2 ^ n<=2 ^ 8:=Nat.pow_le_pow_right dE hn;exact a ⟨n,om⟩ ⟨s,om⟩ hs
def aL4 (x:Int):Int:=IntKind.u64.wrap (FQ .u64 (x.fdiv (2 ^ min (1:Int).toNat IntKind.u64.bits)) 6148914691236517205+FQ .u64 x 6148914691236517205)
def aL3 (x:Int):Int:=IntKind.u64.wrap (FQ .u64 (x.fdiv (2 ^ min (2:Int).toNat IntKind.u64.bits)) 3689348814741910323+FQ .u64 x 3689348814741910323)
def aL2 (x:Int):Int:=FQ .u64 (IntKind.u64.wrap (x.fdiv (2 ^ min (4:Int).toNat IntKind.u64.bits)+x)) 1085102592571150095
def aL1 (x:Int):Int:=IntKind.u64.wrap (x+x.fdiv (2 ^ min (8:Int).toNat IntKind.u64.bits))
def aL0 (x:Int):Int:=IntKind.u64.wrap (x+x.fdiv (2 ^ min (16:Int).toNat IntKind.u64.bits))
def aK9 (x:Int):Int:=IntKind.u64.wrap (x+x.fdiv (2 ^ min (32:Int).toNat IntKind.u64.bits))
def aK8 (x:Int):Int:=FQ .i64 (IntKind.i64.wrap (aK9 (aL0 (aL1 (aL2 (aL3 (aL4 x))))))) 127
theorem WB {d:List (List Int)} (h:(Bu d f).2=0):A2 d=true/\AR f (AJ d)=true/\Dg d f=true:=by
 rcases MG d f with ⟨g,e,i⟩ | ⟨a,b,c,_⟩
 .rw [e] at h;simp only at h;omega
 .exact ⟨a,b,c⟩
theorem Zb {m:Int} (hk:k<=8):m.fdiv (2 ^ min ((k:Int)).toNat IntKind.i64.bits)=m / 2 ^ k:=by
 have a:min ((k:Int)).toNat IntKind.i64.bits=k:=by
  have:IntKind.i64.bits=64:=rfl;rw [this,Int.toNat_natCast];omega
 rw [a,RR]
theorem aC8 (h:n<=8):IntKind.i64.wrap (1 * 2 ^ min ((n:Int)).toNat IntKind.i64.bits)=((2 ^ n:Nat):Int):=by
 have a:∀ n:Fin 9,IntKind.i64.wrap (1 * 2 ^ min ((n.val:Int)).toNat IntKind.i64.bits)=((2 ^ n.val:Nat):Int):=by decide +kernel
 exact a ⟨n,om⟩
end Go.M
namespace Go.Proofs.YtalgenmoljcnmaaGreatDoor
open Go Go.RowKit Go.Vc Go.M
variable {f:AE} {s n c:Nat} {w:World} {a:Option Addr}
theorem Sd {W:Int} (hf:AR f W=true) (hW:W<=1000) (w:World):Dq 139 [.agg ⟨f.enc⟩] w (fun v w'=>∃ a n c,v = .slice a n c/\A4 Ak.enc 2 w' a n (By f)/\AD w w'):=by
 have ak:=Bc hf;have am:(CJ f:Int)=f.to_ - f.from_:=by unfold CJ;omega
 refine oV Tryz.func139 ?_;conv=>whnf
 refine AB.box ?_;intro u o aj ao x e;(conv=>whnf);refine bS EJ (vs:=[]) ?_;intro af ar y ap l p;have r:=Ag (enc:=Ak.enc) Aa p y;(conv=>whnf);refine jL (e.ext l).cells (k:=1) rfl ?_;(conv=>whnf);refine AB.sub (f.to_ - 1 - ((0:Nat):Int)) om om om ?_;(conv=>whnf);refine lR [1,3,4] (fun (b:Nat) ad w'=>∃ g h,ad=[.pointer (some ⟨u,0,none⟩),.slice g (2 * b) h,.int .i64 (f.to_ - 1 - (b:Int))]/\b<=CJ f/\An Ak.enc 2 o.heap.size 193 w' g (2 * b) h ((List.range b).flatMap fun (m:Nat)=>([⟨f.to_ - 1 - m,1⟩,⟨f.to_ - 1 - m,2⟩]:List Ak))/\AD o w') (fun b=>CJ f - b) 0 ⟨_,_,rfl,om,by simpa using r,l⟩ ?_;rintro b ai _ au ⟨g,h,rfl,al,j,d⟩;have ab:=TU f b;rcases Nat.lt_or_ge b (CJ f) with aa | aa
 ·(conv=>whnf);refine jL (e.ext d).cells (k:=0) rfl ?_;(conv=>whnf);refine iY ?_;(conv=>whnf);refine AB.build T6 rfl ?_;(conv=>whnf);refine AB.build T6 rfl ?_;(conv=>whnf);refine bS EJ (vs:=[Value.agg #[Value.int IntKind.i64 (f.to_ - 1 - ↑b),Value.int IntKind.i64 1],Value.agg #[Value.int IntKind.i64 (f.to_ - 1 - ↑b),Value.int IntKind.i64 2]]) ?_;intro ag av z aq i q;have s:=AH (n:=2) (enc:=Ak.enc) (xs:=[⟨f.to_ - 1 - ↑b,1⟩,⟨f.to_ - 1 - ↑b,2⟩]) Aa q z rfl dE;(conv=>whnf);refine AN (enc:=Ak.enc) EJ Aa (j.ext i) (s.own.arr Aa) (by intro ax _;simp [Ak.enc,AM]) om om (Below.size (xt d i)) ?_;intro ae ah aw t ac an;(conv=>whnf);refine AB.sub (f.to_ - 1 - ((b+1:Nat):Int)) om om om ?_;(conv=>whnf);exact ⟨b+1,om,_,_,rfl,om,by rw [ab];exact t,xm (xt d i) ac (AQ j.new)⟩
 .obtain rfl:b=CJ f:=om
  (conv=>whnf);refine jL (e.ext d).cells (k:=0) rfl ?_;(conv=>whnf);refine iN ?_;(conv=>whnf);exact ⟨_,_,_,rfl,(j.own.arr Aa),(xt x d)⟩
theorem PG (hs:s<256) (w:World):Dq 213 [.int .u64 s] w (fun v w'=>v = .int .i64 (Vu s)/\AD w w'):=by
 have b:∀ s:Fin 256,aK8 (s.val:Int)=(Vu s.val:Int):=by decide +kernel
 have a:=b ⟨s,hs⟩;simp only at a;unfold aK8 aK9 aL0 aL1 aL2 aL3 aL4 at a;refine oV Tryz.func213 ?_;conv=>whnf
 refine AB.shr om ?_;(conv=>whnf);refine AB.and ?_;(conv=>whnf);refine AB.and ?_;(conv=>whnf);refine Ho ?_;(conv=>whnf);refine AB.shr om ?_;(conv=>whnf);refine AB.and ?_;(conv=>whnf);refine AB.and ?_;(conv=>whnf);refine Ho ?_;(conv=>whnf);refine AB.shr om ?_;(conv=>whnf);refine Ho ?_;(conv=>whnf);refine AB.and ?_;(conv=>whnf);refine AB.shr om ?_;(conv=>whnf);refine Ho ?_;(conv=>whnf);refine AB.shr om ?_;(conv=>whnf);refine Ho ?_;(conv=>whnf);refine AB.shr om ?_;(conv=>whnf);refine Ho ?_;(conv=>whnf);refine Xm (k := .i64) kR kR ?_
 (conv=>whnf);refine AB.and ?_;(conv=>whnf);exact ⟨congrArg (Value.int .i64) a,AD.refl _⟩
theorem SF (hs:s<256) (w:World):Dq 141 [.int .u64 s] w (fun v w'=>v = .int .i64 (Vu s)/\AD w w'):=by
 refine oV Tryz.func141 ?_;conv=>whnf
 refine dM (PG hs _) fun b a=>?_;(conv=>whnf);exact ⟨rfl,a⟩
theorem WG {m:Int} (hm:m=1\/m=2) (w:World):Dq 145 [.int .i64 m] w (fun v w'=>v = .bool true/\w=w'):=by
 rcases hm with rfl | rfl
 .refine oV Tryz.func145 ?_;conv=>whnf
  exact ⟨rfl,rfl⟩
 .refine oV Tryz.func145 ?_;conv=>whnf
  exact ⟨rfl,rfl⟩
theorem Sk {l:List Ak} (h:A4 Ak.enc 2 w a n l) (hn2:n<=40) (hok:∀ p∈l,BH p.col/\(p.mode=1\/p.mode=2)) (hT:GR w) :
  Dq 80 [.slice a n c] w (fun v w'=>v = .string (Dp 32 (l.map Bg))/\AD w w'):=by
 have bu:=h.len;have a5:∀ p∈l,∀ aa,Dq 145 [.int .i64 p.mode] aa (fun v w'=>v = .bool true/\aa=w'):=fun p t aa=>WG (hok p t).2 aa;refine oV Tryz.func80 ?_;conv=>whnf
 refine bS BK (vs:=[]) ?_;intro bn bw a3 bv a1 au;have av:=Ag (enc:=eS) AP au a3;(conv=>whnf);refine lR [3,7,8,9] (fun (b:Nat) bf w'=>∃ x ae,bf=[.slice x b ae,.slice a n c,.int .i64 n,.int .i64 b]/\b<=n/\(∃ ak,x=some ⟨ak,0,none⟩)/\An eS 1 w.heap.size 9 w' x b ae ((l.take b).map Bg)/\AD w w') (fun b=>n - b) 0 ⟨_,_,rfl,om,⟨_,rfl⟩,by simpa using av,a1⟩ ?_;rintro b bo _ bx ⟨x,ae,rfl,bt,⟨ak,rfl⟩,q,d⟩;rcases Nat.lt_or_ge b n with a7 | a7
 .obtain ⟨p,t⟩:=AA (l:=l) (k:=b) om;have aq:=List.mem_of_getElem? t;obtain ⟨ai,a9⟩:=hok p aq;have am:=a5 p aq;have ap:=Cz Bg t;have br:=Bh ai.1 ai.2;have an:=ai;rcases a9 with r | r
  .have ah:Bg p=BV p.col++bs [100]:=by unfold Bg;rw [if_pos r]
   (conv=>whnf);refine iY ?_;(conv=>whnf);refine jI (h.ext d) b rfl t ?_;intro ax be a6 ag;(conv=>whnf);refine jA (n:=2) ag rfl ?_;(conv=>whnf);refine jN (z := .agg #[.int .i64 0,.int .i64 0]) ?_;intro ay bg o bc j ab;(conv=>whnf);refine jS ab (vs:=p.enc) rfl rfl (by simp [Ak.enc,AM]) ?_;intro bh i g;(conv=>whnf);refine jL g.cells (k:=1) rfl ?_;(conv=>whnf);refine (am _).mono ?_;rintro _ _ ⟨rfl,rfl⟩;(conv=>whnf);refine Au A7 mixed (pZ [0,5,20,35,11,26,30,41,46,17,50,57,63,65]) kR kR ?_;(conv=>whnf);intro bi e;(conv=>whnf);refine dL g.cells (k:=0) rfl ?_;(conv=>whnf);refine dL g.cells (k:=1) (v := .int .i64 1) (by simp [Ak.enc,r]) ?_;(conv=>whnf);refine DT.sub 0 rfl om om ?_;(conv=>whnf);refine dL g.cells (k:=1) (v := .int .i64 1) (by simp [Ak.enc,r]) ?_;(conv=>whnf);refine IK kR (s:=⟨#[100,122]⟩) 0 1 dE dE (.inr rfl) (.inr rfl) ?_;(conv=>whnf);rw [show (ByteArray.mk #[100,122]).extract 0 1=bs [100] from by decide];refine dM (Cm an (hT.ext (xt (xb (xt d j) i.but (nB d o)) e))) fun bj f=>?_;(conv=>whnf);refine ⟨(xt e f),?_⟩;(conv=>whnf);refine GO sO ?_;(conv=>whnf);refine bS BK (vs:=[Value.string (BV p.col++bs [100])]) ?_;intro az bk af bd m ac;have ad:=AH (n:=1) (enc:=eS) (xs:=[BV p.col++bs [100]]) AP ac af rfl dE;(conv=>whnf);refine ⟨(xt (xt e f) m),?_⟩;(conv=>whnf);refine AN (enc:=eS) BK AP (q.ext (xt (xt (xt (xb j i.but o) e) f) m)) (ad.own.arr AP) (by intro ar _;simp [eS,AM]) om om (Below.size (xt (xt (xt (xb (xt d j) i.but (nB d o)) e) f) m)) ?_;intro aw a0 bl u aj bb;(conv=>whnf);refine jP (((b+1:Nat):Int)) ?_;(conv=>whnf);refine ⟨b+1,om,_,_,rfl,om,?_,?_,(xm (xt (xt (xt (xb (xt d j) i.but (nB d o)) e) f) m) aj (AQ q.new))⟩
   .exact u.own.some om
   .rw [ap,ah];exact u
  .have ah:Bg p=BV p.col++bs [122]:=by unfold Bg;rw [if_neg om]
   (conv=>whnf);refine iY ?_;(conv=>whnf);refine jI (h.ext d) b rfl t ?_;intro ax be a6 ag;(conv=>whnf);refine jA (n:=2) ag rfl ?_;(conv=>whnf);refine jN (z := .agg #[.int .i64 0,.int .i64 0]) ?_;intro ay bg o bc j ab;(conv=>whnf);refine jS ab (vs:=p.enc) rfl rfl (by simp [Ak.enc,AM]) ?_;intro bh i g;(conv=>whnf);refine jL g.cells (k:=1) rfl ?_;(conv=>whnf);refine (am _).mono ?_;rintro _ _ ⟨rfl,rfl⟩;(conv=>whnf);refine Au A7 mixed (pZ [0,5,20,35,11,26,30,41,46,17,50,57,63,65]) kR kR ?_;(conv=>whnf);intro bi e;(conv=>whnf);refine dL g.cells (k:=0) rfl ?_;(conv=>whnf);refine dL g.cells (k:=1) (v := .int .i64 2) (by simp [Ak.enc,r]) ?_;(conv=>whnf);refine DT.sub 1 rfl om om ?_;(conv=>whnf);refine dL g.cells (k:=1) (v := .int .i64 2) (by simp [Ak.enc,r]) ?_;(conv=>whnf);refine IK kR (s:=⟨#[100,122]⟩) 1 2 dE dE (.inr rfl) (.inr rfl) ?_;(conv=>whnf);rw [show (ByteArray.mk #[100,122]).extract 1 2=bs [122] from by decide];refine dM (Cm an (hT.ext (xt (xb (xt d j) i.but (nB d o)) e))) fun bj f=>?_;(conv=>whnf);refine ⟨(xt e f),?_⟩;(conv=>whnf);refine GO sO ?_;(conv=>whnf);refine bS BK (vs:=[Value.string (BV p.col++bs [122])]) ?_;intro az bk af bd m ac;have ad:=AH (n:=1) (enc:=eS) (xs:=[BV p.col++bs [122]]) AP ac af rfl dE;(conv=>whnf);refine ⟨(xt (xt e f) m),?_⟩;(conv=>whnf);refine AN (enc:=eS) BK AP (q.ext (xt (xt (xt (xb j i.but o) e) f) m)) (ad.own.arr AP) (by intro ar _;simp [eS,AM]) om om (Below.size (xt (xt (xt (xb (xt d j) i.but (nB d o)) e) f) m)) ?_;intro aw a0 bl u aj bb;(conv=>whnf);refine jP (((b+1:Nat):Int)) ?_;(conv=>whnf);refine ⟨b+1,om,_,_,rfl,om,?_,?_,(xm (xt (xt (xt (xb (xt d j) i.but (nB d o)) e) f) m) aj (AQ q.new))⟩
   .exact u.own.some om
   .rw [ap,ah];exact u
 .obtain rfl:b=n:=om
  rw [List.take_of_length_le om] at q;have ao:=Po 32 ((l.map Bg).map (·.data.toList)) (B:=22) (fun ar a'=>by
   obtain ⟨b0,ba,rfl⟩:=List.mem_map.1 a';obtain ⟨y,a8,rfl⟩:=List.mem_map.1 ba;have al:=hok y a8;have bp:=Bh al.1.1 al.1.2;have bq:(Bg y).size=(BV y.col).size+1:=by
    unfold Bg;rw [ByteArray.size_append];split<;>rfl
   show (Bg y).data.toList.length<=22;simp;omega)
  have a4:=Qp (sep:=⟨#[32]⟩) q.own q.le.1 om (by
   simp only [List.length_map] at ao;have:(Lib.join (List.map (fun bm=>bm.data.toList) (List.map Bg l)) [32]).length<=40 * 23:=by
    exact Nat.le_trans ao<|Nat.mul_le_mul_right _ om
   show (Lib.join _ [32]).length<=_;omega)
  (conv=>whnf);refine iN ?_;(conv=>whnf);refine a4.mono ?_;rintro _ bz ⟨rfl,a2⟩;(conv=>whnf);exact ⟨rfl,xt d a2⟩
theorem FY (x:Int) (w:World):Dq 276 [.int .i64 x] w (fun v w'=>v = .bool false/\w=w'):=by
 refine oV Tryz.func276 ?_;conv=>whnf
 exact ⟨by simp [*],rfl⟩
theorem MD (x y:Int) (w:World):Dq 214 [.int .i64 x,.int .i64 y] w (fun v w'=>v = .int .i64 (if x<y then -1 else if y<x then 1 else 0)/\AD w w'):=by
 by_cases a:x<y
 .rw [if_pos a];refine oV Tryz.func214 ?_;conv=>whnf
  refine (FY _ _).mono ?_;rintro _ _ ⟨rfl,rfl⟩;(conv=>whnf);refine (FY _ _).mono ?_;rintro _ _ ⟨rfl,rfl⟩;(conv=>whnf);refine iY ?_;(conv=>whnf);exact ⟨rfl,AD.refl _⟩
 .rw [if_neg a];by_cases b:y<x
  .rw [if_pos b];refine oV Tryz.func214 ?_;conv=>whnf
   refine (FY _ _).mono ?_;rintro _ _ ⟨rfl,rfl⟩;(conv=>whnf);refine (FY _ _).mono ?_;rintro _ _ ⟨rfl,rfl⟩;(conv=>whnf);refine iN ?_;(conv=>whnf);refine iY ?_;(conv=>whnf);exact ⟨rfl,AD.refl _⟩
  .rw [if_neg b];refine oV Tryz.func214 ?_;conv=>whnf
   refine (FY _ _).mono ?_;rintro _ _ ⟨rfl,rfl⟩;(conv=>whnf);refine (FY _ _).mono ?_;rintro _ _ ⟨rfl,rfl⟩;(conv=>whnf);refine iN ?_;(conv=>whnf);refine iN ?_;(conv=>whnf);exact ⟨rfl,AD.refl _⟩
theorem Kk {b:Option Addr} {m d:Nat} {xs ys:List Nat} (h:A4 eI 1 w a n (xs.map fun (i:Nat)=>(i:Int))) (h2:A4 eI 1 w b m (ys.map fun (i:Nat)=>(i:Int))) :
  Dq 142 [.slice a n c,.slice b m d] w (fun v w'=>v = .int .i64 (FC xs ys)/\AD w w'):=by
 have a0:n<=9223372036854775807:=h.2.1;have av:=h.len;have au:=h2.len;rw [List.length_map] at av;rw [List.length_map] at au;have ao:∀ (k r:Nat),xs[k]? = some r->(xs.map fun (i:Nat)=>(i:Int))[k]? = some (r:Int):=fun k r ad=>by rw [List.getElem?_map,ad];rfl
 have ap:∀ (k r:Nat),ys[k]? = some r->(ys.map fun (i:Nat)=>(i:Int))[k]? = some (r:Int):=fun k r ad=>by rw [List.getElem?_map,ad];rfl
 refine oV Tryz.func142 ?_;conv=>whnf
 refine lR [0,1,9,10,11] (fun (k:Nat) aw w'=>aw=[.slice a n c,.slice b m d,.slice a n c,.int .i64 n,.int .i64 k]/\k<=n/\k<=m/\FC xs ys=FC (xs.drop k) (ys.drop k)/\AD w w') (fun k=>n - k) 0 ⟨rfl,om,om,rfl,AD.refl _⟩ ?_;rintro k ax _ a2 ⟨rfl,ay,az,e,j⟩;rcases Nat.lt_or_ge k n with ar | ar
 .obtain ⟨o,ai⟩:=AA (l:=xs) (k:=k) om;have y:=ao k o ai;have x:xs.drop k=o :: xs.drop (k+1):=by rw [List.drop_eq_getElem_cons om];rw [(List.getElem?_eq_some_iff.1 ai).2]
  rcases Nat.lt_or_ge k m with aq | aq
  .obtain ⟨f,aj⟩:=AA (l:=ys) (k:=k) om;have ac:=ap k f aj;have p:ys.drop k=f :: ys.drop (k+1):=by rw [List.drop_eq_getElem_cons om];rw [(List.getElem?_eq_some_iff.1 aj).2]
   rw [x,p] at e;simp only [FC] at e;by_cases ag:o<f
   .rw [if_pos ag] at e;have t:∀ g,Dq 214 [.int .i64 o,.int .i64 f] g (fun v w'=>v = .int .i64 (-1)/\AD g w'):=fun g=>by
     have:=MD o f g;rw [if_pos om] at this;exact this
    rw [e];(conv=>whnf);refine iY ?_;(conv=>whnf);refine jI (h.ext j) k rfl y ?_;intro aa ae ab q;(conv=>whnf);refine jO q rfl ?_;(conv=>whnf);refine iN ?_;(conv=>whnf);refine jI (h2.ext j) k rfl ac ?_;intro af al ah u;(conv=>whnf);refine jO u rfl ?_;(conv=>whnf);refine dM (t _) fun am s=>?_;(conv=>whnf);exact ⟨rfl,(xt j s)⟩
   .rw [if_neg ag] at e;by_cases ak:f<o
    .rw [if_pos ak] at e;have t:∀ g,Dq 214 [.int .i64 o,.int .i64 f] g (fun v w'=>v = .int .i64 1/\AD g w'):=fun g=>by
      have:=MD o f g;rw [if_neg om,if_pos om] at this;exact this
     rw [e];(conv=>whnf);refine iY ?_;(conv=>whnf);refine jI (h.ext j) k rfl y ?_;intro aa ae ab q;(conv=>whnf);refine jO q rfl ?_;(conv=>whnf);refine iN ?_;(conv=>whnf);refine jI (h2.ext j) k rfl ac ?_;intro af al ah u;(conv=>whnf);refine jO u rfl ?_;(conv=>whnf);refine dM (t _) fun am s=>?_;(conv=>whnf);exact ⟨rfl,(xt j s)⟩
    .rw [if_neg ak] at e;have t:∀ g,Dq 214 [.int .i64 o,.int .i64 f] g (fun v w'=>v = .int .i64 0/\AD g w'):=fun g=>by
      have:=MD o f g;rw [if_neg om,if_neg om] at this;exact this
     (conv=>whnf);refine iY ?_;(conv=>whnf);refine jI (h.ext j) k rfl y ?_;intro aa ae ab q;(conv=>whnf);refine jO q rfl ?_;(conv=>whnf);refine iN ?_;(conv=>whnf);refine jI (h2.ext j) k rfl ac ?_;intro af al ah u;(conv=>whnf);refine jO u rfl ?_;(conv=>whnf);refine dM (t _) fun am s=>?_;(conv=>whnf);refine jP (((k+1:Nat):Int)) ?_;(conv=>whnf);exact ⟨k+1,om,rfl,om,om,om,(xt j s)⟩
  .have p:ys.drop k=[]:=List.drop_eq_nil_of_le om;rw [x,p] at e;simp only [FC] at e;rw [e];(conv=>whnf);refine iY ?_;(conv=>whnf);refine jI (h.ext j) k rfl y ?_;intro aa ae ab q;(conv=>whnf);refine jO q rfl ?_;(conv=>whnf);refine iY ?_;(conv=>whnf);exact ⟨rfl,j⟩
 .have x:xs.drop k=[]:=List.drop_eq_nil_of_le om;by_cases a1:n<m
  .have p:∃ f z,ys.drop k=f :: z:=by
    cases an:ys.drop k with
    | nil=>have:=congrArg List.length an;simp at this;omega
    | cons f z=>exact ⟨f,z,rfl⟩
   obtain ⟨f,z,p⟩:=p;rw [x,p] at e;simp only [FC] at e;rw [e];(conv=>whnf);refine iN ?_;(conv=>whnf);refine iY ?_;(conv=>whnf);exact ⟨rfl,j⟩
  .have p:ys.drop k=[]:=List.drop_eq_nil_of_le om;rw [x,p] at e;simp only [FC] at e;rw [e];(conv=>whnf);refine iN ?_;(conv=>whnf);refine iN ?_;(conv=>whnf);exact ⟨rfl,j⟩
theorem M9 {xs:List (List Int)} (h:Ac AZ w a n xs) (hfo:f.ok) :
  Dq 79 [.slice a n c,.agg ⟨f.enc⟩] w (fun v w'=>∃ a' m c',v = .tuple #[.slice a' m c',.int .i64 (F4 xs f).2]/\A4 Ak.enc 2 w' a' m (F4 xs f).1/\AD w w'):=by
 have gb:=h.len;have cd:∀ g,AD w g->Dq 138 [.slice a n c,.agg ⟨f.enc⟩] g (fun v w'=>v = .int .i64 (Bu xs f).2/\AD g w'):=fun g r=>Lj (h.ext r) f;by_cases b2:(Bu xs f).2=0
 .obtain ⟨dc,cf,f7⟩:=WB b2;rw [b2] at cd;have dw:=Am dc;have f2:=dw.1;have gf:=EX dc;have f5:=Bc cf;by_cases ao:4<f.to_ - f.from_
  .have u:F4 xs f=([],5):=by simp [F4,b2,ao]
   rw [u];refine oV Tryz.func79 ?_;conv=>whnf
   refine AB.box ?_;intro ec fg ej e6 bo a7;(conv=>whnf);refine jA (n:=2) a7.cells rfl ?_;(conv=>whnf);refine dM (cd _ bo) fun fh a6=>?_;(conv=>whnf);refine jL (a7.ext a6).cells (k:=1) rfl ?_;(conv=>whnf);refine jL (a7.ext a6).cells (k:=0) rfl ?_;(conv=>whnf);refine AB.sub _ rfl om om ?_;(conv=>whnf);refine iY ?_;(conv=>whnf);refine ⟨_,_,_,rfl,?_,(xt bo a6)⟩
   .exact A4.nil
  .have u:F4 xs f=(Bw (By f) (NR xs f (2 ^ (By f).length)).1,0):=by simp [F4,b2,ao]
   rw [u];have er:∀ g,Dq 139 [.agg ⟨f.enc⟩] g (fun v w'=>∃ a n c,v = .slice a n c/\A4 Ak.enc 2 w' a n (By f)/\AD g w'):=fun g=>Sd cf om g;have en:∀ g,AD w g->Dq 140 [.slice a n c,.agg ⟨f.enc⟩] g (fun v w'=>∃ a' c',v = .slice a' n c'/\n<=c'/\Dl Aw w' g.heap.size w'.heap.size a' n 144 (K8 xs f)/\AD g w'):=fun g r=>It (h.ext r) dc cf;have f6:(CJ f:Int)=f.to_ - f.from_:=by unfold CJ;omega
   have f9:=RL f;have dd:(By f).length<=8:=om
   have e3:∀ x∈By f,0<=x.col/\x.col<AJ xs/\(x.mode=1\/x.mode=2):=fun x ay=>Pr cf ay;generalize ep:By f=e at *;have dt:∀ g (own:List Nat) a' af c',AD w g->(∀ al∈own,al<e.length)->own.length<=8->A4 Ak.enc 2 g a' af (Bw e own)->Dq 144 [.slice a n c,.slice a' af c'] g (fun v w'=>∃ a' af c',v = .slice a' af c'/\Ac AZ w' a' af (Ci xs (Bw e own))/\AD g w'):=fun g own a' af c' r e2 dz b5=>by
    have f':=b5.len;have ga:(Bw e own).length=own.length:=by simp [Bw]
    exact Qw (h.ext r) om b5 om (fun am ab=>by
     have dv:=dw.2 am ab;have du:=Bp dv.1;exact ⟨du.2.1,du.2.2,fun x ay=>by
      have:=e3 x (Vo e2 ay);rw [dv.2];exact ⟨this.1,this.2.1⟩⟩)
   have gd:(2:Nat) ^ e.length<=2 ^ 8:=Nat.pow_le_pow_right dE dd;refine oV Tryz.func79 ?_;conv=>whnf
   refine AB.box ?_;intro ec fg ej e6 bo a7;(conv=>whnf);refine jA (n:=2) a7.cells rfl ?_;(conv=>whnf);refine dM (cd _ bo) fun fh a6=>?_;(conv=>whnf);refine jL (a7.ext a6).cells (k:=1) rfl ?_;(conv=>whnf);refine jL (a7.ext a6).cells (k:=0) rfl ?_;(conv=>whnf);refine AB.sub _ rfl om om ?_;(conv=>whnf);refine iN ?_;(conv=>whnf);refine dH (pB [0,4,6,3,9,11,13]) ?_;(conv=>whnf);intro gn b9;(conv=>whnf);refine dA (n:=2) (a7.ext a6).cells rfl ?_;(conv=>whnf);refine dA (n:=2) (a7.ext a6).cells rfl ?_;(conv=>whnf);refine (er _).mono ?_;rintro _ gp ⟨bk,fb,bn,rfl,b6,b'⟩;(conv=>whnf);refine ⟨(xt b9 b'),?_⟩;(conv=>whnf);refine (en _ (xt (xt (xt bo a6) b9) b')).mono ?_;rintro _ fi ⟨b7,b8,rfl,gl,d',c1⟩;(conv=>whnf);refine ⟨(xt (xt b9 b') c1),?_⟩;(conv=>whnf);refine bS MC (vs:=[]) ?_;intro fw fj ek gh c2 d4;have d7:=Ag (enc:=eI) AI d4 ek;(conv=>whnf);have e0:fb=e.length:=by have:=b6.len;omega
   subst e0;refine Xk ((2 ^ e.length:Nat):Int) om (aC8 dd) ?_;(conv=>whnf);have bq:∀ g a' af c' dj,AD fi g->Ac AZ g a' af dj->Dq 143 [.slice a' af c',.slice b7 n b8] g (fun v w'=>v = .bool (decide (dj=K8 xs f))/\AD g w'):=fun g a' af c' dj r b5=>Sh b5 ((d'.ext r).arr);generalize eo:K8 xs f=aa at *;have d6:=xt (xt (xt (xt bo a6) b9) b') c1;generalize eq:2 ^ e.length=bd at *;refine lR [0,7,8,9,10,41,42] (fun (b:Nat) bi w'=>∃ ar aw,bi=[.slice a n c,.slice bk e.length bn,.slice b7 n b8,.slice ar ((List.range b).foldl (Cv xs aa e) ([],false)).1.length aw,.bool ((List.range b).foldl (Cv xs aa e) ([],false)).2,.int .i64 (bd:Int),.int .i64 b]/\b<=bd/\A4 eI 1 w' ar ((List.range b).foldl (Cv xs aa e) ([],false)).1.length (((List.range b).foldl (Cv xs aa e) ([],false)).1.map fun (al:Nat)=>(al:Int))/\AD fj w') (fun b=>bd - b) 0 ⟨_,_,rfl,Nat.zero_le _,by simpa using d7.own.arr AI,AD.refl _⟩ ?_;rintro b f0 _ ag ⟨ar,aw,rfl,f8,az,a3⟩;have o:=LM xs aa e b;have db:=Wk xs aa e b;have ce:=YK xs aa e b;have cm:=xt (xt c1 c2) a3;have bj:=xt c2 a3;have cn:=xt (xt d6 c2) a3;rcases Nat.lt_or_ge b bd with dy | dy
   .generalize ge:(List.range b).foldl (Cv xs aa e) ([],false)=dg at *;obtain ⟨j,dq⟩:=dg;dsimp only at az db ce ⊢;have dz:=Zk (n:=e.length) (s:=b) dd (by rw [eq];exact dy);have gc:=Mj e.length b;have ds:∀ g,Dq 141 [.int .u64 (b:Int)] g (fun v w'=>v = .int .i64 ((DG e.length b).length:Int)/\AD g w'):=fun g=>by
     have:=SF (s:=b) om g;rw [<- dz] at this;exact this
    cases dq
    ·(conv=>whnf);refine iY ?_;(conv=>whnf);have bw:AD ag ag:=AD.refl _;refine bS MC (vs:=[]) ?_;intro bl fk c4 e7 bz ci;(conv=>whnf);refine bS EJ (vs:=[]) ?_;intro bm bu c5 d0 a1 bv;have dk:=Below.size bw;have fq:=bz.size;have fr:=a1.size;have cq:An eI 1 ag.heap.size 3 bu (some ⟨bl,0,none⟩) 0 0 ([]:List Int):=(Ag (enc:=eI) AI ci (Nat.le_trans dk c4)).ext a1;have bx:An Ak.enc 2 ag.heap.size 193 bu (some ⟨bm,0,none⟩) 0 0 []:=Ag (enc:=Ak.enc) Aa bv om;(conv=>whnf);refine lR [0,7,8,9,10,11,12,13,41,42,56,57,58] (fun (d:Nat) bi w'=>∃ ad an ah au,bi=[.slice a n c,.slice bk e.length bn,.slice b7 n b8,.slice ar j.length aw,.bool false,.int .i64 b,.slice ad (DG d b).length an,.slice ah (DG d b).length au,.int .i64 (bd:Int),.int .i64 b,.slice bk e.length bn,.int .i64 (e.length:Int),.int .i64 d]/\d<=e.length/\An eI 1 ag.heap.size 3 w' ad (DG d b).length an ((DG d b).map fun (al:Nat)=>(al:Int))/\An Ak.enc 2 ag.heap.size 193 w' ah (DG d b).length au (Bw e (DG d b))/\(∀ ac,AL ad ac->¬ AL ah ac)/\AD ag w') (fun d=>e.length - d) 0 ⟨_,_,_,_,rfl,Nat.zero_le _,cq,bx,?_,xt (xt bw bz) a1⟩ ?_
     .rintro ac ⟨am,ab,rfl⟩ ⟨ap,ak,u⟩;cases ab
      cases ak
      have u:bl=bm:=u;omega
     rintro d dr _ bb ⟨ad,an,ah,au,rfl,dx,y,aq,a8,i⟩;have ez:=Mj d b;rcases Nat.lt_or_ge d e.length with br | br
     .obtain ⟨x,ay⟩:=AA (l:=e) (k:=d) om;have a4:=TE (s:=b) ay;have p:=I5 d b;have hand:FQ .i64 ((b:Int) / 2 ^ d) 1=(b:Int) / 2 ^ d % 2:=aJ8 (Tb om om _).1 (Tb om om _).2;have a9:=Wi b d;(conv=>whnf);refine iY ?_;(conv=>whnf);refine jI (b6.ext (xt cm i)) d rfl ay ?_;intro ed fc es da;(conv=>whnf);refine jA (n:=2) da rfl ?_;(conv=>whnf);refine jN (z := .agg #[.int .i64 0,.int .i64 0]) ?_;intro ee fl c6 e8 c3 cj;(conv=>whnf);refine jS cj (vs:=x.enc) rfl rfl (by simp [Ak.enc,AM]) ?_;intro di c0 ck;have q:AD bb di:=xb c3 c0.but c6;(conv=>whnf);refine EN ((b:Int) / 2 ^ d) om (Zb om) ?_;(conv=>whnf);refine MT ((b:Int) / 2 ^ d % 2) hand ?_;(conv=>whnf);cases b1:b.testBit d
      .rw [b1] at a9 a4 p;simp only [Bool.false_eq_true,if_false] at a4 p;refine DY a9 ?_;(conv=>whnf);refine jP (((d+1:Nat):Int)) ?_;(conv=>whnf);exact ⟨d+1,om,ad,an,ah,au,by rw [p];rfl,om,by rw [p];exact y.ext q,by rw [p];exact aq.ext q,a8,xt i q⟩
      .rw [b1] at a9 a4 p;simp only [if_true] at a4 p;refine Fh a9 ?_;(conv=>whnf);refine bS MC (vs:=[Value.int IntKind.i64 (d:Int)]) ?_;intro ef fn em e9 aj cl;(conv=>whnf);refine Ba (enc:=eI) MC AI (y.ext (xt q aj)) (ys:=[(d:Int)]) (m:=1) cl.cells rfl (by simp [Al,eI,AM]) om om (Below.size (xt (xt i q) aj)) ?_;intro ct cx fd co a5 bh;(conv=>whnf);have cr:=(aq.ext (xt q aj)).mod a5 (fun ap ak av=>a8 _ av ⟨ap,ak,rfl⟩);refine jA (n:=2) ((ck.ext aj).mod a5 (fun av=>by
        obtain ⟨ap,ak,u⟩:=av;have:=(y.blk_lt ap ak).2;omega)).cells rfl ?_
       (conv=>whnf);refine AB.buildSlice EJ (vs:=[.agg ⟨x.enc⟩]) rF rF (by simp [Value.cells,Ak.enc]) dE ?_;intro eb fe ei e5 a0 ch;(conv=>whnf);refine Ba (enc:=Ak.enc) EJ Aa (cr.ext a0) (ys:=[x]) (m:=1) ch.cells rfl (by simp [Al,Ak.enc,AM]) om om (Below.size (xt (xm (xt (xt i q) aj) a5 (AQ y.new)) a0)) ?_;intro cu cy ff cp b3 de;(conv=>whnf);refine jP (((d+1:Nat):Int)) ?_;(conv=>whnf);have fs:=q.size;have ft:=aj.size;have fo:=a5.size;have fp:=a0.size;refine ⟨d+1,om,ct,cx,cu,cy,by rw [p,List.length_append];rfl,om,?_,?_,?_,?_⟩
       .rw [p,List.length_append,List.map_append];exact (co.ext a0).mod b3 (fun ap ak av=>by
         rcases bh _ ⟨ap,ak,rfl⟩ with a2 | a2
         .exact a8 _ a2 av
         .obtain ⟨am,ab,u⟩:=av;have:=(aq.blk_lt am ab).2;omega)
       .rw [a4,p,List.length_append];exact cp
       .intro ac a2 c7;rcases de ac c7 with be | be
        .rcases bh ac a2 with ao | ao
         .exact a8 ac ao be
         .obtain ⟨am,ab,u⟩:=be;have:=(aq.blk_lt am ab).2;omega
        .rcases bh ac a2 with ao | ao
         .obtain ⟨am,ab,u⟩:=ao;have:=(y.blk_lt am ab).2;omega
         .omega
       .exact xm (xt (xm (xt (xt i q) aj) a5 (AQ y.new)) a0) b3 (AQ aq.new)
     .obtain rfl:d=e.length:=om
      have cb:∀ g,AD bb g->Dq 142 [.slice ad (DG e.length b).length an,.slice ar j.length aw] g (fun v w'=>v = .int .i64 (FC (DG e.length b) j)/\AD g w'):=fun g r=>Kk ((y.own.arr AI).ext r) (az.ext (xt i r));have bf:∀ g,AD bb g->Dq 144 [.slice a n c,.slice ah (DG e.length b).length au] g (fun v w'=>∃ a' af c',v = .slice a' af c'/\Ac AZ w' a' af (Ci xs (Bw e (DG e.length b)))/\AD g w'):=fun g r=>dt g _ ah _ au (xt (xt cn i) r) (fun al bg=>Pn bg) om ((aq.own.arr Aa).ext r);have ca:=y.own.arr AI;generalize c8:DG e.length b=own at *;generalize c9:Ci xs (Bw e own)=bt at *;have ae:Cv xs aa e (j,false) b=if (false:Bool)=true/\j.length<own.length then (j,false) else if ((false:Bool)=true/\own.length=j.length/\0<FC own j)\/¬ bt=aa then (j,false) else (own,true):=by
       unfold Cv;rw [c8,c9]
      by_cases ba:bt=aa
      .rw [if_neg sI,if_neg (by simp [ba])] at ae;rw [ae] at o;(conv=>whnf);refine iN ?_;(conv=>whnf);refine (bf _ (AD.refl _)).mono ?_;rintro _ dh ⟨cs,df,cw,rfl,bc,ai⟩;(conv=>whnf);refine dM (bq _ _ _ _ _ (xt (xt bj i) ai) bc) fun b4 t=>?_;(conv=>whnf);refine iF ?_;(conv=>whnf);refine jP (((b+1:Nat):Int)) ?_;(conv=>whnf);exact ⟨b+1,om,ad,an,by rw [o];rfl,om,by rw [o];exact ca.ext (xt (ai) t),xt a3 (xt i (xt (ai) t))⟩
      .rw [if_neg sI,if_pos (.inr ba)] at ae;rw [ae] at o;(conv=>whnf);refine iN ?_;(conv=>whnf);refine (bf _ (AD.refl _)).mono ?_;rintro _ dh ⟨cs,df,cw,rfl,bc,ai⟩;(conv=>whnf);refine dM (bq _ _ _ _ _ (xt (xt bj i) ai) bc) fun b4 t=>?_;(conv=>whnf);refine iT ?_;(conv=>whnf);refine jP (((b+1:Nat):Int)) ?_;(conv=>whnf);exact ⟨b+1,om,ar,aw,by rw [o];rfl,om,by rw [o];exact az.ext (xt i (xt (ai) t)),xt a3 (xt i (xt (ai) t))⟩
    .by_cases dl:j.length<(DG e.length b).length
     .have e4:Cv xs aa e (j,true) b=(j,true):=by unfold Cv;rw [if_pos ⟨rfl,dl⟩]
      rw [e4] at o;(conv=>whnf);refine iY ?_;(conv=>whnf);refine As (k := .u64) kR kR (EZ om om) ?_
      (conv=>whnf);refine dM (ds _) fun d1 bp=>?_;(conv=>whnf);refine iY ?_;(conv=>whnf);refine jP (((b+1:Nat):Int)) ?_;(conv=>whnf);exact ⟨b+1,om,ar,aw,by rw [o];rfl,om,by rw [o];exact az.ext bp,xt a3 bp⟩
     ·(conv=>whnf);refine iY ?_;(conv=>whnf);refine As (k := .u64) kR kR (EZ om om) ?_
      (conv=>whnf);refine dM (ds _) fun d1 bp=>?_;(conv=>whnf);refine iN ?_;(conv=>whnf);have bw:AD ag d1:=bp;refine bS MC (vs:=[]) ?_;intro bl fk c4 e7 bz ci;(conv=>whnf);refine bS EJ (vs:=[]) ?_;intro bm bu c5 d0 a1 bv;have dk:=Below.size bw;have fq:=bz.size;have fr:=a1.size;have cq:An eI 1 ag.heap.size 3 bu (some ⟨bl,0,none⟩) 0 0 ([]:List Int):=(Ag (enc:=eI) AI ci (Nat.le_trans dk c4)).ext a1;have bx:An Ak.enc 2 ag.heap.size 193 bu (some ⟨bm,0,none⟩) 0 0 []:=Ag (enc:=Ak.enc) Aa bv om;(conv=>whnf);refine lR [0,7,8,9,10,11,12,13,41,42,56,57,58] (fun (d:Nat) bi w'=>∃ ad an ah au,bi=[.slice a n c,.slice bk e.length bn,.slice b7 n b8,.slice ar j.length aw,.bool true,.int .i64 b,.slice ad (DG d b).length an,.slice ah (DG d b).length au,.int .i64 (bd:Int),.int .i64 b,.slice bk e.length bn,.int .i64 (e.length:Int),.int .i64 d]/\d<=e.length/\An eI 1 ag.heap.size 3 w' ad (DG d b).length an ((DG d b).map fun (al:Nat)=>(al:Int))/\An Ak.enc 2 ag.heap.size 193 w' ah (DG d b).length au (Bw e (DG d b))/\(∀ ac,AL ad ac->¬ AL ah ac)/\AD ag w') (fun d=>e.length - d) 0 ⟨_,_,_,_,rfl,Nat.zero_le _,cq,bx,?_,xt (xt bw bz) a1⟩ ?_
      .rintro ac ⟨am,ab,rfl⟩ ⟨ap,ak,u⟩;cases ab
       cases ak
       have u:bl=bm:=u;omega
      rintro d dr _ bb ⟨ad,an,ah,au,rfl,dx,y,aq,a8,i⟩;have ez:=Mj d b;rcases Nat.lt_or_ge d e.length with br | br
      .obtain ⟨x,ay⟩:=AA (l:=e) (k:=d) om;have a4:=TE (s:=b) ay;have p:=I5 d b;have hand:FQ .i64 ((b:Int) / 2 ^ d) 1=(b:Int) / 2 ^ d % 2:=aJ8 (Tb om om _).1 (Tb om om _).2;have a9:=Wi b d;(conv=>whnf);refine iY ?_;(conv=>whnf);refine jI (b6.ext (xt cm i)) d rfl ay ?_;intro ed fc es da;(conv=>whnf);refine jA (n:=2) da rfl ?_;(conv=>whnf);refine jN (z := .agg #[.int .i64 0,.int .i64 0]) ?_;intro ee fl c6 e8 c3 cj;(conv=>whnf);refine jS cj (vs:=x.enc) rfl rfl (by simp [Ak.enc,AM]) ?_;intro di c0 ck;have q:AD bb di:=xb c3 c0.but c6;(conv=>whnf);refine EN ((b:Int) / 2 ^ d) om (Zb om) ?_;(conv=>whnf);refine MT ((b:Int) / 2 ^ d % 2) hand ?_;(conv=>whnf);cases b1:b.testBit d
       .rw [b1] at a9 a4 p;simp only [Bool.false_eq_true,if_false] at a4 p;refine DY a9 ?_;(conv=>whnf);refine jP (((d+1:Nat):Int)) ?_;(conv=>whnf);exact ⟨d+1,om,ad,an,ah,au,by rw [p];rfl,om,by rw [p];exact y.ext q,by rw [p];exact aq.ext q,a8,xt i q⟩
       .rw [b1] at a9 a4 p;simp only [if_true] at a4 p;refine Fh a9 ?_;(conv=>whnf);refine bS MC (vs:=[Value.int IntKind.i64 (d:Int)]) ?_;intro ef fn em e9 aj cl;(conv=>whnf);refine Ba (enc:=eI) MC AI (y.ext (xt q aj)) (ys:=[(d:Int)]) (m:=1) cl.cells rfl (by simp [Al,eI,AM]) om om (Below.size (xt (xt i q) aj)) ?_;intro ct cx fd co a5 bh;(conv=>whnf);have cr:=(aq.ext (xt q aj)).mod a5 (fun ap ak av=>a8 _ av ⟨ap,ak,rfl⟩);refine jA (n:=2) ((ck.ext aj).mod a5 (fun av=>by
         obtain ⟨ap,ak,u⟩:=av;have:=(y.blk_lt ap ak).2;omega)).cells rfl ?_
        (conv=>whnf);refine AB.buildSlice EJ (vs:=[.agg ⟨x.enc⟩]) rF rF (by simp [Value.cells,Ak.enc]) dE ?_;intro eb fe ei e5 a0 ch;(conv=>whnf);refine Ba (enc:=Ak.enc) EJ Aa (cr.ext a0) (ys:=[x]) (m:=1) ch.cells rfl (by simp [Al,Ak.enc,AM]) om om (Below.size (xt (xm (xt (xt i q) aj) a5 (AQ y.new)) a0)) ?_;intro cu cy ff cp b3 de;(conv=>whnf);refine jP (((d+1:Nat):Int)) ?_;(conv=>whnf);have fs:=q.size;have ft:=aj.size;have fo:=a5.size;have fp:=a0.size;refine ⟨d+1,om,ct,cx,cu,cy,by rw [p,List.length_append];rfl,om,?_,?_,?_,?_⟩
        .rw [p,List.length_append,List.map_append];exact (co.ext a0).mod b3 (fun ap ak av=>by
          rcases bh _ ⟨ap,ak,rfl⟩ with a2 | a2
          .exact a8 _ a2 av
          .obtain ⟨am,ab,u⟩:=av;have:=(aq.blk_lt am ab).2;omega)
        .rw [a4,p,List.length_append];exact cp
        .intro ac a2 c7;rcases de ac c7 with be | be
         .rcases bh ac a2 with ao | ao
          .exact a8 ac ao be
          .obtain ⟨am,ab,u⟩:=be;have:=(aq.blk_lt am ab).2;omega
         .rcases bh ac a2 with ao | ao
          .obtain ⟨am,ab,u⟩:=ao;have:=(y.blk_lt am ab).2;omega
          .omega
        .exact xm (xt (xm (xt (xt i q) aj) a5 (AQ y.new)) a0) b3 (AQ aq.new)
      .obtain rfl:d=e.length:=om
       have cb:∀ g,AD bb g->Dq 142 [.slice ad (DG e.length b).length an,.slice ar j.length aw] g (fun v w'=>v = .int .i64 (FC (DG e.length b) j)/\AD g w'):=fun g r=>Kk ((y.own.arr AI).ext r) (az.ext (xt i r));have bf:∀ g,AD bb g->Dq 144 [.slice a n c,.slice ah (DG e.length b).length au] g (fun v w'=>∃ a' af c',v = .slice a' af c'/\Ac AZ w' a' af (Ci xs (Bw e (DG e.length b)))/\AD g w'):=fun g r=>dt g _ ah _ au (xt (xt cn i) r) (fun al bg=>Pn bg) om ((aq.own.arr Aa).ext r);have ca:=y.own.arr AI;generalize c8:DG e.length b=own at *;generalize c9:Ci xs (Bw e own)=bt at *;have ae:Cv xs aa e (j,true) b=if (true:Bool)=true/\j.length<own.length then (j,true) else if ((true:Bool)=true/\own.length=j.length/\0<FC own j)\/¬ bt=aa then (j,true) else (own,true):=by
        unfold Cv;rw [c8,c9]
       rw [if_neg (fun h=>dl h.2)] at ae;by_cases dn:own.length=j.length
       .by_cases dm:0<FC own j
        .rw [if_pos (.inl ⟨rfl,dn,dm⟩)] at ae;rw [ae] at o;(conv=>whnf);refine iN ?_;(conv=>whnf);refine iY ?_;(conv=>whnf);refine dM (cb _ (AD.refl _)) fun d2 ax=>?_;(conv=>whnf);refine iY ?_;(conv=>whnf);refine jP (((b+1:Nat):Int)) ?_;(conv=>whnf);exact ⟨b+1,om,ar,aw,by rw [o];rfl,om,by rw [o];exact az.ext (xt i (ax)),xt a3 (xt i (ax))⟩
        .by_cases ba:bt=aa
         .rw [if_neg (by rintro (h | h);exact dm h.2.2;exact h ba)] at ae;rw [ae] at o;(conv=>whnf);refine iN ?_;(conv=>whnf);refine iY ?_;(conv=>whnf);refine dM (cb _ (AD.refl _)) fun d2 ax=>?_;(conv=>whnf);refine iN ?_;(conv=>whnf);refine (bf _ ax).mono ?_;rintro _ b4 ⟨ea,e',eg,rfl,cg,t⟩;(conv=>whnf);refine dM (bq _ _ _ _ _ (xt (xt (xt bj i) ax) t) cg) fun fm b0=>?_;(conv=>whnf);refine iF ?_;(conv=>whnf);refine jP (((b+1:Nat):Int)) ?_;(conv=>whnf);exact ⟨b+1,om,ad,an,by rw [o];rfl,om,by rw [o];exact ca.ext (xt (xt (ax) t) b0),xt a3 (xt i (xt (xt (ax) t) b0))⟩
         .rw [if_pos (.inr ba)] at ae;rw [ae] at o;(conv=>whnf);refine iN ?_;(conv=>whnf);refine iY ?_;(conv=>whnf);refine dM (cb _ (AD.refl _)) fun d2 ax=>?_;(conv=>whnf);refine iN ?_;(conv=>whnf);refine (bf _ ax).mono ?_;rintro _ b4 ⟨ea,e',eg,rfl,cg,t⟩;(conv=>whnf);refine dM (bq _ _ _ _ _ (xt (xt (xt bj i) ax) t) cg) fun fm b0=>?_;(conv=>whnf);refine iT ?_;(conv=>whnf);refine jP (((b+1:Nat):Int)) ?_;(conv=>whnf);exact ⟨b+1,om,ar,aw,by rw [o];rfl,om,by rw [o];exact az.ext (xt i (xt (xt (ax) t) b0)),xt a3 (xt i (xt (xt (ax) t) b0))⟩
       .by_cases ba:bt=aa
        .rw [if_neg (by rintro (h | h);exact dn h.2.1;exact h ba)] at ae;rw [ae] at o;(conv=>whnf);refine iN ?_;(conv=>whnf);refine iN ?_;(conv=>whnf);refine (bf _ (AD.refl _)).mono ?_;rintro _ dh ⟨cs,df,cw,rfl,bc,ai⟩;(conv=>whnf);refine dM (bq _ _ _ _ _ (xt (xt bj i) ai) bc) fun b4 t=>?_;(conv=>whnf);refine iF ?_;(conv=>whnf);refine jP (((b+1:Nat):Int)) ?_;(conv=>whnf);exact ⟨b+1,om,ad,an,by rw [o];rfl,om,by rw [o];exact ca.ext (xt (ai) t),xt a3 (xt i (xt (ai) t))⟩
        .rw [if_pos (.inr ba)] at ae;rw [ae] at o;(conv=>whnf);refine iN ?_;(conv=>whnf);refine iN ?_;(conv=>whnf);refine (bf _ (AD.refl _)).mono ?_;rintro _ dh ⟨cs,df,cw,rfl,bc,ai⟩;(conv=>whnf);refine dM (bq _ _ _ _ _ (xt (xt bj i) ai) bc) fun b4 t=>?_;(conv=>whnf);refine iT ?_;(conv=>whnf);refine jP (((b+1:Nat):Int)) ?_;(conv=>whnf);exact ⟨b+1,om,ar,aw,by rw [o];rfl,om,by rw [o];exact az.ext (xt i (xt (ai) t)),xt a3 (xt i (xt (ai) t))⟩
   .obtain rfl:b=bd:=om
    have ew:(List.range b).foldl (Cv xs aa e) ([],false)=NR xs f b:=by unfold NR;rw [eo,ep]
    rw [ew] at az db ce ⊢;generalize NR xs f b=dg at *;obtain ⟨j,dq⟩:=dg;dsimp only at az db ce ⊢;(conv=>whnf);refine iN ?_;(conv=>whnf);refine bS EJ (vs:=[]) ?_;intro fx gq el gi bp d5;have d8:=Ag (enc:=Ak.enc) Aa d5 el;(conv=>whnf);refine lR [7,16,102,103,104] (fun (d:Nat) bi w'=>∃ cv cz,bi=[.slice bk e.length bn,.slice cv d cz,.slice ar j.length aw,.int .i64 (j.length:Int),.int .i64 d]/\d<=j.length/\An Ak.enc 2 ag.heap.size 193 w' cv d cz (Bw e (j.take d))/\AD ag w') (fun d=>j.length - d) 0 ⟨_,_,rfl,Nat.zero_le _,by simpa [Bw] using d8,bp⟩ ?_;rintro d dr _ bb ⟨cv,cz,rfl,dx,cc,i⟩;rcases Nat.lt_or_ge d j.length with br | br
    .obtain ⟨al,bg⟩:=AA br;have ey:=ce al (List.mem_of_getElem? bg);obtain ⟨x,ay⟩:=AA ey;have e1:Bw e (j.take (d+1))=Bw e (j.take d)++[x]:=by
      unfold Bw;rw [List.take_add_one,bg,List.map_append];simp [List.getD_eq_getElem?_getD,ay]
     have ex:(j.map fun (al:Nat)=>(al:Int))[d]? = some (al:Int):=by rw [List.getElem?_map,bg];rfl
     (conv=>whnf);refine iY ?_;(conv=>whnf);refine jI (az.ext i) d rfl ex ?_;intro fy gj f3 et;(conv=>whnf);refine jO et rfl ?_;(conv=>whnf);refine jI (b6.ext (xt cm i)) al rfl ay ?_;intro bl gk f4 eu;(conv=>whnf);refine jA (n:=2) eu rfl ?_;(conv=>whnf);refine AB.buildSlice EJ (vs:=[Value.agg x.enc.toArray]) rF rF (by simp [Value.cells,Ak.enc]) dE ?_;intro bm bu c5 d0 a1 bv;have bx:=AH (n:=1) (enc:=Ak.enc) (xs:=[x]) Aa bv c5 rfl dE;(conv=>whnf);refine AN (enc:=Ak.enc) EJ Aa (cc.ext a1) (bx.own.arr Aa) (by intro ap _;simp [Ak.enc,AM]) om om (Below.size (xt i a1)) ?_;intro fu fz gr d9 fa i64;(conv=>whnf);refine jP (((d+1:Nat):Int)) ?_;(conv=>whnf);refine ⟨d+1,om,_,_,rfl,om,?_,(xm (xt i a1) fa (AQ cc.new))⟩
     .rw [e1];exact d9
    .obtain rfl:d=j.length:=om
     rw [List.take_of_length_le om] at cc;(conv=>whnf);refine iN ?_;(conv=>whnf);exact ⟨_,_,_,rfl,cc.own.arr Aa,xt cn i⟩
 .have u:F4 xs f=([],(Bu xs f).2):=by simp [F4,b2]
  rw [u];refine oV Tryz.func79 ?_;conv=>whnf
  refine AB.box ?_;intro fv gm f1 gg dp d3;(conv=>whnf);refine jA (n:=2) d3.cells rfl ?_;(conv=>whnf);refine dM (cd _ dp) fun ag eh=>?_;(conv=>whnf);refine iT ?_;(conv=>whnf);refine ⟨_,_,_,rfl,?_,(xt dp eh)⟩
  .exact A4.nil
end Go.Proofs.YtalgenmoljcnmaaGreatDoor
namespace Go.M
section
open Go Go.Vc
variable {g:Int->Int} {L P:List Int} {r:Int->Int->Prop} {x:Int} {d:List (List Int)} {f:AE}
def Lc (g:Int->Int) (L:List Int) (P:List Int):List Int:=L.flatMap fun k=>P.filter fun i=>decide (g i=k)
def IE (d:List (List Int)) (c:Nat) (i:Int):Int:=(d.getD i.toNat []).getD c 0
theorem TH (d:List (List Int)) (p:Ak) (P:List Int):HC (P.map fun i=>d.getD i.toNat []) p=(Lc (fun i=>Cj (IE d p.col.toNat i) p.mode) (BF p.mode) P).map fun i=>d.getD i.toNat []:=by
 rw [Pm];unfold Lc;rw [List.map_flatMap];congr 1;funext k;rw [List.filter_map];rfl
theorem TG (h:∀ i∈P,g i∈L) (i:Int):i∈Lc g L P↔i∈P:=by
 unfold Lc;rw [List.mem_flatMap];constructor
 .rintro ⟨c,_,b⟩;exact (List.mem_filter.1 b).1
 .intro a;exact ⟨g i,h i a,List.mem_filter.2 ⟨a,sI⟩⟩
theorem TI (hL:L.Pairwise fun a b=>L.idxOf a<L.idxOf b) (hP:P.Pairwise (Dc r)) :
  (Lc g L P).Pairwise (Dc fun i j=>L.idxOf (g i)<L.idxOf (g j)\/(L.idxOf (g i)=L.idxOf (g j)/\r i j)):=by
 unfold Lc;rw [List.pairwise_flatMap];refine ⟨fun m _=>?_,?_⟩
 .refine (hP.filter _).imp_of_mem ?_;intro a b c d e;have c:=of_decide_eq_true (List.mem_filter.1 c).2;have d:=of_decide_eq_true (List.mem_filter.1 d).2;rcases e with e | ⟨h,k⟩
  .exact .inl (.inr ⟨by rw [c,d],e⟩)
  .refine .inr ⟨?_,k⟩;rintro (f | ⟨_,f⟩)
   .rw [c,d] at f;omega
   .exact h f
 .refine hL.imp ?_;intro n o l a c b d;have c:=of_decide_eq_true (List.mem_filter.1 c).2;have d:=of_decide_eq_true (List.mem_filter.1 d).2;exact .inl (.inl (by rw [c,d];exact l))
theorem TP {s:Int->Int->Prop} (h:∀ i∈P,∀ j∈P,(r i j↔s i j)) (hP:P.Pairwise (Dc r)):P.Pairwise (Dc s):=by
 refine hP.imp_of_mem ?_;intro b c d e k;rcases k with a | ⟨a,f⟩
 .exact .inl ((h b d c e).1 a)
 .exact .inr ⟨fun g=>a ((h c e b d).2 g),f⟩
def ZM (m:Int):Nat:=(BF 2).idxOf (Cj m 2)
def dpl (m:Int):Nat:=(BF 1).idxOf (Cj m 1)
theorem RZ:∀ a b:Fin 40,a.val<b.val↔(ZM (Ef a.val)<ZM (Ef b.val)\/(ZM (Ef a.val)=ZM (Ef b.val)/\dpl (Ef a.val)<dpl (Ef b.val))):=by decide +kernel
theorem aE9:∀ a:Fin 40,Cj (Ef a.val) 2∈BF 2/\Cj (Ef a.val) 1∈BF 1:=by decide +kernel
theorem O2:(BF 2).Pairwise (fun a b=>(BF 2).idxOf a<(BF 2).idxOf b)/\(BF 1).Pairwise (fun a b=>(BF 1).idxOf a<(BF 1).idxOf b):=by decide +kernel
theorem Nj {m:Int} (h:0<=Bk m):∃ k:Fin 40,Bk m=(k.val:Int)/\m=Ef k.val:=by
 unfold Bk at h ⊢;cases a:(List.range 40).find? (fun (k:Nat)=>decide (Ef k=m)) with
 | none=>rw [a] at h;simp at h
 | some k =>
  have b:=List.find?_some a;have c:=List.mem_of_find?_eq_some a;simp only [decide_eq_true_eq] at b;rw [List.mem_range] at c;exact ⟨⟨k,c⟩,rfl,b.symm⟩
theorem XD {y:Int} (hx:0<=Bk x) (hy:0<=Bk y):(Bk x<Bk y↔(ZM x<ZM y\/(ZM x=ZM y/\dpl x<dpl y)))/\(Bk x=Bk y↔(ZM x=ZM y/\dpl x=dpl y)):=by
 obtain ⟨a,c,rfl⟩:=Nj hx;obtain ⟨b,d,rfl⟩:=Nj hy;have e:=RZ a b;have f:=RZ b a;rw [c,d];omega
theorem aC9 (hx:0<=Bk x):Cj x 2∈BF 2/\Cj x 1∈BF 1:=by
 obtain ⟨a,b,rfl⟩:=Nj hx;exact aE9 a
structure aB5 (d:List (List Int)) (f:AE) (k:Nat) (Q:List Int):Prop where
 run:Ci d ((List.range k).flatMap fun (i:Nat)=>([⟨f.to_ - 1 - i,1⟩,⟨f.to_ - 1 - i,2⟩]:List Ak))=Q.map fun i=>d.getD i.toNat []
 mem:∀ i,i∈Q↔i∈FD d.length
 lex:Q.Pairwise (Dc fun i j=>CY ((AS f (d.getD i.toNat [])).drop (CJ f - k)) ((AS f (d.getD j.toNat [])).drop (CJ f - k))<0)
theorem XE (hd:A2 d=true) (hf:AR f (AJ d)=true) (hh:Dg d f=true) {k:Nat} {Q:List Int} (h:aB5 d f k Q) (hk:k<CJ f) :
  ∃ Q',aB5 d f (k+1) Q':=by
 have aw:=Bc hf;have ay:(CJ f:Int)=f.to_ - f.from_:=by unfold CJ;omega
 have t:∀ a∈Q,∃ c,0<=Bk c/\IE d (f.to_ - 1 - k).toNat a=c/\(AS f (d.getD a.toNat [])).drop (CJ f - (k+1))=Bk c :: (AS f (d.getD a.toNat [])).drop (CJ f - k):=by
  intro a e;obtain ⟨n,v,rfl⟩:=GU.1 ((h.mem a).1 e);obtain ⟨j,z⟩:=AA v;have u:=List.mem_of_getElem? z;have ax:=(Am hd).2 j u;have aa:d.getD ((n:Nat):Int).toNat []=j:=by rw [Int.toNat_natCast];exact Af z
  rw [aa];have am:=NN hd hf u;have ag:Di (Ad j f)=true:=by
   have:=hh;unfold Dg at this;exact List.all_eq_true.1 this j u
  have az:(Ad j f).length=CJ f:=by have:=am;unfold AS at this;rwa [GF] at this
  obtain ⟨c,b⟩:=AA (l:=Ad j f) (k:=CJ f - (k+1)) om;have i:=WQ ag b;refine ⟨c,i,?_,?_⟩
  .unfold IE;rw [aa];unfold Ad at b;rw [List.getElem?_take,List.getElem?_drop] at b;split at b
   .have s:f.from_.toNat+(CJ f - (k+1))=(f.to_ - 1 - k).toNat:=om
    rw [s] at b;exact Af b
   .cases b
  .have ao:(AS f j)[CJ f - (k+1)]? = some (Bk c):=Ni b;have:=Ff ao;rw [this];congr 2;omega
 have ab:∀ a∈Q,Cj (IE d (f.to_ - 1 - k).toNat a) 2∈BF 2/\Cj (IE d (f.to_ - 1 - k).toNat a) 1∈BF 1:=fun a e=>by
  obtain ⟨c,i,b,_⟩:=t a e;rw [b];exact aC9 i
 have o:∀ a,a∈Lc (fun a=>Cj (IE d (f.to_ - 1 - k).toNat a) 1) (BF 1) Q↔a∈Q:=TG fun a e=>(ab a e).2;have w:∀ a,a∈Lc (fun a=>Cj (IE d (f.to_ - 1 - k).toNat a) 2) (BF 2) (Lc (fun a=>Cj (IE d (f.to_ - 1 - k).toNat a) 1) (BF 1) Q)↔a∈Lc (fun a=>Cj (IE d (f.to_ - 1 - k).toNat a) 1) (BF 1) Q:=TG fun a e=>(ab a ((o a).1 e)).1;have aq:=TI (g:=fun a=>Cj (IE d (f.to_ - 1 - k).toNat a) 1) O2.2 h.lex;have ar:=TI (g:=fun a=>Cj (IE d (f.to_ - 1 - k).toNat a) 2) O2.1 aq;refine ⟨_,?_,fun a=>(w a).trans ((o a).trans (h.mem a)),TP (fun a e n v=>?_) ar⟩
 .rw [TU];have s:∀ (r:List Ak) (x y:Ak),Ci d (r++[x,y])=HC (HC (Ci d r) x) y:=fun r x y=>by unfold Ci;rw [List.foldl_append];rfl
  rw [s,h.run,TH,TH]
 .obtain ⟨c,b,ah,aj⟩:=t a ((o a).1 ((w a).1 e));obtain ⟨q,ap,ai,ak⟩:=t n ((o n).1 ((w n).1 v));have i:=XD b ap;rw [aj,ak,GK];simp only [ah,ai];unfold ZM dpl at i;generalize (BF 2).idxOf (Cj c 2)=au at *;generalize (BF 2).idxOf (Cj q 2)=av at *;generalize (BF 1).idxOf (Cj c 1)=ae at *;generalize (BF 1).idxOf (Cj q 1)=af at *;by_cases p:Bk c<Bk q
  .rw [if_pos p];have:=i.1.1 p;simp only [show (-1:Int)<0 from by decide,iff_true];rcases this with h | ⟨h,m⟩
   .exact .inl h
   .exact .inr ⟨h,.inl m⟩
  .rw [if_neg p];have ac:=fun h=>p (i.1.2 h);by_cases ad:Bk q<Bk c
   .rw [if_pos ad];have an:¬ (au=av/\ae=af):=fun h=>by have:=i.2.2 h;omega
    simp only [show ¬ (1:Int)<0 from by decide,iff_false];rintro (h | ⟨h,m | ⟨m,_⟩⟩)
    .exact ac (.inl h)
    .exact ac (.inr ⟨h,m⟩)
    .exact an ⟨h,m⟩
   .rw [if_neg ad];have al:=i.2.1 om;obtain ⟨rfl,rfl⟩:=al;simp
theorem TD (hd:A2 d=true) (hf:AR f (AJ d)=true) (hh:Dg d f=true):∀ k,k<=CJ f->∃ Q,aB5 d f k Q
 | 0,_=>⟨FD d.length,(Qb d []).symm,fun _=>Iff.rfl,by
   refine (NY d.length).imp_of_mem ?_;intro a b ha hb hab;refine .inr ⟨?_,hab⟩;have h0:∀ i∈FD d.length,(AS f (d.getD i.toNat [])).drop (CJ f - 0)=[]:=fun i hi=>by
    obtain ⟨j,hj,rfl⟩:=GU.1 hi;obtain ⟨c,hc⟩:=AA hj;rw [Int.toNat_natCast,Af hc];apply List.drop_eq_nil_of_le;rw [NN hd hf (List.mem_of_getElem? hc)];omega
   show ¬ CY _ _<0;rw [h0 a ha,h0 b hb];simp [CY]⟩
 | k+1,hk=>by
  obtain ⟨Q,hQ⟩:=TD hd hf hh k om;exact XE hd hf hh hQ om
theorem XZ (hd:A2 d=true) (hf:AR f (AJ d)=true) (hh:Dg d f=true):Ci d (By f)=K8 d f:=by
 obtain ⟨b,c⟩:=TD hd hf hh (CJ f) (Nat.le_refl _);have q:∀ m∈d.map (AS f),m.length=CJ f:=fun m r=>by
  obtain ⟨n,e,rfl⟩:=List.mem_map.1 r;exact NN hd hf e
 have k:=Ka q;have j:b.Pairwise (Dc (Kb (d.map (AS f)) (CJ f))):=by
  refine TP (fun a g l h=>?_) c.lex;have i:∀ a∈b,Mw (d.map (AS f)) (CJ f) a=(AS f (d.getD a.toNat [])).drop (CJ f - CJ f):=fun a g=>by
   obtain ⟨l,h,rfl⟩:=GU.1 ((c.mem a).1 g);obtain ⟨n,e⟩:=AA h;unfold Mw;rw [Int.toNat_natCast,Af e,Nat.sub_self,List.drop_zero];exact Af (by rw [List.getElem?_map,e];rfl)
  unfold Kb;rw [i a g,i l h]
 have s:b.Nodup:=j.imp fun {u v} p o=>by
  subst o;exact k.lexIrr _ p
 have t:b.Perm (FD (d.map (AS f)).length):=(List.perm_ext_iff_of_nodup s (JN _)).2 (by rw [List.length_map];exact c.mem);have:=k.is (JN _) t j;unfold K8 Ds;rw [<- this];exact c.run
end
section
open Go Go.Vc
variable {N:Nat} {ok:List Nat->Bool} {a b:List Nat} {d:List (List Int)} {f:AE}
def EC (ok:List Nat->Bool) (N:Nat):Nat->Nat->List Nat->Option (List Nat)
 | 0,_,part=>if ok part=true then some part else none
 | more+1,lo,part=>(List.range' lo (N - more - lo)).findSome? fun i=>EC ok N more (i+1) (part++[i])
structure Pf (N lo:Nat) (t:List Nat):Prop where
 rise:t.Pairwise (· < ·)
 lo:∀ x∈t,lo<=x/\x<N
theorem QS:∀ {lo:Nat} {t:List Nat},Pf N lo t->lo<=N->t.length+lo<=N
 | lo,[],_,h0=>by simpa using h0
 | lo,x :: t,h,_=>by
  have hx:=h.lo x sI;have c:Pf N (x+1) t:=⟨(List.pairwise_cons.1 h.rise).2,fun b a=>⟨(List.pairwise_cons.1 h.rise).1 b a,(h.lo b (List.mem_cons_of_mem _ a)).2⟩⟩;have:=QS c om;simp only [List.length_cons];omega
theorem Tm:∀ a:List Nat,FC a a=0
 | []=>rfl
 | x :: a=>by simp [FC,Tm a]
theorem Tl:∀ {a b:List Nat},FC a b<=0->FC b a<=0->a=b
 | [],[],_,_=>rfl
 | [],_ :: _,_,h=>by simp [FC] at h
 | _ :: _,[],h,_=>by simp [FC] at h
 | x :: a,y :: b,h1,h2=>by
  unfold FC at h1 h2;rcases Nat.lt_trichotomy x y with h | h | h
  .rw [if_neg om,if_pos h] at h2;omega
  .subst h;rw [if_neg om,if_neg om] at h1 h2;rw [Tl h1 h2]
  .rw [if_neg om,if_pos h] at h1;omega
theorem Jm:∀ {more lo:Nat} {part:List Nat},EC ok N more lo part=none->∀ t,Pf N lo t->t.length=more->ok (part++t)=false
 | 0,lo,part,h,t,_,hl=>by
  obtain rfl:=List.eq_nil_of_length_eq_zero hl;unfold EC at h;split at h
  .cases h
  .rename_i g;simpa using g
 | more+1,lo,part,h,t,ht,hl=>by
  cases t with
  | nil=>simp at hl
  | cons a t =>
   have i:=ht.lo a sI;have b:Pf N (a+1) t:=⟨(List.pairwise_cons.1 ht.rise).2,fun d c=>⟨(List.pairwise_cons.1 ht.rise).1 d c,(ht.lo d (List.mem_cons_of_mem _ c)).2⟩⟩;have f:t.length=more:=by simpa using hl
   have:=QS b om;unfold EC at h;rw [List.findSome?_eq_none_iff] at h;have e:=h a (by rw [List.mem_range'_1];omega);have:=Jm e t b f;rwa [List.append_assoc] at this
theorem RO:∀ {more lo:Nat} {part q:List Nat},EC ok N more lo part=some q ->
  ok q=true/\∃ t,q=part++t/\Pf N lo t/\t.length=more/\∀ t',Pf N lo t'->t'.length=more->ok (part++t')=true->FC t t'<=0
 | 0,lo,part,q,h=>by
  unfold EC at h;split at h
  .rename_i hq;cases h
   refine ⟨hq,[],sI,⟨sI,sI⟩,rfl,fun t' _ hl _=>?_⟩;rw [List.eq_nil_of_length_eq_zero hl];simp [FC]
  .cases h
 | more+1,lo,part,q,h=>by
  unfold EC at h;rw [List.findSome?_eq_some_iff] at h;obtain ⟨l1,i,l2,hr,hi,hn⟩:=h;obtain ⟨hq,t,rfl,j,hl,p⟩:=RO hi;have s:lo<=i/\i<N - more:=by
   have:i∈List.range' lo (N - more - lo):=by rw [hr];simp
   rw [List.mem_range'_1] at this;omega
  refine ⟨hq,i :: t,sI,⟨List.pairwise_cons.2 ⟨fun g f=>(j.lo g f).1,j.rise⟩,fun a e=>?_⟩,by simp [hl],fun t' d l c=>?_⟩
  .rcases List.mem_cons.1 e with rfl | e
   .omega
   .have:=j.lo a e;omega
  .cases t' with
   | nil=>simp at l
   | cons a t' =>
    have e:=d.lo a sI;have k:Pf N (a+1) t':=⟨(List.pairwise_cons.1 d.rise).2,fun g f=>⟨(List.pairwise_cons.1 d.rise).1 g f,(d.lo g (List.mem_cons_of_mem _ f)).2⟩⟩;have m:t'.length=more:=by simpa using l
    have u:=QS k om;have o:a∈List.range' lo (N - more - lo):=by rw [List.mem_range'_1];omega
    rw [List.append_cons] at c;unfold FC;rcases Nat.lt_trichotomy i a with h | h | h
    .rw [if_pos h];decide
    .subst h;rw [if_neg om,if_neg om];exact p t' k m c
    .exfalso;have r:a∈l1:=by
      have n:(List.range' lo (N - more - lo)).Pairwise (· < ·):=List.pairwise_lt_range';rw [hr] at o n;rcases List.mem_append.1 o with b | b
      .exact b
      .rcases List.mem_cons.1 b with b | b
       .omega
       .have:=(List.pairwise_cons.1 (List.pairwise_append.1 n).2.1).1 a b;omega
     have:=Jm (hn a r) t' k m;rw [this] at c;cases c
theorem Zi (N s:Nat):Pf N 0 (DG N s):=by
 refine ⟨?_,fun b a=>⟨Nat.zero_le _,Pn a⟩⟩;unfold DG;exact List.pairwise_lt_range.filter _
theorem aD3 {a b:Nat} (h:∀ i,i<N->a.testBit i=b.testBit i):DG N a=DG N b:=by
 unfold DG;apply List.filter_congr;intro i c;exact h i (List.mem_range.1 c)
theorem QR:∀ {N:Nat} {t:List Nat},Pf N 0 t->∃ s,s<2 ^ N/\DG N s=t
 | 0,t,h=>by
  refine ⟨0,dE,?_⟩;cases t with
  | nil=>rfl
  | cons a t=>have:=h.lo a sI;omega
 | N+1,t,h=>by
  by_cases g:N∈t
  .obtain ⟨j,c,rfl⟩:=List.append_of_mem g;have e:=h.rise;have l:c=[]:=by
    cases c with
    | nil=>rfl
    | cons i c =>
     have o:=(List.pairwise_cons.1 (List.pairwise_append.1 e).2.1).1 i sI;have p:=(h.lo i sI).2;omega
   subst l;have d:Pf N 0 j:=⟨(List.pairwise_append.1 e).1,fun a b=>⟨Nat.zero_le _,(List.pairwise_append.1 e).2.2 a b N sI⟩⟩;obtain ⟨s,f,rfl⟩:=QR d;refine ⟨2 ^ N+s,by rw [Nat.pow_succ];omega,?_⟩;rw [I5];have m:(2 ^ N+s).testBit N=true:=by
    rw [Nat.testBit_two_pow_add_eq,Nat.testBit_lt_two_pow f];rfl
   rw [if_pos m,aD3 fun q n=>Nat.testBit_two_pow_add_gt n s]
  .have d:Pf N 0 t:=⟨h.rise,fun a b=>⟨Nat.zero_le _,by
    have:=(h.lo a b).2;have:a≠N:=fun k=>g (k▸b);omega⟩⟩
   obtain ⟨s,f,rfl⟩:=QR d;refine ⟨s,by rw [Nat.pow_succ];omega,?_⟩;rw [I5,if_neg (by simp [Nat.testBit_lt_two_pow f])]
def Zt (a b:List Nat):Prop:=a.length<b.length\/(a.length=b.length/\FC a b<=0)
theorem aI7 (h1:Zt a b) (h2:Zt b a):a=b:=by
 unfold Zt at h1 h2;exact Tl om om
theorem YH:∀ {a b c:List Nat},FC a b<=0->FC b c<=0->FC a c<=0
 | [],_,[],_,_=>by simp [FC]
 | [],_,_ :: _,_,_=>by simp [FC]
 | _ :: _,[],_,h,_=>by simp [FC] at h
 | _ :: _,_ :: _,[],_,h=>by simp [FC] at h
 | x :: a,y :: b,z :: c,h1,h2=>by
  unfold FC at h1 h2 ⊢;by_cases q1:x<y
  .by_cases q2:z<y
   .rw [if_neg om,if_pos q2] at h2;omega
   .rw [if_pos om];decide
  .rw [if_neg q1] at h1;by_cases q3:y<x
   .rw [if_pos q3] at h1;omega
   rw [if_neg q3] at h1;have:x=y:=om
   subst this;by_cases d:x<z
   .rw [if_pos d];decide
   .rw [if_neg d] at h2 ⊢;by_cases e:z<x
    .rw [if_pos e] at h2;omega
    .rw [if_neg e] at h2 ⊢;exact YH h1 h2
theorem Tn:∀ a b:List Nat,FC a b = - FC b a
 | [],[]=>rfl
 | [],_ :: _=>rfl
 | _ :: _,[]=>rfl
 | x :: a,y :: b=>by
  unfold FC;rcases Nat.lt_trichotomy x y with h | h | h
  .rw [if_pos h,if_neg om,if_pos h]
  .subst h;simp only [Nat.lt_irrefl,if_false];exact Tn a b
  .rw [if_neg om,if_pos h,if_pos h];rfl
theorem aI6 {c:List Nat} (h1:Zt a b) (h2:Zt b c):Zt a c:=by
 unfold Zt at *;rcases h1 with h1 | ⟨h1,d⟩
 .left;omega
 .rcases h2 with h2 | ⟨h2,e⟩
  .left;omega
  .exact .inr ⟨om,YH d e⟩
structure aK1 (ok:List Nat->Prop) (N k:Nat) (st:List Nat×Bool):Prop where
 yes:st.2=true->ok st.1/\(∃ s,st.1=DG N s)/\∀ s,s<k->ok (DG N s)->Zt st.1 (DG N s)
 no:st.2=false->∀ s,s<k->¬ ok (DG N s)
theorem YL (d due:List (List Int)) (full:List Ak):∀ k,aK1 (fun own=>Ci d (Bw full own)=due) full.length k ((List.range k).foldl (Cv d due full) ([],false))
 | 0=>⟨fun h=>by simp at h,fun _ s hs=>by omega⟩
 | k+1=>by
  have ih:=YL d due full k;rw [LM];generalize (List.range k).foldl (Cv d due full) ([],false)=f at *;unfold Cv;split
  .rename_i i;refine ⟨fun a=>?_,fun a=>?_⟩
   .obtain ⟨g,m,e⟩:=ih.yes a;refine ⟨g,m,fun s hs b=>?_⟩;rcases Nat.lt_or_ge s k with h | h
    .exact e s h b
    .obtain rfl:s=k:=om
     exact .inl i.2
   .rw [i.1] at a;cases a
  .rename_i i;split
   .rename_i a;refine ⟨fun c=>?_,fun c=>?_⟩
    .obtain ⟨g,m,e⟩:=ih.yes c;refine ⟨g,m,fun s hs b=>?_⟩;rcases Nat.lt_or_ge s k with h | h
     .exact e s h b
     .obtain rfl:s=k:=om
      rcases a with ⟨_,j,n⟩ | a
      .refine .inr ⟨j.symm,?_⟩;have:=Tn f.1 (DG full.length s);omega
      .exact absurd b a
    .intro s hs b;rcases Nat.lt_or_ge s k with h | h
     .exact ih.no c s h b
     .obtain rfl:s=k:=om
      rcases a with ⟨j,_⟩ | a
      .rw [c] at j;cases j
      .exact a b
   .rename_i a;have b:Ci d (Bw full (DG full.length k))=due:=Classical.not_not.1 fun h=>a (.inr h);refine ⟨fun _=>⟨b,⟨k,rfl⟩,fun s hs o=>?_⟩,fun c=>by simp at c⟩;rcases Nat.lt_or_ge s k with h | h
    .cases l:f.2
     .exact absurd o (ih.no l s h)
     .obtain ⟨g,_,e⟩:=ih.yes l;refine aI6 ?_ (e s h o);show Zt (DG full.length k) f.1;have q:¬ f.1.length<(DG full.length k).length:=fun h=>i ⟨l,h⟩;rcases Nat.lt_or_ge (DG full.length k).length f.1.length with n | n
      .exact .inl n
      .refine .inr ⟨om,Classical.byContradiction fun p=>a (.inl ⟨l,om,om⟩)⟩
    .obtain rfl:s=k:=om
     exact .inr ⟨rfl,by rw [Tm];decide⟩
theorem Y1 {n:Nat} {q:List Nat} (hq:EC (fun own=>decide (Ci d (Bw (By f) own)=K8 d f)) (By f).length n 0 []=some q)
  (hn:∀ m,m<n->EC (fun own=>decide (Ci d (Bw (By f) own)=K8 d f)) (By f).length m 0 []=none):(NR d f (2 ^ (By f).length)).1=q:=by
 have i:=YL d (K8 d f) (By f) (2 ^ (By f).length);unfold NR;generalize (List.range (2 ^ (By f).length)).foldl (Cv d (K8 d f) (By f)) ([],false)=a at *;obtain ⟨c,y,k,v,w,j⟩:=RO hq;simp only [List.nil_append] at k;subst k;simp only [decide_eq_true_eq,List.nil_append] at c j;obtain ⟨r,o,b⟩:=QR v;cases p:a.2
 .exact absurd (by rw [b];exact c) (i.no p r o)
 .obtain ⟨e,⟨x,s⟩,t⟩:=i.yes p;have h:Zt a.1 q:=by
   have:=t r o (by rw [b];exact c);rwa [b] at this
  have l:Pf (By f).length 0 a.1:=by rw [s];exact Zi _ _
  refine aI7 h ?_;rcases Nat.lt_or_ge a.1.length n with g | g
  .have:=Jm (hn _ g) a.1 l rfl;simp only [List.nil_append,decide_eq_false_iff_not] at this;exact absurd e this
  .have u:a.1.length=n:=by
    unfold Zt at h;omega
   exact .inr ⟨om,j a.1 l u e⟩
theorem Ze (l:List Ak):Bw l (List.range l.length)=l:=by
 unfold Bw;apply List.ext_getElem?;intro b;by_cases a:b<l.length
 .rw [List.getElem?_map,List.getElem?_range a,Option.map_some,List.getD_eq_getElem?_getD,List.getElem?_eq_getElem a];rfl
 .rw [List.getElem?_eq_none (by simpa using a),List.getElem?_eq_none om]
theorem Y0 (hd:A2 d=true) (hf:AR f (AJ d)=true) (hh:Dg d f=true) :
  EC (fun own=>decide (Ci d (Bw (By f) own)=K8 d f)) (By f).length (By f).length 0 []≠none:=by
 intro a;have:=Jm a (List.range (By f).length) ⟨List.pairwise_lt_range,fun c b=>⟨Nat.zero_le _,List.mem_range.1 b⟩⟩ sI;rw [List.nil_append,Ze,XZ hd hf hh] at this;simp at this
end
section
open Go Go.Vc
structure ZL (K:List (List Int)) (L i:Nat) (P:List Int):Prop where
 perm:P.Perm (FD i)
 ord:P.Pairwise (Dc (Kb K L))
theorem ZL.nil (K:List (List Int)) (L:Nat):ZL K L 0 []:=⟨List.Perm.refl _,List.Pairwise.nil⟩
theorem ZL.at {K:List (List Int)} {L i j:Nat} {P:List Int} {z:Int} (h:ZL K L i P) (hz:P[j]? = some z):∃ k:Nat,z=k/\k<i:=by
 obtain ⟨k,b,a⟩:=GU.1 (h.perm.subset (List.mem_of_getElem? hz));exact ⟨k,a,b⟩
theorem ZL.done {K:List (List Int)} {L:Nat} {P:List Int} (hL:∀ k∈K,k.length=L) (h:ZL K L K.length P):P=Ds K L:=(Ka hL).is (JN _) h.perm h.ord
theorem HE {K:List (List Int)} {L k:Nat} {x:List Int} (h:K[k]? = some x):Mw K L (k:Int)=x:=by
 unfold Mw;rw [Int.toNat_natCast];exact Af h
theorem ZL.ins {K:List (List Int)} {L i j:Nat} {P:List Int} (hL:∀ k∈K,k.length=L) (h:ZL K L i P) (hj:j<=P.length) {x:List Int} (hx:K[i]? = some x)
  (h2:∀ p z y,j<=p->P[p]? = some z->K[z.toNat]? = some y->CY x y<0) (h1:j=0\/∃ z y,P[j - 1]? = some z/\K[z.toNat]? = some y/\¬ CY x y<0):ZL K L (i+1) (P.take j++[(i:Int)]++P.drop j):=by
 have e:=Ka (L:=L) hL;have m:=(List.getElem?_eq_some_iff.1 hx).1;refine ⟨?_,?_⟩
 .rw [Hi];have d:(P.take j++[(i:Int)]++P.drop j).Perm ((i:Int) :: (P.take j++P.drop j)):=by
   rw [List.append_assoc];exact List.perm_middle
  rw [List.take_append_drop] at d;exact (d.trans (h.perm.cons _)).trans (by simpa using (List.perm_append_comm (l₁:=[(i:Int)]) (l₂:=FD i)))
 .rw [List.append_assoc];show (P.take j++(i:Int) :: P.drop j).Pairwise (Dc (Kb K L));refine e.inserted (by rw [List.take_append_drop];exact h.ord) (fun z b=>?_) ?_
  .obtain ⟨p,c⟩:=List.mem_iff_getElem?.1 b;rw [List.getElem?_drop] at c;obtain ⟨k,rfl,f⟩:=h.at c;obtain ⟨y,a⟩:=AA (l:=K) (k:=k) om;refine .inl ?_;unfold Kb;rw [HE hx,HE a];exact h2 _ _ y om c (by rw [Int.toNat_natCast];exact a)
  .rcases h1 with rfl | ⟨z,y,b,a,g⟩
   .exact .inl sI
   .rcases Nat.eq_zero_or_pos j with rfl | n
    .exact .inl sI
    .refine .inr ⟨z,?_,?_⟩
     .rw [List.getLast?_eq_getElem?,List.length_take,Nat.min_eq_left hj,List.getElem?_take,if_pos om];exact b
     .obtain ⟨k,rfl,f⟩:=h.at b;rw [Int.toNat_natCast] at a;refine e.lex_of_not om ?_;unfold Kb;rw [HE hx,HE a];exact g
def K5 (K:List (List Int)):Prop:=∀ (i:Nat) (x y:List Int),K[i]? = some x->K[i+1]? = some y->¬ CY y x<0
theorem P9 {d:List (List Int)} {f:AE} {k:Nat} {x y:List Int} (hx:d[k+1]? = some x) (hy:d[k]? = some y):Ht d f (k+1)=decide (CY (AS f x) (AS f y)<0):=by
 simp [Ht,List.getD_eq_getElem?_getD,hx,hy]
theorem HG (d:List (List Int)) (f:AE):GQ d f=true↔K5 (d.map (AS f)):=by
 unfold GQ K5 FF;rw [decide_eq_true_eq,List.length_eq_zero_iff,List.filter_eq_nil_iff];constructor
 .intro g a s t b c o;rw [List.getElem?_map] at b c;cases h:d[a]? with
  | none=>rw [h] at b;cases b
  | some q =>
   cases e:d[a+1]? with
   | none=>rw [e] at c;cases c
   | some r =>
    rw [h] at b;rw [e] at c;simp only [Option.map_some,Option.some.injEq] at b c;subst b;subst c;have p:=(List.getElem?_eq_some_iff.1 e).1;have:=g (a+1) (List.mem_range.2 p);rw [P9 e h] at this;simp [o] at this
 .intro g a j i;rw [List.mem_range] at j;cases a with
  | zero=>simp [Ht] at i
  | succ a =>
   obtain ⟨r,n⟩:=AA j;obtain ⟨q,m⟩:=AA (l:=d) (k:=a) om;rw [P9 n m,decide_eq_true_eq] at i;exact g a _ _ (by rw [List.getElem?_map,m];rfl) (by rw [List.getElem?_map,n];rfl) i
theorem K5.le {K:List (List Int)} {L:Nat} (hL:∀ k∈K,k.length=L) (h:K5 K):∀ {i j:Nat} {x y:List Int},i<j->K[i]? = some x->K[j]? = some y->¬ CY y x<0:=by
 intro i j;induction j with
 | zero=>intro x y r;omega
 | succ j s =>
  intro x y r e f;by_cases n:i=j
  .subst n;exact h i x y e f
  .have w:=(List.getElem?_eq_some_iff.1 f).1;obtain ⟨m,g⟩:=AA (l:=K) (k:=j) om;have o:=s om e g;have p:=h j m y g f;intro d;have t:=hL x (List.mem_of_getElem? e);have u:=hL m (List.mem_of_getElem? g);exact p (by
    have:=RW (a:=y) (b:=y) (c:=x) rfl (by rw [Gx];omega) d;have v:=Pw o;by_cases q:CY x m=0
    .rw [<- Ie (by rw [t,u]) q];exact d
    .exact LL d om)
structure Wy (K:List (List Int)) (L na nb i k:Nat) (P:List Int):Prop where
 perm:P.Perm (FD i++(FD k).map fun j=>(na:Int)+j)
 ord:P.Pairwise (Dc (Kb K L))
 ha:∀ p∈P,∀ j:Nat,i<=j->j<na->Dc (Kb K L) p j
 hb:∀ p∈P,∀ j:Nat,k<=j->j<nb->Dc (Kb K L) p ((na:Int)+j)
theorem Wy.nil (K:List (List Int)) (L na nb:Nat):Wy K L na nb 0 0 []:=⟨by simp [FD],List.Pairwise.nil,sI,sI⟩
theorem Ug {K:List (List Int)} {L i j:Nat} {x y:List Int} (hij:i<j) (hx:K[i]? = some x) (hy:K[j]? = some y) (h:¬ CY y x<0):Dc (Kb K L) (i:Int) (j:Int):=by
 by_cases a:Kb K L i j
 .exact .inl a
 .refine .inr ⟨?_,om⟩;unfold Kb;rw [HE hx,HE hy];exact h
section
variable {A B:List (List Int)} {L:Nat} (hA:∀ k∈A,k.length=L) (hB:∀ k∈B,k.length=L) (sA:K5 A) (sB:K5 B)
theorem Rf {i:Nat} {x:List Int} (h:A[i]? = some x):(A++B)[i]? = some x:=by rw [List.getElem?_append_left (List.getElem?_eq_some_iff.1 h).1];exact h
theorem OR {i:Nat} {x:List Int} (h:B[i]? = some x):(A++B)[A.length+i]? = some x:=by rw [List.getElem?_append_right om,Nat.add_sub_cancel_left];exact h
include hA hB sA sB in
theorem Wy.right {i k:Nat} {P:List Int} (h:Wy (A++B) L A.length B.length i k P) {y:List Int} (hy:B[k]? = some y) (hlt:i=A.length\/∃ x,A[i]? = some x/\CY y x<0):Wy (A++B) L A.length B.length i (k+1) (P++[(A.length:Int)+k]):=by
 have s:=(List.getElem?_eq_some_iff.1 hy).1;have q:=OR (A:=A) hy;refine ⟨?_,?_,fun e a d o c=>?_,fun e a d o c=>?_⟩
 .rw [Hi,List.map_append,<- List.append_assoc];exact h.perm.append (List.Perm.refl _)
 .refine List.pairwise_append.2 ⟨h.ord,List.pairwise_singleton _ _,fun e a u p=>?_⟩;rw [List.mem_singleton] at p;subst p;exact h.hb e a k (Nat.le_refl _) s
 .rcases List.mem_append.1 a with a | a
  .exact h.ha e a d o c
  .rw [List.mem_singleton] at a;subst a;rcases hlt with n | ⟨x,f,g⟩
   .omega
   .obtain ⟨m,b⟩:=AA (l:=A) c;refine .inl ?_;unfold Kb;rw [show (A.length:Int)+k=((A.length+k:Nat):Int) by omega,HE q,HE (Rf b)];by_cases n:i=d
    .subst n;rw [f] at b;cases b
     exact g
    .have:=sA.le hA om f b;have t:=Pw this;by_cases r:CY x m=0
     .rw [<- Ie (by rw [hA x (List.mem_of_getElem? f),hA m (List.mem_of_getElem? b)]) r];exact g
     .exact LL g om
 .rcases List.mem_append.1 a with a | a
  .exact h.hb e a d om c
  .rw [List.mem_singleton] at a;subst a;obtain ⟨m,b⟩:=AA (l:=B) c;have:=Ug (L:=L) (i:=A.length+k) (j:=A.length+d) om q (OR (A:=A) b) (sB.le hB om hy b);simpa using this
include hA hB sA sB in
theorem Wy.left {i k:Nat} {P:List Int} (h:Wy (A++B) L A.length B.length i k P) {x:List Int} (hx:A[i]? = some x) (hge:k=B.length\/∃ y,B[k]? = some y/\¬ CY y x<0):Wy (A++B) L A.length B.length (i+1) k (P++[(i:Int)]):=by
 have u:=(List.getElem?_eq_some_iff.1 hx).1;have s:=Rf (B:=B) hx;refine ⟨?_,?_,fun f a e p d=>?_,fun f a e p d=>?_⟩
 .rw [Hi];refine (h.perm.append (List.Perm.refl [(i:Int)])).trans ?_;rw [List.append_assoc,List.append_assoc];exact List.Perm.append (List.Perm.refl _) List.perm_append_comm
 .refine List.pairwise_append.2 ⟨h.ord,List.pairwise_singleton _ _,fun f a z r=>?_⟩;rw [List.mem_singleton] at r;subst r;exact h.ha f a i (Nat.le_refl _) u
 .rcases List.mem_append.1 a with a | a
  .exact h.ha f a e om d
  .rw [List.mem_singleton] at a;subst a;obtain ⟨g,c⟩:=AA (l:=A) d;exact Ug om s (Rf c) (sA.le hA om hx c)
 .rcases List.mem_append.1 a with a | a
  .exact h.hb f a e p d
  .rw [List.mem_singleton] at a;subst a;obtain ⟨g,c⟩:=AA (l:=B) d;rcases hge with o | ⟨y,n,m⟩
   .omega
   .have v:¬ CY g x<0:=by
     by_cases o:k=e
     .subst o;rw [n] at c;cases c
      exact m
     .have w:=Pw (sB.le hB om n c);intro q;by_cases t:CY y g=0
      .exact m (by rw [Ie (by rw [hB y (List.mem_of_getElem? n),hB g (List.mem_of_getElem? c)]) t];exact q)
      .exact m (LL (b:=g) om q)
    have:=Ug (L:=L) (i:=i) (j:=A.length+e) om s (OR (A:=A) c) v;simpa using this
include hA hB sA sB in
theorem Ws {k:Nat} {P:List Int} (h:Wy (A++B) L A.length B.length A.length k P) (hk:k<=B.length):∀ m,k+m<=B.length->Wy (A++B) L A.length B.length A.length (k+m) (P++((FD (k+m)).drop k).map fun j=>(A.length:Int)+j)
 | 0,_=>by
  have e:(FD (k+0)).drop k=[]:=List.drop_eq_nil_of_le (by rw [HA];omega);rw [e];simpa using h
 | m+1,hm=>by
  obtain ⟨b,a⟩:=AA (l:=B) (k:=k+m) om;have:=(Ws h hk m om).right hA hB sA sB a (.inl rfl);have e:(FD (k+(m+1))).drop k=(FD (k+m)).drop k++[((k+m:Nat):Int)]:=by
   rw [show k+(m+1)=(k+m)+1 by omega,Hi,List.drop_append_of_le_length (by rw [HA];omega)]
  rw [e,List.map_append,<- List.append_assoc];exact this
include hA hB in
theorem Wy.done {P:List Int} (h:Wy (A++B) L A.length B.length A.length B.length P):P=Ds (A++B) L:=by
 have c:∀ a∈A++B,a.length=L:=fun a d=>(List.mem_append.1 d).elim (hA a) (hB a);refine (Ka c).is (JN _) (h.perm.trans ?_) h.ord;have b:FD (A++B).length=FD A.length++(FD B.length).map fun e=>(A.length:Int)+e:=by
  rw [List.length_append];unfold FD;rw [List.range_add,List.map_append,List.map_map,List.map_map];congr 1
 rw [b]
end
theorem N5 {d:List (List Int)} {f:AE} (h:(Bu d f).2=0):A2 d=true/\AR f (AJ d)=true/\d.all (fun c=>Di (Ad c f))=true/\Bu d f=(d.map (AS f),0):=by
 rcases MG d f with ⟨a,e,g⟩ | b
 .rw [e] at h;have h:a=0:=h;omega
 .exact b
theorem Mv {d:List (List Int)} {f:AE} (h:A2 d=true) (hf:AR f (AJ d)=true):Bu d f=if Dg d f=true then (d.map (AS f),0) else ([],8):=by
 unfold Dg Bu;rw [if_neg (by simp [h]),if_neg (by simp [hf])];cases d.all (fun a=>Di (Ad a f))<;>rfl
theorem aI8 {L:Nat} {x:List Int} {B:List (List Int)} (hx:Gf L x) (hB:∀ k∈B,Gf L k):((B.map Cf).any fun s=>decide (s=Cf x))=decide (x∈B):=by
 rw [List.any_map];by_cases a:x∈B
 .rw [decide_eq_true a];exact List.any_eq_true.2 ⟨x,a,sI⟩
 .rw [decide_eq_false a,List.any_eq_false];intro d c b;simp only [Function.comp_apply,decide_eq_true_eq] at b;exact a (T2 (hB d c) hx b▸c)
theorem aA3 {L:Nat} {d:List (List Int)} {c:List Int} {f:AE} (hc:(AS f c).length=L) (hd:∀ x∈d,(AS f x).length=L):Kt d c f=decide (AS f c∈d.map (AS f)):=by
 unfold Kt;by_cases a:AS f c∈d.map (AS f)
 .rw [decide_eq_true a];obtain ⟨x,b,g⟩:=List.mem_map.1 a;exact List.any_eq_true.2 ⟨x,b,by rw [g,Gx];rfl⟩
 .rw [decide_eq_false a,List.any_eq_false];intro x b e;rw [decide_eq_true_eq] at e;exact a (List.mem_map.2 ⟨x,b,Ie (by rw [hd x b,hc]) e⟩)
theorem Zr {α:Type} (xs ys:List α) (z:α) (k:Nat):((FD ys.length).drop k).map (fun i=>(fun j:Int=>(xs++ys).getD j.toNat z) ((xs.length:Int)+i))=ys.drop k:=by
 have b:(FD ys.length).map (fun i=>(fun j:Int=>(xs++ys).getD j.toNat z) ((xs.length:Int)+i))=ys:=by
  conv=>rhs;rw [<- Qb ys z]
  apply List.map_congr_left;intro i c;obtain ⟨a,d,rfl⟩:=GU.1 c;simp only;rw [show ((xs.length:Int)+(a:Int)).toNat=xs.length+a by omega,Int.toNat_natCast,List.getD_eq_getElem?_getD,List.getD_eq_getElem?_getD,List.getElem?_append_right om,Nat.add_sub_cancel_left]
 rw [List.map_drop,b]
end
end Go.M
