/- Parts of the proof; no conditions of its own. -/
import Derived.Test.YtalgenmoljcnmaaGreatDoorModel
import Derived.Test.YtalgenmoljcnmaaGreatDoorVcApp
import Derived.Test.YtalgenmoljcnmaaGreatDoorVcCore
namespace Go.M
open Go Go.Vc
variable {n m x:Int} {c r l:List Int} {d:List (List Int)} {i k:Nat} {b:Bool}
def E2 (c:List Int):Bool:=decide (1<=c.length) && decide (c.length<=20) && c.all fun m=>Dc m 0 4095
def H2 (d:List (List Int)) (i:Nat):Bool:=match d[i]? with | none=>false | some c=>E2 c && decide (c.length=(d.headD []).length)
def Ax (d:List (List Int)):Bool:=(List.range d.length).all (H2 d) && decide (d.length<=40)
def AJ (d:List (List Int)):Nat:=match d with | []=>20 | c :: _=>c.length
structure AF where
 from_:Int
 to_:Int
def AF.enc (f:AF):List Value:=[.int .i64 f.from_,.int .i64 f.to_]
def AF.ok (f:AF):Prop:=BM f.from_/\BM f.to_
def AR (f:AF) (n:Int):Bool:=decide (0<=f.from_) && decide (f.from_<f.to_) && decide (f.to_<=n)
def Af (f:AF) (n:Int):Bool:=AR f n && decide (f.to_ - f.from_<=12)
def AZ (c:List Int) (f:AF):List Int:=(c.drop f.from_.toNat).take (f.to_.toNat - f.from_.toNat)
theorem BV {f:AF} (h:AR f n=true):0<=f.from_/\f.from_<f.to_/\f.to_<=n:=by
 simp only [AR,Bool.and_eq_true,decide_eq_true_eq] at h;omega
theorem Br (h:E2 c=true):1<=c.length/\c.length<=20/\∀ m∈c,0<=m/\m<=4095:=by
 simp only [E2,Bool.and_eq_true,decide_eq_true_eq,List.all_eq_true] at h;exact ⟨h.1.1,h.1.2,fun m a=>Bs (h.2 m a)⟩
theorem Nj (h:d[i]? = some c):H2 d i=(E2 c && decide (c.length=(d.headD []).length)):=by simp [H2,h]
theorem Ah (h:Ax d=true):d.length<=40/\∀ c∈d,E2 c=true/\c.length=AJ d:=by
 simp only [Ax,Bool.and_eq_true,decide_eq_true_eq,List.all_eq_true,List.mem_range] at h;refine ⟨h.2,fun c a=>?_⟩;obtain ⟨e,b⟩:=List.mem_iff_getElem?.1 a;have:=h.1 e (List.getElem?_eq_some_iff.1 b).1;rw [Nj b,Bool.and_eq_true,decide_eq_true_eq] at this;refine ⟨this.1,?_⟩;cases d with
 | nil=>simp at a
 | cons g f=>simpa [AJ] using this.2
theorem IF (h:k<d.length) (hp:H2 d k=false):Ax d=false:=by
 have:(List.range d.length).all (H2 d)=false:=by
  rw [List.all_eq_false];exact ⟨k,List.mem_range.2 h,by simp [hp]⟩
 rw [Ax,this];rfl
theorem EU (h:Ax d=true):1<=AJ d/\AJ d<=20:=by
 cases d with
 | nil=>simp [AJ]
 | cons a b =>
  have:=Br ((Ah h).2 a sI).1;exact ⟨this.1,this.2.1⟩
theorem LU {f:AF} (h:AR f c.length=true):(AZ c f).length=f.to_.toNat - f.from_.toNat:=by
 have:=BV h;simp [AZ];omega
theorem LS {f:AF} (h:m∈AZ c f):m∈c:=List.mem_of_mem_drop (List.mem_of_mem_take h)
def CC (r:Int):Int:=if r=12 then 1 else if r=11 then 2 else if 0<=r/\r<=9 then 4 * 2 ^ r.toNat else 0
theorem Vq {r:Int} (h0:0<=r) (h9:r<=9):IntKind.i64.wrap (4 * 2 ^ min r.toNat IntKind.i64.bits)=CC r:=by
 obtain ⟨a,rfl⟩:∃ a:Nat,r=a:=⟨r.toNat,om⟩;have b:a<10:=om
 have c:∀ a:Fin 10,IntKind.i64.wrap (4 * 2 ^ min a.val IntKind.i64.bits)=CC (a.val:Int):=by decide +kernel
 exact c ⟨a,b⟩
def B4 (m:Int):Int:=match (List.range 10).find? (fun (d:Nat)=>decide (CC (d:Int)=m)) with | some d=>(d:Int) | none=>-1
def Ds (m:Int):Bool:=decide (m / 2 % 2=1)
def DL (m:Int):Int:=if Ds m=true then m - 2 else m
theorem aF1 (h0:0<=m) (h1:m<=4095):FM .i64 m 2=if Ds m=true then 2 else 0:=by
 obtain ⟨a,rfl⟩:∃ a:Nat,m=a:=⟨m.toNat,om⟩;have g:a<4096:=om
 have f:∀ c d:Fin 64,FM .i64 ((c.val * 64+d.val:Nat):Int) 2=if Ds ((c.val * 64+d.val:Nat):Int)=true then 2 else 0:=by decide +kernel
 have b:=f ⟨a / 64,om⟩ ⟨a % 64,om⟩;have e:a / 64 * 64+a % 64=a:=om
 dsimp only at b;rw [e] at b;exact b
theorem Z8 (h0:0<=m) (h1:m<=4095):JO .i64 m 2=DL m:=by
 obtain ⟨a,rfl⟩:∃ a:Nat,m=a:=⟨m.toNat,om⟩;have g:a<4096:=om
 have f:∀ c d:Fin 64,JO .i64 ((c.val * 64+d.val:Nat):Int) 2=DL ((c.val * 64+d.val:Nat):Int):=by decide +kernel
 have b:=f ⟨a / 64,om⟩ ⟨a % 64,om⟩;have e:a / 64 * 64+a % 64=a:=om
 dsimp only at b;rw [e] at b;exact b
theorem XS (h0:0<=m) (h1:m<=4095):0<=DL m/\DL m<=4095:=by
 unfold DL Ds;split
 .rename_i a;have:=of_decide_eq_true a;omega
 .omega
theorem KE (m:Int) : -1<=B4 m/\B4 m<=9:=by
 unfold B4;split
 .rename_i b a;have:=List.mem_of_find?_eq_some a;simp at this;omega
 .omega
theorem OP:B4 0 = -1:=by simp [B4,List.range,List.range.loop,CC]
def B3 (s:Option (Int×Bool)) (m:Int):Option (Int×Bool) :=
 match s with
 | none=>none
 | some (n,b)=>if m=0/\b=false then some (n,b) else if B4 m<0 then none else some (10 * n+B4 m,true)
def EZ (l:List Int):Option Int :=
 match l.getLast? with
 | none=>some 0
 | some m =>
  if Ds m=true then
   match l.dropLast.foldl B3 (some (0,false)) with
   | none=>none
   | some (n,_)=>if B4 (DL m)<0 then none else if 10 * n+B4 (DL m)=0 then none else some (-(10 * n+B4 (DL m)))
  else
   match l.foldl B3 (some (0,false)) with
   | none=>none
   | some (n,_)=>some n
theorem HH (l:List Int):l.foldl B3 none=none:=by
 induction l with
 | nil=>rfl
 | cons b l a=>simpa [B3] using a
theorem D8 (n:Int) (b:Bool) (m:Int):B3 (some (n,b)) m=if m=0/\b=false then some (n,b) else if B4 m<0 then none else some (10 * n+B4 m,true):=rfl
theorem KX:∀ (l:List Int) (n:Int) (b:Bool) (k:Nat),0<=n->n<10 ^ k->∀ n' b',l.foldl B3 (some (n,b))=some (n',b')->0<=n'/\n'<10 ^ (k+l.length)
 | [],n,b,k,h0,h1,n',b',h=>by
  simp at h;rw [<- h.1];exact ⟨h0,by simpa using h1⟩
 | m :: l,n,b,k,h0,h1,n',b',h=>by
  have hd:=KE m;rw [List.foldl_cons] at h;rw [D8] at h;have a:k+(m :: l).length=(k+1)+l.length:=by simp;omega
  rw [a];have c:(10:Int) ^ (k+1)=10 ^ k * 10:=by rw [Int.pow_succ]
  split at h
  .exact KX l n b (k+1) h0 om n' b' h
  .split at h
   .rw [HH] at h;cases h
   .exact KX l _ true (k+1) om om n' b' h
def DC (l:List Int):Int×Bool:=match EZ l with | none=>(0,false) | some n=>(n,true)
theorem L5:∀ (l:List Int) (n':Int),l.foldl B3 (some (0,false))=some (n',false)->n'=0/\∀ m∈l,m=0
 | [],n',h=>by simp at h;exact ⟨h.symm,sI⟩
 | m :: l,n',h=>by
  rw [List.foldl_cons] at h;rw [D8] at h;split at h
  .rename_i h1;obtain ⟨h2,h3⟩:=L5 l n' h;refine ⟨h2,fun c a=>?_⟩;rcases List.mem_cons.1 a with rfl | a
   .exact h1.1
   .exact h3 c a
  .split at h
   .rw [HH] at h;cases h
   .exfalso;have e:∀ (l:List Int) (b:Int) (n':Int),l.foldl B3 (some (b,true))≠some (n',false):=by
     intro l;induction l with
     | nil=>intro b n' h;simp at h
     | cons c l d =>
      intro b n' h;rw [List.foldl_cons] at h;rw [D8] at h;simp only [Bool.true_eq_false,and_false,if_false] at h;split at h
      .rw [HH] at h;cases h
      .exact d _ _ h
    exact e _ _ _ h
theorem L4:∀ l:List Int,(∀ m∈l,m=0)->l.foldl B3 (some (0,false))=some (0,false)
 | [],_=>rfl
 | m :: l,h=>by
  rw [List.foldl_cons,h m sI];simp only [B3,and_self,if_true];exact L4 l fun x hx=>h x (by simp [hx])
theorem Hk (q : List Int) (m : Int) : EZ (q ++ [m]) = if Ds m = true then
      match q.foldl B3 (some (0,false)) with
      | none=>none
      | some (n,_)=>if B4 (DL m)<0 then none else if 10 * n+B4 (DL m)=0 then none else some (-(10 * n+B4 (DL m)))
  else
   match B3 (q.foldl B3 (some (0,false))) m with
   | none=>none
   | some (n,_)=>some n:=by
 unfold EZ;simp
def KW (l:List Int) (m:Int):Int×Bool :=
 match (l++[DL m]).foldl B3 (some (0,false)) with
 | none=>(0,false)
 | some (n,b)=>if b=false\/DL m=0\/(Ds m=true/\n=0) then (0,false) else (if Ds m=true then -n else n,true)
theorem Yv (q:List Int) (m:Int) (h0:¬ ∀ x∈q++[m],x=0):KW q m=DC (q++[m]):=by
 unfold KW DC;rw [Hk,List.foldl_append];simp only [List.foldl_cons,List.foldl_nil];cases l:q.foldl B3 (some (0,false)) with
 | none =>
  simp only [B3];by_cases d:Ds m=true<;>simp [d]
 | some n =>
  obtain ⟨i,f⟩:=n;by_cases d:Ds m=true
  .simp only [d,if_true,true_and];by_cases a:B4 (DL m)<0
   .simp only [a,if_true];rw [D8];by_cases b:DL m=0/\f=false
    .rw [if_pos b];simp [b.2]
    .rw [if_neg b,if_pos a]
   .have g:¬ DL m=0:=fun c=>a (by rw [c,OP];decide);simp only [a,if_false];rw [D8];rw [if_neg (fun c=>g c.1),if_neg a];dsimp only;by_cases h:10 * i+B4 (DL m)=0
    .simp [h]
    .simp [h,g]
  .have j:DL m=m:=by simp [DL,d]
   rw [j];simp only [d,Bool.false_eq_true,if_false,false_and,or_false];by_cases b:m=0/\f=false
   .exfalso;apply h0;have:=L5 q i (by rw [l,b.2]);intro x e;rcases List.mem_append.1 e with e | e
    .exact this.2 x e
    .rw [List.mem_singleton.1 e];exact b.1
   .rw [D8];rw [if_neg b];by_cases a:B4 m<0
    .rw [if_pos a]
    .have k:¬ m=0:=fun c=>a (by rw [c,OP];decide);rw [if_neg a];simp [k]
theorem Yu (h:∀ x∈l,x=0):DC l=(0,true):=by
 unfold DC EZ;cases b:l.getLast? with
 | none=>rfl
 | some a =>
  have c:a=0:=h a (List.mem_of_getLast? b);subst c;have d:Ds 0=false:=dE
  simp only [d,Bool.false_eq_true,if_false];rw [L4 l h]
theorem SZ (hk:k<10) (h1:∀ j:Nat,j<k->CC (j:Int)≠m) (h2:CC (k:Int)=m):B4 m=k:=by
 have:(List.range 10).find? (fun (a:Nat)=>decide (CC (a:Int)=m))=some k:=by
  rw [List.find?_eq_some_iff_getElem];refine ⟨by simp [h2],k,by simpa using hk,sI,fun j b=>?_⟩;simp only [List.getElem_range,Bool.not_eq_true',decide_eq_false_iff_not];exact h1 j b
 unfold B4;rw [this]
theorem OQ (h1:∀ j:Nat,j<10->CC (j:Int)≠m):B4 m = -1:=by
 have:(List.range 10).find? (fun (a:Nat)=>decide (CC (a:Int)=m))=none:=by
  rw [List.find?_eq_none];intro j b;simp [h1 j (by simpa using b)]
 unfold B4;rw [this]
theorem PD {r:Int} (h:r=12):CC r=1:=by simp [CC,h]
theorem Mh {r:Int} (h:r=11):CC r=2:=by simp [CC,h]
theorem XP {r:Int} (h1:¬ r=12) (h2:¬ r=11) (h3:Dc r 0 9=false):CC r=0:=by
 unfold CC;rw [if_neg h1,if_neg h2,if_neg];intro a;simp [Dc,a] at h3
theorem ZS {p:Int->Bool} (hx:l[k]? = some x) (h:(l.take k).all p=true) (hp:p x=true):(l.take (k+1)).all p=true:=by
 rw [List.take_add_one,hx,Option.toList_some,List.all_append,h];simp [hp]
theorem YJ (h:c[k]? = some m) (hm:Dc m 0 4095=false):E2 c=false:=by
 unfold E2;have:(c.all fun m=>Dc m 0 4095)=false:=by
  rw [List.all_eq_false];exact ⟨m,List.mem_of_getElem? h,by simp [hm]⟩
 rw [this,Bool.and_false]
theorem YK (h:(c.all fun m=>Dc m 0 4095)=true):E2 c=Dc c.length 1 20:=by
 unfold E2;rw [h,Bool.and_true];unfold Dc;congr 1
 .exact decide_eq_decide.2 om
 .exact decide_eq_decide.2 om
theorem Mg {x:List Int} (h:d[i]? = some c) (hx:d[0]? = some x):H2 d i=(E2 c && decide (c.length=x.length)):=by
 rw [Nj h];cases d with
 | nil=>simp at hx
 | cons b a=>simp at hx;subst hx;rfl
theorem Sb (h:(List.range d.length).all (H2 d)=true):Ax d=decide (d.length<=40):=by simp [Ax,h]
theorem KV (h:l.foldl B3 (some (0,false))=some (n,b)) (hl:l.length<=12):0<=n/\n<1000000000000:=by
 have e:=KX l 0 false 0 om sI n b h;have d:∀ c:Fin 13,(10:Int) ^ c.val<=1000000000000:=dE
 have a:=d ⟨0+l.length,om⟩;dsimp only at a;omega
theorem SR (hx:l[i]? = some x) (s:Option (Int×Bool)):(l.take (i+1)).foldl B3 s=B3 ((l.take i).foldl B3 s) x:=by
 rw [List.take_add_one,hx,Option.toList_some,List.foldl_append];rfl
theorem SS (h:(l.take i).foldl B3 (some (0,false))=none):l.foldl B3 (some (0,false))=none:=by
 have:l=l.take i++l.drop i:=(List.take_append_drop i l).symm;rw [this,List.foldl_append,h,HH]
theorem Th (h:(r++[DL m]).foldl B3 (some (0,false))=none):KW r m=(0,false):=by
 unfold KW;rw [h]
theorem Tg (h:(r++[DL m]).foldl B3 (some (0,false))=some (n,b)):KW r m=if b=false\/DL m=0\/(Ds m=true/\n=0) then (0,false) else (if Ds m=true then -n else n,true):=by
 unfold KW;rw [h]
theorem Tf (hm:Ds m=true) (h:r.foldl B3 (some (0,false))=some (n,b)):DC (r++[m])=if B4 (DL m)<0 then (0,false) else if 10 * n+B4 (DL m)=0 then (0,false) else (-(10 * n+B4 (DL m)),true):=by
 unfold DC;rw [Hk,if_pos hm,h];dsimp only;by_cases a:B4 (DL m)<0
 .simp [a]
 .by_cases c:10 * n+B4 (DL m)=0
  .simp [a,c]
  .simp [a,c]
theorem Te (hm:Ds m=false) (h:(r++[m]).foldl B3 (some (0,false))=some (n,b)):DC (r++[m])=(n,true):=by
 rw [List.foldl_append] at h;unfold DC;rw [Hk,if_neg (by simp [hm])];simp only [List.foldl_cons,List.foldl_nil] at h;rw [h]
theorem WT (h:r.foldl B3 (some (0,false))=none):DC (r++[m])=(0,false):=by
 unfold DC;rw [Hk,h];by_cases a:Ds m=true<;>simp [a,B3]
theorem U5 (hm:Ds m=false) (h:(r++[m]).foldl B3 (some (0,false))=none):DC (r++[m])=(0,false):=by
 rw [List.foldl_append] at h;unfold DC;rw [Hk,if_neg (by simp [hm])];simp only [List.foldl_cons,List.foldl_nil] at h;rw [h]
end Go.M
namespace Go.M
variable {r:Int->Int->Prop} {i j x y:Int}
structure Jg (r:Int->Int->Prop):Prop where
 irr:∀ i,¬ r i i
 tr:∀ i j k,r i j->r j k->r i k
 ntr:∀ i j k,¬ r i j->¬ r j k->¬ r i k
def DW (r:Int->Int->Prop) (i j:Int):Prop:=r i j\/(¬ r j i/\i<j)
theorem Jg.lexIrr (h:Jg r) (i:Int):¬ DW r i i:=by
 rintro (a | ⟨_,a⟩)
 .exact h.irr i a
 .omega
theorem Jg.lexTr (h:Jg r) {k:Int} (h1:DW r i j) (h2:DW r j k):DW r i k:=by
 rcases h1 with h1 | ⟨h1,b⟩<;>rcases h2 with h2 | ⟨h2,c⟩
 .exact .inl (h.tr _ _ _ h1 h2)
 .left;apply Classical.byContradiction;intro a;exact h.ntr i k j a h2 h1
 .left;apply Classical.byContradiction;intro a;exact h.ntr j i k h1 a h2
 .exact .inr ⟨h.ntr k j i h2 h1,om⟩
theorem Jg.lexTot (_h:Jg r) (hne:i≠j):DW r i j\/DW r j i:=by
 by_cases a:r i j
 .exact .inl (.inl a)
 by_cases b:r j i
 .exact .inr (.inl b)
 by_cases c:i<j
 .exact .inl (.inr ⟨b,c⟩)
 .exact .inr (.inr ⟨a,om⟩)
theorem Xy (h:x<y):DW r y x↔r y x:=by
 constructor
 .rintro (a | ⟨_,a⟩)
  .exact a
  .omega
 .exact .inl
theorem Jg.lex_of_not (hs:Jg r) (h:x<y) (hn:¬ r y x):DW r x y:=by
 rcases hs.lexTot (i:=x) (j:=y) om with a | a
 .exact a
 .exact absurd ((Xy h).1 a) hn
theorem Jg.unique (hs:Jg r):∀ {xs ys:List Int},xs.Perm ys->xs.Pairwise (DW r)->ys.Pairwise (DW r)->xs=ys
 | [],ys,h,_,_=>(List.nil_perm.1 h).symm
 | x :: xs,[],h,_,_=>by simp at h
 | x :: xs,y :: ys,h,h1,h2=>by
  rw [List.pairwise_cons] at h1 h2;have e:x=y:=by
   apply Classical.byContradiction;intro a;have b:x∈y :: ys:=h.subset sI;have d:y∈x :: xs:=h.symm.subset sI;have c:x∈ys:=by simpa [a] using b
   have f:y∈xs:=by simpa [Ne.symm a] using d
   exact hs.lexIrr _ (hs.lexTr (h1.1 _ f) (h2.1 _ c))
  subst e;rw [hs.unique ((List.perm_cons x).1 h) h1.2 h2.2]
theorem Jg.halves (hs:Jg r) {L1 L2 R1 R2:List Int} (hL:(L1++L2).Pairwise (DW r)) (hR:(R1++R2).Pairwise (DW r))
  (h1:L1=[]\/R2=[]\/∃ x y,L1.getLast? = some x/\R2.head? = some y/\DW r x y)
  (h2:L2=[]\/R1=[]\/∃ x y,R1.getLast? = some x/\L2.head? = some y/\DW r x y) :
  ∀ x∈L1++R1,∀ y∈L2++R2,DW r x y:=by
 rw [List.pairwise_append] at hL hR;obtain ⟨q,t,s⟩:=hL;obtain ⟨v,z,w⟩:=hR;have u:∀ {a:List Int} {x f:Int},a.Pairwise (DW r)->a.getLast? = some x->f∈a->f=x\/DW r f x:=by
  intro a x f h d e;obtain ⟨g,rfl⟩:∃ g,a=g++[x]:=List.getLast?_eq_some_iff.1 d;rw [List.pairwise_append] at h;rcases List.mem_append.1 e with e | e
  .exact .inr (h.2.2 f e x sI)
  .exact .inl (by simpa using e)
 have p:∀ {a:List Int} {x f:Int},a.Pairwise (DW r)->a.head? = some x->f∈a->f=x\/DW r x f:=by
  intro a x f h d e;cases a with
  | nil=>simp at d
  | cons aa g =>
   simp at d;subst d;rw [List.pairwise_cons] at h;rcases List.mem_cons.1 e with e | e
   .exact .inl e
   .exact .inr (h.1 f e)
 have mix:∀ {a g:List Int} {x y i k:Int},a.Pairwise (DW r)->g.Pairwise (DW r)->a.getLast? = some x->g.head? = some y->DW r x y->i∈a->k∈g->DW r i k:=by
  intro a g x y i k h o d l j b c;have n:DW r i y:=by
   rcases u h d b with rfl | m
   .exact j
   .exact hs.lexTr m j
  rcases p o l c with rfl | m
  .exact n
  .exact hs.lexTr n m
 intro i b k c;rcases List.mem_append.1 b with b | b<;>rcases List.mem_append.1 c with c | c
 .exact s i b k c
 .rcases h1 with rfl | rfl | ⟨x,y,d,l,j⟩
  .cases b
  .cases c
  .exact mix q z d l j b c
 .rcases h2 with rfl | rfl | ⟨x,y,d,l,j⟩
  .cases c
  .cases b
  .exact mix v t d l j b c
 .exact w i b k c
end Go.M
namespace Go.M
variable {α:Type} {r:Int->Int->Prop} {A B X Y Z:List α} {k j:Nat} {x y:α}
theorem Jg.merged (hs:Jg r) {L1 L2 R1 R2 M1 M2:List Int} (hL:(L1++L2).Pairwise (DW r)) (hR:(R1++R2).Pairwise (DW r))
  (h1:L1=[]\/R2=[]\/∃ x y,L1.getLast? = some x/\R2.head? = some y/\DW r x y)
  (h2:L2=[]\/R1=[]\/∃ x y,R1.getLast? = some x/\L2.head? = some y/\DW r x y)
  (p1:M1.Perm (L1++R1)) (s1:M1.Pairwise (DW r)) (p2:M2.Perm (L2++R2)) (s2:M2.Pairwise (DW r)) :
  (M1++M2).Perm ((L1++L2)++(R1++R2))/\(M1++M2).Pairwise (DW r):=by
 constructor
 .refine (p1.append p2).trans ?_;simp only [List.append_assoc];refine List.Perm.append_left L1 ?_;rw [<- List.append_assoc R1,<- List.append_assoc L2];exact List.Perm.append_right R2 List.perm_append_comm
 .rw [List.pairwise_append];exact ⟨s1,s2,fun x a y b=>hs.halves hL hR h1 h2 x (p1.subset a) y (p2.subset b)⟩
theorem MW {α:Type} {A B:List α} {k j:Nat} (h:A.length+j=k):(A++B)[k]? = B[j]? := by
 rw [List.getElem?_append_right om];congr 1;omega
theorem NZ {α:Type} {A B:List α} {k:Nat} (h:k<A.length):(A++B)[k]? = A[k]? := List.getElem?_append_left h
theorem Yh {α:Type} {A B:List α} {k:Nat} {x y:α} (h:A.length=k):(A++x :: B).set k y=A++y :: B:=by
 subst h;simp
theorem Lg {α:Type} {A B:List α} {k:Nat} {x:α} (h:A.length=k):(A++x :: B)[k]? = some x:=by
 subst h;simp
theorem Oy {α:Type} {X Y Z:List α} {x y:α} {i j:Nat} (hi:X.length=i) (hj:X.length+1+Y.length=j) :
  ((X++x :: (Y++y :: Z)).set i y).set j x=X++y :: (Y++x :: Z):=by
 rw [Yh hi];have:X++y :: (Y++y :: Z)=(X++y :: Y)++y :: Z:=sI
 rw [this,Yh (by simp;omega)];simp
theorem O5 {α:Type} {X Y Z:List α} {x y:α} {j:Nat} (hj:X.length+1+Y.length=j):(X++x :: (Y++y :: Z))[j]? = some y:=by
 have:X++x :: (Y++y :: Z)=(X++x :: Y)++y :: Z:=sI
 rw [this,Lg (by simp;omega)]
theorem FW {α:Type} {A:List α} {k:Nat} {x:α} (h:A[k]? = some x):A.drop k=x :: A.drop (k+1):=by
 obtain ⟨a,rfl⟩:=List.getElem?_eq_some_iff.1 h;exact List.drop_eq_getElem_cons a
theorem GX {α:Type} {A:List α} {k:Nat} {x:α} (h:A[k]? = some x):A.take (k+1)=A.take k++[x]:=by
 rw [List.take_add_one,h];rfl
abbrev Np (xs:List Int):Prop:=xs.Pairwise (· < ·)
theorem Jg.inserted (hs:Jg r) {S1 S2:List Int} {x:Int} (h:(S1++S2).Pairwise (DW r)) (h2:∀ y∈S2,DW r x y) (h1:S1=[]\/∃ z,S1.getLast? = some z/\DW r z x) :
  (S1++x :: S2).Pairwise (DW r):=by
 rw [List.pairwise_append] at h ⊢;obtain ⟨b,g,i⟩:=h;refine ⟨b,List.pairwise_cons.2 ⟨h2,g⟩,fun y a z c=>?_⟩;have k:DW r y x:=by
  rcases h1 with rfl | ⟨d,j,f⟩
  .cases a
  .obtain ⟨e,rfl⟩:∃ e,S1=e++[d]:=List.getLast?_eq_some_iff.1 j;rw [List.pairwise_append] at b;rcases List.mem_append.1 a with a | a
   .exact hs.lexTr (b.2.2 y a d sI) f
   .have:y=d:=by simpa using a
    subst this;exact f
 rcases List.mem_cons.1 c with rfl | c
 .exact k
 .exact i y a z c
end Go.M
namespace Go.M
variable {r:Int->Int->Prop} {n:Nat}
open Classical in
noncomputable def insL (r:Int->Int->Prop) (x:Int):List Int->List Int
 | []=>[x]
 | y :: ys=>if DW r x y then x :: y :: ys else y :: insL r x ys
noncomputable def sortL (r:Int->Int->Prop):List Int->List Int
 | []=>[]
 | x :: xs=>insL r x (sortL r xs)
theorem NR (r:Int->Int->Prop) (x:Int):∀ ys:List Int,(insL r x ys).Perm (x :: ys)
 | []=>List.Perm.refl _
 | y :: ys=>by
  unfold insL;split
  .exact List.Perm.refl _
  .exact ((NR r x ys).cons y).trans (List.Perm.swap x y ys)
theorem En (r:Int->Int->Prop):∀ xs:List Int,(sortL r xs).Perm xs
 | []=>List.Perm.refl _
 | x :: xs=>(NR r x _).trans ((En r xs).cons x)
theorem Jg.insL (hs:Jg r) {x:Int}:∀ {ys:List Int},ys.Pairwise (DW r)->x∉ys->(insL r x ys).Pairwise (DW r)
 | [],_,_=>by simp [Go.M.insL]
 | y :: ys,h,hn=>by
  unfold Go.M.insL;have h':=List.pairwise_cons.1 h;split
  .rename_i b;refine List.pairwise_cons.2 ⟨fun c a=>?_,h⟩;rcases List.mem_cons.1 a with rfl | a
   .exact b
   .exact hs.lexTr b (h'.1 c a)
  .rename_i b;have f:DW r y x:=(hs.lexTot (fun d=>hn (by rw [d];simp))).resolve_left b;refine List.pairwise_cons.2 ⟨fun c a=>?_,hs.insL h'.2 (fun e=>hn (by simp [e]))⟩;rcases List.mem_cons.1 ((NR r x ys).subset a) with rfl | a
   .exact f
   .exact h'.1 c a
theorem Jg.sortL (hs:Jg r):∀ {xs:List Int},xs.Nodup->(sortL r xs).Pairwise (DW r)
 | [],_=>List.Pairwise.nil
 | x :: xs,h=>by
  rw [List.nodup_cons] at h;exact hs.insL (hs.sortL h.2) (fun hh=>h.1 ((En r xs).subset hh))
theorem Jg.is (hs:Jg r) {xs ys:List Int} (hn:xs.Nodup) (hp:ys.Perm xs) (h:ys.Pairwise (DW r)):ys=Go.M.sortL r xs :=
 hs.unique (hp.trans (En r xs).symm) h (hs.sortL hn)
def E6 (n:Nat):List Int:=(List.range n).map fun (i:Nat)=>(i:Int)
theorem Gt (n:Nat):(E6 n).length=n:=by simp [E6]
theorem YT {k:Nat} (h:k<n):(E6 n)[k]? = some (k:Int):=by simp [E6,h]
theorem HR (n:Nat):E6 (n+1)=E6 n++[(n:Int)]:=by simp [E6,List.range_succ]
theorem GD {i:Int}:i∈E6 n↔∃ k:Nat,k<n/\i=k:=by
 simp only [E6,List.mem_map,List.mem_range];constructor
 .rintro ⟨k,a,rfl⟩;exact ⟨k,a,rfl⟩
 .rintro ⟨k,a,rfl⟩;exact ⟨k,a,rfl⟩
theorem Mz (n:Nat):Np (E6 n):=by
 induction n with
 | zero=>exact List.Pairwise.nil
 | succ n c =>
  rw [HR];refine List.pairwise_append.2 ⟨c,List.pairwise_singleton _ _,fun f a g b=>?_⟩;obtain ⟨e,d,rfl⟩:=GD.1 a;rw [List.mem_singleton.1 b];omega
theorem Ix (n:Nat):(E6 n).Nodup:=(Mz n).imp (fun a=>by omega)
end Go.M
namespace Go.M
open Go Go.Vc
def Mf:List UInt8:=[32,38,65,66,67,68,69,70,71,72,73,45,74,75,76,77,78,79,80,81,82,47,83,84,85,86,87,88,89,90,48,49,50,51,52,53,54,55,56,57]
theorem YI:Mf.length=40:=rfl
def BH (k:Nat):UInt8:=Mf.getD k 0
theorem Ni {k:Nat} (h:k<40):Mf[k]? = some (BH k):=by
 unfold BH;rw [List.getD_eq_getElem?_getD,List.getElem?_eq_getElem (by rw [YI];exact h)];rfl
def EA (c:Nat):Int :=
 if c=32 then 0 else if c=38 then 1 else if c=45 then 2 else if c=47 then 12
 else if 48<=c/\c<=57 then CC ((c:Int) - 48)
 else if 65<=c/\c<=73 then 1+CC ((c:Int) - 64)
 else if 74<=c/\c<=82 then 2+CC ((c:Int) - 73)
 else if 83<=c/\c<=90 then 4+CC ((c:Int) - 81)
 else -1
def Ec (k:Nat):Int:=EA (BH k).toNat
def Bg (m:Int):Int:=match (List.range 40).find? (fun (k:Nat)=>decide (Ec k=m)) with | some k=>(k:Int) | none=>-1
theorem TZ (m:Int) : -1<=Bg m/\Bg m<=39:=by
 unfold Bg;split
 .rename_i b a;have:=List.mem_of_find?_eq_some a;simp at this;omega
 .omega
theorem Uq {m:Int} {k:Nat} (hk:k<40) (h1:∀ j:Nat,j<k->Ec j≠m) (h2:Ec k=m):Bg m=k:=by
 have:(List.range 40).find? (fun (a:Nat)=>decide (Ec a=m))=some k:=by
  rw [List.find?_eq_some_iff_getElem];refine ⟨by simp [h2],k,by simpa using hk,sI,fun j b=>?_⟩;simp only [List.getElem_range,Bool.not_eq_true',decide_eq_false_iff_not];exact h1 j b
 unfold Bg;rw [this]
theorem Ph {m:Int} (h1:∀ j:Nat,j<40->Ec j≠m):Bg m = -1:=by
 have:(List.range 40).find? (fun (a:Nat)=>decide (Ec a=m))=none:=by
  rw [List.find?_eq_none];intro j b;simp [h1 j (by simpa using b)]
 unfold Bg;rw [this]
def Dd (l:List Int):Bool:=l.all fun m=>decide (0<=Bg m)
def CK (l:List Int):List Int:=l.map Bg
def Cd (r:List Int):ByteArray:=bs (r.map fun k=>BH k.toNat)
def AS (f:AF) (c:List Int):List Int:=CK (AZ c f)
theorem IZ (r:List Int):(Cd r).size=r.length:=by simp [Cd,AV]
theorem Fz (l:List Int):(CK l).length=l.length:=by simp [CK]
theorem M8 {l:List Int} {k:Nat} {x:Int} (h:l[k]? = some x):(CK l)[k]? = some (Bg x):=by simp [CK,h]
theorem VT {l:List Int} {k:Nat} {x:Int} (h:Dd l=true) (hx:l[k]? = some x):0<=Bg x:=by
 simp only [Dd,List.all_eq_true,decide_eq_true_eq] at h;exact h x (List.mem_of_getElem? hx)
theorem ZB {l:List Int} {k:Nat} {x:Int} (hx:l[k]? = some x) (h:Bg x<0):Dd l=false:=by
 unfold Dd;rw [List.all_eq_false];exact ⟨x,List.mem_of_getElem? hx,by simp;omega⟩
theorem ZD {l:List Int} (h:∀ i x,i<l.length->l[i]? = some x->0<=Bg x):Dd l=true:=by
 unfold Dd;rw [List.all_eq_true];intro x b;obtain ⟨i,a⟩:=List.mem_iff_getElem?.1 b;exact decide_eq_true (h i x (List.getElem?_eq_some_iff.1 a).1 a)
theorem ZC (l:List Int):(l.any fun m=>decide (Bg m<0)) = !Dd l:=by
 unfold Dd;rw [List.not_all_eq_any_not];congr 1;funext m;by_cases a:Bg m<0
 .simp [a]
 .simp [a];omega
def CT:List Int->List Int->Int
 | x :: xs,y :: ys=>if x<y then -1 else if y<x then 1 else CT xs ys
 | _,_=>0
theorem Md (b:List Int):CT [] b=0:=by cases b<;>rfl
theorem Is (a:List Int):CT a []=0:=by cases a<;>rfl
theorem F5 (x y:Int) (xs ys:List Int):CT (x :: xs) (y :: ys)=if x<y then -1 else if y<x then 1 else CT xs ys:=rfl
theorem Qd:∀ a b:List Int,-1<=CT a b/\CT a b<=1
 | [],b=>by rw [Md];omega
 | a :: l,[]=>by rw [Is];omega
 | x :: xs,y :: ys=>by
  have:=Qd xs ys;rw [F5];split
  .omega
  .split<;>omega
theorem Gf:∀ a:List Int,CT a a=0
 | []=>rfl
 | x :: xs=>by rw [F5,if_neg om,if_neg om];exact Gf xs
theorem Vm:∀ a b:List Int,CT a b = - CT b a
 | [],b=>by rw [Md,Is];rfl
 | a :: l,[]=>by rw [Md,Is];rfl
 | x :: xs,y :: ys=>by
  have:=Vm xs ys;rw [F5,F5];by_cases c:x<y
  .rw [if_pos c,if_neg om,if_pos c]
  .by_cases d:y<x
   .rw [if_neg c,if_pos d,if_pos d];omega
   .rw [if_neg c,if_neg d,if_neg d,if_neg c];exact this
theorem IG:∀ {a b:List Int},a.length=b.length->CT a b=0->a=b
 | [],[],_,_=>rfl
 | [],_ :: _,h,_=>by simp at h
 | _ :: _,[],h,_=>by simp at h
 | x :: xs,y :: ys,h,h0=>by
  rw [F5] at h0;split at h0
  .omega
  .split at h0
   .omega
   .rw [IG (a:=xs) (b:=ys) (by simpa using h) h0,show x=y by omega]
theorem Kc:∀ {a b c:List Int},CT a b<0->CT b c<0->CT a c<0
 | [],b,_,h1,_=>by rw [Md] at h1;omega
 | _ :: _,[],_,h1,_=>by rw [Is] at h1;omega
 | _ :: _,b :: l,[],_,h2=>by rw [Is] at h2;omega
 | x :: xs,y :: ys,z :: zs,h1,h2=>by
  rw [F5] at h1 h2 ⊢;by_cases a1:x<y
  .by_cases a2:z<y
   .rw [if_neg om,if_pos a2] at h2;omega
   .rw [if_pos om];omega
  .rw [if_neg a1] at h1;by_cases a2:y<x
   .rw [if_pos a2] at h1;omega
   .rw [if_neg a2] at h1;have e:x=y:=om
    subst e;by_cases d:x<z
    .rw [if_pos d];omega
    .rw [if_neg d] at h2 ⊢;by_cases f:z<x
     .rw [if_pos f] at h2;omega
     .rw [if_neg f] at h2 ⊢;exact Kc h1 h2
theorem T8:∀ {a b:List Int} {k:Nat} {x y:Int},a.take k=b.take k->a[k]? = some x->b[k]? = some y->CT a b=if x<y then -1 else if y<x then 1 else CT (a.drop (k+1)) (b.drop (k+1))
 | [],_,_,_,_,_,hx,_=>by simp at hx
 | _ :: _,[],_,_,_,_,_,hy=>by simp at hy
 | p :: ps,q :: qs,0,x,y,_,hx,hy=>by
  simp at hx hy;subst hx;subst hy;rfl
 | p :: ps,q :: qs,k+1,x,y,h,hx,hy=>by
  simp only [List.take_succ_cons,List.cons.injEq] at h;obtain ⟨rfl,h2⟩:=h;rw [F5,if_neg om,if_neg om];exact T8 h2 (by simpa using hx) (by simpa using hy)
theorem Sh {a b:List Int} {k:Nat} {x y:Int} (h:a.take k=b.take k) (hx:a[k]? = some x) (hy:b[k]? = some y) (hxy:x<y):CT a b = -1:=by rw [T8 h hx hy,if_pos hxy]
theorem Sg {a b:List Int} {k:Nat} {x y:Int} (h:a.take k=b.take k) (hx:a[k]? = some x) (hy:b[k]? = some y) (hxy:y<x):CT a b=1:=by rw [T8 h hx hy,if_neg om,if_pos hxy]
theorem Si {a b:List Int} {n:Nat} (h:a.take n=b.take n) (ha:a.length=n) (hb:b.length=n):CT a b=0:=by
 rw [List.take_of_length_le om,List.take_of_length_le om] at h;rw [h];exact Gf b
theorem Rv {α:Type} {a b:List α} {k:Nat} {x:α} (h:a.take k=b.take k) (hx:a[k]? = some x) (hy:b[k]? = some x):a.take (k+1)=b.take (k+1):=by
 rw [List.take_add_one,List.take_add_one,h,hx,hy]
theorem PA {a b:List Int} (h:¬ CT b a<0):CT a b<=0:=by have:=Vm a b;omega
theorem Qc {a b c:List Int} (hl:a.length=b.length) (h1:¬ CT b a<0) (h2:CT b c<0):CT a c<0:=by
 have:=PA h1;by_cases d:CT a b=0
 .rw [IG hl d];exact h2
 .exact Kc om h2
def GO (L:Nat) (r:List Int):Prop:=r.length=L/\∀ k∈r,0<=k/\k<=39
theorem ZV {l:List Int} (h:Dd l=true):GO l.length (CK l):=by
 refine ⟨Fz l,fun d a=>?_⟩;simp only [CK,List.mem_map] at a;obtain ⟨b,c,rfl⟩:=a;simp only [Dd,List.all_eq_true,decide_eq_true_eq] at h;exact ⟨h b c,(TZ b).2⟩
theorem Qg {i j:Nat} (hi:i<40) (hj:j<40) (h:BH i=BH j):i=j:=by
 have c:∀ a b:Fin 40,BH a.val=BH b.val->a.val=b.val:=by decide +kernel
 exact c ⟨i,hi⟩ ⟨j,hj⟩ h
theorem S5 {L:Nat} {r s:List Int} (h1:GO L r) (h2:GO L s) (h:Cd r=Cd s):r=s:=by
 rw [Cd,Cd,aC8] at h;apply List.ext_getElem?;intro a;by_cases m:a<L
 .obtain ⟨f,b⟩:=AA (l:=r) (k:=a) (by have:=h1.1;omega);obtain ⟨g,c⟩:=AA (l:=s) (k:=a) (by have:=h2.1;omega);have e:(r.map fun d=>BH d.toNat)[a]? = (s.map fun d=>BH d.toNat)[a]? := by rw [h]
  simp only [List.getElem?_map,b,c,Option.map_some,Option.some.injEq] at e;have i:=h1.2 f (List.mem_of_getElem? b);have j:=h2.2 g (List.mem_of_getElem? c);have:=Qg om om e;rw [b,c,show f=g by omega]
 .rw [List.getElem?_eq_none (by have:=h1.1;omega),List.getElem?_eq_none (by have:=h2.1;omega)]
def Bn (d:List (List Int)) (f:AF):List (List Int)×Int :=
 if Ax d=false then ([],1) else if AR f (AJ d)=false then ([],2) else if d.all (fun c=>Dd (AZ c f))=false then ([],8) else (d.map (AS f),0)
theorem Ii {d:List (List Int)} {f:AF} (h:Ax d=false):Bn d f=([],1):=by simp [Bn,h]
theorem Hn {d:List (List Int)} {f:AF} (h:Ax d=true) (hf:AR f (AJ d)=false):Bn d f=([],2):=by simp [Bn,h,hf]
theorem Y5 {d:List (List Int)} {f:AF} (h:Ax d=true) (hf:AR f (AJ d)=true) {k:Nat} {c:List Int} (hc:d[k]? = some c) (hb:Dd (AZ c f)=false):Bn d f=([],8):=by
 have:d.all (fun c=>Dd (AZ c f))=false:=by
  rw [List.all_eq_false];exact ⟨c,List.mem_of_getElem? hc,by simp [hb]⟩
 unfold Bn;rw [if_neg (by simp [h]),if_neg (by simp [hf]),if_pos this]
theorem Z9 {d:List (List Int)} {f:AF} (hall:∀ i c,i<d.length->d[i]? = some c->Dd (AZ c f)=true):d.all (fun c=>Dd (AZ c f))=true:=by
 rw [List.all_eq_true];intro c b;obtain ⟨i,a⟩:=List.mem_iff_getElem?.1 b;exact hall i c (List.getElem?_eq_some_iff.1 a).1 a
theorem NQ {d:List (List Int)} {f:AF} (h:Ax d=true) (hf:AR f (AJ d)=true) (hall:d.all (fun c=>Dd (AZ c f))=true):Bn d f=(d.map (AS f),0):=by
 unfold Bn;rw [if_neg (by simp [h]),if_neg (by simp [hf]),if_neg (by simp [hall])]
theorem Lb (d:List (List Int)) (f:AF):(∃ cd,Bn d f=([],cd)/\(cd=1\/cd=2\/cd=8))\/(Ax d=true/\AR f (AJ d)=true/\d.all (fun c=>Dd (AZ c f))=true/\Bn d f=(d.map (AS f),0)):=by
 cases a:Ax d
 .exact .inl ⟨1,Ii a,.inl rfl⟩
 .cases b:AR f (AJ d)
  .exact .inl ⟨2,Hn a b,.inr (.inl rfl)⟩
  .cases e:d.all (fun c=>Dd (AZ c f))
   .refine .inl ⟨8,?_,.inr (.inr rfl)⟩;unfold Bn;rw [if_neg (by simp [a]),if_neg (by simp [b]),if_pos e]
   .exact .inr ⟨rfl,rfl,rfl,NQ a b e⟩
def CF (f:AF):Nat:=f.to_.toNat - f.from_.toNat
theorem HO {d:List (List Int)} {f:AF} (h:Ax d=true) (hf:AR f (AJ d)=true) (ha:d.all (fun c=>Dd (AZ c f))=true):∀ k∈d.map (AS f),GO (CF f) k:=by
 intro k i;obtain ⟨c,b,rfl⟩:=List.mem_map.1 i;have e:=(Ah h).2 c b;have g:AR f c.length=true:=by rw [e.2];exact hf
 have a:=ZV (List.all_eq_true.1 ha c b);rw [LU g] at a;exact a
theorem Me {d:List (List Int)} {f:AF} (h:Ax d=true) (hf:AR f (AJ d)=true) {c:List Int} (hc:c∈d):(AS f c).length=CF f:=by
 have a:=(Ah h).2 c hc;have b:AR f c.length=true:=by rw [a.2];exact hf
 unfold AS;rw [Fz,LU b];rfl
def MG (K:List (List Int)) (L:Nat) (i:Int):List Int:=K.getD i.toNat (List.replicate L 0)
def Jv (K:List (List Int)) (L:Nat) (i j:Int):Prop:=CT (MG K L i) (MG K L j)<0
theorem VH {K:List (List Int)} {L:Nat} (h:∀ k∈K,k.length=L) (i:Int):(MG K L i).length=L:=by
 unfold MG;rw [List.getD_eq_getElem?_getD];cases a:K[i.toNat]? with
 | none=>simp
 | some b=>simpa using h b (List.mem_of_getElem? a)
theorem Ju {K:List (List Int)} {L:Nat} (h:∀ k∈K,k.length=L):Jg (Jv K L):=by
 refine ⟨fun d c=>?_,fun d f k a b=>Kc a b,fun d f k a b e=>?_⟩
 .unfold Jv at c;rw [Gf] at c;omega
 .unfold Jv at *;exact b (Qc (by rw [VH h,VH h]) a e)
noncomputable def Dj (K:List (List Int)) (L:Nat):List Int:=sortL (Jv K L) (E6 K.length)
noncomputable def KR (d:List (List Int)) (f:AF):List (List Int):=(Dj (d.map (AS f)) (CF f)).map fun i=>d.getD i.toNat []
theorem Jt (K:List (List Int)) (L:Nat):(Dj K L).Perm (E6 K.length):=En _ _
theorem LR (K:List (List Int)) (L:Nat):(Dj K L).length=K.length:=by rw [(Jt K L).length_eq,Gt]
theorem WO {K:List (List Int)} {L:Nat} {i:Int} (h:i∈Dj K L):0<=i/\i.toNat<K.length:=by
 obtain ⟨b,a,rfl⟩:=GD.1 ((Jt K L).subset h);omega
theorem Pq {α:Type} (d:List α) (z:α):(E6 d.length).map (fun i=>d.getD i.toNat z)=d:=by
 apply List.ext_getElem?;intro i;by_cases a:i<d.length
 .rw [List.getElem?_map,YT a,Option.map_some,List.getD_eq_getElem?_getD];simp [a]
 .rw [List.getElem?_eq_none (by rw [List.length_map,Gt];omega),List.getElem?_eq_none om]
theorem TT (d:List (List Int)) (f:AF):(KR d f).Perm d:=by
 have a:=(Jt (d.map (AS f)) (CF f)).map fun b=>d.getD b.toNat [];rw [List.length_map,Pq] at a;exact a
theorem TU (d:List (List Int)) (f:AF):(KR d f).length=d.length:=(TT d f).length_eq
def aF8 (S:List (List Int)):Prop:=S.Pairwise fun a b=>¬ CT b a<0
def Fl (S:List (List Int)) (i:Nat):Bool:=decide (i=0) || !decide (CT (S.getD (i - 1) []) (S.getD i [])=0)
def DY (S:List (List Int)) (n:Nat):List Nat:=(List.range n).filter (Fl S)
def Aw (S:List (List Int)):List Nat:=DY S S.length
def DS (ss:List Nat) (n i:Nat):Nat:=ss.getD (i+1) n
theorem Lr (S:List (List Int)) (n:Nat):DY S (n+1)=if Fl S n=true then DY S n++[n] else DY S n:=by
 unfold DY;rw [List.range_succ,List.filter_append];split<;>simp [*]
theorem GZ {S:List (List Int)} {s:Nat}:s∈Aw S↔s<S.length/\Fl S s=true:=by simp [Aw,DY]
theorem Nu (S:List (List Int)):(Aw S).Pairwise (· < ·):=by
 unfold Aw DY;exact List.Pairwise.filter _ List.pairwise_lt_range
theorem Ae {α:Type} {l:List α} {k:Nat} {x z:α} (h:l[k]? = some x):l.getD k z=x:=by rw [List.getD_eq_getElem?_getD,h];rfl
section
variable {S:List (List Int)} {L:Nat} (hL:∀ k∈S,k.length=L) (hW:aF8 S)
theorem T5 {i s:Nat} (hi:(Aw S)[i]? = some s):s<DS (Aw S) S.length i/\DS (Aw S) S.length i<=S.length:=by
 have d:=GZ.1 (List.mem_of_getElem? hi);unfold DS;rw [List.getD_eq_getElem?_getD];cases a:(Aw S)[i+1]? with
 | none=>simp;omega
 | some f =>
  have b:=List.getElem?_eq_some_iff.1 hi;have c:=List.getElem?_eq_some_iff.1 a;have:=List.pairwise_iff_getElem.1 (Nu S) i (i+1) b.1 c.1 om;have e:=GZ.1 (List.mem_of_getElem? a);simp;omega
theorem aF6 {i s p:Nat} (hi:(Aw S)[i]? = some s) (h1:s<p) (h2:p<DS (Aw S) S.length i):Fl S p=false:=by
 have n:=T5 hi;cases m:Fl S p
 .rfl
 .exfalso;obtain ⟨d,c⟩:=List.mem_iff_getElem?.1 (GZ.2 ⟨om,m⟩);have e:=List.getElem?_eq_some_iff.1 hi;have a:=List.getElem?_eq_some_iff.1 c;have g:=List.pairwise_iff_getElem.1 (Nu S);rcases Nat.lt_trichotomy i d with b | b | b
  .by_cases j:d=i+1
   .subst j;unfold DS at h2;rw [Ae c] at h2;omega
   .obtain ⟨o,h⟩:=AA (l:=Aw S) (k:=i+1) (by have:=a.1;omega);have f:=List.getElem?_eq_some_iff.1 h;have:=g (i+1) d f.1 a.1 om;rw [f.2,a.2] at this;unfold DS at h2;rw [Ae h] at h2;omega
  .subst b;rw [hi] at c;cases c;omega
  .have:=g d i a.1 e.1 b;rw [a.2,e.2] at this;omega
end
def Be (d:List (List Int)) (f:AF):List (List (List Int)) :=
 (List.range (Aw (d.map (AS f))).length).map fun i =>
  (d.drop ((Aw (d.map (AS f))).getD i 0)).take (DS (Aw (d.map (AS f))) d.length i - (Aw (d.map (AS f))).getD i 0)
end Go.M
namespace Go.M
open Go Go.Vc
def D7 (d:List (List Int)) (f:AF):List Int:=d.filterMap fun c=>EZ (AZ c f)
theorem Pm {d:List (List Int)} {f:AF} {k:Nat} {c:List Int} {n:Int} (hc:d[k]? = some c) (hn:EZ (AZ c f)=some n):D7 (d.take (k+1)) f=D7 (d.take k) f++[n]:=by
 unfold D7;rw [List.take_add_one,hc,Option.toList_some,List.filterMap_append];simp [hn]
theorem N5 (l:List Int):DC l=(0,false)\/∃ n,DC l=(n,true)/\EZ l=some n:=by
 unfold DC;split
 .exact .inl rfl
 .rename_i n a;exact .inr ⟨n,rfl,a⟩
end Go.M
