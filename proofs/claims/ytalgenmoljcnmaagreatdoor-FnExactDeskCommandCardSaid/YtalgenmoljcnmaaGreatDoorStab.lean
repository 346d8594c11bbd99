/- Parts of the proof; no conditions of its own. -/
import Derived.Lib.ItoaNum
import Derived.Lib.ParseIntBTie
import Derived.Lib.ItoaLen
import Derived.Lib.SplitLaws
import Derived.Lib.IndexBytes
import Derived.Lib.Join
import Derived.Test.YtalgenmoljcnmaaGreatDoorProg
import Derived.Test.YtalgenmoljcnmaaGreatDoorModel
import Derived.Test.YtalgenmoljcnmaaGreatDoorVcCore
namespace Go.M
section
variable {r:Int->Int->Prop} {i j x y:Int}
structure KD (r:Int->Int->Prop):Prop where
 irr:∀ i,¬ r i i
 tr:∀ i j k,r i j->r j k->r i k
 ntr:∀ i j k,¬ r i j->¬ r j k->¬ r i k
def Dc (r:Int->Int->Prop) (i j:Int):Prop:=r i j\/(¬ r j i/\i<j)
theorem KD.lexIrr (h:KD r) (i:Int):¬ Dc r i i:=by
 rintro (a | ⟨_,a⟩)
 .exact h.irr i a
 .omega
theorem KD.lexTr (h:KD r) {k:Int} (h1:Dc r i j) (h2:Dc r j k):Dc r i k:=by
 rcases h1 with h1 | ⟨h1,b⟩<;>rcases h2 with h2 | ⟨h2,c⟩
 .exact .inl (h.tr _ _ _ h1 h2)
 .left;apply Classical.byContradiction;intro a;exact h.ntr i k j a h2 h1
 .left;apply Classical.byContradiction;intro a;exact h.ntr j i k h1 a h2
 .exact .inr ⟨h.ntr k j i h2 h1,om⟩
theorem KD.lexTot (_h:KD r) (hne:i≠j):Dc r i j\/Dc r j i:=by
 by_cases a:r i j
 .exact .inl (.inl a)
 by_cases b:r j i
 .exact .inr (.inl b)
 by_cases c:i<j
 .exact .inl (.inr ⟨b,c⟩)
 .exact .inr (.inr ⟨a,om⟩)
theorem Yu (h:x<y):Dc r y x↔r y x:=by
 constructor
 .rintro (a | ⟨_,a⟩)
  .exact a
  .omega
 .exact .inl
theorem KD.lex_of_not (hs:KD r) (h:x<y) (hn:¬ r y x):Dc r x y:=by
 rcases hs.lexTot (i:=x) (j:=y) om with a | a
 .exact a
 .exact absurd ((Yu h).1 a) hn
theorem KD.unique (hs:KD r):∀ {xs ys:List Int},xs.Perm ys->xs.Pairwise (Dc r)->ys.Pairwise (Dc r)->xs=ys
 | [],ys,h,_,_=>(List.nil_perm.1 h).symm
 | x :: xs,[],h,_,_=>by simp at h
 | x :: xs,y :: ys,h,h1,h2=>by
  rw [List.pairwise_cons] at h1 h2;have e:x=y:=by
   apply Classical.byContradiction;intro a;have b:x∈y :: ys:=h.subset sI;have d:y∈x :: xs:=h.symm.subset sI;have c:x∈ys:=by simpa [a] using b
   have f:y∈xs:=by simpa [Ne.symm a] using d
   exact hs.lexIrr _ (hs.lexTr (h1.1 _ f) (h2.1 _ c))
  subst e;rw [hs.unique ((List.perm_cons x).1 h) h1.2 h2.2]
theorem KD.halves (hs:KD r) {L1 L2 R1 R2:List Int} (hL:(L1++L2).Pairwise (Dc r)) (hR:(R1++R2).Pairwise (Dc r))
  (h1:L1=[]\/R2=[]\/∃ x y,L1.getLast? = some x/\R2.head? = some y/\Dc r x y)
  (h2:L2=[]\/R1=[]\/∃ x y,R1.getLast? = some x/\L2.head? = some y/\Dc r x y) :
  ∀ x∈L1++R1,∀ y∈L2++R2,Dc r x y:=by
 rw [List.pairwise_append] at hL hR;obtain ⟨q,t,s⟩:=hL;obtain ⟨v,z,w⟩:=hR;have u:∀ {a:List Int} {x f:Int},a.Pairwise (Dc r)->a.getLast? = some x->f∈a->f=x\/Dc r f x:=by
  intro a x f h d e;obtain ⟨g,rfl⟩:∃ g,a=g++[x]:=List.getLast?_eq_some_iff.1 d;rw [List.pairwise_append] at h;rcases List.mem_append.1 e with e | e
  .exact .inr (h.2.2 f e x sI)
  .exact .inl (by simpa using e)
 have p:∀ {a:List Int} {x f:Int},a.Pairwise (Dc r)->a.head? = some x->f∈a->f=x\/Dc r x f:=by
  intro a x f h d e;cases a with
  | nil=>simp at d
  | cons aa g =>
   simp at d;subst d;rw [List.pairwise_cons] at h;rcases List.mem_cons.1 e with e | e
   .exact .inl e
   .exact .inr (h.1 f e)
 have mix:∀ {a g:List Int} {x y i k:Int},a.Pairwise (Dc r)->g.Pairwise (Dc r)->a.getLast? = some x->g.head? = some y->Dc r x y->i∈a->k∈g->Dc r i k:=by
  intro a g x y i k h o d l j b c;have n:Dc r i y:=by
   rcases u h d b with rfl | m
   .exact j
   .exact hs.lexTr m j
  rcases p o l c with rfl | m
  .exact n
  .exact hs.lexTr n m
 intro i b k c;rcases List.mem_append.1 b with b | b<;>rcases List.mem_append.1 c with c | c
 .exact s i b k c
 .rcases h1 with rfl | rfl | ⟨x,y,d,l,j⟩
  .cases b
  .cases c
  .exact mix q z d l j b c
 .rcases h2 with rfl | rfl | ⟨x,y,d,l,j⟩
  .cases c
  .cases b
  .exact mix v t d l j b c
 .exact w i b k c
end
section
variable {α:Type} {r:Int->Int->Prop} {A B X Y Z:List α} {k j:Nat} {x y:α}
theorem KD.merged (hs:KD r) {L1 L2 R1 R2 M1 M2:List Int} (hL:(L1++L2).Pairwise (Dc r)) (hR:(R1++R2).Pairwise (Dc r))
  (h1:L1=[]\/R2=[]\/∃ x y,L1.getLast? = some x/\R2.head? = some y/\Dc r x y)
  (h2:L2=[]\/R1=[]\/∃ x y,R1.getLast? = some x/\L2.head? = some y/\Dc r x y)
  (p1:M1.Perm (L1++R1)) (s1:M1.Pairwise (Dc r)) (p2:M2.Perm (L2++R2)) (s2:M2.Pairwise (Dc r)) :
  (M1++M2).Perm ((L1++L2)++(R1++R2))/\(M1++M2).Pairwise (Dc r):=by
 constructor
 .refine (p1.append p2).trans ?_;simp only [List.append_assoc];refine List.Perm.append_left L1 ?_;rw [<- List.append_assoc R1,<- List.append_assoc L2];exact List.Perm.append_right R2 List.perm_append_comm
 .rw [List.pairwise_append];exact ⟨s1,s2,fun x a y b=>hs.halves hL hR h1 h2 x (p1.subset a) y (p2.subset b)⟩
theorem NF {α:Type} {A B:List α} {k j:Nat} (h:A.length+j=k):(A++B)[k]? = B[j]? := by
 rw [List.getElem?_append_right om];congr 1;omega
theorem OH {α:Type} {A B:List α} {k:Nat} (h:k<A.length):(A++B)[k]? = A[k]? := List.getElem?_append_left h
theorem Zc {α:Type} {A B:List α} {k:Nat} {x y:α} (h:A.length=k):(A++x :: B).set k y=A++y :: B:=by
 subst h;simp
theorem ML {α:Type} {A B:List α} {k:Nat} {x:α} (h:A.length=k):(A++x :: B)[k]? = some x:=by
 subst h;simp
theorem Pj {α:Type} {X Y Z:List α} {x y:α} {i j:Nat} (hi:X.length=i) (hj:X.length+1+Y.length=j) :
  ((X++x :: (Y++y :: Z)).set i y).set j x=X++y :: (Y++x :: Z):=by
 rw [Zc hi];have:X++y :: (Y++y :: Z)=(X++y :: Y)++y :: Z:=sI
 rw [this,Zc sW];simp
theorem Pq {α:Type} {X Y Z:List α} {x y:α} {j:Nat} (hj:X.length+1+Y.length=j):(X++x :: (Y++y :: Z))[j]? = some y:=by
 have:X++x :: (Y++y :: Z)=(X++x :: Y)++y :: Z:=sI
 rw [this,ML sW]
theorem Ff {α:Type} {A:List α} {k:Nat} {x:α} (h:A[k]? = some x):A.drop k=x :: A.drop (k+1):=by
 obtain ⟨a,rfl⟩:=List.getElem?_eq_some_iff.1 h;exact List.drop_eq_getElem_cons a
theorem Gn {α:Type} {A:List α} {k:Nat} {x:α} (h:A[k]? = some x):A.take (k+1)=A.take k++[x]:=by
 rw [List.take_add_one,h];rfl
abbrev OW (xs:List Int):Prop:=xs.Pairwise (· < ·)
theorem KD.inserted (hs:KD r) {S1 S2:List Int} {x:Int} (h:(S1++S2).Pairwise (Dc r)) (h2:∀ y∈S2,Dc r x y) (h1:S1=[]\/∃ z,S1.getLast? = some z/\Dc r z x) :
  (S1++x :: S2).Pairwise (Dc r):=by
 rw [List.pairwise_append] at h ⊢;obtain ⟨b,g,i⟩:=h;refine ⟨b,List.pairwise_cons.2 ⟨h2,g⟩,fun y a z c=>?_⟩;have k:Dc r y x:=by
  rcases h1 with rfl | ⟨d,j,f⟩
  .cases a
  .obtain ⟨e,rfl⟩:∃ e,S1=e++[d]:=List.getLast?_eq_some_iff.1 j;rw [List.pairwise_append] at b;rcases List.mem_append.1 a with a | a
   .exact hs.lexTr (b.2.2 y a d sI) f
   .have:y=d:=by simpa using a
    subst this;exact f
 rcases List.mem_cons.1 c with rfl | c
 .exact k
 .exact i y a z c
end
section
variable {r:Int->Int->Prop} {n:Nat}
open Classical in
noncomputable def insL (r:Int->Int->Prop) (x:Int):List Int->List Int
 | []=>[x]
 | y :: ys=>if Dc r x y then x :: y :: ys else y :: insL r x ys
noncomputable def sortL (r:Int->Int->Prop):List Int->List Int
 | []=>[]
 | x :: xs=>insL r x (sortL r xs)
theorem N7 (r:Int->Int->Prop) (x:Int):∀ ys:List Int,(insL r x ys).Perm (x :: ys)
 | []=>List.Perm.refl _
 | y :: ys=>by
  unfold insL;split
  .exact List.Perm.refl _
  .exact ((N7 r x ys).cons y).trans (List.Perm.swap x y ys)
theorem Ew (r:Int->Int->Prop):∀ xs:List Int,(sortL r xs).Perm xs
 | []=>List.Perm.refl _
 | x :: xs=>(N7 r x _).trans ((Ew r xs).cons x)
theorem KD.insL (hs:KD r) {x:Int}:∀ {ys:List Int},ys.Pairwise (Dc r)->x∉ys->(insL r x ys).Pairwise (Dc r)
 | [],_,_=>by simp [Go.M.insL]
 | y :: ys,h,hn=>by
  unfold Go.M.insL;have h':=List.pairwise_cons.1 h;split
  .rename_i b;refine List.pairwise_cons.2 ⟨fun c a=>?_,h⟩;rcases List.mem_cons.1 a with rfl | a
   .exact b
   .exact hs.lexTr b (h'.1 c a)
  .rename_i b;have f:Dc r y x:=(hs.lexTot (fun d=>hn (by rw [d];simp))).resolve_left b;refine List.pairwise_cons.2 ⟨fun c a=>?_,hs.insL h'.2 (fun e=>hn (by simp [e]))⟩;rcases List.mem_cons.1 ((N7 r x ys).subset a) with rfl | a
   .exact f
   .exact h'.1 c a
theorem KD.sortL (hs:KD r):∀ {xs:List Int},xs.Nodup->(sortL r xs).Pairwise (Dc r)
 | [],_=>List.Pairwise.nil
 | x :: xs,h=>by
  rw [List.nodup_cons] at h;exact hs.insL (hs.sortL h.2) (fun hh=>h.1 ((Ew r xs).subset hh))
theorem KD.is (hs:KD r) {xs ys:List Int} (hn:xs.Nodup) (hp:ys.Perm xs) (h:ys.Pairwise (Dc r)):ys=Go.M.sortL r xs :=
 hs.unique (hp.trans (Ew r xs).symm) h (hs.sortL hn)
def FD (n:Nat):List Int:=(List.range n).map fun (i:Nat)=>(i:Int)
theorem HA (n:Nat):(FD n).length=n:=by simp [FD]
theorem ZO {k:Nat} (h:k<n):(FD n)[k]? = some (k:Int):=by simp [FD,h]
theorem Hi (n:Nat):FD (n+1)=FD n++[(n:Int)]:=by simp [FD,List.range_succ]
theorem GU {i:Int}:i∈FD n↔∃ k:Nat,k<n/\i=k:=by
 simp only [FD,List.mem_map,List.mem_range];constructor
 .rintro ⟨k,a,rfl⟩;exact ⟨k,a,rfl⟩
 .rintro ⟨k,a,rfl⟩;exact ⟨k,a,rfl⟩
theorem NY (n:Nat):OW (FD n):=by
 induction n with
 | zero=>exact List.Pairwise.nil
 | succ n c =>
  rw [Hi];refine List.pairwise_append.2 ⟨c,List.pairwise_singleton _ _,fun f a g b=>?_⟩;obtain ⟨e,d,rfl⟩:=GU.1 a;rw [List.mem_singleton.1 b];omega
theorem JN (n:Nat):(FD n).Nodup:=(NY n).imp (fun a=>by omega)
end
section
open Go Go.Vc
def NO:List UInt8:=[32,38,65,66,67,68,69,70,71,72,73,45,74,75,76,77,78,79,80,81,82,47,83,84,85,86,87,88,89,90,48,49,50,51,52,53,54,55,56,57]
theorem ZE:NO.length=40:=rfl
def BI (k:Nat):UInt8:=NO.getD k 0
theorem OM {k:Nat} (h:k<40):NO[k]? = some (BI k):=by
 unfold BI;rw [List.getD_eq_getElem?_getD,List.getElem?_eq_getElem (by rw [ZE];exact h)];rfl
def ED (c:Nat):Int :=
 if c=32 then 0 else if c=38 then 1 else if c=45 then 2 else if c=47 then 12
 else if 48<=c/\c<=57 then CG ((c:Int) - 48)
 else if 65<=c/\c<=73 then 1+CG ((c:Int) - 64)
 else if 74<=c/\c<=82 then 2+CG ((c:Int) - 73)
 else if 83<=c/\c<=90 then 4+CG ((c:Int) - 81)
 else -1
def Ef (k:Nat):Int:=ED (BI k).toNat
def Bk (m:Int):Int:=match (List.range 40).find? (fun (k:Nat)=>decide (Ef k=m)) with | some k=>(k:Int) | none=>-1
theorem UU (m:Int) : -1<=Bk m/\Bk m<=39:=by
 unfold Bk;split
 .rename_i b a;have:=List.mem_of_find?_eq_some a;simp at this;omega
 .omega
theorem Vj {m:Int} {k:Nat} (hk:k<40) (h1:∀ j:Nat,j<k->Ef j≠m) (h2:Ef k=m):Bk m=k:=by
 have:(List.range 40).find? (fun (a:Nat)=>decide (Ef a=m))=some k:=by
  rw [List.find?_eq_some_iff_getElem];refine ⟨by simp [h2],k,by simpa using hk,sI,fun j b=>?_⟩;simp only [List.getElem_range,Bool.not_eq_true',decide_eq_false_iff_not];exact h1 j b
 unfold Bk;rw [this]
theorem QQ {m:Int} (h1:∀ j:Nat,j<40->Ef j≠m):Bk m = -1:=by
 have:(List.range 40).find? (fun (a:Nat)=>decide (Ef a=m))=none:=by
  rw [List.find?_eq_none];intro j b;simp [h1 j (by simpa using b)]
 unfold Bk;rw [this]
def Di (l:List Int):Bool:=l.all fun m=>decide (0<=Bk m)
def CO (l:List Int):List Int:=l.map Bk
def Cf (r:List Int):ByteArray:=bs (r.map fun k=>BI k.toNat)
def AS (f:AE) (c:List Int):List Int:=CO (Ad c f)
theorem I1 (r:List Int):(Cf r).size=r.length:=by simp [Cf,BY]
theorem GF (l:List Int):(CO l).length=l.length:=by simp [CO]
theorem Ni {l:List Int} {k:Nat} {x:Int} (h:l[k]? = some x):(CO l)[k]? = some (Bk x):=by simp [CO,h]
theorem WQ {l:List Int} {k:Nat} {x:Int} (h:Di l=true) (hx:l[k]? = some x):0<=Bk x:=by
 simp only [Di,List.all_eq_true,decide_eq_true_eq] at h;exact h x (List.mem_of_getElem? hx)
theorem Z3 {l:List Int} {k:Nat} {x:Int} (hx:l[k]? = some x) (h:Bk x<0):Di l=false:=by
 unfold Di;rw [List.all_eq_false];exact ⟨x,List.mem_of_getElem? hx,sW⟩
theorem Z5 {l:List Int} (h:∀ i x,i<l.length->l[i]? = some x->0<=Bk x):Di l=true:=by
 unfold Di;rw [List.all_eq_true];intro x b;obtain ⟨i,a⟩:=List.mem_iff_getElem?.1 b;exact decide_eq_true (h i x (List.getElem?_eq_some_iff.1 a).1 a)
theorem Z4 (l:List Int):(l.any fun m=>decide (Bk m<0)) = !Di l:=by
 unfold Di;rw [List.not_all_eq_any_not];congr 1;funext m;by_cases a:Bk m<0
 .simp [a]
 .simp [a];omega
def CY:List Int->List Int->Int
 | x :: xs,y :: ys=>if x<y then -1 else if y<x then 1 else CY xs ys
 | _,_=>0
theorem NM (b:List Int):CY [] b=0:=by cases b<;>rfl
theorem JH (a:List Int):CY a []=0:=by cases a<;>rfl
theorem GK (x y:Int) (xs ys:List Int):CY (x :: xs) (y :: ys)=if x<y then -1 else if y<x then 1 else CY xs ys:=rfl
theorem RX:∀ a b:List Int,-1<=CY a b/\CY a b<=1
 | [],b=>by rw [NM];omega
 | a :: l,[]=>by rw [JH];omega
 | x :: xs,y :: ys=>by
  have:=RX xs ys;rw [GK];split
  .omega
  .split<;>omega
theorem Gx:∀ a:List Int,CY a a=0
 | []=>rfl
 | x :: xs=>by rw [GK,if_neg om,if_neg om];exact Gx xs
theorem Wf:∀ a b:List Int,CY a b = - CY b a
 | [],b=>by rw [NM,JH];rfl
 | a :: l,[]=>by rw [NM,JH];rfl
 | x :: xs,y :: ys=>by
  have:=Wf xs ys;rw [GK,GK];by_cases c:x<y
  .rw [if_pos c,if_neg om,if_pos c]
  .by_cases d:y<x
   .rw [if_neg c,if_pos d,if_pos d];omega
   .rw [if_neg c,if_neg d,if_neg d,if_neg c];exact this
theorem Ie:∀ {a b:List Int},a.length=b.length->CY a b=0->a=b
 | [],[],_,_=>rfl
 | [],_ :: _,h,_=>by simp at h
 | _ :: _,[],h,_=>by simp at h
 | x :: xs,y :: ys,h,h0=>by
  rw [GK] at h0;split at h0
  .omega
  .split at h0
   .omega
   .rw [Ie (a:=xs) (b:=ys) (by simpa using h) h0,show x=y by omega]
theorem LL:∀ {a b c:List Int},CY a b<0->CY b c<0->CY a c<0
 | [],b,_,h1,_=>by rw [NM] at h1;omega
 | _ :: _,[],_,h1,_=>by rw [JH] at h1;omega
 | _ :: _,b :: l,[],_,h2=>by rw [JH] at h2;omega
 | x :: xs,y :: ys,z :: zs,h1,h2=>by
  rw [GK] at h1 h2 ⊢;by_cases a1:x<y
  .by_cases a2:z<y
   .rw [if_neg om,if_pos a2] at h2;omega
   .rw [if_pos om];omega
  .rw [if_neg a1] at h1;by_cases a2:y<x
   .rw [if_pos a2] at h1;omega
   .rw [if_neg a2] at h1;have e:x=y:=om
    subst e;by_cases d:x<z
    .rw [if_pos d];omega
    .rw [if_neg d] at h2 ⊢;by_cases f:z<x
     .rw [if_pos f] at h2;omega
     .rw [if_neg f] at h2 ⊢;exact LL h1 h2
theorem U5:∀ {a b:List Int} {k:Nat} {x y:Int},a.take k=b.take k->a[k]? = some x->b[k]? = some y->CY a b=if x<y then -1 else if y<x then 1 else CY (a.drop (k+1)) (b.drop (k+1))
 | [],_,_,_,_,_,hx,_=>by simp at hx
 | _ :: _,[],_,_,_,_,_,hy=>by simp at hy
 | p :: ps,q :: qs,0,x,y,_,hx,hy=>by
  simp at hx hy;subst hx;subst hy;rfl
 | p :: ps,q :: qs,k+1,x,y,h,hx,hy=>by
  simp only [List.take_succ_cons,List.cons.injEq] at h;obtain ⟨rfl,h2⟩:=h;rw [GK,if_neg om,if_neg om];exact U5 h2 (by simpa using hx) (by simpa using hy)
theorem Tj {a b:List Int} {k:Nat} {x y:Int} (h:a.take k=b.take k) (hx:a[k]? = some x) (hy:b[k]? = some y) (hxy:x<y):CY a b = -1:=by rw [U5 h hx hy,if_pos hxy]
theorem Ti {a b:List Int} {k:Nat} {x y:Int} (h:a.take k=b.take k) (hx:a[k]? = some x) (hy:b[k]? = some y) (hxy:y<x):CY a b=1:=by rw [U5 h hx hy,if_neg om,if_pos hxy]
theorem Tk {a b:List Int} {n:Nat} (h:a.take n=b.take n) (ha:a.length=n) (hb:b.length=n):CY a b=0:=by
 rw [List.take_of_length_le om,List.take_of_length_le om] at h;rw [h];exact Gx b
theorem S3 {α:Type} {a b:List α} {k:Nat} {x:α} (h:a.take k=b.take k) (hx:a[k]? = some x) (hy:b[k]? = some x):a.take (k+1)=b.take (k+1):=by
 rw [List.take_add_one,List.take_add_one,h,hx,hy]
theorem Pw {a b:List Int} (h:¬ CY b a<0):CY a b<=0:=by have:=Wf a b;omega
theorem RW {a b c:List Int} (hl:a.length=b.length) (h1:¬ CY b a<0) (h2:CY b c<0):CY a c<0:=by
 have:=Pw h1;by_cases d:CY a b=0
 .rw [Ie hl d];exact h2
 .exact LL om h2
def Gf (L:Nat) (r:List Int):Prop:=r.length=L/\∀ k∈r,0<=k/\k<=39
theorem aB6 {l:List Int} (h:Di l=true):Gf l.length (CO l):=by
 refine ⟨GF l,fun d a=>?_⟩;simp only [CO,List.mem_map] at a;obtain ⟨b,c,rfl⟩:=a;simp only [Di,List.all_eq_true,decide_eq_true_eq] at h;exact ⟨h b c,(UU b).2⟩
theorem Ra {i j:Nat} (hi:i<40) (hj:j<40) (h:BI i=BI j):i=j:=by
 have c:∀ a b:Fin 40,BI a.val=BI b.val->a.val=b.val:=by decide +kernel
 exact c ⟨i,hi⟩ ⟨j,hj⟩ h
theorem T2 {L:Nat} {r s:List Int} (h1:Gf L r) (h2:Gf L s) (h:Cf r=Cf s):r=s:=by
 rw [Cf,Cf,aJ3] at h;apply List.ext_getElem?;intro a;by_cases m:a<L
 .obtain ⟨f,b⟩:=AA (l:=r) (k:=a) (by have:=h1.1;omega);obtain ⟨g,c⟩:=AA (l:=s) (k:=a) (by have:=h2.1;omega);have e:(r.map fun d=>BI d.toNat)[a]? = (s.map fun d=>BI d.toNat)[a]? := by rw [h]
  simp only [List.getElem?_map,b,c,Option.map_some,Option.some.injEq] at e;have i:=h1.2 f (List.mem_of_getElem? b);have j:=h2.2 g (List.mem_of_getElem? c);have:=Ra om om e;rw [b,c,show f=g by omega]
 .rw [List.getElem?_eq_none (by have:=h1.1;omega),List.getElem?_eq_none (by have:=h2.1;omega)]
def Bu (d:List (List Int)) (f:AE):List (List Int)×Int :=
 if A2 d=false then ([],1) else if AR f (AJ d)=false then ([],2) else if d.all (fun c=>Di (Ad c f))=false then ([],8) else (d.map (AS f),0)
theorem I8 {d:List (List Int)} {f:AE} (h:A2 d=false):Bu d f=([],1):=by simp [Bu,h]
theorem H2 {d:List (List Int)} {f:AE} (h:A2 d=true) (hf:AR f (AJ d)=false):Bu d f=([],2):=by simp [Bu,h,hf]
theorem Zw {d:List (List Int)} {f:AE} (h:A2 d=true) (hf:AR f (AJ d)=true) {k:Nat} {c:List Int} (hc:d[k]? = some c) (hb:Di (Ad c f)=false):Bu d f=([],8):=by
 have:d.all (fun c=>Di (Ad c f))=false:=by
  rw [List.all_eq_false];exact ⟨c,List.mem_of_getElem? hc,by simp [hb]⟩
 unfold Bu;rw [if_neg (by simp [h]),if_neg (by simp [hf]),if_pos this]
theorem aF6 {d:List (List Int)} {f:AE} (hall:∀ i c,i<d.length->d[i]? = some c->Di (Ad c f)=true):d.all (fun c=>Di (Ad c f))=true:=by
 rw [List.all_eq_true];intro c b;obtain ⟨i,a⟩:=List.mem_iff_getElem?.1 b;exact hall i c (List.getElem?_eq_some_iff.1 a).1 a
theorem N6 {d:List (List Int)} {f:AE} (h:A2 d=true) (hf:AR f (AJ d)=true) (hall:d.all (fun c=>Di (Ad c f))=true):Bu d f=(d.map (AS f),0):=by
 unfold Bu;rw [if_neg (by simp [h]),if_neg (by simp [hf]),if_neg (by simp [hall])]
theorem MG (d:List (List Int)) (f:AE):(∃ cd,Bu d f=([],cd)/\(cd=1\/cd=2\/cd=8))\/(A2 d=true/\AR f (AJ d)=true/\d.all (fun c=>Di (Ad c f))=true/\Bu d f=(d.map (AS f),0)):=by
 cases a:A2 d
 .exact .inl ⟨1,I8 a,.inl rfl⟩
 .cases b:AR f (AJ d)
  .exact .inl ⟨2,H2 a b,.inr (.inl rfl)⟩
  .cases e:d.all (fun c=>Di (Ad c f))
   .refine .inl ⟨8,?_,.inr (.inr rfl)⟩;unfold Bu;rw [if_neg (by simp [a]),if_neg (by simp [b]),if_pos e]
   .exact .inr ⟨rfl,rfl,rfl,N6 a b e⟩
def CJ (f:AE):Nat:=f.to_.toNat - f.from_.toNat
theorem Hf {d:List (List Int)} {f:AE} (h:A2 d=true) (hf:AR f (AJ d)=true) (ha:d.all (fun c=>Di (Ad c f))=true):∀ k∈d.map (AS f),Gf (CJ f) k:=by
 intro k i;obtain ⟨c,b,rfl⟩:=List.mem_map.1 i;have e:=(Am h).2 c b;have g:AR f c.length=true:=by rw [e.2];exact hf
 have a:=aB6 (List.all_eq_true.1 ha c b);rw [MA g] at a;exact a
theorem NN {d:List (List Int)} {f:AE} (h:A2 d=true) (hf:AR f (AJ d)=true) {c:List Int} (hc:c∈d):(AS f c).length=CJ f:=by
 have a:=(Am h).2 c hc;have b:AR f c.length=true:=by rw [a.2];exact hf
 unfold AS;rw [GF,MA b];rfl
def Mw (K:List (List Int)) (L:Nat) (i:Int):List Int:=K.getD i.toNat (List.replicate L 0)
def Kb (K:List (List Int)) (L:Nat) (i j:Int):Prop:=CY (Mw K L i) (Mw K L j)<0
theorem WC {K:List (List Int)} {L:Nat} (h:∀ k∈K,k.length=L) (i:Int):(Mw K L i).length=L:=by
 unfold Mw;rw [List.getD_eq_getElem?_getD];cases a:K[i.toNat]? with
 | none=>simp
 | some b=>simpa using h b (List.mem_of_getElem? a)
theorem Ka {K:List (List Int)} {L:Nat} (h:∀ k∈K,k.length=L):KD (Kb K L):=by
 refine ⟨fun d c=>?_,fun d f k a b=>LL a b,fun d f k a b e=>?_⟩
 .unfold Kb at c;rw [Gx] at c;omega
 .unfold Kb at *;exact b (RW (by rw [WC h,WC h]) a e)
noncomputable def Ds (K:List (List Int)) (L:Nat):List Int:=sortL (Kb K L) (FD K.length)
noncomputable def K8 (d:List (List Int)) (f:AE):List (List Int):=(Ds (d.map (AS f)) (CJ f)).map fun i=>d.getD i.toNat []
theorem KZ (K:List (List Int)) (L:Nat):(Ds K L).Perm (FD K.length):=Ew _ _
theorem L8 (K:List (List Int)) (L:Nat):(Ds K L).length=K.length:=by rw [(KZ K L).length_eq,HA]
theorem XG {K:List (List Int)} {L:Nat} {i:Int} (h:i∈Ds K L):0<=i/\i.toNat<K.length:=by
 obtain ⟨b,a,rfl⟩:=GU.1 ((KZ K L).subset h);omega
theorem Qb {α:Type} (d:List α) (z:α):(FD d.length).map (fun i=>d.getD i.toNat z)=d:=by
 apply List.ext_getElem?;intro i;by_cases a:i<d.length
 .rw [List.getElem?_map,ZO a,Option.map_some,List.getD_eq_getElem?_getD];simp [a]
 .rw [List.getElem?_eq_none (by rw [List.length_map,HA];omega),List.getElem?_eq_none om]
theorem UP (d:List (List Int)) (f:AE):(K8 d f).Perm d:=by
 have a:=(KZ (d.map (AS f)) (CJ f)).map fun b=>d.getD b.toNat [];rw [List.length_map,Qb] at a;exact a
theorem UQ (d:List (List Int)) (f:AE):(K8 d f).length=d.length:=(UP d f).length_eq
def aM3 (S:List (List Int)):Prop:=S.Pairwise fun a b=>¬ CY b a<0
def F0 (S:List (List Int)) (i:Nat):Bool:=decide (i=0) || !decide (CY (S.getD (i - 1) []) (S.getD i [])=0)
def De (S:List (List Int)) (n:Nat):List Nat:=(List.range n).filter (F0 S)
def A0 (S:List (List Int)):List Nat:=De S S.length
def DZ (ss:List Nat) (n i:Nat):Nat:=ss.getD (i+1) n
theorem MY (S:List (List Int)) (n:Nat):De S (n+1)=if F0 S n=true then De S n++[n] else De S n:=by
 unfold De;rw [List.range_succ,List.filter_append];split<;>simp [*]
theorem Gq {S:List (List Int)} {s:Nat}:s∈A0 S↔s<S.length/\F0 S s=true:=by simp [A0,De]
theorem Oc (S:List (List Int)):(A0 S).Pairwise (· < ·):=by
 unfold A0 De;exact List.Pairwise.filter _ List.pairwise_lt_range
theorem Af {α:Type} {l:List α} {k:Nat} {x z:α} (h:l[k]? = some x):l.getD k z=x:=by rw [List.getD_eq_getElem?_getD,h];rfl
section
variable {S:List (List Int)} {L:Nat} (hL:∀ k∈S,k.length=L) (hW:aM3 S)
theorem U4 {i s:Nat} (hi:(A0 S)[i]? = some s):s<DZ (A0 S) S.length i/\DZ (A0 S) S.length i<=S.length:=by
 have d:=Gq.1 (List.mem_of_getElem? hi);unfold DZ;rw [List.getD_eq_getElem?_getD];cases a:(A0 S)[i+1]? with
 | none=>simp;omega
 | some f =>
  have b:=List.getElem?_eq_some_iff.1 hi;have c:=List.getElem?_eq_some_iff.1 a;have:=List.pairwise_iff_getElem.1 (Oc S) i (i+1) b.1 c.1 om;have e:=Gq.1 (List.mem_of_getElem? a);simp;omega
theorem aM1 {i s p:Nat} (hi:(A0 S)[i]? = some s) (h1:s<p) (h2:p<DZ (A0 S) S.length i):F0 S p=false:=by
 have n:=U4 hi;cases m:F0 S p
 .rfl
 .exfalso;obtain ⟨d,c⟩:=List.mem_iff_getElem?.1 (Gq.2 ⟨om,m⟩);have e:=List.getElem?_eq_some_iff.1 hi;have a:=List.getElem?_eq_some_iff.1 c;have g:=List.pairwise_iff_getElem.1 (Oc S);rcases Nat.lt_trichotomy i d with b | b | b
  .by_cases j:d=i+1
   .subst j;unfold DZ at h2;rw [Af c] at h2;omega
   .obtain ⟨o,h⟩:=AA (l:=A0 S) (k:=i+1) (by have:=a.1;omega);have f:=List.getElem?_eq_some_iff.1 h;have:=g (i+1) d f.1 a.1 om;rw [f.2,a.2] at this;unfold DZ at h2;rw [Af h] at h2;omega
  .subst b;rw [hi] at c;cases c;omega
  .have:=g d i a.1 e.1 b;rw [a.2,e.2] at this;omega
end
def Bj (d:List (List Int)) (f:AE):List (List (List Int)) :=
 (List.range (A0 (d.map (AS f))).length).map fun i =>
  (d.drop ((A0 (d.map (AS f))).getD i 0)).take (DZ (A0 (d.map (AS f))) d.length i - (A0 (d.map (AS f))).getD i 0)
end
section
open Go Go.Vc
def D8 (d:List (List Int)) (f:AE):List Int:=d.filterMap fun c=>Ec (Ad c f)
theorem QU {d:List (List Int)} {f:AE} {k:Nat} {c:List Int} {n:Int} (hc:d[k]? = some c) (hn:Ec (Ad c f)=some n):D8 (d.take (k+1)) f=D8 (d.take k) f++[n]:=by
 unfold D8;rw [List.take_add_one,hc,Option.toList_some,List.filterMap_append];simp [hn]
theorem On (l:List Int):DI l=(0,false)\/∃ n,DI l=(n,true)/\Ec l=some n:=by
 unfold DI;split
 .exact .inl rfl
 .rename_i n a;exact .inr ⟨n,rfl,a⟩
end
section
open Go Go.Vc
variable {u:Nat} {n:Int} {s:ByteArray} {c:UInt8}
def BV (n:Int):ByteArray:=bs (Lib.itoa n)
def Gl (c:UInt8):Bool:=decide (48<=c.toNat) && decide (c.toNat<=57)
def Ck:Option Nat->List UInt8->Option Nat
 | a,[]=>a
 | none,_=>none
 | some a,c :: r=>if Gl c then Ck (some (10 * a+(c.toNat - 48))) r else none
def Kv (l:List UInt8):Option Nat:=Ck (some 0) l
theorem G6 (l:List UInt8):Ck none l=none:=by cases l<;>rfl
theorem Fw:∀ (l r:List UInt8) (a:Option Nat),Ck a (l++r)=Ck (Ck a l) r
 | [],r,a=>by cases a<;>cases r<;>rfl
 | c :: l,r,none=>by simp [Ck,G6]
 | c :: l,r,some a=>by
  simp only [List.cons_append,Ck];split
  .exact Fw l r _
  .rw [G6]
theorem OJ (l:List UInt8) (c:UInt8):Kv (l++[c])=(Kv l).bind fun a=>if Gl c then some (10 * a+(c.toNat - 48)) else none:=by
 unfold Kv;rw [Fw];cases Ck (some 0) l with
 | none=>rfl
 | some a=>simp only [Ck,Option.bind_some]
theorem Mx (h:u<10):Gl (UInt8.ofNat (48+u))=true:=by
 have:(UInt8.ofNat (48+u)).toNat=48+u:=by simp [UInt8.toNat_ofNat'];omega
 simp only [Gl,this,Bool.and_eq_true,decide_eq_true_eq];omega
theorem YB (h:u<10):(UInt8.ofNat (48+u)).toNat - 48=u:=by
 have:(UInt8.ofNat (48+u)).toNat=48+u:=by simp [UInt8.toNat_ofNat'];omega
 omega
theorem Ku (u:Nat):Kv (Lib.decDigits u)=some u:=by
 induction u using Nat.strongRecOn with
 | _ u ih =>
  rw [Lib.decDigits];by_cases a:u<10
  .rw [dif_pos a];show (if Gl (UInt8.ofNat (48+u)) then some (10 * 0+((UInt8.ofNat (48+u)).toNat - 48)) else none)=_;rw [if_pos (Mx a),YB a];simp
  .have b:u % 10<10:=om
   rw [dif_neg a,OJ,ih (u / 10) om,Option.bind_some,if_pos (Mx b),YB b];congr 1;omega
theorem Ft (u:Nat):∀ c∈Lib.decDigits u,Gl c=true:=by
 induction u using Nat.strongRecOn with
 | _ u ih =>
  rw [Lib.decDigits];by_cases b:u<10
  .rw [dif_pos b];intro c a;rw [List.mem_singleton.1 a];exact Mx b
  .rw [dif_neg b];intro c a;rcases List.mem_append.1 a with a | a
   .exact ih (u / 10) om c a
   .rw [List.mem_singleton.1 a];exact Mx om
theorem He (u:Nat):Lib.decDigits u≠[]:=by
 intro a;have:=Lib.decDigits_length u;rw [a] at this;have b:=Lib.nDigits_pos u;simp at this;omega
theorem O6:∀ (l:List UInt8) (a v:Nat),Ck (some a) l=some v->a<=v
 | [],a,v,h=>by simp [Ck] at h;omega
 | c :: l,a,v,h=>by
  simp only [Ck] at h;split at h
  .have:=O6 l _ _ h;omega
  .cases h
theorem GJ:∀ (l:List UInt8) (a v k:Nat),a<10 ^ k->Ck (some a) l=some v->v<10 ^ (k+l.length)
 | [],a,v,k,ha,h=>by simp [Ck] at h;subst h;simpa using ha
 | c :: l,a,v,k,ha,h=>by
  simp only [Ck] at h;split at h
  .rename_i hd;simp only [Gl,Bool.and_eq_true,decide_eq_true_eq] at hd;have:=GJ l _ v (k+1) (by rw [Nat.pow_succ];omega) h;simpa [Nat.add_assoc,Nat.add_comm 1] using this
  .cases h
theorem Ld:∀ (l:List UInt8) (a v:Nat),Ck (some a) l=some v->v<1000000000000000000->Lib.parseUint10 a l = .ok v
 | [],a,v,h,_=>by simp [Ck] at h;subst h;rfl
 | c :: l,a,v,h,hv=>by
  simp only [Ck] at h;split at h
  .rename_i hd;simp only [Gl,Bool.and_eq_true,decide_eq_true_eq] at hd;have hge:=O6 l _ _ h;rw [Lib.parseUint10,if_pos hd,if_neg om,if_neg om,show a * 10+(c.toNat - 48)=10 * a+(c.toNat - 48) by omega];exact Ld l _ _ h hv
  .cases h
def BC (l:List UInt8):List UInt8:=if l.head? = some 45 then l.tail else l
def Kf (s:ByteArray):Option Int :=
 if (BC s.data.toList).length<1\/18<(BC s.data.toList).length then none else
  match Kv (BC s.data.toList) with
  | none=>none
  | some m=>if BV (if (BC s.data.toList).length<s.data.toList.length then -(m:Int) else m)=s then some (if (BC s.data.toList).length<s.data.toList.length then -(m:Int) else m) else none
def Ao (s:ByteArray):Int:=(Kf s).getD 0
def Ei (s:ByteArray):Bool:=(Kf s).isSome
theorem FE (n:Int):(BV n).data.toList=Lib.itoa n:=rfl
theorem GA (n:Int):BC (Lib.itoa n)=Lib.decDigits n.natAbs:=by
 unfold Lib.itoa BC;by_cases c:n<0
 .rw [if_pos c];simp
 .rw [if_neg c];have d:n.toNat=n.natAbs:=om
  rw [d];rw [if_neg];intro b;cases a:Lib.decDigits n.natAbs with
  | nil=>exact He _ a
  | cons e f =>
   rw [a] at b;simp at b;subst b;have:=Ft n.natAbs 45 (by rw [a];simp);simp [Gl] at this
theorem W3 (n:Int):((BC (Lib.itoa n)).length<(Lib.itoa n).length)↔n<0:=by
 rw [GA];unfold Lib.itoa;by_cases a:n<0
 .rw [if_pos a];simp [a]
 .rw [if_neg a];have b:n.toNat=n.natAbs:=om
  rw [b];simp;omega
theorem TN (h:(Lib.decDigits n.natAbs).length<=18):Kf (BV n)=some n:=by
 unfold Kf;rw [FE,GA];have d:1<=(Lib.decDigits n.natAbs).length:=List.length_pos_iff.2 (He _);rw [if_neg om,Ku];have a:=W3 n;rw [GA] at a;show (if BV (if (Lib.decDigits n.natAbs).length<(Lib.itoa n).length then -(n.natAbs:Int) else n.natAbs)=BV n then some (if (Lib.decDigits n.natAbs).length<(Lib.itoa n).length then -(n.natAbs:Int) else n.natAbs) else none)=some n;have c:(if (Lib.decDigits n.natAbs).length<(Lib.itoa n).length then -(n.natAbs:Int) else n.natAbs)=n:=by
  by_cases b:n<0
  .rw [if_pos (a.2 b)];omega
  .rw [if_neg (fun h=>b (a.1 h))];omega
 rw [c,if_pos rfl]
theorem Nr (h:Kf s=some n):s=BV n/\(Lib.decDigits n.natAbs).length<=18∧-1000000000000000000<n/\n<1000000000000000000:=by
 unfold Kf at h;split at h
 .cases h
 rename_i f;split at h
 .cases h
 rename_i b d;by_cases a:BV (if (BC s.data.toList).length<s.data.toList.length then -(b:Int) else b)=s
 .rw [if_pos a] at h;simp only [Option.some.injEq] at h;rw [h] at a;have c:=GJ _ 0 b 0 dE d;have e:b<1000000000000000000:=by
   refine Nat.lt_of_lt_of_le c ?_;rw [Nat.zero_add];exact Nat.pow_le_pow_right dE (show (BC s.data.toList).length<=18 by omega)
  refine ⟨a.symm,?_,?_,?_⟩
  .rw [<- GA,<- FE,a];omega
  .rw [<- h];split<;>omega
  .rw [<- h];split<;>omega
 .rw [if_neg a] at h;cases h
theorem XN (s:ByteArray):Kf s=match Lib.parseIntB 64 s.data.toList with
  | .ok a=>if BV a=s/\(BC s.data.toList).length<=18 then some a else none
  | _=>none:=by
 cases e:Kf s with
 | some a =>
  obtain ⟨rfl,l,n,o⟩:=Nr e;have j:Lib.parseIntB 64 (BV a).data.toList = .ok a:=by
   rw [Lib.parseIntB_64,FE];have m:=Ld _ 0 _ (Ku a.natAbs) om;have h:=He a.natAbs;have g:Lib.parseMag (Lib.decDigits a.natAbs) = .ok a.natAbs:=by
    unfold Lib.parseMag;rw [if_neg h];exact m
   by_cases i:a<0
   .have b:Lib.itoa a=45 :: Lib.decDigits a.natAbs:=by unfold Lib.itoa;rw [if_pos i]
    rw [b];unfold Lib.atoiAll;simp only;rw [if_pos (by right;decide),g];simp only;rw [if_neg sI,if_neg om];simp;omega
   .have b:Lib.itoa a=Lib.decDigits a.natAbs:=by unfold Lib.itoa;rw [if_neg i];congr 1;omega
    rw [b];cases d:Lib.decDigits a.natAbs with
    | nil=>exact absurd d h
    | cons k p =>
     have c:=Ft a.natAbs k (by rw [d];simp);simp only [Gl,Bool.and_eq_true,decide_eq_true_eq] at c;unfold Lib.atoiAll;simp only;rw [if_neg om,<- d,g];simp only;rw [if_neg om,if_neg om,if_neg om];simp;omega
  rw [j];simp only;rw [FE,GA,if_pos ⟨trivial,l⟩]
 | none =>
  split
  .rename_i a j;split
   .rename_i c;obtain ⟨rfl,f⟩:=c;rw [FE,GA] at f;rw [TN f] at e;cases e
   .rfl
  .rfl
def Et (c:UInt8):List UInt8->List UInt8->List (List UInt8)
 | acc,[]=>[acc]
 | acc,b :: l=>if b=c then acc :: Et c [] l else Et c (acc++[b]) l
def EG (c:UInt8) (l:List UInt8):List (List UInt8):=Et c [] l
def Ay (c:UInt8) (s:ByteArray):List ByteArray:=(EG c s.data.toList).map bs
theorem Es (c:UInt8) (l:List UInt8):∀ (p acc:List UInt8),c∉p->Et c acc (p++c :: l)=(acc++p) :: EG c l
 | [],acc,_=>by simp [Et,EG]
 | b :: p,acc,h=>by
  have hb:b≠c:=fun a=>h (by simp [a]);simp only [List.cons_append,Et,if_neg hb];rw [Es c l p (acc++[b]) (fun d=>h (by simp [d]))];simp
theorem GC (c:UInt8):∀ (p acc:List UInt8),c∉p->Et c acc p=[acc++p]
 | [],acc,_=>by simp [Et]
 | b :: p,acc,h=>by
  have hb:b≠c:=fun a=>h (by simp [a]);simp only [Et,if_neg hb];rw [GC c p (acc++[b]) (fun d=>h (by simp [d]))];simp
theorem F6 {c:UInt8}:∀ {l:List UInt8},c∈l->∃ p r,l=p++c :: r/\c∉p
 | [],h=>by cases h
 | b :: l,h=>by
  by_cases hb:b=c
  .exact ⟨[],l,by simp [hb],sI⟩
  .obtain ⟨p,r,rfl,hp⟩:=F6 (l:=l) (by simpa [Ne.symm hb] using h);exact ⟨b :: p,r,rfl,by simp [Ne.symm hb,hp]⟩
theorem Nd (c:UInt8) (l:List UInt8):EG c l≠[]:=by
 by_cases a:c∈l
 .obtain ⟨d,e,rfl,b⟩:=F6 a;unfold EG;rw [Es c e d [] b];simp
 .unfold EG;rw [GC c l [] a];simp
theorem Ha (c:UInt8) (r:List UInt8):∀ (p:List UInt8),c∉p->Lib.indexByte (p++c :: r) c=p.length
 | [],_=>by simp [Lib.indexByte]
 | b :: p,h=>by
  have hb:b≠c:=fun a=>h (by simp [a]);have e:=Ha c r p (fun d=>h (by simp [d]));simp only [List.cons_append,Lib.indexByte,beq_iff_eq,if_neg hb,e];rw [if_neg om];simp
theorem Jf (c:UInt8):∀ (p:List UInt8),c∉p->Lib.indexByte p c = -1
 | [],_=>rfl
 | b :: p,h=>by
  have hb:b≠c:=fun a=>h (by simp [a]);simp only [Lib.indexByte,beq_iff_eq,if_neg hb,Jf c p (fun d=>h (by simp [d])),if_true]
theorem S7 (c:UInt8):∀ (k:Nat) (l:List UInt8),l.count c=k->Lib.splitK [c] 0 k l=EG c l
 | 0,l,h=>by
  have hn:c∉l:=List.count_eq_zero.1 h;unfold EG;rw [GC c l [] hn];rfl
 | k+1,l,h=>by
  have g:c∈l:=List.count_pos_iff.1 om;obtain ⟨b,a,rfl,d⟩:=F6 g;have f:Lib.index (b++c :: a) [c]=b.length:=by rw [Lib.index_one,Ha c a b d]
  have e:a.count c=k:=by
   rw [List.count_append,List.count_cons_self,List.count_eq_zero.2 d] at h;omega
  unfold Lib.splitK;rw [f,if_neg sI];unfold EG;rw [Es c a b [] d];congr 1
  .simp
  .rw [<- S7 c k a e];congr 1;simp
theorem Cs {a b:ByteArray} (h:a.data.toList=b.data.toList):a=b:=by
 obtain ⟨⟨c⟩⟩:=a;obtain ⟨⟨d⟩⟩:=b;simp at h;rw [h]
theorem S8 (c:UInt8) (s:ByteArray):Lib.splitB ⟨#[c]⟩ 0 (Lib.countB s ⟨#[c]⟩) s=Ay c s:=by
 have a:=Lib.splitB_data ⟨#[c]⟩ 0 (Lib.countB s ⟨#[c]⟩) s;have d:(Lib.countB s ⟨#[c]⟩)=s.data.toList.count c:=Lib.count_one c _;rw [show (ByteArray.mk #[c]).data.toList=[c] from rfl,S7 c _ _ d.symm] at a;unfold Ay;rw [<- a,List.map_map];have:(bs∘fun b:ByteArray=>b.data.toList)=id:=by
  funext b;exact Cs (Py _)
 rw [this,List.map_id]
theorem W5 (c:UInt8) (s:ByteArray):(Ay c s).length=Lib.countB s ⟨#[c]⟩+1:=by
 rw [<- S8];exact Lib.splitB_all ⟨#[c]⟩ (by show 1<=1;omega) 0 _ s rfl
def NJ (u:Nat):List UInt8:=if u=0 then [] else Lib.decDigits u
theorem MN (h:u≠0):NJ u=NJ (u / 10)++[UInt8.ofNat (48+u % 10)]:=by
 unfold NJ;rw [if_neg h,Lib.decDigits];by_cases a:u<10
 .rw [dif_pos a,if_pos om];have:u % 10=u:=om
  rw [this];rfl
 .rw [dif_neg a,if_neg om]
theorem Y8 (u k:Nat) (h:u<10 ^ k):(NJ u).length<=k:=by
 induction k generalizing u with
 | zero => have : u = 0 := by simpa using h
           subst this;simp [NJ]
 | succ k b =>
  by_cases a:u=0
  .subst a;simp [NJ]
  .rw [MN a];have:=b (u / 10) (by rw [Nat.pow_succ] at h;omega);simp;omega
theorem VQ (k:Int):(k.tdiv 10).natAbs=k.natAbs / 10:=by
 rw [Int.natAbs_tdiv];rfl
theorem VO (k:Int):(k.tmod 10).natAbs=k.natAbs % 10:=by
 rw [Int.natAbs_tmod];rfl
theorem Jn (u:Nat):∀ out:List UInt8,MO u out=NJ u++out:=by
 induction u using Nat.strongRecOn with
 | _ u ih =>
  intro out;by_cases a:u=0
  .subst a;rfl
  .rw [OK om,ih (u / 10) om,MN a];simp
theorem Yx (n:Int):Lib.itoa n=if n=0 then [48] else if n<0 then 45 :: MO n.natAbs [] else MO n.natAbs []:=by
 unfold Lib.itoa;by_cases b:n=0
 .subst b;rw [if_neg om,if_pos rfl,Lib.decDigits,dif_pos dE];rfl
 .have c:NJ n.natAbs=Lib.decDigits n.natAbs:=by
   unfold NJ;exact if_neg om
  rw [if_neg b,Jn,c,List.append_nil];by_cases a:n<0
  .rw [if_pos a,if_pos a]
  .rw [if_neg a,if_neg a];congr 1;omega
theorem Bh (h0 : -9223372036854775808<=n) (h1:n<=9223372036854775807):(BV n).size<=21:=by
 show (bs _).size<=21;rw [BY];exact Lib.itoa_length_le n h0 h1
theorem Nf (c:UInt8):∀ (l acc:List UInt8),∀ p∈Et c acc l,p.length<=acc.length+l.length
 | [],acc,p,h=>by simp [Et] at h;subst h;simp
 | b :: l,acc,p,h=>by
  simp only [Et] at h;split at h
  .rcases List.mem_cons.1 h with rfl | h
   .simp
   .have:=Nf c l [] p h;simp at this ⊢;omega
  .have:=Nf c l (acc++[b]) p h;simp at this ⊢;omega
theorem Ea {x:ByteArray} (h:x∈Ay c s):x.size<=s.size:=by
 unfold Ay at h;obtain ⟨b,a,rfl⟩:=List.mem_map.1 h;have:=Nf c _ _ b a;rw [BY];simpa using this
theorem QE (c:UInt8) (s:ByteArray):1<=(Ay c s).length:=by
 unfold Ay;rw [List.length_map];exact List.length_pos_iff.2 (Nd c _)
theorem L3 (c:UInt8):∀ (l acc:List UInt8),(Et c acc l).length<=l.length+1
 | [],acc=>by simp [Et]
 | b :: l,acc=>by
  simp only [Et];split
  .have:=L3 c l [];simp;omega
  .have:=L3 c l (acc++[b]);simp;omega
theorem Ii (c:UInt8) (s:ByteArray):(Ay c s).length<=s.size+1:=by
 unfold Ay;rw [List.length_map];have:=L3 c s.data.toList [];unfold EG;simpa using this
theorem aJ4 (l:List UInt8) (s:ByteArray):bs l++s=bs (l++s.data.toList):=by
 apply Cs;simp [bs]
end
end Go.M
namespace Go.Proofs.YtalgenmoljcnmaaGreatDoor
section
open Go Go.RowKit Go.Vc
variable {n:Nat} {w:World} {f:Fr}
def tab:HS:={ fo:=.replicate 7 []++[[0,1,2,3],[0,1,2,3],[],[],[],[],[0,1],[0,1],[],[],[],[0],[0],[],[],[],[],[],[],[0,1],[0,1],[0,2],[0,2],[],[],[],[0,1],[0,1],[0,2],[0,2]]++.replicate 11 []++[[0,3],[0,3]]++.replicate 17 []++[[0,1,2,3],[0,1,2,3]]++.replicate 15 []++[[0,1,2],[0,1,2],[],[],[],[0,1],[0,1],[],[],[],[0,1,2,3,4,6,8],[0,1,2,3,4,6,8]]++.replicate 36 []++[[0,2,3],[0,2,3]]++.replicate 9 []++[[0],[0],[],[],[],[],[],[0,1,2,3],[0,1,2,3],[],[],[],[0,1,2,3],[0,1,2,3]]++.replicate 35 []++[[0,1],[0,1]]++.replicate 23 []++[[0,1,2,3],[0,1,2,3],[],[],[],[],[],[],[0,1,2],[0,1,2]]++.replicate 9 []++[[0,1],[0,1],[],[],[],[],[],[0],[],[0,1]]++.replicate 27 []++[[0,1],[0,1]]++.replicate 59 []++[[0,1],[0,1],[],[],[0,1,2],[0,1,2]]++.replicate 21 []++[[0],[0]]++.replicate 14 []++[[0,1,2,3],[0,1,2,3]]++.replicate 9 []++[[0,1,2,3,4,5,6,7,8,9,10],[0,1,2,3,4,5,6,7,8,9,10]],es:=.replicate 24 0++[1,1,0,0,0,0,0,1,1,0,0,0,0,1]++.replicate 27 0++[1,2]++.replicate 11 0++[1]++.replicate 19 0++[1]++.replicate 12 0++[4]++.replicate 14 0++[2]++.replicate 34 0++[2,0,0,0,1,0,2]++.replicate 21 0++[1]++.replicate 34 0++[1]++.replicate 165 0,ag:=.replicate 7 none++[some 4,some 4,none,none,none,none,some 2,some 2,none,none,none,some 1,some 1,none,none,none,none,none,none,some 2,some 2,some 3,some 3,none,none,none,some 2,some 2,some 3,some 3]++.replicate 11 none++[some 4,some 4]++.replicate 17 none++[some 4,some 4]++.replicate 15 none++[some 3,some 3,none,none,none,some 2,some 2,none,none,none,some 9,some 9]++.replicate 36 none++[some 4,some 4,none,none,none,some 11,none,none,none,none,none,some 1,some 1,none,none,none,none,none,some 4,some 4,none,none,none,some 4,some 4]++.replicate 35 none++[some 2,some 2]++.replicate 23 none++[some 4,some 4,none,none,none,none,none,none,some 3,some 3]++.replicate 9 none++[some 2,some 2,none,none,none,none,none,some 1,none,some 2]++.replicate 27 none++[some 2,some 2]++.replicate 58 none++[some 256,some 2,some 2,some 32,none,some 3,some 3,none,some 24]++.replicate 19 none++[some 1,some 1,none,some 20,some 65]++.replicate 9 none++[some 32,some 64,some 4,some 4,some 0,some 0,some 0,none,none,none,none,none,none,some 11,some 11],ik:=[none,none,some .i64,some .i64,none,some .u8,some .u8,none,none,none,none,none,some .u64]++.replicate 8 none++[some .i32]++.replicate 169 none++[some .u64]++.replicate 72 none++[some .u32,none,some .u64]++.replicate 38 none++[some .i64]++.replicate 77 none++[some .u8,some .u8,none,some .i32,some .i32,none,none],st:=.replicate 9 false++[true,true,true]++.replicate 378 false }
theorem A7:tab.fok Tryz.prog=true:=kR
theorem mixed:(Tryz.prog).follows .mixedOrders=true:=kR
theorem EA:C8 Tryz.prog 31=some (78,[.slice none 0 0],24):=kR
theorem Le:C8 Tryz.prog 32=some (161,[.slice none 0 0],24):=kR
theorem BK:C8 Tryz.prog 37=some (9,[.string { data := #[] }],16):=kR
theorem B3:C8 Tryz.prog 65=some (2,[.int .i64 0],8):=kR
theorem J1:C8 Tryz.prog 66=some (90,[.int .i64 0,.int .i64 0],16):=kR
theorem Bz:C8 Tryz.prog 78=some (144,[.slice none 0 0],24):=kR
theorem J0:C8 Tryz.prog 98=some (5,[.int .u8 0],1):=kR
theorem HO:C8 Tryz.prog 111=some (151,[.int .i64 0,.int .i64 0,.int .i64 0,.string { data := #[] }],40):=kR
theorem EJ:C8 Tryz.prog 126=some (193,[.int .i64 0,.int .i64 0],16):=kR
theorem Hz:C8 Tryz.prog 161=some (237,[.string { data := #[] },.int .i64 0],24):=kR
theorem MC:C8 Tryz.prog 189=some (3,[.int .i64 0],8):=kR
theorem Zq:C8 Tryz.prog 224=some (65,[.slice none 0 0],24):=kR
theorem oV {g:Nat} {fn:Func} (hf:Tryz.prog.funcs[g]? = some fn) {c:Code} {rs:List ResultVar} {args:List Value} {R:Value->World->Prop} (h:vc Tryz.prog tab n c (Pt args) w (fun f w=>R4 Tryz.prog rs f w fun l=>Lr (KQ l) fun v=>R v w) (fun _ _ _=>False) (fun f w=>R4 Tryz.prog rs f w fun l=>Lr (KQ l) fun v=>R v w)) (hb:fn.body=some c:=by exact rfl) (hn:fn.ntmps=n:=by exact rfl) (hrs:fn.results.toList=rs:=by exact rfl) (hok:aI4 fn args.length=true:=by kernel_rfl):E2 Tryz.prog g args w R:=Xq A7 hf hb hn hrs hok h
theorem dH {ops:Array Oper} (plan:List (Nat×Bool)) {K:Fr->World->Prop} (h:∀ w1,AD w w1->Sm Tryz.prog tab n w ops.toList (UO ops.toList plan) f w1 K) (hok:DL n ops=true:=by kernel_rfl) (hB:Z1 ops plan=true:=by kernel_rfl):Eo Tryz.prog n ops f w K:=Eo.held A7 mixed plan hok hB h
theorem lR {α:Type} (slots:List Nat) (I:α->List Value->World->Prop) (μ:α->Nat) {body:Code} {Kn:Fr->World->Prop} {Ke:Nat->Fr->World->Prop} {Kr:Fr->World->Prop} (a0:α) (h0:I a0 (slots.map f) w) (step:∀ a g vs w,I a vs w->vc Tryz.prog tab n body (ZP g slots vs) w (fun f' w'=>∃ a',μ a'<μ a/\I a' (slots.map f') w') Ke Kr) (hok:HM n body=true:=by kernel_rfl):T0 Tryz.prog n body f w Kn Ke Kr:=Xn slots I μ tab A7 hok a0 h0 step
abbrev Dq:=E2 Tryz.prog
end
section
open Go Go.RowKit Go.Vc Go.M
theorem M3 (n:Nat) (w:World):Dq 311 [.int .u8 n] w (fun v w'=>v = .bool (JW n)/\w=w'):=by
 refine oV Tryz.func311 ?_;conv=>whnf
 refine AF (fun b=>?_) fun b=>?_
 .exact ⟨by have a : 97 <= n := om;simp only [JW,a,decide_true,Bool.true_and];congr 1;simp;omega,rfl⟩
 .exact ⟨by have a : ¬ 97 <= n := om;simp [JW,a],rfl⟩
theorem QF (n:Nat) (w:World):Dq 295 [.int .u8 n] w (fun v w'=>v = .bool (JW n)/\w=w'):=by
 refine oV Tryz.func295 ?_;conv=>whnf
 refine AF (fun b=>?_) fun b=>?_
 .exact ⟨by have a : 97 <= n := om;simp only [JW,a,decide_true,Bool.true_and];congr 1;simp;omega,rfl⟩
 .exact ⟨by have a : ¬ 97 <= n := om;simp [JW,a],rfl⟩
theorem Fa (n:Nat) (w:World):Dq 312 [.int .u8 n] w (fun v w'=>v = .bool (DR n)/\w=w'):=by
 refine oV Tryz.func312 ?_;conv=>whnf
 refine AF (fun b=>?_) fun b=>?_
 .exact ⟨by have a : 48 <= n := om;simp only [DR,a,decide_true,Bool.true_and];congr 1;simp;omega,rfl⟩
 .exact ⟨by have a : ¬ 48 <= n := om;simp [DR,a],rfl⟩
theorem FG (n:Nat) (w:World):Dq 162 [.int .u8 n] w (fun v w'=>v = .bool (DR n)/\w=w'):=by
 refine oV Tryz.func162 ?_;conv=>whnf
 refine AF (fun b=>?_) fun b=>?_
 .exact ⟨by have a : 48 <= n := om;simp only [DR,a,decide_true,Bool.true_and];congr 1;simp;omega,rfl⟩
 .exact ⟨by have a : ¬ 48 <= n := om;simp [DR,a],rfl⟩
theorem CD (n lo hi:Int) (w:World):Dq 85 [.int .i64 n,.int .i64 lo,.int .i64 hi] w (fun v w'=>v = .bool (Ey n lo hi)/\w=w'):=by
 refine oV Tryz.func85 ?_;conv=>whnf
 refine AF (fun a=>?_) fun a=>?_
 .exact ⟨by simp [Ey,a],rfl⟩
 .exact ⟨by simp [Ey,a],rfl⟩
theorem Ev (n lo hi:Int) (w:World):Dq 93 [.int .i64 n,.int .i64 lo,.int .i64 hi] w (fun v w'=>v = .bool (Ey n lo hi)/\w=w'):=by
 refine oV Tryz.func93 ?_;conv=>whnf
 refine AF (fun a=>?_) fun a=>?_
 .exact ⟨by simp [Ey,a],rfl⟩
 .exact ⟨by simp [Ey,a],rfl⟩
theorem WJ (s:ByteArray) (hs:s.size<=9223372036854775807) (w:World):Dq 269 [.string s] w (fun v w'=>v = .bool (Gk s)/\w=w'):=by
 have u:s.data.toList.length=s.size:=sI
 refine oV Tryz.func269 ?_;conv=>whnf
 refine AF (fun o=>?_) fun o=>?_
 .exact ⟨by have c : ¬ 1 <= s.data.toList.length := om;simp only [Gk,Jz,c,decide_false,Bool.false_and],rfl⟩
 .refine AF (fun p=>?_) fun p=>?_
  .exact ⟨by have c : ¬ s.data.toList.length <= 12 := om;simp only [Gk,Jz,c,decide_false,Bool.false_and,Bool.and_false],rfl⟩
  .obtain ⟨l,j⟩:∃ l,s.data.toList[0]? = some l:=AA om;refine jC 0 rfl j ?_;refine (M3 _ w).mono ?_;rintro _ _ ⟨rfl,rfl⟩;conv=>whnf
   refine BU (fun d=>?_) fun d=>?_
   .exact ⟨by simp only [Bool.not_eq_true'] at d;simp only [Gk,Jz,NB j,d,Bool.false_and,Bool.and_false],rfl⟩
   ·(conv=>whnf);simp only [Bool.not_eq_false'] at d;refine lR [0,3] (fun (a:Nat) y w'=>y=[.string s,.int .i64 a]/\a<=s.size/\(s.data.toList.take a).all E7=true/\w=w') (fun a=>s.size - a) 0 ⟨rfl,om,sI,rfl⟩ ?_;rintro a z _ w' ⟨rfl,aa,i,rfl⟩;refine AF (fun q=>?_) fun q=>?_
    .have ab:a<s.size:=om
     obtain ⟨b,g⟩:∃ b,s.data.toList[a]? = some b:=AA om;have k:∀ h:Bool,E7 b=h->(s.data.toList.take (a+1)).all E7=h:=fun h t=>by rw [LU g,i,t];rfl
     refine jC a rfl g ?_;refine (M3 _ w).mono ?_;rintro _ _ ⟨rfl,rfl⟩;conv=>whnf
     refine BU (fun e=>?_) fun e=>?_
     .refine jC a rfl g ?_;refine (Fa _ w).mono ?_;rintro _ _ ⟨rfl,rfl⟩;conv=>whnf
      refine BU (fun f=>?_) fun f=>?_
      .refine jC a rfl g ?_;refine AW (fun r=>?_) fun r=>?_
       .have x:E7 b=false:=by simp at e f;simp [E7,e,f];omega
        exact ⟨by rw [Gk,Jz,NS g x];simp,rfl⟩
       .refine AB.add (a+1) rfl om om ?_;refine ⟨a+1,om,rfl,om,k true ?_,rfl⟩;have:b.toNat=45:=om
        simp [E7,this]
      .refine AB.add (a+1) rfl om om ?_;refine ⟨a+1,om,rfl,om,k true ?_,rfl⟩;simp at f;simp [E7,f]
     .refine AB.add (a+1) rfl om om ?_;refine ⟨a+1,om,rfl,om,k true ?_,rfl⟩;simp at e;simp [E7,e]
    ·(conv=>whnf);have c:a=s.size:=om
     have m:1<=s.data.toList.length:=om
     have n:s.data.toList.length<=12:=om
     rw [c,<- u,List.take_length] at i;exact ⟨by simp only [Gk,Jz,NB j,m,n,d,i,decide_true,Bool.and_self],rfl⟩
theorem Vd (s:ByteArray) (hs:s.size<=9223372036854775807) (w:World):Dq 243 [.string s] w (fun v w'=>v = .bool (Gk s)/\w=w'):=by
 have x:s.data.toList.length=s.size:=sI
 refine oV Tryz.func243 ?_;conv=>whnf
 refine AF (fun d=>?_) fun d=>?_
 .exact ⟨by subst d;rfl,rfl⟩
 .have p:¬ s.size<1:=fun ab=>d (by
   have c:s.data.toList=[]:=List.eq_nil_of_length_eq_zero om;rw [<- aF2 s,c];rfl)
  clear d;have d:=p;refine AF (fun q=>?_) fun q=>?_
  .exact ⟨by have c : ¬ s.data.toList.length <= 12 := om;simp only [Gk,Jz,c,decide_false,Bool.false_and,Bool.and_false],rfl⟩
  .obtain ⟨m,k⟩:∃ m,s.data.toList[0]? = some m:=AA om;refine jC 0 rfl k ?_;refine (QF _ w).mono ?_;rintro _ _ ⟨rfl,rfl⟩;conv=>whnf
   refine BU (fun e=>?_) fun e=>?_
   .exact ⟨by simp only [Bool.not_eq_true'] at e;simp only [Gk,Jz,NB k,e,Bool.false_and,Bool.and_false],rfl⟩
   ·(conv=>whnf);simp only [Bool.not_eq_false'] at e;refine lR [0,3] (fun (a:Nat) z w'=>z=[.string s,.int .i64 a]/\a<=s.size/\(s.data.toList.take a).all E7=true/\w=w') (fun a=>s.size - a) 0 ⟨rfl,om,sI,rfl⟩ ?_;rintro a aa _ w' ⟨rfl,ac,j,rfl⟩;refine AF (fun r=>?_) fun r=>?_
    .have ad:a<s.size:=om
     obtain ⟨b,h⟩:∃ b,s.data.toList[a]? = some b:=AA om;have l:∀ i:Bool,E7 b=i->(s.data.toList.take (a+1)).all E7=i:=fun i u=>by rw [LU h,j,u];rfl
     refine jC a rfl h ?_;refine (QF _ w).mono ?_;rintro _ _ ⟨rfl,rfl⟩;conv=>whnf
     refine BU (fun f=>?_) fun f=>?_
     .refine jC a rfl h ?_;refine (FG _ w).mono ?_;rintro _ _ ⟨rfl,rfl⟩;conv=>whnf
      refine BU (fun g=>?_) fun g=>?_
      .refine jC a rfl h ?_;refine AW (fun t=>?_) fun t=>?_
       .have y:E7 b=false:=by simp at f g;simp [E7,f,g];omega
        exact ⟨by rw [Gk,Jz,NS h y];simp,rfl⟩
       .refine AB.add (a+1) rfl om om ?_;refine ⟨a+1,om,rfl,om,l true ?_,rfl⟩;have:b.toNat=45:=om
        simp [E7,this]
      .refine AB.add (a+1) rfl om om ?_;refine ⟨a+1,om,rfl,om,l true ?_,rfl⟩;simp at g;simp [E7,g]
     .refine AB.add (a+1) rfl om om ?_;refine ⟨a+1,om,rfl,om,l true ?_,rfl⟩;simp at f;simp [E7,f]
    ·(conv=>whnf);have c:a=s.size:=om
     have n:1<=s.data.toList.length:=om
     have o:s.data.toList.length<=12:=om
     rw [c,<- x,List.take_length] at j;exact ⟨by simp only [Gk,Jz,NB k,n,o,e,j,decide_true,Bool.and_self],rfl⟩
theorem G5 (k:Nat) (hk:k<=1000000000) (w:World):Dq 40 [.int .i64 k] w (fun v w'=>v = .string (IU k)/\AD w w'):=by
 refine oV Tryz.func40 ?_;conv=>whnf
 refine AF (fun f=>?_) fun f=>?_
 ·(conv=>whnf);have:k=0:=om
  subst this;exact ⟨rfl,AD.refl _⟩
 .refine lR [0,3] (fun (b:Nat) n w'=>∃ out,n=[.int .i64 b,.string (bs out)]/\b<=k/\MO b out=MO k []/\out.length+b<=k/\AD w w') (fun b=>b) k ⟨[],rfl,om,rfl,sI,AD.refl _⟩ ?_;rintro b p _ w' ⟨out,rfl,t,c,s,d⟩;refine AF (fun g=>?_) fun g=>?_
  .refine AB.rem om om ?_;have m:=VM b;refine AB.add ((UInt8.ofNat (48+b % 10)).toNat:Int) (by rw [m];omega) om om<|As kR kR (IntWalk.u8_in _ ⟨om,om⟩)<|bS J0 [.int .u8 (UInt8.ofNat (48+b % 10)).toNat] ?_;intro o u q r e h;refine Rn (l:=[UInt8.ofNat (48+b % 10)]) kR kR (by
    exact h.cells) rfl ?_
   refine Ax (by simp only [BY,List.length_cons,List.length_nil];omega)<|AB.quo om om om ⟨b / 10,om,UInt8.ofNat (48+b % 10) :: out,?_,om,?_,?_,xt d e⟩
   .rw [OO];rfl
   .rw [<- c,OK om out]
   .simp only [List.length_cons];omega
  ·(conv=>whnf);have j:b=0:=om
   subst j;refine Ax (a:=bs [109]) (by simp only [BY,List.length_cons,List.length_nil];omega) ⟨?_,d⟩;rw [Y7] at c;have i:¬ k=0:=om
   rw [IU,if_neg i,<- c];show Value.string (bs [109]++bs out)=_;rw [OO];rfl
end
end Go.Proofs.YtalgenmoljcnmaaGreatDoor
namespace Go.M
open Go Go.Vc
structure Ar where
 tray:Int
 count:Int
 sum:Int
 what:ByteArray
theorem Rj {a b:Ar}:a=b↔a.tray=b.tray/\a.count=b.count/\a.sum=b.sum/\a.what=b.what:=by
 constructor
 .intro c;subst c;simp
 .intro c;cases a;cases b;simp at c;simp [c]
instance:DecidableEq Ar:=fun a b=>decidable_of_iff (a.tray=b.tray/\a.count=b.count/\a.sum=b.sum/\a.what=b.what) Rj.symm
instance:Inhabited Ar:=⟨⟨0,0,0,.empty⟩⟩
def Ar.enc (x:Ar):List Value:=[.int .i64 x.tray,.int .i64 x.count,.int .i64 x.sum,.string x.what]
theorem Av (x:Ar):x.enc.length=4:=rfl
def Ar.ok (x:Ar):Prop:=BH x.tray/\BH x.count/\BH x.sum/\IP x.what
end Go.M
namespace Go.M
open Go Go.Vc
def Cx (x:Ar):Bool:=Ey x.tray 0 5 && Ey x.count 0 100000 && Ey x.sum (-999999999999) 999999999999 && Gk x.what
end Go.M
namespace Go.Proofs.YtalgenmoljcnmaaGreatDoor
open Go Go.RowKit Go.Vc Go.M
variable {x:Ar}
theorem FL (n:Int) (w:World):Dq 73 [.int .i64 n] w (fun v w'=>v = .bool (Ey n 0 5)/\w=w'):=by
 refine oV Tryz.func73 ?_;refine (CD _ _ _ w).mono ?_;rintro _ _ ⟨rfl,rfl⟩;exact ⟨rfl,rfl⟩
theorem M4 (n:Int) (w:World):Dq 268 [.int .i64 n] w (fun v w'=>v = .bool (Ey n (-999999999999) 999999999999)/\w=w'):=by
 refine oV Tryz.func268 ?_;refine (CD _ _ _ w).mono ?_;rintro _ _ ⟨rfl,rfl⟩;exact ⟨rfl,rfl⟩
theorem GX (n:Int) (w:World):Dq 97 [.int .i64 n] w (fun v w'=>v = .bool (Ey n 0 5)/\w=w'):=by
 refine oV Tryz.func97 ?_;refine (Ev _ _ _ w).mono ?_;rintro _ _ ⟨rfl,rfl⟩;exact ⟨rfl,rfl⟩
theorem JR (hx:x.ok) {b o:Nat} {w:World} (hc:AK w b o x.enc):Dq 174 [.pointer (some ⟨b,o,none⟩)] w (fun v w'=>v = .bool (Cx x)/\w=w'):=by
 refine oV Tryz.func174 ?_;refine jL hc (k:=0) rfl ?_;refine (GX _ w).mono ?_;rintro _ _ ⟨rfl,rfl⟩;conv=>whnf
 refine BU (fun a=>?_) fun a=>?_
 .refine jL hc (k:=1) rfl ?_;refine (Ev _ _ _ w).mono ?_;rintro _ _ ⟨rfl,rfl⟩;conv=>whnf
  refine BU (fun c=>?_) fun c=>?_
  .refine jL hc (k:=2) rfl ?_;refine (Ev _ _ _ w).mono ?_;rintro _ _ ⟨rfl,rfl⟩;conv=>whnf
   refine BU (fun d=>?_) fun d=>?_
   .refine jL hc (k:=3) rfl ?_;refine (Vd _ hx.2.2.2 w).mono ?_;rintro _ _ ⟨rfl,rfl⟩;exact ⟨by simp only [Cx,a,c,d,Bool.true_and],rfl⟩
   .exact ⟨by simp only [Cx,a,c,d,Bool.true_and,Bool.false_and],rfl⟩
  .exact ⟨by simp only [Cx,a,c,Bool.true_and,Bool.false_and],rfl⟩
 .exact ⟨by simp only [Cx,a,Bool.false_and],rfl⟩
theorem Gc (hx:x.ok) (w:World):Dq 204 [.agg ⟨x.enc⟩] w (fun v w'=>v = .bool (Cx x)/\AD w w'):=by
 refine oV Tryz.func204 ?_;refine AB.box ?_;intro g b _ _ c h;have e:AK b g 0 x.enc:=h.cells;refine jL e (k:=0) rfl ?_;refine (FL _ b).mono ?_;rintro _ _ ⟨rfl,rfl⟩;conv=>whnf
 refine BU (fun a=>?_) fun a=>?_
 .refine jL e (k:=1) rfl ?_;refine (CD _ _ _ b).mono ?_;rintro _ _ ⟨rfl,rfl⟩;conv=>whnf
  refine BU (fun d=>?_) fun d=>?_
  .refine jL e (k:=2) rfl ?_;refine (M4 _ b).mono ?_;rintro _ _ ⟨rfl,rfl⟩;conv=>whnf
   refine BU (fun f=>?_) fun f=>?_
   .refine jL e (k:=3) rfl ?_;refine (WJ _ hx.2.2.2 b).mono ?_;rintro _ _ ⟨rfl,rfl⟩;exact ⟨by simp only [Cx,a,d,f,Bool.true_and],c⟩
   .exact ⟨by simp only [Cx,a,d,f,Bool.true_and,Bool.false_and],c⟩
  .exact ⟨by simp only [Cx,a,d,Bool.true_and,Bool.false_and],c⟩
 .exact ⟨by simp only [Cx,a,Bool.false_and],c⟩
end Go.Proofs.YtalgenmoljcnmaaGreatDoor
namespace Go.M
section
open Go Go.Vc
variable {l p r:List UInt8} {n x:Ar} {c ch:Int}
def spB:ByteArray:=bs [32]
def nlB:ByteArray:=bs [10]
def DO (n:Ar):ByteArray:=BV n.tray++spB++BV n.count++spB++BV n.sum++spB++n.what
def HP (s:Int) (c:UInt8):Int:=(37 * s+c.toNat) % 65521
def U7 (before:Int) (l:List UInt8):Int:=l.foldl HP ((before+17) % 65521)
def B0 (before:Int) (n:Ar):Int:=U7 before (DO n).data.toList
def E9 (chain:Int) (n:Ar):ByteArray:=BV chain++spB++DO n++nlB
theorem U6 (l:List UInt8):∀ s:Int,0<=s->s<=65520->0<=l.foldl HP s/\l.foldl HP s<=65520:=by
 induction l with
 | nil=>intro s a b;exact ⟨a,b⟩
 | cons d l c =>
  intro s a b;exact c _ (by unfold HP;omega) (by unfold HP;omega)
theorem aB2 (before:Int) (h:0<=before) (l:List UInt8):0<=U7 before l/\U7 before l<=65520:=U6 l _ om om
theorem ID (before:Int) (h:0<=before) (n:Ar):0<=B0 before n/\B0 before n<=65520:=aB2 before h _
theorem Rb {k:Nat} {c:UInt8} (h:l[k]? = some c) (s:Int):(l.take (k+1)).foldl HP s=HP ((l.take k).foldl HP s) c:=by
 rw [List.take_add_one,h];simp
def Dm (line:ByteArray) (before:Int):Option (Ar×Int) :=
 match Ay 32 line with
 | [_,w1,w2,w3,w4] =>
  if (Ei w1 && Ei w2 && Ei w3 && Cx ⟨Ao w1,Ao w2,Ao w3,w4⟩)=true/\E9 (B0 before ⟨Ao w1,Ao w2,Ao w3,w4⟩) ⟨Ao w1,Ao w2,Ao w3,w4⟩=line++nlB then
   some (⟨Ao w1,Ao w2,Ao w3,w4⟩,B0 before ⟨Ao w1,Ao w2,Ao w3,w4⟩)
  else none
 | _=>none
theorem Kg {line:ByteArray} {before:Int} (h:Dm line before=some (n,c)):Cx n=true/\c=B0 before n/\E9 c n=line++nlB:=by
 unfold Dm at h;split at h
 .split at h
  .rename_i a;simp only [Bool.and_eq_true] at a;simp only [Option.some.injEq,Prod.mk.injEq] at h;obtain ⟨b,d⟩:=h;subst b;subst d;exact ⟨a.1.2,rfl,a.2⟩
  .cases h
 .cases h
def IS:Nat->List UInt8->Int->List Ar×Int×Nat
 | 0,_,ch=>([],ch,0)
 | f+1,l,ch =>
  if 10∈l then
   match Dm (bs (l.takeWhile (·≠10))) ch with
   | none=>([],ch,0)
   | some (n,c) =>
    (n :: (IS f (l.drop ((l.takeWhile (·≠10)).length+1)) c).1,(IS f (l.drop ((l.takeWhile (·≠10)).length+1)) c).2.1,(l.takeWhile (·≠10)).length+1+(IS f (l.drop ((l.takeWhile (·≠10)).length+1)) c).2.2)
  else ([],ch,0)
def BB (l:List UInt8) (ch:Int):List Ar×Int×Nat:=IS l.length l ch
theorem MX (h:(10:UInt8)∉p):(p++10 :: r).takeWhile (·≠10)=p:=by
 induction p with
 | nil=>simp
 | cons a p e =>
  have c:a≠10:=fun b=>h (by simp [b]);rw [List.cons_append,List.takeWhile_cons,if_pos (by simpa using c),e (fun d=>h (by simp [d]))]
theorem QP:∀ (f g:Nat) (l:List UInt8) (ch:Int),l.length<=f->l.length<=g->IS f l ch=IS g l ch
 | 0,0,_,_,_,_=>rfl
 | 0,g+1,l,ch,h,_=>by
  have:l=[]:=List.eq_nil_of_length_eq_zero om;subst this;simp [IS]
 | f+1,0,l,ch,_,h=>by
  have:l=[]:=List.eq_nil_of_length_eq_zero om;subst this;simp [IS]
 | f+1,g+1,l,ch,h1,h2=>by
  simp only [IS];split
  .rename_i c;have d:0<l.length:=List.length_pos_iff.2 (fun b=>by rw [b] at c;cases c);split
   .rfl
   .rename_i i a e;have b:IS f (l.drop ((l.takeWhile (·≠10)).length+1)) a=IS g (l.drop ((l.takeWhile (·≠10)).length+1)) a :=
     QP f g _ a sW sW
    rw [b]
  .rfl
theorem Hx (h:(10:UInt8)∉l) (ch:Int):BB l ch=([],ch,0):=by
 unfold BB;cases l.length with
 | zero=>rfl
 | succ a=>simp only [IS,if_neg h]
theorem LA (h:(10:UInt8)∉p) (hn:Dm (bs p) ch=none):BB (p++10 :: r) ch=([],ch,0):=by
 unfold BB;rw [List.length_append,List.length_cons,<- Nat.add_assoc];simp only [IS,MX h,hn];rw [if_pos sI]
theorem F1 (h:(10:UInt8)∉p) (hn:Dm (bs p) ch=some (n,c)) :
  BB (p++10 :: r) ch=(n :: (BB r c).1,(BB r c).2.1,p.length+1+(BB r c).2.2):=by
 unfold BB;rw [List.length_append,List.length_cons,<- Nat.add_assoc];have a:(p++10 :: r).drop (p.length+1)=r:=sI
 simp only [IS,MX h,hn,a];rw [if_pos sI,QP (p.length+r.length) r.length r c om (Nat.le_refl _)]
theorem Eb:∀ (k:Nat) (l:List UInt8) (ch:Int),l.length<=k->0<=ch->ch<=65520->(∀ n∈(BB l ch).1,Cx n=true)/\0<=(BB l ch).2.1/\(BB l ch).2.1<=65520/\(BB l ch).2.2<=l.length/\(BB l ch).1.length<=(BB l ch).2.2
 | k,l,ch,hk,h0,h1=>by
  by_cases hm:(10:UInt8)∈l
  .obtain ⟨p,r,rfl,hp⟩:=F6 hm;cases b:Dm (bs p) ch with
   | none=>rw [LA hp b];exact ⟨sI,h0,h1,sI,sI⟩
   | some g =>
    obtain ⟨n,h⟩:=g;rw [F1 hp b];obtain ⟨d,e,_⟩:=Kg b;subst e;have c:=ID ch h0 n
    match k,hk with
    | 0,hk=>simp at hk
    | k+1,hk =>
     have a:=Eb k r _ (by simp at hk;omega) c.1 c.2;refine ⟨fun f hm=>?_,a.2.1,a.2.2.1,?_,?_⟩
     .rcases List.mem_cons.1 hm with rfl | hm
      .exact d
      .exact a.1 f hm
     .have:=a.2.2.2.1;simp;omega
     .have:=a.2.2.2.2;simp;omega
  .rw [Hx hm];exact ⟨sI,h0,h1,sI,sI⟩
def Aj (s:ByteArray):Int:=if 4000<s.size then 5 else if (BB s.data.toList 0).2.2<s.size then 8 else 0
theorem Yp {s:ByteArray} (h:Gk s=true):s.size<=12:=by
 simp only [Gk,Jz,Bool.and_eq_true,decide_eq_true_eq] at h;have:=h.1.1.2;simpa using this
theorem FJ (h:Cx x=true):x.what.size<=12:=by
 simp only [Cx,Bool.and_eq_true] at h;exact Yp h.2
theorem Fz (hx:x.ok):(DO x).size<=66+x.what.size:=by
 obtain ⟨a,b,c,_⟩:=hx;have e:=Bh a.1 a.2;have f:=Bh b.1 b.2;have g:=Bh c.1 c.2;have d:spB.size=1:=rfl;simp only [DO,ByteArray.size_append,d];omega
theorem LH (h0:0<=c) (h1:c<=65520) (hx:x.ok):(E9 c x).size<=89+x.what.size:=by
 have d:=Bh (n:=c) om om;have e:=Fz hx;have a:spB.size=1:=rfl;have b:nlB.size=1:=rfl;simp only [E9,ByteArray.size_append,a,b];omega
theorem Ki (h:Cx x=true):x.ok:=by
 have a:=FJ h;simp only [Cx,Bool.and_eq_true,Ey,decide_eq_true_eq] at h;refine ⟨⟨om,om⟩,⟨om,om⟩,⟨om,om⟩,?_⟩;simp only [IP];omega
end
section
open Go Go.Vc
variable {α:Type} {l:List Ar} {line:ByteArray} {x:Ar}
theorem G3 (s:ByteArray):BH (Ao s):=by
 unfold Ao;cases a:Kf s with
 | none=>exact ⟨dE,dE⟩
 | some d =>
  obtain ⟨_,_,b,c⟩:=Nr a;exact ⟨sW,sW⟩
theorem aH3 {l:List α} (h:l.length=5):∃ a b c d e,l=[a,b,c,d,e]:=by
 match l,h with
 | [a,b,c,d,e],_=>exact ⟨a,b,c,d,e,rfl⟩
theorem Mm (h:(Ay 32 line).length≠5) (before:Int):Dm line before=none:=by
 unfold Dm;split
 .rename_i a;rw [a] at h;exact absurd rfl h
 .rfl
theorem Iq {a w1 w2 w3 w4:ByteArray} (h:Ay 32 line=[a,w1,w2,w3,w4]) (before:Int):Dm line before =
  if (Ei w1 && Ei w2 && Ei w3 && Cx ⟨Ao w1,Ao w2,Ao w3,w4⟩)=true/\E9 (B0 before ⟨Ao w1,Ao w2,Ao w3,w4⟩) ⟨Ao w1,Ao w2,Ao w3,w4⟩=line++nlB then
   some (⟨Ao w1,Ao w2,Ao w3,w4⟩,B0 before ⟨Ao w1,Ao w2,Ao w3,w4⟩)
  else none:=by
 unfold Dm;rw [h]
theorem X1 {l:List UInt8} {at_:Nat} {p r:List UInt8} (h:l.drop at_=p++10 :: r):l.drop (at_+(p.length+1))=r:=by
 rw [<- List.drop_drop,h];simp
def BZ (s:ByteArray):List Ar×Int×Int:=if Aj s=0 then ((BB s.data.toList 0).1,(BB s.data.toList 0).2.1,0) else ([],0,Aj s)
theorem Ce (s:ByteArray):(4000<s.size/\Aj s=5)\/(s.size<=4000/\(BB s.data.toList 0).2.2<s.size/\Aj s=8)\/(s.size<=4000/\¬ (BB s.data.toList 0).2.2<s.size/\Aj s=0):=by
 unfold Aj;by_cases b:4000<s.size
 .exact .inl ⟨b,if_pos b⟩
 .rw [if_neg b];by_cases a:(BB s.data.toList 0).2.2<s.size
  .exact .inr (.inl ⟨om,a,if_pos a⟩)
  .exact .inr (.inr ⟨om,a,if_neg a⟩)
def A9 (s:ByteArray) (x:Ar):ByteArray×Int :=
 if Aj s=0 then
  if Cx x=false then ({ data := #[] },7)
  else if 4000<s.size+(E9 (B0 (BB s.data.toList 0).2.1 x) x).size then ({ data := #[] },5) else (s++E9 (B0 (BB s.data.toList 0).2.1 x) x,0)
 else ({ data := #[] },Aj s)
def Db (l:List Ar) (t:Int):List Ar:=l.filter fun x=>decide (x.tray=t)
def Iy (s:ByteArray) (t:Int):List Ar×Int :=
 if Aj s=0 then if Ey t 0 5=true then (Db (BB s.data.toList 0).1 t,0) else ([],2) else ([],Aj s)
def aM4 (s:ByteArray) (t:Int):Ar×Int :=
 if (Iy s t).2=0 then match (Iy s t).1.getLast? with | none=>(⟨0,0,0,{ data := #[] }⟩,3) | some x=>(x,0) else (⟨0,0,0,{ data := #[] }⟩,(Iy s t).2)
def GH (l:List Ar):Int:=match l.getLast? with | none=>0 | some x=>x.count
def Fm (l:List Ar):Nat->Int
 | 0=>0
 | k+1=>Fm l k+GH (Db l k)
def D4 (s:ByteArray):Int×Int:=if Aj s=0 then (Fm (BB s.data.toList 0).1 6,0) else (0,Aj s)
theorem Ig {k:Nat} (h:l[k]? = some x) (t:Int):Db (l.take (k+1)) t=if x.tray=t then Db (l.take k) t++[x] else Db (l.take k) t:=by
 unfold Db;rw [List.take_add_one,h];simp only [Option.toList_some,List.filter_append,List.filter_cons,List.filter_nil];by_cases a:x.tray=t
 .simp [a]
 .simp [a]
theorem MR {t:Int} (h:x∈Db l t):x∈l:=(List.mem_filter.1 h).1
theorem IH (l:List Ar) (t:Int):(Db l t).length<=l.length:=List.length_filter_le _ _
theorem WA (h:∀ x∈l,Cx x=true):0<=GH l/\GH l<=100000:=by
 unfold GH;cases a:l.getLast? with
 | none=>exact ⟨dE,dE⟩
 | some x =>
  have:=h x (List.mem_of_getLast? a);simp only [Cx,Bool.and_eq_true,Ey,decide_eq_true_eq] at this;exact ⟨by show 0<=x.count;omega,by show x.count<=100000;omega⟩
theorem Pk (h:∀ x∈l,Cx x=true):∀ k,0<=Fm l k/\Fm l k<=k * 100000
 | 0=>⟨by simp [Fm],by simp [Fm]⟩
 | k+1=>by
  have h1:=Pk h k;have b:=WA (l:=Db l k) (fun x a=>h x (MR a));simp only [Fm];omega
theorem RG {l:List α} {n:Nat} (h:l.length=n+1):l.getLast? = l[n]? := by
 rw [List.getLast?_eq_getElem?];congr 1;omega
theorem Jc (s:ByteArray):(BZ s).1.length<=4000:=by
 have d:=Eb _ s.data.toList 0 (Nat.le_refl _) om om;have e:s.data.toList.length=s.size:=sI
 unfold BZ;rcases Ce s with ⟨c,a⟩ | ⟨c,a,b⟩ | ⟨c,a,b⟩
 .rw [a];simp
 .rw [b];simp
 .rw [b,if_pos rfl];show (BB s.data.toList 0).1.length<=4000;omega
end
section
open Go Go.Vc
variable {d:UInt8} {n c:Int} {x:Ar}
theorem aA5 {c:UInt8} (h:Gl c=true) (d:UInt8) (hd:d.toNat<45):c≠d:=by
 rintro rfl;unfold Gl at h;simp only [Bool.and_eq_true,decide_eq_true_eq] at h;omega
theorem IV (n:Int) (hd:d.toNat<45):d∉Lib.itoa n:=by
 intro a;unfold Lib.itoa at a;split at a
 .rcases List.mem_cons.1 a with a | a
  .rw [a] at hd;exact absurd hd dE
  .exact aA5 (Ft _ _ a) d hd rfl
 .exact aA5 (Ft _ _ a) d hd rfl
theorem Ls:∀ (k u:Nat),u<10 ^ (k+1)->(Lib.decDigits u).length<=k+1
 | 0,u,h=>by
  rw [Lib.decDigits,dif_pos (by simpa using h)];simp
 | k+1,u,h=>by
  rw [Lib.decDigits];by_cases hu:u<10
  .rw [dif_pos hu];simp
  .rw [dif_neg hu];have:=Ls k (u / 10) (by
    rw [Nat.pow_succ] at h;omega)
   simp only [List.length_append,List.length_cons,List.length_nil];omega
theorem Pc (h0 : -1000000000000000000<n) (h1:n<1000000000000000000):(Lib.decDigits n.natAbs).length<=18 :=
 Ls 17 _ (by
  have a:(10:Nat) ^ (17+1)=1000000000000000000:=dE
  rw [a];omega)
theorem Ns (h0 : -1000000000000000000<n) (h1:n<1000000000000000000):Ao (BV n)=n/\Ei (BV n)=true:=by
 unfold Ao Ei;rw [TN (Pc h0 h1)];exact ⟨rfl,rfl⟩
theorem X0 {s:ByteArray} (h:Gk s=true) (hd:d.toNat<45):d∉s.data.toList:=by
 intro a;simp only [Gk,Jz,Bool.and_eq_true] at h;have:=List.all_eq_true.1 h.2 d a;simp only [E7,JW,DR,Bool.or_eq_true,Bool.and_eq_true,decide_eq_true_eq] at this;omega
def J2 (c:Int) (x:Ar):List UInt8:=Lib.itoa c++32 :: (Lib.itoa x.tray++32 :: (Lib.itoa x.count++32 :: (Lib.itoa x.sum++32 :: x.what.data.toList)))
theorem V5 (c:Int) (x:Ar):E9 c x=bs (J2 c x)++nlB:=by
 apply Cs;simp [E9,DO,J2,spB,nlB,bs,FE]
theorem Zs (h:Cx x=true):(10:UInt8)∉J2 c x:=by
 have b:Gk x.what=true:=by
  simp only [Cx,Bool.and_eq_true] at h;exact h.2
 have a:(10:UInt8).toNat<45:=dE
 simp only [J2,List.mem_append,List.mem_cons,not_or];refine ⟨IV c a,dE,IV _ a,dE,IV _ a,dE,IV _ a,dE,X0 b a⟩
theorem V4 (h:Cx x=true):Ay 32 (bs (J2 c x))=[BV c,BV x.tray,BV x.count,BV x.sum,x.what]:=by
 have g:Gk x.what=true:=by
  simp only [Cx,Bool.and_eq_true] at h;exact h.2
 have a:(32:UInt8).toNat<45:=dE
 have e:(bs (J2 c x)).data.toList=J2 c x:=by simp [bs]
 unfold Ay EG;rw [e];unfold J2;rw [Es 32 _ _ [] (IV c a)];unfold EG;rw [Es 32 _ _ [] (IV _ a)];unfold EG;rw [Es 32 _ _ [] (IV _ a)];unfold EG;rw [Es 32 _ _ [] (IV _ a)];unfold EG;rw [GC 32 _ [] (X0 g a)];simp only [List.nil_append,List.map_cons,List.map_nil];have b:∀ d,bs (Lib.itoa d)=BV d:=fun d=>rfl;have f:bs x.what.data.toList=x.what:=Cs (by simp [bs]);rw [b,b,b,b,f]
theorem R6 {ch:Int} (h:Cx x=true):Dm (bs (J2 (B0 ch x) x)) ch=some (x,B0 ch x):=by
 have g:=h;simp only [Cx,Bool.and_eq_true,Ey,decide_eq_true_eq] at g;obtain ⟨a,d⟩:=Ns (n:=x.tray) om om;obtain ⟨b,e⟩:=Ns (n:=x.count) om om;obtain ⟨c,f⟩:=Ns (n:=x.sum) om om;rw [Iq (V4 h),a,b,c,d,e,f];rw [if_pos ⟨by simpa using h,V5 _ _⟩]
end
end Go.M
