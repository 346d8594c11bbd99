/- A stable sort of rising numbers: plain lists. No conditions. -/
import Derived.Lib.ItoaNum
import Derived.Lib.ParseIntBTie
import Derived.Lib.ItoaLen
import Derived.Lib.SplitLaws
import Derived.Lib.IndexBytes
import Derived.Lib.Join
import Derived.Test.YthadkoinmohmlaaGreatDoorModel
import Derived.Test.YthadkoinmohmlaaGreatDoorDraw
import Derived.Test.YthadkoinmohmlaaGreatDoorVcCore
namespace Go.M
structure Swo (r:Int→Int→Prop):Prop where
  irr:∀ i,¬ r i i
  tr:∀ i j k,r i j→r j k→r i k
  ntr:∀ i j k,¬ r i j→¬ r j k→¬ r i k
def Lex (r:Int→Int→Prop) (i j:Int):Prop:=r i j∨(¬ r j i∧i<j)
theorem Swo.lexIrr {r:Int→Int→Prop} (h:Swo r) (i:Int):¬ Lex r i i:=by
  rintro (h1 | ⟨_,h1⟩)
  · exact h.irr i h1
  · omega
theorem Swo.lexTr {r:Int→Int→Prop} (h:Swo r) {i j k:Int} (h1:Lex r i j) (h2:Lex r j k):Lex r i k:=by
  rcases h1 with h1 | ⟨h1,h1'⟩<;>rcases h2 with h2 | ⟨h2,h2'⟩
  · exact .inl (h.tr _ _ _ h1 h2)
  · left;apply Classical.byContradiction;intro h3;exact h.ntr i k j h3 h2 h1
  · left;apply Classical.byContradiction;intro h3;exact h.ntr j i k h1 h3 h2
  · exact .inr ⟨h.ntr k j i h2 h1,by omega⟩
theorem Swo.lexTot {r:Int→Int→Prop} (_h:Swo r) {i j:Int} (hne:i≠j):Lex r i j∨Lex r j i:=by
  by_cases h1:r i j
  · exact .inl (.inl h1)
  by_cases h2:r j i
  · exact .inr (.inl h2)
  by_cases h3:i<j
  · exact .inl (.inr ⟨h2,h3⟩)
  · exact .inr (.inr ⟨h1,by omega⟩)
theorem lex_right {r:Int→Int→Prop} {x y:Int} (h:x<y):Lex r y x↔r y x:=by
  constructor
  · rintro (h1 | ⟨_,h1⟩)
    · exact h1
    · omega
  · exact .inl
theorem Swo.lex_of_not {r:Int→Int→Prop} (hs:Swo r) {x y:Int} (h:x<y) (hn:¬ r y x):Lex r x y:=by
  rcases hs.lexTot (i:=x) (j:=y) (by omega) with h1 | h1
  · exact h1
  · exact absurd ((lex_right h).1 h1) hn
theorem Swo.unique {r:Int→Int→Prop} (hs:Swo r):∀ {xs ys:List Int},xs.Perm ys→xs.Pairwise (Lex r)→ys.Pairwise (Lex r)→xs=ys
  | [],ys,h,_,_=>(List.nil_perm.1 h).symm
  | x :: xs,[],h,_,_=>by simp at h
  | x :: xs,y :: ys,h,h1,h2=>by
    rw [List.pairwise_cons] at h1 h2;have e:x=y:=by
      apply Classical.byContradiction;intro hne;have hx:x∈y :: ys:=h.subset (by simp);have hy:y∈x :: xs:=h.symm.subset (by simp);have hx':x∈ys:=by simpa [hne] using hx
      have hy':y∈xs:=by simpa [Ne.symm hne] using hy
      exact hs.lexIrr _ (hs.lexTr (h1.1 _ hy') (h2.1 _ hx'))
    subst e;rw [hs.unique ((List.perm_cons x).1 h) h1.2 h2.2]
theorem Swo.halves {r:Int→Int→Prop} (hs:Swo r) {L1 L2 R1 R2:List Int} (hL:(L1++L2).Pairwise (Lex r)) (hR:(R1++R2).Pairwise (Lex r))
    (h1:L1=[]∨R2=[]∨∃ x y,L1.getLast? = some x∧R2.head? = some y∧Lex r x y)
    (h2:L2=[]∨R1=[]∨∃ x y,R1.getLast? = some x∧L2.head? = some y∧Lex r x y) :
    ∀ x∈L1++R1,∀ y∈L2++R2,Lex r x y:=by
  rw [List.pairwise_append] at hL hR;obtain ⟨l1,l2,l12⟩:=hL;obtain ⟨r1,r2,r12⟩:=hR;have lastLe:∀ {A:List Int} {x z:Int},A.Pairwise (Lex r)→A.getLast? = some x→z∈A→z=x∨Lex r z x:=by
    intro A x z hA hx hz;obtain ⟨B,rfl⟩:∃ B,A=B++[x]:=List.getLast?_eq_some_iff.1 hx;rw [List.pairwise_append] at hA;rcases List.mem_append.1 hz with hz | hz
    · exact .inr (hA.2.2 z hz x (by simp))
    · exact .inl (by simpa using hz)
  have headLe:∀ {A:List Int} {x z:Int},A.Pairwise (Lex r)→A.head? = some x→z∈A→z=x∨Lex r x z:=by
    intro A x z hA hx hz;cases A with
    | nil=>simp at hx
    | cons a B =>
      simp at hx;subst hx;rw [List.pairwise_cons] at hA;rcases List.mem_cons.1 hz with hz | hz
      · exact .inl hz
      · exact .inr (hA.1 z hz)
  have mix:∀ {A B:List Int} {x y u v:Int},A.Pairwise (Lex r)→B.Pairwise (Lex r)→A.getLast? = some x→B.head? = some y→Lex r x y→u∈A→v∈B→Lex r u v:=by
    intro A B x y u v hA hB hx hy hxy hu hv;have e1:Lex r u y:=by
      rcases lastLe hA hx hu with rfl | h
      · exact hxy
      · exact hs.lexTr h hxy
    rcases headLe hB hy hv with rfl | h
    · exact e1
    · exact hs.lexTr e1 h
  intro u hu v hv;rcases List.mem_append.1 hu with hu | hu<;>rcases List.mem_append.1 hv with hv | hv
  · exact l12 u hu v hv
  · rcases h1 with rfl | rfl | ⟨x,y,hx,hy,hxy⟩
    · cases hu
    · cases hv
    · exact mix l1 r2 hx hy hxy hu hv
  · rcases h2 with rfl | rfl | ⟨x,y,hx,hy,hxy⟩
    · cases hv
    · cases hu
    · exact mix r1 l2 hx hy hxy hu hv
  · exact r12 u hu v hv
end Go.M
namespace Go.M
theorem Swo.merged {r:Int→Int→Prop} (hs:Swo r) {L1 L2 R1 R2 M1 M2:List Int} (hL:(L1++L2).Pairwise (Lex r)) (hR:(R1++R2).Pairwise (Lex r))
    (h1:L1=[]∨R2=[]∨∃ x y,L1.getLast? = some x∧R2.head? = some y∧Lex r x y)
    (h2:L2=[]∨R1=[]∨∃ x y,R1.getLast? = some x∧L2.head? = some y∧Lex r x y)
    (p1:M1.Perm (L1++R1)) (s1:M1.Pairwise (Lex r)) (p2:M2.Perm (L2++R2)) (s2:M2.Pairwise (Lex r)) :
    (M1++M2).Perm ((L1++L2)++(R1++R2))∧(M1++M2).Pairwise (Lex r):=by
  constructor
  · refine (p1.append p2).trans ?_;simp only [List.append_assoc];refine List.Perm.append_left L1 ?_;rw [← List.append_assoc R1,← List.append_assoc L2];exact List.Perm.append_right R2 List.perm_append_comm
  · rw [List.pairwise_append];refine ⟨s1,s2,fun x hx y hy=>?_⟩;exact hs.halves hL hR h1 h2 x (p1.subset hx) y (p2.subset hy)
theorem get_append_right' {α:Type} {A B:List α} {k j:Nat} (h:A.length+j=k):(A++B)[k]? = B[j]? := by
  rw [List.getElem?_append_right (by omega)];congr 1;omega
theorem get_append_left' {α:Type} {A B:List α} {k:Nat} (h:k<A.length):(A++B)[k]? = A[k]? := List.getElem?_append_left h
theorem set_at {α:Type} {A B:List α} {k:Nat} {x y:α} (h:A.length=k):(A++x :: B).set k y=A++y :: B:=by
  subst h;simp
theorem get_at {α:Type} {A B:List α} {k:Nat} {x:α} (h:A.length=k):(A++x :: B)[k]? = some x:=by
  subst h;simp
theorem swap_at {α:Type} {X Y Z:List α} {x y:α} {i j:Nat} (hi:X.length=i) (hj:X.length+1+Y.length=j) :
    ((X++x :: (Y++y :: Z)).set i y).set j x=X++y :: (Y++x :: Z):=by
  rw [set_at hi];have:X++y :: (Y++y :: Z)=(X++y :: Y)++y :: Z:=by simp
  rw [this,set_at (by simp;omega)];simp
theorem get_at2 {α:Type} {X Y Z:List α} {x y:α} {j:Nat} (hj:X.length+1+Y.length=j):(X++x :: (Y++y :: Z))[j]? = some y:=by
  have:X++x :: (Y++y :: Z)=(X++x :: Y)++y :: Z:=by simp
  rw [this,get_at (by simp;omega)]
theorem drop_next {α:Type} {A:List α} {k:Nat} {x:α} (h:A[k]? = some x):A.drop k=x :: A.drop (k+1):=by
  obtain ⟨hlt,rfl⟩:=List.getElem?_eq_some_iff.1 h;exact List.drop_eq_getElem_cons hlt
theorem take_next {α:Type} {A:List α} {k:Nat} {x:α} (h:A[k]? = some x):A.take (k+1)=A.take k++[x]:=by
  rw [List.take_add_one,h];rfl
abbrev Rise (xs:List Int):Prop:=xs.Pairwise (· < ·)
theorem Swo.inserted {r:Int→Int→Prop} (hs:Swo r) {S1 S2:List Int} {x:Int} (h:(S1++S2).Pairwise (Lex r)) (h2:∀ y∈S2,Lex r x y) (h1:S1=[]∨∃ z,S1.getLast? = some z∧Lex r z x) :
    (S1++x :: S2).Pairwise (Lex r):=by
  rw [List.pairwise_append] at h ⊢;obtain ⟨a,b,c⟩:=h;refine ⟨a,List.pairwise_cons.2 ⟨h2,b⟩,fun y hy z hz=>?_⟩;have key:Lex r y x:=by
    rcases h1 with rfl | ⟨u,hu,hux⟩
    · cases hy
    · obtain ⟨B,rfl⟩:∃ B,S1=B++[u]:=List.getLast?_eq_some_iff.1 hu;rw [List.pairwise_append] at a;rcases List.mem_append.1 hy with hy | hy
      · exact hs.lexTr (a.2.2 y hy u (by simp)) hux
      · have:y=u:=by simpa using hy
        subst this;exact hux
  rcases List.mem_cons.1 hz with rfl | hz
  · exact key
  · exact c y hy z hz
end Go.M
namespace Go.M
open Classical in
noncomputable def insL (r:Int→Int→Prop) (x:Int):List Int→List Int
  | []=>[x]
  | y :: ys=>if Lex r x y then x :: y :: ys else y :: insL r x ys
noncomputable def sortL (r:Int→Int→Prop):List Int→List Int
  | []=>[]
  | x :: xs=>insL r x (sortL r xs)
theorem insL_perm (r:Int→Int→Prop) (x:Int):∀ ys:List Int,(insL r x ys).Perm (x :: ys)
  | []=>List.Perm.refl _
  | y :: ys=>by
    unfold insL;split
    · exact List.Perm.refl _
    · exact ((insL_perm r x ys).cons y).trans (List.Perm.swap x y ys)
theorem sortL_perm (r:Int→Int→Prop):∀ xs:List Int,(sortL r xs).Perm xs
  | []=>List.Perm.refl _
  | x :: xs=>(insL_perm r x _).trans ((sortL_perm r xs).cons x)
theorem Swo.insL {r:Int→Int→Prop} (hs:Swo r) {x:Int}:∀ {ys:List Int},ys.Pairwise (Lex r)→x∉ys→(insL r x ys).Pairwise (Lex r)
  | [],_,_=>by simp [Go.M.insL]
  | y :: ys,h,hn=>by
    unfold Go.M.insL;have h':=List.pairwise_cons.1 h;split
    · rename_i hl;refine List.pairwise_cons.2 ⟨fun z hz=>?_,h⟩;rcases List.mem_cons.1 hz with rfl | hz
      · exact hl
      · exact hs.lexTr hl (h'.1 z hz)
    · rename_i hl;have hyx:Lex r y x:=(hs.lexTot (fun e=>hn (by rw [e];simp))).resolve_left hl;refine List.pairwise_cons.2 ⟨fun z hz=>?_,hs.insL h'.2 (fun hh=>hn (by simp [hh]))⟩;rcases List.mem_cons.1 ((insL_perm r x ys).subset hz) with rfl | hz
      · exact hyx
      · exact h'.1 z hz
theorem Swo.sortL {r:Int→Int→Prop} (hs:Swo r):∀ {xs:List Int},xs.Nodup→(sortL r xs).Pairwise (Lex r)
  | [],_=>List.Pairwise.nil
  | x :: xs,h=>by
    rw [List.nodup_cons] at h;exact hs.insL (hs.sortL h.2) (fun hh=>h.1 ((sortL_perm r xs).subset hh))
theorem Swo.is {r:Int→Int→Prop} (hs:Swo r) {xs ys:List Int} (hn:xs.Nodup) (hp:ys.Perm xs) (h:ys.Pairwise (Lex r)):ys=Go.M.sortL r xs :=
  hs.unique (hp.trans (sortL_perm r xs).symm) h (hs.sortL hn)
def upto (n:Nat):List Int:=(List.range n).map fun (i:Nat)=>(i:Int)
theorem upto_length (n:Nat):(upto n).length=n:=by simp [upto]
theorem upto_get {n k:Nat} (h:k<n):(upto n)[k]? = some (k:Int):=by simp [upto,h]
theorem upto_succ (n:Nat):upto (n+1)=upto n++[(n:Int)]:=by simp [upto,List.range_succ]
theorem upto_mem {n:Nat} {i:Int}:i∈upto n↔∃ k:Nat,k<n∧i=k:=by
  simp only [upto,List.mem_map,List.mem_range];constructor
  · rintro ⟨k,h,rfl⟩;exact ⟨k,h,rfl⟩
  · rintro ⟨k,h,rfl⟩;exact ⟨k,h,rfl⟩
theorem upto_rise (n:Nat):Rise (upto n):=by
  induction n with
  | zero=>exact List.Pairwise.nil
  | succ n ih =>
    rw [upto_succ];refine List.pairwise_append.2 ⟨ih,List.pairwise_singleton _ _,fun x hx y hy=>?_⟩;obtain ⟨k,hk,rfl⟩:=upto_mem.1 hx;rw [List.mem_singleton.1 hy];omega
end Go.M
namespace Go.M
open Go Go.Vc
def charL:List UInt8:=[32,38,65,66,67,68,69,70,71,72,73,45,74,75,76,77,78,79,80,81,82,47,83,84,85,86,87,88,89,90,48,49,50,51,52,53,54,55,56,57]
theorem charL_len:charL.length=40:=rfl
def charAt (k:Nat):UInt8:=charL.getD k 0
theorem charL_get {k:Nat} (h:k<40):charL[k]? = some (charAt k):=by
  unfold charAt;rw [List.getD_eq_getElem?_getD,List.getElem?_eq_getElem (by rw [charL_len];exact h)];rfl
def codeC (c:Nat):Int :=
  if c=32 then 0 else if c=38 then 1 else if c=45 then 2 else if c=47 then 12
  else if 48≤c∧c≤57 then bitM ((c:Int) - 48)
  else if 65≤c∧c≤73 then 1+bitM ((c:Int) - 64)
  else if 74≤c∧c≤82 then 2+bitM ((c:Int) - 73)
  else if 83≤c∧c≤90 then 4+bitM ((c:Int) - 81)
  else -1
def codeAt (k:Nat):Int:=codeC (charAt k).toNat
def rankM (m:Int):Int:=match (List.range 40).find? (fun (k:Nat)=>decide (codeAt k=m)) with | some k=>(k:Int) | none=>-1
theorem rankM_b (m:Int) : -1≤rankM m∧rankM m≤39:=by
  unfold rankM;split
  · rename_i d hd;have:=List.mem_of_find?_eq_some hd;simp at this;omega
  · omega
theorem rankM_is {m:Int} {k:Nat} (hk:k<40) (h1:∀ j:Nat,j<k→codeAt j≠m) (h2:codeAt k=m):rankM m=k:=by
  have:(List.range 40).find? (fun (d:Nat)=>decide (codeAt d=m))=some k:=by
    rw [List.find?_eq_some_iff_getElem];refine ⟨by simp [h2],k,by simpa using hk,by simp,fun j hj=>?_⟩;simp only [List.getElem_range,Bool.not_eq_true',decide_eq_false_iff_not];exact h1 j hj
  unfold rankM;rw [this]
theorem rankM_none {m:Int} (h1:∀ j:Nat,j<40→codeAt j≠m):rankM m = -1:=by
  have:(List.range 40).find? (fun (d:Nat)=>decide (codeAt d=m))=none:=by
    rw [List.find?_eq_none];intro j hj;simp [h1 j (by simpa using hj)]
  unfold rankM;rw [this]
def hasB (l:List Int):Bool:=l.all fun m=>decide (0≤rankM m)
def ranks (l:List Int):List Int:=l.map rankM
def txt (r:List Int):ByteArray:=bs (r.map fun k=>charAt k.toNat)
def ckey (f:TField) (c:List Int):List Int:=ranks (partOf c f)
theorem txt_size (r:List Int):(txt r).size=r.length:=by simp [txt,bs_size]
theorem ranks_len (l:List Int):(ranks l).length=l.length:=by simp [ranks]
theorem ranks_get {l:List Int} {k:Nat} {x:Int} (h:l[k]? = some x):(ranks l)[k]? = some (rankM x):=by simp [ranks,h]
theorem hasB_get {l:List Int} {k:Nat} {x:Int} (h:hasB l=true) (hx:l[k]? = some x):0≤rankM x:=by
  simp only [hasB,List.all_eq_true,decide_eq_true_eq] at h;exact h x (List.mem_of_getElem? hx)
theorem hasB_any (l:List Int):(l.any fun m=>decide (rankM m<0)) = !hasB l:=by
  unfold hasB;rw [List.not_all_eq_any_not];congr 1;funext m;by_cases h:rankM m<0
  · simp [h]
  · simp [h];omega
def cmpR:List Int→List Int→Int
  | x :: xs,y :: ys=>if x<y then -1 else if y<x then 1 else cmpR xs ys
  | _,_=>0
theorem cmpR_nil (b:List Int):cmpR [] b=0:=by cases b<;>rfl
theorem cmpR_nil2 (a:List Int):cmpR a []=0:=by cases a<;>rfl
theorem cmpR_cons (x y:Int) (xs ys:List Int):cmpR (x :: xs) (y :: ys)=if x<y then -1 else if y<x then 1 else cmpR xs ys:=rfl
theorem cmpR_b:∀ a b:List Int,-1≤cmpR a b∧cmpR a b≤1
  | [],b=>by rw [cmpR_nil];omega
  | a :: l,[]=>by rw [cmpR_nil2];omega
  | x :: xs,y :: ys=>by
    have:=cmpR_b xs ys;rw [cmpR_cons];split
    · omega
    · split<;>omega
theorem cmpR_refl:∀ a:List Int,cmpR a a=0
  | []=>rfl
  | x :: xs=>by rw [cmpR_cons,if_neg (by omega),if_neg (by omega)];exact cmpR_refl xs
theorem cmpR_neg:∀ a b:List Int,cmpR a b = - cmpR b a
  | [],b=>by rw [cmpR_nil,cmpR_nil2];rfl
  | a :: l,[]=>by rw [cmpR_nil,cmpR_nil2];rfl
  | x :: xs,y :: ys=>by
    have:=cmpR_neg xs ys;rw [cmpR_cons,cmpR_cons];by_cases h1:x<y
    · rw [if_pos h1,if_neg (by omega),if_pos h1]
    · by_cases h2:y<x
      · rw [if_neg h1,if_pos h2,if_pos h2];omega
      · rw [if_neg h1,if_neg h2,if_neg h2,if_neg h1];exact this
theorem cmpR_eq:∀ {a b:List Int},a.length=b.length→cmpR a b=0→a=b
  | [],[],_,_=>rfl
  | [],_ :: _,h,_=>by simp at h
  | _ :: _,[],h,_=>by simp at h
  | x :: xs,y :: ys,h,h0=>by
    rw [cmpR_cons] at h0;split at h0
    · omega
    · split at h0
      · omega
      · rw [cmpR_eq (a:=xs) (b:=ys) (by simpa using h) h0,show x=y by omega]
theorem cmpR_tr:∀ {a b c:List Int},cmpR a b<0→cmpR b c<0→cmpR a c<0
  | [],b,_,h1,_=>by rw [cmpR_nil] at h1;omega
  | _ :: _,[],_,h1,_=>by rw [cmpR_nil2] at h1;omega
  | _ :: _,b :: l,[],_,h2=>by rw [cmpR_nil2] at h2;omega
  | x :: xs,y :: ys,z :: zs,h1,h2=>by
    rw [cmpR_cons] at h1 h2 ⊢;by_cases a1:x<y
    · by_cases a2:z<y
      · rw [if_neg (by omega),if_pos a2] at h2;omega
      · rw [if_pos (by omega)];omega
    · rw [if_neg a1] at h1;by_cases a2:y<x
      · rw [if_pos a2] at h1;omega
      · rw [if_neg a2] at h1;have e:x=y:=by omega
        subst e;by_cases b1:x<z
        · rw [if_pos b1];omega
        · rw [if_neg b1] at h2 ⊢;by_cases b2:z<x
          · rw [if_pos b2] at h2;omega
          · rw [if_neg b2] at h2 ⊢;exact cmpR_tr h1 h2
theorem cmpR_at:∀ {a b:List Int} {k:Nat} {x y:Int},a.take k=b.take k→a[k]? = some x→b[k]? = some y→cmpR a b=if x<y then -1 else if y<x then 1 else cmpR (a.drop (k+1)) (b.drop (k+1))
  | [],_,_,_,_,_,hx,_=>by simp at hx
  | _ :: _,[],_,_,_,_,_,hy=>by simp at hy
  | p :: ps,q :: qs,0,x,y,_,hx,hy=>by
    simp at hx hy;subst hx;subst hy;rfl
  | p :: ps,q :: qs,k+1,x,y,h,hx,hy=>by
    simp only [List.take_succ_cons,List.cons.injEq] at h;obtain ⟨rfl,h2⟩:=h;rw [cmpR_cons,if_neg (by omega),if_neg (by omega)];exact cmpR_at h2 (by simpa using hx) (by simpa using hy)
theorem cmpR_less {a b:List Int} {k:Nat} {x y:Int} (h:a.take k=b.take k) (hx:a[k]? = some x) (hy:b[k]? = some y) (hxy:x<y):cmpR a b = -1:=by rw [cmpR_at h hx hy,if_pos hxy]
theorem cmpR_more {a b:List Int} {k:Nat} {x y:Int} (h:a.take k=b.take k) (hx:a[k]? = some x) (hy:b[k]? = some y) (hxy:y<x):cmpR a b=1:=by rw [cmpR_at h hx hy,if_neg (by omega),if_pos hxy]
theorem cmpR_done {a b:List Int} {n:Nat} (h:a.take n=b.take n) (ha:a.length=n) (hb:b.length=n):cmpR a b=0:=by
  rw [List.take_of_length_le (by omega),List.take_of_length_le (by omega)] at h;rw [h];exact cmpR_refl b
theorem take_both {α:Type} {a b:List α} {k:Nat} {x:α} (h:a.take k=b.take k) (hx:a[k]? = some x) (hy:b[k]? = some x):a.take (k+1)=b.take (k+1):=by
  rw [List.take_add_one,List.take_add_one,h,hx,hy]
theorem cmpR_le {a b:List Int} (h:¬ cmpR b a<0):cmpR a b≤0:=by have:=cmpR_neg a b;omega
theorem cmpR_le_tr {a b c:List Int} (hl:a.length=b.length) (h1:¬ cmpR b a<0) (h2:cmpR b c<0):cmpR a c<0:=by
  have:=cmpR_le h1;by_cases e:cmpR a b=0
  · rw [cmpR_eq hl e];exact h2
  · exact cmpR_tr (by omega) h2
def keysM (d:List (List Int)) (f:TField):List (List Int)×Int :=
  if deckB d=false then ([],1) else if fieldB f (widthOf d)=false then ([],2) else if d.all (fun c=>hasB (partOf c f))=false then ([],8) else (d.map (ckey f),0)
theorem keys_deck {d:List (List Int)} {f:TField} (h:deckB d=false):keysM d f=([],1):=by simp [keysM,h]
theorem keys_field {d:List (List Int)} {f:TField} (h:deckB d=true) (hf:fieldB f (widthOf d)=false):keysM d f=([],2):=by simp [keysM,h,hf]
theorem keys_good {d:List (List Int)} {f:TField} (h:deckB d=true) (hf:fieldB f (widthOf d)=true) (hall:d.all (fun c=>hasB (partOf c f))=true):keysM d f=(d.map (ckey f),0):=by
  unfold keysM;rw [if_neg (by simp [h]),if_neg (by simp [hf]),if_neg (by simp [hall])]
theorem keys_cases (d:List (List Int)) (f:TField):(∃ cd,keysM d f=([],cd)∧(cd=1∨cd=2∨cd=8))∨(deckB d=true∧fieldB f (widthOf d)=true∧d.all (fun c=>hasB (partOf c f))=true∧keysM d f=(d.map (ckey f),0)):=by
  cases h:deckB d
  · exact .inl ⟨1,keys_deck h,.inl rfl⟩
  · cases hf:fieldB f (widthOf d)
    · exact .inl ⟨2,keys_field h hf,.inr (.inl rfl)⟩
    · cases ha:d.all (fun c=>hasB (partOf c f))
      · refine .inl ⟨8,?_,.inr (.inr rfl)⟩;unfold keysM;rw [if_neg (by simp [h]),if_neg (by simp [hf]),if_pos ha]
      · exact .inr ⟨rfl,rfl,rfl,keys_good h hf ha⟩
def fLen (f:TField):Nat:=f.to_.toNat - f.from_.toNat
theorem ckey_len {d:List (List Int)} {f:TField} (h:deckB d=true) (hf:fieldB f (widthOf d)=true) {c:List Int} (hc:c∈d):(ckey f c).length=fLen f:=by
  have h1:=(deckB_mem h).2 c hc;have h2:fieldB f c.length=true:=by rw [h1.2];exact hf
  unfold ckey;rw [ranks_len,partOf_len h2];rfl
def keyD (K:List (List Int)) (L:Nat) (i:Int):List Int:=K.getD i.toNat (List.replicate L 0)
def ordR (K:List (List Int)) (L:Nat) (i j:Int):Prop:=cmpR (keyD K L i) (keyD K L j)<0
theorem keyD_len {K:List (List Int)} {L:Nat} (h:∀ k∈K,k.length=L) (i:Int):(keyD K L i).length=L:=by
  unfold keyD;rw [List.getD_eq_getElem?_getD];cases hk:K[i.toNat]? with
  | none=>simp
  | some x=>simpa using h x (List.mem_of_getElem? hk)
theorem ordR_swo {K:List (List Int)} {L:Nat} (h:∀ k∈K,k.length=L):Swo (ordR K L):=by
  refine ⟨fun i hi=>?_,fun i j k h1 h2=>cmpR_tr h1 h2,fun i j k h1 h2 h3=>?_⟩
  · unfold ordR at hi;rw [cmpR_refl] at hi;omega
  · unfold ordR at *;exact h2 (cmpR_le_tr (by rw [keyD_len h,keyD_len h]) h1 h3)
noncomputable def placesM (K:List (List Int)) (L:Nat):List Int:=sortL (ordR K L) (upto K.length)
noncomputable def sdM (d:List (List Int)) (f:TField):List (List Int):=(placesM (d.map (ckey f)) (fLen f)).map fun i=>d.getD i.toNat []
theorem places_perm (K:List (List Int)) (L:Nat):(placesM K L).Perm (upto K.length):=sortL_perm _ _
theorem places_len (K:List (List Int)) (L:Nat):(placesM K L).length=K.length:=by rw [(places_perm K L).length_eq,upto_length]
theorem places_mem {K:List (List Int)} {L:Nat} {i:Int} (h:i∈placesM K L):0≤i∧i.toNat<K.length:=by
  obtain ⟨k,hk,rfl⟩:=upto_mem.1 ((places_perm K L).subset h);omega
theorem map_upto {α:Type} (d:List α) (z:α):(upto d.length).map (fun i=>d.getD i.toNat z)=d:=by
  apply List.ext_getElem?;intro i;by_cases h:i<d.length
  · rw [List.getElem?_map,upto_get h,Option.map_some,List.getD_eq_getElem?_getD];simp [h]
  · rw [List.getElem?_eq_none (by rw [List.length_map,upto_length];omega),List.getElem?_eq_none (by omega)]
theorem sd_perm (d:List (List Int)) (f:TField):(sdM d f).Perm d:=by
  have h:=(places_perm (d.map (ckey f)) (fLen f)).map fun i=>d.getD i.toNat [];rw [List.length_map,map_upto] at h;exact h
theorem sd_len (d:List (List Int)) (f:TField):(sdM d f).length=d.length:=(sd_perm d f).length_eq
def Weak (S:List (List Int)):Prop:=S.Pairwise fun a b=>¬ cmpR b a<0
def startB (S:List (List Int)) (i:Nat):Bool:=decide (i=0) || !decide (cmpR (S.getD (i - 1) []) (S.getD i [])=0)
def startsN (S:List (List Int)) (n:Nat):List Nat:=(List.range n).filter (startB S)
def starts (S:List (List Int)):List Nat:=startsN S S.length
def endAt (ss:List Nat) (n i:Nat):Nat:=ss.getD (i+1) n
theorem startsN_succ (S:List (List Int)) (n:Nat):startsN S (n+1)=if startB S n=true then startsN S n++[n] else startsN S n:=by
  unfold startsN;rw [List.range_succ,List.filter_append];split<;>simp [*]
theorem starts_mem {S:List (List Int)} {s:Nat}:s∈starts S↔s<S.length∧startB S s=true:=by simp [starts,startsN]
theorem starts_rise (S:List (List Int)):(starts S).Pairwise (· < ·):=by
  unfold starts startsN;exact List.Pairwise.filter _ List.pairwise_lt_range
theorem getD_of {α:Type} {l:List α} {k:Nat} {x z:α} (h:l[k]? = some x):l.getD k z=x:=by rw [List.getD_eq_getElem?_getD,h];rfl
section
variable {S:List (List Int)} {L:Nat} (hL:∀ k∈S,k.length=L) (hW:Weak S)
theorem end_le {i s:Nat} (hi:(starts S)[i]? = some s):s<endAt (starts S) S.length i∧endAt (starts S) S.length i≤S.length:=by
  have hs:=starts_mem.1 (List.mem_of_getElem? hi);unfold endAt;rw [List.getD_eq_getElem?_getD];cases hn:(starts S)[i+1]? with
  | none=>simp;omega
  | some t =>
    have h1:=List.getElem?_eq_some_iff.1 hi;have h2:=List.getElem?_eq_some_iff.1 hn;have:=List.pairwise_iff_getElem.1 (starts_rise S) i (i+1) h1.1 h2.1 (by omega);have ht:=starts_mem.1 (List.mem_of_getElem? hn);simp;omega
theorem between {i s p:Nat} (hi:(starts S)[i]? = some s) (h1:s<p) (h2:p<endAt (starts S) S.length i):startB S p=false:=by
  have hle:=end_le hi;cases hp:startB S p
  · rfl
  · exfalso;obtain ⟨j,hj⟩:=List.mem_iff_getElem?.1 (starts_mem.2 ⟨by omega,hp⟩);have g1:=List.getElem?_eq_some_iff.1 hi;have g2:=List.getElem?_eq_some_iff.1 hj;have hr:=List.pairwise_iff_getElem.1 (starts_rise S);rcases Nat.lt_trichotomy i j with h | h | h
    · by_cases e:j=i+1
      · subst e;unfold endAt at h2;rw [getD_of hj] at h2;omega
      · obtain ⟨t,ht⟩:=get_of_lt (l:=starts S) (k:=i+1) (by have:=g2.1;omega);have g3:=List.getElem?_eq_some_iff.1 ht;have:=hr (i+1) j g3.1 g2.1 (by omega);rw [g3.2,g2.2] at this;unfold endAt at h2;rw [getD_of ht] at h2;omega
    · subst h;rw [hi] at hj;cases hj;omega
    · have:=hr j i g2.1 g1.1 h;rw [g2.2,g1.2] at this;omega
end
def groupsM (d:List (List Int)) (f:TField):List (List (List Int)) :=
  (List.range (starts (d.map (ckey f))).length).map fun i =>
    (d.drop ((starts (d.map (ckey f))).getD i 0)).take (endAt (starts (d.map (ckey f))) d.length i - (starts (d.map (ckey f))).getD i 0)
end Go.M
namespace Go.M
open Go Go.Vc
def numsM (d:List (List Int)) (f:TField):List Int:=d.filterMap fun c=>numOf (partOf c f)
theorem numsM_take {d:List (List Int)} {f:TField} {k:Nat} {c:List Int} {n:Int} (hc:d[k]? = some c) (hn:numOf (partOf c f)=some n):numsM (d.take (k+1)) f=numsM (d.take k) f++[n]:=by
  unfold numsM;rw [List.take_add_one,hc,Option.toList_some,List.filterMap_append];simp [hn]
theorem numIn_cases (l:List Int):numInM l=(0,false)∨∃ n,numInM l=(n,true)∧numOf l=some n:=by
  unfold numInM;split
  · exact .inl rfl
  · rename_i n h;exact .inr ⟨n,rfl,h⟩
end Go.M
namespace Go.M
open Go Go.Vc
def decB (n:Int):ByteArray:=bs (Lib.itoa n)
def isDig (c:UInt8):Bool:=decide (48≤c.toNat) && decide (c.toNat≤57)
def dvalFrom:Option Nat→List UInt8→Option Nat
  | a,[]=>a
  | none,_=>none
  | some a,c :: r=>if isDig c then dvalFrom (some (10 * a+(c.toNat - 48))) r else none
def dval (l:List UInt8):Option Nat:=dvalFrom (some 0) l
theorem dvalFrom_none (l:List UInt8):dvalFrom none l=none:=by cases l<;>rfl
theorem dvalFrom_append:∀ (l r:List UInt8) (a:Option Nat),dvalFrom a (l++r)=dvalFrom (dvalFrom a l) r
  | [],r,a=>by cases a<;>cases r<;>rfl
  | c :: l,r,none=>by simp [dvalFrom,dvalFrom_none]
  | c :: l,r,some a=>by
    simp only [List.cons_append,dvalFrom];split
    · exact dvalFrom_append l r _
    · rw [dvalFrom_none]
theorem dval_snoc (l:List UInt8) (c:UInt8):dval (l++[c])=(dval l).bind fun a=>if isDig c then some (10 * a+(c.toNat - 48)) else none:=by
  unfold dval;rw [dvalFrom_append];cases dvalFrom (some 0) l with
  | none=>rfl
  | some a=>simp only [dvalFrom,Option.bind_some]
theorem isDig_of {u:Nat} (h:u<10):isDig (UInt8.ofNat (48+u))=true:=by
  have:(UInt8.ofNat (48+u)).toNat=48+u:=by simp [UInt8.toNat_ofNat'];omega
  simp only [isDig,this,Bool.and_eq_true,decide_eq_true_eq];omega
theorem dig_val {u:Nat} (h:u<10):(UInt8.ofNat (48+u)).toNat - 48=u:=by
  have:(UInt8.ofNat (48+u)).toNat=48+u:=by simp [UInt8.toNat_ofNat'];omega
  omega
theorem dval_decDigits (u:Nat):dval (Lib.decDigits u)=some u:=by
  induction u using Nat.strongRecOn with
  | _ u ih =>
    rw [Lib.decDigits];by_cases h:u<10
    · rw [dif_pos h];show (if isDig (UInt8.ofNat (48+u)) then some (10 * 0+((UInt8.ofNat (48+u)).toNat - 48)) else none)=_;rw [if_pos (isDig_of h),dig_val h];simp
    · have hm:u % 10<10:=by omega
      rw [dif_neg h,dval_snoc,ih (u / 10) (by omega),Option.bind_some,if_pos (isDig_of hm),dig_val hm];congr 1;omega
theorem decDigits_dig (u:Nat):∀ c∈Lib.decDigits u,isDig c=true:=by
  induction u using Nat.strongRecOn with
  | _ u ih =>
    rw [Lib.decDigits];by_cases h:u<10
    · rw [dif_pos h];intro c hc;rw [List.mem_singleton.1 hc];exact isDig_of h
    · rw [dif_neg h];intro c hc;rcases List.mem_append.1 hc with hc | hc
      · exact ih (u / 10) (by omega) c hc
      · rw [List.mem_singleton.1 hc];exact isDig_of (by omega)
theorem decDigits_ne (u:Nat):Lib.decDigits u≠[]:=by
  intro h;have:=Lib.decDigits_length u;rw [h] at this;have h2:=Lib.nDigits_pos u;simp at this;omega
theorem dvalFrom_ge:∀ (l:List UInt8) (a v:Nat),dvalFrom (some a) l=some v→a≤v
  | [],a,v,h=>by simp [dvalFrom] at h;omega
  | c :: l,a,v,h=>by
    simp only [dvalFrom] at h;split at h
    · have:=dvalFrom_ge l _ _ h;omega
    · cases h
theorem dvalFrom_lt:∀ (l:List UInt8) (a v k:Nat),a<10 ^ k→dvalFrom (some a) l=some v→v<10 ^ (k+l.length)
  | [],a,v,k,ha,h=>by simp [dvalFrom] at h;subst h;simpa using ha
  | c :: l,a,v,k,ha,h=>by
    simp only [dvalFrom] at h;split at h
    · rename_i hd;simp only [isDig,Bool.and_eq_true,decide_eq_true_eq] at hd;have:=dvalFrom_lt l _ v (k+1) (by rw [Nat.pow_succ];omega) h;simpa [Nat.add_assoc,Nat.add_comm 1] using this
    · cases h
theorem parse_of_dval:∀ (l:List UInt8) (a v:Nat),dvalFrom (some a) l=some v→v<1000000000000000000→Lib.parseUint10 a l = .ok v
  | [],a,v,h,_=>by simp [dvalFrom] at h;subst h;rfl
  | c :: l,a,v,h,hv=>by
    simp only [dvalFrom] at h;split at h
    · rename_i hd;simp only [isDig,Bool.and_eq_true,decide_eq_true_eq] at hd;have hge:=dvalFrom_ge l _ _ h;rw [Lib.parseUint10,if_pos hd,if_neg (by omega),if_neg (by omega),show a * 10+(c.toNat - 48)=10 * a+(c.toNat - 48) by omega];exact parse_of_dval l _ _ h hv
    · cases h
def unsign (l:List UInt8):List UInt8:=if l.head? = some 45 then l.tail else l
def numM (s:ByteArray):Option Int :=
  if (unsign s.data.toList).length<1∨18<(unsign s.data.toList).length then none else
    match dval (unsign s.data.toList) with
    | none=>none
    | some m=>if decB (if (unsign s.data.toList).length<s.data.toList.length then -(m:Int) else m)=s then some (if (unsign s.data.toList).length<s.data.toList.length then -(m:Int) else m) else none
def numI (s:ByteArray):Int:=(numM s).getD 0
def numB (s:ByteArray):Bool:=(numM s).isSome
theorem toList_decB (n:Int):(decB n).data.toList=Lib.itoa n:=rfl
theorem unsign_itoa (n:Int):unsign (Lib.itoa n)=Lib.decDigits n.natAbs:=by
  unfold Lib.itoa unsign;by_cases h:n<0
  · rw [if_pos h];simp
  · rw [if_neg h];have e:n.toNat=n.natAbs:=by omega
    rw [e];rw [if_neg];intro hh;cases hd:Lib.decDigits n.natAbs with
    | nil=>exact decDigits_ne _ hd
    | cons c r =>
      rw [hd] at hh;simp at hh;subst hh;have:=decDigits_dig n.natAbs 45 (by rw [hd];simp);simp [isDig] at this
theorem unsign_len (n:Int):((unsign (Lib.itoa n)).length<(Lib.itoa n).length)↔n<0:=by
  rw [unsign_itoa];unfold Lib.itoa;by_cases h:n<0
  · rw [if_pos h];simp [h]
  · rw [if_neg h];have e:n.toNat=n.natAbs:=by omega
    rw [e];simp;omega
theorem numM_decB {n:Int} (h:(Lib.decDigits n.natAbs).length≤18):numM (decB n)=some n:=by
  unfold numM;rw [toList_decB,unsign_itoa];have h1:1≤(Lib.decDigits n.natAbs).length:=List.length_pos_iff.2 (decDigits_ne _);rw [if_neg (by omega),dval_decDigits];have hl:=unsign_len n;rw [unsign_itoa] at hl;show (if decB (if (Lib.decDigits n.natAbs).length<(Lib.itoa n).length then -(n.natAbs:Int) else n.natAbs)=decB n then some (if (Lib.decDigits n.natAbs).length<(Lib.itoa n).length then -(n.natAbs:Int) else n.natAbs) else none)=some n;have e:(if (Lib.decDigits n.natAbs).length<(Lib.itoa n).length then -(n.natAbs:Int) else n.natAbs)=n:=by
    by_cases hn:n<0
    · rw [if_pos (hl.2 hn)];omega
    · rw [if_neg (fun h=>hn (hl.1 h))];omega
  rw [e,if_pos rfl]
theorem numM_some {s:ByteArray} {n:Int} (h:numM s=some n):s=decB n∧(Lib.decDigits n.natAbs).length≤18∧-1000000000000000000<n∧n<1000000000000000000:=by
  unfold numM at h;split at h
  · cases h
  rename_i hl;split at h
  · cases h
  rename_i m hm;by_cases he:decB (if (unsign s.data.toList).length<s.data.toList.length then -(m:Int) else m)=s
  · rw [if_pos he] at h;simp only [Option.some.injEq] at h;rw [h] at he;have hlt:=dvalFrom_lt _ 0 m 0 (by decide) hm;have hb:m<1000000000000000000:=by
      refine Nat.lt_of_lt_of_le hlt ?_;rw [Nat.zero_add];exact Nat.pow_le_pow_right (by decide) (show (unsign s.data.toList).length≤18 by omega)
    refine ⟨he.symm,?_,?_,?_⟩
    · rw [← unsign_itoa,← toList_decB,he];omega
    · rw [← h];split<;>omega
    · rw [← h];split<;>omega
  · rw [if_neg he] at h;cases h
theorem numM_parse (s:ByteArray):numM s=match Lib.parseIntB 64 s.data.toList with
    | .ok n=>if decB n=s∧(unsign s.data.toList).length≤18 then some n else none
    | _=>none:=by
  cases hn:numM s with
  | some n =>
    obtain ⟨rfl,hd,h1,h2⟩:=numM_some hn;have hp:Lib.parseIntB 64 (decB n).data.toList = .ok n:=by
      rw [Lib.parseIntB_64,toList_decB];have hv:=parse_of_dval _ 0 _ (dval_decDigits n.natAbs) (by omega);have hne:=decDigits_ne n.natAbs;have hmag:Lib.parseMag (Lib.decDigits n.natAbs) = .ok n.natAbs:=by
        unfold Lib.parseMag;rw [if_neg hne];exact hv
      by_cases hneg:n<0
      · have e:Lib.itoa n=45 :: Lib.decDigits n.natAbs:=by unfold Lib.itoa;rw [if_pos hneg]
        rw [e];unfold Lib.atoiAll;simp only;rw [if_pos (by right;decide),hmag];simp only;rw [if_neg (by simp),if_neg (by omega)];simp;omega
      · have e:Lib.itoa n=Lib.decDigits n.natAbs:=by unfold Lib.itoa;rw [if_neg hneg];congr 1;omega
        rw [e];cases hdd:Lib.decDigits n.natAbs with
        | nil=>exact absurd hdd hne
        | cons c r =>
          have hc:=decDigits_dig n.natAbs c (by rw [hdd];simp);simp only [isDig,Bool.and_eq_true,decide_eq_true_eq] at hc;unfold Lib.atoiAll;simp only;rw [if_neg (by omega),← hdd,hmag];simp only;rw [if_neg (by omega),if_neg (by omega),if_neg (by omega)];simp;omega
    rw [hp];simp only;rw [toList_decB,unsign_itoa,if_pos ⟨trivial,hd⟩]
  | none =>
    split
    · rename_i n hp;split
      · rename_i hc;obtain ⟨rfl,hl⟩:=hc;rw [toList_decB,unsign_itoa] at hl;rw [numM_decB hl] at hn;cases hn
      · rfl
    · rfl
def splitA (c:UInt8):List UInt8→List UInt8→List (List UInt8)
  | acc,[]=>[acc]
  | acc,b :: l=>if b=c then acc :: splitA c [] l else splitA c (acc++[b]) l
def splitM (c:UInt8) (l:List UInt8):List (List UInt8):=splitA c [] l
def splitS (c:UInt8) (s:ByteArray):List ByteArray:=(splitM c s.data.toList).map bs
theorem splitA_hit (c:UInt8) (l:List UInt8):∀ (p acc:List UInt8),c∉p→splitA c acc (p++c :: l)=(acc++p) :: splitM c l
  | [],acc,_=>by simp [splitA,splitM]
  | b :: p,acc,h=>by
    have hb:b≠c:=fun e=>h (by simp [e]);simp only [List.cons_append,splitA,if_neg hb];rw [splitA_hit c l p (acc++[b]) (fun hh=>h (by simp [hh]))];simp
theorem splitA_miss (c:UInt8):∀ (p acc:List UInt8),c∉p→splitA c acc p=[acc++p]
  | [],acc,_=>by simp [splitA]
  | b :: p,acc,h=>by
    have hb:b≠c:=fun e=>h (by simp [e]);simp only [splitA,if_neg hb];rw [splitA_miss c p (acc++[b]) (fun hh=>h (by simp [hh]))];simp
theorem byte_split {c:UInt8}:∀ {l:List UInt8},c∈l→∃ p r,l=p++c :: r∧c∉p
  | [],h=>by cases h
  | b :: l,h=>by
    by_cases hb:b=c
    · exact ⟨[],l,by simp [hb],by simp⟩
    · obtain ⟨p,r,rfl,hp⟩:=byte_split (l:=l) (by simpa [Ne.symm hb] using h);exact ⟨b :: p,r,rfl,by simp [Ne.symm hb,hp]⟩
theorem splitM_ne (c:UInt8) (l:List UInt8):splitM c l≠[]:=by
  by_cases h:c∈l
  · obtain ⟨p,r,rfl,hp⟩:=byte_split h;unfold splitM;rw [splitA_hit c r p [] hp];simp
  · unfold splitM;rw [splitA_miss c l [] h];simp
theorem indexByte_at (c:UInt8) (r:List UInt8):∀ (p:List UInt8),c∉p→Lib.indexByte (p++c :: r) c=p.length
  | [],_=>by simp [Lib.indexByte]
  | b :: p,h=>by
    have hb:b≠c:=fun e=>h (by simp [e]);have ih:=indexByte_at c r p (fun hh=>h (by simp [hh]));simp only [List.cons_append,Lib.indexByte,beq_iff_eq,if_neg hb,ih];rw [if_neg (by omega)];simp
theorem indexByte_no (c:UInt8):∀ (p:List UInt8),c∉p→Lib.indexByte p c = -1
  | [],_=>rfl
  | b :: p,h=>by
    have hb:b≠c:=fun e=>h (by simp [e]);simp only [Lib.indexByte,beq_iff_eq,if_neg hb,indexByte_no c p (fun hh=>h (by simp [hh])),if_true]
theorem splitK_eq (c:UInt8):∀ (k:Nat) (l:List UInt8),l.count c=k→Lib.splitK [c] 0 k l=splitM c l
  | 0,l,h=>by
    have hn:c∉l:=List.count_eq_zero.1 h;unfold splitM;rw [splitA_miss c l [] hn];rfl
  | k+1,l,h=>by
    have hm:c∈l:=List.count_pos_iff.1 (by omega);obtain ⟨p,r,rfl,hp⟩:=byte_split hm;have hi:Lib.index (p++c :: r) [c]=p.length:=by rw [Lib.index_one,indexByte_at c r p hp]
    have hc:r.count c=k:=by
      rw [List.count_append,List.count_cons_self,List.count_eq_zero.2 hp] at h;omega
    unfold Lib.splitK;rw [hi,if_neg (by simp)];unfold splitM;rw [splitA_hit c r p [] hp];congr 1
    · simp
    · rw [← splitK_eq c k r hc];congr 1;simp
theorem bytes_ext {a b:ByteArray} (h:a.data.toList=b.data.toList):a=b:=by
  obtain ⟨⟨x⟩⟩:=a;obtain ⟨⟨y⟩⟩:=b;simp at h;rw [h]
theorem splitB_eq (c:UInt8) (s:ByteArray):Lib.splitB ⟨#[c]⟩ 0 (Lib.countB s ⟨#[c]⟩) s=splitS c s:=by
  have h1:=Lib.splitB_data ⟨#[c]⟩ 0 (Lib.countB s ⟨#[c]⟩) s;have h2:(Lib.countB s ⟨#[c]⟩)=s.data.toList.count c:=Lib.count_one c _;rw [show (ByteArray.mk #[c]).data.toList=[c] from rfl,splitK_eq c _ _ h2.symm] at h1;unfold splitS;rw [← h1,List.map_map];have:(bs∘fun x:ByteArray=>x.data.toList)=id:=by
    funext x;exact bytes_ext (bs_data _)
  rw [this,List.map_id]
theorem splitS_len (c:UInt8) (s:ByteArray):(splitS c s).length=Lib.countB s ⟨#[c]⟩+1:=by
  rw [← splitB_eq];exact Lib.splitB_all ⟨#[c]⟩ (by show 1≤1;omega) 0 _ s rfl
def digsD (u:Nat):List UInt8:=if u=0 then [] else Lib.decDigits u
theorem digsD_step {u:Nat} (h:u≠0):digsD u=digsD (u / 10)++[UInt8.ofNat (48+u % 10)]:=by
  unfold digsD;rw [if_neg h,Lib.decDigits];by_cases h1:u<10
  · rw [dif_pos h1,if_pos (by omega)];have:u % 10=u:=by omega
    rw [this];rfl
  · rw [dif_neg h1,if_neg (by omega)]
theorem digsD_len (u k:Nat) (h:u<10 ^ k):(digsD u).length≤k:=by
  induction k generalizing u with
  | zero => have : u = 0 := by simpa using h
            subst this;simp [digsD]
  | succ k ih =>
    by_cases h0:u=0
    · subst h0;simp [digsD]
    · rw [digsD_step h0];have:=ih (u / 10) (by rw [Nat.pow_succ] at h;omega);simp;omega
theorem tdiv_natAbs (k:Int):(k.tdiv 10).natAbs=k.natAbs / 10:=by
  rw [Int.natAbs_tdiv];rfl
theorem tmod_natAbs (k:Int):(k.tmod 10).natAbs=k.natAbs % 10:=by
  rw [Int.natAbs_tmod];rfl
theorem digs_digsD (u:Nat):∀ out:List UInt8,digs u out=digsD u++out:=by
  induction u using Nat.strongRecOn with
  | _ u ih =>
    intro out;by_cases h:u=0
    · subst h;rfl
    · rw [digs_step (by omega),ih (u / 10) (by omega),digsD_step h];simp
theorem itoa_digs (n:Int):Lib.itoa n=if n=0 then [48] else if n<0 then 45 :: digs n.natAbs [] else digs n.natAbs []:=by
  unfold Lib.itoa;by_cases h0:n=0
  · subst h0;rw [if_neg (by omega),if_pos rfl,Lib.decDigits,dif_pos (by decide)];rfl
  · have hd:digsD n.natAbs=Lib.decDigits n.natAbs:=by
      unfold digsD;exact if_neg (by omega)
    rw [if_neg h0,digs_digsD,hd,List.append_nil];by_cases h:n<0
    · rw [if_pos h,if_pos h]
    · rw [if_neg h,if_neg h];congr 1;omega
theorem decB_len {n:Int} (h0 : -9223372036854775808≤n) (h1:n≤9223372036854775807):(decB n).size≤21:=by
  show (bs _).size≤21;rw [bs_size];exact Lib.itoa_length_le n h0 h1
theorem splitA_le (c:UInt8):∀ (l acc:List UInt8),∀ p∈splitA c acc l,p.length≤acc.length+l.length
  | [],acc,p,h=>by simp [splitA] at h;subst h;simp
  | b :: l,acc,p,h=>by
    simp only [splitA] at h;split at h
    · rcases List.mem_cons.1 h with rfl | h
      · simp
      · have:=splitA_le c l [] p h;simp at this ⊢;omega
    · have:=splitA_le c l (acc++[b]) p h;simp at this ⊢;omega
theorem splitS_le {c:UInt8} {s x:ByteArray} (h:x∈splitS c s):x.size≤s.size:=by
  unfold splitS at h;obtain ⟨l,hl,rfl⟩:=List.mem_map.1 h;have:=splitA_le c _ _ l hl;rw [bs_size];simpa using this
theorem splitS_pos (c:UInt8) (s:ByteArray):1≤(splitS c s).length:=by
  unfold splitS;rw [List.length_map];exact List.length_pos_iff.2 (splitM_ne c _)
theorem splitA_len (c:UInt8):∀ (l acc:List UInt8),(splitA c acc l).length≤l.length+1
  | [],acc=>by simp [splitA]
  | b :: l,acc=>by
    simp only [splitA];split
    · have:=splitA_len c l [];simp;omega
    · have:=splitA_len c l (acc++[b]);simp;omega
theorem splitS_len_le (c:UInt8) (s:ByteArray):(splitS c s).length≤s.size+1:=by
  unfold splitS;rw [List.length_map];have:=splitA_len c s.data.toList [];unfold splitM;simpa using this
theorem bs_cat (l:List UInt8) (s:ByteArray):bs l++s=bs (l++s.data.toList):=by
  apply bytes_ext;simp [bs]
end Go.M
