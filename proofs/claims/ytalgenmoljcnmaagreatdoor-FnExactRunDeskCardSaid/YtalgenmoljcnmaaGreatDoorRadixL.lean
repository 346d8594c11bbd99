/- Parts of the proof; no conditions of its own. -/
import Derived.Test.YtalgenmoljcnmaaGreatDoorFew
import Derived.Test.YtalgenmoljcnmaaGreatDoorColl
import Derived.Test.YtalgenmoljcnmaaGreatDoorNum
import Derived.Test.YtalgenmoljcnmaaGreatDoorVcApp
import Derived.Test.YtalgenmoljcnmaaGreatDoorVcWrite
import Derived.Test.YtalgenmoljcnmaaGreatDoorLibSl
import Derived.Test.YtalgenmoljcnmaaGreatDoorKeyW
namespace Go.M
open Go Go.Vc
variable {g:Int->Int} {L P:List Int} {r:Int->Int->Prop} {x:Int} {d:List (List Int)} {f:AF}
def Kz (g:Int->Int) (L:List Int) (P:List Int):List Int:=L.flatMap fun k=>P.filter fun i=>decide (g i=k)
def H0 (d:List (List Int)) (c:Nat) (i:Int):Int:=(d.getD i.toNat []).getD c 0
theorem SD (d:List (List Int)) (p:Ag) (P:List Int):Gv (P.map fun i=>d.getD i.toNat []) p=(Kz (fun i=>Ci (H0 d p.col.toNat i) p.mode) (BF p.mode) P).map fun i=>d.getD i.toNat []:=by
 rw [O1];unfold Kz;rw [List.map_flatMap];congr 1;funext k;rw [List.filter_map];rfl
theorem SC (h:∀ i∈P,g i∈L) (i:Int):i∈Kz g L P↔i∈P:=by
 unfold Kz;rw [List.mem_flatMap];constructor
 .rintro ⟨c,_,b⟩;exact (List.mem_filter.1 b).1
 .intro a;exact ⟨g i,h i a,List.mem_filter.2 ⟨a,sI⟩⟩
theorem SE (hL:L.Pairwise fun a b=>L.idxOf a<L.idxOf b) (hP:P.Pairwise (DW r)) :
  (Kz g L P).Pairwise (DW fun i j=>L.idxOf (g i)<L.idxOf (g j)\/(L.idxOf (g i)=L.idxOf (g j)/\r i j)):=by
 unfold Kz;rw [List.pairwise_flatMap];refine ⟨fun m _=>?_,?_⟩
 .refine (hP.filter _).imp_of_mem ?_;intro a b c d e;have c:=of_decide_eq_true (List.mem_filter.1 c).2;have d:=of_decide_eq_true (List.mem_filter.1 d).2;rcases e with e | ⟨h,k⟩
  .exact .inl (.inr ⟨by rw [c,d],e⟩)
  .refine .inr ⟨?_,k⟩;rintro (f | ⟨_,f⟩)
   .rw [c,d] at f;omega
   .exact h f
 .refine hL.imp ?_;intro n o l a c b d;have c:=of_decide_eq_true (List.mem_filter.1 c).2;have d:=of_decide_eq_true (List.mem_filter.1 d).2;exact .inl (.inl (by rw [c,d];exact l))
theorem SL {s:Int->Int->Prop} (h:∀ i∈P,∀ j∈P,(r i j↔s i j)) (hP:P.Pairwise (DW r)):P.Pairwise (DW s):=by
 refine hP.imp_of_mem ?_;intro b c d e k;rcases k with a | ⟨a,f⟩
 .exact .inl ((h b d c e).1 a)
 .exact .inr ⟨fun g=>a ((h c e b d).2 g),f⟩
def YR (m:Int):Nat:=(BF 2).idxOf (Ci m 2)
def dpl (m:Int):Nat:=(BF 1).idxOf (Ci m 1)
theorem Qf:∀ a b:Fin 40,a.val<b.val↔(YR (Ec a.val)<YR (Ec b.val)\/(YR (Ec a.val)=YR (Ec b.val)/\dpl (Ec a.val)<dpl (Ec b.val))):=by decide +kernel
theorem Z2:∀ a:Fin 40,Ci (Ec a.val) 2∈BF 2/\Ci (Ec a.val) 1∈BF 1:=by decide +kernel
theorem OJ:(BF 2).Pairwise (fun a b=>(BF 2).idxOf a<(BF 2).idxOf b)/\(BF 1).Pairwise (fun a b=>(BF 1).idxOf a<(BF 1).idxOf b):=by decide +kernel
theorem M9 {m:Int} (h:0<=Bg m):∃ k:Fin 40,Bg m=(k.val:Int)/\m=Ec k.val:=by
 unfold Bg at h ⊢;cases a:(List.range 40).find? (fun (k:Nat)=>decide (Ec k=m)) with
 | none=>rw [a] at h;simp at h
 | some k =>
  have b:=List.find?_some a;have c:=List.mem_of_find?_eq_some a;simp only [decide_eq_true_eq] at b;rw [List.mem_range] at c;exact ⟨⟨k,c⟩,rfl,b.symm⟩
theorem WL {y:Int} (hx:0<=Bg x) (hy:0<=Bg y):(Bg x<Bg y↔(YR x<YR y\/(YR x=YR y/\dpl x<dpl y)))/\(Bg x=Bg y↔(YR x=YR y/\dpl x=dpl y)):=by
 obtain ⟨a,c,rfl⟩:=M9 hx;obtain ⟨b,d,rfl⟩:=M9 hy;have e:=Qf a b;have f:=Qf b a;rw [c,d];omega
theorem Zj (hx:0<=Bg x):Ci x 2∈BF 2/\Ci x 1∈BF 1:=by
 obtain ⟨a,b,rfl⟩:=M9 hx;exact Z2 a
structure ZU (d:List (List Int)) (f:AF) (k:Nat) (Q:List Int):Prop where
 run:Ch d ((List.range k).flatMap fun (i:Nat)=>([⟨f.to_ - 1 - i,1⟩,⟨f.to_ - 1 - i,2⟩]:List Ag))=Q.map fun i=>d.getD i.toNat []
 mem:∀ i,i∈Q↔i∈E6 d.length
 lex:Q.Pairwise (DW fun i j=>CT ((AS f (d.getD i.toNat [])).drop (CF f - k)) ((AS f (d.getD j.toNat [])).drop (CF f - k))<0)
theorem WM (hd:Ax d=true) (hf:AR f (AJ d)=true) (hh:Da d f=true) {k:Nat} {Q:List Int} (h:ZU d f k Q) (hk:k<CF f) :
  ∃ Q',ZU d f (k+1) Q':=by
 have aw:=BV hf;have ay:(CF f:Int)=f.to_ - f.from_:=by unfold CF;omega
 have t:∀ a∈Q,∃ c,0<=Bg c/\H0 d (f.to_ - 1 - k).toNat a=c/\(AS f (d.getD a.toNat [])).drop (CF f - (k+1))=Bg c :: (AS f (d.getD a.toNat [])).drop (CF f - k):=by
  intro a e;obtain ⟨n,v,rfl⟩:=GD.1 ((h.mem a).1 e);obtain ⟨j,z⟩:=AA v;have u:=List.mem_of_getElem? z;have ax:=(Ah hd).2 j u;have aa:d.getD ((n:Nat):Int).toNat []=j:=by rw [Int.toNat_natCast];exact Ae z
  rw [aa];have am:=Me hd hf u;have ag:Dd (AZ j f)=true:=by
   have:=hh;unfold Da at this;exact List.all_eq_true.1 this j u
  have az:(AZ j f).length=CF f:=by have:=am;unfold AS at this;rwa [Fz] at this
  obtain ⟨c,b⟩:=AA (l:=AZ j f) (k:=CF f - (k+1)) om;have i:=VT ag b;refine ⟨c,i,?_,?_⟩
  .unfold H0;rw [aa];unfold AZ at b;rw [List.getElem?_take,List.getElem?_drop] at b;split at b
   .have s:f.from_.toNat+(CF f - (k+1))=(f.to_ - 1 - k).toNat:=om
    rw [s] at b;exact Ae b
   .cases b
  .have ao:(AS f j)[CF f - (k+1)]? = some (Bg c):=M8 b;have:=FW ao;rw [this];congr 2;omega
 have ab:∀ a∈Q,Ci (H0 d (f.to_ - 1 - k).toNat a) 2∈BF 2/\Ci (H0 d (f.to_ - 1 - k).toNat a) 1∈BF 1:=fun a e=>by
  obtain ⟨c,i,b,_⟩:=t a e;rw [b];exact Zj i
 have o:∀ a,a∈Kz (fun a=>Ci (H0 d (f.to_ - 1 - k).toNat a) 1) (BF 1) Q↔a∈Q:=SC fun a e=>(ab a e).2;have w:∀ a,a∈Kz (fun a=>Ci (H0 d (f.to_ - 1 - k).toNat a) 2) (BF 2) (Kz (fun a=>Ci (H0 d (f.to_ - 1 - k).toNat a) 1) (BF 1) Q)↔a∈Kz (fun a=>Ci (H0 d (f.to_ - 1 - k).toNat a) 1) (BF 1) Q:=SC fun a e=>(ab a ((o a).1 e)).1;have aq:=SE (g:=fun a=>Ci (H0 d (f.to_ - 1 - k).toNat a) 1) OJ.2 h.lex;have ar:=SE (g:=fun a=>Ci (H0 d (f.to_ - 1 - k).toNat a) 2) OJ.1 aq;refine ⟨_,?_,fun a=>(w a).trans ((o a).trans (h.mem a)),SL (fun a e n v=>?_) ar⟩
 .rw [SQ];have s:∀ (r:List Ag) (x y:Ag),Ch d (r++[x,y])=Gv (Gv (Ch d r) x) y:=fun r x y=>by unfold Ch;rw [List.foldl_append];rfl
  rw [s,h.run,SD,SD]
 .obtain ⟨c,b,ah,aj⟩:=t a ((o a).1 ((w a).1 e));obtain ⟨q,ap,ai,ak⟩:=t n ((o n).1 ((w n).1 v));have i:=WL b ap;rw [aj,ak,F5];simp only [ah,ai];unfold YR dpl at i;generalize (BF 2).idxOf (Ci c 2)=au at *;generalize (BF 2).idxOf (Ci q 2)=av at *;generalize (BF 1).idxOf (Ci c 1)=ae at *;generalize (BF 1).idxOf (Ci q 1)=af at *;by_cases p:Bg c<Bg q
  .rw [if_pos p];have:=i.1.1 p;simp only [show (-1:Int)<0 from by decide,iff_true];rcases this with h | ⟨h,m⟩
   .exact .inl h
   .exact .inr ⟨h,.inl m⟩
  .rw [if_neg p];have ac:=fun h=>p (i.1.2 h);by_cases ad:Bg q<Bg c
   .rw [if_pos ad];have an:¬ (au=av/\ae=af):=fun h=>by have:=i.2.2 h;omega
    simp only [show ¬ (1:Int)<0 from by decide,iff_false];rintro (h | ⟨h,m | ⟨m,_⟩⟩)
    .exact ac (.inl h)
    .exact ac (.inr ⟨h,m⟩)
    .exact an ⟨h,m⟩
   .rw [if_neg ad];have al:=i.2.1 om;obtain ⟨rfl,rfl⟩:=al;simp
theorem R8 (hd:Ax d=true) (hf:AR f (AJ d)=true) (hh:Da d f=true):∀ k,k<=CF f->∃ Q,ZU d f k Q
 | 0,_=>⟨E6 d.length,(Pq d []).symm,fun _=>Iff.rfl,by
   refine (Mz d.length).imp_of_mem ?_;intro a b ha hb hab;refine .inr ⟨?_,hab⟩;have h0:∀ i∈E6 d.length,(AS f (d.getD i.toNat [])).drop (CF f - 0)=[]:=fun i hi=>by
    obtain ⟨j,hj,rfl⟩:=GD.1 hi;obtain ⟨c,hc⟩:=AA hj;rw [Int.toNat_natCast,Ae hc];apply List.drop_eq_nil_of_le;rw [Me hd hf (List.mem_of_getElem? hc)];omega
   show ¬ CT _ _<0;rw [h0 a ha,h0 b hb];simp [CT]⟩
 | k+1,hk=>by
  obtain ⟨Q,hQ⟩:=R8 hd hf hh k om;exact WM hd hf hh hQ om
theorem We (hd:Ax d=true) (hf:AR f (AJ d)=true) (hh:Da d f=true):Ch d (Bt f)=KR d f:=by
 obtain ⟨b,c⟩:=R8 hd hf hh (CF f) (Nat.le_refl _);have q:∀ m∈d.map (AS f),m.length=CF f:=fun m r=>by
  obtain ⟨n,e,rfl⟩:=List.mem_map.1 r;exact Me hd hf e
 have k:=Ju q;have j:b.Pairwise (DW (Jv (d.map (AS f)) (CF f))):=by
  refine SL (fun a g l h=>?_) c.lex;have i:∀ a∈b,MG (d.map (AS f)) (CF f) a=(AS f (d.getD a.toNat [])).drop (CF f - CF f):=fun a g=>by
   obtain ⟨l,h,rfl⟩:=GD.1 ((c.mem a).1 g);obtain ⟨n,e⟩:=AA h;unfold MG;rw [Int.toNat_natCast,Ae e,Nat.sub_self,List.drop_zero];exact Ae (by rw [List.getElem?_map,e];rfl)
  unfold Jv;rw [i a g,i l h]
 have s:b.Nodup:=j.imp fun {u v} p o=>by
  subst o;exact k.lexIrr _ p
 have t:b.Perm (E6 (d.map (AS f)).length):=(List.perm_ext_iff_of_nodup s (Ix _)).2 (by rw [List.length_map];exact c.mem);have:=k.is (Ix _) t j;unfold KR Dj;rw [<- this];exact c.run
end Go.M
namespace Go.M
open Go Go.Vc
variable {N:Nat} {ok:List Nat->Bool} {a b:List Nat} {d:List (List Int)} {f:AF}
def D9 (ok:List Nat->Bool) (N:Nat):Nat->Nat->List Nat->Option (List Nat)
 | 0,_,part=>if ok part=true then some part else none
 | more+1,lo,part=>(List.range' lo (N - more - lo)).findSome? fun i=>D9 ok N more (i+1) (part++[i])
structure Ov (N lo:Nat) (t:List Nat):Prop where
 rise:t.Pairwise (· < ·)
 lo:∀ x∈t,lo<=x/\x<N
theorem Pk:∀ {lo:Nat} {t:List Nat},Ov N lo t->lo<=N->t.length+lo<=N
 | lo,[],_,h0=>by simpa using h0
 | lo,x :: t,h,_=>by
  have hx:=h.lo x sI;have c:Ov N (x+1) t:=⟨(List.pairwise_cons.1 h.rise).2,fun b a=>⟨(List.pairwise_cons.1 h.rise).1 b a,(h.lo b (List.mem_cons_of_mem _ a)).2⟩⟩;have:=Pk c om;simp only [List.length_cons];omega
theorem Sk:∀ a:List Nat,E5 a a=0
 | []=>rfl
 | x :: a=>by simp [E5,Sk a]
theorem Sj:∀ {a b:List Nat},E5 a b<=0->E5 b a<=0->a=b
 | [],[],_,_=>rfl
 | [],_ :: _,_,h=>by simp [E5] at h
 | _ :: _,[],h,_=>by simp [E5] at h
 | x :: a,y :: b,h1,h2=>by
  unfold E5 at h1 h2;rcases Nat.lt_trichotomy x y with h | h | h
  .rw [if_neg om,if_pos h] at h2;omega
  .subst h;rw [if_neg om,if_neg om] at h1 h2;rw [Sj h1 h2]
  .rw [if_neg om,if_pos h] at h1;omega
theorem JL:∀ {more lo:Nat} {part:List Nat},D9 ok N more lo part=none->∀ t,Ov N lo t->t.length=more->ok (part++t)=false
 | 0,lo,part,h,t,_,hl=>by
  obtain rfl:=List.eq_nil_of_length_eq_zero hl;unfold D9 at h;split at h
  .cases h
  .rename_i g;simpa using g
 | more+1,lo,part,h,t,ht,hl=>by
  cases t with
  | nil=>simp at hl
  | cons a t =>
   have i:=ht.lo a sI;have b:Ov N (a+1) t:=⟨(List.pairwise_cons.1 ht.rise).2,fun d c=>⟨(List.pairwise_cons.1 ht.rise).1 d c,(ht.lo d (List.mem_cons_of_mem _ c)).2⟩⟩;have f:t.length=more:=by simpa using hl
   have:=Pk b om;unfold D9 at h;rw [List.findSome?_eq_none_iff] at h;have e:=h a (by rw [List.mem_range'_1];omega);have:=JL e t b f;rwa [List.append_assoc] at this
theorem QS:∀ {more lo:Nat} {part q:List Nat},D9 ok N more lo part=some q ->
  ok q=true/\∃ t,q=part++t/\Ov N lo t/\t.length=more/\∀ t',Ov N lo t'->t'.length=more->ok (part++t')=true->E5 t t'<=0
 | 0,lo,part,q,h=>by
  unfold D9 at h;split at h
  .rename_i hq;cases h
   refine ⟨hq,[],sI,⟨sI,sI⟩,rfl,fun t' _ hl _=>?_⟩;rw [List.eq_nil_of_length_eq_zero hl];simp [E5]
  .cases h
 | more+1,lo,part,q,h=>by
  unfold D9 at h;rw [List.findSome?_eq_some_iff] at h;obtain ⟨l1,i,l2,hr,hi,hn⟩:=h;obtain ⟨hq,t,rfl,j,hl,p⟩:=QS hi;have s:lo<=i/\i<N - more:=by
   have:i∈List.range' lo (N - more - lo):=by rw [hr];simp
   rw [List.mem_range'_1] at this;omega
  refine ⟨hq,i :: t,sI,⟨List.pairwise_cons.2 ⟨fun g f=>(j.lo g f).1,j.rise⟩,fun a e=>?_⟩,by simp [hl],fun t' d l c=>?_⟩
  .rcases List.mem_cons.1 e with rfl | e
   .omega
   .have:=j.lo a e;omega
  .cases t' with
   | nil=>simp at l
   | cons a t' =>
    have e:=d.lo a sI;have k:Ov N (a+1) t':=⟨(List.pairwise_cons.1 d.rise).2,fun g f=>⟨(List.pairwise_cons.1 d.rise).1 g f,(d.lo g (List.mem_cons_of_mem _ f)).2⟩⟩;have m:t'.length=more:=by simpa using l
    have u:=Pk k om;have o:a∈List.range' lo (N - more - lo):=by rw [List.mem_range'_1];omega
    rw [List.append_cons] at c;unfold E5;rcases Nat.lt_trichotomy i a with h | h | h
    .rw [if_pos h];decide
    .subst h;rw [if_neg om,if_neg om];exact p t' k m c
    .exfalso;have r:a∈l1:=by
      have n:(List.range' lo (N - more - lo)).Pairwise (· < ·):=List.pairwise_lt_range';rw [hr] at o n;rcases List.mem_append.1 o with b | b
      .exact b
      .rcases List.mem_cons.1 b with b | b
       .omega
       .have:=(List.pairwise_cons.1 (List.pairwise_append.1 n).2.1).1 a b;omega
     have:=JL (hn a r) t' k m;rw [this] at c;cases c
theorem Yr (N s:Nat):Ov N 0 (DB N s):=by
 refine ⟨?_,fun b a=>⟨Nat.zero_le _,O2 a⟩⟩;unfold DB;exact List.pairwise_lt_range.filter _
theorem Zn {a b:Nat} (h:∀ i,i<N->a.testBit i=b.testBit i):DB N a=DB N b:=by
 unfold DB;apply List.filter_congr;intro i c;exact h i (List.mem_range.1 c)
theorem Pj:∀ {N:Nat} {t:List Nat},Ov N 0 t->∃ s,s<2 ^ N/\DB N s=t
 | 0,t,h=>by
  refine ⟨0,dE,?_⟩;cases t with
  | nil=>rfl
  | cons a t=>have:=h.lo a sI;omega
 | N+1,t,h=>by
  by_cases g:N∈t
  .obtain ⟨j,c,rfl⟩:=List.append_of_mem g;have e:=h.rise;have l:c=[]:=by
    cases c with
    | nil=>rfl
    | cons i c =>
     have o:=(List.pairwise_cons.1 (List.pairwise_append.1 e).2.1).1 i sI;have p:=(h.lo i sI).2;omega
   subst l;have d:Ov N 0 j:=⟨(List.pairwise_append.1 e).1,fun a b=>⟨Nat.zero_le _,(List.pairwise_append.1 e).2.2 a b N sI⟩⟩;obtain ⟨s,f,rfl⟩:=Pj d;refine ⟨2 ^ N+s,by rw [Nat.pow_succ];omega,?_⟩;rw [Ig];have m:(2 ^ N+s).testBit N=true:=by
    rw [Nat.testBit_two_pow_add_eq,Nat.testBit_lt_two_pow f];rfl
   rw [if_pos m,Zn fun q n=>Nat.testBit_two_pow_add_gt n s]
  .have d:Ov N 0 t:=⟨h.rise,fun a b=>⟨Nat.zero_le _,by
    have:=(h.lo a b).2;have:a≠N:=fun k=>g (k▸b);omega⟩⟩
   obtain ⟨s,f,rfl⟩:=Pj d;refine ⟨s,by rw [Nat.pow_succ];omega,?_⟩;rw [Ig,if_neg (by simp [Nat.testBit_lt_two_pow f])]
def Y1 (a b:List Nat):Prop:=a.length<b.length\/(a.length=b.length/\E5 a b<=0)
theorem aC5 (h1:Y1 a b) (h2:Y1 b a):a=b:=by
 unfold Y1 at h1 h2;exact Sj om om
theorem XN:∀ {a b c:List Nat},E5 a b<=0->E5 b c<=0->E5 a c<=0
 | [],_,[],_,_=>by simp [E5]
 | [],_,_ :: _,_,_=>by simp [E5]
 | _ :: _,[],_,h,_=>by simp [E5] at h
 | _ :: _,_ :: _,[],_,h=>by simp [E5] at h
 | x :: a,y :: b,z :: c,h1,h2=>by
  unfold E5 at h1 h2 ⊢;by_cases q1:x<y
  .by_cases q2:z<y
   .rw [if_neg om,if_pos q2] at h2;omega
   .rw [if_pos om];decide
  .rw [if_neg q1] at h1;by_cases q3:y<x
   .rw [if_pos q3] at h1;omega
   rw [if_neg q3] at h1;have:x=y:=om
   subst this;by_cases d:x<z
   .rw [if_pos d];decide
   .rw [if_neg d] at h2 ⊢;by_cases e:z<x
    .rw [if_pos e] at h2;omega
    .rw [if_neg e] at h2 ⊢;exact XN h1 h2
theorem Sl:∀ a b:List Nat,E5 a b = - E5 b a
 | [],[]=>rfl
 | [],_ :: _=>rfl
 | _ :: _,[]=>rfl
 | x :: a,y :: b=>by
  unfold E5;rcases Nat.lt_trichotomy x y with h | h | h
  .rw [if_pos h,if_neg om,if_pos h]
  .subst h;simp only [Nat.lt_irrefl,if_false];exact Sl a b
  .rw [if_neg om,if_pos h,if_pos h];rfl
theorem aC4 {c:List Nat} (h1:Y1 a b) (h2:Y1 b c):Y1 a c:=by
 unfold Y1 at *;rcases h1 with h1 | ⟨h1,d⟩
 .left;omega
 .rcases h2 with h2 | ⟨h2,e⟩
  .left;omega
  .exact .inr ⟨om,XN d e⟩
structure aD6 (ok:List Nat->Prop) (N k:Nat) (st:List Nat×Bool):Prop where
 yes:st.2=true->ok st.1/\(∃ s,st.1=DB N s)/\∀ s,s<k->ok (DB N s)->Y1 st.1 (DB N s)
 no:st.2=false->∀ s,s<k->¬ ok (DB N s)
theorem XR (d due:List (List Int)) (full:List Ag):∀ k,aD6 (fun own=>Ch d (Bp full own)=due) full.length k ((List.range k).foldl (Co d due full) ([],false))
 | 0=>⟨fun h=>by simp at h,fun _ s hs=>by omega⟩
 | k+1=>by
  have ih:=XR d due full k;rw [Kd];generalize (List.range k).foldl (Co d due full) ([],false)=f at *;unfold Co;split
  .rename_i i;refine ⟨fun a=>?_,fun a=>?_⟩
   .obtain ⟨g,m,e⟩:=ih.yes a;refine ⟨g,m,fun s hs b=>?_⟩;rcases Nat.lt_or_ge s k with h | h
    .exact e s h b
    .obtain rfl:s=k:=om
     exact .inl i.2
   .rw [i.1] at a;cases a
  .rename_i i;split
   .rename_i a;refine ⟨fun c=>?_,fun c=>?_⟩
    .obtain ⟨g,m,e⟩:=ih.yes c;refine ⟨g,m,fun s hs b=>?_⟩;rcases Nat.lt_or_ge s k with h | h
     .exact e s h b
     .obtain rfl:s=k:=om
      rcases a with ⟨_,j,n⟩ | a
      .refine .inr ⟨j.symm,?_⟩;have:=Sl f.1 (DB full.length s);omega
      .exact absurd b a
    .intro s hs b;rcases Nat.lt_or_ge s k with h | h
     .exact ih.no c s h b
     .obtain rfl:s=k:=om
      rcases a with ⟨j,_⟩ | a
      .rw [c] at j;cases j
      .exact a b
   .rename_i a;have b:Ch d (Bp full (DB full.length k))=due:=Classical.not_not.1 fun h=>a (.inr h);refine ⟨fun _=>⟨b,⟨k,rfl⟩,fun s hs o=>?_⟩,fun c=>by simp at c⟩;rcases Nat.lt_or_ge s k with h | h
    .cases l:f.2
     .exact absurd o (ih.no l s h)
     .obtain ⟨g,_,e⟩:=ih.yes l;refine aC4 ?_ (e s h o);show Y1 (DB full.length k) f.1;have q:¬ f.1.length<(DB full.length k).length:=fun h=>i ⟨l,h⟩;rcases Nat.lt_or_ge (DB full.length k).length f.1.length with n | n
      .exact .inl n
      .refine .inr ⟨om,Classical.byContradiction fun p=>a (.inl ⟨l,om,om⟩)⟩
    .obtain rfl:s=k:=om
     exact .inr ⟨rfl,by rw [Sk];decide⟩
theorem X4 {n:Nat} {q:List Nat} (hq:D9 (fun own=>decide (Ch d (Bp (Bt f) own)=KR d f)) (Bt f).length n 0 []=some q)
  (hn:∀ m,m<n->D9 (fun own=>decide (Ch d (Bp (Bt f) own)=KR d f)) (Bt f).length m 0 []=none):(Mi d f (2 ^ (Bt f).length)).1=q:=by
 have i:=XR d (KR d f) (Bt f) (2 ^ (Bt f).length);unfold Mi;generalize (List.range (2 ^ (Bt f).length)).foldl (Co d (KR d f) (Bt f)) ([],false)=a at *;obtain ⟨c,y,k,v,w,j⟩:=QS hq;simp only [List.nil_append] at k;subst k;simp only [decide_eq_true_eq,List.nil_append] at c j;obtain ⟨r,o,b⟩:=Pj v;cases p:a.2
 .exact absurd (by rw [b];exact c) (i.no p r o)
 .obtain ⟨e,⟨x,s⟩,t⟩:=i.yes p;have h:Y1 a.1 q:=by
   have:=t r o (by rw [b];exact c);rwa [b] at this
  have l:Ov (Bt f).length 0 a.1:=by rw [s];exact Yr _ _
  refine aC5 h ?_;rcases Nat.lt_or_ge a.1.length n with g | g
  .have:=JL (hn _ g) a.1 l rfl;simp only [List.nil_append,decide_eq_false_iff_not] at this;exact absurd e this
  .have u:a.1.length=n:=by
    unfold Y1 at h;omega
   exact .inr ⟨om,j a.1 l u e⟩
theorem Yn (l:List Ag):Bp l (List.range l.length)=l:=by
 unfold Bp;apply List.ext_getElem?;intro b;by_cases a:b<l.length
 .rw [List.getElem?_map,List.getElem?_range a,Option.map_some,List.getD_eq_getElem?_getD,List.getElem?_eq_getElem a];rfl
 .rw [List.getElem?_eq_none (by simpa using a),List.getElem?_eq_none om]
theorem X3 (hd:Ax d=true) (hf:AR f (AJ d)=true) (hh:Da d f=true) :
  D9 (fun own=>decide (Ch d (Bp (Bt f) own)=KR d f)) (Bt f).length (Bt f).length 0 []≠none:=by
 intro a;have:=JL a (List.range (Bt f).length) ⟨List.pairwise_lt_range,fun c b=>⟨Nat.zero_le _,List.mem_range.1 b⟩⟩ sI;rw [List.nil_append,Yn,We hd hf hh] at this;simp at this
end Go.M
namespace Go.M
open Go Go.Vc
structure YQ (K:List (List Int)) (L i:Nat) (P:List Int):Prop where
 perm:P.Perm (E6 i)
 ord:P.Pairwise (DW (Jv K L))
theorem YQ.nil (K:List (List Int)) (L:Nat):YQ K L 0 []:=⟨List.Perm.refl _,List.Pairwise.nil⟩
theorem YQ.at {K:List (List Int)} {L i j:Nat} {P:List Int} {z:Int} (h:YQ K L i P) (hz:P[j]? = some z):∃ k:Nat,z=k/\k<i:=by
 obtain ⟨k,b,a⟩:=GD.1 (h.perm.subset (List.mem_of_getElem? hz));exact ⟨k,a,b⟩
theorem YQ.done {K:List (List Int)} {L:Nat} {P:List Int} (hL:∀ k∈K,k.length=L) (h:YQ K L K.length P):P=Dj K L:=(Ju hL).is (Ix _) h.perm h.ord
theorem Gx {K:List (List Int)} {L k:Nat} {x:List Int} (h:K[k]? = some x):MG K L (k:Int)=x:=by
 unfold MG;rw [Int.toNat_natCast];exact Ae h
theorem YQ.ins {K:List (List Int)} {L i j:Nat} {P:List Int} (hL:∀ k∈K,k.length=L) (h:YQ K L i P) (hj:j<=P.length) {x:List Int} (hx:K[i]? = some x)
  (h2:∀ p z y,j<=p->P[p]? = some z->K[z.toNat]? = some y->CT x y<0) (h1:j=0\/∃ z y,P[j - 1]? = some z/\K[z.toNat]? = some y/\¬ CT x y<0):YQ K L (i+1) (P.take j++[(i:Int)]++P.drop j):=by
 have e:=Ju (L:=L) hL;have m:=(List.getElem?_eq_some_iff.1 hx).1;refine ⟨?_,?_⟩
 .rw [HR];have d:(P.take j++[(i:Int)]++P.drop j).Perm ((i:Int) :: (P.take j++P.drop j)):=by
   rw [List.append_assoc];exact List.perm_middle
  rw [List.take_append_drop] at d;exact (d.trans (h.perm.cons _)).trans (by simpa using (List.perm_append_comm (l₁:=[(i:Int)]) (l₂:=E6 i)))
 .rw [List.append_assoc];show (P.take j++(i:Int) :: P.drop j).Pairwise (DW (Jv K L));refine e.inserted (by rw [List.take_append_drop];exact h.ord) (fun z b=>?_) ?_
  .obtain ⟨p,c⟩:=List.mem_iff_getElem?.1 b;rw [List.getElem?_drop] at c;obtain ⟨k,rfl,f⟩:=h.at c;obtain ⟨y,a⟩:=AA (l:=K) (k:=k) om;refine .inl ?_;unfold Jv;rw [Gx hx,Gx a];exact h2 _ _ y om c (by rw [Int.toNat_natCast];exact a)
  .rcases h1 with rfl | ⟨z,y,b,a,g⟩
   .exact .inl sI
   .rcases Nat.eq_zero_or_pos j with rfl | n
    .exact .inl sI
    .refine .inr ⟨z,?_,?_⟩
     .rw [List.getLast?_eq_getElem?,List.length_take,Nat.min_eq_left hj,List.getElem?_take,if_pos om];exact b
     .obtain ⟨k,rfl,f⟩:=h.at b;rw [Int.toNat_natCast] at a;refine e.lex_of_not om ?_;unfold Jv;rw [Gx hx,Gx a];exact g
def KO (K:List (List Int)):Prop:=∀ (i:Nat) (x y:List Int),K[i]? = some x->K[i+1]? = some y->¬ CT y x<0
theorem PQ {d:List (List Int)} {f:AF} {k:Nat} {x y:List Int} (hx:d[k+1]? = some x) (hy:d[k]? = some y):He d f (k+1)=decide (CT (AS f x) (AS f y)<0):=by
 simp [He,List.getD_eq_getElem?_getD,hx,hy]
theorem G0 (d:List (List Int)) (f:AF):GA d f=true↔KO (d.map (AS f)):=by
 unfold GA KO E8;rw [decide_eq_true_eq,List.length_eq_zero_iff,List.filter_eq_nil_iff];constructor
 .intro g a s t b c o;rw [List.getElem?_map] at b c;cases h:d[a]? with
  | none=>rw [h] at b;cases b
  | some q =>
   cases e:d[a+1]? with
   | none=>rw [e] at c;cases c
   | some r =>
    rw [h] at b;rw [e] at c;simp only [Option.map_some,Option.some.injEq] at b c;subst b;subst c;have p:=(List.getElem?_eq_some_iff.1 e).1;have:=g (a+1) (List.mem_range.2 p);rw [PQ e h] at this;simp [o] at this
 .intro g a j i;rw [List.mem_range] at j;cases a with
  | zero=>simp [He] at i
  | succ a =>
   obtain ⟨r,n⟩:=AA j;obtain ⟨q,m⟩:=AA (l:=d) (k:=a) om;rw [PQ n m,decide_eq_true_eq] at i;exact g a _ _ (by rw [List.getElem?_map,m];rfl) (by rw [List.getElem?_map,n];rfl) i
theorem KO.le {K:List (List Int)} {L:Nat} (hL:∀ k∈K,k.length=L) (h:KO K):∀ {i j:Nat} {x y:List Int},i<j->K[i]? = some x->K[j]? = some y->¬ CT y x<0:=by
 intro i j;induction j with
 | zero=>intro x y r;omega
 | succ j s =>
  intro x y r e f;by_cases n:i=j
  .subst n;exact h i x y e f
  .have w:=(List.getElem?_eq_some_iff.1 f).1;obtain ⟨m,g⟩:=AA (l:=K) (k:=j) om;have o:=s om e g;have p:=h j m y g f;intro d;have t:=hL x (List.mem_of_getElem? e);have u:=hL m (List.mem_of_getElem? g);exact p (by
    have:=Qc (a:=y) (b:=y) (c:=x) rfl (by rw [Gf];omega) d;have v:=PA o;by_cases q:CT x m=0
    .rw [<- IG (by rw [t,u]) q];exact d
    .exact Kc d om)
structure V4 (K:List (List Int)) (L na nb i k:Nat) (P:List Int):Prop where
 perm:P.Perm (E6 i++(E6 k).map fun j=>(na:Int)+j)
 ord:P.Pairwise (DW (Jv K L))
 ha:∀ p∈P,∀ j:Nat,i<=j->j<na->DW (Jv K L) p j
 hb:∀ p∈P,∀ j:Nat,k<=j->j<nb->DW (Jv K L) p ((na:Int)+j)
theorem V4.nil (K:List (List Int)) (L na nb:Nat):V4 K L na nb 0 0 []:=⟨by simp [E6],List.Pairwise.nil,sI,sI⟩
theorem Tl {K:List (List Int)} {L i j:Nat} {x y:List Int} (hij:i<j) (hx:K[i]? = some x) (hy:K[j]? = some y) (h:¬ CT y x<0):DW (Jv K L) (i:Int) (j:Int):=by
 by_cases a:Jv K L i j
 .exact .inl a
 .refine .inr ⟨?_,om⟩;unfold Jv;rw [Gx hx,Gx hy];exact h
section
variable {A B:List (List Int)} {L:Nat} (hA:∀ k∈A,k.length=L) (hB:∀ k∈B,k.length=L) (sA:KO A) (sB:KO B)
theorem Qk {i:Nat} {x:List Int} (h:A[i]? = some x):(A++B)[i]? = some x:=by rw [List.getElem?_append_left (List.getElem?_eq_some_iff.1 h).1];exact h
theorem Nn {i:Nat} {x:List Int} (h:B[i]? = some x):(A++B)[A.length+i]? = some x:=by rw [List.getElem?_append_right om,Nat.add_sub_cancel_left];exact h
include hA hB sA sB in
theorem V4.right {i k:Nat} {P:List Int} (h:V4 (A++B) L A.length B.length i k P) {y:List Int} (hy:B[k]? = some y) (hlt:i=A.length\/∃ x,A[i]? = some x/\CT y x<0):V4 (A++B) L A.length B.length i (k+1) (P++[(A.length:Int)+k]):=by
 have s:=(List.getElem?_eq_some_iff.1 hy).1;have q:=Nn (A:=A) hy;refine ⟨?_,?_,fun e a d o c=>?_,fun e a d o c=>?_⟩
 .rw [HR,List.map_append,<- List.append_assoc];exact h.perm.append (List.Perm.refl _)
 .refine List.pairwise_append.2 ⟨h.ord,List.pairwise_singleton _ _,fun e a u p=>?_⟩;rw [List.mem_singleton] at p;subst p;exact h.hb e a k (Nat.le_refl _) s
 .rcases List.mem_append.1 a with a | a
  .exact h.ha e a d o c
  .rw [List.mem_singleton] at a;subst a;rcases hlt with n | ⟨x,f,g⟩
   .omega
   .obtain ⟨m,b⟩:=AA (l:=A) c;refine .inl ?_;unfold Jv;rw [show (A.length:Int)+k=((A.length+k:Nat):Int) by omega,Gx q,Gx (Qk b)];by_cases n:i=d
    .subst n;rw [f] at b;cases b
     exact g
    .have:=sA.le hA om f b;have t:=PA this;by_cases r:CT x m=0
     .rw [<- IG (by rw [hA x (List.mem_of_getElem? f),hA m (List.mem_of_getElem? b)]) r];exact g
     .exact Kc g om
 .rcases List.mem_append.1 a with a | a
  .exact h.hb e a d om c
  .rw [List.mem_singleton] at a;subst a;obtain ⟨m,b⟩:=AA (l:=B) c;have:=Tl (L:=L) (i:=A.length+k) (j:=A.length+d) om q (Nn (A:=A) b) (sB.le hB om hy b);simpa using this
include hA hB sA sB in
theorem V4.left {i k:Nat} {P:List Int} (h:V4 (A++B) L A.length B.length i k P) {x:List Int} (hx:A[i]? = some x) (hge:k=B.length\/∃ y,B[k]? = some y/\¬ CT y x<0):V4 (A++B) L A.length B.length (i+1) k (P++[(i:Int)]):=by
 have u:=(List.getElem?_eq_some_iff.1 hx).1;have s:=Qk (B:=B) hx;refine ⟨?_,?_,fun f a e p d=>?_,fun f a e p d=>?_⟩
 .rw [HR];refine (h.perm.append (List.Perm.refl [(i:Int)])).trans ?_;rw [List.append_assoc,List.append_assoc];exact List.Perm.append (List.Perm.refl _) List.perm_append_comm
 .refine List.pairwise_append.2 ⟨h.ord,List.pairwise_singleton _ _,fun f a z r=>?_⟩;rw [List.mem_singleton] at r;subst r;exact h.ha f a i (Nat.le_refl _) u
 .rcases List.mem_append.1 a with a | a
  .exact h.ha f a e om d
  .rw [List.mem_singleton] at a;subst a;obtain ⟨g,c⟩:=AA (l:=A) d;exact Tl om s (Qk c) (sA.le hA om hx c)
 .rcases List.mem_append.1 a with a | a
  .exact h.hb f a e p d
  .rw [List.mem_singleton] at a;subst a;obtain ⟨g,c⟩:=AA (l:=B) d;rcases hge with o | ⟨y,n,m⟩
   .omega
   .have v:¬ CT g x<0:=by
     by_cases o:k=e
     .subst o;rw [n] at c;cases c
      exact m
     .have w:=PA (sB.le hB om n c);intro q;by_cases t:CT y g=0
      .exact m (by rw [IG (by rw [hB y (List.mem_of_getElem? n),hB g (List.mem_of_getElem? c)]) t];exact q)
      .exact m (Kc (b:=g) om q)
    have:=Tl (L:=L) (i:=i) (j:=A.length+e) om s (Nn (A:=A) c) v;simpa using this
include hA hB sA sB in
theorem Vy {k:Nat} {P:List Int} (h:V4 (A++B) L A.length B.length A.length k P) (hk:k<=B.length):∀ m,k+m<=B.length->V4 (A++B) L A.length B.length A.length (k+m) (P++((E6 (k+m)).drop k).map fun j=>(A.length:Int)+j)
 | 0,_=>by
  have e:(E6 (k+0)).drop k=[]:=List.drop_eq_nil_of_le (by rw [Gt];omega);rw [e];simpa using h
 | m+1,hm=>by
  obtain ⟨b,a⟩:=AA (l:=B) (k:=k+m) om;have:=(Vy h hk m om).right hA hB sA sB a (.inl rfl);have e:(E6 (k+(m+1))).drop k=(E6 (k+m)).drop k++[((k+m:Nat):Int)]:=by
   rw [show k+(m+1)=(k+m)+1 by omega,HR,List.drop_append_of_le_length (by rw [Gt];omega)]
  rw [e,List.map_append,<- List.append_assoc];exact this
include hA hB in
theorem V4.done {P:List Int} (h:V4 (A++B) L A.length B.length A.length B.length P):P=Dj (A++B) L:=by
 have c:∀ a∈A++B,a.length=L:=fun a d=>(List.mem_append.1 d).elim (hA a) (hB a);refine (Ju c).is (Ix _) (h.perm.trans ?_) h.ord;have b:E6 (A++B).length=E6 A.length++(E6 B.length).map fun e=>(A.length:Int)+e:=by
  rw [List.length_append];unfold E6;rw [List.range_add,List.map_append,List.map_map,List.map_map];congr 1
 rw [b]
end
theorem NP {d:List (List Int)} {f:AF} (h:(Bn d f).2=0):Ax d=true/\AR f (AJ d)=true/\d.all (fun c=>Dd (AZ c f))=true/\Bn d f=(d.map (AS f),0):=by
 rcases Lb d f with ⟨a,e,g⟩ | b
 .rw [e] at h;have h:a=0:=h;omega
 .exact b
theorem MF {d:List (List Int)} {f:AF} (h:Ax d=true) (hf:AR f (AJ d)=true):Bn d f=if Da d f=true then (d.map (AS f),0) else ([],8):=by
 unfold Da Bn;rw [if_neg (by simp [h]),if_neg (by simp [hf])];cases d.all (fun a=>Dd (AZ a f))<;>rfl
theorem aC6 {L:Nat} {x:List Int} {B:List (List Int)} (hx:GO L x) (hB:∀ k∈B,GO L k):((B.map Cd).any fun s=>decide (s=Cd x))=decide (x∈B):=by
 rw [List.any_map];by_cases a:x∈B
 .rw [decide_eq_true a];exact List.any_eq_true.2 ⟨x,a,sI⟩
 .rw [decide_eq_false a,List.any_eq_false];intro d c b;simp only [Function.comp_apply,decide_eq_true_eq] at b;exact a (S5 (hB d c) hx b▸c)
theorem ZJ {L:Nat} {d:List (List Int)} {c:List Int} {f:AF} (hc:(AS f c).length=L) (hd:∀ x∈d,(AS f x).length=L):KB d c f=decide (AS f c∈d.map (AS f)):=by
 unfold KB;by_cases a:AS f c∈d.map (AS f)
 .rw [decide_eq_true a];obtain ⟨x,b,g⟩:=List.mem_map.1 a;exact List.any_eq_true.2 ⟨x,b,by rw [g,Gf];rfl⟩
 .rw [decide_eq_false a,List.any_eq_false];intro x b e;rw [decide_eq_true_eq] at e;exact a (List.mem_map.2 ⟨x,b,IG (by rw [hd x b,hc]) e⟩)
theorem Yz {α:Type} (xs ys:List α) (z:α) (k:Nat):((E6 ys.length).drop k).map (fun i=>(fun j:Int=>(xs++ys).getD j.toNat z) ((xs.length:Int)+i))=ys.drop k:=by
 have b:(E6 ys.length).map (fun i=>(fun j:Int=>(xs++ys).getD j.toNat z) ((xs.length:Int)+i))=ys:=by
  conv=>rhs;rw [<- Pq ys z]
  apply List.map_congr_left;intro i c;obtain ⟨a,d,rfl⟩:=GD.1 c;simp only;rw [show ((xs.length:Int)+(a:Int)).toNat=xs.length+a by omega,Int.toNat_natCast,List.getD_eq_getElem?_getD,List.getD_eq_getElem?_getD,List.getElem?_append_right om,Nat.add_sub_cancel_left]
 rw [List.map_drop,b]
end Go.M
namespace Go.M
open Go Go.Vc
end Go.M
namespace Go.Proofs.YtalgenmoljcnmaaGreatDoor
open Go Go.RowKit Go.Vc Go.M
end Go.Proofs.YtalgenmoljcnmaaGreatDoor
namespace Go.Vc
open Go Go.RowKit Go.M
end Go.Vc
namespace Go.Proofs.YtalgenmoljcnmaaGreatDoor
open Go Go.RowKit Go.Vc Go.M
end Go.Proofs.YtalgenmoljcnmaaGreatDoor
namespace Go.Proofs.YtalgenmoljcnmaaGreatDoor
open Go Go.RowKit Go.Vc Go.M
variable {w:World} {xs:List Int}
theorem Js {a:Option Addr} {n c:Nat} (h:A4 eI 1 w a n xs) (hn:n<=1000000) :
  Dq 231 [.slice a n c] w (fun v w'=>∃ (a':Option Addr) (c':Nat),v = .slice a' n c'/\Ai eI 1 w.heap.size 2 w' a' n c' xs/\AD w w'):=by
 refine oV Tryz.func231 ?_;refine bS B5 (vs:=[]) ?_;intro k p g o b e;have d:=Ab (enc:=eI) AI e g;exact Dw (enc:=eI) B5 AI d (h.ext b) (by intro r _;simp [eI,AE]) om om (Below.size b) fun j l q f i m=>⟨_,_,rfl,f,(xm b i (AO d.new))⟩
theorem Eg {b o:Nat} {d:Hd} (hc:AK w b o (eH d)) (h:A4 eI 1 w d.a d.n xs) (hn:d.n<=1000) :
  Dq 161 [.pointer (some ⟨b,o,none⟩)] w (fun v w'=>∃ (a':Option Addr) (c':Nat),v = .agg #[.slice a' d.n c']/\Ai eI 1 w.heap.size 2 w' a' d.n c' xs/\AD w w'):=by
 obtain ⟨t,p,u⟩:=d;simp only at h hn;refine oV Tryz.func161 ?_;refine jN (z := .agg #[.slice none 0 0]) ?_;intro s x q r c i;refine jL (hc.ext c) (k:=0) rfl<|(Js (h.ext c) om).mono ?_;rintro _ y ⟨l,m,rfl,e,g⟩;exact AB.build Jm rfl<|jS (vs:=[Value.slice l p m]) (i.ext g) rfl rfl (by simp [AE]) fun aa f j=>AP (jR (n:=1) rfl j.cells) ⟨_,_,rfl,((e.mod f.but (Gh e.new r (Nat.le_refl _))).base (Below.size c)),(xb (xt c g) f.but q)⟩
end Go.Proofs.YtalgenmoljcnmaaGreatDoor
