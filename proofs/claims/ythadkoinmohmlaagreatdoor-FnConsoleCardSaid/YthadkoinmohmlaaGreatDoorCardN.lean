/- Contracts of functions of the given program, of the reference and of the laws: each says what a call returns, for all arguments that meet the premises that the theorem itself names. -/
import Derived.Test.YthadkoinmohmlaaGreatDoorJournalM
import Derived.Test.YthadkoinmohmlaaGreatDoorVcWrite
import Derived.Test.YthadkoinmohmlaaGreatDoorBasics
import Derived.Test.YthadkoinmohmlaaGreatDoorVcApp
import Derived.Test.YthadkoinmohmlaaGreatDoorStab
namespace Go.Proofs.YthadkoinmohmlaaGreatDoor
open Go Go.RowKit Go.Vc Go.M
theorem impl_numberIn1 (x:Int) (w:World):Does Tryz.prog 319 [.int .i64 x] w (fun v w'=>v = .bool (!decide (x=0))∧Ext w w'):=by
  refine oV Tryz.func319 ?_;exact ⟨rfl,Ext.refl _⟩
theorem impl_numberIn {w:World} {d:Hd} {xs:List Int} (R:RCard w d xs) (hm:∀ m∈xs,0≤m∧m≤4095) {f:TField} (hf:numFieldB f xs.length=true) :
    Does Tryz.prog 275 [.agg ⟨eH d⟩,.agg ⟨f.enc⟩] w (fun v w'=>v = .tuple #[.int .i64 (numInM (partOf xs f)).1,.bool (numInM (partOf xs f)).2]∧Ext w w'):=by
  obtain ⟨A,hnc⟩:=R;have hn:=A.len;simp only [numFieldB,Bool.and_eq_true,decide_eq_true_eq] at hf;have hb:=fieldB_b hf.1;have h12:=hf.2;obtain ⟨f1,f2⟩:=f;simp only at hb h12;obtain ⟨p,rfl⟩:∃ p:Nat,f1=p:=⟨f1.toNat,by omega⟩;obtain ⟨q,rfl⟩:∃ q:Nat,f2=q:=⟨f2.toNat,by omega⟩;have hpm:∀ m∈partOf xs ⟨(p:Int),(q:Int)⟩,0≤m∧m≤4095:=fun m hmm=>hm m (partOf_mem hmm);obtain ⟨l,hl⟩:∃ l,(xs.drop p).take (q - p)=l:=⟨_,rfl⟩;have hpl:partOf xs ⟨(p:Int),(q:Int)⟩=l:=by unfold partOf;simpa using hl
  rw [hpl] at hpm ⊢;have hll:l.length=q - p:=by rw [← hl];simp;omega
  obtain ⟨r,m,hrm⟩:∃ r m,l=r++[m]:=⟨l.dropLast,l.getLast (by intro e;subst e;simp at hll;omega),(List.dropLast_concat_getLast _).symm⟩;have hrl:r.length+1=q - p:=by rw [← hll,hrm];simp
  have hlm:l[q - p - 1]? = some m:=by rw [hrm,List.getElem?_append_right (by omega)];simp [show q - p - 1 - r.length=0 by omega]
  have hmb:=hpm m (List.mem_of_getElem? hlm);have hset:l.set (q - p - 1) (bareM m)=r++[bareM m]:=by rw [hrm,List.set_append,if_neg (by omega)];simp [show q - p - 1 - r.length=0 by omega]
  have hbb:=bareM_b hmb.1 hmb.2;have hb11:bitM 11=2:=bitM_11 rfl;have hand:=and2 hmb.1 hmb.2;have handn:=andNot2 hmb.1 hmb.2;refine oV Tryz.func275 ?_;refine SemK.box ?_;intro b1 w1 g1 l1 e1 B1;refine SemK.box ?_;intro b2 w2 g2 l2 e2 B2;refine jL (B1.ext e2).cells (k:=0) rfl ?_;refine jL B2.cells (k:=0) rfl ?_;refine jL B2.cells (k:=1) rfl ?_;refine SemK.slice (k := .i64) (k' := .i64) (by kernel_rfl) (A.ext (xt e1 e2)) p q (by omega) (by omega) hnc (.inr (by rfl)) (.inr (by rfl)) ?_;rw [hl];intro a9 A9;have hany:l.any (fun x=>!decide (x=0)) = !decide (∀ x∈l,x=0):=by
    rw [Bool.eq_iff_iff];simp [List.any_eq_true]
  by_cases hz:∀ x∈l,x=0
  · have hnz:=num_zero hz;rw [decide_eq_true hz] at hany;refine (impl_copyInts A9 (by omega)).mono ?_;rintro _ w18 ⟨a'13,c'14,rfl,N15,G16,e17⟩;refine (lib_ContainsFuncInt (G16.own.arr eI_len) (p:=fun x=>!decide (x=0)) (cap:=[]) (fun x _ w' _=>impl_numberIn1 x w')).mono ?_;rintro _ w19 ⟨rfl,e18⟩;rw [hany];exact ⟨by simp_all,(xt (xt (xt e1 e2) e17) e18)⟩
  · have hns:=num_same r m (by rw [← hrm];exact hz);rw [← hrm] at hns;rw [decide_eq_false hz] at hany;refine (impl_copyInts A9 (by omega)).mono ?_;rintro _ w18 ⟨a'13,c'14,rfl,N15,G16,e17⟩;refine (lib_ContainsFuncInt (G16.own.arr eI_len) (p:=fun x=>!decide (x=0)) (cap:=[]) (fun x _ w' _=>impl_numberIn1 x w')).mono ?_;rintro _ w19 ⟨rfl,e18⟩;rw [hany];refine SemK.sub (((q - p - 1:Nat):Int)) (by omega) (by omega) (by omega) ?_;refine dH [(0,false),(1,false),(2,false),(3,false),(4,true),(5,true),(6,true),(7,true)] ?_;intro w20 e20;obtain ⟨b22,rfl⟩:=((G16.ext e18).own).some (by omega);have gb22:w2.heap.size≤b22:=G16.new _ rfl;have lb22:b22<w18.heap.size:=G16.lt _ rfl;refine DSemK.indexOwn (sz:=1) (by kernel_rfl) (q - p - 1) rfl (by omega) ?_;have hb22:=Own.elem eI_len (G16.ext e18).own hlm;refine dO hb22 rfl ?_;refine (impl_bitOf _ _).mono ?_;rintro _ w24 ⟨rfl,e23⟩;refine ⟨(xt e20 e23),?_⟩;refine SemK.and ?_;refine ⟨(xt e20 e23),?_⟩;refine DrawK.writes tabok mixed [(0,.any),(1,.any),(2,.any),(3,.held),(4,.run),(5,.any),(6,.any),(7,.write)] (by kernel_rfl) (by kernel_rfl) ?_;intro w25 e25;refine pW (sz:=1) (q - p - 1) rfl (by omega) ?_;have hb27:=Own.elem eI_len (G16.ext (xt (xt e18 e20) e23)).own hlm;refine dO hb27 rfl ?_;refine (impl_bitOf _ _).mono ?_;rintro _ w29 ⟨rfl,e28⟩;refine ⟨(xt e25 e28),?_⟩;refine PSemK.andNot ?_;refine pW (sz:=1) (q - p - 1) rfl (by omega) ?_;have hb31:=Own.elem eI_len (G16.ext (xt (xt e18 e20) e23)).own hlm;refine SemK.storeGrow1 (k:=q - p - 1) (j:=0) (by kernel_rfl) eI_len (G16.ext (xt (xt (xt (xt e18 e20) e23) e25) e28)) hlm (by decide) rfl (andNotV IntKind.i64 m (bitM 11)) rfl ?_;intro w32 c32 B32;have hx32:=set_get hlm ((andNotV IntKind.i64 m (bitM 11)));(conv=>whnf);have hneg:(!decide (andV IntKind.i64 m (bitM 11)=0))=minusB m:=by
      rw [hb11,hand];cases minusB m<;>simp
    rw [hneg];rw [hb11,handn,hset] at B32;generalize hL:r++[bareM m]=L at B32;have hLl:L.length=q - p:=by rw [← hL];simp;omega
    have hLm:L[q - p - 1]? = some (bareM m):=by rw [← hL,List.getElem?_append_right (by omega)];simp [show q - p - 1 - r.length=0 by omega]
    have X32:Ext w w32:=xb (xt (xt (xt (xt (xt (xt (xt e1 e2) e17) e18) e20) e23) e25) e28) c32.but (Nat.le_trans (Below.size (xt e1 e2)) gb22);refine lR [6,7,8,9,10,42,43,44] (fun (i:Nat) vs w'=>∃ n b,vs=[.slice (some ⟨b22,0,none⟩) (q - p) c'14,.int .i64 ((q - p - 1:Nat):Int),.bool (minusB m),.int .i64 n,.bool b,.slice (some ⟨b22,0,none⟩) (q - p) c'14,.int .i64 ((q - p:Nat):Int),.int .i64 i]∧i≤q - p∧(L.take i).foldl numStep (some (0,false))=some (n,b)∧Ext w32 w') (fun i=>q - p - i) 0 ⟨0,false,rfl,by omega,by simp,Ext.refl _⟩ ?_;rintro i g _ w33 ⟨n,b,rfl,hi,hfold,hX⟩;have X33:Ext w w33:=xt X32 hX;rcases Nat.lt_or_ge i (q - p) with hiq | hiq
    · obtain ⟨x,hx⟩:=get_of_lt (l:=L) (k:=i) (by omega);have hft:=fold_take hx (some (0,false));rw [hfold,numStep_some] at hft;have hns2:=num_small hfold (by simp;omega);have hdb:=digitM_b x;by_cases hc1:x=0∧b=false
      · rw [if_pos hc1] at hft;obtain ⟨hx0,hb0⟩:=hc1;subst hb0;refine IfB.yes (by omega) ?_;refine jW (sz:=1) i rfl (by omega) ?_;have hb35:=Own.elem eI_len (B32.ext hX).own hx;refine jO hb35 rfl ?_;refine (impl_digitOf _ _).mono ?_;rintro _ w37 ⟨rfl,e36⟩;refine IfB.yes (by omega) ?_;refine SemK.add (((i+1:Nat):Int)) (by omega) (by omega) (by omega) ?_;exact ⟨i+1,by omega,_,_,rfl,by omega,by omega,(xt hX e36)⟩
      · rw [if_neg hc1] at hft;by_cases hc2:digitM x<0
        · rw [if_pos hc2] at hft;have hz0:=numImpl_none (r:=r) (m:=m) (by rw [hL];exact fold_none hft);rw [hns] at hz0;cases b
          · have hx0:¬ x=0:=fun e=>hc1 ⟨e,rfl⟩;refine IfB.yes (by omega) ?_;refine jW (sz:=1) i rfl (by omega) ?_;have hb35:=Own.elem eI_len (B32.ext hX).own hx;refine jO hb35 rfl ?_;refine (impl_digitOf _ _).mono ?_;rintro _ w37 ⟨rfl,e36⟩;refine IfB.no (by omega) ?_;refine IfB.yes (by omega) ?_;exact ⟨by simp_all,(xt X33 e36)⟩
          · refine IfB.yes (by omega) ?_;refine jW (sz:=1) i rfl (by omega) ?_;have hb35:=Own.elem eI_len (B32.ext hX).own hx;refine jO hb35 rfl ?_;refine (impl_digitOf _ _).mono ?_;rintro _ w37 ⟨rfl,e36⟩;(conv=>whnf);with_reducible refine IfB.dec (fun h38=>?_) (fun h38=>?_)
            · refine IfB.yes (by omega) ?_;exact ⟨by simp_all,(xt X33 e36)⟩
            · refine IfB.yes (by omega) ?_;exact ⟨by simp_all,(xt X33 e36)⟩
        · rw [if_neg hc2] at hft;cases b
          · have hx0:¬ x=0:=fun e=>hc1 ⟨e,rfl⟩;refine IfB.yes (by omega) ?_;refine jW (sz:=1) i rfl (by omega) ?_;have hb35:=Own.elem eI_len (B32.ext hX).own hx;refine jO hb35 rfl ?_;refine (impl_digitOf _ _).mono ?_;rintro _ w37 ⟨rfl,e36⟩;refine IfB.no (by omega) ?_;refine IfB.no (by omega) ?_;refine SemK.mul _ rfl (by omega) (by omega) ?_;refine SemK.add _ rfl (by omega) (by omega) ?_;refine SemK.add (((i+1:Nat):Int)) (by omega) (by omega) (by omega) ?_;exact ⟨i+1,by omega,_,_,rfl,by omega,by omega,(xt hX e36)⟩
          · refine IfB.yes (by omega) ?_;refine jW (sz:=1) i rfl (by omega) ?_;have hb35:=Own.elem eI_len (B32.ext hX).own hx;refine jO hb35 rfl ?_;refine (impl_digitOf _ _).mono ?_;rintro _ w37 ⟨rfl,e36⟩;(conv=>whnf);with_reducible refine IfB.dec (fun h38=>?_) (fun h38=>?_)
            · refine IfB.no (by omega) ?_;refine SemK.mul _ rfl (by omega) (by omega) ?_;refine SemK.add _ rfl (by omega) (by omega) ?_;refine SemK.add (((i+1:Nat):Int)) (by omega) (by omega) (by omega) ?_;exact ⟨i+1,by omega,_,_,rfl,by omega,by omega,(xt hX e36)⟩
            · refine IfB.no (by omega) ?_;refine SemK.mul _ rfl (by omega) (by omega) ?_;refine SemK.add _ rfl (by omega) (by omega) ?_;refine SemK.add (((i+1:Nat):Int)) (by omega) (by omega) (by omega) ?_;exact ⟨i+1,by omega,_,_,rfl,by omega,by omega,(xt hX e36)⟩
    · have hie:i=q - p:=by omega
      have hns2:=num_small hfold (by simp;omega);rw [List.take_of_length_le (by omega)] at hfold;have hz0:=numImpl_some (r:=r) (m:=m) (by rw [hL];exact hfold);rw [hns] at hz0;cases b
      · rw [if_pos (.inl rfl)] at hz0;refine IfB.no (by omega) ?_;exact ⟨by simp_all,X33⟩
      · by_cases hc3:bareM m=0
        · rw [if_pos (.inr (.inl hc3))] at hz0;refine IfB.no (by omega) ?_;refine jW (sz:=1) (q - p - 1) rfl (by omega) ?_;have hb35:=Own.elem eI_len (B32.ext hX).own hLm;refine jO hb35 rfl ?_;refine IfB.yes (by omega) ?_;exact ⟨by simp_all,X33⟩
        · cases hz2:minusB m
          · rw [hz2,if_neg (by simp [hc3]),if_neg (by simp)] at hz0;refine IfB.no (by omega) ?_;refine jW (sz:=1) (q - p - 1) rfl (by omega) ?_;have hb35:=Own.elem eI_len (B32.ext hX).own hLm;refine jO hb35 rfl ?_;refine IfB.no (by omega) ?_;exact ⟨by simp_all,X33⟩
          · by_cases hc4:n=0
            · rw [if_pos (.inr (.inr ⟨hz2,hc4⟩))] at hz0;refine IfB.no (by omega) ?_;refine jW (sz:=1) (q - p - 1) rfl (by omega) ?_;have hb35:=Own.elem eI_len (B32.ext hX).own hLm;refine jO hb35 rfl ?_;refine IfB.no (by omega) ?_;refine IfB.yes (by omega) ?_;exact ⟨by simp_all,X33⟩
            · rw [hz2,if_neg (by simp [hc3,hc4]),if_pos rfl] at hz0;refine IfB.no (by omega) ?_;refine jW (sz:=1) (q - p - 1) rfl (by omega) ?_;have hb35:=Own.elem eI_len (B32.ext hX).own hLm;refine jO hb35 rfl ?_;refine IfB.no (by omega) ?_;refine IfB.no (by omega) ?_;refine SemK.neg (-n) rfl (by omega) (by omega) ?_;exact ⟨by simp_all,X33⟩
end Go.Proofs.YthadkoinmohmlaaGreatDoor
namespace Go.Proofs.YthadkoinmohmlaaGreatDoor
open Go Go.RowKit Go.Vc Go.M
theorem lib_IndexStr {w:World} {a:Option Addr} {n c:Nat} {xs:List ByteArray} (h:Arr eS 1 w a n xs) (t:ByteArray):Does Tryz.prog 59 [.slice a n c,.string t] w (fun v w'=>∃ r:Int,v = .int .i64 r∧decide (0≤r)=(xs.any fun x=>decide (x=t))∧-1≤r∧Ext w w'):=by
  have hn:=h.len;have hm:=h.le;refine oV Tryz.func59 ?_;refine lR [0,1,7,8] (fun (k:Nat) vs w'=>vs=[.slice a n c,.string t,.int .i64 n,.int .i64 k]∧k≤n∧(∀ i x,i<k→xs[i]? = some x→¬ x=t)∧Ext w w') (fun k=>n - k) 0 ⟨rfl,by omega,fun i x hi=>by omega,Ext.refl _⟩ ?_;rintro k g _ w3 ⟨rfl,hk,hall,hX⟩;rcases Nat.lt_or_ge k n with hkn | hkn
  · obtain ⟨x,hx⟩:=get_of_lt (l:=xs) (k:=k) (by omega);by_cases hxt:x=t
    · have hin:(xs.any fun x=>decide (x=t))=true:=List.any_eq_true.2 ⟨x,List.mem_of_getElem? hx,decide_eq_true hxt⟩;rw [hin];subst hxt;refine IfB.yes (by omega) ?_;refine jI (h.ext hX) k rfl hx ?_;intro b5 o5 ha5 hb5;refine jO hb5 rfl ?_;refine IfB.yes rfl ?_;exact ⟨_,rfl,rfl,by omega,hX⟩
    · have hnext:∀ i y,i<k+1→xs[i]? = some y→¬ y=t:=fun i y hi hy=>by
        by_cases e:i=k
        · subst e;rw [hx] at hy;cases hy;exact hxt
        · exact hall i y (by omega) hy
      have hxt2:¬ t=x:=fun e=>hxt e.symm;refine IfB.yes (by omega) ?_;refine jI (h.ext hX) k rfl hx ?_;intro b5 o5 ha5 hb5;refine jO hb5 rfl ?_;refine IfB.no (by omega) ?_;refine SemK.add (((k+1:Nat):Int)) (by omega) (by omega) (by omega) ?_;exact ⟨k+1,by omega,rfl,by omega,hnext,hX⟩
  · have hno:(xs.any fun x=>decide (x=t))=false:=by
      rw [List.any_eq_false];intro y hy;obtain ⟨i,hi⟩:=List.mem_iff_getElem?.1 hy;have:=hall i y (by have:=(List.getElem?_eq_some_iff.1 hi).1;omega) hi;simpa using this
    rw [hno];refine IfB.no (by omega) ?_;exact ⟨_,rfl,rfl,by omega,hX⟩
theorem lib_ContainsStr {w:World} {a:Option Addr} {n c:Nat} {xs:List ByteArray} (h:Arr eS 1 w a n xs) (t:ByteArray):Does Tryz.prog 29 [.slice a n c,.string t] w (fun v w'=>v = .bool (xs.any fun x=>decide (x=t))∧Ext w w'):=by
  refine oV Tryz.func29 ?_;refine (lib_IndexStr h t).mono ?_;rintro _ w2 ⟨r,rfl,hr,hr1,e2⟩;exact ⟨by simp only [*],e2⟩
end Go.Proofs.YthadkoinmohmlaaGreatDoor
namespace Go.M
open Go Go.Vc
theorem orC {a:Int} {c o:Nat} (ha:a=1∧65≤c∧c≤73∧o=64∨a=2∧74≤c∧c≤82∧o=73∨a=4∧83≤c∧c≤90∧o=81):orV .i64 a (bitM ((c:Int) - o))=a+bitM ((c:Int) - o):=by
  rcases ha with ⟨rfl,h1,h2,rfl⟩ | ⟨rfl,h1,h2,rfl⟩ | ⟨rfl,h1,h2,rfl⟩
  · obtain ⟨k,rfl⟩:∃ k:Nat,c=65+k:=⟨c - 65,by omega⟩;have key:∀ n:Fin 9,orV .i64 1 (bitM (((65+n.val:Nat):Int) - (64:Nat)))=1+bitM (((65+n.val:Nat):Int) - (64:Nat)):=by decide +kernel
    exact key ⟨k,by omega⟩
  · obtain ⟨k,rfl⟩:∃ k:Nat,c=74+k:=⟨c - 74,by omega⟩;have key:∀ n:Fin 9,orV .i64 2 (bitM (((74+n.val:Nat):Int) - (73:Nat)))=2+bitM (((74+n.val:Nat):Int) - (73:Nat)):=by decide +kernel
    exact key ⟨k,by omega⟩
  · obtain ⟨k,rfl⟩:∃ k:Nat,c=83+k:=⟨c - 83,by omega⟩;have key:∀ n:Fin 8,orV .i64 4 (bitM (((83+n.val:Nat):Int) - (81:Nat)))=4+bitM (((83+n.val:Nat):Int) - (81:Nat)):=by decide +kernel
    exact key ⟨k,by omega⟩
theorem codeC_dig {c:Nat} (h:48≤c∧c≤57):codeC c=bitM ((c:Int) - 48):=by
  unfold codeC;rw [if_neg (by omega),if_neg (by omega),if_neg (by omega),if_neg (by omega),if_pos h]
theorem codeC_A {c:Nat} (h:65≤c∧c≤73):codeC c=1+bitM ((c:Int) - 64):=by
  unfold codeC;rw [if_neg (by omega),if_neg (by omega),if_neg (by omega),if_neg (by omega),if_neg (by omega),if_pos h]
theorem codeC_J {c:Nat} (h:74≤c∧c≤82):codeC c=2+bitM ((c:Int) - 73):=by
  unfold codeC;rw [if_neg (by omega),if_neg (by omega),if_neg (by omega),if_neg (by omega),if_neg (by omega),if_neg (by omega),if_pos h]
theorem codeC_S {c:Nat} (h:83≤c∧c≤90):codeC c=4+bitM ((c:Int) - 81):=by
  unfold codeC;rw [if_neg (by omega),if_neg (by omega),if_neg (by omega),if_neg (by omega),if_neg (by omega),if_neg (by omega),if_neg (by omega),if_pos h]
theorem char_kind {k:Nat} (h:k<40):(charAt k).toNat=32∨(charAt k).toNat=38∨(charAt k).toNat=45∨(charAt k).toNat=47∨(48≤(charAt k).toNat∧(charAt k).toNat≤57)∨(65≤(charAt k).toNat∧(charAt k).toNat≤73)∨(74≤(charAt k).toNat∧(charAt k).toNat≤82)∨(83≤(charAt k).toNat∧(charAt k).toNat≤90):=by
  have key:∀ n:Fin 40,(charAt n.val).toNat=32∨(charAt n.val).toNat=38∨(charAt n.val).toNat=45∨(charAt n.val).toNat=47∨(48≤(charAt n.val).toNat∧(charAt n.val).toNat≤57)∨(65≤(charAt n.val).toNat∧(charAt n.val).toNat≤73)∨(74≤(charAt n.val).toNat∧(charAt n.val).toNat≤82)∨(83≤(charAt n.val).toNat∧(charAt n.val).toNat≤90):=by decide +kernel
  exact key ⟨k,h⟩
def CharK (c:Nat):Prop:=c=32∨c=38∨c=45∨c=47∨(48≤c∧c≤57)∨(65≤c∧c≤73)∨(74≤c∧c≤82)∨(83≤c∧c≤90)
end Go.M
namespace Go.Proofs.YthadkoinmohmlaaGreatDoor
open Go Go.RowKit Go.Vc Go.M
theorem impl_CodeOf {c:Nat} (hc:CharK c) (w:World):Does Tryz.prog 309 [.int .u8 c] w (fun v w'=>v = .tuple #[.int .i64 (codeC c),.bool true]∧Ext w w'):=by
  have h12:bitM 12=1:=bitM_12 rfl;have h11:bitM 11=2:=bitM_11 rfl;have h0:bitM 0=4:=rfl;rcases hc with rfl | rfl | rfl | rfl | h | h | h | h
  · refine oV Tryz.func309 ?_;exact ⟨rfl,Ext.refl _⟩
  · refine oV Tryz.func309 ?_;refine (impl_bitOf _ _).mono ?_;rintro _ w14 ⟨rfl,e13⟩;exact ⟨rfl,e13⟩
  · refine oV Tryz.func309 ?_;refine (impl_bitOf _ _).mono ?_;rintro _ w14 ⟨rfl,e13⟩;exact ⟨rfl,e13⟩
  · refine oV Tryz.func309 ?_;conv=>whnf
    refine (impl_isDigit _ _).mono ?_;rintro _ _ ⟨rfl,rfl⟩;refine (impl_bitOf _ _).mono ?_;rintro _ w15 ⟨rfl,e14⟩;refine (impl_bitOf _ _).mono ?_;rintro _ w17 ⟨rfl,e16⟩;refine SemK.or ?_;exact ⟨rfl,(xt e14 e16)⟩
  · have hd:digitN c=true:=by simp [digitN];omega
    have hcs:(c:Int) - 48=((c - 48:Nat):Int):=by omega
    rw [codeC_dig h,hcs];refine oV Tryz.func309 ?_;refine IfB.no (by omega) ?_;refine IfB.no (by omega) ?_;refine IfB.no (by omega) ?_;refine (impl_isDigit _ _).mono ?_;rintro _ _ ⟨rfl,rfl⟩;refine IfB.eqt (by simp [*];done) ?_;refine SemK.wsub ?_;(conv=>whnf);rw [u8_wrap (by omega) (by omega),show (c:Int) - 48=((c - 48:Nat):Int) from by omega];refine SemK.conv (by kernel_rfl) (by kernel_rfl) (i64_wrap (by omega) (by omega)) ?_
    refine (impl_bitOf _ _).mono ?_;rintro _ w14 ⟨rfl,e13⟩;exact ⟨rfl,e13⟩
  · have hd:digitN c=false:=by simp [digitN];omega
    have ho:=orC (a:=1) (c:=c) (o:=64) (.inl ⟨rfl,h.1,h.2,rfl⟩);have hcs:(c:Int) - 64=((c - 65+1:Nat):Int):=by omega
    have hcs2:(c:Int) - (64:Nat)=((c - 65+1:Nat):Int):=by omega
    rw [codeC_A h,hcs];rw [hcs2] at ho;refine oV Tryz.func309 ?_;refine IfB.no (by omega) ?_;refine IfB.no (by omega) ?_;refine IfB.no (by omega) ?_;refine (impl_isDigit _ _).mono ?_;rintro _ _ ⟨rfl,rfl⟩;refine IfB.eqf (by simp [*];done) ?_;refine IfB.yes (by omega) ?_;refine IfB.yes (by omega) ?_;refine (impl_bitOf _ _).mono ?_;rintro _ w15 ⟨rfl,e14⟩;refine SemK.wsub ?_;(conv=>whnf);rw [u8_wrap (by omega) (by omega),show (c:Int) - 65=((c - 65:Nat):Int) from by omega];refine SemK.conv (by kernel_rfl) (by kernel_rfl) (i64_wrap (by omega) (by omega)) ?_
    refine SemK.add (((c - 65+1:Nat):Int)) (by omega) (by omega) (by omega) ?_;refine (impl_bitOf _ _).mono ?_;rintro _ w17 ⟨rfl,e16⟩;refine SemK.or ?_;exact ⟨by simp only [*],(xt e14 e16)⟩
  · have hd:digitN c=false:=by simp [digitN];omega
    have ho:=orC (a:=2) (c:=c) (o:=73) (.inr (.inl ⟨rfl,h.1,h.2,rfl⟩));have hcs:(c:Int) - 73=((c - 74+1:Nat):Int):=by omega
    have hcs2:(c:Int) - (73:Nat)=((c - 74+1:Nat):Int):=by omega
    rw [codeC_J h,hcs];rw [hcs2] at ho;refine oV Tryz.func309 ?_;refine IfB.no (by omega) ?_;refine IfB.no (by omega) ?_;refine IfB.no (by omega) ?_;refine (impl_isDigit _ _).mono ?_;rintro _ _ ⟨rfl,rfl⟩;refine IfB.eqf (by simp [*];done) ?_;refine IfB.yes (by omega) ?_;refine IfB.no (by omega) ?_;refine IfB.yes (by omega) ?_;refine IfB.yes (by omega) ?_;refine (impl_bitOf _ _).mono ?_;rintro _ w15 ⟨rfl,e14⟩;refine SemK.wsub ?_;(conv=>whnf);rw [u8_wrap (by omega) (by omega),show (c:Int) - 74=((c - 74:Nat):Int) from by omega];refine SemK.conv (by kernel_rfl) (by kernel_rfl) (i64_wrap (by omega) (by omega)) ?_
    refine SemK.add (((c - 74+1:Nat):Int)) (by omega) (by omega) (by omega) ?_;refine (impl_bitOf _ _).mono ?_;rintro _ w17 ⟨rfl,e16⟩;refine SemK.or ?_;exact ⟨by simp only [*],(xt e14 e16)⟩
  · have hd:digitN c=false:=by simp [digitN];omega
    have ho:=orC (a:=4) (c:=c) (o:=81) (.inr (.inr ⟨rfl,h.1,h.2,rfl⟩));have hcs:(c:Int) - 81=((c - 83+2:Nat):Int):=by omega
    have hcs2:(c:Int) - (81:Nat)=((c - 83+2:Nat):Int):=by omega
    rw [codeC_S h,hcs];rw [hcs2] at ho;refine oV Tryz.func309 ?_;refine IfB.no (by omega) ?_;refine IfB.no (by omega) ?_;refine IfB.no (by omega) ?_;refine (impl_isDigit _ _).mono ?_;rintro _ _ ⟨rfl,rfl⟩;refine IfB.eqf (by simp [*];done) ?_;refine IfB.yes (by omega) ?_;refine IfB.no (by omega) ?_;refine IfB.yes (by omega) ?_;refine IfB.no (by omega) ?_;refine IfB.no (by omega) ?_;refine IfB.yes (by omega) ?_;refine IfB.yes (by omega) ?_;refine (impl_bitOf _ _).mono ?_;rintro _ w15 ⟨rfl,e14⟩;refine SemK.wsub ?_;(conv=>whnf);rw [u8_wrap (by omega) (by omega),show (c:Int) - 83=((c - 83:Nat):Int) from by omega];refine SemK.conv (by kernel_rfl) (by kernel_rfl) (i64_wrap (by omega) (by omega)) ?_
    refine SemK.add (((c - 83+2:Nat):Int)) (by omega) (by omega) (by omega) ?_;refine (impl_bitOf _ _).mono ?_;rintro _ w17 ⟨rfl,e16⟩;refine SemK.or ?_;exact ⟨by simp only [*],(xt e14 e16)⟩
theorem impl_codeOf {c:Nat} (hc:CharK c) (w:World):Does Tryz.prog 255 [.int .u8 c] w (fun v w'=>v = .int .i64 (codeC c)∧Ext w w'):=by
  refine oV Tryz.func255 ?_;refine (impl_CodeOf hc _).mono ?_;rintro _ w2 ⟨rfl,e1⟩;exact ⟨rfl,e1⟩
theorem impl_rankOf (m:Int) (w:World):Does Tryz.prog 257 [.int .i64 m] w (fun v w'=>v = .int .i64 (rankM m)∧Ext w w'):=by
  refine oV Tryz.func257 ?_;refine lR [0,3] (fun (k:Nat) vs w'=>vs=[.int .i64 m,.int .i64 k]∧k≤40∧(∀ j:Nat,j<k→codeAt j≠m)∧Ext w w') (fun k=>40 - k) 0 ⟨rfl,by omega,fun j hj=>by omega,Ext.refl _⟩ ?_;rintro k g _ w3 ⟨rfl,hk,hall,hX⟩;rcases Nat.lt_or_ge k 40 with hkn | hkn
  · have hx:(ByteArray.mk #[32,38,65,66,67,68,69,70,71,72,73,45,74,75,76,77,78,79,80,81,82,47,83,84,85,86,87,88,89,90,48,49,50,51,52,53,54,55,56,57]).data.toList[k]? = some (charAt k):=charL_get hkn;have hck:=char_kind hkn;by_cases hm:codeC (charAt k).toNat=m
    · have hr:=rankM_is hkn hall hm;rw [hr];refine IfB.yes (by omega) ?_;refine jC k rfl hx ?_;refine (impl_codeOf (by assumption) _).mono ?_;rintro _ w5 ⟨rfl,e4⟩;refine IfB.yes (by omega) ?_;exact ⟨rfl,(xt hX e4)⟩
    · have hnext:∀ j:Nat,j<k+1→codeAt j≠m:=fun j hj=>by
        by_cases e:j=k
        · subst e;exact hm
        · exact hall j (by omega)
      refine IfB.yes (by omega) ?_;refine jC k rfl hx ?_;refine (impl_codeOf (by assumption) _).mono ?_;rintro _ w5 ⟨rfl,e4⟩;refine IfB.no (by omega) ?_;refine SemK.add (((k+1:Nat):Int)) (by omega) (by omega) (by omega) ?_;exact ⟨k+1,by omega,rfl,by omega,by omega,(xt hX e4)⟩
  · have hr:=rankM_none (m:=m) (fun j hj=>hall j (by omega));rw [hr];refine IfB.no (by omega) ?_;exact ⟨rfl,hX⟩
end Go.Proofs.YthadkoinmohmlaaGreatDoor
namespace Go.M
open Go Go.Vc
def kbytes (r:List Int):List UInt8:=r.map fun k=>charAt k.toNat
theorem kbytes_len (r:List Int):(kbytes r).length=r.length:=by simp [kbytes]
theorem kbytes_take {l:List Int} {k:Nat} {x:Int} (h:l[k]? = some x):kbytes (ranks (l.take (k+1)))=kbytes (ranks (l.take k))++[charAt (rankM x).toNat]:=by
  rw [List.take_add_one,h];simp [kbytes,ranks]
end Go.M
namespace Go.Proofs.YthadkoinmohmlaaGreatDoor
open Go Go.RowKit Go.Vc Go.M
theorem impl_textOf {w:World} {a:Option Addr} {n c:Nat} {xs:List Int} (h:Arr eI 1 w a n xs) (hh:hasB xs=true) (hn2:n≤1000) :
    Does Tryz.prog 187 [.slice a n c] w (fun v w'=>v = .string (txt (ranks xs))∧Ext w w'):=by
  have hn:=h.len;refine oV Tryz.func187 ?_;refine bS mk_22 (vs:=[]) ?_;intro b1 w1 g1 l1 e1 B1;have G1:=Grow.new0 (enc:=eB) eB_len B1 g1;refine lR [0,3,7,8,9] (fun (k:Nat) vs w'=>∃ a3 m3 c3,vs=[.slice a n c,.slice a3 m3 c3,.slice a n c,.int .i64 n,.int .i64 k]∧k≤n∧Grow eB 1 w.heap.size 5 w' a3 m3 c3 (kbytes (ranks (xs.take k)))∧Ext w w') (fun k=>n - k) 0 ⟨_,_,_,rfl,by omega,G1,e1⟩ ?_;rintro k g _ w' ⟨a3,m3,c3,rfl,hk,G,hE⟩;have hm:=G.len;rw [kbytes_len,ranks_len,List.length_take] at hm;rcases Nat.lt_or_ge k n with hkn | hkn
  · obtain ⟨x,hx⟩:∃ x,xs[k]? = some x:=get_of_lt (by omega);have hr:=hasB_get hh hx;have hr2:=rankM_b x;have hc2:(ByteArray.mk #[32,38,65,66,67,68,69,70,71,72,73,45,74,75,76,77,78,79,80,81,82,47,83,84,85,86,87,88,89,90,48,49,50,51,52,53,54,55,56,57]).data.toList[(rankM x).toNat]? = some (charAt (rankM x).toNat):=charL_get (by omega);have hct:=kbytes_take hx;refine IfB.yes (by omega) ?_;refine jI (h.ext hE) k rfl hx ?_;intro b5 o5 ha5 hb5;refine jO hb5 rfl ?_;refine (impl_rankOf _ _).mono ?_;rintro _ w7 ⟨rfl,e6⟩;refine jC (rankM x).toNat (by omega) hc2 ?_;refine bS mk_22 (vs:=[Value.int IntKind.u8 ↑(charAt (rankM x).toNat).toNat]) ?_;intro b8 w8 g8 l8 e8 B8;have G8:=Grow.of_blk (n:=1) (enc:=eB) (xs:=[charAt (rankM x).toNat]) eB_len B8 g8 rfl (by decide);refine SemK.appendArr0 (enc:=eB) mk_22 eB_len (G.ext (xt e6 e8)) (G8.own.arr eB_len) (by intro y _;simp [eB,cellish]) (by omega) (by omega) (Below.size (xt (xt hE e6) e8)) ?_;intro a9 c9 w9 G9 m9 i9;refine SemK.add (((k+1:Nat):Int)) (by omega) (by omega) (by omega) ?_;refine ⟨k+1,by omega,_,_,_,rfl,by omega,?_,(xm (xt (xt hE e6) e8) m9 (blkIn_new G.new))⟩
    · rw [hct];exact G9
  · rw [List.take_of_length_le (by omega)] at G;refine IfB.no (by omega) ?_;refine SemK.toStrG (by kernel_rfl) (by kernel_rfl) G ?_;exact ⟨rfl,hE⟩
theorem impl_hasCharacters1 (x:Int) (w:World):Does Tryz.prog 256 [.int .i64 x] w (fun v w'=>v = .bool (decide (rankM x<0))∧Ext w w'):=by
  have hr:=rankM_b x;refine oV Tryz.func256 ?_;refine (impl_rankOf _ _).mono ?_;rintro _ w3 ⟨rfl,e2⟩;exact ⟨rfl,e2⟩
theorem impl_hasCharacters {w:World} {a:Option Addr} {n c:Nat} {xs:List Int} (h:Arr eI 1 w a n xs):Does Tryz.prog 186 [.slice a n c] w (fun v w'=>v = .bool (hasB xs)∧Ext w w'):=by
  have hA:=hasB_any xs;have hC:∀ u,Ext w u→Does Tryz.prog 62 [.slice a n c,.func (.func 256) ⟨[]⟩ ⟨[]⟩] u (fun v w'=>v = .bool (!hasB xs)∧Ext u w'):=fun u e=>by
    have:=lib_ContainsFuncInt (c:=c) (h.ext e) (p:=fun n=>decide (rankM n<0)) (g:=256) (cap:=[]) (fun x _ w' _=>impl_hasCharacters1 x w');rw [hA] at this;exact this
  refine oV Tryz.func186 ?_;refine (hC _ (Ext.refl _)).mono ?_;rintro _ w2 ⟨rfl,e1⟩;exact ⟨by simp [*],e1⟩
theorem impl_hasField {w:World} {d:Hd} {xs:List Int} (R:RCard w d xs) {f:TField} (hf:fieldB f xs.length=true) :
    Does Tryz.prog 262 [.agg ⟨eH d⟩,.agg ⟨f.enc⟩] w (fun v w'=>v = .bool (hasB (partOf xs f))∧Ext w w'):=by
  obtain ⟨A,hnc⟩:=R;have hn:=A.len;have hb:=fieldB_b hf;obtain ⟨f1,f2⟩:=f;simp only at hb;obtain ⟨p,rfl⟩:∃ p:Nat,f1=p:=⟨f1.toNat,by omega⟩;obtain ⟨q,rfl⟩:∃ q:Nat,f2=q:=⟨f2.toNat,by omega⟩;unfold partOf;simp only [Int.toNat_natCast];refine oV Tryz.func262 ?_;refine SemK.box ?_;intro b1 w1 g1 l1 e1 B1;refine SemK.box ?_;intro b2 w2 g2 l2 e2 B2;refine jL (B1.ext e2).cells (k:=0) rfl ?_;refine jL B2.cells (k:=0) rfl ?_;refine jL B2.cells (k:=1) rfl ?_;refine SemK.slice (k := .i64) (k' := .i64) (by kernel_rfl) (A.ext (xt e1 e2)) p q (by omega) (by omega) hnc (.inr (by rfl)) (.inr (by rfl)) ?_;intro a9 A9;refine (impl_hasCharacters A9).mono ?_;rintro _ w11 ⟨rfl,e10⟩;exact ⟨rfl,(xt (xt e1 e2) e10)⟩
theorem impl_fieldText {w:World} {d:Hd} {xs:List Int} (R:RCard w d xs) {f:TField} (hf:fieldB f xs.length=true) (hx20:xs.length≤20) (hh:hasB (partOf xs f)=true) :
    Does Tryz.prog 134 [.agg ⟨eH d⟩,.agg ⟨f.enc⟩] w (fun v w'=>v = .string (txt (ckey f xs))∧Ext w w'):=by
  obtain ⟨A,hnc⟩:=R;have hn:=A.len;have hb:=fieldB_b hf;unfold ckey;obtain ⟨f1,f2⟩:=f;simp only at hb;obtain ⟨p,rfl⟩:∃ p:Nat,f1=p:=⟨f1.toNat,by omega⟩;obtain ⟨q,rfl⟩:∃ q:Nat,f2=q:=⟨f2.toNat,by omega⟩;unfold partOf at *;simp only [Int.toNat_natCast] at *;refine oV Tryz.func134 ?_;refine SemK.box ?_;intro b21 w21 g21 l21 e21 B21;refine SemK.box ?_;intro b22 w22 g22 l22 e22 B22;refine jL (B21.ext e22).cells (k:=0) rfl ?_;refine jL B22.cells (k:=0) rfl ?_;refine jL B22.cells (k:=1) rfl ?_;refine SemK.slice (k := .i64) (k' := .i64) (by kernel_rfl) (A.ext (xt e21 e22)) p q (by omega) (by omega) hnc (.inr (by rfl)) (.inr (by rfl)) ?_;intro a9 A9;refine (impl_textOf A9 hh (by omega)).mono ?_;rintro _ w24 ⟨rfl,e23⟩;exact ⟨rfl,(xt (xt e21 e22) e23)⟩
theorem impl_compareHoles {w:World} {a a':Option Addr} {n c c':Nat} {xs ys:List Int} (h:Arr eI 1 w a n xs) (h':Arr eI 1 w a' n ys):Does Tryz.prog 314 [.slice a n c,.slice a' n c'] w (fun v w'=>v = .int .i64 (cmpR (ranks xs) (ranks ys))∧Ext w w'):=by
  have hn:=h.len;have hn':=h'.len;have hm:=h.le;have hrl:=ranks_len xs;have hsl:=ranks_len ys;refine oV Tryz.func314 ?_;refine lR [0,1,9,10] (fun (k:Nat) vs w'=>vs=[.slice a n c,.slice a' n c',.int .i64 n,.int .i64 k]∧k≤n∧(ranks xs).take k=(ranks ys).take k∧Ext w w') (fun k=>n - k) 0 ⟨rfl,by omega,rfl,Ext.refl _⟩ ?_;rintro k g _ w3 ⟨rfl,hk,hpre,hX⟩;rcases Nat.lt_or_ge k n with hkn | hkn
  · obtain ⟨x,hx⟩:∃ x,xs[k]? = some x:=get_of_lt (by omega);obtain ⟨y,hy⟩:∃ y,ys[k]? = some y:=get_of_lt (by omega);have hrx:=ranks_get hx;have hry:=ranks_get hy;rcases Int.lt_trichotomy (rankM x) (rankM y) with hxy | hxy | hxy
    · rw [cmpR_less hpre hrx hry hxy];refine IfB.yes (by omega) ?_;refine dH [(0,false),(1,false),(2,false),(3,false),(5,false),(6,false),(7,false),(8,false),(4,true),(9,true),(10,true),(11,true)] ?_;intro w4 e4;refine dI (h.ext hX) k rfl hx ?_;intro b6 o6 ha6 hb6;refine dO hb6 rfl ?_;refine dI (h'.ext hX) k rfl hy ?_;intro b8 o8 ha8 hb8;refine dO hb8 rfl ?_;refine (impl_rankOf _ _).mono ?_;rintro _ w10 ⟨rfl,e9⟩;refine ⟨(xt e4 e9),?_⟩;refine (impl_rankOf _ _).mono ?_;rintro _ w12 ⟨rfl,e11⟩;refine ⟨(xt (xt e4 e9) e11),?_⟩;refine IfB.yes (by omega) ?_;exact ⟨rfl,(xt (xt (xt hX e4) e9) e11)⟩
    · rw [← hxy] at hry;have hnext:=take_both hpre hrx hry;refine IfB.yes (by omega) ?_;refine dH [(0,false),(1,false),(2,false),(3,false),(5,false),(6,false),(7,false),(8,false),(4,true),(9,true),(10,true),(11,true)] ?_;intro w4 e4;refine dI (h.ext hX) k rfl hx ?_;intro b6 o6 ha6 hb6;refine dO hb6 rfl ?_;refine dI (h'.ext hX) k rfl hy ?_;intro b8 o8 ha8 hb8;refine dO hb8 rfl ?_;refine (impl_rankOf _ _).mono ?_;rintro _ w10 ⟨rfl,e9⟩;refine ⟨(xt e4 e9),?_⟩;refine (impl_rankOf _ _).mono ?_;rintro _ w12 ⟨rfl,e11⟩;refine ⟨(xt (xt e4 e9) e11),?_⟩;refine IfB.no (by omega) ?_;refine IfB.no (by omega) ?_;refine SemK.add (((k+1:Nat):Int)) (by omega) (by omega) (by omega) ?_;exact ⟨k+1,by omega,rfl,by omega,by omega,(xt (xt (xt hX e4) e9) e11)⟩
    · rw [cmpR_more hpre hrx hry hxy];refine IfB.yes (by omega) ?_;refine dH [(0,false),(1,false),(2,false),(3,false),(5,false),(6,false),(7,false),(8,false),(4,true),(9,true),(10,true),(11,true)] ?_;intro w4 e4;refine dI (h.ext hX) k rfl hx ?_;intro b6 o6 ha6 hb6;refine dO hb6 rfl ?_;refine dI (h'.ext hX) k rfl hy ?_;intro b8 o8 ha8 hb8;refine dO hb8 rfl ?_;refine (impl_rankOf _ _).mono ?_;rintro _ w10 ⟨rfl,e9⟩;refine ⟨(xt e4 e9),?_⟩;refine (impl_rankOf _ _).mono ?_;rintro _ w12 ⟨rfl,e11⟩;refine ⟨(xt (xt e4 e9) e11),?_⟩;refine IfB.no (by omega) ?_;refine IfB.yes (by omega) ?_;exact ⟨rfl,(xt (xt (xt hX e4) e9) e11)⟩
  · rw [cmpR_done (n := n) (by have hkn : k = n := by omega
                               subst hkn;exact hpre) (by omega) (by omega)]
    refine IfB.no (by omega) ?_;exact ⟨rfl,hX⟩
theorem impl_compareFields {w:World} {d d':Hd} {xs ys:List Int} (R:RCard w d xs) (R':RCard w d' ys) {f:TField} (hf:fieldB f xs.length=true) (hf':fieldB f ys.length=true) :
    Does Tryz.prog 265 [.agg ⟨eH d⟩,.agg ⟨eH d'⟩,.agg ⟨f.enc⟩] w (fun v w'=>v = .int .i64 (cmpR (ckey f xs) (ckey f ys))∧Ext w w'):=by
  obtain ⟨A,hnc⟩:=R;obtain ⟨A',hnc'⟩:=R';have hn:=A.len;have hn':=A'.len;have hb:=fieldB_b hf;have hb':=fieldB_b hf';unfold ckey;obtain ⟨f1,f2⟩:=f;simp only at hb hb';obtain ⟨p,rfl⟩:∃ p:Nat,f1=p:=⟨f1.toNat,by omega⟩;obtain ⟨q,rfl⟩:∃ q:Nat,f2=q:=⟨f2.toNat,by omega⟩;unfold partOf at *;simp only [Int.toNat_natCast] at *;refine oV Tryz.func265 ?_;refine SemK.box ?_;intro b1 w1 g1 l1 e1 B1;refine SemK.box ?_;intro b2 w2 g2 l2 e2 B2;refine SemK.box ?_;intro b3 w3 g3 l3 e3 B3;refine dH [(0,false),(1,false),(2,false),(3,false),(4,false),(5,false),(6,false),(7,false),(8,false),(9,false),(10,false),(11,true),(12,true),(13,true),(14,true),(15,true)] ?_;intro w4 e4;refine dL (B1.ext (xt e2 e3)).cells (k:=0) rfl ?_;refine dL B3.cells (k:=0) rfl ?_;refine dL B3.cells (k:=1) rfl ?_;refine DSemK.slice (k := .i64) (k' := .i64) (by kernel_rfl) (A.ext (xt (xt e1 e2) e3)) p q (by omega) (by omega) hnc (.inr (by rfl)) (.inr (by rfl)) ?_;intro a9 A9;refine dL (B2.ext e3).cells (k:=0) rfl ?_;refine dL B3.cells (k:=0) rfl ?_;refine jL (B3.ext e4).cells (k:=1) rfl ?_;refine ⟨e4,?_⟩;refine SemK.slice (k := .i64) (k' := .i64) (by kernel_rfl) (A'.ext (xt (xt (xt e1 e2) e3) e4)) p q (by omega) (by omega) hnc' (.inr (by rfl)) (.inr (by rfl)) ?_;intro a10 A10;refine ⟨e4,?_⟩;refine (impl_compareHoles (A9.ext e4) A10).mono ?_;rintro _ w12 ⟨rfl,e11⟩;refine ⟨(xt e4 e11),?_⟩;exact ⟨rfl,(xt (xt (xt (xt e1 e2) e3) e4) e11)⟩
end Go.Proofs.YthadkoinmohmlaaGreatDoor
