/- Contracts of functions of the given program, of the reference and of the laws: each says what a call returns, for all arguments that meet the premises that the theorem itself names. -/
import Derived.Test.YthadkoinmohmlaaGreatDoorVcApp
import Derived.Test.YthadkoinmohmlaaGreatDoorBasics
import Derived.Test.YthadkoinmohmlaaGreatDoorStab
import Derived.Test.YthadkoinmohmlaaGreatDoorVcWrite
namespace Go.M
open Go Go.Vc
theorem Swo.put {r:Int→Int→Prop} (hs:Swo r) {S1 S2:List Int} {x:Int} (h:(S1++S2).Pairwise (Lex r)) (h1:S1=[]∨∃ z,S1.getLast? = some z∧Lex r z x) (h2:S2=[]∨∃ z,S2.head? = some z∧Lex r x z) :
    (S1++x :: S2).Pairwise (Lex r):=by
  refine hs.inserted h (fun y hy=>?_) h1;rcases h2 with rfl | ⟨z,hz,hxz⟩
  · cases hy
  · cases S2 with
    | nil=>cases hy
    | cons a S =>
      simp at hz;subst hz;rcases List.mem_cons.1 hy with rfl | hy
      · exact hxz
      · exact hs.lexTr hxz ((List.pairwise_cons.1 (List.pairwise_append.1 h).2.1).1 y hy)
theorem take_last {α:Type} {A:List α} {k:Nat} {x:α} (h:A[k]? = some x):(A.take (k+1)).getLast? = some x:=by
  rw [take_next h];simp
theorem drop_head {α:Type} {A:List α} {k:Nat} {x:α} (h:A[k]? = some x):(A.drop k).head? = some x:=by
  rw [drop_next h];rfl
theorem rise_take {L:List Int} (h:Rise L) {k:Nat} {x:Int} (hx:L[k]? = some x):∀ y∈L.take k,y<x:=by
  have e:L=L.take k++x :: L.drop (k+1):=by
    have:=List.take_append_drop k L;rw [drop_next hx] at this;exact this.symm
  intro y hy;unfold Rise at h;rw [e] at h;exact (List.pairwise_append.1 h).2.2 y hy x (by simp)
theorem sortL_mem' {r:Int→Int→Prop} {L:List Int} {z:Int} (h:z∈sortL r L):z∈L:=(sortL_perm r L).subset h
theorem rise_nodup {L:List Int} (h:Rise L):L.Nodup:=h.imp (fun h=>by omega)
theorem rise_sub {L M:List Int} (h:Rise L) (hs:M.Sublist L):Rise M:=h.sublist hs
theorem Swo.ins_done {r:Int→Int→Prop} (hs:Swo r) {L:List Int} (hL:Rise L) {k m:Nat} {x:Int} (hx:L[k]? = some x) (h2:∀ y∈(Go.M.sortL r (L.take k)).drop m,Lex r x y)
    (h1:m=0∨∃ z,(Go.M.sortL r (L.take k))[m - 1]? = some z∧Lex r z x) :
    (Go.M.sortL r (L.take k)).take m++x :: (Go.M.sortL r (L.take k)).drop m=Go.M.sortL r (L.take (k+1)):=by
  have hnd:(L.take (k+1)).Nodup:=rise_nodup (rise_sub hL (List.take_sublist _ _));have hsM:=hs.sortL (rise_nodup (rise_sub hL (List.take_sublist k L)));have hpM:=sortL_perm r (L.take k);generalize Go.M.sortL r (L.take k)=M at *;refine hs.is hnd ?_ ?_
  · rw [take_next hx];have e:(M.take m++x :: M.drop m).Perm (x :: M):=by
      have:=List.perm_middle (a:=x) (l₁:=M.take m) (l₂:=M.drop m);rwa [List.take_append_drop] at this
    refine e.trans ((hpM.cons x).trans ?_);exact (List.perm_append_singleton x _).symm
  · refine hs.inserted (by rwa [List.take_append_drop]) h2 ?_;rcases h1 with rfl | ⟨z,hz,hzx⟩
    · exact .inl (by simp)
    · by_cases hm:m=0
      · subst hm;exact .inl (by simp)
      · right;refine ⟨z,?_,hzx⟩;have:=take_last hz;rwa [show m - 1+1=m by omega] at this
theorem sortL_one {r:Int→Int→Prop} (L:List Int):Go.M.sortL r (L.take 1)++L.drop 1=L:=by
  cases L with
  | nil=>rfl
  | cons x L=>simp [Go.M.sortL,Go.M.insL]
theorem sortL_len' (r:Int→Int→Prop) (L:List Int):(Go.M.sortL r L).length=L.length:=(sortL_perm r L).length_eq
end Go.M
namespace Go.Proofs.YthadkoinmohmlaaGreatDoor
open Go Go.RowKit Go.Vc Go.M
theorem lib_swapRangeInt {w:World} {b n c t:Nat} {F:Value} {A X Y Z B:List Int} (h:Own eI w (some ⟨b,0,none⟩) n t (A++(X++(Y++(Z++B))))) {p q m:Nat} (hp:A.length=p) (hm:X.length=m) (hz:Z.length=m) (hq:p+m+Y.length=q) (hn6:n≤1000000) :
    Does Tryz.prog 368 [.slice (some ⟨b,0,none⟩) n c,.int .i64 p,.int .i64 q,.int .i64 m,F] w (fun v w'=>v = .tuple #[]∧Mod (blkIn (some ⟨b,0,none⟩)) w w'∧Own eI w' (some ⟨b,0,none⟩) n t (A++(Z++(Y++(X++B))))):=by
  have hn:=h.1;simp only [List.length_append] at hn;refine oV Tryz.func368 ?_;refine lR [0,1,2,3,10] (fun (k:Nat) vs w'=>vs=[.slice (some ⟨b,0,none⟩) n c,.int .i64 p,.int .i64 q,.int .i64 m,.int .i64 k]∧k≤m∧Mod (blkIn (some ⟨b,0,none⟩)) w w'∧Own eI w' (some ⟨b,0,none⟩) n t (A++(Z.take k++(X.drop k++(Y++(X.take k++(Z.drop k++B))))))) (fun k=>m - k) 0 ⟨rfl,by omega,Vc.Mod.refl _ _,by simpa using h⟩ ?_;rintro k g _ w' ⟨rfl,hk,hM,hO⟩;by_cases hkm:k<m
  · obtain ⟨x,hx⟩:∃ x,X[k]? = some x:=get_of_lt (by omega);obtain ⟨z,hzz⟩:∃ x,Z[k]? = some x:=get_of_lt (by omega);have e1:A++(Z.take k++(X.drop k++(Y++(X.take k++(Z.drop k++B)))))=(A++Z.take k)++x :: ((X.drop (k+1)++(Y++X.take k))++z :: (Z.drop (k+1)++B)):=by
      rw [drop_next hx,drop_next hzz];simp
    have l1:(A++Z.take k).length=p+k:=by simp;omega
    have l2:(A++Z.take k).length+1+(X.drop (k+1)++(Y++X.take k)).length=q+k:=by simp;omega
    have hsw:=swap_at (x:=x) (y:=z) (Z:=Z.drop (k+1)++B) l1 l2;have q1:=Go.M.get_at (x:=x) (B:=(X.drop (k+1)++(Y++X.take k))++z :: (Z.drop (k+1)++B)) l1;have q2:=get_at2 (x:=x) (y:=z) (Z:=Z.drop (k+1)++B) l2;have e2:(A++Z.take k)++z :: ((X.drop (k+1)++(Y++X.take k))++x :: (Z.drop (k+1)++B))=A++(Z.take (k+1)++(X.drop (k+1)++(Y++(X.take (k+1)++(Z.drop (k+1)++B))))):=by
      rw [take_next hx,take_next hzz];simp
    rw [e2] at hsw;rw [e1] at hO;generalize (A++Z.take k)++x :: ((X.drop (k+1)++(Y++X.take k))++z :: (Z.drop (k+1)++B))=xs at *;have hxn:=hO.1;have q3:(xs.set (p+k) z)[q+k]? = some z:=by rw [List.getElem?_set_ne (by omega)];exact q2
    clear e1 e2 l1 l2 h;refine IfB.yes (by omega) ?_;refine DrawK.writes tabok mixed [(0,.any),(1,.any),(2,.any),(3,.any),(4,.any),(5,.any),(6,.any),(7,.any),(8,.any),(9,.any),(10,.any),(11,.any),(12,.any),(14,.any),(15,.any),(16,.any),(17,.any),(18,.any),(13,.held),(19,.held),(20,.any),(21,.write),(22,.any),(23,.write)] (by kernel_rfl) (by kernel_rfl) ?_;intro w7 e7;refine PSemK.add (((p+k:Nat):Int)) (by omega) (by omega) (by omega) ?_;refine PSemK.add (((q+k:Nat):Int)) (by omega) (by omega) (by omega) ?_;refine PSemK.add (((q+k:Nat):Int)) (by omega) (by omega) (by omega) ?_;refine pW (sz:=1) (q+k) rfl (by omega) ?_;have hb9:=Own.elem eI_len hO q2;refine PSemK.add (((p+k:Nat):Int)) (by omega) (by omega) (by omega) ?_;refine pW (sz:=1) (p+k) rfl (by omega) ?_;have hb11:=Own.elem eI_len hO q1;refine dO hb9 rfl ?_;refine dO hb11 rfl ?_;refine pW (sz:=1) (p+k) rfl (by omega) ?_;have hb13:=Own.elem eI_len hO q1;refine SemK.storeOwn1 (k:=p+k) (j:=0) (by kernel_rfl) eI_len (hO.ext e7) q1 (by decide) rfl (z) rfl ?_;intro w14 c14 B14;have hx14:=set_get q1 ((z));refine pW (sz:=1) (q+k) rfl (by omega) ?_;have hb16:=Own.elem eI_len hO q2;refine SemK.storeOwn1 (k:=q+k) (j:=0) (by kernel_rfl) eI_len B14 q3 (by decide) rfl (x) rfl ?_;intro w17 c17 B17;have hx17:=set_get q3 ((x));refine SemK.add (((k+1:Nat):Int)) (by omega) (by omega) (by omega) ?_;exact ⟨k+1,by omega,rfl,by omega,(((hM.trans e7.mod).trans (c14.but.mono (fun i hi=>⟨_,rfl,hi⟩))).trans (c17.but.mono (fun i hi=>⟨_,rfl,hi⟩))),by simpa [List.take_add_one,-List.take_append_getElem, *] using B17⟩
  · have e:k=m:=by omega
    subst e;rw [List.take_of_length_le (by omega),List.take_of_length_le (by omega),List.drop_eq_nil_of_le (by omega),List.drop_eq_nil_of_le (by omega)] at hO;refine IfB.no (by omega) ?_;exact ⟨rfl,hM,hO⟩
theorem lib_insertionInt {r:Int→Int→Prop} (hs:Swo r) {cmp:Int→Int→Int} (hr:∀ i j,cmp i j<0↔r i j) (hi:∀ i j,i64ok (cmp i j)) {w:World} {b n c t g:Nat} {cap:List Value} {A L B:List Int} (h:Own eI w (some ⟨b,0,none⟩) n t (A++(L++B))) (hL:Rise L)
    (hg:∀ i∈L,∀ j∈L,∀ w',Mod (blkIn (some ⟨b,0,none⟩)) w w'→Does Tryz.prog g (.int .i64 i :: .int .i64 j :: cap) w' (fun v w''=>v = .int .i64 (cmp i j)∧Ext w' w''))
    {p q:Nat} (hp:A.length=p) (hq:p+L.length=q) (hn6:n≤1000000) :
    Does Tryz.prog 343 [.slice (some ⟨b,0,none⟩) n c,.int .i64 p,.int .i64 q,.func (.func g) ⟨[]⟩ ⟨cap⟩] w (fun v w'=>v = .tuple #[]∧Mod (blkIn (some ⟨b,0,none⟩)) w w'∧Own eI w' (some ⟨b,0,none⟩) n t (A++(sortL r L++B))):=by
  have hn:=h.1;simp only [List.length_append] at hn;have hnd:L.Nodup:=hL.imp (fun h=>by omega);refine oV Tryz.func343 ?_;refine SemK.add (((p+1:Nat):Int)) (by omega) (by omega) (by omega) ?_;refine lR [0,1,2,3,8] (fun (k:Nat) vs w'=>vs=[.slice (some ⟨b,0,none⟩) n c,.int .i64 p,.int .i64 q,.func (.func g) ⟨[]⟩ ⟨cap⟩,.int .i64 (p+k:Nat)]∧1≤k∧(k≤L.length∨k=1)∧Mod (blkIn (some ⟨b,0,none⟩)) w w'∧Own eI w' (some ⟨b,0,none⟩) n t (A++(sortL r (L.take k)++(L.drop k++B)))) (fun k=>L.length+1 - k) 1 ⟨rfl,by omega,by omega,Vc.Mod.refl _ _,by rw [← List.append_assoc (sortL r (L.take 1)),sortL_one];exact h⟩ ?_;rintro k g' _ w' ⟨rfl,hk1,hk,hM,hO⟩;by_cases hkn:k<L.length
  · obtain ⟨x,hx⟩:∃ x,L[k]? = some x:=get_of_lt hkn;have hxL:=List.mem_of_getElem? hx;have hlt:=rise_take hL hx;have hMl:=sortL_len' r (L.take k);have hMm:∀ z∈sortL r (L.take k),z∈L.take k:=fun z hz=>sortL_mem' hz;have hdone:=fun m=>hs.ins_done (m:=m) hL hx;rw [List.length_take] at hMl;generalize sortL r (L.take k)=M at *;refine IfB.yes (by omega) ?_;refine lR [0,1,2,3,8,9] (fun (m:Nat) vs w2=>vs=[.slice (some ⟨b,0,none⟩) n c,.int .i64 p,.int .i64 q,.func (.func g) ⟨[]⟩ ⟨cap⟩,.int .i64 (p+k:Nat),.int .i64 (p+m:Nat)]∧m≤k∧(∀ y∈M.drop m,Lex r x y)∧Mod (blkIn (some ⟨b,0,none⟩)) w w2∧Own eI w2 (some ⟨b,0,none⟩) n t (A++(M.take m++x :: (M.drop m++(L.drop (k+1)++B))))) (fun m=>m) k ⟨rfl,by omega,by rw [List.drop_eq_nil_of_le (by omega)];simp,hM,by rw [drop_next hx] at hO;rw [List.take_of_length_le (by omega),List.drop_eq_nil_of_le (by omega)];simpa using hO⟩ ?_;rintro m g2 _ w2 ⟨rfl,hm,hlex,hM2,hO2⟩;have l1:(A++M.take m).length=p+m:=by simp;omega
    by_cases hm0:m=0
    · subst hm0;have hd:=hdone 0 hlex (.inl rfl);have hfin:A++(M.take 0++x :: (M.drop 0++(L.drop (k+1)++B)))=A++(sortL r (L.take (k+1))++(L.drop (k+1)++B)):=by
        rw [← hd];simp
      rw [hfin] at hO2;refine dH [(0,false),(1,true),(2,true),(3,true),(4,false),(5,false),(6,false),(7,false),(8,false),(9,false),(10,true),(11,true),(12,true),(13,true),(14,true),(15,true),(16,true)] ?_;intro w7 e7;refine IfB.no (by omega) ?_;refine SemK.add (((p+k+1:Nat):Int)) (by omega) (by omega) (by omega) ?_;exact ⟨k+1,by omega,rfl,by omega,by omega,(hM2.trans (Ext.mod e7)),(hO2.ext e7)⟩
    · obtain ⟨z,hz⟩:∃ z,M[m - 1]? = some z:=get_of_lt (by omega);have hzM:=List.mem_of_getElem? hz;have hzL:z∈L:=List.mem_of_mem_take (hMm z hzM);have hzx:=hlt z (hMm z hzM);have hcm:=fun u (e:Ext w2 u)=>hg x hxL z hzL u (hM2.trans e.mod);have ht1:M.take m=M.take (m - 1)++[z]:=by
        have:=take_next hz;rwa [show m - 1+1=m by omega] at this
      have hdz:M.drop (m - 1)=z :: M.drop m:=by
        have:=drop_next hz;rwa [show m - 1+1=m by omega] at this
      have e1:A++(M.take m++x :: (M.drop m++(L.drop (k+1)++B)))=(A++M.take (m - 1))++z :: ([]++x :: (M.drop m++(L.drop (k+1)++B))):=by
        rw [ht1];simp
      have l2:(A++M.take (m - 1)).length=p+m - 1:=by simp;omega
      have hsw:=swap_at (x:=z) (y:=x) (Y:=[]) (Z:=M.drop m++(L.drop (k+1)++B)) (j:=p+m) l2 (by simp;omega);have q1:=Go.M.get_at (x:=z) (B:=[]++x :: (M.drop m++(L.drop (k+1)++B))) l2;have q2:=get_at2 (x:=z) (y:=x) (Y:=[]) (Z:=M.drop m++(L.drop (k+1)++B)) (j:=p+m) (X:=A++M.take (m - 1)) (by simp;omega);have e2:(A++M.take (m - 1))++x :: ([]++z :: (M.drop m++(L.drop (k+1)++B)))=A++(M.take (m - 1)++x :: (M.drop (m - 1)++(L.drop (k+1)++B))):=by
        rw [hdz];simp
      rw [e2] at hsw;by_cases hc:cmp x z<0
      · have hlex2:∀ y∈M.drop (m - 1),Lex r x y:=by
          rw [hdz];intro y hy;rcases List.mem_cons.1 hy with rfl | hy
          · exact .inl ((hr _ _).1 hc)
          · exact hlex y hy
        rw [e1] at hO2;generalize (A++M.take (m - 1))++z :: ([]++x :: (M.drop m++(L.drop (k+1)++B)))=xs at *;have hxn:=hO2.1;have q3:(xs.set (p+m) z)[p+m - 1]? = some z:=by rw [List.getElem?_set_ne (by omega)];exact q1
        have hsw2:(xs.set (p+m) z).set (p+m - 1) x=A++(M.take (m - 1)++x :: (M.drop (m - 1)++(L.drop (k+1)++B))):=by rw [List.set_comm _ _ (by omega)];exact hsw
        clear e1 e2 l1 l2 h hO;refine dH [(0,false),(1,true),(2,true),(3,true),(4,false),(5,false),(6,false),(7,false),(8,false),(9,false),(10,true),(11,true),(12,true),(13,true),(14,true),(15,true),(16,true)] ?_;intro w7 e7;refine IfB.yes (by omega) ?_;refine DSemK.indexOwn (sz:=1) (by kernel_rfl) (p+m) rfl (by omega) ?_;have hb9:=Own.elem eI_len hO2 q2;refine dO hb9 rfl ?_;refine SemK.sub (((p+m - 1:Nat):Int)) (by omega) (by omega) (by omega) ?_;refine ⟨e7,?_⟩;refine jW (sz:=1) (p+m - 1) rfl (by omega) ?_;have hb11:=Own.elem eI_len (hO2.ext e7) q1;refine ⟨e7,?_⟩;refine jO hb11 rfl ?_;refine ⟨e7,?_⟩;refine (hcm _ e7).mono ?_;rintro _ w13 ⟨rfl,e12⟩;refine ⟨(xt e7 e12),?_⟩;refine IfB.yes (by omega) ?_;refine DrawK.writes tabok mixed [(0,.any),(1,.any),(2,.any),(3,.any),(4,.any),(5,.any),(6,.any),(7,.any),(8,.any),(10,.any),(11,.any),(12,.any),(9,.held),(13,.held),(14,.any),(15,.write),(16,.any),(17,.write)] (by kernel_rfl) (by kernel_rfl) ?_;intro w14 e14;refine PSemK.sub (((p+m - 1:Nat):Int)) (by omega) (by omega) (by omega) ?_;refine PSemK.sub (((p+m - 1:Nat):Int)) (by omega) (by omega) (by omega) ?_;refine pW (sz:=1) (p+m - 1) rfl (by omega) ?_;have hb16:=Own.elem eI_len (hO2.ext (xt e7 e12)) q1;refine pW (sz:=1) (p+m) rfl (by omega) ?_;have hb18:=Own.elem eI_len (hO2.ext (xt e7 e12)) q2;refine dO hb16 rfl ?_;refine dO hb18 rfl ?_;refine pW (sz:=1) (p+m) rfl (by omega) ?_;have hb20:=Own.elem eI_len (hO2.ext (xt e7 e12)) q2;refine SemK.storeOwn1 (k:=p+m) (j:=0) (by kernel_rfl) eI_len (hO2.ext (xt (xt e7 e12) e14)) q2 (by decide) rfl (z) rfl ?_;intro w21 c21 B21;have hx21:=set_get q2 ((z));refine pW (sz:=1) (p+m - 1) rfl (by omega) ?_;have hb23:=Own.elem eI_len (hO2.ext (xt e7 e12)) q1;refine SemK.storeOwn1 (k:=p+m - 1) (j:=0) (by kernel_rfl) eI_len B21 q3 (by decide) rfl (x) rfl ?_;intro w24 c24 B24;have hx24:=set_get q3 ((x));refine SemK.sub (((p+m - 1:Nat):Int)) (by omega) (by omega) (by omega) ?_;exact ⟨m - 1,by omega,by rw [show p+(m - 1)=p+m - 1 by omega];rfl,by omega,hlex2,((hM2.trans (xt (xt e7 e12) e14).mod).trans (c21.but.mono (fun i hi=>⟨_,rfl,hi⟩))).trans (c24.but.mono (fun i hi=>⟨_,rfl,hi⟩)),by rw [← hsw2];exact B24⟩
      · have hd:=hdone m hlex (.inr ⟨z,hz,hs.lex_of_not hzx (fun hh=>hc ((hr _ _).2 hh))⟩);have hfin:A++(M.take m++x :: (M.drop m++(L.drop (k+1)++B)))=A++(sortL r (L.take (k+1))++(L.drop (k+1)++B)):=by
          rw [← hd];simp
        have q1':(A++(M.take m++x :: (M.drop m++(L.drop (k+1)++B))))[p+m - 1]? = some z:=by rw [e1];exact q1
        have q2':(A++(M.take m++x :: (M.drop m++(L.drop (k+1)++B))))[p+m]? = some x:=by rw [e1];exact q2
        rw [hfin] at hO2 q1' q2';have hxn:=hO2.1;clear e1 e2 l1 l2 h hO hsw;refine dH [(0,false),(1,true),(2,true),(3,true),(4,false),(5,false),(6,false),(7,false),(8,false),(9,false),(10,true),(11,true),(12,true),(13,true),(14,true),(15,true),(16,true)] ?_;intro w7 e7;refine IfB.yes (by omega) ?_;refine DSemK.indexOwn (sz:=1) (by kernel_rfl) (p+m) rfl (by omega) ?_;have hb9:=Own.elem eI_len hO2 q2';refine dO hb9 rfl ?_;refine SemK.sub (((p+m - 1:Nat):Int)) (by omega) (by omega) (by omega) ?_;refine ⟨e7,?_⟩;refine jW (sz:=1) (p+m - 1) rfl (by omega) ?_;have hb11:=Own.elem eI_len (hO2.ext e7) q1';refine ⟨e7,?_⟩;refine jO hb11 rfl ?_;refine ⟨e7,?_⟩;refine (hcm _ e7).mono ?_;rintro _ w13 ⟨rfl,e12⟩;refine ⟨(xt e7 e12),?_⟩;refine IfB.no (by omega) ?_;refine SemK.add (((p+k+1:Nat):Int)) (by omega) (by omega) (by omega) ?_;exact ⟨k+1,by omega,rfl,by omega,by omega,(hM2.trans (Ext.mod (xt e7 e12))),(hO2.ext (xt e7 e12))⟩
  · have e:L.take k=L:=List.take_of_length_le (by omega);have e2:L.drop k=[]:=List.drop_eq_nil_of_le (by omega);rw [e,e2,List.nil_append] at hO;refine IfB.no (by omega) ?_;exact ⟨rfl,hM,hO⟩
theorem lib_rotateInt {w:World} {b n c t gf:Nat} {cap:List Value} {A X Y B:List Int} (h:Own eI w (some ⟨b,0,none⟩) n t (A++(X++(Y++B)))) {p m q:Nat} (hp:A.length=p) (hm:p+X.length=m) (hq:m+Y.length=q) (hX:0<X.length) (hY:0<Y.length) (hn6:n≤1000000) :
    Does Tryz.prog 360 [.slice (some ⟨b,0,none⟩) n c,.int .i64 p,.int .i64 m,.int .i64 q,.func (.func gf) ⟨[]⟩ ⟨cap⟩] w (fun v w'=>v = .tuple #[]∧Mod (blkIn (some ⟨b,0,none⟩)) w w'∧Own eI w' (some ⟨b,0,none⟩) n t (A++(Y++(X++B)))):=by
  have hn:=h.1;simp only [List.length_append] at hn;refine oV Tryz.func360 ?_;refine SemK.sub (((m - (p):Nat):Int)) (by omega) (by omega) (by omega) ?_;refine SemK.sub (((q - (m):Nat):Int)) (by omega) (by omega) (by omega) ?_;refine lR [0,2,4,10,11] (fun (s:Nat) vs w'=>∃ (i j:Nat) (P X' Y' Q:List Int),vs=[.slice (some ⟨b,0,none⟩) n c,.int .i64 m,.func (.func gf) ⟨[]⟩ ⟨cap⟩,.int .i64 i,.int .i64 j]∧s=i+j∧X'.length=i∧Y'.length=j∧0<i∧0<j∧p+P.length+i=m∧P++(Y'++(X'++Q))=Y++X∧Mod (blkIn (some ⟨b,0,none⟩)) w w'∧Own eI w' (some ⟨b,0,none⟩) n t (A++(P++(X'++(Y'++(Q++B)))))) (fun s=>s) (X.length+Y.length) ⟨m - p,q - m,[],X,Y,[],rfl,by omega,by omega,by omega,by omega,by omega,by simp;omega,by simp,Vc.Mod.refl _ _,by simpa using h⟩ ?_;rintro s g _ w' ⟨i,j,P,X',Y',Q,rfl,hs,hi,hj,hi0,hj0,hPm,hT,hM,hO⟩;have hn2:=hO.1;simp only [List.length_append] at hn2;have hAP:(A++P).length=m - i:=by simp;omega
  by_cases hij:i=j
  · have hO1:Own eI w' (some ⟨b,0,none⟩) n t ((A++P)++(X'++([]++(Y'++(Q++B))))):=by simpa using hO
    have hSW:=lib_swapRangeInt (F := .func (.func gf) ⟨[]⟩ ⟨cap⟩) (c:=c) (p:=m - i) (q:=m) (m:=i) hO1 hAP hi (by omega) (by simp;omega) hn6;have hfin:(A++P)++(Y'++([]++(X'++(Q++B))))=A++(Y++(X++B)):=by
      rw [← List.append_assoc Y X B,← hT];simp
    rw [hfin] at hSW;have hij':(i:Int)=j:=by omega
    refine IfB.eqf (by simp [*];done) ?_;refine SemK.sub (((m - (i):Nat):Int)) (by omega) (by omega) (by omega) ?_;refine (hSW).mono ?_;rintro _ w9 ⟨rfl,m7,O8⟩;exact ⟨rfl,(hM.trans m7),O8⟩
  have hij':¬ (i:Int)=j:=by omega
  by_cases hlt:j<i
  · have hX12:X'=X'.take j++X'.drop j:=(List.take_append_drop _ _).symm;have l1:(X'.take j).length=j:=by simp;omega
    have l2:(X'.drop j).length=i - j:=by simp;omega
    generalize X'.take j=X1 at *;generalize X'.drop j=X2 at *;subst hX12;have hO1:Own eI w' (some ⟨b,0,none⟩) n t ((A++P)++(X1++(X2++(Y'++(Q++B))))):=by simpa using hO
    have hSW:=lib_swapRangeInt (F := .func (.func gf) ⟨[]⟩ ⟨cap⟩) (c:=c) (p:=m - i) (q:=m) (m:=j) hO1 hAP l1 hj (by omega) hn6;have hfin:(A++P)++(Y'++(X2++(X1++(Q++B))))=A++((P++Y')++(X2++(X1++(Q++B)))):=by simp
    rw [hfin] at hSW;have hT2:(P++Y')++(X1++(X2++Q))=Y++X:=by rw [← hT];simp
    have hPl:p+(P++Y').length+(i - j)=m:=by simp;omega
    clear hO1 hT hO hfin;generalize P++Y'=P2 at *;refine IfB.eqt (by simp [*];done) ?_;refine IfB.yes (by omega) ?_;refine SemK.sub (((m - (i):Nat):Int)) (by omega) (by omega) (by omega) ?_;refine (hSW).mono ?_;rintro _ w9 ⟨rfl,m7,O8⟩;refine SemK.sub (((i - (j):Nat):Int)) (by omega) (by omega) (by omega) ?_;exact ⟨(i - j)+j,by omega,i - j,j,P2,X2,X1,Q,rfl,rfl,l2,l1,by omega,hj0,hPl,hT2,hM.trans m7,O8⟩
  · have hY12:Y'=Y'.take (j - i)++Y'.drop (j - i):=(List.take_append_drop _ _).symm;have l1:(Y'.take (j - i)).length=j - i:=by simp;omega
    have l2:(Y'.drop (j - i)).length=i:=by simp;omega
    generalize Y'.take (j - i)=Y1 at *;generalize Y'.drop (j - i)=Y2 at *;subst hY12;have hO1:Own eI w' (some ⟨b,0,none⟩) n t ((A++P)++(X'++(Y1++(Y2++(Q++B))))):=by simpa using hO
    have hSW:=lib_swapRangeInt (F := .func (.func gf) ⟨[]⟩ ⟨cap⟩) (c:=c) (p:=m - i) (q:=m+j - i) (m:=i) hO1 hAP hi l2 (by omega) hn6;have hfin:(A++P)++(Y2++(Y1++(X'++(Q++B))))=A++(P++(Y2++(Y1++((X'++Q)++B)))):=by simp
    rw [hfin] at hSW;have hT2:P++(Y1++(Y2++(X'++Q)))=Y++X:=by rw [← hT];simp
    clear hO1 hT hO hfin;generalize X'++Q=Q2 at *;refine IfB.eqt (by simp [*];done) ?_;refine IfB.no (by omega) ?_;refine SemK.sub (((m - (i):Nat):Int)) (by omega) (by omega) (by omega) ?_;refine SemK.add (((m+j:Nat):Int)) (by omega) (by omega) (by omega) ?_;refine SemK.sub (((m+j - (i):Nat):Int)) (by omega) (by omega) (by omega) ?_;refine (hSW).mono ?_;rintro _ w9 ⟨rfl,m7,O8⟩;refine SemK.sub (((j - (i):Nat):Int)) (by omega) (by omega) (by omega) ?_;exact ⟨i+(j - i),by omega,i,j - i,P,Y2,Y1,Q2,rfl,rfl,l2,l1,hi0,by omega,hPm,hT2,hM.trans m7,O8⟩
theorem merge_one_left {r:Int→Int→Prop} (hs:Swo r) {x:Int} {R:List Int} (hR:R.Pairwise (Lex r)) (hlt:∀ y∈R,x<y) {s:Nat} (h1:s=0∨∃ y,R[s - 1]? = some y∧r y x) (h2:R.length≤s∨∃ y,R[s]? = some y∧¬ r y x) :
    (R.take s++x :: R.drop s).Perm ([x]++R)∧(R.take s++x :: R.drop s).Pairwise (Lex r):=by
  refine ⟨?_,hs.put (by rwa [List.take_append_drop]) ?_ ?_⟩
  · have:=List.perm_middle (a:=x) (l₁:=R.take s) (l₂:=R.drop s);rwa [List.take_append_drop] at this
  · rcases h1 with rfl | ⟨y,hy,hyx⟩
    · exact .inl (by simp)
    · by_cases hz:s=0
      · subst hz;exact .inl (by simp)
      · refine .inr ⟨y,?_,.inl hyx⟩;have:=take_last hy;rwa [show s - 1+1=s by omega] at this
  · rcases h2 with h | ⟨y,hy,hyx⟩
    · exact .inl (List.drop_eq_nil_of_le h)
    · exact .inr ⟨y,drop_head hy,hs.lex_of_not (hlt y (List.mem_of_getElem? hy)) hyx⟩
theorem merge_one_right {r:Int→Int→Prop} (hs:Swo r) {y:Int} {L:List Int} (hL:L.Pairwise (Lex r)) (hlt:∀ z∈L,z<y) {s:Nat} (h1:s=0∨∃ z,L[s - 1]? = some z∧¬ r y z) (h2:L.length≤s∨∃ z,L[s]? = some z∧r y z) :
    (L.take s++y :: L.drop s).Perm (L++[y])∧(L.take s++y :: L.drop s).Pairwise (Lex r):=by
  refine ⟨?_,hs.put (by rwa [List.take_append_drop]) ?_ ?_⟩
  · have:=List.perm_middle (a:=y) (l₁:=L.take s) (l₂:=L.drop s);rw [List.take_append_drop] at this;exact this.trans (List.perm_append_singleton y L).symm
  · rcases h1 with rfl | ⟨z,hz,hyz⟩
    · exact .inl (by simp)
    · by_cases h0:s=0
      · subst h0;exact .inl (by simp)
      · refine .inr ⟨z,?_,hs.lex_of_not (hlt z (List.mem_of_getElem? hz)) hyz⟩;have:=take_last hz;rwa [show s - 1+1=s by omega] at this
  · rcases h2 with h | ⟨z,hz,hyz⟩
    · exact .inl (List.drop_eq_nil_of_le h)
    · exact .inr ⟨z,drop_head hz,.inl hyz⟩
theorem get_mid {α:Type} {A L B:List α} {p i:Nat} {x:α} (hp:A.length=p) (hi:p≤i) (h:L[i - p]? = some x):(A++(L++B))[i]? = some x:=by
  rw [get_append_right' (j:=i - p) (by omega),get_append_left' (List.getElem?_eq_some_iff.1 h).1];exact h
theorem lib_symMerge1 {r:Int→Int→Prop} (hs:Swo r) {cmp:Int→Int→Int} (hr:∀ i j,cmp i j<0↔r i j) {w:World} {b n c t g:Nat} {cap:List Value} {A R B:List Int} {x:Int} (h:Own eI w (some ⟨b,0,none⟩) n t (A++([x]++(R++B)))) (hR:R.Pairwise (Lex r)) (hR0:0<R.length) (hlt:∀ y∈R,x<y)
    (hg:∀ i∈R,∀ w',Mod (blkIn (some ⟨b,0,none⟩)) w w'→Does Tryz.prog g (.int .i64 i :: .int .i64 x :: cap) w' (fun v w''=>v = .int .i64 (cmp i x)∧Ext w' w''))
    {p m q:Nat} (hp:A.length=p) (hm:p+1=m) (hq:m+R.length=q) (hn6:n≤1000000) :
    Does Tryz.prog 344 [.slice (some ⟨b,0,none⟩) n c,.int .i64 p,.int .i64 m,.int .i64 q,.func (.func g) ⟨[]⟩ ⟨cap⟩] w (fun v w'=>v = .tuple #[]∧Mod (blkIn (some ⟨b,0,none⟩)) w w'∧∃ M,M.Perm ([x]++R)∧M.Pairwise (Lex r)∧Own eI w' (some ⟨b,0,none⟩) n t (A++(M++B))):=by
  have hn:=h.1;simp only [List.length_append,List.length_cons,List.length_nil] at hn;have hx0:(A++([x]++(R++B)))[p]? = some x:=Go.M.get_at hp;have hget:∀ i y,m≤i→R[i - m]? = some y→(A++([x]++(R++B)))[i]? = some y:=fun i y hi hy=>by
    have:A++([x]++(R++B))=(A++[x])++(R++B):=by simp
    rw [this];exact get_mid (by simp;omega) hi hy
  have hpos:(m:Int) - p=1:=by omega
  refine oV Tryz.func344 ?_;refine SemK.sub 1 (by omega) (by omega) (by omega) ?_;refine lR [0,1,4,10,11] (fun (s:Nat) vs w'=>∃ i j:Nat,vs=[.slice (some ⟨b,0,none⟩) n c,.int .i64 p,.func (.func g) ⟨[]⟩ ⟨cap⟩,.int .i64 i,.int .i64 j]∧j - i≤s∧m≤i∧i≤j∧j≤q∧(i - m=0∨∃ y,R[i - m - 1]? = some y∧r y x)∧(R.length≤j - m∨∃ y,R[j - m]? = some y∧¬ r y x)∧Mod (blkIn (some ⟨b,0,none⟩)) w w'∧Own eI w' (some ⟨b,0,none⟩) n t (A++([x]++(R++B)))) (fun s=>s) (q - m) ⟨m,q,rfl,by omega,by omega,by omega,by omega,by omega,by omega,Vc.Mod.refl _ _,h⟩ ?_;rintro s g1 _ w' ⟨i,j,rfl,hsij,hmi,hij,hjq,h1,h2,hM,hO⟩;by_cases hlt2:i<j
  · obtain ⟨hh,hhe⟩:∃ hh,hh=(i+j) / 2:=⟨_,rfl⟩;obtain ⟨y,hy⟩:∃ y,R[hh - m]? = some y:=get_of_lt (by omega);have hyx:=hget hh y (by omega) hy;have hyR:=List.mem_of_getElem? hy;have hcm:=fun u (e:Ext w' u)=>hg y hyR u (hM.trans e.mod);rw [hhe] at hyx;generalize A++([x]++(R++B))=xs at *;have hxn:=hO.1;by_cases hc:cmp y x<0
    · have h1':(i+j) / 2+1 - m=0∨∃ y,R[(i+j) / 2+1 - m - 1]? = some y∧r y x := .inr ⟨y,by rw [← hhe,show hh+1 - m - 1=hh - m by omega];exact hy,(hr _ _).1 hc⟩;refine IfB.yes (by omega) ?_;refine SemK.add (((i+j:Nat):Int)) (by omega) (by omega) (by omega) ?_;refine SemK.conv (k := .u64) (by kernel_rfl) (by kernel_rfl) (u64_wrap (by omega) (by omega)) ?_
      refine SemK.half (by decide) ?_;refine SemK.conv (by kernel_rfl) (by kernel_rfl) (i64_wrap (by omega) (by omega)) ?_
      refine dH [(0,false),(1,false),(2,false),(3,false),(4,false),(5,false),(6,true),(7,true),(8,true),(9,true),(10,true)] ?_;intro w7 e7;refine DSemK.indexOwn (sz:=1) (by kernel_rfl) ((i+j) / 2) rfl (by omega) ?_;have hb9:=Own.elem eI_len hO hyx;refine dO hb9 rfl ?_;refine jW (sz:=1) p rfl (by omega) ?_;have hb11:=Own.elem eI_len (hO.ext e7) hx0;refine ⟨e7,?_⟩;refine jO hb11 rfl ?_;refine ⟨e7,?_⟩;refine (hcm _ e7).mono ?_;rintro _ w13 ⟨rfl,e12⟩;refine ⟨(xt e7 e12),?_⟩;refine IfB.yes (by omega) ?_;refine SemK.add ((((i+j) / 2+1:Nat):Int)) (by omega) (by omega) (by omega) ?_;exact ⟨s - 1,by omega,_,_,rfl,by omega,by omega,by omega,by omega,by omega,by omega,((hM.trans e7.mod).trans e12.mod),(hO.ext (xt e7 e12))⟩
    · have h2':R.length≤(i+j) / 2 - m∨∃ y,R[(i+j) / 2 - m]? = some y∧¬ r y x := .inr ⟨y,by rw [← hhe];exact hy,fun hh=>hc ((hr _ _).2 hh)⟩;refine IfB.yes (by omega) ?_;refine SemK.add (((i+j:Nat):Int)) (by omega) (by omega) (by omega) ?_;refine SemK.conv (k := .u64) (by kernel_rfl) (by kernel_rfl) (u64_wrap (by omega) (by omega)) ?_
      refine SemK.half (by decide) ?_;refine SemK.conv (by kernel_rfl) (by kernel_rfl) (i64_wrap (by omega) (by omega)) ?_
      refine dH [(0,false),(1,false),(2,false),(3,false),(4,false),(5,false),(6,true),(7,true),(8,true),(9,true),(10,true)] ?_;intro w7 e7;refine DSemK.indexOwn (sz:=1) (by kernel_rfl) ((i+j) / 2) rfl (by omega) ?_;have hb9:=Own.elem eI_len hO hyx;refine dO hb9 rfl ?_;refine jW (sz:=1) p rfl (by omega) ?_;have hb11:=Own.elem eI_len (hO.ext e7) hx0;refine ⟨e7,?_⟩;refine jO hb11 rfl ?_;refine ⟨e7,?_⟩;refine (hcm _ e7).mono ?_;rintro _ w13 ⟨rfl,e12⟩;refine ⟨(xt e7 e12),?_⟩;refine IfB.no (by omega) ?_;exact ⟨s - 1,by omega,_,_,rfl,by omega,by omega,by omega,by omega,by omega,by omega,((hM.trans e7.mod).trans e12.mod),(hO.ext (xt e7 e12))⟩
  · have hije:i=j:=by omega
    subst hije;have hmo:=merge_one_left hs hR hlt h1 h2;refine IfB.no (by omega) ?_;refine lR [0,10,13] (fun (ss:Nat) vs w2=>vs=[.slice (some ⟨b,0,none⟩) n c,.int .i64 i,.int .i64 (p+ss:Nat)]∧ss≤i - m∧Mod (blkIn (some ⟨b,0,none⟩)) w w2∧Own eI w2 (some ⟨b,0,none⟩) n t (A++(R.take ss++x :: (R.drop ss++B)))) (fun ss=>i - m - ss) 0 ⟨rfl,by omega,hM,by simpa using hO⟩ ?_;rintro ss g2 _ w2 ⟨rfl,hss,hM2,hO2⟩;by_cases hsl:ss<i - m
    · obtain ⟨y,hy⟩:∃ y,R[ss]? = some y:=get_of_lt (by omega);have e1:A++(R.take ss++x :: (R.drop ss++B))=(A++R.take ss)++x :: ([]++y :: (R.drop (ss+1)++B)):=by
        rw [drop_next hy];simp
      have l2:(A++R.take ss).length=p+ss:=by simp;omega
      have hsw:=swap_at (x:=x) (y:=y) (Y:=[]) (Z:=R.drop (ss+1)++B) (j:=p+ss+1) l2 (by simp;omega);have q1:=Go.M.get_at (x:=x) (B:=[]++y :: (R.drop (ss+1)++B)) l2;have q2:=get_at2 (x:=x) (y:=y) (Y:=[]) (Z:=R.drop (ss+1)++B) (j:=p+ss+1) (X:=A++R.take ss) (by simp;omega);have e2:(A++R.take ss)++y :: ([]++x :: (R.drop (ss+1)++B))=A++(R.take (ss+1)++x :: (R.drop (ss+1)++B)):=by
        rw [take_next hy];simp
      rw [e2] at hsw;rw [e1] at hO2;generalize (A++R.take ss)++x :: ([]++y :: (R.drop (ss+1)++B))=xs at *;have hxn:=hO2.1;have q3:(xs.set (p+ss) y)[p+ss+1]? = some y:=by rw [List.getElem?_set_ne (by omega)];exact q2
      clear e1 e2 l2 h hO hx0 hget;refine SemK.sub (((i - 1:Nat):Int)) (by omega) (by omega) (by omega) ?_;refine IfB.yes (by omega) ?_;refine DrawK.writes tabok mixed [(0,.any),(1,.any),(2,.any),(3,.any),(4,.any),(5,.any),(6,.any),(7,.any),(8,.any),(10,.any),(11,.any),(12,.any),(9,.held),(13,.held),(14,.any),(15,.write),(16,.any),(17,.write)] (by kernel_rfl) (by kernel_rfl) ?_;intro w7 e7;refine PSemK.add (((p+ss+1:Nat):Int)) (by omega) (by omega) (by omega) ?_;refine PSemK.add (((p+ss+1:Nat):Int)) (by omega) (by omega) (by omega) ?_;refine pW (sz:=1) (p+ss+1) rfl (by omega) ?_;have hb9:=Own.elem eI_len hO2 q2;refine pW (sz:=1) (p+ss) rfl (by omega) ?_;have hb11:=Own.elem eI_len hO2 q1;refine dO hb9 rfl ?_;refine dO hb11 rfl ?_;refine pW (sz:=1) (p+ss) rfl (by omega) ?_;have hb13:=Own.elem eI_len hO2 q1;refine SemK.storeOwn1 (k:=p+ss) (j:=0) (by kernel_rfl) eI_len (hO2.ext e7) q1 (by decide) rfl (y) rfl ?_;intro w14 c14 B14;have hx14:=set_get q1 ((y));refine pW (sz:=1) (p+ss+1) rfl (by omega) ?_;have hb16:=Own.elem eI_len hO2 q2;refine SemK.storeOwn1 (k:=p+ss+1) (j:=0) (by kernel_rfl) eI_len B14 q3 (by decide) rfl (x) rfl ?_;intro w17 c17 B17;have hx17:=set_get q3 ((x));refine SemK.add (((p+ss+1:Nat):Int)) (by omega) (by omega) (by omega) ?_;exact ⟨ss+1,by omega,rfl,by omega,(((hM2.trans e7.mod).trans (c14.but.mono (fun i hi=>⟨_,rfl,hi⟩))).trans (c17.but.mono (fun i hi=>⟨_,rfl,hi⟩))),by simpa [List.take_add_one,-List.take_append_getElem, *] using B17⟩
    · have hse:ss=i - m:=by omega
      subst hse;have hfin:A++(R.take (i - m)++x :: (R.drop (i - m)++B))=A++((R.take (i - m)++x :: R.drop (i - m))++B):=by simp
      rw [hfin] at hO2;obtain ⟨hmo1,hmo2⟩:=hmo;generalize R.take (i - m)++x :: R.drop (i - m)=MM at *;refine SemK.sub (((i - 1:Nat):Int)) (by omega) (by omega) (by omega) ?_;refine IfB.no (by omega) ?_;exact ⟨rfl,hM2,MM,hmo1,hmo2,hO2⟩
theorem lib_symMerge2 {r:Int→Int→Prop} (hs:Swo r) {cmp:Int→Int→Int} (hr:∀ i j,cmp i j<0↔r i j) {w:World} {b n c t g:Nat} {cap:List Value} {A L B:List Int} {y:Int} (h:Own eI w (some ⟨b,0,none⟩) n t (A++(L++([y]++B)))) (hL:L.Pairwise (Lex r)) (hL0:1<L.length) (hlt:∀ z∈L,z<y)
    (hg:∀ i∈L,∀ w',Mod (blkIn (some ⟨b,0,none⟩)) w w'→Does Tryz.prog g (.int .i64 y :: .int .i64 i :: cap) w' (fun v w''=>v = .int .i64 (cmp y i)∧Ext w' w''))
    {p m q:Nat} (hp:A.length=p) (hm:p+L.length=m) (hq:m+1=q) (hn6:n≤1000000) :
    Does Tryz.prog 344 [.slice (some ⟨b,0,none⟩) n c,.int .i64 p,.int .i64 m,.int .i64 q,.func (.func g) ⟨[]⟩ ⟨cap⟩] w (fun v w'=>v = .tuple #[]∧Mod (blkIn (some ⟨b,0,none⟩)) w w'∧∃ M,M.Perm (L++[y])∧M.Pairwise (Lex r)∧Own eI w' (some ⟨b,0,none⟩) n t (A++(M++B))):=by
  have hn:=h.1;simp only [List.length_append,List.length_cons,List.length_nil] at hn;have hx0:(A++(L++([y]++B)))[m]? = some y:=by
    have:A++(L++([y]++B))=(A++L)++y :: B:=by simp
    rw [this];exact Go.M.get_at (by simp;omega)
  have hget:∀ i z,p≤i→L[i - p]? = some z→(A++(L++([y]++B)))[i]? = some z:=fun i z hi hz=>get_mid hp hi hz;have hpos:¬ (m:Int) - p=1:=by omega
  have hpos2:(q:Int) - m=1:=by omega
  refine oV Tryz.func344 ?_;refine SemK.sub (((m - p:Nat):Int)) (by omega) (by omega) (by omega) ?_;refine IfB.no (by omega) ?_;refine SemK.sub 1 (by omega) (by omega) (by omega) ?_;refine lR [0,2,4,14,15] (fun (s:Nat) vs w'=>∃ i j:Nat,vs=[.slice (some ⟨b,0,none⟩) n c,.int .i64 m,.func (.func g) ⟨[]⟩ ⟨cap⟩,.int .i64 i,.int .i64 j]∧j - i≤s∧p≤i∧i≤j∧j≤m∧(i - p=0∨∃ z,L[i - p - 1]? = some z∧¬ r y z)∧(L.length≤j - p∨∃ z,L[j - p]? = some z∧r y z)∧Mod (blkIn (some ⟨b,0,none⟩)) w w'∧Own eI w' (some ⟨b,0,none⟩) n t (A++(L++([y]++B)))) (fun s=>s) (m - p) ⟨p,m,rfl,by omega,by omega,by omega,by omega,by omega,by omega,Vc.Mod.refl _ _,h⟩ ?_;rintro s g1 _ w' ⟨i,j,rfl,hsij,hmi,hij,hjq,h1,h2,hM,hO⟩;by_cases hlt2:i<j
  · obtain ⟨hh,hhe⟩:∃ hh,hh=(i+j) / 2:=⟨_,rfl⟩;obtain ⟨z,hz⟩:∃ z,L[hh - p]? = some z:=get_of_lt (by omega);have hzx:=hget hh z (by omega) hz;have hzL:=List.mem_of_getElem? hz;have hcm:=fun u (e:Ext w' u)=>hg z hzL u (hM.trans e.mod);rw [hhe] at hzx;generalize A++(L++([y]++B))=xs at *;have hxn:=hO.1;by_cases hc:cmp y z<0
    · have h2':L.length≤(i+j) / 2 - p∨∃ z,L[(i+j) / 2 - p]? = some z∧r y z := .inr ⟨z,by rw [← hhe];exact hz,(hr _ _).1 hc⟩;refine IfB.yes (by omega) ?_;refine SemK.add (((i+j:Nat):Int)) (by omega) (by omega) (by omega) ?_;refine SemK.conv (k := .u64) (by kernel_rfl) (by kernel_rfl) (u64_wrap (by omega) (by omega)) ?_
      refine SemK.half (by decide) ?_;refine SemK.conv (by kernel_rfl) (by kernel_rfl) (i64_wrap (by omega) (by omega)) ?_
      refine dH [(0,false),(1,false),(2,false),(3,false),(4,false),(5,false),(6,true),(7,true),(8,true),(9,true),(10,true),(11,true)] ?_;intro w7 e7;refine DSemK.indexOwn (sz:=1) (by kernel_rfl) m rfl (by omega) ?_;have hb9:=Own.elem eI_len hO hx0;refine dO hb9 rfl ?_;refine jW (sz:=1) ((i+j) / 2) rfl (by omega) ?_;have hb11:=Own.elem eI_len (hO.ext e7) hzx;refine ⟨e7,?_⟩;refine jO hb11 rfl ?_;refine ⟨e7,?_⟩;refine (hcm _ e7).mono ?_;rintro _ w13 ⟨rfl,e12⟩;refine ⟨(xt e7 e12),?_⟩;(conv=>whnf);with_reducible refine IfB.ndec (fun h14=>?_) (fun h14=>?_)
      · refine SemK.add ((((i+j) / 2+1:Nat):Int)) (by omega) (by omega) (by omega) ?_;exact ⟨s+1,by omega,_,_,rfl,by omega,by omega,by omega,by omega,by omega,by omega,((hM.trans e7.mod).trans e12.mod),(hO.ext (xt e7 e12))⟩
      · exact ⟨s - 1,by omega,_,_,rfl,by omega,by omega,by omega,by omega,by omega,by omega,((hM.trans e7.mod).trans e12.mod),(hO.ext (xt e7 e12))⟩
    · have h1':(i+j) / 2+1 - p=0∨∃ z,L[(i+j) / 2+1 - p - 1]? = some z∧¬ r y z := .inr ⟨z,by rw [← hhe,show hh+1 - p - 1=hh - p by omega];exact hz,fun hh=>hc ((hr _ _).2 hh)⟩;refine IfB.yes (by omega) ?_;refine SemK.add (((i+j:Nat):Int)) (by omega) (by omega) (by omega) ?_;refine SemK.conv (k := .u64) (by kernel_rfl) (by kernel_rfl) (u64_wrap (by omega) (by omega)) ?_
      refine SemK.half (by decide) ?_;refine SemK.conv (by kernel_rfl) (by kernel_rfl) (i64_wrap (by omega) (by omega)) ?_
      refine dH [(0,false),(1,false),(2,false),(3,false),(4,false),(5,false),(6,true),(7,true),(8,true),(9,true),(10,true),(11,true)] ?_;intro w7 e7;refine DSemK.indexOwn (sz:=1) (by kernel_rfl) m rfl (by omega) ?_;have hb9:=Own.elem eI_len hO hx0;refine dO hb9 rfl ?_;refine jW (sz:=1) ((i+j) / 2) rfl (by omega) ?_;have hb11:=Own.elem eI_len (hO.ext e7) hzx;refine ⟨e7,?_⟩;refine jO hb11 rfl ?_;refine ⟨e7,?_⟩;refine (hcm _ e7).mono ?_;rintro _ w13 ⟨rfl,e12⟩;refine ⟨(xt e7 e12),?_⟩;(conv=>whnf);with_reducible refine IfB.ndec (fun h14=>?_) (fun h14=>?_)
      · refine SemK.add ((((i+j) / 2+1:Nat):Int)) (by omega) (by omega) (by omega) ?_;exact ⟨s - 1,by omega,_,_,rfl,by omega,by omega,by omega,by omega,by omega,by omega,((hM.trans e7.mod).trans e12.mod),(hO.ext (xt e7 e12))⟩
      · exact ⟨s+1,by omega,_,_,rfl,by omega,by omega,by omega,by omega,by omega,by omega,((hM.trans e7.mod).trans e12.mod),(hO.ext (xt e7 e12))⟩
  · have hije:i=j:=by omega
    subst hije;have hmo:=merge_one_right hs hL hlt h1 h2;refine IfB.no (by omega) ?_;refine lR [0,14,17] (fun (ss:Nat) vs w2=>vs=[.slice (some ⟨b,0,none⟩) n c,.int .i64 i,.int .i64 (p+ss:Nat)]∧i - p≤ss∧ss≤L.length∧Mod (blkIn (some ⟨b,0,none⟩)) w w2∧Own eI w2 (some ⟨b,0,none⟩) n t (A++(L.take ss++y :: (L.drop ss++B)))) (fun ss=>ss) L.length ⟨by rw [hm];rfl,by omega,by omega,hM,by rw [List.take_of_length_le (Nat.le_refl _),List.drop_eq_nil_of_le (Nat.le_refl _)];simpa using hO⟩ ?_;rintro ss g2 _ w2 ⟨rfl,hss,hssL,hM2,hO2⟩;by_cases hsl:i - p<ss
    · obtain ⟨z,hz⟩:∃ z,L[ss - 1]? = some z:=get_of_lt (by omega);have ht1:L.take ss=L.take (ss - 1)++[z]:=by
        have:=take_next hz;rwa [show ss - 1+1=ss by omega] at this
      have hdz:L.drop (ss - 1)=z :: L.drop ss:=by
        have:=drop_next hz;rwa [show ss - 1+1=ss by omega] at this
      have e1:A++(L.take ss++y :: (L.drop ss++B))=(A++L.take (ss - 1))++z :: ([]++y :: (L.drop ss++B)):=by
        rw [ht1];simp
      have l2:(A++L.take (ss - 1)).length=p+ss - 1:=by simp;omega
      have hsw:=swap_at (x:=z) (y:=y) (Y:=[]) (Z:=L.drop ss++B) (j:=p+ss) l2 (by simp;omega);have q1:=Go.M.get_at (x:=z) (B:=[]++y :: (L.drop ss++B)) l2;have q2:=get_at2 (x:=z) (y:=y) (Y:=[]) (Z:=L.drop ss++B) (j:=p+ss) (X:=A++L.take (ss - 1)) (by simp;omega);have e2:(A++L.take (ss - 1))++y :: ([]++z :: (L.drop ss++B))=A++(L.take (ss - 1)++y :: (L.drop (ss - 1)++B)):=by
        rw [hdz];simp
      rw [e2] at hsw;rw [e1] at hO2;generalize (A++L.take (ss - 1))++z :: ([]++y :: (L.drop ss++B))=xs at *;have hxn:=hO2.1;have q3:(xs.set (p+ss) z)[p+ss - 1]? = some z:=by rw [List.getElem?_set_ne (by omega)];exact q1
      have hsw2:(xs.set (p+ss) z).set (p+ss - 1) y=A++(L.take (ss - 1)++y :: (L.drop (ss - 1)++B)):=by rw [List.set_comm _ _ (by omega)];exact hsw
      clear e1 e2 l2 h hO hx0 hget;refine IfB.yes (by omega) ?_;refine DrawK.writes tabok mixed [(0,.any),(1,.any),(2,.any),(3,.any),(4,.any),(5,.any),(6,.any),(7,.any),(8,.any),(10,.any),(11,.any),(12,.any),(9,.held),(13,.held),(14,.any),(15,.write),(16,.any),(17,.write)] (by kernel_rfl) (by kernel_rfl) ?_;intro w7 e7;refine PSemK.sub (((p+ss - 1:Nat):Int)) (by omega) (by omega) (by omega) ?_;refine PSemK.sub (((p+ss - 1:Nat):Int)) (by omega) (by omega) (by omega) ?_;refine pW (sz:=1) (p+ss - 1) rfl (by omega) ?_;have hb9:=Own.elem eI_len hO2 q1;refine pW (sz:=1) (p+ss) rfl (by omega) ?_;have hb11:=Own.elem eI_len hO2 q2;refine dO hb9 rfl ?_;refine dO hb11 rfl ?_;refine pW (sz:=1) (p+ss) rfl (by omega) ?_;have hb13:=Own.elem eI_len hO2 q2;refine SemK.storeOwn1 (k:=p+ss) (j:=0) (by kernel_rfl) eI_len (hO2.ext e7) q2 (by decide) rfl (z) rfl ?_;intro w14 c14 B14;have hx14:=set_get q2 ((z));refine pW (sz:=1) (p+ss - 1) rfl (by omega) ?_;have hb16:=Own.elem eI_len hO2 q1;refine SemK.storeOwn1 (k:=p+ss - 1) (j:=0) (by kernel_rfl) eI_len B14 q3 (by decide) rfl (y) rfl ?_;intro w17 c17 B17;have hx17:=set_get q3 ((y));refine SemK.sub (((p+ss - 1:Nat):Int)) (by omega) (by omega) (by omega) ?_;exact ⟨ss - 1,by omega,by rw [show p+(ss - 1)=p+ss - 1 by omega];rfl,by omega,by omega,((hM2.trans e7.mod).trans (c14.but.mono (fun i hi=>⟨_,rfl,hi⟩))).trans (c17.but.mono (fun i hi=>⟨_,rfl,hi⟩)),by rw [← hsw2];exact B17⟩
    · have hse:ss=i - p:=by omega
      subst hse;have hfin:A++(L.take (i - p)++y :: (L.drop (i - p)++B))=A++((L.take (i - p)++y :: L.drop (i - p))++B):=by simp
      rw [hfin] at hO2;obtain ⟨hmo1,hmo2⟩:=hmo;generalize L.take (i - p)++y :: L.drop (i - p)=MM at *;refine IfB.no (by omega) ?_;exact ⟨rfl,hM2,MM,hmo1,hmo2,hO2⟩
end Go.Proofs.YthadkoinmohmlaaGreatDoor
