/- Contracts of functions of the given program, of the reference and of the laws: each says what a call returns, for all arguments that meet the premises that the theorem itself names. -/
import Derived.Test.YthadkoinmohmlaaGreatDoorSortI
namespace Go.Proofs.YthadkoinmohmlaaGreatDoor
open Go Go.RowKit Go.Vc Go.M
set_option maxHeartbeats 4000000 in
theorem lib_symMergeA {r:Int→Int→Prop} (hs:Swo r) {cmp:Int→Int→Int} (hr:∀ i j,cmp i j<0↔r i j) {b n c t g:Nat} {cap:List Value} (hn6:n≤1000000) {f:Nat} (ih:∀ {w:World} {A L R B:List Int},L.length+R.length≤f→0<L.length→0<R.length →
    Own eI w (some ⟨b,0,none⟩) n t (A++(L++(R++B)))→L.Pairwise (Lex r)→R.Pairwise (Lex r)→(∀ x∈L,∀ y∈R,x<y) →
    (∀ i∈L++R,∀ j∈L++R,∀ w',Mod (blkIn (some ⟨b,0,none⟩)) w w'→Does Tryz.prog g (.int .i64 i :: .int .i64 j :: cap) w' (fun v w''=>v = .int .i64 (cmp i j)∧Ext w' w'')) →
    ∀ {p m q:Nat},A.length=p→p+L.length=m→m+R.length=q →
    Does Tryz.prog 344 [.slice (some ⟨b,0,none⟩) n c,.int .i64 p,.int .i64 m,.int .i64 q,.func (.func g) ⟨[]⟩ ⟨cap⟩] w (fun v w'=>v = .tuple #[]∧Mod (blkIn (some ⟨b,0,none⟩)) w w'∧∃ M,M.Perm (L++R)∧M.Pairwise (Lex r)∧Own eI w' (some ⟨b,0,none⟩) n t (A++(M++B))))
    {w:World} {A L R B:List Int} (hf:L.length+R.length≤f+1) (hL1:1<L.length) (hR1:1<R.length)
    (h:Own eI w (some ⟨b,0,none⟩) n t (A++(L++(R++B)))) (hL:L.Pairwise (Lex r)) (hR:R.Pairwise (Lex r)) (hlt:∀ x∈L,∀ y∈R,x<y)
    (hg:∀ i∈L++R,∀ j∈L++R,∀ w',Mod (blkIn (some ⟨b,0,none⟩)) w w'→Does Tryz.prog g (.int .i64 i :: .int .i64 j :: cap) w' (fun v w''=>v = .int .i64 (cmp i j)∧Ext w' w''))
    {p m q:Nat} (hp:A.length=p) (hm:p+L.length=m) (hq:m+R.length=q) (hside:(p+q) / 2<m) :
    Does Tryz.prog 344 [.slice (some ⟨b,0,none⟩) n c,.int .i64 p,.int .i64 m,.int .i64 q,.func (.func g) ⟨[]⟩ ⟨cap⟩] w (fun v w'=>v = .tuple #[]∧Mod (blkIn (some ⟨b,0,none⟩)) w w'∧∃ M,M.Perm (L++R)∧M.Pairwise (Lex r)∧Own eI w' (some ⟨b,0,none⟩) n t (A++(M++B))):=by
  have hn:=h.1;simp only [List.length_append] at hn;obtain ⟨mid,hmid⟩:∃ mid,mid=(p+q) / 2:=⟨_,rfl⟩;have hpos:¬ (m:Int) - p=1:=by omega
  have hpos2:¬ (q:Int) - m=1:=by omega
  have hgetL:∀ i z,p≤i→L[i - p]? = some z→(A++(L++(R++B)))[i]? = some z:=fun i z hi hz=>get_mid hp hi hz;have hgetR:∀ i z,m≤i→R[i - m]? = some z→(A++(L++(R++B)))[i]? = some z:=fun i z hi hz=>by
    have:A++(L++(R++B))=(A++L)++(R++B):=by simp
    rw [this];exact get_mid (by simp;omega) hi hz
  refine oV Tryz.func344 ?_;conv=>whnf
  refine SemK.sub (((m - (p):Nat):Int)) (by omega) (by omega) (by omega) ?_;(conv=>whnf);refine IfB.no (by omega) ?_;(conv=>whnf);refine SemK.sub (((q - (m):Nat):Int)) (by omega) (by omega) (by omega) ?_;(conv=>whnf);refine IfB.no (by omega) ?_;(conv=>whnf);refine SemK.add (((p+q:Nat):Int)) (by omega) (by omega) (by omega) ?_;(conv=>whnf);refine SemK.conv (k := .u64) (by kernel_rfl) (by kernel_rfl) (u64_wrap (by omega) (by omega)) ?_
  (conv=>whnf);refine SemK.half (by decide) ?_;(conv=>whnf);refine SemK.conv (by kernel_rfl) (by kernel_rfl) (i64_wrap (by omega) (by omega)) ?_
  (conv=>whnf);refine SemK.add ((((p+q) / 2+m:Nat):Int)) (by omega) (by omega) (by omega) ?_;(conv=>whnf);refine IfB.yes (by omega) ?_;(conv=>whnf);refine SemK.sub ((((p+q) / 2+m - (q):Nat):Int)) (by omega) (by omega) (by omega) ?_;(conv=>whnf);refine SemK.sub ((((p+q) / 2+m - 1:Nat):Int)) (by omega) (by omega) (by omega) ?_;(conv=>whnf);refine lR [0,1,2,3,4,18,19,20,21,22] (fun (k:Nat) vs w'=>∃ s u:Nat,vs=[.slice (some ⟨b,0,none⟩) n c,.int .i64 p,.int .i64 m,.int .i64 q,.func (.func g) ⟨[]⟩ ⟨cap⟩,.int .i64 mid,.int .i64 (mid+m:Nat),.int .i64 s,.int .i64 u,.int .i64 (mid+m - 1:Nat)]∧u - s≤k∧mid+m - q≤s∧s≤u∧u≤mid∧(s=mid+m - q∨∃ x y,L[s - 1 - p]? = some x∧R[mid+m - s - m]? = some y∧¬ r y x)∧(u=mid∨∃ x y,L[u - p]? = some x∧R[mid+m - 1 - u - m]? = some y∧r y x)∧Mod (blkIn (some ⟨b,0,none⟩)) w w'∧Own eI w' (some ⟨b,0,none⟩) n t (A++(L++(R++B)))) (fun k=>k) (mid - (mid+m - q)) ⟨mid+m - q,mid,by rw [hmid];rfl,by omega,by omega,by omega,by omega,.inl rfl,.inl rfl,Vc.Mod.refl _ _,h⟩ ?_;rintro k g1 _ w1 ⟨s,u,rfl,hsu,hlo,hsu2,hhi,h1,h2,hM,hO⟩;by_cases hlt2:s<u
  · obtain ⟨x,hx⟩:∃ x,L[(s+u) / 2 - p]? = some x:=get_of_lt (by omega);obtain ⟨y,hy⟩:∃ y,R[mid+m - 1 - (s+u) / 2 - m]? = some y:=get_of_lt (by omega);have hxx:=hgetL ((s+u) / 2) x (by omega) hx;have hyy:=hgetR (mid+m - 1 - (s+u) / 2) y (by omega) hy;have hcm:=fun u (e:Ext w1 u)=>hg y (by simp [List.mem_of_getElem? hy]) x (by simp [List.mem_of_getElem? hx]) u (hM.trans e.mod);have hxn:=hO.1;generalize A++(L++(R++B))=xs at *;by_cases hc:cmp y x<0
    · have h2':(s+u) / 2=mid∨∃ x y,L[(s+u) / 2 - p]? = some x∧R[mid+m - 1 - (s+u) / 2 - m]? = some y∧r y x := .inr ⟨x,y,hx,hy,(hr _ _).1 hc⟩;(conv=>whnf);refine IfB.yes (by omega) ?_;(conv=>whnf);refine SemK.add (((s+u:Nat):Int)) (by omega) (by omega) (by omega) ?_;(conv=>whnf);refine SemK.conv (k := .u64) (by kernel_rfl) (by kernel_rfl) (u64_wrap (by omega) (by omega)) ?_
      (conv=>whnf);refine SemK.half (by decide) ?_;(conv=>whnf);refine SemK.conv (by kernel_rfl) (by kernel_rfl) (i64_wrap (by omega) (by omega)) ?_
      (conv=>whnf);refine dH [(0,false),(1,false),(2,false),(3,false),(4,false),(5,false),(6,false),(7,false),(8,true),(9,true),(10,true),(11,true),(12,true),(13,true)] ?_;(conv=>whnf);intro w7 e7;(conv=>whnf);refine DSemK.sub (((mid+m - 1 - ((s+u) / 2):Nat):Int)) (by omega) (by omega) (by omega) ?_;(conv=>whnf);refine DSemK.indexOwn (sz:=1) (by kernel_rfl) (mid+m - 1 - (s+u) / 2) rfl (by omega) ?_;have hb9:=Own.elem eI_len hO hyy;(conv=>whnf);refine dO hb9 rfl ?_;(conv=>whnf);refine jW (sz:=1) ((s+u) / 2) rfl (by omega) ?_;have hb11:=Own.elem eI_len (hO.ext e7) hxx;(conv=>whnf);refine ⟨e7,?_⟩;(conv=>whnf);refine jO hb11 rfl ?_;(conv=>whnf);refine ⟨e7,?_⟩;(conv=>whnf);refine (hcm _ e7).mono ?_;rintro _ w13 ⟨rfl,e12⟩;(conv=>whnf);refine ⟨(xt e7 e12),?_⟩;(conv=>whnf);with_reducible refine IfB.ndec (fun h14=>?_) (fun h14=>?_)
      · (conv=>whnf);refine SemK.add ((((s+u) / 2+1:Nat):Int)) (by omega) (by omega) (by omega) ?_;(conv=>whnf);exact ⟨k+1,by omega,_,_,rfl,by omega,by omega,by omega,by omega,by omega,by omega,((hM.trans e7.mod).trans e12.mod),(hO.ext (xt e7 e12))⟩
      · (conv=>whnf);exact ⟨k - 1,by omega,_,_,rfl,by omega,by omega,by omega,by omega,by omega,by omega,((hM.trans e7.mod).trans e12.mod),(hO.ext (xt e7 e12))⟩
    · have h1':(s+u) / 2+1=mid+m - q∨∃ x y,L[(s+u) / 2+1 - 1 - p]? = some x∧R[mid+m - ((s+u) / 2+1) - m]? = some y∧¬ r y x := .inr ⟨x,y,by rw [show (s+u) / 2+1 - 1 - p=(s+u) / 2 - p by omega];exact hx,by rw [show mid+m - ((s+u) / 2+1) - m=mid+m - 1 - (s+u) / 2 - m by omega];exact hy,fun hh=>hc ((hr _ _).2 hh)⟩;(conv=>whnf);refine IfB.yes (by omega) ?_;(conv=>whnf);refine SemK.add (((s+u:Nat):Int)) (by omega) (by omega) (by omega) ?_;(conv=>whnf);refine SemK.conv (k := .u64) (by kernel_rfl) (by kernel_rfl) (u64_wrap (by omega) (by omega)) ?_
      (conv=>whnf);refine SemK.half (by decide) ?_;(conv=>whnf);refine SemK.conv (by kernel_rfl) (by kernel_rfl) (i64_wrap (by omega) (by omega)) ?_
      (conv=>whnf);refine dH [(0,false),(1,false),(2,false),(3,false),(4,false),(5,false),(6,false),(7,false),(8,true),(9,true),(10,true),(11,true),(12,true),(13,true)] ?_;(conv=>whnf);intro w7 e7;(conv=>whnf);refine DSemK.sub (((mid+m - 1 - ((s+u) / 2):Nat):Int)) (by omega) (by omega) (by omega) ?_;(conv=>whnf);refine DSemK.indexOwn (sz:=1) (by kernel_rfl) (mid+m - 1 - (s+u) / 2) rfl (by omega) ?_;have hb9:=Own.elem eI_len hO hyy;(conv=>whnf);refine dO hb9 rfl ?_;(conv=>whnf);refine jW (sz:=1) ((s+u) / 2) rfl (by omega) ?_;have hb11:=Own.elem eI_len (hO.ext e7) hxx;(conv=>whnf);refine ⟨e7,?_⟩;(conv=>whnf);refine jO hb11 rfl ?_;(conv=>whnf);refine ⟨e7,?_⟩;(conv=>whnf);refine (hcm _ e7).mono ?_;rintro _ w13 ⟨rfl,e12⟩;(conv=>whnf);refine ⟨(xt e7 e12),?_⟩;(conv=>whnf);with_reducible refine IfB.ndec (fun h14=>?_) (fun h14=>?_)
      · (conv=>whnf);refine SemK.add ((((s+u) / 2+1:Nat):Int)) (by omega) (by omega) (by omega) ?_;(conv=>whnf);exact ⟨k - 1,by omega,_,_,rfl,by omega,by omega,by omega,by omega,by omega,by omega,((hM.trans e7.mod).trans e12.mod),(hO.ext (xt e7 e12))⟩
      · (conv=>whnf);exact ⟨k+1,by omega,_,_,rfl,by omega,by omega,by omega,by omega,by omega,by omega,((hM.trans e7.mod).trans e12.mod),(hO.ext (xt e7 e12))⟩
  · have hse:s=u:=by omega
    subst hse;have hLs:L=L.take (s - p)++L.drop (s - p):=(List.take_append_drop _ _).symm;have hRs:R=R.take (mid - s)++R.drop (mid - s):=(List.take_append_drop _ _).symm;have l1:(L.take (s - p)).length=s - p:=by rw [List.length_take];omega
    have l2:(L.drop (s - p)).length=m - s:=by rw [List.length_drop];omega
    have r1:(R.take (mid - s)).length=mid - s:=by rw [List.length_take];omega
    have r2:(R.drop (mid - s)).length=q - (mid+m - s):=by rw [List.length_drop];omega
    have h1':L.take (s - p)=[]∨R.drop (mid - s)=[]∨∃ x y,(L.take (s - p)).getLast? = some x∧(R.drop (mid - s)).head? = some y∧Lex r x y:=by
      rcases h1 with h1 | ⟨x,y,hx,hy,hyx⟩
      · exact .inr (.inl (List.drop_eq_nil_of_le (by omega)))
      · by_cases hsp:s=p
        · left;rw [hsp,Nat.sub_self];rfl
        · refine .inr (.inr ⟨x,y,?_,drop_head (by rw [show mid - s=mid+m - s - m by omega];exact hy),hs.lex_of_not (hlt x (List.mem_of_getElem? hx) y (List.mem_of_getElem? hy)) hyx⟩);have:=take_last hx;rwa [show s - 1 - p+1=s - p by omega] at this
    have h2':L.drop (s - p)=[]∨R.take (mid - s)=[]∨∃ x y,(R.take (mid - s)).getLast? = some x∧(L.drop (s - p)).head? = some y∧Lex r x y:=by
      rcases h2 with h2 | ⟨x,y,hx,hy,hyx⟩
      · right;left;rw [h2,Nat.sub_self];rfl
      · by_cases hsp:s=mid
        · right;left;rw [hsp,Nat.sub_self];rfl
        · refine .inr (.inr ⟨y,x,?_,drop_head hx,.inl hyx⟩);have:=take_last hy;rwa [show mid+m - 1 - s - m+1=mid - s by omega] at this
    clear h1 h2 hgetL hgetR;generalize L.take (s - p)=L1 at *;generalize L.drop (s - p)=L2 at *;generalize R.take (mid - s)=R1 at *;generalize R.drop (mid - s)=R2 at *;subst hLs;subst hRs;have hL12:=List.pairwise_append.1 hL;have hR12:=List.pairwise_append.1 hR;have hmerged:=fun M1 M2 p1 s1 p2 s2=>hs.merged (M1:=M1) (M2:=M2) hL hR h1' h2' p1 s1 p2 s2;have hO':Own eI w1 (some ⟨b,0,none⟩) n t ((A++L1)++(L2++(R1++(R2++B)))):=by simpa using hO
    have hRot0:=fun hx0 hy0=>lib_rotateInt (c:=c) (gf:=g) (cap:=cap) (p:=s) (m:=m) (q:=mid+m - s) hO' (by simp;omega) (by omega) (by omega) hx0 hy0 hn6;have hre:(A++L1)++(R1++(L2++(R2++B)))=A++((L1++R1)++(L2++(R2++B))):=by simp
    rw [hre] at hRot0;have hS1:0<L1.length→0<R1.length→∀ u,Mod (blkIn (some ⟨b,0,none⟩)) w u→Own eI u (some ⟨b,0,none⟩) n t (A++((L1++R1)++(L2++(R2++B))))→Does Tryz.prog 344 [.slice (some ⟨b,0,none⟩) n c,.int .i64 p,.int .i64 s,.int .i64 mid,.func (.func g) ⟨[]⟩ ⟨cap⟩] u (fun v w'=>v = .tuple #[]∧Mod (blkIn (some ⟨b,0,none⟩)) u w'∧∃ M,M.Perm (L1++R1)∧M.Pairwise (Lex r)∧Own eI w' (some ⟨b,0,none⟩) n t (A++(M++(L2++(R2++B))))):=fun a1 a2 u hu hOu =>
      ih (w:=u) (A:=A) (L:=L1) (R:=R1) (B:=L2++(R2++B)) (by simp only [List.length_append] at hf;omega) a1 a2 (by simpa using hOu) hL12.1 hR12.1 (fun x hx y hy=>hlt x (by simp [hx]) y (by simp [hy])) (fun i hi j hj w' M=>hg i (by rcases List.mem_append.1 hi with h | h<;>simp [h]) j (by rcases List.mem_append.1 hj with h | h<;>simp [h]) w' (hu.trans M)) hp (by omega) (by omega)
    have hS2:0<L2.length→0<R2.length→∀ u M1,M1.Perm (L1++R1)→Mod (blkIn (some ⟨b,0,none⟩)) w u→Own eI u (some ⟨b,0,none⟩) n t (A++(M1++(L2++(R2++B))))→Does Tryz.prog 344 [.slice (some ⟨b,0,none⟩) n c,.int .i64 mid,.int .i64 (mid+m - s:Nat),.int .i64 q,.func (.func g) ⟨[]⟩ ⟨cap⟩] u (fun v w'=>v = .tuple #[]∧Mod (blkIn (some ⟨b,0,none⟩)) u w'∧∃ M,M.Perm (L2++R2)∧M.Pairwise (Lex r)∧Own eI w' (some ⟨b,0,none⟩) n t ((A++M1)++(M++B))):=fun a1 a2 u M1 hP1 hu hOu =>
      ih (w:=u) (A:=A++M1) (L:=L2) (R:=R2) (B:=B) (by simp only [List.length_append] at hf;omega) a1 a2 (by simpa using hOu) hL12.2.1 hR12.2.1 (fun x hx y hy=>hlt x (by simp [hx]) y (by simp [hy])) (fun i hi j hj w' M=>hg i (by rcases List.mem_append.1 hi with h | h<;>simp [h]) j (by rcases List.mem_append.1 hj with h | h<;>simp [h]) w' (hu.trans M)) (by have:=hP1.length_eq;simp only [List.length_append] at *;omega) (by omega) (by omega)
    have hq0:A++((L1++R1)++(L2++(R2++B)))=A++((L1++R1)++((L2++R2)++B)):=by simp
    have hL2e:L2.length=0→L2=[]:=List.eq_nil_of_length_eq_zero;have hR1e:R1.length=0→R1=[]:=List.eq_nil_of_length_eq_zero;have hL1e:L1.length=0→L1=[]:=List.eq_nil_of_length_eq_zero;have hR2e:R2.length=0→R2=[]:=List.eq_nil_of_length_eq_zero;by_cases c1:s<m∧m<mid+m - s
    · have hRot:=hRot0 (by omega) (by omega);have c1a:(s:Int)<m:=by omega
      have c1b:(m:Int)<(mid+m - s:Nat):=by omega
      by_cases c2:p<s∧s<mid
      · have hSa:=hS1 (by omega) (by omega);by_cases c3:mid<mid+m - s∧mid+m - s<q
        · have hSb:=hS2 (by omega) (by omega);(conv=>whnf);refine IfB.no (by omega) ?_;(conv=>whnf);refine SemK.sub (((mid+m - (s):Nat):Int)) (by omega) (by omega) (by omega) ?_;(conv=>whnf);refine IfB.yes (by omega) ?_;(conv=>whnf);refine IfB.yes (by omega) ?_;(conv=>whnf);refine (hRot).mono ?_;rintro _ w15 ⟨rfl,m13,O14⟩;(conv=>whnf);refine IfB.yes (by omega) ?_;(conv=>whnf);refine IfB.yes (by omega) ?_;(conv=>whnf);refine (hSa _ ((hM.trans m13)) O14).mono ?_;rintro _ w21 ⟨rfl,m16,M17,q18,q19,O20⟩;(conv=>whnf);refine IfB.yes (by omega) ?_;(conv=>whnf);refine IfB.yes (by omega) ?_;(conv=>whnf);refine (hSb _ _ q18 (((hM.trans m13).trans m16)) O20).mono ?_;rintro _ w27 ⟨rfl,m22,M23,q24,q25,O26⟩;(conv=>whnf);exact ⟨rfl,(((hM.trans m13).trans m16).trans m22),_,(hmerged _ _ q18 q19 q24 q25).1,(hmerged _ _ q18 q19 q24 q25).2,by simpa using O26⟩
        · have hP2:(L2++R2).Perm (L2++R2):=List.Perm.refl _;have hW2:(L2++R2).Pairwise (Lex r):=by
            have hz:L2=[]∨R2=[]:=by
              by_cases hz:L2.length=0
              · exact .inl (hL2e hz)
              · exact .inr (hR2e (by omega))
            rcases hz with hz | hz
            · rw [hz];exact hR12.2.1
            · rw [hz,List.append_nil];exact hL12.2.1
          (conv=>whnf);refine IfB.no (by omega) ?_;(conv=>whnf);refine SemK.sub (((mid+m - (s):Nat):Int)) (by omega) (by omega) (by omega) ?_;(conv=>whnf);refine IfB.yes (by omega) ?_;(conv=>whnf);refine IfB.yes (by omega) ?_;(conv=>whnf);refine (hRot).mono ?_;rintro _ w15 ⟨rfl,m13,O14⟩;(conv=>whnf);refine IfB.yes (by omega) ?_;(conv=>whnf);refine IfB.yes (by omega) ?_;(conv=>whnf);refine (hSa _ ((hM.trans m13)) O14).mono ?_;rintro _ w21 ⟨rfl,m16,M17,q18,q19,O20⟩;(conv=>whnf);refine IfB.yes (by omega) ?_;(conv=>whnf);refine IfB.no (by omega) ?_;(conv=>whnf);exact ⟨rfl,((hM.trans m13).trans m16),_,(hmerged _ _ q18 q19 hP2 hW2).1,(hmerged _ _ q18 q19 hP2 hW2).2,by simpa using O20⟩
      · have hP1:(L1++R1).Perm (L1++R1):=List.Perm.refl _;have hW1:(L1++R1).Pairwise (Lex r):=by
          have hz:L1=[]∨R1=[]:=by
            by_cases hz:L1.length=0
            · exact .inl (hL1e hz)
            · exact .inr (hR1e (by omega))
          rcases hz with hz | hz
          · rw [hz];exact hR12.1
          · rw [hz,List.append_nil];exact hL12.1
        by_cases c3:mid<mid+m - s∧mid+m - s<q
        · have hSb:=hS2 (by omega) (by omega);exfalso;omega
        · have hP2:(L2++R2).Perm (L2++R2):=List.Perm.refl _;have hW2:(L2++R2).Pairwise (Lex r):=by
            have hz:L2=[]∨R2=[]:=by
              by_cases hz:L2.length=0
              · exact .inl (hL2e hz)
              · exact .inr (hR2e (by omega))
            rcases hz with hz | hz
            · rw [hz];exact hR12.2.1
            · rw [hz,List.append_nil];exact hL12.2.1
          (conv=>whnf);refine IfB.no (by omega) ?_;(conv=>whnf);refine SemK.sub (((mid+m - (s):Nat):Int)) (by omega) (by omega) (by omega) ?_;(conv=>whnf);refine IfB.yes (by omega) ?_;(conv=>whnf);refine IfB.yes (by omega) ?_;(conv=>whnf);refine (hRot).mono ?_;rintro _ w15 ⟨rfl,m13,O14⟩;(conv=>whnf);refine IfB.no (by omega) ?_;(conv=>whnf);refine IfB.yes (by omega) ?_;(conv=>whnf);refine IfB.no (by omega) ?_;(conv=>whnf);exact ⟨rfl,(hM.trans m13),_,(hmerged _ _ hP1 hW1 hP2 hW2).1,(hmerged _ _ hP1 hW1 hP2 hW2).2,by simpa using O14⟩
    · have hO0:Own eI w1 (some ⟨b,0,none⟩) n t (A++((L1++R1)++(L2++(R2++B)))):=by
        have hz:L2=[]∨R1=[]:=by
          by_cases hz:L2.length=0
          · exact .inl (hL2e hz)
          · exact .inr (hR1e (by omega))
        rcases hz with hz | hz<;>(rw [hz] at hO' ⊢;simpa using hO')
      clear hO hO';by_cases c2:p<s∧s<mid
      · have hSa:=hS1 (by omega) (by omega);by_cases c3:mid<mid+m - s∧mid+m - s<q
        · have hSb:=hS2 (by omega) (by omega);exfalso;omega
        · have hP2:(L2++R2).Perm (L2++R2):=List.Perm.refl _;have hW2:(L2++R2).Pairwise (Lex r):=by
            have hz:L2=[]∨R2=[]:=by
              by_cases hz:L2.length=0
              · exact .inl (hL2e hz)
              · exact .inr (hR2e (by omega))
            rcases hz with hz | hz
            · rw [hz];exact hR12.2.1
            · rw [hz,List.append_nil];exact hL12.2.1
          exfalso;omega
      · have hP1:(L1++R1).Perm (L1++R1):=List.Perm.refl _;have hW1:(L1++R1).Pairwise (Lex r):=by
          have hz:L1=[]∨R1=[]:=by
            by_cases hz:L1.length=0
            · exact .inl (hL1e hz)
            · exact .inr (hR1e (by omega))
          rcases hz with hz | hz
          · rw [hz];exact hR12.1
          · rw [hz,List.append_nil];exact hL12.1
        by_cases c3:mid<mid+m - s∧mid+m - s<q
        · have hSb:=hS2 (by omega) (by omega);(conv=>whnf);refine IfB.no (by omega) ?_;(conv=>whnf);refine SemK.sub (((mid+m - (s):Nat):Int)) (by omega) (by omega) (by omega) ?_;(conv=>whnf);refine IfB.yes (by omega) ?_;(conv=>whnf);refine IfB.no (by omega) ?_;(conv=>whnf);refine IfB.yes (by omega) ?_;(conv=>whnf);refine IfB.no (by omega) ?_;(conv=>whnf);refine IfB.yes (by omega) ?_;(conv=>whnf);refine IfB.yes (by omega) ?_;(conv=>whnf);refine (hSb _ _ hP1 (hM) hO0).mono ?_;rintro _ w18 ⟨rfl,m13,M14,q15,q16,O17⟩;(conv=>whnf);exact ⟨rfl,(hM.trans m13),_,(hmerged _ _ hP1 hW1 q15 q16).1,(hmerged _ _ hP1 hW1 q15 q16).2,by simpa using O17⟩
        · have hP2:(L2++R2).Perm (L2++R2):=List.Perm.refl _;have hW2:(L2++R2).Pairwise (Lex r):=by
            have hz:L2=[]∨R2=[]:=by
              by_cases hz:L2.length=0
              · exact .inl (hL2e hz)
              · exact .inr (hR2e (by omega))
            rcases hz with hz | hz
            · rw [hz];exact hR12.2.1
            · rw [hz,List.append_nil];exact hL12.2.1
          exfalso;omega
set_option maxHeartbeats 4000000 in
theorem lib_symMergeB {r:Int→Int→Prop} (hs:Swo r) {cmp:Int→Int→Int} (hr:∀ i j,cmp i j<0↔r i j) {b n c t g:Nat} {cap:List Value} (hn6:n≤1000000) {f:Nat} (ih:∀ {w:World} {A L R B:List Int},L.length+R.length≤f→0<L.length→0<R.length →
    Own eI w (some ⟨b,0,none⟩) n t (A++(L++(R++B)))→L.Pairwise (Lex r)→R.Pairwise (Lex r)→(∀ x∈L,∀ y∈R,x<y) →
    (∀ i∈L++R,∀ j∈L++R,∀ w',Mod (blkIn (some ⟨b,0,none⟩)) w w'→Does Tryz.prog g (.int .i64 i :: .int .i64 j :: cap) w' (fun v w''=>v = .int .i64 (cmp i j)∧Ext w' w'')) →
    ∀ {p m q:Nat},A.length=p→p+L.length=m→m+R.length=q →
    Does Tryz.prog 344 [.slice (some ⟨b,0,none⟩) n c,.int .i64 p,.int .i64 m,.int .i64 q,.func (.func g) ⟨[]⟩ ⟨cap⟩] w (fun v w'=>v = .tuple #[]∧Mod (blkIn (some ⟨b,0,none⟩)) w w'∧∃ M,M.Perm (L++R)∧M.Pairwise (Lex r)∧Own eI w' (some ⟨b,0,none⟩) n t (A++(M++B))))
    {w:World} {A L R B:List Int} (hf:L.length+R.length≤f+1) (hL1:1<L.length) (hR1:1<R.length)
    (h:Own eI w (some ⟨b,0,none⟩) n t (A++(L++(R++B)))) (hL:L.Pairwise (Lex r)) (hR:R.Pairwise (Lex r)) (hlt:∀ x∈L,∀ y∈R,x<y)
    (hg:∀ i∈L++R,∀ j∈L++R,∀ w',Mod (blkIn (some ⟨b,0,none⟩)) w w'→Does Tryz.prog g (.int .i64 i :: .int .i64 j :: cap) w' (fun v w''=>v = .int .i64 (cmp i j)∧Ext w' w''))
    {p m q:Nat} (hp:A.length=p) (hm:p+L.length=m) (hq:m+R.length=q) (hside:¬ (p+q) / 2<m) :
    Does Tryz.prog 344 [.slice (some ⟨b,0,none⟩) n c,.int .i64 p,.int .i64 m,.int .i64 q,.func (.func g) ⟨[]⟩ ⟨cap⟩] w (fun v w'=>v = .tuple #[]∧Mod (blkIn (some ⟨b,0,none⟩)) w w'∧∃ M,M.Perm (L++R)∧M.Pairwise (Lex r)∧Own eI w' (some ⟨b,0,none⟩) n t (A++(M++B))):=by
  have hn:=h.1;simp only [List.length_append] at hn;obtain ⟨mid,hmid⟩:∃ mid,mid=(p+q) / 2:=⟨_,rfl⟩;have hpos:¬ (m:Int) - p=1:=by omega
  have hpos2:¬ (q:Int) - m=1:=by omega
  have hgetL:∀ i z,p≤i→L[i - p]? = some z→(A++(L++(R++B)))[i]? = some z:=fun i z hi hz=>get_mid hp hi hz;have hgetR:∀ i z,m≤i→R[i - m]? = some z→(A++(L++(R++B)))[i]? = some z:=fun i z hi hz=>by
    have:A++(L++(R++B))=(A++L)++(R++B):=by simp
    rw [this];exact get_mid (by simp;omega) hi hz
  refine oV Tryz.func344 ?_;conv=>whnf
  refine SemK.sub (((m - (p):Nat):Int)) (by omega) (by omega) (by omega) ?_;(conv=>whnf);refine IfB.no (by omega) ?_;(conv=>whnf);refine SemK.sub (((q - (m):Nat):Int)) (by omega) (by omega) (by omega) ?_;(conv=>whnf);refine IfB.no (by omega) ?_;(conv=>whnf);refine SemK.add (((p+q:Nat):Int)) (by omega) (by omega) (by omega) ?_;(conv=>whnf);refine SemK.conv (k := .u64) (by kernel_rfl) (by kernel_rfl) (u64_wrap (by omega) (by omega)) ?_
  (conv=>whnf);refine SemK.half (by decide) ?_;(conv=>whnf);refine SemK.conv (by kernel_rfl) (by kernel_rfl) (i64_wrap (by omega) (by omega)) ?_
  (conv=>whnf);refine SemK.add ((((p+q) / 2+m:Nat):Int)) (by omega) (by omega) (by omega) ?_;(conv=>whnf);refine IfB.no (by omega) ?_;(conv=>whnf);refine SemK.sub ((((p+q) / 2+m - 1:Nat):Int)) (by omega) (by omega) (by omega) ?_;(conv=>whnf);refine lR [0,1,2,3,4,18,19,20,21,22] (fun (k:Nat) vs w'=>∃ s u:Nat,vs=[.slice (some ⟨b,0,none⟩) n c,.int .i64 p,.int .i64 m,.int .i64 q,.func (.func g) ⟨[]⟩ ⟨cap⟩,.int .i64 mid,.int .i64 (mid+m:Nat),.int .i64 s,.int .i64 u,.int .i64 (mid+m - 1:Nat)]∧u - s≤k∧p≤s∧s≤u∧u≤m∧(s=p∨∃ x y,L[s - 1 - p]? = some x∧R[mid+m - s - m]? = some y∧¬ r y x)∧(u=m∨∃ x y,L[u - p]? = some x∧R[mid+m - 1 - u - m]? = some y∧r y x)∧Mod (blkIn (some ⟨b,0,none⟩)) w w'∧Own eI w' (some ⟨b,0,none⟩) n t (A++(L++(R++B)))) (fun k=>k) (m - (p)) ⟨p,m,by rw [hmid];rfl,by omega,by omega,by omega,by omega,.inl rfl,.inl rfl,Vc.Mod.refl _ _,h⟩ ?_;rintro k g1 _ w1 ⟨s,u,rfl,hsu,hlo,hsu2,hhi,h1,h2,hM,hO⟩;by_cases hlt2:s<u
  · obtain ⟨x,hx⟩:∃ x,L[(s+u) / 2 - p]? = some x:=get_of_lt (by omega);obtain ⟨y,hy⟩:∃ y,R[mid+m - 1 - (s+u) / 2 - m]? = some y:=get_of_lt (by omega);have hxx:=hgetL ((s+u) / 2) x (by omega) hx;have hyy:=hgetR (mid+m - 1 - (s+u) / 2) y (by omega) hy;have hcm:=fun u (e:Ext w1 u)=>hg y (by simp [List.mem_of_getElem? hy]) x (by simp [List.mem_of_getElem? hx]) u (hM.trans e.mod);have hxn:=hO.1;generalize A++(L++(R++B))=xs at *;by_cases hc:cmp y x<0
    · have h2':(s+u) / 2=m∨∃ x y,L[(s+u) / 2 - p]? = some x∧R[mid+m - 1 - (s+u) / 2 - m]? = some y∧r y x := .inr ⟨x,y,hx,hy,(hr _ _).1 hc⟩;(conv=>whnf);refine IfB.yes (by omega) ?_;(conv=>whnf);refine SemK.add (((s+u:Nat):Int)) (by omega) (by omega) (by omega) ?_;(conv=>whnf);refine SemK.conv (k := .u64) (by kernel_rfl) (by kernel_rfl) (u64_wrap (by omega) (by omega)) ?_
      (conv=>whnf);refine SemK.half (by decide) ?_;(conv=>whnf);refine SemK.conv (by kernel_rfl) (by kernel_rfl) (i64_wrap (by omega) (by omega)) ?_
      (conv=>whnf);refine dH [(0,false),(1,false),(2,false),(3,false),(4,false),(5,false),(6,false),(7,false),(8,true),(9,true),(10,true),(11,true),(12,true),(13,true)] ?_;(conv=>whnf);intro w7 e7;(conv=>whnf);refine DSemK.sub (((mid+m - 1 - ((s+u) / 2):Nat):Int)) (by omega) (by omega) (by omega) ?_;(conv=>whnf);refine DSemK.indexOwn (sz:=1) (by kernel_rfl) (mid+m - 1 - (s+u) / 2) rfl (by omega) ?_;have hb9:=Own.elem eI_len hO hyy;(conv=>whnf);refine dO hb9 rfl ?_;(conv=>whnf);refine jW (sz:=1) ((s+u) / 2) rfl (by omega) ?_;have hb11:=Own.elem eI_len (hO.ext e7) hxx;(conv=>whnf);refine ⟨e7,?_⟩;(conv=>whnf);refine jO hb11 rfl ?_;(conv=>whnf);refine ⟨e7,?_⟩;(conv=>whnf);refine (hcm _ e7).mono ?_;rintro _ w13 ⟨rfl,e12⟩;(conv=>whnf);refine ⟨(xt e7 e12),?_⟩;(conv=>whnf);with_reducible refine IfB.ndec (fun h14=>?_) (fun h14=>?_)
      · (conv=>whnf);refine SemK.add ((((s+u) / 2+1:Nat):Int)) (by omega) (by omega) (by omega) ?_;(conv=>whnf);exact ⟨k+1,by omega,_,_,rfl,by omega,by omega,by omega,by omega,by omega,by omega,((hM.trans e7.mod).trans e12.mod),(hO.ext (xt e7 e12))⟩
      · (conv=>whnf);exact ⟨k - 1,by omega,_,_,rfl,by omega,by omega,by omega,by omega,by omega,by omega,((hM.trans e7.mod).trans e12.mod),(hO.ext (xt e7 e12))⟩
    · have h1':(s+u) / 2+1=p∨∃ x y,L[(s+u) / 2+1 - 1 - p]? = some x∧R[mid+m - ((s+u) / 2+1) - m]? = some y∧¬ r y x := .inr ⟨x,y,by rw [show (s+u) / 2+1 - 1 - p=(s+u) / 2 - p by omega];exact hx,by rw [show mid+m - ((s+u) / 2+1) - m=mid+m - 1 - (s+u) / 2 - m by omega];exact hy,fun hh=>hc ((hr _ _).2 hh)⟩;(conv=>whnf);refine IfB.yes (by omega) ?_;(conv=>whnf);refine SemK.add (((s+u:Nat):Int)) (by omega) (by omega) (by omega) ?_;(conv=>whnf);refine SemK.conv (k := .u64) (by kernel_rfl) (by kernel_rfl) (u64_wrap (by omega) (by omega)) ?_
      (conv=>whnf);refine SemK.half (by decide) ?_;(conv=>whnf);refine SemK.conv (by kernel_rfl) (by kernel_rfl) (i64_wrap (by omega) (by omega)) ?_
      (conv=>whnf);refine dH [(0,false),(1,false),(2,false),(3,false),(4,false),(5,false),(6,false),(7,false),(8,true),(9,true),(10,true),(11,true),(12,true),(13,true)] ?_;(conv=>whnf);intro w7 e7;(conv=>whnf);refine DSemK.sub (((mid+m - 1 - ((s+u) / 2):Nat):Int)) (by omega) (by omega) (by omega) ?_;(conv=>whnf);refine DSemK.indexOwn (sz:=1) (by kernel_rfl) (mid+m - 1 - (s+u) / 2) rfl (by omega) ?_;have hb9:=Own.elem eI_len hO hyy;(conv=>whnf);refine dO hb9 rfl ?_;(conv=>whnf);refine jW (sz:=1) ((s+u) / 2) rfl (by omega) ?_;have hb11:=Own.elem eI_len (hO.ext e7) hxx;(conv=>whnf);refine ⟨e7,?_⟩;(conv=>whnf);refine jO hb11 rfl ?_;(conv=>whnf);refine ⟨e7,?_⟩;(conv=>whnf);refine (hcm _ e7).mono ?_;rintro _ w13 ⟨rfl,e12⟩;(conv=>whnf);refine ⟨(xt e7 e12),?_⟩;(conv=>whnf);with_reducible refine IfB.ndec (fun h14=>?_) (fun h14=>?_)
      · (conv=>whnf);refine SemK.add ((((s+u) / 2+1:Nat):Int)) (by omega) (by omega) (by omega) ?_;(conv=>whnf);exact ⟨k - 1,by omega,_,_,rfl,by omega,by omega,by omega,by omega,by omega,by omega,((hM.trans e7.mod).trans e12.mod),(hO.ext (xt e7 e12))⟩
      · (conv=>whnf);exact ⟨k+1,by omega,_,_,rfl,by omega,by omega,by omega,by omega,by omega,by omega,((hM.trans e7.mod).trans e12.mod),(hO.ext (xt e7 e12))⟩
  · have hse:s=u:=by omega
    subst hse;have hLs:L=L.take (s - p)++L.drop (s - p):=(List.take_append_drop _ _).symm;have hRs:R=R.take (mid - s)++R.drop (mid - s):=(List.take_append_drop _ _).symm;have l1:(L.take (s - p)).length=s - p:=by rw [List.length_take];omega
    have l2:(L.drop (s - p)).length=m - s:=by rw [List.length_drop];omega
    have r1:(R.take (mid - s)).length=mid - s:=by rw [List.length_take];omega
    have r2:(R.drop (mid - s)).length=q - (mid+m - s):=by rw [List.length_drop];omega
    have h1':L.take (s - p)=[]∨R.drop (mid - s)=[]∨∃ x y,(L.take (s - p)).getLast? = some x∧(R.drop (mid - s)).head? = some y∧Lex r x y:=by
      rcases h1 with h1 | ⟨x,y,hx,hy,hyx⟩
      · left;rw [h1,Nat.sub_self];rfl
      · by_cases hsp:s=p
        · left;rw [hsp,Nat.sub_self];rfl
        · refine .inr (.inr ⟨x,y,?_,drop_head (by rw [show mid - s=mid+m - s - m by omega];exact hy),hs.lex_of_not (hlt x (List.mem_of_getElem? hx) y (List.mem_of_getElem? hy)) hyx⟩);have:=take_last hx;rwa [show s - 1 - p+1=s - p by omega] at this
    have h2':L.drop (s - p)=[]∨R.take (mid - s)=[]∨∃ x y,(R.take (mid - s)).getLast? = some x∧(L.drop (s - p)).head? = some y∧Lex r x y:=by
      rcases h2 with h2 | ⟨x,y,hx,hy,hyx⟩
      · exact .inl (List.drop_eq_nil_of_le (by omega))
      · by_cases hsp:s=mid
        · right;left;rw [hsp,Nat.sub_self];rfl
        · refine .inr (.inr ⟨y,x,?_,drop_head hx,.inl hyx⟩);have:=take_last hy;rwa [show mid+m - 1 - s - m+1=mid - s by omega] at this
    clear h1 h2 hgetL hgetR;generalize L.take (s - p)=L1 at *;generalize L.drop (s - p)=L2 at *;generalize R.take (mid - s)=R1 at *;generalize R.drop (mid - s)=R2 at *;subst hLs;subst hRs;have hL12:=List.pairwise_append.1 hL;have hR12:=List.pairwise_append.1 hR;have hmerged:=fun M1 M2 p1 s1 p2 s2=>hs.merged (M1:=M1) (M2:=M2) hL hR h1' h2' p1 s1 p2 s2;have hO':Own eI w1 (some ⟨b,0,none⟩) n t ((A++L1)++(L2++(R1++(R2++B)))):=by simpa using hO
    have hRot0:=fun hx0 hy0=>lib_rotateInt (c:=c) (gf:=g) (cap:=cap) (p:=s) (m:=m) (q:=mid+m - s) hO' (by simp;omega) (by omega) (by omega) hx0 hy0 hn6;have hre:(A++L1)++(R1++(L2++(R2++B)))=A++((L1++R1)++(L2++(R2++B))):=by simp
    rw [hre] at hRot0;have hS1:0<L1.length→0<R1.length→∀ u,Mod (blkIn (some ⟨b,0,none⟩)) w u→Own eI u (some ⟨b,0,none⟩) n t (A++((L1++R1)++(L2++(R2++B))))→Does Tryz.prog 344 [.slice (some ⟨b,0,none⟩) n c,.int .i64 p,.int .i64 s,.int .i64 mid,.func (.func g) ⟨[]⟩ ⟨cap⟩] u (fun v w'=>v = .tuple #[]∧Mod (blkIn (some ⟨b,0,none⟩)) u w'∧∃ M,M.Perm (L1++R1)∧M.Pairwise (Lex r)∧Own eI w' (some ⟨b,0,none⟩) n t (A++(M++(L2++(R2++B))))):=fun a1 a2 u hu hOu =>
      ih (w:=u) (A:=A) (L:=L1) (R:=R1) (B:=L2++(R2++B)) (by simp only [List.length_append] at hf;omega) a1 a2 (by simpa using hOu) hL12.1 hR12.1 (fun x hx y hy=>hlt x (by simp [hx]) y (by simp [hy])) (fun i hi j hj w' M=>hg i (by rcases List.mem_append.1 hi with h | h<;>simp [h]) j (by rcases List.mem_append.1 hj with h | h<;>simp [h]) w' (hu.trans M)) hp (by omega) (by omega)
    have hS2:0<L2.length→0<R2.length→∀ u M1,M1.Perm (L1++R1)→Mod (blkIn (some ⟨b,0,none⟩)) w u→Own eI u (some ⟨b,0,none⟩) n t (A++(M1++(L2++(R2++B))))→Does Tryz.prog 344 [.slice (some ⟨b,0,none⟩) n c,.int .i64 mid,.int .i64 (mid+m - s:Nat),.int .i64 q,.func (.func g) ⟨[]⟩ ⟨cap⟩] u (fun v w'=>v = .tuple #[]∧Mod (blkIn (some ⟨b,0,none⟩)) u w'∧∃ M,M.Perm (L2++R2)∧M.Pairwise (Lex r)∧Own eI w' (some ⟨b,0,none⟩) n t ((A++M1)++(M++B))):=fun a1 a2 u M1 hP1 hu hOu =>
      ih (w:=u) (A:=A++M1) (L:=L2) (R:=R2) (B:=B) (by simp only [List.length_append] at hf;omega) a1 a2 (by simpa using hOu) hL12.2.1 hR12.2.1 (fun x hx y hy=>hlt x (by simp [hx]) y (by simp [hy])) (fun i hi j hj w' M=>hg i (by rcases List.mem_append.1 hi with h | h<;>simp [h]) j (by rcases List.mem_append.1 hj with h | h<;>simp [h]) w' (hu.trans M)) (by have:=hP1.length_eq;simp only [List.length_append] at *;omega) (by omega) (by omega)
    have hq0:A++((L1++R1)++(L2++(R2++B)))=A++((L1++R1)++((L2++R2)++B)):=by simp
    have hL2e:L2.length=0→L2=[]:=List.eq_nil_of_length_eq_zero;have hR1e:R1.length=0→R1=[]:=List.eq_nil_of_length_eq_zero;have hL1e:L1.length=0→L1=[]:=List.eq_nil_of_length_eq_zero;have hR2e:R2.length=0→R2=[]:=List.eq_nil_of_length_eq_zero;by_cases c1:s<m∧m<mid+m - s
    · have hRot:=hRot0 (by omega) (by omega);have c1a:(s:Int)<m:=by omega
      have c1b:(m:Int)<(mid+m - s:Nat):=by omega
      by_cases c2:p<s∧s<mid
      · have hSa:=hS1 (by omega) (by omega);by_cases c3:mid<mid+m - s∧mid+m - s<q
        · have hSb:=hS2 (by omega) (by omega);(conv=>whnf);refine IfB.no (by omega) ?_;(conv=>whnf);refine SemK.sub (((mid+m - (s):Nat):Int)) (by omega) (by omega) (by omega) ?_;(conv=>whnf);refine IfB.yes (by omega) ?_;(conv=>whnf);refine IfB.yes (by omega) ?_;(conv=>whnf);refine (hRot).mono ?_;rintro _ w15 ⟨rfl,m13,O14⟩;(conv=>whnf);refine IfB.yes (by omega) ?_;(conv=>whnf);refine IfB.yes (by omega) ?_;(conv=>whnf);refine (hSa _ ((hM.trans m13)) O14).mono ?_;rintro _ w21 ⟨rfl,m16,M17,q18,q19,O20⟩;(conv=>whnf);refine IfB.yes (by omega) ?_;(conv=>whnf);refine IfB.yes (by omega) ?_;(conv=>whnf);refine (hSb _ _ q18 (((hM.trans m13).trans m16)) O20).mono ?_;rintro _ w27 ⟨rfl,m22,M23,q24,q25,O26⟩;(conv=>whnf);exact ⟨rfl,(((hM.trans m13).trans m16).trans m22),_,(hmerged _ _ q18 q19 q24 q25).1,(hmerged _ _ q18 q19 q24 q25).2,by simpa using O26⟩
        · have hP2:(L2++R2).Perm (L2++R2):=List.Perm.refl _;have hW2:(L2++R2).Pairwise (Lex r):=by
            have hz:L2=[]∨R2=[]:=by
              by_cases hz:L2.length=0
              · exact .inl (hL2e hz)
              · exact .inr (hR2e (by omega))
            rcases hz with hz | hz
            · rw [hz];exact hR12.2.1
            · rw [hz,List.append_nil];exact hL12.2.1
          exfalso;omega
      · have hP1:(L1++R1).Perm (L1++R1):=List.Perm.refl _;have hW1:(L1++R1).Pairwise (Lex r):=by
          have hz:L1=[]∨R1=[]:=by
            by_cases hz:L1.length=0
            · exact .inl (hL1e hz)
            · exact .inr (hR1e (by omega))
          rcases hz with hz | hz
          · rw [hz];exact hR12.1
          · rw [hz,List.append_nil];exact hL12.1
        by_cases c3:mid<mid+m - s∧mid+m - s<q
        · have hSb:=hS2 (by omega) (by omega);(conv=>whnf);refine IfB.no (by omega) ?_;(conv=>whnf);refine SemK.sub (((mid+m - (s):Nat):Int)) (by omega) (by omega) (by omega) ?_;(conv=>whnf);refine IfB.yes (by omega) ?_;(conv=>whnf);refine IfB.yes (by omega) ?_;(conv=>whnf);refine (hRot).mono ?_;rintro _ w15 ⟨rfl,m13,O14⟩;(conv=>whnf);refine IfB.no (by omega) ?_;(conv=>whnf);refine IfB.yes (by omega) ?_;(conv=>whnf);refine IfB.yes (by omega) ?_;(conv=>whnf);refine (hSb _ _ hP1 ((hM.trans m13)) O14).mono ?_;rintro _ w21 ⟨rfl,m16,M17,q18,q19,O20⟩;(conv=>whnf);exact ⟨rfl,((hM.trans m13).trans m16),_,(hmerged _ _ hP1 hW1 q18 q19).1,(hmerged _ _ hP1 hW1 q18 q19).2,by simpa using O20⟩
        · have hP2:(L2++R2).Perm (L2++R2):=List.Perm.refl _;have hW2:(L2++R2).Pairwise (Lex r):=by
            have hz:L2=[]∨R2=[]:=by
              by_cases hz:L2.length=0
              · exact .inl (hL2e hz)
              · exact .inr (hR2e (by omega))
            rcases hz with hz | hz
            · rw [hz];exact hR12.2.1
            · rw [hz,List.append_nil];exact hL12.2.1
          (conv=>whnf);refine IfB.no (by omega) ?_;(conv=>whnf);refine SemK.sub (((mid+m - (s):Nat):Int)) (by omega) (by omega) (by omega) ?_;(conv=>whnf);refine IfB.yes (by omega) ?_;(conv=>whnf);refine IfB.yes (by omega) ?_;(conv=>whnf);refine (hRot).mono ?_;rintro _ w15 ⟨rfl,m13,O14⟩;(conv=>whnf);refine IfB.no (by omega) ?_;(conv=>whnf);refine IfB.yes (by omega) ?_;(conv=>whnf);refine IfB.no (by omega) ?_;(conv=>whnf);exact ⟨rfl,(hM.trans m13),_,(hmerged _ _ hP1 hW1 hP2 hW2).1,(hmerged _ _ hP1 hW1 hP2 hW2).2,by simpa using O14⟩
    · have hO0:Own eI w1 (some ⟨b,0,none⟩) n t (A++((L1++R1)++(L2++(R2++B)))):=by
        have hz:L2=[]∨R1=[]:=by
          by_cases hz:L2.length=0
          · exact .inl (hL2e hz)
          · exact .inr (hR1e (by omega))
        rcases hz with hz | hz<;>(rw [hz] at hO' ⊢;simpa using hO')
      clear hO hO';by_cases c2:p<s∧s<mid
      · have hSa:=hS1 (by omega) (by omega);by_cases c3:mid<mid+m - s∧mid+m - s<q
        · have hSb:=hS2 (by omega) (by omega);exfalso;omega
        · have hP2:(L2++R2).Perm (L2++R2):=List.Perm.refl _;have hW2:(L2++R2).Pairwise (Lex r):=by
            have hz:L2=[]∨R2=[]:=by
              by_cases hz:L2.length=0
              · exact .inl (hL2e hz)
              · exact .inr (hR2e (by omega))
            rcases hz with hz | hz
            · rw [hz];exact hR12.2.1
            · rw [hz,List.append_nil];exact hL12.2.1
          (conv=>whnf);refine IfB.no (by omega) ?_;(conv=>whnf);refine SemK.sub (((mid+m - (s):Nat):Int)) (by omega) (by omega) (by omega) ?_;(conv=>whnf);refine IfB.no (by omega) ?_;(conv=>whnf);refine IfB.yes (by omega) ?_;(conv=>whnf);refine IfB.yes (by omega) ?_;(conv=>whnf);refine (hSa _ (hM) hO0).mono ?_;rintro _ w18 ⟨rfl,m13,M14,q15,q16,O17⟩;(conv=>whnf);refine IfB.no (by omega) ?_;(conv=>whnf);exact ⟨rfl,(hM.trans m13),_,(hmerged _ _ q15 q16 hP2 hW2).1,(hmerged _ _ q15 q16 hP2 hW2).2,by simpa using O17⟩
      · have hP1:(L1++R1).Perm (L1++R1):=List.Perm.refl _;have hW1:(L1++R1).Pairwise (Lex r):=by
          have hz:L1=[]∨R1=[]:=by
            by_cases hz:L1.length=0
            · exact .inl (hL1e hz)
            · exact .inr (hR1e (by omega))
          rcases hz with hz | hz
          · rw [hz];exact hR12.1
          · rw [hz,List.append_nil];exact hL12.1
        by_cases c3:mid<mid+m - s∧mid+m - s<q
        · have hSb:=hS2 (by omega) (by omega);exfalso;omega
        · have hP2:(L2++R2).Perm (L2++R2):=List.Perm.refl _;have hW2:(L2++R2).Pairwise (Lex r):=by
            have hz:L2=[]∨R2=[]:=by
              by_cases hz:L2.length=0
              · exact .inl (hL2e hz)
              · exact .inr (hR2e (by omega))
            rcases hz with hz | hz
            · rw [hz];exact hR12.2.1
            · rw [hz,List.append_nil];exact hL12.2.1
          (conv=>whnf);refine IfB.no (by omega) ?_;(conv=>whnf);refine SemK.sub (((mid+m - (s):Nat):Int)) (by omega) (by omega) (by omega) ?_;(conv=>whnf);refine IfB.no (by omega) ?_;(conv=>whnf);refine IfB.yes (by omega) ?_;(conv=>whnf);refine IfB.no (by omega) ?_;(conv=>whnf);refine IfB.no (by omega) ?_;(conv=>whnf);exact ⟨rfl,hM,_,(hmerged _ _ hP1 hW1 hP2 hW2).1,(hmerged _ _ hP1 hW1 hP2 hW2).2,by simpa using hO0⟩
theorem lib_symMergeInt {r:Int→Int→Prop} (hs:Swo r) {cmp:Int→Int→Int} (hr:∀ i j,cmp i j<0↔r i j) {b n c t g:Nat} {cap:List Value} (hn6:n≤1000000):∀ (f:Nat) {w:World} {A L R B:List Int},L.length+R.length≤f→0<L.length→0<R.length →
    Own eI w (some ⟨b,0,none⟩) n t (A++(L++(R++B)))→L.Pairwise (Lex r)→R.Pairwise (Lex r)→(∀ x∈L,∀ y∈R,x<y) →
    (∀ i∈L++R,∀ j∈L++R,∀ w',Mod (blkIn (some ⟨b,0,none⟩)) w w'→Does Tryz.prog g (.int .i64 i :: .int .i64 j :: cap) w' (fun v w''=>v = .int .i64 (cmp i j)∧Ext w' w'')) →
    ∀ {p m q:Nat},A.length=p→p+L.length=m→m+R.length=q →
    Does Tryz.prog 344 [.slice (some ⟨b,0,none⟩) n c,.int .i64 p,.int .i64 m,.int .i64 q,.func (.func g) ⟨[]⟩ ⟨cap⟩] w (fun v w'=>v = .tuple #[]∧Mod (blkIn (some ⟨b,0,none⟩)) w w'∧∃ M,M.Perm (L++R)∧M.Pairwise (Lex r)∧Own eI w' (some ⟨b,0,none⟩) n t (A++(M++B)))
  | 0,w,A,L,R,B,hf,hL0,hR0,h,hL,hR,hlt,hg,p,m,q,hp,hm,hq=>by omega
  | f+1,w,A,L,R,B,hf,hL0,hR0,h,hL,hR,hlt,hg,p,m,q,hp,hm,hq=>by
    have hn:=h.1;simp only [List.length_append] at hn;by_cases hL1:L.length=1
    · obtain ⟨x,rfl⟩:=List.length_eq_one_iff.1 hL1;exact lib_symMerge1 hs hr h hR hR0 (fun y hy=>hlt x (by simp) y hy) (fun i hi w' M=>hg i (by simp [hi]) x (by simp) w' M) hp (by omega) hq hn6
    by_cases hR1:R.length=1
    · obtain ⟨y,rfl⟩:=List.length_eq_one_iff.1 hR1;exact lib_symMerge2 hs hr h hL (by omega) (fun z hz=>hlt z hz y (by simp)) (fun i hi w' M=>hg y (by simp) i (by simp [hi]) w' M) hp hm (by omega) hn6
    have ih:=@lib_symMergeInt r hs cmp hr b n c t g cap hn6 f;by_cases hside:(p+q) / 2<m
    · exact lib_symMergeA hs hr hn6 ih hf (by omega) (by omega) h hL hR hlt hg hp hm hq hside
    · exact lib_symMergeB hs hr hn6 ih hf (by omega) (by omega) h hL hR hlt hg hp hm hq hside
end Go.Proofs.YthadkoinmohmlaaGreatDoor
