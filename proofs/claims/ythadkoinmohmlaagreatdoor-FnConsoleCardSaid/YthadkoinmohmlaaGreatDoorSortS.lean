/- Contracts of functions of the given program, of the reference and of the laws: each says what a call returns, for all arguments that meet the premises that the theorem itself names. -/
import Derived.Test.YthadkoinmohmlaaGreatDoorSortM
import Derived.Test.YthadkoinmohmlaaGreatDoorCardN
namespace Go.M
open Go Go.Vc
noncomputable def sbL (r:Int→Int→Prop) (L:List Int):Nat→List Int
  | 0=>[]
  | k+1=>sbL r L k++sortL r ((L.drop (20 * k)).take 20)
theorem sbL_len (r:Int→Int→Prop) (L:List Int):∀ k,20 * k≤L.length→(sbL r L k).length=20 * k
  | 0,_=>rfl
  | k+1,h=>by
    have:=sbL_len r L k (by omega);simp only [sbL,List.length_append,sortL_len',List.length_take,List.length_drop];omega
theorem rise_split {L:List Int} (h:Rise L) (k:Nat):∀ x∈L.take k,∀ y∈L.drop k,x<y:=by
  have e:L.take k++L.drop k=L:=List.take_append_drop k L;unfold Rise at h;rw [← e] at h;exact (List.pairwise_append.1 h).2.2
end Go.M
namespace Go.Proofs.YthadkoinmohmlaaGreatDoor
open Go Go.RowKit Go.Vc Go.M
theorem lib_stableInt {r:Int→Int→Prop} (hs:Swo r) {cmp:Int→Int→Int} (hr:∀ i j,cmp i j<0↔r i j) (hi:∀ i j,i64ok (cmp i j)) {w:World} {b n c t g:Nat} {cap:List Value} {L:List Int} (h:Own eI w (some ⟨b,0,none⟩) n t L) (hL:Rise L) (hn40:n≤40)
    (hg:∀ i∈L,∀ j∈L,∀ w',Mod (blkIn (some ⟨b,0,none⟩)) w w'→Does Tryz.prog g (.int .i64 i :: .int .i64 j :: cap) w' (fun v w''=>v = .int .i64 (cmp i j)∧Ext w' w'')) :
    Does Tryz.prog 313 [.slice (some ⟨b,0,none⟩) n c,.int .i64 n,.func (.func g) ⟨[]⟩ ⟨cap⟩] w (fun v w'=>v = .tuple #[]∧Mod (blkIn (some ⟨b,0,none⟩)) w w'∧Own eI w' (some ⟨b,0,none⟩) n t (sortL r L)):=by
  have hn:=h.1;have hsub:∀ {M:List Int},M.Sublist L→Rise M:=fun hh=>rise_sub hL hh;refine oV Tryz.func313 ?_;refine lR [0,1,2,6,7,8] (fun (k:Nat) vs w'=>vs=[.slice (some ⟨b,0,none⟩) n c,.int .i64 n,.func (.func g) ⟨[]⟩ ⟨cap⟩,.int .i64 20,.int .i64 (20 * k:Nat),.int .i64 (20 * k+20:Nat)]∧20 * k≤n∧Mod (blkIn (some ⟨b,0,none⟩)) w w'∧Own eI w' (some ⟨b,0,none⟩) n t (sbL r L k++(L.drop (20 * k)++[]))) (fun k=>2 - k) 0 ⟨rfl,by omega,Vc.Mod.refl _ _,by simpa [sbL] using h⟩ ?_;rintro k g1 _ w1 ⟨rfl,hk,hM,hO⟩;have hsl:=sbL_len r L k (by omega);by_cases hkb:20 * k+20≤n
  · have hIns:Does Tryz.prog 343 [.slice (some ⟨b,0,none⟩) n c,.int .i64 (20 * k:Nat),.int .i64 (20 * k+20:Nat),.func (.func g) ⟨[]⟩ ⟨cap⟩] w1 (fun v w'=>v = .tuple #[]∧Mod (blkIn (some ⟨b,0,none⟩)) w1 w'∧Own eI w' (some ⟨b,0,none⟩) n t (sbL r L (k+1)++(L.drop (20 * (k+1))++[]))):=by
      have hd:L.drop (20 * k)=(L.drop (20 * k)).take 20++L.drop (20 * (k+1)):=by
        have:=List.take_append_drop 20 (L.drop (20 * k));rw [List.drop_drop] at this;rw [show 20 * (k+1)=20 * k+20 by omega];exact this.symm
      have hO1:Own eI w1 (some ⟨b,0,none⟩) n t (sbL r L k++((L.drop (20 * k)).take 20++(L.drop (20 * (k+1))++[]))):=by
        rw [← List.append_assoc ((L.drop (20 * k)).take 20),← hd];exact hO
      have hm:∀ i∈(L.drop (20 * k)).take 20,i∈L:=fun i hi=>List.mem_of_mem_drop (List.mem_of_mem_take hi);have:=lib_insertionInt (c:=c) hs hr hi hO1 (hsub ((List.take_sublist _ _).trans (List.drop_sublist _ _))) (fun i hi j hj w' M=>hg i (hm i hi) j (hm j hj) w' (hM.trans M)) (p:=20 * k) (q:=20 * k+20) hsl (by rw [List.length_take,List.length_drop];omega) (by omega);have e:sbL r L (k+1)++(L.drop (20 * (k+1))++[])=sbL r L k++(sortL r ((L.drop (20 * k)).take 20)++(L.drop (20 * (k+1))++[])):=by simp [sbL]
      rw [e];exact this
    refine IfB.yes (by omega) ?_;refine (hIns).mono ?_;rintro _ w43 ⟨rfl,m41,O42⟩;refine SemK.add (((20 * k+20+20:Nat):Int)) (by omega) (by omega) (by omega) ?_;exact ⟨k+1,by omega,rfl,by omega,(hM.trans m41),O42⟩
  · have hIns:Does Tryz.prog 343 [.slice (some ⟨b,0,none⟩) n c,.int .i64 (20 * k:Nat),.int .i64 n,.func (.func g) ⟨[]⟩ ⟨cap⟩] w1 (fun v w'=>v = .tuple #[]∧Mod (blkIn (some ⟨b,0,none⟩)) w1 w'∧Own eI w' (some ⟨b,0,none⟩) n t (sbL r L k++(sortL r (L.drop (20 * k))++[]))):=by
      have hm:∀ i∈L.drop (20 * k),i∈L:=fun i hi=>List.mem_of_mem_drop hi;exact lib_insertionInt (c:=c) hs hr hi hO (hsub (List.drop_sublist _ _)) (fun i hi j hj w' M=>hg i (hm i hi) j (hm j hj) w' (hM.trans M)) (p:=20 * k) (q:=n) hsl (by rw [List.length_drop];omega) (by omega)
    by_cases hsmall:n≤20
    · have he:sbL r L k++(sortL r (L.drop (20 * k))++[])=sortL r L:=by
        have hk01:k=0∨k=1:=by omega
        rcases hk01 with rfl | rfl
        · simp [sbL]
        · have hd:L.drop (20 * 1)=[]:=List.drop_eq_nil_of_le (by omega);rw [hd];simp [sbL,sortL,List.take_of_length_le (show L.length≤20 by omega)]
      rw [he] at hIns;have hns:¬ (20:Int)<n:=by omega
      refine IfB.no (by omega) ?_;refine (hIns).mono ?_;rintro _ w43 ⟨rfl,m41,O42⟩;refine lR [0,1,2,6] (fun (_:Nat) vs w'=>vs=[.slice (some ⟨b,0,none⟩) n c,.int .i64 n,.func (.func g) ⟨[]⟩ ⟨cap⟩,.int .i64 20]∧Mod (blkIn (some ⟨b,0,none⟩)) w w'∧Own eI w' (some ⟨b,0,none⟩) n t (sortL r L)) (fun _=>0) 0 ⟨rfl,hM.trans m41,O42⟩ ?_;rintro _ g2 _ w2 ⟨rfl,hM2,hO2⟩;refine IfB.no (by omega) ?_;exact ⟨rfl,hM2,hO2⟩
    · have he:sbL r L k++(sortL r (L.drop (20 * k))++[])=[]++(sortL r (L.take 20)++(sortL r (L.drop 20)++[])):=by
        have hk12:k=1∨(k=2∧n=40):=by omega
        rcases hk12 with rfl | ⟨rfl,h40⟩
        · simp [sbL]
        · have hd:L.drop (20 * 2)=[]:=List.drop_eq_nil_of_le (by omega);have ht:(L.drop (20 * 1)).take 20=L.drop 20:=List.take_of_length_le (by simp;omega);rw [hd];simp only [sbL,ht];simp [sortL]
      rw [he] at hIns;have hSM:∀ u,Mod (blkIn (some ⟨b,0,none⟩)) w u→Own eI u (some ⟨b,0,none⟩) n t ([]++(sortL r (L.take 20)++(sortL r (L.drop 20)++[])))→Does Tryz.prog 344 [.slice (some ⟨b,0,none⟩) n c,.int .i64 0,.int .i64 20,.int .i64 n,.func (.func g) ⟨[]⟩ ⟨cap⟩] u (fun v w'=>v = .tuple #[]∧Mod (blkIn (some ⟨b,0,none⟩)) u w'∧Own eI w' (some ⟨b,0,none⟩) n t (sortL r L)):=fun u hu hOu=>by
        have hmt:∀ x∈sortL r (L.take 20),x∈L.take 20:=fun x hx=>sortL_mem' hx;have hmd:∀ x∈sortL r (L.drop 20),x∈L.drop 20:=fun x hx=>sortL_mem' hx;have hmem:∀ x∈sortL r (L.take 20)++sortL r (L.drop 20),x∈L:=fun x hx=>by
          rcases List.mem_append.1 hx with hx | hx
          · exact List.mem_of_mem_take (hmt x hx)
          · exact List.mem_of_mem_drop (hmd x hx)
        have:=lib_symMergeInt (c:=c) hs hr (show n≤1000000 by omega) n (A:=[]) (B:=[]) (by rw [sortL_len',sortL_len',List.length_take,List.length_drop];omega) (by rw [sortL_len',List.length_take];omega) (by rw [sortL_len',List.length_drop];omega) hOu
          (hs.sortL (rise_nodup (hsub (List.take_sublist _ _)))) (hs.sortL (rise_nodup (hsub (List.drop_sublist _ _)))) (fun x hx y hy=>rise_split hL 20 x (hmt x hx) y (hmd y hy))
          (fun i hi j hj w' M=>hg i (hmem i hi) j (hmem j hj) w' (hu.trans M)) (p:=0) (m:=20) (q:=n) rfl (by rw [sortL_len',List.length_take];omega) (by rw [sortL_len',List.length_drop];omega)
        refine this.mono ?_;rintro _ w' ⟨rfl,M1,M,hP,hW,hO2⟩;have hP2:M.Perm L:=hP.trans (((sortL_perm r _).append (sortL_perm r _)).trans (by rw [List.take_append_drop]));rw [hs.is (rise_nodup hL) hP2 hW] at hO2;exact ⟨rfl,M1,by simpa using hO2⟩
      refine IfB.no (by omega) ?_;refine (hIns).mono ?_;rintro _ w43 ⟨rfl,m41,O42⟩;refine lR [0,1,2,6] (fun (s:Nat) vs w'=>(s=1∧vs=[.slice (some ⟨b,0,none⟩) n c,.int .i64 n,.func (.func g) ⟨[]⟩ ⟨cap⟩,.int .i64 20]∧Mod (blkIn (some ⟨b,0,none⟩)) w w'∧Own eI w' (some ⟨b,0,none⟩) n t ([]++(sortL r (L.take 20)++(sortL r (L.drop 20)++[]))))∨(s=0∧vs=[.slice (some ⟨b,0,none⟩) n c,.int .i64 n,.func (.func g) ⟨[]⟩ ⟨cap⟩,.int .i64 40]∧Mod (blkIn (some ⟨b,0,none⟩)) w w'∧Own eI w' (some ⟨b,0,none⟩) n t (sortL r L))) (fun s=>s) 1 (.inl ⟨rfl,rfl,hM.trans m41,O42⟩) ?_;rintro s g2 _ w2 (⟨rfl,rfl,hM2,hO2⟩ | ⟨rfl,rfl,hM2,hO2⟩)
      · have h20:(20:Int)<n:=by omega
        refine IfB.yes (by omega) ?_;refine SemK.mul 40 (by omega) (by omega) (by omega) ?_;refine lR [0,1,2,6,7,8] (fun (s:Nat) vs w'=>(s=1∧vs=[.slice (some ⟨b,0,none⟩) n c,.int .i64 n,.func (.func g) ⟨[]⟩ ⟨cap⟩,.int .i64 20,.int .i64 0,.int .i64 40]∧Mod (blkIn (some ⟨b,0,none⟩)) w w'∧Own eI w' (some ⟨b,0,none⟩) n t ([]++(sortL r (L.take 20)++(sortL r (L.drop 20)++[]))))∨(s=0∧vs=[.slice (some ⟨b,0,none⟩) n c,.int .i64 n,.func (.func g) ⟨[]⟩ ⟨cap⟩,.int .i64 20,.int .i64 40,.int .i64 80]∧Mod (blkIn (some ⟨b,0,none⟩)) w w'∧Own eI w' (some ⟨b,0,none⟩) n t (sortL r L))) (fun s=>s) 1 (.inl ⟨rfl,rfl,hM2,hO2⟩) ?_;rintro s g3 _ w3 (⟨rfl,rfl,hM3,hO3⟩ | ⟨rfl,rfl,hM3,hO3⟩)
        · by_cases h40:n=40
          · have hSM40:Does Tryz.prog 344 [.slice (some ⟨b,0,none⟩) n c,.int .i64 0,.int .i64 20,.int .i64 40,.func (.func g) ⟨[]⟩ ⟨cap⟩] w3 (fun v w'=>v = .tuple #[]∧Mod (blkIn (some ⟨b,0,none⟩)) w3 w'∧Own eI w' (some ⟨b,0,none⟩) n t (sortL r L)):=by
              have:=hSM w3 hM3 hO3;rw [show ((n:Nat):Int)=40 by omega] at this;exact this
            refine IfB.yes (by omega) ?_;refine SemK.add _ rfl (by omega) (by omega) ?_;refine (hSM40).mono ?_;rintro _ w46 ⟨rfl,m44,O45⟩;refine SemK.mul _ rfl (by omega) (by omega) ?_;refine SemK.add _ rfl (by omega) (by omega) ?_;exact ⟨0,by omega,.inr ⟨rfl,rfl,(hM3.trans m44),O45⟩⟩
          · have hSMn:=hSM w3 hM3 hO3;refine IfB.no (by omega) ?_;refine SemK.add _ rfl (by omega) (by omega) ?_;refine IfB.yes (by omega) ?_;refine (hSMn).mono ?_;rintro _ w46 ⟨rfl,m44,O45⟩;refine SemK.mul _ rfl (by omega) (by omega) ?_;exact ⟨0,by omega,.inr ⟨rfl,rfl,(hM3.trans m44),O45⟩⟩
        · refine IfB.no (by omega) ?_;refine SemK.add _ rfl (by omega) (by omega) ?_;refine IfB.no (by omega) ?_;refine SemK.mul _ rfl (by omega) (by omega) ?_;exact ⟨0,by omega,.inr ⟨rfl,rfl,hM3,hO3⟩⟩
      · have h40:¬ (40:Int)<n:=by omega
        refine IfB.no (by omega) ?_;exact ⟨rfl,hM2,hO2⟩
theorem lib_SortStableInt {r:Int→Int→Prop} (hs:Swo r) {cmp:Int→Int→Int} (hr:∀ i j,cmp i j<0↔r i j) (hi:∀ i j,i64ok (cmp i j)) {w:World} {b n c t g:Nat} {cap:List Value} {L:List Int} (h:Own eI w (some ⟨b,0,none⟩) n t L) (hL:Rise L) (hn40:n≤40)
    (hg:∀ i∈L,∀ j∈L,∀ w',Mod (blkIn (some ⟨b,0,none⟩)) w w'→Does Tryz.prog g (.int .i64 i :: .int .i64 j :: cap) w' (fun v w''=>v = .int .i64 (cmp i j)∧Ext w' w'')) :
    Does Tryz.prog 263 [.slice (some ⟨b,0,none⟩) n c,.func (.func g) ⟨[]⟩ ⟨cap⟩] w (fun v w'=>v = .tuple #[]∧Mod (blkIn (some ⟨b,0,none⟩)) w w'∧Own eI w' (some ⟨b,0,none⟩) n t (sortL r L)):=by
  have hS:=lib_stableInt (c:=c) hs hr hi h hL hn40 hg;refine oV Tryz.func263 ?_;refine (hS).mono ?_;rintro _ w43 ⟨rfl,m41,O42⟩;exact ⟨rfl,m41,O42⟩
end Go.Proofs.YthadkoinmohmlaaGreatDoor
namespace Go.M
open Go Go.Vc
theorem all_any (xs:List (List Int)) (q:List Int→Bool):(xs.any fun c=>!q c) = !xs.all q:=by rw [List.not_all_eq_any_not]
def cmpK (K:List (List Int)) (L:Nat) (i j:Int):Int:=cmpR (keyD K L i) (keyD K L j)
theorem cmpK_ok (K:List (List Int)) (L:Nat) (i j:Int):i64ok (cmpK K L i j):=by
  have:=cmpR_b (keyD K L i) (keyD K L j);unfold cmpK i64ok;omega
theorem keyD_at {d:List (List Int)} {f:TField} {L i:Nat} {c:List Int} (h:d[i]? = some c):keyD (d.map (ckey f)) L (i:Int)=ckey f c:=by
  unfold keyD;rw [List.getD_eq_getElem?_getD,List.getElem?_map,Int.toNat_natCast,h];rfl
theorem getD_map {d:List (List Int)} {f:TField} {i:Nat} {c z:List Int} (h:d[i]? = some c):(d.map (ckey f)).getD i z=ckey f c:=by
  rw [List.getD_eq_getElem?_getD,List.getElem?_map,h];rfl
end Go.M
namespace Go.Proofs.YthadkoinmohmlaaGreatDoor
open Go Go.RowKit Go.Vc Go.M
theorem lib_IndexFuncCard {w:World} {a:Option Addr} {n c g:Nat} {xs:List (List Int)} (h:ArrS RCard w a n xs) {p:List Int→Bool} {cap:List Value}
    (hg:∀ d x,x∈xs→RCard w d x→∀ w',Ext w w'→Does Tryz.prog g (.agg ⟨eH d⟩ :: cap) w' (fun v w''=>v = .bool (p x)∧Ext w' w'')) :
    Does Tryz.prog 312 [.slice a n c,.func (.func g) ⟨[]⟩ ⟨cap⟩] w (fun v w'=>∃ r:Int,v = .int .i64 r∧decide (0≤r)=xs.any p∧-1≤r∧Ext w w'):=by
  have hn:=h.len;have hm:=h.le;obtain ⟨hs,hV,hE⟩:=h;have hl:=hV.len;refine oV Tryz.func312 ?_;refine lR [0,1,7,8] (fun (k:Nat) vs w'=>vs=[.slice a n c,.func (.func g) ⟨[]⟩ ⟨cap⟩,.int .i64 n,.int .i64 k]∧k≤n∧(xs.take k).any p=false∧Ext w w') (fun k=>n - k) 0 ⟨rfl,by omega,by simp,Ext.refl _⟩ ?_;rintro k g' _ w' ⟨rfl,hk,hall,hX⟩;rcases Nat.lt_or_ge k n with hkn | hkn
  · obtain ⟨d,hd⟩:=get_of_lt (l:=hs) (k:=k) (by omega);obtain ⟨x,hx,R⟩:=hE.get hd;have hgx:=hg d x (List.mem_of_getElem? hx) R;have hts:=any_take_succ (p:=p) hx;cases hpx:p x
    · rw [hpx] at hgx hts;rw [hall,Bool.or_false] at hts;refine IfB.yes (by omega) ?_;refine jI (hV.ext hX) k rfl hd ?_;intro b2 o2 ha2 hb2;refine jA (n:=1) hb2 rfl ?_;refine (hgx _ hX).mono ?_;rintro _ w4 ⟨rfl,e3⟩;refine SemK.add (((k+1:Nat):Int)) (by omega) (by omega) (by omega) ?_;exact ⟨k+1,by omega,rfl,by omega,by omega,(xt hX e3)⟩
    · rw [hpx] at hgx;have hany:xs.any p=true:=List.any_eq_true.2 ⟨x,List.mem_of_getElem? hx,hpx⟩;rw [hany];refine IfB.yes (by omega) ?_;refine jI (hV.ext hX) k rfl hd ?_;intro b2 o2 ha2 hb2;refine jA (n:=1) hb2 rfl ?_;refine (hgx _ hX).mono ?_;rintro _ w4 ⟨rfl,e3⟩;exact ⟨_,rfl,rfl,by omega,(xt hX e3)⟩
  · rw [List.take_of_length_le (by omega)] at hall;rw [hall];refine IfB.no (by omega) ?_;exact ⟨_,rfl,rfl,by omega,hX⟩
theorem lib_ContainsFuncCard {w:World} {a:Option Addr} {n c g:Nat} {xs:List (List Int)} (h:ArrS RCard w a n xs) {p:List Int→Bool} {cap:List Value}
    (hg:∀ d x,x∈xs→RCard w d x→∀ w',Ext w w'→Does Tryz.prog g (.agg ⟨eH d⟩ :: cap) w' (fun v w''=>v = .bool (p x)∧Ext w' w'')) :
    Does Tryz.prog 260 [.slice a n c,.func (.func g) ⟨[]⟩ ⟨cap⟩] w (fun v w'=>v = .bool (xs.any p)∧Ext w w'):=by
  refine oV Tryz.func260 ?_;refine (lib_IndexFuncCard h hg).mono ?_;rintro _ w2 ⟨r,rfl,hr,hr1,e2⟩;exact ⟨by simp only [*],e2⟩
theorem impl_haveField1 {w:World} {b:Nat} {d:Hd} {xs:List Int} (R:RCard w d xs) {f:TField} (hf:fieldB f xs.length=true) (hc:Cells w b 0 f.enc) :
    Does Tryz.prog 261 [.agg ⟨eH d⟩,.pointer (some ⟨b,0,none⟩)] w (fun v w'=>v = .bool (!hasB (partOf xs f))∧Ext w w'):=by
  have hF:∀ u,Ext w u→Does Tryz.prog 262 [.agg ⟨eH d⟩,.agg ⟨f.enc⟩] u (fun v w'=>v = .bool (hasB (partOf xs f))∧Ext u w'):=fun u e=>impl_hasField ⟨R.1.ext e,R.2⟩ hf;refine oV Tryz.func261 ?_;refine SemK.box ?_;intro b2 w2 g2 l2 e2 B2;refine jA (n:=1) B2.cells rfl ?_;refine jA (n:=2) (hc.ext e2) rfl ?_;refine (hF _ e2).mono ?_;rintro _ w4 ⟨rfl,e3⟩;exact ⟨rfl,(xt e2 e3)⟩
theorem impl_haveField {w:World} {a:Option Addr} {n c:Nat} {xs:List (List Int)} (h:ArrS RCard w a n xs) {f:TField} (hd:deckB xs=true) (hf:fieldB f (widthOf xs)=true) :
    Does Tryz.prog 194 [.slice a n c,.agg ⟨f.enc⟩] w (fun v w'=>v = .bool (xs.all fun c=>hasB (partOf c f))∧Ext w w'):=by
  have hdm:=deckB_mem hd;have haa:=all_any xs (fun c=>hasB (partOf c f));have hC:∀ u b,Ext w u→Cells u b 0 f.enc→Does Tryz.prog 260 [.slice a n c,.func (.func 261) ⟨[]⟩ ⟨[.pointer (some ⟨b,0,none⟩)]⟩] u (fun v w'=>v = .bool (!xs.all fun c=>hasB (partOf c f))∧Ext u w'):=fun u b e hc=>by
    rw [← haa];exact lib_ContainsFuncCard (h.ext e) (p:=fun c=>!hasB (partOf c f)) (fun d x hx R w' e2=>impl_haveField1 ⟨R.1.ext e2,R.2⟩ (by rw [(hdm.2 x hx).2];exact hf) (hc.ext e2))
  refine oV Tryz.func194 ?_;refine SemK.box ?_;intro b1 w1 g1 l1 e1 B1;refine (hC w1 b1 e1 B1.cells).mono ?_;rintro _ w2 ⟨rfl,e2⟩;exact ⟨by rw [Bool.not_not],xt e1 e2⟩
theorem impl_sortCode {w:World} {a:Option Addr} {n c:Nat} {xs:List (List Int)} (h:ArrS RCard w a n xs) (f:TField) :
    Does Tryz.prog 123 [.slice a n c,.agg ⟨f.enc⟩] w (fun v w'=>v = .int .i64 (keysM xs f).2∧Ext w w'):=by
  cases hz1:deckB xs
  · rw [keys_deck hz1];refine oV Tryz.func123 ?_;refine SemK.box ?_;intro b2 w2 g2 l2 e2 B2;refine (impl_ValidDeck (h.ext e2)).mono ?_;rintro _ w4 ⟨rfl,e3⟩;refine IfB.eqt (by simp [*];done) ?_;exact ⟨rfl,(xt e2 e3)⟩
  · cases hz2:fieldB f (widthOf xs)
    · rw [keys_field hz1 hz2];refine oV Tryz.func123 ?_;refine SemK.box ?_;intro b3 w3 g3 l3 e3 B3;refine (impl_ValidDeck (h.ext e3)).mono ?_;rintro _ w5 ⟨rfl,e4⟩;refine IfB.eqf (by simp [*];done) ?_;refine dH [(0,false),(1,true),(2,true),(3,true),(4,true),(5,true)] ?_;intro w6 e6;refine dA (n:=2) (B3.ext e4).cells rfl ?_;refine (impl_deckColumns (h.ext (xt (xt e3 e4) e6))).mono ?_;rintro _ w8 ⟨rfl,e7⟩;refine ⟨(xt e6 e7),?_⟩;refine (impl_isField _ _ _).mono ?_;rintro _ w10 ⟨rfl,e9⟩;refine ⟨(xt (xt e6 e7) e9),?_⟩;refine IfB.eqt (by simp [*];done) ?_;exact ⟨rfl,(xt (xt (xt (xt e3 e4) e6) e7) e9)⟩
    · cases hz3:xs.all fun c=>hasB (partOf c f)
      · have hk:keysM xs f=([],8):=by
          unfold keysM;rw [if_neg (by simp [hz1]),if_neg (by simp [hz2]),if_pos hz3]
        rw [hk];have hH:∀ u,Ext w u→Does Tryz.prog 194 [.slice a n c,.agg ⟨f.enc⟩] u (fun v w'=>v = .bool false∧Ext u w'):=fun u e=>by
          have:=impl_haveField (c:=c) (h.ext e) hz1 hz2;rw [hz3] at this;exact this
        refine oV Tryz.func123 ?_;refine SemK.box ?_;intro b4 w4 g4 l4 e4 B4;refine (impl_ValidDeck (h.ext e4)).mono ?_;rintro _ w6 ⟨rfl,e5⟩;refine IfB.eqf (by simp [*];done) ?_;refine dH [(0,false),(1,true),(2,true),(3,true),(4,true),(5,true)] ?_;intro w7 e7;refine dA (n:=2) (B4.ext e5).cells rfl ?_;refine (impl_deckColumns (h.ext (xt (xt e4 e5) e7))).mono ?_;rintro _ w9 ⟨rfl,e8⟩;refine ⟨(xt e7 e8),?_⟩;refine (impl_isField _ _ _).mono ?_;rintro _ w11 ⟨rfl,e10⟩;refine ⟨(xt (xt e7 e8) e10),?_⟩;refine IfB.eqf (by simp [*];done) ?_;refine jA (n:=2) (B4.ext (xt (xt (xt e5 e7) e8) e10)).cells rfl ?_;refine (hH _ (xt (xt (xt (xt e4 e5) e7) e8) e10)).mono ?_;rintro _ w13 ⟨rfl,e12⟩;exact ⟨rfl,(xt (xt (xt (xt (xt e4 e5) e7) e8) e10) e12)⟩
      · rw [keys_good hz1 hz2 hz3];have hH:∀ u,Ext w u→Does Tryz.prog 194 [.slice a n c,.agg ⟨f.enc⟩] u (fun v w'=>v = .bool true∧Ext u w'):=fun u e=>by
          have:=impl_haveField (c:=c) (h.ext e) hz1 hz2;rw [hz3] at this;exact this
        refine oV Tryz.func123 ?_;refine SemK.box ?_;intro b4 w4 g4 l4 e4 B4;refine (impl_ValidDeck (h.ext e4)).mono ?_;rintro _ w6 ⟨rfl,e5⟩;refine IfB.eqf (by simp [*];done) ?_;refine dH [(0,false),(1,true),(2,true),(3,true),(4,true),(5,true)] ?_;intro w7 e7;refine dA (n:=2) (B4.ext e5).cells rfl ?_;refine (impl_deckColumns (h.ext (xt (xt e4 e5) e7))).mono ?_;rintro _ w9 ⟨rfl,e8⟩;refine ⟨(xt e7 e8),?_⟩;refine (impl_isField _ _ _).mono ?_;rintro _ w11 ⟨rfl,e10⟩;refine ⟨(xt (xt e7 e8) e10),?_⟩;refine IfB.eqf (by simp [*];done) ?_;refine jA (n:=2) (B4.ext (xt (xt (xt e5 e7) e8) e10)).cells rfl ?_;refine (hH _ (xt (xt (xt (xt e4 e5) e7) e8) e10)).mono ?_;rintro _ w13 ⟨rfl,e12⟩;exact ⟨rfl,(xt (xt (xt (xt (xt e4 e5) e7) e8) e10) e12)⟩
theorem impl_orderBy1 {w:World} {a:Option Addr} {n c b2 b3:Nat} {xs:List (List Int)} (h:ArrS RCard w a n xs) {f:TField} (hd:deckB xs=true) (hf:fieldB f (widthOf xs)=true) (hc2:Cells w b2 0 [.slice a n c]) (hc3:Cells w b3 0 f.enc) {i j:Nat} (hi:i<n) (hj:j<n) :
    Does Tryz.prog 264 [.int .i64 i,.int .i64 j,.pointer (some ⟨b2,0,none⟩),.pointer (some ⟨b3,0,none⟩)] w (fun v w'=>v = .int .i64 (cmpK (xs.map (ckey f)) (fLen f) i j)∧Ext w w'):=by
  have hn:=h.len;have hm:=h.le;obtain ⟨hs,hV,hE⟩:=h;have hl:=hV.len;obtain ⟨d,hdd⟩:=get_of_lt (l:=hs) (k:=i) (by omega);obtain ⟨x,hx,R⟩:=hE.get hdd;obtain ⟨d',hdd'⟩:=get_of_lt (l:=hs) (k:=j) (by omega);obtain ⟨y,hy,R'⟩:=hE.get hdd';have hdm:=deckB_mem hd;have f1:fieldB f x.length=true:=by rw [(hdm.2 x (List.mem_of_getElem? hx)).2];exact hf
  have f2:fieldB f y.length=true:=by rw [(hdm.2 y (List.mem_of_getElem? hy)).2];exact hf
  unfold cmpK;rw [keyD_at hx,keyD_at hy];have hF:∀ u,Ext w u→Does Tryz.prog 265 [.agg ⟨eH d⟩,.agg ⟨eH d'⟩,.agg ⟨f.enc⟩] u (fun v w'=>v = .int .i64 (cmpR (ckey f x) (ckey f y))∧Ext u w'):=fun u e=>impl_compareFields ⟨R.1.ext e,R.2⟩ ⟨R'.1.ext e,R'.2⟩ f1 f2;refine oV Tryz.func264 ?_;refine dH [(0,false),(1,false),(2,false),(3,false),(4,false),(5,false),(6,false),(7,false),(8,true),(9,true),(10,true)] ?_;intro w4 e4;refine dL hc2 (k:=0) rfl ?_;refine dI hV i rfl hdd ?_;intro b6 o6 ha6 hb6;refine dA (n:=1) hb6 rfl ?_;refine dL hc2 (k:=0) rfl ?_;refine dI hV j rfl hdd' ?_;intro b8 o8 ha8 hb8;refine dA (n:=1) hb8 rfl ?_;refine jA (n:=2) (hc3.ext e4) rfl ?_;refine ⟨e4,?_⟩;refine (hF _ e4).mono ?_;rintro _ w10 ⟨rfl,e9⟩;refine ⟨(xt e4 e9),?_⟩;exact ⟨rfl,(xt e4 e9)⟩
theorem impl_orderBy {w:World} {a:Option Addr} {n c:Nat} {xs:List (List Int)} (h:ArrS RCard w a n xs) {f:TField} (hd:deckB xs=true) (hf:fieldB f (widthOf xs)=true) :
    Does Tryz.prog 195 [.slice a n c,.agg ⟨f.enc⟩] w (fun v w'=>∃ a' c',v = .slice a' n c'∧NewAt w.heap.size a'∧Own eI w' a' n 2 (placesM (xs.map (ckey f)) (fLen f))∧Ext w w'):=by
  have hn:=h.len;have hm:=h.le;have hdm:=deckB_mem hd;have h40:=hdm.1;have hK:∀ k∈xs.map (ckey f),k.length=fLen f:=fun k hk=>by
    obtain ⟨c,hc,rfl⟩:=List.mem_map.1 hk;exact ckey_len hd hf hc
  refine oV Tryz.func195 ?_;refine SemK.box ?_;intro b2 w2 g2 l2 e2 B2;refine SemK.box ?_;intro b3 w3 g3 l3 e3 B3;refine bS mk_62 (vs:=[]) ?_;intro b7 w7 g7 l7 e7 B7;have G7:=Grow.new0 (enc:=eI) eI_len B7 g7;refine jL (B2.ext (xt e3 e7)).cells (k:=0) rfl ?_;refine lR [2,3,5,8,9,10] (fun (k:Nat) vs w'=>∃ b c1,vs=[.pointer (some ⟨b2,0,none⟩),.pointer (some ⟨b3,0,none⟩),.slice (some ⟨b,0,none⟩) k c1,.slice a n c,.int .i64 n,.int .i64 k]∧k≤n∧Grow eI 1 w3.heap.size 2 w' (some ⟨b,0,none⟩) k c1 (upto k)∧Ext w3 w') (fun k=>n - k) 0 ⟨_,_,rfl,by omega,G7,e7⟩ ?_;rintro k g _ w8 ⟨b,c1,rfl,hk,hG,hX⟩;have hup:=upto_succ k;have hul:=upto_length k;rcases Nat.lt_or_ge k n with hkn | hkn
  · refine IfB.yes (by omega) ?_;refine bS mk_62 (vs:=[Value.int IntKind.i64 ↑k]) ?_;intro b41 w41 g41 l41 e41 B41;have G41:=Grow.of_blk (n:=1) (enc:=eI) (xs:=[↑k]) eI_len B41 g41 rfl (by decide);refine SemK.appendArr0 (enc:=eI) mk_62 eI_len (hG.ext e41) (G41.own.arr eI_len) (by intro y _;simp [eI,cellish]) (by omega) (by omega) (Below.size (xt hX e41)) ?_;intro a42 c42 w42 G42 m42 i42;refine SemK.add (((k+1:Nat):Int)) (by omega) (by omega) (by omega) ?_;obtain ⟨b42,rfl⟩:=G42.own.some (by omega);refine ⟨k+1,by omega,_,_,rfl,by omega,?_,xm (xt hX e41) m42 (blkIn_new hG.new)⟩;rw [hup];exact G42
  · obtain rfl:k=n:=by omega
    have hXw:=xt (xt e2 e3) hX;have hnew:w3.heap.size≤b:=hG.new _ rfl;have hSort:=lib_SortStableInt (c:=c1) (g:=264) (cap:=[.pointer (some ⟨b2,0,none⟩),.pointer (some ⟨b3,0,none⟩)]) (ordR_swo hK) (cmp:=cmpK (xs.map (ckey f)) (fLen f)) (fun i j=>Iff.rfl) (cmpK_ok _ _) hG.own (upto_rise _) (by omega) (fun i hi j hj w2 M2=>by
      obtain ⟨i',hi',rfl⟩:=upto_mem.1 hi;obtain ⟨j',hj',rfl⟩:=upto_mem.1 hj;have E3:Ext w3 w2:=xm hX M2 (blkIn_new hG.new);exact impl_orderBy1 (h.ext (xt (xt e2 e3) E3)) hd hf ((B2.ext e3).ext E3).cells (B3.ext E3).cells hi' hj')
    refine IfB.no (by omega) ?_;refine hSort.mono ?_;rintro _ w9 ⟨rfl,m9,O9⟩;have hs2:=e2.size;have hs3:=e3.size;refine ⟨_,_,rfl,NewAt.some (by omega),?_,xt (xt e2 e3) (xm hX m9 (blkIn_new hG.new))⟩;unfold placesM;rw [List.length_map,hn];exact O9
theorem impl_newCard {w:World} {d:Hd} {xs:List Int} (R:RCard w d xs) (hx:d.n≤1000000) :
    Does Tryz.prog 108 [.agg ⟨eH d⟩] w (fun v w'=>∃ a' c',v = .agg ⟨eH ⟨a',d.n,c'⟩⟩∧NewAt w.heap.size a'∧Grow eI 1 w.heap.size 2 w' a' d.n c' xs∧Ext w w'):=by
  obtain ⟨A,hnc⟩:=R;refine oV Tryz.func108 ?_;refine SemK.box ?_;intro b1 w1 g1 l1 e1 B1;refine jN (z := .agg #[.slice none 0 0]) ?_;intro b2 w2 g2 l2 e2 B2;refine jL (B1.ext e2).cells (k:=0) rfl ?_;refine (impl_copyInts (A.ext (xt e1 e2)) hx).mono ?_;rintro _ w8 ⟨a'3,c'4,rfl,N5,G6,e7⟩;refine SemK.build st_131 rfl ?_;refine jS (vs:=[Value.slice a'3 d.n c'4]) (B2.ext e7) rfl rfl (by simp [cellish]) ?_;intro w9 c9 B9;refine CellK.of (jR (n:=1) rfl B9.cells) ?_;refine ⟨_,_,rfl,?_,?_,?_⟩
  · exact (G6.new.mono (Below.size (xt e1 e2)))
  · exact (G6.base (Below.size (xt e1 e2))).kept (fun x hx=>c9.but.block _ (by have:=G6.new x hx;omega) (G6.lt x hx))
  · exact (xb (xt (xt e1 e2) e7) c9.but (Nat.le_trans (Below.size e1) g2))
end Go.Proofs.YthadkoinmohmlaaGreatDoor
