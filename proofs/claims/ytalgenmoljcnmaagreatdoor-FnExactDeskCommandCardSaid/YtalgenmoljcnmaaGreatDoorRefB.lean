/- Parts of the proof; no conditions of its own. -/
import Derived.Test.YtalgenmoljcnmaaGreatDoorRefA
import Derived.Test.YtalgenmoljcnmaaGreatDoorDeal
import Derived.Test.YtalgenmoljcnmaaGreatDoorDesks
namespace Go.M
open Go Go.Vc
variable {t:ByteArray} {c:List Int}
theorem VG.drop {α:Type} {R:Rd α} {w:World} {hs:List Hd} {xs:List α} (h:VG R w hs xs) (k:Nat):VG R w (hs.drop k) (xs.drop k) :=
 ⟨by rw [List.length_drop,List.length_drop,h.1],fun d c e a b=>by
  rw [List.getElem?_drop] at a b;exact h.2 (k+d) c e a b⟩
theorem OL (c:UInt8):MU c=true->0<=Bk (ED c.toNat)/\Bk (ED c.toNat)<=39/\BI (Bk (ED c.toNat)).toNat=c :=
 Re (p:=fun c=>MU c=true->0<=Bk (ED c.toNat)/\Bk (ED c.toNat)<=39/\BI (Bk (ED c.toNat)).toNat=c) (by decide +kernel) c
theorem YT (h:CR t=true):Cf (CO (CW t))=t/\Gf t.size (CO (CW t)):=by
 have c:=List.all_eq_true.1 h;refine ⟨?_,by simp [CO,CW],fun e d=>?_⟩
 .apply Cs;unfold Cf CO CW;rw [JI,List.map_map,List.map_map];conv=>rhs;rw [<- List.map_id t.data.toList]
  apply List.map_congr_left;intro a b;exact (OL a (c a b)).2.2
 .unfold CO CW at d;rw [List.map_map] at d;obtain ⟨a,b,rfl⟩:=List.mem_map.1 d;exact ⟨(OL a (c a b)).1,(OL a (c a b)).2.1⟩
theorem aC4 {L:Nat} {f:AE} (hc:Gf L (AS f c)) (ht:CR t=true) (hl:t.size=L):decide (Cf (AS f c)=t)=decide (C6 f c t=0):=by
 obtain ⟨e,d⟩:=YT ht;rw [hl] at d;unfold C6;by_cases b:AS f c=CO (CW t)
 .rw [b,e,Gx];simp
 .rw [decide_eq_false (fun a=>b (T2 hc d (by rw [a,e]))),decide_eq_false (fun a=>b (Ie (by rw [hc.1,d.1]) a))]
theorem aE6 (d:List (List Int)) (f:AE):BT [d] [] f=(Bu d f).2:=by
 cases c:A2 d
 .rw [JG sI c,I8 c]
 cases e:AR f (AJ d)
 .rw [IB (fun b a=>by simp at a;subst a;exact c) sI e,H2 c e]
 have h:∀ b∈[d],A2 b=true:=fun b a=>by simp at a;subst a;exact c
 have i:∀ b∈[d],AR f (AJ b)=true:=fun b a=>by simp at a;subst a;exact e
 rw [Mv c e];cases g:Dg d f
 .rw [JF h i sI sI (d:=d) sI g,if_neg sI]
 .rw [Pv h i sI sI (fun b a=>by simp at a;subst a;exact g),if_pos rfl]
theorem EF {d:List (List Int)} (h:d[0]? = some c):AJ d=c.length:=by
 cases d with
 | nil=>cases h
 | cons b a=>simp at h;subst h;rfl
theorem TO (d o:List (List Int)) (f:AE):(d.filter fun x=>Kt o x f)=Cc d o f true:=by
 unfold Cc;congr 1;funext x;cases Kt o x f<;>rfl
theorem V2 (d o:List (List Int)) (f:AE):(d.filter fun x=>!Kt o x f)=Cc d o f false:=by
 unfold Cc;congr 1;funext x;cases Kt o x f<;>rfl
end Go.M
namespace Go.Proofs.YtalgenmoljcnmaaGreatDoor
open Go Go.RowKit Go.Vc Go.M
variable {w:World} {a a2 b b2:Option Addr} {n c n2 c2 d d2 L:Nat} {xs ys A B:List (List Int)} {t:ByteArray}
theorem Of (h:Ac AZ w a n xs) (h2:Ac AZ w a2 n2 ys) (f:AE) :
  Dq 328 [.slice a n c,.slice a2 n2 c2,.agg ⟨f.enc⟩] w (fun v w'=>∃ b m d b2 m2 d2,v = .tuple #[.slice b m d,.slice b2 m2 d2,.int .i64 (BT [xs,ys] [] f)]/\(BT [xs,ys] [] f=0->A4 eS 1 w' b m ((xs.map (AS f)).map Cf)/\A4 eS 1 w' b2 m2 ((ys.map (AS f)).map Cf))/\AD w w'):=by
 have b0:=h.len;have b1:=h2.len;have ad:∀ l,AD w l->Dq 117 [.slice a n c] l (fun v w'=>v = .bool (A2 xs)/\AD l w'):=fun l x=>DW (h.ext x);have ag:∀ l,AD w l->Dq 117 [.slice a2 n2 c2] l (fun v w'=>v = .bool (A2 ys)/\AD l w'):=fun l x=>DW (h2.ext x);have am:∀ l,AD w l->Dq 235 [.slice a n c] l (fun v w'=>v = .int .i64 (AJ xs)/\AD l w'):=fun l x=>EH (h.ext x);have an:∀ l,AD w l->Dq 235 [.slice a2 n2 c2] l (fun v w'=>v = .int .i64 (AJ ys)/\AD l w'):=fun l x=>EH (h2.ext x);have ae:∀ l,Dq 234 [.agg ⟨f.enc⟩,.int .i64 (AJ xs)] l (fun v w'=>v = .bool (AR f (AJ xs))/\AD l w'):=fun l=>Ch _ _ l;have ah:∀ l,Dq 234 [.agg ⟨f.enc⟩,.int .i64 (AJ ys)] l (fun v w'=>v = .bool (AR f (AJ ys))/\AD l w'):=fun l=>Ch _ _ l;have ai:∀ l,AD w l->Dq 166 [.slice a n c,.agg ⟨f.enc⟩] l (fun v w'=>∃ af ao a8,v = .tuple #[.slice af ao a8,.int .i64 (Bu xs f).2]/\Ab l.heap.size af/\Bs eS w' af ao 9 ((Bu xs f).1.map Cf)/\AD l w'):=fun l x=>Eu (h.ext x) f;have aa:∀ l,AD w l->Dq 166 [.slice a2 n2 c2,.agg ⟨f.enc⟩] l (fun v w'=>∃ af ao a8,v = .tuple #[.slice af ao a8,.int .i64 (Bu ys f).2]/\Ab l.heap.size af/\Bs eS w' af ao 9 ((Bu ys f).1.map Cf)/\AD l w'):=fun l x=>Eu (h2.ext x) f;cases bc:A2 xs
 .have u:BT [xs,ys] [] f=1:=JG sI bc;rw [u];clear ae ah;refine oV Tryz.func328 ?_;refine AB.box fun bq bu br bt al bo=>(ad _ al).mono ?_;rintro _ bn ⟨rfl,z⟩;refine iT ?_;exact ⟨_,_,_,_,_,_,rfl,om,(xt al z)⟩
 cases bd:A2 ys
 .have u:BT [xs,ys] [] f=1:=JG (d:=ys) sI bd;rw [u];clear ae ah;refine oV Tryz.func328 ?_;refine AB.box ?_;intro bq bu br bt al bo;refine dM (ad _ al) fun bn z=>?_;refine iF ?_;refine dM (ag _ (xt al z)) fun ap ac=>iT ?_;exact ⟨_,_,_,_,_,_,rfl,om,(xt (xt al z) ac)⟩
 have t:∀ d∈[xs,ys],A2 d=true:=fun d t=>by simp at t;rcases t with rfl | rfl;exact bc;exact bd
 cases be:AR f (AJ xs)
 .have u:BT [xs,ys] [] f=2:=IB t sI be;rw [u];refine oV Tryz.func328 ?_;refine AB.box ?_;intro bv b7 bx b3 z bp;refine dM (ad _ z) fun b8 y=>?_;refine iF ?_;refine dM (ag _ (xt z y)) fun b9 o=>iF ?_;refine dH (pB [0,3,5,7,9,11,12,15,17,19,21,23]) fun aq av=>dA (n:=2) (bp.ext (xt y o)).cells rfl ?_;refine dM (am _ (xt (xt (xt z y) o) av)) fun ax e=>⟨(xt av e),?_⟩;exact dM (ae _) fun b6 g=>⟨(xt (xt av e) g),iT ⟨_,_,_,_,_,_,rfl,om,(xt (xt (xt (xt (xt z y) o) av) e) g)⟩⟩
 cases bf:AR f (AJ ys)
 .have u:BT [xs,ys] [] f=2:=IB (d:=ys) t sI bf;rw [u];refine oV Tryz.func328 ?_;refine AB.box ?_;intro bw bn bz b4 y bm;refine dM (ad _ y) fun ap ac=>?_;refine iF ?_;refine dM (ag _ (xt y ac)) fun aq j=>iF ?_;refine dH (pB [0,3,5,7,9,11,12,15,17,19,21,23]) fun b5 e=>dA (n:=2) (bm.ext (xt ac j)).cells rfl ?_;refine dM (am _ (xt (xt (xt y ac) j) e)) fun ay ak=>⟨(xt e ak),?_⟩;exact dM (ae _) fun az i=>⟨(xt (xt e ak) i),iF<|dA (n:=2) (bm.ext (xt ac j)).cells rfl<|dM (an _ (xt (xt (xt (xt (xt y ac) j) e) ak) i)) fun a0 k=>⟨(xt (xt (xt e ak) i) k),dM (ah _) fun a1 p=>⟨(xt (xt (xt (xt e ak) i) k) p),iT ⟨_,_,_,_,_,_,rfl,om,(xt (xt (xt (xt (xt (xt (xt y ac) j) e) ak) i) k) p)⟩⟩⟩⟩
 have bb:∀ d∈[xs,ys],AR f (AJ d)=true:=fun d t=>by simp at t;rcases t with rfl | rfl;exact be;exact bf
 rw [Mv bc be] at ai;rw [Mv bd bf] at aa;cases aw:Dg xs f
 .have u:BT [xs,ys] [] f=8:=JF t bb sI sI (d:=xs) sI aw;rw [u];rw [if_neg (by simp [aw])] at ai;cases aj:Dg ys f
  .rw [if_neg (by simp [aj])] at aa;refine oV Tryz.func328 ?_;refine AB.box ?_;intro a7 ap ba bg o r;refine dM (ad _ o) fun aq j=>?_;refine iF ?_;refine dM (ag _ (xt o j)) fun ax e=>iF ?_;refine dH (pB [0,3,5,7,9,11,12,15,17,19,21,23]) fun ay g=>dA (n:=2) (r.ext (xt j e)).cells rfl ?_;refine dM (am _ (xt (xt (xt o j) e) g)) fun az i=>⟨(xt g i),?_⟩;refine dM (ae _) fun a0 k=>⟨(xt (xt g i) k),iF<|dA (n:=2) (r.ext (xt j e)).cells rfl<|dM (an _ (xt (xt (xt (xt (xt o j) e) g) i) k)) fun a1 p=>⟨(xt (xt (xt g i) k) p),dM (ah _) fun bj q=>⟨(xt (xt (xt (xt g i) k) p) q),iF<|jA (n:=2) (r.ext (xt (xt (xt (xt (xt (xt j e) g) i) k) p) q)).cells rfl<|(ai _ (xt (xt (xt (xt (xt (xt (xt o j) e) g) i) k) p) q)).mono ?_⟩⟩⟩;rintro _ bk ⟨a5,bh,a9,rfl,a3,ar,s⟩;refine jA (n:=2) (r.ext (xt (xt (xt (xt (xt (xt (xt j e) g) i) k) p) q) s)).cells rfl<|(aa _ (xt (xt (xt (xt (xt (xt (xt (xt o j) e) g) i) k) p) q) s)).mono ?_;rintro _ bl ⟨a6,bi,a',rfl,a4,au,ab⟩;exact ⟨_,_,_,_,_,_,rfl,om,(xt (xt (xt (xt (xt (xt (xt (xt (xt o j) e) g) i) k) p) q) s) ab)⟩
  .rw [if_pos aj] at aa;refine oV Tryz.func328 ?_;refine AB.box ?_;intro a7 ap ba bg o r;refine dM (ad _ o) fun aq j=>?_;refine iF ?_;refine dM (ag _ (xt o j)) fun ax e=>iF ?_;refine dH (pB [0,3,5,7,9,11,12,15,17,19,21,23]) fun ay g=>dA (n:=2) (r.ext (xt j e)).cells rfl ?_;refine dM (am _ (xt (xt (xt o j) e) g)) fun az i=>⟨(xt g i),?_⟩;refine dM (ae _) fun a0 k=>⟨(xt (xt g i) k),iF<|dA (n:=2) (r.ext (xt j e)).cells rfl<|dM (an _ (xt (xt (xt (xt (xt o j) e) g) i) k)) fun a1 p=>⟨(xt (xt (xt g i) k) p),dM (ah _) fun bj q=>⟨(xt (xt (xt (xt g i) k) p) q),iF<|jA (n:=2) (r.ext (xt (xt (xt (xt (xt (xt j e) g) i) k) p) q)).cells rfl<|(ai _ (xt (xt (xt (xt (xt (xt (xt o j) e) g) i) k) p) q)).mono ?_⟩⟩⟩;rintro _ bk ⟨a5,bh,a9,rfl,a3,ar,s⟩;refine jA (n:=2) (r.ext (xt (xt (xt (xt (xt (xt (xt j e) g) i) k) p) q) s)).cells rfl<|(aa _ (xt (xt (xt (xt (xt (xt (xt (xt o j) e) g) i) k) p) q) s)).mono ?_;rintro _ bl ⟨a6,bi,a',rfl,a4,au,ab⟩;exact ⟨_,_,_,_,_,_,rfl,om,(xt (xt (xt (xt (xt (xt (xt (xt (xt o j) e) g) i) k) p) q) s) ab)⟩
 .rw [if_pos aw] at ai;cases aj:Dg ys f
  .have u:BT [xs,ys] [] f=8:=JF t bb sI sI (d:=ys) sI aj;rw [u];rw [if_neg (by simp [aj])] at aa;refine oV Tryz.func328 ?_;refine AB.box ?_;intro a7 ap ba bg o r;refine dM (ad _ o) fun aq j=>?_;refine iF ?_;refine dM (ag _ (xt o j)) fun ax e=>iF ?_;refine dH (pB [0,3,5,7,9,11,12,15,17,19,21,23]) fun ay g=>dA (n:=2) (r.ext (xt j e)).cells rfl ?_;refine dM (am _ (xt (xt (xt o j) e) g)) fun az i=>⟨(xt g i),?_⟩;refine dM (ae _) fun a0 k=>⟨(xt (xt g i) k),iF<|dA (n:=2) (r.ext (xt j e)).cells rfl<|dM (an _ (xt (xt (xt (xt (xt o j) e) g) i) k)) fun a1 p=>⟨(xt (xt (xt g i) k) p),dM (ah _) fun bj q=>⟨(xt (xt (xt (xt g i) k) p) q),iF<|jA (n:=2) (r.ext (xt (xt (xt (xt (xt (xt j e) g) i) k) p) q)).cells rfl<|(ai _ (xt (xt (xt (xt (xt (xt (xt o j) e) g) i) k) p) q)).mono ?_⟩⟩⟩;rintro _ bk ⟨a5,bh,a9,rfl,a3,ar,s⟩;refine jA (n:=2) (r.ext (xt (xt (xt (xt (xt (xt (xt j e) g) i) k) p) q) s)).cells rfl<|(aa _ (xt (xt (xt (xt (xt (xt (xt (xt o j) e) g) i) k) p) q) s)).mono ?_;rintro _ bl ⟨a6,bi,a',rfl,a4,au,ab⟩;exact ⟨_,_,_,_,_,_,rfl,om,(xt (xt (xt (xt (xt (xt (xt (xt (xt o j) e) g) i) k) p) q) s) ab)⟩
  .have u:BT [xs,ys] [] f=0:=Pv t bb sI sI (fun d t=>by simp at t;rcases t with rfl | rfl;exact aw;exact aj);rw [u];rw [if_pos aj] at aa;refine oV Tryz.func328 ?_;refine AB.box ?_;intro a7 ap ba bg o r;refine dM (ad _ o) fun aq j=>?_;refine iF ?_;refine dM (ag _ (xt o j)) fun ax e=>iF ?_;refine dH (pB [0,3,5,7,9,11,12,15,17,19,21,23]) fun ay g=>dA (n:=2) (r.ext (xt j e)).cells rfl ?_;refine dM (am _ (xt (xt (xt o j) e) g)) fun az i=>⟨(xt g i),?_⟩;refine dM (ae _) fun a0 k=>⟨(xt (xt g i) k),iF<|dA (n:=2) (r.ext (xt j e)).cells rfl<|dM (an _ (xt (xt (xt (xt (xt o j) e) g) i) k)) fun a1 p=>⟨(xt (xt (xt g i) k) p),dM (ah _) fun bj q=>⟨(xt (xt (xt (xt g i) k) p) q),iF<|jA (n:=2) (r.ext (xt (xt (xt (xt (xt (xt j e) g) i) k) p) q)).cells rfl<|(ai _ (xt (xt (xt (xt (xt (xt (xt o j) e) g) i) k) p) q)).mono ?_⟩⟩⟩;rintro _ bk ⟨a5,bh,a9,rfl,a3,ar,s⟩;refine jA (n:=2) (r.ext (xt (xt (xt (xt (xt (xt (xt j e) g) i) k) p) q) s)).cells rfl<|(aa _ (xt (xt (xt (xt (xt (xt (xt (xt o j) e) g) i) k) p) q) s)).mono ?_;rintro _ bl ⟨a6,bi,a',rfl,a4,au,ab⟩;refine ⟨_,_,_,_,_,_,rfl,?_,(xt (xt (xt (xt (xt (xt (xt (xt (xt o j) e) g) i) k) p) q) s) ab)⟩
   .exact fun _=>⟨(ar.ext ab).arr AP,au.arr AP⟩
theorem Ru (h:Ac AZ w a n xs) (h2:Ac AZ w a2 n2 ys) (hc2:n2<=c2) (hb:A4 eS 1 w b n (A.map Cf)) (hb2:A4 eS 1 w b2 n2 (B.map Cf))
  (hA:∀ k∈A,Gf L k) (hB:∀ k∈B,Gf L k) (hL:L<=1000) (sA:K5 A) (sB:K5 B) (h40:n+n2<=40) (hx:∀ x∈xs++ys,x.length<=1000) :
  Dq 330 [.slice a n c,.slice a2 n2 c2,.slice b n d,.slice b2 n2 d2] w (fun v w'=>∃ a' m c',v = .slice a' m c'/\m<=c'/\Dl Aw w' w.heap.size w'.heap.size a' m 144 ((Ds (A++B) L).map fun i=>(xs++ys).getD i.toNat [])/\AD w w'):=by
 have c6:=h.len;have c7:=h2.len;have a6:=hb.len;have bv:=hb2.len;rw [List.length_map] at a6 bv;have ao:∀ k∈A,k.length=L:=fun k an=>(hA k an).1;have ap:∀ k∈B,k.length=L:=fun k an=>(hB k an).1;have d4:=h2;obtain ⟨c9,a9,cr⟩:=h;obtain ⟨a5,ba,bx⟩:=h2;have d7:=a9.len;have d8:=ba.len;generalize bf:(fun i:Int=>(xs++ys).getD i.toNat [])=z;have c0:∀ (i:Nat) x,xs[i]? = some x->z (i:Int)=x:=fun i x hx=>by
  subst bf;simp only [Int.toNat_natCast];rw [List.getD_eq_getElem?_getD,List.getElem?_append_left (List.getElem?_eq_some_iff.1 hx).1,hx];rfl
 have c1:∀ (i:Nat) ab,ys[i]? = some ab->z ((A.length:Int)+i)=ab:=fun i ab db=>by
  subst bf;simp only;rw [show ((A.length:Int)+(i:Int)).toNat=xs.length+i by omega,List.getD_eq_getElem?_getD,List.getElem?_append_right om,Nat.add_sub_cancel_left,db];rfl
 have cz:∀ k,((FD n2).drop k).map (fun p=>z ((A.length:Int)+p))=ys.drop k:=fun k=>by
  have:=Zr xs ys [] k;rw [c7,c6,<- a6,bf] at this;exact this
 refine oV Tryz.func330 ?_;conv=>whnf
 refine bS Bz (vs:=[]) ?_;intro cm dq cq ed cn ch;have ci:Bm Aw w.heap.size 144 dq (some ⟨cm,0,none⟩) 0 0 []:=EO ch cq;(conv=>whnf);refine lR [0,1,2,3,9,10,11] (fun (x:Nat×Nat×List Int) bh w'=>∃ i k q,x=(i,k,q)/\∃ ac ad,bh=[.slice a n c,.slice a2 n2 c2,.slice b n d,.slice b2 n2 d2,.slice ac (i+k) ad,.int .i64 k,.int .i64 i]/\i<=n/\k<=n2/\Wy (A++B) L A.length B.length i k q/\Bm Aw w.heap.size 144 w' ac (i+k) ad (q.map z)/\AD w w') (fun x=>n - x.1) (0,0,[]) ⟨0,0,[],rfl,_,_,rfl,om,om,Wy.nil _ _ _ _,by simpa using ci,cn⟩ ?_;rintro _ dz _ dl ⟨i,k,q,rfl,ac,ad,rfl,d5,an,b0,bz,af⟩;rcases Nat.lt_or_ge i n with c3 | c3
 .obtain ⟨u,be⟩:=AA (l:=c9) (k:=i) om;obtain ⟨bj,b8,bn⟩:=cr.get be;obtain ⟨x,aq⟩:=AA (l:=A) (k:=i) om;have b9:=Ex aq;have dh:=hA x (List.mem_of_getElem? aq);have eb:=bn.1.len;have d9:=hx bj (List.mem_append_left _ (List.mem_of_getElem? b8));have b5:=c0 i bj b8;have b1:∀ j b aa,AD w j->AK j b aa (eH u)->Dq 161 [.pointer (some ⟨b,aa,none⟩)] j (fun v w'=>∃ (a':Option Addr) (c':Nat),v = .agg #[.slice a' u.n c']/\An eI 1 j.heap.size 2 w' a' u.n c' bj/\AD j w'):=fun j b aa a4 bd=>Ek bd (bn.1.ext a4) om;(conv=>whnf);refine iY ?_;(conv=>whnf);refine lR [0,1,2,3,9,10,11] (fun (x:Nat×List Int) bh w'=>∃ k q,x=(k,q)/\∃ ac ad,bh=[.slice a n c,.slice a2 n2 c2,.slice b n d,.slice b2 n2 d2,.slice ac (i+k) ad,.int .i64 k,.int .i64 i]/\k<=n2/\Wy (A++B) L A.length B.length i k q/\Bm Aw w.heap.size 144 w' ac (i+k) ad (q.map z)/\AD w w') (fun x=>n2 - x.1) (k,q) ⟨k,q,rfl,_,_,rfl,om,b0,bz,af⟩ ?_;rintro _ d0 _ ef ⟨f,a0,rfl,dt,dw,rfl,d6,a8,ae,g⟩;rcases Nat.lt_or_ge f n2 with c4 | c4
  .obtain ⟨ak,b4⟩:=AA (l:=a5) (k:=f) om;obtain ⟨bk,b',bo⟩:=bx.get b4;obtain ⟨ab,ax⟩:=AA (l:=B) (k:=f) om;have ca:=Ex ax;have di:=hB ab (List.mem_of_getElem? ax);have bw:=fun j=>HL di dh j hL;by_cases b6:CY ab x<0
   .have c8:=a8.right ao ap sA sB ax (.inr ⟨x,aq,b6⟩);have cy:=c1 f bk b';have d':=hx bk (List.mem_append_right _ (List.mem_of_getElem? b'));have ea:=bo.1.len;have cs:∀ j b aa,AD w j->AK j b aa (eH ak)->Dq 161 [.pointer (some ⟨b,aa,none⟩)] j (fun v w'=>∃ (a':Option Addr) (c':Nat),v = .agg #[.slice a' ak.n c']/\An eI 1 j.heap.size 2 w' a' ak.n c' bk/\AD j w'):=fun j b aa a4 bd=>Ek bd (bo.1.ext a4) om;(conv=>whnf);refine dH (pB [0,3,5,7,9,10,12,14,16,18,21,23,25,27,29,31]) ?_;(conv=>whnf);intro cd e;(conv=>whnf);refine ⟨e,?_⟩;(conv=>whnf);refine iY ?_;(conv=>whnf);refine dI (hb2.ext g) f rfl ca ?_;intro br cc b3 am;(conv=>whnf);refine dO am rfl ?_;(conv=>whnf);refine jI (hb.ext (xt g e)) i rfl b9 ?_;intro cl df cu bb;(conv=>whnf);refine ⟨e,?_⟩;(conv=>whnf);refine jO bb rfl ?_;(conv=>whnf);refine ⟨e,?_⟩;(conv=>whnf);refine dM (bw _) fun dm o=>?_;(conv=>whnf);refine ⟨(xt e o),?_⟩;(conv=>whnf);refine iY ?_;(conv=>whnf);refine jI (ba.ext (xt (xt g e) o)) f rfl b4 ?_;intro a1 dg cv bc;(conv=>whnf);refine (cs _ _ _ (xt (xt g e) o) bc).mono ?_;rintro _ dp ⟨ai,aj,rfl,r,al⟩;(conv=>whnf);refine bS Bz (vs:=[Value.agg #[Value.slice ai ak.n aj]]) ?_;intro a3 bi cp dc s ay;(conv=>whnf);have ah:AK bi a3 0 (eH ⟨ai,ak.n,aj⟩):=ay.cells;refine Cb Bz rfl (ae.ext (xt e o)) (Below.size (xt (xt g e) o)) (xt al s) (FR ((r.ext s).own) r.le.1) (DB r.new (fun x hx=>Nat.lt_of_lt_of_le (r.lt x hx) s.size)) ah om om ?_;intro bq bu cf t ar cb;(conv=>whnf);refine jP (((f+1:Nat):Int)) ?_;(conv=>whnf);refine ⟨(f+1,a0++[(A.length:Int)+f]),by show n2 - (f+1)<n2 - f;omega,_,_,rfl,_,_,rfl,om,c8,?_,xm (xt (xt (xt (xt g e) o) al) s) ar (AQ (Bm.new ae))⟩;rw [List.map_append,List.map_cons,List.map_nil,cy];exact t
   .have bg:=a8.left ao ap sA sB aq (.inr ⟨ab,ax,b6⟩);(conv=>whnf);refine dH (pB [0,3,5,7,9,10,12,14,16,18,21,23,25,27,29,31]) ?_;(conv=>whnf);intro cd e;(conv=>whnf);refine ⟨e,?_⟩;(conv=>whnf);refine iY ?_;(conv=>whnf);refine dI (hb2.ext g) f rfl ca ?_;intro br cc b3 am;(conv=>whnf);refine dO am rfl ?_;(conv=>whnf);refine jI (hb.ext (xt g e)) i rfl b9 ?_;intro cl df cu bb;(conv=>whnf);refine ⟨e,?_⟩;(conv=>whnf);refine jO bb rfl ?_;(conv=>whnf);refine ⟨e,?_⟩;(conv=>whnf);refine dM (bw _) fun dm o=>?_;(conv=>whnf);refine ⟨(xt e o),?_⟩;(conv=>whnf);refine iN ?_;(conv=>whnf);refine jI (a9.ext (xt (xt g e) o)) i rfl be ?_;intro a1 dg cv bc;(conv=>whnf);refine (b1 _ _ _ (xt (xt g e) o) bc).mono ?_;rintro _ dp ⟨ai,aj,rfl,r,al⟩;(conv=>whnf);refine bS Bz (vs:=[Value.agg #[Value.slice ai u.n aj]]) ?_;intro a3 bi cp dc s ay;(conv=>whnf);have ah:AK bi a3 0 (eH ⟨ai,u.n,aj⟩):=ay.cells;refine Cb Bz rfl (ae.ext (xt e o)) (Below.size (xt (xt g e) o)) (xt al s) (FR ((r.ext s).own) r.le.1) (DB r.new (fun x hx=>Nat.lt_of_lt_of_le (r.lt x hx) s.size)) ah om om ?_;intro bq bu cf t ar cb;rw [show i+f+1=i+1+f by omega] at t ⊢;(conv=>whnf);refine jP (((i+1:Nat):Int)) ?_;(conv=>whnf);refine ⟨(i+1,f,a0++[(i:Int)]),by show n - (i+1)<n - i;omega,_,_,_,rfl,_,_,rfl,om,om,bg,?_,xm (xt (xt (xt (xt g e) o) al) s) ar (AQ (Bm.new ae))⟩;rw [List.map_append,List.map_cons,List.map_nil,b5];exact t
  .obtain rfl:f=n2:=om
   have bg:=a8.left ao ap sA sB aq (.inl om);(conv=>whnf);refine dH (pB [0,3,5,7,9,10,12,14,16,18,21,23,25,27,29,31]) ?_;(conv=>whnf);intro cd e;(conv=>whnf);refine ⟨e,?_⟩;(conv=>whnf);refine iN ?_;(conv=>whnf);refine jI (a9.ext (xt g e)) i rfl be ?_;intro br cc b3 am;(conv=>whnf);refine (b1 _ _ _ (xt g e) am).mono ?_;rintro _ dn ⟨bp,bt,rfl,au,y⟩;(conv=>whnf);refine bS Bz (vs:=[Value.agg #[Value.slice bp u.n bt]]) ?_;intro a1 ce d1 ec av cg;(conv=>whnf);have ah:AK ce a1 0 (eH ⟨bp,u.n,bt⟩):=cg.cells;refine Cb Bz rfl (ae.ext e) (Below.size (xt g e)) (xt y av) (FR ((au.ext av).own) au.le.1) (DB au.new (fun x hx=>Nat.lt_of_lt_of_le (au.lt x hx) av.size)) ah om om ?_;intro bq bu cf t ar cb;rw [show i+f+1=i+1+f by omega] at t ⊢;(conv=>whnf);refine jP (((i+1:Nat):Int)) ?_;(conv=>whnf);refine ⟨(i+1,f,a0++[(i:Int)]),by show n - (i+1)<n - i;omega,_,_,_,rfl,_,_,rfl,om,om,bg,?_,xm (xt (xt (xt g e) y) av) ar (AQ (Bm.new ae))⟩;rw [List.map_append,List.map_cons,List.map_nil,b5];exact t
 .obtain rfl:i=n:=om
  subst a6;subst bv;have b7:=Ws ao ap sA sB b0 an (B.length - k) om;rw [show k+(B.length - k)=B.length by omega] at b7;have cw:=Wy.done ao ap b7;(conv=>whnf);refine iN ?_;(conv=>whnf);refine AB.slice (k := .i64) (k' := .i64) kR (ba.ext af) (k) (B.length) om om om (.inr rF) (.inl ⟨rfl,rfl⟩) ?_;intro ck bl;rw [List.take_of_length_le (l:=a5.drop k) (by rw [List.length_drop];omega)] at bl;have ct:Ac AZ dl ck (B.length - k) (ys.drop k):=⟨a5.drop k,bl,VG.drop (bx.ext af) k⟩;(conv=>whnf);refine (HV ct om (fun x da=>hx x (List.mem_append_right _ (List.mem_of_mem_drop da)))).mono ?_;rintro _ dn ⟨ds,dv,rfl,ee,dj,dr,y⟩;obtain ⟨dy,bm,aw⟩:=GP bz;obtain ⟨d3,cj,a7⟩:=GP dj;have eg:=y.size;have eh:=af.size;(conv=>whnf);refine Jt Bz rfl (bm.ext y) aw.1 (Below.size (xt af y)) cj a7.1 (fun p ag cx=>by have:=(a7.2 p ag).1;have:=(aw.2 p cx).2;omega) om om ?_;intro du dx ce co az de dk dd;(conv=>whnf);have c5:(Ds (A++B) L).map z=q.map z++ys.drop k:=by
   rw [<- cw,List.map_append,List.map_map];congr 1;exact cz k
  rw [c5];refine ⟨_,_,_,rfl,az.le.1,⟨co,az.own,de,fun p ag=>⟨?_,az.lt p ag⟩⟩,xm (xt af y) dd (fun p ag=>(aw.2 p (bm.blk p ag)).1)⟩;rcases dk p ag with h | h | h
  .exact (aw.2 p h).1
  .have:=(a7.2 p h).1;omega
  .omega
theorem Jx (h:Ac AZ w a n xs) (h2:Ac AZ w a2 n2 ys) (f:AE) (hnc:n<=c) (hnc2:n2<=c2) :
  Dq 297 [.slice a n c,.slice a2 n2 c2,.agg ⟨f.enc⟩] w (fun v w'=>∃ a' m c',v = .tuple #[.slice a' m c',.int .i64 (CI xs ys f).2]/\((CI xs ys f).2=0->m<=c'/\Dl Aw w' w.heap.size w'.heap.size a' m 144 (CI xs ys f).1)/\AD w w'):=by
 have db:=h.len;have dc:=h2.len;have cl:∀ b,AD w b->Dq 328 [.slice a n c,.slice a2 n2 c2,.agg ⟨f.enc⟩] b (fun v w'=>∃ i m o ab aa r,v = .tuple #[.slice i m o,.slice ab aa r,.int .i64 (BT [xs,ys] [] f)]/\(BT [xs,ys] [] f=0->A4 eS 1 w' i m ((xs.map (AS f)).map Cf)/\A4 eS 1 w' ab aa ((ys.map (AS f)).map Cf))/\AD b w'):=fun b g=>Of (h.ext g) (h2.ext g) f;by_cases ak:BT [xs,ys] [] f=0
 .obtain ⟨cu,cv,_,_,cw⟩:=IA ak;have b6:=cu xs sI;have cm:=cu ys sI;have ct:=cv xs sI;have c9:=cv ys sI;have bu:=Hf b6 ct (cw xs sI);have co:=Hf cm c9 (cw ys sI);have d3:=(Am b6).1;have d4:=(Am cm).1;have d5:=Bc ct;have d9:=EX b6;have bb:CJ f<=1000:=by unfold CJ;omega
  have dd:∀ bo∈xs++ys,bo.length<=1000:=fun bo ar=>by
   rcases List.mem_append.1 ar with ar | ar
   .have:=(Bp ((Am b6).2 bo ar).1).2.1;omega
   .have:=(Bp ((Am cm).2 bo ar).1).2.1;omega
  have ao:∀ b,AD w b->Dq 328 [.slice a n c,.slice a2 n2 c2,.agg ⟨f.enc⟩] b (fun v w'=>∃ i m o ab aa r,v = .tuple #[.slice i m o,.slice ab aa r,.int .i64 0]/\A4 eS 1 w' i m ((xs.map (AS f)).map Cf)/\A4 eS 1 w' ab aa ((ys.map (AS f)).map Cf)/\AD b w'):=fun b g=>(cl b g).mono (by
   rintro _ bw ⟨i,m,o,ab,aa,r,rfl,af,ai⟩;exact ⟨i,m,o,ab,aa,r,by rw [ak],(af ak).1,(af ak).2,ai⟩)
  clear cl;have bg:n=0↔xs=[]:=by rw [<- db,List.length_eq_zero_iff]
  have bh:n2=0↔ys=[]:=by rw [<- dc,List.length_eq_zero_iff]
  have bt:∀ b i m o ab aa r,AD w b->A4 eS 1 b i m ((xs.map (AS f)).map Cf)->A4 eS 1 b ab aa ((ys.map (AS f)).map Cf)->K5 (xs.map (AS f))->K5 (ys.map (AS f))->n+n2<=40->Dq 330 [.slice a n c,.slice a2 n2 c2,.slice i m o,.slice ab aa r] b (fun v w'=>∃ a' m c',v = .slice a' m c'/\m<=c'/\Dl Aw w' b.heap.size w'.heap.size a' m 144 (K8 (xs++ys) f)/\AD b w'):=fun b i m o ab aa r g bi bj dl dm b1=>by
   have bk:=bi.len;have bl:=bj.len;rw [List.length_map,List.length_map] at bk bl;have ag:m=n:=om
   have da:aa=n2:=om
   subst ag;subst da;have:=Ru (c:=c) (d:=o) (d2:=r) (h.ext g) (h2.ext g) hnc2 bi bj bu co bb dl dm b1 dd;rw [<- List.map_append] at this;exact this
  have c6:=h;have c7:=h2;obtain ⟨bv,bd,bq⟩:=c6;obtain ⟨bp,be,br⟩:=c7;have d6:=bd.len;have d7:=be.len;by_cases ah:xs≠[]/\ys≠[]/\AJ xs≠AJ ys
  .have ag:CI xs ys f=([],9):=by unfold CI;rw [if_neg (by simp [ak]),if_pos ah]
   rw [ag];have bm:0<n:=Nat.pos_of_ne_zero fun g=>ah.1 (bg.1 g);have bn:0<n2:=Nat.pos_of_ne_zero fun g=>ah.2.1 (bh.1 g);obtain ⟨an,ad⟩:=AA (l:=bv) (k:=0) om;obtain ⟨cc,au,al⟩:=bq.get ad;obtain ⟨r,ae⟩:=AA (l:=bp) (k:=0) om;obtain ⟨cd,av,am⟩:=br.get ae;have b7:=EF au;have b8:=EF av;have bk:=al.1.len;have bl:=am.1.len;have d8:¬ an.n=r.n:=fun g=>ah.2.2 om;clear bt;refine oV Tryz.func297 ?_;refine AB.box ?_;intro ax a6 a1 a3 e z;refine jA (n:=2) z.cells rfl<|(ao _ e).mono ?_;rintro _ a7 ⟨ay,a5,a0,aw,a4,az,rfl,u,y,j⟩;refine BS A7 mixed kR kR<|iY<|iY<|dI (bd.ext (xt e j)) 0 rfl ad fun bz b' b4 ap=>dL ap (k:=0) rfl<|dI (be.ext (xt e j)) 0 rfl ae fun b0 ca b5 aq=>dL aq (k:=0) rfl fun a8 t=>AW (fun c8=>?_) fun c8=>?_
   .exact ⟨_,_,_,rfl,om,(xt (xt e j) t)⟩
   .refine (C7 (u.ext t) bu bb om).mono ?_;rintro _ ei ⟨d',rfl,ef,d0⟩;refine iY ?_;(conv=>whnf);exfalso;omega
  .by_cases bc:K5 (xs.map (AS f))
   .by_cases bf:K5 (ys.map (AS f))
    .have b2:=(HG xs f).2 bc;have b3:=(HG ys f).2 bf;have cj:=fun b i m o ab aa r g bi bj=>bt b i m o ab aa r g bi bj bc bf;clear bt;have aj:∀ b i m o,A4 eS 1 b i m ((xs.map (AS f)).map Cf)->Dq 329 [.slice i m o] b (fun v w'=>∃ q:Int,v = .int .i64 q/\q<0/\AD b w'):=fun b i m o ac=>(C7 ac bu bb (by have:=ac.len;rw [List.length_map,List.length_map] at this;omega)).mono (by
      rintro _ bw ⟨q,rfl,af,ai⟩;exact ⟨q,rfl,af.2 bc,ai⟩)
     have ba:∀ b i m o,A4 eS 1 b i m ((ys.map (AS f)).map Cf)->Dq 329 [.slice i m o] b (fun v w'=>∃ q:Int,v = .int .i64 q/\q<0/\AD b w'):=fun b i m o ac=>(C7 ac co bb (by have:=ac.len;rw [List.length_map,List.length_map] at this;omega)).mono (by
      rintro _ bw ⟨q,rfl,af,ai⟩;exact ⟨q,rfl,af.2 bf,ai⟩)
     by_cases b1:40<xs.length+ys.length
     .have ag:CI xs ys f=([],5):=by unfold CI;rw [if_neg (by simp [ak]),if_neg ah,if_neg (by simp [b2,b3]),if_pos b1]
      rw [ag];clear cj;have bm:0<n:=om
      have bn:0<n2:=om
      obtain ⟨an,ad⟩:=AA (l:=bv) (k:=0) om;obtain ⟨cc,au,al⟩:=bq.get ad;obtain ⟨r,ae⟩:=AA (l:=bp) (k:=0) om;obtain ⟨cd,av,am⟩:=br.get ae;have b7:=EF au;have b8:=EF av;have bk:=al.1.len;have bl:=am.1.len;have cn:an.n=r.n:=Classical.byContradiction fun g=>ah ⟨fun g=>by have:=bg.2 g;omega,fun g=>by have:=bh.2 g;omega,om⟩;generalize (xs.map (AS f)).map Cf=ce at *;generalize (ys.map (AS f)).map Cf=cf at *;refine oV Tryz.func297 ?_;refine AB.box ?_;intro ax a6 a1 a3 e z;refine jA (n:=2) z.cells rfl<|(ao _ e).mono ?_;rintro _ a7 ⟨ay,a5,a0,aw,a4,az,rfl,u,y,j⟩;refine BS A7 mixed kR kR<|iY<|iY<|dI (bd.ext (xt e j)) 0 rfl ad fun bz b' b4 ap=>dL ap (k:=0) rfl<|dI (be.ext (xt e j)) 0 rfl ae fun b0 ca b5 aq=>dL aq (k:=0) rfl fun a8 t=>iF<|(aj _ _ _ _ (u.ext t)).mono ?_;rintro _ bx ⟨b9,rfl,cb,p⟩;refine iN<|(ba _ _ _ _ (y.ext (xt t p))).mono ?_;rintro _ dn ⟨df,rfl,di,a9⟩;exact iN<|jP (((n+n2:Nat):Int))<|iY ⟨_,_,_,rfl,om,(xt (xt (xt (xt e j) t) p) a9)⟩
     .have ag:CI xs ys f=(K8 (xs++ys) f,0):=by unfold CI;rw [if_neg (by simp [ak]),if_neg ah,if_neg (by simp [b2,b3]),if_neg b1]
      rw [ag];have ck:=fun b i m o ab aa r g bi bj=>cj b i m o ab aa r g bi bj om;clear cj;generalize (xs.map (AS f)).map Cf=ce at *;generalize (ys.map (AS f)).map Cf=cf at *;rcases Nat.eq_zero_or_pos n with bm | bm
      .refine oV Tryz.func297 ?_;conv=>whnf
       refine AB.box fun ax a6 a1 a3 e z=>jA (n:=2) z.cells rfl<|(ao _ e).mono ?_;rintro _ a7 ⟨ay,a5,a0,aw,a4,az,rfl,u,y,j⟩;refine BS A7 mixed kR kR<|iN fun cr s=>(aj _ _ _ _ (u.ext s)).mono ?_;rintro _ a8 ⟨cx,rfl,cy,x⟩;refine iN<|(ba _ _ _ _ (y.ext (xt s x))).mono ?_;rintro _ bx ⟨b9,rfl,cb,p⟩;refine iN<|jP (((n+n2:Nat):Int))<|iN<|(ck _ _ _ _ _ _ _ (xt (xt (xt (xt e j) s) x) p) (u.ext (xt (xt s x) p)) (y.ext (xt (xt s x) p))).mono ?_;rintro _ dp ⟨c1,dh,c3,rfl,cq,cg,ch⟩;refine ⟨_,_,_,rfl,?_,(xt (xt (xt (xt (xt e j) s) x) p) ch)⟩
       .exact fun _=>⟨cq,cg.wide (Below.size (xt (xt (xt (xt e j) s) x) p)) (Nat.le_refl _)⟩
      .rcases Nat.eq_zero_or_pos n2 with bn | bn
       .refine oV Tryz.func297 ?_;conv=>whnf
        refine AB.box fun ax a6 a1 a3 e z=>jA (n:=2) z.cells rfl<|(ao _ e).mono ?_;rintro _ a7 ⟨ay,a5,a0,aw,a4,az,rfl,u,y,j⟩;refine BS A7 mixed kR kR<|iY<|iN fun cr s=>(aj _ _ _ _ (u.ext s)).mono ?_;rintro _ a8 ⟨cx,rfl,cy,x⟩;refine iN<|(ba _ _ _ _ (y.ext (xt s x))).mono ?_;rintro _ bx ⟨b9,rfl,cb,p⟩;refine iN<|jP (((n+n2:Nat):Int))<|iN<|(ck _ _ _ _ _ _ _ (xt (xt (xt (xt e j) s) x) p) (u.ext (xt (xt s x) p)) (y.ext (xt (xt s x) p))).mono ?_;rintro _ dp ⟨c1,dh,c3,rfl,cq,cg,ch⟩;refine ⟨_,_,_,rfl,?_,(xt (xt (xt (xt (xt e j) s) x) p) ch)⟩
        .exact fun _=>⟨cq,cg.wide (Below.size (xt (xt (xt (xt e j) s) x) p)) (Nat.le_refl _)⟩
       .obtain ⟨an,ad⟩:=AA (l:=bv) (k:=0) om;obtain ⟨cc,au,al⟩:=bq.get ad;obtain ⟨r,ae⟩:=AA (l:=bp) (k:=0) om;obtain ⟨cd,av,am⟩:=br.get ae;have b7:=EF au;have b8:=EF av;have bk:=al.1.len;have bl:=am.1.len;have cn:an.n=r.n:=Classical.byContradiction fun g=>ah ⟨fun g=>by have:=bg.2 g;omega,fun g=>by have:=bh.2 g;omega,om⟩;refine oV Tryz.func297 ?_;refine AB.box ?_;intro ax a6 a1 a3 e z;refine jA (n:=2) z.cells rfl<|(ao _ e).mono ?_;rintro _ a7 ⟨ay,a5,a0,aw,a4,az,rfl,u,y,j⟩;refine BS A7 mixed kR kR<|iY<|iY<|dI (bd.ext (xt e j)) 0 rfl ad fun bz b' b4 ap=>dL ap (k:=0) rfl<|dI (be.ext (xt e j)) 0 rfl ae fun b0 ca b5 aq=>dL aq (k:=0) rfl fun a8 t=>iF<|(aj _ _ _ _ (u.ext t)).mono ?_;rintro _ bx ⟨b9,rfl,cb,p⟩;refine iN<|(ba _ _ _ _ (y.ext (xt t p))).mono ?_;rintro _ dn ⟨df,rfl,di,a9⟩;refine iN<|jP (((n+n2:Nat):Int))<|iN<|(ck _ _ _ _ _ _ _ (xt (xt (xt (xt e j) t) p) a9) (u.ext (xt (xt t p) a9)) (y.ext (xt (xt t p) a9))).mono ?_;rintro _ ej ⟨ds,ec,dw,rfl,dj,c0,c5⟩;refine ⟨_,_,_,rfl,?_,(xt (xt (xt (xt (xt e j) t) p) a9) c5)⟩
        .exact fun _=>⟨dj,c0.wide (Below.size (xt (xt (xt (xt e j) t) p) a9)) (Nat.le_refl _)⟩
    .have b3:GQ ys f=false:=by
      cases cp:GQ ys f
      .rfl
      .exact absurd ((HG ys f).1 cp) bf
     have ag:CI xs ys f=([],6):=by unfold CI;rw [if_neg (by simp [ak]),if_neg ah,if_pos (by simp [b3])]
     rw [ag];have aj:∀ b i m o,A4 eS 1 b i m ((xs.map (AS f)).map Cf)->Dq 329 [.slice i m o] b (fun v w'=>∃ q:Int,v = .int .i64 q/\q<0/\AD b w'):=fun b i m o ac=>(C7 ac bu bb (by have:=ac.len;rw [List.length_map,List.length_map] at this;omega)).mono (by
      rintro _ bw ⟨q,rfl,af,ai⟩;exact ⟨q,rfl,af.2 bc,ai⟩)
     have ba:∀ b i m o,A4 eS 1 b i m ((ys.map (AS f)).map Cf)->Dq 329 [.slice i m o] b (fun v w'=>∃ q:Int,v = .int .i64 q/\0<=q/\AD b w'):=fun b i m o ac=>(C7 ac co bb (by have:=ac.len;rw [List.length_map,List.length_map] at this;omega)).mono (by
      rintro _ bw ⟨q,rfl,af,ai⟩;exact ⟨q,rfl,by have:=mt af.1 bf;omega,ai⟩)
     have bn:0<n2:=Nat.pos_of_ne_zero fun g=>bf (by rw [bh.1 g];exact fun de bo dr ar=>by simp at ar);clear bt;generalize (xs.map (AS f)).map Cf=ce at *;generalize (ys.map (AS f)).map Cf=cf at *;rcases Nat.eq_zero_or_pos n with bm | bm
     .refine oV Tryz.func297 ?_;conv=>whnf
      refine AB.box fun ax a6 a1 a3 e z=>jA (n:=2) z.cells rfl<|(ao _ e).mono ?_;rintro _ a7 ⟨ay,a5,a0,aw,a4,az,rfl,u,y,j⟩;refine BS A7 mixed kR kR<|iN fun cr s=>(aj _ _ _ _ (u.ext s)).mono ?_;rintro _ a8 ⟨q,rfl,af,x⟩;refine iN<|(ba _ _ _ _ (y.ext (xt s x))).mono ?_;rintro _ dq ⟨dg,rfl,dk,ci⟩;exact iY ⟨_,_,_,rfl,om,(xt (xt (xt (xt e j) s) x) ci)⟩
     .obtain ⟨an,ad⟩:=AA (l:=bv) (k:=0) om;obtain ⟨cc,au,al⟩:=bq.get ad;obtain ⟨r,ae⟩:=AA (l:=bp) (k:=0) om;obtain ⟨cd,av,am⟩:=br.get ae;have b7:=EF au;have b8:=EF av;have bk:=al.1.len;have bl:=am.1.len;have cn:an.n=r.n:=Classical.byContradiction fun g=>ah ⟨fun g=>by have:=bg.2 g;omega,fun g=>by have:=bh.2 g;omega,om⟩;refine oV Tryz.func297 ?_;refine AB.box ?_;intro ax a6 a1 a3 e z;refine jA (n:=2) z.cells rfl<|(ao _ e).mono ?_;rintro _ a7 ⟨ay,a5,a0,aw,a4,az,rfl,u,y,j⟩;refine BS A7 mixed kR kR<|iY<|iY<|dI (bd.ext (xt e j)) 0 rfl ad fun bz b' b4 ap=>dL ap (k:=0) rfl<|dI (be.ext (xt e j)) 0 rfl ae fun b0 ca b5 aq=>dL aq (k:=0) rfl fun a8 t=>iF<|(aj _ _ _ _ (u.ext t)).mono ?_;rintro _ bx ⟨q,rfl,af,p⟩;refine iN<|(ba _ _ _ _ (y.ext (xt t p))).mono ?_;rintro _ dq ⟨dg,rfl,dk,ci⟩;exact iY ⟨_,_,_,rfl,om,(xt (xt (xt (xt e j) t) p) ci)⟩
   .have b2:GQ xs f=false:=by
     cases cp:GQ xs f
     .rfl
     .exact absurd ((HG xs f).1 cp) bc
    have ag:CI xs ys f=([],6):=by unfold CI;rw [if_neg (by simp [ak]),if_neg ah,if_pos (by simp [b2])]
    rw [ag];have aj:∀ b i m o,A4 eS 1 b i m ((xs.map (AS f)).map Cf)->Dq 329 [.slice i m o] b (fun v w'=>∃ q:Int,v = .int .i64 q/\0<=q/\AD b w'):=fun b i m o ac=>(C7 ac bu bb (by have:=ac.len;rw [List.length_map,List.length_map] at this;omega)).mono (by
     rintro _ bw ⟨q,rfl,af,ai⟩;exact ⟨q,rfl,by have:=mt af.1 bc;omega,ai⟩)
    have bm:0<n:=Nat.pos_of_ne_zero fun g=>bc (by rw [bg.1 g];exact fun de bo dr ar=>by simp at ar);clear bt;generalize (xs.map (AS f)).map Cf=ce at *;generalize (ys.map (AS f)).map Cf=cf at *;rcases Nat.eq_zero_or_pos n2 with bn | bn
    .refine oV Tryz.func297 ?_;conv=>whnf
     refine AB.box fun ax a6 a1 a3 e z=>jA (n:=2) z.cells rfl<|(ao _ e).mono ?_;rintro _ a7 ⟨ay,a5,a0,aw,a4,az,rfl,u,y,j⟩;refine BS A7 mixed kR kR<|iY<|iN fun cr s=>(aj _ _ _ _ (u.ext s)).mono ?_;rintro _ a8 ⟨cx,rfl,cy,x⟩;exact iY ⟨_,_,_,rfl,om,(xt (xt (xt e j) s) x)⟩
    .obtain ⟨an,ad⟩:=AA (l:=bv) (k:=0) om;obtain ⟨cc,au,al⟩:=bq.get ad;obtain ⟨r,ae⟩:=AA (l:=bp) (k:=0) om;obtain ⟨cd,av,am⟩:=br.get ae;have b7:=EF au;have b8:=EF av;have bk:=al.1.len;have bl:=am.1.len;have cn:an.n=r.n:=Classical.byContradiction fun g=>ah ⟨fun g=>by have:=bg.2 g;omega,fun g=>by have:=bh.2 g;omega,om⟩;refine oV Tryz.func297 ?_;refine AB.box ?_;intro ax a6 a1 a3 e z;refine jA (n:=2) z.cells rfl<|(ao _ e).mono ?_;rintro _ a7 ⟨ay,a5,a0,aw,a4,az,rfl,u,y,j⟩;refine BS A7 mixed kR kR<|iY<|iY<|dI (bd.ext (xt e j)) 0 rfl ad fun bz b' b4 ap=>dL ap (k:=0) rfl<|dI (be.ext (xt e j)) 0 rfl ae fun b0 ca b5 aq=>dL aq (k:=0) rfl fun a8 t=>iF<|(aj _ _ _ _ (u.ext t)).mono ?_;rintro _ bx ⟨b9,rfl,cb,p⟩;exact iY ⟨_,_,_,rfl,om,(xt (xt (xt e j) t) p)⟩
 .have ag:CI xs ys f=([],BT [xs,ys] [] f):=by unfold CI;rw [if_pos ak]
  rw [ag];dsimp only;generalize BT [xs,ys] [] f=dx at *;refine oV Tryz.func297 ?_;refine AB.box ?_;intro du eh d1 ea cs cz;refine jA (n:=2) cz.cells rfl<|(cl _ cs).mono ?_;rintro _ eg ⟨dv,ed,dz,dt,eb,dy,rfl,ee,c4⟩;exact iT ⟨_,_,_,rfl,om,(xt cs c4)⟩
theorem LX (h:Ac AZ w a n xs) (hb:A4 eS 1 w b n (A.map Cf)) (hb2:A4 eS 1 w b2 n2 (B.map Cf))
  (hA:∀ k∈A,Gf L k) (hB:∀ k∈B,Gf L k) (hn2:n<=1000) (hx:∀ x∈xs,x.length<=1000) {p:List Int->Bool} (hp:∀ (i:Nat) x k,xs[i]? = some x->A[i]? = some k->p x=decide (k∈B)) :
  Dq 332 [.slice a n c,.slice b n d,.slice b2 n2 d2] w (fun v w'=>∃ a1 m1 c1 a2 m2 c2,v = .tuple #[.slice a1 m1 c1,.slice a2 m2 c2]/\m1<=c1/\m2<=c2/\Dl Aw w' w.heap.size w'.heap.size a1 m1 144 (xs.filter p)/\Dl Aw w' w.heap.size w'.heap.size a2 m2 144 (xs.filter fun x=>!p x)/\AD w w'):=by
 have c0:=h.len;have b7:=hb.len;rw [List.length_map] at b7;have b9:∀ m az,AD w m->Dq 350 [.slice b2 n2 d2,.string az] m (fun v w'=>v = .bool ((B.map Cf).any fun ck=>decide (ck=az))/\AD m w'):=fun m az a8=>VX (hb2.ext a8) az;obtain ⟨cf,ba,b8⟩:=h;have cx:=ba.len;refine oV Tryz.func332 ?_;refine bS Bz (vs:=[]) ?_;intro bq co bv c5 a9 b0;have b3:CH Aw w.heap.size 144 co (some ⟨bq,0,none⟩) 0 0 [] [bq]:=E1 b0 bv;refine bS Bz (vs:=[]) ?_;intro br cp cu c6 bu b1;have b4:CH Aw w.heap.size 144 cp (some ⟨br,0,none⟩) 0 0 [] [br]:=E1 b1 (by have:=a9.size;omega);refine lR [0,1,2,8,9,10] (fun (k:Nat) cl w'=>∃ al ag an ab am ah ao ac,cl=[.slice a n c,.slice b n d,.slice b2 n2 d2,.slice al ag an,.slice am ah ao,.int .i64 k]/\k<=n/\ag<=k/\ah<=k/\CH Aw w.heap.size 144 w' al ag an ((xs.take k).filter p) ab/\CH Aw w.heap.size 144 w' am ah ao ((xs.take k).filter fun x=>!p x) ac/\ab.Nodup/\ac.Nodup/\(∀ e∈ab,e∉ac)/\(∀ e∈ab,w.heap.size<=e)/\(∀ e∈ac,w.heap.size<=e)/\AD w w') (fun k=>n - k) 0
  ⟨_,_,_,_,_,_,_,_,rfl,om,om,om,by simpa using b3.ext bu,by simpa using b4,sI,sI,sW,by simpa using bv,by simp;have:=a9.size;omega,xt a9 bu⟩ ?_
 rintro k ct _ c8 ⟨al,ag,an,ab,am,ah,ao,ac,rfl,cw,cy,cz,q,r,bi,bj,ar,au,av,ad⟩;rcases Nat.lt_or_ge k n with cd | cd
 .obtain ⟨o,bd⟩:=AA (l:=cf) (k:=k) om;obtain ⟨t,af,bo⟩:=b8.get bd;obtain ⟨bz,bh⟩:=AA (l:=A) (k:=k) om;have cg:=Ex bh;have cj:=hA bz (List.mem_of_getElem? bh);have ce:=hp k t bz af bh;have c4:=bo.1.len;have c3:=hx t (List.mem_of_getElem? af);have cc:=aI8 cj hB;have bw:∀ m b bl,AD w m->AK m b bl (eH o)->Dq 161 [.pointer (some ⟨b,bl,none⟩)] m (fun v w'=>∃ (bp:Option Addr) (bt:Nat),v = .agg #[.slice bp o.n bt]/\An eI 1 m.heap.size 2 w' bp o.n bt t/\AD m w'):=fun m b bl a8 cb=>Ek cb (bo.1.ext a8) om;have c9:=ad.size;have aw:=q.lt;have ax:=r.lt;refine iY<|jI (hb.ext ad) k rfl cg fun cs c7 cv ca=>jO ca rfl<|dM (b9 _ _ ad) fun bx ap=>?_;rw [cc,<- ce];have aq:=xt ad ap;have c':=ap.size;cases ay:p t
  .have bf:(xs.take (k+1)).filter p=(xs.take k).filter p:=by rw [List.take_add_one,af,Option.toList_some,List.filter_append];simp [ay]
   have bg:((xs.take (k+1)).filter fun x=>!p x)=((xs.take k).filter fun x=>!p x)++[t]:=by rw [List.take_add_one,af,Option.toList_some,List.filter_append];simp [ay]
   refine jI (ba.ext aq) k rfl bd fun b5 ci b' bb=>(bw _ _ _ aq bb).mono ?_;rintro _ cm ⟨j,z,rfl,y,ai⟩;refine AB.buildSlice Bz (vs:=[Value.agg ⟨eH ⟨j,o.n,z⟩⟩]) rF rF (by simp [Value.cells,eH]) dE ?_;intro a6 bn b6 ch aa a0;have a3:AK bn a6 0 (eH ⟨j,o.n,z⟩):=a0.cells;have cq:=ai.size;have cr:=aa.size;have u:=xt (xt ap ai) aa;have bc:(BW j).Nodup:=by cases j<;>simp [BW]
   have ae:∀ e∈BW j,bx.heap.size<=e:=fun e g=>by
    obtain ⟨bm,be,rfl⟩:=Az.1 g;exact y.new bm be
   refine Co Bz rfl (r.ext u) bj om (d:=⟨j,o.n,z⟩) (x:=t) (f:=BW j) (FR ((y.ext aa).own) y.le.1) bc (fun e g s=>by have:=ae e g;have:=ax e s;omega) a3 om om fun a5 a7 cn a' a4 bk ak aj=>jP (((k+1:Nat):Int)) ⟨k+1,om,al,ag,an,ab,a5,ah+1,a7,a',rfl,om,om,om,by rw [bf];exact (q.ext u).keep fun e g=>aj.block e (fun hb=>ar e g (r.blk e hb)) (by have:=aw e g;omega),by rw [bg];exact a4,bi,bk,fun e g s=>?_,au,fun e g=>?_,xm (xt ad u) aj (fun e g=>av e (r.blk e g))⟩
   .rcases ak e s with h | h | h
    .exact ar e g h
    .have:=ae e h;have:=aw e g;omega
    .have:=aw e g;omega
   .rcases ak e g with h | h | h
    .exact av e h
    .have:=ae e h;omega
    .omega
  .have bg:((xs.take (k+1)).filter fun x=>!p x)=((xs.take k).filter fun x=>!p x):=by rw [List.take_add_one,af,Option.toList_some,List.filter_append];simp [ay]
   have bf:(xs.take (k+1)).filter p=(xs.take k).filter p++[t]:=by rw [List.take_add_one,af,Option.toList_some,List.filter_append];simp [ay]
   refine jI (ba.ext aq) k rfl bd fun b5 ci b' bb=>(bw _ _ _ aq bb).mono ?_;rintro _ cm ⟨j,z,rfl,y,ai⟩;refine AB.buildSlice Bz (vs:=[Value.agg ⟨eH ⟨j,o.n,z⟩⟩]) rF rF (by simp [Value.cells,eH]) dE ?_;intro a6 bn b6 ch aa a0;have a3:AK bn a6 0 (eH ⟨j,o.n,z⟩):=a0.cells;have cq:=ai.size;have cr:=aa.size;have u:=xt (xt ap ai) aa;have bc:(BW j).Nodup:=by cases j<;>simp [BW]
   have ae:∀ e∈BW j,bx.heap.size<=e:=fun e g=>by
    obtain ⟨bm,be,rfl⟩:=Az.1 g;exact y.new bm be
   refine Co Bz rfl (q.ext u) bi om (d:=⟨j,o.n,z⟩) (x:=t) (f:=BW j) (FR ((y.ext aa).own) y.le.1) bc (fun e g s=>by have:=ae e g;have:=aw e s;omega) a3 om om fun a5 a7 cn a' a4 bk ak aj=>jP (((k+1:Nat):Int)) ⟨k+1,om,a5,ag+1,a7,a',am,ah,ao,ac,rfl,om,om,om,by rw [bf];exact a4,by rw [bg];exact (r.ext u).keep fun e g=>aj.block e (fun hb=>ar e (q.blk e hb) g) (by have:=ax e g;omega),bk,bj,fun e g s=>?_,fun e g=>?_,av,xm (xt ad u) aj (fun e g=>au e (q.blk e g))⟩
   .rcases ak e g with h | h | h
    .exact ar e h s
    .have:=ae e h;have:=ax e s;omega
    .have:=ax e s;omega
   .rcases ak e g with h | h | h
    .exact au e h
    .have:=ae e h;omega
    .omega
 .obtain rfl:k=n:=om
  rw [List.take_of_length_le om] at q r;exact iN ⟨_,_,_,_,_,_,rfl,q.le.1,r.le.1,⟨ab,q.own,bi,fun e g=>⟨au e g,q.lt e g⟩⟩,⟨ac,r.own,bj,fun e g=>⟨av e g,r.lt e g⟩⟩,ad⟩
theorem Jy (h:Ac AZ w a n xs) (h2:Ac AZ w a2 n2 ys) (f:AE) :
  Dq 300 [.slice a n c,.slice a2 n2 c2,.agg ⟨f.enc⟩] w (fun v w'=>∃ a' m c',v = .tuple #[.slice a' m c',.int .i64 (CX xs ys f)]/\(CX xs ys f=0->∃ b d0 d1 d2 d3,a'=some ⟨b,0,none⟩/\m=4/\c'=4/\AK w' b 0 (Al eH [d0,d1,d2,d3])/\d0.n<=d0.c/\d2.n<=d2.c/\Dl Aw w' w.heap.size w'.heap.size d0.a d0.n 144 (Cc xs ys f true)/\Dl Aw w' w.heap.size w'.heap.size d2.a d2.n 144 (Cc xs ys f false))/\AD w w'):=by
 have c4:=h.len;have c5:=h2.len;have a1:∀ e,AD w e->Dq 328 [.slice a n c,.slice a2 n2 c2,.agg ⟨f.enc⟩] e (fun v w'=>∃ b m g o j d2,v = .tuple #[.slice b m g,.slice o j d2,.int .i64 (BT [xs,ys] [] f)]/\(BT [xs,ys] [] f=0->A4 eS 1 w' b m ((xs.map (AS f)).map Cf)/\A4 eS 1 w' o j ((ys.map (AS f)).map Cf))/\AD e w'):=fun e z=>Of (h.ext z) (h2.ext z) f;by_cases aa:BT [xs,ys] [] f=0
 .obtain ⟨bv,bw,_,_,bx⟩:=IA aa;have av:=bv xs sI;have a6:=bv ys sI;have br:=bw xs sI;have ch:=bw ys sI;have ac:=Hf av br (bx xs sI);have af:=Hf a6 ch (bx ys sI);have c0:=(Am av).1;have c1:=(Am a6).1;have c3:=Bc br;have c6:=EX av;have aq:CJ f<=1000:=by unfold CJ;omega
  have ci:∀ l∈xs,l.length<=1000:=fun l ag=>by have:=(Bp ((Am av).2 l ag).1).2.1;omega
  have cj:∀ l∈ys,l.length<=1000:=fun l ag=>by have:=(Bp ((Am a6).2 l ag).1).2.1;omega
  have a3:∀ e,AD w e->Dq 328 [.slice a n c,.slice a2 n2 c2,.agg ⟨f.enc⟩] e (fun v w'=>∃ b m g o j d2,v = .tuple #[.slice b m g,.slice o j d2,.int .i64 0]/\A4 eS 1 w' b m ((xs.map (AS f)).map Cf)/\A4 eS 1 w' o j ((ys.map (AS f)).map Cf)/\AD e w'):=fun e z=>(a1 e z).mono (by
   rintro _ au ⟨b,m,g,o,j,d2,rfl,s,t⟩;exact ⟨b,m,g,o,j,d2,by rw [aa],(s aa).1,(s aa).2,t⟩)
  clear a1;have bu:∀ (g ax:List (List Int)),(∀ i∈g.map (AS f),Gf (CJ f) i)->(∀ i∈ax.map (AS f),Gf (CJ f) i)->∀ (a8:Nat) l i,g[a8]? = some l->(g.map (AS f))[a8]? = some i->Kt ax l f=decide (i∈ax.map (AS f)):=fun g ax ah ai a8 l i ag bt=>by
   rw [List.getElem?_map,ag] at bt;cases bt
   exact aA3 (L:=CJ f) (ah _ (List.mem_map.2 ⟨l,List.mem_of_getElem? ag,rfl⟩)).1 fun co ck=>(ai _ (List.mem_map.2 ⟨co,ck,rfl⟩)).1
  have ay:∀ e b m g o j d2,AD w e->A4 eS 1 e b m ((xs.map (AS f)).map Cf)->A4 eS 1 e o j ((ys.map (AS f)).map Cf)->Dq 332 [.slice a n c,.slice b m g,.slice o j d2] e (fun v w'=>∃ ak ad al a2 j c2,v = .tuple #[.slice ak ad al,.slice a2 j c2]/\ad<=al/\j<=c2/\Dl Aw w' e.heap.size w'.heap.size ak ad 144 (Cc xs ys f true)/\Dl Aw w' e.heap.size w'.heap.size a2 j 144 (Cc xs ys f false)/\AD e w'):=fun e b m g o j d2 z ah ai=>by
   have a9:=ah.len;rw [List.length_map,List.length_map] at a9;have u:m=n:=om
   subst u;have:=LX (c:=c) (d:=g) (d2:=d2) (h.ext z) ah ai ac af om ci (p:=fun l=>Kt ys l f) (bu xs ys ac af);rw [TO,V2] at this;exact this
  have az:∀ e b m g o j d2,AD w e->A4 eS 1 e b m ((xs.map (AS f)).map Cf)->A4 eS 1 e o j ((ys.map (AS f)).map Cf)->Dq 332 [.slice a2 n2 c2,.slice o j d2,.slice b m g] e (fun v w'=>∃ ak ad al a2 j c2,v = .tuple #[.slice ak ad al,.slice a2 j c2]/\ad<=al/\j<=c2/\Dl Aw w' e.heap.size w'.heap.size ak ad 144 (Cc ys xs f true)/\Dl Aw w' e.heap.size w'.heap.size a2 j 144 (Cc ys xs f false)/\AD e w'):=fun e b m g o j d2 z ah ai=>by
   have a9:=ai.len;rw [List.length_map,List.length_map] at a9;have u:j=n2:=om
   subst u;have:=LX (c:=c2) (d:=d2) (d2:=g) (h2.ext z) ai ah af ac om cj (p:=fun l=>Kt xs l f) (bu ys xs af ac);rw [TO,V2] at this;exact this
  by_cases ar:K5 (xs.map (AS f))
  .by_cases aw:K5 (ys.map (AS f))
   .have a4:=(HG xs f).2 ar;have a5:=(HG ys f).2 aw;have u:CX xs ys f=0:=by unfold CX;rw [if_neg (by simp [aa]),if_neg (by simp [a4,a5])]
    rw [u];have ap:∀ e b m g,A4 eS 1 e b m ((xs.map (AS f)).map Cf)->Dq 329 [.slice b m g] e (fun v w'=>∃ i:Int,v = .int .i64 i/\i<0/\AD e w'):=fun e b m g q=>(C7 q ac aq (by have:=q.len;rw [List.length_map,List.length_map] at this;omega)).mono (by
     rintro _ au ⟨i,rfl,s,t⟩;exact ⟨i,rfl,s.2 ar,t⟩)
    have a0:∀ e b m g,A4 eS 1 e b m ((ys.map (AS f)).map Cf)->Dq 329 [.slice b m g] e (fun v w'=>∃ i:Int,v = .int .i64 i/\i<0/\AD e w'):=fun e b m g q=>(C7 q af aq (by have:=q.len;rw [List.length_map,List.length_map] at this;omega)).mono (by
     rintro _ au ⟨i,rfl,s,t⟩;exact ⟨i,rfl,s.2 aw,t⟩)
    generalize (xs.map (AS f)).map Cf=ba at *;generalize (ys.map (AS f)).map Cf=bb at *;refine oV Tryz.func300 ?_;refine AB.box ?_;intro bh b8 bq b0 r aj;refine jA (n:=2) aj.cells rfl<|(a3 _ r).mono ?_;rintro _ b9 ⟨bi,b6,bo,bg,b3,bn,rfl,ab,ae,x⟩;refine (ap _ _ _ _ ab).mono ?_;rintro _ b' ⟨bz,rfl,b7,k⟩;refine iN<|(a0 _ _ _ _ (ae.ext k)).mono ?_;rintro _ dj ⟨cl,rfl,dd,y⟩;refine iN<|(ay _ _ _ _ _ _ _ (xt (xt (xt r x) k) y) (ab.ext (xt k y)) (ae.ext (xt k y))).mono ?_;rintro _ dk ⟨bc,b1,bj,be,b4,bl,rfl,cm,cn,cc,cd,am⟩;refine (az _ _ _ _ _ _ _ (xt (xt (xt (xt r x) k) y) am) (ab.ext (xt (xt k y) am)) (ae.ext (xt (xt k y) am))).mono ?_;rintro _ dl ⟨bd,b2,bk,bf,b5,bm,rfl,de,df,cq,cr,an⟩;refine bS EA (vs:=[Value.slice bc b1 bj,Value.slice bd b2 bk,Value.slice be b4 bl,Value.slice bf b5 bm]) fun ce dm cz c8 ao cb=>⟨_,_,_,rfl,?_,(xt (xt (xt (xt (xt (xt r x) k) y) am) an) ao)⟩
    .have cp:=xt (xt (xt (xt r x) k) y) am;exact fun _=>⟨ce,⟨bc,b1,bj⟩,⟨bd,b2,bk⟩,⟨be,b4,bl⟩,⟨bf,b5,bm⟩,rfl,rfl,rfl,cb.cells,cm,cn,((cc.ext an).ext ao).wide (Below.size (xt (xt (xt r x) k) y)) (Below.size (xt an ao)),((cd.ext an).ext ao).wide (Below.size (xt (xt (xt r x) k) y)) (Below.size (xt an ao))⟩
   .have a5:GQ ys f=false:=by
     cases a7:GQ ys f
     .rfl
     .exact absurd ((HG ys f).1 a7) aw
    have u:CX xs ys f=6:=by unfold CX;rw [if_neg (by simp [aa]),if_pos (by simp [a5])]
    rw [u];have ap:∀ e b m g,A4 eS 1 e b m ((xs.map (AS f)).map Cf)->Dq 329 [.slice b m g] e (fun v w'=>∃ i:Int,v = .int .i64 i/\i<0/\AD e w'):=fun e b m g q=>(C7 q ac aq (by have:=q.len;rw [List.length_map,List.length_map] at this;omega)).mono (by
     rintro _ au ⟨i,rfl,s,t⟩;exact ⟨i,rfl,s.2 ar,t⟩)
    have a0:∀ e b m g,A4 eS 1 e b m ((ys.map (AS f)).map Cf)->Dq 329 [.slice b m g] e (fun v w'=>∃ i:Int,v = .int .i64 i/\0<=i/\AD e w'):=fun e b m g q=>(C7 q af aq (by have:=q.len;rw [List.length_map,List.length_map] at this;omega)).mono (by
     rintro _ au ⟨i,rfl,s,t⟩;exact ⟨i,rfl,by have:=mt s.1 aw;omega,t⟩)
    clear ay az;generalize (xs.map (AS f)).map Cf=ba at *;generalize (ys.map (AS f)).map Cf=bb at *;refine oV Tryz.func300 ?_;refine AB.box ?_;intro bh b8 bq b0 r aj;refine jA (n:=2) aj.cells rfl<|(a3 _ r).mono ?_;rintro _ b9 ⟨bi,b6,bo,bg,b3,bn,rfl,ab,ae,x⟩;refine (ap _ _ _ _ ab).mono ?_;rintro _ b' ⟨bz,rfl,b7,k⟩;refine iN<|(a0 _ _ _ _ (ae.ext k)).mono ?_;rintro _ di ⟨cl,rfl,dc,cg⟩;exact iY ⟨_,_,_,rfl,om,(xt (xt (xt r x) k) cg)⟩
  .have a4:GQ xs f=false:=by
    cases a7:GQ xs f
    .rfl
    .exact absurd ((HG xs f).1 a7) ar
   have u:CX xs ys f=6:=by unfold CX;rw [if_neg (by simp [aa]),if_pos (by simp [a4])]
   rw [u];have ap:∀ e b m g,A4 eS 1 e b m ((xs.map (AS f)).map Cf)->Dq 329 [.slice b m g] e (fun v w'=>∃ i:Int,v = .int .i64 i/\0<=i/\AD e w'):=fun e b m g q=>(C7 q ac aq (by have:=q.len;rw [List.length_map,List.length_map] at this;omega)).mono (by
    rintro _ au ⟨i,rfl,s,t⟩;exact ⟨i,rfl,by have:=mt s.1 ar;omega,t⟩)
   clear ay az;generalize (xs.map (AS f)).map Cf=ba at *;generalize (ys.map (AS f)).map Cf=bb at *;refine oV Tryz.func300 ?_;refine AB.box ?_;intro bh b8 bq b0 r aj;refine jA (n:=2) aj.cells rfl<|(a3 _ r).mono ?_;rintro _ b9 ⟨bi,b6,bo,bg,b3,bn,rfl,ab,ae,x⟩;refine (ap _ _ _ _ ab).mono ?_;rintro _ b' ⟨bz,rfl,b7,k⟩;exact iY ⟨_,_,_,rfl,om,(xt (xt r x) k)⟩
 .have u:CX xs ys f=BT [xs,ys] [] f:=by unfold CX;rw [if_pos aa]
  rw [u];generalize BT [xs,ys] [] f=cv at *;refine oV Tryz.func300 ?_;refine AB.box ?_;intro ct dh cy c7 bp ca;refine jA (n:=2) ca.cells rfl<|(a1 _ bp).mono ?_;rintro _ dg ⟨cu,da,cx,cs,c9,cw,rfl,db,cf⟩;exact iT ⟨_,_,_,rfl,om,(xt bp cf)⟩
theorem Md (ht:t.size<=1048576) {f:AE} (hf:AR f 20=true) (w:World) :
  Dq 244 [.string t,.agg ⟨f.enc⟩] w (fun v w'=>v = .int .i64 (if ¬ (t.size:Int)=f.to_ - f.from_ then 2 else if CR t=false then 7 else 0)/\AD w w'):=by
 have ai:=Bc hf;by_cases j:(t.size:Int)=f.to_ - f.from_
 .rw [if_neg (by simp [j])];have p:CR t=decide (∀ d∈t.data.toList,MU d=true):=by
   unfold CR;by_cases b:∀ d∈t.data.toList,MU d=true
   .rw [decide_eq_true b,List.all_eq_true.2 b]
   .rw [decide_eq_false b];cases x:t.data.toList.all MU
    .rfl
    .exact absurd (List.all_eq_true.1 x) b
  refine oV Tryz.func244 ?_;refine AB.box ?_;intro ae aq ah ao u n;refine jL n.cells (k:=1) rfl ?_;refine jL n.cells (k:=0) rfl ?_;refine AB.sub (f.to_ - f.from_) rfl om om ?_;refine AW (fun o=>absurd j o) (fun o=>?_);refine lR [0,5] (fun (a:Nat) ab w'=>ab=[.string t,.int .i64 a]/\a<=t.size/\(∀ d∈t.data.toList.take a,MU d=true)/\AD w w') (fun a=>t.size - a) 0 ⟨rfl,om,sI,u⟩ ?_;rintro a af _ ar ⟨rfl,ak,q,i⟩;rcases Nat.lt_or_ge a t.size with y | y
  .obtain ⟨e,g⟩:=AA (l:=t.data.toList) (k:=a) sW;have r:=Tg e;cases c:MU e
   .have z:CR t=false:=by
     rw [p];exact decide_eq_false fun b=>by rw [b e (List.mem_of_getElem? g)] at c;cases c
    have al:IC e<0:=r.2 c;rw [if_pos z];refine iY ?_;refine jC a rfl g ?_;refine (Il _ _).mono ?_;rintro _ ac ⟨rfl,h⟩;refine iY ?_;exact ⟨rfl,(xt i h)⟩
   .have aj:¬ IC e<0:=fun b=>by rw [r.1 b] at c;cases c
    have am:=Ge g q c;refine iY ?_;refine jC a rfl g ?_;refine (Il _ _).mono ?_;rintro _ ac ⟨rfl,h⟩;refine iN ?_;refine jP (((a+1:Nat):Int)) ?_;exact ⟨a+1,om,rfl,om,om,(xt i h)⟩
  .obtain rfl:a=t.size:=om
   have aa:CR t=true:=by
    rw [p];exact decide_eq_true (HH sI q)
   rw [if_neg (by simp [aa])];refine iN ?_;exact ⟨rfl,i⟩
 .rw [if_pos j];refine oV Tryz.func244 ?_;refine AB.box ?_;intro ad ap ag an s m;refine jL m.cells (k:=1) rfl ?_;refine jL m.cells (k:=0) rfl ?_;refine AB.sub _ rfl om om ?_;refine iT ?_;exact ⟨rfl,s⟩
theorem VY (h:Ac AZ w a n xs) (f:AE) (hts:t.size<=1048576) (hT:A4 eS 1 w b 1 [t]) :
  Dq 331 [.slice a n c,.agg ⟨f.enc⟩,.slice b 1 d] w (fun v w'=>∃ a' n' c',v = .tuple #[.slice a' n' c',.int .i64 (BT [xs] [t,t] f)]/\(BT [xs] [t,t] f=0->A4 eS 1 w' a' n' ((xs.map (AS f)).map Cf))/\AD w w'):=by
 have x:∀ r,AD w r->Dq 166 [.slice a n c,.agg ⟨f.enc⟩] r (fun v w'=>∃ a' n' c',v = .tuple #[.slice a' n' c',.int .i64 (Bu xs f).2]/\Ab r.heap.size a'/\Bs eS w' a' n' 9 ((Bu xs f).1.map Cf)/\AD r w'):=fun r be=>Eu (h.ext be) f;cases ae:A2 xs
 .have u:BT [xs] [t,t] f=1:=JG sI ae;rw [u];rw [I8 ae] at x;dsimp only at x;refine oV Tryz.func331 ?_;refine AB.box ?_;intro bw a4 b1 b5 ab bb;refine jA (n:=2) bb.cells rfl<|(x _ ab).mono ?_;rintro _ ca ⟨bu,b7,bz,rfl,bp,br,bf⟩;exact ⟨_,_,_,rfl,om,(xt ab bf)⟩
 cases al:AR f (AJ xs)
 .have u:BT [xs] [t,t] f=2:=IB (fun d m=>by simp at m;subst m;exact ae) sI al;rw [u];rw [H2 ae al] at x;dsimp only at x;refine oV Tryz.func331 ?_;refine AB.box ?_;intro bx b' b2 b6 a7 bc;refine jA (n:=2) bc.cells rfl<|(x _ a7).mono ?_;rintro _ b9 ⟨bv,b8,b0,rfl,bq,bt,bg⟩;exact ⟨_,_,_,rfl,om,(xt a7 bg)⟩
 have m:∀ d∈[xs],A2 d=true:=fun d m=>by simp at m;subst m;exact ae
 have av:∀ d∈[xs],AR f (AJ d)=true:=fun d m=>by simp at m;subst m;exact al
 have bj:AR f 20=true:=by
  have b3:=Bc al;have b4:=EX ae;unfold AR;simp;omega
 have a0:∀ r,Dq 244 [.string t,.agg ⟨f.enc⟩] r (fun v w'=>v = .int .i64 (if ¬ (t.size:Int)=f.to_ - f.from_ then 2 else if CR t=false then 7 else 0)/\AD r w'):=fun r=>Md hts bj r;have az:∀ (p:Int) (y:List (List Int)) (l:Int),(if ¬ (t.size:Int)=f.to_ - f.from_ then 2 else if CR t=false then 7 else (0:Int))=p->(p=0\/p=2\/p=7)->(l=0\/l=8)->Bu xs f=(y,l) ->
   Dq 331 [.slice a n c,.agg ⟨f.enc⟩,.slice b 1 d] w (fun v w'=>∃ a' n' c',v = .tuple #[.slice a' n' c',.int .i64 (if p≠0 then p else l)]/\((if p≠0 then p else l)=0->A4 eS 1 w' a' n' (y.map Cf))/\AD w w'):=by
  intro p y l a9 au ai ba;rw [a9] at a0;rw [ba] at x;dsimp only at x;clear ba a9;have af:∀ r,Dq 244 [.string t,.agg ⟨f.enc⟩] r (fun v w'=>v = .int .i64 p/\AD r w'):=a0;clear a0;rcases ai with rfl | rfl
  .refine oV Tryz.func331 ?_;refine AB.box ?_;intro ax bn bi bm o z;refine jA (n:=2) z.cells rfl<|(x _ o).mono ?_;rintro _ a5 ⟨aw,a2,ay,rfl,bd,a6,i⟩;refine lR [2,4,8,9,10,11] (fun (q:Nat) a3 w'=>∃ aa:Int,a3=[.slice b 1 d,.pointer (some ⟨ax,0,none⟩),.slice aw a2 ay,.int .i64 0,.int .i64 aa,.int .i64 q]/\((q=0/\aa=0)\/(q=1/\aa=p/\p≠2))/\AD a5 w') (fun q=>2 - q) 0 ⟨0,rfl,.inl ⟨rfl,rfl⟩,AD.refl _⟩ ?_;rintro q bh _ bo ⟨aa,rfl,ac,g⟩;have ad:[t][0]? = some t:=rfl;rcases ac with ⟨rfl,rfl⟩ | ⟨rfl,rfl,bl⟩
   .rcases au with rfl | rfl | rfl
    .exact dH (pB [0,2,4,6,9,11,13]) fun an e=>dI (hT.ext (xt (xt o i) g)) 0 rfl ad fun ag am ah s=>dL s (k:=0) rfl<|jA (n:=2) (z.ext (xt (xt i g) e)).cells rfl ⟨e,dM (af _) fun ao j=>⟨(xt e j),jP (((0+1:Nat):Int)) ⟨1,om,_,rfl,.inr ⟨rfl,rfl,om⟩,xt g (xt e j)⟩⟩⟩
    .exact dH (pB [0,2,4,6,9,11,13]) fun an e=>dI (hT.ext (xt (xt o i) g)) 0 rfl ad fun ag am ah s=>dL s (k:=0) rfl<|jA (n:=2) (z.ext (xt (xt i g) e)).cells rfl ⟨e,dM (af _) fun ao j=>⟨(xt e j),⟨_,_,_,rfl,om,(xt (xt (xt (xt o i) g) e) j)⟩⟩⟩
    .exact dH (pB [0,2,4,6,9,11,13]) fun an e=>dI (hT.ext (xt (xt o i) g)) 0 rfl ad fun ag am ah s=>dL s (k:=0) rfl<|jA (n:=2) (z.ext (xt (xt i g) e)).cells rfl ⟨e,dM (af _) fun ao j=>⟨(xt e j),jP (((0+1:Nat):Int)) ⟨1,om,_,rfl,.inr ⟨rfl,rfl,om⟩,xt g (xt e j)⟩⟩⟩
   .rcases au with rfl | rfl | rfl
    .refine ⟨_,_,_,rfl,?_,(xt (xt o i) g)⟩
     .exact fun _=>(a6.ext g).arr AP
    .omega
    .exact ⟨_,_,_,rfl,om,(xt (xt o i) g)⟩
  .refine oV Tryz.func331 ?_;conv=>whnf
   refine AB.box fun ax bn bi bm o z=>jA (n:=2) z.cells rfl<|(x _ o).mono ?_;rintro _ a5 ⟨aw,a2,ay,rfl,bd,a6,i⟩;refine lR [2,4,8,9,10,11] (fun (q:Nat) a3 w'=>∃ aa:Int,a3=[.slice b 1 d,.pointer (some ⟨ax,0,none⟩),.slice aw a2 ay,.int .i64 8,.int .i64 aa,.int .i64 q]/\((q=0/\aa=0)\/(q=1/\aa=p/\p≠2))/\AD a5 w') (fun q=>2 - q) 0 ⟨0,rfl,.inl ⟨rfl,rfl⟩,AD.refl _⟩ ?_;rintro q bh _ bo ⟨aa,rfl,ac,g⟩;have ad:[t][0]? = some t:=rfl;rcases ac with ⟨rfl,rfl⟩ | ⟨rfl,rfl,bl⟩
   .rcases au with rfl | rfl | rfl
    .exact dH (pB [0,2,4,6,9,11,13]) fun an e=>dI (hT.ext (xt (xt o i) g)) 0 rfl ad fun ag am ah s=>dL s (k:=0) rfl<|jA (n:=2) (z.ext (xt (xt i g) e)).cells rfl ⟨e,dM (af _) fun ao j=>⟨(xt e j),jP (((0+1:Nat):Int)) ⟨1,om,_,rfl,.inr ⟨rfl,rfl,om⟩,xt g (xt e j)⟩⟩⟩
    .exact dH (pB [0,2,4,6,9,11,13]) fun an e=>dI (hT.ext (xt (xt o i) g)) 0 rfl ad fun ag am ah s=>dL s (k:=0) rfl<|jA (n:=2) (z.ext (xt (xt i g) e)).cells rfl ⟨e,dM (af _) fun ao j=>⟨(xt e j),⟨_,_,_,rfl,om,(xt (xt (xt (xt o i) g) e) j)⟩⟩⟩
    .exact dH (pB [0,2,4,6,9,11,13]) fun an e=>dI (hT.ext (xt (xt o i) g)) 0 rfl ad fun ag am ah s=>dL s (k:=0) rfl<|jA (n:=2) (z.ext (xt (xt i g) e)).cells rfl ⟨e,dM (af _) fun ao j=>⟨(xt e j),jP (((0+1:Nat):Int)) ⟨1,om,_,rfl,.inr ⟨rfl,rfl,om⟩,xt g (xt e j)⟩⟩⟩
   .rcases au with rfl | rfl | rfl
    .exact ⟨_,_,_,rfl,om,(xt (xt o i) g)⟩
    .omega
    .exact ⟨_,_,_,rfl,om,(xt (xt o i) g)⟩
 obtain ⟨y,l,ac,ai,bk⟩:∃ y l,Bu xs f=(y,l)/\(l=0\/l=8)/\((l=0/\Dg xs f=true/\y=xs.map (AS f))\/(l=8/\Dg xs f=false)):=by
  rw [Mv ae al];cases aq:Dg xs f
  .exact ⟨_,_,by rw [if_neg sI],.inr rfl,.inr ⟨rfl,rfl⟩⟩
  .exact ⟨_,_,by rw [if_pos rfl],.inl rfl,.inl ⟨rfl,rfl,rfl⟩⟩
 by_cases aj:(t.size:Int)=f.to_ - f.from_
 .have a1:∀ ap∈[t,t],(ap.size:Int)=f.to_ - f.from_:=fun ap ak=>by simp at ak;subst ak;exact aj
  cases ar:CR t
  .have u:BT [xs] [t,t] f=7:=YD m av a1 (t:=t) sI ar;rw [u];have:=az 7 y l (by rw [if_neg (by simp [aj]),if_pos ar]) om ai ac;rw [if_pos om] at this;exact this.mono (by rintro _ a4 ⟨a',n',c',rfl,_,ab⟩;exact ⟨a',n',c',rfl,fun h=>by omega,ab⟩)
  .have a8:∀ ap∈[t,t],CR ap=true:=fun ap ak=>by simp at ak;subst ak;exact ar
   have:=az 0 y l (by rw [if_neg (by simp [aj]),if_neg (by simp [ar])]) om ai ac;rw [if_neg om] at this;rcases bk with ⟨rfl,aq,rfl⟩ | ⟨rfl,aq⟩
   .have u:BT [xs] [t,t] f=0:=Pv m av a1 a8 (fun d m=>by simp at m;subst m;exact aq);rw [u];exact this
   .have u:BT [xs] [t,t] f=8:=JF m av a1 a8 (d:=xs) sI aq;rw [u];exact this.mono (by rintro _ a4 ⟨a',n',c',rfl,_,ab⟩;exact ⟨a',n',c',rfl,fun h=>by omega,ab⟩)
 .have u:BT [xs] [t,t] f=2:=Tf m av (t:=t) sI aj;rw [u];have:=az 2 y l (if_pos aj) om ai ac;rw [if_pos om] at this;exact this.mono (by rintro _ a4 ⟨a',n',c',rfl,_,ab⟩;exact ⟨a',n',c',rfl,fun h=>by omega,ab⟩)
theorem I4 (h:Ac AZ w a n xs) (f:AE) (hts:t.size<=1048576) :
  Dq 298 [.slice a n c,.agg ⟨f.enc⟩,.string t] w (fun v w'=>∃ a' m c',v = .tuple #[.slice a' m c',.int .i64 (Cw xs f t).2]/\((Cw xs f t).2=0->m<=c'/\Dl Aw w' w.heap.size w'.heap.size a' m 144 (Cw xs f t).1)/\AD w w'):=by
 have bz:=h.len;have ac:∀ d e am,AD w d->A4 eS 1 d e 1 [t]->Dq 331 [.slice a n c,.agg ⟨f.enc⟩,.slice e 1 am] d (fun v w'=>∃ a' a0 c',v = .tuple #[.slice a' a0 c',.int .i64 (BT [xs] [t,t] f)]/\(BT [xs] [t,t] f=0->A4 eS 1 w' a' a0 ((xs.map (AS f)).map Cf))/\AD d w'):=fun d e am aa bq=>VY (h.ext aa) f hts bq;by_cases u:BT [xs] [t,t] f=0
 .have ae:Cw xs f t=(xs.filter fun c=>decide (C6 f c t=0),0):=by unfold Cw;rw [if_neg (by simp [u])]
  rw [ae];obtain ⟨b5,b6,b7,b8,b9⟩:=IA u;have av:=b5 xs sI;have ay:=b6 xs sI;have b0:=Hf av ay (b9 xs sI);have bv:=b8 t sI;have c1:=b7 t sI;have cx:=Bc ay;have bx:t.size=CJ f:=by unfold CJ;omega
  have ax:=Am av;have cu:=ax.1;rw [u] at ac;obtain ⟨b1,au,bo⟩:=h;have cz:=au.len;refine oV Tryz.func298 ?_;refine AB.box ?_;intro cj di cs c7 ap a5;refine jA (n:=2) a5.cells rfl ?_;refine bS BK (vs:=[Value.string t]) ?_;intro cm dj bm c8 ar a6;have bb:=AH (n:=1) (enc:=eS) (xs:=[t]) AP a6 bm rfl dE;refine (ac _ _ _ (xt ap ar) (bb.own.arr AP)).mono ?_;rintro _ ag ⟨be,dc,bh,rfl,a1,bi⟩;have ah:=a1 rfl;have az:=ah.len;rw [List.length_map,List.length_map,bz] at az;subst az;have ai:=xt (xt ap ar) bi;refine bS Bz (vs:=[]) ?_;intro bg a2 bn da bk a8;have bd:Bm Aw ag.heap.size 144 a2 (some ⟨bg,0,none⟩) 0 0 []:=EO a8 bn;refine lR [0,2,8,10,11] (fun (b:Nat) cb w'=>∃ y x z,cb=[.slice a n c,.string t,.slice be n bh,.slice y x z,.int .i64 b]/\b<=n/\x<=b/\Bm Aw ag.heap.size 144 w' y x z ((xs.take b).filter fun c=>decide (C6 f c t=0))/\AD ag w') (fun b=>n - b) 0 ⟨_,_,_,rfl,om,om,by simpa using bd,bk⟩ ?_;rintro b cq _ dg ⟨y,x,z,rfl,cy,c0,g,o⟩;have ad:=xt ai o;rcases Nat.lt_or_ge b n with bw | bw
  .obtain ⟨j,aw⟩:=AA (l:=b1) (k:=b) om;obtain ⟨i,s,aj⟩:=bo.get aw;have b4:((xs.map (AS f)).map Cf)[b]? = some (Cf (AS f i)):=by rw [List.getElem?_map,List.getElem?_map,s];rfl
   have ca:=b0 _ (List.mem_map.2 ⟨i,List.mem_of_getElem? s,rfl⟩);have b2:=aC4 ca bv bx;have c2:=Bp (ax.2 i (List.mem_of_getElem? s)).1;have c3:=aj.1.len;have bp:∀ d e af,AD w d->AK d e af (eH j)->Dq 161 [.pointer (some ⟨e,af,none⟩)] d (fun v w'=>∃ (a':Option Addr) (c':Nat),v = .agg #[.slice a' j.n c']/\An eI 1 d.heap.size 2 w' a' j.n c' i/\AD d w'):=fun d e af aa bu=>Ek bu (aj.1.ext aa) om;have p:(xs.take (b+1)).filter (fun c=>decide (C6 f c t=0))=(xs.take b).filter (fun c=>decide (C6 f c t=0))++(if decide (C6 f i t=0)=true then [i] else []):=by
    rw [List.take_add_one,s,Option.toList_some,List.filter_append];congr 1;rw [List.filter_cons,List.filter_nil]
   refine iY<|jI (ah.ext o) b rfl b4 fun ck dd cv br=>jO br rfl ?_;(conv=>whnf);rw [<- b2] at p;refine AF (fun ab=>?_) fun ab=>?_
   .rw [decide_eq_true ab,if_pos rfl] at p;refine jI (au.ext ad) b rfl aw fun cl de cw bt=>(bp _ _ _ ad bt).mono ?_;rintro _ dk ⟨ak,al,rfl,q,aq⟩;refine AB.buildSlice Bz (vs:=[Value.agg ⟨eH ⟨ak,j.n,al⟩⟩]) rF rF (by simp [Value.cells,eH]) dE ?_;intro bf cc ct c9 r a7;have a9:AK cc bf 0 (eH ⟨ak,j.n,al⟩):=a7.cells;exact Cb Bz rfl g o.size (xt aq r) (FR ((q.ext r).own) q.le.1) (DB q.new (fun cd b3=>Nat.lt_of_lt_of_le (q.lt cd b3) r.size)) a9 om om fun cg co dl bc b' c4=>jP (((b+1:Nat):Int)) ⟨b+1,om,_,_,_,rfl,om,om,by rw [p];exact bc,xm (xt (xt o aq) r) b' (AQ (Bm.new g))⟩
   .rw [decide_eq_false ab,if_neg sI,List.append_nil] at p;exact jP (((b+1:Nat):Int)) ⟨b+1,om,_,_,_,rfl,om,om,by rw [p];exact g,o⟩
  .obtain rfl:b=n:=om
   rw [List.take_of_length_le om] at g;exact iN ⟨_,_,_,rfl,fun _=>⟨g.le.1,g.ownN.wide (Below.size ai) (Nat.le_refl _)⟩,ad⟩
 .have ae:(Cw xs f t).2=BT [xs] [t,t] f:=by unfold Cw;rw [if_pos u]
  rw [ae];generalize (Cw xs f t).1=ce at *;generalize BT [xs] [t,t] f=cp at *;refine oV Tryz.func298 ?_;refine AB.box ?_;intro ch df cr c5 an a3;refine jA (n:=2) a3.cells rfl ?_;refine bS BK (vs:=[Value.string t]) ?_;intro ci dh bl c6 ao a4;have ba:=AH (n:=1) (enc:=eS) (xs:=[t]) AP a4 bl rfl dE;refine (ac _ _ _ (xt an ao) (ba.own.arr AP)).mono ?_;rintro _ a2 ⟨cf,db,cn,rfl,a1,bj⟩;exact iT ⟨_,_,_,rfl,om,(xt (xt an ao) bj)⟩
theorem KV {ks:List (List Int)} (h:A4 eS 1 w a n (ks.map Cf)) (hK:∀ k∈ks,Gf L k) (hn40:n<=40) :
  Dq 242 [.slice a n c] w (fun v w'=>∃ a' m c',v = .slice a' m c'/\Ab w.heap.size a'/\Bs eI w' a' m 2 (CF ks ks.length)/\AD w w'):=by
 have ab:=h.len;rw [List.length_map] at ab;have a1:=HB ks;refine oV Tryz.func242 ?_;refine bS B3 (vs:=[]) ?_;intro bc br au bn ar ah;have ak:=Ag (enc:=eI) AI ah au;refine lR [0,3,4] (fun (k:Nat) a8 w'=>∃ (j:Option Addr) (y o:Nat),a8=[.slice a n c,.slice j y o,.int .i64 k]/\k<=n/\An eI 1 w.heap.size 2 w' j y o (CF ks k)/\AD w w') (fun k=>n - k) 0 ⟨_,_,_,rfl,om,ak,ar⟩ ?_;rintro k bg _ bt ⟨j,y,o,rfl,bi,d,b⟩;have bq:=d.len;have bh:=d.le.1;have bk:=a1 k;rcases Nat.lt_or_ge k n with az | az
 .obtain ⟨g,u⟩:=AA (l:=ks) (k:=k) om;have ad:=Ex u;have af:=hK g (List.mem_of_getElem? u);rcases Nat.eq_zero_or_pos k with rfl | bj
  .have f:CF ks (0+1)=CF ks 0++[((0:Nat):Int)]:=IQ (by simp [F0]);refine iY<|BS A7 mixed kR kR fun bu p=>bS B3 (vs:=[Value.int IntKind.i64 ↑0]) ?_;intro z bv av bo q ai;have al:=AH (n:=1) (enc:=eI) (xs:=[↑0]) AI ai av rfl dE;exact AN (enc:=eI) B3 AI (d.ext (xt p q)) (al.own.arr AI) yI om om (Below.size (xt (xt b p) q)) fun ba be bw am a4 bl=>jP (((0+1:Nat):Int)) ⟨0+1,om,_,_,_,rfl,om,by rw [f];exact am,xm (xt (xt b p) q) a4 (AQ d.new)⟩
  .obtain ⟨k,rfl⟩:∃ a3,k=a3+1:=⟨k - 1,om⟩;obtain ⟨i,x⟩:=AA (l:=ks) (k:=k) om;have ae:=Ex x;have ag:=hK i (List.mem_of_getElem? x);have ac:F0 ks (k+1) = !decide (CY i g=0):=by
    unfold F0;rw [Af u,Nat.add_sub_cancel,Af x];simp
   by_cases aa:Cf g=Cf i
   .have a2:=T2 af ag aa;have f:CF ks (k+1+1)=CF ks (k+1):=QA (by rw [ac,a2,Gx];rfl);exact iY<|BS A7 mixed kR kR<|dI (h.ext b) (k+1) rfl ad fun z a6 ax s=>dO s rfl<|BQ.sub (((k:Nat):Int)) om om om<|dI (h.ext b) k rfl ae fun ap a7 ay t=>dO t rfl fun a9 e=>iF<|jP (((k+1+1:Nat):Int)) ⟨k+1+1,om,_,_,_,rfl,om,by rw [f];exact d.ext e,xt b e⟩
   .have a0:¬ CY i g=0:=fun aq=>aa (by rw [Ie (by rw [ag.1,af.1]) aq]);have f:CF ks (k+1+1)=CF ks (k+1)++[((k+1:Nat):Int)]:=IQ (by rw [ac,decide_eq_false a0];rfl);refine iY<|BS A7 mixed kR kR<|dI (h.ext b) (k+1) rfl ad fun z a6 ax s=>dO s rfl<|BQ.sub (((k:Nat):Int)) om om om<|dI (h.ext b) k rfl ae fun ap a7 ay t=>dO t rfl fun a9 e=>iT<|bS B3 (vs:=[Value.int IntKind.i64 ↑(k+1)]) ?_;intro bd bx aw bp r aj;have an:=AH (n:=1) (enc:=eI) (xs:=[↑(k+1)]) AI aj aw rfl dE;exact AN (enc:=eI) B3 AI (d.ext (xt e r)) (an.own.arr AI) yI om om (Below.size (xt (xt b e) r)) fun bb bf bz ao a5 bm=>jP (((k+1+1:Nat):Int)) ⟨k+1+1,om,_,_,_,rfl,om,by rw [f];exact ao,xm (xt (xt b e) r) a5 (AQ d.new)⟩
 .obtain rfl:k=n:=om
  rw [ab];exact iN ⟨_,_,_,rfl,d.new,d.own,b⟩
theorem Hu (h:Ac AZ w a n xs) (f:AE) :
  Dq 299 [.slice a n c,.agg ⟨f.enc⟩] w (fun v w'=>∃ a' m c',v = .tuple #[.slice a' m c',.int .i64 (EK xs f).2]/\((EK xs f).2=0->m<=c'/\Dl Aw w' w.heap.size w'.heap.size a' m 144 (EK xs f).1)/\AD w w'):=by
 have cu:=h.len;have t:∀ e,AD w e->Dq 166 [.slice a n c,.agg ⟨f.enc⟩] e (fun v w'=>∃ a' a2 c',v = .tuple #[.slice a' a2 c',.int .i64 (Bu xs f).2]/\Ab e.heap.size a'/\Bs eS w' a' a2 9 ((Bu xs f).1.map Cf)/\AD e w'):=fun e ab=>Eu (h.ext ab) f;have ad:=aE6 xs f;by_cases af:(Bu xs f).2=0
 .have ae:EK xs f=((A0 (xs.map (AS f))).map fun b=>xs.getD b [],0):=by unfold EK;rw [if_neg (by rw [ad];simp [af])]
  rw [ae];obtain ⟨av,bt,bu,ay⟩:=N5 af;have ax:=Am av;have cp:=ax.1;have bz:=Hf av bt bu;rw [ay] at t;dsimp only at t;have az:=HB (xs.map (AS f)) (xs.map (AS f)).length;rw [List.length_map] at az;generalize aq:A0 (xs.map (AS f))=g at *;have ar:CF (xs.map (AS f)) xs.length=g.map fun (b:Nat)=>(b:Int):=by rw [<- aq];unfold CF A0;rw [List.length_map]
  rw [ar,List.length_map] at az;have bo:∀ b∈g,b<xs.length:=fun b p=>by
   rw [<- aq] at p;have:=(Gq.1 p).1;rwa [List.length_map] at this
  obtain ⟨b0,au,bm⟩:=h;have ct:=au.len;refine oV Tryz.func299 ?_;refine AB.box ?_;intro bc b6 bk b3 j x;refine jA (n:=2) x.cells rfl<|(t _ j).mono ?_;rintro _ c5 ⟨cf,c1,ck,rfl,b',ba,bg⟩;have ai:=ba.arr AP;have bx:=ai.len;rw [List.length_map,List.length_map] at bx;refine (KV ai bz om).mono ?_;rintro _ ah ⟨bb,q,bf,rfl,ca,al,bh⟩;rw [List.length_map,ar] at al;have aj:=al.arr AI;have bw:=aj.len;rw [List.length_map] at bw;have ak:=xt (xt j bg) bh;refine bS Bz (vs:=[]) ?_;intro be a3 bl cz bj a6;have a9:Bm Aw ah.heap.size 144 a3 (some ⟨be,0,none⟩) 0 0 []:=EO a6 bl;refine lR [0,8,9,10] (fun (d:Nat) b5 w'=>∃ y aa,b5=[.slice a n c,.slice bb q bf,.slice y d aa,.int .i64 d]/\d<=q/\Bm Aw ah.heap.size 144 w' y d aa ((g.map fun b=>xs.getD b []).take d)/\AD ah w') (fun d=>q - d) 0 ⟨_,_,rfl,om,by simpa using a9,bj⟩ ?_;rintro d cn _ c4 ⟨y,aa,rfl,ay,o,u⟩;have ac:=xt ak u;rcases Nat.lt_or_ge d q with bv | bv
  .obtain ⟨b,p⟩:=AA (l:=g) (k:=d) om;have a1:(g.map fun (b:Nat)=>(b:Int))[d]? = some (b:Int):=by rw [List.getElem?_map,p];rfl
   have cs:=bo b (List.mem_of_getElem? p);obtain ⟨i,aw⟩:=AA (l:=b0) (k:=b) om;obtain ⟨a4,a0,am⟩:=bm.get aw;have b1:=O3 (f:=f) (ss:=g) a1 a0;have cv:=Bp (ax.2 a4 (List.mem_of_getElem? a0)).1;have cw:=am.1.len;have bn:∀ e z ag,AD w e->AK e z ag (eH i)->Dq 161 [.pointer (some ⟨z,ag,none⟩)] e (fun v w'=>∃ (a':Option Addr) (c':Nat),v = .agg #[.slice a' i.n c']/\An eI 1 e.heap.size 2 w' a' i.n c' a4/\AD e w'):=fun e z ag ab br=>Ek br (am.1.ext ab) om;refine iY<|jI (aj.ext u) d rfl a1 fun ch c2 cq bp=>jO bp rfl<|jI (au.ext ac) b rfl aw fun ci c3 cr bq=>(bn _ _ _ ac bq).mono ?_;rintro _ c6 ⟨an,ao,rfl,r,ap⟩;refine AB.buildSlice Bz (vs:=[Value.agg ⟨eH ⟨an,i.n,ao⟩⟩]) rF rF (by simp [Value.cells,eH]) dE ?_;intro bd b7 co cy s a5;have a7:AK b7 bd 0 (eH ⟨an,i.n,ao⟩):=a5.cells;exact Cb Bz rfl o u.size (xt ap s) (FR ((r.ext s).own) r.le.1) (DB r.new (fun b8 b2=>Nat.lt_of_lt_of_le (r.lt b8 b2) s.size)) a7 om om fun cg cl c7 a8 b4 cx=>jP (((d+1:Nat):Int)) ⟨d+1,om,_,_,rfl,om,by rw [b1];exact a8,xm (xt (xt u ap) s) b4 (AQ (Bm.new o))⟩
  .obtain rfl:d=q:=om
   rw [List.take_of_length_le (by rw [List.length_map];omega)] at o;exact iN ⟨_,_,_,rfl,fun _=>⟨o.le.1,o.ownN.wide (Below.size ak) (Nat.le_refl _)⟩,ac⟩
 .have ae:(EK xs f).2=(Bu xs f).2:=by unfold EK;rw [if_pos (by rw [ad];exact af),ad]
  rw [ae];generalize (EK xs f).1=cd at *;generalize (Bu xs f).2=cm at *;generalize (Bu xs f).1=b9 at *;refine oV Tryz.func299 ?_;refine AB.box ?_;intro bc b6 bk b3 j x;refine jA (n:=2) x.cells rfl<|(t _ j).mono ?_;rintro _ a3 ⟨ce,c0,cj,rfl,cb,cc,bi⟩;exact iT ⟨_,_,_,rfl,om,(xt j bi)⟩
end Go.Proofs.YtalgenmoljcnmaaGreatDoor
