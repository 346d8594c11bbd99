/- Parts of the proof; no conditions of its own. -/
import Derived.Test.YtalgenmoljcnmaaGreatDoorRefF
namespace Go.Vc
open Go Go.RowKit
theorem FN {x y z:World} {b:Nat} (h:AD x y) (k:BY (fun j=>j=b) y z) (hb:x.heap.size<=b):AD x z:=xm h k (fun j a=>by omega)
end Go.Vc
namespace Go.M
open Go Go.Vc
theorem Rx {X:List (List (List Int))} {Y:List (List A9)} {x:EB} (ho:Ap X Y.length=true) (h0:(Am X Y (AH X) x).2=0) (h7:x.kind=7) :
  ∃ Z L,(Am X Y (AH X) x).1.2=Z++[L]/\L.length<=40/\∀ t∈L,t.name.size<=20/\BM t.sum:=by
 obtain ⟨i,k⟩:=UZ h0;have c:=JJ ho;rcases k with ⟨_,j⟩ | ⟨m,_⟩
 .rw [j];refine ⟨_,_,rfl,?_⟩;have l:=M5 i h7;have g:(Az (X.getD x.a.toNat []) x.field x.sum).1.length<=40/\∀ t∈(Az (X.getD x.a.toNat []) x.field x.sum).1,t.name.size<=20∧-40000000000000<=t.sum/\t.sum<=40000000000000:=by
   cases f:X.getD x.a.toNat [] with
   | nil=>exact ⟨by unfold Az;split<;>simp [Be,Aw,DY],fun t b=>by unfold Az at b;split at b<;>simp [Be,Aw,DY] at b⟩
   | cons d n =>
    have h:=(c x.a.toNat).2 d (by rw [f];simp);have e:=Ip (W:=AH X) (c x.a.toNat).1 (c x.a.toNat).2;rw [f] at e;exact YX e (by show Af x.sum ((d.length:Nat):Int)=true;rw [h.2];exact l)
  exact ⟨g.1,fun t b=>by have:=g.2 t b;exact ⟨this.1,by unfold BM;omega⟩⟩
 .exact absurd h7 m
end Go.M
namespace Go.Proofs.YtalgenmoljcnmaaGreatDoor
open Go Go.RowKit Go.Vc Go.M
theorem RV {w:World} {a b:Option Addr} {n c m d:Nat} {s word:ByteArray} {X:List (List (List Int))} {Y:List (List A9)} (h:Ar DM w a n X) (h2:Ar LG w b m Y) (ho:Ap X m=true) (hY:∀ y∈Y,y.length<=1048576) {st:EB} (hx:st.ok) (hk:word=BK->st.kind=7) (hT:F7 w) {av:List Value}
  (hl4:av.length=4) (hSt:∀ u,AD w u->Dq 153 [.string word,.agg ⟨av⟩] u (fun v w'=>v = .agg ⟨st.enc⟩/\AD u w')) :
  Dq 83 [.agg #[.slice a n c,.slice b m d,.string s],.string word,.agg ⟨av⟩] w (fun v w'=>∃ a' n' c' b' m' d' al nl cl,v = .tuple #[.agg #[.slice a' n' c',.slice b' m' d',.string s],.slice al nl cl,.int .i64 (Am X Y (AH X) st).2] /\
   ((Am X Y (AH X) st).2=0->n'<=c'/\m'<=d'/\∃ hi',w.heap.size<=hi'/\hi'<=w'.heap.size/\C8 w' w.heap.size hi' a' n' b' m' (Am X Y (AH X) st).1.1 (Am X Y (AH X) st).1.2/\Ad hi' al/\Bw eS w' al nl 9 (if word≠BK then [C6 (At (Am X Y (AH X) st).1.1)] else [EN (GF ((Am X Y (AH X) st).1.2.getLastD []))]))/\AD w w'):=by
 obtain ⟨b2,b3,b4,b5,rfl⟩:∃ b2 b3 b4 b5,av=[b2,b3,b4,b5]:=by
  match av,hl4 with
  | [b2,b3,b4,b5],_=>exact ⟨b2,b3,b4,b5,rfl⟩
 have ba:∀ u,AD w u->Dq 152 [.agg #[.slice a n c,.slice b m d],.agg ⟨st.enc⟩] u (fun v w'=>∃ a' n' c' b' m' d',v = .tuple #[.agg #[.slice a' n' c',.slice b' m' d'],.int .i64 (Am X Y (AH X) st).2] /\
   ((Am X Y (AH X) st).2=0->n'<=c'/\m'<=d'/\C8 w' u.heap.size w'.heap.size a' n' b' m' (Am X Y (AH X) st).1.1 (Am X Y (AH X) st).1.2)/\AD u w'):=fun u aq=>VO (h.ext aq) (h2.ext aq) ho hY hx
 have di:(Am X Y (AH X) st).2=0->(Am X Y (AH X) st).1.1.length=6/\∀ x∈(Am X Y (AH X) st).1.1,x.length<=40:=fun r=>by
  have:=BA (LL (x:=st) (by rw [h2.len];exact ho) r);exact ⟨this.1,fun x hx=>(this.2.2 x hx).1⟩
 have dd:(Am X Y (AH X) st).2=0->word=BK->∃ ag ae,(Am X Y (AH X) st).1.2=ag++[ae]/\ae.length<=40/\∀ x∈ae,x.name.size<=20/\BM x.sum:=fun r a3=>Rx (by rw [h2.len];exact ho) r (hk a3);generalize Am X Y (AH X) st=dq at *;obtain ⟨⟨a0,bx⟩,bz⟩:=dq;dsimp only at *;refine oV Tryz.func83 ?_;conv=>whnf
 refine AB.box ?_;intro ah ea c9 d4 bm ax;(conv=>whnf);refine AB.box ?_;intro dx eb dy d5 ak br;(conv=>whnf);refine jN (z := .agg #[.slice none 0 0,.slice none 0 0,.string { data := #[] }]) ?_;intro t an dz d6 ai a8;(conv=>whnf);refine Dn [10] A8 mixed none (.seq (pZ [0,10,6,16]) (.alt 4 (.alt 5 (.seq (pZ [30,35,40,47,53,55]) .done) 9 (.seq (pZ [27,30,35,40,53,55]) .done)) 9 (.seq (pZ [22,27,30,35,40,53,55]) .done))) kR kR ?_;(conv=>whnf);intro dt a2;have c3:∀ a6,¬ AN none a6:=fun a6 bo=>by obtain ⟨x,hx,_⟩:=bo;cases hx
 have ef:=bm.size;have eg:=ak.size;have eh:=ai.size;have ei:=a2.size;have bf:AD w dt:=xt (xt (xt bm ak) ai) a2;(conv=>whnf);refine Fj (n:=2) kR (k:=0) (Sr.cells (ax.ext (xt (xt ak ai) a2)).cells (c3 _)) rfl ?_;(conv=>whnf);refine Ba (n:=4) kR (Sr.cells (br.ext (xt ai a2)).cells (c3 _)) rfl ?_;(conv=>whnf);refine DX.mk ?_ ?_
 focus
  (conv=>whnf);refine dM (hSt _ bf) fun ao o=>?_;have dv:=o.size;(conv=>whnf);refine ⟨AU o,?_⟩;(conv=>whnf);refine DX.mk ?_ ?_
  focus
   (conv=>whnf);refine (ba _ (xt bf o)).mono ?_;rintro _ q ⟨a',n',c',b',m',d',rfl,ab,aa⟩;have c6:=aa.size;(conv=>whnf);refine ⟨AU (xt o aa),?_⟩;(conv=>whnf);refine jN (z := .agg #[.slice none 0 0,.slice none 0 0]) ?_;intro f a7 cr c1 g bc;(conv=>whnf);refine ⟨AU (xt (xt o aa) g),?_⟩;(conv=>whnf);refine jS (vs:=[Value.slice a' n' c',Value.slice b' m' d']) bc rfl rfl (by simp [AE]) ?_;intro ac j bp;(conv=>whnf);have c5:=g.size;have ad:AD an a7:=xt (xt (xt a2 o) aa) g;have bo:bz=0->n'<=c'/\m'<=d'/\C8 ac ao.heap.size q.heap.size a' n' b' m' a0 bx:=fun r=>⟨(ab r).1,(ab r).2.1,((ab r).2.2.mod (S:=fun _=>False) (AD.mod g) (fun _ _ _ h=>h)).mod j.but (fun am bn h2 hk=>by have hk:am=f:=hk;omega)⟩;have cv:an.heap.size<=ao.heap.size:=om
   have cu:q.heap.size<=ac.heap.size:=Nat.le_trans g.size j.but.size;have ct:an.heap.size<=f/\(f<ao.heap.size\/q.heap.size<=f):=om
   generalize ao.heap.size=c2 at *;generalize q.heap.size=bb at *;have bq:CD ac ah [.slice a n c,.slice b m d,.string s] 36:=(ax.ext (xt (xt ak ai) ad)).mod j.but (fun h=>by have h:ah=f:=h;omega);have bt:=(a8.ext ad).mod j.but (fun h=>by have h:t=f:=h;omega);have bv:AD w ac:=xb (xt (xt (xt bm ak) ai) ad) j.but om;clear ab ax br a8 ba hSt
  rotate_left
  focus
   (conv=>whnf);refine jN (z := .agg #[.slice none 0 0,.slice none 0 0]) ?_;intro f a7 cr c1 g bc;have c5:=g.size;(conv=>whnf);refine ⟨AU (xt o g),?_⟩;(conv=>whnf);refine (ba _ (xt (xt bf o) g)).mono ?_;rintro _ q ⟨a',n',c',b',m',d',rfl,ab,aa⟩;have c6:=aa.size;(conv=>whnf);refine ⟨AU (xt (xt o g) aa),?_⟩;(conv=>whnf);refine jS (vs:=[Value.slice a' n' c',Value.slice b' m' d']) (bc.ext aa) rfl rfl (by simp [AE]) ?_;intro ac j bp;(conv=>whnf);have ad:AD an q:=xt (xt (xt a2 o) g) aa;have bo:bz=0->n'<=c'/\m'<=d'/\C8 ac a7.heap.size q.heap.size a' n' b' m' a0 bx:=fun r=>⟨(ab r).1,(ab r).2.1,(ab r).2.2.mod j.but (fun am bn h2 hk=>by have hk:am=f:=hk;omega)⟩;have cv:an.heap.size<=a7.heap.size:=om
   have cu:q.heap.size<=ac.heap.size:=j.but.size;have ct:an.heap.size<=f/\(f<a7.heap.size\/q.heap.size<=f):=om
   generalize a7.heap.size=c2 at *;generalize q.heap.size=bb at *;have bq:CD ac ah [.slice a n c,.slice b m d,.string s] 36:=(ax.ext (xt (xt ak ai) ad)).mod j.but (fun h=>by have h:ah=f:=h;omega);have bt:=(a8.ext ad).mod j.but (fun h=>by have h:t=f:=h;omega);have bv:AD w ac:=xb (xt (xt (xt bm ak) ai) ad) j.but om;clear ab ax br a8 ba hSt
 rotate_left 2
 focus
  (conv=>whnf);refine jN (z := .agg #[.slice none 0 0,.slice none 0 0]) ?_;intro f a7 cr c1 g bc;have c5:=g.size;(conv=>whnf);refine ⟨AU g,?_⟩;(conv=>whnf);refine dM (hSt _ (xt bf g)) fun ao o=>?_;have dv:=o.size;(conv=>whnf);refine ⟨AU (xt g o),?_⟩;(conv=>whnf);refine (ba _ (xt (xt bf g) o)).mono ?_;rintro _ q ⟨a',n',c',b',m',d',rfl,ab,aa⟩;have c6:=aa.size;(conv=>whnf);refine ⟨AU (xt (xt g o) aa),?_⟩;(conv=>whnf);refine jS (vs:=[Value.slice a' n' c',Value.slice b' m' d']) (bc.ext (xt o aa)) rfl rfl (by simp [AE]) ?_;intro ac j bp;(conv=>whnf);have ad:AD an q:=xt (xt (xt a2 g) o) aa;have bo:bz=0->n'<=c'/\m'<=d'/\C8 ac ao.heap.size q.heap.size a' n' b' m' a0 bx:=fun r=>⟨(ab r).1,(ab r).2.1,(ab r).2.2.mod j.but (fun am bn h2 hk=>by have hk:am=f:=hk;omega)⟩;have cv:an.heap.size<=ao.heap.size:=om
  have cu:q.heap.size<=ac.heap.size:=j.but.size;have ct:an.heap.size<=f/\(f<ao.heap.size\/q.heap.size<=f):=om
  generalize ao.heap.size=c2 at *;generalize q.heap.size=bb at *;have bq:CD ac ah [.slice a n c,.slice b m d,.string s] 36:=(ax.ext (xt (xt ak ai) ad)).mod j.but (fun h=>by have h:ah=f:=h;omega);have bt:=(a8.ext ad).mod j.but (fun h=>by have h:t=f:=h;omega);have bv:AD w ac:=xb (xt (xt (xt bm ak) ai) ad) j.but om;clear ab ax br a8 ba hSt
 all_goals
  by_cases co:bz=0
  .subst co;obtain ⟨cy,cw,db⟩:=bo rfl;obtain ⟨dh,dg⟩:=di rfl;refine jA (n:=2) bp.cells rfl ?_;(conv=>whnf);refine EJ kR bq (k:=0) (vs:=[.slice a' n' c',.slice b' m' d']) rfl (Nat.le_of_ble_eq_true rfl) (by simp [AE]) ?_;intro aj a1 b7;have b8:CD aj ah [.slice a' n' c',.slice b' m' d',.string s] 36:=b7;have bu:=bt.mod a1.but (fun h=>by have h:t=ah:=h;omega);have b6:=bp.mod a1.but (fun h=>by have h:f=ah:=h;omega);have cg:=db.mod a1.but (fun am bn h2 hk=>by have hk:am=ah:=hk;omega);have bw:AD w aj:=xb bv a1.but c9;have ec:=a1.but.size;obtain ⟨c7,c8⟩:=cg.rd;(conv=>whnf);by_cases a3:word=BK
   .have cn:word=⟨#[116,111,116,97,108]⟩:=a3;refine E3 (by simp [cn]) ?_;rw [if_neg (by simp [a3])];obtain ⟨ag,ae,rfl,d0,de⟩:=dd rfl a3;have dc:(ag++[ae]).getLastD []=ae:=by rw [List.getLastD_eq_getLast?,List.getLast?_append];rfl
    rw [dc];obtain ⟨c0,ci,cs⟩:=c8;have d2:=ci.len;have dm:c0.length=(ag++[ae]).length:=cs.1;rw [List.length_append,List.length_singleton] at dm;obtain ⟨a6,cz⟩:=AA (l:=c0) (k:=ag.length) om;have cq:=cs.2 ag.length a6 ae cz sI;have df:∀ u,AD aj u->Dq 154 [.slice a6.a a6.n a6.c] u (fun v w'=>v = .string (GF ae)/\AD u w'):=fun u aq=>Oi (cq.1.ext aq) de (by have:=cq.1.len;omega) (hT.ext (xt bw aq));generalize GF ae=p at *;have d3:m'=ag.length+1:=om
    (conv=>whnf);refine jL b6.cells (k:=1) rfl ?_;(conv=>whnf);refine jL b6.cells (k:=1) rfl ?_;(conv=>whnf);refine AB.sub ((ag.length:Nat):Int) om om (by have:=ci.2.1;unfold maxLen at this;omega) ?_;(conv=>whnf);refine jI ci ag.length om cz ?_;intro dw d7 d1 dk;(conv=>whnf);refine jO dk rfl ?_;(conv=>whnf);refine dM (df _ (AD.refl _)) fun d9 au=>?_;(conv=>whnf);have bd:∀ (i:World) (e:Nat) (y:ByteArray),y=EN p->BY (fun aw=>aw=t) aj i->aj.heap.size<=e->Bw eS i (some ⟨e,0,none⟩) 1 9 [y]->∃ bg a5 bi bh a4 bk al nl cl,Value.tuple #[.agg #[.slice a' n' c',.slice b' m' d',.string s],.slice (some ⟨e,0,none⟩) 1 1,.int .i64 0]=Value.tuple #[.agg #[.slice bg a5 bi,.slice bh a4 bk,.string s],.slice al nl cl,.int .i64 0] /\
      ((0:Int)=0->a5<=bi/\a4<=bk/\∃ hi',w.heap.size<=hi'/\hi'<=i.heap.size/\C8 i w.heap.size hi' bg a5 bh a4 a0 (ag++[ae])/\Ad hi' al/\Bw eS i al nl 9 [EN p])/\AD w i:=by
     intro i e y af az dj cd;subst af;have:=az.size;exact ⟨_,_,_,_,_,_,_,_,_,rfl,fun _=>⟨cy,cw,bb,om,om,(cg.mod az (fun am bn h2 hk=>by omega)).wide om (Nat.le_refl _),(fun y af=>by cases af;show bb<=e;omega),cd⟩,FN bw az om⟩
    by_cases b1:p.size=0
    .have cm:p=⟨#[]⟩:=by
      apply ByteArray.ext;exact Array.eq_empty_of_size_eq_zero b1
     have cj:EN p=bs [45]:=by unfold EN;rw [if_pos b1]
     refine ET (by simp [cm]) ?_;(conv=>whnf);refine jA (n:=3) (b8.ext au).cells rfl ?_;(conv=>whnf);refine bS BI (vs:=[Value.string (bs [45])]) ?_;intro e ds cf dp bl cb;have ay:=AG (n:=1) (enc:=eS) (xs:=[bs [45]]) AQ cb cf rfl dE;(conv=>whnf);refine jS (vs:=[Value.slice a' n' c',Value.slice b' m' d',Value.string s]) (bu.ext (xt au bl)) rfl rfl (by simp [AE]) ?_;intro cp bj cc;(conv=>whnf);refine AP (jR (n:=3) rfl cc.cells) ?_;(conv=>whnf);have du:=au.size;exact bd cp e _ cj.symm ((AD.mod (xt au bl)).trans bj.but) om (ay.mod bj.but (fun y af h=>by
      cases af
      have h:e=t:=h;omega)).own
    .have cm:¬ p=⟨#[]⟩:=fun h=>b1 (by rw [h];rfl);have cj:EN p=p:=by unfold EN;rw [if_neg b1]
     refine E3 (by simp [cm]) ?_;(conv=>whnf);refine jA (n:=3) (b8.ext au).cells rfl ?_;(conv=>whnf);refine bS BI (vs:=[Value.string p]) ?_;intro e ds cf dp bl cb;have ay:=AG (n:=1) (enc:=eS) (xs:=[p]) AQ cb cf rfl dE;(conv=>whnf);refine jS (vs:=[Value.slice a' n' c',Value.slice b' m' d',Value.string s]) (bu.ext (xt au bl)) rfl rfl (by simp [AE]) ?_;intro cp bj cc;(conv=>whnf);refine AP (jR (n:=3) rfl cc.cells) ?_;(conv=>whnf);have du:=au.size;exact bd cp e _ cj.symm ((AD.mod (xt au bl)).trans bj.but) om (ay.mod bj.but (fun y af h=>by
      cases af
      have h:e=t:=h;omega)).own
   .have cn:¬ word=⟨#[116,111,116,97,108]⟩:=a3;refine ET (by simp [cn]) ?_;rw [if_pos a3];have da:∀ u,AD aj u->Dq 76 [.agg #[.slice a' n' c',.slice b' m' d']] u (fun v w'=>v = .string (C6 (At a0))/\AD u w'):=fun u aq=>IU (c7.ext aq) dh dg (hT.ext (xt bw aq));generalize C6 (At a0)=p at *;have bd:∀ (i:World) (e:Nat),BY (fun aw=>aw=t) aj i->aj.heap.size<=e->Bw eS i (some ⟨e,0,none⟩) 1 9 [p]->∃ bg a5 bi bh a4 bk al nl cl,Value.tuple #[.agg #[.slice a' n' c',.slice b' m' d',.string s],.slice (some ⟨e,0,none⟩) 1 1,.int .i64 0]=Value.tuple #[.agg #[.slice bg a5 bi,.slice bh a4 bk,.string s],.slice al nl cl,.int .i64 0] /\
      ((0:Int)=0->a5<=bi/\a4<=bk/\∃ hi',w.heap.size<=hi'/\hi'<=i.heap.size/\C8 i w.heap.size hi' bg a5 bh a4 a0 bx/\Ad hi' al/\Bw eS i al nl 9 [p])/\AD w i:=by
     intro i e az dj cd;have:=az.size;exact ⟨_,_,_,_,_,_,_,_,_,rfl,fun _=>⟨cy,cw,bb,om,om,(cg.mod az (fun am bn h2 hk=>by omega)).wide om (Nat.le_refl _),(fun y af=>by cases af;show bb<=e;omega),cd⟩,FN bw az om⟩
    (conv=>whnf);refine Dn [] A8 mixed (some ⟨t,0,none⟩) (.seq (pZ [1,6,12]) (.alt 3 (.seq (pZ [22,25,30]) .done) 4 (.seq (pZ [17,25,30]) .done))) kR kR ?_;(conv=>whnf);intro d8 b0;have cx:∀ aw,aw≠t->¬ AN (some (⟨t,0,none⟩:Addr)) aw:=fun aw ck h=>by
     obtain ⟨x,hx,dl⟩:=h;cases hx
     exact ck dl
    have ch:∀ {x y:World},But t x y->BY (AN (some (⟨t,0,none⟩:Addr))) x y:=fun h=>h.mono fun aw ck=>⟨_,rfl,ck⟩;(conv=>whnf);refine Ba (n:=3) kR (Sr.cells (b8.ext b0).cells (cx _ om)) rfl ?_;(conv=>whnf);refine Ba (n:=2) kR (Sr.cells (b6.ext b0).cells (cx _ om)) rfl ?_;(conv=>whnf);refine dM (da _ b0) fun dr a9=>?_;(conv=>whnf);refine ⟨AU a9,?_⟩;(conv=>whnf);have be:AD aj dr:=xt b0 a9;have ed:=be.size;refine DX.mk ?_ ?_
    ·(conv=>whnf);refine bS BI (vs:=[Value.string p]) ?_;intro e c4 ce dn ar b9;have ay:=AG (n:=1) (enc:=eS) (xs:=[p]) AQ b9 ce rfl dE;(conv=>whnf);refine ⟨AU (xt a9 ar),?_⟩;(conv=>whnf);refine jS (vs:=[Value.slice a' n' c',Value.slice b' m' d',Value.string s]) (bu.ext (xt be ar)) rfl rfl (by simp [AE]) ?_;intro i ap ca;(conv=>whnf);refine ⟨(AU (xt a9 ar)).trans (ch ap.but),?_⟩;(conv=>whnf);refine AP (jR (n:=3) rfl ca.cells) ?_;(conv=>whnf);exact bd i e ((AD.mod (xt be ar)).trans ap.but) om (ay.mod ap.but (fun y af h=>by
      cases af
      have h:e=t:=h;omega)).own
    ·(conv=>whnf);refine jS (vs:=[Value.slice a' n' c',Value.slice b' m' d',Value.string s]) (bu.ext be) rfl rfl (by simp [AE]) ?_;intro i ap ca;(conv=>whnf);refine ⟨(AU a9).trans (ch ap.but),?_⟩;(conv=>whnf);refine bS BI (vs:=[Value.string p]) ?_;intro e c4 ce dn ar b9;have ay:=AG (n:=1) (enc:=eS) (xs:=[p]) AQ b9 ce rfl dE;(conv=>whnf);refine ⟨((AU a9).trans (ch ap.but)).trans (AD.mod ar),?_⟩;(conv=>whnf);refine AP (jR (n:=3) rfl (ca.ext ar).cells) ?_;(conv=>whnf);have ee:=ap.but.size;exact bd c4 e (((AD.mod be).trans ap.but).trans (AD.mod ar)) om ay.own
  .refine ET (by simp [co]) ?_;(conv=>whnf);refine jA (n:=3) bq.cells rfl ?_;(conv=>whnf);refine jS (vs:=[Value.slice a n c,Value.slice b m d,Value.string s]) bt rfl rfl (by simp [AE]) ?_;intro aj a1 b7;(conv=>whnf);refine AP (jR (n:=3) rfl b7.cells) ?_;(conv=>whnf);exact ⟨_,_,_,_,_,_,_,_,_,rfl,fun h=>absurd h co,xb bv a1.but om⟩
end Go.Proofs.YtalgenmoljcnmaaGreatDoor
namespace Go.Proofs.YtalgenmoljcnmaaGreatDoor
open Go Go.RowKit Go.Vc Go.M
variable {w:World} {lo hi n c m d n1 n2 n3 n4 c1 c2 c3 c4:Nat} {a b a1 a2 a3 a4:Option Addr} {D:Bv} {A:C7} {t:Int} {z:ByteArray}
def Jd (w w':World) (lo hi:Nat) (v:Value) (r:(Bv×List ByteArray)×Int):Prop :=
 ∃ a' n' c' b' m' d' s' al nl cl,v = .tuple #[.agg #[.slice a' n' c',.slice b' m' d',.string s'],.slice al nl cl,.int .i64 r.2] /\
  (r.2=0->s'=r.1.1.s/\n'<=c'/\m'<=d'/\∃ hi',hi'<=w'.heap.size/\(∀ u,BY (fun k=>hi<=k/\k<w.heap.size) w' u->C8 u lo hi' a' n' b' m' r.1.1.X r.1.1.Y)/\Ad hi' al/\Ad w.heap.size al/\Bw eS w' al nl 9 r.1.2)/\BY (Iv lo hi) w w'
theorem Rb (h:GQ w lo hi a n c b m d D.X D.Y) (hhi:hi<=w.heap.size) (ho:Ap D.X m=true) (hs:D.s.size<=1048576) (hY:∀ y∈D.Y,y.length<=1048576) (hTm:∀ u,BY (Iv lo hi) w u->F7 u) (hE:EP w) (hM:Dy w) (h1:A4 eI 1 w a1 n1 A.trays) (h2:A4 eI 1 w a2 n2 A.nums) (h3:A4 AF.enc 2 w a3 n3 A.fields) (h4:A4 eS 1 w a4 n4 A.texts) (hA:Fv A) (hb:∀ t∈A.trays,0<=t/\t<=5)  :
  Dq 35 [.agg #[.slice a n c,.slice b m d,.string D.s],.string Ha,.agg #[.slice a1 n1 c1,.slice a2 n2 c2,.slice a3 n3 c3,.slice a4 n4 c4]] w (fun v w'=>Jd w w' lo hi v (BC D Ha A)):=by
 have ah:=hTm w (Vc.BY.refl _ _);have aa:=h.desk;have x:=h.rd;have ay:=x.1.len;have ax:=x.2.len;have aj:=BA ho;have aw:=aj.1;have ai:BC D Ha A=((D,CI ((BQ D.s).1.map DG)),(BQ D.s).2.2):=by unfold BC;rw [if_pos rfl]
 rw [ai];refine oV Tryz.func35 ?_;refine AB.box ?_;intro ao a7 ar az r o;refine AB.box fun ap a8 au a0 l p=>jN (z := .agg #[.slice none 0 0,.slice none 0 0,.string { data := #[] }]) ?_;intro q al av a5 i ad;have ba:=r.size;have bb:=l.size;have bc:=i.size;have e:AD w al:=xt (xt r l) i;have ac:=o.ext (xt l i);have am:=p.ext i;clear o p;refine jA (n:=3) ac.cells rfl<|(Ts hs (ah.ext e) (hE.ext e) (hM.ext e)).mono ?_;rintro _ a9 ⟨an,a6,aq,rfl,k,ag,j⟩;refine jS (vs:=[Value.slice a n c,Value.slice b m d,Value.string D.s]) (ad.ext j) rfl rfl (by simp [AE]) fun a' g ae=>AP (jR (n:=3) rfl ae.cells) ?_;have bd:=j.size;have be:=g.but.size;refine ⟨_,_,_,_,_,_,_,_,_,_,rfl,fun _=>⟨rfl,aa.1,aa.2.1,hi,om,fun u af=>(((h.ext (xt e j)).but g.but om).desk.2.2).mod af (fun ab h1 h2 h3=>by omega),k.mono om,k.mono om,?_⟩,(AD.mod (xt e j)).trans_new g.but (fun ab f=>by have f:ab=q:=f;omega)⟩;exact ag.mod g.but (fun y ak f=>by
  have f:y.block=q:=f;have:=k y ak;omega)
theorem P9 (h:GQ w lo hi a n c b m d D.X D.Y) (hhi:hi<=w.heap.size) (ho:Ap D.X m=true) (hs:D.s.size<=1048576) (hY:∀ y∈D.Y,y.length<=1048576) (hTm:∀ u,BY (Iv lo hi) w u->F7 u) (hE:EP w) (hM:Dy w) (h1:A4 eI 1 w a1 n1 A.trays) (h2:A4 eI 1 w a2 n2 A.nums) (h3:A4 AF.enc 2 w a3 n3 A.fields) (h4:A4 eS 1 w a4 n4 A.texts) (hA:Fv A) (hb:∀ t∈A.trays,0<=t/\t<=5) (ht:A.trays[0]? = some t) (hz:A.texts[0]? = some z) :
  Dq 35 [.agg #[.slice a n c,.slice b m d,.string D.s],.string CP,.agg #[.slice a1 n1 c1,.slice a2 n2 c2,.slice a3 n3 c3,.slice a4 n4 c4]] w (fun v w'=>Jd w w' lo hi v (BC D CP A)):=by
 have be:=hTm w (Vc.BY.refl _ _);have ag:=h.desk;have af:=h.rd;have bg:=af.1.len;have aq:=af.2.len;have ar:=BA ho;have bd:=ar.1;have a0:=hb t (List.mem_of_getElem? ht);have ah:BC D CP A=if CG z≠0 then ((D,[]),CG z) else if Ap (CU D.X t z) D.Y.length=false then ((D,[]),6) else (({ D with X:=CU D.X t z },[C6 (At (CU D.X t z))]),0):=by
  unfold BC CU;rw [if_neg dE,if_pos rfl,Ae ht,Ae hz]
 have ai:(BC D CP A).2=KF D.X m t z:=by
  rw [ah];unfold KF;rw [aq];split
  .rfl
  .split<;>rfl
 have aj:(BC D CP A).2=0->(BC D CP A).1=({ D with X:=CU D.X t z },[C6 (At (CU D.X t z))]):=by
  rw [ah];split
  .rename_i aw;intro g;exact absurd g aw
  .split
   .intro g;cases g
   .intro _;rfl
 generalize BC D CP A=az at *;obtain ⟨bo,bp⟩:=az;dsimp only at ai aj;subst ai;refine oV Tryz.func35 ?_;refine AB.box ?_;intro a7 bq ba bh ad aa;refine AB.box fun a8 br bb bi q ab=>jN (z := .agg #[.slice none 0 0,.slice none 0 0,.string { data := #[] }]) ?_;intro p a5 bc bj j al;have bv:=ad.size;have bw:=q.size;have bx:=j.size;have f:AD w a5:=xt (xt ad q) j;have ak:=aa.ext (xt q j);have ac:=ab.ext j;clear aa ab;refine jL ac.cells (k:=0) rfl<|jI (h1.ext f) 0 rfl ht fun a9 bl bf ao=>jO ao rfl<|jA (n:=3) ak.cells rfl<|jA (n:=4) ac.cells rfl<|(Tu (h.ext f) om ho (fun u au=>hTm u ((AD.mod f).trans au)) (h1.ext f) (h4.ext f) ht hz a0 (hA.x z (List.mem_of_getElem? hz))).mono ?_;rintro _ bt ⟨a6,bk,a',rfl,ay,o⟩;have bz:=o.size;refine jS (vs:=[Value.slice a n c,Value.slice b m d,Value.string D.s]) (al.mod o (fun e=>by have:=e.2;omega)) rfl rfl (by simp [AE]) fun bu i am=>AP (jR (n:=3) rfl am.cells) ?_;have b0:=i.but.size;refine ⟨_,_,_,_,_,_,_,_,_,_,rfl,fun ae=>?_,((AD.mod f).trans o).trans_new i.but (fun l e=>by have e:l=p:=e;omega)⟩;obtain ⟨ap,bm,bn,g,r,ax⟩:=ay ae;rw [aj ae];refine ⟨rfl,ag.1,ag.2.1,ap,om,fun u an=>g _ ((i.but.mono fun l e=>by have e:l=p:=e;omega).trans (an.mono fun l e=>by omega)),r,r.mono om,?_⟩;exact ax.mod i.but (fun y av e=>by
  have e:y.block=p:=e;have:=r y av;omega)
theorem P8 (h:GQ w lo hi a n c b m d D.X D.Y) (hhi:hi<=w.heap.size) (ho:Ap D.X m=true) (hs:D.s.size<=1048576) (hY:∀ y∈D.Y,y.length<=1048576) (hTm:∀ u,BY (Iv lo hi) w u->F7 u) (hE:EP w) (hM:Dy w) (h1:A4 eI 1 w a1 n1 A.trays) (h2:A4 eI 1 w a2 n2 A.nums) (h3:A4 AF.enc 2 w a3 n3 A.fields) (h4:A4 eS 1 w a4 n4 A.texts) (hA:Fv A) (hb:∀ t∈A.trays,0<=t/\t<=5) {k:Int} (ht:A.trays[0]? = some t) (hk:A.nums[0]? = some k) (hz:A.texts[0]? = some z) :
  Dq 35 [.agg #[.slice a n c,.slice b m d,.string D.s],.string Dz,.agg #[.slice a1 n1 c1,.slice a2 n2 c2,.slice a3 n3 c3,.slice a4 n4 c4]] w (fun v w'=>Jd w w' lo hi v (BC D Dz A)):=by
 have an:=hTm w (Vc.BY.refl _ _);have ae:=h.desk;have l:=h.rd;have bf:=l.1.len;have be:=l.2.len;have ai:=BA ho;have bc:=ai.1;have ay:=hb t (List.mem_of_getElem? ht);have af:BC D Dz A=if (A3 D.s ⟨t,(D.X.getD t.toNat []).length,k,z⟩).2≠0 then ((D,[]),(A3 D.s ⟨t,(D.X.getD t.toNat []).length,k,z⟩).2) else (({ D with s:=(A3 D.s ⟨t,(D.X.getD t.toNat []).length,k,z⟩).1 },[BP (D1 (A3 D.s ⟨t,(D.X.getD t.toNat []).length,k,z⟩).1).1]),(D1 (A3 D.s ⟨t,(D.X.getD t.toNat []).length,k,z⟩).1).2):=by
  unfold BC;rw [if_neg dE,if_neg dE,if_neg dE,if_neg dE,if_pos rfl,Ae ht,Ae hk,Ae hz]
 have ag:(BC D Dz A).2=J0 D.s ⟨t,(D.X.getD t.toNat []).length,k,z⟩:=by
  rw [af];unfold J0;split<;>rfl
 have ah:(BC D Dz A).2=0->(BC D Dz A).1=({ D with s:=(A3 D.s ⟨t,(D.X.getD t.toNat []).length,k,z⟩).1 },[BP (D1 (A3 D.s ⟨t,(D.X.getD t.toNat []).length,k,z⟩).1).1]):=by
  rw [af];split
  .rename_i ar;intro o;exact absurd o ar
  .intro _;rfl
 generalize BC D Dz A=aw at *;obtain ⟨bl,bm⟩:=aw;dsimp only at ag ah;subst ag;refine oV Tryz.func35 ?_;refine AB.box ?_;intro a6 bn a' bg ac q;refine AB.box fun a7 bo ba bh j r=>jN (z := .agg #[.slice none 0 0,.slice none 0 0,.string { data := #[] }]) ?_;intro ab az bb bi g ak;have br:=ac.size;have bt:=j.size;have bu:=g.size;have e:AD w az:=xt (xt ac j) g;have aj:=q.ext (xt j g);have aa:=r.ext g;clear q r;refine jL aa.cells (k:=0) rfl<|jI (h1.ext e) 0 rfl ht fun a8 bk bd ao=>jO ao rfl<|jA (n:=3) aj.cells rfl<|jA (n:=4) aa.cells rfl<|(Tt (l.1.ext e) om (fun a0 ap=>by have:=(ai.2.2 a0 ap).1;omega) hs (an.ext e) (hE.ext e) (hM.ext e) (h1.ext e) (h2.ext e) (h4.ext e) ht hk hz ay (hA.n k (List.mem_of_getElem? hk)) (hA.x z (List.mem_of_getElem? hz))).mono ?_;rintro _ bp ⟨ax,a5,bj,a9,rfl,av,i⟩;have bv:=i.size;refine jS (vs:=[Value.slice a n c,Value.slice b m d,Value.string ax]) (ak.ext i) rfl rfl (by simp [AE]) fun bq f al=>AP (jR (n:=3) rfl al.cells) ?_;have bw:=f.but.size;refine ⟨_,_,_,_,_,_,_,_,_,_,rfl,fun ad=>?_,(AD.mod (xt e i)).trans_new f.but (fun k hk=>by have hk:k=ab:=hk;omega)⟩;obtain ⟨o,p,au⟩:=av ad;rw [ah ad];refine ⟨o,ae.1,ae.2.1,hi,om,fun u am=>(((h.ext (xt e i)).but f.but om).desk.2.2).mod am (fun k h1 h2 h3=>by omega),p.mono om,p.mono om,?_⟩;exact au.mod f.but (fun y aq hk=>by
  have hk:y.block=ab:=hk;have:=p y aq;omega)
theorem P7 (h:GQ w lo hi a n c b m d D.X D.Y) (hhi:hi<=w.heap.size) (ho:Ap D.X m=true) (hs:D.s.size<=1048576) (hY:∀ y∈D.Y,y.length<=1048576) (hTm:∀ u,BY (Iv lo hi) w u->F7 u) (hE:EP w) (hM:Dy w) (h1:A4 eI 1 w a1 n1 A.trays) (h2:A4 eI 1 w a2 n2 A.nums) (h3:A4 AF.enc 2 w a3 n3 A.fields) (h4:A4 eS 1 w a4 n4 A.texts) (hA:Fv A) (hb:∀ t∈A.trays,0<=t/\t<=5) (ht:A.trays[0]? = some t) :
  Dq 35 [.agg #[.slice a n c,.slice b m d,.string D.s],.string Cb,.agg #[.slice a1 n1 c1,.slice a2 n2 c2,.slice a3 n3 c3,.slice a4 n4 c4]] w (fun v w'=>Jd w w' lo hi v (BC D Cb A)):=by
 have a8:=hTm w (Vc.BY.refl _ _);have ap:=h.desk;have x:=h.rd;have bz:=x.1.len;have bx:=x.2.len;have av:=BA ho;have bt:=av.1;have b9:=hb t (List.mem_of_getElem? ht);obtain ⟨bc,ao,a7⟩:=x.1;have bw:=ao.len;obtain ⟨ab,aw⟩:=AA (l:=bc) (k:=t.toNat) om;obtain ⟨e,ax,ah⟩:=a7.get aw;have bb:D.X.getD t.toNat []=e:=Ae ax;have b1:=ah.1.len;have b0:=(av.2.2 e (List.mem_of_getElem? ax)).1;have aq:BC D Cb A=(match e.find? (fun c=>decide (BG c≠0)) with | some c=>((D,[]),BG c) | none=>((D,CI (e.map fun c=>Cd (CK c))),0)):=by
  unfold BC;rw [if_neg dE,if_neg dE,if_neg dE,if_pos rfl,Ae ht,bb];cases e.find? (fun c=>decide (BG c≠0))<;>rfl
 have ar:(BC D Cb A).2=(match e.find? (fun c=>decide (BG c≠0)) with | some c=>BG c | none=>0):=by
  rw [aq];split<;>rfl
 have au:(BC D Cb A).2=0->(BC D Cb A).1=(D,CI (e.map fun c=>Cd (CK c))):=by
  rw [aq];split
  .rename_i bo ba;intro bf;have:=List.find?_some ba;simp only [decide_eq_true_eq] at this;exact absurd bf this
  .intro _;rfl
 have an:∀ u,AD w u->Dq 77 [.agg #[.slice a n c,.slice b m d,.string D.s],.slice ab.a ab.n ab.c] u (fun v w'=>∃ j aa aj,v = .tuple #[.agg #[.slice a n c,.slice b m d,.string D.s],.slice j aa aj,.int .i64 (BC D Cb A).2]/\((BC D Cb A).2=0->Ad u.heap.size j/\Bw eS w' j aa 9 (CI (e.map fun c=>Cd (CK c))))/\AD u w'):=fun u ak=>by
  rw [ar];exact P0 (ah.1.ext ak) om (a8.ext ak)
 generalize BC D Cb A=bh at *;obtain ⟨b7,b8⟩:=bh;dsimp only at ar au an;refine oV Tryz.func35 ?_;refine AB.box ?_;intro bk ca bp b2 al ad;refine AB.box fun bl cb bq b3 r af=>jN (z := .agg #[.slice none 0 0,.slice none 0 0,.string { data := #[] }]) ?_;intro ai bj br b4 q a5;have cf:=al.size;have cg:=r.size;have ch:=q.size;have i:AD w bj:=xt (xt al r) q;have ae:=ad.ext (xt r q);have a0:=af.ext q;clear ad af;refine jL a0.cells (k:=0) rfl<|jI (h1.ext i) 0 rfl ht fun bm b5 bu a9=>jO a9 rfl<|Av A8 mixed (pZ [5,10,20,1,16,25,31,37,40,45,50,58,60,65]) kR kR fun cc f=>dA (n:=3) ae.cells rfl<|dL ae.cells (k:=0) rfl<|pI (ao.ext i) t.toNat om aw fun bn b6 bv a'=>dO a' rfl<|(an _ (xt i f)).mono ?_;rintro _ bi ⟨j,aa,aj,rfl,be,p⟩;refine ⟨xt f p,?_⟩;have ci:=f.size;have cd:=p.size;refine jS (vs:=[Value.slice a n c,Value.slice b m d,Value.string D.s]) (a5.ext (xt f p)) rfl rfl (by simp [AE]) fun b' o az=>AP (jR (n:=3) rfl az.cells) ?_;have ce:=o.but.size;have ag:AD w bi:=xt (xt i f) p;refine ⟨_,_,_,_,_,_,_,_,_,_,rfl,fun am=>?_,(AD.mod ag).trans_new o.but (fun ay g=>by have g:ay=ai:=g;omega)⟩;obtain ⟨ac,bg⟩:=be am;rw [au am];refine ⟨rfl,ap.1,ap.2.1,hi,om,fun u a6=>(((h.ext ag).but o.but om).desk.2.2).mod a6 (fun ay h1 h2 h3=>by omega),ac.mono om,ac.mono om,?_⟩;exact bg.mod o.but (fun y bd g=>by
  have g:y.block=ai:=g;have:=ac y bd;omega)
end Go.Proofs.YtalgenmoljcnmaaGreatDoor
namespace Go.Proofs.YtalgenmoljcnmaaGreatDoor
open Go Go.RowKit Go.Vc Go.M
variable {w:World} {lo hi n c m d n1 n2 n3 n4 c1 c2 c3 c4:Nat} {a b a1 a2 a3 a4:Option Addr} {D:Bv} {A:C7} {t:Int}
theorem Oe (h:GQ w lo hi a n c b m d D.X D.Y) (hhi:hi<=w.heap.size) (ho:Ap D.X m=true) (hs:D.s.size<=1048576) (hY:∀ y∈D.Y,y.length<=1048576) (hTm:∀ u,BY (Iv lo hi) w u->F7 u) (hE:EP w) (hM:Dy w) (h1:A4 eI 1 w a1 n1 A.trays) (h2:A4 eI 1 w a2 n2 A.nums) (h3:A4 AF.enc 2 w a3 n3 A.fields) (h4:A4 eS 1 w a4 n4 A.texts) (hA:Fv A) (hb:∀ t∈A.trays,0<=t/\t<=5) (ht:A.trays[0]? = some t) :
  Dq 35 [.agg #[.slice a n c,.slice b m d,.string D.s],.string CH,.agg #[.slice a1 n1 c1,.slice a2 n2 c2,.slice a3 n3 c3,.slice a4 n4 c4]] w (fun v w'=>Jd w w' lo hi v (BC D CH A)):=by
 have cy:=hTm w (Vc.BY.refl _ _);have bm:=h.desk;have bl:=h.rd;have c7:=bl.1.len;have c6:=bl.2.len;have cb:=BA ho;have cx:=cb.1;have df:=hb t (List.mem_of_getElem? ht);have am:BC D CH A=(({ D with X:=D.X.set t.toNat [] },[C6 (At (D.X.set t.toNat []))]),0):=by
  unfold BC;rw [if_neg dE,if_neg dE,if_pos rfl,Ae ht]
 rw [am];have ca:Ap (D.X.set t.toNat []) m=true:=JA ho sI sI;have bo:=BA ca;refine oV Tryz.func35 ?_;refine AB.box ?_;intro au dg ct c9 bj a';refine AB.box fun cp dh cu c' aw bc=>jN (z := .agg #[.slice none 0 0,.slice none 0 0,.string { data := #[] }]) ?_;intro j bt cv da al bw;have dm:=bj.size;have dn:=aw.size;have dp:=al.size;have ai:AD w bt:=xt (xt bj aw) al;have ba:=a'.ext (xt aw al);have bv:=bc.ext al;clear a' bc;refine jL bv.cells (k:=0) rfl<|jI (h1.ext ai) 0 rfl ht fun cq dd cz b5=>jO b5 rfl ?_;(conv=>whnf);obtain ⟨ax,az,bz,bf,a0⟩:=h;obtain ⟨ch,ci,bq⟩:=List.nodup_append.1 a0.1;have b1:EO (OG A0 144) bt a n 78 D.X ax:=(bz.ext ai).own;obtain ⟨di,ce⟩:=AA (l:=D.X) (k:=t.toNat) om;obtain ⟨i,cr,cs,b6,a6,cn,co,dc,c0,c8,cd⟩:=b1.hand ch ce;subst b6;have af:∀ e∈ax,lo<=e/\e<hi:=fun e f=>a0.2 e (List.mem_append_left _ f);refine jL ba.cells (k:=0) rfl<|bS Bm (vs:=[]) ?_;intro aj cm cw db ab bx;have dq:=ab.size;refine jW (sz:=1) t.toNat om om ?_;refine cd _ _ cm ⟨some ⟨aj,0,none⟩,0,0⟩ [] [aj] kR (AD.mod ab) ⟨0,Eu bx (Nat.zero_le _)⟩ sI (fun e f=>.inr fun b7=>by
  have f:e=aj:=by simpa using f
  have:=af e b7;omega) _ ?_
 intro o bk ae ar cg cj;have dj:=ae.but.size;have c5:=af i a6;have bh:BY (Iv lo hi) w o:=(AD.mod (xt ai ab)).trans (ae.but.mono fun e f=>by have f:e=i:=f;subst f;exact af e a6);have bu:=(ba.ext ab).mod ae.but (fun h=>by have h:au=i:=h;omega);have bb:=(bw.ext ab).mod ae.but (fun h=>by have h:j=i:=h;omega);have b3:F7 o:=hTm o bh;have b2:∀ u,AD o u->Dq 76 [.agg #[.slice (some ⟨i,0,none⟩) n c,.slice b m d]] u (fun v w'=>v = .string (C6 (At (D.X.set t.toNat [])))/\AD u w'):=fun u ak=>IU (ar.arr.ext ak) bo.1 (fun ah a9=>(bo.2.2 ah a9).1) (b3.ext ak);have b8:=bf.lt;have a8:∀ e∈az,lo<=e/\e<hi:=fun e f=>a0.2 e (List.mem_append_right _ f);have bg:EO G4 o b m 161 D.Y az:=bf.own.keep fun e f=>by
  have h1:=b8 e f;rw [ae.block e (fun h=>bq i a6 e f h.symm),(xt ai ab).block e h1]
 have a7:∀ e∈bk,(e∈ax\/w.heap.size<=e)/\lo<=e/\e≠j:=fun e f=>by
  rcases cj e f with h | h
  .have:=af e h;exact ⟨.inl h,this.1,om⟩
  .have h:e=aj:=by simpa using h
   exact ⟨.inr om,om,om⟩
 have bn:=ar.lt;have b9:=bg.lt;generalize C6 (At (D.X.set t.toNat []))=ac at *;have be:∀ (r:World) (g:Nat),BY (fun e=>e=j) o r->o.heap.size<=g->Bw eS r (some ⟨g,0,none⟩) 1 9 [ac]->Jd w r lo hi (.tuple #[.agg #[.slice (some ⟨i,0,none⟩) n c,.slice b m d,.string D.s],.slice (some ⟨g,0,none⟩) 1 1,.int .i64 0]) (({ D with X:=D.X.set t.toNat [] },[ac]),0):=by
  intro r g x b4 b0;refine ⟨_,_,_,_,_,_,_,_,_,_,rfl,fun _=>⟨rfl,bm.1,bm.2.1,o.heap.size,x.size,fun u bi=>⟨78,161,bk,az,(ar.keep fun e f=>by
   have h1:=a7 e f;have h2:=bn e f;have h3:=x.size;rw [bi.block e (fun b'=>by rcases h1.1 with h4 | h4;have:=af e h4;omega;omega) om,x.block e h1.2.2 h2]).imp (fun _ _ _ h=>OG.os h),bg.keep fun e f=>by
   have h1:=a8 e f;have h2:=b9 e f;have h3:=x.size;rw [bi.block e (fun b'=>by omega) om,x.block e om h2],List.nodup_append.2 ⟨cg,ci,fun an cc de bp ak=>?_⟩,fun e f=>?_⟩,?_,?_,b0⟩,Cv bh x (fun e f=>.inr om)⟩
  .subst ak;have h1:=a8 an bp;rcases (a7 an cc).1 with h | h
   .exact bq an h an bp rfl
   .omega
  .rcases List.mem_append.1 f with f | f
   .exact ⟨(a7 e f).2.1,bn e f⟩
   .have:=a8 e f;omega
  .intro y ag;cases ag
   exact b4
  .intro y ag;cases ag
   show w.heap.size<=g;omega
 refine Dn [] A8 mixed (some ⟨j,0,none⟩) (.seq (pZ [5,1,11,17]) (.alt 4 (.seq (pZ [27,30,35]) .done) 5 (.seq (pZ [22,30,35]) .done))) kR kR ?_;intro ck av;have bd:∀ w',Sr (some ⟨j,0,none⟩) ck w'->AK w' au 0 [.slice (some ⟨i,0,none⟩) n c,.slice b m d,.string D.s]:=Sr.cells (bu.ext av).cells (by rintro ⟨ah,a9,am⟩;cases a9;have am:au=j:=am;omega);have a5:∀ {ah y:World},But j ah y->BY (AN (some (⟨j,0,none⟩:Addr))) ah y:=fun h=>h.mono fun e f=>⟨_,rfl,f⟩;refine Ba (n:=3) kR bd rfl<|Fj (n:=2) kR (k:=0) bd rfl<|dM (b2 _ av) fun cl aa=>⟨AU aa,?_⟩;have ad:AD o cl:=xt av aa;have dk:=ad.size;refine DX.mk ?_ ?_
 .refine bS BI (vs:=[Value.string ac]) ?_;intro g br ay cf q ao;have aq:=AG (n:=1) (enc:=eS) (xs:=[ac]) AQ ao ay rfl dE;refine ⟨AU (xt aa q),AW (vs:=[Value.slice (some ⟨i,0,none⟩) n c,Value.slice b m d,Value.string D.s]) kR (bb.ext (xt ad q)) rfl rfl (by simp [AE]) fun r p ap=>⟨(AU (xt aa q)).trans (a5 p.but),AP (jR (n:=3) rfl ap.cells) ?_⟩⟩;exact be r g ((AD.mod (xt ad q)).trans p.but) om (aq.mod p.but (fun y ag h=>by
   cases ag
   have h:g=j:=h;omega)).own
 .refine AW (vs:=[Value.slice (some ⟨i,0,none⟩) n c,Value.slice b m d,Value.string D.s]) kR (bb.ext ad) rfl rfl (by simp [AE]) fun r p ap=>⟨(AU aa).trans (a5 p.but),bS BI (vs:=[Value.string ac]) ?_⟩;intro g br ay cf q ao;have aq:=AG (n:=1) (enc:=eS) (xs:=[ac]) AQ ao ay rfl dE;refine ⟨((AU aa).trans (a5 p.but)).trans (AD.mod q),AP (jR (n:=3) rfl (ap.ext q).cells) ?_⟩;have dl:=p.but.size;exact be br g (((AD.mod ad).trans p.but).trans (AD.mod q)) om aq.own
theorem NT (h:GQ w lo hi a n c b m d D.X D.Y) (hhi:hi<=w.heap.size) (ho:Ap D.X m=true) (hs:D.s.size<=1048576) (hY:∀ y∈D.Y,y.length<=1048576) (hTm:∀ u,BY (Iv lo hi) w u->F7 u) (hE:EP w) (hM:Dy w) (h1:A4 eI 1 w a1 n1 A.trays) (h2:A4 eI 1 w a2 n2 A.nums) (h3:A4 AF.enc 2 w a3 n3 A.fields) (h4:A4 eS 1 w a4 n4 A.texts) (hA:Fv A) (hb:∀ t∈A.trays,0<=t/\t<=5) {f:AF} (ht:A.trays[0]? = some t) (hf:A.fields[0]? = some f) :
  Dq 35 [.agg #[.slice a n c,.slice b m d,.string D.s],.string Cm,.agg #[.slice a1 n1 c1,.slice a2 n2 c2,.slice a3 n3 c3,.slice a4 n4 c4]] w (fun v w'=>Jd w w' lo hi v (BC D Cm A)):=by
 have bq:=hTm w (Vc.BY.refl _ _);have bb:=h.desk;have an:=h.rd;have cj:=an.1.len;have ci:=an.2.len;have bd:=BA ho;have cc:=bd.1;have ct:=hb t (List.mem_of_getElem? ht);obtain ⟨bx,ba,bo⟩:=an.1;have ch:=ba.len;obtain ⟨aq,bf⟩:=AA (l:=bx) (k:=t.toNat) om;obtain ⟨p,bg,a7⟩:=bo.get bf;have bw:D.X.getD t.toNat []=p:=Ae bg;have cl:=a7.1.len;have ck:=(bd.2.2 p (List.mem_of_getElem? bg)).1;have bv:BC D Cm A=((D,[EN (Dh 32 ((Fq p f).1.map Bb))]),(Fq p f).2):=by
  unfold BC;rw [if_neg dE,if_neg dE,if_neg dE,if_neg dE,if_neg dE,if_pos rfl,Ae ht,Ae hf,bw]
 rw [bv];have bc:=T3 (d:=p) (f:=f);have bp:∀ u,AD w u->Dq 79 [.slice aq.a aq.n aq.c,.agg ⟨f.enc⟩] u (fun v w'=>∃ a8 m bm,v = .tuple #[.slice a8 m bm,.int .i64 (Fq p f).2]/\A4 Ag.enc 2 w' a8 m (Fq p f).1/\AD u w'):=fun u bn=>MR (a7.1.ext bn) (hA.f f (List.mem_of_getElem? hf));generalize Fq p f=b0 at *;obtain ⟨bk,a9⟩:=b0;dsimp only at *;refine oV Tryz.func35 ?_;refine AB.box ?_;intro b5 cu b' cm a' au;refine AB.box fun b6 cv ca cn am ax=>jN (z := .agg #[.slice none 0 0,.slice none 0 0,.string { data := #[] }]) ?_;intro al b2 cb co ag bj;have c5:=a'.size;have c6:=am.size;have c7:=ag.size;have ab:AD w b2:=xt (xt a' am) ag;have av:=au.ext (xt am ag);have ay:=ax.ext ag;clear au ax;refine jL ay.cells (k:=0) rfl<|jI (h1.ext ab) 0 rfl ht fun b7 cr cf bt=>jO bt rfl<|Av A8 mixed (pZ [0,5,15,30,11,20,26,36,40,46,52,55,60,65,70,75]) kR kR fun cw aa=>dL av.cells (k:=0) rfl<|pI (ba.ext ab) t.toNat om bf fun b8 cs cg bu=>dO bu rfl<|dL ay.cells (k:=2) rfl<|pI (h3.ext ab) 0 rfl hf fun b4 cq ce br=>dA (n:=2) br rfl<|(bp _ (xt ab aa)).mono ?_;rintro _ b1 ⟨b3,cp,b9,rfl,ar,ad⟩;refine ⟨xt aa ad,?_⟩;have a0:AD w b1:=xt (xt ab aa) ad;have cd:=ar.len;refine dM (Rh ar om (fun bi be=>⟨by have:=bc.2 bi be;exact ⟨om,om⟩,(bc.2 bi be).2.2⟩) (bq.ext a0)) fun ai af=>?_;generalize Dh 32 (bk.map Bb)=i at *;(conv=>whnf);have c8:=aa.size;have cx:=ad.size;have cy:=af.size;have a5:AD w ai:=xt a0 af;have aw:=av.ext (xt (xt aa ad) af);have az:=bj.ext (xt (xt aa ad) af);have a6:∀ (y:ByteArray) (o:World) (e:Nat) (g:AD ai o) (q:ai.heap.size<=e) (x:World) (j:OW al o x),y=EN i->Ai eS 1 ai.heap.size 9 o (some ⟨e,0,none⟩) 1 1 [y]->Jd w x lo hi (.tuple #[.agg #[.slice a n c,.slice b m d,.string D.s],.slice (some ⟨e,0,none⟩) 1 1,.int .i64 a9]) ((D,[EN i]),a9):=by
  intro y o e g q x j r ac;subst r;have cz:=g.size;have c0:=j.but.size;exact ⟨_,_,_,_,_,_,_,_,_,_,rfl,fun _=>⟨rfl,bb.1,bb.2.1,hi,om,fun u bl=>(((h.ext (xt a5 g)).but j.but om).desk.2.2).mod bl (fun bh h1 h2 h3=>by omega),(fun y r=>by cases r;show hi<=e;omega),(fun y r=>by cases r;show w.heap.size<=e;omega),(ac.mod j.but (fun y r ae=>by cases r;have ae:e=al:=ae;omega)).own⟩,(AD.mod (xt a5 g)).trans_new j.but (fun bh ae=>by have ae:bh=al:=ae;omega)⟩
 by_cases ah:i.size=0
 .have ap:i=⟨#[]⟩:=by
   apply ByteArray.ext;exact Array.eq_empty_of_size_eq_zero ah
  have ao:EN i=bs [45]:=by unfold EN;rw [if_pos ah]
  refine ET (by simp [ap])<|jA (n:=3) aw.cells rfl<|bS BI (vs:=[Value.string (bs [45])]) ?_;intro e o q bz g aj;have ac:=AG (n:=1) (enc:=eS) (xs:=[bs [45]]) AQ aj q rfl dE;exact jS (vs:=[Value.slice a n c,Value.slice b m d,Value.string D.s]) (az.ext g) rfl rfl (by simp [AE]) fun x j ak=>AP (jR (n:=3) rfl ak.cells)<|a6 _ o e g q x j ao.symm ac
 .have ap:¬ i=⟨#[]⟩:=fun h=>ah (by rw [h];rfl);have ao:EN i=i:=by unfold EN;rw [if_neg ah]
  refine E3 (by simp [ap])<|jA (n:=3) aw.cells rfl<|bS BI (vs:=[Value.string i]) ?_;intro e o q bz g aj;have ac:=AG (n:=1) (enc:=eS) (xs:=[i]) AQ aj q rfl dE;exact jS (vs:=[Value.slice a n c,Value.slice b m d,Value.string D.s]) (az.ext g) rfl rfl (by simp [AE]) fun x j ak=>AP (jR (n:=3) rfl ak.cells)<|a6 _ o e g q x j ao.symm ac
end Go.Proofs.YtalgenmoljcnmaaGreatDoor
