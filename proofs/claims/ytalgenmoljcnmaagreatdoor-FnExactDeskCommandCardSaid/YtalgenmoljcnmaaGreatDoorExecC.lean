/- Parts of the proof; no conditions of its own. -/
import Derived.Test.YtalgenmoljcnmaaGreatDoorExec
namespace Go.M
open Go Go.Vc
structure Rk (word:ByteArray) (A:DF) (t0 tl t1:Int) (f0 f1:AE) (z:ByteArray):Prop where
 a0:A.trays[0]? = some t0
 al:A.trays[A.trays.length - 1]? = some tl
 f0:A.fields[0]? = some f0
 two:Gi (Df word)=true->A.trays[1]? = some t1
 tot:word=BM->A.fields[1]? = some f1
 sel:word=B1->A.texts[0]? = some z
theorem aC5 {word:ByteArray} {A:DF} {t0 tl t1:Int} {f0 f1:AE} {z:ByteArray} (h:Rk word A t0 tl t1 f0 f1 z):Bb word A={ kind:=Df word,a:=t0,b:=if Gi (Df word)=true then t1 else 0,dst:=if word=BM then 0 else tl,field:=f0,sum:=if word=BM then f1 else ⟨0,0⟩,text:=if word=B1 then z else ⟨#[]⟩ }:=by
 unfold Bb;rw [Af h.a0,Af h.f0,Af h.al];congr 1
 .by_cases c:Gi (Df word)=true
  .rw [if_pos c,if_pos c,Af (h.two c)]
  .rw [if_neg c,if_neg c]
 .by_cases c:word=BM
  .rw [if_pos c,if_pos c,Af (h.tot c)]
  .rw [if_neg c,if_neg c]
 .by_cases c:word=B1
  .rw [if_pos c,if_pos c,Af (h.sel c)]
  .rw [if_neg c,if_neg c]
end Go.M
namespace Go.Proofs.YtalgenmoljcnmaaGreatDoor
open Go Go.RowKit Go.Vc Go.M
set_option maxHeartbeats 4000000 in
theorem WE {word:ByteArray} (hst:word=Dr\/word=C5\/word=DJ\/word=DV\/word=EY\/word=B1\/word=BM) {w:World} {A:DF} {a1 a2 a3 a4:Option Addr} {n1 n2 n3 n4 c1 c2 c3 c4:Nat} (h1:A4 eI 1 w a1 n1 A.trays) (h3:A4 AE.enc 2 w a3 n3 A.fields) (h4:A4 eS 1 w a4 n4 A.texts) (hn4:n1<=4) {t0 tl t1:Int} {f0 f1:AE} {z:ByteArray} (hA:Rk word A t0 tl t1 f0 f1 z) :
  Dq 153 [.string word,.agg #[.slice a1 n1 c1,.slice a2 n2 c2,.slice a3 n3 c3,.slice a4 n4 c4]] w (fun v w'=>v = .agg ⟨(Bb word A).enc⟩/\AD w w'):=by
 have bj:=h1.len;have y:=aC5 hA;obtain ⟨a6,a7,bl,av,an,am⟩:=hA;have b0:=(List.getElem?_eq_some_iff.1 a6).1;rw [y];clear y;rw [bj] at a7;rcases hst with rfl | rfl | rfl | rfl | rfl | rfl | rfl
 all_goals
  refine oV Tryz.func153 ?_;refine AB.box ?_;intro ah b8 bu b2 r h;refine jN (z := .agg #[.int .i64 0,.int .i64 0,.int .i64 0,.int .i64 0,.int .i64 0,.int .i64 0,.int .i64 0,.int .i64 0,.string { data := #[] }]) ?_;intro i ao bv b3 c ad;refine Au A7 mixed (pZ [0,20,30,60,6,10,16,26,36,41,45,50,56,66,70,76,81,87,93]) kR kR ?_;intro b9 ai;refine dL (h.ext c).cells (k:=0) rfl ?_;refine pI (h1.ext (xt r c)) 0 rfl a6 ?_;intro br b6 bz bi;refine dL bi (k:=0) rfl ?_;refine dL (h.ext c).cells (k:=0) rfl ?_;refine dL (h.ext c).cells (k:=0) rfl ?_;refine DT.sub ((n1:Int) - 1) rfl om om ?_;refine pI (h1.ext (xt r c)) (n1 - 1) om a7 ?_;intro bp b4 bw bg;refine dL bg (k:=0) rfl ?_;refine dL (h.ext c).cells (k:=2) rfl ?_;refine pI (h3.ext (xt r c)) 0 rfl bl ?_;intro bq b5 bx bh;refine dA (n:=2) bh rfl ?_;refine BQ.build aG8 rfl ?_;refine jN (z := .agg #[.int .i64 0,.int .i64 0,.int .i64 0,.int .i64 0,.int .i64 0,.int .i64 0,.int .i64 0,.int .i64 0,.string { data := #[] }]) ?_;intro b b7 bt b1 a0 a';refine ⟨xt ai a0,?_⟩;refine jS (vs:=[.int .i64 0,.int .i64 t0,.int .i64 0,.int .i64 tl,.int .i64 f0.from_,.int .i64 f0.to_,.int .i64 0,.int .i64 0,.string { data := #[] }]) a' rfl rfl cE ?_;intro a8 bf ab;have d:AD ao a8:=xb (xt ai a0) bf.but (by have:=ai.size;omega);(conv=>whnf);have ca:=r.size;have cb:=c.size;have cc:=ai.size;have b':=d.size;have af:AD w a8:=xt (xt r c) d;have al:∀ t,t<ao.heap.size->¬ AL (some (⟨b,0,none⟩:Addr)) t:=fun t ak a=>by
   obtain ⟨l,bk,y⟩:=a;cases bk
   have y:t=b:=y;omega
 iterate 2
  focus
   refine jT ab (k:=0) (Nat.le_of_ble_eq_true rfl) rfl ?_;intro s p u;have ae:AD w s:=xb (xt (xt r c) d) p.but om;have ay:=((h.ext c).ext d).mod p.but (fun a=>by have a:ah=b:=a;omega);have o:=(ad.ext d).mod p.but (fun a=>by have a:i=b:=a;omega);refine jL u.cells (k:=0) rfl ?_;refine (Fs _ _).mono ?_;rintro _ _ ⟨rfl,rfl⟩;refine jA (n:=9) u.cells rfl ?_;refine jS (vs:=[.int .i64 _,.int .i64 t0,.int .i64 0,.int .i64 tl,.int .i64 f0.from_,.int .i64 f0.to_,.int .i64 0,.int .i64 0,.string { data := #[] }]) o rfl rfl cE ?_;intro aw q m;refine AO (jR (n:=9) rfl m.cells) ?_;exact ⟨rfl,xb ae q.but om⟩
 iterate 3
  focus
   have av:=av rfl;refine jT ab (k:=0) (Nat.le_of_ble_eq_true rfl) rfl ?_;intro s p u;have ae:AD w s:=xb (xt (xt r c) d) p.but om;have ay:=((h.ext c).ext d).mod p.but (fun a=>by have a:ah=b:=a;omega);have o:=(ad.ext d).mod p.but (fun a=>by have a:i=b:=a;omega);refine jL u.cells (k:=0) rfl ?_;refine (Fs _ _).mono ?_;rintro _ _ ⟨rfl,rfl⟩;refine jL ay.cells (k:=0) rfl ?_;refine jI (h1.ext ae) 1 rfl av ?_;intro ag a5 aj x;refine jL x (k:=0) rfl ?_;refine jT u (k:=2) (Nat.le_of_ble_eq_true rfl) rfl ?_;intro bm az ba;have bc:AD w bm:=xb ae az.but om;have bb:=o.mod az.but (fun a=>by have a:i=b:=a;omega);refine jA (n:=9) ba.cells rfl ?_;refine jS (vs:=[.int .i64 _,.int .i64 t0,.int .i64 t1,.int .i64 tl,.int .i64 f0.from_,.int .i64 f0.to_,.int .i64 0,.int .i64 0,.string { data := #[] }]) bb rfl rfl cE ?_;intro aw q m;refine AO (jR (n:=9) rfl m.cells) ?_;exact ⟨rfl,xb bc q.but om⟩
 focus
  have am:=am rfl;refine IJ [] A7 mixed (some ⟨b,0,none⟩) (pZ [0,20,6,10,16,27,30,37]) kR kR ?_;intro s e;have aq:∀ w',Sr (some ⟨b,0,none⟩) s w'->AK w' ah 0 [.slice a1 n1 c1,.slice a2 n2 c2,.slice a3 n3 c3,.slice a4 n4 c4]:=Sr.cells ((h.ext c).ext (xt d e)).cells (al _ om);have g:∀ {l aa:World},But b l aa->BP (AL (some (⟨b,0,none⟩:Addr))) l aa:=fun a=>a.mono fun t ak=>⟨_,rfl,ak⟩;refine Cu kR (k:=3) aq rfl ?_;refine pI (h4.ext (xt af e)) 0 rfl am ?_;intro ag a5 aj x;have au:ag<ao.heap.size:=by
   exact Nat.lt_of_lt_of_le (h4.lt (fun l=>by simp [eS]) (by have:=h4.len;have:=(List.getElem?_eq_some_iff.1 am).1;omega) _ aj) om
  refine FU kR (Sr.cells x (al _ au)) rfl ?_;refine jT (ab.ext e) (k:=0) (Nat.le_of_ble_eq_true rfl) rfl ?_;intro bn f ap;refine ⟨g f.but,?_⟩;refine jT ap (k:=8) (Nat.le_of_ble_eq_true rfl) rfl ?_;intro a9 j ac;refine ⟨(g f.but).trans (g j.but),?_⟩;have bd:AD w a9:=xb (xb (xt af e) f.but om) j.but om;refine jL ac.cells (k:=0) rfl ?_;refine (Fs _ _).mono ?_;rintro _ _ ⟨rfl,rfl⟩;have o:=(((ad.ext d).ext e).mod f.but (fun a=>by have a:i=b:=a;omega)).mod j.but (fun a=>by have a:i=b:=a;omega);refine jA (n:=9) ac.cells rfl ?_;refine jS (vs:=[.int .i64 _,.int .i64 t0,.int .i64 0,.int .i64 tl,.int .i64 f0.from_,.int .i64 f0.to_,.int .i64 0,.int .i64 0,.string z]) o rfl rfl cE ?_;intro aw q m;refine AO (jR (n:=9) rfl m.cells) ?_;exact ⟨rfl,xb bd q.but om⟩
 have an:=an rfl;refine IJ [] A7 mixed (some ⟨b,0,none⟩) (pZ [0,20,6,10,16,27,30,37,40,47]) kR kR ?_;intro s e;have aq:∀ w',Sr (some ⟨b,0,none⟩) s w'->AK w' ah 0 [.slice a1 n1 c1,.slice a2 n2 c2,.slice a3 n3 c3,.slice a4 n4 c4]:=Sr.cells ((h.ext c).ext (xt d e)).cells (al _ om);have g:∀ {l aa:World},But b l aa->BP (AL (some (⟨b,0,none⟩:Addr))) l aa:=fun a=>a.mono fun t ak=>⟨_,rfl,ak⟩;refine Cu kR (k:=2) aq rfl ?_;refine pI (h3.ext (xt af e)) 1 rfl an ?_;intro ag a5 aj x;have au:ag<ao.heap.size:=by
  exact Nat.lt_of_lt_of_le (h3.lt (fun l=>by simp [AE.enc]) (by have:=h3.len;have:=(List.getElem?_eq_some_iff.1 an).1;omega) _ aj) om
 refine Bf (n:=2) kR (Sr.cells x (al _ au)) rfl ?_;refine jT (ab.ext e) (k:=0) (Nat.le_of_ble_eq_true rfl) rfl ?_;intro bn f ap;refine ⟨g f.but,?_⟩;refine jT ap (k:=3) (Nat.le_of_ble_eq_true rfl) rfl ?_;intro a9 j ac;refine ⟨(g f.but).trans (g j.but),?_⟩;refine Cl kR ac (k:=6) (vs:=f1.enc) rfl (Nat.le_of_ble_eq_true rfl) (by simp [AE.enc,AM]) ?_;intro bo ar ax;refine ⟨((g f.but).trans (g j.but)).trans (g ar.but),?_⟩;have be:AD w bo:=xb (xb (xb (xt af e) f.but om) j.but om) ar.but om;refine jL ax.cells (k:=0) rfl ?_;refine (Fs _ _).mono ?_;rintro _ _ ⟨rfl,rfl⟩;have o:=((((ad.ext d).ext e).mod f.but (fun a=>by have a:i=b:=a;omega)).mod j.but (fun a=>by have a:i=b:=a;omega)).mod ar.but (fun a=>by have a:i=b:=a;omega);refine jA (n:=9) ax.cells rfl ?_;refine jS (vs:=[.int .i64 _,.int .i64 t0,.int .i64 0,.int .i64 0,.int .i64 f0.from_,.int .i64 f0.to_,.int .i64 f1.from_,.int .i64 f1.to_,.string { data := #[] }]) o rfl rfl cE ?_;intro aw q m;refine AO (jR (n:=9) rfl m.cells) ?_;exact ⟨rfl,xb be q.but om⟩
end Go.Proofs.YtalgenmoljcnmaaGreatDoor
namespace Go.Vc
open Go Go.RowKit
theorem FT {x y z:World} {b:Nat} (h:AD x y) (k:BP (fun j=>j=b) y z) (hb:x.heap.size<=b):AD x z:=xm h k (fun j a=>by omega)
end Go.Vc
namespace Go.M
open Go Go.Vc
theorem S5 {X:List (List (List Int))} {Y:List (List AT)} {x:ET} (ho:Aq X Y.length=true) (h0:(Ap X Y (AG X) x).2=0) (h7:x.kind=7) :
  ∃ Z L,(Ap X Y (AG X) x).1.2=Z++[L]/\L.length<=40/\∀ t∈L,t.name.size<=20/\BH t.sum:=by
 obtain ⟨i,k⟩:=VS h0;have c:=Jk ho;rcases k with ⟨_,j⟩ | ⟨m,_⟩
 .rw [j];refine ⟨_,_,rfl,?_⟩;have l:=Nc i h7;have g:(A5 (X.getD x.a.toNat []) x.field x.sum).1.length<=40/\∀ t∈(A5 (X.getD x.a.toNat []) x.field x.sum).1,t.name.size<=20∧-40000000000000<=t.sum/\t.sum<=40000000000000:=by
   cases f:X.getD x.a.toNat [] with
   | nil=>exact ⟨by unfold A5;split<;>simp [Bj,A0,De],fun t b=>by unfold A5 at b;split at b<;>simp [Bj,A0,De] at b⟩
   | cons d n =>
    have h:=(c x.a.toNat).2 d (by rw [f];simp);have e:=JE (W:=AG X) (c x.a.toNat).1 (c x.a.toNat).2;rw [f] at e;exact ZR e (by show Ah x.sum ((d.length:Nat):Int)=true;rw [h.2];exact l)
  exact ⟨g.1,fun t b=>by have:=g.2 t b;exact ⟨this.1,by unfold BH;omega⟩⟩
 .exact absurd h7 m
end Go.M
namespace Go.Proofs.YtalgenmoljcnmaaGreatDoor
section
open Go Go.RowKit Go.Vc Go.M
theorem SZ {w:World} {a b:Option Addr} {n c m d:Nat} {s word:ByteArray} {X:List (List (List Int))} {Y:List (List AT)} (h:Ac CA w a n X) (h2:Ac FB w b m Y) (ho:Aq X m=true) (hY:∀ y∈Y,y.length<=1048576) {st:ET} (hx:st.ok) (hk:word=BM->st.kind=7) (hT:GR w) {av:List Value}
  (hl4:av.length=4) (hSt:∀ u,AD w u->Dq 153 [.string word,.agg ⟨av⟩] u (fun v w'=>v = .agg ⟨st.enc⟩/\AD u w')) :
  Dq 83 [.agg #[.slice a n c,.slice b m d,.string s],.string word,.agg ⟨av⟩] w (fun v w'=>∃ a' n' c' b' m' d' al nl cl,v = .tuple #[.agg #[.slice a' n' c',.slice b' m' d',.string s],.slice al nl cl,.int .i64 (Ap X Y (AG X) st).2] /\
   ((Ap X Y (AG X) st).2=0->n'<=c'/\m'<=d'/\∃ hi',w.heap.size<=hi'/\hi'<=w'.heap.size/\Ct w' w.heap.size hi' a' n' b' m' (Ap X Y (AG X) st).1.1 (Ap X Y (AG X) st).1.2/\Ab hi' al/\Bs eS w' al nl 9 (if word≠BM then [DE (At (Ap X Y (AG X) st).1.1)] else [ES (GV ((Ap X Y (AG X) st).1.2.getLastD []))]))/\AD w w'):=by
 obtain ⟨b2,b3,b4,b5,rfl⟩:∃ b2 b3 b4 b5,av=[b2,b3,b4,b5]:=by
  match av,hl4 with
  | [b2,b3,b4,b5],_=>exact ⟨b2,b3,b4,b5,rfl⟩
 have ba:∀ u,AD w u->Dq 152 [.agg #[.slice a n c,.slice b m d],.agg ⟨st.enc⟩] u (fun v w'=>∃ a' n' c' b' m' d',v = .tuple #[.agg #[.slice a' n' c',.slice b' m' d'],.int .i64 (Ap X Y (AG X) st).2] /\
   ((Ap X Y (AG X) st).2=0->n'<=c'/\m'<=d'/\Ct w' u.heap.size w'.heap.size a' n' b' m' (Ap X Y (AG X) st).1.1 (Ap X Y (AG X) st).1.2)/\AD u w'):=fun u aq=>WK (h.ext aq) (h2.ext aq) ho hY hx
 have di:(Ap X Y (AG X) st).2=0->(Ap X Y (AG X) st).1.1.length=6/\∀ x∈(Ap X Y (AG X) st).1.1,x.length<=40:=fun r=>by
  have:=A8 (Lz (x:=st) (by rw [h2.len];exact ho) r);exact ⟨this.1,fun x hx=>(this.2.2 x hx).1⟩
 have dd:(Ap X Y (AG X) st).2=0->word=BM->∃ ag ae,(Ap X Y (AG X) st).1.2=ag++[ae]/\ae.length<=40/\∀ x∈ae,x.name.size<=20/\BH x.sum:=fun r a3=>S5 (by rw [h2.len];exact ho) r (hk a3);generalize Ap X Y (AG X) st=dq at *;obtain ⟨⟨a0,bx⟩,bz⟩:=dq;dsimp only at *;refine oV Tryz.func83 ?_;conv=>whnf
 refine AB.box ?_;intro ah ea c9 d4 bm ax;(conv=>whnf);refine AB.box ?_;intro dx eb dy d5 ak br;(conv=>whnf);refine jN (z := .agg #[.slice none 0 0,.slice none 0 0,.string { data := #[] }]) ?_;intro t an dz d6 ai a8;(conv=>whnf);refine Du [10] A7 mixed none (.seq (pZ [0,10,6,16]) (.alt 4 (.alt 5 (.seq (pZ [30,35,40,47,53,55]) .done) 9 (.seq (pZ [27,30,35,40,53,55]) .done)) 9 (.seq (pZ [22,27,30,35,40,53,55]) .done))) kR kR ?_;(conv=>whnf);intro dt a2;have c3:∀ a6,¬ AL none a6:=fun a6 bo=>by obtain ⟨x,hx,_⟩:=bo;cases hx
 have ef:=bm.size;have eg:=ak.size;have eh:=ai.size;have ei:=a2.size;have bf:AD w dt:=xt (xt (xt bm ak) ai) a2;(conv=>whnf);refine E3 (n:=2) kR (k:=0) (Sr.cells (ax.ext (xt (xt ak ai) a2)).cells (c3 _)) rfl ?_;(conv=>whnf);refine Bf (n:=4) kR (Sr.cells (br.ext (xt ai a2)).cells (c3 _)) rfl ?_;(conv=>whnf);refine Dd.mk ?_ ?_
 focus
  (conv=>whnf);refine dM (hSt _ bf) fun ao o=>?_;have dv:=o.size;(conv=>whnf);refine ⟨AV o,?_⟩;(conv=>whnf);refine Dd.mk ?_ ?_
  focus
   (conv=>whnf);refine (ba _ (xt bf o)).mono ?_;rintro _ q ⟨a',n',c',b',m',d',rfl,ab,aa⟩;have c6:=aa.size;(conv=>whnf);refine ⟨AV (xt o aa),?_⟩;(conv=>whnf);refine jN (z := .agg #[.slice none 0 0,.slice none 0 0]) ?_;intro f a7 cr c1 g bc;(conv=>whnf);refine ⟨AV (xt (xt o aa) g),?_⟩;(conv=>whnf);refine jS (vs:=[Value.slice a' n' c',Value.slice b' m' d']) bc rfl rfl cE ?_;intro ac j bp;(conv=>whnf);have c5:=g.size;have ad:AD an a7:=xt (xt (xt a2 o) aa) g;have bo:bz=0->n'<=c'/\m'<=d'/\Ct ac ao.heap.size q.heap.size a' n' b' m' a0 bx:=fun r=>⟨(ab r).1,(ab r).2.1,((ab r).2.2.mod (S:=fun _=>False) (AD.mod g) (fun _ _ _ h=>h)).mod j.but (fun am bn h2 hk=>by have hk:am=f:=hk;omega)⟩;have cv:an.heap.size<=ao.heap.size:=om
   have cu:q.heap.size<=ac.heap.size:=Nat.le_trans g.size j.but.size;have ct:an.heap.size<=f/\(f<ao.heap.size\/q.heap.size<=f):=om
   generalize ao.heap.size=c2 at *;generalize q.heap.size=bb at *;have bq:B8 ac ah [.slice a n c,.slice b m d,.string s] 36:=(ax.ext (xt (xt ak ai) ad)).mod j.but (fun h=>by have h:ah=f:=h;omega);have bt:=(a8.ext ad).mod j.but (fun h=>by have h:t=f:=h;omega);have bv:AD w ac:=xb (xt (xt (xt bm ak) ai) ad) j.but om;clear ab ax br a8 ba hSt
  rotate_left
  focus
   (conv=>whnf);refine jN (z := .agg #[.slice none 0 0,.slice none 0 0]) ?_;intro f a7 cr c1 g bc;have c5:=g.size;(conv=>whnf);refine ⟨AV (xt o g),?_⟩;(conv=>whnf);refine (ba _ (xt (xt bf o) g)).mono ?_;rintro _ q ⟨a',n',c',b',m',d',rfl,ab,aa⟩;have c6:=aa.size;(conv=>whnf);refine ⟨AV (xt (xt o g) aa),?_⟩;(conv=>whnf);refine jS (vs:=[Value.slice a' n' c',Value.slice b' m' d']) (bc.ext aa) rfl rfl cE ?_;intro ac j bp;(conv=>whnf);have ad:AD an q:=xt (xt (xt a2 o) g) aa;have bo:bz=0->n'<=c'/\m'<=d'/\Ct ac a7.heap.size q.heap.size a' n' b' m' a0 bx:=fun r=>⟨(ab r).1,(ab r).2.1,(ab r).2.2.mod j.but (fun am bn h2 hk=>by have hk:am=f:=hk;omega)⟩;have cv:an.heap.size<=a7.heap.size:=om
   have cu:q.heap.size<=ac.heap.size:=j.but.size;have ct:an.heap.size<=f/\(f<a7.heap.size\/q.heap.size<=f):=om
   generalize a7.heap.size=c2 at *;generalize q.heap.size=bb at *;have bq:B8 ac ah [.slice a n c,.slice b m d,.string s] 36:=(ax.ext (xt (xt ak ai) ad)).mod j.but (fun h=>by have h:ah=f:=h;omega);have bt:=(a8.ext ad).mod j.but (fun h=>by have h:t=f:=h;omega);have bv:AD w ac:=xb (xt (xt (xt bm ak) ai) ad) j.but om;clear ab ax br a8 ba hSt
 rotate_left 2
 focus
  (conv=>whnf);refine jN (z := .agg #[.slice none 0 0,.slice none 0 0]) ?_;intro f a7 cr c1 g bc;have c5:=g.size;(conv=>whnf);refine ⟨AV g,?_⟩;(conv=>whnf);refine dM (hSt _ (xt bf g)) fun ao o=>?_;have dv:=o.size;(conv=>whnf);refine ⟨AV (xt g o),?_⟩;(conv=>whnf);refine (ba _ (xt (xt bf g) o)).mono ?_;rintro _ q ⟨a',n',c',b',m',d',rfl,ab,aa⟩;have c6:=aa.size;(conv=>whnf);refine ⟨AV (xt (xt g o) aa),?_⟩;(conv=>whnf);refine jS (vs:=[Value.slice a' n' c',Value.slice b' m' d']) (bc.ext (xt o aa)) rfl rfl cE ?_;intro ac j bp;(conv=>whnf);have ad:AD an q:=xt (xt (xt a2 g) o) aa;have bo:bz=0->n'<=c'/\m'<=d'/\Ct ac ao.heap.size q.heap.size a' n' b' m' a0 bx:=fun r=>⟨(ab r).1,(ab r).2.1,(ab r).2.2.mod j.but (fun am bn h2 hk=>by have hk:am=f:=hk;omega)⟩;have cv:an.heap.size<=ao.heap.size:=om
  have cu:q.heap.size<=ac.heap.size:=j.but.size;have ct:an.heap.size<=f/\(f<ao.heap.size\/q.heap.size<=f):=om
  generalize ao.heap.size=c2 at *;generalize q.heap.size=bb at *;have bq:B8 ac ah [.slice a n c,.slice b m d,.string s] 36:=(ax.ext (xt (xt ak ai) ad)).mod j.but (fun h=>by have h:ah=f:=h;omega);have bt:=(a8.ext ad).mod j.but (fun h=>by have h:t=f:=h;omega);have bv:AD w ac:=xb (xt (xt (xt bm ak) ai) ad) j.but om;clear ab ax br a8 ba hSt
 all_goals
  by_cases co:bz=0
  .subst co;obtain ⟨cy,cw,db⟩:=bo rfl;obtain ⟨dh,dg⟩:=di rfl;refine jA (n:=2) bp.cells rfl ?_;(conv=>whnf);refine Cl kR bq (k:=0) (vs:=[.slice a' n' c',.slice b' m' d']) rfl (Nat.le_of_ble_eq_true rfl) cE ?_;intro aj a1 b7;have b8:B8 aj ah [.slice a' n' c',.slice b' m' d',.string s] 36:=b7;have bu:=bt.mod a1.but (fun h=>by have h:t=ah:=h;omega);have b6:=bp.mod a1.but (fun h=>by have h:f=ah:=h;omega);have cg:=db.mod a1.but (fun am bn h2 hk=>by have hk:am=ah:=hk;omega);have bw:AD w aj:=xb bv a1.but c9;have ec:=a1.but.size;obtain ⟨c7,c8⟩:=cg.rd;(conv=>whnf);by_cases a3:word=BM
   .have cn:word=⟨#[116,111,116,97,108]⟩:=a3;refine DY (by simp [cn]) ?_;rw [if_neg (by simp [a3])];obtain ⟨ag,ae,rfl,d0,de⟩:=dd rfl a3;have dc:(ag++[ae]).getLastD []=ae:=by rw [List.getLastD_eq_getLast?,List.getLast?_append];rfl
    rw [dc];obtain ⟨c0,ci,cs⟩:=c8;have d2:=ci.len;have dm:c0.length=(ag++[ae]).length:=cs.1;rw [List.length_append,List.length_singleton] at dm;obtain ⟨a6,cz⟩:=AA (l:=c0) (k:=ag.length) om;have cq:=cs.2 ag.length a6 ae cz sI;have df:∀ u,AD aj u->Dq 154 [.slice a6.a a6.n a6.c] u (fun v w'=>v = .string (GV ae)/\AD u w'):=fun u aq=>PZ (cq.1.ext aq) de (by have:=cq.1.len;omega) (hT.ext (xt bw aq));generalize GV ae=p at *;have d3:m'=ag.length+1:=om
    (conv=>whnf);refine jL b6.cells (k:=1) rfl ?_;(conv=>whnf);refine jL b6.cells (k:=1) rfl ?_;(conv=>whnf);refine AB.sub ((ag.length:Nat):Int) om om (by have:=ci.2.1;unfold maxLen at this;omega) ?_;(conv=>whnf);refine jI ci ag.length om cz ?_;intro dw d7 d1 dk;(conv=>whnf);refine jO dk rfl ?_;(conv=>whnf);refine dM (df _ (AD.refl _)) fun d9 au=>?_;(conv=>whnf);have bd:∀ (i:World) (e:Nat) (y:ByteArray),y=ES p->BP (fun aw=>aw=t) aj i->aj.heap.size<=e->Bs eS i (some ⟨e,0,none⟩) 1 9 [y]->∃ bg a5 bi bh a4 bk al nl cl,Value.tuple #[.agg #[.slice a' n' c',.slice b' m' d',.string s],.slice (some ⟨e,0,none⟩) 1 1,.int .i64 0]=Value.tuple #[.agg #[.slice bg a5 bi,.slice bh a4 bk,.string s],.slice al nl cl,.int .i64 0] /\
      ((0:Int)=0->a5<=bi/\a4<=bk/\∃ hi',w.heap.size<=hi'/\hi'<=i.heap.size/\Ct i w.heap.size hi' bg a5 bh a4 a0 (ag++[ae])/\Ab hi' al/\Bs eS i al nl 9 [ES p])/\AD w i:=by
     intro i e y af az dj cd;subst af;have:=az.size;exact ⟨_,_,_,_,_,_,_,_,_,rfl,fun _=>⟨cy,cw,bb,om,om,(cg.mod az (fun am bn h2 hk=>by omega)).wide om (Nat.le_refl _),(fun y af=>by cases af;show bb<=e;omega),cd⟩,FT bw az om⟩
    by_cases b1:p.size=0
    .have cm:p=⟨#[]⟩:=by
      apply ByteArray.ext;exact Array.eq_empty_of_size_eq_zero b1
     have cj:ES p=bs [45]:=by unfold ES;rw [if_pos b1]
     refine Fh (by simp [cm]) ?_;(conv=>whnf);refine jA (n:=3) (b8.ext au).cells rfl ?_;(conv=>whnf);refine bS BK (vs:=[Value.string (bs [45])]) ?_;intro e ds cf dp bl cb;have ay:=AH (n:=1) (enc:=eS) (xs:=[bs [45]]) AP cb cf rfl dE;(conv=>whnf);refine jS (vs:=[Value.slice a' n' c',Value.slice b' m' d',Value.string s]) (bu.ext (xt au bl)) rfl rfl cE ?_;intro cp bj cc;(conv=>whnf);refine AO (jR (n:=3) rfl cc.cells) ?_;(conv=>whnf);have du:=au.size;exact bd cp e _ cj.symm ((AD.mod (xt au bl)).trans bj.but) om (ay.mod bj.but (fun y af h=>by
      cases af
      have h:e=t:=h;omega)).own
    .have cm:¬ p=⟨#[]⟩:=fun h=>b1 (by rw [h];rfl);have cj:ES p=p:=by unfold ES;rw [if_neg b1]
     refine DY (by simp [cm]) ?_;(conv=>whnf);refine jA (n:=3) (b8.ext au).cells rfl ?_;(conv=>whnf);refine bS BK (vs:=[Value.string p]) ?_;intro e ds cf dp bl cb;have ay:=AH (n:=1) (enc:=eS) (xs:=[p]) AP cb cf rfl dE;(conv=>whnf);refine jS (vs:=[Value.slice a' n' c',Value.slice b' m' d',Value.string s]) (bu.ext (xt au bl)) rfl rfl cE ?_;intro cp bj cc;(conv=>whnf);refine AO (jR (n:=3) rfl cc.cells) ?_;(conv=>whnf);have du:=au.size;exact bd cp e _ cj.symm ((AD.mod (xt au bl)).trans bj.but) om (ay.mod bj.but (fun y af h=>by
      cases af
      have h:e=t:=h;omega)).own
   .have cn:¬ word=⟨#[116,111,116,97,108]⟩:=a3;refine Fh (by simp [cn]) ?_;rw [if_pos a3];have da:∀ u,AD aj u->Dq 76 [.agg #[.slice a' n' c',.slice b' m' d']] u (fun v w'=>v = .string (DE (At a0))/\AD u w'):=fun u aq=>Iu (c7.ext aq) dh dg (hT.ext (xt bw aq));generalize DE (At a0)=p at *;have bd:∀ (i:World) (e:Nat),BP (fun aw=>aw=t) aj i->aj.heap.size<=e->Bs eS i (some ⟨e,0,none⟩) 1 9 [p]->∃ bg a5 bi bh a4 bk al nl cl,Value.tuple #[.agg #[.slice a' n' c',.slice b' m' d',.string s],.slice (some ⟨e,0,none⟩) 1 1,.int .i64 0]=Value.tuple #[.agg #[.slice bg a5 bi,.slice bh a4 bk,.string s],.slice al nl cl,.int .i64 0] /\
      ((0:Int)=0->a5<=bi/\a4<=bk/\∃ hi',w.heap.size<=hi'/\hi'<=i.heap.size/\Ct i w.heap.size hi' bg a5 bh a4 a0 bx/\Ab hi' al/\Bs eS i al nl 9 [p])/\AD w i:=by
     intro i e az dj cd;have:=az.size;exact ⟨_,_,_,_,_,_,_,_,_,rfl,fun _=>⟨cy,cw,bb,om,om,(cg.mod az (fun am bn h2 hk=>by omega)).wide om (Nat.le_refl _),(fun y af=>by cases af;show bb<=e;omega),cd⟩,FT bw az om⟩
    (conv=>whnf);refine Du [] A7 mixed (some ⟨t,0,none⟩) (.seq (pZ [1,6,12]) (.alt 3 (.seq (pZ [22,25,30]) .done) 4 (.seq (pZ [17,25,30]) .done))) kR kR ?_;(conv=>whnf);intro d8 b0;have cx:∀ aw,aw≠t->¬ AL (some (⟨t,0,none⟩:Addr)) aw:=fun aw ck h=>by
     obtain ⟨x,hx,dl⟩:=h;cases hx
     exact ck dl
    have ch:∀ {x y:World},But t x y->BP (AL (some (⟨t,0,none⟩:Addr))) x y:=fun h=>h.mono fun aw ck=>⟨_,rfl,ck⟩;(conv=>whnf);refine Bf (n:=3) kR (Sr.cells (b8.ext b0).cells (cx _ om)) rfl ?_;(conv=>whnf);refine Bf (n:=2) kR (Sr.cells (b6.ext b0).cells (cx _ om)) rfl ?_;(conv=>whnf);refine dM (da _ b0) fun dr a9=>?_;(conv=>whnf);refine ⟨AV a9,?_⟩;(conv=>whnf);have be:AD aj dr:=xt b0 a9;have ed:=be.size;refine Dd.mk ?_ ?_
    ·(conv=>whnf);refine bS BK (vs:=[Value.string p]) ?_;intro e c4 ce dn ar b9;have ay:=AH (n:=1) (enc:=eS) (xs:=[p]) AP b9 ce rfl dE;(conv=>whnf);refine ⟨AV (xt a9 ar),?_⟩;(conv=>whnf);refine jS (vs:=[Value.slice a' n' c',Value.slice b' m' d',Value.string s]) (bu.ext (xt be ar)) rfl rfl cE ?_;intro i ap ca;(conv=>whnf);refine ⟨(AV (xt a9 ar)).trans (ch ap.but),?_⟩;(conv=>whnf);refine AO (jR (n:=3) rfl ca.cells) ?_;(conv=>whnf);exact bd i e ((AD.mod (xt be ar)).trans ap.but) om (ay.mod ap.but (fun y af h=>by
      cases af
      have h:e=t:=h;omega)).own
    ·(conv=>whnf);refine jS (vs:=[Value.slice a' n' c',Value.slice b' m' d',Value.string s]) (bu.ext be) rfl rfl cE ?_;intro i ap ca;(conv=>whnf);refine ⟨(AV a9).trans (ch ap.but),?_⟩;(conv=>whnf);refine bS BK (vs:=[Value.string p]) ?_;intro e c4 ce dn ar b9;have ay:=AH (n:=1) (enc:=eS) (xs:=[p]) AP b9 ce rfl dE;(conv=>whnf);refine ⟨((AV a9).trans (ch ap.but)).trans (AD.mod ar),?_⟩;(conv=>whnf);refine AO (jR (n:=3) rfl (ca.ext ar).cells) ?_;(conv=>whnf);have ee:=ap.but.size;exact bd c4 e (((AD.mod be).trans ap.but).trans (AD.mod ar)) om ay.own
  .refine Fh (by simp [co]) ?_;(conv=>whnf);refine jA (n:=3) bq.cells rfl ?_;(conv=>whnf);refine jS (vs:=[Value.slice a n c,Value.slice b m d,Value.string s]) bt rfl rfl cE ?_;intro aj a1 b7;(conv=>whnf);refine AO (jR (n:=3) rfl b7.cells) ?_;(conv=>whnf);exact ⟨_,_,_,_,_,_,_,_,_,rfl,fun h=>absurd h co,xb bv a1.but om⟩
end
section
open Go Go.RowKit Go.Vc Go.M
variable {w:World} {lo hi n c m d n1 n2 n3 n4 c1 c2 c3 c4:Nat} {a b a1 a2 a3 a4:Option Addr} {D:B7} {A:DF} {t:Int} {z:ByteArray}
def KA (w w':World) (lo hi:Nat) (v:Value) (r:(B7×List ByteArray)×Int):Prop :=
 ∃ a' n' c' b' m' d' s' al nl cl,v = .tuple #[.agg #[.slice a' n' c',.slice b' m' d',.string s'],.slice al nl cl,.int .i64 r.2] /\
  (r.2=0->s'=r.1.1.s/\n'<=c'/\m'<=d'/\∃ hi',hi'<=w'.heap.size/\(∀ u,BP (fun k=>hi<=k/\k<w.heap.size) w' u->Ct u lo hi' a' n' b' m' r.1.1.X r.1.1.Y)/\Ab hi' al/\Ab w.heap.size al/\Bs eS w' al nl 9 r.1.2)/\BP (Iv lo hi) w w'
theorem Sf (h:Gj w lo hi a n c b m d D.X D.Y) (hhi:hi<=w.heap.size) (ho:Aq D.X m=true) (hs:D.s.size<=1048576) (hY:∀ y∈D.Y,y.length<=1048576) (hTm:∀ u,BP (Iv lo hi) w u->GR u) (hE:Eg w) (hM:EE w) (h1:A4 eI 1 w a1 n1 A.trays) (h2:A4 eI 1 w a2 n2 A.nums) (h3:A4 AE.enc 2 w a3 n3 A.fields) (h4:A4 eS 1 w a4 n4 A.texts) (hA:F8 A) (hb:∀ t∈A.trays,0<=t/\t<=5)  :
  Dq 35 [.agg #[.slice a n c,.slice b m d,.string D.s],.string Hr,.agg #[.slice a1 n1 c1,.slice a2 n2 c2,.slice a3 n3 c3,.slice a4 n4 c4]] w (fun v w'=>KA w w' lo hi v (BE D Hr A)):=by
 have ah:=hTm w (Vc.BP.refl _ _);have aa:=h.desk;have x:=h.rd;have ay:=x.1.len;have ax:=x.2.len;have aj:=A8 ho;have aw:=aj.1;have ai:BE D Hr A=((D,CM ((BZ D.s).1.map DO)),(BZ D.s).2.2):=by unfold BE;rw [if_pos rfl]
 rw [ai];refine oV Tryz.func35 ?_;refine AB.box ?_;intro ao a7 ar az r o;refine AB.box fun ap a8 au a0 l p=>jN (z := .agg #[.slice none 0 0,.slice none 0 0,.string { data := #[] }]) ?_;intro q al av a5 i ad;have ba:=r.size;have bb:=l.size;have bc:=i.size;have e:AD w al:=xt (xt r l) i;have ac:=o.ext (xt l i);have am:=p.ext i;clear o p;refine jA (n:=3) ac.cells rfl<|(Uu hs (ah.ext e) (hE.ext e) (hM.ext e)).mono ?_;rintro _ a9 ⟨an,a6,aq,rfl,k,ag,j⟩;refine jS (vs:=[Value.slice a n c,Value.slice b m d,Value.string D.s]) (ad.ext j) rfl rfl cE fun a' g ae=>AO (jR (n:=3) rfl ae.cells) ?_;have bd:=j.size;have be:=g.but.size;refine ⟨_,_,_,_,_,_,_,_,_,_,rfl,fun _=>⟨rfl,aa.1,aa.2.1,hi,om,fun u af=>(((h.ext (xt e j)).but g.but om).desk.2.2).mod af (fun ab h1 h2 h3=>by omega),k.mono om,k.mono om,?_⟩,(AD.mod (xt e j)).trans_new g.but (fun ab f=>by have f:ab=q:=f;omega)⟩;exact ag.mod g.but (fun y ak f=>by
  have f:y.block=q:=f;have:=k y ak;omega)
theorem Q3 (h:Gj w lo hi a n c b m d D.X D.Y) (hhi:hi<=w.heap.size) (ho:Aq D.X m=true) (hs:D.s.size<=1048576) (hY:∀ y∈D.Y,y.length<=1048576) (hTm:∀ u,BP (Iv lo hi) w u->GR u) (hE:Eg w) (hM:EE w) (h1:A4 eI 1 w a1 n1 A.trays) (h2:A4 eI 1 w a2 n2 A.nums) (h3:A4 AE.enc 2 w a3 n3 A.fields) (h4:A4 eS 1 w a4 n4 A.texts) (hA:F8 A) (hb:∀ t∈A.trays,0<=t/\t<=5) (ht:A.trays[0]? = some t) (hz:A.texts[0]? = some z) :
  Dq 35 [.agg #[.slice a n c,.slice b m d,.string D.s],.string CU,.agg #[.slice a1 n1 c1,.slice a2 n2 c2,.slice a3 n3 c3,.slice a4 n4 c4]] w (fun v w'=>KA w w' lo hi v (BE D CU A)):=by
 have be:=hTm w (Vc.BP.refl _ _);have ag:=h.desk;have af:=h.rd;have bg:=af.1.len;have aq:=af.2.len;have ar:=A8 ho;have bd:=ar.1;have a0:=hb t (List.mem_of_getElem? ht);have ah:BE D CU A=if CK z≠0 then ((D,[]),CK z) else if Aq (CZ D.X t z) D.Y.length=false then ((D,[]),6) else (({ D with X:=CZ D.X t z },[DE (At (CZ D.X t z))]),0):=by
  unfold BE CZ;rw [if_neg dE,if_pos rfl,Af ht,Af hz]
 have ai:(BE D CU A).2=Kx D.X m t z:=by
  rw [ah];unfold Kx;rw [aq];split
  .rfl
  .split<;>rfl
 have aj:(BE D CU A).2=0->(BE D CU A).1=({ D with X:=CZ D.X t z },[DE (At (CZ D.X t z))]):=by
  rw [ah];split
  .rename_i aw;intro g;exact absurd g aw
  .split
   .intro g;cases g
   .intro _;rfl
 generalize BE D CU A=az at *;obtain ⟨bo,bp⟩:=az;dsimp only at ai aj;subst ai;refine oV Tryz.func35 ?_;refine AB.box ?_;intro a7 bq ba bh ad aa;refine AB.box fun a8 br bb bi q ab=>jN (z := .agg #[.slice none 0 0,.slice none 0 0,.string { data := #[] }]) ?_;intro p a5 bc bj j al;have bv:=ad.size;have bw:=q.size;have bx:=j.size;have f:AD w a5:=xt (xt ad q) j;have ak:=aa.ext (xt q j);have ac:=ab.ext j;clear aa ab;refine jL ac.cells (k:=0) rfl<|jI (h1.ext f) 0 rfl ht fun a9 bl bf ao=>jO ao rfl<|jA (n:=3) ak.cells rfl<|jA (n:=4) ac.cells rfl<|(Uw (h.ext f) om ho (fun u au=>hTm u ((AD.mod f).trans au)) (h1.ext f) (h4.ext f) ht hz a0 (hA.x z (List.mem_of_getElem? hz))).mono ?_;rintro _ bt ⟨a6,bk,a',rfl,ay,o⟩;have bz:=o.size;refine jS (vs:=[Value.slice a n c,Value.slice b m d,Value.string D.s]) (al.mod o (fun e=>by have:=e.2;omega)) rfl rfl cE fun bu i am=>AO (jR (n:=3) rfl am.cells) ?_;have b0:=i.but.size;refine ⟨_,_,_,_,_,_,_,_,_,_,rfl,fun ae=>?_,((AD.mod f).trans o).trans_new i.but (fun l e=>by have e:l=p:=e;omega)⟩;obtain ⟨ap,bm,bn,g,r,ax⟩:=ay ae;rw [aj ae];refine ⟨rfl,ag.1,ag.2.1,ap,om,fun u an=>g _ ((i.but.mono fun l e=>by have e:l=p:=e;omega).trans (an.mono fun l e=>by omega)),r,r.mono om,?_⟩;exact ax.mod i.but (fun y av e=>by
  have e:y.block=p:=e;have:=r y av;omega)
theorem Q2 (h:Gj w lo hi a n c b m d D.X D.Y) (hhi:hi<=w.heap.size) (ho:Aq D.X m=true) (hs:D.s.size<=1048576) (hY:∀ y∈D.Y,y.length<=1048576) (hTm:∀ u,BP (Iv lo hi) w u->GR u) (hE:Eg w) (hM:EE w) (h1:A4 eI 1 w a1 n1 A.trays) (h2:A4 eI 1 w a2 n2 A.nums) (h3:A4 AE.enc 2 w a3 n3 A.fields) (h4:A4 eS 1 w a4 n4 A.texts) (hA:F8 A) (hb:∀ t∈A.trays,0<=t/\t<=5) {k:Int} (ht:A.trays[0]? = some t) (hk:A.nums[0]? = some k) (hz:A.texts[0]? = some z) :
  Dq 35 [.agg #[.slice a n c,.slice b m d,.string D.s],.string D2,.agg #[.slice a1 n1 c1,.slice a2 n2 c2,.slice a3 n3 c3,.slice a4 n4 c4]] w (fun v w'=>KA w w' lo hi v (BE D D2 A)):=by
 have an:=hTm w (Vc.BP.refl _ _);have ae:=h.desk;have l:=h.rd;have bf:=l.1.len;have be:=l.2.len;have ai:=A8 ho;have bc:=ai.1;have ay:=hb t (List.mem_of_getElem? ht);have af:BE D D2 A=if (A9 D.s ⟨t,(D.X.getD t.toNat []).length,k,z⟩).2≠0 then ((D,[]),(A9 D.s ⟨t,(D.X.getD t.toNat []).length,k,z⟩).2) else (({ D with s:=(A9 D.s ⟨t,(D.X.getD t.toNat []).length,k,z⟩).1 },[BV (D4 (A9 D.s ⟨t,(D.X.getD t.toNat []).length,k,z⟩).1).1]),(D4 (A9 D.s ⟨t,(D.X.getD t.toNat []).length,k,z⟩).1).2):=by
  unfold BE;rw [if_neg dE,if_neg dE,if_neg dE,if_neg dE,if_pos rfl,Af ht,Af hk,Af hz]
 have ag:(BE D D2 A).2=Kh D.s ⟨t,(D.X.getD t.toNat []).length,k,z⟩:=by
  rw [af];unfold Kh;split<;>rfl
 have ah:(BE D D2 A).2=0->(BE D D2 A).1=({ D with s:=(A9 D.s ⟨t,(D.X.getD t.toNat []).length,k,z⟩).1 },[BV (D4 (A9 D.s ⟨t,(D.X.getD t.toNat []).length,k,z⟩).1).1]):=by
  rw [af];split
  .rename_i ar;intro o;exact absurd o ar
  .intro _;rfl
 generalize BE D D2 A=aw at *;obtain ⟨bl,bm⟩:=aw;dsimp only at ag ah;subst ag;refine oV Tryz.func35 ?_;refine AB.box ?_;intro a6 bn a' bg ac q;refine AB.box fun a7 bo ba bh j r=>jN (z := .agg #[.slice none 0 0,.slice none 0 0,.string { data := #[] }]) ?_;intro ab az bb bi g ak;have br:=ac.size;have bt:=j.size;have bu:=g.size;have e:AD w az:=xt (xt ac j) g;have aj:=q.ext (xt j g);have aa:=r.ext g;clear q r;refine jL aa.cells (k:=0) rfl<|jI (h1.ext e) 0 rfl ht fun a8 bk bd ao=>jO ao rfl<|jA (n:=3) aj.cells rfl<|jA (n:=4) aa.cells rfl<|(Uv (l.1.ext e) om (fun a0 ap=>by have:=(ai.2.2 a0 ap).1;omega) hs (an.ext e) (hE.ext e) (hM.ext e) (h1.ext e) (h2.ext e) (h4.ext e) ht hk hz ay (hA.n k (List.mem_of_getElem? hk)) (hA.x z (List.mem_of_getElem? hz))).mono ?_;rintro _ bp ⟨ax,a5,bj,a9,rfl,av,i⟩;have bv:=i.size;refine jS (vs:=[Value.slice a n c,Value.slice b m d,Value.string ax]) (ak.ext i) rfl rfl cE fun bq f al=>AO (jR (n:=3) rfl al.cells) ?_;have bw:=f.but.size;refine ⟨_,_,_,_,_,_,_,_,_,_,rfl,fun ad=>?_,(AD.mod (xt e i)).trans_new f.but (fun k hk=>by have hk:k=ab:=hk;omega)⟩;obtain ⟨o,p,au⟩:=av ad;rw [ah ad];refine ⟨o,ae.1,ae.2.1,hi,om,fun u am=>(((h.ext (xt e i)).but f.but om).desk.2.2).mod am (fun k h1 h2 h3=>by omega),p.mono om,p.mono om,?_⟩;exact au.mod f.but (fun y aq hk=>by
  have hk:y.block=ab:=hk;have:=p y aq;omega)
theorem Q1 (h:Gj w lo hi a n c b m d D.X D.Y) (hhi:hi<=w.heap.size) (ho:Aq D.X m=true) (hs:D.s.size<=1048576) (hY:∀ y∈D.Y,y.length<=1048576) (hTm:∀ u,BP (Iv lo hi) w u->GR u) (hE:Eg w) (hM:EE w) (h1:A4 eI 1 w a1 n1 A.trays) (h2:A4 eI 1 w a2 n2 A.nums) (h3:A4 AE.enc 2 w a3 n3 A.fields) (h4:A4 eS 1 w a4 n4 A.texts) (hA:F8 A) (hb:∀ t∈A.trays,0<=t/\t<=5) (ht:A.trays[0]? = some t) :
  Dq 35 [.agg #[.slice a n c,.slice b m d,.string D.s],.string Cd,.agg #[.slice a1 n1 c1,.slice a2 n2 c2,.slice a3 n3 c3,.slice a4 n4 c4]] w (fun v w'=>KA w w' lo hi v (BE D Cd A)):=by
 have a8:=hTm w (Vc.BP.refl _ _);have ap:=h.desk;have x:=h.rd;have bz:=x.1.len;have bx:=x.2.len;have av:=A8 ho;have bt:=av.1;have b9:=hb t (List.mem_of_getElem? ht);obtain ⟨bc,ao,a7⟩:=x.1;have bw:=ao.len;obtain ⟨ab,aw⟩:=AA (l:=bc) (k:=t.toNat) om;obtain ⟨e,ax,ah⟩:=a7.get aw;have bb:D.X.getD t.toNat []=e:=Af ax;have b1:=ah.1.len;have b0:=(av.2.2 e (List.mem_of_getElem? ax)).1;have aq:BE D Cd A=(match e.find? (fun c=>decide (BG c≠0)) with | some c=>((D,[]),BG c) | none=>((D,CM (e.map fun c=>Cf (CO c))),0)):=by
  unfold BE;rw [if_neg dE,if_neg dE,if_neg dE,if_pos rfl,Af ht,bb];cases e.find? (fun c=>decide (BG c≠0))<;>rfl
 have ar:(BE D Cd A).2=(match e.find? (fun c=>decide (BG c≠0)) with | some c=>BG c | none=>0):=by
  rw [aq];split<;>rfl
 have au:(BE D Cd A).2=0->(BE D Cd A).1=(D,CM (e.map fun c=>Cf (CO c))):=by
  rw [aq];split
  .rename_i bo ba;intro bf;have:=List.find?_some ba;simp only [decide_eq_true_eq] at this;exact absurd bf this
  .intro _;rfl
 have an:∀ u,AD w u->Dq 77 [.agg #[.slice a n c,.slice b m d,.string D.s],.slice ab.a ab.n ab.c] u (fun v w'=>∃ j aa aj,v = .tuple #[.agg #[.slice a n c,.slice b m d,.string D.s],.slice j aa aj,.int .i64 (BE D Cd A).2]/\((BE D Cd A).2=0->Ab u.heap.size j/\Bs eS w' j aa 9 (CM (e.map fun c=>Cf (CO c))))/\AD u w'):=fun u ak=>by
  rw [ar];exact Qu (ah.1.ext ak) om (a8.ext ak)
 generalize BE D Cd A=bh at *;obtain ⟨b7,b8⟩:=bh;dsimp only at ar au an;refine oV Tryz.func35 ?_;refine AB.box ?_;intro bk ca bp b2 al ad;refine AB.box fun bl cb bq b3 r af=>jN (z := .agg #[.slice none 0 0,.slice none 0 0,.string { data := #[] }]) ?_;intro ai bj br b4 q a5;have cf:=al.size;have cg:=r.size;have ch:=q.size;have i:AD w bj:=xt (xt al r) q;have ae:=ad.ext (xt r q);have a0:=af.ext q;clear ad af;refine jL a0.cells (k:=0) rfl<|jI (h1.ext i) 0 rfl ht fun bm b5 bu a9=>jO a9 rfl<|Au A7 mixed (pZ [5,10,20,1,16,25,31,37,40,45,50,58,60,65]) kR kR fun cc f=>dA (n:=3) ae.cells rfl<|dL ae.cells (k:=0) rfl<|pI (ao.ext i) t.toNat om aw fun bn b6 bv a'=>dO a' rfl<|(an _ (xt i f)).mono ?_;rintro _ bi ⟨j,aa,aj,rfl,be,p⟩;refine ⟨xt f p,?_⟩;have ci:=f.size;have cd:=p.size;refine jS (vs:=[Value.slice a n c,Value.slice b m d,Value.string D.s]) (a5.ext (xt f p)) rfl rfl cE fun b' o az=>AO (jR (n:=3) rfl az.cells) ?_;have ce:=o.but.size;have ag:AD w bi:=xt (xt i f) p;refine ⟨_,_,_,_,_,_,_,_,_,_,rfl,fun am=>?_,(AD.mod ag).trans_new o.but (fun ay g=>by have g:ay=ai:=g;omega)⟩;obtain ⟨ac,bg⟩:=be am;rw [au am];refine ⟨rfl,ap.1,ap.2.1,hi,om,fun u a6=>(((h.ext ag).but o.but om).desk.2.2).mod a6 (fun ay h1 h2 h3=>by omega),ac.mono om,ac.mono om,?_⟩;exact bg.mod o.but (fun y bd g=>by
  have g:y.block=ai:=g;have:=ac y bd;omega)
end
section
open Go Go.RowKit Go.Vc Go.M
variable {w:World} {lo hi n c m d n1 n2 n3 n4 c1 c2 c3 c4:Nat} {a b a1 a2 a3 a4:Option Addr} {D:B7} {A:DF} {t:Int}
theorem PW (h:Gj w lo hi a n c b m d D.X D.Y) (hhi:hi<=w.heap.size) (ho:Aq D.X m=true) (hs:D.s.size<=1048576) (hY:∀ y∈D.Y,y.length<=1048576) (hTm:∀ u,BP (Iv lo hi) w u->GR u) (hE:Eg w) (hM:EE w) (h1:A4 eI 1 w a1 n1 A.trays) (h2:A4 eI 1 w a2 n2 A.nums) (h3:A4 AE.enc 2 w a3 n3 A.fields) (h4:A4 eS 1 w a4 n4 A.texts) (hA:F8 A) (hb:∀ t∈A.trays,0<=t/\t<=5) (ht:A.trays[0]? = some t) :
  Dq 35 [.agg #[.slice a n c,.slice b m d,.string D.s],.string CL,.agg #[.slice a1 n1 c1,.slice a2 n2 c2,.slice a3 n3 c3,.slice a4 n4 c4]] w (fun v w'=>KA w w' lo hi v (BE D CL A)):=by
 have cy:=hTm w (Vc.BP.refl _ _);have bm:=h.desk;have bl:=h.rd;have c7:=bl.1.len;have c6:=bl.2.len;have cb:=A8 ho;have cx:=cb.1;have df:=hb t (List.mem_of_getElem? ht);have am:BE D CL A=(({ D with X:=D.X.set t.toNat [] },[DE (At (D.X.set t.toNat []))]),0):=by
  unfold BE;rw [if_neg dE,if_neg dE,if_pos rfl,Af ht]
 rw [am];have ca:Aq (D.X.set t.toNat []) m=true:=Ja ho sI sI;have bo:=A8 ca;refine oV Tryz.func35 ?_;refine AB.box ?_;intro au dg ct c9 bj a';refine AB.box fun cp dh cu c' aw bc=>jN (z := .agg #[.slice none 0 0,.slice none 0 0,.string { data := #[] }]) ?_;intro j bt cv da al bw;have dm:=bj.size;have dn:=aw.size;have dp:=al.size;have ai:AD w bt:=xt (xt bj aw) al;have ba:=a'.ext (xt aw al);have bv:=bc.ext al;clear a' bc;refine jL bv.cells (k:=0) rfl<|jI (h1.ext ai) 0 rfl ht fun cq dd cz b5=>jO b5 rfl ?_;(conv=>whnf);obtain ⟨ax,az,bz,bf,a0⟩:=h;obtain ⟨ch,ci,bq⟩:=List.nodup_append.1 a0.1;have b1:DM (OG Aw 144) bt a n 78 D.X ax:=(bz.ext ai).own;obtain ⟨di,ce⟩:=AA (l:=D.X) (k:=t.toNat) om;obtain ⟨i,cr,cs,b6,a6,cn,co,dc,c0,c8,cd⟩:=b1.hand ch ce;subst b6;have af:∀ e∈ax,lo<=e/\e<hi:=fun e f=>a0.2 e (List.mem_append_left _ f);refine jL ba.cells (k:=0) rfl<|bS Bz (vs:=[]) ?_;intro aj cm cw db ab bx;have dq:=ab.size;refine jW (sz:=1) t.toNat om om ?_;refine cd _ _ cm ⟨some ⟨aj,0,none⟩,0,0⟩ [] [aj] kR (AD.mod ab) ⟨0,E1 bx (Nat.zero_le _)⟩ sI (fun e f=>.inr fun b7=>by
  have f:e=aj:=by simpa using f
  have:=af e b7;omega) _ ?_
 intro o bk ae ar cg cj;have dj:=ae.but.size;have c5:=af i a6;have bh:BP (Iv lo hi) w o:=(AD.mod (xt ai ab)).trans (ae.but.mono fun e f=>by have f:e=i:=f;subst f;exact af e a6);have bu:=(ba.ext ab).mod ae.but (fun h=>by have h:au=i:=h;omega);have bb:=(bw.ext ab).mod ae.but (fun h=>by have h:j=i:=h;omega);have b3:GR o:=hTm o bh;have b2:∀ u,AD o u->Dq 76 [.agg #[.slice (some ⟨i,0,none⟩) n c,.slice b m d]] u (fun v w'=>v = .string (DE (At (D.X.set t.toNat [])))/\AD u w'):=fun u ak=>Iu (ar.arr.ext ak) bo.1 (fun ah a9=>(bo.2.2 ah a9).1) (b3.ext ak);have b8:=bf.lt;have a8:∀ e∈az,lo<=e/\e<hi:=fun e f=>a0.2 e (List.mem_append_right _ f);have bg:DM En o b m 161 D.Y az:=bf.own.keep fun e f=>by
  have h1:=b8 e f;rw [ae.block e (fun h=>bq i a6 e f h.symm),(xt ai ab).block e h1]
 have a7:∀ e∈bk,(e∈ax\/w.heap.size<=e)/\lo<=e/\e≠j:=fun e f=>by
  rcases cj e f with h | h
  .have:=af e h;exact ⟨.inl h,this.1,om⟩
  .have h:e=aj:=by simpa using h
   exact ⟨.inr om,om,om⟩
 have bn:=ar.lt;have b9:=bg.lt;generalize DE (At (D.X.set t.toNat []))=ac at *;have be:∀ (r:World) (g:Nat),BP (fun e=>e=j) o r->o.heap.size<=g->Bs eS r (some ⟨g,0,none⟩) 1 9 [ac]->KA w r lo hi (.tuple #[.agg #[.slice (some ⟨i,0,none⟩) n c,.slice b m d,.string D.s],.slice (some ⟨g,0,none⟩) 1 1,.int .i64 0]) (({ D with X:=D.X.set t.toNat [] },[ac]),0):=by
  intro r g x b4 b0;refine ⟨_,_,_,_,_,_,_,_,_,_,rfl,fun _=>⟨rfl,bm.1,bm.2.1,o.heap.size,x.size,fun u bi=>⟨78,161,bk,az,(ar.keep fun e f=>by
   have h1:=a7 e f;have h2:=bn e f;have h3:=x.size;rw [bi.block e (fun b'=>by rcases h1.1 with h4 | h4;have:=af e h4;omega;omega) om,x.block e h1.2.2 h2]).imp (fun _ _ _ h=>OG.os h),bg.keep fun e f=>by
   have h1:=a8 e f;have h2:=b9 e f;have h3:=x.size;rw [bi.block e (fun b'=>by omega) om,x.block e om h2],List.nodup_append.2 ⟨cg,ci,fun an cc de bp ak=>?_⟩,fun e f=>?_⟩,?_,?_,b0⟩,C0 bh x (fun e f=>.inr om)⟩
  .subst ak;have h1:=a8 an bp;rcases (a7 an cc).1 with h | h
   .exact bq an h an bp rfl
   .omega
  .rcases List.mem_append.1 f with f | f
   .exact ⟨(a7 e f).2.1,bn e f⟩
   .have:=a8 e f;omega
  .intro y ag;cases ag
   exact b4
  .intro y ag;cases ag
   show w.heap.size<=g;omega
 refine Du [] A7 mixed (some ⟨j,0,none⟩) (.seq (pZ [5,1,11,17]) (.alt 4 (.seq (pZ [27,30,35]) .done) 5 (.seq (pZ [22,30,35]) .done))) kR kR ?_;intro ck av;have bd:∀ w',Sr (some ⟨j,0,none⟩) ck w'->AK w' au 0 [.slice (some ⟨i,0,none⟩) n c,.slice b m d,.string D.s]:=Sr.cells (bu.ext av).cells (by rintro ⟨ah,a9,am⟩;cases a9;have am:au=j:=am;omega);have a5:∀ {ah y:World},But j ah y->BP (AL (some (⟨j,0,none⟩:Addr))) ah y:=fun h=>h.mono fun e f=>⟨_,rfl,f⟩;refine Bf (n:=3) kR bd rfl<|E3 (n:=2) kR (k:=0) bd rfl<|dM (b2 _ av) fun cl aa=>⟨AV aa,?_⟩;have ad:AD o cl:=xt av aa;have dk:=ad.size;refine Dd.mk ?_ ?_
 .refine bS BK (vs:=[Value.string ac]) ?_;intro g br ay cf q ao;have aq:=AH (n:=1) (enc:=eS) (xs:=[ac]) AP ao ay rfl dE;refine ⟨AV (xt aa q),AX (vs:=[Value.slice (some ⟨i,0,none⟩) n c,Value.slice b m d,Value.string D.s]) kR (bb.ext (xt ad q)) rfl rfl cE fun r p ap=>⟨(AV (xt aa q)).trans (a5 p.but),AO (jR (n:=3) rfl ap.cells) ?_⟩⟩;exact be r g ((AD.mod (xt ad q)).trans p.but) om (aq.mod p.but (fun y ag h=>by
   cases ag
   have h:g=j:=h;omega)).own
 .refine AX (vs:=[Value.slice (some ⟨i,0,none⟩) n c,Value.slice b m d,Value.string D.s]) kR (bb.ext ad) rfl rfl cE fun r p ap=>⟨(AV aa).trans (a5 p.but),bS BK (vs:=[Value.string ac]) ?_⟩;intro g br ay cf q ao;have aq:=AH (n:=1) (enc:=eS) (xs:=[ac]) AP ao ay rfl dE;refine ⟨((AV aa).trans (a5 p.but)).trans (AD.mod q),AO (jR (n:=3) rfl (ap.ext q).cells) ?_⟩;have dl:=p.but.size;exact be br g (((AD.mod ad).trans p.but).trans (AD.mod q)) om aq.own
theorem N9 (h:Gj w lo hi a n c b m d D.X D.Y) (hhi:hi<=w.heap.size) (ho:Aq D.X m=true) (hs:D.s.size<=1048576) (hY:∀ y∈D.Y,y.length<=1048576) (hTm:∀ u,BP (Iv lo hi) w u->GR u) (hE:Eg w) (hM:EE w) (h1:A4 eI 1 w a1 n1 A.trays) (h2:A4 eI 1 w a2 n2 A.nums) (h3:A4 AE.enc 2 w a3 n3 A.fields) (h4:A4 eS 1 w a4 n4 A.texts) (hA:F8 A) (hb:∀ t∈A.trays,0<=t/\t<=5) {f:AE} (ht:A.trays[0]? = some t) (hf:A.fields[0]? = some f) :
  Dq 35 [.agg #[.slice a n c,.slice b m d,.string D.s],.string Cp,.agg #[.slice a1 n1 c1,.slice a2 n2 c2,.slice a3 n3 c3,.slice a4 n4 c4]] w (fun v w'=>KA w w' lo hi v (BE D Cp A)):=by
 have bq:=hTm w (Vc.BP.refl _ _);have bb:=h.desk;have an:=h.rd;have cj:=an.1.len;have ci:=an.2.len;have bd:=A8 ho;have cc:=bd.1;have ct:=hb t (List.mem_of_getElem? ht);obtain ⟨bx,ba,bo⟩:=an.1;have ch:=ba.len;obtain ⟨aq,bf⟩:=AA (l:=bx) (k:=t.toNat) om;obtain ⟨p,bg,a7⟩:=bo.get bf;have bw:D.X.getD t.toNat []=p:=Af bg;have cl:=a7.1.len;have ck:=(bd.2.2 p (List.mem_of_getElem? bg)).1;have bv:BE D Cp A=((D,[ES (Dp 32 ((F4 p f).1.map Bg))]),(F4 p f).2):=by
  unfold BE;rw [if_neg dE,if_neg dE,if_neg dE,if_neg dE,if_neg dE,if_pos rfl,Af ht,Af hf,bw]
 rw [bv];have bc:=U2 (d:=p) (f:=f);have bp:∀ u,AD w u->Dq 79 [.slice aq.a aq.n aq.c,.agg ⟨f.enc⟩] u (fun v w'=>∃ a8 m bm,v = .tuple #[.slice a8 m bm,.int .i64 (F4 p f).2]/\A4 Ak.enc 2 w' a8 m (F4 p f).1/\AD u w'):=fun u bn=>M9 (a7.1.ext bn) (hA.f f (List.mem_of_getElem? hf));generalize F4 p f=b0 at *;obtain ⟨bk,a9⟩:=b0;dsimp only at *;refine oV Tryz.func35 ?_;refine AB.box ?_;intro b5 cu b' cm a' au;refine AB.box fun b6 cv ca cn am ax=>jN (z := .agg #[.slice none 0 0,.slice none 0 0,.string { data := #[] }]) ?_;intro al b2 cb co ag bj;have c5:=a'.size;have c6:=am.size;have c7:=ag.size;have ab:AD w b2:=xt (xt a' am) ag;have av:=au.ext (xt am ag);have ay:=ax.ext ag;clear au ax;refine jL ay.cells (k:=0) rfl<|jI (h1.ext ab) 0 rfl ht fun b7 cr cf bt=>jO bt rfl<|Au A7 mixed (pZ [0,5,15,30,11,20,26,36,40,46,52,55,60,65,70,75]) kR kR fun cw aa=>dL av.cells (k:=0) rfl<|pI (ba.ext ab) t.toNat om bf fun b8 cs cg bu=>dO bu rfl<|dL ay.cells (k:=2) rfl<|pI (h3.ext ab) 0 rfl hf fun b4 cq ce br=>dA (n:=2) br rfl<|(bp _ (xt ab aa)).mono ?_;rintro _ b1 ⟨b3,cp,b9,rfl,ar,ad⟩;refine ⟨xt aa ad,?_⟩;have a0:AD w b1:=xt (xt ab aa) ad;have cd:=ar.len;refine dM (Sk ar om (fun bi be=>⟨by have:=bc.2 bi be;exact ⟨om,om⟩,(bc.2 bi be).2.2⟩) (bq.ext a0)) fun ai af=>?_;generalize Dp 32 (bk.map Bg)=i at *;(conv=>whnf);have c8:=aa.size;have cx:=ad.size;have cy:=af.size;have a5:AD w ai:=xt a0 af;have aw:=av.ext (xt (xt aa ad) af);have az:=bj.ext (xt (xt aa ad) af);have a6:∀ (y:ByteArray) (o:World) (e:Nat) (g:AD ai o) (q:ai.heap.size<=e) (x:World) (j:Oa al o x),y=ES i->An eS 1 ai.heap.size 9 o (some ⟨e,0,none⟩) 1 1 [y]->KA w x lo hi (.tuple #[.agg #[.slice a n c,.slice b m d,.string D.s],.slice (some ⟨e,0,none⟩) 1 1,.int .i64 a9]) ((D,[ES i]),a9):=by
  intro y o e g q x j r ac;subst r;have cz:=g.size;have c0:=j.but.size;exact ⟨_,_,_,_,_,_,_,_,_,_,rfl,fun _=>⟨rfl,bb.1,bb.2.1,hi,om,fun u bl=>(((h.ext (xt a5 g)).but j.but om).desk.2.2).mod bl (fun bh h1 h2 h3=>by omega),(fun y r=>by cases r;show hi<=e;omega),(fun y r=>by cases r;show w.heap.size<=e;omega),(ac.mod j.but (fun y r ae=>by cases r;have ae:e=al:=ae;omega)).own⟩,(AD.mod (xt a5 g)).trans_new j.but (fun bh ae=>by have ae:bh=al:=ae;omega)⟩
 by_cases ah:i.size=0
 .have ap:i=⟨#[]⟩:=by
   apply ByteArray.ext;exact Array.eq_empty_of_size_eq_zero ah
  have ao:ES i=bs [45]:=by unfold ES;rw [if_pos ah]
  refine Fh (by simp [ap])<|jA (n:=3) aw.cells rfl<|bS BK (vs:=[Value.string (bs [45])]) ?_;intro e o q bz g aj;have ac:=AH (n:=1) (enc:=eS) (xs:=[bs [45]]) AP aj q rfl dE;exact jS (vs:=[Value.slice a n c,Value.slice b m d,Value.string D.s]) (az.ext g) rfl rfl cE fun x j ak=>AO (jR (n:=3) rfl ak.cells)<|a6 _ o e g q x j ao.symm ac
 .have ap:¬ i=⟨#[]⟩:=fun h=>ah (by rw [h];rfl);have ao:ES i=i:=by unfold ES;rw [if_neg ah]
  refine DY (by simp [ap])<|jA (n:=3) aw.cells rfl<|bS BK (vs:=[Value.string i]) ?_;intro e o q bz g aj;have ac:=AH (n:=1) (enc:=eS) (xs:=[i]) AP aj q rfl dE;exact jS (vs:=[Value.slice a n c,Value.slice b m d,Value.string D.s]) (az.ext g) rfl rfl cE fun x j ak=>AO (jR (n:=3) rfl ak.cells)<|a6 _ o e g q x j ao.symm ac
end
end Go.Proofs.YtalgenmoljcnmaaGreatDoor
namespace Go.M
open Go Go.Vc
variable {A:DF}
theorem U0 {l:List Int} (h:∀ x∈l,BH x) (k:Nat):BH (l.getD k 0):=by
 rw [List.getD_eq_getElem?_getD];cases a:l[k]? with
 | none=>exact ⟨dE,dE⟩
 | some x=>exact h x (List.mem_of_getElem? a)
theorem X7 {l:List AE} (h:∀ x∈l,x.ok) (k:Nat):(l.getD k ⟨0,0⟩).ok:=by
 rw [List.getD_eq_getElem?_getD];cases a:l[k]? with
 | none=>exact ⟨⟨dE,dE⟩,⟨dE,dE⟩⟩
 | some x=>exact h x (List.mem_of_getElem? a)
theorem X9 {l:List ByteArray} (h:∀ x∈l,x.size<=1048576) (k:Nat):(l.getD k ⟨#[]⟩).size<=1048576:=by
 rw [List.getD_eq_getElem?_getD];cases a:l[k]? with
 | none=>exact Nat.zero_le _
 | some x=>exact h x (List.mem_of_getElem? a)
theorem aD7 (w:ByteArray):BH (Df w):=by
 unfold Df
 repeat' split
 all_goals exact ⟨dE,dE⟩
theorem S6 (h:F8 A) (w:ByteArray):(Bb w A).ok:=by
 refine ⟨aD7 w,U0 h.t 0,?_,?_,X7 h.f 0,?_,?_⟩
 .show BH (if Gi (Df w)=true then A.trays.getD 1 0 else 0);split
  .exact U0 h.t 1
  .exact ⟨dE,dE⟩
 .show BH (if w=BM then 0 else A.trays.getD (A.trays.length - 1) 0);split
  .exact ⟨dE,dE⟩
  .exact U0 h.t _
 .show (if w=BM then A.fields.getD 1 ⟨0,0⟩ else ⟨0,0⟩:AE).ok;split
  .exact X7 h.f 1
  .exact ⟨⟨dE,dE⟩,⟨dE,dE⟩⟩
 .show (if w=B1 then A.texts.getD 0 ⟨#[]⟩ else ⟨#[]⟩:ByteArray).size<=1048576;split
  .exact X9 h.x 0
  .exact Nat.zero_le _
theorem Y2 {D:B7} {w:ByteArray} (h1:w≠Hr) (h2:w≠CU) (h3:w≠CL) (h4:w≠Cd) (h5:w≠D2) (h6:w≠Cp) (h7:w≠GS) :
  (BE D w A).2=(Ap D.X D.Y (AG D.X) (Bb w A)).2/\((BE D w A).2=0->(BE D w A).1=({ D with X:=(Ap D.X D.Y (AG D.X) (Bb w A)).1.1,Y:=(Ap D.X D.Y (AG D.X) (Bb w A)).1.2 },if w≠BM then [DE (At (Ap D.X D.Y (AG D.X) (Bb w A)).1.1)] else [ES (GV ((Ap D.X D.Y (AG D.X) (Bb w A)).1.2.getLastD []))])):=by
 unfold BE;rw [if_neg h1,if_neg h2,if_neg h3,if_neg h4,if_neg h5,if_neg h6,if_neg h7];by_cases b:(Ap D.X D.Y (AG D.X) (Bb w A)).2≠0
 .rw [if_pos b];exact ⟨rfl,fun d=>absurd d b⟩
 .rw [if_neg b];have c:(Ap D.X D.Y (AG D.X) (Bb w A)).2=0:=Classical.not_not.1 b;by_cases a:w≠BM
  .rw [if_pos a,if_pos a];exact ⟨c.symm,fun _=>rfl⟩
  .rw [if_neg a,if_neg a];exact ⟨c.symm,fun _=>rfl⟩
end Go.M
namespace Go.Proofs.YtalgenmoljcnmaaGreatDoor
open Go Go.RowKit Go.Vc Go.M
variable {w:World} {lo hi n c m d n1 n2 n3 n4 c1 c2 c3 c4:Nat} {a b a1 a2 a3 a4:Option Addr} {D:B7} {A:DF}
theorem Se (h:Gj w lo hi a n c b m d D.X D.Y) (hhi:hi<=w.heap.size) (ho:Aq D.X m=true) (hs:D.s.size<=1048576) (hY:∀ y∈D.Y,y.length<=1048576) (hTm:∀ u,BP (Iv lo hi) w u->GR u) (hE:Eg w) (hM:EE w) (h1:A4 eI 1 w a1 n1 A.trays) (h2:A4 eI 1 w a2 n2 A.nums) (h3:A4 AE.enc 2 w a3 n3 A.fields) (h4:A4 eS 1 w a4 n4 A.texts) (hA:F8 A) (hb:∀ t∈A.trays,0<=t/\t<=5) {t:Int} {f g:AE} (ht:A.trays[0]? = some t) (hf:A.fields[0]? = some f) (hg:A.fields[1]? = some g) :
  Dq 35 [.agg #[.slice a n c,.slice b m d,.string D.s],.string GS,.agg #[.slice a1 n1 c1,.slice a2 n2 c2,.slice a3 n3 c3,.slice a4 n4 c4]] w (fun v w'=>KA w w' lo hi v (BE D GS A)):=by
 have a7:=hTm w (Vc.BP.refl _ _);have a9:=h.desk;have ap:=h.rd;have co:=ap.1.len;have cm:=ap.2.len;have bb:=A8 ho;have cg:=bb.1;have c0:=hb t (List.mem_of_getElem? ht);obtain ⟨b1,a8,bq⟩:=ap.1;have cl:=a8.len;obtain ⟨i,bc⟩:=AA (l:=b1) (k:=t.toNat) om;obtain ⟨j,bd,al⟩:=bq.get bc;have bz:D.X.getD t.toNat []=j:=Af bd;have cq:=al.1.len;have cp:=(bb.2.2 j (List.mem_of_getElem? bd)).1;have a':BE D GS A=((D,CM (HK j f g).1),(HK j f g).2):=by
  unfold BE;rw [if_neg dE,if_neg dE,if_neg dE,if_neg dE,if_neg dE,if_neg dE,if_pos rfl,Af ht,Af hf,Af hg,bz]
 rw [a'];have br:∀ u am a5,AD w u->A4 AE.enc 2 u am 1 [g]->Dq 81 [.agg ⟨L7 f am a5⟩,.slice i.a i.n i.c] u (fun v w'=>∃ o m ad,v = .tuple #[.slice o m ad,.int .i64 (HK j f g).2]/\An eS 1 u.heap.size 9 w' o m ad (HK j f g).1/\m<=41/\AD u w'):=fun u am a5 q bg=>M5 (al.1.ext q) al.2 (hA.f f (List.mem_of_getElem? hf)) (hA.f g (List.mem_of_getElem? hg)) bg (a7.ext q);generalize HK j f g=b2 at *;obtain ⟨bl,cc⟩:=b2;dsimp only at *;refine oV Tryz.func35 ?_;refine AB.box ?_;intro bn c7 cd ct a6 av;refine AB.box fun b9 c8 ce cu ao ax=>jN (z := .agg #[.slice none 0 0,.slice none 0 0,.string { data := #[] }]) ?_;intro an b4 cf cv ah bj;have de:=a6.size;have df:=ao.size;have dg:=ah.size;have ac:AD w b4:=xt (xt a6 ao) ah;have aw:=av.ext (xt ao ah);have aj:=ax.ext ah;clear av ax;refine jL aj.cells (k:=0) rfl<|jI (h1.ext ac) 0 rfl ht fun b' cy cj bw=>jO bw rfl<|Au A7 mixed (pZ [0,20,50,55,65,6,10,16,26,30,36,61,70,76,42,46,82,85,90,95,100,105]) kR kR fun c9 aa=>dL aj.cells (k:=2) rfl<|pI (h3.ext ac) 0 rfl hf fun ca cz ck bx=>dA (n:=2) bx rfl<|dL aj.cells (k:=2) rfl<|pI (h3.ext ac) 1 rfl hg fun b6 cw ch bu=>dA (n:=2) bu rfl<|dL aw.cells (k:=0) rfl<|pI (a8.ext ac) t.toNat om bc fun b7 cx ci bv=>dO bv rfl<|bS J1 (vs:=[Value.agg #[Value.int IntKind.i64 g.from_,Value.int IntKind.i64 g.to_]]) ?_;intro b8 au bp cs r bh;have bk:=AH (n:=1) (enc:=AE.enc) (xs:=[g]) Br bh bp rfl dE;refine ⟨xt aa r,BQ.build T7 rfl ?_⟩;have ay:AD w au:=xt (xt ac aa) r;refine (br _ _ _ ay (bk.own.arr Br)).mono ?_;rintro _ bf ⟨p,ar,bo,rfl,ak,cn,x⟩;refine ⟨xt (xt aa r) x,?_⟩;have dh:=aa.size;have c':=r.size;have da:=x.size;have az:AD w bf:=xt ay x;have b0:¬ AL p bn:=fun e=>by
  obtain ⟨y,aq,a'⟩:=e;have:=ak.new y aq;omega
 have bt:∀ u,AD bf u->Dq 82 [.slice p ar bo] u (fun v w'=>∃ o ad,v = .slice o (ar+1) ad/\An eS 1 au.heap.size 9 w' o (ar+1) ad (CM bl)/\(∀ i,AL o i->AL p i\/u.heap.size<=i)/\BP (AL p) u w'):=fun u q=>Kp (ak.ext q) (Nat.le_trans x.size q.size) om (a7.ext (xt az q));refine OZ A7 mixed p (pZ [5,15,1,12,23,25,30]) kR kR fun c5 ae=>Bf (n:=3) kR (Sr.cells ((aw.ext (xt (xt (xt aa r) x) ae)).cells) b0) rfl<|(bt _ ae).mono ?_;rintro _ b3 ⟨b5,cb,rfl,af,cr,ai⟩;refine ⟨ai,?_⟩;have db:=ae.size;have dc:=ai.size;have ba:∀ ab,AL p ab->au.heap.size<=ab:=fun ab e=>AQ ak.new ab e;refine jS (vs:=[Value.slice a n c,Value.slice b m d,Value.string D.s]) ((bj.ext (xt (xt (xt aa r) x) ae)).mod ai (fun e=>by have:=ba an e;omega)) rfl rfl cE fun c6 ag bi=>AO (jR (n:=3) rfl bi.cells) ?_;have dd:=ag.but.size;have a0:AD w b3:=xm (xt az ae) ai (fun ab e=>by have:=ba ab e;omega);exact ⟨_,_,_,_,_,_,_,_,_,_,rfl,fun _=>⟨rfl,a9.1,a9.2.1,hi,om,fun u bm=>(((h.ext a0).but ag.but om).desk.2.2).mod bm (fun be h1 h2 h3=>by omega),af.new.mono om,af.new.mono om,(af.mod ag.but (fun y aq e=>by
  have e:y.block=an:=e;have:=af.new y aq;omega)).own⟩,(AD.mod a0).trans_new ag.but (fun be e=>by have e:be=an:=e;omega)⟩
theorem Q0 {word:ByteArray} (hst:word=Dr\/word=C5\/word=DJ\/word=DV\/word=EY\/word=B1\/word=BM) (h:Gj w lo hi a n c b m d D.X D.Y) (hhi:hi<=w.heap.size) (ho:Aq D.X m=true) (hs:D.s.size<=1048576) (hY:∀ y∈D.Y,y.length<=1048576) (hTm:∀ u,BP (Iv lo hi) w u->GR u) (hE:Eg w) (hM:EE w) (h1:A4 eI 1 w a1 n1 A.trays) (h2:A4 eI 1 w a2 n2 A.nums) (h3:A4 AE.enc 2 w a3 n3 A.fields) (h4:A4 eS 1 w a4 n4 A.texts) (hA:F8 A) (hb:∀ t∈A.trays,0<=t/\t<=5) {t0:Int} (ht:A.trays[0]? = some t0) (hSt:∀ u,AD w u->Dq 153 [.string word,.agg #[.slice a1 n1 c1,.slice a2 n2 c2,.slice a3 n3 c3,.slice a4 n4 c4]] u (fun v w'=>v = .agg ⟨(Bb word A).enc⟩/\AD u w')) :
  Dq 35 [.agg #[.slice a n c,.slice b m d,.string D.s],.string word,.agg #[.slice a1 n1 c1,.slice a2 n2 c2,.slice a3 n3 c3,.slice a4 n4 c4]] w (fun v w'=>KA w w' lo hi v (BE D word A)):=by
 have ax:=hTm w (Vc.BP.refl _ _);have bz:=h.desk;have j:=h.rd;have b2:=j.1.len;have b1:=j.2.len;have a5:=A8 ho;have bv:=a5.1;obtain ⟨ah,ai⟩:(BE D word A).2=_/\((BE D word A).2=0->(BE D word A).1=_):=by
  refine Y2 ?_ ?_ ?_ ?_ ?_ ?_ ?_<;>(rcases hst with h | h | h | h | h | h | h<;>rw [h]<;>decide)
 have aw:∀ u,AD w u->Dq 83 [.agg #[.slice a n c,.slice b m d,.string D.s],.string word,.agg ⟨[.slice a1 n1 c1,.slice a2 n2 c2,.slice a3 n3 c3,.slice a4 n4 c4]⟩] u _:=fun u g=>SZ (X:=D.X) (Y:=D.Y) (c:=c) (d:=d) (s:=D.s) (j.1.ext g) (j.2.ext g) ho hY (S6 hA word) (fun a6=>by rw [a6];rfl) (ax.ext g) rfl (fun cb av=>hSt _ (xt g av));generalize BE D word A=bf at *;obtain ⟨b',ca⟩:=bf;dsimp only at ah ai;subst ah;rcases hst with rfl | rfl | rfl | rfl | rfl | rfl | rfl
 all_goals
  refine oV Tryz.func35 ?_;refine AB.box ?_;intro bj cc bq b3 ae ab;refine AB.box fun bk cd br b4 r ac=>jN (z := .agg #[.slice none 0 0,.slice none 0 0,.string { data := #[] }]) ?_;intro q bg bt b5 i ak;have ch:=ae.size;have ci:=r.size;have cj:=i.size;have p:AD w bg:=xt (xt ae r) i;have aj:=ab.ext (xt r i);have ad:=ac.ext i;clear ab ac;refine jL ad.cells (k:=0) rfl<|jI (h1.ext p) 0 rfl ht fun bl b7 bw ay=>jO ay rfl<|jA (n:=3) aj.cells rfl<|jA (n:=4) ad.cells rfl<|(aw _ p).mono ?_;rintro _ ce ⟨ao,a',ar,ap,a9,au,bi,b6,bm,rfl,be,x⟩;have ck:=x.size;refine jS (vs:=[Value.slice ao a' ar,Value.slice ap a9 au,Value.string D.s]) (ak.ext x) rfl rfl cE fun cf f al=>AO (jR (n:=3) rfl al.cells) ?_;have cl:=f.but.size;have b0:lo<=w.heap.size:=by
   obtain ⟨bp,bu,am,bh,ag⟩:=h;obtain ⟨cg,a7⟩:=AA (l:=D.X) (k:=0) om;obtain ⟨aq,bn,bo,bx,az,_⟩:=am.own.hand (List.nodup_append.1 ag.1).1 a7;have:=ag.2 aq (List.mem_append_left _ az);omega
  refine ⟨_,_,_,_,_,_,_,_,_,_,rfl,fun af=>?_,(AD.mod (xt p x)).trans_new f.but (fun o e=>by have e:o=q:=e;omega)⟩;obtain ⟨ba,bb,a0,b8,b9,bc,aa,bd⟩:=be af;rw [ai af];refine ⟨rfl,ba,bb,a0,om,fun u an=>((bc.mod f.but (fun o h1 h2 e=>by have e:o=q:=e;omega)).mod an (fun o h1 h2 e=>by omega)).wide om (Nat.le_refl _),aa,aa.mono om,?_⟩;exact bd.mod f.but (fun y a8 e=>by
   have e:y.block=q:=e;have:=aa y a8;omega)
end Go.Proofs.YtalgenmoljcnmaaGreatDoor
namespace Go.M
open Go Go.Vc
variable {D:B7} {r:(B7×List ByteArray)×Int}
noncomputable def KB (D:B7) (r:(B7×List ByteArray)×Int):B7×List ByteArray:=if r.2≠0 then (D,[Fe r.2]) else r.1
theorem JY (h:r.2≠0):KB D r=(D,[Fe r.2]):=if_pos h
theorem JX (h:r.2=0):KB D r=r.1:=if_neg (by simp [h])
end Go.M
namespace Go.Proofs.YtalgenmoljcnmaaGreatDoor
open Go Go.RowKit Go.Vc Go.M
theorem Wp {w w1 w2:World} {b bT:Nat} {D:B7} {out:List ByteArray} {b2 ao:Option Addr} {n c m d no co t t2:Nat} {fX fY fX':List Nat} {X:List (List (List Int))} (B:B8 w b [.slice (some ⟨bT,0,none⟩) n c,.slice b2 m d,.string D.s,.slice ao no co] 49) (OY:DM En w b2 m t2 D.Y fY) (G:An eS 1 0 9 w ao no co out)
  (nd:(b :: (BW ao++(fX++fY))).Nodup) (hX:∀ k∈fX,k<w.heap.size) (e:AD w w1) (ch:Oa bT w1 w2) (hbT:bT∈fX) (OX':DM Gm w2 (some ⟨bT,0,none⟩) n t X fX') (nd':fX'.Nodup) (sub:∀ j∈fX',j∈fX\/w.heap.size<=j):Rm w (b :: (BW ao++(fX++fY))) b w2 ⟨X,D.Y,D.s⟩ out:=by
 obtain ⟨o,ae⟩:=List.nodup_cons.1 nd;obtain ⟨ad,ab,q⟩:=List.nodup_append.1 ae;obtain ⟨ah,ac,u⟩:=List.nodup_append.1 ab;have ag:=B.lt;have y:=G.lt;have v:=OY.lt;have z:b≠bT:=fun a=>o (a▸List.mem_append_right _ (List.mem_append_left _ hbT));have x:∀ k∈BW ao,k≠bT:=fun k f a=>q k f bT (List.mem_append_left _ hbT) a;have aa:∀ k∈fY,k≠bT:=fun k f a=>u bT hbT k f a.symm;refine ⟨b :: (BW ao++(fX'++fY)),⟨_,n,c,b2,m,d,ao,no,co,t,t2,fX',fY,(B.ext e).mod ch.but (fun a=>z a),OX',OY.keep fun k f=>?_,(G.ext e).kept fun r p=>ch.block _ (x _ (Az.2 ⟨r,p,rfl⟩)),rfl,?_⟩,?_,?_⟩
 .rw [ch.block k (aa k f),e.block k (v k f)]
 .refine List.nodup_cons.2 ⟨fun a=>?_,List.nodup_append.2 ⟨ad,List.nodup_append.2 ⟨nd',ac,fun i h af g l=>?_⟩,fun i h af g l=>?_⟩⟩
  .rcases List.mem_append.1 a with a | a
   .exact o (List.mem_append_left _ a)
   rcases List.mem_append.1 a with a | a
   .rcases sub b a with a | a
    .exact o (List.mem_append_right _ (List.mem_append_left _ a))
    .omega
   .exact o (List.mem_append_right _ (List.mem_append_right _ a))
  .subst l;rcases sub i h with a | a
   .exact u i a i g rfl
   .have:=v i g;omega
  .subst l;obtain ⟨r,p,l⟩:=Az.1 h;rcases List.mem_append.1 g with g | g
   .rcases sub _ g with a | a
    .exact q _ h _ (List.mem_append_left _ a) rfl
    .have:=y r p;omega
   .exact q _ h _ (List.mem_append_right _ g) rfl
 .intro k f;rcases List.mem_cons.1 f with rfl | f
  .exact .inl sI
  rcases List.mem_append.1 f with f | f
  .exact .inl (List.mem_cons_of_mem _ (List.mem_append_left _ f))
  rcases List.mem_append.1 f with f | f
  .exact (sub k f).imp (fun a=>List.mem_cons_of_mem _ (List.mem_append_right _ (List.mem_append_left _ a))) id
  .exact .inl (List.mem_cons_of_mem _ (List.mem_append_right _ (List.mem_append_right _ f)))
 .exact (AD.mod e).trans (ch.but.mono fun k f=>by
   have f:k=bT:=f;subst f;simp [hbT])
end Go.Proofs.YtalgenmoljcnmaaGreatDoor
