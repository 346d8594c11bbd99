/- Parts of the proof; no conditions of its own. -/
import Derived.Test.YtalgenmoljcnmaaGreatDoorRefG
import Derived.Test.YtalgenmoljcnmaaGreatDoorExec
import Derived.Test.YtalgenmoljcnmaaGreatDoorArgs
namespace Go.Proofs.YtalgenmoljcnmaaGreatDoor
open Go Go.RowKit Go.Vc Go.M
variable {w w' w1 w2:World} {fp fX fY:List Nat} {b n c m d no co n' c' t t2:Nat} {D D':Bv} {out out':List ByteArray} {a b2 ao a':Option Addr}
def Oq (w:World) (fp:List Nat) (b:Nat) (D:Bv) (out:List ByteArray):Prop :=
 ∃ (a:Option Addr) (n c:Nat) (b2:Option Addr) (m d:Nat) (ao:Option Addr) (no co t t2:Nat) (fX fY:List Nat),
  CD w b [.slice a n c,.slice b2 m d,.string D.s,.slice ao no co] 49/\EO Jc w a n t D.X fX/\EO G4 w b2 m t2 D.Y fY/\Ai eS 1 0 9 w ao no co out/\fp=b :: (BU ao++(fX++fY))/\fp.Nodup
def Qq (w:World) (fp:List Nat) (b:Nat) (w':World) (D:Bv) (out:List ByteArray):Prop:=∃ fp',Oq w' fp' b D out/\(∀ k∈fp',k∈fp\/w.heap.size<=k)/\BY (fun k=>k∈fp) w w'
theorem Oq.lt (h:Oq w fp b D out):∀ k∈fp,k<w.heap.size:=by
 obtain ⟨j,t,n,m,s,p,l,no,o,v,x,q,r,c,e,f,d,rfl,u⟩:=h;intro k a;rcases List.mem_cons.1 a with rfl | a
 .exact c.lt
 rcases List.mem_append.1 a with a | a
 .obtain ⟨i,g,rfl⟩:=A2.1 a;exact d.lt i g
 rcases List.mem_append.1 a with a | a
 .exact e.lt k a
 .exact f.lt k a
theorem Oq.mod {S:Nat->Prop} (h:Oq w fp b D out) (M:BY S w w') (hs:∀ k∈fp,¬ S k):Oq w' fp b D out:=by
 have q:=h.lt;obtain ⟨l,t,n,m,s,p,c,no,o,v,x,d,e,f,i,j,g,rfl,u⟩:=h;have a:∀ k∈b :: (BU c++(d++e)),w'.heap[k]? = w.heap[k]? := fun k a=>M.block k (hs k a) (q k a);refine ⟨l,t,n,m,s,p,c,no,o,v,x,d,e,f.mod M (hs b sI),i.keep fun k h=>a k ?_,j.keep fun k h=>a k ?_,g.kept fun y r=>a _ ?_,rfl,u⟩
 .simp [h]
 .simp [h]
 .exact List.mem_cons_of_mem _ (List.mem_append_left _ (A2.2 ⟨y,r,rfl⟩))
theorem Oq.ext (h:Oq w fp b D out) (e:AD w w'):Oq w' fp b D out:=h.mod (S:=fun _=>False) e.mod fun _ _ h=>h
theorem Wq (h:Oq w fp b D out) (e:AD w w'):Qq w fp b w' D out:=⟨fp,h.ext e,fun _ a=>.inl a,e.mod⟩
theorem Ll {fp1:List Nat} (s1:∀ k∈fp1,k∈fp\/w.heap.size<=k) (M1:BY (fun k=>k∈fp) w w1) (hl:∀ k∈fp,k<w.heap.size) (h:Qq w1 fp1 b w2 D' out'):Qq w fp b w2 D' out':=by
 obtain ⟨g,f,l,a⟩:=h;have m:=M1.size;refine ⟨g,f,fun e j=>?_,⟨a.os.trans M1.os,a.tape.trans M1.tape,a.output.trans M1.output,Nat.le_trans M1.size a.size,fun c d i=>?_⟩⟩
 .rcases l e j with h | h
  .exact s1 e h
  .exact .inr om
 .rw [a.block c (fun h=>(s1 c h).elim d om) om,M1.block c d i]
theorem CW (h:Oq w fp b D out) (e:AD w w1) (k:Qq w1 fp b w2 D' out'):Qq w fp b w2 D' out':=by
 obtain ⟨d,c,i,a⟩:=k;have j:=e.size;exact ⟨d,c,fun g f=>(i g f).imp id om,(AD.mod e).trans a⟩
theorem Qp (B:CD w b [.slice a n c,.slice b2 m d,.string D.s,.slice ao no co] 49) (OX:EO Jc w a n t D.X fX) (OY:EO G4 w b2 m t2 D.Y fY) (G:Ai eS 1 0 9 w ao no co out)
  (nd:(b :: (BU ao++(fX++fY))).Nodup) (G1:Ai eS 1 0 9 w1 a' n' c' out') (M:BY (AN ao) w w1) (hi:∀ k,AN a' k->AN ao k\/w.heap.size<=k) (ch:OW b w1 w2) (B2:CD w2 b [.slice a n c,.slice b2 m d,.string D.s,.slice a' n' c'] 49):Qq w (b :: (BU ao++(fX++fY))) b w2 D out':=by
 have u:Oq w (b :: (BU ao++(fX++fY))) b D out:=⟨a,n,c,b2,m,d,ao,no,co,t,t2,fX,fY,B,OX,OY,G,rfl,nd⟩;have o:=u.lt;obtain ⟨j,z⟩:=List.nodup_cons.1 nd;obtain ⟨ac,y,r⟩:=List.nodup_append.1 z;have ab:=B.lt;have l:∀ k∈fX++fY,w2.heap[k]? = w.heap[k]? := fun k e=>by
  rw [ch.block k (fun g=>j (g▸List.mem_append_right _ e)),M.block k (fun f=>r k (A2.2 f) k e rfl) (o k (List.mem_cons_of_mem _ (List.mem_append_right _ e)))]
 have i:∀ k∈BU a',k∈BU ao\/w.heap.size<=k:=fun k e=>(hi k (A2.1 e)).imp (fun f=>A2.2 f) id;have p:∀ k∈BU a',k≠b:=fun k e g=>by
  subst g;rcases i k e with f | f
  .exact j (List.mem_append_left _ f)
  .omega
 refine ⟨b :: (BU a'++(fX++fY)),⟨a,n,c,b2,m,d,a',n',c',t,t2,fX,fY,B2,OX.keep fun k e=>l k (List.mem_append_left _ e),OY.keep fun k e=>l k (List.mem_append_right _ e),G1.kept fun aa x=>ch.block _ (p _ (A2.2 ⟨aa,x,rfl⟩)),rfl,?_⟩,?_,?_⟩
 .refine List.nodup_cons.2 ⟨fun f=>?_,List.nodup_append.2 ⟨by cases a'<;>simp [BU],y,fun h v ad q g=>?_⟩⟩
  .rcases List.mem_append.1 f with f | f
   .exact p b f rfl
   .exact j (List.mem_append_right _ f)
  .subst g;rcases i h v with f | f
   .exact r h f h q rfl
   .have:=o h (List.mem_cons_of_mem _ (List.mem_append_right _ q));omega
 .intro k e;rcases List.mem_cons.1 e with rfl | e
  .exact .inl sI
  rcases List.mem_append.1 e with e | e
  .exact (i k e).imp (fun f=>List.mem_cons_of_mem _ (List.mem_append_left _ f)) id
  .exact .inl (List.mem_cons_of_mem _ (List.mem_append_right _ e))
 .exact (M.mono fun k e=>List.mem_cons_of_mem _ (List.mem_append_left _ (A2.2 e))).trans (ch.but.mono fun k e=>by have e:k=b:=e;simp [e])
theorem KG {b2':Option Addr} {m' d' t' t2':Nat} {gX gY:List Nat} {X:List (List (List Int))} {Y:List (List A9)} {s:ByteArray} (B:CD w b [.slice a n c,.slice b2 m d,.string D.s,.slice ao no co] 49) (OX:EO Jc w a n t D.X fX) (OY:EO G4 w b2 m t2 D.Y fY) (G:Ai eS 1 0 9 w ao no co out)
  (nd:(b :: (BU ao++(fX++fY))).Nodup) (e:AD w w1) (OX1:EO Jc w1 a' n' t' X gX) (OY1:EO G4 w1 b2' m' t2' Y gY) (ndg:(gX++gY).Nodup) (hg:∀ k∈gX++gY,k∈fX++fY\/w.heap.size<=k) (ch:OW b w1 w2) (B2:CD w2 b [.slice a' n' c',.slice b2' m' d',.string s,.slice ao no co] 49):Qq w (b :: (BU ao++(fX++fY))) b w2 ⟨X,Y,s⟩ out:=by
 obtain ⟨p,v⟩:=List.nodup_cons.1 nd;obtain ⟨u,z,x⟩:=List.nodup_append.1 v;have y:=B.lt;have q:=G.lt;have h:∀ k∈gX++gY,k≠b:=fun k f e=>by
  subst e;rcases hg k f with g | g
  .exact p (List.mem_append_right _ g)
  .omega
 have l:∀ k∈BU ao,k≠b:=fun k f e=>p (e▸List.mem_append_left _ f);refine ⟨b :: (BU ao++(gX++gY)),⟨a',n',c',b2',m',d',ao,no,co,t',t2',gX,gY,B2,OX1.keep fun k f=>ch.block k (h k (List.mem_append_left _ f)),OY1.keep fun k f=>ch.block k (h k (List.mem_append_right _ f)),(G.ext e).kept fun j i=>ch.block _ (l _ (A2.2 ⟨j,i,rfl⟩)),rfl,?_⟩,?_,?_⟩
 .refine List.nodup_cons.2 ⟨fun g=>?_,List.nodup_append.2 ⟨u,ndg,fun aa o ab r e=>?_⟩⟩
  .rcases List.mem_append.1 g with g | g
   .exact l b g rfl
   .exact h b g rfl
  .subst e;obtain ⟨j,i,rfl⟩:=A2.1 o;rcases hg _ r with g | g
   .exact x _ o _ g rfl
   .have:=q j i;omega
 .intro k f;rcases List.mem_cons.1 f with rfl | f
  .exact .inl sI
  rcases List.mem_append.1 f with f | f
  .exact .inl (List.mem_cons_of_mem _ (List.mem_append_left _ f))
  .exact (hg k f).imp (fun g=>List.mem_cons_of_mem _ (List.mem_append_right _ g)) id
 .exact (AD.mod e).trans (ch.but.mono fun k f=>by have f:k=b:=f;simp [f])
theorem FA (h:Oq w fp b D out) (ho:out.length<=100000000) (t:ByteArray) :
  Dq 21 [.pointer (some ⟨b,0,none⟩),.string t] w (fun _ w'=>Qq w fp b w' D (out++[t])):=by
 obtain ⟨y,am,ad,ab,al,ag,aa,no,af,ao,an,ah,ai,c,o,p,d,rfl,f⟩:=h;have aj:=d.len;refine oV Tryz.func21 ?_;refine jL c.cells (k:=3) rfl ?_;refine bS BI (vs:=[Value.string t]) ?_;intro ac ap r ak a g;have l:=AG (n:=1) (enc:=eS) (xs:=[t]) AQ g r rfl dE;refine AM (enc:=eS) BI AQ (d.ext a) (l.own.arr AQ) (by intro au _;simp [eS,AE]) om om om ?_;intro z ae aq m e u;have x:=(List.nodup_cons.1 f).1;have i:=(c.ext a).mod e (fun h=>x (List.mem_append_left _ (A2.2 h)));have av:=a.size;refine jT i (k:=3) sI rfl ?_;intro ar q j;exact Qp c o p d f m ((AD.mod a).trans e) (fun v s=>(u v s).imp id om) q j
theorem D5 (h:Oq w fp b D out) (ho:out.length<=100000000) (code:Int) :
  Dq 19 [.pointer (some ⟨b,0,none⟩),.int .i64 code] w (fun v w'=>(code=0/\v = .bool false/\w'=w)\/(code≠0/\v = .bool true/\Qq w fp b w' D (out++[E1 code]))):=by
 by_cases c:code=0
 .refine oV Tryz.func19 ?_;refine iY ?_;exact .inl ⟨c,rfl,rfl⟩
 .refine oV Tryz.func19 ?_;conv=>whnf
  refine iN ?_;refine (Q2 _ _).mono ?_;rintro _ e ⟨rfl,a⟩;refine Ao (Nat.le_trans (Nat.add_le_add_left (Gp _) _) dE) ?_;refine (FA (h.ext a) ho (E1 code)).mono ?_;rintro _ f d;exact .inr ⟨c,rfl,CW h a d⟩
theorem M7 (h:Oq w fp b D out) (ho:out.length<=10000000) {al:Option Addr} {nl cl:Nat} {ls:List ByteArray} (hA:A4 eS 1 w al nl ls) (hl:nl<=100000) :
  Dq 101 [.pointer (some ⟨b,0,none⟩),.slice al nl cl] w (fun _ w'=>Qq w fp b w' D (out++CI ls)):=by
 have v:=hA.len;have t:=h.lt;obtain ⟨ab,aq,af,ae,ap,ai,ad,no,ah,au,ar,aj,ak,a,p,q,c,rfl,g⟩:=h;have ao:=c.len;refine oV Tryz.func101 ?_;refine jL a.cells (k:=3) rfl ?_;refine AM (enc:=eS) BI AQ c hA (by intro az _;simp [eS,AE]) om om om ?_;intro ac ag av l f x;have z:=(List.nodup_cons.1 g).1;have i:=a.mod f (fun h=>z (List.mem_append_left _ (A2.2 h)));refine jT i (k:=3) sI rfl ?_;intro aw r j;obtain ⟨am,d,aa,o⟩:=Qp a p q c g l f (fun y u=>(x y u).imp id om) r j;have an:=Bc (n:=(nl:Int)) om om;refine (B7 (by unfold BM;omega) _).mono ?_;rintro _ ax ⟨rfl,e⟩;refine Ao (by simp only [ByteArray.size_append,AV,CO,List.length_cons,List.length_nil];omega) ?_;refine (FA (d.ext e) (by rw [List.length_append];omega) _).mono ?_;rintro _ ay m;have s:out++CI ls=(out++ls)++[⟨#[111,107,32]⟩++BP (nl:Int)]:=by rw [List.append_assoc,<- v];rfl
 (conv=>whnf);rw [s];exact Ll aa o t (CW d e m)
end Go.Proofs.YtalgenmoljcnmaaGreatDoor
namespace Go.M
open Go Go.Vc
variable {t:ByteArray} {p:List UInt8}
def aA9 (p:List UInt8):Bool:=(List.range p.length).all fun i=>(decide (p[i]?≠some 116) || !(p.take i).contains 110) && (decide (p[i]? = some 116) || decide (p[i]? = some 110) || decide (p[i]? = some 102) || decide (p[i]? = some 120)) && (decide (p[i]?≠some 120) || !(p.take i).contains 120)
theorem aC1 (h:(deskWordsM.any fun x=>decide (x=t))=true):aA9 (BW t)=true:=by
 have:=SA h;generalize BW t=a at *;revert a;decide
theorem aA8 (h:(deskWordsM.any fun x=>decide (x=t))=true):(BW t).length<=4:=by
 have:=SA h;generalize BW t=a at *;revert a;decide
theorem Yo (h:aA9 p=true) {i:Nat} {c:UInt8} (hc:p[i]? = some c):(c=116->110∉p.take i)/\(c=116\/c=110\/c=102\/c=120)/\(c=120->120∉p.take i):=by
 have g:=(List.getElem?_eq_some_iff.1 hc).1;have:=List.all_eq_true.1 h i (List.mem_range.2 g);rw [hc] at this;simp only [Bool.and_eq_true,Bool.or_eq_true,decide_eq_true_eq,Option.some.injEq,Bool.not_eq_true',List.contains_eq_mem,decide_eq_false_iff_not,ne_eq] at this;obtain ⟨⟨d,e⟩,f⟩:=this;refine ⟨fun a=>d.resolve_left (fun b=>b a),by rcases e with ((h | h) | h) | h<;>simp [h],fun a=>f.resolve_left (fun b=>b a)⟩
theorem Wp {ws:List ByteArray}:∀ i,((Cs ((p.zip ws).take i)).1.nums≠[]->110∈p.take i)/\((Cs ((p.zip ws).take i)).1.texts≠[]->∃ c∈p.take i,c≠116/\c≠110/\c≠102):=by
 intro i;induction i with
 | zero=>simp [Cs,D0]
 | succ i d =>
  cases f:(p.zip ws)[i]? with
  | none =>
   have l:(p.zip ws).length<=i:=by simpa using f
   rw [List.take_of_length_le om,<- List.take_of_length_le l];refine ⟨fun a=>List.mem_of_mem_take (i:=i) ?_,fun a=>?_⟩
   .have:=d.1 a;rw [List.take_take];simpa using this
   .obtain ⟨c,e,b⟩:=d.2 a;exact ⟨c,(List.take_subset_take_left p om) e,b⟩
  | some n =>
   obtain ⟨c,o⟩:=n;have m:p[i]? = some c:=by
    rw [List.getElem?_zip_eq_some] at f;exact f.1
   have g:c∈p.take (i+1):=by
    rw [List.take_add_one,m];simp
   rw [Lj f];split
   .unfold Cl;split
    .exact ⟨fun a=>(List.take_subset_take_left p om) (d.1 a),fun a=>by obtain ⟨c,e,b⟩:=d.2 a;exact ⟨c,(List.take_subset_take_left p om) e,b⟩⟩
    split
    .rename_i j;exact ⟨fun _=>j▸g,fun a=>by obtain ⟨c,e,b⟩:=d.2 a;exact ⟨c,(List.take_subset_take_left p om) e,b⟩⟩
    split
    .exact ⟨fun a=>(List.take_subset_take_left p om) (d.1 a),fun a=>by obtain ⟨c,e,b⟩:=d.2 a;exact ⟨c,(List.take_subset_take_left p om) e,b⟩⟩
    .rename_i h b k;exact ⟨fun a=>(List.take_subset_take_left p om) (d.1 a),fun _=>⟨c,g,h,b,k⟩⟩
   .exact ⟨fun a=>(List.take_subset_take_left p om) (d.1 a),fun a=>by obtain ⟨c,e,b⟩:=d.2 a;exact ⟨c,(List.take_subset_take_left p om) e,b⟩⟩
end Go.M
namespace Go.Proofs.YtalgenmoljcnmaaGreatDoor
open Go Go.RowKit Go.Vc Go.M
theorem Ls {s:ByteArray} (hs:s.size<=1048576) (w:World):Dq 95 [.string s] w (fun v w'=>∃ f:AF,v = .tuple #[.agg ⟨f.enc⟩,.bool (B1 s).2]/\((B1 s).2=true->f=(B1 s).1)/\AD w w'):=by
 have t:∀ c,Dq 18 [.string s,.int .u8 45] c (fun v w'=>∃ u ai,v = .slice u (Aq 45 s).length ai/\A4 eS 1 w' u (Aq 45 s).length (Aq 45 s)/\AD c w'):=fun c=>(Gl hs 45 c).mono fun _ w' ⟨u,bb,ai,a2,_,ar,aw⟩=>by
  have aj:=ar.arr AQ;have ag:=aj.len;subst ag;exact ⟨u,ai,a2,aj,aw⟩
 have k:∀ e∈Aq 45 s,e.size<=1048576:=fun e ah=>by have:=D3 ah;omega
 have j:∀ c (e:ByteArray),e.size<=1048576->Dq 96 [.string e] c (fun v w'=>v = .tuple #[.int .i64 (Al e),.bool (Ef e)]/\AD c w'):=fun c e ah=>Bi ah c;rcases Vh s with ⟨a,b,ab,a3,a4,aa⟩ | ⟨aa,ax⟩
 .rw [ab] at t k;have x:=fun c=>j c a (k a sI);have y:=fun c=>j c b (k b sI);rw [a3] at x;rw [a4] at y;clear j;have ac:([a,b]:List ByteArray)[0]? = some a:=rfl;have ad:([a,b]:List ByteArray)[1]? = some b:=rfl;rw [aa];refine oV Tryz.func95 ?_;refine jN (z := .agg #[.int .i64 0,.int .i64 0]) ?_;intro al ao r an p l;refine (t _).mono ?_;rintro _ ap ⟨ak,am,rfl,h,d⟩;refine jI h 0 rfl ac ?_;intro au a7 ay ae;refine jO ae rfl ?_;refine (x _).mono ?_;rintro _ a9 ⟨rfl,g⟩;refine jI (h.ext g) 1 rfl ad ?_;intro av a8 az af;refine jO af rfl ?_;refine (y _).mono ?_;rintro _ a' ⟨rfl,q⟩;refine AB.build PU rfl ?_;refine AW (vs:=[.int .i64 (Al a),.int .i64 (Al b)]) kR (l.ext (xt (xt d g) q)) rfl rfl (by simp [AE]) ?_;intro aq o m;refine AP (jR (n:=2) rfl m.cells) ?_;exact ⟨⟨Al a,Al b⟩,rfl,(fun _=>rfl),xb (xt (xt (xt p d) g) q) o.but r⟩
 .by_cases ag:(Aq 45 s).length=2
  .obtain ⟨a,b,ab,a0⟩:=ax ag;rw [ab] at t k;have x:=fun c=>j c a (k a sI);have y:=fun c=>j c b (k b sI);have ac:([a,b]:List ByteArray)[0]? = some a:=rfl;have ad:([a,b]:List ByteArray)[1]? = some b:=rfl;clear j;have a1:(Ef a && Ef b)=false:=by rcases a0 with i | i<;>simp [i]
   generalize Ef a=a5 at *;generalize Ef b=a6 at *;rw [aa];refine oV Tryz.func95 ?_;refine jN (z := .agg #[.int .i64 0,.int .i64 0]) ?_;intro al ao r an p l;refine (t _).mono ?_;rintro _ ap ⟨ak,am,rfl,h,d⟩;refine jI h 0 rfl ac ?_;intro au a7 ay ae;refine jO ae rfl ?_;refine (x _).mono ?_;rintro _ a9 ⟨rfl,g⟩;refine jI (h.ext g) 1 rfl ad ?_;intro av a8 az af;refine jO af rfl ?_;refine (y _).mono ?_;rintro _ a' ⟨rfl,q⟩;refine AB.build PU rfl ?_;cases a5
   rotate_left
   obtain rfl:a6=false:=by simpa using a1
   all_goals
    refine AW (vs:=[.int .i64 (Al a),.int .i64 (Al b)]) kR (l.ext (xt (xt d g) q)) rfl rfl (by simp [AE]) ?_;intro aq o m;refine AP (jR (n:=2) rfl m.cells) ?_;exact ⟨⟨Al a,Al b⟩,rfl,(fun i=>absurd i Bool.false_ne_true),xb (xt (xt (xt p d) g) q) o.but r⟩
  .rw [aa];generalize ab:Aq 45 s=ba at *;refine oV Tryz.func95 ?_;refine jN (z := .agg #[.int .i64 0,.int .i64 0]) ?_;intro al ao r an p l;refine (t _).mono ?_;rintro _ ap ⟨ak,am,rfl,h,d⟩;refine ET (by simp;omega) ?_;refine AB.build PU rfl ?_;refine jS (vs:=[.int .i64 0,.int .i64 0]) (l.ext d) rfl rfl (by simp [AE]) ?_;intro aq o m;refine AP (jR (n:=2) rfl m.cells) ?_;exact ⟨⟨0,0⟩,rfl,(fun i=>absurd i Bool.false_ne_true),xb (xt p d) o.but r⟩
structure SB (w:World) (B b:Nat) (N:List Int) (F:List AF) (t:ByteArray) (a1 a2:Option Addr) (c1 c2:Nat):Prop where
 blk:CD w b [.slice a1 N.length c1,.slice a2 F.length c2,.string t] 85
 g1:Ai eI 1 B 2 w a1 N.length c1 N
 g2:Ai AF.enc 2 B 90 w a2 F.length c2 F
 lt:b<B
 d:∀ k,¬ (AN a1 k/\AN a2 k)
section
variable {w w' w0 w1 w2:World} {B b:Nat} {N:List Int} {F:List AF} {t:ByteArray} {a1 a2:Option Addr} {c1 c2:Nat}
theorem SB.ext (h:SB w B b N F t a1 a2 c1 c2) (e:AD w w'):SB w' B b N F t a1 a2 c1 c2:=⟨h.blk.ext e,h.g1.ext e,h.g2.ext e,h.lt,h.d⟩
theorem SB.push1 (h:SB w0 B b N F t a1 a2 c1 c2) {x:Int} {a:Option Addr} {c:Nat} (g:Ai eI 1 B 2 w1 a (N.length+1) c (N++[x])) (M:BY (AN a1) w0 w1) (hi:∀ k,AN a k->AN a1 k\/k=w0.heap.size) (m:OW b w1 w2)
  (B2:CD w2 b [.slice a (N.length+1) c,.slice a2 F.length c2,.string t] 85):SB w2 B b (N++[x]) F t a a2 c c2:=by
 have o:=h.lt;refine ⟨by simpa using B2,?_,?_,o,fun k ⟨j,l⟩=>?_⟩
 .simpa using g.mod m.but fun e f i=>by have:=g.new e f;have i:e.block=b:=i;omega
 .exact (h.g2.mod M fun e f j=>h.d e.block ⟨j,e,f,rfl⟩).mod m.but fun e f i=>by have:=h.g2.new e f;have i:e.block=b:=i;omega
 .rcases hi k j with n | n
  .exact h.d k ⟨n,l⟩
  .obtain ⟨e,f,p⟩:=l;have:=h.g2.lt e f;omega
theorem SB.push2 (h:SB w0 B b N F t a1 a2 c1 c2) {x:AF} {a:Option Addr} {c:Nat} (g:Ai AF.enc 2 B 90 w1 a (F.length+1) c (F++[x])) (M:BY (AN a2) w0 w1) (hi:∀ k,AN a k->AN a2 k\/k=w0.heap.size) (m:OW b w1 w2)
  (B2:CD w2 b [.slice a1 N.length c1,.slice a (F.length+1) c,.string t] 85):SB w2 B b N (F++[x]) t a1 a c1 c:=by
 have o:=h.lt;refine ⟨by simpa using B2,?_,?_,o,fun k ⟨j,n⟩=>?_⟩
 .exact (h.g1.mod M fun e f j=>h.d e.block ⟨⟨e,f,rfl⟩,j⟩).mod m.but fun e f i=>by have:=h.g1.new e f;have i:e.block=b:=i;omega
 .simpa using g.mod m.but fun e f i=>by have:=g.new e f;have i:e.block=b:=i;omega
 .rcases hi k n with l | l
  .exact h.d k ⟨j,l⟩
  .obtain ⟨e,f,p⟩:=j;have:=h.g1.lt e f;omega
theorem SB.put (h:SB w0 B b N F t a1 a2 c1 c2) {s:ByteArray} (m:OW b w0 w2) (B2:CD w2 b [.slice a1 N.length c1,.slice a2 F.length c2,.string s] 85):SB w2 B b N F s a1 a2 c1 c2 :=
 ⟨B2,h.g1.mod m.but fun c e a=>by have:=h.g1.new c e;have:=h.lt;have a:c.block=b:=a;omega,h.g2.mod m.but fun c e a=>by have:=h.g2.new c e;have:=h.lt;have a:c.block=b:=a;omega,h.lt,h.d⟩
end
theorem TD {w:World} {a:Option Addr} {n c:Nat} {W:List ByteArray} (hA:A4 eS 1 w a n W) (hw:∀ x∈W,x.size<=1048576) {t:ByteArray} (ht:W[0]? = some t) (hk:(Go.M.deskWordsM.any fun x=>decide (x=t))=true) (hl:W.length=(BW t).length+1) :
  Dq 45 [.slice a n c] w (fun v w'=>∃ r,v = .tuple #[.pointer (some ⟨r,0,none⟩),.int .i64 (Bd (BW t) (W.drop 1)).2]/\((Bd (BW t) (W.drop 1)).2=0->∃ a1 n1 c1 a2 n2 c2,AK w' r 0 [.slice a1 n1 c1,.slice a2 n2 c2,.string ((Bd (BW t) (W.drop 1)).1.texts.getD 0 ⟨#[]⟩)] /\
   A4 eI 1 w' a1 n1 ((Bd (BW t) (W.drop 1)).1.trays++(Bd (BW t) (W.drop 1)).1.nums)/\A4 AF.enc 2 w' a2 n2 (Bd (BW t) (W.drop 1)).1.fields)/\AD w w'):=by
 have di:=hA.len;have bv:=aC1 hk;have dj:=aA8 hk;have ci:=fun ai=>(TG t ai).mono fun v w' h=>(⟨h.1 hk,h.2⟩:v = .string (bs (BW t))/\AD ai w');generalize de:BW t=e at *;have cm:∀ b,(W.drop 1)[b]? = W[b+1]? := fun b=>by rw [List.getElem?_drop,Nat.add_comm]
 have cu:∀ x∈W.drop 1,x.size<=1048576:=fun x ah=>hw x (List.mem_of_mem_drop ah);have cw:(e.zip (W.drop 1)).length=e.length:=by rw [List.length_zip,List.length_drop];omega
 generalize dm:W.drop 1=g at *;have dl:(bs e).size=e.length:=AV _;refine oV Tryz.func45 ?_;refine jI hA 0 rfl ht ?_;intro da dq dg cn;refine jL cn (k:=0) rfl ?_;refine (ci _).mono ?_;rintro _ du ⟨rfl,au⟩;refine AB.build aE0 rfl ?_;refine AB.box ?_;intro bd a' a3 cz ce b7;have cl:SB a' a'.heap.size bd (D0.trays++D0.nums) D0.fields (D0.texts.getD 0 ⟨#[]⟩) none none 0 0:=⟨b7,Ai.nil,Ai.nil,cz,(by rintro b ⟨⟨x,ah,_⟩,_⟩;cases ah)⟩;have ax:=xt au ce;refine lR [0,4,5,6,7] (fun (b:Nat) c3 w'=>∃ a1 a2 c1 c2,c3=[.slice a n c,.string (bs e),.pointer (some ⟨bd,0,none⟩),.bool (!(Cs ((e.zip g).take b)).1.trays.any (fun t=>!Dc t 0 5)),.int .i64 b]/\b<=e.length/\(Cs ((e.zip g).take b)).2=true/\SB w' a'.heap.size bd ((Cs ((e.zip g).take b)).1.trays++(Cs ((e.zip g).take b)).1.nums) (Cs ((e.zip g).take b)).1.fields ((Cs ((e.zip g).take b)).1.texts.getD 0 ⟨#[]⟩) a1 a2 c1 c2/\AD w w'/\a'.heap.size<=w'.heap.size/\(Cs ((e.zip g).take b)).1.trays.length+(Cs ((e.zip g).take b)).1.nums.length<=b/\(Cs ((e.zip g).take b)).1.fields.length<=b) (fun b=>e.length - b) 0 ⟨none,none,0,0,rfl,Nat.zero_le _,rfl,cl,ax,Nat.le_refl _,Nat.le_refl _,Nat.le_refl _⟩ ?_;rintro b db _ c4 ⟨a1,a2,c1,c2,rfl,dh,a6,i,s,dk,a8,an⟩;rcases Nat.lt_or_ge b e.length with bu | bu
 .obtain ⟨cd,bl⟩:=AA (l:=e) (k:=b) bu;obtain ⟨x,ah⟩:=AA (l:=g) (k:=b) (by rw [List.length_zip] at cw;omega);have a7:W[b+1]? = some x:=by rw [<- cm];exact ah
  have d:=Lj (YS bl ah);rw [if_pos a6] at d;have bm:(Cs ((e.zip g).take (b+1))).2=false->Bd e g=(D0,7):=fun h=>by unfold Bd;rw [if_pos (Vu h)]
  have bw:=cu x (List.mem_of_getElem? ah);obtain ⟨co,cp,cq⟩:=Yo bv bl;obtain ⟨cs,ct⟩:=Wp (p:=e) (ws:=g) b;have a5:=hA.ext s;generalize (Cs ((e.zip g).take b)).1=f at *;have al:(bs e).data.toList[b]? = some cd:=bl;have bq:∀ ai,Dq 96 [.string x] ai (fun v w'=>v = .tuple #[.int .i64 (Al x),.bool (Ef x)]/\AD ai w'):=fun ai=>Bi bw ai;rcases cp with rfl | rfl | rfl | rfl
  .have am:f.nums=[]:=Classical.byContradiction fun h=>co rfl (cs h);rw [Sp] at d;rw [am,List.append_nil] at i;rw [am] at a8;have bx:f.trays.length<=b:=by simpa using a8
   generalize ae:f.trays.any (fun t=>!Dc t 0 5)=aj at *;refine iY ?_;refine jP (((b+1:Nat):Int)) ?_;refine jI a5 (b+1) rfl a7 ?_;intro bc bp bk ag;refine jO ag rfl ?_;refine jC b rfl al ?_;refine (bq _).mono ?_;rintro _ c6 ⟨rfl,q⟩;refine A7 (fun aa=>?_) fun aa=>?_
   ·(conv=>whnf);rw [bm (by rw [d];exact aa)];exact ⟨_,rfl,(fun h=>absurd h dE),xt s q⟩
   .refine jL (i.ext q).blk.cells (k:=0) rfl ?_;refine bS B5 (vs:=[Value.int .i64 (Al x)]) ?_;intro cb bz cg cy af ba;have j:=i.ext (xt q af);have c8:=Below.size (xt q af);refine BR (enc:=eI) B5 AI j.g1 (ys:=[Al x]) (m:=1) ba.cells rfl (by simp [BD,eI,AE]) om om om ?_;intro aq ar b0 bb ac bn;have bi:=j.blk.mod ac (fun ⟨y,u,ab⟩=>by have:=j.g1.new y u;have:=j.lt;omega);refine jT bi (k:=0) sI rfl ?_;intro aw o ao;have ad:=j.push1 bb ac bn o ao;have b1:=ac.size;have b2:=o.but.size;have ap:AD w aw:=xb (xm (xt s (xt q af)) ac (fun bo ⟨y,u,ab⟩=>by have:=j.g1.new y u;have:=ax.size;omega)) o.but (nB au a3);(conv=>whnf);have bt:(!((f.trays++[Al x]).any fun t=>!Dc t 0 5))=(!aj && Dc (Al x) 0 5):=by simp [ae]
    cases aj
    .refine jC b rfl al ?_;refine (GG _ _).mono ?_;rintro _ _ ⟨rfl,rfl⟩;refine jP (((b+1:Nat):Int)) ?_;refine ⟨b+1,om,aq,a2,ar,c2,?_,om,by rw [d];exact aa,?_,ap,om,?_,by rw [d];exact Nat.le_succ_of_le an⟩
     .rw [d];show _=[_,_,_,Value.bool (!((f.trays++[Al x]).any fun t=>!Dc t 0 5)),_];rw [bt];rfl
     .rw [d];show SB _ _ _ ((f.trays++[Al x])++f.nums) _ _ _ _ _ _;rw [am,List.append_nil];exact ad
     .rw [d];show (f.trays++[Al x]).length+f.nums.length<=b+1;rw [am,List.length_append];simpa using bx
    .refine jP (((b+1:Nat):Int)) ?_;refine ⟨b+1,om,aq,a2,ar,c2,?_,om,by rw [d];exact aa,?_,ap,om,?_,by rw [d];exact Nat.le_succ_of_le an⟩
     .rw [d];show _=[_,_,_,Value.bool (!((f.trays++[Al x]).any fun t=>!Dc t 0 5)),_];rw [bt];rfl
     .rw [d];show SB _ _ _ ((f.trays++[Al x])++f.nums) _ _ _ _ _ _;rw [am,List.append_nil];exact ad
     .rw [d];show (f.trays++[Al x]).length+f.nums.length<=b+1;rw [am,List.length_append];simpa using bx
  .rw [Sq] at d;generalize ae:f.trays.any (fun t=>!Dc t 0 5)=aj at *;refine iY ?_;refine jP (((b+1:Nat):Int)) ?_;refine jI a5 (b+1) rfl a7 ?_;intro bc bp bk ag;refine jO ag rfl ?_;refine jC b rfl al ?_;refine (bq _).mono ?_;rintro _ c6 ⟨rfl,q⟩;refine A7 (fun aa=>?_) fun aa=>?_
   ·(conv=>whnf);rw [bm (by rw [d];exact aa)];exact ⟨_,rfl,(fun h=>absurd h dE),xt s q⟩
   .refine jL (i.ext q).blk.cells (k:=0) rfl ?_;refine bS B5 (vs:=[Value.int .i64 (Al x)]) ?_;intro cb bz cg cy af ba;have j:=i.ext (xt q af);have c8:=Below.size (xt q af);refine BR (enc:=eI) B5 AI j.g1 (ys:=[Al x]) (m:=1) ba.cells rfl (by simp [BD,eI,AE]) (by rw [List.length_append];omega) (by rw [List.length_append];omega) om ?_;intro aq ar b0 bb ac bn;have bi:=j.blk.mod ac (fun ⟨y,u,ab⟩=>by have:=j.g1.new y u;have:=j.lt;omega);refine jT bi (k:=0) sI rfl ?_;intro aw o ao;have ad:=j.push1 bb ac bn o ao;have b1:=ac.size;have b2:=o.but.size;have ap:AD w aw:=xb (xm (xt s (xt q af)) ac (fun bo ⟨y,u,ab⟩=>by have:=j.g1.new y u;have:=ax.size;omega)) o.but (nB au a3);(conv=>whnf);cases aj
    .refine jC b rfl al ?_;refine jP (((b+1:Nat):Int)) ?_;refine ⟨b+1,om,aq,a2,ar,c2,?_,om,by rw [d];exact aa,?_,ap,om,?_,by rw [d];exact Nat.le_succ_of_le an⟩
     .rw [d];show _=[_,_,_,Value.bool (!(f.trays.any fun t=>!Dc t 0 5)),_];rw [ae];rfl
     .rw [d];show SB _ _ _ (f.trays++(f.nums++[Al x])) _ _ _ _ _ _;rw [<- List.append_assoc];exact ad
     .rw [d];show f.trays.length+(f.nums++[Al x]).length<=b+1;rw [List.length_append,List.length_singleton];omega
    .refine jP (((b+1:Nat):Int)) ?_;refine ⟨b+1,om,aq,a2,ar,c2,?_,om,by rw [d];exact aa,?_,ap,om,?_,by rw [d];exact Nat.le_succ_of_le an⟩
     .rw [d];show _=[_,_,_,Value.bool (!(f.trays.any fun t=>!Dc t 0 5)),_];rw [ae];rfl
     .rw [d];show SB _ _ _ (f.trays++(f.nums++[Al x])) _ _ _ _ _ _;rw [<- List.append_assoc];exact ad
     .rw [d];show f.trays.length+(f.nums++[Al x]).length<=b+1;rw [List.length_append,List.length_singleton];omega
  .rw [Ss] at d;generalize ae:f.trays.any (fun t=>!Dc t 0 5)=aj at *;refine iY ?_;refine jP (((b+1:Nat):Int)) ?_;refine jI a5 (b+1) rfl a7 ?_;intro bc bp bk ag;refine jO ag rfl ?_;refine jC b rfl al ?_;refine (Ls bw _).mono ?_;rintro _ bz ⟨cf,rfl,c0,ay⟩;refine jN (z := .agg #[.int .i64 0,.int .i64 0]) ?_;intro c9 b0 dc dn bg b4;refine jS b4 (vs:=cf.enc) rfl rfl (by simp [AF.enc,AE]) ?_;intro aw o ao;refine A7 (fun a4=>?_) fun a4=>?_
   ·(conv=>whnf);rw [bm (by rw [d];exact a4)];exact ⟨_,rfl,(fun h=>absurd h dE),xb (xt (xt s ay) bg) o.but (by have:=s.size;have:=ay.size;omega)⟩
   .obtain rfl:=c0 a4;have dw:=ay.size;have b1:=bg.size;have b2:=o.but.size;have df:=i.lt;have bj:AD c4 aw:=xb (xt ay bg) o.but om;have ad:=i.ext bj;have dx:=bj.size;refine Av A8 mixed (pZ [0,5,10,15,21,26,32,38,40,45,53]) kR kR ?_;intro dr az;refine dL ad.blk.cells (k:=1) rfl ?_;refine dA (n:=2) ao.cells rfl ?_;refine AB.buildSlice JV (vs:=[Value.agg ⟨(B1 x).1.enc⟩]) (by rfl) (by rfl) (by simp [Value.cells,AF.enc]) dE ?_;intro c' ds dd dp a0 b5;refine ⟨xt az a0,?_⟩;have ak:=ad.ext (xt az a0);have dy:=Below.size (xt az a0);refine BR (enc:=AF.enc) JV Bj ak.g2 (ys:=[(B1 x).1]) (m:=1) b5.cells rfl (by simp [BD,AF.enc,AE]) om om om ?_;intro ca cc dt b' a9 cx;have ch:=ak.blk.mod a9 (fun ⟨y,u,ab⟩=>by have:=ak.g2.new y u;have:=ak.lt;omega);refine jT ch (k:=1) sI rfl ?_;intro c7 bf b6;have ck:=ak.push2 b' a9 cx bf b6;have dz:=a9.size;have d0:=bf.but.size;have b9:AD w c7:=xb (xm (xt (xt s bj) (xt az a0)) a9 (fun bo ⟨y,u,ab⟩=>by have:=ak.g2.new y u;have:=ax.size;omega)) bf.but (nB au a3);refine jP (((b+1:Nat):Int)) ?_;refine ⟨b+1,om,a1,ca,c1,cc,by rw [d,<- ae];rfl,om,by rw [d];exact a4,?_,b9,om,by rw [d];exact Nat.le_succ_of_le a8,by rw [d];simpa using an⟩;rw [d];exact ck
  .have cv:f.texts=[]:=Classical.byContradiction fun h=>by
    obtain ⟨c,br,bh⟩:=ct h;obtain ⟨bo,cr⟩:=List.mem_iff_getElem?.1 (List.mem_of_mem_take br);rcases (Yo bv cr).2.1 with rfl | rfl | rfl | rfl
    .exact bh.1 rfl
    .exact bh.2.1 rfl
    .exact bh.2.2 rfl
    .exact cq rfl br
   rw [So dE dE dE] at d;generalize ae:f.trays.any (fun t=>!Dc t 0 5)=aj at *;refine iY ?_;refine jP (((b+1:Nat):Int)) ?_;refine jI a5 (b+1) rfl a7 ?_;intro bc bp bk ag;refine jO ag rfl ?_;refine jC b rfl al ?_;refine jT i.blk (k:=2) sI rfl ?_;intro c5 be b3;have cj:=i.put be b3;have dv:=be.but.size;have b8:AD w c5:=xb s be.but (nB au a3);refine jP (((b+1:Nat):Int)) ?_;refine ⟨b+1,om,a1,a2,c1,c2,by rw [d,<- ae];rfl,om,by rw [d],?_,b8,om,by rw [d];exact Nat.le_succ_of_le a8,by rw [d];exact Nat.le_succ_of_le an⟩;rw [d,cv];exact cj
 .obtain rfl:b=e.length:=om
  rw [List.take_of_length_le om] at a6 i;refine iN ?_;refine A7 (fun av=>?_) fun av=>?_
  ·(conv=>whnf);rw [List.take_of_length_le (l:=e.zip g) om] at av;have ab:Bd e g=(D0,2):=by unfold Bd;rw [if_neg (by simp [a6]),if_pos (by simpa using av)]
   rw [ab];exact ⟨_,rfl,(fun h=>absurd h dE),s⟩
  ·(conv=>whnf);rw [List.take_of_length_le (l:=e.zip g) om] at av;have ab:Bd e g=((Cs (e.zip g)).1,0):=by unfold Bd;rw [if_neg (by simp [a6]),if_neg (by simpa using av)]
   rw [ab];exact ⟨_,rfl,fun _=>⟨_,_,_,_,_,_,i.blk.cells,i.g1.own.arr AI,i.g2.own.arr Bj⟩,s⟩
end Go.Proofs.YtalgenmoljcnmaaGreatDoor
namespace Go.M
open Go Go.Vc
structure Qo (word:ByteArray) (A:C7) (t0 tl t1:Int) (f0 f1:AF) (z:ByteArray):Prop where
 a0:A.trays[0]? = some t0
 al:A.trays[A.trays.length - 1]? = some tl
 f0:A.fields[0]? = some f0
 two:DV (DZ word)=true->A.trays[1]? = some t1
 tot:word=BK->A.fields[1]? = some f1
 sel:word=Bz->A.texts[0]? = some z
theorem Zd {word:ByteArray} {A:C7} {t0 tl t1:Int} {f0 f1:AF} {z:ByteArray} (h:Qo word A t0 tl t1 f0 f1 z):BT word A={ kind:=DZ word,a:=t0,b:=if DV (DZ word)=true then t1 else 0,dst:=if word=BK then 0 else tl,field:=f0,sum:=if word=BK then f1 else ⟨0,0⟩,text:=if word=Bz then z else ⟨#[]⟩ }:=by
 unfold BT;rw [Ae h.a0,Ae h.f0,Ae h.al];congr 1
 .by_cases c:DV (DZ word)=true
  .rw [if_pos c,if_pos c,Ae (h.two c)]
  .rw [if_neg c,if_neg c]
 .by_cases c:word=BK
  .rw [if_pos c,if_pos c,Ae (h.tot c)]
  .rw [if_neg c,if_neg c]
 .by_cases c:word=Bz
  .rw [if_pos c,if_pos c,Ae (h.sel c)]
  .rw [if_neg c,if_neg c]
end Go.M
namespace Go.Proofs.YtalgenmoljcnmaaGreatDoor
open Go Go.RowKit Go.Vc Go.M
set_option maxHeartbeats 4000000 in
theorem VJ {word:ByteArray} (hst:word=Di\/word=Cx\/word=DD\/word=DP\/word=EV\/word=Bz\/word=BK) {w:World} {A:C7} {a1 a2 a3 a4:Option Addr} {n1 n2 n3 n4 c1 c2 c3 c4:Nat} (h1:A4 eI 1 w a1 n1 A.trays) (h3:A4 AF.enc 2 w a3 n3 A.fields) (h4:A4 eS 1 w a4 n4 A.texts) (hn4:n1<=4) {t0 tl t1:Int} {f0 f1:AF} {z:ByteArray} (hA:Qo word A t0 tl t1 f0 f1 z) :
  Dq 153 [.string word,.agg #[.slice a1 n1 c1,.slice a2 n2 c2,.slice a3 n3 c3,.slice a4 n4 c4]] w (fun v w'=>v = .agg ⟨(BT word A).enc⟩/\AD w w'):=by
 have bj:=h1.len;have y:=Zd hA;obtain ⟨a6,a7,bl,av,an,am⟩:=hA;have b0:=(List.getElem?_eq_some_iff.1 a6).1;rw [y];clear y;rw [bj] at a7;rcases hst with rfl | rfl | rfl | rfl | rfl | rfl | rfl
 all_goals
  refine oV Tryz.func153 ?_;refine AB.box ?_;intro ah b8 bu b2 r h;refine jN (z := .agg #[.int .i64 0,.int .i64 0,.int .i64 0,.int .i64 0,.int .i64 0,.int .i64 0,.int .i64 0,.int .i64 0,.string { data := #[] }]) ?_;intro i ao bv b3 c ad;refine Av A8 mixed (pZ [0,20,30,60,6,10,16,26,36,41,45,50,56,66,70,76,81,87,93]) kR kR ?_;intro b9 ai;refine dL (h.ext c).cells (k:=0) rfl ?_;refine pI (h1.ext (xt r c)) 0 rfl a6 ?_;intro br b6 bz bi;refine dL bi (k:=0) rfl ?_;refine dL (h.ext c).cells (k:=0) rfl ?_;refine dL (h.ext c).cells (k:=0) rfl ?_;refine DN.sub ((n1:Int) - 1) rfl om om ?_;refine pI (h1.ext (xt r c)) (n1 - 1) om a7 ?_;intro bp b4 bw bg;refine dL bg (k:=0) rfl ?_;refine dL (h.ext c).cells (k:=2) rfl ?_;refine pI (h3.ext (xt r c)) 0 rfl bl ?_;intro bq b5 bx bh;refine dA (n:=2) bh rfl ?_;refine BN.build aA7 rfl ?_;refine jN (z := .agg #[.int .i64 0,.int .i64 0,.int .i64 0,.int .i64 0,.int .i64 0,.int .i64 0,.int .i64 0,.int .i64 0,.string { data := #[] }]) ?_;intro b b7 bt b1 a0 a';refine ⟨xt ai a0,?_⟩;refine jS (vs:=[.int .i64 0,.int .i64 t0,.int .i64 0,.int .i64 tl,.int .i64 f0.from_,.int .i64 f0.to_,.int .i64 0,.int .i64 0,.string { data := #[] }]) a' rfl rfl (by simp [AE]) ?_;intro a8 bf ab;have d:AD ao a8:=xb (xt ai a0) bf.but (by have:=ai.size;omega);(conv=>whnf);have ca:=r.size;have cb:=c.size;have cc:=ai.size;have b':=d.size;have af:AD w a8:=xt (xt r c) d;have al:∀ t,t<ao.heap.size->¬ AN (some (⟨b,0,none⟩:Addr)) t:=fun t ak a=>by
   obtain ⟨l,bk,y⟩:=a;cases bk
   have y:t=b:=y;omega
 iterate 2
  focus
   refine jT ab (k:=0) (Nat.le_of_ble_eq_true rfl) rfl ?_;intro s p u;have ae:AD w s:=xb (xt (xt r c) d) p.but om;have ay:=((h.ext c).ext d).mod p.but (fun a=>by have a:ah=b:=a;omega);have o:=(ad.ext d).mod p.but (fun a=>by have a:i=b:=a;omega);refine jL u.cells (k:=0) rfl ?_;refine (Fc _ _).mono ?_;rintro _ _ ⟨rfl,rfl⟩;refine jA (n:=9) u.cells rfl ?_;refine jS (vs:=[.int .i64 _,.int .i64 t0,.int .i64 0,.int .i64 tl,.int .i64 f0.from_,.int .i64 f0.to_,.int .i64 0,.int .i64 0,.string { data := #[] }]) o rfl rfl (by simp [AE]) ?_;intro aw q m;refine AP (jR (n:=9) rfl m.cells) ?_;exact ⟨rfl,xb ae q.but om⟩
 iterate 3
  focus
   have av:=av rfl;refine jT ab (k:=0) (Nat.le_of_ble_eq_true rfl) rfl ?_;intro s p u;have ae:AD w s:=xb (xt (xt r c) d) p.but om;have ay:=((h.ext c).ext d).mod p.but (fun a=>by have a:ah=b:=a;omega);have o:=(ad.ext d).mod p.but (fun a=>by have a:i=b:=a;omega);refine jL u.cells (k:=0) rfl ?_;refine (Fc _ _).mono ?_;rintro _ _ ⟨rfl,rfl⟩;refine jL ay.cells (k:=0) rfl ?_;refine jI (h1.ext ae) 1 rfl av ?_;intro ag a5 aj x;refine jL x (k:=0) rfl ?_;refine jT u (k:=2) (Nat.le_of_ble_eq_true rfl) rfl ?_;intro bm az ba;have bc:AD w bm:=xb ae az.but om;have bb:=o.mod az.but (fun a=>by have a:i=b:=a;omega);refine jA (n:=9) ba.cells rfl ?_;refine jS (vs:=[.int .i64 _,.int .i64 t0,.int .i64 t1,.int .i64 tl,.int .i64 f0.from_,.int .i64 f0.to_,.int .i64 0,.int .i64 0,.string { data := #[] }]) bb rfl rfl (by simp [AE]) ?_;intro aw q m;refine AP (jR (n:=9) rfl m.cells) ?_;exact ⟨rfl,xb bc q.but om⟩
 focus
  have am:=am rfl;refine H6 [] A8 mixed (some ⟨b,0,none⟩) (pZ [0,20,6,10,16,27,30,37]) kR kR ?_;intro s e;have aq:∀ w',Sr (some ⟨b,0,none⟩) s w'->AK w' ah 0 [.slice a1 n1 c1,.slice a2 n2 c2,.slice a3 n3 c3,.slice a4 n4 c4]:=Sr.cells ((h.ext c).ext (xt d e)).cells (al _ om);have g:∀ {l aa:World},But b l aa->BY (AN (some (⟨b,0,none⟩:Addr))) l aa:=fun a=>a.mono fun t ak=>⟨_,rfl,ak⟩;refine C9 kR (k:=3) aq rfl ?_;refine pI (h4.ext (xt af e)) 0 rfl am ?_;intro ag a5 aj x;have au:ag<ao.heap.size:=by
   exact Nat.lt_of_lt_of_le (h4.lt (fun l=>by simp [eS]) (by have:=h4.len;have:=(List.getElem?_eq_some_iff.1 am).1;omega) _ aj) om
  refine FO kR (Sr.cells x (al _ au)) rfl ?_;refine jT (ab.ext e) (k:=0) (Nat.le_of_ble_eq_true rfl) rfl ?_;intro bn f ap;refine ⟨g f.but,?_⟩;refine jT ap (k:=8) (Nat.le_of_ble_eq_true rfl) rfl ?_;intro a9 j ac;refine ⟨(g f.but).trans (g j.but),?_⟩;have bd:AD w a9:=xb (xb (xt af e) f.but om) j.but om;refine jL ac.cells (k:=0) rfl ?_;refine (Fc _ _).mono ?_;rintro _ _ ⟨rfl,rfl⟩;have o:=(((ad.ext d).ext e).mod f.but (fun a=>by have a:i=b:=a;omega)).mod j.but (fun a=>by have a:i=b:=a;omega);refine jA (n:=9) ac.cells rfl ?_;refine jS (vs:=[.int .i64 _,.int .i64 t0,.int .i64 0,.int .i64 tl,.int .i64 f0.from_,.int .i64 f0.to_,.int .i64 0,.int .i64 0,.string z]) o rfl rfl (by simp [AE]) ?_;intro aw q m;refine AP (jR (n:=9) rfl m.cells) ?_;exact ⟨rfl,xb bd q.but om⟩
 have an:=an rfl;refine H6 [] A8 mixed (some ⟨b,0,none⟩) (pZ [0,20,6,10,16,27,30,37,40,47]) kR kR ?_;intro s e;have aq:∀ w',Sr (some ⟨b,0,none⟩) s w'->AK w' ah 0 [.slice a1 n1 c1,.slice a2 n2 c2,.slice a3 n3 c3,.slice a4 n4 c4]:=Sr.cells ((h.ext c).ext (xt d e)).cells (al _ om);have g:∀ {l aa:World},But b l aa->BY (AN (some (⟨b,0,none⟩:Addr))) l aa:=fun a=>a.mono fun t ak=>⟨_,rfl,ak⟩;refine C9 kR (k:=2) aq rfl ?_;refine pI (h3.ext (xt af e)) 1 rfl an ?_;intro ag a5 aj x;have au:ag<ao.heap.size:=by
  exact Nat.lt_of_lt_of_le (h3.lt (fun l=>by simp [AF.enc]) (by have:=h3.len;have:=(List.getElem?_eq_some_iff.1 an).1;omega) _ aj) om
 refine Ba (n:=2) kR (Sr.cells x (al _ au)) rfl ?_;refine jT (ab.ext e) (k:=0) (Nat.le_of_ble_eq_true rfl) rfl ?_;intro bn f ap;refine ⟨g f.but,?_⟩;refine jT ap (k:=3) (Nat.le_of_ble_eq_true rfl) rfl ?_;intro a9 j ac;refine ⟨(g f.but).trans (g j.but),?_⟩;refine EJ kR ac (k:=6) (vs:=f1.enc) rfl (Nat.le_of_ble_eq_true rfl) (by simp [AF.enc,AE]) ?_;intro bo ar ax;refine ⟨((g f.but).trans (g j.but)).trans (g ar.but),?_⟩;have be:AD w bo:=xb (xb (xb (xt af e) f.but om) j.but om) ar.but om;refine jL ax.cells (k:=0) rfl ?_;refine (Fc _ _).mono ?_;rintro _ _ ⟨rfl,rfl⟩;have o:=((((ad.ext d).ext e).mod f.but (fun a=>by have a:i=b:=a;omega)).mod j.but (fun a=>by have a:i=b:=a;omega)).mod ar.but (fun a=>by have a:i=b:=a;omega);refine jA (n:=9) ax.cells rfl ?_;refine jS (vs:=[.int .i64 _,.int .i64 t0,.int .i64 0,.int .i64 0,.int .i64 f0.from_,.int .i64 f0.to_,.int .i64 f1.from_,.int .i64 f1.to_,.string { data := #[] }]) o rfl rfl (by simp [AE]) ?_;intro aw q m;refine AP (jR (n:=9) rfl m.cells) ?_;exact ⟨rfl,xb be q.but om⟩
end Go.Proofs.YtalgenmoljcnmaaGreatDoor
