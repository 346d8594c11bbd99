/- Parts of the proof; no conditions of its own. -/
import Derived.Test.YtalgenmoljcnmaaGreatDoorRefC
import Derived.Test.YtalgenmoljcnmaaGreatDoorDoSt
namespace Go.M
open Go Go.Vc
variable {A:C7} {w:ByteArray} {ps:List (UInt8×ByteArray)} {k:Nat} {p:List UInt8} {ws:List ByteArray} {c:UInt8}
theorem TY (s:ByteArray):(B1 s).1.ok:=⟨Gm _,Gm _⟩
structure UL (A:C7) (p:List UInt8):Prop where
 t:A.trays.length=p.count 116
 n:A.nums.length=p.count 110
 f:A.fields.length=p.count 102
 x:A.texts.length=p.length - p.count 116 - p.count 110 - p.count 102
structure Fv (A:C7):Prop where
 t:∀ x∈A.trays,BM x
 n:∀ x∈A.nums,BM x
 f:∀ x∈A.fields,x.ok
 x:∀ x∈A.texts,x.size<=1048576
theorem aD1 (h:Fv A) (p:UInt8) (hw:w.size<=1048576):Fv (Cl A p w).1:=by
 unfold Cl;split
 .exact ⟨fun b a=>by rcases List.mem_append.1 a with a | a;exact h.t b a;rw [List.mem_singleton] at a;subst a;exact Gm _,h.n,h.f,h.x⟩
 split
 .exact ⟨h.t,fun b a=>by rcases List.mem_append.1 a with a | a;exact h.n b a;rw [List.mem_singleton] at a;subst a;exact Gm _,h.f,h.x⟩
 split
 .exact ⟨h.t,h.n,fun b a=>by rcases List.mem_append.1 a with a | a;exact h.f b a;rw [List.mem_singleton] at a;subst a;exact TY _,h.x⟩
 .exact ⟨h.t,h.n,h.f,fun b a=>by rcases List.mem_append.1 a with a | a;exact h.x b a;rw [List.mem_singleton] at a;subst a;exact hw⟩
theorem Z7 (A:C7) (p:UInt8) (w:ByteArray):(Cl A p w).1.trays.length=A.trays.length+(if p=116 then 1 else 0)/\(Cl A p w).1.nums.length=A.nums.length+(if p=110 then 1 else 0)/\(Cl A p w).1.fields.length=A.fields.length+(if p=102 then 1 else 0) /\
  (Cl A p w).1.texts.length=A.texts.length+(if p=116\/p=110\/p=102 then 0 else 1):=by
 unfold Cl;by_cases a:p=116
 .subst a;simp
 by_cases b:p=110
 .subst b;simp
 by_cases c:p=102
 .subst c;simp
 simp [a,b,c]
theorem Lj {p:UInt8} (h:ps[k]? = some (p,w)):Cs (ps.take (k+1))=if (Cs (ps.take k)).2=true then Cl (Cs (ps.take k)).1 p w else Cs (ps.take k):=by
 unfold Cs;rw [List.take_add_one,h,List.foldl_append];rfl
theorem Nl:∀ (ps:List (UInt8×ByteArray)) (st:C7×Bool),st.2=false->(ps.foldl (fun st p=>if st.2=true then Cl st.1 p.1 p.2 else st) st).2=false
 | [],_,h=>h
 | p :: ps,st,h=>by
  rw [List.foldl_cons,if_neg (by simp [h])];exact Nl ps st h
theorem Vu (h:(Cs (ps.take k)).2=false):(Cs ps).2=false:=by
 unfold Cs at h ⊢;rw [<- List.take_append_drop k ps,List.foldl_append];exact Nl _ _ h
theorem Su:∀ (p:List UInt8) (ws:List ByteArray) (st:C7×Bool),p.length=ws.length->(∀ x∈ws,x.size<=1048576)->Fv st.1->st.2=true ->
  ((p.zip ws).foldl (fun st p=>if st.2=true then Cl st.1 p.1 p.2 else st) st).2=true ->
  Fv ((p.zip ws).foldl (fun st p=>if st.2=true then Cl st.1 p.1 p.2 else st) st).1 /\
  ((p.zip ws).foldl (fun st p=>if st.2=true then Cl st.1 p.1 p.2 else st) st).1.trays.length=st.1.trays.length+p.count 116 /\
  ((p.zip ws).foldl (fun st p=>if st.2=true then Cl st.1 p.1 p.2 else st) st).1.nums.length=st.1.nums.length+p.count 110 /\
  ((p.zip ws).foldl (fun st p=>if st.2=true then Cl st.1 p.1 p.2 else st) st).1.fields.length=st.1.fields.length+p.count 102 /\
  ((p.zip ws).foldl (fun st p=>if st.2=true then Cl st.1 p.1 p.2 else st) st).1.texts.length=st.1.texts.length+(p.length - p.count 116 - p.count 110 - p.count 102)
 | [],[],st,_,_,h,_,_=>by simpa using h
 | [],_ :: _,_,h,_,_,_,_=>by simp at h
 | _ :: _,[],_,h,_,_,_,_=>by simp at h
 | c :: p,w :: ws,st,hl,hw,h,hs,h0=>by
  simp only [List.zip_cons_cons,List.foldl_cons] at h0 ⊢;rw [if_pos hs] at h0 ⊢;have hq:(Cl st.1 c w).2=true:=by
   cases g:(Cl st.1 c w).2
   .rw [Nl _ _ g] at h0;cases h0
   .rfl
  have b:=Su p ws (Cl st.1 c w) (by simpa using hl) (fun x i=>hw x (List.mem_cons_of_mem _ i)) (aD1 h c (hw w sI)) hq h0;obtain ⟨j,k,l,m⟩:=Z7 st.1 c w;refine ⟨b.1,?_,?_,?_,?_⟩
  .rw [b.2.1,j,List.count_cons];by_cases a:c=116<;>simp [a]<;>omega
  .rw [b.2.2.1,k,List.count_cons];by_cases a:c=110<;>simp [a]<;>omega
  .rw [b.2.2.2.1,l,List.count_cons];by_cases a:c=102<;>simp [a]<;>omega
  .rw [b.2.2.2.2,m,List.count_cons,List.count_cons,List.count_cons,List.length_cons];have n:p.count 116+p.count 110+p.count 102<=p.length:=by
    clear b h0 hw hl;induction p with
    | nil=>simp
    | cons f p b =>
     simp only [List.count_cons,List.length_cons];by_cases a:f=116
     .subst a;simp<;>omega
     by_cases d:f=110
     .subst d;simp<;>omega
     by_cases e:f=102
     .subst e;simp<;>omega
     simp [a,d,e]<;>omega
   by_cases a:c=116
   .subst a;simp<;>omega
   by_cases d:c=110
   .subst d;simp<;>omega
   by_cases e:c=102
   .subst e;simp<;>omega
   simp [a,d,e]<;>omega
theorem XU (hl:p.length=ws.length) (hw:∀ x∈ws,x.size<=1048576) (h:(Bd p ws).2=0):Fv (Bd p ws).1/\UL (Bd p ws).1 p/\∀ t∈(Bd p ws).1.trays,0<=t/\t<=5:=by
 unfold Bd at h ⊢;split at h
 .cases h
 rename_i a;split at h
 .cases h
 rename_i b;rw [if_neg a,if_neg b];have a:(Cs (p.zip ws)).2=true:=by simpa using a
 have:=Su p ws (D0,true) hl hw ⟨by simp [D0],by simp [D0],by simp [D0],by simp [D0]⟩ rfl a;obtain ⟨d,e,f,g,i⟩:=this;refine ⟨d,⟨?_,?_,?_,?_⟩,fun t c=>?_⟩
 .simpa [D0,Cs] using e
 .simpa [D0,Cs] using f
 .simpa [D0,Cs] using g
 .simpa [D0,Cs] using i
 .have:=NH b t c;exact Bs this
theorem Sp (A:C7) (w:ByteArray):Cl A 116 w=({ A with trays:=A.trays++[Al w] },Ef w):=rfl
theorem Sq (A:C7) (w:ByteArray):Cl A 110 w=({ A with nums:=A.nums++[Al w] },Ef w):=rfl
theorem Ss (A:C7) (w:ByteArray):Cl A 102 w=({ A with fields:=A.fields++[(B1 w).1] },(B1 w).2):=rfl
theorem So (h1:¬ c=116) (h2:¬ c=110) (h3:¬ c=102):Cl A c w=({ A with texts:=A.texts++[w] },true):=by
 unfold Cl;rw [if_neg h1,if_neg h2,if_neg h3]
theorem YS (h1:p[k]? = some c) (h2:ws[k]? = some w):(p.zip ws)[k]? = some (c,w):=by
 rw [List.getElem?_zip_eq_some];exact ⟨h1,h2⟩
end Go.M
namespace Go.Proofs.YtalgenmoljcnmaaGreatDoor
open Go Go.RowKit Go.Vc Go.M
theorem P3 {s:ByteArray} (hs:s.size<=1048576) {w:World} (hT:F7 w) (hE:EP w) (hM:Dy w) :
  Dq 70 [.string s] w (fun v w'=>v = .tuple #[.agg ⟨(B1 s).1.enc⟩,.bool (B1 s).2]/\AD w w'):=by
 obtain ⟨ah,ai⟩:=YE (c:=45) s;have ad:∀ m,Dy m->Dq 24 [.string s,.string ⟨#[45]⟩] m (fun v w'=>v = .tuple #[.string (bs (Lib.cut s.data.toList [45]).1),.string (bs (Lib.cut s.data.toList [45]).2.1),.bool (Lib.cut s.data.toList [45]).2.2]/\AD m w'):=fun m ae=>W8 om ae;unfold B1;generalize bs (Lib.cut s.data.toList [45]).1=j at *;generalize bs (Lib.cut s.data.toList [45]).2.1=k at *;generalize (Lib.cut s.data.toList [45]).2.2=ag at *;refine oV Tryz.func70 ?_;refine jN (z := .agg #[.int .i64 0,.int .i64 0]) fun af ap h aj d g=>(ad _ (hM.ext d)).mono ?_;rintro _ aq ⟨rfl,a⟩;refine dM (BB om (hT.ext (xt d a)) (hE.ext (xt d a))) fun ar b=>dM (BB om (hT.ext (xt (xt d a) b)) (hE.ext (xt (xt d a) b))) fun au e=>AB.build PU rfl<|BS (fun f=>?_) fun f=>?_
 .refine BS (fun i=>?_) fun i=>?_
  .refine BS (fun l=>?_) fun l=>?_
   .refine AL (fun o=>?_) fun o=>?_
    .refine AW (vs:=[Value.int IntKind.i64 (Al j),Value.int IntKind.i64 (Al k)]) kR (g.ext (xt (xt a b) e)) rfl rfl (by simp [AE]) fun ak x p=>AP (jR (n:=2) rfl p.cells) ⟨?_,(xb (xt (xt (xt d a) b) e) x.but h)⟩
     .simp [AF.enc,f,i,l,o]
    .refine AW (vs:=[Value.int IntKind.i64 (Al j),Value.int IntKind.i64 (Al k)]) kR (g.ext (xt (xt a b) e)) rfl rfl (by simp [AE]) fun al y q=>AP (jR (n:=2) rfl q.cells) ⟨?_,(xb (xt (xt (xt d a) b) e) y.but h)⟩
     .simp [AF.enc,f,i,l,o]
   .refine AW (vs:=[Value.int IntKind.i64 (Al j),Value.int IntKind.i64 (Al k)]) kR (g.ext (xt (xt a b) e)) rfl rfl (by simp [AE]) fun am aa r=>AP (jR (n:=2) rfl r.cells) ⟨?_,(xb (xt (xt (xt d a) b) e) aa.but h)⟩
    .simp [AF.enc,f,i,l]
  .refine AW (vs:=[Value.int IntKind.i64 (Al j),Value.int IntKind.i64 (Al k)]) kR (g.ext (xt (xt a b) e)) rfl rfl (by simp [AE]) fun an ab t=>AP (jR (n:=2) rfl t.cells) ⟨?_,(xb (xt (xt (xt d a) b) e) ab.but h)⟩
   .simp [AF.enc,f,i]
 .refine AW (vs:=[Value.int IntKind.i64 (Al j),Value.int IntKind.i64 (Al k)]) kR (g.ext (xt (xt a b) e)) rfl rfl (by simp [AE]) fun ao ac u=>AP (jR (n:=2) rfl u.cells) ⟨?_,(xb (xt (xt (xt d a) b) e) ac.but h)⟩
  .simp [AF.enc,f]
theorem Hp (t:ByteArray) (w:World):Dq 33 [.string t] w (fun v w'=>v = .string (bs (BW t))/\AD w w'):=by
 refine oV Tryz.func33<|AL (fun b=>?_) (fun b=>?_)
 .have a:BW t=[116,120]:=by unfold BW;simp only [eq_true (show t=CP from b),if_true,if_false,true_or,or_true,false_or,or_false]
  rw [a];exact ⟨rfl,AD.refl _⟩
 refine AL (fun c=>?_) (fun c=>?_)
 .have a:BW t=[116]:=by unfold BW;simp only [eq_false (show ¬ t=CP from b),eq_true (show t=CH from c),if_true,if_false,true_or,or_true,false_or,or_false]
  rw [a];exact iY ⟨rfl,AD.refl _⟩
 refine AL (fun d=>?_) (fun d=>?_)
 .have a:BW t=[116]:=by unfold BW;simp only [eq_false (show ¬ t=CP from b),eq_false (show ¬ t=CH from c),eq_true (show t=Cb from d),if_true,if_false,true_or,or_true,false_or,or_false]
  rw [a];exact ⟨rfl,AD.refl _⟩
 refine AL (fun e=>?_) (fun e=>?_)
 .have a:BW t=[116,102,116]:=by unfold BW;simp only [eq_false (show ¬ t=CP from b),eq_false (show ¬ t=CH from c),eq_false (show ¬ t=Cb from d),eq_true (show t=Di from e),if_true,if_false,true_or,or_true,false_or,or_false]
  rw [a];exact iY ⟨rfl,AD.refl _⟩
 refine AL (fun f=>?_) (fun f=>?_)
 .have a:BW t=[116,102,116]:=by unfold BW;simp only [eq_false (show ¬ t=CP from b),eq_false (show ¬ t=CH from c),eq_false (show ¬ t=Cb from d),eq_false (show ¬ t=Di from e),eq_true (show t=Cx from f),if_true,if_false,true_or,or_true,false_or,or_false]
  rw [a];exact ⟨rfl,AD.refl _⟩
 refine AL (fun g=>?_) (fun g=>?_)
 .have a:BW t=[116,116,102,116]:=by unfold BW;simp only [eq_false (show ¬ t=CP from b),eq_false (show ¬ t=CH from c),eq_false (show ¬ t=Cb from d),eq_false (show ¬ t=Di from e),eq_false (show ¬ t=Cx from f),eq_true (show t=DD from g),if_true,if_false,true_or,or_true,false_or,or_false]
  rw [a];exact iY ⟨rfl,AD.refl _⟩
 refine AL (fun h=>?_) (fun h=>?_)
 .have a:BW t=[116,116,102,116]:=by unfold BW;simp only [eq_false (show ¬ t=CP from b),eq_false (show ¬ t=CH from c),eq_false (show ¬ t=Cb from d),eq_false (show ¬ t=Di from e),eq_false (show ¬ t=Cx from f),eq_false (show ¬ t=DD from g),eq_true (show t=DP from h),if_true,if_false,true_or,or_true,false_or,or_false]
  rw [a];exact iY ⟨rfl,AD.refl _⟩
 refine AL (fun i=>?_) (fun i=>?_)
 .have a:BW t=[116,116,102,116]:=by unfold BW;simp only [eq_false (show ¬ t=CP from b),eq_false (show ¬ t=CH from c),eq_false (show ¬ t=Cb from d),eq_false (show ¬ t=Di from e),eq_false (show ¬ t=Cx from f),eq_false (show ¬ t=DD from g),eq_false (show ¬ t=DP from h),eq_true (show t=EV from i),if_true,if_false,true_or,or_true,false_or,or_false]
  rw [a];exact ⟨rfl,AD.refl _⟩
 refine AL (fun j=>?_) (fun j=>?_)
 .have a:BW t=[116,102,120,116]:=by unfold BW;simp only [eq_false (show ¬ t=CP from b),eq_false (show ¬ t=CH from c),eq_false (show ¬ t=Cb from d),eq_false (show ¬ t=Di from e),eq_false (show ¬ t=Cx from f),eq_false (show ¬ t=DD from g),eq_false (show ¬ t=DP from h),eq_false (show ¬ t=EV from i),eq_true (show t=Bz from j),if_true,if_false,true_or,or_true,false_or,or_false]
  rw [a];exact ⟨rfl,AD.refl _⟩
 refine AL (fun k=>?_) (fun k=>?_)
 .have a:BW t=[116,102,102]:=by unfold BW;simp only [eq_false (show ¬ t=CP from b),eq_false (show ¬ t=CH from c),eq_false (show ¬ t=Cb from d),eq_false (show ¬ t=Di from e),eq_false (show ¬ t=Cx from f),eq_false (show ¬ t=DD from g),eq_false (show ¬ t=DP from h),eq_false (show ¬ t=EV from i),eq_false (show ¬ t=Bz from j),eq_true (show t=BK from k),if_true,if_false,true_or,or_true,false_or,or_false]
  rw [a];exact ⟨rfl,AD.refl _⟩
 refine AL (fun l=>?_) (fun l=>?_)
 .have a:BW t=[116,102]:=by unfold BW;simp only [eq_false (show ¬ t=CP from b),eq_false (show ¬ t=CH from c),eq_false (show ¬ t=Cb from d),eq_false (show ¬ t=Di from e),eq_false (show ¬ t=Cx from f),eq_false (show ¬ t=DD from g),eq_false (show ¬ t=DP from h),eq_false (show ¬ t=EV from i),eq_false (show ¬ t=Bz from j),eq_false (show ¬ t=BK from k),eq_true (show t=Cm from l),if_true,if_false,true_or,or_true,false_or,or_false]
  rw [a];exact ⟨rfl,AD.refl _⟩
 refine AL (fun m=>?_) (fun m=>?_)
 .have a:BW t=[116,102,102]:=by unfold BW;simp only [eq_false (show ¬ t=CP from b),eq_false (show ¬ t=CH from c),eq_false (show ¬ t=Cb from d),eq_false (show ¬ t=Di from e),eq_false (show ¬ t=Cx from f),eq_false (show ¬ t=DD from g),eq_false (show ¬ t=DP from h),eq_false (show ¬ t=EV from i),eq_false (show ¬ t=Bz from j),eq_false (show ¬ t=BK from k),eq_false (show ¬ t=Cm from l),eq_true (show t=GC from m),if_true,if_false,true_or,or_true,false_or,or_false]
  rw [a];exact ⟨rfl,AD.refl _⟩
 refine AL (fun n=>?_) (fun n=>?_)
 .have a:BW t=[116,110,120]:=by unfold BW;simp only [eq_false (show ¬ t=CP from b),eq_false (show ¬ t=CH from c),eq_false (show ¬ t=Cb from d),eq_false (show ¬ t=Di from e),eq_false (show ¬ t=Cx from f),eq_false (show ¬ t=DD from g),eq_false (show ¬ t=DP from h),eq_false (show ¬ t=EV from i),eq_false (show ¬ t=Bz from j),eq_false (show ¬ t=BK from k),eq_false (show ¬ t=Cm from l),eq_false (show ¬ t=GC from m),eq_true (show t=Dz from n),if_true,if_false,true_or,or_true,false_or,or_false]
  rw [a];exact ⟨rfl,AD.refl _⟩
 (conv=>whnf);have a:BW t=[]:=by unfold BW;simp only [eq_false (show ¬ t=CP from b),eq_false (show ¬ t=CH from c),eq_false (show ¬ t=Cb from d),eq_false (show ¬ t=Di from e),eq_false (show ¬ t=Cx from f),eq_false (show ¬ t=DD from g),eq_false (show ¬ t=DP from h),eq_false (show ¬ t=EV from i),eq_false (show ¬ t=Bz from j),eq_false (show ¬ t=BK from k),eq_false (show ¬ t=Cm from l),eq_false (show ¬ t=GC from m),eq_false (show ¬ t=Dz from n),if_false,false_or,or_false]
 rw [a];exact ⟨rfl,AD.refl _⟩
theorem Tq (a:Option Addr) (n c:Nat) (w:World):Dq 151 [.slice a n c] w (fun v w'=>v = .int .i64 n/\w=w'):=by
 refine oV Tryz.func151 ?_;exact ⟨rfl,rfl⟩
theorem J8 {w:World} {a:Option Addr} {n c B:Nat} {ls:List ByteArray} (h:Ai eS 1 B 9 w a n c ls) (hB:B<=w.heap.size) (hn:n<=1000000) (hT:F7 w) :
  Dq 82 [.slice a n c] w (fun v w'=>∃ a' c',v = .slice a' (n+1) c'/\Ai eS 1 B 9 w' a' (n+1) c' (CI ls)/\(∀ q,AN a' q->AN a q\/w.heap.size<=q)/\BY (AN a) w w'):=by
 have k:=h.own.arr AQ;have l:=k.len;have j:BM (n:Int):=by unfold BM;omega
 have u:=Bc (n:=(n:Int)) om om;refine oV Tryz.func82 ?_;refine (Tq _ _ _ _).mono ?_;rintro _ _ ⟨rfl,rfl⟩;refine dM (Ck j hT) fun y b=>?_;refine Ao (by simp only [ByteArray.size_append,AV,CO,CZ,List.length_cons,List.length_nil];omega) ?_;refine bS BI (vs:=[Value.string ({ data := #[111,107,32] }++BP ↑n)]) ?_;intro s z i x d e;have f:=AG (n:=1) (enc:=eS) (xs:=[{ data := #[111,107,32] }++BP ↑n]) AQ e i rfl dE;have ac:=b.size;have ad:=d.size;refine AM (enc:=eS) BI AQ (h.ext (xt b d)) (f.own.arr AQ) (by intro ab _;simp [eS,AE]) om om om ?_;intro r t aa g p o;exact ⟨_,_,rfl,by unfold CI;rw [l];exact g,fun q m=>(o q m).imp id (fun h=>by omega),(AD.mod (xt b d)).trans p⟩
theorem P4 (x:Int) (w:World):Dq 72 [.int .i64 x] w (fun v w'=>v = .bool (!Dc x 0 5)/\AD w w'):=by
 refine oV Tryz.func72 ?_;refine (FH _ _).mono ?_;rintro _ _ ⟨rfl,rfl⟩;exact ⟨rfl,AD.refl _⟩
structure GP (w:World) (B b:Nat) (A:C7) (a1 a2 a3 a4:Option Addr) (c1 c2 c3 c4:Nat):Prop where
 blk:CD w b [.slice a1 A.trays.length c1,.slice a2 A.nums.length c2,.slice a3 A.fields.length c3,.slice a4 A.texts.length c4] 68
 g1:Ai eI 1 B 2 w a1 A.trays.length c1 A.trays
 g2:Ai eI 1 B 2 w a2 A.nums.length c2 A.nums
 g3:Ai AF.enc 2 B 90 w a3 A.fields.length c3 A.fields
 g4:Ai eS 1 B 9 w a4 A.texts.length c4 A.texts
 nb:∀ k,AN a1 k\/AN a2 k\/AN a3 k\/AN a4 k->k≠b
 d:∀ k,¬ (AN a1 k/\AN a2 k)/\¬ (AN a1 k/\AN a3 k)/\¬ (AN a1 k/\AN a4 k)/\¬ (AN a2 k/\AN a3 k)/\¬ (AN a2 k/\AN a4 k)/\¬ (AN a3 k/\AN a4 k)
section
variable {w w' w0 w1 w2:World} {B b:Nat} {A:C7} {a1 a2 a3 a4:Option Addr} {c1 c2 c3 c4:Nat}
theorem GP.ext (h:GP w B b A a1 a2 a3 a4 c1 c2 c3 c4) (e:AD w w'):GP w' B b A a1 a2 a3 a4 c1 c2 c3 c4 :=
 ⟨h.blk.ext e,h.g1.ext e,h.g2.ext e,h.g3.ext e,h.g4.ext e,h.nb,h.d⟩
theorem GP.lt (h:GP w B b A a1 a2 a3 a4 c1 c2 c3 c4):b<w.heap.size/\∀ k,AN a1 k\/AN a2 k\/AN a3 k\/AN a4 k->k<w.heap.size:=by
 refine ⟨h.blk.lt,fun k d=>?_⟩;rcases d with ⟨c,a,rfl⟩ | ⟨c,a,rfl⟩ | ⟨c,a,rfl⟩ | ⟨c,a,rfl⟩
 .exact (h.g1.blk_lt c a).2
 .exact (h.g2.blk_lt c a).2
 .exact (h.g3.blk_lt c a).2
 .exact (h.g4.blk_lt c a).2
theorem GP.push1 (h:GP w0 B b A a1 a2 a3 a4 c1 c2 c3 c4) {x:Int} {a:Option Addr} {c:Nat} (g:Ai eI 1 B 2 w1 a (A.trays.length+1) c (A.trays++[x])) (M:BY (AN a1) w0 w1) (hi:∀ k,AN a k->AN a1 k\/k=w0.heap.size)
  (m:OW b w1 w2) (B2:CD w2 b [.slice a (A.trays.length+1) c,.slice a2 A.nums.length c2,.slice a3 A.fields.length c3,.slice a4 A.texts.length c4] 68):GP w2 B b { A with trays:=A.trays++[x] } a a2 a3 a4 c c2 c3 c4:=by
 have r:=h.lt;have q:=h.d;have o:=h.nb;refine ⟨by simpa using B2,?_,?_,?_,?_,fun k l=>?_,fun k=>?_⟩
 .simpa using g.mod m.but fun e f j=>by
   have:=hi e.block ⟨e,f,rfl⟩;have j:e.block=b:=j;rcases this with i | i
   .exact o _ (.inl i) j
   .omega
 .exact (h.g2.mod M fun e f i=>(q e.block).1 ⟨i,⟨e,f,rfl⟩⟩).mod m.but fun e f j=>o e.block (.inr (.inl ⟨e,f,rfl⟩)) j
 .exact (h.g3.mod M fun e f i=>(q e.block).2.1 ⟨i,⟨e,f,rfl⟩⟩).mod m.but fun e f j=>o e.block (.inr (.inr (.inl ⟨e,f,rfl⟩))) j
 .exact (h.g4.mod M fun e f i=>(q e.block).2.2.1 ⟨i,⟨e,f,rfl⟩⟩).mod m.but fun e f j=>o e.block (.inr (.inr (.inr ⟨e,f,rfl⟩))) j
 .rcases l with i | i
  .rcases hi k i with n | n
   .exact o k (.inl n)
   .omega
  .exact o k (.inr i)
 .have l:=q k;have t:=fun h=>r.2 k (.inr (.inl h));have u:=fun h=>r.2 k (.inr (.inr (.inl h)));have v:=fun h=>r.2 k (.inr (.inr (.inr h)));have s:=hi k;refine ⟨?_,?_,?_,l.2.2.2.1,l.2.2.2.2.1,l.2.2.2.2.2⟩<;>rintro ⟨w,p⟩<;>rcases s w with n | n
  .exact l.1 ⟨n,p⟩
  .have:=t p;omega
  .exact l.2.1 ⟨n,p⟩
  .have:=u p;omega
  .exact l.2.2.1 ⟨n,p⟩
  .have:=v p;omega
theorem GP.push2 (h:GP w0 B b A a1 a2 a3 a4 c1 c2 c3 c4) {x:Int} {a:Option Addr} {c:Nat} (g:Ai eI 1 B 2 w1 a (A.nums.length+1) c (A.nums++[x])) (M:BY (AN a2) w0 w1) (hi:∀ k,AN a k->AN a2 k\/k=w0.heap.size)
  (m:OW b w1 w2) (B2:CD w2 b [.slice a1 A.trays.length c1,.slice a (A.nums.length+1) c,.slice a3 A.fields.length c3,.slice a4 A.texts.length c4] 68):GP w2 B b { A with nums:=A.nums++[x] } a1 a a3 a4 c1 c c3 c4:=by
 have t:=h.lt;have r:=h.d;have p:=h.nb;refine ⟨by simpa using B2,?_,?_,?_,?_,fun k n=>?_,fun k=>?_⟩
 .exact (h.g1.mod M fun e i f=>(r e.block).1 ⟨⟨e,i,rfl⟩,f⟩).mod m.but fun e i l=>p e.block (.inl ⟨e,i,rfl⟩) l
 .simpa using g.mod m.but fun e i l=>by
   have:=hi e.block ⟨e,i,rfl⟩;have l:e.block=b:=l;rcases this with f | f
   .exact p _ (.inr (.inl f)) l
   .omega
 .exact (h.g3.mod M fun e i f=>(r e.block).2.2.2.1 ⟨f,⟨e,i,rfl⟩⟩).mod m.but fun e i l=>p e.block (.inr (.inr (.inl ⟨e,i,rfl⟩))) l
 .exact (h.g4.mod M fun e i f=>(r e.block).2.2.2.2.1 ⟨f,⟨e,i,rfl⟩⟩).mod m.but fun e i l=>p e.block (.inr (.inr (.inr ⟨e,i,rfl⟩))) l
 .rcases n with f | f | f
  .exact p k (.inl f)
  .rcases hi k f with j | j
   .exact p k (.inr (.inl j))
   .omega
  .exact p k (.inr (.inr f))
 .have n:=r k;have u:=fun h=>t.2 k (.inl h);have v:=fun h=>t.2 k (.inr (.inr (.inl h)));have w:=fun h=>t.2 k (.inr (.inr (.inr h)));have s:=hi k;refine ⟨?_,n.2.1,n.2.2.1,?_,?_,n.2.2.2.2.2⟩
  .rintro ⟨o,q⟩;rcases s q with j | j
   .exact n.1 ⟨o,j⟩
   .have:=u o;omega
  .rintro ⟨q,o⟩;rcases s q with j | j
   .exact n.2.2.2.1 ⟨j,o⟩
   .have:=v o;omega
  .rintro ⟨q,o⟩;rcases s q with j | j
   .exact n.2.2.2.2.1 ⟨j,o⟩
   .have:=w o;omega
theorem GP.push3 (h:GP w0 B b A a1 a2 a3 a4 c1 c2 c3 c4) {x:AF} {a:Option Addr} {c:Nat} (g:Ai AF.enc 2 B 90 w1 a (A.fields.length+1) c (A.fields++[x])) (M:BY (AN a3) w0 w1) (hi:∀ k,AN a k->AN a3 k\/k=w0.heap.size)
  (m:OW b w1 w2) (B2:CD w2 b [.slice a1 A.trays.length c1,.slice a2 A.nums.length c2,.slice a (A.fields.length+1) c,.slice a4 A.texts.length c4] 68):GP w2 B b { A with fields:=A.fields++[x] } a1 a2 a a4 c1 c2 c c4:=by
 have t:=h.lt;have r:=h.d;have o:=h.nb;refine ⟨by simpa using B2,?_,?_,?_,?_,fun k n=>?_,fun k=>?_⟩
 .exact (h.g1.mod M fun e i f=>(r e.block).2.1 ⟨⟨e,i,rfl⟩,f⟩).mod m.but fun e i l=>o e.block (.inl ⟨e,i,rfl⟩) l
 .exact (h.g2.mod M fun e i f=>(r e.block).2.2.2.1 ⟨⟨e,i,rfl⟩,f⟩).mod m.but fun e i l=>o e.block (.inr (.inl ⟨e,i,rfl⟩)) l
 .simpa using g.mod m.but fun e i l=>by
   have:=hi e.block ⟨e,i,rfl⟩;have l:e.block=b:=l;rcases this with f | f
   .exact o _ (.inr (.inr (.inl f))) l
   .omega
 .exact (h.g4.mod M fun e i f=>(r e.block).2.2.2.2.2 ⟨f,⟨e,i,rfl⟩⟩).mod m.but fun e i l=>o e.block (.inr (.inr (.inr ⟨e,i,rfl⟩))) l
 .rcases n with f | f | f | f
  .exact o k (.inl f)
  .exact o k (.inr (.inl f))
  .rcases hi k f with j | j
   .exact o k (.inr (.inr (.inl j)))
   .omega
  .exact o k (.inr (.inr (.inr f)))
 .have n:=r k;have u:=fun h=>t.2 k (.inl h);have v:=fun h=>t.2 k (.inr (.inl h));have w:=fun h=>t.2 k (.inr (.inr (.inr h)));have s:=hi k;refine ⟨n.1,?_,n.2.2.1,?_,n.2.2.2.2.1,?_⟩
  .rintro ⟨p,q⟩;rcases s q with j | j
   .exact n.2.1 ⟨p,j⟩
   .have:=u p;omega
  .rintro ⟨p,q⟩;rcases s q with j | j
   .exact n.2.2.2.1 ⟨p,j⟩
   .have:=v p;omega
  .rintro ⟨q,p⟩;rcases s q with j | j
   .exact n.2.2.2.2.2 ⟨j,p⟩
   .have:=w p;omega
theorem GP.push4 (h:GP w0 B b A a1 a2 a3 a4 c1 c2 c3 c4) {x:ByteArray} {a:Option Addr} {c:Nat} (g:Ai eS 1 B 9 w1 a (A.texts.length+1) c (A.texts++[x])) (M:BY (AN a4) w0 w1) (hi:∀ k,AN a k->AN a4 k\/k=w0.heap.size)
  (m:OW b w1 w2) (B2:CD w2 b [.slice a1 A.trays.length c1,.slice a2 A.nums.length c2,.slice a3 A.fields.length c3,.slice a (A.texts.length+1) c] 68):GP w2 B b { A with texts:=A.texts++[x] } a1 a2 a3 a c1 c2 c3 c:=by
 have t:=h.lt;have r:=h.d;have o:=h.nb;refine ⟨by simpa using B2,?_,?_,?_,?_,fun k n=>?_,fun k=>?_⟩
 .exact (h.g1.mod M fun e i f=>(r e.block).2.2.1 ⟨⟨e,i,rfl⟩,f⟩).mod m.but fun e i l=>o e.block (.inl ⟨e,i,rfl⟩) l
 .exact (h.g2.mod M fun e i f=>(r e.block).2.2.2.2.1 ⟨⟨e,i,rfl⟩,f⟩).mod m.but fun e i l=>o e.block (.inr (.inl ⟨e,i,rfl⟩)) l
 .exact (h.g3.mod M fun e i f=>(r e.block).2.2.2.2.2 ⟨⟨e,i,rfl⟩,f⟩).mod m.but fun e i l=>o e.block (.inr (.inr (.inl ⟨e,i,rfl⟩))) l
 .simpa using g.mod m.but fun e i l=>by
   have:=hi e.block ⟨e,i,rfl⟩;have l:e.block=b:=l;rcases this with f | f
   .exact o _ (.inr (.inr (.inr f))) l
   .omega
 .rcases n with f | f | f | f
  .exact o k (.inl f)
  .exact o k (.inr (.inl f))
  .exact o k (.inr (.inr (.inl f)))
  .rcases hi k f with j | j
   .exact o k (.inr (.inr (.inr j)))
   .omega
 .have n:=r k;have u:=fun h=>t.2 k (.inl h);have v:=fun h=>t.2 k (.inr (.inl h));have w:=fun h=>t.2 k (.inr (.inr (.inl h)));have s:=hi k;refine ⟨n.1,n.2.1,?_,n.2.2.2.1,?_,?_⟩
  .rintro ⟨p,q⟩;rcases s q with j | j
   .exact n.2.2.1 ⟨p,j⟩
   .have:=u p;omega
  .rintro ⟨p,q⟩;rcases s q with j | j
   .exact n.2.2.2.2.1 ⟨p,j⟩
   .have:=v p;omega
  .rintro ⟨p,q⟩;rcases s q with j | j
   .exact n.2.2.2.2.2 ⟨p,j⟩
   .have:=w p;omega
end
theorem RP {w:World} {a:Option Addr} {n c:Nat} {ws:List ByteArray} (h:A4 eS 1 w a n ws) {p:List UInt8} (hp:p.length=n) (hs:∀ x∈ws,x.size<=1048576) (hn4:n<=4) (hT:F7 w) (hE:EP w) (hM:Dy w) :
  Dq 34 [.string (bs p),.slice a n c] w (fun v w'=>∃ a1 n1 c1 a2 n2 c2 a3 n3 c3 a4 n4 c4,v = .tuple #[.agg #[.slice a1 n1 c1,.slice a2 n2 c2,.slice a3 n3 c3,.slice a4 n4 c4],.int .i64 (Bd p ws).2] /\
   ((Bd p ws).2=0->A4 eI 1 w' a1 n1 (Bd p ws).1.trays/\A4 eI 1 w' a2 n2 (Bd p ws).1.nums/\A4 AF.enc 2 w' a3 n3 (Bd p ws).1.fields/\A4 eS 1 w' a4 n4 (Bd p ws).1.texts/\Ad w.heap.size a1/\Ad w.heap.size a2/\Ad w.heap.size a3/\Ad w.heap.size a4)/\AD w w'):=by
 have cq:=h.len;refine oV Tryz.func34 ?_;refine jN (z := .agg #[.slice none 0 0,.slice none 0 0,.slice none 0 0,.slice none 0 0]) ?_;intro ag cy cm cu bx b3;refine AB.build Ub rfl<|jN (z := .agg #[.slice none 0 0,.slice none 0 0,.slice none 0 0,.slice none 0 0]) fun ai a9 cn cv bc b5=>jS (vs:=[Value.slice none 0 0,Value.slice none 0 0,Value.slice none 0 0,Value.slice none 0 0]) b5 rfl rfl (by simp [AE]) ?_;intro bq bb b6;have cz:=bx.size;have c0:=bc.size;have c5:=bb.but.size;have cs:(p.zip ws).length=n:=by rw [List.length_zip];omega
 have b':GP bq a9.heap.size ai D0 none none none none 0 0 0 0:=⟨b6,Ai.nil,Ai.nil,Ai.nil,Ai.nil,(by
  rintro b (⟨x,y,_⟩ | ⟨x,y,_⟩ | ⟨x,y,_⟩ | ⟨x,y,_⟩)<;>cases y),(fun b=>by
  refine ⟨?_,?_,?_,?_,?_,?_⟩<;>(rintro ⟨⟨x,y,_⟩,_⟩;cases y))⟩
 have b4:CD bq ag [.slice none 0 0,.slice none 0 0,.slice none 0 0,.slice none 0 0] 68:=(b3.ext bc).mod bb.but (fun d=>by have d:ag=ai:=d;omega);have b7:AD w bq:=xb (xt bx bc) bb.but om;refine lR [0,4,6,15,16,17] (fun (b:Nat) ch w'=>∃ a1 a2 a3 a4 c1 c2 c3 c4,ch=[.string (bs p),.pointer (some ⟨ag,0,none⟩),.pointer (some ⟨ai,0,none⟩),.slice a n c,.int .i64 n,.int .i64 b]/\b<=n/\(Cs ((p.zip ws).take b)).2=true/\GP w' a9.heap.size ai (Cs ((p.zip ws).take b)).1 a1 a2 a3 a4 c1 c2 c3 c4/\CD w' ag [.slice none 0 0,.slice none 0 0,.slice none 0 0,.slice none 0 0] 68/\AD w w'/\a9.heap.size<=w'.heap.size/\(Cs ((p.zip ws).take b)).1.trays.length<=b/\(Cs ((p.zip ws).take b)).1.nums.length<=b/\(Cs ((p.zip ws).take b)).1.fields.length<=b/\(Cs ((p.zip ws).take b)).1.texts.length<=b) (fun b=>n - b) 0 ⟨none,none,none,none,0,0,0,0,rfl,om,rfl,b',b4,b7,om,Nat.le_refl _,Nat.le_refl _,Nat.le_refl _,Nat.le_refl _⟩ ?_;rintro b cl _ br ⟨a1,a2,a3,a4,c1,c2,c3,c4,rfl,co,a8,f,ax,t,cr,n1,n2,n3,n4⟩;rcases Nat.lt_or_ge b n with ca | ca
 .obtain ⟨af,bz⟩:=AA (l:=p) (k:=b) om;obtain ⟨x,y⟩:=AA (l:=ws) (k:=b) om;have ab:=Lj (YS bz y);rw [if_pos a8] at ab;have bh:(Cs ((p.zip ws).take (b+1))).2=false->Bd p ws=(D0,7):=fun h=>by unfold Bd;rw [if_pos (Vu h)]
  have cb:=hs x (List.mem_of_getElem? y);generalize (Cs ((p.zip ws).take b)).1=aw at *;have ay:(bs p).data.toList[b]? = some af:=bz;have cp:=f.lt;by_cases bl:af=116
  .subst bl;rw [Sp] at ab;refine iY<|jI (h.ext t) b rfl y fun ba bk be aq=>jO aq rfl<|jC (s:=bs p) b rfl ay<|dM (BB om (hT.ext t) (hE.ext t)) fun a6 i=>jC (s:=bs p) b rfl ay<|jL (f.ext i).blk.cells (k:=0) rfl<|AB.buildSlice B5 (vs:=[Value.int .i64 (Al x)]) (by rfl) (by rfl) (by simp [Value.cells,AF.enc]) dE ?_;intro a' bo bd bj r aj;have e:=f.ext (xt i r);have bt:=i.size;have bu:=r.size;refine BR (enc:=eI) B5 AI e.g1 (ys:=[Al x]) (m:=1) aj.cells rfl (by simp [BD,eI,eS,AF.enc,AE]) om om om ?_;intro am an bp al j ar;have ap:=e.blk.mod j (fun d=>e.nb _ (.inl d) rfl);refine jT ap (k:=0) sI rfl ?_;intro av q ak;have ao:=e.push1 al j ar q ak;have bv:=j.size;have bw:=q.but.size;have ad:=((ax.ext (xt i r)).mod j (fun d=>by
    obtain ⟨o,u,bg⟩:=d;have:=e.g1.new o u;omega)).mod q.but (fun d=>by have d:ag=ai:=d;omega)
   have ae:AD w av:=xb (xm (xt t (xt i r)) j (fun au d=>by
    have:=AO e.g1.new au d;omega)) q.but om
   refine A7 (fun ac=>?_) (fun ac=>?_)
   .rw [bh (by rw [ab];exact ac)];exact AB.build Ub rfl<|jS (vs:=[.slice none 0 0,.slice none 0 0,.slice none 0 0,.slice none 0 0]) ad rfl rfl (by simp [AE]) fun b1 a5 a0=>AP (jR (n:=4) rfl a0.cells) ⟨_,_,_,_,_,_,_,_,_,_,_,_,rfl,(fun h=>by cases h),xb ae a5.but om⟩
   .refine jP (((b+1:Nat):Int)) ⟨b+1,om,am,a2,a3,a4,an,c2,c3,c4,rfl,om,?_⟩;rw [ab];exact ⟨ac,ao,ad,ae,om,by simp only [List.length_append,List.length_singleton];omega,Nat.le_succ_of_le n2,Nat.le_succ_of_le n3,Nat.le_succ_of_le n4⟩
  .by_cases bm:af=110
   .subst bm;rw [Sq] at ab;refine iY<|jI (h.ext t) b rfl y fun ba bk be aq=>jO aq rfl<|jC (s:=bs p) b rfl ay<|dM (BB om (hT.ext t) (hE.ext t)) fun a6 i=>jC (s:=bs p) b rfl ay<|jL (f.ext i).blk.cells (k:=1) rfl<|AB.buildSlice B5 (vs:=[Value.int .i64 (Al x)]) (by rfl) (by rfl) (by simp [Value.cells,AF.enc]) dE ?_;intro a' bo bd bj r aj;have e:=f.ext (xt i r);have bt:=i.size;have bu:=r.size;refine BR (enc:=eI) B5 AI e.g2 (ys:=[Al x]) (m:=1) aj.cells rfl (by simp [BD,eI,eS,AF.enc,AE]) om om om ?_;intro am an bp al j ar;have ap:=e.blk.mod j (fun d=>e.nb _ (.inr (.inl d)) rfl);refine jT ap (k:=1) sI rfl ?_;intro av q ak;have ao:=e.push2 al j ar q ak;have bv:=j.size;have bw:=q.but.size;have ad:=((ax.ext (xt i r)).mod j (fun d=>by
     obtain ⟨o,u,bg⟩:=d;have:=e.g2.new o u;omega)).mod q.but (fun d=>by have d:ag=ai:=d;omega)
    have ae:AD w av:=xb (xm (xt t (xt i r)) j (fun au d=>by
     have:=AO e.g2.new au d;omega)) q.but om
    refine A7 (fun ac=>?_) (fun ac=>?_)
    .rw [bh (by rw [ab];exact ac)];exact AB.build Ub rfl<|jS (vs:=[.slice none 0 0,.slice none 0 0,.slice none 0 0,.slice none 0 0]) ad rfl rfl (by simp [AE]) fun b1 a5 a0=>AP (jR (n:=4) rfl a0.cells) ⟨_,_,_,_,_,_,_,_,_,_,_,_,rfl,(fun h=>by cases h),xb ae a5.but om⟩
    .refine jP (((b+1:Nat):Int)) ⟨b+1,om,a1,am,a3,a4,c1,an,c3,c4,rfl,om,?_⟩;rw [ab];exact ⟨ac,ao,ad,ae,om,Nat.le_succ_of_le n1,by simp only [List.length_append,List.length_singleton];omega,Nat.le_succ_of_le n3,Nat.le_succ_of_le n4⟩
   .by_cases bn:af=102
    .subst bn;rw [Ss] at ab;refine iY<|jI (h.ext t) b rfl y fun ba bk be aq=>jO aq rfl<|jC (s:=bs p) b rfl ay<|dM (P3 cb (hT.ext t) (hE.ext t) (hM.ext t)) fun ci aa=>jN (z := .agg #[.int .i64 0,.int .i64 0]) fun cj cx b9 ct b8 b2=>AW (vs:=(B1 x).1.enc) kR b2 rfl rfl (by simp [AF.enc,AE]) ?_;intro a6 ah az;have i:AD br a6:=xb (xt aa b8) ah.but (Nat.le_trans aa.size b9);refine jL (f.ext i).blk.cells (k:=2) rfl<|jA (n:=2) az.cells rfl<|AB.buildSlice JV (vs:=[.agg ⟨(B1 x).1.enc⟩]) (by rfl) (by rfl) (by simp [Value.cells,AF.enc]) dE ?_;intro a' bo bd bj r aj;have e:=f.ext (xt i r);have bt:=i.size;have bu:=r.size;refine BR (enc:=AF.enc) JV Bj e.g3 (ys:=[(B1 x).1]) (m:=1) aj.cells rfl (by simp [BD,eI,eS,AF.enc,AE]) om om om ?_;intro am an bp al j ar;have ap:=e.blk.mod j (fun d=>e.nb _ (.inr (.inr (.inl d))) rfl);refine jT ap (k:=2) sI rfl ?_;intro av q ak;have ao:=e.push3 al j ar q ak;have bv:=j.size;have bw:=q.but.size;have ad:=((ax.ext (xt i r)).mod j (fun d=>by
      obtain ⟨o,u,bg⟩:=d;have:=e.g3.new o u;omega)).mod q.but (fun d=>by have d:ag=ai:=d;omega)
     have ae:AD w av:=xb (xm (xt t (xt i r)) j (fun au d=>by
      have:=AO e.g3.new au d;omega)) q.but om
     refine A7 (fun ac=>?_) (fun ac=>?_)
     .rw [bh (by rw [ab];exact ac)];exact AB.build Ub rfl<|jS (vs:=[.slice none 0 0,.slice none 0 0,.slice none 0 0,.slice none 0 0]) ad rfl rfl (by simp [AE]) fun b1 a5 a0=>AP (jR (n:=4) rfl a0.cells) ⟨_,_,_,_,_,_,_,_,_,_,_,_,rfl,(fun h=>by cases h),xb ae a5.but om⟩
     .refine jP (((b+1:Nat):Int)) ⟨b+1,om,a1,a2,am,a4,c1,c2,an,c4,rfl,om,?_⟩;rw [ab];exact ⟨ac,ao,ad,ae,om,Nat.le_succ_of_le n1,Nat.le_succ_of_le n2,by simp only [List.length_append,List.length_singleton];omega,Nat.le_succ_of_le n4⟩
    .rw [So bl bm bn] at ab;have cc:¬ ((af.toNat:Int)=116):=fun h=>bl (UInt8.toNat_inj.1 (by show af.toNat=116;omega));have cd:¬ ((af.toNat:Int)=110):=fun h=>bm (UInt8.toNat_inj.1 (by show af.toNat=110;omega));have ce:¬ ((af.toNat:Int)=102):=fun h=>bn (UInt8.toNat_inj.1 (by show af.toNat=102;omega));refine iY<|jI (h.ext t) b rfl y fun ba bk be aq=>jO aq rfl<|jC (s:=bs p) b rfl ay<|KL.no cc<|KL.no cd<|KL.no ce ?_;have i:AD br br:=AD.refl _;refine jL (f.ext i).blk.cells (k:=3) rfl<|AB.buildSlice BI (vs:=[Value.string x]) (by rfl) (by rfl) (by simp [Value.cells,AF.enc]) dE ?_;intro a' bo bd bj r aj;have e:=f.ext (xt i r);have bt:=i.size;have bu:=r.size;refine BR (enc:=eS) BI AQ e.g4 (ys:=[x]) (m:=1) aj.cells rfl (by simp [BD,eI,eS,AF.enc,AE]) om om om ?_;intro am an bp al j ar;have ap:=e.blk.mod j (fun d=>e.nb _ (.inr (.inr (.inr d))) rfl);refine jT ap (k:=3) sI rfl ?_;intro av q ak;have ao:=e.push4 al j ar q ak;have bv:=j.size;have bw:=q.but.size;have ad:=((ax.ext (xt i r)).mod j (fun d=>by
      obtain ⟨o,u,bg⟩:=d;have:=e.g4.new o u;omega)).mod q.but (fun d=>by have d:ag=ai:=d;omega)
     have ae:AD w av:=xb (xm (xt t (xt i r)) j (fun au d=>by
      have:=AO e.g4.new au d;omega)) q.but om
     refine jP (((b+1:Nat):Int)) ⟨b+1,om,a1,a2,a3,am,c1,c2,c3,an,rfl,om,?_⟩;rw [ab];exact ⟨rfl,ao,ad,ae,om,Nat.le_succ_of_le n1,Nat.le_succ_of_le n2,Nat.le_succ_of_le n3,by simp only [List.length_append,List.length_singleton];omega⟩
 .obtain rfl:b=n:=om
  rw [List.take_of_length_le om] at f a8;generalize b0:Cs (p.zip ws)=cf at *;obtain ⟨aw,cw⟩:=cf;dsimp only at f a8;subst a8;refine iN<|jL f.blk.cells (k:=0) rfl<|dM (Dg (g:=72) (p:=fun cg=>!Dc cg 0 5) (cap:=[]) (f.g1.own.arr AI) (fun x y w' ck=>P4 x w')) fun ci aa=>BS (fun bf=>?_) (fun bf=>?_)
  .have bi:Bd p ws=(D0,2):=by unfold Bd;rw [b0];simp [bf]
   rw [bi];exact AB.build Ub rfl<|jS (vs:=[.slice none 0 0,.slice none 0 0,.slice none 0 0,.slice none 0 0]) (ax.ext aa) rfl rfl (by simp [AE]) fun a6 ah az=>AP (jR (n:=4) rfl az.cells) ⟨_,_,_,_,_,_,_,_,_,_,_,_,rfl,(fun h=>by cases h),xb (xt t aa) ah.but om⟩
  .have bi:Bd p ws=(aw,0):=by unfold Bd;rw [b0];simp [bf]
   rw [bi];refine jA (n:=4) (f.ext aa).blk.cells rfl<|jS (vs:=[.slice a1 aw.trays.length c1,.slice a2 aw.nums.length c2,.slice a3 aw.fields.length c3,.slice a4 aw.texts.length c4]) (ax.ext aa) rfl rfl (by simp [AE]) fun a6 ah az=>AP (jR (n:=4) rfl az.cells) ?_;have a7:∀ (o:Addr),a9.heap.size<=o.block->¬ o.block=ag:=fun o u d=>om
   exact ⟨_,_,_,_,_,_,_,_,_,_,_,_,rfl,fun _=>⟨((f.g1.ext aa).mod ah.but fun o u=>a7 o (f.g1.new o u)).own.arr AI,((f.g2.ext aa).mod ah.but fun o u=>a7 o (f.g2.new o u)).own.arr AI,((f.g3.ext aa).mod ah.but fun o u=>a7 o (f.g3.new o u)).own.arr Bj,((f.g4.ext aa).mod ah.but fun o u=>a7 o (f.g4.new o u)).own.arr AQ,f.g1.new.mono om,f.g2.new.mono om,f.g3.new.mono om,f.g4.new.mono om⟩,xb (xt t aa) ah.but om⟩
end Go.Proofs.YtalgenmoljcnmaaGreatDoor
namespace Go.M
open Go Go.Vc
theorem ZL {n:Nat}:(45:UInt8)∉Lib.decDigits n:=by
 intro a;have:=Ff _ _ a;revert this;decide
theorem QZ {x:ByteArray} (h:Ef x=true):(45:UInt8)∈x.data.toList↔Al x<0:=by
 have c:=Yw h;generalize Al x=d at c;subst c;rw [E7];unfold Lib.itoa;split
 .rename_i b;exact ⟨fun _=>b,fun _=>by simp⟩
 .rename_i b;exact ⟨fun a=>absurd a ZL,fun a=>absurd a b⟩
theorem Vh (s:ByteArray):(∃ a b,Aq 45 s=[a,b]/\Ef a=true/\Ef b=true/\B1 s=(⟨Al a,Al b⟩,true)) \/
  ((B1 s).2=false/\((Aq 45 s).length=2->∃ a b,Aq 45 s=[a,b]/\(Ef a=false\/Ef b=false))):=by
 unfold B1;by_cases h:(45:UInt8)∈s.data.toList
 .obtain ⟨f,d,n,k⟩:=Ft h;have m:Aq 45 s=bs f :: (DA 45 d).map bs:=by
   unfold Aq DA;rw [n,ED 45 _ _ [] k];rfl
  rw [n,T7 k];dsimp only;by_cases e:(45:UInt8)∈d
  .obtain ⟨v,o,t,q⟩:=Ft e;right;refine ⟨?_,fun c=>?_⟩
   .cases p:Ef (bs d)
    .simp
    .have:=(QZ p).1 (by rw [Gg];exact e);simp;omega
   .exfalso;rw [m] at c;unfold DA at c;rw [t,ED 45 _ _ [] q] at c;have:=Ib 45 o;cases l:DA 45 o with
    | nil=>exact this l
    | cons w x=>rw [l] at c;simp at c
  .have r:Aq 45 s=[bs f,bs d]:=by
    rw [m];unfold DA;rw [E9 45 _ [] e];rfl
   rw [r];cases i:Ef (bs f)
   .exact .inr ⟨sI,fun _=>⟨_,_,rfl,.inl i⟩⟩
   .cases j:Ef (bs d)
    .exact .inr ⟨sI,fun _=>⟨_,_,rfl,.inr j⟩⟩
    .have u:¬ Al (bs f)<0:=fun g=>k (by have:=(QZ i).2 g;rwa [Gg] at this);have c:¬ Al (bs d)<0:=fun g=>e (by have:=(QZ j).2 g;rwa [Gg] at this);refine .inl ⟨_,_,rfl,i,j,?_⟩;simp;omega
 .right;rw [T6 h];refine ⟨sI,fun c=>?_⟩;exfalso;unfold Aq DA at c;rw [E9 45 _ [] h] at c;simp at c
theorem SA {t:ByteArray} (h:(deskWordsM.any fun x=>decide (x=t))=true):BW t∈[[116,120],[116],[116,102,116],[],[116,116,102,116],[116,110,120],[116,102],[116,102,120,116],[116,102,102]]:=by
 have b:t∈deskWordsM:=by
  obtain ⟨x,c,a⟩:=List.any_eq_true.1 h;rw [decide_eq_true_eq] at a;exact a▸c
 revert b;clear h;unfold deskWordsM;simp only [List.mem_cons,List.not_mem_nil,or_false];rintro (rfl | rfl | rfl | rfl | rfl | rfl | rfl | rfl | rfl | rfl | rfl | rfl | rfl | rfl)<;>decide +kernel
end Go.M
