/- Parts of the proof; no conditions of its own. -/
import Derived.Test.YtalgenmoljcnmaaGreatDoorRefC
import Derived.Test.YtalgenmoljcnmaaGreatDoorDeckC
import Derived.Test.YtalgenmoljcnmaaGreatDoorVcPut
namespace Go.M
open Go Go.Vc
variable {A:DF} {w:ByteArray} {ps:List (UInt8×ByteArray)} {k:Nat} {p:List UInt8} {ws:List ByteArray} {c:UInt8}
theorem UT (s:ByteArray):(B4 s).1.ok:=⟨G3 _,G3 _⟩
structure VF (A:DF) (p:List UInt8):Prop where
 t:A.trays.length=p.count 116
 n:A.nums.length=p.count 110
 f:A.fields.length=p.count 102
 x:A.texts.length=p.length - p.count 116 - p.count 110 - p.count 102
structure F8 (A:DF):Prop where
 t:∀ x∈A.trays,BH x
 n:∀ x∈A.nums,BH x
 f:∀ x∈A.fields,x.ok
 x:∀ x∈A.texts,x.size<=1048576
theorem aJ6 (h:F8 A) (p:UInt8) (hw:w.size<=1048576):F8 (Cn A p w).1:=by
 unfold Cn;split
 .exact ⟨fun b a=>by rcases List.mem_append.1 a with a | a;exact h.t b a;rw [List.mem_singleton] at a;subst a;exact G3 _,h.n,h.f,h.x⟩
 split
 .exact ⟨h.t,fun b a=>by rcases List.mem_append.1 a with a | a;exact h.n b a;rw [List.mem_singleton] at a;subst a;exact G3 _,h.f,h.x⟩
 split
 .exact ⟨h.t,h.n,fun b a=>by rcases List.mem_append.1 a with a | a;exact h.f b a;rw [List.mem_singleton] at a;subst a;exact UT _,h.x⟩
 .exact ⟨h.t,h.n,h.f,fun b a=>by rcases List.mem_append.1 a with a | a;exact h.x b a;rw [List.mem_singleton] at a;subst a;exact hw⟩
theorem aF4 (A:DF) (p:UInt8) (w:ByteArray):(Cn A p w).1.trays.length=A.trays.length+(if p=116 then 1 else 0)/\(Cn A p w).1.nums.length=A.nums.length+(if p=110 then 1 else 0)/\(Cn A p w).1.fields.length=A.fields.length+(if p=102 then 1 else 0) /\
  (Cn A p w).1.texts.length=A.texts.length+(if p=116\/p=110\/p=102 then 0 else 1):=by
 unfold Cn;by_cases a:p=116
 .subst a;simp
 by_cases b:p=110
 .subst b;simp
 by_cases c:p=102
 .subst c;simp
 simp [a,b,c]
theorem MQ {p:UInt8} (h:ps[k]? = some (p,w)):Cy (ps.take (k+1))=if (Cy (ps.take k)).2=true then Cn (Cy (ps.take k)).1 p w else Cy (ps.take k):=by
 unfold Cy;rw [List.take_add_one,h,List.foldl_append];rfl
theorem OQ:∀ (ps:List (UInt8×ByteArray)) (st:DF×Bool),st.2=false->(ps.foldl (fun st p=>if st.2=true then Cn st.1 p.1 p.2 else st) st).2=false
 | [],_,h=>h
 | p :: ps,st,h=>by
  rw [List.foldl_cons,if_neg (by simp [h])];exact OQ ps st h
theorem Wn (h:(Cy (ps.take k)).2=false):(Cy ps).2=false:=by
 unfold Cy at h ⊢;rw [<- List.take_append_drop k ps,List.foldl_append];exact OQ _ _ h
theorem Tv:∀ (p:List UInt8) (ws:List ByteArray) (st:DF×Bool),p.length=ws.length->(∀ x∈ws,x.size<=1048576)->F8 st.1->st.2=true ->
  ((p.zip ws).foldl (fun st p=>if st.2=true then Cn st.1 p.1 p.2 else st) st).2=true ->
  F8 ((p.zip ws).foldl (fun st p=>if st.2=true then Cn st.1 p.1 p.2 else st) st).1 /\
  ((p.zip ws).foldl (fun st p=>if st.2=true then Cn st.1 p.1 p.2 else st) st).1.trays.length=st.1.trays.length+p.count 116 /\
  ((p.zip ws).foldl (fun st p=>if st.2=true then Cn st.1 p.1 p.2 else st) st).1.nums.length=st.1.nums.length+p.count 110 /\
  ((p.zip ws).foldl (fun st p=>if st.2=true then Cn st.1 p.1 p.2 else st) st).1.fields.length=st.1.fields.length+p.count 102 /\
  ((p.zip ws).foldl (fun st p=>if st.2=true then Cn st.1 p.1 p.2 else st) st).1.texts.length=st.1.texts.length+(p.length - p.count 116 - p.count 110 - p.count 102)
 | [],[],st,_,_,h,_,_=>by simpa using h
 | [],_ :: _,_,h,_,_,_,_=>by simp at h
 | _ :: _,[],_,h,_,_,_,_=>by simp at h
 | c :: p,w :: ws,st,hl,hw,h,hs,h0=>by
  simp only [List.zip_cons_cons,List.foldl_cons] at h0 ⊢;rw [if_pos hs] at h0 ⊢;have hq:(Cn st.1 c w).2=true:=by
   cases g:(Cn st.1 c w).2
   .rw [OQ _ _ g] at h0;cases h0
   .rfl
  have b:=Tv p ws (Cn st.1 c w) (by simpa using hl) (fun x i=>hw x (List.mem_cons_of_mem _ i)) (aJ6 h c (hw w sI)) hq h0;obtain ⟨j,k,l,m⟩:=aF4 st.1 c w;refine ⟨b.1,?_,?_,?_,?_⟩
  .rw [b.2.1,j,List.count_cons];by_cases a:c=116<;>simp [a]<;>omega
  .rw [b.2.2.1,k,List.count_cons];by_cases a:c=110<;>simp [a]<;>omega
  .rw [b.2.2.2.1,l,List.count_cons];by_cases a:c=102<;>simp [a]<;>omega
  .rw [b.2.2.2.2,m,List.count_cons,List.count_cons,List.count_cons,List.length_cons];have n:p.count 116+p.count 110+p.count 102<=p.length:=by
    clear b h0 hw hl;induction p with
    | nil=>simp
    | cons f p b =>
     simp only [List.count_cons,List.length_cons];by_cases a:f=116
     .subst a;simp<;>omega
     by_cases d:f=110
     .subst d;simp<;>omega
     by_cases e:f=102
     .subst e;simp<;>omega
     simp [a,d,e]<;>omega
   by_cases a:c=116
   .subst a;simp<;>omega
   by_cases d:c=110
   .subst d;simp<;>omega
   by_cases e:c=102
   .subst e;simp<;>omega
   simp [a,d,e]<;>omega
theorem YO (hl:p.length=ws.length) (hw:∀ x∈ws,x.size<=1048576) (h:(Bi p ws).2=0):F8 (Bi p ws).1/\VF (Bi p ws).1 p/\∀ t∈(Bi p ws).1.trays,0<=t/\t<=5:=by
 unfold Bi at h ⊢;split at h
 .cases h
 rename_i a;split at h
 .cases h
 rename_i b;rw [if_neg a,if_neg b];have a:(Cy (p.zip ws)).2=true:=by simpa using a
 have:=Tv p ws (D3,true) hl hw ⟨by simp [D3],by simp [D3],by simp [D3],by simp [D3]⟩ rfl a;obtain ⟨d,e,f,g,i⟩:=this;refine ⟨d,⟨?_,?_,?_,?_⟩,fun t c=>?_⟩
 .simpa [D3,Cy] using e
 .simpa [D3,Cy] using f
 .simpa [D3,Cy] using g
 .simpa [D3,Cy] using i
 .have:=Nt b t c;exact Bx this
theorem Ts (A:DF) (w:ByteArray):Cn A 116 w=({ A with trays:=A.trays++[Ao w] },Ei w):=rfl
theorem Tt (A:DF) (w:ByteArray):Cn A 110 w=({ A with nums:=A.nums++[Ao w] },Ei w):=rfl
theorem Tu (A:DF) (w:ByteArray):Cn A 102 w=({ A with fields:=A.fields++[(B4 w).1] },(B4 w).2):=rfl
theorem Tr (h1:¬ c=116) (h2:¬ c=110) (h3:¬ c=102):Cn A c w=({ A with texts:=A.texts++[w] },true):=by
 unfold Cn;rw [if_neg h1,if_neg h2,if_neg h3]
theorem ZN (h1:p[k]? = some c) (h2:ws[k]? = some w):(p.zip ws)[k]? = some (c,w):=by
 rw [List.getElem?_zip_eq_some];exact ⟨h1,h2⟩
end Go.M
namespace Go.Proofs.YtalgenmoljcnmaaGreatDoor
open Go Go.RowKit Go.Vc Go.M
theorem Qx {s:ByteArray} (hs:s.size<=1048576) {w:World} (hT:GR w) (hE:Eg w) (hM:EE w) :
  Dq 70 [.string s] w (fun v w'=>v = .tuple #[.agg ⟨(B4 s).1.enc⟩,.bool (B4 s).2]/\AD w w'):=by
 obtain ⟨ah,ai⟩:=ZA (c:=45) s;have ad:∀ m,EE m->Dq 24 [.string s,.string ⟨#[45]⟩] m (fun v w'=>v = .tuple #[.string (bs (Lib.cut s.data.toList [45]).1),.string (bs (Lib.cut s.data.toList [45]).2.1),.bool (Lib.cut s.data.toList [45]).2.2]/\AD m w'):=fun m ae=>aD4 om ae;unfold B4;generalize bs (Lib.cut s.data.toList [45]).1=j at *;generalize bs (Lib.cut s.data.toList [45]).2.1=k at *;generalize (Lib.cut s.data.toList [45]).2.2=ag at *;refine oV Tryz.func70 ?_;refine jN (z := .agg #[.int .i64 0,.int .i64 0]) fun af ap h aj d g=>(ad _ (hM.ext d)).mono ?_;rintro _ aq ⟨rfl,a⟩;refine dM (BD om (hT.ext (xt d a)) (hE.ext (xt d a))) fun ar b=>dM (BD om (hT.ext (xt (xt d a) b)) (hE.ext (xt (xt d a) b))) fun au e=>AB.build QC rfl<|BU (fun f=>?_) fun f=>?_
 .refine BU (fun i=>?_) fun i=>?_
  .refine BU (fun l=>?_) fun l=>?_
   .refine AF (fun o=>?_) fun o=>?_
    .refine AX (vs:=[Value.int IntKind.i64 (Ao j),Value.int IntKind.i64 (Ao k)]) kR (g.ext (xt (xt a b) e)) rfl rfl cE fun ak x p=>AO (jR (n:=2) rfl p.cells) ⟨?_,(xb (xt (xt (xt d a) b) e) x.but h)⟩
     .simp [AE.enc,f,i,l,o]
    .refine AX (vs:=[Value.int IntKind.i64 (Ao j),Value.int IntKind.i64 (Ao k)]) kR (g.ext (xt (xt a b) e)) rfl rfl cE fun al y q=>AO (jR (n:=2) rfl q.cells) ⟨?_,(xb (xt (xt (xt d a) b) e) y.but h)⟩
     .simp [AE.enc,f,i,l,o]
   .refine AX (vs:=[Value.int IntKind.i64 (Ao j),Value.int IntKind.i64 (Ao k)]) kR (g.ext (xt (xt a b) e)) rfl rfl cE fun am aa r=>AO (jR (n:=2) rfl r.cells) ⟨?_,(xb (xt (xt (xt d a) b) e) aa.but h)⟩
    .simp [AE.enc,f,i,l]
  .refine AX (vs:=[Value.int IntKind.i64 (Ao j),Value.int IntKind.i64 (Ao k)]) kR (g.ext (xt (xt a b) e)) rfl rfl cE fun an ab t=>AO (jR (n:=2) rfl t.cells) ⟨?_,(xb (xt (xt (xt d a) b) e) ab.but h)⟩
   .simp [AE.enc,f,i]
 .refine AX (vs:=[Value.int IntKind.i64 (Ao j),Value.int IntKind.i64 (Ao k)]) kR (g.ext (xt (xt a b) e)) rfl rfl cE fun ao ac u=>AO (jR (n:=2) rfl u.cells) ⟨?_,(xb (xt (xt (xt d a) b) e) ac.but h)⟩
  .simp [AE.enc,f]
theorem H4 (t:ByteArray) (w:World):Dq 33 [.string t] w (fun v w'=>v = .string (bs (Bd t))/\AD w w'):=by
 refine oV Tryz.func33<|AF (fun b=>?_) (fun b=>?_)
 .have a:Bd t=[116,120]:=by unfold Bd;simp only [eq_true (show t=CU from b),if_true,if_false,true_or,or_true,false_or,or_false]
  rw [a];exact ⟨rfl,AD.refl _⟩
 refine AF (fun c=>?_) (fun c=>?_)
 .have a:Bd t=[116]:=by unfold Bd;simp only [eq_false (show ¬ t=CU from b),eq_true (show t=CL from c),if_true,if_false,true_or,or_true,false_or,or_false]
  rw [a];exact iY ⟨rfl,AD.refl _⟩
 refine AF (fun d=>?_) (fun d=>?_)
 .have a:Bd t=[116]:=by unfold Bd;simp only [eq_false (show ¬ t=CU from b),eq_false (show ¬ t=CL from c),eq_true (show t=Cd from d),if_true,if_false,true_or,or_true,false_or,or_false]
  rw [a];exact ⟨rfl,AD.refl _⟩
 refine AF (fun e=>?_) (fun e=>?_)
 .have a:Bd t=[116,102,116]:=by unfold Bd;simp only [eq_false (show ¬ t=CU from b),eq_false (show ¬ t=CL from c),eq_false (show ¬ t=Cd from d),eq_true (show t=Dr from e),if_true,if_false,true_or,or_true,false_or,or_false]
  rw [a];exact iY ⟨rfl,AD.refl _⟩
 refine AF (fun f=>?_) (fun f=>?_)
 .have a:Bd t=[116,102,116]:=by unfold Bd;simp only [eq_false (show ¬ t=CU from b),eq_false (show ¬ t=CL from c),eq_false (show ¬ t=Cd from d),eq_false (show ¬ t=Dr from e),eq_true (show t=C5 from f),if_true,if_false,true_or,or_true,false_or,or_false]
  rw [a];exact ⟨rfl,AD.refl _⟩
 refine AF (fun g=>?_) (fun g=>?_)
 .have a:Bd t=[116,116,102,116]:=by unfold Bd;simp only [eq_false (show ¬ t=CU from b),eq_false (show ¬ t=CL from c),eq_false (show ¬ t=Cd from d),eq_false (show ¬ t=Dr from e),eq_false (show ¬ t=C5 from f),eq_true (show t=DJ from g),if_true,if_false,true_or,or_true,false_or,or_false]
  rw [a];exact iY ⟨rfl,AD.refl _⟩
 refine AF (fun h=>?_) (fun h=>?_)
 .have a:Bd t=[116,116,102,116]:=by unfold Bd;simp only [eq_false (show ¬ t=CU from b),eq_false (show ¬ t=CL from c),eq_false (show ¬ t=Cd from d),eq_false (show ¬ t=Dr from e),eq_false (show ¬ t=C5 from f),eq_false (show ¬ t=DJ from g),eq_true (show t=DV from h),if_true,if_false,true_or,or_true,false_or,or_false]
  rw [a];exact iY ⟨rfl,AD.refl _⟩
 refine AF (fun i=>?_) (fun i=>?_)
 .have a:Bd t=[116,116,102,116]:=by unfold Bd;simp only [eq_false (show ¬ t=CU from b),eq_false (show ¬ t=CL from c),eq_false (show ¬ t=Cd from d),eq_false (show ¬ t=Dr from e),eq_false (show ¬ t=C5 from f),eq_false (show ¬ t=DJ from g),eq_false (show ¬ t=DV from h),eq_true (show t=EY from i),if_true,if_false,true_or,or_true,false_or,or_false]
  rw [a];exact ⟨rfl,AD.refl _⟩
 refine AF (fun j=>?_) (fun j=>?_)
 .have a:Bd t=[116,102,120,116]:=by unfold Bd;simp only [eq_false (show ¬ t=CU from b),eq_false (show ¬ t=CL from c),eq_false (show ¬ t=Cd from d),eq_false (show ¬ t=Dr from e),eq_false (show ¬ t=C5 from f),eq_false (show ¬ t=DJ from g),eq_false (show ¬ t=DV from h),eq_false (show ¬ t=EY from i),eq_true (show t=B1 from j),if_true,if_false,true_or,or_true,false_or,or_false]
  rw [a];exact ⟨rfl,AD.refl _⟩
 refine AF (fun k=>?_) (fun k=>?_)
 .have a:Bd t=[116,102,102]:=by unfold Bd;simp only [eq_false (show ¬ t=CU from b),eq_false (show ¬ t=CL from c),eq_false (show ¬ t=Cd from d),eq_false (show ¬ t=Dr from e),eq_false (show ¬ t=C5 from f),eq_false (show ¬ t=DJ from g),eq_false (show ¬ t=DV from h),eq_false (show ¬ t=EY from i),eq_false (show ¬ t=B1 from j),eq_true (show t=BM from k),if_true,if_false,true_or,or_true,false_or,or_false]
  rw [a];exact ⟨rfl,AD.refl _⟩
 refine AF (fun l=>?_) (fun l=>?_)
 .have a:Bd t=[116,102]:=by unfold Bd;simp only [eq_false (show ¬ t=CU from b),eq_false (show ¬ t=CL from c),eq_false (show ¬ t=Cd from d),eq_false (show ¬ t=Dr from e),eq_false (show ¬ t=C5 from f),eq_false (show ¬ t=DJ from g),eq_false (show ¬ t=DV from h),eq_false (show ¬ t=EY from i),eq_false (show ¬ t=B1 from j),eq_false (show ¬ t=BM from k),eq_true (show t=Cp from l),if_true,if_false,true_or,or_true,false_or,or_false]
  rw [a];exact ⟨rfl,AD.refl _⟩
 refine AF (fun m=>?_) (fun m=>?_)
 .have a:Bd t=[116,102,102]:=by unfold Bd;simp only [eq_false (show ¬ t=CU from b),eq_false (show ¬ t=CL from c),eq_false (show ¬ t=Cd from d),eq_false (show ¬ t=Dr from e),eq_false (show ¬ t=C5 from f),eq_false (show ¬ t=DJ from g),eq_false (show ¬ t=DV from h),eq_false (show ¬ t=EY from i),eq_false (show ¬ t=B1 from j),eq_false (show ¬ t=BM from k),eq_false (show ¬ t=Cp from l),eq_true (show t=GS from m),if_true,if_false,true_or,or_true,false_or,or_false]
  rw [a];exact ⟨rfl,AD.refl _⟩
 refine AF (fun n=>?_) (fun n=>?_)
 .have a:Bd t=[116,110,120]:=by unfold Bd;simp only [eq_false (show ¬ t=CU from b),eq_false (show ¬ t=CL from c),eq_false (show ¬ t=Cd from d),eq_false (show ¬ t=Dr from e),eq_false (show ¬ t=C5 from f),eq_false (show ¬ t=DJ from g),eq_false (show ¬ t=DV from h),eq_false (show ¬ t=EY from i),eq_false (show ¬ t=B1 from j),eq_false (show ¬ t=BM from k),eq_false (show ¬ t=Cp from l),eq_false (show ¬ t=GS from m),eq_true (show t=D2 from n),if_true,if_false,true_or,or_true,false_or,or_false]
  rw [a];exact ⟨rfl,AD.refl _⟩
 (conv=>whnf);have a:Bd t=[]:=by unfold Bd;simp only [eq_false (show ¬ t=CU from b),eq_false (show ¬ t=CL from c),eq_false (show ¬ t=Cd from d),eq_false (show ¬ t=Dr from e),eq_false (show ¬ t=C5 from f),eq_false (show ¬ t=DJ from g),eq_false (show ¬ t=DV from h),eq_false (show ¬ t=EY from i),eq_false (show ¬ t=B1 from j),eq_false (show ¬ t=BM from k),eq_false (show ¬ t=Cp from l),eq_false (show ¬ t=GS from m),eq_false (show ¬ t=D2 from n),if_false,false_or,or_false]
 rw [a];exact ⟨rfl,AD.refl _⟩
theorem Us (a:Option Addr) (n c:Nat) (w:World):Dq 151 [.slice a n c] w (fun v w'=>v = .int .i64 n/\w=w'):=by
 refine oV Tryz.func151 ?_;exact ⟨rfl,rfl⟩
theorem Kp {w:World} {a:Option Addr} {n c B:Nat} {ls:List ByteArray} (h:An eS 1 B 9 w a n c ls) (hB:B<=w.heap.size) (hn:n<=1000000) (hT:GR w) :
  Dq 82 [.slice a n c] w (fun v w'=>∃ a' c',v = .slice a' (n+1) c'/\An eS 1 B 9 w' a' (n+1) c' (CM ls)/\(∀ q,AL a' q->AL a q\/w.heap.size<=q)/\BP (AL a) w w'):=by
 have k:=h.own.arr AP;have l:=k.len;have j:BH (n:Int):=by unfold BH;omega
 have u:=Bh (n:=(n:Int)) om om;refine oV Tryz.func82 ?_;refine (Us _ _ _ _).mono ?_;rintro _ _ ⟨rfl,rfl⟩;refine dM (Cm j hT) fun y b=>?_;refine Ax sO ?_;refine bS BK (vs:=[Value.string ({ data := #[111,107,32] }++BV ↑n)]) ?_;intro s z i x d e;have f:=AH (n:=1) (enc:=eS) (xs:=[{ data := #[111,107,32] }++BV ↑n]) AP e i rfl dE;have ac:=b.size;have ad:=d.size;refine AN (enc:=eS) BK AP (h.ext (xt b d)) (f.own.arr AP) (by intro ab _;simp [eS,AM]) om om om ?_;intro r t aa g p o;exact ⟨_,_,rfl,by unfold CM;rw [l];exact g,fun q m=>(o q m).imp id (fun h=>by omega),(AD.mod (xt b d)).trans p⟩
theorem Qy (x:Int) (w:World):Dq 72 [.int .i64 x] w (fun v w'=>v = .bool (!Ey x 0 5)/\AD w w'):=by
 refine oV Tryz.func72 ?_;refine (FL _ _).mono ?_;rintro _ _ ⟨rfl,rfl⟩;exact ⟨rfl,AD.refl _⟩
structure Gh (w:World) (B b:Nat) (A:DF) (a1 a2 a3 a4:Option Addr) (c1 c2 c3 c4:Nat):Prop where
 blk:B8 w b [.slice a1 A.trays.length c1,.slice a2 A.nums.length c2,.slice a3 A.fields.length c3,.slice a4 A.texts.length c4] 68
 g1:An eI 1 B 2 w a1 A.trays.length c1 A.trays
 g2:An eI 1 B 2 w a2 A.nums.length c2 A.nums
 g3:An AE.enc 2 B 90 w a3 A.fields.length c3 A.fields
 g4:An eS 1 B 9 w a4 A.texts.length c4 A.texts
 nb:∀ k,AL a1 k\/AL a2 k\/AL a3 k\/AL a4 k->k≠b
 d:∀ k,¬ (AL a1 k/\AL a2 k)/\¬ (AL a1 k/\AL a3 k)/\¬ (AL a1 k/\AL a4 k)/\¬ (AL a2 k/\AL a3 k)/\¬ (AL a2 k/\AL a4 k)/\¬ (AL a3 k/\AL a4 k)
section
variable {w w' w0 w1 w2:World} {B b:Nat} {A:DF} {a1 a2 a3 a4:Option Addr} {c1 c2 c3 c4:Nat}
theorem Gh.ext (h:Gh w B b A a1 a2 a3 a4 c1 c2 c3 c4) (e:AD w w'):Gh w' B b A a1 a2 a3 a4 c1 c2 c3 c4 :=
 ⟨h.blk.ext e,h.g1.ext e,h.g2.ext e,h.g3.ext e,h.g4.ext e,h.nb,h.d⟩
theorem Gh.lt (h:Gh w B b A a1 a2 a3 a4 c1 c2 c3 c4):b<w.heap.size/\∀ k,AL a1 k\/AL a2 k\/AL a3 k\/AL a4 k->k<w.heap.size:=by
 refine ⟨h.blk.lt,fun k d=>?_⟩;rcases d with ⟨c,a,rfl⟩ | ⟨c,a,rfl⟩ | ⟨c,a,rfl⟩ | ⟨c,a,rfl⟩
 .exact (h.g1.blk_lt c a).2
 .exact (h.g2.blk_lt c a).2
 .exact (h.g3.blk_lt c a).2
 .exact (h.g4.blk_lt c a).2
theorem Gh.push1 (h:Gh w0 B b A a1 a2 a3 a4 c1 c2 c3 c4) {x:Int} {a:Option Addr} {c:Nat} (g:An eI 1 B 2 w1 a (A.trays.length+1) c (A.trays++[x])) (M:BP (AL a1) w0 w1) (hi:∀ k,AL a k->AL a1 k\/k=w0.heap.size)
  (m:Oa b w1 w2) (B2:B8 w2 b [.slice a (A.trays.length+1) c,.slice a2 A.nums.length c2,.slice a3 A.fields.length c3,.slice a4 A.texts.length c4] 68):Gh w2 B b { A with trays:=A.trays++[x] } a a2 a3 a4 c c2 c3 c4:=by
 have r:=h.lt;have q:=h.d;have o:=h.nb;refine ⟨by simpa using B2,?_,?_,?_,?_,fun k l=>?_,fun k=>?_⟩
 .simpa using g.mod m.but fun e f j=>by
   have:=hi e.block ⟨e,f,rfl⟩;have j:e.block=b:=j;rcases this with i | i
   .exact o _ (.inl i) j
   .omega
 .exact (h.g2.mod M fun e f i=>(q e.block).1 ⟨i,⟨e,f,rfl⟩⟩).mod m.but fun e f j=>o e.block (.inr (.inl ⟨e,f,rfl⟩)) j
 .exact (h.g3.mod M fun e f i=>(q e.block).2.1 ⟨i,⟨e,f,rfl⟩⟩).mod m.but fun e f j=>o e.block (.inr (.inr (.inl ⟨e,f,rfl⟩))) j
 .exact (h.g4.mod M fun e f i=>(q e.block).2.2.1 ⟨i,⟨e,f,rfl⟩⟩).mod m.but fun e f j=>o e.block (.inr (.inr (.inr ⟨e,f,rfl⟩))) j
 .rcases l with i | i
  .rcases hi k i with n | n
   .exact o k (.inl n)
   .omega
  .exact o k (.inr i)
 .have l:=q k;have t:=fun h=>r.2 k (.inr (.inl h));have u:=fun h=>r.2 k (.inr (.inr (.inl h)));have v:=fun h=>r.2 k (.inr (.inr (.inr h)));have s:=hi k;refine ⟨?_,?_,?_,l.2.2.2.1,l.2.2.2.2.1,l.2.2.2.2.2⟩<;>rintro ⟨w,p⟩<;>rcases s w with n | n
  .exact l.1 ⟨n,p⟩
  .have:=t p;omega
  .exact l.2.1 ⟨n,p⟩
  .have:=u p;omega
  .exact l.2.2.1 ⟨n,p⟩
  .have:=v p;omega
theorem Gh.push2 (h:Gh w0 B b A a1 a2 a3 a4 c1 c2 c3 c4) {x:Int} {a:Option Addr} {c:Nat} (g:An eI 1 B 2 w1 a (A.nums.length+1) c (A.nums++[x])) (M:BP (AL a2) w0 w1) (hi:∀ k,AL a k->AL a2 k\/k=w0.heap.size)
  (m:Oa b w1 w2) (B2:B8 w2 b [.slice a1 A.trays.length c1,.slice a (A.nums.length+1) c,.slice a3 A.fields.length c3,.slice a4 A.texts.length c4] 68):Gh w2 B b { A with nums:=A.nums++[x] } a1 a a3 a4 c1 c c3 c4:=by
 have t:=h.lt;have r:=h.d;have p:=h.nb;refine ⟨by simpa using B2,?_,?_,?_,?_,fun k n=>?_,fun k=>?_⟩
 .exact (h.g1.mod M fun e i f=>(r e.block).1 ⟨⟨e,i,rfl⟩,f⟩).mod m.but fun e i l=>p e.block (.inl ⟨e,i,rfl⟩) l
 .simpa using g.mod m.but fun e i l=>by
   have:=hi e.block ⟨e,i,rfl⟩;have l:e.block=b:=l;rcases this with f | f
   .exact p _ (.inr (.inl f)) l
   .omega
 .exact (h.g3.mod M fun e i f=>(r e.block).2.2.2.1 ⟨f,⟨e,i,rfl⟩⟩).mod m.but fun e i l=>p e.block (.inr (.inr (.inl ⟨e,i,rfl⟩))) l
 .exact (h.g4.mod M fun e i f=>(r e.block).2.2.2.2.1 ⟨f,⟨e,i,rfl⟩⟩).mod m.but fun e i l=>p e.block (.inr (.inr (.inr ⟨e,i,rfl⟩))) l
 .rcases n with f | f | f
  .exact p k (.inl f)
  .rcases hi k f with j | j
   .exact p k (.inr (.inl j))
   .omega
  .exact p k (.inr (.inr f))
 .have n:=r k;have u:=fun h=>t.2 k (.inl h);have v:=fun h=>t.2 k (.inr (.inr (.inl h)));have w:=fun h=>t.2 k (.inr (.inr (.inr h)));have s:=hi k;refine ⟨?_,n.2.1,n.2.2.1,?_,?_,n.2.2.2.2.2⟩
  .rintro ⟨o,q⟩;rcases s q with j | j
   .exact n.1 ⟨o,j⟩
   .have:=u o;omega
  .rintro ⟨q,o⟩;rcases s q with j | j
   .exact n.2.2.2.1 ⟨j,o⟩
   .have:=v o;omega
  .rintro ⟨q,o⟩;rcases s q with j | j
   .exact n.2.2.2.2.1 ⟨j,o⟩
   .have:=w o;omega
theorem Gh.push3 (h:Gh w0 B b A a1 a2 a3 a4 c1 c2 c3 c4) {x:AE} {a:Option Addr} {c:Nat} (g:An AE.enc 2 B 90 w1 a (A.fields.length+1) c (A.fields++[x])) (M:BP (AL a3) w0 w1) (hi:∀ k,AL a k->AL a3 k\/k=w0.heap.size)
  (m:Oa b w1 w2) (B2:B8 w2 b [.slice a1 A.trays.length c1,.slice a2 A.nums.length c2,.slice a (A.fields.length+1) c,.slice a4 A.texts.length c4] 68):Gh w2 B b { A with fields:=A.fields++[x] } a1 a2 a a4 c1 c2 c c4:=by
 have t:=h.lt;have r:=h.d;have o:=h.nb;refine ⟨by simpa using B2,?_,?_,?_,?_,fun k n=>?_,fun k=>?_⟩
 .exact (h.g1.mod M fun e i f=>(r e.block).2.1 ⟨⟨e,i,rfl⟩,f⟩).mod m.but fun e i l=>o e.block (.inl ⟨e,i,rfl⟩) l
 .exact (h.g2.mod M fun e i f=>(r e.block).2.2.2.1 ⟨⟨e,i,rfl⟩,f⟩).mod m.but fun e i l=>o e.block (.inr (.inl ⟨e,i,rfl⟩)) l
 .simpa using g.mod m.but fun e i l=>by
   have:=hi e.block ⟨e,i,rfl⟩;have l:e.block=b:=l;rcases this with f | f
   .exact o _ (.inr (.inr (.inl f))) l
   .omega
 .exact (h.g4.mod M fun e i f=>(r e.block).2.2.2.2.2 ⟨f,⟨e,i,rfl⟩⟩).mod m.but fun e i l=>o e.block (.inr (.inr (.inr ⟨e,i,rfl⟩))) l
 .rcases n with f | f | f | f
  .exact o k (.inl f)
  .exact o k (.inr (.inl f))
  .rcases hi k f with j | j
   .exact o k (.inr (.inr (.inl j)))
   .omega
  .exact o k (.inr (.inr (.inr f)))
 .have n:=r k;have u:=fun h=>t.2 k (.inl h);have v:=fun h=>t.2 k (.inr (.inl h));have w:=fun h=>t.2 k (.inr (.inr (.inr h)));have s:=hi k;refine ⟨n.1,?_,n.2.2.1,?_,n.2.2.2.2.1,?_⟩
  .rintro ⟨p,q⟩;rcases s q with j | j
   .exact n.2.1 ⟨p,j⟩
   .have:=u p;omega
  .rintro ⟨p,q⟩;rcases s q with j | j
   .exact n.2.2.2.1 ⟨p,j⟩
   .have:=v p;omega
  .rintro ⟨q,p⟩;rcases s q with j | j
   .exact n.2.2.2.2.2 ⟨j,p⟩
   .have:=w p;omega
theorem Gh.push4 (h:Gh w0 B b A a1 a2 a3 a4 c1 c2 c3 c4) {x:ByteArray} {a:Option Addr} {c:Nat} (g:An eS 1 B 9 w1 a (A.texts.length+1) c (A.texts++[x])) (M:BP (AL a4) w0 w1) (hi:∀ k,AL a k->AL a4 k\/k=w0.heap.size)
  (m:Oa b w1 w2) (B2:B8 w2 b [.slice a1 A.trays.length c1,.slice a2 A.nums.length c2,.slice a3 A.fields.length c3,.slice a (A.texts.length+1) c] 68):Gh w2 B b { A with texts:=A.texts++[x] } a1 a2 a3 a c1 c2 c3 c:=by
 have t:=h.lt;have r:=h.d;have o:=h.nb;refine ⟨by simpa using B2,?_,?_,?_,?_,fun k n=>?_,fun k=>?_⟩
 .exact (h.g1.mod M fun e i f=>(r e.block).2.2.1 ⟨⟨e,i,rfl⟩,f⟩).mod m.but fun e i l=>o e.block (.inl ⟨e,i,rfl⟩) l
 .exact (h.g2.mod M fun e i f=>(r e.block).2.2.2.2.1 ⟨⟨e,i,rfl⟩,f⟩).mod m.but fun e i l=>o e.block (.inr (.inl ⟨e,i,rfl⟩)) l
 .exact (h.g3.mod M fun e i f=>(r e.block).2.2.2.2.2 ⟨⟨e,i,rfl⟩,f⟩).mod m.but fun e i l=>o e.block (.inr (.inr (.inl ⟨e,i,rfl⟩))) l
 .simpa using g.mod m.but fun e i l=>by
   have:=hi e.block ⟨e,i,rfl⟩;have l:e.block=b:=l;rcases this with f | f
   .exact o _ (.inr (.inr (.inr f))) l
   .omega
 .rcases n with f | f | f | f
  .exact o k (.inl f)
  .exact o k (.inr (.inl f))
  .exact o k (.inr (.inr (.inl f)))
  .rcases hi k f with j | j
   .exact o k (.inr (.inr (.inr j)))
   .omega
 .have n:=r k;have u:=fun h=>t.2 k (.inl h);have v:=fun h=>t.2 k (.inr (.inl h));have w:=fun h=>t.2 k (.inr (.inr (.inl h)));have s:=hi k;refine ⟨n.1,n.2.1,?_,n.2.2.2.1,?_,?_⟩
  .rintro ⟨p,q⟩;rcases s q with j | j
   .exact n.2.2.1 ⟨p,j⟩
   .have:=u p;omega
  .rintro ⟨p,q⟩;rcases s q with j | j
   .exact n.2.2.2.2.1 ⟨p,j⟩
   .have:=v p;omega
  .rintro ⟨p,q⟩;rcases s q with j | j
   .exact n.2.2.2.2.2 ⟨p,j⟩
   .have:=w p;omega
end
theorem SV {w:World} {a:Option Addr} {n c:Nat} {ws:List ByteArray} (h:A4 eS 1 w a n ws) {p:List UInt8} (hp:p.length=n) (hs:∀ x∈ws,x.size<=1048576) (hn4:n<=4) (hT:GR w) (hE:Eg w) (hM:EE w) :
  Dq 34 [.string (bs p),.slice a n c] w (fun v w'=>∃ a1 n1 c1 a2 n2 c2 a3 n3 c3 a4 n4 c4,v = .tuple #[.agg #[.slice a1 n1 c1,.slice a2 n2 c2,.slice a3 n3 c3,.slice a4 n4 c4],.int .i64 (Bi p ws).2] /\
   ((Bi p ws).2=0->A4 eI 1 w' a1 n1 (Bi p ws).1.trays/\A4 eI 1 w' a2 n2 (Bi p ws).1.nums/\A4 AE.enc 2 w' a3 n3 (Bi p ws).1.fields/\A4 eS 1 w' a4 n4 (Bi p ws).1.texts/\Ab w.heap.size a1/\Ab w.heap.size a2/\Ab w.heap.size a3/\Ab w.heap.size a4)/\AD w w'):=by
 have cq:=h.len;refine oV Tryz.func34 ?_;refine jN (z := .agg #[.slice none 0 0,.slice none 0 0,.slice none 0 0,.slice none 0 0]) ?_;intro ag cy cm cu bx b3;refine AB.build VU rfl<|jN (z := .agg #[.slice none 0 0,.slice none 0 0,.slice none 0 0,.slice none 0 0]) fun ai a9 cn cv bc b5=>jS (vs:=[Value.slice none 0 0,Value.slice none 0 0,Value.slice none 0 0,Value.slice none 0 0]) b5 rfl rfl cE ?_;intro bq bb b6;have cz:=bx.size;have c0:=bc.size;have c5:=bb.but.size;have cs:(p.zip ws).length=n:=by rw [List.length_zip];omega
 have b':Gh bq a9.heap.size ai D3 none none none none 0 0 0 0:=⟨b6,An.nil,An.nil,An.nil,An.nil,(by
  rintro b (⟨x,y,_⟩ | ⟨x,y,_⟩ | ⟨x,y,_⟩ | ⟨x,y,_⟩)<;>cases y),(fun b=>by
  refine ⟨?_,?_,?_,?_,?_,?_⟩<;>(rintro ⟨⟨x,y,_⟩,_⟩;cases y))⟩
 have b4:B8 bq ag [.slice none 0 0,.slice none 0 0,.slice none 0 0,.slice none 0 0] 68:=(b3.ext bc).mod bb.but (fun d=>by have d:ag=ai:=d;omega);have b7:AD w bq:=xb (xt bx bc) bb.but om;refine lR [0,4,6,15,16,17] (fun (b:Nat) ch w'=>∃ a1 a2 a3 a4 c1 c2 c3 c4,ch=[.string (bs p),.pointer (some ⟨ag,0,none⟩),.pointer (some ⟨ai,0,none⟩),.slice a n c,.int .i64 n,.int .i64 b]/\b<=n/\(Cy ((p.zip ws).take b)).2=true/\Gh w' a9.heap.size ai (Cy ((p.zip ws).take b)).1 a1 a2 a3 a4 c1 c2 c3 c4/\B8 w' ag [.slice none 0 0,.slice none 0 0,.slice none 0 0,.slice none 0 0] 68/\AD w w'/\a9.heap.size<=w'.heap.size/\(Cy ((p.zip ws).take b)).1.trays.length<=b/\(Cy ((p.zip ws).take b)).1.nums.length<=b/\(Cy ((p.zip ws).take b)).1.fields.length<=b/\(Cy ((p.zip ws).take b)).1.texts.length<=b) (fun b=>n - b) 0 ⟨none,none,none,none,0,0,0,0,rfl,om,rfl,b',b4,b7,om,Nat.le_refl _,Nat.le_refl _,Nat.le_refl _,Nat.le_refl _⟩ ?_;rintro b cl _ br ⟨a1,a2,a3,a4,c1,c2,c3,c4,rfl,co,a8,f,ax,t,cr,n1,n2,n3,n4⟩;rcases Nat.lt_or_ge b n with ca | ca
 .obtain ⟨af,bz⟩:=AA (l:=p) (k:=b) om;obtain ⟨x,y⟩:=AA (l:=ws) (k:=b) om;have ab:=MQ (ZN bz y);rw [if_pos a8] at ab;have bh:(Cy ((p.zip ws).take (b+1))).2=false->Bi p ws=(D3,7):=fun h=>by unfold Bi;rw [if_pos (Wn h)]
  have cb:=hs x (List.mem_of_getElem? y);generalize (Cy ((p.zip ws).take b)).1=aw at *;have ay:(bs p).data.toList[b]? = some af:=bz;have cp:=f.lt;by_cases bl:af=116
  .subst bl;rw [Ts] at ab;refine iY<|jI (h.ext t) b rfl y fun ba bk be aq=>jO aq rfl<|jC (s:=bs p) b rfl ay<|dM (BD om (hT.ext t) (hE.ext t)) fun a6 i=>jC (s:=bs p) b rfl ay<|jL (f.ext i).blk.cells (k:=0) rfl<|AB.buildSlice B3 (vs:=[Value.int .i64 (Ao x)]) rF rF (by simp [Value.cells,AE.enc]) dE ?_;intro a' bo bd bj r aj;have e:=f.ext (xt i r);have bt:=i.size;have bu:=r.size;refine Ba (enc:=eI) B3 AI e.g1 (ys:=[Ao x]) (m:=1) aj.cells rfl (by simp [Al,eI,eS,AE.enc,AM]) om om om ?_;intro am an bp al j ar;have ap:=e.blk.mod j (fun d=>e.nb _ (.inl d) rfl);refine jT ap (k:=0) sI rfl ?_;intro av q ak;have ao:=e.push1 al j ar q ak;have bv:=j.size;have bw:=q.but.size;have ad:=((ax.ext (xt i r)).mod j (fun d=>by
    obtain ⟨o,u,bg⟩:=d;have:=e.g1.new o u;omega)).mod q.but (fun d=>by have d:ag=ai:=d;omega)
   have ae:AD w av:=xb (xm (xt t (xt i r)) j (fun au d=>by
    have:=AQ e.g1.new au d;omega)) q.but om
   refine BA (fun ac=>?_) (fun ac=>?_)
   .rw [bh (by rw [ab];exact ac)];exact AB.build VU rfl<|jS (vs:=[.slice none 0 0,.slice none 0 0,.slice none 0 0,.slice none 0 0]) ad rfl rfl cE fun b1 a5 a0=>AO (jR (n:=4) rfl a0.cells) ⟨_,_,_,_,_,_,_,_,_,_,_,_,rfl,(fun h=>by cases h),xb ae a5.but om⟩
   .refine jP (((b+1:Nat):Int)) ⟨b+1,om,am,a2,a3,a4,an,c2,c3,c4,rfl,om,?_⟩;rw [ab];exact ⟨ac,ao,ad,ae,om,by simp only [List.length_append,List.length_singleton];omega,Nat.le_succ_of_le n2,Nat.le_succ_of_le n3,Nat.le_succ_of_le n4⟩
  .by_cases bm:af=110
   .subst bm;rw [Tt] at ab;refine iY<|jI (h.ext t) b rfl y fun ba bk be aq=>jO aq rfl<|jC (s:=bs p) b rfl ay<|dM (BD om (hT.ext t) (hE.ext t)) fun a6 i=>jC (s:=bs p) b rfl ay<|jL (f.ext i).blk.cells (k:=1) rfl<|AB.buildSlice B3 (vs:=[Value.int .i64 (Ao x)]) rF rF (by simp [Value.cells,AE.enc]) dE ?_;intro a' bo bd bj r aj;have e:=f.ext (xt i r);have bt:=i.size;have bu:=r.size;refine Ba (enc:=eI) B3 AI e.g2 (ys:=[Ao x]) (m:=1) aj.cells rfl (by simp [Al,eI,eS,AE.enc,AM]) om om om ?_;intro am an bp al j ar;have ap:=e.blk.mod j (fun d=>e.nb _ (.inr (.inl d)) rfl);refine jT ap (k:=1) sI rfl ?_;intro av q ak;have ao:=e.push2 al j ar q ak;have bv:=j.size;have bw:=q.but.size;have ad:=((ax.ext (xt i r)).mod j (fun d=>by
     obtain ⟨o,u,bg⟩:=d;have:=e.g2.new o u;omega)).mod q.but (fun d=>by have d:ag=ai:=d;omega)
    have ae:AD w av:=xb (xm (xt t (xt i r)) j (fun au d=>by
     have:=AQ e.g2.new au d;omega)) q.but om
    refine BA (fun ac=>?_) (fun ac=>?_)
    .rw [bh (by rw [ab];exact ac)];exact AB.build VU rfl<|jS (vs:=[.slice none 0 0,.slice none 0 0,.slice none 0 0,.slice none 0 0]) ad rfl rfl cE fun b1 a5 a0=>AO (jR (n:=4) rfl a0.cells) ⟨_,_,_,_,_,_,_,_,_,_,_,_,rfl,(fun h=>by cases h),xb ae a5.but om⟩
    .refine jP (((b+1:Nat):Int)) ⟨b+1,om,a1,am,a3,a4,c1,an,c3,c4,rfl,om,?_⟩;rw [ab];exact ⟨ac,ao,ad,ae,om,Nat.le_succ_of_le n1,by simp only [List.length_append,List.length_singleton];omega,Nat.le_succ_of_le n3,Nat.le_succ_of_le n4⟩
   .by_cases bn:af=102
    .subst bn;rw [Tu] at ab;refine iY<|jI (h.ext t) b rfl y fun ba bk be aq=>jO aq rfl<|jC (s:=bs p) b rfl ay<|dM (Qx cb (hT.ext t) (hE.ext t) (hM.ext t)) fun ci aa=>jN (z := .agg #[.int .i64 0,.int .i64 0]) fun cj cx b9 ct b8 b2=>AX (vs:=(B4 x).1.enc) kR b2 rfl rfl (by simp [AE.enc,AM]) ?_;intro a6 ah az;have i:AD br a6:=xb (xt aa b8) ah.but (Nat.le_trans aa.size b9);refine jL (f.ext i).blk.cells (k:=2) rfl<|jA (n:=2) az.cells rfl<|AB.buildSlice J1 (vs:=[.agg ⟨(B4 x).1.enc⟩]) rF rF (by simp [Value.cells,AE.enc]) dE ?_;intro a' bo bd bj r aj;have e:=f.ext (xt i r);have bt:=i.size;have bu:=r.size;refine Ba (enc:=AE.enc) J1 Br e.g3 (ys:=[(B4 x).1]) (m:=1) aj.cells rfl (by simp [Al,eI,eS,AE.enc,AM]) om om om ?_;intro am an bp al j ar;have ap:=e.blk.mod j (fun d=>e.nb _ (.inr (.inr (.inl d))) rfl);refine jT ap (k:=2) sI rfl ?_;intro av q ak;have ao:=e.push3 al j ar q ak;have bv:=j.size;have bw:=q.but.size;have ad:=((ax.ext (xt i r)).mod j (fun d=>by
      obtain ⟨o,u,bg⟩:=d;have:=e.g3.new o u;omega)).mod q.but (fun d=>by have d:ag=ai:=d;omega)
     have ae:AD w av:=xb (xm (xt t (xt i r)) j (fun au d=>by
      have:=AQ e.g3.new au d;omega)) q.but om
     refine BA (fun ac=>?_) (fun ac=>?_)
     .rw [bh (by rw [ab];exact ac)];exact AB.build VU rfl<|jS (vs:=[.slice none 0 0,.slice none 0 0,.slice none 0 0,.slice none 0 0]) ad rfl rfl cE fun b1 a5 a0=>AO (jR (n:=4) rfl a0.cells) ⟨_,_,_,_,_,_,_,_,_,_,_,_,rfl,(fun h=>by cases h),xb ae a5.but om⟩
     .refine jP (((b+1:Nat):Int)) ⟨b+1,om,a1,a2,am,a4,c1,c2,an,c4,rfl,om,?_⟩;rw [ab];exact ⟨ac,ao,ad,ae,om,Nat.le_succ_of_le n1,Nat.le_succ_of_le n2,by simp only [List.length_append,List.length_singleton];omega,Nat.le_succ_of_le n4⟩
    .rw [Tr bl bm bn] at ab;have cc:¬ ((af.toNat:Int)=116):=fun h=>bl (UInt8.toNat_inj.1 (by show af.toNat=116;omega));have cd:¬ ((af.toNat:Int)=110):=fun h=>bm (UInt8.toNat_inj.1 (by show af.toNat=110;omega));have ce:¬ ((af.toNat:Int)=102):=fun h=>bn (UInt8.toNat_inj.1 (by show af.toNat=102;omega));refine iY<|jI (h.ext t) b rfl y fun ba bk be aq=>jO aq rfl<|jC (s:=bs p) b rfl ay<|K3.no cc<|K3.no cd<|K3.no ce ?_;have i:AD br br:=AD.refl _;refine jL (f.ext i).blk.cells (k:=3) rfl<|AB.buildSlice BK (vs:=[Value.string x]) rF rF (by simp [Value.cells,AE.enc]) dE ?_;intro a' bo bd bj r aj;have e:=f.ext (xt i r);have bt:=i.size;have bu:=r.size;refine Ba (enc:=eS) BK AP e.g4 (ys:=[x]) (m:=1) aj.cells rfl (by simp [Al,eI,eS,AE.enc,AM]) om om om ?_;intro am an bp al j ar;have ap:=e.blk.mod j (fun d=>e.nb _ (.inr (.inr (.inr d))) rfl);refine jT ap (k:=3) sI rfl ?_;intro av q ak;have ao:=e.push4 al j ar q ak;have bv:=j.size;have bw:=q.but.size;have ad:=((ax.ext (xt i r)).mod j (fun d=>by
      obtain ⟨o,u,bg⟩:=d;have:=e.g4.new o u;omega)).mod q.but (fun d=>by have d:ag=ai:=d;omega)
     have ae:AD w av:=xb (xm (xt t (xt i r)) j (fun au d=>by
      have:=AQ e.g4.new au d;omega)) q.but om
     refine jP (((b+1:Nat):Int)) ⟨b+1,om,a1,a2,a3,am,c1,c2,c3,an,rfl,om,?_⟩;rw [ab];exact ⟨rfl,ao,ad,ae,om,Nat.le_succ_of_le n1,Nat.le_succ_of_le n2,Nat.le_succ_of_le n3,by simp only [List.length_append,List.length_singleton];omega⟩
 .obtain rfl:b=n:=om
  rw [List.take_of_length_le om] at f a8;generalize b0:Cy (p.zip ws)=cf at *;obtain ⟨aw,cw⟩:=cf;dsimp only at f a8;subst a8;refine iN<|jL f.blk.cells (k:=0) rfl<|dM (Dn (g:=72) (p:=fun cg=>!Ey cg 0 5) (cap:=[]) (f.g1.own.arr AI) (fun x y w' ck=>Qy x w')) fun ci aa=>BU (fun bf=>?_) (fun bf=>?_)
  .have bi:Bi p ws=(D3,2):=by unfold Bi;rw [b0];simp [bf]
   rw [bi];exact AB.build VU rfl<|jS (vs:=[.slice none 0 0,.slice none 0 0,.slice none 0 0,.slice none 0 0]) (ax.ext aa) rfl rfl cE fun a6 ah az=>AO (jR (n:=4) rfl az.cells) ⟨_,_,_,_,_,_,_,_,_,_,_,_,rfl,(fun h=>by cases h),xb (xt t aa) ah.but om⟩
  .have bi:Bi p ws=(aw,0):=by unfold Bi;rw [b0];simp [bf]
   rw [bi];refine jA (n:=4) (f.ext aa).blk.cells rfl<|jS (vs:=[.slice a1 aw.trays.length c1,.slice a2 aw.nums.length c2,.slice a3 aw.fields.length c3,.slice a4 aw.texts.length c4]) (ax.ext aa) rfl rfl cE fun a6 ah az=>AO (jR (n:=4) rfl az.cells) ?_;have a7:∀ (o:Addr),a9.heap.size<=o.block->¬ o.block=ag:=fun o u d=>om
   exact ⟨_,_,_,_,_,_,_,_,_,_,_,_,rfl,fun _=>⟨((f.g1.ext aa).mod ah.but fun o u=>a7 o (f.g1.new o u)).own.arr AI,((f.g2.ext aa).mod ah.but fun o u=>a7 o (f.g2.new o u)).own.arr AI,((f.g3.ext aa).mod ah.but fun o u=>a7 o (f.g3.new o u)).own.arr Br,((f.g4.ext aa).mod ah.but fun o u=>a7 o (f.g4.new o u)).own.arr AP,f.g1.new.mono om,f.g2.new.mono om,f.g3.new.mono om,f.g4.new.mono om⟩,xb (xt t aa) ah.but om⟩
end Go.Proofs.YtalgenmoljcnmaaGreatDoor
namespace Go.M
open Go Go.Vc
theorem aA4 {n:Nat}:(45:UInt8)∉Lib.decDigits n:=by
 intro a;have:=Ft _ _ a;revert this;decide
theorem RV {x:ByteArray} (h:Ei x=true):(45:UInt8)∈x.data.toList↔Ao x<0:=by
 have c:=Zo h;generalize Ao x=d at c;subst c;rw [FE];unfold Lib.itoa;split
 .rename_i b;exact ⟨fun _=>b,fun _=>by simp⟩
 .rename_i b;exact ⟨fun a=>absurd a aA4,fun a=>absurd a b⟩
theorem Wc (s:ByteArray):(∃ a b,Ay 45 s=[a,b]/\Ei a=true/\Ei b=true/\B4 s=(⟨Ao a,Ao b⟩,true)) \/
  ((B4 s).2=false/\((Ay 45 s).length=2->∃ a b,Ay 45 s=[a,b]/\(Ei a=false\/Ei b=false))):=by
 unfold B4;by_cases h:(45:UInt8)∈s.data.toList
 .obtain ⟨f,d,n,k⟩:=F6 h;have m:Ay 45 s=bs f :: (EG 45 d).map bs:=by
   unfold Ay EG;rw [n,Es 45 _ _ [] k];rfl
  rw [n,aJ1 k];dsimp only;by_cases e:(45:UInt8)∈d
  .obtain ⟨v,o,t,q⟩:=F6 e;right;refine ⟨?_,fun c=>?_⟩
   .cases p:Ei (bs d)
    .simp
    .have:=(RV p).1 (by rw [JI];exact e);simp;omega
   .exfalso;rw [m] at c;unfold EG at c;rw [t,Es 45 _ _ [] q] at c;have:=Nd 45 o;cases l:EG 45 o with
    | nil=>exact this l
    | cons w x=>rw [l] at c;simp at c
  .have r:Ay 45 s=[bs f,bs d]:=by
    rw [m];unfold EG;rw [GC 45 _ [] e];rfl
   rw [r];cases i:Ei (bs f)
   .exact .inr ⟨sI,fun _=>⟨_,_,rfl,.inl i⟩⟩
   .cases j:Ei (bs d)
    .exact .inr ⟨sI,fun _=>⟨_,_,rfl,.inr j⟩⟩
    .have u:¬ Ao (bs f)<0:=fun g=>k (by have:=(RV i).2 g;rwa [JI] at this);have c:¬ Ao (bs d)<0:=fun g=>e (by have:=(RV j).2 g;rwa [JI] at this);refine .inl ⟨_,_,rfl,i,j,?_⟩;simp;omega
 .right;rw [aJ0 h];refine ⟨sI,fun c=>?_⟩;exfalso;unfold Ay EG at c;rw [GC 45 _ [] h] at c;simp at c
theorem TF {t:ByteArray} (h:(deskWordsM.any fun x=>decide (x=t))=true):Bd t∈[[116,120],[116],[116,102,116],[],[116,116,102,116],[116,110,120],[116,102],[116,102,120,116],[116,102,102]]:=by
 have b:t∈deskWordsM:=by
  obtain ⟨x,c,a⟩:=List.any_eq_true.1 h;rw [decide_eq_true_eq] at a;exact a▸c
 revert b;clear h;unfold deskWordsM;simp only [List.mem_cons,List.not_mem_nil,or_false];rintro (rfl | rfl | rfl | rfl | rfl | rfl | rfl | rfl | rfl | rfl | rfl | rfl | rfl | rfl)<;>decide +kernel
end Go.M
namespace Go.Vc
open Go Go.RowKit
variable {P:Program} {T:HS} {n m:Nat} {ops:Array Oper} {S:World->Prop} {Q:Exit->Act->World->Prop} {K:Fr->World->Prop} {f:Fr} {w:World}
theorem ND (L:List Nat) (hT:T.fok P=true) (hok:DL n ops=true) (hs:Region.noSelect ops=true) (hQp:∀ c a w,¬ Q (.panic c) a w) (hQ:∀ f w,K f w->Q .normal (A3 n f) w) :
  ∀ (plan:List (Nat×LO)) (d:Bool) (listed:Array Bool) (f:Fr) (w:World),Fk ops listed->El L ops plan d listed=true->(d=false->S w)->Ee P T n S ops.toList (Dh ops.toList plan) f w K ->
   B9 P .any ops (fun j=>L.contains j) Q S plan.length listed (A3 n f) w
 | [],d,listed,f,w,_,hB,_,h=>by
  simp only [El,List.isEmpty_iff] at hB;exact F9 hB (hQ f w h) _
 | (i,s) :: l,d,listed,f,w,hcl,hB,hw,h=>by
  have hrd:i∈Region.ready .any ops listed:=by
   cases s<;>simp only [El,Bool.and_eq_true] at hB
   .simpa using hB.1.1
   .simpa using hB.1.1.1.1.1
   .have:=hB.1.1;simp only [beq_iff_eq] at this;rw [this];simp
   .have:=hB.1.1;simp only [beq_iff_eq] at this;rw [this];simp
   .have:=hB.1;simp only [beq_iff_eq] at this;rw [this];simp
  obtain ⟨_,x,y,_⟩:=mem_ready.1 hrd;have au:ops.toList[i]? = some x:=by simpa using y
  have ai:DH n ops x=true:=by
   unfold DL at hok;rw [List.all_eq_true] at hok;exact hok _ (List.mem_of_getElem? au)
  have a7:Dh ops.toList ((i,s) :: l)=(x,s) :: Dh ops.toList l:=by
   unfold Dh;rw [List.filterMap_cons_some (b:=(x,s)) (by simp [au])]
  rw [a7,Ji] at h;have e:=Cg ai h;have ah:=fun (d:Bool) (p:El L ops l d (listed.setIfInBounds i true)=true) (f:Fr) (w:World) (hw:d=false->S w) (h:Ee P T n S ops.toList (Dh ops.toList l) f w K)=>ND L hT hok hs hQp hQ l d (listed.setIfInBounds i true) f w (E0 hcl hrd) p hw h;have take:∀ {ak:Bool} {U:World->Prop} (r:Value),Region.free .any ops listed i=true->El L ops l ak (listed.setIfInBounds i true)=true->(ak=false->S w) ->
    (∀ (j:Nat) (al:Oper),ops[j]? = some al->j≠i->j∉P4 ops i ops.size->∀ w k,(S w->L.contains j=false->S k)->U w->U k)->U w ->
    (Region.wanted x (yielded ops (A3 n f).tmps)=true->∀ k,U k->(execOp (A3 n f).eval x).run P k = .ok (.value r) k)->(Region.wanted x (yielded ops (A3 n f).tmps)=false->r=undef) ->
    Ee P T n S ops.toList (Dh ops.toList l) (put f x.dst r) w K->B9 P .any ops (fun j=>L.contains j) Q S (l.length+1) listed (A3 n f) w:=by
   intro ak U r g p ab ae ay u a8 o;have aa:YieldsIf P ops U x r (A3 n f):=by
    cases m:Region.wanted x (yielded ops (A3 n f).tmps) with
    | true=>exact .inl ⟨m,u m⟩
    | false=>exact .inr ⟨m,a8 m⟩
   refine FV y (Region.noSelect_spec hs) ae (fun c a w a6=>(hQp _ _ _ a6).elim) l.length listed (A3 n f) w hcl (Region.free_spec y g) hrd aa ay ?_;rw [BL];exact ah ak p _ _ ab o
  have alone:Region.ready .any ops listed=[i]->wpOp P ops Q i (fun aw k=>(S w->L.contains i=false->S k)/\B9 P .any ops (fun j=>L.contains j) Q S l.length (listed.setIfInBounds i true) aw k) (A3 n f) w ->
    B9 P .any ops (fun j=>L.contains j) Q S (l.length+1) listed (A3 n f) w:=by
   intro q a3;refine ⟨fun y=>(by rw [q] at y;cases y),fun j aj=>?_⟩;rw [q] at aj;simp only [List.mem_singleton] at aj;subst aj;exact a3
  cases s with
  | any =>
   simp only [El,Bool.and_eq_true] at hB;obtain ⟨⟨q,g⟩,p⟩:=hB;split at e
   .rename_i m;obtain ⟨r,u,o⟩:=DC hT ai e;exact take (U:=fun _=>True) r g p hw (fun _ _ _ _ _ _ _ _ _=>trivial) trivial (fun _ k _=>u k) (fun g=>by rw [m] at g;cases g) o
   .rename_i m;rw [AY] at e;exact take (U:=fun _=>True) undef g p hw (fun _ _ _ _ _ _ _ _ _=>trivial) trivial (fun ao=>absurd ao m) (fun _=>rfl) e
  | held =>
   simp only [El,Bool.and_eq_true,y,Bool.not_eq_true'] at hB;obtain ⟨⟨⟨⟨⟨q,g⟩,ab⟩,ap⟩,ba⟩,p⟩:=hB;have ae:∀ (j:Nat) (al:Oper),ops[j]? = some al->j≠i->j∉P4 ops i ops.size->∀ w k,(S w->L.contains j=false->S k)->S w->S k:=by
    intro j al aj a' a2 w k ax hw;refine ax hw ?_;unfold MV at ap;rw [List.all_eq_true] at ap;have:=ap j (List.mem_range.2 (Array.getElem?_eq_some_iff.1 aj).1);simp only [Bool.or_eq_true,Bool.not_eq_true',List.contains_iff_mem] at this;rcases this with h | h
    .exact h
    .exact absurd h a2
   have z:=ai;simp only [DH,Bool.and_eq_true] at z;have z:=z.1;rw [List.all_eq_true] at z;split at e
   .rename_i m;dsimp only at e;split at e
    .rename_i am v t;have ag:(A3 n f).eval v=ev f v:=Ae (z v (by simp [t,Op.operands]));unfold DN at e;obtain ⟨r,u,o⟩:=e;rw [AY] at o;refine take (U:=S) r g p hw ae (hw ab) (fun _ k ac=>?_) (fun g=>by rw [m] at g;cases g) o;have q:=u k ac;unfold execOp;simp only [t,ag];simp [q]
    .rename_i am v ad t;have ag:(A3 n f).eval v=ev f v:=Ae (z v (by simp [t,Op.operands]));have aa:(A3 n f).eval ad=ev f ad:=Ae (z ad (by simp [t,Op.operands]));unfold DN at e;obtain ⟨r,u,o⟩:=e;rw [AY] at o;refine take (U:=S) r g p hw ae (hw ab) (fun _ k ac=>?_) (fun g=>by rw [m] at g;cases g) o;have q:=u k ac;unfold execOp;simp only [t,ag,aa];simp [q]
    .rename_i s am v t;have ag:(A3 n f).eval v=ev f v:=Ae (z v (by simp [t,Op.operands]));unfold DN at e;obtain ⟨r,u,o⟩:=e;rw [AY] at o;refine take (U:=S) r g p hw ae (hw ab) (fun _ k ac=>?_) (fun g=>by rw [m] at g;cases g) o;have q:=u k ac;unfold execOp;simp only [t,ag];simp [q]
    .rename_i am v aq an ar t;have ag:(A3 n f).eval v=ev f v:=Ae (z v (by simp [t,Op.operands]));have a0:aq.map (A3 n f).eval=aq.map (ev f):=by
      cases aq with
      | none=>rfl
      | some ad=>simp only [Option.map_some];rw [Ae (z ad (by simp [t,Op.operands]))]
     have az:an.map (A3 n f).eval=an.map (ev f):=by
      cases an with
      | none=>rfl
      | some ad=>simp only [Option.map_some];rw [Ae (z ad (by simp [t,Op.operands]))]
     have a1:ar.map (A3 n f).eval=ar.map (ev f):=by
      cases ar with
      | none=>rfl
      | some ad=>simp only [Option.map_some];rw [Ae (z ad (by simp [t,Op.operands]))]
     unfold DN at e;obtain ⟨r,u,o⟩:=e;rw [AY] at o;refine take (U:=S) r g p hw ae (hw ab) (fun _ k ac=>?_) (fun g=>by rw [m] at g;cases g) o;have q:=u k ac;unfold execOp;simp only [t,ag,a0,az,a1];simp [q]
    .rename_i am av t;have a5:(av.map fun af:Nat×Operand=>(af.1,(A3 n f).eval af.2))=av.map fun af=>(af.1,ev f af.2):=List.map_congr_left fun af a4=>by
      rw [Ae (z af.2 (by simp [t,Op.operands];exact ⟨af.1,a4⟩))]
     unfold DN at e;obtain ⟨r,u,o⟩:=e;rw [AY] at o;refine take (U:=S) r g p hw ae (hw ab) (fun _ k ac=>?_) (fun g=>by rw [m] at g;cases g) o;have q:=u k ac;unfold execOp;simp only [t];simp [a5,q]
    .exact e.elim
   .rename_i m;rw [AY] at e;exact take (U:=S) undef g p hw ae (hw ab) (fun ao=>absurd ao m) (fun _=>rfl) e
  | run =>
   simp only [El,Bool.and_eq_true,Bool.not_eq_true',beq_iff_eq] at hB;obtain ⟨⟨q,ab⟩,p⟩:=hB;refine alone q ?_;split at e
   .rename_i m;unfold wpOp;simp only [y,m,if_true];exact .inl (CN hT ai e fun f k o=>⟨fun _ _=>o.1,ah d p _ _ (fun _=>o.1) o.2⟩)
   .rename_i m;rw [AY] at e;have aa:YieldsIf P ops (fun _=>True) x undef (A3 n f) := .inr ⟨by simpa using m,rfl⟩;refine aa.wpOp y trivial ⟨fun h _=>h,?_⟩;rw [BL];exact ah d p _ _ hw e
  | write =>
   simp only [El,Bool.and_eq_true,beq_iff_eq] at hB;obtain ⟨⟨q,a9⟩,p⟩:=hB;refine alone q ?_;split at e
   .rename_i m;unfold wpOp;simp only [y,m,if_true];exact .inl (CN hT ai e fun f k o=>⟨fun _ h=>by rw [a9] at h;(cases h),ah true p _ _ (fun h=>by cases h) o⟩)
   .rename_i m;rw [AY] at e;have aa:YieldsIf P ops (fun _=>True) x undef (A3 n f) := .inr ⟨by simpa using m,rfl⟩;refine aa.wpOp y trivial ⟨fun h _=>h,?_⟩;rw [BL];exact ah true p _ _ (fun h=>by cases h) e
  | alone =>
   simp only [El,Bool.and_eq_true,beq_iff_eq] at hB;obtain ⟨q,p⟩:=hB;refine alone q ?_;split at e
   .rename_i m;obtain ⟨r,u,o⟩:=DC hT ai e;have aa:YieldsIf P ops (fun _=>True) x r (A3 n f) := .inl ⟨m,fun k _=>u k⟩;refine aa.wpOp y trivial ⟨fun h _=>h,?_⟩;rw [BL];exact ah d p _ _ hw o
   .rename_i m;rw [AY] at e;have aa:YieldsIf P ops (fun _=>True) x undef (A3 n f) := .inr ⟨by simpa using m,rfl⟩;refine aa.wpOp y trivial ⟨fun h _=>h,?_⟩;rw [BL];exact ah d p _ _ hw e
theorem IJ (L:List Nat) (hT:T.fok P=true) (hm:P.follows .mixedOrders=true) (a:Option Addr) (plan:List (Nat×LO)) (hok:DL n ops=true) (hB:X6 L ops plan=true)
  (h:∀ w1,AD w w1->Ee P T n (Sr a w1) ops.toList (Dh ops.toList plan) f w1 K):Eo P n ops f w K:=by
 unfold Eo;intro k;simp only [X6,Bool.and_eq_true] at hB;obtain ⟨⟨g,d⟩,hB⟩:=hB;have b:AD w { w with drawn:=w.drawn+1 }:=⟨rfl,rfl,rfl,Nat.le_refl _,fun _ _=>rfl⟩;refine wp_region_any hm (Fy (W:=fun i=>L.contains i) (S:=Sr a { w with drawn:=w.drawn+1 }) _ _ _ _ ?_);have:=ND L hT hok g (Q:=Mo n K (fun _ _ _=>False) (fun _ _=>False)) (fun j a w e=>e.elim) (fun f w c=>⟨f,rfl,c⟩) plan false _ f _ (GL ops) hB (fun _=>BP.refl _ _) (h _ b);rw [Nat.eq_of_beq_eq_true d] at this;exact this
def Fj (L:List Nat) (ops:Array Oper) (fin:Bool->Array Bool->Bool):List (Nat×LO)->Bool->Array Bool->Bool
 | [],d,listed=>fin d listed
 | (i,.any) :: l,d,listed=>(Region.ready .any ops listed).contains i && Region.free .any ops listed i && Fj L ops fin l d (listed.setIfInBounds i true)
 | (i,.held) :: l,d,listed=>(Region.ready .any ops listed).contains i && Region.free .any ops listed i && !d && MV L ops i && (match ops[i]? with | some o=>!HZ o.op | none=>false) && Fj L ops fin l d (listed.setIfInBounds i true)
 | (i,.run) :: l,d,listed=>Region.ready .any ops listed == [i] && !d && Fj L ops fin l d (listed.setIfInBounds i true)
 | (i,.write) :: l,_,listed=>Region.ready .any ops listed == [i] && L.contains i && Fj L ops fin l true (listed.setIfInBounds i true)
 | (i,.alone) :: l,d,listed=>Region.ready .any ops listed == [i] && Fj L ops fin l d (listed.setIfInBounds i true)
theorem Lq (L:List Nat) (hT:T.fok P=true) (hok:DL n ops=true) (hs:Region.noSelect ops=true) (hQp:∀ c a w,¬ Q (.panic c) a w) {fin:Bool->Array Bool->Bool}
  (hQ:∀ d listed f w,Fk ops listed->fin d listed=true->(d=false->S w)->K f w->B9 P .any ops (fun j=>L.contains j) Q S m listed (A3 n f) w) :
  ∀ (plan:List (Nat×LO)) (d:Bool) (listed:Array Bool) (f:Fr) (w:World),Fk ops listed->Fj L ops fin plan d listed=true->(d=false->S w)->Ee P T n S ops.toList (Dh ops.toList plan) f w K ->
   B9 P .any ops (fun j=>L.contains j) Q S (m+plan.length) listed (A3 n f) w
 | [],d,listed,f,w,hcl,hB,hw,h=>hQ d listed f w hcl (by simpa only [Fj] using hB) hw h
 | (i,s) :: l,d,listed,f,w,hcl,hB,hw,h=>by
  have hrd:i∈Region.ready .any ops listed:=by
   cases s<;>simp only [Fj,Bool.and_eq_true] at hB
   .simpa using hB.1.1
   .simpa using hB.1.1.1.1.1
   .have:=hB.1.1;simp only [beq_iff_eq] at this;rw [this];simp
   .have:=hB.1.1;simp only [beq_iff_eq] at this;rw [this];simp
   .have:=hB.1;simp only [beq_iff_eq] at this;rw [this];simp
  obtain ⟨_,y,z,_⟩:=mem_ready.1 hrd;have av:ops.toList[i]? = some y:=by simpa using z
  have aj:DH n ops y=true:=by
   unfold DL at hok;rw [List.all_eq_true] at hok;exact hok _ (List.mem_of_getElem? av)
  have a8:Dh ops.toList ((i,s) :: l)=(y,s) :: Dh ops.toList l:=by
   unfold Dh;rw [List.filterMap_cons_some (b:=(y,s)) (by simp [av])]
  rw [a8,Ji] at h;have e:=Cg aj h;have ai:=fun (d:Bool) (q:Fj L ops fin l d (listed.setIfInBounds i true)=true) (f:Fr) (w:World) (hw:d=false->S w) (h:Ee P T n S ops.toList (Dh ops.toList l) f w K)=>Lq L hT hok hs hQp hQ l d (listed.setIfInBounds i true) f w (E0 hcl hrd) q hw h;have take:∀ {al:Bool} {U:World->Prop} (t:Value),Region.free .any ops listed i=true->Fj L ops fin l al (listed.setIfInBounds i true)=true->(al=false->S w) ->
    (∀ (j:Nat) (am:Oper),ops[j]? = some am->j≠i->j∉P4 ops i ops.size->∀ w k,(S w->L.contains j=false->S k)->U w->U k)->U w ->
    (Region.wanted y (yielded ops (A3 n f).tmps)=true->∀ k,U k->(execOp (A3 n f).eval y).run P k = .ok (.value t) k)->(Region.wanted y (yielded ops (A3 n f).tmps)=false->t=undef) ->
    Ee P T n S ops.toList (Dh ops.toList l) (put f y.dst t) w K->B9 P .any ops (fun j=>L.contains j) Q S (m+l.length+1) listed (A3 n f) w:=by
   intro al U t g q ac af az v a9 p;have ab:YieldsIf P ops U y t (A3 n f):=by
    cases o:Region.wanted y (yielded ops (A3 n f).tmps) with
    | true=>exact .inl ⟨o,v o⟩
    | false=>exact .inr ⟨o,a9 o⟩
   refine FV z (Region.noSelect_spec hs) af (fun c a w a7=>(hQp _ _ _ a7).elim) (m+l.length) listed (A3 n f) w hcl (Region.free_spec z g) hrd ab az ?_;rw [BL];exact ai al q _ _ ac p
  have alone:Region.ready .any ops listed=[i]->wpOp P ops Q i (fun ax k=>(S w->L.contains i=false->S k)/\B9 P .any ops (fun j=>L.contains j) Q S (m+l.length) (listed.setIfInBounds i true) ax k) (A3 n f) w ->
    B9 P .any ops (fun j=>L.contains j) Q S (m+l.length+1) listed (A3 n f) w:=by
   intro r a4;refine ⟨fun z=>(by rw [r] at z;cases z),fun j ak=>?_⟩;rw [r] at ak;simp only [List.mem_singleton] at ak;subst ak;exact a4
  cases s with
  | any =>
   simp only [Fj,Bool.and_eq_true] at hB;obtain ⟨⟨r,g⟩,q⟩:=hB;split at e
   .rename_i o;obtain ⟨t,v,p⟩:=DC hT aj e;exact take (U:=fun _=>True) t g q hw (fun _ _ _ _ _ _ _ _ _=>trivial) trivial (fun _ k _=>v k) (fun g=>by rw [o] at g;cases g) p
   .rename_i o;rw [AY] at e;exact take (U:=fun _=>True) undef g q hw (fun _ _ _ _ _ _ _ _ _=>trivial) trivial (fun ap=>absurd ap o) (fun _=>rfl) e
  | held =>
   simp only [Fj,Bool.and_eq_true,z,Bool.not_eq_true'] at hB;obtain ⟨⟨⟨⟨⟨r,g⟩,ac⟩,aq⟩,bb⟩,q⟩:=hB;have af:∀ (j:Nat) (am:Oper),ops[j]? = some am->j≠i->j∉P4 ops i ops.size->∀ w k,(S w->L.contains j=false->S k)->S w->S k:=by
    intro j am ak ba a3 w k ay hw;refine ay hw ?_;unfold MV at aq;rw [List.all_eq_true] at aq;have:=aq j (List.mem_range.2 (Array.getElem?_eq_some_iff.1 ak).1);simp only [Bool.or_eq_true,Bool.not_eq_true',List.contains_iff_mem] at this;rcases this with h | h
    .exact h
    .exact absurd h a3
   have aa:=aj;simp only [DH,Bool.and_eq_true] at aa;have aa:=aa.1;rw [List.all_eq_true] at aa;split at e
   .rename_i o;dsimp only at e;split at e
    .rename_i an x u;have ah:(A3 n f).eval x=ev f x:=Ae (aa x (by simp [u,Op.operands]));unfold DN at e;obtain ⟨t,v,p⟩:=e;rw [AY] at p;refine take (U:=S) t g q hw af (hw ac) (fun _ k ad=>?_) (fun g=>by rw [o] at g;cases g) p;have r:=v k ad;unfold execOp;simp only [u,ah];simp [r]
    .rename_i an x ae u;have ah:(A3 n f).eval x=ev f x:=Ae (aa x (by simp [u,Op.operands]));have ab:(A3 n f).eval ae=ev f ae:=Ae (aa ae (by simp [u,Op.operands]));unfold DN at e;obtain ⟨t,v,p⟩:=e;rw [AY] at p;refine take (U:=S) t g q hw af (hw ac) (fun _ k ad=>?_) (fun g=>by rw [o] at g;cases g) p;have r:=v k ad;unfold execOp;simp only [u,ah,ab];simp [r]
    .rename_i s an x u;have ah:(A3 n f).eval x=ev f x:=Ae (aa x (by simp [u,Op.operands]));unfold DN at e;obtain ⟨t,v,p⟩:=e;rw [AY] at p;refine take (U:=S) t g q hw af (hw ac) (fun _ k ad=>?_) (fun g=>by rw [o] at g;cases g) p;have r:=v k ad;unfold execOp;simp only [u,ah];simp [r]
    .rename_i an x ar ao au u;have ah:(A3 n f).eval x=ev f x:=Ae (aa x (by simp [u,Op.operands]));have a1:ar.map (A3 n f).eval=ar.map (ev f):=by
      cases ar with
      | none=>rfl
      | some ae=>simp only [Option.map_some];rw [Ae (aa ae (by simp [u,Op.operands]))]
     have a0:ao.map (A3 n f).eval=ao.map (ev f):=by
      cases ao with
      | none=>rfl
      | some ae=>simp only [Option.map_some];rw [Ae (aa ae (by simp [u,Op.operands]))]
     have a2:au.map (A3 n f).eval=au.map (ev f):=by
      cases au with
      | none=>rfl
      | some ae=>simp only [Option.map_some];rw [Ae (aa ae (by simp [u,Op.operands]))]
     unfold DN at e;obtain ⟨t,v,p⟩:=e;rw [AY] at p;refine take (U:=S) t g q hw af (hw ac) (fun _ k ad=>?_) (fun g=>by rw [o] at g;cases g) p;have r:=v k ad;unfold execOp;simp only [u,ah,a1,a0,a2];simp [r]
    .rename_i an aw u;have a6:(aw.map fun ag:Nat×Operand=>(ag.1,(A3 n f).eval ag.2))=aw.map fun ag=>(ag.1,ev f ag.2):=List.map_congr_left fun ag a5=>by
      rw [Ae (aa ag.2 (by simp [u,Op.operands];exact ⟨ag.1,a5⟩))]
     unfold DN at e;obtain ⟨t,v,p⟩:=e;rw [AY] at p;refine take (U:=S) t g q hw af (hw ac) (fun _ k ad=>?_) (fun g=>by rw [o] at g;cases g) p;have r:=v k ad;unfold execOp;simp only [u];simp [a6,r]
    .exact e.elim
   .rename_i o;rw [AY] at e;exact take (U:=S) undef g q hw af (hw ac) (fun ap=>absurd ap o) (fun _=>rfl) e
  | run =>
   simp only [Fj,Bool.and_eq_true,Bool.not_eq_true',beq_iff_eq] at hB;obtain ⟨⟨r,ac⟩,q⟩:=hB;refine alone r ?_;split at e
   .rename_i o;unfold wpOp;simp only [z,o,if_true];exact .inl (CN hT aj e fun f k p=>⟨fun _ _=>p.1,ai d q _ _ (fun _=>p.1) p.2⟩)
   .rename_i o;rw [AY] at e;have ab:YieldsIf P ops (fun _=>True) y undef (A3 n f) := .inr ⟨by simpa using o,rfl⟩;refine ab.wpOp z trivial ⟨fun h _=>h,?_⟩;rw [BL];exact ai d q _ _ hw e
  | write =>
   simp only [Fj,Bool.and_eq_true,beq_iff_eq] at hB;obtain ⟨⟨r,a'⟩,q⟩:=hB;refine alone r ?_;split at e
   .rename_i o;unfold wpOp;simp only [z,o,if_true];exact .inl (CN hT aj e fun f k p=>⟨fun _ h=>by rw [a'] at h;(cases h),ai true q _ _ (fun h=>by cases h) p⟩)
   .rename_i o;rw [AY] at e;have ab:YieldsIf P ops (fun _=>True) y undef (A3 n f) := .inr ⟨by simpa using o,rfl⟩;refine ab.wpOp z trivial ⟨fun h _=>h,?_⟩;rw [BL];exact ai true q _ _ (fun h=>by cases h) e
  | alone =>
   simp only [Fj,Bool.and_eq_true,beq_iff_eq] at hB;obtain ⟨r,q⟩:=hB;refine alone r ?_;split at e
   .rename_i o;obtain ⟨t,v,p⟩:=DC hT aj e;have ab:YieldsIf P ops (fun _=>True) y t (A3 n f) := .inl ⟨o,fun k _=>v k⟩;refine ab.wpOp z trivial ⟨fun h _=>h,?_⟩;rw [BL];exact ai d q _ _ hw p
   .rename_i o;rw [AY] at e;have ab:YieldsIf P ops (fun _=>True) y undef (A3 n f) := .inr ⟨by simpa using o,rfl⟩;refine ab.wpOp z trivial ⟨fun h _=>h,?_⟩;rw [BL];exact ai d q _ _ hw e
inductive PT where
 | done:PT
 | seq (l:List (Nat×LO)) (t:PT):PT
 | alt (i:Nat) (t:PT) (j:Nat) (u:PT):PT
def PT.size:PT->Nat
 | .done=>0
 | .seq l t=>t.size+l.length
 | .alt _ t _ _=>t.size+1
def PT.ok (L:List Nat) (ops:Array Oper):PT->Bool->Array Bool->Bool
 | .done,_,listed=>(Region.ready .any ops listed).isEmpty
 | .seq l t,d,listed=>Fj L ops (t.ok L ops) l d listed
 | .alt i t j u,d,listed=>!d && Region.ready .any ops listed == [i,j] && t.ok L ops false (listed.setIfInBounds i true) && u.ok L ops false (listed.setIfInBounds j true) && Nat.beq u.size t.size
noncomputable def Z6 (P:Program) (T:HS) (n:Nat) (S:World->Prop) (all:List Oper) (t:PT):Fr->World->(Fr->World->Prop)->Prop :=
 PT.rec (motive:=fun _=>Fr->World->(Fr->World->Prop)->Prop) (fun f w K=>K f w)
  (fun l _ ih f w K=>Ee P T n S all (Dh all l) f w fun f w=>ih f w K)
  (fun i _ j _ ih ih2 f w K=>Dd (Ee P T n S all (Dh all [(i,.run)]) f w fun f w=>ih f w K) (Ee P T n S all (Dh all [(j,.run)]) f w fun f w=>ih2 f w K)) t
theorem aH6 (L:List Nat) (hT:T.fok P=true) (hok:DL n ops=true)
  {i:Nat} {listed:Array Bool} (hrd:i∈Region.ready .any ops listed) (hw:S w)
  (hQ:∀ f w,S w->K f w->B9 P .any ops (fun j=>L.contains j) Q S m (listed.setIfInBounds i true) (A3 n f) w)
  (h:Ee P T n S ops.toList (Dh ops.toList [(i,.run)]) f w K) :
  wpOp P ops Q i (fun a' w'=>(S w->L.contains i=false->S w')/\B9 P .any ops (fun j=>L.contains j) Q S m (listed.setIfInBounds i true) a' w') (A3 n f) w:=by
 obtain ⟨_,a,d,_⟩:=mem_ready.1 hrd;have k:ops.toList[i]? = some a:=by simpa using d
 have l:DH n ops a=true:=by
  unfold DL at hok;rw [List.all_eq_true] at hok;exact hok _ (List.mem_of_getElem? k)
 have o:Dh ops.toList [(i,.run)]=[(a,.run)]:=by
  unfold Dh;rw [List.filterMap_cons_some (b:=(a,.run)) (by simp [k])];rfl
 rw [o,Ji] at h;have c:=Cg l h;split at c
 .rename_i g;unfold wpOp;simp only [d,g,if_true];exact .inl (CN hT l c fun f w' e=>⟨fun _ _=>e.1,hQ _ _ e.1 e.2⟩)
 .rename_i g;rw [AY] at c;have p:YieldsIf P ops (fun _=>True) a undef (A3 n f) := .inr ⟨by simpa using g,rfl⟩;refine p.wpOp d trivial ⟨fun h _=>h,?_⟩;rw [BL];exact hQ _ _ hw c
theorem IY (L:List Nat) (hT:T.fok P=true) (hok:DL n ops=true) (hs:Region.noSelect ops=true) (hQp:∀ c a w,¬ Q (.panic c) a w) (hQ:∀ f w,K f w->Q .normal (A3 n f) w) :
  ∀ (t:PT) (d:Bool) (listed:Array Bool) (f:Fr) (w:World),Fk ops listed->t.ok L ops d listed=true->(d=false->S w)->Z6 P T n S ops.toList t f w K ->
   B9 P .any ops (fun j=>L.contains j) Q S t.size listed (A3 n f) w
 | .done,d,listed,f,w,_,hB,_,h=>F9 (by simpa [PT.ok] using hB) (hQ f w h) _
 | .seq l t,d,listed,f,w,hcl,hB,hw,h =>
  Lq L hT hok hs hQp (fin:=t.ok L ops) (m:=t.size) (K:=fun f w=>Z6 P T n S ops.toList t f w K) (fun d listed f w hcl hf hw hk=>IY L hT hok hs hQp hQ t d listed f w hcl hf hw hk) l d listed f w hcl (by simpa only [PT.ok] using hB) hw h
 | .alt i t j u,d,listed,f,w,hcl,hB,hw,h=>by
  simp only [PT.ok,Bool.and_eq_true,Bool.not_eq_true',beq_iff_eq] at hB;obtain ⟨⟨⟨⟨hd,hr⟩,ht⟩,hu⟩,hsz⟩:=hB;have hsz:=Nat.eq_of_beq_eq_true hsz;obtain ⟨p,q⟩:=Dd.out h;refine ⟨fun k=>(by rw [hr] at k;cases k),fun s b=>?_⟩;have e:=b;rw [hr] at b;simp only [List.mem_cons,List.not_mem_nil,or_false] at b;rcases b with rfl | rfl
  .exact aH6 L hT hok e (hw hd) (fun f w g hk=>IY L hT hok hs hQp hQ t false _ f w (E0 hcl e) ht (fun _=>g) hk) p
  .show wpOp P ops Q _ (fun o r=>_/\B9 P .any ops (fun j=>L.contains j) Q S t.size _ o r) (A3 n f) w;rw [<- hsz];exact aH6 L hT hok e (hw hd) (fun f w g hk=>IY L hT hok hs hQp hQ u false _ f w (E0 hcl e) hu (fun _=>g) hk) q
def aH4 (L:List Nat) (ops:Array Oper) (t:PT):Bool:=Region.noSelect ops && Nat.beq t.size ops.size && t.ok L ops false (Array.replicate ops.size false)
theorem Du (L:List Nat) (hT:T.fok P=true) (hm:P.follows .mixedOrders=true) (a:Option Addr) (t:PT) (hok:DL n ops=true) (hB:aH4 L ops t=true)
  (h:∀ w1,AD w w1->Z6 P T n (Sr a w1) ops.toList t f w1 K):Eo P n ops f w K:=by
 unfold Eo;intro k;simp only [aH4,Bool.and_eq_true] at hB;obtain ⟨⟨g,d⟩,hB⟩:=hB;have b:AD w { w with drawn:=w.drawn+1 }:=⟨rfl,rfl,rfl,Nat.le_refl _,fun _ _=>rfl⟩;refine wp_region_any hm (Fy (W:=fun i=>L.contains i) (S:=Sr a { w with drawn:=w.drawn+1 }) _ _ _ _ ?_);have:=IY L hT hok g (Q:=Mo n K (fun _ _ _=>False) (fun _ _=>False)) (fun j a w e=>e.elim) (fun f w c=>⟨f,rfl,c⟩) t false _ f _ (GL ops) hB (fun _=>BP.refl _ _) (h _ b);rw [Nat.eq_of_beq_eq_true d] at this;exact this
theorem E3 {ty:Nat} (hty:D1 P ty=some n) {b o k:Nat} {vs:List Value} (h:∀ w',S w'->AK w' b o vs) (hn:((vs.drop k).take n).length=n) {K:Value->Prop} (hK:K (.agg ((vs.drop k).take n).toArray)) :
  DN P S (Instr.loadAt ty (.pointer (some ⟨b,o+k,none⟩))) K:=K4 (fun w' a=>K0 hty (h w' a) hn ⟨rfl,rfl⟩) hK
theorem AV {a:Option Addr} {w':World} (e:AD w w'):Sr a w w':=AD.mod e
end Go.Vc
