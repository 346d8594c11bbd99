/- Parts of the proof; no conditions of its own. -/
import Derived.Test.YtalgenmoljcnmaaGreatDoorColl
import Derived.Test.YtalgenmoljcnmaaGreatDoorFew
import Derived.Test.YtalgenmoljcnmaaGreatDoorRefC
import Derived.Test.YtalgenmoljcnmaaGreatDoorDoSt
import Derived.Test.YtalgenmoljcnmaaGreatDoorJourR
namespace Go.M
open Go Go.Vc
variable {x s line:ByteArray} {l:List UInt8} {g d:List (List Int)} {f:AF} {X:List (List (List Int))} {D:Bv} {st:Bv×List UInt8} {k:Nat} {ls:List ByteArray}
structure IY (l:List ByteArray):Prop where
 n:l.length<=4001
 s:∀ x∈l,x.size<=40000
theorem HS:IY []:=⟨sI,sI⟩
theorem Gb (h:x.size<=40000):IY [x]:=⟨sI,by simpa using h⟩
theorem Xs (c:List Int) (f:AF):(AZ c f).length<=c.length:=by
 unfold AZ;simp;omega
theorem YG (f:AF) (c:List Int):(AS f c).length=(AZ c f).length:=by simp [AS,CK]
theorem Ge {n:Int} (h0 : -40000000000000<=n) (h1:n<=40000000000000):(BP n).size<=21:=Bc om om
theorem HI {l:List ByteArray} (hl:l.length<=4000) (hs:∀ x∈l,x.size<=40000):IY (CI l):=by
 unfold CI;refine ⟨by simp;omega,fun x a=>?_⟩;rcases List.mem_append.1 a with a | a
 .exact hs x a
 .rw [List.mem_singleton] at a;subst a;have:=Ge (n:=(l.length:Int)) om om;rw [ByteArray.size_append,AV];simp;omega
theorem LA (h0:g≠[]) (h20:∀ c∈g,c.length<=20):(ES g f).size<=20:=by
 unfold ES;rw [IZ,YG];cases g with
 | nil=>exact absurd rfl h0
 | cons c a =>
  have:=Xs c f;have:=h20 c sI;simp only [List.headD_cons];omega
theorem QI (h:g∈Be d f):g≠[]/\g.length<=d.length/\∀ c∈g,c∈d:=by
 obtain ⟨b,a⟩:=List.mem_iff_getElem?.1 h;exact QJ a
theorem XI (hd:Ax d=true):∀ c∈d,c.length<=20:=fun c a=>(Br ((Ah hd).2 c a).1).2.1
theorem M0 {s:AF} (hd:Ax d=true) (hs:Af s (AJ d)=true) (hl:g.length<=d.length) (hg:∀ c∈g,c∈d) : -40000000000000<=Dp g s/\Dp g s<=40000000000000 :=
 Iy (fun c a=>(IM (by rw [((Ah hd).2 c (hg c a)).2];exact hs)).1) (by have:=(Ah hd).1;omega)
theorem XZ (d:List (List Int)) (f s:AF):IY (CI (G7 d f s).1):=by
 unfold G7;by_cases h:Bh d f s=0
 .rw [if_neg (by simp [h])];obtain ⟨c,r,j,_,_⟩:=Ox h;have q:=(Ah c).1;have t:=HT d f;refine HI (by simp;omega) fun u a=>?_;rcases List.mem_append.1 a with a | a
  .obtain ⟨o,n,rfl⟩:=List.mem_map.1 a;obtain ⟨k,l,i⟩:=QI n;have p:=LA (f:=f) k fun e g=>XI c e (i e g);have b:=M0 c j l i;have m:=Ge b.1 b.2;unfold Fh;simp only [ByteArray.size_append,AV,List.length_cons,List.length_nil];omega
  .rw [List.mem_singleton] at a;subst a;have b:=M0 c j (Nat.le_refl _) fun e g=>g;have m:=Ge b.1 b.2;simp only [ByteArray.size_append,AV,List.length_cons,List.length_nil];omega
 .rw [if_pos h];exact HI sI sI
theorem N9 {B:Nat} (c:UInt8) (l:List ByteArray) (h:∀ x∈l,x.size<=B):(Dh c l).size<=l.length * (B+1):=by
 unfold Dh;rw [AV];have:=O3 c (l.map (·.data.toList)) (B:=B) (fun e a=>by
  obtain ⟨d,b,rfl⟩:=List.mem_map.1 a;have:=h d b;simpa using this)
 simpa using this
theorem QY (h:s.size<=40000):(EN s).size<=40000:=by
 unfold EN;split
 .rw [AV];simp
 .exact h
theorem YX {s:AF} (hd:Ax d=true) (hs:Af s (AJ d)=true):(Az d f s).1.length<=40/\∀ x∈(Az d f s).1,x.name.size<=20∧-40000000000000<=x.sum/\x.sum<=40000000000000:=by
 unfold Az;split
 .exact ⟨sI,sI⟩
 .have k:=(Ah hd).1;have l:=HT d f;refine ⟨by simp;omega,fun x i=>?_⟩;obtain ⟨j,h,rfl⟩:=List.mem_map.1 i;obtain ⟨c,e,b⟩:=QI h;exact ⟨LA c fun a g=>XI hd a (b a g),M0 hd hs e b⟩
theorem S6 {l:List A9} (hn:l.length<=40) (h:∀ x∈l,x.name.size<=20∧-40000000000000<=x.sum/\x.sum<=40000000000000):(GF l).size<=40000:=by
 unfold GF;have:=N9 (B:=42) 59 (l.map CQ) (fun x c=>by
  obtain ⟨d,b,rfl⟩:=List.mem_map.1 c;have a:=h d b;have e:=Ge a.2.1 a.2.2;unfold CQ;simp only [ByteArray.size_append,AV,List.length_cons,List.length_nil];omega)
 rw [List.length_map] at this;omega
theorem Mb (h6:X.length=6) (h:∀ d∈X,d.length<=41):(C6 (At X)).size<=40000:=by
 unfold C6;split
 .rw [AV];simp
 .rw [AV];unfold jn;have:=O3 32 ((At X).map Lib.itoa) (B:=21) (fun g e=>by
   obtain ⟨f,b,rfl⟩:=List.mem_map.1 e;unfold At at b;obtain ⟨d,c,rfl⟩:=List.mem_map.1 b;have:=h d c;have a:=Ge (n:=(d.length:Int)) om om;unfold BP at a;rw [AV] at a;exact a)
  rw [List.length_map,JN] at this;omega
theorem UZ {Y:List (List A9)} {W:Nat} {x:EB} (h0:(Am X Y W x).2=0) :
  BE x W=true/\((x.kind=7/\(Am X Y W x).1=(X,Y++[(Az (X.getD x.a.toNat []) x.field x.sum).1]))\/(x.kind≠7/\(Am X Y W x).1=(X.set x.dst.toNat (BX (X.getD x.a.toNat []) (X.getD x.b.toNat []) x).1,Y))):=by
 unfold Am at h0 ⊢;split at h0
 .cases h0
 rename_i e;rw [if_neg e];split at h0
 .cases h0
 rename_i f;rw [if_neg f];split at h0
 .rename_i d;rw [if_pos d];split at h0
  .rename_i c;exact absurd h0 c
  .rename_i c;rw [if_neg c];exact ⟨by simpa using e,.inl ⟨d,rfl⟩⟩
 .rename_i d;rw [if_neg d];split at h0
  .rename_i c;exact absurd h0 c
  .rename_i c;rw [if_neg c];exact ⟨by simpa using e,.inr ⟨d,rfl⟩⟩
theorem M5 {x:EB} {W:Int} (h:BE x W=true) (h7:x.kind=7):Af x.sum W=true:=by
 unfold BE at h;split at h
 .cases h
 split at h
 .cases h
 split at h
 .cases h
 .rename_i a;simp only [not_or,not_and,Bool.not_eq_false] at a;exact a.1 h7
theorem U6 (s:ByteArray):IY (CI ((BQ s).1.map DG)):=by
 have b:=JC s;refine HI (by simpa using b) fun g c=>?_;obtain ⟨d,a,rfl⟩:=List.mem_map.1 c;unfold BQ at a;split at a
 .have:=(EY _ s.data.toList 0 (Nat.le_refl _) dE dE).1 d a;have e:=Fk (J1 this);have f:=FE this;omega
 .cases a
theorem UB (s:ByteArray):0<=(D1 s).1/\(D1 s).1<=600000:=by
 unfold D1;split
 .have:=Oz (l:=(A5 s.data.toList 0).1) (fun b a=>(EY _ s.data.toList 0 (Nat.le_refl _) dE dE).1 b a) 6;simpa using this
 .simp
theorem T3:(Fq d f).1.length<=8/\∀ p∈(Fq d f).1,0<=p.col/\p.col<20/\(p.mode=1\/p.mode=2):=by
 unfold Fq;split
 .exact ⟨sI,sI⟩
 rename_i b;split
 .exact ⟨sI,sI⟩
 rename_i g;have c:(Bn d f).2=0:=by simpa using b
 have a:=VG c;have l:=Wz a.1;have h:=BV a.2.1;have j:(CF f:Int)=f.to_ - f.from_:=by unfold CF;omega
 have k:=QP f;have i:=Vr d (KR d f) (Bt f) (2 ^ (Bt f).length);refine ⟨?_,fun p e=>?_⟩
 .unfold Bp Mi;rw [List.length_map];omega
 .have:=O6 a.2.1 (Uu (XQ d (KR d f) (Bt f) _) e);exact ⟨this.1,om,this.2.2⟩
theorem Tc (d:List (List Int)) (f:AF):IY [EN (Dh 32 ((Fq d f).1.map Bb))]:=by
 obtain ⟨g,b⟩:=T3 (d:=d) (f:=f);refine Gb (QY ?_);have:=N9 (B:=22) 32 ((Fq d f).1.map Bb) (fun j e=>by
  obtain ⟨a,c,rfl⟩:=List.mem_map.1 e;have h:=b a c;have i:=Ge (n:=a.col) om om;unfold Bb;rw [ByteArray.size_append];split<;>rw [AV]<;>simp<;>omega)
 rw [List.length_map] at this;omega
theorem Wi {w:ByteArray} {a:C7} (h:Fe D.X D.Y.length D.s=true):IY (BC D w a).1.2/\((∀ y∈D.Y,y.length<=1048576)->∀ y∈(BC D w a).1.1.Y,y.length<=1048576):=by
 obtain ⟨ai,aw⟩:=Dv.1 h;have t:=WR ai;have ag:∀ e∈D.X,e.length<=40:=fun e f=>(Ah (t.2 e f)).1;have i:=JJ ai;have z:∀ (d:Nat) (e:List (List Int)),e.length<=41->(C6 (At (D.X.set d e))).size<=40000:=fun d e f=>Mb (by simp [t.1]) fun al c=>by
  rcases List.mem_or_eq_of_mem_set c with c | rfl
  .have:=ag al c;omega
  .exact f
 unfold BC;by_cases ab:w=Ha
 .rw [if_pos ab];exact ⟨U6 _,fun h=>h⟩
 rw [if_neg ab];by_cases ac:w=CP
 .rw [if_pos ac];by_cases l:CG (a.texts.getD 0 ⟨#[]⟩)≠0
  .rw [if_pos l];exact ⟨HS,fun h=>h⟩
  rw [if_neg l];by_cases m:Ap (D.X.set (a.trays.getD 0 0).toNat (D.X.getD (a.trays.getD 0 0).toNat []++[CR (a.texts.getD 0 ⟨#[]⟩)])) D.Y.length=false
  .rw [if_pos m];exact ⟨HS,fun h=>h⟩
  rw [if_neg m];exact ⟨Gb (z _ _ (by have:=(i (a.trays.getD 0 0).toNat).1;rw [List.length_append];simp only [List.length_singleton];omega)),fun h=>h⟩
 rw [if_neg ac];by_cases l:w=CH
 .rw [if_pos l];exact ⟨Gb (z _ _ sI),fun h=>h⟩
 rw [if_neg l];by_cases m:w=Cb
 .rw [if_pos m];cases ax:(D.X.getD (a.trays.getD 0 0).toNat []).find? (fun g=>decide (BG g≠0)) with
  | some g=>exact ⟨HS,fun h=>h⟩
  | none =>
   refine ⟨HI (by have:=(i (a.trays.getD 0 0).toNat).1;rw [List.length_map];omega) fun q p=>?_,fun h=>h⟩;obtain ⟨g,an,rfl⟩:=List.mem_map.1 p;have:=(Br ((i (a.trays.getD 0 0).toNat).2 g an).1).2.1;rw [IZ,Fz];omega
 rw [if_neg m];by_cases ad:w=Dz
 .rw [if_pos ad];by_cases o:(A3 D.s ⟨a.trays.getD 0 0,(D.X.getD (a.trays.getD 0 0).toNat []).length,a.nums.getD 0 0,a.texts.getD 0 ⟨#[]⟩⟩).2≠0
  .rw [if_pos o];exact ⟨HS,fun h=>h⟩
  .rw [if_neg o];refine ⟨Gb ?_,fun h=>h⟩;have:=UB (A3 D.s ⟨a.trays.getD 0 0,(D.X.getD (a.trays.getD 0 0).toNat []).length,a.nums.getD 0 0,a.texts.getD 0 ⟨#[]⟩⟩).1;have:=Ge (n:=(D1 (A3 D.s ⟨a.trays.getD 0 0,(D.X.getD (a.trays.getD 0 0).toNat []).length,a.nums.getD 0 0,a.texts.getD 0 ⟨#[]⟩⟩).1).1) om om;omega
 rw [if_neg ad];by_cases o:w=Cm
 .rw [if_pos o];exact ⟨Tc _ _,fun h=>h⟩
 rw [if_neg o];by_cases ae:w=GC
 .rw [if_pos ae];exact ⟨XZ _ _ _,fun h=>h⟩
 rw [if_neg ae];by_cases aa:(Am D.X D.Y (AH D.X) (BT w a)).2≠0
 .rw [if_pos aa];exact ⟨HS,fun h=>h⟩
 rw [if_neg aa];have au:(Am D.X D.Y (AH D.X) (BT w a)).2=0:=by simpa using aa
 obtain ⟨ah,v⟩:=UZ au;have ao:∀ d,Ax (D.X.getD d [])=true:=fun d=>Ip (W:=AH D.X) (i d).1 (i d).2;have ak:∀ (d:Nat) r s,Af s (AH D.X)=true->(Az (D.X.getD d []) r s).1.length<=40/\∀ q∈(Az (D.X.getD d []) r s).1,q.name.size<=20∧-40000000000000<=q.sum/\q.sum<=40000000000000:=fun d r s ap=>by
  cases f:D.X.getD d [] with
  | nil=>exact ⟨by unfold Az;split<;>simp [Be,Aw,DY],fun q p=>by unfold Az at p;split at p<;>simp [Be,Aw,DY] at p⟩
  | cons g av =>
   have am:=(i d).2 g (by rw [f];simp);have af:=ao d;rw [f] at af;exact YX af (by show Af s ((g.length:Nat):Int)=true;rw [am.2];exact ap)
 have aj:(∀ y∈D.Y,y.length<=1048576)->∀ y∈(Am D.X D.Y (AH D.X) (BT w a)).1.2,y.length<=1048576:=by
  rcases v with ⟨j,c⟩ | ⟨j,c⟩
  .rw [c];intro h y k;rcases List.mem_append.1 k with k | k
   .exact h y k
   .rw [List.mem_singleton] at k;subst k;have:=(ak (BT w a).a.toNat (BT w a).field _ (M5 ah j)).1;omega
  .rw [c];exact fun h=>h
 by_cases u:w≠BK
 .rw [if_pos u];refine ⟨Gb ?_,aj⟩;rcases v with ⟨j,c⟩ | ⟨j,c⟩
  .rw [c];exact Mb t.1 fun e f=>by have:=ag e f;omega
  .rw [c];have:=Sa (a:=D.X.getD (BT w a).a.toNat []) (b:=D.X.getD (BT w a).b.toNat []) (x:=BT w a) (i _).1;exact z _ _ om
 .rw [if_neg u];have aq:w=BK:=Classical.not_not.1 u;have j:(BT w a).kind=7:=by rw [aq];rfl
  refine ⟨Gb (QY ?_),aj⟩;rcases v with ⟨_,c⟩ | ⟨ar,c⟩
  .rw [c];rw [List.getLastD_eq_getLast?,List.getLast?_append];simp only [List.getLast?_singleton,Option.some_or,Option.getD_some];have:=ak (BT w a).a.toNat (BT w a).field _ (M5 ah j);exact S6 this.1 this.2
  .exact absurd j ar
theorem Gp (k:Int):(Ew k).size<=9:=by
 unfold Ew;split
 .decide
 .have:∀ a:Nat,(EI.getD a ⟨#[]⟩).size<=9:=fun a=>by
   rcases Nat.lt_or_ge a 11 with b | b
   .have c:∀ a:Fin 11,(EI.getD a.val ⟨#[]⟩).size<=9:=dE
    exact c ⟨a,b⟩
   .rw [List.getD_eq_getElem?_getD,List.getElem?_eq_none (by exact b)];decide
  exact this _
theorem SW (k:Int):IY [E1 k]:=by
 refine Gb ?_;have:=Gp k;unfold E1;rw [ByteArray.size_append,AV];simp;omega
theorem Ng (line:ByteArray) (h:Fe D.X D.Y.length D.s=true):IY (Ez D line).1.2/\((Ez D line).2=0->(∀ y∈D.Y,y.length<=1048576)->∀ y∈(Ez D line).1.1.Y,y.length<=1048576):=by
 unfold Ez;rw [if_neg (by simp [h])];split
 .exact ⟨HS,fun b=>by cases b⟩
 split
 .exact ⟨SW _,fun _ h=>h⟩
 split
 .exact ⟨SW _,fun _ h=>h⟩
 .have:=Wi (D:=D) (w:=(Aq 32 line).headD ⟨#[]⟩) (a:=(Bd (BW ((Aq 32 line).headD ⟨#[]⟩)) ((Aq 32 line).drop 1)).1) h;exact ⟨this.1,fun _=>this.2⟩
def XH:Bv:=⟨List.replicate 6 [],[],⟨#[]⟩⟩
noncomputable def PO (st:Bv×List UInt8) (line:ByteArray):Bv×List UInt8 :=
 if (Ez st.1 line).2≠0 then (st.1,st.2++[63,10]) else ((Ez st.1 line).1.1,st.2++Bf (Ez st.1 line).1.2)
noncomputable def De (ls:List ByteArray):Bv×List UInt8:=ls.foldl PO (XH,[])
def Vl:Nat->List UInt8->List ByteArray
 | 0,_=>[]
 | k+1,l=>if l=[] then [] else bs (Lib.cut l [10]).1 :: Vl k (Lib.cut l [10]).2.1
def Hv (l:List UInt8):List ByteArray:=Vl l.length l
theorem Qa (h:l≠[]):(Lib.cut l [10]).2.1.length<l.length:=by
 by_cases a:(10:UInt8)∈l
 .obtain ⟨c,d,rfl,b⟩:=List.eq_append_cons_of_mem a;rw [T7 b];simp;omega
 .rw [T6 a];exact List.length_pos_iff.2 h
theorem Sc:∀ (k g:Nat) (l:List UInt8),l.length<=k->l.length<=g->Vl k l=Vl g l
 | 0,g,l,h,_=>by
  have:l=[]:=List.eq_nil_of_length_eq_zero om;subst this;cases g<;>simp [Vl]
 | k+1,g,l,h,hg=>by
  by_cases a:l=[]
  .subst a;cases g<;>simp [Vl]
  .have:=Qa a;have:=List.length_pos_iff.2 a;obtain ⟨g,rfl⟩:∃ b,g=b+1:=⟨g - 1,om⟩;simp only [Vl,if_neg a];rw [Sc k g _ om om]
theorem Vk:Hv []=[]:=rfl
theorem Kb (h:l≠[]):Hv l=bs (Lib.cut l [10]).1 :: Hv (Lib.cut l [10]).2.1:=by
 have c:=Qa h;have d:=List.length_pos_iff.2 h;unfold Hv;obtain ⟨a,b⟩:∃ a,l.length=a+1:=⟨l.length - 1,om⟩;rw [b];simp only [Vl,if_neg h];rw [Sc a _ _ om (Nat.le_refl _)]
noncomputable def TX (s:ByteArray):ByteArray :=
 if (Hv s.data.toList).length<=60 then bs (De (Hv s.data.toList)).2 else bs ((De ((Hv s.data.toList).take 60)).2++[101,114,114,111,114,32,102,117,108,108,10])
theorem Hh (ls:List ByteArray) (x:ByteArray):De (ls++[x])=PO (De ls) x:=by
 unfold De;rw [List.foldl_append];rfl
theorem N6 {l:List ByteArray} (h:IY l):(Bf l).length<=160044001:=by
 have i:∀ l:List ByteArray,(∀ a∈l,a.size<=40000)->(Bf l).length<=l.length * 40001:=by
  intro l;induction l with
  | nil=>intro _;simp [Bf]
  | cons a l g =>
   intro h;have d:=g fun j f=>h j (List.mem_cons_of_mem _ f);have b:=h a sI;have c:Bf (a :: l)=a.data.toList++10 :: Bf l:=by simp [Bf]
   rw [c,List.length_append,List.length_cons,List.length_cons,Nat.add_mul];have e:a.data.toList.length<=40000:=by simpa using b
   omega
 have d:=i l h.s;have b:=h.n;have e:l.length * 40001<=4001 * 40001:=Nat.mul_le_mul_right _ b;omega
structure Sz (st:Bv×List UInt8) (k:Nat):Prop where
 v:Fe st.1.X st.1.Y.length st.1.s=true
 y:∀ y∈st.1.Y,y.length<=1048576
 s:st.2.length<=k * 200000000
theorem Zh:Sz (XH,[]) 0:=⟨by decide +kernel,by simp [XH],sI⟩
theorem Yk (h:Sz st k) (line:ByteArray):Sz (PO st line) (k+1):=by
 have f:=h.s;unfold PO;split
 .exact ⟨h.v,h.y,by simp;omega⟩
 .rename_i d;have c:(Ez st.1 line).2=0:=by simpa using d
  have b:=Ng line h.v;have e:=N6 b.1;rcases YF line h.v with a | ⟨_,a,_⟩
  .rw [c] at a;cases a
  .exact ⟨a,b.2 c h.y,by rw [List.length_append];omega⟩
theorem Yj (ls:List ByteArray):Sz (De ls) ls.length:=by
 have e:∀ (ls:List ByteArray) (b:Bv×List UInt8) (a:Nat),Sz b a->Sz (ls.foldl PO b) (a+ls.length):=by
  intro ls;induction ls with
  | nil=>intro b a c;exact c
  | cons f ls d =>
   intro b a c;have:=d _ _ (Yk c f);rw [List.foldl_cons,List.length_cons];rw [show a+(ls.length+1)=a+1+ls.length by omega];exact this
 have:=e ls (XH,[]) 0 Zh;rw [Nat.zero_add] at this;exact this
theorem Zi (h:Hv s.data.toList=ls++Hv []) (hk:ls.length<=60):TX s=bs (De ls).2:=by
 rw [Vk,List.append_nil] at h;unfold TX;rw [h,if_pos hk]
theorem Yl (h:Hv s.data.toList=ls++Hv l) (hk:ls.length=60) (hl:l≠[]):TX s=bs ((De ls).2++[101,114,114,111,114,32,102,117,108,108,10]):=by
 unfold TX;have a:(Hv s.data.toList).length=60+(Hv l).length:=by rw [h,List.length_append,hk]
 have b:(Hv l).length≠0:=by rw [Kb hl];simp
 rw [if_neg om,h,List.take_left' hk]
theorem Yi (h:Hv s.data.toList=ls++Hv l) (hl:l≠[]):Hv s.data.toList=(ls++[bs (Lib.cut l [10]).1])++Hv (Lib.cut l [10]).2.1:=by
 rw [h,Kb hl,List.append_assoc];rfl
theorem PN (h:(Ez st.1 line).2≠0):PO st line=(st.1,st.2++[63,10]):=if_pos h
theorem M3 (h:(Ez st.1 line).2=0):PO st line=((Ez st.1 line).1.1,st.2++Bf (Ez st.1 line).1.2):=if_neg (by simp [h])
theorem WW {l:List ByteArray} (h:l[k]? = some x):Bf (l.take (k+1))=Bf (l.take k)++(x.data.toList++[10]):=by
 unfold Bf;rw [List.take_add_one,h,List.map_append,List.flatten_append];simp
theorem RB (l:List ByteArray) (k:Nat):(Bf (l.take k)).length<=(Bf l).length:=by
 have a:Bf l=Bf (l.take k)++Bf (l.drop k):=by
  unfold Bf;rw [<- List.flatten_append,<- List.map_append,List.take_append_drop]
 rw [a,List.length_append];omega
theorem UC (a b:List UInt8):bs (a++b)=bs a++bs b:=by
 apply CV;simp [bs]
end Go.M
namespace Go.Proofs.YtalgenmoljcnmaaGreatDoor
open Go Go.RowKit Go.Vc Go.M Go.Shelf Go.Proofs
variable {t:Int} {w:World}
theorem JZ {log:ByteArray} (hs:log.size<=1048576) (ht:BM t) (hT:F7 w) (hE:EP w) (hM:Dy w) :
  Dq 207 [.string log,.int .i64 t] w (fun v w'=>∃ a n c,v = .tuple #[.slice a n c,.int .i64 (IX log t).2]/\Ad w.heap.size a/\Bw An.enc w' a n 151 (IX log t).1/\AD w w'):=by
 have s:=EY _ log.data.toList 0 (Nat.le_refl _) om om;have bq:log.data.toList.length=log.size:=sI
 obtain ⟨p,ae,ad,o⟩:∃ p ae ad,BQ log=(p,ae,ad):=⟨_,_,_,rfl⟩;have ag:∀ g,F7 g->EP g->Dy g->Dq 121 [.string log] g (fun v w'=>∃ a n c,v = .tuple #[.slice a n c,.int .i64 ae,.int .i64 ad]/\Ad g.heap.size a/\Bw An.enc w' a n 151 p/\AD g w'):=fun g a1 a2 a3=>JF hs o a1 a2 a3;unfold BQ at o;unfold IX;by_cases am:Aj log=0
 .rw [if_pos am] at o ⊢;have bl:=s.2.2.2.1;have bm:=s.2.2.2.2;generalize (A5 log.data.toList 0).2.2=bz at *;generalize (A5 log.data.toList 0).1=bw at *;cases o
  clear s;cases br:Dc t 0 5
  .rw [if_neg sI];dsimp only;refine oV Tryz.func207 ?_;refine (ag _ hT hE hM).mono ?_;rintro _ aj ⟨ak,f,al,rfl,av,y,r⟩;refine (FH _ _).mono ?_;rintro _ _ ⟨rfl,rfl⟩;refine iT ?_;exact ⟨_,_,_,rfl,Ad.nil,Bw.nil,r⟩
  .rw [if_pos rfl];dsimp only;refine oV Tryz.func207 ?_;refine (ag _ hT hE hM).mono ?_;rintro _ aj ⟨ak,f,al,rfl,av,y,r⟩;refine (FH _ _).mono ?_;rintro _ _ ⟨rfl,rfl⟩;refine iF ?_;refine bS HA (vs:=[]) ?_;intro bf b0 az bu ax ao;have aq:=Ab (enc:=An.enc) Au ao az;have bn:=y.1;refine lR [1,9,27,28,29] (fun (b:Nat) a9 w'=>∃ aa ai ac,a9=[.int .i64 t,.slice aa ai ac,.slice ak f al,.int .i64 f,.int .i64 b]/\b<=f/\Ai An.enc 4 aj.heap.size 151 w' aa ai ac (DU (p.take b) t)/\AD aj w') (fun b=>f - b) 0 ⟨_,_,_,rfl,om,aq,ax⟩ ?_;rintro b bj _ w' ⟨aa,ai,ac,rfl,bk,e,d⟩;have bp:=e.len;have a4:=H4 (p.take b) t;rw [List.length_take] at a4;have i:=y.ext d;by_cases bo:b<f
   .obtain ⟨h,u⟩:∃ h,(p)[b]? = some h:=AA om;by_cases an:h.tray=t
    .skip;refine iY ?_;obtain ⟨ab,rfl⟩:=(i).some om;have a7:ab<w'.heap.size:=i.lt _ rfl;refine jW (sz:=4) b rfl om ?_;have ah:=AT Au i u;refine jA (n:=4) ah rfl ?_;refine jN (z := .agg #[.int .i64 0,.int .i64 0,.int .i64 0,.string { data := #[] }]) ?_;intro aw a' m a6 l x;refine jS x (vs:=h.enc) rfl rfl (by simp [An.enc,AE]) fun ba j q=>jL q.cells (k:=0) rfl<|iY<|jA (n:=4) q.cells rfl<|AB.buildSlice HA (vs:=[Value.agg h.enc.toArray]) (by rfl) (by rfl) (by simp [Value.cells,An.enc]) dE ?_;intro bg b1 a0 bv af ap;have ar:=AG (n:=1) (enc:=An.enc) (xs:=[h]) Au ap a0 rfl dE;refine AM (enc:=An.enc) HA Au (e.ext (xt (xb l j.but m) af)) (ar.own.arr Au) (by intro b4 _;simp [An.enc,AE]) om om (Below.size (xt (xb (xt d l) j.but (nB d m)) af)) fun be bh b2 au a8 bt=>jP (((b+1:Nat):Int)) ⟨b+1,om,_,_,_,rfl,om,?_,(xm (xt (xb (xt d l) j.but (nB d m)) af) a8 (AO e.new))⟩
     .rw [IH u,if_pos an];exact au
    .skip;refine iY ?_;obtain ⟨ab,rfl⟩:=(i).some om;have a7:ab<w'.heap.size:=i.lt _ rfl;refine jW (sz:=4) b rfl om ?_;have ah:=AT Au i u;refine jA (n:=4) ah rfl<|jN (z := .agg #[.int .i64 0,.int .i64 0,.int .i64 0,.string { data := #[] }]) fun aw a' m a6 l x=>jS x (vs:=h.enc) rfl rfl (by simp [An.enc,AE]) fun ba j q=>jL q.cells (k:=0) rfl<|iN<|jP (((b+1:Nat):Int)) ⟨b+1,om,_,_,_,rfl,om,?_,(xb (xt d l) j.but (nB d m))⟩
     .rw [IH u,if_neg an];exact e.ext (xb l j.but m)
   .have a5:b=f:=om
    subst a5;rw [List.take_of_length_le om] at e;exact iN ⟨_,_,_,rfl,(e.new.mono (Below.size r)),e.own,(xt r d)⟩
 .rw [if_neg am] at o ⊢;cases o
  clear s;dsimp only;refine oV Tryz.func207 ?_;refine (ag _ hT hE hM).mono ?_;rintro _ b3 ⟨bd,bx,bi,rfl,bb,bc,ay⟩;exact iT ⟨_,_,_,rfl,Ad.nil,Bw.nil,ay⟩
theorem Ks {a:Option Addr} {n c:Nat} {xs:List An} (h:A4 An.enc 4 w a n xs) (hn:n<=4000) (ht:BM t) :
  Dq 177 [.slice a n c,.int .i64 t] w (fun v w'=>∃ a2 n2 c2,v = .slice a2 n2 c2/\Ad w.heap.size a2/\Bw An.enc w' a2 n2 151 (DU xs t)/\AD w w'):=by
 have ap:=h.len;have p:=H4 xs t;refine oV Tryz.func177 ?_;refine bS HA (vs:=[]) ?_;intro aj ay ab av aa r;have u:=Ab (enc:=An.enc) Au r ab;refine lR [0,1,5,6] (fun (b:Nat) ah w'=>∃ i o j,ah=[.slice a n c,.int .i64 t,.slice i o j,.int .i64 b]/\b<=n/\Ai An.enc 4 w.heap.size 151 w' i o j (DU (xs.take b) t)/\AD w w') (fun b=>n - b) 0 ⟨_,_,_,rfl,om,u,aa⟩ ?_;rintro b an _ w' ⟨i,o,j,rfl,ao,d,e⟩;have ar:=d.len;have p:=H4 (xs.take b) t;rw [List.length_take] at p;by_cases aq:b<n
 .obtain ⟨g,f⟩:∃ g,(xs)[b]? = some g:=AA om;by_cases q:g.tray=t
  .skip;refine iY<|jI (h.ext e) b rfl f fun z ag _ m=>jL m (k:=0) rfl<|iY<|jI (h.ext e) b rfl f fun al ax _ ad=>jA (n:=4) ad rfl<|AB.buildSlice HA (vs:=[Value.agg g.enc.toArray]) (by rfl) (by rfl) (by simp [Value.cells,An.enc]) dE ?_;intro ak az ac aw l s;have x:=AG (n:=1) (enc:=An.enc) (xs:=[g]) Au s ac rfl dE;refine AM (enc:=An.enc) HA Au (d.ext l) (x.own.arr Au) (by intro a1 _;simp [An.enc,AE]) om om (Below.size (xt e l)) fun ai am a0 y af au=>jP (((b+1:Nat):Int)) ⟨b+1,om,_,_,_,rfl,om,?_,(xm (xt e l) af (AO d.new))⟩
   .rw [IH f,if_pos q];exact y
  .skip;refine iY<|jI (h.ext e) b rfl f fun z ag _ m=>jL m (k:=0) rfl<|iN<|jP (((b+1:Nat):Int)) ⟨b+1,om,_,_,_,rfl,om,?_,e⟩
   .rw [IH f,if_neg q];exact d
 .have ae:b=n:=om
  subst ae;rw [List.take_of_length_le om] at d;exact iN ⟨_,_,_,rfl,d.new,d.own,e⟩
end Go.Proofs.YtalgenmoljcnmaaGreatDoor
namespace Go.Proofs.YtalgenmoljcnmaaGreatDoor
open Go Go.RowKit Go.Vc Go.M Go.Shelf Go.Proofs
variable {log:ByteArray}
theorem Ri (hs:log.size<=1048576) {w:World} (hT:F7 w) (hE:EP w) (hM:Dy w) :
  Dq 137 [.string log] w (fun v w'=>v=Uy (D1 log)/\AD w w'):=by
 have o:=EY _ log.data.toList 0 (Nat.le_refl _) om om;unfold D1;refine oV Tryz.func137 ?_;conv=>whnf
 by_cases s:Aj log=0
 .rw [if_pos s];have ai:=o.1;have u:=o.2.2.2.1;have bc:=o.2.2.2.2;have bd:log.data.toList.length=log.size:=sI
  have a7:log.size<=4000:=by rcases CB log with ⟨al,am⟩ | ⟨al,am,a2⟩ | ⟨al,am,a2⟩<;>omega
  clear o;have n:∀ (k:Nat) a,k<6->F7 a->EP a->Dy a->Dq 207 [.string log,.int .i64 k] a (fun v w'=>∃ c b d,v = .tuple #[.slice c b d,.int .i64 0]/\Ad a.heap.size c/\Bw An.enc w' c b 151 (DU (A5 log.data.toList 0).1 k)/\AD a w'):=fun k a a6 j l m=>by
   have:=JZ (t:=(k:Int)) hs ⟨om,om⟩ j l m;have i:IX log (k:Int)=(DU (A5 log.data.toList 0).1 k,0):=by
    unfold IX;rw [if_pos s,if_pos (by simp only [Dc,Bool.and_eq_true,decide_eq_true_eq];omega)]
   rw [i] at this;exact this
  generalize (A5 log.data.toList 0).2.2=bh at *;generalize (A5 log.data.toList 0).2.1=a5 at *;generalize (A5 log.data.toList 0).1=g at *;have ah:=Oz ai;refine lR [0,4,8] (fun (k:Nat) ad w'=>ad=[.string log,.int .i64 (FZ g k),.int .i64 k]/\k<=6/\AD w w') (fun k=>6 - k) 0 ⟨rfl,om,AD.refl _⟩ ?_;rintro k av _ w' ⟨rfl,bb,e⟩;have ay:(DU g k).length=0->FZ g (k+1)=FZ g k:=fun y=>by
   have:DU g (k:Int)=[]:=List.eq_nil_of_length_eq_zero y;simp [FZ,this,F0]
  have az:∀ b f,(DU g k).length=b+1->(DU g k)[b]? = some f->FZ g (k+1)=FZ g k+f.count:=fun b f y e=>by
   simp only [FZ,F0];rw [QL y,e]
  have a9:=ah k;have a':=ah (k+1);have a0:∀ b f,(DU g k)[b]? = some f->Cr f=true:=fun b f e=>ai f (Lk (List.mem_of_getElem? e));have a8:=H4 g k;have ba:BM (k:Int):=⟨om,om⟩;by_cases ag:k<6
  .generalize ae:DU g (k:Int)=p at *;cases af:p.length with
   | zero =>
    have z:∀ a,F7 a->EP a->Dy a->Dq 207 [.string log,.int .i64 k] a (fun v w'=>∃ c d,v = .tuple #[.slice c 0 d,.int .i64 0]/\Ad a.heap.size c/\Bw An.enc w' c 0 151 p/\AD a w'):=fun a j l m=>by
     refine (n k a ag j l m).mono ?_;rintro _ aj ⟨c,ac,d,rfl,q,h,i⟩;rw [ae] at h;have aa:ac=0:=by have:=h.1;omega
     subst aa;exact ⟨c,d,rfl,q,h,i⟩
    have u:=ay af;clear n;refine iY<|(z _ (hT.ext e) (hE.ext e) (hM.ext e)).mono ?_;rintro _ ak ⟨ao,aq,rfl,an,r,x⟩;exact jP (((k+1:Nat):Int)) ⟨k+1,om,by rw [u];rfl,om,xt e x⟩
   | succ b =>
    obtain ⟨f,ab⟩:∃ f,p[b]? = some f:=AA om;have z:∀ a,F7 a->EP a->Dy a->Dq 207 [.string log,.int .i64 k] a (fun v w'=>∃ c d,v = .tuple #[.slice c (b+1) d,.int .i64 0]/\Ad a.heap.size c/\Bw An.enc w' c (b+1) 151 p/\AD a w'):=fun a j l m=>by
     refine (n k a ag j l m).mono ?_;rintro _ aj ⟨c,ac,d,rfl,q,h,i⟩;rw [ae] at h;have aa:ac=b+1:=by have:=h.1;omega
     subst aa;exact ⟨c,d,rfl,q,h,i⟩
    have u:=az b f af ab;have a1:=a0 b f ab;have be:=J1 a1;clear n;refine iY<|(z _ (hT.ext e) (hE.ext e) (hM.ext e)).mono ?_;rintro _ ak ⟨ao,aq,rfl,an,r,x⟩;refine iY<|AB.sub ((b:Nat):Int) om om om ?_;obtain ⟨ap,rfl⟩:=(r).some om;have bf:ap<ak.heap.size:=r.lt _ rfl;refine jW (sz:=4) b rfl om ?_;have aw:=AT Au r ab;exact jL aw (k:=1) rfl<|AB.add _ rfl om om<|jP (((k+1:Nat):Int)) ⟨k+1,om,by rw [u];rfl,om,xt e x⟩
  .have ax:k=6:=om
   subst ax;exact ⟨rfl,e⟩
 .rw [if_neg s];have n:∀ a,F7 a->EP a->Dy a->Dq 207 [.string log,.int .i64 0] a (fun v w'=>∃ c b d,v = .tuple #[.slice c b d,.int .i64 (Aj log)]/\AD a w'):=fun a j l m=>by
   refine (JZ (t:=0) hs ⟨om,om⟩ j l m).mono ?_;rintro _ aj ⟨c,b,d,rfl,q,h,i⟩;have ar:(IX log 0).2=Aj log:=by
    unfold IX;rw [if_neg s]
   rw [ar];exact ⟨c,b,d,rfl,i⟩
  clear o;refine lR [0,4,8] (fun (k:Nat) ad w'=>k=0/\ad=[.string log,.int .i64 0,.int .i64 0]/\w=w') (fun k=>6 - k) 0 ⟨rfl,rfl,rfl⟩ ?_;rintro k av _ w' ⟨rfl,rfl,rfl⟩;refine (n _ hT hE hM).mono ?_;rintro _ bi ⟨a3,bg,a4,rfl,au⟩;exact iT ⟨rfl,au⟩
theorem Q3 (hs:log.size<=1048576) (w:World) :
  Dq 106 [.string log] w (fun v w'=>v=Uy (D1 log)/\AD w w'):=by
 have o:=EY _ log.data.toList 0 (Nat.le_refl _) om om;have bh:log.data.toList.length=log.size:=sI
 unfold D1;have n:∀ b,Dq 60 [.string log] b (fun v w'=>∃ m,v = .tuple #[.pointer (some ⟨m,0,none⟩),.int .i64 (Aj log)]/\AD b w'/\b.heap.size<=m /\
   (log.size<=4000->∃ f d i,CD w' m [.string log,.int .i64 ((A5 log.data.toList 0).2.2:Nat),.int .i64 (A5 log.data.toList 0).2.1,.slice f d i] 156/\Ad b.heap.size f/\Bw An.enc w' f d 151 (A5 log.data.toList 0).1)):=fun b=>I1 hs b
 by_cases ad:Aj log=0
 .rw [if_pos ad];have av:log.size<=4000:=by rcases CB log with ⟨ap,aq⟩ | ⟨ap,aq,a4⟩ | ⟨ap,aq,a4⟩<;>omega
  have am:=o.1;have t:=o.2.2.2.1;have be:=o.2.2.2.2;clear o;generalize (A5 log.data.toList 0).2.2=bk at *;generalize (A5 log.data.toList 0).2.1=a9 at *;generalize (A5 log.data.toList 0).1=c at *;rw [ad] at n;have al:=Oz am;refine oV Tryz.func106 ?_;refine (n _).mono ?_;rintro _ ao ⟨m,rfl,z,p,u⟩;obtain ⟨f,d,i,ah,r,g⟩:=u av;have bf:=g.1;clear n u;refine lR [4,6,7] (fun (a:Nat) a3 w'=>a3=[.pointer (some ⟨m,0,none⟩),.int .i64 (FZ c a),.int .i64 a]/\a<=6/\AD ao w') (fun a=>6 - a) 0 ⟨rfl,om,AD.refl _⟩ ?_;rintro a a' _ w' ⟨rfl,bd,h⟩;have ay:(DU c a).length=0->FZ c (a+1)=FZ c a:=fun ab=>by
   have:DU c (a:Int)=[]:=List.eq_nil_of_length_eq_zero ab;simp [FZ,this,F0]
  have az:∀ d e,(DU c a).length=d+1->(DU c a)[d]? = some e->FZ c (a+1)=FZ c a+e.count:=fun d e ab h=>by
   simp only [FZ,F0];rw [QL ab,h]
  have bb:=al a;have bc:=al (a+1);have a0:∀ d e,(DU c a)[d]? = some e->Cr e=true:=fun d e h=>am e (Lk (List.mem_of_getElem? h));have ba:=H4 c a;have ak:BM (a:Int):=⟨om,om⟩;by_cases bg:a<6
  .generalize ai:DU c (a:Int)=q at *;cases aj:q.length with
   | zero =>
    have ac:∀ b,A4 An.enc 4 b f d c->Dq 177 [.slice f d i,.int .i64 a] b (fun v w'=>∃ l x,v = .slice l 0 x/\Ad b.heap.size l/\Bw An.enc w' l 0 151 q/\AD b w'):=fun b p=>by
     refine (Ks p om ak).mono ?_;rintro _ a2 ⟨f,ag,i,rfl,r,g,y⟩;rw [ai] at g;have ae:ag=0:=by have:=g.1;omega
     subst ae;exact ⟨f,i,rfl,r,g,y⟩
    have t:=ay aj;skip;refine iY<|jL (ah.ext h).cells (k:=3) rfl<|(ac _ ((g.ext h).arr Au)).mono ?_;rintro _ an ⟨a5,a7,rfl,ar,s,aa⟩;exact jP (((a+1:Nat):Int)) ⟨a+1,om,by rw [t];rfl,om,xt h aa⟩
   | succ j =>
    obtain ⟨e,af⟩:∃ e,q[j]? = some e:=AA om;have ac:∀ b,A4 An.enc 4 b f d c->Dq 177 [.slice f d i,.int .i64 a] b (fun v w'=>∃ l x,v = .slice l (j+1) x/\Ad b.heap.size l/\Bw An.enc w' l (j+1) 151 q/\AD b w'):=fun b p=>by
     refine (Ks p om ak).mono ?_;rintro _ a2 ⟨f,ag,i,rfl,r,g,y⟩;rw [ai] at g;have ae:ag=j+1:=by have:=g.1;omega
     subst ae;exact ⟨f,i,rfl,r,g,y⟩
    have t:=az j e aj af;have a1:=a0 j e af;have bi:=J1 a1;skip;refine iY<|jL (ah.ext h).cells (k:=3) rfl<|(ac _ ((g.ext h).arr Au)).mono ?_;rintro _ an ⟨a6,a8,rfl,ar,s,aa⟩;refine iY<|AB.sub ((j:Nat):Int) om om om ?_;obtain ⟨au,rfl⟩:=(s).some om;have bj:au<an.heap.size:=s.lt _ rfl;refine jW (sz:=4) j rfl om ?_;have aw:=AT Au s af;exact jL aw (k:=1) rfl<|AB.add _ rfl om om<|jP (((a+1:Nat):Int)) ⟨a+1,om,by rw [t];rfl,om,xt h aa⟩
  .have ax:a=6:=om
   subst ax;exact ⟨rfl,(xt z h)⟩
 .rw [if_neg ad];refine oV Tryz.func106 ?_;refine (n _).mono ?_;rintro _ ao ⟨m,rfl,z,p,u⟩;clear n u o;exact iT ⟨rfl,z⟩
end Go.Proofs.YtalgenmoljcnmaaGreatDoor
