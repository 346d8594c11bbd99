/- Parts of the proof; no conditions of its own. -/
import Derived.Laws.AppendOwn
import Derived.Maps.AppendAt
import Derived.Laws.Small
import Derived.Lib.ConvBytes
import Derived.Lib.AtoiErrMem
import Derived.WideLaws
import Derived.Lib.AppendStr
import Derived.Laws.StructEq
import Derived.RowKit3
import Derived.ChangeArms
import Derived.ProofKit
import Derived.OpenShut
import Derived.ChangeOld
import Derived.Deep.Slices
import Derived.Test.YtalgenmoljcnmaaGreatDoorVcCore
namespace Go.M
open Go Go.Vc
variable {α:Type} {l:List UInt8} {k:Nat} {c:UInt8} {xs ys:List α} {x y:α}
def JW (n:Nat):Bool:=decide (97<=n) && decide (n<=122)
def DR (n:Nat):Bool:=decide (48<=n) && decide (n<=57)
def E7 (c:UInt8):Bool:=JW c.toNat || DR c.toNat || decide (c.toNat=45)
def Jz (l:List UInt8):Bool:=decide (1<=l.length) && decide (l.length<=12) && JW (l.headD 0).toNat && l.all E7
def Gk (s:ByteArray):Bool:=Jz s.data.toList
def Ey (n lo hi:Int):Bool:=decide (lo<=n) && decide (n<=hi)
theorem Bx {n lo hi:Int} (h:Ey n lo hi=true):lo<=n/\n<=hi:=by simpa [Ey] using h
theorem LU {p:UInt8->Bool} (hk:l[k]? = some c):(l.take (k+1)).all p=((l.take k).all p && p c):=by
 rw [List.take_add_one,hk];simp
theorem NS {l:List α} {p:α->Bool} {c:α} (hk:l[k]? = some c) (hp:p c=false):l.all p=false:=by
 rw [List.all_eq_false];exact ⟨c,List.mem_of_getElem? hk,by simp [hp]⟩
theorem NB (h:l[0]? = some c):l.headD 0=c:=by
 rw [List.headD_eq_head?_getD,List.head?_eq_getElem?,h];rfl
theorem AA {l:List α} (h:k<l.length):∃ x,l[k]? = some x:=⟨_,List.getElem?_eq_getElem h⟩
def O7:Nat->Nat->List UInt8->List UInt8
 | 0,_,out=>out
 | f+1,k,out=>if k=0 then out else O7 f (k / 10) (UInt8.ofNat (48+k % 10) :: out)
theorem RT:∀ (f g k:Nat) (out:List UInt8),k<=f->k<=g->O7 f k out=O7 g k out
 | 0,0,_,_,_,_=>rfl
 | 0, g + 1, k, out, h, _ => by have : k = 0 := by omega
                                subst this;simp [O7]
 | f + 1, 0, k, out, _, h => by have : k = 0 := by omega
                                subst this;simp [O7]
 | f+1,g+1,k,out,h1,h2=>by
  simp only [O7];split
  .rfl
  .exact RT f g (k / 10) _ om om
def MO (k:Nat) (out:List UInt8):List UInt8:=O7 k k out
theorem Y7 (out:List UInt8):MO 0 out=out:=rfl
theorem OK (h:0<k) (out:List UInt8):MO k out=MO (k / 10) (UInt8.ofNat (48+k % 10) :: out):=by
 unfold MO;obtain ⟨a,rfl⟩:∃ a,k=a+1:=⟨k - 1,om⟩;rw [O7,if_neg om];exact RT _ _ _ _ om (Nat.le_refl _)
def IU (k:Nat):ByteArray:=if k=0 then bs [109,48] else bs (109 :: MO k [])
theorem VM (m:Nat):(UInt8.ofNat (48+m % 10)).toNat=48+m % 10:=by
 simp;omega
def eS (s:ByteArray):List Value:=[.string s]
def eI (n:Int):List Value:=[.int .i64 n]
theorem AP (s:ByteArray):(eS s).length=1:=rfl
theorem AI (n:Int):(eI n).length=1:=rfl
theorem JO {α:Type} {xs ys:List α} {k:Nat} {x y:α} (h:xs.take k=ys.take k) (hx:xs[k]? = some x) (hy:ys[k]? = some y) (e:x=y):xs.take (k+1)=ys.take (k+1):=by
 rw [List.take_add_one,List.take_add_one,h,hx,hy,e]
theorem Nu {α:Type} {xs ys:List α} {k:Nat} {x y:α} (hx:xs[k]? = some x) (hy:ys[k]? = some y) (e:¬ x=y):¬ xs=ys:=fun a=>by
 rw [a,hy] at hx;exact e (Option.some.inj hx).symm
theorem MM {α:Type} {xs ys:List α} {k:Nat} (h:xs.take k=ys.take k) (hx:xs.length<=k) (hy:ys.length<=k):xs=ys:=by
 rw [List.take_of_length_le hx,List.take_of_length_le hy] at h;exact h
def HR (k n:Nat):List ByteArray:=(List.range n).map fun i=>IU (k+i)
theorem Mn (k n:Nat):(HR k n).length=n:=by simp [HR]
theorem Yq {n i:Nat} (h:i<n):(HR k n)[i]? = some (IU (k+i)):=by simp [HR,h]
theorem XR (k n:Nat):HR k (n+1)=HR k n++[IU (k+n)]:=by simp [HR,List.range_succ]
def Vs (p:Int×Int):Value := .tuple #[.int .i64 p.1,.int .i64 p.2]
end Go.M
namespace Go.Vc
section
open Go Go.RowKit
def An {α:Type} (enc:α->List Value) (sz B e:Nat) (w:World) (a:Option Addr) (n c:Nat) (xs:List α):Prop :=
 xs.length=n/\w.ownsRow B e sz (.slice a n c) n (Al enc xs)
theorem An.nil {α:Type} {enc:α->List Value} {sz B e:Nat} {w:World}:An enc sz B e w none 0 0 ([]:List α):=⟨rfl,World.ownsRow_nil w B e sz⟩
theorem An.kept {α:Type} {enc:α->List Value} {sz B e:Nat} {w w':World} {a:Option Addr} {n c:Nat} {xs:List α} (h:An enc sz B e w a n c xs) (hb:∀ x,a=some x->w'.heap[x.block]? = w.heap[x.block]?):An enc sz B e w' a n c xs:=by
 obtain ⟨j,k,b⟩:=h;refine ⟨j,k,?_⟩;rcases b with b | ⟨i,f,g,d,l,m,rest⟩
 .exact .inl b
 .refine .inr ⟨i,f,g,d,l,?_,rest⟩;simp only [Value.slice.injEq] at d;have:=hb _ d.1;simp only at this;rw [this];exact m
theorem An.blk_lt {α:Type} {enc:α->List Value} {sz B e:Nat} {w:World} {a:Option Addr} {n c:Nat} {xs:List α} (h:An enc sz B e w a n c xs):∀ x,a=some x->B<=x.block/\x.block<w.heap.size:=by
 intro x d;rcases h.2.2 with ⟨b,_⟩ | ⟨k,i,j,b,f,g,rest⟩
 .simp only [Value.slice.injEq] at b;rw [d] at b;cases b.1
 .simp only [Value.slice.injEq] at b;rw [d] at b;have:=Option.some.inj b.1;subst this;exact ⟨f,(Array.getElem?_eq_some_iff.1 g).1⟩
theorem An.ext {α:Type} {enc:α->List Value} {sz B e:Nat} {w w':World} {a:Option Addr} {n c:Nat} {xs:List α} (h:An enc sz B e w a n c xs) (x:AD w w'):An enc sz B e w' a n c xs :=
 h.kept fun d b=>x.block _ (h.blk_lt d b).2
theorem An.mod {α:Type} {enc:α->List Value} {sz B e:Nat} {S:Nat->Prop} {w w':World} {a:Option Addr} {n c:Nat} {xs:List α} (h:An enc sz B e w a n c xs) (x:BP S w w') (hs:∀ y,a=some y->¬ S y.block):An enc sz B e w' a n c xs :=
 h.kept fun y b=>x.block _ (hs y b) (h.blk_lt y b).2
theorem An.new {α:Type} {enc:α->List Value} {sz B e:Nat} {w:World} {a:Option Addr} {n c:Nat} {xs:List α} (h:An enc sz B e w a n c xs):Ab B a:=fun d b=>(h.blk_lt d b).1
theorem An.len {α:Type} {enc:α->List Value} {sz B e:Nat} {w:World} {a:Option Addr} {n c:Nat} {xs:List α} (h:An enc sz B e w a n c xs):xs.length=n:=h.1
theorem An.le {α:Type} {enc:α->List Value} {sz B e:Nat} {w:World} {a:Option Addr} {n c:Nat} {xs:List α} (h:An enc sz B e w a n c xs):n<=c/\n<=9223372036854775807:=by
 rcases h.2.2 with ⟨b,m⟩ | ⟨i,f,g,b,k,l,j,d,rest⟩
 .simp only [Value.slice.injEq] at b;omega
 .simp only [Value.slice.injEq] at b;simp only [maxLen] at d;omega
theorem An.own {α:Type} {enc:α->List Value} {sz B e:Nat} {w:World} {a:Option Addr} {n c:Nat} {xs:List α} (h:An enc sz B e w a n c xs):Bs enc w a n e xs:=by
 refine ⟨h.1,h.le.2,?_⟩;rcases h.2.2 with ⟨b,j⟩ | ⟨f,k,d,b,p,i,l,m,o,g⟩
 .simp only [Value.slice.injEq] at b;exact .inl ⟨b.1,j⟩
 .simp only [Value.slice.injEq] at b;refine .inr ⟨f,d.toList.drop (n * sz),b.1,?_⟩;unfold B8;rw [i,<- g,List.take_append_drop]
theorem AH {α:Type} {enc:α->List Value} {sz B e:Nat} (he:∀ x,(enc x).length=sz) {w:World} {b n:Nat} {xs:List α} (h:B8 w b (Al enc xs) e) (hB:B<=b) (hn:xs.length=n) (hm:n<=9223372036854775807):An enc sz B e w (some ⟨b,0,none⟩) n n xs:=by
 refine ⟨hn,by rw [A1 he,hn],.inr ⟨b,n,_,rfl,hB,h,Nat.le_refl _,by simp only [maxLen];omega,?_,?_⟩⟩
 .simp [A1 he,hn]
 .have:=A1 he xs;rw [hn] at this;simp only [<- this];exact List.take_length
section
variable {P:Program}
theorem Ba {α:Type} {enc:α->List Value} {t e by_ B:Nat} {zs:List Value} (ht:C8 P t=some (e,zs,by_)) (he:∀ x,(enc x).length=zs.length) {w:World} {a:Option Addr} {n c:Nat} {xs:List α} (h:An enc zs.length B e w a n c xs)
  {b o m c':Nat} {ys:List α} (hy:AK w b o (Al enc ys)) (hl:ys.length=m) (hc:∀ v∈Al enc ys,AM v=true) (hsm:n+m<=1099511627776) (hby:(n+m) * by_<=140737488355328) (hB:B<=w.heap.size) {ty:Nat} {cs:Array Bool} {K:Next->World->Prop}
  (hK:∀ a' c' w',An enc zs.length B e w' a' (n+m) c' (xs++ys)->BP (AL a) w w'->(∀ k,AL a' k->AL a k\/k=w.heap.size)->K (.value (.slice a' (n+m) c')) w') :
  AB P (builtin .append #[t,t] ty cs #[.slice a n c,.slice (some ⟨b,o,none⟩) m c']) w K:=by
 obtain ⟨s,ap,j,ab,ak,al,z,q,av⟩:=GG ht;have r:zs.length=s.size:=by rw [<- al];simp [q]
 obtain ⟨u,y⟩:=h;have aa:(Al enc ys).length=m * zs.length:=by rw [A1 he,hl]
 have ag:∀ v:Value,AM v=true->v.oneCell'=true:=by
  intro v ai;cases v<;>first | rfl | cases ai
 obtain ⟨an,w',ah,p,f,_,d⟩:=run_append_own_at (P:=P) w B t ty e s ap zs.length by_ j ab ak r.symm z (by rw [q,r]) om (.slice a n c) n (Al enc xs) y ⟨b,o,none⟩ m c' (Al enc ys) aa
  (fun am g ac=>by rw [CT];exact hy am g ac) (fun g j=>ag g (hc g j)) (by simp only [maxLen];omega) hby hB
 have aj:∃ a' c',an = .slice a' (n+m) c':=by
  rcases p.2 with ⟨rfl,af⟩ | ⟨au,aq,ar,rfl,_⟩
  .exact ⟨none,0,by rw [af]⟩
  .exact ⟨_,_,rfl⟩
 obtain ⟨a',l,rfl⟩:=aj;refine A6 (v := .value (.slice a' (n+m) l)) (w':=w') ?_ (hK a' l w' ⟨by simp [u,hl],by rw [FN];exact p⟩ ?_ ?_)
 .simp only [builtin,Sem.run_bind,ah,Result.andThen_ok];rfl
 .refine ⟨f.os,f.tape,f.output,f.size,fun k ad ae=>f.block k ae fun i=>ad ?_⟩;cases a with
  | none=>simp [Value.ownBlock] at i
  | some x =>
   simp only [Value.ownBlock,Option.some.injEq] at i;exact ⟨x,rfl,i⟩
 .rintro k ⟨x,rfl,rfl⟩;simp only [Value.ownBlock] at d;rcases d with d | d
  .cases a with
   | none=>cases d
   | some ao =>
    simp only [Option.some.injEq] at d;exact .inl ⟨ao,rfl,d⟩
  .simp only [Option.some.injEq] at d;exact .inr d
theorem AB.append {α:Type} {enc:α->List Value} {t e by_ B:Nat} {zs:List Value} (ht:C8 P t=some (e,zs,by_)) (he:∀ x,(enc x).length=zs.length) {w:World} {a:Option Addr} {n c:Nat} {xs:List α} (h:An enc zs.length B e w a n c xs)
  {b o m c':Nat} {ys:List α} (hy:AK w b o (Al enc ys)) (hl:ys.length=m) (hc:∀ v∈Al enc ys,AM v=true) (hsm:n+m<=1099511627776) (hby:(n+m) * by_<=140737488355328) (hB:B<=w.heap.size) {ty:Nat} {cs:Array Bool} {K:Next->World->Prop}
  (hK:∀ a' c' w',An enc zs.length B e w' a' (n+m) c' (xs++ys)->BP (AL a) w w'->K (.value (.slice a' (n+m) c')) w') :
  AB P (builtin .append #[t,t] ty cs #[.slice a n c,.slice (some ⟨b,o,none⟩) m c']) w K :=
 Ba ht he h hy hl hc hsm hby hB fun a' c' w' d f _=>hK a' c' w' d f
theorem J8 {α:Type} {enc:α->List Value} {t e by_ B:Nat} {zs:List Value} (ht:C8 P t=some (e,zs,by_)) {w:World} {a:Option Addr} {n c:Nat} {xs:List α} (h:An enc zs.length B e w a n c xs) {c':Nat} {ty:Nat} {cs:Array Bool} {K:Next->World->Prop}
  (hK:K (.value (.slice a n c)) w):AB P (builtin .append #[t,t] ty cs #[.slice a n c,.slice none 0 c']) w K:=by
 obtain ⟨m,p,f,b,k,l,g,j,i⟩:=GG ht;refine A6 ?_ hK;have d:=h.le.1;cases a with
 | none=>simp [builtin,Builtin.append_,run_underlying f,sizeOf,typeInfo,b,Builtin.lenOf,d,Builtin.firstCells]
 | some o=>simp [builtin,Builtin.append_,run_underlying f,sizeOf,typeInfo,b,Builtin.lenOf,d,Builtin.firstCells,storeCells]
theorem A4.cells {α:Type} {enc:α->List Value} {sz:Nat} (he:∀ x,(enc x).length=sz) {w:World} {b o:Nat}:∀ {xs:List α} {k n:Nat},(∀ i x,xs[i]? = some x->AK w b (o+(k+i) * sz) (enc x))->xs.length=n->AK w b (o+k * sz) (Al enc xs)
 | [],k,n,_,_=>by intro j v hj;simp [Al] at hj
 | x :: xs,k,n,h,hn=>by
  have h0:AK w b (o+k * sz) (enc x):=by simpa using h 0 x rfl
  have d:=A4.cells he (xs:=xs) (k:=k+1) (n:=xs.length) (fun i e c=>by
   have:=h (i+1) e (by simpa using c);have a:k+(i+1)=k+1+i:=om
   rwa [a] at this) rfl
  simp only [Al,List.flatMap_cons];rw [AK.append];refine ⟨h0,?_⟩;rw [he];have a:o+(k+1) * sz=o+k * sz+sz:=by rw [Nat.add_mul];omega
  rwa [a] at d
theorem Rp {α:Type} {enc:α->List Value} {t e by_ B:Nat} {zs:List Value} (ht:C8 P t=some (e,zs,by_)) (he:∀ x,(enc x).length=zs.length) {w:World} {a:Option Addr} {n c:Nat} {xs:List α} (h:An enc zs.length B e w a n c xs)
  {a2:Option Addr} {m c':Nat} {ys:List α} (hy:A4 enc zs.length w a2 m ys) (hf:∀ x,a2=some x->x.spot=none) (hc:∀ y∈ys,∀ v∈enc y,AM v=true) (hsm:n+m<=1099511627776) (hby:(n+m) * by_<=140737488355328) (hB:B<=w.heap.size) {ty:Nat} {cs:Array Bool} {K:Next->World->Prop}
  (hK:∀ a' c' w',An enc zs.length B e w' a' (n+m) c' (xs++ys)->BP (AL a) w w'->(∀ k,AL a' k->AL a k\/k=w.heap.size)->K (.value (.slice a' (n+m) c')) w') :
  AB P (builtin .append #[t,t] ty cs #[.slice a n c,.slice a2 m c']) w K:=by
 cases a2 with
 | none =>
  have q:m=0:=by
   rcases Nat.eq_zero_or_pos m with d | d
   .exact d
   .obtain ⟨y,s⟩:∃ y,ys[0]? = some y:=⟨_,List.getElem?_eq_getElem (by rw [hy.1];exact d)⟩;obtain ⟨_,_,f,_⟩:=hy.2.2 0 y s;cases f
  subst q;have aa:ys=[]:=List.eq_nil_of_length_eq_zero hy.1;subst aa;exact J8 ht h (hK a c w (by simpa using h) (BP.refl _ _) (fun k p=>.inl p))
 | some x =>
  obtain ⟨i,ac,spot⟩:=x;have r:spot=none:=hf _ rfl;subst r;refine Ba ht he h (ys:=ys) ?_ hy.1 ?_ hsm hby hB hK
  .have:=A4.cells he (w:=w) (b:=i) (o:=ac) (xs:=ys) (k:=0) (n:=m) (fun ab y l=>by
    obtain ⟨ad,ae,f,j⟩:=hy.2.2 ab y l;cases f
    simpa using j) hy.1
   simpa using this
  .intro v g;simp only [Al,List.mem_flatMap] at g;obtain ⟨y,u,z⟩:=g;exact hc y u v z
theorem AQ {B:Nat} {a:Option Addr} (h:Ab B a):∀ k,AL a k->B<=k:=by
 rintro k ⟨c,b,rfl⟩;exact h c b
end
def eB (c:UInt8):List Value:=[.int .u8 c.toNat]
theorem F5 (c:UInt8):(eB c).length=1:=rfl
theorem YA:∀ l:List UInt8,Al eB l=Hm l
 | []=>rfl
 | c :: l=>by have:=YA l;simp only [Al,Hm,List.flatMap_cons,List.map_cons] at *;rw [this];rfl
theorem Ih {P:Program} {s t:Nat} (hs:Mz P s=true) (ht:HF P t=true) {w:World} {B e:Nat} {a:Option Addr} {n c:Nat} {l:List UInt8} (h:An eB 1 B e w a n c l) {K:Value->World->Prop} (hK:K (.string (bs l)) w) :
  AB P (convert s t (.slice a n c)) w K:=by
 obtain ⟨b,_,d⟩:=h.own;rcases d with ⟨rfl,rfl⟩ | ⟨g,rest,rfl,f⟩
 .have:l=[]:=List.eq_nil_of_length_eq_zero b;subst this;exact Wq hs ht hK
 .refine Rn hs ht (l:=l) ?_ b hK;have:=(AK.append.1 f.cells).1;rwa [YA] at this
theorem Ag {α:Type} {enc:α->List Value} {sz:Nat} (he:∀ x,(enc x).length=sz) {w:World} {B b e:Nat} (h:B8 w b [] e) (hB:B<=b):An enc sz B e w (some ⟨b,0,none⟩) 0 0 ([]:List α) :=
 AH he h hB rfl om
theorem R7 {α β:Type} {f:α->β} {xs:List α} {k:Nat} {x:α} (h:xs[k]? = some x):(xs.take (k+1)).map f=(xs.take k).map f++[f x]:=by
 rw [List.take_add_one,h];simp
theorem Bs.lt {α:Type} {enc:α->List Value} {w:World} {a:Option Addr} {n t:Nat} {xs:List α} (h:Bs enc w a n t xs):∀ x,a=some x->x.block<w.heap.size:=by
 intro x b;rcases h.2.2 with ⟨c,_⟩ | ⟨e,rest,c,d⟩
 .rw [c] at b;cases b
 .rw [c] at b;cases b;exact d.lt
theorem A4.lt {α:Type} {enc:α->List Value} {sz:Nat} {w:World} {a:Option Addr} {n:Nat} {xs:List α} (h:A4 enc sz w a n xs) (hp:∀ x,enc x≠[]) (hn:0<n):∀ x,a=some x->x.block<w.heap.size:=by
 intro x c;obtain ⟨b,i⟩:∃ b,xs[0]? = some b:=⟨_,List.getElem?_eq_getElem (by rw [h.1];exact hn)⟩;obtain ⟨k,l,e,f⟩:=h.2.2 0 b i;rw [e] at c;cases c;obtain ⟨j,m,g⟩:=List.exists_cons_of_ne_nil (hp b);have d:=Px (f 0 j (by rw [g];rfl));exact d
theorem Ab.some {B b:Nat} (h:B<=b):Ab B (some ⟨b,0,none⟩):=fun c a=>by cases a;exact h
theorem apart {a a':Option Addr} {B B':Nat} (h:∀ x,a=some x->x.block<B) (h':Ab B' a') (hB:B<=B'):∀ x,a=some x->¬ AL a' x.block:=by
 rintro x b ⟨d,c,e⟩;have:=h x b;have:=h' d c;omega
theorem Pd {P:Program} {α:Type} {enc:α->List Value} {t e by_ B:Nat} {zs:List Value} (ht:C8 P t=some (e,zs,by_)) {w:World} {a:Option Addr} {n c:Nat} {xs:List α} (h:An enc zs.length B e w a n c xs) {x:Addr} {c':Nat} {ty:Nat} {cs:Array Bool} {K:Next->World->Prop}
  (hK:K (.value (.slice a n c)) w):AB P (builtin .append #[t,t] ty cs #[.slice a n c,.slice (some x) 0 c']) w K:=by
 obtain ⟨m,p,f,b,k,l,g,j,i⟩:=GG ht;refine A6 ?_ hK;have d:=h.le.1;cases a with
 | none=>simp [builtin,Builtin.append_,run_underlying f,sizeOf,typeInfo,b,Builtin.lenOf,d,Builtin.firstCells,loadCells,loadCellsFrom]
 | some o=>simp [builtin,Builtin.append_,run_underlying f,sizeOf,typeInfo,b,Builtin.lenOf,d,Builtin.firstCells,loadCells,loadCellsFrom,storeCells]
theorem AN {P:Program} {α:Type} {enc:α->List Value} {t e by_ B:Nat} {zs:List Value} (ht:C8 P t=some (e,zs,by_)) (he:∀ x,(enc x).length=zs.length) {w:World} {a:Option Addr} {n c:Nat} {xs:List α} (h:An enc zs.length B e w a n c xs)
  {a2:Option Addr} {m c':Nat} {ys:List α} (hy:A4 enc zs.length w a2 m ys) (hc:∀ y∈ys,∀ v∈enc y,AM v=true) (hsm:n+m<=1099511627776) (hby:(n+m) * by_<=140737488355328) (hB:B<=w.heap.size) {ty:Nat} {cs:Array Bool} {K:Next->World->Prop}
  (hK:∀ a' c' w',An enc zs.length B e w' a' (n+m) c' (xs++ys)->BP (AL a) w w'->(∀ k,AL a' k->AL a k\/k=w.heap.size)->K (.value (.slice a' (n+m) c')) w') :
  AB P (builtin .append #[t,t] ty cs #[.slice a n c,.slice a2 m c']) w K:=by
 rcases Nat.eq_zero_or_pos m with b | b
 .subst b;have j:ys=[]:=List.eq_nil_of_length_eq_zero hy.1;subst j;cases a2 with
  | none=>exact J8 ht h (hK a c w (by simpa using h) (BP.refl _ _) (fun k d=>.inl d))
  | some x=>exact Pd ht h (hK a c w (by simpa using h) (BP.refl _ _) (fun k d=>.inl d))
 .refine Rp ht he h hy (fun x f=>?_) hc hsm hby hB hK;obtain ⟨y,i⟩:∃ y,ys[0]? = some y:=⟨_,List.getElem?_eq_getElem (by rw [hy.1];exact b)⟩;obtain ⟨l,o,g,_⟩:=hy.2.2 0 y i;rw [g] at f;cases f
  rfl
theorem D0 {P:Program} {α:Type} {enc:α->List Value} {t e by_ B:Nat} {zs:List Value} (ht:C8 P t=some (e,zs,by_)) (he:∀ x,(enc x).length=zs.length) {w:World} {a:Option Addr} {c:Nat} (h:An enc zs.length B e w a 0 c ([]:List α))
  {a2:Option Addr} {m c':Nat} {ys:List α} (hy:A4 enc zs.length w a2 m ys) (hc:∀ y∈ys,∀ v∈enc y,AM v=true) (hsm:m<=1099511627776) (hby:m * by_<=140737488355328) (hB:B<=w.heap.size) {ty:Nat} {cs:Array Bool} {K:Next->World->Prop}
  (hK:∀ a' c' w',An enc zs.length B e w' a' m c' ys->BP (AL a) w w'->(∀ k,AL a' k->AL a k\/k=w.heap.size)->K (.value (.slice a' m c')) w') :
  AB P (builtin .append #[t,t] ty cs #[.slice a 0 c,.slice a2 m c']) w K :=
 AN ht he h hy hc om (by rw [Nat.zero_add];exact hby) hB fun a' c' w' b d f=>by
  have:=hK a' c' w' (by simpa using b) d f;rw [Nat.zero_add];exact this
theorem Bs.some {α:Type} {enc:α->List Value} {w:World} {a:Option Addr} {n t:Nat} {xs:List α} (h:Bs enc w a n t xs) (hn:0<n):∃ b:Nat,a=some ⟨b,0,none⟩:=by
 rcases h.2.2 with ⟨_,d⟩ | ⟨b,rest,c,_⟩
 .omega
 .exact ⟨b,c⟩
theorem AU {α:Type} {enc:α->List Value} {sz:Nat} (he:∀ x,(enc x).length=sz) {w:World} {b n t:Nat} {xs:List α} (h:Bs enc w (Option.some ⟨b,0,none⟩) n t xs) {k:Nat} {x:α} (hx:xs[k]? = Option.some x):AK w b (0+k * sz) (enc x):=by
 rcases h.2.2 with ⟨a,_⟩ | ⟨d,rest,a,c⟩
 .cases a
 .cases a
  exact Rt he c.cells hx
theorem GW {α:Type} {xs:List α} {k:Nat} {x:α} (h:xs[k]? = Option.some x):xs.take k++x :: xs.drop (k+1)=xs:=by
 rw [<- Gv h,List.take_append_drop]
theorem D6 {α:Type} {xs:List α} {k:Nat} {x:α} (h:xs[k]? = Option.some x) (y:α):(xs.set k y)[k]? = Option.some y:=by
 have:=(List.getElem?_eq_some_iff.1 h).1;simp [this]
theorem TA {α:Type} {xs:List α} {k:Nat} {x y:α} (h:xs[k]? = Option.some x):xs.set k y=xs.take k++y :: xs.drop (k+1):=La xs k y (List.getElem?_eq_some_iff.1 h).1
theorem WV {α:Type} {enc:α->List Value} {sz:Nat} (he:∀ x,(enc x).length=sz) {xs:List α} {k j:Nat} {x x':α} (hx:xs[k]? = Option.some x) (hj:j<sz) {v:Value} (hx':(enc x).set j v=enc x') (rest:List Value) :
  (Al enc xs++rest).set (k * sz+j) v=Al enc (xs.set k x')++rest:=by
 have b:=(List.getElem?_eq_some_iff.1 hx).1;have a:=Ia he (xs.take k) (xs.drop (k+1)) x x' rest j v hj hx';rw [GW hx,List.length_take,Nat.min_eq_left om] at a;rw [a,TA hx]
theorem DA {P:Program} {α:Type} {enc:α->List Value} {sz:Nat} {ty:Nat} (hty:DK P ty=true) (he:∀ x,(enc x).length=sz) {w:World} {b n t k j:Nat} {xs:List α} (h:Bs enc w (Option.some ⟨b,0,none⟩) n t xs) {x:α} (hx:xs[k]? = Option.some x) (hj:j<sz) {v:Value} (hv:AM v=true) (x':α) (hx':(enc x).set j v=enc x')
  {K:Unit->World->Prop} (hK:∀ w',Oa b w w'->Bs enc w' (Option.some ⟨b,0,none⟩) n t (xs.set k x')->K () w'):AB P (Instr.storeAt ty (.pointer (Option.some ⟨b,0+k * sz+j,none⟩)) v) w K:=by
 obtain ⟨d,e,f⟩:=h;rcases f with ⟨a,_⟩ | ⟨m,rest,a,g⟩
 .cases a
 .cases a
  have o:=(List.getElem?_eq_some_iff.1 hx).1;have l:k * sz+j<(Al enc xs++rest).length:=by
   rw [List.length_append,A1 he];have:=Nat.mul_le_mul_right sz (show k+1<=xs.length by omega);rw [Nat.add_mul] at this;omega
  rw [Nat.zero_add];refine Kz hty g l hv fun w' i c=>hK w' i ⟨by simpa using d,e,.inr ⟨b,rest,rfl,?_⟩⟩;rw [WV he hx hj hx'] at c;exact c
theorem Ss {P:Program} {α:Type} {enc:α->List Value} {sz:Nat} {ty:Nat} (hty:D1 P ty=Option.some sz) (he:∀ x,(enc x).length=sz) {w:World} {b n t k:Nat} {xs:List α} (h:Bs enc w (Option.some ⟨b,0,none⟩) n t xs) {x:α} (hx:xs[k]? = Option.some x) (x':α) (hv:∀ v∈enc x',AM v=true)
  {K:Unit->World->Prop} (hK:∀ w',Oa b w w'->Bs enc w' (Option.some ⟨b,0,none⟩) n t (xs.set k x')->K () w'):AB P (Instr.storeAt ty (.pointer (Option.some ⟨b,0+k * sz,none⟩)) (.agg ⟨enc x'⟩)) w K:=by
 obtain ⟨g,i,j⟩:=h;rcases j with ⟨a,_⟩ | ⟨s,rest,a,l⟩
 .cases a
 .cases a
  have u:=(List.getElem?_eq_some_iff.1 hx).1;have o:k * sz+sz<=(Al enc xs++rest).length:=by
   rw [List.length_append,A1 he];have:=Nat.mul_le_mul_right sz (show k+1<=xs.length by omega);rw [Nat.add_mul] at this;omega
  rw [Nat.zero_add];refine Cl hty l (he x') o hv fun w' m c=>hK w' m ⟨by simpa using g,i,.inr ⟨b,rest,rfl,?_⟩⟩;have f:(Al enc xs++rest).take (k * sz)++enc x'++(Al enc xs++rest).drop (k * sz+sz)=Al enc (xs.set k x')++rest:=by
   have p:=GW hx;have e:(Al enc (xs.take k)).length=k * sz:=by rw [A1 he,List.length_take,Nat.min_eq_left om]
   have d:Al enc xs=Al enc (xs.take k)++(enc x++Al enc (xs.drop (k+1))):=by
    conv=>lhs;rw [<- p]
    rw [FN];simp [Al]
   have q:(Al enc xs++rest).take (k * sz)=Al enc (xs.take k):=by
    rw [d,List.append_assoc,<- e,List.take_left]
   have r:(Al enc xs++rest).drop (k * sz+sz)=Al enc (xs.drop (k+1))++rest:=by
    rw [d,List.append_assoc,List.append_assoc,<- e,<- List.drop_drop,List.drop_left];rw [show sz=(enc x).length from (he x).symm,List.drop_left]
   rw [q,r,TA hx,FN];simp [Al]
  rw [f] at c;exact c
theorem Wt {α:Type} {enc:α->List Value} {sz B e:Nat} (he:∀ x,(enc x).length=sz) {w w':World} {b n c:Nat} {xs ys:List α} (h:An enc sz B e w (Option.some ⟨b,0,none⟩) n c xs) (hs:∀ cs t,B8 w b cs t->∃ cs',B8 w' b cs' t/\cs'.length=cs.length) (ho:Bs enc w' (Option.some ⟨b,0,none⟩) n e ys):An enc sz B e w' (Option.some ⟨b,0,none⟩) n c ys:=by
 obtain ⟨aa,ab,k⟩:=h;rcases k with ⟨d,_⟩ | ⟨z,y,j,d,l,o,q,r,s,ac⟩
 .cases d
 .simp only [Value.slice.injEq,Option.some.injEq,Addr.mk.injEq,and_true,true_and] at d;obtain ⟨rfl,rfl⟩:=d;obtain ⟨i,ad,u⟩:=ho;rcases u with ⟨f,_⟩ | ⟨v,rest,f,g⟩
  .cases f
  .cases f
   obtain ⟨cs',a,p⟩:=hs j.toList e (by unfold B8;simpa using o);unfold B8 at a g;rw [g] at a;simp only [Option.some.injEq,Obj.cells.injEq,and_true] at a;have m:Al enc ys++rest=cs':=by
    have:=congrArg Array.toList a;simpa using this
   refine ⟨i,by rw [A1 he,i],.inr ⟨b,c,_,rfl,l,g,q,r,?_,?_⟩⟩
   .simp only [List.size_toArray];rw [m,p];simpa using s
   .simp only;have:(Al enc ys).length=n * sz:=by rw [A1 he,i]
    rw [<- this,List.take_left]
theorem B8.inj {w:World} {b t t':Nat} {cs cs':List Value} (h:B8 w b cs t) (h':B8 w b cs' t'):cs'=cs/\t'=t:=by
 unfold B8 at h h';rw [h] at h';simp only [Option.some.injEq,Obj.cells.injEq,and_true] at h';exact ⟨by have:=congrArg Array.toList h'.1;simpa using this.symm,h'.2.symm⟩
theorem Fx {P:Program} {α:Type} {enc:α->List Value} {sz B e:Nat} {ty:Nat} (hty:DK P ty=true) (he:∀ x,(enc x).length=sz) {w:World} {b n c k j:Nat} {xs:List α} (h:An enc sz B e w (Option.some ⟨b,0,none⟩) n c xs) {x:α} (hx:xs[k]? = Option.some x) (hj:j<sz) {v:Value} (hv:AM v=true) (x':α) (hx':(enc x).set j v=enc x')
  {K:Unit->World->Prop} (hK:∀ w',Oa b w w'->An enc sz B e w' (Option.some ⟨b,0,none⟩) n c (xs.set k x')->K () w'):AB P (Instr.storeAt ty (.pointer (Option.some ⟨b,0+k * sz+j,none⟩)) v) w K:=by
 have q:=h.own;obtain ⟨g,i,l⟩:=q;rcases l with ⟨d,_⟩ | ⟨r,rest,d,f⟩
 .cases d
 .cases d
  have t:=(List.getElem?_eq_some_iff.1 hx).1;have p:k * sz+j<(Al enc xs++rest).length:=by
   rw [List.length_append,A1 he];have:=Nat.mul_le_mul_right sz (show k+1<=xs.length by omega);rw [Nat.add_mul] at this;omega
  rw [Nat.zero_add];refine Kz hty f p hv fun w' m a=>hK w' m (Wt he h (fun s u o=>?_) ⟨by simpa using g,i,.inr ⟨b,rest,rfl,?_⟩⟩)
  .obtain ⟨rfl,rfl⟩:=B8.inj f o;exact ⟨_,a,sI⟩
  .rw [WV he hx hj hx'] at a;exact a
theorem CS {P:Program} {sz t:Nat} (ht:CQ P t=Option.some sz) {w:World} {b o n c:Nat} {i:Int} (k:Nat) (hi:i=k) (hlt:k<n) {kd:IntKind}
  {K:Value->Prop} (hK:K (.pointer (Option.some ⟨b,o+k * sz,none⟩))):BQ P (Instr.indexAt t (.slice (Option.some ⟨b,o,none⟩) n c) (.int kd i)) w K :=
 Eh (fun _ _=>G9 ht k hi hlt ⟨rfl,rfl⟩) hK
theorem WX {α:Type} {enc:α->List Value} {z:α} {zs:List Value} (hz:enc z=zs):∀ n:Nat,Al (fun _:Unit=>zs) (List.replicate n ())=Al enc (List.replicate n z)
 | 0=>rfl
 | n+1=>by
  have ih:=WX hz n;simp only [Al,List.replicate_succ,List.flatMap_cons] at *;rw [ih,hz]
theorem Hh {α:Type} {enc:α->List Value} {sz B e:Nat} (he:∀ x,(enc x).length=sz) {z:α} {zs:List Value} (hz:enc z=zs) {w:World} {b n:Nat} (h:B8 w b (Al (fun _:Unit=>zs) (List.replicate n ())) e) (hB:B<=b) (hm:n<=9223372036854775807):An enc sz B e w (Option.some ⟨b,0,none⟩) n n (List.replicate n z) :=
 AH he (by rw [<- WX hz];exact h) hB sI hm
theorem Z8 {α:Type} {xs:List α} {n k:Nat} (z:α) (hn:xs.length=n) (hk:k<n):(xs.take k++List.replicate (n - k) z)[k]? = Option.some z:=by
 have a:(xs.take k).length=k:=sW
 rw [List.getElem?_append_right om,a,Nat.sub_self,List.getElem?_replicate,if_pos om]
theorem Z7 {α:Type} {xs:List α} {n k:Nat} {z x:α} (hn:xs.length=n) (hx:xs[k]? = Option.some x):(xs.take k++List.replicate (n - k) z).set k x=xs.take (k+1)++List.replicate (n - (k+1)) z:=by
 have d:=(List.getElem?_eq_some_iff.1 hx).1;have b:(xs.take k).length=k:=sW
 obtain ⟨a,c⟩:∃ a,n - k=a+1:=⟨n - k - 1,om⟩;rw [c,List.replicate_succ,List.set_append_right _ _ om,b,Nat.sub_self,List.set_cons_zero,List.take_add_one,hx];rw [show n - (k+1)=a by omega];simp
theorem K0 {P:Program} {ty n:Nat} (hty:D1 P ty=some n) {w:World} {b o k:Nat} {vs:List Value} (h:AK w b o vs) (hn:((vs.drop k).take n).length=n) {K:Value->World->Prop} (hK:K (.agg ((vs.drop k).take n).toArray) w) :
  AB P (Instr.loadAt ty (.pointer (some ⟨b,o+k,none⟩))) w K:=Hg hty ((h.drop k).take n) hn hK
theorem D5 {P:Program} {ty n:Nat} (hty:D1 P ty=some n) {w:World} {b o k:Nat} {vs:List Value} (h:AK w b o vs) (hn:((vs.drop k).take n).length=n) {K:Value->Prop} (hK:K (.agg ((vs.drop k).take n).toArray)) :
  BQ P (Instr.loadAt ty (.pointer (some ⟨b,o+k,none⟩))) w K:=Lu hty ((h.drop k).take n) hn hK
theorem AX {P:Program} {ty n:Nat} (hty:D1 P ty=some n) {w:World} {b t:Nat} {cs:List Value} (h:B8 w b cs t) {vs:List Value} (hn:vs.length=n) (hc:cs.length=n) (hv:∀ v∈vs,AM v=true) {K:Unit->World->Prop}
  (hK:∀ w',Oa b w w'->B8 w' b vs t->K () w'):AB P (Instr.storeAt ty (.pointer (some ⟨b,0,none⟩)) (.agg ⟨vs⟩)) w K :=
 Cl hty h (k:=0) hn om hv fun w' d a=>hK w' d (by
  have c:cs.take 0++vs++cs.drop (0+n)=vs:=by
   rw [List.drop_eq_nil_of_le om];simp
  rw [c] at a;exact a)
def K6 (a b:Option Addr):Prop:=∀ y,b=some y->¬ AL a y.block
theorem K6.app {a a' b:Option Addr} {B:Nat} (h:K6 a b) (hi:∀ k,AL a' k->AL a k\/k=B) (hb:∀ x,b=some x->x.block<B):K6 a' b:=by
 intro e d f;rcases hi _ f with c | c
 .exact h e d c
 .have:=hb e d;omega
theorem An.base {α:Type} {enc:α->List Value} {sz B B' e:Nat} {w:World} {a:Option Addr} {n c:Nat} {xs:List α} (h:An enc sz B e w a n c xs) (hb:B'<=B):An enc sz B' e w a n c xs:=by
 obtain ⟨i,j,b⟩:=h;refine ⟨i,j,?_⟩;rcases b with b | ⟨g,d,f,l,k,rest⟩
 .exact .inl b
 .exact .inr ⟨g,d,f,l,Nat.le_trans hb k,rest⟩
theorem An.lt {α:Type} {enc:α->List Value} {sz B e:Nat} {w:World} {a:Option Addr} {n c:Nat} {xs:List α} (h:An enc sz B e w a n c xs):∀ x,a=some x->x.block<w.heap.size:=fun x b=>(h.blk_lt x b).2
theorem Bv {n:Int} (h1 : -9223372036854775808<=n) (h2:n<=9223372036854775807):IntKind.wrap .i64 n=n:=IntWalk.i64_in n ⟨h1,h2⟩
end
section
open Go Go.RowKit
section
variable {P:Program}
theorem An.eq_ {α:Type} {enc:α->List Value} {sz B e:Nat} {w:World} {a:Option Addr} {n c:Nat} {xs ys:List α} (h:An enc sz B e w a n c xs) (he:xs=ys):An enc sz B e w a n c ys:=he▸h
theorem X3 {t:Nat} (h:HF P t=true):P.underlying t=some .string:=by
 unfold HF at h;split at h<;>simp_all
theorem Lb {t:Nat} (ht:HF P t=true) {s:ByteArray} {l h:Nat} (hl:l<=h) (hh:h<=s.size) {lo hi:Option Value} {k k':IntKind} (hlo:(lo=none/\l=0)\/lo=some (.int k l)) (hhi:(hi=none/\h=s.size)\/hi=some (.int k' h)) (w:World) :
  (Instr.sliceAt t (.string s) lo hi none).run P w = .ok (.string (s.extract l h)) w:=by
 have a:=X3 ht;rw [run_sliceAt_string w t _ _ _ _ a];rcases hlo with ⟨rfl,rfl⟩ | rfl<;>rcases hhi with ⟨rfl,rfl⟩ | rfl
 .exact run_slice_string_all w t s a
 .rw [run_slice_string_h w t s a _ _ om om];simp
 .rw [run_slice_string_l w t s a _ _ om om];simp
 .rw [run_slice_string w t s _ _ _ _ a om om om];simp
theorem CB {t:Nat} (ht:HF P t=true) {s:ByteArray} (l h:Nat) (hl:l<=h) (hh:h<=s.size) {lo hi:Option Value} {k k':IntKind} (hlo:(lo=none/\l=0)\/lo=some (.int k l)) (hhi:(hi=none/\h=s.size)\/hi=some (.int k' h)) {w:World} {K:Value->World->Prop}
  (hK:K (.string (s.extract l h)) w):AB P (Instr.sliceAt t (.string s) lo hi none) w K:=A6 (Lb ht hl hh hlo hhi w) hK
theorem IK {t:Nat} (ht:HF P t=true) {s:ByteArray} (l h:Nat) (hl:l<=h) (hh:h<=s.size) {lo hi:Option Value} {k k':IntKind} (hlo:(lo=none/\l=0)\/lo=some (.int k l)) (hhi:(hi=none/\h=s.size)\/hi=some (.int k' h)) {w:World} {K:Value->Prop}
  (hK:K (.string (s.extract l h))):BQ P (Instr.sliceAt t (.string s) lo hi none) w K:=Eh (fun a _=>A6 (Lb ht hl hh hlo hhi a) ⟨rfl,rfl⟩) hK
theorem FO (s:ByteArray) (l h:Nat):s.extract l h=bs ((s.data.toList.drop l).take (h - l)):=by
 have a:=ByteArray.extract_mk s.data.toList l h;have b:ByteArray.mk s.data.toList.toArray=s:=by obtain ⟨⟨c⟩⟩:=s;rfl
 rw [b] at a;exact a
theorem U3 (s:ByteArray) (l h:Nat) (hh:h<=s.size):(s.extract l h).size=h - l:=by
 rw [FO,BY];have:s.data.toList.length=s.size:=sI
 simp only [List.length_take,List.length_drop];omega
theorem Za (l:List UInt8):(ByteArray.mk ⟨l⟩).size=l.length:=rfl
theorem aG9 (l:List UInt8):(ByteArray.mk l.toArray).size=l.length:=rfl
theorem Ty {t:Nat} {X Y:Operand} {a b:Int} (h1 : -9223372036854775808<=a) (h2:a<=9223372036854775807) (hb:2<=b) {w:World} {K:Value->World->Prop} (hK:K (.int .i64 (a.tdiv b)) w) :
  AB P (Bl .quo t X Y (.int .i64 a) (.int .i64 b)) w K:=by
 refine A6 ?_ hK;have d:¬ b=0:=om
 have e:(a.tdiv b).natAbs<=a.natAbs / 2:=by
  rw [Int.natAbs_tdiv];exact Nat.div_le_div_left om om
 have f:0<=a->0<=a.tdiv b:=fun c=>Int.tdiv_nonneg c om;have:=IntWalk.i64_in (a.tdiv b) ⟨om,om⟩;simp [Bl,CP,binOp,Op.intDiv,d,this]
theorem ZK {t:Nat} {X Y:Operand} {a b:Int} (hb:0<b) {w:World} {K:Value->World->Prop} (hK:K (.int .i64 (a.tmod b)) w) :
  AB P (Bl .rem t X Y (.int .i64 a) (.int .i64 b)) w K:=by
 refine A6 ?_ hK;have c:¬ b=0:=om
 simp [Bl,CP,binOp,Op.intDiv,c]
theorem AB.neg {a:Int} (r:Int) (hr : -a=r) (h1 : -9223372036854775808<=r) (h2:r<=9223372036854775807) {w:World} {K:Value->World->Prop} (hK:K (.int .i64 r) w) :
  AB P (Op.unary .neg (.int .i64 a)) w K:=by
 refine A6 ?_ hK;have:=IntWalk.i64_in r ⟨h1,h2⟩;have b:0 - a=r:=om
 simp [Op.unary,Op.intArith,b,this]
theorem Tx {t:Nat} {X Y:Operand} {k:IntKind} {a b:Int} (r:Int) (hr:a - b=r) (hw:k.wrap r=r) {w:World} {K:Value->World->Prop} (hK:K (.int k r) w) :
  AB P (Bl .sub t X Y (.int k a) (.int k b)) w K:=by
 refine A6 ?_ hK;simp [Bl,CP,binOp,Op.intArith,hr,hw]
theorem IN {n:Int} (h0:0<=n) (h1:n<=255):IntKind.u8.wrap n=n:=by
 simp [IntKind.wrap,IntKind.bits,IntKind.signed];omega
theorem VA {s t e:Nat} {src:ByteArray} (hs:HF P s=true) (ht:P.underlying t=some (.slice e)) (he:P.underlying e=some (.int .u8)) (hm:src.size<=9223372036854775807) {w:World} {K:Value->World->Prop}
  (hK:∀ b c w',w.heap.size<=b->b<w'.heap.size->AD w w'->A4 eB 1 w' (some ⟨b,0,none⟩) src.size src.data.toList->K (.slice (some ⟨b,0,none⟩) src.size c) w') :
  AB P (convert s t (.string src)) w K:=by
 have j:=Lib.run_convert_string_bytes w s t e src (X3 hs) ht he
 have f:src.data.toList.length=src.size:=sI
 have k:AD w (Lib.bytesWorld w e src):=Lib.bytesWorld_below w e src;refine A6 j (hK _ _ _ (Nat.le_refl _) ?_ k ⟨f,hm,fun g m d=>⟨_,_,rfl,?_⟩⟩)
 .show w.heap.size<(Lib.bytesWorld w e src).heap.size;unfold Lib.bytesWorld;simp [World.freeze,World.alloc]
 .intro h l a;cases h with
  | zero =>
   simp only [eB,List.getElem?_cons_zero,Option.some.injEq] at a;subst a;have i:g<src.size:=by rw [<- f];exact (List.getElem?_eq_some_iff.1 d).1
   have:=Lib.bytesWorld_cell w e src g i;rw [List.getD_eq_getElem?_getD,d] at this;simpa using this
  | succ h=>simp [eB] at a
def Pp (P:Program) (t:Nat):Bool:=match P.underlying t with | some (.interface _)=>true | _=>false
theorem TR {t:Nat} (h:Pp P t=true):P.underlying t=some (.interface (P.methodsAt t)):=by
 unfold Pp at h;unfold Program.methodsAt;split at h
 .rename_i b a;rw [a]
 .cases h
theorem VB {t:Nat} (ht:Pp P t=true) {x:Operand} {w:World} {K:Value->World->Prop} (hK:K (.bool false) w):AB P (Bl .neq t x (.const .nilIface) .nilIface .nilIface) w K:=by
 refine A6 ?_ hK;simp [Bl,eqGuard,run_neq_nil_nil w t (TR ht)]
theorem VC {t d:Nat} (ht:Pp P t=true) {z:Value} {x:Operand} {w:World} {K:Value->World->Prop} (hK:K (.bool true) w):AB P (Bl .neq t x (.const .nilIface) (.iface d z) .nilIface) w K:=by
 refine A6 ?_ hK;simp [Bl,eqGuard,run_neq_held_nil w t d z (TR ht)]
end
theorem Tw (a:Addr):a.add 0=a:=by
 unfold Addr.add;rfl
theorem Jr {P:Program} {α:Type} {enc:α->List Value} {t sz:Nat} (ht:CQ P t=some sz) {w:World} {a:Option Addr} {n c:Nat} {xs:List α} (hA:A4 enc sz w a n xs) (h:Nat) (hh:h<=n) (hn:n<=c) {hi:Option Value} {k':IntKind} (hhi:(hi=none/\h=n)\/hi=some (.int k' h))
  {K:Value->World->Prop} (hK:A4 enc sz w a h (xs.take h)->K (.slice a h c) w):AB P (Instr.sliceAt t (.slice a n c) none hi none) w K:=by
 refine A6 (EI (k := .i64) ht (Nat.zero_le h) hh hn (.inl ⟨rfl,rfl⟩) hhi w) ?_;have d:(if c=0 then a else a.map (·.add (0 * sz)))=a:=by
  split
  .rfl
  .rw [Nat.zero_mul];cases a with
   | none=>rfl
   | some b=>simp [Tw]
 rw [d];refine hK ⟨?_,?_,fun e b hi=>?_⟩
 .rw [List.length_take,hA.1];omega
 .have:=hA.2.1;omega
 .rw [List.getElem?_take] at hi;split at hi
  .exact hA.2.2 e b hi
  .cases hi
def aM0 (P:Program) (t:Nat):Bool:=match P.underlying t with | some .bool=>true | _=>false
end
section
open Go Go.RowKit
variable {a:Option Addr} {B B' b bk:Nat}
def aL8 (a b:Option Addr):Prop:=∀ x,a=some x->∀ k,AL b k->x.block<k
theorem later {a':Option Addr} (h:∀ x,a=some x->x.block<B) (h':Ab B' a') (hB:B<=B'):aL8 a a':=by
 rintro x rfl e ⟨b,rfl,rfl⟩;have c:=h x rfl;have d:=h' b rfl;omega
theorem BP.trans_new {S S':Nat->Prop} {x y z:World} (h:BP S x y) (k:BP S' y z) (hb:∀ i,S' i->x.heap.size<=i):BP S x z :=
  ⟨k.os.trans h.os,k.tape.trans h.tape,k.output.trans h.output,Nat.le_trans h.size k.size,
   fun i b a=>(k.block i (fun c=>by have:=hb i c;omega) (Nat.lt_of_lt_of_le a h.size)).trans (h.block i b a)⟩
theorem Gy (nt:Ab B a) (l:b<B') (le:B'<=B):∀ x,a=some x->¬ (fun k=>k=b) x.block:=fun x d c=>by
 have e:=nt x d;have c:x.block=b:=c;omega
theorem aH2 (l:b<B) (g:B'<=bk) (le:B<=B'):¬ (fun k=>k=bk) b:=fun a=>by
 have a:b=bk:=a;omega
theorem Nv (g:B<=b) (l:bk<B') (le:B'<=B):¬ (fun k=>k=bk) b:=fun a=>by
 have a:b=bk:=a;omega
end
section
open Go Go.RowKit Go.ChangeShapes Go.WideShapes
section
variable {P:Program}
def LK (P:Program) (p:Field×Nat):Option Bool :=
 if p.1.offset=p.2/\P.cellsOf p.1.type=1 then (match P.underlying p.1.type with
   | some .string=>some true
   | some (.int .i64)=>some false
   | _=>none) else none
def JD (P:Program) (t:Nat):Option (List Bool) :=
 match P.underlying t with
 | some (.struct fs)=>(fs.toList.zipIdx.mapM (LK P)).bind fun l=>if P.cellsOf t=l.length then some l else none
 | _=>none
def BH (n:Int):Prop := -9223372036854775808<=n/\n<=9223372036854775807
def IP (s:ByteArray):Prop:=s.size<=9223372036854775807
def Pg:List Bool->List Value->Prop
 | [],cs=>cs=[]
 | true :: ks,cs=>∃ s r,cs = .string s :: r/\IP s/\Pg ks r
 | false :: ks,cs=>∃ n r,cs = .int .i64 n :: r/\BH n/\Pg ks r
theorem WN {n:Int} (h:(Lit.int .i64 n).wf=true):BH n:=by
 simpa [BH,Lit.wf,IntKind.min,IntKind.max,IntKind.signed,IntKind.bits] using h
theorem aE3 {ks:List Bool} {cs:List Value} (hl:cs.length=ks.length) (h:∀ i k,ks[i]? = some k->∃ v,(cs.drop i).take 1=[v]/\(bif k then (∃ s,v = .string s/\IP s) else (∃ n,v = .int .i64 n/\BH n))):Pg ks cs:=by
 induction ks generalizing cs with
 | nil=>exact List.eq_nil_of_length_eq_zero hl
 | cons k ks b =>
  match cs,hl with
  | c :: cs,hl =>
   have e:=h 0 k rfl;have b:=b (cs:=cs) (by simpa using hl) (fun i j a=>by
    have:=h (i+1) j (by simpa using a);simpa using this)
   obtain ⟨v,d,a⟩:=e;simp at d;subst d;cases k with
   | true=>obtain ⟨s,rfl,g⟩:=a;exact ⟨s,cs,rfl,g,b⟩
   | false=>obtain ⟨n,rfl,f⟩:=a;exact ⟨n,cs,rfl,f,b⟩
def F3:List Value->List Value->Bool
 | [],[]=>true
 | .string a :: xs,.string b :: ys=>decide (a=b) && F3 xs ys
 | .int _ a :: xs,.int _ b :: ys=>decide (a=b) && F3 xs ys
 | _,_=>false
theorem K9 {t off:Nat} {cs:List Value} {v:Value} (ht:DK P t=true) (h:cs[off]? = some v) (w:World):(part t ⟨cs⟩ off).run P w = .ok v w:=by
 obtain ⟨b,f,e,c,d,a⟩:=HW ht;have a:=congrFun a w;unfold part;simp only [Sem.run_bind,a,Result.andThen_ok,Bool.false_eq_true,if_false];have:(Array.mk cs)[off]? = some v:=by simpa using h
 rw [this];rfl
def H9 (P:Program) (t:Nat):Bool :=
 match P.underlying t with
 | some (.struct fs)=>(fs.toList.all fun f=>f.name != "_" && DK P f.type) && !P.stoodInHeld t && !P.eqGuardType P.depth t
 | _=>false
theorem GZ (d:Nat) (xs ys:List Value) (w:World):∀ (fs:List Field) (i:Nat) (ks:List Bool),(fs.zipIdx i).mapM (LK P)=some ks->(fs.all fun f=>f.name != "_" && DK P f.type)=true->Pg ks (xs.drop i)->Pg ks (ys.drop i) ->
  (Op.eqFields (d+1) ⟨xs⟩ ⟨ys⟩ fs).run P w = .ok (F3 (xs.drop i) (ys.drop i)) w
 | [],i,ks,hk,_,hx,hy=>by
  simp at hk;subst hk;rw [show xs.drop i=[] from hx,show ys.drop i=[] from hy];simp [Op.eqFields,F3]
 | f :: fs,i,ks,hk,hf,hx,hy=>by
  simp only [List.zipIdx_cons,List.mapM_cons,Option.bind_eq_bind,Option.bind_eq_some_iff,Option.pure_def,Option.some.injEq] at hk;obtain ⟨k,hk0,ks',hks,rfl⟩:=hk;simp only [List.all_cons,Bool.and_eq_true,bne_iff_ne,ne_eq] at hf;obtain ⟨⟨aa,s⟩,hf⟩:=hf;unfold LK at hk0;simp only at hk0;split at hk0<;>try cases hk0
  rename_i ab;have r:∀ {a:List Value} {y:Value} {q:List Value},a.drop i=y :: q->a[i]? = some y/\a.drop (i+1)=q:=fun {a y q} z=>by
   constructor
   .have:=List.getElem?_drop (xs:=a) (i:=i) (j:=0);rw [z] at this;simpa using this.symm
   .have:=List.drop_drop (i:=1) (j:=i) (l:=a);rw [z] at this;simpa [Nat.add_comm] using this.symm
  split at hk0<;>try cases hk0
  .rename_i v;obtain ⟨b,q,e,_,o⟩:=hx;obtain ⟨c,ac,g,_,p⟩:=hy;obtain ⟨t,h⟩:=r e;obtain ⟨u,m⟩:=r g;rw [<- h] at o;rw [<- m] at p;have x:=GZ d xs ys w fs (i+1) ks' hks (by simpa using hf) o p;rw [e,g];unfold Op.eqFields;simp only [ne_eq,aa,not_false_eq_true,if_true,Sem.run_bind,ab.1,K9 s t,K9 s u,Result.andThen_ok,run_equalIn_string w d f.type b c v,PC];by_cases n:b=c
   .subst n;simp only [decide_true,Bool.not_true,Bool.false_eq_true,if_false,x,F3,Bool.true_and,h,m]
   .simp [n,F3]
  .rename_i v;obtain ⟨b,q,e,_,o⟩:=hx;obtain ⟨c,ac,g,_,p⟩:=hy;obtain ⟨t,h⟩:=r e;obtain ⟨u,m⟩:=r g;rw [<- h] at o;rw [<- m] at p;have x:=GZ d xs ys w fs (i+1) ks' hks (by simpa using hf) o p;rw [e,g];unfold Op.eqFields;simp only [ne_eq,aa,not_false_eq_true,if_true,Sem.run_bind,ab.1,K9 s t,K9 s u,Result.andThen_ok,run_equalIn_int w d f.type .i64 .i64 b c v];by_cases n:b=c
   .subst n;simp only [beq_self_eq_true,Bool.not_true,Bool.false_eq_true,if_false,x,F3,decide_true,Bool.true_and,h,m]
   .simp [n,F3]
theorem QL {t:Nat} {ks:List Bool} (hk:JD P t=some ks) (hf:H9 P t=true) {xs ys:List Value} (hx:Pg ks xs) (hy:Pg ks ys) (w:World) :
  (Op.equalIn 10000 t (.agg ⟨xs⟩) (.agg ⟨ys⟩)).run P w = .ok (F3 xs ys) w:=by
 unfold JD at hk;unfold H9 at hf;split at hk<;>try cases hk
 rename_i b a;rw [a] at hf;rw [Option.bind_eq_some_iff] at hk;obtain ⟨e,d,hk⟩:=hk;split at hk<;>try cases hk
 simp only [Bool.and_eq_true,Bool.not_eq_true'] at hf;have c:P.fieldsOf t=b:=by unfold Program.fieldsOf;rw [a]
 rw [run_equalIn_struct w 9999 t ⟨xs⟩ ⟨ys⟩ (by rw [c];exact a) hf.1.2,c];have:=GZ 9998 xs ys w b.toList 0 ks d (by simpa using hf.1.1) (by simpa using hx) (by simpa using hy);simpa using this
theorem OI {t:Nat} (hf:H9 P t=true):P.eqGuardType P.depth t=false:=by
 unfold H9 at hf;split at hf<;>try cases hf
 simp only [Bool.and_eq_true,Bool.not_eq_true'] at hf;exact hf.2
theorem Js {t:Nat} {ks:List Bool} (hk:JD P t=some ks) (hf:H9 P t=true) {xs ys:List Value} (hx:Pg ks xs) (hy:Pg ks ys) {X Y:Operand} {w:World} {K:Value->World->Prop} (hK:K (.bool (!F3 xs ys)) w) :
  AB P (Bl .neq t X Y (.agg ⟨xs⟩) (.agg ⟨ys⟩)) w K:=by
 refine A6 ?_ hK;unfold Bl;rw [Sem.run_bind,run_eqGuard_agg w .neq t X Y _ _ (OI hf),Result.andThen_ok,run_neq_struct,QL hk hf hx hy];rfl
def Ur (P:Program) (t:Nat):Bool :=
 match P.underlying t with
 | some .bool=>true
 | _=>false
theorem WD {t:Nat} (h:Ur P t=true):P.underlying t=some .bool:=by
 unfold Ur at h;split at h<;>simp_all
theorem VD {t:Nat} (ht:Ur P t=true) {X Y:Operand} {a b:Bool} {w:World} {K:Value->World->Prop} (hK:K (.bool (!decide (a=b))) w) :
  AB P (Bl .neq t X Y (.bool a) (.bool b)) w K:=by
 refine A6 ?_ hK;have e:=WD ht;have:(a == b)=decide (a=b):=by cases a<;>cases b<;>rfl
 have c:(Op.equal t (.bool a) (.bool b)).run P w = .ok (a == b) w:=run_equalIn_bool w 9999 t a b e;have d:(eqGuard .neq t X Y (.bool a) (.bool b)).run P w = .ok () w:=by simp [eqGuard]
 unfold Bl;rw [Sem.run_bind,d,Result.andThen_ok];simp only [binOp,Sem.run_bind,c,Result.andThen_ok,this];rfl
theorem Sx {t:Nat} (ht:Ur P t=true) {X Y:Operand} {a b:Bool} {w:World} {K:Value->Prop} (hK:K (.bool (!decide (a=b)))) :
  BQ P (Bl .neq t X Y (.bool a) (.bool b)) w K:=Eh (fun _ _=>VD ht ⟨rfl,rfl⟩) hK
end
end
section
open Go Go.RowKit Go.ChangeShapes Go.WideShapes
section
variable {H:Type} {enc:TypeId×Value->H} {P:Program}
theorem LS {W W':World} (hl:laidOutB P=true) (hb:AD W W'):∀ (ts:List TypeId) (vs:List Value) (ds:List (DataW H)) (ps:List MemPlace),(ts.all fun t=>P.readableRec t && decide (t<P.types.size))=true ->
  DataW.TrodAll enc P W 0 (fun _=>true) true ts vs ds ps->DataW.TrodAll enc P W' 0 (fun b=>decide (b<W.heap.size)) true ts vs ds ps
 | [],vs,ds,ps,_,h=>by obtain ⟨rfl,rfl,rfl⟩:=trodAll_nil h;exact trodAll_mk0
 | t :: ts,vs,ds,ps,hr,h=>by
  obtain ⟨n,j,l,c,m,i,rfl,rfl,rfl,a,d⟩:=trodAll_cons h;simp only [List.all_cons,Bool.and_eq_true,decide_eq_true_eq] at hr;refine trodAll_cons_mk (Below.trod hl hr.1.1 hr.1.2 a hb ?_) (LS hl hb ts j c i hr.2 d);obtain ⟨g,e⟩:=a;exact fun k f=>DataW.trod_lt g _ _ _ e k f
theorem YU {W:World} {base:Nat} {spare:Nat->Bool} {held:Bool} {t fuel:Nat} {ks:List Bool} (hk:JD P t=some ks) {cs:List Value} {x:DataW H×List MemPlace} (h:DataW.trod enc P W base spare held fuel t cs=some x):Pg ks cs:=by
 unfold JD at hk;split at hk<;>try cases hk
 rename_i c s;rw [Option.bind_eq_some_iff] at hk;obtain ⟨ad,k,hk⟩:=hk;split at hk<;>try cases hk
 rename_i r;obtain ⟨z,ae,_,_,q,ab,n⟩:=DataW.trod_struct s h;refine aE3 (by rw [q,r]) fun a ac j=>?_;have aa:a<ks.length:=(List.getElem?_eq_some_iff.1 j).1;have g:ks.length=c.toList.zipIdx.length:=mapM_some_length k;have o:c.toList.zipIdx[a]? = some (c.toList[a]'(by simp at g;simp;omega),a):=by
  rw [List.getElem?_zipIdx];simp
 have b:=mapM_some_get k a _ o;rw [j] at b;have p:c[a]? = some (c.toList[a]'(by simp at g;simp;omega)):=sI
 have d:=n a _ p;unfold LK at b;simp only at b;split at b<;>try cases b
 rename_i l;rw [l.1,l.2] at d;have u:∃ m,z[a]? = some m:=⟨_,List.getElem?_eq_getElem (by simp at g;omega)⟩;obtain ⟨m,v⟩:=u;rw [v] at d;split at b<;>try cases b
 .rename_i i;obtain ⟨y,e,_,f⟩:=DataW.trod_string i d;exact ⟨_,e,y,rfl,f⟩
 .rename_i i;obtain ⟨w,e,_,f⟩:=DataW.trod_int i d;exact ⟨_,e,w,rfl,WN f⟩
end
end
section
open Go Go.RowKit
variable {P:Program} {A B:Prop} {T:HS} {n:Nat} {ops:Array Oper} {K:Fr->World->Prop} {f:Fr} {w:World} {Q:Exit->Act->World->Prop}
inductive OT where
 | leaf:OT
 | stop:OT
 | mv (i:Nat) (t:OT):OT
 | alt (i:Nat) (t u:OT):OT
def OT.heads:OT->List Nat
 | .alt i _ u=>i :: u.heads
 | _=>[]
def Vt (ops:Array Oper):OT->Bool->Nat->Array Bool->Bool
 | .leaf,top,k,listed=>top && Nat.beq k 0 && (Region.ready .any ops listed).isEmpty
 | .stop,top,_,_=>!top
 | .mv i t,top,k,listed=>top && Nat.blt 0 k && aL5 ops.toList i && Region.free .any ops listed i && (Region.ready .any ops listed).contains i && Vt ops t true (k - 1) (listed.setIfInBounds i true)
 | .alt i t u,top,k,listed=>(!top || (i :: u.heads) == Region.ready .any ops listed) && Nat.blt 0 k && Vt ops t true (k - 1) (listed.setIfInBounds i true) && Vt ops u false k listed
def OT.ok (ops:Array Oper) (t:OT):Bool:=Region.noSelect ops && Vt ops t true ops.size (Array.replicate ops.size false)
@[irreducible] def Dd (A B:Prop):Prop:=A/\B
theorem Dd.mk (h:A) (k:B):Dd A B:=by unfold Dd;exact ⟨h,k⟩
theorem Dd.one (h:A):Dd A True:=Dd.mk h trivial
theorem Dd.out (h:Dd A B):A/\B:=by unfold Dd at h;exact h
def W1 (P:Program) (T:HS) (n:Nat) (all:List Oper) (i:Nat) (K:Fr->World->Prop) (f:Fr) (w:World):Prop :=
 match all[i]? with
 | some o=>EU all o f (fun f=>Fl P T n o f w K) (fun f=>Cq o.dst f undef fun f=>K f w)
 | none=>False
noncomputable def NX (P:Program) (T:HS) (n:Nat) (all:List Oper) (t:OT):Fr->World->(Fr->World->Prop)->Prop :=
 OT.rec (motive:=fun _=>Fr->World->(Fr->World->Prop)->Prop)
  (fun f w K=>K f w)
  (fun _ _ _=>True)
  (fun i _ ih f w K=>W1 P T n all i (fun f w=>ih f w K) f w)
  (fun i _ _ iht ihu f w K=>Dd (W1 P T n all i (fun f w=>iht f w K) f w) (ihu f w K)) t
theorem W0 (hT:T.fok P=true) (hok:DL n ops=true) {i:Nat} (h:W1 P T n ops.toList i K f w)
 {L:Act->World->Prop} (hL:∀ f w,K f w->L (A3 n f) w):wpOp P ops Q i L (A3 n f) w:=by
 unfold W1 at h;unfold wpOp;split at h
 .rename_i e c;have g:ops[i]? = some e:=by simpa using c
  have d:DH n ops e=true:=by
   unfold DL at hok;rw [List.all_eq_true] at hok;exact hok _ (List.mem_of_getElem? c)
  have a:=Cg d h;simp only [g];split
  .rename_i b;rw [if_pos b] at a;exact .inl (CN hT d a hL)
  .rename_i b;rw [if_neg b,AY] at a;rw [BL];exact hL _ _ a
 .exact h.elim
theorem HT (hT:T.fok P=true) (hok:DL n ops=true) (hs:Region.noSelect ops=true)
  (hP:∀ c a w,¬ Q (.panic c) a w) (hQ:∀ f w,K f w->Q .normal (A3 n f) w):∀ (t:OT) (top:Bool) (k:Nat) (listed:Array Bool) (f:Fr) (w:World),Vt ops t top k listed=true->NX P T n ops.toList t f w K ->
   (top=true->wpAny P .any ops Q k listed (A3 n f) w)/\(top=false->∀ i∈t.heads,wpOp P ops Q i (wpAny P .any ops Q (k - 1) (listed.setIfInBounds i true)) (A3 n f) w)
 | .leaf,top,k,listed,f,w,hB,h=>by
  simp only [Vt,Bool.and_eq_true,List.isEmpty_iff] at hB;obtain ⟨⟨rfl,hk⟩,hr⟩:=hB;obtain rfl:=Nat.eq_of_beq_eq_true hk;exact ⟨fun _=>wpAny_done hr (hQ _ _ h) _,fun h=>by cases h⟩
 | .stop,top,k,listed,f,w,hB,h=>by
  exact ⟨fun h=>(by subst h;cases hB),fun _ i ah=>(by cases ah)⟩
 | .mv i t,top,k,listed,f,w,hB,h=>by
  simp only [Vt,Bool.and_eq_true,Nat.blt_eq] at hB;obtain ⟨⟨⟨⟨⟨rfl,hk⟩,m⟩,af⟩,hr⟩,z⟩:=hB;refine ⟨fun _=>?_,fun h=>by cases h⟩;obtain ⟨k,rfl⟩:∃ p,k=p+1:=⟨k - 1,om⟩;have ai:i∈Region.ready .any ops listed:=by simpa using hr
  obtain ⟨_,d,q,_⟩:=mem_ready.1 ai;have l:ops.toList[i]? = some d:=by simpa using q
  have aj:aE2 d=true:=by
   unfold aL5 at m;rw [l] at m;exact m
  obtain ⟨e,o,s⟩:=Yy aj;have v:DH n ops d=true:=by
   unfold DL at hok;rw [List.all_eq_true] at hok;exact hok _ (List.mem_of_getElem? l)
  have ae:(A3 n f).eval e=ev f e:=by
   simp only [DH,Bool.and_eq_true,List.all_eq_true] at v;exact Ae (v.1 e (by simp [o,Op.operands]))
  have an:Yields P ops d (ev f e) (A3 n f) := .inl ⟨by simp [Region.wanted,s],fun w=>by
   unfold execOp;simp only [o,ae];rfl⟩
  refine wpAny_take q hs af hr (fun c a w ak=>(hP _ _ _ ak).elim) an ?_;rw [BL];have b:W1 P T n ops.toList i (fun f w=>NX P T n ops.toList t f w K) f w:=h;have y:NX P T n ops.toList t (put f d.dst (ev f e)) w K:=by
   unfold W1 at b;rw [l] at b;simp only [EU,s,Fl,o,Nk] at b;rw [GI,AY] at b;exact b
  exact (HT hT hok hs hP hQ t true k _ _ w z y).1 rfl
 | .alt i t u,top,k,listed,f,w,hB,h=>by
  simp only [Vt,Bool.and_eq_true,Nat.blt_eq] at hB;obtain ⟨⟨⟨x,hk⟩,aa⟩,ab⟩:=hB;obtain ⟨k,rfl⟩:∃ p,k=p+1:=⟨k - 1,om⟩;have b:Dd (W1 P T n ops.toList i (fun f w=>NX P T n ops.toList t f w K) f w) (NX P T n ops.toList u f w K):=h;obtain ⟨ac,ad⟩:=b.out;have ag:wpOp P ops Q i (wpAny P .any ops Q (k+1 - 1) (listed.setIfInBounds i true)) (A3 n f) w :=
   W0 hT hok ac fun f w hk=>(HT hT hok hs hP hQ t true _ _ f w aa hk).1 rfl
  have al:=(HT hT hok hs hP hQ u false (k+1) listed f w ab ad).2 rfl;have r:∀ j∈(OT.alt i t u).heads,wpOp P ops Q j (wpAny P .any ops Q (k+1 - 1) (listed.setIfInBounds j true)) (A3 n f) w:=by
   intro j g;simp only [OT.heads,List.mem_cons] at g;rcases g with rfl | g
   .exact ag
   .exact al j g
  refine ⟨fun am=>?_,fun _=>r⟩;subst am;simp only [Bool.not_true,Bool.false_or,beq_iff_eq] at x;exact wpAny_all x.symm sI r
theorem Xp (hT:T.fok P=true) (hm:P.follows .mixedOrders=true) (t:OT) (hok:DL n ops=true) (hB:t.ok ops=true)
  (h:∀ w',AD w w'->NX P T n ops.toList t f w' K):Eo P n ops f w K:=by
 unfold Eo;intro e;simp only [OT.ok,Bool.and_eq_true] at hB;exact wp_region_any hm<|(HT hT hok hB.1 (fun d c w b=>b.elim) (fun f w a=>⟨f,rfl,a⟩) t true _ _ f _ hB.2 (h { w with drawn:=w.drawn+1 } ⟨rfl,rfl,rfl,Nat.le_refl _,fun _ _=>rfl⟩)).1 rfl
end
section
open Go Go.RowKit
variable {P:Program}
theorem AB.shr {t:Nat} {X Y:Operand} {a b:Int} {k k':IntKind} (hb:0<=b) {w:World} {K:Value->World->Prop} (hK:K (.int k (a.fdiv (2 ^ min b.toNat k.bits))) w) :
  AB P (Bl .shr t X Y (.int k a) (.int k' b)) w K:=by
 refine A6 ?_ hK;have c:¬ b<0:=om
 simp [Bl,CP,binOp,Op.shift,c]
theorem AB.shl {t:Nat} {X Y:Operand} {a b:Int} {k k':IntKind} (hb:0<=b) {w:World} {K:Value->World->Prop} (hK:K (.int k (k.wrap (a * 2 ^ min b.toNat k.bits))) w) :
  AB P (Bl .shl t X Y (.int k a) (.int k' b)) w K:=by
 refine A6 ?_ hK;have c:¬ b<0:=om
 simp [Bl,CP,binOp,Op.shift,c]
def FQ (k:IntKind) (a b:Int):Int:=k.wrap (BitVec.ofInt k.bits a &&& BitVec.ofInt k.bits b).toNat
def orV (k:IntKind) (a b:Int):Int:=k.wrap (BitVec.ofInt k.bits a ||| BitVec.ofInt k.bits b).toNat
def Jp (k:IntKind) (a b:Int):Int:=k.wrap (BitVec.ofInt k.bits a &&& ~~~(BitVec.ofInt k.bits b)).toNat
theorem AB.and {t:Nat} {X Y:Operand} {a b:Int} {k:IntKind} {w:World} {K:Value->World->Prop} (hK:K (.int k (FQ k a b)) w) :
  AB P (Bl .and t X Y (.int k a) (.int k b)) w K:=by
 refine A6 ?_ hK;simp [Bl,CP,binOp,Op.intBits,FQ]
theorem AB.or {t:Nat} {X Y:Operand} {a b:Int} {k:IntKind} {w:World} {K:Value->World->Prop} (hK:K (.int k (orV k a b)) w) :
  AB P (Bl .or t X Y (.int k a) (.int k b)) w K:=by
 refine A6 ?_ hK;simp [Bl,CP,binOp,Op.intBits,orV]
theorem AB.andNot {t:Nat} {X Y:Operand} {a b:Int} {k:IntKind} {w:World} {K:Value->World->Prop} (hK:K (.int k (Jp k a b)) w) :
  AB P (Bl .andNot t X Y (.int k a) (.int k b)) w K:=by
 refine A6 ?_ hK;simp [Bl,CP,binOp,Op.intBits,Jp]
theorem EZ {n:Int} (h0:0<=n) (h1:n<=18446744073709551615):IntKind.u64.wrap n=n:=by
 simp [IntKind.wrap,IntKind.bits,IntKind.signed];omega
theorem E5 {t:Nat} {X Y:Operand} {a:Nat} {k k':IntKind} (hk:1<=k.bits) {w:World} {K:Value->World->Prop} (hK:K (.int k ((a / 2:Nat):Int)) w) :
  AB P (Bl .shr t X Y (.int k (a:Int)) (.int k' 1)) w K:=by
 refine AB.shr om ?_;have b:((1:Int).toNat)=1:=rfl;rw [b,Nat.min_eq_left hk,Int.fdiv_eq_ediv_of_nonneg _ dE];exact hK
theorem jS {P:Program} {ty n:Nat} {w:World} {b t:Nat} {cs:List Value} (h:B8 w b cs t) {vs:List Value} (hn:vs.length=n) (hc:cs.length=n) (hv:∀ v∈vs,AM v=true) {K:Unit->World->Prop} (hK:∀ w',Oa b w w'->B8 w' b vs t->K () w') (hty:D1 P ty=some n:=by kernel_rfl):AB P (Instr.storeAt ty (.pointer (some ⟨b,0,none⟩)) (.agg ⟨vs⟩)) w K:=AX hty h hn hc hv hK
theorem jG {P:Program} {ty n:Nat} {w:World} {b o k:Nat} {vs:List Value} (h:AK w b o vs) (hn:((vs.drop k).take n).length=n) {K:Value->World->Prop} (hK:K (.agg ((vs.drop k).take n).toArray) w) (hty:D1 P ty=some n:=by kernel_rfl):AB P (Instr.loadAt ty (.pointer (some ⟨b,o+k,none⟩))) w K:=K0 hty h hn hK
end
end Go.Vc
namespace Go.M
open Go Go.Vc
variable {n m x:Int} {c r l:List Int} {d:List (List Int)} {i k:Nat} {b:Bool}
def FA (c:List Int):Bool:=decide (1<=c.length) && decide (c.length<=20) && c.all fun m=>Ey m 0 4095
def IF (d:List (List Int)) (i:Nat):Bool:=match d[i]? with | none=>false | some c=>FA c && decide (c.length=(d.headD []).length)
def A2 (d:List (List Int)):Bool:=(List.range d.length).all (IF d) && decide (d.length<=40)
def AJ (d:List (List Int)):Nat:=match d with | []=>20 | c :: _=>c.length
structure AE where
 from_:Int
 to_:Int
def AE.enc (f:AE):List Value:=[.int .i64 f.from_,.int .i64 f.to_]
def AE.ok (f:AE):Prop:=BH f.from_/\BH f.to_
def AR (f:AE) (n:Int):Bool:=decide (0<=f.from_) && decide (f.from_<f.to_) && decide (f.to_<=n)
def Ah (f:AE) (n:Int):Bool:=AR f n && decide (f.to_ - f.from_<=12)
def Ad (c:List Int) (f:AE):List Int:=(c.drop f.from_.toNat).take (f.to_.toNat - f.from_.toNat)
theorem Bc {f:AE} (h:AR f n=true):0<=f.from_/\f.from_<f.to_/\f.to_<=n:=by
 simp only [AR,Bool.and_eq_true,decide_eq_true_eq] at h;omega
theorem Bp (h:FA c=true):1<=c.length/\c.length<=20/\∀ m∈c,0<=m/\m<=4095:=by
 simp only [FA,Bool.and_eq_true,decide_eq_true_eq,List.all_eq_true] at h;exact ⟨h.1.1,h.1.2,fun m a=>Bx (h.2 m a)⟩
theorem ON (h:d[i]? = some c):IF d i=(FA c && decide (c.length=(d.headD []).length)):=by simp [IF,h]
theorem Am (h:A2 d=true):d.length<=40/\∀ c∈d,FA c=true/\c.length=AJ d:=by
 simp only [A2,Bool.and_eq_true,decide_eq_true_eq,List.all_eq_true,List.mem_range] at h;refine ⟨h.2,fun c a=>?_⟩;obtain ⟨e,b⟩:=List.mem_iff_getElem?.1 a;have:=h.1 e (List.getElem?_eq_some_iff.1 b).1;rw [ON b,Bool.and_eq_true,decide_eq_true_eq] at this;refine ⟨this.1,?_⟩;cases d with
 | nil=>simp at a
 | cons g f=>simpa [AJ] using this.2
theorem Ib (h:k<d.length) (hp:IF d k=false):A2 d=false:=by
 have:(List.range d.length).all (IF d)=false:=by
  rw [List.all_eq_false];exact ⟨k,List.mem_range.2 h,by simp [hp]⟩
 rw [A2,this];rfl
theorem EX (h:A2 d=true):1<=AJ d/\AJ d<=20:=by
 cases d with
 | nil=>simp [AJ]
 | cons a b =>
  have:=Bp ((Am h).2 a sI).1;exact ⟨this.1,this.2.1⟩
theorem MA {f:AE} (h:AR f c.length=true):(Ad c f).length=f.to_.toNat - f.from_.toNat:=by
 have:=Bc h;simp [Ad];omega
theorem L9 {f:AE} (h:m∈Ad c f):m∈c:=List.mem_of_mem_drop (List.mem_of_mem_take h)
def CG (r:Int):Int:=if r=12 then 1 else if r=11 then 2 else if 0<=r/\r<=9 then 4 * 2 ^ r.toNat else 0
theorem Wj {r:Int} (h0:0<=r) (h9:r<=9):IntKind.i64.wrap (4 * 2 ^ min r.toNat IntKind.i64.bits)=CG r:=by
 obtain ⟨a,rfl⟩:∃ a:Nat,r=a:=⟨r.toNat,om⟩;have b:a<10:=om
 have c:∀ a:Fin 10,IntKind.i64.wrap (4 * 2 ^ min a.val IntKind.i64.bits)=CG (a.val:Int):=by decide +kernel
 exact c ⟨a,b⟩
def B6 (m:Int):Int:=match (List.range 10).find? (fun (d:Nat)=>decide (CG (d:Int)=m)) with | some d=>(d:Int) | none=>-1
def Dw (m:Int):Bool:=decide (m / 2 % 2=1)
def DS (m:Int):Int:=if Dw m=true then m - 2 else m
theorem aL7 (h0:0<=m) (h1:m<=4095):FQ .i64 m 2=if Dw m=true then 2 else 0:=by
 obtain ⟨a,rfl⟩:∃ a:Nat,m=a:=⟨m.toNat,om⟩;have g:a<4096:=om
 have f:∀ c d:Fin 64,FQ .i64 ((c.val * 64+d.val:Nat):Int) 2=if Dw ((c.val * 64+d.val:Nat):Int)=true then 2 else 0:=by decide +kernel
 have b:=f ⟨a / 64,om⟩ ⟨a % 64,om⟩;have e:a / 64 * 64+a % 64=a:=om
 dsimp only at b;rw [e] at b;exact b
theorem aF5 (h0:0<=m) (h1:m<=4095):Jp .i64 m 2=DS m:=by
 obtain ⟨a,rfl⟩:∃ a:Nat,m=a:=⟨m.toNat,om⟩;have g:a<4096:=om
 have f:∀ c d:Fin 64,Jp .i64 ((c.val * 64+d.val:Nat):Int) 2=DS ((c.val * 64+d.val:Nat):Int):=by decide +kernel
 have b:=f ⟨a / 64,om⟩ ⟨a % 64,om⟩;have e:a / 64 * 64+a % 64=a:=om
 dsimp only at b;rw [e] at b;exact b
theorem YM (h0:0<=m) (h1:m<=4095):0<=DS m/\DS m<=4095:=by
 unfold DS Dw;split
 .rename_i a;have:=of_decide_eq_true a;omega
 .omega
theorem Kw (m:Int) : -1<=B6 m/\B6 m<=9:=by
 unfold B6;split
 .rename_i b a;have:=List.mem_of_find?_eq_some a;simp at this;omega
 .omega
theorem O8:B6 0 = -1:=by simp [B6,List.range,List.range.loop,CG]
def B5 (s:Option (Int×Bool)) (m:Int):Option (Int×Bool) :=
 match s with
 | none=>none
 | some (n,b)=>if m=0/\b=false then some (n,b) else if B6 m<0 then none else some (10 * n+B6 m,true)
def Ec (l:List Int):Option Int :=
 match l.getLast? with
 | none=>some 0
 | some m =>
  if Dw m=true then
   match l.dropLast.foldl B5 (some (0,false)) with
   | none=>none
   | some (n,_)=>if B6 (DS m)<0 then none else if 10 * n+B6 (DS m)=0 then none else some (-(10 * n+B6 (DS m)))
  else
   match l.foldl B5 (some (0,false)) with
   | none=>none
   | some (n,_)=>some n
theorem HX (l:List Int):l.foldl B5 none=none:=by
 induction l with
 | nil=>rfl
 | cons b l a=>simpa [B5] using a
theorem D9 (n:Int) (b:Bool) (m:Int):B5 (some (n,b)) m=if m=0/\b=false then some (n,b) else if B6 m<0 then none else some (10 * n+B6 m,true):=rfl
theorem LF:∀ (l:List Int) (n:Int) (b:Bool) (k:Nat),0<=n->n<10 ^ k->∀ n' b',l.foldl B5 (some (n,b))=some (n',b')->0<=n'/\n'<10 ^ (k+l.length)
 | [],n,b,k,h0,h1,n',b',h=>by
  simp at h;rw [<- h.1];exact ⟨h0,by simpa using h1⟩
 | m :: l,n,b,k,h0,h1,n',b',h=>by
  have hd:=Kw m;rw [List.foldl_cons] at h;rw [D9] at h;have a:k+(m :: l).length=(k+1)+l.length:=sW
  rw [a];have c:(10:Int) ^ (k+1)=10 ^ k * 10:=by rw [Int.pow_succ]
  split at h
  .exact LF l n b (k+1) h0 om n' b' h
  .split at h
   .rw [HX] at h;cases h
   .exact LF l _ true (k+1) om om n' b' h
def DI (l:List Int):Int×Bool:=match Ec l with | none=>(0,false) | some n=>(n,true)
theorem Ml:∀ (l:List Int) (n':Int),l.foldl B5 (some (0,false))=some (n',false)->n'=0/\∀ m∈l,m=0
 | [],n',h=>by simp at h;exact ⟨h.symm,sI⟩
 | m :: l,n',h=>by
  rw [List.foldl_cons] at h;rw [D9] at h;split at h
  .rename_i h1;obtain ⟨h2,h3⟩:=Ml l n' h;refine ⟨h2,fun c a=>?_⟩;rcases List.mem_cons.1 a with rfl | a
   .exact h1.1
   .exact h3 c a
  .split at h
   .rw [HX] at h;cases h
   .exfalso;have e:∀ (l:List Int) (b:Int) (n':Int),l.foldl B5 (some (b,true))≠some (n',false):=by
     intro l;induction l with
     | nil=>intro b n' h;simp at h
     | cons c l d =>
      intro b n' h;rw [List.foldl_cons] at h;rw [D9] at h;simp only [Bool.true_eq_false,and_false,if_false] at h;split at h
      .rw [HX] at h;cases h
      .exact d _ _ h
    exact e _ _ _ h
theorem Mk:∀ l:List Int,(∀ m∈l,m=0)->l.foldl B5 (some (0,false))=some (0,false)
 | [],_=>rfl
 | m :: l,h=>by
  rw [List.foldl_cons,h m sI];simp only [B5,and_self,if_true];exact Mk l fun x hx=>h x (by simp [hx])
theorem Hy (q : List Int) (m : Int) : Ec (q ++ [m]) = if Dw m = true then
      match q.foldl B5 (some (0,false)) with
      | none=>none
      | some (n,_)=>if B6 (DS m)<0 then none else if 10 * n+B6 (DS m)=0 then none else some (-(10 * n+B6 (DS m)))
  else
   match B5 (q.foldl B5 (some (0,false))) m with
   | none=>none
   | some (n,_)=>some n:=by
 unfold Ec;simp
def LD (l:List Int) (m:Int):Int×Bool :=
 match (l++[DS m]).foldl B5 (some (0,false)) with
 | none=>(0,false)
 | some (n,b)=>if b=false\/DS m=0\/(Dw m=true/\n=0) then (0,false) else (if Dw m=true then -n else n,true)
theorem Zn (q:List Int) (m:Int) (h0:¬ ∀ x∈q++[m],x=0):LD q m=DI (q++[m]):=by
 unfold LD DI;rw [Hy,List.foldl_append];simp only [List.foldl_cons,List.foldl_nil];cases l:q.foldl B5 (some (0,false)) with
 | none =>
  simp only [B5];by_cases d:Dw m=true<;>simp [d]
 | some n =>
  obtain ⟨i,f⟩:=n;by_cases d:Dw m=true
  .simp only [d,if_true,true_and];by_cases a:B6 (DS m)<0
   .simp only [a,if_true];rw [D9];by_cases b:DS m=0/\f=false
    .rw [if_pos b];simp [b.2]
    .rw [if_neg b,if_pos a]
   .have g:¬ DS m=0:=fun c=>a (by rw [c,O8];decide);simp only [a,if_false];rw [D9];rw [if_neg (fun c=>g c.1),if_neg a];dsimp only;by_cases h:10 * i+B6 (DS m)=0
    .simp [h]
    .simp [h,g]
  .have j:DS m=m:=by simp [DS,d]
   rw [j];simp only [d,Bool.false_eq_true,if_false,false_and,or_false];by_cases b:m=0/\f=false
   .exfalso;apply h0;have:=Ml q i (by rw [l,b.2]);intro x e;rcases List.mem_append.1 e with e | e
    .exact this.2 x e
    .rw [List.mem_singleton.1 e];exact b.1
   .rw [D9];rw [if_neg b];by_cases a:B6 m<0
    .rw [if_pos a]
    .have k:¬ m=0:=fun c=>a (by rw [c,O8];decide);rw [if_neg a];simp [k]
theorem Zm (h:∀ x∈l,x=0):DI l=(0,true):=by
 unfold DI Ec;cases b:l.getLast? with
 | none=>rfl
 | some a =>
  have c:a=0:=h a (List.mem_of_getLast? b);subst c;have d:Dw 0=false:=dE
  simp only [d,Bool.false_eq_true,if_false];rw [Mk l h]
theorem Tc (hk:k<10) (h1:∀ j:Nat,j<k->CG (j:Int)≠m) (h2:CG (k:Int)=m):B6 m=k:=by
 have:(List.range 10).find? (fun (a:Nat)=>decide (CG (a:Int)=m))=some k:=by
  rw [List.find?_eq_some_iff_getElem];refine ⟨by simp [h2],k,by simpa using hk,sI,fun j b=>?_⟩;simp only [List.getElem_range,Bool.not_eq_true',decide_eq_false_iff_not];exact h1 j b
 unfold B6;rw [this]
theorem O9 (h1:∀ j:Nat,j<10->CG (j:Int)≠m):B6 m = -1:=by
 have:(List.range 10).find? (fun (a:Nat)=>decide (CG (a:Int)=m))=none:=by
  rw [List.find?_eq_none];intro j b;simp [h1 j (by simpa using b)]
 unfold B6;rw [this]
theorem Pz {r:Int} (h:r=12):CG r=1:=by simp [CG,h]
theorem NQ {r:Int} (h:r=11):CG r=2:=by simp [CG,h]
theorem YJ {r:Int} (h1:¬ r=12) (h2:¬ r=11) (h3:Ey r 0 9=false):CG r=0:=by
 unfold CG;rw [if_neg h1,if_neg h2,if_neg];intro a;simp [Ey,a] at h3
theorem aB3 {p:Int->Bool} (hx:l[k]? = some x) (h:(l.take k).all p=true) (hp:p x=true):(l.take (k+1)).all p=true:=by
 rw [List.take_add_one,hx,Option.toList_some,List.all_append,h];simp [hp]
theorem ZF (h:c[k]? = some m) (hm:Ey m 0 4095=false):FA c=false:=by
 unfold FA;have:(c.all fun m=>Ey m 0 4095)=false:=by
  rw [List.all_eq_false];exact ⟨m,List.mem_of_getElem? h,by simp [hm]⟩
 rw [this,Bool.and_false]
theorem ZG (h:(c.all fun m=>Ey m 0 4095)=true):FA c=Ey c.length 1 20:=by
 unfold FA;rw [h,Bool.and_true];unfold Ey;congr 1
 .exact decide_eq_decide.2 om
 .exact decide_eq_decide.2 om
theorem NP {x:List Int} (h:d[i]? = some c) (hx:d[0]? = some x):IF d i=(FA c && decide (c.length=x.length)):=by
 rw [ON h];cases d with
 | nil=>simp at hx
 | cons b a=>simp at hx;subst hx;rfl
theorem Te (h:(List.range d.length).all (IF d)=true):A2 d=decide (d.length<=40):=by simp [A2,h]
theorem LC (h:l.foldl B5 (some (0,false))=some (n,b)) (hl:l.length<=12):0<=n/\n<1000000000000:=by
 have e:=LF l 0 false 0 om sI n b h;have d:∀ c:Fin 13,(10:Int) ^ c.val<=1000000000000:=dE
 have a:=d ⟨0+l.length,om⟩;dsimp only at a;omega
theorem TV (hx:l[i]? = some x) (s:Option (Int×Bool)):(l.take (i+1)).foldl B5 s=B5 ((l.take i).foldl B5 s) x:=by
 rw [List.take_add_one,hx,Option.toList_some,List.foldl_append];rfl
theorem TW (h:(l.take i).foldl B5 (some (0,false))=none):l.foldl B5 (some (0,false))=none:=by
 have:l=l.take i++l.drop i:=(List.take_append_drop i l).symm;rw [this,List.foldl_append,h,HX]
theorem Uc (h:(r++[DS m]).foldl B5 (some (0,false))=none):LD r m=(0,false):=by
 unfold LD;rw [h]
theorem Ub (h:(r++[DS m]).foldl B5 (some (0,false))=some (n,b)):LD r m=if b=false\/DS m=0\/(Dw m=true/\n=0) then (0,false) else (if Dw m=true then -n else n,true):=by
 unfold LD;rw [h]
theorem Ua (hm:Dw m=true) (h:r.foldl B5 (some (0,false))=some (n,b)):DI (r++[m])=if B6 (DS m)<0 then (0,false) else if 10 * n+B6 (DS m)=0 then (0,false) else (-(10 * n+B6 (DS m)),true):=by
 unfold DI;rw [Hy,if_pos hm,h];dsimp only;by_cases a:B6 (DS m)<0
 .simp [a]
 .by_cases c:10 * n+B6 (DS m)=0
  .simp [a,c]
  .simp [a,c]
theorem UZ (hm:Dw m=false) (h:(r++[m]).foldl B5 (some (0,false))=some (n,b)):DI (r++[m])=(n,true):=by
 rw [List.foldl_append] at h;unfold DI;rw [Hy,if_neg (by simp [hm])];simp only [List.foldl_cons,List.foldl_nil] at h;rw [h]
theorem XO (h:r.foldl B5 (some (0,false))=none):DI (r++[m])=(0,false):=by
 unfold DI;rw [Hy,h];by_cases a:Dw m=true<;>simp [a,B5]
theorem Vz (hm:Dw m=false) (h:(r++[m]).foldl B5 (some (0,false))=none):DI (r++[m])=(0,false):=by
 rw [List.foldl_append] at h;unfold DI;rw [Hy,if_neg (by simp [hm])];simp only [List.foldl_cons,List.foldl_nil] at h;rw [h]
end Go.M
