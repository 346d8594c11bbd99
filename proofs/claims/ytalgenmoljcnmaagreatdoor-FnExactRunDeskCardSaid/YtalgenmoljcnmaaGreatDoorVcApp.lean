/- Parts of the proof; no conditions of its own. -/
import Derived.Laws.AppendOwn
import Derived.Maps.AppendAt
import Derived.Laws.Small
import Derived.Lib.ConvBytes
import Derived.Lib.AtoiErrMem
import Derived.WideLaws
import Derived.Lib.AppendStr
import Derived.Laws.StructEq
import Derived.RowKit3
import Derived.ChangeArms
import Derived.ProofKit
import Derived.OpenShut
import Derived.ChangeOld
import Derived.Deep.Slices
import Derived.Test.YtalgenmoljcnmaaGreatDoorVcCore
namespace Go.Vc
open Go Go.RowKit
def Ai {α:Type} (enc:α->List Value) (sz B e:Nat) (w:World) (a:Option Addr) (n c:Nat) (xs:List α):Prop :=
 xs.length=n/\w.ownsRow B e sz (.slice a n c) n (BD enc xs)
theorem Ai.nil {α:Type} {enc:α->List Value} {sz B e:Nat} {w:World}:Ai enc sz B e w none 0 0 ([]:List α):=⟨rfl,World.ownsRow_nil w B e sz⟩
theorem Ai.kept {α:Type} {enc:α->List Value} {sz B e:Nat} {w w':World} {a:Option Addr} {n c:Nat} {xs:List α} (h:Ai enc sz B e w a n c xs) (hb:∀ x,a=some x->w'.heap[x.block]? = w.heap[x.block]?):Ai enc sz B e w' a n c xs:=by
 obtain ⟨j,k,b⟩:=h;refine ⟨j,k,?_⟩;rcases b with b | ⟨i,f,g,d,l,m,rest⟩
 .exact .inl b
 .refine .inr ⟨i,f,g,d,l,?_,rest⟩;simp only [Value.slice.injEq] at d;have:=hb _ d.1;simp only at this;rw [this];exact m
theorem Ai.blk_lt {α:Type} {enc:α->List Value} {sz B e:Nat} {w:World} {a:Option Addr} {n c:Nat} {xs:List α} (h:Ai enc sz B e w a n c xs):∀ x,a=some x->B<=x.block/\x.block<w.heap.size:=by
 intro x d;rcases h.2.2 with ⟨b,_⟩ | ⟨k,i,j,b,f,g,rest⟩
 .simp only [Value.slice.injEq] at b;rw [d] at b;cases b.1
 .simp only [Value.slice.injEq] at b;rw [d] at b;have:=Option.some.inj b.1;subst this;exact ⟨f,(Array.getElem?_eq_some_iff.1 g).1⟩
theorem Ai.ext {α:Type} {enc:α->List Value} {sz B e:Nat} {w w':World} {a:Option Addr} {n c:Nat} {xs:List α} (h:Ai enc sz B e w a n c xs) (x:AD w w'):Ai enc sz B e w' a n c xs :=
 h.kept fun d b=>x.block _ (h.blk_lt d b).2
theorem Ai.mod {α:Type} {enc:α->List Value} {sz B e:Nat} {S:Nat->Prop} {w w':World} {a:Option Addr} {n c:Nat} {xs:List α} (h:Ai enc sz B e w a n c xs) (x:BY S w w') (hs:∀ y,a=some y->¬ S y.block):Ai enc sz B e w' a n c xs :=
 h.kept fun y b=>x.block _ (hs y b) (h.blk_lt y b).2
theorem Ai.new {α:Type} {enc:α->List Value} {sz B e:Nat} {w:World} {a:Option Addr} {n c:Nat} {xs:List α} (h:Ai enc sz B e w a n c xs):Ad B a:=fun d b=>(h.blk_lt d b).1
theorem Ai.len {α:Type} {enc:α->List Value} {sz B e:Nat} {w:World} {a:Option Addr} {n c:Nat} {xs:List α} (h:Ai enc sz B e w a n c xs):xs.length=n:=h.1
theorem Ai.le {α:Type} {enc:α->List Value} {sz B e:Nat} {w:World} {a:Option Addr} {n c:Nat} {xs:List α} (h:Ai enc sz B e w a n c xs):n<=c/\n<=9223372036854775807:=by
 rcases h.2.2 with ⟨b,m⟩ | ⟨i,f,g,b,k,l,j,d,rest⟩
 .simp only [Value.slice.injEq] at b;omega
 .simp only [Value.slice.injEq] at b;simp only [maxLen] at d;omega
theorem Ai.own {α:Type} {enc:α->List Value} {sz B e:Nat} {w:World} {a:Option Addr} {n c:Nat} {xs:List α} (h:Ai enc sz B e w a n c xs):Bw enc w a n e xs:=by
 refine ⟨h.1,h.le.2,?_⟩;rcases h.2.2 with ⟨b,j⟩ | ⟨f,k,d,b,p,i,l,m,o,g⟩
 .simp only [Value.slice.injEq] at b;exact .inl ⟨b.1,j⟩
 .simp only [Value.slice.injEq] at b;refine .inr ⟨f,d.toList.drop (n * sz),b.1,?_⟩;unfold CD;rw [i,<- g,List.take_append_drop]
theorem AG {α:Type} {enc:α->List Value} {sz B e:Nat} (he:∀ x,(enc x).length=sz) {w:World} {b n:Nat} {xs:List α} (h:CD w b (BD enc xs) e) (hB:B<=b) (hn:xs.length=n) (hm:n<=9223372036854775807):Ai enc sz B e w (some ⟨b,0,none⟩) n n xs:=by
 refine ⟨hn,by rw [B0 he,hn],.inr ⟨b,n,_,rfl,hB,h,Nat.le_refl _,by simp only [maxLen];omega,?_,?_⟩⟩
 .simp [B0 he,hn]
 .have:=B0 he xs;rw [hn] at this;simp only [<- this];exact List.take_length
section
variable {P:Program}
theorem BR {α:Type} {enc:α->List Value} {t e by_ B:Nat} {zs:List Value} (ht:Cq P t=some (e,zs,by_)) (he:∀ x,(enc x).length=zs.length) {w:World} {a:Option Addr} {n c:Nat} {xs:List α} (h:Ai enc zs.length B e w a n c xs)
  {b o m c':Nat} {ys:List α} (hy:AK w b o (BD enc ys)) (hl:ys.length=m) (hc:∀ v∈BD enc ys,AE v=true) (hsm:n+m<=1099511627776) (hby:(n+m) * by_<=140737488355328) (hB:B<=w.heap.size) {ty:Nat} {cs:Array Bool} {K:Next->World->Prop}
  (hK:∀ a' c' w',Ai enc zs.length B e w' a' (n+m) c' (xs++ys)->BY (AN a) w w'->(∀ k,AN a' k->AN a k\/k=w.heap.size)->K (.value (.slice a' (n+m) c')) w') :
  AB P (builtin .append #[t,t] ty cs #[.slice a n c,.slice (some ⟨b,o,none⟩) m c']) w K:=by
 obtain ⟨s,ap,j,ab,ak,al,z,q,av⟩:=FF ht;have r:zs.length=s.size:=by rw [<- al];simp [q]
 obtain ⟨u,y⟩:=h;have aa:(BD enc ys).length=m * zs.length:=by rw [B0 he,hl]
 have ag:∀ v:Value,AE v=true->v.oneCell'=true:=by
  intro v ai;cases v<;>first | rfl | cases ai
 obtain ⟨an,w',ah,p,f,_,d⟩:=run_append_own_at (P:=P) w B t ty e s ap zs.length by_ j ab ak r.symm z (by rw [q,r]) om (.slice a n c) n (BD enc xs) y ⟨b,o,none⟩ m c' (BD enc ys) aa
  (fun am g ac=>by rw [Cu];exact hy am g ac) (fun g j=>ag g (hc g j)) (by simp only [maxLen];omega) hby hB
 have aj:∃ a' c',an = .slice a' (n+m) c':=by
  rcases p.2 with ⟨rfl,af⟩ | ⟨au,aq,ar,rfl,_⟩
  .exact ⟨none,0,by rw [af]⟩
  .exact ⟨_,_,rfl⟩
 obtain ⟨a',l,rfl⟩:=aj;refine A1 (v := .value (.slice a' (n+m) l)) (w':=w') ?_ (hK a' l w' ⟨by simp [u,hl],by rw [FJ];exact p⟩ ?_ ?_)
 .simp only [builtin,Sem.run_bind,ah,Result.andThen_ok];rfl
 .refine ⟨f.os,f.tape,f.output,f.size,fun k ad ae=>f.block k ae fun i=>ad ?_⟩;cases a with
  | none=>simp [Value.ownBlock] at i
  | some x =>
   simp only [Value.ownBlock,Option.some.injEq] at i;exact ⟨x,rfl,i⟩
 .rintro k ⟨x,rfl,rfl⟩;simp only [Value.ownBlock] at d;rcases d with d | d
  .cases a with
   | none=>cases d
   | some ao =>
    simp only [Option.some.injEq] at d;exact .inl ⟨ao,rfl,d⟩
  .simp only [Option.some.injEq] at d;exact .inr d
theorem AB.append {α:Type} {enc:α->List Value} {t e by_ B:Nat} {zs:List Value} (ht:Cq P t=some (e,zs,by_)) (he:∀ x,(enc x).length=zs.length) {w:World} {a:Option Addr} {n c:Nat} {xs:List α} (h:Ai enc zs.length B e w a n c xs)
  {b o m c':Nat} {ys:List α} (hy:AK w b o (BD enc ys)) (hl:ys.length=m) (hc:∀ v∈BD enc ys,AE v=true) (hsm:n+m<=1099511627776) (hby:(n+m) * by_<=140737488355328) (hB:B<=w.heap.size) {ty:Nat} {cs:Array Bool} {K:Next->World->Prop}
  (hK:∀ a' c' w',Ai enc zs.length B e w' a' (n+m) c' (xs++ys)->BY (AN a) w w'->K (.value (.slice a' (n+m) c')) w') :
  AB P (builtin .append #[t,t] ty cs #[.slice a n c,.slice (some ⟨b,o,none⟩) m c']) w K :=
 BR ht he h hy hl hc hsm hby hB fun a' c' w' d f _=>hK a' c' w' d f
theorem Jb {α:Type} {enc:α->List Value} {t e by_ B:Nat} {zs:List Value} (ht:Cq P t=some (e,zs,by_)) {w:World} {a:Option Addr} {n c:Nat} {xs:List α} (h:Ai enc zs.length B e w a n c xs) {c':Nat} {ty:Nat} {cs:Array Bool} {K:Next->World->Prop}
  (hK:K (.value (.slice a n c)) w):AB P (builtin .append #[t,t] ty cs #[.slice a n c,.slice none 0 c']) w K:=by
 obtain ⟨m,p,f,b,k,l,g,j,i⟩:=FF ht;refine A1 ?_ hK;have d:=h.le.1;cases a with
 | none=>simp [builtin,Builtin.append_,run_underlying f,sizeOf,typeInfo,b,Builtin.lenOf,d,Builtin.firstCells]
 | some o=>simp [builtin,Builtin.append_,run_underlying f,sizeOf,typeInfo,b,Builtin.lenOf,d,Builtin.firstCells,storeCells]
theorem A4.cells {α:Type} {enc:α->List Value} {sz:Nat} (he:∀ x,(enc x).length=sz) {w:World} {b o:Nat}:∀ {xs:List α} {k n:Nat},(∀ i x,xs[i]? = some x->AK w b (o+(k+i) * sz) (enc x))->xs.length=n->AK w b (o+k * sz) (BD enc xs)
 | [],k,n,_,_=>by intro j v hj;simp [BD] at hj
 | x :: xs,k,n,h,hn=>by
  have h0:AK w b (o+k * sz) (enc x):=by simpa using h 0 x rfl
  have d:=A4.cells he (xs:=xs) (k:=k+1) (n:=xs.length) (fun i e c=>by
   have:=h (i+1) e (by simpa using c);have a:k+(i+1)=k+1+i:=om
   rwa [a] at this) rfl
  simp only [BD,List.flatMap_cons];rw [AK.append];refine ⟨h0,?_⟩;rw [he];have a:o+(k+1) * sz=o+k * sz+sz:=by rw [Nat.add_mul];omega
  rwa [a] at d
theorem Qt {α:Type} {enc:α->List Value} {t e by_ B:Nat} {zs:List Value} (ht:Cq P t=some (e,zs,by_)) (he:∀ x,(enc x).length=zs.length) {w:World} {a:Option Addr} {n c:Nat} {xs:List α} (h:Ai enc zs.length B e w a n c xs)
  {a2:Option Addr} {m c':Nat} {ys:List α} (hy:A4 enc zs.length w a2 m ys) (hf:∀ x,a2=some x->x.spot=none) (hc:∀ y∈ys,∀ v∈enc y,AE v=true) (hsm:n+m<=1099511627776) (hby:(n+m) * by_<=140737488355328) (hB:B<=w.heap.size) {ty:Nat} {cs:Array Bool} {K:Next->World->Prop}
  (hK:∀ a' c' w',Ai enc zs.length B e w' a' (n+m) c' (xs++ys)->BY (AN a) w w'->(∀ k,AN a' k->AN a k\/k=w.heap.size)->K (.value (.slice a' (n+m) c')) w') :
  AB P (builtin .append #[t,t] ty cs #[.slice a n c,.slice a2 m c']) w K:=by
 cases a2 with
 | none =>
  have q:m=0:=by
   rcases Nat.eq_zero_or_pos m with d | d
   .exact d
   .obtain ⟨y,s⟩:∃ y,ys[0]? = some y:=⟨_,List.getElem?_eq_getElem (by rw [hy.1];exact d)⟩;obtain ⟨_,_,f,_⟩:=hy.2.2 0 y s;cases f
  subst q;have aa:ys=[]:=List.eq_nil_of_length_eq_zero hy.1;subst aa;exact Jb ht h (hK a c w (by simpa using h) (BY.refl _ _) (fun k p=>.inl p))
 | some x =>
  obtain ⟨i,ac,spot⟩:=x;have r:spot=none:=hf _ rfl;subst r;refine BR ht he h (ys:=ys) ?_ hy.1 ?_ hsm hby hB hK
  .have:=A4.cells he (w:=w) (b:=i) (o:=ac) (xs:=ys) (k:=0) (n:=m) (fun ab y l=>by
    obtain ⟨ad,ae,f,j⟩:=hy.2.2 ab y l;cases f
    simpa using j) hy.1
   simpa using this
  .intro v g;simp only [BD,List.mem_flatMap] at g;obtain ⟨y,u,z⟩:=g;exact hc y u v z
theorem AO {B:Nat} {a:Option Addr} (h:Ad B a):∀ k,AN a k->B<=k:=by
 rintro k ⟨c,b,rfl⟩;exact h c b
end
def eB (c:UInt8):List Value:=[.int .u8 c.toNat]
theorem Et (c:UInt8):(eB c).length=1:=rfl
theorem T2:∀ l:List UInt8,BD eB l=HV l
 | []=>rfl
 | c :: l=>by have:=T2 l;simp only [BD,HV,List.flatMap_cons,List.map_cons] at *;rw [this];rfl
theorem G3 {P:Program} {s t:Nat} (hs:MJ P s=true) (ht:GU P t=true) {w:World} {B e:Nat} {a:Option Addr} {n c:Nat} {l:List UInt8} (h:Ai eB 1 B e w a n c l) {K:Value->World->Prop} (hK:K (.string (bs l)) w) :
  AB P (convert s t (.slice a n c)) w K:=by
 obtain ⟨b,_,d⟩:=h.own;rcases d with ⟨rfl,rfl⟩ | ⟨g,rest,rfl,f⟩
 .have:l=[]:=List.eq_nil_of_length_eq_zero b;subst this;exact Vw hs ht hK
 .refine Wr hs ht (l:=l) ?_ b hK;have:=(AK.append.1 f.cells).1;rwa [T2] at this
theorem Ab {α:Type} {enc:α->List Value} {sz:Nat} (he:∀ x,(enc x).length=sz) {w:World} {B b e:Nat} (h:CD w b [] e) (hB:B<=b):Ai enc sz B e w (some ⟨b,0,none⟩) 0 0 ([]:List α) :=
 AG he h hB rfl om
theorem Q9 {α β:Type} {f:α->β} {xs:List α} {k:Nat} {x:α} (h:xs[k]? = some x):(xs.take (k+1)).map f=(xs.take k).map f++[f x]:=by
 rw [List.take_add_one,h];simp
theorem Bw.lt {α:Type} {enc:α->List Value} {w:World} {a:Option Addr} {n t:Nat} {xs:List α} (h:Bw enc w a n t xs):∀ x,a=some x->x.block<w.heap.size:=by
 intro x b;rcases h.2.2 with ⟨c,_⟩ | ⟨e,rest,c,d⟩
 .rw [c] at b;cases b
 .rw [c] at b;cases b;exact d.lt
theorem A4.lt {α:Type} {enc:α->List Value} {sz:Nat} {w:World} {a:Option Addr} {n:Nat} {xs:List α} (h:A4 enc sz w a n xs) (hp:∀ x,enc x≠[]) (hn:0<n):∀ x,a=some x->x.block<w.heap.size:=by
 intro x c;obtain ⟨b,i⟩:∃ b,xs[0]? = some b:=⟨_,List.getElem?_eq_getElem (by rw [h.1];exact hn)⟩;obtain ⟨k,l,e,f⟩:=h.2.2 0 b i;rw [e] at c;cases c;obtain ⟨j,m,g⟩:=List.exists_cons_of_ne_nil (hp b);have d:=PB (f 0 j (by rw [g];rfl));exact d
theorem Ad.some {B b:Nat} (h:B<=b):Ad B (some ⟨b,0,none⟩):=fun c a=>by cases a;exact h
theorem apart {a a':Option Addr} {B B':Nat} (h:∀ x,a=some x->x.block<B) (h':Ad B' a') (hB:B<=B'):∀ x,a=some x->¬ AN a' x.block:=by
 rintro x b ⟨d,c,e⟩;have:=h x b;have:=h' d c;omega
theorem Ot {P:Program} {α:Type} {enc:α->List Value} {t e by_ B:Nat} {zs:List Value} (ht:Cq P t=some (e,zs,by_)) {w:World} {a:Option Addr} {n c:Nat} {xs:List α} (h:Ai enc zs.length B e w a n c xs) {x:Addr} {c':Nat} {ty:Nat} {cs:Array Bool} {K:Next->World->Prop}
  (hK:K (.value (.slice a n c)) w):AB P (builtin .append #[t,t] ty cs #[.slice a n c,.slice (some x) 0 c']) w K:=by
 obtain ⟨m,p,f,b,k,l,g,j,i⟩:=FF ht;refine A1 ?_ hK;have d:=h.le.1;cases a with
 | none=>simp [builtin,Builtin.append_,run_underlying f,sizeOf,typeInfo,b,Builtin.lenOf,d,Builtin.firstCells,loadCells,loadCellsFrom]
 | some o=>simp [builtin,Builtin.append_,run_underlying f,sizeOf,typeInfo,b,Builtin.lenOf,d,Builtin.firstCells,loadCells,loadCellsFrom,storeCells]
theorem AM {P:Program} {α:Type} {enc:α->List Value} {t e by_ B:Nat} {zs:List Value} (ht:Cq P t=some (e,zs,by_)) (he:∀ x,(enc x).length=zs.length) {w:World} {a:Option Addr} {n c:Nat} {xs:List α} (h:Ai enc zs.length B e w a n c xs)
  {a2:Option Addr} {m c':Nat} {ys:List α} (hy:A4 enc zs.length w a2 m ys) (hc:∀ y∈ys,∀ v∈enc y,AE v=true) (hsm:n+m<=1099511627776) (hby:(n+m) * by_<=140737488355328) (hB:B<=w.heap.size) {ty:Nat} {cs:Array Bool} {K:Next->World->Prop}
  (hK:∀ a' c' w',Ai enc zs.length B e w' a' (n+m) c' (xs++ys)->BY (AN a) w w'->(∀ k,AN a' k->AN a k\/k=w.heap.size)->K (.value (.slice a' (n+m) c')) w') :
  AB P (builtin .append #[t,t] ty cs #[.slice a n c,.slice a2 m c']) w K:=by
 rcases Nat.eq_zero_or_pos m with b | b
 .subst b;have j:ys=[]:=List.eq_nil_of_length_eq_zero hy.1;subst j;cases a2 with
  | none=>exact Jb ht h (hK a c w (by simpa using h) (BY.refl _ _) (fun k d=>.inl d))
  | some x=>exact Ot ht h (hK a c w (by simpa using h) (BY.refl _ _) (fun k d=>.inl d))
 .refine Qt ht he h hy (fun x f=>?_) hc hsm hby hB hK;obtain ⟨y,i⟩:∃ y,ys[0]? = some y:=⟨_,List.getElem?_eq_getElem (by rw [hy.1];exact b)⟩;obtain ⟨l,o,g,_⟩:=hy.2.2 0 y i;rw [g] at f;cases f
  rfl
theorem Dw {P:Program} {α:Type} {enc:α->List Value} {t e by_ B:Nat} {zs:List Value} (ht:Cq P t=some (e,zs,by_)) (he:∀ x,(enc x).length=zs.length) {w:World} {a:Option Addr} {c:Nat} (h:Ai enc zs.length B e w a 0 c ([]:List α))
  {a2:Option Addr} {m c':Nat} {ys:List α} (hy:A4 enc zs.length w a2 m ys) (hc:∀ y∈ys,∀ v∈enc y,AE v=true) (hsm:m<=1099511627776) (hby:m * by_<=140737488355328) (hB:B<=w.heap.size) {ty:Nat} {cs:Array Bool} {K:Next->World->Prop}
  (hK:∀ a' c' w',Ai enc zs.length B e w' a' m c' ys->BY (AN a) w w'->(∀ k,AN a' k->AN a k\/k=w.heap.size)->K (.value (.slice a' m c')) w') :
  AB P (builtin .append #[t,t] ty cs #[.slice a 0 c,.slice a2 m c']) w K :=
 AM ht he h hy hc om (by rw [Nat.zero_add];exact hby) hB fun a' c' w' b d f=>by
  have:=hK a' c' w' (by simpa using b) d f;rw [Nat.zero_add];exact this
theorem Bw.some {α:Type} {enc:α->List Value} {w:World} {a:Option Addr} {n t:Nat} {xs:List α} (h:Bw enc w a n t xs) (hn:0<n):∃ b:Nat,a=some ⟨b,0,none⟩:=by
 rcases h.2.2 with ⟨_,d⟩ | ⟨b,rest,c,_⟩
 .omega
 .exact ⟨b,c⟩
theorem AT {α:Type} {enc:α->List Value} {sz:Nat} (he:∀ x,(enc x).length=sz) {w:World} {b n t:Nat} {xs:List α} (h:Bw enc w (Option.some ⟨b,0,none⟩) n t xs) {k:Nat} {x:α} (hx:xs[k]? = Option.some x):AK w b (0+k * sz) (enc x):=by
 rcases h.2.2 with ⟨a,_⟩ | ⟨d,rest,a,c⟩
 .cases a
 .cases a
  exact Qv he c.cells hx
theorem Hc {α:Type} {xs:List α} {k:Nat} {x:α} (h:xs[k]? = Option.some x):xs.take k++x :: xs.drop (k+1)=xs:=by
 rw [<- Nf h,List.take_append_drop]
theorem Eo {α:Type} {xs:List α} {k:Nat} {x:α} (h:xs[k]? = Option.some x) (y:α):(xs.set k y)[k]? = Option.some y:=by
 have:=(List.getElem?_eq_some_iff.1 h).1;simp [this]
theorem R5 {α:Type} {xs:List α} {k:Nat} {x y:α} (h:xs[k]? = Option.some x):xs.set k y=xs.take k++y :: xs.drop (k+1):=Kw xs k y (List.getElem?_eq_some_iff.1 h).1
theorem VZ {α:Type} {enc:α->List Value} {sz:Nat} (he:∀ x,(enc x).length=sz) {xs:List α} {k j:Nat} {x x':α} (hx:xs[k]? = Option.some x) (hj:j<sz) {v:Value} (hx':(enc x).set j v=enc x') (rest:List Value) :
  (BD enc xs++rest).set (k * sz+j) v=BD enc (xs.set k x')++rest:=by
 have b:=(List.getElem?_eq_some_iff.1 hx).1;have a:=VY he (xs.take k) (xs.drop (k+1)) x x' rest j v hj hx';rw [Hc hx,List.length_take,Nat.min_eq_left om] at a;rw [a,R5 hx]
theorem C5 {P:Program} {α:Type} {enc:α->List Value} {sz:Nat} {ty:Nat} (hty:DE P ty=true) (he:∀ x,(enc x).length=sz) {w:World} {b n t k j:Nat} {xs:List α} (h:Bw enc w (Option.some ⟨b,0,none⟩) n t xs) {x:α} (hx:xs[k]? = Option.some x) (hj:j<sz) {v:Value} (hv:AE v=true) (x':α) (hx':(enc x).set j v=enc x')
  {K:Unit->World->Prop} (hK:∀ w',OW b w w'->Bw enc w' (Option.some ⟨b,0,none⟩) n t (xs.set k x')->K () w'):AB P (Instr.storeAt ty (.pointer (Option.some ⟨b,0+k * sz+j,none⟩)) v) w K:=by
 obtain ⟨d,e,f⟩:=h;rcases f with ⟨a,_⟩ | ⟨m,rest,a,g⟩
 .cases a
 .cases a
  have o:=(List.getElem?_eq_some_iff.1 hx).1;have l:k * sz+j<(BD enc xs++rest).length:=by
   rw [List.length_append,B0 he];have:=Nat.mul_le_mul_right sz (show k+1<=xs.length by omega);rw [Nat.add_mul] at this;omega
  rw [Nat.zero_add];refine KH hty g l hv fun w' i c=>hK w' i ⟨by simpa using d,e,.inr ⟨b,rest,rfl,?_⟩⟩;rw [VZ he hx hj hx'] at c;exact c
theorem Rn {P:Program} {α:Type} {enc:α->List Value} {sz:Nat} {ty:Nat} (hty:Dx P ty=Option.some sz) (he:∀ x,(enc x).length=sz) {w:World} {b n t k:Nat} {xs:List α} (h:Bw enc w (Option.some ⟨b,0,none⟩) n t xs) {x:α} (hx:xs[k]? = Option.some x) (x':α) (hv:∀ v∈enc x',AE v=true)
  {K:Unit->World->Prop} (hK:∀ w',OW b w w'->Bw enc w' (Option.some ⟨b,0,none⟩) n t (xs.set k x')->K () w'):AB P (Instr.storeAt ty (.pointer (Option.some ⟨b,0+k * sz,none⟩)) (.agg ⟨enc x'⟩)) w K:=by
 obtain ⟨g,i,j⟩:=h;rcases j with ⟨a,_⟩ | ⟨s,rest,a,l⟩
 .cases a
 .cases a
  have u:=(List.getElem?_eq_some_iff.1 hx).1;have o:k * sz+sz<=(BD enc xs++rest).length:=by
   rw [List.length_append,B0 he];have:=Nat.mul_le_mul_right sz (show k+1<=xs.length by omega);rw [Nat.add_mul] at this;omega
  rw [Nat.zero_add];refine EJ hty l (he x') o hv fun w' m c=>hK w' m ⟨by simpa using g,i,.inr ⟨b,rest,rfl,?_⟩⟩;have f:(BD enc xs++rest).take (k * sz)++enc x'++(BD enc xs++rest).drop (k * sz+sz)=BD enc (xs.set k x')++rest:=by
   have p:=Hc hx;have e:(BD enc (xs.take k)).length=k * sz:=by rw [B0 he,List.length_take,Nat.min_eq_left om]
   have d:BD enc xs=BD enc (xs.take k)++(enc x++BD enc (xs.drop (k+1))):=by
    conv=>lhs;rw [<- p]
    rw [FJ];simp [BD]
   have q:(BD enc xs++rest).take (k * sz)=BD enc (xs.take k):=by
    rw [d,List.append_assoc,<- e,List.take_left]
   have r:(BD enc xs++rest).drop (k * sz+sz)=BD enc (xs.drop (k+1))++rest:=by
    rw [d,List.append_assoc,List.append_assoc,<- e,<- List.drop_drop,List.drop_left];rw [show sz=(enc x).length from (he x).symm,List.drop_left]
   rw [q,r,R5 hx,FJ];simp [BD]
  rw [f] at c;exact c
theorem Vz {α:Type} {enc:α->List Value} {sz B e:Nat} (he:∀ x,(enc x).length=sz) {w w':World} {b n c:Nat} {xs ys:List α} (h:Ai enc sz B e w (Option.some ⟨b,0,none⟩) n c xs) (hs:∀ cs t,CD w b cs t->∃ cs',CD w' b cs' t/\cs'.length=cs.length) (ho:Bw enc w' (Option.some ⟨b,0,none⟩) n e ys):Ai enc sz B e w' (Option.some ⟨b,0,none⟩) n c ys:=by
 obtain ⟨aa,ab,k⟩:=h;rcases k with ⟨d,_⟩ | ⟨z,y,j,d,l,o,q,r,s,ac⟩
 .cases d
 .simp only [Value.slice.injEq,Option.some.injEq,Addr.mk.injEq,and_true,true_and] at d;obtain ⟨rfl,rfl⟩:=d;obtain ⟨i,ad,u⟩:=ho;rcases u with ⟨f,_⟩ | ⟨v,rest,f,g⟩
  .cases f
  .cases f
   obtain ⟨cs',a,p⟩:=hs j.toList e (by unfold CD;simpa using o);unfold CD at a g;rw [g] at a;simp only [Option.some.injEq,Obj.cells.injEq,and_true] at a;have m:BD enc ys++rest=cs':=by
    have:=congrArg Array.toList a;simpa using this
   refine ⟨i,by rw [B0 he,i],.inr ⟨b,c,_,rfl,l,g,q,r,?_,?_⟩⟩
   .simp only [List.size_toArray];rw [m,p];simpa using s
   .simp only;have:(BD enc ys).length=n * sz:=by rw [B0 he,i]
    rw [<- this,List.take_left]
theorem CD.inj {w:World} {b t t':Nat} {cs cs':List Value} (h:CD w b cs t) (h':CD w b cs' t'):cs'=cs/\t'=t:=by
 unfold CD at h h';rw [h] at h';simp only [Option.some.injEq,Obj.cells.injEq,and_true] at h';exact ⟨by have:=congrArg Array.toList h'.1;simpa using this.symm,h'.2.symm⟩
theorem HC {P:Program} {α:Type} {enc:α->List Value} {sz B e:Nat} {ty:Nat} (hty:DE P ty=true) (he:∀ x,(enc x).length=sz) {w:World} {b n c k j:Nat} {xs:List α} (h:Ai enc sz B e w (Option.some ⟨b,0,none⟩) n c xs) {x:α} (hx:xs[k]? = Option.some x) (hj:j<sz) {v:Value} (hv:AE v=true) (x':α) (hx':(enc x).set j v=enc x')
  {K:Unit->World->Prop} (hK:∀ w',OW b w w'->Ai enc sz B e w' (Option.some ⟨b,0,none⟩) n c (xs.set k x')->K () w'):AB P (Instr.storeAt ty (.pointer (Option.some ⟨b,0+k * sz+j,none⟩)) v) w K:=by
 have q:=h.own;obtain ⟨g,i,l⟩:=q;rcases l with ⟨d,_⟩ | ⟨r,rest,d,f⟩
 .cases d
 .cases d
  have t:=(List.getElem?_eq_some_iff.1 hx).1;have p:k * sz+j<(BD enc xs++rest).length:=by
   rw [List.length_append,B0 he];have:=Nat.mul_le_mul_right sz (show k+1<=xs.length by omega);rw [Nat.add_mul] at this;omega
  rw [Nat.zero_add];refine KH hty f p hv fun w' m a=>hK w' m (Vz he h (fun s u o=>?_) ⟨by simpa using g,i,.inr ⟨b,rest,rfl,?_⟩⟩)
  .obtain ⟨rfl,rfl⟩:=CD.inj f o;exact ⟨_,a,sI⟩
  .rw [VZ he hx hj hx'] at a;exact a
theorem CN {P:Program} {sz t:Nat} (ht:CL P t=Option.some sz) {w:World} {b o n c:Nat} {i:Int} (k:Nat) (hi:i=k) (hlt:k<n) {kd:IntKind}
  {K:Value->Prop} (hK:K (.pointer (Option.some ⟨b,o+k * sz,none⟩))):BN P (Instr.indexAt t (.slice (Option.some ⟨b,o,none⟩) n c) (.int kd i)) w K :=
 Ed (fun _ _=>Gr ht k hi hlt ⟨rfl,rfl⟩) hK
theorem Va {α:Type} {enc:α->List Value} {z:α} {zs:List Value} (hz:enc z=zs):∀ n:Nat,BD (fun _:Unit=>zs) (List.replicate n ())=BD enc (List.replicate n z)
 | 0=>rfl
 | n+1=>by
  have ih:=Va hz n;simp only [BD,List.replicate_succ,List.flatMap_cons] at *;rw [ih,hz]
theorem JR {α:Type} {enc:α->List Value} {sz B e:Nat} (he:∀ x,(enc x).length=sz) {z:α} {zs:List Value} (hz:enc z=zs) {w:World} {b n:Nat} (h:CD w b (BD (fun _:Unit=>zs) (List.replicate n ())) e) (hB:B<=b) (hm:n<=9223372036854775807):Ai enc sz B e w (Option.some ⟨b,0,none⟩) n n (List.replicate n z) :=
 AG he (by rw [<- Va hz];exact h) hB sI hm
theorem KI {P:Program} {ty n:Nat} (hty:Dx P ty=some n) {w:World} {b o k:Nat} {vs:List Value} (h:AK w b o vs) (hn:((vs.drop k).take n).length=n) {K:Value->World->Prop} (hK:K (.agg ((vs.drop k).take n).toArray) w) :
  AB P (Instr.loadAt ty (.pointer (some ⟨b,o+k,none⟩))) w K:=HQ hty ((h.drop k).take n) hn hK
theorem D4 {P:Program} {ty n:Nat} (hty:Dx P ty=some n) {w:World} {b o k:Nat} {vs:List Value} (h:AK w b o vs) (hn:((vs.drop k).take n).length=n) {K:Value->Prop} (hK:K (.agg ((vs.drop k).take n).toArray)) :
  BN P (Instr.loadAt ty (.pointer (some ⟨b,o+k,none⟩))) w K:=LI hty ((h.drop k).take n) hn hK
theorem AW {P:Program} {ty n:Nat} (hty:Dx P ty=some n) {w:World} {b t:Nat} {cs:List Value} (h:CD w b cs t) {vs:List Value} (hn:vs.length=n) (hc:cs.length=n) (hv:∀ v∈vs,AE v=true) {K:Unit->World->Prop}
  (hK:∀ w',OW b w w'->CD w' b vs t->K () w'):AB P (Instr.storeAt ty (.pointer (some ⟨b,0,none⟩)) (.agg ⟨vs⟩)) w K :=
 EJ hty h (k:=0) hn om hv fun w' d a=>hK w' d (by
  have c:cs.take 0++vs++cs.drop (0+n)=vs:=by
   rw [List.drop_eq_nil_of_le om];simp
  rw [c] at a;exact a)
def KP (a b:Option Addr):Prop:=∀ y,b=some y->¬ AN a y.block
theorem KP.app {a a' b:Option Addr} {B:Nat} (h:KP a b) (hi:∀ k,AN a' k->AN a k\/k=B) (hb:∀ x,b=some x->x.block<B):KP a' b:=by
 intro e d f;rcases hi _ f with c | c
 .exact h e d c
 .have:=hb e d;omega
theorem Ai.base {α:Type} {enc:α->List Value} {sz B B' e:Nat} {w:World} {a:Option Addr} {n c:Nat} {xs:List α} (h:Ai enc sz B e w a n c xs) (hb:B'<=B):Ai enc sz B' e w a n c xs:=by
 obtain ⟨i,j,b⟩:=h;refine ⟨i,j,?_⟩;rcases b with b | ⟨g,d,f,l,k,rest⟩
 .exact .inl b
 .exact .inr ⟨g,d,f,l,Nat.le_trans hb k,rest⟩
theorem Ai.lt {α:Type} {enc:α->List Value} {sz B e:Nat} {w:World} {a:Option Addr} {n c:Nat} {xs:List α} (h:Ai enc sz B e w a n c xs):∀ x,a=some x->x.block<w.heap.size:=fun x b=>(h.blk_lt x b).2
theorem Bo {n:Int} (h1 : -9223372036854775808<=n) (h2:n<=9223372036854775807):IntKind.wrap .i64 n=n:=IntWalk.i64_in n ⟨h1,h2⟩
end Go.Vc
namespace Go.Vc
open Go Go.RowKit
section
variable {P:Program}
theorem Ai.eq_ {α:Type} {enc:α->List Value} {sz B e:Nat} {w:World} {a:Option Addr} {n c:Nat} {xs ys:List α} (h:Ai enc sz B e w a n c xs) (he:xs=ys):Ai enc sz B e w a n c ys:=he▸h
theorem To {t:Nat} (h:GU P t=true):P.underlying t=some .string:=by
 unfold GU at h;split at h<;>simp_all
theorem Kx {t:Nat} (ht:GU P t=true) {s:ByteArray} {l h:Nat} (hl:l<=h) (hh:h<=s.size) {lo hi:Option Value} {k k':IntKind} (hlo:(lo=none/\l=0)\/lo=some (.int k l)) (hhi:(hi=none/\h=s.size)\/hi=some (.int k' h)) (w:World) :
  (Instr.sliceAt t (.string s) lo hi none).run P w = .ok (.string (s.extract l h)) w:=by
 have a:=To ht;rw [run_sliceAt_string w t _ _ _ _ a];rcases hlo with ⟨rfl,rfl⟩ | rfl<;>rcases hhi with ⟨rfl,rfl⟩ | rfl
 .exact run_slice_string_all w t s a
 .rw [run_slice_string_h w t s a _ _ om om];simp
 .rw [run_slice_string_l w t s a _ _ om om];simp
 .rw [run_slice_string w t s _ _ _ _ a om om om];simp
theorem B6 {t:Nat} (ht:GU P t=true) {s:ByteArray} (l h:Nat) (hl:l<=h) (hh:h<=s.size) {lo hi:Option Value} {k k':IntKind} (hlo:(lo=none/\l=0)\/lo=some (.int k l)) (hhi:(hi=none/\h=s.size)\/hi=some (.int k' h)) {w:World} {K:Value->World->Prop}
  (hK:K (.string (s.extract l h)) w):AB P (Instr.sliceAt t (.string s) lo hi none) w K:=A1 (Kx ht hl hh hlo hhi w) hK
theorem H7 {t:Nat} (ht:GU P t=true) {s:ByteArray} (l h:Nat) (hl:l<=h) (hh:h<=s.size) {lo hi:Option Value} {k k':IntKind} (hlo:(lo=none/\l=0)\/lo=some (.int k l)) (hhi:(hi=none/\h=s.size)\/hi=some (.int k' h)) {w:World} {K:Value->Prop}
  (hK:K (.string (s.extract l h))):BN P (Instr.sliceAt t (.string s) lo hi none) w K:=Ed (fun a _=>A1 (Kx ht hl hh hlo hhi a) ⟨rfl,rfl⟩) hK
theorem FK (s:ByteArray) (l h:Nat):s.extract l h=bs ((s.data.toList.drop l).take (h - l)):=by
 have a:=ByteArray.extract_mk s.data.toList l h;have b:ByteArray.mk s.data.toList.toArray=s:=by obtain ⟨⟨c⟩⟩:=s;rfl
 rw [b] at a;exact a
theorem T4 (s:ByteArray) (l h:Nat) (hh:h<=s.size):(s.extract l h).size=h - l:=by
 rw [FK,AV];have:s.data.toList.length=s.size:=sI
 simp only [List.length_take,List.length_drop];omega
theorem CO (l:List UInt8):(ByteArray.mk ⟨l⟩).size=l.length:=rfl
theorem CZ (l:List UInt8):(ByteArray.mk l.toArray).size=l.length:=rfl
theorem Sx {t:Nat} {X Y:Operand} {a b:Int} (h1 : -9223372036854775808<=a) (h2:a<=9223372036854775807) (hb:2<=b) {w:World} {K:Value->World->Prop} (hK:K (.int .i64 (a.tdiv b)) w) :
  AB P (Bk .quo t X Y (.int .i64 a) (.int .i64 b)) w K:=by
 refine A1 ?_ hK;have d:¬ b=0:=om
 have e:(a.tdiv b).natAbs<=a.natAbs / 2:=by
  rw [Int.natAbs_tdiv];exact Nat.div_le_div_left om om
 have f:0<=a->0<=a.tdiv b:=fun c=>Int.tdiv_nonneg c om;have:=IntWalk.i64_in (a.tdiv b) ⟨om,om⟩;simp [Bk,Cc,binOp,Op.intDiv,d,this]
theorem YP {t:Nat} {X Y:Operand} {a b:Int} (hb:0<b) {w:World} {K:Value->World->Prop} (hK:K (.int .i64 (a.tmod b)) w) :
  AB P (Bk .rem t X Y (.int .i64 a) (.int .i64 b)) w K:=by
 refine A1 ?_ hK;have c:¬ b=0:=om
 simp [Bk,Cc,binOp,Op.intDiv,c]
theorem AB.neg {a:Int} (r:Int) (hr : -a=r) (h1 : -9223372036854775808<=r) (h2:r<=9223372036854775807) {w:World} {K:Value->World->Prop} (hK:K (.int .i64 r) w) :
  AB P (Op.unary .neg (.int .i64 a)) w K:=by
 refine A1 ?_ hK;have:=IntWalk.i64_in r ⟨h1,h2⟩;have b:0 - a=r:=om
 simp [Op.unary,Op.intArith,b,this]
theorem Sw {t:Nat} {X Y:Operand} {k:IntKind} {a b:Int} (r:Int) (hr:a - b=r) (hw:k.wrap r=r) {w:World} {K:Value->World->Prop} (hK:K (.int k r) w) :
  AB P (Bk .sub t X Y (.int k a) (.int k b)) w K:=by
 refine A1 ?_ hK;simp [Bk,Cc,binOp,Op.intArith,hr,hw]
theorem H8 {n:Int} (h0:0<=n) (h1:n<=255):IntKind.u8.wrap n=n:=by
 simp [IntKind.wrap,IntKind.bits,IntKind.signed];omega
theorem UF {s t e:Nat} {src:ByteArray} (hs:GU P s=true) (ht:P.underlying t=some (.slice e)) (he:P.underlying e=some (.int .u8)) (hm:src.size<=9223372036854775807) {w:World} {K:Value->World->Prop}
  (hK:∀ b c w',w.heap.size<=b->b<w'.heap.size->AD w w'->A4 eB 1 w' (some ⟨b,0,none⟩) src.size src.data.toList->K (.slice (some ⟨b,0,none⟩) src.size c) w') :
  AB P (convert s t (.string src)) w K:=by
 have j:=Lib.run_convert_string_bytes w s t e src (To hs) ht he
 have f:src.data.toList.length=src.size:=sI
 have k:AD w (Lib.bytesWorld w e src):=Lib.bytesWorld_below w e src;refine A1 j (hK _ _ _ (Nat.le_refl _) ?_ k ⟨f,hm,fun g m d=>⟨_,_,rfl,?_⟩⟩)
 .show w.heap.size<(Lib.bytesWorld w e src).heap.size;unfold Lib.bytesWorld;simp [World.freeze,World.alloc]
 .intro h l a;cases h with
  | zero =>
   simp only [eB,List.getElem?_cons_zero,Option.some.injEq] at a;subst a;have i:g<src.size:=by rw [<- f];exact (List.getElem?_eq_some_iff.1 d).1
   have:=Lib.bytesWorld_cell w e src g i;rw [List.getD_eq_getElem?_getD,d] at this;simpa using this
  | succ h=>simp [eB] at a
theorem Vb (s:ByteArray):BD eB s.data.toList=Lib.strCells s:=by
 rw [T2];rfl
theorem Qs {t u e B:Nat} (ht:Cq P t=some (e,[.int .u8 0],1)) (hze:(P.info? e).bind (·.zero)=some (.int .u8 0)) (hu:GU P u=true) {w:World} {a:Option Addr} {n c:Nat} {l:List UInt8} (h:Ai eB 1 B e w a n c l) {s:ByteArray} (hsm:n+s.size<=140737488355328) (hB:B<=w.heap.size) {ty:Nat} {cs:Array Bool} {K:Next->World->Prop}
  (hK:∀ a' c' w',Ai eB 1 B e w' a' (n+s.size) c' (l++s.data.toList)->BY (AN a) w w'->K (.value (.slice a' (n+s.size) c')) w') :
  AB P (builtin .append #[t,u] ty cs #[.slice a n c,.string s]) w K:=by
 obtain ⟨k,ah,ab,g,j,an,p,z,al⟩:=FF ht;obtain ⟨m,o⟩:=h;have ad:ah = .int .u8 0:=by
  rw [g] at hze;simp only [Option.bind_some] at hze;rw [j] at hze;exact Option.some.inj hze
 subst ad;have aa:k.size=1:=by rw [<- z];rfl
 obtain ⟨af,w',y,i,b,_⟩:=Lib.run_append_own_string (P:=P) w B t u ty e k ab (To hu) g j aa p (.slice a n c) n (BD eB l) o s (by simp only [maxLen];omega) hsm hB;have ac:∃ a' c',af = .slice a' (n+s.size) c':=by
  rcases i.2 with ⟨rfl,x⟩ | ⟨ak,ai,aj,rfl,_⟩
  .exact ⟨none,0,by rw [x]⟩
  .exact ⟨_,_,rfl⟩
 obtain ⟨a',f,rfl⟩:=ac;have am:s.data.toList.length=s.size:=sI
 refine A1 (v := .value (.slice a' (n+s.size) f)) (w':=w') ?_ (hK a' f w' ⟨by simp [m],by rw [FJ,Vb];exact i⟩ ?_)
 .simp only [builtin,Sem.run_bind,y,Result.andThen_ok];rfl
 .refine ⟨b.os,b.tape,b.output,b.size,fun ae q r=>b.block ae r fun d=>q ?_⟩;cases a with
  | none=>simp [Value.ownBlock] at d
  | some ag =>
   simp only [Value.ownBlock,Option.some.injEq] at d;exact ⟨ag,rfl,d⟩
def O4 (P:Program) (t:Nat):Bool:=match P.underlying t with | some (.interface _)=>true | _=>false
theorem SN {t:Nat} (h:O4 P t=true):P.underlying t=some (.interface (P.methodsAt t)):=by
 unfold O4 at h;unfold Program.methodsAt;split at h
 .rename_i b a;rw [a]
 .cases h
theorem UG {t:Nat} (ht:O4 P t=true) {x:Operand} {w:World} {K:Value->World->Prop} (hK:K (.bool false) w):AB P (Bk .neq t x (.const .nilIface) .nilIface .nilIface) w K:=by
 refine A1 ?_ hK;simp [Bk,eqGuard,run_neq_nil_nil w t (SN ht)]
theorem UH {t d:Nat} (ht:O4 P t=true) {z:Value} {x:Operand} {w:World} {K:Value->World->Prop} (hK:K (.bool true) w):AB P (Bk .neq t x (.const .nilIface) (.iface d z) .nilIface) w K:=by
 refine A1 ?_ hK;simp [Bk,eqGuard,run_neq_held_nil w t d z (SN ht)]
end
theorem Sv (a:Addr):a.add 0=a:=by
 unfold Addr.add;rfl
theorem HP {P:Program} {α:Type} {enc:α->List Value} {t sz:Nat} (ht:CL P t=some sz) {w:World} {a:Option Addr} {n c:Nat} {xs:List α} (hA:A4 enc sz w a n xs) (h:Nat) (hh:h<=n) (hn:n<=c) {hi:Option Value} {k':IntKind} (hhi:(hi=none/\h=n)\/hi=some (.int k' h))
  {K:Value->World->Prop} (hK:A4 enc sz w a h (xs.take h)->K (.slice a h c) w):AB P (Instr.sliceAt t (.slice a n c) none hi none) w K:=by
 refine A1 (EF (k := .i64) ht (Nat.zero_le h) hh hn (.inl ⟨rfl,rfl⟩) hhi w) ?_;have d:(if c=0 then a else a.map (·.add (0 * sz)))=a:=by
  split
  .rfl
  .rw [Nat.zero_mul];cases a with
   | none=>rfl
   | some b=>simp [Sv]
 rw [d];refine hK ⟨?_,?_,fun e b hi=>?_⟩
 .rw [List.length_take,hA.1];omega
 .have:=hA.2.1;omega
 .rw [List.getElem?_take] at hi;split at hi
  .exact hA.2.2 e b hi
  .cases hi
def aF5 (P:Program) (t:Nat):Bool:=match P.underlying t with | some .bool=>true | _=>false
end Go.Vc
namespace Go.Vc
open Go Go.RowKit
variable {a:Option Addr} {B B' b bk:Nat}
def aF2 (a b:Option Addr):Prop:=∀ x,a=some x->∀ k,AN b k->x.block<k
theorem later {a':Option Addr} (h:∀ x,a=some x->x.block<B) (h':Ad B' a') (hB:B<=B'):aF2 a a':=by
 rintro x rfl e ⟨b,rfl,rfl⟩;have c:=h x rfl;have d:=h' b rfl;omega
theorem BY.trans_new {S S':Nat->Prop} {x y z:World} (h:BY S x y) (k:BY S' y z) (hb:∀ i,S' i->x.heap.size<=i):BY S x z :=
  ⟨k.os.trans h.os,k.tape.trans h.tape,k.output.trans h.output,Nat.le_trans h.size k.size,
   fun i b a=>(k.block i (fun c=>by have:=hb i c;omega) (Nat.lt_of_lt_of_le a h.size)).trans (h.block i b a)⟩
theorem Gh (nt:Ad B a) (l:b<B') (le:B'<=B):∀ x,a=some x->¬ (fun k=>k=b) x.block:=fun x d c=>by
 have e:=nt x d;have c:x.block=b:=c;omega
theorem aB0 (l:b<B) (g:B'<=bk) (le:B<=B'):¬ (fun k=>k=bk) b:=fun a=>by
 have a:b=bk:=a;omega
theorem NI (g:B<=b) (l:bk<B') (le:B'<=B):¬ (fun k=>k=bk) b:=fun a=>by
 have a:b=bk:=a;omega
end Go.Vc
namespace Go.Vc
open Go Go.RowKit Go.ChangeShapes Go.WideShapes
section
variable {P:Program}
def Nc (P:Program) (p:Field×Nat):Option Bool :=
 if p.1.offset=p.2/\P.cellsOf p.1.type=1 then (match P.underlying p.1.type with
   | some .string=>some true
   | some (.int .i64)=>some false
   | _=>none) else none
def Na (P:Program) (t:Nat):Option (List Bool) :=
 match P.underlying t with
 | some (.struct fs)=>(fs.toList.zipIdx.mapM (Nc P)).bind fun l=>if P.cellsOf t=l.length then some l else none
 | _=>none
def BM (n:Int):Prop := -9223372036854775808<=n/\n<=9223372036854775807
def Nt (s:ByteArray):Prop:=s.size<=9223372036854775807
def UJ:List Bool->List Value->Prop
 | [],cs=>cs=[]
 | true :: ks,cs=>∃ s r,cs = .string s :: r/\Nt s/\UJ ks r
 | false :: ks,cs=>∃ n r,cs = .int .i64 n :: r/\BM n/\UJ ks r
def Fp:List Value->List Value->Bool
 | [],[]=>true
 | .string a :: xs,.string b :: ys=>decide (a=b) && Fp xs ys
 | .int _ a :: xs,.int _ b :: ys=>decide (a=b) && Fp xs ys
 | _,_=>false
theorem KS {t off:Nat} {cs:List Value} {v:Value} (ht:DE P t=true) (h:cs[off]? = some v) (w:World):(part t ⟨cs⟩ off).run P w = .ok v w:=by
 obtain ⟨b,f,e,c,d,a⟩:=HG ht;have a:=congrFun a w;unfold part;simp only [Sem.run_bind,a,Result.andThen_ok,Bool.false_eq_true,if_false];have:(Array.mk cs)[off]? = some v:=by simpa using h
 rw [this];rfl
def Hu (P:Program) (t:Nat):Bool :=
 match P.underlying t with
 | some (.struct fs)=>(fs.toList.all fun f=>f.name != "_" && DE P f.type) && !P.stoodInHeld t && !P.eqGuardType P.depth t
 | _=>false
theorem GI (d:Nat) (xs ys:List Value) (w:World):∀ (fs:List Field) (i:Nat) (ks:List Bool),(fs.zipIdx i).mapM (Nc P)=some ks->(fs.all fun f=>f.name != "_" && DE P f.type)=true->UJ ks (xs.drop i)->UJ ks (ys.drop i) ->
  (Op.eqFields (d+1) ⟨xs⟩ ⟨ys⟩ fs).run P w = .ok (Fp (xs.drop i) (ys.drop i)) w
 | [],i,ks,hk,_,hx,hy=>by
  simp at hk;subst hk;rw [show xs.drop i=[] from hx,show ys.drop i=[] from hy];simp [Op.eqFields,Fp]
 | f :: fs,i,ks,hk,hf,hx,hy=>by
  simp only [List.zipIdx_cons,List.mapM_cons,Option.bind_eq_bind,Option.bind_eq_some_iff,Option.pure_def,Option.some.injEq] at hk;obtain ⟨k,hk0,ks',hks,rfl⟩:=hk;simp only [List.all_cons,Bool.and_eq_true,bne_iff_ne,ne_eq] at hf;obtain ⟨⟨aa,s⟩,hf⟩:=hf;unfold Nc at hk0;simp only at hk0;split at hk0<;>try cases hk0
  rename_i ab;have r:∀ {a:List Value} {y:Value} {q:List Value},a.drop i=y :: q->a[i]? = some y/\a.drop (i+1)=q:=fun {a y q} z=>by
   constructor
   .have:=List.getElem?_drop (xs:=a) (i:=i) (j:=0);rw [z] at this;simpa using this.symm
   .have:=List.drop_drop (i:=1) (j:=i) (l:=a);rw [z] at this;simpa [Nat.add_comm] using this.symm
  split at hk0<;>try cases hk0
  .rename_i v;obtain ⟨b,q,e,_,o⟩:=hx;obtain ⟨c,ac,g,_,p⟩:=hy;obtain ⟨t,h⟩:=r e;obtain ⟨u,m⟩:=r g;rw [<- h] at o;rw [<- m] at p;have x:=GI d xs ys w fs (i+1) ks' hks (by simpa using hf) o p;rw [e,g];unfold Op.eqFields;simp only [ne_eq,aa,not_false_eq_true,if_true,Sem.run_bind,ab.1,KS s t,KS s u,Result.andThen_ok,run_equalIn_string w d f.type b c v,OU];by_cases n:b=c
   .subst n;simp only [decide_true,Bool.not_true,Bool.false_eq_true,if_false,x,Fp,Bool.true_and,h,m]
   .simp [n,Fp]
  .rename_i v;obtain ⟨b,q,e,_,o⟩:=hx;obtain ⟨c,ac,g,_,p⟩:=hy;obtain ⟨t,h⟩:=r e;obtain ⟨u,m⟩:=r g;rw [<- h] at o;rw [<- m] at p;have x:=GI d xs ys w fs (i+1) ks' hks (by simpa using hf) o p;rw [e,g];unfold Op.eqFields;simp only [ne_eq,aa,not_false_eq_true,if_true,Sem.run_bind,ab.1,KS s t,KS s u,Result.andThen_ok,run_equalIn_int w d f.type .i64 .i64 b c v];by_cases n:b=c
   .subst n;simp only [beq_self_eq_true,Bool.not_true,Bool.false_eq_true,if_false,x,Fp,decide_true,Bool.true_and,h,m]
   .simp [n,Fp]
theorem Pc {t:Nat} {ks:List Bool} (hk:Na P t=some ks) (hf:Hu P t=true) {xs ys:List Value} (hx:UJ ks xs) (hy:UJ ks ys) (w:World) :
  (Op.equalIn 10000 t (.agg ⟨xs⟩) (.agg ⟨ys⟩)).run P w = .ok (Fp xs ys) w:=by
 unfold Na at hk;unfold Hu at hf;split at hk<;>try cases hk
 rename_i b a;rw [a] at hf;rw [Option.bind_eq_some_iff] at hk;obtain ⟨e,d,hk⟩:=hk;split at hk<;>try cases hk
 simp only [Bool.and_eq_true,Bool.not_eq_true'] at hf;have c:P.fieldsOf t=b:=by unfold Program.fieldsOf;rw [a]
 rw [run_equalIn_struct w 9999 t ⟨xs⟩ ⟨ys⟩ (by rw [c];exact a) hf.1.2,c];have:=GI 9998 xs ys w b.toList 0 ks d (by simpa using hf.1.1) (by simpa using hx) (by simpa using hy);simpa using this
theorem Nb {t:Nat} (hf:Hu P t=true):P.eqGuardType P.depth t=false:=by
 unfold Hu at hf;split at hf<;>try cases hf
 simp only [Bool.and_eq_true,Bool.not_eq_true'] at hf;exact hf.2
theorem JP {t:Nat} {ks:List Bool} (hk:Na P t=some ks) (hf:Hu P t=true) {xs ys:List Value} (hx:UJ ks xs) (hy:UJ ks ys) {X Y:Operand} {w:World} {K:Value->World->Prop} (hK:K (.bool (!Fp xs ys)) w) :
  AB P (Bk .neq t X Y (.agg ⟨xs⟩) (.agg ⟨ys⟩)) w K:=by
 refine A1 ?_ hK;unfold Bk;rw [Sem.run_bind,run_eqGuard_agg w .neq t X Y _ _ (Nb hf),Result.andThen_ok,run_neq_struct,Pc hk hf hx hy];rfl
def Tp (P:Program) (t:Nat):Bool :=
 match P.underlying t with
 | some .bool=>true
 | _=>false
theorem VI {t:Nat} (h:Tp P t=true):P.underlying t=some .bool:=by
 unfold Tp at h;split at h<;>simp_all
theorem UI {t:Nat} (ht:Tp P t=true) {X Y:Operand} {a b:Bool} {w:World} {K:Value->World->Prop} (hK:K (.bool (!decide (a=b))) w) :
  AB P (Bk .neq t X Y (.bool a) (.bool b)) w K:=by
 refine A1 ?_ hK;have e:=VI ht;have:(a == b)=decide (a=b):=by cases a<;>cases b<;>rfl
 have c:(Op.equal t (.bool a) (.bool b)).run P w = .ok (a == b) w:=run_equalIn_bool w 9999 t a b e;have d:(eqGuard .neq t X Y (.bool a) (.bool b)).run P w = .ok () w:=by simp [eqGuard]
 unfold Bk;rw [Sem.run_bind,d,Result.andThen_ok];simp only [binOp,Sem.run_bind,c,Result.andThen_ok,this];rfl
theorem Rr {t:Nat} (ht:Tp P t=true) {X Y:Operand} {a b:Bool} {w:World} {K:Value->Prop} (hK:K (.bool (!decide (a=b)))) :
  BN P (Bk .neq t X Y (.bool a) (.bool b)) w K:=Ed (fun _ _=>UI ht ⟨rfl,rfl⟩) hK
end
end Go.Vc
namespace Go.Vc
open Go Go.RowKit Go.ChangeShapes Go.WideShapes
section
variable {H:Type} {enc:TypeId×Value->H} {P:Program}
theorem Kl {W W':World} (hl:laidOutB P=true) (hb:AD W W'):∀ (ts:List TypeId) (vs:List Value) (ds:List (DataW H)) (ps:List MemPlace),(ts.all fun t=>P.readableRec t && decide (t<P.types.size))=true ->
  DataW.TrodAll enc P W 0 (fun _=>true) true ts vs ds ps->DataW.TrodAll enc P W' 0 (fun b=>decide (b<W.heap.size)) true ts vs ds ps
 | [],vs,ds,ps,_,h=>by obtain ⟨rfl,rfl,rfl⟩:=trodAll_nil h;exact trodAll_mk0
 | t :: ts,vs,ds,ps,hr,h=>by
  obtain ⟨n,j,l,c,m,i,rfl,rfl,rfl,a,d⟩:=trodAll_cons h;simp only [List.all_cons,Bool.and_eq_true,decide_eq_true_eq] at hr;refine trodAll_cons_mk (Below.trod hl hr.1.1 hr.1.2 a hb ?_) (Kl hl hb ts j c i hr.2 d);obtain ⟨g,e⟩:=a;exact fun k f=>DataW.trod_lt g _ _ _ e k f
end
end Go.Vc
namespace Go.Vc
open Go Go.RowKit Go.ChangeShapes Go.WideShapes Go.ChangeAt
end Go.Vc
namespace Go.Vc
open Go Go.RowKit
variable {P:Program} {A B:Prop} {T:HD} {n:Nat} {ops:Array Oper} {K:Fr->World->Prop} {f:Fr} {w:World} {Q:Exit->Act->World->Prop}
inductive OT where
 | leaf:OT
 | stop:OT
 | mv (i:Nat) (t:OT):OT
 | alt (i:Nat) (t u:OT):OT
def OT.heads:OT->List Nat
 | .alt i _ u=>i :: u.heads
 | _=>[]
def Uz (ops:Array Oper):OT->Bool->Nat->Array Bool->Bool
 | .leaf,top,k,listed=>top && Nat.beq k 0 && (Region.ready .any ops listed).isEmpty
 | .stop,top,_,_=>!top
 | .mv i t,top,k,listed=>top && Nat.blt 0 k && aE9 ops.toList i && Region.free .any ops listed i && (Region.ready .any ops listed).contains i && Uz ops t true (k - 1) (listed.setIfInBounds i true)
 | .alt i t u,top,k,listed=>(!top || (i :: u.heads) == Region.ready .any ops listed) && Nat.blt 0 k && Uz ops t true (k - 1) (listed.setIfInBounds i true) && Uz ops u false k listed
def OT.ok (ops:Array Oper) (t:OT):Bool:=Region.noSelect ops && Uz ops t true ops.size (Array.replicate ops.size false)
@[irreducible] def DX (A B:Prop):Prop:=A/\B
theorem DX.mk (h:A) (k:B):DX A B:=by unfold DX;exact ⟨h,k⟩
theorem DX.one (h:A):DX A True:=DX.mk h trivial
theorem DX.out (h:DX A B):A/\B:=by unfold DX at h;exact h
def V8 (P:Program) (T:HD) (n:Nat) (all:List Oper) (i:Nat) (K:Fr->World->Prop) (f:Fr) (w:World):Prop :=
 match all[i]? with
 | some o=>ER all o f (fun f=>GR P T n o f w K) (fun f=>C0 o.dst f undef fun f=>K f w)
 | none=>False
noncomputable def My (P:Program) (T:HD) (n:Nat) (all:List Oper) (t:OT):Fr->World->(Fr->World->Prop)->Prop :=
 OT.rec (motive:=fun _=>Fr->World->(Fr->World->Prop)->Prop)
  (fun f w K=>K f w)
  (fun _ _ _=>True)
  (fun i _ ih f w K=>V8 P T n all i (fun f w=>ih f w K) f w)
  (fun i _ _ iht ihu f w K=>DX (V8 P T n all i (fun f w=>iht f w K) f w) (ihu f w K)) t
theorem V7 (hT:T.fok P=true) (hok:DF n ops=true) {i:Nat} (h:V8 P T n ops.toList i K f w)
 {L:Act->World->Prop} (hL:∀ f w,K f w->L (Ay n f) w):wpOp P ops Q i L (Ay n f) w:=by
 unfold V8 at h;unfold wpOp;split at h
 .rename_i e c;have g:ops[i]? = some e:=by simpa using c
  have d:DH n ops e=true:=by
   unfold DF at hok;rw [List.all_eq_true] at hok;exact hok _ (List.mem_of_getElem? c)
  have a:=Cf d h;simp only [g];split
  .rename_i b;rw [if_pos b] at a;exact .inl (CJ hT d a hL)
  .rename_i b;rw [if_neg b,AY] at a;rw [BJ];exact hL _ _ a
 .exact h.elim
theorem HE (hT:T.fok P=true) (hok:DF n ops=true) (hs:Region.noSelect ops=true)
  (hP:∀ c a w,¬ Q (.panic c) a w) (hQ:∀ f w,K f w->Q .normal (Ay n f) w):∀ (t:OT) (top:Bool) (k:Nat) (listed:Array Bool) (f:Fr) (w:World),Uz ops t top k listed=true->My P T n ops.toList t f w K ->
   (top=true->wpAny P .any ops Q k listed (Ay n f) w)/\(top=false->∀ i∈t.heads,wpOp P ops Q i (wpAny P .any ops Q (k - 1) (listed.setIfInBounds i true)) (Ay n f) w)
 | .leaf,top,k,listed,f,w,hB,h=>by
  simp only [Uz,Bool.and_eq_true,List.isEmpty_iff] at hB;obtain ⟨⟨rfl,hk⟩,hr⟩:=hB;obtain rfl:=Nat.eq_of_beq_eq_true hk;exact ⟨fun _=>wpAny_done hr (hQ _ _ h) _,fun h=>by cases h⟩
 | .stop,top,k,listed,f,w,hB,h=>by
  exact ⟨fun h=>(by subst h;cases hB),fun _ i ah=>(by cases ah)⟩
 | .mv i t,top,k,listed,f,w,hB,h=>by
  simp only [Uz,Bool.and_eq_true,Nat.blt_eq] at hB;obtain ⟨⟨⟨⟨⟨rfl,hk⟩,m⟩,af⟩,hr⟩,z⟩:=hB;refine ⟨fun _=>?_,fun h=>by cases h⟩;obtain ⟨k,rfl⟩:∃ p,k=p+1:=⟨k - 1,om⟩;have ai:i∈Region.ready .any ops listed:=by simpa using hr
  obtain ⟨_,d,q,_⟩:=mem_ready.1 ai;have l:ops.toList[i]? = some d:=by simpa using q
  have aj:Zv d=true:=by
   unfold aE9 at m;rw [l] at m;exact m
  obtain ⟨e,o,s⟩:=X1 aj;have v:DH n ops d=true:=by
   unfold DF at hok;rw [List.all_eq_true] at hok;exact hok _ (List.mem_of_getElem? l)
  have ae:(Ay n f).eval e=ev f e:=by
   simp only [DH,Bool.and_eq_true,List.all_eq_true] at v;exact Ac (v.1 e (by simp [o,Op.operands]))
  have an:Yields P ops d (ev f e) (Ay n f) := .inl ⟨by simp [Region.wanted,s],fun w=>by
   unfold execOp;simp only [o,ae];rfl⟩
  refine wpAny_take q hs af hr (fun c a w ak=>(hP _ _ _ ak).elim) an ?_;rw [BJ];have b:V8 P T n ops.toList i (fun f w=>My P T n ops.toList t f w K) f w:=h;have y:My P T n ops.toList t (put f d.dst (ev f e)) w K:=by
   unfold V8 at b;rw [l] at b;simp only [ER,s,GR,o,NA] at b;rw [F1,AY] at b;exact b
  exact (HE hT hok hs hP hQ t true k _ _ w z y).1 rfl
 | .alt i t u,top,k,listed,f,w,hB,h=>by
  simp only [Uz,Bool.and_eq_true,Nat.blt_eq] at hB;obtain ⟨⟨⟨x,hk⟩,aa⟩,ab⟩:=hB;obtain ⟨k,rfl⟩:∃ p,k=p+1:=⟨k - 1,om⟩;have b:DX (V8 P T n ops.toList i (fun f w=>My P T n ops.toList t f w K) f w) (My P T n ops.toList u f w K):=h;obtain ⟨ac,ad⟩:=b.out;have ag:wpOp P ops Q i (wpAny P .any ops Q (k+1 - 1) (listed.setIfInBounds i true)) (Ay n f) w :=
   V7 hT hok ac fun f w hk=>(HE hT hok hs hP hQ t true _ _ f w aa hk).1 rfl
  have al:=(HE hT hok hs hP hQ u false (k+1) listed f w ab ad).2 rfl;have r:∀ j∈(OT.alt i t u).heads,wpOp P ops Q j (wpAny P .any ops Q (k+1 - 1) (listed.setIfInBounds j true)) (Ay n f) w:=by
   intro j g;simp only [OT.heads,List.mem_cons] at g;rcases g with rfl | g
   .exact ag
   .exact al j g
  refine ⟨fun am=>?_,fun _=>r⟩;subst am;simp only [Bool.not_true,Bool.false_or,beq_iff_eq] at x;exact wpAny_all x.symm sI r
theorem Ww (hT:T.fok P=true) (hm:P.follows .mixedOrders=true) (t:OT) (hok:DF n ops=true) (hB:t.ok ops=true)
  (h:∀ w',AD w w'->My P T n ops.toList t f w' K):E4 P n ops f w K:=by
 unfold E4;intro e;simp only [OT.ok,Bool.and_eq_true] at hB;exact wp_region_any hm<|(HE hT hok hB.1 (fun d c w b=>b.elim) (fun f w a=>⟨f,rfl,a⟩) t true _ _ f _ hB.2 (h { w with drawn:=w.drawn+1 } ⟨rfl,rfl,rfl,Nat.le_refl _,fun _ _=>rfl⟩)).1 rfl
end Go.Vc
namespace Go.Vc
open Go Go.RowKit
variable {P:Program}
theorem AB.shr {t:Nat} {X Y:Operand} {a b:Int} {k k':IntKind} (hb:0<=b) {w:World} {K:Value->World->Prop} (hK:K (.int k (a.fdiv (2 ^ min b.toNat k.bits))) w) :
  AB P (Bk .shr t X Y (.int k a) (.int k' b)) w K:=by
 refine A1 ?_ hK;have c:¬ b<0:=om
 simp [Bk,Cc,binOp,Op.shift,c]
theorem AB.shl {t:Nat} {X Y:Operand} {a b:Int} {k k':IntKind} (hb:0<=b) {w:World} {K:Value->World->Prop} (hK:K (.int k (k.wrap (a * 2 ^ min b.toNat k.bits))) w) :
  AB P (Bk .shl t X Y (.int k a) (.int k' b)) w K:=by
 refine A1 ?_ hK;have c:¬ b<0:=om
 simp [Bk,Cc,binOp,Op.shift,c]
def FM (k:IntKind) (a b:Int):Int:=k.wrap (BitVec.ofInt k.bits a &&& BitVec.ofInt k.bits b).toNat
def orV (k:IntKind) (a b:Int):Int:=k.wrap (BitVec.ofInt k.bits a ||| BitVec.ofInt k.bits b).toNat
def JO (k:IntKind) (a b:Int):Int:=k.wrap (BitVec.ofInt k.bits a &&& ~~~(BitVec.ofInt k.bits b)).toNat
theorem AB.and {t:Nat} {X Y:Operand} {a b:Int} {k:IntKind} {w:World} {K:Value->World->Prop} (hK:K (.int k (FM k a b)) w) :
  AB P (Bk .and t X Y (.int k a) (.int k b)) w K:=by
 refine A1 ?_ hK;simp [Bk,Cc,binOp,Op.intBits,FM]
theorem AB.or {t:Nat} {X Y:Operand} {a b:Int} {k:IntKind} {w:World} {K:Value->World->Prop} (hK:K (.int k (orV k a b)) w) :
  AB P (Bk .or t X Y (.int k a) (.int k b)) w K:=by
 refine A1 ?_ hK;simp [Bk,Cc,binOp,Op.intBits,orV]
theorem AB.andNot {t:Nat} {X Y:Operand} {a b:Int} {k:IntKind} {w:World} {K:Value->World->Prop} (hK:K (.int k (JO k a b)) w) :
  AB P (Bk .andNot t X Y (.int k a) (.int k b)) w K:=by
 refine A1 ?_ hK;simp [Bk,Cc,binOp,Op.intBits,JO]
theorem EW {n:Int} (h0:0<=n) (h1:n<=18446744073709551615):IntKind.u64.wrap n=n:=by
 simp [IntKind.wrap,IntKind.bits,IntKind.signed];omega
theorem Ex {t:Nat} {X Y:Operand} {a:Nat} {k k':IntKind} (hk:1<=k.bits) {w:World} {K:Value->World->Prop} (hK:K (.int k ((a / 2:Nat):Int)) w) :
  AB P (Bk .shr t X Y (.int k (a:Int)) (.int k' 1)) w K:=by
 refine AB.shr om ?_;have b:((1:Int).toNat)=1:=rfl;rw [b,Nat.min_eq_left hk,Int.fdiv_eq_ediv_of_nonneg _ dE];exact hK
theorem jS {P:Program} {ty n:Nat} {w:World} {b t:Nat} {cs:List Value} (h:CD w b cs t) {vs:List Value} (hn:vs.length=n) (hc:cs.length=n) (hv:∀ v∈vs,AE v=true) {K:Unit->World->Prop} (hK:∀ w',OW b w w'->CD w' b vs t->K () w') (hty:Dx P ty=some n:=by kernel_rfl):AB P (Instr.storeAt ty (.pointer (some ⟨b,0,none⟩)) (.agg ⟨vs⟩)) w K:=AW hty h hn hc hv hK
theorem jG {P:Program} {ty n:Nat} {w:World} {b o k:Nat} {vs:List Value} (h:AK w b o vs) (hn:((vs.drop k).take n).length=n) {K:Value->World->Prop} (hK:K (.agg ((vs.drop k).take n).toArray) w) (hty:Dx P ty=some n:=by kernel_rfl):AB P (Instr.loadAt ty (.pointer (some ⟨b,o+k,none⟩))) w K:=KI hty h hn hK
end Go.Vc
