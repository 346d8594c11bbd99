/- Laws of append and of slices of the call's own, for every program; each with the premises that it names. -/
import Derived.Laws.AppendOwn
import Derived.Maps.AppendAt
import Derived.Laws.Small
import Derived.Lib.ConvBytes
import Derived.Lib.AtoiErrMem
import Derived.WideLaws
import Derived.Lib.AppendStr
import Derived.Laws.StructEq
import Derived.RowKit3
import Derived.ChangeArms
import Derived.ProofKit
import Derived.OpenShut
import Derived.ChangeOld
import Derived.Deep.Slices
import Derived.Test.YthadkoinmohmlaaGreatDoorVcCore
namespace Go.Vc
open Go Go.RowKit
def Grow {α:Type} (enc:α→List Value) (sz B e:Nat) (w:World) (a:Option Addr) (n c:Nat) (xs:List α):Prop :=
  xs.length=n∧w.ownsRow B e sz (.slice a n c) n (flat enc xs)
theorem Grow.nil {α:Type} {enc:α→List Value} {sz B e:Nat} {w:World}:Grow enc sz B e w none 0 0 ([]:List α):=⟨rfl,World.ownsRow_nil w B e sz⟩
theorem Grow.kept {α:Type} {enc:α→List Value} {sz B e:Nat} {w w':World} {a:Option Addr} {n c:Nat} {xs:List α} (h:Grow enc sz B e w a n c xs) (hb:∀ x,a=some x→w'.heap[x.block]? = w.heap[x.block]?):Grow enc sz B e w' a n c xs:=by
  obtain ⟨h1,h2,h3⟩:=h;refine ⟨h1,h2,?_⟩;rcases h3 with h3 | ⟨g,cap,cur,hv,hB,hg,rest⟩
  · exact .inl h3
  · refine .inr ⟨g,cap,cur,hv,hB,?_,rest⟩;simp only [Value.slice.injEq] at hv;have:=hb _ hv.1;simp only at this;rw [this];exact hg
theorem Grow.blk_lt {α:Type} {enc:α→List Value} {sz B e:Nat} {w:World} {a:Option Addr} {n c:Nat} {xs:List α} (h:Grow enc sz B e w a n c xs):∀ x,a=some x→B≤x.block∧x.block<w.heap.size:=by
  intro x hx;rcases h.2.2 with ⟨hv,_⟩ | ⟨g,cap,cur,hv,hB,hg,rest⟩
  · simp only [Value.slice.injEq] at hv;rw [hx] at hv;cases hv.1
  · simp only [Value.slice.injEq] at hv;rw [hx] at hv;have:=Option.some.inj hv.1;subst this;exact ⟨hB,(Array.getElem?_eq_some_iff.1 hg).1⟩
theorem Grow.ext {α:Type} {enc:α→List Value} {sz B e:Nat} {w w':World} {a:Option Addr} {n c:Nat} {xs:List α} (h:Grow enc sz B e w a n c xs) (x:Ext w w'):Grow enc sz B e w' a n c xs :=
  h.kept fun y hy=>x.block _ (h.blk_lt y hy).2
theorem Grow.mod {α:Type} {enc:α→List Value} {sz B e:Nat} {S:Nat→Prop} {w w':World} {a:Option Addr} {n c:Nat} {xs:List α} (h:Grow enc sz B e w a n c xs) (x:Mod S w w') (hs:∀ y,a=some y→¬ S y.block):Grow enc sz B e w' a n c xs :=
  h.kept fun y hy=>x.block _ (hs y hy) (h.blk_lt y hy).2
theorem Grow.new {α:Type} {enc:α→List Value} {sz B e:Nat} {w:World} {a:Option Addr} {n c:Nat} {xs:List α} (h:Grow enc sz B e w a n c xs):NewAt B a:=fun x hx=>(h.blk_lt x hx).1
theorem Grow.len {α:Type} {enc:α→List Value} {sz B e:Nat} {w:World} {a:Option Addr} {n c:Nat} {xs:List α} (h:Grow enc sz B e w a n c xs):xs.length=n:=h.1
theorem Grow.le {α:Type} {enc:α→List Value} {sz B e:Nat} {w:World} {a:Option Addr} {n c:Nat} {xs:List α} (h:Grow enc sz B e w a n c xs):n≤c∧n≤9223372036854775807:=by
  rcases h.2.2 with ⟨hv,hn⟩ | ⟨g,cap,cur,hv,hB,hg,h1,h2,rest⟩
  · simp only [Value.slice.injEq] at hv;omega
  · simp only [Value.slice.injEq] at hv;simp only [maxLen] at h2;omega
theorem Grow.own {α:Type} {enc:α→List Value} {sz B e:Nat} {w:World} {a:Option Addr} {n c:Nat} {xs:List α} (h:Grow enc sz B e w a n c xs):Own enc w a n e xs:=by
  refine ⟨h.1,h.le.2,?_⟩;rcases h.2.2 with ⟨hv,hn⟩ | ⟨g,cap,cur,hv,hB,hg,h1,h2,h3,h4⟩
  · simp only [Value.slice.injEq] at hv;exact .inl ⟨hv.1,hn⟩
  · simp only [Value.slice.injEq] at hv;refine .inr ⟨g,cur.toList.drop (n * sz),hv.1,?_⟩;unfold Blk;rw [hg,← h4,List.take_append_drop]
theorem Grow.of_blk {α:Type} {enc:α→List Value} {sz B e:Nat} (he:∀ x,(enc x).length=sz) {w:World} {b n:Nat} {xs:List α} (h:Blk w b (flat enc xs) e) (hB:B≤b) (hn:xs.length=n) (hm:n≤9223372036854775807):Grow enc sz B e w (some ⟨b,0,none⟩) n n xs:=by
  refine ⟨hn,by rw [flat_length he,hn],.inr ⟨b,n,_,rfl,hB,h,Nat.le_refl _,by simp only [maxLen];omega,?_,?_⟩⟩
  · simp [flat_length he,hn]
  · have:=flat_length he xs;rw [hn] at this;simp only [← this];exact List.take_length
section
variable {P:Program}
theorem SemK.appendAt {α:Type} {enc:α→List Value} {t e by_ B:Nat} {zs:List Value} (ht:mkInfo P t=some (e,zs,by_)) (he:∀ x,(enc x).length=zs.length) {w:World} {a:Option Addr} {n c:Nat} {xs:List α} (h:Grow enc zs.length B e w a n c xs)
    {b o m c':Nat} {ys:List α} (hy:Cells w b o (flat enc ys)) (hl:ys.length=m) (hc:∀ v∈flat enc ys,cellish v=true) (hsm:n+m≤1099511627776) (hby:(n+m) * by_≤140737488355328) (hB:B≤w.heap.size) {ty:Nat} {cs:Array Bool} {K:Next→World→Prop}
    (hK:∀ a' c' w',Grow enc zs.length B e w' a' (n+m) c' (xs++ys)→Mod (blkIn a) w w'→(∀ k,blkIn a' k→blkIn a k∨k=w.heap.size)→K (.value (.slice a' (n+m) c')) w') :
    SemK P (builtin .append #[t,t] ty cs #[.slice a n c,.slice (some ⟨b,o,none⟩) m c']) w K:=by
  obtain ⟨i,z,hu,hi,hz,hzs,hbb,hs,hp⟩:=mkInfo_spec ht;have hzl:zs.length=i.size:=by rw [← hzs];simp [hs]
  obtain ⟨h1,h2⟩:=h;have hfl:(flat enc ys).length=m * zs.length:=by rw [flat_length he,hl]
  have hone:∀ v:Value,cellish v=true→v.oneCell'=true:=by
    intro v hv;cases v<;>first | rfl | cases hv
  obtain ⟨v',w',hr,hown,hg,_,hat⟩:=run_append_own_at (P:=P) w B t ty e i z zs.length by_ hu hi hz hzl.symm hbb (by rw [hs,hzl]) (by omega) (.slice a n c) n (flat enc xs) h2 ⟨b,o,none⟩ m c' (flat enc ys) hfl
    (fun j u hj=>by rw [addr_add_none];exact hy j u hj) (fun u hu=>hone u (hc u hu)) (by simp only [maxLen];omega) hby hB
  have hv':∃ a' c',v' = .slice a' (n+m) c':=by
    rcases hown.2 with ⟨rfl,hn⟩ | ⟨g,cap,cur,rfl,_⟩
    · exact ⟨none,0,by rw [hn]⟩
    · exact ⟨_,_,rfl⟩
  obtain ⟨a',c2,rfl⟩:=hv';refine SemK.of (v := .value (.slice a' (n+m) c2)) (w':=w') ?_ (hK a' c2 w' ⟨by simp [h1,hl],by rw [flat_append];exact hown⟩ ?_ ?_)
  · simp only [builtin,Sem.run_bind,hr,Result.andThen_ok];rfl
  · refine ⟨hg.os,hg.tape,hg.output,hg.size,fun k hk hlt=>hg.block k hlt fun hrow=>hk ?_⟩;cases a with
    | none=>simp [Value.ownBlock] at hrow
    | some x =>
      simp only [Value.ownBlock,Option.some.injEq] at hrow;exact ⟨x,rfl,hrow⟩
  · rintro k ⟨x,rfl,rfl⟩;simp only [Value.ownBlock] at hat;rcases hat with hat | hat
    · cases a with
      | none=>cases hat
      | some y =>
        simp only [Option.some.injEq] at hat;exact .inl ⟨y,rfl,hat⟩
    · simp only [Option.some.injEq] at hat;exact .inr hat
theorem SemK.append {α:Type} {enc:α→List Value} {t e by_ B:Nat} {zs:List Value} (ht:mkInfo P t=some (e,zs,by_)) (he:∀ x,(enc x).length=zs.length) {w:World} {a:Option Addr} {n c:Nat} {xs:List α} (h:Grow enc zs.length B e w a n c xs)
    {b o m c':Nat} {ys:List α} (hy:Cells w b o (flat enc ys)) (hl:ys.length=m) (hc:∀ v∈flat enc ys,cellish v=true) (hsm:n+m≤1099511627776) (hby:(n+m) * by_≤140737488355328) (hB:B≤w.heap.size) {ty:Nat} {cs:Array Bool} {K:Next→World→Prop}
    (hK:∀ a' c' w',Grow enc zs.length B e w' a' (n+m) c' (xs++ys)→Mod (blkIn a) w w'→K (.value (.slice a' (n+m) c')) w') :
    SemK P (builtin .append #[t,t] ty cs #[.slice a n c,.slice (some ⟨b,o,none⟩) m c']) w K :=
  SemK.appendAt ht he h hy hl hc hsm hby hB fun a' c' w' h1 h2 _=>hK a' c' w' h1 h2
theorem SemK.appendNone {α:Type} {enc:α→List Value} {t e by_ B:Nat} {zs:List Value} (ht:mkInfo P t=some (e,zs,by_)) {w:World} {a:Option Addr} {n c:Nat} {xs:List α} (h:Grow enc zs.length B e w a n c xs) {c':Nat} {ty:Nat} {cs:Array Bool} {K:Next→World→Prop}
    (hK:K (.value (.slice a n c)) w):SemK P (builtin .append #[t,t] ty cs #[.slice a n c,.slice none 0 c']) w K:=by
  obtain ⟨i,z,hu,hi,hz,hzs,hbb,hs,hp⟩:=mkInfo_spec ht;refine SemK.of ?_ hK;have hle:=h.le.1;cases a with
  | none=>simp [builtin,Builtin.append_,run_underlying hu,sizeOf,typeInfo,hi,Builtin.lenOf,hle,Builtin.firstCells]
  | some x=>simp [builtin,Builtin.append_,run_underlying hu,sizeOf,typeInfo,hi,Builtin.lenOf,hle,Builtin.firstCells,storeCells]
theorem Arr.cells {α:Type} {enc:α→List Value} {sz:Nat} (he:∀ x,(enc x).length=sz) {w:World} {b o:Nat}:∀ {xs:List α} {k n:Nat},(∀ i x,xs[i]? = some x→Cells w b (o+(k+i) * sz) (enc x))→xs.length=n→Cells w b (o+k * sz) (flat enc xs)
  | [],k,n,_,_=>by intro j v hj;simp [flat] at hj
  | x :: xs,k,n,h,hn=>by
    have h0:Cells w b (o+k * sz) (enc x):=by simpa using h 0 x rfl
    have ih:=Arr.cells he (xs:=xs) (k:=k+1) (n:=xs.length) (fun i y hy=>by
      have:=h (i+1) y (by simpa using hy);have e:k+(i+1)=k+1+i:=by omega
      rwa [e] at this) rfl
    simp only [flat,List.flatMap_cons];rw [Cells.append];refine ⟨h0,?_⟩;rw [he];have e:o+(k+1) * sz=o+k * sz+sz:=by rw [Nat.add_mul];omega
    rwa [e] at ih
theorem SemK.appendArr {α:Type} {enc:α→List Value} {t e by_ B:Nat} {zs:List Value} (ht:mkInfo P t=some (e,zs,by_)) (he:∀ x,(enc x).length=zs.length) {w:World} {a:Option Addr} {n c:Nat} {xs:List α} (h:Grow enc zs.length B e w a n c xs)
    {a2:Option Addr} {m c':Nat} {ys:List α} (hy:Arr enc zs.length w a2 m ys) (hf:∀ x,a2=some x→x.spot=none) (hc:∀ y∈ys,∀ v∈enc y,cellish v=true) (hsm:n+m≤1099511627776) (hby:(n+m) * by_≤140737488355328) (hB:B≤w.heap.size) {ty:Nat} {cs:Array Bool} {K:Next→World→Prop}
    (hK:∀ a' c' w',Grow enc zs.length B e w' a' (n+m) c' (xs++ys)→Mod (blkIn a) w w'→(∀ k,blkIn a' k→blkIn a k∨k=w.heap.size)→K (.value (.slice a' (n+m) c')) w') :
    SemK P (builtin .append #[t,t] ty cs #[.slice a n c,.slice a2 m c']) w K:=by
  cases a2 with
  | none =>
    have hm:m=0:=by
      rcases Nat.eq_zero_or_pos m with h0 | h0
      · exact h0
      · obtain ⟨y,hy0⟩:∃ y,ys[0]? = some y:=⟨_,List.getElem?_eq_getElem (by rw [hy.1];exact h0)⟩;obtain ⟨_,_,hb,_⟩:=hy.2.2 0 y hy0;cases hb
    subst hm;have hys:ys=[]:=List.eq_nil_of_length_eq_zero hy.1;subst hys;exact SemK.appendNone ht h (hK a c w (by simpa using h) (Mod.refl _ _) (fun k hk=>.inl hk))
  | some x =>
    obtain ⟨b,o,spot⟩:=x;have hsp:spot=none:=hf _ rfl;subst hsp;refine SemK.appendAt ht he h (ys:=ys) ?_ hy.1 ?_ hsm hby hB hK
    · have:=Arr.cells he (w:=w) (b:=b) (o:=o) (xs:=ys) (k:=0) (n:=m) (fun i y hi=>by
        obtain ⟨b',o',hb,hcs⟩:=hy.2.2 i y hi;cases hb
        simpa using hcs) hy.1
      simpa using this
    · intro v hv;simp only [flat,List.mem_flatMap] at hv;obtain ⟨y,hy1,hy2⟩:=hv;exact hc y hy1 v hy2
theorem blkIn_new {B:Nat} {a:Option Addr} (h:NewAt B a):∀ k,blkIn a k→B≤k:=by
  rintro k ⟨x,hx,rfl⟩;exact h x hx
end
def eB (c:UInt8):List Value:=[.int .u8 c.toNat]
theorem eB_len (c:UInt8):(eB c).length=1:=rfl
theorem flat_eB:∀ l:List UInt8,flat eB l=byteCells l
  | []=>rfl
  | c :: l=>by have:=flat_eB l;simp only [flat,byteCells,List.flatMap_cons,List.map_cons] at *;rw [this];rfl
theorem SemK.toStrG {P:Program} {s t:Nat} (hs:isBytes P s=true) (ht:isStr P t=true) {w:World} {B e:Nat} {a:Option Addr} {n c:Nat} {l:List UInt8} (h:Grow eB 1 B e w a n c l) {K:Value→World→Prop} (hK:K (.string (bs l)) w) :
    SemK P (convert s t (.slice a n c)) w K:=by
  obtain ⟨h1,_,h3⟩:=h.own;rcases h3 with ⟨rfl,rfl⟩ | ⟨b,rest,rfl,hb⟩
  · have:l=[]:=List.eq_nil_of_length_eq_zero h1;subst this;exact SemK.toStr0 hs ht hK
  · refine SemK.toStr hs ht (l:=l) ?_ h1 hK;have:=(Cells.append.1 hb.cells).1;rwa [flat_eB] at this
theorem Grow.new0 {α:Type} {enc:α→List Value} {sz:Nat} (he:∀ x,(enc x).length=sz) {w:World} {B b e:Nat} (h:Blk w b [] e) (hB:B≤b):Grow enc sz B e w (some ⟨b,0,none⟩) 0 0 ([]:List α) :=
  Grow.of_blk he h hB rfl (by omega)
theorem map_take_succ {α β:Type} {f:α→β} {xs:List α} {k:Nat} {x:α} (h:xs[k]? = some x):(xs.take (k+1)).map f=(xs.take k).map f++[f x]:=by
  rw [List.take_add_one,h];simp
theorem Own.lt {α:Type} {enc:α→List Value} {w:World} {a:Option Addr} {n t:Nat} {xs:List α} (h:Own enc w a n t xs):∀ x,a=some x→x.block<w.heap.size:=by
  intro x hx;rcases h.2.2 with ⟨ha,_⟩ | ⟨b,rest,ha,hb⟩
  · rw [ha] at hx;cases hx
  · rw [ha] at hx;cases hx;exact hb.lt
theorem Arr.lt {α:Type} {enc:α→List Value} {sz:Nat} {w:World} {a:Option Addr} {n:Nat} {xs:List α} (h:Arr enc sz w a n xs) (hp:∀ x,enc x≠[]) (hn:0<n):∀ x,a=some x→x.block<w.heap.size:=by
  intro x hx;obtain ⟨y,hy⟩:∃ y,xs[0]? = some y:=⟨_,List.getElem?_eq_getElem (by rw [h.1];exact hn)⟩;obtain ⟨b,o,ha,hc⟩:=h.2.2 0 y hy;rw [ha] at hx;cases hx;obtain ⟨v,vs,hv⟩:=List.exists_cons_of_ne_nil (hp y);have h0:=cell_lt (hc 0 v (by rw [hv];rfl));exact h0
theorem NewAt.some {B b:Nat} (h:B≤b):NewAt B (some ⟨b,0,none⟩):=fun x hx=>by cases hx;exact h
theorem apart {a a':Option Addr} {B B':Nat} (h:∀ x,a=some x→x.block<B) (h':NewAt B' a') (hB:B≤B'):∀ x,a=some x→¬ blkIn a' x.block:=by
  rintro x hx ⟨y,hy,e⟩;have:=h x hx;have:=h' y hy;omega
theorem apart' {a a':Option Addr} {B B':Nat} (h:NewAt B' a) (h':∀ x,a'=some x→x.block<B) (hB:B≤B'):∀ x,a=some x→¬ blkIn a' x.block:=by
  rintro x hx ⟨y,hy,e⟩;have:=h x hx;have:=h' y hy;omega
theorem SemK.appendZero {P:Program} {α:Type} {enc:α→List Value} {t e by_ B:Nat} {zs:List Value} (ht:mkInfo P t=some (e,zs,by_)) {w:World} {a:Option Addr} {n c:Nat} {xs:List α} (h:Grow enc zs.length B e w a n c xs) {x:Addr} {c':Nat} {ty:Nat} {cs:Array Bool} {K:Next→World→Prop}
    (hK:K (.value (.slice a n c)) w):SemK P (builtin .append #[t,t] ty cs #[.slice a n c,.slice (some x) 0 c']) w K:=by
  obtain ⟨i,z,hu,hi,hz,hzs,hbb,hs,hp⟩:=mkInfo_spec ht;refine SemK.of ?_ hK;have hle:=h.le.1;cases a with
  | none=>simp [builtin,Builtin.append_,run_underlying hu,sizeOf,typeInfo,hi,Builtin.lenOf,hle,Builtin.firstCells,loadCells,loadCellsFrom]
  | some y=>simp [builtin,Builtin.append_,run_underlying hu,sizeOf,typeInfo,hi,Builtin.lenOf,hle,Builtin.firstCells,loadCells,loadCellsFrom,storeCells]
theorem SemK.appendArr0 {P:Program} {α:Type} {enc:α→List Value} {t e by_ B:Nat} {zs:List Value} (ht:mkInfo P t=some (e,zs,by_)) (he:∀ x,(enc x).length=zs.length) {w:World} {a:Option Addr} {n c:Nat} {xs:List α} (h:Grow enc zs.length B e w a n c xs)
    {a2:Option Addr} {m c':Nat} {ys:List α} (hy:Arr enc zs.length w a2 m ys) (hc:∀ y∈ys,∀ v∈enc y,cellish v=true) (hsm:n+m≤1099511627776) (hby:(n+m) * by_≤140737488355328) (hB:B≤w.heap.size) {ty:Nat} {cs:Array Bool} {K:Next→World→Prop}
    (hK:∀ a' c' w',Grow enc zs.length B e w' a' (n+m) c' (xs++ys)→Mod (blkIn a) w w'→(∀ k,blkIn a' k→blkIn a k∨k=w.heap.size)→K (.value (.slice a' (n+m) c')) w') :
    SemK P (builtin .append #[t,t] ty cs #[.slice a n c,.slice a2 m c']) w K:=by
  rcases Nat.eq_zero_or_pos m with h0 | h0
  · subst h0;have hys:ys=[]:=List.eq_nil_of_length_eq_zero hy.1;subst hys;cases a2 with
    | none=>exact SemK.appendNone ht h (hK a c w (by simpa using h) (Mod.refl _ _) (fun k hk=>.inl hk))
    | some x=>exact SemK.appendZero ht h (hK a c w (by simpa using h) (Mod.refl _ _) (fun k hk=>.inl hk))
  · refine SemK.appendArr ht he h hy (fun x hx=>?_) hc hsm hby hB hK;obtain ⟨y,hy0⟩:∃ y,ys[0]? = some y:=⟨_,List.getElem?_eq_getElem (by rw [hy.1];exact h0)⟩;obtain ⟨b,o,hb,_⟩:=hy.2.2 0 y hy0;rw [hb] at hx;cases hx
    rfl
theorem SemK.appendNew {P:Program} {α:Type} {enc:α→List Value} {t e by_ B:Nat} {zs:List Value} (ht:mkInfo P t=some (e,zs,by_)) (he:∀ x,(enc x).length=zs.length) {w:World} {a:Option Addr} {c:Nat} (h:Grow enc zs.length B e w a 0 c ([]:List α))
    {a2:Option Addr} {m c':Nat} {ys:List α} (hy:Arr enc zs.length w a2 m ys) (hc:∀ y∈ys,∀ v∈enc y,cellish v=true) (hsm:m≤1099511627776) (hby:m * by_≤140737488355328) (hB:B≤w.heap.size) {ty:Nat} {cs:Array Bool} {K:Next→World→Prop}
    (hK:∀ a' c' w',Grow enc zs.length B e w' a' m c' ys→Mod (blkIn a) w w'→(∀ k,blkIn a' k→blkIn a k∨k=w.heap.size)→K (.value (.slice a' m c')) w') :
    SemK P (builtin .append #[t,t] ty cs #[.slice a 0 c,.slice a2 m c']) w K :=
  SemK.appendArr0 ht he h hy hc (by omega) (by rw [Nat.zero_add];exact hby) hB fun a' c' w' hG hM hi=>by
    have:=hK a' c' w' (by simpa using hG) hM hi;rw [Nat.zero_add];exact this
theorem Own.some {α:Type} {enc:α→List Value} {w:World} {a:Option Addr} {n t:Nat} {xs:List α} (h:Own enc w a n t xs) (hn:0<n):∃ b:Nat,a=some ⟨b,0,none⟩:=by
  rcases h.2.2 with ⟨_,h0⟩ | ⟨b,rest,ha,_⟩
  · omega
  · exact ⟨b,ha⟩
theorem Own.elem {α:Type} {enc:α→List Value} {sz:Nat} (he:∀ x,(enc x).length=sz) {w:World} {b n t:Nat} {xs:List α} (h:Own enc w (Option.some ⟨b,0,none⟩) n t xs) {k:Nat} {x:α} (hx:xs[k]? = Option.some x):Cells w b (0+k * sz) (enc x):=by
  rcases h.2.2 with ⟨ha,_⟩ | ⟨b',rest,ha,hb⟩
  · cases ha
  · cases ha
    exact Cells.elem he hb.cells hx
theorem take_cons_drop {α:Type} {xs:List α} {k:Nat} {x:α} (h:xs[k]? = Option.some x):xs.take k++x :: xs.drop (k+1)=xs:=by
  rw [← drop_cons h,List.take_append_drop]
theorem set_get {α:Type} {xs:List α} {k:Nat} {x:α} (h:xs[k]? = Option.some x) (y:α):(xs.set k y)[k]? = Option.some y:=by
  have:=(List.getElem?_eq_some_iff.1 h).1;simp [this]
theorem set_split {α:Type} {xs:List α} {k:Nat} {x y:α} (h:xs[k]? = Option.some x):xs.set k y=xs.take k++y :: xs.drop (k+1):=set_take_drop xs k y (List.getElem?_eq_some_iff.1 h).1
theorem flat_upd {α:Type} {enc:α→List Value} {sz:Nat} (he:∀ x,(enc x).length=sz) {xs:List α} {k j:Nat} {x x':α} (hx:xs[k]? = Option.some x) (hj:j<sz) {v:Value} (hx':(enc x).set j v=enc x') (rest:List Value) :
    (flat enc xs++rest).set (k * sz+j) v=flat enc (xs.set k x')++rest:=by
  have hk:=(List.getElem?_eq_some_iff.1 hx).1;have h1:=flat_update he (xs.take k) (xs.drop (k+1)) x x' rest j v hj hx';rw [take_cons_drop hx,List.length_take,Nat.min_eq_left (by omega)] at h1;rw [h1,set_split hx]
theorem SemK.storeOwn1 {P:Program} {α:Type} {enc:α→List Value} {sz:Nat} {ty:Nat} (hty:oneCell P ty=true) (he:∀ x,(enc x).length=sz) {w:World} {b n t k j:Nat} {xs:List α} (h:Own enc w (Option.some ⟨b,0,none⟩) n t xs) {x:α} (hx:xs[k]? = Option.some x) (hj:j<sz) {v:Value} (hv:cellish v=true) (x':α) (hx':(enc x).set j v=enc x')
    {K:Unit→World→Prop} (hK:∀ w',Chg b w w'→Own enc w' (Option.some ⟨b,0,none⟩) n t (xs.set k x')→K () w'):SemK P (Instr.storeAt ty (.pointer (Option.some ⟨b,0+k * sz+j,none⟩)) v) w K:=by
  obtain ⟨h1,h2,h3⟩:=h;rcases h3 with ⟨ha,_⟩ | ⟨b',rest,ha,hb⟩
  · cases ha
  · cases ha
    have hk:=(List.getElem?_eq_some_iff.1 hx).1;have hlt:k * sz+j<(flat enc xs++rest).length:=by
      rw [List.length_append,flat_length he];have:=Nat.mul_le_mul_right sz (show k+1≤xs.length by omega);rw [Nat.add_mul] at this;omega
    rw [Nat.zero_add];refine SemK.store1 hty hb hlt hv fun w' hc hB=>hK w' hc ⟨by simpa using h1,h2,.inr ⟨b,rest,rfl,?_⟩⟩;rw [flat_upd he hx hj hx'] at hB;exact hB
theorem SemK.storeOwn {P:Program} {α:Type} {enc:α→List Value} {sz:Nat} {ty:Nat} (hty:aggSize P ty=Option.some sz) (he:∀ x,(enc x).length=sz) {w:World} {b n t k:Nat} {xs:List α} (h:Own enc w (Option.some ⟨b,0,none⟩) n t xs) {x:α} (hx:xs[k]? = Option.some x) (x':α) (hv:∀ v∈enc x',cellish v=true)
    {K:Unit→World→Prop} (hK:∀ w',Chg b w w'→Own enc w' (Option.some ⟨b,0,none⟩) n t (xs.set k x')→K () w'):SemK P (Instr.storeAt ty (.pointer (Option.some ⟨b,0+k * sz,none⟩)) (.agg ⟨enc x'⟩)) w K:=by
  obtain ⟨h1,h2,h3⟩:=h;rcases h3 with ⟨ha,_⟩ | ⟨b',rest,ha,hb⟩
  · cases ha
  · cases ha
    have hk:=(List.getElem?_eq_some_iff.1 hx).1;have hlt:k * sz+sz≤(flat enc xs++rest).length:=by
      rw [List.length_append,flat_length he];have:=Nat.mul_le_mul_right sz (show k+1≤xs.length by omega);rw [Nat.add_mul] at this;omega
    rw [Nat.zero_add];refine SemK.storeAgg hty hb (he x') hlt hv fun w' hc hB=>hK w' hc ⟨by simpa using h1,h2,.inr ⟨b,rest,rfl,?_⟩⟩;have e:(flat enc xs++rest).take (k * sz)++enc x'++(flat enc xs++rest).drop (k * sz+sz)=flat enc (xs.set k x')++rest:=by
      have hs:=take_cons_drop hx;have hl:(flat enc (xs.take k)).length=k * sz:=by rw [flat_length he,List.length_take,Nat.min_eq_left (by omega)]
      have hf:flat enc xs=flat enc (xs.take k)++(enc x++flat enc (xs.drop (k+1))):=by
        conv=>lhs;rw [← hs]
        rw [flat_append];simp [flat]
      have t1:(flat enc xs++rest).take (k * sz)=flat enc (xs.take k):=by
        rw [hf,List.append_assoc,← hl,List.take_left]
      have t2:(flat enc xs++rest).drop (k * sz+sz)=flat enc (xs.drop (k+1))++rest:=by
        rw [hf,List.append_assoc,List.append_assoc,← hl,← List.drop_drop,List.drop_left];rw [show sz=(enc x).length from (he x).symm,List.drop_left]
      rw [t1,t2,set_split hx,flat_append];simp [flat]
    rw [e] at hB;exact hB
theorem Grow.of_own {α:Type} {enc:α→List Value} {sz B e:Nat} (he:∀ x,(enc x).length=sz) {w w':World} {b n c:Nat} {xs ys:List α} (h:Grow enc sz B e w (Option.some ⟨b,0,none⟩) n c xs) (hs:∀ cs t,Blk w b cs t→∃ cs',Blk w' b cs' t∧cs'.length=cs.length) (ho:Own enc w' (Option.some ⟨b,0,none⟩) n e ys):Grow enc sz B e w' (Option.some ⟨b,0,none⟩) n c ys:=by
  obtain ⟨h1,h2,h3⟩:=h;rcases h3 with ⟨hv,_⟩ | ⟨g,cap,cur,hv,hB,hg,hr1,hr2,hr3,hr4⟩
  · cases hv
  · simp only [Value.slice.injEq,Option.some.injEq,Addr.mk.injEq,and_true,true_and] at hv;obtain ⟨rfl,rfl⟩:=hv;obtain ⟨p1,p2,p3⟩:=ho;rcases p3 with ⟨ha,_⟩ | ⟨b',rest,ha,hb⟩
    · cases ha
    · cases ha
      obtain ⟨cs',hcs,hl⟩:=hs cur.toList e (by unfold Blk;simpa using hg);unfold Blk at hcs hb;rw [hb] at hcs;simp only [Option.some.injEq,Obj.cells.injEq,and_true] at hcs;have hcs':flat enc ys++rest=cs':=by
        have:=congrArg Array.toList hcs;simpa using this
      refine ⟨p1,by rw [flat_length he,p1],.inr ⟨b,c,_,rfl,hB,hb,hr1,hr2,?_,?_⟩⟩
      · simp only [List.size_toArray];rw [hcs',hl];simpa using hr3
      · simp only;have:(flat enc ys).length=n * sz:=by rw [flat_length he,p1]
        rw [← this,List.take_left]
theorem Blk.inj {w:World} {b t t':Nat} {cs cs':List Value} (h:Blk w b cs t) (h':Blk w b cs' t'):cs'=cs∧t'=t:=by
  unfold Blk at h h';rw [h] at h';simp only [Option.some.injEq,Obj.cells.injEq,and_true] at h';exact ⟨by have:=congrArg Array.toList h'.1;simpa using this.symm,h'.2.symm⟩
theorem SemK.storeGrow1 {P:Program} {α:Type} {enc:α→List Value} {sz B e:Nat} {ty:Nat} (hty:oneCell P ty=true) (he:∀ x,(enc x).length=sz) {w:World} {b n c k j:Nat} {xs:List α} (h:Grow enc sz B e w (Option.some ⟨b,0,none⟩) n c xs) {x:α} (hx:xs[k]? = Option.some x) (hj:j<sz) {v:Value} (hv:cellish v=true) (x':α) (hx':(enc x).set j v=enc x')
    {K:Unit→World→Prop} (hK:∀ w',Chg b w w'→Grow enc sz B e w' (Option.some ⟨b,0,none⟩) n c (xs.set k x')→K () w'):SemK P (Instr.storeAt ty (.pointer (Option.some ⟨b,0+k * sz+j,none⟩)) v) w K:=by
  have ho:=h.own;obtain ⟨h1,h2,h3⟩:=ho;rcases h3 with ⟨ha,_⟩ | ⟨b',rest,ha,hb⟩
  · cases ha
  · cases ha
    have hk:=(List.getElem?_eq_some_iff.1 hx).1;have hlt:k * sz+j<(flat enc xs++rest).length:=by
      rw [List.length_append,flat_length he];have:=Nat.mul_le_mul_right sz (show k+1≤xs.length by omega);rw [Nat.add_mul] at this;omega
    rw [Nat.zero_add];refine SemK.store1 hty hb hlt hv fun w' hc hB=>hK w' hc (Grow.of_own he h (fun cs t hcs=>?_) ⟨by simpa using h1,h2,.inr ⟨b,rest,rfl,?_⟩⟩)
    · obtain ⟨rfl,rfl⟩:=Blk.inj hb hcs;exact ⟨_,hB,by simp⟩
    · rw [flat_upd he hx hj hx'] at hB;exact hB
theorem DSemK.indexOwn {P:Program} {sz t:Nat} (ht:elemSize P t=Option.some sz) {w:World} {b o n c:Nat} {i:Int} (k:Nat) (hi:i=k) (hlt:k<n) {kd:IntKind}
    {K:Value→Prop} (hK:K (.pointer (Option.some ⟨b,o+k * sz,none⟩))):DSemK P (Instr.indexAt t (.slice (Option.some ⟨b,o,none⟩) n c) (.int kd i)) w K :=
  DSemK.of (fun _ _=>SemK.indexOwn ht k hi hlt ⟨rfl,rfl⟩) hK
theorem flat_rep {α:Type} {enc:α→List Value} {z:α} {zs:List Value} (hz:enc z=zs):∀ n:Nat,flat (fun _:Unit=>zs) (List.replicate n ())=flat enc (List.replicate n z)
  | 0=>rfl
  | n+1=>by
    have ih:=flat_rep hz n;simp only [flat,List.replicate_succ,List.flatMap_cons] at *;rw [ih,hz]
theorem Grow.of_make {α:Type} {enc:α→List Value} {sz B e:Nat} (he:∀ x,(enc x).length=sz) {z:α} {zs:List Value} (hz:enc z=zs) {w:World} {b n:Nat} (h:Blk w b (flat (fun _:Unit=>zs) (List.replicate n ())) e) (hB:B≤b) (hm:n≤9223372036854775807):Grow enc sz B e w (Option.some ⟨b,0,none⟩) n n (List.replicate n z) :=
  Grow.of_blk he (by rw [← flat_rep hz];exact h) hB (by simp) hm
theorem SemK.loadAggAt {P:Program} {ty n:Nat} (hty:aggSize P ty=some n) {w:World} {b o k:Nat} {vs:List Value} (h:Cells w b o vs) (hn:((vs.drop k).take n).length=n) {K:Value→World→Prop} (hK:K (.agg ((vs.drop k).take n).toArray) w) :
    SemK P (Instr.loadAt ty (.pointer (some ⟨b,o+k,none⟩))) w K:=SemK.loadAgg hty ((h.drop k).take n) hn hK
theorem DSemK.loadAggAt {P:Program} {ty n:Nat} (hty:aggSize P ty=some n) {w:World} {b o k:Nat} {vs:List Value} (h:Cells w b o vs) (hn:((vs.drop k).take n).length=n) {K:Value→Prop} (hK:K (.agg ((vs.drop k).take n).toArray)) :
    DSemK P (Instr.loadAt ty (.pointer (some ⟨b,o+k,none⟩))) w K:=DSemK.loadAgg hty ((h.drop k).take n) hn hK
theorem SemK.storeAll {P:Program} {ty n:Nat} (hty:aggSize P ty=some n) {w:World} {b t:Nat} {cs:List Value} (h:Blk w b cs t) {vs:List Value} (hn:vs.length=n) (hc:cs.length=n) (hv:∀ v∈vs,cellish v=true) {K:Unit→World→Prop}
    (hK:∀ w',Chg b w w'→Blk w' b vs t→K () w'):SemK P (Instr.storeAt ty (.pointer (some ⟨b,0,none⟩)) (.agg ⟨vs⟩)) w K :=
  SemK.storeAgg hty h (k:=0) hn (by omega) hv fun w' hc' hB=>hK w' hc' (by
    have e:cs.take 0++vs++cs.drop (0+n)=vs:=by
      rw [List.drop_eq_nil_of_le (by omega)];simp
    rw [e] at hB;exact hB)
def Apart (a b:Option Addr):Prop:=∀ y,b=some y→¬ blkIn a y.block
theorem Apart.app {a a' b:Option Addr} {B:Nat} (h:Apart a b) (hi:∀ k,blkIn a' k→blkIn a k∨k=B) (hb:∀ x,b=some x→x.block<B):Apart a' b:=by
  intro y hy hk;rcases hi _ hk with h1 | h1
  · exact h y hy h1
  · have:=hb y hy;omega
theorem Grow.base {α:Type} {enc:α→List Value} {sz B B' e:Nat} {w:World} {a:Option Addr} {n c:Nat} {xs:List α} (h:Grow enc sz B e w a n c xs) (hb:B'≤B):Grow enc sz B' e w a n c xs:=by
  obtain ⟨h1,h2,h3⟩:=h;refine ⟨h1,h2,?_⟩;rcases h3 with h3 | ⟨g,cap,cur,hv,hB,rest⟩
  · exact .inl h3
  · exact .inr ⟨g,cap,cur,hv,Nat.le_trans hb hB,rest⟩
theorem Grow.lt {α:Type} {enc:α→List Value} {sz B e:Nat} {w:World} {a:Option Addr} {n c:Nat} {xs:List α} (h:Grow enc sz B e w a n c xs):∀ x,a=some x→x.block<w.heap.size:=fun x hx=>(h.blk_lt x hx).2
theorem i64_wrap {n:Int} (h1 : -9223372036854775808≤n) (h2:n≤9223372036854775807):IntKind.wrap .i64 n=n:=IntWalk.i64_in n ⟨h1,h2⟩
end Go.Vc
namespace Go.Vc
open Go Go.RowKit
section
variable {P:Program}
theorem isStr_u {t:Nat} (h:isStr P t=true):P.underlying t=some .string:=by
  unfold isStr at h;split at h<;>simp_all
theorem run_slice_str {t:Nat} (ht:isStr P t=true) {s:ByteArray} {l h:Nat} (hl:l≤h) (hh:h≤s.size) {lo hi:Option Value} {k k':IntKind} (hlo:(lo=none∧l=0)∨lo=some (.int k l)) (hhi:(hi=none∧h=s.size)∨hi=some (.int k' h)) (w:World) :
    (Instr.sliceAt t (.string s) lo hi none).run P w = .ok (.string (s.extract l h)) w:=by
  have hu:=isStr_u ht;rw [run_sliceAt_string w t _ _ _ _ hu];rcases hlo with ⟨rfl,rfl⟩ | rfl<;>rcases hhi with ⟨rfl,rfl⟩ | rfl
  · exact run_slice_string_all w t s hu
  · rw [run_slice_string_h w t s hu _ _ (by omega) (by omega)];simp
  · rw [run_slice_string_l w t s hu _ _ (by omega) (by omega)];simp
  · rw [run_slice_string w t s _ _ _ _ hu (by omega) (by omega) (by omega)];simp
theorem SemK.sliceStr {t:Nat} (ht:isStr P t=true) {s:ByteArray} (l h:Nat) (hl:l≤h) (hh:h≤s.size) {lo hi:Option Value} {k k':IntKind} (hlo:(lo=none∧l=0)∨lo=some (.int k l)) (hhi:(hi=none∧h=s.size)∨hi=some (.int k' h)) {w:World} {K:Value→World→Prop}
    (hK:K (.string (s.extract l h)) w):SemK P (Instr.sliceAt t (.string s) lo hi none) w K:=SemK.of (run_slice_str ht hl hh hlo hhi w) hK
theorem DSemK.sliceStr {t:Nat} (ht:isStr P t=true) {s:ByteArray} (l h:Nat) (hl:l≤h) (hh:h≤s.size) {lo hi:Option Value} {k k':IntKind} (hlo:(lo=none∧l=0)∨lo=some (.int k l)) (hhi:(hi=none∧h=s.size)∨hi=some (.int k' h)) {w:World} {K:Value→Prop}
    (hK:K (.string (s.extract l h))):DSemK P (Instr.sliceAt t (.string s) lo hi none) w K:=DSemK.of (fun w' _=>SemK.of (run_slice_str ht hl hh hlo hhi w') ⟨rfl,rfl⟩) hK
theorem extract_bs (s:ByteArray) (l h:Nat):s.extract l h=bs ((s.data.toList.drop l).take (h - l)):=by
  have e:=ByteArray.extract_mk s.data.toList l h;have e2:ByteArray.mk s.data.toList.toArray=s:=by obtain ⟨⟨x⟩⟩:=s;rfl
  rw [e2] at e;exact e
theorem extract_size (s:ByteArray) (l h:Nat) (hh:h≤s.size):(s.extract l h).size=h - l:=by
  rw [extract_bs,bs_size];have:s.data.toList.length=s.size:=by simp
  simp only [List.length_take,List.length_drop];omega
theorem sizeC (l:List UInt8):(ByteArray.mk ⟨l⟩).size=l.length:=rfl
theorem sizeT (l:List UInt8):(ByteArray.mk l.toArray).size=l.length:=rfl
theorem SemK.quoT {t:Nat} {X Y:Operand} {a b:Int} (h1 : -9223372036854775808≤a) (h2:a≤9223372036854775807) (hb:2≤b) {w:World} {K:Value→World→Prop} (hK:K (.int .i64 (a.tdiv b)) w) :
    SemK P (arith .quo t X Y (.int .i64 a) (.int .i64 b)) w K:=by
  refine SemK.of ?_ hK;have hz:¬ b=0:=by omega
  have h3:(a.tdiv b).natAbs≤a.natAbs / 2:=by
    rw [Int.natAbs_tdiv];exact Nat.div_le_div_left (by omega) (by omega)
  have h4:0≤a→0≤a.tdiv b:=fun h=>Int.tdiv_nonneg h (by omega);have:=IntWalk.i64_in (a.tdiv b) ⟨by omega,by omega⟩;simp [arith,eqGuard_int,binOp,Op.intDiv,hz,this]
theorem SemK.remT {t:Nat} {X Y:Operand} {a b:Int} (hb:0<b) {w:World} {K:Value→World→Prop} (hK:K (.int .i64 (a.tmod b)) w) :
    SemK P (arith .rem t X Y (.int .i64 a) (.int .i64 b)) w K:=by
  refine SemK.of ?_ hK;have hz:¬ b=0:=by omega
  simp [arith,eqGuard_int,binOp,Op.intDiv,hz]
theorem SemK.neg {a:Int} (r:Int) (hr : -a=r) (h1 : -9223372036854775808≤r) (h2:r≤9223372036854775807) {w:World} {K:Value→World→Prop} (hK:K (.int .i64 r) w) :
    SemK P (Op.unary .neg (.int .i64 a)) w K:=by
  refine SemK.of ?_ hK;have:=IntWalk.i64_in r ⟨h1,h2⟩;have e:0 - a=r:=by omega
  simp [Op.unary,Op.intArith,e,this]
theorem SemK.subK {t:Nat} {X Y:Operand} {k:IntKind} {a b:Int} (r:Int) (hr:a - b=r) (hw:k.wrap r=r) {w:World} {K:Value→World→Prop} (hK:K (.int k r) w) :
    SemK P (arith .sub t X Y (.int k a) (.int k b)) w K:=by
  refine SemK.of ?_ hK;simp [arith,eqGuard_int,binOp,Op.intArith,hr,hw]
theorem u8_wrap {n:Int} (h0:0≤n) (h1:n≤255):IntKind.u8.wrap n=n:=by
  simp [IntKind.wrap,IntKind.bits,IntKind.signed];omega
theorem SemK.toBytes {s t e:Nat} {src:ByteArray} (hs:isStr P s=true) (ht:P.underlying t=some (.slice e)) (he:P.underlying e=some (.int .u8)) (hm:src.size≤9223372036854775807) {w:World} {K:Value→World→Prop}
    (hK:∀ b c w',w.heap.size≤b→b<w'.heap.size→Ext w w'→Arr eB 1 w' (some ⟨b,0,none⟩) src.size src.data.toList→K (.slice (some ⟨b,0,none⟩) src.size c) w') :
    SemK P (convert s t (.string src)) w K:=by
  have hr:=Lib.run_convert_string_bytes w s t e src (isStr_u hs) ht he
  have hsz:src.data.toList.length=src.size:=by simp
  have hx:Ext w (Lib.bytesWorld w e src):=Lib.bytesWorld_below w e src;refine SemK.of hr (hK _ _ _ (Nat.le_refl _) ?_ hx ⟨hsz,hm,fun i x hi=>⟨_,_,rfl,?_⟩⟩)
  · show w.heap.size<(Lib.bytesWorld w e src).heap.size;unfold Lib.bytesWorld;simp [World.freeze,World.alloc]
  · intro j v hv;cases j with
    | zero =>
      simp only [eB,List.getElem?_cons_zero,Option.some.injEq] at hv;subst hv;have hlt:i<src.size:=by rw [← hsz];exact (List.getElem?_eq_some_iff.1 hi).1
      have:=Lib.bytesWorld_cell w e src i hlt;rw [List.getD_eq_getElem?_getD,hi] at this;simpa using this
    | succ j=>simp [eB] at hv
def isIface (P:Program) (t:Nat):Bool:=match P.underlying t with | some (.interface _)=>true | _=>false
theorem isIface_u {t:Nat} (h:isIface P t=true):P.underlying t=some (.interface (P.methodsAt t)):=by
  unfold isIface at h;unfold Program.methodsAt;split at h
  · rename_i m hm;rw [hm]
  · cases h
theorem SemK.neqNilN {t:Nat} (ht:isIface P t=true) {x:Operand} {w:World} {K:Value→World→Prop} (hK:K (.bool false) w):SemK P (arith .neq t x (.const .nilIface) .nilIface .nilIface) w K:=by
  refine SemK.of ?_ hK;simp [arith,eqGuard,run_neq_nil_nil w t (isIface_u ht)]
theorem SemK.neqNilI {t d:Nat} (ht:isIface P t=true) {z:Value} {x:Operand} {w:World} {K:Value→World→Prop} (hK:K (.bool true) w):SemK P (arith .neq t x (.const .nilIface) (.iface d z) .nilIface) w K:=by
  refine SemK.of ?_ hK;simp [arith,eqGuard,run_neq_held_nil w t d z (isIface_u ht)]
end
theorem addr_add0 (a:Addr):a.add 0=a:=by
  unfold Addr.add;rfl
def isBoolT (P:Program) (t:Nat):Bool:=match P.underlying t with | some .bool=>true | _=>false
end Go.Vc
namespace Go.Vc
open Go Go.RowKit
def Later (a b:Option Addr):Prop:=∀ x,a=some x→∀ k,blkIn b k→x.block<k
theorem later {a a':Option Addr} {B B':Nat} (h:∀ x,a=some x→x.block<B) (h':NewAt B' a') (hB:B≤B'):Later a a':=by
  rintro x rfl k ⟨y,rfl,rfl⟩;have h1:=h x rfl;have h2:=h' y rfl;omega
theorem Mod.trans_new {S S':Nat→Prop} {x y z:World} (h:Mod S x y) (k:Mod S' y z) (hb:∀ i,S' i→x.heap.size≤i):Mod S x z :=
  ⟨k.os.trans h.os,k.tape.trans h.tape,k.output.trans h.output,Nat.le_trans h.size k.size,
   fun i hi hl=>(k.block i (fun hs=>by have:=hb i hs;omega) (Nat.lt_of_lt_of_le hl h.size)).trans (h.block i hi hl)⟩
def Src (w:World) (a:Option Addr) (k:Nat):Prop:=∃ (b t:Nat) (a':Option Addr) (n c:Nat) (xs:List UInt8) (i seed:Int),a=some ⟨b,0,none⟩∧Blk w b [.slice a' n c,.int .i64 i,.int .u64 seed] t∧Arr eB 1 w a' n xs∧(0<n→∀ x,a'=some x→x.block<b)∧0≤i∧i≤k
theorem Src.lt {w:World} {a:Option Addr} {k:Nat} (h:Src w a k):∀ x,a=some x→x.block<w.heap.size:=by
  obtain ⟨b,t,a',n,c,xs,i,seed,rfl,h1,_⟩:=h;rintro x hx;cases hx
  exact h1.lt
theorem Src.ext {w w':World} {a:Option Addr} {k:Nat} (h:Src w a k) (e:Ext w w'):Src w' a k:=by
  obtain ⟨b,t,a',n,c,xs,i,seed,h0,h1,h2,h3⟩:=h;exact ⟨b,t,a',n,c,xs,i,seed,h0,h1.ext e,h2.ext e,h3⟩
theorem Src.mod {w w':World} {a a1:Option Addr} {k:Nat} (h:Src w a k) (e:Mod (blkIn a1) w w') (hl:Later a a1):Src w' a k:=by
  obtain ⟨b,t,a',n,c,xs,i,seed,rfl,h1,h2,h3,h4⟩:=h;have hb:∀ j,blkIn a1 j→b<j:=fun j hj=>hl _ rfl j hj;refine ⟨b,t,a',n,c,xs,i,seed,rfl,h1.mod e (fun hc=>by have:=hb b hc;omega),?_,h3,h4⟩;by_cases hn:0<n
  · exact h2.mod e fun x hx hc=>by have h5:=h3 hn x hx;have h6:=hb x.block hc;omega
  · obtain rfl:n=0:=by omega
    have:xs=[]:=List.eq_nil_of_length_eq_zero h2.len;subst this;exact Arr.nil
theorem apartChg' {a:Option Addr} {b B B':Nat} (nt:NewAt B a) (l:b<B') (le:B'≤B):∀ x,a=some x→¬ (fun k=>k=b) x.block:=fun x hx e=>by
  have h1:=nt x hx;have e:x.block=b:=e;omega
theorem neChg {b bk B B':Nat} (l:b<B) (g:B'≤bk) (le:B≤B'):¬ (fun k=>k=bk) b:=fun e=>by
  have e:b=bk:=e;omega
theorem neChg' {b bk B B':Nat} (g:B≤b) (l:bk<B') (le:B'≤B):¬ (fun k=>k=bk) b:=fun e=>by
  have e:b=bk:=e;omega
theorem u8_of {n:Int} (h0:0≤n) (h1:n≤255):∃ c:UInt8,((c.toNat:Nat):Int)=n:=⟨UInt8.ofNat n.toNat,by simp;omega⟩
theorem Arr.keep {w w':World} {a:Option Addr} {n b:Nat} {xs:List UInt8} (h:Arr eB 1 w a n xs) (m:Mod (blkIn (some ⟨b,0,none⟩)) w w') (hne:0<n→∀ x,a=some x→x.block<b):Arr eB 1 w' a n xs:=by
  by_cases hn:0<n
  · exact h.mod m fun x hx ⟨y,hy,e⟩=>by
      cases hy
      have:=hne hn x hx;have e:x.block=b:=e;omega
  · obtain rfl:n=0:=by omega
    have:xs=[]:=List.eq_nil_of_length_eq_zero h.len;subst this;exact Arr.nil
theorem Src.more {w:World} {a:Option Addr} {k k':Nat} (h:Src w a k) (e:k≤k'):Src w a k':=by
  obtain ⟨b,t,a',n,c,xs,i,seed,h0,h1,h2,h3,h4,h5⟩:=h;exact ⟨b,t,a',n,c,xs,i,seed,h0,h1,h2,h3,h4,by omega⟩
end Go.Vc
namespace Go.Vc
open Go Go.RowKit Go.ChangeShapes Go.WideShapes
section
variable {P:Program}
def fieldKind (P:Program) (p:Field×Nat):Option Bool :=
  if p.1.offset=p.2∧P.cellsOf p.1.type=1 then (match P.underlying p.1.type with
      | some .string=>some true
      | some (.int .i64)=>some false
      | _=>none) else none
def flatKinds (P:Program) (t:Nat):Option (List Bool) :=
  match P.underlying t with
  | some (.struct fs)=>(fs.toList.zipIdx.mapM (fieldKind P)).bind fun l=>if P.cellsOf t=l.length then some l else none
  | _=>none
def i64ok (n:Int):Prop := -9223372036854775808≤n∧n≤9223372036854775807
def strok (s:ByteArray):Prop:=s.size≤9223372036854775807
def Flat:List Bool→List Value→Prop
  | [],cs=>cs=[]
  | true :: ks,cs=>∃ s r,cs = .string s :: r∧strok s∧Flat ks r
  | false :: ks,cs=>∃ n r,cs = .int .i64 n :: r∧i64ok n∧Flat ks r
def flatEq:List Value→List Value→Bool
  | [],[]=>true
  | .string a :: xs,.string b :: ys=>decide (a=b) && flatEq xs ys
  | .int _ a :: xs,.int _ b :: ys=>decide (a=b) && flatEq xs ys
  | _,_=>false
theorem run_part1 {t off:Nat} {cs:List Value} {v:Value} (ht:oneCell P t=true) (h:cs[off]? = some v) (w:World):(part t ⟨cs⟩ off).run P w = .ok v w:=by
  obtain ⟨d,inf,hu,hi,hs,hag⟩:=oneCell_spec ht;have hag:=congrFun hag w;unfold part;simp only [Sem.run_bind,hag,Result.andThen_ok,Bool.false_eq_true,if_false];have:(Array.mk cs)[off]? = some v:=by simpa using h
  rw [this];rfl
def fieldsFine (P:Program) (t:Nat):Bool :=
  match P.underlying t with
  | some (.struct fs)=>(fs.toList.all fun f=>f.name != "_" && oneCell P f.type) && !P.stoodInHeld t && !P.eqGuardType P.depth t
  | _=>false
theorem run_eqFields_flat (d:Nat) (xs ys:List Value) (w:World):∀ (fs:List Field) (i:Nat) (ks:List Bool),(fs.zipIdx i).mapM (fieldKind P)=some ks→(fs.all fun f=>f.name != "_" && oneCell P f.type)=true→Flat ks (xs.drop i)→Flat ks (ys.drop i) →
    (Op.eqFields (d+1) ⟨xs⟩ ⟨ys⟩ fs).run P w = .ok (flatEq (xs.drop i) (ys.drop i)) w
  | [],i,ks,hk,_,hx,hy=>by
    simp at hk;subst hk;rw [show xs.drop i=[] from hx,show ys.drop i=[] from hy];simp [Op.eqFields,flatEq]
  | f :: fs,i,ks,hk,hf,hx,hy=>by
    simp only [List.zipIdx_cons,List.mapM_cons,Option.bind_eq_bind,Option.bind_eq_some_iff,Option.pure_def,Option.some.injEq] at hk;obtain ⟨k,hk0,ks',hks,rfl⟩:=hk;simp only [List.all_cons,Bool.and_eq_true,bne_iff_ne,ne_eq] at hf;obtain ⟨⟨hnm,hoc⟩,hf⟩:=hf;unfold fieldKind at hk0;simp only at hk0;split at hk0<;>try cases hk0
    rename_i ho;have hdx:∀ {zs:List Value} {v:Value} {r:List Value},zs.drop i=v :: r→zs[i]? = some v∧zs.drop (i+1)=r:=fun {zs v r} h=>by
      constructor
      · have:=List.getElem?_drop (xs:=zs) (i:=i) (j:=0);rw [h] at this;simpa using this.symm
      · have:=List.drop_drop (i:=1) (j:=i) (l:=zs);rw [h] at this;simpa [Nat.add_comm] using this.symm
    split at hk0<;>try cases hk0
    · rename_i hu;obtain ⟨a,r,e1,_,hx'⟩:=hx;obtain ⟨b,r',e2,_,hy'⟩:=hy;obtain ⟨g1,g2⟩:=hdx e1;obtain ⟨g3,g4⟩:=hdx e2;rw [← g2] at hx';rw [← g4] at hy';have ih:=run_eqFields_flat d xs ys w fs (i+1) ks' hks (by simpa using hf) hx' hy';rw [e1,e2];unfold Op.eqFields;simp only [ne_eq,hnm,not_false_eq_true,if_true,Sem.run_bind,ho.1,run_part1 hoc g1,run_part1 hoc g3,Result.andThen_ok,run_equalIn_string w d f.type a b hu,beqList_iff];by_cases hab:a=b
      · subst hab;simp only [decide_true,Bool.not_true,Bool.false_eq_true,if_false,ih,flatEq,Bool.true_and,g2,g4]
      · simp [hab,flatEq]
    · rename_i hu;obtain ⟨a,r,e1,_,hx'⟩:=hx;obtain ⟨b,r',e2,_,hy'⟩:=hy;obtain ⟨g1,g2⟩:=hdx e1;obtain ⟨g3,g4⟩:=hdx e2;rw [← g2] at hx';rw [← g4] at hy';have ih:=run_eqFields_flat d xs ys w fs (i+1) ks' hks (by simpa using hf) hx' hy';rw [e1,e2];unfold Op.eqFields;simp only [ne_eq,hnm,not_false_eq_true,if_true,Sem.run_bind,ho.1,run_part1 hoc g1,run_part1 hoc g3,Result.andThen_ok,run_equalIn_int w d f.type .i64 .i64 a b hu];by_cases hab:a=b
      · subst hab;simp only [beq_self_eq_true,Bool.not_true,Bool.false_eq_true,if_false,ih,flatEq,decide_true,Bool.true_and,g2,g4]
      · simp [hab,flatEq]
theorem run_equal_flat {t:Nat} {ks:List Bool} (hk:flatKinds P t=some ks) (hf:fieldsFine P t=true) {xs ys:List Value} (hx:Flat ks xs) (hy:Flat ks ys) (w:World) :
    (Op.equalIn 10000 t (.agg ⟨xs⟩) (.agg ⟨ys⟩)).run P w = .ok (flatEq xs ys) w:=by
  unfold flatKinds at hk;unfold fieldsFine at hf;split at hk<;>try cases hk
  rename_i fs hu;rw [hu] at hf;rw [Option.bind_eq_some_iff] at hk;obtain ⟨l,hm,hk⟩:=hk;split at hk<;>try cases hk
  simp only [Bool.and_eq_true,Bool.not_eq_true'] at hf;have hfo:P.fieldsOf t=fs:=by unfold Program.fieldsOf;rw [hu]
  rw [run_equalIn_struct w 9999 t ⟨xs⟩ ⟨ys⟩ (by rw [hfo];exact hu) hf.1.2,hfo];have:=run_eqFields_flat 9998 xs ys w fs.toList 0 ks hm (by simpa using hf.1.1) (by simpa using hx) (by simpa using hy);simpa using this
theorem fieldsFine_guard {t:Nat} (hf:fieldsFine P t=true):P.eqGuardType P.depth t=false:=by
  unfold fieldsFine at hf;split at hf<;>try cases hf
  simp only [Bool.and_eq_true,Bool.not_eq_true'] at hf;exact hf.2
theorem SemK.neqFlat {t:Nat} {ks:List Bool} (hk:flatKinds P t=some ks) (hf:fieldsFine P t=true) {xs ys:List Value} (hx:Flat ks xs) (hy:Flat ks ys) {X Y:Operand} {w:World} {K:Value→World→Prop} (hK:K (.bool (!flatEq xs ys)) w) :
    SemK P (arith .neq t X Y (.agg ⟨xs⟩) (.agg ⟨ys⟩)) w K:=by
  refine SemK.of ?_ hK;unfold arith;rw [Sem.run_bind,run_eqGuard_agg w .neq t X Y _ _ (fieldsFine_guard hf),Result.andThen_ok,run_neq_struct,run_equal_flat hk hf hx hy];rfl
def isBool (P:Program) (t:Nat):Bool :=
  match P.underlying t with
  | some .bool=>true
  | _=>false
theorem isBool_spec {t:Nat} (h:isBool P t=true):P.underlying t=some .bool:=by
  unfold isBool at h;split at h<;>simp_all
theorem SemK.neqBool {t:Nat} (ht:isBool P t=true) {X Y:Operand} {a b:Bool} {w:World} {K:Value→World→Prop} (hK:K (.bool (!decide (a=b))) w) :
    SemK P (arith .neq t X Y (.bool a) (.bool b)) w K:=by
  refine SemK.of ?_ hK;have hu:=isBool_spec ht;have:(a == b)=decide (a=b):=by cases a<;>cases b<;>rfl
  have he:(Op.equal t (.bool a) (.bool b)).run P w = .ok (a == b) w:=run_equalIn_bool w 9999 t a b hu;have hg:(eqGuard .neq t X Y (.bool a) (.bool b)).run P w = .ok () w:=by simp [eqGuard]
  unfold arith;rw [Sem.run_bind,hg,Result.andThen_ok];simp only [binOp,Sem.run_bind,he,Result.andThen_ok,this];rfl
theorem DSemK.neqBool {t:Nat} (ht:isBool P t=true) {X Y:Operand} {a b:Bool} {w:World} {K:Value→Prop} (hK:K (.bool (!decide (a=b)))) :
    DSemK P (arith .neq t X Y (.bool a) (.bool b)) w K:=DSemK.of (fun _ _=>SemK.neqBool ht ⟨rfl,rfl⟩) hK
end
end Go.Vc
namespace Go.Vc
open Go Go.RowKit Go.ChangeShapes Go.WideShapes
section
variable {H:Type} {enc:TypeId×Value→H} {P:Program}
theorem trodAll_stays {W W':World} (hl:laidOutB P=true) (hb:Ext W W'):∀ (ts:List TypeId) (vs:List Value) (ds:List (DataW H)) (ps:List MemPlace),(ts.all fun t=>P.readableRec t && decide (t<P.types.size))=true →
    DataW.TrodAll enc P W 0 (fun _=>true) true ts vs ds ps→DataW.TrodAll enc P W' 0 (fun b=>decide (b<W.heap.size)) true ts vs ds ps
  | [],vs,ds,ps,_,h=>by obtain ⟨rfl,rfl,rfl⟩:=trodAll_nil h;exact trodAll_mk0
  | t :: ts,vs,ds,ps,hr,h=>by
    obtain ⟨v,vs',d,ds',p,q,rfl,rfl,rfl,h0,h1⟩:=trodAll_cons h;simp only [List.all_cons,Bool.and_eq_true,decide_eq_true_eq] at hr;refine trodAll_cons_mk (Below.trod hl hr.1.1 hr.1.2 h0 hb ?_) (trodAll_stays hl hb ts vs' ds' q hr.2 h1);obtain ⟨m,hm⟩:=h0;exact fun x hx=>DataW.trod_lt m _ _ _ hm x hx
theorem open_arr {α:Type} [Inhabited α] {encα:α→List Value} {ok:α→Prop} {sz e t:Nat} {W:World} {v:Value} {d:DataW H} {p:List MemPlace} {base:Nat} (ht:P.underlying t=some (.slice e)) (hsz:P.cellsOf e=sz) (hpos:0<sz)
    (hone:∀ (n:Nat) (cs:List Value) (x:DataW H×List MemPlace),DataW.trod enc P W 0 (fun _=>true) true n e cs=some x→∃ y,cs=encα y∧ok y) (hlen:∀ y,(encα y).length=sz)
    (hok:Value.okWide P W .any base t v) (h:DataW.Trod enc P W 0 (fun _=>true) true t v d p) :
    ∃ a n c xs,v = .slice a n c∧Arr encα sz W a n xs∧∀ x∈xs,ok x:=by
  obtain ⟨a,n,c,rfl⟩:=okWide_slice ht hok;obtain ⟨fuel,hf⟩:=h;rcases Go.Deep.open_slice ht hf with ⟨hcs,_⟩ | ⟨ad,len,cap,m,k,D,Pl,hcs,_,hle,hmax,hm,_,hel⟩
  · simp [Value.cells] at hcs;obtain ⟨rfl,rfl,rfl⟩:=hcs;exact ⟨none,0,0,[],rfl,Arr.nil,by simp⟩
  · simp [Value.cells] at hcs;obtain ⟨rfl,hn,hc'⟩:=hcs;subst hn;subst hc';simp only [if_true] at hm;subst hm;rw [hsz] at hel;have key:∀ i,i<n→∃ y,W.cells? 0 (ad.add (i * sz)) sz=some (encα y)∧ok y:=fun i hi=>by
      obtain ⟨cs',h1,h2⟩:=hel i (by omega);obtain ⟨y,rfl,hy⟩:=hone _ _ _ h2;exact ⟨y,h1,hy⟩
    obtain ⟨F,hF⟩:=Go.Deep.choose_lt key;refine ⟨some ad,n,_,(List.range n).map F,rfl,⟨by simp,by omega,?_⟩,?_⟩
    · intro i x hx;have hi:i<n:=by
        have:=(List.getElem?_eq_some_iff.1 hx).1;simpa using this
      simp [hi] at hx;subst hx;obtain ⟨hc,_⟩:=hF i hi;obtain ⟨_,_,hcell⟩:=World.cells?_some hc;obtain ⟨b,o,spot⟩:=ad;have hsp:spot=none:=by
        have h0:=hcell 0 hpos;have:∃ v,(encα (F i))[0]? = some v:=⟨_,List.getElem?_eq_getElem (by rw [hlen];exact hpos)⟩;obtain ⟨v,hv⟩:=this;rw [hv] at h0;have h1:=World.cell?_spot h0;unfold Addr.add at h1;by_cases hz:i * sz=0
        · simpa [hz] using h1
        ·
          have h00:=hF 0 (by omega);obtain ⟨_,_,hcell0⟩:=World.cells?_some h00.1;have h01:=hcell0 0 hpos;obtain ⟨v0,hv0⟩:∃ v,(encα (F 0))[0]? = some v:=⟨_,List.getElem?_eq_getElem (by rw [hlen];exact hpos)⟩;rw [hv0] at h01;have h2:=World.cell?_spot h01;simpa [Addr.add] using h2
      subst hsp;refine ⟨b,o,rfl,fun j v hj=>?_⟩;have hjl:j<sz:=by rw [← hlen (F i)];exact (List.getElem?_eq_some_iff.1 hj).1
      have:=hcell j hjl;rw [hj] at this;rw [addr_add_none,addr_add_none] at this;exact this
    · intro x hx;simp at hx;obtain ⟨i,hi,rfl⟩:=hx;exact (hF i hi).2
end
end Go.Vc
namespace Go.Vc
open Go Go.RowKit Go.ChangeShapes Go.WideShapes Go.ChangeAt
theorem byte_of_wf {n:Int} (h:(Lit.int .u8 n).wf=true):∃ c:UInt8,((c.toNat:Nat):Int)=n:=by
  have h2:0≤n∧n≤255:=by
    simpa [Lit.wf,IntKind.min,IntKind.max,IntKind.signed,IntKind.bits] using h
  exact u8_of h2.1 h2.2
theorem open_byte {H:Type} {enc:TypeId×Value→H} {P:Program} {W:World} {t:Nat} {n:Nat} {cs:List Value} {x:DataW H×List MemPlace} (hu:P.underlying t=some (.int .u8)) (h:DataW.trod enc P W 0 (fun _=>true) true n t cs=some x):∃ y:UInt8,cs=eB y∧True:=by
  obtain ⟨n2,h1,_,h2⟩:=DataW.trod_int hu h;obtain ⟨c,rfl⟩:=byte_of_wf h2;exact ⟨c,h1,trivial⟩
end Go.Vc
namespace Go.Vc
open Go Go.RowKit
inductive OT where
  | leaf:OT
  | stop:OT
  | mv (i:Nat) (t:OT):OT
  | alt (i:Nat) (t u:OT):OT
def OT.heads:OT→List Nat
  | .alt i _ u=>i :: u.heads
  | _=>[]
def otOk (ops:Array Oper):OT→Bool→Nat→Array Bool→Bool
  | .leaf,top,k,listed=>top && Nat.beq k 0 && (Region.ready .any ops listed).isEmpty
  | .stop,top,_,_=>!top
  | .mv i t,top,k,listed=>top && Nat.blt 0 k && mvAt ops.toList i && Region.free .any ops listed i && (Region.ready .any ops listed).contains i && otOk ops t true (k - 1) (listed.setIfInBounds i true)
  | .alt i t u,top,k,listed=>(!top || (i :: u.heads) == Region.ready .any ops listed) && Nat.blt 0 k && otOk ops t true (k - 1) (listed.setIfInBounds i true) && otOk ops u false k listed
def OT.ok (ops:Array Oper) (t:OT):Bool:=Region.noSelect ops && otOk ops t true ops.size (Array.replicate ops.size false)
@[irreducible] def Both (A B:Prop):Prop:=A∧B
theorem Both.mk {A B:Prop} (h:A) (k:B):Both A B:=by unfold Both;exact ⟨h,k⟩
theorem Both.one {A:Prop} (h:A):Both A True:=Both.mk h trivial
theorem Both.out {A B:Prop} (h:Both A B):A∧B:=by unfold Both at h;exact h
def vcAt (P:Program) (T:Tab) (n:Nat) (all:List Oper) (i:Nat) (K:Fr→World→Prop) (f:Fr) (w:World):Prop :=
  match all[i]? with
  | some o=>vcGuard all o f (fun f=>vcOne P T n o f w K) (fun f=>putK o.dst f undef fun f=>K f w)
  | none=>False
noncomputable def vcTree (P:Program) (T:Tab) (n:Nat) (all:List Oper) (t:OT):Fr→World→(Fr→World→Prop)→Prop :=
  OT.rec (motive:=fun _=>Fr→World→(Fr→World→Prop)→Prop)
    (fun f w K=>K f w)
    (fun _ _ _=>True)
    (fun i _ ih f w K=>vcAt P T n all i (fun f w=>ih f w K) f w)
    (fun i _ _ iht ihu f w K=>Both (vcAt P T n all i (fun f w=>iht f w K) f w) (ihu f w K)) t
theorem vcAt_sound {P:Program} {T:Tab} (hT:T.fok P=true) {n:Nat} {ops:Array Oper} (hok:okOps n ops=true) {i:Nat} {K:Fr→World→Prop} {f:Fr} {w:World} (h:vcAt P T n ops.toList i K f w)
    {Q:Exit→Act→World→Prop} {L:Act→World→Prop} (hL:∀ f w,K f w→L (act n f) w):wpOp P ops Q i L (act n f) w:=by
  unfold vcAt at h;unfold wpOp;split at h
  · rename_i o ho;have ho':ops[i]? = some o:=by simpa using ho
    have hoki:okOper n ops o=true:=by
      unfold okOps at hok;rw [List.all_eq_true] at hok;exact hok _ (List.mem_of_getElem? ho)
    have hg:=vcGuard_sound hoki h;simp only [ho'];split
    · rename_i hw;rw [if_pos hw] at hg;exact .inl (vcOne_sound hT hoki hg hL)
    · rename_i hw;rw [if_neg hw,putK_iff] at hg;rw [act_puto];exact hL _ _ hg
  · exact h.elim
theorem vcTree_sound {P:Program} {T:Tab} (hT:T.fok P=true) {n:Nat} {ops:Array Oper} (hok:okOps n ops=true) (hs:Region.noSelect ops=true) {K:Fr→World→Prop} {Q:Exit→Act→World→Prop}
    (hP:∀ c a w,¬ Q (.panic c) a w) (hQ:∀ f w,K f w→Q .normal (act n f) w):∀ (t:OT) (top:Bool) (k:Nat) (listed:Array Bool) (f:Fr) (w:World),otOk ops t top k listed=true→vcTree P T n ops.toList t f w K →
      (top=true→wpAny P .any ops Q k listed (act n f) w)∧(top=false→∀ i∈t.heads,wpOp P ops Q i (wpAny P .any ops Q (k - 1) (listed.setIfInBounds i true)) (act n f) w)
  | .leaf,top,k,listed,f,w,hB,h=>by
    simp only [otOk,Bool.and_eq_true,List.isEmpty_iff] at hB;obtain ⟨⟨rfl,hk⟩,hr⟩:=hB;obtain rfl:=Nat.eq_of_beq_eq_true hk;exact ⟨fun _=>wpAny_done hr (hQ _ _ h) _,fun h=>by cases h⟩
  | .stop,top,k,listed,f,w,hB,h=>by
    exact ⟨fun h=>(by subst h;cases hB),fun _ i hi=>(by cases hi)⟩
  | .mv i t,top,k,listed,f,w,hB,h=>by
    simp only [otOk,Bool.and_eq_true,Nat.blt_eq] at hB;obtain ⟨⟨⟨⟨⟨rfl,hk⟩,hmv⟩,hf⟩,hr⟩,hB'⟩:=hB;refine ⟨fun _=>?_,fun h=>by cases h⟩;obtain ⟨k,rfl⟩:∃ m,k=m+1:=⟨k - 1,by omega⟩;have hmem:i∈Region.ready .any ops listed:=by simpa using hr
    obtain ⟨_,o,h0,_⟩:=mem_ready.1 hmem;have h0':ops.toList[i]? = some o:=by simpa using h0
    have hmo:isMv o=true:=by
      unfold mvAt at hmv;rw [h0'] at hmv;exact hmv
    obtain ⟨x,hx,hg⟩:=isMv_spec hmo;have hokx:okOper n ops o=true:=by
      unfold okOps at hok;rw [List.all_eq_true] at hok;exact hok _ (List.mem_of_getElem? h0')
    have hevx:(act n f).eval x=ev f x:=by
      simp only [okOper,Bool.and_eq_true,List.all_eq_true] at hokx;exact ev_act (hokx.1 x (by simp [hx,Op.operands]))
    have hy:Yields P ops o (ev f x) (act n f) := .inl ⟨by simp [Region.wanted,hg],fun w=>by
      unfold execOp;simp only [hx,hevx];rfl⟩
    refine wpAny_take h0 hs hf hr (fun c a w hq=>(hP _ _ _ hq).elim) hy ?_;rw [act_puto];have h':vcAt P T n ops.toList i (fun f w=>vcTree P T n ops.toList t f w K) f w:=h;have h2:vcTree P T n ops.toList t (put f o.dst (ev f x)) w K:=by
      unfold vcAt at h';rw [h0'] at h';simp only [vcGuard,hg,vcOne,hx,pureOp] at h';rw [force_iff,putK_iff] at h';exact h'
    exact (vcTree_sound hT hok hs hP hQ t true k _ _ w hB' h2).1 rfl
  | .alt i t u,top,k,listed,f,w,hB,h=>by
    simp only [otOk,Bool.and_eq_true,Nat.blt_eq] at hB;obtain ⟨⟨⟨htop,hk⟩,hB1⟩,hB2⟩:=hB;obtain ⟨k,rfl⟩:∃ m,k=m+1:=⟨k - 1,by omega⟩;have h':Both (vcAt P T n ops.toList i (fun f w=>vcTree P T n ops.toList t f w K) f w) (vcTree P T n ops.toList u f w K):=h;obtain ⟨ha,hb⟩:=h'.out;have hhead:wpOp P ops Q i (wpAny P .any ops Q (k+1 - 1) (listed.setIfInBounds i true)) (act n f) w :=
      vcAt_sound hT hok ha fun f w hk=>(vcTree_sound hT hok hs hP hQ t true _ _ f w hB1 hk).1 rfl
    have hrest:=(vcTree_sound hT hok hs hP hQ u false (k+1) listed f w hB2 hb).2 rfl;have hall:∀ j∈(OT.alt i t u).heads,wpOp P ops Q j (wpAny P .any ops Q (k+1 - 1) (listed.setIfInBounds j true)) (act n f) w:=by
      intro j hj;simp only [OT.heads,List.mem_cons] at hj;rcases hj with rfl | hj
      · exact hhead
      · exact hrest j hj
    refine ⟨fun ht=>?_,fun _=>hall⟩;subst ht;simp only [Bool.not_true,Bool.false_or,beq_iff_eq] at htop;exact wpAny_all htop.symm (by simp) hall
theorem DrawK.tree {P:Program} {T:Tab} (hT:T.fok P=true) (hm:P.follows .mixedOrders=true) {n:Nat} {ops:Array Oper} (t:OT) (hok:okOps n ops=true) (hB:t.ok ops=true) {f:Fr} {w:World} {K:Fr→World→Prop}
    (h:∀ w',Ext w w'→vcTree P T n ops.toList t f w' K):DrawK P n ops f w K:=by
  unfold DrawK;intro id;simp only [OT.ok,Bool.and_eq_true] at hB;refine wp_region_any hm ?_;exact (vcTree_sound hT hok hB.1 (fun c a w hq=>hq.elim) (fun f w hk=>⟨f,rfl,hk⟩) t true _ _ f _ hB.2 (h { w with drawn:=w.drawn+1 } ⟨rfl,rfl,rfl,Nat.le_refl _,fun _ _=>rfl⟩)).1 rfl
end Go.Vc
namespace Go.Vc
open Go Go.RowKit
variable {P:Program}
theorem SemK.wmul {t:Nat} {X Y:Operand} {a b:Int} {k:IntKind} {w:World} {K:Value→World→Prop} (hK:K (.int k (k.wrap (a * b))) w) :
    SemK P (arith .mul t X Y (.int k a) (.int k b)) w K:=by
  refine SemK.of ?_ hK;simp [arith,eqGuard_int,binOp,Op.intArith]
theorem SemK.shr {t:Nat} {X Y:Operand} {a b:Int} {k k':IntKind} (hb:0≤b) {w:World} {K:Value→World→Prop} (hK:K (.int k (a.fdiv (2 ^ min b.toNat k.bits))) w) :
    SemK P (arith .shr t X Y (.int k a) (.int k' b)) w K:=by
  refine SemK.of ?_ hK;have hz:¬ b<0:=by omega
  simp [arith,eqGuard_int,binOp,Op.shift,hz]
theorem SemK.shl {t:Nat} {X Y:Operand} {a b:Int} {k k':IntKind} (hb:0≤b) {w:World} {K:Value→World→Prop} (hK:K (.int k (k.wrap (a * 2 ^ min b.toNat k.bits))) w) :
    SemK P (arith .shl t X Y (.int k a) (.int k' b)) w K:=by
  refine SemK.of ?_ hK;have hz:¬ b<0:=by omega
  simp [arith,eqGuard_int,binOp,Op.shift,hz]
def andV (k:IntKind) (a b:Int):Int:=k.wrap (BitVec.ofInt k.bits a &&& BitVec.ofInt k.bits b).toNat
def orV (k:IntKind) (a b:Int):Int:=k.wrap (BitVec.ofInt k.bits a ||| BitVec.ofInt k.bits b).toNat
def andNotV (k:IntKind) (a b:Int):Int:=k.wrap (BitVec.ofInt k.bits a &&& ~~~(BitVec.ofInt k.bits b)).toNat
theorem SemK.and {t:Nat} {X Y:Operand} {a b:Int} {k:IntKind} {w:World} {K:Value→World→Prop} (hK:K (.int k (andV k a b)) w) :
    SemK P (arith .and t X Y (.int k a) (.int k b)) w K:=by
  refine SemK.of ?_ hK;simp [arith,eqGuard_int,binOp,Op.intBits,andV]
theorem SemK.or {t:Nat} {X Y:Operand} {a b:Int} {k:IntKind} {w:World} {K:Value→World→Prop} (hK:K (.int k (orV k a b)) w) :
    SemK P (arith .or t X Y (.int k a) (.int k b)) w K:=by
  refine SemK.of ?_ hK;simp [arith,eqGuard_int,binOp,Op.intBits,orV]
theorem SemK.andNot {t:Nat} {X Y:Operand} {a b:Int} {k:IntKind} {w:World} {K:Value→World→Prop} (hK:K (.int k (andNotV k a b)) w) :
    SemK P (arith .andNot t X Y (.int k a) (.int k b)) w K:=by
  refine SemK.of ?_ hK;simp [arith,eqGuard_int,binOp,Op.intBits,andNotV]
theorem and255 (a:Int):0≤andV .u64 a 255∧andV .u64 a 255≤255:=by
  unfold andV;have h:(BitVec.ofInt IntKind.u64.bits a &&& BitVec.ofInt IntKind.u64.bits 255).toNat≤255:=by
    rw [BitVec.toNat_and];have:(BitVec.ofInt IntKind.u64.bits 255).toNat=255:=by decide
    rw [this];exact Nat.and_le_right
  generalize (BitVec.ofInt IntKind.u64.bits a &&& BitVec.ofInt IntKind.u64.bits 255).toNat=n at h;have e:IntKind.u64.wrap (n:Int)=n:=by
    simp [IntKind.wrap,IntKind.bits,IntKind.signed];omega
  rw [e];omega
theorem u64_wrap {n:Int} (h0:0≤n) (h1:n≤18446744073709551615):IntKind.u64.wrap n=n:=by
  simp [IntKind.wrap,IntKind.bits,IntKind.signed];omega
theorem SemK.half {t:Nat} {X Y:Operand} {a:Nat} {k k':IntKind} (hk:1≤k.bits) {w:World} {K:Value→World→Prop} (hK:K (.int k ((a / 2:Nat):Int)) w) :
    SemK P (arith .shr t X Y (.int k (a:Int)) (.int k' 1)) w K:=by
  refine SemK.shr (by omega) ?_;have e:((1:Int).toNat)=1:=rfl;rw [e,Nat.min_eq_left hk,Int.fdiv_eq_ediv_of_nonneg _ (by decide)];exact hK
theorem jS {P:Program} {ty n:Nat} {w:World} {b t:Nat} {cs:List Value} (h:Blk w b cs t) {vs:List Value} (hn:vs.length=n) (hc:cs.length=n) (hv:∀ v∈vs,cellish v=true) {K:Unit→World→Prop} (hK:∀ w',Chg b w w'→Blk w' b vs t→K () w') (hty:aggSize P ty=some n:=by kernel_rfl):SemK P (Instr.storeAt ty (.pointer (some ⟨b,0,none⟩)) (.agg ⟨vs⟩)) w K:=SemK.storeAll hty h hn hc hv hK
theorem jG {P:Program} {ty n:Nat} {w:World} {b o k:Nat} {vs:List Value} (h:Cells w b o vs) (hn:((vs.drop k).take n).length=n) {K:Value→World→Prop} (hK:K (.agg ((vs.drop k).take n).toArray) w) (hty:aggSize P ty=some n:=by kernel_rfl):SemK P (Instr.loadAt ty (.pointer (some ⟨b,o+k,none⟩))) w K:=SemK.loadAggAt hty h hn hK
end Go.Vc
