/- Parts of the proof; no conditions of its own. -/
import Derived.Test.YtalgenmoljcnmaaGreatDoorNum
import Derived.Test.YtalgenmoljcnmaaGreatDoorVcApp
import Derived.Test.YtalgenmoljcnmaaGreatDoorVcCore
import Derived.Test.YtalgenmoljcnmaaGreatDoorCardsM
namespace Go.Proofs.YtalgenmoljcnmaaGreatDoor
open Go Go.RowKit Go.Vc Go.M
variable {w:World} {a:Option Addr} {n c g:Nat} {xs:List Int} {p:Int->Bool} {cap:List Value}
theorem NL (h:A4 eI 1 w a n xs)
  (hg:∀ x∈xs,∀ w',AD w w'->Ev Tryz.prog g (.int .i64 x :: cap) w' (fun v w''=>v = .bool (p x)/\AD w' w'')) :
  Dq 130 [.slice a n c,.func (.func g) ⟨[]⟩ ⟨cap⟩] w (fun v w'=>v = .int .i64 (VQ p xs)/\AD w w'):=by
 have u:=h.len;have t:=h.le;refine oV Tryz.func130 ?_;refine lR [0,1,7,8] (fun (b:Nat) o w'=>o=[.slice a n c,.func (.func g) ⟨[]⟩ ⟨cap⟩,.int .i64 n,.int .i64 b]/\b<=n/\(xs.take b).any p=false/\AD w w') (fun b=>n - b) 0 ⟨rfl,om,sI,AD.refl _⟩ ?_;rintro b r _ w' ⟨rfl,s,e,d⟩;refine AL (fun k=>?_) fun k=>?_
 .obtain ⟨x,f⟩:∃ x,xs[b]? = some x:=AA om;have m:=hg x (List.mem_of_getElem? f);refine jI (h.ext d) b rfl f fun q y _ l=>jO l rfl<|dM (m w' d) fun z j=>BS (fun i=>?_) fun i=>?_
  .exact ⟨by rw [XA e f i],xt d j⟩
  .exact jP (((b+1:Nat):Int)) ⟨b+1,om,rfl,om,by rw [Gq f,e,i];rfl,xt d j⟩
 ·(conv=>whnf);rw [List.take_of_length_le om] at e;exact ⟨by rw [MS e],d⟩
theorem Dg (h:A4 eI 1 w a n xs)
  (hg:∀ x∈xs,∀ w',AD w w'->Ev Tryz.prog g (.int .i64 x :: cap) w' (fun v w''=>v = .bool (p x)/\AD w' w'')) :
  Dq 71 [.slice a n c,.func (.func g) ⟨[]⟩ ⟨cap⟩] w (fun v w'=>v = .bool (xs.any p)/\AD w w'):=by
 refine oV Tryz.func71 ?_;refine (NL h hg).mono ?_;rintro _ e ⟨rfl,d⟩;refine ⟨?_,d⟩;congr 1;cases b:xs.any p with
 | true=>exact decide_eq_true (OE b)
 | false=>rw [MS b];rfl
end Go.Proofs.YtalgenmoljcnmaaGreatDoor
namespace Go.M
open Go Go.Vc
end Go.M
namespace Go.Proofs.YtalgenmoljcnmaaGreatDoor
open Go Go.RowKit Go.Vc Go.M
end Go.Proofs.YtalgenmoljcnmaaGreatDoor
namespace Go.Vc
open Go Go.RowKit
structure Hd where
 a:Option Addr
 n:Nat
 c:Nat
def eH (h:Hd):List Value:=[.slice h.a h.n h.c]
theorem Es (h:Hd):(eH h).length=1:=rfl
instance:Inhabited Hd:=⟨⟨none,0,0⟩⟩
abbrev Rd (α:Type):=World->Hd->α->Prop
class RdE {α:Type} (R:Rd α):Prop where
 ext:∀ {w w':World} {h:Hd} {x:α},R w h x->AD w w'->R w' h x
def UM {α:Type} (R:Rd α) (w:World) (hs:List Hd) (xs:List α):Prop :=
 hs.length=xs.length/\∀ (i:Nat) (h:Hd) (x:α),hs[i]? = some h->xs[i]? = some x->R w h x
theorem UM.ext {α:Type} {R:Rd α} [RdE R] {w w':World} {hs:List Hd} {xs:List α} (h:UM R w hs xs) (e:AD w w'):UM R w' hs xs :=
 ⟨h.1,fun d a f b c=>RdE.ext (h.2 d a f b c) e⟩
theorem UM.get {α:Type} {R:Rd α} {w:World} {hs:List Hd} {xs:List α} (h:UM R w hs xs) {k:Nat} {d:Hd} (hd:hs[k]? = some d):∃ x,xs[k]? = some x/\R w d x:=by
 have b:=(List.getElem?_eq_some_iff.1 hd).1;obtain ⟨x,a⟩:∃ x,xs[k]? = some x:=⟨_,List.getElem?_eq_getElem (by rw [<- h.1];exact b)⟩;exact ⟨x,a,h.2 k d x hd a⟩
def Ar {α:Type} (R:Rd α) (w:World) (a:Option Addr) (n:Nat) (xs:List α):Prop:=∃ hs,A4 eH 1 w a n hs/\UM R w hs xs
theorem Ar.ext {α:Type} {R:Rd α} [RdE R] {w w':World} {a:Option Addr} {n:Nat} {xs:List α} (h:Ar R w a n xs) (e:AD w w'):Ar R w' a n xs :=
 let ⟨d,b,c⟩:=h
 ⟨d,b.ext e,c.ext e⟩
theorem Ar.len {α:Type} {R:Rd α} {w:World} {a:Option Addr} {n:Nat} {xs:List α} (h:Ar R w a n xs):xs.length=n:=by
 obtain ⟨d,b,c⟩:=h;rw [<- c.1,b.len]
theorem Ar.le {α:Type} {R:Rd α} {w:World} {a:Option Addr} {n:Nat} {xs:List α} (h:Ar R w a n xs):n<=9223372036854775807:=by
 obtain ⟨c,b,_⟩:=h;exact b.le
def RA {α:Type} (enc:α->List Value) (sz:Nat):Rd (List α):=fun w h xs=>A4 enc sz w h.a h.n xs/\h.n<=h.c
instance {α:Type} {enc:α->List Value} {sz:Nat}:RdE (RA enc sz):=⟨fun h e=>⟨h.1.ext e,h.2⟩⟩
def RS {α:Type} (R:Rd α):Rd (List α):=fun w h xs=>Ar R w h.a h.n xs/\h.n<=h.c
instance {α:Type} {R:Rd α} [RdE R]:RdE (RS R):=⟨fun h e=>⟨h.1.ext e,h.2⟩⟩
def BU:Option Addr->List Nat
 | none=>[]
 | some x=>[x.block]
theorem A2 {a:Option Addr} {k:Nat}:k∈BU a↔AN a k:=by
 cases a with
 | none=>simp [BU,AN]
 | some b=>simp [BU,AN]
abbrev Ow (α:Type):=World->Hd->α->List Nat->Prop
class LH {α:Type} (E:Ow α) (R:outParam (Rd α)):Prop where
 keep:∀ {w w':World} {h:Hd} {x:α} {fp:List Nat},E w h x fp->(∀ k∈fp,w'.heap[k]? = w.heap[k]?)->E w' h x fp
 lt:∀ {w:World} {h:Hd} {x:α} {fp:List Nat},E w h x fp->∀ k∈fp,k<w.heap.size
 rd:∀ {w:World} {h:Hd} {x:α} {fp:List Nat},E w h x fp->R w h x
def HY {α:Type} (E:Ow α) (w:World) (hs:List Hd) (xs:List α) (fps:List (List Nat)):Prop :=
 hs.length=xs.length/\fps.length=xs.length/\∀ (i:Nat) (h:Hd) (x:α) (f:List Nat),hs[i]? = some h->xs[i]? = some x->fps[i]? = some f->E w h x f
def EO {α:Type} (E:Ow α) (w:World) (a:Option Addr) (n t:Nat) (xs:List α) (fp:List Nat):Prop :=
 ∃ hs fps,Bw eH w a n t hs/\HY E w hs xs fps/\fp=BU a++fps.flatten
def Bx {α:Type} (E:Ow α) (B e:Nat) (w:World) (a:Option Addr) (n c:Nat) (xs:List α) (fp:List Nat):Prop :=
 ∃ hs fps,Ai eH 1 B e w a n c hs/\HY E w hs xs fps/\fp=BU a++fps.flatten
theorem Bx.own {α:Type} {E:Ow α} {B e:Nat} {w:World} {a:Option Addr} {n c:Nat} {xs:List α} {fp:List Nat} (h:Bx E B e w a n c xs fp):EO E w a n e xs fp:=by
 obtain ⟨i,b,d,f,g⟩:=h;exact ⟨i,b,d.own,f,g⟩
theorem Bw.keep {α:Type} {enc:α->List Value} {w w':World} {a:Option Addr} {n t:Nat} {xs:List α} (h:Bw enc w a n t xs) (hk:∀ k∈BU a,w'.heap[k]? = w.heap[k]?):Bw enc w' a n t xs :=
 ⟨h.1,h.2.1,h.2.2.imp id fun ⟨b,rest,c,d⟩=>⟨b,rest,c,by
  unfold CD at *;rw [hk b (by rw [c];simp [BU])];exact d⟩⟩
theorem F2 {fps:List (List Nat)} {i k:Nat} {f:List Nat} (h:fps[i]? = some f) (hk:k∈f):k∈fps.flatten :=
 List.mem_flatten.2 ⟨f,List.mem_of_getElem? h,hk⟩
theorem HY.keep {α:Type} {E:Ow α} {R:Rd α} [LH E R] {w w':World} {hs:List Hd} {xs:List α} {fps:List (List Nat)} (h:HY E w hs xs fps) (hk:∀ k∈fps.flatten,w'.heap[k]? = w.heap[k]?):HY E w' hs xs fps :=
 ⟨h.1,h.2.1,fun g b i c d e a=>LH.keep (h.2.2 g b i c d e a) fun k f=>hk k (F2 a f)⟩
theorem HY.lt {α:Type} {E:Ow α} {R:Rd α} [LH E R] {w:World} {hs:List Hd} {xs:List α} {fps:List (List Nat)} (h:HY E w hs xs fps):∀ k∈fps.flatten,k<w.heap.size:=by
 intro k j;obtain ⟨f,i,l⟩:=List.mem_flatten.1 j;obtain ⟨b,d⟩:=List.mem_iff_getElem?.1 i;have e:=(List.getElem?_eq_some_iff.1 d).1;obtain ⟨c,m⟩:∃ c,xs[b]? = some c:=⟨_,List.getElem?_eq_getElem (by rw [<- h.2.1];exact e)⟩;obtain ⟨a,g⟩:∃ a,hs[b]? = some a:=⟨_,List.getElem?_eq_getElem (by rw [h.1,<- h.2.1];exact e)⟩;exact LH.lt (h.2.2 b a c f g m d) k l
theorem HY.rd {α:Type} {E:Ow α} {R:Rd α} [LH E R] {w:World} {hs:List Hd} {xs:List α} {fps:List (List Nat)} (h:HY E w hs xs fps):UM R w hs xs :=
 ⟨h.1,fun c d i e b=>by
  have g:=(List.getElem?_eq_some_iff.1 b).1;obtain ⟨a,f⟩:∃ a,fps[c]? = some a:=⟨_,List.getElem?_eq_getElem (by rw [h.2.1];exact g)⟩;exact LH.rd (h.2.2 c d i a e b f)⟩
theorem EO.keep {α:Type} {E:Ow α} {R:Rd α} [LH E R] {w w':World} {a:Option Addr} {n t:Nat} {xs:List α} {fp:List Nat} (h:EO E w a n t xs fp) (hk:∀ k∈fp,w'.heap[k]? = w.heap[k]?):EO E w' a n t xs fp:=by
 obtain ⟨f,c,d,e,rfl⟩:=h;exact ⟨f,c,d.keep fun k b=>hk k (List.mem_append_left _ b),e.keep fun k b=>hk k (List.mem_append_right _ b),rfl⟩
theorem EO.lt {α:Type} {E:Ow α} {R:Rd α} [LH E R] {w:World} {a:Option Addr} {n t:Nat} {xs:List α} {fp:List Nat} (h:EO E w a n t xs fp):∀ k∈fp,k<w.heap.size:=by
 obtain ⟨i,g,c,d,rfl⟩:=h;intro k b;rcases List.mem_append.1 b with b | b
 .obtain ⟨f,e,rfl⟩:=A2.1 b;exact c.lt f e
 .exact d.lt k b
theorem EO.arr {α:Type} {E:Ow α} {R:Rd α} [LH E R] {w:World} {a:Option Addr} {n t:Nat} {xs:List α} {fp:List Nat} (h:EO E w a n t xs fp):Ar R w a n xs:=by
 obtain ⟨d,e,b,c,_⟩:=h;exact ⟨d,b.arr Es,c.rd⟩
theorem EO.len {α:Type} {E:Ow α} {w:World} {a:Option Addr} {n t:Nat} {xs:List α} {fp:List Nat} (h:EO E w a n t xs fp):xs.length=n:=by
 obtain ⟨e,d,b,c,_⟩:=h;rw [<- c.1,b.1]
def OA {α:Type} (enc:α->List Value):Ow (List α):=fun w h xs fp=>(∃ t,Bw enc w h.a h.n t xs)/\h.n<=h.c/\fp=BU h.a
class ZW {α:Type} (enc:α->List Value) (sz:outParam Nat):Prop where
 len:∀ x,(enc x).length=sz
instance {α:Type} {enc:α->List Value} {sz:Nat} [ZW enc sz]:LH (OA enc) (RA enc sz) where
 keep:=fun ⟨⟨t,h1⟩,h2,h3⟩ hk=>⟨⟨t,h1.keep (by rw [<- h3];exact hk)⟩,h2,h3⟩
 lt:=fun ⟨⟨t,h1⟩,h2,h3⟩ k hk=>by
  rw [h3] at hk;obtain ⟨x,hx,rfl⟩:=A2.1 hk;exact h1.lt x hx
 rd:=fun ⟨⟨t,h1⟩,h2,_⟩=>⟨h1.arr ZW.len,h2⟩
def OS {α:Type} (E:Ow α):Ow (List α):=fun w h xs fp=>(∃ t,EO E w h.a h.n t xs fp)/\h.n<=h.c
instance {α:Type} {E:Ow α} {R:Rd α} [LH E R]:LH (OS E) (RS R) where
 keep:=fun ⟨⟨t,h1⟩,h2⟩ hk=>⟨⟨t,h1.keep hk⟩,h2⟩
 lt:=fun ⟨⟨t,h1⟩,_⟩=>h1.lt
 rd:=fun ⟨⟨t,h1⟩,h2⟩=>⟨h1.arr,h2⟩
def Iv (lo hi:Nat):Nat->Prop:=fun k=>lo<=k/\k<hi
def Kj (lo hi:Nat) (fp:List Nat):Prop:=fp.Nodup/\∀ k∈fp,lo<=k/\k<hi
def D2 {α:Type} (E:Ow α) (w:World) (lo hi:Nat) (a:Option Addr) (n t:Nat) (xs:List α):Prop:=∃ fp,EO E w a n t xs fp/\Kj lo hi fp
theorem D2.arr {α:Type} {E:Ow α} {R:Rd α} [LH E R] {w:World} {lo hi:Nat} {a:Option Addr} {n t:Nat} {xs:List α} (h:D2 E w lo hi a n t xs):Ar R w a n xs:=by
 obtain ⟨b,h,_⟩:=h;exact h.arr
theorem D2.ext {α:Type} {E:Ow α} {R:Rd α} [LH E R] {w w':World} {lo hi:Nat} {a:Option Addr} {n t:Nat} {xs:List α} (h:D2 E w lo hi a n t xs) (e:AD w w'):D2 E w' lo hi a n t xs:=by
 obtain ⟨c,h,hi⟩:=h;exact ⟨c,h.keep fun b d=>e.block b (h.lt b d),hi⟩
theorem D2.wide {α:Type} {E:Ow α} {w:World} {lo hi lo' hi':Nat} {a:Option Addr} {n t:Nat} {xs:List α} (h:D2 E w lo hi a n t xs) (h1:lo'<=lo) (h2:hi<=hi'):D2 E w lo' hi' a n t xs:=by
 obtain ⟨d,h,hi⟩:=h;exact ⟨d,h,hi.1,fun c b=>⟨Nat.le_trans h1 (hi.2 c b).1,Nat.lt_of_lt_of_le (hi.2 c b).2 h2⟩⟩
theorem L7 {fps:List (List Nat)} (h:fps.flatten.Nodup) {i:Nat} {f:List Nat} (hi:fps[i]? = some f):f.Nodup/\∀ j g,j≠i->fps[j]? = some g->∀ k∈g,k∉f:=by
 induction fps generalizing i with
 | nil=>simp at hi
 | cons q r n =>
  rw [List.flatten_cons,List.nodup_append] at h;obtain ⟨l,m,d⟩:=h;cases i with
  | zero =>
   simp at hi;subst hi;refine ⟨l,fun j g e a k b c=>?_⟩;cases j with
   | zero=>exact e rfl
   | succ j =>
    simp at a;exact d k c k (F2 a b) rfl
  | succ i =>
   simp at hi;obtain ⟨o,p⟩:=n m hi;refine ⟨o,fun j g e a k b c=>?_⟩;cases j with
   | zero =>
    simp at a;subst a;exact d k b k (F2 hi c) rfl
   | succ j=>exact p j g om (by simpa using a) k b c
section
variable {α:Type} {mk:Nat->α->α} {wt:α->Nat}
end
theorem HY.snoc {α:Type} {E:Ow α} {w:World} {hs:List Hd} {xs:List α} {fps:List (List Nat)} (h:HY E w hs xs fps) {d:Hd} {x:α} {f:List Nat} (hd:E w d x f):HY E w (hs++[d]) (xs++[x]) (fps++[f]):=by
 obtain ⟨e,g,l⟩:=h;refine ⟨by simp [e],by simp [g],fun i j n k b a c=>?_⟩;rcases Nat.lt_trichotomy i xs.length with p | m | o
 .rw [List.getElem?_append_left om] at b a c;exact l i j n k b a c
 .subst m;rw [<- e,List.getElem?_concat_length] at b;rw [List.getElem?_concat_length] at a;rw [<- g,List.getElem?_concat_length] at c;simp only [Option.some.injEq] at b a c;subst b;subst a;subst c;exact hd
 .rw [List.getElem?_eq_none (by simp;omega)] at a;cases a
theorem HY.nil {α:Type} {E:Ow α} {w:World}:HY E w [] ([]:List α) []:=⟨rfl,rfl,fun d c e b a=>by simp at a⟩
theorem Kj.nil {lo hi:Nat}:Kj lo hi []:=⟨List.nodup_nil,sI⟩
theorem Kj.wide {lo hi lo' hi':Nat} {p:List Nat} (h:Kj lo hi p) (h1:lo'<=lo) (h2:hi<=hi'):Kj lo' hi' p :=
 ⟨h.1,fun b a=>⟨Nat.le_trans h1 (h.2 b a).1,Nat.lt_of_lt_of_le (h.2 b a).2 h2⟩⟩
theorem Dr {lo:Nat} {a:Option Addr} {s:Nat} (h:Ad lo a) (hl:∀ x,a=some x->x.block<s):Kj lo s (BU a):=by
 cases a with
 | none=>exact Kj.nil
 | some x=>exact ⟨by simp [Vc.BU],by simp only [Vc.BU,List.mem_singleton];rintro b rfl;exact ⟨h x rfl,hl x rfl⟩⟩
theorem Fg {α:Type} {enc:α->List Value} {w:World} {a:Option Addr} {n c t:Nat} {xs:List α} (h:Bw enc w a n t xs) (hc:n<=c):OA enc w ⟨a,n,c⟩ xs (BU a):=⟨⟨t,h⟩,hc,rfl⟩
def BZ {α:Type} (E:Ow α) (lo t:Nat) (w:World) (a:Option Addr) (n c:Nat) (xs:List α):Prop :=
 ∃ hs fps,Ai eH 1 lo t w a n c hs/\HY E w hs xs fps/\Kj lo w.heap.size (BU a++fps.flatten)
theorem BZ.ext {α:Type} {E:Ow α} {R:Rd α} [LH E R] {lo t:Nat} {w w':World} {a:Option Addr} {n c:Nat} {xs:List α} (h:BZ E lo t w a n c xs) (e:AD w w'):BZ E lo t w' a n c xs:=by
 obtain ⟨k,f,g,b,i⟩:=h;exact ⟨k,f,g.ext e,b.keep (fun d j=>e.block d (b.lt d j)),i.wide (Nat.le_refl _) e.size⟩
theorem BZ.ownN {α:Type} {E:Ow α} {lo t:Nat} {w:World} {a:Option Addr} {n c:Nat} {xs:List α} (h:BZ E lo t w a n c xs):D2 E w lo w.heap.size a n t xs:=by
 obtain ⟨g,b,d,e,f⟩:=h;exact ⟨_,⟨g,b,d.own,e,rfl⟩,f⟩
theorem BZ.le {α:Type} {E:Ow α} {lo t:Nat} {w:World} {a:Option Addr} {n c:Nat} {xs:List α} (h:BZ E lo t w a n c xs):n<=c/\xs.length=n:=by
 obtain ⟨g,e,b,d,f⟩:=h;exact ⟨b.le.1,by rw [<- d.1,b.len]⟩
theorem EL {α:Type} {E:Ow α} {w:World} {B b e:Nat} (h:CD w b [] e) (hB:B<=b):BZ E B e w (some ⟨b,0,none⟩) 0 0 ([]:List α) :=
 ⟨[],[],Ab Es h hB,HY.nil,by
  have a:=h.lt;exact ⟨by simp [BU],by simp only [BU,List.flatten_nil,List.append_nil,List.mem_singleton];rintro c rfl;exact ⟨hB,a⟩⟩⟩
theorem BZ.none {α:Type} {E:Ow α} {w:World} {B e:Nat}:BZ E B e w none 0 0 ([]:List α) :=
 ⟨[],[],Ai.nil,HY.nil,by exact Kj.nil⟩
theorem CX {P:Program} {α:Type} {E:Ow α} {R:Rd α} [LH E R] {t e by_ lo:Nat} {zs:List Value} (ht:Cq P t=some (e,zs,by_)) (hz:zs.length=1) {u w:World} {a:Option Addr} {n c:Nat} {xs:List α} (h:BZ E lo e u a n c xs) (hlo:lo<=u.heap.size) (hu:AD u w)
  {b c':Nat} {d:Hd} {x:α} {f:List Nat} (hd:E w d x f) (hf:Kj u.heap.size w.heap.size f) (hy:AK w b 0 (eH d)) (hsm:n+1<=1099511627776) (hby:(n+1) * by_<=140737488355328) {ty:Nat} {cs:Array Bool} {K:Next->World->Prop}
  (hK:∀ a' c' w',BZ E lo e w' a' (n+1) c' (xs++[x])->BY (AN a) w w'->(∀ k,AN a' k->AN a k\/k=w.heap.size)->K (.value (.slice a' (n+1) c')) w') :
  AB P (builtin .append #[t,t] ty cs #[.slice a n c,.slice (some ⟨b,0,none⟩) 1 c']) w K:=by
 obtain ⟨ae,o,aa,v,q⟩:=h;have ab:=aa.ext hu;rw [<- hz] at ab;refine BR ht (fun x=>by rw [hz];rfl) ab (ys:=[d]) (m:=1) hy rfl (by simp [BD,eH,AE]) hsm hby (Nat.le_trans hlo hu.size) ?_;intro a' af w' r s ac;rw [hz] at r;refine hK a' af w' ⟨ae++[d],o++[f],r,?_,?_⟩ s ac
 .have aj:HY E w' ae xs o:=(v.keep fun k g=>by
   rw [s.block k ?_ (Nat.lt_of_lt_of_le (v.lt k g) hu.size)]
   .exact hu.block k (v.lt k g)
   .rintro ak;have:=(List.nodup_append.1 q.1).2.2 k (A2.2 ak) k g;exact this rfl)
  refine aj.snoc (LH.keep hd fun k g=>s.block k ?_ (hf.2 k g).2);rintro ⟨l,hy,rfl⟩;have:=aa.lt l hy;have:=(hf.2 _ g).1;omega
 .have ao:=s.size;have ag:(o++[f]).flatten=o.flatten++f:=sI
  rw [ag];obtain ⟨aq,am,an⟩:=List.nodup_append.1 q.1;have ai:∀ k,k∈BU a'->k∈BU a\/k=w.heap.size:=fun k g=>(ac k (A2.1 g)).imp (fun h=>A2.2 h) id;have al:∀ k,k∈BU a'->k<w'.heap.size:=fun k g=>by
   obtain ⟨l,hy,rfl⟩:=A2.1 g;exact r.lt l hy
  have ah:∀ k,k∈BU a'->lo<=k:=fun k g=>by
   obtain ⟨l,hy,rfl⟩:=A2.1 g;exact r.new l hy
  have y:∀ k∈o.flatten,lo<=k/\k<u.heap.size:=fun k g=>q.2 k (List.mem_append_right _ g);have ap:=hu.size;refine ⟨List.nodup_append.2 ⟨?_,List.nodup_append.2 ⟨am,hf.1,fun p z j i=>?_⟩,fun p z j i=>?_⟩,fun k g=>?_⟩
  .cases a' with
   | none=>simp [BU]
   | some l=>simp [BU]
  .have:=(y p z).2;have:=(hf.2 j i).1;omega
  .rcases ai p z with ad | rfl
   .rcases List.mem_append.1 i with i | i
    .exact an p ad j i
    .have:=q.2 p (List.mem_append_left _ ad);have:=(hf.2 j i).1;omega
   .rcases List.mem_append.1 i with i | i
    .have:=(y j i).2;omega
    .have:=(hf.2 j i).2;omega
  .rcases List.mem_append.1 g with g | g
   .exact ⟨ah k g,al k g⟩
   .rcases List.mem_append.1 g with g | g
    .have:=y k g;omega
    .have:=hf.2 k g;omega
def Ej (P:Program) (t:Nat):Option (List Value×List (Nat×Nat)) :=
 match P.info? t,P.underlying t with
 | some it,some (.struct fields) =>
  match it.zero,fields.toList.mapM (fun f=>(P.info? f.type).map fun i=>(f.offset,i.size)) with
  | some z,some places=>some (z.cells.toList,places)
  | _,_=>none
 | _,_=>none
def QU (pl:List (Nat×Nat)):List Value->List (Nat×Value)->Option (List Value)
 | cs,[]=>some cs
 | cs,(i,v) :: r =>
  match pl[i]? with
  | none=>none
  | some (off,size) =>
   bif Nat.beq v.cells.toList.length size && Nat.ble (off+size) cs.length then QU pl (cs.take off++v.cells.toList++cs.drop (off+size)) r else none
theorem QT (pl:List (Nat×Nat)):∀ (parts:List (Nat×Value)) (cs out:List Value),QU pl cs parts=some out->Instr.fill (pl.toArray[·]?) cs.toArray parts=some out.toArray
 | [],cs,out,h=>by
  simp only [QU,Option.some.injEq] at h;subst h;rfl
 | (i,v) :: r,cs,out,h=>by
  unfold QU at h;cases hp:pl[i]? with
  | none=>simp [hp] at h
  | some m =>
   obtain ⟨a,size⟩:=m;simp only [hp] at h;cases b:(Nat.beq v.cells.toList.length size && Nat.ble (a+size) cs.length) with
   | false=>rw [b] at h;cases h
   | true =>
    rw [b] at h;simp only [cond_true] at h;simp only [Bool.and_eq_true] at b;have d:v.cells.size=size:=by simpa using Nat.eq_of_beq_eq_true b.1
    have n:a+size<=cs.length:=Nat.le_of_ble_eq_true b.2;have k:=QT pl r _ out h;unfold Instr.fill;simp only [List.getElem?_toArray,hp];have o:¬ (v.cells.size≠size\/a+v.cells.size > cs.toArray.size):=by
     simp only [List.size_toArray];omega
    have j:(decide (v.cells.size≠size) || decide (a+v.cells.size > cs.toArray.size))=false:=by
     simp only [List.size_toArray,Bool.or_eq_false_iff,decide_eq_false_iff_not];omega
    have e:=JK v.cells.toList cs.toArray a 0;have f:v.cells.zipIdx.foldl (fun cs (c,l)=>cs.setIfInBounds (a+l) c) cs.toArray=(cs.take a++v.cells.toList++cs.drop (a+size)).toArray:=by
     rw [<- Array.foldl_toList];have g:v.cells.zipIdx.toList=v.cells.toList.zipIdx 0:=sI
     rw [g];apply Array.toList_inj.1;rw [e,Ic _ _ _ (by simp;omega)];simp [d]
    rw [if_neg (by simpa using j),f];simpa using k
theorem Uc {P:Program} {t:Nat} {zs:List Value} {pl:List (Nat×Nat)} (h:Ej P t=some (zs,pl)) {parts:List (Nat×Value)} {out:List Value} (ho:QU pl zs parts=some out):P.built t parts=some out.toArray:=by
 unfold Ej at h;unfold Program.built;cases a:P.info? t with
 | none=>simp [a] at h
 | some i =>
  cases b:P.underlying t with
  | none=>simp [a,b] at h
  | some f =>
   cases f<;>try (simp [a,b] at h;done)
   case struct fields =>
    cases c:i.zero with
    | none=>simp [a,b,c] at h
    | some k =>
     cases d:fields.toList.mapM (fun e=>(P.info? e.type).map fun g=>(e.offset,g.size)) with
     | none=>simp [a,b,c,d] at h
     | some j =>
      simp only [a,b,c,d,Option.some.injEq,Prod.mk.injEq] at h;obtain ⟨rfl,rfl⟩:=h;have:=QT j parts k.cells.toList out ho;simp only [c,d];simpa using this
theorem AB.build {P:Program} {t:Nat} {zs:List Value} {pl:List (Nat×Nat)} (h:Ej P t=some (zs,pl)) {parts:List (Nat×Value)} {out:List Value} (ho:QU pl zs parts=some out) {w:World} {K:Value->World->Prop} (hK:K (.agg ⟨out⟩) w) :
  AB P (Instr.build t parts.toArray) w K :=
 A1 (run_build w t parts.toArray out.toArray (by simpa using Uc h ho)) hK
theorem PE {α:Type} {E:Ow α} {w:World} {b e:Nat} (h:CD w b [] e):OS E w ⟨some ⟨b,0,none⟩,0,0⟩ ([]:List α) [b] :=
 ⟨⟨e,[],[],(Ab Es h (Nat.le_refl b)).own,HY.nil,rfl⟩,Nat.le_refl 0⟩
theorem OS.zero {α:Type} {E:Ow α} {w:World}:OS E w ⟨Option.none,0,0⟩ ([]:List α) [] :=
 ⟨⟨0,[],[],Bw.nil,HY.nil,rfl⟩,Nat.le_refl 0⟩
end Go.Vc
namespace Go.Vc
open Go Go.RowKit Go.ChangeShapes Go.WideShapes
section
variable {H:Type} {enc:TypeId×Value->H} {P:Program}
end
end Go.Vc
namespace Go.Proofs.YtalgenmoljcnmaaGreatDoor
open Go Go.RowKit Go.Vc
theorem Ko:Ej Tryz.prog 34=some ([.slice none 0 0,.slice none 0 0],[(0,1),(1,1)]):=kR
theorem Rz:Ej Tryz.prog 36=some ([.slice none 0 0,.slice none 0 0,.string { data := #[] }],[(0,2),(2,1)]):=kR
theorem aE1:Ej Tryz.prog 49=some ([.slice none 0 0,.slice none 0 0,.string { data := #[] },.slice none 0 0],[(0,3),(3,1)]):=kR
theorem Ub:Ej Tryz.prog 68=some ([.slice none 0 0,.slice none 0 0,.slice none 0 0,.slice none 0 0],[(0,1),(1,1),(2,1),(3,1)]):=kR
theorem aE0:Ej Tryz.prog 85=some ([.slice none 0 0,.slice none 0 0,.string { data := #[] }],[(0,1),(1,1),(2,1)]):=kR
theorem PU:Ej Tryz.prog 90=some ([.int .i64 0,.int .i64 0],[(0,1),(1,1)]):=kR
theorem aA7:Ej Tryz.prog 95=some ([.int .i64 0,.int .i64 0,.int .i64 0,.int .i64 0,.int .i64 0,.int .i64 0,.int .i64 0,.int .i64 0,.string { data := #[] }],[(0,1),(1,1),(2,1),(3,1),(4,2),(6,2),(8,1)]):=kR
theorem TA:Ej Tryz.prog 133=some ([.int .i64 0,.int .i64 0,.slice none 0 0,.bool false],[(0,2),(2,1),(3,1)]):=kR
theorem Jm:Ej Tryz.prog 144=some ([.slice none 0 0],[(0,1)]):=kR
theorem FX:Ej Tryz.prog 151=some ([.int .i64 0,.int .i64 0,.int .i64 0,.string { data := #[] }],[(0,1),(1,1),(2,1),(3,1)]):=kR
theorem Yd:Ej Tryz.prog 156=some ([.string { data := #[] },.int .i64 0,.int .i64 0,.slice none 0 0],[(0,1),(1,1),(2,1),(3,1)]):=kR
theorem S9:Ej Tryz.prog 193=some ([.int .i64 0,.int .i64 0],[(0,1),(1,1)]):=kR
theorem aB9:Ej Tryz.prog 218=some ([.slice none 0 0,.slice none 0 0,.slice none 0 0,.slice none 0 0],[(0,1),(1,1),(2,1),(3,1)]):=kR
theorem S8:Ej Tryz.prog 226=some ([.slice none 0 0,.slice none 0 0,.slice none 0 0],[(0,1),(1,1),(2,1)]):=kR
theorem Yc:Ej Tryz.prog 237=some ([.string { data := #[] },.int .i64 0],[(0,1),(1,1)]):=kR
end Go.Proofs.YtalgenmoljcnmaaGreatDoor
namespace Go.M
open Go Go.Vc
instance:ZW eI 1:=⟨AI⟩
instance:ZW eS 1:=⟨AQ⟩
instance:ZW A9.enc 2:=⟨Bu⟩
abbrev Aa:Rd (List Int):=RA eI 1
abbrev DM:Rd (List (List Int)):=RS Aa
abbrev LG:Rd (List A9):=RA A9.enc 2
abbrev A0:Ow (List Int):=OA eI
abbrev Jc:Ow (List (List Int)):=OS A0
abbrev G4:Ow (List A9):=OA A9.enc
end Go.M
namespace Go.Proofs.YtalgenmoljcnmaaGreatDoor
open Go Go.RowKit Go.Vc Go.M
end Go.Proofs.YtalgenmoljcnmaaGreatDoor
namespace Go.Proofs.YtalgenmoljcnmaaGreatDoor
open Go Go.RowKit Go.Vc Go.M
variable {w:World} {d:Hd} {xs:List Int} {a:Option Addr} {n c b o:Nat} {f:AF}
theorem Oh (x:Int) (w:World):Dq 247 [.int .i64 x] w (fun v w'=>v = .bool (!Dc x 0 4095)/\AD w w'):=by
 refine oV Tryz.func247 ?_;refine (B8 _ _ _ _).mono ?_;rintro _ _ ⟨rfl,rfl⟩;exact ⟨rfl,AD.refl _⟩
theorem Tr (a:Option Addr) (n c:Nat) (w:World):Dq 192 [.slice a n c] w (fun v w'=>v = .int .i64 n/\w=w'):=by
 refine oV Tryz.func192 ?_;exact ⟨rfl,rfl⟩
theorem C4 (d:Hd):Dq 122 [.agg ⟨eH d⟩] w (fun v w'=>v = .int .i64 d.n/\AD w w'):=by
 refine oV Tryz.func122 ?_;refine AB.box ?_;intro c g e f b a;refine jL a.cells (k:=0) rfl<|(Tr _ _ _ _).mono ?_;rintro _ _ ⟨rfl,rfl⟩;exact ⟨rfl,b⟩
theorem Ea (A:A4 eI 1 w d.a d.n xs):Dq 180 [.agg ⟨eH d⟩] w (fun v w'=>v = .bool (E2 xs)/\AD w w'):=by
 have ab:=A.len;have m:∀ f,AD w f->∀ g,Dq 71 [.slice d.a d.n g,.func (.func 247) ⟨[]⟩ ⟨[]⟩] f (fun v w'=>v = .bool (xs.any (fun n=>!Dc n 0 4095))/\AD f w'):=fun f i g=>Dg (A.ext i) (p:=fun n=>!Dc n 0 4095) (cap:=[]) (fun y _ w' _=>Oh y w');have aa:xs.any (fun n=>!Dc n 0 4095) = !(xs.all fun t=>Dc t 0 4095):=by rw [List.not_all_eq_any_not]
 unfold E2;by_cases z:1<=xs.length/\xs.length<=20
 .have r:Dc (d.n:Int) 1 20=true:=by simp [Dc];omega
  refine oV Tryz.func180 ?_;refine AB.box ?_;intro h u l s e c;refine jA (n:=1) c.cells rfl<|dM (C4 _) fun x b=>(B8 _ _ _ _).mono ?_;rintro _ _ ⟨rfl,rfl⟩;refine iT ?_;refine jL (c.ext b).cells (k:=0) rfl ?_;exact dM (m _ (xt e b) _) fun ac j=>⟨by simp_all,(xt (xt e b) j)⟩
 .have r:Dc (d.n:Int) 1 20=false:=by
   cases o:Dc (d.n:Int) 1 20 with
   | false=>rfl
   | true=>have:=Bs o;omega
  have q:(decide (1<=xs.length) && decide (xs.length<=20))=false:=by
   rw [Bool.and_eq_false_iff,decide_eq_false_iff_not,decide_eq_false_iff_not];omega
  refine oV Tryz.func180 ?_;refine AB.box ?_;intro h u l s e c;refine jA (n:=1) c.cells rfl ?_;refine dM (C4 _) fun x b=>(B8 _ _ _ _).mono ?_;rintro _ _ ⟨rfl,rfl⟩;refine iF ?_;refine ⟨?_,(xt e b)⟩
  .rw [q,Bool.false_and]
theorem Du {xs:List (List Int)} (h:Ar Aa w a n xs):Dq 111 [.slice a n c] w (fun v w'=>v = .bool (Ax xs)/\AD w w'):=by
 have bc:=h.len;have bb:=h.le;obtain ⟨aj,s,ag⟩:=h;have ba:=s.len;refine oV Tryz.func111 ?_;refine lR [0,5,6,7] (fun (f:Nat) a3 w'=>a3=[.slice a n c,.slice a n c,.int .i64 n,.int .i64 f]/\f<=n/\(List.range f).all (H2 xs)=true/\AD w w') (fun f=>n - f) 0 ⟨rfl,om,sI,AD.refl _⟩ ?_;rintro f a7 _ bh ⟨rfl,a9,ai,e⟩;rcases Nat.lt_or_ge f n with az | az
 .obtain ⟨o,y⟩:=AA (l:=aj) (k:=f) om;obtain ⟨a6,a0,aq⟩:=ag.get y;obtain ⟨av,ac⟩:=AA (l:=aj) (k:=0) om;obtain ⟨bi,a1,ar⟩:=ag.get ac;have x:=aq.1;have be:=x.len;have bf:=ar.1.len;have ab:=Mg a0 a1;cases ad:E2 a6
  .have ay:Ax xs=false:=IF (k:=f) om (by simp [ab,ad]);exact iY<|jI (s.ext e) f rfl y fun ae al ah u=>jA (n:=1) u rfl<|jN (z := .agg #[.slice none 0 0]) fun af an m ak j t=>jS (vs:=[Value.slice o.a o.n o.c]) t rfl rfl (by simp [AE]) fun ao i q=>dH (pB [1,3,5,7,8,12,14,16,11,19,21,23]) fun ap b=>jA (n:=1) (q.ext b).cells rfl ⟨b,dM (Ea (x.ext (xt (xb (xt e j) i.but (nB e m)) b))) fun am g=>⟨(xt b g),iT ⟨by simp only [*],(xt (xt (xb (xt e j) i.but (nB e m)) b) g)⟩⟩⟩
  .by_cases bg:o.n=av.n
   .have bd:(List.range (f+1)).all (H2 xs)=true:=by
     rw [List.range_succ,List.all_append,ai];simp [ab,ad];omega
    exact iY<|jI (s.ext e) f rfl y fun ae al ah u=>jA (n:=1) u rfl<|jN (z := .agg #[.slice none 0 0]) fun af an m ak j t=>jS (vs:=[Value.slice o.a o.n o.c]) t rfl rfl (by simp [AE]) fun ao i q=>dH (pB [1,3,5,7,8,12,14,16,11,19,21,23]) fun ap b=>jA (n:=1) (q.ext b).cells rfl ⟨b,dM (Ea (x.ext (xt (xb (xt e j) i.but (nB e m)) b))) fun am g=>⟨(xt b g),iF<|dA (n:=1) q.cells rfl<|dI (s.ext (xb (xt e j) i.but (nB e m))) 0 rfl ac fun au a2 ax aa=>dA (n:=1) aa rfl<|dM (C4 _) fun a4 p=>⟨(xt (xt b g) p),dM (C4 _) fun a5 r=>⟨(xt (xt (xt b g) p) r),iF<|jP (((f+1:Nat):Int)) ⟨f+1,om,rfl,om,om,(xt (xt (xt (xt (xb (xt e j) i.but (nB e m)) b) g) p) r)⟩⟩⟩⟩⟩
   .have ay:Ax xs=false:=IF (k:=f) om (by simp [ab,ad];omega);refine iY<|jI (s.ext e) f rfl y fun ae al ah u=>jA (n:=1) u rfl<|jN (z := .agg #[.slice none 0 0]) fun af an m ak j t=>jS (vs:=[Value.slice o.a o.n o.c]) t rfl rfl (by simp [AE]) fun ao i q=>dH (pB [1,3,5,7,8,12,14,16,11,19,21,23]) fun ap b=>jA (n:=1) (q.ext b).cells rfl ⟨b,dM (Ea (x.ext (xt (xb (xt e j) i.but (nB e m)) b))) fun am g=>⟨(xt b g),iF<|dA (n:=1) q.cells rfl<|dI (s.ext (xb (xt e j) i.but (nB e m))) 0 rfl ac fun au a2 ax aa=>dA (n:=1) aa rfl<|dM (C4 _) fun a4 p=>⟨(xt (xt b g) p),dM (C4 _) fun a5 r=>⟨(xt (xt (xt b g) p) r),Ak (fun aw=>?_) fun aw=>?_⟩⟩⟩⟩
    .exact ⟨by simp only [*],(xt (xt (xt (xt (xb (xt e j) i.but (nB e m)) b) g) p) r)⟩
    .exact jP (((f+1:Nat):Int)) ⟨f+1,om,rfl,om,om,(xt (xt (xt (xt (xb (xt e j) i.but (nB e m)) b) g) p) r)⟩
 .have a':f=n:=om
  have a8:Ax xs=decide ((n:Int)<=40):=by
   rw [Sb (d:=xs) (by rw [show xs.length=f by omega];exact ai)];exact decide_eq_decide.2 om
  exact iN ⟨by simp only [*],e⟩
theorem Ga (A:A4 eI 1 w d.a d.n xs) (hc:AK w b o (eH d)):Dq 164 [.pointer (some ⟨b,o,none⟩)] w (fun v w'=>v = .bool (E2 xs)/\AD w w'):=by
 have u:=A.len;have ad:=A.le;refine oV Tryz.func164 ?_;refine lR [0,3] (fun (e:Nat) y w'=>y=[.pointer (some ⟨b,o,none⟩),.int .i64 e]/\e<=d.n/\((xs.take e).all fun j=>Dc j 0 4095)=true/\AD w w') (fun e=>d.n - e) 0 ⟨rfl,om,sI,AD.refl _⟩ ?_;rintro e aa _ af ⟨rfl,ac,h,f⟩;rcases Nat.lt_or_ge e d.n with t | t
 .obtain ⟨z,g⟩:=AA (l:=xs) (k:=e) om;cases m:Dc z 0 4095
  .have ab:=YJ g m;refine jL (hc.ext f) (k:=0) rfl ?_;refine iY ?_;refine jL (hc.ext f) (k:=0) rfl ?_;refine jI (A.ext f) e rfl g ?_;intro q x r i;refine jO i rfl ?_;refine (Em _ _ _ _).mono ?_;rintro _ _ ⟨rfl,rfl⟩;refine iT ?_;exact ⟨by simp only [*],f⟩
  .have ae:=ZS (p:=fun j=>Dc j 0 4095) g h m;refine jL (hc.ext f) (k:=0) rfl ?_;refine iY ?_;refine jL (hc.ext f) (k:=0) rfl ?_;refine jI (A.ext f) e rfl g ?_;intro q x r i;refine jO i rfl ?_;refine (Em _ _ _ _).mono ?_;rintro _ _ ⟨rfl,rfl⟩;refine iF ?_;refine jP (((e+1:Nat):Int)) ?_;exact ⟨e+1,om,rfl,om,om,f⟩
 .have s:=YK (c:=xs) (by rw [List.take_of_length_le om] at h;exact h);rw [u] at s;refine jL (hc.ext f) (k:=0) rfl ?_;refine iN ?_;refine jL (hc.ext f) (k:=0) rfl ?_;refine (Em _ _ _ _).mono ?_;rintro _ _ ⟨rfl,rfl⟩;exact ⟨by simp only [*],f⟩
theorem DQ {xs:List (List Int)} (h:Ar Aa w a n xs):Dq 117 [.slice a n c] w (fun v w'=>v = .bool (Ax xs)/\AD w w'):=by
 have a3:=h.len;have a2:=h.le;obtain ⟨aa,i,x⟩:=h;have a1:=i.len;refine oV Tryz.func117 ?_;refine lR [0,3] (fun (e:Nat) av w'=>av=[.slice a n c,.int .i64 e]/\e<=n/\(List.range e).all (H2 xs)=true/\AD w w') (fun e=>n - e) 0 ⟨rfl,om,sI,AD.refl _⟩ ?_;rintro e ax _ a8 ⟨rfl,az,z,g⟩;rcases Nat.lt_or_ge e n with ao | ao
 .obtain ⟨ai,j⟩:=AA (l:=aa) (k:=e) om;obtain ⟨aw,ap,ae⟩:=x.get j;obtain ⟨aj,s⟩:=AA (l:=aa) (k:=0) om;obtain ⟨a9,aq,af⟩:=x.get s;have o:=ae.1;have a5:=o.len;have a6:=af.1.len;have r:=Mg ap aq;cases t:E2 aw
  .have an:Ax xs=false:=IF (k:=e) om (by simp [r,t]);exact iY<|dH (pB [0,3,5,7,9,11,12,14,16,18,20,22,25,27,29,31,33,35,37]) fun ac b=>jI (i.ext (xt g b)) e rfl j fun u ab y m=>⟨b,dM (Ga (o.ext (xt g b)) m) fun ad f=>⟨(xt b f),iT ⟨by simp only [*],(xt (xt g b) f)⟩⟩⟩
  .by_cases a7:ai.n=aj.n
   .have a4:(List.range (e+1)).all (H2 xs)=true:=by
     rw [List.range_succ,List.all_append,z];simp [r,t];omega
    exact iY<|dH (pB [0,3,5,7,9,11,12,14,16,18,20,22,25,27,29,31,33,35,37]) fun ac b=>jI (i.ext (xt g b)) e rfl j fun u ab y m=>⟨b,dM (Ga (o.ext (xt g b)) m) fun ad f=>⟨(xt b f),iF<|dI (i.ext g) e rfl j fun ag ar al p=>dL p (k:=0) rfl<|jI (i.ext (xt (xt g b) f)) 0 rfl s fun ah au am q=>⟨(xt b f),jL q (k:=0) rfl ⟨(xt b f),⟨(xt b f),iF<|jP (((e+1:Nat):Int)) ⟨e+1,om,rfl,om,om,(xt (xt g b) f)⟩⟩⟩⟩⟩⟩
   .have an:Ax xs=false:=IF (k:=e) om (by simp [r,t];omega);refine iY<|dH (pB [0,3,5,7,9,11,12,14,16,18,20,22,25,27,29,31,33,35,37]) fun ac b=>jI (i.ext (xt g b)) e rfl j fun u ab y m=>⟨b,dM (Ga (o.ext (xt g b)) m) fun ad f=>⟨(xt b f),iF<|dI (i.ext g) e rfl j fun ag ar al p=>dL p (k:=0) rfl<|jI (i.ext (xt (xt g b) f)) 0 rfl s fun ah au am q=>⟨(xt b f),jL q (k:=0) rfl ⟨(xt b f),⟨(xt b f),Ak (fun ak=>?_) fun ak=>?_⟩⟩⟩⟩⟩
    .exact ⟨by simp only [*],(xt (xt g b) f)⟩
    .exact jP (((e+1:Nat):Int)) ⟨e+1,om,rfl,om,om,(xt (xt g b) f)⟩
 .have a0:e=n:=om
  have ay:Ax xs=decide ((n:Int)<=40):=by
   rw [Sb (d:=xs) (by rw [show xs.length=e by omega];exact z)];exact decide_eq_decide.2 om
  exact iN ⟨by simp only [*],g⟩
theorem DR (f:AF) (n:Int) (w:World):Dq 208 [.agg ⟨f.enc⟩,.int .i64 n] w (fun v w'=>v = .bool (AR f n)/\AD w w'):=by
 unfold AR;refine oV Tryz.func208 ?_;refine AB.box ?_;intro e i g h b a;refine jL a.cells (k:=0) rfl<|AL (fun c=>?_) fun c=>?_
 .refine jL a.cells (k:=0) rfl<|jL a.cells (k:=1) rfl<|AL (fun d=>?_) fun d=>?_
  .exact jL a.cells (k:=1) rfl ⟨by simp [*],b⟩
  .exact ⟨by simp [*],b⟩
 .exact ⟨by simp [*],b⟩
theorem Cg (f:AF) (n:Int) (w:World):Dq 234 [.agg ⟨f.enc⟩,.int .i64 n] w (fun v w'=>v = .bool (AR f n)/\AD w w'):=by
 unfold AR;refine oV Tryz.func234 ?_;refine AB.box ?_;intro e i g h b a;refine jL a.cells (k:=0) rfl<|AL (fun c=>?_) fun c=>?_
 .refine jL a.cells (k:=0) rfl<|jL a.cells (k:=1) rfl<|AL (fun d=>?_) fun d=>?_
  .exact jL a.cells (k:=1) rfl ⟨by simp [*],b⟩
  .exact ⟨by simp [*],b⟩
 .exact ⟨by simp [*],b⟩
theorem Hs (hf:f.ok) {n:Int} (h0:0<=n) (hn:n<=1000) (w:World):Dq 284 [.agg ⟨f.enc⟩,.int .i64 n] w (fun v w'=>v = .bool (Af f n)/\AD w w'):=by
 unfold Af;cases g:AR f n
 .refine oV Tryz.func284 ?_;conv=>whnf
  exact AB.box fun d i e h c a=>jA (n:=2) a.cells rfl<|dM (DR _ _ _) fun j b=>iF ⟨rfl,(xt c b)⟩
 .have l:=BV g;refine oV Tryz.func284 ?_;refine AB.box ?_;intro d i e h c a;refine jA (n:=2) a.cells rfl<|dM (DR _ _ _) fun j b=>?_;refine iT<|jL (a.ext b).cells (k:=1) rfl<|jL (a.ext b).cells (k:=0) rfl ?_;refine AB.sub _ rfl om om ?_;exact ⟨rfl,(xt c b)⟩
theorem DI {xs:List (List Int)} (h:Ar Aa w a n xs):Dq 209 [.slice a n c] w (fun v w'=>v = .int .i64 (AJ xs)/\AD w w'):=by
 have u:=h.len;have ad:=h.le;obtain ⟨i,d,g⟩:=h;have ac:=d.len;cases xs with
 | nil =>
  refine oV Tryz.func209 ?_;conv=>whnf
  refine AL (fun q=>?_) fun q=>?_
  .exact ⟨rfl,AD.refl _⟩
  .obtain ⟨an,k⟩:∃ b,i[0]? = some b:=AA om;obtain ⟨ap,ae,f⟩:=g.get k;have x:=f.1;have ah:=f.2;exact jI d 0 rfl k fun z aj ab s=>jA (n:=1) s rfl<|dM (C4 _) fun al p=>⟨by simp_all,p⟩
 | cons b af =>
  simp only [List.length_cons] at u;refine oV Tryz.func209 ?_;refine iN ?_;obtain ⟨am,j⟩:∃ b,i[0]? = some b:=AA om;obtain ⟨ao,l,e⟩:=g.get j;have m:=e.1;have ag:=e.2;refine jI d 0 rfl j fun y ai aa r=>jA (n:=1) r rfl<|dM (C4 _) fun ak o=>⟨?_,o⟩
  .have t:=m.len;simp at l;subst l;simp [AJ,t]
theorem EE {xs:List (List Int)} (h:Ar Aa w a n xs):Dq 235 [.slice a n c] w (fun v w'=>v = .int .i64 (AJ xs)/\AD w w'):=by
 have t:=h.len;have ac:=h.le;obtain ⟨i,d,g⟩:=h;have ab:=d.len;cases xs with
 | nil =>
  refine oV Tryz.func235 ?_;conv=>whnf
  refine AL (fun p=>?_) fun p=>?_
  .exact ⟨rfl,AD.refl _⟩
  .obtain ⟨ak,l⟩:∃ b,i[0]? = some b:=AA om;obtain ⟨am,ad,f⟩:=g.get l;have u:=f.1;have ag:=f.2;exact jI d 0 rfl l fun y ai aa r=>jL r (k:=0) rfl ⟨by simp_all,AD.refl _⟩
 | cons b ae =>
  simp only [List.length_cons] at t;refine oV Tryz.func235 ?_;refine iN ?_;obtain ⟨aj,j⟩:∃ b,i[0]? = some b:=AA om;obtain ⟨al,m,e⟩:=g.get j;have o:=e.1;have af:=e.2;refine jI d 0 rfl j fun x ah z q=>jL q (k:=0) rfl ⟨?_,AD.refl _⟩
  .have s:=o.len;simp at m;subst m;simp [AJ,s]
theorem B9 (r:Int) (w:World):Dq 316 [.int .i64 r] w (fun v w'=>v = .int .i64 (CC r)/\AD w w'):=by
 refine oV Tryz.func316 ?_;conv=>whnf
 refine AL (fun a=>?_) fun a=>?_
 .refine ⟨?_,AD.refl _⟩
  .rw [PD a]
 .refine AL (fun b=>?_) fun b=>?_
  .refine ⟨?_,AD.refl _⟩
   .rw [Mh b]
  .refine (B8 _ _ _ _).mono ?_;rintro _ _ ⟨rfl,rfl⟩;refine BS (fun c=>?_) fun c=>?_
   .have d:=Bs c;refine AB.shl om ?_;refine ⟨?_,AD.refl _⟩
    .rw [Vq om om]
   .refine ⟨?_,AD.refl _⟩
    .rw [XP a b c]
theorem Dk (r:Int) (w:World):Dq 232 [.int .i64 r] w (fun v w'=>v = .int .i64 (CC r)/\AD w w'):=by
 refine oV Tryz.func232 ?_;conv=>whnf
 refine AL (fun a=>?_) fun a=>?_
 .refine ⟨?_,AD.refl _⟩
  .rw [PD a]
 .refine AL (fun b=>?_) fun b=>?_
  .refine ⟨?_,AD.refl _⟩
   .rw [Mh b]
  .refine (Em _ _ _ _).mono ?_;rintro _ _ ⟨rfl,rfl⟩;refine BS (fun c=>?_) fun c=>?_
   .have d:=Bs c;refine As (k := .u64) kR kR (EW om om) ?_
    refine AB.shl om ?_;refine ⟨?_,AD.refl _⟩
    .rw [Vq om om]
   .refine ⟨?_,AD.refl _⟩
    .rw [XP a b c]
theorem GK (m:Int) (w:World):Dq 321 [.int .i64 m] w (fun v w'=>v = .int .i64 (B4 m)/\AD w w'):=by
 refine oV Tryz.func321 ?_;refine lR [0,4] (fun (a:Nat) l w'=>l=[.int .i64 m,.int .i64 a]/\a<=10/\(∀ b:Nat,b<a->CC (b:Int)≠m)/\AD w w') (fun a=>10 - a) 0 ⟨rfl,om,fun b f=>by omega,AD.refl _⟩ ?_;rintro a o _ s ⟨rfl,p,e,d⟩;rcases Nat.lt_or_ge a 10 with h | h
 .by_cases g:CC (a:Int)=m
  .have k:=SZ h e g;exact iY<|dM (B9 _ _) fun n c=>iY ⟨by simp only [*],(xt d c)⟩
  .have q:∀ b:Nat,b<a+1->CC (b:Int)≠m:=fun b f=>by
    rcases Nat.lt_succ_iff_lt_or_eq.1 f with j | rfl
    .exact e b j
    .exact g
   have r:¬ m=CC (a:Int):=fun i=>g i.symm;exact iY<|dM (B9 _ _) fun n c=>iN<|jP (((a+1:Nat):Int)) ⟨a+1,om,rfl,om,om,(xt d c)⟩
 .have k:=OQ (m:=m) (fun b f=>e b om);exact iN ⟨by simp only [*],d⟩
theorem BL (m:Int) (w:World):Dq 294 [.int .i64 m] w (fun v w'=>v = .int .i64 (B4 m)/\AD w w'):=by
 refine oV Tryz.func294 ?_;refine lR [0,3] (fun (a:Nat) l w'=>l=[.int .i64 m,.int .i64 a]/\a<=10/\(∀ b:Nat,b<a->CC (b:Int)≠m)/\AD w w') (fun a=>10 - a) 0 ⟨rfl,om,fun b f=>by omega,AD.refl _⟩ ?_;rintro a o _ s ⟨rfl,p,e,d⟩;rcases Nat.lt_or_ge a 10 with h | h
 .by_cases g:CC (a:Int)=m
  .have k:=SZ h e g;exact iY<|dM (Dk _ _) fun n c=>iY ⟨by simp only [*],(xt d c)⟩
  .have q:∀ b:Nat,b<a+1->CC (b:Int)≠m:=fun b f=>by
    rcases Nat.lt_succ_iff_lt_or_eq.1 f with j | rfl
    .exact e b j
    .exact g
   have r:¬ m=CC (a:Int):=fun i=>g i.symm;exact iY<|dM (Dk _ _) fun n c=>iN<|jP (((a+1:Nat):Int)) ⟨a+1,om,rfl,om,om,(xt d c)⟩
 .have k:=OQ (m:=m) (fun b f=>e b om);exact iN ⟨by simp only [*],d⟩
theorem IV (h:A4 eI 1 w a n xs) (hn:n<=1000000):Dq 248 [.slice a n c] w (fun v w'=>∃ a' c',v = .slice a' n c'/\Ad w.heap.size a'/\Ai eI 1 w.heap.size 2 w' a' n c' xs/\AD w w'):=by
 have m:=h.len;refine oV Tryz.func248 ?_;refine bS B5 (vs:=[]) ?_;intro k q g p b f;have d:=Ab (enc:=eI) AI f g;exact Dw (enc:=eI) B5 AI d (h.ext b) (by intro s _;simp [eI,AE]) om om (Below.size b) fun j l r e i o=>⟨_,_,rfl,e.new,e,(xm b i (AO d.new))⟩
theorem I5 (R:Aa w d xs) (hc:AK w b o (eH d)) (hf:AR f xs.length=true):Dq 241 [.pointer (some ⟨b,o,none⟩),.agg ⟨f.enc⟩] w (fun v w'=>∃ a' c',v = .slice a' (f.to_.toNat - f.from_.toNat) c'/\A4 eI 1 w' a' (f.to_.toNat - f.from_.toNat) (AZ xs f)/\f.to_.toNat - f.from_.toNat<=c'/\AD w w'):=by
 have g:=R.1;have p:=R.2;have t:=g.len;have n:=BV hf;obtain ⟨j,l⟩:=f;simp only at n;obtain ⟨c,rfl⟩:∃ c:Nat,j=c:=⟨j.toNat,om⟩;obtain ⟨e,rfl⟩:∃ e:Nat,l=e:=⟨l.toNat,om⟩;unfold AZ;simp only [Int.toNat_natCast];refine oV Tryz.func241 ?_;refine AB.box fun r x s u a h=>Bl A8 mixed kR kR ?_;refine dL (hc.ext a) (k:=0) rfl<|dL h.cells (k:=0) rfl<|dL h.cells (k:=1) rfl<|BN.slice (k := .i64) (k' := .i64) kR (g.ext a) c e om om p (.inr (by rfl)) (.inr (by rfl)) ?_;intro q m;intro y i;exact ⟨_,_,rfl,(m.ext i),om,(xt a i)⟩
end Go.Proofs.YtalgenmoljcnmaaGreatDoor
