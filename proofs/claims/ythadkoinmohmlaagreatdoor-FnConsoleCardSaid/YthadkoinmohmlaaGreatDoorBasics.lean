/- Contracts of functions of the given program, of the reference and of the laws: each says what a call returns, for all arguments that meet the premises that the theorem itself names. -/
import Derived.Test.YthadkoinmohmlaaGreatDoorModel
import Derived.Test.YthadkoinmohmlaaGreatDoorVcApp
import Derived.Test.YthadkoinmohmlaaGreatDoorVcCore
namespace Go.Proofs.YthadkoinmohmlaaGreatDoor
open Go Go.RowKit Go.Vc Go.M
theorem impl_isSmall (n:Nat) (w:World):Does Tryz.prog 310 [.int .u8 n] w (fun v w'=>v = .bool (smallN n)∧w=w'):=by
  refine oV Tryz.func310 ?_;conv=>whnf
  with_reducible refine IfB.dec (fun h1=>?_) (fun h1=>?_)
  · exact ⟨by have e : 97 ≤ n := by omega
              simp only [smallN,e,decide_true,Bool.true_and];congr 1;simp;omega,rfl⟩
  · exact ⟨by have e : ¬ 97 ≤ n := by omega
              simp [smallN,e],rfl⟩
theorem spec_small (n:Nat) (w:World):Does Tryz.prog 331 [.int .u8 n] w (fun v w'=>v = .bool (smallN n)∧w=w'):=by
  refine oV Tryz.func331 ?_;conv=>whnf
  with_reducible refine IfB.dec (fun h1=>?_) (fun h1=>?_)
  · exact ⟨by have e : 97 ≤ n := by omega
              simp only [smallN,e,decide_true,Bool.true_and];congr 1;simp;omega,rfl⟩
  · exact ⟨by have e : ¬ 97 ≤ n := by omega
              simp [smallN,e],rfl⟩
theorem impl_isDigit (n:Nat) (w:World):Does Tryz.prog 311 [.int .u8 n] w (fun v w'=>v = .bool (digitN n)∧w=w'):=by
  refine oV Tryz.func311 ?_;conv=>whnf
  with_reducible refine IfB.dec (fun h1=>?_) (fun h1=>?_)
  · exact ⟨by have e : 48 ≤ n := by omega
              simp only [digitN,e,decide_true,Bool.true_and];congr 1;simp;omega,rfl⟩
  · exact ⟨by have e : ¬ 48 ≤ n := by omega
              simp [digitN,e],rfl⟩
theorem spec_digit (n:Nat) (w:World):Does Tryz.prog 218 [.int .u8 n] w (fun v w'=>v = .bool (digitN n)∧w=w'):=by
  refine oV Tryz.func218 ?_;conv=>whnf
  with_reducible refine IfB.dec (fun h1=>?_) (fun h1=>?_)
  · exact ⟨by have e : 48 ≤ n := by omega
              simp only [digitN,e,decide_true,Bool.true_and];congr 1;simp;omega,rfl⟩
  · exact ⟨by have e : ¬ 48 ≤ n := by omega
              simp [digitN,e],rfl⟩
theorem impl_inside (n lo hi:Int) (w:World):Does Tryz.prog 75 [.int .i64 n,.int .i64 lo,.int .i64 hi] w (fun v w'=>v = .bool (inB n lo hi)∧w=w'):=by
  refine oV Tryz.func75 ?_;conv=>whnf
  with_reducible refine IfB.dec (fun h1=>?_) (fun h1=>?_)
  · exact ⟨by simp [inB,h1],rfl⟩
  · exact ⟨by simp [inB,h1],rfl⟩
theorem spec_in (n lo hi:Int) (w:World):Does Tryz.prog 145 [.int .i64 n,.int .i64 lo,.int .i64 hi] w (fun v w'=>v = .bool (inB n lo hi)∧w=w'):=by
  refine oV Tryz.func145 ?_;conv=>whnf
  with_reducible refine IfB.dec (fun h1=>?_) (fun h1=>?_)
  · exact ⟨by simp [inB,h1],rfl⟩
  · exact ⟨by simp [inB,h1],rfl⟩
theorem impl_IsName (s:ByteArray) (hs:s.size≤9223372036854775807) (w:World):Does Tryz.prog 259 [.string s] w (fun v w'=>v = .bool (nameB s)∧w=w'):=by
  have hlen:s.data.toList.length=s.size:=by simp
  refine oV Tryz.func259 ?_;conv=>whnf
  with_reducible refine IfB.dec (fun h1=>?_) (fun h1=>?_)
  · exact ⟨by have e : ¬ 1 ≤ s.data.toList.length := by omega
              simp only [nameB,nameL,e,decide_false,Bool.false_and],rfl⟩
  · (conv=>whnf);with_reducible refine IfB.dec (fun h2=>?_) (fun h2=>?_)
    · exact ⟨by have e : ¬ s.data.toList.length ≤ 12 := by omega
                simp only [nameB,nameL,e,decide_false,Bool.false_and,Bool.and_false],rfl⟩
    · obtain ⟨c,hc⟩:∃ c,s.data.toList[0]? = some c:=get_of_lt (by omega);refine jC 0 rfl hc ?_;refine (impl_isSmall _ w).mono ?_;rintro _ _ ⟨rfl,rfl⟩;conv=>whnf
      with_reducible refine IfB.split (fun h3=>?_) (fun h3=>?_)
      · exact ⟨by simp only [Bool.not_eq_true'] at h3
                  simp only [nameB,nameL,headD_of hc,h3,Bool.false_and,Bool.and_false],rfl⟩
      · (conv=>whnf);simp only [Bool.not_eq_false'] at h3;refine lR [0,3] (fun (k:Nat) vs w'=>vs=[.string s,.int .i64 k]∧k≤s.size∧(s.data.toList.take k).all nameCh=true∧w=w') (fun k=>s.size - k) 0 ⟨rfl,by omega,by simp,rfl⟩ ?_;rintro k g _ w' ⟨rfl,hk,hall,rfl⟩;(conv=>whnf);with_reducible refine IfB.dec (fun h4=>?_) (fun h4=>?_)
        · have hk':k<s.size:=by omega
          obtain ⟨d,hd⟩:∃ d,s.data.toList[k]? = some d:=get_of_lt (by omega);have hstep:∀ b:Bool,nameCh d=b→(s.data.toList.take (k+1)).all nameCh=b:=fun b hb=>by rw [take_all_snoc hd,hall,hb];rfl
          refine jC k rfl hd ?_;refine (impl_isSmall _ w).mono ?_;rintro _ _ ⟨rfl,rfl⟩;conv=>whnf
          with_reducible refine IfB.split (fun h5=>?_) (fun h5=>?_)
          · refine jC k rfl hd ?_;refine (impl_isDigit _ w).mono ?_;rintro _ _ ⟨rfl,rfl⟩;conv=>whnf
            with_reducible refine IfB.split (fun h6=>?_) (fun h6=>?_)
            · refine jC k rfl hd ?_;(conv=>whnf);with_reducible refine IfB.ndec (fun h7=>?_) (fun h7=>?_)
              · have hn:nameCh d=false:=by simp at h5 h6;simp [nameCh,h5,h6];omega
                exact ⟨by rw [nameB,nameL,all_false_of hd hn];simp,rfl⟩
              · refine SemK.add (k+1) rfl (by omega) (by omega) ?_;refine ⟨k+1,by omega,rfl,by omega,hstep true ?_,rfl⟩;have:d.toNat=45:=by omega
                simp [nameCh,this]
            · refine SemK.add (k+1) rfl (by omega) (by omega) ?_;refine ⟨k+1,by omega,rfl,by omega,hstep true ?_,rfl⟩;simp at h6;simp [nameCh,h6]
          · refine SemK.add (k+1) rfl (by omega) (by omega) ?_;refine ⟨k+1,by omega,rfl,by omega,hstep true ?_,rfl⟩;simp at h5;simp [nameCh,h5]
        · (conv=>whnf);have e:k=s.size:=by omega
          have e1:1≤s.data.toList.length:=by omega
          have e2:s.data.toList.length≤12:=by omega
          rw [e,← hlen,List.take_length] at hall;exact ⟨by simp only [nameB,nameL,headD_of hc,e1,e2,h3,hall,decide_true,Bool.and_self],rfl⟩
theorem spec_IsName (s:ByteArray) (hs:s.size≤9223372036854775807) (w:World):Does Tryz.prog 293 [.string s] w (fun v w'=>v = .bool (nameB s)∧w=w'):=by
  have hlen:s.data.toList.length=s.size:=by simp
  refine oV Tryz.func293 ?_;conv=>whnf
  with_reducible refine IfB.dec (fun h1=>?_) (fun h1=>?_)
  · exact ⟨by subst h1;rfl,rfl⟩
  · have h1':¬ s.size<1:=fun h=>h1 (by
      have e:s.data.toList=[]:=List.eq_nil_of_length_eq_zero (by omega);rw [← bs_self s,e];rfl)
    clear h1;have h1:=h1';(conv=>whnf);with_reducible refine IfB.dec (fun h2=>?_) (fun h2=>?_)
    · exact ⟨by have e : ¬ s.data.toList.length ≤ 12 := by omega
                simp only [nameB,nameL,e,decide_false,Bool.false_and,Bool.and_false],rfl⟩
    · obtain ⟨c,hc⟩:∃ c,s.data.toList[0]? = some c:=get_of_lt (by omega);refine jC 0 rfl hc ?_;refine (spec_small _ w).mono ?_;rintro _ _ ⟨rfl,rfl⟩;conv=>whnf
      with_reducible refine IfB.split (fun h3=>?_) (fun h3=>?_)
      · exact ⟨by simp only [Bool.not_eq_true'] at h3
                  simp only [nameB,nameL,headD_of hc,h3,Bool.false_and,Bool.and_false],rfl⟩
      · (conv=>whnf);simp only [Bool.not_eq_false'] at h3;refine lR [0,3] (fun (k:Nat) vs w'=>vs=[.string s,.int .i64 k]∧k≤s.size∧(s.data.toList.take k).all nameCh=true∧w=w') (fun k=>s.size - k) 0 ⟨rfl,by omega,by simp,rfl⟩ ?_;rintro k g _ w' ⟨rfl,hk,hall,rfl⟩;(conv=>whnf);with_reducible refine IfB.dec (fun h4=>?_) (fun h4=>?_)
        · have hk':k<s.size:=by omega
          obtain ⟨d,hd⟩:∃ d,s.data.toList[k]? = some d:=get_of_lt (by omega);have hstep:∀ b:Bool,nameCh d=b→(s.data.toList.take (k+1)).all nameCh=b:=fun b hb=>by rw [take_all_snoc hd,hall,hb];rfl
          refine jC k rfl hd ?_;refine (spec_small _ w).mono ?_;rintro _ _ ⟨rfl,rfl⟩;conv=>whnf
          with_reducible refine IfB.split (fun h5=>?_) (fun h5=>?_)
          · refine jC k rfl hd ?_;refine (spec_digit _ w).mono ?_;rintro _ _ ⟨rfl,rfl⟩;conv=>whnf
            with_reducible refine IfB.split (fun h6=>?_) (fun h6=>?_)
            · refine jC k rfl hd ?_;(conv=>whnf);with_reducible refine IfB.ndec (fun h7=>?_) (fun h7=>?_)
              · have hn:nameCh d=false:=by simp at h5 h6;simp [nameCh,h5,h6];omega
                exact ⟨by rw [nameB,nameL,all_false_of hd hn];simp,rfl⟩
              · refine SemK.add (k+1) rfl (by omega) (by omega) ?_;refine ⟨k+1,by omega,rfl,by omega,hstep true ?_,rfl⟩;have:d.toNat=45:=by omega
                simp [nameCh,this]
            · refine SemK.add (k+1) rfl (by omega) (by omega) ?_;refine ⟨k+1,by omega,rfl,by omega,hstep true ?_,rfl⟩;simp at h6;simp [nameCh,h6]
          · refine SemK.add (k+1) rfl (by omega) (by omega) ?_;refine ⟨k+1,by omega,rfl,by omega,hstep true ?_,rfl⟩;simp at h5;simp [nameCh,h5]
        · (conv=>whnf);have e:k=s.size:=by omega
          have e1:1≤s.data.toList.length:=by omega
          have e2:s.data.toList.length≤12:=by omega
          rw [e,← hlen,List.take_length] at hall;exact ⟨by simp only [nameB,nameL,headD_of hc,e1,e2,h3,hall,decide_true,Bool.and_self],rfl⟩
end Go.Proofs.YthadkoinmohmlaaGreatDoor
namespace Go.Proofs.YthadkoinmohmlaaGreatDoor
open Go Go.RowKit Go.Vc Go.M
end Go.Proofs.YthadkoinmohmlaaGreatDoor
namespace Go.Vc
open Go Go.RowKit
structure Hd where
  a:Option Addr
  n:Nat
  c:Nat
def eH (h:Hd):List Value:=[.slice h.a h.n h.c]
theorem eH_len (h:Hd):(eH h).length=1:=rfl
instance:Inhabited Hd:=⟨⟨none,0,0⟩⟩
abbrev Rd (α:Type):=World→Hd→α→Prop
class RdE {α:Type} (R:Rd α):Prop where
  ext:∀ {w w':World} {h:Hd} {x:α},R w h x→Ext w w'→R w' h x
def ElR {α:Type} (R:Rd α) (w:World) (hs:List Hd) (xs:List α):Prop :=
  hs.length=xs.length∧∀ (i:Nat) (h:Hd) (x:α),hs[i]? = some h→xs[i]? = some x→R w h x
theorem ElR.ext {α:Type} {R:Rd α} [RdE R] {w w':World} {hs:List Hd} {xs:List α} (h:ElR R w hs xs) (e:Ext w w'):ElR R w' hs xs :=
  ⟨h.1,fun i a x h1 h2=>RdE.ext (h.2 i a x h1 h2) e⟩
theorem ElR.get {α:Type} {R:Rd α} {w:World} {hs:List Hd} {xs:List α} (h:ElR R w hs xs) {k:Nat} {d:Hd} (hd:hs[k]? = some d):∃ x,xs[k]? = some x∧R w d x:=by
  have hk:=(List.getElem?_eq_some_iff.1 hd).1;obtain ⟨x,hx⟩:∃ x,xs[k]? = some x:=⟨_,List.getElem?_eq_getElem (by rw [← h.1];exact hk)⟩;exact ⟨x,hx,h.2 k d x hd hx⟩
def ArrS {α:Type} (R:Rd α) (w:World) (a:Option Addr) (n:Nat) (xs:List α):Prop:=∃ hs,Arr eH 1 w a n hs∧ElR R w hs xs
theorem ArrS.ext {α:Type} {R:Rd α} [RdE R] {w w':World} {a:Option Addr} {n:Nat} {xs:List α} (h:ArrS R w a n xs) (e:Ext w w'):ArrS R w' a n xs :=
  let ⟨hs,h1,h2⟩:=h
  ⟨hs,h1.ext e,h2.ext e⟩
theorem ArrS.len {α:Type} {R:Rd α} {w:World} {a:Option Addr} {n:Nat} {xs:List α} (h:ArrS R w a n xs):xs.length=n:=by
  obtain ⟨hs,h1,h2⟩:=h;rw [← h2.1,h1.len]
theorem ArrS.le {α:Type} {R:Rd α} {w:World} {a:Option Addr} {n:Nat} {xs:List α} (h:ArrS R w a n xs):n≤9223372036854775807:=by
  obtain ⟨hs,h1,_⟩:=h;exact h1.le
def RA {α:Type} (enc:α→List Value) (sz:Nat):Rd (List α):=fun w h xs=>Arr enc sz w h.a h.n xs∧h.n≤h.c
instance {α:Type} {enc:α→List Value} {sz:Nat}:RdE (RA enc sz):=⟨fun h e=>⟨h.1.ext e,h.2⟩⟩
def RS {α:Type} (R:Rd α):Rd (List α):=fun w h xs=>ArrS R w h.a h.n xs∧h.n≤h.c
instance {α:Type} {R:Rd α} [RdE R]:RdE (RS R):=⟨fun h e=>⟨h.1.ext e,h.2⟩⟩
def blks:Option Addr→List Nat
  | none=>[]
  | some x=>[x.block]
theorem mem_blks {a:Option Addr} {k:Nat}:k∈blks a↔blkIn a k:=by
  cases a with
  | none=>simp [blks,blkIn]
  | some x=>simp [blks,blkIn]
abbrev Ow (α:Type):=World→Hd→α→List Nat→Prop
class OwE {α:Type} (E:Ow α) (R:outParam (Rd α)):Prop where
  keep:∀ {w w':World} {h:Hd} {x:α} {fp:List Nat},E w h x fp→(∀ k∈fp,w'.heap[k]? = w.heap[k]?)→E w' h x fp
  lt:∀ {w:World} {h:Hd} {x:α} {fp:List Nat},E w h x fp→∀ k∈fp,k<w.heap.size
  rd:∀ {w:World} {h:Hd} {x:α} {fp:List Nat},E w h x fp→R w h x
def ElO {α:Type} (E:Ow α) (w:World) (hs:List Hd) (xs:List α) (fps:List (List Nat)):Prop :=
  hs.length=xs.length∧fps.length=xs.length∧∀ (i:Nat) (h:Hd) (x:α) (f:List Nat),hs[i]? = some h→xs[i]? = some x→fps[i]? = some f→E w h x f
def OwnS {α:Type} (E:Ow α) (w:World) (a:Option Addr) (n t:Nat) (xs:List α) (fp:List Nat):Prop :=
  ∃ hs fps,Own eH w a n t hs∧ElO E w hs xs fps∧fp=blks a++fps.flatten
def GrowS {α:Type} (E:Ow α) (B e:Nat) (w:World) (a:Option Addr) (n c:Nat) (xs:List α) (fp:List Nat):Prop :=
  ∃ hs fps,Grow eH 1 B e w a n c hs∧ElO E w hs xs fps∧fp=blks a++fps.flatten
theorem GrowS.own {α:Type} {E:Ow α} {B e:Nat} {w:World} {a:Option Addr} {n c:Nat} {xs:List α} {fp:List Nat} (h:GrowS E B e w a n c xs fp):OwnS E w a n e xs fp:=by
  obtain ⟨hs,fps,h1,h2,h3⟩:=h;exact ⟨hs,fps,h1.own,h2,h3⟩
theorem Own.keep {α:Type} {enc:α→List Value} {w w':World} {a:Option Addr} {n t:Nat} {xs:List α} (h:Own enc w a n t xs) (hk:∀ k∈blks a,w'.heap[k]? = w.heap[k]?):Own enc w' a n t xs :=
  ⟨h.1,h.2.1,h.2.2.imp id fun ⟨b,rest,ha,hb⟩=>⟨b,rest,ha,by
    unfold Blk at *;rw [hk b (by rw [ha];simp [blks])];exact hb⟩⟩
theorem flatten_mem {fps:List (List Nat)} {i k:Nat} {f:List Nat} (h:fps[i]? = some f) (hk:k∈f):k∈fps.flatten :=
  List.mem_flatten.2 ⟨f,List.mem_of_getElem? h,hk⟩
theorem ElO.keep {α:Type} {E:Ow α} {R:Rd α} [OwE E R] {w w':World} {hs:List Hd} {xs:List α} {fps:List (List Nat)} (h:ElO E w hs xs fps) (hk:∀ k∈fps.flatten,w'.heap[k]? = w.heap[k]?):ElO E w' hs xs fps :=
  ⟨h.1,h.2.1,fun i a x f h1 h2 h3=>OwE.keep (h.2.2 i a x f h1 h2 h3) fun k hkf=>hk k (flatten_mem h3 hkf)⟩
theorem ElO.lt {α:Type} {E:Ow α} {R:Rd α} [OwE E R] {w:World} {hs:List Hd} {xs:List α} {fps:List (List Nat)} (h:ElO E w hs xs fps):∀ k∈fps.flatten,k<w.heap.size:=by
  intro k hk;obtain ⟨f,hf,hkf⟩:=List.mem_flatten.1 hk;obtain ⟨i,hi⟩:=List.mem_iff_getElem?.1 hf;have hl:=(List.getElem?_eq_some_iff.1 hi).1;obtain ⟨x,hx⟩:∃ x,xs[i]? = some x:=⟨_,List.getElem?_eq_getElem (by rw [← h.2.1];exact hl)⟩;obtain ⟨d,hd⟩:∃ d,hs[i]? = some d:=⟨_,List.getElem?_eq_getElem (by rw [h.1,← h.2.1];exact hl)⟩;exact OwE.lt (h.2.2 i d x f hd hx hi) k hkf
theorem ElO.rd {α:Type} {E:Ow α} {R:Rd α} [OwE E R] {w:World} {hs:List Hd} {xs:List α} {fps:List (List Nat)} (h:ElO E w hs xs fps):ElR R w hs xs :=
  ⟨h.1,fun i d x h1 h2=>by
    have hl:=(List.getElem?_eq_some_iff.1 h2).1;obtain ⟨f,hf⟩:∃ f,fps[i]? = some f:=⟨_,List.getElem?_eq_getElem (by rw [h.2.1];exact hl)⟩;exact OwE.rd (h.2.2 i d x f h1 h2 hf)⟩
theorem OwnS.keep {α:Type} {E:Ow α} {R:Rd α} [OwE E R] {w w':World} {a:Option Addr} {n t:Nat} {xs:List α} {fp:List Nat} (h:OwnS E w a n t xs fp) (hk:∀ k∈fp,w'.heap[k]? = w.heap[k]?):OwnS E w' a n t xs fp:=by
  obtain ⟨hs,fps,h1,h2,rfl⟩:=h;exact ⟨hs,fps,h1.keep fun k hkk=>hk k (List.mem_append_left _ hkk),h2.keep fun k hkk=>hk k (List.mem_append_right _ hkk),rfl⟩
theorem OwnS.lt {α:Type} {E:Ow α} {R:Rd α} [OwE E R] {w:World} {a:Option Addr} {n t:Nat} {xs:List α} {fp:List Nat} (h:OwnS E w a n t xs fp):∀ k∈fp,k<w.heap.size:=by
  obtain ⟨hs,fps,h1,h2,rfl⟩:=h;intro k hk;rcases List.mem_append.1 hk with hk | hk
  · obtain ⟨x,hx,rfl⟩:=mem_blks.1 hk;exact h1.lt x hx
  · exact h2.lt k hk
theorem OwnS.arr {α:Type} {E:Ow α} {R:Rd α} [OwE E R] {w:World} {a:Option Addr} {n t:Nat} {xs:List α} {fp:List Nat} (h:OwnS E w a n t xs fp):ArrS R w a n xs:=by
  obtain ⟨hs,fps,h1,h2,_⟩:=h;exact ⟨hs,h1.arr eH_len,h2.rd⟩
theorem OwnS.len {α:Type} {E:Ow α} {w:World} {a:Option Addr} {n t:Nat} {xs:List α} {fp:List Nat} (h:OwnS E w a n t xs fp):xs.length=n:=by
  obtain ⟨hs,fps,h1,h2,_⟩:=h;rw [← h2.1,h1.1]
def OA {α:Type} (enc:α→List Value):Ow (List α):=fun w h xs fp=>(∃ t,Own enc w h.a h.n t xs)∧h.n≤h.c∧fp=blks h.a
class EncL {α:Type} (enc:α→List Value) (sz:outParam Nat):Prop where
  len:∀ x,(enc x).length=sz
instance {α:Type} {enc:α→List Value} {sz:Nat} [EncL enc sz]:OwE (OA enc) (RA enc sz) where
  keep:=fun ⟨⟨t,h1⟩,h2,h3⟩ hk=>⟨⟨t,h1.keep (by rw [← h3];exact hk)⟩,h2,h3⟩
  lt:=fun ⟨⟨t,h1⟩,h2,h3⟩ k hk=>by
    rw [h3] at hk;obtain ⟨x,hx,rfl⟩:=mem_blks.1 hk;exact h1.lt x hx
  rd:=fun ⟨⟨t,h1⟩,h2,_⟩=>⟨h1.arr EncL.len,h2⟩
def OS {α:Type} (E:Ow α):Ow (List α):=fun w h xs fp=>(∃ t,OwnS E w h.a h.n t xs fp)∧h.n≤h.c
instance {α:Type} {E:Ow α} {R:Rd α} [OwE E R]:OwE (OS E) (RS R) where
  keep:=fun ⟨⟨t,h1⟩,h2⟩ hk=>⟨⟨t,h1.keep hk⟩,h2⟩
  lt:=fun ⟨⟨t,h1⟩,_⟩=>h1.lt
  rd:=fun ⟨⟨t,h1⟩,h2⟩=>⟨h1.arr,h2⟩
def Iv (lo hi:Nat):Nat→Prop:=fun k=>lo≤k∧k<hi
def InIv (lo hi:Nat) (fp:List Nat):Prop:=fp.Nodup∧∀ k∈fp,lo≤k∧k<hi
def OwnN {α:Type} (E:Ow α) (w:World) (lo hi:Nat) (a:Option Addr) (n t:Nat) (xs:List α):Prop:=∃ fp,OwnS E w a n t xs fp∧InIv lo hi fp
theorem OwnN.arr {α:Type} {E:Ow α} {R:Rd α} [OwE E R] {w:World} {lo hi:Nat} {a:Option Addr} {n t:Nat} {xs:List α} (h:OwnN E w lo hi a n t xs):ArrS R w a n xs:=by
  obtain ⟨fp,h,_⟩:=h;exact h.arr
theorem OwnN.ext {α:Type} {E:Ow α} {R:Rd α} [OwE E R] {w w':World} {lo hi:Nat} {a:Option Addr} {n t:Nat} {xs:List α} (h:OwnN E w lo hi a n t xs) (e:Ext w w'):OwnN E w' lo hi a n t xs:=by
  obtain ⟨fp,h,hi⟩:=h;exact ⟨fp,h.keep fun k hk=>e.block k (h.lt k hk),hi⟩
theorem OwnN.wide {α:Type} {E:Ow α} {w:World} {lo hi lo' hi':Nat} {a:Option Addr} {n t:Nat} {xs:List α} (h:OwnN E w lo hi a n t xs) (h1:lo'≤lo) (h2:hi≤hi'):OwnN E w lo' hi' a n t xs:=by
  obtain ⟨fp,h,hi⟩:=h;exact ⟨fp,h,hi.1,fun k hk=>⟨Nat.le_trans h1 (hi.2 k hk).1,Nat.lt_of_lt_of_le (hi.2 k hk).2 h2⟩⟩
theorem nodup_flatten_get {fps:List (List Nat)} (h:fps.flatten.Nodup) {i:Nat} {f:List Nat} (hi:fps[i]? = some f):f.Nodup∧∀ j g,j≠i→fps[j]? = some g→∀ k∈g,k∉f:=by
  induction fps generalizing i with
  | nil=>simp at hi
  | cons p ps ih =>
    rw [List.flatten_cons,List.nodup_append] at h;obtain ⟨h1,h2,h3⟩:=h;cases i with
    | zero =>
      simp at hi;subst hi;refine ⟨h1,fun j g hj hg k hk hkf=>?_⟩;cases j with
      | zero=>exact hj rfl
      | succ j =>
        simp at hg;exact h3 k hkf k (flatten_mem hg hk) rfl
    | succ i =>
      simp at hi;obtain ⟨q1,q2⟩:=ih h2 hi;refine ⟨q1,fun j g hj hg k hk hkf=>?_⟩;cases j with
      | zero =>
        simp at hg;subst hg;exact h3 k hk k (flatten_mem hi hkf) rfl
      | succ j=>exact q2 j g (by omega) (by simpa using hg) k hk hkf
section
variable {α:Type} {mk:Nat→α→α} {wt:α→Nat}
end
theorem ElO.snoc {α:Type} {E:Ow α} {w:World} {hs:List Hd} {xs:List α} {fps:List (List Nat)} (h:ElO E w hs xs fps) {d:Hd} {x:α} {f:List Nat} (hd:E w d x f):ElO E w (hs++[d]) (xs++[x]) (fps++[f]):=by
  obtain ⟨h1,h2,h3⟩:=h;refine ⟨by simp [h1],by simp [h2],fun i a y g k1 k2 k3=>?_⟩;rcases Nat.lt_trichotomy i xs.length with hlt | heq | hgt
  · rw [List.getElem?_append_left (by omega)] at k1 k2 k3;exact h3 i a y g k1 k2 k3
  · subst heq;rw [← h1,List.getElem?_concat_length] at k1;rw [List.getElem?_concat_length] at k2;rw [← h2,List.getElem?_concat_length] at k3;simp only [Option.some.injEq] at k1 k2 k3;subst k1;subst k2;subst k3;exact hd
  · rw [List.getElem?_eq_none (by simp;omega)] at k2;cases k2
theorem ElO.nil {α:Type} {E:Ow α} {w:World}:ElO E w [] ([]:List α) []:=⟨rfl,rfl,fun i h x f h1=>by simp at h1⟩
theorem InIv.nil {lo hi:Nat}:InIv lo hi []:=⟨List.nodup_nil,by simp⟩
theorem InIv.wide {lo hi lo' hi':Nat} {p:List Nat} (h:InIv lo hi p) (h1:lo'≤lo) (h2:hi≤hi'):InIv lo' hi' p :=
  ⟨h.1,fun k hk=>⟨Nat.le_trans h1 (h.2 k hk).1,Nat.lt_of_lt_of_le (h.2 k hk).2 h2⟩⟩
theorem InIv.blks {lo:Nat} {a:Option Addr} {s:Nat} (h:NewAt lo a) (hl:∀ x,a=some x→x.block<s):InIv lo s (blks a):=by
  cases a with
  | none=>exact InIv.nil
  | some x=>exact ⟨by simp [Vc.blks],by simp only [Vc.blks,List.mem_singleton];rintro k rfl;exact ⟨h x rfl,hl x rfl⟩⟩
theorem OA.of {α:Type} {enc:α→List Value} {w:World} {a:Option Addr} {n c t:Nat} {xs:List α} (h:Own enc w a n t xs) (hc:n≤c):OA enc w ⟨a,n,c⟩ xs (blks a):=⟨⟨t,h⟩,hc,rfl⟩
def GrowN {α:Type} (E:Ow α) (lo t:Nat) (w:World) (a:Option Addr) (n c:Nat) (xs:List α):Prop :=
  ∃ hs fps,Grow eH 1 lo t w a n c hs∧ElO E w hs xs fps∧InIv lo w.heap.size (blks a++fps.flatten)
theorem GrowN.ext {α:Type} {E:Ow α} {R:Rd α} [OwE E R] {lo t:Nat} {w w':World} {a:Option Addr} {n c:Nat} {xs:List α} (h:GrowN E lo t w a n c xs) (e:Ext w w'):GrowN E lo t w' a n c xs:=by
  obtain ⟨hs,fps,h1,h2,h3⟩:=h;exact ⟨hs,fps,h1.ext e,h2.keep (fun k hk=>e.block k (h2.lt k hk)),h3.wide (Nat.le_refl _) e.size⟩
theorem GrowN.ownN {α:Type} {E:Ow α} {lo t:Nat} {w:World} {a:Option Addr} {n c:Nat} {xs:List α} (h:GrowN E lo t w a n c xs):OwnN E w lo w.heap.size a n t xs:=by
  obtain ⟨hs,fps,h1,h2,h3⟩:=h;exact ⟨_,⟨hs,fps,h1.own,h2,rfl⟩,h3⟩
theorem GrowN.le {α:Type} {E:Ow α} {lo t:Nat} {w:World} {a:Option Addr} {n c:Nat} {xs:List α} (h:GrowN E lo t w a n c xs):n≤c∧xs.length=n:=by
  obtain ⟨hs,fps,h1,h2,h3⟩:=h;exact ⟨h1.le.1,by rw [← h2.1,h1.len]⟩
theorem GrowN.new0 {α:Type} {E:Ow α} {w:World} {B b e:Nat} (h:Blk w b [] e) (hB:B≤b):GrowN E B e w (some ⟨b,0,none⟩) 0 0 ([]:List α) :=
  ⟨[],[],Grow.new0 eH_len h hB,ElO.nil,by
    have hb:=h.lt;exact ⟨by simp [blks],by simp only [blks,List.flatten_nil,List.append_nil,List.mem_singleton];rintro k rfl;exact ⟨hB,hb⟩⟩⟩
theorem SemK.appendN {P:Program} {α:Type} {E:Ow α} {R:Rd α} [OwE E R] {t e by_ lo:Nat} {zs:List Value} (ht:mkInfo P t=some (e,zs,by_)) (hz:zs.length=1) {u w:World} {a:Option Addr} {n c:Nat} {xs:List α} (h:GrowN E lo e u a n c xs) (hlo:lo≤u.heap.size) (hu:Ext u w)
    {b c':Nat} {d:Hd} {x:α} {f:List Nat} (hd:E w d x f) (hf:InIv u.heap.size w.heap.size f) (hy:Cells w b 0 (eH d)) (hsm:n+1≤1099511627776) (hby:(n+1) * by_≤140737488355328) {ty:Nat} {cs:Array Bool} {K:Next→World→Prop}
    (hK:∀ a' c' w',GrowN E lo e w' a' (n+1) c' (xs++[x])→Mod (blkIn a) w w'→(∀ k,blkIn a' k→blkIn a k∨k=w.heap.size)→K (.value (.slice a' (n+1) c')) w') :
    SemK P (builtin .append #[t,t] ty cs #[.slice a n c,.slice (some ⟨b,0,none⟩) 1 c']) w K:=by
  obtain ⟨hs,fps,h1,h2,h3⟩:=h;have h1w:=h1.ext hu;rw [← hz] at h1w;refine SemK.appendAt ht (fun x=>by rw [hz];rfl) h1w (ys:=[d]) (m:=1) hy rfl (by simp [flat,eH,cellish]) hsm hby (Nat.le_trans hlo hu.size) ?_;intro a' c2 w' hG hM hi;rw [hz] at hG;refine hK a' c2 w' ⟨hs++[d],fps++[f],hG,?_,?_⟩ hM hi
  · have hk2:ElO E w' hs xs fps:=(h2.keep fun k hk=>by
      rw [hM.block k ?_ (Nat.lt_of_lt_of_le (h2.lt k hk) hu.size)]
      · exact hu.block k (h2.lt k hk)
      · rintro hkb;have:=(List.nodup_append.1 h3.1).2.2 k (mem_blks.2 hkb) k hk;exact this rfl)
    refine hk2.snoc (OwE.keep hd fun k hk=>hM.block k ?_ (hf.2 k hk).2);rintro ⟨y,hy,rfl⟩;have:=h1.lt y hy;have:=(hf.2 _ hk).1;omega
  · have hsz:=hM.size;have hfl:(fps++[f]).flatten=fps.flatten++f:=by simp
    rw [hfl];obtain ⟨n1,n2,n3⟩:=List.nodup_append.1 h3.1;have hin:∀ k,k∈blks a'→k∈blks a∨k=w.heap.size:=fun k hk=>(hi k (mem_blks.1 hk)).imp (fun h=>mem_blks.2 h) id;have hlt':∀ k,k∈blks a'→k<w'.heap.size:=fun k hk=>by
      obtain ⟨y,hy,rfl⟩:=mem_blks.1 hk;exact hG.lt y hy
    have hge':∀ k,k∈blks a'→lo≤k:=fun k hk=>by
      obtain ⟨y,hy,rfl⟩:=mem_blks.1 hk;exact hG.new y hy
    have hfps:∀ k∈fps.flatten,lo≤k∧k<u.heap.size:=fun k hk=>h3.2 k (List.mem_append_right _ hk);have hus:=hu.size;refine ⟨List.nodup_append.2 ⟨?_,List.nodup_append.2 ⟨n2,hf.1,fun p hp q hq=>?_⟩,fun p hp q hq=>?_⟩,fun k hk=>?_⟩
    · cases a' with
      | none=>simp [blks]
      | some y=>simp [blks]
    · have:=(hfps p hp).2;have:=(hf.2 q hq).1;omega
    · rcases hin p hp with hpa | rfl
      · rcases List.mem_append.1 hq with hq | hq
        · exact n3 p hpa q hq
        · have:=h3.2 p (List.mem_append_left _ hpa);have:=(hf.2 q hq).1;omega
      · rcases List.mem_append.1 hq with hq | hq
        · have:=(hfps q hq).2;omega
        · have:=(hf.2 q hq).2;omega
    · rcases List.mem_append.1 hk with hk | hk
      · exact ⟨hge' k hk,hlt' k hk⟩
      · rcases List.mem_append.1 hk with hk | hk
        · have:=hfps k hk;omega
        · have:=hf.2 k hk;omega
def stInfo (P:Program) (t:Nat):Option (List Value×List (Nat×Nat)) :=
  match P.info? t,P.underlying t with
  | some it,some (.struct fields) =>
    match it.zero,fields.toList.mapM (fun f=>(P.info? f.type).map fun i=>(f.offset,i.size)) with
    | some z,some places=>some (z.cells.toList,places)
    | _,_=>none
  | _,_=>none
def fillL (pl:List (Nat×Nat)):List Value→List (Nat×Value)→Option (List Value)
  | cs,[]=>some cs
  | cs,(i,v) :: r =>
    match pl[i]? with
    | none=>none
    | some (off,size) =>
      bif Nat.beq v.cells.toList.length size && Nat.ble (off+size) cs.length then fillL pl (cs.take off++v.cells.toList++cs.drop (off+size)) r else none
theorem fillL_spec (pl:List (Nat×Nat)):∀ (parts:List (Nat×Value)) (cs out:List Value),fillL pl cs parts=some out→Instr.fill (pl.toArray[·]?) cs.toArray parts=some out.toArray
  | [],cs,out,h=>by
    simp only [fillL,Option.some.injEq] at h;subst h;rfl
  | (i,v) :: r,cs,out,h=>by
    unfold fillL at h;cases hp:pl[i]? with
    | none=>simp [hp] at h
    | some q =>
      obtain ⟨off,size⟩:=q;simp only [hp] at h;cases hb:(Nat.beq v.cells.toList.length size && Nat.ble (off+size) cs.length) with
      | false=>rw [hb] at h;cases h
      | true =>
        rw [hb] at h;simp only [cond_true] at h;simp only [Bool.and_eq_true] at hb;have h1:v.cells.size=size:=by simpa using Nat.eq_of_beq_eq_true hb.1
        have h2:off+size≤cs.length:=Nat.le_of_ble_eq_true hb.2;have ih:=fillL_spec pl r _ out h;unfold Instr.fill;simp only [List.getElem?_toArray,hp];have hc:¬ (v.cells.size≠size∨off+v.cells.size > cs.toArray.size):=by
          simp only [List.size_toArray];omega
        have hc':(decide (v.cells.size≠size) || decide (off+v.cells.size > cs.toArray.size))=false:=by
          simp only [List.size_toArray,Bool.or_eq_false_iff,decide_eq_false_iff_not];omega
        have h3:=foldl_splice v.cells.toList cs.toArray off 0;have h4:v.cells.zipIdx.foldl (fun cs (c,j)=>cs.setIfInBounds (off+j) c) cs.toArray=(cs.take off++v.cells.toList++cs.drop (off+size)).toArray:=by
          rw [← Array.foldl_toList];have h5:v.cells.zipIdx.toList=v.cells.toList.zipIdx 0:=by simp
          rw [h5];apply Array.toList_inj.1;rw [h3,splice_eq _ _ _ (by simp;omega)];simp [h1]
        rw [if_neg (by simpa using hc'),h4];simpa using ih
theorem stInfo_spec {P:Program} {t:Nat} {zs:List Value} {pl:List (Nat×Nat)} (h:stInfo P t=some (zs,pl)) {parts:List (Nat×Value)} {out:List Value} (ho:fillL pl zs parts=some out):P.built t parts=some out.toArray:=by
  unfold stInfo at h;unfold Program.built;cases hit:P.info? t with
  | none=>simp [hit] at h
  | some it =>
    cases hu:P.underlying t with
    | none=>simp [hit,hu] at h
    | some d =>
      cases d<;>try (simp [hit,hu] at h;done)
      case struct fields =>
        cases hz:it.zero with
        | none=>simp [hit,hu,hz] at h
        | some z =>
          cases hp:fields.toList.mapM (fun f=>(P.info? f.type).map fun i=>(f.offset,i.size)) with
          | none=>simp [hit,hu,hz,hp] at h
          | some places =>
            simp only [hit,hu,hz,hp,Option.some.injEq,Prod.mk.injEq] at h;obtain ⟨rfl,rfl⟩:=h;have:=fillL_spec places parts z.cells.toList out ho;simp only [hz,hp];simpa using this
theorem SemK.build {P:Program} {t:Nat} {zs:List Value} {pl:List (Nat×Nat)} (h:stInfo P t=some (zs,pl)) {parts:List (Nat×Value)} {out:List Value} (ho:fillL pl zs parts=some out) {w:World} {K:Value→World→Prop} (hK:K (.agg ⟨out⟩) w) :
    SemK P (Instr.build t parts.toArray) w K :=
  SemK.of (run_build w t parts.toArray out.toArray (by simpa using stInfo_spec h ho)) hK
theorem OS.new0 {α:Type} {E:Ow α} {w:World} {b e:Nat} (h:Blk w b [] e):OS E w ⟨some ⟨b,0,none⟩,0,0⟩ ([]:List α) [b] :=
  ⟨⟨e,[],[],(Grow.new0 eH_len h (Nat.le_refl b)).own,ElO.nil,rfl⟩,Nat.le_refl 0⟩
theorem OS.zero {α:Type} {E:Ow α} {w:World}:OS E w ⟨Option.none,0,0⟩ ([]:List α) [] :=
  ⟨⟨0,[],[],Own.nil,ElO.nil,rfl⟩,Nat.le_refl 0⟩
end Go.Vc
namespace Go.Vc
open Go Go.RowKit Go.ChangeShapes Go.WideShapes
section
variable {H:Type} {enc:TypeId×Value→H} {P:Program}
end
end Go.Vc
