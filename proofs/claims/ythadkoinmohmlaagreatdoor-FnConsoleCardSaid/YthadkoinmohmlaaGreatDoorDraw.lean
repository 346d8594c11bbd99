/- Contracts of functions of the given program, of the reference and of the laws: each says what a call returns, for all arguments that meet the premises that the theorem itself names. -/
import Derived.Test.YthadkoinmohmlaaGreatDoorBasics
import Derived.Test.YthadkoinmohmlaaGreatDoorVcApp
import Derived.Test.YthadkoinmohmlaaGreatDoorVcWrite
import Derived.Test.YthadkoinmohmlaaGreatDoorModel
namespace Go.M
open Go Go.Vc
theorem mod_b {a n:Int} (h0:0≤a) (h1:0<n):0≤a % n∧a % n<n∧a % n≤a:=by
  have h2:=Int.emod_nonneg a (by omega:n≠0);have h3:=Int.emod_lt_of_pos a h1;have h4:0≤n * (a / n):=Int.mul_nonneg (by omega) (Int.ediv_nonneg h0 (by omega));have h5:=Int.emod_add_mul_ediv a n;omega
end Go.M
namespace Go.Proofs.YthadkoinmohmlaaGreatDoor
open Go Go.RowKit Go.Vc Go.M
theorem spec_l00From {w:World} {a:Option Addr} {n c:Nat} {xs:List UInt8} (h:Arr eB 1 w a n xs) :
    Does Tryz.prog 23 [.slice a n c] w (fun v w'=>∃ a',v = .pointer a'∧NewAt w.heap.size a'∧Src w' a' 0∧Ext w w'):=by
  refine oV Tryz.func23 ?_;refine SemK.build st_91 rfl ?_;refine SemK.box ?_;intro b1 w1 g1 l1 e1 B1;refine ⟨_,rfl,NewAt.some (by omega),?_,e1⟩
  · exact ⟨b1,_,a,n,c,xs,0,0,rfl,B1,h.ext e1,fun hn x hx=>by have:=h.lt (by simp [eB]) hn x hx;omega,by omega,by omega⟩
theorem spec_next {w:World} {a0:Option Addr} {k:Nat} (h:Src w a0 k) (hk:k≤1000000000) :
    Does Tryz.prog 52 [.pointer a0] w (fun v w'=>∃ r:Int,v = .int .i64 r∧0≤r∧r≤255∧Src w' a0 (k+1)∧Mod (blkIn a0) w w'):=by
  obtain ⟨b,t,a,n,c,xs,i,seed,rfl,hB,hA,hne,h0,h1⟩:=h;have hn:=hA.len;have hm:=hA.le;refine oV Tryz.func52 ?_;refine DrawK.det tabok mixed (by kernel_rfl) (by kernel_rfl) ?_;refine dL hB.cells (k:=1) rfl ?_;refine dL hB.cells (k:=0) rfl ?_;intro w2 e2;(conv=>whnf);with_reducible refine IfB.dec (fun h3=>?_) (fun h3=>?_)
  · refine DrawK.det tabok mixed (by kernel_rfl) (by kernel_rfl) ?_;refine dL (hB.ext e2).cells (k:=0) rfl ?_;refine dL (hB.ext e2).cells (k:=1) rfl ?_;obtain ⟨x4,hx4⟩:∃ x,xs[(i).toNat]? = some x:=get_of_lt (by omega);refine dI (hA.ext e2) (i).toNat (by omega) hx4 ?_;intro b5 o5 _ hb5;refine dO hb5 rfl ?_;refine DSemK.conv (k := .i64) (by kernel_rfl) (by kernel_rfl) (i64_wrap (by omega) (by have:=UInt8.toNat_lt (x4);omega)) ?_
    intro w6 e6;refine jL (hB.ext (xt e2 e6)).cells (k:=1) rfl ?_;refine SemK.add _ rfl (by omega) (by omega) ?_;refine jT (hB.ext (xt e2 e6)) (k:=1) (Nat.le_of_ble_eq_true rfl) rfl ?_;intro w7 c7 B7;refine jL B7.cells (k:=2) rfl ?_;refine SemK.wmul ?_;refine SemK.conv (k := .u64) (by kernel_rfl) (by kernel_rfl) (u64_wrap (by omega) (by have:=UInt8.toNat_lt (x4);omega)) ?_
    refine SemK.wadd ?_;refine SemK.wadd ?_;refine jT B7 (k:=2) (Nat.le_of_ble_eq_true rfl) rfl ?_;intro w8 c8 B8;refine DrawK.det tabok mixed (by kernel_rfl) (by kernel_rfl) ?_;refine dL B8.cells (k:=1) rfl ?_;refine dL B8.cells (k:=0) rfl ?_;intro w9 e9;refine IfB.yes (by omega) ?_;refine ⟨_,rfl,by omega,?_,?_,((((e2.mod.trans e6.mod).trans (c7.but.mono (fun i hi=>⟨_,rfl,hi⟩))).trans (c8.but.mono (fun i hi=>⟨_,rfl,hi⟩))).trans e9.mod)⟩
    · have:=UInt8.toNat_lt x4;omega
    · exact ⟨b,t,a,n,c,xs,_,_,rfl,B8.ext e9,hA.keep ((((e2.mod.trans e6.mod).trans (c7.but.mono (fun i hi=>⟨_,rfl,hi⟩))).trans (c8.but.mono (fun i hi=>⟨_,rfl,hi⟩))).trans e9.mod) hne,by omega,by omega⟩
  · refine jL (hB.ext e2).cells (k:=1) rfl ?_;refine SemK.add _ rfl (by omega) (by omega) ?_;refine jT (hB.ext e2) (k:=1) (Nat.le_of_ble_eq_true rfl) rfl ?_;intro w10 c10 B10;refine jL B10.cells (k:=2) rfl ?_;refine SemK.wmul ?_;refine SemK.conv (k := .u64) (by kernel_rfl) (by kernel_rfl) (u64_wrap (by omega) (by omega)) ?_
    refine SemK.wadd ?_;refine SemK.wadd ?_;refine jT B10 (k:=2) (Nat.le_of_ble_eq_true rfl) rfl ?_;intro w11 c11 B11;refine DrawK.det tabok mixed (by kernel_rfl) (by kernel_rfl) ?_;refine dL B11.cells (k:=1) rfl ?_;refine dL B11.cells (k:=0) rfl ?_;intro w12 e12;refine IfB.no (by omega) ?_;refine jL (B11.ext e12).cells (k:=2) rfl ?_;refine SemK.shr (by omega) ?_;refine SemK.and ?_;refine SemK.conv (k := .i64) (by kernel_rfl) (by kernel_rfl) (i64_wrap (Int.le_trans (by decide) (and255 _).1) (Int.le_trans (and255 _).2 (by decide))) ?_
    exact ⟨_,rfl,(and255 _).1,(and255 _).2,⟨b,t,a,n,c,xs,_,_,rfl,B11.ext e12,hA.keep (((e2.mod.trans (c10.but.mono (fun i hi=>⟨_,rfl,hi⟩))).trans (c11.but.mono (fun i hi=>⟨_,rfl,hi⟩))).trans e12.mod) hne,by omega,by omega⟩,(((e2.mod.trans (c10.but.mono (fun i hi=>⟨_,rfl,hi⟩))).trans (c11.but.mono (fun i hi=>⟨_,rfl,hi⟩))).trans e12.mod)⟩
theorem spec_pick {w:World} {a0:Option Addr} {k:Nat} (h:Src w a0 k) (hk:k≤100000000) {n:Int} (hn:n≤1000000) :
    Does Tryz.prog 24 [.pointer a0,.int .i64 n] w (fun v w'=>∃ r:Int,v = .int .i64 r∧0≤r∧r≤65535∧(r<n∨n≤1∧r=0)∧Src w' a0 (k+2)∧Mod (blkIn a0) w w'):=by
  refine oV Tryz.func24 ?_;conv=>whnf
  with_reducible refine IfB.dec (fun h1=>?_) (fun h1=>?_)
  · exact ⟨_,rfl,by omega,by omega,by omega,(h.more (by omega)),Vc.Mod.refl _ _⟩
  · refine (spec_next h (by omega)).mono ?_;rintro _ w7 ⟨r2,rfl,q3,q4,S5,m6⟩;(conv=>whnf);with_reducible refine IfB.dec (fun h8=>?_) (fun h8=>?_)
    · refine SemK.mul _ rfl (by omega) (by omega) ?_;refine (spec_next S5 (by omega)).mono ?_;rintro _ w14 ⟨r9,rfl,q10,q11,S12,m13⟩;refine SemK.add _ rfl (by omega) (by omega) ?_;refine SemK.rem (by omega) (by omega) ?_;refine ⟨_,rfl,?_,?_,?_,S12,(m6.trans m13)⟩
      · exact (mod_b (by omega) (by omega)).1
      · have:=mod_b (a:=r2 * 256+r9) (n:=n) (by omega) (by omega);omega
      · exact .inl (mod_b (by omega) (by omega)).2.1
    · refine SemK.rem (by omega) (by omega) ?_;refine ⟨_,rfl,?_,?_,?_,(S5.more (by omega)),m6⟩
      · exact (mod_b (by omega) (by omega)).1
      · have:=mod_b (a:=r2) (n:=n) (by omega) (by omega);omega
      · exact .inl (mod_b (by omega) (by omega)).2.1
theorem spec_text {w:World} {a0:Option Addr} {k:Nat} (h:Src w a0 k) (hk:k≤100000000) {a:Option Addr} {n c:Nat} {xs:List ByteArray} (hA:Arr eS 1 w a n xs) (hap:Apart a0 a) (h0:0<n) (h1:n≤1000000) :
    Does Tryz.prog 53 [.pointer a0,.slice a n c] w (fun v w'=>∃ r:ByteArray,v = .string r∧r∈xs∧Src w' a0 (k+2)∧Mod (blkIn a0) w w'):=by
  have hn:=hA.len;have hm:=hA.le;refine oV Tryz.func53 ?_;refine (spec_pick h hk (by omega)).mono ?_;rintro _ w8 ⟨r2,rfl,q3,q4,q5,S6,m7⟩;obtain ⟨x9,hx9⟩:∃ x,xs[(r2).toNat]? = some x:=get_of_lt (by omega);refine jI (hA.mod m7 hap) (r2).toNat (by omega) hx9 ?_;intro b10 o10 _ hb10;refine jO hb10 rfl ?_;refine ⟨_,rfl,?_,S6,m7⟩
  · exact List.mem_of_getElem? hx9
end Go.Proofs.YthadkoinmohmlaaGreatDoor
namespace Go.M
open Go Go.Vc
structure TNote where
  tray:Int
  count:Int
  sum:Int
  what:ByteArray
theorem TNote.ext_iff2 {a b:TNote}:a=b↔a.tray=b.tray∧a.count=b.count∧a.sum=b.sum∧a.what=b.what:=by
  constructor
  · intro h;subst h;simp
  · intro h;cases a;cases b;simp at h;simp [h]
instance:DecidableEq TNote:=fun a b=>decidable_of_iff (a.tray=b.tray∧a.count=b.count∧a.sum=b.sum∧a.what=b.what) TNote.ext_iff2.symm
instance:Inhabited TNote:=⟨⟨0,0,0,.empty⟩⟩
def TNote.enc (x:TNote):List Value:=[.int .i64 x.tray,.int .i64 x.count,.int .i64 x.sum,.string x.what]
theorem TNote.enc_len (x:TNote):x.enc.length=4:=rfl
def TNote.ok (x:TNote):Prop:=i64ok x.tray∧i64ok x.count∧i64ok x.sum∧strok x.what
end Go.M
namespace Go.Proofs.YthadkoinmohmlaaGreatDoor
open Go Go.RowKit Go.Vc Go.M
end Go.Proofs.YthadkoinmohmlaaGreatDoor
namespace Go.M
open Go Go.Vc
def noteB (x:TNote):Bool:=inB x.tray 0 5 && inB x.count 0 100000 && inB x.sum (-999999999999) 999999999999 && nameB x.what
end Go.M
namespace Go.Proofs.YthadkoinmohmlaaGreatDoor
open Go Go.RowKit Go.Vc Go.M
theorem impl_isTray (n:Int) (w:World):Does Tryz.prog 64 [.int .i64 n] w (fun v w'=>v = .bool (inB n 0 5)∧w=w'):=by
  refine oV Tryz.func64 ?_;refine (impl_inside _ _ _ w).mono ?_;rintro _ _ ⟨rfl,rfl⟩;exact ⟨rfl,rfl⟩
theorem impl_isCardNumber (n:Int) (w:World):Does Tryz.prog 258 [.int .i64 n] w (fun v w'=>v = .bool (inB n (-999999999999) 999999999999)∧w=w'):=by
  refine oV Tryz.func258 ?_;refine (impl_inside _ _ _ w).mono ?_;rintro _ _ ⟨rfl,rfl⟩;exact ⟨rfl,rfl⟩
theorem spec_l15Tray (n:Int) (w:World):Does Tryz.prog 149 [.int .i64 n] w (fun v w'=>v = .bool (inB n 0 5)∧w=w'):=by
  refine oV Tryz.func149 ?_;refine (spec_in _ _ _ w).mono ?_;rintro _ _ ⟨rfl,rfl⟩;exact ⟨rfl,rfl⟩
theorem spec_l27Ok {x:TNote} (hx:x.ok) {b o:Nat} {w:World} (hc:Cells w b o x.enc):Does Tryz.prog 229 [.pointer (some ⟨b,o,none⟩)] w (fun v w'=>v = .bool (noteB x)∧w=w'):=by
  refine oV Tryz.func229 ?_;refine jL hc (k:=0) rfl ?_;refine (spec_l15Tray _ w).mono ?_;rintro _ _ ⟨rfl,rfl⟩;conv=>whnf
  with_reducible refine IfB.split (fun h1=>?_) (fun h1=>?_)
  · refine jL hc (k:=1) rfl ?_;refine (spec_in _ _ _ w).mono ?_;rintro _ _ ⟨rfl,rfl⟩;conv=>whnf
    with_reducible refine IfB.split (fun h2=>?_) (fun h2=>?_)
    · refine jL hc (k:=2) rfl ?_;refine (spec_in _ _ _ w).mono ?_;rintro _ _ ⟨rfl,rfl⟩;conv=>whnf
      with_reducible refine IfB.split (fun h3=>?_) (fun h3=>?_)
      · refine jL hc (k:=3) rfl ?_;refine (spec_IsName _ hx.2.2.2 w).mono ?_;rintro _ _ ⟨rfl,rfl⟩;exact ⟨by simp only [noteB,h1,h2,h3,Bool.true_and],rfl⟩
      · exact ⟨by simp only [noteB,h1,h2,h3,Bool.true_and,Bool.false_and],rfl⟩
    · exact ⟨by simp only [noteB,h1,h2,Bool.true_and,Bool.false_and],rfl⟩
  · exact ⟨by simp only [noteB,h1,Bool.false_and],rfl⟩
theorem impl_ValidNote {x:TNote} (hx:x.ok) (w:World):Does Tryz.prog 188 [.agg ⟨x.enc⟩] w (fun v w'=>v = .bool (noteB x)∧Ext w w'):=by
  refine oV Tryz.func188 ?_;refine SemK.box ?_;intro b w1 _ _ e1 hB;have hc:Cells w1 b 0 x.enc:=hB.cells;refine jL hc (k:=0) rfl ?_;refine (impl_isTray _ w1).mono ?_;rintro _ _ ⟨rfl,rfl⟩;conv=>whnf
  with_reducible refine IfB.split (fun h1=>?_) (fun h1=>?_)
  · refine jL hc (k:=1) rfl ?_;refine (impl_inside _ _ _ w1).mono ?_;rintro _ _ ⟨rfl,rfl⟩;conv=>whnf
    with_reducible refine IfB.split (fun h2=>?_) (fun h2=>?_)
    · refine jL hc (k:=2) rfl ?_;refine (impl_isCardNumber _ w1).mono ?_;rintro _ _ ⟨rfl,rfl⟩;conv=>whnf
      with_reducible refine IfB.split (fun h3=>?_) (fun h3=>?_)
      · refine jL hc (k:=3) rfl ?_;refine (impl_IsName _ hx.2.2.2 w1).mono ?_;rintro _ _ ⟨rfl,rfl⟩;exact ⟨by simp only [noteB,h1,h2,h3,Bool.true_and],e1⟩
      · exact ⟨by simp only [noteB,h1,h2,h3,Bool.true_and,Bool.false_and],e1⟩
    · exact ⟨by simp only [noteB,h1,h2,Bool.true_and,Bool.false_and],e1⟩
  · exact ⟨by simp only [noteB,h1,Bool.false_and],e1⟩
end Go.Proofs.YthadkoinmohmlaaGreatDoor
namespace Go.M
open Go Go.Vc
structure TBox where
  name:ByteArray
  cards:Int
  year:Int
  keep:Int
  lent:ByteArray
theorem TBox.ext_iff2 {a b:TBox}:a=b↔a.name=b.name∧a.cards=b.cards∧a.year=b.year∧a.keep=b.keep∧a.lent=b.lent:=by
  constructor
  · intro h;subst h;simp
  · intro h;cases a;cases b;simp at h;simp [h]
instance:DecidableEq TBox:=fun a b=>decidable_of_iff (a.name=b.name∧a.cards=b.cards∧a.year=b.year∧a.keep=b.keep∧a.lent=b.lent) TBox.ext_iff2.symm
instance:Inhabited TBox:=⟨⟨.empty,0,0,0,.empty⟩⟩
end Go.M
namespace Go.Proofs.YthadkoinmohmlaaGreatDoor
open Go Go.RowKit Go.Vc Go.M
end Go.Proofs.YthadkoinmohmlaaGreatDoor
namespace Go.M
open Go Go.Vc
end Go.M
namespace Go.Proofs.YthadkoinmohmlaaGreatDoor
open Go Go.RowKit Go.Vc Go.M
end Go.Proofs.YthadkoinmohmlaaGreatDoor
namespace Go.M
open Go Go.Vc
structure TPart where
  name:ByteArray
  count:Int
  least:Int
  price:Int
theorem TPart.ext_iff2 {a b:TPart}:a=b↔a.name=b.name∧a.count=b.count∧a.least=b.least∧a.price=b.price:=by
  constructor
  · intro h;subst h;simp
  · intro h;cases a;cases b;simp at h;simp [h]
instance:DecidableEq TPart:=fun a b=>decidable_of_iff (a.name=b.name∧a.count=b.count∧a.least=b.least∧a.price=b.price) TPart.ext_iff2.symm
instance:Inhabited TPart:=⟨⟨.empty,0,0,0⟩⟩
end Go.M
namespace Go.Proofs.YthadkoinmohmlaaGreatDoor
open Go Go.RowKit Go.Vc Go.M
end Go.Proofs.YthadkoinmohmlaaGreatDoor
namespace Go.M
open Go Go.Vc
def idxI {α:Type} (p:α→Bool) (xs:List α):Int:=match xs.findIdx? p with | some i=>i | none=>-1
theorem idxI_neg {α:Type} {p:α→Bool} {xs:List α} (h:xs.any p=false):idxI p xs = -1:=by
  have:xs.findIdx? p=none:=by
    rw [List.findIdx?_eq_none_iff];intro x hx;rw [List.any_eq_false] at h;simpa using h x hx
  simp [idxI,this]
theorem idxI_nonneg {α:Type} {p:α→Bool} {xs:List α} (h:xs.any p=true):0≤idxI p xs:=by
  unfold idxI;split
  · omega
  · rename_i hn;rw [List.findIdx?_eq_none_iff] at hn;rw [List.any_eq_true] at h;obtain ⟨x,hx,hp⟩:=h;rw [hn x hx] at hp;cases hp
theorem idxI_at {α:Type} {p:α→Bool} {xs:List α} {k:Nat} {x:α} (h:(xs.take k).any p=false) (hx:xs[k]? = some x) (hp:p x=true):idxI p xs=k:=by
  have:xs.findIdx? p=some k:=by
    rw [List.findIdx?_eq_some_iff_getElem];have hlt:=(List.getElem?_eq_some_iff.1 hx).1;refine ⟨hlt,?_,fun j hj=>?_⟩
    · rw [(List.getElem?_eq_some_iff.1 hx).2];exact hp
    · rw [List.any_eq_false] at h;apply h;rw [List.mem_iff_getElem?];exact ⟨j,by rw [List.getElem?_take,if_pos hj,List.getElem?_eq_getElem (by omega)]⟩
  simp [idxI,this]
theorem any_take_succ {α:Type} {p:α→Bool} {xs:List α} {k:Nat} {x:α} (hx:xs[k]? = some x):(xs.take (k+1)).any p=((xs.take k).any p || p x):=by
  rw [List.take_add_one,hx];simp
end Go.M
namespace Go.Proofs.YthadkoinmohmlaaGreatDoor
open Go Go.RowKit Go.Vc Go.M
end Go.Proofs.YthadkoinmohmlaaGreatDoor
namespace Go.Proofs.YthadkoinmohmlaaGreatDoor
open Go Go.RowKit Go.Vc Go.M
theorem lib_IndexFuncInt {w:World} {a:Option Addr} {n c g:Nat} {xs:List Int} (h:Arr eI 1 w a n xs) {p:Int→Bool} {cap:List Value}
    (hg:∀ x∈xs,∀ w',Ext w w'→Does Tryz.prog g (.int .i64 x :: cap) w' (fun v w''=>v = .bool (p x)∧Ext w' w'')) :
    Does Tryz.prog 117 [.slice a n c,.func (.func g) ⟨[]⟩ ⟨cap⟩] w (fun v w'=>v = .int .i64 (idxI p xs)∧Ext w w'):=by
  have hn:=h.len;have hm:=h.le;refine oV Tryz.func117 ?_;refine lR [0,1,7,8] (fun (k:Nat) vs w'=>vs=[.slice a n c,.func (.func g) ⟨[]⟩ ⟨cap⟩,.int .i64 n,.int .i64 k]∧k≤n∧(xs.take k).any p=false∧Ext w w') (fun k=>n - k) 0 ⟨rfl,by omega,by simp,Ext.refl _⟩ ?_;rintro k g' _ w' ⟨rfl,hk,hall,hE⟩;(conv=>whnf);with_reducible refine IfB.dec (fun h4=>?_) (fun h4=>?_)
  · obtain ⟨x,hx⟩:∃ x,xs[k]? = some x:=get_of_lt (by omega);have hgx:=hg x (List.mem_of_getElem? hx);refine jI (h.ext hE) k rfl hx ?_;intro b o _ hb;refine jO hb rfl ?_;refine (hgx w' hE).mono ?_;rintro _ w2 ⟨rfl,e2⟩;(conv=>whnf);with_reducible refine IfB.split (fun h5=>?_) (fun h5=>?_)
    · exact ⟨by rw [idxI_at hall hx h5],xt hE e2⟩
    · refine SemK.add (((k+1:Nat):Int)) (by omega) (by omega) (by omega) ?_;exact ⟨k+1,by omega,rfl,by omega,by rw [any_take_succ hx,hall,h5];rfl,xt hE e2⟩
  · (conv=>whnf);rw [List.take_of_length_le (by omega)] at hall;exact ⟨by rw [idxI_neg hall],hE⟩
theorem lib_ContainsFuncInt {w:World} {a:Option Addr} {n c g:Nat} {xs:List Int} (h:Arr eI 1 w a n xs) {p:Int→Bool} {cap:List Value}
    (hg:∀ x∈xs,∀ w',Ext w w'→Does Tryz.prog g (.int .i64 x :: cap) w' (fun v w''=>v = .bool (p x)∧Ext w' w'')) :
    Does Tryz.prog 62 [.slice a n c,.func (.func g) ⟨[]⟩ ⟨cap⟩] w (fun v w'=>v = .bool (xs.any p)∧Ext w w'):=by
  refine oV Tryz.func62 ?_;refine (lib_IndexFuncInt h hg).mono ?_;rintro _ w2 ⟨rfl,e2⟩;refine ⟨?_,e2⟩;congr 1;cases ha:xs.any p with
  | true=>exact decide_eq_true (idxI_nonneg ha)
  | false=>rw [idxI_neg ha];rfl
end Go.Proofs.YthadkoinmohmlaaGreatDoor
namespace Go.M
open Go Go.Vc
end Go.M
namespace Go.Proofs.YthadkoinmohmlaaGreatDoor
open Go Go.RowKit Go.Vc Go.M
end Go.Proofs.YthadkoinmohmlaaGreatDoor
namespace Go.M
open Go Go.Vc
end Go.M
namespace Go.Proofs.YthadkoinmohmlaaGreatDoor
open Go Go.RowKit Go.Vc Go.M
theorem laws_a2Long (a a2:Option Addr) (n c n2 c2:Nat) (w:World):Does Tryz.prog 6 [.slice a n c,.slice a2 n2 c2] w (fun v w'=>∃ r:Bool,v = .bool r∧w=w'):=by
  refine oV Tryz.func6 ?_;conv=>whnf
  with_reducible refine IfB.dec (fun h3=>?_) (fun h3=>?_)
  · exact ⟨_,rfl,rfl⟩
  · exact ⟨_,rfl,rfl⟩
end Go.Proofs.YthadkoinmohmlaaGreatDoor
namespace Go.M
open Go Go.Vc
def cardB (c:List Int):Bool:=decide (1≤c.length) && decide (c.length≤20) && c.all fun m=>inB m 0 4095
def cardAt (d:List (List Int)) (i:Nat):Bool:=match d[i]? with | none=>false | some c=>cardB c && decide (c.length=(d.headD []).length)
def deckB (d:List (List Int)):Bool:=(List.range d.length).all (cardAt d) && decide (d.length≤40)
def widthOf (d:List (List Int)):Nat:=match d with | []=>20 | c :: _=>c.length
structure TField where
  from_:Int
  to_:Int
def TField.enc (f:TField):List Value:=[.int .i64 f.from_,.int .i64 f.to_]
def TField.ok (f:TField):Prop:=i64ok f.from_∧i64ok f.to_
def fieldB (f:TField) (n:Int):Bool:=decide (0≤f.from_) && decide (f.from_<f.to_) && decide (f.to_≤n)
def numFieldB (f:TField) (n:Int):Bool:=fieldB f n && decide (f.to_ - f.from_≤12)
def partOf (c:List Int) (f:TField):List Int:=(c.drop f.from_.toNat).take (f.to_.toNat - f.from_.toNat)
theorem fieldB_b {f:TField} {n:Int} (h:fieldB f n=true):0≤f.from_∧f.from_<f.to_∧f.to_≤n:=by
  simp only [fieldB,Bool.and_eq_true,decide_eq_true_eq] at h;omega
theorem cardB_b {c:List Int} (h:cardB c=true):1≤c.length∧c.length≤20∧∀ m∈c,0≤m∧m≤4095:=by
  simp only [cardB,Bool.and_eq_true,decide_eq_true_eq,List.all_eq_true] at h;exact ⟨h.1.1,h.1.2,fun m hm=>inB_true (h.2 m hm)⟩
theorem cardAt_of {d:List (List Int)} {i:Nat} {c:List Int} (h:d[i]? = some c):cardAt d i=(cardB c && decide (c.length=(d.headD []).length)):=by simp [cardAt,h]
theorem deckB_mem {d:List (List Int)} (h:deckB d=true):d.length≤40∧∀ c∈d,cardB c=true∧c.length=widthOf d:=by
  simp only [deckB,Bool.and_eq_true,decide_eq_true_eq,List.all_eq_true,List.mem_range] at h;refine ⟨h.2,fun c hc=>?_⟩;obtain ⟨i,hi⟩:=List.mem_iff_getElem?.1 hc;have:=h.1 i (List.getElem?_eq_some_iff.1 hi).1;rw [cardAt_of hi,Bool.and_eq_true,decide_eq_true_eq] at this;refine ⟨this.1,?_⟩;cases d with
  | nil=>simp at hc
  | cons x l=>simpa [widthOf] using this.2
theorem deckB_false {d:List (List Int)} {k:Nat} (h:k<d.length) (hp:cardAt d k=false):deckB d=false:=by
  have:(List.range d.length).all (cardAt d)=false:=by
    rw [List.all_eq_false];exact ⟨k,List.mem_range.2 h,by simp [hp]⟩
  rw [deckB,this];rfl
theorem widthOf_b {d:List (List Int)} (h:deckB d=true):1≤widthOf d∧widthOf d≤20:=by
  cases d with
  | nil=>simp [widthOf]
  | cons c l =>
    have:=cardB_b ((deckB_mem h).2 c (by simp)).1;exact ⟨this.1,this.2.1⟩
theorem partOf_len {c:List Int} {f:TField} (h:fieldB f c.length=true):(partOf c f).length=f.to_.toNat - f.from_.toNat:=by
  have:=fieldB_b h;simp [partOf];omega
theorem partOf_mem {c:List Int} {f:TField} {m:Int} (h:m∈partOf c f):m∈c:=List.mem_of_mem_drop (List.mem_of_mem_take h)
def bitM (r:Int):Int:=if r=12 then 1 else if r=11 then 2 else if 0≤r∧r≤9 then 4 * 2 ^ r.toNat else 0
theorem bitM_shl {r:Int} (h0:0≤r) (h9:r≤9):IntKind.i64.wrap (4 * 2 ^ min r.toNat IntKind.i64.bits)=bitM r:=by
  obtain ⟨n,rfl⟩:∃ n:Nat,r=n:=⟨r.toNat,by omega⟩;have hn:n<10:=by omega
  have key:∀ n:Fin 10,IntKind.i64.wrap (4 * 2 ^ min n.val IntKind.i64.bits)=bitM (n.val:Int):=by decide +kernel
  exact key ⟨n,hn⟩
def digitM (m:Int):Int:=match (List.range 10).find? (fun (d:Nat)=>decide (bitM (d:Int)=m)) with | some d=>(d:Int) | none=>-1
def minusB (m:Int):Bool:=decide (m / 2 % 2=1)
def bareM (m:Int):Int:=if minusB m=true then m - 2 else m
theorem and2 {m:Int} (h0:0≤m) (h1:m≤4095):andV .i64 m 2=if minusB m=true then 2 else 0:=by
  obtain ⟨n,rfl⟩:∃ n:Nat,m=n:=⟨m.toNat,by omega⟩;have hn:n<4096:=by omega
  have key:∀ a b:Fin 64,andV .i64 ((a.val * 64+b.val:Nat):Int) 2=if minusB ((a.val * 64+b.val:Nat):Int)=true then 2 else 0:=by decide +kernel
  have h:=key ⟨n / 64,by omega⟩ ⟨n % 64,by omega⟩;have e:n / 64 * 64+n % 64=n:=by omega
  dsimp only at h;rw [e] at h;exact h
theorem andNot2 {m:Int} (h0:0≤m) (h1:m≤4095):andNotV .i64 m 2=bareM m:=by
  obtain ⟨n,rfl⟩:∃ n:Nat,m=n:=⟨m.toNat,by omega⟩;have hn:n<4096:=by omega
  have key:∀ a b:Fin 64,andNotV .i64 ((a.val * 64+b.val:Nat):Int) 2=bareM ((a.val * 64+b.val:Nat):Int):=by decide +kernel
  have h:=key ⟨n / 64,by omega⟩ ⟨n % 64,by omega⟩;have e:n / 64 * 64+n % 64=n:=by omega
  dsimp only at h;rw [e] at h;exact h
theorem bareM_b {m:Int} (h0:0≤m) (h1:m≤4095):0≤bareM m∧bareM m≤4095:=by
  unfold bareM minusB;split
  · rename_i h;have:=of_decide_eq_true h;omega
  · omega
theorem digitM_b (m:Int) : -1≤digitM m∧digitM m≤9:=by
  unfold digitM;split
  · rename_i d hd;have:=List.mem_of_find?_eq_some hd;simp at this;omega
  · omega
theorem digitM_zero:digitM 0 = -1:=by simp [digitM,List.range,List.range.loop,bitM]
def numStep (s:Option (Int×Bool)) (m:Int):Option (Int×Bool) :=
  match s with
  | none=>none
  | some (n,b)=>if m=0∧b=false then some (n,b) else if digitM m<0 then none else some (10 * n+digitM m,true)
def numOf (l:List Int):Option Int :=
  match l.getLast? with
  | none=>some 0
  | some m =>
    if minusB m=true then
      match l.dropLast.foldl numStep (some (0,false)) with
      | none=>none
      | some (n,_)=>if digitM (bareM m)<0 then none else if 10 * n+digitM (bareM m)=0 then none else some (-(10 * n+digitM (bareM m)))
    else
      match l.foldl numStep (some (0,false)) with
      | none=>none
      | some (n,_)=>some n
theorem numStep_none (l:List Int):l.foldl numStep none=none:=by
  induction l with
  | nil=>rfl
  | cons x l ih=>simpa [numStep] using ih
theorem numStep_some (n:Int) (b:Bool) (m:Int):numStep (some (n,b)) m=if m=0∧b=false then some (n,b) else if digitM m<0 then none else some (10 * n+digitM m,true):=rfl
theorem numFold_b:∀ (l:List Int) (n:Int) (b:Bool) (k:Nat),0≤n→n<10 ^ k→∀ n' b',l.foldl numStep (some (n,b))=some (n',b')→0≤n'∧n'<10 ^ (k+l.length)
  | [],n,b,k,h0,h1,n',b',h=>by
    simp at h;rw [← h.1];exact ⟨h0,by simpa using h1⟩
  | m :: l,n,b,k,h0,h1,n',b',h=>by
    have hd:=digitM_b m;rw [List.foldl_cons] at h;rw [numStep_some] at h;have e:k+(m :: l).length=(k+1)+l.length:=by simp;omega
    rw [e];have hp:(10:Int) ^ (k+1)=10 ^ k * 10:=by rw [Int.pow_succ]
    split at h
    · exact numFold_b l n b (k+1) h0 (by omega) n' b' h
    · split at h
      · rw [numStep_none] at h;cases h
      · exact numFold_b l _ true (k+1) (by omega) (by omega) n' b' h
def numInM (l:List Int):Int×Bool:=match numOf l with | none=>(0,false) | some n=>(n,true)
theorem numFold_idle:∀ (l:List Int) (n':Int),l.foldl numStep (some (0,false))=some (n',false)→n'=0∧∀ m∈l,m=0
  | [],n',h=>by simp at h;exact ⟨h.symm,by simp⟩
  | m :: l,n',h=>by
    rw [List.foldl_cons] at h;rw [numStep_some] at h;split at h
    · rename_i h1;obtain ⟨h2,h3⟩:=numFold_idle l n' h;refine ⟨h2,fun x hx=>?_⟩;rcases List.mem_cons.1 hx with rfl | hx
      · exact h1.1
      · exact h3 x hx
    · split at h
      · rw [numStep_none] at h;cases h
      · exfalso;have key:∀ (l:List Int) (n:Int) (n':Int),l.foldl numStep (some (n,true))≠some (n',false):=by
          intro l;induction l with
          | nil=>intro n n' h;simp at h
          | cons x l ih =>
            intro n n' h;rw [List.foldl_cons] at h;rw [numStep_some] at h;simp only [Bool.true_eq_false,and_false,if_false] at h;split at h
            · rw [numStep_none] at h;cases h
            · exact ih _ _ h
        exact key _ _ _ h
theorem numFold_zero:∀ l:List Int,(∀ m∈l,m=0)→l.foldl numStep (some (0,false))=some (0,false)
  | [],_=>rfl
  | m :: l,h=>by
    rw [List.foldl_cons,h m (by simp)];simp only [numStep,and_self,if_true];exact numFold_zero l fun x hx=>h x (by simp [hx])
theorem numOf_snoc (q : List Int) (m : Int) : numOf (q ++ [m]) = if minusB m = true then
      match q.foldl numStep (some (0,false)) with
      | none=>none
      | some (n,_)=>if digitM (bareM m)<0 then none else if 10 * n+digitM (bareM m)=0 then none else some (-(10 * n+digitM (bareM m)))
    else
      match numStep (q.foldl numStep (some (0,false))) m with
      | none=>none
      | some (n,_)=>some n:=by
  unfold numOf;simp
def numImpl (l:List Int) (m:Int):Int×Bool :=
  match (l++[bareM m]).foldl numStep (some (0,false)) with
  | none=>(0,false)
  | some (n,b)=>if b=false∨bareM m=0∨(minusB m=true∧n=0) then (0,false) else (if minusB m=true then -n else n,true)
theorem num_same (q:List Int) (m:Int) (h0:¬ ∀ x∈q++[m],x=0):numImpl q m=numInM (q++[m]):=by
  unfold numImpl numInM;rw [numOf_snoc,List.foldl_append];simp only [List.foldl_cons,List.foldl_nil];cases hq:q.foldl numStep (some (0,false)) with
  | none =>
    simp only [numStep];by_cases hm:minusB m=true<;>simp [hm]
  | some nb =>
    obtain ⟨n,b⟩:=nb;by_cases hm:minusB m=true
    · simp only [hm,if_true,true_and];by_cases hd:digitM (bareM m)<0
      · simp only [hd,if_true];rw [numStep_some];by_cases hz:bareM m=0∧b=false
        · rw [if_pos hz];simp [hz.2]
        · rw [if_neg hz,if_pos hd]
      · have hbz:¬ bareM m=0:=fun e=>hd (by rw [e,digitM_zero];decide);simp only [hd,if_false];rw [numStep_some];rw [if_neg (fun e=>hbz e.1),if_neg hd];dsimp only;by_cases hn:10 * n+digitM (bareM m)=0
        · simp [hn]
        · simp [hn,hbz]
    · have hbm:bareM m=m:=by simp [bareM,hm]
      rw [hbm];simp only [hm,Bool.false_eq_true,if_false,false_and,or_false];by_cases hz:m=0∧b=false
      · exfalso;apply h0;have:=numFold_idle q n (by rw [hq,hz.2]);intro x hx;rcases List.mem_append.1 hx with hx | hx
        · exact this.2 x hx
        · rw [List.mem_singleton.1 hx];exact hz.1
      · rw [numStep_some];rw [if_neg hz];by_cases hd:digitM m<0
        · rw [if_pos hd]
        · have hmz:¬ m=0:=fun e=>hd (by rw [e,digitM_zero];decide);rw [if_neg hd];simp [hmz]
theorem num_zero {l:List Int} (h:∀ x∈l,x=0):numInM l=(0,true):=by
  unfold numInM numOf;cases hl:l.getLast? with
  | none=>rfl
  | some m =>
    have hm:m=0:=h m (List.mem_of_getLast? hl);subst hm;have hmin:minusB 0=false:=by decide
    simp only [hmin,Bool.false_eq_true,if_false];rw [numFold_zero l h]
theorem digitM_is {m:Int} {k:Nat} (hk:k<10) (h1:∀ j:Nat,j<k→bitM (j:Int)≠m) (h2:bitM (k:Int)=m):digitM m=k:=by
  have:(List.range 10).find? (fun (d:Nat)=>decide (bitM (d:Int)=m))=some k:=by
    rw [List.find?_eq_some_iff_getElem];refine ⟨by simp [h2],k,by simpa using hk,by simp,fun j hj=>?_⟩;simp only [List.getElem_range,Bool.not_eq_true',decide_eq_false_iff_not];exact h1 j hj
  unfold digitM;rw [this]
theorem digitM_none {m:Int} (h1:∀ j:Nat,j<10→bitM (j:Int)≠m):digitM m = -1:=by
  have:(List.range 10).find? (fun (d:Nat)=>decide (bitM (d:Int)=m))=none:=by
    rw [List.find?_eq_none];intro j hj;simp [h1 j (by simpa using hj)]
  unfold digitM;rw [this]
theorem bitM_12 {r:Int} (h:r=12):bitM r=1:=by simp [bitM,h]
theorem bitM_11 {r:Int} (h:r=11):bitM r=2:=by simp [bitM,h]
theorem bitM_no {r:Int} (h1:¬ r=12) (h2:¬ r=11) (h3:inB r 0 9=false):bitM r=0:=by
  unfold bitM;rw [if_neg h1,if_neg h2,if_neg];intro h;simp [inB,h] at h3
theorem all_step {l:List Int} {k:Nat} {x:Int} {p:Int→Bool} (hx:l[k]? = some x) (h:(l.take k).all p=true) (hp:p x=true):(l.take (k+1)).all p=true:=by
  rw [List.take_add_one,hx,Option.toList_some,List.all_append,h];simp [hp]
theorem cardB_bad {c:List Int} {k:Nat} {m:Int} (h:c[k]? = some m) (hm:inB m 0 4095=false):cardB c=false:=by
  unfold cardB;have:(c.all fun m=>inB m 0 4095)=false:=by
    rw [List.all_eq_false];exact ⟨m,List.mem_of_getElem? h,by simp [hm]⟩
  rw [this,Bool.and_false]
theorem cardB_all {c:List Int} (h:(c.all fun m=>inB m 0 4095)=true):cardB c=inB c.length 1 20:=by
  unfold cardB;rw [h,Bool.and_true];unfold inB;congr 1
  · exact decide_eq_decide.2 (by omega)
  · exact decide_eq_decide.2 (by omega)
theorem cardAt_first {d:List (List Int)} {i:Nat} {c x:List Int} (h:d[i]? = some c) (hx:d[0]? = some x):cardAt d i=(cardB c && decide (c.length=x.length)):=by
  rw [cardAt_of h];cases d with
  | nil=>simp at hx
  | cons y l=>simp at hx;subst hx;rfl
theorem deckB_all {d:List (List Int)} (h:(List.range d.length).all (cardAt d)=true):deckB d=decide (d.length≤40):=by simp [deckB,h]
theorem num_small {l:List Int} {n:Int} {b:Bool} (h:l.foldl numStep (some (0,false))=some (n,b)) (hl:l.length≤12):0≤n∧n<1000000000000:=by
  have h1:=numFold_b l 0 false 0 (by omega) (by simp) n b h;have key:∀ k:Fin 13,(10:Int) ^ k.val≤1000000000000:=by decide
  have h2:=key ⟨0+l.length,by omega⟩;dsimp only at h2;omega
theorem fold_take {l:List Int} {i:Nat} {x:Int} (hx:l[i]? = some x) (s:Option (Int×Bool)):(l.take (i+1)).foldl numStep s=numStep ((l.take i).foldl numStep s) x:=by
  rw [List.take_add_one,hx,Option.toList_some,List.foldl_append];rfl
theorem fold_none {l:List Int} {i:Nat} (h:(l.take i).foldl numStep (some (0,false))=none):l.foldl numStep (some (0,false))=none:=by
  have:l=l.take i++l.drop i:=(List.take_append_drop i l).symm;rw [this,List.foldl_append,h,numStep_none]
theorem numImpl_none {r:List Int} {m:Int} (h:(r++[bareM m]).foldl numStep (some (0,false))=none):numImpl r m=(0,false):=by
  unfold numImpl;rw [h]
theorem numImpl_some {r:List Int} {m n:Int} {b:Bool} (h:(r++[bareM m]).foldl numStep (some (0,false))=some (n,b)):numImpl r m=if b=false∨bareM m=0∨(minusB m=true∧n=0) then (0,false) else (if minusB m=true then -n else n,true):=by
  unfold numImpl;rw [h]
end Go.M
