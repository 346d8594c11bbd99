/- Contracts of functions of the given program, of the reference and of the laws: each says what a call returns, for all arguments that meet the premises that the theorem itself names. -/
import Derived.Test.YthadkoinmohmlaaGreatDoorStepM
import Derived.Test.YthadkoinmohmlaaGreatDoorCardN
import Derived.Test.YthadkoinmohmlaaGreatDoorSortS
import Derived.Test.YthadkoinmohmlaaGreatDoorKeyV
import Derived.Test.YthadkoinmohmlaaGreatDoorVcPut
namespace Go.M
open Go Go.Vc
theorem index_ch (l:List UInt8) (c:UInt8):decide (0≤Lib.indexByte l c)=decide (c∈l):=by
  induction l with
  | nil=>rfl
  | cons b l ih =>
    have hg:=Lib.indexByte_ge l c;unfold Lib.indexByte;by_cases hb:b=c
    · subst hb;simp
    · rw [if_neg (by simpa using hb)];have hcb:¬ c=b:=fun e=>hb e.symm;by_cases hl:c∈l
      · rw [decide_eq_true hl] at ih;have h0:=of_decide_eq_true ih;rw [if_neg (by simp;omega)];simp [hl];omega
      · rw [decide_eq_false hl] at ih;have h0:=of_decide_eq_false ih;rw [if_pos (by simp;omega)];simp [hl,hcb]
theorem ch_kind {c:UInt8} (h:chB c=true):CharK c.toNat:=by
  have hc:c∈charL:=of_decide_eq_true h;have key:∀ c∈charL,CharK c.toNat:=by
    unfold CharK charL;decide
  exact key c hc
theorem chB_get {t:ByteArray} {k:Nat} {c:UInt8} (h:charsB t=true) (hc:t.data.toList[k]? = some c):chB c=true:=List.all_eq_true.1 h c (List.mem_of_getElem? hc)
theorem chars_take {l:List UInt8} {k:Nat} {c:UInt8} (hx:l[k]? = some c) (h:(l.take k).all chB=true) (hp:chB c=true):(l.take (k+1)).all chB=true:=by
  rw [List.take_add_one,hx];simp [h,hp]
theorem chars_bad {l:List UInt8} {k:Nat} {c:UInt8} (hx:l[k]? = some c) (hp:chB c=false):l.all chB=false:=by
  rw [List.all_eq_false];exact ⟨c,List.mem_of_getElem? hx,by simp [hp]⟩
def punchSt (t:ByteArray) (k:Nat):List Int:=((t.data.toList.take k).map fun c=>codeC c.toNat)++List.replicate (t.size - k) 0
theorem punchSt_zero (t:ByteArray):punchSt t 0=List.replicate t.size 0:=by simp [punchSt]
theorem punchSt_next {t:ByteArray} {k:Nat} {c:UInt8} (hc:t.data.toList[k]? = some c):(punchSt t k).set k (codeC c.toNat)=punchSt t (k+1):=by
  have hk:k<t.size:=by
    have:=(List.getElem?_eq_some_iff.1 hc).1;simpa using this
  unfold punchSt;obtain ⟨j,hj⟩:∃ j,t.size - k=j+1:=⟨t.size - k - 1,by omega⟩;have hl:((t.data.toList.take k).map fun c=>codeC c.toNat).length=k:=by simp;omega
  rw [List.take_add_one,hc,hj,show t.size - (k+1)=j by omega,List.set_append_right _ _ (by omega),hl,Nat.sub_self];simp [List.replicate_succ]
theorem punchSt_end {t:ByteArray} {k:Nat} (h:t.size≤k):punchSt t k=punchL t:=by
  unfold punchSt punchL;rw [List.take_of_length_le (by simpa using h),show t.size - k=0 by omega];simp
theorem punchSt_len (t:ByteArray) {k:Nat} (h:k≤t.size):(punchSt t k).length=t.size:=by
  simp [punchSt];omega
end Go.M
namespace Go.Proofs.YthadkoinmohmlaaGreatDoor
open Go Go.RowKit Go.Vc Go.M
theorem impl_isCharacter (c:UInt8) (w:World):Does Tryz.prog 253 [.int .u8 c.toNat] w (fun v w'=>v = .bool (chB c)∧Ext w w'):=by
  refine oV Tryz.func253 ?_;refine (lib_IndexByte _ _ _).mono ?_;rintro _ _ ⟨rfl,rfl⟩;refine ⟨?_,Ext.refl _⟩
  · exact congrArg Value.bool (index_ch charL c)
theorem impl_areCharacters (t:ByteArray) (ht:t.size≤1048576) (w:World):Does Tryz.prog 184 [.string t] w (fun v w'=>v = .bool (charsB t)∧Ext w w'):=by
  refine oV Tryz.func184 ?_;refine lR [0,3] (fun (k:Nat) vs w'=>vs=[.string t,.int .i64 k]∧k≤t.size∧(t.data.toList.take k).all chB=true∧Ext w w') (fun k=>t.size - k) 0 ⟨rfl,by omega,by simp,Ext.refl _⟩ ?_;rintro k g _ w' ⟨rfl,hk,hall,hE⟩;have hsz:t.data.toList.length=t.size:=by simp
  rcases Nat.lt_or_ge k t.size with hkn | hkn
  · obtain ⟨c,hc⟩:∃ c,t.data.toList[k]? = some c:=get_of_lt (by omega);cases hb:chB c
    · have hq:charsB t=false:=chars_bad hc hb;rw [hq];refine IfB.yes (by omega) ?_;refine jC k rfl hc ?_;refine (impl_isCharacter _ _).mono ?_;rintro _ w3 ⟨rfl,e2⟩;refine IfB.eqt (by simp [*];done) ?_;exact ⟨rfl,(xt hE e2)⟩
    · have hq:=chars_take hc hall hb;refine IfB.yes (by omega) ?_;refine jC k rfl hc ?_;refine (impl_isCharacter _ _).mono ?_;rintro _ w3 ⟨rfl,e2⟩;refine IfB.eqf (by simp [*];done) ?_;refine SemK.add (((k+1:Nat):Int)) (by omega) (by omega) (by omega) ?_;exact ⟨k+1,by omega,rfl,by omega,by omega,(xt hE e2)⟩
  · rw [List.take_of_length_le (by omega)] at hall;have hq:charsB t=true:=hall;rw [hq];refine IfB.no (by omega) ?_;exact ⟨rfl,hE⟩
theorem impl_blank {n:Nat} (hn:n≤1000) (w:World):Does Tryz.prog 254 [.int .i64 n] w (fun v w'=>∃ b,v = .agg #[.slice (some ⟨b,0,none⟩) n n]∧w.heap.size≤b∧Grow eI 1 w.heap.size 2 w' (some ⟨b,0,none⟩) n n (List.replicate n 0)∧Ext w w'):=by
  refine oV Tryz.func254 ?_;refine jN (z := .agg #[.slice none 0 0]) ?_;intro b1 w1 g1 l1 e1 B1;refine SemK.make mk_62 (n) rfl (by omega) (by omega) ?_;intro b2 w2 g2 l2 e2 B2;have G2:=Grow.of_make (enc:=eI) (z:=(0:Int)) eI_len rfl B2 g2 (by omega);refine SemK.build st_131 rfl ?_;refine SemK.storeAll (vs:=[Value.slice (some { block:=b2,off:=0 }) n n]) (by kernel_rfl) (B1.ext e2) rfl rfl (by simp [cellish]) ?_;intro w3 c3 B3;refine CellK.of (jR (n:=1) rfl B3.cells) ?_;exact ⟨_,rfl,by omega,((G2.mod c3.but (apartChg' G2.new l1 (Nat.le_refl _))).base (Below.size e1)),(xb (xt e1 e2) c3.but g1)⟩
theorem impl_punchText {t:ByteArray} {n:Nat} (ht:charsB t=true) (hn:t.size=n) (hn2:n≤1000) (w:World):Does Tryz.prog 185 [.string t,.int .i64 n] w (fun v w'=>∃ b,v = .agg #[.slice (some ⟨b,0,none⟩) n n]∧w.heap.size≤b∧Grow eI 1 w.heap.size 2 w' (some ⟨b,0,none⟩) n n (punchL t)∧Ext w w'):=by
  refine oV Tryz.func185 ?_;refine jN (z := .agg #[.slice none 0 0]) ?_;intro b3 w3 g3 l3 e3 B3;refine (impl_blank hn2 _).mono ?_;rintro _ w8 ⟨b4,rfl,q5,G6,e7⟩;refine jN (z := .agg #[.slice none 0 0]) ?_;intro b9 w9 g9 l9 e9 B9;refine SemK.storeAll (vs:=[Value.slice (some { block:=b4,off:=0 }) n n]) (by kernel_rfl) B9 rfl rfl (by simp [cellish]) ?_;intro w10 c10 B10;have hs3:=e3.size;have hs7:=e7.size;have hs9:=e9.size;have hb4:b4<w8.heap.size:=G6.lt _ rfl;refine lR [0,4,5,6] (fun (k:Nat) vs w'=>vs=[.string t,.pointer (some ⟨b3,0,none⟩),.pointer (some ⟨b9,0,none⟩),.int .i64 k]∧k≤n∧Grow eI 1 w3.heap.size 2 w' (some ⟨b4,0,none⟩) n n (punchSt t k)∧Blk w' b3 [.slice none 0 0] 131∧Blk w' b9 [.slice (some ⟨b4,0,none⟩) n n] 131∧Ext w3 w') (fun k=>n - k) 0 ⟨rfl,by omega,?_,?_,?_,?_⟩ ?_
  · rw [punchSt_zero,hn];exact ((G6.mod (Ext.mod (S:=fun _=>False) e9) (fun _ _ h=>h)).base (Nat.le_refl _)).mod c10.but (by rintro x hx;cases hx;show ¬ b4=_;omega)
  · exact (B3.ext (xt e7 e9)).mod c10.but (by omega)
  · exact B10
  · exact (xb (xt e7 e9) c10.but (by omega))
  rintro k g _ w' ⟨rfl,hk,hG,hB3,hB9,hE⟩;rcases Nat.lt_or_ge k n with hkn | hkn
  · obtain ⟨c,hc⟩:∃ c,t.data.toList[k]? = some c:=get_of_lt (by simp;omega);have hcb:=ch_kind (chB_get ht hc);have hst:=punchSt_next hc;refine IfB.yes (by omega) ?_;refine DrawK.writes tabok mixed [(0,.any),(2,.any),(3,.any),(4,.any),(1,.held),(5,.held),(6,.run),(7,.any),(8,.write)] (by kernel_rfl) (by kernel_rfl) ?_;intro w11 e11;refine dL hB9.cells (k:=0) rfl ?_;refine DSemK.char (by kernel_rfl) k rfl hc ?_;refine (impl_codeOf hcb _).mono ?_;rintro _ w14 ⟨rfl,e13⟩;refine ⟨(xt e11 e13),?_⟩;obtain ⟨x15,hx15⟩:∃ x,(punchSt t k)[k]? = some x:=get_of_lt (by rw [punchSt_len t (by omega)];omega);refine pW (sz:=1) k rfl (by omega) ?_;have hb16:=Own.elem eI_len hG.own hx15;refine SemK.storeGrow1 (k:=k) (j:=0) (by kernel_rfl) eI_len (hG.ext (xt e11 e13)) hx15 (by decide) rfl (codeC c.toNat) rfl ?_;intro w17 c17 B17;have hx17:=set_get hx15 ((codeC c.toNat));refine SemK.add (((k+1:Nat):Int)) (by omega) (by omega) (by omega) ?_;refine ⟨k+1,by omega,rfl,by omega,by simpa [List.take_add_one,-List.take_append_getElem, *] using B17,((hB3.ext (xt e11 e13)).mod c17.but (neChg l3 q5 (Nat.le_refl _))),?_,(xb (xt (xt hE e11) e13) c17.but q5)⟩
    · exact (hB9.ext (xt e11 e13)).mod c17.but (fun h=>by have h:b9=b4:=h;omega)
  · have hfin:=punchSt_end (t:=t) (k:=k) (by omega);rw [hfin] at hG;refine IfB.no (by omega) ?_;refine jA (n:=1) hB9.cells rfl ?_;refine SemK.storeAll (vs:=[Value.slice (some { block:=b4,off:=0 }) n n]) (by kernel_rfl) hB3 rfl rfl (by simp [cellish]) ?_;intro w11 c11 B11;refine CellK.of (jR (n:=1) rfl B11.cells) ?_;exact ⟨_,rfl,by omega,((hG.mod c11.but (apartChg' hG.new l3 (Nat.le_refl _))).base (Below.size e3)),(xb (xt e3 hE) c11.but g3)⟩
theorem impl_PunchText {t:ByteArray} (ht:t.size≤1048576) (w:World):Does Tryz.prog 119 [.string t,.int .i64 t.size] w (fun v w'=>∃ a n c,v = .tuple #[.agg #[.slice a n c],.int .i64 (punchCode t)]∧(punchCode t=0→NewAt w.heap.size a∧Grow eI 1 w.heap.size 2 w' a n c (punchL t))∧Ext w w'):=by
  unfold punchCode;cases hz1:inB t.size 1 20
  · refine oV Tryz.func119 ?_;conv=>whnf
    refine jN (z := .agg #[.slice none 0 0]) ?_;intro b2 w2 g2 l2 e2 B2;refine (impl_inside _ _ _ _).mono ?_;rintro _ _ ⟨rfl,rfl⟩;refine IfB.eqt (by simp [*];done) ?_;refine SemK.build st_131 rfl ?_;refine jS (vs:=[Value.slice none 0 0]) B2 rfl rfl (by simp [cellish]) ?_;intro w4 c4 B4;refine CellK.of (jR (n:=1) rfl B4.cells) ?_;exact ⟨_,_,_,rfl,by simp [hz1],(xb e2 c4.but g2)⟩
  · cases hz2:charsB t
    · refine oV Tryz.func119 ?_;refine jN (z := .agg #[.slice none 0 0]) ?_;intro b3 w3 g3 l3 e3 B3;refine (impl_inside _ _ _ _).mono ?_;rintro _ _ ⟨rfl,rfl⟩;refine IfB.eqf (by simp [*];done) ?_;refine IfB.no (by omega) ?_;refine (impl_areCharacters _ ht _).mono ?_;rintro _ w6 ⟨rfl,e5⟩;refine IfB.eqt (by simp [*];done) ?_;refine SemK.build st_131 rfl ?_;refine jS (vs:=[Value.slice none 0 0]) (B3.ext e5) rfl rfl (by simp [cellish]) ?_;intro w7 c7 B7;refine CellK.of (jR (n:=1) rfl B7.cells) ?_;exact ⟨_,_,_,rfl,by simp [hz1,hz2],(xb (xt e3 e5) c7.but g3)⟩
    · refine oV Tryz.func119 ?_;conv=>whnf
      refine jN (z := .agg #[.slice none 0 0]) ?_;intro b3 w3 g3 l3 e3 B3;refine (impl_inside _ _ _ _).mono ?_;rintro _ _ ⟨rfl,rfl⟩;refine IfB.eqf (by simp [*];done) ?_;refine IfB.no (by omega) ?_;refine (impl_areCharacters _ ht _).mono ?_;rintro _ w6 ⟨rfl,e5⟩;refine IfB.eqf (by simp [*];done) ?_;refine (impl_punchText hz2 (by omega) (by have:=inB_true hz1;omega) _).mono ?_;rintro _ w11 ⟨b7,rfl,q8,G9,e10⟩;refine SemK.storeAll (vs:=[Value.slice (some { block:=b7,off:=0 }) t.size t.size]) (by kernel_rfl) (B3.ext (xt e5 e10)) rfl rfl (by simp [cellish]) ?_;intro w12 c12 B12;refine CellK.of (jR (n:=1) rfl B12.cells) ?_;refine ⟨_,_,_,rfl,?_,(xb (xt (xt e3 e5) e10) c12.but g3)⟩
      · exact fun _=>⟨NewAt.some (by have:=e3.size;have:=e5.size;omega),((G9.mod c12.but (apartChg' G9.new (by have:=e5.size;omega) (Nat.le_refl _))).base (by have:=e3.size;have:=e5.size;omega))⟩
theorem impl_ReadText {w:World} {d:Hd} {xs:List Int} (R:RCard w d xs):Does Tryz.prog 120 [.agg ⟨eH d⟩] w (fun v w'=>v = .tuple #[.string (if readCode xs=0 then txt (ranks xs) else ⟨#[]⟩),.int .i64 (readCode xs)]∧Ext w w'):=by
  obtain ⟨A,hnc⟩:=R;unfold readCode;cases hz1:cardB xs
  · refine oV Tryz.func120 ?_;conv=>whnf
    refine SemK.box ?_;intro b2 w2 g2 l2 e2 B2;refine jA (n:=1) B2.cells rfl ?_;refine (impl_ValidCard (A.ext e2)).mono ?_;rintro _ w4 ⟨rfl,e3⟩;refine IfB.eqt (by simp [*];done) ?_;exact ⟨rfl,(xt e2 e3)⟩
  · cases hz2:hasB xs
    · refine oV Tryz.func120 ?_;refine SemK.box ?_;intro b3 w3 g3 l3 e3 B3;refine jA (n:=1) B3.cells rfl ?_;refine (impl_ValidCard (A.ext e3)).mono ?_;rintro _ w5 ⟨rfl,e4⟩;refine IfB.eqf (by simp [*];done) ?_;refine jL (B3.ext e4).cells (k:=0) rfl ?_;refine (impl_hasCharacters (A.ext (xt e3 e4))).mono ?_;rintro _ w7 ⟨rfl,e6⟩;refine IfB.eqt (by simp [*];done) ?_;exact ⟨rfl,(xt (xt e3 e4) e6)⟩
    · refine oV Tryz.func120 ?_;conv=>whnf
      refine SemK.box ?_;intro b3 w3 g3 l3 e3 B3;refine jA (n:=1) B3.cells rfl ?_;refine (impl_ValidCard (A.ext e3)).mono ?_;rintro _ w5 ⟨rfl,e4⟩;refine IfB.eqf (by simp [*];done) ?_;refine jL (B3.ext e4).cells (k:=0) rfl ?_;refine (impl_hasCharacters (A.ext (xt e3 e4))).mono ?_;rintro _ w7 ⟨rfl,e6⟩;refine IfB.eqf (by simp [*];done) ?_;refine jL (B3.ext (xt e4 e6)).cells (k:=0) rfl ?_;refine (impl_textOf (A.ext (xt (xt e3 e4) e6)) hz2 (by have:=A.len;have:=(cardB_b hz1).2.1;omega)).mono ?_;rintro _ w9 ⟨rfl,e8⟩;exact ⟨rfl,(xt (xt (xt e3 e4) e6) e8)⟩
end Go.Proofs.YthadkoinmohmlaaGreatDoor
namespace Go.M
open Go Go.Vc
theorem stepsN_succ (d:List (List Int)) (f:TField) (n:Nat):stepsN d f (n+1)=if stepAt d f n=true then stepsN d f n++[n] else stepsN d f n:=by
  unfold stepsN;rw [List.range_succ,List.filter_append];split<;>simp [*]
theorem stepsN_yes {d:List (List Int)} {f:TField} {k:Nat} (h:stepAt d f k=true):(stepsN d f (k+1)).length=(stepsN d f k).length+1:=by rw [stepsN_succ,if_pos h];simp
theorem stepsN_no {d:List (List Int)} {f:TField} {k:Nat} (h:stepAt d f k=false):(stepsN d f (k+1)).length=(stepsN d f k).length:=by rw [stepsN_succ,if_neg (by simp [h])]
theorem stepsN_le (d:List (List Int)) (f:TField) (k:Nat):(stepsN d f k).length≤k:=by
  unfold stepsN;have:=List.length_filter_le (stepAt d f) (List.range k);rw [List.length_range] at this;exact this
theorem stepAt_at {d:List (List Int)} {f:TField} {k:Nat} {x y:List Int} (hx:d[k+1]? = some x) (hy:d[k]? = some y):stepAt d f (k+1)=decide (cmpR (ckey f x) (ckey f y)<0):=by
  simp [stepAt,List.getD_eq_getElem?_getD,hx,hy]
theorem stepsN_one {d:List (List Int)} {f:TField}:(stepsN d f 1).length=0:=by
  rw [stepsN_succ,if_neg (by simp [stepAt])];rfl
section
variable {ds:List (List (List Int))} {ts:List ByteArray} {f:TField}
theorem coll_deck {d:List (List Int)} (h:d∈ds) (hd:deckB d=false):collM ds ts f=1:=by
  unfold collM;rw [if_pos (List.any_eq_true.2 ⟨d,h,by simp [hd]⟩)]
theorem any_no {α:Type} {l:List α} {p:α→Bool} (h:∀ x∈l,p x=true):¬ (l.any fun x=>!p x)=true:=by
  intro hc;obtain ⟨x,hx,hp⟩:=List.any_eq_true.1 hc;simp [h x hx] at hp
theorem coll_field (h1:∀ d∈ds,deckB d=true) {d:List (List Int)} (h:d∈ds) (hd:fieldB f (widthOf d)=false):collM ds ts f=2:=by
  unfold collM;rw [if_neg (any_no h1),if_pos (List.any_eq_true.2 ⟨d,h,by simp [hd]⟩)]
theorem coll_size (h1:∀ d∈ds,deckB d=true) (h2:∀ d∈ds,fieldB f (widthOf d)=true) {t:ByteArray} (h:t∈ts) (ht:¬ (t.size:Int)=f.to_ - f.from_):collM ds ts f=2:=by
  unfold collM;rw [if_neg (any_no h1),if_neg (any_no h2),if_pos (List.any_eq_true.2 ⟨t,h,by simp [ht]⟩)]
theorem coll_ch (h1:∀ d∈ds,deckB d=true) (h2:∀ d∈ds,fieldB f (widthOf d)=true) (h3:∀ t∈ts,(t.size:Int)=f.to_ - f.from_) {t:ByteArray} (h:t∈ts) (ht:charsB t=false):collM ds ts f=7:=by
  unfold collM;rw [if_neg (any_no h1),if_neg (any_no h2),if_neg (any_no fun t ht=>decide_eq_true (h3 t ht)),if_pos (List.any_eq_true.2 ⟨t,h,by simp [ht]⟩)]
theorem coll_have (h1:∀ d∈ds,deckB d=true) (h2:∀ d∈ds,fieldB f (widthOf d)=true) (h3:∀ t∈ts,(t.size:Int)=f.to_ - f.from_) (h4:∀ t∈ts,charsB t=true) {d:List (List Int)} (h:d∈ds) (hd:haveB d f=false):collM ds ts f=8:=by
  unfold collM;rw [if_neg (any_no h1),if_neg (any_no h2),if_neg (any_no fun t ht=>decide_eq_true (h3 t ht)),if_neg (any_no h4),if_pos (List.any_eq_true.2 ⟨d,h,by simp [hd]⟩)]
theorem coll_ok (h1:∀ d∈ds,deckB d=true) (h2:∀ d∈ds,fieldB f (widthOf d)=true) (h3:∀ t∈ts,(t.size:Int)=f.to_ - f.from_) (h4:∀ t∈ts,charsB t=true) (h5:∀ d∈ds,haveB d f=true):collM ds ts f=0:=by
  unfold collM;rw [if_neg (any_no h1),if_neg (any_no h2),if_neg (any_no fun t ht=>decide_eq_true (h3 t ht)),if_neg (any_no h4),if_neg (any_no h5)]
end
theorem all_next {α:Type} {l:List α} {k:Nat} {x:α} {p:α→Prop} (hx:l[k]? = some x) (h:∀ y∈l.take k,p y) (hp:p x):∀ y∈l.take (k+1),p y:=by
  intro y hy;rw [List.take_add_one,hx] at hy;rcases List.mem_append.1 hy with hy | hy
  · exact h y hy
  · simp at hy;subst hy;exact hp
theorem all_done {α:Type} {l:List α} {k:Nat} {p:α→Prop} (hk:l.length≤k) (h:∀ y∈l.take k,p y):∀ y∈l,p y:=by
  rw [List.take_of_length_le hk] at h;exact h
end Go.M
namespace Go.Proofs.YthadkoinmohmlaaGreatDoor
open Go Go.RowKit Go.Vc Go.M
theorem impl_steps {w:World} {a:Option Addr} {n c:Nat} {xs:List (List Int)} (h:ArrS RCard w a n xs) {f:TField} (hd:deckB xs=true) (hf:fieldB f (widthOf xs)=true) :
    Does Tryz.prog 361 [.slice a n c,.agg ⟨f.enc⟩] w (fun v w'=>∃ a' c',v = .slice a' (stepsN xs f xs.length).length c'∧Ext w w'):=by
  have hn:=h.len;have hm:=h.le;have hdm:=deckB_mem hd;have h40:=hdm.1;have h1:∀ c∈xs,fieldB f c.length=true:=fun c hc=>by rw [(hdm.2 c hc).2];exact hf
  have hC:∀ u d d' x y,RCard u d x→RCard u d' y→x∈xs→y∈xs→Does Tryz.prog 265 [.agg ⟨eH d⟩,.agg ⟨eH d'⟩,.agg ⟨f.enc⟩] u (fun v w'=>v = .int .i64 (cmpR (ckey f x) (ckey f y))∧Ext u w'):=fun u d d' x y R R' hx hy=>impl_compareFields R R' (h1 x hx) (h1 y hy);obtain ⟨hs,hV,hE⟩:=h;have hl:=hV.len;refine oV Tryz.func361 ?_;refine SemK.box ?_;intro b41 w41 g41 l41 e41 B41;refine bS mk_62 (vs:=[]) ?_;intro b42 w42 g42 l42 e42 B42;have G42:=Grow.new0 (enc:=eI) eI_len B42 g42;refine lR [0,3,5,6] (fun (k:Nat) vs w'=>∃ a' m c' ys,vs=[.slice a n c,.pointer (some ⟨b41,0,none⟩),.slice a' m c',.int .i64 k]∧1≤k∧k≤n+1∧(k≤n∨k=1)∧m=(stepsN xs f k).length∧Grow eI 1 w41.heap.size 2 w' a' m c' ys∧Cells w' b41 0 f.enc∧Ext w41 w') (fun k=>n+1 - k) 1 ⟨_,_,_,_,rfl,by omega,by omega,by omega,stepsN_one.symm,G42,(B41.ext e42).cells,e42⟩ ?_;rintro k g _ w' ⟨a',m,c',ys,rfl,hk1,hk,hk2,hm,hG,hC41,hX1⟩;have hX:=xt e41 hX1;have hml:=stepsN_le xs f k;have hl41:∀ x,a'=some x→x.block≠b41:=fun x hx=>by have:=hG.new x hx;omega
  rcases Nat.lt_or_ge k n with hkn | hkn
  · obtain ⟨j,rfl⟩:∃ j,k=j+1:=⟨k - 1,by omega⟩;obtain ⟨d,hdd⟩:=get_of_lt (l:=hs) (k:=j+1) (by omega);obtain ⟨x,hx,R⟩:=hE.get hdd;obtain ⟨d',hdd'⟩:=get_of_lt (l:=hs) (k:=j) (by omega);obtain ⟨y,hy,R'⟩:=hE.get hdd';have hCx:∀ u,Ext w u→Does Tryz.prog 265 [.agg ⟨eH d⟩,.agg ⟨eH d'⟩,.agg ⟨f.enc⟩] u (fun v w'=>v = .int .i64 (cmpR (ckey f x) (ckey f y))∧Ext u w'):=fun u e=>hC u d d' x y ⟨R.1.ext e,R.2⟩ ⟨R'.1.ext e,R'.2⟩ (List.mem_of_getElem? hx) (List.mem_of_getElem? hy);have hst:=stepAt_at (f:=f) hx hy;have hcb:=cmpR_b (ckey f x) (ckey f y);have hsub:((j+1:Nat):Int) - 1=j:=by omega
    refine IfB.yes (by omega) ?_;refine dH [(0,false),(1,false),(2,false),(3,false),(4,false),(5,false),(6,false),(7,false),(8,false),(9,true),(10,true),(11,true)] ?_;intro w43 e43;refine dI (hV.ext hX) (j+1) rfl hdd ?_;intro b45 o45 ha45 hb45;refine dA (n:=1) hb45 rfl ?_;refine DSemK.sub (((j:Nat):Int)) (by omega) (by omega) (by omega) ?_;refine dI (hV.ext hX) j rfl hdd' ?_;intro b47 o47 ha47 hb47;refine dA (n:=1) hb47 rfl ?_;refine jA (n:=2) (hC41.ext e43) rfl ?_;refine ⟨e43,?_⟩;refine (hCx _ (xt hX e43)).mono ?_;rintro _ w49 ⟨rfl,e48⟩;refine ⟨(xt e43 e48),?_⟩;(conv=>whnf);with_reducible refine IfB.dec (fun h50=>?_) (fun h50=>?_)
    · refine bS mk_62 (vs:=[Value.int IntKind.i64 ↑(j+1)]) ?_;intro b51 w51 g51 l51 e51 B51;have G51:=Grow.of_blk (n:=1) (enc:=eI) (xs:=[↑(j+1)]) eI_len B51 g51 rfl (by decide);refine SemK.appendArr0 (enc:=eI) mk_62 eI_len (hG.ext (xt (xt e43 e48) e51)) (G51.own.arr eI_len) (by intro y _;simp [eI,cellish]) (by omega) (by omega) (Below.size (xt (xt (xt hX1 e43) e48) e51)) ?_;intro a9 c9 w9 G9 m9 i9;refine SemK.add (((j+1+1:Nat):Int)) (by omega) (by omega) (by omega) ?_;refine ⟨j+1+1,by omega,_,_,_,_,rfl,by omega,by omega,by omega,?_,G9,(hC41.ext (xt (xt e43 e48) e51)).mod m9 (by rintro ⟨x,hx,he⟩;exact hl41 x hx he.symm),(xm (xt (xt (xt hX1 e43) e48) e51) m9 (blkIn_new hG.new))⟩;have hy:=stepsN_yes (d:=xs) (f:=f) (k:=j+1) (by rw [hst];exact decide_eq_true h50);omega
    · refine SemK.add (((j+1+1:Nat):Int)) (by omega) (by omega) (by omega) ?_;refine ⟨j+1+1,by omega,_,_,_,_,rfl,by omega,by omega,by omega,?_,hG.ext (xt e43 e48),(hC41.ext (xt e43 e48)),(xt (xt hX1 e43) e48)⟩;have hy:=stepsN_no (d:=xs) (f:=f) (k:=j+1) (by rw [hst];exact decide_eq_false h50);omega
  · refine IfB.no (by omega) ?_;(conv=>whnf);have hfin:m=(stepsN xs f xs.length).length:=by
      rcases Nat.lt_or_ge 0 n with h0 | h0
      · rw [hm,show k=xs.length by omega]
      · rw [hm,show k=1 by omega,stepsN_one,show xs.length=0 by omega];rfl
    subst hfin;exact ⟨_,_,rfl,hX⟩
theorem impl_isAscending {w:World} {a:Option Addr} {n c:Nat} {xs:List (List Int)} (h:ArrS RCard w a n xs) {f:TField} (hd:deckB xs=true) (hf:fieldB f (widthOf xs)=true) :
    Does Tryz.prog 346 [.slice a n c,.agg ⟨f.enc⟩] w (fun v w'=>v = .bool (ascB xs f)∧Ext w w'):=by
  have hS:∀ u,Ext w u→Does Tryz.prog 361 [.slice a n c,.agg ⟨f.enc⟩] u (fun v w'=>∃ a' c',v = .slice a' (stepsN xs f xs.length).length c'∧Ext u w'):=fun u e=>impl_steps (h.ext e) hd hf;have hb:=stepsN_le xs f xs.length;unfold ascB;refine oV Tryz.func346 ?_;refine SemK.box ?_;intro b1 w1 g1 l1 e1 B1;refine jA (n:=2) B1.cells rfl ?_;refine (hS _ e1).mono ?_;rintro _ w5 ⟨a'2,c'3,rfl,e4⟩;exact ⟨by simp [*],(xt e1 e4)⟩
theorem impl_collateCode {w:World} {a b:Option Addr} {n c m d:Nat} {ds:List (List (List Int))} {ts:List ByteArray} (h:ArrS RDeck w a n ds) (hT:Arr eS 1 w b m ts) (hne:ds≠[]) (hts:∀ t∈ts,t.size≤1048576) {f:TField} (hf:f.ok) :
    Does Tryz.prog 345 [.agg ⟨f.enc⟩,.bool true,.slice b m d,.slice a n c] w (fun v w'=>v = .int .i64 (collM ds ts f)∧Ext w w'):=by
  have hn:=h.len;have hm:=h.le;have hm2:=hT.len;have hm3:=hT.le;obtain ⟨d0,hd0⟩:∃ d0,d0∈ds:=List.exists_mem_of_ne_nil _ hne;obtain ⟨hs,hV,hE⟩:=h;have hl:=hV.len;refine oV Tryz.func345 ?_;refine SemK.box ?_;intro b1 w1 g1 l1 e1 B1;have hV':∀ u,Ext w u→Arr eH 1 u a n hs:=fun u e=>hV.ext e;refine lR [1,2,3,4,19,20,21] (fun (k:Nat) vs w'=>vs=[.bool true,.slice b m d,.slice a n c,.pointer (some ⟨b1,0,none⟩),.slice a n c,.int .i64 n,.int .i64 k]∧k≤n∧(∀ y∈ds.take k,deckB y=true)∧Cells w' b1 0 f.enc∧Ext w w') (fun k=>n - k) 0 ⟨rfl,by omega,by simp,B1.cells,e1⟩ ?_;rintro k g _ w2 ⟨rfl,hk,hall,hC1,hX⟩;rcases Nat.lt_or_ge k n with hkn | hkn
  · obtain ⟨q,hq⟩:=get_of_lt (l:=hs) (k:=k) (by omega);obtain ⟨x,hx,R⟩:=hE.get hq;have hF:∀ u,Ext w u→Does Tryz.prog 54 [.slice q.a q.n q.c] u (fun v w'=>v = .bool (deckB x)∧Ext u w'):=fun u e=>impl_ValidDeck (R.1.ext e);cases hb:deckB x
    · rw [coll_deck (List.mem_of_getElem? hx) hb];refine IfB.yes (by omega) ?_;refine jI (hV.ext hX) k rfl hq ?_;intro b4 o4 ha4 hb4;refine jO hb4 rfl ?_;refine (hF _ hX).mono ?_;rintro _ w6 ⟨rfl,e5⟩;refine IfB.eqt (by simp [*];done) ?_;exact ⟨rfl,(xt hX e5)⟩
    · have hnext:=all_next (p:=fun y=>deckB y=true) hx hall hb;refine IfB.yes (by omega) ?_;refine jI (hV.ext hX) k rfl hq ?_;intro b4 o4 ha4 hb4;refine jO hb4 rfl ?_;refine (hF _ hX).mono ?_;rintro _ w6 ⟨rfl,e5⟩;refine IfB.eqf (by simp [*];done) ?_;refine SemK.add (((k+1:Nat):Int)) (by omega) (by omega) (by omega) ?_;exact ⟨k+1,by omega,rfl,by omega,by omega,(hC1.ext e5),(xt hX e5)⟩
  · obtain rfl:k=n:=by omega
    have h1:=all_done (show ds.length≤k by omega) hall;refine IfB.no (by omega) ?_;have hw4:=hX;refine lR [2,3,4,31,32,33] (fun (i:Nat) vs w'=>vs=[.slice b m d,.slice a k c,.pointer (some ⟨b1,0,none⟩),.slice a k c,.int .i64 k,.int .i64 i]∧i≤k∧(∀ y∈ds.take i,fieldB f (widthOf y)=true)∧Cells w' b1 0 f.enc∧Ext w w') (fun i=>k - i) 0 ⟨rfl,by omega,by simp,hC1,hX⟩ ?_;clear hX hC1;rintro i g _ w3 ⟨rfl,hi,hall2,hC1,hX⟩;rcases Nat.lt_or_ge i k with hik | hik
    · obtain ⟨q,hq⟩:=get_of_lt (l:=hs) (k:=i) (by omega);obtain ⟨x,hx,R⟩:=hE.get hq;have hx1:=h1 x (List.mem_of_getElem? hx);have hwb:=widthOf_b hx1;have hF:∀ u,Ext w u→Does Tryz.prog 193 [.slice q.a q.n q.c] u (fun v w'=>v = .int .i64 (widthOf x)∧Ext u w'):=fun u e=>impl_deckColumns (R.1.ext e);cases hb:fieldB f (widthOf x)
      · rw [coll_field h1 (List.mem_of_getElem? hx) hb];refine IfB.yes (by omega) ?_;refine jI (hV.ext hX) i rfl hq ?_;intro b6 o6 ha6 hb6;refine jO hb6 rfl ?_;refine dH [(0,false),(1,true),(2,true),(3,true),(4,true)] ?_;intro w7 e7;refine dA (n:=2) hC1 rfl ?_;refine (hF _ (xt hX e7)).mono ?_;rintro _ w9 ⟨rfl,e8⟩;refine ⟨(xt e7 e8),?_⟩;refine (impl_isField _ _ _).mono ?_;rintro _ w11 ⟨rfl,e10⟩;refine ⟨(xt (xt e7 e8) e10),?_⟩;refine IfB.eqt (by simp [*];done) ?_;exact ⟨rfl,(xt (xt (xt hX e7) e8) e10)⟩
      · have hnext:=all_next (p:=fun y=>fieldB f (widthOf y)=true) hx hall2 hb;refine IfB.yes (by omega) ?_;refine jI (hV.ext hX) i rfl hq ?_;intro b6 o6 ha6 hb6;refine jO hb6 rfl ?_;refine dH [(0,false),(1,true),(2,true),(3,true),(4,true)] ?_;intro w7 e7;refine dA (n:=2) hC1 rfl ?_;refine (hF _ (xt hX e7)).mono ?_;rintro _ w9 ⟨rfl,e8⟩;refine ⟨(xt e7 e8),?_⟩;refine (impl_isField _ _ _).mono ?_;rintro _ w11 ⟨rfl,e10⟩;refine ⟨(xt (xt e7 e8) e10),?_⟩;refine IfB.eqf (by simp [*];done) ?_;refine SemK.add (((i+1:Nat):Int)) (by omega) (by omega) (by omega) ?_;exact ⟨i+1,by omega,rfl,by omega,by omega,(hC1.ext (xt (xt e7 e8) e10)),(xt (xt (xt hX e7) e8) e10)⟩
    · obtain rfl:i=k:=by omega
      have h2:=all_done (show ds.length≤i by omega) hall2;have hfb:=fieldB_b (h2 d0 hd0);have hwb:=widthOf_b (h1 d0 hd0);refine IfB.no (by omega) ?_;refine lR [2,3,4,43,44,45] (fun (j:Nat) vs w'=>vs=[.slice b m d,.slice a i c,.pointer (some ⟨b1,0,none⟩),.slice b m d,.int .i64 m,.int .i64 j]∧j≤m∧(∀ t∈ts.take j,(t.size:Int)=f.to_ - f.from_)∧Cells w' b1 0 f.enc∧Ext w w') (fun j=>m - j) 0 ⟨rfl,by omega,by simp,hC1,hX⟩ ?_;clear hX hC1;rintro j g _ w4 ⟨rfl,hj,hall3,hC1,hX⟩;rcases Nat.lt_or_ge j m with hjm | hjm
      · obtain ⟨t,ht⟩:=get_of_lt (l:=ts) (k:=j) (by omega);have htz:=hts t (List.mem_of_getElem? ht);by_cases hb:(t.size:Int)=f.to_ - f.from_
        · have hnext:=all_next (p:=fun t=>(ByteArray.size t:Int)=f.to_ - f.from_) ht hall3 hb;refine IfB.yes (by omega) ?_;refine jI (hT.ext hX) j rfl ht ?_;intro b6 o6 ha6 hb6;refine jO hb6 rfl ?_;refine jL hC1 (k:=1) rfl ?_;refine jL hC1 (k:=0) rfl ?_;refine SemK.sub _ rfl (by omega) (by omega) ?_;refine IfB.eqf (by simp [*];done) ?_;refine SemK.add (((j+1:Nat):Int)) (by omega) (by omega) (by omega) ?_;exact ⟨j+1,by omega,rfl,by omega,by omega,hC1,hX⟩
        · rw [coll_size h1 h2 (List.mem_of_getElem? ht) hb];refine IfB.yes (by omega) ?_;refine jI (hT.ext hX) j rfl ht ?_;intro b6 o6 ha6 hb6;refine jO hb6 rfl ?_;refine jL hC1 (k:=1) rfl ?_;refine jL hC1 (k:=0) rfl ?_;refine SemK.sub _ rfl (by omega) (by omega) ?_;refine IfB.eqt (by simp [*];done) ?_;exact ⟨rfl,hX⟩
      · obtain rfl:j=m:=by omega
        have h3:=all_done (show ts.length≤j by omega) hall3;refine IfB.no (by omega) ?_;refine lR [3,4,58,59,60] (fun (l:Nat) vs w'=>vs=[.slice a i c,.pointer (some ⟨b1,0,none⟩),.slice b j d,.int .i64 j,.int .i64 l]∧l≤j∧(∀ t∈ts.take l,charsB t=true)∧Cells w' b1 0 f.enc∧Ext w w') (fun l=>j - l) 0 ⟨rfl,by omega,by simp,hC1,hX⟩ ?_;clear hX hC1;rintro l g _ w5 ⟨rfl,hlj,hall4,hC1,hX⟩;rcases Nat.lt_or_ge l j with hljm | hljm
        · obtain ⟨t,ht⟩:=get_of_lt (l:=ts) (k:=l) (by omega);have htz:=hts t (List.mem_of_getElem? ht);cases hb:charsB t
          · rw [coll_ch h1 h2 h3 (List.mem_of_getElem? ht) hb];refine IfB.yes (by omega) ?_;refine jI (hT.ext hX) l rfl ht ?_;intro b7 o7 ha7 hb7;refine jO hb7 rfl ?_;refine (impl_areCharacters _ htz _).mono ?_;rintro _ w9 ⟨rfl,e8⟩;refine IfB.eqt (by simp [*];done) ?_;exact ⟨rfl,(xt hX e8)⟩
          · have hnext:=all_next (p:=fun t=>charsB t=true) ht hall4 hb;refine IfB.yes (by omega) ?_;refine jI (hT.ext hX) l rfl ht ?_;intro b7 o7 ha7 hb7;refine jO hb7 rfl ?_;refine (impl_areCharacters _ htz _).mono ?_;rintro _ w9 ⟨rfl,e8⟩;refine IfB.eqf (by simp [*];done) ?_;refine SemK.add (((l+1:Nat):Int)) (by omega) (by omega) (by omega) ?_;exact ⟨l+1,by omega,rfl,by omega,by omega,(hC1.ext e8),(xt hX e8)⟩
        · obtain rfl:l=j:=by omega
          have h4:=all_done (show ts.length≤l by omega) hall4;refine IfB.no (by omega) ?_;refine lR [4,68,69,70] (fun (r:Nat) vs w'=>vs=[.pointer (some ⟨b1,0,none⟩),.slice a i c,.int .i64 i,.int .i64 r]∧r≤i∧(∀ y∈ds.take r,haveB y f=true)∧Cells w' b1 0 f.enc∧Ext w w') (fun r=>i - r) 0 ⟨rfl,by omega,by simp,hC1,hX⟩ ?_;clear hX hC1;rintro r g _ w6 ⟨rfl,hri,hall5,hC1,hX⟩;rcases Nat.lt_or_ge r i with hrim | hrim
          · obtain ⟨q,hq⟩:=get_of_lt (l:=hs) (k:=r) (by omega);obtain ⟨x,hx,R⟩:=hE.get hq;have hF:∀ u,Ext w u→Does Tryz.prog 194 [.slice q.a q.n q.c,.agg ⟨f.enc⟩] u (fun v w'=>v = .bool (haveB x f)∧Ext u w'):=fun u e=>impl_haveField (R.1.ext e) (h1 x (List.mem_of_getElem? hx)) (h2 x (List.mem_of_getElem? hx));cases hb:haveB x f
            · rw [coll_have h1 h2 h3 h4 (List.mem_of_getElem? hx) hb];refine IfB.yes (by omega) ?_;refine jI (hV.ext hX) r rfl hq ?_;intro b8 o8 ha8 hb8;refine jO hb8 rfl ?_;refine jA (n:=2) hC1 rfl ?_;refine (hF _ hX).mono ?_;rintro _ w10 ⟨rfl,e9⟩;refine IfB.eqt (by simp [*];done) ?_;exact ⟨rfl,(xt hX e9)⟩
            · have hnext:=all_next (p:=fun y=>haveB y f=true) hx hall5 hb;refine IfB.yes (by omega) ?_;refine jI (hV.ext hX) r rfl hq ?_;intro b8 o8 ha8 hb8;refine jO hb8 rfl ?_;refine jA (n:=2) hC1 rfl ?_;refine (hF _ hX).mono ?_;rintro _ w10 ⟨rfl,e9⟩;refine IfB.eqf (by simp [*];done) ?_;refine SemK.add (((r+1:Nat):Int)) (by omega) (by omega) (by omega) ?_;exact ⟨r+1,by omega,rfl,by omega,by omega,(hC1.ext e9),(xt hX e9)⟩
          · obtain rfl:r=i:=by omega
            have h5:=all_done (show ds.length≤r by omega) hall5;rw [coll_ok h1 h2 h3 h4 h5];refine IfB.no (by omega) ?_;exact ⟨rfl,hX⟩
end Go.Proofs.YthadkoinmohmlaaGreatDoor
namespace Go.M
open Go Go.Vc
theorem filter_none {α:Type} {l:List α} {p:α→Bool} (h:l.any p=false):l.filter (fun x=>!p x)=l:=by
  rw [List.filter_eq_self];intro x hx;rw [List.any_eq_false] at h;simpa using h x hx
theorem filZ_all {α β:Type} {p:α→Bool}:∀ {xs:List α} {ys:List β},xs.length=ys.length→xs.any p=false→filZ (fun x=>!p x) xs ys=ys
  | [],[],_,_=>rfl
  | [],_ :: _,h,_=>by simp at h
  | _ :: _,[],h,_=>by simp at h
  | x :: xs,y :: ys,h,hp=>by
    rw [List.any_cons,Bool.or_eq_false_iff] at hp;have:=filZ_all (p:=p) (xs:=xs) (ys:=ys) (by simpa using h) hp.2;unfold filZ;rw [hp.1,this];rfl
theorem filZ_take {α β:Type} (q:α→Bool) {xs:List α} {ys:List β} (h:xs.length=ys.length) {k:Nat} {x:α} {y:β} (hx:xs[k]? = some x) (hy:ys[k]? = some y) :
    filZ q (xs.take (k+1)) (ys.take (k+1))=if q x=true then filZ q (xs.take k) (ys.take k)++[y] else filZ q (xs.take k) (ys.take k):=by
  rw [List.take_add_one,List.take_add_one,hx,hy];exact filZ_snoc q x y _ _ (by simp [h])
theorem set_take_next {α:Type} {L:List α} {m:Nat} (d:α) (h:m<L.length):(L.set m d).take (m+1)=L.take m++[d]:=by
  rw [List.take_add_one,List.take_set_of_le (Nat.le_refl m),set_get (List.getElem?_eq_getElem h)];rfl
end Go.M
namespace Go.Proofs.YthadkoinmohmlaaGreatDoor
open Go Go.RowKit Go.Vc Go.M
theorem lib_IndexFuncCardAt {w:World} {a:Option Addr} {n c g:Nat} {xs:List (List Int)} (h:ArrS RCard w a n xs) {p:List Int→Bool} {cap:List Value}
    (hg:∀ d x,x∈xs→RCard w d x→∀ w',Ext w w'→Does Tryz.prog g (.agg ⟨eH d⟩ :: cap) w' (fun v w''=>v = .bool (p x)∧Ext w' w'')) :
    Does Tryz.prog 312 [.slice a n c,.func (.func g) ⟨[]⟩ ⟨cap⟩] w (fun v w'=>∃ r:Int,v = .int .i64 r∧((r = -1∧xs.any p=false)∨∃ i x,r=(i:Nat)∧xs[i]? = some x∧p x=true∧(xs.take i).any p=false)∧Ext w w'):=by
  have hn:=h.len;have hm:=h.le;obtain ⟨hs,hV,hE⟩:=h;have hl:=hV.len;refine oV Tryz.func312 ?_;refine lR [0,1,7,8] (fun (k:Nat) vs w'=>vs=[.slice a n c,.func (.func g) ⟨[]⟩ ⟨cap⟩,.int .i64 n,.int .i64 k]∧k≤n∧(xs.take k).any p=false∧Ext w w') (fun k=>n - k) 0 ⟨rfl,by omega,by simp,Ext.refl _⟩ ?_;rintro k g' _ w' ⟨rfl,hk,hall,hX⟩;rcases Nat.lt_or_ge k n with hkn | hkn
  · obtain ⟨d,hd⟩:=get_of_lt (l:=hs) (k:=k) (by omega);obtain ⟨x,hx,R⟩:=hE.get hd;have hgx:=hg d x (List.mem_of_getElem? hx) R;have hts:=any_take_succ (p:=p) hx;cases hpx:p x
    · rw [hpx] at hgx hts;rw [hall,Bool.or_false] at hts;refine IfB.yes (by omega) ?_;refine jI (hV.ext hX) k rfl hd ?_;intro b2 o2 ha2 hb2;refine jA (n:=1) hb2 rfl ?_;refine (hgx _ hX).mono ?_;rintro _ w4 ⟨rfl,e3⟩;refine SemK.add (((k+1:Nat):Int)) (by omega) (by omega) (by omega) ?_;exact ⟨k+1,by omega,rfl,by omega,by omega,(xt hX e3)⟩
    · rw [hpx] at hgx;refine IfB.yes (by omega) ?_;refine jI (hV.ext hX) k rfl hd ?_;intro b2 o2 ha2 hb2;refine jA (n:=1) hb2 rfl ?_;refine (hgx _ hX).mono ?_;rintro _ w4 ⟨rfl,e3⟩;exact ⟨_,rfl,.inr ⟨k,x,rfl,hx,hpx,hall⟩,(xt hX e3)⟩
  · rw [List.take_of_length_le (by omega)] at hall;refine IfB.no (by omega) ?_;exact ⟨_,rfl,.inl ⟨rfl,hall⟩,hX⟩
theorem lib_DeleteFuncCard {w:World} {a:Option Addr} {n c g t:Nat} {xs:List (List Int)} {fp:List Nat} (h:OwnS OCard w a n t xs fp) (hnd:fp.Nodup) (hnc:n≤c) {p:List Int→Bool} {cap:List Value}
    (hg:∀ u,Mod (blkIn a) w u→∀ d x,x∈xs→RCard u d x→Does Tryz.prog g (.agg ⟨eH d⟩ :: cap) u (fun v w''=>v = .bool (p x)∧Ext u w'')) :
    Does Tryz.prog 349 [.slice a n c,.func (.func g) ⟨[]⟩ ⟨cap⟩] w (fun v w'=>∃ m fp',v = .slice a m c∧m=(xs.filter fun x=>!p x).length∧m≤n∧OwnS OCard w' a m t (xs.filter fun x=>!p x) fp'∧fp'.Sublist fp∧Mod (blkIn a) w w'):=by
  have hA:=h.arr;have hI:=lib_IndexFuncCardAt (c:=c) hA (p:=p) (cap:=cap) (fun d x hx R u e=>hg u (e.mod) d x hx ⟨R.1.ext e,R.2⟩);have hxl:=h.len;obtain ⟨hs,fps,hO,hE,rfl⟩:=h;have hl:hs.length=n:=hO.1;have hn2:=hO.2.1;obtain ⟨n1,n2,n3⟩:=List.nodup_append.1 hnd;have hkeep:∀ {u:World},Mod (blkIn a) w u→ElO OCard u hs xs fps:=fun M=>hE.keep fun k hk=>M.block k (fun hb=>n3 k (mem_blks.2 hb) k hk rfl) (hE.lt k hk);refine oV Tryz.func349 ?_;refine hI.mono ?_;rintro _ w2 ⟨r,rfl,hr,e2⟩;rcases hr with ⟨rfl,hall⟩ | ⟨i,x0,rfl,hx0,hp0,hpre⟩
  · (conv=>whnf);rw [filter_none hall];exact ⟨n,_,rfl,by omega,by omega,⟨hs,fps,hO.ext e2,hkeep (e2.mod),rfl⟩,List.Sublist.refl _,e2.mod⟩
  · have hin:i<n:=by rw [← hxl];exact (List.getElem?_eq_some_iff.1 hx0).1
    have hin2:(i:Int)+1≤9223372036854775807:=by omega
    obtain ⟨b,rfl⟩:=hO.some (by omega);have hlx:xs.length=hs.length:=by rw [hl,hxl]
    refine SemK.add (((i+1:Nat):Int)) (by omega) (by omega) (by omega) ?_;refine lR [0,1,5,6] (fun (k:Nat) vs w'=>∃ m L,vs=[.slice (some ⟨b,0,none⟩) n c,.func (.func g) ⟨[]⟩ ⟨cap⟩,.int .i64 (m:Nat),.int .i64 (k:Nat)]∧k≤n∧m<k∧L.length=n∧L.take m=filZ (fun x=>!p x) (xs.take k) (hs.take k)∧L.drop k=hs.drop k∧Own eH w' (some ⟨b,0,none⟩) n t L∧Mod (blkIn (some ⟨b,0,none⟩)) w w') (fun k=>n - k) (i+1) ⟨i,hs,rfl,by omega,by omega,hl,?_,rfl,hO.ext e2,e2.mod⟩ ?_
    · obtain ⟨d0,hd0⟩:∃ d,hs[i]? = some d:=get_of_lt (by omega);rw [filZ_take _ hlx hx0 hd0,if_neg (by simp [hp0]),filZ_all (by simp [hlx]) hpre]
    rintro k g' _ w' ⟨m,L,rfl,hk,hmk,hL,hLt,hLd,hOL,hM⟩;have hml:(filZ (fun x=>!p x) (xs.take k) (hs.take k)).length=m:=by rw [← hLt,List.length_take];omega
    rcases Nat.lt_or_ge k n with hkn | hkn
    · obtain ⟨d,hd⟩:=get_of_lt (l:=hs) (k:=k) (by omega);obtain ⟨x,hx⟩:=get_of_lt (l:=xs) (k:=k) (by omega);have hLk:L[k]? = some d:=by
        have e1:(L.drop k)[0]? = (hs.drop k)[0]? := by rw [hLd]
        simpa [hd] using e1
      have hfz:=filZ_take (fun x=>!p x) hlx hx hd;have hLd1:L.drop (k+1)=hs.drop (k+1):=by
        have:=congrArg (List.drop 1) hLd;simpa [List.drop_drop] using this
      refine IfB.yes (by omega) ?_;refine jI (hOL.arr eH_len) k rfl hLk ?_;intro b2 o2 ha2 hb2;refine jA (n:=1) hb2 rfl ?_;refine jN (z := .agg #[.slice none 0 0]) ?_;intro b3 w3 g3 l3 e3 B3;refine jS (vs:=[Value.slice d.a d.n d.c]) B3 rfl rfl (by simp [cellish]) ?_;intro w4 c4 B4;refine jA (n:=1) B4.cells rfl ?_;(conv=>whnf);have E4:Ext w' w4:=xb e3 c4.but g3;have M4:=hM.trans E4.mod;have hR:RCard w4 d x:=(hkeep M4).rd.2 k d x hd hx;have hcall:=hg w4 M4 d x (List.mem_of_getElem? hx) hR;cases hpx:p x
      · rw [hpx] at hcall;rw [hpx] at hfz;refine hcall.mono ?_;rintro _ w5 ⟨rfl,e5⟩;have E5:=xt E4 e5;refine jA (n:=1) (B4.ext e5).cells rfl ?_;refine jW (sz:=1) m rfl (by omega) ?_;obtain ⟨y,hy⟩:=get_of_lt (l:=L) (k:=m) (by omega);refine SemK.storeOwn (by kernel_rfl) eH_len (hOL.ext E5) hy d (by simp [eH,cellish]) ?_;intro w6 c6 O6;refine SemK.add (((m+1:Nat):Int)) (by omega) (by omega) (by omega) ?_;refine SemK.add (((k+1:Nat):Int)) (by omega) (by omega) (by omega) ?_;refine ⟨k+1,by omega,m+1,L.set m d,rfl,by omega,by omega,by simp [hL],?_,?_,O6,(hM.trans E5.mod).trans (c6.but.mono fun j hj=>⟨_,rfl,hj⟩)⟩
        · rw [set_take_next d (by omega),hLt,hfz];rfl
        · rw [List.drop_set_of_lt (by omega),hLd1]
      · rw [hpx] at hcall;rw [hpx] at hfz;refine hcall.mono ?_;rintro _ w5 ⟨rfl,e5⟩;have E5:=xt E4 e5;refine SemK.add (((k+1:Nat):Int)) (by omega) (by omega) (by omega) ?_;refine ⟨k+1,by omega,m,L,rfl,by omega,by omega,hL,?_,hLd1,hOL.ext E5,hM.trans E5.mod⟩;rw [hLt,hfz];rfl
    · obtain rfl:k=n:=by omega
      rw [List.take_of_length_le (show hs.length≤k by omega),List.take_of_length_le (show xs.length≤k by omega)] at hLt;have hmf:=filZ_length (fun x=>!p x) xs hs hlx;have hmm:m=(xs.filter fun x=>!p x).length:=by
        rw [← hmf,← hLt,List.length_take];omega
      refine IfB.no (by omega) ?_;refine SemK.sliceFrom (sz:=1) (by kernel_rfl) m (by omega) (by omega) (by omega) ?_;refine SemK.clearOwn (z := .slice none 0 0) (k:=m) (m:=k - m) mk_93 eH_len rfl hOL (by omega) (by omega) ?_;intro w7 c7 O7;refine SemK.sliceEnd (sz:=1) (by kernel_rfl) m (by omega) (by omega) ?_;(conv=>whnf);have M7:=hM.trans (c7.but.mono fun j hj=>⟨_,rfl,hj⟩);rw [hLt] at O7;refine ⟨m,blks (some ⟨b,0,none⟩)++(filZ (fun x=>!p x) xs fps).flatten,rfl,hmm,by omega,⟨_,_,O7,(hkeep M7).filter _,rfl⟩,(List.Sublist.refl _).append (filZ_sub _ _ _),M7⟩
end Go.Proofs.YthadkoinmohmlaaGreatDoor
