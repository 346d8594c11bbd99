/- Contracts of functions of the given program, of the reference and of the laws: each says what a call returns, for all arguments that meet the premises that the theorem itself names. -/
import Derived.Test.YthadkoinmohmlaaGreatDoorJourR
import Derived.Test.YthadkoinmohmlaaGreatDoorDraw
import Derived.Test.YthadkoinmohmlaaGreatDoorOffice
import Derived.Test.YthadkoinmohmlaaGreatDoorDec
import Derived.Test.YthadkoinmohmlaaGreatDoorShelf
import Derived.Test.YthadkoinmohmlaaGreatDoorStab
namespace Go.Proofs.YthadkoinmohmlaaGreatDoor
open Go Go.RowKit Go.Vc Go.M Go.Shelf Go.Proofs
theorem impl_notesOf {log:ByteArray} (hs:log.size≤1048576) {l:List TNote} {ch cd:Int} (hm:notesOfM log=(l,ch,cd)) {w:World} (hT:Pow w) (hE:Errs w) (hM:MaxL w) :
    Does Tryz.prog 109 [.string log] w (fun v w'=>∃ a n c,v = .tuple #[.slice a n c,.int .i64 ch,.int .i64 cd]∧NewAt w.heap.size a∧Own TNote.enc w' a n 175 l∧Ext w w'):=by
  unfold notesOfM at hm;have hb:=(readJ_ok _ log.data.toList 0 (Nat.le_refl _) (by omega) (by omega)).2.2.2.1;rcases journalCode_cases log with ⟨z1,z2⟩ | ⟨z1,z2,z3⟩ | ⟨z1,z2,z3⟩
  · rw [z2] at hm;cases hm
    refine oV Tryz.func109 ?_;refine IfB.yes (by omega) ?_;exact ⟨_,_,_,rfl,NewAt.nil,Own.nil,Ext.refl _⟩
  · rw [z3] at hm;cases hm
    refine oV Tryz.func109 ?_;refine IfB.no (by omega) ?_;refine (impl_readJournal z1 hT hE hM).mono ?_;rintro _ w10 ⟨a4,n5,c6,rfl,N7,O8,e9⟩;refine IfB.yes (by omega) ?_;exact ⟨_,_,_,rfl,NewAt.nil,Own.nil,e9⟩
  · rw [z3,if_pos rfl] at hm;cases hm
    refine oV Tryz.func109 ?_;refine IfB.no (by omega) ?_;refine (impl_readJournal z1 hT hE hM).mono ?_;rintro _ w10 ⟨a4,n5,c6,rfl,N7,O8,e9⟩;refine IfB.no (by omega) ?_;exact ⟨_,_,_,rfl,N7,O8,e9⟩
theorem impl_NotesOf {log:ByteArray} (hs:log.size≤1048576) {w:World} (hT:Pow w) (hE:Errs w) (hM:MaxL w) :
    Does Tryz.prog 56 [.string log] w (fun v w'=>∃ a n c,v = .tuple #[.slice a n c,.int .i64 (notesOfM log).2.2]∧NewAt w.heap.size a∧Own TNote.enc w' a n 175 (notesOfM log).1∧Ext w w'):=by
  obtain ⟨l,ch,cd,hm⟩:∃ l ch cd,notesOfM log=(l,ch,cd):=⟨_,_,_,rfl⟩;rw [hm];have hN:∀ u,Pow u→Errs u→MaxL u→Does Tryz.prog 109 [.string log] u (fun v w'=>∃ a n c,v = .tuple #[.slice a n c,.int .i64 ch,.int .i64 cd]∧NewAt u.heap.size a∧Own TNote.enc w' a n 175 l∧Ext u w'):=fun u h1 h2 h3=>impl_notesOf hs hm h1 h2 h3;refine oV Tryz.func56 ?_;refine (hN _ hT hE hM).mono ?_;rintro _ w7 ⟨a1,n2,c3,rfl,N4,O5,e6⟩;exact ⟨_,_,_,rfl,N4,O5,e6⟩
theorem impl_AddNote {log:ByteArray} (hs:log.size≤1048576) {x:TNote} (hx:x.ok) {w:World} (hT:Pow w) (hE:Errs w) (hM:MaxL w) :
    Does Tryz.prog 121 [.string log,.agg ⟨x.enc⟩] w (fun v w'=>v = .tuple #[.string (addNoteM log x).1,.int .i64 (addNoteM log x).2]∧Ext w w'):=by
  have hok:=readJ_ok _ log.data.toList 0 (Nat.le_refl _) (by omega) (by omega);obtain ⟨l,ch,cd,hm⟩:∃ l ch cd,notesOfM log=(l,ch,cd):=⟨_,_,_,rfl⟩;have hN:∀ u,Pow u→Errs u→MaxL u→Does Tryz.prog 109 [.string log] u (fun v w'=>∃ a n c,v = .tuple #[.slice a n c,.int .i64 ch,.int .i64 cd]∧NewAt u.heap.size a∧Own TNote.enc w' a n 175 l∧Ext u w'):=fun u h1 h2 h3=>impl_notesOf hs hm h1 h2 h3;unfold notesOfM at hm;unfold addNoteM;by_cases hj:journalCode log=0
  · rw [if_pos hj] at hm ⊢;have hcb:=hok.2.1;have hcb2:=hok.2.2.1;generalize (readJ log.data.toList 0).2.1=ch2 at *;cases hm
    have hcm:=chainM_b ch hcb x;have hlz:=line_size hcm.1 hcm.2 hx;cases hz1:noteB x
    · rw [if_pos rfl];dsimp only;clear hok;refine oV Tryz.func121 ?_;refine SemK.box ?_;intro b3 w3 g3 l3 e3 B3;refine (hN _ (hT.ext e3) (hE.ext e3) (hM.ext e3)).mono ?_;rintro _ w10 ⟨a4,n5,c6,rfl,N7,O8,e9⟩;refine jA (n:=4) (B3.ext e9).cells rfl ?_;refine (impl_ValidNote hx _).mono ?_;rintro _ w12 ⟨rfl,e11⟩;refine IfB.eqt (by simp [*];done) ?_;exact ⟨rfl,(xt (xt e3 e9) e11)⟩
    · have hw12:=noteB_what hz1;have hNL:∀ u,Pow u→Does Tryz.prog 189 [.int .i64 (chainM ch x),.agg ⟨x.enc⟩] u (fun v u'=>v = .string (lineB (chainM ch x) x)∧Ext u u'):=fun u hu=>impl_noteLine hcm.1 hcm.2 hx (by omega) hu;rw [if_neg (by simp)];generalize lineB (chainM ch x) x=L at *;clear hok;by_cases hq:4000<log.size+L.size
      · rw [if_pos hq];dsimp only;refine oV Tryz.func121 ?_;refine SemK.box ?_;intro b13 w13 g13 l13 e13 B13;refine (hN _ (hT.ext e13) (hE.ext e13) (hM.ext e13)).mono ?_;rintro _ w20 ⟨a14,n15,c16,rfl,N17,O18,e19⟩;refine jA (n:=4) (B13.ext e19).cells rfl ?_;refine (impl_ValidNote hx _).mono ?_;rintro _ w22 ⟨rfl,e21⟩;refine IfB.eqf (by simp [*];done) ?_;refine dH [(0,false),(1,false),(2,false),(4,false),(3,true),(5,true),(6,true),(7,true)] ?_;intro w23 e23;refine dA (n:=4) (B13.ext (xt e19 e21)).cells rfl ?_;refine dA (n:=4) (B13.ext (xt e19 e21)).cells rfl ?_;refine (impl_chainOf hcb hcb2 hx (by omega) (hT.ext (xt (xt (xt e13 e19) e21) e23))).mono ?_;rintro _ w25 ⟨rfl,e24⟩;refine ⟨(xt e23 e24),?_⟩;refine (hNL _ (hT.ext (xt (xt (xt (xt e13 e19) e21) e23) e24))).mono ?_;rintro _ w27 ⟨rfl,e26⟩;refine ⟨(xt (xt e23 e24) e26),?_⟩;refine SemK.cat (by omega) ?_;refine ⟨(xt (xt e23 e24) e26),?_⟩;(conv=>whnf);with_reducible refine IfB.dec (fun h28=>?_) (fun h28=>?_)
        · exact ⟨rfl,(xt (xt (xt (xt (xt e13 e19) e21) e23) e24) e26)⟩
        · refine ⟨?_,(xt (xt (xt (xt (xt e13 e19) e21) e23) e24) e26)⟩
          · exact absurd hq (by rw [ByteArray.size_append] at h28;omega)
      · rw [if_neg hq];dsimp only;refine oV Tryz.func121 ?_;refine SemK.box ?_;intro b13 w13 g13 l13 e13 B13;refine (hN _ (hT.ext e13) (hE.ext e13) (hM.ext e13)).mono ?_;rintro _ w20 ⟨a14,n15,c16,rfl,N17,O18,e19⟩;refine jA (n:=4) (B13.ext e19).cells rfl ?_;refine (impl_ValidNote hx _).mono ?_;rintro _ w22 ⟨rfl,e21⟩;refine IfB.eqf (by simp [*];done) ?_;refine dH [(0,false),(1,false),(2,false),(4,false),(3,true),(5,true),(6,true),(7,true)] ?_;intro w23 e23;refine dA (n:=4) (B13.ext (xt e19 e21)).cells rfl ?_;refine dA (n:=4) (B13.ext (xt e19 e21)).cells rfl ?_;refine (impl_chainOf hcb hcb2 hx (by omega) (hT.ext (xt (xt (xt e13 e19) e21) e23))).mono ?_;rintro _ w25 ⟨rfl,e24⟩;refine ⟨(xt e23 e24),?_⟩;refine (hNL _ (hT.ext (xt (xt (xt (xt e13 e19) e21) e23) e24))).mono ?_;rintro _ w27 ⟨rfl,e26⟩;refine ⟨(xt (xt e23 e24) e26),?_⟩;refine SemK.cat (by omega) ?_;refine ⟨(xt (xt e23 e24) e26),?_⟩;(conv=>whnf);with_reducible refine IfB.dec (fun h28=>?_) (fun h28=>?_)
        · refine ⟨?_,(xt (xt (xt (xt (xt e13 e19) e21) e23) e24) e26)⟩
          · exact absurd (by rw [ByteArray.size_append] at h28;omega) hq
        · exact ⟨rfl,(xt (xt (xt (xt (xt e13 e19) e21) e23) e24) e26)⟩
  · rw [if_neg hj] at hm ⊢;cases hm
    dsimp only;clear hok;refine oV Tryz.func121 ?_;refine SemK.box ?_;intro b1 w1 g1 l1 e1 B1;refine (hN _ (hT.ext e1) (hE.ext e1) (hM.ext e1)).mono ?_;rintro _ w8 ⟨a2,n3,c4,rfl,N5,O6,e7⟩;refine IfB.eqt (by simp [*];done) ?_;exact ⟨rfl,(xt e1 e7)⟩
end Go.Proofs.YthadkoinmohmlaaGreatDoor
namespace Go.M
open Go Go.Vc
end Go.M
namespace Go.Proofs.YthadkoinmohmlaaGreatDoor
open Go Go.RowKit Go.Vc Go.M
end Go.Proofs.YthadkoinmohmlaaGreatDoor
namespace Go.M
open Go Go.Vc
end Go.M
namespace Go.Proofs.YthadkoinmohmlaaGreatDoor
open Go Go.RowKit Go.Vc Go.M
end Go.Proofs.YthadkoinmohmlaaGreatDoor
namespace Go.M
open Go Go.Vc
def jn (l:List Int):List UInt8:=Lib.join (l.map Lib.itoa) [32]
theorem jn_one (x:Int):jn [x]=Lib.itoa x:=by simp [jn,Lib.join_one]
theorem jn_nil:jn []=[]:=rfl
theorem joinTail_append (sep:List UInt8) (a b:List (List UInt8)):Lib.joinTail sep (a++b)=Lib.joinTail sep a++Lib.joinTail sep b:=by simp [Lib.joinTail]
theorem jn_snoc {l:List Int} (h:l≠[]) (x:Int):jn (l++[x])=jn l++32 :: Lib.itoa x:=by
  cases l with
  | nil=>exact absurd rfl h
  | cons y l =>
    unfold jn;rw [List.cons_append,List.map_cons,List.map_cons,Lib.join_cons,Lib.join_cons,List.map_append,joinTail_append];simp [Lib.joinTail]
theorem jn_take {l:List Int} {k:Nat} {x:Int} (h:l[k]? = some x) (hk:0<k):jn (l.take (k+1))=jn (l.take k)++32 :: Lib.itoa x:=by
  have hlt:=(List.getElem?_eq_some_iff.1 h).1;rw [List.take_add_one,h];refine jn_snoc (fun e=>?_) x;have:=congrArg List.length e;rw [List.length_take,List.length_nil] at this;omega
theorem itoa_ne (n:Int):Lib.itoa n≠[]:=by
  unfold Lib.itoa;split
  · simp
  · exact decDigits_ne _
theorem itoa_len {n:Int} (h:i64ok n):(Lib.itoa n).length≤21:=decB_len h.1 h.2
theorem jn_len {l:List Int} (h:∀ x∈l,i64ok x):∀ k,(jn (l.take k)).length≤22 * k:=by
  intro k;induction k with
  | zero=>simp [jn_nil]
  | succ k ih =>
    cases hx:l[k]? with
    | none =>
      rw [List.take_add_one,hx];simp;omega
    | some x =>
      have h1:=itoa_len (h x (List.mem_of_getElem? hx));by_cases hk:0<k
      · rw [jn_take hx hk];simp;omega
      · have:k=0:=by omega
        subst this;rw [List.take_add_one,hx];simp [jn_one];omega
theorem jn_ne {l:List Int} (h:l≠[]):jn l≠[]:=by
  cases l with
  | nil=>exact absurd rfl h
  | cons y l =>
    unfold jn;rw [List.map_cons,Lib.join_cons];intro e;exact itoa_ne y (List.append_eq_nil_iff.1 e).1
def lineS (l:List Int):ByteArray:=if l=[] then bs [45] else bs (jn l)
end Go.M
namespace Go.Proofs.YthadkoinmohmlaaGreatDoor
open Go Go.RowKit Go.Vc Go.M Go.Shelf Go.Proofs
theorem join_own {w:World} {b n c t:Nat} {xs:List ByteArray} {sep:ByteArray} (O:Own eS w (some ⟨b,0,none⟩) n t xs) (hnc:n≤c) (hN:n≤140737488355328) (hl:(Lib.join (xs.map (·.data.toList)) sep.data.toList).length≤140737488355328) :
    Does Tryz.prog 131 [.slice (some ⟨b,0,none⟩) n c,.string sep] w (fun v w'=>v = .string (bs (Lib.join (xs.map (·.data.toList)) sep.data.toList))∧Ext w w'):=by
  obtain ⟨h1,h2,h3⟩:=O;rcases h3 with ⟨h,_⟩ | ⟨b',rest,h,hb⟩
  · cases h
  · cases h
    exact lib_Join (Cells.append.1 hb.cells).1 hb.lt h1 hnc hN hl
theorem impl_SumLine {w:World} {a:Option Addr} {n c:Nat} {xs:List Int} (h:Arr eI 1 w a n xs) (hok:∀ x∈xs,i64ok x) (hsm:n≤1000) (hT:Pow w) :
    Does Tryz.prog 79 [.slice a n c] w (fun v w'=>v = .string (lineS xs)∧Ext w w'):=by
  have hn:=h.len;unfold lineS;by_cases hz:xs=[]
  · rw [if_pos hz];have hn0:n=0:=by rw [← hn,hz];rfl
    refine oV Tryz.func79 ?_;refine IfB.yes (by omega) ?_;exact ⟨rfl,Ext.refl _⟩
  · rw [if_neg hz];have hn0:n≠0:=fun e=>hz (List.eq_nil_of_length_eq_zero (by omega));refine oV Tryz.func79 ?_;refine IfB.no (by omega) ?_;refine bS mk_24 (vs:=[]) ?_;intro b1 w1 g1 l1 e1 B1;have G1:=Grow.new0 (enc:=eS) eS_len B1 g1;refine lR [3,10,11,12] (fun (k:Nat) vs w'=>∃ a3 n3 c3,vs=[.slice a3 n3 c3,.slice a n c,.int .i64 n,.int .i64 k]∧k≤n∧Grow eS 1 w.heap.size 9 w' a3 n3 c3 ((xs.take k).map decB)∧Ext w w') (fun k=>n - k) 0 ⟨_,_,_,rfl,by omega,G1,e1⟩ ?_;rintro k g _ w' ⟨a3,n3,c3,rfl,hk,G,hE⟩;have hn3:=G.len;have hg3:=G.le.1;rw [List.length_map,List.length_take] at hn3;by_cases hkn:k<n
    · obtain ⟨x,hx⟩:∃ x,xs[k]? = some x:=get_of_lt (by omega);have hxo:=hok x (List.mem_of_getElem? hx);have hmt:=map_take_succ (f:=decB) hx;refine IfB.yes (by omega) ?_;refine jI (h.ext hE) k rfl hx ?_;intro b5 o5 _ hb5;refine jO hb5 rfl ?_;refine (impl_Decimal hxo (hT.ext hE)).mono ?_;rintro _ w7 ⟨rfl,e6⟩;refine bS mk_24 (vs:=[Value.string (decB x)]) ?_;intro b8 w8 g8 l8 e8 B8;have G8:=Grow.of_blk (n:=1) (enc:=eS) (xs:=[decB x]) eS_len B8 g8 rfl (by decide);refine SemK.appendArr0 (enc:=eS) mk_24 eS_len (G.ext (xt e6 e8)) (G8.own.arr eS_len) (by intro y _;simp [eS,cellish]) (by omega) (by omega) (Below.size (xt (xt hE e6) e8)) ?_;intro a9 c9 w9 G9 m9 i9;refine SemK.add (((k+1:Nat):Int)) (by omega) (by omega) (by omega) ?_;refine ⟨k+1,by omega,_,_,_,rfl,by omega,?_,(xm (xt (xt hE e6) e8) m9 (blkIn_new G.new))⟩
      · rw [hmt];exact G9
    · have hke:k=n:=by omega
      subst hke;rw [List.take_of_length_le (by omega)] at G;obtain ⟨b3,rfl⟩:=G.own.some (by omega);have hjl:=jn_len hok xs.length;rw [List.take_length] at hjl;have hje:Lib.join ((xs.map decB).map (·.data.toList)) [32]=jn xs:=by
        unfold jn;rw [List.map_map];rfl
      have hJ:Does Tryz.prog 131 [.slice (some ⟨b3,0,none⟩) n3 c3,.string { data := #[32] }] w' (fun v w''=>v = .string (bs (jn xs))∧Ext w' w''):=by
        have:=join_own (sep:={ data := #[32] }) G.own hg3 (by omega) (by rw [show (ByteArray.mk #[32]).data.toList=[32] from rfl,hje];omega);rw [show (ByteArray.mk #[32]).data.toList=[32] from rfl,hje] at this;exact this
      refine IfB.no (by omega) ?_;refine (hJ).mono ?_;rintro _ w5 ⟨rfl,e4⟩;exact ⟨rfl,(xt hE e4)⟩
end Go.Proofs.YthadkoinmohmlaaGreatDoor
