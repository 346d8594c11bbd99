/- What the journal's functions compute: plain lists. No conditions. -/
import Derived.Test.YthadkoinmohmlaaGreatDoorStab
import Derived.Test.YthadkoinmohmlaaGreatDoorDraw
import Derived.Test.YthadkoinmohmlaaGreatDoorBasics
import Derived.Test.YthadkoinmohmlaaGreatDoorVcApp
import Derived.Test.YthadkoinmohmlaaGreatDoorVcWrite
namespace Go.M
open Go Go.Vc
def spB:ByteArray:=bs [32]
def nlB:ByteArray:=bs [10]
def wordsB (n:TNote):ByteArray:=decB n.tray++spB++decB n.count++spB++decB n.sum++spB++n.what
def chain1 (s:Int) (c:UInt8):Int:=(37 * s+c.toNat) % 65521
def chainL (before:Int) (l:List UInt8):Int:=l.foldl chain1 ((before+17) % 65521)
def chainM (before:Int) (n:TNote):Int:=chainL before (wordsB n).data.toList
def lineB (chain:Int) (n:TNote):ByteArray:=decB chain++spB++wordsB n++nlB
theorem chain_b (l:List UInt8):∀ s:Int,0≤s→s≤65520→0≤l.foldl chain1 s∧l.foldl chain1 s≤65520:=by
  induction l with
  | nil=>intro s h1 h2;exact ⟨h1,h2⟩
  | cons c l ih =>
    intro s h1 h2;exact ih _ (by unfold chain1;omega) (by unfold chain1;omega)
theorem chainL_b (before:Int) (h:0≤before) (l:List UInt8):0≤chainL before l∧chainL before l≤65520:=chain_b l _ (by omega) (by omega)
theorem chainM_b (before:Int) (h:0≤before) (n:TNote):0≤chainM before n∧chainM before n≤65520:=chainL_b before h _
theorem chain_take {l:List UInt8} {k:Nat} {c:UInt8} (h:l[k]? = some c) (s:Int):(l.take (k+1)).foldl chain1 s=chain1 ((l.take k).foldl chain1 s) c:=by
  rw [List.take_add_one,h];simp
def noteRead (line:ByteArray) (before:Int):Option (TNote×Int) :=
  match splitS 32 line with
  | [_,w1,w2,w3,w4] =>
    if (numB w1 && numB w2 && numB w3 && noteB ⟨numI w1,numI w2,numI w3,w4⟩)=true∧lineB (chainM before ⟨numI w1,numI w2,numI w3,w4⟩) ⟨numI w1,numI w2,numI w3,w4⟩=line++nlB then
      some (⟨numI w1,numI w2,numI w3,w4⟩,chainM before ⟨numI w1,numI w2,numI w3,w4⟩)
    else none
  | _=>none
theorem noteRead_ok {line:ByteArray} {before:Int} {n:TNote} {c:Int} (h:noteRead line before=some (n,c)):noteB n=true∧c=chainM before n∧lineB c n=line++nlB:=by
  unfold noteRead at h;split at h
  · split at h
    · rename_i hc;simp only [Bool.and_eq_true] at hc;simp only [Option.some.injEq,Prod.mk.injEq] at h;obtain ⟨h1,h2⟩:=h;subst h1;subst h2;exact ⟨hc.1.2,rfl,hc.2⟩
    · cases h
  · cases h
def readF:Nat→List UInt8→Int→List TNote×Int×Nat
  | 0,_,ch=>([],ch,0)
  | f+1,l,ch =>
    if 10∈l then
      match noteRead (bs (l.takeWhile (·≠10))) ch with
      | none=>([],ch,0)
      | some (n,c) =>
        (n :: (readF f (l.drop ((l.takeWhile (·≠10)).length+1)) c).1,(readF f (l.drop ((l.takeWhile (·≠10)).length+1)) c).2.1,(l.takeWhile (·≠10)).length+1+(readF f (l.drop ((l.takeWhile (·≠10)).length+1)) c).2.2)
    else ([],ch,0)
def readJ (l:List UInt8) (ch:Int):List TNote×Int×Nat:=readF l.length l ch
theorem takeWhile_at {p r:List UInt8} (h:(10:UInt8)∉p):(p++10 :: r).takeWhile (·≠10)=p:=by
  induction p with
  | nil=>simp
  | cons b p ih =>
    have hb:b≠10:=fun e=>h (by simp [e]);rw [List.cons_append,List.takeWhile_cons,if_pos (by simpa using hb),ih (fun hh=>h (by simp [hh]))]
theorem readF_more:∀ (f g:Nat) (l:List UInt8) (ch:Int),l.length≤f→l.length≤g→readF f l ch=readF g l ch
  | 0,0,_,_,_,_=>rfl
  | 0,g+1,l,ch,h,_=>by
    have:l=[]:=List.eq_nil_of_length_eq_zero (by omega);subst this;simp [readF]
  | f+1,0,l,ch,_,h=>by
    have:l=[]:=List.eq_nil_of_length_eq_zero (by omega);subst this;simp [readF]
  | f+1,g+1,l,ch,h1,h2=>by
    simp only [readF];split
    · rename_i hm;have hl:0<l.length:=List.length_pos_iff.2 (fun e=>by rw [e] at hm;cases hm);split
      · rfl
      · rename_i n c hn;have e:readF f (l.drop ((l.takeWhile (·≠10)).length+1)) c=readF g (l.drop ((l.takeWhile (·≠10)).length+1)) c :=
          readF_more f g _ c (by simp;omega) (by simp;omega)
        rw [e]
    · rfl
theorem readJ_none {l:List UInt8} (h:(10:UInt8)∉l) (ch:Int):readJ l ch=([],ch,0):=by
  unfold readJ;cases l.length with
  | zero=>rfl
  | succ f=>simp only [readF,if_neg h]
theorem readJ_bad {p r:List UInt8} (h:(10:UInt8)∉p) {ch:Int} (hn:noteRead (bs p) ch=none):readJ (p++10 :: r) ch=([],ch,0):=by
  unfold readJ;rw [List.length_append,List.length_cons,← Nat.add_assoc];simp only [readF,takeWhile_at h,hn];rw [if_pos (by simp)]
theorem readJ_good {p r:List UInt8} (h:(10:UInt8)∉p) {ch c:Int} {n:TNote} (hn:noteRead (bs p) ch=some (n,c)) :
    readJ (p++10 :: r) ch=(n :: (readJ r c).1,(readJ r c).2.1,p.length+1+(readJ r c).2.2):=by
  unfold readJ;rw [List.length_append,List.length_cons,← Nat.add_assoc];have e:(p++10 :: r).drop (p.length+1)=r:=by simp
  simp only [readF,takeWhile_at h,hn,e];rw [if_pos (by simp),readF_more (p.length+r.length) r.length r c (by omega) (Nat.le_refl _)]
theorem readJ_ok:∀ (k:Nat) (l:List UInt8) (ch:Int),l.length≤k→0≤ch→ch≤65520→(∀ n∈(readJ l ch).1,noteB n=true)∧0≤(readJ l ch).2.1∧(readJ l ch).2.1≤65520∧(readJ l ch).2.2≤l.length∧(readJ l ch).1.length≤(readJ l ch).2.2
  | k,l,ch,hk,h0,h1=>by
    by_cases hm:(10:UInt8)∈l
    · obtain ⟨p,r,rfl,hp⟩:=byte_split hm;cases hn:noteRead (bs p) ch with
      | none=>rw [readJ_bad hp hn];exact ⟨by simp,h0,h1,by simp,by simp⟩
      | some x =>
        obtain ⟨n,c⟩:=x;rw [readJ_good hp hn];obtain ⟨g1,g2,_⟩:=noteRead_ok hn;subst g2;have hb:=chainM_b ch h0 n
        match k,hk with
        | 0,hk=>simp at hk
        | k+1,hk =>
          have ih:=readJ_ok k r _ (by simp at hk;omega) hb.1 hb.2;refine ⟨fun m hm=>?_,ih.2.1,ih.2.2.1,?_,?_⟩
          · rcases List.mem_cons.1 hm with rfl | hm
            · exact g1
            · exact ih.1 m hm
          · have:=ih.2.2.2.1;simp;omega
          · have:=ih.2.2.2.2;simp;omega
    · rw [readJ_none hm];exact ⟨by simp,h0,h1,by simp,by simp⟩
def journalCode (s:ByteArray):Int:=if 4000<s.size then 5 else if (readJ s.data.toList 0).2.2<s.size then 8 else 0
theorem name_size {s:ByteArray} (h:nameB s=true):s.size≤12:=by
  simp only [nameB,nameL,Bool.and_eq_true,decide_eq_true_eq] at h;have:=h.1.1.2;simpa using this
theorem noteB_what {x:TNote} (h:noteB x=true):x.what.size≤12:=by
  simp only [noteB,Bool.and_eq_true] at h;exact name_size h.2
theorem words_size {x:TNote} (hx:x.ok):(wordsB x).size≤66+x.what.size:=by
  obtain ⟨h1,h2,h3,_⟩:=hx;have l1:=decB_len h1.1 h1.2;have l2:=decB_len h2.1 h2.2;have l3:=decB_len h3.1 h3.2;have e:spB.size=1:=rfl;simp only [wordsB,ByteArray.size_append,e];omega
theorem line_size {c:Int} (h0:0≤c) (h1:c≤65520) {x:TNote} (hx:x.ok):(lineB c x).size≤89+x.what.size:=by
  have l1:=decB_len (n:=c) (by omega) (by omega);have l2:=words_size hx;have e:spB.size=1:=rfl;have e2:nlB.size=1:=rfl;simp only [lineB,ByteArray.size_append,e,e2];omega
theorem noteB_ok {x:TNote} (h:noteB x=true):x.ok:=by
  have hw:=noteB_what h;simp only [noteB,Bool.and_eq_true,inB,decide_eq_true_eq] at h;refine ⟨⟨by omega,by omega⟩,⟨by omega,by omega⟩,⟨by omega,by omega⟩,?_⟩;simp only [strok];omega
end Go.M
namespace Go.M
open Go Go.Vc
theorem numI_ok (s:ByteArray):i64ok (numI s):=by
  unfold numI;cases h:numM s with
  | none=>exact ⟨by decide,by decide⟩
  | some n =>
    obtain ⟨_,_,h1,h2⟩:=numM_some h;exact ⟨by simp;omega,by simp;omega⟩
theorem list5 {α:Type} {l:List α} (h:l.length=5):∃ a b c d e,l=[a,b,c,d,e]:=by
  match l,h with
  | [a,b,c,d,e],_=>exact ⟨a,b,c,d,e,rfl⟩
theorem noteRead_not {line:ByteArray} (h:(splitS 32 line).length≠5) (before:Int):noteRead line before=none:=by
  unfold noteRead;split
  · rename_i hh;rw [hh] at h;exact absurd rfl h
  · rfl
theorem noteRead_five {line a w1 w2 w3 w4:ByteArray} (h:splitS 32 line=[a,w1,w2,w3,w4]) (before:Int):noteRead line before =
    if (numB w1 && numB w2 && numB w3 && noteB ⟨numI w1,numI w2,numI w3,w4⟩)=true∧lineB (chainM before ⟨numI w1,numI w2,numI w3,w4⟩) ⟨numI w1,numI w2,numI w3,w4⟩=line++nlB then
      some (⟨numI w1,numI w2,numI w3,w4⟩,chainM before ⟨numI w1,numI w2,numI w3,w4⟩)
    else none:=by
  unfold noteRead;rw [h]
theorem line_of {l:List UInt8} {at_:Nat} {p r:List UInt8} (h:l.drop at_=p++10 :: r):l.drop (at_+(p.length+1))=r:=by
  rw [← List.drop_drop,h];simp
def notesOfM (s:ByteArray):List TNote×Int×Int:=if journalCode s=0 then ((readJ s.data.toList 0).1,(readJ s.data.toList 0).2.1,0) else ([],0,journalCode s)
theorem journalCode_cases (s:ByteArray):(4000<s.size∧journalCode s=5)∨(s.size≤4000∧(readJ s.data.toList 0).2.2<s.size∧journalCode s=8)∨(s.size≤4000∧¬ (readJ s.data.toList 0).2.2<s.size∧journalCode s=0):=by
  unfold journalCode;by_cases h1:4000<s.size
  · exact .inl ⟨h1,if_pos h1⟩
  · rw [if_neg h1];by_cases h2:(readJ s.data.toList 0).2.2<s.size
    · exact .inr (.inl ⟨by omega,h2,if_pos h2⟩)
    · exact .inr (.inr ⟨by omega,h2,if_neg h2⟩)
def addNoteM (s:ByteArray) (x:TNote):ByteArray×Int :=
  if journalCode s=0 then
    if noteB x=false then ({ data := #[] },7)
    else if 4000<s.size+(lineB (chainM (readJ s.data.toList 0).2.1 x) x).size then ({ data := #[] },5) else (s++lineB (chainM (readJ s.data.toList 0).2.1 x) x,0)
  else ({ data := #[] },journalCode s)
def aboutL (l:List TNote) (t:Int):List TNote:=l.filter fun x=>decide (x.tray=t)
def aboutM (s:ByteArray) (t:Int):List TNote×Int :=
  if journalCode s=0 then if inB t 0 5=true then (aboutL (readJ s.data.toList 0).1 t,0) else ([],2) else ([],journalCode s)
def lastM (s:ByteArray) (t:Int):TNote×Int :=
  if (aboutM s t).2=0 then match (aboutM s t).1.getLast? with | none=>(⟨0,0,0,{ data := #[] }⟩,3) | some x=>(x,0) else (⟨0,0,0,{ data := #[] }⟩,(aboutM s t).2)
def lastCount (l:List TNote):Int:=match l.getLast? with | none=>0 | some x=>x.count
def sumTo (l:List TNote):Nat→Int
  | 0=>0
  | k+1=>sumTo l k+lastCount (aboutL l k)
def cardsM (s:ByteArray):Int×Int:=if journalCode s=0 then (sumTo (readJ s.data.toList 0).1 6,0) else (0,journalCode s)
theorem aboutL_take {l:List TNote} {k:Nat} {x:TNote} (h:l[k]? = some x) (t:Int):aboutL (l.take (k+1)) t=if x.tray=t then aboutL (l.take k) t++[x] else aboutL (l.take k) t:=by
  unfold aboutL;rw [List.take_add_one,h];simp only [Option.toList_some,List.filter_append,List.filter_cons,List.filter_nil];by_cases hx:x.tray=t
  · simp [hx]
  · simp [hx]
theorem aboutL_mem {l:List TNote} {t:Int} {x:TNote} (h:x∈aboutL l t):x∈l:=(List.mem_filter.1 h).1
theorem aboutL_len (l:List TNote) (t:Int):(aboutL l t).length≤l.length:=List.length_filter_le _ _
theorem lastCount_b {l:List TNote} (h:∀ x∈l,noteB x=true):0≤lastCount l∧lastCount l≤100000:=by
  unfold lastCount;cases hl:l.getLast? with
  | none=>exact ⟨by decide,by decide⟩
  | some x =>
    have:=h x (List.mem_of_getLast? hl);simp only [noteB,Bool.and_eq_true,inB,decide_eq_true_eq] at this;exact ⟨by show 0≤x.count;omega,by show x.count≤100000;omega⟩
theorem sumTo_b {l:List TNote} (h:∀ x∈l,noteB x=true):∀ k,0≤sumTo l k∧sumTo l k≤k * 100000
  | 0=>⟨by simp [sumTo],by simp [sumTo]⟩
  | k+1=>by
    have h1:=sumTo_b h k;have h2:=lastCount_b (l:=aboutL l k) (fun x hx=>h x (aboutL_mem hx));simp only [sumTo];omega
theorem getLast_at {α:Type} {l:List α} {n:Nat} (h:l.length=n+1):l.getLast? = l[n]? := by
  rw [List.getLast?_eq_getElem?];congr 1;omega
theorem notesOfM_len (s:ByteArray):(notesOfM s).1.length≤4000:=by
  have h:=readJ_ok _ s.data.toList 0 (Nat.le_refl _) (by omega) (by omega);have hsz:s.data.toList.length=s.size:=by simp
  unfold notesOfM;rcases journalCode_cases s with ⟨h1,h2⟩ | ⟨h1,h2,h3⟩ | ⟨h1,h2,h3⟩
  · rw [h2];simp
  · rw [h3];simp
  · rw [h3,if_pos rfl];show (readJ s.data.toList 0).1.length≤4000;omega
end Go.M
namespace Go.M
open Go Go.Vc
end Go.M
namespace Go.M
open Go Go.Vc
structure TTotal where
  name:ByteArray
  sum:Int
theorem TTotal.ext_iff2 {a b:TTotal}:a=b↔a.name=b.name∧a.sum=b.sum:=by
  constructor
  · intro h;subst h;simp
  · intro h;cases a;cases b;simp at h;simp [h]
instance:DecidableEq TTotal:=fun a b=>decidable_of_iff (a.name=b.name∧a.sum=b.sum) TTotal.ext_iff2.symm
instance:Inhabited TTotal:=⟨⟨.empty,0⟩⟩
def TTotal.enc (x:TTotal):List Value:=[.string x.name,.int .i64 x.sum]
theorem TTotal.enc_len (x:TTotal):x.enc.length=2:=rfl
end Go.M
namespace Go.Proofs.YthadkoinmohmlaaGreatDoor
open Go Go.RowKit Go.Vc Go.M
end Go.Proofs.YthadkoinmohmlaaGreatDoor
namespace Go.M
open Go Go.Vc
end Go.M
namespace Go.Proofs.YthadkoinmohmlaaGreatDoor
open Go Go.RowKit Go.Vc Go.M
end Go.Proofs.YthadkoinmohmlaaGreatDoor
namespace Go.M
open Go Go.Vc
instance:EncL eI 1:=⟨eI_len⟩
instance:EncL eS 1:=⟨eS_len⟩
instance:EncL TTotal.enc 2:=⟨TTotal.enc_len⟩
abbrev RCard:Rd (List Int):=RA eI 1
abbrev RDeck:Rd (List (List Int)):=RS RCard
abbrev RTots:Rd (List TTotal):=RA TTotal.enc 2
abbrev OCard:Ow (List Int):=OA eI
abbrev ODeck:Ow (List (List Int)):=OS OCard
abbrev OTots:Ow (List TTotal):=OA TTotal.enc
end Go.M
namespace Go.Proofs.YthadkoinmohmlaaGreatDoor
open Go Go.RowKit Go.Vc Go.M
end Go.Proofs.YthadkoinmohmlaaGreatDoor
namespace Go.Proofs.YthadkoinmohmlaaGreatDoor
open Go Go.RowKit Go.Vc Go.M
theorem impl_ValidCard1 (x:Int) (w:World):Does Tryz.prog 173 [.int .i64 x] w (fun v w'=>v = .bool (!inB x 0 4095)∧Ext w w'):=by
  refine oV Tryz.func173 ?_;refine (impl_inside _ _ _ _).mono ?_;rintro _ _ ⟨rfl,rfl⟩;exact ⟨rfl,Ext.refl _⟩
theorem impl_sizeInt (a:Option Addr) (n c:Nat) (w:World):Does Tryz.prog 174 [.slice a n c] w (fun v w'=>v = .int .i64 n∧w=w'):=by
  refine oV Tryz.func174 ?_;exact ⟨rfl,rfl⟩
theorem impl_columns {w:World} (d:Hd):Does Tryz.prog 107 [.agg ⟨eH d⟩] w (fun v w'=>v = .int .i64 d.n∧Ext w w'):=by
  refine oV Tryz.func107 ?_;refine SemK.box ?_;intro b1 w1 g1 l1 e1 B1;refine jL B1.cells (k:=0) rfl ?_;refine (impl_sizeInt _ _ _ _).mono ?_;rintro _ _ ⟨rfl,rfl⟩;exact ⟨rfl,e1⟩
theorem impl_ValidCard {w:World} {d:Hd} {xs:List Int} (A:Arr eI 1 w d.a d.n xs):Does Tryz.prog 106 [.agg ⟨eH d⟩] w (fun v w'=>v = .bool (cardB xs)∧Ext w w'):=by
  have hn:=A.len;have hC:∀ u,Ext w u→∀ c,Does Tryz.prog 62 [.slice d.a d.n c,.func (.func 173) ⟨[]⟩ ⟨[]⟩] u (fun v w'=>v = .bool (xs.any (fun n=>!inB n 0 4095))∧Ext u w'):=fun u e c=>lib_ContainsFuncInt (A.ext e) (p:=fun n=>!inB n 0 4095) (cap:=[]) (fun x _ w' _=>impl_ValidCard1 x w');have hany:xs.any (fun n=>!inB n 0 4095) = !(xs.all fun m=>inB m 0 4095):=by rw [List.not_all_eq_any_not]
  unfold cardB;by_cases h1:1≤xs.length∧xs.length≤20
  · have hin:inB (d.n:Int) 1 20=true:=by simp [inB];omega
    refine oV Tryz.func106 ?_;refine SemK.box ?_;intro b2 w2 g2 l2 e2 B2;refine jA (n:=1) B2.cells rfl ?_;refine (impl_columns _).mono ?_;rintro _ w4 ⟨rfl,e3⟩;refine (impl_inside _ _ _ _).mono ?_;rintro _ _ ⟨rfl,rfl⟩;refine IfB.eqt (by simp [*];done) ?_;refine jL (B2.ext e3).cells (k:=0) rfl ?_;refine (hC _ (xt e2 e3) _).mono ?_;rintro _ w7 ⟨rfl,e6⟩;exact ⟨by simp_all,(xt (xt e2 e3) e6)⟩
  · have hin:inB (d.n:Int) 1 20=false:=by
      cases hc:inB (d.n:Int) 1 20 with
      | false=>rfl
      | true=>have:=inB_true hc;omega
    have hfa:(decide (1≤xs.length) && decide (xs.length≤20))=false:=by
      rw [Bool.and_eq_false_iff,decide_eq_false_iff_not,decide_eq_false_iff_not];omega
    refine oV Tryz.func106 ?_;refine SemK.box ?_;intro b2 w2 g2 l2 e2 B2;refine jA (n:=1) B2.cells rfl ?_;refine (impl_columns _).mono ?_;rintro _ w4 ⟨rfl,e3⟩;refine (impl_inside _ _ _ _).mono ?_;rintro _ _ ⟨rfl,rfl⟩;refine IfB.eqf (by simp [*];done) ?_;refine ⟨?_,(xt e2 e3)⟩
    · rw [hfa,Bool.false_and]
theorem impl_ValidDeck {w:World} {a:Option Addr} {n c:Nat} {xs:List (List Int)} (h:ArrS RCard w a n xs):Does Tryz.prog 54 [.slice a n c] w (fun v w'=>v = .bool (deckB xs)∧Ext w w'):=by
  have hn:=h.len;have hm:=h.le;obtain ⟨hs,hV,hE⟩:=h;have hl:=hV.len;refine oV Tryz.func54 ?_;refine lR [0,5,6,7] (fun (k:Nat) vs w'=>vs=[.slice a n c,.slice a n c,.int .i64 n,.int .i64 k]∧k≤n∧(List.range k).all (cardAt xs)=true∧Ext w w') (fun k=>n - k) 0 ⟨rfl,by omega,by simp,Ext.refl _⟩ ?_;rintro k g _ w3 ⟨rfl,hk,hall,hX⟩;rcases Nat.lt_or_ge k n with hkn | hkn
  · obtain ⟨d,hd⟩:=get_of_lt (l:=hs) (k:=k) (by omega);obtain ⟨y,hy,R⟩:=hE.get hd;obtain ⟨d0,hd0⟩:=get_of_lt (l:=hs) (k:=0) (by omega);obtain ⟨y0,hy0,R0⟩:=hE.get hd0;have A:=R.1;have hyl:=A.len;have hyl0:=R0.1.len;have hca:=cardAt_first hy hy0;cases hz1:cardB y
    · have hdf:deckB xs=false:=deckB_false (k:=k) (by omega) (by simp [hca,hz1]);refine IfB.yes (by omega) ?_;refine jI (hV.ext hX) k rfl hd ?_;intro b5 o5 ha5 hb5;refine jA (n:=1) hb5 rfl ?_;refine jN (z := .agg #[.slice none 0 0]) ?_;intro b6 w6 g6 l6 e6 B6;refine jS (vs:=[Value.slice d.a d.n d.c]) B6 rfl rfl (by simp [cellish]) ?_;intro w7 c7 B7;refine dH [(0,true),(1,true),(2,true),(3,true),(4,false),(6,false),(7,false),(8,false),(5,true),(9,true),(10,true),(11,true)] ?_;intro w8 e8;refine jA (n:=1) (B7.ext e8).cells rfl ?_;refine ⟨e8,?_⟩;refine (impl_ValidCard (A.ext (xt (xb (xt hX e6) c7.but (Nat.le_trans (Below.size hX) g6)) e8))).mono ?_;rintro _ w10 ⟨rfl,e9⟩;refine ⟨(xt e8 e9),?_⟩;refine IfB.eqt (by simp [*];done) ?_;exact ⟨by simp only [*],(xt (xt (xb (xt hX e6) c7.but (Nat.le_trans (Below.size hX) g6)) e8) e9)⟩
    · by_cases hz2:d.n=d0.n
      · have hst:(List.range (k+1)).all (cardAt xs)=true:=by
          rw [List.range_succ,List.all_append,hall];simp [hca,hz1];omega
        refine IfB.yes (by omega) ?_;refine jI (hV.ext hX) k rfl hd ?_;intro b5 o5 ha5 hb5;refine jA (n:=1) hb5 rfl ?_;refine jN (z := .agg #[.slice none 0 0]) ?_;intro b6 w6 g6 l6 e6 B6;refine jS (vs:=[Value.slice d.a d.n d.c]) B6 rfl rfl (by simp [cellish]) ?_;intro w7 c7 B7;refine dH [(0,true),(1,true),(2,true),(3,true),(4,false),(6,false),(7,false),(8,false),(5,true),(9,true),(10,true),(11,true)] ?_;intro w8 e8;refine jA (n:=1) (B7.ext e8).cells rfl ?_;refine ⟨e8,?_⟩;refine (impl_ValidCard (A.ext (xt (xb (xt hX e6) c7.but (Nat.le_trans (Below.size hX) g6)) e8))).mono ?_;rintro _ w10 ⟨rfl,e9⟩;refine ⟨(xt e8 e9),?_⟩;refine IfB.eqf (by simp [*];done) ?_;refine dA (n:=1) B7.cells rfl ?_;refine dI (hV.ext (xb (xt hX e6) c7.but (Nat.le_trans (Below.size hX) g6))) 0 rfl hd0 ?_;intro b12 o12 ha12 hb12;refine dA (n:=1) hb12 rfl ?_;refine (impl_columns _).mono ?_;rintro _ w14 ⟨rfl,e13⟩;refine ⟨(xt (xt e8 e9) e13),?_⟩;refine (impl_columns _).mono ?_;rintro _ w16 ⟨rfl,e15⟩;refine ⟨(xt (xt (xt e8 e9) e13) e15),?_⟩;refine IfB.eqf (by simp [*];done) ?_;refine SemK.add (((k+1:Nat):Int)) (by omega) (by omega) (by omega) ?_;exact ⟨k+1,by omega,rfl,by omega,by omega,(xt (xt (xt (xt (xb (xt hX e6) c7.but (Nat.le_trans (Below.size hX) g6)) e8) e9) e13) e15)⟩
      · have hdf:deckB xs=false:=deckB_false (k:=k) (by omega) (by simp [hca,hz1];omega);refine IfB.yes (by omega) ?_;refine jI (hV.ext hX) k rfl hd ?_;intro b5 o5 ha5 hb5;refine jA (n:=1) hb5 rfl ?_;refine jN (z := .agg #[.slice none 0 0]) ?_;intro b6 w6 g6 l6 e6 B6;refine jS (vs:=[Value.slice d.a d.n d.c]) B6 rfl rfl (by simp [cellish]) ?_;intro w7 c7 B7;refine dH [(0,true),(1,true),(2,true),(3,true),(4,false),(6,false),(7,false),(8,false),(5,true),(9,true),(10,true),(11,true)] ?_;intro w8 e8;refine jA (n:=1) (B7.ext e8).cells rfl ?_;refine ⟨e8,?_⟩;refine (impl_ValidCard (A.ext (xt (xb (xt hX e6) c7.but (Nat.le_trans (Below.size hX) g6)) e8))).mono ?_;rintro _ w10 ⟨rfl,e9⟩;refine ⟨(xt e8 e9),?_⟩;refine IfB.eqf (by simp [*];done) ?_;refine dA (n:=1) B7.cells rfl ?_;refine dI (hV.ext (xb (xt hX e6) c7.but (Nat.le_trans (Below.size hX) g6))) 0 rfl hd0 ?_;intro b12 o12 ha12 hb12;refine dA (n:=1) hb12 rfl ?_;refine (impl_columns _).mono ?_;rintro _ w14 ⟨rfl,e13⟩;refine ⟨(xt (xt e8 e9) e13),?_⟩;refine (impl_columns _).mono ?_;rintro _ w16 ⟨rfl,e15⟩;refine ⟨(xt (xt (xt e8 e9) e13) e15),?_⟩;(conv=>whnf);with_reducible refine IfB.ndec (fun h17=>?_) (fun h17=>?_)
        · exact ⟨by simp only [*],(xt (xt (xt (xt (xb (xt hX e6) c7.but (Nat.le_trans (Below.size hX) g6)) e8) e9) e13) e15)⟩
        · refine SemK.add (((k+1:Nat):Int)) (by omega) (by omega) (by omega) ?_;exact ⟨k+1,by omega,rfl,by omega,by omega,(xt (xt (xt (xt (xb (xt hX e6) c7.but (Nat.le_trans (Below.size hX) g6)) e8) e9) e13) e15)⟩
  · have hke:k=n:=by omega
    have hdl:deckB xs=decide ((n:Int)≤40):=by
      rw [deckB_all (d:=xs) (by rw [show xs.length=k by omega];exact hall)];exact decide_eq_decide.2 (by omega)
    refine IfB.no (by omega) ?_;exact ⟨by simp only [*],hX⟩
theorem spec_l02Ok {w:World} {b o:Nat} {d:Hd} {xs:List Int} (A:Arr eI 1 w d.a d.n xs) (hc:Cells w b o (eH d)):Does Tryz.prog 212 [.pointer (some ⟨b,o,none⟩)] w (fun v w'=>v = .bool (cardB xs)∧Ext w w'):=by
  have hn:=A.len;have hm:=A.le;refine oV Tryz.func212 ?_;refine lR [0,3] (fun (k:Nat) vs w'=>vs=[.pointer (some ⟨b,o,none⟩),.int .i64 k]∧k≤d.n∧((xs.take k).all fun m=>inB m 0 4095)=true∧Ext w w') (fun k=>d.n - k) 0 ⟨rfl,by omega,by simp,Ext.refl _⟩ ?_;rintro k g _ w3 ⟨rfl,hk,hall,hX⟩;rcases Nat.lt_or_ge k d.n with hkn | hkn
  · obtain ⟨x,hx⟩:=get_of_lt (l:=xs) (k:=k) (by omega);cases hz1:inB x 0 4095
    · have hbad:=cardB_bad hx hz1;refine jL (hc.ext hX) (k:=0) rfl ?_;refine IfB.yes (by omega) ?_;refine jL (hc.ext hX) (k:=0) rfl ?_;refine jI (A.ext hX) k rfl hx ?_;intro b5 o5 ha5 hb5;refine jO hb5 rfl ?_;refine (spec_in _ _ _ _).mono ?_;rintro _ _ ⟨rfl,rfl⟩;refine IfB.eqt (by simp [*];done) ?_;exact ⟨by simp only [*],hX⟩
    · have hst:=all_step (p:=fun m=>inB m 0 4095) hx hall hz1;refine jL (hc.ext hX) (k:=0) rfl ?_;refine IfB.yes (by omega) ?_;refine jL (hc.ext hX) (k:=0) rfl ?_;refine jI (A.ext hX) k rfl hx ?_;intro b5 o5 ha5 hb5;refine jO hb5 rfl ?_;refine (spec_in _ _ _ _).mono ?_;rintro _ _ ⟨rfl,rfl⟩;refine IfB.eqf (by simp [*];done) ?_;refine SemK.add (((k+1:Nat):Int)) (by omega) (by omega) (by omega) ?_;exact ⟨k+1,by omega,rfl,by omega,by omega,hX⟩
  · have hcl:=cardB_all (c:=xs) (by rw [List.take_of_length_le (by omega)] at hall;exact hall);rw [hn] at hcl;refine jL (hc.ext hX) (k:=0) rfl ?_;refine IfB.no (by omega) ?_;refine jL (hc.ext hX) (k:=0) rfl ?_;refine (spec_in _ _ _ _).mono ?_;rintro _ _ ⟨rfl,rfl⟩;exact ⟨by simp only [*],hX⟩
theorem spec_l02Deck {w:World} {a:Option Addr} {n c:Nat} {xs:List (List Int)} (h:ArrS RCard w a n xs):Does Tryz.prog 141 [.slice a n c] w (fun v w'=>v = .bool (deckB xs)∧Ext w w'):=by
  have hn:=h.len;have hm:=h.le;obtain ⟨hs,hV,hE⟩:=h;have hl:=hV.len;refine oV Tryz.func141 ?_;refine lR [0,3] (fun (k:Nat) vs w'=>vs=[.slice a n c,.int .i64 k]∧k≤n∧(List.range k).all (cardAt xs)=true∧Ext w w') (fun k=>n - k) 0 ⟨rfl,by omega,by simp,Ext.refl _⟩ ?_;rintro k g _ w3 ⟨rfl,hk,hall,hX⟩;rcases Nat.lt_or_ge k n with hkn | hkn
  · obtain ⟨d,hd⟩:=get_of_lt (l:=hs) (k:=k) (by omega);obtain ⟨y,hy,R⟩:=hE.get hd;obtain ⟨d0,hd0⟩:=get_of_lt (l:=hs) (k:=0) (by omega);obtain ⟨y0,hy0,R0⟩:=hE.get hd0;have A:=R.1;have hyl:=A.len;have hyl0:=R0.1.len;have hca:=cardAt_first hy hy0;cases hz1:cardB y
    · have hdf:deckB xs=false:=deckB_false (k:=k) (by omega) (by simp [hca,hz1]);refine IfB.yes (by omega) ?_;refine dH [(0,false),(1,true),(2,true),(3,true),(4,true),(5,true),(6,false),(7,false),(8,false),(9,false),(10,false),(11,false),(12,true),(13,true),(14,true),(15,true),(16,true),(17,true),(18,true)] ?_;intro w4 e4;refine jI (hV.ext (xt hX e4)) k rfl hd ?_;intro b6 o6 ha6 hb6;refine ⟨e4,?_⟩;refine (spec_l02Ok (A.ext (xt hX e4)) hb6).mono ?_;rintro _ w8 ⟨rfl,e7⟩;refine ⟨(xt e4 e7),?_⟩;refine IfB.eqt (by simp [*];done) ?_;exact ⟨by simp only [*],(xt (xt hX e4) e7)⟩
    · by_cases hz2:d.n=d0.n
      · have hst:(List.range (k+1)).all (cardAt xs)=true:=by
          rw [List.range_succ,List.all_append,hall];simp [hca,hz1];omega
        refine IfB.yes (by omega) ?_;refine dH [(0,false),(1,true),(2,true),(3,true),(4,true),(5,true),(6,false),(7,false),(8,false),(9,false),(10,false),(11,false),(12,true),(13,true),(14,true),(15,true),(16,true),(17,true),(18,true)] ?_;intro w4 e4;refine jI (hV.ext (xt hX e4)) k rfl hd ?_;intro b6 o6 ha6 hb6;refine ⟨e4,?_⟩;refine (spec_l02Ok (A.ext (xt hX e4)) hb6).mono ?_;rintro _ w8 ⟨rfl,e7⟩;refine ⟨(xt e4 e7),?_⟩;refine IfB.eqf (by simp [*];done) ?_;refine dI (hV.ext hX) k rfl hd ?_;intro b10 o10 ha10 hb10;refine dL hb10 (k:=0) rfl ?_;refine jI (hV.ext (xt (xt hX e4) e7)) 0 rfl hd0 ?_;intro b12 o12 ha12 hb12;refine ⟨(xt e4 e7),?_⟩;refine jL hb12 (k:=0) rfl ?_;refine ⟨(xt e4 e7),?_⟩;refine ⟨(xt e4 e7),?_⟩;refine IfB.eqf (by simp [*];done) ?_;refine SemK.add (((k+1:Nat):Int)) (by omega) (by omega) (by omega) ?_;exact ⟨k+1,by omega,rfl,by omega,by omega,(xt (xt hX e4) e7)⟩
      · have hdf:deckB xs=false:=deckB_false (k:=k) (by omega) (by simp [hca,hz1];omega);refine IfB.yes (by omega) ?_;refine dH [(0,false),(1,true),(2,true),(3,true),(4,true),(5,true),(6,false),(7,false),(8,false),(9,false),(10,false),(11,false),(12,true),(13,true),(14,true),(15,true),(16,true),(17,true),(18,true)] ?_;intro w4 e4;refine jI (hV.ext (xt hX e4)) k rfl hd ?_;intro b6 o6 ha6 hb6;refine ⟨e4,?_⟩;refine (spec_l02Ok (A.ext (xt hX e4)) hb6).mono ?_;rintro _ w8 ⟨rfl,e7⟩;refine ⟨(xt e4 e7),?_⟩;refine IfB.eqf (by simp [*];done) ?_;refine dI (hV.ext hX) k rfl hd ?_;intro b10 o10 ha10 hb10;refine dL hb10 (k:=0) rfl ?_;refine jI (hV.ext (xt (xt hX e4) e7)) 0 rfl hd0 ?_;intro b12 o12 ha12 hb12;refine ⟨(xt e4 e7),?_⟩;refine jL hb12 (k:=0) rfl ?_;refine ⟨(xt e4 e7),?_⟩;refine ⟨(xt e4 e7),?_⟩;(conv=>whnf);with_reducible refine IfB.ndec (fun h13=>?_) (fun h13=>?_)
        · exact ⟨by simp only [*],(xt (xt hX e4) e7)⟩
        · refine SemK.add (((k+1:Nat):Int)) (by omega) (by omega) (by omega) ?_;exact ⟨k+1,by omega,rfl,by omega,by omega,(xt (xt hX e4) e7)⟩
  · have hke:k=n:=by omega
    have hdl:deckB xs=decide ((n:Int)≤40):=by
      rw [deckB_all (d:=xs) (by rw [show xs.length=k by omega];exact hall)];exact decide_eq_decide.2 (by omega)
    refine IfB.no (by omega) ?_;exact ⟨by simp only [*],hX⟩
theorem impl_isField (f:TField) (n:Int) (w:World):Does Tryz.prog 192 [.agg ⟨f.enc⟩,.int .i64 n] w (fun v w'=>v = .bool (fieldB f n)∧Ext w w'):=by
  unfold fieldB;refine oV Tryz.func192 ?_;refine SemK.box ?_;intro b1 w1 g1 l1 e1 B1;refine jL B1.cells (k:=0) rfl ?_;(conv=>whnf);with_reducible refine IfB.dec (fun h2=>?_) (fun h2=>?_)
  · refine jL B1.cells (k:=0) rfl ?_;refine jL B1.cells (k:=1) rfl ?_;(conv=>whnf);with_reducible refine IfB.dec (fun h3=>?_) (fun h3=>?_)
    · refine jL B1.cells (k:=1) rfl ?_;exact ⟨by simp [*],e1⟩
    · exact ⟨by simp [*],e1⟩
  · exact ⟨by simp [*],e1⟩
theorem impl_isNumberField {f:TField} (hf:f.ok) {n:Int} (h0:0≤n) (hn:n≤1000) (w:World):Does Tryz.prog 274 [.agg ⟨f.enc⟩,.int .i64 n] w (fun v w'=>v = .bool (numFieldB f n)∧Ext w w'):=by
  unfold numFieldB;cases hz1:fieldB f n
  · refine oV Tryz.func274 ?_;conv=>whnf
    refine SemK.box ?_;intro b2 w2 g2 l2 e2 B2;refine jA (n:=2) B2.cells rfl ?_;refine (impl_isField _ _ _).mono ?_;rintro _ w4 ⟨rfl,e3⟩;refine IfB.eqf (by simp [*];done) ?_;exact ⟨rfl,(xt e2 e3)⟩
  · have hb:=fieldB_b hz1;refine oV Tryz.func274 ?_;refine SemK.box ?_;intro b2 w2 g2 l2 e2 B2;refine jA (n:=2) B2.cells rfl ?_;refine (impl_isField _ _ _).mono ?_;rintro _ w4 ⟨rfl,e3⟩;refine IfB.eqt (by simp [*];done) ?_;refine jL (B2.ext e3).cells (k:=1) rfl ?_;refine jL (B2.ext e3).cells (k:=0) rfl ?_;refine SemK.sub _ rfl (by omega) (by omega) ?_;exact ⟨rfl,(xt e2 e3)⟩
theorem impl_deckColumns {w:World} {a:Option Addr} {n c:Nat} {xs:List (List Int)} (h:ArrS RCard w a n xs):Does Tryz.prog 193 [.slice a n c] w (fun v w'=>v = .int .i64 (widthOf xs)∧Ext w w'):=by
  have hn:=h.len;have hm:=h.le;obtain ⟨hs,hV,hE⟩:=h;have hl:=hV.len;cases xs with
  | nil =>
    refine oV Tryz.func193 ?_;conv=>whnf
    with_reducible refine IfB.dec (fun h1=>?_) (fun h1=>?_)
    · exact ⟨rfl,Ext.refl _⟩
    · obtain ⟨x2,hx2⟩:∃ x,hs[0]? = some x:=get_of_lt (by omega);obtain ⟨y2,hy2,R2⟩:=hE.get hx2;have A2:=R2.1;have n2:=R2.2;refine jI hV 0 rfl hx2 ?_;intro b3 o3 ha3 hb3;refine jA (n:=1) hb3 rfl ?_;refine (impl_columns _).mono ?_;rintro _ w5 ⟨rfl,e4⟩;exact ⟨by simp_all,e4⟩
  | cons x l =>
    simp only [List.length_cons] at hn;refine oV Tryz.func193 ?_;refine IfB.no (by omega) ?_;obtain ⟨x1,hx1⟩:∃ x,hs[0]? = some x:=get_of_lt (by omega);obtain ⟨y1,hy1,R1⟩:=hE.get hx1;have A1:=R1.1;have n1:=R1.2;refine jI hV 0 rfl hx1 ?_;intro b2 o2 ha2 hb2;refine jA (n:=1) hb2 rfl ?_;refine (impl_columns _).mono ?_;rintro _ w4 ⟨rfl,e3⟩;refine ⟨?_,e3⟩
    · have hlen1:=A1.len;simp at hy1;subst hy1;simp [widthOf,hlen1]
theorem impl_bitOf (r:Int) (w:World):Does Tryz.prog 315 [.int .i64 r] w (fun v w'=>v = .int .i64 (bitM r)∧Ext w w'):=by
  refine oV Tryz.func315 ?_;conv=>whnf
  with_reducible refine IfB.dec (fun h1=>?_) (fun h1=>?_)
  · refine ⟨?_,Ext.refl _⟩
    · rw [bitM_12 h1]
  · (conv=>whnf);with_reducible refine IfB.dec (fun h2=>?_) (fun h2=>?_)
    · refine ⟨?_,Ext.refl _⟩
      · rw [bitM_11 h2]
    · refine (impl_inside _ _ _ _).mono ?_;rintro _ _ ⟨rfl,rfl⟩;(conv=>whnf);with_reducible refine IfB.split (fun h4=>?_) (fun h4=>?_)
      · have hi4:=inB_true h4;refine SemK.shl (by omega) ?_;refine ⟨?_,Ext.refl _⟩
        · rw [bitM_shl (by omega) (by omega)]
      · refine ⟨?_,Ext.refl _⟩
        · rw [bitM_no h1 h2 h4]
theorem impl_digitOf (m:Int) (w:World):Does Tryz.prog 320 [.int .i64 m] w (fun v w'=>v = .int .i64 (digitM m)∧Ext w w'):=by
  refine oV Tryz.func320 ?_;refine lR [0,4] (fun (k:Nat) vs w'=>vs=[.int .i64 m,.int .i64 k]∧k≤10∧(∀ j:Nat,j<k→bitM (j:Int)≠m)∧Ext w w') (fun k=>10 - k) 0 ⟨rfl,by omega,fun j hj=>by omega,Ext.refl _⟩ ?_;rintro k g _ w3 ⟨rfl,hk,hall,hX⟩;rcases Nat.lt_or_ge k 10 with hkn | hkn
  · by_cases hz1:bitM (k:Int)=m
    · have hdm:=digitM_is hkn hall hz1;refine IfB.yes (by omega) ?_;refine (impl_bitOf _ _).mono ?_;rintro _ w5 ⟨rfl,e4⟩;refine IfB.yes (by omega) ?_;exact ⟨by simp only [*],(xt hX e4)⟩
    · have hst:∀ j:Nat,j<k+1→bitM (j:Int)≠m:=fun j hj=>by
        rcases Nat.lt_succ_iff_lt_or_eq.1 hj with h | rfl
        · exact hall j h
        · exact hz1
      have hz2:¬ m=bitM (k:Int):=fun e=>hz1 e.symm;refine IfB.yes (by omega) ?_;refine (impl_bitOf _ _).mono ?_;rintro _ w5 ⟨rfl,e4⟩;refine IfB.no (by omega) ?_;refine SemK.add (((k+1:Nat):Int)) (by omega) (by omega) (by omega) ?_;exact ⟨k+1,by omega,rfl,by omega,by omega,(xt hX e4)⟩
  · have hdm:=digitM_none (m:=m) (fun j hj=>hall j (by omega));refine IfB.no (by omega) ?_;exact ⟨by simp only [*],hX⟩
theorem impl_copyInts {w:World} {a:Option Addr} {n c:Nat} {xs:List Int} (h:Arr eI 1 w a n xs) (hn:n≤1000000):Does Tryz.prog 175 [.slice a n c] w (fun v w'=>∃ a' c',v = .slice a' n c'∧NewAt w.heap.size a'∧Grow eI 1 w.heap.size 2 w' a' n c' xs∧Ext w w'):=by
  have hl:=h.len;refine oV Tryz.func175 ?_;refine bS mk_62 (vs:=[]) ?_;intro b1 w1 g1 l1 e1 B1;have G1:=Grow.new0 (enc:=eI) eI_len B1 g1;refine SemK.appendNew (enc:=eI) mk_62 eI_len G1 (h.ext e1) (by intro y _;simp [eI,cellish]) (by omega) (by omega) (Below.size e1) ?_;intro a2 c2 w2 G2 m2 i2;exact ⟨_,_,rfl,G2.new,G2,(xm e1 m2 (blkIn_new G1.new))⟩
end Go.Proofs.YthadkoinmohmlaaGreatDoor
