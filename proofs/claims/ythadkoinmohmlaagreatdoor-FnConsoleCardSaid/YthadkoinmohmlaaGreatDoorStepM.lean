/- Contracts of functions of the given program, of the reference and of the laws: each says what a call returns, for all arguments that meet the premises that the theorem itself names. -/
import Derived.Test.YthadkoinmohmlaaGreatDoorStab
import Derived.Test.YthadkoinmohmlaaGreatDoorJournalM
import Derived.Test.YthadkoinmohmlaaGreatDoorOffi
import Derived.Test.YthadkoinmohmlaaGreatDoorDraw
namespace Go.M
open Go Go.Vc
def chB (c:UInt8):Bool:=decide (c∈charL)
def charsB (t:ByteArray):Bool:=t.data.toList.all chB
def punchL (t:ByteArray):List Int:=t.data.toList.map fun c=>codeC c.toNat
def punchCode (t:ByteArray):Int:=if inB t.size 1 20=false then 2 else if charsB t=false then 7 else 0
def readCode (c:List Int):Int:=if cardB c=false then 1 else if hasB c=false then 8 else 0
def haveB (d:List (List Int)) (f:TField):Bool:=d.all fun c=>hasB (partOf c f)
def collM (ds:List (List (List Int))) (ts:List ByteArray) (f:TField):Int :=
  if ds.any (fun d=>!deckB d)=true then 1
  else if ds.any (fun d=>!fieldB f (widthOf d))=true then 2
  else if ts.any (fun t=>!decide ((t.size:Int)=f.to_ - f.from_))=true then 2
  else if ts.any (fun t=>!charsB t)=true then 7
  else if ds.any (fun d=>!haveB d f)=true then 8 else 0
def stepAt (d:List (List Int)) (f:TField) (i:Nat):Bool:=decide (0<i) && decide (cmpR (ckey f (d.getD i [])) (ckey f (d.getD (i - 1) []))<0)
def stepsN (d:List (List Int)) (f:TField) (n:Nat):List Nat:=(List.range n).filter (stepAt d f)
def ascB (d:List (List Int)) (f:TField):Bool:=decide ((stepsN d f d.length).length=0)
noncomputable def mergeM (a b:List (List Int)) (f:TField):List (List Int)×Int :=
  if collM [a,b] [] f≠0 then ([],collM [a,b] [] f)
  else if a≠[]∧b≠[]∧widthOf a≠widthOf b then ([],9)
  else if ascB a f=false∨ascB b f=false then ([],6)
  else if 40<a.length+b.length then ([],5)
  else (sdM (a++b) f,0)
def eqIn (d:List (List Int)) (c:List Int) (f:TField):Bool:=d.any fun x=>decide (cmpR (ckey f x) (ckey f c)=0)
def matchedM (d o:List (List Int)) (f:TField) (e:Bool):List (List Int):=d.filter fun c=>decide (eqIn o c f=e)
def matchCode (a b:List (List Int)) (f:TField):Int :=
  if collM [a,b] [] f≠0 then collM [a,b] [] f else if ascB a f=false∨ascB b f=false then 6 else 0
def textCmp (f:TField) (c:List Int) (t:ByteArray):Int:=cmpR (ckey f c) (ranks (punchL t))
def selectM (d:List (List Int)) (f:TField) (t:ByteArray):List (List Int)×Int :=
  if collM [d] [t,t] f≠0 then ([],collM [d] [t,t] f) else (d.filter fun c=>decide (textCmp f c t=0),0)
def firstM (d:List (List Int)) (f:TField):List (List Int)×Int :=
  if collM [d] [] f≠0 then ([],collM [d] [] f) else ((starts (d.map (ckey f))).map fun i=>d.getD i [],0)
noncomputable def sortM (d:List (List Int)) (f:TField):List (List Int)×Int:=if (keysM d f).2≠0 then ([],(keysM d f).2) else (sdM d f,0)
def sumM (d:List (List Int)) (f:TField):Int:=(numsM d f).foldl (· + ·) 0
def numsB (d:List (List Int)) (f:TField):Bool := !d.any fun c=>(numOf (partOf c f)).isNone
def headKey (g:List (List Int)) (f:TField):ByteArray:=txt (ckey f (g.headD []))
def totListM (d:List (List Int)) (f s:TField):List TTotal×Int :=
  if numsB d s=false∨haveB d f=false then ([],8) else ((groupsM d f).map fun g=>⟨headKey g f,sumM g s⟩,0)
structure TStep where
  kind:Int
  a:Int
  b:Int
  dst:Int
  field:TField
  sum:TField
  text:ByteArray
def TStep.enc (x:TStep):List Value:=[.int .i64 x.kind,.int .i64 x.a,.int .i64 x.b,.int .i64 x.dst]++x.field.enc++x.sum.enc++[.string x.text]
def TStep.ok (x:TStep):Prop:=i64ok x.kind∧i64ok x.a∧i64ok x.b∧i64ok x.dst∧x.field.ok∧x.sum.ok∧x.text.size≤1048576
def twoB (k:Int):Bool:=inB k 2 4
def stepB (x:TStep) (width:Int):Bool :=
  if inB width 1 20=false∨inB x.kind 1 7=false∨inB x.a 0 5=false∨inB x.b 0 5=false∨inB x.dst 0 5=false then false
  else if (x.b≠0∧twoB x.kind=false)∨(x.dst≠0∧x.kind=7)∨fieldB x.field width=false then false
  else if (x.kind=7∧numFieldB x.sum width=false)∨(x.kind≠7∧¬ (x.sum.from_=0∧x.sum.to_=0)) then false
  else if x.kind=5 then charsB x.text && decide ((x.text.size:Int)=x.field.to_ - x.field.from_)
  else decide (x.text.size=0)
noncomputable def deckOfM (a b:List (List Int)) (x:TStep):List (List Int)×Int :=
  if x.kind=1 then sortM a x.field else if x.kind=2 then mergeM a b x.field else if x.kind=5 then selectM a x.field x.text else if x.kind=6 then firstM a x.field
  else if matchCode a b x.field≠0 then ([],matchCode a b x.field) else (matchedM a b x.field (decide (x.kind=3)),0)
abbrev TOffice:=List (List (List Int))×List (List TTotal)
noncomputable def stepM (X:List (List (List Int))) (Y:List (List TTotal)) (width:Nat) (x:TStep):TOffice×Int :=
  if stepB x width=false then (([],[]),2)
  else if x.kind=7∧Y.length=20 then (([],[]),5)
  else if x.kind=7 then (if (totListM (X.getD x.a.toNat []) x.field x.sum).2≠0 then (([],[]),(totListM (X.getD x.a.toNat []) x.field x.sum).2) else ((X,Y++[(totListM (X.getD x.a.toNat []) x.field x.sum).1]),0))
  else if (deckOfM (X.getD x.a.toNat []) (X.getD x.b.toNat []) x).2≠0 then (([],[]),(deckOfM (X.getD x.a.toNat []) (X.getD x.b.toNat []) x).2)
  else ((X.set x.dst.toNat (deckOfM (X.getD x.a.toNat []) (X.getD x.b.toNat []) x).1,Y),0)
def tabCode (d:List (List Int)) (f s:TField):Int :=
  if deckB d=false then 1 else if fieldB f (widthOf d)=false∨numFieldB s (widthOf d)=false then 2 else if numsB d s=false∨haveB d f=false then 8 else 0
def tabLine (g:List (List Int)) (f s:TField):ByteArray:=bs [42]++headKey g f++bs [32]++decB (sumM g s)
def tabM (d:List (List Int)) (f s:TField):List ByteArray×Int :=
  if tabCode d f s≠0 then ([],tabCode d f s) else (((groupsM d f).map fun g=>tabLine g f s)++[bs [42,42,32]++decB (sumM d s)],0)
structure TPass where
  col:Int
  mode:Int
def TPass.enc (p:TPass):List Value:=[.int .i64 p.col,.int .i64 p.mode]
instance:Inhabited TPass:=⟨⟨0,0⟩⟩
def bitAt (m:Int) (k:Nat):Bool:=decide (m / 2 ^ k % 2=1)
def topF:Nat→Int→Option Nat
  | 0,_=>none
  | k+1,m=>if bitAt m (k+3)=true then some (k+1) else topF k m
def pockM (m mode:Int):Int :=
  if mode=1 then (match topF 9 m with | some d=>(d:Int) | none=>if m=4 then 0 else 12)
  else if bitAt m 0=true then 11 else if bitAt m 1=true then 10 else if bitAt m 2=true∧¬ m / 8=0 then 0 else if ¬ m=0 then 1 else 12
def gatherM (mode:Int):List Int:=if mode=2 then [12,11,10,0,1] else [12,0,1,2,3,4,5,6,7,8,9]
def inPock (p:TPass) (k:Int) (c:List Int):Bool:=decide (pockM (c.getD p.col.toNat 0) p.mode=k)
def pocketsM (d:List (List Int)) (p:TPass):List (List (List Int)):=(List.range 13).map fun (k:Nat)=>d.filter (inPock p k)
def passM (d:List (List Int)) (p:TPass):List (List Int):=(gatherM p.mode).flatMap fun k=>(pocketsM d p).getD k.toNat []
def runPM (d:List (List Int)) (l:List TPass):List (List Int):=l.foldl passM d
def fullM (f:TField):List TPass:=(List.range (fLen f)).flatMap fun (i:Nat)=>[⟨f.to_ - 1 - i,1⟩,⟨f.to_ - 1 - i,2⟩]
def ownS (n s:Nat):List Nat:=(List.range n).filter fun i=>s.testBit i
def pickL (full:List TPass) (own:List Nat):List TPass:=own.map fun i=>full.getD i default
def cmpN:List Nat→List Nat→Int
  | [],[]=>0
  | [],_ :: _=>-1
  | _ :: _,[]=>1
  | x :: xs,y :: ys=>if x<y then -1 else if y<x then 1 else cmpN xs ys
def setStep (d:List (List Int)) (due:List (List Int)) (full:List TPass) (st:List Nat×Bool) (s:Nat):List Nat×Bool :=
  if st.2=true∧st.1.length<(ownS full.length s).length then st
  else if (st.2=true∧(ownS full.length s).length=st.1.length∧0<cmpN (ownS full.length s) st.1)∨¬ runPM d (pickL full (ownS full.length s))=due then st
  else (ownS full.length s,true)
noncomputable def bestM (d:List (List Int)) (f:TField) (k:Nat):List Nat×Bool:=(List.range k).foldl (setStep d (sdM d f) (fullM f)) ([],false)
noncomputable def fewM (d:List (List Int)) (f:TField):List TPass×Int :=
  if (keysM d f).2≠0 then ([],(keysM d f).2) else if 4<f.to_ - f.from_ then ([],5) else (pickL (fullM f) (bestM d f (2 ^ (fullM f).length)).1,0)
def passWord (p:TPass):ByteArray:=decB p.col++(if p.mode=1 then bs [100] else bs [122])
def joinB (sep:UInt8) (l:List ByteArray):ByteArray:=bs (Lib.join (l.map (·.data.toList)) [sep])
def dashB (s:ByteArray):ByteArray:=if s.size=0 then bs [45] else s
structure TDesk where
  X:List (List (List Int))
  Y:List (List TTotal)
  s:ByteArray
structure TArgs where
  trays:List Int
  nums:List Int
  fields:List TField
  texts:List ByteArray
def w_card:ByteArray:=⟨#[99,97,114,100]⟩
def w_clear:ByteArray:=⟨#[99,108,101,97,114]⟩
def w_first:ByteArray:=⟨#[102,105,114,115,116]⟩
def w_log:ByteArray:=⟨#[108,111,103]⟩
def w_match:ByteArray:=⟨#[109,97,116,99,104]⟩
def w_merge:ByteArray:=⟨#[109,101,114,103,101]⟩
def w_note:ByteArray:=⟨#[110,111,116,101]⟩
def w_passes:ByteArray:=⟨#[112,97,115,115,101,115]⟩
def w_rest:ByteArray:=⟨#[114,101,115,116]⟩
def w_select:ByteArray:=⟨#[115,101,108,101,99,116]⟩
def w_show:ByteArray:=⟨#[115,104,111,119]⟩
def w_sort:ByteArray:=⟨#[115,111,114,116]⟩
def w_tab:ByteArray:=⟨#[116,97,98]⟩
def w_total:ByteArray:=⟨#[116,111,116,97,108]⟩
def patM (w:ByteArray):List UInt8 :=
  if w=w_card then [116,120] else if w=w_clear∨w=w_show then [116] else if w=w_sort∨w=w_first then [116,102,116]
  else if w=w_merge∨w=w_match∨w=w_rest then [116,116,102,116] else if w=w_select then [116,102,120,116] else if w=w_total then [116,102,102]
  else if w=w_passes then [116,102] else if w=w_tab then [116,102,102] else if w=w_note then [116,110,120] else []
def readFieldM (s:ByteArray):TField×Bool :=
  (⟨numI (bs (Lib.cut s.data.toList [45]).1),numI (bs (Lib.cut s.data.toList [45]).2.1)⟩,
    (Lib.cut s.data.toList [45]).2.2 && numB (bs (Lib.cut s.data.toList [45]).1) && numB (bs (Lib.cut s.data.toList [45]).2.1) && decide (0≤numI (bs (Lib.cut s.data.toList [45]).1)) && decide (0≤numI (bs (Lib.cut s.data.toList [45]).2.1)))
def argStep (a:TArgs) (p:UInt8) (w:ByteArray):TArgs×Bool :=
  if p=116 then ({ a with trays:=a.trays++[numI w] },numB w) else if p=110 then ({ a with nums:=a.nums++[numI w] },numB w)
  else if p=102 then ({ a with fields:=a.fields++[(readFieldM w).1] },(readFieldM w).2) else ({ a with texts:=a.texts++[w] },true)
def noArgs:TArgs:=⟨[],[],[],[]⟩
def argSt (ps:List (UInt8×ByteArray)):TArgs×Bool:=ps.foldl (fun st p=>if st.2=true then argStep st.1 p.1 p.2 else st) (noArgs,true)
def argsM (p:List UInt8) (ws:List ByteArray):TArgs×Int :=
  if (argSt (p.zip ws)).2=false then (noArgs,7) else if (argSt (p.zip ws)).1.trays.any (fun t=>!inB t 0 5)=true then (noArgs,2) else ((argSt (p.zip ws)).1,0)
def listedM (l:List ByteArray):List ByteArray:=l++[bs [111,107,32]++decB l.length]
def kindM (w:ByteArray):Int:=if w=w_sort then 1 else if w=w_first then 6 else if w=w_merge then 2 else if w=w_match then 3 else if w=w_rest then 4 else if w=w_select then 5 else if w=w_total then 7 else 0
def stepOfM (w:ByteArray) (a:TArgs):TStep :=
  { kind:=kindM w,a:=a.trays.getD 0 0,b:=if twoB (kindM w)=true then a.trays.getD 1 0 else 0,dst:=if w=w_total then 0 else a.trays.getD (a.trays.length - 1) 0,
    field:=a.fields.getD 0 ⟨0,0⟩,sum:=if w=w_total then a.fields.getD 1 ⟨0,0⟩ else ⟨0,0⟩,text:=if w=w_select then a.texts.getD 0 ⟨#[]⟩ else ⟨#[]⟩ }
def totalWord (t:TTotal):ByteArray:=t.name++bs [61]++decB t.sum
def totalsS (l:List TTotal):ByteArray:=joinB 59 (l.map totalWord)
noncomputable def execM (D:TDesk) (w:ByteArray) (a:TArgs):(TDesk×List ByteArray)×Int :=
  if w=w_log then ((D,listedM ((notesOfM D.s).1.map wordsB)),(notesOfM D.s).2.2)
  else if w=w_card then
    (if punchCode (a.texts.getD 0 ⟨#[]⟩)≠0 then ((D,[]),punchCode (a.texts.getD 0 ⟨#[]⟩))
     else if officeB (D.X.set (a.trays.getD 0 0).toNat (D.X.getD (a.trays.getD 0 0).toNat []++[punchL (a.texts.getD 0 ⟨#[]⟩)])) D.Y.length=false then ((D,[]),6)
     else (({ D with X:=D.X.set (a.trays.getD 0 0).toNat (D.X.getD (a.trays.getD 0 0).toNat []++[punchL (a.texts.getD 0 ⟨#[]⟩)]) },[lineS (countsOf (D.X.set (a.trays.getD 0 0).toNat (D.X.getD (a.trays.getD 0 0).toNat []++[punchL (a.texts.getD 0 ⟨#[]⟩)])))]),0))
  else if w=w_clear then (({ D with X:=D.X.set (a.trays.getD 0 0).toNat [] },[lineS (countsOf (D.X.set (a.trays.getD 0 0).toNat []))]),0)
  else if w=w_show then
    (match (D.X.getD (a.trays.getD 0 0).toNat []).find? (fun c=>decide (readCode c≠0)) with
     | some c=>((D,[]),readCode c)
     | none=>((D,listedM ((D.X.getD (a.trays.getD 0 0).toNat []).map fun c=>txt (ranks c))),0))
  else if w=w_note then
    (if (addNoteM D.s ⟨a.trays.getD 0 0,(D.X.getD (a.trays.getD 0 0).toNat []).length,a.nums.getD 0 0,a.texts.getD 0 ⟨#[]⟩⟩).2≠0 then ((D,[]),(addNoteM D.s ⟨a.trays.getD 0 0,(D.X.getD (a.trays.getD 0 0).toNat []).length,a.nums.getD 0 0,a.texts.getD 0 ⟨#[]⟩⟩).2)
     else (({ D with s:=(addNoteM D.s ⟨a.trays.getD 0 0,(D.X.getD (a.trays.getD 0 0).toNat []).length,a.nums.getD 0 0,a.texts.getD 0 ⟨#[]⟩⟩).1 },[decB (cardsM (addNoteM D.s ⟨a.trays.getD 0 0,(D.X.getD (a.trays.getD 0 0).toNat []).length,a.nums.getD 0 0,a.texts.getD 0 ⟨#[]⟩⟩).1).1]),
       (cardsM (addNoteM D.s ⟨a.trays.getD 0 0,(D.X.getD (a.trays.getD 0 0).toNat []).length,a.nums.getD 0 0,a.texts.getD 0 ⟨#[]⟩⟩).1).2))
  else if w=w_passes then ((D,[dashB (joinB 32 ((fewM (D.X.getD (a.trays.getD 0 0).toNat []) (a.fields.getD 0 ⟨0,0⟩)).1.map passWord))]),(fewM (D.X.getD (a.trays.getD 0 0).toNat []) (a.fields.getD 0 ⟨0,0⟩)).2)
  else if w=w_tab then ((D,listedM (tabM (D.X.getD (a.trays.getD 0 0).toNat []) (a.fields.getD 0 ⟨0,0⟩) (a.fields.getD 1 ⟨0,0⟩)).1),(tabM (D.X.getD (a.trays.getD 0 0).toNat []) (a.fields.getD 0 ⟨0,0⟩) (a.fields.getD 1 ⟨0,0⟩)).2)
  else if (stepM D.X D.Y (offWidth D.X) (stepOfM w a)).2≠0 then ((D,[]),(stepM D.X D.Y (offWidth D.X) (stepOfM w a)).2)
  else if w≠w_total then (({ D with X:=(stepM D.X D.Y (offWidth D.X) (stepOfM w a)).1.1,Y:=(stepM D.X D.Y (offWidth D.X) (stepOfM w a)).1.2 },[lineS (countsOf (stepM D.X D.Y (offWidth D.X) (stepOfM w a)).1.1)]),0)
  else (({ D with X:=(stepM D.X D.Y (offWidth D.X) (stepOfM w a)).1.1,Y:=(stepM D.X D.Y (offWidth D.X) (stepOfM w a)).1.2 },[dashB (totalsS ((stepM D.X D.Y (offWidth D.X) (stepOfM w a)).1.2.getLastD []))]),0)
def deskWordsM:List ByteArray:=[w_card,w_clear,w_first,w_log,w_match,w_merge,w_note,w_passes,w_rest,w_select,w_show,w_sort,w_tab,w_total]
def codeNamesM:List ByteArray:=[⟨#[111,107]⟩,⟨#[105,110,118,97,108,105,100]⟩,⟨#[114,97,110,103,101]⟩,⟨#[110,111,116,45,102,111,117,110,100]⟩,⟨#[101,120,105,115,116,115]⟩,⟨#[102,117,108,108]⟩,⟨#[115,116,97,116,101]⟩,⟨#[115,121,110,116,97,120]⟩,⟨#[102,111,114,109,97,116]⟩,⟨#[99,108,97,115,104]⟩,⟨#[106,97,109]⟩]
def codeNameM (k:Int):ByteArray:=if inB k 0 10=false then ⟨#[]⟩ else codeNamesM.getD k.toNat ⟨#[]⟩
def errLine (k:Int):ByteArray:=bs [101,114,114,111,114,32]++codeNameM k
def noDesk:TDesk:=⟨[],[],⟨#[]⟩⟩
noncomputable def cmdM (D:TDesk) (line:ByteArray):(TDesk×List ByteArray)×Int :=
  if deskB D.X D.Y.length D.s=false then ((noDesk,[]),1)
  else if ¬ (deskWordsM.any fun x=>decide (x=(splitS 32 line).headD ⟨#[]⟩))=true∨¬ (splitS 32 line).length - 1=(patM ((splitS 32 line).headD ⟨#[]⟩)).length then ((noDesk,[]),7)
  else if (argsM (patM ((splitS 32 line).headD ⟨#[]⟩)) ((splitS 32 line).drop 1)).2≠0 then ((D,[errLine (argsM (patM ((splitS 32 line).headD ⟨#[]⟩)) ((splitS 32 line).drop 1)).2]),0)
  else if (execM D ((splitS 32 line).headD ⟨#[]⟩) (argsM (patM ((splitS 32 line).headD ⟨#[]⟩)) ((splitS 32 line).drop 1)).1).2≠0 then ((D,[errLine (execM D ((splitS 32 line).headD ⟨#[]⟩) (argsM (patM ((splitS 32 line).headD ⟨#[]⟩)) ((splitS 32 line).drop 1)).1).2]),0)
  else execM D ((splitS 32 line).headD ⟨#[]⟩) (argsM (patM ((splitS 32 line).headD ⟨#[]⟩)) ((splitS 32 line).drop 1)).1
end Go.M
namespace Go.M
open Go Go.Vc
def lineOk (s:ByteArray):Prop:=s.size≤100∧(10:UInt8)∉s.data.toList
theorem lines_ok {xs:List ByteArray} (h:(xs.all fun s=>decide (s.size≤100) && decide (¬ (10:UInt8)∈s.data.toList))=true) {r:ByteArray} (hr:r∈xs):lineOk r:=by
  have:=List.all_eq_true.1 h r hr;simp only [Bool.and_eq_true,decide_eq_true_eq] at this;exact this
end Go.M
namespace Go.Proofs.YthadkoinmohmlaaGreatDoor
open Go Go.RowKit Go.Vc Go.M
theorem spec_l28Line {w:World} {a0:Option Addr} {k:Nat} (h:Src w a0 k) (hk:k≤10000000) :
    Does Tryz.prog 25 [.pointer a0] w (fun v w'=>∃ s,v = .string s∧lineOk s∧Src w' a0 (k+4)∧Mod (blkIn a0) w w'):=by
  refine oV Tryz.func25 ?_;refine (spec_pick h (by omega) (by omega)).mono ?_;rintro _ w7 ⟨r1,rfl,q2,q3,q4,S5,m6⟩;(conv=>whnf);with_reducible refine IfB.dec (fun h8=>?_) (fun h8=>?_)
  · refine IfB.yes (by omega) ?_;refine bS mk_24 (vs:=[Value.string { data := #[99,97,114,100,32,48,32,66,48,55] },Value.string { data := #[99,97,114,100,32,48,32,65,49,50] },Value.string { data := #[99,97,114,100,32,48,32,65,48,53] },Value.string { data := #[99,97,114,100,32,48,32,67,57,57] },Value.string { data := #[99,97,114,100,32,49,32,65,48,48] },Value.string { data := #[99,97,114,100,32,49,32,66,49,49] },Value.string { data := #[99,97,114,100,32,48,32,65,66] },Value.string { data := #[99,97,114,100,32,54,32,65,48,48] },Value.string { data := #[99,97,114,100,32,48,32,97,48,48] },Value.string { data := #[99,97,114,100,32,120,32,65,48,48] },Value.string { data := #[99,97,114,100,32,48,32,65,49,45] },Value.string { data := #[99,97,114,100,32,50,32,66,48,55] }]) ?_;intro b9 w9 g9 l9 e9 B9;have G9:=Grow.of_blk (n:=12) (enc:=eS) (xs:=[{ data := #[99,97,114,100,32,48,32,66,48,55] },{ data := #[99,97,114,100,32,48,32,65,49,50] },{ data := #[99,97,114,100,32,48,32,65,48,53] },{ data := #[99,97,114,100,32,48,32,67,57,57] },{ data := #[99,97,114,100,32,49,32,65,48,48] },{ data := #[99,97,114,100,32,49,32,66,49,49] },{ data := #[99,97,114,100,32,48,32,65,66] },{ data := #[99,97,114,100,32,54,32,65,48,48] },{ data := #[99,97,114,100,32,48,32,97,48,48] },{ data := #[99,97,114,100,32,120,32,65,48,48] },{ data := #[99,97,114,100,32,48,32,65,49,45] },{ data := #[99,97,114,100,32,50,32,66,48,55] }]) eS_len B9 g9 rfl (by decide);refine (spec_text (S5.ext e9) (by omega) (G9.own.arr eS_len) (apart' G9.new h.lt (Mod.size m6)) (by omega) (by omega)).mono ?_;rintro _ w14 ⟨r10,rfl,q11,S12,m13⟩;refine ⟨_,rfl,?_,S12,((m6.trans e9.mod).trans m13)⟩
    · exact lines_ok (by decide +kernel) q11
  · (conv=>whnf);with_reducible refine IfB.dec (fun h15=>?_) (fun h15=>?_)
    · refine IfB.yes (by omega) ?_;refine bS mk_24 (vs:=[Value.string { data := #[99,97,114,100,32,48,32,66,48,55] },Value.string { data := #[99,97,114,100,32,48,32,65,49,50] },Value.string { data := #[99,97,114,100,32,48,32,65,48,53] },Value.string { data := #[99,97,114,100,32,48,32,67,57,57] },Value.string { data := #[99,97,114,100,32,49,32,65,48,48] },Value.string { data := #[99,97,114,100,32,49,32,66,49,49] },Value.string { data := #[99,97,114,100,32,48,32,65,66] },Value.string { data := #[99,97,114,100,32,54,32,65,48,48] },Value.string { data := #[99,97,114,100,32,48,32,97,48,48] },Value.string { data := #[99,97,114,100,32,120,32,65,48,48] },Value.string { data := #[99,97,114,100,32,48,32,65,49,45] },Value.string { data := #[99,97,114,100,32,50,32,66,48,55] }]) ?_;intro b16 w16 g16 l16 e16 B16;have G16:=Grow.of_blk (n:=12) (enc:=eS) (xs:=[{ data := #[99,97,114,100,32,48,32,66,48,55] },{ data := #[99,97,114,100,32,48,32,65,49,50] },{ data := #[99,97,114,100,32,48,32,65,48,53] },{ data := #[99,97,114,100,32,48,32,67,57,57] },{ data := #[99,97,114,100,32,49,32,65,48,48] },{ data := #[99,97,114,100,32,49,32,66,49,49] },{ data := #[99,97,114,100,32,48,32,65,66] },{ data := #[99,97,114,100,32,54,32,65,48,48] },{ data := #[99,97,114,100,32,48,32,97,48,48] },{ data := #[99,97,114,100,32,120,32,65,48,48] },{ data := #[99,97,114,100,32,48,32,65,49,45] },{ data := #[99,97,114,100,32,50,32,66,48,55] }]) eS_len B16 g16 rfl (by decide);refine (spec_text (S5.ext e16) (by omega) (G16.own.arr eS_len) (apart' G16.new h.lt (Mod.size m6)) (by omega) (by omega)).mono ?_;rintro _ w21 ⟨r17,rfl,q18,S19,m20⟩;refine ⟨_,rfl,?_,S19,((m6.trans e16.mod).trans m20)⟩
      · exact lines_ok (by decide +kernel) q18
    · (conv=>whnf);with_reducible refine IfB.dec (fun h22=>?_) (fun h22=>?_)
      · refine IfB.yes (by omega) ?_;refine bS mk_24 (vs:=[Value.string { data := #[99,97,114,100,32,48,32,66,48,55] },Value.string { data := #[99,97,114,100,32,48,32,65,49,50] },Value.string { data := #[99,97,114,100,32,48,32,65,48,53] },Value.string { data := #[99,97,114,100,32,48,32,67,57,57] },Value.string { data := #[99,97,114,100,32,49,32,65,48,48] },Value.string { data := #[99,97,114,100,32,49,32,66,49,49] },Value.string { data := #[99,97,114,100,32,48,32,65,66] },Value.string { data := #[99,97,114,100,32,54,32,65,48,48] },Value.string { data := #[99,97,114,100,32,48,32,97,48,48] },Value.string { data := #[99,97,114,100,32,120,32,65,48,48] },Value.string { data := #[99,97,114,100,32,48,32,65,49,45] },Value.string { data := #[99,97,114,100,32,50,32,66,48,55] }]) ?_;intro b23 w23 g23 l23 e23 B23;have G23:=Grow.of_blk (n:=12) (enc:=eS) (xs:=[{ data := #[99,97,114,100,32,48,32,66,48,55] },{ data := #[99,97,114,100,32,48,32,65,49,50] },{ data := #[99,97,114,100,32,48,32,65,48,53] },{ data := #[99,97,114,100,32,48,32,67,57,57] },{ data := #[99,97,114,100,32,49,32,65,48,48] },{ data := #[99,97,114,100,32,49,32,66,49,49] },{ data := #[99,97,114,100,32,48,32,65,66] },{ data := #[99,97,114,100,32,54,32,65,48,48] },{ data := #[99,97,114,100,32,48,32,97,48,48] },{ data := #[99,97,114,100,32,120,32,65,48,48] },{ data := #[99,97,114,100,32,48,32,65,49,45] },{ data := #[99,97,114,100,32,50,32,66,48,55] }]) eS_len B23 g23 rfl (by decide);refine (spec_text (S5.ext e23) (by omega) (G23.own.arr eS_len) (apart' G23.new h.lt (Mod.size m6)) (by omega) (by omega)).mono ?_;rintro _ w28 ⟨r24,rfl,q25,S26,m27⟩;refine ⟨_,rfl,?_,S26,((m6.trans e23.mod).trans m27)⟩
        · exact lines_ok (by decide +kernel) q25
      · (conv=>whnf);with_reducible refine IfB.dec (fun h29=>?_) (fun h29=>?_)
        · refine bS mk_24 (vs:=[Value.string { data := #[99,97,114,100,32,48,32,66,48,55] },Value.string { data := #[99,97,114,100,32,48,32,65,49,50] },Value.string { data := #[99,97,114,100,32,48,32,65,48,53] },Value.string { data := #[99,97,114,100,32,48,32,67,57,57] },Value.string { data := #[99,97,114,100,32,49,32,65,48,48] },Value.string { data := #[99,97,114,100,32,49,32,66,49,49] },Value.string { data := #[99,97,114,100,32,48,32,65,66] },Value.string { data := #[99,97,114,100,32,54,32,65,48,48] },Value.string { data := #[99,97,114,100,32,48,32,97,48,48] },Value.string { data := #[99,97,114,100,32,120,32,65,48,48] },Value.string { data := #[99,97,114,100,32,48,32,65,49,45] },Value.string { data := #[99,97,114,100,32,50,32,66,48,55] }]) ?_;intro b30 w30 g30 l30 e30 B30;have G30:=Grow.of_blk (n:=12) (enc:=eS) (xs:=[{ data := #[99,97,114,100,32,48,32,66,48,55] },{ data := #[99,97,114,100,32,48,32,65,49,50] },{ data := #[99,97,114,100,32,48,32,65,48,53] },{ data := #[99,97,114,100,32,48,32,67,57,57] },{ data := #[99,97,114,100,32,49,32,65,48,48] },{ data := #[99,97,114,100,32,49,32,66,49,49] },{ data := #[99,97,114,100,32,48,32,65,66] },{ data := #[99,97,114,100,32,54,32,65,48,48] },{ data := #[99,97,114,100,32,48,32,97,48,48] },{ data := #[99,97,114,100,32,120,32,65,48,48] },{ data := #[99,97,114,100,32,48,32,65,49,45] },{ data := #[99,97,114,100,32,50,32,66,48,55] }]) eS_len B30 g30 rfl (by decide);refine (spec_text (S5.ext e30) (by omega) (G30.own.arr eS_len) (apart' G30.new h.lt (Mod.size m6)) (by omega) (by omega)).mono ?_;rintro _ w35 ⟨r31,rfl,q32,S33,m34⟩;refine ⟨_,rfl,?_,S33,((m6.trans e30.mod).trans m34)⟩
          · exact lines_ok (by decide +kernel) q32
        · (conv=>whnf);with_reducible refine IfB.dec (fun h36=>?_) (fun h36=>?_)
          · refine IfB.yes (by omega) ?_;refine bS mk_24 (vs:=[Value.string { data := #[115,111,114,116,32,48,32,48,45,49,32,49] },Value.string { data := #[115,111,114,116,32,48,32,49,45,51,32,48] },Value.string { data := #[115,111,114,116,32,49,32,48,45,49,32,49] },Value.string { data := #[115,111,114,116,32,48,32,48,45,57,32,49] },Value.string { data := #[115,111,114,116,32,48,32,48,49,32,49] },Value.string { data := #[102,105,114,115,116,32,49,32,48,45,49,32,50] },Value.string { data := #[102,105,114,115,116,32,48,32,48,45,49,32,57] },Value.string { data := #[115,101,108,101,99,116,32,48,32,48,45,49,32,65,32,50] },Value.string { data := #[115,101,108,101,99,116,32,48,32,48,45,49,32,65,66,32,50] },Value.string { data := #[115,101,108,101,99,116,32,48,32,48,45,50,32,65,48,32,51] }]) ?_;intro b37 w37 g37 l37 e37 B37;have G37:=Grow.of_blk (n:=10) (enc:=eS) (xs:=[{ data := #[115,111,114,116,32,48,32,48,45,49,32,49] },{ data := #[115,111,114,116,32,48,32,49,45,51,32,48] },{ data := #[115,111,114,116,32,49,32,48,45,49,32,49] },{ data := #[115,111,114,116,32,48,32,48,45,57,32,49] },{ data := #[115,111,114,116,32,48,32,48,49,32,49] },{ data := #[102,105,114,115,116,32,49,32,48,45,49,32,50] },{ data := #[102,105,114,115,116,32,48,32,48,45,49,32,57] },{ data := #[115,101,108,101,99,116,32,48,32,48,45,49,32,65,32,50] },{ data := #[115,101,108,101,99,116,32,48,32,48,45,49,32,65,66,32,50] },{ data := #[115,101,108,101,99,116,32,48,32,48,45,50,32,65,48,32,51] }]) eS_len B37 g37 rfl (by decide);refine (spec_text (S5.ext e37) (by omega) (G37.own.arr eS_len) (apart' G37.new h.lt (Mod.size m6)) (by omega) (by omega)).mono ?_;rintro _ w42 ⟨r38,rfl,q39,S40,m41⟩;refine ⟨_,rfl,?_,S40,((m6.trans e37.mod).trans m41)⟩
            · exact lines_ok (by decide +kernel) q39
          · (conv=>whnf);with_reducible refine IfB.dec (fun h43=>?_) (fun h43=>?_)
            · refine bS mk_24 (vs:=[Value.string { data := #[115,111,114,116,32,48,32,48,45,49,32,49] },Value.string { data := #[115,111,114,116,32,48,32,49,45,51,32,48] },Value.string { data := #[115,111,114,116,32,49,32,48,45,49,32,49] },Value.string { data := #[115,111,114,116,32,48,32,48,45,57,32,49] },Value.string { data := #[115,111,114,116,32,48,32,48,49,32,49] },Value.string { data := #[102,105,114,115,116,32,49,32,48,45,49,32,50] },Value.string { data := #[102,105,114,115,116,32,48,32,48,45,49,32,57] },Value.string { data := #[115,101,108,101,99,116,32,48,32,48,45,49,32,65,32,50] },Value.string { data := #[115,101,108,101,99,116,32,48,32,48,45,49,32,65,66,32,50] },Value.string { data := #[115,101,108,101,99,116,32,48,32,48,45,50,32,65,48,32,51] }]) ?_;intro b44 w44 g44 l44 e44 B44;have G44:=Grow.of_blk (n:=10) (enc:=eS) (xs:=[{ data := #[115,111,114,116,32,48,32,48,45,49,32,49] },{ data := #[115,111,114,116,32,48,32,49,45,51,32,48] },{ data := #[115,111,114,116,32,49,32,48,45,49,32,49] },{ data := #[115,111,114,116,32,48,32,48,45,57,32,49] },{ data := #[115,111,114,116,32,48,32,48,49,32,49] },{ data := #[102,105,114,115,116,32,49,32,48,45,49,32,50] },{ data := #[102,105,114,115,116,32,48,32,48,45,49,32,57] },{ data := #[115,101,108,101,99,116,32,48,32,48,45,49,32,65,32,50] },{ data := #[115,101,108,101,99,116,32,48,32,48,45,49,32,65,66,32,50] },{ data := #[115,101,108,101,99,116,32,48,32,48,45,50,32,65,48,32,51] }]) eS_len B44 g44 rfl (by decide);refine (spec_text (S5.ext e44) (by omega) (G44.own.arr eS_len) (apart' G44.new h.lt (Mod.size m6)) (by omega) (by omega)).mono ?_;rintro _ w49 ⟨r45,rfl,q46,S47,m48⟩;refine ⟨_,rfl,?_,S47,((m6.trans e44.mod).trans m48)⟩
              · exact lines_ok (by decide +kernel) q46
            · (conv=>whnf);with_reducible refine IfB.dec (fun h50=>?_) (fun h50=>?_)
              · refine bS mk_24 (vs:=[Value.string { data := #[109,101,114,103,101,32,48,32,49,32,48,45,49,32,50] },Value.string { data := #[109,97,116,99,104,32,49,32,50,32,48,45,49,32,51] },Value.string { data := #[114,101,115,116,32,49,32,50,32,48,45,49,32,51] },Value.string { data := #[109,101,114,103,101,32,49,32,49,32,48,45,49,32,52] },Value.string { data := #[109,97,116,99,104,32,48,32,49,32,48,45,49,32,120] },Value.string { data := #[114,101,115,116,32,48,32,55,32,48,45,49,32,49] }]) ?_;intro b51 w51 g51 l51 e51 B51;have G51:=Grow.of_blk (n:=6) (enc:=eS) (xs:=[{ data := #[109,101,114,103,101,32,48,32,49,32,48,45,49,32,50] },{ data := #[109,97,116,99,104,32,49,32,50,32,48,45,49,32,51] },{ data := #[114,101,115,116,32,49,32,50,32,48,45,49,32,51] },{ data := #[109,101,114,103,101,32,49,32,49,32,48,45,49,32,52] },{ data := #[109,97,116,99,104,32,48,32,49,32,48,45,49,32,120] },{ data := #[114,101,115,116,32,48,32,55,32,48,45,49,32,49] }]) eS_len B51 g51 rfl (by decide);refine (spec_text (S5.ext e51) (by omega) (G51.own.arr eS_len) (apart' G51.new h.lt (Mod.size m6)) (by omega) (by omega)).mono ?_;rintro _ w56 ⟨r52,rfl,q53,S54,m55⟩;refine ⟨_,rfl,?_,S54,((m6.trans e51.mod).trans m55)⟩
                · exact lines_ok (by decide +kernel) q53
              · (conv=>whnf);with_reducible refine IfB.dec (fun h57=>?_) (fun h57=>?_)
                · refine bS mk_24 (vs:=[Value.string { data := #[116,111,116,97,108,32,48,32,48,45,49,32,49,45,51] },Value.string { data := #[116,111,116,97,108,32,49,32,48,45,49,32,49,45,51] },Value.string { data := #[116,111,116,97,108,32,48,32,48,45,49,32,48,45,49] },Value.string { data := #[116,111,116,97,108,32,51,32,48,45,49,32,49,45,50] },Value.string { data := #[116,97,98,32,48,32,48,45,49,32,49,45,51] },Value.string { data := #[116,97,98,32,49,32,48,45,49,32,50,45,51] },Value.string { data := #[116,97,98,32,48,32,48,45,49,32,120] },Value.string { data := #[116,97,98,32,53,32,48,45,49,32,49,45,50] }]) ?_;intro b58 w58 g58 l58 e58 B58;have G58:=Grow.of_blk (n:=8) (enc:=eS) (xs:=[{ data := #[116,111,116,97,108,32,48,32,48,45,49,32,49,45,51] },{ data := #[116,111,116,97,108,32,49,32,48,45,49,32,49,45,51] },{ data := #[116,111,116,97,108,32,48,32,48,45,49,32,48,45,49] },{ data := #[116,111,116,97,108,32,51,32,48,45,49,32,49,45,50] },{ data := #[116,97,98,32,48,32,48,45,49,32,49,45,51] },{ data := #[116,97,98,32,49,32,48,45,49,32,50,45,51] },{ data := #[116,97,98,32,48,32,48,45,49,32,120] },{ data := #[116,97,98,32,53,32,48,45,49,32,49,45,50] }]) eS_len B58 g58 rfl (by decide);refine (spec_text (S5.ext e58) (by omega) (G58.own.arr eS_len) (apart' G58.new h.lt (Mod.size m6)) (by omega) (by omega)).mono ?_;rintro _ w63 ⟨r59,rfl,q60,S61,m62⟩;refine ⟨_,rfl,?_,S61,((m6.trans e58.mod).trans m62)⟩
                  · exact lines_ok (by decide +kernel) q60
                · (conv=>whnf);with_reducible refine IfB.dec (fun h64=>?_) (fun h64=>?_)
                  · refine bS mk_24 (vs:=[Value.string { data := #[112,97,115,115,101,115,32,48,32,48,45,49] },Value.string { data := #[112,97,115,115,101,115,32,48,32,48,45,51] },Value.string { data := #[112,97,115,115,101,115,32,49,32,49,45,51] },Value.string { data := #[112,97,115,115,101,115,32,48,32,48,45,53] },Value.string { data := #[115,104,111,119,32,48] },Value.string { data := #[115,104,111,119,32,49] },Value.string { data := #[115,104,111,119,32,57] },Value.string { data := #[99,108,101,97,114,32,48] },Value.string { data := #[99,108,101,97,114,32,50] }]) ?_;intro b65 w65 g65 l65 e65 B65;have G65:=Grow.of_blk (n:=9) (enc:=eS) (xs:=[{ data := #[112,97,115,115,101,115,32,48,32,48,45,49] },{ data := #[112,97,115,115,101,115,32,48,32,48,45,51] },{ data := #[112,97,115,115,101,115,32,49,32,49,45,51] },{ data := #[112,97,115,115,101,115,32,48,32,48,45,53] },{ data := #[115,104,111,119,32,48] },{ data := #[115,104,111,119,32,49] },{ data := #[115,104,111,119,32,57] },{ data := #[99,108,101,97,114,32,48] },{ data := #[99,108,101,97,114,32,50] }]) eS_len B65 g65 rfl (by decide);refine (spec_text (S5.ext e65) (by omega) (G65.own.arr eS_len) (apart' G65.new h.lt (Mod.size m6)) (by omega) (by omega)).mono ?_;rintro _ w70 ⟨r66,rfl,q67,S68,m69⟩;refine ⟨_,rfl,?_,S68,((m6.trans e65.mod).trans m69)⟩
                    · exact lines_ok (by decide +kernel) q67
                  · refine bS mk_24 (vs:=[Value.string { data := #[110,111,116,101,32,48,32,49,50,32,114,101,97,100] },Value.string { data := #[110,111,116,101,32,49,32,45,53,32,115,111,114,116,101,100] },Value.string { data := #[110,111,116,101,32,48,32,49,32,65] },Value.string { data := #[110,111,116,101,32,57,32,49,32,114,101,97,100] },Value.string { data := #[108,111,103] },Value.string { data := #[108,111,103,32,49] },Value.string { data := #[] },Value.string { data := #[102,111,111] },Value.string { data := #[99,97,114,100,32,48] }]) ?_;intro b71 w71 g71 l71 e71 B71;have G71:=Grow.of_blk (n:=9) (enc:=eS) (xs:=[{ data := #[110,111,116,101,32,48,32,49,50,32,114,101,97,100] },{ data := #[110,111,116,101,32,49,32,45,53,32,115,111,114,116,101,100] },{ data := #[110,111,116,101,32,48,32,49,32,65] },{ data := #[110,111,116,101,32,57,32,49,32,114,101,97,100] },{ data := #[108,111,103] },{ data := #[108,111,103,32,49] },{ data := #[] },{ data := #[102,111,111] },{ data := #[99,97,114,100,32,48] }]) eS_len B71 g71 rfl (by decide);refine (spec_text (S5.ext e71) (by omega) (G71.own.arr eS_len) (apart' G71.new h.lt (Mod.size m6)) (by omega) (by omega)).mono ?_;rintro _ w76 ⟨r72,rfl,q73,S74,m75⟩;refine ⟨_,rfl,?_,S74,((m6.trans e71.mod).trans m75)⟩
                    · exact lines_ok (by decide +kernel) q73
theorem spec_A2Lines {w:World} {a:Option Addr} {n c:Nat} {xs:List UInt8} (h:Arr eB 1 w a n xs) :
    Does Tryz.prog 7 [.slice a n c] w (fun v w'=>∃ a' n' c' l,v = .slice a' n' c'∧n'≤9∧n'≤c'∧(∀ x∈l,lineOk x)∧NewAt w.heap.size a'∧Own eS w' a' n' 9 l∧Ext w w'):=by
  refine oV Tryz.func7 ?_;refine (spec_l00From h).mono ?_;rintro _ w5 ⟨a'1,rfl,N2,S3,e4⟩;refine bS mk_24 (vs:=[]) ?_;intro b6 w6 g6 l6 e6 B6;have G6:=Grow.new0 (enc:=eS) eS_len B6 g6;refine (spec_pick (S3.ext e6) (by omega) (by omega)).mono ?_;rintro _ w13 ⟨r7,rfl,q8,q9,q10,S11,m12⟩;refine SemK.add _ rfl (by omega) (by omega) ?_;refine lR [3,4,5] (fun (j:Int) vs w'=>∃ a1 n1 c1 xs1,vs=[.pointer a'1,.slice a1 n1 c1,.int .i64 j]∧0≤j∧j≤9∧n1+j≤9∧(∀ x∈xs1,lineOk x)∧Grow eS 1 w5.heap.size 9 w' a1 n1 c1 xs1∧Src w' a'1 (20+4 * (9 - j).toNat)∧Mod (blkIn a'1) w5 w') (fun j=>j.toNat) (1+r7)
    ⟨_,_,_,[],rfl,by omega,by omega,by omega,by simp,G6.mod m12 (apart' G6.new S3.lt (Nat.le_refl _)),S11.more (by omega),e6.mod.trans m12⟩ ?_
  rintro j g _ w3 ⟨a1,n1,c1,xs1,rfl,hj,hjm,hn1,hok1,hG,hS,hMo⟩;(conv=>whnf);with_reducible refine IfB.dec (fun h9=>?_) (fun h9=>?_)
  · refine (spec_l28Line hS (by omega)).mono ?_;rintro _ w14 ⟨x10,rfl,q11,S12,m13⟩;refine bS mk_24 (vs:=[Value.string x10]) ?_;intro b19 w19 g19 l19 e19 B19;have G19:=Grow.of_blk (n:=1) (enc:=eS) (xs:=[x10]) eS_len B19 g19 rfl (by decide);have z6:=e6.size;have zM:=hMo.size;have z13:=m13.size;have z19:=e19.size;refine SemK.appendArr0 (enc:=eS) mk_24 eS_len ((hG.mod m13 (apart' hG.new S3.lt (Nat.le_refl _))).ext e19) (G19.own.arr eS_len) (by intro y _;simp [eS,cellish]) (by omega) (by omega) (by omega) ?_;intro a20 c20 w20 G20 m20 i20;refine SemK.sub (j - 1) rfl (by omega) (by omega) ?_;refine ⟨j - 1,by omega,a20,n1+1,c20,xs1++[x10],rfl,by omega,by omega,by omega,fun x hx=>?_,G20,?_,?_⟩
    · rcases List.mem_append.1 hx with hx | hx
      · exact hok1 x hx
      · rw [List.mem_singleton] at hx;subst hx;exact q11
    · exact ((S12.ext e19).mod m20 (later S3.lt hG.new (Nat.le_refl _))).more (by omega)
    · exact ((hMo.trans m13).trans e19.mod).trans_new m20 (fun k hk=>blkIn_new hG.new k hk)
  · have hlt:=hG.le.1;exact ⟨_,_,_,xs1,rfl,by omega,hlt,hok1,hG.new.mono e4.size,hG.own,xm e4 hMo (blkIn_new N2)⟩
end Go.Proofs.YthadkoinmohmlaaGreatDoor
