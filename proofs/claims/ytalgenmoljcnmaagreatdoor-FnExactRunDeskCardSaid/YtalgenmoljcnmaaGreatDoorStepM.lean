/- Parts of the proof; no conditions of its own. -/
import Derived.Test.YtalgenmoljcnmaaGreatDoorCardsM
import Derived.Test.YtalgenmoljcnmaaGreatDoorNum
import Derived.Test.YtalgenmoljcnmaaGreatDoorTable
import Derived.Test.YtalgenmoljcnmaaGreatDoorLibSl
import Derived.Test.YtalgenmoljcnmaaGreatDoorVcWrite
namespace Go.M
open Go Go.Vc
def Lo (c:UInt8):Bool:=decide (c∈Mf)
def CM (t:ByteArray):Bool:=t.data.toList.all Lo
def CR (t:ByteArray):List Int:=t.data.toList.map fun c=>EA c.toNat
def CG (t:ByteArray):Int:=if Dc t.size 1 20=false then 2 else if CM t=false then 7 else 0
def BG (c:List Int):Int:=if E2 c=false then 1 else if Dd c=false then 8 else 0
def Da (d:List (List Int)) (f:AF):Bool:=d.all fun c=>Dd (AZ c f)
def BO (ds:List (List (List Int))) (ts:List ByteArray) (f:AF):Int :=
 if ds.any (fun d=>!Ax d)=true then 1
 else if ds.any (fun d=>!AR f (AJ d))=true then 2
 else if ts.any (fun t=>!decide ((t.size:Int)=f.to_ - f.from_))=true then 2
 else if ts.any (fun t=>!CM t)=true then 7
 else if ds.any (fun d=>!Da d f)=true then 8 else 0
def He (d:List (List Int)) (f:AF) (i:Nat):Bool:=decide (0<i) && decide (CT (AS f (d.getD i [])) (AS f (d.getD (i - 1) []))<0)
def E8 (d:List (List Int)) (f:AF) (n:Nat):List Nat:=(List.range n).filter (He d f)
def GA (d:List (List Int)) (f:AF):Bool:=decide ((E8 d f d.length).length=0)
noncomputable def CE (a b:List (List Int)) (f:AF):List (List Int)×Int :=
 if BO [a,b] [] f≠0 then ([],BO [a,b] [] f)
 else if a≠[]/\b≠[]/\AJ a≠AJ b then ([],9)
 else if GA a f=false\/GA b f=false then ([],6)
 else if 40<a.length+b.length then ([],5)
 else (KR (a++b) f,0)
def KB (d:List (List Int)) (c:List Int) (f:AF):Bool:=d.any fun x=>decide (CT (AS f x) (AS f c)=0)
def Ca (d o:List (List Int)) (f:AF) (e:Bool):List (List Int):=d.filter fun c=>decide (KB o c f=e)
def CS (a b:List (List Int)) (f:AF):Int :=
 if BO [a,b] [] f≠0 then BO [a,b] [] f else if GA a f=false\/GA b f=false then 6 else 0
def Cy (f:AF) (c:List Int) (t:ByteArray):Int:=CT (AS f c) (CK (CR t))
def Cp (d:List (List Int)) (f:AF) (t:ByteArray):List (List Int)×Int :=
 if BO [d] [t,t] f≠0 then ([],BO [d] [t,t] f) else (d.filter fun c=>decide (Cy f c t=0),0)
def EH (d:List (List Int)) (f:AF):List (List Int)×Int :=
 if BO [d] [] f≠0 then ([],BO [d] [] f) else ((Aw (d.map (AS f))).map fun i=>d.getD i [],0)
noncomputable def Fy (d:List (List Int)) (f:AF):List (List Int)×Int:=if (Bn d f).2≠0 then ([],(Bn d f).2) else (KR d f,0)
def Dp (d:List (List Int)) (f:AF):Int:=(D7 d f).foldl (· + ·) 0
def EM (d:List (List Int)) (f:AF):Bool := !d.any fun c=>(EZ (AZ c f)).isNone
def ES (g:List (List Int)) (f:AF):ByteArray:=Cd (AS f (g.headD []))
def Az (d:List (List Int)) (f s:AF):List A9×Int :=
 if EM d s=false\/Da d f=false then ([],8) else ((Be d f).map fun g=>⟨ES g f,Dp g s⟩,0)
structure EB where
 kind:Int
 a:Int
 b:Int
 dst:Int
 field:AF
 sum:AF
 text:ByteArray
def EB.enc (x:EB):List Value:=[.int .i64 x.kind,.int .i64 x.a,.int .i64 x.b,.int .i64 x.dst]++x.field.enc++x.sum.enc++[.string x.text]
def EB.ok (x:EB):Prop:=BM x.kind/\BM x.a/\BM x.b/\BM x.dst/\x.field.ok/\x.sum.ok/\x.text.size<=1048576
def DV (k:Int):Bool:=Dc k 2 4
def BE (x:EB) (width:Int):Bool :=
 if Dc width 1 20=false\/Dc x.kind 1 7=false\/Dc x.a 0 5=false\/Dc x.b 0 5=false\/Dc x.dst 0 5=false then false
 else if (x.b≠0/\DV x.kind=false)\/(x.dst≠0/\x.kind=7)\/AR x.field width=false then false
 else if (x.kind=7/\Af x.sum width=false)\/(x.kind≠7/\¬ (x.sum.from_=0/\x.sum.to_=0)) then false
 else if x.kind=5 then CM x.text && decide ((x.text.size:Int)=x.field.to_ - x.field.from_)
 else decide (x.text.size=0)
noncomputable def BX (a b:List (List Int)) (x:EB):List (List Int)×Int :=
 if x.kind=1 then Fy a x.field else if x.kind=2 then CE a b x.field else if x.kind=5 then Cp a x.field x.text else if x.kind=6 then EH a x.field
 else if CS a b x.field≠0 then ([],CS a b x.field) else (Ca a b x.field (decide (x.kind=3)),0)
abbrev aA3:=List (List (List Int))×List (List A9)
noncomputable def Am (X:List (List (List Int))) (Y:List (List A9)) (width:Nat) (x:EB):aA3×Int :=
 if BE x width=false then (([],[]),2)
 else if x.kind=7/\Y.length=20 then (([],[]),5)
 else if x.kind=7 then (if (Az (X.getD x.a.toNat []) x.field x.sum).2≠0 then (([],[]),(Az (X.getD x.a.toNat []) x.field x.sum).2) else ((X,Y++[(Az (X.getD x.a.toNat []) x.field x.sum).1]),0))
 else if (BX (X.getD x.a.toNat []) (X.getD x.b.toNat []) x).2≠0 then (([],[]),(BX (X.getD x.a.toNat []) (X.getD x.b.toNat []) x).2)
 else ((X.set x.dst.toNat (BX (X.getD x.a.toNat []) (X.getD x.b.toNat []) x).1,Y),0)
def Bh (d:List (List Int)) (f s:AF):Int :=
 if Ax d=false then 1 else if AR f (AJ d)=false\/Af s (AJ d)=false then 2 else if EM d s=false\/Da d f=false then 8 else 0
def Fh (g:List (List Int)) (f s:AF):ByteArray:=bs [42]++ES g f++bs [32]++BP (Dp g s)
def G7 (d:List (List Int)) (f s:AF):List ByteArray×Int :=
 if Bh d f s≠0 then ([],Bh d f s) else (((Be d f).map fun g=>Fh g f s)++[bs [42,42,32]++BP (Dp d s)],0)
structure Ag where
 col:Int
 mode:Int
def Ag.enc (p:Ag):List Value:=[.int .i64 p.col,.int .i64 p.mode]
instance:Inhabited Ag:=⟨⟨0,0⟩⟩
def DT (m:Int) (k:Nat):Bool:=decide (m / 2 ^ k % 2=1)
def Ia:Nat->Int->Option Nat
 | 0,_=>none
 | k+1,m=>if DT m (k+3)=true then some (k+1) else Ia k m
def Ci (m mode:Int):Int :=
 if mode=1 then (match Ia 9 m with | some d=>(d:Int) | none=>if m=4 then 0 else 12)
 else if DT m 0=true then 11 else if DT m 1=true then 10 else if DT m 2=true/\¬ m / 8=0 then 0 else if ¬ m=0 then 1 else 12
def BF (mode:Int):List Int:=if mode=2 then [12,11,10,0,1] else [12,0,1,2,3,4,5,6,7,8,9]
def Dt (p:Ag) (k:Int) (c:List Int):Bool:=decide (Ci (c.getD p.col.toNat 0) p.mode=k)
def Cn (d:List (List Int)) (p:Ag):List (List (List Int)):=(List.range 13).map fun (k:Nat)=>d.filter (Dt p k)
def Gv (d:List (List Int)) (p:Ag):List (List Int):=(BF p.mode).flatMap fun k=>(Cn d p).getD k.toNat []
def Ch (d:List (List Int)) (l:List Ag):List (List Int):=l.foldl Gv d
def Bt (f:AF):List Ag:=(List.range (CF f)).flatMap fun (i:Nat)=>[⟨f.to_ - 1 - i,1⟩,⟨f.to_ - 1 - i,2⟩]
def DB (n s:Nat):List Nat:=(List.range n).filter fun i=>s.testBit i
def Bp (full:List Ag) (own:List Nat):List Ag:=own.map fun i=>full.getD i default
def E5:List Nat->List Nat->Int
 | [],[]=>0
 | [],_ :: _=>-1
 | _ :: _,[]=>1
 | x :: xs,y :: ys=>if x<y then -1 else if y<x then 1 else E5 xs ys
def Co (d:List (List Int)) (due:List (List Int)) (full:List Ag) (st:List Nat×Bool) (s:Nat):List Nat×Bool :=
 if st.2=true/\st.1.length<(DB full.length s).length then st
 else if (st.2=true/\(DB full.length s).length=st.1.length/\0<E5 (DB full.length s) st.1)\/¬ Ch d (Bp full (DB full.length s))=due then st
 else (DB full.length s,true)
noncomputable def Mi (d:List (List Int)) (f:AF) (k:Nat):List Nat×Bool:=(List.range k).foldl (Co d (KR d f) (Bt f)) ([],false)
noncomputable def Fq (d:List (List Int)) (f:AF):List Ag×Int :=
 if (Bn d f).2≠0 then ([],(Bn d f).2) else if 4<f.to_ - f.from_ then ([],5) else (Bp (Bt f) (Mi d f (2 ^ (Bt f).length)).1,0)
def Bb (p:Ag):ByteArray:=BP p.col++(if p.mode=1 then bs [100] else bs [122])
def Dh (sep:UInt8) (l:List ByteArray):ByteArray:=bs (Lib.join (l.map (·.data.toList)) [sep])
def EN (s:ByteArray):ByteArray:=if s.size=0 then bs [45] else s
structure Bv where
 X:List (List (List Int))
 Y:List (List A9)
 s:ByteArray
structure C7 where
 trays:List Int
 nums:List Int
 fields:List AF
 texts:List ByteArray
def CP:ByteArray:=⟨#[99,97,114,100]⟩
def CH:ByteArray:=⟨#[99,108,101,97,114]⟩
def Cx:ByteArray:=⟨#[102,105,114,115,116]⟩
def Ha:ByteArray:=⟨#[108,111,103]⟩
def DP:ByteArray:=⟨#[109,97,116,99,104]⟩
def DD:ByteArray:=⟨#[109,101,114,103,101]⟩
def Dz:ByteArray:=⟨#[110,111,116,101]⟩
def Cm:ByteArray:=⟨#[112,97,115,115,101,115]⟩
def EV:ByteArray:=⟨#[114,101,115,116]⟩
def Bz:ByteArray:=⟨#[115,101,108,101,99,116]⟩
def Cb:ByteArray:=⟨#[115,104,111,119]⟩
def Di:ByteArray:=⟨#[115,111,114,116]⟩
def GC:ByteArray:=⟨#[116,97,98]⟩
def BK:ByteArray:=⟨#[116,111,116,97,108]⟩
def BW (w:ByteArray):List UInt8 :=
 if w=CP then [116,120] else if w=CH\/w=Cb then [116] else if w=Di\/w=Cx then [116,102,116]
 else if w=DD\/w=DP\/w=EV then [116,116,102,116] else if w=Bz then [116,102,120,116] else if w=BK then [116,102,102]
 else if w=Cm then [116,102] else if w=GC then [116,102,102] else if w=Dz then [116,110,120] else []
def B1 (s:ByteArray):AF×Bool :=
 (⟨Al (bs (Lib.cut s.data.toList [45]).1),Al (bs (Lib.cut s.data.toList [45]).2.1)⟩,
  (Lib.cut s.data.toList [45]).2.2 && Ef (bs (Lib.cut s.data.toList [45]).1) && Ef (bs (Lib.cut s.data.toList [45]).2.1) && decide (0<=Al (bs (Lib.cut s.data.toList [45]).1)) && decide (0<=Al (bs (Lib.cut s.data.toList [45]).2.1)))
def Cl (a:C7) (p:UInt8) (w:ByteArray):C7×Bool :=
 if p=116 then ({ a with trays:=a.trays++[Al w] },Ef w) else if p=110 then ({ a with nums:=a.nums++[Al w] },Ef w)
 else if p=102 then ({ a with fields:=a.fields++[(B1 w).1] },(B1 w).2) else ({ a with texts:=a.texts++[w] },true)
def D0:C7:=⟨[],[],[],[]⟩
def Cs (ps:List (UInt8×ByteArray)):C7×Bool:=ps.foldl (fun st p=>if st.2=true then Cl st.1 p.1 p.2 else st) (D0,true)
def Bd (p:List UInt8) (ws:List ByteArray):C7×Int :=
 if (Cs (p.zip ws)).2=false then (D0,7) else if (Cs (p.zip ws)).1.trays.any (fun t=>!Dc t 0 5)=true then (D0,2) else ((Cs (p.zip ws)).1,0)
def CI (l:List ByteArray):List ByteArray:=l++[bs [111,107,32]++BP l.length]
def DZ (w:ByteArray):Int:=if w=Di then 1 else if w=Cx then 6 else if w=DD then 2 else if w=DP then 3 else if w=EV then 4 else if w=Bz then 5 else if w=BK then 7 else 0
def BT (w:ByteArray) (a:C7):EB :=
  { kind:=DZ w,a:=a.trays.getD 0 0,b:=if DV (DZ w)=true then a.trays.getD 1 0 else 0,dst:=if w=BK then 0 else a.trays.getD (a.trays.length - 1) 0,
    field:=a.fields.getD 0 ⟨0,0⟩,sum:=if w=BK then a.fields.getD 1 ⟨0,0⟩ else ⟨0,0⟩,text:=if w=Bz then a.texts.getD 0 ⟨#[]⟩ else ⟨#[]⟩ }
def CQ (t:A9):ByteArray:=t.name++bs [61]++BP t.sum
def GF (l:List A9):ByteArray:=Dh 59 (l.map CQ)
noncomputable def BC (D:Bv) (w:ByteArray) (a:C7):(Bv×List ByteArray)×Int :=
  if w=Ha then ((D,CI ((BQ D.s).1.map DG)),(BQ D.s).2.2)
  else if w=CP then
    (if CG (a.texts.getD 0 ⟨#[]⟩)≠0 then ((D,[]),CG (a.texts.getD 0 ⟨#[]⟩))
     else if Ap (D.X.set (a.trays.getD 0 0).toNat (D.X.getD (a.trays.getD 0 0).toNat []++[CR (a.texts.getD 0 ⟨#[]⟩)])) D.Y.length=false then ((D,[]),6)
     else (({ D with X:=D.X.set (a.trays.getD 0 0).toNat (D.X.getD (a.trays.getD 0 0).toNat []++[CR (a.texts.getD 0 ⟨#[]⟩)]) },[C6 (At (D.X.set (a.trays.getD 0 0).toNat (D.X.getD (a.trays.getD 0 0).toNat []++[CR (a.texts.getD 0 ⟨#[]⟩)])))]),0))
  else if w=CH then (({ D with X:=D.X.set (a.trays.getD 0 0).toNat [] },[C6 (At (D.X.set (a.trays.getD 0 0).toNat []))]),0)
  else if w=Cb then
    (match (D.X.getD (a.trays.getD 0 0).toNat []).find? (fun c=>decide (BG c≠0)) with
     | some c=>((D,[]),BG c)
     | none=>((D,CI ((D.X.getD (a.trays.getD 0 0).toNat []).map fun c=>Cd (CK c))),0))
  else if w=Dz then
    (if (A3 D.s ⟨a.trays.getD 0 0,(D.X.getD (a.trays.getD 0 0).toNat []).length,a.nums.getD 0 0,a.texts.getD 0 ⟨#[]⟩⟩).2≠0 then ((D,[]),(A3 D.s ⟨a.trays.getD 0 0,(D.X.getD (a.trays.getD 0 0).toNat []).length,a.nums.getD 0 0,a.texts.getD 0 ⟨#[]⟩⟩).2)
     else (({ D with s:=(A3 D.s ⟨a.trays.getD 0 0,(D.X.getD (a.trays.getD 0 0).toNat []).length,a.nums.getD 0 0,a.texts.getD 0 ⟨#[]⟩⟩).1 },[BP (D1 (A3 D.s ⟨a.trays.getD 0 0,(D.X.getD (a.trays.getD 0 0).toNat []).length,a.nums.getD 0 0,a.texts.getD 0 ⟨#[]⟩⟩).1).1]),
       (D1 (A3 D.s ⟨a.trays.getD 0 0,(D.X.getD (a.trays.getD 0 0).toNat []).length,a.nums.getD 0 0,a.texts.getD 0 ⟨#[]⟩⟩).1).2))
  else if w=Cm then ((D,[EN (Dh 32 ((Fq (D.X.getD (a.trays.getD 0 0).toNat []) (a.fields.getD 0 ⟨0,0⟩)).1.map Bb))]),(Fq (D.X.getD (a.trays.getD 0 0).toNat []) (a.fields.getD 0 ⟨0,0⟩)).2)
  else if w=GC then ((D,CI (G7 (D.X.getD (a.trays.getD 0 0).toNat []) (a.fields.getD 0 ⟨0,0⟩) (a.fields.getD 1 ⟨0,0⟩)).1),(G7 (D.X.getD (a.trays.getD 0 0).toNat []) (a.fields.getD 0 ⟨0,0⟩) (a.fields.getD 1 ⟨0,0⟩)).2)
  else if (Am D.X D.Y (AH D.X) (BT w a)).2≠0 then ((D,[]),(Am D.X D.Y (AH D.X) (BT w a)).2)
  else if w≠BK then (({ D with X:=(Am D.X D.Y (AH D.X) (BT w a)).1.1,Y:=(Am D.X D.Y (AH D.X) (BT w a)).1.2 },[C6 (At (Am D.X D.Y (AH D.X) (BT w a)).1.1)]),0)
  else (({ D with X:=(Am D.X D.Y (AH D.X) (BT w a)).1.1,Y:=(Am D.X D.Y (AH D.X) (BT w a)).1.2 },[EN (GF ((Am D.X D.Y (AH D.X) (BT w a)).1.2.getLastD []))]),0)
def deskWordsM:List ByteArray:=[CP,CH,Cx,Ha,DP,DD,Dz,Cm,EV,Bz,Cb,Di,GC,BK]
def EI:List ByteArray:=[⟨#[111,107]⟩,⟨#[105,110,118,97,108,105,100]⟩,⟨#[114,97,110,103,101]⟩,⟨#[110,111,116,45,102,111,117,110,100]⟩,⟨#[101,120,105,115,116,115]⟩,⟨#[102,117,108,108]⟩,⟨#[115,116,97,116,101]⟩,⟨#[115,121,110,116,97,120]⟩,⟨#[102,111,114,109,97,116]⟩,⟨#[99,108,97,115,104]⟩,⟨#[106,97,109]⟩]
def Ew (k:Int):ByteArray:=if Dc k 0 10=false then ⟨#[]⟩ else EI.getD k.toNat ⟨#[]⟩
def E1 (k:Int):ByteArray:=bs [101,114,114,111,114,32]++Ew k
def LW:Bv:=⟨[],[],⟨#[]⟩⟩
noncomputable def Ez (D:Bv) (line:ByteArray):(Bv×List ByteArray)×Int :=
 if Fe D.X D.Y.length D.s=false then ((LW,[]),1)
 else if ¬ (deskWordsM.any fun x=>decide (x=(Aq 32 line).headD ⟨#[]⟩))=true\/¬ (Aq 32 line).length - 1=(BW ((Aq 32 line).headD ⟨#[]⟩)).length then ((LW,[]),7)
 else if (Bd (BW ((Aq 32 line).headD ⟨#[]⟩)) ((Aq 32 line).drop 1)).2≠0 then ((D,[E1 (Bd (BW ((Aq 32 line).headD ⟨#[]⟩)) ((Aq 32 line).drop 1)).2]),0)
 else if (BC D ((Aq 32 line).headD ⟨#[]⟩) (Bd (BW ((Aq 32 line).headD ⟨#[]⟩)) ((Aq 32 line).drop 1)).1).2≠0 then ((D,[E1 (BC D ((Aq 32 line).headD ⟨#[]⟩) (Bd (BW ((Aq 32 line).headD ⟨#[]⟩)) ((Aq 32 line).drop 1)).1).2]),0)
 else BC D ((Aq 32 line).headD ⟨#[]⟩) (Bd (BW ((Aq 32 line).headD ⟨#[]⟩)) ((Aq 32 line).drop 1)).1
end Go.M
namespace Go.Proofs.YtalgenmoljcnmaaGreatDoor
open Go Go.RowKit Go.Vc Go.M
variable {w:World} {xs:List Int}
theorem J6 (x:Int) (w:World):Dq 320 [.int .i64 x] w (fun v w'=>v = .bool (!decide (x=0))/\AD w w'):=by
 refine oV Tryz.func320 ?_;exact ⟨rfl,AD.refl _⟩
theorem RT {d:Hd} (R:Aa w d xs) (hm:∀ m∈xs,0<=m/\m<=4095) {f:AF} (hf:Af f xs.length=true) :
  Dq 285 [.agg ⟨eH d⟩,.agg ⟨f.enc⟩] w (fun v w'=>v = .tuple #[.int .i64 (DC (AZ xs f)).1,.bool (DC (AZ xs f)).2]/\AD w w'):=by
 obtain ⟨a4,bv⟩:=R;have cg:=a4.len;simp only [Af,Bool.and_eq_true,decide_eq_true_eq] at hf;have bo:=BV hf.1;have bm:=hf.2;obtain ⟨a7,a8⟩:=f;simp only at bo bm;obtain ⟨a,rfl⟩:∃ a:Nat,a7=a:=⟨a7.toNat,om⟩;obtain ⟨b,rfl⟩:∃ b:Nat,a8=b:=⟨a8.toNat,om⟩;have bc:∀ m∈AZ xs ⟨(a:Int),(b:Int)⟩,0<=m/\m<=4095:=fun m bu=>hm m (LS bu);obtain ⟨i,a1⟩:∃ i,(xs.drop a).take (b - a)=i:=⟨_,rfl⟩;have bz:AZ xs ⟨(a:Int),(b:Int)⟩=i:=by unfold AZ;simpa using a1
 rw [bz] at bc ⊢;have bb:i.length=b - a:=by rw [<- a1];simp;omega
 obtain ⟨q,m,aj⟩:∃ q m,i=q++[m]:=⟨i.dropLast,i.getLast (by intro af;subst af;simp at bb;omega),(List.dropLast_concat_getLast _).symm⟩;have ci:q.length+1=b - a:=by rw [<- bb,aj];simp
 have ac:i[b - a - 1]? = some m:=by rw [aj,List.getElem?_append_right om];simp [show b - a - 1 - q.length=0 by omega]
 have ad:=bc m (List.mem_of_getElem? ac);have b0:i.set (b - a - 1) (DL m)=q++[DL m]:=by rw [aj,List.set_append,if_neg om];simp [show b - a - 1 - q.length=0 by omega]
 have cc:=XS ad.1 ad.2;have a9:CC 11=2:=Mh rfl;have hand:=aF1 ad.1 ad.2;have bn:=Z8 ad.1 ad.2;refine oV Tryz.func285 ?_;refine AB.box ?_;intro b6 cn b9 ck an bg;refine AB.box fun b7 b3 b' cl ag a6=>jL (bg.ext ag).cells (k:=0) rfl<|jL a6.cells (k:=0) rfl<|jL a6.cells (k:=1) rfl<|AB.slice (k := .i64) (k' := .i64) kR (a4.ext (xt an ag)) a b om om bv (.inr (by rfl)) (.inr (by rfl)) ?_;rw [a1];intro b5 a5;have aq:i.any (fun e=>!decide (e=0)) = !decide (∀ e∈i,e=0):=by
  rw [Bool.eq_iff_iff];simp [List.any_eq_true]
 by_cases ar:∀ e∈i,e=0
 .have ch:=Yu ar;rw [decide_eq_true ar] at aq;refine (IV a5 om).mono ?_;rintro _ be ⟨bj,av,rfl,bh,s,aw⟩;refine dM (Dg (s.own.arr AI) (p:=fun e=>!decide (e=0)) (cap:=[]) (fun e _ w' _=>J6 e w')) fun b2 u=>?_;rw [aq];exact ⟨by simp_all,(xt (xt (xt an ag) aw) u)⟩
 .have a2:=Yv q m (by rw [<- aj];exact ar);rw [<- aj] at a2;rw [decide_eq_false ar] at aq;refine (IV a5 om).mono ?_;rintro _ be ⟨bj,av,rfl,bh,s,aw⟩;refine dM (Dg (s.own.arr AI) (p:=fun e=>!decide (e=0)) (cap:=[]) (fun e _ w' _=>J6 e w')) fun b2 u=>?_;rw [aq];refine AB.sub (((b - a - 1:Nat):Int)) om om om<|dH (pB [0,2,4,6,9,11,13,15]) ?_;intro co z;obtain ⟨am,rfl⟩:=((s.ext u).own).some om;have bl:b3.heap.size<=am:=s.new _ rfl;have cm:am<be.heap.size:=s.lt _ rfl;refine CN (sz:=1) kR (b - a - 1) rfl om ?_;have bq:=AT AI (s.ext u).own ac;refine dO bq rfl<|dM (B9 _ _) fun cp aa=>⟨(xt z aa),AB.and ⟨(xt z aa),Av A8 mixed (pZ [0,5,10,16,22,25,30,38]) kR kR fun cq ax=>pW (sz:=1) (b - a - 1) rfl om ?_⟩⟩;have br:=AT AI (s.ext (xt (xt u z) aa)).own ac;refine dO br rfl<|dM (B9 _ _) fun cr ay=>⟨(xt ax ay),DN.andNot<|pW (sz:=1) (b - a - 1) rfl om ?_⟩;have cb:=AT AI (s.ext (xt (xt u z) aa)).own ac;refine HC (k:=b - a - 1) (j:=0) kR AI (s.ext (xt (xt (xt (xt u z) aa) ax) ay)) ac dE rfl (JO IntKind.i64 m (CC 11)) rfl ?_;intro bf bk n;have cj:=Eo ac ((JO IntKind.i64 m (CC 11)));(conv=>whnf);have bw:(!decide (FM IntKind.i64 m (CC 11)=0))=Ds m:=by
   rw [a9,hand];cases Ds m<;>simp
  rw [bw];rw [a9,bn,b0] at n;generalize ao:q++[DL m]=al at n;have ca:al.length=b - a:=by rw [<- ao];simp;omega
  have ap:al[b - a - 1]? = some (DL m):=by rw [<- ao,List.getElem?_append_right om];simp [show b - a - 1 - q.length=0 by omega]
  have bi:AD w bf:=xb (xt (xt (xt (xt (xt (xt (xt an ag) aw) u) z) aa) ax) ay) bk.but (nB (xt an ag) bl);refine lR [6,7,8,9,10,42,43,44] (fun (c:Nat) b1 w'=>∃ ak y,b1=[.slice (some ⟨am,0,none⟩) (b - a) av,.int .i64 ((b - a - 1:Nat):Int),.bool (Ds m),.int .i64 ak,.bool y,.slice (some ⟨am,0,none⟩) (b - a) av,.int .i64 ((b - a:Nat):Int),.int .i64 c]/\c<=b - a/\(al.take c).foldl B3 (some (0,false))=some (ak,y)/\AD bf w') (fun c=>b - a - c) 0 ⟨0,false,rfl,om,sI,AD.refl _⟩ ?_;rintro c b8 _ b4 ⟨ak,y,rfl,ce,ai,h⟩;have t:AD w b4:=xt bi h;rcases Nat.lt_or_ge c (b - a) with bt | bt
  .obtain ⟨e,ae⟩:=AA (l:=al) (k:=c) om;have ab:=SR ae (some (0,false));rw [ai,D8] at ab;have bx:=KV ai (by simp;omega);have cd:=KE e;by_cases ah:e=0/\y=false
   .rw [if_pos ah] at ab;obtain ⟨bd,bp⟩:=ah;subst bp;refine iY<|jW (sz:=1) c rfl om ?_;have g:=AT AI (n.ext h).own ae;exact jO g rfl<|dM (GK _ _) fun au o=>iY<|jP (((c+1:Nat):Int)) ⟨c+1,om,_,_,rfl,om,om,(xt h o)⟩
   .rw [if_neg ah] at ab;by_cases a':B4 e<0
    .rw [if_pos a'] at ab;have x:=Th (r:=q) (m:=m) (by rw [ao];exact SS ab);rw [a2] at x;cases y
     .have bd:¬ e=0:=fun af=>ah ⟨af,rfl⟩;refine iY<|jW (sz:=1) c rfl om ?_;have g:=AT AI (n.ext h).own ae;exact jO g rfl<|dM (GK _ _) fun au o=>iN<|iY ⟨by simp_all,(xt t o)⟩
     .refine iY<|jW (sz:=1) c rfl om ?_;have g:=AT AI (n.ext h).own ae;refine jO g rfl<|dM (GK _ _) fun au o=>AL (fun az=>?_) fun az=>?_
      .exact iY ⟨by simp_all,(xt t o)⟩
      .exact iY ⟨by simp_all,(xt t o)⟩
    .rw [if_neg a'] at ab;cases y
     .have bd:¬ e=0:=fun af=>ah ⟨af,rfl⟩;refine iY<|jW (sz:=1) c rfl om ?_;have g:=AT AI (n.ext h).own ae;exact jO g rfl<|dM (GK _ _) fun au o=>iN<|iN<|AB.mul _ rfl om om<|AB.add _ rfl om om<|jP (((c+1:Nat):Int)) ⟨c+1,om,_,_,rfl,om,om,(xt h o)⟩
     .refine iY<|jW (sz:=1) c rfl om ?_;have g:=AT AI (n.ext h).own ae;refine jO g rfl<|dM (GK _ _) fun au o=>AL (fun az=>?_) fun az=>?_
      .exact iN<|AB.mul _ rfl om om<|AB.add _ rfl om om<|jP (((c+1:Nat):Int)) ⟨c+1,om,_,_,rfl,om,om,(xt h o)⟩
      .exact iN<|AB.mul _ rfl om om<|AB.add _ rfl om om<|jP (((c+1:Nat):Int)) ⟨c+1,om,_,_,rfl,om,om,(xt h o)⟩
  .have cf:c=b - a:=om
   have bx:=KV ai (by simp;omega);rw [List.take_of_length_le om] at ai;have x:=Tg (r:=q) (m:=m) (by rw [ao];exact ai);rw [a2] at x;cases y
   .rw [if_pos (.inl rfl)] at x;exact iN ⟨by simp_all,t⟩
   .by_cases a0:DL m=0
    .rw [if_pos (.inr (.inl a0))] at x;refine iN<|jW (sz:=1) (b - a - 1) rfl om ?_;have g:=AT AI (n.ext h).own ap;exact jO g rfl<|iY ⟨by simp_all,t⟩
    .cases a3:Ds m
     .rw [a3,if_neg (by simp [a0]),if_neg sI] at x;refine iN<|jW (sz:=1) (b - a - 1) rfl om ?_;have g:=AT AI (n.ext h).own ap;exact jO g rfl<|iN ⟨by simp_all,t⟩
     .by_cases ba:ak=0
      .rw [if_pos (.inr (.inr ⟨a3,ba⟩))] at x;refine iN<|jW (sz:=1) (b - a - 1) rfl om ?_;have g:=AT AI (n.ext h).own ap;exact jO g rfl<|iN<|iY ⟨by simp_all,t⟩
      .rw [a3,if_neg (by simp [a0,ba]),if_pos rfl] at x;refine iN<|jW (sz:=1) (b - a - 1) rfl om ?_;have g:=AT AI (n.ext h).own ap;exact jO g rfl<|iN<|iN<|AB.neg (-ak) rfl om om ⟨by simp_all,t⟩
theorem Jq {a:Option Addr} {n c:Nat} (h:A4 eI 1 w a n xs) (hn12:n<=12) (hm:∀ m∈xs,0<=m/\m<=4095) :
  Dq 240 [.slice a n c] w (fun v w'=>v = .tuple #[.int .i64 (DC xs).1,.bool (DC xs).2]/\AD w w'):=by
 have aw:=h.len;rcases Nat.eq_zero_or_pos n with a2 | a2
 .subst a2;have af:xs=[]:=List.eq_nil_of_length_eq_zero aw;subst af;have a9:DC []=(0,true):=rfl;rw [a9];refine oV Tryz.func240 ?_;conv=>whnf
  refine lR [0,4,5,6,7] (fun (d:Nat) ax w'=>ax=[.slice a 0 c,.int .i64 0,.bool false,.bool false,.int .i64 0]/\AD w w') (fun d=>d) 0 ⟨rfl,AD.refl _⟩ ?_;rintro d a3 _ bd ⟨rfl,b⟩;(conv=>whnf);exact ⟨rfl,b⟩
 obtain ⟨aj,m,s⟩:∃ aj m,xs=aj++[m]:=⟨xs.dropLast,xs.getLast (by intro u;subst u;simp at aw;omega),(List.dropLast_concat_getLast _).symm⟩;have bm:aj.length+1=n:=by rw [<- aw,s];simp
 have y:xs[n - 1]? = some m:=by rw [s,List.getElem?_append_right om];simp [show n - 1 - aj.length=0 by omega]
 have a':xs.take (n - 1)=aj:=by rw [s];simp [show n - 1=aj.length by omega]
 have al:=hm m (List.mem_of_getElem? y);have bg:=XS al.1 al.2;have hand:=aF1 al.1 al.2;refine oV Tryz.func240 ?_;conv=>whnf
 refine lR [0,4,5,6,7] (fun (d:Nat) ax w'=>∃ g t ab,ax=[.slice a n c,.int .i64 g,.bool t,.bool ab,.int .i64 d]/\d<=n/\(ab=false->(xs.take d).foldl B3 (some (0,false))=some (g,t))/\(ab=true->d=n/\0<=g/\g<=10000000000009/\DC xs=if g=0 then (0,false) else (-g,true))/\(ab=false->d=n->Ds m=false)/\AD w w') (fun d=>n - d) 0 ⟨0,false,false,rfl,om,fun _=>by simp,(fun h=>by cases h),(fun _ h=>by omega),AD.refl _⟩ ?_;rintro d a3 _ bd ⟨g,t,ab,rfl,bi,a0,a1,a4,b⟩;rcases Nat.lt_or_ge d n with a7 | a7
 .obtain rfl:ab=false:=by
   cases ab
   .rfl
   .have:=(a1 rfl).1;omega
  have ae:=a0 rfl;obtain ⟨ak,aa⟩:=AA (l:=xs) (k:=d) om;have f:=SR aa (some (0,false));rw [ae,D8] at f;have bl:=KV ae (by simp;omega);have bh:=KE ak;by_cases a8:d=n - 1
  .subst a8;rw [y] at aa;cases aa
   rw [a'] at ae;cases ah:Ds m
   .have be:FM IntKind.i64 m 2=0:=by rw [hand,ah];rfl
    rw [List.take_of_length_le om] at f;by_cases q:m=0/\t=false
    .rw [if_pos q] at f;obtain ⟨af,ar⟩:=q;subst ar;(conv=>whnf);refine iY ?_;(conv=>whnf);refine jI (h.ext b) (n - 1) rfl y ?_;intro o r p e;(conv=>whnf);refine jO e rfl ?_;(conv=>whnf);refine AB.sub (((n - 1:Nat):Int)) om om om ?_;(conv=>whnf);refine iY ?_;(conv=>whnf);refine AB.and ?_;(conv=>whnf);with_reducible refine Ak (fun j=>?_) (fun j=>?_)
     ·(conv=>whnf);refine AB.sub _ rfl om om ?_;(conv=>whnf);refine iY ?_;(conv=>whnf);refine (BL _ _).mono ?_;rintro _ am ⟨rfl,x⟩;(conv=>whnf);refine iY ?_;(conv=>whnf);exact ⟨om,(xt b x)⟩
     ·(conv=>whnf);refine iY ?_;(conv=>whnf);refine jP (((n - 1+1:Nat):Int)) ?_;(conv=>whnf);refine ⟨n - 1+1,om,g,false,false,rfl,om,(fun _=>by rw [List.take_of_length_le om];exact f),(fun h=>by cases h),(fun _ _=>rfl),?_⟩;exact b
    .rw [if_neg q] at f;by_cases z:B4 m<0
     .rw [if_pos z,s] at f;have ag:=U5 ah f;rw [<- s] at ag;cases t
      .have af:¬ m=0:=fun u=>q ⟨u,rfl⟩;(conv=>whnf);refine iY ?_;(conv=>whnf);refine jI (h.ext b) (n - 1) rfl y ?_;intro o r p e;(conv=>whnf);refine jO e rfl ?_;(conv=>whnf);refine AB.sub (((n - 1:Nat):Int)) om om om ?_;(conv=>whnf);refine iY ?_;(conv=>whnf);refine AB.and ?_;(conv=>whnf);refine iF ?_;(conv=>whnf);refine iN ?_;(conv=>whnf);refine (BL _ _).mono ?_;rintro _ ay ⟨rfl,ac⟩;(conv=>whnf);refine iY ?_;(conv=>whnf);exact ⟨by simp_all,(xt b ac)⟩
      ·(conv=>whnf);refine iY ?_;(conv=>whnf);refine jI (h.ext b) (n - 1) rfl y ?_;intro o r p e;(conv=>whnf);refine jO e rfl ?_;(conv=>whnf);refine AB.sub (((n - 1:Nat):Int)) om om om ?_;(conv=>whnf);refine iY ?_;(conv=>whnf);refine AB.and ?_;(conv=>whnf);refine iF ?_;(conv=>whnf);with_reducible refine AL (fun j=>?_) (fun j=>?_)
       ·(conv=>whnf);refine (BL _ _).mono ?_;rintro _ am ⟨rfl,x⟩;(conv=>whnf);refine iY ?_;(conv=>whnf);exact ⟨by simp_all,(xt b x)⟩
       ·(conv=>whnf);refine (BL _ _).mono ?_;rintro _ az ⟨rfl,ad⟩;(conv=>whnf);refine iY ?_;(conv=>whnf);exact ⟨by simp_all,(xt b ad)⟩
     .rw [if_neg z] at f;cases t
      .have af:¬ m=0:=fun u=>q ⟨u,rfl⟩;(conv=>whnf);refine iY ?_;(conv=>whnf);refine jI (h.ext b) (n - 1) rfl y ?_;intro o r p e;(conv=>whnf);refine jO e rfl ?_;(conv=>whnf);refine AB.sub (((n - 1:Nat):Int)) om om om ?_;(conv=>whnf);refine iY ?_;(conv=>whnf);refine AB.and ?_;(conv=>whnf);refine iF ?_;(conv=>whnf);refine iN ?_;(conv=>whnf);refine (BL _ _).mono ?_;rintro _ ay ⟨rfl,ac⟩;(conv=>whnf);refine iN ?_;(conv=>whnf);refine AB.mul _ rfl om om ?_;(conv=>whnf);refine AB.add _ rfl om om ?_;(conv=>whnf);refine jP (((n - 1+1:Nat):Int)) ?_;(conv=>whnf);refine ⟨n - 1+1,om,10 * g+B4 m,true,false,rfl,om,(fun _=>by rw [List.take_of_length_le om];exact f),(fun h=>by cases h),(fun _ _=>rfl),?_⟩;exact (xt b ac)
      ·(conv=>whnf);refine iY ?_;(conv=>whnf);refine jI (h.ext b) (n - 1) rfl y ?_;intro o r p e;(conv=>whnf);refine jO e rfl ?_;(conv=>whnf);refine AB.sub (((n - 1:Nat):Int)) om om om ?_;(conv=>whnf);refine iY ?_;(conv=>whnf);refine AB.and ?_;(conv=>whnf);refine iF ?_;(conv=>whnf);with_reducible refine AL (fun j=>?_) (fun j=>?_)
       ·(conv=>whnf);refine (BL _ _).mono ?_;rintro _ am ⟨rfl,x⟩;(conv=>whnf);refine iN ?_;(conv=>whnf);refine AB.mul _ rfl om om ?_;(conv=>whnf);refine AB.add _ rfl om om ?_;(conv=>whnf);refine jP (((n - 1+1:Nat):Int)) ?_;(conv=>whnf);refine ⟨n - 1+1,om,10 * g+B4 m,true,false,rfl,om,(fun _=>by rw [List.take_of_length_le om];exact f),(fun h=>by cases h),(fun _ _=>rfl),?_⟩;exact (xt b x)
       ·(conv=>whnf);refine (BL _ _).mono ?_;rintro _ az ⟨rfl,ad⟩;(conv=>whnf);refine iN ?_;(conv=>whnf);refine AB.mul _ rfl om om ?_;(conv=>whnf);refine AB.add _ rfl om om ?_;(conv=>whnf);refine jP (((n - 1+1:Nat):Int)) ?_;(conv=>whnf);refine ⟨n - 1+1,om,10 * g+B4 m,true,false,rfl,om,(fun _=>by rw [List.take_of_length_le om];exact f),(fun h=>by cases h),(fun _ _=>rfl),?_⟩;exact (xt b ad)
   .have bf:FM IntKind.i64 m 2=2:=by rw [hand,ah];rfl
    have au:DL m=m - 2:=by simp [DL,ah]
    have ai:=Tf ah ae;rw [<- s] at ai;have a5:=KE (DL m);by_cases z:B4 (m - 2)<0
    .rw [au,if_pos z] at ai;(conv=>whnf);refine iY ?_;(conv=>whnf);refine jI (h.ext b) (n - 1) rfl y ?_;intro o r p e;(conv=>whnf);refine jO e rfl ?_;(conv=>whnf);refine AB.sub (((n - 1:Nat):Int)) om om om ?_;(conv=>whnf);refine iY ?_;(conv=>whnf);refine AB.and ?_;(conv=>whnf);refine iT ?_;(conv=>whnf);refine AB.sub _ rfl om om ?_;(conv=>whnf);with_reducible refine AL (fun j=>?_) (fun j=>?_)
     ·(conv=>whnf);with_reducible refine A7 (fun aq=>?_) (fun aq=>?_)
      ·(conv=>whnf);refine (BL _ _).mono ?_;rintro _ ba ⟨rfl,an⟩;(conv=>whnf);refine iY ?_;(conv=>whnf);exact ⟨by simp_all,(xt b an)⟩
      ·(conv=>whnf);refine (BL _ _).mono ?_;rintro _ bb ⟨rfl,ao⟩;(conv=>whnf);refine iY ?_;(conv=>whnf);exact ⟨by simp_all,(xt b ao)⟩
     ·(conv=>whnf);refine (BL _ _).mono ?_;rintro _ bc ⟨rfl,ap⟩;(conv=>whnf);refine iY ?_;(conv=>whnf);exact ⟨by simp_all,(xt b ap)⟩
    .rw [au,if_neg z] at ai;rw [au] at a5;(conv=>whnf);refine iY ?_;(conv=>whnf);refine jI (h.ext b) (n - 1) rfl y ?_;intro o r p e;(conv=>whnf);refine jO e rfl ?_;(conv=>whnf);refine AB.sub (((n - 1:Nat):Int)) om om om ?_;(conv=>whnf);refine iY ?_;(conv=>whnf);refine AB.and ?_;(conv=>whnf);refine iT ?_;(conv=>whnf);refine AB.sub _ rfl om om ?_;(conv=>whnf);with_reducible refine AL (fun j=>?_) (fun j=>?_)
     ·(conv=>whnf);with_reducible refine A7 (fun aq=>?_) (fun aq=>?_)
      ·(conv=>whnf);refine (BL _ _).mono ?_;rintro _ ba ⟨rfl,an⟩;(conv=>whnf);refine iN ?_;(conv=>whnf);refine AB.mul _ rfl om om ?_;(conv=>whnf);refine AB.add _ rfl om om ?_;(conv=>whnf);refine jP (((n - 1+1:Nat):Int)) ?_;(conv=>whnf);refine ⟨n - 1+1,om,10 * g+B4 (m - 2),true,true,rfl,om,(fun h=>by cases h),(fun _=>⟨om,om,om,ai⟩),(fun h=>by cases h),?_⟩;exact (xt b an)
      ·(conv=>whnf);refine (BL _ _).mono ?_;rintro _ bb ⟨rfl,ao⟩;(conv=>whnf);refine iN ?_;(conv=>whnf);refine AB.mul _ rfl om om ?_;(conv=>whnf);refine AB.add _ rfl om om ?_;(conv=>whnf);refine jP (((n - 1+1:Nat):Int)) ?_;(conv=>whnf);refine ⟨n - 1+1,om,10 * g+B4 (m - 2),true,true,rfl,om,(fun h=>by cases h),(fun _=>⟨om,om,om,ai⟩),(fun h=>by cases h),?_⟩;exact (xt b ao)
     ·(conv=>whnf);refine (BL _ _).mono ?_;rintro _ bc ⟨rfl,ap⟩;(conv=>whnf);refine iN ?_;(conv=>whnf);refine AB.mul _ rfl om om ?_;(conv=>whnf);refine AB.add _ rfl om om ?_;(conv=>whnf);refine jP (((n - 1+1:Nat):Int)) ?_;(conv=>whnf);refine ⟨n - 1+1,om,10 * g+B4 (m - 2),true,true,rfl,om,(fun h=>by cases h),(fun _=>⟨om,om,om,ai⟩),(fun h=>by cases h),?_⟩;exact (xt b ap)
  .by_cases q:ak=0/\t=false
   .rw [if_pos q] at f;obtain ⟨af,ar⟩:=q;subst ar;(conv=>whnf);refine iY ?_;(conv=>whnf);refine jI (h.ext b) d rfl aa ?_;intro o r p e;(conv=>whnf);refine jO e rfl ?_;(conv=>whnf);refine AB.sub (((n - 1:Nat):Int)) om om om ?_;(conv=>whnf);refine iN ?_;(conv=>whnf);refine iY ?_;(conv=>whnf);refine jP (((d+1:Nat):Int)) ?_;(conv=>whnf);exact ⟨d+1,om,_,_,_,rfl,om,by simp_all,by simp [*],om,b⟩
   .rw [if_neg q] at f;by_cases z:B4 ak<0
    .rw [if_pos z] at f;have ag:DC xs=(0,false):=by
      rw [s];refine WT (SS (i:=d+1) ?_);rw [s,List.take_append_of_le_length om] at f;exact f
     cases t
     .have af:¬ ak=0:=fun u=>q ⟨u,rfl⟩;(conv=>whnf);refine iY ?_;(conv=>whnf);refine jI (h.ext b) d rfl aa ?_;intro o r p e;(conv=>whnf);refine jO e rfl ?_;(conv=>whnf);refine AB.sub (((n - 1:Nat):Int)) om om om ?_;(conv=>whnf);refine iN ?_;(conv=>whnf);refine iN ?_;(conv=>whnf);refine (BL _ _).mono ?_;rintro _ ay ⟨rfl,ac⟩;(conv=>whnf);refine iY ?_;(conv=>whnf);exact ⟨by simp_all,(xt b ac)⟩
     ·(conv=>whnf);refine iY ?_;(conv=>whnf);refine jI (h.ext b) d rfl aa ?_;intro o r p e;(conv=>whnf);refine jO e rfl ?_;(conv=>whnf);refine AB.sub (((n - 1:Nat):Int)) om om om ?_;(conv=>whnf);refine iN ?_;(conv=>whnf);with_reducible refine AL (fun j=>?_) (fun j=>?_)
      ·(conv=>whnf);refine (BL _ _).mono ?_;rintro _ am ⟨rfl,x⟩;(conv=>whnf);refine iY ?_;(conv=>whnf);exact ⟨by simp_all,(xt b x)⟩
      ·(conv=>whnf);refine (BL _ _).mono ?_;rintro _ az ⟨rfl,ad⟩;(conv=>whnf);refine iY ?_;(conv=>whnf);exact ⟨by simp_all,(xt b ad)⟩
    .rw [if_neg z] at f;cases t
     .have af:¬ ak=0:=fun u=>q ⟨u,rfl⟩;(conv=>whnf);refine iY ?_;(conv=>whnf);refine jI (h.ext b) d rfl aa ?_;intro o r p e;(conv=>whnf);refine jO e rfl ?_;(conv=>whnf);refine AB.sub (((n - 1:Nat):Int)) om om om ?_;(conv=>whnf);refine iN ?_;(conv=>whnf);refine iN ?_;(conv=>whnf);refine (BL _ _).mono ?_;rintro _ ay ⟨rfl,ac⟩;(conv=>whnf);refine iN ?_;(conv=>whnf);refine AB.mul _ rfl om om ?_;(conv=>whnf);refine AB.add _ rfl om om ?_;(conv=>whnf);refine jP (((d+1:Nat):Int)) ?_;(conv=>whnf);exact ⟨d+1,om,_,_,_,rfl,om,by simp_all,by simp [*],om,(xt b ac)⟩
     ·(conv=>whnf);refine iY ?_;(conv=>whnf);refine jI (h.ext b) d rfl aa ?_;intro o r p e;(conv=>whnf);refine jO e rfl ?_;(conv=>whnf);refine AB.sub (((n - 1:Nat):Int)) om om om ?_;(conv=>whnf);refine iN ?_;(conv=>whnf);with_reducible refine AL (fun j=>?_) (fun j=>?_)
      ·(conv=>whnf);refine (BL _ _).mono ?_;rintro _ am ⟨rfl,x⟩;(conv=>whnf);refine iN ?_;(conv=>whnf);refine AB.mul _ rfl om om ?_;(conv=>whnf);refine AB.add _ rfl om om ?_;(conv=>whnf);refine jP (((d+1:Nat):Int)) ?_;(conv=>whnf);exact ⟨d+1,om,_,_,_,rfl,om,by simp_all,by simp [*],om,(xt b x)⟩
      ·(conv=>whnf);refine (BL _ _).mono ?_;rintro _ az ⟨rfl,ad⟩;(conv=>whnf);refine iN ?_;(conv=>whnf);refine AB.mul _ rfl om om ?_;(conv=>whnf);refine AB.add _ rfl om om ?_;(conv=>whnf);refine jP (((d+1:Nat):Int)) ?_;(conv=>whnf);exact ⟨d+1,om,_,_,_,rfl,om,by simp_all,by simp [*],om,(xt b ad)⟩
 .have a6:d=n:=om
  cases ab
  .have ae:=a0 rfl;have ah:=a4 rfl a6;rw [List.take_of_length_le om,s] at ae;have ag:=Te ah ae;rw [<- s] at ag;(conv=>whnf);refine iN ?_;(conv=>whnf);exact ⟨by simp_all,b⟩
  .obtain ⟨_,bj,bk,ag⟩:=a1 rfl;by_cases av:g=0
   .rw [if_pos av] at ag;subst av;(conv=>whnf);refine iN ?_;(conv=>whnf);refine AB.neg 0 rfl om om ?_;(conv=>whnf);exact ⟨by simp_all,b⟩
   .rw [if_neg av] at ag;(conv=>whnf);refine iN ?_;(conv=>whnf);refine AB.neg (-g) rfl om om ?_;(conv=>whnf);exact ⟨by simp_all,b⟩
end Go.Proofs.YtalgenmoljcnmaaGreatDoor
