/- Parts of the proof; no conditions of its own. -/
import Derived.Test.YtalgenmoljcnmaaGreatDoorRows
import Derived.Deep.DeepHandedRow
import Derived.Lib.LaidTab
import Derived.Stop.LaidErr
import Derived.Lay
import Derived.MakeChecks
import Derived.SevenTiedAt
import Derived.ChangeVars
import Derived.Shelf.Strconv.Itoa4
import Derived.Shelf.Strconv.ParseIntPublic10
import Derived.Shelf.Strconv.ErrVarParseInt
import Derived.Shelf.Strings.SplitShaped
import Derived.Shelf.Strings.OnBuilder
import Derived.Shelf.Strings.Cut
import Derived.Shelf.Small.Strs
import Derived.Shelf.Strings.Prefix
import Derived.Test.YtalgenmoljcnmaaGreatDoorLibSl
import Derived.Test.YtalgenmoljcnmaaGreatDoorVcApp
import Derived.Test.YtalgenmoljcnmaaGreatDoorNum
namespace Go.M
open Go Go.Vc
variable {w w':World} {lo hi n m:Nat} {a b:Option Addr} {X:List (List (List Int))} {Y:List (List A9)}
def aF3 (w:World) (a:Option Addr) (n:Nat) (b:Option Addr) (m:Nat) (X:List (List (List Int))) (Y:List (List A9)):Prop:=Ar DM w a n X/\Ar LG w b m Y
def C8 (w:World) (lo hi:Nat) (a:Option Addr) (n:Nat) (b:Option Addr) (m:Nat) (X:List (List (List Int))) (Y:List (List A9)):Prop :=
 ∃ t t' f g,EO Jc w a n t X f/\EO G4 w b m t' Y g/\Kj lo hi (f++g)
theorem C8.rd (h:C8 w lo hi a n b m X Y):aF3 w a n b m X Y:=by
 obtain ⟨g,i,e,f,c,d,_⟩:=h;exact ⟨c.arr,d.arr⟩
theorem C8.mod {S:Nat->Prop} (h:C8 w lo hi a n b m X Y) (M:BY S w w') (hs:∀ k,lo<=k->k<hi->¬ S k):C8 w' lo hi a n b m X Y:=by
 obtain ⟨l,o,e,f,g,i,d⟩:=h;have j:∀ k∈e++f,¬ S k:=fun k c=>hs k (d.2 k c).1 (d.2 k c).2;exact ⟨l,o,e,f,g.keep fun k c=>M.block k (j k (List.mem_append_left _ c)) (g.lt k c),i.keep fun k c=>M.block k (j k (List.mem_append_right _ c)) (i.lt k c),d⟩
theorem C8.ext (h:C8 w lo hi a n b m X Y) (e:AD w w'):C8 w' lo hi a n b m X Y:=by
 obtain ⟨l,o,i,j,f,g,k⟩:=h;exact ⟨l,o,i,j,f.keep fun c d=>e.block c (f.lt c d),g.keep fun c d=>e.block c (g.lt c d),k⟩
theorem C8.wide {lo' hi':Nat} (h:C8 w lo hi a n b m X Y) (h1:lo'<=lo) (h2:hi<=hi'):C8 w lo' hi' a n b m X Y:=by
 obtain ⟨i,j,c,d,e,f,g⟩:=h;exact ⟨i,j,c,d,e,f,g.wide h1 h2⟩
end Go.M
namespace Go.Proofs.YtalgenmoljcnmaaGreatDoor
open Go Go.RowKit Go.Vc Go.M
variable {w:World} {a:Option Addr} {c:Nat}
theorem Q0 :
  Dq 92 [.slice a 0 c] w (fun v w'=>∃ b,v = .slice (some ⟨b,0,none⟩) 0 0/\w.heap.size<=b/\b<w'.heap.size/\CD w' b [] 144/\AD w w'):=by
 refine oV Tryz.func92 ?_;refine bS Bm (vs:=[]) ?_;intro d k h i g f;refine lR [0,3,4] (fun (_:Nat) j w'=>j=[.slice a 0 c,.slice (some ⟨d,0,none⟩) 0 0,.int .i64 0]/\w'=k) (fun e=>1 - e) 0 ⟨rfl,rfl⟩ ?_;rintro e l _ w' ⟨rfl,rfl⟩;exact ⟨d,rfl,h,i,f,g⟩
theorem RU :
  Dq 112 [.slice a 0 c] w (fun v w'=>∃ b,v = .slice (some ⟨b,0,none⟩) 0 0/\w.heap.size<=b/\b<w'.heap.size/\CD w' b [] 144/\AD w w'):=by
 refine oV Tryz.func112 ?_;refine bS Bm (vs:=[]) ?_;intro d k h i g f;refine lR [3,7,8,9] (fun (_:Nat) j w'=>j=[.slice (some ⟨d,0,none⟩) 0 0,.slice a 0 c,.int .i64 0,.int .i64 0]/\w'=k) (fun e=>1 - e) 0 ⟨rfl,rfl⟩ ?_;rintro e l _ w' ⟨rfl,rfl⟩;exact ⟨d,rfl,h,i,f,g⟩
theorem Og :
  Dq 111 [.slice a 0 c] w (fun v w'=>v = .bool true/\AD w w'):=by
 refine oV Tryz.func111 ?_;refine lR [0,5,6,7] (fun (_:Nat) d w'=>d=[.slice a 0 c,.slice a 0 c,.int .i64 0,.int .i64 0]/\w'=w) (fun b=>1 - b) 0 ⟨rfl,rfl⟩ ?_;rintro b e _ w' ⟨rfl,rfl⟩;exact ⟨rfl,AD.refl _⟩
theorem Oj :
  Dq 56 [.slice a 0 c] w (fun v w'=>∃ a c b d,v = .tuple #[.agg #[.slice a 6 c,.slice b 0 d],.int .i64 0]/\C8 w' w.heap.size w'.heap.size a 6 b 0 (List.replicate 6 []) []/\AD w w'):=by
 refine oV Tryz.func56 ?_;refine jN (z := .agg #[.slice none 0 0,.slice none 0 0]) ?_;intro a4 a3 ay ba x aj;refine (Og).mono ?_;rintro _ bg ⟨rfl,g⟩;refine AB.make Dm (6) rfl om om ?_;intro e aa af bb m ak;refine bS K1 (vs:=[]) ?_;intro j bh a5 bc aw ao;refine AB.build Ko rfl ?_;refine jN (z := .agg #[.slice none 0 0,.slice none 0 0]) ?_;intro au bi a6 bd t aq;refine AW (vs:=[Value.slice (some { block:=e,off:=0 }) 6 6,Value.slice (some { block:=j,off:=0 }) 0 0]) kR aq rfl rfl (by simp [AE]) ?_;intro ai s ac;have al:CD aa e [.slice none 0 0,.slice none 0 0,.slice none 0 0,.slice none 0 0,.slice none 0 0,.slice none 0 0] 78:=ak;refine V0 A8 mixed (pB [0,2,5,7,9,11]) kR kR ?_;intro bj f;refine dL ac.cells (k:=0) rfl ?_;refine (RU).mono ?_;rintro _ y ⟨q,rfl,be,bf,a1,h⟩;refine ⟨(xt f h),?_⟩;refine jW (sz:=1) 0 rfl om ?_;refine ⟨(xt f h),?_⟩;have p:AD aa ai:=(xt aw t).but_trans s.but om;have i:AD aa y:=xt p (xt f h);refine jT (al.ext i) (k:=0+0 * 1) sI rfl ?_;intro ah l u;have u:CD ah e [.slice (some ⟨q,0,none⟩) 0 0,.slice none 0 0,.slice none 0 0,.slice none 0 0,.slice none 0 0,.slice none 0 0] 78:=u;have a':=i.size;have av:AK ah au 0 [Value.slice (some { block:=e,off:=0 }) 6 6,Value.slice (some { block:=j,off:=0 }) 0 0]:=(ac.ext (xt f h)).cells.mod l.but om;refine jA (n:=2) av rfl ?_;refine AW (vs:=[Value.slice (some { block:=e,off:=0 }) 6 6,Value.slice (some { block:=j,off:=0 }) 0 0]) kR (aj.ext (xb (xt (xt g m) i) l.but (nB g af))) rfl rfl (by simp [AE]) ?_;intro ab r am;refine AP (jR (n:=2) rfl am.cells) ?_;refine ⟨_,_,_,_,rfl,?_,(xb (xb (xt (xt (xt x g) m) i) l.but (nB (xt x g) af)) r.but ay)⟩
 .have ar:AD ai y:=xt f h;have ad:∀ {b:Nat} {ae:List Value} {ag:Nat},CD y b ae ag->a3.heap.size<=b->b≠e->CD ab b ae ag:=fun az a9 a0=>(az.mod l.but a0).mod r.but om;have a2:=ad a1 (by have:=f.size;have:=p.size;have:=m.size;have:=g.size;omega) (by have:=f.size;have:=p.size;omega);have ap:=ad (ao.ext (xt t (AD.refl _)) |>.mod s.but om |>.ext ar) (by have:=m.size;have:=g.size;omega) om;have an:CD ab e [.slice (some ⟨q,0,none⟩) 0 0,.slice none 0 0,.slice none 0 0,.slice none 0 0,.slice none 0 0,.slice none 0 0] 78:=u.mod r.but (by have:=g.size;omega);have o:Jc ab ⟨none,0,0⟩ [] []:=OS.zero;have ax:=(((((HY.nil.snoc (PE a2)).snoc o).snoc o).snoc o).snoc o).snoc o;refine ⟨_,_,[e,q],[j],⟨_,_,(AG (n:=6) (xs:=[⟨some ⟨q,0,none⟩,0,0⟩,⟨none,0,0⟩,⟨none,0,0⟩,⟨none,0,0⟩,⟨none,0,0⟩,⟨none,0,0⟩]) Es an (Nat.le_refl e) rfl om).own,ax,rfl⟩,⟨[],[],(Ab Es ap (Nat.le_refl j)).own,HY.nil,rfl⟩,?_,?_⟩
  .have:=f.size;have:=t.size;have:=s.but.size;simp;omega
  .have a7:=l.but.size;have a8:=r.but.size;have:=f.size;have:=p.size;have:=i.size;have:=x.size;have:=g.size;have:=m.size;have:=h.size;have:=t.size;have:=s.but.size;simp;omega
theorem Ty :
  Dq 23 [] w (fun v w'=>∃ a c b d,v = .agg #[.slice a 6 c,.slice b 0 d,.string { data := #[] }]/\C8 w' w.heap.size w'.heap.size a 6 b 0 (List.replicate 6 []) []/\AD w w'):=by
 refine oV Tryz.func23 ?_;refine jN (z := .agg #[.slice none 0 0,.slice none 0 0,.string { data := #[] }]) ?_;intro x af t ad i p;refine (Oj).mono ?_;rintro _ ai ⟨j,l,k,m,rfl,u,f⟩;refine jN (z := .agg #[.slice none 0 0,.slice none 0 0]) ?_;intro y aj o ae g s;refine jS (vs:=[Value.slice j 6 l,Value.slice k 0 m]) s rfl rfl (by simp [AE]) ?_;intro ag e q;refine jA (n:=2) q.cells rfl ?_;refine AB.build Rz rfl ?_;refine jS (vs:=[Value.slice j 6 l,Value.slice k 0 m,Value.string { data := #[] }]) (p.ext (xb (xt f g) e.but (nB f o))) rfl rfl (by simp [AE]) ?_;intro ah h r;refine AP (jR (n:=3) rfl r.cells) ?_;refine ⟨_,_,_,_,rfl,?_,(xb (xb (xt (xt i f) g) e.but (nB (xt i f) o)) h.but t)⟩
 .have aa:=e.but.size;have ab:=h.but.size;have ac:=g.size;exact (((u.ext g).mod e.but om).mod h.but om).wide i.size om
end Go.Proofs.YtalgenmoljcnmaaGreatDoor
namespace Go.M
open Go Go.Vc
abbrev FSz {α:Type} (F:α->Prop) (x:List α):Prop:=x.length<=1048576/\∀ y∈x,F y
end Go.M
namespace Go.Proofs.YtalgenmoljcnmaaGreatDoor
open Go Go.RowKit Go.Vc Go.M
end Go.Proofs.YtalgenmoljcnmaaGreatDoor
namespace Go.M
open Go Go.Vc
end Go.M
namespace Go.Proofs.YtalgenmoljcnmaaGreatDoor
open Go Go.RowKit Go.Vc Go.M
end Go.Proofs.YtalgenmoljcnmaaGreatDoor
namespace Go.Proofs.YtalgenmoljcnmaaGreatDoor
open Go Go.RowKit Go.Vc
theorem Zp:ownKnob (Tryz.prog).godebug=none:=kR
theorem Y3:laidOutB Tryz.prog=true:=kR
end Go.Proofs.YtalgenmoljcnmaaGreatDoor
namespace Go.Vc
open Go Go.RowKit Go.ChangeShapes Go.WideShapes
section
variable {H:Type} {enc:TypeId×Value->H} {P:Program}
theorem Zb {P:Program} {w w':World} {n:String} {cs:Array Value} (h:w.var? P n=some cs) (e:AD w w'):w'.var? P n=some cs:=by
 unfold World.var? at *;cases c:P.globalNamed n with
 | none=>simp [c] at h
 | some a =>
  simp only [c,Option.bind_some] at h ⊢;have d:a<w.heap.size:=by
   rcases Nat.lt_or_ge a w.heap.size with b | b
   .exact b
   .rw [Array.getElem?_eq_none b] at h;simp at h
  rw [e.block a d];exact h
theorem NO {fn:Func} {s:ChangeSpec} {n:String} {g tb base g0 t0:Nat} (hvars:s.vars=[n]) (hg0:P.globalNamed n=some g0) (ht0:(P.globals[g0]?).map (·.type)=some t0) (hr0:P.readableRec t0=true) (hlt0:t0<P.types.size)
  (hres:fn.resultTypes = #[tb]) (hbool:P.underlying tb=some .bool) (hl:laidOutB P=true)
  (hread:(fn.params.toList.all fun t=>P.readableRec t && decide (t<P.types.size))=true)
  (hspec:∀ (ds:List (DataW H)) (d:DataW H),ds.length=fn.params.toList.length->(s.fn H (ds++[d])).results=[.lit (.bool true)]/\(s.fn H (ds++[d])).args=ds/\(s.fn H (ds++[d])).vars=[d])
  (W:World) (args:Array Value) (ds gs:List (DataW H)) (before:List MemPlace)
  (walk:∀ (p:List MemPlace),DataW.TrodAll enc P W 0 (fun _=>true) true fn.params.toList args.toList ds p->(∀ (j:Nat) t v,fn.params[j]? = some t->args.toList[j]? = some v->Value.okWide P W .any base t v) ->
   Ev P g args.toList W (fun v w'=>v = .bool true/\AD W w'))
  (hval:∀ (j:Nat) t v,fn.params[j]? = some t->args[j]? = some v->Value.okWide P W .any base t v)
  (hW:DataW.Whole enc P fn.params.toList s.vars false W args.toList ds gs before) :
  Calls P g args W fun e W'=>∃ v,e = .returned v/\s.post enc P fn false true false false W args v W':=by
 have ab:=hW;obtain ⟨p,an,h,o,rfl,av,aw⟩:=hW;rw [hvars] at o;obtain ⟨ar,ax,l,m,d,u,rfl,ae,ah,ak,r,rfl⟩:=trodVars_one o;obtain rfl:=Option.some.inj (hg0.symm.trans ae);obtain rfl:=Option.some.inj (ht0.symm.trans ah);have ac:=walk p h (fun j t v f aa=>hval j t v f (by simpa using aa));have q:=ac.calls;simp only [Array.toArray_toList] at q;refine q.mono fun e W' ⟨v,ad,aj,c⟩=>⟨v,ad,?_⟩;subst aj;have af:ds.length=fn.params.toList.length:=by
  have:∀ (b:List TypeId) (k:List Value) (ds:List (DataW H)) (i:List MemPlace),DataW.TrodAll enc P W 0 (fun _=>true) true b k ds i->ds.length=b.length:=by
   intro b;induction b with
   | nil=>intro k ds i a;obtain ⟨_,rfl,_⟩:=trodAll_nil a;rfl
   | cons t b am =>
    intro k ds i a;obtain ⟨v,ay,d,ap,p,an,rfl,rfl,rfl,au,f⟩:=trodAll_cons a;simp [am _ _ _ f]
  exact this _ _ _ _ h
 obtain ⟨x,y,z⟩:=hspec ds d af;have ag:DataW.Trod enc P W' 0 (fun w=>decide (w<W.heap.size)) true t0 (.agg l) d u :=
  Below.trod hl hr0 hlt0 ⟨m,r⟩ c fun ao al=>DataW.trod_lt m _ _ _ r ao al
 obtain ⟨aq,ai⟩:=ag;refine ⟨ds,[d],_,[],p,MemPlace.row ⟨g0,0,none⟩ l.size++u,ab,?_,?_,?_,c.frame _,fun a=>by cases a⟩
 .rw [x,hres];exact trodAll_mk1 (shut_bool hbool _)
 .rw [y];exact Kl hl c _ _ _ _ hread h
 .rw [z,hvars];exact trodVars_mk1 hg0 ht0 (Zb ak c) ai
theorem OM {n nm:String} {d:DataW Unit} {rest:List (String×DataW Unit)} {W:World} (h:laidMet P ((n,.iface nm d) :: rest) W) {g t:Nat} {ms:Array (String×TypeId)} (hg:P.globalNamed n=some g) (ht:(P.globals[g]?).map (·.type)=some t) (hi:P.underlying t=some (.interface ms)) :
  ∃ u v,W.var? P n=some #[.iface u v]:=by
 obtain ⟨p,⟨l,r,b,k,o,q,e,f,i,c,_,_⟩,_⟩:=h;obtain rfl:=Option.some.inj (hg.symm.trans e);obtain rfl:=Option.some.inj (ht.symm.trans f);obtain ⟨j,u,v,a,_⟩:=iface_of_trod hi c;obtain ⟨m⟩:=b;simp only at a;subst a;exact ⟨u,v,i⟩
theorem PG {C:Checked} {os:Os} {f:FuncId} {fn:Func} {s:ChangeSpec} {conds:List PathCond} {apart:Bool} {laid:List (String×DataW Unit)} (w0:World) (args:Array Value) (fuel:Nat) (hos:w0.os=os)
  (hsh:(w0.forCall (fun _ _=>0) ⟨#[],args,[]⟩).Shaped C.prog)
  (hok:Input.okWideB C.prog (w0.forCall (fun _ _=>0) ⟨#[],args,[]⟩) f ⟨#[],args,[]⟩=true)
  (hpre:s.preB enc C.prog fn conds apart (w0.forCall (fun _ _=>0) ⟨#[],args,[]⟩).memory args fuel=true)
  (hsz:s.sizedB enc C.prog fn apart (w0.forCall (fun _ _=>0) ⟨#[],args,[]⟩).memory args fuel=true)
  (hl:laidMetH C.prog laid (w0.forCall (fun _ _=>0) ⟨#[],args,[]⟩).memory) :
  ∃ (w:World) (tape:Tape) (i:Input),w.os=os/\(w.forCall tape i).Shaped C.prog/\i.vars=[]/\Input.okWide C.prog (w.forCall tape i) .any w.heap.size f i /\
   (OpenSpec.ofChange s).preRow enc C.prog fn conds apart laid (w.forCall tape i).memory i.args/\({}:Assume).holds C.prog (lone (Frame.enter C.prog f i.args .normal) [] (w.forCall tape i)) :=
 ⟨w0,fun _ _=>0,⟨#[],args,[]⟩,hos,hsh,(Input.okWide_of_okWideB (base:=0) hok).1,(Input.okWide_of_okWideB hok).2,⟨⟨ChangeSpec.pre_of_preB hpre,hl⟩,sizedMet_of_sizedB hsz⟩,by
  simp only [Assume.holds];exact ⟨sI,sI,fun _=>Modest.zero,sI,sI⟩⟩
end
end Go.Vc
namespace Go.Proofs.YtalgenmoljcnmaaGreatDoor
open Go Go.RowKit Go.Vc Go.M Go.Shelf Go.Proofs
variable {w w' W:World} {s:ByteArray} {c:UInt8} {b:Nat}
theorem O8 {n:String} {cs:Array Value} (h:w.var? Tryz.prog n=some cs) (e:AD w w'):w'.var? Tryz.prog n=some cs:=by
 unfold World.var? at *;cases c:(Tryz.prog).globalNamed n with
 | none=>simp [c] at h
 | some a =>
  simp only [c,Option.bind_some] at h ⊢;have d:a<w.heap.size:=by
   rcases Nat.lt_or_ge a w.heap.size with b | b
   .exact b
   .rw [Array.getElem?_eq_none b] at h;simp at h
  rw [e.block a d];exact h
theorem ZG {a:Addr} {v:Value} (h:w.cell? a=some v) (e:AD w w'):w'.cell? a=some v:=by
 rw [IW (e.block a.block (PB h))];exact h
theorem T1:∀ xs:List ByteArray,BD eS xs=xs.map Value.string
 | []=>rfl
 | x :: xs=>by
  have:=T1 xs;simp only [BD,eS,List.flatMap_cons,List.map_cons] at *;rw [this];rfl
theorem ZF (w:World) (k:Nat) (os:Array Obj):AD w (Sort.grow (w.drewN k) os):=by
 refine ⟨rfl,rfl,rfl,?_,fun a b=>?_⟩
 .show w.heap.size<=(w.heap++os).size;simp
 .show (w.heap++os)[a]? = w.heap[a]?;rw [Array.getElem?_append,if_pos b]
def F7 (w:World):Prop:=Lib.TabIs Tryz.prog w (Rows.fnExactRunDeskRow.named.getD 5 Rows.fnExactRunDeskRow.spec) .u64 Lib.pow10Tab
theorem F7.ext (h:F7 w) (e:AD w w'):F7 w':=O8 h e
theorem Vx {rest:List (String×DataW Unit)} (h:laidMet Tryz.prog (((Rows.fnExactRunDeskRow.named.getD 5 Rows.fnExactRunDeskRow.spec),Lib.tabData .u64 Lib.pow10Tab) :: rest) W):F7 W :=
 Lib.tabIs_of_head (g:=6) (t:=364) (e:=266) (n:=20) kR kR Tryz.underlying364 Tryz.underlying266 kR kR h
def ME:Go.Shelf.Ren:=⟨fun | 173=>198 | 246=>261 | 283=>306 | 284=>307 | 285=>308 | 286=>309 | 129=>335 | 317=>334 | 318=>336 | 319=>337 | 320=>338 | 337=>351 | 338=>352 | n=>n,fun | 2=>2 | 3=>3 | 9=>9 | 4=>4 | 171=>341 | 0=>0 | 53=>266 | 37=>98 | 5=>5 | 173=>343 | 212=>364 | 51=>264 | 20=>20 | 213=>365 | 46=>191 | 232=>375 | 233=>376 | n=>n,fun | 17=>6 | 18=>7 | 19=>8 | n=>n⟩
theorem RM:Go.Proofs.LaysM.n173 Tryz.prog ME:={
 mixed:=kR
 f129:=Tryz.func335.trans (congrArg some kR)
 f173:=Tryz.func198.trans (congrArg some kR)
 f246:=Tryz.func261.trans (congrArg some kR)
 f283:=Tryz.func306.trans (congrArg some kR)
 f284:=Tryz.func307.trans (congrArg some kR)
 f285:=Tryz.func308.trans (congrArg some kR)
 f286:=Tryz.func309.trans (congrArg some kR)
 f317:=Tryz.func334.trans (congrArg some kR)
 f318:=Tryz.func336.trans (congrArg some kR)
 f319:=Tryz.func337.trans (congrArg some kR)
 f320:=Tryz.func338.trans (congrArg some kR)
 f337:=Tryz.func351.trans (congrArg some kR)
 f338:=Tryz.func352.trans (congrArg some kR)
 t0:=Tryz.underlying0
 a0:=Tryz.isAgg0
 z0:=Tryz.sizeOf0
 v0:=Tryz.zeroValue0
 t2:=Tryz.underlying2
 a2:=Tryz.isAgg2
 z2:=Tryz.sizeOf2
 v2:=Tryz.zeroValue2
 t3:=Tryz.underlying3
 a3:=Tryz.isAgg3
 z3:=Tryz.sizeOf3
 v3:=Tryz.zeroValue3
 t4:=Tryz.underlying4
 a4:=Tryz.isAgg4
 z4:=Tryz.sizeOf4
 v4:=Tryz.zeroValue4
 t5:=Tryz.underlying5
 a5:=Tryz.isAgg5
 z5:=Tryz.sizeOf5
 v5:=Tryz.zeroValue5
 t9:=Tryz.underlying9
 a9:=Tryz.isAgg9
 z9:=Tryz.sizeOf9
 v9:=Tryz.zeroValue9
 t20:=Tryz.underlying20
 a20:=Tryz.isAgg20
 z20:=Tryz.sizeOf20
 v20:=Tryz.zeroValue20
 t37:=Tryz.underlying98
 a37:=Tryz.isAgg98
 z37:=Tryz.sizeOf98
 v37:=Tryz.zeroValue98
 t46:=Tryz.underlying191
 a46:=Tryz.isAgg191
 z46:=Tryz.sizeOf191
 v46:=Tryz.zeroValue191
 t51:=Tryz.underlying264
 a51:=Tryz.isAgg264
 z51:=Tryz.sizeOf264
 v51:=Tryz.zeroValue264
 t53:=Tryz.underlying266
 a53:=Tryz.isAgg266
 z53:=Tryz.sizeOf266
 v53:=Tryz.zeroValue266
 t171:=Tryz.underlying341
 a171:=Tryz.isAgg341
 z171:=Tryz.sizeOf341
 v171:=Tryz.zeroValue341
 t173:=Tryz.underlying343
 a173:=Tryz.isAgg343
 z173:=Tryz.sizeOf343
 v173:=Tryz.zeroValue343
 t212:=Tryz.underlying364
 a212:=Tryz.isAgg364
 z212:=Tryz.sizeOf364
 v212:=Tryz.zeroValue364
 t213:=Tryz.underlying365
 a213:=Tryz.isAgg365
 z213:=Tryz.sizeOf365
 t232:=Tryz.underlying375
 a232:=Tryz.isAgg375
 z232:=Tryz.sizeOf375
 v232:=Tryz.zeroValue375
 t233:=Tryz.underlying376
 a233:=Tryz.isAgg376
 z233:=Tryz.sizeOf376
 v233:=Tryz.zeroValue376
 g17:=kR
 g18:=kR
 g19:=kR
 i0:=kR
 i2:=kR
 i3:=kR
 i4:=kR
 i5:=kR
 i9:=kR
 i20:=kR
 i37:=kR
 i46:=kR
 i51:=kR
 i53:=kR
 i171:=kR
 i173:=kR
 i212:=kR
 i232:=kR
 i233:=kR
 m17:=kR
 m18:=kR
 m19:=by kernel_rfl }
theorem RJ {n:Int} (hn:BM n) (hT:F7 w):Dq 198 [.int .i64 n,.int .i64 10] w (fun v w'=>v = .string (BP n)/\AD w w'):=by
 have c:Calls Tryz.prog 198 #[.int .i64 n,.int .i64 10] w fun b w'=>b = .returned (.string ⟨(Lib.itoa n).toArray⟩)/\∃ a os,w'=Sort.grow (w.drewN a) os :=
  Any.strconv_FormatInt_10 RM n hn.1 hn.2 w hT
 refine Cw kR (c.mono ?_);rintro _ _ ⟨rfl,a,os,rfl⟩;exact ⟨_,rfl,rfl,ZF w a os⟩
def La:Go.Shelf.Ren:=⟨fun | 101=>129 | 208=>199 | 206=>262 | n=>n,fun | 9=>9 | 4=>4 | 3=>3 | n=>n,fun | n=>n⟩
theorem Pv:Go.Proofs.Lays.n101 Tryz.prog La:={
 mixed:=kR
 f101:=Tryz.func129.trans (congrArg some kR)
 f206:=Tryz.func262.trans (congrArg some kR)
 f208:=Tryz.func199.trans (congrArg some kR)
 t3:=Tryz.underlying3
 a3:=Tryz.isAgg3
 z3:=Tryz.sizeOf3
 v3:=Tryz.zeroValue3
 t4:=Tryz.underlying4
 a4:=Tryz.isAgg4
 z4:=Tryz.sizeOf4
 v4:=Tryz.zeroValue4
 t9:=Tryz.underlying9
 a9:=Tryz.isAgg9
 z9:=Tryz.sizeOf9
 v9:=Tryz.zeroValue9 }
theorem RH (s:ByteArray) (w:World):Dq 129 [.string s,.string ⟨#[45]⟩] w (fun v w'=>v = .string (bs (A6 s.data.toList))/\w=w'):=by
 have d:Calls Tryz.prog 129 #[.string s,.string ⟨#[45]⟩] w fun c w'=>c = .returned (.string ⟨(Lib.trimPrefix s.data.toList [45]).toArray⟩)/\w'=w :=
  Any.strings_TrimPrefix Pv s ⟨#[45]⟩ w
 refine Cw kR (d.mono ?_);rintro _ _ ⟨rfl,rfl⟩;refine ⟨_,rfl,?_,rfl⟩;congr 1;show bs _=bs _;congr 1;unfold Lib.trimPrefix Lib.hasPrefix A6;cases s.data.toList with
 | nil=>rfl
 | cons b e =>
  by_cases a:b=45
  .subst a;simp
  .simp [a,Ne.symm a]
def EP (w:World):Prop:=(∃ t p,w.var? Tryz.prog (Rows.fnExactRunDeskRow.named.getD 3 Rows.fnExactRunDeskRow.spec)=some #[.iface t p])/\∃ t p,w.var? Tryz.prog (Rows.fnExactRunDeskRow.named.getD 4 Rows.fnExactRunDeskRow.spec)=some #[.iface t p]
theorem EP.ext (h:EP w) (e:AD w w'):EP w':=by
 obtain ⟨⟨f,c,a⟩,g,d,b⟩:=h;exact ⟨⟨f,c,O8 a e⟩,g,d,O8 b e⟩
theorem UK {n1 n2:String} {d1 d2:DataW Unit} {r1 r2:List (String×DataW Unit)} (h1:laidMet Tryz.prog (((Rows.fnExactRunDeskRow.named.getD 3 Rows.fnExactRunDeskRow.spec),.iface n1 d1) :: r1) W) (h2:laidMet Tryz.prog (((Rows.fnExactRunDeskRow.named.getD 4 Rows.fnExactRunDeskRow.spec),.iface n2 d2) :: r2) W):EP W :=
 ⟨OM h1 (g:=4) (t:=178) kR kR Tryz.underlying178,OM h2 (g:=5) (t:=178) kR kR Tryz.underlying178⟩
def NN:Go.Shelf.Ren:=⟨fun | 174=>127 | 247=>196 | 245=>197 | 287=>256 | 279=>257 | 280=>258 | 281=>259 | 282=>260 | 321=>301 | 322=>302 | 316=>303 | 171=>305 | 205=>304 | 243=>333 | 246=>261 | 283=>306 | 284=>307 | 285=>308 | 286=>309 | 129=>335 | 317=>334 | 318=>336 | 319=>337 | 320=>338 | 337=>351 | 338=>352 | n=>n,fun | 9=>9 | 3=>3 | 2=>2 | 75=>178 | 85=>179 | 4=>4 | 167=>305 | 5=>5 | 53=>266 | 175=>306 | 46=>191 | 168=>308 | 37=>98 | 0=>0 | 210=>339 | 21=>21 | 127=>322 | 145=>362 | 143=>360 | 171=>341 | 173=>343 | 212=>364 | 51=>264 | 20=>20 | 213=>365 | 232=>375 | 233=>376 | 80=>278 | n=>n,fun | 15=>4 | 16=>5 | 17=>6 | 18=>7 | 19=>8 | n=>n⟩
theorem JD:Go.Proofs.LaysC.n174 Tryz.prog NN:={
 mixed:=kR
 f129:=Tryz.func335.trans (congrArg some kR)
 f171:=Tryz.func305.trans (congrArg some kR)
 f174:=Tryz.func127.trans (congrArg some kR)
 f205:=Tryz.func304.trans (congrArg some kR)
 f243:=Tryz.func333.trans (congrArg some kR)
 f245:=Tryz.func197.trans (congrArg some kR)
 f246:=Tryz.func261.trans (congrArg some kR)
 f247:=Tryz.func196.trans (congrArg some kR)
 f279:=Tryz.func257.trans (congrArg some kR)
 f280:=Tryz.func258.trans (congrArg some kR)
 f281:=Tryz.func259.trans (congrArg some kR)
 f282:=Tryz.func260.trans (congrArg some kR)
 f283:=Tryz.func306.trans (congrArg some kR)
 f284:=Tryz.func307.trans (congrArg some kR)
 f285:=Tryz.func308.trans (congrArg some kR)
 f286:=Tryz.func309.trans (congrArg some kR)
 f287:=Tryz.func256.trans (congrArg some kR)
 f316:=Tryz.func303.trans (congrArg some kR)
 f317:=Tryz.func334.trans (congrArg some kR)
 f318:=Tryz.func336.trans (congrArg some kR)
 f319:=Tryz.func337.trans (congrArg some kR)
 f320:=Tryz.func338.trans (congrArg some kR)
 f321:=Tryz.func301.trans (congrArg some kR)
 f322:=Tryz.func302.trans (congrArg some kR)
 f337:=Tryz.func351.trans (congrArg some kR)
 f338:=Tryz.func352.trans (congrArg some kR)
 t0:=Tryz.underlying0
 a0:=Tryz.isAgg0
 z0:=Tryz.sizeOf0
 v0:=Tryz.zeroValue0
 t2:=Tryz.underlying2
 a2:=Tryz.isAgg2
 z2:=Tryz.sizeOf2
 v2:=Tryz.zeroValue2
 t3:=Tryz.underlying3
 a3:=Tryz.isAgg3
 z3:=Tryz.sizeOf3
 v3:=Tryz.zeroValue3
 t4:=Tryz.underlying4
 a4:=Tryz.isAgg4
 z4:=Tryz.sizeOf4
 v4:=Tryz.zeroValue4
 t5:=Tryz.underlying5
 a5:=Tryz.isAgg5
 z5:=Tryz.sizeOf5
 v5:=Tryz.zeroValue5
 t9:=Tryz.underlying9
 a9:=Tryz.isAgg9
 z9:=Tryz.sizeOf9
 v9:=Tryz.zeroValue9
 t20:=Tryz.underlying20
 a20:=Tryz.isAgg20
 z20:=Tryz.sizeOf20
 v20:=Tryz.zeroValue20
 t21:=Tryz.underlying21
 a21:=Tryz.isAgg21
 z21:=Tryz.sizeOf21
 v21:=Tryz.zeroValue21
 t37:=Tryz.underlying98
 a37:=Tryz.isAgg98
 z37:=Tryz.sizeOf98
 v37:=Tryz.zeroValue98
 t46:=Tryz.underlying191
 a46:=Tryz.isAgg191
 z46:=Tryz.sizeOf191
 v46:=Tryz.zeroValue191
 t51:=Tryz.underlying264
 a51:=Tryz.isAgg264
 z51:=Tryz.sizeOf264
 v51:=Tryz.zeroValue264
 t53:=Tryz.underlying266
 a53:=Tryz.isAgg266
 z53:=Tryz.sizeOf266
 v53:=Tryz.zeroValue266
 t75:=Tryz.underlying178
 a75:=Tryz.isAgg178
 z75:=Tryz.sizeOf178
 v75:=Tryz.zeroValue178
 t85:=Tryz.underlying179
 a85:=Tryz.isAgg179
 z85:=Tryz.sizeOf179
 v85:=Tryz.zeroValue179
 t127:=Tryz.underlying322
 a127:=Tryz.isAgg322
 z127:=Tryz.sizeOf322
 v127:=Tryz.zeroValue322
 t143:=Tryz.underlying360
 a143:=Tryz.isAgg360
 z143:=Tryz.sizeOf360
 v143:=Tryz.zeroValue360
 t145:=Tryz.underlying362
 a145:=Tryz.isAgg362
 z145:=Tryz.sizeOf362
 v145:=Tryz.zeroValue362
 t167:=Tryz.underlying305
 a167:=Tryz.isAgg305
 z167:=Tryz.sizeOf305
 v167:=Tryz.zeroValue305
 t168:=Tryz.underlying308
 a168:=Tryz.isAgg308
 z168:=Tryz.sizeOf308
 v168:=Tryz.zeroValue308
 t171:=Tryz.underlying341
 a171:=Tryz.isAgg341
 z171:=Tryz.sizeOf341
 v171:=Tryz.zeroValue341
 t173:=Tryz.underlying343
 a173:=Tryz.isAgg343
 z173:=Tryz.sizeOf343
 v173:=Tryz.zeroValue343
 t175:=Tryz.underlying306
 a175:=Tryz.isAgg306
 z175:=Tryz.sizeOf306
 v175:=Tryz.zeroValue306
 t210:=Tryz.underlying339
 a210:=Tryz.isAgg339
 z210:=Tryz.sizeOf339
 v210:=Tryz.zeroValue339
 t212:=Tryz.underlying364
 a212:=Tryz.isAgg364
 z212:=Tryz.sizeOf364
 v212:=Tryz.zeroValue364
 t213:=Tryz.underlying365
 a213:=Tryz.isAgg365
 z213:=Tryz.sizeOf365
 t232:=Tryz.underlying375
 a232:=Tryz.isAgg375
 z232:=Tryz.sizeOf375
 v232:=Tryz.zeroValue375
 t233:=Tryz.underlying376
 a233:=Tryz.isAgg376
 z233:=Tryz.sizeOf376
 v233:=Tryz.zeroValue376
 g15:=kR
 g16:=kR
 g17:=kR
 g18:=kR
 g19:=kR
 t80:=Tryz.underlying278
 a80:=Tryz.isAgg278
 z80:=Tryz.sizeOf278
 v80:=Tryz.zeroValue278
 i0:=kR
 i2:=kR
 i3:=kR
 i4:=kR
 i5:=kR
 i9:=kR
 i20:=kR
 i21:=kR
 i37:=kR
 i46:=kR
 i51:=kR
 i53:=kR
 i75:=kR
 i80:=kR
 i85:=kR
 i127:=kR
 i143:=kR
 i145:=kR
 i167:=kR
 i168:=kR
 i171:=kR
 i173:=kR
 i175:=kR
 i210:=kR
 i212:=kR
 i232:=kR
 i233:=kR
 m15:=kR
 m16:=kR
 m17:=kR
 m18:=kR
 m19:=kR
 c0:=kR
 c2:=kR
 c3:=kR
 c4:=kR
 c5:=kR
 c9:=kR
 c20:=kR
 c21:=kR
 c37:=kR
 c46:=kR
 c51:=kR
 c53:=kR
 c75:=kR
 c80:=kR
 c85:=kR
 c127:=kR
 c143:=kR
 c145:=kR
 c167:=kR
 c168:=kR
 c171:=kR
 c173:=kR
 c175:=kR
 c210:=kR
 c212:=kR
 c213:=kR
 c232:=kR
 c233:=by kernel_rfl }
theorem Ti (hs:s.size<=281474976710656) (hE:EP w) :
  Dq 127 [.string s,.int .i64 10,.int .i64 64] w (fun v w'=>((∃ n,Lib.parseIntB 64 s.data.toList = .ok n/\v = .tuple #[.int .i64 n,.nilIface]) \/
   ((∀ n,Lib.parseIntB 64 s.data.toList≠.ok n)/\∃ n t a,v = .tuple #[.int .i64 n,.iface t (.pointer (some a))]))/\AD w w'):=by
 obtain ⟨⟨t,i,f⟩,k,j,g⟩:=hE;cases d:Lib.parseIntB 64 s.data.toList
 .rename_i n;refine Cw kR ((Any.strconv_ParseInt_10_at64_ok JD s om n d w).mono ?_);rintro _ _ ⟨rfl,h⟩;refine ⟨_,rfl,.inl ⟨n,rfl,rfl⟩,?_⟩;rcases h with rfl | ⟨t,rfl⟩
  .exact AD.refl _
  .exact Lib.bytesWorld_below _ _ _
 .refine Cw kR ((Any.strconv_ParseInt_10_at64_syntax_var JD s hs d t i w f).mono ?_);rintro _ _ ⟨e,rfl,_,_,c⟩;exact ⟨_,rfl,.inr ⟨(fun n b=>by cases b),_,_,_,rfl⟩,c⟩
 .refine Cw kR ((Any.strconv_ParseInt_10_at64_range_var JD s hs d k j w g).mono ?_);rintro _ _ ⟨e,rfl,_,_,c⟩;exact ⟨_,rfl,.inr ⟨(fun n b=>by cases b),_,_,_,rfl⟩,c⟩
def K3:Go.Shelf.Ren:=⟨fun | 146=>30 | 221=>67 | 268=>124 | 138=>125 | 143=>126 | 195=>193 | 197=>194 | 218=>195 | 219=>113 | 260=>255 | 217=>182 | 225=>183 | 224=>184 | 267=>185 | 266=>249 | 314=>250 | n=>n,fun | 9=>9 | 31=>37 | 3=>3 | 4=>4 | 0=>0 | 105=>250 | 21=>21 | 5=>5 | 46=>191 | 119=>333 | 139=>336 | 138=>335 | 146=>301 | 51=>264 | n=>n,fun | 1=>1 | 3=>2 | 4=>3 | n=>n⟩
theorem NM:Go.Proofs.LaysM.n146 Tryz.prog K3:={
 mixed:=kR
 f138:=Tryz.func125.trans (congrArg some kR)
 f143:=Tryz.func126.trans (congrArg some kR)
 f146:=Tryz.func30.trans (congrArg some kR)
 f195:=Tryz.func193.trans (congrArg some kR)
 f197:=Tryz.func194.trans (congrArg some kR)
 f217:=Tryz.func182.trans (congrArg some kR)
 f218:=Tryz.func195.trans (congrArg some kR)
 f219:=Tryz.func113.trans (congrArg some kR)
 f221:=Tryz.func67.trans (congrArg some kR)
 f224:=Tryz.func184.trans (congrArg some kR)
 f225:=Tryz.func183.trans (congrArg some kR)
 f260:=Tryz.func255.trans (congrArg some kR)
 f266:=Tryz.func249.trans (congrArg some kR)
 f267:=Tryz.func185.trans (congrArg some kR)
 f268:=Tryz.func124.trans (congrArg some kR)
 f314:=Tryz.func250.trans (congrArg some kR)
 t0:=Tryz.underlying0
 a0:=Tryz.isAgg0
 z0:=Tryz.sizeOf0
 v0:=Tryz.zeroValue0
 t3:=Tryz.underlying3
 a3:=Tryz.isAgg3
 z3:=Tryz.sizeOf3
 v3:=Tryz.zeroValue3
 t4:=Tryz.underlying4
 a4:=Tryz.isAgg4
 z4:=Tryz.sizeOf4
 v4:=Tryz.zeroValue4
 t5:=Tryz.underlying5
 a5:=Tryz.isAgg5
 z5:=Tryz.sizeOf5
 v5:=Tryz.zeroValue5
 t9:=Tryz.underlying9
 a9:=Tryz.isAgg9
 z9:=Tryz.sizeOf9
 v9:=Tryz.zeroValue9
 t21:=Tryz.underlying21
 a21:=Tryz.isAgg21
 z21:=Tryz.sizeOf21
 v21:=Tryz.zeroValue21
 t31:=Tryz.underlying37
 a31:=Tryz.isAgg37
 z31:=Tryz.sizeOf37
 v31:=Tryz.zeroValue37
 t46:=Tryz.underlying191
 a46:=Tryz.isAgg191
 z46:=Tryz.sizeOf191
 v46:=Tryz.zeroValue191
 t51:=Tryz.underlying264
 a51:=Tryz.isAgg264
 z51:=Tryz.sizeOf264
 v51:=Tryz.zeroValue264
 t105:=Tryz.underlying250
 a105:=Tryz.isAgg250
 z105:=Tryz.sizeOf250
 v105:=Tryz.zeroValue250
 t119:=Tryz.underlying333
 a119:=Tryz.isAgg333
 z119:=Tryz.sizeOf333
 t138:=Tryz.underlying335
 a138:=Tryz.isAgg335
 z138:=Tryz.sizeOf335
 v138:=Tryz.zeroValue335
 t139:=Tryz.underlying336
 a139:=Tryz.isAgg336
 z139:=Tryz.sizeOf336
 v139:=Tryz.zeroValue336
 t146:=Tryz.underlying301
 a146:=Tryz.isAgg301
 z146:=Tryz.sizeOf301
 v146:=Tryz.zeroValue301
 g1:=kR
 g3:=kR
 g4:=kR
 i0:=kR
 i3:=kR
 i4:=kR
 i5:=kR
 i9:=kR
 i21:=kR
 i31:=kR
 i46:=kR
 i51:=kR
 i105:=kR
 i138:=kR
 i139:=kR
 i146:=kR
 m1:=kR
 s1_3:=fun b a=>Go.Proofs.cell_of_shapedOpen_int (zero := #[.int .i64 0]) (t:=3) a (of_decide_eq_true kR) kR rfl kR kR Tryz.underlying3
 m3:=kR
 m4:=by kernel_rfl }
def Dy (w:World):Prop:=∃ m,w.cell? ⟨K3.g 1,0,none⟩=some (.int .i64 m)
theorem Dy.ext (h:Dy w) (e:AD w w'):Dy w':=by
 obtain ⟨a,h⟩:=h;exact ⟨a,ZG h e⟩
theorem Qu (h:w.ShapedOpen Tryz.prog):Dy w:=NM.s1_3 w h
theorem NK (hs:s.size<4294967281) (hM:Dy w) :
  Dq 30 [.string s,.string ⟨#[c]⟩] w (fun v w'=>∃ b,v = .slice (some ⟨b,0,none⟩) (Aq c s).length (Aq c s).length/\w.heap.size<=b/\CD w' b (BD eS (Aq c s)) 9/\AD w w'):=by
 obtain ⟨e,d⟩:=hM;have a:Calls Tryz.prog 30 #[.string s,.string ⟨#[c]⟩] w _:=Any.strings_Split { NM with } NM.i9 s ⟨#[c]⟩ e w hs d (by show 1<=1;omega);refine Cw kR (a.mono ?_);rintro _ _ ⟨rfl,rfl⟩;rw [<- WC,R3];refine ⟨_,rfl,w.heap.size,rfl,Nat.le_refl _,?_,It _ _⟩;rw [T1];exact Iu _ _ _
def VC:Go.Shelf.Ren:=⟨fun | 145=>24 | 220=>57 | 219=>113 | 217=>182 | 225=>183 | 224=>184 | 267=>185 | 266=>249 | 314=>250 | n=>n,fun | 9=>9 | 4=>4 | 59=>54 | 3=>3 | 5=>5 | 46=>191 | 146=>301 | 51=>264 | n=>n,fun | 1=>1 | n=>n⟩
theorem Zo:Go.Proofs.LaysM.n145 Tryz.prog VC:={
 mixed:=kR
 f145:=Tryz.func24.trans (congrArg some kR)
 f217:=Tryz.func182.trans (congrArg some kR)
 f219:=Tryz.func113.trans (congrArg some kR)
 f220:=Tryz.func57.trans (congrArg some kR)
 f224:=Tryz.func184.trans (congrArg some kR)
 f225:=Tryz.func183.trans (congrArg some kR)
 f266:=Tryz.func249.trans (congrArg some kR)
 f267:=Tryz.func185.trans (congrArg some kR)
 f314:=Tryz.func250.trans (congrArg some kR)
 t3:=Tryz.underlying3
 a3:=Tryz.isAgg3
 z3:=Tryz.sizeOf3
 v3:=Tryz.zeroValue3
 t4:=Tryz.underlying4
 a4:=Tryz.isAgg4
 z4:=Tryz.sizeOf4
 v4:=Tryz.zeroValue4
 t5:=Tryz.underlying5
 a5:=Tryz.isAgg5
 z5:=Tryz.sizeOf5
 v5:=Tryz.zeroValue5
 t9:=Tryz.underlying9
 a9:=Tryz.isAgg9
 z9:=Tryz.sizeOf9
 v9:=Tryz.zeroValue9
 t46:=Tryz.underlying191
 a46:=Tryz.isAgg191
 z46:=Tryz.sizeOf191
 v46:=Tryz.zeroValue191
 t51:=Tryz.underlying264
 a51:=Tryz.isAgg264
 z51:=Tryz.sizeOf264
 v51:=Tryz.zeroValue264
 t59:=Tryz.underlying54
 a59:=Tryz.isAgg54
 z59:=Tryz.sizeOf54
 v59:=Tryz.zeroValue54
 t146:=Tryz.underlying301
 a146:=Tryz.isAgg301
 z146:=Tryz.sizeOf301
 v146:=Tryz.zeroValue301
 g1:=kR
 i3:=kR
 i4:=kR
 i5:=kR
 i9:=kR
 i46:=kR
 i51:=kR
 i59:=kR
 i146:=kR
 m1:=kR
 s1_3:=fun b a=>Go.Proofs.cell_of_shapedOpen_int (zero := #[.int .i64 0]) (t:=3) a (of_decide_eq_true kR) kR rfl kR kR Tryz.underlying3 }
theorem W8 (hs:s.size<4294967281) (hM:Dy w) :
  Dq 24 [.string s,.string ⟨#[c]⟩] w (fun v w'=>v = .tuple #[.string (bs (Lib.cut s.data.toList [c]).1),.string (bs (Lib.cut s.data.toList [c]).2.1),.bool (Lib.cut s.data.toList [c]).2.2]/\AD w w'):=by
 obtain ⟨d,b⟩:=hM;have a:Calls Tryz.prog 24 #[.string s,.string ⟨#[c]⟩] w _:=Any.strings_Cut { Zo with } s ⟨#[c]⟩ d w hs b;refine Cw kR (a.mono ?_);rintro _ _ ⟨rfl,e,rfl⟩;exact ⟨_,rfl,rfl,⟨rfl,rfl,rfl,Nat.le_refl _,fun _ _=>rfl⟩⟩
def MD:Go.Shelf.Ren:=⟨fun | 137=>253 | 217=>182 | 266=>249 | n=>n,fun | 9=>9 | 5=>5 | 3=>3 | n=>n,fun | n=>n⟩
theorem RL:Go.Proofs.Lays.n137 Tryz.prog MD:={
 mixed:=kR
 f137:=Tryz.func253.trans (congrArg some kR)
 f217:=Tryz.func182.trans (congrArg some kR)
 f266:=Tryz.func249.trans (congrArg some kR)
 t3:=Tryz.underlying3
 a3:=Tryz.isAgg3
 z3:=Tryz.sizeOf3
 v3:=Tryz.zeroValue3
 t5:=Tryz.underlying5
 a5:=Tryz.isAgg5
 z5:=Tryz.sizeOf5
 v5:=Tryz.zeroValue5
 t9:=Tryz.underlying9
 a9:=Tryz.isAgg9
 z9:=Tryz.sizeOf9
 v9:=Tryz.zeroValue9 }
theorem IS (s:ByteArray) (c:UInt8) (w:World):Dq 253 [.string s,.int .u8 c.toNat] w (fun v w'=>v = .int .i64 (Lib.indexByte s.data.toList c)/\w=w'):=by
 have a:Calls Tryz.prog 253 #[.string s,.int .u8 c.toNat] w _:=Any.strings_IndexByte RL s c.toNat w;refine Cw kR (a.mono ?_);rintro _ _ ⟨rfl,rfl⟩;exact ⟨_,rfl,sI,rfl⟩
def MC:Go.Shelf.Ren:=⟨fun | 156=>146 | 165=>219 | 166=>220 | 169=>221 | 240=>280 | 241=>281 | 276=>317 | 277=>318 | n=>n,fun | 31=>37 | 9=>9 | 3=>3 | 4=>4 | 0=>0 | 20=>20 | 72=>274 | 76=>276 | 70=>272 | 37=>98 | 75=>178 | 127=>322 | 164=>349 | 5=>5 | 80=>278 | n=>n,fun | n=>n⟩
theorem Y2:Go.Proofs.Lays.n156 Tryz.prog MC:={
 mixed:=kR
 f156:=Tryz.func146.trans (congrArg some kR)
 f165:=Tryz.func219.trans (congrArg some kR)
 f166:=Tryz.func220.trans (congrArg some kR)
 f169:=Tryz.func221.trans (congrArg some kR)
 f240:=Tryz.func280.trans (congrArg some kR)
 f241:=Tryz.func281.trans (congrArg some kR)
 f276:=Tryz.func317.trans (congrArg some kR)
 f277:=Tryz.func318.trans (congrArg some kR)
 t0:=Tryz.underlying0
 a0:=Tryz.isAgg0
 z0:=Tryz.sizeOf0
 v0:=Tryz.zeroValue0
 t3:=Tryz.underlying3
 a3:=Tryz.isAgg3
 z3:=Tryz.sizeOf3
 v3:=Tryz.zeroValue3
 t4:=Tryz.underlying4
 a4:=Tryz.isAgg4
 z4:=Tryz.sizeOf4
 v4:=Tryz.zeroValue4
 t9:=Tryz.underlying9
 a9:=Tryz.isAgg9
 z9:=Tryz.sizeOf9
 v9:=Tryz.zeroValue9
 t20:=Tryz.underlying20
 a20:=Tryz.isAgg20
 z20:=Tryz.sizeOf20
 v20:=Tryz.zeroValue20
 t31:=Tryz.underlying37
 a31:=Tryz.isAgg37
 z31:=Tryz.sizeOf37
 v31:=Tryz.zeroValue37
 t37:=Tryz.underlying98
 a37:=Tryz.isAgg98
 z37:=Tryz.sizeOf98
 v37:=Tryz.zeroValue98
 t70:=Tryz.underlying272
 a70:=Tryz.isAgg272
 z70:=Tryz.sizeOf272
 v70:=Tryz.zeroValue272
 t72:=Tryz.underlying274
 a72:=Tryz.isAgg274
 z72:=Tryz.sizeOf274
 v72:=Tryz.zeroValue274
 t75:=Tryz.underlying178
 a75:=Tryz.isAgg178
 z75:=Tryz.sizeOf178
 v75:=Tryz.zeroValue178
 t76:=Tryz.underlying276
 a76:=Tryz.isAgg276
 z76:=Tryz.sizeOf276
 v76:=Tryz.zeroValue276
 t127:=Tryz.underlying322
 a127:=Tryz.isAgg322
 z127:=Tryz.sizeOf322
 v127:=Tryz.zeroValue322
 t164:=Tryz.underlying349
 a164:=Tryz.isAgg349
 z164:=Tryz.sizeOf349
 v164:=Tryz.zeroValue349 }
theorem Xz:Builder.Extra Tryz.prog MC:={
 sizeBuilder:=kR
 liesBuilder:=kR
 t5:=Tryz.underlying5
 a5:=Tryz.isAgg5
 z5:=Tryz.sizeOf5
 v5:=Tryz.zeroValue5
 infoByte:=kR
 cellsByte:=kR
 sizeByte:=kR
 neB5:=by decide }
theorem VB {xs:List ByteArray} {sep:ByteArray} {n c:Nat} (h:AK w b 0 (BD eS xs)) (hb:b<w.heap.size) (hn:xs.length=n) (hc:n<=c) (hN:n<=140737488355328)
  (hl:(Lib.join (xs.map (·.data.toList)) sep.data.toList).length<=140737488355328) :
  Dq 146 [.slice (some ⟨b,0,none⟩) n c,.string sep] w (fun v w'=>v = .string (bs (Lib.join (xs.map (·.data.toList)) sep.data.toList))/\AD w w'):=by
 subst hn;have a:Calls Tryz.prog 146 #[.slice (some ⟨b,0,none⟩) xs.length c,.string sep] w _:=Any.strings_Join Y2 Xz b 0 c xs sep w (fun e f d=>by
  have:=h e (.string f) (by
   rw [T1,List.getElem?_map,d];rfl)
  exact this) hb hN hc hl
 refine Cw kR (a.mono ?_);rintro _ _ ⟨rfl,hb⟩;exact ⟨_,rfl,rfl,hb⟩
theorem Xx {a1 a2 a3 a4:ByteArray} {t:Nat} (h:CD w b [.string a1,.string a2,.string a3,.string a4] t) (h1:a1.size<=1000) (h2:a2.size<=1000) (h3:a3.size<=1000) (h4:a4.size<=1000) :
  Dq 146 [.slice (some ⟨b,0,none⟩) 4 4,.string ⟨#[32]⟩] w (fun v w'=>v = .string (a1++bs [32]++a2++bs [32]++a3++bs [32]++a4)/\AD w w'):=by
 have d:bs (Lib.join [a1.data.toList,a2.data.toList,a3.data.toList,a4.data.toList] [32])=a1++bs [32]++a2++bs [32]++a3++bs [32]++a4:=by
  apply CV;rw [PC,Lib.join_cons];simp [Lib.joinTail,bs]
 have e:(Lib.join [a1.data.toList,a2.data.toList,a3.data.toList,a4.data.toList] [32]).length=a1.size+a2.size+a3.size+a4.size+3:=by
  have:=congrArg ByteArray.size d;rw [AV] at this;rw [this];have a:(bs [32]).size=1:=rfl;simp only [ByteArray.size_append,a];omega
 have:=VB (xs:=[a1,a2,a3,a4]) (sep:=⟨#[32]⟩) (n:=4) (c:=4) h.cells h.lt rfl om om (by show (Lib.join [a1.data.toList,a2.data.toList,a3.data.toList,a4.data.toList] [32]).length<=_;omega);refine this.mono ?_;rintro _ f ⟨rfl,a⟩;exact ⟨congrArg Value.string d,a⟩
end Go.Proofs.YtalgenmoljcnmaaGreatDoor
