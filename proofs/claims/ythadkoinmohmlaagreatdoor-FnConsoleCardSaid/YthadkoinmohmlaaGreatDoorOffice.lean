/- Contracts of functions of the given program, of the reference and of the laws: each says what a call returns, for all arguments that meet the premises that the theorem itself names. -/
import Derived.Test.YthadkoinmohmlaaGreatDoorRows
import Derived.Deep.DeepHandedRow
import Derived.Lib.LaidTab
import Derived.Stop.LaidErr
import Derived.Lay
import Derived.MakeChecks
import Derived.SevenTiedAt
import Derived.ChangeVars
import Derived.Test.YthadkoinmohmlaaGreatDoorJournalM
import Derived.Test.YthadkoinmohmlaaGreatDoorBasics
import Derived.Test.YthadkoinmohmlaaGreatDoorVcApp
import Derived.Test.YthadkoinmohmlaaGreatDoorModel
namespace Go.M
open Go Go.Vc
def DeskR (w:World) (a:Option Addr) (n:Nat) (b:Option Addr) (m:Nat) (X:List (List (List Int))) (Y:List (List TTotal)):Prop:=ArrS RDeck w a n X∧ArrS RTots w b m Y
def DeskO (w:World) (lo hi:Nat) (a:Option Addr) (n:Nat) (b:Option Addr) (m:Nat) (X:List (List (List Int))) (Y:List (List TTotal)):Prop :=
  ∃ t t' f g,OwnS ODeck w a n t X f∧OwnS OTots w b m t' Y g∧InIv lo hi (f++g)
theorem DeskO.rd {w:World} {lo hi n m:Nat} {a b:Option Addr} {X:List (List (List Int))} {Y:List (List TTotal)} (h:DeskO w lo hi a n b m X Y):DeskR w a n b m X Y:=by
  obtain ⟨t,t',f,g,h1,h2,_⟩:=h;exact ⟨h1.arr,h2.arr⟩
theorem DeskO.mod {S:Nat→Prop} {w w':World} {lo hi n m:Nat} {a b:Option Addr} {X:List (List (List Int))} {Y:List (List TTotal)} (h:DeskO w lo hi a n b m X Y) (M:Mod S w w') (hs:∀ k,lo≤k→k<hi→¬ S k):DeskO w' lo hi a n b m X Y:=by
  obtain ⟨t,t',f,g,h1,h2,h3⟩:=h;have h4:∀ k∈f++g,¬ S k:=fun k hk=>hs k (h3.2 k hk).1 (h3.2 k hk).2;exact ⟨t,t',f,g,h1.keep fun k hk=>M.block k (h4 k (List.mem_append_left _ hk)) (h1.lt k hk),h2.keep fun k hk=>M.block k (h4 k (List.mem_append_right _ hk)) (h2.lt k hk),h3⟩
theorem DeskO.ext {w w':World} {lo hi n m:Nat} {a b:Option Addr} {X:List (List (List Int))} {Y:List (List TTotal)} (h:DeskO w lo hi a n b m X Y) (e:Ext w w'):DeskO w' lo hi a n b m X Y:=by
  obtain ⟨t,t',f,g,h1,h2,h3⟩:=h;exact ⟨t,t',f,g,h1.keep fun k hk=>e.block k (h1.lt k hk),h2.keep fun k hk=>e.block k (h2.lt k hk),h3⟩
theorem DeskO.wide {w:World} {lo hi lo' hi' n m:Nat} {a b:Option Addr} {X:List (List (List Int))} {Y:List (List TTotal)} (h:DeskO w lo hi a n b m X Y) (h1:lo'≤lo) (h2:hi≤hi'):DeskO w lo' hi' a n b m X Y:=by
  obtain ⟨t,t',f,g,h3,h4,h5⟩:=h;exact ⟨t,t',f,g,h3,h4,h5.wide h1 h2⟩
end Go.M
namespace Go.Proofs.YthadkoinmohmlaaGreatDoor
open Go Go.RowKit Go.Vc Go.M
theorem impl_newDeck0 {w:World} {a:Option Addr} {c:Nat} :
    Does Tryz.prog 55 [.slice a 0 c] w (fun v w'=>∃ b,v = .slice (some ⟨b,0,none⟩) 0 0∧w.heap.size≤b∧b<w'.heap.size∧Blk w' b [] 131∧Ext w w'):=by
  refine oV Tryz.func55 ?_;refine bS mk_93 (vs:=[]) ?_;intro b1 w1 g1 l1 e1 B1;refine lR [3,7,8,9] (fun (_:Nat) vs w'=>vs=[.slice (some ⟨b1,0,none⟩) 0 0,.slice a 0 c,.int .i64 0,.int .i64 0]∧w'=w1) (fun k=>1 - k) 0 ⟨rfl,rfl⟩ ?_;rintro k g _ w' ⟨rfl,rfl⟩;exact ⟨b1,rfl,g1,l1,B1,e1⟩
theorem impl_ValidDeck0 {w:World} {a:Option Addr} {c:Nat} :
    Does Tryz.prog 54 [.slice a 0 c] w (fun v w'=>v = .bool true∧Ext w w'):=by
  refine oV Tryz.func54 ?_;refine lR [0,5,6,7] (fun (_:Nat) vs w'=>vs=[.slice a 0 c,.slice a 0 c,.int .i64 0,.int .i64 0]∧w'=w) (fun k=>1 - k) 0 ⟨rfl,rfl⟩ ?_;rintro k g _ w' ⟨rfl,rfl⟩;exact ⟨rfl,Ext.refl _⟩
theorem impl_NewOffice0 {w:World} {a:Option Addr} {c:Nat} :
    Does Tryz.prog 26 [.slice a 0 c] w (fun v w'=>∃ a c b d,v = .tuple #[.agg #[.slice a 6 c,.slice b 0 d],.int .i64 0]∧DeskO w' w.heap.size w'.heap.size a 6 b 0 (List.replicate 6 []) []∧Ext w w'):=by
  refine oV Tryz.func26 ?_;refine jN (z := .agg #[.slice none 0 0,.slice none 0 0]) ?_;intro b1 w1 g1 l1 e1 B1;refine (impl_ValidDeck0).mono ?_;rintro _ w3 ⟨rfl,e2⟩;refine SemK.make mk_26 (6) rfl (by omega) (by omega) ?_;intro b4 w4 g4 l4 e4 B4;refine bS mk_27 (vs:=[]) ?_;intro b5 w5 g5 l5 e5 B5;refine SemK.build st_29 rfl ?_;refine jN (z := .agg #[.slice none 0 0,.slice none 0 0]) ?_;intro b6 w6 g6 l6 e6 B6;refine SemK.storeAll (vs:=[Value.slice (some { block:=b4,off:=0 }) 6 6,Value.slice (some { block:=b5,off:=0 }) 0 0]) (by kernel_rfl) B6 rfl rfl (by simp [cellish]) ?_;intro w7 c7 B7;have B4':Blk w4 b4 [.slice none 0 0,.slice none 0 0,.slice none 0 0,.slice none 0 0,.slice none 0 0,.slice none 0 0] 93:=B4;refine DrawK.heldS tabok mixed [(0,false),(1,false),(2,true),(3,true),(4,true),(5,true)] (by kernel_rfl) (by kernel_rfl) ?_;intro w8 e8;refine dL B7.cells (k:=0) rfl ?_;refine (impl_newDeck0).mono ?_;rintro _ w14 ⟨b9,rfl,q10,q11,q12,e13⟩;refine ⟨(xt e8 e13),?_⟩;refine jW (sz:=1) 0 rfl (by omega) ?_;refine ⟨(xt e8 e13),?_⟩;have E47:Ext w4 w7:=(xt e5 e6).but_trans c7.but (by omega);have E414:Ext w4 w14:=xt E47 (xt e8 e13);refine jT (B4'.ext E414) (k:=0+0 * 1) (by simp) rfl ?_;intro w15 c15 B15;have B15:Blk w15 b4 [.slice (some ⟨b9,0,none⟩) 0 0,.slice none 0 0,.slice none 0 0,.slice none 0 0,.slice none 0 0,.slice none 0 0] 93:=B15;have hs14:=E414.size;have c7':Cells w15 b6 0 [Value.slice (some { block:=b4,off:=0 }) 6 6,Value.slice (some { block:=b5,off:=0 }) 0 0]:=(B7.ext (xt e8 e13)).cells.mod c15.but (by omega);refine jA (n:=2) c7' rfl ?_;refine SemK.storeAll (vs:=[Value.slice (some { block:=b4,off:=0 }) 6 6,Value.slice (some { block:=b5,off:=0 }) 0 0]) (by kernel_rfl) (B1.ext (xb (xt (xt e2 e4) E414) c15.but (Nat.le_trans (Below.size e2) g4))) rfl rfl (by simp [cellish]) ?_;intro w415 c415 B415;refine CellK.of (jR (n:=2) rfl B415.cells) ?_;refine ⟨_,_,_,_,rfl,?_,(xb (xb (xt (xt (xt e1 e2) e4) E414) c15.but (Nat.le_trans (Below.size (xt e1 e2)) g4)) c415.but g1)⟩
  · have E7:Ext w7 w14:=xt e8 e13;have K1:∀ {b:Nat} {cs:List Value} {t:Nat},Blk w14 b cs t→w1.heap.size≤b→b≠b4→Blk w415 b cs t:=fun hb hlo hne=>(hb.mod c15.but hne).mod c415.but (by omega);have q12':=K1 q12 (by have:=e8.size;have:=E47.size;have:=e4.size;have:=e2.size;omega) (by have:=e8.size;have:=E47.size;omega);have B5':=K1 (B5.ext (xt e6 (Ext.refl _)) |>.mod c7.but (by omega) |>.ext E7) (by have:=e4.size;have:=e2.size;omega) (by omega);have B4x:Blk w415 b4 [.slice (some ⟨b9,0,none⟩) 0 0,.slice none 0 0,.slice none 0 0,.slice none 0 0,.slice none 0 0,.slice none 0 0] 93:=B15.mod c415.but (by have:=e2.size;omega);have z:ODeck w415 ⟨none,0,0⟩ [] []:=OS.zero;have el:=(((((ElO.nil.snoc (OS.new0 q12')).snoc z).snoc z).snoc z).snoc z).snoc z;refine ⟨_,_,[b4,b9],[b5],⟨_,_,(Grow.of_blk (n:=6) (xs:=[⟨some ⟨b9,0,none⟩,0,0⟩,⟨none,0,0⟩,⟨none,0,0⟩,⟨none,0,0⟩,⟨none,0,0⟩,⟨none,0,0⟩]) eH_len B4x (Nat.le_refl b4) rfl (by omega)).own,el,rfl⟩,⟨[],[],(Grow.new0 eH_len B5' (Nat.le_refl b5)).own,ElO.nil,rfl⟩,?_,?_⟩
    · have:=e8.size;have:=e6.size;have:=c7.but.size;simp;omega
    · have h15:=c15.but.size;have h415:=c415.but.size;have:=e8.size;have:=E47.size;have:=E414.size;have:=e1.size;have:=e2.size;have:=e4.size;have:=e13.size;have:=e6.size;have:=c7.but.size;simp;omega
theorem impl_NewDesk {w:World} :
    Does Tryz.prog 8 [] w (fun v w'=>∃ a c b d,v = .agg #[.slice a 6 c,.slice b 0 d,.string { data := #[] }]∧DeskO w' w.heap.size w'.heap.size a 6 b 0 (List.replicate 6 []) []∧Ext w w'):=by
  refine oV Tryz.func8 ?_;refine jN (z := .agg #[.slice none 0 0,.slice none 0 0,.string { data := #[] }]) ?_;intro b1 w1 g1 l1 e1 B1;refine (impl_NewOffice0).mono ?_;rintro _ w8 ⟨a2,c3,b4,d5,rfl,q6,e7⟩;refine jN (z := .agg #[.slice none 0 0,.slice none 0 0]) ?_;intro b9 w9 g9 l9 e9 B9;refine jS (vs:=[Value.slice a2 6 c3,Value.slice b4 0 d5]) B9 rfl rfl (by simp [cellish]) ?_;intro w10 c10 B10;refine jA (n:=2) B10.cells rfl ?_;refine SemK.build st_31 rfl ?_;refine jS (vs:=[Value.slice a2 6 c3,Value.slice b4 0 d5,Value.string { data := #[] }]) (B1.ext (xb (xt e7 e9) c10.but (Nat.le_trans (Below.size e7) g9))) rfl rfl (by simp [cellish]) ?_;intro w11 c11 B11;refine CellK.of (jR (n:=3) rfl B11.cells) ?_;refine ⟨_,_,_,_,rfl,?_,(xb (xb (xt (xt e1 e7) e9) c10.but (Nat.le_trans (Below.size (xt e1 e7)) g9)) c11.but g1)⟩
  · have h10:=c10.but.size;have h11:=c11.but.size;have h9:=e9.size;exact (((q6.ext e9).mod c10.but (by omega)).mod c11.but (by omega)).wide e1.size (by omega)
end Go.Proofs.YthadkoinmohmlaaGreatDoor
namespace Go.M
open Go Go.Vc
end Go.M
namespace Go.Proofs.YthadkoinmohmlaaGreatDoor
open Go Go.RowKit Go.Vc Go.M
end Go.Proofs.YthadkoinmohmlaaGreatDoor
namespace Go.M
open Go Go.Vc
end Go.M
namespace Go.Proofs.YthadkoinmohmlaaGreatDoor
open Go Go.RowKit Go.Vc Go.M
end Go.Proofs.YthadkoinmohmlaaGreatDoor
namespace Go.Proofs.YthadkoinmohmlaaGreatDoor
open Go Go.RowKit Go.Vc
theorem law_own:ownKnob (Tryz.prog).godebug=none:=by kernel_rfl
theorem law_laid:laidOutB Tryz.prog=true:=by kernel_rfl
end Go.Proofs.YthadkoinmohmlaaGreatDoor
namespace Go.Vc
open Go Go.RowKit Go.ChangeShapes Go.WideShapes
section
variable {H:Type} {enc:TypeId×Value→H} {P:Program}
theorem var_ext {P:Program} {w w':World} {n:String} {cs:Array Value} (h:w.var? P n=some cs) (e:Ext w w'):w'.var? P n=some cs:=by
  unfold World.var? at *;cases hg:P.globalNamed n with
  | none=>simp [hg] at h
  | some g =>
    simp only [hg,Option.bind_some] at h ⊢;have hlt:g<w.heap.size:=by
      rcases Nat.lt_or_ge g w.heap.size with h' | h'
      · exact h'
      · rw [Array.getElem?_eq_none h'] at h;simp at h
    rw [e.block g hlt];exact h
theorem law_contract_at1 {fn:Func} {s:ChangeSpec} {n:String} {g tb base g0 t0:Nat} (hvars:s.vars=[n]) (hg0:P.globalNamed n=some g0) (ht0:(P.globals[g0]?).map (·.type)=some t0) (hr0:P.readableRec t0=true) (hlt0:t0<P.types.size)
    (hres:fn.resultTypes = #[tb]) (hbool:P.underlying tb=some .bool) (hl:laidOutB P=true)
    (hread:(fn.params.toList.all fun t=>P.readableRec t && decide (t<P.types.size))=true)
    (hspec:∀ (ds:List (DataW H)) (d:DataW H),ds.length=fn.params.toList.length→(s.fn H (ds++[d])).results=[.lit (.bool true)]∧(s.fn H (ds++[d])).args=ds∧(s.fn H (ds++[d])).vars=[d])
    (W:World) (args:Array Value) (ds gs:List (DataW H)) (before:List MemPlace)
    (walk:∀ (p:List MemPlace),DataW.TrodAll enc P W 0 (fun _=>true) true fn.params.toList args.toList ds p→(∀ (j:Nat) t v,fn.params[j]? = some t→args.toList[j]? = some v→Value.okWide P W .any base t v) →
      Does P g args.toList W (fun v w'=>v = .bool true∧Ext W w'))
    (hval:∀ (j:Nat) t v,fn.params[j]? = some t→args[j]? = some v→Value.okWide P W .any base t v)
    (hW:DataW.Whole enc P fn.params.toList s.vars false W args.toList ds gs before) :
    Calls P g args W fun e W'=>∃ v,e = .returned v∧s.post enc P fn false true false false W args v W':=by
  have hW':=hW;obtain ⟨p,q,hA,hV,rfl,hfz,hnd⟩:=hW;rw [hvars] at hV;obtain ⟨g1,t1,cs,fuel,d,q1,rfl,hg1,ht1,hvar,htr,rfl⟩:=trodVars_one hV;obtain rfl:=Option.some.inj (hg0.symm.trans hg1);obtain rfl:=Option.some.inj (ht0.symm.trans ht1);have hd:=walk p hA (fun j t v h1 h2=>hval j t v h1 (by simpa using h2));have hc:=hd.calls;simp only [Array.toArray_toList] at hc;refine hc.mono fun e W' ⟨v,he,hv,hE⟩=>⟨v,he,?_⟩;subst hv;have hlen:ds.length=fn.params.toList.length:=by
    have:∀ (ts:List TypeId) (vs:List Value) (ds:List (DataW H)) (ps:List MemPlace),DataW.TrodAll enc P W 0 (fun _=>true) true ts vs ds ps→ds.length=ts.length:=by
      intro ts;induction ts with
      | nil=>intro vs ds ps h;obtain ⟨_,rfl,_⟩:=trodAll_nil h;rfl
      | cons t ts ih =>
        intro vs ds ps h;obtain ⟨v,vs',d,ds',p,q,rfl,rfl,rfl,h0,h1⟩:=trodAll_cons h;simp [ih _ _ _ h1]
    exact this _ _ _ _ hA
  obtain ⟨e1,e2,e3⟩:=hspec ds d hlen;have hst:DataW.Trod enc P W' 0 (fun b=>decide (b<W.heap.size)) true t0 (.agg cs) d q1 :=
    Below.trod hl hr0 hlt0 ⟨fuel,htr⟩ hE fun x hx=>DataW.trod_lt fuel _ _ _ htr x hx
  obtain ⟨fuel2,htr2⟩:=hst;refine ⟨ds,[d],_,[],p,MemPlace.row ⟨g0,0,none⟩ cs.size++q1,hW',?_,?_,?_,hE.frame _,fun h=>by cases h⟩
  · rw [e1,hres];exact trodAll_mk1 (shut_bool hbool _)
  · rw [e2];exact trodAll_stays hl hE _ _ _ _ hread hA
  · rw [e3,hvars];exact trodVars_mk1 hg0 ht0 (var_ext hvar hE) htr2
theorem err_of_laid {n nm:String} {d:DataW Unit} {rest:List (String×DataW Unit)} {W:World} (h:laidMet P ((n,.iface nm d) :: rest) W) {g t:Nat} {ms:Array (String×TypeId)} (hg:P.globalNamed n=some g) (ht:(P.globals[g]?).map (·.type)=some t) (hi:P.underlying t=some (.interface ms)) :
    ∃ u v,W.var? P n=some #[.iface u v]:=by
  obtain ⟨ps,⟨g',t',cs,fuel,p,q,hg',ht',hvar,hd,_,_⟩,_⟩:=h;obtain rfl:=Option.some.inj (hg.symm.trans hg');obtain rfl:=Option.some.inj (ht.symm.trans ht');obtain ⟨f1,u,v,hcs,_⟩:=iface_of_trod hi hd;obtain ⟨l⟩:=cs;simp only at hcs;subst hcs;exact ⟨u,v,hvar⟩
theorem witness_row_sh {C:Checked} {os:Os} {f:FuncId} {fn:Func} {s:ChangeSpec} {conds:List PathCond} {apart:Bool} {laid:List (String×DataW Unit)} (w0:World) (args:Array Value) (fuel:Nat) (hos:w0.os=os)
    (hsh:(w0.forCall (fun _ _=>0) ⟨#[],args,[]⟩).Shaped C.prog)
    (hok:Input.okWideB C.prog (w0.forCall (fun _ _=>0) ⟨#[],args,[]⟩) f ⟨#[],args,[]⟩=true)
    (hpre:s.preB enc C.prog fn conds apart (w0.forCall (fun _ _=>0) ⟨#[],args,[]⟩).memory args fuel=true)
    (hsz:s.sizedB enc C.prog fn apart (w0.forCall (fun _ _=>0) ⟨#[],args,[]⟩).memory args fuel=true)
    (hl:laidMetH C.prog laid (w0.forCall (fun _ _=>0) ⟨#[],args,[]⟩).memory) :
    ∃ (w:World) (tape:Tape) (i:Input),w.os=os∧(w.forCall tape i).Shaped C.prog∧i.vars=[]∧Input.okWide C.prog (w.forCall tape i) .any w.heap.size f i ∧
      (OpenSpec.ofChange s).preRow enc C.prog fn conds apart laid (w.forCall tape i).memory i.args∧({}:Assume).holds C.prog (lone (Frame.enter C.prog f i.args .normal) [] (w.forCall tape i)) :=
  ⟨w0,fun _ _=>0,⟨#[],args,[]⟩,hos,hsh,(Input.okWide_of_okWideB (base:=0) hok).1,(Input.okWide_of_okWideB hok).2,⟨⟨ChangeSpec.pre_of_preB hpre,hl⟩,sizedMet_of_sizedB hsz⟩,by
    simp only [Assume.holds];exact ⟨by simp,by simp,fun _=>Modest.zero,by simp,by simp⟩⟩
end
end Go.Vc
