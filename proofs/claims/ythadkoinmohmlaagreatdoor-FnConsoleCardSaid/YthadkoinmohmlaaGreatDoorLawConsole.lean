/- Contracts of functions of the given program, of the reference and of the laws: each says what a call returns, for all arguments that meet the premises that the theorem itself names. -/
import Derived.Test.YthadkoinmohmlaaGreatDoorCards
import Derived.JoinedOf
import Derived.Test.YthadkoinmohmlaaGreatDoorTie
import Derived.Test.YthadkoinmohmlaaGreatDoorExecI
import Derived.Test.YthadkoinmohmlaaGreatDoorStepM
import Derived.Test.YthadkoinmohmlaaGreatDoorOffice
namespace Go.M
open Go Go.Vc
theorem deskB_log {X:List (List (List Int))} {m:Nat} {s:ByteArray} (h:deskB X m s=true):s.size≤4000:=by
  have:=(desk_parts.1 h).2;rcases journalCode_cases s with ⟨_,z2⟩ | ⟨z1,_⟩ | ⟨z1,_⟩<;>omega
theorem bs_nil_iff {l:List UInt8}:bs l=⟨#[]⟩↔l=[]:=by
  constructor
  · intro h;have:=congrArg ByteArray.size h;rw [bs_size] at this;exact List.eq_nil_of_length_eq_zero this
  · rintro rfl;rfl
theorem cut_le1 (l:List UInt8):(Lib.cut l [10]).1.length≤l.length:=by
  by_cases hm:(10:UInt8)∈l
  · obtain ⟨p,r,rfl,hp⟩:=List.eq_append_cons_of_mem hm;rw [cut_at hp];simp
  · rw [cut_no hm];exact Nat.le_refl _
end Go.M
namespace Go.Proofs.YthadkoinmohmlaaGreatDoor
open Go Go.RowKit Go.Vc Go.M
set_option maxHeartbeats 4000000 in
theorem impl_RunDesk {w:World} {s:ByteArray} (hs:s.size≤1048576) (hT:Pow w) (hE:Errs w) (hM:MaxL w) (hN:CodeNames w) :
    Does Tryz.prog 12 [.string s] w (fun v w'=>v = .string (runM s)∧Ext w w'):=by
  refine oV Tryz.func12 ?_;refine impl_NewDesk.mono ?_;rintro _ w1 ⟨a0,c0,b0,d0,rfl,DK,e1⟩;refine jN (z := .agg #[.slice none 0 0,.slice none 0 0,.string { data := #[] }]) ?_;intro b4 w2 g2 l2 e2 B2;refine jS (vs:=[.slice a0 6 c0,.slice b0 0 d0,.string { data := #[] }]) B2 rfl rfl (by simp [cellish]) ?_;intro w3 c3 B3;have z1:=e1.size;have z2:=e2.size;have z3:=c3.but.size;have E3:Ext w w3:=xb (xt e1 e2) c3.but (by omega);have DK3:=(DK.mod (S:=fun _=>False) (Ext.mod e2) (fun _ _ _ h=>h)).mod c3.but (fun k h1 h2 hk=>by have hk:k=b4:=hk;omega);have hbs:bs s.data.toList=s:=bytes_ext (by simp [bs]);refine lR [0,3,4,5] (fun (g:List UInt8×List ByteArray) vs w'=>∃ a n c b m d lo hi,vs=[.string (bs g.1),.string (bs (runSt g.2).2),.pointer (some ⟨b4,0,none⟩),.int .i64 g.2.length]∧g.2.length≤60∧cutL s.data.toList=g.2++cutL g.1∧g.1.length≤s.size∧Blk w' b4 [.slice a n c,.slice b m d,.string (runSt g.2).1.s] 31∧DeskO w' lo hi a n b m (runSt g.2).1.X (runSt g.2).1.Y∧(b4<lo∨hi≤b4)∧w3.heap.size≤w'.heap.size∧Ext w w') (fun g=>g.1.length) (s.data.toList,[]) ⟨a0,6,c0,b0,0,d0,_,_,by rw [hbs];rfl,by simp,rfl,by simp,B3,DK3,.inr (by omega),by omega,E3⟩ ?_;rintro ⟨l,ls⟩ g vs w4 ⟨a,n,c,b,m,d,lo,hi,hvs,hk,hcut,hll,B4,DK4,hb4,z4,hX⟩;obtain rfl:vs=[.string (bs l),.string (bs (runSt ls).2),.pointer (some ⟨b4,0,none⟩),.int .i64 ls.length]:=hvs;have hk:ls.length≤60:=hk;have hcut:cutL s.data.toList=ls++cutL l:=hcut;have hll:l.length≤s.size:=hll;have hro:=run_ok ls;have hrs:=hro.s;have hsn:=runSt_snoc ls;by_cases hl:l=[]
  · subst hl;have hre:=run_end hcut hk;rw [hre];exact ⟨rfl,hX⟩
  · have hlt:=cut_less hl;have hl1:=cut_le1 l;have hrun:=run_step hcut hl;have hful:=fun h60=>run_full (s:=s) hcut h60 hl;have hC:∀ u,MaxL u→Does Tryz.prog 38 [.string (bs l),.string ⟨#[10]⟩] u (fun v w'=>v = .tuple #[.string (bs (Lib.cut l [10]).1),.string (bs (Lib.cut l [10]).2.1),.bool (Lib.cut l [10]).2.2]∧Ext u w'):=fun u hu=>by
      have:=lib_Cut (s:=bs l) (c:=10) (by rw [bs_size];omega) hu;rw [bs_toList] at this;exact this
    refine IfB.eqt (by simp [bs_nil_iff,hl]) ?_;refine (hC _ (hM.ext hX)).mono ?_;rintro _ w5 ⟨rfl,e5⟩;(conv=>whnf);by_cases h60:ls.length=60
    · rw [hful h60];refine IfB.yes (by omega) ?_;refine SemK.cat (by rw [bs_size];show _+11≤_;omega) ?_;refine ⟨?_,xt hX e5⟩;rw [bs_app];rfl
    · refine IfB.no (by omega) ?_;(conv=>whnf);generalize hln:bs (Lib.cut l [10]).1=line at *;have hk1:(ls++[line]).length≤60:=by
        rw [List.length_append,List.length_singleton];omega
      have hlns:line.size≤1048576:=by rw [← hln,bs_size];omega
      have hnx:=stepR_no (st:=runSt ls) (line:=line);have hyx:=stepR_yes (st:=runSt ls) (line:=line);have hcs:=cmd_small (D:=(runSt ls).1) line hro.v;have hlog:=deskB_log hro.v;obtain ⟨RX,RY⟩:=DK4.rd;have X5:Ext w w5:=xt hX e5;have hCmd:=impl_DeskCommand (D:=(runSt ls).1) (c:=c) (d:=d) (RX.ext e5) (RY.ext e5) (by omega) hro.y hlns (hT.ext X5) (hE.ext X5) (hM.ext X5) (hN.ext X5);refine jA (n:=3) (B4.ext e5).cells rfl ?_;refine hCmd.mono ?_;rintro _ w6 ⟨a6,n6,c6,b6,m6,d6,s6,al,nl,cl,rfl,q6,_,e6⟩;refine jN (z := .agg #[.slice none 0 0,.slice none 0 0,.string { data := #[] }]) ?_;intro b9 w7 g7 l7 e7 B7;refine jS (vs:=[.slice a6 n6 c6,.slice b6 m6 d6,.string s6]) B7 rfl rfl (by simp [cellish]) ?_;intro w8 c8 B8;(conv=>whnf);have z5:=e5.size;have z6:=e6.size;have z7:=e7.size;have z8:=c8.but.size;have hb4l:=B4.lt;have E8:Ext w4 w8:=xb (xt (xt e5 e6) e7) c8.but (by omega);generalize hcm:cmdM (runSt ls).1 line=r at *;obtain ⟨⟨D6,L6⟩,k6⟩:=r;dsimp only at q6 hnx hyx hcs;by_cases hz:k6=0
      · subst hz;obtain ⟨p1,p2,p3,lo6,hi6,p4,p5,p6,p7',p7,p8⟩:=q6 rfl;subst p1;have hst:runSt (ls++[line])=(D6,(runSt ls).2++linesT L6):=by rw [hsn,hyx rfl]
        have hls:=lines_small hcs.1;have A8:=((p8.arr eS_len).ext e7).mod c8.but (fun y hy hk=>by
          have hk:y.block=b9:=hk;have:=p8.lt y hy;omega)
        have DK8:=(p6.mod (S:=fun _=>False) (Ext.mod e7) (fun _ _ _ h=>h)).mod c8.but (fun k h1 h2 hk=>by have hk:k=b9:=hk;omega);refine jA (n:=3) B8.cells rfl ?_;refine jS (vs:=[.slice a6 n6 c6,.slice b6 m6 d6,.string D6.s]) (B4.ext E8) rfl rfl (by simp [cellish]) ?_;intro w9 c9 B9;have z9:=c9.but.size;have A9:=A8.mod c9.but (fun y hy hk=>by
          have hk:y.block=b4:=hk;have:=p7 y hy;omega)
        have E9:Ext w w9:=xb (xt hX E8) c9.but (by have:=hX.size;omega);have B9':Blk w9 b4 [.slice a6 n6 c6,.slice b6 m6 d6,.string D6.s] 31:=B9;have DK9:=DK8.mod c9.but (fun k h1 h2 hk=>by have hk:k=b4:=hk;omega);have hnl:=A9.len;have hln4:=hcs.1.n;refine lR [0,3,4,5,42,43,44] (fun (j:Nat) vs w'=>vs=[.string (bs (Lib.cut l [10]).2.1),.string (bs ((runSt ls).2++linesT (L6.take j))),.pointer (some ⟨b4,0,none⟩),.int .i64 ls.length,.slice al nl cl,.int .i64 nl,.int .i64 j]∧j≤nl∧Ext w9 w') (fun j=>nl - j) 0 ⟨by rw [show (runSt ls).2++linesT (L6.take 0)=(runSt ls).2 by simp [linesT]];rfl,by omega,Ext.refl _⟩ ?_;rintro j g' _ w10 ⟨rfl,hj,hY⟩;rcases Nat.lt_or_ge j nl with hjn | hjn
        · obtain ⟨x,hx⟩:=get_of_lt (l:=L6) (k:=j) (by omega);have hlt6:=lines_take hx;have hle:=lines_take_le L6 j;have hxs:=hcs.1.s x (List.mem_of_getElem? hx);refine IfB.yes (by omega) ?_;refine jI (A9.ext hY) j rfl hx ?_;intro b11 o11 ha11 hb11;refine jO hb11 rfl ?_;refine SemK.cat (by show _+1≤_;omega) ?_;have q1:(bs ((runSt ls).2++linesT (L6.take j))).size=(runSt ls).2.length+(linesT (L6.take j)).length:=by rw [bs_size,List.length_append]
          have q2:(x++⟨#[10]⟩:ByteArray).size=x.size+1:=by rw [ByteArray.size_append];rfl
          refine SemK.cat (a:=bs ((runSt ls).2++linesT (L6.take j))) (b:=x++⟨#[10]⟩) (by rw [q1,q2];omega) ?_;refine SemK.add (((j+1:Nat):Int)) (by omega) (by omega) (by omega) ?_;refine ⟨j+1,by omega,?_,by omega,hY⟩;rw [hlt6,← List.append_assoc,bs_app,bs_app];rfl
        · obtain rfl:j=nl:=by omega
          have htk:L6.take j=L6:=List.take_of_length_le (by omega);rw [htk];refine IfB.no (by omega) ?_;refine SemK.add (((ls.length+1:Nat):Int)) (by omega) (by omega) (by omega) ?_;refine ⟨((Lib.cut l [10]).2.1,ls++[line]),hlt,a6,n6,c6,b6,m6,d6,lo6,hi6,?_,hk1,hrun,(Nat.le_trans (Nat.le_of_lt hlt) hll),?_,?_,.inl (by omega),?_,xt E9 hY⟩
          · rw [hst];simp only [List.length_append,List.length_singleton];rfl
          · rw [hst];exact B9'.ext hY
          · rw [hst];exact DK9.mod (S:=fun _=>False) (Ext.mod hY) (fun _ _ _ h=>h)
          · have:=hY.size;have:=E8.size;omega
      · have hst:runSt (ls++[line])=((runSt ls).1,(runSt ls).2++[63,10]):=by rw [hsn,hnx hz]
        refine IfB.eqt (by simp [hz]) ?_;refine SemK.cat (by rw [bs_size];show _+2≤_;omega) ?_;refine SemK.add (((ls.length+1:Nat):Int)) (by omega) (by omega) (by omega) ?_;refine ⟨((Lib.cut l [10]).2.1,ls++[line]),hlt,a,n,c,b,m,d,lo,hi,?_,hk1,hrun,(Nat.le_trans (Nat.le_of_lt hlt) hll),?_,?_,hb4,Nat.le_trans z4 E8.size,xt hX E8⟩
        · rw [hst];simp only [List.length_append,List.length_singleton];rw [bs_app];rfl
        · rw [hst];exact B4.ext E8
        · rw [hst];exact DK4.mod (S:=fun _=>False) (Ext.mod E8) (fun _ _ _ h=>h)
end Go.Proofs.YthadkoinmohmlaaGreatDoor
namespace Go.Proofs.YthadkoinmohmlaaGreatDoor
open Go
theorem andI {a b:Bool} (h:a=true) (k:b=true):(a && b)=true:=by rw [h,k];rfl
theorem seat_main:Tryz.pinned.checked.prog.mainIs=some (Rows.fnConsoleCard.stood.harness.1,Rows.fnConsoleCard.stood.harness.2.toList):=by kernel_rfl
theorem seat_heard:Tryz.prog.stopsHeard=true:=by kernel_rfl
theorem seat_enter:Tryz.prog.mayEnter=true:=by kernel_rfl
theorem seat_lifts:(Rows.fnConsoleCard.stood.row.lifted == Tryz.prog.liftsFinal)=true:=by kernel_rfl
theorem seat_make:(Tryz.prog.make == some Rows.fnConsoleCard.stood.row.make)=true:=by kernel_rfl
theorem seat_looks:true=Tryz.pinned.checked.prog.looks []:=by kernel_rfl
end Go.Proofs.YthadkoinmohmlaaGreatDoor
namespace Go.M
open Go Go.Vc
theorem lineS_ne (l:List Int):¬ lineS l=⟨#[]⟩:=by
  intro h;have:=congrArg ByteArray.size h;unfold lineS at this;split at this
  · rw [bs_size] at this;cases this
  · rename_i q;rw [bs_size] at this;have h2:(jn l).length=0:=this;exact jn_ne q (List.length_eq_zero_iff.1 h2)
end Go.M
namespace Go.Proofs.YthadkoinmohmlaaGreatDoor
open Go Go.Shelf Go.Proofs Go.RowKit Go.Vc Go.M Go.ChangeShapes Go.WideShapes Go.ChangeAt
open Go.ChangeMaps (open_string)
set_option maxRecDepth 100000 in
set_option linter.unusedVariables false in
set_option maxHeartbeats 4000000 in
theorem law_Console {w:World} {a0:Option Addr} {n0 c0:Nat} {x0:List UInt8} (h0:Arr eB 1 w a0 n0 x0) (hT:Pow w) (hE:Errs w) (hM:MaxL w) (hN:CodeNames w):Does Tryz.prog 3 [.slice a0 n0 c0] w (fun v w'=>v = .bool true∧Ext w w'):=by
  have len0:=h0.len;refine oV Tryz.func3 ?_;conv=>whnf
  refine (laws_a2Long _ _ _ _ _ _ _).mono ?_;rintro _ _ ⟨r2,rfl,rfl⟩;(conv=>whnf);with_reducible refine IfB.split (fun h4=>?_) (fun h4=>?_)
  · (conv=>whnf);exact ⟨rfl,Ext.refl _⟩
  · (conv=>whnf);refine (spec_A2Lines h0).mono ?_;rintro _ w1 ⟨al,nl,cl,ls,rfl,hn9,hnc,hok,Nl,Ol,e1⟩;have Al:=Ol.arr eS_len;have hll:=Al.len;have hno:∀ x∈ls,(10:UInt8)∉x.data.toList:=fun x hx=>(hok x hx).2;have hrl:∀ k,runM (bs (linesT (ls.take k)))=bs (runSt (ls.take k)).2:=fun k=>runM_lines (fun x hx=>hno x (List.mem_of_mem_take hx)) (by rw [List.length_take];omega);have htl:∀ k,k≤nl→(linesT (ls.take k)).length≤k * 101:=by
      intro k;induction k with
      | zero=>intro _;simp [linesT]
      | succ k ih =>
        intro hk;obtain ⟨x,hx⟩:=get_of_lt (l:=ls) (k:=k) (by omega);have h1:=ih (by omega);have h2:=(hok x (List.mem_of_getElem? hx)).1;have h3:x.data.toList.length≤100:=by simpa using h2
        rw [lines_take hx,List.length_append,List.length_append,List.length_singleton];omega
    (conv=>whnf);refine impl_NewDesk.mono ?_;rintro _ w2 ⟨a2,c2,b2,d2,rfl,DK,e2⟩;(conv=>whnf);refine jN (z := .agg #[.slice none 0 0,.slice none 0 0,.string { data := #[] }]) ?_;intro b4 w3 g3 l3 e3 B3;(conv=>whnf);refine jS (vs:=[.slice a2 6 c2,.slice b2 0 d2,.string { data := #[] }]) B3 rfl rfl (by simp [cellish]) ?_;intro w4 c4 B4;(conv=>whnf);have z1:=e1.size;have z2:=e2.size;have z3:=e3.size;have z4:=c4.but.size;have DK4:=(DK.mod (S:=fun _=>False) (Ext.mod e3) (fun _ _ _ h=>h)).mod c4.but (fun k h1 h2 hk=>by have hk:k=b4:=hk;omega);have E4:Ext w1 w4:=xb (xt e2 e3) c4.but (by omega);refine lR [3,4,5,6,7] (fun (k:Nat) vs w'=>∃ a n c b m d lo hi,vs=[.slice al nl cl,.pointer (some ⟨b4,0,none⟩),.string (bs (linesT (ls.take k))),.string (bs (runSt (ls.take k)).2),.int .i64 k]∧k≤nl∧Blk w' b4 [.slice a n c,.slice b m d,.string (runSt (ls.take k)).1.s] 31∧DeskO w' lo hi a n b m (runSt (ls.take k)).1.X (runSt (ls.take k)).1.Y∧(b4<lo∨hi≤b4)∧Ext w1 w') (fun k=>nl - k) 0 ⟨a2,6,c2,b2,0,d2,_,_,rfl,by omega,B4,DK4,.inr (by omega),E4⟩ ?_;rintro k g _ w5 ⟨a,n,c,b,m,d,lo,hi,rfl,hk,B5,DK5,hb5,hX⟩;have X5:Ext w w5:=xt e1 hX;have hro:=run_ok (ls.take k);have hrs:=hro.s;have htk:=htl k hk;rw [List.length_take] at hrs;rcases Nat.lt_or_ge k nl with hkn | hkn
    · obtain ⟨line,hline⟩:=get_of_lt (l:=ls) (k:=k) (by omega);have hlok:=hok line (List.mem_of_getElem? hline);have htn:ls.take (k+1)=ls.take k++[line]:=by rw [List.take_add_one,hline];rfl
      have hlt:=lines_take hline;have hsn:=runSt_snoc (ls.take k) line;rw [← htn] at hsn;have hlog:=deskB_log hro.v;obtain ⟨RX,RY⟩:=DK5.rd;have hCmd:∀ u,Ext w5 u→Does Tryz.prog 9 [.agg #[.slice a n c,.slice b m d,.string (runSt (ls.take k)).1.s],.string line] u (fun v w'=>CmdR u w' v (cmdM (runSt (ls.take k)).1 line)):=fun u e=>impl_DeskCommand (RX.ext e) (RY.ext e) (by omega) hro.y (Nat.le_trans hlok.1 (by omega)) (hT.ext (xt X5 e)) (hE.ext (xt X5 e)) (hM.ext (xt X5 e)) (hN.ext (xt X5 e));have hnx:=stepR_no (st:=runSt (ls.take k)) (line:=line);have hyx:=stepR_yes (st:=runSt (ls.take k)) (line:=line);have hcs:=cmd_small (D:=(runSt (ls.take k)).1) line hro.v;have hcv:=cmd_valid line hro.v;generalize hcm:cmdM (runSt (ls.take k)).1 line=r at *;obtain ⟨⟨D6,L6⟩,k6⟩:=r;dsimp only at hnx hyx hcs hcv;(conv=>whnf);refine IfB.yes (by omega) ?_;(conv=>whnf);refine jI (Al.ext hX) k rfl hline ?_;intro b6 o6 ha6 hb6;(conv=>whnf);refine jO hb6 rfl ?_;(conv=>whnf);have q1:(bs (linesT (ls.take k))).size=(linesT (ls.take k)).length:=bs_size _;have q2:(line++⟨#[10]⟩:ByteArray).size=line.size+1:=by rw [ByteArray.size_append];rfl
      have hl100:=hlok.1;refine SemK.cat (a:=line) (b:=⟨#[10]⟩) (by show _+1≤_;omega) ?_;(conv=>whnf);refine SemK.cat (a:=bs (linesT (ls.take k))) (b:=line++⟨#[10]⟩) (by rw [q1,q2];omega) ?_;(conv=>whnf);refine DrawK.forks [11] tabok mixed none (.seq [(1,.any),(2,.any),(3,.any),(0,.held),(4,.held)] (.alt 5 (.seq [(6,.any),(7,.any),(8,.any),(9,.any),(10,.run),(11,.write),(12,.any),(13,.any)] .done) 10 (.seq [(5,.run),(6,.any),(7,.any),(8,.any),(9,.any),(11,.write),(12,.any),(13,.any)] .done))) (by kernel_rfl) (by kernel_rfl) ?_;(conv=>whnf);intro w6 e6;have nb:∀ q,¬ blkIn none q:=fun q hq=>by obtain ⟨x,hx,_⟩:=hq;cases hx
      (conv=>whnf);refine pI (Al.ext (xt hX e6)) k rfl hline ?_;intro b7 o7 ha7 hb7;(conv=>whnf);refine BSemK.loadAgg (n:=3) (by kernel_rfl) (Sr.cells (B5.ext e6).cells (nb _)) rfl ?_;(conv=>whnf);refine BSemK.load0 (by kernel_rfl) (Sr.cells hb7 (nb _)) rfl ?_;(conv=>whnf);have z5:=hX.size;have z6:=e6.size;have hb4l:=B5.lt;refine Both.mk ?_ ?_
      · (conv=>whnf);refine (hCmd _ e6).mono ?_;rintro _ w7 ⟨a6,n6,c6,b6',m6,d6,s6,ao,no,co,rfl,q6,_,e7⟩;(conv=>whnf);refine ⟨Sr.of_ext e7,?_⟩;(conv=>whnf);refine jN (z := .agg #[.slice none 0 0,.slice none 0 0,.string { data := #[] }]) ?_;intro b8 w8 g8 l8 e8 B8;(conv=>whnf);refine ⟨Sr.of_ext (xt e7 e8),?_⟩;(conv=>whnf);refine jS (vs:=[.slice a6 n6 c6,.slice b6' m6 d6,.string s6]) B8 rfl rfl (by simp [cellish]) ?_;intro w9 c9 B9;(conv=>whnf);have z7:=e7.size;have z8:=e8.size;have z9:=c9.but.size;have E9:Ext w5 w9:=xb (xt (xt e6 e7) e8) c9.but (by omega);have q9:k6=0→s6=D6.s∧∃ lo6 hi6,w6.heap.size≤lo6∧DeskO w9 lo6 hi6 a6 n6 b6' m6 D6.X D6.Y∧NewAt w6.heap.size ao∧Own eS w9 ao no 9 L6:=fun hz=>by
          obtain ⟨p1,p2,p3,lo6,hi6,p4,p5,p6,p7',p7,p8⟩:=q6 hz;exact ⟨p1,lo6,hi6,p4,(p6.mod (S:=fun _=>False) (Ext.mod e8) (fun _ _ _ h=>h)).mod c9.but (fun k h1 h2 hk=>by have hk:k=b8:=hk;omega),p7,(p8.ext e8).mod c9.but (fun y hy hk=>by
            have hk:y.block=b8:=hk;have:=p8.lt y hy;omega)⟩
        clear q6;have htx:bs (linesT (ls.take (k+1)))=bs (linesT (ls.take k))++(line++⟨#[10]⟩):=by
          rw [hlt,bs_app,bs_app,show bs line.data.toList=line from bytes_ext (by simp [bs])];rfl
        rcases hcv with h7 | ⟨hz,hv6,hne⟩
        · subst h7;have hst:=hsn.trans (hnx (by decide));(conv=>whnf);refine SemK.cat (by rw [bs_size];show _+2≤_;omega) ?_;(conv=>whnf);refine SemK.add (((k+1:Nat):Int)) (by omega) (by omega) (by omega) ?_;(conv=>whnf);refine ⟨k+1,by omega,a,n,c,b,m,d,lo,hi,?_,by omega,?_,?_,hb5,xt hX E9⟩
          · rw [htx,hst,bs_app];rfl
          · rw [hst];exact B5.ext E9
          · rw [hst];exact DK5.mod (S:=fun _=>False) (Ext.mod E9) (fun _ _ _ h=>h)
        · subst hz;have hst:=hsn.trans (hyx rfl);obtain ⟨rfl,lo6,hi6,p4,p6,p7,p8⟩:=q9 rfl;obtain ⟨RX6,RY6⟩:=p6.rd;have X9:Ext w w9:=xt X5 E9;have hlog6:=deskB_log hv6;have hm6:=RY6.len;have hVs:∀ u,Ext w9 u→Does Tryz.prog 10 [.agg #[.slice a6 n6 c6,.slice b6' m6 d6,.string D6.s]] u (fun v w'=>v = .bool true∧Ext u w'):=fun u e=>by
            have:=spec_ValidDesk (c:=c6) (b:=b6') (m:=m6) (d:=d6) (s:=D6.s) (RX6.ext e) (by omega);rw [show deskB D6.X m6 D6.s=true by rw [← hm6];exact hv6] at this;exact this
          have hDt:∀ u,Ext w9 u→Does Tryz.prog 11 [.agg #[.slice a6 n6 c6,.slice b6' m6 d6,.string D6.s]] u (fun v w'=>v = .string (lineS (countsOf D6.X))∧Ext u w'):=fun u e=>by
            have:=impl_DeskText (c:=c6) (b:=b6') (m:=m6) (d:=d6) (s:=D6.s) (RX6.ext e) (by omega) (hT.ext (xt X9 e)) (hE.ext (xt X9 e)) (hM.ext (xt X9 e));rw [deskText_yes (by rw [← hm6];exact hv6)] at this;exact this
          have hL1:0<L6.length:=List.length_pos_iff.2 hne;have hno6:=p8.1;have hls:=lines_small hcs.1;have hln4:=hcs.1.n;(conv=>whnf);refine jA (n:=3) B9.cells rfl ?_;(conv=>whnf);refine (hVs _ (Ext.refl _)).mono ?_;rintro _ w10 ⟨rfl,e10⟩;(conv=>whnf);rw [show decide ((no:Int)<1)=false from decide_eq_false (by omega)];(conv=>whnf);refine jA (n:=3) (B9.ext e10).cells rfl ?_;(conv=>whnf);refine (hDt _ e10).mono ?_;rintro _ w11 ⟨rfl,e11⟩;(conv=>whnf);rw [show decide (lineS (countsOf D6.X)=⟨#[]⟩)=false from decide_eq_false (lineS_ne _)];(conv=>whnf);have z10:=e10.size;have z11:=e11.size;have E11:Ext w9 w11:=xt e10 e11;have A9:=(p8.arr eS_len).ext E11;have hnl:=A9.len;refine lR [3,4,5,6,7,8,9,11] (fun (j:Nat) vs w'=>vs=[.slice al nl cl,.pointer (some ⟨b4,0,none⟩),.string (bs (linesT (ls.take (k+1)))),.string (bs ((runSt (ls.take k)).2++linesT (L6.take j))),.int .i64 k,.pointer (some ⟨b8,0,none⟩),.slice ao no co,.int .i64 j]∧j≤no∧Ext w11 w') (fun j=>no - j) 0 ⟨by rw [htx,show (runSt (ls.take k)).2++linesT (L6.take 0)=(runSt (ls.take k)).2 by simp [linesT]];rfl,by omega,Ext.refl _⟩ ?_;rintro j g' _ w12 ⟨rfl,hj,hY⟩;rcases Nat.lt_or_ge j no with hjn | hjn
          · obtain ⟨x,hx⟩:=get_of_lt (l:=L6) (k:=j) (by omega);have hlt6:=lines_take hx;have hle:=lines_take_le L6 j;have hxs:=hcs.1.s x (List.mem_of_getElem? hx);(conv=>whnf);refine IfB.yes (by omega) ?_;(conv=>whnf);refine jI (A9.ext hY) j rfl hx ?_;intro b11 o11 ha11 hb11;(conv=>whnf);refine jO hb11 rfl ?_;(conv=>whnf);refine SemK.cat (by show _+1≤_;omega) ?_;(conv=>whnf);have q3:(bs ((runSt (ls.take k)).2++linesT (L6.take j))).size=(runSt (ls.take k)).2.length+(linesT (L6.take j)).length:=by rw [bs_size,List.length_append]
            have q4:(x++⟨#[10]⟩:ByteArray).size=x.size+1:=by rw [ByteArray.size_append];rfl
            refine SemK.cat (a:=bs ((runSt (ls.take k)).2++linesT (L6.take j))) (b:=x++⟨#[10]⟩) (by rw [q3,q4];omega) ?_;(conv=>whnf);refine SemK.add (((j+1:Nat):Int)) (by omega) (by omega) (by omega) ?_;(conv=>whnf);refine ⟨j+1,by omega,?_,by omega,hY⟩;rw [hlt6,← List.append_assoc,bs_app,bs_app];rfl
          · obtain rfl:j=no:=by omega
            have htk6:L6.take j=L6:=List.take_of_length_le (by omega);rw [htk6];(conv=>whnf);refine IfB.no (by omega) ?_;(conv=>whnf);refine jA (n:=3) (B9.ext (xt E11 hY)).cells rfl ?_;(conv=>whnf);refine jS (vs:=[.slice a6 n6 c6,.slice b6' m6 d6,.string D6.s]) (B5.ext (xt E9 (xt E11 hY))) rfl rfl (by simp [cellish]) ?_;intro w13 c13 B13;(conv=>whnf);refine SemK.add (((k+1:Nat):Int)) (by omega) (by omega) (by omega) ?_;(conv=>whnf);have z12:=hY.size;have E13:Ext w1 w13:=xb (xt hX (xt E9 (xt E11 hY))) c13.but (by omega);refine ⟨k+1,by omega,a6,n6,c6,b6',m6,d6,lo6,hi6,?_,by omega,?_,?_,.inl (by omega),E13⟩
            · rw [hst];rfl
            · rw [hst];exact B13
            · rw [hst];exact (p6.mod (S:=fun _=>False) (Ext.mod (xt E11 hY)) (fun _ _ _ h=>h)).mod c13.but (fun k h1 h2 hk=>by have hk:k=b4:=hk;omega)
      · (conv=>whnf);refine jN (z := .agg #[.slice none 0 0,.slice none 0 0,.string { data := #[] }]) ?_;intro b8 w8 g8 l8 e8 B8;(conv=>whnf);refine ⟨Sr.of_ext e8,?_⟩;(conv=>whnf);refine (hCmd _ (xt e6 e8)).mono ?_;rintro _ w7 ⟨a6,n6,c6,b6',m6,d6,s6,ao,no,co,rfl,q6,_,e7⟩;(conv=>whnf);refine ⟨Sr.of_ext (xt e8 e7),?_⟩;(conv=>whnf);refine jS (vs:=[.slice a6 n6 c6,.slice b6' m6 d6,.string s6]) (B8.ext e7) rfl rfl (by simp [cellish]) ?_;intro w9 c9 B9;(conv=>whnf);have z7:=e7.size;have z8:=e8.size;have z9:=c9.but.size;have E9:Ext w5 w9:=xb (xt (xt e6 e8) e7) c9.but (by omega);have q9:k6=0→s6=D6.s∧∃ lo6 hi6,w6.heap.size≤lo6∧DeskO w9 lo6 hi6 a6 n6 b6' m6 D6.X D6.Y∧NewAt w6.heap.size ao∧Own eS w9 ao no 9 L6:=fun hz=>by
          obtain ⟨p1,p2,p3,lo6,hi6,p4,p5,p6,p7',p7,p8⟩:=q6 hz;exact ⟨p1,lo6,hi6,by omega,p6.mod c9.but (fun k h1 h2 hk=>by have hk:k=b8:=hk;omega),p7.mono (by omega),p8.mod c9.but (fun y hy hk=>by
            have hk:y.block=b8:=hk;have:=p7 y hy;omega)⟩
        clear q6;have htx:bs (linesT (ls.take (k+1)))=bs (linesT (ls.take k))++(line++⟨#[10]⟩):=by
          rw [hlt,bs_app,bs_app,show bs line.data.toList=line from bytes_ext (by simp [bs])];rfl
        rcases hcv with h7 | ⟨hz,hv6,hne⟩
        · subst h7;have hst:=hsn.trans (hnx (by decide));(conv=>whnf);refine SemK.cat (by rw [bs_size];show _+2≤_;omega) ?_;(conv=>whnf);refine SemK.add (((k+1:Nat):Int)) (by omega) (by omega) (by omega) ?_;(conv=>whnf);refine ⟨k+1,by omega,a,n,c,b,m,d,lo,hi,?_,by omega,?_,?_,hb5,xt hX E9⟩
          · rw [htx,hst,bs_app];rfl
          · rw [hst];exact B5.ext E9
          · rw [hst];exact DK5.mod (S:=fun _=>False) (Ext.mod E9) (fun _ _ _ h=>h)
        · subst hz;have hst:=hsn.trans (hyx rfl);obtain ⟨rfl,lo6,hi6,p4,p6,p7,p8⟩:=q9 rfl;obtain ⟨RX6,RY6⟩:=p6.rd;have X9:Ext w w9:=xt X5 E9;have hlog6:=deskB_log hv6;have hm6:=RY6.len;have hVs:∀ u,Ext w9 u→Does Tryz.prog 10 [.agg #[.slice a6 n6 c6,.slice b6' m6 d6,.string D6.s]] u (fun v w'=>v = .bool true∧Ext u w'):=fun u e=>by
            have:=spec_ValidDesk (c:=c6) (b:=b6') (m:=m6) (d:=d6) (s:=D6.s) (RX6.ext e) (by omega);rw [show deskB D6.X m6 D6.s=true by rw [← hm6];exact hv6] at this;exact this
          have hDt:∀ u,Ext w9 u→Does Tryz.prog 11 [.agg #[.slice a6 n6 c6,.slice b6' m6 d6,.string D6.s]] u (fun v w'=>v = .string (lineS (countsOf D6.X))∧Ext u w'):=fun u e=>by
            have:=impl_DeskText (c:=c6) (b:=b6') (m:=m6) (d:=d6) (s:=D6.s) (RX6.ext e) (by omega) (hT.ext (xt X9 e)) (hE.ext (xt X9 e)) (hM.ext (xt X9 e));rw [deskText_yes (by rw [← hm6];exact hv6)] at this;exact this
          have hL1:0<L6.length:=List.length_pos_iff.2 hne;have hno6:=p8.1;have hls:=lines_small hcs.1;have hln4:=hcs.1.n;(conv=>whnf);refine jA (n:=3) B9.cells rfl ?_;(conv=>whnf);refine (hVs _ (Ext.refl _)).mono ?_;rintro _ w10 ⟨rfl,e10⟩;(conv=>whnf);rw [show decide ((no:Int)<1)=false from decide_eq_false (by omega)];(conv=>whnf);refine jA (n:=3) (B9.ext e10).cells rfl ?_;(conv=>whnf);refine (hDt _ e10).mono ?_;rintro _ w11 ⟨rfl,e11⟩;(conv=>whnf);rw [show decide (lineS (countsOf D6.X)=⟨#[]⟩)=false from decide_eq_false (lineS_ne _)];(conv=>whnf);have z10:=e10.size;have z11:=e11.size;have E11:Ext w9 w11:=xt e10 e11;have A9:=(p8.arr eS_len).ext E11;have hnl:=A9.len;refine lR [3,4,5,6,7,8,9,11] (fun (j:Nat) vs w'=>vs=[.slice al nl cl,.pointer (some ⟨b4,0,none⟩),.string (bs (linesT (ls.take (k+1)))),.string (bs ((runSt (ls.take k)).2++linesT (L6.take j))),.int .i64 k,.pointer (some ⟨b8,0,none⟩),.slice ao no co,.int .i64 j]∧j≤no∧Ext w11 w') (fun j=>no - j) 0 ⟨by rw [htx,show (runSt (ls.take k)).2++linesT (L6.take 0)=(runSt (ls.take k)).2 by simp [linesT]];rfl,by omega,Ext.refl _⟩ ?_;rintro j g' _ w12 ⟨rfl,hj,hY⟩;rcases Nat.lt_or_ge j no with hjn | hjn
          · obtain ⟨x,hx⟩:=get_of_lt (l:=L6) (k:=j) (by omega);have hlt6:=lines_take hx;have hle:=lines_take_le L6 j;have hxs:=hcs.1.s x (List.mem_of_getElem? hx);(conv=>whnf);refine IfB.yes (by omega) ?_;(conv=>whnf);refine jI (A9.ext hY) j rfl hx ?_;intro b11 o11 ha11 hb11;(conv=>whnf);refine jO hb11 rfl ?_;(conv=>whnf);refine SemK.cat (by show _+1≤_;omega) ?_;(conv=>whnf);have q3:(bs ((runSt (ls.take k)).2++linesT (L6.take j))).size=(runSt (ls.take k)).2.length+(linesT (L6.take j)).length:=by rw [bs_size,List.length_append]
            have q4:(x++⟨#[10]⟩:ByteArray).size=x.size+1:=by rw [ByteArray.size_append];rfl
            refine SemK.cat (a:=bs ((runSt (ls.take k)).2++linesT (L6.take j))) (b:=x++⟨#[10]⟩) (by rw [q3,q4];omega) ?_;(conv=>whnf);refine SemK.add (((j+1:Nat):Int)) (by omega) (by omega) (by omega) ?_;(conv=>whnf);refine ⟨j+1,by omega,?_,by omega,hY⟩;rw [hlt6,← List.append_assoc,bs_app,bs_app];rfl
          · obtain rfl:j=no:=by omega
            have htk6:L6.take j=L6:=List.take_of_length_le (by omega);rw [htk6];(conv=>whnf);refine IfB.no (by omega) ?_;(conv=>whnf);refine jA (n:=3) (B9.ext (xt E11 hY)).cells rfl ?_;(conv=>whnf);refine jS (vs:=[.slice a6 n6 c6,.slice b6' m6 d6,.string D6.s]) (B5.ext (xt E9 (xt E11 hY))) rfl rfl (by simp [cellish]) ?_;intro w13 c13 B13;(conv=>whnf);refine SemK.add (((k+1:Nat):Int)) (by omega) (by omega) (by omega) ?_;(conv=>whnf);have z12:=hY.size;have E13:Ext w1 w13:=xb (xt hX (xt E9 (xt E11 hY))) c13.but (by omega);refine ⟨k+1,by omega,a6,n6,c6,b6',m6,d6,lo6,hi6,?_,by omega,?_,?_,.inl (by omega),E13⟩
            · rw [hst];rfl
            · rw [hst];exact B13
            · rw [hst];exact (p6.mod (S:=fun _=>False) (Ext.mod (xt E11 hY)) (fun _ _ _ h=>h)).mod c13.but (fun k h1 h2 hk=>by have hk:k=b4:=hk;omega)
    · obtain rfl:k=nl:=by omega
      have hR:∀ u,Ext w5 u→Does Tryz.prog 12 [.string (bs (linesT (ls.take k)))] u (fun v w'=>v = .string (bs (runSt (ls.take k)).2)∧Ext u w'):=fun u e=>by
        rw [← hrl k];exact impl_RunDesk (by rw [bs_size];omega) (hT.ext (xt X5 e)) (hE.ext (xt X5 e)) (hM.ext (xt X5 e)) (hN.ext (xt X5 e))
      (conv=>whnf);refine IfB.no (by omega) ?_;(conv=>whnf);refine (hR _ (Ext.refl _)).mono ?_;rintro _ w6 ⟨rfl,e6⟩;(conv=>whnf);exact ⟨by simp,xt X5 e6⟩
set_option maxRecDepth 100000 in
theorem open_Console {H:Type} {enc:TypeId×Value→H} {base:Nat} (W:World) (args:List Value) (ds:List (DataW H)) (p:List MemPlace) (hA:DataW.TrodAll enc Tryz.prog W 0 (fun _=>true) true (Tryz.f3).params.toList args ds p)
    (hv:∀ (j:Nat) t v,(Tryz.f3).params[j]? = some t→args[j]? = some v→Value.okWide Tryz.prog W .any base t v) (hL:laidMet Tryz.prog Rows.fnConsoleRow.laid W) (_hsh:W.ShapedOpen Tryz.prog):Does Tryz.prog 3 args W (fun v w'=>v = .bool true∧Ext W w'):=by
  have e:(Tryz.f3).params.toList=[22]:=rfl;rw [e] at hA;obtain ⟨v0,vs0,d0,ds0,p0,q0,rfl,rfl,rfl,g0,r0⟩:=trodAll_cons hA;obtain ⟨rfl,rfl,rfl⟩:=trodAll_nil r0;obtain ⟨a0,n0,c0,x0,rfl,h0,ok0⟩:=open_arr (encα:=eB) (ok:=fun _=>True) (sz:=1) Tryz.underlying22 (by kernel_rfl) (by omega) (fun n cs x h=>open_byte Tryz.underlying5 h) eB_len (hv 0 22 v0 (by rw [← Array.getElem?_toList,e];rfl) rfl) g0;exact law_Console h0 (Pow.of_laid hL.tail.tail) (Errs.of_laid hL.tail.tail.tail.tail.tail hL.tail.tail.tail.tail) (MaxL.of_shaped _hsh) (CodeNames.of_laid hL.tail.tail.tail.tail.tail.tail)
set_option maxRecDepth 100000 in
theorem FnConsole_lifted (os:Os) (started:os.Started) (H:Type) (enc:TypeId×Value→H) (F:Stop.Interp) :
    ReturnsInHanded {} Tryz.checked os 3 .any ((OpenSpec.ofChange Rows.fnConsoleSpec).preRow enc Tryz.prog Tryz.f3 Rows.fnConsoleRow.domain false Rows.fnConsoleRow.laid) (((OpenSpec.ofChange Rows.fnConsoleSpec).at F).post enc Tryz.prog Tryz.f3 false true false false):=by
  refine returnsInHanded_of_row (C:=Tryz.checked) (s:=OpenSpec.ofChange Rows.fnConsoleSpec) law_own started (by kernel_rfl) Tryz.func3
    (witness_row_sh (enc:=enc) (C:=Tryz.checked) (World.laidAll Tryz.prog os Rows.fnConsoleRow.laid) #[.slice none 0 0] 8 (World.laidAll_os _ _ _) (World.shaped_of_ZipB (by kernel_rfl) (by kernel_rfl)) (by kernel_rfl) (by kernel_rfl) (by kernel_rfl)
      (by rw [MakeChecks.laidMetH_plain _ _ _ (by kernel_rfl)];exact laidMet_laidAll _ (by kernel_rfl) (by kernel_rfl))) ?_
  intro W base args ds gs before hval hW _ _ _ hL hsh _;rw [MakeChecks.laidMetH_plain _ _ _ (by kernel_rfl)] at hL;exact law_contract_at1 (P:=Tryz.prog) (fn:=Tryz.f3) (s:=Rows.fnConsoleSpec) (n:=(Rows.fnConsoleRow.named.getD 8 Rows.fnConsoleRow.spec)) (g0:=0) (t0:=123) rfl (by kernel_rfl) (by kernel_rfl) (by kernel_rfl) (by decide) rfl Tryz.underlying4 law_laid (by kernel_rfl)
    (fun ds d h=>match ds,h with | [d0],_=>⟨rfl,rfl,rfl⟩) W args ds gs before (fun p hA hv=>open_Console W args.toList ds p hA hv hL hsh) hval hW
theorem FnConsole_closed:joinedFacts Tryz.prog 3 Tryz.f3 (OpenSpec.ofChange Rows.fnConsoleSpec).bare Rows.fnConsoleRow=true:=by
  unfold joinedFacts;exact andI (andI (andI (andI (andI (andI (andI (andI (by kernel_rfl) seat_heard) seat_enter) seat_lifts) seat_make) (by kernel_rfl)) (by kernel_rfl)) (by kernel_rfl)) (by kernel_rfl)
theorem FnConsole_named:Tryz.prog.funcNamed Rows.fnConsoleRow.func=some 3:=by kernel_rfl
theorem FnConsole_row:Rows.FnConsoleSaid :=
  OpenClaim.holds_of_cond 3 Tryz.f3 rfl rfl rfl rfl rfl rfl rfl ⟨rfl,rfl,rfl,rfl,rfl⟩ rfl rfl rfl rfl rfl FnConsole_named Tryz.func3 FnConsole_closed
    (of_decide_eq_true (by kernel_rfl)) (by unfold Func.isWrapper;first | (rw [if_pos (by decide +kernel)];kernel_rfl) | (rw [if_neg (by decide +kernel)];exact ⟨rfl,rfl⟩))
    (fun os started H enc _ F=>by rw [OpenClaim.pre_eq_preRow];exact FnConsole_lifted os started H enc F)
theorem FnConsole_goes:false=Rows.fnConsoleRow.goesBy Tryz.pinned.checked.prog:=by kernel_rfl
theorem FnConsole_wf:Rows.fnConsoleRow.wfByText (OpenSpec.ofChange Rows.fnConsoleSpec)=true:=by kernel_rfl
theorem FnConsole_plain (f:FuncId) (fn:Func) (hf:Tryz.pinned.checked.prog.funcNamed Rows.fnConsoleRow.func=some f) (hfn:Tryz.pinned.checked.prog.funcs[f]? = some fn) :
    true=Tryz.pinned.checked.prog.looks []∧∀ (j:Nat) t,fn.params[j]? = some t→Tryz.pinned.checked.prog.wantsStandIn t=false:=by
  obtain rfl:f=3:=Option.some.inj (FnConsole_named.symm.trans hf) |>.symm;obtain rfl:fn=Tryz.f3:=(Option.some.inj (Tryz.func3.symm.trans hfn)).symm;refine ⟨seat_looks,fun j t ht=>?_⟩;have hall:(Tryz.f3.params.toList.all fun u=>!Tryz.prog.wantsStandIn u)=true:=by kernel_rfl
  exact (show Tryz.prog.wantsStandIn t=false by simpa using List.all_eq_true.1 hall t (by simpa using Array.mem_of_getElem? ht))
theorem FnConsole_holds:Rows.FnConsoleCardSaid :=
  Claim7.holds_tied_plain_at .later [] _ _ _ _ FnConsole_row (fun _ h=>by cases h) FnConsole_wf (fun _ h=>by cases h) fnConsole_row_tie rfl ⟨rfl,rfl⟩ seat_main rfl FnConsole_plain FnConsole_goes
end Go.Proofs.YthadkoinmohmlaaGreatDoor
