/- Contracts of functions of the given program, of the reference and of the laws: each says what a call returns, for all arguments that meet the premises that the theorem itself names. -/
import Derived.Test.YthadkoinmohmlaaGreatDoorPass
namespace Go.Vc
open Go Go.RowKit
theorem SemK.convW {P:Program} {s t:Nat} {k:IntKind} (ht:intKindOf P t=some k) (hs:(P.underlying s).isSome=true) {k0:IntKind} {n:Int} {w:World} {K:Value→World→Prop} (hK:K (.int k (k.wrap n)) w) :
    SemK P (convert s t (.int k0 n)) w K:=by
  have hu:P.underlying t=some (.int k):=by
    unfold intKindOf at ht;split at ht<;>simp_all
  obtain ⟨d,hd⟩:=Option.isSome_iff_exists.1 hs;refine SemK.of ?_ hK;simp [convert,run_underlying hu,run_underlying hd,Conv.intToInt]
end Go.Vc
namespace Go.M
open Go Go.Vc
theorem bit_test (s i:Nat):decide (((s:Int) / 2 ^ i) % 2=1)=s.testBit i:=by
  rw [Nat.testBit_eq_decide_div_mod_eq,decide_eq_decide];constructor
  · intro h
    exact_mod_cast h
  · intro h
    exact_mod_cast h
theorem ownS_next (k s:Nat):ownS (k+1) s=if s.testBit k=true then ownS k s++[k] else ownS k s:=by
  unfold ownS;rw [List.range_succ,List.filter_append];by_cases h:s.testBit k=true
  · rw [if_pos h];simp [h]
  · rw [if_neg h];simp [h]
theorem ownS_len (k s:Nat):(ownS k s).length≤k:=by
  unfold ownS;refine Nat.le_trans (List.length_filter_le _ _) ?_;simp
theorem ownS_lt {n s i:Nat} (h:i∈ownS n s):i<n:=by
  have:=(List.mem_filter.1 h).1;simpa using this
theorem best_next (d due:List (List Int)) (full:List TPass) (k:Nat):(List.range (k+1)).foldl (setStep d due full) ([],false)=setStep d due full ((List.range k).foldl (setStep d due full) ([],false)) k:=by
  rw [List.range_succ,List.foldl_append];rfl
theorem best_ok (d due:List (List Int)) (full:List TPass) (k:Nat):∀ i∈((List.range k).foldl (setStep d due full) ([],false)).1,i<full.length:=by
  induction k with
  | zero=>simp
  | succ k ih =>
    rw [best_next];unfold setStep;split
    · exact ih
    split
    · exact ih
    · intro i hi;exact ownS_lt hi
theorem best_len (d due:List (List Int)) (full:List TPass) (k:Nat):((List.range k).foldl (setStep d due full) ([],false)).1.length≤full.length:=by
  induction k with
  | zero=>simp
  | succ k ih =>
    rw [best_next];unfold setStep;split
    · exact ih
    split
    · exact ih
    · exact ownS_len _ _
theorem full_len (f:TField):(fullM f).length=2 * fLen f:=by
  unfold fullM;rw [List.length_flatMap];have:∀ n:Nat,((List.range n).map fun _=>2).sum=2 * n:=by
    intro n;induction n with
    | zero=>rfl
    | succ n ih=>rw [List.range_succ,List.map_append,List.sum_append,ih];simp;omega
  simpa using this (fLen f)
theorem full_next (f:TField) (k:Nat):((List.range (k+1)).flatMap fun (i:Nat)=>([⟨f.to_ - 1 - i,1⟩,⟨f.to_ - 1 - i,2⟩]:List TPass))=((List.range k).flatMap fun (i:Nat)=>([⟨f.to_ - 1 - i,1⟩,⟨f.to_ - 1 - i,2⟩]:List TPass))++[⟨f.to_ - 1 - k,1⟩,⟨f.to_ - 1 - k,2⟩]:=by
  rw [List.range_succ,List.flatMap_append];simp
theorem full_ok {f:TField} {W:Int} (hf:fieldB f W=true) {p:TPass} (hp:p∈fullM f):0≤p.col∧p.col<W∧(p.mode=1∨p.mode=2):=by
  have hb:=fieldB_b hf;unfold fullM at hp;rw [List.mem_flatMap] at hp;obtain ⟨i,hi,hp⟩:=hp;have hi:i<fLen f:=by simpa using hi
  have hl:(fLen f:Int)=f.to_ - f.from_:=by unfold fLen;omega
  simp only [List.mem_cons,List.not_mem_nil,or_false] at hp;rcases hp with rfl | rfl
  · exact ⟨by simp only;omega,by simp only;omega,.inl rfl⟩
  · exact ⟨by simp only;omega,by simp only;omega,.inr rfl⟩
theorem pick_next {full:List TPass} {k s:Nat} {p:TPass} (hp:full[k]? = some p):pickL full (ownS (k+1) s)=if s.testBit k=true then pickL full (ownS k s)++[p] else pickL full (ownS k s):=by
  rw [ownS_next];split
  · unfold pickL;rw [List.map_append,List.map_singleton,List.getD_eq_getElem?_getD,hp];rfl
  · rfl
theorem pick_mem {full:List TPass} {own:List Nat} (h:∀ i∈own,i<full.length) {p:TPass} (hp:p∈pickL full own):p∈full:=by
  unfold pickL at hp;obtain ⟨i,hi,rfl⟩:=List.mem_map.1 hp;have:=h i hi;rw [List.getD_eq_getElem?_getD,List.getElem?_eq_getElem this];exact List.getElem_mem _
def onesM (s:Nat):Nat:=(ownS 8 s).length
theorem ones_own {n s:Nat} (hn:n≤8) (hs:s<2 ^ n):(ownS n s).length=onesM s:=by
  have key:∀ n:Fin 9,∀ s:Fin 256,s.val<2 ^ n.val→(ownS n.val s.val).length=onesM s.val:=by decide +kernel
  have h8:2 ^ n≤2 ^ 8:=Nat.pow_le_pow_right (by decide) hn;exact key ⟨n,by omega⟩ ⟨s,by omega⟩ hs
def pop1 (x:Int):Int:=IntKind.u64.wrap (andV .u64 (x.fdiv (2 ^ min (1:Int).toNat IntKind.u64.bits)) 6148914691236517205+andV .u64 x 6148914691236517205)
def pop2 (x:Int):Int:=IntKind.u64.wrap (andV .u64 (x.fdiv (2 ^ min (2:Int).toNat IntKind.u64.bits)) 3689348814741910323+andV .u64 x 3689348814741910323)
def pop3 (x:Int):Int:=andV .u64 (IntKind.u64.wrap (x.fdiv (2 ^ min (4:Int).toNat IntKind.u64.bits)+x)) 1085102592571150095
def pop4 (x:Int):Int:=IntKind.u64.wrap (x+x.fdiv (2 ^ min (8:Int).toNat IntKind.u64.bits))
def pop5 (x:Int):Int:=IntKind.u64.wrap (x+x.fdiv (2 ^ min (16:Int).toNat IntKind.u64.bits))
def pop6 (x:Int):Int:=IntKind.u64.wrap (x+x.fdiv (2 ^ min (32:Int).toNat IntKind.u64.bits))
def popA (x:Int):Int:=andV .i64 (IntKind.i64.wrap (pop6 (pop5 (pop4 (pop3 (pop2 (pop1 x))))))) 127
theorem keys_inv {d:List (List Int)} {f:TField} (h:(keysM d f).2=0):deckB d=true∧fieldB f (widthOf d)=true∧haveB d f=true:=by
  rcases keys_cases d f with ⟨cd,he,hc⟩ | ⟨h1,h2,h3,_⟩
  · rw [he] at h;simp only at h;omega
  · exact ⟨h1,h2,h3⟩
theorem shr_at {m:Int} {k:Nat} (hk:k≤8):m.fdiv (2 ^ min ((k:Int)).toNat IntKind.i64.bits)=m / 2 ^ k:=by
  have e:min ((k:Int)).toNat IntKind.i64.bits=k:=by
    have:IntKind.i64.bits=64:=rfl;rw [this,Int.toNat_natCast];omega
  rw [e,fdiv_pow]
theorem shl_pow {n:Nat} (h:n≤8):IntKind.i64.wrap (1 * 2 ^ min ((n:Int)).toNat IntKind.i64.bits)=((2 ^ n:Nat):Int):=by
  have key:∀ n:Fin 9,IntKind.i64.wrap (1 * 2 ^ min ((n.val:Int)).toNat IntKind.i64.bits)=((2 ^ n.val:Nat):Int):=by decide +kernel
  exact key ⟨n,by omega⟩
end Go.M
namespace Go.Proofs.YthadkoinmohmlaaGreatDoor
open Go Go.RowKit Go.Vc Go.M
theorem impl_fullPlan {f:TField} {W:Int} (hf:fieldB f W=true) (hW:W≤1000) (w:World):Does Tryz.prog 124 [.agg ⟨f.enc⟩] w (fun v w'=>∃ a n c,v = .slice a n c∧Arr TPass.enc 2 w' a n (fullM f)∧Ext w w'):=by
  have hb:=fieldB_b hf;have hl:(fLen f:Int)=f.to_ - f.from_:=by unfold fLen;omega
  refine oV Tryz.func124 ?_;conv=>whnf
  refine SemK.box ?_;intro b1 w1 g1 l1 e1 B1;(conv=>whnf);refine bS mk_112 (vs:=[]) ?_;intro b2 w2 g2 l2 e2 B2;have G2:=Grow.new0 (enc:=TPass.enc) TPass.enc_len B2 g2;(conv=>whnf);refine jL (B1.ext e2).cells (k:=1) rfl ?_;(conv=>whnf);refine SemK.sub (f.to_ - 1 - ((0:Nat):Int)) (by omega) (by omega) (by omega) ?_;(conv=>whnf);refine lR [1,3,4] (fun (k:Nat) vs w'=>∃ a3 c3,vs=[.pointer (some ⟨b1,0,none⟩),.slice a3 (2 * k) c3,.int .i64 (f.to_ - 1 - (k:Int))]∧k≤fLen f∧Grow TPass.enc 2 w1.heap.size 190 w' a3 (2 * k) c3 ((List.range k).flatMap fun (i:Nat)=>([⟨f.to_ - 1 - i,1⟩,⟨f.to_ - 1 - i,2⟩]:List TPass))∧Ext w1 w') (fun k=>fLen f - k) 0 ⟨_,_,rfl,by omega,by simpa using G2,e2⟩ ?_;rintro k g _ w3 ⟨a3,c3,rfl,hk,hG,hX⟩;have hnt:=full_next f k;rcases Nat.lt_or_ge k (fLen f) with hkn | hkn
  · (conv=>whnf);refine jL (B1.ext hX).cells (k:=0) rfl ?_;(conv=>whnf);refine IfB.yes (by omega) ?_;(conv=>whnf);refine SemK.build st_190 rfl ?_;(conv=>whnf);refine SemK.build st_190 rfl ?_;(conv=>whnf);refine bS mk_112 (vs:=[Value.agg #[Value.int IntKind.i64 (f.to_ - 1 - ↑k),Value.int IntKind.i64 1],Value.agg #[Value.int IntKind.i64 (f.to_ - 1 - ↑k),Value.int IntKind.i64 2]]) ?_;intro b4 w4 g4 l4 e4 B4;have G4:=Grow.of_blk (n:=2) (enc:=TPass.enc) (xs:=[⟨f.to_ - 1 - ↑k,1⟩,⟨f.to_ - 1 - ↑k,2⟩]) TPass.enc_len B4 g4 rfl (by decide);(conv=>whnf);refine SemK.appendArr0 (enc:=TPass.enc) mk_112 TPass.enc_len (hG.ext e4) (G4.own.arr TPass.enc_len) (by intro y _;simp [TPass.enc,cellish]) (by omega) (by omega) (Below.size (xt hX e4)) ?_;intro a5 c5 w5 G5 m5 i5;(conv=>whnf);refine SemK.sub (f.to_ - 1 - ((k+1:Nat):Int)) (by omega) (by omega) (by omega) ?_;(conv=>whnf);exact ⟨k+1,by omega,_,_,rfl,by omega,by rw [hnt];exact G5,xm (xt hX e4) m5 (blkIn_new hG.new)⟩
  · obtain rfl:k=fLen f:=by omega
    (conv=>whnf);refine jL (B1.ext hX).cells (k:=0) rfl ?_;(conv=>whnf);refine IfB.no (by omega) ?_;(conv=>whnf);exact ⟨_,_,_,rfl,(hG.own.arr TPass.enc_len),(xt e1 hX)⟩
theorem lib_OnesCount64 {s:Nat} (hs:s<256) (w:World):Does Tryz.prog 197 [.int .u64 s] w (fun v w'=>v = .int .i64 (onesM s)∧Ext w w'):=by
  have key:∀ s:Fin 256,popA (s.val:Int)=(onesM s.val:Int):=by decide +kernel
  have hk:=key ⟨s,hs⟩;simp only at hk;unfold popA pop6 pop5 pop4 pop3 pop2 pop1 at hk;refine oV Tryz.func197 ?_;conv=>whnf
  refine SemK.shr (by omega) ?_;(conv=>whnf);refine SemK.and ?_;(conv=>whnf);refine SemK.and ?_;(conv=>whnf);refine SemK.wadd ?_;(conv=>whnf);refine SemK.shr (by omega) ?_;(conv=>whnf);refine SemK.and ?_;(conv=>whnf);refine SemK.and ?_;(conv=>whnf);refine SemK.wadd ?_;(conv=>whnf);refine SemK.shr (by omega) ?_;(conv=>whnf);refine SemK.wadd ?_;(conv=>whnf);refine SemK.and ?_;(conv=>whnf);refine SemK.shr (by omega) ?_;(conv=>whnf);refine SemK.wadd ?_;(conv=>whnf);refine SemK.shr (by omega) ?_;(conv=>whnf);refine SemK.wadd ?_;(conv=>whnf);refine SemK.shr (by omega) ?_;(conv=>whnf);refine SemK.wadd ?_;(conv=>whnf);refine SemK.convW (k := .i64) (by kernel_rfl) (by kernel_rfl) ?_
  (conv=>whnf);refine SemK.and ?_;(conv=>whnf);exact ⟨congrArg (Value.int .i64) hk,Ext.refl _⟩
theorem lib_OnesCount {s:Nat} (hs:s<256) (w:World):Does Tryz.prog 126 [.int .u64 s] w (fun v w'=>v = .int .i64 (onesM s)∧Ext w w'):=by
  refine oV Tryz.func126 ?_;conv=>whnf
  refine (lib_OnesCount64 hs _).mono ?_;rintro _ w2 ⟨rfl,e1⟩;(conv=>whnf);exact ⟨rfl,e1⟩
theorem impl_isMode {m:Int} (hm:m=1∨m=2) (w:World):Does Tryz.prog 130 [.int .i64 m] w (fun v w'=>v = .bool true∧w=w'):=by
  rcases hm with rfl | rfl
  · refine oV Tryz.func130 ?_;conv=>whnf
    exact ⟨rfl,rfl⟩
  · refine oV Tryz.func130 ?_;conv=>whnf
    exact ⟨rfl,rfl⟩
theorem impl_PassText {w:World} {a:Option Addr} {n c:Nat} {l:List TPass} (h:Arr TPass.enc 2 w a n l) (hn2:n≤40) (hok:∀ p∈l,i64ok p.col∧(p.mode=1∨p.mode=2)) (hT:Pow w) :
    Does Tryz.prog 70 [.slice a n c] w (fun v w'=>v = .string (joinB 32 (l.map passWord))∧Ext w w'):=by
  have hn:=h.len;have hM:∀ p∈l,∀ u,Does Tryz.prog 130 [.int .i64 p.mode] u (fun v w'=>v = .bool true∧u=w'):=fun p hp u=>impl_isMode (hok p hp).2 u;refine oV Tryz.func70 ?_;conv=>whnf
  refine bS mk_24 (vs:=[]) ?_;intro b3 w3 g3 l3 e3 B3;have G3:=Grow.new0 (enc:=eS) eS_len B3 g3;(conv=>whnf);refine lR [3,7,8,9] (fun (k:Nat) vs w'=>∃ a3 c3,vs=[.slice a3 k c3,.slice a n c,.int .i64 n,.int .i64 k]∧k≤n∧(∃ b',a3=some ⟨b',0,none⟩)∧Grow eS 1 w.heap.size 9 w' a3 k c3 ((l.take k).map passWord)∧Ext w w') (fun k=>n - k) 0 ⟨_,_,rfl,by omega,⟨_,rfl⟩,by simpa using G3,e3⟩ ?_;rintro k g _ w4 ⟨a3,c3,rfl,hk,⟨b',rfl⟩,hG,hX⟩;rcases Nat.lt_or_ge k n with hkn | hkn
  · obtain ⟨p,hp⟩:=get_of_lt (l:=l) (k:=k) (by omega);have hpm:=List.mem_of_getElem? hp;obtain ⟨hx1,hx2⟩:=hok p hpm;have hMp:=hM p hpm;have hnt:=map_take_next passWord hp;have hdz:=decB_len hx1.1 hx1.2;have hi64:=hx1;rcases hx2 with hm | hm
    · have hpw:passWord p=decB p.col++bs [100]:=by unfold passWord;rw [if_pos hm]
      (conv=>whnf);refine IfB.yes (by omega) ?_;(conv=>whnf);refine jI (h.ext hX) k rfl hp ?_;intro b66 o66 ha66 hb66;(conv=>whnf);refine jA (n:=2) hb66 rfl ?_;(conv=>whnf);refine jN (z := .agg #[.int .i64 0,.int .i64 0]) ?_;intro b67 w67 g67 l67 e67 B67;(conv=>whnf);refine jS B67 (vs:=p.enc) rfl rfl (by simp [TPass.enc,cellish]) ?_;intro w68 c68 B68;(conv=>whnf);refine jL B68.cells (k:=1) rfl ?_;(conv=>whnf);refine (hMp _).mono ?_;rintro _ _ ⟨rfl,rfl⟩;(conv=>whnf);refine DrawK.writes tabok mixed [(0,.any),(1,.any),(4,.any),(7,.any),(2,.held),(5,.held),(6,.any),(8,.held),(9,.held),(3,.run),(10,.any),(11,.run),(12,.write),(13,.any)] (by kernel_rfl) (by kernel_rfl) ?_;(conv=>whnf);intro w70 e70;(conv=>whnf);refine dL B68.cells (k:=0) rfl ?_;(conv=>whnf);refine dL B68.cells (k:=1) (v := .int .i64 1) (by simp [TPass.enc,hm]) ?_;(conv=>whnf);refine PSemK.sub 0 rfl (by omega) (by omega) ?_;(conv=>whnf);refine dL B68.cells (k:=1) (v := .int .i64 1) (by simp [TPass.enc,hm]) ?_;(conv=>whnf);refine DSemK.sliceStr (by kernel_rfl) (s:=⟨#[100,122]⟩) 0 1 (by decide) (by decide) (.inr rfl) (.inr rfl) ?_;(conv=>whnf);rw [show (ByteArray.mk #[100,122]).extract 0 1=bs [100] from by decide];refine (impl_Decimal hi64 (hT.ext (xt (xb (xt hX e67) c68.but (Nat.le_trans (Below.size hX) g67)) e70))).mono ?_;rintro _ w72 ⟨rfl,e71⟩;(conv=>whnf);refine ⟨(xt e70 e71),?_⟩;(conv=>whnf);refine PSemK.cat (by simp only [ByteArray.size_append,bs_size,sizeC,sizeT,List.length_cons,List.length_nil];omega) ?_;(conv=>whnf);refine bS mk_24 (vs:=[Value.string (decB p.col++bs [100])]) ?_;intro b73 w73 g73 l73 e73 B73;have G73:=Grow.of_blk (n:=1) (enc:=eS) (xs:=[decB p.col++bs [100]]) eS_len B73 g73 rfl (by decide);(conv=>whnf);refine ⟨(xt (xt e70 e71) e73),?_⟩;(conv=>whnf);refine SemK.appendArr0 (enc:=eS) mk_24 eS_len (hG.ext (xt (xt (xt (xb e67 c68.but g67) e70) e71) e73)) (G73.own.arr eS_len) (by intro y _;simp [eS,cellish]) (by omega) (by omega) (Below.size (xt (xt (xt (xb (xt hX e67) c68.but (Nat.le_trans (Below.size hX) g67)) e70) e71) e73)) ?_;intro a74 c74 w74 G74 m74 i74;(conv=>whnf);refine SemK.add (((k+1:Nat):Int)) (by omega) (by omega) (by omega) ?_;(conv=>whnf);refine ⟨k+1,by omega,_,_,rfl,by omega,?_,?_,(xm (xt (xt (xt (xb (xt hX e67) c68.but (Nat.le_trans (Below.size hX) g67)) e70) e71) e73) m74 (blkIn_new hG.new))⟩
      · exact G74.own.some (by omega)
      · rw [hnt,hpw];exact G74
    · have hpw:passWord p=decB p.col++bs [122]:=by unfold passWord;rw [if_neg (by omega)]
      (conv=>whnf);refine IfB.yes (by omega) ?_;(conv=>whnf);refine jI (h.ext hX) k rfl hp ?_;intro b66 o66 ha66 hb66;(conv=>whnf);refine jA (n:=2) hb66 rfl ?_;(conv=>whnf);refine jN (z := .agg #[.int .i64 0,.int .i64 0]) ?_;intro b67 w67 g67 l67 e67 B67;(conv=>whnf);refine jS B67 (vs:=p.enc) rfl rfl (by simp [TPass.enc,cellish]) ?_;intro w68 c68 B68;(conv=>whnf);refine jL B68.cells (k:=1) rfl ?_;(conv=>whnf);refine (hMp _).mono ?_;rintro _ _ ⟨rfl,rfl⟩;(conv=>whnf);refine DrawK.writes tabok mixed [(0,.any),(1,.any),(4,.any),(7,.any),(2,.held),(5,.held),(6,.any),(8,.held),(9,.held),(3,.run),(10,.any),(11,.run),(12,.write),(13,.any)] (by kernel_rfl) (by kernel_rfl) ?_;(conv=>whnf);intro w70 e70;(conv=>whnf);refine dL B68.cells (k:=0) rfl ?_;(conv=>whnf);refine dL B68.cells (k:=1) (v := .int .i64 2) (by simp [TPass.enc,hm]) ?_;(conv=>whnf);refine PSemK.sub 1 rfl (by omega) (by omega) ?_;(conv=>whnf);refine dL B68.cells (k:=1) (v := .int .i64 2) (by simp [TPass.enc,hm]) ?_;(conv=>whnf);refine DSemK.sliceStr (by kernel_rfl) (s:=⟨#[100,122]⟩) 1 2 (by decide) (by decide) (.inr rfl) (.inr rfl) ?_;(conv=>whnf);rw [show (ByteArray.mk #[100,122]).extract 1 2=bs [122] from by decide];refine (impl_Decimal hi64 (hT.ext (xt (xb (xt hX e67) c68.but (Nat.le_trans (Below.size hX) g67)) e70))).mono ?_;rintro _ w72 ⟨rfl,e71⟩;(conv=>whnf);refine ⟨(xt e70 e71),?_⟩;(conv=>whnf);refine PSemK.cat (by simp only [ByteArray.size_append,bs_size,sizeC,sizeT,List.length_cons,List.length_nil];omega) ?_;(conv=>whnf);refine bS mk_24 (vs:=[Value.string (decB p.col++bs [122])]) ?_;intro b73 w73 g73 l73 e73 B73;have G73:=Grow.of_blk (n:=1) (enc:=eS) (xs:=[decB p.col++bs [122]]) eS_len B73 g73 rfl (by decide);(conv=>whnf);refine ⟨(xt (xt e70 e71) e73),?_⟩;(conv=>whnf);refine SemK.appendArr0 (enc:=eS) mk_24 eS_len (hG.ext (xt (xt (xt (xb e67 c68.but g67) e70) e71) e73)) (G73.own.arr eS_len) (by intro y _;simp [eS,cellish]) (by omega) (by omega) (Below.size (xt (xt (xt (xb (xt hX e67) c68.but (Nat.le_trans (Below.size hX) g67)) e70) e71) e73)) ?_;intro a74 c74 w74 G74 m74 i74;(conv=>whnf);refine SemK.add (((k+1:Nat):Int)) (by omega) (by omega) (by omega) ?_;(conv=>whnf);refine ⟨k+1,by omega,_,_,rfl,by omega,?_,?_,(xm (xt (xt (xt (xb (xt hX e67) c68.but (Nat.le_trans (Below.size hX) g67)) e70) e71) e73) m74 (blkIn_new hG.new))⟩
      · exact G74.own.some (by omega)
      · rw [hnt,hpw];exact G74
  · obtain rfl:k=n:=by omega
    rw [List.take_of_length_le (by omega)] at hG;have hjl:=join_le 32 ((l.map passWord).map (·.data.toList)) (B:=22) (fun y hy=>by
      obtain ⟨z,hz,rfl⟩:=List.mem_map.1 hy;obtain ⟨t,ht,rfl⟩:=List.mem_map.1 hz;have h1:=hok t ht;have h2:=decB_len h1.1.1 h1.1.2;have h3:(passWord t).size=(decB t.col).size+1:=by
        unfold passWord;rw [ByteArray.size_append];split<;>rfl
      show (passWord t).data.toList.length≤22;simp;omega)
    have hJ:=join_own (sep:=⟨#[32]⟩) hG.own hG.le.1 (by omega) (by
      simp only [List.length_map] at hjl;have:(Lib.join (List.map (fun x=>x.data.toList) (List.map passWord l)) [32]).length≤40 * 23:=by
        refine Nat.le_trans hjl ?_;exact Nat.mul_le_mul_right _ (by omega)
      show (Lib.join _ [32]).length≤_;omega)
    (conv=>whnf);refine IfB.no (by omega) ?_;(conv=>whnf);refine hJ.mono ?_;rintro _ w5 ⟨rfl,e5⟩;(conv=>whnf);exact ⟨rfl,xt hX e5⟩
theorem lib_isNaNInt (x:Int) (w:World):Does Tryz.prog 266 [.int .i64 x] w (fun v w'=>v = .bool false∧w=w'):=by
  refine oV Tryz.func266 ?_;conv=>whnf
  exact ⟨by simp [*],rfl⟩
theorem lib_cmpInt (x y:Int) (w:World):Does Tryz.prog 198 [.int .i64 x,.int .i64 y] w (fun v w'=>v = .int .i64 (if x<y then -1 else if y<x then 1 else 0)∧Ext w w'):=by
  by_cases h1:x<y
  · rw [if_pos h1];refine oV Tryz.func198 ?_;conv=>whnf
    refine (lib_isNaNInt _ _).mono ?_;rintro _ _ ⟨rfl,rfl⟩;(conv=>whnf);refine (lib_isNaNInt _ _).mono ?_;rintro _ _ ⟨rfl,rfl⟩;(conv=>whnf);refine IfB.yes (by omega) ?_;(conv=>whnf);exact ⟨rfl,Ext.refl _⟩
  · rw [if_neg h1];by_cases h2:y<x
    · rw [if_pos h2];refine oV Tryz.func198 ?_;conv=>whnf
      refine (lib_isNaNInt _ _).mono ?_;rintro _ _ ⟨rfl,rfl⟩;(conv=>whnf);refine (lib_isNaNInt _ _).mono ?_;rintro _ _ ⟨rfl,rfl⟩;(conv=>whnf);refine IfB.no (by omega) ?_;(conv=>whnf);refine IfB.yes (by omega) ?_;(conv=>whnf);exact ⟨rfl,Ext.refl _⟩
    · rw [if_neg h2];refine oV Tryz.func198 ?_;conv=>whnf
      refine (lib_isNaNInt _ _).mono ?_;rintro _ _ ⟨rfl,rfl⟩;(conv=>whnf);refine (lib_isNaNInt _ _).mono ?_;rintro _ _ ⟨rfl,rfl⟩;(conv=>whnf);refine IfB.no (by omega) ?_;(conv=>whnf);refine IfB.no (by omega) ?_;(conv=>whnf);exact ⟨rfl,Ext.refl _⟩
theorem lib_CompareInt {w:World} {a b:Option Addr} {n c m d:Nat} {xs ys:List Nat} (h:Arr eI 1 w a n (xs.map fun (i:Nat)=>(i:Int))) (h2:Arr eI 1 w b m (ys.map fun (i:Nat)=>(i:Int))) :
    Does Tryz.prog 127 [.slice a n c,.slice b m d] w (fun v w'=>v = .int .i64 (cmpN xs ys)∧Ext w w'):=by
  have hmx:n≤9223372036854775807:=h.2.1;have hn:=h.len;have hm:=h2.len;rw [List.length_map] at hn;rw [List.length_map] at hm;have hi:∀ (k z:Nat),xs[k]? = some z→(xs.map fun (i:Nat)=>(i:Int))[k]? = some (z:Int):=fun k z hz=>by rw [List.getElem?_map,hz];rfl
  have hi2:∀ (k z:Nat),ys[k]? = some z→(ys.map fun (i:Nat)=>(i:Int))[k]? = some (z:Int):=fun k z hz=>by rw [List.getElem?_map,hz];rfl
  refine oV Tryz.func127 ?_;conv=>whnf
  refine lR [0,1,9,10,11] (fun (k:Nat) vs w'=>vs=[.slice a n c,.slice b m d,.slice a n c,.int .i64 n,.int .i64 k]∧k≤n∧k≤m∧cmpN xs ys=cmpN (xs.drop k) (ys.drop k)∧Ext w w') (fun k=>n - k) 0 ⟨rfl,by omega,by omega,rfl,Ext.refl _⟩ ?_;rintro k g _ w3 ⟨rfl,hk,hkm,hc,hX⟩;rcases Nat.lt_or_ge k n with hkn | hkn
  · obtain ⟨x,hx⟩:=get_of_lt (l:=xs) (k:=k) (by omega);have hx':=hi k x hx;have hdx:xs.drop k=x :: xs.drop (k+1):=by rw [List.drop_eq_getElem_cons (by omega)];rw [(List.getElem?_eq_some_iff.1 hx).2]
    rcases Nat.lt_or_ge k m with hkm2 | hkm2
    · obtain ⟨y,hy⟩:=get_of_lt (l:=ys) (k:=k) (by omega);have hy':=hi2 k y hy;have hdy:ys.drop k=y :: ys.drop (k+1):=by rw [List.drop_eq_getElem_cons (by omega)];rw [(List.getElem?_eq_some_iff.1 hy).2]
      rw [hdx,hdy] at hc;simp only [cmpN] at hc;by_cases h1:x<y
      · rw [if_pos h1] at hc;have hC:∀ u,Does Tryz.prog 198 [.int .i64 x,.int .i64 y] u (fun v w'=>v = .int .i64 (-1)∧Ext u w'):=fun u=>by
          have:=lib_cmpInt x y u;rw [if_pos (by omega)] at this;exact this
        rw [hc];(conv=>whnf);refine IfB.yes (by omega) ?_;(conv=>whnf);refine jI (h.ext hX) k rfl hx' ?_;intro b5 o5 ha5 hb5;(conv=>whnf);refine jO hb5 rfl ?_;(conv=>whnf);refine IfB.no (by omega) ?_;(conv=>whnf);refine jI (h2.ext hX) k rfl hy' ?_;intro b7 o7 ha7 hb7;(conv=>whnf);refine jO hb7 rfl ?_;(conv=>whnf);refine (hC _).mono ?_;rintro _ w9 ⟨rfl,e8⟩;(conv=>whnf);exact ⟨rfl,(xt hX e8)⟩
      · rw [if_neg h1] at hc;by_cases hyx:y<x
        · rw [if_pos hyx] at hc;have hC:∀ u,Does Tryz.prog 198 [.int .i64 x,.int .i64 y] u (fun v w'=>v = .int .i64 1∧Ext u w'):=fun u=>by
            have:=lib_cmpInt x y u;rw [if_neg (by omega),if_pos (by omega)] at this;exact this
          rw [hc];(conv=>whnf);refine IfB.yes (by omega) ?_;(conv=>whnf);refine jI (h.ext hX) k rfl hx' ?_;intro b5 o5 ha5 hb5;(conv=>whnf);refine jO hb5 rfl ?_;(conv=>whnf);refine IfB.no (by omega) ?_;(conv=>whnf);refine jI (h2.ext hX) k rfl hy' ?_;intro b7 o7 ha7 hb7;(conv=>whnf);refine jO hb7 rfl ?_;(conv=>whnf);refine (hC _).mono ?_;rintro _ w9 ⟨rfl,e8⟩;(conv=>whnf);exact ⟨rfl,(xt hX e8)⟩
        · rw [if_neg hyx] at hc;have hC:∀ u,Does Tryz.prog 198 [.int .i64 x,.int .i64 y] u (fun v w'=>v = .int .i64 0∧Ext u w'):=fun u=>by
            have:=lib_cmpInt x y u;rw [if_neg (by omega),if_neg (by omega)] at this;exact this
          (conv=>whnf);refine IfB.yes (by omega) ?_;(conv=>whnf);refine jI (h.ext hX) k rfl hx' ?_;intro b5 o5 ha5 hb5;(conv=>whnf);refine jO hb5 rfl ?_;(conv=>whnf);refine IfB.no (by omega) ?_;(conv=>whnf);refine jI (h2.ext hX) k rfl hy' ?_;intro b7 o7 ha7 hb7;(conv=>whnf);refine jO hb7 rfl ?_;(conv=>whnf);refine (hC _).mono ?_;rintro _ w9 ⟨rfl,e8⟩;(conv=>whnf);refine SemK.add (((k+1:Nat):Int)) (by omega) (by omega) (by omega) ?_;(conv=>whnf);exact ⟨k+1,by omega,rfl,by omega,by omega,by omega,(xt hX e8)⟩
    · have hdy:ys.drop k=[]:=List.drop_eq_nil_of_le (by omega);rw [hdx,hdy] at hc;simp only [cmpN] at hc;rw [hc];(conv=>whnf);refine IfB.yes (by omega) ?_;(conv=>whnf);refine jI (h.ext hX) k rfl hx' ?_;intro b5 o5 ha5 hb5;(conv=>whnf);refine jO hb5 rfl ?_;(conv=>whnf);refine IfB.yes (by omega) ?_;(conv=>whnf);exact ⟨rfl,hX⟩
  · have hdx:xs.drop k=[]:=List.drop_eq_nil_of_le (by omega);by_cases hnm:n<m
    · have hdy:∃ y ys',ys.drop k=y :: ys':=by
        cases hd:ys.drop k with
        | nil=>have:=congrArg List.length hd;simp at this;omega
        | cons y ys'=>exact ⟨y,ys',rfl⟩
      obtain ⟨y,ys',hdy⟩:=hdy;rw [hdx,hdy] at hc;simp only [cmpN] at hc;rw [hc];(conv=>whnf);refine IfB.no (by omega) ?_;(conv=>whnf);refine IfB.yes (by omega) ?_;(conv=>whnf);exact ⟨rfl,hX⟩
    · have hdy:ys.drop k=[]:=List.drop_eq_nil_of_le (by omega);rw [hdx,hdy] at hc;simp only [cmpN] at hc;rw [hc];(conv=>whnf);refine IfB.no (by omega) ?_;(conv=>whnf);refine IfB.no (by omega) ?_;(conv=>whnf);exact ⟨rfl,hX⟩
theorem impl_FewestPasses {w:World} {a:Option Addr} {n c:Nat} {xs:List (List Int)} (h:ArrS RCard w a n xs) {f:TField} (hfo:f.ok) :
    Does Tryz.prog 69 [.slice a n c,.agg ⟨f.enc⟩] w (fun v w'=>∃ a' m c',v = .tuple #[.slice a' m c',.int .i64 (fewM xs f).2]∧Arr TPass.enc 2 w' a' m (fewM xs f).1∧Ext w w'):=by
  have hn:=h.len;have hS:∀ u,Ext w u→Does Tryz.prog 123 [.slice a n c,.agg ⟨f.enc⟩] u (fun v w'=>v = .int .i64 (keysM xs f).2∧Ext u w'):=fun u e=>impl_sortCode (h.ext e) f;by_cases hz:(keysM xs f).2=0
  · obtain ⟨hd,hf,hh⟩:=keys_inv hz;rw [hz] at hS;have hdm:=deckB_mem hd;have h40:=hdm.1;have hwd:=widthOf_b hd;have hfb:=fieldB_b hf;by_cases h4:4<f.to_ - f.from_
    · have he:fewM xs f=([],5):=by simp [fewM,hz,h4]
      rw [he];refine oV Tryz.func69 ?_;conv=>whnf
      refine SemK.box ?_;intro b41 w41 g41 l41 e41 B41;(conv=>whnf);refine jA (n:=2) B41.cells rfl ?_;(conv=>whnf);refine (hS _ e41).mono ?_;rintro _ w43 ⟨rfl,e42⟩;(conv=>whnf);refine jL (B41.ext e42).cells (k:=1) rfl ?_;(conv=>whnf);refine jL (B41.ext e42).cells (k:=0) rfl ?_;(conv=>whnf);refine SemK.sub _ rfl (by omega) (by omega) ?_;(conv=>whnf);refine IfB.yes (by omega) ?_;(conv=>whnf);refine ⟨_,_,_,rfl,?_,(xt e41 e42)⟩
      · exact Arr.nil
    · have he:fewM xs f=(pickL (fullM f) (bestM xs f (2 ^ (fullM f).length)).1,0):=by simp [fewM,hz,h4]
      rw [he];have hP:∀ u,Does Tryz.prog 124 [.agg ⟨f.enc⟩] u (fun v w'=>∃ a n c,v = .slice a n c∧Arr TPass.enc 2 w' a n (fullM f)∧Ext u w'):=fun u=>impl_fullPlan hf (by omega) u;have hD:∀ u,Ext w u→Does Tryz.prog 125 [.slice a n c,.agg ⟨f.enc⟩] u (fun v w'=>∃ a' c',v = .slice a' n c'∧n≤c'∧OwnN OCard w' u.heap.size w'.heap.size a' n 131 (sdM xs f)∧Ext u w'):=fun u e=>impl_sortedBy (h.ext e) hd hf;have hfl:(fLen f:Int)=f.to_ - f.from_:=by unfold fLen;omega
      have hl8:=full_len f;have hl2:(fullM f).length≤8:=by omega
      have hokp:∀ p∈fullM f,0≤p.col∧p.col<widthOf xs∧(p.mode=1∨p.mode=2):=fun p hp=>full_ok hf hp;generalize hF:fullM f=full at *;have hRun:∀ u (own:List Nat) a' m' c',Ext w u→(∀ i∈own,i<full.length)→own.length≤8→Arr TPass.enc 2 u a' m' (pickL full own)→Does Tryz.prog 129 [.slice a n c,.slice a' m' c'] u (fun v w'=>∃ a' m' c',v = .slice a' m' c'∧ArrS RCard w' a' m' (runPM xs (pickL full own))∧Ext u w'):=fun u own a' m' c' e ho hol A=>by
        have hm:=A.len;have hml:(pickL full own).length=own.length:=by simp [pickL]
        exact impl_runPasses (h.ext e) (by omega) A (by omega) (fun x hx=>by
          have hcx:=hdm.2 x hx;have hcb:=cardB_b hcx.1;exact ⟨hcb.2.1,hcb.2.2,fun p hp=>by
            have:=hokp p (pick_mem ho hp);rw [hcx.2];exact ⟨this.1,this.2.1⟩⟩)
      have hpow:(2:Nat) ^ full.length≤2 ^ 8:=Nat.pow_le_pow_right (by decide) hl2;refine oV Tryz.func69 ?_;conv=>whnf
      refine SemK.box ?_;intro b41 w41 g41 l41 e41 B41;(conv=>whnf);refine jA (n:=2) B41.cells rfl ?_;(conv=>whnf);refine (hS _ e41).mono ?_;rintro _ w43 ⟨rfl,e42⟩;(conv=>whnf);refine jL (B41.ext e42).cells (k:=1) rfl ?_;(conv=>whnf);refine jL (B41.ext e42).cells (k:=0) rfl ?_;(conv=>whnf);refine SemK.sub _ rfl (by omega) (by omega) ?_;(conv=>whnf);refine IfB.no (by omega) ?_;(conv=>whnf);refine dH [(0,false),(2,false),(3,false),(1,true),(4,true),(5,true),(6,true)] ?_;(conv=>whnf);intro w44 e44;(conv=>whnf);refine dA (n:=2) (B41.ext e42).cells rfl ?_;(conv=>whnf);refine dA (n:=2) (B41.ext e42).cells rfl ?_;(conv=>whnf);refine (hP _).mono ?_;rintro _ w50 ⟨a45,n46,c47,rfl,A48,e49⟩;(conv=>whnf);refine ⟨(xt e44 e49),?_⟩;(conv=>whnf);refine (hD _ (xt (xt (xt e41 e42) e44) e49)).mono ?_;rintro _ w56 ⟨a'51,c'52,rfl,q53,O54,e55⟩;(conv=>whnf);refine ⟨(xt (xt e44 e49) e55),?_⟩;(conv=>whnf);refine bS mk_187 (vs:=[]) ?_;intro b57 w57 g57 l57 e57 B57;have G57:=Grow.new0 (enc:=eI) eI_len B57 g57;(conv=>whnf);have hn46:n46=full.length:=by have:=A48.len;omega
      subst hn46;refine SemK.shlTo ((2 ^ full.length:Nat):Int) (by omega) (shl_pow hl2) ?_;(conv=>whnf);have hSD:∀ u a' m' c' ys,Ext w56 u→ArrS RCard u a' m' ys→Does Tryz.prog 128 [.slice a' m' c',.slice a'51 n c'52] u (fun v w'=>v = .bool (decide (ys=sdM xs f))∧Ext u w'):=fun u a' m' c' ys e A=>impl_SameDeck A ((O54.ext e).arr);generalize hDue:sdM xs f=due at *;have E56:=xt (xt (xt (xt e41 e42) e44) e49) e55;generalize hNP:2 ^ full.length=NP at *;refine lR [0,7,8,9,10,41,42] (fun (k:Nat) vs w'=>∃ ab cb,vs=[.slice a n c,.slice a45 full.length c47,.slice a'51 n c'52,.slice ab ((List.range k).foldl (setStep xs due full) ([],false)).1.length cb,.bool ((List.range k).foldl (setStep xs due full) ([],false)).2,.int .i64 (NP:Int),.int .i64 k]∧k≤NP∧Arr eI 1 w' ab ((List.range k).foldl (setStep xs due full) ([],false)).1.length (((List.range k).foldl (setStep xs due full) ([],false)).1.map fun (i:Nat)=>(i:Int))∧Ext w57 w') (fun k=>NP - k) 0 ⟨_,_,rfl,Nat.zero_le _,by simpa using G57.own.arr eI_len,Ext.refl _⟩ ?_;rintro k g _ w3 ⟨ab,cb,rfl,hk,AB,hX⟩;have hbn:=best_next xs due full k;have hbl:=best_len xs due full k;have hbo:=best_ok xs due full k;have E3:=xt (xt e55 e57) hX;have X56:=xt e57 hX;have EW:=xt (xt E56 e57) hX;rcases Nat.lt_or_ge k NP with hkn | hkn
      · generalize hst:(List.range k).foldl (setStep xs due full) ([],false)=st at *;obtain ⟨best,found⟩:=st;dsimp only at AB hbl hbo ⊢;have hol:=ones_own (n:=full.length) (s:=k) hl2 (by rw [hNP];exact hkn);have hoL:=ownS_len full.length k;have hO1:∀ u,Does Tryz.prog 126 [.int .u64 (k:Int)] u (fun v w'=>v = .int .i64 ((ownS full.length k).length:Int)∧Ext u w'):=fun u=>by
          have:=lib_OnesCount (s:=k) (by omega) u;rw [← hol] at this;exact this
        cases found
        · (conv=>whnf);refine IfB.yes (by omega) ?_;(conv=>whnf);have E0:Ext w3 w3:=Ext.refl _;refine bS mk_187 (vs:=[]) ?_;intro b62 w62 g62 l62 e62 B62;(conv=>whnf);refine bS mk_112 (vs:=[]) ?_;intro b63 w63 g63 l63 e63 B63;have z3:=Below.size E0;have z62:=e62.size;have z63:=e63.size;have G62:Grow eI 1 w3.heap.size 3 w63 (some ⟨b62,0,none⟩) 0 0 ([]:List Int):=(Grow.new0 (enc:=eI) eI_len B62 (Nat.le_trans z3 g62)).ext e63;have G63:Grow TPass.enc 2 w3.heap.size 190 w63 (some ⟨b63,0,none⟩) 0 0 []:=Grow.new0 (enc:=TPass.enc) TPass.enc_len B63 (by omega);(conv=>whnf);refine lR [0,7,8,9,10,11,12,13,41,42,56,57,58] (fun (j:Nat) vs w'=>∃ a12 c12 a13 c13,vs=[.slice a n c,.slice a45 full.length c47,.slice a'51 n c'52,.slice ab best.length cb,.bool false,.int .i64 k,.slice a12 (ownS j k).length c12,.slice a13 (ownS j k).length c13,.int .i64 (NP:Int),.int .i64 k,.slice a45 full.length c47,.int .i64 (full.length:Int),.int .i64 j]∧j≤full.length∧Grow eI 1 w3.heap.size 3 w' a12 (ownS j k).length c12 ((ownS j k).map fun (i:Nat)=>(i:Int))∧Grow TPass.enc 2 w3.heap.size 190 w' a13 (ownS j k).length c13 (pickL full (ownS j k))∧(∀ q,blkIn a12 q→¬ blkIn a13 q)∧Ext w3 w') (fun j=>full.length - j) 0 ⟨_,_,_,_,rfl,Nat.zero_le _,G62,G63,?_,xt (xt E0 e62) e63⟩ ?_
          · rintro q ⟨x,hx,rfl⟩ ⟨y,hy,he⟩;cases hx
            cases hy
            have he:b62=b63:=he;omega
          rintro j g' _ w4 ⟨a12,c12,a13,c13,rfl,hj,H12,H13,hap,hY⟩;have hjl:=ownS_len j k;rcases Nat.lt_or_ge j full.length with hjn | hjn
          · obtain ⟨p,hp⟩:=get_of_lt (l:=full) (k:=j) (by omega);have hpn:=pick_next (s:=k) hp;have hon:=ownS_next j k;have hand:andV .i64 ((k:Int) / 2 ^ j) 1=(k:Int) / 2 ^ j % 2:=and1 (div_b (by omega) (by omega) _).1 (div_b (by omega) (by omega) _).2;have hbt:=bit_test k j;(conv=>whnf);refine IfB.yes (by omega) ?_;(conv=>whnf);refine jI (A48.ext (xt E3 hY)) j rfl hp ?_;intro b6 o6 ha6 hb6;(conv=>whnf);refine jA (n:=2) hb6 rfl ?_;(conv=>whnf);refine jN (z := .agg #[.int .i64 0,.int .i64 0]) ?_;intro b7 w7 g7 l7 e7 B7;(conv=>whnf);refine jS B7 (vs:=p.enc) rfl rfl (by simp [TPass.enc,cellish]) ?_;intro w8 c8 B8;have E8:Ext w4 w8:=xb e7 c8.but g7;(conv=>whnf);refine SemK.shrTo ((k:Int) / 2 ^ j) (by omega) (shr_at (by omega)) ?_;(conv=>whnf);refine SemK.andTo ((k:Int) / 2 ^ j % 2) hand ?_;(conv=>whnf);cases htb:k.testBit j
            · rw [htb] at hbt hpn hon;simp only [Bool.false_eq_true,if_false] at hpn hon;refine IfB.eqf hbt ?_;(conv=>whnf);refine SemK.add (((j+1:Nat):Int)) (by omega) (by omega) (by omega) ?_;(conv=>whnf);exact ⟨j+1,by omega,a12,c12,a13,c13,by rw [hon];rfl,by omega,by rw [hon];exact H12.ext E8,by rw [hon];exact H13.ext E8,hap,xt hY E8⟩
            · rw [htb] at hbt hpn hon;simp only [if_true] at hpn hon;refine IfB.eqt hbt ?_;(conv=>whnf);refine bS mk_187 (vs:=[Value.int IntKind.i64 (j:Int)]) ?_;intro b9 w9 g9 l9 e9 B9;(conv=>whnf);refine SemK.appendAt (enc:=eI) mk_187 eI_len (H12.ext (xt E8 e9)) (ys:=[(j:Int)]) (m:=1) B9.cells rfl (by simp [flat,eI,cellish]) (by omega) (by omega) (Below.size (xt (xt hY E8) e9)) ?_;intro a10 c10 w10 G10 m10 i10;(conv=>whnf);have H13b:=(H13.ext (xt E8 e9)).mod m10 (fun y hy hq=>hap _ hq ⟨y,hy,rfl⟩);refine jA (n:=2) ((B8.ext e9).mod m10 (fun hq=>by
                obtain ⟨y,hy,he⟩:=hq;have:=(H12.blk_lt y hy).2;omega)).cells rfl ?_
              (conv=>whnf);refine SemK.buildSlice mk_112 (vs:=[.agg ⟨p.enc⟩]) (by rfl) (by rfl) (by simp [Value.cells,TPass.enc]) (by decide) ?_;intro b11 w11 g11 l11 e11 B11;(conv=>whnf);refine SemK.appendAt (enc:=TPass.enc) mk_112 TPass.enc_len (H13b.ext e11) (ys:=[p]) (m:=1) B11.cells rfl (by simp [flat,TPass.enc,cellish]) (by omega) (by omega) (Below.size (xt (xm (xt (xt hY E8) e9) m10 (blkIn_new H12.new)) e11)) ?_;intro a14 c14 w14 G14 m14 i14;(conv=>whnf);refine SemK.add (((j+1:Nat):Int)) (by omega) (by omega) (by omega) ?_;(conv=>whnf);have z8:=E8.size;have z9:=e9.size;have z10:=m10.size;have z11:=e11.size;refine ⟨j+1,by omega,a10,c10,a14,c14,by rw [hon,List.length_append];rfl,by omega,?_,?_,?_,?_⟩
              · rw [hon,List.length_append,List.map_append];exact (G10.ext e11).mod m14 (fun y hy hq=>by
                  rcases i10 _ ⟨y,hy,rfl⟩ with h1 | h1
                  · exact hap _ h1 hq
                  · obtain ⟨x,hx,he⟩:=hq;have:=(H13.blk_lt x hx).2;omega)
              · rw [hpn,hon,List.length_append];exact G14
              · intro q h1 h2;rcases i14 q h2 with h3 | h3
                · rcases i10 q h1 with h4 | h4
                  · exact hap q h4 h3
                  · obtain ⟨x,hx,he⟩:=h3;have:=(H13.blk_lt x hx).2;omega
                · rcases i10 q h1 with h4 | h4
                  · obtain ⟨x,hx,he⟩:=h4;have:=(H12.blk_lt x hx).2;omega
                  · omega
              · exact xm (xt (xm (xt (xt hY E8) e9) m10 (blkIn_new H12.new)) e11) m14 (blkIn_new H13.new)
          · obtain rfl:j=full.length:=by omega
            have hC0:∀ u,Ext w4 u→Does Tryz.prog 127 [.slice a12 (ownS full.length k).length c12,.slice ab best.length cb] u (fun v w'=>v = .int .i64 (cmpN (ownS full.length k) best)∧Ext u w'):=fun u e=>lib_CompareInt ((H12.own.arr eI_len).ext e) (AB.ext (xt hY e));have hR0:∀ u,Ext w4 u→Does Tryz.prog 129 [.slice a n c,.slice a13 (ownS full.length k).length c13] u (fun v w'=>∃ a' m' c',v = .slice a' m' c'∧ArrS RCard w' a' m' (runPM xs (pickL full (ownS full.length k)))∧Ext u w'):=fun u e=>hRun u _ a13 _ c13 (xt (xt EW hY) e) (fun i hi=>ownS_lt hi) (by omega) ((H13.own.arr TPass.enc_len).ext e);have hAO:=H12.own.arr eI_len;generalize hOwn:ownS full.length k=own at *;generalize hRP:runPM xs (pickL full own)=rp at *;have hSS:setStep xs due full (best,false) k=if (false:Bool)=true∧best.length<own.length then (best,false) else if ((false:Bool)=true∧own.length=best.length∧0<cmpN own best)∨¬ rp=due then (best,false) else (own,true):=by
              unfold setStep;rw [hOwn,hRP]
            by_cases hr:rp=due
            · rw [if_neg (by simp),if_neg (by simp [hr])] at hSS;rw [hSS] at hbn;(conv=>whnf);refine IfB.no (by omega) ?_;(conv=>whnf);refine (hR0 _ (Ext.refl _)).mono ?_;rintro _ w69 ⟨a'64,m'65,c'66,rfl,A67,e68⟩;(conv=>whnf);refine (hSD _ _ _ _ _ (xt (xt X56 hY) e68) A67).mono ?_;rintro _ w71 ⟨rfl,e70⟩;(conv=>whnf);refine IfB.eqf (by simp [*];done) ?_;(conv=>whnf);refine SemK.add (((k+1:Nat):Int)) (by omega) (by omega) (by omega) ?_;(conv=>whnf);exact ⟨k+1,by omega,a12,c12,by rw [hbn];rfl,by omega,by rw [hbn];exact hAO.ext (xt (e68) e70),xt hX (xt hY (xt (e68) e70))⟩
            · rw [if_neg (by simp),if_pos (.inr hr)] at hSS;rw [hSS] at hbn;(conv=>whnf);refine IfB.no (by omega) ?_;(conv=>whnf);refine (hR0 _ (Ext.refl _)).mono ?_;rintro _ w69 ⟨a'64,m'65,c'66,rfl,A67,e68⟩;(conv=>whnf);refine (hSD _ _ _ _ _ (xt (xt X56 hY) e68) A67).mono ?_;rintro _ w71 ⟨rfl,e70⟩;(conv=>whnf);refine IfB.eqt (by simp [*];done) ?_;(conv=>whnf);refine SemK.add (((k+1:Nat):Int)) (by omega) (by omega) (by omega) ?_;(conv=>whnf);exact ⟨k+1,by omega,ab,cb,by rw [hbn];rfl,by omega,by rw [hbn];exact AB.ext (xt hY (xt (e68) e70)),xt hX (xt hY (xt (e68) e70))⟩
        · by_cases c1:best.length<(ownS full.length k).length
          · have hs:setStep xs due full (best,true) k=(best,true):=by unfold setStep;rw [if_pos ⟨rfl,c1⟩]
            rw [hs] at hbn;(conv=>whnf);refine IfB.yes (by omega) ?_;(conv=>whnf);refine SemK.conv (k := .u64) (by kernel_rfl) (by kernel_rfl) (u64_wrap (by omega) (by omega)) ?_
            (conv=>whnf);refine (hO1 _).mono ?_;rintro _ w59 ⟨rfl,e58⟩;(conv=>whnf);refine IfB.yes (by omega) ?_;(conv=>whnf);refine SemK.add (((k+1:Nat):Int)) (by omega) (by omega) (by omega) ?_;(conv=>whnf);exact ⟨k+1,by omega,ab,cb,by rw [hbn];rfl,by omega,by rw [hbn];exact AB.ext e58,xt hX e58⟩
          · (conv=>whnf);refine IfB.yes (by omega) ?_;(conv=>whnf);refine SemK.conv (k := .u64) (by kernel_rfl) (by kernel_rfl) (u64_wrap (by omega) (by omega)) ?_
            (conv=>whnf);refine (hO1 _).mono ?_;rintro _ w59 ⟨rfl,e58⟩;(conv=>whnf);refine IfB.no (by omega) ?_;(conv=>whnf);have E0:Ext w3 w59:=e58;refine bS mk_187 (vs:=[]) ?_;intro b62 w62 g62 l62 e62 B62;(conv=>whnf);refine bS mk_112 (vs:=[]) ?_;intro b63 w63 g63 l63 e63 B63;have z3:=Below.size E0;have z62:=e62.size;have z63:=e63.size;have G62:Grow eI 1 w3.heap.size 3 w63 (some ⟨b62,0,none⟩) 0 0 ([]:List Int):=(Grow.new0 (enc:=eI) eI_len B62 (Nat.le_trans z3 g62)).ext e63;have G63:Grow TPass.enc 2 w3.heap.size 190 w63 (some ⟨b63,0,none⟩) 0 0 []:=Grow.new0 (enc:=TPass.enc) TPass.enc_len B63 (by omega);(conv=>whnf);refine lR [0,7,8,9,10,11,12,13,41,42,56,57,58] (fun (j:Nat) vs w'=>∃ a12 c12 a13 c13,vs=[.slice a n c,.slice a45 full.length c47,.slice a'51 n c'52,.slice ab best.length cb,.bool true,.int .i64 k,.slice a12 (ownS j k).length c12,.slice a13 (ownS j k).length c13,.int .i64 (NP:Int),.int .i64 k,.slice a45 full.length c47,.int .i64 (full.length:Int),.int .i64 j]∧j≤full.length∧Grow eI 1 w3.heap.size 3 w' a12 (ownS j k).length c12 ((ownS j k).map fun (i:Nat)=>(i:Int))∧Grow TPass.enc 2 w3.heap.size 190 w' a13 (ownS j k).length c13 (pickL full (ownS j k))∧(∀ q,blkIn a12 q→¬ blkIn a13 q)∧Ext w3 w') (fun j=>full.length - j) 0 ⟨_,_,_,_,rfl,Nat.zero_le _,G62,G63,?_,xt (xt E0 e62) e63⟩ ?_
            · rintro q ⟨x,hx,rfl⟩ ⟨y,hy,he⟩;cases hx
              cases hy
              have he:b62=b63:=he;omega
            rintro j g' _ w4 ⟨a12,c12,a13,c13,rfl,hj,H12,H13,hap,hY⟩;have hjl:=ownS_len j k;rcases Nat.lt_or_ge j full.length with hjn | hjn
            · obtain ⟨p,hp⟩:=get_of_lt (l:=full) (k:=j) (by omega);have hpn:=pick_next (s:=k) hp;have hon:=ownS_next j k;have hand:andV .i64 ((k:Int) / 2 ^ j) 1=(k:Int) / 2 ^ j % 2:=and1 (div_b (by omega) (by omega) _).1 (div_b (by omega) (by omega) _).2;have hbt:=bit_test k j;(conv=>whnf);refine IfB.yes (by omega) ?_;(conv=>whnf);refine jI (A48.ext (xt E3 hY)) j rfl hp ?_;intro b6 o6 ha6 hb6;(conv=>whnf);refine jA (n:=2) hb6 rfl ?_;(conv=>whnf);refine jN (z := .agg #[.int .i64 0,.int .i64 0]) ?_;intro b7 w7 g7 l7 e7 B7;(conv=>whnf);refine jS B7 (vs:=p.enc) rfl rfl (by simp [TPass.enc,cellish]) ?_;intro w8 c8 B8;have E8:Ext w4 w8:=xb e7 c8.but g7;(conv=>whnf);refine SemK.shrTo ((k:Int) / 2 ^ j) (by omega) (shr_at (by omega)) ?_;(conv=>whnf);refine SemK.andTo ((k:Int) / 2 ^ j % 2) hand ?_;(conv=>whnf);cases htb:k.testBit j
              · rw [htb] at hbt hpn hon;simp only [Bool.false_eq_true,if_false] at hpn hon;refine IfB.eqf hbt ?_;(conv=>whnf);refine SemK.add (((j+1:Nat):Int)) (by omega) (by omega) (by omega) ?_;(conv=>whnf);exact ⟨j+1,by omega,a12,c12,a13,c13,by rw [hon];rfl,by omega,by rw [hon];exact H12.ext E8,by rw [hon];exact H13.ext E8,hap,xt hY E8⟩
              · rw [htb] at hbt hpn hon;simp only [if_true] at hpn hon;refine IfB.eqt hbt ?_;(conv=>whnf);refine bS mk_187 (vs:=[Value.int IntKind.i64 (j:Int)]) ?_;intro b9 w9 g9 l9 e9 B9;(conv=>whnf);refine SemK.appendAt (enc:=eI) mk_187 eI_len (H12.ext (xt E8 e9)) (ys:=[(j:Int)]) (m:=1) B9.cells rfl (by simp [flat,eI,cellish]) (by omega) (by omega) (Below.size (xt (xt hY E8) e9)) ?_;intro a10 c10 w10 G10 m10 i10;(conv=>whnf);have H13b:=(H13.ext (xt E8 e9)).mod m10 (fun y hy hq=>hap _ hq ⟨y,hy,rfl⟩);refine jA (n:=2) ((B8.ext e9).mod m10 (fun hq=>by
                  obtain ⟨y,hy,he⟩:=hq;have:=(H12.blk_lt y hy).2;omega)).cells rfl ?_
                (conv=>whnf);refine SemK.buildSlice mk_112 (vs:=[.agg ⟨p.enc⟩]) (by rfl) (by rfl) (by simp [Value.cells,TPass.enc]) (by decide) ?_;intro b11 w11 g11 l11 e11 B11;(conv=>whnf);refine SemK.appendAt (enc:=TPass.enc) mk_112 TPass.enc_len (H13b.ext e11) (ys:=[p]) (m:=1) B11.cells rfl (by simp [flat,TPass.enc,cellish]) (by omega) (by omega) (Below.size (xt (xm (xt (xt hY E8) e9) m10 (blkIn_new H12.new)) e11)) ?_;intro a14 c14 w14 G14 m14 i14;(conv=>whnf);refine SemK.add (((j+1:Nat):Int)) (by omega) (by omega) (by omega) ?_;(conv=>whnf);have z8:=E8.size;have z9:=e9.size;have z10:=m10.size;have z11:=e11.size;refine ⟨j+1,by omega,a10,c10,a14,c14,by rw [hon,List.length_append];rfl,by omega,?_,?_,?_,?_⟩
                · rw [hon,List.length_append,List.map_append];exact (G10.ext e11).mod m14 (fun y hy hq=>by
                    rcases i10 _ ⟨y,hy,rfl⟩ with h1 | h1
                    · exact hap _ h1 hq
                    · obtain ⟨x,hx,he⟩:=hq;have:=(H13.blk_lt x hx).2;omega)
                · rw [hpn,hon,List.length_append];exact G14
                · intro q h1 h2;rcases i14 q h2 with h3 | h3
                  · rcases i10 q h1 with h4 | h4
                    · exact hap q h4 h3
                    · obtain ⟨x,hx,he⟩:=h3;have:=(H13.blk_lt x hx).2;omega
                  · rcases i10 q h1 with h4 | h4
                    · obtain ⟨x,hx,he⟩:=h4;have:=(H12.blk_lt x hx).2;omega
                    · omega
                · exact xm (xt (xm (xt (xt hY E8) e9) m10 (blkIn_new H12.new)) e11) m14 (blkIn_new H13.new)
            · obtain rfl:j=full.length:=by omega
              have hC0:∀ u,Ext w4 u→Does Tryz.prog 127 [.slice a12 (ownS full.length k).length c12,.slice ab best.length cb] u (fun v w'=>v = .int .i64 (cmpN (ownS full.length k) best)∧Ext u w'):=fun u e=>lib_CompareInt ((H12.own.arr eI_len).ext e) (AB.ext (xt hY e));have hR0:∀ u,Ext w4 u→Does Tryz.prog 129 [.slice a n c,.slice a13 (ownS full.length k).length c13] u (fun v w'=>∃ a' m' c',v = .slice a' m' c'∧ArrS RCard w' a' m' (runPM xs (pickL full (ownS full.length k)))∧Ext u w'):=fun u e=>hRun u _ a13 _ c13 (xt (xt EW hY) e) (fun i hi=>ownS_lt hi) (by omega) ((H13.own.arr TPass.enc_len).ext e);have hAO:=H12.own.arr eI_len;generalize hOwn:ownS full.length k=own at *;generalize hRP:runPM xs (pickL full own)=rp at *;have hSS:setStep xs due full (best,true) k=if (true:Bool)=true∧best.length<own.length then (best,true) else if ((true:Bool)=true∧own.length=best.length∧0<cmpN own best)∨¬ rp=due then (best,true) else (own,true):=by
                unfold setStep;rw [hOwn,hRP]
              rw [if_neg (fun h=>c1 h.2)] at hSS;by_cases ce:own.length=best.length
              · by_cases cc:0<cmpN own best
                · rw [if_pos (.inl ⟨rfl,ce,cc⟩)] at hSS;rw [hSS] at hbn;(conv=>whnf);refine IfB.no (by omega) ?_;(conv=>whnf);refine IfB.yes (by omega) ?_;(conv=>whnf);refine (hC0 _ (Ext.refl _)).mono ?_;rintro _ w65 ⟨rfl,e64⟩;(conv=>whnf);refine IfB.yes (by omega) ?_;(conv=>whnf);refine SemK.add (((k+1:Nat):Int)) (by omega) (by omega) (by omega) ?_;(conv=>whnf);exact ⟨k+1,by omega,ab,cb,by rw [hbn];rfl,by omega,by rw [hbn];exact AB.ext (xt hY (e64)),xt hX (xt hY (e64))⟩
                · by_cases hr:rp=due
                  · rw [if_neg (by rintro (h | h);exact cc h.2.2;exact h hr)] at hSS;rw [hSS] at hbn;(conv=>whnf);refine IfB.no (by omega) ?_;(conv=>whnf);refine IfB.yes (by omega) ?_;(conv=>whnf);refine (hC0 _ (Ext.refl _)).mono ?_;rintro _ w65 ⟨rfl,e64⟩;(conv=>whnf);refine IfB.no (by omega) ?_;(conv=>whnf);refine (hR0 _ e64).mono ?_;rintro _ w71 ⟨a'66,m'67,c'68,rfl,A69,e70⟩;(conv=>whnf);refine (hSD _ _ _ _ _ (xt (xt (xt X56 hY) e64) e70) A69).mono ?_;rintro _ w73 ⟨rfl,e72⟩;(conv=>whnf);refine IfB.eqf (by simp [*];done) ?_;(conv=>whnf);refine SemK.add (((k+1:Nat):Int)) (by omega) (by omega) (by omega) ?_;(conv=>whnf);exact ⟨k+1,by omega,a12,c12,by rw [hbn];rfl,by omega,by rw [hbn];exact hAO.ext (xt (xt (e64) e70) e72),xt hX (xt hY (xt (xt (e64) e70) e72))⟩
                  · rw [if_pos (.inr hr)] at hSS;rw [hSS] at hbn;(conv=>whnf);refine IfB.no (by omega) ?_;(conv=>whnf);refine IfB.yes (by omega) ?_;(conv=>whnf);refine (hC0 _ (Ext.refl _)).mono ?_;rintro _ w65 ⟨rfl,e64⟩;(conv=>whnf);refine IfB.no (by omega) ?_;(conv=>whnf);refine (hR0 _ e64).mono ?_;rintro _ w71 ⟨a'66,m'67,c'68,rfl,A69,e70⟩;(conv=>whnf);refine (hSD _ _ _ _ _ (xt (xt (xt X56 hY) e64) e70) A69).mono ?_;rintro _ w73 ⟨rfl,e72⟩;(conv=>whnf);refine IfB.eqt (by simp [*];done) ?_;(conv=>whnf);refine SemK.add (((k+1:Nat):Int)) (by omega) (by omega) (by omega) ?_;(conv=>whnf);exact ⟨k+1,by omega,ab,cb,by rw [hbn];rfl,by omega,by rw [hbn];exact AB.ext (xt hY (xt (xt (e64) e70) e72)),xt hX (xt hY (xt (xt (e64) e70) e72))⟩
              · by_cases hr:rp=due
                · rw [if_neg (by rintro (h | h);exact ce h.2.1;exact h hr)] at hSS;rw [hSS] at hbn;(conv=>whnf);refine IfB.no (by omega) ?_;(conv=>whnf);refine IfB.no (by omega) ?_;(conv=>whnf);refine (hR0 _ (Ext.refl _)).mono ?_;rintro _ w69 ⟨a'64,m'65,c'66,rfl,A67,e68⟩;(conv=>whnf);refine (hSD _ _ _ _ _ (xt (xt X56 hY) e68) A67).mono ?_;rintro _ w71 ⟨rfl,e70⟩;(conv=>whnf);refine IfB.eqf (by simp [*];done) ?_;(conv=>whnf);refine SemK.add (((k+1:Nat):Int)) (by omega) (by omega) (by omega) ?_;(conv=>whnf);exact ⟨k+1,by omega,a12,c12,by rw [hbn];rfl,by omega,by rw [hbn];exact hAO.ext (xt (e68) e70),xt hX (xt hY (xt (e68) e70))⟩
                · rw [if_pos (.inr hr)] at hSS;rw [hSS] at hbn;(conv=>whnf);refine IfB.no (by omega) ?_;(conv=>whnf);refine IfB.no (by omega) ?_;(conv=>whnf);refine (hR0 _ (Ext.refl _)).mono ?_;rintro _ w69 ⟨a'64,m'65,c'66,rfl,A67,e68⟩;(conv=>whnf);refine (hSD _ _ _ _ _ (xt (xt X56 hY) e68) A67).mono ?_;rintro _ w71 ⟨rfl,e70⟩;(conv=>whnf);refine IfB.eqt (by simp [*];done) ?_;(conv=>whnf);refine SemK.add (((k+1:Nat):Int)) (by omega) (by omega) (by omega) ?_;(conv=>whnf);exact ⟨k+1,by omega,ab,cb,by rw [hbn];rfl,by omega,by rw [hbn];exact AB.ext (xt hY (xt (e68) e70)),xt hX (xt hY (xt (e68) e70))⟩
      · obtain rfl:k=NP:=by omega
        have hbm:(List.range k).foldl (setStep xs due full) ([],false)=bestM xs f k:=by unfold bestM;rw [hDue,hF]
        rw [hbm] at AB hbl hbo ⊢;generalize bestM xs f k=st at *;obtain ⟨best,found⟩:=st;dsimp only at AB hbl hbo ⊢;(conv=>whnf);refine IfB.no (by omega) ?_;(conv=>whnf);refine bS mk_112 (vs:=[]) ?_;intro b58 w58 g58 l58 e58 B58;have G58:=Grow.new0 (enc:=TPass.enc) TPass.enc_len B58 g58;(conv=>whnf);refine lR [7,16,102,103,104] (fun (j:Nat) vs w'=>∃ a3 c3,vs=[.slice a45 full.length c47,.slice a3 j c3,.slice ab best.length cb,.int .i64 (best.length:Int),.int .i64 j]∧j≤best.length∧Grow TPass.enc 2 w3.heap.size 190 w' a3 j c3 (pickL full (best.take j))∧Ext w3 w') (fun j=>best.length - j) 0 ⟨_,_,rfl,Nat.zero_le _,by simpa [pickL] using G58,e58⟩ ?_;rintro j g' _ w4 ⟨a3,c3,rfl,hj,hG,hY⟩;rcases Nat.lt_or_ge j best.length with hjn | hjn
        · obtain ⟨i,hi⟩:=get_of_lt hjn;have hil:=hbo i (List.mem_of_getElem? hi);obtain ⟨p,hp⟩:=get_of_lt hil;have hnt:pickL full (best.take (j+1))=pickL full (best.take j)++[p]:=by
            unfold pickL;rw [List.take_add_one,hi,List.map_append];simp [List.getD_eq_getElem?_getD,hp]
          have hi':(best.map fun (i:Nat)=>(i:Int))[j]? = some (i:Int):=by rw [List.getElem?_map,hi];rfl
          (conv=>whnf);refine IfB.yes (by omega) ?_;(conv=>whnf);refine jI (AB.ext hY) j rfl hi' ?_;intro b60 o60 ha60 hb60;(conv=>whnf);refine jO hb60 rfl ?_;(conv=>whnf);refine jI (A48.ext (xt E3 hY)) i rfl hp ?_;intro b62 o62 ha62 hb62;(conv=>whnf);refine jA (n:=2) hb62 rfl ?_;(conv=>whnf);refine SemK.buildSlice mk_112 (vs:=[Value.agg p.enc.toArray]) (by rfl) (by rfl) (by simp [Value.cells,TPass.enc]) (by decide) ?_;intro b63 w63 g63 l63 e63 B63;have G63:=Grow.of_blk (n:=1) (enc:=TPass.enc) (xs:=[p]) TPass.enc_len B63 g63 rfl (by decide);(conv=>whnf);refine SemK.appendArr0 (enc:=TPass.enc) mk_112 TPass.enc_len (hG.ext e63) (G63.own.arr TPass.enc_len) (by intro y _;simp [TPass.enc,cellish]) (by omega) (by omega) (Below.size (xt hY e63)) ?_;intro a64 c64 w64 G64 m64 i64;(conv=>whnf);refine SemK.add (((j+1:Nat):Int)) (by omega) (by omega) (by omega) ?_;(conv=>whnf);refine ⟨j+1,by omega,_,_,rfl,by omega,?_,(xm (xt hY e63) m64 (blkIn_new hG.new))⟩
          · rw [hnt];exact G64
        · obtain rfl:j=best.length:=by omega
          rw [List.take_of_length_le (by omega)] at hG;(conv=>whnf);refine IfB.no (by omega) ?_;(conv=>whnf);exact ⟨_,_,_,rfl,hG.own.arr TPass.enc_len,xt EW hY⟩
  · have he:fewM xs f=([],(keysM xs f).2):=by simp [fewM,hz]
    rw [he];refine oV Tryz.func69 ?_;conv=>whnf
    refine SemK.box ?_;intro b1 w1 g1 l1 e1 B1;(conv=>whnf);refine jA (n:=2) B1.cells rfl ?_;(conv=>whnf);refine (hS _ e1).mono ?_;rintro _ w3 ⟨rfl,e2⟩;(conv=>whnf);refine IfB.eqt (by simp [*];done) ?_;(conv=>whnf);refine ⟨_,_,_,rfl,?_,(xt e1 e2)⟩
    · exact Arr.nil
end Go.Proofs.YthadkoinmohmlaaGreatDoor
