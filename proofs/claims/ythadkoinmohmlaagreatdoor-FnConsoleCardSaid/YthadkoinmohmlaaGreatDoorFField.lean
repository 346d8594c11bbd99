/- Contracts of functions of the given program, of the reference and of the laws: each says what a call returns, for all arguments that meet the premises that the theorem itself names. -/
import Derived.Test.YthadkoinmohmlaaGreatDoorDraw
import Derived.Test.YthadkoinmohmlaaGreatDoorBasics
import Derived.Test.YthadkoinmohmlaaGreatDoorVcApp
import Derived.Test.YthadkoinmohmlaaGreatDoorDeal
namespace Go.M
open Go Go.Vc
theorem TField.flat {x:TField} (h:x.ok):Flat [false,false] x.enc:=by
  obtain ⟨h0,h1⟩:=h;exact ⟨_,_,rfl,h0,⟨_,_,rfl,h1,rfl⟩⟩
end Go.M
namespace Go.Proofs.YthadkoinmohmlaaGreatDoor
open Go Go.RowKit Go.Vc Go.M
end Go.Proofs.YthadkoinmohmlaaGreatDoor
namespace Go.M
open Go Go.Vc
theorem numOf_12 {l:List Int} {n:Int} (h:numOf l=some n) (hl:l.length≤12) : -999999999999≤n∧n≤999999999999+0:=by
  unfold numOf at h;cases hg:l.getLast? with
  | none =>
    rw [hg] at h;simp at h;omega
  | some m =>
    rw [hg] at h;simp only at h;have h2:=digitM_b (bareM m);split at h
    · split at h
      · cases h
      · rename_i n0 b0 hf;have hlen:l.dropLast.length≤11:=by rw [List.length_dropLast];omega
        have h1:=numFold_b _ 0 false 0 (by omega) (by omega) _ _ hf;have h3:(10:Int) ^ (0+l.dropLast.length)≤10 ^ 11:=by
          have:=Nat.pow_le_pow_right (show 0<10 by omega) (show 0+l.dropLast.length≤11 by omega);have h4:((10 ^ (0+l.dropLast.length):Nat):Int)≤((10 ^ 11:Nat):Int):=by exact_mod_cast this
          simpa using h4
        have h5:(10:Int) ^ 11=100000000000:=by decide
        split at h
        · cases h
        split at h
        · cases h
        · simp only [Option.some.injEq] at h;omega
    · split at h
      · cases h
      · rename_i n0 b0 hf;have h1:=num_small hf hl;simp only [Option.some.injEq] at h;first | omega | (split at h<;>first | (cases h;done) | (simp only [Option.some.injEq] at h;omega))
theorem TField.eq_zero (x:TField):flatEq x.enc [.int .i64 0,.int .i64 0]=decide (x.from_=0∧x.to_=0):=by
  by_cases h1:x.from_=0<;>by_cases h2:x.to_=0<;>simp [flatEq,TField.enc,h1,h2]
theorem part12 {c:List Int} {f:TField} (hf:numFieldB f c.length=true):(partOf c f).length≤12∧fieldB f c.length=true:=by
  simp only [numFieldB,Bool.and_eq_true,decide_eq_true_eq] at hf;have:=fieldB_b hf.1;exact ⟨by rw [partOf_len hf.1];omega,hf.1⟩
theorem sumM_take {d:List (List Int)} {f:TField} {k:Nat} {c:List Int} {n:Int} (hc:d[k]? = some c) (hn:numOf (partOf c f)=some n):sumM (d.take (k+1)) f=sumM (d.take k) f+n:=by
  unfold sumM;rw [numsM_take hc hn,List.foldl_append];rfl
theorem numsB_bad {d:List (List Int)} {f:TField} {k:Nat} {c:List Int} (hc:d[k]? = some c) (hn:numOf (partOf c f)=none):numsB d f=false:=by
  unfold numsB;have:(d.any fun c=>(numOf (partOf c f)).isNone)=true:=List.any_eq_true.2 ⟨c,List.mem_of_getElem? hc,by rw [hn];rfl⟩;rw [this];rfl
theorem numsB_all {d:List (List Int)} {f:TField} (h:∀ c∈d,(numOf (partOf c f)).isSome=true):numsB d f=true:=by
  unfold numsB;have:(d.any fun c=>(numOf (partOf c f)).isNone)=false:=by
    rw [List.any_eq_false];intro c hc;have:=h c hc;cases hn:numOf (partOf c f) with
    | none=>rw [hn] at this;cases this
    | some x=>simp
  rw [this];rfl
theorem numsB_mem {d:List (List Int)} {f:TField} (h:numsB d f=true):∀ c∈d,(numOf (partOf c f)).isSome=true:=by
  intro c hc;cases hn:numOf (partOf c f) with
  | none =>
    obtain ⟨k,hk⟩:=List.mem_iff_getElem?.1 hc;rw [numsB_bad hk hn] at h;cases h
  | some x=>rfl
theorem sumM_b {d:List (List Int)} {f:TField} (h12:∀ c∈d,(partOf c f).length≤12) (h40:d.length≤40) : -40000000000000≤sumM d f∧sumM d f≤40000000000000:=by
  have key:∀ (d:List (List Int)) (a:Int),(∀ c∈d,(partOf c f).length≤12)→a - 1000000000000 * d.length≤(numsM d f).foldl (· + ·) a∧(numsM d f).foldl (· + ·) a≤a+1000000000000 * d.length:=by
    intro d;induction d with
    | nil=>intro a _;simp [numsM]
    | cons c cs ih =>
      intro a h;unfold numsM;rw [List.filterMap_cons];cases hn:numOf (partOf c f) with
      | none =>
        have:=ih a fun c hc=>h c (List.mem_cons_of_mem _ hc);unfold numsM at this;simp only [List.length_cons];omega
      | some n =>
        have hb:=numOf_12 hn (h c (by simp));have:=ih (a+n) fun c hc=>h c (List.mem_cons_of_mem _ hc);unfold numsM at this;simp only [List.foldl_cons,List.length_cons];omega
  have:=key d 0 h12;unfold sumM;omega
theorem group_ok {d:List (List Int)} {f:TField} {k:Nat} {g:List (List Int)} (h:(groupsM d f)[k]? = some g):g≠[]∧g.length≤d.length∧∀ c∈g,c∈d:=by
  unfold groupsM at h;rw [List.getElem?_map] at h;have hk:k<(starts (d.map (ckey f))).length:=by
    rcases Nat.lt_or_ge k (starts (d.map (ckey f))).length with hk | hk
    · exact hk
    · rw [List.getElem?_eq_none (by simpa using hk)] at h;cases h
  rw [List.getElem?_range hk,Option.map_some,Option.some.injEq] at h;have hs:(starts (d.map (ckey f)))[k]? = some ((starts (d.map (ckey f))).getD k 0):=by
    rw [List.getD_eq_getElem?_getD,List.getElem?_eq_getElem hk];rfl
  have he:=end_le hs;rw [List.length_map] at he;generalize (starts (d.map (ckey f))).getD k 0=s0 at hs he h;subst h;refine ⟨fun hc=>?_,?_,fun c hc=>List.mem_of_mem_drop (List.mem_of_mem_take hc)⟩
  · have:=congrArg List.length hc;simp at this;omega
  · simp;omega
end Go.M
namespace Go.Proofs.YthadkoinmohmlaaGreatDoor
open Go Go.RowKit Go.Vc Go.M
theorem impl_sumsOf {w:World} {a b:Option Addr} {n c d:Nat} {xs:List (List Int)} (h:ArrS RCard w a n xs) {f:TField} (hA:Arr TField.enc 2 w b 1 [f]) (hd:deckB xs=true) (hf:numFieldB f (widthOf xs)=true) :
    Does Tryz.prog 207 [.slice b 1 d,.slice a n c] w (fun v w'=>∃ a' n' c',v = .tuple #[.slice a' n' c',.bool (numsB xs f)]∧(numsB xs f=true→n'=1∧NewAt w.heap.size a'∧Own eI w' a' 1 2 [sumM xs f])∧Ext w w'):=by
  have hn:=h.len;have hm:=h.le;have hdm:=deckB_mem hd;have hfx:∀ x∈xs,numFieldB f x.length=true:=fun x hx=>by rw [(hdm.2 x hx).2];exact hf
  have hmk:∀ x∈xs,∀ m∈x,0≤m∧m≤4095:=fun x hx=>(cardB_b (hdm.2 x hx).1).2.2;have h40:=hdm.1;have hN:∀ u d x,x∈xs→RCard u d x→Does Tryz.prog 275 [.agg ⟨eH d⟩,.agg ⟨f.enc⟩] u (fun v w'=>v = .tuple #[.int .i64 (numInM (partOf x f)).1,.bool (numInM (partOf x f)).2]∧Ext u w'):=fun u d x hx R=>impl_numberIn R (hmk x hx) (hfx x hx);obtain ⟨hs,hV,hE⟩:=h;have hl:=hV.len;refine oV Tryz.func207 ?_;conv=>whnf
  refine bS mk_62 (vs:=[]) ?_;intro b41 w41 g41 l41 e41 B41;have G41:=Grow.new0 (enc:=eI) eI_len B41 g41;(conv=>whnf);refine lR [1,6,15,16,17] (fun (k:Nat) vs w'=>∃ a3 c3,vs=[.slice a n c,.slice a3 k c3,.slice b 1 d,.int .i64 (1:Nat),.int .i64 k]∧k≤1∧Grow eI 1 w.heap.size 2 w' a3 k c3 (if k=0 then [] else [sumM xs f])∧(k=1→numsB xs f=true)∧Ext w w') (fun k=>1 - k) 0 ⟨_,_,rfl,by omega,by simpa using G41,by omega,e41⟩ ?_;rintro k g _ w2 ⟨a3,c3,rfl,hk,hG,hk1,hX⟩;rcases Nat.lt_or_ge k 1 with hkn | hkn
  · obtain rfl:k=0:=by omega
    have hfe:([f]:List TField)[0]? = some f:=rfl;have hAx:=hA.ext hX;simp only [if_true] at hG;(conv=>whnf);refine jI hAx 0 rfl hfe ?_;intro b3 o3 ha3 hb3;(conv=>whnf);refine jA (n:=2) hb3 rfl ?_;(conv=>whnf);refine jN (z := .agg #[.int .i64 0,.int .i64 0]) ?_;intro b4 w4 g4 l4 e4 B4;(conv=>whnf);refine jS (vs:=[Value.int .i64 f.from_,Value.int .i64 f.to_]) B4 rfl rfl (by simp [cellish]) ?_;intro w5 c5 B5;have B5:Blk w5 b4 f.enc _:=B5;have E5:Ext w2 w5:=xb e4 c5.but g4;(conv=>whnf);refine lR [1,6,8,9,15,16,17,21,22,23] (fun (j:Nat) vs w'=>vs=[.slice a n c,.slice a3 0 c3,.pointer (some ⟨b4,0,none⟩),.int .i64 (sumM (xs.take j) f),.slice b 1 d,.int .i64 (1:Nat),.int .i64 (0:Nat),.slice a n c,.int .i64 n,.int .i64 j]∧j≤n∧(∀ c∈xs.take j,(numOf (partOf c f)).isSome=true)∧Ext w5 w') (fun j=>n - j) 0 ⟨rfl,by omega,by simp,Ext.refl _⟩ ?_;rintro j g _ w6 ⟨rfl,hj,hall,hY⟩;have hYw:=xt (xt hX E5) hY;rcases Nat.lt_or_ge j n with hjn | hjn
    · obtain ⟨q,hq⟩:=get_of_lt (l:=hs) (k:=j) (by omega);obtain ⟨x,hx,R⟩:=hE.get hq;have hxm:=List.mem_of_getElem? hx;have hNx:∀ u,Ext w u→Does Tryz.prog 275 [.agg ⟨eH q⟩,.agg ⟨f.enc⟩] u (fun v w'=>v = .tuple #[.int .i64 (numInM (partOf x f)).1,.bool (numInM (partOf x f)).2]∧Ext u w'):=fun u e=>hN u q x hxm ⟨R.1.ext e,R.2⟩;have hp12:=part12 (hfx x hxm);rcases numIn_cases (partOf x f) with hno | ⟨z,hyes,hz⟩
      · rw [hno] at hNx;have hnone:numOf (partOf x f)=none:=by
          unfold numInM at hno;split at hno
          · assumption
          · cases hno
        rw [numsB_bad hx hnone];(conv=>whnf);refine IfB.yes (by omega) ?_;(conv=>whnf);refine jI (hV.ext hYw) j rfl hq ?_;intro b43 o43 ha43 hb43;(conv=>whnf);refine jA (n:=1) hb43 rfl ?_;(conv=>whnf);refine jN (z := .agg #[.slice none 0 0]) ?_;intro b44 w44 g44 l44 e44 B44;(conv=>whnf);refine jS (vs:=[Value.slice q.a q.n q.c]) B44 rfl rfl (by simp [cellish]) ?_;intro w45 c45 B45;(conv=>whnf);refine jA (n:=1) B45.cells rfl ?_;(conv=>whnf);refine jA (n:=2) (B5.ext (xb (xt hY e44) c45.but (Nat.le_trans (Below.size hY) g44))).cells rfl ?_;(conv=>whnf);refine (hNx _ (xb (xt hYw e44) c45.but (Nat.le_trans (Below.size hYw) g44))).mono ?_;rintro _ w47 ⟨rfl,e46⟩;(conv=>whnf);exact ⟨_,_,_,rfl,by simp [*],(xt (xb (xt hYw e44) c45.but (Nat.le_trans (Below.size hYw) g44)) e46)⟩
      · rw [hyes] at hNx;have hz12:=numOf_12 hz hp12.1;have hsb:=sumM_b (d:=xs.take j) (f:=f) (fun c hc=>(part12 (hfx c (List.mem_of_mem_take hc))).1) (by rw [List.length_take];omega);have hst:=sumM_take hx hz;have hnext:=all_next (p:=fun c=>(numOf (partOf c f)).isSome=true) hx hall (by rw [hz];rfl);(conv=>whnf);refine IfB.yes (by omega) ?_;(conv=>whnf);refine jI (hV.ext hYw) j rfl hq ?_;intro b43 o43 ha43 hb43;(conv=>whnf);refine jA (n:=1) hb43 rfl ?_;(conv=>whnf);refine jN (z := .agg #[.slice none 0 0]) ?_;intro b44 w44 g44 l44 e44 B44;(conv=>whnf);refine jS (vs:=[Value.slice q.a q.n q.c]) B44 rfl rfl (by simp [cellish]) ?_;intro w45 c45 B45;(conv=>whnf);refine jA (n:=1) B45.cells rfl ?_;(conv=>whnf);refine jA (n:=2) (B5.ext (xb (xt hY e44) c45.but (Nat.le_trans (Below.size hY) g44))).cells rfl ?_;(conv=>whnf);refine (hNx _ (xb (xt hYw e44) c45.but (Nat.le_trans (Below.size hYw) g44))).mono ?_;rintro _ w47 ⟨rfl,e46⟩;(conv=>whnf);refine SemK.add (sumM (List.take j xs) f+z) rfl (by omega) (by omega) ?_;(conv=>whnf);refine SemK.add (((j+1:Nat):Int)) (by omega) (by omega) (by omega) ?_;(conv=>whnf);refine ⟨j+1,by omega,by rw [hst];rfl,by omega,hnext,(xt (xb (xt hY e44) c45.but (Nat.le_trans (Below.size hY) g44)) e46)⟩
    · obtain rfl:j=n:=by omega
      have hnb:=numsB_all (all_done (show xs.length≤j by omega) hall);have hsb:=sumM_b (d:=xs) (f:=f) (fun c hc=>(part12 (hfx c hc)).1) h40;rw [List.take_of_length_le (by omega)];(conv=>whnf);refine IfB.no (by omega) ?_;(conv=>whnf);refine bS mk_62 (vs:=[Value.int IntKind.i64 (sumM xs f)]) ?_;intro b42 w42 g42 l42 e42 B42;have G42:=Grow.of_blk (n:=1) (enc:=eI) (xs:=[sumM xs f]) eI_len B42 g42 rfl (by decide);(conv=>whnf);refine SemK.appendNew (enc:=eI) mk_62 eI_len (hG.ext (xt (xt E5 hY) e42)) (G42.own.arr eI_len) (by intro y _;simp [eI,cellish]) (by omega) (by omega) (Below.size (xt hYw e42)) ?_;intro a43 c43 w43 G43 m43 i43;(conv=>whnf);refine SemK.add (((0+1:Nat):Int)) (by omega) (by omega) (by omega) ?_;(conv=>whnf);exact ⟨1,by omega,_,_,rfl,by omega,by simpa using G43,fun _=>hnb,xm (xt hYw e42) m43 (blkIn_new hG.new)⟩
  · obtain rfl:k=1:=by omega
    rw [hk1 rfl];(conv=>whnf);refine ⟨_,_,_,rfl,?_,hX⟩
    · exact fun _=>⟨rfl,hG.new,by simpa using hG.own⟩
theorem impl_takesTwo (k:Int) (w:World):Does Tryz.prog 210 [.int .i64 k] w (fun v w'=>v = .bool (twoB k)∧w=w'):=by
  refine oV Tryz.func210 ?_;conv=>whnf
  refine (impl_inside _ _ _ _).mono ?_;rintro _ _ ⟨rfl,rfl⟩;(conv=>whnf);exact ⟨rfl,rfl⟩
theorem impl_ValidStep {x:TStep} (hx:x.ok) {width:Int} (h0:i64ok width) (w:World):Does Tryz.prog 276 [.agg ⟨x.enc⟩,.int .i64 width] w (fun v w'=>v = .bool (stepB x width)∧Ext w w'):=by
  have hwr:fieldB x.field width=true→inB width 1 20=true→IntKind.i64.wrap (x.field.to_ - x.field.from_)=x.field.to_ - x.field.from_:=fun h1 h2=>by
    have:=fieldB_b h1;have:=inB_true h2;exact i64_wrap (by omega) (by omega)
  have ht0:(x.text=(⟨#[]⟩:ByteArray))=(x.text.size=0):=by
    refine propext ⟨fun h=>by rw [h];rfl,fun h=>?_⟩;apply bytes_ext;have h2:x.text.data.toList.length=0:=by simpa using h
    rw [List.eq_nil_of_length_eq_zero h2]
  refine oV Tryz.func276 ?_;conv=>whnf
  refine SemK.box ?_;intro b1 w1 g1 l1 e1 B1;(conv=>whnf);refine (impl_inside _ _ _ _).mono ?_;rintro _ _ ⟨rfl,rfl⟩;(conv=>whnf);with_reducible refine IfB.nsplit (fun h3=>?_) (fun h3=>?_)
  · (conv=>whnf);refine ⟨?_,e1⟩
    · exact congrArg Value.bool (by first | (simp [stepB, *];done) | (simp_all [stepB,twoB,inB];done))
  · (conv=>whnf);have hi3:=inB_true h3;refine jL B1.cells (k:=0) rfl ?_;(conv=>whnf);refine (impl_inside _ _ _ _).mono ?_;rintro _ _ ⟨rfl,rfl⟩;(conv=>whnf);with_reducible refine IfB.nsplit (fun h5=>?_) (fun h5=>?_)
    · (conv=>whnf);refine ⟨?_,e1⟩
      · exact congrArg Value.bool (by first | (simp [stepB, *];done) | (simp_all [stepB,twoB,inB];done))
    · (conv=>whnf);have hi5:=inB_true h5;refine jL B1.cells (k:=1) rfl ?_;(conv=>whnf);refine (impl_isTray _ _).mono ?_;rintro _ _ ⟨rfl,rfl⟩;(conv=>whnf);with_reducible refine IfB.nsplit (fun h7=>?_) (fun h7=>?_)
      · (conv=>whnf);refine ⟨?_,e1⟩
        · exact congrArg Value.bool (by first | (simp [stepB, *];done) | (simp_all [stepB,twoB,inB];done))
      · (conv=>whnf);have hi7:=inB_true h7;refine jL B1.cells (k:=2) rfl ?_;(conv=>whnf);refine (impl_isTray _ _).mono ?_;rintro _ _ ⟨rfl,rfl⟩;(conv=>whnf);with_reducible refine IfB.nsplit (fun h9=>?_) (fun h9=>?_)
        · (conv=>whnf);refine ⟨?_,e1⟩
          · exact congrArg Value.bool (by first | (simp [stepB, *];done) | (simp_all [stepB,twoB,inB];done))
        · (conv=>whnf);have hi9:=inB_true h9;refine jL B1.cells (k:=3) rfl ?_;(conv=>whnf);refine (impl_isTray _ _).mono ?_;rintro _ _ ⟨rfl,rfl⟩;(conv=>whnf);with_reducible refine IfB.nsplit (fun h11=>?_) (fun h11=>?_)
          · (conv=>whnf);refine ⟨?_,e1⟩
            · exact congrArg Value.bool (by first | (simp [stepB, *];done) | (simp_all [stepB,twoB,inB];done))
          · (conv=>whnf);have hi11:=inB_true h11;refine jL B1.cells (k:=2) rfl ?_;(conv=>whnf);with_reducible refine IfB.ndec (fun h12=>?_) (fun h12=>?_)
            · (conv=>whnf);refine jL B1.cells (k:=0) rfl ?_;(conv=>whnf);refine (impl_takesTwo _ _).mono ?_;rintro _ _ ⟨rfl,rfl⟩;(conv=>whnf);with_reducible refine IfB.nsplit (fun h14=>?_) (fun h14=>?_)
              · (conv=>whnf);refine ⟨?_,e1⟩
                · exact congrArg Value.bool (by first | (simp [stepB, *];done) | (simp_all [stepB,twoB,inB];done))
              · (conv=>whnf);refine jL B1.cells (k:=3) rfl ?_;(conv=>whnf);with_reducible refine IfB.ndec (fun h15=>?_) (fun h15=>?_)
                · (conv=>whnf);refine jL B1.cells (k:=0) rfl ?_;(conv=>whnf);with_reducible refine IfB.dec (fun h16=>?_) (fun h16=>?_)
                  · (conv=>whnf);refine ⟨?_,e1⟩
                    · exact congrArg Value.bool (by first | (simp [stepB, *];done) | (simp_all [stepB,twoB,inB];done))
                  · (conv=>whnf);refine jG (n:=2) (k:=4) B1.cells rfl ?_;(conv=>whnf);refine (impl_isField _ _ _).mono ?_;rintro _ w18 ⟨rfl,e17⟩;(conv=>whnf);with_reducible refine IfB.nsplit (fun h19=>?_) (fun h19=>?_)
                    · (conv=>whnf);refine ⟨?_,(xt e1 e17)⟩
                      · exact congrArg Value.bool (by first | (simp [stepB, *];done) | (simp_all [stepB,twoB,inB];done))
                    · (conv=>whnf);refine jL (B1.ext e17).cells (k:=0) rfl ?_;(conv=>whnf);refine IfB.no (by omega) ?_;(conv=>whnf);refine jL (B1.ext e17).cells (k:=0) rfl ?_;(conv=>whnf);refine IfB.eqt (by simp [*];done) ?_;(conv=>whnf);refine jG (n:=2) (k:=6) (B1.ext e17).cells rfl ?_;(conv=>whnf);refine SemK.build st_105 rfl ?_;(conv=>whnf);refine SemK.neqFlat (ks:=[false,false]) (xs:=x.sum.enc) (ys:=(TField.mk 0 0).enc) (by kernel_rfl) (by kernel_rfl) (TField.flat hx.2.2.2.2.2.1) (TField.flat ⟨by unfold i64ok;decide,by unfold i64ok;decide⟩) ?_;rw [show flatEq x.sum.enc (TField.mk 0 0).enc=_ from TField.eq_zero x.sum];(conv=>whnf);with_reducible refine IfB.ndec (fun h20=>?_) (fun h20=>?_)
                      · (conv=>whnf);refine ⟨?_,(xt e1 e17)⟩
                        · exact congrArg Value.bool (by first | (simp [stepB, *];done) | (simp_all [stepB,twoB,inB];done))
                      · (conv=>whnf);refine jL (B1.ext e17).cells (k:=0) rfl ?_;(conv=>whnf);with_reducible refine IfB.dec (fun h21=>?_) (fun h21=>?_)
                        · (conv=>whnf);refine jL (B1.ext e17).cells (k:=8) rfl ?_;(conv=>whnf);refine (impl_areCharacters _ hx.2.2.2.2.2.2 _).mono ?_;rintro _ w23 ⟨rfl,e22⟩;(conv=>whnf);with_reducible refine IfB.split (fun h24=>?_) (fun h24=>?_)
                          · (conv=>whnf);refine jL (B1.ext (xt e17 e22)).cells (k:=8) rfl ?_;(conv=>whnf);refine jL (B1.ext (xt e17 e22)).cells (k:=5) rfl ?_;(conv=>whnf);refine jL (B1.ext (xt e17 e22)).cells (k:=4) rfl ?_;(conv=>whnf);refine SemK.wsub ?_;(conv=>whnf);refine ⟨?_,(xt (xt e1 e17) e22)⟩
                            · exact congrArg Value.bool (by first | (simp [stepB, *];done) | (simp_all [stepB,twoB,inB];done))
                          · (conv=>whnf);refine ⟨?_,(xt (xt e1 e17) e22)⟩
                            · exact congrArg Value.bool (by first | (simp [stepB, *];done) | (simp_all [stepB,twoB,inB];done))
                        · (conv=>whnf);refine jL (B1.ext e17).cells (k:=8) rfl ?_;(conv=>whnf);refine ⟨?_,(xt e1 e17)⟩
                          · exact congrArg Value.bool (by first | (simp [stepB, *];done) | (simp_all [stepB,twoB,inB];done))
                · (conv=>whnf);refine jG (n:=2) (k:=4) B1.cells rfl ?_;(conv=>whnf);refine (impl_isField _ _ _).mono ?_;rintro _ w21 ⟨rfl,e20⟩;(conv=>whnf);with_reducible refine IfB.nsplit (fun h22=>?_) (fun h22=>?_)
                  · (conv=>whnf);refine ⟨?_,(xt e1 e20)⟩
                    · exact congrArg Value.bool (by first | (simp [stepB, *];done) | (simp_all [stepB,twoB,inB];done))
                  · (conv=>whnf);refine jL (B1.ext e20).cells (k:=0) rfl ?_;(conv=>whnf);with_reducible refine IfB.dec (fun h23=>?_) (fun h23=>?_)
                    · (conv=>whnf);refine jG (n:=2) (k:=6) (B1.ext e20).cells rfl ?_;(conv=>whnf);refine (impl_isNumberField hx.2.2.2.2.2.1 (by omega) (by omega) _).mono ?_;rintro _ w25 ⟨rfl,e24⟩;(conv=>whnf);with_reducible refine IfB.nsplit (fun h26=>?_) (fun h26=>?_)
                      · (conv=>whnf);refine ⟨?_,(xt (xt e1 e20) e24)⟩
                        · exact congrArg Value.bool (by first | (simp [stepB, *];done) | (simp_all [stepB,twoB,inB];done))
                      · (conv=>whnf);refine jL (B1.ext (xt e20 e24)).cells (k:=0) rfl ?_;(conv=>whnf);refine IfB.eqf (by simp [*];done) ?_;(conv=>whnf);refine jL (B1.ext (xt e20 e24)).cells (k:=0) rfl ?_;(conv=>whnf);refine IfB.no (by omega) ?_;(conv=>whnf);refine jL (B1.ext (xt e20 e24)).cells (k:=8) rfl ?_;(conv=>whnf);refine ⟨?_,(xt (xt e1 e20) e24)⟩
                        · exact congrArg Value.bool (by first | (simp [stepB, *];done) | (simp_all [stepB,twoB,inB];done))
                    · (conv=>whnf);refine jL (B1.ext e20).cells (k:=0) rfl ?_;(conv=>whnf);refine IfB.eqt (by simp [*];done) ?_;(conv=>whnf);refine jG (n:=2) (k:=6) (B1.ext e20).cells rfl ?_;(conv=>whnf);refine SemK.build st_105 rfl ?_;(conv=>whnf);refine SemK.neqFlat (ks:=[false,false]) (xs:=x.sum.enc) (ys:=(TField.mk 0 0).enc) (by kernel_rfl) (by kernel_rfl) (TField.flat hx.2.2.2.2.2.1) (TField.flat ⟨by unfold i64ok;decide,by unfold i64ok;decide⟩) ?_;rw [show flatEq x.sum.enc (TField.mk 0 0).enc=_ from TField.eq_zero x.sum];(conv=>whnf);with_reducible refine IfB.ndec (fun h24=>?_) (fun h24=>?_)
                      · (conv=>whnf);refine ⟨?_,(xt e1 e20)⟩
                        · exact congrArg Value.bool (by first | (simp [stepB, *];done) | (simp_all [stepB,twoB,inB];done))
                      · (conv=>whnf);refine jL (B1.ext e20).cells (k:=0) rfl ?_;(conv=>whnf);with_reducible refine IfB.dec (fun h25=>?_) (fun h25=>?_)
                        · (conv=>whnf);refine jL (B1.ext e20).cells (k:=8) rfl ?_;(conv=>whnf);refine (impl_areCharacters _ hx.2.2.2.2.2.2 _).mono ?_;rintro _ w27 ⟨rfl,e26⟩;(conv=>whnf);with_reducible refine IfB.split (fun h28=>?_) (fun h28=>?_)
                          · (conv=>whnf);refine jL (B1.ext (xt e20 e26)).cells (k:=8) rfl ?_;(conv=>whnf);refine jL (B1.ext (xt e20 e26)).cells (k:=5) rfl ?_;(conv=>whnf);refine jL (B1.ext (xt e20 e26)).cells (k:=4) rfl ?_;(conv=>whnf);refine SemK.wsub ?_;(conv=>whnf);refine ⟨?_,(xt (xt e1 e20) e26)⟩
                            · exact congrArg Value.bool (by first | (simp [stepB, *];done) | (simp_all [stepB,twoB,inB];done))
                          · (conv=>whnf);refine ⟨?_,(xt (xt e1 e20) e26)⟩
                            · exact congrArg Value.bool (by first | (simp [stepB, *];done) | (simp_all [stepB,twoB,inB];done))
                        · (conv=>whnf);refine jL (B1.ext e20).cells (k:=8) rfl ?_;(conv=>whnf);refine ⟨?_,(xt e1 e20)⟩
                          · exact congrArg Value.bool (by first | (simp [stepB, *];done) | (simp_all [stepB,twoB,inB];done))
            · (conv=>whnf);refine jL B1.cells (k:=3) rfl ?_;(conv=>whnf);with_reducible refine IfB.ndec (fun h27=>?_) (fun h27=>?_)
              · (conv=>whnf);refine jL B1.cells (k:=0) rfl ?_;(conv=>whnf);with_reducible refine IfB.dec (fun h28=>?_) (fun h28=>?_)
                · (conv=>whnf);refine ⟨?_,e1⟩
                  · exact congrArg Value.bool (by first | (simp [stepB, *];done) | (simp_all [stepB,twoB,inB];done))
                · (conv=>whnf);refine jG (n:=2) (k:=4) B1.cells rfl ?_;(conv=>whnf);refine (impl_isField _ _ _).mono ?_;rintro _ w30 ⟨rfl,e29⟩;(conv=>whnf);with_reducible refine IfB.nsplit (fun h31=>?_) (fun h31=>?_)
                  · (conv=>whnf);refine ⟨?_,(xt e1 e29)⟩
                    · exact congrArg Value.bool (by first | (simp [stepB, *];done) | (simp_all [stepB,twoB,inB];done))
                  · (conv=>whnf);refine jL (B1.ext e29).cells (k:=0) rfl ?_;(conv=>whnf);refine IfB.no (by omega) ?_;(conv=>whnf);refine jL (B1.ext e29).cells (k:=0) rfl ?_;(conv=>whnf);refine IfB.eqt (by simp [*];done) ?_;(conv=>whnf);refine jG (n:=2) (k:=6) (B1.ext e29).cells rfl ?_;(conv=>whnf);refine SemK.build st_105 rfl ?_;(conv=>whnf);refine SemK.neqFlat (ks:=[false,false]) (xs:=x.sum.enc) (ys:=(TField.mk 0 0).enc) (by kernel_rfl) (by kernel_rfl) (TField.flat hx.2.2.2.2.2.1) (TField.flat ⟨by unfold i64ok;decide,by unfold i64ok;decide⟩) ?_;rw [show flatEq x.sum.enc (TField.mk 0 0).enc=_ from TField.eq_zero x.sum];(conv=>whnf);with_reducible refine IfB.ndec (fun h32=>?_) (fun h32=>?_)
                    · (conv=>whnf);refine ⟨?_,(xt e1 e29)⟩
                      · exact congrArg Value.bool (by first | (simp [stepB, *];done) | (simp_all [stepB,twoB,inB];done))
                    · (conv=>whnf);refine jL (B1.ext e29).cells (k:=0) rfl ?_;(conv=>whnf);with_reducible refine IfB.dec (fun h33=>?_) (fun h33=>?_)
                      · (conv=>whnf);refine jL (B1.ext e29).cells (k:=8) rfl ?_;(conv=>whnf);refine (impl_areCharacters _ hx.2.2.2.2.2.2 _).mono ?_;rintro _ w35 ⟨rfl,e34⟩;(conv=>whnf);with_reducible refine IfB.split (fun h36=>?_) (fun h36=>?_)
                        · (conv=>whnf);refine jL (B1.ext (xt e29 e34)).cells (k:=8) rfl ?_;(conv=>whnf);refine jL (B1.ext (xt e29 e34)).cells (k:=5) rfl ?_;(conv=>whnf);refine jL (B1.ext (xt e29 e34)).cells (k:=4) rfl ?_;(conv=>whnf);refine SemK.wsub ?_;(conv=>whnf);refine ⟨?_,(xt (xt e1 e29) e34)⟩
                          · exact congrArg Value.bool (by first | (simp [stepB, *];done) | (simp_all [stepB,twoB,inB];done))
                        · (conv=>whnf);refine ⟨?_,(xt (xt e1 e29) e34)⟩
                          · exact congrArg Value.bool (by first | (simp [stepB, *];done) | (simp_all [stepB,twoB,inB];done))
                      · (conv=>whnf);refine jL (B1.ext e29).cells (k:=8) rfl ?_;(conv=>whnf);refine ⟨?_,(xt e1 e29)⟩
                        · exact congrArg Value.bool (by first | (simp [stepB, *];done) | (simp_all [stepB,twoB,inB];done))
              · (conv=>whnf);refine jG (n:=2) (k:=4) B1.cells rfl ?_;(conv=>whnf);refine (impl_isField _ _ _).mono ?_;rintro _ w33 ⟨rfl,e32⟩;(conv=>whnf);with_reducible refine IfB.nsplit (fun h34=>?_) (fun h34=>?_)
                · (conv=>whnf);refine ⟨?_,(xt e1 e32)⟩
                  · exact congrArg Value.bool (by first | (simp [stepB, *];done) | (simp_all [stepB,twoB,inB];done))
                · (conv=>whnf);refine jL (B1.ext e32).cells (k:=0) rfl ?_;(conv=>whnf);with_reducible refine IfB.dec (fun h35=>?_) (fun h35=>?_)
                  · (conv=>whnf);refine jG (n:=2) (k:=6) (B1.ext e32).cells rfl ?_;(conv=>whnf);refine (impl_isNumberField hx.2.2.2.2.2.1 (by omega) (by omega) _).mono ?_;rintro _ w37 ⟨rfl,e36⟩;(conv=>whnf);with_reducible refine IfB.nsplit (fun h38=>?_) (fun h38=>?_)
                    · (conv=>whnf);refine ⟨?_,(xt (xt e1 e32) e36)⟩
                      · exact congrArg Value.bool (by first | (simp [stepB, *];done) | (simp_all [stepB,twoB,inB];done))
                    · (conv=>whnf);refine jL (B1.ext (xt e32 e36)).cells (k:=0) rfl ?_;(conv=>whnf);refine IfB.eqf (by simp [*];done) ?_;(conv=>whnf);refine jL (B1.ext (xt e32 e36)).cells (k:=0) rfl ?_;(conv=>whnf);refine IfB.no (by omega) ?_;(conv=>whnf);refine jL (B1.ext (xt e32 e36)).cells (k:=8) rfl ?_;(conv=>whnf);refine ⟨?_,(xt (xt e1 e32) e36)⟩
                      · exact congrArg Value.bool (by first | (simp [stepB, *];done) | (simp_all [stepB,twoB,inB];done))
                  · (conv=>whnf);refine jL (B1.ext e32).cells (k:=0) rfl ?_;(conv=>whnf);refine IfB.eqt (by simp [*];done) ?_;(conv=>whnf);refine jG (n:=2) (k:=6) (B1.ext e32).cells rfl ?_;(conv=>whnf);refine SemK.build st_105 rfl ?_;(conv=>whnf);refine SemK.neqFlat (ks:=[false,false]) (xs:=x.sum.enc) (ys:=(TField.mk 0 0).enc) (by kernel_rfl) (by kernel_rfl) (TField.flat hx.2.2.2.2.2.1) (TField.flat ⟨by unfold i64ok;decide,by unfold i64ok;decide⟩) ?_;rw [show flatEq x.sum.enc (TField.mk 0 0).enc=_ from TField.eq_zero x.sum];(conv=>whnf);with_reducible refine IfB.ndec (fun h36=>?_) (fun h36=>?_)
                    · (conv=>whnf);refine ⟨?_,(xt e1 e32)⟩
                      · exact congrArg Value.bool (by first | (simp [stepB, *];done) | (simp_all [stepB,twoB,inB];done))
                    · (conv=>whnf);refine jL (B1.ext e32).cells (k:=0) rfl ?_;(conv=>whnf);with_reducible refine IfB.dec (fun h37=>?_) (fun h37=>?_)
                      · (conv=>whnf);refine jL (B1.ext e32).cells (k:=8) rfl ?_;(conv=>whnf);refine (impl_areCharacters _ hx.2.2.2.2.2.2 _).mono ?_;rintro _ w39 ⟨rfl,e38⟩;(conv=>whnf);with_reducible refine IfB.split (fun h40=>?_) (fun h40=>?_)
                        · (conv=>whnf);refine jL (B1.ext (xt e32 e38)).cells (k:=8) rfl ?_;(conv=>whnf);refine jL (B1.ext (xt e32 e38)).cells (k:=5) rfl ?_;(conv=>whnf);refine jL (B1.ext (xt e32 e38)).cells (k:=4) rfl ?_;(conv=>whnf);refine SemK.wsub ?_;(conv=>whnf);refine ⟨?_,(xt (xt e1 e32) e38)⟩
                          · exact congrArg Value.bool (by first | (simp [stepB, *];done) | (simp_all [stepB,twoB,inB];done))
                        · (conv=>whnf);refine ⟨?_,(xt (xt e1 e32) e38)⟩
                          · exact congrArg Value.bool (by first | (simp [stepB, *];done) | (simp_all [stepB,twoB,inB];done))
                      · (conv=>whnf);refine jL (B1.ext e32).cells (k:=8) rfl ?_;(conv=>whnf);refine ⟨?_,(xt e1 e32)⟩
                        · exact congrArg Value.bool (by first | (simp [stepB, *];done) | (simp_all [stepB,twoB,inB];done))
end Go.Proofs.YthadkoinmohmlaaGreatDoor
