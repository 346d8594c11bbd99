/- Contracts of functions of the given program, of the reference and of the laws: each says what a call returns, for all arguments that meet the premises that the theorem itself names. -/
import Derived.Test.YthadkoinmohmlaaGreatDoorFField
import Derived.Test.YthadkoinmohmlaaGreatDoorJournalM
import Derived.Test.YthadkoinmohmlaaGreatDoorStab
import Derived.Test.YthadkoinmohmlaaGreatDoorDraw
import Derived.Test.YthadkoinmohmlaaGreatDoorDec
import Derived.Test.YthadkoinmohmlaaGreatDoorVcWrite
namespace Go.M
open Go Go.Vc
theorem group_deck {d:List (List Int)} {g:List (List Int)} (hd:deckB d=true) (h0:g≠[]) (hl:g.length≤d.length) (hg:∀ c∈g,c∈d):deckB g=true∧widthOf g=widthOf d:=by
  have hm:=deckB_mem hd;refine ⟨deckB_of (W:=widthOf d) (by omega) fun c hc=>hm.2 c (hg c hc),?_⟩;cases g with
  | nil=>exact absurd rfl h0
  | cons c cs=>exact (hm.2 c (hg c (by simp))).2
theorem groups_le (d:List (List Int)) (f:TField):(groupsM d f).length≤d.length:=by
  rw [groups_len];unfold starts startsN;refine Nat.le_trans (List.length_filter_le _ _) ?_;simp
theorem join_le {B:Nat} (sep:UInt8):∀ l:List (List UInt8),(∀ x∈l,x.length≤B)→(Lib.join l [sep]).length≤l.length * (B+1)
  | [],_=>by simp [Lib.join]
  | x :: xs,h=>by
    have key:∀ l:List (List UInt8),(∀ x∈l,x.length≤B)→(Lib.joinTail [sep] l).length≤l.length * (B+1):=by
      intro l;induction l with
      | nil=>intro _;simp [Lib.joinTail]
      | cons y ys ih =>
        intro h;have h1:=ih fun z hz=>h z (by simp [hz]);have h2:=h y (by simp);have h3:Lib.joinTail [sep] (y :: ys)=sep :: (y++Lib.joinTail [sep] ys):=by simp [Lib.joinTail]
        rw [h3,List.length_cons,List.length_append,List.length_cons,Nat.add_mul];omega
    have h1:=key xs fun z hz=>h z (by simp [hz]);have h2:=h x (by simp);rw [Lib.join_cons,List.length_append,List.length_cons,Nat.add_mul];omega
theorem map_take_next {α β:Type} {l:List α} {k:Nat} {x:α} (g:α→β) (h:l[k]? = some x):(l.take (k+1)).map g=(l.take k).map g++[g x]:=by
  rw [List.take_add_one,h];simp
theorem nums_group {d g:List (List Int)} {s:TField} (h:numsB d s=true) (hg:∀ c∈g,c∈d):numsB g s=true:=numsB_all fun c hc=>numsB_mem h c (hg c hc)
theorem have_mem {d:List (List Int)} {f:TField} (h:haveB d f=true):∀ c∈d,hasB (partOf c f)=true:=List.all_eq_true.1 h
theorem headD_at {g:List (List Int)} {c:List Int} (h:g[0]? = some c):g.headD []=c:=by
  cases g with
  | nil=>cases h
  | cons x xs=>simpa using h
theorem TField.enc_len (x:TField):(TField.enc x).length=2:=rfl
theorem arr_field {w:World} {b t:Nat} {s:TField} (B:Blk w b s.enc t):Arr TField.enc 2 w (some ⟨b,0,none⟩) 1 [s]:=by
  refine ⟨rfl,by unfold maxLen;omega,fun i x hi=>?_⟩;cases i with
  | zero=>simp at hi;subst hi;exact ⟨b,0,rfl,by simpa using B.cells⟩
  | succ i=>simp at hi
end Go.M
namespace Go.Proofs.YthadkoinmohmlaaGreatDoor
open Go Go.RowKit Go.Vc Go.M
theorem impl_totalsOf {w:World} {a:Option Addr} {n c:Nat} {xs:List (List Int)} (h:ArrS RCard w a n xs) (hnc:n≤c) {f s:TField} (hd:deckB xs=true) (hf:fieldB f (widthOf xs)=true) (hs:numFieldB s (widthOf xs)=true) :
    Does Tryz.prog 277 [.slice a n c,.agg ⟨f.enc⟩,.agg ⟨s.enc⟩] w (fun v w'=>∃ a' m c',v = .tuple #[.slice a' m c',.int .i64 (totListM xs f s).2]∧((totListM xs f s).2=0→NewAt w.heap.size a'∧m≤c'∧m≤40∧Own TTotal.enc w' a' m 255 (totListM xs f s).1)∧Ext w w'):=by
  have hn:=h.len;have hm:=h.le;have hdm:=deckB_mem hd;have h40:=hdm.1;have hfx:∀ x∈xs,fieldB f x.length=true:=fun x hx=>by rw [(hdm.2 x hx).2];exact hf
  have h20:∀ x∈xs,x.length≤20:=fun x hx=>(cardB_b (hdm.2 x hx).1).2.1;have hS:∀ u b d,Ext w u→Arr TField.enc 2 u b 1 [s]→Does Tryz.prog 207 [.slice b 1 d,.slice a n c] u (fun v w'=>∃ a' n' c',v = .tuple #[.slice a' n' c',.bool (numsB xs s)]∧(numsB xs s=true→n'=1∧NewAt u.heap.size a'∧Own eI w' a' 1 2 [sumM xs s])∧Ext u w'):=fun u b d e A=>impl_sumsOf (h.ext e) A hd hs;have hH:∀ u,Ext w u→Does Tryz.prog 194 [.slice a n c,.agg ⟨f.enc⟩] u (fun v w'=>v = .bool (haveB xs f)∧Ext u w'):=fun u e=>impl_haveField (h.ext e) hd hf;have hG:∀ u,Ext w u→Does Tryz.prog 133 [.slice a n c,.agg ⟨f.enc⟩] u (fun v w'=>∃ a' m c',v = .slice a' m c'∧(∀ u',Mod (fun j=>¬ Iv u.heap.size w'.heap.size j) w' u'→ArrS RCard u' a n xs→ArrS RDeck u' a' m (groupsM xs f))∧Ext u w'):=fun u e=>impl_groups (h.ext e) hfx (by omega) hnc;have hgl:=groups_le xs f;cases hz1:numsB xs s
  · have he:totListM xs f s=([],8):=by simp [totListM,hz1]
    rw [he];rw [hz1] at hS;refine oV Tryz.func277 ?_;refine SemK.box ?_;intro b41 w41 g41 l41 e41 B41;refine SemK.box ?_;intro b42 w42 g42 l42 e42 B42;refine jA (n:=2) B42.cells rfl ?_;refine bS mk_63 (vs:=[Value.agg #[Value.int IntKind.i64 s.from_,Value.int IntKind.i64 s.to_]]) ?_;intro b43 w43 g43 l43 e43 B43;refine (hS _ _ _ (xt (xt e41 e42) e43) (arr_field B43)).mono ?_;rintro _ w49 ⟨a'44,n'45,c'46,rfl,q47,e48⟩;exact ⟨_,_,_,rfl,by omega,(xt (xt (xt e41 e42) e43) e48)⟩
  · cases hz2:haveB xs f
    · have he:totListM xs f s=([],8):=by simp [totListM,hz2]
      rw [he];rw [hz1] at hS;rw [hz2] at hH;refine oV Tryz.func277 ?_;refine SemK.box ?_;intro b41 w41 g41 l41 e41 B41;refine SemK.box ?_;intro b42 w42 g42 l42 e42 B42;refine jA (n:=2) B42.cells rfl ?_;refine bS mk_63 (vs:=[Value.agg #[Value.int IntKind.i64 s.from_,Value.int IntKind.i64 s.to_]]) ?_;intro b43 w43 g43 l43 e43 B43;refine (hS _ _ _ (xt (xt e41 e42) e43) (arr_field B43)).mono ?_;rintro _ w49 ⟨a'44,n'45,c'46,rfl,q47,e48⟩;refine jA (n:=2) (B41.ext (xt (xt e42 e43) e48)).cells rfl ?_;refine (hH _ (xt (xt (xt e41 e42) e43) e48)).mono ?_;rintro _ w51 ⟨rfl,e50⟩;exact ⟨_,_,_,rfl,by omega,(xt (xt (xt (xt e41 e42) e43) e48) e50)⟩
    · have he:totListM xs f s=((groupsM xs f).map fun g=>⟨headKey g f,sumM g s⟩,0):=by simp [totListM,hz1,hz2]
      rw [he];rw [hz1] at hS;rw [hz2] at hH;refine oV Tryz.func277 ?_;refine SemK.box ?_;intro b41 w41 g41 l41 e41 B41;refine SemK.box ?_;intro b42 w42 g42 l42 e42 B42;refine jA (n:=2) B42.cells rfl ?_;refine bS mk_63 (vs:=[Value.agg #[Value.int IntKind.i64 s.from_,Value.int IntKind.i64 s.to_]]) ?_;intro b43 w43 g43 l43 e43 B43;refine (hS _ _ _ (xt (xt e41 e42) e43) (arr_field B43)).mono ?_;rintro _ w49 ⟨a'44,n'45,c'46,rfl,q47,e48⟩;refine jA (n:=2) (B41.ext (xt (xt e42 e43) e48)).cells rfl ?_;refine (hH _ (xt (xt (xt e41 e42) e43) e48)).mono ?_;rintro _ w51 ⟨rfl,e50⟩;refine bS mk_203 (vs:=[]) ?_;intro b52 w52 g52 l52 e52 B52;have G52:=Grow.new0 (enc:=TTotal.enc) TTotal.enc_len B52 g52;refine jA (n:=2) (B41.ext (xt (xt (xt (xt e42 e43) e48) e50) e52)).cells rfl ?_;refine (hG _ (xt (xt (xt (xt (xt e41 e42) e43) e48) e50) e52)).mono ?_;rintro _ w58 ⟨a'53,m54,c'55,rfl,q56,e57⟩;have hml:m54=(groupsM xs f).length:=by
        have hE:=xt (xt (xt (xt (xt (xt e41 e42) e43) e48) e50) e52) e57;have:=(q56 w58 (Vc.Mod.refl _ _) (h.ext hE)).len;omega
      have z57:=e57.size;refine lR [4,5,10,33,34,35] (fun (k:Nat) vs w'=>∃ a3 c3,vs=[.pointer (some ⟨b41,0,none⟩),.pointer (some ⟨b42,0,none⟩),.slice a3 k c3,.slice a'53 m54 c'55,.int .i64 m54,.int .i64 k]∧k≤m54∧Grow TTotal.enc 2 w43.heap.size 255 w' a3 k c3 (((groupsM xs f).take k).map fun g=>⟨headKey g f,sumM g s⟩)∧(∀ j,blkIn a3 j→j<w52.heap.size∨w58.heap.size≤j)∧Mod (fun j=>¬ Iv w52.heap.size w58.heap.size j) w58 w'∧Ext w43 w') (fun k=>m54 - k) 0 ⟨_,_,rfl,by omega,(G52.ext e57).base (by have:=e48.size;have:=e50.size;omega),?_,Vc.Mod.refl _ _,xt (xt (xt e48 e50) e52) e57⟩ ?_
      · rintro j ⟨x,hx,he⟩;cases hx
        have he:j=b52:=he;omega
      have E43:=xt (xt e41 e42) e43;rintro k g _ w11 ⟨a3,c3,rfl,hk,hG',hj3,M,hX⟩;have hXw:=xt E43 hX;rcases Nat.lt_or_ge k m54 with hkn | hkn
      · obtain ⟨g,hg⟩:=get_of_lt (l:=groupsM xs f) (k:=k) (by omega);obtain ⟨hg0,hgle,hgm⟩:=group_ok hg;obtain ⟨hgd,hgw⟩:=group_deck hd hg0 hgle hgm;obtain ⟨y,hy⟩:=get_of_lt (l:=g) (k:=0) (List.length_pos_iff.2 hg0);have hym:=hgm y (List.mem_of_getElem? hy);have hhk:headKey g f=txt (ckey f y):=by unfold headKey;rw [headD_at hy]
        have hnt:=map_take_next (fun g=>(⟨headKey g f,sumM g s⟩:TTotal)) hg;rw [hhk] at hnt;obtain ⟨gs,hVg,hEg⟩:=q56 w11 M (h.ext hXw);have hVl:=hVg.len;obtain ⟨d,hd1⟩:=get_of_lt (l:=gs) (k:=k) (by omega);have R:=hEg.2 k d _ hd1 hg;have hSg:∀ u b d',Ext w11 u→Arr TField.enc 2 u b 1 [s]→Does Tryz.prog 207 [.slice b 1 d',.slice d.a d.n d.c] u (fun v w'=>∃ a' n' c',v = .tuple #[.slice a' n' c',.bool true]∧(n'=1∧NewAt u.heap.size a'∧Own eI w' a' 1 2 [sumM g s])∧Ext u w'):=fun u b d' e A=>by
          have:=impl_sumsOf (d:=d') (c:=d.c) (R.1.ext e) A hgd (by rw [hgw];exact hs);rw [nums_group hz1 hgm] at this;refine this.mono ?_;rintro v w' ⟨a',n',c',q1,q2,q3⟩;exact ⟨a',n',c',q1,q2 rfl,q3⟩
        obtain ⟨hs2,hV2,hE2⟩:=R.1;have hl2:=hV2.len;have hn2:=hE2.1;have hgl2:=(List.getElem?_eq_some_iff.1 hy).1;obtain ⟨d2,hd2⟩:=get_of_lt (l:=hs2) (k:=0) (by omega);have R2:=hE2.2 0 d2 y hd2 hy;have hF:∀ u,Ext w11 u→Does Tryz.prog 134 [.agg ⟨eH d2⟩,.agg ⟨f.enc⟩] u (fun v w'=>v = .string (txt (ckey f y))∧Ext u w'):=fun u e=>impl_fieldText ⟨R2.1.ext e,R2.2⟩ (hfx y hym) (h20 y hym) (have_mem hz2 y hym);have hsb:=sumM_b (d:=g) (f:=s) (fun c hc=>(part12 (by rw [(hdm.2 c (hgm c hc)).2];exact hs)).1) (by omega);refine IfB.yes (by omega) ?_;refine jI hVg k rfl hd1 ?_;intro b60 o60 ha60 hb60;refine jO hb60 rfl ?_;refine jA (n:=2) (B42.ext (xt e43 hX)).cells rfl ?_;refine bS mk_63 (vs:=[Value.agg #[Value.int IntKind.i64 s.from_,Value.int IntKind.i64 s.to_]]) ?_;intro b61 w61 g61 l61 e61 B61;have G61:=Grow.of_blk (n:=1) (enc:=TField.enc) (xs:=[⟨s.from_,s.to_⟩]) TField.enc_len B61 g61 rfl (by decide);refine (hSg _ _ _ e61 (G61.own.arr TField.enc_len)).mono ?_;rintro _ w68 ⟨a'62,n'63,c'64,rfl,⟨rfl,N65,O66⟩,e67⟩;refine DrawK.writes tabok mixed [(0,.any),(1,.any),(2,.any),(6,.any),(7,.any),(3,.held),(4,.held),(8,.held),(5,.run),(9,.held),(10,.run),(11,.write),(12,.any)] (by kernel_rfl) (by kernel_rfl) ?_;intro w69 e69;refine pI (hV2.ext (xt e61 e67)) 0 rfl hd2 ?_;intro b71 o71 ha71 hb71;have hx72:([sumM g s]:List Int)[0]? = some (sumM g s):=rfl;obtain ⟨b73,rfl⟩:=(O66).some (by omega);have lb73:b73<w68.heap.size:=O66.lt _ rfl;refine pW (sz:=1) 0 rfl (by omega) ?_;have hb73:=Own.elem eI_len O66 hx72;refine dA (n:=1) hb71 rfl ?_;refine dA (n:=2) (B41.ext (xt (xt (xt (xt e42 e43) hX) e61) e67)).cells rfl ?_;refine dL hb73 (k:=0) rfl ?_;refine (hF _ (xt (xt e61 e67) e69)).mono ?_;rintro _ w75 ⟨rfl,e74⟩;refine ⟨(xt e69 e74),?_⟩;refine DSemK.build st_255 rfl ?_;refine bS mk_203 (vs:=[Value.agg #[Value.string (txt (ckey f y)),Value.int IntKind.i64 (sumM g s)]]) ?_;intro b76 w76 g76 l76 e76 B76;have G76:=Grow.of_blk (n:=1) (enc:=TTotal.enc) (xs:=[⟨txt (ckey f y),sumM g s⟩]) TTotal.enc_len B76 g76 rfl (by decide);refine ⟨(xt (xt e69 e74) e76),?_⟩;refine SemK.appendArr0 (enc:=TTotal.enc) mk_203 TTotal.enc_len (hG'.ext (xt (xt (xt (xt e61 e67) e69) e74) e76)) (G76.own.arr TTotal.enc_len) (by intro y _;simp [TTotal.enc,cellish]) (by omega) (by omega) (Below.size (xt (xt (xt (xt (xt hX e61) e67) e69) e74) e76)) ?_;intro a77 c77 w77 G77 m77 i77;refine SemK.add (((k+1:Nat):Int)) (by omega) (by omega) (by omega) ?_;refine ⟨k+1,by omega,_,_,rfl,by omega,by simpa [List.take_add_one,-List.take_append_getElem, *] using G77,?_,?_,(xm (xt (xt (xt (xt (xt hX e61) e67) e69) e74) e76) m77 (blkIn_new hG'.new))⟩
        · intro j hj;rcases i77 j hj with h1 | h1
          · exact hj3 j h1
          · have:=M.size;have:=Below.size (xt (xt (xt (xt e61 e67) e69) e74) e76);omega
        · exact M.trans ((Ext.mod (xt (xt (xt (xt e61 e67) e69) e74) e76)).trans (m77.mono fun j hj hk=>by
            have:=hj3 j hj;have:=hk.1;have:=hk.2;omega))
      · obtain rfl:k=m54:=by omega
        rw [List.take_of_length_le (by omega)] at hG';refine IfB.no (by omega) ?_;refine ⟨_,_,_,rfl,?_,hXw⟩
        · exact fun _=>⟨hG'.new.mono (Below.size E43),hG'.le.1,by omega,hG'.own⟩
theorem impl_TotalsText {w:World} {a:Option Addr} {n c:Nat} {xs:List TTotal} (h:Arr TTotal.enc 2 w a n xs) (hok:∀ x∈xs,x.name.size≤20∧i64ok x.sum) (hn2:n≤40) (hT:Pow w) :
    Does Tryz.prog 139 [.slice a n c] w (fun v w'=>v = .string (totalsS xs)∧Ext w w'):=by
  have hn:=h.len;refine oV Tryz.func139 ?_;refine bS mk_24 (vs:=[]) ?_;intro b3 w3 g3 l3 e3 B3;have G3:=Grow.new0 (enc:=eS) eS_len B3 g3;refine lR [3,7,8,9] (fun (k:Nat) vs w'=>∃ a3 c3,vs=[.slice a3 k c3,.slice a n c,.int .i64 n,.int .i64 k]∧k≤n∧(∃ b',a3=some ⟨b',0,none⟩)∧Grow eS 1 w.heap.size 9 w' a3 k c3 ((xs.take k).map totalWord)∧Ext w w') (fun k=>n - k) 0 ⟨_,_,rfl,by omega,⟨_,rfl⟩,by simpa using G3,e3⟩ ?_;rintro k g _ w4 ⟨a3,c3,rfl,hk,⟨b',rfl⟩,hG,hX⟩;rcases Nat.lt_or_ge k n with hkn | hkn
  · obtain ⟨x,hx⟩:=get_of_lt (l:=xs) (k:=k) (by omega);obtain ⟨hx1,hx2⟩:=hok x (List.mem_of_getElem? hx);have hnt:=map_take_next totalWord hx;have hdz:=decB_len hx2.1 hx2.2;refine IfB.yes (by omega) ?_;refine jI (h.ext hX) k rfl hx ?_;intro b6 o6 ha6 hb6;refine jA (n:=2) hb6 rfl ?_;refine jN (z := .agg #[.string { data := #[] },.int .i64 0]) ?_;intro b7 w7 g7 l7 e7 B7;refine jS B7 (vs:=x.enc) rfl rfl (by simp [TTotal.enc,cellish]) ?_;intro w8 c8 B8;refine DrawK.writes tabok mixed [(0,.any),(1,.any),(4,.any),(2,.held),(3,.any),(5,.held),(6,.run),(7,.any),(8,.run),(9,.write),(10,.any)] (by kernel_rfl) (by kernel_rfl) ?_;intro w9 e9;refine dL B8.cells (k:=0) rfl ?_;refine PSemK.cat (by simp only [ByteArray.size_append,bs_size,sizeC,sizeT,List.length_cons,List.length_nil];omega) ?_;refine dL B8.cells (k:=1) rfl ?_;refine (impl_Decimal hx2 (hT.ext (xt (xb (xt hX e7) c8.but (Nat.le_trans (Below.size hX) g7)) e9))).mono ?_;rintro _ w11 ⟨rfl,e10⟩;refine ⟨(xt e9 e10),?_⟩;refine PSemK.cat (by simp only [ByteArray.size_append,bs_size,sizeC,sizeT,List.length_cons,List.length_nil];omega) ?_;refine bS mk_24 (vs:=[Value.string (x.name++{ data := #[61] }++decB x.sum)]) ?_;intro b12 w12 g12 l12 e12 B12;have G12:=Grow.of_blk (n:=1) (enc:=eS) (xs:=[x.name++{ data := #[61] }++decB x.sum]) eS_len B12 g12 rfl (by decide);refine ⟨(xt (xt e9 e10) e12),?_⟩;refine SemK.appendArr0 (enc:=eS) mk_24 eS_len (hG.ext (xt (xt (xt (xb e7 c8.but g7) e9) e10) e12)) (G12.own.arr eS_len) (by intro y _;simp [eS,cellish]) (by omega) (by omega) (Below.size (xt (xt (xt (xb (xt hX e7) c8.but (Nat.le_trans (Below.size hX) g7)) e9) e10) e12)) ?_;intro a13 c13 w13 G13 m13 i13;refine SemK.add (((k+1:Nat):Int)) (by omega) (by omega) (by omega) ?_;refine ⟨k+1,by omega,_,_,rfl,by omega,?_,?_,(xm (xt (xt (xt (xb (xt hX e7) c8.but (Nat.le_trans (Below.size hX) g7)) e9) e10) e12) m13 (blkIn_new hG.new))⟩
    · exact G13.own.some (by omega)
    · rw [hnt];exact G13
  · obtain rfl:k=n:=by omega
    rw [List.take_of_length_le (by omega)] at hG;have hjl:=join_le 59 ((xs.map totalWord).map (·.data.toList)) (B:=42) (fun y hy=>by
      obtain ⟨z,hz,rfl⟩:=List.mem_map.1 hy;obtain ⟨t,ht,rfl⟩:=List.mem_map.1 hz;have h1:=hok t ht;have h2:=decB_len h1.2.1 h1.2.2;have h3:(totalWord t).size=t.name.size+1+(decB t.sum).size:=by
        unfold totalWord;rw [ByteArray.size_append,ByteArray.size_append];rfl
      show (totalWord t).data.toList.length≤42;simp;omega)
    have hJ:=join_own (sep:=⟨#[59]⟩) hG.own hG.le.1 (by omega) (by
      simp only [List.length_map] at hjl;have:(Lib.join (List.map (fun x=>x.data.toList) (List.map totalWord xs)) [59]).length≤40 * 43:=by
        refine Nat.le_trans hjl ?_;exact Nat.mul_le_mul_right _ (by omega)
      show (Lib.join _ [59]).length≤_;omega)
    refine IfB.no (by omega) ?_;refine hJ.mono ?_;rintro _ w5 ⟨rfl,e5⟩;exact ⟨rfl,xt hX e5⟩
end Go.Proofs.YthadkoinmohmlaaGreatDoor
namespace Go.M
open Go Go.Vc
def setE (f:TField) (b:Option Addr) (d:Nat):List Value:=f.enc++[.slice b 1 d,.bool false]
theorem lineS_one (n:Int):lineS [n]=decB n:=by
  unfold lineS;rw [if_neg (by simp),jn_one];rfl
theorem width_b {d:List (List Int)} (h:deckB d=true):1≤widthOf d∧widthOf d≤20:=by
  have hm:=deckB_mem h;cases d with
  | nil=>exact ⟨by decide,by decide⟩
  | cons c cs =>
    have:=cardB_b (hm.2 c (by simp)).1;exact ⟨this.1,this.2.1⟩
theorem tab_inv {d:List (List Int)} {f s:TField} (h:tabCode d f s=0):deckB d=true∧fieldB f (widthOf d)=true∧numFieldB s (widthOf d)=true∧numsB d s=true∧haveB d f=true:=by
  unfold tabCode at h;split at h
  · cases h
  rename_i h1;split at h
  · cases h
  rename_i h2;split at h
  · cases h
  rename_i h3;simp only [not_or,Bool.not_eq_false] at h1 h2 h3;exact ⟨h1,h2.1,h2.2,h3.1,h3.2⟩
end Go.M
namespace Go.Proofs.YthadkoinmohmlaaGreatDoor
open Go Go.RowKit Go.Vc Go.M
theorem lib_IndexFuncField {w:World} {a:Option Addr} {n c g:Nat} {xs:List TField} (h:Arr TField.enc 2 w a n xs) {p:TField→Bool} {cap:List Value}
    (hg:∀ x∈xs,∀ w',Ext w w'→Does Tryz.prog g (.agg ⟨x.enc⟩ :: cap) w' (fun v w''=>v = .bool (p x)∧Ext w' w'')) :
    Does Tryz.prog 318 [.slice a n c,.func (.func g) ⟨[]⟩ ⟨cap⟩] w (fun v w'=>v = .int .i64 (idxI p xs)∧Ext w w'):=by
  have hn:=h.len;have hm:=h.le;refine oV Tryz.func318 ?_;refine lR [0,1,7,8] (fun (k:Nat) vs w'=>vs=[.slice a n c,.func (.func g) ⟨[]⟩ ⟨cap⟩,.int .i64 n,.int .i64 k]∧k≤n∧(xs.take k).any p=false∧Ext w w') (fun k=>n - k) 0 ⟨rfl,by omega,by simp,Ext.refl _⟩ ?_;rintro k g' _ w' ⟨rfl,hk,hall,hE⟩;(conv=>whnf);with_reducible refine IfB.dec (fun h4=>?_) (fun h4=>?_)
  · obtain ⟨x,hx⟩:∃ x,xs[k]? = some x:=get_of_lt (by omega);have hgx:=hg x (List.mem_of_getElem? hx);refine jI (h.ext hE) k rfl hx ?_;intro b o _ hb;refine jA (n:=2) hb rfl ?_;refine (hgx w' hE).mono ?_;rintro _ w2 ⟨rfl,e2⟩;(conv=>whnf);with_reducible refine IfB.split (fun h5=>?_) (fun h5=>?_)
    · exact ⟨by rw [idxI_at hall hx h5],xt hE e2⟩
    · refine SemK.add (((k+1:Nat):Int)) (by omega) (by omega) (by omega) ?_;exact ⟨k+1,by omega,rfl,by omega,by rw [any_take_succ hx,hall,h5];rfl,xt hE e2⟩
  · (conv=>whnf);rw [List.take_of_length_le (by omega)] at hall;exact ⟨by rw [idxI_neg hall],hE⟩
theorem lib_ContainsFuncField {w:World} {a:Option Addr} {n c g:Nat} {xs:List TField} (h:Arr TField.enc 2 w a n xs) {p:TField→Bool} {cap:List Value}
    (hg:∀ x∈xs,∀ w',Ext w w'→Does Tryz.prog g (.agg ⟨x.enc⟩ :: cap) w' (fun v w''=>v = .bool (p x)∧Ext w' w'')) :
    Does Tryz.prog 272 [.slice a n c,.func (.func g) ⟨[]⟩ ⟨cap⟩] w (fun v w'=>v = .bool (xs.any p)∧Ext w w'):=by
  refine oV Tryz.func272 ?_;refine (lib_IndexFuncField h hg).mono ?_;rintro _ w2 ⟨rfl,e2⟩;refine ⟨?_,e2⟩;congr 1;cases ha:xs.any p with
  | true=>exact decide_eq_true (idxI_nonneg ha)
  | false=>rw [idxI_neg ha];rfl
theorem impl_ValidSetup1 {w:World} {b:Nat} {f:TField} (hf:f.ok) {n:Int} (h0:0≤n) (hn:n≤1000) (hc:Cells w b 0 [.int .i64 n]) :
    Does Tryz.prog 273 [.agg ⟨f.enc⟩,.pointer (some ⟨b,0,none⟩)] w (fun v w'=>v = .bool (!numFieldB f n)∧Ext w w'):=by
  have hF:∀ u,Does Tryz.prog 274 [.agg ⟨f.enc⟩,.int .i64 n] u (fun v w'=>v = .bool (numFieldB f n)∧Ext u w'):=fun u=>impl_isNumberField hf h0 hn u;refine oV Tryz.func273 ?_;refine SemK.box ?_;intro b2 w2 g2 l2 e2 B2;refine jA (n:=2) B2.cells rfl ?_;refine jL (hc.ext e2) (k:=0) rfl ?_;refine (hF _).mono ?_;rintro _ w4 ⟨rfl,e3⟩;exact ⟨rfl,(xt e2 e3)⟩
theorem impl_ValidSetup {w:World} {f s:TField} (hf:f.ok) (hs:s.ok) {b:Option Addr} {d:Nat} (hA:Arr TField.enc 2 w b 1 [s]) {n:Nat} (h0:1≤n) (hn:n≤20) :
    Does Tryz.prog 206 [.agg ⟨setE f b d⟩,.int .i64 n] w (fun v w'=>v = .bool (fieldB f n && numFieldB s n)∧Ext w w'):=by
  have hin:inB (n:Int) 1 20=true:=by simp [inB];omega
  have hI:∀ u,Does Tryz.prog 75 [.int .i64 n,.int .i64 1,.int .i64 20] u (fun v w'=>v = .bool true∧u=w'):=fun u=>by
    have:=impl_inside n 1 20 u;rw [hin] at this;exact this
  have hF:∀ u,Does Tryz.prog 192 [.agg ⟨f.enc⟩,.int .i64 n] u (fun v w'=>v = .bool (fieldB f n)∧Ext u w'):=fun u=>impl_isField f n u;have hC:∀ u b',Ext w u→Cells u b' 0 [.int .i64 n]→Does Tryz.prog 272 [.slice b 1 d,.func (.func 273) ⟨[]⟩ ⟨[.pointer (some ⟨b',0,none⟩)]⟩] u (fun v w'=>v = .bool (!numFieldB s n)∧Ext u w'):=fun u b' e hc=>by
    have:=lib_ContainsFuncField (c:=d) (cap:=[.pointer (some ⟨b',0,none⟩)]) (hA.ext e) (p:=fun x=>!numFieldB x n) (g:=273) (fun x hx w' e2=>by
      obtain rfl:x=s:=by simpa using hx
      exact impl_ValidSetup1 hs (by omega) (by omega) (hc.ext e2))
    simpa using this
  cases hz:fieldB f n
  · rw [hz] at hF;simp only [Bool.false_and];refine oV Tryz.func206 ?_;refine SemK.box ?_;intro b1 w1 g1 l1 e1 B1;refine SemK.box ?_;intro b2 w2 g2 l2 e2 B2;refine jL B2.cells (k:=0) rfl ?_;refine (hI _).mono ?_;rintro _ _ ⟨rfl,rfl⟩;refine jG (n:=2) (k:=0) (B1.ext e2).cells rfl ?_;refine jL B2.cells (k:=0) rfl ?_;refine (hF _).mono ?_;rintro _ w5 ⟨rfl,e4⟩;exact ⟨rfl,(xt (xt e1 e2) e4)⟩
  · rw [hz] at hF;simp only [Bool.true_and];refine oV Tryz.func206 ?_;refine SemK.box ?_;intro b1 w1 g1 l1 e1 B1;refine SemK.box ?_;intro b2 w2 g2 l2 e2 B2;refine jL B2.cells (k:=0) rfl ?_;refine (hI _).mono ?_;rintro _ _ ⟨rfl,rfl⟩;refine jG (n:=2) (k:=0) (B1.ext e2).cells rfl ?_;refine jL B2.cells (k:=0) rfl ?_;refine (hF _).mono ?_;rintro _ w5 ⟨rfl,e4⟩;refine jL (B1.ext (xt e2 e4)).cells (k:=2) rfl ?_;refine jL (B1.ext (xt e2 e4)).cells (k:=2) rfl ?_;refine (hC _ _ (xt (xt e1 e2) e4) (B2.ext e4).cells).mono ?_;rintro _ w7 ⟨rfl,e6⟩;exact ⟨by simp [*],(xt (xt (xt e1 e2) e4) e6)⟩
theorem impl_setupCode {w:World} {a:Option Addr} {n c:Nat} {xs:List (List Int)} (h:ArrS RCard w a n xs) {f s:TField} (hf:f.ok) (hs:s.ok) {b:Option Addr} {d:Nat} (hA:Arr TField.enc 2 w b 1 [s]) :
    Does Tryz.prog 132 [.agg ⟨setE f b d⟩,.slice a n c] w (fun v w'=>v = .int .i64 (tabCode xs f s)∧Ext w w'):=by
  have hV:∀ u,Ext w u→Does Tryz.prog 54 [.slice a n c] u (fun v w'=>v = .bool (deckB xs)∧Ext u w'):=fun u e=>impl_ValidDeck (h.ext e);cases hz1:deckB xs
  · rw [hz1] at hV;have he:tabCode xs f s=1:=by simp [tabCode,hz1]
    rw [he];refine oV Tryz.func132 ?_;refine SemK.box ?_;intro b2 w2 g2 l2 e2 B2;refine (hV _ e2).mono ?_;rintro _ w4 ⟨rfl,e3⟩;exact ⟨rfl,(xt e2 e3)⟩
  · rw [hz1] at hV;have hw:=width_b hz1;have hS:∀ u,Ext w u→Does Tryz.prog 206 [.agg ⟨setE f b d⟩,.int .i64 (widthOf xs)] u (fun v w'=>v = .bool (fieldB f (widthOf xs) && numFieldB s (widthOf xs))∧Ext u w'):=fun u e=>impl_ValidSetup hf hs (hA.ext e) hw.1 hw.2;have hW:∀ u,Ext w u→Does Tryz.prog 193 [.slice a n c] u (fun v w'=>v = .int .i64 (widthOf xs)∧Ext u w'):=fun u e=>impl_deckColumns (h.ext e);cases hz2:(fieldB f (widthOf xs) && numFieldB s (widthOf xs))
    · rw [hz2] at hS;have he:tabCode xs f s=2:=by
        unfold tabCode;rw [if_neg (by simp [hz1]),if_pos (by cases h1:fieldB f (widthOf xs)<;>simp_all)]
      rw [he];refine oV Tryz.func132 ?_;refine SemK.box ?_;intro b3 w3 g3 l3 e3 B3;refine (hV _ e3).mono ?_;rintro _ w5 ⟨rfl,e4⟩;refine dH [(0,false),(1,true),(2,true),(3,true),(4,true),(5,true)] ?_;intro w6 e6;refine dA (n:=4) (B3.ext e4).cells rfl ?_;refine (hW _ (xt (xt e3 e4) e6)).mono ?_;rintro _ w8 ⟨rfl,e7⟩;refine ⟨(xt e6 e7),?_⟩;refine (hS _ (xt (xt (xt e3 e4) e6) e7)).mono ?_;rintro _ w10 ⟨rfl,e9⟩;refine ⟨(xt (xt e6 e7) e9),?_⟩;exact ⟨rfl,(xt (xt (xt (xt e3 e4) e6) e7) e9)⟩
    · rw [hz2] at hS;rw [Bool.and_eq_true] at hz2;have hM:∀ u,Ext w u→Does Tryz.prog 207 [.slice b 1 d,.slice a n c] u (fun v w'=>∃ a' n' c',v = .tuple #[.slice a' n' c',.bool (numsB xs s)]∧(numsB xs s=true→n'=1∧NewAt u.heap.size a'∧Own eI w' a' 1 2 [sumM xs s])∧Ext u w'):=fun u e=>impl_sumsOf (h.ext e) (hA.ext e) hz1 hz2.2;have hH:∀ u,Ext w u→Does Tryz.prog 194 [.slice a n c,.agg ⟨f.enc⟩] u (fun v w'=>v = .bool (haveB xs f)∧Ext u w'):=fun u e=>impl_haveField (h.ext e) hz1 hz2.1;cases hz3:numsB xs s
      · rw [hz3] at hM;have he:tabCode xs f s=8:=by
          unfold tabCode;rw [if_neg (by simp [hz1]),if_neg (by simp [hz2.1,hz2.2]),if_pos (by simp [hz3])]
        rw [he];refine oV Tryz.func132 ?_;refine SemK.box ?_;intro b4 w4 g4 l4 e4 B4;refine (hV _ e4).mono ?_;rintro _ w6 ⟨rfl,e5⟩;refine dH [(0,false),(1,true),(2,true),(3,true),(4,true),(5,true)] ?_;intro w7 e7;refine dA (n:=4) (B4.ext e5).cells rfl ?_;refine (hW _ (xt (xt e4 e5) e7)).mono ?_;rintro _ w9 ⟨rfl,e8⟩;refine ⟨(xt e7 e8),?_⟩;refine (hS _ (xt (xt (xt e4 e5) e7) e8)).mono ?_;rintro _ w11 ⟨rfl,e10⟩;refine ⟨(xt (xt e7 e8) e10),?_⟩;refine jL (B4.ext (xt (xt (xt e5 e7) e8) e10)).cells (k:=2) rfl ?_;refine (hM _ (xt (xt (xt (xt e4 e5) e7) e8) e10)).mono ?_;rintro _ w17 ⟨a'12,n'13,c'14,rfl,q15,e16⟩;exact ⟨rfl,(xt (xt (xt (xt (xt e4 e5) e7) e8) e10) e16)⟩
      · rw [hz3] at hM;cases hz4:haveB xs f
        · rw [hz4] at hH;have he:tabCode xs f s=8:=by
            unfold tabCode;rw [if_neg (by simp [hz1]),if_neg (by simp [hz2.1,hz2.2]),if_pos (by simp [hz4])]
          rw [he];refine oV Tryz.func132 ?_;refine SemK.box ?_;intro b5 w5 g5 l5 e5 B5;refine (hV _ e5).mono ?_;rintro _ w7 ⟨rfl,e6⟩;refine dH [(0,false),(1,true),(2,true),(3,true),(4,true),(5,true)] ?_;intro w8 e8;refine dA (n:=4) (B5.ext e6).cells rfl ?_;refine (hW _ (xt (xt e5 e6) e8)).mono ?_;rintro _ w10 ⟨rfl,e9⟩;refine ⟨(xt e8 e9),?_⟩;refine (hS _ (xt (xt (xt e5 e6) e8) e9)).mono ?_;rintro _ w12 ⟨rfl,e11⟩;refine ⟨(xt (xt e8 e9) e11),?_⟩;refine jL (B5.ext (xt (xt (xt e6 e8) e9) e11)).cells (k:=2) rfl ?_;refine (hM _ (xt (xt (xt (xt e5 e6) e8) e9) e11)).mono ?_;rintro _ w18 ⟨a'13,n'14,c'15,rfl,q16,e17⟩;refine jG (n:=2) (k:=0) (B5.ext (xt (xt (xt (xt e6 e8) e9) e11) e17)).cells rfl ?_;refine (hH _ (xt (xt (xt (xt (xt e5 e6) e8) e9) e11) e17)).mono ?_;rintro _ w20 ⟨rfl,e19⟩;exact ⟨rfl,(xt (xt (xt (xt (xt (xt e5 e6) e8) e9) e11) e17) e19)⟩
        · rw [hz4] at hH;have he:tabCode xs f s=0:=by
            unfold tabCode;rw [if_neg (by simp [hz1]),if_neg (by simp [hz2.1,hz2.2]),if_neg (by simp [hz3,hz4])]
          rw [he];refine oV Tryz.func132 ?_;refine SemK.box ?_;intro b5 w5 g5 l5 e5 B5;refine (hV _ e5).mono ?_;rintro _ w7 ⟨rfl,e6⟩;refine dH [(0,false),(1,true),(2,true),(3,true),(4,true),(5,true)] ?_;intro w8 e8;refine dA (n:=4) (B5.ext e6).cells rfl ?_;refine (hW _ (xt (xt e5 e6) e8)).mono ?_;rintro _ w10 ⟨rfl,e9⟩;refine ⟨(xt e8 e9),?_⟩;refine (hS _ (xt (xt (xt e5 e6) e8) e9)).mono ?_;rintro _ w12 ⟨rfl,e11⟩;refine ⟨(xt (xt e8 e9) e11),?_⟩;refine jL (B5.ext (xt (xt (xt e6 e8) e9) e11)).cells (k:=2) rfl ?_;refine (hM _ (xt (xt (xt (xt e5 e6) e8) e9) e11)).mono ?_;rintro _ w18 ⟨a'13,n'14,c'15,rfl,q16,e17⟩;refine jG (n:=2) (k:=0) (B5.ext (xt (xt (xt (xt e6 e8) e9) e11) e17)).cells rfl ?_;refine (hH _ (xt (xt (xt (xt (xt e5 e6) e8) e9) e11) e17)).mono ?_;rintro _ w20 ⟨rfl,e19⟩;exact ⟨rfl,(xt (xt (xt (xt (xt (xt e5 e6) e8) e9) e11) e17) e19)⟩
theorem impl_sumText {w:World} {a:Option Addr} {n c:Nat} {xs:List (List Int)} (h:ArrS RCard w a n xs) {f s:TField} {b:Option Addr} {d:Nat} (hA:Arr TField.enc 2 w b 1 [s]) (hd:deckB xs=true) (hs:numFieldB s (widthOf xs)=true) (hn:numsB xs s=true) (hT:Pow w) :
    Does Tryz.prog 135 [.agg ⟨setE f b d⟩,.slice a n c] w (fun v w'=>v = .string (decB (sumM xs s))∧Ext w w'):=by
  have hdm:=deckB_mem hd;have hsb:=sumM_b (d:=xs) (f:=s) (fun c hc=>(part12 (by rw [(hdm.2 c hc).2];exact hs)).1) hdm.1;have hM:∀ u,Ext w u→Does Tryz.prog 207 [.slice b 1 d,.slice a n c] u (fun v w'=>∃ a' n' c',v = .tuple #[.slice a' n' c',.bool true]∧(n'=1∧NewAt u.heap.size a'∧Own eI w' a' 1 2 [sumM xs s])∧Ext u w'):=fun u e=>by
    have:=impl_sumsOf (d:=d) (c:=c) (h.ext e) (hA.ext e) hd hs;rw [hn] at this;refine this.mono ?_;rintro v w' ⟨a',n',c',q1,q2,q3⟩;exact ⟨a',n',c',q1,q2 rfl,q3⟩
  have hL:∀ u a' c',Ext w u→Own eI u a' 1 2 [sumM xs s]→Does Tryz.prog 79 [.slice a' 1 c'] u (fun v w'=>v = .string (decB (sumM xs s))∧Ext u w'):=fun u a' c' e O=>by
    have:=impl_SumLine (c:=c') (O.arr eI_len) (by intro x hx;obtain rfl:x=sumM xs s:=(by simpa using hx);exact ⟨by omega,by omega⟩) (by omega) (hT.ext e);rw [lineS_one] at this;exact this
  refine oV Tryz.func135 ?_;refine SemK.box ?_;intro b1 w1 g1 l1 e1 B1;refine jL B1.cells (k:=2) rfl ?_;refine (hM _ e1).mono ?_;rintro _ w8 ⟨a'2,n'3,c'4,rfl,⟨rfl,N5,O6⟩,e7⟩;refine (hL _ _ _ (xt e1 e7) O6).mono ?_;rintro _ w10 ⟨rfl,e9⟩;exact ⟨rfl,(xt (xt e1 e7) e9)⟩
theorem impl_TabulateDeck {w:World} {a:Option Addr} {n c:Nat} {xs:List (List Int)} (h:ArrS RCard w a n xs) (hnc:n≤c) {f s:TField} (hfo:f.ok) (hso:s.ok) {b:Option Addr} {d:Nat} (hA:Arr TField.enc 2 w b 1 [s]) (hT:Pow w) :
    Does Tryz.prog 71 [.agg ⟨setE f b d⟩,.slice a n c] w (fun v w'=>∃ a' m c',v = .tuple #[.slice a' m c',.int .i64 (tabM xs f s).2]∧Grow eS 1 w.heap.size 9 w' a' m c' (tabM xs f s).1∧m≤41∧Ext w w'):=by
  have hn:=h.len;have hm:=h.le;have hC:∀ u,Ext w u→Does Tryz.prog 132 [.agg ⟨setE f b d⟩,.slice a n c] u (fun v w'=>v = .int .i64 (tabCode xs f s)∧Ext u w'):=fun u e=>impl_setupCode (h.ext e) hfo hso (hA.ext e);by_cases hz:tabCode xs f s=0
  · have he:tabM xs f s=(((groupsM xs f).map fun g=>tabLine g f s)++[bs [42,42,32]++decB (sumM xs s)],0):=by simp [tabM,hz]
    rw [he];rw [hz] at hC;obtain ⟨hd,hf,hs,hnu,hhv⟩:=tab_inv hz;have hdm:=deckB_mem hd;have h40:=hdm.1;have hfx:∀ x∈xs,fieldB f x.length=true:=fun x hx=>by rw [(hdm.2 x hx).2];exact hf
    have h20:∀ x∈xs,x.length≤20:=fun x hx=>(cardB_b (hdm.2 x hx).1).2.1;have hG:∀ u,Ext w u→Does Tryz.prog 133 [.slice a n c,.agg ⟨f.enc⟩] u (fun v w'=>∃ a' m c',v = .slice a' m c'∧(∀ u',Mod (fun j=>¬ Iv u.heap.size w'.heap.size j) w' u'→ArrS RCard u' a n xs→ArrS RDeck u' a' m (groupsM xs f))∧Ext u w'):=fun u e=>impl_groups (h.ext e) hfx (by omega) hnc;have hgl:=groups_le xs f;have hsb0:=sumM_b (d:=xs) (f:=s) (fun c hc=>(part12 (by rw [(hdm.2 c hc).2];exact hs)).1) h40;refine oV Tryz.func71 ?_;refine SemK.box ?_;intro b41 w41 g41 l41 e41 B41;refine jA (n:=4) B41.cells rfl ?_;refine (hC _ e41).mono ?_;rintro _ w43 ⟨rfl,e42⟩;refine bS mk_24 (vs:=[]) ?_;intro b44 w44 g44 l44 e44 B44;have G44:=Grow.new0 (enc:=eS) eS_len B44 g44;refine jG (n:=2) (k:=0) (B41.ext (xt e42 e44)).cells rfl ?_;refine (hG _ (xt (xt e41 e42) e44)).mono ?_;rintro _ w50 ⟨a'45,m46,c'47,rfl,q48,e49⟩;have hml:m46=(groupsM xs f).length:=by
      have hE:=xt (xt (xt e41 e42) e44) e49;have:=(q48 w50 (Vc.Mod.refl _ _) (h.ext hE)).len;omega
    have z49:=e49.size;refine lR [1,2,7,23,24,25] (fun (k:Nat) vs w'=>∃ a3 c3,vs=[.slice a n c,.pointer (some ⟨b41,0,none⟩),.slice a3 k c3,.slice a'45 m46 c'47,.int .i64 m46,.int .i64 k]∧k≤m46∧Grow eS 1 w43.heap.size 9 w' a3 k c3 (((groupsM xs f).take k).map fun g=>tabLine g f s)∧(∀ j,blkIn a3 j→j<w44.heap.size∨w50.heap.size≤j)∧Mod (fun j=>¬ Iv w44.heap.size w50.heap.size j) w50 w'∧Ext w43 w') (fun k=>m46 - k) 0 ⟨_,_,rfl,by omega,by simpa using G44.ext e49,?_,Vc.Mod.refl _ _,xt e44 e49⟩ ?_
    · rintro j ⟨x,hx,he⟩;cases hx
      have he:j=b44:=he;omega
    have E43:=xt e41 e42;rintro k g _ w11 ⟨a3,c3,rfl,hk,hG',hj3,M,hX⟩;have hXw:=xt E43 hX;rcases Nat.lt_or_ge k m46 with hkn | hkn
    · obtain ⟨g,hg⟩:=get_of_lt (l:=groupsM xs f) (k:=k) (by omega);obtain ⟨hg0,hgle,hgm⟩:=group_ok hg;obtain ⟨hgd,hgw⟩:=group_deck hd hg0 hgle hgm;obtain ⟨y,hy⟩:=get_of_lt (l:=g) (k:=0) (List.length_pos_iff.2 hg0);have hym:=hgm y (List.mem_of_getElem? hy);have hhk:headKey g f=txt (ckey f y):=by unfold headKey;rw [headD_at hy]
      have hnt:=map_take_next (fun g=>tabLine g f s) hg;have htl:tabLine g f s=bs [42]++txt (ckey f y)++bs [32]++decB (sumM g s):=by unfold tabLine;rw [hhk]
      rw [htl] at hnt;obtain ⟨gs,hVg,hEg⟩:=q48 w11 M (h.ext hXw);have hVl:=hVg.len;obtain ⟨d',hd1⟩:=get_of_lt (l:=gs) (k:=k) (by omega);have R:=hEg.2 k d' _ hd1 hg;have hSg:∀ u,Ext w11 u→Does Tryz.prog 135 [.agg ⟨setE f b d⟩,.slice d'.a d'.n d'.c] u (fun v w'=>v = .string (decB (sumM g s))∧Ext u w'):=fun u e=>impl_sumText (R.1.ext e) (hA.ext (xt hXw e)) hgd (by rw [hgw];exact hs) (nums_group hnu hgm) (hT.ext (xt hXw e));obtain ⟨hs2,hV2,hE2⟩:=R.1;have hl2:=hV2.len;have hn2:=hE2.1;have hgl2:=(List.getElem?_eq_some_iff.1 hy).1;obtain ⟨d2,hd2⟩:=get_of_lt (l:=hs2) (k:=0) (by omega);have R2:=hE2.2 0 d2 y hd2 hy;have hF:∀ u,Ext w11 u→Does Tryz.prog 134 [.agg ⟨eH d2⟩,.agg ⟨f.enc⟩] u (fun v w'=>v = .string (txt (ckey f y))∧Ext u w'):=fun u e=>impl_fieldText ⟨R2.1.ext e,R2.2⟩ (hfx y hym) (h20 y hym) (have_mem hhv y hym);have hsb:=sumM_b (d:=g) (f:=s) (fun c hc=>(part12 (by rw [(hdm.2 c (hgm c hc)).2];exact hs)).1) (by omega);have hdl:=decB_len (n:=sumM g s) (by omega) (by omega);have htx:=txt_size (ckey f y);have hck:(ckey f y).length≤20:=by
        have:=h20 y hym;have h2:(ckey f y).length=(partOf y f).length:=by simp [ckey,ranks]
        have h3:(partOf y f).length≤y.length:=by unfold partOf;simp;omega
        omega
      generalize hK:txt (ckey f y)=key at *;generalize hD:decB (sumM g s)=dec at *;refine IfB.yes (by omega) ?_;refine jI hVg k rfl hd1 ?_;intro b60 o60 ha60 hb60;refine jO hb60 rfl ?_;refine dH [(0,false),(1,false),(2,false),(3,true),(4,true),(5,true),(6,true)] ?_;intro w61 e61;refine dI hV2 0 rfl hd2 ?_;intro b63 o63 ha63 hb63;refine dA (n:=1) hb63 rfl ?_;refine jG (n:=2) (k:=0) (B41.ext (xt (xt e42 hX) e61)).cells rfl ?_;refine ⟨e61,?_⟩;refine (hF _ e61).mono ?_;rintro _ w65 ⟨rfl,e64⟩;refine ⟨(xt e61 e64),?_⟩;refine lR [1,2,7,9,10,23,24,25,35,36,37] (fun (j:Nat) vs w'=>vs=[.slice a n c,.pointer (some ⟨b41,0,none⟩),.slice a3 k c3,.slice d'.a d'.n d'.c,.string key,.slice a'45 m46 c'47,.int .i64 m46,.int .i64 k,.slice d'.a d'.n d'.c,.int .i64 d'.n,.int .i64 j]∧j≤d'.n∧Ext w65 w') (fun j=>d'.n - j) 0 ⟨rfl,by omega,Ext.refl _⟩ ?_;rintro j g' _ w12 ⟨rfl,hj,hY⟩;have E65:=xt (xt e61 e64) hY;rcases Nat.lt_or_ge j d'.n with hjn | hjn
      · obtain ⟨d3,hd3⟩:=get_of_lt (l:=hs2) (k:=j) (by omega);obtain ⟨y3,hy3⟩:=get_of_lt (l:=g) (k:=j) (by omega);have R3:=hE2.2 j d3 y3 hd3 hy3;refine IfB.yes (by omega) ?_;refine jI (hV2.ext E65) j rfl hd3 ?_;intro b67 o67 ha67 hb67;refine jA (n:=1) hb67 rfl ?_;refine jN (z := .agg #[.slice none 0 0]) ?_;intro b68 w68 g68 l68 e68 B68;refine jS (vs:=[Value.slice d3.a d3.n d3.c]) B68 rfl rfl (by simp [cellish]) ?_;intro w69 c69 B69;refine jL (B41.ext (xb (xt (xt (xt e42 hX) E65) e68) c69.but (Nat.le_trans (Below.size (xt (xt e42 hX) E65)) g68))).cells (k:=3) rfl ?_;refine SemK.add (((j+1:Nat):Int)) (by omega) (by omega) (by omega) ?_;exact ⟨j+1,by omega,rfl,by omega,(xb (xt hY e68) c69.but (Nat.le_trans (Below.size hY) g68))⟩
      · obtain rfl:j=d'.n:=by omega
        refine IfB.no (by omega) ?_;refine SemK.cat (by simp only [ByteArray.size_append,bs_size,sizeC,sizeT,List.length_cons,List.length_nil];omega) ?_;refine SemK.cat (by simp only [ByteArray.size_append,bs_size,sizeC,sizeT,List.length_cons,List.length_nil];omega) ?_;refine jA (n:=4) (B41.ext (xt (xt e42 hX) E65)).cells rfl ?_;refine (hSg _ E65).mono ?_;rintro _ w67 ⟨rfl,e66⟩;refine SemK.cat (by simp only [ByteArray.size_append,bs_size,sizeC,sizeT,List.length_cons,List.length_nil];omega) ?_;refine bS mk_24 (vs:=[Value.string ({ data := #[42] }++key++{ data := #[32] }++dec)]) ?_;intro b68 w68 g68 l68 e68 B68;have G68:=Grow.of_blk (n:=1) (enc:=eS) (xs:=[{ data := #[42] }++key++{ data := #[32] }++dec]) eS_len B68 g68 rfl (by decide);refine SemK.appendArr0 (enc:=eS) mk_24 eS_len (hG'.ext (xt (xt E65 e66) e68)) (G68.own.arr eS_len) (by intro y _;simp [eS,cellish]) (by omega) (by omega) (Below.size (xt (xt (xt hX E65) e66) e68)) ?_;intro a69 c69 w69 G69 m69 i69;refine SemK.add (((k+1:Nat):Int)) (by omega) (by omega) (by omega) ?_;refine ⟨k+1,by omega,_,_,rfl,by omega,?_,?_,?_,(xm (xt (xt (xt hX E65) e66) e68) m69 (blkIn_new hG'.new))⟩
        · rw [hnt];exact G69
        · intro j hj;rcases i69 j hj with h1 | h1
          · exact hj3 j h1
          · have:=M.size;have:=Below.size (xt (xt E65 e66) e68);omega
        · exact M.trans ((Ext.mod (xt (xt E65 e66) e68)).trans (m69.mono fun j hj hk=>by
            have:=hj3 j hj;have:=hk.1;have:=hk.2;omega))
    · obtain rfl:k=m46:=by omega
      rw [List.take_of_length_le (by omega)] at hG';have hdl:=decB_len (n:=sumM xs s) (by omega) (by omega);have hSx:∀ u,Ext w u→Does Tryz.prog 135 [.agg ⟨setE f b d⟩,.slice a n c] u (fun v w'=>v = .string (decB (sumM xs s))∧Ext u w'):=fun u e=>impl_sumText (h.ext e) (hA.ext e) hd hs hnu (hT.ext e);generalize hD:decB (sumM xs s)=dec at *;refine IfB.no (by omega) ?_;refine jA (n:=4) (B41.ext (xt e42 hX)).cells rfl ?_;refine (hSx _ hXw).mono ?_;rintro _ w52 ⟨rfl,e51⟩;refine SemK.cat (by simp only [ByteArray.size_append,bs_size,sizeC,sizeT,List.length_cons,List.length_nil];omega) ?_;refine bS mk_24 (vs:=[Value.string ({ data := #[42,42,32] }++dec)]) ?_;intro b53 w53 g53 l53 e53 B53;have G53:=Grow.of_blk (n:=1) (enc:=eS) (xs:=[{ data := #[42,42,32] }++dec]) eS_len B53 g53 rfl (by decide);refine SemK.appendArr0 (enc:=eS) mk_24 eS_len (hG'.ext (xt e51 e53)) (G53.own.arr eS_len) (by intro y _;simp [eS,cellish]) (by omega) (by omega) (Below.size (xt (xt hX e51) e53)) ?_;intro a54 c54 w54 G54 m54 i54;exact ⟨_,_,_,rfl,(G54.base (Below.size E43)),by omega,(xm (xt (xt hXw e51) e53) m54 (fun k hk=>Nat.le_trans (Below.size E43) (blkIn_new hG'.new k hk)))⟩
  · have he:tabM xs f s=([],tabCode xs f s):=by simp [tabM,hz]
    rw [he];refine oV Tryz.func71 ?_;refine SemK.box ?_;intro b1 w1 g1 l1 e1 B1;refine jA (n:=4) B1.cells rfl ?_;refine (hC _ e1).mono ?_;rintro _ w3 ⟨rfl,e2⟩;refine IfB.eqt (by simp [*];done) ?_;refine ⟨_,_,_,rfl,?_,by omega,(xt e1 e2)⟩
    · exact Grow.nil
end Go.Proofs.YthadkoinmohmlaaGreatDoor
namespace Go.M
open Go Go.Vc
end Go.M
namespace Go.M
open Go Go.Vc
def linesT (ls:List ByteArray):List UInt8:=(ls.map fun l=>l.data.toList++[10]).flatten
theorem bs_toList (l:List UInt8):(bs l).data.toList=l:=by simp [bs]
theorem cut_at {c:UInt8} {p r:List UInt8} (h:c∉p):Lib.cut (p++c :: r) [c]=(p,r,true):=by
  unfold Lib.cut;rw [Lib.index_one,indexByte_at c r p h,if_pos (by omega)];simp
theorem cut_no {c:UInt8} {p:List UInt8} (h:c∉p):Lib.cut p [c]=(p,[],false):=by
  unfold Lib.cut;rw [Lib.index_one,indexByte_no c p h,if_neg (by omega)]
end Go.M
namespace Go.Proofs.YthadkoinmohmlaaGreatDoor
open Go Go.RowKit Go.Vc Go.M Go.Shelf Go.Proofs
end Go.Proofs.YthadkoinmohmlaaGreatDoor
