/- Contracts of functions of the given program, of the reference and of the laws: each says what a call returns, for all arguments that meet the premises that the theorem itself names. -/
import Derived.Test.YthadkoinmohmlaaGreatDoorSortS
import Derived.Test.YthadkoinmohmlaaGreatDoorJournalM
namespace Go.M
open Go Go.Vc
theorem sd_take {d:List (List Int)} {f:TField} {k i:Nat} {c:List Int} (hi:(placesM (d.map (ckey f)) (fLen f))[k]? = some (i:Int)) (hc:d[i]? = some c):(sdM d f).take (k+1)=(sdM d f).take k++[c]:=by
  have:(sdM d f)[k]? = some c:=by
    unfold sdM;rw [List.getElem?_map,hi,Option.map_some,Int.toNat_natCast,List.getD_eq_getElem?_getD,hc];rfl
  rw [List.take_add_one,this];rfl
theorem places_at {d:List (List Int)} {f:TField} {k:Nat} {z:Int} (hi:(placesM (d.map (ckey f)) (fLen f))[k]? = some z):∃ i:Nat,z=i∧i<d.length:=by
  have:=places_mem (List.mem_of_getElem? hi);rw [List.length_map] at this;exact ⟨z.toNat,by omega,this.2⟩
def startsI (S:List (List Int)) (k:Nat):List Int:=(startsN S k).map fun (s:Nat)=>(s:Int)
theorem startsI_no {S:List (List Int)} {k:Nat} (h:startB S k=false):startsI S (k+1)=startsI S k:=by simp [startsI,startsN_succ,h]
theorem startsI_yes {S:List (List Int)} {k:Nat} (h:startB S k=true):startsI S (k+1)=startsI S k++[(k:Int)]:=by simp [startsI,startsN_succ,h]
theorem startB_zero (S:List (List Int)):startB S 0=true:=by simp [startB]
theorem startB_at {d:List (List Int)} {f:TField} {k:Nat} {c c':List Int} (h:d[k]? = some c) (h':d[k+1]? = some c'):startB (d.map (ckey f)) (k+1) = !decide (cmpR (ckey f c) (ckey f c')=0):=by
  unfold startB;rw [getD_map h',Nat.add_sub_cancel,getD_map h];simp
theorem startsI_len (S:List (List Int)) (k:Nat):(startsI S k).length≤k:=by
  unfold startsI startsN;rw [List.length_map];have:=List.length_filter_le (startB S) (List.range k);rw [List.length_range] at this;exact this
end Go.M
namespace Go.Proofs.YthadkoinmohmlaaGreatDoor
open Go Go.RowKit Go.Vc Go.M
theorem impl_sortedBy {w:World} {a:Option Addr} {n c:Nat} {xs:List (List Int)} (h:ArrS RCard w a n xs) {f:TField} (hd:deckB xs=true) (hf:fieldB f (widthOf xs)=true) :
    Does Tryz.prog 125 [.slice a n c,.agg ⟨f.enc⟩] w (fun v w'=>∃ a' c',v = .slice a' n c'∧n≤c'∧OwnN OCard w' w.heap.size w'.heap.size a' n 131 (sdM xs f)∧Ext w w'):=by
  have hn:=h.len;have hm:=h.le;have hdm:=deckB_mem hd;have h40:=hdm.1;have hO:∀ u,Ext w u→Does Tryz.prog 195 [.slice a n c,.agg ⟨f.enc⟩] u (fun v w'=>∃ a' c',v = .slice a' n c'∧NewAt u.heap.size a'∧Own eI w' a' n 2 (placesM (xs.map (ckey f)) (fLen f))∧Ext u w'):=fun u e=>impl_orderBy (h.ext e) hd hf;have hpl:=places_len (xs.map (ckey f)) (fLen f);rw [List.length_map] at hpl;have hsl:=sd_len xs f;have h':=h;obtain ⟨hs,hV,hE⟩:=h';have hl:=hV.len;refine oV Tryz.func125 ?_;refine SemK.box ?_;intro b1 w1 g1 l1 e1 B1;refine bS mk_93 (vs:=[]) ?_;intro b8 w8 g8 l8 e8 B8;have G8:GrowN OCard w1.heap.size 131 w8 (some ⟨b8,0,none⟩) 0 0 []:=GrowN.new0 B8 g8;refine jA (n:=2) (B1.ext e8).cells rfl ?_;refine (hO _ (xt e1 e8)).mono ?_;rintro _ w10 ⟨a2,c2,rfl,N2,O2,e10⟩;have G10:=G8.ext e10;refine lR [0,5,11,12,13] (fun (k:Nat) vs w'=>∃ a3 c3,vs=[.slice a n c,.slice a3 k c3,.slice a2 n c2,.int .i64 n,.int .i64 k]∧k≤n∧GrowN OCard w1.heap.size 131 w' a3 k c3 ((sdM xs f).take k)∧Arr eI 1 w' a2 n (placesM (xs.map (ckey f)) (fLen f))∧Apart a3 a2∧NewAt w1.heap.size a3∧Ext w1 w'∧(∀ x,a2=some x→x.block<w'.heap.size)) (fun k=>n - k) 0 ⟨_,_,rfl,by omega,G10,O2.arr eI_len,?_,NewAt.some g8,xt e8 e10,?_⟩ ?_
  · intro y hy hk;obtain ⟨x,hx,he⟩:=hk;cases hx
    have:=N2 y hy;have he:y.block=b8:=he;omega
  · exact fun x hx=>Nat.lt_of_lt_of_le (O2.lt x hx) (Nat.le_refl _)
  rintro k g _ w11 ⟨a3,c3,rfl,hk,hG,hA,hap,hnew,hX,hA2⟩;have hXw:=xt e1 hX;rcases Nat.lt_or_ge k n with hkn | hkn
  · obtain ⟨z,hz⟩:=get_of_lt (l:=placesM (xs.map (ckey f)) (fLen f)) (k:=k) (by omega);obtain ⟨i,rfl,hi⟩:=places_at hz;obtain ⟨d,hdd⟩:=get_of_lt (l:=hs) (k:=i) (by omega);obtain ⟨y,hy,R⟩:=hE.get hdd;have hst:=sd_take hz hy;have hyb:=cardB_b (hdm.2 y (List.mem_of_getElem? hy)).1;have hyl:=R.1.len;have hN:∀ u,Ext w u→Does Tryz.prog 108 [.agg ⟨eH d⟩] u (fun v w'=>∃ a' c',v = .agg ⟨eH ⟨a',d.n,c'⟩⟩∧NewAt u.heap.size a'∧Grow eI 1 u.heap.size 2 w' a' d.n c' y∧Ext u w'):=fun u e=>impl_newCard ⟨R.1.ext e,R.2⟩ (by omega);refine IfB.yes (by omega) ?_;refine jI hA k rfl hz ?_;intro b42 o42 ha42 hb42;refine jO hb42 rfl ?_;refine jI (hV.ext hXw) i rfl hdd ?_;intro b44 o44 ha44 hb44;refine jA (n:=1) hb44 rfl ?_;refine (hN _ hXw).mono ?_;rintro _ w50 ⟨a'45,c'46,rfl,N47,G48,e49⟩;refine SemK.buildSlice mk_93 (vs:=[Value.agg ⟨eH ⟨a'45,d.n,c'46⟩⟩]) (by rfl) (by rfl) (by simp [Value.cells,eH]) (by decide) ?_;intro b51 w51 g51 l51 e51 B51;have C51:Cells w51 b51 0 (eH ⟨a'45,d.n,c'46⟩):=B51.cells;have hs1:=hX.size;refine SemK.appendN mk_93 rfl hG hs1 (xt e49 e51) (OA.of ((G48.ext e51).own) G48.le.1) (InIv.blks N47 (fun x hx=>Nat.lt_of_lt_of_le (G48.lt x hx) e51.size)) C51 (by omega) (by omega) ?_;intro a52 c52 w52 G52 m52 i52;refine SemK.add (((k+1:Nat):Int)) (by omega) (by omega) (by omega) ?_;refine ⟨k+1,by omega,_,_,rfl,by omega,by rw [hst];exact G52,(hA.ext (xt e49 e51)).mod m52 hap,?_,?_,xm (xt (xt hX e49) e51) m52 (blkIn_new hnew),fun x hx=>by have:=hA2 x hx;have:=e49.size;have:=e51.size;have:=m52.size;omega⟩
    · exact Apart.app hap i52 (fun x hx=>by
        have:=hA2 x hx;have:=e49.size;have:=e51.size;omega)
    · intro x hx;rcases i52 x.block ⟨x,hx,rfl⟩ with hk2 | hk2
      · exact blkIn_new hnew _ hk2
      · have:=e49.size;have:=e51.size;omega
  · obtain rfl:k=n:=by omega
    rw [List.take_of_length_le (by omega)] at hG;refine IfB.no (by omega) ?_;refine ⟨_,_,rfl,?_,?_,hXw⟩
    · exact hG.le.1
    · exact hG.ownN.wide (Below.size e1) (Nat.le_refl _)
theorem impl_groupsOf {w:World} {a:Option Addr} {n c:Nat} {xs:List (List Int)} (h:ArrS RCard w a n xs) {f:TField} (hf:∀ x∈xs,fieldB f x.length=true) (hn2:n≤40) :
    Does Tryz.prog 208 [.slice a n c,.agg ⟨f.enc⟩] w (fun v w'=>∃ a' m c',v = .slice a' m c'∧NewAt w.heap.size a'∧Own eI w' a' m 2 (startsI (xs.map (ckey f)) n)∧Ext w w'):=by
  have hn:=h.len;have hm:=h.le;obtain ⟨hs,hV,hE⟩:=h;have hl:=hV.len;refine oV Tryz.func208 ?_;refine SemK.box ?_;intro b1 w1 g1 l1 e1 B1;refine bS mk_62 (vs:=[]) ?_;intro b8 w8 g8 l8 e8 B8;have G8:=Grow.new0 (enc:=eI) eI_len B8 g8;refine lR [0,3,5,9,10,11] (fun (k:Nat) vs w'=>∃ a3 m3 c3,vs=[.slice a n c,.pointer (some ⟨b1,0,none⟩),.slice a3 m3 c3,.slice a n c,.int .i64 n,.int .i64 k]∧k≤n∧Grow eI 1 w1.heap.size 2 w' a3 m3 c3 (startsI (xs.map (ckey f)) k)∧Ext w1 w') (fun k=>n - k) 0 ⟨_,_,_,rfl,by omega,G8,e8⟩ ?_;rintro k g _ w11 ⟨a3,m3,c3,rfl,hk,hG,hX⟩;have hXw:=xt e1 hX;have lnG:=hG.len;have hsl:=startsI_len (xs.map (ckey f)) k;rcases Nat.lt_or_ge k n with hkn | hkn
  · obtain ⟨d,hdd⟩:=get_of_lt (l:=hs) (k:=k) (by omega);obtain ⟨y,hy,R⟩:=hE.get hdd;have fy:=hf y (List.mem_of_getElem? hy);rcases Nat.eq_zero_or_pos k with rfl | hk0
    · have hst:=startsI_yes (startB_zero (xs.map (ckey f)));refine IfB.yes (by omega) ?_;refine jI (hV.ext hXw) 0 rfl hdd ?_;intro b13 o13 ha13 hb13;refine jA (n:=1) hb13 rfl ?_;refine jN (z := .agg #[.slice none 0 0]) ?_;intro b14 w14 g14 l14 e14 B14;refine jS (vs:=[Value.slice d.a d.n d.c]) B14 rfl rfl (by simp [cellish]) ?_;intro w15 c15 B15;refine dH [(0,true),(1,true),(2,true),(3,false),(4,false),(5,false),(6,false),(7,false),(8,false),(9,true),(10,true),(11,true),(12,true)] ?_;intro w16 e16;refine bS mk_62 (vs:=[Value.int IntKind.i64 ↑0]) ?_;intro b17 w17 g17 l17 e17 B17;have G17:=Grow.of_blk (n:=1) (enc:=eI) (xs:=[↑0]) eI_len B17 g17 rfl (by decide);refine SemK.appendArr0 (enc:=eI) mk_62 eI_len (hG.ext (xt (xt (xb e14 c15.but g14) e16) e17)) (G17.own.arr eI_len) (by intro y _;simp [eI,cellish]) (by omega) (by omega) (Below.size (xt (xt (xb (xt hX e14) c15.but (Nat.le_trans (Below.size hX) g14)) e16) e17)) ?_;intro a18 c18 w18 G18 m18 i18;refine SemK.add (((0+1:Nat):Int)) (by omega) (by omega) (by omega) ?_;refine ⟨0+1,by omega,_,_,_,rfl,by omega,by rw [hst];exact G18,xm (xt (xt (xb (xt hX e14) c15.but (Nat.le_trans (Below.size hX) g14)) e16) e17) m18 (blkIn_new hG.new)⟩
    · obtain ⟨k,rfl⟩:∃ j,k=j+1:=⟨k - 1,by omega⟩;obtain ⟨d',hdd'⟩:=get_of_lt (l:=hs) (k:=k) (by omega);obtain ⟨y',hy',R'⟩:=hE.get hdd';have fy':=hf y' (List.mem_of_getElem? hy');have hsb:=startB_at (f:=f) hy' hy;have hC:∀ u,Ext w u→Does Tryz.prog 265 [.agg ⟨eH d'⟩,.agg ⟨eH d⟩,.agg ⟨f.enc⟩] u (fun v w'=>v = .int .i64 (cmpR (ckey f y') (ckey f y))∧Ext u w'):=fun u e=>impl_compareFields ⟨R'.1.ext e,R'.2⟩ ⟨R.1.ext e,R.2⟩ fy' fy;by_cases hz:cmpR (ckey f y') (ckey f y)=0
      · rw [hz] at hC hsb;have hst:=startsI_no (S:=xs.map (ckey f)) (k:=k+1) (by rw [hsb];rfl);refine IfB.yes (by omega) ?_;refine jI (hV.ext hXw) (k+1) rfl hdd ?_;intro b13 o13 ha13 hb13;refine jA (n:=1) hb13 rfl ?_;refine jN (z := .agg #[.slice none 0 0]) ?_;intro b14 w14 g14 l14 e14 B14;refine jS (vs:=[Value.slice d.a d.n d.c]) B14 rfl rfl (by simp [cellish]) ?_;intro w15 c15 B15;refine dH [(0,true),(1,true),(2,true),(3,false),(4,false),(5,false),(6,false),(7,false),(8,false),(9,true),(10,true),(11,true),(12,true)] ?_;intro w16 e16;refine DSemK.sub (((k:Nat):Int)) (by omega) (by omega) (by omega) ?_;refine dI (hV.ext (xb (xt hXw e14) c15.but (Nat.le_trans (Below.size hXw) g14))) k rfl hdd' ?_;intro b18 o18 ha18 hb18;refine dA (n:=1) hb18 rfl ?_;refine dA (n:=1) B15.cells rfl ?_;refine jA (n:=2) (B1.ext (xt (xb (xt hX e14) c15.but (Nat.le_trans (Below.size hX) g14)) e16)).cells rfl ?_;refine ⟨e16,?_⟩;refine (hC _ (xt (xb (xt hXw e14) c15.but (Nat.le_trans (Below.size hXw) g14)) e16)).mono ?_;rintro _ w20 ⟨rfl,e19⟩;refine ⟨(xt e16 e19),?_⟩;refine SemK.add (((k+1+1:Nat):Int)) (by omega) (by omega) (by omega) ?_;refine ⟨k+1+1,by omega,_,_,_,rfl,by omega,by rw [hst];exact hG.ext (xt (xt (xb e14 c15.but g14) e16) e19),xt (xt (xb (xt hX e14) c15.but (Nat.le_trans (Below.size hX) g14)) e16) e19⟩
      · have hst:=startsI_yes (S:=xs.map (ckey f)) (k:=k+1) (by rw [hsb];simp [hz]);refine IfB.yes (by omega) ?_;refine jI (hV.ext hXw) (k+1) rfl hdd ?_;intro b13 o13 ha13 hb13;refine jA (n:=1) hb13 rfl ?_;refine jN (z := .agg #[.slice none 0 0]) ?_;intro b14 w14 g14 l14 e14 B14;refine jS (vs:=[Value.slice d.a d.n d.c]) B14 rfl rfl (by simp [cellish]) ?_;intro w15 c15 B15;refine dH [(0,true),(1,true),(2,true),(3,false),(4,false),(5,false),(6,false),(7,false),(8,false),(9,true),(10,true),(11,true),(12,true)] ?_;intro w16 e16;refine DSemK.sub (((k:Nat):Int)) (by omega) (by omega) (by omega) ?_;refine dI (hV.ext (xb (xt hXw e14) c15.but (Nat.le_trans (Below.size hXw) g14))) k rfl hdd' ?_;intro b18 o18 ha18 hb18;refine dA (n:=1) hb18 rfl ?_;refine dA (n:=1) B15.cells rfl ?_;refine jA (n:=2) (B1.ext (xt (xb (xt hX e14) c15.but (Nat.le_trans (Below.size hX) g14)) e16)).cells rfl ?_;refine ⟨e16,?_⟩;refine (hC _ (xt (xb (xt hXw e14) c15.but (Nat.le_trans (Below.size hXw) g14)) e16)).mono ?_;rintro _ w20 ⟨rfl,e19⟩;refine ⟨(xt e16 e19),?_⟩;refine IfB.eqt (by simp [*];done) ?_;refine bS mk_62 (vs:=[Value.int IntKind.i64 ↑(k+1)]) ?_;intro b21 w21 g21 l21 e21 B21;have G21:=Grow.of_blk (n:=1) (enc:=eI) (xs:=[↑(k+1)]) eI_len B21 g21 rfl (by decide);refine SemK.appendArr0 (enc:=eI) mk_62 eI_len (hG.ext (xt (xt (xt (xb e14 c15.but g14) e16) e19) e21)) (G21.own.arr eI_len) (by intro y _;simp [eI,cellish]) (by omega) (by omega) (Below.size (xt (xt (xt (xb (xt hX e14) c15.but (Nat.le_trans (Below.size hX) g14)) e16) e19) e21)) ?_;intro a22 c22 w22 G22 m22 i22;refine SemK.add (((k+1+1:Nat):Int)) (by omega) (by omega) (by omega) ?_;refine ⟨k+1+1,by omega,_,_,_,rfl,by omega,by rw [hst];exact G22,xm (xt (xt (xt (xb (xt hX e14) c15.but (Nat.le_trans (Below.size hX) g14)) e16) e19) e21) m22 (blkIn_new hG.new)⟩
  · obtain rfl:k=n:=by omega
    refine IfB.no (by omega) ?_;exact ⟨_,_,_,rfl,(hG.new.mono (Below.size e1)),hG.own,hXw⟩
end Go.Proofs.YthadkoinmohmlaaGreatDoor
namespace Go.Vc
open Go Go.RowKit
variable {P:Program}
theorem SemK.sliceU {α:Type} {enc:α→List Value} {t sz:Nat} (ht:elemSize P t=some sz) {w:World} {a:Option Addr} {n c:Nat} (l h:Nat) (hl:l≤h) (hh:h≤n) (hn:n≤c) {lo hi:Option Value} {k k':IntKind} (hlo:(lo=none∧l=0)∨lo=some (.int k l)) (hhi:(hi=none∧h=n)∨hi=some (.int k' h))
    {K:Value→World→Prop} (hK:∀ a',(∀ u (ys:List α),Arr enc sz u a n ys→Arr enc sz u a' (h - l) ((ys.drop l).take (h - l)))→K (.slice a' (h - l) (c - l)) w):SemK P (Instr.sliceAt t (.slice a n c) lo hi none) w K :=
  SemK.of (run_slice_arr ht hl hh hn hlo hhi w) (hK _ (fun _ _ hA=>hA.sub hl hh hn))
theorem ElR.part {α:Type} {R:Rd α} {w:World} {hs:List Hd} {xs:List α} (h:ElR R w hs xs) (l m:Nat):ElR R w ((hs.drop l).take m) ((xs.drop l).take m):=by
  refine ⟨by simp [h.1],fun i d x hd hx=>?_⟩;rw [List.getElem?_take] at hd hx;split at hd
  · rename_i hlt;rw [if_pos hlt] at hx;rw [List.getElem?_drop] at hd hx;exact h.2 _ d x hd hx
  · cases hd
end Go.Vc
namespace Go.M
open Go Go.Vc
theorem startsI_get {S:List (List Int)} {n k s:Nat} (h:(startsN S n)[k]? = some s):(startsI S n)[k]? = some (s:Int):=by simp [startsI,h]
theorem startsI_length (S:List (List Int)) (n:Nat):(startsI S n).length=(startsN S n).length:=by simp [startsI]
theorem groups_len (d:List (List Int)) (f:TField):(groupsM d f).length=(starts (d.map (ckey f))).length:=by simp [groupsM]
theorem groups_at {d:List (List Int)} {f:TField} {k s:Nat} (h:(starts (d.map (ckey f)))[k]? = some s):(groupsM d f)[k]? = some ((d.drop s).take (endAt (starts (d.map (ckey f))) d.length k - s)):=by
  have hk:=(List.getElem?_eq_some_iff.1 h).1;unfold groupsM;rw [List.getElem?_map,List.getElem?_range hk,Option.map_some,getD_of h]
section
variable {d:List (List Int)} {f:TField} (hd:deckB d=true) (hf:fieldB f (widthOf d)=true)
end
end Go.M
namespace Go.Proofs.YthadkoinmohmlaaGreatDoor
open Go Go.RowKit Go.Vc Go.M
theorem impl_sizeCard (a:Option Addr) (n c:Nat) (w:World):Does Tryz.prog 78 [.slice a n c] w (fun v w'=>v = .int .i64 n∧w=w'):=by
  refine oV Tryz.func78 ?_;exact ⟨rfl,rfl⟩
theorem impl_groups {w:World} {a:Option Addr} {n c:Nat} {xs:List (List Int)} (h:ArrS RCard w a n xs) {f:TField} (hf:∀ x∈xs,fieldB f x.length=true) (hn2:n≤40) (hnc:n≤c) :
    Does Tryz.prog 133 [.slice a n c,.agg ⟨f.enc⟩] w (fun v w'=>∃ a' m c',v = .slice a' m c'∧(∀ u,Mod (fun j=>¬ Iv w.heap.size w'.heap.size j) w' u→ArrS RCard u a n xs→ArrS RDeck u a' m (groupsM xs f))∧Ext w w'):=by
  have hn:=h.len;have hm:=h.le;have hO:∀ u,Ext w u→Does Tryz.prog 208 [.slice a n c,.agg ⟨f.enc⟩] u (fun v w'=>∃ a' m c',v = .slice a' m c'∧NewAt u.heap.size a'∧Own eI w' a' m 2 (startsI (xs.map (ckey f)) n)∧Ext u w'):=fun u e=>impl_groupsOf (h.ext e) hf hn2;obtain ⟨hs,hV,hE⟩:=h;have hl:=hV.len;have hSl:(xs.map (ckey f)).length=n:=by rw [List.length_map];exact hn
  have hst:starts (xs.map (ckey f))=startsN (xs.map (ckey f)) n:=by unfold starts;rw [hSl]
  have hgl:=groups_len xs f;rw [hst] at hgl;have hil:=startsI_length (xs.map (ckey f)) n;refine oV Tryz.func133 ?_;refine SemK.box ?_;intro b1 w1 g1 l1 e1 B1;refine bS mk_26 (vs:=[]) ?_;intro b8 w8 g8 l8 e8 B8;have G8:=Grow.new0 (enc:=eH) eH_len B8 g8;refine jA (n:=2) (B1.ext e8).cells rfl ?_;refine (hO _ (xt e1 e8)).mono ?_;rintro _ w10 ⟨a2,m,c2,rfl,N2,O2,e10⟩;have hml:=O2.1;have hil2:=startsI_len (xs.map (ckey f)) n;refine lR [0,5,6,14,15,16] (fun (k:Nat) vs w'=>∃ a3 c3 hds,vs=[.slice a n c,.slice a3 k c3,.slice a2 m c2,.slice a2 m c2,.int .i64 m,.int .i64 k]∧k≤m∧Grow eH 1 w1.heap.size 93 w' a3 k c3 hds∧(∀ (i:Nat) (d:Hd),hds[i]? = some d→∃ G,(groupsM xs f)[i]? = some G∧∀ u,ArrS RCard u a n xs→RDeck u d G)∧Arr eI 1 w' a2 m (startsI (xs.map (ckey f)) n)∧Apart a3 a2∧NewAt w1.heap.size a3∧Ext w1 w'∧(∀ x,a2=some x→x.block<w'.heap.size)) (fun k=>m - k) 0 ⟨_,_,[],rfl,by omega,G8.ext e10,?_,O2.arr eI_len,?_,NewAt.some g8,xt e8 e10,fun x hx=>O2.lt x hx⟩ ?_
  · intro i d hi;simp at hi
  · intro y hy hk;obtain ⟨x,hx,he⟩:=hk;cases hx
    have:=N2 y hy;have he:y.block=b8:=he;omega
  rintro k g _ w11 ⟨a3,c3,hds,rfl,hk,hG,hall,hA,hap,hnew,hX,hA2⟩;have hXw:=xt e1 hX;have hdl:=hG.len;rcases Nat.lt_or_ge k m with hkn | hkn
  · obtain ⟨s,hs0⟩:=get_of_lt (l:=startsN (xs.map (ckey f)) n) (k:=k) (by omega);have hsI:=startsI_get hs0;have hs1:(starts (xs.map (ckey f)))[k]? = some s:=by rw [hst];exact hs0
    have hend:=end_le hs1;rw [hSl] at hend;have hga:=groups_at hs1;rw [hn] at hga;have hnext:∀ (a9:Option Addr) (q:Nat),q=endAt (starts (xs.map (ckey f))) n k→(∀ u (ys:List Hd),Arr eH 1 u a n ys→Arr eH 1 u a9 (q - s) ((ys.drop s).take (q - s)))→∀ (i:Nat) (d:Hd),(hds++[⟨a9,q - s,c - s⟩])[i]? = some d→∃ G,(groupsM xs f)[i]? = some G∧∀ u,ArrS RCard u a n xs→RDeck u d G:=fun a9 q hq A9 i d hi=>by
      rcases Nat.lt_or_ge i k with hik | hik
      · rw [List.getElem?_append_left (by omega)] at hi;exact hall i d hi
      · have hik2:i=k:=by
          have:=(List.getElem?_eq_some_iff.1 hi).1;rw [List.length_append] at this;simp at this;omega
        subst hik2;rw [List.getElem?_append_right (by omega),show i - hds.length=0 by omega] at hi;simp at hi;subst hi;subst hq;exact ⟨_,hga,fun u hu=>by
          obtain ⟨hs',hV',hE'⟩:=hu;exact ⟨⟨_,A9 u hs' hV',hE'.part _ _⟩,by show _ - s≤c - s;omega⟩⟩
    rcases Nat.lt_or_ge (k+1) m with hkm | hkm
    · obtain ⟨q,hq0⟩:=get_of_lt (l:=startsN (xs.map (ckey f)) n) (k:=k+1) (by omega);have hqI:=startsI_get hq0;have hqe:q=endAt (starts (xs.map (ckey f))) n k:=by
        unfold endAt;rw [hst,getD_of hq0]
      rw [← hqe] at hend;refine IfB.yes (by omega) ?_;refine jI hA k rfl hsI ?_;intro b13 o13 ha13 hb13;refine jO hb13 rfl ?_;refine (impl_sizeCard _ _ _ _).mono ?_;rintro _ _ ⟨rfl,rfl⟩;refine SemK.add (((k+1:Nat):Int)) (by omega) (by omega) (by omega) ?_;refine IfB.yes (by omega) ?_;refine SemK.add (((k+1:Nat):Int)) (by omega) (by omega) (by omega) ?_;refine jI hA (k+1) rfl hqI ?_;intro b16 o16 ha16 hb16;refine jO hb16 rfl ?_;refine SemK.sliceU (enc:=eH) (sz:=1) (by kernel_rfl) s q (by omega) (by omega) (by omega) (.inr (by rfl)) (.inr (by rfl)) ?_;intro a17 A17;refine bS mk_26 (vs:=[Value.slice a17 (q - s) (c - s)]) ?_;intro b18 w18 g18 l18 e18 B18;have C18:Cells w18 b18 0 (flat eH [⟨a17,q - s,c - s⟩]):=B18.cells;refine SemK.appendAt mk_26 eH_len (hG.ext e18) (ys:=[⟨a17,q - s,c - s⟩]) (m:=1) C18 rfl (by simp [flat,eH,cellish]) (by omega) (by omega) (Below.size (xt hX e18)) ?_;intro a19 c19 w19 G19 m19 i19;refine SemK.add (((k+1:Nat):Int)) (by omega) (by omega) (by omega) ?_;refine ⟨k+1,by omega,_,_,_,rfl,by omega,G19,hnext a17 q hqe A17,(hA.ext e18).mod m19 hap,Apart.app hap i19 (fun x hx=>by have:=hA2 x hx;have:=e18.size;omega),fun x hx=>?_,xm (xt hX e18) m19 (blkIn_new hnew),fun x hx=>by have:=hA2 x hx;have:=e18.size;have:=m19.size;omega⟩;rcases i19 x.block ⟨x,hx,rfl⟩ with hk2 | hk2
      · exact blkIn_new hnew _ hk2
      · have:=hX.size;have:=e18.size;omega
    · have hqe:n=endAt (starts (xs.map (ckey f))) n k:=by
        unfold endAt;rw [List.getD_eq_getElem?_getD,hst,List.getElem?_eq_none (by omega)];rfl
      refine IfB.yes (by omega) ?_;refine jI hA k rfl hsI ?_;intro b13 o13 ha13 hb13;refine jO hb13 rfl ?_;refine (impl_sizeCard _ _ _ _).mono ?_;rintro _ _ ⟨rfl,rfl⟩;refine SemK.add (((k+1:Nat):Int)) (by omega) (by omega) (by omega) ?_;refine IfB.no (by omega) ?_;refine SemK.sliceU (enc:=eH) (sz:=1) (by kernel_rfl) s n (by omega) (by omega) (by omega) (.inr (by rfl)) (.inr (by rfl)) ?_;intro a15 A15;refine bS mk_26 (vs:=[Value.slice a15 (n - s) (c - s)]) ?_;intro b16 w16 g16 l16 e16 B16;have C16:Cells w16 b16 0 (flat eH [⟨a15,n - s,c - s⟩]):=B16.cells;refine SemK.appendAt mk_26 eH_len (hG.ext e16) (ys:=[⟨a15,n - s,c - s⟩]) (m:=1) C16 rfl (by simp [flat,eH,cellish]) (by omega) (by omega) (Below.size (xt hX e16)) ?_;intro a19 c19 w19 G19 m19 i19;refine SemK.add (((k+1:Nat):Int)) (by omega) (by omega) (by omega) ?_;refine ⟨k+1,by omega,_,_,_,rfl,by omega,G19,hnext a15 n hqe A15,(hA.ext e16).mod m19 hap,Apart.app hap i19 (fun x hx=>by have:=hA2 x hx;have:=e16.size;omega),fun x hx=>?_,xm (xt hX e16) m19 (blkIn_new hnew),fun x hx=>by have:=hA2 x hx;have:=e16.size;have:=m19.size;omega⟩;rcases i19 x.block ⟨x,hx,rfl⟩ with hk2 | hk2
      · exact blkIn_new hnew _ hk2
      · have:=hX.size;have:=e16.size;omega
  · obtain rfl:k=m:=by omega
    refine IfB.no (by omega) ?_;refine ⟨_,_,_,rfl,fun u M hu=>⟨hds,(hG.own.arr eH_len).mod M (fun x hx hk=>hk ⟨Nat.le_trans (Below.size e1) (hnew x hx),hG.lt x hx⟩),by omega,fun i d x hd hx=>?_⟩,hXw⟩;obtain ⟨G,hG2,hR⟩:=hall i d hd;rw [hG2] at hx;cases hx
    exact hR _ hu
end Go.Proofs.YthadkoinmohmlaaGreatDoor
