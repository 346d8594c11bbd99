/- Contracts of functions of the given program, of the reference and of the laws: each says what a call returns, for all arguments that meet the premises that the theorem itself names. -/
import Derived.Test.YthadkoinmohmlaaGreatDoorShelf
import Derived.Test.YthadkoinmohmlaaGreatDoorVcApp
import Derived.Test.YthadkoinmohmlaaGreatDoorBasics
import Derived.Test.YthadkoinmohmlaaGreatDoorJournalM
import Derived.Test.YthadkoinmohmlaaGreatDoorVcWrite
namespace Go.Proofs.YthadkoinmohmlaaGreatDoor
open Go Go.RowKit Go.Vc Go.M Go.Shelf Go.Proofs
theorem impl_Decimal {n:Int} (hn:i64ok n) {w:World} (hT:Pow w):Does Tryz.prog 115 [.int .i64 n] w (fun v w'=>v = .string (decB n)∧Ext w w'):=by
  refine oV Tryz.func115 ?_;refine (lib_FormatInt hn hT).mono ?_;rintro _ w1 ⟨rfl,e1⟩;exact ⟨rfl,e1⟩
theorem spec_l01Dec {n:Int} (hn:i64ok n) (w:World):Does Tryz.prog 151 [.int .i64 n] w (fun v w'=>v = .string (decB n)∧Ext w w'):=by
  obtain ⟨hn1,hn2⟩:=hn;have hlen:∀ (k:Int) (out:List UInt8),digs n.natAbs []=digs k.natAbs out→out.length≤20:=by
    intro k out h;have h2:=congrArg List.length h;rw [digs_digsD,digs_digsD] at h2;have:=digsD_len n.natAbs 20 (by omega);simp at h2;omega
  refine oV Tryz.func151 ?_;refine bS mk_22 (vs:=[]) ?_;intro b3 w3 g3 l3 e3 B3;have G3:=Grow.new0 (enc:=eB) eB_len B3 g3;refine lR [0,3,4] (fun (x:Int×List UInt8) vs w'=>∃ k out,x=(k,out)∧∃ a m c,vs=[.int .i64 n,.slice a m c,.int .i64 k]∧Grow eB 1 w.heap.size 5 w' a m c out∧digs n.natAbs []=digs k.natAbs out∧-9223372036854775808≤k∧k≤9223372036854775807∧Ext w w') (fun x=>x.1.natAbs) (n,[]) ⟨n,[],rfl,_,_,_,rfl,G3,rfl,hn1,hn2,e3⟩ ?_;rintro _ g vs w' ⟨k,out,rfl,a,m,c,rfl,G,hd,hk1,hk2,hE⟩;have hl:=hlen k out hd;have hm:=G.len;(conv=>whnf);with_reducible refine IfB.ndec (fun h0=>?_) (fun h0=>?_)
  · have hd2:=digs_step (k:=k.natAbs) (by omega) out;have t1:=tdiv_natAbs k;have t2:=tmod_natAbs k;refine SemK.remT (by omega) ?_;(conv=>whnf);have hS:(UInt8.ofNat (48+k.natAbs % 10)).toNat=48+k.natAbs % 10:=u8_digit _;with_reducible refine IfB.dec (fun hneg=>?_) (fun hneg=>?_)
    · refine SemK.neg ((k.tmod 10).natAbs:Int) (by omega) (by omega) (by omega) ?_;refine SemK.add ((UInt8.ofNat (48+k.natAbs % 10)).toNat:Int) (by omega) (by omega) (by omega) ?_;refine SemK.conv (k := .u8) (by kernel_rfl) (by kernel_rfl) (u8_wrap (by omega) (by omega)) ?_
      refine bS mk_22 (vs:=[.int .u8 (UInt8.ofNat (48+k.natAbs % 10)).toNat]) ?_;intro b4 w4 g4 l4 e4 B4;have G4:=Grow.of_blk (n:=1) (B:=w.heap.size) (enc:=eB) (xs:=[UInt8.ofNat (48+k.natAbs % 10)]) eB_len B4 (Nat.le_trans hE.size g4) rfl (by decide);refine SemK.appendArr0 (enc:=eB) mk_22 eB_len G4 ((G.ext e4).own.arr eB_len) (by intro y _;simp [eB,cellish]) (by omega) (by omega) (Nat.le_trans hE.size e4.size) ?_;intro a5 c5 w5 G5 M5 _;refine SemK.quoT hk1 hk2 (by decide) ?_;exact ⟨(k.tdiv 10,_),(by show (k.tdiv 10).natAbs<k.natAbs;omega),k.tdiv 10,_,rfl,_,_,_,rfl,G5,(by rw [hd,hd2,t1];rfl),(by omega),(by omega),xm (xt hE e4) M5 (blkIn_new (NewAt.some (Nat.le_trans hE.size g4)))⟩
    · refine SemK.add ((UInt8.ofNat (48+k.natAbs % 10)).toNat:Int) (by omega) (by omega) (by omega) ?_;refine SemK.conv (k := .u8) (by kernel_rfl) (by kernel_rfl) (u8_wrap (by omega) (by omega)) ?_
      refine bS mk_22 (vs:=[.int .u8 (UInt8.ofNat (48+k.natAbs % 10)).toNat]) ?_;intro b4 w4 g4 l4 e4 B4;have G4:=Grow.of_blk (n:=1) (B:=w.heap.size) (enc:=eB) (xs:=[UInt8.ofNat (48+k.natAbs % 10)]) eB_len B4 (Nat.le_trans hE.size g4) rfl (by decide);refine SemK.appendArr0 (enc:=eB) mk_22 eB_len G4 ((G.ext e4).own.arr eB_len) (by intro y _;simp [eB,cellish]) (by omega) (by omega) (Nat.le_trans hE.size e4.size) ?_;intro a5 c5 w5 G5 M5 _;refine SemK.quoT hk1 hk2 (by decide) ?_;exact ⟨(k.tdiv 10,_),(by show (k.tdiv 10).natAbs<k.natAbs;omega),k.tdiv 10,_,rfl,_,_,_,rfl,G5,(by rw [hd,hd2,t1];rfl),(by omega),(by omega),xm (xt hE e4) M5 (blkIn_new (NewAt.some (Nat.le_trans hE.size g4)))⟩
  · (conv=>whnf);have hk0:k=0:=by omega
    subst hk0;have ho:digs n.natAbs []=out:=hd;have hi:=itoa_digs n;with_reducible refine IfB.dec (fun h4=>?_) (fun h4=>?_)
    · (conv=>whnf);have h00:out=[]:=List.eq_nil_of_length_eq_zero (by omega);have hn0:n=0:=by
        apply Classical.byContradiction;intro hne;rw [h00,digs_digsD,digsD_step (by omega)] at ho;simp at ho
      subst hn0;exact ⟨by show _=Value.string (bs (Lib.itoa 0));rw [hi,if_pos rfl];rfl,hE⟩
    · (conv=>whnf);have hn0:¬ n=0:=fun h=>by
        subst h;have:out=[]:=ho.symm;subst this;simp at hm;omega
      rw [if_neg hn0,ho] at hi;with_reducible refine IfB.dec (fun h5=>?_) (fun h5=>?_)
      · (conv=>whnf);rw [if_pos h5] at hi;refine SemK.toStrG (by kernel_rfl) (by kernel_rfl) G ?_
        refine SemK.cat (by have : (bs out).size = out.length := bs_size out
                            have:(ByteArray.mk #[45]).size=1:=rfl;omega) ?_
        refine ⟨?_,hE⟩;congr 1;show bs [45]++bs out=bs (Lib.itoa n);rw [bs_append,hi];rfl
      · (conv=>whnf);rw [if_neg h5] at hi;refine SemK.toStrG (by kernel_rfl) (by kernel_rfl) G ?_;refine ⟨?_,hE⟩;congr 1;show bs out=bs (Lib.itoa n);rw [hi]
theorem spec_l01Split {s:ByteArray} (hs:s.size≤1048576) (c:UInt8) (w:World):Does Tryz.prog 40 [.string s,.int .u8 c.toNat] w (fun v w'=>∃ a n k,v = .slice a n k∧NewAt w.heap.size a∧Own eS w' a n 9 (splitS c s)∧Ext w w'):=by
  have hsz:s.data.toList.length=s.size:=by simp
  have hall:=splitS_len_le c s;refine oV Tryz.func40 ?_;refine bS mk_24 (vs:=[]) ?_;intro b1 w1 g1 l1 e1 B1;have G1:=Grow.new0 (enc:=eS) eS_len B1 g1;refine lR [0,1,5,6,7] (fun (x:List ByteArray×Nat×Nat) vs w'=>∃ out f i,x=(out,f,i)∧∃ a n k,vs=[.string s,.int .u8 c.toNat,.slice a n k,.int .i64 f,.int .i64 i]∧Grow eS 1 w.heap.size 9 w' a n k out∧f≤i∧i≤s.size ∧
    splitS c s=out++(splitA c ((s.data.toList.drop f).take (i - f)) (s.data.toList.drop i)).map bs∧Ext w w') (fun x=>s.size - x.2.2) ([],0,0) ⟨[],0,0,rfl,_,_,_,rfl,G1,Nat.le_refl _,Nat.zero_le _,rfl,e1⟩ ?_
  rintro _ g vs w' ⟨out,f,i,rfl,a,n,k,rfl,G,hfi,his,hinv,hE⟩;have hnl:=G.len;have hlen:=congrArg List.length hinv;simp only [List.length_append] at hlen;(conv=>whnf);with_reducible refine IfB.dec (fun h0=>?_) (fun h0=>?_)
  · obtain ⟨b,hb⟩:∃ b,s.data.toList[i]? = some b:=get_of_lt (by omega);have hdrop:=drop_cons hb;refine jC i rfl hb ?_;(conv=>whnf);with_reducible refine IfB.dec (fun h2=>?_) (fun h2=>?_)
    · have hbc:b=c:=UInt8.toNat_inj.1 (by omega);refine SemK.sliceStr (by kernel_rfl) f i hfi his (.inr rfl) (.inr rfl) ?_;refine bS mk_24 (vs:=[.string (s.extract f i)]) ?_;intro b2 w2 g2 l2 e2 B2;refine SemK.append (enc:=eS) mk_24 eS_len (G.ext e2) (ys:=[s.extract f i]) (m:=1) B2.cells rfl (by simp [flat,eS,cellish]) (by omega) (by omega) (Nat.le_trans hE.size e2.size) ?_;intro a3 c3 w3 G3 M3;refine SemK.add (((i+1:Nat):Int)) (by omega) (by omega) (by omega) ?_;refine SemK.add (((i+1:Nat):Int)) (by omega) (by omega) (by omega) ?_;refine ⟨(out++[s.extract f i],i+1,i+1),(by show s.size - (i+1)<s.size - i;omega),_,_,_,rfl,_,_,_,rfl,G3,Nat.le_refl _,by omega,?_,xm (xt hE e2) M3 (blkIn_new G.new)⟩;rw [hinv,hdrop,extract_bs];simp only [splitA,hbc,if_true,Nat.sub_self,List.take_zero,List.map_cons,List.append_assoc,List.singleton_append]
    · have hbc:¬ b=c:=fun h=>h2 (by rw [h]);refine SemK.add (((i+1:Nat):Int)) (by omega) (by omega) (by omega) ?_;refine ⟨(out,f,i+1),(by show s.size - (i+1)<s.size - i;omega),_,_,_,rfl,_,_,_,rfl,G,by omega,by omega,?_,hE⟩;rw [hinv,hdrop];simp only [splitA,if_neg hbc];have hacc:(s.data.toList.drop f).take (i+1 - f)=(s.data.toList.drop f).take (i - f)++[b]:=by
        rw [show i+1 - f=(i - f)+1 by omega,List.take_add_one,List.getElem?_drop,show f+(i - f)=i by omega,hb];rfl
      rw [hacc]
  · (conv=>whnf);have hi:i=s.size:=by omega
    subst hi;refine SemK.sliceStr (k' := .i64) (by kernel_rfl) f s.size hfi (Nat.le_refl _) (.inr rfl) (.inl ⟨rfl,rfl⟩) ?_;refine bS mk_24 (vs:=[.string (s.extract f s.size)]) ?_;intro b2 w2 g2 l2 e2 B2;refine SemK.append (enc:=eS) mk_24 eS_len (G.ext e2) (ys:=[s.extract f s.size]) (m:=1) B2.cells rfl (by simp [flat,eS,cellish]) (by omega) (by omega) (Nat.le_trans hE.size e2.size) ?_;intro a3 c3 w3 G3 M3;(conv=>whnf);have hd:s.data.toList.drop s.size=[]:=List.drop_eq_nil_of_le (by omega);rw [hd] at hinv;simp only [splitA,List.map_cons,List.map_nil] at hinv;rw [extract_bs,← hinv] at G3;exact ⟨_,_,_,rfl,G3.new,G3.own,xm (xt hE e2) M3 (blkIn_new G.new)⟩
theorem impl_ReadDecimal {s:ByteArray} (hs:s.size≤1048576) {w:World} (hT:Pow w) (hE:Errs w):Does Tryz.prog 60 [.string s] w (fun v w'=>v = .tuple #[.int .i64 (numI s),.bool (numB s)]∧Ext w w'):=by
  have hP:=numM_parse s;unfold numI numB;refine oV Tryz.func60 ?_;refine (lib_ParseInt (by omega) hE).mono ?_;rintro _ w3 ⟨⟨n,hp,rfl⟩ | ⟨hp,n,t,a,rfl⟩,e2⟩
  · rw [hp] at hP;have hb:=Lib.parseIntB_bounds hp;have hn:i64ok n:=⟨by simp at hb;omega,by simp at hb;omega⟩;simp only at hP;refine SemK.neqNilN (by kernel_rfl) ?_;refine (impl_Decimal hn (hT.ext e2)).mono ?_;rintro _ w4 ⟨rfl,e4⟩;(conv=>whnf);with_reducible refine IfB.ndec (fun h5=>?_) (fun h5=>?_)
    · rw [if_neg (fun h=>h5 h.1)] at hP;rw [hP];exact ⟨rfl,xt e2 e4⟩
    · refine (lib_TrimMinus s _).mono ?_;rintro _ _ ⟨rfl,rfl⟩;(conv=>whnf);have hbs:(bs (unsign s.data.toList)).size=(unsign s.data.toList).length:=bs_size _;with_reducible refine IfB.dec (fun h6=>?_) (fun h6=>?_)
      · rw [if_neg (fun h=>by have:=h.2;omega)] at hP;rw [hP];exact ⟨rfl,xt e2 e4⟩
      · rw [if_pos ⟨h5,by omega⟩] at hP;rw [hP];exact ⟨rfl,xt e2 e4⟩
  · have hP2:numM s=none:=by
      rw [hP];split
      · rename_i n2 h2;exact absurd h2 (hp n2)
      · rfl
    rw [hP2];refine SemK.neqNilI (by kernel_rfl) ?_;exact ⟨rfl,e2⟩
theorem spec_l01Number {s:ByteArray} (hs:s.size≤1048576) (w:World):Does Tryz.prog 148 [.string s] w (fun v w'=>v = .tuple #[.int .i64 (numI s),.bool (numB s)]∧Ext w w'):=by
  have hsz:s.data.toList.length=s.size:=by simp
  have hbad:((unsign s.data.toList).length<1∨18<(unsign s.data.toList).length)→numM s=none:=fun h=>by unfold numM;rw [if_pos h]
  have hnone:dval (unsign s.data.toList)=none→¬ ((unsign s.data.toList).length<1∨18<(unsign s.data.toList).length)→numM s=none:=fun h1 h2=>by unfold numM;rw [if_neg h2,h1]
  have hnum:∀ m,dval (unsign s.data.toList)=some m→¬ ((unsign s.data.toList).length<1∨18<(unsign s.data.toList).length)→numM s=if decB (if (unsign s.data.toList).length<s.data.toList.length then -(m:Int) else m)=s then some (if (unsign s.data.toList).length<s.data.toList.length then -(m:Int) else m) else none :=
    fun m h1 h2=>by unfold numM;rw [if_neg h2,h1]
  unfold numI numB;refine oV Tryz.func148 ?_;conv=>whnf
  with_reducible refine IfB.ndec (fun h0=>?_) (fun h0=>?_)
  · have hpos:0<s.size:=by
      rcases Nat.eq_zero_or_pos s.size with h | h
      · exfalso;apply h0;apply bytes_ext;exact List.eq_nil_of_length_eq_zero (by omega)
      · exact h
    obtain ⟨d2,hd2⟩:∃ d,s.data.toList[0]? = some d:=get_of_lt (by omega);refine jC 0 rfl hd2 ?_;(conv=>whnf);with_reducible refine IfB.dec (fun h3=>?_) (fun h3=>?_)
    · have hd45:d2=45:=UInt8.toNat_inj.1 (by simp;omega);have hU:unsign s.data.toList=s.data.toList.drop 1:=by
        unfold unsign;rw [if_pos (by rw [List.head?_eq_getElem?,hd2,hd45]),List.drop_one]
      refine SemK.sliceStr (k' := .i64) (by kernel_rfl) 1 s.size (by omega) (Nat.le_refl _) (.inr rfl) (.inl ⟨rfl,rfl⟩) ?_;have hT:(s.extract 1 s.size).data.toList=unsign s.data.toList:=by
        rw [extract_bs,bs_data,hU,List.take_of_length_le (by simp)]
      have hTs:(s.extract 1 s.size).size=s.size - 1:=extract_size s 1 s.size (Nat.le_refl _);have hTl:(s.extract 1 s.size).data.toList.length=(s.extract 1 s.size).size:=by simp
      generalize s.extract 1 s.size=t at *;have hTu:(unsign s.data.toList).length=t.size:=by rw [← hT,hTl]
      (conv=>whnf);with_reducible refine IfB.dec (fun h1=>?_) (fun h1=>?_)
      · have hN:=hbad (.inl (by omega));rw [hN];exact ⟨rfl,Ext.refl _⟩
      · (conv=>whnf);with_reducible refine IfB.dec (fun h2=>?_) (fun h2=>?_)
        · have hN:=hbad (.inr (by omega));rw [hN];exact ⟨rfl,Ext.refl _⟩
        · have hlen:¬ ((unsign s.data.toList).length<1∨18<(unsign s.data.toList).length):=by omega
          refine lR [0,4,5,6] (fun (x:Nat×Nat) vs w'=>∃ n i,x=(n,i)∧vs=[.string s,.string t,.int .i64 n,.int .i64 i]∧i≤t.size∧dval ((unsign s.data.toList).take i)=some n∧w=w') (fun x=>t.size - x.2) (0,0) ⟨0,0,rfl,rfl,by omega,rfl,rfl⟩ ?_;rintro _ g vs w' ⟨n,i,rfl,rfl,hi,hv,rfl⟩;have hlt:=dvalFrom_lt _ 0 n 0 (by decide) hv;have hl18:((unsign s.data.toList).take i).length≤18:=by rw [List.length_take];omega
          have hb:n<1000000000000000000:=Nat.lt_of_lt_of_le hlt (by rw [Nat.zero_add];exact Nat.pow_le_pow_right (by decide) hl18);(conv=>whnf);with_reducible refine IfB.dec (fun h3=>?_) (fun h3=>?_)
          · obtain ⟨c,hc⟩:∃ c,t.data.toList[i]? = some c:=get_of_lt (by omega);have hcu:(unsign s.data.toList)[i]? = some c:=by rw [← hT];exact hc
            have hsn:dval ((unsign s.data.toList).take (i+1))=(if isDig c then some (10 * n+(c.toNat - 48)) else none):=by
              rw [List.take_add_one,hcu];show dval (_++[c])=_;rw [dval_snoc,hv];rfl
            refine jC i rfl hc ?_;refine (spec_digit _ w).mono ?_;rintro _ _ ⟨rfl,rfl⟩;(conv=>whnf);have hdig:digitN c.toNat=isDig c:=rfl;with_reducible refine IfB.nsplit (fun h4=>?_) (fun h4=>?_)
            · rw [hdig] at h4;rw [h4] at hsn;have hU:dval (unsign s.data.toList)=none:=by
                have e:unsign s.data.toList=(unsign s.data.toList).take (i+1)++(unsign s.data.toList).drop (i+1):=(List.take_append_drop _ _).symm;have hz:dvalFrom (some 0) ((unsign s.data.toList).take (i+1))=none:=hsn;rw [e];unfold dval;rw [dvalFrom_append,hz,dvalFrom_none]
              rw [hnone hU hlen];exact ⟨rfl,Ext.refl _⟩
            · rw [hdig] at h4;rw [h4,if_pos rfl] at hsn;simp only [isDig,Bool.and_eq_true,decide_eq_true_eq] at h4;have hlt2:=dvalFrom_lt _ 0 _ 0 (by decide) hsn;have hl182:((unsign s.data.toList).take (i+1)).length≤18:=by rw [List.length_take];omega
              have hb2:10 * n+(c.toNat - 48)<1000000000000000000:=Nat.lt_of_lt_of_le hlt2 (by rw [Nat.zero_add];exact Nat.pow_le_pow_right (by decide) hl182);refine SemK.mul (10 * (n:Int)) rfl (by omega) (by omega) ?_;refine jC i rfl hc ?_;refine SemK.subK (((c.toNat - 48:Nat)):Int) (by omega) (u8_wrap (by omega) (by omega)) ?_;refine SemK.conv (k := .i64) (by kernel_rfl) (by kernel_rfl) (i64_wrap (by omega) (by omega)) ?_
              refine SemK.add (((10 * n+(c.toNat - 48):Nat)):Int) (by omega) (by omega) (by omega) ?_;refine SemK.add (((i+1:Nat):Int)) (by omega) (by omega) (by omega) ?_;exact ⟨(_,i+1),(by show t.size - (i+1)<t.size - i;omega),_,_,rfl,rfl,by omega,hsn,rfl⟩
          · have hi2:i=t.size:=by omega
            subst hi2;rw [List.take_of_length_le (by omega)] at hv;have hN:=hnum n hv hlen;(conv=>whnf);with_reducible refine IfB.dec (fun h5=>?_) (fun h5=>?_)
            · rw [if_pos (show (unsign s.data.toList).length<s.data.toList.length by omega)] at hN;refine SemK.neg (-(n:Int)) rfl (by omega) (by omega) ?_;refine (spec_l01Dec ⟨by omega,by omega⟩ w).mono ?_;rintro _ w6 ⟨rfl,e6⟩;(conv=>whnf);with_reducible refine IfB.ndec (fun h7=>?_) (fun h7=>?_)
              · rw [if_neg h7] at hN;rw [hN];exact ⟨rfl,e6⟩
              · rw [if_pos h7] at hN;rw [hN];exact ⟨rfl,e6⟩
            · rw [if_neg (show ¬ (unsign s.data.toList).length<s.data.toList.length by omega)] at hN;refine (spec_l01Dec ⟨by omega,by omega⟩ w).mono ?_;rintro _ w6 ⟨rfl,e6⟩;(conv=>whnf);with_reducible refine IfB.ndec (fun h7=>?_) (fun h7=>?_)
              · rw [if_neg h7] at hN;rw [hN];exact ⟨rfl,e6⟩
              · rw [if_pos h7] at hN;rw [hN];exact ⟨rfl,e6⟩
    · have hU:unsign s.data.toList=s.data.toList:=by
        unfold unsign;rw [if_neg];intro hh;rw [List.head?_eq_getElem?,hd2] at hh;simp only [Option.some.injEq] at hh;exact h3 (by rw [hh];rfl)
      have hT:s.data.toList=unsign s.data.toList:=hU.symm;have hTu:(unsign s.data.toList).length=s.size:=by rw [hU,hsz]
      (conv=>whnf);with_reducible refine IfB.dec (fun h1=>?_) (fun h1=>?_)
      · have hN:=hbad (.inl (by omega));rw [hN];exact ⟨rfl,Ext.refl _⟩
      · (conv=>whnf);with_reducible refine IfB.dec (fun h2=>?_) (fun h2=>?_)
        · have hN:=hbad (.inr (by omega));rw [hN];exact ⟨rfl,Ext.refl _⟩
        · have hlen:¬ ((unsign s.data.toList).length<1∨18<(unsign s.data.toList).length):=by omega
          refine lR [0,4,5,6] (fun (x:Nat×Nat) vs w'=>∃ n i,x=(n,i)∧vs=[.string s,.string s,.int .i64 n,.int .i64 i]∧i≤s.size∧dval ((unsign s.data.toList).take i)=some n∧w=w') (fun x=>s.size - x.2) (0,0) ⟨0,0,rfl,rfl,by omega,rfl,rfl⟩ ?_;rintro _ g vs w' ⟨n,i,rfl,rfl,hi,hv,rfl⟩;have hlt:=dvalFrom_lt _ 0 n 0 (by decide) hv;have hl18:((unsign s.data.toList).take i).length≤18:=by rw [List.length_take];omega
          have hb:n<1000000000000000000:=Nat.lt_of_lt_of_le hlt (by rw [Nat.zero_add];exact Nat.pow_le_pow_right (by decide) hl18);(conv=>whnf);with_reducible refine IfB.dec (fun h3=>?_) (fun h3=>?_)
          · obtain ⟨c,hc⟩:∃ c,s.data.toList[i]? = some c:=get_of_lt (by omega);have hcu:(unsign s.data.toList)[i]? = some c:=by rw [← hT];exact hc
            have hsn:dval ((unsign s.data.toList).take (i+1))=(if isDig c then some (10 * n+(c.toNat - 48)) else none):=by
              rw [List.take_add_one,hcu];show dval (_++[c])=_;rw [dval_snoc,hv];rfl
            refine jC i rfl hc ?_;refine (spec_digit _ w).mono ?_;rintro _ _ ⟨rfl,rfl⟩;(conv=>whnf);have hdig:digitN c.toNat=isDig c:=rfl;with_reducible refine IfB.nsplit (fun h4=>?_) (fun h4=>?_)
            · rw [hdig] at h4;rw [h4] at hsn;have hU:dval (unsign s.data.toList)=none:=by
                have e:unsign s.data.toList=(unsign s.data.toList).take (i+1)++(unsign s.data.toList).drop (i+1):=(List.take_append_drop _ _).symm;have hz:dvalFrom (some 0) ((unsign s.data.toList).take (i+1))=none:=hsn;rw [e];unfold dval;rw [dvalFrom_append,hz,dvalFrom_none]
              rw [hnone hU hlen];exact ⟨rfl,Ext.refl _⟩
            · rw [hdig] at h4;rw [h4,if_pos rfl] at hsn;simp only [isDig,Bool.and_eq_true,decide_eq_true_eq] at h4;have hlt2:=dvalFrom_lt _ 0 _ 0 (by decide) hsn;have hl182:((unsign s.data.toList).take (i+1)).length≤18:=by rw [List.length_take];omega
              have hb2:10 * n+(c.toNat - 48)<1000000000000000000:=Nat.lt_of_lt_of_le hlt2 (by rw [Nat.zero_add];exact Nat.pow_le_pow_right (by decide) hl182);refine SemK.mul (10 * (n:Int)) rfl (by omega) (by omega) ?_;refine jC i rfl hc ?_;refine SemK.subK (((c.toNat - 48:Nat)):Int) (by omega) (u8_wrap (by omega) (by omega)) ?_;refine SemK.conv (k := .i64) (by kernel_rfl) (by kernel_rfl) (i64_wrap (by omega) (by omega)) ?_
              refine SemK.add (((10 * n+(c.toNat - 48):Nat)):Int) (by omega) (by omega) (by omega) ?_;refine SemK.add (((i+1:Nat):Int)) (by omega) (by omega) (by omega) ?_;exact ⟨(_,i+1),(by show s.size - (i+1)<s.size - i;omega),_,_,rfl,rfl,by omega,hsn,rfl⟩
          · have hi2:i=s.size:=by omega
            subst hi2;rw [List.take_of_length_le (by omega)] at hv;have hN:=hnum n hv hlen;(conv=>whnf);with_reducible refine IfB.dec (fun h5=>?_) (fun h5=>?_)
            · rw [if_pos (show (unsign s.data.toList).length<s.data.toList.length by omega)] at hN;refine SemK.neg (-(n:Int)) rfl (by omega) (by omega) ?_;refine (spec_l01Dec ⟨by omega,by omega⟩ w).mono ?_;rintro _ w6 ⟨rfl,e6⟩;(conv=>whnf);with_reducible refine IfB.ndec (fun h7=>?_) (fun h7=>?_)
              · rw [if_neg h7] at hN;rw [hN];exact ⟨rfl,e6⟩
              · rw [if_pos h7] at hN;rw [hN];exact ⟨rfl,e6⟩
            · rw [if_neg (show ¬ (unsign s.data.toList).length<s.data.toList.length by omega)] at hN;refine (spec_l01Dec ⟨by omega,by omega⟩ w).mono ?_;rintro _ w6 ⟨rfl,e6⟩;(conv=>whnf);with_reducible refine IfB.ndec (fun h7=>?_) (fun h7=>?_)
              · rw [if_neg h7] at hN;rw [hN];exact ⟨rfl,e6⟩
              · rw [if_pos h7] at hN;rw [hN];exact ⟨rfl,e6⟩
  · have hs0:s.data.toList=[]:=by rw [h0]
    have hN:=hbad (.inl (by rw [hs0];exact Nat.one_pos));have hs1:s.size=0:=by rw [← hsz,hs0];simp
    (conv=>whnf);with_reducible refine IfB.dec (fun h1=>?_) (fun h1=>?_)
    · rw [hN];exact ⟨rfl,Ext.refl _⟩
    · omega
end Go.Proofs.YthadkoinmohmlaaGreatDoor
namespace Go.Proofs.YthadkoinmohmlaaGreatDoor
open Go Go.RowKit Go.Vc Go.M Go.Shelf Go.Proofs
theorem spec_l27Words {x:TNote} (hx:x.ok) (hw:x.what.size≤1000) {b o:Nat} {w:World} (hc:Cells w b o x.enc):Does Tryz.prog 159 [.pointer (some ⟨b,o,none⟩)] w (fun v w'=>v = .string (wordsB x)∧Ext w w'):=by
  obtain ⟨h1,h2,h3,h4⟩:=hx;have l1:=decB_len h1.1 h1.2;have l2:=decB_len h2.1 h2.2;have l3:=decB_len h3.1 h3.2;refine oV Tryz.func159 ?_;refine dH [(0,false),(1,false),(2,false),(3,false),(6,false),(7,false),(8,false),(9,false),(13,false),(14,false),(15,false),(16,false),(20,false),(21,false),(22,false),(23,false),(4,true),(5,false),(10,true),(11,false),(12,false),(17,true),(18,true),(19,true),(24,true),(25,true)] ?_;intro w5 e5;refine dL hc (k:=0) rfl ?_;refine dL hc (k:=1) rfl ?_;refine dL hc (k:=2) rfl ?_;refine dL hc (k:=3) rfl ?_;refine (spec_l01Dec h1 _).mono ?_;rintro _ w7 ⟨rfl,e6⟩;refine ⟨(xt e5 e6),?_⟩;refine DSemK.cat (by simp only [ByteArray.size_append,bs_size,sizeC,sizeT,List.length_cons,List.length_nil];omega) ?_;refine (spec_l01Dec h2 _).mono ?_;rintro _ w9 ⟨rfl,e8⟩;refine ⟨(xt (xt e5 e6) e8),?_⟩;refine DSemK.cat (by simp only [ByteArray.size_append,bs_size,sizeC,sizeT,List.length_cons,List.length_nil];omega) ?_;refine DSemK.cat (by simp only [ByteArray.size_append,bs_size,sizeC,sizeT,List.length_cons,List.length_nil];omega) ?_;refine (spec_l01Dec h3 _).mono ?_;rintro _ w11 ⟨rfl,e10⟩;refine ⟨(xt (xt (xt e5 e6) e8) e10),?_⟩;refine SemK.cat (by simp only [ByteArray.size_append,bs_size,sizeC,sizeT,List.length_cons,List.length_nil];omega) ?_;refine ⟨(xt (xt (xt e5 e6) e8) e10),?_⟩;refine SemK.cat (by simp only [ByteArray.size_append,bs_size,sizeC,sizeT,List.length_cons,List.length_nil];omega) ?_;refine ⟨(xt (xt (xt e5 e6) e8) e10),?_⟩;refine SemK.cat (by simp only [ByteArray.size_append,bs_size,sizeC,sizeT,List.length_cons,List.length_nil];omega) ?_;refine ⟨(xt (xt (xt e5 e6) e8) e10),?_⟩;exact ⟨rfl,(xt (xt (xt e5 e6) e8) e10)⟩
theorem spec_l27Chain {before:Int} (h0:0≤before) (h1:before≤65520) {s:ByteArray} (hs:s.size≤1048576) (w:World):Does Tryz.prog 231 [.int .i64 before,.string s] w (fun v w'=>v = .int .i64 (chainL before s.data.toList)∧w=w'):=by
  have hsz:s.data.toList.length=s.size:=by simp
  refine oV Tryz.func231 ?_;refine SemK.add _ rfl (by omega) (by omega) ?_;refine SemK.rem (by omega) (by omega) ?_;refine lR [1,5,6] (fun (k:Nat) vs w'=>vs=[.string s,.int .i64 ((s.data.toList.take k).foldl chain1 ((before+17) % 65521)),.int .i64 k]∧k≤s.size∧w=w') (fun k=>s.size - k) 0 ⟨rfl,by omega,rfl⟩ ?_;rintro k g _ w' ⟨rfl,hk,rfl⟩;have hb:=chain_b (s.data.toList.take k) ((before+17) % 65521) (by omega) (by omega);(conv=>whnf);with_reducible refine IfB.dec (fun h2=>?_) (fun h2=>?_)
  · obtain ⟨c,hc⟩:∃ c,s.data.toList[k]? = some c:=get_of_lt (by omega);have hstep:=chain_take hc ((before+17) % 65521);generalize (s.data.toList.take k).foldl chain1 ((before+17) % 65521)=r at *;refine SemK.mul _ rfl (by omega) (by omega) ?_;refine jC k rfl hc ?_;have hu:=c.toNat_lt;refine SemK.conv (k := .i64) (by kernel_rfl) (by kernel_rfl) (i64_wrap (by omega) (by omega)) ?_
    refine SemK.add _ rfl (by omega) (by omega) ?_;refine SemK.rem (by omega) (by omega) ?_;refine SemK.add (((k+1:Nat):Int)) (by omega) (by omega) (by omega) ?_;exact ⟨k+1,by omega,by rw [hstep];rfl,by omega,rfl⟩
  · have hk2:k=s.size:=by omega
    subst hk2;rw [List.take_of_length_le (by omega)];exact ⟨rfl,rfl⟩
theorem impl_noteWords {x:TNote} (hx:x.ok) (hw:x.what.size≤1000) {w:World} (hT:Pow w):Does Tryz.prog 118 [.agg ⟨x.enc⟩] w (fun v w'=>v = .string (wordsB x)∧Ext w w'):=by
  obtain ⟨h1,h2,h3,h4⟩:=hx;have l1:=decB_len h1.1 h1.2;have l2:=decB_len h2.1 h2.2;have l3:=decB_len h3.1 h3.2;refine oV Tryz.func118 ?_;refine SemK.box ?_;intro b5 w5 g5 l5 e5 B5;refine dH [(0,false),(1,false),(3,false),(4,false),(6,false),(7,false),(9,false),(10,false),(2,true),(5,true),(8,true),(11,true),(12,true),(13,true)] ?_;intro w6 e6;refine dL B5.cells (k:=0) rfl ?_;refine dL B5.cells (k:=1) rfl ?_;refine dL B5.cells (k:=2) rfl ?_;refine dL B5.cells (k:=3) rfl ?_;refine (impl_Decimal h1 (hT.ext (xt e5 e6))).mono ?_;rintro _ w8 ⟨rfl,e7⟩;refine ⟨(xt e6 e7),?_⟩;refine (impl_Decimal h2 (hT.ext (xt (xt e5 e6) e7))).mono ?_;rintro _ w10 ⟨rfl,e9⟩;refine ⟨(xt (xt e6 e7) e9),?_⟩;refine (impl_Decimal h3 (hT.ext (xt (xt (xt e5 e6) e7) e9))).mono ?_;rintro _ w12 ⟨rfl,e11⟩;refine ⟨(xt (xt (xt e6 e7) e9) e11),?_⟩;refine bS mk_24 (vs:=[Value.string (decB x.tray),Value.string (decB x.count),Value.string (decB x.sum),Value.string x.what]) ?_;intro b13 w13 g13 l13 e13 B13;have G13:=Grow.of_blk (n:=4) (enc:=eS) (xs:=[decB x.tray,decB x.count,decB x.sum,x.what]) eS_len B13 g13 rfl (by decide);refine ⟨(xt (xt (xt (xt e6 e7) e9) e11) e13),?_⟩;refine (lib_Join4 B13 (by omega) (by omega) (by omega) hw).mono ?_;rintro _ w15 ⟨rfl,e14⟩;refine ⟨(xt (xt (xt (xt (xt e6 e7) e9) e11) e13) e14),?_⟩;exact ⟨rfl,(xt (xt (xt (xt (xt (xt e5 e6) e7) e9) e11) e13) e14)⟩
theorem impl_chainOf {before:Int} (h0:0≤before) (h1:before≤65520) {x:TNote} (hx:x.ok) (hw:x.what.size≤1000) {w:World} (hT:Pow w):Does Tryz.prog 190 [.int .i64 before,.agg ⟨x.enc⟩] w (fun v w'=>v = .int .i64 (chainM before x)∧Ext w w'):=by
  have hs:=words_size hx;refine oV Tryz.func190 ?_;refine SemK.box ?_;intro b2 w2 g2 l2 e2 B2;refine SemK.add _ rfl (by omega) (by omega) ?_;refine SemK.rem (by omega) (by omega) ?_;refine jA (n:=4) B2.cells rfl ?_;refine (impl_noteWords hx hw (hT.ext e2)).mono ?_;rintro _ w4 ⟨rfl,e3⟩;unfold chainM;generalize wordsB x=s at *;have hsz:s.data.toList.length=s.size:=by simp
  refine SemK.toBytes (by kernel_rfl) Tryz.underlying22 Tryz.underlying5 (by omega) ?_;intro b5 c5 w5 g5 l5 e5 A5;refine lR [5,13,14,15] (fun (k:Nat) vs w'=>vs=[.int .i64 ((s.data.toList.take k).foldl chain1 ((before+17) % 65521)),.slice (some ⟨b5,0,none⟩) s.size c5,.int .i64 s.size,.int .i64 k]∧k≤s.size∧Ext w5 w') (fun k=>s.size - k) 0 ⟨rfl,by omega,Ext.refl _⟩ ?_;rintro k g _ w' ⟨rfl,hk,hE⟩;have hb:=chain_b (s.data.toList.take k) ((before+17) % 65521) (by omega) (by omega);(conv=>whnf);with_reducible refine IfB.dec (fun h2=>?_) (fun h2=>?_)
  · obtain ⟨c,hc⟩:∃ c,s.data.toList[k]? = some c:=get_of_lt (by omega);have hstep:=chain_take hc ((before+17) % 65521);generalize (s.data.toList.take k).foldl chain1 ((before+17) % 65521)=r at *;refine jI (A5.ext hE) k rfl hc ?_;intro bb oo _ hbb;refine jO hbb rfl ?_;have hu:=c.toNat_lt;refine SemK.mul _ rfl (by omega) (by omega) ?_;refine SemK.conv (k := .i64) (by kernel_rfl) (by kernel_rfl) (i64_wrap (by omega) (by omega)) ?_
    refine SemK.add _ rfl (by omega) (by omega) ?_;refine SemK.rem (by omega) (by omega) ?_;refine SemK.add (((k+1:Nat):Int)) (by omega) (by omega) (by omega) ?_;exact ⟨k+1,by omega,by rw [hstep];rfl,by omega,hE⟩
  · have hk2:k=s.size:=by omega
    subst hk2;rw [List.take_of_length_le (by omega)];exact ⟨rfl,xt (xt (xt e2 e3) e5) hE⟩
theorem spec_l27Line {ch:Int} (h0:0≤ch) (h1:ch≤65520) {x:TNote} (hx:x.ok) (hw:x.what.size≤1000) {b o:Nat} {w:World} (hc:Cells w b o x.enc):Does Tryz.prog 230 [.int .i64 ch,.pointer (some ⟨b,o,none⟩)] w (fun v w'=>v = .string (lineB ch x)∧Ext w w'):=by
  have hs:=words_size hx;have l1:=decB_len (n:=ch) (by omega) (by omega);have hi:i64ok ch:=⟨by omega,by omega⟩;refine oV Tryz.func230 ?_;refine (spec_l01Dec hi _).mono ?_;rintro _ w3 ⟨rfl,e2⟩;refine SemK.cat (by simp only [ByteArray.size_append,bs_size,sizeC,sizeT,List.length_cons,List.length_nil];omega) ?_;refine (spec_l27Words hx hw (hc.ext e2)).mono ?_;rintro _ w5 ⟨rfl,e4⟩;refine SemK.cat (by simp only [ByteArray.size_append,bs_size,sizeC,sizeT,List.length_cons,List.length_nil];omega) ?_;refine SemK.cat (by simp only [ByteArray.size_append,bs_size,sizeC,sizeT,List.length_cons,List.length_nil];omega) ?_;exact ⟨rfl,(xt e2 e4)⟩
theorem impl_noteLine {ch:Int} (h0:0≤ch) (h1:ch≤65520) {x:TNote} (hx:x.ok) (hw:x.what.size≤1000) {w:World} (hT:Pow w):Does Tryz.prog 189 [.int .i64 ch,.agg ⟨x.enc⟩] w (fun v w'=>v = .string (lineB ch x)∧Ext w w'):=by
  have hs:=words_size hx;have l1:=decB_len (n:=ch) (by omega) (by omega);have hi:i64ok ch:=⟨by omega,by omega⟩;refine oV Tryz.func189 ?_;refine SemK.box ?_;intro b2 w2 g2 l2 e2 B2;refine dH [(0,false),(3,false),(1,true),(2,false),(4,true),(5,true),(6,true),(7,true)] ?_;intro w3 e3;refine dA (n:=4) B2.cells rfl ?_;refine (impl_Decimal hi (hT.ext (xt e2 e3))).mono ?_;rintro _ w5 ⟨rfl,e4⟩;refine ⟨(xt e3 e4),?_⟩;refine DSemK.cat (by simp only [ByteArray.size_append,bs_size,sizeC,sizeT,List.length_cons,List.length_nil];omega) ?_;refine (impl_noteWords hx hw (hT.ext (xt (xt e2 e3) e4))).mono ?_;rintro _ w7 ⟨rfl,e6⟩;refine ⟨(xt (xt e3 e4) e6),?_⟩;refine SemK.cat (by simp only [ByteArray.size_append,bs_size,sizeC,sizeT,List.length_cons,List.length_nil];omega) ?_;refine ⟨(xt (xt e3 e4) e6),?_⟩;refine SemK.cat (by simp only [ByteArray.size_append,bs_size,sizeC,sizeT,List.length_cons,List.length_nil];omega) ?_;refine ⟨(xt (xt e3 e4) e6),?_⟩;exact ⟨rfl,(xt (xt (xt e2 e3) e4) e6)⟩
end Go.Proofs.YthadkoinmohmlaaGreatDoor
