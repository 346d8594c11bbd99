/- Parts of the proof; no conditions of its own. -/
import Derived.Test.YtalgenmoljcnmaaGreatDoorOffice
import Derived.Test.YtalgenmoljcnmaaGreatDoorVcApp
import Derived.Test.YtalgenmoljcnmaaGreatDoorNum
namespace Go.Proofs.YtalgenmoljcnmaaGreatDoor
open Go Go.RowKit Go.Vc Go.M Go.Shelf Go.Proofs
variable {n:Int} {w:World} {s:ByteArray}
theorem Ck (hn:BM n) (hT:F7 w):Dq 128 [.int .i64 n] w (fun v w'=>v = .string (BP n)/\AD w w'):=by
 refine oV Tryz.func128 ?_;refine (RJ hn hT).mono ?_;rintro _ b ⟨rfl,a⟩;exact ⟨rfl,a⟩
theorem B7 (hn:BM n) (w:World):Dq 99 [.int .i64 n] w (fun v w'=>v = .string (BP n)/\AD w w'):=by
 obtain ⟨ap,aq⟩:=hn;have an:∀ (k:Int) (out:List UInt8),QX n.natAbs []=QX k.natAbs out->out.length<=20:=by
  intro k out p;have u:=congrArg List.length p;rw [JM,JM] at u;have:=YB n.natAbs 20 om;simp at u;omega
 refine oV Tryz.func99 ?_;refine bS Hl (vs:=[]) ?_;intro ay a5 ai a3 ah ac;have ad:=Ab (enc:=eB) Et ac ai;refine lR [0,3,4] (fun (t:Int×List UInt8) ab w'=>∃ k out,t=(k,out)/\∃ m s o,ab=[.int .i64 n,.slice m s o,.int .i64 k]/\Ai eB 1 w.heap.size 5 w' m s o out/\QX n.natAbs []=QX k.natAbs out∧-9223372036854775808<=k/\k<=9223372036854775807/\AD w w') (fun t=>t.1.natAbs) (n,[]) ⟨n,[],rfl,_,_,_,rfl,ad,rfl,ap,aq,ah⟩ ?_;rintro _ az ab w' ⟨k,out,rfl,m,s,o,rfl,d,f,y,z,a⟩;have a1:=an k out f;have ao:=d.len;refine Ak (fun aj=>?_) fun aj=>?_
 .have x:=SY (k:=k.natAbs) om out;have aa:=UX k;have a4:=UU k;refine YP om ?_;(conv=>whnf);have a0:(UInt8.ofNat (48+k.natAbs % 10)).toNat=48+k.natAbs % 10:=YW _;refine AL (fun ar=>?_) fun ar=>?_
  .refine AB.neg ((k.tmod 10).natAbs:Int) om om om<|jP ((UInt8.ofNat (48+k.natAbs % 10)).toNat:Int)<|As (k := .u8) kR kR (H8 om om)<|bS Hl (vs:=[.int .u8 (UInt8.ofNat (48+k.natAbs % 10)).toNat]) ?_;intro af av e au b h;have i:=AG (n:=1) (B:=w.heap.size) (enc:=eB) (xs:=[UInt8.ofNat (48+k.natAbs % 10)]) Et h (Nat.le_trans a.size e) rfl dE;exact AM (enc:=eB) Hl Et i ((d.ext b).own.arr Et) (by intro ax _;simp [eB,AE]) om om (Nat.le_trans a.size b.size) fun ae ag aw j l _=>Sx y z dE ⟨(k.tdiv 10,_),(by show (k.tdiv 10).natAbs<k.natAbs;omega),k.tdiv 10,_,rfl,_,_,_,rfl,j,(by rw [f,x,aa];rfl),om,om,xm (xt a b) l (AO (Ad.some (Nat.le_trans a.size e)))⟩
  .refine jP ((UInt8.ofNat (48+k.natAbs % 10)).toNat:Int)<|As (k := .u8) kR kR (H8 om om)<|bS Hl (vs:=[.int .u8 (UInt8.ofNat (48+k.natAbs % 10)).toNat]) ?_;intro af av e au b h;have i:=AG (n:=1) (B:=w.heap.size) (enc:=eB) (xs:=[UInt8.ofNat (48+k.natAbs % 10)]) Et h (Nat.le_trans a.size e) rfl dE;exact AM (enc:=eB) Hl Et i ((d.ext b).own.arr Et) (by intro ax _;simp [eB,AE]) om om (Nat.le_trans a.size b.size) fun ae ag aw j l _=>Sx y z dE ⟨(k.tdiv 10,_),(by show (k.tdiv 10).natAbs<k.natAbs;omega),k.tdiv 10,_,rfl,_,_,_,rfl,j,(by rw [f,x,aa];rfl),om,om,xm (xt a b) l (AO (Ad.some (Nat.le_trans a.size e)))⟩
 ·(conv=>whnf);have am:k=0:=om
  subst am;have g:QX n.natAbs []=out:=f;have c:=X0 n;refine AL (fun al=>?_) fun al=>?_
  ·(conv=>whnf);have ak:out=[]:=List.eq_nil_of_length_eq_zero om;have r:n=0:=by
    apply Classical.byContradiction;intro a2;rw [ak,JM,Lh om] at g;simp at g
   subst r;exact ⟨by show _=Value.string (bs (Lib.itoa 0));rw [c,if_pos rfl];rfl,a⟩
  ·(conv=>whnf);have r:¬ n=0:=fun p=>by
    subst p;have:out=[]:=g.symm;subst this;simp at ao;omega
   rw [if_neg r,g] at c;refine AL (fun q=>?_) fun q=>?_
   ·(conv=>whnf);rw [if_pos q] at c;refine G3 kR kR d ?_
    refine Ao (by have : (bs out).size = out.length := AV out;have:(ByteArray.mk #[45]).size=1:=rfl;omega) ?_
    refine ⟨?_,a⟩;congr 1;show bs [45]++bs out=bs (Lib.itoa n);rw [YL,c];rfl
   ·(conv=>whnf);rw [if_neg q] at c;refine G3 kR kR d ⟨?_,a⟩;congr 1;show bs out=bs (Lib.itoa n);rw [c]
theorem Jr (hs:s.size<=1048576) (c:UInt8) (w:World):Dq 18 [.string s,.int .u8 c.toNat] w (fun v w'=>∃ a n k,v = .slice a n k/\n<=k/\Ad w.heap.size a/\Bw eS w' a n 9 (Aq c s)/\AD w w'):=by
 have ax:s.data.toList.length=s.size:=sI
 have av:=Gk c s;refine oV Tryz.func18 ?_;refine bS BI (vs:=[]) ?_;intro ar az af ay ae z;have aa:=Ab (enc:=eS) AQ z af;refine lR [0,1,5,6,7] (fun (r:List ByteArray×Nat×Nat) y w'=>∃ out d b,r=(out,d,b)/\∃ a n k,y=[.string s,.int .u8 c.toNat,.slice a n k,.int .i64 d,.int .i64 b]/\Ai eS 1 w.heap.size 9 w' a n k out/\d<=b/\b<=s.size /\
  Aq c s=out++(Ek c ((s.data.toList.drop d).take (b - d)) (s.data.toList.drop b)).map bs/\AD w w') (fun r=>s.size - r.2.2) ([],0,0) ⟨[],0,0,rfl,_,_,_,rfl,aa,Nat.le_refl _,Nat.zero_le _,rfl,ae⟩ ?_
 rintro _ au y w' ⟨out,d,b,rfl,a,n,k,rfl,f,x,am,h,j⟩;have aw:=f.len;have an:=congrArg List.length h;simp only [List.length_append] at an;refine AL (fun ai=>?_) fun ai=>?_
 .obtain ⟨i,p⟩:∃ i,s.data.toList[b]? = some i:=AA om;have u:=Nf p;refine jC b rfl p<|AL (fun t=>?_) fun t=>?_
  .have q:i=c:=UInt8.toNat_inj.1 om;refine B6 kR d b x am (.inr rfl) (.inr rfl)<|bS BI (vs:=[.string (s.extract d b)]) fun ac ap ag ao e l=>AB.append (enc:=eS) BI AQ (f.ext e) (ys:=[s.extract d b]) (m:=1) l.cells rfl (by simp [BD,eS,AE]) om om (Nat.le_trans j.size e.size) fun ab ad aq g o=>jP (((b+1:Nat):Int))<|jP (((b+1:Nat):Int)) ⟨(out++[s.extract d b],b+1,b+1),(by show s.size - (b+1)<s.size - b;omega),_,_,_,rfl,_,_,_,rfl,g,Nat.le_refl _,om,?_,xm (xt j e) o (AO f.new)⟩;rw [h,u,FK];simp only [Ek,q,if_true,Nat.sub_self,List.take_zero,List.map_cons,List.append_assoc,List.singleton_append]
  .have q:¬ i=c:=fun ah=>t (by rw [ah]);refine jP (((b+1:Nat):Int)) ⟨(out,d,b+1),(by show s.size - (b+1)<s.size - b;omega),_,_,_,rfl,_,_,_,rfl,f,om,om,?_,j⟩;rw [h,u];simp only [Ek,if_neg q];have aj:(s.data.toList.drop d).take (b+1 - d)=(s.data.toList.drop d).take (b - d)++[i]:=by
    rw [show b+1 - d=(b - d)+1 by omega,List.take_add_one,List.getElem?_drop,show d+(b - d)=b by omega,p];rfl
   rw [aj]
 ·(conv=>whnf);have al:b=s.size:=om
  subst al;refine B6 (k' := .i64) kR d s.size x (Nat.le_refl _) (.inr rfl) (.inl ⟨rfl,rfl⟩)<|bS BI (vs:=[.string (s.extract d s.size)]) fun ac ap ag ao e l=>AB.append (enc:=eS) BI AQ (f.ext e) (ys:=[s.extract d s.size]) (m:=1) l.cells rfl (by simp [BD,eS,AE]) om om (Nat.le_trans j.size e.size) ?_;intro ab ad aq g o;(conv=>whnf);have ak:s.data.toList.drop s.size=[]:=List.drop_eq_nil_of_le om;rw [ak] at h;simp only [Ek,List.map_cons,List.map_nil] at h;rw [FK,<- h] at g;exact ⟨_,_,_,rfl,g.le.1,g.new,g.own,xm (xt j e) o (AO f.new)⟩
theorem Gl (hs:s.size<=1048576) (c:UInt8) (w:World):Dq 18 [.string s,.int .u8 c.toNat] w (fun v w'=>∃ a n k,v = .slice a n k/\Ad w.heap.size a/\Bw eS w' a n 9 (Aq c s)/\AD w w'):=(Jr hs c w).mono fun _ _ ⟨a,n,k,b,_,d⟩=>⟨a,n,k,b,d⟩
theorem BB (hs:s.size<=1048576) (hT:F7 w) (hE:EP w):Dq 69 [.string s] w (fun v w'=>v = .tuple #[.int .i64 (Al s),.bool (Ef s)]/\AD w w'):=by
 have a:=WS s;unfold Al Ef;refine oV Tryz.func69 ?_;refine (Ti om hE).mono ?_;rintro _ q ⟨⟨h,c,rfl⟩ | ⟨c,h,p,n,rfl⟩,b⟩
 .rw [c] at a;have g:=Lib.parseIntB_bounds c;have l:BM h:=⟨by simp at g;omega,by simp at g;omega⟩;simp only at a;refine UG kR ?_;refine (Ck l (hT.ext b)).mono ?_;rintro _ r ⟨rfl,d⟩;refine Ak (fun f=>?_) fun f=>?_
  .rw [if_neg (fun e=>f e.1)] at a;rw [a];exact ⟨rfl,xt b d⟩
  .refine (RH s _).mono ?_;rintro _ _ ⟨rfl,rfl⟩;(conv=>whnf);have o:(bs (A6 s.data.toList)).size=(A6 s.data.toList).length:=AV _;refine AL (fun j=>?_) fun j=>?_
   .rw [if_neg (fun e=>by have:=e.2;omega)] at a;rw [a];exact ⟨rfl,xt b d⟩
   .rw [if_pos ⟨f,om⟩] at a;rw [a];exact ⟨rfl,xt b d⟩
 .have k:Jy s=none:=by
   rw [a];split
   .rename_i m i;exact absurd i (c m)
   .rfl
  rw [k];refine UH kR ?_;exact ⟨rfl,b⟩
theorem Bi (hs:s.size<=1048576) (w:World):Dq 96 [.string s] w (fun v w'=>v = .tuple #[.int .i64 (Al s),.bool (Ef s)]/\AD w w'):=by
 have ar:s.data.toList.length=s.size:=sI
 have t:((A6 s.data.toList).length<1\/18<(A6 s.data.toList).length)->Jy s=none:=fun z=>by unfold Jy;rw [if_pos z]
 have ao:KD (A6 s.data.toList)=none->¬ ((A6 s.data.toList).length<1\/18<(A6 s.data.toList).length)->Jy s=none:=fun i n=>by unfold Jy;rw [if_neg n,i]
 have ap:∀ r,KD (A6 s.data.toList)=some r->¬ ((A6 s.data.toList).length<1\/18<(A6 s.data.toList).length)->Jy s=if BP (if (A6 s.data.toList).length<s.data.toList.length then -(r:Int) else r)=s then some (if (A6 s.data.toList).length<s.data.toList.length then -(r:Int) else r) else none :=
  fun r i n=>by unfold Jy;rw [if_neg n,i]
 unfold Al Ef;refine oV Tryz.func96 ?_;conv=>whnf
 with_reducible refine Ak (fun ac=>?_) (fun ac=>?_)
 .have a4:0<s.size:=by
   rcases Nat.eq_zero_or_pos s.size with z | z
   .exfalso;apply ac;apply CV;exact List.eq_nil_of_length_eq_zero om
   .exact z
  (conv=>whnf);obtain ⟨av,af⟩:∃ au,s.data.toList[0]? = some au:=AA om;refine jC 0 rfl af ?_;(conv=>whnf);with_reducible refine AL (fun q=>?_) (fun q=>?_)
  .have a1:av=45:=UInt8.toNat_inj.1 (by simp;omega);have l:A6 s.data.toList=s.data.toList.drop 1:=by
    unfold A6;rw [if_pos (by rw [List.head?_eq_getElem?,af,a1]),List.drop_one]
   (conv=>whnf);refine B6 (k' := .i64) kR 1 s.size om (Nat.le_refl _) (.inr rfl) (.inl ⟨rfl,rfl⟩) ?_;have aa:(s.extract 1 s.size).data.toList=A6 s.data.toList:=by
    rw [FK,PC,l,List.take_of_length_le sI]
   have a3:(s.extract 1 s.size).size=s.size - 1:=T4 s 1 s.size (Nat.le_refl _);have ax:(s.extract 1 s.size).data.toList.length=(s.extract 1 s.size).size:=sI
   generalize s.extract 1 s.size=m at *;have ay:(A6 s.data.toList).length=m.size:=by rw [<- aa,ax]
   (conv=>whnf);with_reducible refine AL (fun i=>?_) (fun i=>?_)
   .have b:=t (.inl om);rw [b];(conv=>whnf);exact ⟨rfl,AD.refl _⟩
   ·(conv=>whnf);with_reducible refine AL (fun n=>?_) (fun n=>?_)
    .have b:=t (.inr om);rw [b];(conv=>whnf);exact ⟨rfl,AD.refl _⟩
    .have x:¬ ((A6 s.data.toList).length<1\/18<(A6 s.data.toList).length):=om
     (conv=>whnf);refine lR [0,4,5,6] (fun (p:Nat×Nat) y w'=>∃ c a,p=(c,a)/\y=[.string s,.string m,.int .i64 c,.int .i64 a]/\a<=m.size/\KD ((A6 s.data.toList).take a)=some c/\w=w') (fun p=>m.size - p.2) (0,0) ⟨0,0,rfl,rfl,om,rfl,rfl⟩ ?_;rintro _ aw y w' ⟨c,a,rfl,rfl,a2,j,rfl⟩;have ak:=F3 _ 0 c 0 dE j;have ai:((A6 s.data.toList).take a).length<=18:=by rw [List.length_take];omega
     have az:c<1000000000000000000:=Nat.lt_of_lt_of_le ak (by rw [Nat.zero_add];exact Nat.pow_le_pow_right dE ai);(conv=>whnf);with_reducible refine AL (fun q=>?_) (fun q=>?_)
     .obtain ⟨d,o⟩:∃ d,m.data.toList[a]? = some d:=AA om;have ae:(A6 s.data.toList)[a]? = some d:=by rw [<- aa];exact o
      have h:KD ((A6 s.data.toList).take (a+1))=(if GV d then some (10 * c+(d.toNat - 48)) else none):=by
       rw [List.take_add_one,ae];show KD (_++[d])=_;rw [Nd,j];rfl
      (conv=>whnf);refine jC a rfl o ?_;(conv=>whnf);refine (FB _ w).mono ?_;rintro _ _ ⟨rfl,rfl⟩;(conv=>whnf);have u:DK d.toNat=GV d:=rfl;with_reducible refine A7 (fun f=>?_) (fun f=>?_)
      .rw [u] at f;rw [f] at h;have l:KD (A6 s.data.toList)=none:=by
        have ab:A6 s.data.toList=(A6 s.data.toList).take (a+1)++(A6 s.data.toList).drop (a+1):=(List.take_append_drop _ _).symm;have am:Cj (some 0) ((A6 s.data.toList).take (a+1))=none:=h;rw [ab];unfold KD;rw [Fi,am,Gn]
       rw [ao l x];(conv=>whnf);exact ⟨rfl,AD.refl _⟩
      .rw [u] at f;rw [f,if_pos rfl] at h;simp only [GV,Bool.and_eq_true,decide_eq_true_eq] at f;have al:=F3 _ 0 _ 0 dE h;have aj:((A6 s.data.toList).take (a+1)).length<=18:=by rw [List.length_take];omega
       have a0:10 * c+(d.toNat - 48)<1000000000000000000:=Nat.lt_of_lt_of_le al (by rw [Nat.zero_add];exact Nat.pow_le_pow_right dE aj);(conv=>whnf);refine AB.mul (10 * (c:Int)) rfl om om ?_;(conv=>whnf);refine jC a rfl o ?_;(conv=>whnf);refine Sw (((d.toNat - 48:Nat)):Int) om (H8 om om) ?_;(conv=>whnf);refine As (k := .i64) kR kR (Bo om om) ?_
       (conv=>whnf);refine jP (((10 * c+(d.toNat - 48):Nat)):Int) ?_;(conv=>whnf);refine jP (((a+1:Nat):Int)) ?_;(conv=>whnf);exact ⟨(_,a+1),(by show m.size - (a+1)<m.size - a;omega),_,_,rfl,rfl,om,h,rfl⟩
     .have ah:a=m.size:=om
      subst ah;rw [List.take_of_length_le om] at j;have b:=ap c j x;(conv=>whnf);with_reducible refine AL (fun ad=>?_) (fun ad=>?_)
      .rw [if_pos (show (A6 s.data.toList).length<s.data.toList.length by omega)] at b;(conv=>whnf);refine AB.neg (-(c:Int)) rfl om om ?_;(conv=>whnf);refine (B7 ⟨om,om⟩ w).mono ?_;rintro _ an ⟨rfl,g⟩;(conv=>whnf);with_reducible refine Ak (fun e=>?_) (fun e=>?_)
       .rw [if_neg e] at b;rw [b];(conv=>whnf);exact ⟨rfl,g⟩
       .rw [if_pos e] at b;rw [b];(conv=>whnf);exact ⟨rfl,g⟩
      .rw [if_neg (show ¬ (A6 s.data.toList).length<s.data.toList.length by omega)] at b;(conv=>whnf);refine (B7 ⟨om,om⟩ w).mono ?_;rintro _ an ⟨rfl,g⟩;(conv=>whnf);with_reducible refine Ak (fun e=>?_) (fun e=>?_)
       .rw [if_neg e] at b;rw [b];(conv=>whnf);exact ⟨rfl,g⟩
       .rw [if_pos e] at b;rw [b];(conv=>whnf);exact ⟨rfl,g⟩
  .have l:A6 s.data.toList=s.data.toList:=by
    unfold A6;rw [if_neg];intro ag;rw [List.head?_eq_getElem?,af] at ag;simp only [Option.some.injEq] at ag;exact q (by rw [ag];rfl)
   have aa:s.data.toList=A6 s.data.toList:=l.symm;have ay:(A6 s.data.toList).length=s.size:=by rw [l,ar]
   (conv=>whnf);with_reducible refine AL (fun i=>?_) (fun i=>?_)
   .have b:=t (.inl om);rw [b];(conv=>whnf);exact ⟨rfl,AD.refl _⟩
   ·(conv=>whnf);with_reducible refine AL (fun n=>?_) (fun n=>?_)
    .have b:=t (.inr om);rw [b];(conv=>whnf);exact ⟨rfl,AD.refl _⟩
    .have x:¬ ((A6 s.data.toList).length<1\/18<(A6 s.data.toList).length):=om
     (conv=>whnf);refine lR [0,4,5,6] (fun (p:Nat×Nat) y w'=>∃ c a,p=(c,a)/\y=[.string s,.string s,.int .i64 c,.int .i64 a]/\a<=s.size/\KD ((A6 s.data.toList).take a)=some c/\w=w') (fun p=>s.size - p.2) (0,0) ⟨0,0,rfl,rfl,om,rfl,rfl⟩ ?_;rintro _ aw y w' ⟨c,a,rfl,rfl,a2,j,rfl⟩;have ak:=F3 _ 0 c 0 dE j;have ai:((A6 s.data.toList).take a).length<=18:=by rw [List.length_take];omega
     have az:c<1000000000000000000:=Nat.lt_of_lt_of_le ak (by rw [Nat.zero_add];exact Nat.pow_le_pow_right dE ai);(conv=>whnf);with_reducible refine AL (fun q=>?_) (fun q=>?_)
     .obtain ⟨d,o⟩:∃ d,s.data.toList[a]? = some d:=AA om;have ae:(A6 s.data.toList)[a]? = some d:=by rw [<- aa];exact o
      have h:KD ((A6 s.data.toList).take (a+1))=(if GV d then some (10 * c+(d.toNat - 48)) else none):=by
       rw [List.take_add_one,ae];show KD (_++[d])=_;rw [Nd,j];rfl
      (conv=>whnf);refine jC a rfl o ?_;(conv=>whnf);refine (FB _ w).mono ?_;rintro _ _ ⟨rfl,rfl⟩;(conv=>whnf);have u:DK d.toNat=GV d:=rfl;with_reducible refine A7 (fun f=>?_) (fun f=>?_)
      .rw [u] at f;rw [f] at h;have l:KD (A6 s.data.toList)=none:=by
        have ab:A6 s.data.toList=(A6 s.data.toList).take (a+1)++(A6 s.data.toList).drop (a+1):=(List.take_append_drop _ _).symm;have am:Cj (some 0) ((A6 s.data.toList).take (a+1))=none:=h;rw [ab];unfold KD;rw [Fi,am,Gn]
       rw [ao l x];(conv=>whnf);exact ⟨rfl,AD.refl _⟩
      .rw [u] at f;rw [f,if_pos rfl] at h;simp only [GV,Bool.and_eq_true,decide_eq_true_eq] at f;have al:=F3 _ 0 _ 0 dE h;have aj:((A6 s.data.toList).take (a+1)).length<=18:=by rw [List.length_take];omega
       have a0:10 * c+(d.toNat - 48)<1000000000000000000:=Nat.lt_of_lt_of_le al (by rw [Nat.zero_add];exact Nat.pow_le_pow_right dE aj);(conv=>whnf);refine AB.mul (10 * (c:Int)) rfl om om ?_;(conv=>whnf);refine jC a rfl o ?_;(conv=>whnf);refine Sw (((d.toNat - 48:Nat)):Int) om (H8 om om) ?_;(conv=>whnf);refine As (k := .i64) kR kR (Bo om om) ?_
       (conv=>whnf);refine jP (((10 * c+(d.toNat - 48):Nat)):Int) ?_;(conv=>whnf);refine jP (((a+1:Nat):Int)) ?_;(conv=>whnf);exact ⟨(_,a+1),(by show s.size - (a+1)<s.size - a;omega),_,_,rfl,rfl,om,h,rfl⟩
     .have ah:a=s.size:=om
      subst ah;rw [List.take_of_length_le om] at j;have b:=ap c j x;(conv=>whnf);with_reducible refine AL (fun ad=>?_) (fun ad=>?_)
      .rw [if_pos (show (A6 s.data.toList).length<s.data.toList.length by omega)] at b;(conv=>whnf);refine AB.neg (-(c:Int)) rfl om om ?_;(conv=>whnf);refine (B7 ⟨om,om⟩ w).mono ?_;rintro _ an ⟨rfl,g⟩;(conv=>whnf);with_reducible refine Ak (fun e=>?_) (fun e=>?_)
       .rw [if_neg e] at b;rw [b];(conv=>whnf);exact ⟨rfl,g⟩
       .rw [if_pos e] at b;rw [b];(conv=>whnf);exact ⟨rfl,g⟩
      .rw [if_neg (show ¬ (A6 s.data.toList).length<s.data.toList.length by omega)] at b;(conv=>whnf);refine (B7 ⟨om,om⟩ w).mono ?_;rintro _ an ⟨rfl,g⟩;(conv=>whnf);with_reducible refine Ak (fun e=>?_) (fun e=>?_)
       .rw [if_neg e] at b;rw [b];(conv=>whnf);exact ⟨rfl,g⟩
       .rw [if_pos e] at b;rw [b];(conv=>whnf);exact ⟨rfl,g⟩
 .have aq:s.data.toList=[]:=by rw [ac]
  have b:=t (.inl (by rw [aq];exact Nat.one_pos));have a5:s.size=0:=by rw [<- ar,aq];simp
  (conv=>whnf);with_reducible refine AL (fun i=>?_) (fun i=>?_)
  .rw [b];(conv=>whnf);exact ⟨rfl,AD.refl _⟩
  .omega
end Go.Proofs.YtalgenmoljcnmaaGreatDoor
