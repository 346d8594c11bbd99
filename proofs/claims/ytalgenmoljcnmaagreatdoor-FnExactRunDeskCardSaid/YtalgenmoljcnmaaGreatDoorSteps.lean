/- Parts of the proof; no conditions of its own. -/
import Derived.Test.YtalgenmoljcnmaaGreatDoorDeal
import Derived.Test.YtalgenmoljcnmaaGreatDoorNum
namespace Go.M
open Go Go.Vc
variable {n:Int} {c:List Int} {f:AF} {d:List (List Int)} {k:Nat}
theorem Pn {l:List Int} (h:EZ l=some n) (hl:l.length<=12) : -999999999999<=n/\n<=999999999999+0:=by
 unfold EZ at h;cases b:l.getLast? with
 | none =>
  rw [b] at h;simp at h;omega
 | some f =>
  rw [b] at h;simp only at h;have i:=KE (DL f);split at h
  .split at h
   .cases h
   .rename_i g c a;have m:l.dropLast.length<=11:=by rw [List.length_dropLast];omega
    have d:=KX _ 0 false 0 om om _ _ a;have j:(10:Int) ^ (0+l.dropLast.length)<=10 ^ 11:=by
     have:=Nat.pow_le_pow_right (show 0<10 by omega) (show 0+l.dropLast.length<=11 by omega);have e:((10 ^ (0+l.dropLast.length):Nat):Int)<=((10 ^ 11:Nat):Int):=by exact_mod_cast this
     simpa using e
    have k:(10:Int) ^ 11=100000000000:=dE
    split at h
    .cases h
    split at h
    .cases h
    .simp only [Option.some.injEq] at h;omega
  .split at h
   .cases h
   .rename_i g c a;have d:=KV a hl;simp only [Option.some.injEq] at h;first | omega | (split at h<;>first | (cases h;done) | (simp only [Option.some.injEq] at h;omega))
theorem H5 (x:AF):Fp x.enc [.int .i64 0,.int .i64 0]=decide (x.from_=0/\x.to_=0):=by
 by_cases a:x.from_=0<;>by_cases b:x.to_=0<;>simp [Fp,AF.enc,a,b]
theorem IM (hf:Af f c.length=true):(AZ c f).length<=12/\AR f c.length=true:=by
 simp only [Af,Bool.and_eq_true,decide_eq_true_eq] at hf;have:=BV hf.1;exact ⟨by rw [LU hf.1];omega,hf.1⟩
theorem Xa (hc:d[k]? = some c) (hn:EZ (AZ c f)=some n):Dp (d.take (k+1)) f=Dp (d.take k) f+n:=by
 unfold Dp;rw [Pm hc hn,List.foldl_append];rfl
theorem SI (hc:d[k]? = some c) (hn:EZ (AZ c f)=none):EM d f=false:=by
 unfold EM;have:(d.any fun c=>(EZ (AZ c f)).isNone)=true:=List.any_eq_true.2 ⟨c,List.mem_of_getElem? hc,by rw [hn];rfl⟩;rw [this];rfl
theorem ND (h:∀ c∈d,(EZ (AZ c f)).isSome=true):EM d f=true:=by
 unfold EM;have:(d.any fun c=>(EZ (AZ c f)).isNone)=false:=by
  rw [List.any_eq_false];intro c a;have:=h c a;cases b:EZ (AZ c f) with
  | none=>rw [b] at this;cases this
  | some e=>simp
 rw [this];rfl
theorem SH (h:EM d f=true):∀ c∈d,(EZ (AZ c f)).isSome=true:=by
 intro c a;cases e:EZ (AZ c f) with
 | none =>
  obtain ⟨g,b⟩:=List.mem_iff_getElem?.1 a;rw [SI b e] at h;cases h
 | some i=>rfl
theorem Iy (h12:∀ c∈d,(AZ c f).length<=12) (h40:d.length<=40) : -40000000000000<=Dp d f/\Dp d f<=40000000000000:=by
 have i:∀ (d:List (List Int)) (a:Int),(∀ c∈d,(AZ c f).length<=12)->a - 1000000000000 * d.length<=(D7 d f).foldl (· + ·) a/\(D7 d f).foldl (· + ·) a<=a+1000000000000 * d.length:=by
  intro d;induction d with
  | nil=>intro a _;simp [D7]
  | cons c k g =>
   intro a b;unfold D7;rw [List.filterMap_cons];cases h:EZ (AZ c f) with
   | none =>
    have:=g a fun c e=>b c (List.mem_cons_of_mem _ e);unfold D7 at this;simp only [List.length_cons];omega
   | some j =>
    have l:=Pn h (b c sI);have:=g (a+j) fun c e=>b c (List.mem_cons_of_mem _ e);unfold D7 at this;simp only [List.foldl_cons,List.length_cons];omega
 have:=i d 0 h12;unfold Dp;omega
theorem QJ {g:List (List Int)} (h:(Be d f)[k]? = some g):g≠[]/\g.length<=d.length/\∀ c∈g,c∈d:=by
 unfold Be at h;rw [List.getElem?_map] at h;have a:k<(Aw (d.map (AS f))).length:=by
  rcases Nat.lt_or_ge k (Aw (d.map (AS f))).length with a | a
  .exact a
  .rw [List.getElem?_eq_none (by simpa using a)] at h;cases h
 rw [List.getElem?_range a,Option.map_some,Option.some.injEq] at h;have i:(Aw (d.map (AS f)))[k]? = some ((Aw (d.map (AS f))).getD k 0):=by
  rw [List.getD_eq_getElem?_getD,List.getElem?_eq_getElem a];rfl
 have e:=T5 i;rw [List.length_map] at e;generalize (Aw (d.map (AS f))).getD k 0=j at i e h;subst h;refine ⟨fun b=>?_,?_,fun c b=>List.mem_of_mem_drop (List.mem_of_mem_take b)⟩
 .have:=congrArg List.length b;simp at this;omega
 .simp;omega
end Go.M
namespace Go.Proofs.YtalgenmoljcnmaaGreatDoor
open Go Go.RowKit Go.Vc Go.M
theorem IC {w:World} {a b:Option Addr} {n c d:Nat} {xs:List (List Int)} (h:Ar Aa w a n xs) {f:AF} (hA:A4 AF.enc 2 w b 1 [f]) (hd:Ax xs=true) (hf:Af f (AJ xs)=true) :
  Dq 223 [.slice b 1 d,.slice a n c] w (fun v w'=>∃ a' n' c',v = .tuple #[.slice a' n' c',.bool (EM xs f)]/\(EM xs f=true->n'=1/\Ad w.heap.size a'/\Bw eI w' a' 1 2 [Dp xs f])/\AD w w'):=by
 have ci:=h.len;have ch:=h.le;have ao:=Ah hd;have ae:∀ e∈xs,Af f e.length=true:=fun e j=>by rw [(ao.2 e j).2];exact hf
 have bq:∀ e∈xs,∀ az∈e,0<=az/\az<=4095:=fun e j=>(Br (ao.2 e j).1).2.2;have bg:=ao.1;have bj:∀ o d e,e∈xs->Aa o d e->Dq 285 [.agg ⟨eH d⟩,.agg ⟨f.enc⟩] o (fun v w'=>v = .tuple #[.int .i64 (DC (AZ e f)).1,.bool (DC (AZ e f)).2]/\AD o w'):=fun o d e j aa=>RT aa (bq e j) (ae e j);obtain ⟨bw,ak,bi⟩:=h;have cg:=ak.len;refine oV Tryz.func223 ?_;refine bS B5 (vs:=[]) ?_;intro ca cq be cm bb a1;have a3:=Ab (enc:=eI) AI a1 be;refine lR [1,6,15,16,17] (fun (i:Nat) ar w'=>∃ ab ac,ar=[.slice a n c,.slice ab i ac,.slice b 1 d,.int .i64 (1:Nat),.int .i64 i]/\i<=1/\Ai eI 1 w.heap.size 2 w' ab i ac (if i=0 then [] else [Dp xs f])/\(i=1->EM xs f=true)/\AD w w') (fun i=>1 - i) 0 ⟨_,_,rfl,om,by simpa using a3,om,bb⟩ ?_;rintro i bc _ b4 ⟨ab,ac,rfl,cf,x,bo,al⟩;rcases Nat.lt_or_ge i 1 with bp | bp
 .obtain rfl:i=0:=om
  have bm:([f]:List AF)[0]? = some f:=rfl;have bh:=hA.ext al;simp only [if_true] at x;refine jI bh 0 rfl bm fun b' co cd bl=>jA (n:=2) bl rfl<|jN (z := .agg #[.int .i64 0,.int .i64 0]) fun aw cp bd cl ba a0=>jS (vs:=[Value.int .i64 f.from_,Value.int .i64 f.to_]) a0 rfl rfl (by simp [AE]) ?_;intro au a8 y;have y:CD au aw f.enc _:=y;have av:AD b4 au:=xb ba a8.but bd;refine lR [1,6,8,9,15,16,17,21,22,23] (fun (g:Nat) ar w'=>ar=[.slice a n c,.slice ab 0 ac,.pointer (some ⟨aw,0,none⟩),.int .i64 (Dp (xs.take g) f),.slice b 1 d,.int .i64 (1:Nat),.int .i64 (0:Nat),.slice a n c,.int .i64 n,.int .i64 g]/\g<=n/\(∀ c∈xs.take g,(EZ (AZ c f)).isSome=true)/\AD au w') (fun g=>n - g) 0 ⟨rfl,om,sI,AD.refl _⟩ ?_;rintro g bc _ ct ⟨rfl,ce,ax,q⟩;have m:=xt (xt al av) q;rcases Nat.lt_or_ge g n with bn | bn
  .obtain ⟨r,ap⟩:=AA (l:=bw) (k:=g) om;obtain ⟨e,j,aa⟩:=bi.get ap;have ay:=List.mem_of_getElem? j;have ad:∀ o,AD w o->Dq 285 [.agg ⟨eH r⟩,.agg ⟨f.enc⟩] o (fun v w'=>v = .tuple #[.int .i64 (DC (AZ e f)).1,.bool (DC (AZ e f)).2]/\AD o w'):=fun o a9=>bj o r e ay ⟨aa.1.ext a9,aa.2⟩;have bv:=IM (ae e ay);rcases N5 (AZ e f) with af | ⟨b8,b0,aq⟩
   .rw [af] at ad;have bu:EZ (AZ e f)=none:=by
     unfold DC at af;split at af
     .assumption
     .cases af
    rw [SI j bu];exact iY<|jI (ak.ext m) g rfl ap fun a6 b3 bk am=>jA (n:=1) am rfl<|jN (z := .agg #[.slice none 0 0]) fun a7 b5 u b1 t ag=>jS (vs:=[Value.slice r.a r.n r.c]) ag rfl rfl (by simp [AE]) fun b6 s ah=>jA (n:=1) ah.cells rfl<|jA (n:=2) (y.ext (xb (xt q t) s.but (nB q u))).cells rfl<|dM (ad _ (xb (xt m t) s.but (nB m u))) fun b7 aj=>⟨_,_,_,rfl,by simp [*],(xt (xb (xt m t) s.but (nB m u)) aj)⟩
   .rw [b0] at ad;have cj:=Pn aq bv.1;have bx:=Iy (d:=xs.take g) (f:=f) (fun c an=>(IM (ae c (List.mem_of_mem_take an))).1) (by rw [List.length_take];omega);have bz:=Xa j aq;have bt:=GN (p:=fun c=>(EZ (AZ c f)).isSome=true) j ax (by rw [aq];rfl);refine iY<|jI (ak.ext m) g rfl ap fun a6 b3 bk am=>jA (n:=1) am rfl<|jN (z := .agg #[.slice none 0 0]) fun a7 b5 u b1 t ag=>jS (vs:=[Value.slice r.a r.n r.c]) ag rfl rfl (by simp [AE]) fun b6 s ah=>jA (n:=1) ah.cells rfl<|jA (n:=2) (y.ext (xb (xt q t) s.but (nB q u))).cells rfl<|dM (ad _ (xb (xt m t) s.but (nB m u))) fun b7 aj=>AB.add (Dp (List.take g xs) f+b8) rfl om om<|jP (((g+1:Nat):Int)) ⟨g+1,om,by rw [bz];rfl,om,bt,(xt (xb (xt q t) s.but (nB q u)) aj)⟩
  .obtain rfl:g=n:=om
   have br:=ND (G2 (show xs.length<=g by omega) ax);have bx:=Iy (d:=xs) (f:=f) (fun c an=>(IM (ae c an)).1) bg;rw [List.take_of_length_le om];refine iN<|bS B5 (vs:=[Value.int IntKind.i64 (Dp xs f)]) ?_;intro cb cr bf cn ai a2;have a4:=AG (n:=1) (enc:=eI) (xs:=[Dp xs f]) AI a2 bf rfl dE;exact Dw (enc:=eI) B5 AI (x.ext (xt (xt av q) ai)) (a4.own.arr AI) (by intro cu _;simp [eI,AE]) om om (Below.size (xt m ai)) fun b9 cc cs a5 b2 ck=>jP (((0+1:Nat):Int)) ⟨1,om,_,_,rfl,om,by simpa using a5,fun _=>br,xm (xt m ai) b2 (AO x.new)⟩
 .obtain rfl:i=1:=om
  rw [bo rfl];refine ⟨_,_,_,rfl,?_,al⟩
  .exact fun _=>⟨rfl,x.new,by simpa using x.own⟩
theorem Fc (k:Int) (w:World):Dq 226 [.int .i64 k] w (fun v w'=>v = .bool (DV k)/\w=w'):=by
 refine oV Tryz.func226 ?_;refine (B8 _ _ _ _).mono ?_;rintro _ _ ⟨rfl,rfl⟩;exact ⟨rfl,rfl⟩
theorem QA {x:EB} (hx:x.ok) {width:Int} (h0:BM width) (w:World):Dq 286 [.agg ⟨x.enc⟩,.int .i64 width] w (fun v w'=>v = .bool (BE x width)/\AD w w'):=by
 have ap:AR x.field width=true->Dc width 1 20=true->IntKind.i64.wrap (x.field.to_ - x.field.from_)=x.field.to_ - x.field.from_:=fun r i=>by
  have:=BV r;have:=Bs i;exact Bo om om
 have ao:(x.text=(⟨#[]⟩:ByteArray))=(x.text.size=0):=by
  refine propext ⟨fun h=>by rw [h];rfl,fun h=>?_⟩;apply CV;have i:x.text.data.toList.length=0:=by simpa using h
  rw [List.eq_nil_of_length_eq_zero i]
 refine oV Tryz.func286 ?_;conv=>whnf
 refine AB.box ?_;intro ah ar ai aq c a;(conv=>whnf);refine (B8 _ _ _ _).mono ?_;rintro _ _ ⟨rfl,rfl⟩;(conv=>whnf);with_reducible refine A7 (fun m=>?_) (fun m=>?_)
 ·(conv=>whnf);refine ⟨?_,c⟩
  .exact congrArg Value.bool (by first | (simp [BE, *];done) | (simp_all [BE,DV,Dc];done))
 ·(conv=>whnf);have ak:=Bs m;refine jL a.cells (k:=0) rfl ?_;(conv=>whnf);refine (B8 _ _ _ _).mono ?_;rintro _ _ ⟨rfl,rfl⟩;(conv=>whnf);with_reducible refine A7 (fun o=>?_) (fun o=>?_)
  ·(conv=>whnf);refine ⟨?_,c⟩
   .exact congrArg Value.bool (by first | (simp [BE, *];done) | (simp_all [BE,DV,Dc];done))
  ·(conv=>whnf);have al:=Bs o;refine jL a.cells (k:=1) rfl ?_;(conv=>whnf);refine (FH _ _).mono ?_;rintro _ _ ⟨rfl,rfl⟩;(conv=>whnf);with_reducible refine A7 (fun p=>?_) (fun p=>?_)
   ·(conv=>whnf);refine ⟨?_,c⟩
    .exact congrArg Value.bool (by first | (simp [BE, *];done) | (simp_all [BE,DV,Dc];done))
   ·(conv=>whnf);have am:=Bs p;refine jL a.cells (k:=2) rfl ?_;(conv=>whnf);refine (FH _ _).mono ?_;rintro _ _ ⟨rfl,rfl⟩;(conv=>whnf);with_reducible refine A7 (fun q=>?_) (fun q=>?_)
    ·(conv=>whnf);refine ⟨?_,c⟩
     .exact congrArg Value.bool (by first | (simp [BE, *];done) | (simp_all [BE,DV,Dc];done))
    ·(conv=>whnf);have an:=Bs q;refine jL a.cells (k:=3) rfl ?_;(conv=>whnf);refine (FH _ _).mono ?_;rintro _ _ ⟨rfl,rfl⟩;(conv=>whnf);with_reducible refine A7 (fun l=>?_) (fun l=>?_)
     ·(conv=>whnf);refine ⟨?_,c⟩
      .exact congrArg Value.bool (by first | (simp [BE, *];done) | (simp_all [BE,DV,Dc];done))
     ·(conv=>whnf);have aj:=Bs l;refine jL a.cells (k:=2) rfl ?_;(conv=>whnf);with_reducible refine Ak (fun s=>?_) (fun s=>?_)
      focus
       (conv=>whnf);refine jL a.cells (k:=0) rfl ?_;(conv=>whnf);refine (Fc _ _).mono ?_;rintro _ _ ⟨rfl,rfl⟩;(conv=>whnf);with_reducible refine A7 (fun t=>?_) (fun t=>?_)
       ·(conv=>whnf);refine ⟨?_,c⟩
        .exact congrArg Value.bool (by first | (simp [BE, *];done) | (simp_all [BE,DV,Dc];done))
      all_goals
       (conv=>whnf);refine jL a.cells (k:=3) rfl ?_;(conv=>whnf);with_reducible refine Ak (fun u=>?_) (fun u=>?_)
       ·(conv=>whnf);refine jL a.cells (k:=0) rfl ?_;(conv=>whnf);with_reducible refine AL (fun y=>?_) (fun y=>?_)
        ·(conv=>whnf);refine ⟨?_,c⟩
         .exact congrArg Value.bool (by first | (simp [BE, *];done) | (simp_all [BE,DV,Dc];done))
        ·(conv=>whnf);refine jG (n:=2) (k:=4) a.cells rfl ?_;(conv=>whnf);refine (DR _ _ _).mono ?_;rintro _ au ⟨rfl,d⟩;(conv=>whnf);with_reducible refine A7 (fun z=>?_) (fun z=>?_)
         ·(conv=>whnf);refine ⟨?_,(xt c d)⟩
          .exact congrArg Value.bool (by first | (simp [BE, *];done) | (simp_all [BE,DV,Dc];done))
         ·(conv=>whnf);refine jL (a.ext d).cells (k:=0) rfl ?_;(conv=>whnf);refine iN ?_;(conv=>whnf);refine jL (a.ext d).cells (k:=0) rfl ?_;(conv=>whnf);refine iT ?_;(conv=>whnf);refine jG (n:=2) (k:=6) (a.ext d).cells rfl ?_;(conv=>whnf);refine AB.build PU rfl ?_;(conv=>whnf);refine JP (ks:=[false,false]) (xs:=x.sum.enc) (ys:=(AF.mk 0 0).enc) kR kR (F6 hx.2.2.2.2.2.1) (F6 ⟨by unfold BM;decide,by unfold BM;decide⟩) ?_;rw [show Fp x.sum.enc (AF.mk 0 0).enc=_ from H5 x.sum];(conv=>whnf);with_reducible refine Ak (fun aa=>?_) (fun aa=>?_)
          ·(conv=>whnf);refine ⟨?_,(xt c d)⟩
           .exact congrArg Value.bool (by first | (simp [BE, *];done) | (simp_all [BE,DV,Dc];done))
          ·(conv=>whnf);refine jL (a.ext d).cells (k:=0) rfl ?_;(conv=>whnf);with_reducible refine AL (fun ab=>?_) (fun ab=>?_)
           ·(conv=>whnf);refine jL (a.ext d).cells (k:=8) rfl ?_;(conv=>whnf);refine (DJ _ hx.2.2.2.2.2.2 _).mono ?_;rintro _ aw ⟨rfl,e⟩;(conv=>whnf);with_reducible refine BS (fun j=>?_) (fun j=>?_)
            ·(conv=>whnf);refine jL (a.ext (xt d e)).cells (k:=8) rfl ?_;(conv=>whnf);refine jL (a.ext (xt d e)).cells (k:=5) rfl ?_;(conv=>whnf);refine jL (a.ext (xt d e)).cells (k:=4) rfl ?_;(conv=>whnf);refine HW ?_;(conv=>whnf);refine ⟨?_,(xt (xt c d) e)⟩
             .exact congrArg Value.bool (by first | (simp [BE, *];done) | (simp_all [BE,DV,Dc];done))
            ·(conv=>whnf);refine ⟨?_,(xt (xt c d) e)⟩
             .exact congrArg Value.bool (by first | (simp [BE, *];done) | (simp_all [BE,DV,Dc];done))
           ·(conv=>whnf);refine jL (a.ext d).cells (k:=8) rfl ?_;(conv=>whnf);refine ⟨?_,(xt c d)⟩
            .exact congrArg Value.bool (by first | (simp [BE, *];done) | (simp_all [BE,DV,Dc];done))
       ·(conv=>whnf);refine jG (n:=2) (k:=4) a.cells rfl ?_;(conv=>whnf);refine (DR _ _ _).mono ?_;rintro _ av ⟨rfl,b⟩;(conv=>whnf);with_reducible refine A7 (fun ac=>?_) (fun ac=>?_)
        ·(conv=>whnf);refine ⟨?_,(xt c b)⟩
         .exact congrArg Value.bool (by first | (simp [BE, *];done) | (simp_all [BE,DV,Dc];done))
        ·(conv=>whnf);refine jL (a.ext b).cells (k:=0) rfl ?_;(conv=>whnf);with_reducible refine AL (fun ad=>?_) (fun ad=>?_)
         ·(conv=>whnf);refine jG (n:=2) (k:=6) (a.ext b).cells rfl ?_;(conv=>whnf);refine (Hs hx.2.2.2.2.2.1 om om _).mono ?_;rintro _ ax ⟨rfl,f⟩;(conv=>whnf);with_reducible refine A7 (fun af=>?_) (fun af=>?_)
          ·(conv=>whnf);refine ⟨?_,(xt (xt c b) f)⟩
           .exact congrArg Value.bool (by first | (simp [BE, *];done) | (simp_all [BE,DV,Dc];done))
          ·(conv=>whnf);refine jL (a.ext (xt b f)).cells (k:=0) rfl ?_;(conv=>whnf);refine iF ?_;(conv=>whnf);refine jL (a.ext (xt b f)).cells (k:=0) rfl ?_;(conv=>whnf);refine iN ?_;(conv=>whnf);refine jL (a.ext (xt b f)).cells (k:=8) rfl ?_;(conv=>whnf);refine ⟨?_,(xt (xt c b) f)⟩
           .exact congrArg Value.bool (by first | (simp [BE, *];done) | (simp_all [BE,DV,Dc];done))
         ·(conv=>whnf);refine jL (a.ext b).cells (k:=0) rfl ?_;(conv=>whnf);refine iT ?_;(conv=>whnf);refine jG (n:=2) (k:=6) (a.ext b).cells rfl ?_;(conv=>whnf);refine AB.build PU rfl ?_;(conv=>whnf);refine JP (ks:=[false,false]) (xs:=x.sum.enc) (ys:=(AF.mk 0 0).enc) kR kR (F6 hx.2.2.2.2.2.1) (F6 ⟨by unfold BM;decide,by unfold BM;decide⟩) ?_;rw [show Fp x.sum.enc (AF.mk 0 0).enc=_ from H5 x.sum];(conv=>whnf);with_reducible refine Ak (fun j=>?_) (fun j=>?_)
          ·(conv=>whnf);refine ⟨?_,(xt c b)⟩
           .exact congrArg Value.bool (by first | (simp [BE, *];done) | (simp_all [BE,DV,Dc];done))
          ·(conv=>whnf);refine jL (a.ext b).cells (k:=0) rfl ?_;(conv=>whnf);with_reducible refine AL (fun ae=>?_) (fun ae=>?_)
           ·(conv=>whnf);refine jL (a.ext b).cells (k:=8) rfl ?_;(conv=>whnf);refine (DJ _ hx.2.2.2.2.2.2 _).mono ?_;rintro _ ay ⟨rfl,g⟩;(conv=>whnf);with_reducible refine BS (fun ag=>?_) (fun ag=>?_)
            ·(conv=>whnf);refine jL (a.ext (xt b g)).cells (k:=8) rfl ?_;(conv=>whnf);refine jL (a.ext (xt b g)).cells (k:=5) rfl ?_;(conv=>whnf);refine jL (a.ext (xt b g)).cells (k:=4) rfl ?_;(conv=>whnf);refine HW ?_;(conv=>whnf);refine ⟨?_,(xt (xt c b) g)⟩
             .exact congrArg Value.bool (by first | (simp [BE, *];done) | (simp_all [BE,DV,Dc];done))
            ·(conv=>whnf);refine ⟨?_,(xt (xt c b) g)⟩
             .exact congrArg Value.bool (by first | (simp [BE, *];done) | (simp_all [BE,DV,Dc];done))
           ·(conv=>whnf);refine jL (a.ext b).cells (k:=8) rfl ?_;(conv=>whnf);refine ⟨?_,(xt c b)⟩
            .exact congrArg Value.bool (by first | (simp [BE, *];done) | (simp_all [BE,DV,Dc];done))
end Go.Proofs.YtalgenmoljcnmaaGreatDoor
namespace Go.M
open Go Go.Vc
variable {d g:List (List Int)} {s:AF}
theorem QK (hd:Ax d=true) (h0:g≠[]) (hl:g.length<=d.length) (hg:∀ c∈g,c∈d):Ax g=true/\AJ g=AJ d:=by
 have a:=Ah hd;refine ⟨Ip (W:=AJ d) om fun c b=>a.2 c (hg c b),?_⟩;cases g with
 | nil=>exact absurd rfl h0
 | cons c e=>exact (a.2 c (hg c sI)).2
theorem HT (d:List (List Int)) (f:AF):(Be d f).length<=d.length:=by
 rw [JI];unfold Aw DY;refine Nat.le_trans (List.length_filter_le _ _) ?_;simp
theorem O3 {B:Nat} (sep:UInt8):∀ l:List (List UInt8),(∀ x∈l,x.length<=B)->(Lib.join l [sep]).length<=l.length * (B+1)
 | [],_=>by simp [Lib.join]
 | x :: xs,h=>by
  have key:∀ l:List (List UInt8),(∀ x∈l,x.length<=B)->(Lib.joinTail [sep] l).length<=l.length * (B+1):=by
   intro l;induction l with
   | nil=>intro _;simp [Lib.joinTail]
   | cons b d i =>
    intro h;have e:=i fun c a=>h c (by simp [a]);have f:=h b sI;have g:Lib.joinTail [sep] (b :: d)=sep :: (b++Lib.joinTail [sep] d):=by simp [Lib.joinTail]
    rw [g,List.length_cons,List.length_append,List.length_cons,Nat.add_mul];omega
  have e:=key xs fun c a=>h c (by simp [a]);have f:=h x sI;rw [Lib.join_cons,List.length_append,List.length_cons,Nat.add_mul];omega
theorem Ct {α β:Type} {l:List α} {k:Nat} {x:α} (g:α->β) (h:l[k]? = some x):(l.take (k+1)).map g=(l.take k).map g++[g x]:=by
 rw [List.take_add_one,h];simp
theorem LV (h:EM d s=true) (hg:∀ c∈g,c∈d):EM g s=true:=ND fun c a=>SH h c (hg c a)
theorem VS {f:AF} (h:Da d f=true):∀ c∈d,Dd (AZ c f)=true:=List.all_eq_true.1 h
theorem QF {c:List Int} (h:g[0]? = some c):g.headD []=c:=by
 cases g with
 | nil=>cases h
 | cons a b=>simpa using h
theorem Bj (x:AF):(AF.enc x).length=2:=rfl
theorem Nk {w:World} {b t:Nat} (B:CD w b s.enc t):A4 AF.enc 2 w (some ⟨b,0,none⟩) 1 [s]:=by
 refine ⟨rfl,by unfold maxLen;omega,fun c d a=>?_⟩;cases c with
 | zero=>simp at a;subst a;exact ⟨b,0,rfl,by simpa using B.cells⟩
 | succ c=>simp at a
end Go.M
namespace Go.Proofs.YtalgenmoljcnmaaGreatDoor
open Go Go.RowKit Go.Vc Go.M
variable {w:World} {a:Option Addr} {n c:Nat}
theorem RN {xs:List (List Int)} (h:Ar Aa w a n xs) (hnc:n<=c) {f s:AF} (hd:Ax xs=true) (hf:AR f (AJ xs)=true) (hs:Af s (AJ xs)=true) :
  Dq 287 [.slice a n c,.agg ⟨f.enc⟩,.agg ⟨s.enc⟩] w (fun v w'=>∃ a' m c',v = .tuple #[.slice a' m c',.int .i64 (Az xs f s).2]/\((Az xs f s).2=0->Ad w.heap.size a'/\m<=c'/\m<=40/\Bw A9.enc w' a' m 237 (Az xs f s).1)/\AD w w'):=by
 have dy:=h.len;have dw:=h.le;have ax:=Ah hd;have dp:=ax.1;have bx:∀ ab∈xs,AR f ab.length=true:=fun ab ap=>by rw [(ax.2 ab ap).2];exact hf
 have cq:∀ ab∈xs,ab.length<=20:=fun ab ap=>(Br (ax.2 ab ap).1).2.1;have al:∀ b ac x,AD w b->A4 AF.enc 2 b ac 1 [s]->Dq 223 [.slice ac 1 x,.slice a n c] b (fun v w'=>∃ a' ag c',v = .tuple #[.slice a' ag c',.bool (EM xs s)]/\(EM xs s=true->ag=1/\Ad b.heap.size a'/\Bw eI w' a' 1 2 [Dp xs s])/\AD b w'):=fun b ac x t a2=>IC (h.ext t) a2 hd hs;have aw:∀ b,AD w b->Dq 210 [.slice a n c,.agg ⟨f.enc⟩] b (fun v w'=>v = .bool (Da xs f)/\AD b w'):=fun b t=>FI (h.ext t) hd hf;have cu:∀ b,AD w b->Dq 148 [.slice a n c,.agg ⟨f.enc⟩] b (fun v w'=>∃ a' m c',v = .slice a' m c'/\(∀ bd,BY (fun o=>¬ Iv b.heap.size w'.heap.size o) w' bd->Ar Aa bd a n xs->Ar DM bd a' m (Be xs f))/\AD b w'):=fun b t=>OD (h.ext t) bx om hnc;have dt:=HT xs f;cases am:EM xs s
 .have aa:Az xs f s=([],8):=by simp [Az,am]
  rw [aa];rw [am] at al;refine oV Tryz.func287 ?_;refine AB.box ?_;intro a5 b8 bm b1 q ah;refine AB.box fun a6 b9 bn b2 i ai=>jA (n:=2) ai.cells rfl ?_;refine bS JV (vs:=[Value.agg #[Value.int IntKind.i64 s.from_,Value.int IntKind.i64 s.to_]]) fun bj a0 bo b3 g an=>(al _ _ _ (xt (xt q i) g) (Nk an)).mono ?_;rintro _ b' ⟨bi,b5,bk,rfl,b6,p⟩;exact ⟨_,_,_,rfl,om,(xt (xt (xt q i) g) p)⟩
 .cases aq:Da xs f
  .have aa:Az xs f s=([],8):=by simp [Az,aq]
   rw [aa];rw [am] at al;rw [aq] at aw;refine oV Tryz.func287 ?_;refine AB.box ?_;intro a5 b8 bm b1 q ah;refine AB.box fun a6 b9 bn b2 i ai=>jA (n:=2) ai.cells rfl ?_;refine bS JV (vs:=[Value.agg #[Value.int IntKind.i64 s.from_,Value.int IntKind.i64 s.to_]]) fun bj a0 bo b3 g an=>(al _ _ _ (xt (xt q i) g) (Nk an)).mono ?_;rintro _ b' ⟨bi,b5,bk,rfl,b6,p⟩;exact jA (n:=2) (ah.ext (xt (xt i g) p)).cells rfl<|dM (aw _ (xt (xt (xt q i) g) p)) fun dd ad=>⟨_,_,_,rfl,om,(xt (xt (xt (xt q i) g) p) ad)⟩
  .have aa:Az xs f s=((Be xs f).map fun e=>⟨ES e f,Dp e s⟩,0):=by simp [Az,am,aq]
   rw [aa];rw [am] at al;rw [aq] at aw;refine oV Tryz.func287 ?_;refine AB.box ?_;intro a5 b8 bm b1 q ah;refine AB.box fun a6 b9 bn b2 i ai=>jA (n:=2) ai.cells rfl ?_;refine bS JV (vs:=[Value.agg #[Value.int IntKind.i64 s.from_,Value.int IntKind.i64 s.to_]]) fun bj a0 bo b3 g an=>(al _ _ _ (xt (xt q i) g) (Nk an)).mono ?_;rintro _ b' ⟨bi,b5,bk,rfl,b6,p⟩;refine jA (n:=2) (ah.ext (xt (xt i g) p)).cells rfl<|dM (aw _ (xt (xt (xt q i) g) p)) fun dd ad=>bS IQ (vs:=[]) ?_;intro cj ca cm d1 au cb;have ce:=Ab (enc:=A9.enc) Bu cb cm;refine jA (n:=2) (ah.ext (xt (xt (xt (xt i g) p) ad) au)).cells rfl<|(cu _ (xt (xt (xt (xt (xt q i) g) p) ad) au)).mono ?_;rintro _ a1 ⟨ci,af,cl,rfl,b7,av⟩;have dx:af=(Be xs f).length:=by
    have cr:=xt (xt (xt (xt (xt (xt q i) g) p) ad) au) av;have:=(b7 a1 (Vc.BY.refl _ _) (h.ext cr)).len;omega
   have ec:=av.size;refine lR [4,5,10,33,34,35] (fun (j:Nat) dc w'=>∃ ar a7,dc=[.pointer (some ⟨a5,0,none⟩),.pointer (some ⟨a6,0,none⟩),.slice ar j a7,.slice ci af cl,.int .i64 af,.int .i64 j]/\j<=af/\Ai A9.enc 2 a0.heap.size 237 w' ar j a7 (((Be xs f).take j).map fun e=>⟨ES e f,Dp e s⟩)/\(∀ o,AN ar o->o<ca.heap.size\/a1.heap.size<=o)/\BY (fun o=>¬ Iv ca.heap.size a1.heap.size o) a1 w'/\AD a0 w') (fun j=>af - j) 0 ⟨_,_,rfl,om,(ce.ext av).base (by have:=p.size;have:=ad.size;omega),?_,Vc.BY.refl _ _,xt (xt (xt p ad) au) av⟩ ?_
   .rintro o ⟨ab,ap,aa⟩;cases ap
    have aa:o=cj:=aa;omega
   have bf:=xt (xt q i) g;rintro j e _ be ⟨ar,a7,rfl,bb,ak,b0,a3,ao⟩;have bu:=xt bf ao;rcases Nat.lt_or_ge j af with c4 | c4
   .obtain ⟨e,a9⟩:=AA (l:=Be xs f) (k:=j) om;obtain ⟨bz,c1,ay⟩:=QJ a9;obtain ⟨c0,c2⟩:=QK hd bz c1 ay;obtain ⟨r,az⟩:=AA (l:=e) (k:=0) (List.length_pos_iff.2 bz);have bc:=ay r (List.mem_of_getElem? az);have c3:ES e f=Cd (AS f r):=by unfold ES;rw [QF az]
    have c5:=Ct (fun e=>(⟨ES e f,Dp e s⟩:A9)) a9;rw [c3] at c5;obtain ⟨cp,bt,cs⟩:=b7 be a3 (h.ext bu);have dq:=bt.len;obtain ⟨x,bv⟩:=AA (l:=cp) (k:=j) om;have bg:=cs.2 j x _ bv a9;have cv:∀ b ac a8,AD be b->A4 AF.enc 2 b ac 1 [s]->Dq 223 [.slice ac 1 a8,.slice x.a x.n x.c] b (fun v w'=>∃ a' ag c',v = .tuple #[.slice a' ag c',.bool true]/\(ag=1/\Ad b.heap.size a'/\Bw eI w' a' 1 2 [Dp e s])/\AD b w'):=fun b ac a8 t a2=>by
     have:=IC (d:=a8) (c:=x.c) (bg.1.ext t) a2 c0 (by rw [c2];exact hs);rw [LV am ay] at this;refine this.mono ?_;rintro v w' ⟨a',ag,c',c9,da,db⟩;exact ⟨a',ag,c',c9,da rfl,db⟩
    obtain ⟨c6,br,bq⟩:=bg.1;have dv:=br.len;have dz:=bq.1;have du:=(List.getElem?_eq_some_iff.1 az).1;obtain ⟨bl,bw⟩:=AA (l:=c6) (k:=0) om;have bh:=bq.2 0 bl r bw az;have ct:∀ b,AD be b->Dq 149 [.agg ⟨eH bl⟩,.agg ⟨f.enc⟩] b (fun v w'=>v = .string (Cd (AS f r))/\AD b w'):=fun b t=>J9 ⟨bh.1.ext t,bh.2⟩ (bx r bc) (cq r bc) (VS aq r bc);have d0:=Iy (d:=e) (f:=s) (fun c cz=>(IM (by rw [(ax.2 c (ay c cz)).2];exact hs)).1) om;refine iY<|jI bt j rfl bv fun di d6 dr cw=>jO cw rfl<|jA (n:=2) (ai.ext (xt g ao)).cells rfl<|bS JV (vs:=[Value.agg #[Value.int IntKind.i64 s.from_,Value.int IntKind.i64 s.to_]]) ?_;intro dj d8 cn d2 u cc;have cf:=AG (n:=1) (enc:=AF.enc) (xs:=[⟨s.from_,s.to_⟩]) Bj cc cn rfl dE;refine (cv _ _ _ u (cf.own.arr Bj)).mono ?_;rintro _ de ⟨dg,d5,dm,rfl,⟨rfl,df,a4⟩,y⟩;refine Av A8 mixed (pZ [0,5,10,30,35,16,21,41,27,46,52,58,60]) kR kR fun d9 z=>pI (br.ext (xt u y)) 0 rfl bw ?_;intro dk d7 ds cx;have c7:([Dp e s]:List Int)[0]? = some (Dp e s):=rfl;obtain ⟨ck,rfl⟩:=(a4).some om;have d4:ck<de.heap.size:=a4.lt _ rfl;refine pW (sz:=1) 0 rfl om ?_;have cy:=AT AI a4 c7;refine dA (n:=1) cx rfl<|dA (n:=2) (ah.ext (xt (xt (xt (xt i g) ao) u) y)).cells rfl<|dL cy (k:=0) rfl<|dM (ct _ (xt (xt u y) z)) fun d' ae=>⟨(xt z ae),BN.build Yc rfl<|bS IQ (vs:=[Value.agg #[Value.string (Cd (AS f r)),Value.int IntKind.i64 (Dp e s)]]) ?_⟩;intro dl ea co d3 aj cd;have cg:=AG (n:=1) (enc:=A9.enc) (xs:=[⟨Cd (AS f r),Dp e s⟩]) Bu cd co rfl dE;refine ⟨(xt (xt z ae) aj),AM (enc:=A9.enc) IQ Bu (ak.ext (xt (xt (xt (xt u y) z) ae) aj)) (cg.own.arr Bu) (by intro r _;simp [A9.enc,AE]) om om (Below.size (xt (xt (xt (xt (xt ao u) y) z) ae) aj)) fun dh dn eb ch b4 c8=>jP (((j+1:Nat):Int)) ⟨j+1,om,_,_,rfl,om,by simpa [List.take_add_one,-List.take_append_getElem, *] using ch,?_,?_,(xm (xt (xt (xt (xt (xt ao u) y) z) ae) aj) b4 (AO ak.new))⟩⟩
    .intro o ba;rcases c8 o ba with bp | bp
     .exact b0 o bp
     .have:=a3.size;have:=Below.size (xt (xt (xt (xt u y) z) ae) aj);omega
    .exact a3.trans ((AD.mod (xt (xt (xt (xt u y) z) ae) aj)).trans (b4.mono fun o ba bb=>by
      have:=b0 o ba;have:=bb.1;have:=bb.2;omega))
   .obtain rfl:j=af:=om
    rw [List.take_of_length_le om] at ak;refine iN ⟨_,_,_,rfl,?_,bu⟩
    .exact fun _=>⟨ak.new.mono (Below.size bf),ak.le.1,om,ak.own⟩
theorem Oi {xs:List A9} (h:A4 A9.enc 2 w a n xs) (hok:∀ x∈xs,x.name.size<=20/\BM x.sum) (hn2:n<=40) (hT:F7 w) :
  Dq 154 [.slice a n c] w (fun v w'=>v = .string (GF xs)/\AD w w'):=by
 have a':=h.len;refine oV Tryz.func154 ?_;refine bS BI (vs:=[]) ?_;intro a0 bj al bd ai ae;have ah:=Ab (enc:=eS) AQ ae al;refine lR [3,7,8,9] (fun (b:Nat) aw w'=>∃ j r,aw=[.slice j b r,.slice a n c,.int .i64 n,.int .i64 b]/\b<=n/\(∃ aa,j=some ⟨aa,0,none⟩)/\Ai eS 1 w.heap.size 9 w' j b r ((xs.take b).map CQ)/\AD w w') (fun b=>n - b) 0 ⟨_,_,rfl,om,⟨_,rfl⟩,by simpa using ah,ai⟩ ?_;rintro b a4 _ bk ⟨j,r,rfl,a9,⟨aa,rfl⟩,g,d⟩;rcases Nat.lt_or_ge b n with ao | ao
 .obtain ⟨x,s⟩:=AA (l:=xs) (k:=b) om;obtain ⟨ba,t⟩:=hok x (List.mem_of_getElem? s);have ap:=Ct CQ s;have a8:=Bc t.1 t.2;refine iY<|jI (h.ext d) b rfl s fun a1 bf a7 an=>jA (n:=2) an rfl<|jN (z := .agg #[.string { data := #[] },.int .i64 0]) fun a2 bm q be p af=>jS af (vs:=x.enc) rfl rfl (by simp [A9.enc,AE]) fun bn m u=>Av A8 mixed (pZ [0,5,20,11,15,26,32,35,42,48,50]) kR kR fun bo e=>dL u.cells (k:=0) rfl<|F8 (by simp only [ByteArray.size_append,AV,CO,CZ,List.length_cons,List.length_nil];omega)<|dL u.cells (k:=1) rfl<|dM (Ck t (hT.ext (xt (xb (xt d p) m.but (nB d q)) e))) fun bg f=>⟨(xt e f),F8 (by simp only [ByteArray.size_append,AV,CO,CZ,List.length_cons,List.length_nil];omega)<|bS BI (vs:=[Value.string (x.name++{ data := #[61] }++BP x.sum)]) ?_⟩;intro az bh ak bc o ad;have ag:=AG (n:=1) (enc:=eS) (xs:=[x.name++{ data := #[61] }++BP x.sum]) AQ ad ak rfl dE;refine ⟨(xt (xt e f) o),AM (enc:=eS) BI AQ (g.ext (xt (xt (xt (xb p m.but q) e) f) o)) (ag.own.arr AQ) (by intro ax _;simp [eS,AE]) om om (Below.size (xt (xt (xt (xb (xt d p) m.but (nB d q)) e) f) o)) fun ay a3 bi y av bb=>jP (((b+1:Nat):Int)) ⟨b+1,om,_,_,rfl,om,?_,?_,(xm (xt (xt (xt (xb (xt d p) m.but (nB d q)) e) f) o) av (AO g.new))⟩⟩
  .exact y.own.some om
  .rw [ap];exact y
 .obtain rfl:b=n:=om
  rw [List.take_of_length_le om] at g;have ac:=O3 59 ((xs.map CQ).map (·.data.toList)) (B:=42) (fun ax ar=>by
   obtain ⟨bp,au,rfl⟩:=List.mem_map.1 ar;obtain ⟨i,aq,rfl⟩:=List.mem_map.1 au;have ab:=hok i aq;have a5:=Bc ab.2.1 ab.2.2;have a6:(CQ i).size=i.name.size+1+(BP i.sum).size:=by
    unfold CQ;rw [ByteArray.size_append,ByteArray.size_append];rfl
   show (CQ i).data.toList.length<=42;simp;omega)
  have am:=Px (sep:=⟨#[59]⟩) g.own g.le.1 om (by
   simp only [List.length_map] at ac;have:(Lib.join (List.map (fun x=>x.data.toList) (List.map CQ xs)) [59]).length<=40 * 43:=by
    exact Nat.le_trans ac<|Nat.mul_le_mul_right _ om
   show (Lib.join _ [59]).length<=_;omega)
  refine iN<|am.mono ?_;rintro _ bl ⟨rfl,aj⟩;exact ⟨rfl,xt d aj⟩
end Go.Proofs.YtalgenmoljcnmaaGreatDoor
