/- Parts of the proof; no conditions of its own. -/
import Derived.Test.YtalgenmoljcnmaaGreatDoorFew
import Derived.Test.YtalgenmoljcnmaaGreatDoorKeyW
import Derived.Test.YtalgenmoljcnmaaGreatDoorDeckC
namespace Go.M
open Go Go.Vc
variable {α:Type} {t:ByteArray} {k:Nat} {l:List α} {x:α}
theorem Re {p:UInt8->Prop} (h:∀ i:Fin 256,p (UInt8.ofNat i.val)) (c:UInt8):p c:=by
 have:=h ⟨c.toNat,c.toNat_lt⟩;simpa using this
def IC (c:UInt8):Int:=if MU c=true then ED c.toNat else -1
theorem Tg (c:UInt8):IC c<0↔MU c=false:=Re (p:=fun c=>IC c<0↔MU c=false) (by decide +kernel) c
theorem YI (c:UInt8):MU c=true↔Lv c.toNat:=by
 unfold Lv;exact Re (p:=fun c=>MU c=true↔(c.toNat=32\/c.toNat=38\/c.toNat=45\/c.toNat=47\/(48<=c.toNat/\c.toNat<=57)\/(65<=c.toNat/\c.toNat<=73)\/(74<=c.toNat/\c.toNat<=82)\/(83<=c.toNat/\c.toNat<=90))) (by decide +kernel) c
theorem aC0 (h1:¬ t=DV) (h2:¬ t=DJ) (h3:¬ t=EY) (h4:¬ t=B1) (h5:¬ t=C5) (h6:¬ t=D2) (h7:¬ t=Dr) (h8:¬ t=GS) (h9:¬ t=BM) (h10:¬ t=CU) (h11:¬ t=Cp) (h12:¬ t=CL) (h13:¬ t=Cd) (h14:¬ t=Hr):¬ (deskWordsM.any fun x=>decide (x=t))=true:=by
 intro c;obtain ⟨x,b,a⟩:=List.any_eq_true.1 c;have a:=of_decide_eq_true a;subst a;simp only [deskWordsM,List.mem_cons,List.not_mem_nil,or_false] at b;rcases b with rfl | rfl | rfl | rfl | rfl | rfl | rfl | rfl | rfl | rfl | rfl | rfl | rfl | rfl
 .exact h10 rfl
 .exact h12 rfl
 .exact h5 rfl
 .exact h14 rfl
 .exact h1 rfl
 .exact h2 rfl
 .exact h6 rfl
 .exact h11 rfl
 .exact h3 rfl
 .exact h4 rfl
 .exact h13 rfl
 .exact h7 rfl
 .exact h8 rfl
 .exact h9 rfl
theorem aI0 (hw:(deskWordsM.any fun x=>decide (x=t))=true) (h1:¬ t=DV) (h2:¬ t=DJ) (h3:¬ t=EY) (h4:¬ t=B1) (h5:¬ t=C5) (h6:¬ t=Dr) (h7:¬ t=GS) (h8:¬ t=BM) (h9:¬ t=D2) (h10:¬ t=CU) (h11:¬ t=Cp) (h12:¬ t=Hr):Value.string { data := #[116] }=Value.string (bs (Bd t)):=by
 obtain ⟨x,b,a⟩:=List.any_eq_true.1 hw;have a:=of_decide_eq_true a;subst a;simp only [deskWordsM,List.mem_cons,List.not_mem_nil,or_false] at b;rcases b with rfl | rfl | rfl | rfl | rfl | rfl | rfl | rfl | rfl | rfl | rfl | rfl | rfl | rfl
 .exact absurd rfl h10
 .exact congrArg Value.string (by decide +kernel)
 .exact absurd rfl h5
 .exact absurd rfl h12
 .exact absurd rfl h1
 .exact absurd rfl h2
 .exact absurd rfl h9
 .exact absurd rfl h11
 .exact absurd rfl h3
 .exact absurd rfl h4
 .exact congrArg Value.string (by decide +kernel)
 .exact absurd rfl h6
 .exact absurd rfl h7
 .exact absurd rfl h8
def FK:List ByteArray:=[Dr,DJ,DV,EY,B1,C5,BM]
theorem aD9 (h:FK[k]? = some t):Df t=(k:Int)+1:=by
 have a:=(List.getElem?_eq_some_iff.1 h).1;have a:k<7:=a;rcases (show k=0\/k=1\/k=2\/k=3\/k=4\/k=5\/k=6 by omega) with rfl | rfl | rfl | rfl | rfl | rfl | rfl<;>(simp only [FK,List.getElem?_cons_zero,List.getElem?_cons_succ,Option.some.injEq] at h;subst h;decide +kernel)
theorem aD8 (h:∀ x∈FK,¬ x=t):Df t=0:=by
 have a:∀ x∈FK,¬ t=x:=fun x c b=>h x c b.symm;unfold Df;rw [if_neg (a Dr (by simp [FK])),if_neg (a C5 (by simp [FK])),if_neg (a DJ (by simp [FK])),if_neg (a DV (by simp [FK])),if_neg (a EY (by simp [FK])),if_neg (a B1 (by simp [FK])),if_neg (a BM (by simp [FK]))]
theorem Ou (c:UInt8) (x:ByteArray):Dp c [x]=x:=by
 unfold Dp;rw [List.map_cons,List.map_nil,Lib.join_one];exact Cs (by simp [bs])
theorem Qr (c:UInt8) {l:List ByteArray} (h:l≠[]) (x:ByteArray):Dp c (l++[x])=Dp c l++⟨#[c]⟩++x:=by
 cases l with
 | nil=>exact absurd rfl h
 | cons a l =>
  unfold Dp;rw [List.cons_append,List.map_cons,List.map_cons,Lib.join_cons,Lib.join_cons,List.map_append,J4];apply Cs;simp [Lib.joinTail,bs]
theorem MI (g:α->ByteArray) (c:UInt8) (h:l[k]? = some x) (hk:0<k):Dp c ((l.take (k+1)).map g)=Dp c ((l.take k).map g)++⟨#[c]⟩++g x:=by
 have b:=(List.getElem?_eq_some_iff.1 h).1;rw [List.take_add_one,h,List.map_append];refine Qr c (fun a=>?_) (g x);have:=congrArg List.length a;rw [List.length_map,List.length_take,List.length_nil] at this;omega
theorem Qq (g:α->ByteArray) (c:UInt8) (h:l[0]? = some x):Dp c ((l.take (0+1)).map g)=g x:=by
 rw [List.take_add_one,h];exact Ou c (g x)
theorem Oq (g:α->ByteArray) (c:UInt8) (h:l[0]? = some x):Dp c ((l.take (0+1)).map g)=Dp c ((l.take 0).map g)++g x:=by
 rw [Qq g c h];show g x=Dp c []++g x;apply Cs;simp [Dp,Lib.join_nil,bs]
theorem TQ (g:α->ByteArray) (c:UInt8) {B:Nat} (h:∀ x∈l,(g x).size<=B):∀ k,(Dp c ((l.take k).map g)).size<=k * (B+1):=by
 intro k;induction k with
 | zero=>simp [Dp,Lib.join_nil,BY]
 | succ k e =>
  cases a:l[k]? with
  | none =>
   rw [List.take_add_one,a];simp only [Option.toList_none,List.append_nil];rw [Nat.succ_mul];omega
  | some x =>
   have d:=h x (List.mem_of_getElem? a);rcases Nat.eq_zero_or_pos k with rfl | b
   .rw [Qq g c a];omega
   .rw [MI g c a b,ByteArray.size_append,ByteArray.size_append,Nat.succ_mul];show _+1+_<=_;omega
end Go.M
namespace Go.Proofs.YtalgenmoljcnmaaGreatDoor
open Go Go.RowKit Go.Vc Go.M
variable {w:World} {a:Option Addr} {n c L:Nat} {xs ks:List (List Int)}
theorem Rz (k:Int) (w:World):Dq 43 [.int .i64 k] w (fun v w'=>v = .string (E4 k)/\AD w w'):=by
 unfold E4;cases g:Ey k 0 10
 .refine oV Tryz.func43 ?_;refine bS BK (vs:=[Value.string { data := #[111,107] },Value.string { data := #[105,110,118,97,108,105,100] },Value.string { data := #[114,97,110,103,101] },Value.string { data := #[110,111,116,45,102,111,117,110,100] },Value.string { data := #[101,120,105,115,116,115] },Value.string { data := #[102,117,108,108] },Value.string { data := #[115,116,97,116,101] },Value.string { data := #[115,121,110,116,97,120] },Value.string { data := #[102,111,114,109,97,116] },Value.string { data := #[99,108,97,115,104] },Value.string { data := #[106,97,109] }]) ?_;intro e h c m b a;have d:=AH (n:=11) (enc:=eS) (xs:=[{ data := #[111,107] },{ data := #[105,110,118,97,108,105,100] },{ data := #[114,97,110,103,101] },{ data := #[110,111,116,45,102,111,117,110,100] },{ data := #[101,120,105,115,116,115] },{ data := #[102,117,108,108] },{ data := #[115,116,97,116,101] },{ data := #[115,121,110,116,97,120] },{ data := #[102,111,114,109,97,116] },{ data := #[99,108,97,115,104] },{ data := #[106,97,109] }]) AP a c rfl dE;refine AB.sub (((11 - 1:Nat):Int)) om om om<|(Ev _ _ _ _).mono ?_;rintro _ _ ⟨rfl,rfl⟩;refine iT ?_;exact ⟨rfl,b⟩
 .refine oV Tryz.func43 ?_;conv=>whnf
  refine bS BK (vs:=[Value.string { data := #[111,107] },Value.string { data := #[105,110,118,97,108,105,100] },Value.string { data := #[114,97,110,103,101] },Value.string { data := #[110,111,116,45,102,111,117,110,100] },Value.string { data := #[101,120,105,115,116,115] },Value.string { data := #[102,117,108,108] },Value.string { data := #[115,116,97,116,101] },Value.string { data := #[115,121,110,116,97,120] },Value.string { data := #[102,111,114,109,97,116] },Value.string { data := #[99,108,97,115,104] },Value.string { data := #[106,97,109] }]) ?_;intro e h c m b a;have d:=AH (n:=11) (enc:=eS) (xs:=[{ data := #[111,107] },{ data := #[105,110,118,97,108,105,100] },{ data := #[114,97,110,103,101] },{ data := #[110,111,116,45,102,111,117,110,100] },{ data := #[101,120,105,115,116,115] },{ data := #[102,117,108,108] },{ data := #[115,116,97,116,101] },{ data := #[115,121,110,116,97,120] },{ data := #[102,111,114,109,97,116] },{ data := #[99,108,97,115,104] },{ data := #[106,97,109] }]) AP a c rfl dE;refine AB.sub (((11 - 1:Nat):Int)) om om om ?_;refine (Ev _ _ _ _).mono ?_;rintro _ _ ⟨rfl,rfl⟩;refine iF ?_;obtain ⟨s,f⟩:=AA (l:=EL) (k:=k.toNat) (by show _<11;have:=Bx g;omega);have i:A4 eS 1 h (some ⟨e,0,none⟩) 11 EL:=d.own.arr AP;have q:=Bx g;refine jI i k.toNat om f ?_;intro o r p j;refine jO j rfl ?_;exact ⟨by rw [if_neg sI,Af f],b⟩
theorem Il (c:UInt8) (w:World):Dq 163 [.int .u8 c.toNat] w (fun v w'=>v = .int .i64 (IC c)/\AD w w'):=by
 by_cases a:Lv c.toNat
 .have b:MU c=true:=(YI c).2 a;unfold IC;rw [if_pos b];exact JU a w
 .have b:¬ MU c=true:=fun e=>a ((YI c).1 e);have g:c.toNat<=255:=by have:=c.toNat_lt;omega
  unfold IC;rw [if_neg b];unfold Lv at a;generalize c.toNat=c at *;refine oV Tryz.func163 ?_;refine As kR kR (Bv om om) ?_
  refine iN ?_;refine iN ?_;refine iN ?_;refine iN ?_;refine (FG _ _).mono ?_;rintro _ _ ⟨rfl,rfl⟩;refine BU (fun d=>?_) fun d=>?_
  .exfalso;unfold DR at d;simp only [Bool.and_eq_true,decide_eq_true_eq] at d;omega
  .refine AF (fun f=>?_) fun f=>?_
   .refine iN ?_;refine iY ?_;refine iN ?_;refine iY ?_;refine iN ?_;exact ⟨rfl,AD.refl _⟩
   .refine iN ?_;refine iN ?_;exact ⟨rfl,AD.refl _⟩
theorem QK {t:ByteArray} (ht:t.size<=1048576) (w:World):Dq 98 [.string t,.int .i64 t.size] w (fun v w'=>∃ a n c,v = .tuple #[.agg #[.slice a n c],.int .i64 (CK t)]/\(CK t=0->Ab w.heap.size a/\An eI 1 w.heap.size 2 w' a n c (CW t))/\AD w w'):=by
 unfold CK;have am:CR t=decide (∀ c∈t.data.toList,MU c=true):=by
  unfold CR;by_cases d:∀ c∈t.data.toList,MU c=true
  .rw [decide_eq_true d,List.all_eq_true.2 d]
  .rw [decide_eq_false d];cases a2:t.data.toList.all MU
   .rfl
   .exact absurd (List.all_eq_true.1 a2) d
 cases a':Ey t.size 1 20
 .refine oV Tryz.func98 ?_;refine jN (z := .agg #[.slice none 0 0]) fun o bd u ap g ab=>(Ev _ _ _ _).mono ?_;rintro _ _ ⟨rfl,rfl⟩;refine iT ?_;exact AB.build KS rfl<|jS (vs:=[Value.slice none 0 0]) ab rfl rfl cE fun be a0 ac=>AO (jR (n:=1) rfl ac.cells) ⟨_,_,_,rfl,by simp [*],(xb g a0.but u)⟩
 .refine oV Tryz.func98 ?_;conv=>whnf
  refine jN (z := .agg #[.slice none 0 0]) ?_;intro o bd u ap g ab;refine (Ev _ _ _ _).mono ?_;rintro _ _ ⟨rfl,rfl⟩;refine iF ?_;refine iN ?_;refine AB.make B3 (t.size) rfl om om ?_;intro m be x ba s ac;have ay:=Hh (enc:=eI) (z:=(0:Int)) AI rfl ac x om;refine AB.build KS rfl ?_;refine jN (z := .agg #[.slice none 0 0]) ?_;intro r bu a1 bq ah av;refine AX (vs:=[Value.slice (some { block:=m,off:=0 }) t.size t.size]) kR av rfl rfl cE ?_;intro bv ag aw;have a5:o≠r:=by have:=s.size;omega
  have a6:m≠r:=om
  have bn:=Bx a';refine lR [0,4,6,7] (fun (b:Nat) bb w'=>∃ q,bb=[.string t,.pointer (some ⟨o,0,none⟩),.pointer (some ⟨r,0,none⟩),.int .i64 b]/\b<=t.size/\q.take b=(CW t).take b/\(∀ c∈t.data.toList.take b,MU c=true)/\B8 w' o [.slice none 0 0] 144/\B8 w' r [.slice (some ⟨m,0,none⟩) t.size t.size] 144/\An eI 1 w.heap.size 2 w' (some ⟨m,0,none⟩) t.size t.size q/\AD w w') (fun b=>t.size - b) 0
   ⟨_,rfl,om,sI,sI,(ab.ext (xt s ah)).mod ag.but (fun d=>a5 d),aw,((ay.ext ah).mod ag.but (fun aq i d=>by cases i;exact a6 d)).base (Below.size g),xb (xt (xt g s) ah) ag.but (by have:=g.size;have:=s.size;omega)⟩ ?_
  rintro b bf _ bw ⟨q,rfl,bi,aj,an,ad,ae,y,ai⟩;have bp:=y.len;have bl:=R5 t;rcases Nat.lt_or_ge b t.size with a4 | a4
  .obtain ⟨e,p⟩:=AA (l:=t.data.toList) (k:=b) sW;obtain ⟨aq,i⟩:=AA (l:=q) (k:=b) om;have ao:=Tg e;have al:∀ aa,Dq 163 [.int .u8 e.toNat] aa (fun v w'=>v = .int .i64 (IC e)/\AD aa w'):=fun aa=>Il e aa;cases h:MU e
   .have a7:CR t=false:=by
     rw [am];exact decide_eq_false fun d=>by rw [d e (List.mem_of_getElem? p)] at h;cases h
    have bj:IC e<0:=ao.2 h;rw [if_neg sI,if_pos a7];exact iY<|jC b rfl p<|dM (al _) fun bc f=>iY<|AB.build KS rfl<|jS (vs:=[Value.slice none 0 0]) (ad.ext f) rfl rfl cE fun br az ar=>AO (jR (n:=1) rfl ar.cells) ⟨_,_,_,rfl,om,(xb (xt ai f) az.but u)⟩
   .have bh:¬ IC e<0:=fun d=>by rw [ao.1 d] at h;cases h
    have bk:=Ge p an h;have a3:IC e=ED e.toNat:=by unfold IC;rw [if_pos h]
    have a8:(CW t)[b]? = some (ED e.toNat):=by unfold CW;rw [List.getElem?_map,p];rfl
    have bm:(q.set b (IC e)).take (b+1)=(CW t).take (b+1):=by
     rw [List.take_add_one,List.take_add_one,List.take_set_of_le om,aj,a8,List.getElem?_set_self om,a3]
    refine iY<|jC b rfl p<|dM (al _) fun bc f=>iN<|jL (ae.ext f).cells (k:=0) rfl<|jW (sz:=1) b rfl om ?_;have bg:=AU AI (y.ext f).own i;refine Fx (k:=b) (j:=0) kR AI (y.ext f) i dE rfl (IC e) rfl ?_;intro bt af au;have bo:=D6 i ((IC e));exact jP (((b+1:Nat):Int)) ⟨b+1,om,_,rfl,om,om,om,((ad.ext f).mod af.but (aH2 ap x (Nat.le_refl _))),((ae.ext f).mod af.but (Nv a1 ba (Nat.le_refl _))),au,(xb (xt ai f) af.but (nB g x))⟩
  .obtain rfl:b=t.size:=om
   have a9:CR t=true:=by
    rw [am];exact decide_eq_true (HH sI an)
   rw [List.take_of_length_le om,List.take_of_length_le om] at aj;subst aj;rw [if_neg sI,if_neg (by simp [a9])];refine iN<|jA (n:=1) ae.cells rfl<|AX (vs:=[Value.slice (some { block:=m,off:=0 }) t.size t.size]) kR ad rfl rfl cE fun bx ak ax=>AO (jR (n:=1) rfl ax.cells) ⟨_,_,_,rfl,?_,(xb ai ak.but u)⟩
   .exact fun _=>⟨Ab.some (nB g x),y.mod ak.but (fun aq i d=>by cases i;have d:m=o:=d;omega)⟩
theorem Ry {d:Hd} {xs:List Int} (R:AZ w d xs) (hl:xs.length<=1000):Dq 100 [.agg ⟨eH d⟩] w (fun v w'=>∃ s,v = .tuple #[.string s,.int .i64 (BG xs)]/\(BG xs=0->s=Cf (CO xs))/\AD w w'):=by
 obtain ⟨c,t⟩:=R;have r:=c.len;unfold BG;cases u:FA xs
 .refine oV Tryz.func100 ?_;conv=>whnf
  exact AB.box fun p z q y g h=>dM (Gr (c.ext g) h.cells) fun aa a=>iT ⟨_,rfl,by simp [*],(xt g a)⟩
 .cases x:Di xs
  .refine oV Tryz.func100 ?_;refine AB.box fun i m j l a e=>(Gr (c.ext a) e.cells).mono ?_;rintro _ n ⟨rfl,b⟩;refine iF ?_;refine jL (e.ext b).cells (k:=0) rfl<|dM (Ik (c.ext (xt a b)) om) fun o f=>iT ?_;exact ⟨_,rfl,by simp [*],(xt (xt a b) f)⟩
  .refine oV Tryz.func100 ?_;conv=>whnf
   refine AB.box ?_;intro i m j l a e;exact dM (Gr (c.ext a) e.cells) fun n b=>iF<|jL (e.ext b).cells (k:=0) rfl<|dM (Ik (c.ext (xt a b)) om) fun o f=>iF ⟨_,rfl,by simp [*],(xt (xt a b) f)⟩
theorem PE {xs:List AT} (h:A4 AT.enc 2 w a n xs) (hok:∀ x∈xs,x.name.size<=20/\BH x.sum) (hn2:n<=40) :
  Dq 109 [.slice a n c] w (fun v w'=>v = .string (GV xs)/\AD w w'):=by
 have am:=h.len;have z:=TQ CV 59 (l:=xs) (B:=42) (fun x f=>by
  have q:=hok x f;have ai:=Bh q.2.1 q.2.2;unfold CV;rw [ByteArray.size_append,ByteArray.size_append,BY];simp only [List.length_cons,List.length_nil];omega)
 refine oV Tryz.func109 ?_;refine lR [0,3,4] (fun (b:Nat) ae w'=>ae=[.slice a n c,.string (Dp 59 ((xs.take b).map CV)),.int .i64 b]/\b<=n/\AD w w') (fun b=>n - b) 0 ⟨rfl,om,AD.refl _⟩ ?_;rintro b ah _ w' ⟨rfl,al,g⟩;have ak:=z b;rcases Nat.lt_or_ge b n with ab | ab
 .obtain ⟨x,f⟩:=AA (l:=xs) (k:=b) om;obtain ⟨an,p⟩:=hok x (List.mem_of_getElem? f);have aj:=Bh p.1 p.2;have r:∀ i,Dq 99 [.int .i64 x.sum] i (fun v w'=>v = .string (BV x.sum)/\AD i w'):=fun i=>CC p i;rcases Nat.eq_zero_or_pos b with rfl | aa
  .have o:Dp 59 ((xs.take (0+1)).map CV)=Dp 59 ((xs.take 0).map CV)++(x.name++{ data := #[61] }++BV x.sum):=Oq CV 59 f;exact iY<|dH (pB [0,2,4,6,8,10,12,14,17,19,21,23,25,27,29,31]) fun af d=>dI (h.ext g) 0 rfl f fun s ac u j=>dL j (k:=0) rfl<|Hp sO<|jI (h.ext (xt g d)) 0 rfl f fun t ad y m=>⟨d,jL m (k:=1) rfl ⟨d,dM (r _) fun ag e=>⟨(xt d e),Ax sO ⟨(xt d e),Ax sO ⟨(xt d e),jP (((0+1:Nat):Int)) ⟨0+1,om,by rw [o];rfl,om,xt g (xt d e)⟩⟩⟩⟩⟩⟩
  .have o:Dp 59 ((xs.take (b+1)).map CV)=Dp 59 ((xs.take b).map CV)++{ data := #[59] }++(x.name++{ data := #[61] }++BV x.sum):=MI CV 59 f aa;exact iY<|iY<|Ax sO<|dH (pB [0,2,4,6,8,10,12,14,17,19,21,23,25,27,29,31]) fun af d=>dI (h.ext g) b rfl f fun s ac u j=>dL j (k:=0) rfl<|Hp sO<|jI (h.ext (xt g d)) b rfl f fun t ad y m=>⟨d,jL m (k:=1) rfl ⟨d,dM (r _) fun ag e=>⟨(xt d e),Ax sO ⟨(xt d e),Ax sO ⟨(xt d e),jP (((b+1:Nat):Int)) ⟨b+1,om,by rw [o];rfl,om,xt g (xt d e)⟩⟩⟩⟩⟩⟩
 .obtain rfl:b=n:=om
  rw [List.take_of_length_le om];exact iN ⟨rfl,g⟩
theorem UI {xs:List Ak} (h:A4 Ak.enc 2 w a n xs) (hok:∀ x∈xs,BH x.col) (hn2:n<=1000) :
  Dq 103 [.slice a n c] w (fun v w'=>v = .string (Dp 32 (xs.map Bg))/\AD w w'):=by
 have am:=h.len;have ad:=TQ Bg 32 (l:=xs) (B:=22) (fun x e=>by
  have ac:=hok x e;have ai:=Bh ac.1 ac.2;unfold Bg;rw [ByteArray.size_append];split<;>rw [BY]<;>simp only [List.length_cons,List.length_nil]<;>omega)
 refine oV Tryz.func103 ?_;refine lR [0,3,4] (fun (b:Nat) ag w'=>ag=[.slice a n c,.string (Dp 32 ((xs.take b).map Bg)),.int .i64 b]/\b<=n/\AD w w') (fun b=>n - b) 0 ⟨rfl,om,AD.refl _⟩ ?_;rintro b ah _ w' ⟨rfl,al,d⟩;have ak:=ad b;rcases Nat.lt_or_ge b n with af | af
 .obtain ⟨x,e⟩:=AA (l:=xs) (k:=b) om;have y:=hok x (List.mem_of_getElem? e);have aj:=Bh y.1 y.2;have o:∀ q,Dq 99 [.int .i64 x.col] q (fun v w'=>v = .string (BV x.col)/\AD q w'):=fun q=>CC y q;have p:Bg x=BV x.col++(if x.mode=1 then ⟨#[100]⟩ else ⟨#[122]⟩):=rfl;rcases Nat.eq_zero_or_pos b with rfl | ae
  .have g:=Oq Bg 32 e;by_cases m:x.mode=1
   .rw [p,if_pos m,<- ByteArray.append_assoc] at g;exact iY<|jI (h.ext d) 0 rfl e fun r z t i=>jL i (k:=0) rfl<|dM (o _) fun ab f=>Ax om<|jI (h.ext (xt d f)) 0 rfl e fun s aa u j=>jL j (k:=1) rfl<|iY<|Ax sO<|jP (((0+1:Nat):Int)) ⟨0+1,om,by rw [g];rfl,om,xt d f⟩
   .rw [p,if_neg m,<- ByteArray.append_assoc] at g;exact iY<|jI (h.ext d) 0 rfl e fun r z t i=>jL i (k:=0) rfl<|dM (o _) fun ab f=>Ax om<|jI (h.ext (xt d f)) 0 rfl e fun s aa u j=>jL j (k:=1) rfl<|iN<|Ax sO<|jP (((0+1:Nat):Int)) ⟨0+1,om,by rw [g];rfl,om,xt d f⟩
  .have g:=MI Bg 32 e ae;by_cases m:x.mode=1
   .rw [p,if_pos m,<- ByteArray.append_assoc] at g;exact iY<|iY<|Ax sO<|jI (h.ext d) b rfl e fun r z t i=>jL i (k:=0) rfl<|dM (o _) fun ab f=>Ax sO<|jI (h.ext (xt d f)) b rfl e fun s aa u j=>jL j (k:=1) rfl<|iY<|Ax sO<|jP (((b+1:Nat):Int)) ⟨b+1,om,by rw [g];rfl,om,xt d f⟩
   .rw [p,if_neg m,<- ByteArray.append_assoc] at g;exact iY<|iY<|Ax sO<|jI (h.ext d) b rfl e fun r z t i=>jL i (k:=0) rfl<|dM (o _) fun ab f=>Ax sO<|jI (h.ext (xt d f)) b rfl e fun s aa u j=>jL j (k:=1) rfl<|iN<|Ax sO<|jP (((b+1:Nat):Int)) ⟨b+1,om,by rw [g];rfl,om,xt d f⟩
 .obtain rfl:b=n:=om
  rw [List.take_of_length_le om];exact iN ⟨rfl,d⟩
theorem T9 (t:ByteArray) (w:World):Dq 44 [.string t] w (fun v w'=>v = .int .i64 (if (Go.M.deskWordsM.any fun x=>decide (x=t))=true then (Bd t).length+1 else 0:Nat)/\AD w w'):=by
 refine oV Tryz.func44 ?_;conv=>whnf
 refine AF (fun a=>?_) fun a=>?_
 .refine iY ⟨?_,AD.refl _⟩
  .subst a;exact congrArg (Value.int IntKind.i64) (by decide +kernel)
 .refine AF (fun g=>?_) fun g=>?_
  .refine iY ⟨?_,AD.refl _⟩
   .subst g;exact congrArg (Value.int IntKind.i64) (by decide +kernel)
  .refine AF (fun h=>?_) fun h=>?_
   .refine iY ⟨?_,AD.refl _⟩
    .subst h;exact congrArg (Value.int IntKind.i64) (by decide +kernel)
   .refine AF (fun i=>?_) fun i=>?_
    .refine ⟨?_,AD.refl _⟩
     .subst i;exact congrArg (Value.int IntKind.i64) (by decide +kernel)
    .refine AF (fun j=>?_) fun j=>?_
     .refine iY ⟨?_,AD.refl _⟩
      .subst j;exact congrArg (Value.int IntKind.i64) (by decide +kernel)
     .refine AF (fun k=>?_) fun k=>?_
      .refine iY ⟨?_,AD.refl _⟩
       .subst k;exact congrArg (Value.int IntKind.i64) (by decide +kernel)
      .refine AF (fun l=>?_) fun l=>?_
       .refine iY ⟨?_,AD.refl _⟩
        .subst l;exact congrArg (Value.int IntKind.i64) (by decide +kernel)
       .refine AF (fun m=>?_) fun m=>?_
        .refine iY ⟨?_,AD.refl _⟩
         .subst m;exact congrArg (Value.int IntKind.i64) (by decide +kernel)
        .refine AF (fun n=>?_) fun n=>?_
         .refine ⟨?_,AD.refl _⟩
          .subst n;exact congrArg (Value.int IntKind.i64) (by decide +kernel)
         .refine AF (fun b=>?_) fun b=>?_
          .refine iY ⟨?_,AD.refl _⟩
           .subst b;exact congrArg (Value.int IntKind.i64) (by decide +kernel)
          .refine AF (fun c=>?_) fun c=>?_
           .refine ⟨?_,AD.refl _⟩
            .subst c;exact congrArg (Value.int IntKind.i64) (by decide +kernel)
           .refine AF (fun d=>?_) fun d=>?_
            .refine iY ⟨?_,AD.refl _⟩
             .subst d;exact congrArg (Value.int IntKind.i64) (by decide +kernel)
            .refine AF (fun e=>?_) fun e=>?_
             .refine ⟨?_,AD.refl _⟩
              .subst e;exact congrArg (Value.int IntKind.i64) (by decide +kernel)
             .refine AF (fun f=>?_) fun f=>?_
              .refine ⟨?_,AD.refl _⟩
               .subst f;exact congrArg (Value.int IntKind.i64) (by decide +kernel)
              .refine ⟨?_,AD.refl _⟩
               .rw [if_neg (aC0 a g h i j k l m n b c d e f)];rfl
theorem UC (t:ByteArray) (w:World):Dq 94 [.string t] w (fun v w'=>((Go.M.deskWordsM.any fun x=>decide (x=t))=true->v = .string (bs (Bd t)))/\AD w w'):=by
 refine oV Tryz.func94 ?_;conv=>whnf
 refine AF (fun a=>?_) fun a=>?_
 .refine iY ⟨?_,AD.refl _⟩
  .subst a;exact fun _=>congrArg Value.string (by decide +kernel)
 .refine AF (fun e=>?_) fun e=>?_
  .refine iY ⟨?_,AD.refl _⟩
   .subst e;exact fun _=>congrArg Value.string (by decide +kernel)
  .refine AF (fun f=>?_) fun f=>?_
   .refine ⟨?_,AD.refl _⟩
    .subst f;exact fun _=>congrArg Value.string (by decide +kernel)
   .refine AF (fun g=>?_) fun g=>?_
    .refine ⟨?_,AD.refl _⟩
     .subst g;exact fun _=>congrArg Value.string (by decide +kernel)
    .refine AF (fun h=>?_) fun h=>?_
     .refine iY ⟨?_,AD.refl _⟩
      .subst h;exact fun _=>congrArg Value.string (by decide +kernel)
     .refine AF (fun i=>?_) fun i=>?_
      .refine ⟨?_,AD.refl _⟩
       .subst i;exact fun _=>congrArg Value.string (by decide +kernel)
      .refine AF (fun j=>?_) fun j=>?_
       .refine iY ⟨?_,AD.refl _⟩
        .subst j;exact fun _=>congrArg Value.string (by decide +kernel)
       .refine AF (fun k=>?_) fun k=>?_
        .refine ⟨?_,AD.refl _⟩
         .subst k;exact fun _=>congrArg Value.string (by decide +kernel)
        .refine AF (fun l=>?_) fun l=>?_
         .refine ⟨?_,AD.refl _⟩
          .subst l;exact fun _=>congrArg Value.string (by decide +kernel)
         .refine AF (fun b=>?_) fun b=>?_
          .refine ⟨?_,AD.refl _⟩
           .subst b;exact fun _=>congrArg Value.string (by decide +kernel)
          .refine AF (fun c=>?_) fun c=>?_
           .refine ⟨?_,AD.refl _⟩
            .subst c;exact fun _=>congrArg Value.string (by decide +kernel)
           .refine AF (fun d=>?_) fun d=>?_
            .refine ⟨?_,AD.refl _⟩
             .subst d;exact fun _=>congrArg Value.string (by decide +kernel)
            .refine ⟨?_,AD.refl _⟩
             .exact fun m=>aI0 m a e f g h i j k l b c d
theorem UB (t:ByteArray) (w:World):Dq 55 [.string t] w (fun v w'=>v = .int .i64 (Df t)/\AD w w'):=by
 refine oV Tryz.func55 ?_;refine bS BK (vs:=[Value.string { data := #[115,111,114,116] },Value.string { data := #[109,101,114,103,101] },Value.string { data := #[109,97,116,99,104] },Value.string { data := #[114,101,115,116] },Value.string { data := #[115,101,108,101,99,116] },Value.string { data := #[102,105,114,115,116] },Value.string { data := #[116,111,116,97,108] }]) ?_;intro h m q af i f;have g:=AH (n:=7) (enc:=eS) (xs:=[{ data := #[115,111,114,116] },{ data := #[109,101,114,103,101] },{ data := #[109,97,116,99,104] },{ data := #[114,101,115,116] },{ data := #[115,101,108,101,99,116] },{ data := #[102,105,114,115,116] },{ data := #[116,111,116,97,108] }]) AP f q rfl dE;have o:A4 eS 1 m (some ⟨h,0,none⟩) 7 FK:=g.own.arr AP;refine lR [0,3,4] (fun (a:Nat) y w'=>y=[.string t,.slice (some ⟨h,0,none⟩) 7 7,.int .i64 a]/\a<=7/\(∀ b∈FK.take a,¬ b=t)/\AD m w') (fun a=>7 - a) 0 ⟨rfl,om,sI,AD.refl _⟩ ?_;rintro a aa _ ah ⟨rfl,ab,j,d⟩;have ac:FK.length=7:=rfl;rcases Nat.lt_or_ge a 7 with u | u
 .obtain ⟨b,c⟩:=AA (l:=FK) (k:=a) om;have ad:=fun e:b=t=>aD9 (e▸c);have ae:=fun e:¬ b=t=>Ge c j e;generalize FK=p at *;clear g f;refine iY<|jI (o.ext d) a rfl c ?_;rintro z ag ⟨⟩ s;refine jO s rfl<|AF (fun r=>?_) fun r=>?_
  .exact jP (((a+1:Nat):Int)) ⟨by simp [*],(xt i d)⟩
  .exact jP (((a+1:Nat):Int)) ⟨a+1,om,rfl,om,by simp_all,d⟩
 .obtain rfl:a=7:=om
  have x:=aD8 (t:=t) (fun b c=>j b (by rw [List.take_of_length_le om];exact c));rw [x];generalize FK=p at *;exact ⟨rfl,(xt i d)⟩
theorem Eu (h:Ac AZ w a n xs) (f:AE):Dq 166 [.slice a n c,.agg ⟨f.enc⟩] w (fun v w'=>∃ a' n' c',v = .tuple #[.slice a' n' c',.int .i64 (Bu xs f).2]/\Ab w.heap.size a'/\Bs eS w' a' n' 9 ((Bu xs f).1.map Cf)/\AD w w'):=by
 have b':=h.len;have b9:=h.le;have be:=h;obtain ⟨au,ao,bf⟩:=be;have b8:=ao.len;cases ae:A2 xs
 .rw [I8 ae];refine oV Tryz.func166 ?_;refine AB.box fun b2 a2 b5 cf u bx=>(DW (h.ext u)).mono ?_;rintro _ cm ⟨rfl,j⟩;refine iT ?_;exact ⟨_,_,_,rfl,Ab.nil,Bs.nil,(xt u j)⟩
 .cases ah:AR f (AJ xs)
  .rw [H2 ae ah];refine oV Tryz.func166 ?_;refine AB.box ?_;intro aw bt bd bm j z;refine dM (DW (h.ext j)) fun bu m=>?_;refine iF ?_;refine dH (pB [0,3,5,7,9]) fun bv e=>dA (n:=2) (z.ext m).cells rfl ?_;refine dM (EH (h.ext (xt (xt j m) e))) fun bw o=>⟨(xt e o),?_⟩;exact dM (Ch _ _ _) fun aj s=>⟨(xt (xt e o) s),iT ⟨_,_,_,rfl,Ab.nil,Bs.nil,(xt (xt (xt (xt j m) e) o) s)⟩⟩
  .have bh:=Am ae;refine oV Tryz.func166 ?_;refine AB.box ?_;intro aw bt bd bm j z;refine dM (DW (h.ext j)) fun bu m=>?_;refine iF ?_;refine dH (pB [0,3,5,7,9]) fun bv e=>dA (n:=2) (z.ext m).cells rfl ?_;refine dM (EH (h.ext (xt (xt j m) e))) fun bw o=>⟨(xt e o),?_⟩;refine dM (Ch _ _ _) fun aj s=>⟨(xt (xt e o) s),iF<|bS BK (vs:=[]) ?_⟩;intro b0 ci bb cd ba a4;have a6:=Ag (enc:=eS) AP a4 bb;have av:AD w aj:=xt (xt (xt (xt j m) e) o) s;refine lR [0,3,6,7] (fun (b:Nat) bp w'=>∃ ak al,bp=[.slice a n c,.pointer (some ⟨aw,0,none⟩),.slice ak b al,.int .i64 b]/\b<=n/\(∀ g c,g<b->xs[g]? = some c->Di (Ad c f)=true)/\An eS 1 aj.heap.size 9 w' ak b al (((xs.take b).map (AS f)).map Cf)/\AD aj w') (fun b=>n - b) 0 ⟨_,_,rfl,om,fun g c a0=>by omega,a6,ba⟩ ?_;rintro b b4 _ cj ⟨ak,al,rfl,b7,az,x,ac⟩;have y:=xt av ac;have cg:=x.len;rcases Nat.lt_or_ge b n with bj | bj
   .obtain ⟨ax,aq⟩:=AA (l:=au) (k:=b) om;obtain ⟨q,ag,aa⟩:=bf.get aq;have a1:=bh.2 q (List.mem_of_getElem? ag);have ca:=Bp a1.1;have ar:AR f q.length=true:=by rw [a1.2];exact ah
    have b6:=Bc ar;have a3:=aa.1;have cb:=a3.len;cases ad:Di (Ad q f)
    .rw [Zw ae ah ag ad];have an:∀ i r t,AD w i->AK i r t (eH ax)->Dq 236 [.pointer (some ⟨r,t,none⟩),.agg ⟨f.enc⟩] i (fun v w'=>∃ ai,v = .tuple #[.string ai,.bool false]/\AD i w'):=fun i r t ab p=>(Og ⟨aa.1.ext ab,aa.2⟩ p ar om).mono (by
      rintro _ a2 ⟨ai,rfl,_,u⟩;rw [ad];exact ⟨ai,rfl,u⟩)
     refine iY<|dH (pB [0,2,4,7,9,11,12,14,17,19]) fun bq d=>dI (ao.ext y) b rfl aq fun a9 bo bg ap=>jA (n:=2) (z.ext (xt (xt (xt (xt (xt m e) o) s) ac) d)).cells rfl ⟨d,(an _ _ _ (xt y d) (ap.ext d)).mono ?_⟩;rintro _ br ⟨ch,rfl,ay⟩;exact ⟨(xt d ay),⟨_,_,_,rfl,Ab.nil,Bs.nil,(xt (xt y d) ay)⟩⟩
    .have bl:((xs.take (b+1)).map (AS f)).map Cf=((xs.take b).map (AS f)).map Cf++[Cf (AS f q)]:=by rw [List.take_add_one,ag];simp
     have an:∀ i r t,AD w i->AK i r t (eH ax)->Dq 236 [.pointer (some ⟨r,t,none⟩),.agg ⟨f.enc⟩] i (fun v w'=>v = .tuple #[.string (Cf (AS f q)),.bool true]/\AD i w'):=fun i r t ab p=>(Og ⟨aa.1.ext ab,aa.2⟩ p ar om).mono (by
      rintro _ a2 ⟨ai,rfl,au,u⟩;rw [ad,au ad];exact ⟨rfl,u⟩)
     have bk:∀ g c,g<b+1->xs[g]? = some c->Di (Ad c f)=true:=fun g c a0 p=>by
      by_cases ab:g=b
      .subst ab;rw [ag] at p;cases p;exact ad
      .exact az g c om p
     refine iY<|dH (pB [0,2,4,7,9,11,12,14,17,19]) fun bq d=>dI (ao.ext y) b rfl aq fun a9 bo bg ap=>jA (n:=2) (z.ext (xt (xt (xt (xt (xt m e) o) s) ac) d)).cells rfl ⟨d,dM (an _ _ _ (xt y d) (ap.ext d)) fun ck af=>⟨(xt d af),bS BK (vs:=[Value.string (Cf (AS f q))]) ?_⟩⟩;intro b1 br bc ce am a5;have a7:=AH (n:=1) (enc:=eS) (xs:=[Cf (AS f q)]) AP a5 bc rfl dE;refine AN (enc:=eS) BK AP (x.ext (xt (xt d af) am)) (a7.own.arr AP) (by intro q _;simp [eS,AM]) om om (Below.size (xt (xt (xt ac d) af) am)) fun bz b3 cl a8 bn cc=>jP (((b+1:Nat):Int)) ⟨b+1,om,_,_,rfl,om,bk,?_,(xm (xt (xt (xt ac d) af) am) bn (AQ x.new))⟩
     .rw [bl];exact a8
   .obtain rfl:b=n:=om
    have bi:=N6 ae ah (aF6 (fun g c a0 p=>az g c om p));rw [bi];rw [List.take_of_length_le om] at x;exact iN ⟨_,_,_,rfl,(x.new.mono (Below.size av)),x.own,y⟩
theorem yI {p:Prop} (h:p:=by (intro y _;simp [eI,AM])):p:=h
theorem KW (h:A4 eS 1 w a n (ks.map Cf)) (hK:∀ k∈ks,Gf L k) (hL:L<=1000) (hn40:n<=40) :
  Dq 167 [.slice a n c] w (fun v w'=>∃ a' c',v = .slice a' n c'/\Ab w.heap.size a'/\Bs eI w' a' n 2 (Ds ks L)/\AD w w'):=by
 have a5:=h.len;rw [List.length_map] at a5;have ap:∀ k∈ks,k.length=L:=fun k u=>(hK k u).1;refine oV Tryz.func167 ?_;refine bS B3 (vs:=[]) ?_;intro cf c2 bm cy bl bc;have bf:=Ag (enc:=eI) AI bc bm;refine lR [0,3,4] (fun (k:Nat) aw w'=>∃ (ac:Option Addr) (ad:Nat) (g:List Int),aw=[.slice a n c,.slice ac k ad,.int .i64 k]/\k<=n/\ZL ks L k g/\An eI 1 w.heap.size 2 w' ac k ad g/\AD w w') (fun k=>n - k) 0 ⟨_,_,[],rfl,om,ZL.nil _ _,bf,bl⟩ ?_;rintro k co _ ax ⟨ac,ad,g,rfl,u,ag,f,a3⟩;have c1:=f.len;have cr:=f.le.1;rcases Nat.lt_or_ge k n with bt | bt
 .obtain ⟨ai,ah⟩:=AA (l:=ks) (k:=k) om;have a6:=Ex ah;have b3:=hK ai (List.mem_of_getElem? ah);refine iY<|lR [0,3,4,5] (fun (d:Nat) aw w'=>aw=[.slice a n c,.slice ac k ad,.int .i64 k,.int .i64 d]/\d<=k/\(∀ q t p,d<=q->g[q]? = some t->ks[t.toNat]? = some p->CY ai p<0)/\AD ax w') (fun d=>d) k ⟨rfl,om,fun q t p bv s z=>by have:=(List.getElem?_eq_some_iff.1 s).1;omega,AD.refl _⟩ ?_;rintro d cp _ c3 ⟨rfl,cs,ak,i⟩;have m:=xt a3 i;rcases Nat.eq_zero_or_pos d with rfl | ct
  .have ao:=ag.ins ap (Nat.zero_le _) ah ak (.inl rfl);refine dH (pB [1,3,5,6,8,10,12,14,16,19,21,23,25,27,29,31,33,35]) fun a8 b=>Jr (k' := .i64) kR ((f.ext (xt i b)).own.arr AI) (0) om om (.inr rF) fun ba=>(KY ba om).mono ?_;rintro _ c4 ⟨b8,ci,rfl,aa,ae⟩;refine bS B3 (vs:=[Value.int IntKind.i64 ↑k]) ?_;intro cg c5 bn cz e bd;have bg:=AH (n:=1) (enc:=eI) (xs:=[↑k]) AI bd bn rfl dE;refine D0 (enc:=eI) B3 AI (aa.ext e) (bg.own.arr AI) yI om om (Below.size (xt ae e)) fun b' ck a9 ay au cu=>AB.slice (k := .i64) (k' := .i64) kR ((f.ext (xm (xt (xt (xt i b) ae) e) au (fun k u=>Nat.le_trans (Below.size (xt i b)) (AQ aa.new k u)))).own.arr AI) (0) (k) om om om (.inr rF) (.inl ⟨rfl,rfl⟩) fun ca aj=>AN (enc:=eI) B3 AI ay aj yI om om (Below.size (xm (xt ae e) au (AQ aa.new))) ?_;intro cb cl c6 az bz cv;rw [show 1+(k - 0)=k+1 by omega] at az ⊢;refine jP (((k+1:Nat):Int)) ⟨k+1,om,_,_,g.take 0++[(k:Int)]++g.drop 0,rfl,om,ao,(az.base (Below.size (xt m b))).eq_ ?_,xm (xm (xt (xt (xt m b) ae) e) au (fun o r=>Nat.le_trans (Below.size (xt m b)) (AQ aa.new o r))) bz (fun o r=>Nat.le_trans (Below.size (xt m b)) (AQ ay.new o r))⟩;rw [List.take_of_length_le (l:=g.drop 0) (by rw [List.length_drop];omega)];try rfl
  .obtain ⟨d,rfl⟩:∃ bw,d=bw+1:=⟨d - 1,om⟩;obtain ⟨t,s⟩:=AA (l:=g) (k:=d) om;obtain ⟨o,rfl,r⟩:=ag.at s;obtain ⟨p,z⟩:=AA (l:=ks) (k:=o) om;have a7:=Ex z;have b4:=hK p (List.mem_of_getElem? z);have a2:=fun b5=>HL b3 b4 b5 hL;by_cases a4:CY ai p<0
   .have bu:∀ q t p,d<=q->g[q]? = some t->ks[t.toNat]? = some p->CY ai p<0:=fun q b7 b6 bv ar aq=>by
     by_cases bk:q=d
     .subst bk;rw [s] at ar;cases ar
      rw [Int.toNat_natCast,z] at aq;cases aq
      exact a4
     .exact ak q b7 b6 om ar aq
    refine dH (pB [1,3,5,6,8,10,12,14,16,19,21,23,25,27,29,31,33,35]) fun a8 b=>iY<|dI (h.ext m) k rfl a6 fun bi b1 bq al=>dO al rfl<|AB.sub (((d:Nat):Int)) om om om ⟨b,?_⟩;obtain ⟨x,rfl⟩:=((f.ext (xt i b)).own).some om;have bp:w.heap.size<=x:=f.new _ rfl;have bx:x<ax.heap.size:=f.lt _ rfl;refine jW (sz:=1) d rfl om ?_;have am:=AU AI (f.ext (xt i b)).own s;exact ⟨b,jO am rfl ⟨b,jI (h.ext (xt m b)) o rfl a7 fun bj b2 br an=>⟨b,jO an rfl ⟨b,dM (a2 _) fun a9 e=>⟨(xt b e),iY<|AB.sub (((d:Nat):Int)) om om om ⟨d,om,rfl,om,bu,xt i (xt b e)⟩⟩⟩⟩⟩⟩
   .have ao:=ag.ins ap (j:=d+1) om ah ak (.inr ⟨_,p,s,by rw [Int.toNat_natCast];exact z,a4⟩);refine dH (pB [1,3,5,6,8,10,12,14,16,19,21,23,25,27,29,31,33,35]) fun a8 b=>iY<|dI (h.ext m) k rfl a6 fun bi b1 bq al=>dO al rfl<|AB.sub (((d:Nat):Int)) om om om ⟨b,?_⟩;obtain ⟨x,rfl⟩:=((f.ext (xt i b)).own).some om;have bp:w.heap.size<=x:=f.new _ rfl;have bx:x<ax.heap.size:=f.lt _ rfl;refine jW (sz:=1) d rfl om ?_;have am:=AU AI (f.ext (xt i b)).own s;refine ⟨b,jO am rfl ⟨b,jI (h.ext (xt m b)) o rfl a7 fun bj b2 br an=>⟨b,jO an rfl ⟨b,dM (a2 _) fun a9 e=>⟨(xt b e),iN<|Jr (k' := .i64) kR ((f.ext (xt (xt i b) e)).own.arr AI) (d+1) om om (.inr rF) fun aj=>(KY aj om).mono ?_⟩⟩⟩⟩⟩;rintro _ c7 ⟨b9,cj,rfl,ab,af⟩;refine bS B3 (vs:=[Value.int IntKind.i64 ↑k]) ?_;intro ch c8 bo c0 y be;have bh:=AH (n:=1) (enc:=eI) (xs:=[↑k]) AI be bo rfl dE;refine AN (enc:=eI) B3 AI (ab.ext y) (bh.own.arr AI) yI om om (Below.size (xt af y)) fun cc cm c9 a0 av cw=>AB.slice (k := .i64) (k' := .i64) kR ((f.ext (xm (xt (xt (xt (xt i b) e) af) y) av (fun k u=>Nat.le_trans (Below.size (xt (xt i b) e)) (AQ ab.new k u)))).own.arr AI) (d+1) (k) om om om (.inr rF) (.inl ⟨rfl,rfl⟩) fun cd bb=>AN (enc:=eI) B3 AI a0 bb yI om om (Below.size (xm (xt af y) av (AQ ab.new))) ?_;intro ce cn da a1 b0 cx;rw [show d+1+1+(k - (d+1))=k+1 by omega] at a1 ⊢;refine jP (((k+1:Nat):Int)) ⟨k+1,om,_,_,g.take (d+1)++[(k:Int)]++g.drop (d+1),rfl,om,ao,(a1.base (Below.size (xt (xt m b) e))).eq_ ?_,xm (xm (xt (xt (xt (xt m b) e) af) y) av (fun o r=>Nat.le_trans (Below.size (xt (xt m b) e)) (AQ ab.new o r))) b0 (fun o r=>Nat.le_trans (Below.size (xt (xt m b) e)) (AQ a0.new o r))⟩;rw [List.take_of_length_le (l:=g.drop (d+1)) (by rw [List.length_drop];omega)];try rfl
 .obtain rfl:k=n:=om
  have cq:=ZL.done ap (P:=g) (by rw [a5];exact ag);exact iN ⟨_,_,rfl,f.new,by simpa [List.take_add_one,-List.take_append_getElem, *] using f.own,a3⟩
theorem C7 (h:A4 eS 1 w a n (ks.map Cf)) (hK:∀ k∈ks,Gf L k) (hL:L<=1000) (hn40:n<=40) :
  Dq 329 [.slice a n c] w (fun v w'=>∃ k:Int,v = .int .i64 k/\(k<0↔K5 ks)/\AD w w'):=by
 have ag:=h.len;rw [List.length_map] at ag;refine oV Tryz.func329 ?_;refine lR [0,3] (fun (k:Nat) ao w'=>ao=[.slice a n c,.int .i64 k]/\1<=k/\(k<=n\/k=1)/\(∀ (b:Nat) (e f:List Int),b+1<k->ks[b]? = some e->ks[b+1]? = some f->¬ CY f e<0)/\AD w w') (fun k=>n - k) 1 ⟨rfl,om,.inr rfl,fun b e f ae=>by omega,AD.refl _⟩ ?_;rintro k av _ az ⟨rfl,ax,aw,t,g⟩;rcases Nat.lt_or_ge k n with af | af
 .obtain ⟨k,rfl⟩:∃ b,k=b+1:=⟨k - 1,om⟩;obtain ⟨e,j⟩:=AA (l:=ks) (k:=k) om;obtain ⟨f,i⟩:=AA (l:=ks) (k:=k+1) om;have x:=Ex j;have y:=Ex i;have al:=hK e (List.mem_of_getElem? j);have am:=hK f (List.mem_of_getElem? i);have s:=fun an=>HL am al an hL;by_cases u:CY f e<0
  .have ai:¬ K5 ks:=fun h=>h k e f j i u;refine iY<|dH (pB [0,2,4,6,8,11,13,15,17,19,21]) fun ap d=>dI (h.ext g) (k+1) rfl y fun z aj ac o=>dO o rfl<|AB.sub (((k:Nat):Int)) om om om ⟨d,jI (h.ext (xt g d)) k rfl x fun aa ak ad p=>⟨d,jO p rfl ⟨d,dM (s _) fun aq m=>⟨(xt d m),iY ⟨_,rfl,?_,(xt (xt g d) m)⟩⟩⟩⟩⟩
   .exact ⟨fun h=>by omega,fun h=>absurd h ai⟩
  .have ah:∀ (b:Nat) (e f:List Int),b+1<k+1+1->ks[b]? = some e->ks[b+1]? = some f->¬ CY f e<0:=fun b ar au ae q r=>by
    by_cases ab:b=k
    .subst ab;rw [j] at q;rw [i] at r;cases q
     cases r
     exact u
    .exact t b ar au om q r
   exact iY<|dH (pB [0,2,4,6,8,11,13,15,17,19,21]) fun ap d=>dI (h.ext g) (k+1) rfl y fun z aj ac o=>dO o rfl<|AB.sub (((k:Nat):Int)) om om om ⟨d,jI (h.ext (xt g d)) k rfl x fun aa ak ad p=>⟨d,jO p rfl ⟨d,dM (s _) fun aq m=>⟨(xt d m),iN<|jP (((k+1+1:Nat):Int)) ⟨k+1+1,om,rfl,om,.inl om,ah,xt g (xt d m)⟩⟩⟩⟩⟩
 .have ay:K5 ks:=fun b e f j i=>t b e f (by have:=(List.getElem?_eq_some_iff.1 i).1;omega) j i;exact iN ⟨_,rfl,by simp [*],g⟩
theorem HV (h:Ac AZ w a n xs) (hn2:n<=1000) (hx:∀ x∈xs,x.length<=1000) :
  Dq 92 [.slice a n c] w (fun v w'=>∃ a' c',v = .slice a' n c'/\n<=c'/\Bm Aw w.heap.size 144 w' a' n c' xs/\Ab w.heap.size a'/\AD w w'):=by
 have a8:=h.len;have a7:=h.le;obtain ⟨ar,y,am⟩:=h;have a6:=y.len;refine oV Tryz.func92 ?_;refine bS Bz (vs:=[]) ?_;intro ai ay al bd ak ad;have ag:Bm Aw w.heap.size 144 ay (some ⟨ai,0,none⟩) 0 0 []:=EO ad al;refine lR [0,3,4] (fun (b:Nat) aw w'=>∃ m p,aw=[.slice a n c,.slice m b p,.int .i64 b]/\b<=n/\Bm Aw w.heap.size 144 w' m b p (xs.take b)/\AD w w') (fun b=>n - b) 0 ⟨_,_,rfl,om,by simpa using ag,ak⟩ ?_;rintro b a2 _ bf ⟨m,p,rfl,a5,d,g⟩;rcases Nat.lt_or_ge b n with aq | aq
 .obtain ⟨f,z⟩:=AA (l:=ar) (k:=b) om;obtain ⟨ab,aa,r⟩:=am.get z;have ba:=r.1.len;have a9:=hx ab (List.mem_of_getElem? aa);have an:∀ e o q,AD w e->AK e o q (eH f)->Dq 161 [.pointer (some ⟨o,q,none⟩)] e (fun v w'=>∃ (a':Option Addr) (c':Nat),v = .agg #[.slice a' f.n c']/\An eI 1 e.heap.size 2 w' a' f.n c' ab/\AD e w'):=fun e o q aj ap=>Ek ap (r.1.ext aj) om;refine iY<|jI (y.ext g) b rfl z fun a0 be a4 ao=>(an _ _ _ g ao).mono ?_;rintro _ bg ⟨s,t,rfl,i,u⟩;refine AB.buildSlice Bz (vs:=[Value.agg ⟨eH ⟨s,f.n,t⟩⟩]) rF rF (by simp [Value.cells,eH]) dE ?_;intro ah ax a3 bc j ac;have ae:AK ax ah 0 (eH ⟨s,f.n,t⟩):=ac.cells;have au:=Below.size g;refine Cb Bz rfl d au (xt u j) (FR ((i.ext j).own) i.le.1) (DB i.new (fun x hx=>Nat.lt_of_lt_of_le (i.lt x hx) j.size)) ae om om fun az a1 bh af av bb=>jP (((b+1:Nat):Int)) ⟨b+1,om,_,_,rfl,om,by rw [List.take_add_one,aa];exact af,xm (xt (xt g u) j) av (AQ (Bm.new d))⟩
 .obtain rfl:b=n:=om
  rw [List.take_of_length_le om] at d;exact iN ⟨_,_,rfl,d.le.1,d,Bm.new d,g⟩
theorem LZ (h:Ac AZ w a n xs) (f:AE) :
  Dq 296 [.slice a n c,.agg ⟨f.enc⟩] w (fun v w'=>∃ a' m c',v = .tuple #[.slice a' m c',.int .i64 (GD xs f).2]/\((GD xs f).2=0->m<=c'/\Dl Aw w' w.heap.size w'.heap.size a' m 144 (GD xs f).1)/\AD w w'):=by
 have bn:=h.len;have cn:=h.le;have r:∀ d,AD w d->Dq 166 [.slice a n c,.agg ⟨f.enc⟩] d (fun v w'=>∃ a' au c',v = .tuple #[.slice a' au c',.int .i64 (Bu xs f).2]/\Ab d.heap.size a'/\Bs eS w' a' au 9 ((Bu xs f).1.map Cf)/\AD d w'):=fun d aa=>Eu (h.ext aa) f;by_cases e:(Bu xs f).2=0
 .obtain ⟨ab,an,bl,ao⟩:=N5 e;have ac:GD xs f=(K8 xs f,0):=by unfold GD;rw [if_neg om]
  rw [ac];have am:=Am ab;have ch:=am.1;have bo:=Hf ab an bl;have ck:=Bc an;have bk:CJ f<=1000:=by unfold CJ;have:=EX ab;omega
  have bp:=L8 (xs.map (AS f)) (CJ f);rw [List.length_map] at bp;have co:=UQ xs f;rw [ao] at r;dsimp only at r;obtain ⟨bq,ak,bf⟩:=h;have cm:=ak.len;refine oV Tryz.func296 ?_;refine AB.box ?_;intro a5 bz bd bv i t;refine jA (n:=2) t.cells rfl<|(r _ i).mono ?_;rintro _ cz ⟨b8,cv,cc,rfl,b3,af,a9⟩;have ap:=af.arr AP |>.len;rw [List.length_map,List.length_map,bn] at ap;subst ap;refine (KW (af.arr AP) bo bk om).mono ?_;rintro _ ae ⟨a4,a8,rfl,b4,a3,ba⟩;have ax:=a3.arr AI;have u:=xt (xt i a9) ba;refine bS Bz (vs:=[]) ?_;intro a7 av be ct bc az;have a2:Bm Aw ae.heap.size 144 av (some ⟨a7,0,none⟩) 0 0 []:=EO az be;refine lR [0,8,9,10] (fun (b:Nat) bx w'=>∃ x z,bx=[.slice a n c,.slice a4 n a8,.slice x b z,.int .i64 b]/\b<=n/\Bm Aw ae.heap.size 144 w' x b z ((K8 xs f).take b)/\AD ae w') (fun b=>n - b) 0 ⟨_,_,rfl,om,by simpa using a2,bc⟩ ?_;rintro b cf _ cy ⟨x,z,rfl,ao,j,o⟩;rcases Nat.lt_or_ge b n with bm | bm
  .obtain ⟨c2,e⟩:=AA (l:=Ds (xs.map (AS f)) (CJ f)) (k:=b) om;obtain ⟨ar,rfl,cl⟩:=Nl e;obtain ⟨g,al⟩:=AA (l:=bq) (k:=ar) om;obtain ⟨aw,aq,ag⟩:=bf.get al;have bt:=Xx e aq;have cp:=Bp (am.2 aw (List.mem_of_getElem? aq)).1;have cq:=ag.1.len;have bg:∀ d y ad,AD w d->AK d y ad (eH g)->Dq 161 [.pointer (some ⟨y,ad,none⟩)] d (fun v w'=>∃ (a':Option Addr) (c':Nat),v = .agg #[.slice a' g.n c']/\An eI 1 d.heap.size 2 w' a' g.n c' aw/\AD d w'):=fun d y ad aa bj=>Ek bj (ag.1.ext aa) om;have s:=xt u o;refine iY<|jI (ax.ext o) b rfl e fun b' cw ci bh=>jO bh rfl<|jI (ak.ext s) ar rfl al fun ca cx cj bi=>(bg _ _ _ s bi).mono ?_;rintro _ c0 ⟨ah,ai,rfl,p,aj⟩;refine AB.buildSlice Bz (vs:=[Value.agg ⟨eH ⟨ah,g.n,ai⟩⟩]) rF rF (by simp [Value.cells,eH]) dE ?_;intro a6 b0 cg cs q ay;have a0:AK b0 a6 0 (eH ⟨ah,g.n,ai⟩):=ay.cells;have br:=o.size;exact Cb Bz rfl j br (xt aj q) (FR ((p.ext q).own) p.le.1) (DB p.new (fun b1 bu=>Nat.lt_of_lt_of_le (p.lt b1 bu) q.size)) a0 om om fun b9 cd c1 a1 bw cr=>jP (((b+1:Nat):Int)) ⟨b+1,om,_,_,rfl,om,by rw [bt];exact a1,xm (xt (xt o aj) q) bw (AQ (Bm.new j))⟩
  .obtain rfl:b=n:=om
   rw [List.take_of_length_le om] at j;have s:=xt u o;exact iN ⟨_,_,_,rfl,fun _=>⟨j.le.1,j.ownN.wide (Below.size u) (Nat.le_refl _)⟩,s⟩
 .have ac:(GD xs f).2=(Bu xs f).2:=by unfold GD;rw [if_pos e]
  rw [ac];generalize (Bu xs f).2=ce at *;generalize (Bu xs f).1=b2 at *;refine oV Tryz.func296 ?_;refine AB.box ?_;intro a5 bz bd bv i t;refine jA (n:=2) t.cells rfl<|(r _ i).mono ?_;rintro _ av ⟨b7,cu,cb,rfl,b5,b6,bb⟩;exact iT ⟨_,_,_,rfl,om,(xt i bb)⟩
end Go.Proofs.YtalgenmoljcnmaaGreatDoor
