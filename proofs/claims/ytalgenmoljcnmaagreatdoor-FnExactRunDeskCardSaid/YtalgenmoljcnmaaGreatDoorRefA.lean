/- Parts of the proof; no conditions of its own. -/
import Derived.Test.YtalgenmoljcnmaaGreatDoorRadixL
import Derived.Test.YtalgenmoljcnmaaGreatDoorKeyW
import Derived.Test.YtalgenmoljcnmaaGreatDoorDoSt
namespace Go.M
open Go Go.Vc
variable {α:Type} {t:ByteArray} {k:Nat} {l:List α} {x:α}
theorem Qj {p:UInt8->Prop} (h:∀ i:Fin 256,p (UInt8.ofNat i.val)) (c:UInt8):p c:=by
 have:=h ⟨c.toNat,c.toNat_lt⟩;simpa using this
def Hy (c:UInt8):Int:=if Lo c=true then EA c.toNat else -1
theorem Se (c:UInt8):Hy c<0↔Lo c=false:=Qj (p:=fun c=>Hy c<0↔Lo c=false) (by decide +kernel) c
theorem XO (c:UInt8):Lo c=true↔LJ c.toNat:=by
 unfold LJ;exact Qj (p:=fun c=>Lo c=true↔(c.toNat=32\/c.toNat=38\/c.toNat=45\/c.toNat=47\/(48<=c.toNat/\c.toNat<=57)\/(65<=c.toNat/\c.toNat<=73)\/(74<=c.toNat/\c.toNat<=82)\/(83<=c.toNat/\c.toNat<=90))) (by decide +kernel) c
theorem ZY (h1:¬ t=DP) (h2:¬ t=DD) (h3:¬ t=EV) (h4:¬ t=Bz) (h5:¬ t=Cx) (h6:¬ t=Dz) (h7:¬ t=Di) (h8:¬ t=GC) (h9:¬ t=BK) (h10:¬ t=CP) (h11:¬ t=Cm) (h12:¬ t=CH) (h13:¬ t=Cb) (h14:¬ t=Ha):¬ (deskWordsM.any fun x=>decide (x=t))=true:=by
 intro c;obtain ⟨x,b,a⟩:=List.any_eq_true.1 c;have a:=of_decide_eq_true a;subst a;simp only [deskWordsM,List.mem_cons,List.not_mem_nil,or_false] at b;rcases b with rfl | rfl | rfl | rfl | rfl | rfl | rfl | rfl | rfl | rfl | rfl | rfl | rfl | rfl
 .exact h10 rfl
 .exact h12 rfl
 .exact h5 rfl
 .exact h14 rfl
 .exact h1 rfl
 .exact h2 rfl
 .exact h6 rfl
 .exact h11 rfl
 .exact h3 rfl
 .exact h4 rfl
 .exact h13 rfl
 .exact h7 rfl
 .exact h8 rfl
 .exact h9 rfl
theorem aB8 (hw:(deskWordsM.any fun x=>decide (x=t))=true) (h1:¬ t=DP) (h2:¬ t=DD) (h3:¬ t=EV) (h4:¬ t=Bz) (h5:¬ t=Cx) (h6:¬ t=Di) (h7:¬ t=GC) (h8:¬ t=BK) (h9:¬ t=Dz) (h10:¬ t=CP) (h11:¬ t=Cm) (h12:¬ t=Ha):Value.string { data := #[116] }=Value.string (bs (BW t)):=by
 obtain ⟨x,b,a⟩:=List.any_eq_true.1 hw;have a:=of_decide_eq_true a;subst a;simp only [deskWordsM,List.mem_cons,List.not_mem_nil,or_false] at b;rcases b with rfl | rfl | rfl | rfl | rfl | rfl | rfl | rfl | rfl | rfl | rfl | rfl | rfl | rfl
 .exact absurd rfl h10
 .exact congrArg Value.string (by decide +kernel)
 .exact absurd rfl h5
 .exact absurd rfl h12
 .exact absurd rfl h1
 .exact absurd rfl h2
 .exact absurd rfl h9
 .exact absurd rfl h11
 .exact absurd rfl h3
 .exact absurd rfl h4
 .exact congrArg Value.string (by decide +kernel)
 .exact absurd rfl h6
 .exact absurd rfl h7
 .exact absurd rfl h8
def FG:List ByteArray:=[Di,DD,DP,EV,Bz,Cx,BK]
theorem Zs (h:FG[k]? = some t):DZ t=(k:Int)+1:=by
 have a:=(List.getElem?_eq_some_iff.1 h).1;have a:k<7:=a;rcases (show k=0\/k=1\/k=2\/k=3\/k=4\/k=5\/k=6 by omega) with rfl | rfl | rfl | rfl | rfl | rfl | rfl<;>(simp only [FG,List.getElem?_cons_zero,List.getElem?_cons_succ,Option.some.injEq] at h;subst h;decide +kernel)
theorem Zr (h:∀ x∈FG,¬ x=t):DZ t=0:=by
 have a:∀ x∈FG,¬ t=x:=fun x c b=>h x c b.symm;unfold DZ;rw [if_neg (a Di (by simp [FG])),if_neg (a Cx (by simp [FG])),if_neg (a DD (by simp [FG])),if_neg (a DP (by simp [FG])),if_neg (a EV (by simp [FG])),if_neg (a Bz (by simp [FG])),if_neg (a BK (by simp [FG]))]
theorem OB (c:UInt8) (x:ByteArray):Dh c [x]=x:=by
 unfold Dh;rw [List.map_cons,List.map_nil,Lib.join_one];exact CV (by simp [bs])
theorem Pz (c:UInt8) {l:List ByteArray} (h:l≠[]) (x:ByteArray):Dh c (l++[x])=Dh c l++⟨#[c]⟩++x:=by
 cases l with
 | nil=>exact absurd rfl h
 | cons a l =>
  unfold Dh;rw [List.cons_append,List.map_cons,List.map_cons,Lib.join_cons,Lib.join_cons,List.map_append,JY];apply CV;simp [Lib.joinTail,bs]
theorem Ld (g:α->ByteArray) (c:UInt8) (h:l[k]? = some x) (hk:0<k):Dh c ((l.take (k+1)).map g)=Dh c ((l.take k).map g)++⟨#[c]⟩++g x:=by
 have b:=(List.getElem?_eq_some_iff.1 h).1;rw [List.take_add_one,h,List.map_append];refine Pz c (fun a=>?_) (g x);have:=congrArg List.length a;rw [List.length_map,List.length_take,List.length_nil] at this;omega
theorem Py (g:α->ByteArray) (c:UInt8) (h:l[0]? = some x):Dh c ((l.take (0+1)).map g)=g x:=by
 rw [List.take_add_one,h];exact OB c (g x)
theorem N8 (g:α->ByteArray) (c:UInt8) (h:l[0]? = some x):Dh c ((l.take (0+1)).map g)=Dh c ((l.take 0).map g)++g x:=by
 rw [Py g c h];show g x=Dh c []++g x;apply CV;simp [Dh,Lib.join_nil,bs]
theorem SM (g:α->ByteArray) (c:UInt8) {B:Nat} (h:∀ x∈l,(g x).size<=B):∀ k,(Dh c ((l.take k).map g)).size<=k * (B+1):=by
 intro k;induction k with
 | zero=>simp [Dh,Lib.join_nil,AV]
 | succ k e =>
  cases a:l[k]? with
  | none =>
   rw [List.take_add_one,a];simp only [Option.toList_none,List.append_nil];rw [Nat.succ_mul];omega
  | some x =>
   have d:=h x (List.mem_of_getElem? a);rcases Nat.eq_zero_or_pos k with rfl | b
   .rw [Py g c a];omega
   .rw [Ld g c a b,ByteArray.size_append,ByteArray.size_append,Nat.succ_mul];show _+1+_<=_;omega
end Go.M
namespace Go.Proofs.YtalgenmoljcnmaaGreatDoor
open Go Go.RowKit Go.Vc Go.M
variable {w:World} {a:Option Addr} {n c L:Nat} {xs ks:List (List Int)}
theorem Q2 (k:Int) (w:World):Dq 43 [.int .i64 k] w (fun v w'=>v = .string (Ew k)/\AD w w'):=by
 unfold Ew;cases g:Dc k 0 10
 .refine oV Tryz.func43 ?_;refine bS BI (vs:=[Value.string { data := #[111,107] },Value.string { data := #[105,110,118,97,108,105,100] },Value.string { data := #[114,97,110,103,101] },Value.string { data := #[110,111,116,45,102,111,117,110,100] },Value.string { data := #[101,120,105,115,116,115] },Value.string { data := #[102,117,108,108] },Value.string { data := #[115,116,97,116,101] },Value.string { data := #[115,121,110,116,97,120] },Value.string { data := #[102,111,114,109,97,116] },Value.string { data := #[99,108,97,115,104] },Value.string { data := #[106,97,109] }]) ?_;intro e h c m b a;have d:=AG (n:=11) (enc:=eS) (xs:=[{ data := #[111,107] },{ data := #[105,110,118,97,108,105,100] },{ data := #[114,97,110,103,101] },{ data := #[110,111,116,45,102,111,117,110,100] },{ data := #[101,120,105,115,116,115] },{ data := #[102,117,108,108] },{ data := #[115,116,97,116,101] },{ data := #[115,121,110,116,97,120] },{ data := #[102,111,114,109,97,116] },{ data := #[99,108,97,115,104] },{ data := #[106,97,109] }]) AQ a c rfl dE;refine AB.sub (((11 - 1:Nat):Int)) om om om<|(Em _ _ _ _).mono ?_;rintro _ _ ⟨rfl,rfl⟩;refine iT ?_;exact ⟨rfl,b⟩
 .refine oV Tryz.func43 ?_;conv=>whnf
  refine bS BI (vs:=[Value.string { data := #[111,107] },Value.string { data := #[105,110,118,97,108,105,100] },Value.string { data := #[114,97,110,103,101] },Value.string { data := #[110,111,116,45,102,111,117,110,100] },Value.string { data := #[101,120,105,115,116,115] },Value.string { data := #[102,117,108,108] },Value.string { data := #[115,116,97,116,101] },Value.string { data := #[115,121,110,116,97,120] },Value.string { data := #[102,111,114,109,97,116] },Value.string { data := #[99,108,97,115,104] },Value.string { data := #[106,97,109] }]) ?_;intro e h c m b a;have d:=AG (n:=11) (enc:=eS) (xs:=[{ data := #[111,107] },{ data := #[105,110,118,97,108,105,100] },{ data := #[114,97,110,103,101] },{ data := #[110,111,116,45,102,111,117,110,100] },{ data := #[101,120,105,115,116,115] },{ data := #[102,117,108,108] },{ data := #[115,116,97,116,101] },{ data := #[115,121,110,116,97,120] },{ data := #[102,111,114,109,97,116] },{ data := #[99,108,97,115,104] },{ data := #[106,97,109] }]) AQ a c rfl dE;refine AB.sub (((11 - 1:Nat):Int)) om om om ?_;refine (Em _ _ _ _).mono ?_;rintro _ _ ⟨rfl,rfl⟩;refine iF ?_;obtain ⟨s,f⟩:=AA (l:=EI) (k:=k.toNat) (by show _<11;have:=Bs g;omega);have i:A4 eS 1 h (some ⟨e,0,none⟩) 11 EI:=d.own.arr AQ;have q:=Bs g;refine jI i k.toNat om f ?_;intro o r p j;refine jO j rfl ?_;exact ⟨by rw [if_neg sI,Ae f],b⟩
theorem IK (c:UInt8) (w:World):Dq 163 [.int .u8 c.toNat] w (fun v w'=>v = .int .i64 (Hy c)/\AD w w'):=by
 by_cases a:LJ c.toNat
 .have b:Lo c=true:=(XO c).2 a;unfold Hy;rw [if_pos b];exact I4 a w
 .have b:¬ Lo c=true:=fun e=>a ((XO c).1 e);have g:c.toNat<=255:=by have:=c.toNat_lt;omega
  unfold Hy;rw [if_neg b];unfold LJ at a;generalize c.toNat=c at *;refine oV Tryz.func163 ?_;refine As kR kR (Bo om om) ?_
  refine iN ?_;refine iN ?_;refine iN ?_;refine iN ?_;refine (FB _ _).mono ?_;rintro _ _ ⟨rfl,rfl⟩;refine BS (fun d=>?_) fun d=>?_
  .exfalso;unfold DK at d;simp only [Bool.and_eq_true,decide_eq_true_eq] at d;omega
  .refine AL (fun f=>?_) fun f=>?_
   .refine iN ?_;refine iY ?_;refine iN ?_;refine iY ?_;refine iN ?_;exact ⟨rfl,AD.refl _⟩
   .refine iN ?_;refine iN ?_;exact ⟨rfl,AD.refl _⟩
theorem Pb {t:ByteArray} (ht:t.size<=1048576) (w:World):Dq 98 [.string t,.int .i64 t.size] w (fun v w'=>∃ a n c,v = .tuple #[.agg #[.slice a n c],.int .i64 (CG t)]/\(CG t=0->Ad w.heap.size a/\Ai eI 1 w.heap.size 2 w' a n c (CR t))/\AD w w'):=by
 unfold CG;have am:CM t=decide (∀ c∈t.data.toList,Lo c=true):=by
  unfold CM;by_cases d:∀ c∈t.data.toList,Lo c=true
  .rw [decide_eq_true d,List.all_eq_true.2 d]
  .rw [decide_eq_false d];cases a2:t.data.toList.all Lo
   .rfl
   .exact absurd (List.all_eq_true.1 a2) d
 cases a':Dc t.size 1 20
 .refine oV Tryz.func98 ?_;refine jN (z := .agg #[.slice none 0 0]) fun o bd u ap g ab=>(Em _ _ _ _).mono ?_;rintro _ _ ⟨rfl,rfl⟩;refine iT ?_;exact AB.build Jm rfl<|jS (vs:=[Value.slice none 0 0]) ab rfl rfl (by simp [AE]) fun be a0 ac=>AP (jR (n:=1) rfl ac.cells) ⟨_,_,_,rfl,by simp [*],(xb g a0.but u)⟩
 .refine oV Tryz.func98 ?_;conv=>whnf
  refine jN (z := .agg #[.slice none 0 0]) ?_;intro o bd u ap g ab;refine (Em _ _ _ _).mono ?_;rintro _ _ ⟨rfl,rfl⟩;refine iF ?_;refine iN ?_;refine AB.make B5 (t.size) rfl om om ?_;intro m be x ba s ac;have ay:=JR (enc:=eI) (z:=(0:Int)) AI rfl ac x om;refine AB.build Jm rfl ?_;refine jN (z := .agg #[.slice none 0 0]) ?_;intro r bu a1 bq ah av;refine AW (vs:=[Value.slice (some { block:=m,off:=0 }) t.size t.size]) kR av rfl rfl (by simp [AE]) ?_;intro bv ag aw;have a5:o≠r:=by have:=s.size;omega
  have a6:m≠r:=om
  have bn:=Bs a';refine lR [0,4,6,7] (fun (b:Nat) bb w'=>∃ q,bb=[.string t,.pointer (some ⟨o,0,none⟩),.pointer (some ⟨r,0,none⟩),.int .i64 b]/\b<=t.size/\q.take b=(CR t).take b/\(∀ c∈t.data.toList.take b,Lo c=true)/\CD w' o [.slice none 0 0] 144/\CD w' r [.slice (some ⟨m,0,none⟩) t.size t.size] 144/\Ai eI 1 w.heap.size 2 w' (some ⟨m,0,none⟩) t.size t.size q/\AD w w') (fun b=>t.size - b) 0
   ⟨_,rfl,om,sI,sI,(ab.ext (xt s ah)).mod ag.but (fun d=>a5 d),aw,((ay.ext ah).mod ag.but (fun aq i d=>by cases i;exact a6 d)).base (Below.size g),xb (xt (xt g s) ah) ag.but (by have:=g.size;have:=s.size;omega)⟩ ?_
  rintro b bf _ bw ⟨q,rfl,bi,aj,an,ad,ae,y,ai⟩;have bp:=y.len;have bl:=Q6 t;rcases Nat.lt_or_ge b t.size with a4 | a4
  .obtain ⟨e,p⟩:=AA (l:=t.data.toList) (k:=b) (by simp;omega);obtain ⟨aq,i⟩:=AA (l:=q) (k:=b) om;have ao:=Se e;have al:∀ aa,Dq 163 [.int .u8 e.toNat] aa (fun v w'=>v = .int .i64 (Hy e)/\AD aa w'):=fun aa=>IK e aa;cases h:Lo e
   .have a7:CM t=false:=by
     rw [am];exact decide_eq_false fun d=>by rw [d e (List.mem_of_getElem? p)] at h;cases h
    have bj:Hy e<0:=ao.2 h;rw [if_neg sI,if_pos a7];exact iY<|jC b rfl p<|dM (al _) fun bc f=>iY<|AB.build Jm rfl<|jS (vs:=[Value.slice none 0 0]) (ad.ext f) rfl rfl (by simp [AE]) fun br az ar=>AP (jR (n:=1) rfl ar.cells) ⟨_,_,_,rfl,om,(xb (xt ai f) az.but u)⟩
   .have bh:¬ Hy e<0:=fun d=>by rw [ao.1 d] at h;cases h
    have bk:=GN p an h;have a3:Hy e=EA e.toNat:=by unfold Hy;rw [if_pos h]
    have a8:(CR t)[b]? = some (EA e.toNat):=by unfold CR;rw [List.getElem?_map,p];rfl
    have bm:(q.set b (Hy e)).take (b+1)=(CR t).take (b+1):=by
     rw [List.take_add_one,List.take_add_one,List.take_set_of_le om,aj,a8,List.getElem?_set_self om,a3]
    refine iY<|jC b rfl p<|dM (al _) fun bc f=>iN<|jL (ae.ext f).cells (k:=0) rfl<|jW (sz:=1) b rfl om ?_;have bg:=AT AI (y.ext f).own i;refine HC (k:=b) (j:=0) kR AI (y.ext f) i dE rfl (Hy e) rfl ?_;intro bt af au;have bo:=Eo i ((Hy e));exact jP (((b+1:Nat):Int)) ⟨b+1,om,_,rfl,om,om,om,((ad.ext f).mod af.but (aB0 ap x (Nat.le_refl _))),((ae.ext f).mod af.but (NI a1 ba (Nat.le_refl _))),au,(xb (xt ai f) af.but (nB g x))⟩
  .obtain rfl:b=t.size:=om
   have a9:CM t=true:=by
    rw [am];exact decide_eq_true (G2 sI an)
   rw [List.take_of_length_le om,List.take_of_length_le om] at aj;subst aj;rw [if_neg sI,if_neg (by simp [a9])];refine iN<|jA (n:=1) ae.cells rfl<|AW (vs:=[Value.slice (some { block:=m,off:=0 }) t.size t.size]) kR ad rfl rfl (by simp [AE]) fun bx ak ax=>AP (jR (n:=1) rfl ax.cells) ⟨_,_,_,rfl,?_,(xb ai ak.but u)⟩
   .exact fun _=>⟨Ad.some (nB g x),y.mod ak.but (fun aq i d=>by cases i;have d:m=o:=d;omega)⟩
theorem Q1 {d:Hd} {xs:List Int} (R:Aa w d xs) (hl:xs.length<=1000):Dq 100 [.agg ⟨eH d⟩] w (fun v w'=>∃ s,v = .tuple #[.string s,.int .i64 (BG xs)]/\(BG xs=0->s=Cd (CK xs))/\AD w w'):=by
 obtain ⟨c,t⟩:=R;have r:=c.len;unfold BG;cases u:E2 xs
 .refine oV Tryz.func100 ?_;conv=>whnf
  exact AB.box fun p z q y g h=>dM (Ga (c.ext g) h.cells) fun aa a=>iT ⟨_,rfl,by simp [*],(xt g a)⟩
 .cases x:Dd xs
  .refine oV Tryz.func100 ?_;refine AB.box fun i m j l a e=>(Ga (c.ext a) e.cells).mono ?_;rintro _ n ⟨rfl,b⟩;refine iF ?_;refine jL (e.ext b).cells (k:=0) rfl<|dM (IJ (c.ext (xt a b)) om) fun o f=>iT ?_;exact ⟨_,rfl,by simp [*],(xt (xt a b) f)⟩
  .refine oV Tryz.func100 ?_;conv=>whnf
   refine AB.box ?_;intro i m j l a e;exact dM (Ga (c.ext a) e.cells) fun n b=>iF<|jL (e.ext b).cells (k:=0) rfl<|dM (IJ (c.ext (xt a b)) om) fun o f=>iF ⟨_,rfl,by simp [*],(xt (xt a b) f)⟩
theorem OZ {xs:List A9} (h:A4 A9.enc 2 w a n xs) (hok:∀ x∈xs,x.name.size<=20/\BM x.sum) (hn2:n<=40) :
  Dq 109 [.slice a n c] w (fun v w'=>v = .string (GF xs)/\AD w w'):=by
 have am:=h.len;have z:=SM CQ 59 (l:=xs) (B:=42) (fun x f=>by
  have q:=hok x f;have ai:=Bc q.2.1 q.2.2;unfold CQ;rw [ByteArray.size_append,ByteArray.size_append,AV];simp only [List.length_cons,List.length_nil];omega)
 refine oV Tryz.func109 ?_;refine lR [0,3,4] (fun (b:Nat) ae w'=>ae=[.slice a n c,.string (Dh 59 ((xs.take b).map CQ)),.int .i64 b]/\b<=n/\AD w w') (fun b=>n - b) 0 ⟨rfl,om,AD.refl _⟩ ?_;rintro b ah _ w' ⟨rfl,al,g⟩;have ak:=z b;rcases Nat.lt_or_ge b n with ab | ab
 .obtain ⟨x,f⟩:=AA (l:=xs) (k:=b) om;obtain ⟨an,p⟩:=hok x (List.mem_of_getElem? f);have aj:=Bc p.1 p.2;have r:∀ i,Dq 99 [.int .i64 x.sum] i (fun v w'=>v = .string (BP x.sum)/\AD i w'):=fun i=>B7 p i;rcases Nat.eq_zero_or_pos b with rfl | aa
  .have o:Dh 59 ((xs.take (0+1)).map CQ)=Dh 59 ((xs.take 0).map CQ)++(x.name++{ data := #[61] }++BP x.sum):=N8 CQ 59 f;exact iY<|dH (pB [0,2,4,6,8,10,12,14,17,19,21,23,25,27,29,31]) fun af d=>dI (h.ext g) 0 rfl f fun s ac u j=>dL j (k:=0) rfl<|HZ (by simp only [ByteArray.size_append,AV,CO,CZ,List.length_cons,List.length_nil];omega)<|jI (h.ext (xt g d)) 0 rfl f fun t ad y m=>⟨d,jL m (k:=1) rfl ⟨d,dM (r _) fun ag e=>⟨(xt d e),Ao (by simp only [ByteArray.size_append,AV,CO,CZ,List.length_cons,List.length_nil];omega) ⟨(xt d e),Ao (by simp only [ByteArray.size_append,AV,CO,CZ,List.length_cons,List.length_nil];omega) ⟨(xt d e),jP (((0+1:Nat):Int)) ⟨0+1,om,by rw [o];rfl,om,xt g (xt d e)⟩⟩⟩⟩⟩⟩
  .have o:Dh 59 ((xs.take (b+1)).map CQ)=Dh 59 ((xs.take b).map CQ)++{ data := #[59] }++(x.name++{ data := #[61] }++BP x.sum):=Ld CQ 59 f aa;exact iY<|iY<|Ao (by simp only [ByteArray.size_append,AV,CO,CZ,List.length_cons,List.length_nil];omega)<|dH (pB [0,2,4,6,8,10,12,14,17,19,21,23,25,27,29,31]) fun af d=>dI (h.ext g) b rfl f fun s ac u j=>dL j (k:=0) rfl<|HZ (by simp only [ByteArray.size_append,AV,CO,CZ,List.length_cons,List.length_nil];omega)<|jI (h.ext (xt g d)) b rfl f fun t ad y m=>⟨d,jL m (k:=1) rfl ⟨d,dM (r _) fun ag e=>⟨(xt d e),Ao (by simp only [ByteArray.size_append,AV,CO,CZ,List.length_cons,List.length_nil];omega) ⟨(xt d e),Ao (by simp only [ByteArray.size_append,AV,CO,CZ,List.length_cons,List.length_nil];omega) ⟨(xt d e),jP (((b+1:Nat):Int)) ⟨b+1,om,by rw [o];rfl,om,xt g (xt d e)⟩⟩⟩⟩⟩⟩
 .obtain rfl:b=n:=om
  rw [List.take_of_length_le om];exact iN ⟨rfl,g⟩
theorem TM {xs:List Ag} (h:A4 Ag.enc 2 w a n xs) (hok:∀ x∈xs,BM x.col) (hn2:n<=1000) :
  Dq 103 [.slice a n c] w (fun v w'=>v = .string (Dh 32 (xs.map Bb))/\AD w w'):=by
 have am:=h.len;have ad:=SM Bb 32 (l:=xs) (B:=22) (fun x e=>by
  have ac:=hok x e;have ai:=Bc ac.1 ac.2;unfold Bb;rw [ByteArray.size_append];split<;>rw [AV]<;>simp only [List.length_cons,List.length_nil]<;>omega)
 refine oV Tryz.func103 ?_;refine lR [0,3,4] (fun (b:Nat) ag w'=>ag=[.slice a n c,.string (Dh 32 ((xs.take b).map Bb)),.int .i64 b]/\b<=n/\AD w w') (fun b=>n - b) 0 ⟨rfl,om,AD.refl _⟩ ?_;rintro b ah _ w' ⟨rfl,al,d⟩;have ak:=ad b;rcases Nat.lt_or_ge b n with af | af
 .obtain ⟨x,e⟩:=AA (l:=xs) (k:=b) om;have y:=hok x (List.mem_of_getElem? e);have aj:=Bc y.1 y.2;have o:∀ q,Dq 99 [.int .i64 x.col] q (fun v w'=>v = .string (BP x.col)/\AD q w'):=fun q=>B7 y q;have p:Bb x=BP x.col++(if x.mode=1 then ⟨#[100]⟩ else ⟨#[122]⟩):=rfl;rcases Nat.eq_zero_or_pos b with rfl | ae
  .have g:=N8 Bb 32 e;by_cases m:x.mode=1
   .rw [p,if_pos m,<- ByteArray.append_assoc] at g;exact iY<|jI (h.ext d) 0 rfl e fun r z t i=>jL i (k:=0) rfl<|dM (o _) fun ab f=>Ao om<|jI (h.ext (xt d f)) 0 rfl e fun s aa u j=>jL j (k:=1) rfl<|iY<|Ao (by simp only [ByteArray.size_append,AV,CO,CZ,List.length_cons,List.length_nil];omega)<|jP (((0+1:Nat):Int)) ⟨0+1,om,by rw [g];rfl,om,xt d f⟩
   .rw [p,if_neg m,<- ByteArray.append_assoc] at g;exact iY<|jI (h.ext d) 0 rfl e fun r z t i=>jL i (k:=0) rfl<|dM (o _) fun ab f=>Ao om<|jI (h.ext (xt d f)) 0 rfl e fun s aa u j=>jL j (k:=1) rfl<|iN<|Ao (by simp only [ByteArray.size_append,AV,CO,CZ,List.length_cons,List.length_nil];omega)<|jP (((0+1:Nat):Int)) ⟨0+1,om,by rw [g];rfl,om,xt d f⟩
  .have g:=Ld Bb 32 e ae;by_cases m:x.mode=1
   .rw [p,if_pos m,<- ByteArray.append_assoc] at g;exact iY<|iY<|Ao (by simp only [ByteArray.size_append,AV,CO,CZ,List.length_cons,List.length_nil];omega)<|jI (h.ext d) b rfl e fun r z t i=>jL i (k:=0) rfl<|dM (o _) fun ab f=>Ao (by simp only [ByteArray.size_append,AV,CO,CZ,List.length_cons,List.length_nil];omega)<|jI (h.ext (xt d f)) b rfl e fun s aa u j=>jL j (k:=1) rfl<|iY<|Ao (by simp only [ByteArray.size_append,AV,CO,CZ,List.length_cons,List.length_nil];omega)<|jP (((b+1:Nat):Int)) ⟨b+1,om,by rw [g];rfl,om,xt d f⟩
   .rw [p,if_neg m,<- ByteArray.append_assoc] at g;exact iY<|iY<|Ao (by simp only [ByteArray.size_append,AV,CO,CZ,List.length_cons,List.length_nil];omega)<|jI (h.ext d) b rfl e fun r z t i=>jL i (k:=0) rfl<|dM (o _) fun ab f=>Ao (by simp only [ByteArray.size_append,AV,CO,CZ,List.length_cons,List.length_nil];omega)<|jI (h.ext (xt d f)) b rfl e fun s aa u j=>jL j (k:=1) rfl<|iN<|Ao (by simp only [ByteArray.size_append,AV,CO,CZ,List.length_cons,List.length_nil];omega)<|jP (((b+1:Nat):Int)) ⟨b+1,om,by rw [g];rfl,om,xt d f⟩
 .obtain rfl:b=n:=om
  rw [List.take_of_length_le om];exact iN ⟨rfl,d⟩
theorem Kp {xs:List ByteArray} (h:A4 eS 1 w a n xs) (hs:(Bf xs).length<=1099511627776) :
  Dq 22 [.slice a n c] w (fun v w'=>v = .string (bs (Bf xs))/\AD w w'):=by
 have av:=h.le;have ax:=h.len;refine oV Tryz.func22 ?_;refine bS Hl (vs:=[]) ?_;intro ak a3 ab a0 aa s;have u:=Ab (enc:=eB) Et s ab;refine lR [0,3,4] (fun (b:Nat) ah w'=>∃ f j g,ah=[.slice a n c,.slice f j g,.int .i64 b]/\b<=n/\Ai eB 1 w.heap.size 5 w' f j g (Bf (xs.take b))/\AD w w') (fun b=>n - b) 0 ⟨_,_,_,rfl,om,u,aa⟩ ?_;rintro b ap _ w' ⟨f,j,g,rfl,au,d,e⟩;have aw:=d.len;have ar:=d.le.1;rcases Nat.lt_or_ge b n with ae | ae
 .obtain ⟨m,q⟩:=AA (l:=xs) (k:=b) om;have p:Bf (xs.take (b+1))=Bf (xs.take b)++m.data.toList++[10]:=by
   unfold Bf;rw [List.take_add_one,q];simp
  have af:(Bf (xs.take (b+1))).length<=(Bf xs).length:=by
   have z:Bf xs=Bf (xs.take (b+1))++Bf (xs.drop (b+1)):=by
    unfold Bf;rw [<- List.flatten_append,<- List.map_append,List.take_append_drop]
   rw [z,List.length_append];omega
  have ay:m.data.toList.length=m.size:=sI
  rw [p,List.length_append,List.length_append,List.length_singleton] at af;refine iY ?_;refine jI (h.ext e) b rfl q ?_;intro al a2 aq ad;refine jO ad rfl ?_;refine Qs Hl kR kR d om (Below.size e) ?_;intro ai an a4 o r;refine bS Hl (vs:=[Value.int IntKind.u8 10]) ?_;intro am a5 ac a1 i t;have x:=AG (n:=1) (enc:=eB) (xs:=[10]) Et t ac rfl dE;refine AM (enc:=eB) Hl Et (o.ext i) (x.own.arr Et) (by intro a7 _;simp [eB,AE]) om om (Below.size (xt (xm e r (AO d.new)) i)) ?_;intro aj ao a6 y ag az;refine jP (((b+1:Nat):Int)) ?_;exact ⟨b+1,om,_,_,_,rfl,om,by rw [p];exact y,xm (xt (xm e r (AO d.new)) i) ag (AO o.new)⟩
 .obtain rfl:b=n:=om
  rw [List.take_of_length_le om] at d;refine iN ?_;refine G3 kR kR d ?_;exact ⟨rfl,e⟩
theorem TC (t:ByteArray) (w:World):Dq 44 [.string t] w (fun v w'=>v = .int .i64 (if (Go.M.deskWordsM.any fun x=>decide (x=t))=true then (BW t).length+1 else 0:Nat)/\AD w w'):=by
 refine oV Tryz.func44 ?_;conv=>whnf
 refine AL (fun a=>?_) fun a=>?_
 .refine iY ⟨?_,AD.refl _⟩
  .subst a;exact congrArg (Value.int IntKind.i64) (by decide +kernel)
 .refine AL (fun g=>?_) fun g=>?_
  .refine iY ⟨?_,AD.refl _⟩
   .subst g;exact congrArg (Value.int IntKind.i64) (by decide +kernel)
  .refine AL (fun h=>?_) fun h=>?_
   .refine iY ⟨?_,AD.refl _⟩
    .subst h;exact congrArg (Value.int IntKind.i64) (by decide +kernel)
   .refine AL (fun i=>?_) fun i=>?_
    .refine ⟨?_,AD.refl _⟩
     .subst i;exact congrArg (Value.int IntKind.i64) (by decide +kernel)
    .refine AL (fun j=>?_) fun j=>?_
     .refine iY ⟨?_,AD.refl _⟩
      .subst j;exact congrArg (Value.int IntKind.i64) (by decide +kernel)
     .refine AL (fun k=>?_) fun k=>?_
      .refine iY ⟨?_,AD.refl _⟩
       .subst k;exact congrArg (Value.int IntKind.i64) (by decide +kernel)
      .refine AL (fun l=>?_) fun l=>?_
       .refine iY ⟨?_,AD.refl _⟩
        .subst l;exact congrArg (Value.int IntKind.i64) (by decide +kernel)
       .refine AL (fun m=>?_) fun m=>?_
        .refine iY ⟨?_,AD.refl _⟩
         .subst m;exact congrArg (Value.int IntKind.i64) (by decide +kernel)
        .refine AL (fun n=>?_) fun n=>?_
         .refine ⟨?_,AD.refl _⟩
          .subst n;exact congrArg (Value.int IntKind.i64) (by decide +kernel)
         .refine AL (fun b=>?_) fun b=>?_
          .refine iY ⟨?_,AD.refl _⟩
           .subst b;exact congrArg (Value.int IntKind.i64) (by decide +kernel)
          .refine AL (fun c=>?_) fun c=>?_
           .refine ⟨?_,AD.refl _⟩
            .subst c;exact congrArg (Value.int IntKind.i64) (by decide +kernel)
           .refine AL (fun d=>?_) fun d=>?_
            .refine iY ⟨?_,AD.refl _⟩
             .subst d;exact congrArg (Value.int IntKind.i64) (by decide +kernel)
            .refine AL (fun e=>?_) fun e=>?_
             .refine ⟨?_,AD.refl _⟩
              .subst e;exact congrArg (Value.int IntKind.i64) (by decide +kernel)
             .refine AL (fun f=>?_) fun f=>?_
              .refine ⟨?_,AD.refl _⟩
               .subst f;exact congrArg (Value.int IntKind.i64) (by decide +kernel)
              .refine ⟨?_,AD.refl _⟩
               .rw [if_neg (ZY a g h i j k l m n b c d e f)];rfl
theorem TG (t:ByteArray) (w:World):Dq 94 [.string t] w (fun v w'=>((Go.M.deskWordsM.any fun x=>decide (x=t))=true->v = .string (bs (BW t)))/\AD w w'):=by
 refine oV Tryz.func94 ?_;conv=>whnf
 refine AL (fun a=>?_) fun a=>?_
 .refine iY ⟨?_,AD.refl _⟩
  .subst a;exact fun _=>congrArg Value.string (by decide +kernel)
 .refine AL (fun e=>?_) fun e=>?_
  .refine iY ⟨?_,AD.refl _⟩
   .subst e;exact fun _=>congrArg Value.string (by decide +kernel)
  .refine AL (fun f=>?_) fun f=>?_
   .refine ⟨?_,AD.refl _⟩
    .subst f;exact fun _=>congrArg Value.string (by decide +kernel)
   .refine AL (fun g=>?_) fun g=>?_
    .refine ⟨?_,AD.refl _⟩
     .subst g;exact fun _=>congrArg Value.string (by decide +kernel)
    .refine AL (fun h=>?_) fun h=>?_
     .refine iY ⟨?_,AD.refl _⟩
      .subst h;exact fun _=>congrArg Value.string (by decide +kernel)
     .refine AL (fun i=>?_) fun i=>?_
      .refine ⟨?_,AD.refl _⟩
       .subst i;exact fun _=>congrArg Value.string (by decide +kernel)
      .refine AL (fun j=>?_) fun j=>?_
       .refine iY ⟨?_,AD.refl _⟩
        .subst j;exact fun _=>congrArg Value.string (by decide +kernel)
       .refine AL (fun k=>?_) fun k=>?_
        .refine ⟨?_,AD.refl _⟩
         .subst k;exact fun _=>congrArg Value.string (by decide +kernel)
        .refine AL (fun l=>?_) fun l=>?_
         .refine ⟨?_,AD.refl _⟩
          .subst l;exact fun _=>congrArg Value.string (by decide +kernel)
         .refine AL (fun b=>?_) fun b=>?_
          .refine ⟨?_,AD.refl _⟩
           .subst b;exact fun _=>congrArg Value.string (by decide +kernel)
          .refine AL (fun c=>?_) fun c=>?_
           .refine ⟨?_,AD.refl _⟩
            .subst c;exact fun _=>congrArg Value.string (by decide +kernel)
           .refine AL (fun d=>?_) fun d=>?_
            .refine ⟨?_,AD.refl _⟩
             .subst d;exact fun _=>congrArg Value.string (by decide +kernel)
            .refine ⟨?_,AD.refl _⟩
             .exact fun m=>aB8 m a e f g h i j k l b c d
theorem TF (t:ByteArray) (w:World):Dq 55 [.string t] w (fun v w'=>v = .int .i64 (DZ t)/\AD w w'):=by
 refine oV Tryz.func55 ?_;refine bS BI (vs:=[Value.string { data := #[115,111,114,116] },Value.string { data := #[109,101,114,103,101] },Value.string { data := #[109,97,116,99,104] },Value.string { data := #[114,101,115,116] },Value.string { data := #[115,101,108,101,99,116] },Value.string { data := #[102,105,114,115,116] },Value.string { data := #[116,111,116,97,108] }]) ?_;intro h m q af i f;have g:=AG (n:=7) (enc:=eS) (xs:=[{ data := #[115,111,114,116] },{ data := #[109,101,114,103,101] },{ data := #[109,97,116,99,104] },{ data := #[114,101,115,116] },{ data := #[115,101,108,101,99,116] },{ data := #[102,105,114,115,116] },{ data := #[116,111,116,97,108] }]) AQ f q rfl dE;have o:A4 eS 1 m (some ⟨h,0,none⟩) 7 FG:=g.own.arr AQ;refine lR [0,3,4] (fun (a:Nat) y w'=>y=[.string t,.slice (some ⟨h,0,none⟩) 7 7,.int .i64 a]/\a<=7/\(∀ b∈FG.take a,¬ b=t)/\AD m w') (fun a=>7 - a) 0 ⟨rfl,om,sI,AD.refl _⟩ ?_;rintro a aa _ ah ⟨rfl,ab,j,d⟩;have ac:FG.length=7:=rfl;rcases Nat.lt_or_ge a 7 with u | u
 .obtain ⟨b,c⟩:=AA (l:=FG) (k:=a) om;have ad:=fun e:b=t=>Zs (e▸c);have ae:=fun e:¬ b=t=>GN c j e;generalize FG=p at *;clear g f;refine iY<|jI (o.ext d) a rfl c ?_;rintro z ag ⟨⟩ s;refine jO s rfl<|AL (fun r=>?_) fun r=>?_
  .exact jP (((a+1:Nat):Int)) ⟨by simp [*],(xt i d)⟩
  .exact jP (((a+1:Nat):Int)) ⟨a+1,om,rfl,om,by simp_all,d⟩
 .obtain rfl:a=7:=om
  have x:=Zr (t:=t) (fun b c=>j b (by rw [List.take_of_length_le om];exact c));rw [x];generalize FG=p at *;exact ⟨rfl,(xt i d)⟩
theorem El (h:Ar Aa w a n xs) (f:AF):Dq 166 [.slice a n c,.agg ⟨f.enc⟩] w (fun v w'=>∃ a' n' c',v = .tuple #[.slice a' n' c',.int .i64 (Bn xs f).2]/\Ad w.heap.size a'/\Bw eS w' a' n' 9 ((Bn xs f).1.map Cd)/\AD w w'):=by
 have b':=h.len;have b9:=h.le;have be:=h;obtain ⟨au,ao,bf⟩:=be;have b8:=ao.len;cases ae:Ax xs
 .rw [Ii ae];refine oV Tryz.func166 ?_;refine AB.box fun b2 a2 b5 cf u bx=>(DQ (h.ext u)).mono ?_;rintro _ cm ⟨rfl,j⟩;refine iT ?_;exact ⟨_,_,_,rfl,Ad.nil,Bw.nil,(xt u j)⟩
 .cases ah:AR f (AJ xs)
  .rw [Hn ae ah];refine oV Tryz.func166 ?_;refine AB.box ?_;intro aw bt bd bm j z;refine dM (DQ (h.ext j)) fun bu m=>?_;refine iF ?_;refine dH (pB [0,3,5,7,9]) fun bv e=>dA (n:=2) (z.ext m).cells rfl ?_;refine dM (EE (h.ext (xt (xt j m) e))) fun bw o=>⟨(xt e o),?_⟩;exact dM (Cg _ _ _) fun aj s=>⟨(xt (xt e o) s),iT ⟨_,_,_,rfl,Ad.nil,Bw.nil,(xt (xt (xt (xt j m) e) o) s)⟩⟩
  .have bh:=Ah ae;refine oV Tryz.func166 ?_;refine AB.box ?_;intro aw bt bd bm j z;refine dM (DQ (h.ext j)) fun bu m=>?_;refine iF ?_;refine dH (pB [0,3,5,7,9]) fun bv e=>dA (n:=2) (z.ext m).cells rfl ?_;refine dM (EE (h.ext (xt (xt j m) e))) fun bw o=>⟨(xt e o),?_⟩;refine dM (Cg _ _ _) fun aj s=>⟨(xt (xt e o) s),iF<|bS BI (vs:=[]) ?_⟩;intro b0 ci bb cd ba a4;have a6:=Ab (enc:=eS) AQ a4 bb;have av:AD w aj:=xt (xt (xt (xt j m) e) o) s;refine lR [0,3,6,7] (fun (b:Nat) bp w'=>∃ ak al,bp=[.slice a n c,.pointer (some ⟨aw,0,none⟩),.slice ak b al,.int .i64 b]/\b<=n/\(∀ g c,g<b->xs[g]? = some c->Dd (AZ c f)=true)/\Ai eS 1 aj.heap.size 9 w' ak b al (((xs.take b).map (AS f)).map Cd)/\AD aj w') (fun b=>n - b) 0 ⟨_,_,rfl,om,fun g c a0=>by omega,a6,ba⟩ ?_;rintro b b4 _ cj ⟨ak,al,rfl,b7,az,x,ac⟩;have y:=xt av ac;have cg:=x.len;rcases Nat.lt_or_ge b n with bj | bj
   .obtain ⟨ax,aq⟩:=AA (l:=au) (k:=b) om;obtain ⟨q,ag,aa⟩:=bf.get aq;have a1:=bh.2 q (List.mem_of_getElem? ag);have ca:=Br a1.1;have ar:AR f q.length=true:=by rw [a1.2];exact ah
    have b6:=BV ar;have a3:=aa.1;have cb:=a3.len;cases ad:Dd (AZ q f)
    .rw [Y5 ae ah ag ad];have an:∀ i r t,AD w i->AK i r t (eH ax)->Dq 236 [.pointer (some ⟨r,t,none⟩),.agg ⟨f.enc⟩] i (fun v w'=>∃ ai,v = .tuple #[.string ai,.bool false]/\AD i w'):=fun i r t ab p=>(Ny ⟨aa.1.ext ab,aa.2⟩ p ar om).mono (by
      rintro _ a2 ⟨ai,rfl,_,u⟩;rw [ad];exact ⟨ai,rfl,u⟩)
     refine iY<|dH (pB [0,2,4,7,9,11,12,14,17,19]) fun bq d=>dI (ao.ext y) b rfl aq fun a9 bo bg ap=>jA (n:=2) (z.ext (xt (xt (xt (xt (xt m e) o) s) ac) d)).cells rfl ⟨d,(an _ _ _ (xt y d) (ap.ext d)).mono ?_⟩;rintro _ br ⟨ch,rfl,ay⟩;exact ⟨(xt d ay),⟨_,_,_,rfl,Ad.nil,Bw.nil,(xt (xt y d) ay)⟩⟩
    .have bl:((xs.take (b+1)).map (AS f)).map Cd=((xs.take b).map (AS f)).map Cd++[Cd (AS f q)]:=by rw [List.take_add_one,ag];simp
     have an:∀ i r t,AD w i->AK i r t (eH ax)->Dq 236 [.pointer (some ⟨r,t,none⟩),.agg ⟨f.enc⟩] i (fun v w'=>v = .tuple #[.string (Cd (AS f q)),.bool true]/\AD i w'):=fun i r t ab p=>(Ny ⟨aa.1.ext ab,aa.2⟩ p ar om).mono (by
      rintro _ a2 ⟨ai,rfl,au,u⟩;rw [ad,au ad];exact ⟨rfl,u⟩)
     have bk:∀ g c,g<b+1->xs[g]? = some c->Dd (AZ c f)=true:=fun g c a0 p=>by
      by_cases ab:g=b
      .subst ab;rw [ag] at p;cases p;exact ad
      .exact az g c om p
     refine iY<|dH (pB [0,2,4,7,9,11,12,14,17,19]) fun bq d=>dI (ao.ext y) b rfl aq fun a9 bo bg ap=>jA (n:=2) (z.ext (xt (xt (xt (xt (xt m e) o) s) ac) d)).cells rfl ⟨d,dM (an _ _ _ (xt y d) (ap.ext d)) fun ck af=>⟨(xt d af),bS BI (vs:=[Value.string (Cd (AS f q))]) ?_⟩⟩;intro b1 br bc ce am a5;have a7:=AG (n:=1) (enc:=eS) (xs:=[Cd (AS f q)]) AQ a5 bc rfl dE;refine AM (enc:=eS) BI AQ (x.ext (xt (xt d af) am)) (a7.own.arr AQ) (by intro q _;simp [eS,AE]) om om (Below.size (xt (xt (xt ac d) af) am)) fun bz b3 cl a8 bn cc=>jP (((b+1:Nat):Int)) ⟨b+1,om,_,_,rfl,om,bk,?_,(xm (xt (xt (xt ac d) af) am) bn (AO x.new))⟩
     .rw [bl];exact a8
   .obtain rfl:b=n:=om
    have bi:=NQ ae ah (Z9 (fun g c a0 p=>az g c om p));rw [bi];rw [List.take_of_length_le om] at x;exact iN ⟨_,_,_,rfl,(x.new.mono (Below.size av)),x.own,y⟩
theorem Jp (h:A4 eS 1 w a n (ks.map Cd)) (hK:∀ k∈ks,GO L k) (hL:L<=1000) (hn40:n<=40) :
  Dq 167 [.slice a n c] w (fun v w'=>∃ a' c',v = .slice a' n c'/\Ad w.heap.size a'/\Bw eI w' a' n 2 (Dj ks L)/\AD w w'):=by
 have a5:=h.len;rw [List.length_map] at a5;have ap:∀ k∈ks,k.length=L:=fun k u=>(hK k u).1;refine oV Tryz.func167 ?_;refine bS B5 (vs:=[]) ?_;intro cf c2 bm cy bl bc;have bf:=Ab (enc:=eI) AI bc bm;refine lR [0,3,4] (fun (k:Nat) aw w'=>∃ (ac:Option Addr) (ad:Nat) (i:List Int),aw=[.slice a n c,.slice ac k ad,.int .i64 k]/\k<=n/\YQ ks L k i/\Ai eI 1 w.heap.size 2 w' ac k ad i/\AD w w') (fun k=>n - k) 0 ⟨_,_,[],rfl,om,YQ.nil _ _,bf,bl⟩ ?_;rintro k co _ ax ⟨ac,ad,i,rfl,u,ag,f,a3⟩;have c1:=f.len;have cr:=f.le.1;rcases Nat.lt_or_ge k n with bt | bt
 .obtain ⟨ai,ah⟩:=AA (l:=ks) (k:=k) om;have a6:=Ep ah;have b3:=hK ai (List.mem_of_getElem? ah);refine iY<|lR [0,3,4,5] (fun (d:Nat) aw w'=>aw=[.slice a n c,.slice ac k ad,.int .i64 k,.int .i64 d]/\d<=k/\(∀ q t g,d<=q->i[q]? = some t->ks[t.toNat]? = some g->CT ai g<0)/\AD ax w') (fun d=>d) k ⟨rfl,om,fun q t g bv s z=>by have:=(List.getElem?_eq_some_iff.1 s).1;omega,AD.refl _⟩ ?_;rintro d cp _ c3 ⟨rfl,cs,ak,m⟩;have o:=xt a3 m;rcases Nat.eq_zero_or_pos d with rfl | ct
  .have ao:=ag.ins ap (Nat.zero_le _) ah ak (.inl rfl);refine dH (pB [1,3,5,6,8,10,12,14,16,19,21,23,25,27,29,31,33,35]) fun a8 b=>HP (k' := .i64) kR ((f.ext (xt m b)).own.arr AI) (0) om om (.inr (by rfl)) fun ba=>(Js ba om).mono ?_;rintro _ c4 ⟨b8,ci,rfl,aa,ae⟩;refine bS B5 (vs:=[Value.int IntKind.i64 ↑k]) ?_;intro cg c5 bn cz e bd;have bg:=AG (n:=1) (enc:=eI) (xs:=[↑k]) AI bd bn rfl dE;refine Dw (enc:=eI) B5 AI (aa.ext e) (bg.own.arr AI) (by intro g _;simp [eI,AE]) om om (Below.size (xt ae e)) fun b' ck a9 ay au cu=>AB.slice (k := .i64) (k' := .i64) kR ((f.ext (xm (xt (xt (xt m b) ae) e) au (fun k u=>Nat.le_trans (Below.size (xt m b)) (AO aa.new k u)))).own.arr AI) (0) (k) om om om (.inr (by rfl)) (.inl ⟨rfl,rfl⟩) fun ca aj=>AM (enc:=eI) B5 AI ay aj (by intro g _;simp [eI,AE]) om om (Below.size (xm (xt ae e) au (AO aa.new))) ?_;intro cb cl c6 az bz cv;rw [show 1+(k - 0)=k+1 by omega] at az ⊢;refine jP (((k+1:Nat):Int)) ⟨k+1,om,_,_,i.take 0++[(k:Int)]++i.drop 0,rfl,om,ao,(az.base (Below.size (xt o b))).eq_ ?_,xm (xm (xt (xt (xt o b) ae) e) au (fun p r=>Nat.le_trans (Below.size (xt o b)) (AO aa.new p r))) bz (fun p r=>Nat.le_trans (Below.size (xt o b)) (AO ay.new p r))⟩;rw [List.take_of_length_le (l:=i.drop 0) (by rw [List.length_drop];omega)];try rfl
  .obtain ⟨d,rfl⟩:∃ bw,d=bw+1:=⟨d - 1,om⟩;obtain ⟨t,s⟩:=AA (l:=i) (k:=d) om;obtain ⟨p,rfl,r⟩:=ag.at s;obtain ⟨g,z⟩:=AA (l:=ks) (k:=p) om;have a7:=Ep z;have b4:=hK g (List.mem_of_getElem? z);have a2:=fun b5=>G8 b3 b4 b5 hL;by_cases a4:CT ai g<0
   .have bu:∀ q t g,d<=q->i[q]? = some t->ks[t.toNat]? = some g->CT ai g<0:=fun q b7 b6 bv ar aq=>by
     by_cases bk:q=d
     .subst bk;rw [s] at ar;cases ar
      rw [Int.toNat_natCast,z] at aq;cases aq
      exact a4
     .exact ak q b7 b6 om ar aq
    refine dH (pB [1,3,5,6,8,10,12,14,16,19,21,23,25,27,29,31,33,35]) fun a8 b=>iY<|dI (h.ext o) k rfl a6 fun bi b1 bq al=>dO al rfl<|AB.sub (((d:Nat):Int)) om om om ⟨b,?_⟩;obtain ⟨x,rfl⟩:=((f.ext (xt m b)).own).some om;have bp:w.heap.size<=x:=f.new _ rfl;have bx:x<ax.heap.size:=f.lt _ rfl;refine jW (sz:=1) d rfl om ?_;have am:=AT AI (f.ext (xt m b)).own s;exact ⟨b,jO am rfl ⟨b,jI (h.ext (xt o b)) p rfl a7 fun bj b2 br an=>⟨b,jO an rfl ⟨b,dM (a2 _) fun a9 e=>⟨(xt b e),iY<|AB.sub (((d:Nat):Int)) om om om ⟨d,om,rfl,om,bu,xt m (xt b e)⟩⟩⟩⟩⟩⟩
   .have ao:=ag.ins ap (j:=d+1) om ah ak (.inr ⟨_,g,s,by rw [Int.toNat_natCast];exact z,a4⟩);refine dH (pB [1,3,5,6,8,10,12,14,16,19,21,23,25,27,29,31,33,35]) fun a8 b=>iY<|dI (h.ext o) k rfl a6 fun bi b1 bq al=>dO al rfl<|AB.sub (((d:Nat):Int)) om om om ⟨b,?_⟩;obtain ⟨x,rfl⟩:=((f.ext (xt m b)).own).some om;have bp:w.heap.size<=x:=f.new _ rfl;have bx:x<ax.heap.size:=f.lt _ rfl;refine jW (sz:=1) d rfl om ?_;have am:=AT AI (f.ext (xt m b)).own s;refine ⟨b,jO am rfl ⟨b,jI (h.ext (xt o b)) p rfl a7 fun bj b2 br an=>⟨b,jO an rfl ⟨b,dM (a2 _) fun a9 e=>⟨(xt b e),iN<|HP (k' := .i64) kR ((f.ext (xt (xt m b) e)).own.arr AI) (d+1) om om (.inr (by rfl)) fun aj=>(Js aj om).mono ?_⟩⟩⟩⟩⟩;rintro _ c7 ⟨b9,cj,rfl,ab,af⟩;refine bS B5 (vs:=[Value.int IntKind.i64 ↑k]) ?_;intro ch c8 bo c0 y be;have bh:=AG (n:=1) (enc:=eI) (xs:=[↑k]) AI be bo rfl dE;refine AM (enc:=eI) B5 AI (ab.ext y) (bh.own.arr AI) (by intro g _;simp [eI,AE]) om om (Below.size (xt af y)) fun cc cm c9 a0 av cw=>AB.slice (k := .i64) (k' := .i64) kR ((f.ext (xm (xt (xt (xt (xt m b) e) af) y) av (fun k u=>Nat.le_trans (Below.size (xt (xt m b) e)) (AO ab.new k u)))).own.arr AI) (d+1) (k) om om om (.inr (by rfl)) (.inl ⟨rfl,rfl⟩) fun cd bb=>AM (enc:=eI) B5 AI a0 bb (by intro g _;simp [eI,AE]) om om (Below.size (xm (xt af y) av (AO ab.new))) ?_;intro ce cn da a1 b0 cx;rw [show d+1+1+(k - (d+1))=k+1 by omega] at a1 ⊢;refine jP (((k+1:Nat):Int)) ⟨k+1,om,_,_,i.take (d+1)++[(k:Int)]++i.drop (d+1),rfl,om,ao,(a1.base (Below.size (xt (xt o b) e))).eq_ ?_,xm (xm (xt (xt (xt (xt o b) e) af) y) av (fun p r=>Nat.le_trans (Below.size (xt (xt o b) e)) (AO ab.new p r))) b0 (fun p r=>Nat.le_trans (Below.size (xt (xt o b) e)) (AO a0.new p r))⟩;rw [List.take_of_length_le (l:=i.drop (d+1)) (by rw [List.length_drop];omega)];try rfl
 .obtain rfl:k=n:=om
  have cq:=YQ.done ap (P:=i) (by rw [a5];exact ag);exact iN ⟨_,_,rfl,f.new,by simpa [List.take_add_one,-List.take_append_getElem, *] using f.own,a3⟩
theorem Cz (h:A4 eS 1 w a n (ks.map Cd)) (hK:∀ k∈ks,GO L k) (hL:L<=1000) (hn40:n<=40) :
  Dq 329 [.slice a n c] w (fun v w'=>∃ k:Int,v = .int .i64 k/\(k<0↔KO ks)/\AD w w'):=by
 have ag:=h.len;rw [List.length_map] at ag;refine oV Tryz.func329 ?_;refine lR [0,3] (fun (k:Nat) ao w'=>ao=[.slice a n c,.int .i64 k]/\1<=k/\(k<=n\/k=1)/\(∀ (b:Nat) (e f:List Int),b+1<k->ks[b]? = some e->ks[b+1]? = some f->¬ CT f e<0)/\AD w w') (fun k=>n - k) 1 ⟨rfl,om,.inr rfl,fun b e f ae=>by omega,AD.refl _⟩ ?_;rintro k av _ az ⟨rfl,ax,aw,t,g⟩;rcases Nat.lt_or_ge k n with af | af
 .obtain ⟨k,rfl⟩:∃ b,k=b+1:=⟨k - 1,om⟩;obtain ⟨e,j⟩:=AA (l:=ks) (k:=k) om;obtain ⟨f,i⟩:=AA (l:=ks) (k:=k+1) om;have x:=Ep j;have y:=Ep i;have al:=hK e (List.mem_of_getElem? j);have am:=hK f (List.mem_of_getElem? i);have s:=fun an=>G8 am al an hL;by_cases u:CT f e<0
  .have ai:¬ KO ks:=fun h=>h k e f j i u;refine iY<|dH (pB [0,2,4,6,8,11,13,15,17,19,21]) fun ap d=>dI (h.ext g) (k+1) rfl y fun z aj ac o=>dO o rfl<|AB.sub (((k:Nat):Int)) om om om ⟨d,jI (h.ext (xt g d)) k rfl x fun aa ak ad p=>⟨d,jO p rfl ⟨d,dM (s _) fun aq m=>⟨(xt d m),iY ⟨_,rfl,?_,(xt (xt g d) m)⟩⟩⟩⟩⟩
   .exact ⟨fun h=>by omega,fun h=>absurd h ai⟩
  .have ah:∀ (b:Nat) (e f:List Int),b+1<k+1+1->ks[b]? = some e->ks[b+1]? = some f->¬ CT f e<0:=fun b ar au ae q r=>by
    by_cases ab:b=k
    .subst ab;rw [j] at q;rw [i] at r;cases q
     cases r
     exact u
    .exact t b ar au om q r
   exact iY<|dH (pB [0,2,4,6,8,11,13,15,17,19,21]) fun ap d=>dI (h.ext g) (k+1) rfl y fun z aj ac o=>dO o rfl<|AB.sub (((k:Nat):Int)) om om om ⟨d,jI (h.ext (xt g d)) k rfl x fun aa ak ad p=>⟨d,jO p rfl ⟨d,dM (s _) fun aq m=>⟨(xt d m),iN<|jP (((k+1+1:Nat):Int)) ⟨k+1+1,om,rfl,om,.inl om,ah,xt g (xt d m)⟩⟩⟩⟩⟩
 .have ay:KO ks:=fun b e f j i=>t b e f (by have:=(List.getElem?_eq_some_iff.1 i).1;omega) j i;exact iN ⟨_,rfl,by simp [*],g⟩
theorem HF (h:Ar Aa w a n xs) (hn2:n<=1000) (hx:∀ x∈xs,x.length<=1000) :
  Dq 92 [.slice a n c] w (fun v w'=>∃ a' c',v = .slice a' n c'/\n<=c'/\BZ A0 w.heap.size 144 w' a' n c' xs/\Ad w.heap.size a'/\AD w w'):=by
 have a8:=h.len;have a7:=h.le;obtain ⟨ar,y,am⟩:=h;have a6:=y.len;refine oV Tryz.func92 ?_;refine bS Bm (vs:=[]) ?_;intro ai ay al bd ak ad;have ag:BZ A0 w.heap.size 144 ay (some ⟨ai,0,none⟩) 0 0 []:=EL ad al;refine lR [0,3,4] (fun (b:Nat) aw w'=>∃ m p,aw=[.slice a n c,.slice m b p,.int .i64 b]/\b<=n/\BZ A0 w.heap.size 144 w' m b p (xs.take b)/\AD w w') (fun b=>n - b) 0 ⟨_,_,rfl,om,by simpa using ag,ak⟩ ?_;rintro b a2 _ bf ⟨m,p,rfl,a5,d,g⟩;rcases Nat.lt_or_ge b n with aq | aq
 .obtain ⟨f,z⟩:=AA (l:=ar) (k:=b) om;obtain ⟨ab,aa,r⟩:=am.get z;have ba:=r.1.len;have a9:=hx ab (List.mem_of_getElem? aa);have an:∀ e o q,AD w e->AK e o q (eH f)->Dq 161 [.pointer (some ⟨o,q,none⟩)] e (fun v w'=>∃ (a':Option Addr) (c':Nat),v = .agg #[.slice a' f.n c']/\Ai eI 1 e.heap.size 2 w' a' f.n c' ab/\AD e w'):=fun e o q aj ap=>Eg ap (r.1.ext aj) om;refine iY<|jI (y.ext g) b rfl z fun a0 be a4 ao=>(an _ _ _ g ao).mono ?_;rintro _ bg ⟨s,t,rfl,i,u⟩;refine AB.buildSlice Bm (vs:=[Value.agg ⟨eH ⟨s,f.n,t⟩⟩]) (by rfl) (by rfl) (by simp [Value.cells,eH]) dE ?_;intro ah ax a3 bc j ac;have ae:AK ax ah 0 (eH ⟨s,f.n,t⟩):=ac.cells;have au:=Below.size g;refine CX Bm rfl d au (xt u j) (Fg ((i.ext j).own) i.le.1) (Dr i.new (fun x hx=>Nat.lt_of_lt_of_le (i.lt x hx) j.size)) ae om om fun az a1 bh af av bb=>jP (((b+1:Nat):Int)) ⟨b+1,om,_,_,rfl,om,by rw [List.take_add_one,aa];exact af,xm (xt (xt g u) j) av (AO (BZ.new d))⟩
 .obtain rfl:b=n:=om
  rw [List.take_of_length_le om] at d;exact iN ⟨_,_,rfl,d.le.1,d,BZ.new d,g⟩
theorem Kv (h:Ar Aa w a n xs) (f:AF) :
  Dq 296 [.slice a n c,.agg ⟨f.enc⟩] w (fun v w'=>∃ a' m c',v = .tuple #[.slice a' m c',.int .i64 (Fy xs f).2]/\((Fy xs f).2=0->m<=c'/\D2 A0 w' w.heap.size w'.heap.size a' m 144 (Fy xs f).1)/\AD w w'):=by
 have bn:=h.len;have cn:=h.le;have r:∀ d,AD w d->Dq 166 [.slice a n c,.agg ⟨f.enc⟩] d (fun v w'=>∃ a' au c',v = .tuple #[.slice a' au c',.int .i64 (Bn xs f).2]/\Ad d.heap.size a'/\Bw eS w' a' au 9 ((Bn xs f).1.map Cd)/\AD d w'):=fun d aa=>El (h.ext aa) f;by_cases e:(Bn xs f).2=0
 .obtain ⟨ab,an,bl,ao⟩:=NP e;have ac:Fy xs f=(KR xs f,0):=by unfold Fy;rw [if_neg om]
  rw [ac];have am:=Ah ab;have ch:=am.1;have bo:=HO ab an bl;have ck:=BV an;have bk:CF f<=1000:=by unfold CF;have:=EU ab;omega
  have bp:=LR (xs.map (AS f)) (CF f);rw [List.length_map] at bp;have co:=TU xs f;rw [ao] at r;dsimp only at r;obtain ⟨bq,ak,bf⟩:=h;have cm:=ak.len;refine oV Tryz.func296 ?_;refine AB.box ?_;intro a5 bz bd bv i t;refine jA (n:=2) t.cells rfl<|(r _ i).mono ?_;rintro _ cz ⟨b8,cv,cc,rfl,b3,af,a9⟩;have ap:=af.arr AQ |>.len;rw [List.length_map,List.length_map,bn] at ap;subst ap;refine (Jp (af.arr AQ) bo bk om).mono ?_;rintro _ ae ⟨a4,a8,rfl,b4,a3,ba⟩;have ax:=a3.arr AI;have u:=xt (xt i a9) ba;refine bS Bm (vs:=[]) ?_;intro a7 av be ct bc az;have a2:BZ A0 ae.heap.size 144 av (some ⟨a7,0,none⟩) 0 0 []:=EL az be;refine lR [0,8,9,10] (fun (b:Nat) bx w'=>∃ x z,bx=[.slice a n c,.slice a4 n a8,.slice x b z,.int .i64 b]/\b<=n/\BZ A0 ae.heap.size 144 w' x b z ((KR xs f).take b)/\AD ae w') (fun b=>n - b) 0 ⟨_,_,rfl,om,by simpa using a2,bc⟩ ?_;rintro b cf _ cy ⟨x,z,rfl,ao,j,o⟩;rcases Nat.lt_or_ge b n with bm | bm
  .obtain ⟨c2,e⟩:=AA (l:=Dj (xs.map (AS f)) (CF f)) (k:=b) om;obtain ⟨ar,rfl,cl⟩:=NB e;obtain ⟨g,al⟩:=AA (l:=bq) (k:=ar) om;obtain ⟨aw,aq,ag⟩:=bf.get al;have bt:=W3 e aq;have cp:=Br (am.2 aw (List.mem_of_getElem? aq)).1;have cq:=ag.1.len;have bg:∀ d y ad,AD w d->AK d y ad (eH g)->Dq 161 [.pointer (some ⟨y,ad,none⟩)] d (fun v w'=>∃ (a':Option Addr) (c':Nat),v = .agg #[.slice a' g.n c']/\Ai eI 1 d.heap.size 2 w' a' g.n c' aw/\AD d w'):=fun d y ad aa bj=>Eg bj (ag.1.ext aa) om;have s:=xt u o;refine iY<|jI (ax.ext o) b rfl e fun b' cw ci bh=>jO bh rfl<|jI (ak.ext s) ar rfl al fun ca cx cj bi=>(bg _ _ _ s bi).mono ?_;rintro _ c0 ⟨ah,ai,rfl,p,aj⟩;refine AB.buildSlice Bm (vs:=[Value.agg ⟨eH ⟨ah,g.n,ai⟩⟩]) (by rfl) (by rfl) (by simp [Value.cells,eH]) dE ?_;intro a6 b0 cg cs q ay;have a0:AK b0 a6 0 (eH ⟨ah,g.n,ai⟩):=ay.cells;have br:=o.size;exact CX Bm rfl j br (xt aj q) (Fg ((p.ext q).own) p.le.1) (Dr p.new (fun b1 bu=>Nat.lt_of_lt_of_le (p.lt b1 bu) q.size)) a0 om om fun b9 cd c1 a1 bw cr=>jP (((b+1:Nat):Int)) ⟨b+1,om,_,_,rfl,om,by rw [bt];exact a1,xm (xt (xt o aj) q) bw (AO (BZ.new j))⟩
  .obtain rfl:b=n:=om
   rw [List.take_of_length_le om] at j;have s:=xt u o;exact iN ⟨_,_,_,rfl,fun _=>⟨j.le.1,j.ownN.wide (Below.size u) (Nat.le_refl _)⟩,s⟩
 .have ac:(Fy xs f).2=(Bn xs f).2:=by unfold Fy;rw [if_pos e]
  rw [ac];generalize (Bn xs f).2=ce at *;generalize (Bn xs f).1=b2 at *;refine oV Tryz.func296 ?_;refine AB.box ?_;intro a5 bz bd bv i t;refine jA (n:=2) t.cells rfl<|(r _ i).mono ?_;rintro _ av ⟨b7,cu,cb,rfl,b5,b6,bb⟩;exact iT ⟨_,_,_,rfl,om,(xt i bb)⟩
end Go.Proofs.YtalgenmoljcnmaaGreatDoor
