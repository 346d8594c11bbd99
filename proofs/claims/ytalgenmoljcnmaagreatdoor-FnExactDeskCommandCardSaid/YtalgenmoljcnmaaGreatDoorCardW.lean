/- Parts of the proof; no conditions of its own. -/
import Derived.Test.YtalgenmoljcnmaaGreatDoorRows
import Derived.Deep.DeepHandedRow
import Derived.Lib.LaidTab
import Derived.Stop.LaidErr
import Derived.Lay
import Derived.MakeChecks
import Derived.SevenTiedAt
import Derived.ChangeVars
import Derived.Shelf.Strconv.Itoa4
import Derived.Shelf.Strconv.ParseIntPublic10
import Derived.Shelf.Strconv.ErrVarParseInt
import Derived.Shelf.Strings.SplitShaped
import Derived.Shelf.Strings.OnBuilder
import Derived.Shelf.Strings.Cut
import Derived.Shelf.Small.Strs
import Derived.Shelf.Strings.Prefix
import Derived.Test.YtalgenmoljcnmaaGreatDoorModel
import Derived.Test.YtalgenmoljcnmaaGreatDoorStab
import Derived.Test.YtalgenmoljcnmaaGreatDoorFTotal
namespace Go.Proofs.YtalgenmoljcnmaaGreatDoor
open Go Go.RowKit Go.Vc Go.M
variable {w:World} {d:Hd} {xs:List Int} {a:Option Addr} {n c b o:Nat} {f:AE}
theorem PY (x:Int) (w:World):Dq 247 [.int .i64 x] w (fun v w'=>v = .bool (!Ey x 0 4095)/\AD w w'):=by
 refine oV Tryz.func247 ?_;refine (CD _ _ _ _).mono ?_;rintro _ _ ⟨rfl,rfl⟩;exact ⟨rfl,AD.refl _⟩
theorem Ut (a:Option Addr) (n c:Nat) (w:World):Dq 192 [.slice a n c] w (fun v w'=>v = .int .i64 n/\w=w'):=by
 refine oV Tryz.func192 ?_;exact ⟨rfl,rfl⟩
theorem C9 (d:Hd):Dq 122 [.agg ⟨eH d⟩] w (fun v w'=>v = .int .i64 d.n/\AD w w'):=by
 refine oV Tryz.func122 ?_;refine AB.box ?_;intro c g e f b a;refine jL a.cells (k:=0) rfl<|(Ut _ _ _ _).mono ?_;rintro _ _ ⟨rfl,rfl⟩;exact ⟨rfl,b⟩
theorem Ed (A:A4 eI 1 w d.a d.n xs):Dq 180 [.agg ⟨eH d⟩] w (fun v w'=>v = .bool (FA xs)/\AD w w'):=by
 have ab:=A.len;have m:∀ f,AD w f->∀ g,Dq 71 [.slice d.a d.n g,.func (.func 247) ⟨[]⟩ ⟨[]⟩] f (fun v w'=>v = .bool (xs.any (fun n=>!Ey n 0 4095))/\AD f w'):=fun f i g=>Dn (A.ext i) (p:=fun n=>!Ey n 0 4095) (cap:=[]) (fun y _ w' _=>PY y w');have aa:xs.any (fun n=>!Ey n 0 4095) = !(xs.all fun t=>Ey t 0 4095):=by rw [List.not_all_eq_any_not]
 unfold FA;by_cases z:1<=xs.length/\xs.length<=20
 .have r:Ey (d.n:Int) 1 20=true:=by simp [Ey];omega
  refine oV Tryz.func180 ?_;refine AB.box ?_;intro h u l s e c;refine jA (n:=1) c.cells rfl<|dM (C9 _) fun x b=>(CD _ _ _ _).mono ?_;rintro _ _ ⟨rfl,rfl⟩;refine iT ?_;refine jL (c.ext b).cells (k:=0) rfl ?_;exact dM (m _ (xt e b) _) fun ac j=>⟨by simp_all,(xt (xt e b) j)⟩
 .have r:Ey (d.n:Int) 1 20=false:=by
   cases o:Ey (d.n:Int) 1 20 with
   | false=>rfl
   | true=>have:=Bx o;omega
  have q:(decide (1<=xs.length) && decide (xs.length<=20))=false:=by
   rw [Bool.and_eq_false_iff,decide_eq_false_iff_not,decide_eq_false_iff_not];omega
  refine oV Tryz.func180 ?_;refine AB.box ?_;intro h u l s e c;refine jA (n:=1) c.cells rfl ?_;refine dM (C9 _) fun x b=>(CD _ _ _ _).mono ?_;rintro _ _ ⟨rfl,rfl⟩;refine iF ?_;refine ⟨?_,(xt e b)⟩
  .rw [q,Bool.false_and]
theorem Dy {xs:List (List Int)} (h:Ac AZ w a n xs):Dq 111 [.slice a n c] w (fun v w'=>v = .bool (A2 xs)/\AD w w'):=by
 have bc:=h.len;have bb:=h.le;obtain ⟨aj,s,ag⟩:=h;have ba:=s.len;refine oV Tryz.func111 ?_;refine lR [0,5,6,7] (fun (f:Nat) a3 w'=>a3=[.slice a n c,.slice a n c,.int .i64 n,.int .i64 f]/\f<=n/\(List.range f).all (IF xs)=true/\AD w w') (fun f=>n - f) 0 ⟨rfl,om,sI,AD.refl _⟩ ?_;rintro f a7 _ bh ⟨rfl,a9,ai,e⟩;rcases Nat.lt_or_ge f n with az | az
 .obtain ⟨o,y⟩:=AA (l:=aj) (k:=f) om;obtain ⟨a6,a0,aq⟩:=ag.get y;obtain ⟨av,ac⟩:=AA (l:=aj) (k:=0) om;obtain ⟨bi,a1,ar⟩:=ag.get ac;have x:=aq.1;have be:=x.len;have bf:=ar.1.len;have ab:=NP a0 a1;cases ad:FA a6
  .have ay:A2 xs=false:=Ib (k:=f) om (by simp [ab,ad]);exact iY<|jI (s.ext e) f rfl y fun ae al ah u=>jA (n:=1) u rfl<|jN (z := .agg #[.slice none 0 0]) fun af an m ak j t=>jS (vs:=[Value.slice o.a o.n o.c]) t rfl rfl (by simp [AM]) fun ao i q=>dH (pB [1,3,5,7,8,12,14,16,11,19,21,23]) fun ap b=>jA (n:=1) (q.ext b).cells rfl ⟨b,dM (Ed (x.ext (xt (xb (xt e j) i.but (nB e m)) b))) fun am g=>⟨(xt b g),iT ⟨by simp only [*],(xt (xt (xb (xt e j) i.but (nB e m)) b) g)⟩⟩⟩
  .by_cases bg:o.n=av.n
   .have bd:(List.range (f+1)).all (IF xs)=true:=by
     rw [List.range_succ,List.all_append,ai];simp [ab,ad];omega
    exact iY<|jI (s.ext e) f rfl y fun ae al ah u=>jA (n:=1) u rfl<|jN (z := .agg #[.slice none 0 0]) fun af an m ak j t=>jS (vs:=[Value.slice o.a o.n o.c]) t rfl rfl (by simp [AM]) fun ao i q=>dH (pB [1,3,5,7,8,12,14,16,11,19,21,23]) fun ap b=>jA (n:=1) (q.ext b).cells rfl ⟨b,dM (Ed (x.ext (xt (xb (xt e j) i.but (nB e m)) b))) fun am g=>⟨(xt b g),iF<|dA (n:=1) q.cells rfl<|dI (s.ext (xb (xt e j) i.but (nB e m))) 0 rfl ac fun au a2 ax aa=>dA (n:=1) aa rfl<|dM (C9 _) fun a4 p=>⟨(xt (xt b g) p),dM (C9 _) fun a5 r=>⟨(xt (xt (xt b g) p) r),iF<|jP (((f+1:Nat):Int)) ⟨f+1,om,rfl,om,om,(xt (xt (xt (xt (xb (xt e j) i.but (nB e m)) b) g) p) r)⟩⟩⟩⟩⟩
   .have ay:A2 xs=false:=Ib (k:=f) om (by simp [ab,ad];omega);refine iY<|jI (s.ext e) f rfl y fun ae al ah u=>jA (n:=1) u rfl<|jN (z := .agg #[.slice none 0 0]) fun af an m ak j t=>jS (vs:=[Value.slice o.a o.n o.c]) t rfl rfl (by simp [AM]) fun ao i q=>dH (pB [1,3,5,7,8,12,14,16,11,19,21,23]) fun ap b=>jA (n:=1) (q.ext b).cells rfl ⟨b,dM (Ed (x.ext (xt (xb (xt e j) i.but (nB e m)) b))) fun am g=>⟨(xt b g),iF<|dA (n:=1) q.cells rfl<|dI (s.ext (xb (xt e j) i.but (nB e m))) 0 rfl ac fun au a2 ax aa=>dA (n:=1) aa rfl<|dM (C9 _) fun a4 p=>⟨(xt (xt b g) p),dM (C9 _) fun a5 r=>⟨(xt (xt (xt b g) p) r),AW (fun aw=>?_) fun aw=>?_⟩⟩⟩⟩
    .exact ⟨by simp only [*],(xt (xt (xt (xt (xb (xt e j) i.but (nB e m)) b) g) p) r)⟩
    .exact jP (((f+1:Nat):Int)) ⟨f+1,om,rfl,om,om,(xt (xt (xt (xt (xb (xt e j) i.but (nB e m)) b) g) p) r)⟩
 .have a':f=n:=om
  have a8:A2 xs=decide ((n:Int)<=40):=by
   rw [Te (d:=xs) (by rw [show xs.length=f by omega];exact ai)];exact decide_eq_decide.2 om
  exact iN ⟨by simp only [*],e⟩
theorem Gr (A:A4 eI 1 w d.a d.n xs) (hc:AK w b o (eH d)):Dq 164 [.pointer (some ⟨b,o,none⟩)] w (fun v w'=>v = .bool (FA xs)/\AD w w'):=by
 have u:=A.len;have ad:=A.le;refine oV Tryz.func164 ?_;refine lR [0,3] (fun (e:Nat) y w'=>y=[.pointer (some ⟨b,o,none⟩),.int .i64 e]/\e<=d.n/\((xs.take e).all fun j=>Ey j 0 4095)=true/\AD w w') (fun e=>d.n - e) 0 ⟨rfl,om,sI,AD.refl _⟩ ?_;rintro e aa _ af ⟨rfl,ac,h,f⟩;rcases Nat.lt_or_ge e d.n with t | t
 .obtain ⟨z,g⟩:=AA (l:=xs) (k:=e) om;cases m:Ey z 0 4095
  .have ab:=ZF g m;refine jL (hc.ext f) (k:=0) rfl ?_;refine iY ?_;refine jL (hc.ext f) (k:=0) rfl ?_;refine jI (A.ext f) e rfl g ?_;intro q x r i;refine jO i rfl ?_;refine (Ev _ _ _ _).mono ?_;rintro _ _ ⟨rfl,rfl⟩;refine iT ?_;exact ⟨by simp only [*],f⟩
  .have ae:=aB3 (p:=fun j=>Ey j 0 4095) g h m;refine jL (hc.ext f) (k:=0) rfl ?_;refine iY ?_;refine jL (hc.ext f) (k:=0) rfl ?_;refine jI (A.ext f) e rfl g ?_;intro q x r i;refine jO i rfl ?_;refine (Ev _ _ _ _).mono ?_;rintro _ _ ⟨rfl,rfl⟩;refine iF ?_;refine jP (((e+1:Nat):Int)) ?_;exact ⟨e+1,om,rfl,om,om,f⟩
 .have s:=ZG (c:=xs) (by rw [List.take_of_length_le om] at h;exact h);rw [u] at s;refine jL (hc.ext f) (k:=0) rfl ?_;refine iN ?_;refine jL (hc.ext f) (k:=0) rfl ?_;refine (Ev _ _ _ _).mono ?_;rintro _ _ ⟨rfl,rfl⟩;exact ⟨by simp only [*],f⟩
theorem DW {xs:List (List Int)} (h:Ac AZ w a n xs):Dq 117 [.slice a n c] w (fun v w'=>v = .bool (A2 xs)/\AD w w'):=by
 have a3:=h.len;have a2:=h.le;obtain ⟨aa,i,x⟩:=h;have a1:=i.len;refine oV Tryz.func117 ?_;refine lR [0,3] (fun (e:Nat) av w'=>av=[.slice a n c,.int .i64 e]/\e<=n/\(List.range e).all (IF xs)=true/\AD w w') (fun e=>n - e) 0 ⟨rfl,om,sI,AD.refl _⟩ ?_;rintro e ax _ a8 ⟨rfl,az,z,g⟩;rcases Nat.lt_or_ge e n with ao | ao
 .obtain ⟨ai,j⟩:=AA (l:=aa) (k:=e) om;obtain ⟨aw,ap,ae⟩:=x.get j;obtain ⟨aj,s⟩:=AA (l:=aa) (k:=0) om;obtain ⟨a9,aq,af⟩:=x.get s;have o:=ae.1;have a5:=o.len;have a6:=af.1.len;have r:=NP ap aq;cases t:FA aw
  .have an:A2 xs=false:=Ib (k:=e) om (by simp [r,t]);exact iY<|dH (pB [0,3,5,7,9,11,12,14,16,18,20,22,25,27,29,31,33,35,37]) fun ac b=>jI (i.ext (xt g b)) e rfl j fun u ab y m=>⟨b,dM (Gr (o.ext (xt g b)) m) fun ad f=>⟨(xt b f),iT ⟨by simp only [*],(xt (xt g b) f)⟩⟩⟩
  .by_cases a7:ai.n=aj.n
   .have a4:(List.range (e+1)).all (IF xs)=true:=by
     rw [List.range_succ,List.all_append,z];simp [r,t];omega
    exact iY<|dH (pB [0,3,5,7,9,11,12,14,16,18,20,22,25,27,29,31,33,35,37]) fun ac b=>jI (i.ext (xt g b)) e rfl j fun u ab y m=>⟨b,dM (Gr (o.ext (xt g b)) m) fun ad f=>⟨(xt b f),iF<|dI (i.ext g) e rfl j fun ag ar al p=>dL p (k:=0) rfl<|jI (i.ext (xt (xt g b) f)) 0 rfl s fun ah au am q=>⟨(xt b f),jL q (k:=0) rfl ⟨(xt b f),⟨(xt b f),iF<|jP (((e+1:Nat):Int)) ⟨e+1,om,rfl,om,om,(xt (xt g b) f)⟩⟩⟩⟩⟩⟩
   .have an:A2 xs=false:=Ib (k:=e) om (by simp [r,t];omega);refine iY<|dH (pB [0,3,5,7,9,11,12,14,16,18,20,22,25,27,29,31,33,35,37]) fun ac b=>jI (i.ext (xt g b)) e rfl j fun u ab y m=>⟨b,dM (Gr (o.ext (xt g b)) m) fun ad f=>⟨(xt b f),iF<|dI (i.ext g) e rfl j fun ag ar al p=>dL p (k:=0) rfl<|jI (i.ext (xt (xt g b) f)) 0 rfl s fun ah au am q=>⟨(xt b f),jL q (k:=0) rfl ⟨(xt b f),⟨(xt b f),AW (fun ak=>?_) fun ak=>?_⟩⟩⟩⟩⟩
    .exact ⟨by simp only [*],(xt (xt g b) f)⟩
    .exact jP (((e+1:Nat):Int)) ⟨e+1,om,rfl,om,om,(xt (xt g b) f)⟩
 .have a0:e=n:=om
  have ay:A2 xs=decide ((n:Int)<=40):=by
   rw [Te (d:=xs) (by rw [show xs.length=e by omega];exact z)];exact decide_eq_decide.2 om
  exact iN ⟨by simp only [*],g⟩
theorem DX (f:AE) (n:Int) (w:World):Dq 208 [.agg ⟨f.enc⟩,.int .i64 n] w (fun v w'=>v = .bool (AR f n)/\AD w w'):=by
 unfold AR;refine oV Tryz.func208 ?_;refine AB.box ?_;intro e i g h b a;refine jL a.cells (k:=0) rfl<|AF (fun c=>?_) fun c=>?_
 .refine jL a.cells (k:=0) rfl<|jL a.cells (k:=1) rfl<|AF (fun d=>?_) fun d=>?_
  .exact jL a.cells (k:=1) rfl ⟨by simp [*],b⟩
  .exact ⟨by simp [*],b⟩
 .exact ⟨by simp [*],b⟩
theorem Ch (f:AE) (n:Int) (w:World):Dq 234 [.agg ⟨f.enc⟩,.int .i64 n] w (fun v w'=>v = .bool (AR f n)/\AD w w'):=by
 unfold AR;refine oV Tryz.func234 ?_;refine AB.box ?_;intro e i g h b a;refine jL a.cells (k:=0) rfl<|AF (fun c=>?_) fun c=>?_
 .refine jL a.cells (k:=0) rfl<|jL a.cells (k:=1) rfl<|AF (fun d=>?_) fun d=>?_
  .exact jL a.cells (k:=1) rfl ⟨by simp [*],b⟩
  .exact ⟨by simp [*],b⟩
 .exact ⟨by simp [*],b⟩
theorem H7 (hf:f.ok) {n:Int} (h0:0<=n) (hn:n<=1000) (w:World):Dq 284 [.agg ⟨f.enc⟩,.int .i64 n] w (fun v w'=>v = .bool (Ah f n)/\AD w w'):=by
 unfold Ah;cases g:AR f n
 .refine oV Tryz.func284 ?_;conv=>whnf
  exact AB.box fun d i e h c a=>jA (n:=2) a.cells rfl<|dM (DX _ _ _) fun j b=>iF ⟨rfl,(xt c b)⟩
 .have l:=Bc g;refine oV Tryz.func284 ?_;refine AB.box ?_;intro d i e h c a;refine jA (n:=2) a.cells rfl<|dM (DX _ _ _) fun j b=>?_;refine iT<|jL (a.ext b).cells (k:=1) rfl<|jL (a.ext b).cells (k:=0) rfl ?_;refine AB.sub _ rfl om om ?_;exact ⟨rfl,(xt c b)⟩
theorem DP {xs:List (List Int)} (h:Ac AZ w a n xs):Dq 209 [.slice a n c] w (fun v w'=>v = .int .i64 (AJ xs)/\AD w w'):=by
 have u:=h.len;have ad:=h.le;obtain ⟨i,d,g⟩:=h;have ac:=d.len;cases xs with
 | nil =>
  refine oV Tryz.func209 ?_;conv=>whnf
  refine AF (fun q=>?_) fun q=>?_
  .exact ⟨rfl,AD.refl _⟩
  .obtain ⟨an,k⟩:∃ b,i[0]? = some b:=AA om;obtain ⟨ap,ae,f⟩:=g.get k;have x:=f.1;have ah:=f.2;exact jI d 0 rfl k fun z aj ab s=>jA (n:=1) s rfl<|dM (C9 _) fun al p=>⟨by simp_all,p⟩
 | cons b af =>
  simp only [List.length_cons] at u;refine oV Tryz.func209 ?_;refine iN ?_;obtain ⟨am,j⟩:∃ b,i[0]? = some b:=AA om;obtain ⟨ao,l,e⟩:=g.get j;have m:=e.1;have ag:=e.2;refine jI d 0 rfl j fun y ai aa r=>jA (n:=1) r rfl<|dM (C9 _) fun ak o=>⟨?_,o⟩
  .have t:=m.len;simp at l;subst l;simp [AJ,t]
theorem EH {xs:List (List Int)} (h:Ac AZ w a n xs):Dq 235 [.slice a n c] w (fun v w'=>v = .int .i64 (AJ xs)/\AD w w'):=by
 have t:=h.len;have ac:=h.le;obtain ⟨i,d,g⟩:=h;have ab:=d.len;cases xs with
 | nil =>
  refine oV Tryz.func235 ?_;conv=>whnf
  refine AF (fun p=>?_) fun p=>?_
  .exact ⟨rfl,AD.refl _⟩
  .obtain ⟨ak,l⟩:∃ b,i[0]? = some b:=AA om;obtain ⟨am,ad,f⟩:=g.get l;have u:=f.1;have ag:=f.2;exact jI d 0 rfl l fun y ai aa r=>jL r (k:=0) rfl ⟨by simp_all,AD.refl _⟩
 | cons b ae =>
  simp only [List.length_cons] at t;refine oV Tryz.func235 ?_;refine iN ?_;obtain ⟨aj,j⟩:∃ b,i[0]? = some b:=AA om;obtain ⟨al,m,e⟩:=g.get j;have o:=e.1;have af:=e.2;refine jI d 0 rfl j fun x ah z q=>jL q (k:=0) rfl ⟨?_,AD.refl _⟩
  .have s:=o.len;simp at m;subst m;simp [AJ,s]
theorem CE (r:Int) (w:World):Dq 316 [.int .i64 r] w (fun v w'=>v = .int .i64 (CG r)/\AD w w'):=by
 refine oV Tryz.func316 ?_;conv=>whnf
 refine AF (fun a=>?_) fun a=>?_
 .refine ⟨?_,AD.refl _⟩
  .rw [Pz a]
 .refine AF (fun b=>?_) fun b=>?_
  .refine ⟨?_,AD.refl _⟩
   .rw [NQ b]
  .refine (CD _ _ _ _).mono ?_;rintro _ _ ⟨rfl,rfl⟩;refine BU (fun c=>?_) fun c=>?_
   .have d:=Bx c;refine AB.shl om ?_;refine ⟨?_,AD.refl _⟩
    .rw [Wj om om]
   .refine ⟨?_,AD.refl _⟩
    .rw [YJ a b c]
theorem Dt (r:Int) (w:World):Dq 232 [.int .i64 r] w (fun v w'=>v = .int .i64 (CG r)/\AD w w'):=by
 refine oV Tryz.func232 ?_;conv=>whnf
 refine AF (fun a=>?_) fun a=>?_
 .refine ⟨?_,AD.refl _⟩
  .rw [Pz a]
 .refine AF (fun b=>?_) fun b=>?_
  .refine ⟨?_,AD.refl _⟩
   .rw [NQ b]
  .refine (Ev _ _ _ _).mono ?_;rintro _ _ ⟨rfl,rfl⟩;refine BU (fun c=>?_) fun c=>?_
   .have d:=Bx c;refine As (k := .u64) kR kR (EZ om om) ?_
    refine AB.shl om ?_;refine ⟨?_,AD.refl _⟩
    .rw [Wj om om]
   .refine ⟨?_,AD.refl _⟩
    .rw [YJ a b c]
theorem Gb (m:Int) (w:World):Dq 321 [.int .i64 m] w (fun v w'=>v = .int .i64 (B6 m)/\AD w w'):=by
 refine oV Tryz.func321 ?_;refine lR [0,4] (fun (a:Nat) l w'=>l=[.int .i64 m,.int .i64 a]/\a<=10/\(∀ b:Nat,b<a->CG (b:Int)≠m)/\AD w w') (fun a=>10 - a) 0 ⟨rfl,om,fun b f=>by omega,AD.refl _⟩ ?_;rintro a o _ s ⟨rfl,p,e,d⟩;rcases Nat.lt_or_ge a 10 with h | h
 .by_cases g:CG (a:Int)=m
  .have k:=Tc h e g;exact iY<|dM (CE _ _) fun n c=>iY ⟨by simp only [*],(xt d c)⟩
  .have q:∀ b:Nat,b<a+1->CG (b:Int)≠m:=fun b f=>by
    rcases Nat.lt_succ_iff_lt_or_eq.1 f with j | rfl
    .exact e b j
    .exact g
   have r:¬ m=CG (a:Int):=fun i=>g i.symm;exact iY<|dM (CE _ _) fun n c=>iN<|jP (((a+1:Nat):Int)) ⟨a+1,om,rfl,om,om,(xt d c)⟩
 .have k:=O9 (m:=m) (fun b f=>e b om);exact iN ⟨by simp only [*],d⟩
theorem BN (m:Int) (w:World):Dq 294 [.int .i64 m] w (fun v w'=>v = .int .i64 (B6 m)/\AD w w'):=by
 refine oV Tryz.func294 ?_;refine lR [0,3] (fun (a:Nat) l w'=>l=[.int .i64 m,.int .i64 a]/\a<=10/\(∀ b:Nat,b<a->CG (b:Int)≠m)/\AD w w') (fun a=>10 - a) 0 ⟨rfl,om,fun b f=>by omega,AD.refl _⟩ ?_;rintro a o _ s ⟨rfl,p,e,d⟩;rcases Nat.lt_or_ge a 10 with h | h
 .by_cases g:CG (a:Int)=m
  .have k:=Tc h e g;exact iY<|dM (Dt _ _) fun n c=>iY ⟨by simp only [*],(xt d c)⟩
  .have q:∀ b:Nat,b<a+1->CG (b:Int)≠m:=fun b f=>by
    rcases Nat.lt_succ_iff_lt_or_eq.1 f with j | rfl
    .exact e b j
    .exact g
   have r:¬ m=CG (a:Int):=fun i=>g i.symm;exact iY<|dM (Dt _ _) fun n c=>iN<|jP (((a+1:Nat):Int)) ⟨a+1,om,rfl,om,om,(xt d c)⟩
 .have k:=O9 (m:=m) (fun b f=>e b om);exact iN ⟨by simp only [*],d⟩
theorem Iw (h:A4 eI 1 w a n xs) (hn:n<=1000000):Dq 248 [.slice a n c] w (fun v w'=>∃ a' c',v = .slice a' n c'/\Ab w.heap.size a'/\An eI 1 w.heap.size 2 w' a' n c' xs/\AD w w'):=by
 have m:=h.len;refine oV Tryz.func248 ?_;refine bS B3 (vs:=[]) ?_;intro k q g p b f;have d:=Ag (enc:=eI) AI f g;exact D0 (enc:=eI) B3 AI d (h.ext b) (by intro s _;simp [eI,AM]) om om (Below.size b) fun j l r e i o=>⟨_,_,rfl,e.new,e,(xm b i (AQ d.new))⟩
theorem JV (R:AZ w d xs) (hc:AK w b o (eH d)) (hf:AR f xs.length=true):Dq 241 [.pointer (some ⟨b,o,none⟩),.agg ⟨f.enc⟩] w (fun v w'=>∃ a' c',v = .slice a' (f.to_.toNat - f.from_.toNat) c'/\A4 eI 1 w' a' (f.to_.toNat - f.from_.toNat) (Ad xs f)/\f.to_.toNat - f.from_.toNat<=c'/\AD w w'):=by
 have g:=R.1;have p:=R.2;have t:=g.len;have n:=Bc hf;obtain ⟨j,l⟩:=f;simp only at n;obtain ⟨c,rfl⟩:∃ c:Nat,j=c:=⟨j.toNat,om⟩;obtain ⟨e,rfl⟩:∃ e:Nat,l=e:=⟨l.toNat,om⟩;unfold Ad;simp only [Int.toNat_natCast];refine oV Tryz.func241 ?_;refine AB.box fun r x s u a h=>BS A7 mixed kR kR ?_;refine dL (hc.ext a) (k:=0) rfl<|dL h.cells (k:=0) rfl<|dL h.cells (k:=1) rfl<|BQ.slice (k := .i64) (k' := .i64) kR (g.ext a) c e om om p (.inr rF) (.inr rF) ?_;intro q m;intro y i;exact ⟨_,_,rfl,(m.ext i),om,(xt a i)⟩
end Go.Proofs.YtalgenmoljcnmaaGreatDoor
namespace Go.M
open Go Go.Vc
variable {w w':World} {lo hi n m lo' hi':Nat} {a b:Option Addr} {X:List (List (List Int))} {Y:List (List AT)} {S:Nat->Prop}
def Gg (w:World) (a:Option Addr) (n:Nat) (b:Option Addr) (m:Nat) (X:List (List (List Int))) (Y:List (List AT)):Prop:=Ac CA w a n X/\Ac FB w b m Y
def Ct (w:World) (lo hi:Nat) (a:Option Addr) (n:Nat) (b:Option Addr) (m:Nat) (X:List (List (List Int))) (Y:List (List AT)):Prop :=
 ∃ t t' f g,DM Gm w a n t X f/\DM En w b m t' Y g/\Fg lo hi (f++g)
theorem Ct.rd (h:Ct w lo hi a n b m X Y):Gg w a n b m X Y:=by
 obtain ⟨g,i,e,f,c,d,_⟩:=h;exact ⟨c.arr,d.arr⟩
theorem Ct.mod (h:Ct w lo hi a n b m X Y) (M:BP S w w') (hs:∀ k,lo<=k->k<hi->¬ S k):Ct w' lo hi a n b m X Y:=by
 obtain ⟨l,o,e,f,g,i,d⟩:=h;have j:∀ k∈e++f,¬ S k:=fun k c=>hs k (d.2 k c).1 (d.2 k c).2;exact ⟨l,o,e,f,g.keep fun k c=>M.block k (j k (List.mem_append_left _ c)) (g.lt k c),i.keep fun k c=>M.block k (j k (List.mem_append_right _ c)) (i.lt k c),d⟩
theorem Ct.ext (h:Ct w lo hi a n b m X Y) (e:AD w w'):Ct w' lo hi a n b m X Y:=by
 obtain ⟨l,o,i,j,f,g,k⟩:=h;exact ⟨l,o,i,j,f.keep fun c d=>e.block c (f.lt c d),g.keep fun c d=>e.block c (g.lt c d),k⟩
theorem Ct.wide (h:Ct w lo hi a n b m X Y) (h1:lo'<=lo) (h2:hi<=hi'):Ct w lo' hi' a n b m X Y:=by
 obtain ⟨i,j,c,d,e,f,g⟩:=h;exact ⟨i,j,c,d,e,f,g.wide h1 h2⟩
def Rr (w:World) (lo hi:Nat) (a:Option Addr) (n:Nat) (b:Option Addr) (m:Nat) (X:List (List (List Int))) (Y:List (List AT)):Prop:=∀ w',BP (fun j=>¬ Iv lo hi j) w w'->Gg w' a n b m X Y
theorem Rr.mod (h:Rr w lo hi a n b m X Y) (M:BP S w w') (hs:∀ k,S k->¬ Iv lo hi k) (hl:lo'<=lo) (hh:hi<=hi'):Rr w' lo' hi' a n b m X Y:=fun e c =>
 h e ((M.mono hs).trans (c.mono fun k d h=>d ⟨Nat.le_trans hl h.1,Nat.lt_of_lt_of_le h.2 hh⟩))
theorem Rr.rd (h:Rr w lo hi a n b m X Y):Gg w a n b m X Y:=h w (Vc.BP.refl _ _)
theorem Gg.ext (h:Gg w a n b m X Y) (e:AD w w'):Gg w' a n b m X Y:=⟨h.1.ext e,h.2.ext e⟩
end Go.M
namespace Go.Proofs.YtalgenmoljcnmaaGreatDoor
open Go Go.RowKit Go.Vc Go.M
variable {w:World} {a a' b b':Option Addr} {n n' c c' m m' d d' k0 lo hi:Nat} {X X':List (List (List Int))} {Y Y':List (List AT)} {s:ByteArray}
theorem SP (h1:Ac CA w a n X) (h1':Ac CA w a' n' X') (h2:Ac FB w b m Y) (h2':Ac FB w b' m' Y') :
  Dq 38 [.agg #[.slice a n c,.slice b m d],.agg #[.slice a' n' c',.slice b' m' d']] w (fun v w'=>v = .bool (decide (X=X') && decide (Y=Y'))/\AD w w'):=by
 refine oV Tryz.func38 ?_;refine AB.box ?_;intro p x r t f h;refine AB.box fun q y s u e i=>jL (h.ext e).cells (k:=0) rfl<|jL i.cells (k:=0) rfl<|dM (SR (h1.ext (xt f e)) (h1'.ext (xt f e))) fun z g=>AW (fun o=>?_) fun o=>?_
 .exact ⟨by simp [*],(xt (xt f e) g)⟩
 .refine jL (h.ext (xt e g)).cells (k:=1) rfl<|jL (i.ext g).cells (k:=1) rfl<|dM (Qm (h2.ext (xt (xt f e) g)) (h2'.ext (xt (xt f e) g))) fun aa j=>AW (fun l=>?_) fun l=>?_
  .exact ⟨by simp [*],(xt (xt (xt f e) g) j)⟩
  .exact ⟨by simp [*],(xt (xt (xt f e) g) j)⟩
theorem V8 {s':ByteArray} (h:Gg w a n b m X Y) (h':Gg w a' n' b' m' X' Y') :
  Dq 11 [.agg #[.slice a n c,.slice b m d,.string s],.agg #[.slice a' n' c',.slice b' m' d',.string s']] w (fun v w'=>v = .bool (decide (X=X') && decide (Y=Y') && decide (s=s'))/\AD w w'):=by
 have l:=h.1;have p:=h.2;have o:=h'.1;have q:=h'.2;refine oV Tryz.func11 ?_;refine AB.box ?_;intro u ac y aa f i;refine AB.box fun x ad z ab e j=>jG (n:=2) (k:=0) (i.ext e).cells rfl<|jG (n:=2) (k:=0) j.cells rfl<|dM (SP (l.ext (xt f e)) (o.ext (xt f e)) (p.ext (xt f e)) (q.ext (xt f e))) fun ae g=>BA (fun r=>?_) fun r=>?_
 .exact ⟨by simp [*],(xt (xt f e) g)⟩
 .refine jL (i.ext (xt e g)).cells (k:=2) rfl<|jL (j.ext g).cells (k:=2) rfl<|AW (fun t=>?_) fun t=>?_
  .exact ⟨by simp [*],(xt (xt f e) g)⟩
  .exact ⟨by simp [*],(xt (xt f e) g)⟩
theorem PQ (h1:Ac CA w a n (DD Jd BR k0 X)) (h2:Ac FB w b m (DD Ir BX (k0+Ai BR X) Y)) (hk0:k0+Ai BR X+Ai BX Y<=1000000000) :
  Dq 41 [.agg #[.slice a n c,.slice b m d],.int .i64 k0] w (fun v w'=>v = .int .i64 ((k0+Ai BR X+Ai BX Y:Nat):Int)/\AD w w'):=by
 refine oV Tryz.func41 ?_;refine AB.box ?_;intro i o j l e g;refine jL g.cells (k:=0) rfl<|dM (PS (h1.ext e) om) fun p f=>jL (g.ext f).cells (k:=1) rfl<|dM (N3 (h2.ext (xt e f)) hk0) fun q h=>?_;exact ⟨rfl,(xt (xt e f) h)⟩
theorem Li (h:Gg w a n b m (DD Jd BR k0 X) (DD Ir BX (k0+Ai BR X) Y)) (hk0:k0+Ai BR X+Ai BX Y<=1000000000) :
  Dq 15 [.agg #[.slice a n c,.slice b m d,.string s],.int .i64 k0] w (fun v w'=>v = .int .i64 ((k0+Ai BR X+Ai BX Y:Nat):Int)/\AD w w'):=by
 have i:=h.1;have j:=h.2;refine oV Tryz.func15 ?_;refine AB.box ?_;intro l q o p e f;refine jG (n:=2) (k:=0) f.cells rfl<|dM (PQ (i.ext e) (j.ext e) hk0) fun r g=>?_;exact ⟨rfl,(xt e g)⟩
theorem PL (h:Ct w lo hi a n b m X Y) (hk0:k0+Ai BR X+Ai BX Y<=1000000000) :
  Dq 39 [.agg #[.slice a n c,.slice b m d],.int .i64 k0] w (fun v w'=>v = .int .i64 ((k0+Ai BR X+Ai BX Y:Nat):Int)/\BP (Iv lo hi) w w'/\Ct w' lo hi a n b m (DD Jd BR k0 X) (DD Ir BX (k0+Ai BR X) Y)):=by
 obtain ⟨y,z,p,q,i,j,l⟩:=h;obtain ⟨ai,aj,x⟩:=List.nodup_append.1 l.1;refine oV Tryz.func39 ?_;refine AB.box ?_;intro u ao am an g r;refine jL r.cells (k:=0) rfl ?_;have al:∀ e∈p++q,e<w.heap.size:=fun e f=>by
  rcases List.mem_append.1 f with f | f
  .exact i.lt e f
  .exact j.lt e f
 refine (PN (i.keep fun e f=>g.block e (i.lt e f)) ai om).mono ?_;rintro _ aa ⟨rfl,o,t⟩;have ae:AK aa u 0 [.slice a n c,.slice b m d]:=r.cells.mod o (fun af=>by have:=i.lt u af;omega);refine jL ae (k:=1) rfl ?_;have ab:DM En aa b m z Y q:=j.keep fun e f=>by
  rw [o.block e (fun ag=>x e ag e f rfl) (Nat.lt_of_lt_of_le (j.lt e f) g.size),g.block e (j.lt e f)]
 refine (N1 ab aj om).mono ?_;rintro _ ak ⟨rfl,s,ac⟩;have ad:DM Gm ak a n y (DD Jd BR k0 X) p:=t.keep fun e f=>s.block e (fun ah=>x e f e ah rfl) (t.lt e f);exact ⟨rfl,(AD.mod g).trans ((o.mono fun e f=>l.2 e (List.mem_append_left _ f)).trans (s.mono fun e f=>l.2 e (List.mem_append_right _ f))),y,z,p,q,ad,ac,l⟩
theorem Lh (h:Ct w lo hi a n b m X Y) (hk0:k0+Ai BR X+Ai BX Y<=1000000000) :
  Dq 13 [.agg #[.slice a n c,.slice b m d,.string s],.int .i64 k0] w (fun v w'=>v = .int .i64 ((k0+Ai BR X+Ai BX Y:Nat):Int)/\BP (Iv lo hi) w w'/\Ct w' lo hi a n b m (DD Jd BR k0 X) (DD Ir BX (k0+Ai BR X) Y)):=by
 refine oV Tryz.func13 ?_;refine AB.box ?_;intro j p l o e f;refine jG (n:=2) (k:=0) f.cells rfl<|(PL (h.ext e) hk0).mono ?_;rintro _ q ⟨rfl,g,i⟩;exact ⟨rfl,(AD.mod e).trans g,i⟩
end Go.Proofs.YtalgenmoljcnmaaGreatDoor
namespace Go.M
open Go Go.Vc
def YP (x:List Int):Prop:=x.length<=1048576
def J9 (x:List AT):Prop:=x.length<=1048576
def No (x:List AT):Prop:=∀ y∈x,y.ok
abbrev FSz {α:Type} (F:α->Prop) (x:List α):Prop:=x.length<=1048576/\∀ y∈x,F y
theorem TX {gs:List Hd} {d:Hd} {j k:Nat} (hk:gs.length=k):(Al eH gs++Al (fun _:Unit=>[Value.slice none 0 0]) (List.replicate (j+1) ())).set k (.slice d.a d.n d.c)=Al eH (gs++[d])++Al (fun _:Unit=>[Value.slice none 0 0]) (List.replicate j ()):=by
 have b:(Al eH gs).length=k:=by rw [A1 Dz,hk];omega
 rw [List.set_append_right _ _ om,b,Nat.sub_self];simp [Al,List.replicate_succ,eH]
end Go.M
namespace Go.M
open Go Go.Vc
structure Dk where
 a:Option Addr
 n:Nat
 c:Nat
 b:Option Addr
 m:Nat
 d:Nat
abbrev dkV (k:Dk) (s:ByteArray):Value := .agg #[.slice k.a k.n k.c,.slice k.b k.m k.d,.string s]
def DkR (w:World) (k:Dk) (X:List (List (List Int))) (Y:List (List AT)):Prop:=Gg w k.a k.n k.b k.m X Y
theorem DkR.ext {w w':World} {k:Dk} {X:List (List (List Int))} {Y:List (List AT)} (h:DkR w k X Y) (e:AD w w'):DkR w' k X Y:=Gg.ext h e
end Go.M
namespace Go.Proofs.YtalgenmoljcnmaaGreatDoor
section
open Go Go.RowKit Go.Vc
theorem aD6:ownKnob (Tryz.prog).godebug=none:=kR
theorem Zv:laidOutB Tryz.prog=true:=kR
end
end Go.Proofs.YtalgenmoljcnmaaGreatDoor
namespace Go.Vc
open Go Go.RowKit Go.ChangeShapes Go.WideShapes
section
variable {H:Type} {enc:TypeId×Value->H} {P:Program}
theorem aC3 {P:Program} {w w':World} {n:String} {cs:Array Value} (h:w.var? P n=some cs) (e:AD w w'):w'.var? P n=some cs:=by
 unfold World.var? at *;cases c:P.globalNamed n with
 | none=>simp [c] at h
 | some a =>
  simp only [c,Option.bind_some] at h ⊢;have d:a<w.heap.size:=by
   rcases Nat.lt_or_ge a w.heap.size with b | b
   .exact b
   .rw [Array.getElem?_eq_none b] at h;simp at h
  rw [e.block a d];exact h
theorem N4 {fn:Func} {s:ChangeSpec} {n:String} {g tb base g0 t0:Nat} (hvars:s.vars=[n]) (hg0:P.globalNamed n=some g0) (ht0:(P.globals[g0]?).map (·.type)=some t0) (hr0:P.readableRec t0=true) (hlt0:t0<P.types.size)
  (hres:fn.resultTypes = #[tb]) (hbool:P.underlying tb=some .bool) (hl:laidOutB P=true)
  (hread:(fn.params.toList.all fun t=>P.readableRec t && decide (t<P.types.size))=true)
  (hspec:∀ (ds:List (DataW H)) (d:DataW H),ds.length=fn.params.toList.length->(s.fn H (ds++[d])).results=[.lit (.bool true)]/\(s.fn H (ds++[d])).args=ds/\(s.fn H (ds++[d])).vars=[d])
  (W:World) (args:Array Value) (ds gs:List (DataW H)) (before:List MemPlace)
  (walk:∀ (p:List MemPlace),DataW.TrodAll enc P W 0 (fun _=>true) true fn.params.toList args.toList ds p->(∀ (j:Nat) t v,fn.params[j]? = some t->args.toList[j]? = some v->Value.okWide P W .any base t v) ->
   E2 P g args.toList W (fun v w'=>v = .bool true/\AD W w'))
  (hval:∀ (j:Nat) t v,fn.params[j]? = some t->args[j]? = some v->Value.okWide P W .any base t v)
  (hW:DataW.Whole enc P fn.params.toList s.vars false W args.toList ds gs before) :
  Calls P g args W fun e W'=>∃ v,e = .returned v/\s.post enc P fn false true false false W args v W':=by
 have ab:=hW;obtain ⟨p,an,h,o,rfl,av,aw⟩:=hW;rw [hvars] at o;obtain ⟨ar,ax,l,m,d,u,rfl,ae,ah,ak,r,rfl⟩:=trodVars_one o;obtain rfl:=Option.some.inj (hg0.symm.trans ae);obtain rfl:=Option.some.inj (ht0.symm.trans ah);have ac:=walk p h (fun j t v f aa=>hval j t v f (by simpa using aa));have q:=ac.calls;simp only [Array.toArray_toList] at q;refine q.mono fun e W' ⟨v,ad,aj,c⟩=>⟨v,ad,?_⟩;subst aj;have af:ds.length=fn.params.toList.length:=by
  have:∀ (b:List TypeId) (k:List Value) (ds:List (DataW H)) (i:List MemPlace),DataW.TrodAll enc P W 0 (fun _=>true) true b k ds i->ds.length=b.length:=by
   intro b;induction b with
   | nil=>intro k ds i a;obtain ⟨_,rfl,_⟩:=trodAll_nil a;rfl
   | cons t b am =>
    intro k ds i a;obtain ⟨v,ay,d,ap,p,an,rfl,rfl,rfl,au,f⟩:=trodAll_cons a;simp [am _ _ _ f]
  exact this _ _ _ _ h
 obtain ⟨x,y,z⟩:=hspec ds d af;have ag:DataW.Trod enc P W' 0 (fun w=>decide (w<W.heap.size)) true t0 (.agg l) d u :=
  Below.trod hl hr0 hlt0 ⟨m,r⟩ c fun ao al=>DataW.trod_lt m _ _ _ r ao al
 obtain ⟨aq,ai⟩:=ag;refine ⟨ds,[d],_,[],p,MemPlace.row ⟨g0,0,none⟩ l.size++u,ab,?_,?_,?_,c.frame _,fun a=>by cases a⟩
 .rw [x,hres];exact trodAll_mk1 (shut_bool hbool _)
 .rw [y];exact LS hl c _ _ _ _ hread h
 .rw [z,hvars];exact trodVars_mk1 hg0 ht0 (aC3 ak c) ai
theorem O5 {n nm:String} {d:DataW Unit} {rest:List (String×DataW Unit)} {W:World} (h:laidMet P ((n,.iface nm d) :: rest) W) {g t:Nat} {ms:Array (String×TypeId)} (hg:P.globalNamed n=some g) (ht:(P.globals[g]?).map (·.type)=some t) (hi:P.underlying t=some (.interface ms)) :
  ∃ u v,W.var? P n=some #[.iface u v]:=by
 obtain ⟨p,⟨l,r,b,k,o,q,e,f,i,c,_,_⟩,_⟩:=h;obtain rfl:=Option.some.inj (hg.symm.trans e);obtain rfl:=Option.some.inj (ht.symm.trans f);obtain ⟨j,u,v,a,_⟩:=iface_of_trod hi c;obtain ⟨m⟩:=b;simp only at a;subst a;exact ⟨u,v,i⟩
theorem P1 {C:Checked} {os:Os} {f:FuncId} {fn:Func} {s:ChangeSpec} {conds:List PathCond} {apart:Bool} {laid:List (String×DataW Unit)} (w0:World) (args:Array Value) (fuel:Nat) (hos:w0.os=os)
  (hsh:(w0.forCall (fun _ _=>0) ⟨#[],args,[]⟩).Shaped C.prog)
  (hok:Input.okWideB C.prog (w0.forCall (fun _ _=>0) ⟨#[],args,[]⟩) f ⟨#[],args,[]⟩=true)
  (hpre:s.preB enc C.prog fn conds apart (w0.forCall (fun _ _=>0) ⟨#[],args,[]⟩).memory args fuel=true)
  (hsz:s.sizedB enc C.prog fn apart (w0.forCall (fun _ _=>0) ⟨#[],args,[]⟩).memory args fuel=true)
  (hl:laidMetH C.prog laid (w0.forCall (fun _ _=>0) ⟨#[],args,[]⟩).memory) :
  ∃ (w:World) (tape:Tape) (i:Input),w.os=os/\(w.forCall tape i).Shaped C.prog/\i.vars=[]/\Input.okWide C.prog (w.forCall tape i) .any w.heap.size f i /\
   (OpenSpec.ofChange s).preRow enc C.prog fn conds apart laid (w.forCall tape i).memory i.args/\({}:Assume).holds C.prog (lone (Frame.enter C.prog f i.args .normal) [] (w.forCall tape i)) :=
 ⟨w0,fun _ _=>0,⟨#[],args,[]⟩,hos,hsh,(Input.okWide_of_okWideB (base:=0) hok).1,(Input.okWide_of_okWideB hok).2,⟨⟨ChangeSpec.pre_of_preB hpre,hl⟩,sizedMet_of_sizedB hsz⟩,by
  simp only [Assume.holds];exact ⟨sI,sI,fun _=>Modest.zero,sI,sI⟩⟩
end
end Go.Vc
namespace Go.Proofs.YtalgenmoljcnmaaGreatDoor
section
open Go Go.RowKit Go.Vc Go.M Go.Shelf Go.Proofs
variable {w w' W:World} {s:ByteArray} {c:UInt8} {b:Nat}
theorem Pu {n:String} {cs:Array Value} (h:w.var? Tryz.prog n=some cs) (e:AD w w'):w'.var? Tryz.prog n=some cs:=by
 unfold World.var? at *;cases c:(Tryz.prog).globalNamed n with
 | none=>simp [c] at h
 | some a =>
  simp only [c,Option.bind_some] at h ⊢;have d:a<w.heap.size:=by
   rcases Nat.lt_or_ge a w.heap.size with b | b
   .exact b
   .rw [Array.getElem?_eq_none b] at h;simp at h
  rw [e.block a d];exact h
theorem aA0 {a:Addr} {v:Value} (h:w.cell? a=some v) (e:AD w w'):w'.cell? a=some v:=by
 rw [Ix (e.block a.block (Px h))];exact h
theorem U1:∀ xs:List ByteArray,Al eS xs=xs.map Value.string
 | []=>rfl
 | x :: xs=>by
  have:=U1 xs;simp only [Al,eS,List.flatMap_cons,List.map_cons] at *;rw [this];rfl
theorem Z9 (w:World) (k:Nat) (os:Array Obj):AD w (Sort.grow (w.drewN k) os):=by
 refine ⟨rfl,rfl,rfl,?_,fun a b=>?_⟩
 .show w.heap.size<=(w.heap++os).size;simp
 .show (w.heap++os)[a]? = w.heap[a]?;rw [Array.getElem?_append,if_pos b]
def GR (w:World):Prop:=Lib.TabIs Tryz.prog w (Rows.fnExactRunDeskRow.named.getD 5 Rows.fnExactRunDeskRow.spec) .u64 Lib.pow10Tab
theorem GR.ext (h:GR w) (e:AD w w'):GR w':=Pu h e
theorem Wr {rest:List (String×DataW Unit)} (h:laidMet Tryz.prog (((Rows.fnExactRunDeskRow.named.getD 5 Rows.fnExactRunDeskRow.spec),Lib.tabData .u64 Lib.pow10Tab) :: rest) W):GR W :=
 Lib.tabIs_of_head (g:=6) (t:=364) (e:=266) (n:=20) kR kR Tryz.underlying364 Tryz.underlying266 kR kR h
def Mu:Go.Shelf.Ren:=⟨fun | 173=>198 | 246=>261 | 283=>306 | 284=>307 | 285=>308 | 286=>309 | 129=>335 | 317=>334 | 318=>336 | 319=>337 | 320=>338 | 337=>351 | 338=>352 | n=>n,fun | 2=>2 | 3=>3 | 9=>9 | 4=>4 | 171=>341 | 0=>0 | 53=>266 | 37=>98 | 5=>5 | 173=>343 | 212=>364 | 51=>264 | 20=>20 | 213=>365 | 46=>191 | 232=>375 | 233=>376 | n=>n,fun | 17=>6 | 18=>7 | 19=>8 | n=>n⟩
theorem SI:Go.Proofs.LaysM.n173 Tryz.prog Mu:={
 mixed:=kR
 f129:=Tryz.func335.trans (congrArg some kR)
 f173:=Tryz.func198.trans (congrArg some kR)
 f246:=Tryz.func261.trans (congrArg some kR)
 f283:=Tryz.func306.trans (congrArg some kR)
 f284:=Tryz.func307.trans (congrArg some kR)
 f285:=Tryz.func308.trans (congrArg some kR)
 f286:=Tryz.func309.trans (congrArg some kR)
 f317:=Tryz.func334.trans (congrArg some kR)
 f318:=Tryz.func336.trans (congrArg some kR)
 f319:=Tryz.func337.trans (congrArg some kR)
 f320:=Tryz.func338.trans (congrArg some kR)
 f337:=Tryz.func351.trans (congrArg some kR)
 f338:=Tryz.func352.trans (congrArg some kR)
 t0:=Tryz.underlying0
 a0:=Tryz.isAgg0
 z0:=Tryz.sizeOf0
 v0:=Tryz.zeroValue0
 t2:=Tryz.underlying2
 a2:=Tryz.isAgg2
 z2:=Tryz.sizeOf2
 v2:=Tryz.zeroValue2
 t3:=Tryz.underlying3
 a3:=Tryz.isAgg3
 z3:=Tryz.sizeOf3
 v3:=Tryz.zeroValue3
 t4:=Tryz.underlying4
 a4:=Tryz.isAgg4
 z4:=Tryz.sizeOf4
 v4:=Tryz.zeroValue4
 t5:=Tryz.underlying5
 a5:=Tryz.isAgg5
 z5:=Tryz.sizeOf5
 v5:=Tryz.zeroValue5
 t9:=Tryz.underlying9
 a9:=Tryz.isAgg9
 z9:=Tryz.sizeOf9
 v9:=Tryz.zeroValue9
 t20:=Tryz.underlying20
 a20:=Tryz.isAgg20
 z20:=Tryz.sizeOf20
 v20:=Tryz.zeroValue20
 t37:=Tryz.underlying98
 a37:=Tryz.isAgg98
 z37:=Tryz.sizeOf98
 v37:=Tryz.zeroValue98
 t46:=Tryz.underlying191
 a46:=Tryz.isAgg191
 z46:=Tryz.sizeOf191
 v46:=Tryz.zeroValue191
 t51:=Tryz.underlying264
 a51:=Tryz.isAgg264
 z51:=Tryz.sizeOf264
 v51:=Tryz.zeroValue264
 t53:=Tryz.underlying266
 a53:=Tryz.isAgg266
 z53:=Tryz.sizeOf266
 v53:=Tryz.zeroValue266
 t171:=Tryz.underlying341
 a171:=Tryz.isAgg341
 z171:=Tryz.sizeOf341
 v171:=Tryz.zeroValue341
 t173:=Tryz.underlying343
 a173:=Tryz.isAgg343
 z173:=Tryz.sizeOf343
 v173:=Tryz.zeroValue343
 t212:=Tryz.underlying364
 a212:=Tryz.isAgg364
 z212:=Tryz.sizeOf364
 v212:=Tryz.zeroValue364
 t213:=Tryz.underlying365
 a213:=Tryz.isAgg365
 z213:=Tryz.sizeOf365
 t232:=Tryz.underlying375
 a232:=Tryz.isAgg375
 z232:=Tryz.sizeOf375
 v232:=Tryz.zeroValue375
 t233:=Tryz.underlying376
 a233:=Tryz.isAgg376
 z233:=Tryz.sizeOf376
 v233:=Tryz.zeroValue376
 g17:=kR
 g18:=kR
 g19:=kR
 i0:=kR
 i2:=kR
 i3:=kR
 i4:=kR
 i5:=kR
 i9:=kR
 i20:=kR
 i37:=kR
 i46:=kR
 i51:=kR
 i53:=kR
 i171:=kR
 i173:=kR
 i212:=kR
 i232:=kR
 i233:=kR
 m17:=kR
 m18:=kR
 m19:=by kernel_rfl }
theorem SG {n:Int} (hn:BH n) (hT:GR w):Dq 198 [.int .i64 n,.int .i64 10] w (fun v w'=>v = .string (BV n)/\AD w w'):=by
 have c:Calls Tryz.prog 198 #[.int .i64 n,.int .i64 10] w fun b w'=>b = .returned (.string ⟨(Lib.itoa n).toArray⟩)/\∃ a os,w'=Sort.grow (w.drewN a) os :=
  Any.strconv_FormatInt_10 SI n hn.1 hn.2 w hT
 refine C4 kR (c.mono ?_);rintro _ _ ⟨rfl,a,os,rfl⟩;exact ⟨_,rfl,rfl,Z9 w a os⟩
def MF:Go.Shelf.Ren:=⟨fun | 101=>129 | 208=>199 | 206=>262 | n=>n,fun | 9=>9 | 4=>4 | 3=>3 | n=>n,fun | n=>n⟩
theorem Qe:Go.Proofs.Lays.n101 Tryz.prog MF:={
 mixed:=kR
 f101:=Tryz.func129.trans (congrArg some kR)
 f206:=Tryz.func262.trans (congrArg some kR)
 f208:=Tryz.func199.trans (congrArg some kR)
 t3:=Tryz.underlying3
 a3:=Tryz.isAgg3
 z3:=Tryz.sizeOf3
 v3:=Tryz.zeroValue3
 t4:=Tryz.underlying4
 a4:=Tryz.isAgg4
 z4:=Tryz.sizeOf4
 v4:=Tryz.zeroValue4
 t9:=Tryz.underlying9
 a9:=Tryz.isAgg9
 z9:=Tryz.sizeOf9
 v9:=Tryz.zeroValue9 }
theorem SE (s:ByteArray) (w:World):Dq 129 [.string s,.string ⟨#[45]⟩] w (fun v w'=>v = .string (bs (BC s.data.toList))/\w=w'):=by
 have d:Calls Tryz.prog 129 #[.string s,.string ⟨#[45]⟩] w fun c w'=>c = .returned (.string ⟨(Lib.trimPrefix s.data.toList [45]).toArray⟩)/\w'=w :=
  Any.strings_TrimPrefix Qe s ⟨#[45]⟩ w
 refine C4 kR (d.mono ?_);rintro _ _ ⟨rfl,rfl⟩;refine ⟨_,rfl,?_,rfl⟩;congr 1;show bs _=bs _;congr 1;unfold Lib.trimPrefix Lib.hasPrefix BC;cases s.data.toList with
 | nil=>rfl
 | cons b e =>
  by_cases a:b=45
  .subst a;simp
  .simp [a,Ne.symm a]
def Eg (w:World):Prop:=(∃ t p,w.var? Tryz.prog (Rows.fnExactRunDeskRow.named.getD 3 Rows.fnExactRunDeskRow.spec)=some #[.iface t p])/\∃ t p,w.var? Tryz.prog (Rows.fnExactRunDeskRow.named.getD 4 Rows.fnExactRunDeskRow.spec)=some #[.iface t p]
theorem Eg.ext (h:Eg w) (e:AD w w'):Eg w':=by
 obtain ⟨⟨f,c,a⟩,g,d,b⟩:=h;exact ⟨⟨f,c,Pu a e⟩,g,d,Pu b e⟩
theorem VE {n1 n2:String} {d1 d2:DataW Unit} {r1 r2:List (String×DataW Unit)} (h1:laidMet Tryz.prog (((Rows.fnExactRunDeskRow.named.getD 3 Rows.fnExactRunDeskRow.spec),.iface n1 d1) :: r1) W) (h2:laidMet Tryz.prog (((Rows.fnExactRunDeskRow.named.getD 4 Rows.fnExactRunDeskRow.spec),.iface n2 d2) :: r2) W):Eg W :=
 ⟨O5 h1 (g:=4) (t:=178) kR kR Tryz.underlying178,O5 h2 (g:=5) (t:=178) kR kR Tryz.underlying178⟩
def N0:Go.Shelf.Ren:=⟨fun | 174=>127 | 247=>196 | 245=>197 | 287=>256 | 279=>257 | 280=>258 | 281=>259 | 282=>260 | 321=>301 | 322=>302 | 316=>303 | 171=>305 | 205=>304 | 243=>333 | 246=>261 | 283=>306 | 284=>307 | 285=>308 | 286=>309 | 129=>335 | 317=>334 | 318=>336 | 319=>337 | 320=>338 | 337=>351 | 338=>352 | n=>n,fun | 9=>9 | 3=>3 | 2=>2 | 75=>178 | 85=>179 | 4=>4 | 167=>305 | 5=>5 | 53=>266 | 175=>306 | 46=>191 | 168=>308 | 37=>98 | 0=>0 | 210=>339 | 21=>21 | 127=>322 | 145=>362 | 143=>360 | 171=>341 | 173=>343 | 212=>364 | 51=>264 | 20=>20 | 213=>365 | 232=>375 | 233=>376 | 80=>278 | n=>n,fun | 15=>4 | 16=>5 | 17=>6 | 18=>7 | 19=>8 | n=>n⟩
theorem Je:Go.Proofs.LaysC.n174 Tryz.prog N0:={
 mixed:=kR
 f129:=Tryz.func335.trans (congrArg some kR)
 f171:=Tryz.func305.trans (congrArg some kR)
 f174:=Tryz.func127.trans (congrArg some kR)
 f205:=Tryz.func304.trans (congrArg some kR)
 f243:=Tryz.func333.trans (congrArg some kR)
 f245:=Tryz.func197.trans (congrArg some kR)
 f246:=Tryz.func261.trans (congrArg some kR)
 f247:=Tryz.func196.trans (congrArg some kR)
 f279:=Tryz.func257.trans (congrArg some kR)
 f280:=Tryz.func258.trans (congrArg some kR)
 f281:=Tryz.func259.trans (congrArg some kR)
 f282:=Tryz.func260.trans (congrArg some kR)
 f283:=Tryz.func306.trans (congrArg some kR)
 f284:=Tryz.func307.trans (congrArg some kR)
 f285:=Tryz.func308.trans (congrArg some kR)
 f286:=Tryz.func309.trans (congrArg some kR)
 f287:=Tryz.func256.trans (congrArg some kR)
 f316:=Tryz.func303.trans (congrArg some kR)
 f317:=Tryz.func334.trans (congrArg some kR)
 f318:=Tryz.func336.trans (congrArg some kR)
 f319:=Tryz.func337.trans (congrArg some kR)
 f320:=Tryz.func338.trans (congrArg some kR)
 f321:=Tryz.func301.trans (congrArg some kR)
 f322:=Tryz.func302.trans (congrArg some kR)
 f337:=Tryz.func351.trans (congrArg some kR)
 f338:=Tryz.func352.trans (congrArg some kR)
 t0:=Tryz.underlying0
 a0:=Tryz.isAgg0
 z0:=Tryz.sizeOf0
 v0:=Tryz.zeroValue0
 t2:=Tryz.underlying2
 a2:=Tryz.isAgg2
 z2:=Tryz.sizeOf2
 v2:=Tryz.zeroValue2
 t3:=Tryz.underlying3
 a3:=Tryz.isAgg3
 z3:=Tryz.sizeOf3
 v3:=Tryz.zeroValue3
 t4:=Tryz.underlying4
 a4:=Tryz.isAgg4
 z4:=Tryz.sizeOf4
 v4:=Tryz.zeroValue4
 t5:=Tryz.underlying5
 a5:=Tryz.isAgg5
 z5:=Tryz.sizeOf5
 v5:=Tryz.zeroValue5
 t9:=Tryz.underlying9
 a9:=Tryz.isAgg9
 z9:=Tryz.sizeOf9
 v9:=Tryz.zeroValue9
 t20:=Tryz.underlying20
 a20:=Tryz.isAgg20
 z20:=Tryz.sizeOf20
 v20:=Tryz.zeroValue20
 t21:=Tryz.underlying21
 a21:=Tryz.isAgg21
 z21:=Tryz.sizeOf21
 v21:=Tryz.zeroValue21
 t37:=Tryz.underlying98
 a37:=Tryz.isAgg98
 z37:=Tryz.sizeOf98
 v37:=Tryz.zeroValue98
 t46:=Tryz.underlying191
 a46:=Tryz.isAgg191
 z46:=Tryz.sizeOf191
 v46:=Tryz.zeroValue191
 t51:=Tryz.underlying264
 a51:=Tryz.isAgg264
 z51:=Tryz.sizeOf264
 v51:=Tryz.zeroValue264
 t53:=Tryz.underlying266
 a53:=Tryz.isAgg266
 z53:=Tryz.sizeOf266
 v53:=Tryz.zeroValue266
 t75:=Tryz.underlying178
 a75:=Tryz.isAgg178
 z75:=Tryz.sizeOf178
 v75:=Tryz.zeroValue178
 t85:=Tryz.underlying179
 a85:=Tryz.isAgg179
 z85:=Tryz.sizeOf179
 v85:=Tryz.zeroValue179
 t127:=Tryz.underlying322
 a127:=Tryz.isAgg322
 z127:=Tryz.sizeOf322
 v127:=Tryz.zeroValue322
 t143:=Tryz.underlying360
 a143:=Tryz.isAgg360
 z143:=Tryz.sizeOf360
 v143:=Tryz.zeroValue360
 t145:=Tryz.underlying362
 a145:=Tryz.isAgg362
 z145:=Tryz.sizeOf362
 v145:=Tryz.zeroValue362
 t167:=Tryz.underlying305
 a167:=Tryz.isAgg305
 z167:=Tryz.sizeOf305
 v167:=Tryz.zeroValue305
 t168:=Tryz.underlying308
 a168:=Tryz.isAgg308
 z168:=Tryz.sizeOf308
 v168:=Tryz.zeroValue308
 t171:=Tryz.underlying341
 a171:=Tryz.isAgg341
 z171:=Tryz.sizeOf341
 v171:=Tryz.zeroValue341
 t173:=Tryz.underlying343
 a173:=Tryz.isAgg343
 z173:=Tryz.sizeOf343
 v173:=Tryz.zeroValue343
 t175:=Tryz.underlying306
 a175:=Tryz.isAgg306
 z175:=Tryz.sizeOf306
 v175:=Tryz.zeroValue306
 t210:=Tryz.underlying339
 a210:=Tryz.isAgg339
 z210:=Tryz.sizeOf339
 v210:=Tryz.zeroValue339
 t212:=Tryz.underlying364
 a212:=Tryz.isAgg364
 z212:=Tryz.sizeOf364
 v212:=Tryz.zeroValue364
 t213:=Tryz.underlying365
 a213:=Tryz.isAgg365
 z213:=Tryz.sizeOf365
 t232:=Tryz.underlying375
 a232:=Tryz.isAgg375
 z232:=Tryz.sizeOf375
 v232:=Tryz.zeroValue375
 t233:=Tryz.underlying376
 a233:=Tryz.isAgg376
 z233:=Tryz.sizeOf376
 v233:=Tryz.zeroValue376
 g15:=kR
 g16:=kR
 g17:=kR
 g18:=kR
 g19:=kR
 t80:=Tryz.underlying278
 a80:=Tryz.isAgg278
 z80:=Tryz.sizeOf278
 v80:=Tryz.zeroValue278
 i0:=kR
 i2:=kR
 i3:=kR
 i4:=kR
 i5:=kR
 i9:=kR
 i20:=kR
 i21:=kR
 i37:=kR
 i46:=kR
 i51:=kR
 i53:=kR
 i75:=kR
 i80:=kR
 i85:=kR
 i127:=kR
 i143:=kR
 i145:=kR
 i167:=kR
 i168:=kR
 i171:=kR
 i173:=kR
 i175:=kR
 i210:=kR
 i212:=kR
 i232:=kR
 i233:=kR
 m15:=kR
 m16:=kR
 m17:=kR
 m18:=kR
 m19:=kR
 c0:=kR
 c2:=kR
 c3:=kR
 c4:=kR
 c5:=kR
 c9:=kR
 c20:=kR
 c21:=kR
 c37:=kR
 c46:=kR
 c51:=kR
 c53:=kR
 c75:=kR
 c80:=kR
 c85:=kR
 c127:=kR
 c143:=kR
 c145:=kR
 c167:=kR
 c168:=kR
 c171:=kR
 c173:=kR
 c175:=kR
 c210:=kR
 c212:=kR
 c213:=kR
 c232:=kR
 c233:=by kernel_rfl }
theorem Ud (hs:s.size<=281474976710656) (hE:Eg w) :
  Dq 127 [.string s,.int .i64 10,.int .i64 64] w (fun v w'=>((∃ n,Lib.parseIntB 64 s.data.toList = .ok n/\v = .tuple #[.int .i64 n,.nilIface]) \/
   ((∀ n,Lib.parseIntB 64 s.data.toList≠.ok n)/\∃ n t a,v = .tuple #[.int .i64 n,.iface t (.pointer (some a))]))/\AD w w'):=by
 obtain ⟨⟨t,i,f⟩,k,j,g⟩:=hE;cases d:Lib.parseIntB 64 s.data.toList
 .rename_i n;refine C4 kR ((Any.strconv_ParseInt_10_at64_ok Je s om n d w).mono ?_);rintro _ _ ⟨rfl,h⟩;refine ⟨_,rfl,.inl ⟨n,rfl,rfl⟩,?_⟩;rcases h with rfl | ⟨t,rfl⟩
  .exact AD.refl _
  .exact Lib.bytesWorld_below _ _ _
 .refine C4 kR ((Any.strconv_ParseInt_10_at64_syntax_var Je s hs d t i w f).mono ?_);rintro _ _ ⟨e,rfl,_,_,c⟩;exact ⟨_,rfl,.inr ⟨(fun n b=>by cases b),_,_,_,rfl⟩,c⟩
 .refine C4 kR ((Any.strconv_ParseInt_10_at64_range_var Je s hs d k j w g).mono ?_);rintro _ _ ⟨e,rfl,_,_,c⟩;exact ⟨_,rfl,.inr ⟨(fun n b=>by cases b),_,_,_,rfl⟩,c⟩
def Lg:Go.Shelf.Ren:=⟨fun | 146=>30 | 221=>67 | 268=>124 | 138=>125 | 143=>126 | 195=>193 | 197=>194 | 218=>195 | 219=>113 | 260=>255 | 217=>182 | 225=>183 | 224=>184 | 267=>185 | 266=>249 | 314=>250 | n=>n,fun | 9=>9 | 31=>37 | 3=>3 | 4=>4 | 0=>0 | 105=>250 | 21=>21 | 5=>5 | 46=>191 | 119=>333 | 139=>336 | 138=>335 | 146=>301 | 51=>264 | n=>n,fun | 1=>1 | 3=>2 | 4=>3 | n=>n⟩
theorem Nz:Go.Proofs.LaysM.n146 Tryz.prog Lg:={
 mixed:=kR
 f138:=Tryz.func125.trans (congrArg some kR)
 f143:=Tryz.func126.trans (congrArg some kR)
 f146:=Tryz.func30.trans (congrArg some kR)
 f195:=Tryz.func193.trans (congrArg some kR)
 f197:=Tryz.func194.trans (congrArg some kR)
 f217:=Tryz.func182.trans (congrArg some kR)
 f218:=Tryz.func195.trans (congrArg some kR)
 f219:=Tryz.func113.trans (congrArg some kR)
 f221:=Tryz.func67.trans (congrArg some kR)
 f224:=Tryz.func184.trans (congrArg some kR)
 f225:=Tryz.func183.trans (congrArg some kR)
 f260:=Tryz.func255.trans (congrArg some kR)
 f266:=Tryz.func249.trans (congrArg some kR)
 f267:=Tryz.func185.trans (congrArg some kR)
 f268:=Tryz.func124.trans (congrArg some kR)
 f314:=Tryz.func250.trans (congrArg some kR)
 t0:=Tryz.underlying0
 a0:=Tryz.isAgg0
 z0:=Tryz.sizeOf0
 v0:=Tryz.zeroValue0
 t3:=Tryz.underlying3
 a3:=Tryz.isAgg3
 z3:=Tryz.sizeOf3
 v3:=Tryz.zeroValue3
 t4:=Tryz.underlying4
 a4:=Tryz.isAgg4
 z4:=Tryz.sizeOf4
 v4:=Tryz.zeroValue4
 t5:=Tryz.underlying5
 a5:=Tryz.isAgg5
 z5:=Tryz.sizeOf5
 v5:=Tryz.zeroValue5
 t9:=Tryz.underlying9
 a9:=Tryz.isAgg9
 z9:=Tryz.sizeOf9
 v9:=Tryz.zeroValue9
 t21:=Tryz.underlying21
 a21:=Tryz.isAgg21
 z21:=Tryz.sizeOf21
 v21:=Tryz.zeroValue21
 t31:=Tryz.underlying37
 a31:=Tryz.isAgg37
 z31:=Tryz.sizeOf37
 v31:=Tryz.zeroValue37
 t46:=Tryz.underlying191
 a46:=Tryz.isAgg191
 z46:=Tryz.sizeOf191
 v46:=Tryz.zeroValue191
 t51:=Tryz.underlying264
 a51:=Tryz.isAgg264
 z51:=Tryz.sizeOf264
 v51:=Tryz.zeroValue264
 t105:=Tryz.underlying250
 a105:=Tryz.isAgg250
 z105:=Tryz.sizeOf250
 v105:=Tryz.zeroValue250
 t119:=Tryz.underlying333
 a119:=Tryz.isAgg333
 z119:=Tryz.sizeOf333
 t138:=Tryz.underlying335
 a138:=Tryz.isAgg335
 z138:=Tryz.sizeOf335
 v138:=Tryz.zeroValue335
 t139:=Tryz.underlying336
 a139:=Tryz.isAgg336
 z139:=Tryz.sizeOf336
 v139:=Tryz.zeroValue336
 t146:=Tryz.underlying301
 a146:=Tryz.isAgg301
 z146:=Tryz.sizeOf301
 v146:=Tryz.zeroValue301
 g1:=kR
 g3:=kR
 g4:=kR
 i0:=kR
 i3:=kR
 i4:=kR
 i5:=kR
 i9:=kR
 i21:=kR
 i31:=kR
 i46:=kR
 i51:=kR
 i105:=kR
 i138:=kR
 i139:=kR
 i146:=kR
 m1:=kR
 s1_3:=fun b a=>Go.Proofs.cell_of_shapedOpen_int (zero := #[.int .i64 0]) (t:=3) a (of_decide_eq_true kR) kR rfl kR kR Tryz.underlying3
 m3:=kR
 m4:=by kernel_rfl }
def EE (w:World):Prop:=∃ m,w.cell? ⟨Lg.g 1,0,none⟩=some (.int .i64 m)
theorem EE.ext (h:EE w) (e:AD w w'):EE w':=by
 obtain ⟨a,h⟩:=h;exact ⟨a,aA0 h e⟩
theorem Rq (h:w.ShapedOpen Tryz.prog):EE w:=Nz.s1_3 w h
theorem Nx (hs:s.size<4294967281) (hM:EE w) :
  Dq 30 [.string s,.string ⟨#[c]⟩] w (fun v w'=>∃ b,v = .slice (some ⟨b,0,none⟩) (Ay c s).length (Ay c s).length/\w.heap.size<=b/\B8 w' b (Al eS (Ay c s)) 9/\AD w w'):=by
 obtain ⟨e,d⟩:=hM;have a:Calls Tryz.prog 30 #[.string s,.string ⟨#[c]⟩] w _:=Any.strings_Split { Nz with } Nz.i9 s ⟨#[c]⟩ e w hs d (by show 1<=1;omega);refine C4 kR (a.mono ?_);rintro _ _ ⟨rfl,rfl⟩;rw [<- W5,S8];refine ⟨_,rfl,w.heap.size,rfl,Nat.le_refl _,?_,JJ _ _⟩;rw [U1];exact JK _ _ _
def V7:Go.Shelf.Ren:=⟨fun | 145=>24 | 220=>57 | 219=>113 | 217=>182 | 225=>183 | 224=>184 | 267=>185 | 266=>249 | 314=>250 | n=>n,fun | 9=>9 | 4=>4 | 59=>54 | 3=>3 | 5=>5 | 46=>191 | 146=>301 | 51=>264 | n=>n,fun | 1=>1 | n=>n⟩
theorem aD5:Go.Proofs.LaysM.n145 Tryz.prog V7:={
 mixed:=kR
 f145:=Tryz.func24.trans (congrArg some kR)
 f217:=Tryz.func182.trans (congrArg some kR)
 f219:=Tryz.func113.trans (congrArg some kR)
 f220:=Tryz.func57.trans (congrArg some kR)
 f224:=Tryz.func184.trans (congrArg some kR)
 f225:=Tryz.func183.trans (congrArg some kR)
 f266:=Tryz.func249.trans (congrArg some kR)
 f267:=Tryz.func185.trans (congrArg some kR)
 f314:=Tryz.func250.trans (congrArg some kR)
 t3:=Tryz.underlying3
 a3:=Tryz.isAgg3
 z3:=Tryz.sizeOf3
 v3:=Tryz.zeroValue3
 t4:=Tryz.underlying4
 a4:=Tryz.isAgg4
 z4:=Tryz.sizeOf4
 v4:=Tryz.zeroValue4
 t5:=Tryz.underlying5
 a5:=Tryz.isAgg5
 z5:=Tryz.sizeOf5
 v5:=Tryz.zeroValue5
 t9:=Tryz.underlying9
 a9:=Tryz.isAgg9
 z9:=Tryz.sizeOf9
 v9:=Tryz.zeroValue9
 t46:=Tryz.underlying191
 a46:=Tryz.isAgg191
 z46:=Tryz.sizeOf191
 v46:=Tryz.zeroValue191
 t51:=Tryz.underlying264
 a51:=Tryz.isAgg264
 z51:=Tryz.sizeOf264
 v51:=Tryz.zeroValue264
 t59:=Tryz.underlying54
 a59:=Tryz.isAgg54
 z59:=Tryz.sizeOf54
 v59:=Tryz.zeroValue54
 t146:=Tryz.underlying301
 a146:=Tryz.isAgg301
 z146:=Tryz.sizeOf301
 v146:=Tryz.zeroValue301
 g1:=kR
 i3:=kR
 i4:=kR
 i5:=kR
 i9:=kR
 i46:=kR
 i51:=kR
 i59:=kR
 i146:=kR
 m1:=kR
 s1_3:=fun b a=>Go.Proofs.cell_of_shapedOpen_int (zero := #[.int .i64 0]) (t:=3) a (of_decide_eq_true kR) kR rfl kR kR Tryz.underlying3 }
theorem aD4 (hs:s.size<4294967281) (hM:EE w) :
  Dq 24 [.string s,.string ⟨#[c]⟩] w (fun v w'=>v = .tuple #[.string (bs (Lib.cut s.data.toList [c]).1),.string (bs (Lib.cut s.data.toList [c]).2.1),.bool (Lib.cut s.data.toList [c]).2.2]/\AD w w'):=by
 obtain ⟨d,b⟩:=hM;have a:Calls Tryz.prog 24 #[.string s,.string ⟨#[c]⟩] w _:=Any.strings_Cut { aD5 with } s ⟨#[c]⟩ d w hs b;refine C4 kR (a.mono ?_);rintro _ _ ⟨rfl,e,rfl⟩;exact ⟨_,rfl,rfl,⟨rfl,rfl,rfl,Nat.le_refl _,fun _ _=>rfl⟩⟩
def Mt:Go.Shelf.Ren:=⟨fun | 137=>253 | 217=>182 | 266=>249 | n=>n,fun | 9=>9 | 5=>5 | 3=>3 | n=>n,fun | n=>n⟩
theorem SH:Go.Proofs.Lays.n137 Tryz.prog Mt:={
 mixed:=kR
 f137:=Tryz.func253.trans (congrArg some kR)
 f217:=Tryz.func182.trans (congrArg some kR)
 f266:=Tryz.func249.trans (congrArg some kR)
 t3:=Tryz.underlying3
 a3:=Tryz.isAgg3
 z3:=Tryz.sizeOf3
 v3:=Tryz.zeroValue3
 t5:=Tryz.underlying5
 a5:=Tryz.isAgg5
 z5:=Tryz.sizeOf5
 v5:=Tryz.zeroValue5
 t9:=Tryz.underlying9
 a9:=Tryz.isAgg9
 z9:=Tryz.sizeOf9
 v9:=Tryz.zeroValue9 }
theorem Is (s:ByteArray) (c:UInt8) (w:World):Dq 253 [.string s,.int .u8 c.toNat] w (fun v w'=>v = .int .i64 (Lib.indexByte s.data.toList c)/\w=w'):=by
 have a:Calls Tryz.prog 253 #[.string s,.int .u8 c.toNat] w _:=Any.strings_IndexByte SH s c.toNat w;refine C4 kR (a.mono ?_);rintro _ _ ⟨rfl,rfl⟩;exact ⟨_,rfl,sI,rfl⟩
def Ms:Go.Shelf.Ren:=⟨fun | 156=>146 | 165=>219 | 166=>220 | 169=>221 | 240=>280 | 241=>281 | 276=>317 | 277=>318 | n=>n,fun | 31=>37 | 9=>9 | 3=>3 | 4=>4 | 0=>0 | 20=>20 | 72=>274 | 76=>276 | 70=>272 | 37=>98 | 75=>178 | 127=>322 | 164=>349 | 5=>5 | 80=>278 | n=>n,fun | n=>n⟩
theorem Zu:Go.Proofs.Lays.n156 Tryz.prog Ms:={
 mixed:=kR
 f156:=Tryz.func146.trans (congrArg some kR)
 f165:=Tryz.func219.trans (congrArg some kR)
 f166:=Tryz.func220.trans (congrArg some kR)
 f169:=Tryz.func221.trans (congrArg some kR)
 f240:=Tryz.func280.trans (congrArg some kR)
 f241:=Tryz.func281.trans (congrArg some kR)
 f276:=Tryz.func317.trans (congrArg some kR)
 f277:=Tryz.func318.trans (congrArg some kR)
 t0:=Tryz.underlying0
 a0:=Tryz.isAgg0
 z0:=Tryz.sizeOf0
 v0:=Tryz.zeroValue0
 t3:=Tryz.underlying3
 a3:=Tryz.isAgg3
 z3:=Tryz.sizeOf3
 v3:=Tryz.zeroValue3
 t4:=Tryz.underlying4
 a4:=Tryz.isAgg4
 z4:=Tryz.sizeOf4
 v4:=Tryz.zeroValue4
 t9:=Tryz.underlying9
 a9:=Tryz.isAgg9
 z9:=Tryz.sizeOf9
 v9:=Tryz.zeroValue9
 t20:=Tryz.underlying20
 a20:=Tryz.isAgg20
 z20:=Tryz.sizeOf20
 v20:=Tryz.zeroValue20
 t31:=Tryz.underlying37
 a31:=Tryz.isAgg37
 z31:=Tryz.sizeOf37
 v31:=Tryz.zeroValue37
 t37:=Tryz.underlying98
 a37:=Tryz.isAgg98
 z37:=Tryz.sizeOf98
 v37:=Tryz.zeroValue98
 t70:=Tryz.underlying272
 a70:=Tryz.isAgg272
 z70:=Tryz.sizeOf272
 v70:=Tryz.zeroValue272
 t72:=Tryz.underlying274
 a72:=Tryz.isAgg274
 z72:=Tryz.sizeOf274
 v72:=Tryz.zeroValue274
 t75:=Tryz.underlying178
 a75:=Tryz.isAgg178
 z75:=Tryz.sizeOf178
 v75:=Tryz.zeroValue178
 t76:=Tryz.underlying276
 a76:=Tryz.isAgg276
 z76:=Tryz.sizeOf276
 v76:=Tryz.zeroValue276
 t127:=Tryz.underlying322
 a127:=Tryz.isAgg322
 z127:=Tryz.sizeOf322
 v127:=Tryz.zeroValue322
 t164:=Tryz.underlying349
 a164:=Tryz.isAgg349
 z164:=Tryz.sizeOf349
 v164:=Tryz.zeroValue349 }
theorem Yw:Builder.Extra Tryz.prog Ms:={
 sizeBuilder:=kR
 liesBuilder:=kR
 t5:=Tryz.underlying5
 a5:=Tryz.isAgg5
 z5:=Tryz.sizeOf5
 v5:=Tryz.zeroValue5
 infoByte:=kR
 cellsByte:=kR
 sizeByte:=kR
 neB5:=by decide }
theorem V6 {xs:List ByteArray} {sep:ByteArray} {n c:Nat} (h:AK w b 0 (Al eS xs)) (hb:b<w.heap.size) (hn:xs.length=n) (hc:n<=c) (hN:n<=140737488355328)
  (hl:(Lib.join (xs.map (·.data.toList)) sep.data.toList).length<=140737488355328) :
  Dq 146 [.slice (some ⟨b,0,none⟩) n c,.string sep] w (fun v w'=>v = .string (bs (Lib.join (xs.map (·.data.toList)) sep.data.toList))/\AD w w'):=by
 subst hn;have a:Calls Tryz.prog 146 #[.slice (some ⟨b,0,none⟩) xs.length c,.string sep] w _:=Any.strings_Join Zu Yw b 0 c xs sep w (fun e f d=>by
  have:=h e (.string f) (by
   rw [U1,List.getElem?_map,d];rfl)
  exact this) hb hN hc hl
 refine C4 kR (a.mono ?_);rintro _ _ ⟨rfl,hb⟩;exact ⟨_,rfl,rfl,hb⟩
theorem Yt {a1 a2 a3 a4:ByteArray} {t:Nat} (h:B8 w b [.string a1,.string a2,.string a3,.string a4] t) (h1:a1.size<=1000) (h2:a2.size<=1000) (h3:a3.size<=1000) (h4:a4.size<=1000) :
  Dq 146 [.slice (some ⟨b,0,none⟩) 4 4,.string ⟨#[32]⟩] w (fun v w'=>v = .string (a1++bs [32]++a2++bs [32]++a3++bs [32]++a4)/\AD w w'):=by
 have d:bs (Lib.join [a1.data.toList,a2.data.toList,a3.data.toList,a4.data.toList] [32])=a1++bs [32]++a2++bs [32]++a3++bs [32]++a4:=by
  apply Cs;rw [Py,Lib.join_cons];simp [Lib.joinTail,bs]
 have e:(Lib.join [a1.data.toList,a2.data.toList,a3.data.toList,a4.data.toList] [32]).length=a1.size+a2.size+a3.size+a4.size+3:=by
  have:=congrArg ByteArray.size d;rw [BY] at this;rw [this];have a:(bs [32]).size=1:=rfl;simp only [ByteArray.size_append,a];omega
 have:=V6 (xs:=[a1,a2,a3,a4]) (sep:=⟨#[32]⟩) (n:=4) (c:=4) h.cells h.lt rfl om om (by show (Lib.join [a1.data.toList,a2.data.toList,a3.data.toList,a4.data.toList] [32]).length<=_;omega);refine this.mono ?_;rintro _ f ⟨rfl,a⟩;exact ⟨congrArg Value.string d,a⟩
end
section
open Go Go.RowKit Go.Vc Go.M Go.Shelf Go.Proofs
variable {n:Int} {w:World} {s:ByteArray}
theorem Cm (hn:BH n) (hT:GR w):Dq 128 [.int .i64 n] w (fun v w'=>v = .string (BV n)/\AD w w'):=by
 refine oV Tryz.func128 ?_;refine (SG hn hT).mono ?_;rintro _ b ⟨rfl,a⟩;exact ⟨rfl,a⟩
theorem CC (hn:BH n) (w:World):Dq 99 [.int .i64 n] w (fun v w'=>v = .string (BV n)/\AD w w'):=by
 obtain ⟨ap,aq⟩:=hn;have an:∀ (k:Int) (out:List UInt8),MO n.natAbs []=MO k.natAbs out->out.length<=20:=by
  intro k out p;have u:=congrArg List.length p;rw [Jn,Jn] at u;have:=Y8 n.natAbs 20 om;simp at u;omega
 refine oV Tryz.func99 ?_;refine bS J0 (vs:=[]) ?_;intro ay a5 ai a3 ah ac;have ad:=Ag (enc:=eB) F5 ac ai;refine lR [0,3,4] (fun (t:Int×List UInt8) ab w'=>∃ k out,t=(k,out)/\∃ m s o,ab=[.int .i64 n,.slice m s o,.int .i64 k]/\An eB 1 w.heap.size 5 w' m s o out/\MO n.natAbs []=MO k.natAbs out∧-9223372036854775808<=k/\k<=9223372036854775807/\AD w w') (fun t=>t.1.natAbs) (n,[]) ⟨n,[],rfl,_,_,_,rfl,ad,rfl,ap,aq,ah⟩ ?_;rintro _ az ab w' ⟨k,out,rfl,m,s,o,rfl,d,f,y,z,a⟩;have a1:=an k out f;have ao:=d.len;refine AW (fun aj=>?_) fun aj=>?_
 .have x:=OK (k:=k.natAbs) om out;have aa:=VQ k;have a4:=VO k;refine ZK om ?_;(conv=>whnf);have a0:(UInt8.ofNat (48+k.natAbs % 10)).toNat=48+k.natAbs % 10:=VM _;refine AF (fun ar=>?_) fun ar=>?_
  .refine AB.neg ((k.tmod 10).natAbs:Int) om om om<|jP ((UInt8.ofNat (48+k.natAbs % 10)).toNat:Int)<|As (k := .u8) kR kR (IN om om)<|bS J0 (vs:=[.int .u8 (UInt8.ofNat (48+k.natAbs % 10)).toNat]) ?_;intro af av e au b h;have i:=AH (n:=1) (B:=w.heap.size) (enc:=eB) (xs:=[UInt8.ofNat (48+k.natAbs % 10)]) F5 h (Nat.le_trans a.size e) rfl dE;exact AN (enc:=eB) J0 F5 i ((d.ext b).own.arr F5) (by intro ax _;simp [eB,AM]) om om (Nat.le_trans a.size b.size) fun ae ag aw j l _=>Ty y z dE ⟨(k.tdiv 10,_),(by show (k.tdiv 10).natAbs<k.natAbs;omega),k.tdiv 10,_,rfl,_,_,_,rfl,j,(by rw [f,x,aa];rfl),om,om,xm (xt a b) l (AQ (Ab.some (Nat.le_trans a.size e)))⟩
  .refine jP ((UInt8.ofNat (48+k.natAbs % 10)).toNat:Int)<|As (k := .u8) kR kR (IN om om)<|bS J0 (vs:=[.int .u8 (UInt8.ofNat (48+k.natAbs % 10)).toNat]) ?_;intro af av e au b h;have i:=AH (n:=1) (B:=w.heap.size) (enc:=eB) (xs:=[UInt8.ofNat (48+k.natAbs % 10)]) F5 h (Nat.le_trans a.size e) rfl dE;exact AN (enc:=eB) J0 F5 i ((d.ext b).own.arr F5) (by intro ax _;simp [eB,AM]) om om (Nat.le_trans a.size b.size) fun ae ag aw j l _=>Ty y z dE ⟨(k.tdiv 10,_),(by show (k.tdiv 10).natAbs<k.natAbs;omega),k.tdiv 10,_,rfl,_,_,_,rfl,j,(by rw [f,x,aa];rfl),om,om,xm (xt a b) l (AQ (Ab.some (Nat.le_trans a.size e)))⟩
 ·(conv=>whnf);have am:k=0:=om
  subst am;have g:MO n.natAbs []=out:=f;have c:=Yx n;refine AF (fun al=>?_) fun al=>?_
  ·(conv=>whnf);have ak:out=[]:=List.eq_nil_of_length_eq_zero om;have r:n=0:=by
    apply Classical.byContradiction;intro a2;rw [ak,Jn,MN om] at g;simp at g
   subst r;exact ⟨by show _=Value.string (bs (Lib.itoa 0));rw [c,if_pos rfl];rfl,a⟩
  ·(conv=>whnf);have r:¬ n=0:=fun p=>by
    subst p;have:out=[]:=g.symm;subst this;simp at ao;omega
   rw [if_neg r,g] at c;refine AF (fun q=>?_) fun q=>?_
   ·(conv=>whnf);rw [if_pos q] at c;refine Ih kR kR d ?_
    refine Ax (by have : (bs out).size = out.length := BY out;have:(ByteArray.mk #[45]).size=1:=rfl;omega) ?_
    refine ⟨?_,a⟩;congr 1;show bs [45]++bs out=bs (Lib.itoa n);rw [OO,c];rfl
   ·(conv=>whnf);rw [if_neg q] at c;refine Ih kR kR d ⟨?_,a⟩;congr 1;show bs out=bs (Lib.itoa n);rw [c]
theorem QJ (hs:s.size<=1048576) (c:UInt8) (w:World):Dq 18 [.string s,.int .u8 c.toNat] w (fun v w'=>∃ a n k,v = .slice a n k/\n<=k/\Ab w.heap.size a/\Bs eS w' a n 9 (Ay c s)/\AD w w'):=by
 have ax:s.data.toList.length=s.size:=sI
 have av:=Ii c s;refine oV Tryz.func18 ?_;refine bS BK (vs:=[]) ?_;intro ar az af ay ae z;have aa:=Ag (enc:=eS) AP z af;refine lR [0,1,5,6,7] (fun (r:List ByteArray×Nat×Nat) y w'=>∃ out d b,r=(out,d,b)/\∃ a n k,y=[.string s,.int .u8 c.toNat,.slice a n k,.int .i64 d,.int .i64 b]/\An eS 1 w.heap.size 9 w' a n k out/\d<=b/\b<=s.size /\
  Ay c s=out++(Et c ((s.data.toList.drop d).take (b - d)) (s.data.toList.drop b)).map bs/\AD w w') (fun r=>s.size - r.2.2) ([],0,0) ⟨[],0,0,rfl,_,_,_,rfl,aa,Nat.le_refl _,Nat.zero_le _,rfl,ae⟩ ?_
 rintro _ au y w' ⟨out,d,b,rfl,a,n,k,rfl,f,x,am,h,j⟩;have aw:=f.len;have an:=congrArg List.length h;simp only [List.length_append] at an;refine AF (fun ai=>?_) fun ai=>?_
 .obtain ⟨i,p⟩:∃ i,s.data.toList[b]? = some i:=AA om;have u:=Gv p;refine jC b rfl p<|AF (fun t=>?_) fun t=>?_
  .have q:i=c:=UInt8.toNat_inj.1 om;refine CB kR d b x am (.inr rfl) (.inr rfl)<|bS BK (vs:=[.string (s.extract d b)]) fun ac ap ag ao e l=>AB.append (enc:=eS) BK AP (f.ext e) (ys:=[s.extract d b]) (m:=1) l.cells rfl (by simp [Al,eS,AM]) om om (Nat.le_trans j.size e.size) fun ab ad aq g o=>jP (((b+1:Nat):Int))<|jP (((b+1:Nat):Int)) ⟨(out++[s.extract d b],b+1,b+1),(by show s.size - (b+1)<s.size - b;omega),_,_,_,rfl,_,_,_,rfl,g,Nat.le_refl _,om,?_,xm (xt j e) o (AQ f.new)⟩;rw [h,u,FO];simp only [Et,q,if_true,Nat.sub_self,List.take_zero,List.map_cons,List.append_assoc,List.singleton_append]
  .have q:¬ i=c:=fun ah=>t (by rw [ah]);refine jP (((b+1:Nat):Int)) ⟨(out,d,b+1),(by show s.size - (b+1)<s.size - b;omega),_,_,_,rfl,_,_,_,rfl,f,om,om,?_,j⟩;rw [h,u];simp only [Et,if_neg q];have aj:(s.data.toList.drop d).take (b+1 - d)=(s.data.toList.drop d).take (b - d)++[i]:=by
    rw [show b+1 - d=(b - d)+1 by omega,List.take_add_one,List.getElem?_drop,show d+(b - d)=b by omega,p];rfl
   rw [aj]
 ·(conv=>whnf);have al:b=s.size:=om
  subst al;refine CB (k' := .i64) kR d s.size x (Nat.le_refl _) (.inr rfl) (.inl ⟨rfl,rfl⟩)<|bS BK (vs:=[.string (s.extract d s.size)]) fun ac ap ag ao e l=>AB.append (enc:=eS) BK AP (f.ext e) (ys:=[s.extract d s.size]) (m:=1) l.cells rfl (by simp [Al,eS,AM]) om om (Nat.le_trans j.size e.size) ?_;intro ab ad aq g o;(conv=>whnf);have ak:s.data.toList.drop s.size=[]:=List.drop_eq_nil_of_le om;rw [ak] at h;simp only [Et,List.map_cons,List.map_nil] at h;rw [FO,<- h] at g;exact ⟨_,_,_,rfl,g.le.1,g.new,g.own,xm (xt j e) o (AQ f.new)⟩
theorem G2 (hs:s.size<=1048576) (c:UInt8) (w:World):Dq 18 [.string s,.int .u8 c.toNat] w (fun v w'=>∃ a n k,v = .slice a n k/\Ab w.heap.size a/\Bs eS w' a n 9 (Ay c s)/\AD w w'):=(QJ hs c w).mono fun _ _ ⟨a,n,k,b,_,d⟩=>⟨a,n,k,b,d⟩
theorem BD (hs:s.size<=1048576) (hT:GR w) (hE:Eg w):Dq 69 [.string s] w (fun v w'=>v = .tuple #[.int .i64 (Ao s),.bool (Ei s)]/\AD w w'):=by
 have a:=XN s;unfold Ao Ei;refine oV Tryz.func69 ?_;refine (Ud om hE).mono ?_;rintro _ q ⟨⟨h,c,rfl⟩ | ⟨c,h,p,n,rfl⟩,b⟩
 .rw [c] at a;have g:=Lib.parseIntB_bounds c;have l:BH h:=⟨by simp at g;omega,by simp at g;omega⟩;simp only at a;refine VB kR ?_;refine (Cm l (hT.ext b)).mono ?_;rintro _ r ⟨rfl,d⟩;refine AW (fun f=>?_) fun f=>?_
  .rw [if_neg (fun e=>f e.1)] at a;rw [a];exact ⟨rfl,xt b d⟩
  .refine (SE s _).mono ?_;rintro _ _ ⟨rfl,rfl⟩;(conv=>whnf);have o:(bs (BC s.data.toList)).size=(BC s.data.toList).length:=BY _;refine AF (fun j=>?_) fun j=>?_
   .rw [if_neg (fun e=>by have:=e.2;omega)] at a;rw [a];exact ⟨rfl,xt b d⟩
   .rw [if_pos ⟨f,om⟩] at a;rw [a];exact ⟨rfl,xt b d⟩
 .have k:Kf s=none:=by
   rw [a];split
   .rename_i m i;exact absurd i (c m)
   .rfl
  rw [k];refine VC kR ?_;exact ⟨rfl,b⟩
theorem Bo (hs:s.size<=1048576) (w:World):Dq 96 [.string s] w (fun v w'=>v = .tuple #[.int .i64 (Ao s),.bool (Ei s)]/\AD w w'):=by
 have ar:s.data.toList.length=s.size:=sI
 have t:((BC s.data.toList).length<1\/18<(BC s.data.toList).length)->Kf s=none:=fun z=>by unfold Kf;rw [if_pos z]
 have ao:Kv (BC s.data.toList)=none->¬ ((BC s.data.toList).length<1\/18<(BC s.data.toList).length)->Kf s=none:=fun i n=>by unfold Kf;rw [if_neg n,i]
 have ap:∀ r,Kv (BC s.data.toList)=some r->¬ ((BC s.data.toList).length<1\/18<(BC s.data.toList).length)->Kf s=if BV (if (BC s.data.toList).length<s.data.toList.length then -(r:Int) else r)=s then some (if (BC s.data.toList).length<s.data.toList.length then -(r:Int) else r) else none :=
  fun r i n=>by unfold Kf;rw [if_neg n,i]
 unfold Ao Ei;refine oV Tryz.func96 ?_;conv=>whnf
 with_reducible refine AW (fun ac=>?_) (fun ac=>?_)
 .have a4:0<s.size:=by
   rcases Nat.eq_zero_or_pos s.size with z | z
   .exfalso;apply ac;apply Cs;exact List.eq_nil_of_length_eq_zero om
   .exact z
  (conv=>whnf);obtain ⟨av,af⟩:∃ au,s.data.toList[0]? = some au:=AA om;refine jC 0 rfl af ?_;(conv=>whnf);with_reducible refine AF (fun q=>?_) (fun q=>?_)
  .have a1:av=45:=UInt8.toNat_inj.1 sW;have l:BC s.data.toList=s.data.toList.drop 1:=by
    unfold BC;rw [if_pos (by rw [List.head?_eq_getElem?,af,a1]),List.drop_one]
   (conv=>whnf);refine CB (k' := .i64) kR 1 s.size om (Nat.le_refl _) (.inr rfl) (.inl ⟨rfl,rfl⟩) ?_;have aa:(s.extract 1 s.size).data.toList=BC s.data.toList:=by
    rw [FO,Py,l,List.take_of_length_le sI]
   have a3:(s.extract 1 s.size).size=s.size - 1:=U3 s 1 s.size (Nat.le_refl _);have ax:(s.extract 1 s.size).data.toList.length=(s.extract 1 s.size).size:=sI
   generalize s.extract 1 s.size=m at *;have ay:(BC s.data.toList).length=m.size:=by rw [<- aa,ax]
   (conv=>whnf);with_reducible refine AF (fun i=>?_) (fun i=>?_)
   .have b:=t (.inl om);rw [b];(conv=>whnf);exact ⟨rfl,AD.refl _⟩
   ·(conv=>whnf);with_reducible refine AF (fun n=>?_) (fun n=>?_)
    .have b:=t (.inr om);rw [b];(conv=>whnf);exact ⟨rfl,AD.refl _⟩
    .have x:¬ ((BC s.data.toList).length<1\/18<(BC s.data.toList).length):=om
     (conv=>whnf);refine lR [0,4,5,6] (fun (p:Nat×Nat) y w'=>∃ c a,p=(c,a)/\y=[.string s,.string m,.int .i64 c,.int .i64 a]/\a<=m.size/\Kv ((BC s.data.toList).take a)=some c/\w=w') (fun p=>m.size - p.2) (0,0) ⟨0,0,rfl,rfl,om,rfl,rfl⟩ ?_;rintro _ aw y w' ⟨c,a,rfl,rfl,a2,j,rfl⟩;have ak:=GJ _ 0 c 0 dE j;have ai:((BC s.data.toList).take a).length<=18:=by rw [List.length_take];omega
     have az:c<1000000000000000000:=Nat.lt_of_lt_of_le ak (by rw [Nat.zero_add];exact Nat.pow_le_pow_right dE ai);(conv=>whnf);with_reducible refine AF (fun q=>?_) (fun q=>?_)
     .obtain ⟨d,o⟩:∃ d,m.data.toList[a]? = some d:=AA om;have ae:(BC s.data.toList)[a]? = some d:=by rw [<- aa];exact o
      have h:Kv ((BC s.data.toList).take (a+1))=(if Gl d then some (10 * c+(d.toNat - 48)) else none):=by
       rw [List.take_add_one,ae];show Kv (_++[d])=_;rw [OJ,j];rfl
      (conv=>whnf);refine jC a rfl o ?_;(conv=>whnf);refine (FG _ w).mono ?_;rintro _ _ ⟨rfl,rfl⟩;(conv=>whnf);have u:DR d.toNat=Gl d:=rfl;with_reducible refine BA (fun f=>?_) (fun f=>?_)
      .rw [u] at f;rw [f] at h;have l:Kv (BC s.data.toList)=none:=by
        have ab:BC s.data.toList=(BC s.data.toList).take (a+1)++(BC s.data.toList).drop (a+1):=(List.take_append_drop _ _).symm;have am:Ck (some 0) ((BC s.data.toList).take (a+1))=none:=h;rw [ab];unfold Kv;rw [Fw,am,G6]
       rw [ao l x];(conv=>whnf);exact ⟨rfl,AD.refl _⟩
      .rw [u] at f;rw [f,if_pos rfl] at h;simp only [Gl,Bool.and_eq_true,decide_eq_true_eq] at f;have al:=GJ _ 0 _ 0 dE h;have aj:((BC s.data.toList).take (a+1)).length<=18:=by rw [List.length_take];omega
       have a0:10 * c+(d.toNat - 48)<1000000000000000000:=Nat.lt_of_lt_of_le al (by rw [Nat.zero_add];exact Nat.pow_le_pow_right dE aj);(conv=>whnf);refine AB.mul (10 * (c:Int)) rfl om om ?_;(conv=>whnf);refine jC a rfl o ?_;(conv=>whnf);refine Tx (((d.toNat - 48:Nat)):Int) om (IN om om) ?_;(conv=>whnf);refine As (k := .i64) kR kR (Bv om om) ?_
       (conv=>whnf);refine jP (((10 * c+(d.toNat - 48):Nat)):Int) ?_;(conv=>whnf);refine jP (((a+1:Nat):Int)) ?_;(conv=>whnf);exact ⟨(_,a+1),(by show m.size - (a+1)<m.size - a;omega),_,_,rfl,rfl,om,h,rfl⟩
     .have ah:a=m.size:=om
      subst ah;rw [List.take_of_length_le om] at j;have b:=ap c j x;(conv=>whnf);with_reducible refine AF (fun ad=>?_) (fun ad=>?_)
      .rw [if_pos (show (BC s.data.toList).length<s.data.toList.length by omega)] at b;(conv=>whnf);refine AB.neg (-(c:Int)) rfl om om ?_;(conv=>whnf);refine (CC ⟨om,om⟩ w).mono ?_;rintro _ an ⟨rfl,g⟩;(conv=>whnf);with_reducible refine AW (fun e=>?_) (fun e=>?_)
       .rw [if_neg e] at b;rw [b];(conv=>whnf);exact ⟨rfl,g⟩
       .rw [if_pos e] at b;rw [b];(conv=>whnf);exact ⟨rfl,g⟩
      .rw [if_neg (show ¬ (BC s.data.toList).length<s.data.toList.length by omega)] at b;(conv=>whnf);refine (CC ⟨om,om⟩ w).mono ?_;rintro _ an ⟨rfl,g⟩;(conv=>whnf);with_reducible refine AW (fun e=>?_) (fun e=>?_)
       .rw [if_neg e] at b;rw [b];(conv=>whnf);exact ⟨rfl,g⟩
       .rw [if_pos e] at b;rw [b];(conv=>whnf);exact ⟨rfl,g⟩
  .have l:BC s.data.toList=s.data.toList:=by
    unfold BC;rw [if_neg];intro ag;rw [List.head?_eq_getElem?,af] at ag;simp only [Option.some.injEq] at ag;exact q (by rw [ag];rfl)
   have aa:s.data.toList=BC s.data.toList:=l.symm;have ay:(BC s.data.toList).length=s.size:=by rw [l,ar]
   (conv=>whnf);with_reducible refine AF (fun i=>?_) (fun i=>?_)
   .have b:=t (.inl om);rw [b];(conv=>whnf);exact ⟨rfl,AD.refl _⟩
   ·(conv=>whnf);with_reducible refine AF (fun n=>?_) (fun n=>?_)
    .have b:=t (.inr om);rw [b];(conv=>whnf);exact ⟨rfl,AD.refl _⟩
    .have x:¬ ((BC s.data.toList).length<1\/18<(BC s.data.toList).length):=om
     (conv=>whnf);refine lR [0,4,5,6] (fun (p:Nat×Nat) y w'=>∃ c a,p=(c,a)/\y=[.string s,.string s,.int .i64 c,.int .i64 a]/\a<=s.size/\Kv ((BC s.data.toList).take a)=some c/\w=w') (fun p=>s.size - p.2) (0,0) ⟨0,0,rfl,rfl,om,rfl,rfl⟩ ?_;rintro _ aw y w' ⟨c,a,rfl,rfl,a2,j,rfl⟩;have ak:=GJ _ 0 c 0 dE j;have ai:((BC s.data.toList).take a).length<=18:=by rw [List.length_take];omega
     have az:c<1000000000000000000:=Nat.lt_of_lt_of_le ak (by rw [Nat.zero_add];exact Nat.pow_le_pow_right dE ai);(conv=>whnf);with_reducible refine AF (fun q=>?_) (fun q=>?_)
     .obtain ⟨d,o⟩:∃ d,s.data.toList[a]? = some d:=AA om;have ae:(BC s.data.toList)[a]? = some d:=by rw [<- aa];exact o
      have h:Kv ((BC s.data.toList).take (a+1))=(if Gl d then some (10 * c+(d.toNat - 48)) else none):=by
       rw [List.take_add_one,ae];show Kv (_++[d])=_;rw [OJ,j];rfl
      (conv=>whnf);refine jC a rfl o ?_;(conv=>whnf);refine (FG _ w).mono ?_;rintro _ _ ⟨rfl,rfl⟩;(conv=>whnf);have u:DR d.toNat=Gl d:=rfl;with_reducible refine BA (fun f=>?_) (fun f=>?_)
      .rw [u] at f;rw [f] at h;have l:Kv (BC s.data.toList)=none:=by
        have ab:BC s.data.toList=(BC s.data.toList).take (a+1)++(BC s.data.toList).drop (a+1):=(List.take_append_drop _ _).symm;have am:Ck (some 0) ((BC s.data.toList).take (a+1))=none:=h;rw [ab];unfold Kv;rw [Fw,am,G6]
       rw [ao l x];(conv=>whnf);exact ⟨rfl,AD.refl _⟩
      .rw [u] at f;rw [f,if_pos rfl] at h;simp only [Gl,Bool.and_eq_true,decide_eq_true_eq] at f;have al:=GJ _ 0 _ 0 dE h;have aj:((BC s.data.toList).take (a+1)).length<=18:=by rw [List.length_take];omega
       have a0:10 * c+(d.toNat - 48)<1000000000000000000:=Nat.lt_of_lt_of_le al (by rw [Nat.zero_add];exact Nat.pow_le_pow_right dE aj);(conv=>whnf);refine AB.mul (10 * (c:Int)) rfl om om ?_;(conv=>whnf);refine jC a rfl o ?_;(conv=>whnf);refine Tx (((d.toNat - 48:Nat)):Int) om (IN om om) ?_;(conv=>whnf);refine As (k := .i64) kR kR (Bv om om) ?_
       (conv=>whnf);refine jP (((10 * c+(d.toNat - 48):Nat)):Int) ?_;(conv=>whnf);refine jP (((a+1:Nat):Int)) ?_;(conv=>whnf);exact ⟨(_,a+1),(by show s.size - (a+1)<s.size - a;omega),_,_,rfl,rfl,om,h,rfl⟩
     .have ah:a=s.size:=om
      subst ah;rw [List.take_of_length_le om] at j;have b:=ap c j x;(conv=>whnf);with_reducible refine AF (fun ad=>?_) (fun ad=>?_)
      .rw [if_pos (show (BC s.data.toList).length<s.data.toList.length by omega)] at b;(conv=>whnf);refine AB.neg (-(c:Int)) rfl om om ?_;(conv=>whnf);refine (CC ⟨om,om⟩ w).mono ?_;rintro _ an ⟨rfl,g⟩;(conv=>whnf);with_reducible refine AW (fun e=>?_) (fun e=>?_)
       .rw [if_neg e] at b;rw [b];(conv=>whnf);exact ⟨rfl,g⟩
       .rw [if_pos e] at b;rw [b];(conv=>whnf);exact ⟨rfl,g⟩
      .rw [if_neg (show ¬ (BC s.data.toList).length<s.data.toList.length by omega)] at b;(conv=>whnf);refine (CC ⟨om,om⟩ w).mono ?_;rintro _ an ⟨rfl,g⟩;(conv=>whnf);with_reducible refine AW (fun e=>?_) (fun e=>?_)
       .rw [if_neg e] at b;rw [b];(conv=>whnf);exact ⟨rfl,g⟩
       .rw [if_pos e] at b;rw [b];(conv=>whnf);exact ⟨rfl,g⟩
 .have aq:s.data.toList=[]:=by rw [ac]
  have b:=t (.inl (by rw [aq];exact Nat.one_pos));have a5:s.size=0:=by rw [<- ar,aq];simp
  (conv=>whnf);with_reducible refine AF (fun i=>?_) (fun i=>?_)
  .rw [b];(conv=>whnf);exact ⟨rfl,AD.refl _⟩
  .omega
end
end Go.Proofs.YtalgenmoljcnmaaGreatDoor
