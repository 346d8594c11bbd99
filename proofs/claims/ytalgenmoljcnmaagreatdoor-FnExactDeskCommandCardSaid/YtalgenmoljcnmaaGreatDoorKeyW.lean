/- Parts of the proof; no conditions of its own. -/
import Derived.Test.YtalgenmoljcnmaaGreatDoorOffi
import Derived.Test.YtalgenmoljcnmaaGreatDoorStab
import Derived.Test.YtalgenmoljcnmaaGreatDoorModel
import Derived.Test.YtalgenmoljcnmaaGreatDoorFTotal
import Derived.Test.YtalgenmoljcnmaaGreatDoorVcWrite
namespace Go.Proofs.YtalgenmoljcnmaaGreatDoor
open Go Go.RowKit Go.Vc Go.M
variable {w:World} {a:Option Addr} {n c:Nat} {xs:List ByteArray}
theorem VX (h:A4 eS 1 w a n xs) (t:ByteArray):Dq 350 [.slice a n c,.string t] w (fun v w'=>v = .bool (xs.any fun x=>decide (x=t))/\AD w w'):=by
 have ag:=h.len;have af:=h.le;refine oV Tryz.func350 ?_;refine lR [0,1,5] (fun (b:Nat) ac w'=>ac=[.slice a n c,.string t,.int .i64 b]/\b<=n/\(∀ d x,d<b->xs[d]? = some x->¬ x=t)/\AD w w') (fun b=>n - b) 0 ⟨rfl,om,fun d x i=>by omega,AD.refl _⟩ ?_;rintro b ad _ ah ⟨rfl,ae,o,f⟩;rcases Nat.lt_or_ge b n with y | y
 .obtain ⟨x,j⟩:=AA (l:=xs) (k:=b) om;by_cases p:x=t
  .have u:(xs.any fun x=>decide (x=t))=true:=List.any_eq_true.2 ⟨x,List.mem_of_getElem? j,decide_eq_true p⟩;rw [u];exact iY<|jI (h.ext f) b rfl j fun q ab s m=>jO m rfl<|iY ⟨rfl,f⟩
  .have z:∀ d e,d<b+1->xs[d]? = some e->¬ e=t:=fun d e i g=>by
    by_cases r:d=b
    .subst r;rw [j] at g;cases g;exact p
    .exact o d e om g
   exact iY<|jI (h.ext f) b rfl j fun q ab s m=>jO m rfl<|iN<|jP (((b+1:Nat):Int)) ⟨b+1,om,rfl,om,z,f⟩
 .have aa:(xs.any fun x=>decide (x=t))=false:=by
   rw [List.any_eq_false];intro e g;obtain ⟨d,i⟩:=List.mem_iff_getElem?.1 g;have:=o d e (by have:=(List.getElem?_eq_some_iff.1 i).1;omega) i;simpa using this
  rw [aa];exact iN ⟨rfl,f⟩
theorem Ue (h:A4 eS 1 w a n xs) (t:ByteArray):Dq 68 [.slice a n c,.string t] w (fun v w'=>∃ r:Int,v = .int .i64 r/\decide (0<=r)=(xs.any fun x=>decide (x=t))∧-1<=r/\AD w w'):=by
 have ah:=h.len;have ag:=h.le;refine oV Tryz.func68 ?_;refine lR [0,1,7,8] (fun (b:Nat) ad w'=>ad=[.slice a n c,.string t,.int .i64 n,.int .i64 b]/\b<=n/\(∀ d x,d<b->xs[d]? = some x->¬ x=t)/\AD w w') (fun b=>n - b) 0 ⟨rfl,om,fun d x i=>by omega,AD.refl _⟩ ?_;rintro b ae _ aj ⟨rfl,af,q,f⟩;rcases Nat.lt_or_ge b n with z | z
 .obtain ⟨x,j⟩:=AA (l:=xs) (k:=b) om;by_cases m:x=t
  .have y:(xs.any fun x=>decide (x=t))=true:=List.any_eq_true.2 ⟨x,List.mem_of_getElem? j,decide_eq_true m⟩;rw [y];subst m;exact iY<|jI (h.ext f) b rfl j fun s ac u p=>jO p rfl<|K3.yes rfl ⟨_,rfl,rfl,om,f⟩
  .have aa:∀ d e,d<b+1->xs[d]? = some e->¬ e=t:=fun d e i g=>by
    by_cases o:d=b
    .subst o;rw [j] at g;cases g;exact m
    .exact q d e om g
   have ai:¬ t=x:=fun o=>m o.symm;exact iY<|jI (h.ext f) b rfl j fun s ac u p=>jO p rfl<|iN<|jP (((b+1:Nat):Int)) ⟨b+1,om,rfl,om,aa,f⟩
 .have ab:(xs.any fun x=>decide (x=t))=false:=by
   rw [List.any_eq_false];intro e g;obtain ⟨d,i⟩:=List.mem_iff_getElem?.1 g;have:=q d e (by have:=(List.getElem?_eq_some_iff.1 i).1;omega) i;simpa using this
  rw [ab];exact iN ⟨_,rfl,rfl,om,f⟩
theorem PH (h:A4 eS 1 w a n xs) (t:ByteArray):Dq 31 [.slice a n c,.string t] w (fun v w'=>v = .bool (xs.any fun x=>decide (x=t))/\AD w w'):=by
 refine oV Tryz.func31 ?_;refine (Ue h t).mono ?_;rintro _ g ⟨f,rfl,d,e,b⟩;exact ⟨by simp only [*],b⟩
end Go.Proofs.YtalgenmoljcnmaaGreatDoor
namespace Go.M
open Go Go.Vc
variable {k c:Nat}
def Wg:ByteArray:=bs NO
theorem RY:Wg.size=40:=rfl
theorem Tp (h:k<40):Wg.data.toList[k]? = some (BI k):=OM h
theorem orC {a:Int} {o:Nat} (ha:a=1/\65<=c/\c<=73/\o=64\/a=2/\74<=c/\c<=82/\o=73\/a=4/\83<=c/\c<=90/\o=81):orV .i64 a (CG ((c:Int) - o))=a+CG ((c:Int) - o):=by
 rcases ha with ⟨rfl,f,g,rfl⟩ | ⟨rfl,f,g,rfl⟩ | ⟨rfl,f,g,rfl⟩
 .obtain ⟨b,rfl⟩:∃ b:Nat,c=65+b:=⟨c - 65,om⟩;have e:∀ d:Fin 9,orV .i64 1 (CG (((65+d.val:Nat):Int) - (64:Nat)))=1+CG (((65+d.val:Nat):Int) - (64:Nat)):=by decide +kernel
  exact e ⟨b,om⟩
 .obtain ⟨b,rfl⟩:∃ b:Nat,c=74+b:=⟨c - 74,om⟩;have e:∀ d:Fin 9,orV .i64 2 (CG (((74+d.val:Nat):Int) - (73:Nat)))=2+CG (((74+d.val:Nat):Int) - (73:Nat)):=by decide +kernel
  exact e ⟨b,om⟩
 .obtain ⟨b,rfl⟩:∃ b:Nat,c=83+b:=⟨c - 83,om⟩;have e:∀ d:Fin 8,orV .i64 4 (CG (((83+d.val:Nat):Int) - (81:Nat)))=4+CG (((83+d.val:Nat):Int) - (81:Nat)):=by decide +kernel
  exact e ⟨b,om⟩
theorem Th (h:48<=c/\c<=57):ED c=CG ((c:Int) - 48):=by
 unfold ED;rw [if_neg om,if_neg om,if_neg om,if_neg om,if_pos h]
theorem YG (h:65<=c/\c<=73):ED c=1+CG ((c:Int) - 64):=by
 unfold ED;rw [if_neg om,if_neg om,if_neg om,if_neg om,if_neg om,if_pos h]
theorem YF (h:74<=c/\c<=82):ED c=2+CG ((c:Int) - 73):=by
 unfold ED;rw [if_neg om,if_neg om,if_neg om,if_neg om,if_neg om,if_neg om,if_pos h]
theorem YE (h:83<=c/\c<=90):ED c=4+CG ((c:Int) - 81):=by
 unfold ED;rw [if_neg om,if_neg om,if_neg om,if_neg om,if_neg om,if_neg om,if_neg om,if_pos h]
theorem Tq (h:k<40):(BI k).toNat=32\/(BI k).toNat=38\/(BI k).toNat=45\/(BI k).toNat=47\/(48<=(BI k).toNat/\(BI k).toNat<=57)\/(65<=(BI k).toNat/\(BI k).toNat<=73)\/(74<=(BI k).toNat/\(BI k).toNat<=82)\/(83<=(BI k).toNat/\(BI k).toNat<=90):=by
 have b:∀ a:Fin 40,(BI a.val).toNat=32\/(BI a.val).toNat=38\/(BI a.val).toNat=45\/(BI a.val).toNat=47\/(48<=(BI a.val).toNat/\(BI a.val).toNat<=57)\/(65<=(BI a.val).toNat/\(BI a.val).toNat<=73)\/(74<=(BI a.val).toNat/\(BI a.val).toNat<=82)\/(83<=(BI a.val).toNat/\(BI a.val).toNat<=90):=by decide +kernel
 exact b ⟨k,h⟩
def Lv (c:Nat):Prop:=c=32\/c=38\/c=45\/c=47\/(48<=c/\c<=57)\/(65<=c/\c<=73)\/(74<=c/\c<=82)\/(83<=c/\c<=90)
end Go.M
namespace Go.Proofs.YtalgenmoljcnmaaGreatDoor
open Go Go.RowKit Go.Vc Go.M
variable {c:Nat}
theorem WL (hc:Lv c) (w:World):Dq 310 [.int .u8 c] w (fun v w'=>v = .tuple #[.int .i64 (ED c),.bool true]/\AD w w'):=by
 have q:CG 12=1:=Pz rfl;have p:CG 11=2:=NQ rfl;have n:CG 0=4:=rfl;rcases hc with rfl | rfl | rfl | rfl | b | b | b | b
 .refine oV Tryz.func310 ?_;exact ⟨rfl,AD.refl _⟩
 .refine oV Tryz.func310 ?_;refine (CE _ _).mono ?_;rintro _ m ⟨rfl,g⟩;exact ⟨rfl,g⟩
 .refine oV Tryz.func310 ?_;refine (CE _ _).mono ?_;rintro _ m ⟨rfl,g⟩;exact ⟨rfl,g⟩
 .refine oV Tryz.func310 ?_;conv=>whnf
  refine (Fa _ _).mono ?_;rintro _ _ ⟨rfl,rfl⟩;refine (CE _ _).mono ?_;rintro _ k ⟨rfl,d⟩;refine (CE _ _).mono ?_;rintro _ l ⟨rfl,e⟩;refine AB.or ?_;exact ⟨rfl,(xt d e)⟩
 .have j:DR c=true:=by simp [DR];omega
  have f:(c:Int) - 48=((c - 48:Nat):Int):=om
  rw [Th b,f];refine oV Tryz.func310 ?_;refine iN ?_;refine iN ?_;refine iN ?_;refine (Fa _ _).mono ?_;rintro _ _ ⟨rfl,rfl⟩;refine iT ?_;refine Hn ?_;(conv=>whnf);rw [IN om om,show (c:Int) - 48=((c - 48:Nat):Int) from by omega];refine As kR kR (Bv om om) ?_
  refine (CE _ _).mono ?_;rintro _ m ⟨rfl,g⟩;exact ⟨rfl,g⟩
 .have j:DR c=false:=by simp [DR];omega
  have i:=orC (a:=1) (c:=c) (o:=64) (.inl ⟨rfl,b.1,b.2,rfl⟩);have f:(c:Int) - 64=((c - 65+1:Nat):Int):=om
  have h:(c:Int) - (64:Nat)=((c - 65+1:Nat):Int):=om
  rw [YG b,f];rw [h] at i;refine oV Tryz.func310 ?_;refine iN ?_;refine iN ?_;refine iN ?_;refine (Fa _ _).mono ?_;rintro _ _ ⟨rfl,rfl⟩;refine iF ?_;refine iY ?_;refine iY ?_;refine (CE _ _).mono ?_;rintro _ k ⟨rfl,d⟩;refine Hn ?_;(conv=>whnf);rw [IN om om,show (c:Int) - 65=((c - 65:Nat):Int) from by omega];refine As kR kR (Bv om om) ?_
  refine jP (((c - 65+1:Nat):Int)) ?_;refine (CE _ _).mono ?_;rintro _ l ⟨rfl,e⟩;refine AB.or ?_;exact ⟨by simp only [*],(xt d e)⟩
 .have j:DR c=false:=by simp [DR];omega
  have i:=orC (a:=2) (c:=c) (o:=73) (.inr (.inl ⟨rfl,b.1,b.2,rfl⟩));have f:(c:Int) - 73=((c - 74+1:Nat):Int):=om
  have h:(c:Int) - (73:Nat)=((c - 74+1:Nat):Int):=om
  rw [YF b,f];rw [h] at i;refine oV Tryz.func310 ?_;refine iN ?_;refine iN ?_;refine iN ?_;refine (Fa _ _).mono ?_;rintro _ _ ⟨rfl,rfl⟩;refine iF ?_;refine iY ?_;refine iN ?_;refine iY ?_;refine iY ?_;refine (CE _ _).mono ?_;rintro _ k ⟨rfl,d⟩;refine Hn ?_;(conv=>whnf);rw [IN om om,show (c:Int) - 74=((c - 74:Nat):Int) from by omega];refine As kR kR (Bv om om) ?_
  refine jP (((c - 74+1:Nat):Int)) ?_;refine (CE _ _).mono ?_;rintro _ l ⟨rfl,e⟩;refine AB.or ?_;exact ⟨by simp only [*],(xt d e)⟩
 .have j:DR c=false:=by simp [DR];omega
  have i:=orC (a:=4) (c:=c) (o:=81) (.inr (.inr ⟨rfl,b.1,b.2,rfl⟩));have f:(c:Int) - 81=((c - 83+2:Nat):Int):=om
  have h:(c:Int) - (81:Nat)=((c - 83+2:Nat):Int):=om
  rw [YE b,f];rw [h] at i;refine oV Tryz.func310 ?_;refine iN ?_;refine iN ?_;refine iN ?_;refine (Fa _ _).mono ?_;rintro _ _ ⟨rfl,rfl⟩;refine iF ?_;refine iY ?_;refine iN ?_;refine iY ?_;refine iN ?_;refine iN ?_;refine iY ?_;refine iY ?_;refine (CE _ _).mono ?_;rintro _ k ⟨rfl,d⟩;refine Hn ?_;(conv=>whnf);rw [IN om om,show (c:Int) - 83=((c - 83:Nat):Int) from by omega];refine As kR kR (Bv om om) ?_
  refine jP (((c - 83+2:Nat):Int)) ?_;refine (CE _ _).mono ?_;rintro _ l ⟨rfl,e⟩;refine AB.or ?_;exact ⟨by simp only [*],(xt d e)⟩
theorem Ks (hc:Lv c) (w:World):Dq 265 [.int .u8 c] w (fun v w'=>v = .int .i64 (ED c)/\AD w w'):=by
 refine oV Tryz.func265 ?_;refine (WL hc _).mono ?_;rintro _ b ⟨rfl,a⟩;exact ⟨rfl,a⟩
theorem Em (m:Int) (w:World):Dq 267 [.int .i64 m] w (fun v w'=>v = .int .i64 (Bk m)/\AD w w'):=by
 refine oV Tryz.func267 ?_;refine lR [0,3] (fun (a:Nat) l w'=>l=[.int .i64 m,.int .i64 a]/\a<=40/\(∀ b:Nat,b<a->Ef b≠m)/\AD w w') (fun a=>40 - a) 0 ⟨rfl,om,fun b h=>by omega,AD.refl _⟩ ?_;rintro a o _ s ⟨rfl,q,f,e⟩;rcases Nat.lt_or_ge a 40 with c | c
 .have j:(ByteArray.mk #[32,38,65,66,67,68,69,70,71,72,73,45,74,75,76,77,78,79,80,81,82,47,83,84,85,86,87,88,89,90,48,49,50,51,52,53,54,55,56,57]).data.toList[a]? = some (BI a):=OM c;have p:=Tq c;by_cases i:ED (BI a).toNat=m
  .have g:=Vj c f i;rw [g];exact iY<|jC a rfl j<|dM (Ks (by assumption) _) fun n d=>iY ⟨rfl,(xt e d)⟩
  .have r:∀ b:Nat,b<a+1->Ef b≠m:=fun b h=>by
    by_cases k:b=a
    .subst k;exact i
    .exact f b om
   exact iY<|jC a rfl j<|dM (Ks (by assumption) _) fun n d=>iN<|jP (((a+1:Nat):Int)) ⟨a+1,om,rfl,om,om,(xt e d)⟩
 .have g:=QQ (m:=m) (fun b h=>f b om);rw [g];exact iN ⟨rfl,e⟩
theorem JU (hc:Lv c) (w:World):Dq 163 [.int .u8 c] w (fun v w'=>v = .int .i64 (ED c)/\AD w w'):=by
 have k:CG 1=8:=rfl;rcases hc with rfl | rfl | rfl | rfl | b | b | b | b
 .refine oV Tryz.func163 ?_;refine As kR kR (Bv om om) ?_
  exact ⟨rfl,AD.refl _⟩
 .refine oV Tryz.func163 ?_;refine As kR kR (Bv om om) ?_
  exact ⟨rfl,AD.refl _⟩
 .refine oV Tryz.func163 ?_;refine As kR kR (Bv om om) ?_
  exact ⟨rfl,AD.refl _⟩
 .refine oV Tryz.func163 ?_;conv=>whnf
  exact As kR kR (Bv om om)<|dM (Dt _ _) fun l j=>AB.or ⟨rfl,j⟩
 .have h:DR c=true:=by simp [DR];omega
  have f:(c:Int) - 48=((c - 48:Nat):Int):=om
  rw [Th b,f];refine oV Tryz.func163 ?_;refine As kR kR (Bv om om) ?_
  refine iN ?_;refine iN ?_;refine iN ?_;refine iN<|(FG _ _).mono ?_;rintro _ _ ⟨rfl,rfl⟩;refine iT ?_;refine AB.sub (((c - 48:Nat):Int)) om om om ?_;refine (Dt _ _).mono ?_;rintro _ i ⟨rfl,e⟩;refine ⟨?_,e⟩
  .rfl
 .have h:DR c=false:=by simp [DR];omega
  have d:=orC (a:=1) (c:=c) (o:=64) (.inl ⟨rfl,b.1,b.2,rfl⟩);have f:(c:Int) - 64=((c - 65+1:Nat):Int):=om
  have g:(c:Int) - (64:Nat)=((c - 65+1:Nat):Int):=om
  rw [YG b,f];rw [g] at d;refine oV Tryz.func163 ?_;refine As kR kR (Bv om om) ?_
  refine iN ?_;refine iN ?_;refine iN ?_;refine iN ?_;refine (FG _ _).mono ?_;rintro _ _ ⟨rfl,rfl⟩;refine iF<|iY ?_;refine iY ?_;refine AB.sub (((c - 65:Nat):Int)) om om om ?_;refine jP (((c - 65+1:Nat):Int)) ?_;refine (Dt _ _).mono ?_;rintro _ i ⟨rfl,e⟩;refine AB.or ?_;refine ⟨?_,e⟩
  .rw [d]
 .have h:DR c=false:=by simp [DR];omega
  have d:=orC (a:=2) (c:=c) (o:=73) (.inr (.inl ⟨rfl,b.1,b.2,rfl⟩));have f:(c:Int) - 73=((c - 74+1:Nat):Int):=om
  have g:(c:Int) - (73:Nat)=((c - 74+1:Nat):Int):=om
  rw [YF b,f];rw [g] at d;refine oV Tryz.func163 ?_;refine As kR kR (Bv om om) ?_
  refine iN ?_;refine iN ?_;refine iN ?_;refine iN ?_;refine (FG _ _).mono ?_;rintro _ _ ⟨rfl,rfl⟩;refine iF ?_;refine iY ?_;refine iN<|iY<|iY ?_;refine AB.sub (((c - 74:Nat):Int)) om om om ?_;refine jP (((c - 74+1:Nat):Int)) ?_;refine (Dt _ _).mono ?_;rintro _ i ⟨rfl,e⟩;refine AB.or ?_;refine ⟨?_,e⟩
  .rw [d]
 .have h:DR c=false:=by simp [DR];omega
  have d:=orC (a:=4) (c:=c) (o:=81) (.inr (.inr ⟨rfl,b.1,b.2,rfl⟩));have f:(c:Int) - 81=((c - 83+2:Nat):Int):=om
  have g:(c:Int) - (81:Nat)=((c - 83+2:Nat):Int):=om
  rw [YE b,f];rw [g] at d;refine oV Tryz.func163 ?_;refine As kR kR (Bv om om) ?_
  refine iN ?_;refine iN ?_;refine iN ?_;refine iN ?_;refine (FG _ _).mono ?_;rintro _ _ ⟨rfl,rfl⟩;refine iF ?_;refine iY ?_;refine iN ?_;refine iY ?_;refine iN<|iY<|iY ?_;refine AB.sub (((c - 83:Nat):Int)) om om om ?_;refine jP (((c - 83+2:Nat):Int)) ?_;refine (Dt _ _).mono ?_;rintro _ i ⟨rfl,e⟩;refine AB.or ?_;refine ⟨?_,e⟩
  .rw [d]
theorem LY (w:World):Dq 290 [] w (fun v w'=>v = .string Wg/\w=w'):=by
 refine oV Tryz.func290 ?_;conv=>whnf
 exact ⟨rfl,rfl⟩
theorem UL (m:Int) (w:World):Dq 233 [.int .i64 m] w (fun v w'=>∃ x:UInt8,v = .tuple #[.int .u8 x.toNat,.bool (decide (0<=Bk m))]/\(0<=Bk m->x=BI (Bk m).toNat)/\AD w w'):=by
 have t:=RY;refine oV Tryz.func233 ?_;conv=>whnf
 refine (LY _).mono ?_;rintro _ u ⟨rfl,rfl⟩;refine lR [0,4,5] (fun (a:Nat) l w'=>l=[.int .i64 m,.string Wg,.int .i64 a]/\a<=40/\(∀ b:Nat,b<a->Ef b≠m)/\AD w w') (fun a=>40 - a) 0 ⟨rfl,om,fun b i=>by omega,AD.refl _⟩ ?_;rintro a o _ y ⟨rfl,r,f,e⟩;rcases Nat.lt_or_ge a 40 with c | c
 .have h:=Tp c;have q:=Tq c;by_cases j:ED (BI a).toNat=m
  .have g:=Vj c f j;rw [g];refine iY ?_;exact jC a rfl h<|dM (JU (by assumption) _) fun n d=>iY<|jC a rfl h ⟨_,rfl,by simp [*],(xt e d)⟩
  .have s:∀ b:Nat,b<a+1->Ef b≠m:=fun b i=>by
    by_cases k:b=a
    .subst k;exact j
    .exact f b om
   exact iY<|jC a rfl h<|dM (JU (by assumption) _) fun n d=>iN<|jP (((a+1:Nat):Int)) ⟨a+1,om,rfl,om,om,(xt e d)⟩
 .have g:=QQ (m:=m) (fun b i=>f b om);rw [g];exact iN ⟨0,rfl,fun p=>by omega,e⟩
theorem Me {q:Nat} (hq:q<40) (w:World):Dq 291 [.int .u8 (BI q).toNat] w (fun v w'=>v = .int .i64 q/\AD w w'):=by
 have j:=RY;refine oV Tryz.func291 ?_;conv=>whnf
 refine (LY _).mono ?_;rintro _ l ⟨rfl,rfl⟩;refine lR [0,3,4] (fun (a:Nat) f w'=>f=[.int .u8 (BI q).toNat,.string Wg,.int .i64 a]/\a<=q/\AD w w') (fun a=>40 - a) 0 ⟨rfl,om,AD.refl _⟩ ?_;rintro a g _ m ⟨rfl,h,b⟩;have d:=Tp (k:=a) om;by_cases c:a=q
 .subst c;refine iY ?_;exact jC a rfl d<|iY ⟨rfl,b⟩
 .have i:¬ (BI a).toNat=(BI q).toNat:=fun e=>c (Ra om hq (UInt8.toNat_inj.1 e));exact iY<|jC a rfl d<|iN<|jP (((a+1:Nat):Int)) ⟨a+1,om,rfl,om,b⟩
end Go.Proofs.YtalgenmoljcnmaaGreatDoor
namespace Go.M
open Go Go.Vc
variable {k:Nat} {x:Int}
def MH (r:List Int):List UInt8:=r.map fun k=>BI k.toNat
theorem Qo (r:List Int):(MH r).length=r.length:=by simp [MH]
theorem Oo {l:List Int} (h:l[k]? = some x):MH (CO (l.take (k+1)))=MH (CO (l.take k))++[BI (Bk x).toNat]:=by
 rw [List.take_add_one,h];simp [MH,CO]
theorem Xu {r:List Int} (h:r[k]? = some x):(Cf r).data.toList[k]? = some (BI x.toNat):=by
 unfold Cf;rw [Py,List.getElem?_map,h];rfl
end Go.M
namespace Go.Proofs.YtalgenmoljcnmaaGreatDoor
open Go Go.RowKit Go.Vc Go.M
variable {w:World} {a:Option Addr} {n c:Nat} {xs ys:List Int} {d:Hd} {f:AE}
theorem Ik (h:A4 eI 1 w a n xs) (hn2:n<=1000) :
  Dq 165 [.slice a n c] w (fun v w'=>v = .tuple #[.string (if Di xs=true then Cf (CO xs) else { data := #[] }),.bool (Di xs)]/\AD w w'):=by
 have a3:=h.len;refine oV Tryz.func165 ?_;refine bS J0 (vs:=[]) ?_;intro ay a9 ai a6 ah ab;have ad:=Ag (enc:=eB) F5 ab ai;refine lR [0,4,5] (fun (d:Nat) av w'=>∃ q y r,av=[.slice a n c,.slice q y r,.int .i64 d]/\d<=n/\(∀ e b,e<d->xs[e]? = some b->0<=Bk b)/\An eB 1 w.heap.size 5 w' q y r (MH (CO (xs.take d)))/\AD w w') (fun d=>n - d) 0 ⟨_,_,_,rfl,om,fun e b aa=>by omega,ad,ah⟩ ?_;rintro d a1 _ w' ⟨q,y,r,rfl,a2,z,j,f⟩;have aq:=j.len;rw [Qo,GF,List.length_take] at aq;rcases Nat.lt_or_ge d n with ap | ap
 .obtain ⟨b,o⟩:∃ b,xs[d]? = some b:=AA om;have l:=fun g=>UL b g;rcases Int.lt_or_le (Bk b) 0 with m | m
  .have am:=Z3 o m;rw [am];have x:decide (0<=Bk b)=false:=decide_eq_false om;rw [x] at l;refine iY<|jI (h.ext f) d rfl o fun ag au al u=>jO u rfl<|(l _).mono ?_;rintro _ aw ⟨bc,rfl,a8,k⟩;exact ⟨rfl,(xt f k)⟩
  .have x:decide (0<=Bk b)=true:=decide_eq_true m;rw [x] at l;have ak:∀ g,Dq 233 [.int .i64 b] g (fun v w'=>v = .tuple #[.int .u8 (BI (Bk b).toNat).toNat,.bool true]/\AD g w'):=fun g=>(l g).mono (by
    rintro _ a' ⟨i,rfl,p,s⟩;rw [p m];exact ⟨rfl,s⟩)
   clear l;have an:=Oo o;have a4:∀ e i,e<d+1->xs[e]? = some i->0<=Bk i:=fun e i aa p=>by
    by_cases s:e=d
    .subst s;rw [o] at p;cases p;exact m
    .exact z e i om p
   refine iY<|jI (h.ext f) d rfl o fun ag au al u=>jO u rfl<|dM (ak _) fun ba t=>bS J0 (vs:=[Value.int IntKind.u8 ↑(BI (Bk b).toNat).toNat]) ?_;intro az bb aj a7 k ac;have ae:=AH (n:=1) (enc:=eB) (xs:=[BI (Bk b).toNat]) F5 ac aj rfl dE;refine AN (enc:=eB) J0 F5 (j.ext (xt t k)) (ae.own.arr F5) (by intro i _;simp [eB,AM]) om om (Below.size (xt (xt f t) k)) fun ax a0 aw af ar a5=>jP (((d+1:Nat):Int)) ⟨d+1,om,_,_,_,rfl,om,om,?_,(xm (xt (xt f t) k) ar (AQ j.new))⟩
   .rw [an];exact af
 .have ao:Di xs=true:=Z5 (fun e b aa=>z e b om);rw [ao];rw [List.take_of_length_le om] at j;exact iN<|Ih kR kR j ⟨rfl,f⟩
theorem UK (h:A4 eI 1 w a n xs) (hn2:n<=1000) :
  Dq 165 [.slice a n c] w (fun v w'=>∃ s,v = .tuple #[.string s,.bool (Di xs)]/\(Di xs=true->s=Cf (CO xs))/\AD w w'):=(Ik h hn2).mono (by
 rintro _ w' ⟨rfl,b⟩;exact ⟨_,rfl,fun h=>if_pos h,b⟩)
theorem Og {b o:Nat} (R:AZ w d xs) (hc:AK w b o (eH d)) (hf:AR f xs.length=true) (hx20:xs.length<=20) :
  Dq 236 [.pointer (some ⟨b,o,none⟩),.agg ⟨f.enc⟩] w (fun v w'=>∃ s,v = .tuple #[.string s,.bool (Di (Ad xs f))]/\(Di (Ad xs f)=true->s=Cf (AS f xs))/\AD w w'):=by
 have x:=Bc hf;have m:∀ a,AD w a->∀ e g,A4 eI 1 a e (f.to_.toNat - f.from_.toNat) (Ad xs f)->Dq 165 [.slice e (f.to_.toNat - f.from_.toNat) g] a (fun v w'=>∃ s,v = .tuple #[.string s,.bool (Di (Ad xs f))]/\(Di (Ad xs f)=true->s=Cf (AS f xs))/\AD a w'):=fun a t e g l=>UK l om;refine oV Tryz.func236 ?_;refine AB.box ?_;intro q ac u y c j;refine jA (n:=2) j.cells rfl<|(JV ⟨R.1.ext c,R.2⟩ (hc.ext c) hf).mono ?_;rintro _ ad ⟨p,r,rfl,i,z,h⟩;refine (m _ (xt c h) _ _ i).mono ?_;rintro _ ae ⟨ab,rfl,aa,k⟩;exact ⟨_,rfl,om,(xt (xt c h) k)⟩
theorem HL {L:Nat} {r s:List Int} (hr:Gf L r) (hs:Gf L s) (w:World) (hL:L<=1000):Dq 237 [.string (Cf r),.string (Cf s)] w (fun v w'=>v = .int .i64 (CY r s)/\AD w w'):=by
 have ag:=I1 r;have ah:=I1 s;have y:=hr.1;have z:=hs.1;refine oV Tryz.func237 ?_;refine lR [0,1,5] (fun (a:Nat) aa w'=>aa=[.string (Cf r),.string (Cf s),.int .i64 a]/\a<=L/\r.take a=s.take a/\AD w w') (fun a=>L - a) 0 ⟨rfl,om,rfl,AD.refl _⟩ ?_;rintro a ad _ ai ⟨rfl,ae,l,k⟩;rcases Nat.lt_or_ge a L with x | x
 .obtain ⟨c,g⟩:∃ c,r[a]? = some c:=AA om;obtain ⟨d,i⟩:∃ d,s[a]? = some d:=AA om;have ab:=hr.2 c (List.mem_of_getElem? g);have ac:=hs.2 d (List.mem_of_getElem? i);have n:=Xu g;have o:=Xu i;have j:∀ b,Dq 291 [.int .u8 (BI c.toNat).toNat] b (fun v w'=>v = .int .i64 c/\AD b w'):=fun b=>by
   have:=Me (q:=c.toNat) om b;rw [show ((c.toNat:Nat):Int)=c by omega] at this;exact this
  have m:∀ b,Dq 291 [.int .u8 (BI d.toNat).toNat] b (fun v w'=>v = .int .i64 d/\AD b w'):=fun b=>by
   have:=Me (q:=d.toNat) om b;rw [show ((d.toNat:Nat):Int)=d by omega] at this;exact this
  rcases Int.lt_trichotomy c d with h | h | h
  .rw [Tj l g i h];exact iY<|jC a rfl n<|dM (j _) fun p e=>jC a rfl o<|dM (m _) fun t f=>iY ⟨rfl,(xt (xt k e) f)⟩
  .subst h;have af:=S3 l g i;clear m;exact iY<|jC a rfl n<|dM (j _) fun p e=>jC a rfl o<|dM (j _) fun t f=>iN<|iN<|jP (((a+1:Nat):Int)) ⟨a+1,om,rfl,om,om,(xt (xt k e) f)⟩
  .rw [Ti l g i h];exact iY<|jC a rfl n<|dM (j _) fun p e=>jC a rfl o<|dM (m _) fun t f=>iN<|iY ⟨rfl,(xt (xt k e) f)⟩
 .have u:a=L:=om
  subst u;rw [Tk l y z];exact iN ⟨rfl,k⟩
theorem Ov (h:A4 eI 1 w a n xs) (hh:Di xs=true) (hn2:n<=1000) :
  Dq 203 [.slice a n c] w (fun v w'=>v = .string (Cf (CO xs))/\AD w w'):=by
 have an:=h.len;refine oV Tryz.func203 ?_;refine bS J0 (vs:=[]) ?_;intro ag aw u ar t o;have q:=Ag (enc:=eB) F5 o u;refine lR [0,3,7,8,9] (fun (b:Nat) ae w'=>∃ g m i,ae=[.slice a n c,.slice g m i,.slice a n c,.int .i64 n,.int .i64 b]/\b<=n/\An eB 1 w.heap.size 5 w' g m i (MH (CO (xs.take b)))/\AD w w') (fun b=>n - b) 0 ⟨_,_,_,rfl,om,q,t⟩ ?_;rintro b ak _ w' ⟨g,m,i,rfl,am,e,f⟩;have ac:=e.len;rw [Qo,GF,List.length_take] at ac;rcases Nat.lt_or_ge b n with ab | ab
 .obtain ⟨d,l⟩:∃ d,xs[b]? = some d:=AA om;have ao:=WQ hh l;have ap:=UU d;have z:(ByteArray.mk #[32,38,65,66,67,68,69,70,71,72,73,45,74,75,76,77,78,79,80,81,82,47,83,84,85,86,87,88,89,90,48,49,50,51,52,53,54,55,56,57]).data.toList[(Bk d).toNat]? = some (BI (Bk d).toNat):=OM om;have aa:=Oo l;refine iY<|jI (h.ext f) b rfl l fun ah av al y=>jO y rfl<|dM (Em _ _) fun ax j=>jC (Bk d).toNat om z<|bS J0 (vs:=[Value.int IntKind.u8 ↑(BI (Bk d).toNat).toNat]) ?_;intro ai ay x au k p;have r:=AH (n:=1) (enc:=eB) (xs:=[BI (Bk d).toNat]) F5 p x rfl dE;refine AN (enc:=eB) J0 F5 (e.ext (xt j k)) (r.own.arr F5) (by intro a0 _;simp [eB,AM]) om om (Below.size (xt (xt f j) k)) fun af aj az s ad aq=>jP (((b+1:Nat):Int)) ⟨b+1,om,_,_,_,rfl,om,?_,(xm (xt (xt f j) k) ad (AQ e.new))⟩
  .rw [aa];exact s
 .rw [List.take_of_length_le om] at e;exact iN<|Ih kR kR e ⟨rfl,f⟩
theorem LQ (x:Int) (w:World):Dq 266 [.int .i64 x] w (fun v w'=>v = .bool (decide (Bk x<0))/\AD w w'):=by
 have b:=UU x;refine oV Tryz.func266 ?_;refine (Em _ _).mono ?_;rintro _ c ⟨rfl,a⟩;exact ⟨rfl,a⟩
theorem F2 (h:A4 eI 1 w a n xs):Dq 202 [.slice a n c] w (fun v w'=>v = .bool (Di xs)/\AD w w'):=by
 have f:=Z4 xs;have i:∀ b,AD w b->Dq 71 [.slice a n c,.func (.func 266) ⟨[]⟩ ⟨[]⟩] b (fun v w'=>v = .bool (!Di xs)/\AD b w'):=fun b d=>by
  have:=Dn (c:=c) (h.ext d) (p:=fun n=>decide (Bk n<0)) (g:=266) (cap:=[]) (fun j _ w' _=>LQ j w');rw [f] at this;exact this
 refine oV Tryz.func202 ?_;refine (i _ (AD.refl _)).mono ?_;rintro _ k ⟨rfl,e⟩;exact ⟨by simp [*],e⟩
theorem Sa (R:AZ w d xs) (hf:AR f xs.length=true) :
  Dq 272 [.agg ⟨eH d⟩,.agg ⟨f.enc⟩] w (fun v w'=>v = .bool (Di (Ad xs f))/\AD w w'):=by
 obtain ⟨e,p⟩:=R;have x:=e.len;have o:=Bc hf;obtain ⟨i,j⟩:=f;simp only at o;obtain ⟨b,rfl⟩:∃ b:Nat,i=b:=⟨i.toNat,om⟩;obtain ⟨c,rfl⟩:∃ c:Nat,j=c:=⟨j.toNat,om⟩;unfold Ad;simp only [Int.toNat_natCast];refine oV Tryz.func272 ?_;refine AB.box ?_;intro r aa t y h m;refine AB.box fun s ac u z a g=>jL (m.ext a).cells (k:=0) rfl<|jL g.cells (k:=0) rfl<|jL g.cells (k:=1) rfl<|AB.slice (k := .i64) (k' := .i64) kR (e.ext (xt h a)) b c om om p (.inr rF) (.inr rF) fun q l=>dM (F2 l) fun ab n=>?_;exact ⟨rfl,(xt (xt h a) n)⟩
theorem Kq (R:AZ w d xs) (hf:AR f xs.length=true) (hx20:xs.length<=20) (hh:Di (Ad xs f)=true) :
  Dq 149 [.agg ⟨eH d⟩,.agg ⟨f.enc⟩] w (fun v w'=>v = .string (Cf (AS f xs))/\AD w w'):=by
 obtain ⟨e,p⟩:=R;have x:=e.len;have o:=Bc hf;unfold AS;obtain ⟨i,j⟩:=f;simp only at o;obtain ⟨b,rfl⟩:∃ b:Nat,i=b:=⟨i.toNat,om⟩;obtain ⟨c,rfl⟩:∃ c:Nat,j=c:=⟨j.toNat,om⟩;unfold Ad at *;simp only [Int.toNat_natCast] at *;refine oV Tryz.func149 ?_;refine AB.box ?_;intro r aa t y h m;refine AB.box fun s ab u z a g=>jL (m.ext a).cells (k:=0) rfl<|jL g.cells (k:=0) rfl<|jL g.cells (k:=1) rfl<|AB.slice (k := .i64) (k' := .i64) kR (e.ext (xt h a)) b c om om p (.inr rF) (.inr rF) fun q l=>dM (Ov l hh om) fun ac n=>?_;exact ⟨rfl,(xt (xt h a) n)⟩
theorem IX {a':Option Addr} {c':Nat} (h:A4 eI 1 w a n xs) (h':A4 eI 1 w a' n ys):Dq 315 [.slice a n c,.slice a' n c'] w (fun v w'=>v = .int .i64 (CY (CO xs) (CO ys))/\AD w w'):=by
 have aj:=h.len;have ak:=h'.len;have ai:=h.le;have am:=GF xs;have an:=GF ys;refine oV Tryz.func315 ?_;refine lR [0,1,9,10] (fun (b:Nat) af w'=>af=[.slice a n c,.slice a' n c',.int .i64 n,.int .i64 b]/\b<=n/\(CO xs).take b=(CO ys).take b/\AD w w') (fun b=>n - b) 0 ⟨rfl,om,rfl,AD.refl _⟩ ?_;rintro b ag _ ao ⟨rfl,ah,l,f⟩;rcases Nat.lt_or_ge b n with q | q
 .obtain ⟨s,o⟩:∃ s,xs[b]? = some s:=AA om;obtain ⟨t,p⟩:∃ t,ys[b]? = some t:=AA om;have r:=Ni o;have m:=Ni p;rcases Int.lt_trichotomy (Bk s) (Bk t) with k | k | k
  .rw [Tj l r m k];exact iY<|dH (pB [0,2,4,6,10,12,14,16,9,19,21,23]) fun ae d=>dI (h.ext f) b rfl o fun u aa y i=>dO i rfl<|dI (h'.ext f) b rfl p fun x ab z j=>dO j rfl<|dM (Em _ _) fun ac e=>⟨(xt d e),dM (Em _ _) fun ad g=>⟨(xt (xt d e) g),iY ⟨rfl,(xt (xt (xt f d) e) g)⟩⟩⟩
  .rw [<- k] at m;have al:=S3 l r m;exact iY<|dH (pB [0,2,4,6,10,12,14,16,9,19,21,23]) fun ae d=>dI (h.ext f) b rfl o fun u aa y i=>dO i rfl<|dI (h'.ext f) b rfl p fun x ab z j=>dO j rfl<|dM (Em _ _) fun ac e=>⟨(xt d e),dM (Em _ _) fun ad g=>⟨(xt (xt d e) g),iN<|iN<|jP (((b+1:Nat):Int)) ⟨b+1,om,rfl,om,om,(xt (xt (xt f d) e) g)⟩⟩⟩
  .rw [Ti l r m k];exact iY<|dH (pB [0,2,4,6,10,12,14,16,9,19,21,23]) fun ae d=>dI (h.ext f) b rfl o fun u aa y i=>dO i rfl<|dI (h'.ext f) b rfl p fun x ab z j=>dO j rfl<|dM (Em _ _) fun ac e=>⟨(xt d e),dM (Em _ _) fun ad g=>⟨(xt (xt d e) g),iN<|iY ⟨rfl,(xt (xt (xt f d) e) g)⟩⟩⟩
 .rw [Tk (n := n) (by have q : b = n := om;subst q;exact l) om om]
  exact iN ⟨rfl,f⟩
theorem Ez {d':Hd} (R:AZ w d xs) (R':AZ w d' ys) (hf:AR f xs.length=true) (hf':AR f ys.length=true) :
  Dq 275 [.agg ⟨eH d⟩,.agg ⟨eH d'⟩,.agg ⟨f.enc⟩] w (fun v w'=>v = .int .i64 (CY (AS f xs) (AS f ys))/\AD w w'):=by
 obtain ⟨j,x⟩:=R;obtain ⟨l,y⟩:=R';have ah:=j.len;have ai:=l.len;have t:=Bc hf;have u:=Bc hf';unfold AS;obtain ⟨n,o⟩:=f;simp only at t u;obtain ⟨g,rfl⟩:∃ g:Nat,n=g:=⟨n.toNat,om⟩;obtain ⟨h,rfl⟩:∃ h:Nat,o=h:=⟨o.toNat,om⟩;unfold Ad at *;simp only [Int.toNat_natCast] at *;refine oV Tryz.func275 ?_;refine AB.box ?_;intro ab am ae aj i r;refine AB.box fun ac ao af ak e s=>AB.box fun ad ap ag al b c=>dH (pB [0,2,4,6,8,10,12,14,16,18,20,23,25,27,29,31]) ?_;intro aq a;refine dL (r.ext (xt e b)).cells (k:=0) rfl<|dL c.cells (k:=0) rfl<|dL c.cells (k:=1) rfl<|BQ.slice (k := .i64) (k' := .i64) kR (j.ext (xt (xt i e) b)) g h om om x (.inr rF) (.inr rF) fun aa q=>dL (s.ext b).cells (k:=0) rfl<|dL c.cells (k:=0) rfl<|jL (c.ext a).cells (k:=1) rfl ?_;exact ⟨a,AB.slice (k := .i64) (k' := .i64) kR (l.ext (xt (xt (xt i e) b) a)) g h om om y (.inr rF) (.inr rF) fun z p=>⟨a,dM (IX (q.ext a) p) fun an m=>⟨(xt a m),⟨rfl,(xt (xt (xt (xt i e) b) a) m)⟩⟩⟩⟩
end Go.Proofs.YtalgenmoljcnmaaGreatDoor
namespace Go.M
open Go Go.Vc
variable {α:Type} {r:Int->Int->Prop} {x:Int} {A:List α} {k:Nat} {L:List Int}
theorem KD.put (hs:KD r) {S1 S2:List Int} (h:(S1++S2).Pairwise (Dc r)) (h1:S1=[]\/∃ z,S1.getLast? = some z/\Dc r z x) (h2:S2=[]\/∃ z,S2.head? = some z/\Dc r x z) :
  (S1++x :: S2).Pairwise (Dc r):=by
 refine hs.inserted h (fun d a=>?_) h1;rcases h2 with rfl | ⟨z,c,b⟩
 .cases a
 .cases S2 with
  | nil=>cases a
  | cons f e =>
   simp at c;subst c;rcases List.mem_cons.1 a with rfl | a
   .exact b
   .exact hs.lexTr b ((List.pairwise_cons.1 (List.pairwise_append.1 h).2.1).1 d a)
theorem Gp {x:α} (h:A[k]? = some x):(A.take (k+1)).getLast? = some x:=by
 rw [Gn h];simp
theorem Hl {x:α} (h:A[k]? = some x):(A.drop k).head? = some x:=by
 rw [Ff h];rfl
theorem Yl (h:OW L) (hx:L[k]? = some x):∀ y∈L.take k,y<x:=by
 have a:L=L.take k++x :: L.drop (k+1):=by
  have:=List.take_append_drop k L;rw [Ff hx] at this;exact this.symm
 intro y b;unfold OW at h;rw [a] at h;exact (List.pairwise_append.1 h).2.2 y b x sI
theorem L6 {z:Int} (h:z∈sortL r L):z∈L:=(Ew r L).subset h
theorem Hw (h:OW L):L.Nodup:=h.imp (fun h=>by omega)
theorem QM {M:List Int} (h:OW L) (hs:M.Sublist L):OW M:=h.sublist hs
theorem KD.ins_done (hs:KD r) (hL:OW L) {m:Nat} (hx:L[k]? = some x) (h2:∀ y∈(Go.M.sortL r (L.take k)).drop m,Dc r x y)
  (h1:m=0\/∃ z,(Go.M.sortL r (L.take k))[m - 1]? = some z/\Dc r z x) :
  (Go.M.sortL r (L.take k)).take m++x :: (Go.M.sortL r (L.take k)).drop m=Go.M.sortL r (L.take (k+1)):=by
 have d:(L.take (k+1)).Nodup:=Hw (QM hL (List.take_sublist _ _));have h:=hs.sortL (Hw (QM hL (List.take_sublist k L)));have e:=Ew r (L.take k);generalize Go.M.sortL r (L.take k)=M at *;refine hs.is d ?_ ?_
 .rw [Gn hx];have b:(M.take m++x :: M.drop m).Perm (x :: M):=by
   have:=List.perm_middle (a:=x) (l₁:=M.take m) (l₂:=M.drop m);rwa [List.take_append_drop] at this
  exact b.trans ((e.cons x).trans ((List.perm_append_singleton x _).symm))
 .refine hs.inserted (by rwa [List.take_append_drop]) h2 ?_;rcases h1 with rfl | ⟨z,f,g⟩
  .exact .inl sI
  .by_cases c:m=0
   .subst c;exact .inl sI
   .right;refine ⟨z,?_,g⟩;have:=Gp f;rwa [show m - 1+1=m by omega] at this
theorem Yh (L:List Int):Go.M.sortL r (L.take 1)++L.drop 1=L:=by
 cases L with
 | nil=>rfl
 | cons a L=>simp [Go.M.sortL,Go.M.insL]
theorem FH (r:Int->Int->Prop) (L:List Int):(Go.M.sortL r L).length=L.length:=(Ew r L).length_eq
end Go.M
namespace Go.Proofs.YtalgenmoljcnmaaGreatDoor
open Go Go.RowKit Go.Vc Go.M
variable {w:World} {b n c t p q m g s:Nat} {A X Y B L R:List Int} {r:Int->Int->Prop} {cmp:Int->Int->Int} {cap:List Value} {x y:Int}
theorem Gt {F:Value} {Z:List Int} (h:Bs eI w (some ⟨b,0,none⟩) n t (A++(X++(Y++(Z++B))))) (hp:A.length=p) (hm:X.length=m) (hz:Z.length=m) (hq:p+m+Y.length=q) (hn6:n<=1000000) :
  Dq 360 [.slice (some ⟨b,0,none⟩) n c,.int .i64 p,.int .i64 q,.int .i64 m,F] w (fun v w'=>v = .tuple #[]/\BP (AL (some ⟨b,0,none⟩)) w w'/\Bs eI w' (some ⟨b,0,none⟩) n t (A++(Z++(Y++(X++B))))):=by
 have al:=h.1;simp only [List.length_append] at al;refine oV Tryz.func360 ?_;refine lR [0,1,2,3,10] (fun (a:Nat) ao w'=>ao=[.slice (some ⟨b,0,none⟩) n c,.int .i64 p,.int .i64 q,.int .i64 m,.int .i64 a]/\a<=m/\BP (AL (some ⟨b,0,none⟩)) w w'/\Bs eI w' (some ⟨b,0,none⟩) n t (A++(Z.take a++(X.drop a++(Y++(X.take a++(Z.drop a++B))))))) (fun a=>m - a) 0 ⟨rfl,om,Vc.BP.refl _ _,by simpa using h⟩ ?_;rintro a aq _ w' ⟨rfl,av,aa,f⟩;by_cases aw:a<m
 .obtain ⟨d,ab⟩:∃ d,X[a]? = some d:=AA om;obtain ⟨e,ac⟩:∃ d,Z[a]? = some d:=AA om;have s:A++(Z.take a++(X.drop a++(Y++(X.take a++(Z.drop a++B)))))=(A++Z.take a)++d :: ((X.drop (a+1)++(Y++X.take a))++e :: (Z.drop (a+1)++B)):=by
   rw [Ff ab,Ff ac];simp
  have l:(A++Z.take a).length=p+a:=sW
  have o:(A++Z.take a).length+1+(X.drop (a+1)++(Y++X.take a)).length=q+a:=sW
  have am:=Pj (x:=d) (y:=e) (Z:=Z.drop (a+1)++B) l o;have g:=Go.M.ML (x:=d) (B:=(X.drop (a+1)++(Y++X.take a))++e :: (Z.drop (a+1)++B)) l;have r:=Pq (x:=d) (y:=e) (Z:=Z.drop (a+1)++B) o;have u:(A++Z.take a)++e :: ((X.drop (a+1)++(Y++X.take a))++d :: (Z.drop (a+1)++B))=A++(Z.take (a+1)++(X.drop (a+1)++(Y++(X.take (a+1)++(Z.drop (a+1)++B))))):=by
   rw [Gn ab,Gn ac];simp
  rw [u] at am;rw [s] at f;generalize (A++Z.take a)++d :: ((X.drop (a+1)++(Y++X.take a))++e :: (Z.drop (a+1)++B))=ap at *;have az:=f.1;have ad:(ap.set (p+a) e)[q+a]? = some e:=by rw [List.getElem?_set_ne om];exact r
  clear s u l o h;refine iY<|Au A7 mixed (pZ [0,5,10,15,20,25,30,35,40,45,50,55,60,70,75,80,85,90,66,96,100,108,110,118]) kR kR fun a2 z=>DT.add (((p+a:Nat):Int)) om om om<|DT.add (((q+a:Nat):Int)) om om om<|DT.add (((q+a:Nat):Int)) om om om<|pW (sz:=1) (q+a) rfl om ?_;have ak:=AU AI f r;refine DT.add (((p+a:Nat):Int)) om om om<|pW (sz:=1) (p+a) rfl om ?_;have aj:=AU AI f g;refine dO ak rfl<|dO aj rfl<|pW (sz:=1) (p+a) rfl om ?_;have ar:=AU AI f g;refine DA (k:=p+a) (j:=0) kR AI (f.ext z) g dE rfl (e) rfl ?_;intro a0 ag ae;have ax:=D6 g ((e));refine pW (sz:=1) (q+a) rfl om ?_;have au:=AU AI f r;refine DA (k:=q+a) (j:=0) kR AI ae ad dE rfl (d) rfl ?_;intro a1 ah af;have ay:=D6 ad ((d));exact jP (((a+1:Nat):Int)) ⟨a+1,om,rfl,om,(((aa.trans z.mod).trans (ag.but.mono (fun an i=>⟨_,rfl,i⟩))).trans (ah.but.mono (fun an i=>⟨_,rfl,i⟩))),by simpa [List.take_add_one,-List.take_append_getElem, *] using af⟩
 .have ai:a=m:=om
  subst ai;rw [List.take_of_length_le om,List.take_of_length_le om,List.drop_eq_nil_of_le om,List.drop_eq_nil_of_le om] at f;exact iN ⟨rfl,aa,f⟩
theorem I6 (hs:KD r) (hr:∀ i j,cmp i j<0↔r i j) (hi:∀ i j,BH (cmp i j)) (h:Bs eI w (some ⟨b,0,none⟩) n t (A++(L++B))) (hL:OW L)
  (hg:∀ i∈L,∀ j∈L,∀ w',BP (AL (some ⟨b,0,none⟩)) w w'->E2 Tryz.prog g (.int .i64 i :: .int .i64 j :: cap) w' (fun v w''=>v = .int .i64 (cmp i j)/\AD w' w''))
 (hp:A.length=p) (hq:p+L.length=q) (hn6:n<=1000000) :
  Dq 339 [.slice (some ⟨b,0,none⟩) n c,.int .i64 p,.int .i64 q,.func (.func g) ⟨[]⟩ ⟨cap⟩] w (fun v w'=>v = .tuple #[]/\BP (AL (some ⟨b,0,none⟩)) w w'/\Bs eI w' (some ⟨b,0,none⟩) n t (A++(sortL r L++B))):=by
 have bl:=h.1;simp only [List.length_append] at bl;have b2:L.Nodup:=hL.imp (fun h=>by omega);refine oV Tryz.func339 ?_;refine jP (((p+1:Nat):Int))<|lR [0,1,2,3,8] (fun (d:Nat) au w'=>au=[.slice (some ⟨b,0,none⟩) n c,.int .i64 p,.int .i64 q,.func (.func g) ⟨[]⟩ ⟨cap⟩,.int .i64 (p+d:Nat)]/\1<=d/\(d<=L.length\/d=1)/\BP (AL (some ⟨b,0,none⟩)) w w'/\Bs eI w' (some ⟨b,0,none⟩) n t (A++(sortL r (L.take d)++(L.drop d++B)))) (fun d=>L.length+1 - d) 1 ⟨rfl,om,om,Vc.BP.refl _ _,by rw [<- List.append_assoc (sortL r (L.take 1)),Yh];exact h⟩ ?_;rintro d bu _ w' ⟨rfl,b0,bz,aw,z⟩;by_cases bh:d<L.length
 .obtain ⟨o,ah⟩:∃ o,L[d]? = some o:=AA bh;have bo:=List.mem_of_getElem? ah;have bj:=Yl hL ah;have bd:=FH r (L.take d);have ax:∀ f∈sortL r (L.take d),f∈L.take d:=fun f aa=>L6 aa;have a0:=fun a=>hs.ins_done (m:=a) hL ah;rw [List.length_take] at bd;generalize sortL r (L.take d)=e at *;refine iY<|lR [0,1,2,3,8,9] (fun (a:Nat) au aj=>au=[.slice (some ⟨b,0,none⟩) n c,.int .i64 p,.int .i64 q,.func (.func g) ⟨[]⟩ ⟨cap⟩,.int .i64 (p+d:Nat),.int .i64 (p+a:Nat)]/\a<=d/\(∀ af∈e.drop a,Dc r o af)/\BP (AL (some ⟨b,0,none⟩)) w aj/\Bs eI aj (some ⟨b,0,none⟩) n t (A++(e.take a++o :: (e.drop a++(L.drop (d+1)++B))))) (fun a=>a) d ⟨rfl,om,by rw [List.drop_eq_nil_of_le om];simp,aw,by rw [Ff ah] at z;rw [List.take_of_length_le om,List.drop_eq_nil_of_le om];simpa using z⟩ ?_;rintro a bv _ aj ⟨rfl,b1,ap,ag,s⟩;have a3:(A++e.take a).length=p+a:=sW
  by_cases bk:a=0
  .subst bk;have an:=a0 0 ap (.inl rfl);have ao:A++(e.take 0++o :: (e.drop 0++(L.drop (d+1)++B)))=A++(sortL r (L.take (d+1))++(L.drop (d+1)++B)):=by
    rw [<- an];simp
   rw [ao] at s;exact dH (pB [0,3,5,7,8,10,12,14,16,18,21,23,25,27,29,31,33]) fun a8 l=>iN<|jP (((p+d+1:Nat):Int)) ⟨d+1,om,rfl,om,om,(ag.trans (AD.mod l)),(s.ext l)⟩
  .obtain ⟨f,aa⟩:∃ f,e[a - 1]? = some f:=AA om;have a2:=List.mem_of_getElem? aa;have bq:f∈L:=List.mem_of_mem_take (ax f a2);have br:=bj f (ax f a2);have az:=fun a7 (ak:AD aj a7)=>hg o bo f bq a7 (ag.trans ak.mod);have bn:e.take a=e.take (a - 1)++[f]:=by
    have:=Gn aa;rwa [show a - 1+1=a by omega] at this
   have a1:e.drop (a - 1)=f :: e.drop a:=by
    have:=Ff aa;rwa [show a - 1+1=a by omega] at this
   have ac:A++(e.take a++o :: (e.drop a++(L.drop (d+1)++B)))=(A++e.take (a - 1))++f :: ([]++o :: (e.drop a++(L.drop (d+1)++B))):=by
    rw [bn];simp
   have ai:(A++e.take (a - 1)).length=p+a - 1:=sW
   have aq:=Pj (x:=f) (y:=o) (Y:=[]) (Z:=e.drop a++(L.drop (d+1)++B)) (j:=p+a) ai sW;have ae:=Go.M.ML (x:=f) (B:=[]++o :: (e.drop a++(L.drop (d+1)++B))) ai;have ab:=Pq (x:=f) (y:=o) (Y:=[]) (Z:=e.drop a++(L.drop (d+1)++B)) (j:=p+a) (X:=A++e.take (a - 1)) sW;have ad:(A++e.take (a - 1))++o :: ([]++f :: (e.drop a++(L.drop (d+1)++B)))=A++(e.take (a - 1)++o :: (e.drop (a - 1)++(L.drop (d+1)++B))):=by
    rw [a1];simp
   rw [ad] at aq;by_cases ay:cmp o f<0
   .have bi:∀ af∈e.drop (a - 1),Dc r o af:=by
     rw [a1];intro af ar;rcases List.mem_cons.1 ar with rfl | ar
     .exact .inl ((hr _ _).1 ay)
     .exact ap af ar
    rw [ac] at s;generalize (A++e.take (a - 1))++f :: ([]++o :: (e.drop a++(L.drop (d+1)++B)))=a9 at *;have bp:=s.1;have a6:(a9.set (p+a) f)[p+a - 1]? = some f:=by rw [List.getElem?_set_ne om];exact ae
    have bm:(a9.set (p+a) f).set (p+a - 1) o=A++(e.take (a - 1)++o :: (e.drop (a - 1)++(L.drop (d+1)++B))):=by rw [List.set_comm _ _ om];exact aq
    clear ac ad a3 ai h z;refine dH (pB [0,3,5,7,8,10,12,14,16,18,21,23,25,27,29,31,33]) fun a8 l=>iY<|CS (sz:=1) kR (p+a) rfl om ?_;have am:=AU AI s ab;refine dO am rfl<|AB.sub (((p+a - 1:Nat):Int)) om om om ⟨l,jW (sz:=1) (p+a - 1) rfl om ?_⟩;have al:=AU AI (s.ext l) ae;refine ⟨l,jO al rfl ⟨l,dM (az _ l) fun bt u=>⟨(xt l u),iY<|Au A7 mixed (pZ [0,5,10,15,20,25,30,35,40,50,55,60,46,66,70,78,80,88]) kR kR fun b5 av=>DT.sub (((p+a - 1:Nat):Int)) om om om<|DT.sub (((p+a - 1:Nat):Int)) om om om<|pW (sz:=1) (p+a - 1) rfl om ?_⟩⟩⟩;have be:=AU AI (s.ext (xt l u)) ae;refine pW (sz:=1) (p+a) rfl om ?_;have bf:=AU AI (s.ext (xt l u)) ab;refine dO be rfl<|dO bf rfl<|pW (sz:=1) (p+a) rfl om ?_;have bw:=AU AI (s.ext (xt l u)) ab;refine DA (k:=p+a) (j:=0) kR AI (s.ext (xt (xt l u) av)) ab dE rfl (f) rfl ?_;intro b6 bb a';have b3:=D6 ab ((f));refine pW (sz:=1) (p+a - 1) rfl om ?_;have bx:=AU AI (s.ext (xt l u)) ae;refine DA (k:=p+a - 1) (j:=0) kR AI a' a6 dE rfl (o) rfl ?_;intro b7 bc ba;have b4:=D6 a6 ((o));exact AB.sub (((p+a - 1:Nat):Int)) om om om ⟨a - 1,om,by rw [show p+(a - 1)=p+a - 1 by omega];rfl,om,bi,((ag.trans (xt (xt l u) av).mod).trans (bb.but.mono (fun i hi=>⟨_,rfl,hi⟩))).trans (bc.but.mono (fun i hi=>⟨_,rfl,hi⟩)),by rw [<- bm];exact ba⟩
   .have an:=a0 a ap (.inr ⟨f,aa,hs.lex_of_not br (fun bg=>ay ((hr _ _).2 bg))⟩);have ao:A++(e.take a++o :: (e.drop a++(L.drop (d+1)++B)))=A++(sortL r (L.take (d+1))++(L.drop (d+1)++B)):=by
     rw [<- an];simp
    have a4:(A++(e.take a++o :: (e.drop a++(L.drop (d+1)++B))))[p+a - 1]? = some f:=by rw [ac];exact ae
    have a5:(A++(e.take a++o :: (e.drop a++(L.drop (d+1)++B))))[p+a]? = some o:=by rw [ac];exact ab
    rw [ao] at s a4 a5;have bp:=s.1;clear ac ad a3 ai h z aq;refine dH (pB [0,3,5,7,8,10,12,14,16,18,21,23,25,27,29,31,33]) fun a8 l=>iY<|CS (sz:=1) kR (p+a) rfl om ?_;have am:=AU AI s a5;refine dO am rfl<|AB.sub (((p+a - 1:Nat):Int)) om om om ⟨l,jW (sz:=1) (p+a - 1) rfl om ?_⟩;have al:=AU AI (s.ext l) a4;exact ⟨l,jO al rfl ⟨l,dM (az _ l) fun bt u=>⟨(xt l u),iN<|jP (((p+d+1:Nat):Int)) ⟨d+1,om,rfl,om,om,(ag.trans (AD.mod (xt l u))),(s.ext (xt l u))⟩⟩⟩⟩
 .have ak:L.take d=L:=List.take_of_length_le om;have ad:L.drop d=[]:=List.drop_eq_nil_of_le om;rw [ak,ad,List.nil_append] at z;exact iN ⟨rfl,aw,z⟩
theorem Lf {gf:Nat} (h:Bs eI w (some ⟨b,0,none⟩) n t (A++(X++(Y++B)))) (hp:A.length=p) (hm:p+X.length=m) (hq:m+Y.length=q) (hX:0<X.length) (hY:0<Y.length) (hn6:n<=1000000) :
  Dq 353 [.slice (some ⟨b,0,none⟩) n c,.int .i64 p,.int .i64 m,.int .i64 q,.func (.func gf) ⟨[]⟩ ⟨cap⟩] w (fun v w'=>v = .tuple #[]/\BP (AL (some ⟨b,0,none⟩)) w w'/\Bs eI w' (some ⟨b,0,none⟩) n t (A++(Y++(X++B)))):=by
 have av:=h.1;simp only [List.length_append] at av;refine oV Tryz.func353 ?_;refine AB.sub (((m - (p):Nat):Int)) om om om ?_;refine AB.sub (((q - (m):Nat):Int)) om om om<|lR [0,2,4,10,11] (fun (ad:Nat) ax w'=>∃ (a d:Nat) (f g e i:List Int),ax=[.slice (some ⟨b,0,none⟩) n c,.int .i64 m,.func (.func gf) ⟨[]⟩ ⟨cap⟩,.int .i64 a,.int .i64 d]/\ad=a+d/\g.length=a/\e.length=d/\0<a/\0<d/\p+f.length+a=m/\f++(e++(g++i))=Y++X/\BP (AL (some ⟨b,0,none⟩)) w w'/\Bs eI w' (some ⟨b,0,none⟩) n t (A++(f++(g++(e++(i++B)))))) (fun ad=>ad) (X.length+Y.length) ⟨m - p,q - m,[],X,Y,[],rfl,om,om,om,om,om,sW,sI,Vc.BP.refl _ _,by simpa using h⟩ ?_;rintro ad ay _ w' ⟨a,d,f,g,e,i,rfl,a1,ah,ar,ap,au,am,z,af,o⟩;have aw:=o.1;simp only [List.length_append] at aw;have ae:(A++f).length=m - a:=sW
 by_cases az:a=d
 .have k:Bs eI w' (some ⟨b,0,none⟩) n t ((A++f)++(g++([]++(e++(i++B))))):=by simpa using o
  have j:=Gt (F := .func (.func gf) ⟨[]⟩ ⟨cap⟩) (c:=c) (p:=m - a) (q:=m) (m:=a) k ae ah om sW hn6;have l:(A++f)++(e++([]++(g++(i++B))))=A++(Y++(X++B)):=by
   rw [<- List.append_assoc Y X B,<- z];simp
  rw [l] at j;have aq:(a:Int)=d:=om
  refine iF<|AB.sub (((m - (a):Nat):Int)) om om om<|(j).mono ?_;rintro _ ai ⟨rfl,aa,r⟩;exact ⟨rfl,(af.trans aa),r⟩
 have aq:¬ (a:Int)=d:=om
 by_cases a0:d<a
 .have an:g=g.take d++g.drop d:=(List.take_append_drop _ _).symm;have ab:(g.take d).length=d:=sW
  have ac:(g.drop d).length=a - d:=sW
  generalize g.take d=s at *;generalize g.drop d=u at *;subst an;have k:Bs eI w' (some ⟨b,0,none⟩) n t ((A++f)++(s++(u++(e++(i++B))))):=by simpa using o
  have j:=Gt (F := .func (.func gf) ⟨[]⟩ ⟨cap⟩) (c:=c) (p:=m - a) (q:=m) (m:=d) k ae ab ar om hn6;have l:(A++f)++(e++(u++(s++(i++B))))=A++((f++e)++(u++(s++(i++B)))):=sI
  rw [l] at j;have ag:(f++e)++(s++(u++i))=Y++X:=by rw [<- z];simp
  have al:p+(f++e).length+(a - d)=m:=sW
  clear k z o l;generalize f++e=aj at *;refine iT<|iY<|AB.sub (((m - (a):Nat):Int)) om om om<|(j).mono ?_;rintro _ ai ⟨rfl,aa,r⟩;exact AB.sub (((a - (d):Nat):Int)) om om om ⟨(a - d)+d,om,a - d,d,aj,u,s,i,rfl,rfl,ac,ab,om,au,al,ag,af.trans aa,r⟩
 .have ao:e=e.take (d - a)++e.drop (d - a):=(List.take_append_drop _ _).symm;have ab:(e.take (d - a)).length=d - a:=sW
  have ac:(e.drop (d - a)).length=a:=sW
  generalize e.take (d - a)=x at *;generalize e.drop (d - a)=y at *;subst ao;have k:Bs eI w' (some ⟨b,0,none⟩) n t ((A++f)++(g++(x++(y++(i++B))))):=by simpa using o
  have j:=Gt (F := .func (.func gf) ⟨[]⟩ ⟨cap⟩) (c:=c) (p:=m - a) (q:=m+d - a) (m:=a) k ae ah ac om hn6;have l:(A++f)++(y++(x++(g++(i++B))))=A++(f++(y++(x++((g++i)++B)))):=sI
  rw [l] at j;have ag:f++(x++(y++(g++i)))=Y++X:=by rw [<- z];simp
  clear k z o l;generalize g++i=ak at *;refine iT<|iN<|AB.sub (((m - (a):Nat):Int)) om om om<|jP (((m+d:Nat):Int))<|AB.sub (((m+d - (a):Nat):Int)) om om om<|(j).mono ?_;rintro _ ai ⟨rfl,aa,r⟩;exact AB.sub (((d - (a):Nat):Int)) om om om ⟨a+(d - a),om,a,d - a,f,y,x,ak,rfl,rfl,ac,ab,ap,om,am,ag,af.trans aa,r⟩
theorem QX (hs:KD r) (hR:R.Pairwise (Dc r)) (hlt:∀ y∈R,x<y) (h1:s=0\/∃ y,R[s - 1]? = some y/\r y x) (h2:R.length<=s\/∃ y,R[s]? = some y/\¬ r y x) :
  (R.take s++x :: R.drop s).Perm ([x]++R)/\(R.take s++x :: R.drop s).Pairwise (Dc r):=by
 refine ⟨?_,hs.put (by rwa [List.take_append_drop]) ?_ ?_⟩
 .have:=List.perm_middle (a:=x) (l₁:=R.take s) (l₂:=R.drop s);rwa [List.take_append_drop] at this
 .rcases h1 with rfl | ⟨y,b,c⟩
  .exact .inl sI
  .by_cases e:s=0
   .subst e;exact .inl sI
   .refine .inr ⟨y,?_,.inl c⟩;have:=Gp b;rwa [show s - 1+1=s by omega] at this
 .rcases h2 with d | ⟨y,b,c⟩
  .exact .inl (List.drop_eq_nil_of_le d)
  .exact .inr ⟨y,Hl b,hs.lex_of_not (hlt y (List.mem_of_getElem? b)) c⟩
theorem PF (hs:KD r) (hL:L.Pairwise (Dc r)) (hlt:∀ z∈L,z<y) (h1:s=0\/∃ z,L[s - 1]? = some z/\¬ r y z) (h2:L.length<=s\/∃ z,L[s]? = some z/\r y z) :
  (L.take s++y :: L.drop s).Perm (L++[y])/\(L.take s++y :: L.drop s).Pairwise (Dc r):=by
 refine ⟨?_,hs.put (by rwa [List.take_append_drop]) ?_ ?_⟩
 .have:=List.perm_middle (a:=y) (l₁:=L.take s) (l₂:=L.drop s);rw [List.take_append_drop] at this;exact this.trans (List.perm_append_singleton y L).symm
 .rcases h1 with rfl | ⟨z,b,c⟩
  .exact .inl sI
  .by_cases e:s=0
   .subst e;exact .inl sI
   .refine .inr ⟨z,?_,hs.lex_of_not (hlt z (List.mem_of_getElem? b)) c⟩;have:=Gp b;rwa [show s - 1+1=s by omega] at this
 .rcases h2 with d | ⟨z,b,c⟩
  .exact .inl (List.drop_eq_nil_of_le d)
  .exact .inr ⟨z,Hl b,.inl c⟩
theorem LI {α:Type} {A L B:List α} {i:Nat} {x:α} (hp:A.length=p) (hi:p<=i) (h:L[i - p]? = some x):(A++(L++B))[i]? = some x:=by
 rw [NF (j:=i - p) om,OH (List.getElem?_eq_some_iff.1 h).1];exact h
theorem SC (hs:KD r) (hr:∀ i j,cmp i j<0↔r i j) (h:Bs eI w (some ⟨b,0,none⟩) n t (A++([x]++(R++B)))) (hR:R.Pairwise (Dc r)) (hR0:0<R.length) (hlt:∀ y∈R,x<y)
  (hg:∀ i∈R,∀ w',BP (AL (some ⟨b,0,none⟩)) w w'->E2 Tryz.prog g (.int .i64 i :: .int .i64 x :: cap) w' (fun v w''=>v = .int .i64 (cmp i x)/\AD w' w''))
 (hp:A.length=p) (hm:p+1=m) (hq:m+R.length=q) (hn6:n<=1000000) :
  Dq 340 [.slice (some ⟨b,0,none⟩) n c,.int .i64 p,.int .i64 m,.int .i64 q,.func (.func g) ⟨[]⟩ ⟨cap⟩] w (fun v w'=>v = .tuple #[]/\BP (AL (some ⟨b,0,none⟩)) w w'/\∃ M,M.Perm ([x]++R)/\M.Pairwise (Dc r)/\Bs eI w' (some ⟨b,0,none⟩) n t (A++(M++B))):=by
 have a':=h.1;simp only [List.length_append,List.length_cons,List.length_nil] at a';have af:(A++([x]++(R++B)))[p]? = some x:=Go.M.ML hp;have aq:∀ i y,m<=i->R[i - m]? = some y->(A++([x]++(R++B)))[i]? = some y:=fun i y ab l=>by
  have:A++([x]++(R++B))=(A++[x])++(R++B):=sI
  rw [this];exact LI sW ab l
 have bp:(m:Int) - p=1:=om
 refine oV Tryz.func340 ?_;refine AB.sub 1 om om om ?_;refine lR [0,1,4,10,11] (fun (u:Nat) aj w'=>∃ i j:Nat,aj=[.slice (some ⟨b,0,none⟩) n c,.int .i64 p,.func (.func g) ⟨[]⟩ ⟨cap⟩,.int .i64 i,.int .i64 j]/\j - i<=u/\m<=i/\i<=j/\j<=q/\(i - m=0\/∃ y,R[i - m - 1]? = some y/\r y x)/\(R.length<=j - m\/∃ y,R[j - m]? = some y/\¬ r y x)/\BP (AL (some ⟨b,0,none⟩)) w w'/\Bs eI w' (some ⟨b,0,none⟩) n t (A++([x]++(R++B)))) (fun u=>u) (q - m) ⟨m,q,rfl,om,om,om,om,om,om,Vc.BP.refl _ _,h⟩ ?_;rintro u bf _ w' ⟨i,j,rfl,bq,bo,bl,bm,a3,a4,ac,e⟩;by_cases bn:i<j
 .obtain ⟨o,ae⟩:∃ o,o=(i+j) / 2:=⟨_,rfl⟩;obtain ⟨y,l⟩:∃ y,R[o - m]? = some y:=AA om;have ag:=aq o y om l;have bd:=List.mem_of_getElem? l;have ap:=fun au (a2:AD w' au)=>hg y bd au (ac.trans a2.mod);rw [ae] at ag;generalize A++([x]++(R++B))=aw at *;have bc:=e.1;by_cases ao:cmp y x<0
  .have bh:(i+j) / 2+1 - m=0\/∃ y,R[(i+j) / 2+1 - m - 1]? = some y/\r y x := .inr ⟨y,by rw [<- ae,show o+1 - m - 1=o - m by omega];exact l,(hr _ _).1 ao⟩;refine iY<|jP (((i+j:Nat):Int))<|As (k := .u64) kR kR (EZ om om)<|E5 dE<|As kR kR (Bv om om)<|dH (pB [0,2,4,6,8,10,13,15,17,19,21]) fun av d=>CS (sz:=1) kR ((i+j) / 2) rfl om ?_;have aa:=AU AI e ag;refine dO aa rfl<|jW (sz:=1) p rfl om ?_;have z:=AU AI (e.ext d) af;exact ⟨d,jO z rfl ⟨d,dM (ap _ d) fun be s=>⟨(xt d s),iY<|jP ((((i+j) / 2+1:Nat):Int)) ⟨u - 1,om,_,_,rfl,om,om,om,om,om,om,((ac.trans d.mod).trans s.mod),(e.ext (xt d s))⟩⟩⟩⟩
  .have bi:R.length<=(i+j) / 2 - m\/∃ y,R[(i+j) / 2 - m]? = some y/\¬ r y x := .inr ⟨y,by rw [<- ae];exact l,fun o=>ao ((hr _ _).2 o)⟩;refine iY<|jP (((i+j:Nat):Int))<|As (k := .u64) kR kR (EZ om om)<|E5 dE<|As kR kR (Bv om om)<|dH (pB [0,2,4,6,8,10,13,15,17,19,21]) fun av d=>CS (sz:=1) kR ((i+j) / 2) rfl om ?_;have aa:=AU AI e ag;refine dO aa rfl<|jW (sz:=1) p rfl om ?_;have z:=AU AI (e.ext d) af;exact ⟨d,jO z rfl ⟨d,dM (ap _ d) fun be s=>⟨(xt d s),iN ⟨u - 1,om,_,_,rfl,om,om,om,om,om,om,((ac.trans d.mod).trans s.mod),(e.ext (xt d s))⟩⟩⟩⟩
 .have a6:i=j:=om
  subst a6;have a7:=QX hs hR hlt a3 a4;refine iN<|lR [0,10,13] (fun (a:Nat) aj ak=>aj=[.slice (some ⟨b,0,none⟩) n c,.int .i64 i,.int .i64 (p+a:Nat)]/\a<=i - m/\BP (AL (some ⟨b,0,none⟩)) w ak/\Bs eI ak (some ⟨b,0,none⟩) n t (A++(R.take a++x :: (R.drop a++B)))) (fun a=>i - m - a) 0 ⟨rfl,om,ac,by simpa using e⟩ ?_;rintro a bg _ ak ⟨rfl,bt,an,f⟩;by_cases br:a<i - m
  .obtain ⟨y,l⟩:∃ y,R[a]? = some y:=AA om;have al:A++(R.take a++x :: (R.drop a++B))=(A++R.take a)++x :: ([]++y :: (R.drop (a+1)++B)):=by
    rw [Ff l];simp
   have ah:(A++R.take a).length=p+a:=sW
   have bb:=Pj (x:=x) (y:=y) (Y:=[]) (Z:=R.drop (a+1)++B) (j:=p+a+1) ah sW;have ad:=Go.M.ML (x:=x) (B:=[]++y :: (R.drop (a+1)++B)) ah;have ai:=Pq (x:=x) (y:=y) (Y:=[]) (Z:=R.drop (a+1)++B) (j:=p+a+1) (X:=A++R.take a) sW;have am:(A++R.take a)++y :: ([]++x :: (R.drop (a+1)++B))=A++(R.take (a+1)++x :: (R.drop (a+1)++B)):=by
    rw [Gn l];simp
   rw [am] at bb;rw [al] at f;generalize (A++R.take a)++x :: ([]++y :: (R.drop (a+1)++B))=aw at *;have bc:=f.1;have ar:(aw.set (p+a) y)[p+a+1]? = some y:=by rw [List.getElem?_set_ne om];exact ai
   clear al am ah h e af aq;refine AB.sub (((i - 1:Nat):Int)) om om om<|iY<|Au A7 mixed (pZ [0,5,10,15,20,25,30,35,40,50,55,60,46,66,70,78,80,88]) kR kR fun av d=>DT.add (((p+a+1:Nat):Int)) om om om<|DT.add (((p+a+1:Nat):Int)) om om om<|pW (sz:=1) (p+a+1) rfl om ?_;have aa:=AU AI f ai;refine pW (sz:=1) (p+a) rfl om ?_;have z:=AU AI f ad;refine dO aa rfl<|dO z rfl<|pW (sz:=1) (p+a) rfl om ?_;have bj:=AU AI f ad;refine DA (k:=p+a) (j:=0) kR AI (f.ext d) ad dE rfl (y) rfl ?_;intro bw a0 ax;have bu:=D6 ad ((y));refine pW (sz:=1) (p+a+1) rfl om ?_;have bk:=AU AI f ai;refine DA (k:=p+a+1) (j:=0) kR AI ax ar dE rfl (x) rfl ?_;intro bx a1 ay;have bv:=D6 ar ((x));exact jP (((p+a+1:Nat):Int)) ⟨a+1,om,rfl,om,(((an.trans d.mod).trans (a0.but.mono (fun i ab=>⟨_,rfl,ab⟩))).trans (a1.but.mono (fun i ab=>⟨_,rfl,ab⟩))),by simpa [List.take_add_one,-List.take_append_getElem, *] using ay⟩
  .have ba:a=i - m:=om
   subst ba;have a5:A++(R.take (i - m)++x :: (R.drop (i - m)++B))=A++((R.take (i - m)++x :: R.drop (i - m))++B):=sI
   rw [a5] at f;obtain ⟨a8,a9⟩:=a7;generalize R.take (i - m)++x :: R.drop (i - m)=az at *;exact AB.sub (((i - 1:Nat):Int)) om om om<|iN ⟨rfl,an,az,a8,a9,f⟩
theorem SA (hs:KD r) (hr:∀ i j,cmp i j<0↔r i j) (h:Bs eI w (some ⟨b,0,none⟩) n t (A++(L++([y]++B)))) (hL:L.Pairwise (Dc r)) (hL0:1<L.length) (hlt:∀ z∈L,z<y)
  (hg:∀ i∈L,∀ w',BP (AL (some ⟨b,0,none⟩)) w w'->E2 Tryz.prog g (.int .i64 y :: .int .i64 i :: cap) w' (fun v w''=>v = .int .i64 (cmp y i)/\AD w' w''))
 (hp:A.length=p) (hm:p+L.length=m) (hq:m+1=q) (hn6:n<=1000000) :
  Dq 340 [.slice (some ⟨b,0,none⟩) n c,.int .i64 p,.int .i64 m,.int .i64 q,.func (.func g) ⟨[]⟩ ⟨cap⟩] w (fun v w'=>v = .tuple #[]/\BP (AL (some ⟨b,0,none⟩)) w w'/\∃ M,M.Perm (L++[y])/\M.Pairwise (Dc r)/\Bs eI w' (some ⟨b,0,none⟩) n t (A++(M++B))):=by
 have bd:=h.1;simp only [List.length_append,List.length_cons,List.length_nil] at bd;have ah:(A++(L++([y]++B)))[m]? = some y:=by
  have:A++(L++([y]++B))=(A++L)++y :: B:=sI
  rw [this];exact Go.M.ML sW
 have av:∀ i z,p<=i->L[i - p]? = some z->(A++(L++([y]++B)))[i]? = some z:=fun i z ad o=>LI hp ad o;have bv:¬ (m:Int) - p=1:=om
 have bw:(q:Int) - m=1:=om
 refine oV Tryz.func340 ?_;refine AB.sub (((m - p:Nat):Int)) om om om<|iN<|AB.sub 1 om om om<|lR [0,2,4,14,15] (fun (u:Nat) al w'=>∃ i j:Nat,al=[.slice (some ⟨b,0,none⟩) n c,.int .i64 m,.func (.func g) ⟨[]⟩ ⟨cap⟩,.int .i64 i,.int .i64 j]/\j - i<=u/\p<=i/\i<=j/\j<=m/\(i - p=0\/∃ z,L[i - p - 1]? = some z/\¬ r y z)/\(L.length<=j - p\/∃ z,L[j - p]? = some z/\r y z)/\BP (AL (some ⟨b,0,none⟩)) w w'/\Bs eI w' (some ⟨b,0,none⟩) n t (A++(L++([y]++B)))) (fun u=>u) (m - p) ⟨p,m,rfl,om,om,om,om,om,om,Vc.BP.refl _ _,h⟩ ?_;rintro u bk _ w' ⟨i,j,rfl,bx,bu,bq,br,a6,a7,aa,f⟩;by_cases bt:i<j
 .obtain ⟨s,ag⟩:∃ s,s=(i+j) / 2:=⟨_,rfl⟩;obtain ⟨z,o⟩:∃ z,L[s - p]? = some z:=AA om;have ai:=av s z om o;have bi:=List.mem_of_getElem? o;have au:=fun ay (a5:AD w' ay)=>hg z bi ay (aa.trans a5.mod);rw [ag] at ai;generalize A++(L++([y]++B))=an at *;have bh:=f.1;by_cases ar:cmp y z<0
  .have bn:L.length<=(i+j) / 2 - p\/∃ z,L[(i+j) / 2 - p]? = some z/\r y z := .inr ⟨z,by rw [<- ag];exact o,(hr _ _).1 ar⟩;refine iY<|jP (((i+j:Nat):Int))<|As (k := .u64) kR kR (EZ om om)<|E5 dE<|As kR kR (Bv om om)<|dH (pB [0,2,4,6,8,10,13,15,17,19,21,23]) fun az d=>CS (sz:=1) kR m rfl om ?_;have ac:=AU AI f ah;refine dO ac rfl<|jW (sz:=1) ((i+j) / 2) rfl om ?_;have ab:=AU AI (f.ext d) ai;refine ⟨d,jO ab rfl ⟨d,dM (au _ d) fun bj e=>⟨(xt d e),AW (fun af=>?_) fun af=>?_⟩⟩⟩
   .exact jP ((((i+j) / 2+1:Nat):Int)) ⟨u+1,om,_,_,rfl,om,om,om,om,om,om,((aa.trans d.mod).trans e.mod),(f.ext (xt d e))⟩
   .exact ⟨u - 1,om,_,_,rfl,om,om,om,om,om,om,((aa.trans d.mod).trans e.mod),(f.ext (xt d e))⟩
  .have bm:(i+j) / 2+1 - p=0\/∃ z,L[(i+j) / 2+1 - p - 1]? = some z/\¬ r y z := .inr ⟨z,by rw [<- ag,show s+1 - p - 1=s - p by omega];exact o,fun s=>ar ((hr _ _).2 s)⟩;refine iY<|jP (((i+j:Nat):Int))<|As (k := .u64) kR kR (EZ om om)<|E5 dE<|As kR kR (Bv om om)<|dH (pB [0,2,4,6,8,10,13,15,17,19,21,23]) fun az d=>CS (sz:=1) kR m rfl om ?_;have ac:=AU AI f ah;refine dO ac rfl<|jW (sz:=1) ((i+j) / 2) rfl om ?_;have ab:=AU AI (f.ext d) ai;refine ⟨d,jO ab rfl ⟨d,dM (au _ d) fun bj e=>⟨(xt d e),AW (fun af=>?_) fun af=>?_⟩⟩⟩
   .exact jP ((((i+j) / 2+1:Nat):Int)) ⟨u - 1,om,_,_,rfl,om,om,om,om,om,om,((aa.trans d.mod).trans e.mod),(f.ext (xt d e))⟩
   .exact ⟨u+1,om,_,_,rfl,om,om,om,om,om,om,((aa.trans d.mod).trans e.mod),(f.ext (xt d e))⟩
 .have a':i=j:=om
  subst a';have ba:=PF hs hL hlt a6 a7;refine iN<|lR [0,14,17] (fun (a:Nat) al am=>al=[.slice (some ⟨b,0,none⟩) n c,.int .i64 i,.int .i64 (p+a:Nat)]/\i - p<=a/\a<=L.length/\BP (AL (some ⟨b,0,none⟩)) w am/\Bs eI am (some ⟨b,0,none⟩) n t (A++(L.take a++y :: (L.drop a++B)))) (fun a=>a) L.length ⟨by rw [hm];rfl,om,om,aa,by rw [List.take_of_length_le (Nat.le_refl _),List.drop_eq_nil_of_le (Nat.le_refl _)];simpa using f⟩ ?_;rintro a bl _ am ⟨rfl,b0,b1,aq,l⟩;by_cases bz:i - p<a
  .obtain ⟨z,o⟩:∃ z,L[a - 1]? = some z:=AA om;have bg:L.take a=L.take (a - 1)++[z]:=by
    have:=Gn o;rwa [show a - 1+1=a by omega] at this
   have a8:L.drop (a - 1)=z :: L.drop a:=by
    have:=Ff o;rwa [show a - 1+1=a by omega] at this
   have ao:A++(L.take a++y :: (L.drop a++B))=(A++L.take (a - 1))++z :: ([]++y :: (L.drop a++B)):=by
    rw [bg];simp
   have aj:(A++L.take (a - 1)).length=p+a - 1:=sW
   have aw:=Pj (x:=z) (y:=y) (Y:=[]) (Z:=L.drop a++B) (j:=p+a) aj sW;have ak:=Go.M.ML (x:=z) (B:=[]++y :: (L.drop a++B)) aj;have ae:=Pq (x:=z) (y:=y) (Y:=[]) (Z:=L.drop a++B) (j:=p+a) (X:=A++L.take (a - 1)) sW;have ap:(A++L.take (a - 1))++y :: ([]++z :: (L.drop a++B))=A++(L.take (a - 1)++y :: (L.drop (a - 1)++B)):=by
    rw [a8];simp
   rw [ap] at aw;rw [ao] at l;generalize (A++L.take (a - 1))++z :: ([]++y :: (L.drop a++B))=an at *;have bh:=l.1;have ax:(an.set (p+a) z)[p+a - 1]? = some z:=by rw [List.getElem?_set_ne om];exact ak
   have bf:(an.set (p+a) z).set (p+a - 1) y=A++(L.take (a - 1)++y :: (L.drop (a - 1)++B)):=by rw [List.set_comm _ _ om];exact aw
   clear ao ap aj h f ah av;refine iY<|Au A7 mixed (pZ [0,5,10,15,20,25,30,35,40,50,55,60,46,66,70,78,80,88]) kR kR fun az d=>DT.sub (((p+a - 1:Nat):Int)) om om om<|DT.sub (((p+a - 1:Nat):Int)) om om om<|pW (sz:=1) (p+a - 1) rfl om ?_;have ac:=AU AI l ak;refine pW (sz:=1) (p+a) rfl om ?_;have ab:=AU AI l ae;refine dO ac rfl<|dO ab rfl<|pW (sz:=1) (p+a) rfl om ?_;have bo:=AU AI l ae;refine DA (k:=p+a) (j:=0) kR AI (l.ext d) ae dE rfl (z) rfl ?_;intro b4 a3 a0;have b2:=D6 ae ((z));refine pW (sz:=1) (p+a - 1) rfl om ?_;have bp:=AU AI l ak;refine DA (k:=p+a - 1) (j:=0) kR AI a0 ax dE rfl (y) rfl ?_;intro b5 a4 a1;have b3:=D6 ax ((y));exact AB.sub (((p+a - 1:Nat):Int)) om om om ⟨a - 1,om,by rw [show p+(a - 1)=p+a - 1 by omega];rfl,om,om,((aq.trans d.mod).trans (a3.but.mono (fun i ad=>⟨_,rfl,ad⟩))).trans (a4.but.mono (fun i ad=>⟨_,rfl,ad⟩)),by rw [<- bf];exact a1⟩
  .have be:a=i - p:=om
   subst be;have a9:A++(L.take (i - p)++y :: (L.drop (i - p)++B))=A++((L.take (i - p)++y :: L.drop (i - p))++B):=sI
   rw [a9] at l;obtain ⟨bb,bc⟩:=ba;generalize L.take (i - p)++y :: L.drop (i - p)=a2 at *;exact iN ⟨rfl,aq,a2,bb,bc,l⟩
end Go.Proofs.YtalgenmoljcnmaaGreatDoor
