/- Parts of the proof; no conditions of its own. -/
import Derived.Test.YtalgenmoljcnmaaGreatDoorStepM
import Derived.Test.YtalgenmoljcnmaaGreatDoorNum
import Derived.Test.YtalgenmoljcnmaaGreatDoorVcApp
import Derived.Test.YtalgenmoljcnmaaGreatDoorCardsM
namespace Go.Proofs.YtalgenmoljcnmaaGreatDoor
open Go Go.RowKit Go.Vc Go.M
variable {w:World} {a:Option Addr} {n c:Nat} {xs:List ByteArray}
theorem Uf (h:A4 eS 1 w a n xs) (t:ByteArray):Dq 350 [.slice a n c,.string t] w (fun v w'=>v = .bool (xs.any fun x=>decide (x=t))/\AD w w'):=by
 have ag:=h.len;have af:=h.le;refine oV Tryz.func350 ?_;refine lR [0,1,5] (fun (b:Nat) ac w'=>ac=[.slice a n c,.string t,.int .i64 b]/\b<=n/\(∀ d x,d<b->xs[d]? = some x->¬ x=t)/\AD w w') (fun b=>n - b) 0 ⟨rfl,om,fun d x i=>by omega,AD.refl _⟩ ?_;rintro b ad _ ah ⟨rfl,ae,o,f⟩;rcases Nat.lt_or_ge b n with y | y
 .obtain ⟨x,j⟩:=AA (l:=xs) (k:=b) om;by_cases p:x=t
  .have u:(xs.any fun x=>decide (x=t))=true:=List.any_eq_true.2 ⟨x,List.mem_of_getElem? j,decide_eq_true p⟩;rw [u];exact iY<|jI (h.ext f) b rfl j fun q ab s m=>jO m rfl<|iY ⟨rfl,f⟩
  .have z:∀ d e,d<b+1->xs[d]? = some e->¬ e=t:=fun d e i g=>by
    by_cases r:d=b
    .subst r;rw [j] at g;cases g;exact p
    .exact o d e om g
   exact iY<|jI (h.ext f) b rfl j fun q ab s m=>jO m rfl<|iN<|jP (((b+1:Nat):Int)) ⟨b+1,om,rfl,om,z,f⟩
 .have aa:(xs.any fun x=>decide (x=t))=false:=by
   rw [List.any_eq_false];intro e g;obtain ⟨d,i⟩:=List.mem_iff_getElem?.1 g;have:=o d e (by have:=(List.getElem?_eq_some_iff.1 i).1;omega) i;simpa using this
  rw [aa];exact iN ⟨rfl,f⟩
theorem Tj (h:A4 eS 1 w a n xs) (t:ByteArray):Dq 68 [.slice a n c,.string t] w (fun v w'=>∃ r:Int,v = .int .i64 r/\decide (0<=r)=(xs.any fun x=>decide (x=t))∧-1<=r/\AD w w'):=by
 have ah:=h.len;have ag:=h.le;refine oV Tryz.func68 ?_;refine lR [0,1,7,8] (fun (b:Nat) ad w'=>ad=[.slice a n c,.string t,.int .i64 n,.int .i64 b]/\b<=n/\(∀ d x,d<b->xs[d]? = some x->¬ x=t)/\AD w w') (fun b=>n - b) 0 ⟨rfl,om,fun d x i=>by omega,AD.refl _⟩ ?_;rintro b ae _ aj ⟨rfl,af,q,f⟩;rcases Nat.lt_or_ge b n with z | z
 .obtain ⟨x,j⟩:=AA (l:=xs) (k:=b) om;by_cases m:x=t
  .have y:(xs.any fun x=>decide (x=t))=true:=List.any_eq_true.2 ⟨x,List.mem_of_getElem? j,decide_eq_true m⟩;rw [y];subst m;exact iY<|jI (h.ext f) b rfl j fun s ac u p=>jO p rfl<|KL.yes rfl ⟨_,rfl,rfl,om,f⟩
  .have aa:∀ d e,d<b+1->xs[d]? = some e->¬ e=t:=fun d e i g=>by
    by_cases o:d=b
    .subst o;rw [j] at g;cases g;exact m
    .exact q d e om g
   have ai:¬ t=x:=fun o=>m o.symm;exact iY<|jI (h.ext f) b rfl j fun s ac u p=>jO p rfl<|iN<|jP (((b+1:Nat):Int)) ⟨b+1,om,rfl,om,aa,f⟩
 .have ab:(xs.any fun x=>decide (x=t))=false:=by
   rw [List.any_eq_false];intro e g;obtain ⟨d,i⟩:=List.mem_iff_getElem?.1 g;have:=q d e (by have:=(List.getElem?_eq_some_iff.1 i).1;omega) i;simpa using this
  rw [ab];exact iN ⟨_,rfl,rfl,om,f⟩
theorem Oc (h:A4 eS 1 w a n xs) (t:ByteArray):Dq 31 [.slice a n c,.string t] w (fun v w'=>v = .bool (xs.any fun x=>decide (x=t))/\AD w w'):=by
 refine oV Tryz.func31 ?_;refine (Tj h t).mono ?_;rintro _ g ⟨f,rfl,d,e,b⟩;exact ⟨by simp only [*],b⟩
end Go.Proofs.YtalgenmoljcnmaaGreatDoor
namespace Go.M
open Go Go.Vc
variable {k c:Nat}
def Vn:ByteArray:=bs Mf
theorem Qe:Vn.size=40:=rfl
theorem Sm (h:k<40):Vn.data.toList[k]? = some (BH k):=Ni h
theorem orC {a:Int} {o:Nat} (ha:a=1/\65<=c/\c<=73/\o=64\/a=2/\74<=c/\c<=82/\o=73\/a=4/\83<=c/\c<=90/\o=81):orV .i64 a (CC ((c:Int) - o))=a+CC ((c:Int) - o):=by
 rcases ha with ⟨rfl,f,g,rfl⟩ | ⟨rfl,f,g,rfl⟩ | ⟨rfl,f,g,rfl⟩
 .obtain ⟨b,rfl⟩:∃ b:Nat,c=65+b:=⟨c - 65,om⟩;have e:∀ d:Fin 9,orV .i64 1 (CC (((65+d.val:Nat):Int) - (64:Nat)))=1+CC (((65+d.val:Nat):Int) - (64:Nat)):=by decide +kernel
  exact e ⟨b,om⟩
 .obtain ⟨b,rfl⟩:∃ b:Nat,c=74+b:=⟨c - 74,om⟩;have e:∀ d:Fin 9,orV .i64 2 (CC (((74+d.val:Nat):Int) - (73:Nat)))=2+CC (((74+d.val:Nat):Int) - (73:Nat)):=by decide +kernel
  exact e ⟨b,om⟩
 .obtain ⟨b,rfl⟩:∃ b:Nat,c=83+b:=⟨c - 83,om⟩;have e:∀ d:Fin 8,orV .i64 4 (CC (((83+d.val:Nat):Int) - (81:Nat)))=4+CC (((83+d.val:Nat):Int) - (81:Nat)):=by decide +kernel
  exact e ⟨b,om⟩
theorem Sf (h:48<=c/\c<=57):EA c=CC ((c:Int) - 48):=by
 unfold EA;rw [if_neg om,if_neg om,if_neg om,if_neg om,if_pos h]
theorem XM (h:65<=c/\c<=73):EA c=1+CC ((c:Int) - 64):=by
 unfold EA;rw [if_neg om,if_neg om,if_neg om,if_neg om,if_neg om,if_pos h]
theorem XL (h:74<=c/\c<=82):EA c=2+CC ((c:Int) - 73):=by
 unfold EA;rw [if_neg om,if_neg om,if_neg om,if_neg om,if_neg om,if_neg om,if_pos h]
theorem XK (h:83<=c/\c<=90):EA c=4+CC ((c:Int) - 81):=by
 unfold EA;rw [if_neg om,if_neg om,if_neg om,if_neg om,if_neg om,if_neg om,if_neg om,if_pos h]
theorem Sn (h:k<40):(BH k).toNat=32\/(BH k).toNat=38\/(BH k).toNat=45\/(BH k).toNat=47\/(48<=(BH k).toNat/\(BH k).toNat<=57)\/(65<=(BH k).toNat/\(BH k).toNat<=73)\/(74<=(BH k).toNat/\(BH k).toNat<=82)\/(83<=(BH k).toNat/\(BH k).toNat<=90):=by
 have b:∀ a:Fin 40,(BH a.val).toNat=32\/(BH a.val).toNat=38\/(BH a.val).toNat=45\/(BH a.val).toNat=47\/(48<=(BH a.val).toNat/\(BH a.val).toNat<=57)\/(65<=(BH a.val).toNat/\(BH a.val).toNat<=73)\/(74<=(BH a.val).toNat/\(BH a.val).toNat<=82)\/(83<=(BH a.val).toNat/\(BH a.val).toNat<=90):=by decide +kernel
 exact b ⟨k,h⟩
def LJ (c:Nat):Prop:=c=32\/c=38\/c=45\/c=47\/(48<=c/\c<=57)\/(65<=c/\c<=73)\/(74<=c/\c<=82)\/(83<=c/\c<=90)
end Go.M
namespace Go.Proofs.YtalgenmoljcnmaaGreatDoor
open Go Go.RowKit Go.Vc Go.M
variable {c:Nat}
theorem VP (hc:LJ c) (w:World):Dq 310 [.int .u8 c] w (fun v w'=>v = .tuple #[.int .i64 (EA c),.bool true]/\AD w w'):=by
 have q:CC 12=1:=PD rfl;have p:CC 11=2:=Mh rfl;have n:CC 0=4:=rfl;rcases hc with rfl | rfl | rfl | rfl | b | b | b | b
 .refine oV Tryz.func310 ?_;exact ⟨rfl,AD.refl _⟩
 .refine oV Tryz.func310 ?_;refine (B9 _ _).mono ?_;rintro _ m ⟨rfl,g⟩;exact ⟨rfl,g⟩
 .refine oV Tryz.func310 ?_;refine (B9 _ _).mono ?_;rintro _ m ⟨rfl,g⟩;exact ⟨rfl,g⟩
 .refine oV Tryz.func310 ?_;conv=>whnf
  refine (FT _ _).mono ?_;rintro _ _ ⟨rfl,rfl⟩;refine (B9 _ _).mono ?_;rintro _ k ⟨rfl,d⟩;refine (B9 _ _).mono ?_;rintro _ l ⟨rfl,e⟩;refine AB.or ?_;exact ⟨rfl,(xt d e)⟩
 .have j:DK c=true:=by simp [DK];omega
  have f:(c:Int) - 48=((c - 48:Nat):Int):=om
  rw [Sf b,f];refine oV Tryz.func310 ?_;refine iN ?_;refine iN ?_;refine iN ?_;refine (FT _ _).mono ?_;rintro _ _ ⟨rfl,rfl⟩;refine iT ?_;refine HW ?_;(conv=>whnf);rw [H8 om om,show (c:Int) - 48=((c - 48:Nat):Int) from by omega];refine As kR kR (Bo om om) ?_
  refine (B9 _ _).mono ?_;rintro _ m ⟨rfl,g⟩;exact ⟨rfl,g⟩
 .have j:DK c=false:=by simp [DK];omega
  have i:=orC (a:=1) (c:=c) (o:=64) (.inl ⟨rfl,b.1,b.2,rfl⟩);have f:(c:Int) - 64=((c - 65+1:Nat):Int):=om
  have h:(c:Int) - (64:Nat)=((c - 65+1:Nat):Int):=om
  rw [XM b,f];rw [h] at i;refine oV Tryz.func310 ?_;refine iN ?_;refine iN ?_;refine iN ?_;refine (FT _ _).mono ?_;rintro _ _ ⟨rfl,rfl⟩;refine iF ?_;refine iY ?_;refine iY ?_;refine (B9 _ _).mono ?_;rintro _ k ⟨rfl,d⟩;refine HW ?_;(conv=>whnf);rw [H8 om om,show (c:Int) - 65=((c - 65:Nat):Int) from by omega];refine As kR kR (Bo om om) ?_
  refine jP (((c - 65+1:Nat):Int)) ?_;refine (B9 _ _).mono ?_;rintro _ l ⟨rfl,e⟩;refine AB.or ?_;exact ⟨by simp only [*],(xt d e)⟩
 .have j:DK c=false:=by simp [DK];omega
  have i:=orC (a:=2) (c:=c) (o:=73) (.inr (.inl ⟨rfl,b.1,b.2,rfl⟩));have f:(c:Int) - 73=((c - 74+1:Nat):Int):=om
  have h:(c:Int) - (73:Nat)=((c - 74+1:Nat):Int):=om
  rw [XL b,f];rw [h] at i;refine oV Tryz.func310 ?_;refine iN ?_;refine iN ?_;refine iN ?_;refine (FT _ _).mono ?_;rintro _ _ ⟨rfl,rfl⟩;refine iF ?_;refine iY ?_;refine iN ?_;refine iY ?_;refine iY ?_;refine (B9 _ _).mono ?_;rintro _ k ⟨rfl,d⟩;refine HW ?_;(conv=>whnf);rw [H8 om om,show (c:Int) - 74=((c - 74:Nat):Int) from by omega];refine As kR kR (Bo om om) ?_
  refine jP (((c - 74+1:Nat):Int)) ?_;refine (B9 _ _).mono ?_;rintro _ l ⟨rfl,e⟩;refine AB.or ?_;exact ⟨by simp only [*],(xt d e)⟩
 .have j:DK c=false:=by simp [DK];omega
  have i:=orC (a:=4) (c:=c) (o:=81) (.inr (.inr ⟨rfl,b.1,b.2,rfl⟩));have f:(c:Int) - 81=((c - 83+2:Nat):Int):=om
  have h:(c:Int) - (81:Nat)=((c - 83+2:Nat):Int):=om
  rw [XK b,f];rw [h] at i;refine oV Tryz.func310 ?_;refine iN ?_;refine iN ?_;refine iN ?_;refine (FT _ _).mono ?_;rintro _ _ ⟨rfl,rfl⟩;refine iF ?_;refine iY ?_;refine iN ?_;refine iY ?_;refine iN ?_;refine iN ?_;refine iY ?_;refine iY ?_;refine (B9 _ _).mono ?_;rintro _ k ⟨rfl,d⟩;refine HW ?_;(conv=>whnf);rw [H8 om om,show (c:Int) - 83=((c - 83:Nat):Int) from by omega];refine As kR kR (Bo om om) ?_
  refine jP (((c - 83+2:Nat):Int)) ?_;refine (B9 _ _).mono ?_;rintro _ l ⟨rfl,e⟩;refine AB.or ?_;exact ⟨by simp only [*],(xt d e)⟩
theorem KA (hc:LJ c) (w:World):Dq 265 [.int .u8 c] w (fun v w'=>v = .int .i64 (EA c)/\AD w w'):=by
 refine oV Tryz.func265 ?_;refine (VP hc _).mono ?_;rintro _ b ⟨rfl,a⟩;exact ⟨rfl,a⟩
theorem Ei (m:Int) (w:World):Dq 267 [.int .i64 m] w (fun v w'=>v = .int .i64 (Bg m)/\AD w w'):=by
 refine oV Tryz.func267 ?_;refine lR [0,3] (fun (a:Nat) l w'=>l=[.int .i64 m,.int .i64 a]/\a<=40/\(∀ b:Nat,b<a->Ec b≠m)/\AD w w') (fun a=>40 - a) 0 ⟨rfl,om,fun b h=>by omega,AD.refl _⟩ ?_;rintro a o _ s ⟨rfl,q,f,e⟩;rcases Nat.lt_or_ge a 40 with c | c
 .have j:(ByteArray.mk #[32,38,65,66,67,68,69,70,71,72,73,45,74,75,76,77,78,79,80,81,82,47,83,84,85,86,87,88,89,90,48,49,50,51,52,53,54,55,56,57]).data.toList[a]? = some (BH a):=Ni c;have p:=Sn c;by_cases i:EA (BH a).toNat=m
  .have g:=Uq c f i;rw [g];exact iY<|jC a rfl j<|dM (KA (by assumption) _) fun n d=>iY ⟨rfl,(xt e d)⟩
  .have r:∀ b:Nat,b<a+1->Ec b≠m:=fun b h=>by
    by_cases k:b=a
    .subst k;exact i
    .exact f b om
   exact iY<|jC a rfl j<|dM (KA (by assumption) _) fun n d=>iN<|jP (((a+1:Nat):Int)) ⟨a+1,om,rfl,om,om,(xt e d)⟩
 .have g:=Ph (m:=m) (fun b h=>f b om);rw [g];exact iN ⟨rfl,e⟩
theorem I4 (hc:LJ c) (w:World):Dq 163 [.int .u8 c] w (fun v w'=>v = .int .i64 (EA c)/\AD w w'):=by
 have k:CC 1=8:=rfl;rcases hc with rfl | rfl | rfl | rfl | b | b | b | b
 .refine oV Tryz.func163 ?_;refine As kR kR (Bo om om) ?_
  exact ⟨rfl,AD.refl _⟩
 .refine oV Tryz.func163 ?_;refine As kR kR (Bo om om) ?_
  exact ⟨rfl,AD.refl _⟩
 .refine oV Tryz.func163 ?_;refine As kR kR (Bo om om) ?_
  exact ⟨rfl,AD.refl _⟩
 .refine oV Tryz.func163 ?_;conv=>whnf
  exact As kR kR (Bo om om)<|dM (Dk _ _) fun l j=>AB.or ⟨rfl,j⟩
 .have h:DK c=true:=by simp [DK];omega
  have f:(c:Int) - 48=((c - 48:Nat):Int):=om
  rw [Sf b,f];refine oV Tryz.func163 ?_;refine As kR kR (Bo om om) ?_
  refine iN ?_;refine iN ?_;refine iN ?_;refine iN<|(FB _ _).mono ?_;rintro _ _ ⟨rfl,rfl⟩;refine iT ?_;refine AB.sub (((c - 48:Nat):Int)) om om om ?_;refine (Dk _ _).mono ?_;rintro _ i ⟨rfl,e⟩;refine ⟨?_,e⟩
  .rfl
 .have h:DK c=false:=by simp [DK];omega
  have d:=orC (a:=1) (c:=c) (o:=64) (.inl ⟨rfl,b.1,b.2,rfl⟩);have f:(c:Int) - 64=((c - 65+1:Nat):Int):=om
  have g:(c:Int) - (64:Nat)=((c - 65+1:Nat):Int):=om
  rw [XM b,f];rw [g] at d;refine oV Tryz.func163 ?_;refine As kR kR (Bo om om) ?_
  refine iN ?_;refine iN ?_;refine iN ?_;refine iN ?_;refine (FB _ _).mono ?_;rintro _ _ ⟨rfl,rfl⟩;refine iF<|iY ?_;refine iY ?_;refine AB.sub (((c - 65:Nat):Int)) om om om ?_;refine jP (((c - 65+1:Nat):Int)) ?_;refine (Dk _ _).mono ?_;rintro _ i ⟨rfl,e⟩;refine AB.or ?_;refine ⟨?_,e⟩
  .rw [d]
 .have h:DK c=false:=by simp [DK];omega
  have d:=orC (a:=2) (c:=c) (o:=73) (.inr (.inl ⟨rfl,b.1,b.2,rfl⟩));have f:(c:Int) - 73=((c - 74+1:Nat):Int):=om
  have g:(c:Int) - (73:Nat)=((c - 74+1:Nat):Int):=om
  rw [XL b,f];rw [g] at d;refine oV Tryz.func163 ?_;refine As kR kR (Bo om om) ?_
  refine iN ?_;refine iN ?_;refine iN ?_;refine iN ?_;refine (FB _ _).mono ?_;rintro _ _ ⟨rfl,rfl⟩;refine iF ?_;refine iY ?_;refine iN<|iY<|iY ?_;refine AB.sub (((c - 74:Nat):Int)) om om om ?_;refine jP (((c - 74+1:Nat):Int)) ?_;refine (Dk _ _).mono ?_;rintro _ i ⟨rfl,e⟩;refine AB.or ?_;refine ⟨?_,e⟩
  .rw [d]
 .have h:DK c=false:=by simp [DK];omega
  have d:=orC (a:=4) (c:=c) (o:=81) (.inr (.inr ⟨rfl,b.1,b.2,rfl⟩));have f:(c:Int) - 81=((c - 83+2:Nat):Int):=om
  have g:(c:Int) - (81:Nat)=((c - 83+2:Nat):Int):=om
  rw [XK b,f];rw [g] at d;refine oV Tryz.func163 ?_;refine As kR kR (Bo om om) ?_
  refine iN ?_;refine iN ?_;refine iN ?_;refine iN ?_;refine (FB _ _).mono ?_;rintro _ _ ⟨rfl,rfl⟩;refine iF ?_;refine iY ?_;refine iN ?_;refine iY ?_;refine iN<|iY<|iY ?_;refine AB.sub (((c - 83:Nat):Int)) om om om ?_;refine jP (((c - 83+2:Nat):Int)) ?_;refine (Dk _ _).mono ?_;rintro _ i ⟨rfl,e⟩;refine AB.or ?_;refine ⟨?_,e⟩
  .rw [d]
theorem Ku (w:World):Dq 290 [] w (fun v w'=>v = .string Vn/\w=w'):=by
 refine oV Tryz.func290 ?_;conv=>whnf
 exact ⟨rfl,rfl⟩
theorem TP (m:Int) (w:World):Dq 233 [.int .i64 m] w (fun v w'=>∃ x:UInt8,v = .tuple #[.int .u8 x.toNat,.bool (decide (0<=Bg m))]/\(0<=Bg m->x=BH (Bg m).toNat)/\AD w w'):=by
 have t:=Qe;refine oV Tryz.func233 ?_;conv=>whnf
 refine (Ku _).mono ?_;rintro _ u ⟨rfl,rfl⟩;refine lR [0,4,5] (fun (a:Nat) l w'=>l=[.int .i64 m,.string Vn,.int .i64 a]/\a<=40/\(∀ b:Nat,b<a->Ec b≠m)/\AD w w') (fun a=>40 - a) 0 ⟨rfl,om,fun b i=>by omega,AD.refl _⟩ ?_;rintro a o _ y ⟨rfl,r,f,e⟩;rcases Nat.lt_or_ge a 40 with c | c
 .have h:=Sm c;have q:=Sn c;by_cases j:EA (BH a).toNat=m
  .have g:=Uq c f j;rw [g];refine iY ?_;exact jC a rfl h<|dM (I4 (by assumption) _) fun n d=>iY<|jC a rfl h ⟨_,rfl,by simp [*],(xt e d)⟩
  .have s:∀ b:Nat,b<a+1->Ec b≠m:=fun b i=>by
    by_cases k:b=a
    .subst k;exact j
    .exact f b om
   exact iY<|jC a rfl h<|dM (I4 (by assumption) _) fun n d=>iN<|jP (((a+1:Nat):Int)) ⟨a+1,om,rfl,om,om,(xt e d)⟩
 .have g:=Ph (m:=m) (fun b i=>f b om);rw [g];exact iN ⟨0,rfl,fun p=>by omega,e⟩
theorem Lx {q:Nat} (hq:q<40) (w:World):Dq 291 [.int .u8 (BH q).toNat] w (fun v w'=>v = .int .i64 q/\AD w w'):=by
 have j:=Qe;refine oV Tryz.func291 ?_;conv=>whnf
 refine (Ku _).mono ?_;rintro _ l ⟨rfl,rfl⟩;refine lR [0,3,4] (fun (a:Nat) f w'=>f=[.int .u8 (BH q).toNat,.string Vn,.int .i64 a]/\a<=q/\AD w w') (fun a=>40 - a) 0 ⟨rfl,om,AD.refl _⟩ ?_;rintro a g _ m ⟨rfl,h,b⟩;have d:=Sm (k:=a) om;by_cases c:a=q
 .subst c;refine iY ?_;exact jC a rfl d<|iY ⟨rfl,b⟩
 .have i:¬ (BH a).toNat=(BH q).toNat:=fun e=>c (Qg om hq (UInt8.toNat_inj.1 e));exact iY<|jC a rfl d<|iN<|jP (((a+1:Nat):Int)) ⟨a+1,om,rfl,om,b⟩
end Go.Proofs.YtalgenmoljcnmaaGreatDoor
namespace Go.M
open Go Go.Vc
variable {k:Nat} {x:Int}
def Lc (r:List Int):List UInt8:=r.map fun k=>BH k.toNat
theorem Pw (r:List Int):(Lc r).length=r.length:=by simp [Lc]
theorem N7 {l:List Int} (h:l[k]? = some x):Lc (CK (l.take (k+1)))=Lc (CK (l.take k))++[BH (Bg x).toNat]:=by
 rw [List.take_add_one,h];simp [Lc,CK]
theorem W0 {r:List Int} (h:r[k]? = some x):(Cd r).data.toList[k]? = some (BH x.toNat):=by
 unfold Cd;rw [PC,List.getElem?_map,h];rfl
end Go.M
namespace Go.Proofs.YtalgenmoljcnmaaGreatDoor
open Go Go.RowKit Go.Vc Go.M
variable {w:World} {a:Option Addr} {n c:Nat} {xs ys:List Int} {d:Hd} {f:AF}
theorem IJ (h:A4 eI 1 w a n xs) (hn2:n<=1000) :
  Dq 165 [.slice a n c] w (fun v w'=>v = .tuple #[.string (if Dd xs=true then Cd (CK xs) else { data := #[] }),.bool (Dd xs)]/\AD w w'):=by
 have a3:=h.len;refine oV Tryz.func165 ?_;refine bS Hl (vs:=[]) ?_;intro ay a9 ai a6 ah ab;have ad:=Ab (enc:=eB) Et ab ai;refine lR [0,4,5] (fun (d:Nat) av w'=>∃ q y r,av=[.slice a n c,.slice q y r,.int .i64 d]/\d<=n/\(∀ e b,e<d->xs[e]? = some b->0<=Bg b)/\Ai eB 1 w.heap.size 5 w' q y r (Lc (CK (xs.take d)))/\AD w w') (fun d=>n - d) 0 ⟨_,_,_,rfl,om,fun e b aa=>by omega,ad,ah⟩ ?_;rintro d a1 _ w' ⟨q,y,r,rfl,a2,z,j,f⟩;have aq:=j.len;rw [Pw,Fz,List.length_take] at aq;rcases Nat.lt_or_ge d n with ap | ap
 .obtain ⟨b,o⟩:∃ b,xs[d]? = some b:=AA om;have l:=fun g=>TP b g;rcases Int.lt_or_le (Bg b) 0 with m | m
  .have am:=ZB o m;rw [am];have x:decide (0<=Bg b)=false:=decide_eq_false om;rw [x] at l;refine iY<|jI (h.ext f) d rfl o fun ag au al u=>jO u rfl<|(l _).mono ?_;rintro _ aw ⟨bc,rfl,a8,k⟩;exact ⟨rfl,(xt f k)⟩
  .have x:decide (0<=Bg b)=true:=decide_eq_true m;rw [x] at l;have ak:∀ g,Dq 233 [.int .i64 b] g (fun v w'=>v = .tuple #[.int .u8 (BH (Bg b).toNat).toNat,.bool true]/\AD g w'):=fun g=>(l g).mono (by
    rintro _ a' ⟨i,rfl,p,s⟩;rw [p m];exact ⟨rfl,s⟩)
   clear l;have an:=N7 o;have a4:∀ e i,e<d+1->xs[e]? = some i->0<=Bg i:=fun e i aa p=>by
    by_cases s:e=d
    .subst s;rw [o] at p;cases p;exact m
    .exact z e i om p
   refine iY<|jI (h.ext f) d rfl o fun ag au al u=>jO u rfl<|dM (ak _) fun ba t=>bS Hl (vs:=[Value.int IntKind.u8 ↑(BH (Bg b).toNat).toNat]) ?_;intro az bb aj a7 k ac;have ae:=AG (n:=1) (enc:=eB) (xs:=[BH (Bg b).toNat]) Et ac aj rfl dE;refine AM (enc:=eB) Hl Et (j.ext (xt t k)) (ae.own.arr Et) (by intro i _;simp [eB,AE]) om om (Below.size (xt (xt f t) k)) fun ax a0 aw af ar a5=>jP (((d+1:Nat):Int)) ⟨d+1,om,_,_,_,rfl,om,om,?_,(xm (xt (xt f t) k) ar (AO j.new))⟩
   .rw [an];exact af
 .have ao:Dd xs=true:=ZD (fun e b aa=>z e b om);rw [ao];rw [List.take_of_length_le om] at j;exact iN<|G3 kR kR j ⟨rfl,f⟩
theorem TO (h:A4 eI 1 w a n xs) (hn2:n<=1000) :
  Dq 165 [.slice a n c] w (fun v w'=>∃ s,v = .tuple #[.string s,.bool (Dd xs)]/\(Dd xs=true->s=Cd (CK xs))/\AD w w'):=(IJ h hn2).mono (by
 rintro _ w' ⟨rfl,b⟩;exact ⟨_,rfl,fun h=>if_pos h,b⟩)
theorem Ny {b o:Nat} (R:Aa w d xs) (hc:AK w b o (eH d)) (hf:AR f xs.length=true) (hx20:xs.length<=20) :
  Dq 236 [.pointer (some ⟨b,o,none⟩),.agg ⟨f.enc⟩] w (fun v w'=>∃ s,v = .tuple #[.string s,.bool (Dd (AZ xs f))]/\(Dd (AZ xs f)=true->s=Cd (AS f xs))/\AD w w'):=by
 have x:=BV hf;have m:∀ a,AD w a->∀ e g,A4 eI 1 a e (f.to_.toNat - f.from_.toNat) (AZ xs f)->Dq 165 [.slice e (f.to_.toNat - f.from_.toNat) g] a (fun v w'=>∃ s,v = .tuple #[.string s,.bool (Dd (AZ xs f))]/\(Dd (AZ xs f)=true->s=Cd (AS f xs))/\AD a w'):=fun a t e g l=>TO l om;refine oV Tryz.func236 ?_;refine AB.box ?_;intro q ac u y c j;refine jA (n:=2) j.cells rfl<|(I5 ⟨R.1.ext c,R.2⟩ (hc.ext c) hf).mono ?_;rintro _ ad ⟨p,r,rfl,i,z,h⟩;refine (m _ (xt c h) _ _ i).mono ?_;rintro _ ae ⟨ab,rfl,aa,k⟩;exact ⟨_,rfl,om,(xt (xt c h) k)⟩
theorem G8 {L:Nat} {r s:List Int} (hr:GO L r) (hs:GO L s) (w:World) (hL:L<=1000):Dq 237 [.string (Cd r),.string (Cd s)] w (fun v w'=>v = .int .i64 (CT r s)/\AD w w'):=by
 have ag:=IZ r;have ah:=IZ s;have y:=hr.1;have z:=hs.1;refine oV Tryz.func237 ?_;refine lR [0,1,5] (fun (a:Nat) aa w'=>aa=[.string (Cd r),.string (Cd s),.int .i64 a]/\a<=L/\r.take a=s.take a/\AD w w') (fun a=>L - a) 0 ⟨rfl,om,rfl,AD.refl _⟩ ?_;rintro a ad _ ai ⟨rfl,ae,l,k⟩;rcases Nat.lt_or_ge a L with x | x
 .obtain ⟨c,g⟩:∃ c,r[a]? = some c:=AA om;obtain ⟨d,i⟩:∃ d,s[a]? = some d:=AA om;have ab:=hr.2 c (List.mem_of_getElem? g);have ac:=hs.2 d (List.mem_of_getElem? i);have n:=W0 g;have o:=W0 i;have j:∀ b,Dq 291 [.int .u8 (BH c.toNat).toNat] b (fun v w'=>v = .int .i64 c/\AD b w'):=fun b=>by
   have:=Lx (q:=c.toNat) om b;rw [show ((c.toNat:Nat):Int)=c by omega] at this;exact this
  have m:∀ b,Dq 291 [.int .u8 (BH d.toNat).toNat] b (fun v w'=>v = .int .i64 d/\AD b w'):=fun b=>by
   have:=Lx (q:=d.toNat) om b;rw [show ((d.toNat:Nat):Int)=d by omega] at this;exact this
  rcases Int.lt_trichotomy c d with h | h | h
  .rw [Sh l g i h];exact iY<|jC a rfl n<|dM (j _) fun p e=>jC a rfl o<|dM (m _) fun t f=>iY ⟨rfl,(xt (xt k e) f)⟩
  .subst h;have af:=Rv l g i;clear m;exact iY<|jC a rfl n<|dM (j _) fun p e=>jC a rfl o<|dM (j _) fun t f=>iN<|iN<|jP (((a+1:Nat):Int)) ⟨a+1,om,rfl,om,om,(xt (xt k e) f)⟩
  .rw [Sg l g i h];exact iY<|jC a rfl n<|dM (j _) fun p e=>jC a rfl o<|dM (m _) fun t f=>iN<|iY ⟨rfl,(xt (xt k e) f)⟩
 .have u:a=L:=om
  subst u;rw [Si l y z];exact iN ⟨rfl,k⟩
theorem OC (h:A4 eI 1 w a n xs) (hh:Dd xs=true) (hn2:n<=1000) :
  Dq 203 [.slice a n c] w (fun v w'=>v = .string (Cd (CK xs))/\AD w w'):=by
 have an:=h.len;refine oV Tryz.func203 ?_;refine bS Hl (vs:=[]) ?_;intro ag aw u ar t o;have q:=Ab (enc:=eB) Et o u;refine lR [0,3,7,8,9] (fun (b:Nat) ae w'=>∃ g m i,ae=[.slice a n c,.slice g m i,.slice a n c,.int .i64 n,.int .i64 b]/\b<=n/\Ai eB 1 w.heap.size 5 w' g m i (Lc (CK (xs.take b)))/\AD w w') (fun b=>n - b) 0 ⟨_,_,_,rfl,om,q,t⟩ ?_;rintro b ak _ w' ⟨g,m,i,rfl,am,e,f⟩;have ac:=e.len;rw [Pw,Fz,List.length_take] at ac;rcases Nat.lt_or_ge b n with ab | ab
 .obtain ⟨d,l⟩:∃ d,xs[b]? = some d:=AA om;have ao:=VT hh l;have ap:=TZ d;have z:(ByteArray.mk #[32,38,65,66,67,68,69,70,71,72,73,45,74,75,76,77,78,79,80,81,82,47,83,84,85,86,87,88,89,90,48,49,50,51,52,53,54,55,56,57]).data.toList[(Bg d).toNat]? = some (BH (Bg d).toNat):=Ni om;have aa:=N7 l;refine iY<|jI (h.ext f) b rfl l fun ah av al y=>jO y rfl<|dM (Ei _ _) fun ax j=>jC (Bg d).toNat om z<|bS Hl (vs:=[Value.int IntKind.u8 ↑(BH (Bg d).toNat).toNat]) ?_;intro ai ay x au k p;have r:=AG (n:=1) (enc:=eB) (xs:=[BH (Bg d).toNat]) Et p x rfl dE;refine AM (enc:=eB) Hl Et (e.ext (xt j k)) (r.own.arr Et) (by intro a0 _;simp [eB,AE]) om om (Below.size (xt (xt f j) k)) fun af aj az s ad aq=>jP (((b+1:Nat):Int)) ⟨b+1,om,_,_,_,rfl,om,?_,(xm (xt (xt f j) k) ad (AO e.new))⟩
  .rw [aa];exact s
 .rw [List.take_of_length_le om] at e;exact iN<|G3 kR kR e ⟨rfl,f⟩
theorem Kh (x:Int) (w:World):Dq 266 [.int .i64 x] w (fun v w'=>v = .bool (decide (Bg x<0))/\AD w w'):=by
 have b:=TZ x;refine oV Tryz.func266 ?_;refine (Ei _ _).mono ?_;rintro _ c ⟨rfl,a⟩;exact ⟨rfl,a⟩
theorem Fo (h:A4 eI 1 w a n xs):Dq 202 [.slice a n c] w (fun v w'=>v = .bool (Dd xs)/\AD w w'):=by
 have f:=ZC xs;have i:∀ b,AD w b->Dq 71 [.slice a n c,.func (.func 266) ⟨[]⟩ ⟨[]⟩] b (fun v w'=>v = .bool (!Dd xs)/\AD b w'):=fun b d=>by
  have:=Dg (c:=c) (h.ext d) (p:=fun n=>decide (Bg n<0)) (g:=266) (cap:=[]) (fun j _ w' _=>Kh j w');rw [f] at this;exact this
 refine oV Tryz.func202 ?_;refine (i _ (AD.refl _)).mono ?_;rintro _ k ⟨rfl,e⟩;exact ⟨by simp [*],e⟩
theorem RW (R:Aa w d xs) (hf:AR f xs.length=true) :
  Dq 272 [.agg ⟨eH d⟩,.agg ⟨f.enc⟩] w (fun v w'=>v = .bool (Dd (AZ xs f))/\AD w w'):=by
 obtain ⟨e,p⟩:=R;have x:=e.len;have o:=BV hf;obtain ⟨i,j⟩:=f;simp only at o;obtain ⟨b,rfl⟩:∃ b:Nat,i=b:=⟨i.toNat,om⟩;obtain ⟨c,rfl⟩:∃ c:Nat,j=c:=⟨j.toNat,om⟩;unfold AZ;simp only [Int.toNat_natCast];refine oV Tryz.func272 ?_;refine AB.box ?_;intro r aa t y h m;refine AB.box fun s ac u z a g=>jL (m.ext a).cells (k:=0) rfl<|jL g.cells (k:=0) rfl<|jL g.cells (k:=1) rfl<|AB.slice (k := .i64) (k' := .i64) kR (e.ext (xt h a)) b c om om p (.inr (by rfl)) (.inr (by rfl)) fun q l=>dM (Fo l) fun ab n=>?_;exact ⟨rfl,(xt (xt h a) n)⟩
theorem J9 (R:Aa w d xs) (hf:AR f xs.length=true) (hx20:xs.length<=20) (hh:Dd (AZ xs f)=true) :
  Dq 149 [.agg ⟨eH d⟩,.agg ⟨f.enc⟩] w (fun v w'=>v = .string (Cd (AS f xs))/\AD w w'):=by
 obtain ⟨e,p⟩:=R;have x:=e.len;have o:=BV hf;unfold AS;obtain ⟨i,j⟩:=f;simp only at o;obtain ⟨b,rfl⟩:∃ b:Nat,i=b:=⟨i.toNat,om⟩;obtain ⟨c,rfl⟩:∃ c:Nat,j=c:=⟨j.toNat,om⟩;unfold AZ at *;simp only [Int.toNat_natCast] at *;refine oV Tryz.func149 ?_;refine AB.box ?_;intro r aa t y h m;refine AB.box fun s ab u z a g=>jL (m.ext a).cells (k:=0) rfl<|jL g.cells (k:=0) rfl<|jL g.cells (k:=1) rfl<|AB.slice (k := .i64) (k' := .i64) kR (e.ext (xt h a)) b c om om p (.inr (by rfl)) (.inr (by rfl)) fun q l=>dM (OC l hh om) fun ac n=>?_;exact ⟨rfl,(xt (xt h a) n)⟩
theorem ID {a':Option Addr} {c':Nat} (h:A4 eI 1 w a n xs) (h':A4 eI 1 w a' n ys):Dq 315 [.slice a n c,.slice a' n c'] w (fun v w'=>v = .int .i64 (CT (CK xs) (CK ys))/\AD w w'):=by
 have aj:=h.len;have ak:=h'.len;have ai:=h.le;have am:=Fz xs;have an:=Fz ys;refine oV Tryz.func315 ?_;refine lR [0,1,9,10] (fun (b:Nat) af w'=>af=[.slice a n c,.slice a' n c',.int .i64 n,.int .i64 b]/\b<=n/\(CK xs).take b=(CK ys).take b/\AD w w') (fun b=>n - b) 0 ⟨rfl,om,rfl,AD.refl _⟩ ?_;rintro b ag _ ao ⟨rfl,ah,l,f⟩;rcases Nat.lt_or_ge b n with q | q
 .obtain ⟨s,o⟩:∃ s,xs[b]? = some s:=AA om;obtain ⟨t,p⟩:∃ t,ys[b]? = some t:=AA om;have r:=M8 o;have m:=M8 p;rcases Int.lt_trichotomy (Bg s) (Bg t) with k | k | k
  .rw [Sh l r m k];exact iY<|dH (pB [0,2,4,6,10,12,14,16,9,19,21,23]) fun ae d=>dI (h.ext f) b rfl o fun u aa y i=>dO i rfl<|dI (h'.ext f) b rfl p fun x ab z j=>dO j rfl<|dM (Ei _ _) fun ac e=>⟨(xt d e),dM (Ei _ _) fun ad g=>⟨(xt (xt d e) g),iY ⟨rfl,(xt (xt (xt f d) e) g)⟩⟩⟩
  .rw [<- k] at m;have al:=Rv l r m;exact iY<|dH (pB [0,2,4,6,10,12,14,16,9,19,21,23]) fun ae d=>dI (h.ext f) b rfl o fun u aa y i=>dO i rfl<|dI (h'.ext f) b rfl p fun x ab z j=>dO j rfl<|dM (Ei _ _) fun ac e=>⟨(xt d e),dM (Ei _ _) fun ad g=>⟨(xt (xt d e) g),iN<|iN<|jP (((b+1:Nat):Int)) ⟨b+1,om,rfl,om,om,(xt (xt (xt f d) e) g)⟩⟩⟩
  .rw [Sg l r m k];exact iY<|dH (pB [0,2,4,6,10,12,14,16,9,19,21,23]) fun ae d=>dI (h.ext f) b rfl o fun u aa y i=>dO i rfl<|dI (h'.ext f) b rfl p fun x ab z j=>dO j rfl<|dM (Ei _ _) fun ac e=>⟨(xt d e),dM (Ei _ _) fun ad g=>⟨(xt (xt d e) g),iN<|iY ⟨rfl,(xt (xt (xt f d) e) g)⟩⟩⟩
 .rw [Si (n := n) (by have q : b = n := om;subst q;exact l) om om]
  exact iN ⟨rfl,f⟩
theorem Er {d':Hd} (R:Aa w d xs) (R':Aa w d' ys) (hf:AR f xs.length=true) (hf':AR f ys.length=true) :
  Dq 275 [.agg ⟨eH d⟩,.agg ⟨eH d'⟩,.agg ⟨f.enc⟩] w (fun v w'=>v = .int .i64 (CT (AS f xs) (AS f ys))/\AD w w'):=by
 obtain ⟨j,x⟩:=R;obtain ⟨l,y⟩:=R';have ah:=j.len;have ai:=l.len;have t:=BV hf;have u:=BV hf';unfold AS;obtain ⟨n,o⟩:=f;simp only at t u;obtain ⟨g,rfl⟩:∃ g:Nat,n=g:=⟨n.toNat,om⟩;obtain ⟨h,rfl⟩:∃ h:Nat,o=h:=⟨o.toNat,om⟩;unfold AZ at *;simp only [Int.toNat_natCast] at *;refine oV Tryz.func275 ?_;refine AB.box ?_;intro ab am ae aj i r;refine AB.box fun ac ao af ak e s=>AB.box fun ad ap ag al b c=>dH (pB [0,2,4,6,8,10,12,14,16,18,20,23,25,27,29,31]) ?_;intro aq a;refine dL (r.ext (xt e b)).cells (k:=0) rfl<|dL c.cells (k:=0) rfl<|dL c.cells (k:=1) rfl<|BN.slice (k := .i64) (k' := .i64) kR (j.ext (xt (xt i e) b)) g h om om x (.inr (by rfl)) (.inr (by rfl)) fun aa q=>dL (s.ext b).cells (k:=0) rfl<|dL c.cells (k:=0) rfl<|jL (c.ext a).cells (k:=1) rfl ?_;exact ⟨a,AB.slice (k := .i64) (k' := .i64) kR (l.ext (xt (xt (xt i e) b) a)) g h om om y (.inr (by rfl)) (.inr (by rfl)) fun z p=>⟨a,dM (ID (q.ext a) p) fun an m=>⟨(xt a m),⟨rfl,(xt (xt (xt (xt i e) b) a) m)⟩⟩⟩⟩
end Go.Proofs.YtalgenmoljcnmaaGreatDoor
