/- Parts of the proof; no conditions of its own. -/
import Derived.Lib.ItoaNum
import Derived.Lib.ParseIntBTie
import Derived.Lib.ItoaLen
import Derived.Lib.SplitLaws
import Derived.Lib.IndexBytes
import Derived.Lib.Join
import Derived.Test.YtalgenmoljcnmaaGreatDoorProg
import Derived.Test.YtalgenmoljcnmaaGreatDoorModel
import Derived.Test.YtalgenmoljcnmaaGreatDoorVcCore
import Derived.Test.YtalgenmoljcnmaaGreatDoorVcApp
namespace Go.M
open Go Go.Vc
variable {u:Nat} {n:Int} {s:ByteArray} {c:UInt8}
def BP (n:Int):ByteArray:=bs (Lib.itoa n)
def GV (c:UInt8):Bool:=decide (48<=c.toNat) && decide (c.toNat<=57)
def Cj:Option Nat->List UInt8->Option Nat
 | a,[]=>a
 | none,_=>none
 | some a,c :: r=>if GV c then Cj (some (10 * a+(c.toNat - 48))) r else none
def KD (l:List UInt8):Option Nat:=Cj (some 0) l
theorem Gn (l:List UInt8):Cj none l=none:=by cases l<;>rfl
theorem Fi:∀ (l r:List UInt8) (a:Option Nat),Cj a (l++r)=Cj (Cj a l) r
 | [],r,a=>by cases a<;>cases r<;>rfl
 | c :: l,r,none=>by simp [Cj,Gn]
 | c :: l,r,some a=>by
  simp only [List.cons_append,Cj];split
  .exact Fi l r _
  .rw [Gn]
theorem Nd (l:List UInt8) (c:UInt8):KD (l++[c])=(KD l).bind fun a=>if GV c then some (10 * a+(c.toNat - 48)) else none:=by
 unfold KD;rw [Fi];cases Cj (some 0) l with
 | none=>rfl
 | some a=>simp only [Cj,Option.bind_some]
theorem MH (h:u<10):GV (UInt8.ofNat (48+u))=true:=by
 have:(UInt8.ofNat (48+u)).toNat=48+u:=by simp [UInt8.toNat_ofNat'];omega
 simp only [GV,this,Bool.and_eq_true,decide_eq_true_eq];omega
theorem XG (h:u<10):(UInt8.ofNat (48+u)).toNat - 48=u:=by
 have:(UInt8.ofNat (48+u)).toNat=48+u:=by simp [UInt8.toNat_ofNat'];omega
 omega
theorem KC (u:Nat):KD (Lib.decDigits u)=some u:=by
 induction u using Nat.strongRecOn with
 | _ u ih =>
  rw [Lib.decDigits];by_cases a:u<10
  .rw [dif_pos a];show (if GV (UInt8.ofNat (48+u)) then some (10 * 0+((UInt8.ofNat (48+u)).toNat - 48)) else none)=_;rw [if_pos (MH a),XG a];simp
  .have b:u % 10<10:=om
   rw [dif_neg a,Nd,ih (u / 10) om,Option.bind_some,if_pos (MH b),XG b];congr 1;omega
theorem Ff (u:Nat):∀ c∈Lib.decDigits u,GV c=true:=by
 induction u using Nat.strongRecOn with
 | _ u ih =>
  rw [Lib.decDigits];by_cases b:u<10
  .rw [dif_pos b];intro c a;rw [List.mem_singleton.1 a];exact MH b
  .rw [dif_neg b];intro c a;rcases List.mem_append.1 a with a | a
   .exact ih (u / 10) om c a
   .rw [List.mem_singleton.1 a];exact MH om
theorem HN (u:Nat):Lib.decDigits u≠[]:=by
 intro a;have:=Lib.decDigits_length u;rw [a] at this;have b:=Lib.nDigits_pos u;simp at this;omega
theorem ON:∀ (l:List UInt8) (a v:Nat),Cj (some a) l=some v->a<=v
 | [],a,v,h=>by simp [Cj] at h;omega
 | c :: l,a,v,h=>by
  simp only [Cj] at h;split at h
  .have:=ON l _ _ h;omega
  .cases h
theorem F3:∀ (l:List UInt8) (a v k:Nat),a<10 ^ k->Cj (some a) l=some v->v<10 ^ (k+l.length)
 | [],a,v,k,ha,h=>by simp [Cj] at h;subst h;simpa using ha
 | c :: l,a,v,k,ha,h=>by
  simp only [Cj] at h;split at h
  .rename_i hd;simp only [GV,Bool.and_eq_true,decide_eq_true_eq] at hd;have:=F3 l _ v (k+1) (by rw [Nat.pow_succ];omega) h;simpa [Nat.add_assoc,Nat.add_comm 1] using this
  .cases h
theorem K0:∀ (l:List UInt8) (a v:Nat),Cj (some a) l=some v->v<1000000000000000000->Lib.parseUint10 a l = .ok v
 | [],a,v,h,_=>by simp [Cj] at h;subst h;rfl
 | c :: l,a,v,h,hv=>by
  simp only [Cj] at h;split at h
  .rename_i hd;simp only [GV,Bool.and_eq_true,decide_eq_true_eq] at hd;have hge:=ON l _ _ h;rw [Lib.parseUint10,if_pos hd,if_neg om,if_neg om,show a * 10+(c.toNat - 48)=10 * a+(c.toNat - 48) by omega];exact K0 l _ _ h hv
  .cases h
def A6 (l:List UInt8):List UInt8:=if l.head? = some 45 then l.tail else l
def Jy (s:ByteArray):Option Int :=
 if (A6 s.data.toList).length<1\/18<(A6 s.data.toList).length then none else
  match KD (A6 s.data.toList) with
  | none=>none
  | some m=>if BP (if (A6 s.data.toList).length<s.data.toList.length then -(m:Int) else m)=s then some (if (A6 s.data.toList).length<s.data.toList.length then -(m:Int) else m) else none
def Al (s:ByteArray):Int:=(Jy s).getD 0
def Ef (s:ByteArray):Bool:=(Jy s).isSome
theorem E7 (n:Int):(BP n).data.toList=Lib.itoa n:=rfl
theorem Fw (n:Int):A6 (Lib.itoa n)=Lib.decDigits n.natAbs:=by
 unfold Lib.itoa A6;by_cases c:n<0
 .rw [if_pos c];simp
 .rw [if_neg c];have d:n.toNat=n.natAbs:=om
  rw [d];rw [if_neg];intro b;cases a:Lib.decDigits n.natAbs with
  | nil=>exact HN _ a
  | cons e f =>
   rw [a] at b;simp at b;subst b;have:=Ff n.natAbs 45 (by rw [a];simp);simp [GV] at this
theorem WA (n:Int):((A6 (Lib.itoa n)).length<(Lib.itoa n).length)↔n<0:=by
 rw [Fw];unfold Lib.itoa;by_cases a:n<0
 .rw [if_pos a];simp [a]
 .rw [if_neg a];have b:n.toNat=n.natAbs:=om
  rw [b];simp;omega
theorem SJ (h:(Lib.decDigits n.natAbs).length<=18):Jy (BP n)=some n:=by
 unfold Jy;rw [E7,Fw];have d:1<=(Lib.decDigits n.natAbs).length:=List.length_pos_iff.2 (HN _);rw [if_neg om,KC];have a:=WA n;rw [Fw] at a;show (if BP (if (Lib.decDigits n.natAbs).length<(Lib.itoa n).length then -(n.natAbs:Int) else n.natAbs)=BP n then some (if (Lib.decDigits n.natAbs).length<(Lib.itoa n).length then -(n.natAbs:Int) else n.natAbs) else none)=some n;have c:(if (Lib.decDigits n.natAbs).length<(Lib.itoa n).length then -(n.natAbs:Int) else n.natAbs)=n:=by
  by_cases b:n<0
  .rw [if_pos (a.2 b)];omega
  .rw [if_neg (fun h=>b (a.1 h))];omega
 rw [c,if_pos rfl]
theorem NF (h:Jy s=some n):s=BP n/\(Lib.decDigits n.natAbs).length<=18∧-1000000000000000000<n/\n<1000000000000000000:=by
 unfold Jy at h;split at h
 .cases h
 rename_i f;split at h
 .cases h
 rename_i b d;by_cases a:BP (if (A6 s.data.toList).length<s.data.toList.length then -(b:Int) else b)=s
 .rw [if_pos a] at h;simp only [Option.some.injEq] at h;rw [h] at a;have c:=F3 _ 0 b 0 dE d;have e:b<1000000000000000000:=by
   refine Nat.lt_of_lt_of_le c ?_;rw [Nat.zero_add];exact Nat.pow_le_pow_right dE (show (A6 s.data.toList).length<=18 by omega)
  refine ⟨a.symm,?_,?_,?_⟩
  .rw [<- Fw,<- E7,a];omega
  .rw [<- h];split<;>omega
  .rw [<- h];split<;>omega
 .rw [if_neg a] at h;cases h
theorem WS (s:ByteArray):Jy s=match Lib.parseIntB 64 s.data.toList with
  | .ok a=>if BP a=s/\(A6 s.data.toList).length<=18 then some a else none
  | _=>none:=by
 cases e:Jy s with
 | some a =>
  obtain ⟨rfl,l,n,o⟩:=NF e;have j:Lib.parseIntB 64 (BP a).data.toList = .ok a:=by
   rw [Lib.parseIntB_64,E7];have m:=K0 _ 0 _ (KC a.natAbs) om;have h:=HN a.natAbs;have g:Lib.parseMag (Lib.decDigits a.natAbs) = .ok a.natAbs:=by
    unfold Lib.parseMag;rw [if_neg h];exact m
   by_cases i:a<0
   .have b:Lib.itoa a=45 :: Lib.decDigits a.natAbs:=by unfold Lib.itoa;rw [if_pos i]
    rw [b];unfold Lib.atoiAll;simp only;rw [if_pos (by right;decide),g];simp only;rw [if_neg sI,if_neg om];simp;omega
   .have b:Lib.itoa a=Lib.decDigits a.natAbs:=by unfold Lib.itoa;rw [if_neg i];congr 1;omega
    rw [b];cases d:Lib.decDigits a.natAbs with
    | nil=>exact absurd d h
    | cons k p =>
     have c:=Ff a.natAbs k (by rw [d];simp);simp only [GV,Bool.and_eq_true,decide_eq_true_eq] at c;unfold Lib.atoiAll;simp only;rw [if_neg om,<- d,g];simp only;rw [if_neg om,if_neg om,if_neg om];simp;omega
  rw [j];simp only;rw [E7,Fw,if_pos ⟨trivial,l⟩]
 | none =>
  split
  .rename_i a j;split
   .rename_i c;obtain ⟨rfl,f⟩:=c;rw [E7,Fw] at f;rw [SJ f] at e;cases e
   .rfl
  .rfl
def Ek (c:UInt8):List UInt8->List UInt8->List (List UInt8)
 | acc,[]=>[acc]
 | acc,b :: l=>if b=c then acc :: Ek c [] l else Ek c (acc++[b]) l
def DA (c:UInt8) (l:List UInt8):List (List UInt8):=Ek c [] l
def Aq (c:UInt8) (s:ByteArray):List ByteArray:=(DA c s.data.toList).map bs
theorem ED (c:UInt8) (l:List UInt8):∀ (p acc:List UInt8),c∉p->Ek c acc (p++c :: l)=(acc++p) :: DA c l
 | [],acc,_=>by simp [Ek,DA]
 | b :: p,acc,h=>by
  have hb:b≠c:=fun a=>h (by simp [a]);simp only [List.cons_append,Ek,if_neg hb];rw [ED c l p (acc++[b]) (fun d=>h (by simp [d]))];simp
theorem E9 (c:UInt8):∀ (p acc:List UInt8),c∉p->Ek c acc p=[acc++p]
 | [],acc,_=>by simp [Ek]
 | b :: p,acc,h=>by
  have hb:b≠c:=fun a=>h (by simp [a]);simp only [Ek,if_neg hb];rw [E9 c p (acc++[b]) (fun d=>h (by simp [d]))];simp
theorem Ft:∀ {l:List UInt8},c∈l->∃ p r,l=p++c :: r/\c∉p
 | [],h=>by cases h
 | b :: l,h=>by
  by_cases hb:b=c
  .exact ⟨[],l,by simp [hb],sI⟩
  .obtain ⟨p,r,rfl,hp⟩:=Ft (l:=l) (by simpa [Ne.symm hb] using h);exact ⟨b :: p,r,rfl,by simp [Ne.symm hb,hp]⟩
theorem Ib (c:UInt8) (l:List UInt8):DA c l≠[]:=by
 by_cases a:c∈l
 .obtain ⟨d,e,rfl,b⟩:=Ft a;unfold DA;rw [ED c e d [] b];simp
 .unfold DA;rw [E9 c l [] a];simp
theorem HK (c:UInt8) (r:List UInt8):∀ (p:List UInt8),c∉p->Lib.indexByte (p++c :: r) c=p.length
 | [],_=>by simp [Lib.indexByte]
 | b :: p,h=>by
  have hb:b≠c:=fun a=>h (by simp [a]);have e:=HK c r p (fun d=>h (by simp [d]));simp only [List.cons_append,Lib.indexByte,beq_iff_eq,if_neg hb,e];rw [if_neg om];simp
theorem JE (c:UInt8):∀ (p:List UInt8),c∉p->Lib.indexByte p c = -1
 | [],_=>rfl
 | b :: p,h=>by
  have hb:b≠c:=fun a=>h (by simp [a]);simp only [Lib.indexByte,beq_iff_eq,if_neg hb,JE c p (fun d=>h (by simp [d])),if_true]
theorem R0 (c:UInt8):∀ (k:Nat) (l:List UInt8),l.count c=k->Lib.splitK [c] 0 k l=DA c l
 | 0,l,h=>by
  have hn:c∉l:=List.count_eq_zero.1 h;unfold DA;rw [E9 c l [] hn];rfl
 | k+1,l,h=>by
  have g:c∈l:=List.count_pos_iff.1 om;obtain ⟨b,a,rfl,d⟩:=Ft g;have f:Lib.index (b++c :: a) [c]=b.length:=by rw [Lib.index_one,HK c a b d]
  have e:a.count c=k:=by
   rw [List.count_append,List.count_cons_self,List.count_eq_zero.2 d] at h;omega
  unfold Lib.splitK;rw [f,if_neg sI];unfold DA;rw [ED c a b [] d];congr 1
  .simp
  .rw [<- R0 c k a e];congr 1;simp
theorem CV {a b:ByteArray} (h:a.data.toList=b.data.toList):a=b:=by
 obtain ⟨⟨c⟩⟩:=a;obtain ⟨⟨d⟩⟩:=b;simp at h;rw [h]
theorem R3 (c:UInt8) (s:ByteArray):Lib.splitB ⟨#[c]⟩ 0 (Lib.countB s ⟨#[c]⟩) s=Aq c s:=by
 have a:=Lib.splitB_data ⟨#[c]⟩ 0 (Lib.countB s ⟨#[c]⟩) s;have d:(Lib.countB s ⟨#[c]⟩)=s.data.toList.count c:=Lib.count_one c _;rw [show (ByteArray.mk #[c]).data.toList=[c] from rfl,R0 c _ _ d.symm] at a;unfold Aq;rw [<- a,List.map_map];have:(bs∘fun b:ByteArray=>b.data.toList)=id:=by
  funext b;exact CV (PC _)
 rw [this,List.map_id]
theorem WC (c:UInt8) (s:ByteArray):(Aq c s).length=Lib.countB s ⟨#[c]⟩+1:=by
 rw [<- R3];exact Lib.splitB_all ⟨#[c]⟩ (by show 1<=1;omega) 0 _ s rfl
def Ma (u:Nat):List UInt8:=if u=0 then [] else Lib.decDigits u
theorem Lh (h:u≠0):Ma u=Ma (u / 10)++[UInt8.ofNat (48+u % 10)]:=by
 unfold Ma;rw [if_neg h,Lib.decDigits];by_cases a:u<10
 .rw [dif_pos a,if_pos om];have:u % 10=u:=om
  rw [this];rfl
 .rw [dif_neg a,if_neg om]
theorem YB (u k:Nat) (h:u<10 ^ k):(Ma u).length<=k:=by
 induction k generalizing u with
 | zero => have : u = 0 := by simpa using h
           subst this;simp [Ma]
 | succ k b =>
  by_cases a:u=0
  .subst a;simp [Ma]
  .rw [Lh a];have:=b (u / 10) (by rw [Nat.pow_succ] at h;omega);simp;omega
theorem UX (k:Int):(k.tdiv 10).natAbs=k.natAbs / 10:=by
 rw [Int.natAbs_tdiv];rfl
theorem UU (k:Int):(k.tmod 10).natAbs=k.natAbs % 10:=by
 rw [Int.natAbs_tmod];rfl
theorem JM (u:Nat):∀ out:List UInt8,QX u out=Ma u++out:=by
 induction u using Nat.strongRecOn with
 | _ u ih =>
  intro out;by_cases a:u=0
  .subst a;rfl
  .rw [SY om,ih (u / 10) om,Lh a];simp
theorem X0 (n:Int):Lib.itoa n=if n=0 then [48] else if n<0 then 45 :: QX n.natAbs [] else QX n.natAbs []:=by
 unfold Lib.itoa;by_cases b:n=0
 .subst b;rw [if_neg om,if_pos rfl,Lib.decDigits,dif_pos dE];rfl
 .have c:Ma n.natAbs=Lib.decDigits n.natAbs:=by
   unfold Ma;exact if_neg om
  rw [if_neg b,JM,c,List.append_nil];by_cases a:n<0
  .rw [if_pos a,if_pos a]
  .rw [if_neg a,if_neg a];congr 1;omega
theorem Bc (h0 : -9223372036854775808<=n) (h1:n<=9223372036854775807):(BP n).size<=21:=by
 show (bs _).size<=21;rw [AV];exact Lib.itoa_length_le n h0 h1
theorem M6 (c:UInt8):∀ (l acc:List UInt8),∀ p∈Ek c acc l,p.length<=acc.length+l.length
 | [],acc,p,h=>by simp [Ek] at h;subst h;simp
 | b :: l,acc,p,h=>by
  simp only [Ek] at h;split at h
  .rcases List.mem_cons.1 h with rfl | h
   .simp
   .have:=M6 c l [] p h;simp at this ⊢;omega
  .have:=M6 c l (acc++[b]) p h;simp at this ⊢;omega
theorem D3 {x:ByteArray} (h:x∈Aq c s):x.size<=s.size:=by
 unfold Aq at h;obtain ⟨b,a,rfl⟩:=List.mem_map.1 h;have:=M6 c _ _ b a;rw [AV];simpa using this
theorem PV (c:UInt8) (s:ByteArray):1<=(Aq c s).length:=by
 unfold Aq;rw [List.length_map];exact List.length_pos_iff.2 (Ib c _)
theorem LN (c:UInt8):∀ (l acc:List UInt8),(Ek c acc l).length<=l.length+1
 | [],acc=>by simp [Ek]
 | b :: l,acc=>by
  simp only [Ek];split
  .have:=LN c l [];simp;omega
  .have:=LN c l (acc++[b]);simp;omega
theorem Gk (c:UInt8) (s:ByteArray):(Aq c s).length<=s.size+1:=by
 unfold Aq;rw [List.length_map];have:=LN c s.data.toList [];unfold DA;simpa using this
theorem aC9 (l:List UInt8) (s:ByteArray):bs l++s=bs (l++s.data.toList):=by
 apply CV;simp [bs]
end Go.M
namespace Go.Proofs.YtalgenmoljcnmaaGreatDoor
open Go Go.RowKit Go.Vc
variable {n:Nat} {w:World} {f:Fr}
def tab:HD:={ fo:=.replicate 7 []++[[0,1,2,3],[0,1,2,3],[],[],[],[],[0,1],[0,1],[],[],[],[0],[0],[],[],[],[],[],[],[0,1],[0,1],[0,2],[0,2],[],[],[],[0,1],[0,1],[0,2],[0,2]]++.replicate 11 []++[[0,3],[0,3]]++.replicate 17 []++[[0,1,2,3],[0,1,2,3]]++.replicate 15 []++[[0,1,2],[0,1,2],[],[],[],[0,1],[0,1],[],[],[],[0,1,2,3,4,6,8],[0,1,2,3,4,6,8]]++.replicate 36 []++[[0,2,3],[0,2,3]]++.replicate 9 []++[[0],[0],[],[],[],[],[],[0,1,2,3],[0,1,2,3],[],[],[],[0,1,2,3],[0,1,2,3]]++.replicate 35 []++[[0,1],[0,1]]++.replicate 23 []++[[0,1,2,3],[0,1,2,3],[],[],[],[],[],[],[0,1,2],[0,1,2]]++.replicate 9 []++[[0,1],[0,1],[],[],[],[],[],[0],[],[0,1]]++.replicate 27 []++[[0,1],[0,1]]++.replicate 59 []++[[0,1],[0,1],[],[],[0,1,2],[0,1,2]]++.replicate 21 []++[[0],[0]]++.replicate 14 []++[[0,1,2,3],[0,1,2,3]]++.replicate 9 []++[[0,1,2,3,4,5,6,7,8,9,10],[0,1,2,3,4,5,6,7,8,9,10]],es:=.replicate 24 0++[1,1,0,0,0,0,0,1,1,0,0,0,0,1]++.replicate 27 0++[1,2]++.replicate 11 0++[1]++.replicate 19 0++[1]++.replicate 12 0++[4]++.replicate 14 0++[2]++.replicate 34 0++[2,0,0,0,1,0,2]++.replicate 21 0++[1]++.replicate 34 0++[1]++.replicate 165 0,ag:=.replicate 7 none++[some 4,some 4,none,none,none,none,some 2,some 2,none,none,none,some 1,some 1,none,none,none,none,none,none,some 2,some 2,some 3,some 3,none,none,none,some 2,some 2,some 3,some 3]++.replicate 11 none++[some 4,some 4]++.replicate 17 none++[some 4,some 4]++.replicate 15 none++[some 3,some 3,none,none,none,some 2,some 2,none,none,none,some 9,some 9]++.replicate 36 none++[some 4,some 4,none,none,none,some 11,none,none,none,none,none,some 1,some 1,none,none,none,none,none,some 4,some 4,none,none,none,some 4,some 4]++.replicate 35 none++[some 2,some 2]++.replicate 23 none++[some 4,some 4,none,none,none,none,none,none,some 3,some 3]++.replicate 9 none++[some 2,some 2,none,none,none,none,none,some 1,none,some 2]++.replicate 27 none++[some 2,some 2]++.replicate 58 none++[some 256,some 2,some 2,some 32,none,some 3,some 3,none,some 24]++.replicate 19 none++[some 1,some 1,none,some 20,some 65]++.replicate 9 none++[some 32,some 64,some 4,some 4,some 0,some 0,some 0,none,none,none,none,none,none,some 11,some 11],ik:=[none,none,some .i64,some .i64,none,some .u8,some .u8,none,none,none,none,none,some .u64]++.replicate 8 none++[some .i32]++.replicate 169 none++[some .u64]++.replicate 72 none++[some .u32,none,some .u64]++.replicate 38 none++[some .i64]++.replicate 77 none++[some .u8,some .u8,none,some .i32,some .i32,none,none],st:=.replicate 9 false++[true,true,true]++.replicate 378 false }
theorem A8:tab.fok Tryz.prog=true:=kR
theorem mixed:(Tryz.prog).follows .mixedOrders=true:=kR
theorem Dm:Cq Tryz.prog 31=some (78,[.slice none 0 0],24):=kR
theorem K1:Cq Tryz.prog 32=some (161,[.slice none 0 0],24):=kR
theorem BI:Cq Tryz.prog 37=some (9,[.string { data := #[] }],16):=kR
theorem B5:Cq Tryz.prog 65=some (2,[.int .i64 0],8):=kR
theorem JV:Cq Tryz.prog 66=some (90,[.int .i64 0,.int .i64 0],16):=kR
theorem Bm:Cq Tryz.prog 78=some (144,[.slice none 0 0],24):=kR
theorem Hl:Cq Tryz.prog 98=some (5,[.int .u8 0],1):=kR
theorem HA:Cq Tryz.prog 111=some (151,[.int .i64 0,.int .i64 0,.int .i64 0,.string { data := #[] }],40):=kR
theorem EG:Cq Tryz.prog 126=some (193,[.int .i64 0,.int .i64 0],16):=kR
theorem IQ:Cq Tryz.prog 161=some (237,[.string { data := #[] },.int .i64 0],24):=kR
theorem LX:Cq Tryz.prog 189=some (3,[.int .i64 0],8):=kR
theorem Yy:Cq Tryz.prog 224=some (65,[.slice none 0 0],24):=kR
theorem oV {g:Nat} {fn:Func} (hf:Tryz.prog.funcs[g]? = some fn) {c:Code} {rs:List ResultVar} {args:List Value} {R:Value->World->Prop} (h:vc Tryz.prog tab n c (O7 args) w (fun f w=>Q5 Tryz.prog rs f w fun l=>LD (Jk l) fun v=>R v w) (fun _ _ _=>False) (fun f w=>Q5 Tryz.prog rs f w fun l=>LD (Jk l) fun v=>R v w)) (hb:fn.body=some c:=by exact rfl) (hn:fn.ntmps=n:=by exact rfl) (hrs:fn.results.toList=rs:=by exact rfl) (hok:aC2 fn args.length=true:=by kernel_rfl):Ev Tryz.prog g args w R:=Wx A8 hf hb hn hrs hok h
theorem dH {ops:Array Oper} (plan:List (Nat×Bool)) {K:Fr->World->Prop} (h:∀ w1,AD w w1->Rj Tryz.prog tab n w ops.toList (IL ops.toList plan) f w1 K) (hok:DF n ops=true:=by kernel_rfl) (hB:VR ops plan=true:=by kernel_rfl):E4 Tryz.prog n ops f w K:=E4.held A8 mixed plan hok hB h
theorem lR {α:Type} (slots:List Nat) (I:α->List Value->World->Prop) (μ:α->Nat) {body:Code} {Kn:Fr->World->Prop} {Ke:Nat->Fr->World->Prop} {Kr:Fr->World->Prop} (a0:α) (h0:I a0 (slots.map f) w) (step:∀ a g vs w,I a vs w->vc Tryz.prog tab n body (YU g slots vs) w (fun f' w'=>∃ a',μ a'<μ a/\I a' (slots.map f') w') Ke Kr) (hok:G9 n body=true:=by kernel_rfl):S0 Tryz.prog n body f w Kn Ke Kr:=Wv slots I μ tab A8 hok a0 h0 step
abbrev Dq:=Ev Tryz.prog
end Go.Proofs.YtalgenmoljcnmaaGreatDoor
namespace Go.Proofs.YtalgenmoljcnmaaGreatDoor
open Go Go.RowKit Go.Vc Go.M
theorem ML (n:Nat) (w:World):Dq 311 [.int .u8 n] w (fun v w'=>v = .bool (I6 n)/\w=w'):=by
 refine oV Tryz.func311 ?_;conv=>whnf
 refine AL (fun b=>?_) fun b=>?_
 .exact ⟨by have a : 97 <= n := om;simp only [I6,a,decide_true,Bool.true_and];congr 1;simp;omega,rfl⟩
 .exact ⟨by have a : ¬ 97 <= n := om;simp [I6,a],rfl⟩
theorem PW (n:Nat) (w:World):Dq 295 [.int .u8 n] w (fun v w'=>v = .bool (I6 n)/\w=w'):=by
 refine oV Tryz.func295 ?_;conv=>whnf
 refine AL (fun b=>?_) fun b=>?_
 .exact ⟨by have a : 97 <= n := om;simp only [I6,a,decide_true,Bool.true_and];congr 1;simp;omega,rfl⟩
 .exact ⟨by have a : ¬ 97 <= n := om;simp [I6,a],rfl⟩
theorem FT (n:Nat) (w:World):Dq 312 [.int .u8 n] w (fun v w'=>v = .bool (DK n)/\w=w'):=by
 refine oV Tryz.func312 ?_;conv=>whnf
 refine AL (fun b=>?_) fun b=>?_
 .exact ⟨by have a : 48 <= n := om;simp only [DK,a,decide_true,Bool.true_and];congr 1;simp;omega,rfl⟩
 .exact ⟨by have a : ¬ 48 <= n := om;simp [DK,a],rfl⟩
theorem FB (n:Nat) (w:World):Dq 162 [.int .u8 n] w (fun v w'=>v = .bool (DK n)/\w=w'):=by
 refine oV Tryz.func162 ?_;conv=>whnf
 refine AL (fun b=>?_) fun b=>?_
 .exact ⟨by have a : 48 <= n := om;simp only [DK,a,decide_true,Bool.true_and];congr 1;simp;omega,rfl⟩
 .exact ⟨by have a : ¬ 48 <= n := om;simp [DK,a],rfl⟩
theorem B8 (n lo hi:Int) (w:World):Dq 85 [.int .i64 n,.int .i64 lo,.int .i64 hi] w (fun v w'=>v = .bool (Dc n lo hi)/\w=w'):=by
 refine oV Tryz.func85 ?_;conv=>whnf
 refine AL (fun a=>?_) fun a=>?_
 .exact ⟨by simp [Dc,a],rfl⟩
 .exact ⟨by simp [Dc,a],rfl⟩
theorem Em (n lo hi:Int) (w:World):Dq 93 [.int .i64 n,.int .i64 lo,.int .i64 hi] w (fun v w'=>v = .bool (Dc n lo hi)/\w=w'):=by
 refine oV Tryz.func93 ?_;conv=>whnf
 refine AL (fun a=>?_) fun a=>?_
 .exact ⟨by simp [Dc,a],rfl⟩
 .exact ⟨by simp [Dc,a],rfl⟩
theorem VN (s:ByteArray) (hs:s.size<=9223372036854775807) (w:World):Dq 269 [.string s] w (fun v w'=>v = .bool (GS s)/\w=w'):=by
 have u:s.data.toList.length=s.size:=sI
 refine oV Tryz.func269 ?_;conv=>whnf
 refine AL (fun o=>?_) fun o=>?_
 .exact ⟨by have c : ¬ 1 <= s.data.toList.length := om;simp only [GS,JU,c,decide_false,Bool.false_and],rfl⟩
 .refine AL (fun p=>?_) fun p=>?_
  .exact ⟨by have c : ¬ s.data.toList.length <= 12 := om;simp only [GS,JU,c,decide_false,Bool.false_and,Bool.and_false],rfl⟩
  .obtain ⟨l,j⟩:∃ l,s.data.toList[0]? = some l:=AA om;refine jC 0 rfl j ?_;refine (ML _ w).mono ?_;rintro _ _ ⟨rfl,rfl⟩;conv=>whnf
   refine BS (fun d=>?_) fun d=>?_
   .exact ⟨by simp only [Bool.not_eq_true'] at d;simp only [GS,JU,MT j,d,Bool.false_and,Bool.and_false],rfl⟩
   ·(conv=>whnf);simp only [Bool.not_eq_false'] at d;refine lR [0,3] (fun (a:Nat) y w'=>y=[.string s,.int .i64 a]/\a<=s.size/\(s.data.toList.take a).all Ey=true/\w=w') (fun a=>s.size - a) 0 ⟨rfl,om,sI,rfl⟩ ?_;rintro a z _ w' ⟨rfl,aa,i,rfl⟩;refine AL (fun q=>?_) fun q=>?_
    .have ab:a<s.size:=om
     obtain ⟨b,g⟩:∃ b,s.data.toList[a]? = some b:=AA om;have k:∀ h:Bool,Ey b=h->(s.data.toList.take (a+1)).all Ey=h:=fun h t=>by rw [Km g,i,t];rfl
     refine jC a rfl g ?_;refine (ML _ w).mono ?_;rintro _ _ ⟨rfl,rfl⟩;conv=>whnf
     refine BS (fun e=>?_) fun e=>?_
     .refine jC a rfl g ?_;refine (FT _ w).mono ?_;rintro _ _ ⟨rfl,rfl⟩;conv=>whnf
      refine BS (fun f=>?_) fun f=>?_
      .refine jC a rfl g ?_;refine Ak (fun r=>?_) fun r=>?_
       .have x:Ey b=false:=by simp at e f;simp [Ey,e,f];omega
        exact ⟨by rw [GS,JU,Mj g x];simp,rfl⟩
       .refine AB.add (a+1) rfl om om ?_;refine ⟨a+1,om,rfl,om,k true ?_,rfl⟩;have:b.toNat=45:=om
        simp [Ey,this]
      .refine AB.add (a+1) rfl om om ?_;refine ⟨a+1,om,rfl,om,k true ?_,rfl⟩;simp at f;simp [Ey,f]
     .refine AB.add (a+1) rfl om om ?_;refine ⟨a+1,om,rfl,om,k true ?_,rfl⟩;simp at e;simp [Ey,e]
    ·(conv=>whnf);have c:a=s.size:=om
     have m:1<=s.data.toList.length:=om
     have n:s.data.toList.length<=12:=om
     rw [c,<- u,List.take_length] at i;exact ⟨by simp only [GS,JU,MT j,m,n,d,i,decide_true,Bool.and_self],rfl⟩
theorem Uk (s:ByteArray) (hs:s.size<=9223372036854775807) (w:World):Dq 243 [.string s] w (fun v w'=>v = .bool (GS s)/\w=w'):=by
 have x:s.data.toList.length=s.size:=sI
 refine oV Tryz.func243 ?_;conv=>whnf
 refine AL (fun d=>?_) fun d=>?_
 .exact ⟨by subst d;rfl,rfl⟩
 .have p:¬ s.size<1:=fun ab=>d (by
   have c:s.data.toList=[]:=List.eq_nil_of_length_eq_zero om;rw [<- Z5 s,c];rfl)
  clear d;have d:=p;refine AL (fun q=>?_) fun q=>?_
  .exact ⟨by have c : ¬ s.data.toList.length <= 12 := om;simp only [GS,JU,c,decide_false,Bool.false_and,Bool.and_false],rfl⟩
  .obtain ⟨m,k⟩:∃ m,s.data.toList[0]? = some m:=AA om;refine jC 0 rfl k ?_;refine (PW _ w).mono ?_;rintro _ _ ⟨rfl,rfl⟩;conv=>whnf
   refine BS (fun e=>?_) fun e=>?_
   .exact ⟨by simp only [Bool.not_eq_true'] at e;simp only [GS,JU,MT k,e,Bool.false_and,Bool.and_false],rfl⟩
   ·(conv=>whnf);simp only [Bool.not_eq_false'] at e;refine lR [0,3] (fun (a:Nat) z w'=>z=[.string s,.int .i64 a]/\a<=s.size/\(s.data.toList.take a).all Ey=true/\w=w') (fun a=>s.size - a) 0 ⟨rfl,om,sI,rfl⟩ ?_;rintro a aa _ w' ⟨rfl,ac,j,rfl⟩;refine AL (fun r=>?_) fun r=>?_
    .have ad:a<s.size:=om
     obtain ⟨b,h⟩:∃ b,s.data.toList[a]? = some b:=AA om;have l:∀ i:Bool,Ey b=i->(s.data.toList.take (a+1)).all Ey=i:=fun i u=>by rw [Km h,j,u];rfl
     refine jC a rfl h ?_;refine (PW _ w).mono ?_;rintro _ _ ⟨rfl,rfl⟩;conv=>whnf
     refine BS (fun f=>?_) fun f=>?_
     .refine jC a rfl h ?_;refine (FB _ w).mono ?_;rintro _ _ ⟨rfl,rfl⟩;conv=>whnf
      refine BS (fun g=>?_) fun g=>?_
      .refine jC a rfl h ?_;refine Ak (fun t=>?_) fun t=>?_
       .have y:Ey b=false:=by simp at f g;simp [Ey,f,g];omega
        exact ⟨by rw [GS,JU,Mj h y];simp,rfl⟩
       .refine AB.add (a+1) rfl om om ?_;refine ⟨a+1,om,rfl,om,l true ?_,rfl⟩;have:b.toNat=45:=om
        simp [Ey,this]
      .refine AB.add (a+1) rfl om om ?_;refine ⟨a+1,om,rfl,om,l true ?_,rfl⟩;simp at g;simp [Ey,g]
     .refine AB.add (a+1) rfl om om ?_;refine ⟨a+1,om,rfl,om,l true ?_,rfl⟩;simp at f;simp [Ey,f]
    ·(conv=>whnf);have c:a=s.size:=om
     have n:1<=s.data.toList.length:=om
     have o:s.data.toList.length<=12:=om
     rw [c,<- x,List.take_length] at j;exact ⟨by simp only [GS,JU,MT k,n,o,e,j,decide_true,Bool.and_self],rfl⟩
end Go.Proofs.YtalgenmoljcnmaaGreatDoor
namespace Go.Proofs.YtalgenmoljcnmaaGreatDoor
open Go Go.RowKit Go.Vc Go.M
end Go.Proofs.YtalgenmoljcnmaaGreatDoor
namespace Go.M
open Go Go.Vc
structure An where
 tray:Int
 count:Int
 sum:Int
 what:ByteArray
theorem Qn {a b:An}:a=b↔a.tray=b.tray/\a.count=b.count/\a.sum=b.sum/\a.what=b.what:=by
 constructor
 .intro c;subst c;simp
 .intro c;cases a;cases b;simp at c;simp [c]
instance:DecidableEq An:=fun a b=>decidable_of_iff (a.tray=b.tray/\a.count=b.count/\a.sum=b.sum/\a.what=b.what) Qn.symm
instance:Inhabited An:=⟨⟨0,0,0,.empty⟩⟩
def An.enc (x:An):List Value:=[.int .i64 x.tray,.int .i64 x.count,.int .i64 x.sum,.string x.what]
theorem Au (x:An):x.enc.length=4:=rfl
def An.ok (x:An):Prop:=BM x.tray/\BM x.count/\BM x.sum/\Nt x.what
end Go.M
namespace Go.Proofs.YtalgenmoljcnmaaGreatDoor
open Go Go.RowKit Go.Vc Go.M
end Go.Proofs.YtalgenmoljcnmaaGreatDoor
namespace Go.M
open Go Go.Vc
def Cr (x:An):Bool:=Dc x.tray 0 5 && Dc x.count 0 100000 && Dc x.sum (-999999999999) 999999999999 && GS x.what
end Go.M
namespace Go.Proofs.YtalgenmoljcnmaaGreatDoor
open Go Go.RowKit Go.Vc Go.M
variable {x:An}
theorem FH (n:Int) (w:World):Dq 73 [.int .i64 n] w (fun v w'=>v = .bool (Dc n 0 5)/\w=w'):=by
 refine oV Tryz.func73 ?_;refine (B8 _ _ _ w).mono ?_;rintro _ _ ⟨rfl,rfl⟩;exact ⟨rfl,rfl⟩
theorem MM (n:Int) (w:World):Dq 268 [.int .i64 n] w (fun v w'=>v = .bool (Dc n (-999999999999) 999999999999)/\w=w'):=by
 refine oV Tryz.func268 ?_;refine (B8 _ _ _ w).mono ?_;rintro _ _ ⟨rfl,rfl⟩;exact ⟨rfl,rfl⟩
theorem GG (n:Int) (w:World):Dq 97 [.int .i64 n] w (fun v w'=>v = .bool (Dc n 0 5)/\w=w'):=by
 refine oV Tryz.func97 ?_;refine (Em _ _ _ w).mono ?_;rintro _ _ ⟨rfl,rfl⟩;exact ⟨rfl,rfl⟩
theorem I0 (hx:x.ok) {b o:Nat} {w:World} (hc:AK w b o x.enc):Dq 174 [.pointer (some ⟨b,o,none⟩)] w (fun v w'=>v = .bool (Cr x)/\w=w'):=by
 refine oV Tryz.func174 ?_;refine jL hc (k:=0) rfl ?_;refine (GG _ w).mono ?_;rintro _ _ ⟨rfl,rfl⟩;conv=>whnf
 refine BS (fun a=>?_) fun a=>?_
 .refine jL hc (k:=1) rfl ?_;refine (Em _ _ _ w).mono ?_;rintro _ _ ⟨rfl,rfl⟩;conv=>whnf
  refine BS (fun c=>?_) fun c=>?_
  .refine jL hc (k:=2) rfl ?_;refine (Em _ _ _ w).mono ?_;rintro _ _ ⟨rfl,rfl⟩;conv=>whnf
   refine BS (fun d=>?_) fun d=>?_
   .refine jL hc (k:=3) rfl ?_;refine (Uk _ hx.2.2.2 w).mono ?_;rintro _ _ ⟨rfl,rfl⟩;exact ⟨by simp only [Cr,a,c,d,Bool.true_and],rfl⟩
   .exact ⟨by simp only [Cr,a,c,d,Bool.true_and,Bool.false_and],rfl⟩
  .exact ⟨by simp only [Cr,a,c,Bool.true_and,Bool.false_and],rfl⟩
 .exact ⟨by simp only [Cr,a,Bool.false_and],rfl⟩
theorem GL (hx:x.ok) (w:World):Dq 204 [.agg ⟨x.enc⟩] w (fun v w'=>v = .bool (Cr x)/\AD w w'):=by
 refine oV Tryz.func204 ?_;refine AB.box ?_;intro g b _ _ c h;have e:AK b g 0 x.enc:=h.cells;refine jL e (k:=0) rfl ?_;refine (FH _ b).mono ?_;rintro _ _ ⟨rfl,rfl⟩;conv=>whnf
 refine BS (fun a=>?_) fun a=>?_
 .refine jL e (k:=1) rfl ?_;refine (B8 _ _ _ b).mono ?_;rintro _ _ ⟨rfl,rfl⟩;conv=>whnf
  refine BS (fun d=>?_) fun d=>?_
  .refine jL e (k:=2) rfl ?_;refine (MM _ b).mono ?_;rintro _ _ ⟨rfl,rfl⟩;conv=>whnf
   refine BS (fun f=>?_) fun f=>?_
   .refine jL e (k:=3) rfl ?_;refine (VN _ hx.2.2.2 b).mono ?_;rintro _ _ ⟨rfl,rfl⟩;exact ⟨by simp only [Cr,a,d,f,Bool.true_and],c⟩
   .exact ⟨by simp only [Cr,a,d,f,Bool.true_and,Bool.false_and],c⟩
  .exact ⟨by simp only [Cr,a,d,Bool.true_and,Bool.false_and],c⟩
 .exact ⟨by simp only [Cr,a,Bool.false_and],c⟩
end Go.Proofs.YtalgenmoljcnmaaGreatDoor
namespace Go.M
open Go Go.Vc
variable {l p r:List UInt8} {n x:An} {c ch:Int}
def spB:ByteArray:=bs [32]
def ZX:ByteArray:=bs [10]
def DG (n:An):ByteArray:=BP n.tray++spB++BP n.count++spB++BP n.sum++spB++n.what
def HB (s:Int) (c:UInt8):Int:=(37 * s+c.toNat) % 65521
def UA (before:Int) (l:List UInt8):Int:=l.foldl HB ((before+17) % 65521)
def By (before:Int) (n:An):Int:=UA before (DG n).data.toList
def E0 (chain:Int) (n:An):ByteArray:=BP chain++spB++DG n++ZX
theorem T9 (l:List UInt8):∀ s:Int,0<=s->s<=65520->0<=l.foldl HB s/\l.foldl HB s<=65520:=by
 induction l with
 | nil=>intro s a b;exact ⟨a,b⟩
 | cons d l c =>
  intro s a b;exact c _ (by unfold HB;omega) (by unfold HB;omega)
theorem ZR (before:Int) (h:0<=before) (l:List UInt8):0<=UA before l/\UA before l<=65520:=T9 l _ om om
theorem Hz (before:Int) (h:0<=before) (n:An):0<=By before n/\By before n<=65520:=ZR before h _
theorem Qh {k:Nat} {c:UInt8} (h:l[k]? = some c) (s:Int):(l.take (k+1)).foldl HB s=HB ((l.take k).foldl HB s) c:=by
 rw [List.take_add_one,h];simp
def Df (line:ByteArray) (before:Int):Option (An×Int) :=
 match Aq 32 line with
 | [_,w1,w2,w3,w4] =>
  if (Ef w1 && Ef w2 && Ef w3 && Cr ⟨Al w1,Al w2,Al w3,w4⟩)=true/\E0 (By before ⟨Al w1,Al w2,Al w3,w4⟩) ⟨Al w1,Al w2,Al w3,w4⟩=line++ZX then
   some (⟨Al w1,Al w2,Al w3,w4⟩,By before ⟨Al w1,Al w2,Al w3,w4⟩)
  else none
 | _=>none
theorem Jz {line:ByteArray} {before:Int} (h:Df line before=some (n,c)):Cr n=true/\c=By before n/\E0 c n=line++ZX:=by
 unfold Df at h;split at h
 .split at h
  .rename_i a;simp only [Bool.and_eq_true] at a;simp only [Option.some.injEq,Prod.mk.injEq] at h;obtain ⟨b,d⟩:=h;subst b;subst d;exact ⟨a.1.2,rfl,a.2⟩
  .cases h
 .cases h
def IA:Nat->List UInt8->Int->List An×Int×Nat
 | 0,_,ch=>([],ch,0)
 | f+1,l,ch =>
  if 10∈l then
   match Df (bs (l.takeWhile (·≠10))) ch with
   | none=>([],ch,0)
   | some (n,c) =>
    (n :: (IA f (l.drop ((l.takeWhile (·≠10)).length+1)) c).1,(IA f (l.drop ((l.takeWhile (·≠10)).length+1)) c).2.1,(l.takeWhile (·≠10)).length+1+(IA f (l.drop ((l.takeWhile (·≠10)).length+1)) c).2.2)
  else ([],ch,0)
def A5 (l:List UInt8) (ch:Int):List An×Int×Nat:=IA l.length l ch
theorem Lq (h:(10:UInt8)∉p):(p++10 :: r).takeWhile (·≠10)=p:=by
 induction p with
 | nil=>simp
 | cons a p e =>
  have c:a≠10:=fun b=>h (by simp [b]);rw [List.cons_append,List.takeWhile_cons,if_pos (by simpa using c),e (fun d=>h (by simp [d]))]
theorem Pg:∀ (f g:Nat) (l:List UInt8) (ch:Int),l.length<=f->l.length<=g->IA f l ch=IA g l ch
 | 0,0,_,_,_,_=>rfl
 | 0,g+1,l,ch,h,_=>by
  have:l=[]:=List.eq_nil_of_length_eq_zero om;subst this;simp [IA]
 | f+1,0,l,ch,_,h=>by
  have:l=[]:=List.eq_nil_of_length_eq_zero om;subst this;simp [IA]
 | f+1,g+1,l,ch,h1,h2=>by
  simp only [IA];split
  .rename_i c;have d:0<l.length:=List.length_pos_iff.2 (fun b=>by rw [b] at c;cases c);split
   .rfl
   .rename_i i a e;have b:IA f (l.drop ((l.takeWhile (·≠10)).length+1)) a=IA g (l.drop ((l.takeWhile (·≠10)).length+1)) a :=
     Pg f g _ a (by simp;omega) (by simp;omega)
    rw [b]
  .rfl
theorem Hj (h:(10:UInt8)∉l) (ch:Int):A5 l ch=([],ch,0):=by
 unfold A5;cases l.length with
 | zero=>rfl
 | succ a=>simp only [IA,if_neg h]
theorem KT (h:(10:UInt8)∉p) (hn:Df (bs p) ch=none):A5 (p++10 :: r) ch=([],ch,0):=by
 unfold A5;rw [List.length_append,List.length_cons,<- Nat.add_assoc];simp only [IA,Lq h,hn];rw [if_pos sI]
theorem Fm (h:(10:UInt8)∉p) (hn:Df (bs p) ch=some (n,c)) :
  A5 (p++10 :: r) ch=(n :: (A5 r c).1,(A5 r c).2.1,p.length+1+(A5 r c).2.2):=by
 unfold A5;rw [List.length_append,List.length_cons,<- Nat.add_assoc];have a:(p++10 :: r).drop (p.length+1)=r:=sI
 simp only [IA,Lq h,hn,a];rw [if_pos sI,Pg (p.length+r.length) r.length r c om (Nat.le_refl _)]
theorem EY:∀ (k:Nat) (l:List UInt8) (ch:Int),l.length<=k->0<=ch->ch<=65520->(∀ n∈(A5 l ch).1,Cr n=true)/\0<=(A5 l ch).2.1/\(A5 l ch).2.1<=65520/\(A5 l ch).2.2<=l.length/\(A5 l ch).1.length<=(A5 l ch).2.2
 | k,l,ch,hk,h0,h1=>by
  by_cases hm:(10:UInt8)∈l
  .obtain ⟨p,r,rfl,hp⟩:=Ft hm;cases b:Df (bs p) ch with
   | none=>rw [KT hp b];exact ⟨sI,h0,h1,sI,sI⟩
   | some g =>
    obtain ⟨n,h⟩:=g;rw [Fm hp b];obtain ⟨d,e,_⟩:=Jz b;subst e;have c:=Hz ch h0 n
    match k,hk with
    | 0,hk=>simp at hk
    | k+1,hk =>
     have a:=EY k r _ (by simp at hk;omega) c.1 c.2;refine ⟨fun f hm=>?_,a.2.1,a.2.2.1,?_,?_⟩
     .rcases List.mem_cons.1 hm with rfl | hm
      .exact d
      .exact a.1 f hm
     .have:=a.2.2.2.1;simp;omega
     .have:=a.2.2.2.2;simp;omega
  .rw [Hj hm];exact ⟨sI,h0,h1,sI,sI⟩
def Aj (s:ByteArray):Int:=if 4000<s.size then 5 else if (A5 s.data.toList 0).2.2<s.size then 8 else 0
theorem Xt {s:ByteArray} (h:GS s=true):s.size<=12:=by
 simp only [GS,JU,Bool.and_eq_true,decide_eq_true_eq] at h;have:=h.1.1.2;simpa using this
theorem FE (h:Cr x=true):x.what.size<=12:=by
 simp only [Cr,Bool.and_eq_true] at h;exact Xt h.2
theorem Fk (hx:x.ok):(DG x).size<=66+x.what.size:=by
 obtain ⟨a,b,c,_⟩:=hx;have e:=Bc a.1 a.2;have f:=Bc b.1 b.2;have g:=Bc c.1 c.2;have d:spB.size=1:=rfl;simp only [DG,ByteArray.size_append,d];omega
theorem KY (h0:0<=c) (h1:c<=65520) (hx:x.ok):(E0 c x).size<=89+x.what.size:=by
 have d:=Bc (n:=c) om om;have e:=Fk hx;have a:spB.size=1:=rfl;have b:ZX.size=1:=rfl;simp only [E0,ByteArray.size_append,a,b];omega
theorem J1 (h:Cr x=true):x.ok:=by
 have a:=FE h;simp only [Cr,Bool.and_eq_true,Dc,decide_eq_true_eq] at h;refine ⟨⟨om,om⟩,⟨om,om⟩,⟨om,om⟩,?_⟩;simp only [Nt];omega
end Go.M
namespace Go.M
open Go Go.Vc
variable {α:Type} {l:List An} {line:ByteArray} {x:An}
theorem Gm (s:ByteArray):BM (Al s):=by
 unfold Al;cases a:Jy s with
 | none=>exact ⟨dE,dE⟩
 | some d =>
  obtain ⟨_,_,b,c⟩:=NF a;exact ⟨by simp;omega,by simp;omega⟩
theorem aB1 {l:List α} (h:l.length=5):∃ a b c d e,l=[a,b,c,d,e]:=by
 match l,h with
 | [a,b,c,d,e],_=>exact ⟨a,b,c,d,e,rfl⟩
theorem L6 (h:(Aq 32 line).length≠5) (before:Int):Df line before=none:=by
 unfold Df;split
 .rename_i a;rw [a] at h;exact absurd rfl h
 .rfl
theorem IP {a w1 w2 w3 w4:ByteArray} (h:Aq 32 line=[a,w1,w2,w3,w4]) (before:Int):Df line before =
  if (Ef w1 && Ef w2 && Ef w3 && Cr ⟨Al w1,Al w2,Al w3,w4⟩)=true/\E0 (By before ⟨Al w1,Al w2,Al w3,w4⟩) ⟨Al w1,Al w2,Al w3,w4⟩=line++ZX then
   some (⟨Al w1,Al w2,Al w3,w4⟩,By before ⟨Al w1,Al w2,Al w3,w4⟩)
  else none:=by
 unfold Df;rw [h]
theorem W7 {l:List UInt8} {at_:Nat} {p r:List UInt8} (h:l.drop at_=p++10 :: r):l.drop (at_+(p.length+1))=r:=by
 rw [<- List.drop_drop,h];simp
def BQ (s:ByteArray):List An×Int×Int:=if Aj s=0 then ((A5 s.data.toList 0).1,(A5 s.data.toList 0).2.1,0) else ([],0,Aj s)
theorem CB (s:ByteArray):(4000<s.size/\Aj s=5)\/(s.size<=4000/\(A5 s.data.toList 0).2.2<s.size/\Aj s=8)\/(s.size<=4000/\¬ (A5 s.data.toList 0).2.2<s.size/\Aj s=0):=by
 unfold Aj;by_cases b:4000<s.size
 .exact .inl ⟨b,if_pos b⟩
 .rw [if_neg b];by_cases a:(A5 s.data.toList 0).2.2<s.size
  .exact .inr (.inl ⟨om,a,if_pos a⟩)
  .exact .inr (.inr ⟨om,a,if_neg a⟩)
def A3 (s:ByteArray) (x:An):ByteArray×Int :=
 if Aj s=0 then
  if Cr x=false then ({ data := #[] },7)
  else if 4000<s.size+(E0 (By (A5 s.data.toList 0).2.1 x) x).size then ({ data := #[] },5) else (s++E0 (By (A5 s.data.toList 0).2.1 x) x,0)
 else ({ data := #[] },Aj s)
def DU (l:List An) (t:Int):List An:=l.filter fun x=>decide (x.tray=t)
def IX (s:ByteArray) (t:Int):List An×Int :=
 if Aj s=0 then if Dc t 0 5=true then (DU (A5 s.data.toList 0).1 t,0) else ([],2) else ([],Aj s)
def aF9 (s:ByteArray) (t:Int):An×Int :=
 if (IX s t).2=0 then match (IX s t).1.getLast? with | none=>(⟨0,0,0,{ data := #[] }⟩,3) | some x=>(x,0) else (⟨0,0,0,{ data := #[] }⟩,(IX s t).2)
def F0 (l:List An):Int:=match l.getLast? with | none=>0 | some x=>x.count
def FZ (l:List An):Nat->Int
 | 0=>0
 | k+1=>FZ l k+F0 (DU l k)
def D1 (s:ByteArray):Int×Int:=if Aj s=0 then (FZ (A5 s.data.toList 0).1 6,0) else (0,Aj s)
theorem IH {k:Nat} (h:l[k]? = some x) (t:Int):DU (l.take (k+1)) t=if x.tray=t then DU (l.take k) t++[x] else DU (l.take k) t:=by
 unfold DU;rw [List.take_add_one,h];simp only [Option.toList_some,List.filter_append,List.filter_cons,List.filter_nil];by_cases a:x.tray=t
 .simp [a]
 .simp [a]
theorem Lk {t:Int} (h:x∈DU l t):x∈l:=(List.mem_filter.1 h).1
theorem H4 (l:List An) (t:Int):(DU l t).length<=l.length:=List.length_filter_le _ _
theorem VF (h:∀ x∈l,Cr x=true):0<=F0 l/\F0 l<=100000:=by
 unfold F0;cases a:l.getLast? with
 | none=>exact ⟨dE,dE⟩
 | some x =>
  have:=h x (List.mem_of_getLast? a);simp only [Cr,Bool.and_eq_true,Dc,decide_eq_true_eq] at this;exact ⟨by show 0<=x.count;omega,by show x.count<=100000;omega⟩
theorem Oz (h:∀ x∈l,Cr x=true):∀ k,0<=FZ l k/\FZ l k<=k * 100000
 | 0=>⟨by simp [FZ],by simp [FZ]⟩
 | k+1=>by
  have h1:=Oz h k;have b:=VF (l:=DU l k) (fun x a=>h x (Lk a));simp only [FZ];omega
theorem QL {l:List α} {n:Nat} (h:l.length=n+1):l.getLast? = l[n]? := by
 rw [List.getLast?_eq_getElem?];congr 1;omega
theorem JC (s:ByteArray):(BQ s).1.length<=4000:=by
 have d:=EY _ s.data.toList 0 (Nat.le_refl _) om om;have e:s.data.toList.length=s.size:=sI
 unfold BQ;rcases CB s with ⟨c,a⟩ | ⟨c,a,b⟩ | ⟨c,a,b⟩
 .rw [a];simp
 .rw [b];simp
 .rw [b,if_pos rfl];show (A5 s.data.toList 0).1.length<=4000;omega
end Go.M
namespace Go.M
open Go Go.Vc
variable {d:UInt8} {n c:Int} {x:An}
theorem ZM {c:UInt8} (h:GV c=true) (d:UInt8) (hd:d.toNat<45):c≠d:=by
 rintro rfl;unfold GV at h;simp only [Bool.and_eq_true,decide_eq_true_eq] at h;omega
theorem IB (n:Int) (hd:d.toNat<45):d∉Lib.itoa n:=by
 intro a;unfold Lib.itoa at a;split at a
 .rcases List.mem_cons.1 a with a | a
  .rw [a] at hd;exact absurd hd dE
  .exact ZM (Ff _ _ a) d hd rfl
 .exact ZM (Ff _ _ a) d hd rfl
theorem LF:∀ (k u:Nat),u<10 ^ (k+1)->(Lib.decDigits u).length<=k+1
 | 0,u,h=>by
  rw [Lib.decDigits,dif_pos (by simpa using h)];simp
 | k+1,u,h=>by
  rw [Lib.decDigits];by_cases hu:u<10
  .rw [dif_pos hu];simp
  .rw [dif_neg hu];have:=LF k (u / 10) (by
    rw [Nat.pow_succ] at h;omega)
   simp only [List.length_append,List.length_cons,List.length_nil];omega
theorem Om (h0 : -1000000000000000000<n) (h1:n<1000000000000000000):(Lib.decDigits n.natAbs).length<=18 :=
 LF 17 _ (by
  have a:(10:Nat) ^ (17+1)=1000000000000000000:=dE
  rw [a];omega)
theorem NG (h0 : -1000000000000000000<n) (h1:n<1000000000000000000):Al (BP n)=n/\Ef (BP n)=true:=by
 unfold Al Ef;rw [SJ (Om h0 h1)];exact ⟨rfl,rfl⟩
theorem W6 {s:ByteArray} (h:GS s=true) (hd:d.toNat<45):d∉s.data.toList:=by
 intro a;simp only [GS,JU,Bool.and_eq_true] at h;have:=List.all_eq_true.1 h.2 d a;simp only [Ey,I6,DK,Bool.or_eq_true,Bool.and_eq_true,decide_eq_true_eq] at this;omega
def JW (c:Int) (x:An):List UInt8:=Lib.itoa c++32 :: (Lib.itoa x.tray++32 :: (Lib.itoa x.count++32 :: (Lib.itoa x.sum++32 :: x.what.data.toList)))
theorem VA (c:Int) (x:An):E0 c x=bs (JW c x)++ZX:=by
 apply CV;simp [E0,DG,JW,spB,ZX,bs,E7]
theorem Y0 (h:Cr x=true):(10:UInt8)∉JW c x:=by
 have b:GS x.what=true:=by
  simp only [Cr,Bool.and_eq_true] at h;exact h.2
 have a:(10:UInt8).toNat<45:=dE
 simp only [JW,List.mem_append,List.mem_cons,not_or];refine ⟨IB c a,dE,IB _ a,dE,IB _ a,dE,IB _ a,dE,W6 b a⟩
theorem U9 (h:Cr x=true):Aq 32 (bs (JW c x))=[BP c,BP x.tray,BP x.count,BP x.sum,x.what]:=by
 have g:GS x.what=true:=by
  simp only [Cr,Bool.and_eq_true] at h;exact h.2
 have a:(32:UInt8).toNat<45:=dE
 have e:(bs (JW c x)).data.toList=JW c x:=by simp [bs]
 unfold Aq DA;rw [e];unfold JW;rw [ED 32 _ _ [] (IB c a)];unfold DA;rw [ED 32 _ _ [] (IB _ a)];unfold DA;rw [ED 32 _ _ [] (IB _ a)];unfold DA;rw [ED 32 _ _ [] (IB _ a)];unfold DA;rw [E9 32 _ [] (W6 g a)];simp only [List.nil_append,List.map_cons,List.map_nil];have b:∀ d,bs (Lib.itoa d)=BP d:=fun d=>rfl;have f:bs x.what.data.toList=x.what:=CV (by simp [bs]);rw [b,b,b,b,f]
theorem Q8 {ch:Int} (h:Cr x=true):Df (bs (JW (By ch x) x)) ch=some (x,By ch x):=by
 have g:=h;simp only [Cr,Bool.and_eq_true,Dc,decide_eq_true_eq] at g;obtain ⟨a,d⟩:=NG (n:=x.tray) om om;obtain ⟨b,e⟩:=NG (n:=x.count) om om;obtain ⟨c,f⟩:=NG (n:=x.sum) om om;rw [IP (U9 h),a,b,c,d,e,f];rw [if_pos ⟨by simpa using h,VA _ _⟩]
end Go.M
namespace Go.M
open Go Go.Vc
structure A9 where
 name:ByteArray
 sum:Int
theorem Oo {a b:A9}:a=b↔a.name=b.name/\a.sum=b.sum:=by
 constructor
 .intro c;subst c;simp
 .intro c;cases a;cases b;simp at c;simp [c]
instance:DecidableEq A9:=fun a b=>decidable_of_iff (a.name=b.name/\a.sum=b.sum) Oo.symm
instance:Inhabited A9:=⟨⟨.empty,0⟩⟩
def A9.enc (x:A9):List Value:=[.string x.name,.int .i64 x.sum]
theorem Bu (x:A9):x.enc.length=2:=rfl
end Go.M
namespace Go.Proofs.YtalgenmoljcnmaaGreatDoor
open Go Go.RowKit Go.Vc Go.M
end Go.Proofs.YtalgenmoljcnmaaGreatDoor
namespace Go.M
open Go Go.Vc
structure aD4 where
 name:ByteArray
 cards:Int
 year:Int
 keep:Int
 lent:ByteArray
theorem Rm {a b:aD4}:a=b↔a.name=b.name/\a.cards=b.cards/\a.year=b.year/\a.keep=b.keep/\a.lent=b.lent:=by
 constructor
 .intro c;subst c;simp
 .intro c;cases a;cases b;simp at c;simp [c]
instance:DecidableEq aD4:=fun a b=>decidable_of_iff (a.name=b.name/\a.cards=b.cards/\a.year=b.year/\a.keep=b.keep/\a.lent=b.lent) Rm.symm
instance:Inhabited aD4:=⟨⟨.empty,0,0,0,.empty⟩⟩
end Go.M
namespace Go.Proofs.YtalgenmoljcnmaaGreatDoor
open Go Go.RowKit Go.Vc Go.M
end Go.Proofs.YtalgenmoljcnmaaGreatDoor
namespace Go.M
open Go Go.Vc
end Go.M
namespace Go.Proofs.YtalgenmoljcnmaaGreatDoor
open Go Go.RowKit Go.Vc Go.M
end Go.Proofs.YtalgenmoljcnmaaGreatDoor
namespace Go.M
open Go Go.Vc
structure ZT where
 name:ByteArray
 count:Int
 least:Int
 price:Int
theorem Qm {a b:ZT}:a=b↔a.name=b.name/\a.count=b.count/\a.least=b.least/\a.price=b.price:=by
 constructor
 .intro c;subst c;simp
 .intro c;cases a;cases b;simp at c;simp [c]
instance:DecidableEq ZT:=fun a b=>decidable_of_iff (a.name=b.name/\a.count=b.count/\a.least=b.least/\a.price=b.price) Qm.symm
instance:Inhabited ZT:=⟨⟨.empty,0,0,0⟩⟩
end Go.M
namespace Go.Proofs.YtalgenmoljcnmaaGreatDoor
open Go Go.RowKit Go.Vc Go.M
end Go.Proofs.YtalgenmoljcnmaaGreatDoor
namespace Go.M
open Go Go.Vc
variable {α:Type} {p:α->Bool} {xs:List α} {k:Nat} {x:α}
def VQ {α:Type} (p:α->Bool) (xs:List α):Int:=match xs.findIdx? p with | some i=>i | none=>-1
theorem MS {α:Type} {p:α->Bool} {xs:List α} (h:xs.any p=false):VQ p xs = -1:=by
 have:xs.findIdx? p=none:=by
  rw [List.findIdx?_eq_none_iff];intro b a;rw [List.any_eq_false] at h;simpa using h b a
 simp [VQ,this]
theorem OE {α:Type} {p:α->Bool} {xs:List α} (h:xs.any p=true):0<=VQ p xs:=by
 unfold VQ;split
 .omega
 .rename_i a;rw [List.findIdx?_eq_none_iff] at a;rw [List.any_eq_true] at h;obtain ⟨d,c,b⟩:=h;rw [a d c] at b;cases b
theorem XA {α:Type} {p:α->Bool} {xs:List α} {k:Nat} {x:α} (h:(xs.take k).any p=false) (hx:xs[k]? = some x) (hp:p x=true):VQ p xs=k:=by
 have:xs.findIdx? p=some k:=by
  rw [List.findIdx?_eq_some_iff_getElem];have b:=(List.getElem?_eq_some_iff.1 hx).1;refine ⟨b,?_,fun c a=>?_⟩
  .rw [(List.getElem?_eq_some_iff.1 hx).2];exact hp
  .rw [List.any_eq_false] at h;apply h;rw [List.mem_iff_getElem?];exact ⟨c,by rw [List.getElem?_take,if_pos a,List.getElem?_eq_getElem om]⟩
 simp [VQ,this]
theorem Gq {α:Type} {p:α->Bool} {xs:List α} {k:Nat} {x:α} (hx:xs[k]? = some x):(xs.take (k+1)).any p=((xs.take k).any p || p x):=by
 rw [List.take_add_one,hx];simp
end Go.M
namespace Go.Proofs.YtalgenmoljcnmaaGreatDoor
open Go Go.RowKit Go.Vc Go.M
end Go.Proofs.YtalgenmoljcnmaaGreatDoor
