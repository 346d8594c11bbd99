/- Parts of the proof; no conditions of its own. -/
import Derived.Test.YtalgenmoljcnmaaGreatDoorVcCore
namespace Go.M
open Go Go.Vc
variable {α:Type} {l:List UInt8} {k:Nat} {c:UInt8}
def I6 (n:Nat):Bool:=decide (97<=n) && decide (n<=122)
def DK (n:Nat):Bool:=decide (48<=n) && decide (n<=57)
def Ey (c:UInt8):Bool:=I6 c.toNat || DK c.toNat || decide (c.toNat=45)
def JU (l:List UInt8):Bool:=decide (1<=l.length) && decide (l.length<=12) && I6 (l.headD 0).toNat && l.all Ey
def GS (s:ByteArray):Bool:=JU s.data.toList
def Dc (n lo hi:Int):Bool:=decide (lo<=n) && decide (n<=hi)
theorem Bs {n lo hi:Int} (h:Dc n lo hi=true):lo<=n/\n<=hi:=by simpa [Dc] using h
theorem Km {p:UInt8->Bool} (hk:l[k]? = some c):(l.take (k+1)).all p=((l.take k).all p && p c):=by
 rw [List.take_add_one,hk];simp
theorem Mj {l:List α} {p:α->Bool} {c:α} (hk:l[k]? = some c) (hp:p c=false):l.all p=false:=by
 rw [List.all_eq_false];exact ⟨c,List.mem_of_getElem? hk,by simp [hp]⟩
theorem MT (h:l[0]? = some c):l.headD 0=c:=by
 rw [List.headD_eq_head?_getD,List.head?_eq_getElem?,h];rfl
theorem AA {l:List α} (h:k<l.length):∃ x,l[k]? = some x:=⟨_,List.getElem?_eq_getElem h⟩
def OO:Nat->Nat->List UInt8->List UInt8
 | 0,_,out=>out
 | f+1,k,out=>if k=0 then out else OO f (k / 10) (UInt8.ofNat (48+k % 10) :: out)
theorem QW:∀ (f g k:Nat) (out:List UInt8),k<=f->k<=g->OO f k out=OO g k out
 | 0,0,_,_,_,_=>rfl
 | 0, g + 1, k, out, h, _ => by have : k = 0 := by omega
                                subst this;simp [OO]
 | f + 1, 0, k, out, _, h => by have : k = 0 := by omega
                                subst this;simp [OO]
 | f+1,g+1,k,out,h1,h2=>by
  simp only [OO];split
  .rfl
  .exact QW f g (k / 10) _ om om
def QX (k:Nat) (out:List UInt8):List UInt8:=OO k k out
theorem SY (h:0<k) (out:List UInt8):QX k out=QX (k / 10) (UInt8.ofNat (48+k % 10) :: out):=by
 unfold QX;obtain ⟨a,rfl⟩:∃ a,k=a+1:=⟨k - 1,om⟩;rw [OO,if_neg om];exact QW _ _ _ _ om (Nat.le_refl _)
theorem YW (m:Nat):(UInt8.ofNat (48+m % 10)).toNat=48+m % 10:=by
 simp;omega
def eS (s:ByteArray):List Value:=[.string s]
def eI (n:Int):List Value:=[.int .i64 n]
theorem AQ (s:ByteArray):(eS s).length=1:=rfl
theorem AI (n:Int):(eI n).length=1:=rfl
def Uy (p:Int×Int):Value := .tuple #[.int .i64 p.1,.int .i64 p.2]
end Go.M
