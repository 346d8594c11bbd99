/- Contracts of functions of the given program, of the reference and of the laws: each says what a call returns, for all arguments that meet the premises that the theorem itself names. -/
import Derived.Test.YtkjmbjedbmblmaaGreatDoorVcStr
namespace Go.Vc
open Go Go.RowKit
variable {P : Program}
theorem SemK.wmul {t : Nat} {X Y : Operand} {a b : Int} {k : IntKind} {w : World} {K : Value → World → Prop} (hK : K (.int k (k.wrap (a * b))) w) :
    SemK P (arith .mul t X Y (.int k a) (.int k b)) w K := by
  refine SemK.of ?_ hK
  simp [arith, eqGuard_int, binOp, Op.intArith]
theorem SemK.shr {t : Nat} {X Y : Operand} {a b : Int} {k k' : IntKind} (hb : 0 ≤ b) {w : World} {K : Value → World → Prop} (hK : K (.int k (a.fdiv (2 ^ min b.toNat k.bits))) w) :
    SemK P (arith .shr t X Y (.int k a) (.int k' b)) w K := by
  refine SemK.of ?_ hK
  have hz : ¬ b < 0 := by omega
  simp [arith, eqGuard_int, binOp, Op.shift, hz]
theorem SemK.shl {t : Nat} {X Y : Operand} {a b : Int} {k k' : IntKind} (hb : 0 ≤ b) {w : World} {K : Value → World → Prop} (hK : K (.int k (k.wrap (a * 2 ^ min b.toNat k.bits))) w) :
    SemK P (arith .shl t X Y (.int k a) (.int k' b)) w K := by
  refine SemK.of ?_ hK
  have hz : ¬ b < 0 := by omega
  simp [arith, eqGuard_int, binOp, Op.shift, hz]
def andV (k : IntKind) (a b : Int) : Int := k.wrap (BitVec.ofInt k.bits a &&& BitVec.ofInt k.bits b).toNat
def orV (k : IntKind) (a b : Int) : Int := k.wrap (BitVec.ofInt k.bits a ||| BitVec.ofInt k.bits b).toNat
def xorV (k : IntKind) (a b : Int) : Int := k.wrap (BitVec.ofInt k.bits a ^^^ BitVec.ofInt k.bits b).toNat
def andNotV (k : IntKind) (a b : Int) : Int := k.wrap (BitVec.ofInt k.bits a &&& ~~~(BitVec.ofInt k.bits b)).toNat
theorem SemK.and {t : Nat} {X Y : Operand} {a b : Int} {k : IntKind} {w : World} {K : Value → World → Prop} (hK : K (.int k (andV k a b)) w) :
    SemK P (arith .and t X Y (.int k a) (.int k b)) w K := by
  refine SemK.of ?_ hK
  simp [arith, eqGuard_int, binOp, Op.intBits, andV]
theorem SemK.or {t : Nat} {X Y : Operand} {a b : Int} {k : IntKind} {w : World} {K : Value → World → Prop} (hK : K (.int k (orV k a b)) w) :
    SemK P (arith .or t X Y (.int k a) (.int k b)) w K := by
  refine SemK.of ?_ hK
  simp [arith, eqGuard_int, binOp, Op.intBits, orV]
theorem SemK.xor {t : Nat} {X Y : Operand} {a b : Int} {k : IntKind} {w : World} {K : Value → World → Prop} (hK : K (.int k (xorV k a b)) w) :
    SemK P (arith .xor t X Y (.int k a) (.int k b)) w K := by
  refine SemK.of ?_ hK
  simp [arith, eqGuard_int, binOp, Op.intBits, xorV]
theorem SemK.andNot {t : Nat} {X Y : Operand} {a b : Int} {k : IntKind} {w : World} {K : Value → World → Prop} (hK : K (.int k (andNotV k a b)) w) :
    SemK P (arith .andNot t X Y (.int k a) (.int k b)) w K := by
  refine SemK.of ?_ hK
  simp [arith, eqGuard_int, binOp, Op.intBits, andNotV]
theorem and255 (a : Int) : 0 ≤ andV .u64 a 255 ∧ andV .u64 a 255 ≤ 255 := by
  unfold andV
  have h : (BitVec.ofInt IntKind.u64.bits a &&& BitVec.ofInt IntKind.u64.bits 255).toNat ≤ 255 := by
    rw [BitVec.toNat_and]
    have : (BitVec.ofInt IntKind.u64.bits 255).toNat = 255 := by decide
    rw [this]
    exact Nat.and_le_right
  generalize (BitVec.ofInt IntKind.u64.bits a &&& BitVec.ofInt IntKind.u64.bits 255).toNat = n at h
  have e : IntKind.u64.wrap (n : Int) = n := by
    simp [IntKind.wrap, IntKind.bits, IntKind.signed]
    omega
  rw [e]
  omega
theorem u64_wrap {n : Int} (h0 : 0 ≤ n) (h1 : n ≤ 18446744073709551615) : IntKind.u64.wrap n = n := by
  simp [IntKind.wrap, IntKind.bits, IntKind.signed]
  omega
theorem SemK.half {t : Nat} {X Y : Operand} {a : Nat} {k k' : IntKind} (hk : 1 ≤ k.bits) {w : World} {K : Value → World → Prop} (hK : K (.int k ((a / 2 : Nat) : Int)) w) :
    SemK P (arith .shr t X Y (.int k (a : Int)) (.int k' 1)) w K := by
  refine SemK.shr (by omega) ?_
  have e : ((1 : Int).toNat) = 1 := rfl
  rw [e, Nat.min_eq_left hk, Int.fdiv_eq_ediv_of_nonneg _ (by decide)]
  exact hK
theorem DSemK.rem {t : Nat} {X Y : Operand} {a b : Int} (h0 : 0 ≤ a) (hb : 0 < b) {w : World} {K : Value → Prop} (hK : K (.int .i64 (a % b))) :
    DSemK P (arith .rem t X Y (.int .i64 a) (.int .i64 b)) w K := DSemK.of (fun _ _ => SemK.rem h0 hb ⟨rfl, rfl⟩) hK
theorem DSemK.quo {t : Nat} {X Y : Operand} {a b : Int} (h0 : 0 ≤ a) (ha : a ≤ 9223372036854775807) (hb : 0 < b) {w : World} {K : Value → Prop} (hK : K (.int .i64 (a / b))) :
    DSemK P (arith .quo t X Y (.int .i64 a) (.int .i64 b)) w K := DSemK.of (fun _ _ => SemK.quo h0 ha hb ⟨rfl, rfl⟩) hK
theorem DSemK.wmul {t : Nat} {X Y : Operand} {a b : Int} {k : IntKind} {w : World} {K : Value → Prop} (hK : K (.int k (k.wrap (a * b)))) :
    DSemK P (arith .mul t X Y (.int k a) (.int k b)) w K := DSemK.of (fun _ _ => SemK.wmul ⟨rfl, rfl⟩) hK
theorem DSemK.wadd {t : Nat} {X Y : Operand} {a b : Int} {k : IntKind} {w : World} {K : Value → Prop} (hK : K (.int k (k.wrap (a + b)))) :
    DSemK P (arith .add t X Y (.int k a) (.int k b)) w K := DSemK.of (fun _ _ => SemK.wadd ⟨rfl, rfl⟩) hK
theorem DSemK.wsub {t : Nat} {X Y : Operand} {a b : Int} {k : IntKind} {w : World} {K : Value → Prop} (hK : K (.int k (k.wrap (a - b)))) :
    DSemK P (arith .sub t X Y (.int k a) (.int k b)) w K := DSemK.of (fun _ _ => SemK.wsub ⟨rfl, rfl⟩) hK
theorem DSemK.shr {t : Nat} {X Y : Operand} {a b : Int} {k k' : IntKind} (hb : 0 ≤ b) {w : World} {K : Value → Prop} (hK : K (.int k (a.fdiv (2 ^ min b.toNat k.bits)))) :
    DSemK P (arith .shr t X Y (.int k a) (.int k' b)) w K := DSemK.of (fun _ _ => SemK.shr hb ⟨rfl, rfl⟩) hK
theorem DSemK.shl {t : Nat} {X Y : Operand} {a b : Int} {k k' : IntKind} (hb : 0 ≤ b) {w : World} {K : Value → Prop} (hK : K (.int k (k.wrap (a * 2 ^ min b.toNat k.bits)))) :
    DSemK P (arith .shl t X Y (.int k a) (.int k' b)) w K := DSemK.of (fun _ _ => SemK.shl hb ⟨rfl, rfl⟩) hK
theorem DSemK.and {t : Nat} {X Y : Operand} {a b : Int} {k : IntKind} {w : World} {K : Value → Prop} (hK : K (.int k (andV k a b))) :
    DSemK P (arith .and t X Y (.int k a) (.int k b)) w K := DSemK.of (fun _ _ => SemK.and ⟨rfl, rfl⟩) hK
theorem DSemK.or {t : Nat} {X Y : Operand} {a b : Int} {k : IntKind} {w : World} {K : Value → Prop} (hK : K (.int k (orV k a b))) :
    DSemK P (arith .or t X Y (.int k a) (.int k b)) w K := DSemK.of (fun _ _ => SemK.or ⟨rfl, rfl⟩) hK
theorem DSemK.xor {t : Nat} {X Y : Operand} {a b : Int} {k : IntKind} {w : World} {K : Value → Prop} (hK : K (.int k (xorV k a b))) :
    DSemK P (arith .xor t X Y (.int k a) (.int k b)) w K := DSemK.of (fun _ _ => SemK.xor ⟨rfl, rfl⟩) hK
theorem DSemK.andNot {t : Nat} {X Y : Operand} {a b : Int} {k : IntKind} {w : World} {K : Value → Prop} (hK : K (.int k (andNotV k a b))) :
    DSemK P (arith .andNot t X Y (.int k a) (.int k b)) w K := DSemK.of (fun _ _ => SemK.andNot ⟨rfl, rfl⟩) hK
end Go.Vc
