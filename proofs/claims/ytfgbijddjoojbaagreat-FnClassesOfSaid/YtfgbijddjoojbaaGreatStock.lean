/- Contracts of functions of the given program, of the reference and of the laws: each says what a call returns, for all arguments that meet the premises that the theorem itself names. -/
import Derived.Test.YtfgbijddjoojbaaGreatParts
import Derived.Test.YtfgbijddjoojbaaGreatBasics
import Derived.Test.YtfgbijddjoojbaaGreatVcApp
import Derived.Test.YtfgbijddjoojbaaGreatVcApp
namespace Go.M
open Go Go.Vc
theorem partsB_mem {xs : List TPart} (h : partsB xs = true) : xs.length ≤ 40 ∧ ∀ x ∈ xs, partB x = true := by
  simp only [partsB, Bool.and_eq_true, decide_eq_true_eq, List.all_eq_true, List.mem_range] at h
  refine ⟨h.2, fun x hx => ?_⟩
  obtain ⟨i, hi⟩ := List.mem_iff_getElem?.1 hx
  have := h.1 i (List.getElem?_eq_some_iff.1 hi).1
  rw [partOkAt_of hi, Bool.and_eq_true] at this
  exact this.1
theorem partB_b {x : TPart} (h : partB x = true) : (0 ≤ x.count ∧ x.count ≤ 1000000) ∧ (0 ≤ x.least ∧ x.least ≤ 1000000) ∧ (0 ≤ x.price ∧ x.price ≤ 1000000) := by
  simp only [partB, inB, Bool.and_eq_true, decide_eq_true_eq] at h
  omega
def worth (x : TPart) : Int := x.count * x.price
theorem worth_b {x : TPart} (h : partB x = true) : 0 ≤ worth x ∧ worth x ≤ 1000000000000 := by
  obtain ⟨⟨h1, h2⟩, _, h3, h4⟩ := partB_b h
  unfold worth
  refine ⟨Int.mul_nonneg h1 h3, ?_⟩
  have := Int.mul_le_mul h2 h4 h3 (by omega)
  omega
theorem vals_b {xs : List TPart} (h : partsB xs = true) : ∀ v ∈ xs.map worth, 0 ≤ v ∧ v ≤ 1000000000000 := by
  intro v hv
  obtain ⟨x, hx, rfl⟩ := List.mem_map.1 hv
  exact worth_b ((partsB_mem h).2 x hx)
theorem vals_sum_b {xs : List TPart} (h : partsB xs = true) (k : Nat) : 0 ≤ ((xs.map worth).take k).sum ∧ ((xs.map worth).take k).sum ≤ 40000000000000 := by
  have h1 := sum_bounds (l := (xs.map worth).take k) (M := 1000000000000) (fun v hv => vals_b h v (List.mem_of_mem_take hv))
  have h2 := (partsB_mem h).1
  have h3 : ((xs.map worth).take k).length ≤ 40 := by simp; omega
  omega
def daysLeftM (xs : List TPart) (k d : Int) : Int × Int :=
  if partsB xs = false then (0, 1) else if inB k 0 ((xs.length : Int) - 1) = false then (0, 2) else if inB d 1 1000000 = false then (0, 2) else ((xs[k.toNat]?.getD default).count / d, 0)
def stockValueM (xs : List TPart) : Int × Int := if partsB xs = false then (0, 1) else ((xs.map worth).sum, 0)
def orderOf (x : TPart) : Int := if x.count < x.least then 2 * x.least - x.count else 0
def toOrderM (xs : List TPart) : List Int × Int := if partsB xs = false then ([], 1) else (xs.map orderOf, 0)
theorem toOrderM_len (xs : List TPart) : (toOrderM xs).1.length ≤ xs.length := by
  unfold toOrderM; split <;> simp
end Go.M
namespace Go.Proofs.YtfgbijddjoojbaaGreat
open Go Go.RowKit Go.Vc Go.M
theorem impl_sumOf {w : World} {a : Option Addr} {n c : Nat} {xs : List Int} (h : Arr eI 1 w a n xs) (hb : ∀ k, -9223372036854775808 ≤ (xs.take k).sum ∧ (xs.take k).sum ≤ 9223372036854775807) :
    Does Tryz.prog 40 [.slice a n c] w (fun v w' => v = .int .i64 xs.sum ∧ w = w') := by
  have hn := h.len
  have hm := h.le
  refine Does.of_vc tabok Tryz.func40 rfl rfl rfl (by kernel_rfl) ?_; conv => whnf
  refine LoopK.rule [3, 6, 7, 8] (fun (k : Nat) vs w' => vs = [.int .i64 (xs.take k).sum, .slice a n c, .int .i64 n, .int .i64 k] ∧ k ≤ n ∧ w = w') (fun k => n - k) tab tabok (by kernel_rfl) 0 ⟨rfl, by omega, rfl⟩ ?_
  rintro k g _ w' ⟨rfl, hk, rfl⟩
  conv => whnf
  with_reducible refine IfB.dec (fun h4 => ?_) (fun h4 => ?_)
  · obtain ⟨x, hx⟩ : ∃ x, xs[k]? = some x := get_of_lt (by omega)
    have hs := hb (k + 1)
    conv => whnf
    refine SemK.index (by kernel_rfl) h k rfl hx ?_
    intro b o _ hb
    conv => whnf
    refine SemK.load0 (by kernel_rfl) hb rfl ?_
    conv => whnf
    refine SemK.add ((xs.take (k + 1)).sum) (sum_take_succ hx).symm (by omega) (by omega) ?_
    conv => whnf
    refine SemK.add (((k + 1 : Nat) : Int)) (by omega) (by omega) (by omega) ?_
    conv => whnf
    exact ⟨k + 1, by omega, rfl, by omega, rfl⟩
  · conv => whnf
    refine ⟨?_, rfl⟩
    rw [List.take_of_length_le (by omega)]
end Go.Proofs.YtfgbijddjoojbaaGreat
