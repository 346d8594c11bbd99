/- Contracts of functions of the given program, of the reference and of the laws: each says what a call returns, for all arguments that meet the premises that the theorem itself names. -/
import Derived.Test.YtfgbijddjoojbaaGreatFPart
namespace Go.M
open Go Go.Vc
def partB (x : TPart) : Bool := nameB x.name && inB x.count 0 1000000 && inB x.least 0 1000000 && inB x.price 0 1000000
/-- the index of the first element of which p is true; -1 if there is none -/
def idxI {α : Type} (p : α → Bool) (xs : List α) : Int := match xs.findIdx? p with | some i => i | none => -1
theorem idxI_neg {α : Type} {p : α → Bool} {xs : List α} (h : xs.any p = false) : idxI p xs = -1 := by
  have : xs.findIdx? p = none := by
    rw [List.findIdx?_eq_none_iff]
    intro x hx
    rw [List.any_eq_false] at h
    simpa using h x hx
  simp [idxI, this]
theorem idxI_nonneg {α : Type} {p : α → Bool} {xs : List α} (h : xs.any p = true) : 0 ≤ idxI p xs := by
  unfold idxI
  split
  · omega
  · rename_i hn
    rw [List.findIdx?_eq_none_iff] at hn
    rw [List.any_eq_true] at h
    obtain ⟨x, hx, hp⟩ := h
    rw [hn x hx] at hp; cases hp
theorem idxI_at {α : Type} {p : α → Bool} {xs : List α} {k : Nat} {x : α} (h : (xs.take k).any p = false) (hx : xs[k]? = some x) (hp : p x = true) : idxI p xs = k := by
  have : xs.findIdx? p = some k := by
    rw [List.findIdx?_eq_some_iff_getElem]
    have hlt := (List.getElem?_eq_some_iff.1 hx).1
    refine ⟨hlt, ?_, fun j hj => ?_⟩
    · rw [(List.getElem?_eq_some_iff.1 hx).2]; exact hp
    · rw [List.any_eq_false] at h
      apply h
      rw [List.mem_iff_getElem?]
      exact ⟨j, by rw [List.getElem?_take, if_pos hj, List.getElem?_eq_getElem (by omega)]⟩
  simp [idxI, this]
theorem idxI_le {α : Type} {p : α → Bool} {xs : List α} : idxI p xs ≤ xs.length ∧ -1 ≤ idxI p xs := by
  unfold idxI
  split
  · rename_i i hi
    rw [List.findIdx?_eq_some_iff_getElem] at hi
    obtain ⟨h, _⟩ := hi
    omega
  · omega
theorem any_take_succ {α : Type} {p : α → Bool} {xs : List α} {k : Nat} {x : α} (hx : xs[k]? = some x) : (xs.take (k + 1)).any p = ((xs.take k).any p || p x) := by
  rw [List.take_add_one, hx]; simp
def partOkAt (xs : List TPart) (i : Nat) : Bool :=
  match xs[i]? with
  | none => false
  | some x => partB x && !(xs.take i).any (fun y => decide (y.name = x.name))
def partsB (xs : List TPart) : Bool := (List.range xs.length).all (partOkAt xs) && decide (xs.length ≤ 40)
theorem range_all_succ' {p : Nat → Bool} {k : Nat} : (List.range (k + 1)).all p = ((List.range k).all p && p k) := by
  rw [List.range_succ, List.all_append]; simp
theorem partsB_false {xs : List TPart} {k : Nat} (h : k < xs.length) (hp : partOkAt xs k = false) : partsB xs = false := by
  have : (List.range xs.length).all (partOkAt xs) = false := by
    rw [List.all_eq_false]
    exact ⟨k, List.mem_range.2 h, by simp [hp]⟩
  rw [partsB, this]; rfl
theorem partOkAt_of {xs : List TPart} {i : Nat} {x : TPart} (hx : xs[i]? = some x) : partOkAt xs i = (partB x && !(xs.take i).any (fun y => decide (y.name = x.name))) := by simp [partOkAt, hx]
end Go.M
namespace Go.Proofs.YtfgbijddjoojbaaGreat
open Go Go.RowKit Go.Vc Go.M
end Go.Proofs.YtfgbijddjoojbaaGreat
