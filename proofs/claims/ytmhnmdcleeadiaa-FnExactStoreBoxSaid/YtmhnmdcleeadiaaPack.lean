/- Contracts of functions of the given program, of the reference and of the laws: each says what a call returns, for all arguments that meet the premises that the theorem itself names. -/
import Derived.Test.YtmhnmdcleeadiaaPackM
import Derived.Test.YtmhnmdcleeadiaaSortS
import Derived.Test.YtmhnmdcleeadiaaKept
import Derived.Test.YtmhnmdcleeadiaaLibSl
namespace Go.M
open Go Go.Vc
noncomputable def packM (xs : List TBox) (r : Int) : List Int × Int := if roomCode xs r = 0 then ((packSt xs r xs.length).1, 0) else ([], roomCode xs r)
def cmpI (x y : Int) : Int := if x < y then -1 else if y < x then 1 else 0
def eBo (b : Bool) : List Value := [.bool b]
theorem eBo_len (b : Bool) : (eBo b).length = 1 := rfl
def packCmp (xs : List TBox) (i j : Int) : Int := cmpI (cardsAt xs j) (cardsAt xs i)
theorem packCmp_lt (xs : List TBox) (i j : Int) : packCmp xs i j < 0 ↔ packR xs i j := by
  unfold packCmp cmpI packR
  split
  · simp [*]
  · split
    · constructor <;> intro h <;> omega
    · constructor <;> intro h <;> omega
theorem packCmp_ok (xs : List TBox) (i j : Int) : i64ok (packCmp xs i j) := by
  unfold packCmp cmpI i64ok
  split
  · omega
  · split <;> omega
theorem cardsAt_get {xs : List TBox} {k : Nat} {x : TBox} (h : xs[k]? = some x) : cardsAt xs (k : Int) = x.cards := by
  unfold cardsAt
  rw [show ((k : Nat) : Int).toNat = k by omega, List.getD_eq_getElem?_getD, h]
  rfl
theorem fit_idx (c : Int) (l : List Int) : (idxI (fun y => decide (c ≤ y)) l < 0 ∧ fitAt c l = l.length) ∨ (idxI (fun y => decide (c ≤ y)) l = (fitAt c l : Nat) ∧ fitAt c l < l.length) := by
  induction l with
  | nil => exact .inl ⟨by simp [idxI], rfl⟩
  | cons x l ih =>
    by_cases h : c ≤ x
    · exact .inr ⟨by simp [idxI, fitAt, List.findIdx?_cons, h], by simp [fitAt, h]⟩
    · unfold idxI at *
      rw [List.findIdx?_cons]
      have hf : fitAt c (x :: l) = fitAt c l + 1 := by simp [fitAt, h]
      rw [hf]
      have hd : decide (c ≤ x) = false := decide_eq_false h
      cases hh : l.findIdx? (fun y => decide (c ≤ y)) with
      | none =>
        rw [hh] at ih
        rcases ih with ⟨_, h2⟩ | ⟨h1, _⟩
        · exact .inl ⟨by simp [hd], by simp [h2]⟩
        · exfalso; simp at h1 <;> omega
      | some i =>
        rw [hh] at ih
        rcases ih with ⟨h1, _⟩ | ⟨h1, h2⟩
        · exfalso; simp at h1 <;> omega
        · simp at h1
          exact .inr ⟨by simp [hd, h1], by simp; omega⟩
theorem packSt_at {xs : List TBox} {r : Int} {m k : Nat} {x : TBox} {z : Int} (hm : (packOrder xs)[m]? = some (k : Int)) (hx : xs[k]? = some x) (hz : (shelfs r x.cards (packSt xs r m).2)[fitAt x.cards (packSt xs r m).2]? = some z) :
    packSt xs r (m + 1) = ((packSt xs r m).1.set k (fitAt x.cards (packSt xs r m).2 : Nat), (shelfs r x.cards (packSt xs r m).2).set (fitAt x.cards (packSt xs r m).2) (z - x.cards)) := by
  rw [packSt_succ hm]
  unfold packStep
  rw [cardsAt_get hx, show ((k : Nat) : Int).toNat = k by omega, List.getD_eq_getElem?_getD, hz]
  rfl
theorem shelfs_in {r c : Int} {l : List Int} (h : fitAt c l < l.length) : shelfs r c l = l := by
  unfold shelfs
  rw [if_neg (by omega)]
theorem shelfs_new {r c : Int} {l : List Int} (h : fitAt c l = l.length) : shelfs r c l = l ++ [r] := by
  unfold shelfs
  rw [if_pos h]
theorem room_all {xs : List TBox} {r : Int} (h : roomCode xs r = 0) : xs.length ≤ 40 ∧ ∀ x ∈ xs, 0 ≤ x.cards ∧ x.cards ≤ r := by
  unfold roomCode at h
  cases h1 : boxesB xs
  · simp [h1] at h
  cases h2 : inB r 1 1000000
  · simp [h1, h2] at h
  cases h3 : xs.any (tooBig r)
  · refine ⟨(boxesB_mem h1).1, fun x hx => ?_⟩
    have hb := boxB_b ((boxesB_mem h1).2 x hx)
    have := List.any_eq_false.1 h3 x hx
    simp [tooBig] at this
    omega
  · simp [h1, h2, h3] at h
theorem packM_len (xs : List TBox) (r : Int) : (packM xs r).1.length ≤ 40 := by
  unfold packM
  split
  next h => rw [(packSt_len xs r _).1]; exact (room_all h).1
  next h => simp
end Go.M
namespace Go.Proofs.Ytmhnmdcleeadiaa
open Go Go.RowKit Go.Vc Go.M
end Go.Proofs.Ytmhnmdcleeadiaa
