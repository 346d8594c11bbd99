/- Contracts of functions of the given program, of the reference and of the laws: each says what a call returns, for all arguments that meet the premises that the theorem itself names. -/
import Derived.Test.YtmhnmdcleeadiaaBoxes
import Derived.Test.YtmhnmdcleeadiaaLibSl
import Derived.Test.YtmhnmdcleeadiaaVcApp
namespace Go.M
open Go Go.Vc
def keptB (y : Int) (x : TBox) : Bool := decide (y < x.year + x.keep) || !decide (x.lent = { data := #[] })
def yearOk (y : Int) : Bool := inB y 1800 4000
def keptCode (xs : List TBox) (y : Int) : Int := if boxesB xs = false then 1 else if yearOk y = false then 2 else 0
theorem boxesB_mem {xs : List TBox} (h : boxesB xs = true) : xs.length ≤ 40 ∧ ∀ x ∈ xs, boxB x = true := by
  simp only [boxesB, Bool.and_eq_true, decide_eq_true_eq, List.all_eq_true, List.mem_range] at h
  refine ⟨h.2, fun x hx => ?_⟩
  obtain ⟨i, hi⟩ := List.mem_iff_getElem?.1 hx
  have := h.1 i (List.getElem?_eq_some_iff.1 hi).1
  unfold boxAt at this
  rw [hi] at this
  simp only [Bool.and_eq_true] at this
  exact this.1
theorem boxB_b {x : TBox} (h : boxB x = true) : (0 ≤ x.cards ∧ x.cards ≤ 100000) ∧ (1800 ≤ x.year ∧ x.year ≤ 3000) ∧ (1 ≤ x.keep ∧ x.keep ≤ 100) := by
  simp only [boxB, inB, Bool.and_eq_true, decide_eq_true_eq] at h
  omega
theorem keptCode_zero {xs : List TBox} {y : Int} (h : keptCode xs y = 0) : boxesB xs = true ∧ yearOk y = true := by
  unfold keptCode at h
  cases h1 : boxesB xs <;> cases h2 : yearOk y <;> simp [h1, h2] at h
  simp
def pulpM (xs : List TBox) (y : Int) : List TBox × List TBox := if keptCode xs y = 0 then (xs.filter (keptB y), xs.filter fun x => !keptB y x) else ([], [])
theorem pulpM_len (xs : List TBox) (y : Int) : (pulpM xs y).1.length ≤ xs.length ∧ (pulpM xs y).2.length ≤ xs.length := by
  unfold pulpM
  split
  · exact ⟨List.length_filter_le _ _, List.length_filter_le _ _⟩
  · simp
def cardsL (xs : List TBox) : List Int := xs.map (·.cards)
theorem cardsL_take (xs : List TBox) (k : Nat) : cardsL (xs.take k) = (cardsL xs).take k := by simp [cardsL]
theorem cards_sum_b {xs : List TBox} (h : ∀ x ∈ xs, boxB x = true) (hl : xs.length ≤ 40) : 0 ≤ (cardsL xs).sum ∧ (cardsL xs).sum ≤ 4000000 := by
  have h1 := sum_bounds (l := cardsL xs) (M := 100000) (fun v hv => by
    obtain ⟨x, hx, rfl⟩ := List.mem_map.1 hv
    exact (boxB_b (h x hx)).1)
  have h3 : (cardsL xs).length ≤ 40 := by simp [cardsL, hl]
  omega
def cardsKeptM (xs : List TBox) (y : Int) : Int × Int := if keptCode xs y = 0 then ((cardsL (xs.filter (keptB y))).sum, 0) else (0, keptCode xs y)
def tooBig (r : Int) (x : TBox) : Bool := decide (r < x.cards)
def roomCode (xs : List TBox) (r : Int) : Int := if boxesB xs = false then 1 else if inB r 1 1000000 = false then 2 else if xs.any (tooBig r) = true then 5 else 0
def largeN (r : Int) (xs : List TBox) : Nat := xs.countP fun x => decide (r < 2 * x.cards)
def shelvesM (xs : List TBox) (r : Int) : Int × Int := if roomCode xs r = 0 then (max (largeN r xs : Int) (((cardsL xs).sum + r - 1) / r), 0) else (0, roomCode xs r)
theorem cards_kept_b {xs : List TBox} (h : ∀ x ∈ xs, boxB x = true) (hl : xs.length ≤ 40) (y : Int) (k : Nat) : 0 ≤ (cardsL ((xs.take k).filter (keptB y))).sum ∧ (cardsL ((xs.take k).filter (keptB y))).sum ≤ 4000000 :=
  cards_sum_b (fun x hx => h x (List.mem_of_mem_take (List.mem_filter.1 hx).1)) (Nat.le_trans (List.length_filter_le _ _) (by simp; omega))
theorem roomCode_zero {xs : List TBox} {r : Int} (h : roomCode xs r = 0) : boxesB xs = true ∧ 1 ≤ r ∧ r ≤ 1000000 := by
  unfold roomCode at h
  cases h1 : boxesB xs
  · simp [h1] at h
  cases h2 : inB r 1 1000000
  · simp [h1, h2] at h
  simp only [inB, Bool.and_eq_true, decide_eq_true_eq] at h2
  exact ⟨rfl, h2⟩
theorem largeN_le (r : Int) (xs : List TBox) : largeN r xs ≤ xs.length := List.countP_le_length
end Go.M
namespace Go.Proofs.Ytmhnmdcleeadiaa
open Go Go.RowKit Go.Vc Go.M
end Go.Proofs.Ytmhnmdcleeadiaa
