/- Contracts of functions of the given program, of the reference and of the laws: each says what a call returns, for all arguments that meet the premises that the theorem itself names. -/
import Derived.Test.YtfgbijddjoojbaaGreatCardsM
namespace Go.M
open Go Go.Vc
/-! limits and classes -/
def limAt (l : List Int) (i : Nat) : Bool :=
  match l[i]? with
  | none => false
  | some n => inB n (-999999999999) 999999999999 && (match i with | 0 => true | j + 1 => match l[j]? with | none => false | some m => decide (m < n))
def limitsB (l : List Int) : Bool := (List.range l.length).all (limAt l) && inB l.length 1 9
def classM (l : List Int) (n : Int) : Nat := l.countP fun m => decide (m ≤ n)
theorem limitsB_b {l : List Int} (h : limitsB l = true) : 1 ≤ l.length ∧ l.length ≤ 9 ∧ l.Pairwise (· < ·) := by
  simp only [limitsB, Bool.and_eq_true, List.all_eq_true, List.mem_range] at h
  have hb := inB_true h.2
  refine ⟨by omega, by omega, ?_⟩
  have key : ∀ d i x y, l[i]? = some x → l[i + d + 1]? = some y → x < y := by
    intro d
    induction d with
    | zero =>
      intro i x y hx hy
      have := h.1 (i + 1) (List.getElem?_eq_some_iff.1 hy).1
      simp only [limAt, hy, Nat.add_zero, hx, Bool.and_eq_true, decide_eq_true_eq] at this
      exact this.2
    | succ d ih =>
      intro i x y hx hy
      obtain ⟨z, hz⟩ := get_of_lt (l := l) (k := i + d + 1) (by have := (List.getElem?_eq_some_iff.1 hy).1; omega)
      have h3 := h.1 (i + d + 1 + 1) (List.getElem?_eq_some_iff.1 hy).1
      have hy' : l[i + d + 1 + 1]? = some y := hy
      simp only [limAt, hy', hz, Bool.and_eq_true, decide_eq_true_eq] at h3
      have := ih i x z hx hz
      omega
  rw [List.pairwise_iff_getElem]
  intro i j hi hj hij
  obtain ⟨d, rfl⟩ : ∃ d, j = i + d + 1 := ⟨j - i - 1, by omega⟩
  exact key d i _ _ (List.getElem?_eq_getElem hi) (List.getElem?_eq_getElem hj)
theorem limits_false {l : List Int} {k : Nat} (h : k < l.length) (hp : limAt l k = false) : limitsB l = false := by
  have : (List.range l.length).all (limAt l) = false := by
    rw [List.all_eq_false]
    exact ⟨k, List.mem_range.2 h, by simp [hp]⟩
  rw [limitsB, this]; rfl
theorem classM_le (l : List Int) (n : Int) : classM l n ≤ l.length := List.countP_le_length
theorem classM_take {l : List Int} {k : Nat} {x : Int} (hx : l[k]? = some x) (n : Int) : classM (l.take (k + 1)) n = if x ≤ n then classM (l.take k) n + 1 else classM (l.take k) n := by
  unfold classM
  rw [List.take_add_one, hx, Option.toList_some, List.countP_append]
  split <;> simp [*]
/-- among rising limits the class is the place of the first greater one -/
theorem classM_first {l : List Int} (h : l.Pairwise (· < ·)) {n : Int} {k : Nat} (hk : k ≤ l.length) (h1 : ∀ i x, i < k → l[i]? = some x → x ≤ n) (h2 : ∀ x, l[k]? = some x → n < x) : classM l n = k := by
  have e1 : classM (l.take k) n = k := by
    unfold classM
    rw [List.countP_eq_length.2]
    · simp; omega
    · intro x hx
      obtain ⟨i, hi⟩ := List.mem_iff_getElem?.1 hx
      have hik : i < k := by have := (List.getElem?_eq_some_iff.1 hi).1; simp at this; omega
      rw [List.getElem?_take] at hi
      simp [h1 i x hik (by simpa [hik] using hi)]
  have e2 : classM (l.drop k) n = 0 := by
    unfold classM
    rw [List.countP_eq_zero]
    intro x hx
    obtain ⟨i, hi⟩ := List.mem_iff_getElem?.1 hx
    rw [List.getElem?_drop] at hi
    have hki : k < l.length := by have := (List.getElem?_eq_some_iff.1 hi).1; omega
    obtain ⟨y, hy⟩ := get_of_lt hki
    have hy2 := h2 y hy
    cases i with
    | zero =>
      simp only [Nat.add_zero] at hi
      rw [hy] at hi
      cases hi
      simp
      omega
    | succ i =>
      rw [List.pairwise_iff_getElem] at h
      have hi' := List.getElem?_eq_some_iff.1 hi
      have := h k (k + (i + 1)) hki hi'.1 (by omega)
      rw [(List.getElem?_eq_some_iff.1 hy).2, hi'.2] at this
      simp
      omega
  have : classM l n = classM (l.take k) n + classM (l.drop k) n := by
    unfold classM
    rw [← List.countP_append, List.take_append_drop]
  omega
/-! the numbers of a deck -/
def numsM (d : List (List Int)) (f : TField) : List Int := d.filterMap fun c => numOf (partOf c f)
def numbersM (d : List (List Int)) (f : TField) : List Int × Int :=
  if deckB d = false then ([], 1) else if numFieldB f (widthOf d) = false then ([], 2) else if d.any (fun c => (numOf (partOf c f)).isNone) = true then ([], 8) else (numsM d f, 0)
theorem numsM_take {d : List (List Int)} {f : TField} {k : Nat} {c : List Int} {n : Int} (hc : d[k]? = some c) (hn : numOf (partOf c f) = some n) : numsM (d.take (k + 1)) f = numsM (d.take k) f ++ [n] := by
  unfold numsM
  rw [List.take_add_one, hc, Option.toList_some, List.filterMap_append]
  simp [hn]
def numbersIf (ok : Bool) (d : List (List Int)) (f : TField) : List Int × Int := if ok = false then ([], 1) else numbersM d f
theorem numbersIf_deck {d : List (List Int)} {f : TField} (h : deckB d = false) : numbersIf true d f = ([], 1) := by simp [numbersIf, numbersM, h]
theorem numbersIf_field {d : List (List Int)} {f : TField} (h : deckB d = true) (hf : numFieldB f (widthOf d) = false) : numbersIf true d f = ([], 2) := by simp [numbersIf, numbersM, h, hf]
theorem numbersIf_bad {d : List (List Int)} {f : TField} (h : deckB d = true) (hf : numFieldB f (widthOf d) = true) {k : Nat} {c : List Int} (hc : d[k]? = some c) (hn : numInM (partOf c f) = (0, false)) : numbersIf true d f = ([], 8) := by
  have hno : numOf (partOf c f) = none := by
    unfold numInM at hn
    split at hn
    · assumption
    · cases hn
  have : d.any (fun c => (numOf (partOf c f)).isNone) = true := by
    rw [List.any_eq_true]
    exact ⟨c, List.mem_of_getElem? hc, by rw [hno]; rfl⟩
  simp only [numbersIf, numbersM, h, hf, this]
  rfl
theorem numIn_cases (l : List Int) : numInM l = (0, false) ∨ ∃ n, numInM l = (n, true) ∧ numOf l = some n := by
  unfold numInM
  split
  · exact .inl rfl
  · rename_i n h
    exact .inr ⟨n, rfl, h⟩
theorem numbersIf_good {d : List (List Int)} {f : TField} (h : deckB d = true) (hf : numFieldB f (widthOf d) = true) (hall : ∀ i c, i < d.length → d[i]? = some c → (numOf (partOf c f)).isSome = true) : numbersIf true d f = (numsM d f, 0) := by
  have : d.any (fun c => (numOf (partOf c f)).isNone) = false := by
    rw [List.any_eq_false]
    intro c hc
    obtain ⟨i, hi⟩ := List.mem_iff_getElem?.1 hc
    have := hall i c (List.getElem?_eq_some_iff.1 hi).1 hi
    cases hq : numOf (partOf c f)
    · rw [hq] at this; cases this
    · simp
  simp only [numbersIf, numbersM, h, hf, this]
  rfl
/-- how many numbers of each class -/
def tally (l : List Int) (ns : List Int) : List Int := (List.range (l.length + 1)).map fun k => ((ns.countP fun n => decide (classM l n = k) : Nat) : Int)
theorem tally_len (l ns : List Int) : (tally l ns).length = l.length + 1 := by simp [tally]
theorem tally_get (l ns : List Int) {k : Nat} (h : k < l.length + 1) : (tally l ns)[k]? = some ((ns.countP fun n => decide (classM l n = k) : Nat) : Int) := by simp [tally, h]
theorem tally_nil (l : List Int) : tally l [] = List.replicate (l.length + 1) 0 := by
  apply List.ext_getElem?
  intro i
  by_cases h : i < l.length + 1
  · rw [tally_get l [] h]; simp [List.getElem?_replicate, h]
  · rw [List.getElem?_eq_none (by simp [tally]; omega), List.getElem?_eq_none (by simp; omega)]
theorem tally_snoc (l ns : List Int) (n : Int) : tally l (ns ++ [n]) = (tally l ns).set (classM l n) (((ns.countP fun m => decide (classM l m = classM l n) : Nat) : Int) + 1) := by
  apply List.ext_getElem?
  intro i
  rw [List.getElem?_set]
  by_cases h : i < l.length + 1
  · rw [tally_get l _ h]
    by_cases e : classM l n = i
    · subst e
      rw [if_pos rfl, if_pos (by rw [tally_len]; exact h)]
      simp [List.countP_append]
    · rw [if_neg e, tally_get l _ h]
      simp [List.countP_append, e]
  · have hne : ¬ classM l n = i := by have := classM_le l n; omega
    rw [if_neg hne, List.getElem?_eq_none (by rw [tally_len]; omega), List.getElem?_eq_none (by rw [tally_len]; omega)]
def countClassesM (d : List (List Int)) (f : TField) (l : List Int) : List Int × Int :=
  if limitsB l = false then ([], 1) else if (numbersM d f).2 = 0 then (tally l (numbersM d f).1, 0) else ([], (numbersM d f).2)
theorem countClasses_limits {d : List (List Int)} {f : TField} {l : List Int} (h : limitsB l = false) : countClassesM d f l = ([], 1) := by simp [countClassesM, h]
theorem countClasses_good {d : List (List Int)} {f : TField} {l L : List Int} (h : limitsB l = true) (hr : numbersIf true d f = (L, 0)) : countClassesM d f l = (tally l L, 0) := by
  have hr2 : numbersM d f = (L, 0) := hr
  simp [countClassesM, h, hr2]
theorem countClasses_bad {d : List (List Int)} {f : TField} {l L : List Int} {cd : Int} (h : limitsB l = true) (hr : numbersIf true d f = (L, cd)) (hc : ¬ cd = 0) : countClassesM d f l = ([], cd) := by
  have hr2 : numbersM d f = (L, cd) := hr
  simp [countClassesM, h, hr2, hc]
theorem numbersIf_len (d : List (List Int)) (f : TField) : (numbersIf true d f).1.length ≤ d.length := by
  unfold numbersIf numbersM
  simp only [Bool.true_eq_false, if_false]
  split
  · simp
  · split
    · simp
    · split
      · simp
      · exact List.length_filterMap_le _ _
end Go.M
