/- Contracts of functions of the given program, of the reference and of the laws: each says what a call returns, for all arguments that meet the premises that the theorem itself names. -/
import Derived.Test.YtjlhbaemfiaeiaaStock3
namespace Go.M
open Go Go.Vc
theorem nameB_size {s : ByteArray} (h : nameB s = true) : s.size ≤ 12 := by
  simp only [nameB, nameL, Bool.and_eq_true, decide_eq_true_eq] at h
  have := h.1.1.2
  exact this
theorem partB_ok {x : TPart} (h : partB x = true) : x.ok := by
  have hb := partB_b h
  simp only [partB, Bool.and_eq_true] at h
  have hn := nameB_size h.1.1.1
  refine ⟨by unfold strok; omega, ?_, ?_, ?_⟩ <;> unfold i64ok <;> omega
/-- the first j parts have the counts of the list -/
def cntTo (xs : List TPart) (ys : List Int) (j : Nat) (L : List TPart) : Prop :=
  L.length = xs.length ∧ ∀ i x y, xs[i]? = some x → ys[i]? = some y → L[i]? = some (if i < j then { x with count := y } else x)
theorem cntTo.zero (xs : List TPart) (ys : List Int) : cntTo xs ys 0 xs := ⟨rfl, fun i x y hx _ => by simpa using hx⟩
theorem cntTo.at_ {xs L : List TPart} {ys : List Int} {j i : Nat} {z : TPart} (h : cntTo xs ys j L) (hl : ys.length = xs.length) (hz : L[i]? = some z) :
    ∃ x y, xs[i]? = some x ∧ ys[i]? = some y ∧ z = if i < j then { x with count := y } else x := by
  have hi := (List.getElem?_eq_some_iff.1 hz).1
  obtain ⟨x, hx⟩ := get_of_lt (l := xs) (k := i) (by have := h.1; omega)
  obtain ⟨y, hy⟩ := get_of_lt (l := ys) (k := i) (by have := h.1; omega)
  refine ⟨x, y, hx, hy, ?_⟩
  have := h.2 i x y hx hy
  rw [hz] at this
  exact Option.some.inj this
theorem cntTo.names {xs L : List TPart} {ys : List Int} {j : Nat} (h : cntTo xs ys j L) (hl : ys.length = xs.length) : L.map (·.name) = xs.map (·.name) := by
  apply List.ext_getElem?
  intro i
  rw [List.getElem?_map, List.getElem?_map]
  cases hx : xs[i]? with
  | none =>
    have : L[i]? = none := by
      rw [List.getElem?_eq_none_iff] at hx ⊢
      have := h.1
      omega
    rw [this]
  | some x =>
    obtain ⟨y, hy⟩ := get_of_lt (l := ys) (k := i) (by have := (List.getElem?_eq_some_iff.1 hx).1; omega)
    rw [h.2 i x y hx hy]
    simp only [Option.map_some]
    split <;> rfl
theorem any_name {xs : List TPart} {i : Nat} {s : ByteArray} : (xs.take i).any (fun y => decide (y.name = s)) = ((xs.map (·.name)).take i).any (fun y => decide (y = s)) := by
  rw [← List.map_take, List.any_map]
  rfl
theorem anyBad_at {ys : List Int} (h : anyBad ys = false) {i : Nat} {y : Int} (hy : ys[i]? = some y) : 0 ≤ y ∧ y ≤ 1000000 := by
  unfold anyBad at h
  rw [List.any_eq_false] at h
  have := h y (List.mem_of_getElem? hy)
  exact inB_true (by simpa using this)
theorem cntTo.parts {xs L : List TPart} {ys : List Int} {j : Nat} (h : cntTo xs ys j L) (hl : ys.length = xs.length) (hp : partsB xs = true) (hb : anyBad ys = false) : partsB L = true := by
  have hn := h.names hl
  have hlen := h.1
  have hp0 := hp
  simp only [partsB, Bool.and_eq_true, decide_eq_true_eq, List.all_eq_true, List.mem_range] at hp ⊢
  refine ⟨fun i hi => ?_, by omega⟩
  obtain ⟨z, hz⟩ := get_of_lt (l := L) (k := i) hi
  obtain ⟨x, y, hx, hy, rfl⟩ := h.at_ hl hz
  have h1 := hp.1 i (by omega)
  rw [partOkAt_of hx, any_name] at h1
  rw [partOkAt_of hz, any_name, hn]
  have hyb := anyBad_at hb hy
  simp only [Bool.and_eq_true] at h1 ⊢
  split
  · refine ⟨?_, h1.2⟩
    have h2 := h1.1
    simp only [partB, Bool.and_eq_true, inB, decide_eq_true_eq] at h2 ⊢
    exact ⟨⟨⟨h2.1.1.1, hyb⟩, h2.1.2⟩, h2.2⟩
  · exact h1
theorem checkM_zero {xs : List TPart} {ys : List Int} (h : (stockCheckM xs ys).2 = 0) : partsB xs = true ∧ ys.length = xs.length ∧ anyBad ys = false ∧ (stockCheckM xs ys).1 = checkL xs ys xs.length := by
  unfold stockCheckM at h ⊢
  split at h
  · simp at h
  · rename_i h1
    split at h
    · simp at h
    · rename_i h2
      split at h
      · simp at h
      · rename_i h3
        exact ⟨by simpa using h1, by omega, by simpa using h3, by rw [if_neg h1, if_neg h2, if_neg h3]⟩
theorem checkL_get {xs : List TPart} {ys : List Int} {n k : Nat} (hk : k < n) {x : TPart} {y : Int} (hx : xs[k]? = some x) (hy : ys[k]? = some y) : (checkL xs ys n)[k]? = some (y - x.count) := by
  simp [checkL, hk, hx, hy]
theorem cntTo.step {xs L : List TPart} {ys : List Int} {j : Nat} (h : cntTo xs ys j L) (hl : ys.length = xs.length) (hp : partsB xs = true) (hb : anyBad ys = false) {x : TPart} {y : Int} (hx : xs[j]? = some x) (hy : ys[j]? = some y) :
    (applyMoveM L ⟨(j : Int), y - x.count⟩).2 = 0 ∧ cntTo xs ys (j + 1) (applyMoveM L ⟨(j : Int), y - x.count⟩).1 := by
  have hL : L[j]? = some x := by simpa using h.2 j x y hx hy
  have hj := (List.getElem?_eq_some_iff.1 hx).1
  have hyb := anyBad_at hb hy
  have hxb := partB_b ((partsB_mem hp).2 x (List.mem_of_getElem? hx))
  have hlen := h.1
  have hpL := h.parts hl hp hb
  have hc : moveCode L ⟨(j : Int), y - x.count⟩ = 0 := by
    unfold moveCode
    have h1 : inB (j : Int) 0 ((L.length : Int) - 1) = true := by simp [inB]; omega
    have h2 : inB (y - x.count) (-1000000) 1000000 = true := by simp [inB]; omega
    simp only [h1, h2, Bool.true_eq_false, if_false, Int.toNat_natCast, hL]
    rw [if_neg (by omega), if_neg (by omega)]
  have hm : applyMoveM L ⟨(j : Int), y - x.count⟩ = (moveList L ⟨(j : Int), y - x.count⟩, 0) := by
    unfold applyMoveM
    rw [if_neg (by simp [hpL]), moveM, if_pos hc]
  rw [hm]
  refine ⟨rfl, ?_⟩
  have hml : moveList L ⟨(j : Int), y - x.count⟩ = L.set j { x with count := y } := by
    unfold moveList
    simp only [Int.toNat_natCast, hL]
    rw [show x.count + (y - x.count) = y by omega]
  show cntTo xs ys (j + 1) (moveList L ⟨(j : Int), y - x.count⟩)
  rw [hml]
  refine ⟨by rw [List.length_set]; exact hlen, fun i x' y' hx' hy' => ?_⟩
  have h0 := h.2 i x' y' hx' hy'
  by_cases hij : i = j
  · subst hij
    rw [hx] at hx'
    rw [hy] at hy'
    cases hx'
    cases hy'
    rw [List.getElem?_set_self (by omega), if_pos (by omega)]
  · rw [List.getElem?_set_ne (by omega), h0]
    by_cases h1 : i < j
    · rw [if_pos h1, if_pos (by omega)]
    · rw [if_neg h1, if_neg (by omega)]
theorem cntTo.done {xs L : List TPart} {ys : List Int} (h : cntTo xs ys xs.length L) (hl : ys.length = xs.length) (hp : partsB xs = true) (hb : anyBad ys = false) :
    (stockCheckM L ys).2 = 0 ∧ ∀ z ∈ (stockCheckM L ys).1, z = 0 := by
  have hpL := h.parts hl hp hb
  have hlen := h.1
  have e : stockCheckM L ys = (checkL L ys L.length, 0) := by
    unfold stockCheckM
    rw [if_neg (by simp [hpL]), if_neg (by omega), if_neg (by simp [hb])]
  rw [e]
  refine ⟨rfl, fun z hz => ?_⟩
  simp only [checkL, List.mem_map, List.mem_range] at hz
  obtain ⟨i, hi, rfl⟩ := hz
  obtain ⟨z, hz⟩ := get_of_lt (l := L) (k := i) hi
  obtain ⟨x, y, hx, hy, rfl⟩ := h.at_ hl hz
  rw [hz, hy, if_pos (by omega)]
  simp
theorem toOrder_zero {xs : List TPart} (h : (toOrderM xs).2 = 0) : partsB xs = true ∧ (toOrderM xs).1 = xs.map orderOf := by
  unfold toOrderM at h ⊢
  split at h
  · simp at h
  · rename_i h1
    exact ⟨by simpa using h1, by rw [if_neg h1]⟩
theorem order_b {x : TPart} (hp : partB x = true) : 0 ≤ orderOf x ∧ orderOf x ≤ 2000000 ∧ (0 < orderOf x → x.least ≤ x.count + orderOf x) ∧ (orderOf x = 0 → x.least ≤ x.count) ∧ 0 ≤ x.count ∧ x.count ≤ 1000000 := by
  have hb := partB_b hp
  unfold orderOf
  split <;> omega
end Go.M
