/- Contracts of functions of the given program, of the reference and of the laws: each says what a call returns, for all arguments that meet the premises that the theorem itself names. -/
import Derived.Test.YtfgbijddjoojbaaGreatDoorNum
import Derived.Test.YtfgbijddjoojbaaGreatDoorBoxes
import Derived.Test.YtfgbijddjoojbaaGreatDoorParts
/- The texts of boxes and parts: plain lists. -/
namespace Go.M
open Go Go.Vc
def boxHead (x : TBox) : ByteArray := x.name ++ bs [32] ++ decB x.cards ++ bs [32] ++ decB x.year ++ bs [43] ++ decB x.keep
def boxLine (x : TBox) : ByteArray := if x.lent = { data := #[] } then boxHead x ++ bs [10] else boxHead x ++ (bs [32] ++ x.lent) ++ bs [10]
def cats (l : List ByteArray) : List UInt8 := (l.map (·.data.toList)).flatten
theorem cats_snoc (l : List ByteArray) (s : ByteArray) : cats (l ++ [s]) = cats l ++ s.data.toList := by simp [cats]
theorem cats_take {α : Type} {f : α → ByteArray} {xs : List α} {k : Nat} {x : α} (h : xs[k]? = some x) : cats ((xs.take (k + 1)).map f) = cats ((xs.take k).map f) ++ (f x).data.toList := by
  rw [List.take_add_one, h]
  simp [cats]
theorem cats_len {α : Type} {f : α → ByteArray} {m : Nat} : ∀ {xs : List α}, (∀ x ∈ xs, (f x).size ≤ m) → (cats (xs.map f)).length ≤ xs.length * m
  | [], _ => by simp [cats]
  | x :: xs, h => by
    have h1 := h x (by simp)
    have h2 := cats_len (xs := xs) (fun y hy => h y (by simp [hy]))
    have e : (f x).data.toList.length = (f x).size := by simp
    simp only [cats, List.map_cons, List.flatten_cons, List.length_append, List.length_cons, Nat.add_mul] at *
    omega
def boxesText (xs : List TBox) : ByteArray := if boxesB xs = true then bs (cats (xs.map boxLine)) else { data := #[] }
def partLine (x : TPart) : ByteArray := x.name ++ bs [32] ++ decB x.count ++ bs [32] ++ bs [111, 102] ++ bs [32] ++ decB x.least ++ bs [32] ++ bs [97, 116] ++ bs [32] ++ decB x.price ++ bs [10]
def partsText (xs : List TPart) : ByteArray := if partsB xs = true then bs (cats (xs.map partLine)) else { data := #[] }
theorem name_size' {s : ByteArray} (h : nameB s = true) : s.size ≤ 12 := by
  simp only [nameB, nameL, Bool.and_eq_true, decide_eq_true_eq] at h
  have := h.1.1.2
  simpa using this
theorem boxB_sizes {x : TBox} (h : boxB x = true) : x.name.size ≤ 12 ∧ x.lent.size ≤ 12 ∧ i64ok x.cards ∧ i64ok x.year ∧ i64ok x.keep := by
  simp only [boxB, Bool.and_eq_true, Bool.or_eq_true, inB, decide_eq_true_eq] at h
  refine ⟨name_size' h.1.1.1.1, ?_, ⟨by omega, by omega⟩, ⟨by omega, by omega⟩, ⟨by omega, by omega⟩⟩
  rcases h.2 with h | h
  · rw [h]; decide
  · exact name_size' h
theorem boxSm_of {x : TBox} (h : boxB x = true) : boxSm x := boxB_sizes h
theorem partB_sizes {x : TPart} (h : partB x = true) : x.name.size ≤ 12 ∧ i64ok x.count ∧ i64ok x.least ∧ i64ok x.price := by
  simp only [partB, Bool.and_eq_true, inB, decide_eq_true_eq] at h
  exact ⟨name_size' h.1.1.1, ⟨by omega, by omega⟩, ⟨by omega, by omega⟩, ⟨by omega, by omega⟩⟩
theorem boxLine_sm {x : TBox} (h : boxSm x) : (boxLine x).size ≤ 100 := by
  obtain ⟨h1, h2, h3, h4, h5⟩ := h
  have l1 := decB_len h3.1 h3.2
  have l2 := decB_len h4.1 h4.2
  have l3 := decB_len h5.1 h5.2
  unfold boxLine boxHead
  split <;> simp only [ByteArray.size_append, bs_size, List.length_cons, List.length_nil] <;> omega
theorem boxLine_size {x : TBox} (h : boxB x = true) : (boxLine x).size ≤ 100 := boxLine_sm (boxSm_of h)
theorem partLine_sm {x : TPart} (h : partSm x) : (partLine x).size ≤ 100 := by
  obtain ⟨h1, h3, h4, h5⟩ := h
  have l1 := decB_len h3.1 h3.2
  have l2 := decB_len h4.1 h4.2
  have l3 := decB_len h5.1 h5.2
  unfold partLine
  simp only [ByteArray.size_append, bs_size, List.length_cons, List.length_nil]
  omega
theorem partLine_size {x : TPart} (h : partB x = true) : (partLine x).size ≤ 100 := partLine_sm (partB_sizes h)
theorem boxesB_mem' {xs : List TBox} (h : boxesB xs = true) : xs.length ≤ 40 ∧ ∀ x ∈ xs, boxB x = true := by
  simp only [boxesB, Bool.and_eq_true, decide_eq_true_eq, List.all_eq_true, List.mem_range] at h
  refine ⟨h.2, fun x hx => ?_⟩
  obtain ⟨k, hk, rfl⟩ := List.getElem_of_mem hx
  have := h.1 k hk
  unfold boxAt at this
  rw [List.getElem?_eq_getElem hk] at this
  simp only [Bool.and_eq_true] at this
  exact this.1
theorem partsB_mem' {xs : List TPart} (h : partsB xs = true) : xs.length ≤ 40 ∧ ∀ x ∈ xs, partB x = true := by
  simp only [partsB, Bool.and_eq_true, decide_eq_true_eq, List.all_eq_true, List.mem_range] at h
  refine ⟨h.2, fun x hx => ?_⟩
  obtain ⟨k, hk, rfl⟩ := List.getElem_of_mem hx
  have := h.1 k hk
  unfold partOkAt at this
  rw [List.getElem?_eq_getElem hk] at this
  simp only [Bool.and_eq_true] at this
  exact this.1
end Go.M
