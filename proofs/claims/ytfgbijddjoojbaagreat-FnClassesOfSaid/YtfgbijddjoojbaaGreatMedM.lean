/- Contracts of functions of the given program, of the reference and of the laws: each says what a call returns, for all arguments that meet the premises that the theorem itself names. -/
import Derived.Test.YtfgbijddjoojbaaGreatStab
/- The median: plain lists. -/
namespace Go.M
def sortI (xs : List Int) : List Int := xs.mergeSort fun x y => decide (x ≤ y)
theorem sortI_perm (xs : List Int) : (sortI xs).Perm xs := List.mergeSort_perm xs _
theorem sortI_le (xs : List Int) : (sortI xs).Pairwise (· ≤ ·) := by
  have := List.pairwise_mergeSort (le := fun (x y : Int) => decide (x ≤ y)) (fun a b c h1 h2 => by simp at *; omega) (fun a b => by simp; omega) xs
  exact this.imp (fun h => by simpa using h)
theorem sortI_len (xs : List Int) : (sortI xs).length = xs.length := (sortI_perm xs).length_eq
def lessN (xs : List Int) (v : Int) : Nat := xs.countP fun x => decide (x < v)
def mostN (xs : List Int) (v : Int) : Nat := xs.countP fun x => decide (x ≤ v)
theorem sorted_counts {s : List Int} (hs : s.Pairwise (· ≤ ·)) {k : Nat} {v : Int} (h : s[k]? = some v) : (∀ x, x ≤ v → lessN s x ≤ k) ∧ (∀ x, v ≤ x → k < mostN s x) := by
  have hsplit : s = s.take k ++ v :: s.drop (k + 1) := by
    have := drop_next h
    rw [← this, List.take_append_drop]
  have hk := (List.getElem?_eq_some_iff.1 h).1
  have hl : (s.take k).length = k := by simp; omega
  generalize s.take k = A at *
  generalize s.drop (k + 1) = B at *
  subst hsplit
  obtain ⟨h1, h2, h3⟩ := List.pairwise_append.1 hs
  have h4 := (List.pairwise_cons.1 h2).1
  constructor
  · intro x hx
    unfold lessN
    rw [List.countP_append]
    have e : (v :: B).countP (fun y => decide (y < x)) = 0 := by
      rw [List.countP_eq_zero]
      intro y hy
      rcases List.mem_cons.1 hy with rfl | hy
      · simp; omega
      · have := h4 y hy
        simp; omega
    have := List.countP_le_length (p := fun y => decide (y < x)) (l := A)
    omega
  · intro x hx
    unfold mostN
    rw [List.countP_append]
    have e : A.countP (fun y => decide (y ≤ x)) = A.length := by
      rw [List.countP_eq_length]
      intro y hy
      have := h3 y hy v (by simp)
      simp; omega
    have e2 : 1 ≤ (v :: B).countP (fun y => decide (y ≤ x)) := by
      rw [List.countP_cons_of_pos (by simp; omega)]
      omega
    omega
theorem lessN_sort (xs : List Int) (v : Int) : lessN (sortI xs) v = lessN xs v := (sortI_perm xs).countP_eq _
theorem mostN_sort (xs : List Int) (v : Int) : mostN (sortI xs) v = mostN xs v := (sortI_perm xs).countP_eq _
theorem less_most_lt {xs : List Int} {v x : Int} (h : v < x) : mostN xs v ≤ lessN xs x := by
  unfold mostN lessN
  refine List.countP_mono_left (fun y _ hy => ?_)
  simp at *
  omega
def medP (xs : List Int) (x : Int) : Prop := lessN xs x ≤ (xs.length - 1) / 2 ∧ (xs.length - 1) / 2 < mostN xs x
theorem medP_self {xs : List Int} {v : Int} (h : (sortI xs)[(xs.length - 1) / 2]? = some v) : medP xs v := by
  obtain ⟨h1, h2⟩ := sorted_counts (sortI_le xs) h
  have a := h1 v (by omega)
  have b := h2 v (by omega)
  rw [lessN_sort] at a
  rw [mostN_sort] at b
  exact ⟨a, b⟩
theorem medP_eq {xs : List Int} {v x : Int} (h : medP xs v) (h' : medP xs x) : x = v := by
  apply Classical.byContradiction
  intro hne
  rcases Int.lt_or_gt_of_ne hne with hl | hl
  · have := less_most_lt (xs := xs) hl
    have := h.1
    have := h'.2
    omega
  · have := less_most_lt (xs := xs) hl
    have := h'.1
    have := h.2
    omega
end Go.M
