/- Contracts of functions of the given program, of the reference and of the laws: each says what a call returns, for all arguments that meet the premises that the theorem itself names. -/
import Derived.Test.YtfgbijddjoojbaaGreatShares
import Derived.Test.YtfgbijddjoojbaaGreatCensusM
import Derived.Test.YtfgbijddjoojbaaGreatMedM
/- Classes, shares and the median: the plain law. -/
namespace Go.M
open Go Go.Vc
theorem sum_set : ∀ {l : List Int} {k : Nat} {x v : Int}, l[k]? = some x → (l.set k v).sum = l.sum - x + v
  | [], _, _, _, h => by simp at h
  | y :: l, 0, x, v, h => by
    simp at h
    subst h
    simp only [List.set_cons_zero, List.sum_cons]
    omega
  | y :: l, k + 1, x, v, h => by
    have := sum_set (l := l) (k := k) (x := x) (v := v) (by simpa using h)
    simp only [List.set_cons_succ, List.sum_cons, this]
    omega
theorem shareSt_sum {cs : List Int} : ∀ k, k ≤ cs.length → (shareSt cs k).sum = (baseL cs).sum + k
  | 0, _ => by simp [shareSt]
  | k + 1, h => by
    have ih := shareSt_sum (cs := cs) k (by omega)
    have hl : (sortL (moreR (remL cs)) (upto cs.length)).length = cs.length := by rw [sortL_len', upto_length]
    obtain ⟨y, hy⟩ := get_of_lt (l := sortL (moreR (remL cs)) (upto cs.length)) (k := k) (by omega)
    obtain ⟨i, hi, rfl⟩ := upto_mem.1 (sortL_mem' (List.mem_of_getElem? hy))
    have hs := shareSt_len cs k
    obtain ⟨z, hz⟩ := get_of_lt (l := shareSt cs k) (k := i) (by omega)
    rw [shareSt_succ hy]
    unfold inc1
    rw [show ((i : Nat) : Int).toNat = i by omega, List.getD_eq_getElem?_getD, hz, sum_set hz, ih]
    simp only [Option.getD_some]
    omega
theorem shares_1000 {cs ys : List Int} (h : sharesM cs = (ys, 0)) : ys.sum = 1000 := by
  unfold sharesM at h
  split at h
  · simp at h
  rename_i hc
  split at h
  · simp at h
  rename_i hs
  simp only [Prod.mk.injEq, and_true] at h
  have hc : countsB cs = true := by simpa using hc
  have h2 := (countsB_spec hc).2
  have h0 : 0 ≤ cs.sum := by
    have : ∀ l : List Int, (∀ c ∈ l, 0 ≤ c) → 0 ≤ l.sum := by
      intro l
      induction l with
      | nil => intro _; simp
      | cons x m ih =>
        intro hx
        have a := hx x (by simp)
        have b := ih (fun c hc => hx c (by simp [hc]))
        simp only [List.sum_cons]
        omega
    exact this cs (fun c hc => (h2 c hc).1)
  have hb := base_sum (fun c hc => (h2 c hc).1) (by omega)
  have hss := shareSt_sum (cs := cs) (1000 - (baseL cs).sum).toNat (by omega)
  have e : shareSt cs (1000 - (baseL cs).sum).toNat = ys := h
  rw [← e, hss]
  omega
theorem range_hit {n t : Nat} (h : t < n) : ((List.range n).map fun k => if t = k then (1 : Int) else 0).sum = 1 := by
  induction n with
  | zero => omega
  | succ n ih =>
    rw [List.range_succ, List.map_append, List.sum_append]
    by_cases e : t = n
    · subst e
      have h0 : ((List.range t).map fun k => if t = k then (1 : Int) else 0).sum = 0 := by
        have : (List.range t).map (fun k => if t = k then (1 : Int) else 0) = (List.range t).map fun _ => 0 := by
          apply List.map_congr_left
          intro k hk
          have := List.mem_range.1 hk
          rw [if_neg (by omega)]
        rw [this]
        have : ∀ l : List Nat, (l.map fun _ => (0 : Int)).sum = 0 := by
          intro l
          induction l with
          | nil => rfl
          | cons x m ih => simp only [List.map_cons, List.sum_cons, ih]; rfl
        exact this _
      rw [h0]
      simp
    · rw [ih (by omega)]
      simp [e]
theorem sum_add2 {α : Type} : ∀ (L : List α) (f g : α → Int), (L.map fun x => f x + g x).sum = (L.map f).sum + (L.map g).sum
  | [], _, _ => rfl
  | x :: l, f, g => by
    simp only [List.map_cons, List.sum_cons, sum_add2 l f g]
    omega
theorem tally_sum (l : List Int) : ∀ ns : List Int, (tally l ns).sum = ns.length
  | [] => by
    rw [tally_nil]
    have : ∀ n : Nat, (List.replicate n (0 : Int)).sum = 0 := by
      intro n
      induction n with
      | zero => rfl
      | succ n ih => rw [List.replicate_succ, List.sum_cons, ih]; rfl
    rw [this]
    rfl
  | n :: ns => by
    have ih := tally_sum l ns
    have e : tally l (n :: ns) = (List.range (l.length + 1)).map fun k => ((ns.countP fun m => decide (classM l m = k) : Nat) : Int) + (if classM l n = k then 1 else 0) := by
      unfold tally
      apply List.map_congr_left
      intro k _
      rw [List.countP_cons]
      by_cases e : classM l n = k
      · simp [e]
      · simp [e]
    have hc := classM_le l n
    rw [e, sum_add2, range_hit (by omega)]
    have e2 : ((List.range (l.length + 1)).map fun k => ((ns.countP fun m => decide (classM l m = k) : Nat) : Int)).sum = (tally l ns).sum := rfl
    rw [e2, ih, List.length_cons]
    omega
end Go.M
