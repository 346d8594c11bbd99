/- Contracts of functions of the given program, of the reference and of the laws: each says what a call returns, for all arguments that meet the premises that the theorem itself names. -/
import Derived.Test.YtfgbijddjoojbaaGreatDoorKeyR
/- Census: the plain law: sums of counts. -/
namespace Go.M
open Go Go.Vc
/-- one of them, once -/
theorem sum_hit {α : Type} [DecidableEq α] : ∀ {L : List α} {t : α}, L.Nodup → t ∈ L → (L.map fun x => if t = x then (1 : Int) else 0).sum = 1
  | [], t, _, h => by simp at h
  | x :: l, t, hn, h => by
    have hn2 := List.pairwise_cons.1 hn
    by_cases e : t = x
    · subst e
      have h0 : ∀ l : List α, t ∉ l → (l.map fun x => if t = x then (1 : Int) else 0).sum = 0 := by
        intro l
        induction l with
        | nil => intro _; rfl
        | cons y m ih =>
          intro hm
          have h1 : ¬ t = y := fun e => hm (by simp [e])
          have h2 := ih (fun h => hm (by simp [h]))
          simp only [List.map_cons, List.sum_cons, if_neg h1, h2]
          omega
      have := h0 l (fun hm => hn2.1 t hm rfl)
      simp only [List.map_cons, List.sum_cons, if_pos, this]
      omega
    · have hm : t ∈ l := by
        rcases List.mem_cons.1 h with h | h
        · exact absurd h e
        · exact h
      simp only [List.map_cons, List.sum_cons, if_neg e, sum_hit hn2.2 hm]
      omega
theorem sum_add {α : Type} : ∀ (L : List α) (f g : α → Int), (L.map fun x => f x + g x).sum = (L.map f).sum + (L.map g).sum
  | [], _, _ => rfl
  | x :: l, f, g => by
    simp only [List.map_cons, List.sum_cons, sum_add l f g]
    omega
theorem sum_zero {α : Type} (L : List α) : (L.map fun _ => (0 : Int)).sum = 0 := by
  induction L with
  | nil => rfl
  | cons x l ih => simp only [List.map_cons, List.sum_cons, ih]; rfl
theorem sum_congr {α : Type} {L : List α} {f g : α → Int} (h : ∀ x ∈ L, f x = g x) : (L.map f).sum = (L.map g).sum := by rw [List.map_congr_left h]
/-- counts of all have the number as their sum -/
theorem sum_cnt {L : List (List Int)} (hn : L.Nodup) : ∀ {ks : List (List Int)}, (∀ k ∈ ks, k ∈ L) → (L.map fun t => ((cntM ks t : Nat) : Int)).sum = ks.length
  | [], _ => by
    have : (fun t => ((cntM [] t : Nat) : Int)) = fun _ => 0 := rfl
    rw [this, sum_zero]
    rfl
  | k :: ks, h => by
    have e : ∀ t, ((cntM (k :: ks) t : Nat) : Int) = ((cntM ks t : Nat) : Int) + (if k = t then 1 else 0) := fun t => by
      unfold cntM
      rw [List.countP_cons]
      by_cases e : k = t
      · simp [e]
      · simp [e]
    have h1 := sum_cnt hn (ks := ks) (fun x hx => h x (by simp [hx]))
    have h2 := sum_hit hn (h k (by simp))
    rw [sum_congr (fun t _ => e t), sum_add, h1, h2, List.length_cons]
    omega
/-- a row's sum is its count -/
theorem sum_row {Y : List (List Int)} (hn : Y.Nodup) {r f : TField} {x : List Int} : ∀ {d : List (List Int)}, (∀ c ∈ d, ckey f c ∈ Y) → (Y.map fun y => ((cellM d r f x y : Nat) : Int)).sum = ((cntM (d.map (ckey r)) x : Nat) : Int)
  | [], _ => by
    have : (fun y => ((cellM [] r f x y : Nat) : Int)) = fun _ => 0 := rfl
    rw [this, sum_zero]
    rfl
  | c :: d, h => by
    have h1 := sum_row hn (d := d) (r := r) (x := x) (fun z hz => h z (by simp [hz]))
    have h2 := sum_hit hn (h c (by simp))
    have ec : cntM ((c :: d).map (ckey r)) x = cntM (d.map (ckey r)) x + (if ckey r c = x then 1 else 0) := by
      unfold cntM
      rw [List.map_cons, List.countP_cons]
      by_cases e : ckey r c = x
      · simp [e]
      · simp [e]
    have e : ∀ y, ((cellM (c :: d) r f x y : Nat) : Int) = ((cellM d r f x y : Nat) : Int) + (if ckey r c = x then (if ckey f c = y then 1 else 0) else 0) := fun y => by
      unfold cellM
      rw [List.countP_cons]
      by_cases e1 : ckey r c = x
      · by_cases e2 : ckey f c = y
        · simp [e1, e2]
        · simp [e1, e2]
      · simp [e1]
    rw [sum_congr (fun y _ => e y), sum_add, h1, ec]
    by_cases e1 : ckey r c = x
    · simp only [if_pos e1, h2]
      omega
    · simp only [if_neg e1, sum_zero]
      omega
theorem cell_swap (d : List (List Int)) (r f : TField) (x y : List Int) : cellM d r f x y = cellM d f r y x := by
  unfold cellM
  congr 1
  funext c
  exact Bool.and_comm _ _
theorem sum_col {X : List (List Int)} (hn : X.Nodup) {r f : TField} {y : List Int} {d : List (List Int)} (h : ∀ c ∈ d, ckey r c ∈ X) : (X.map fun x => ((cellM d r f x y : Nat) : Int)).sum = ((cntM (d.map (ckey f)) y : Nat) : Int) := by
  rw [sum_congr (fun x _ => by rw [cell_swap d r f x y])]
  exact sum_row hn h
/-! tables: sums of rows and of columns -/
def colSum (xs : List (List Int)) (k : Nat) : Int := (xs.map fun l => l.getD k 0).sum
def colSums (xs : List (List Int)) : List Int := (List.range (xs.headD []).length).map (colSum xs)
theorem colSum_mat {α : Type} {X Y : List α} {g : α → α → Int} {k : Nat} {y : α} (h : Y[k]? = some y) : colSum (matM X Y g) k = (X.map fun x => g x y).sum := by
  unfold colSum matM
  rw [List.map_map]
  congr 1
  apply List.map_congr_left
  intro x _
  simp only [Function.comp_apply, List.getD_eq_getElem?_getD, List.getElem?_map, h]
  rfl
theorem colSums_mat {α : Type} {X Y : List α} {g : α → α → Int} (hX : X ≠ []) : colSums (matM X Y g) = Y.map fun y => (X.map fun x => g x y).sum := by
  have hh : (matM X Y g).headD [] = Y.map fun y => g (X.head hX) y := by
    cases X with
    | nil => exact absurd rfl hX
    | cons x l => rfl
  unfold colSums
  rw [hh, List.length_map]
  apply List.ext_getElem?
  intro k
  by_cases hk : k < Y.length
  · obtain ⟨y, hy⟩ := get_of_lt hk
    rw [List.getElem?_map, List.getElem?_range hk, Option.map_some, colSum_mat hy, List.getElem?_map, hy]
    rfl
  · rw [List.getElem?_eq_none (by simp; omega), List.getElem?_eq_none (by simp; omega)]
theorem cellM_le (d : List (List Int)) (r f : TField) (x y : List Int) : cellM d r f x y ≤ d.length := List.countP_le_length
theorem texts_ne {d : List (List Int)} {f : TField} (hd : deckB d = true) (hf : fieldB f (widthOf d) = true) : textsM (d.map (ckey f)) = [] ↔ d = [] := by
  constructor
  · intro h
    apply Classical.byContradiction
    intro hne
    cases d with
    | nil => exact hne rfl
    | cons c l =>
      have := (texts_mem hd hf (ckey f c)).2 (by simp)
      rw [h] at this
      simp at this
  · intro h
    subst h
    have := texts_len hd hf
    exact List.eq_nil_of_length_eq_zero (by simpa using this)
section
variable {d : List (List Int)} {r f : TField} (hd : deckB d = true) (hr : fieldB r (widthOf d) = true) (hf : fieldB f (widthOf d) = true)
include hd hf in
theorem cross_rows : (crossM d r f).map List.sum = (totalsM (d.map (ckey r))).map TTotal.sum := by
  unfold crossM matM totalsM
  rw [List.map_map, List.map_map]
  apply List.map_congr_left
  intro x _
  simp only [Function.comp_apply]
  exact sum_row (texts_asc hd hf) (fun c hc => (texts_mem hd hf _).2 (List.mem_map.2 ⟨c, hc, rfl⟩))
include hd hr hf in
theorem cross_cols : colSums (crossM d r f) = (totalsM (d.map (ckey f))).map TTotal.sum := by
  by_cases h0 : d = []
  · have h1 := (texts_ne hd hr).2 h0
    have h2 := (texts_ne hd hf).2 h0
    unfold crossM totalsM
    rw [h1, h2]
    rfl
  · have h1 : textsM (d.map (ckey r)) ≠ [] := fun h => h0 ((texts_ne hd hr).1 h)
    unfold crossM
    rw [colSums_mat h1]
    unfold totalsM
    rw [List.map_map]
    apply List.map_congr_left
    intro y _
    simp only [Function.comp_apply]
    exact sum_col (texts_asc hd hr) (fun c hc => (texts_mem hd hr _).2 (List.mem_map.2 ⟨c, hc, rfl⟩))
include hd hf in
theorem totals_sum : ((totalsM (d.map (ckey f))).map TTotal.sum).sum = d.length := by
  unfold totalsM
  rw [List.map_map]
  have := sum_cnt (texts_asc hd hf) (ks := d.map (ckey f)) (fun k hk => (texts_mem hd hf k).2 hk)
  rw [List.length_map] at this
  exact this
end
end Go.M
