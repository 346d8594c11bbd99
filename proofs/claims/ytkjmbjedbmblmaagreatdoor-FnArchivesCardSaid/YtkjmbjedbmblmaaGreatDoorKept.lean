/- Contracts of functions of the given program, of the reference and of the laws: each says what a call returns, for all arguments that meet the premises that the theorem itself names. -/
import Derived.Test.YtkjmbjedbmblmaaGreatDoorBoxes
import Derived.Test.YtkjmbjedbmblmaaGreatDoorLibSl
import Derived.Test.YtkjmbjedbmblmaaGreatDoorVcApp
namespace Go.M
open Go Go.Vc
def keptB (y : Int) (x : TBox) : Bool := decide (y < x.year + x.keep) || !decide (x.lent = { data := #[] })
def yearOk (y : Int) : Bool := inB y 1800 4000
def keptCode (xs : List TBox) (y : Int) : Int := if boxesB xs = false then 1 else if yearOk y = false then 2 else 0
theorem boxesB_mem {xs : List TBox} (h : boxesB xs = true) : xs.length ≤ 40 ∧ ∀ x ∈ xs, boxB x = true := by
  simp only [boxesB, Bool.and_eq_true, decide_eq_true_eq, List.all_eq_true, List.mem_range] at h
  refine ⟨h.2, fun x hx => ?_⟩
  obtain ⟨i, hi⟩ := List.mem_iff_getElem?.1 hx
  have := h.1 i (List.getElem?_eq_some_iff.1 hi).1
  unfold boxAt at this
  rw [hi] at this
  simp only [Bool.and_eq_true] at this
  exact this.1
theorem boxB_b {x : TBox} (h : boxB x = true) : (0 ≤ x.cards ∧ x.cards ≤ 100000) ∧ (1800 ≤ x.year ∧ x.year ≤ 3000) ∧ (1 ≤ x.keep ∧ x.keep ≤ 100) := by
  simp only [boxB, inB, Bool.and_eq_true, decide_eq_true_eq] at h
  omega
theorem keptCode_zero {xs : List TBox} {y : Int} (h : keptCode xs y = 0) : boxesB xs = true ∧ yearOk y = true := by
  unfold keptCode at h
  cases h1 : boxesB xs <;> cases h2 : yearOk y <;> simp [h1, h2] at h
  simp
def pulpM (xs : List TBox) (y : Int) : List TBox × List TBox := if keptCode xs y = 0 then (xs.filter (keptB y), xs.filter fun x => !keptB y x) else ([], [])
theorem pulpM_len (xs : List TBox) (y : Int) : (pulpM xs y).1.length ≤ xs.length ∧ (pulpM xs y).2.length ≤ xs.length := by
  unfold pulpM
  split
  · exact ⟨List.length_filter_le _ _, List.length_filter_le _ _⟩
  · simp
def cardsL (xs : List TBox) : List Int := xs.map (·.cards)
theorem cardsL_take (xs : List TBox) (k : Nat) : cardsL (xs.take k) = (cardsL xs).take k := by simp [cardsL]
theorem cards_sum_b {xs : List TBox} (h : ∀ x ∈ xs, boxB x = true) (hl : xs.length ≤ 40) : 0 ≤ (cardsL xs).sum ∧ (cardsL xs).sum ≤ 4000000 := by
  have h1 := sum_bounds (l := cardsL xs) (M := 100000) (fun v hv => by
    obtain ⟨x, hx, rfl⟩ := List.mem_map.1 hv
    exact (boxB_b (h x hx)).1)
  have h3 : (cardsL xs).length ≤ 40 := by simp [cardsL, hl]
  omega
def cardsKeptM (xs : List TBox) (y : Int) : Int × Int := if keptCode xs y = 0 then ((cardsL (xs.filter (keptB y))).sum, 0) else (0, keptCode xs y)
def tooBig (r : Int) (x : TBox) : Bool := decide (r < x.cards)
def roomCode (xs : List TBox) (r : Int) : Int := if boxesB xs = false then 1 else if inB r 1 1000000 = false then 2 else if xs.any (tooBig r) = true then 5 else 0
def largeN (r : Int) (xs : List TBox) : Nat := xs.countP fun x => decide (r < 2 * x.cards)
def shelvesM (xs : List TBox) (r : Int) : Int × Int := if roomCode xs r = 0 then (max (largeN r xs : Int) (((cardsL xs).sum + r - 1) / r), 0) else (0, roomCode xs r)
theorem cards_kept_b {xs : List TBox} (h : ∀ x ∈ xs, boxB x = true) (hl : xs.length ≤ 40) (y : Int) (k : Nat) : 0 ≤ (cardsL ((xs.take k).filter (keptB y))).sum ∧ (cardsL ((xs.take k).filter (keptB y))).sum ≤ 4000000 :=
  cards_sum_b (fun x hx => h x (List.mem_of_mem_take (List.mem_filter.1 hx).1)) (Nat.le_trans (List.length_filter_le _ _) (by simp; omega))
theorem roomCode_zero {xs : List TBox} {r : Int} (h : roomCode xs r = 0) : boxesB xs = true ∧ 1 ≤ r ∧ r ≤ 1000000 := by
  unfold roomCode at h
  cases h1 : boxesB xs
  · simp [h1] at h
  cases h2 : inB r 1 1000000
  · simp [h1, h2] at h
  simp only [inB, Bool.and_eq_true, decide_eq_true_eq] at h2
  exact ⟨rfl, h2⟩
theorem largeN_le (r : Int) (xs : List TBox) : largeN r xs ≤ xs.length := List.countP_le_length
end Go.M
namespace Go.Proofs.YtkjmbjedbmblmaaGreatDoor
open Go Go.RowKit Go.Vc Go.M
theorem spec_l00Max (a b : Int) (w : World) : Does Tryz.prog 336 [.int .i64 a, .int .i64 b] w (fun v w' => v = .int .i64 (max a b) ∧ w = w') := by
  refine Does.of_vc tabok Tryz.func336 rfl rfl rfl (by kernel_rfl) ?_; conv => whnf
  with_reducible refine IfB.dec (fun h1 => ?_) (fun h1 => ?_)
  · conv => whnf
    exact ⟨by rw [Int.max_eq_left (by omega)], rfl⟩
  · conv => whnf
    exact ⟨by rw [Int.max_eq_right (by omega)], rfl⟩
end Go.Proofs.YtkjmbjedbmblmaaGreatDoor
namespace Go.M
open Go Go.Vc
/-! the order of names -/
theorem bl_irrefl : ∀ l : List UInt8, Op.bytesLess l l = false
  | [] => rfl
  | a :: l => by simp [Op.bytesLess, bl_irrefl l]
theorem bl_trans : ∀ x y z : List UInt8, Op.bytesLess x y = true → Op.bytesLess y z = true → Op.bytesLess x z = true
  | _, [], _, h, _ => by simp [Op.bytesLess] at h
  | _, _ :: _, [], _, h => by simp [Op.bytesLess] at h
  | [], _ :: _, _ :: _, _, _ => rfl
  | a :: x, b :: y, c :: z, h1, h2 => by
    simp only [Op.bytesLess, Bool.or_eq_true, Bool.and_eq_true, decide_eq_true_eq, beq_iff_eq] at h1 h2 ⊢
    rcases h1 with h1 | ⟨rfl, h1⟩ <;> rcases h2 with h2 | ⟨rfl, h2⟩
    · exact .inl (UInt8.lt_trans h1 h2)
    · exact .inl h1
    · exact .inl h2
    · exact .inr ⟨rfl, bl_trans x y z h1 h2⟩
theorem bl_total : ∀ x y : List UInt8, Op.bytesLess x y = false → Op.bytesLess y x = false → x = y
  | [], [], _, _ => rfl
  | [], _ :: _, h, _ => by simp [Op.bytesLess] at h
  | _ :: _, [], _, h => by simp [Op.bytesLess] at h
  | a :: x, b :: y, h1, h2 => by
    simp only [Op.bytesLess, Bool.or_eq_false_iff, Bool.and_eq_false_iff, decide_eq_false_iff_not, beq_eq_false_iff_ne] at h1 h2
    have hab : a = b := by
      apply Classical.byContradiction
      intro hne
      rcases UInt8.lt_or_lt_of_ne hne with h | h
      · exact h1.1 h
      · exact h2.1 h
    subst hab
    rw [bl_total x y (by simpa using h1.2) (by simpa using h2.2)]
theorem bl_asymm {x y : List UInt8} (h : Op.bytesLess x y = true) : Op.bytesLess y x = false := by
  cases h2 : Op.bytesLess y x with
  | false => rfl
  | true => have := bl_trans x y x h h2; rw [bl_irrefl] at this; cases this
def nameLt (a b : TBox) : Prop := Op.bytesLess a.name.toList b.name.toList = true
theorem nameLt_trans {a b c : TBox} (h : nameLt a b) (k : nameLt b c) : nameLt a c := bl_trans _ _ _ h k
theorem boxAt_next {xs : List TBox} {i : Nat} {x y : TBox} (hx : xs[i]? = some x) (hy : xs[i + 1]? = some y) : boxAt xs (i + 1) = (boxB y && Op.bytesLess x.name.toList y.name.toList) := by
  simp [boxAt, hx, hy, ltB]
theorem boxAt_first {xs : List TBox} {x : TBox} (hx : xs[0]? = some x) : boxAt xs 0 = boxB x := by simp [boxAt, hx]
theorem boxesB_iff {xs : List TBox} : boxesB xs = true ↔ xs.length ≤ 40 ∧ (∀ x ∈ xs, boxB x = true) ∧ xs.Pairwise nameLt := by
  constructor
  · intro h
    obtain ⟨h1, h2⟩ := boxesB_mem h
    refine ⟨h1, h2, ?_⟩
    simp only [boxesB, Bool.and_eq_true, List.all_eq_true, List.mem_range] at h
    have key : ∀ d i x y, xs[i]? = some x → xs[i + d + 1]? = some y → nameLt x y := by
      intro d
      induction d with
      | zero =>
        intro i x y hx hy
        have := h.1 (i + 1) (List.getElem?_eq_some_iff.1 hy).1
        rw [boxAt_next hx hy, Bool.and_eq_true] at this
        exact this.2
      | succ d ih =>
        intro i x y hx hy
        obtain ⟨z, hz⟩ := get_of_lt (l := xs) (k := i + d + 1) (by have := (List.getElem?_eq_some_iff.1 hy).1; omega)
        have h3 := h.1 (i + d + 1 + 1) (List.getElem?_eq_some_iff.1 hy).1
        rw [boxAt_next hz hy, Bool.and_eq_true] at h3
        exact nameLt_trans (ih i x z hx hz) h3.2
    rw [List.pairwise_iff_getElem]
    intro i j hi hj hij
    obtain ⟨d, rfl⟩ : ∃ d, j = i + d + 1 := ⟨j - i - 1, by omega⟩
    exact key d i _ _ (List.getElem?_eq_getElem hi) (List.getElem?_eq_getElem hj)
  · rintro ⟨h1, h2, h3⟩
    simp only [boxesB, Bool.and_eq_true, List.all_eq_true, List.mem_range, decide_eq_true_eq]
    refine ⟨fun i hi => ?_, h1⟩
    cases i with
    | zero =>
      obtain ⟨x, hx⟩ := get_of_lt (l := xs) (k := 0) hi
      rw [boxAt_first hx]
      exact h2 x (List.mem_of_getElem? hx)
    | succ i =>
      obtain ⟨x, hx⟩ := get_of_lt (l := xs) (k := i) (by omega)
      obtain ⟨y, hy⟩ := get_of_lt (l := xs) (k := i + 1) hi
      rw [boxAt_next hx hy, Bool.and_eq_true]
      refine ⟨h2 y (List.mem_of_getElem? hy), ?_⟩
      rw [List.pairwise_iff_getElem] at h3
      have := h3 i (i + 1) (by omega) hi (by omega)
      rw [(List.getElem?_eq_some_iff.1 hx).2, (List.getElem?_eq_some_iff.1 hy).2] at this
      exact this
end Go.M
