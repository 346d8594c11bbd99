/- Contracts of functions of the given program, of the reference and of the laws: each says what a call returns, for all arguments that meet the premises that the theorem itself names. -/
import Derived.Test.YtfgbijddjoojbaaGreatModel
import Derived.Test.YtfgbijddjoojbaaGreatVcApp
/- Cards: plain functions. -/
namespace Go.M
open Go Go.Vc
def cardB (c : List Int) : Bool := decide (1 ≤ c.length) && decide (c.length ≤ 20) && c.all fun m => inB m 0 4095
def cardAt (d : List (List Int)) (i : Nat) : Bool := match d[i]? with | none => false | some c => cardB c && decide (c.length = (d.headD []).length)
def deckB (d : List (List Int)) : Bool := (List.range d.length).all (cardAt d) && decide (d.length ≤ 40)
def widthOf (d : List (List Int)) : Nat := match d with | [] => 20 | c :: _ => c.length
structure TField where
  from_ : Int
  to_ : Int
def TField.enc (f : TField) : List Value := [.int .i64 f.from_, .int .i64 f.to_]
def TField.ok (f : TField) : Prop := i64ok f.from_ ∧ i64ok f.to_
def fieldB (f : TField) (n : Int) : Bool := decide (0 ≤ f.from_) && decide (f.from_ < f.to_) && decide (f.to_ ≤ n)
def numFieldB (f : TField) (n : Int) : Bool := fieldB f n && decide (f.to_ - f.from_ ≤ 12)
def partOf (c : List Int) (f : TField) : List Int := (c.drop f.from_.toNat).take (f.to_.toNat - f.from_.toNat)
theorem fieldB_b {f : TField} {n : Int} (h : fieldB f n = true) : 0 ≤ f.from_ ∧ f.from_ < f.to_ ∧ f.to_ ≤ n := by
  simp only [fieldB, Bool.and_eq_true, decide_eq_true_eq] at h
  omega
theorem cardB_b {c : List Int} (h : cardB c = true) : 1 ≤ c.length ∧ c.length ≤ 20 ∧ ∀ m ∈ c, 0 ≤ m ∧ m ≤ 4095 := by
  simp only [cardB, Bool.and_eq_true, decide_eq_true_eq, List.all_eq_true] at h
  exact ⟨h.1.1, h.1.2, fun m hm => inB_true (h.2 m hm)⟩
theorem cardAt_of {d : List (List Int)} {i : Nat} {c : List Int} (h : d[i]? = some c) : cardAt d i = (cardB c && decide (c.length = (d.headD []).length)) := by simp [cardAt, h]
theorem deckB_mem {d : List (List Int)} (h : deckB d = true) : d.length ≤ 40 ∧ ∀ c ∈ d, cardB c = true ∧ c.length = widthOf d := by
  simp only [deckB, Bool.and_eq_true, decide_eq_true_eq, List.all_eq_true, List.mem_range] at h
  refine ⟨h.2, fun c hc => ?_⟩
  obtain ⟨i, hi⟩ := List.mem_iff_getElem?.1 hc
  have := h.1 i (List.getElem?_eq_some_iff.1 hi).1
  rw [cardAt_of hi, Bool.and_eq_true, decide_eq_true_eq] at this
  refine ⟨this.1, ?_⟩
  cases d with
  | nil => simp at hc
  | cons x l => simpa [widthOf] using this.2
theorem deckB_false {d : List (List Int)} {k : Nat} (h : k < d.length) (hp : cardAt d k = false) : deckB d = false := by
  have : (List.range d.length).all (cardAt d) = false := by
    rw [List.all_eq_false]
    exact ⟨k, List.mem_range.2 h, by simp [hp]⟩
  rw [deckB, this]; rfl
theorem widthOf_b {d : List (List Int)} (h : deckB d = true) : 1 ≤ widthOf d ∧ widthOf d ≤ 20 := by
  cases d with
  | nil => simp [widthOf]
  | cons c l =>
    have := cardB_b ((deckB_mem h).2 c (by simp)).1
    exact ⟨this.1, this.2.1⟩
theorem partOf_len {c : List Int} {f : TField} (h : fieldB f c.length = true) : (partOf c f).length = f.to_.toNat - f.from_.toNat := by
  have := fieldB_b h
  simp [partOf]
  omega
theorem partOf_mem {c : List Int} {f : TField} {m : Int} (h : m ∈ partOf c f) : m ∈ c := List.mem_of_mem_drop (List.mem_of_mem_take h)
/-! rows and digits -/
def bitM (r : Int) : Int := if r = 12 then 1 else if r = 11 then 2 else if 0 ≤ r ∧ r ≤ 9 then 4 * 2 ^ r.toNat else 0
theorem bitM_shl {r : Int} (h0 : 0 ≤ r) (h9 : r ≤ 9) : IntKind.i64.wrap (4 * 2 ^ min r.toNat IntKind.i64.bits) = bitM r := by
  obtain ⟨n, rfl⟩ : ∃ n : Nat, r = n := ⟨r.toNat, by omega⟩
  have hn : n < 10 := by omega
  have key : ∀ n : Fin 10, IntKind.i64.wrap (4 * 2 ^ min n.val IntKind.i64.bits) = bitM (n.val : Int) := by decide +kernel
  exact key ⟨n, hn⟩
def digitM (m : Int) : Int := match (List.range 10).find? (fun (d : Nat) => decide (bitM (d : Int) = m)) with | some d => (d : Int) | none => -1
/-- a minus lies over it -/
def minusB (m : Int) : Bool := decide (m / 2 % 2 = 1)
def bareM (m : Int) : Int := if minusB m = true then m - 2 else m
theorem and2 {m : Int} (h0 : 0 ≤ m) (h1 : m ≤ 4095) : andV .i64 m 2 = if minusB m = true then 2 else 0 := by
  obtain ⟨n, rfl⟩ : ∃ n : Nat, m = n := ⟨m.toNat, by omega⟩
  have hn : n < 4096 := by omega
  have key : ∀ a b : Fin 64, andV .i64 ((a.val * 64 + b.val : Nat) : Int) 2 = if minusB ((a.val * 64 + b.val : Nat) : Int) = true then 2 else 0 := by decide +kernel
  have h := key ⟨n / 64, by omega⟩ ⟨n % 64, by omega⟩
  have e : n / 64 * 64 + n % 64 = n := by omega
  dsimp only at h
  rw [e] at h
  exact h
theorem andNot2 {m : Int} (h0 : 0 ≤ m) (h1 : m ≤ 4095) : andNotV .i64 m 2 = bareM m := by
  obtain ⟨n, rfl⟩ : ∃ n : Nat, m = n := ⟨m.toNat, by omega⟩
  have hn : n < 4096 := by omega
  have key : ∀ a b : Fin 64, andNotV .i64 ((a.val * 64 + b.val : Nat) : Int) 2 = bareM ((a.val * 64 + b.val : Nat) : Int) := by decide +kernel
  have h := key ⟨n / 64, by omega⟩ ⟨n % 64, by omega⟩
  have e : n / 64 * 64 + n % 64 = n := by omega
  dsimp only at h
  rw [e] at h
  exact h
theorem bareM_b {m : Int} (h0 : 0 ≤ m) (h1 : m ≤ 4095) : 0 ≤ bareM m ∧ bareM m ≤ 4095 := by
  unfold bareM minusB
  split
  · rename_i h
    have := of_decide_eq_true h
    omega
  · omega
theorem digitM_b (m : Int) : -1 ≤ digitM m ∧ digitM m ≤ 9 := by
  unfold digitM
  split
  · rename_i d hd
    have := List.mem_of_find?_eq_some hd
    simp at this
    omega
  · omega
theorem digitM_zero : digitM 0 = -1 := by simp [digitM, List.range, List.range.loop, bitM]
/-! numbers, as the reference reads them: the state is none where it failed, else (the number, has it begun) -/
def numStep (s : Option (Int × Bool)) (m : Int) : Option (Int × Bool) :=
  match s with
  | none => none
  | some (n, b) => if m = 0 ∧ b = false then some (n, b) else if digitM m < 0 then none else some (10 * n + digitM m, true)
/-- the number of columns: none where there is none -/
def numOf (l : List Int) : Option Int :=
  match l.getLast? with
  | none => some 0
  | some m =>
    if minusB m = true then
      match l.dropLast.foldl numStep (some (0, false)) with
      | none => none
      | some (n, _) => if digitM (bareM m) < 0 then none else if 10 * n + digitM (bareM m) = 0 then none else some (-(10 * n + digitM (bareM m)))
    else
      match l.foldl numStep (some (0, false)) with
      | none => none
      | some (n, _) => some n
theorem numStep_none (l : List Int) : l.foldl numStep none = none := by
  induction l with
  | nil => rfl
  | cons x l ih => simpa [numStep] using ih
theorem numStep_some (n : Int) (b : Bool) (m : Int) : numStep (some (n, b)) m = if m = 0 ∧ b = false then some (n, b) else if digitM m < 0 then none else some (10 * n + digitM m, true) := rfl
/-- how great a number of k digits gets -/
theorem numFold_b : ∀ (l : List Int) (n : Int) (b : Bool) (k : Nat), 0 ≤ n → n < 10 ^ k → ∀ n' b', l.foldl numStep (some (n, b)) = some (n', b') → 0 ≤ n' ∧ n' < 10 ^ (k + l.length)
  | [], n, b, k, h0, h1, n', b', h => by
    simp at h
    rw [← h.1]
    exact ⟨h0, by simpa using h1⟩
  | m :: l, n, b, k, h0, h1, n', b', h => by
    have hd := digitM_b m
    rw [List.foldl_cons] at h
    rw [numStep_some] at h
    have e : k + (m :: l).length = (k + 1) + l.length := by simp; omega
    rw [e]
    have hp : (10 : Int) ^ (k + 1) = 10 ^ k * 10 := by rw [Int.pow_succ]
    split at h
    · exact numFold_b l n b (k + 1) h0 (by omega) n' b' h
    · split at h
      · rw [numStep_none] at h; cases h
      · exact numFold_b l _ true (k + 1) (by omega) (by omega) n' b' h
def numInM (l : List Int) : Int × Bool := match numOf l with | none => (0, false) | some n => (n, true)
theorem numFold_idle : ∀ (l : List Int) (n' : Int), l.foldl numStep (some (0, false)) = some (n', false) → n' = 0 ∧ ∀ m ∈ l, m = 0
  | [], n', h => by simp at h; exact ⟨h.symm, by simp⟩
  | m :: l, n', h => by
    rw [List.foldl_cons] at h
    rw [numStep_some] at h
    split at h
    · rename_i h1
      obtain ⟨h2, h3⟩ := numFold_idle l n' h
      refine ⟨h2, fun x hx => ?_⟩
      rcases List.mem_cons.1 hx with rfl | hx
      · exact h1.1
      · exact h3 x hx
    · split at h
      · rw [numStep_none] at h; cases h
      · exfalso
        have key : ∀ (l : List Int) (n : Int) (n' : Int), l.foldl numStep (some (n, true)) ≠ some (n', false) := by
          intro l
          induction l with
          | nil => intro n n' h; simp at h
          | cons x l ih =>
            intro n n' h
            rw [List.foldl_cons] at h
            rw [numStep_some] at h
            simp only [Bool.true_eq_false, and_false, if_false] at h
            split at h
            · rw [numStep_none] at h; cases h
            · exact ih _ _ h
        exact key _ _ _ h
theorem numFold_zero : ∀ l : List Int, (∀ m ∈ l, m = 0) → l.foldl numStep (some (0, false)) = some (0, false)
  | [], _ => rfl
  | m :: l, h => by
    rw [List.foldl_cons, h m (by simp)]
    simp only [numStep, and_self, if_true]
    exact numFold_zero l fun x hx => h x (by simp [hx])
/-- the last column apart -/
theorem numOf_snoc (q : List Int) (m : Int) : numOf (q ++ [m]) = if minusB m = true then
      match q.foldl numStep (some (0, false)) with
      | none => none
      | some (n, _) => if digitM (bareM m) < 0 then none else if 10 * n + digitM (bareM m) = 0 then none else some (-(10 * n + digitM (bareM m)))
    else
      match numStep (q.foldl numStep (some (0, false))) m with
      | none => none
      | some (n, _) => some n := by
  unfold numOf
  simp
/-- as the program reads it -/
def numImpl (l : List Int) (m : Int) : Int × Bool :=
  match (l ++ [bareM m]).foldl numStep (some (0, false)) with
  | none => (0, false)
  | some (n, b) => if b = false ∨ bareM m = 0 ∨ (minusB m = true ∧ n = 0) then (0, false) else (if minusB m = true then -n else n, true)
theorem num_same (q : List Int) (m : Int) (h0 : ¬ ∀ x ∈ q ++ [m], x = 0) : numImpl q m = numInM (q ++ [m]) := by
  unfold numImpl numInM
  rw [numOf_snoc, List.foldl_append]
  simp only [List.foldl_cons, List.foldl_nil]
  cases hq : q.foldl numStep (some (0, false)) with
  | none =>
    simp only [numStep]
    by_cases hm : minusB m = true <;> simp [hm]
  | some nb =>
    obtain ⟨n, b⟩ := nb
    by_cases hm : minusB m = true
    · simp only [hm, if_true, true_and]
      by_cases hd : digitM (bareM m) < 0
      · simp only [hd, if_true]
        rw [numStep_some]
        by_cases hz : bareM m = 0 ∧ b = false
        · rw [if_pos hz]
          simp [hz.2]
        · rw [if_neg hz, if_pos hd]
      · have hbz : ¬ bareM m = 0 := fun e => hd (by rw [e, digitM_zero]; decide)
        simp only [hd, if_false]
        rw [numStep_some]
        rw [if_neg (fun e => hbz e.1), if_neg hd]
        dsimp only
        by_cases hn : 10 * n + digitM (bareM m) = 0
        · simp [hn]
        · simp [hn, hbz]
    · have hbm : bareM m = m := by simp [bareM, hm]
      rw [hbm]
      simp only [hm, Bool.false_eq_true, if_false, false_and, or_false]
      by_cases hz : m = 0 ∧ b = false
      · exfalso
        apply h0
        have := numFold_idle q n (by rw [hq, hz.2])
        intro x hx
        rcases List.mem_append.1 hx with hx | hx
        · exact this.2 x hx
        · rw [List.mem_singleton.1 hx]; exact hz.1
      · rw [numStep_some]
        rw [if_neg hz]
        by_cases hd : digitM m < 0
        · rw [if_pos hd]
        · have hmz : ¬ m = 0 := fun e => hd (by rw [e, digitM_zero]; decide)
          rw [if_neg hd]
          simp [hmz]
theorem num_zero {l : List Int} (h : ∀ x ∈ l, x = 0) : numInM l = (0, true) := by
  unfold numInM numOf
  cases hl : l.getLast? with
  | none => rfl
  | some m =>
    have hm : m = 0 := h m (List.mem_of_getLast? hl)
    subst hm
    have hmin : minusB 0 = false := by decide
    simp only [hmin, Bool.false_eq_true, if_false]
    rw [numFold_zero l h]
theorem digitM_is {m : Int} {k : Nat} (hk : k < 10) (h1 : ∀ j : Nat, j < k → bitM (j : Int) ≠ m) (h2 : bitM (k : Int) = m) : digitM m = k := by
  have : (List.range 10).find? (fun (d : Nat) => decide (bitM (d : Int) = m)) = some k := by
    rw [List.find?_eq_some_iff_getElem]
    refine ⟨by simp [h2], k, by simpa using hk, by simp, fun j hj => ?_⟩
    simp only [List.getElem_range, Bool.not_eq_true', decide_eq_false_iff_not]
    exact h1 j hj
  unfold digitM
  rw [this]
theorem digitM_none {m : Int} (h1 : ∀ j : Nat, j < 10 → bitM (j : Int) ≠ m) : digitM m = -1 := by
  have : (List.range 10).find? (fun (d : Nat) => decide (bitM (d : Int) = m)) = none := by
    rw [List.find?_eq_none]
    intro j hj
    simp [h1 j (by simpa using hj)]
  unfold digitM
  rw [this]
theorem bitM_12 {r : Int} (h : r = 12) : bitM r = 1 := by simp [bitM, h]
theorem bitM_11 {r : Int} (h : r = 11) : bitM r = 2 := by simp [bitM, h]
theorem bitM_no {r : Int} (h1 : ¬ r = 12) (h2 : ¬ r = 11) (h3 : inB r 0 9 = false) : bitM r = 0 := by
  unfold bitM
  rw [if_neg h1, if_neg h2, if_neg]
  intro h
  simp [inB, h] at h3
theorem all_step {l : List Int} {k : Nat} {x : Int} {p : Int → Bool} (hx : l[k]? = some x) (h : (l.take k).all p = true) (hp : p x = true) : (l.take (k + 1)).all p = true := by
  rw [List.take_add_one, hx, Option.toList_some, List.all_append, h]
  simp [hp]
theorem cardB_bad {c : List Int} {k : Nat} {m : Int} (h : c[k]? = some m) (hm : inB m 0 4095 = false) : cardB c = false := by
  unfold cardB
  have : (c.all fun m => inB m 0 4095) = false := by
    rw [List.all_eq_false]
    exact ⟨m, List.mem_of_getElem? h, by simp [hm]⟩
  rw [this, Bool.and_false]
theorem cardB_all {c : List Int} (h : (c.all fun m => inB m 0 4095) = true) : cardB c = inB c.length 1 20 := by
  unfold cardB
  rw [h, Bool.and_true]
  unfold inB
  congr 1
  · exact decide_eq_decide.2 (by omega)
  · exact decide_eq_decide.2 (by omega)
theorem cardAt_first {d : List (List Int)} {i : Nat} {c x : List Int} (h : d[i]? = some c) (hx : d[0]? = some x) : cardAt d i = (cardB c && decide (c.length = x.length)) := by
  rw [cardAt_of h]
  cases d with
  | nil => simp at hx
  | cons y l => simp at hx; subst hx; rfl
theorem deckB_all {d : List (List Int)} (h : (List.range d.length).all (cardAt d) = true) : deckB d = decide (d.length ≤ 40) := by simp [deckB, h]
theorem num_small {l : List Int} {n : Int} {b : Bool} (h : l.foldl numStep (some (0, false)) = some (n, b)) (hl : l.length ≤ 12) : 0 ≤ n ∧ n < 1000000000000 := by
  have h1 := numFold_b l 0 false 0 (by omega) (by simp) n b h
  have key : ∀ k : Fin 13, (10 : Int) ^ k.val ≤ 1000000000000 := by decide
  have h2 := key ⟨0 + l.length, by omega⟩
  dsimp only at h2
  omega
theorem fold_take {l : List Int} {i : Nat} {x : Int} (hx : l[i]? = some x) (s : Option (Int × Bool)) : (l.take (i + 1)).foldl numStep s = numStep ((l.take i).foldl numStep s) x := by
  rw [List.take_add_one, hx, Option.toList_some, List.foldl_append]
  rfl
theorem fold_none {l : List Int} {i : Nat} (h : (l.take i).foldl numStep (some (0, false)) = none) : l.foldl numStep (some (0, false)) = none := by
  have : l = l.take i ++ l.drop i := (List.take_append_drop i l).symm
  rw [this, List.foldl_append, h, numStep_none]
theorem numImpl_none {r : List Int} {m : Int} (h : (r ++ [bareM m]).foldl numStep (some (0, false)) = none) : numImpl r m = (0, false) := by
  unfold numImpl
  rw [h]
theorem numImpl_some {r : List Int} {m n : Int} {b : Bool} (h : (r ++ [bareM m]).foldl numStep (some (0, false)) = some (n, b)) : numImpl r m = if b = false ∨ bareM m = 0 ∨ (minusB m = true ∧ n = 0) then (0, false) else (if minusB m = true then -n else n, true) := by
  unfold numImpl
  rw [h]
theorem numInM_minus {r : List Int} {m n : Int} {b : Bool} (hm : minusB m = true) (h : r.foldl numStep (some (0, false)) = some (n, b)) : numInM (r ++ [m]) = if digitM (bareM m) < 0 then (0, false) else if 10 * n + digitM (bareM m) = 0 then (0, false) else (-(10 * n + digitM (bareM m)), true) := by
  unfold numInM
  rw [numOf_snoc, if_pos hm, h]
  dsimp only
  by_cases h1 : digitM (bareM m) < 0
  · simp [h1]
  · by_cases h2 : 10 * n + digitM (bareM m) = 0
    · simp [h1, h2]
    · simp [h1, h2]
theorem numInM_plain {r : List Int} {m n : Int} {b : Bool} (hm : minusB m = false) (h : (r ++ [m]).foldl numStep (some (0, false)) = some (n, b)) : numInM (r ++ [m]) = (n, true) := by
  rw [List.foldl_append] at h
  unfold numInM
  rw [numOf_snoc, if_neg (by simp [hm])]
  simp only [List.foldl_cons, List.foldl_nil] at h
  rw [h]
theorem numInM_bad {r : List Int} {m : Int} (h : r.foldl numStep (some (0, false)) = none) : numInM (r ++ [m]) = (0, false) := by
  unfold numInM
  rw [numOf_snoc, h]
  by_cases hm : minusB m = true <;> simp [hm, numStep]
theorem numInM_none {r : List Int} {m : Int} (hm : minusB m = false) (h : (r ++ [m]).foldl numStep (some (0, false)) = none) : numInM (r ++ [m]) = (0, false) := by
  rw [List.foldl_append] at h
  unfold numInM
  rw [numOf_snoc, if_neg (by simp [hm])]
  simp only [List.foldl_cons, List.foldl_nil] at h
  rw [h]
end Go.M
