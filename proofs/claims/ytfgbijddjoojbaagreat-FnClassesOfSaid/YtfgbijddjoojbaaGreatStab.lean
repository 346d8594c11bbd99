/- A stable sort of rising numbers: plain lists. No conditions. -/
import Derived.Test.YtfgbijddjoojbaaGreatModel
/- The laws of a stable sort of rising numbers: plain Lean. -/
namespace Go.M
/-- a strict weak order -/
structure Swo (r : Int → Int → Prop) : Prop where
  irr : ∀ i, ¬ r i i
  tr : ∀ i j k, r i j → r j k → r i k
  ntr : ∀ i j k, ¬ r i j → ¬ r j k → ¬ r i k
/-- the order of a stable sort of rising numbers -/
def Lex (r : Int → Int → Prop) (i j : Int) : Prop := r i j ∨ (¬ r j i ∧ i < j)
theorem Swo.lexIrr {r : Int → Int → Prop} (h : Swo r) (i : Int) : ¬ Lex r i i := by
  rintro (h1 | ⟨_, h1⟩)
  · exact h.irr i h1
  · omega
theorem Swo.lexTr {r : Int → Int → Prop} (h : Swo r) {i j k : Int} (h1 : Lex r i j) (h2 : Lex r j k) : Lex r i k := by
  rcases h1 with h1 | ⟨h1, h1'⟩ <;> rcases h2 with h2 | ⟨h2, h2'⟩
  · exact .inl (h.tr _ _ _ h1 h2)
  · left
    apply Classical.byContradiction
    intro h3
    exact h.ntr i k j h3 h2 h1
  · left
    apply Classical.byContradiction
    intro h3
    exact h.ntr j i k h1 h3 h2
  · exact .inr ⟨h.ntr k j i h2 h1, by omega⟩
theorem Swo.lexTot {r : Int → Int → Prop} (_h : Swo r) {i j : Int} (hne : i ≠ j) : Lex r i j ∨ Lex r j i := by
  by_cases h1 : r i j
  · exact .inl (.inl h1)
  by_cases h2 : r j i
  · exact .inr (.inl h2)
  by_cases h3 : i < j
  · exact .inl (.inr ⟨h2, h3⟩)
  · exact .inr (.inr ⟨h1, by omega⟩)
/-- of one further to the right, the comparison alone decides -/
theorem lex_right {r : Int → Int → Prop} {x y : Int} (h : x < y) : Lex r y x ↔ r y x := by
  constructor
  · rintro (h1 | ⟨_, h1⟩)
    · exact h1
    · omega
  · exact .inl
theorem Swo.lex_of_not {r : Int → Int → Prop} (hs : Swo r) {x y : Int} (h : x < y) (hn : ¬ r y x) : Lex r x y := by
  rcases hs.lexTot (i := x) (j := y) (by omega) with h1 | h1
  · exact h1
  · exact absurd ((lex_right h).1 h1) hn
/-- a list that is sorted by a strict total order is told by its elements -/
theorem Swo.unique {r : Int → Int → Prop} (hs : Swo r) : ∀ {xs ys : List Int}, xs.Perm ys → xs.Pairwise (Lex r) → ys.Pairwise (Lex r) → xs = ys
  | [], ys, h, _, _ => (List.nil_perm.1 h).symm
  | x :: xs, [], h, _, _ => by simp at h
  | x :: xs, y :: ys, h, h1, h2 => by
    rw [List.pairwise_cons] at h1 h2
    have e : x = y := by
      apply Classical.byContradiction
      intro hne
      have hx : x ∈ y :: ys := h.subset (by simp)
      have hy : y ∈ x :: xs := h.symm.subset (by simp)
      have hx' : x ∈ ys := by simpa [hne] using hx
      have hy' : y ∈ xs := by simpa [Ne.symm hne] using hy
      exact hs.lexIrr _ (hs.lexTr (h1.1 _ hy') (h2.1 _ hx'))
    subst e
    rw [hs.unique ((List.perm_cons x).1 h) h1.2 h2.2]
/-- the two halves of a merge: what was found by the search puts every one of the left half before every one of the right half -/
theorem Swo.halves {r : Int → Int → Prop} (hs : Swo r) {L1 L2 R1 R2 : List Int} (hL : (L1 ++ L2).Pairwise (Lex r)) (hR : (R1 ++ R2).Pairwise (Lex r))
    (h1 : L1 = [] ∨ R2 = [] ∨ ∃ x y, L1.getLast? = some x ∧ R2.head? = some y ∧ Lex r x y)
    (h2 : L2 = [] ∨ R1 = [] ∨ ∃ x y, R1.getLast? = some x ∧ L2.head? = some y ∧ Lex r x y) :
    ∀ x ∈ L1 ++ R1, ∀ y ∈ L2 ++ R2, Lex r x y := by
  rw [List.pairwise_append] at hL hR
  obtain ⟨l1, l2, l12⟩ := hL
  obtain ⟨r1, r2, r12⟩ := hR
  have lastLe : ∀ {A : List Int} {x z : Int}, A.Pairwise (Lex r) → A.getLast? = some x → z ∈ A → z = x ∨ Lex r z x := by
    intro A x z hA hx hz
    obtain ⟨B, rfl⟩ : ∃ B, A = B ++ [x] := List.getLast?_eq_some_iff.1 hx
    rw [List.pairwise_append] at hA
    rcases List.mem_append.1 hz with hz | hz
    · exact .inr (hA.2.2 z hz x (by simp))
    · exact .inl (by simpa using hz)
  have headLe : ∀ {A : List Int} {x z : Int}, A.Pairwise (Lex r) → A.head? = some x → z ∈ A → z = x ∨ Lex r x z := by
    intro A x z hA hx hz
    cases A with
    | nil => simp at hx
    | cons a B =>
      simp at hx
      subst hx
      rw [List.pairwise_cons] at hA
      rcases List.mem_cons.1 hz with hz | hz
      · exact .inl hz
      · exact .inr (hA.1 z hz)
  have mix : ∀ {A B : List Int} {x y u v : Int}, A.Pairwise (Lex r) → B.Pairwise (Lex r) → A.getLast? = some x → B.head? = some y → Lex r x y → u ∈ A → v ∈ B → Lex r u v := by
    intro A B x y u v hA hB hx hy hxy hu hv
    have e1 : Lex r u y := by
      rcases lastLe hA hx hu with rfl | h
      · exact hxy
      · exact hs.lexTr h hxy
    rcases headLe hB hy hv with rfl | h
    · exact e1
    · exact hs.lexTr e1 h
  intro u hu v hv
  rcases List.mem_append.1 hu with hu | hu <;> rcases List.mem_append.1 hv with hv | hv
  · exact l12 u hu v hv
  · rcases h1 with rfl | rfl | ⟨x, y, hx, hy, hxy⟩
    · cases hu
    · cases hv
    · exact mix l1 r2 hx hy hxy hu hv
  · rcases h2 with rfl | rfl | ⟨x, y, hx, hy, hxy⟩
    · cases hv
    · cases hu
    · exact mix r1 l2 hx hy hxy hu hv
  · exact r12 u hu v hv
end Go.M
namespace Go.M
/-- behind the search and the turn: the two halves, each merged by itself, are the whole merged -/
theorem Swo.merged {r : Int → Int → Prop} (hs : Swo r) {L1 L2 R1 R2 M1 M2 : List Int} (hL : (L1 ++ L2).Pairwise (Lex r)) (hR : (R1 ++ R2).Pairwise (Lex r))
    (h1 : L1 = [] ∨ R2 = [] ∨ ∃ x y, L1.getLast? = some x ∧ R2.head? = some y ∧ Lex r x y)
    (h2 : L2 = [] ∨ R1 = [] ∨ ∃ x y, R1.getLast? = some x ∧ L2.head? = some y ∧ Lex r x y)
    (p1 : M1.Perm (L1 ++ R1)) (s1 : M1.Pairwise (Lex r)) (p2 : M2.Perm (L2 ++ R2)) (s2 : M2.Pairwise (Lex r)) :
    (M1 ++ M2).Perm ((L1 ++ L2) ++ (R1 ++ R2)) ∧ (M1 ++ M2).Pairwise (Lex r) := by
  constructor
  · refine (p1.append p2).trans ?_
    simp only [List.append_assoc]
    refine List.Perm.append_left L1 ?_
    rw [← List.append_assoc R1, ← List.append_assoc L2]
    exact List.Perm.append_right R2 List.perm_append_comm
  · rw [List.pairwise_append]
    refine ⟨s1, s2, fun x hx y hy => ?_⟩
    exact hs.halves hL hR h1 h2 x (p1.subset hx) y (p2.subset hy)
theorem get_append_right' {α : Type} {A B : List α} {k j : Nat} (h : A.length + j = k) : (A ++ B)[k]? = B[j]? := by
  rw [List.getElem?_append_right (by omega)]
  congr 1
  omega
theorem get_append_left' {α : Type} {A B : List α} {k : Nat} (h : k < A.length) : (A ++ B)[k]? = A[k]? := List.getElem?_append_left h
theorem set_at {α : Type} {A B : List α} {k : Nat} {x y : α} (h : A.length = k) : (A ++ x :: B).set k y = A ++ y :: B := by
  subst h
  simp
theorem get_at {α : Type} {A B : List α} {k : Nat} {x : α} (h : A.length = k) : (A ++ x :: B)[k]? = some x := by
  subst h
  simp
/-- the exchange of two places -/
theorem swap_at {α : Type} {X Y Z : List α} {x y : α} {i j : Nat} (hi : X.length = i) (hj : X.length + 1 + Y.length = j) :
    ((X ++ x :: (Y ++ y :: Z)).set i y).set j x = X ++ y :: (Y ++ x :: Z) := by
  rw [set_at hi]
  have : X ++ y :: (Y ++ y :: Z) = (X ++ y :: Y) ++ y :: Z := by simp
  rw [this, set_at (by simp; omega)]
  simp
theorem get_at2 {α : Type} {X Y Z : List α} {x y : α} {j : Nat} (hj : X.length + 1 + Y.length = j) : (X ++ x :: (Y ++ y :: Z))[j]? = some y := by
  have : X ++ x :: (Y ++ y :: Z) = (X ++ x :: Y) ++ y :: Z := by simp
  rw [this, get_at (by simp; omega)]
theorem drop_next {α : Type} {A : List α} {k : Nat} {x : α} (h : A[k]? = some x) : A.drop k = x :: A.drop (k + 1) := by
  obtain ⟨hlt, rfl⟩ := List.getElem?_eq_some_iff.1 h
  exact List.drop_eq_getElem_cons hlt
theorem take_next {α : Type} {A : List α} {k : Nat} {x : α} (h : A[k]? = some x) : A.take (k + 1) = A.take k ++ [x] := by
  rw [List.take_add_one, h]; rfl
/-- a list that is rising -/
abbrev Rise (xs : List Int) : Prop := xs.Pairwise (· < ·)
/-- inserted from the right -/
theorem Swo.inserted {r : Int → Int → Prop} (hs : Swo r) {S1 S2 : List Int} {x : Int} (h : (S1 ++ S2).Pairwise (Lex r)) (h2 : ∀ y ∈ S2, Lex r x y) (h1 : S1 = [] ∨ ∃ z, S1.getLast? = some z ∧ Lex r z x) :
    (S1 ++ x :: S2).Pairwise (Lex r) := by
  rw [List.pairwise_append] at h ⊢
  obtain ⟨a, b, c⟩ := h
  refine ⟨a, List.pairwise_cons.2 ⟨h2, b⟩, fun y hy z hz => ?_⟩
  have key : Lex r y x := by
    rcases h1 with rfl | ⟨u, hu, hux⟩
    · cases hy
    · obtain ⟨B, rfl⟩ : ∃ B, S1 = B ++ [u] := List.getLast?_eq_some_iff.1 hu
      rw [List.pairwise_append] at a
      rcases List.mem_append.1 hy with hy | hy
      · exact hs.lexTr (a.2.2 y hy u (by simp)) hux
      · have : y = u := by simpa using hy
        subst this
        exact hux
  rcases List.mem_cons.1 hz with rfl | hz
  · exact key
  · exact c y hy z hz
end Go.M
namespace Go.M
open Classical in
noncomputable def insL (r : Int → Int → Prop) (x : Int) : List Int → List Int
  | [] => [x]
  | y :: ys => if Lex r x y then x :: y :: ys else y :: insL r x ys
noncomputable def sortL (r : Int → Int → Prop) : List Int → List Int
  | [] => []
  | x :: xs => insL r x (sortL r xs)
theorem insL_perm (r : Int → Int → Prop) (x : Int) : ∀ ys : List Int, (insL r x ys).Perm (x :: ys)
  | [] => List.Perm.refl _
  | y :: ys => by
    unfold insL
    split
    · exact List.Perm.refl _
    · exact ((insL_perm r x ys).cons y).trans (List.Perm.swap x y ys)
theorem sortL_perm (r : Int → Int → Prop) : ∀ xs : List Int, (sortL r xs).Perm xs
  | [] => List.Perm.refl _
  | x :: xs => (insL_perm r x _).trans ((sortL_perm r xs).cons x)
theorem Swo.insL {r : Int → Int → Prop} (hs : Swo r) {x : Int} : ∀ {ys : List Int}, ys.Pairwise (Lex r) → x ∉ ys → (insL r x ys).Pairwise (Lex r)
  | [], _, _ => by simp [Go.M.insL]
  | y :: ys, h, hn => by
    unfold Go.M.insL
    have h' := List.pairwise_cons.1 h
    split
    · rename_i hl
      refine List.pairwise_cons.2 ⟨fun z hz => ?_, h⟩
      rcases List.mem_cons.1 hz with rfl | hz
      · exact hl
      · exact hs.lexTr hl (h'.1 z hz)
    · rename_i hl
      have hyx : Lex r y x := (hs.lexTot (fun e => hn (by rw [e]; simp))).resolve_left hl
      refine List.pairwise_cons.2 ⟨fun z hz => ?_, hs.insL h'.2 (fun hh => hn (by simp [hh]))⟩
      rcases List.mem_cons.1 ((insL_perm r x ys).subset hz) with rfl | hz
      · exact hyx
      · exact h'.1 z hz
theorem Swo.sortL {r : Int → Int → Prop} (hs : Swo r) : ∀ {xs : List Int}, xs.Nodup → (sortL r xs).Pairwise (Lex r)
  | [], _ => List.Pairwise.nil
  | x :: xs, h => by
    rw [List.nodup_cons] at h
    exact hs.insL (hs.sortL h.2) (fun hh => h.1 ((sortL_perm r xs).subset hh))
/-- the order is told by being sorted -/
theorem Swo.is {r : Int → Int → Prop} (hs : Swo r) {xs ys : List Int} (hn : xs.Nodup) (hp : ys.Perm xs) (h : ys.Pairwise (Lex r)) : ys = Go.M.sortL r xs :=
  hs.unique (hp.trans (sortL_perm r xs).symm) h (hs.sortL hn)

/-- 0, 1, .. n - 1 -/
def upto (n : Nat) : List Int := (List.range n).map fun (i : Nat) => (i : Int)
theorem upto_length (n : Nat) : (upto n).length = n := by simp [upto]
theorem upto_get {n k : Nat} (h : k < n) : (upto n)[k]? = some (k : Int) := by simp [upto, h]
theorem upto_succ (n : Nat) : upto (n + 1) = upto n ++ [(n : Int)] := by simp [upto, List.range_succ]
theorem upto_mem {n : Nat} {i : Int} : i ∈ upto n ↔ ∃ k : Nat, k < n ∧ i = k := by
  simp only [upto, List.mem_map, List.mem_range]
  constructor
  · rintro ⟨k, h, rfl⟩; exact ⟨k, h, rfl⟩
  · rintro ⟨k, h, rfl⟩; exact ⟨k, h, rfl⟩
theorem upto_rise (n : Nat) : Rise (upto n) := by
  induction n with
  | zero => exact List.Pairwise.nil
  | succ n ih =>
    rw [upto_succ]
    refine List.pairwise_append.2 ⟨ih, List.pairwise_singleton _ _, fun x hx y hy => ?_⟩
    obtain ⟨k, hk, rfl⟩ := upto_mem.1 hx
    rw [List.mem_singleton.1 hy]
    omega
theorem upto_nodup (n : Nat) : (upto n).Nodup := (upto_rise n).imp (fun h => by omega)

/-- one added at a place -/
def inc1 (o : List Int) (i : Int) : List Int := o.set i.toNat (o.getD i.toNat 0 + 1)
def bestF (rest : List Int) : Nat → Nat
  | 0 => 0
  | k + 1 => if rest.getD (k + 1) 0 > rest.getD (bestF rest k) 0 then k + 1 else bestF rest k
/-- the first of the greatest among the first k + 1 -/
theorem bestF_spec (rest : List Int) : ∀ k, bestF rest k ≤ k ∧ ∀ j, j ≤ k → j ≠ bestF rest k → rest.getD j 0 < rest.getD (bestF rest k) 0 ∨ (rest.getD j 0 = rest.getD (bestF rest k) 0 ∧ bestF rest k < j)
  | 0 => ⟨Nat.le_refl _, fun j hj hne => absurd (by simp [bestF]; omega) hne⟩
  | k + 1 => by
    obtain ⟨h1, h2⟩ := bestF_spec rest k
    unfold bestF
    split
    · rename_i hg
      refine ⟨Nat.le_refl _, fun j hj hne => ?_⟩
      by_cases e : j = bestF rest k
      · subst e; left; omega
      · rcases h2 j (by omega) e with h | h
        · left; omega
        · left; omega
    · rename_i hg
      refine ⟨by omega, fun j hj hne => ?_⟩
      by_cases e : j = k + 1
      · subst e
        have : bestF rest k < k + 1 := by omega
        by_cases he : rest.getD (k + 1) 0 = rest.getD (bestF rest k) 0
        · right; exact ⟨he, this⟩
        · left; omega
      · exact h2 j (by omega) hne
theorem bestF_is {rest : List Int} {k b : Nat} (hb : b ≤ k) (h : ∀ j, j ≤ k → j ≠ b → rest.getD j 0 < rest.getD b 0 ∨ (rest.getD j 0 = rest.getD b 0 ∧ b < j)) : bestF rest k = b := by
  obtain ⟨h1, h2⟩ := bestF_spec rest k
  apply Classical.byContradiction
  intro hne
  have a := h (bestF rest k) h1 hne
  have c := h2 b hb (Ne.symm hne)
  omega
def selF (n : Nat) : Nat → List Int × List Int → List Int × List Int
  | 0, x => x
  | k + 1, x => selF n k (inc1 x.1 (bestF x.2 (n - 1) : Nat), x.2.set (bestF x.2 (n - 1)) (-1))
/-- greater ones first -/
def moreR (rest : List Int) (i j : Int) : Prop := rest.getD j.toNat 0 < rest.getD i.toNat 0
theorem moreR_swo (rest : List Int) : Swo (moreR rest) := ⟨fun i h => by unfold moreR at h; omega, fun i j k h1 h2 => by unfold moreR at *; omega, fun i j k h1 h2 => by unfold moreR at *; omega⟩
/-- those that are chosen one by one are the first of the sorted ones -/
theorem selF_eq {rem : List Int} {n : Nat} (hn : rem.length = n) (h0 : ∀ x ∈ rem, 0 ≤ x) : ∀ (k m : Nat) (out rest : List Int), m + k ≤ n → rest.length = n →
    (∀ i : Nat, i < n → rest.getD i 0 = if (i : Int) ∈ (sortL (moreR rem) (upto n)).take m then -1 else rem.getD i 0) →
    (selF n k (out, rest)).1 = (((sortL (moreR rem) (upto n)).drop m).take k).foldl inc1 out
  | 0, m, out, rest, _, _, _ => by simp [selF]
  | k + 1, m, out, rest, hm, hl, hr => by
    have hs := moreR_swo rem
    have hp := sortL_perm (moreR rem) (upto n)
    have hsorted := hs.sortL (upto_nodup n)
    have hlen : (sortL (moreR rem) (upto n)).length = n := by rw [hp.length_eq, upto_length]
    generalize hys : sortL (moreR rem) (upto n) = ys at *
    have hmn : m < ys.length := by omega
    obtain ⟨y, hy⟩ : ∃ y, ys[m]? = some y := ⟨_, List.getElem?_eq_getElem hmn⟩
    obtain ⟨b, hb, rfl⟩ := upto_mem.1 (hp.subset (List.mem_of_getElem? hy))
    have hsplit : ys = ys.take m ++ (b : Int) :: ys.drop (m + 1) := by
      have := drop_next hy
      rw [← this, List.take_append_drop]
    have hnd : ys.Nodup := hsorted.imp (fun {a c} h e => by subst e; exact hs.lexIrr _ h)
    rw [hsplit] at hsorted
    rw [hsplit] at hnd
    obtain ⟨_, s2, s12⟩ := List.pairwise_append.1 hsorted
    obtain ⟨s3, _⟩ := List.pairwise_cons.1 s2
    have hbn : (b : Int) ∉ ys.take m := by
      intro hh
      rw [List.nodup_append] at hnd
      exact hnd.2.2 _ hh _ (by simp) rfl
    have hrb : rest.getD b 0 = rem.getD b 0 := by rw [hr b hb, if_neg hbn]
    have hrem0 : ∀ i : Nat, i < n → 0 ≤ rem.getD i 0 := fun i hi => by
      have hi' : i < rem.length := by omega
      rw [List.getD_eq_getElem?_getD, List.getElem?_eq_getElem hi']
      exact h0 _ (List.getElem_mem hi')
    have hbest : bestF rest (n - 1) = b := by
      refine bestF_is (by omega) fun j hj hne => ?_
      have hjn : j < n := by omega
      rw [hrb, hr j hjn]
      split
      · left
        have := hrem0 b hb
        omega
      · rename_i hjt
        have hjm : (j : Int) ∈ ys := hp.symm.subset (upto_mem.2 ⟨j, hjn, rfl⟩)
        rw [hsplit] at hjm
        rcases List.mem_append.1 hjm with h | h
        · exact absurd h hjt
        · rcases List.mem_cons.1 h with h | h
          · exact absurd (by omega) hne
          · rcases s3 _ h with h' | ⟨h', h''⟩
            · left; simpa [moreR] using h'
            · have : ¬ rem.getD b 0 < rem.getD j 0 := by simpa [moreR] using h'
              by_cases e : rem.getD j 0 = rem.getD b 0
              · right; exact ⟨e, by omega⟩
              · left; omega
    have ht : ys.take (m + 1) = ys.take m ++ [(b : Int)] := take_next hy
    have ih := selF_eq hn h0 k (m + 1) (inc1 out (b : Int)) (rest.set b (-1)) (by omega) (by simpa using hl) (fun i hi => by
      rw [hys, ht, List.getD_eq_getElem?_getD, List.getElem?_set]
      by_cases e : b = i
      · subst e
        rw [if_pos rfl, if_pos (by omega), if_pos (by simp)]
        rfl
      · rw [if_neg e, ← List.getD_eq_getElem?_getD, hr i hi]
        have : ((i : Int) ∈ ys.take m ++ [(b : Int)]) ↔ (i : Int) ∈ ys.take m := by
          rw [List.mem_append, List.mem_singleton]
          constructor
          · rintro (h | h)
            · exact h
            · omega
          · exact .inl
        simp only [this])
    rw [hys] at ih
    rw [drop_next hy]
    unfold selF
    simp only [hbest]
    rw [ih]
    rfl
end Go.M
