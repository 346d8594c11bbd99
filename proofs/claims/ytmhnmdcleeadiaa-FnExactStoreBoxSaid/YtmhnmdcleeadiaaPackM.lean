/- Contracts of functions of the given program, of the reference and of the laws: each says what a call returns, for all arguments that meet the premises that the theorem itself names. -/
import Derived.Test.YtmhnmdcleeadiaaStab
import Derived.Test.YtmhnmdcleeadiaaBoxes
/- Packing, first fit: plain lists. -/
namespace Go.M
open Go Go.Vc
theorem rest_first {r : Int → Int → Prop} (hs : Swo r) {n m b : Nat} {y : Int} (hy : (sortL r (upto n))[m]? = some y) (hb : b < n) (hbt : (b : Int) ∉ (sortL r (upto n)).take m)
    (h : ∀ j : Nat, j < n → (j : Int) ∉ (sortL r (upto n)).take m → j ≠ b → Lex r (b : Int) j) : y = b := by
  have hp := sortL_perm r (upto n)
  have hsorted := hs.sortL (upto_nodup n)
  generalize hys : sortL r (upto n) = ys at *
  obtain ⟨k, hk, rfl⟩ := upto_mem.1 (hp.subset (List.mem_of_getElem? hy))
  have hsplit : ys = ys.take m ++ (k : Int) :: ys.drop (m + 1) := by
    have := drop_next hy
    rw [← this, List.take_append_drop]
  have hnd : ys.Nodup := hsorted.imp (fun {a c} h e => by subst e; exact hs.lexIrr _ h)
  apply Classical.byContradiction
  intro hne
  have hkt : (k : Int) ∉ ys.take m := by
    intro hh
    rw [hsplit, List.nodup_append] at hnd
    exact hnd.2.2 _ hh _ (by simp) rfl
  have h1 := h k hk hkt (by omega)
  have hbm : (b : Int) ∈ ys := hp.symm.subset (upto_mem.2 ⟨b, hb, rfl⟩)
  rw [hsplit] at hbm hsorted
  obtain ⟨_, s2, _⟩ := List.pairwise_append.1 hsorted
  obtain ⟨s3, _⟩ := List.pairwise_cons.1 s2
  rcases List.mem_append.1 hbm with h2 | h2
  · exact hbt h2
  · rcases List.mem_cons.1 h2 with h2 | h2
    · exact hne h2.symm
    · exact hs.lexIrr _ (hs.lexTr (s3 _ h2) h1)
theorem sortL_len (r : Int → Int → Prop) (n : Nat) : (sortL r (upto n)).length = n := by rw [(sortL_perm r (upto n)).length_eq, upto_length]
theorem sortL_mem {r : Int → Int → Prop} {n m : Nat} {y : Int} (h : (sortL r (upto n))[m]? = some y) : ∃ k : Nat, k < n ∧ y = k := upto_mem.1 ((sortL_perm r _).subset (List.mem_of_getElem? h))
def cardsAt (xs : List TBox) (i : Int) : Int := (xs.getD i.toNat default).cards
def packR (xs : List TBox) (i j : Int) : Prop := cardsAt xs j < cardsAt xs i
theorem packR_swo (xs : List TBox) : Swo (packR xs) := ⟨fun i h => by unfold packR at h; omega, fun i j k h1 h2 => by unfold packR at *; omega, fun i j k h1 h2 => by unfold packR at *; omega⟩
noncomputable def packOrder (xs : List TBox) : List Int := sortL (packR xs) (upto xs.length)
/-- the first shelf with room for it; one behind the last if there is none -/
def fitAt (c : Int) : List Int → Nat
  | [] => 0
  | x :: l => if c ≤ x then 0 else fitAt c l + 1
theorem fitAt_le (c : Int) : ∀ l : List Int, fitAt c l ≤ l.length
  | [] => Nat.le_refl _
  | x :: l => by
    unfold fitAt
    split
    · simp
    · have := fitAt_le c l
      simp; omega
theorem fitAt_is {c : Int} : ∀ {l : List Int} {k : Nat}, k ≤ l.length → (∀ j x, j < k → l[j]? = some x → x < c) → (∀ x, l[k]? = some x → c ≤ x) → fitAt c l = k
  | [], k, hk, _, _ => by simp at hk; simp [fitAt, hk]
  | x :: l, 0, _, _, h2 => by
    have := h2 x (by simp)
    simp [fitAt, this]
  | x :: l, k + 1, hk, h1, h2 => by
    have h0 := h1 0 x (by omega) (by simp)
    unfold fitAt
    rw [if_neg (by omega), fitAt_is (by simpa using hk) (fun j y hj hy => h1 (j + 1) y (by omega) (by simpa using hy)) (fun y hy => h2 y (by simpa using hy))]
theorem fitAt_spec (c : Int) : ∀ l : List Int, (∀ j x, j < fitAt c l → l[j]? = some x → x < c) ∧ (∀ x, l[fitAt c l]? = some x → c ≤ x)
  | [] => ⟨fun j x h => by simp [fitAt] at h, fun x h => by simp at h⟩
  | x :: l => by
    unfold fitAt
    split
    · exact ⟨fun j y h => by omega, fun y h => by simp at h; omega⟩
    · obtain ⟨h1, h2⟩ := fitAt_spec c l
      refine ⟨fun j y h hy => ?_, fun y hy => h2 y (by simpa using hy)⟩
      cases j with
      | zero => simp at hy; omega
      | succ j => exact h1 j y (by omega) (by simpa using hy)
def shelfs (room c : Int) (left : List Int) : List Int := if fitAt c left = left.length then left ++ [room] else left
def packStep (xs : List TBox) (room : Int) (s : List Int × List Int) (i : Int) : List Int × List Int :=
  (s.1.set i.toNat (fitAt (cardsAt xs i) s.2 : Nat), (shelfs room (cardsAt xs i) s.2).set (fitAt (cardsAt xs i) s.2) ((shelfs room (cardsAt xs i) s.2).getD (fitAt (cardsAt xs i) s.2) 0 - cardsAt xs i))
noncomputable def packSt (xs : List TBox) (room : Int) (m : Nat) : List Int × List Int := ((packOrder xs).take m).foldl (packStep xs room) (List.replicate xs.length 0, [])
theorem packSt_zero (xs : List TBox) (room : Int) : packSt xs room 0 = (List.replicate xs.length 0, []) := rfl
theorem packSt_succ {xs : List TBox} {room : Int} {m : Nat} {i : Int} (h : (packOrder xs)[m]? = some i) : packSt xs room (m + 1) = packStep xs room (packSt xs room m) i := by
  unfold packSt
  rw [List.take_add_one, h]
  simp
theorem packSt_len (xs : List TBox) (room : Int) : ∀ m, (packSt xs room m).1.length = xs.length ∧ (packSt xs room m).2.length ≤ m
  | 0 => by simp [packSt_zero]
  | m + 1 => by
    obtain ⟨h1, h2⟩ := packSt_len xs room m
    cases h : (packOrder xs)[m]? with
    | none =>
      have : (packOrder xs).take (m + 1) = (packOrder xs).take m := by rw [List.take_add_one, h]; simp
      unfold packSt at *
      rw [this]
      exact ⟨h1, by omega⟩
    | some i =>
      rw [packSt_succ h]
      unfold packStep shelfs
      dsimp only
      refine ⟨by simp [h1], ?_⟩
      rw [List.length_set]
      split
      · simp; omega
      · omega
theorem shelfs_get (room c : Int) (left : List Int) : ∃ x, (shelfs room c left)[fitAt c left]? = some x := by
  have := fitAt_le c left
  apply get_of_lt
  unfold shelfs
  split
  · simp; omega
  · omega
/-- what a shelf has left -/
theorem packSt_room (xs : List TBox) (room : Int) (hx : ∀ x ∈ xs, 0 ≤ x.cards ∧ x.cards ≤ room) : ∀ m, ∀ y ∈ (packSt xs room m).2, 0 ≤ y ∧ y ≤ room
  | 0 => by simp [packSt_zero]
  | m + 1 => by
    have ih := packSt_room xs room hx m
    cases h : (packOrder xs)[m]? with
    | none =>
      have : (packOrder xs).take (m + 1) = (packOrder xs).take m := by rw [List.take_add_one, h]; simp
      unfold packSt at *
      rw [this]
      exact ih
    | some i =>
      rw [packSt_succ h]
      obtain ⟨k, hk, rfl⟩ := sortL_mem h
      have hc : 0 ≤ cardsAt xs (k : Int) ∧ cardsAt xs (k : Int) ≤ room := by
        unfold cardsAt
        rw [show ((k : Nat) : Int).toNat = k by omega, List.getD_eq_getElem?_getD, List.getElem?_eq_getElem hk]
        exact hx _ (List.getElem_mem hk)
      obtain ⟨c, hcc⟩ : ∃ c, cardsAt xs (k : Int) = c := ⟨_, rfl⟩
      rw [hcc] at hc
      have hsh : ∀ y ∈ shelfs room c (packSt xs room m).2, 0 ≤ y ∧ y ≤ room := by
        intro y hy
        unfold shelfs at hy
        split at hy
        · rcases List.mem_append.1 hy with hy | hy
          · exact ih y hy
          · simp at hy; omega
        · exact ih y hy
      obtain ⟨z, hz⟩ := shelfs_get room c (packSt xs room m).2
      have hz1 := hsh z (List.mem_of_getElem? hz)
      have hcz : c ≤ z := by
        have hsp := (fitAt_spec c (packSt xs room m).2).2
        unfold shelfs at hz
        split at hz
        · rename_i he
          rw [he, List.getElem?_concat_length] at hz
          simp at hz; omega
        · exact hsp z hz
      intro y hy
      unfold packStep at hy
      dsimp only at hy
      rw [hcc] at hy
      rcases List.mem_or_eq_of_mem_set hy with hy | hy
      · exact hsh y hy
      · rw [List.getD_eq_getElem?_getD, hz] at hy
        simp at hy
        omega
def BestP (xs : List TBox) (m k : Nat) (best : Int) : Prop :=
  (best = -1 ∧ ∀ j : Nat, j < k → (j : Int) ∈ (packOrder xs).take m) ∨
  (∃ b : Nat, best = b ∧ b < k ∧ (b : Int) ∉ (packOrder xs).take m ∧ ∀ j : Nat, j < k → (j : Int) ∉ (packOrder xs).take m → j ≠ b → Lex (packR xs) (b : Int) j)
theorem BestP.zero (xs : List TBox) (m : Nat) : BestP xs m 0 (-1) := .inl ⟨rfl, fun j h => by omega⟩
theorem BestP.ge {xs : List TBox} {m k : Nat} {best : Int} (h : BestP xs m k best) : -1 ≤ best ∧ best < k := by
  rcases h with ⟨h, _⟩ | ⟨b, h, hb, _⟩ <;> omega
theorem BestP.done {xs : List TBox} {m k : Nat} {best : Int} (h : BestP xs m k best) (hk : (k : Int) ∈ (packOrder xs).take m) : BestP xs m (k + 1) best := by
  rcases h with ⟨h, h2⟩ | ⟨b, h, hb, h1, h2⟩
  · refine .inl ⟨h, fun j hj => ?_⟩
    by_cases e : j = k
    · subst e; exact hk
    · exact h2 j (by omega)
  · refine .inr ⟨b, h, by omega, h1, fun j hj hn hne => ?_⟩
    by_cases e : j = k
    · subst e; exact absurd hk hn
    · exact h2 j (by omega) hn hne
theorem BestP.skip {xs : List TBox} {m k : Nat} {best : Int} (h : BestP xs m k best) (h0 : ¬ best < 0) (hc : ¬ cardsAt xs best < cardsAt xs (k : Int)) : BestP xs m (k + 1) best := by
  rcases h with ⟨h, h2⟩ | ⟨b, h, hb, h1, h2⟩
  · omega
  · subst h
    refine .inr ⟨b, rfl, by omega, h1, fun j hj hn hne => ?_⟩
    by_cases e : j = k
    · subst e
      exact .inr ⟨hc, by omega⟩
    · exact h2 j (by omega) hn hne
theorem BestP.new {xs : List TBox} {m k : Nat} {best : Int} (h : BestP xs m k best) (hk : (k : Int) ∉ (packOrder xs).take m) (hc : best < 0 ∨ cardsAt xs best < cardsAt xs (k : Int)) : BestP xs m (k + 1) (k : Int) := by
  rcases h with ⟨h, h2⟩ | ⟨b, h, hb, h1, h2⟩
  · refine .inr ⟨k, rfl, by omega, hk, fun j hj hn hne => ?_⟩
    exact absurd (h2 j (by omega)) hn
  · subst h
    have hc : cardsAt xs (b : Int) < cardsAt xs (k : Int) := hc.resolve_left (by omega)
    refine .inr ⟨k, rfl, by omega, hk, fun j hj hn hne => ?_⟩
    by_cases e : j = b
    · subst e
      exact .inl hc
    · exact (packR_swo xs).lexTr (j := (b : Int)) (.inl hc) (h2 j (by omega) hn e)
theorem BestP.fin {xs : List TBox} {m : Nat} {best y : Int} (h : BestP xs m xs.length best) (hy : (packOrder xs)[m]? = some y) : best = y := by
  rcases h with ⟨h, h2⟩ | ⟨b, h, hb, h1, h2⟩
  · exfalso
    obtain ⟨k, hk, rfl⟩ := sortL_mem hy
    have hsorted := (packR_swo xs).sortL (upto_nodup xs.length)
    have hnd : (packOrder xs).Nodup := hsorted.imp (fun {a c} h e => by subst e; exact (packR_swo xs).lexIrr _ h)
    have hsplit : packOrder xs = (packOrder xs).take m ++ (k : Int) :: (packOrder xs).drop (m + 1) := by
      have := drop_next hy
      rw [← this, List.take_append_drop]
    rw [hsplit, List.nodup_append] at hnd
    exact hnd.2.2 _ (h2 k hk) _ (by simp) rfl
  · rw [h]
    exact (rest_first (packR_swo xs) hy hb h1 h2).symm
noncomputable def packDone (xs : List TBox) (m : Nat) : List Bool := (List.range xs.length).map fun (i : Nat) => decide ((i : Int) ∈ (packOrder xs).take m)
theorem packDone_get {xs : List TBox} {m k : Nat} (h : k < xs.length) : (packDone xs m)[k]? = some (decide ((k : Int) ∈ (packOrder xs).take m)) := by simp [packDone, h]
theorem packDone_zero (xs : List TBox) : packDone xs 0 = List.replicate xs.length false := by
  unfold packDone
  apply List.ext_getElem?
  intro i
  by_cases h : i < xs.length
  · simp [h]
  · simp [h]
theorem packDone_succ {xs : List TBox} {m k : Nat} (h : (packOrder xs)[m]? = some (k : Int)) : packDone xs (m + 1) = (packDone xs m).set k true := by
  apply List.ext_getElem?
  intro i
  unfold packDone
  rw [take_next h]
  by_cases hi : i < xs.length
  · by_cases e : k = i
    · subst e
      rw [List.getElem?_set_self (by simpa using hi)]
      simp [hi]
    · rw [List.getElem?_set_ne e]
      have : ((i : Int) ∈ List.take m (packOrder xs) ++ [(k : Int)]) ↔ (i : Int) ∈ List.take m (packOrder xs) := by
        rw [List.mem_append, List.mem_singleton]
        constructor
        · rintro (h | h)
          · exact h
          · omega
        · exact .inl
      rw [List.getElem?_map, List.getElem?_map, List.getElem?_range hi]
      simp only [Option.map_some, this]
  · rw [List.getElem?_eq_none (by simpa using hi), List.getElem?_eq_none (by simpa using hi)]
end Go.M
