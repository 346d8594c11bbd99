/- Contracts of functions of the given program, of the reference and of the laws: each says what a call returns, for all arguments that meet the premises that the theorem itself names. -/
import Derived.Test.YtkjmbjedbmblmaaGreatDoorLend
import Derived.Test.YtkjmbjedbmblmaaGreatDoorKept
import Derived.Lib.Bytealg
namespace Go.M
open Go Go.Vc
/-- greater, as the program asks it -/
def gtB (a b : ByteArray) : Bool := !Op.bytesLess a.toList b.toList && !decide (a = b)
/-- how many of the first boxes stay ahead of a name -/
def aheadOf (xs : List TBox) (s : ByteArray) : Nat → Nat
  | 0 => 0
  | k + 1 => match xs[k]? with
    | some y => if gtB y.name s = true then aheadOf xs s k else k + 1
    | none => k + 1
def storeCode (xs : List TBox) (x : TBox) : Int := if boxesB xs = false then 1 else if boxB x = false then 2 else if ¬ x.lent = { data := #[] } then 2 else if 0 ≤ boxIx xs x.name then 4 else if xs.length = 40 then 5 else 0
def storeM (xs : List TBox) (x : TBox) : List TBox × Int := if storeCode xs x = 0 then (xs.take (aheadOf xs x.name xs.length) ++ [x] ++ xs.drop (aheadOf xs x.name xs.length), 0) else ([], storeCode xs x)
theorem aheadOf_le (xs : List TBox) (s : ByteArray) : ∀ k, aheadOf xs s k ≤ k
  | 0 => Nat.le_refl _
  | k + 1 => by
    have := aheadOf_le xs s k
    unfold aheadOf
    split
    · split <;> omega
    · omega
theorem aheadOf_yes {xs : List TBox} {s : ByteArray} {k : Nat} {y : TBox} (hy : xs[k]? = some y) (h : gtB y.name s = true) : aheadOf xs s (k + 1) = aheadOf xs s k := by
  rw [aheadOf, hy]
  simp [h]
theorem aheadOf_no {xs : List TBox} {s : ByteArray} {k : Nat} {y : TBox} (hy : xs[k]? = some y) (h : gtB y.name s = false) : aheadOf xs s (k + 1) = k + 1 := by
  rw [aheadOf, hy]
  simp [h]
/-! the sorted list is the one with x put to its place -/
theorem cmpB_lt : ∀ a b : List UInt8, decide (Lib.compareBytes a b < 0) = Op.bytesLess a b
  | [], [] => rfl
  | [], _ :: _ => rfl
  | _ :: _, [] => rfl
  | a :: x, b :: y => by
    have ih := cmpB_lt x y
    unfold Lib.compareBytes
    simp only [Op.bytesLess]
    by_cases h1 : a < b
    · simp [h1]
    · by_cases h2 : b < a
      · have hne : ¬ a = b := fun e => by subst e; exact h1 h2
        simp [h1, h2, hne]
      · have he : a = b := by
          apply Classical.byContradiction
          intro hne
          rcases UInt8.lt_or_lt_of_ne hne with h | h
          · exact h1 h
          · exact h2 h
        subst he
        simp [h1, ← ih]
theorem gtB_true {a b : ByteArray} (h : gtB a b = true) : Op.bytesLess b.toList a.toList = true := by
  simp only [gtB, Bool.and_eq_true, Bool.not_eq_true', decide_eq_false_iff_not] at h
  cases h2 : Op.bytesLess b.toList a.toList with
  | true => rfl
  | false =>
    have := bl_total _ _ h.1 h2
    exact absurd (of_decide_eq_true ((beqList_iff a b).symm.trans (by simpa using this))) h.2
theorem gtB_false {a b : ByteArray} (h : gtB a b = false) (hne : ¬ a = b) : Op.bytesLess a.toList b.toList = true := by
  simp only [gtB, Bool.and_eq_false_iff, Bool.not_eq_false', decide_eq_true_eq] at h
  exact h.resolve_right hne
theorem aheadOf_spec (xs : List TBox) (s : ByteArray) : ∀ n, n ≤ xs.length → (∀ i y, aheadOf xs s n ≤ i → i < n → xs[i]? = some y → gtB y.name s = true) ∧ (0 < aheadOf xs s n → ∃ y, xs[aheadOf xs s n - 1]? = some y ∧ gtB y.name s = false)
  | 0, _ => ⟨fun i y _ h => by omega, fun h => by simp [aheadOf] at h⟩
  | n + 1, hn => by
    obtain ⟨y, hy⟩ := get_of_lt (l := xs) (k := n) (by omega)
    obtain ⟨h1, h2⟩ := aheadOf_spec xs s n (by omega)
    cases hg : gtB y.name s with
    | true =>
      rw [aheadOf_yes hy hg]
      refine ⟨fun i z hi hin hz => ?_, h2⟩
      by_cases e : i = n
      · subst e
        rw [hy] at hz
        cases hz
        exact hg
      · exact h1 i z hi (by omega) hz
    | false =>
      rw [aheadOf_no hy hg]
      exact ⟨fun i z hi hin _ => by omega, fun _ => ⟨y, by simpa using hy, hg⟩⟩
theorem boxIx_none {xs : List TBox} {s : ByteArray} (h : ¬ 0 ≤ boxIx xs s) : ∀ y ∈ xs, ¬ y.name = s := by
  intro y hy e
  apply h
  unfold boxIx idxI
  cases hf : xs.findIdx? (fun z => decide (z.name = s)) with
  | some i => simp
  | none =>
    rw [List.findIdx?_eq_none_iff] at hf
    have := hf y hy
    simp [e] at this
theorem put_sorted {xs : List TBox} {x : TBox} (hb : boxesB xs = true) (hno : ¬ 0 ≤ boxIx xs x.name) : (xs.take (aheadOf xs x.name xs.length) ++ [x] ++ xs.drop (aheadOf xs x.name xs.length)).Pairwise nameLt := by
  obtain ⟨_, _, hp⟩ := boxesB_iff.1 hb
  have hne := boxIx_none hno
  obtain ⟨h1, h2⟩ := aheadOf_spec xs x.name xs.length (Nat.le_refl _)
  have hk := aheadOf_le xs x.name xs.length
  generalize aheadOf xs x.name xs.length = k at *
  have hlo : ∀ y ∈ xs.take k, nameLt y x := by
    intro y hy
    obtain ⟨i, hi⟩ := List.mem_iff_getElem?.1 hy
    have hik : i < k := by have := (List.getElem?_eq_some_iff.1 hi).1; simp at this; omega
    have hiy : xs[i]? = some y := by rw [List.getElem?_take] at hi; simpa [hik] using hi
    obtain ⟨z, hz, hzg⟩ := h2 (by omega)
    have hzx : nameLt z x := gtB_false hzg (hne z (List.mem_of_getElem? hz))
    by_cases e : i = k - 1
    · subst e
      rw [hz] at hiy
      cases hiy
      exact hzx
    · rw [List.pairwise_iff_getElem] at hp
      have hi' := (List.getElem?_eq_some_iff.1 hiy)
      have hz' := (List.getElem?_eq_some_iff.1 hz)
      have := hp i (k - 1) hi'.1 hz'.1 (by omega)
      rw [hi'.2, hz'.2] at this
      exact nameLt_trans this hzx
  have hhi : ∀ y ∈ xs.drop k, nameLt x y := by
    intro y hy
    obtain ⟨i, hi⟩ := List.mem_iff_getElem?.1 hy
    rw [List.getElem?_drop] at hi
    exact gtB_true (h1 (k + i) y (by omega) (List.getElem?_eq_some_iff.1 hi).1 hi)
  rw [List.append_assoc, List.pairwise_append]
  refine ⟨hp.sublist (List.take_sublist k xs), ?_, ?_⟩
  · rw [List.singleton_append, List.pairwise_cons]
    exact ⟨hhi, hp.sublist (List.drop_sublist k xs)⟩
  · intro a ha b hb'
    rcases List.mem_append.1 hb' with h | h
    · rw [List.mem_singleton.1 h]; exact hlo a ha
    · exact nameLt_trans (hlo a ha) (hhi b h)
theorem nameLt_irrefl (a : TBox) : ¬ nameLt a a := fun h => by unfold nameLt at h; rw [bl_irrefl] at h; cases h
theorem store_unique {xs d : List TBox} {x : TBox} (hb : boxesB xs = true) (hno : ¬ 0 ≤ boxIx xs x.name) (hp : d.Perm (xs ++ [x])) (hs : d.Pairwise fun a b => Op.bytesLess b.name.toList a.name.toList = false) :
    d = xs.take (aheadOf xs x.name xs.length) ++ [x] ++ xs.drop (aheadOf xs x.name xs.length) := by
  have hq := put_sorted hb hno
  have hperm : (xs.take (aheadOf xs x.name xs.length) ++ [x] ++ xs.drop (aheadOf xs x.name xs.length)).Perm (xs ++ [x]) := by
    generalize aheadOf xs x.name xs.length = k
    have h1 : (xs.take k ++ [x] ++ xs.drop k).Perm (xs.take k ++ xs.drop k ++ [x]) := by
      rw [List.append_assoc, List.append_assoc]
      exact List.Perm.append_left _ List.perm_append_comm
    rw [List.take_append_drop] at h1
    exact h1
  generalize hL : xs.take (aheadOf xs x.name xs.length) ++ [x] ++ xs.drop (aheadOf xs x.name xs.length) = L at *
  have hpd := hp.trans hperm.symm
  -- in L two boxes of one name are one
  have hinj : ∀ a ∈ L, ∀ b ∈ L, a.name = b.name → a = b := by
    intro a ha b hb' e
    obtain ⟨i, hi⟩ := List.mem_iff_getElem?.1 ha
    obtain ⟨j, hj⟩ := List.mem_iff_getElem?.1 hb'
    have hi' := List.getElem?_eq_some_iff.1 hi
    have hj' := List.getElem?_eq_some_iff.1 hj
    rw [List.pairwise_iff_getElem] at hq
    rcases Nat.lt_trichotomy i j with h | h | h
    · have := hq i j hi'.1 hj'.1 h
      rw [hi'.2, hj'.2] at this
      unfold nameLt at this
      rw [e, bl_irrefl] at this
      cases this
    · subst h
      rw [hi] at hj
      exact Option.some.inj hj
    · have := hq j i hj'.1 hi'.1 h
      rw [hi'.2, hj'.2] at this
      unfold nameLt at this
      rw [e, bl_irrefl] at this
      cases this
  refine List.Perm.eq_of_pairwise (le := fun a b : TBox => Op.bytesLess b.name.toList a.name.toList = false) ?_ hs (hq.imp fun h => bl_asymm h) hpd
  intro a b ha hb' h1 h2
  refine hinj a (hpd.subset ha) b hb' ?_
  have := bl_total _ _ h2 h1
  exact of_decide_eq_true ((beqList_iff a.name b.name).symm.trans (by simpa using this))
theorem storeM_len (xs : List TBox) (x : TBox) : (storeM xs x).1.length ≤ xs.length + 1 := by
  unfold storeM
  split
  · simp; omega
  · simp
end Go.M
