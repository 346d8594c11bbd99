/- Contracts of functions of the given program, of the reference and of the laws: each says what a call returns, for all arguments that meet the premises that the theorem itself names. -/
import Derived.Test.YtkjmbjedbmblmaaGreatDoorStoreM
import Derived.Test.YtkjmbjedbmblmaaGreatDoorReadM
/- Archives: the plain law. -/
namespace Go.M
open Go Go.Vc
theorem boxesB_ok2 {xs : List TBox} : boxesB xs = true ↔ (∀ i, i < xs.length → boxAt xs i = true) ∧ xs.length ≤ 40 := by
  simp only [boxesB, Bool.and_eq_true, List.all_eq_true, List.mem_range, decide_eq_true_eq]
theorem set_get2 {α : Type} {a : List α} {k : Nat} {x x' : α} (hx : a[k]? = some x) (i : Nat) : (a.set k x')[i]? = if i = k then some x' else a[i]? := by
  have hl := (List.getElem?_eq_some_iff.1 hx).1
  rw [List.getElem?_set]
  by_cases e : k = i
  · rw [if_pos e, if_pos e.symm, if_pos (by omega)]
  · rw [if_neg e, if_neg (fun h => e h.symm)]
theorem boxesB_set {a : List TBox} {k : Nat} {x x' : TBox} (h : boxesB a = true) (hx : a[k]? = some x) (hn : x'.name = x.name) (hb : boxB x' = true) : boxesB (a.set k x') = true := by
  rw [boxesB_ok2] at h ⊢
  rw [List.length_set]
  refine ⟨fun i hi => ?_, h.2⟩
  have h1 := h.1 i hi
  obtain ⟨y, hy⟩ := get_of_lt hi
  unfold boxAt at h1 ⊢
  rw [hy] at h1
  simp only [Bool.and_eq_true] at h1
  obtain ⟨y', hy', hyb, hyn⟩ : ∃ y', (a.set k x')[i]? = some y' ∧ boxB y' = true ∧ y'.name = y.name := by
    rw [set_get2 hx]
    by_cases e : i = k
    · subst e
      rw [hx] at hy
      cases hy
      exact ⟨x', if_pos rfl, hb, hn⟩
    · exact ⟨y, by rw [if_neg e]; exact hy, h1.1, rfl⟩
  rw [hy']
  simp only [hyb, Bool.true_and]
  cases i with
  | zero => rfl
  | succ j =>
    have h2 := h1.2
    obtain ⟨z, hz⟩ := get_of_lt (l := a) (k := j) (by omega)
    simp only [hz] at h2
    obtain ⟨z', hz', hzn⟩ : ∃ z', (a.set k x')[j]? = some z' ∧ z'.name = z.name := by
      rw [set_get2 hx]
      by_cases e : j = k
      · subst e
        rw [hx] at hz
        cases hz
        exact ⟨x', if_pos rfl, hn⟩
      · exact ⟨z, by rw [if_neg e]; exact hz, rfl⟩
    simp only [hz', hzn, hyn]
    exact h2
theorem boxesB_at {xs : List TBox} (h : boxesB xs = true) {i : Nat} {x : TBox} (hx : xs[i]? = some x) : boxB x = true := by
  rw [boxesB_ok2] at h
  have := h.1 i (List.getElem?_eq_some_iff.1 hx).1
  unfold boxAt at this
  rw [hx] at this
  simp only [Bool.and_eq_true] at this
  exact this.1
theorem boxIx_spec {a : List TBox} {s : ByteArray} {k : Nat} (h : boxIx a s = k) : (∃ x, a[k]? = some x ∧ x.name = s) ∧ ∀ j y, j < k → a[j]? = some y → ¬ y.name = s := by
  unfold boxIx idxI at h
  split at h
  · rename_i i hi
    rw [List.findIdx?_eq_some_iff_getElem] at hi
    obtain ⟨h1, h2, h3⟩ := hi
    obtain rfl : i = k := by omega
    refine ⟨⟨a[i], List.getElem?_eq_getElem h1, of_decide_eq_true h2⟩, fun j y hj hy => ?_⟩
    have := h3 j hj
    rw [(List.getElem?_eq_some_iff.1 hy).2] at this
    simpa using this
  · omega
theorem boxIx_is {a : List TBox} {s : ByteArray} {k : Nat} {x : TBox} (hx : a[k]? = some x) (hn : x.name = s) (h : ∀ j y, j < k → a[j]? = some y → ¬ y.name = s) : boxIx a s = k := by
  refine idxI_at (x := x) ?_ hx (decide_eq_true hn)
  rw [List.any_eq_false]
  intro y hy
  obtain ⟨j, hj⟩ := List.mem_iff_getElem?.1 hy
  rw [List.getElem?_take] at hj
  split at hj
  · rename_i hjk
    simpa using h j y hjk hj
  · cases hj
theorem countP_flip {p p' : Nat → Bool} {k : Nat} (h1 : p k = false) (h2 : p' k = true) (h3 : ∀ i, i ≠ k → p' i = p i) : ∀ n, (List.range n).countP p' = (List.range n).countP p + (if k < n then 1 else 0)
  | 0 => by simp
  | n + 1 => by
    have ih := countP_flip h1 h2 h3 n
    rw [List.range_succ, List.countP_append, List.countP_append, ih]
    by_cases e : n = k
    · subst e
      rw [if_neg (by omega), if_pos (by omega)]
      simp [h1, h2]
    · have hs := h3 n e
      by_cases hk : k < n
      · rw [if_pos hk, if_pos (by omega)]
        simp only [List.countP_singleton, hs]
        omega
      · rw [if_neg hk, if_neg (by omega)]
        simp only [List.countP_singleton, hs]
        omega
theorem whereM_length (p : Nat → Bool) (n : Nat) : (whereM p n).length = (List.range n).countP p := by
  rw [whereM, List.length_map, List.countP_eq_length_filter]
theorem nameB_ne {s : ByteArray} (h : nameB s = true) : ¬ s = { data := #[] } := fun e => by subst e; simp [nameB, nameL] at h
/-- what is lent leads back -/
theorem lend_back {a y : List TBox} {name who : ByteArray} (h : lendM a name who = (y, 0)) :
    returnM y name = (a, 0) ∧ (lentToM a who).2 = 0 ∧ (lentToM y who).2 = 0 ∧ (lentToM y who).1.length = (lentToM a who).1.length + 1 := by
  unfold lendM at h
  split at h
  · simp at h
  rename_i hb
  split at h
  · simp at h
  rename_i hix
  split at h
  · simp at h
  rename_i hq
  have hb : boxesB a = true := by simpa using hb
  have hq : nameB who = true := by simpa using hq
  obtain ⟨k, x, hk, hx⟩ := boxIx_get (xs := a) (s := name) (by omega)
  rw [hk, show ((k : Nat) : Int).toNat = k by omega, hx] at h
  simp only at h
  split at h
  · rename_i hl
    simp only [Prod.mk.injEq, and_true] at h
    have hxb := boxesB_at hb hx
    have hnb : boxB { x with lent := who } = true := by
      simp only [boxB, Bool.and_eq_true] at hxb ⊢
      exact ⟨hxb.1, by simp [hq]⟩
    have hyb : boxesB y = true := by rw [← h]; exact boxesB_set hb hx rfl hnb
    obtain ⟨⟨x2, hx2, hxn⟩, hbef⟩ := boxIx_spec hk
    rw [hx] at hx2
    cases hx2
    have hyk : y[k]? = some { x with lent := who } := by rw [← h, set_get2 hx, if_pos rfl]
    have hiy : boxIx y name = k := by
      refine boxIx_is hyk hxn fun j z hj hz => ?_
      rw [← h, set_get2 hx, if_neg (by omega)] at hz
      exact hbef j z hj hz
    have hne := nameB_ne hq
    have hlen : y.length = a.length := by rw [← h, List.length_set]
    have hkl := (List.getElem?_eq_some_iff.1 hx).1
    refine ⟨?_, ?_, ?_, ?_⟩
    · unfold returnM
      rw [if_neg (by simp [hyb]), if_neg (by omega), hiy, show ((k : Nat) : Int).toNat = k by omega, hyk]
      simp only
      rw [if_neg hne]
      have e : ({ name := x.name, cards := x.cards, year := x.year, keep := x.keep, lent := { data := #[] } } : TBox) = x := by
        rw [← hl]
      have e2 : y.set k { name := x.name, cards := x.cards, year := x.year, keep := x.keep, lent := { data := #[] } } = a := by
        rw [e]
        apply List.ext_getElem?
        intro i
        rw [set_get2 hyk]
        by_cases ei : i = k
        · rw [if_pos ei, ei, hx]
        · rw [if_neg ei, ← h, set_get2 hx, if_neg ei]
      rw [e2]
    · unfold lentToM
      rw [if_neg (by simp [hb]), if_neg (by simp [hq])]
    · unfold lentToM
      rw [if_neg (by simp [hyb]), if_neg (by simp [hq])]
    · unfold lentToM
      rw [if_neg (by simp [hyb]), if_neg (by simp [hq]), if_neg (by simp [hb]), if_neg (by simp [hq])]
      simp only
      rw [whereM_length, whereM_length, hlen]
      have h1 : lentAt a who k = false := by
        unfold lentAt
        rw [hx]
        simp only [decide_eq_false_iff_not]
        rw [hl]
        exact fun e => hne e.symm
      have h2 : lentAt y who k = true := by
        unfold lentAt
        rw [hyk]
        simp
      have h3 : ∀ i, i ≠ k → lentAt y who i = lentAt a who i := fun i hi => by
        unfold lentAt
        rw [← h, set_get2 hx, if_neg hi]
      rw [countP_flip h1 h2 h3 a.length, if_pos hkl]
  · simp at h
theorem boxesB_of {xs : List TBox} (h1 : ∀ x ∈ xs, boxB x = true) (h2 : xs.Pairwise nameLt) (h3 : xs.length ≤ 40) : boxesB xs = true := by
  rw [boxesB_ok2]
  refine ⟨fun i hi => ?_, h3⟩
  obtain ⟨y, hy⟩ := get_of_lt hi
  unfold boxAt
  rw [hy]
  simp only [h1 y (List.mem_of_getElem? hy), Bool.true_and]
  cases i with
  | zero => rfl
  | succ j =>
    obtain ⟨z, hz⟩ := get_of_lt (l := xs) (k := j) (by omega)
    simp only [hz]
    have := List.pairwise_iff_getElem.1 h2 j (j + 1) (by omega) hi (by omega)
    rw [(List.getElem?_eq_some_iff.1 hz).2, (List.getElem?_eq_some_iff.1 hy).2] at this
    exact this
theorem store_valid {xs ys : List TBox} {x : TBox} (h : storeM xs x = (ys, 0)) : ys.length = xs.length + 1 ∧ boxesB ys = true := by
  unfold storeM at h
  split at h
  · rename_i hc
    simp only [Prod.mk.injEq, and_true] at h
    unfold storeCode at hc
    split at hc
    · omega
    rename_i hb
    split at hc
    · omega
    rename_i hxb
    split at hc
    · omega
    split at hc
    · omega
    rename_i hix
    split at hc
    · omega
    rename_i h40
    have hb : boxesB xs = true := by simpa using hb
    have hxb : boxB x = true := by simpa using hxb
    have hle := aheadOf_le xs x.name xs.length
    have hl : ys.length = xs.length + 1 := by
      rw [← h, List.length_append, List.length_append, List.length_take, List.length_drop, List.length_singleton]
      omega
    refine ⟨hl, ?_⟩
    have h3 := (boxesB_ok2.1 hb).2
    have hs := put_sorted hb hix
    rw [h] at hs
    refine boxesB_of (fun z hz => ?_) hs (by omega)
    rw [← h] at hz
    rcases List.mem_append.1 hz with hz | hz
    · rcases List.mem_append.1 hz with hz | hz
      · obtain ⟨i, hi⟩ := List.mem_iff_getElem?.1 (List.mem_of_mem_take hz)
        exact boxesB_at hb hi
      · rw [List.mem_singleton.1 hz]; exact hxb
    · obtain ⟨i, hi⟩ := List.mem_iff_getElem?.1 (List.mem_of_mem_drop hz)
      exact boxesB_at hb hi
  · rename_i hc
    simp only [Prod.mk.injEq] at h
    exact absurd h.2 hc
theorem boxSm_ok {x : TBox} (h : boxSm x) : x.ok := ⟨by unfold strok; have := h.1; omega, h.2.2.1, h.2.2.2.1, h.2.2.2.2, by unfold strok; have := h.2.1; omega⟩
theorem boxesB_ok {xs : List TBox} (h : boxesB xs = true) : ∀ x ∈ xs, x.ok := by
  intro x hx
  obtain ⟨i, hi⟩ := List.mem_iff_getElem?.1 hx
  exact boxSm_ok (boxSm_of (boxesB_at h hi))
theorem storeM_ok {xs : List TBox} {x : TBox} (h : ∀ y ∈ xs, y.ok) (hx : x.ok) : ∀ y ∈ (storeM xs x).1, y.ok := by
  unfold storeM
  split
  · intro y hy
    simp only [List.mem_append, List.mem_singleton] at hy
    rcases hy with (hy | rfl) | hy
    · exact h y (List.mem_of_mem_take hy)
    · exact hx
    · exact h y (List.mem_of_mem_drop hy)
  · intro y hy; simp at hy
theorem set_ok {xs : List TBox} {x' : TBox} {k : Nat} (h : ∀ y ∈ xs, y.ok) (hx : x'.ok) : ∀ y ∈ xs.set k x', y.ok := by
  intro y hy
  rcases List.mem_or_eq_of_mem_set hy with hy | rfl
  · exact h y hy
  · exact hx
theorem lendM_ok {xs : List TBox} {s q : ByteArray} (h : ∀ y ∈ xs, y.ok) (hq : strok q) : ∀ y ∈ (lendM xs s q).1, y.ok := by
  unfold lendM
  split
  · intro y hy; simp at hy
  split
  · intro y hy; simp at hy
  split
  · intro y hy; simp at hy
  split
  · intro y hy; simp at hy
  · rename_i x hx
    have hxo := h x (List.mem_of_getElem? hx)
    split
    · exact set_ok h ⟨hxo.1, hxo.2.1, hxo.2.2.1, hxo.2.2.2.1, hq⟩
    · intro y hy; simp at hy
theorem returnM_ok {xs : List TBox} {s : ByteArray} (h : ∀ y ∈ xs, y.ok) : ∀ y ∈ (returnM xs s).1, y.ok := by
  unfold returnM
  split
  · intro y hy; simp at hy
  split
  · intro y hy; simp at hy
  split
  · intro y hy; simp at hy
  · rename_i x hx
    have hxo := h x (List.mem_of_getElem? hx)
    split
    · intro y hy; simp at hy
    · exact set_ok h ⟨hxo.1, hxo.2.1, hxo.2.2.1, hxo.2.2.2.1, by unfold strok; exact Nat.zero_le _⟩
theorem readBoxes_ok (s : ByteArray) : ∀ y ∈ (readBoxes s).getD [], y.ok := by
  cases h : readBoxes s with
  | none => intro y hy; simp at hy
  | some xs => exact boxesB_ok (readS_ok h)
theorem boxesText_ne {xs : List TBox} (h : ¬ boxesText xs = { data := #[] }) : readBoxes (boxesText xs) = some xs := by
  refine readBoxes_text ?_
  unfold boxesText at h
  split at h
  · assumption
  · exact absurd rfl h
theorem boxesText_size (xs : List TBox) : (boxesText xs).size ≤ 4000 := by
  unfold boxesText
  split
  · rename_i hb
    have h1 : ∀ x ∈ xs, (boxLine x).size ≤ 100 := fun x hx => by
      obtain ⟨i, hi⟩ := List.mem_iff_getElem?.1 hx
      exact boxLine_size (boxesB_at hb hi)
    have h2 := cats_len h1
    have h3 := (boxesB_ok2.1 hb).2
    have h4 : (bs (cats (xs.map boxLine))).size = (cats (xs.map boxLine)).length := by simp [bs, ByteArray.size]
    omega
  · exact Nat.zero_le _
theorem lend_back' {a : List TBox} {name who : ByteArray} (h : (lendM a name who).2 = 0) :
    (returnM (lendM a name who).1 name).1 = a ∧ (returnM (lendM a name who).1 name).2 = 0 ∧ (lentToM a who).2 = 0 ∧ (lentToM (lendM a name who).1 who).2 = 0 ∧ (lentToM (lendM a name who).1 who).1.length = (lentToM a who).1.length + 1 := by
  have := lend_back (a := a) (y := (lendM a name who).1) (name := name) (who := who) (by rw [← h])
  exact ⟨by rw [this.1], by rw [this.1], this.2.1, this.2.2.1, this.2.2.2⟩
theorem store_valid' {xs : List TBox} {x : TBox} (h : (storeM xs x).2 = 0) : (storeM xs x).1.length = xs.length + 1 ∧ boxesB (storeM xs x).1 = true :=
  store_valid (ys := (storeM xs x).1) (by rw [← h])
theorem boxesText_get {xs : List TBox} (h : ¬ boxesText xs = { data := #[] }) : (readBoxes (boxesText xs)).isSome = true ∧ (readBoxes (boxesText xs)).getD [] = xs := by
  rw [boxesText_ne h]; exact ⟨rfl, rfl⟩
end Go.M
