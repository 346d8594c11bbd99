/- Contracts of functions of the given program, of the reference and of the laws: each says what a call returns, for all arguments that meet the premises that the theorem itself names. -/
import Derived.Test.YtkjmbjedbmblmaaGreatDoorVcApp
import Derived.Shelf.GgSortFunc.InsertionK
namespace Go.Vc
open Go Go.RowKit Go.Sort Go.Proofs

theorem flat_at {α : Type} {enc : α → List Value} {sz : Nat} (he : ∀ x, (enc x).length = sz) {xs : List α} {i j : Nat} {x : α} (hx : xs[i]? = some x) (hj : j < sz) : (flat enc xs)[i * sz + j]? = (enc x)[j]? := by
  have h := flat_drop he xs i
  have h1 : (flat enc xs)[i * sz + j]? = ((flat enc xs).drop (i * sz))[j]? := by rw [List.getElem?_drop]
  rw [h1, h]
  have hd : xs.drop i = x :: xs.drop (i + 1) := by
    have := (List.getElem?_eq_some_iff.1 hx)
    rw [List.drop_eq_getElem_cons this.1, this.2]
  rw [hd]
  show ((enc x) ++ flat enc (xs.drop (i + 1)))[j]? = _
  rw [List.getElem?_append_left (by rw [he]; exact hj)]
theorem flatK_toList {α : Type} [Inhabited α] {enc : α → List Value} {k : Nat} (hk : ∀ x, (enc x).length = k) (hk0 : 0 < k) (xs : List α) : (flatK enc k xs.toArray).toList = flat enc xs := by
  apply List.ext_getElem?
  intro t
  by_cases ht : t < xs.length * k
  · have h1 : t / k < xs.length := by
      rw [Nat.div_lt_iff_lt_mul hk0]; exact ht
    obtain ⟨x, hx⟩ : ∃ x, xs[t / k]? = some x := ⟨_, List.getElem?_eq_getElem h1⟩
    have h2 := flat_at hk hx (Nat.mod_lt t hk0)
    rw [Nat.mul_comm, Nat.div_add_mod] at h2
    rw [h2]
    have h3 := get_flatK enc k xs.toArray t (by simpa using ht)
    have hsz : t < (flatK enc k xs.toArray).size := by simpa using ht
    rw [Array.getElem?_toList, Array.getElem?_eq_getElem hsz]
    rw [getElem!_pos _ t hsz] at h3
    rw [h3]
    have h4 : xs.toArray[t / k]! = x := by
      rw [getElem!_pos _ _ (by simpa using h1)]
      simpa using (List.getElem?_eq_some_iff.1 hx).2
    rw [h4]
    have h5 : t % k < (enc x).length := by rw [hk]; exact Nat.mod_lt t hk0
    rw [getElem!_pos (enc x) (t % k) h5, List.getElem?_eq_getElem h5]
  · rw [List.getElem?_eq_none (by simp; omega), List.getElem?_eq_none (by rw [flat_length hk]; omega)]
theorem Own.holdsK {α : Type} [Inhabited α] {enc : α → List Value} {k : Nat} (hk : ∀ x, (enc x).length = k) (hk0 : 0 < k) {w : World} {b n t : Nat} {xs : List α} (h : Own enc w (Option.some ⟨b, 0, Option.none⟩) n t xs) : HoldsK enc k w b 0 xs.toArray := by
  obtain ⟨_, _, h3⟩ := h
  rcases h3 with ⟨h, _⟩ | ⟨b', rest, hb', hB⟩
  · cases h
  · cases hb'
    intro j hj
    have hj' : j < xs.length * k := by simpa using hj
    refine ⟨?_, ?_⟩
    · have hF := flatK_toList hk hk0 xs
      have hv : (flat enc xs)[j]? = Option.some ((flatK enc k xs.toArray)[j]!) := by
        rw [← hF, Array.getElem?_toList, Array.getElem?_eq_getElem hj, getElem!_pos _ j hj]
      have := hB.cells j _ (by rw [List.getElem?_append_left (by rw [flat_length hk]; exact hj')]; exact hv)
      simpa using this
    · unfold Blk at hB
      unfold World.frozen?
      simp [hB]
theorem putCells_flat (F : Array Value) (cs rest : List Value) (h : cs.length = F.size) : putCells id 0 F (cs ++ rest).toArray = (F.toList ++ rest).toArray := by
  apply Array.ext_getElem?
  intro i
  unfold putCells
  rw [Array.getElem?_mapIdx]
  simp only [List.getElem?_toArray]
  by_cases hi : i < F.size
  · rw [List.getElem?_append_left (by omega), List.getElem?_append_left (by simpa using hi), Array.getElem?_toList]
    rw [show ({ toList := cs } : Array Value)[i]? = cs[i]? by simp, List.getElem?_eq_getElem (by omega : i < cs.length), Array.getElem?_toList, Array.getElem?_eq_getElem hi]
    simp only [Option.map_some, id]
    rw [if_pos (by omega)]
    simp [getElem!_pos, hi]
  · rw [List.getElem?_append_right (by omega), List.getElem?_append_right (by simp; omega)]
    simp only [Array.length_toList, h]
    cases hr : rest[i - F.size]? with
    | none => rfl
    | some v =>
      simp only [Option.map_some]
      rw [if_neg (by omega)]
/-- the world behind the kit's sort of structs -/
theorem sorted_own {α : Type} [Inhabited α] {enc : α → List Value} {k : Nat} (hk : ∀ x, (enc x).length = k) (hk0 : 0 < k) {w w' : World} {b n t : Nat} {xs : List α} (h : Own enc w (Option.some ⟨b, 0, Option.none⟩) n t xs) {d : List α} (hd : d.length = xs.length) {m : Nat} {os : Array Obj}
    (hw : w' = sortWorldK enc k w b 0 m d.toArray os) : Own enc w' (Option.some ⟨b, 0, Option.none⟩) n t d ∧ Mod (blkIn (Option.some ⟨b, 0, Option.none⟩)) w w' := by
  obtain ⟨h1, h2, h3⟩ := h
  rcases h3 with ⟨h, _⟩ | ⟨b', rest, hb', hB⟩
  · cases h
  cases hb'
  subst hw
  have hbs := hB.lt
  constructor
  · refine ⟨by omega, h2, .inr ⟨b, rest, rfl, ?_⟩⟩
    unfold Blk at hB ⊢
    unfold sortWorldK grow putRowK putRow mapBlock Go.Sort.ahead
    dsimp only
    rw [Array.getElem?_append_left (by simpa using hbs), Array.getElem?_modify, if_pos rfl, hB]
    simp only [Option.map_some, onCells]
    rw [putCells_flat _ _ _ (by rw [flat_length hk]; simp [hd]), flatK_toList hk hk0]
  · refine ⟨rfl, rfl, rfl, ?_, fun i hi hl => ?_⟩
    · unfold sortWorldK grow putRowK putRow mapBlock Go.Sort.ahead
      simp
    · unfold sortWorldK grow putRowK putRow mapBlock Go.Sort.ahead
      dsimp only
      have hib : b ≠ i := fun e => hi ⟨_, rfl, e.symm⟩
      rw [Array.getElem?_append_left (by simpa using hl), Array.getElem?_modify, if_neg hib]
end Go.Vc
