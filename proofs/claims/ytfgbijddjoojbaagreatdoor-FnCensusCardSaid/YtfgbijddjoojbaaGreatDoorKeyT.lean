/- Contracts of functions of the given program, of the reference and of the laws: each says what a call returns, for all arguments that meet the premises that the theorem itself names. -/
import Derived.Test.YtfgbijddjoojbaaGreatDoorKeyV
namespace Go.M
open Go Go.Vc
def hasT (l : List ByteArray) (t : ByteArray) : Bool := l.any fun x => decide (x = t)
def missStep (ks o : List ByteArray) (t : ByteArray) : List ByteArray := if hasT ks t = true ∨ hasT o t = true then o else o ++ [t]
def missM (ks l : List ByteArray) : List ByteArray := l.foldl (missStep ks) []
theorem miss_take {ks l : List ByteArray} {k : Nat} {x : ByteArray} (h : l[k]? = some x) : missM ks (l.take (k + 1)) = missStep ks (missM ks (l.take k)) x := by
  unfold missM
  rw [List.take_add_one, h]
  simp
theorem miss_in {ks l : List ByteArray} {k : Nat} {x : ByteArray} (h : l[k]? = some x) (hx : hasT ks x = true) : missM ks (l.take (k + 1)) = missM ks (l.take k) := by rw [miss_take h, missStep, if_pos (.inl hx)]
theorem miss_had {ks l : List ByteArray} {k : Nat} {x : ByteArray} (h : l[k]? = some x) (hx : hasT (missM ks (l.take k)) x = true) : missM ks (l.take (k + 1)) = missM ks (l.take k) := by rw [miss_take h, missStep, if_pos (.inr hx)]
theorem miss_new {ks l : List ByteArray} {k : Nat} {x : ByteArray} (h : l[k]? = some x) (h1 : hasT ks x = false) (h2 : hasT (missM ks (l.take k)) x = false) : missM ks (l.take (k + 1)) = missM ks (l.take k) ++ [x] := by rw [miss_take h, missStep, if_neg (by simp [h1, h2])]
theorem missStep_len (ks o : List ByteArray) (t : ByteArray) : (missStep ks o t).length ≤ o.length + 1 := by
  unfold missStep
  split
  · omega
  · simp
theorem missFold_len (ks : List ByteArray) : ∀ (l o : List ByteArray), (l.foldl (missStep ks) o).length ≤ o.length + l.length
  | [], o => by simp
  | x :: l, o => by
    have h1 := missFold_len ks l (missStep ks o x)
    have h2 := missStep_len ks o x
    simp only [List.foldl_cons, List.length_cons]
    omega
theorem miss_len (ks l : List ByteArray) : (missM ks l).length ≤ l.length := by
  have := missFold_len ks l []
  unfold missM
  simpa using this
theorem miss_len2 (ks l : List ByteArray) (k : Nat) : (missM ks (l.take k)).length ≤ k := by
  have := miss_len ks (l.take k)
  rw [List.length_take] at this
  omega
theorem miss_congr {ks ks' : List ByteArray} (h : ∀ t, t ∈ ks ↔ t ∈ ks') (l : List ByteArray) : missM ks l = missM ks' l := by
  have e : missStep ks = missStep ks' := by
    funext o t
    have : hasT ks t = hasT ks' t := by
      rw [Bool.eq_iff_iff]
      simp only [hasT, List.any_eq_true, decide_eq_true_eq]
      constructor
      · rintro ⟨x, hx, rfl⟩; exact ⟨x, (h x).1 hx, rfl⟩
      · rintro ⟨x, hx, rfl⟩; exact ⟨x, (h x).2 hx, rfl⟩
    unfold missStep
    rw [this]
  unfold missM
  rw [e]
def missingM (d : List (List Int)) (f : TField) (l : List ByteArray) : List ByteArray × Int :=
  if (keysM d f).2 = 0 then (if l.length ≤ 100 then (missM ((keysM d f).1.map txt) l, 0) else ([], 2)) else ([], (keysM d f).2)
theorem missing_bad {d : List (List Int)} {f : TField} {l : List ByteArray} {cd : Int} (h : keysM d f = ([], cd)) (hc : ¬ cd = 0) : missingM d f l = ([], cd) := by simp [missingM, h, hc]
theorem missing_long {d : List (List Int)} {f : TField} {l : List ByteArray} {K : List (List Int)} (h : keysM d f = (K, 0)) (hl : ¬ l.length ≤ 100) : missingM d f l = ([], 2) := by simp [missingM, h, hl]
theorem missing_good {d : List (List Int)} {f : TField} {l : List ByteArray} {K : List (List Int)} (h : keysM d f = (K, 0)) (hl : l.length ≤ 100) : missingM d f l = (missM (K.map txt) l, 0) := by simp [missingM, h, hl]
theorem missing_len (d : List (List Int)) (f : TField) (l : List ByteArray) : (missingM d f l).1.length ≤ 100 := by
  unfold missingM
  split
  · split
    · rename_i h
      exact Nat.le_trans (miss_len _ _) h
    · simp
  · simp
theorem texts_mem {d : List (List Int)} {f : TField} (hd : deckB d = true) (hf : fieldB f (widthOf d) = true) (x : List Int) : x ∈ textsM (d.map (ckey f)) ↔ x ∈ d.map (ckey f) := by
  rw [← sd_firsts hd hf]
  exact (firsts_mem (sdK_len hd hf) x).trans ((sd_perm d f).map _).mem_iff
theorem texts_miss {d : List (List Int)} {f : TField} (hd : deckB d = true) (hf : fieldB f (widthOf d) = true) (l : List ByteArray) : missM ((textsM (d.map (ckey f))).map txt) l = missM ((d.map (ckey f)).map txt) l := by
  refine miss_congr (fun t => ?_) l
  rw [List.mem_map, List.mem_map]
  constructor
  · rintro ⟨x, hx, rfl⟩; exact ⟨x, (texts_mem hd hf x).1 hx, rfl⟩
  · rintro ⟨x, hx, rfl⟩; exact ⟨x, (texts_mem hd hf x).2 hx, rfl⟩
end Go.M
namespace Go.Proofs.YtfgbijddjoojbaaGreatDoor
open Go Go.RowKit Go.Vc Go.M
end Go.Proofs.YtfgbijddjoojbaaGreatDoor
