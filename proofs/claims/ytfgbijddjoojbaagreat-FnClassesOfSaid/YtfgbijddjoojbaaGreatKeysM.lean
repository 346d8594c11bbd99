/- Contracts of functions of the given program, of the reference and of the laws: each says what a call returns, for all arguments that meet the premises that the theorem itself names. -/
import Derived.Test.YtfgbijddjoojbaaGreatCardsM
import Derived.Test.YtfgbijddjoojbaaGreatStab
import Derived.Test.YtfgbijddjoojbaaGreatVcCore
/- Keys: the texts of fields as lists of ranks: plain functions. -/
namespace Go.M
open Go Go.Vc
def charL : List UInt8 := [32, 38, 65, 66, 67, 68, 69, 70, 71, 72, 73, 45, 74, 75, 76, 77, 78, 79, 80, 81, 82, 47, 83, 84, 85, 86, 87, 88, 89, 90, 48, 49, 50, 51, 52, 53, 54, 55, 56, 57]
theorem charL_len : charL.length = 40 := rfl
def charAt (k : Nat) : UInt8 := charL.getD k 0
theorem charL_get {k : Nat} (h : k < 40) : charL[k]? = some (charAt k) := by
  unfold charAt
  rw [List.getD_eq_getElem?_getD, List.getElem?_eq_getElem (by rw [charL_len]; exact h)]
  rfl
def codeC (c : Nat) : Int :=
  if c = 32 then 0 else if c = 38 then 1 else if c = 45 then 2 else if c = 47 then 12
  else if 48 ≤ c ∧ c ≤ 57 then bitM ((c : Int) - 48)
  else if 65 ≤ c ∧ c ≤ 73 then 1 + bitM ((c : Int) - 64)
  else if 74 ≤ c ∧ c ≤ 82 then 2 + bitM ((c : Int) - 73)
  else if 83 ≤ c ∧ c ≤ 90 then 4 + bitM ((c : Int) - 81)
  else -1
def codeAt (k : Nat) : Int := codeC (charAt k).toNat
def rankM (m : Int) : Int := match (List.range 40).find? (fun (k : Nat) => decide (codeAt k = m)) with | some k => (k : Int) | none => -1
theorem rankM_b (m : Int) : -1 ≤ rankM m ∧ rankM m ≤ 39 := by
  unfold rankM
  split
  · rename_i d hd
    have := List.mem_of_find?_eq_some hd
    simp at this
    omega
  · omega
theorem rankM_is {m : Int} {k : Nat} (hk : k < 40) (h1 : ∀ j : Nat, j < k → codeAt j ≠ m) (h2 : codeAt k = m) : rankM m = k := by
  have : (List.range 40).find? (fun (d : Nat) => decide (codeAt d = m)) = some k := by
    rw [List.find?_eq_some_iff_getElem]
    refine ⟨by simp [h2], k, by simpa using hk, by simp, fun j hj => ?_⟩
    simp only [List.getElem_range, Bool.not_eq_true', decide_eq_false_iff_not]
    exact h1 j hj
  unfold rankM
  rw [this]
theorem rankM_none {m : Int} (h1 : ∀ j : Nat, j < 40 → codeAt j ≠ m) : rankM m = -1 := by
  have : (List.range 40).find? (fun (d : Nat) => decide (codeAt d = m)) = none := by
    rw [List.find?_eq_none]
    intro j hj
    simp [h1 j (by simpa using hj)]
  unfold rankM
  rw [this]
def hasB (l : List Int) : Bool := l.all fun m => decide (0 ≤ rankM m)
def ranks (l : List Int) : List Int := l.map rankM
def txt (r : List Int) : ByteArray := bs (r.map fun k => charAt k.toNat)
def ckey (f : TField) (c : List Int) : List Int := ranks (partOf c f)
theorem txt_size (r : List Int) : (txt r).size = r.length := by simp [txt, bs_size]
theorem ranks_len (l : List Int) : (ranks l).length = l.length := by simp [ranks]
theorem ranks_get {l : List Int} {k : Nat} {x : Int} (h : l[k]? = some x) : (ranks l)[k]? = some (rankM x) := by simp [ranks, h]
theorem hasB_get {l : List Int} {k : Nat} {x : Int} (h : hasB l = true) (hx : l[k]? = some x) : 0 ≤ rankM x := by
  simp only [hasB, List.all_eq_true, decide_eq_true_eq] at h
  exact h x (List.mem_of_getElem? hx)
theorem hasB_bad {l : List Int} {k : Nat} {x : Int} (hx : l[k]? = some x) (h : rankM x < 0) : hasB l = false := by
  unfold hasB
  rw [List.all_eq_false]
  exact ⟨x, List.mem_of_getElem? hx, by simp; omega⟩
theorem hasB_all {l : List Int} (h : ∀ i x, i < l.length → l[i]? = some x → 0 ≤ rankM x) : hasB l = true := by
  unfold hasB
  rw [List.all_eq_true]
  intro x hx
  obtain ⟨i, hi⟩ := List.mem_iff_getElem?.1 hx
  exact decide_eq_true (h i x (List.getElem?_eq_some_iff.1 hi).1 hi)
theorem hasB_any (l : List Int) : (l.any fun m => decide (rankM m < 0)) = !hasB l := by
  unfold hasB
  rw [List.not_all_eq_any_not]
  congr 1
  funext m
  by_cases h : rankM m < 0
  · simp [h]
  · simp [h]; omega
/-! the order of ranks -/
def cmpR : List Int → List Int → Int
  | x :: xs, y :: ys => if x < y then -1 else if y < x then 1 else cmpR xs ys
  | _, _ => 0
theorem cmpR_nil (b : List Int) : cmpR [] b = 0 := by cases b <;> rfl
theorem cmpR_nil2 (a : List Int) : cmpR a [] = 0 := by cases a <;> rfl
theorem cmpR_cons (x y : Int) (xs ys : List Int) : cmpR (x :: xs) (y :: ys) = if x < y then -1 else if y < x then 1 else cmpR xs ys := rfl
theorem cmpR_b : ∀ a b : List Int, -1 ≤ cmpR a b ∧ cmpR a b ≤ 1
  | [], b => by rw [cmpR_nil]; omega
  | a :: l, [] => by rw [cmpR_nil2]; omega
  | x :: xs, y :: ys => by
    have := cmpR_b xs ys
    rw [cmpR_cons]
    split
    · omega
    · split <;> omega
theorem cmpR_refl : ∀ a : List Int, cmpR a a = 0
  | [] => rfl
  | x :: xs => by rw [cmpR_cons, if_neg (by omega), if_neg (by omega)]; exact cmpR_refl xs
theorem cmpR_neg : ∀ a b : List Int, cmpR a b = - cmpR b a
  | [], b => by rw [cmpR_nil, cmpR_nil2]; rfl
  | a :: l, [] => by rw [cmpR_nil, cmpR_nil2]; rfl
  | x :: xs, y :: ys => by
    have := cmpR_neg xs ys
    rw [cmpR_cons, cmpR_cons]
    by_cases h1 : x < y
    · rw [if_pos h1, if_neg (by omega), if_pos h1]
    · by_cases h2 : y < x
      · rw [if_neg h1, if_pos h2, if_pos h2]; omega
      · rw [if_neg h1, if_neg h2, if_neg h2, if_neg h1]; exact this
theorem cmpR_eq : ∀ {a b : List Int}, a.length = b.length → cmpR a b = 0 → a = b
  | [], [], _, _ => rfl
  | [], _ :: _, h, _ => by simp at h
  | _ :: _, [], h, _ => by simp at h
  | x :: xs, y :: ys, h, h0 => by
    rw [cmpR_cons] at h0
    split at h0
    · omega
    · split at h0
      · omega
      · rw [cmpR_eq (a := xs) (b := ys) (by simpa using h) h0, show x = y by omega]
theorem cmpR_tr : ∀ {a b c : List Int}, cmpR a b < 0 → cmpR b c < 0 → cmpR a c < 0
  | [], b, _, h1, _ => by rw [cmpR_nil] at h1; omega
  | _ :: _, [], _, h1, _ => by rw [cmpR_nil2] at h1; omega
  | _ :: _, b :: l, [], _, h2 => by rw [cmpR_nil2] at h2; omega
  | x :: xs, y :: ys, z :: zs, h1, h2 => by
    rw [cmpR_cons] at h1 h2 ⊢
    by_cases a1 : x < y
    · by_cases a2 : z < y
      · rw [if_neg (by omega), if_pos a2] at h2; omega
      · rw [if_pos (by omega)]; omega
    · rw [if_neg a1] at h1
      by_cases a2 : y < x
      · rw [if_pos a2] at h1; omega
      · rw [if_neg a2] at h1
        have e : x = y := by omega
        subst e
        by_cases b1 : x < z
        · rw [if_pos b1]; omega
        · rw [if_neg b1] at h2 ⊢
          by_cases b2 : z < x
          · rw [if_pos b2] at h2; omega
          · rw [if_neg b2] at h2 ⊢
            exact cmpR_tr h1 h2
theorem cmpR_at : ∀ {a b : List Int} {k : Nat} {x y : Int}, a.take k = b.take k → a[k]? = some x → b[k]? = some y → cmpR a b = if x < y then -1 else if y < x then 1 else cmpR (a.drop (k + 1)) (b.drop (k + 1))
  | [], _, _, _, _, _, hx, _ => by simp at hx
  | _ :: _, [], _, _, _, _, _, hy => by simp at hy
  | p :: ps, q :: qs, 0, x, y, _, hx, hy => by
    simp at hx hy
    subst hx; subst hy
    rfl
  | p :: ps, q :: qs, k + 1, x, y, h, hx, hy => by
    simp only [List.take_succ_cons, List.cons.injEq] at h
    obtain ⟨rfl, h2⟩ := h
    rw [cmpR_cons, if_neg (by omega), if_neg (by omega)]
    exact cmpR_at h2 (by simpa using hx) (by simpa using hy)
theorem cmpR_less {a b : List Int} {k : Nat} {x y : Int} (h : a.take k = b.take k) (hx : a[k]? = some x) (hy : b[k]? = some y) (hxy : x < y) : cmpR a b = -1 := by rw [cmpR_at h hx hy, if_pos hxy]
theorem cmpR_more {a b : List Int} {k : Nat} {x y : Int} (h : a.take k = b.take k) (hx : a[k]? = some x) (hy : b[k]? = some y) (hxy : y < x) : cmpR a b = 1 := by rw [cmpR_at h hx hy, if_neg (by omega), if_pos hxy]
theorem cmpR_done {a b : List Int} {n : Nat} (h : a.take n = b.take n) (ha : a.length = n) (hb : b.length = n) : cmpR a b = 0 := by
  rw [List.take_of_length_le (by omega), List.take_of_length_le (by omega)] at h
  rw [h]; exact cmpR_refl b
theorem take_both {α : Type} {a b : List α} {k : Nat} {x : α} (h : a.take k = b.take k) (hx : a[k]? = some x) (hy : b[k]? = some x) : a.take (k + 1) = b.take (k + 1) := by
  rw [List.take_add_one, List.take_add_one, h, hx, hy]
theorem cmpR_le {a b : List Int} (h : ¬ cmpR b a < 0) : cmpR a b ≤ 0 := by have := cmpR_neg a b; omega
theorem cmpR_le_tr {a b c : List Int} (hl : a.length = b.length) (h1 : ¬ cmpR b a < 0) (h2 : cmpR b c < 0) : cmpR a c < 0 := by
  have := cmpR_le h1
  by_cases e : cmpR a b = 0
  · rw [cmpR_eq hl e]; exact h2
  · exact cmpR_tr (by omega) h2
/-! keys that can be written -/
def OkKey (L : Nat) (r : List Int) : Prop := r.length = L ∧ ∀ k ∈ r, 0 ≤ k ∧ k ≤ 39
theorem OkKey.of {l : List Int} (h : hasB l = true) : OkKey l.length (ranks l) := by
  refine ⟨ranks_len l, fun k hk => ?_⟩
  simp only [ranks, List.mem_map] at hk
  obtain ⟨m, hm, rfl⟩ := hk
  simp only [hasB, List.all_eq_true, decide_eq_true_eq] at h
  exact ⟨h m hm, (rankM_b m).2⟩
theorem charAt_inj {i j : Nat} (hi : i < 40) (hj : j < 40) (h : charAt i = charAt j) : i = j := by
  have key : ∀ a b : Fin 40, charAt a.val = charAt b.val → a.val = b.val := by decide +kernel
  exact key ⟨i, hi⟩ ⟨j, hj⟩ h
theorem txt_inj {L : Nat} {r s : List Int} (h1 : OkKey L r) (h2 : OkKey L s) (h : txt r = txt s) : r = s := by
  rw [txt, txt, bs_inj] at h
  apply List.ext_getElem?
  intro i
  by_cases hi : i < L
  · obtain ⟨x, hx⟩ := get_of_lt (l := r) (k := i) (by have := h1.1; omega)
    obtain ⟨y, hy⟩ := get_of_lt (l := s) (k := i) (by have := h2.1; omega)
    have h3 : (r.map fun k => charAt k.toNat)[i]? = (s.map fun k => charAt k.toNat)[i]? := by rw [h]
    simp only [List.getElem?_map, hx, hy, Option.map_some, Option.some.injEq] at h3
    have b1 := h1.2 x (List.mem_of_getElem? hx)
    have b2 := h2.2 y (List.mem_of_getElem? hy)
    have := charAt_inj (by omega) (by omega) h3
    rw [hx, hy, show x = y by omega]
  · rw [List.getElem?_eq_none (by have := h1.1; omega), List.getElem?_eq_none (by have := h2.1; omega)]
theorem txt_eq {L : Nat} {r s : List Int} (h1 : OkKey L r) (h2 : OkKey L s) : decide (txt r = txt s) = decide (r = s) := by
  apply decide_eq_decide.2
  exact ⟨txt_inj h1 h2, fun h => by rw [h]⟩
/-! different keys in order -/
def Asc (o : List (List Int)) : Prop := o.Pairwise fun a b => cmpR a b < 0
theorem asc_unique : ∀ {a b : List (List Int)}, Asc a → Asc b → (∀ x, x ∈ a ↔ x ∈ b) → a = b
  | [], [], _, _, _ => rfl
  | [], y :: l, _, _, h => by have := (h y).2 (by simp); simp at this
  | x :: l, [], _, _, h => by have := (h x).1 (by simp); simp at this
  | x :: l, y :: m, ha, hb, h => by
    have ha2 := List.pairwise_cons.1 ha
    have hb2 := List.pairwise_cons.1 hb
    have hne : ∀ {p : List Int} {q : List (List Int)}, (∀ z ∈ q, cmpR p z < 0) → p ∉ q := fun hq hm => by
      have := hq _ hm
      rw [cmpR_refl] at this
      omega
    have e : x = y := by
      apply Classical.byContradiction
      intro hxy
      have h1 : x ∈ m := by
        rcases List.mem_cons.1 ((h x).1 (by simp)) with h1 | h1
        · exact absurd h1 hxy
        · exact h1
      have h2 : y ∈ l := by
        rcases List.mem_cons.1 ((h y).2 (by simp)) with h2 | h2
        · exact absurd h2.symm hxy
        · exact h2
      have h3 := ha2.1 y h2
      have h4 := hb2.1 x h1
      have := cmpR_neg x y
      omega
    subst e
    rw [asc_unique ha2.2 hb2.2 fun z => ?_]
    constructor
    · intro hz
      rcases List.mem_cons.1 ((h z).1 (List.mem_cons_of_mem _ hz)) with h1 | h1
      · exact absurd (h1 ▸ hz) (hne ha2.1)
      · exact h1
    · intro hz
      rcases List.mem_cons.1 ((h z).2 (List.mem_cons_of_mem _ hz)) with h1 | h1
      · exact absurd (h1 ▸ hz) (hne hb2.1)
      · exact h1
open Classical in
noncomputable def textsM (ks : List (List Int)) : List (List Int) := if h : ∃ o, Asc o ∧ ∀ x, x ∈ o ↔ x ∈ ks then Classical.choose h else []
theorem texts_is {ks o : List (List Int)} (h : Asc o) (hm : ∀ x, x ∈ o ↔ x ∈ ks) : o = textsM ks := by
  have hex : ∃ o, Asc o ∧ ∀ x, x ∈ o ↔ x ∈ ks := ⟨o, h, hm⟩
  unfold textsM
  rw [dif_pos hex]
  have hs := Classical.choose_spec hex
  exact asc_unique h hs.1 fun x => (hm x).trans (hs.2 x).symm
theorem asc_ins {o : List (List Int)} {x : List Int} {k : Nat} (ho : Asc o) (h1 : ∀ y ∈ o.take k, cmpR y x < 0) (h2 : ∀ y ∈ o.drop k, cmpR x y < 0) : Asc (o.take k ++ [x] ++ o.drop k) := by
  have h3 : Asc (o.take k ++ o.drop k) := by rw [List.take_append_drop]; exact ho
  have h4 := List.pairwise_append.1 h3
  refine List.pairwise_append.2 ⟨List.pairwise_append.2 ⟨h4.1, List.pairwise_singleton _ _, fun a ha b hb => ?_⟩, h4.2.1, fun a ha b hb => ?_⟩
  · rw [List.mem_singleton.1 hb]; exact h1 a ha
  · rcases List.mem_append.1 ha with ha | ha
    · exact h4.2.2 a ha b hb
    · rw [List.mem_singleton.1 ha]; exact h2 b hb
theorem mem_ins {o : List (List Int)} {x : List Int} {k : Nat} (y : List Int) : y ∈ o.take k ++ [x] ++ o.drop k ↔ y ∈ o ∨ y = x := by
  have h3 : y ∈ o ↔ y ∈ o.take k ++ o.drop k := by rw [List.take_append_drop]
  rw [h3]
  simp only [List.mem_append, List.mem_singleton]
  constructor
  · rintro ((h | h) | h) <;> simp [h]
  · rintro ((h | h) | h) <;> simp [h]
/-- all that lies before k is less, if the one just before it is -/
theorem asc_before {o : List (List Int)} {x : List Int} {k : Nat} (ho : Asc o) (h : k = 0 ∨ ∃ y, o[k - 1]? = some y ∧ cmpR y x < 0) : ∀ y ∈ o.take k, cmpR y x < 0 := by
  intro y hy
  obtain ⟨i, hi⟩ := List.mem_iff_getElem?.1 hy
  rw [List.getElem?_take] at hi
  split at hi
  · rename_i hik
    rcases h with rfl | ⟨z, hz, hzx⟩
    · omega
    · by_cases e : i = k - 1
      · subst e; rw [hz] at hi; cases hi; exact hzx
      · have h1 := (List.getElem?_eq_some_iff.1 hi)
        have h2 := (List.getElem?_eq_some_iff.1 hz)
        have := List.pairwise_iff_getElem.1 ho i (k - 1) h1.1 h2.1 (by omega)
        rw [h1.2, h2.2] at this
        exact cmpR_tr this hzx
  · cases hi
theorem mem_take_next {ks o : List (List Int)} {k : Nat} {x : List Int} (hx : ks[k]? = some x) (hm : ∀ y, y ∈ o ↔ y ∈ ks.take k) {o' : List (List Int)} (h : ∀ y, y ∈ o' ↔ y ∈ o ∨ y = x) : ∀ y, y ∈ o' ↔ y ∈ ks.take (k + 1) := by
  intro y
  rw [h, hm, List.take_add_one, hx]
  simp
/-! the keys of a deck -/
def keysM (d : List (List Int)) (f : TField) : List (List Int) × Int :=
  if deckB d = false then ([], 1) else if fieldB f (widthOf d) = false then ([], 2) else if d.all (fun c => hasB (partOf c f)) = false then ([], 8) else (d.map (ckey f), 0)
theorem keys_deck {d : List (List Int)} {f : TField} (h : deckB d = false) : keysM d f = ([], 1) := by simp [keysM, h]
theorem keys_field {d : List (List Int)} {f : TField} (h : deckB d = true) (hf : fieldB f (widthOf d) = false) : keysM d f = ([], 2) := by simp [keysM, h, hf]
theorem keys_bad {d : List (List Int)} {f : TField} (h : deckB d = true) (hf : fieldB f (widthOf d) = true) {k : Nat} {c : List Int} (hc : d[k]? = some c) (hb : hasB (partOf c f) = false) : keysM d f = ([], 8) := by
  have : d.all (fun c => hasB (partOf c f)) = false := by
    rw [List.all_eq_false]
    exact ⟨c, List.mem_of_getElem? hc, by simp [hb]⟩
  unfold keysM
  rw [if_neg (by simp [h]), if_neg (by simp [hf]), if_pos this]
theorem all_has {d : List (List Int)} {f : TField} (hall : ∀ i c, i < d.length → d[i]? = some c → hasB (partOf c f) = true) : d.all (fun c => hasB (partOf c f)) = true := by
  rw [List.all_eq_true]
  intro c hc
  obtain ⟨i, hi⟩ := List.mem_iff_getElem?.1 hc
  exact hall i c (List.getElem?_eq_some_iff.1 hi).1 hi
theorem keys_good {d : List (List Int)} {f : TField} (h : deckB d = true) (hf : fieldB f (widthOf d) = true) (hall : d.all (fun c => hasB (partOf c f)) = true) : keysM d f = (d.map (ckey f), 0) := by
  unfold keysM
  rw [if_neg (by simp [h]), if_neg (by simp [hf]), if_neg (by simp [hall])]
theorem keys_cases (d : List (List Int)) (f : TField) : (∃ cd, keysM d f = ([], cd) ∧ (cd = 1 ∨ cd = 2 ∨ cd = 8)) ∨ (deckB d = true ∧ fieldB f (widthOf d) = true ∧ d.all (fun c => hasB (partOf c f)) = true ∧ keysM d f = (d.map (ckey f), 0)) := by
  cases h : deckB d
  · exact .inl ⟨1, keys_deck h, .inl rfl⟩
  · cases hf : fieldB f (widthOf d)
    · exact .inl ⟨2, keys_field h hf, .inr (.inl rfl)⟩
    · cases ha : d.all (fun c => hasB (partOf c f))
      · refine .inl ⟨8, ?_, .inr (.inr rfl)⟩
        unfold keysM
        rw [if_neg (by simp [h]), if_neg (by simp [hf]), if_pos ha]
      · exact .inr ⟨rfl, rfl, rfl, keys_good h hf ha⟩
def fLen (f : TField) : Nat := f.to_.toNat - f.from_.toNat
theorem ckey_ok {d : List (List Int)} {f : TField} (h : deckB d = true) (hf : fieldB f (widthOf d) = true) (ha : d.all (fun c => hasB (partOf c f)) = true) : ∀ k ∈ d.map (ckey f), OkKey (fLen f) k := by
  intro k hk
  obtain ⟨c, hc, rfl⟩ := List.mem_map.1 hk
  have h1 := (deckB_mem h).2 c hc
  have h2 : fieldB f c.length = true := by rw [h1.2]; exact hf
  have h3 := OkKey.of (List.all_eq_true.1 ha c hc)
  rw [partOf_len h2] at h3
  exact h3
theorem ckey_len {d : List (List Int)} {f : TField} (h : deckB d = true) (hf : fieldB f (widthOf d) = true) {c : List Int} (hc : c ∈ d) : (ckey f c).length = fLen f := by
  have h1 := (deckB_mem h).2 c hc
  have h2 : fieldB f c.length = true := by rw [h1.2]; exact hf
  unfold ckey
  rw [ranks_len, partOf_len h2]
  rfl
/-! the order of the sorter -/
def keyD (K : List (List Int)) (L : Nat) (i : Int) : List Int := K.getD i.toNat (List.replicate L 0)
def ordR (K : List (List Int)) (L : Nat) (i j : Int) : Prop := cmpR (keyD K L i) (keyD K L j) < 0
theorem keyD_len {K : List (List Int)} {L : Nat} (h : ∀ k ∈ K, k.length = L) (i : Int) : (keyD K L i).length = L := by
  unfold keyD
  rw [List.getD_eq_getElem?_getD]
  cases hk : K[i.toNat]? with
  | none => simp
  | some x => simpa using h x (List.mem_of_getElem? hk)
theorem ordR_swo {K : List (List Int)} {L : Nat} (h : ∀ k ∈ K, k.length = L) : Swo (ordR K L) := by
  refine ⟨fun i hi => ?_, fun i j k h1 h2 => cmpR_tr h1 h2, fun i j k h1 h2 h3 => ?_⟩
  · unfold ordR at hi; rw [cmpR_refl] at hi; omega
  · unfold ordR at *
    exact h2 (cmpR_le_tr (by rw [keyD_len h, keyD_len h]) h1 h3)
noncomputable def placesM (K : List (List Int)) (L : Nat) : List Int := sortL (ordR K L) (upto K.length)
noncomputable def sdM (d : List (List Int)) (f : TField) : List (List Int) := (placesM (d.map (ckey f)) (fLen f)).map fun i => d.getD i.toNat []
theorem places_perm (K : List (List Int)) (L : Nat) : (placesM K L).Perm (upto K.length) := sortL_perm _ _
theorem places_len (K : List (List Int)) (L : Nat) : (placesM K L).length = K.length := by rw [(places_perm K L).length_eq, upto_length]
theorem places_mem {K : List (List Int)} {L : Nat} {i : Int} (h : i ∈ placesM K L) : 0 ≤ i ∧ i.toNat < K.length := by
  obtain ⟨k, hk, rfl⟩ := upto_mem.1 ((places_perm K L).subset h)
  omega
theorem map_upto {α : Type} (d : List α) (z : α) : (upto d.length).map (fun i => d.getD i.toNat z) = d := by
  apply List.ext_getElem?
  intro i
  by_cases h : i < d.length
  · rw [List.getElem?_map, upto_get h, Option.map_some, List.getD_eq_getElem?_getD]
    simp [h]
  · rw [List.getElem?_eq_none (by rw [List.length_map, upto_length]; omega), List.getElem?_eq_none (by omega)]
theorem sd_perm (d : List (List Int)) (f : TField) : (sdM d f).Perm d := by
  have h := (places_perm (d.map (ckey f)) (fLen f)).map fun i => d.getD i.toNat []
  rw [List.length_map, map_upto] at h
  exact h
theorem sd_len (d : List (List Int)) (f : TField) : (sdM d f).length = d.length := (sd_perm d f).length_eq
def Weak (S : List (List Int)) : Prop := S.Pairwise fun a b => ¬ cmpR b a < 0
theorem sd_weak {d : List (List Int)} {f : TField} (h : deckB d = true) (hf : fieldB f (widthOf d) = true) : Weak ((sdM d f).map (ckey f)) := by
  have hK : ∀ k ∈ d.map (ckey f), k.length = fLen f := fun k hk => by
    obtain ⟨c, hc, rfl⟩ := List.mem_map.1 hk
    exact ckey_len h hf hc
  have hs := ordR_swo hK
  have hp := hs.sortL (upto_nodup (d.map (ckey f)).length)
  have e : (sdM d f).map (ckey f) = (placesM (d.map (ckey f)) (fLen f)).map (keyD (d.map (ckey f)) (fLen f)) := by
    unfold sdM
    rw [List.map_map]
    apply List.map_congr_left
    intro i hi
    have hb := places_mem hi
    rw [List.length_map] at hb
    simp only [Function.comp_apply, keyD, List.getD_eq_getElem?_getD, List.getElem?_map]
    rw [List.getElem?_eq_getElem hb.2]
    rfl
  rw [e]
  unfold Weak
  rw [List.pairwise_map]
  refine hp.imp ?_
  intro i j hij
  rcases hij with h1 | h1
  · exact fun h2 => hs.irr _ (hs.tr _ _ _ h1 h2)
  · exact h1.1
/-! groups of equal keys -/
def startB (S : List (List Int)) (i : Nat) : Bool := decide (i = 0) || !decide (cmpR (S.getD (i - 1) []) (S.getD i []) = 0)
def startsN (S : List (List Int)) (n : Nat) : List Nat := (List.range n).filter (startB S)
def starts (S : List (List Int)) : List Nat := startsN S S.length
def endAt (ss : List Nat) (n i : Nat) : Nat := ss.getD (i + 1) n
theorem startsN_succ (S : List (List Int)) (n : Nat) : startsN S (n + 1) = if startB S n = true then startsN S n ++ [n] else startsN S n := by
  unfold startsN
  rw [List.range_succ, List.filter_append]
  split <;> simp [*]
theorem starts_mem {S : List (List Int)} {s : Nat} : s ∈ starts S ↔ s < S.length ∧ startB S s = true := by simp [starts, startsN]
theorem starts_rise (S : List (List Int)) : (starts S).Pairwise (· < ·) := by
  unfold starts startsN
  exact List.Pairwise.filter _ List.pairwise_lt_range
theorem getD_of {α : Type} {l : List α} {k : Nat} {x z : α} (h : l[k]? = some x) : l.getD k z = x := by rw [List.getD_eq_getElem?_getD, h]; rfl
section
variable {S : List (List Int)} {L : Nat} (hL : ∀ k ∈ S, k.length = L) (hW : Weak S)
include hL in
theorem S_len {i : Nat} (h : i < S.length) : (S.getD i []).length = L := by
  obtain ⟨x, hx⟩ := get_of_lt h
  rw [getD_of hx]
  exact hL x (List.mem_of_getElem? hx)
include hW in
theorem S_weak {i j : Nat} (hij : i < j) (hj : j < S.length) : ¬ cmpR (S.getD j []) (S.getD i []) < 0 := by
  obtain ⟨x, hx⟩ := get_of_lt (l := S) (k := i) (by omega)
  obtain ⟨y, hy⟩ := get_of_lt hj
  rw [getD_of hx, getD_of hy]
  have := List.pairwise_iff_getElem.1 hW i j (by omega) hj hij
  rw [(List.getElem?_eq_some_iff.1 hx).2, (List.getElem?_eq_some_iff.1 hy).2] at this
  exact this
include hL hW in
theorem S_start {s t : Nat} (hst : s < t) (ht : t < S.length) (hs : startB S t = true) : cmpR (S.getD s []) (S.getD t []) < 0 := by
  have h0 : ¬ t = 0 := by omega
  simp only [startB, h0, decide_false, Bool.false_or, Bool.not_eq_true', decide_eq_false_iff_not] at hs
  have h1 : cmpR (S.getD (t - 1) []) (S.getD t []) < 0 := by
    have := cmpR_le (S_weak hW (i := t - 1) (by omega) ht)
    omega
  by_cases e : s = t - 1
  · rw [e]; exact h1
  · exact cmpR_le_tr (by rw [S_len hL (by omega), S_len hL (by omega)]) (S_weak hW (by omega) (by omega)) h1
include hL hW in
theorem firsts_asc : Asc ((starts S).map fun s => S.getD s []) := by
  unfold Asc
  rw [List.pairwise_map]
  have h := starts_rise S
  rw [List.pairwise_iff_getElem] at h ⊢
  intro i j hi hj hij
  have hm := starts_mem.1 (List.getElem_mem hj)
  exact S_start hL hW (h i j hi hj hij) hm.1 hm.2
include hL in
theorem same_first : ∀ i, i < S.length → ∃ s, s ∈ starts S ∧ s ≤ i ∧ S.getD s [] = S.getD i [] ∧ ∀ p, s < p → p ≤ i → startB S p = false
  | 0, h => ⟨0, starts_mem.2 ⟨h, by simp [startB]⟩, by omega, rfl, fun p h1 h2 => by omega⟩
  | i + 1, h => by
    cases hs : startB S (i + 1)
    · obtain ⟨s, h1, h2, h3, h4⟩ := same_first i (by omega)
      refine ⟨s, h1, by omega, ?_, fun p hp hpi => ?_⟩
      · rw [h3]
        simp only [startB, Nat.add_one_ne_zero, decide_false, Bool.false_or, Bool.not_eq_false', decide_eq_true_eq, Nat.add_sub_cancel] at hs
        exact cmpR_eq (by rw [S_len hL (by omega), S_len hL (by omega)]) hs
      · by_cases e : p = i + 1
        · rw [e]; exact hs
        · exact h4 p hp (by omega)
    · exact ⟨i + 1, starts_mem.2 ⟨h, hs⟩, by omega, rfl, fun p h1 h2 => by omega⟩
include hL in
theorem firsts_mem (x : List Int) : x ∈ ((starts S).map fun s => S.getD s []) ↔ x ∈ S := by
  constructor
  · intro h
    obtain ⟨s, hs, rfl⟩ := List.mem_map.1 h
    obtain ⟨y, hy⟩ := get_of_lt (starts_mem.1 hs).1
    rw [getD_of hy]
    exact List.mem_of_getElem? hy
  · intro h
    obtain ⟨i, hi⟩ := List.mem_iff_getElem?.1 h
    obtain ⟨s, h1, _, h3, _⟩ := same_first hL i (List.getElem?_eq_some_iff.1 hi).1
    rw [getD_of hi] at h3
    exact List.mem_map.2 ⟨s, h1, h3⟩
include hL hW in
theorem firsts_texts {ks : List (List Int)} (hp : S.Perm ks) : ((starts S).map fun s => S.getD s []) = textsM ks :=
  texts_is (firsts_asc hL hW) fun x => (firsts_mem hL x).trans hp.mem_iff
theorem end_le {i s : Nat} (hi : (starts S)[i]? = some s) : s < endAt (starts S) S.length i ∧ endAt (starts S) S.length i ≤ S.length := by
  have hs := starts_mem.1 (List.mem_of_getElem? hi)
  unfold endAt
  rw [List.getD_eq_getElem?_getD]
  cases hn : (starts S)[i + 1]? with
  | none => simp; omega
  | some t =>
    have h1 := List.getElem?_eq_some_iff.1 hi
    have h2 := List.getElem?_eq_some_iff.1 hn
    have := List.pairwise_iff_getElem.1 (starts_rise S) i (i + 1) h1.1 h2.1 (by omega)
    have ht := starts_mem.1 (List.mem_of_getElem? hn)
    simp
    omega
theorem between {i s p : Nat} (hi : (starts S)[i]? = some s) (h1 : s < p) (h2 : p < endAt (starts S) S.length i) : startB S p = false := by
  have hle := end_le hi
  cases hp : startB S p
  · rfl
  · exfalso
    obtain ⟨j, hj⟩ := List.mem_iff_getElem?.1 (starts_mem.2 ⟨by omega, hp⟩)
    have g1 := List.getElem?_eq_some_iff.1 hi
    have g2 := List.getElem?_eq_some_iff.1 hj
    have hr := List.pairwise_iff_getElem.1 (starts_rise S)
    rcases Nat.lt_trichotomy i j with h | h | h
    · by_cases e : j = i + 1
      · subst e
        unfold endAt at h2
        rw [getD_of hj] at h2
        omega
      · obtain ⟨t, ht⟩ := get_of_lt (l := starts S) (k := i + 1) (by have := g2.1; omega)
        have g3 := List.getElem?_eq_some_iff.1 ht
        have := hr (i + 1) j g3.1 g2.1 (by omega)
        rw [g3.2, g2.2] at this
        unfold endAt at h2
        rw [getD_of ht] at h2
        omega
    · subst h; rw [hi] at hj; cases hj; omega
    · have := hr j i g2.1 g1.1 h
      rw [g2.2, g1.2] at this
      omega
include hL hW in
theorem group_count {i s : Nat} (hi : (starts S)[i]? = some s) : S.countP (fun k => decide (k = S.getD s [])) = endAt (starts S) S.length i - s := by
  have hle := end_le hi
  have hs := starts_mem.1 (List.mem_of_getElem? hi)
  generalize he : endAt (starts S) S.length i = e at hle
  have e1 : S = S.take s ++ ((S.drop s).take (e - s) ++ S.drop e) := by
    have h1 := List.take_append_drop (e - s) (S.drop s)
    rw [List.drop_drop, show s + (e - s) = e by omega] at h1
    rw [h1, List.take_append_drop]
  have hirr : ∀ {x : List Int}, ¬ cmpR x x < 0 := fun h => by rw [cmpR_refl] at h; omega
  have c1 : (S.take s).countP (fun k => decide (k = S.getD s [])) = 0 := by
    rw [List.countP_eq_zero]
    intro x hx
    obtain ⟨p, hp⟩ := List.mem_iff_getElem?.1 hx
    rw [List.getElem?_take] at hp
    split at hp
    · rename_i hps
      have := S_start hL hW hps hs.1 hs.2
      rw [getD_of hp] at this
      simp only [decide_eq_true_eq]
      exact fun e => hirr (e ▸ this)
    · cases hp
  have c3 : (S.drop e).countP (fun k => decide (k = S.getD s [])) = 0 := by
    rw [List.countP_eq_zero]
    intro x hx
    obtain ⟨p, hp⟩ := List.mem_iff_getElem?.1 hx
    rw [List.getElem?_drop] at hp
    have hpn := (List.getElem?_eq_some_iff.1 hp).1
    have hend : startB S e = true := by
      unfold endAt at he
      rw [List.getD_eq_getElem?_getD] at he
      cases hn : (starts S)[i + 1]? with
      | none => rw [hn] at he; simp at he; omega
      | some t =>
        rw [hn] at he
        simp at he
        rw [← he]
        exact (starts_mem.1 (List.mem_of_getElem? hn)).2
    have h1 := S_start hL hW hle.1 (by omega) hend
    have h2 : cmpR (S.getD s []) (S.getD (e + p) []) < 0 := by
      by_cases e0 : p = 0
      · rw [e0, Nat.add_zero]; exact h1
      · have h3 := cmpR_le (S_weak hW (i := e) (j := e + p) (by omega) hpn)
        by_cases e4 : cmpR (S.getD e []) (S.getD (e + p) []) = 0
        · rw [← cmpR_eq (by rw [S_len hL (by omega), S_len hL hpn]) e4]; exact h1
        · exact cmpR_tr h1 (by omega)
    rw [getD_of hp] at h2
    simp only [decide_eq_true_eq]
    exact fun e => hirr (e ▸ h2)
  have c2 : ((S.drop s).take (e - s)).countP (fun k => decide (k = S.getD s [])) = e - s := by
    rw [List.countP_eq_length.2]
    · simp; omega
    · intro x hx
      obtain ⟨p, hp⟩ := List.mem_iff_getElem?.1 hx
      rw [List.getElem?_take] at hp
      split at hp
      · rename_i hps
        rw [List.getElem?_drop] at hp
        have key : ∀ q, s + q < e → S.getD (s + q) [] = S.getD s [] := by
          intro q
          induction q with
          | zero => intro _; rfl
          | succ q ih =>
            intro hq
            rw [← ih (by omega)]
            have hb := between hi (p := s + (q + 1)) (by omega) (by omega)
            simp only [startB, show ¬ s + (q + 1) = 0 by omega, decide_false, Bool.false_or, Bool.not_eq_false', decide_eq_true_eq] at hb
            exact (cmpR_eq (by rw [S_len hL (by omega), S_len hL (by omega)]) hb).symm
        have := key p (by omega)
        rw [getD_of hp] at this
        exact decide_eq_true this
      · cases hp
  have hc : S.countP (fun k => decide (k = S.getD s [])) = (S.take s ++ ((S.drop s).take (e - s) ++ S.drop e)).countP (fun k => decide (k = S.getD s [])) := by rw [← e1]
  rw [hc, List.countP_append, List.countP_append, c1, c2, c3]
  omega
end
/-- the cards of each group -/
def groupsM (d : List (List Int)) (f : TField) : List (List (List Int)) :=
  (List.range (starts (d.map (ckey f))).length).map fun i =>
    (d.drop ((starts (d.map (ckey f))).getD i 0)).take (endAt (starts (d.map (ckey f))) d.length i - (starts (d.map (ckey f))).getD i 0)
end Go.M
