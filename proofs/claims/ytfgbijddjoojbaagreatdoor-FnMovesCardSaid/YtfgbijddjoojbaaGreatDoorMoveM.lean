/- Contracts of functions of the given program, of the reference and of the laws: each says what a call returns, for all arguments that meet the premises that the theorem itself names. -/
import Derived.Test.YtfgbijddjoojbaaGreatDoorCardsM
import Derived.Test.YtfgbijddjoojbaaGreatDoorKeysM
import Derived.Test.YtfgbijddjoojbaaGreatDoorParts
import Derived.Test.YtfgbijddjoojbaaGreatDoorFMove
import Derived.Test.YtfgbijddjoojbaaGreatDoorFItem
import Derived.Test.YtfgbijddjoojbaaGreatDoorTextsM
/- Moves of parts from cards: plain functions. -/
namespace Go.M
open Go Go.Vc
def TItem.fld (x : TItem) : TField := ⟨x.from_, x.to_⟩
def itemB (x : TItem) (w : Int) : Bool := nameB x.name && (decide (x.kind = 1) || decide (x.kind = 2)) && fieldB x.fld w && (decide (x.kind = 1) || decide (x.fld.to_ - x.fld.from_ ≤ 12))
def meetB (a b : TField) : Bool := decide (a.from_ < b.to_) && decide (b.from_ < a.to_)
def clashB (x y : TItem) : Bool := decide (x.name = y.name) || meetB x.fld y.fld
def itemAt (xs : List TItem) (w : Int) (i : Nat) : Bool := match xs[i]? with | none => false | some x => itemB x w && !(xs.take i).any fun y => clashB x y
def layoutB (w : Int) (xs : List TItem) : Bool := inB w 1 20 && (List.range xs.length).all (itemAt xs w) && decide (xs.length ≤ 12)
def itemIx (xs : List TItem) (s : ByteArray) : Int := idxI (fun y => decide (y.name = s)) xs
theorem itemB_b {x : TItem} {w : Int} (h : itemB x w = true) : fieldB x.fld w = true := by
  simp only [itemB, Bool.and_eq_true] at h
  exact h.1.2
theorem meetB_max {a b : TField} (ha : a.from_ < a.to_) (hb : b.from_ < b.to_) : decide (max a.from_ b.from_ < min a.to_ b.to_) = meetB a b := by
  unfold meetB
  rw [Bool.eq_iff_iff]
  simp only [Bool.and_eq_true, decide_eq_true_eq]
  omega
theorem layout_w {w : Int} {xs : List TItem} (h : inB w 1 20 = false) : layoutB w xs = false := by simp [layoutB, h]
theorem layout_many {w : Int} {xs : List TItem} (h : ¬ xs.length ≤ 12) : layoutB w xs = false := by simp [layoutB, h]
theorem layout_bad {w : Int} {xs : List TItem} {k : Nat} (h : k < xs.length) (hp : itemAt xs w k = false) : layoutB w xs = false := by
  have : (List.range xs.length).all (itemAt xs w) = false := by
    rw [List.all_eq_false]
    exact ⟨k, List.mem_range.2 h, by simp [hp]⟩
  simp [layoutB, this]
theorem layout_all {w : Int} {xs : List TItem} (h1 : inB w 1 20 = true) (h2 : ∀ i, i < xs.length → itemAt xs w i = true) : layoutB w xs = decide (xs.length ≤ 12) := by
  have : (List.range xs.length).all (itemAt xs w) = true := by
    rw [List.all_eq_true]
    exact fun i hi => h2 i (List.mem_range.1 hi)
  simp [layoutB, this, h1]
theorem layout_item {w : Int} {xs : List TItem} (h : layoutB w xs = true) {k : Nat} {x : TItem} (hx : xs[k]? = some x) : itemB x w = true := by
  simp only [layoutB, Bool.and_eq_true, List.all_eq_true, List.mem_range] at h
  have := h.1.2 k (List.getElem?_eq_some_iff.1 hx).1
  unfold itemAt at this
  rw [hx] at this
  simp only [Bool.and_eq_true] at this
  exact this.1
theorem itemIx_get {xs : List TItem} {s : ByteArray} (h : 0 ≤ itemIx xs s) : ∃ (k : Nat) (x : TItem), itemIx xs s = (k : Int) ∧ xs[k]? = some x := by
  unfold itemIx idxI at h ⊢
  cases hf : xs.findIdx? (fun y => decide (y.name = s)) with
  | none => rw [hf] at h; simp at h
  | some i =>
    rw [List.findIdx?_eq_some_iff_getElem] at hf
    obtain ⟨h2, _⟩ := hf
    exact ⟨i, xs[i], rfl, List.getElem?_eq_getElem h2⟩
/-! capital letters -/
def upC (c : UInt8) : UInt8 := if 97 ≤ c.toNat ∧ c.toNat ≤ 122 then c - 32 else c
def upL (l : List UInt8) : List UInt8 := l.map upC
def upB (s : ByteArray) : ByteArray := bs (upL s.data.toList)
/-- a byte of a name -/
def nameC (c : UInt8) : Prop := (97 ≤ c.toNat ∧ c.toNat ≤ 122) ∨ (48 ≤ c.toNat ∧ c.toNat ≤ 57) ∨ c.toNat = 45
theorem upC_nat (c : UInt8) : (upC c).toNat = if 97 ≤ c.toNat ∧ c.toNat ≤ 122 then c.toNat - 32 else c.toNat := by
  unfold upC
  split
  · rename_i h
    rw [UInt8.toNat_sub_of_le _ _ (by rw [UInt8.le_iff_toNat_le]; show 32 ≤ c.toNat; omega)]
    rfl
  · rfl
theorem upC_inj {c d : UInt8} (hc : nameC c) (hd : nameC d) (h : upC c = upC d) : c = d := by
  have e := congrArg UInt8.toNat h
  rw [upC_nat, upC_nat] at e
  apply UInt8.toNat_inj.1
  unfold nameC at hc hd
  split at e <;> split at e <;> omega
theorem upL_inj : ∀ {a b : List UInt8}, (∀ c ∈ a, nameC c) → (∀ c ∈ b, nameC c) → upL a = upL b → a = b
  | [], [], _, _, _ => rfl
  | [], _ :: _, _, _, h => by simp [upL] at h
  | _ :: _, [], _, _, h => by simp [upL] at h
  | x :: xs, y :: ys, ha, hb, h => by
    simp only [upL, List.map_cons, List.cons.injEq] at h
    rw [upC_inj (ha x (by simp)) (hb y (by simp)) h.1, upL_inj (fun c hc => ha c (by simp [hc])) (fun c hc => hb c (by simp [hc])) h.2]
theorem nameCh_nameC {c : UInt8} (h : nameCh c = true) : nameC c := by
  simp only [nameCh, smallN, digitN, Bool.or_eq_true, Bool.and_eq_true, decide_eq_true_eq] at h
  unfold nameC
  omega
theorem nameB_chars {s : ByteArray} (h : nameB s = true) : ∀ c ∈ s.data.toList, nameC c := by
  simp only [nameB, nameL, Bool.and_eq_true, List.all_eq_true] at h
  exact fun c hc => nameCh_nameC (h.2 c hc)
theorem upB_inj {a b : ByteArray} (ha : nameB a = true) (hb : nameB b = true) (h : upB a = upB b) : a = b := by
  unfold upB at h
  rw [bs_inj] at h
  have := upL_inj (nameB_chars ha) (nameB_chars hb) h
  rw [← bs_self a, ← bs_self b, this]
/-- the first k bytes made capital -/
def upTo (k : Nat) (l : List UInt8) : List UInt8 := upL (l.take k) ++ l.drop k
theorem upTo_zero (l : List UInt8) : upTo 0 l = l := by simp [upTo, upL]
theorem upTo_all {l : List UInt8} {k : Nat} (h : l.length ≤ k) : upTo k l = upL l := by simp [upTo, List.take_of_length_le h, List.drop_eq_nil_of_le h]
theorem upTo_length (k : Nat) (l : List UInt8) : (upTo k l).length = l.length := by simp [upTo, upL]; omega
theorem upTo_get {l : List UInt8} {k : Nat} {c : UInt8} (h : l[k]? = some c) : (upTo k l)[k]? = some c := by
  have hk := (List.getElem?_eq_some_iff.1 h).1
  unfold upTo
  rw [List.getElem?_append_right (by simp [upL]; omega)]
  simp only [upL, List.length_map, List.length_take, List.getElem?_drop]
  rw [show k + (k - min k l.length) = k by omega]
  exact h
theorem upTo_succ {l : List UInt8} {k : Nat} {c : UInt8} (h : l[k]? = some c) : (upTo k l).set k (upC c) = upTo (k + 1) l := by
  have hk := (List.getElem?_eq_some_iff.1 h).1
  have e : l.drop k = c :: l.drop (k + 1) := by
    rw [List.drop_eq_getElem_cons hk, (List.getElem?_eq_some_iff.1 h).2]
  have e2 : l.take (k + 1) = l.take k ++ [c] := by
    rw [List.take_add_one, h]; rfl
  unfold upTo
  rw [List.set_append_right _ _ (by simp [upL]; omega)]
  have e3 : k - (upL (l.take k)).length = 0 := by simp [upL]; omega
  rw [e3, e, e2]
  simp [upL]
theorem upTo_same {l : List UInt8} {k : Nat} {c : UInt8} (h : l[k]? = some c) (hc : smallN c.toNat = false) : upTo (k + 1) l = upTo k l := by
  rw [← upTo_succ h]
  have e : upC c = c := by
    unfold upC
    rw [if_neg]
    simpa [smallN] using hc
  rw [e]
  apply List.ext_getElem?
  intro i
  rw [List.getElem?_set]
  by_cases hi : k = i
  · subst hi
    rw [if_pos rfl, upTo_get h, if_pos (by rw [upTo_length]; exact (List.getElem?_eq_some_iff.1 h).1)]
  · rw [if_neg hi]
theorem upC_small {c : UInt8} (h : smallN c.toNat = true) : ((upC c).toNat : Int) = (c.toNat : Int) - 32 ∧ 97 ≤ c.toNat ∧ c.toNat ≤ 122 := by
  have h2 : 97 ≤ c.toNat ∧ c.toNat ≤ 122 := by simpa [smallN] using h
  rw [upC_nat, if_pos h2]
  omega
def trimL (l : List UInt8) : List UInt8 := (l.reverse.dropWhile fun c => decide (c = 32)).reverse
def trimB (s : ByteArray) : ByteArray := bs (trimL s.data.toList)
theorem trimL_nil : trimL [] = [] := rfl
theorem trimL_space {l : List UInt8} : trimL (l ++ [32]) = trimL l := by simp [trimL]
theorem trimL_done {l : List UInt8} {c : UInt8} (h : ¬ c = 32) : trimL (l ++ [c]) = l ++ [c] := by simp [trimL, h]
def valM (f : TField) (c : List Int) : ByteArray := trimB (txt (ckey f c))
def partIx (ps : List TPart) (v : ByteArray) : Int := idxI (fun y => decide (upB y.name = v)) ps
def moveAtM (ps : List TPart) (pf cf : TField) (c : List Int) : Int × TMove :=
  if hasB (partOf c pf) = false ∨ (numInM (partOf c cf)).2 = false then (8, ⟨0, 0⟩) else if partIx ps (valM pf c) < 0 then (3, ⟨0, 0⟩) else (0, ⟨partIx ps (valM pf c), (numInM (partOf c cf)).1⟩)
theorem move_format {ps : List TPart} {pf cf : TField} {c : List Int} (h : hasB (partOf c pf) = false ∨ (numInM (partOf c cf)).2 = false) : moveAtM ps pf cf c = (8, ⟨0, 0⟩) := by simp only [moveAtM, if_pos h]
theorem move_none {ps : List TPart} {pf cf : TField} {c : List Int} (h1 : hasB (partOf c pf) = true) (h2 : (numInM (partOf c cf)).2 = true) (h : partIx ps (valM pf c) < 0) : moveAtM ps pf cf c = (3, ⟨0, 0⟩) := by
  unfold moveAtM
  rw [if_neg (by simp [h1, h2]), if_pos h]
theorem move_some {ps : List TPart} {pf cf : TField} {c : List Int} (h1 : hasB (partOf c pf) = true) (h2 : (numInM (partOf c cf)).2 = true) (h : ¬ partIx ps (valM pf c) < 0) : moveAtM ps pf cf c = (0, ⟨partIx ps (valM pf c), (numInM (partOf c cf)).1⟩) := by
  unfold moveAtM
  rw [if_neg (by simp [h1, h2]), if_neg h]
def firstBad (ps : List TPart) (pf cf : TField) (d : List (List Int)) : Int := match d.find? (fun c => !decide ((moveAtM ps pf cf c).1 = 0)) with | some c => (moveAtM ps pf cf c).1 | none => 0
def movesGo (ps : List TPart) (pf cf : TField) (d : List (List Int)) : List TMove × Int := if firstBad ps pf cf d = 0 then (d.map fun c => (moveAtM ps pf cf c).2, 0) else ([], firstBad ps pf cf d)
theorem go_bad {ps : List TPart} {pf cf : TField} {d : List (List Int)} {k : Nat} {c : List Int} (h0 : ∀ i x, i < k → d[i]? = some x → (moveAtM ps pf cf x).1 = 0) (hc : d[k]? = some c) (hb : ¬ (moveAtM ps pf cf c).1 = 0) : movesGo ps pf cf d = ([], (moveAtM ps pf cf c).1) := by
  have hk := List.getElem?_eq_some_iff.1 hc
  have hk1 := hk.1
  have hf : d.find? (fun c => !decide ((moveAtM ps pf cf c).1 = 0)) = some c := by
    rw [List.find?_eq_some_iff_getElem]
    refine ⟨by simp [hb], k, hk.1, hk.2, fun j hj => ?_⟩
    have := h0 j _ hj (List.getElem?_eq_getElem (by omega))
    simp [this]
  have e : firstBad ps pf cf d = (moveAtM ps pf cf c).1 := by
    unfold firstBad
    rw [hf]
  unfold movesGo
  rw [e, if_neg hb]
theorem go_all {ps : List TPart} {pf cf : TField} {d : List (List Int)} (h0 : ∀ i x, i < d.length → d[i]? = some x → (moveAtM ps pf cf x).1 = 0) : movesGo ps pf cf d = (d.map fun c => (moveAtM ps pf cf c).2, 0) := by
  have hf : d.find? (fun c => !decide ((moveAtM ps pf cf c).1 = 0)) = none := by
    rw [List.find?_eq_none]
    intro x hx
    obtain ⟨i, hi⟩ := List.mem_iff_getElem?.1 hx
    have := h0 i x (List.getElem?_eq_some_iff.1 hi).1 hi
    simp [this]
  have e : firstBad ps pf cf d = 0 := by
    unfold firstBad
    rw [hf]
  unfold movesGo
  rw [if_pos e]
def partS : ByteArray := bs [112, 97, 114, 116]
def countS : ByteArray := bs [99, 111, 117, 110, 116]
theorem width_first {d : List (List Int)} {y : List Int} (h : d[0]? = some y) : ¬ d = [] ∧ widthOf d = y.length := by
  cases d with
  | nil => simp at h
  | cons c l => simp only [List.getElem?_cons_zero, Option.some.injEq] at h; subst h; exact ⟨by simp, rfl⟩
def layCodeM (w : Int) (xs : List TItem) (d : List (List Int)) (b : Bool) : Int := if layoutB w xs = false ∨ b = false then 1 else if ¬ d = [] ∧ ¬ ((widthOf d : Nat) : Int) = w then 2 else 0
def twoM (xs : List TItem) (s t : ByteArray) : TItem × TItem × Int :=
  if itemIx xs s < 0 ∨ itemIx xs t < 0 then (⟨{ data := #[] }, 0, 0, 0⟩, ⟨{ data := #[] }, 0, 0, 0⟩, 3) else match xs[(itemIx xs s).toNat]?, xs[(itemIx xs t).toNat]? with
    | some p, some q => if ¬ p.kind = 1 ∨ ¬ q.kind = 2 then (⟨{ data := #[] }, 0, 0, 0⟩, ⟨{ data := #[] }, 0, 0, 0⟩, 6) else (p, q, 0)
    | _, _ => (⟨{ data := #[] }, 0, 0, 0⟩, ⟨{ data := #[] }, 0, 0, 0⟩, 6)
theorem two_none {xs : List TItem} {s t : ByteArray} (h : itemIx xs s < 0 ∨ itemIx xs t < 0) : twoM xs s t = (⟨{ data := #[] }, 0, 0, 0⟩, ⟨{ data := #[] }, 0, 0, 0⟩, 3) := by unfold twoM; rw [if_pos h]
theorem two_some {xs : List TItem} {s t : ByteArray} {k m : Nat} {p q : TItem} (hk : itemIx xs s = (k : Int)) (hm : itemIx xs t = (m : Int)) (hp : xs[k]? = some p) (hq : xs[m]? = some q) : twoM xs s t = if ¬ p.kind = 1 ∨ ¬ q.kind = 2 then (⟨{ data := #[] }, 0, 0, 0⟩, ⟨{ data := #[] }, 0, 0, 0⟩, 6) else (p, q, 0) := by
  unfold twoM
  rw [if_neg (by omega), hk, hm, Int.toNat_natCast, Int.toNat_natCast, hp, hq]

theorem lay_zero {wd : Int} {its : List TItem} {d : List (List Int)} {b : Bool} (h : layCodeM wd its d b = 0) : layoutB wd its = true ∧ b = true ∧ (d = [] ∨ ((widthOf d : Nat) : Int) = wd) := by
  unfold layCodeM at h
  split at h
  · omega
  rename_i h1
  split at h
  · omega
  rename_i h2
  refine ⟨by simpa using fun e => h1 (.inl e), by simpa using fun e => h1 (.inr e), ?_⟩
  by_cases hd : d = []
  · exact .inl hd
  · exact .inr (Classical.byContradiction fun h => h2 ⟨hd, h⟩)
def movesFromM (ps : List TPart) (w : Int) (its : List TItem) (d : List (List Int)) : List TMove × Int :=
  if ¬ layCodeM w its d (partsB ps && deckB d) = 0 then ([], layCodeM w its d (partsB ps && deckB d)) else if ¬ (twoM its partS countS).2.2 = 0 then ([], (twoM its partS countS).2.2) else movesGo ps (twoM its partS countS).1.fld (twoM its partS countS).2.1.fld d
theorem mf_code {ps : List TPart} {wd : Int} {its : List TItem} {d : List (List Int)} (h : ¬ layCodeM wd its d (partsB ps && deckB d) = 0) : movesFromM ps wd its d = ([], layCodeM wd its d (partsB ps && deckB d)) := by
  unfold movesFromM; rw [if_pos h]
theorem mf_two {ps : List TPart} {wd : Int} {its : List TItem} {d : List (List Int)} (h : layCodeM wd its d (partsB ps && deckB d) = 0) (h2 : ¬ (twoM its partS countS).2.2 = 0) : movesFromM ps wd its d = ([], (twoM its partS countS).2.2) := by
  unfold movesFromM; rw [if_neg (fun e => e h), if_pos h2]
theorem mf_go {ps : List TPart} {wd : Int} {its : List TItem} {d : List (List Int)} (h : layCodeM wd its d (partsB ps && deckB d) = 0) (h2 : (twoM its partS countS).2.2 = 0) : movesFromM ps wd its d = movesGo ps (twoM its partS countS).1.fld (twoM its partS countS).2.1.fld d := by
  unfold movesFromM; rw [if_neg (fun e => e h), if_neg (fun e => e h2)]
theorem two_zero {xs : List TItem} {s t : ByteArray} (h : (twoM xs s t).2.2 = 0) : ∃ (k m : Nat) (p q : TItem), itemIx xs s = (k : Int) ∧ itemIx xs t = (m : Int) ∧ xs[k]? = some p ∧ xs[m]? = some q ∧ p.kind = 1 ∧ q.kind = 2 ∧ twoM xs s t = (p, q, 0) := by
  by_cases hneg : itemIx xs s < 0 ∨ itemIx xs t < 0
  · rw [two_none hneg] at h; simp at h
  · obtain ⟨k, p, hk, hp⟩ := itemIx_get (xs := xs) (s := s) (by omega)
    obtain ⟨m, q, hm, hq⟩ := itemIx_get (xs := xs) (s := t) (by omega)
    rw [two_some hk hm hp hq] at h ⊢
    split at h
    · simp at h
    · rename_i hpq
      refine ⟨k, m, p, q, hk, hm, hp, hq, Classical.byContradiction fun e => hpq (.inl e), Classical.byContradiction fun e => hpq (.inr e), ?_⟩
      rw [if_neg hpq]
theorem item_text {x : TItem} {w : Int} (h : itemB x w = true) : fieldB x.fld w = true := itemB_b h
theorem item_num {x : TItem} {w : Int} (h : itemB x w = true) (hk : x.kind = 2) : numFieldB x.fld w = true := by
  have h1 := itemB_b h
  simp only [itemB, Bool.and_eq_true, Bool.or_eq_true, decide_eq_true_eq] at h
  rcases h.2 with h2 | h2
  · omega
  · simp [numFieldB, h1, h2]
/-- what a deck's cards know of the layout -/
theorem mf_cards {ps : List TPart} {wd : Int} {its : List TItem} {d : List (List Int)} (h : layCodeM wd its d (partsB ps && deckB d) = 0) {k m : Nat} {p q : TItem} (hp : its[k]? = some p) (hq : its[m]? = some q) (hq2 : q.kind = 2) :
    ∀ c ∈ d, fieldB p.fld c.length = true ∧ numFieldB q.fld c.length = true ∧ (∀ x ∈ c, 0 ≤ x ∧ x ≤ 4095) ∧ c.length ≤ 20 := by
  obtain ⟨h1, h2, h3⟩ := lay_zero h
  simp only [Bool.and_eq_true] at h2
  intro c hc
  obtain ⟨hcb, hcl⟩ := (deckB_mem h2.2).2 c hc
  have hw : ((c.length : Nat) : Int) = wd := by
    rcases h3 with h3 | h3
    · subst h3; simp at hc
    · rw [hcl]; exact h3
  have hcb := cardB_b hcb
  rw [hw]
  exact ⟨item_text (layout_item h1 hp), item_num (layout_item h1 hq) hq2, hcb.2.2, hcb.2.1⟩
/-- the parts of a valid list differ in their capital names -/
theorem parts_uniq {ps : List TPart} (h : partsB ps = true) {i j : Nat} {x y : TPart} (hx : ps[i]? = some x) (hy : ps[j]? = some y) (hij : i < j) : ¬ upB x.name = upB y.name := by
  intro e
  have hi := (List.getElem?_eq_some_iff.1 hx).1
  have hj := (List.getElem?_eq_some_iff.1 hy).1
  have hm := (partsB_mem' h).2
  have nb : ∀ z, partB z = true → nameB z.name = true := fun z hz => by simp only [partB, Bool.and_eq_true] at hz; exact hz.1.1.1
  have e2 := upB_inj (nb x (hm x (List.mem_of_getElem? hx))) (nb y (hm y (List.mem_of_getElem? hy))) e
  simp only [partsB, Bool.and_eq_true, List.all_eq_true, List.mem_range] at h
  have h3 := h.1 j hj
  rw [partOkAt_of hy] at h3
  simp only [Bool.and_eq_true, Bool.not_eq_true', List.any_eq_false, decide_eq_true_eq] at h3
  exact h3.2 x (List.mem_iff_getElem?.2 ⟨i, by rw [List.getElem?_take, if_pos hij]; exact hx⟩) e2
theorem partIx_none {ps : List TPart} {v : ByteArray} (h : ∀ (i : Nat) (x : TPart), ps[i]? = some x → ¬ upB x.name = v) : partIx ps v = -1 := by
  refine idxI_neg ?_
  rw [List.any_eq_false]
  intro x hx
  obtain ⟨i, hi⟩ := List.mem_iff_getElem?.1 hx
  simpa using h i x hi
theorem partIx_at {ps : List TPart} (h : partsB ps = true) {v : ByteArray} {k : Nat} {x : TPart} (hx : ps[k]? = some x) (he : upB x.name = v) : partIx ps v = k := by
  refine idxI_at (x := x) ?_ hx (decide_eq_true he)
  rw [List.any_eq_false]
  intro y hy
  obtain ⟨j, hj⟩ := List.mem_iff_getElem?.1 hy
  rw [List.getElem?_take] at hj
  split at hj
  · rename_i hjk
    have := parts_uniq h hj hx hjk
    rw [he] at this
    simpa using this
  · cases hj
theorem partIx_range {ps : List TPart} {v : ByteArray} (h : ¬ partIx ps v < 0) : partIx ps v < ps.length := by
  unfold partIx at *
  have := @idxI_le _ (fun y : TPart => decide (upB y.name = v)) ps
  unfold idxI at *
  split at *
  · rename_i i hi
    rw [List.findIdx?_eq_some_iff_getElem] at hi
    obtain ⟨h, _⟩ := hi
    omega
  · omega
theorem numFieldB_b {f : TField} {n : Int} (h : numFieldB f n = true) : fieldB f n = true ∧ f.to_.toNat - f.from_.toNat ≤ 12 := by
  simp only [numFieldB, Bool.and_eq_true, decide_eq_true_eq] at h
  have := fieldB_b h.1
  exact ⟨h.1, by omega⟩
def movesTo (ps : List TPart) (pf cf : TField) (d : List (List Int)) (k : Nat) : List TMove := (d.take k).map fun c => (moveAtM ps pf cf c).2
theorem movesTo_succ {ps : List TPart} {pf cf : TField} {d : List (List Int)} {k : Nat} {c : List Int} (h : d[k]? = some c) : movesTo ps pf cf d (k + 1) = movesTo ps pf cf d k ++ [(moveAtM ps pf cf c).2] := by
  unfold movesTo
  rw [List.take_add_one, h, List.map_append]; rfl
theorem movesTo_all {ps : List TPart} {pf cf : TField} {d : List (List Int)} {k : Nat} (h : d.length ≤ k) : movesTo ps pf cf d k = d.map fun c => (moveAtM ps pf cf c).2 := by
  unfold movesTo; rw [List.take_of_length_le h]
theorem partB_small {ps : List TPart} (h : partsB ps = true) {x : TPart} (hx : x ∈ ps) : x.name.size ≤ 1000 := by
  have := (partB_sizes ((partsB_mem' h).2 x hx)).1
  omega
theorem moves_len (ps : List TPart) (w : Int) (its : List TItem) (d : List (List Int)) : (movesFromM ps w its d).1.length ≤ 40 := by
  unfold movesFromM
  split
  · simp
  rename_i hl
  split
  · simp
  have hl : layCodeM w its d (partsB ps && deckB d) = 0 := Classical.byContradiction hl
  have hd : deckB d = true := by
    have := (lay_zero hl).2.1
    simp only [Bool.and_eq_true] at this
    exact this.2
  have := (deckB_mem hd).1
  unfold movesGo
  split
  · simpa using this
  · simp
end Go.M
