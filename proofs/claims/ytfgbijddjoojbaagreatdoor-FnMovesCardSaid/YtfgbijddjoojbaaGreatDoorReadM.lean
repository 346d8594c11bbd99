/- Contracts of functions of the given program, of the reference and of the laws: each says what a call returns, for all arguments that meet the premises that the theorem itself names. -/
import Derived.Test.YtfgbijddjoojbaaGreatDoorTextsM
import Derived.Test.YtfgbijddjoojbaaGreatDoorJournalM
/- Texts read line by line: plain lists. -/
namespace Go.M
open Go Go.Vc
def decs {α β : Type} (dec : β → Option α) : List β → Option (List α)
  | [] => some []
  | l :: ls => match dec l, decs dec ls with
    | some x, some xs => some (x :: xs)
    | _, _ => none
theorem decs_append {α β : Type} {dec : β → Option α} : ∀ (a b : List β), decs dec (a ++ b) = match decs dec a, decs dec b with
    | some x, some y => some (x ++ y)
    | _, _ => none
  | [], b => by
    simp only [List.nil_append, decs]
    cases decs dec b <;> rfl
  | l :: a, b => by
    simp only [List.cons_append, decs, decs_append a b]
    cases dec l <;> cases decs dec a <;> cases decs dec b <;> rfl
theorem decs_one {α β : Type} {dec : β → Option α} (l : β) : decs dec [l] = (dec l).map fun x => [x] := by
  simp only [decs]
  cases dec l <;> rfl
theorem decs_step {α β : Type} {dec : β → Option α} {ls : List β} {k : Nat} {l : β} {x : α} {out : List α} (h : decs dec (ls.take k) = some out) (hl : ls[k]? = some l) (hx : dec l = some x) :
    decs dec (ls.take (k + 1)) = some (out ++ [x]) := by
  rw [List.take_add_one, hl, decs_append, h]
  simp only [Option.toList]
  rw [decs_one, hx]
  rfl
theorem decs_fail {α β : Type} {dec : β → Option α} {ls : List β} {k : Nat} {l : β} (hl : ls[k]? = some l) (hx : dec l = none) : decs dec ls = none := by
  have e : ls = ls.take k ++ l :: ls.drop (k + 1) := by
    have := List.take_append_drop k ls
    rw [drop_cons hl] at this
    exact this.symm
  rw [e, decs_append]
  simp only [decs, hx]
  cases decs dec (List.take k ls) <;> rfl
theorem decs_len {α β : Type} {dec : β → Option α} : ∀ {ls : List β} {out : List α}, decs dec ls = some out → out.length = ls.length
  | [], out, h => by simp only [decs, Option.some.injEq] at h; subst h; rfl
  | l :: ls, out, h => by
    simp only [decs] at h
    cases hx : dec l with
    | none => rw [hx] at h; cases h
    | some x =>
      cases hs : decs dec ls with
      | none => rw [hx, hs] at h; cases h
      | some xs =>
        rw [hx, hs] at h
        simp only [Option.some.injEq] at h
        subst h
        simp [decs_len hs]
theorem decs_map {α β : Type} {dec : β → Option α} {enc : α → β} : ∀ {xs : List α}, (∀ x ∈ xs, dec (enc x) = some x) → decs dec (xs.map enc) = some xs
  | [], _ => rfl
  | x :: xs, h => by
    simp only [List.map_cons, decs, h x (by simp), decs_map (xs := xs) (fun y hy => h y (by simp [hy]))]
theorem decs_enc {α β : Type} {dec decI : β → Option α} {enc : α → β} (h : ∀ l x, dec l = some x → decI l = some x ∧ enc x = l) : ∀ {ls : List β} {xs : List α}, decs dec ls = some xs → decs decI ls = some xs ∧ xs.map enc = ls
  | [], xs, hd => by simp only [decs, Option.some.injEq] at hd; subst hd; exact ⟨rfl, rfl⟩
  | l :: ls, xs, hd => by
    simp only [decs] at hd
    cases hx : dec l with
    | none => rw [hx] at hd; cases hd
    | some x =>
      cases hs : decs dec ls with
      | none => rw [hx, hs] at hd; cases hd
      | some ys =>
        rw [hx, hs] at hd
        simp only [Option.some.injEq] at hd
        subst hd
        obtain ⟨h1, h2⟩ := h l x hx
        obtain ⟨h3, h4⟩ := decs_enc h hs
        exact ⟨by simp only [decs, h1, h3], by simp [h2, h4]⟩
def linesT (ls : List ByteArray) : List UInt8 := (ls.map fun l => l.data.toList ++ [10]).flatten
theorem splitM_linesT : ∀ (ls : List ByteArray), (∀ l ∈ ls, (10 : UInt8) ∉ l.data.toList) → splitM 10 (linesT ls) = ls.map (·.data.toList) ++ [[]]
  | [], _ => by simp [linesT, splitM, splitA]
  | l :: ls, h => by
    have e : linesT (l :: ls) = l.data.toList ++ 10 :: linesT ls := by simp [linesT]
    rw [e]
    unfold splitM
    rw [splitA_hit 10 _ _ [] (h l (by simp)), splitM_linesT ls (fun y hy => h y (by simp [hy]))]
    simp
theorem splitA_join (c : UInt8) : ∀ (l acc : List UInt8), ∃ ls last, splitA c acc l = ls ++ [last] ∧ acc ++ l = (ls.map fun x => x ++ [c]).flatten ++ last
  | [], acc => ⟨[], acc, by simp [splitA], by simp⟩
  | b :: l, acc => by
    by_cases hb : b = c
    · obtain ⟨ls, last, h1, h2⟩ := splitA_join c l []
      refine ⟨acc :: ls, last, ?_, ?_⟩
      · subst hb
        have := splitA_hit b l [] acc (by simp)
        rw [List.nil_append, List.append_nil] at this
        rw [this]
        unfold splitM
        rw [h1]
        rfl
      · simp only [List.nil_append] at h2
        subst hb
        simp [← h2]
    · obtain ⟨ls, last, h1, h2⟩ := splitA_join c l (acc ++ [b])
      refine ⟨ls, last, ?_, ?_⟩
      · rw [← h1]
        rw [splitA, if_neg hb]
      · rw [← h2]
        simp
theorem bs_toList (l : List UInt8) : (bs l).data.toList = l := by simp [bs]
theorem bs_of (s : ByteArray) : bs s.data.toList = s := bytes_ext (by simp [bs])
/-- the reference's way -/
def readS {α : Type} (dec : ByteArray → Option α) (ok : List α → Bool) (s : ByteArray) : Option (List α) :=
  if (splitS 10 s).getLast? = some { data := #[] } ∧ (splitS 10 s).length ≤ 41 then
    match decs dec (splitS 10 s).dropLast with
    | some xs => if ok xs = true then some xs else none
    | none => none
  else none
/-- the program's way -/
def readI {α : Type} (dec : ByteArray → Option α) (ok : List α → Bool) (text : List α → ByteArray) (s : ByteArray) : Option (List α) :=
  if (splitS 10 s).length ≤ 41 then
    match decs dec (splitS 10 s).dropLast with
    | some xs => if ok xs = true ∧ text xs = s then some xs else none
    | none => none
  else none
theorem splitS_lines (ls : List ByteArray) (h : ∀ l ∈ ls, (10 : UInt8) ∉ l.data.toList) : splitS 10 (bs (linesT ls)) = ls ++ [{ data := #[] }] := by
  unfold splitS
  rw [bs_toList, splitM_linesT ls h]
  rw [List.map_append, List.map_map]
  have e : (bs ∘ fun x : ByteArray => x.data.toList) = id := by
    funext x
    exact bs_of x
  rw [e]
  simp
  rfl
theorem splitS_last {s : ByteArray} {ls : List ByteArray} (h : splitS 10 s = ls ++ [{ data := #[] }]) : bs (linesT ls) = s := by
  obtain ⟨ms, last, h1, h2⟩ := splitA_join 10 s.data.toList []
  unfold splitS splitM at h
  rw [h1, List.map_append, List.map_cons, List.map_nil] at h
  obtain ⟨h3, h4⟩ := List.append_inj' h rfl
  have e : last = [] := by
    have : (bs last).data.toList = ([] : List UInt8) := by
      rw [(List.cons.inj h4).1]
    rw [bs_toList] at this
    exact this
  subst e
  rw [List.nil_append, List.append_nil] at h2
  apply bytes_ext
  rw [bs_toList, h2, ← h3]
  unfold linesT
  rw [List.map_map]
  congr 2
theorem read_eq {α : Type} {dec decI : ByteArray → Option α} {okx : α → Bool} {ok : List α → Bool} {enc : α → ByteArray} {text : List α → ByteArray}
    (h1 : ∀ l x, dec l = some x → decI l = some x ∧ enc x = l) (h2 : ∀ x, okx x = true → dec (enc x) = some x ∧ (10 : UInt8) ∉ (enc x).data.toList)
    (h3 : ∀ xs, ok xs = true → (∀ x ∈ xs, okx x = true) ∧ text xs = bs (linesT (xs.map enc))) (s : ByteArray) : readI decI ok text s = readS dec ok s := by
  have hne : splitS 10 s ≠ [] := fun e => by have := splitS_pos 10 s; rw [e] at this; simp at this
  have hcat := List.dropLast_concat_getLast hne
  unfold readI readS
  by_cases hl : (splitS 10 s).length ≤ 41
  · rw [if_pos hl]
    by_cases hz : (splitS 10 s).getLast? = some { data := #[] }
    · rw [if_pos ⟨hz, hl⟩]
      have hz' : (splitS 10 s).getLast hne = { data := #[] } := by
        rw [List.getLast?_eq_some_getLast hne] at hz
        exact Option.some.inj hz
      rw [hz'] at hcat
      have hs := splitS_last hcat.symm
      cases hd : decs dec (splitS 10 s).dropLast with
      | some xs =>
        obtain ⟨g1, g2⟩ := decs_enc h1 hd
        rw [g1]
        dsimp only
        by_cases ho : ok xs = true
        · rw [if_pos ho, if_pos ⟨ho, by rw [(h3 xs ho).2, g2, hs]⟩]
        · rw [if_neg ho, if_neg (fun h => ho h.1)]
      | none =>
        dsimp only
        cases hi : decs decI (splitS 10 s).dropLast with
        | none => rfl
        | some xs =>
          dsimp only
          rw [if_neg]
          rintro ⟨ho, ht⟩
          obtain ⟨k1, k2⟩ := h3 xs ho
          rw [k2] at ht
          have hsp := splitS_lines (xs.map enc) (fun l hl => by
            obtain ⟨x, hx, rfl⟩ := List.mem_map.1 hl
            exact (h2 x (k1 x hx)).2)
          rw [ht] at hsp
          rw [hsp, List.dropLast_concat, decs_map (fun x hx => (h2 x (k1 x hx)).1)] at hd
          cases hd
    · rw [if_neg (fun h => hz h.1)]
      cases hi : decs decI (splitS 10 s).dropLast with
      | none => rfl
      | some xs =>
        dsimp only
        rw [if_neg]
        rintro ⟨ho, ht⟩
        obtain ⟨k1, k2⟩ := h3 xs ho
        rw [k2] at ht
        have hsp := splitS_lines (xs.map enc) (fun l hl => by
          obtain ⟨x, hx, rfl⟩ := List.mem_map.1 hl
          exact (h2 x (k1 x hx)).2)
        rw [ht] at hsp
        apply hz
        rw [hsp]
        simp
  · rw [if_neg hl, if_neg (fun h => hl h.2)]
theorem readS_text {α : Type} {dec : ByteArray → Option α} {okx : α → Bool} {ok : List α → Bool} {enc : α → ByteArray}
    (h2 : ∀ x, okx x = true → dec (enc x) = some x ∧ (10 : UInt8) ∉ (enc x).data.toList) {xs : List α} (ho : ok xs = true) (hx : ∀ x ∈ xs, okx x = true) (hl : xs.length ≤ 40) :
    readS dec ok (bs (linesT (xs.map enc))) = some xs := by
  unfold readS
  rw [splitS_lines (xs.map enc) (fun l hl => by
    obtain ⟨x, h, rfl⟩ := List.mem_map.1 hl
    exact (h2 x (hx x h)).2)]
  rw [if_pos ⟨by simp, by simp; omega⟩, List.dropLast_concat, decs_map (fun x h => (h2 x (hx x h)).1)]
  dsimp only
  rw [if_pos ho]
/-! the lines of boxes -/
def boxOf (n c y k w : ByteArray) : Option TBox := if (numB c && numB y && numB k) = true then some ⟨n, numI c, numI y, numI k, w⟩ else none
def decBox (l : ByteArray) : Option TBox := match splitS 32 l with
  | [n, c, v] => match splitS 43 v with
    | [y, k] => boxOf n c y k { data := #[] }
    | _ => none
  | [n, c, v, w] => match splitS 43 v with
    | [y, k] => if w = { data := #[] } then none else boxOf n c y k w
    | _ => none
  | _ => none
def decBoxI (l : ByteArray) : Option TBox := match splitS 32 l with
  | [n, c, v] => boxOf n c (bs (Lib.cut v.data.toList [43]).1) (bs (Lib.cut v.data.toList [43]).2.1) { data := #[] }
  | [n, c, v, w] => boxOf n c (bs (Lib.cut v.data.toList [43]).1) (bs (Lib.cut v.data.toList [43]).2.1) w
  | _ => none
def encBox (x : TBox) : ByteArray := if x.lent = { data := #[] } then boxHead x else boxHead x ++ (bs [32] ++ x.lent)
def joinL (c : UInt8) : List (List UInt8) → List UInt8
  | [] => []
  | [a] => a
  | a :: b :: l => a ++ c :: joinL c (b :: l)
theorem splitA_joinL (c : UInt8) : ∀ (l acc : List UInt8), joinL c (splitA c acc l) = acc ++ l
  | [], acc => by simp [splitA, joinL]
  | b :: l, acc => by
    by_cases hb : b = c
    · subst hb
      have := splitA_hit b l [] acc (by simp)
      rw [List.nil_append, List.append_nil] at this
      rw [this]
      have ih := splitA_joinL b l []
      have hne := splitM_ne b l
      unfold splitM at hne ⊢
      cases hs : splitA b [] l with
      | nil => exact absurd hs hne
      | cons p ps =>
        rw [hs] at ih
        simp only [joinL, ih, List.nil_append]
    · rw [splitA, if_neg hb, splitA_joinL c l (acc ++ [b])]
      simp
theorem splitS_joinL {c : UInt8} {s : ByteArray} {ws : List ByteArray} (h : splitS c s = ws) : s.data.toList = joinL c (ws.map (·.data.toList)) := by
  subst h
  unfold splitS
  rw [List.map_map]
  have e : ((fun x : ByteArray => x.data.toList) ∘ bs) = id := by
    funext x
    exact bs_toList x
  rw [e, List.map_id]
  have := splitA_joinL c s.data.toList []
  rw [List.nil_append] at this
  exact this.symm
theorem splitS_three (c : UInt8) {s : List UInt8} {a b d : List UInt8} (h : s = a ++ c :: (b ++ c :: d)) (ha : c ∉ a) (hb : c ∉ b) (hd : c ∉ d) : splitS c (bs s) = [bs a, bs b, bs d] := by
  subst h
  unfold splitS splitM
  rw [bs_toList, splitA_hit c _ _ [] ha]
  unfold splitM
  rw [splitA_hit c _ _ [] hb]
  unfold splitM
  rw [splitA_miss c _ [] hd]
  simp
theorem splitS_four (c : UInt8) {s : List UInt8} {a b d e : List UInt8} (h : s = a ++ c :: (b ++ c :: (d ++ c :: e))) (ha : c ∉ a) (hb : c ∉ b) (hd : c ∉ d) (he : c ∉ e) : splitS c (bs s) = [bs a, bs b, bs d, bs e] := by
  subst h
  unfold splitS splitM
  rw [bs_toList, splitA_hit c _ _ [] ha]
  unfold splitM
  rw [splitA_hit c _ _ [] hb]
  unfold splitM
  rw [splitA_hit c _ _ [] hd]
  unfold splitM
  rw [splitA_miss c _ [] he]
  simp
theorem splitS_two (c : UInt8) {s : List UInt8} {a b : List UInt8} (h : s = a ++ c :: b) (ha : c ∉ a) (hb : c ∉ b) : splitS c (bs s) = [bs a, bs b] := by
  subst h
  unfold splitS splitM
  rw [bs_toList, splitA_hit c _ _ [] ha]
  unfold splitM
  rw [splitA_miss c _ [] hb]
  simp
theorem numI_dec {s : ByteArray} (h : numB s = true) : decB (numI s) = s := by
  unfold numB at h
  unfold numI
  cases hn : numM s with
  | none => rw [hn] at h; cases h
  | some n => exact (numM_some hn).1.symm
theorem numB_no {s : ByteArray} (h : numB s = true) {d : UInt8} (hd : d.toNat < 45) : d ∉ s.data.toList := by
  rw [← numI_dec h, toList_decB]
  exact itoa_no _ hd
theorem cut_at {c : UInt8} {p r : List UInt8} (h : c ∉ p) : Lib.cut (p ++ c :: r) [c] = (p, r, true) := by
  unfold Lib.cut
  rw [Lib.index_one, indexByte_at c r p h, if_pos (by omega)]
  simp
theorem cut_no {c : UInt8} {p : List UInt8} (h : c ∉ p) : Lib.cut p [c] = (p, [], false) := by
  unfold Lib.cut
  rw [Lib.index_one, indexByte_no c p h, if_neg (by omega)]
theorem numB_empty : numB (bs []) = false := by decide +kernel
theorem cut_two {v y k : ByteArray} (h : splitS 43 v = [y, k]) : bs (Lib.cut v.data.toList [43]).1 = y ∧ bs (Lib.cut v.data.toList [43]).2.1 = k := by
  by_cases hm : (43 : UInt8) ∈ v.data.toList
  · obtain ⟨p, r, hv, hp⟩ := byte_split hm
    unfold splitS splitM at h
    rw [hv, splitA_hit 43 _ _ [] hp] at h
    rw [hv, cut_at hp]
    simp only [List.map_cons, List.nil_append] at h
    injection h with h3 h4
    refine ⟨h3, ?_⟩
    by_cases hr : (43 : UInt8) ∈ r
    · obtain ⟨p2, r2, hv2, hp2⟩ := byte_split hr
      unfold splitM at h4
      rw [hv2, splitA_hit 43 _ _ [] hp2] at h4
      simp only [List.map_cons] at h4
      injection h4 with h5 h6
      have := splitM_ne 43 r2
      exact absurd (List.map_eq_nil_iff.1 h6) this
    · unfold splitM at h4
      rw [splitA_miss 43 _ [] hr] at h4
      simp only [List.map_cons, List.map_nil, List.nil_append] at h4
      injection h4
  · unfold splitS splitM at h
    rw [splitA_miss 43 _ [] hm] at h
    simp at h
theorem cut_bad {v : ByteArray} (h : (splitS 43 v).length ≠ 2) : numB (bs (Lib.cut v.data.toList [43]).2.1) = false := by
  by_cases hm : (43 : UInt8) ∈ v.data.toList
  · obtain ⟨p, r, hv, hp⟩ := byte_split hm
    rw [hv, cut_at hp]
    dsimp only
    by_cases hr : (43 : UInt8) ∈ r
    · cases hn : numB (bs r) with
      | false => rfl
      | true =>
        have := numB_no hn (d := 43) (by decide)
        rw [bs_toList] at this
        exact absurd hr this
    · exfalso
      apply h
      unfold splitS splitM
      rw [hv, splitA_hit 43 _ _ [] hp]
      unfold splitM
      rw [splitA_miss 43 _ [] hr]
      rfl
  · rw [cut_no hm]
    exact numB_empty
theorem boxOf_some {n c y k w : ByteArray} {x : TBox} (h : boxOf n c y k w = some x) : (numB c && numB y && numB k) = true ∧ x = ⟨n, numI c, numI y, numI k, w⟩ := by
  unfold boxOf at h
  split at h
  · rename_i hc
    exact ⟨hc, (Option.some.inj h).symm⟩
  · cases h
theorem boxHead_of {n c y k w : ByteArray} (h : (numB c && numB y && numB k) = true) : boxHead ⟨n, numI c, numI y, numI k, w⟩ = n ++ bs [32] ++ c ++ bs [32] ++ y ++ bs [43] ++ k := by
  simp only [Bool.and_eq_true] at h
  unfold boxHead
  dsimp only
  rw [numI_dec h.1.1, numI_dec h.1.2, numI_dec h.2]
theorem decBox_some {l : ByteArray} {x : TBox} (h : decBox l = some x) : decBoxI l = some x ∧ encBox x = l := by
  unfold decBox at h
  unfold decBoxI
  split at h
  · rename_i n c v hs
    split at h
    · rename_i y k hv
      obtain ⟨e1, e2⟩ := cut_two hv
      rw [e1, e2]
      refine ⟨h, ?_⟩
      obtain ⟨h1, rfl⟩ := boxOf_some h
      unfold encBox
      dsimp only
      rw [if_pos rfl, boxHead_of h1]
      apply bytes_ext
      rw [splitS_joinL hs]
      have := splitS_joinL hv
      simp [joinL, this, bs]
    · cases h
  · rename_i n c v w hs
    split at h
    · rename_i y k hv
      split at h
      · cases h
      · rename_i hw
        obtain ⟨e1, e2⟩ := cut_two hv
        rw [e1, e2]
        refine ⟨h, ?_⟩
        obtain ⟨h1, rfl⟩ := boxOf_some h
        unfold encBox
        dsimp only
        rw [if_neg hw, boxHead_of h1]
        apply bytes_ext
        rw [splitS_joinL hs]
        have := splitS_joinL hv
        simp [joinL, this, bs]
    · cases h
  · cases h
theorem decBoxI_none {l : ByteArray} (h : decBoxI l = none) : decBox l = none := by
  cases hd : decBox l with
  | none => rfl
  | some x => rw [(decBox_some hd).1] at h; cases h
theorem empty_toList {s : ByteArray} (h : s.data.toList = []) : s = { data := #[] } := bytes_ext h
theorem encBox_ok {x : TBox} (h : boxB x = true) : decBox (encBox x) = some x ∧ (10 : UInt8) ∉ (encBox x).data.toList := by
  have hb := h
  simp only [boxB, Bool.and_eq_true, Bool.or_eq_true, inB, decide_eq_true_eq] at hb
  obtain ⟨⟨⟨⟨hn, hc⟩, hy⟩, hk⟩, hl⟩ := hb
  obtain ⟨a1, b1⟩ := numI_decB (n := x.cards) (by omega) (by omega)
  obtain ⟨a2, b2⟩ := numI_decB (n := x.year) (by omega) (by omega)
  obtain ⟨a3, b3⟩ := numI_decB (n := x.keep) (by omega) (by omega)
  have n32 := name_no hn (d := 32) (by decide)
  have n10 := name_no hn (d := 10) (by decide)
  have i32 : ∀ n : Int, (32 : UInt8) ∉ Lib.itoa n := fun n => itoa_no n (by decide)
  have i43 : ∀ n : Int, (43 : UInt8) ∉ Lib.itoa n := fun n => itoa_no n (by decide)
  have i10 : ∀ n : Int, (10 : UInt8) ∉ Lib.itoa n := fun n => itoa_no n (by decide)
  have yk : splitS 43 (bs (Lib.itoa x.year ++ 43 :: Lib.itoa x.keep)) = [decB x.year, decB x.keep] := splitS_two 43 rfl (i43 _) (i43 _)
  have yk32 : (32 : UInt8) ∉ Lib.itoa x.year ++ 43 :: Lib.itoa x.keep := by
    simp only [List.mem_append, List.mem_cons, not_or]
    exact ⟨i32 _, by decide, i32 _⟩
  have hbo : ∀ w, boxOf x.name (decB x.cards) (decB x.year) (decB x.keep) w = some ⟨x.name, x.cards, x.year, x.keep, w⟩ := fun w => by
    unfold boxOf
    rw [b1, b2, b3, a1, a2, a3]
    rfl
  have hself : bs x.name.data.toList = x.name := bs_of _
  by_cases hw : x.lent = { data := #[] }
  · have e : encBox x = bs (x.name.data.toList ++ 32 :: (Lib.itoa x.cards ++ 32 :: (Lib.itoa x.year ++ 43 :: Lib.itoa x.keep))) := by
      unfold encBox boxHead
      rw [if_pos hw]
      apply bytes_ext
      simp [bs, toList_decB]
    constructor
    · have hs := splitS_three 32 (s := x.name.data.toList ++ 32 :: (Lib.itoa x.cards ++ 32 :: (Lib.itoa x.year ++ 43 :: Lib.itoa x.keep))) rfl n32 (i32 _) yk32
      rw [← e] at hs
      unfold decBox
      simp only [hs, yk]
      rw [hself]
      show boxOf x.name (decB x.cards) _ _ _ = _
      rw [hbo]
      rw [← hw]
    · rw [e, bs_toList]
      simp only [List.mem_append, List.mem_cons, not_or]
      exact ⟨n10, by decide, i10 _, by decide, i10 _, by decide, i10 _⟩
  · have hl' : nameB x.lent = true := by
      rcases hl with hl | hl
      · exact absurd hl hw
      · exact hl
    have w32 := name_no hl' (d := 32) (by decide)
    have w10 := name_no hl' (d := 10) (by decide)
    have e : encBox x = bs (x.name.data.toList ++ 32 :: (Lib.itoa x.cards ++ 32 :: ((Lib.itoa x.year ++ 43 :: Lib.itoa x.keep) ++ 32 :: x.lent.data.toList))) := by
      unfold encBox boxHead
      rw [if_neg hw]
      apply bytes_ext
      simp [bs, toList_decB]
    constructor
    · have hs := splitS_four 32 (s := x.name.data.toList ++ 32 :: (Lib.itoa x.cards ++ 32 :: ((Lib.itoa x.year ++ 43 :: Lib.itoa x.keep) ++ 32 :: x.lent.data.toList))) rfl n32 (i32 _) yk32 w32
      rw [← e] at hs
      unfold decBox
      simp only [hs, yk]
      rw [hself, bs_of, if_neg hw]
      show boxOf x.name (decB x.cards) _ _ _ = _
      rw [hbo]
    · rw [e, bs_toList]
      simp only [List.mem_append, List.mem_cons, not_or]
      exact ⟨n10, by decide, i10 _, by decide, ⟨i10 _, by decide, i10 _⟩, by decide, w10⟩
theorem boxLine_enc (x : TBox) : boxLine x = encBox x ++ bs [10] := by
  unfold boxLine encBox
  split <;> rfl
theorem cats_lines {α : Type} {f g : α → ByteArray} (h : ∀ x, f x = g x ++ bs [10]) (xs : List α) : cats (xs.map f) = linesT (xs.map g) := by
  unfold cats linesT
  rw [List.map_map, List.map_map]
  congr 2
  funext x
  simp [h, bs]
theorem boxesB_all {xs : List TBox} (h : boxesB xs = true) : ∀ x ∈ xs, boxB x = true := (boxesB_mem' h).2
theorem partsB_all {xs : List TPart} (h : partsB xs = true) : ∀ x ∈ xs, partB x = true := (partsB_mem' h).2
def readBoxes (s : ByteArray) : Option (List TBox) := readS decBox boxesB s
theorem readBoxes_eq (s : ByteArray) : readI decBoxI boxesB boxesText s = readBoxes s :=
  read_eq (enc := encBox) (okx := boxB) (fun l x h => decBox_some h) (fun x h => encBox_ok h) (fun xs h => ⟨boxesB_all h, by
    unfold boxesText
    rw [if_pos h, cats_lines boxLine_enc]⟩) s
theorem readBoxes_text {xs : List TBox} (h : boxesB xs = true) : readBoxes (boxesText xs) = some xs := by
  unfold boxesText
  rw [if_pos h, cats_lines boxLine_enc]
  exact readS_text (okx := boxB) (fun x h => encBox_ok h) h (boxesB_all h) (boxesB_mem' h).1
theorem readS_ok {α : Type} {dec : ByteArray → Option α} {ok : List α → Bool} {s : ByteArray} {xs : List α} (h : readS dec ok s = some xs) : ok xs = true := by
  unfold readS at h
  split at h
  · split at h
    · split at h
      · rename_i ho
        rw [← Option.some.inj h]
        exact ho
      · cases h
    · cases h
  · cases h
/-! the lines of parts -/
def partRd (n c l p : ByteArray) : Option TPart := if (numB c && numB l && numB p) = true then some ⟨n, numI c, numI l, numI p⟩ else none
def ofB : ByteArray := bs [111, 102]
def atB : ByteArray := bs [97, 116]
def decPart (l : ByteArray) : Option TPart := match splitS 32 l with
  | [n, c, o, m, a, p] => if o = ofB ∧ a = atB then partRd n c m p else none
  | _ => none
def decPartI (l : ByteArray) : Option TPart := match splitS 32 l with
  | [n, c, _, m, _, p] => partRd n c m p
  | _ => none
def encPart (x : TPart) : ByteArray := x.name ++ bs [32] ++ decB x.count ++ bs [32] ++ bs [111, 102] ++ bs [32] ++ decB x.least ++ bs [32] ++ bs [97, 116] ++ bs [32] ++ decB x.price
theorem partLine_enc (x : TPart) : partLine x = encPart x ++ bs [10] := rfl
theorem partRd_some {n c l p : ByteArray} {x : TPart} (h : partRd n c l p = some x) : (numB c && numB l && numB p) = true ∧ x = ⟨n, numI c, numI l, numI p⟩ := by
  unfold partRd at h
  split at h
  · rename_i hc
    exact ⟨hc, (Option.some.inj h).symm⟩
  · cases h
theorem decPart_some {l : ByteArray} {x : TPart} (h : decPart l = some x) : decPartI l = some x ∧ encPart x = l := by
  unfold decPart at h
  unfold decPartI
  split at h
  · rename_i n c o m a p hs
    split at h
    · rename_i hoa
      refine ⟨h, ?_⟩
      obtain ⟨h1, rfl⟩ := partRd_some h
      unfold encPart
      dsimp only
      simp only [Bool.and_eq_true] at h1
      rw [numI_dec h1.1.1, numI_dec h1.1.2, numI_dec h1.2]
      apply bytes_ext
      rw [splitS_joinL hs, hoa.1, hoa.2]
      simp [joinL, bs, ofB, atB]
    · cases h
  · cases h
theorem decPartI_none {l : ByteArray} (h : decPartI l = none) : decPart l = none := by
  cases hd : decPart l with
  | none => rfl
  | some x => rw [(decPart_some hd).1] at h; cases h
theorem splitS_six (c : UInt8) {s : List UInt8} {a b d e f g : List UInt8} (h : s = a ++ c :: (b ++ c :: (d ++ c :: (e ++ c :: (f ++ c :: g))))) (ha : c ∉ a) (hb : c ∉ b) (hd : c ∉ d) (he : c ∉ e) (hf : c ∉ f) (hg : c ∉ g) : splitS c (bs s) = [bs a, bs b, bs d, bs e, bs f, bs g] := by
  subst h
  unfold splitS splitM
  rw [bs_toList, splitA_hit c _ _ [] ha]
  unfold splitM
  rw [splitA_hit c _ _ [] hb]
  unfold splitM
  rw [splitA_hit c _ _ [] hd]
  unfold splitM
  rw [splitA_hit c _ _ [] he]
  unfold splitM
  rw [splitA_hit c _ _ [] hf]
  unfold splitM
  rw [splitA_miss c _ [] hg]
  simp
theorem encPart_ok {x : TPart} (h : partB x = true) : decPart (encPart x) = some x ∧ (10 : UInt8) ∉ (encPart x).data.toList := by
  have hb := h
  simp only [partB, Bool.and_eq_true, inB, decide_eq_true_eq] at hb
  obtain ⟨⟨⟨hn, hc⟩, hy⟩, hk⟩ := hb
  obtain ⟨a1, b1⟩ := numI_decB (n := x.count) (by omega) (by omega)
  obtain ⟨a2, b2⟩ := numI_decB (n := x.least) (by omega) (by omega)
  obtain ⟨a3, b3⟩ := numI_decB (n := x.price) (by omega) (by omega)
  have n32 := name_no hn (d := 32) (by decide)
  have n10 := name_no hn (d := 10) (by decide)
  have i32 : ∀ n : Int, (32 : UInt8) ∉ Lib.itoa n := fun n => itoa_no n (by decide)
  have i10 : ∀ n : Int, (10 : UInt8) ∉ Lib.itoa n := fun n => itoa_no n (by decide)
  have e : encPart x = bs (x.name.data.toList ++ 32 :: (Lib.itoa x.count ++ 32 :: ([111, 102] ++ 32 :: (Lib.itoa x.least ++ 32 :: ([97, 116] ++ 32 :: Lib.itoa x.price))))) := by
    unfold encPart
    apply bytes_ext
    simp [bs, toList_decB]
  constructor
  · have hs := splitS_six 32 (s := x.name.data.toList ++ 32 :: (Lib.itoa x.count ++ 32 :: ([111, 102] ++ 32 :: (Lib.itoa x.least ++ 32 :: ([97, 116] ++ 32 :: Lib.itoa x.price))))) rfl n32 (i32 _) (by decide) (i32 _) (by decide) (i32 _)
    rw [← e] at hs
    unfold decPart
    simp only [hs]
    rw [bs_of, if_pos ⟨rfl, rfl⟩]
    unfold partRd
    show (if (numB (decB _) && numB (decB _) && numB (decB _)) = true then some (TPart.mk x.name (numI (decB _)) (numI (decB _)) (numI (decB _))) else none) = _
    rw [b1, b2, b3, a1, a2, a3]
    rfl
  · rw [e, bs_toList]
    simp only [List.mem_append, List.mem_cons, not_or]
    exact ⟨n10, by decide, i10 _, by decide, by decide, by decide, i10 _, by decide, by decide, by decide, i10 _⟩
def readParts (s : ByteArray) : Option (List TPart) := readS decPart partsB s
theorem readParts_eq (s : ByteArray) : readI decPartI partsB partsText s = readParts s :=
  read_eq (enc := encPart) (okx := partB) (fun l x h => decPart_some h) (fun x h => encPart_ok h) (fun xs h => ⟨partsB_all h, by
    unfold partsText
    rw [if_pos h, cats_lines partLine_enc]⟩) s
theorem readParts_text {xs : List TPart} (h : partsB xs = true) : readParts (partsText xs) = some xs := by
  unfold partsText
  rw [if_pos h, cats_lines partLine_enc]
  exact readS_text (okx := partB) (fun x h => encPart_ok h) h (partsB_all h) (partsB_mem' h).1
end Go.M
