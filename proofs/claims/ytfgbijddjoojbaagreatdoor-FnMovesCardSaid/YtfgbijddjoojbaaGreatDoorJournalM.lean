/- What the journal's functions compute: plain lists. No conditions. -/
import Derived.Test.YtfgbijddjoojbaaGreatDoorNum
import Derived.Test.YtfgbijddjoojbaaGreatDoorNotes
/- What the journal's functions compute: plain Lean. -/
namespace Go.M
open Go Go.Vc
def spB : ByteArray := bs [32]
def nlB : ByteArray := bs [10]
def wordsB (n : TNote) : ByteArray := decB n.tray ++ spB ++ decB n.count ++ spB ++ decB n.sum ++ spB ++ n.what
def chain1 (s : Int) (c : UInt8) : Int := (37 * s + c.toNat) % 65521
def chainL (before : Int) (l : List UInt8) : Int := l.foldl chain1 ((before + 17) % 65521)
def chainM (before : Int) (n : TNote) : Int := chainL before (wordsB n).data.toList
def lineB (chain : Int) (n : TNote) : ByteArray := decB chain ++ spB ++ wordsB n ++ nlB
theorem chain_b (l : List UInt8) : ∀ s : Int, 0 ≤ s → s ≤ 65520 → 0 ≤ l.foldl chain1 s ∧ l.foldl chain1 s ≤ 65520 := by
  induction l with
  | nil => intro s h1 h2; exact ⟨h1, h2⟩
  | cons c l ih =>
    intro s h1 h2
    exact ih _ (by unfold chain1; omega) (by unfold chain1; omega)
theorem chainL_b (before : Int) (h : 0 ≤ before) (l : List UInt8) : 0 ≤ chainL before l ∧ chainL before l ≤ 65520 := chain_b l _ (by omega) (by omega)
theorem chainM_b (before : Int) (h : 0 ≤ before) (n : TNote) : 0 ≤ chainM before n ∧ chainM before n ≤ 65520 := chainL_b before h _
theorem chain_take {l : List UInt8} {k : Nat} {c : UInt8} (h : l[k]? = some c) (s : Int) : (l.take (k + 1)).foldl chain1 s = chain1 ((l.take k).foldl chain1 s) c := by
  rw [List.take_add_one, h]; simp
/-- the note of a line, and its chain number -/
def noteRead (line : ByteArray) (before : Int) : Option (TNote × Int) :=
  match splitS 32 line with
  | [_, w1, w2, w3, w4] =>
    if (numB w1 && numB w2 && numB w3 && noteB ⟨numI w1, numI w2, numI w3, w4⟩) = true ∧ lineB (chainM before ⟨numI w1, numI w2, numI w3, w4⟩) ⟨numI w1, numI w2, numI w3, w4⟩ = line ++ nlB then
      some (⟨numI w1, numI w2, numI w3, w4⟩, chainM before ⟨numI w1, numI w2, numI w3, w4⟩)
    else none
  | _ => none
theorem noteRead_ok {line : ByteArray} {before : Int} {n : TNote} {c : Int} (h : noteRead line before = some (n, c)) : noteB n = true ∧ c = chainM before n ∧ lineB c n = line ++ nlB := by
  unfold noteRead at h
  split at h
  · split at h
    · rename_i hc
      simp only [Bool.and_eq_true] at hc
      simp only [Option.some.injEq, Prod.mk.injEq] at h
      obtain ⟨h1, h2⟩ := h
      subst h1
      subst h2
      exact ⟨hc.1.2, rfl, hc.2⟩
    · cases h
  · cases h
/-- the notes of the longest beginning that is a journal, the last chain number, how many bytes it has -/
def readF : Nat → List UInt8 → Int → List TNote × Int × Nat
  | 0, _, ch => ([], ch, 0)
  | f + 1, l, ch =>
    if 10 ∈ l then
      match noteRead (bs (l.takeWhile (· ≠ 10))) ch with
      | none => ([], ch, 0)
      | some (n, c) =>
        (n :: (readF f (l.drop ((l.takeWhile (· ≠ 10)).length + 1)) c).1, (readF f (l.drop ((l.takeWhile (· ≠ 10)).length + 1)) c).2.1, (l.takeWhile (· ≠ 10)).length + 1 + (readF f (l.drop ((l.takeWhile (· ≠ 10)).length + 1)) c).2.2)
    else ([], ch, 0)
def readJ (l : List UInt8) (ch : Int) : List TNote × Int × Nat := readF l.length l ch
theorem takeWhile_at {p r : List UInt8} (h : (10 : UInt8) ∉ p) : (p ++ 10 :: r).takeWhile (· ≠ 10) = p := by
  induction p with
  | nil => simp
  | cons b p ih =>
    have hb : b ≠ 10 := fun e => h (by simp [e])
    rw [List.cons_append, List.takeWhile_cons, if_pos (by simpa using hb), ih (fun hh => h (by simp [hh]))]
theorem readF_more : ∀ (f g : Nat) (l : List UInt8) (ch : Int), l.length ≤ f → l.length ≤ g → readF f l ch = readF g l ch
  | 0, 0, _, _, _, _ => rfl
  | 0, g + 1, l, ch, h, _ => by
    have : l = [] := List.eq_nil_of_length_eq_zero (by omega)
    subst this; simp [readF]
  | f + 1, 0, l, ch, _, h => by
    have : l = [] := List.eq_nil_of_length_eq_zero (by omega)
    subst this; simp [readF]
  | f + 1, g + 1, l, ch, h1, h2 => by
    simp only [readF]
    split
    · rename_i hm
      have hl : 0 < l.length := List.length_pos_iff.2 (fun e => by rw [e] at hm; cases hm)
      split
      · rfl
      · rename_i n c hn
        have e : readF f (l.drop ((l.takeWhile (· ≠ 10)).length + 1)) c = readF g (l.drop ((l.takeWhile (· ≠ 10)).length + 1)) c :=
          readF_more f g _ c (by simp; omega) (by simp; omega)
        rw [e]
    · rfl
theorem readJ_none {l : List UInt8} (h : (10 : UInt8) ∉ l) (ch : Int) : readJ l ch = ([], ch, 0) := by
  unfold readJ
  cases l.length with
  | zero => rfl
  | succ f => simp only [readF, if_neg h]
theorem readJ_bad {p r : List UInt8} (h : (10 : UInt8) ∉ p) {ch : Int} (hn : noteRead (bs p) ch = none) : readJ (p ++ 10 :: r) ch = ([], ch, 0) := by
  unfold readJ
  rw [List.length_append, List.length_cons, ← Nat.add_assoc]
  simp only [readF, takeWhile_at h, hn]
  rw [if_pos (by simp)]
theorem readJ_good {p r : List UInt8} (h : (10 : UInt8) ∉ p) {ch c : Int} {n : TNote} (hn : noteRead (bs p) ch = some (n, c)) :
    readJ (p ++ 10 :: r) ch = (n :: (readJ r c).1, (readJ r c).2.1, p.length + 1 + (readJ r c).2.2) := by
  unfold readJ
  rw [List.length_append, List.length_cons, ← Nat.add_assoc]
  have e : (p ++ 10 :: r).drop (p.length + 1) = r := by simp
  simp only [readF, takeWhile_at h, hn, e]
  rw [if_pos (by simp), readF_more (p.length + r.length) r.length r c (by omega) (Nat.le_refl _)]
theorem readJ_ok : ∀ (k : Nat) (l : List UInt8) (ch : Int), l.length ≤ k → 0 ≤ ch → ch ≤ 65520 → (∀ n ∈ (readJ l ch).1, noteB n = true) ∧ 0 ≤ (readJ l ch).2.1 ∧ (readJ l ch).2.1 ≤ 65520 ∧ (readJ l ch).2.2 ≤ l.length ∧ (readJ l ch).1.length ≤ (readJ l ch).2.2
  | k, l, ch, hk, h0, h1 => by
    by_cases hm : (10 : UInt8) ∈ l
    · obtain ⟨p, r, rfl, hp⟩ := byte_split hm
      cases hn : noteRead (bs p) ch with
      | none => rw [readJ_bad hp hn]; exact ⟨by simp, h0, h1, by simp, by simp⟩
      | some x =>
        obtain ⟨n, c⟩ := x
        rw [readJ_good hp hn]
        obtain ⟨g1, g2, _⟩ := noteRead_ok hn
        subst g2
        have hb := chainM_b ch h0 n
        match k, hk with
        | 0, hk => simp at hk
        | k + 1, hk =>
          have ih := readJ_ok k r _ (by simp at hk; omega) hb.1 hb.2
          refine ⟨fun m hm => ?_, ih.2.1, ih.2.2.1, ?_, ?_⟩
          · rcases List.mem_cons.1 hm with rfl | hm
            · exact g1
            · exact ih.1 m hm
          · have := ih.2.2.2.1
            simp; omega
          · have := ih.2.2.2.2
            simp; omega
    · rw [readJ_none hm]
      exact ⟨by simp, h0, h1, by simp, by simp⟩
def notesM (s : ByteArray) : List TNote := (readJ s.data.toList 0).1
def journalCode (s : ByteArray) : Int := if 4000 < s.size then 5 else if (readJ s.data.toList 0).2.2 < s.size then 8 else 0
def chainOfM (before : Int) (x : TNote) : Int × Int := if noteB x = false then (0, 1) else if inB before 0 65520 = false then (0, 2) else (chainM before x, 0)
theorem name_size {s : ByteArray} (h : nameB s = true) : s.size ≤ 12 := by
  simp only [nameB, nameL, Bool.and_eq_true, decide_eq_true_eq] at h
  have := h.1.1.2
  simpa using this
theorem noteB_what {x : TNote} (h : noteB x = true) : x.what.size ≤ 12 := by
  simp only [noteB, Bool.and_eq_true] at h
  exact name_size h.2
theorem words_size {x : TNote} (hx : x.ok) : (wordsB x).size ≤ 66 + x.what.size := by
  obtain ⟨h1, h2, h3, _⟩ := hx
  have l1 := decB_len h1.1 h1.2
  have l2 := decB_len h2.1 h2.2
  have l3 := decB_len h3.1 h3.2
  have e : spB.size = 1 := rfl
  simp only [wordsB, ByteArray.size_append, e]
  omega
theorem line_size {c : Int} (h0 : 0 ≤ c) (h1 : c ≤ 65520) {x : TNote} (hx : x.ok) : (lineB c x).size ≤ 89 + x.what.size := by
  have l1 := decB_len (n := c) (by omega) (by omega)
  have l2 := words_size hx
  have e : spB.size = 1 := rfl
  have e2 : nlB.size = 1 := rfl
  simp only [lineB, ByteArray.size_append, e, e2]
  omega
theorem noteB_ok {x : TNote} (h : noteB x = true) : x.ok := by
  have hw := noteB_what h
  simp only [noteB, Bool.and_eq_true, inB, decide_eq_true_eq] at h
  refine ⟨⟨by omega, by omega⟩, ⟨by omega, by omega⟩, ⟨by omega, by omega⟩, ?_⟩
  simp only [strok]
  omega
/-- the chain number and the text behind some notes -/
def jStep (s : Int × List UInt8) (n : TNote) : Int × List UInt8 := (chainM s.1 n, s.2 ++ (lineB (chainM s.1 n) n).data.toList)
def jSt (xs : List TNote) : Int × List UInt8 := xs.foldl jStep (0, [])
theorem jSt_take {xs : List TNote} {k : Nat} {x : TNote} (h : xs[k]? = some x) : jSt (xs.take (k + 1)) = jStep (jSt (xs.take k)) x := by
  unfold jSt
  rw [List.take_add_one, h]; simp
theorem jFold_b : ∀ (xs : List TNote) (s : Int × List UInt8), 0 ≤ s.1 → s.1 ≤ 65520 → 0 ≤ (xs.foldl jStep s).1 ∧ (xs.foldl jStep s).1 ≤ 65520
  | [], s, h0, h1 => ⟨h0, h1⟩
  | x :: xs, s, h0, h1 => by
    have := chainM_b s.1 h0 x
    exact jFold_b xs _ this.1 this.2
theorem jSt_b (xs : List TNote) : 0 ≤ (jSt xs).1 ∧ (jSt xs).1 ≤ 65520 := jFold_b xs (0, []) (by decide) (by decide)
theorem jFold_le : ∀ (xs : List TNote) (s : Int × List UInt8), s.2.length ≤ (xs.foldl jStep s).2.length
  | [], s => Nat.le_refl _
  | x :: xs, s => by
    have := jFold_le xs (jStep s x)
    simp only [List.foldl_cons]
    refine Nat.le_trans ?_ this
    simp [jStep]
theorem jSt_le (xs : List TNote) (k : Nat) : (jSt (xs.take k)).2.length ≤ (jSt xs).2.length := by
  have e : xs = xs.take k ++ xs.drop k := (List.take_append_drop _ _).symm
  have : jSt xs = (xs.drop k).foldl jStep (jSt (xs.take k)) := by
    unfold jSt
    rw [← List.foldl_append, List.take_append_drop]
  rw [this]
  exact jFold_le _ _
theorem jSt_size : ∀ (xs : List TNote), (∀ x ∈ xs, noteB x = true) → (jSt xs).2.length ≤ xs.length * 101 := by
  have key : ∀ (xs : List TNote) (s : Int × List UInt8), 0 ≤ s.1 → s.1 ≤ 65520 → (∀ x ∈ xs, noteB x = true) → (xs.foldl jStep s).2.length ≤ s.2.length + xs.length * 101 := by
    intro xs
    induction xs with
    | nil => intro s _ _ _; simp
    | cons x xs ih =>
      intro s h0 h1 hx
      have hb := chainM_b s.1 h0 x
      have hn := hx x (by simp)
      have hl := line_size (c := chainM s.1 x) (by omega) (by omega) (noteB_ok hn)
      have hw := noteB_what hn
      have := ih (jStep s x) hb.1 hb.2 (fun y hy => hx y (by simp [hy]))
      have e : (jStep s x).2.length = s.2.length + (lineB (chainM s.1 x) x).size := by simp [jStep]
      simp only [List.foldl_cons, List.length_cons, Nat.add_mul]
      omega
  intro xs h
  have := key xs (0, []) (by decide) (by decide) h
  unfold jSt
  simpa using this
def journalOfM (xs : List TNote) : ByteArray × Int :=
  if xs.all noteB = false then ({ data := #[] }, 7) else if 4000 < (jSt xs).2.length then ({ data := #[] }, 5) else (bs (jSt xs).2, 0)
theorem all_take_succ {α : Type} {p : α → Bool} {xs : List α} {k : Nat} {x : α} (h : xs[k]? = some x) : (xs.take (k + 1)).all p = ((xs.take k).all p && p x) := by
  rw [List.take_add_one, h]; simp
theorem all_false_at {α : Type} {p : α → Bool} {xs : List α} {k : Nat} {x : α} (h : xs[k]? = some x) (hp : p x = false) : xs.all p = false := by
  rw [List.all_eq_false]
  exact ⟨x, List.mem_of_getElem? h, by simp [hp]⟩
end Go.M
/- More of the journal: plain Lean. -/
namespace Go.M
open Go Go.Vc
theorem numI_ok (s : ByteArray) : i64ok (numI s) := by
  unfold numI
  cases h : numM s with
  | none => exact ⟨by decide, by decide⟩
  | some n =>
    obtain ⟨_, _, h1, h2⟩ := numM_some h
    exact ⟨by simp; omega, by simp; omega⟩
theorem list5 {α : Type} {l : List α} (h : l.length = 5) : ∃ a b c d e, l = [a, b, c, d, e] := by
  match l, h with
  | [a, b, c, d, e], _ => exact ⟨a, b, c, d, e, rfl⟩
theorem noteRead_not {line : ByteArray} (h : (splitS 32 line).length ≠ 5) (before : Int) : noteRead line before = none := by
  unfold noteRead
  split
  · rename_i hh; rw [hh] at h; exact absurd rfl h
  · rfl
theorem noteRead_five {line a w1 w2 w3 w4 : ByteArray} (h : splitS 32 line = [a, w1, w2, w3, w4]) (before : Int) : noteRead line before =
    if (numB w1 && numB w2 && numB w3 && noteB ⟨numI w1, numI w2, numI w3, w4⟩) = true ∧ lineB (chainM before ⟨numI w1, numI w2, numI w3, w4⟩) ⟨numI w1, numI w2, numI w3, w4⟩ = line ++ nlB then
      some (⟨numI w1, numI w2, numI w3, w4⟩, chainM before ⟨numI w1, numI w2, numI w3, w4⟩)
    else none := by
  unfold noteRead
  rw [h]
theorem bs_take_drop (s : ByteArray) (i j : Nat) : (bs ((s.data.toList.drop i).take j)).size = min j (s.size - i) := by
  rw [bs_size]; simp
/-- the text from a place on, at the next newline -/
theorem line_of {l : List UInt8} {at_ : Nat} {p r : List UInt8} (h : l.drop at_ = p ++ 10 :: r) : l.drop (at_ + (p.length + 1)) = r := by
  rw [← List.drop_drop, h]
  simp
def notesOfM (s : ByteArray) : List TNote × Int × Int := if journalCode s = 0 then ((readJ s.data.toList 0).1, (readJ s.data.toList 0).2.1, 0) else ([], 0, journalCode s)
theorem journalCode_cases (s : ByteArray) : (4000 < s.size ∧ journalCode s = 5) ∨ (s.size ≤ 4000 ∧ (readJ s.data.toList 0).2.2 < s.size ∧ journalCode s = 8) ∨ (s.size ≤ 4000 ∧ ¬ (readJ s.data.toList 0).2.2 < s.size ∧ journalCode s = 0) := by
  unfold journalCode
  by_cases h1 : 4000 < s.size
  · exact .inl ⟨h1, if_pos h1⟩
  · rw [if_neg h1]
    by_cases h2 : (readJ s.data.toList 0).2.2 < s.size
    · exact .inr (.inl ⟨by omega, h2, if_pos h2⟩)
    · exact .inr (.inr ⟨by omega, h2, if_neg h2⟩)
def addNoteM (s : ByteArray) (x : TNote) : ByteArray × Int :=
  if journalCode s = 0 then
    if noteB x = false then ({ data := #[] }, 7)
    else if 4000 < s.size + (lineB (chainM (readJ s.data.toList 0).2.1 x) x).size then ({ data := #[] }, 5) else (s ++ lineB (chainM (readJ s.data.toList 0).2.1 x) x, 0)
  else ({ data := #[] }, journalCode s)
def checkM (s : ByteArray) : Int × Int := if 4000 < s.size then (0, 5) else ((readJ s.data.toList 0).2.2, 0)
def recoverM (s : ByteArray) : ByteArray × Int × Int := if 4000 < s.size then ({ data := #[] }, 0, 5) else (s.extract 0 (readJ s.data.toList 0).2.2, s.size - (readJ s.data.toList 0).2.2, 0)
def aboutL (l : List TNote) (t : Int) : List TNote := l.filter fun x => decide (x.tray = t)
def aboutM (s : ByteArray) (t : Int) : List TNote × Int :=
  if journalCode s = 0 then if inB t 0 5 = true then (aboutL (readJ s.data.toList 0).1 t, 0) else ([], 2) else ([], journalCode s)
def lastM (s : ByteArray) (t : Int) : TNote × Int :=
  if (aboutM s t).2 = 0 then match (aboutM s t).1.getLast? with | none => (⟨0, 0, 0, { data := #[] }⟩, 3) | some x => (x, 0) else (⟨0, 0, 0, { data := #[] }⟩, (aboutM s t).2)
def lastCount (l : List TNote) : Int := match l.getLast? with | none => 0 | some x => x.count
def sumTo (l : List TNote) : Nat → Int
  | 0 => 0
  | k + 1 => sumTo l k + lastCount (aboutL l k)
def cardsM (s : ByteArray) : Int × Int := if journalCode s = 0 then (sumTo (readJ s.data.toList 0).1 6, 0) else (0, journalCode s)
def historyM (s : ByteArray) (t : Int) : List Int × Int := if (aboutM s t).2 = 0 then ((aboutM s t).1.map (·.count), 0) else ([], (aboutM s t).2)
theorem aboutL_take {l : List TNote} {k : Nat} {x : TNote} (h : l[k]? = some x) (t : Int) : aboutL (l.take (k + 1)) t = if x.tray = t then aboutL (l.take k) t ++ [x] else aboutL (l.take k) t := by
  unfold aboutL
  rw [List.take_add_one, h]
  simp only [Option.toList_some, List.filter_append, List.filter_cons, List.filter_nil]
  by_cases hx : x.tray = t
  · simp [hx]
  · simp [hx]
theorem aboutL_mem {l : List TNote} {t : Int} {x : TNote} (h : x ∈ aboutL l t) : x ∈ l := (List.mem_filter.1 h).1
theorem aboutL_len (l : List TNote) (t : Int) : (aboutL l t).length ≤ l.length := List.length_filter_le _ _
theorem lastCount_b {l : List TNote} (h : ∀ x ∈ l, noteB x = true) : 0 ≤ lastCount l ∧ lastCount l ≤ 100000 := by
  unfold lastCount
  cases hl : l.getLast? with
  | none => exact ⟨by decide, by decide⟩
  | some x =>
    have := h x (List.mem_of_getLast? hl)
    simp only [noteB, Bool.and_eq_true, inB, decide_eq_true_eq] at this
    exact ⟨by show 0 ≤ x.count; omega, by show x.count ≤ 100000; omega⟩
theorem sumTo_b {l : List TNote} (h : ∀ x ∈ l, noteB x = true) : ∀ k, 0 ≤ sumTo l k ∧ sumTo l k ≤ k * 100000
  | 0 => ⟨by simp [sumTo], by simp [sumTo]⟩
  | k + 1 => by
    have h1 := sumTo_b h k
    have h2 := lastCount_b (l := aboutL l k) (fun x hx => h x (aboutL_mem hx))
    simp only [sumTo]
    omega
theorem aboutM_ok {s : ByteArray} {t : Int} : (∀ x ∈ (aboutM s t).1, noteB x = true) ∧ (aboutM s t).1.length ≤ 4000 := by
  have h := readJ_ok _ s.data.toList 0 (Nat.le_refl _) (by omega) (by omega)
  have hsz : s.data.toList.length = s.size := by simp
  unfold aboutM
  rcases journalCode_cases s with ⟨h1, h2⟩ | ⟨h1, h2, h3⟩ | ⟨h1, h2, h3⟩
  · rw [h2]; exact ⟨by simp, by simp⟩
  · rw [h3]; exact ⟨by simp, by simp⟩
  · rw [h3, if_pos rfl]
    split
    · refine ⟨fun x hx => h.1 x (aboutL_mem hx), ?_⟩
      have := aboutL_len (readJ s.data.toList 0).1 t
      show (aboutL (readJ s.data.toList 0).1 t).length ≤ 4000
      omega
    · exact ⟨by simp, by simp⟩
theorem getLast_at {α : Type} {l : List α} {n : Nat} (h : l.length = n + 1) : l.getLast? = l[n]? := by
  rw [List.getLast?_eq_getElem?]
  congr 1
  omega
theorem notesOfM_len (s : ByteArray) : (notesOfM s).1.length ≤ 4000 := by
  have h := readJ_ok _ s.data.toList 0 (Nat.le_refl _) (by omega) (by omega)
  have hsz : s.data.toList.length = s.size := by simp
  unfold notesOfM
  rcases journalCode_cases s with ⟨h1, h2⟩ | ⟨h1, h2, h3⟩ | ⟨h1, h2, h3⟩
  · rw [h2]; simp
  · rw [h3]; simp
  · rw [h3, if_pos rfl]
    show (readJ s.data.toList 0).1.length ≤ 4000
    omega
theorem historyM_len (s : ByteArray) (t : Int) : (historyM s t).1.length ≤ 4000 := by
  have h := (aboutM_ok (s := s) (t := t)).2
  unfold historyM
  split
  · simpa using h
  · simp
end Go.M
/- The round trip of a journal: plain Lean. -/
namespace Go.M
open Go Go.Vc
theorem dig_ne {c : UInt8} (h : isDig c = true) (d : UInt8) (hd : d.toNat < 45) : c ≠ d := by
  rintro rfl
  unfold isDig at h
  simp only [Bool.and_eq_true, decide_eq_true_eq] at h
  omega
theorem itoa_no (n : Int) {d : UInt8} (hd : d.toNat < 45) : d ∉ Lib.itoa n := by
  intro h
  unfold Lib.itoa at h
  split at h
  · rcases List.mem_cons.1 h with h | h
    · rw [h] at hd; exact absurd hd (by decide)
    · exact dig_ne (decDigits_dig _ _ h) d hd rfl
  · exact dig_ne (decDigits_dig _ _ h) d hd rfl
theorem decDigits_len : ∀ (k u : Nat), u < 10 ^ (k + 1) → (Lib.decDigits u).length ≤ k + 1
  | 0, u, h => by
    rw [Lib.decDigits, dif_pos (by simpa using h)]
    simp
  | k + 1, u, h => by
    rw [Lib.decDigits]
    by_cases hu : u < 10
    · rw [dif_pos hu]; simp
    · rw [dif_neg hu]
      have := decDigits_len k (u / 10) (by
        rw [Nat.pow_succ] at h
        omega)
      simp only [List.length_append, List.length_cons, List.length_nil]
      omega
theorem decDigits_len18 {n : Int} (h0 : -1000000000000000000 < n) (h1 : n < 1000000000000000000) : (Lib.decDigits n.natAbs).length ≤ 18 :=
  decDigits_len 17 _ (by
    have e : (10 : Nat) ^ (17 + 1) = 1000000000000000000 := by decide
    rw [e]
    omega)
theorem numI_decB {n : Int} (h0 : -1000000000000000000 < n) (h1 : n < 1000000000000000000) : numI (decB n) = n ∧ numB (decB n) = true := by
  unfold numI numB
  rw [numM_decB (decDigits_len18 h0 h1)]
  exact ⟨rfl, rfl⟩
theorem name_no {s : ByteArray} (h : nameB s = true) {d : UInt8} (hd : d.toNat < 45) : d ∉ s.data.toList := by
  intro hm
  simp only [nameB, nameL, Bool.and_eq_true] at h
  have := List.all_eq_true.1 h.2 d hm
  simp only [nameCh, smallN, digitN, Bool.or_eq_true, Bool.and_eq_true, decide_eq_true_eq] at this
  omega
/-- a line without its newline -/
def lineL (c : Int) (x : TNote) : List UInt8 := Lib.itoa c ++ 32 :: (Lib.itoa x.tray ++ 32 :: (Lib.itoa x.count ++ 32 :: (Lib.itoa x.sum ++ 32 :: x.what.data.toList)))
theorem lineB_eq (c : Int) (x : TNote) : lineB c x = bs (lineL c x) ++ nlB := by
  apply bytes_ext
  simp [lineB, wordsB, lineL, spB, nlB, bs, toList_decB]
theorem lineL_no {c : Int} {x : TNote} (h : noteB x = true) : (10 : UInt8) ∉ lineL c x := by
  have hw : nameB x.what = true := by
    simp only [noteB, Bool.and_eq_true] at h
    exact h.2
  have h0 : (10 : UInt8).toNat < 45 := by decide
  simp only [lineL, List.mem_append, List.mem_cons, not_or]
  refine ⟨itoa_no c h0, by decide, itoa_no _ h0, by decide, itoa_no _ h0, by decide, itoa_no _ h0, by decide, name_no hw h0⟩
theorem lineL_split {c : Int} {x : TNote} (h : noteB x = true) : splitS 32 (bs (lineL c x)) = [decB c, decB x.tray, decB x.count, decB x.sum, x.what] := by
  have hw : nameB x.what = true := by
    simp only [noteB, Bool.and_eq_true] at h
    exact h.2
  have h0 : (32 : UInt8).toNat < 45 := by decide
  have e : (bs (lineL c x)).data.toList = lineL c x := by simp [bs]
  unfold splitS splitM
  rw [e]
  unfold lineL
  rw [splitA_hit 32 _ _ [] (itoa_no c h0)]
  unfold splitM
  rw [splitA_hit 32 _ _ [] (itoa_no _ h0)]
  unfold splitM
  rw [splitA_hit 32 _ _ [] (itoa_no _ h0)]
  unfold splitM
  rw [splitA_hit 32 _ _ [] (itoa_no _ h0)]
  unfold splitM
  rw [splitA_miss 32 _ [] (name_no hw h0)]
  simp only [List.nil_append, List.map_cons, List.map_nil]
  have f : ∀ n, bs (Lib.itoa n) = decB n := fun n => rfl
  have g : bs x.what.data.toList = x.what := bytes_ext (by simp [bs])
  rw [f, f, f, f, g]
theorem noteRead_line {ch : Int} {x : TNote} (h : noteB x = true) : noteRead (bs (lineL (chainM ch x) x)) ch = some (x, chainM ch x) := by
  have hok := h
  simp only [noteB, Bool.and_eq_true, inB, decide_eq_true_eq] at hok
  obtain ⟨a1, b1⟩ := numI_decB (n := x.tray) (by omega) (by omega)
  obtain ⟨a2, b2⟩ := numI_decB (n := x.count) (by omega) (by omega)
  obtain ⟨a3, b3⟩ := numI_decB (n := x.sum) (by omega) (by omega)
  rw [noteRead_five (lineL_split h), a1, a2, a3, b1, b2, b3]
  rw [if_pos ⟨by simpa using h, lineB_eq _ _⟩]
def textFrom : Int → List TNote → List UInt8
  | _, [] => []
  | ch, x :: xs => lineL (chainM ch x) x ++ 10 :: textFrom (chainM ch x) xs
def chainFrom : Int → List TNote → Int
  | ch, [] => ch
  | ch, x :: xs => chainFrom (chainM ch x) xs
theorem jFold_eq : ∀ (xs : List TNote) (ch : Int) (pre : List UInt8), xs.foldl jStep (ch, pre) = (chainFrom ch xs, pre ++ textFrom ch xs)
  | [], ch, pre => by simp [chainFrom, textFrom]
  | x :: xs, ch, pre => by
    rw [List.foldl_cons]
    have e : jStep (ch, pre) x = (chainM ch x, pre ++ (lineL (chainM ch x) x ++ [10])) := by
      simp [jStep, lineB_eq, nlB, bs]
    rw [e, jFold_eq xs]
    simp [chainFrom, textFrom]
theorem jSt_eq (xs : List TNote) : jSt xs = (chainFrom 0 xs, textFrom 0 xs) := by
  unfold jSt
  rw [jFold_eq]
  simp
theorem readJ_text : ∀ (xs : List TNote) (ch : Int), (∀ x ∈ xs, noteB x = true) → readJ (textFrom ch xs) ch = (xs, chainFrom ch xs, (textFrom ch xs).length)
  | [], ch, _ => by rw [textFrom, readJ_none (by simp)]; rfl
  | x :: xs, ch, h => by
    have hx := h x (by simp)
    rw [textFrom, readJ_good (lineL_no hx) (noteRead_line hx), readJ_text xs _ (fun y hy => h y (by simp [hy]))]
    simp [chainFrom]
    omega
theorem readJ_round {xs : List TNote} (h : ∀ x ∈ xs, noteB x = true) : readJ (jSt xs).2 0 = (xs, (jSt xs).1, (jSt xs).2.length) := by
  rw [jSt_eq]
  exact readJ_text xs 0 h
/-- what is read of a beginning is a beginning of what is read -/
theorem readJ_take : ∀ (f : Nat) (l : List UInt8) (k : Nat) (ch : Int), l.length ≤ f → ∃ r, (readJ l ch).1 = (readJ (l.take k) ch).1 ++ r ∧ (readJ (l.take k) ch).2.2 ≤ (readJ l ch).2.2
  | f, l, k, ch, hf => by
    by_cases hm : (10 : UInt8) ∈ l.take k
    · obtain ⟨p, r, hpr, hp⟩ := byte_split hm
      have hl : l = p ++ 10 :: (r ++ l.drop k) := by
        have := (List.take_append_drop k l).symm
        rw [hpr] at this
        exact this.trans (by simp)
      rw [hpr]
      cases hn : noteRead (bs p) ch with
      | none => 
        rw [readJ_bad hp hn]
        exact ⟨(readJ l ch).1, by simp, by simp⟩
      | some x =>
        obtain ⟨n, c⟩ := x
        have e1 := readJ_good (r := r) hp hn
        have e2 := readJ_good (r := r ++ l.drop k) hp hn
        rw [← hl] at e2
        rw [e1, e2]
        match f, hf with
        | 0, hf => rw [hl] at hf; simp at hf
        | f + 1, hf =>
          have hr : (r ++ l.drop k).take r.length = r := by simp
          obtain ⟨q, h1, h2⟩ := readJ_take f (r ++ l.drop k) r.length c (by
            have := congrArg List.length hl
            simp only [List.length_append, List.length_cons] at this ⊢
            omega)
          rw [hr] at h1 h2
          refine ⟨q, ?_, ?_⟩
          · dsimp only
            rw [h1]
            simp
          · dsimp only
            omega
    · rw [readJ_none hm]
      exact ⟨(readJ l ch).1, by simp, by simp⟩
/-- the read beginning is read whole -/
theorem readJ_fix : ∀ (f : Nat) (l : List UInt8) (ch : Int), l.length ≤ f → readJ (l.take (readJ l ch).2.2) ch = readJ l ch
  | f, l, ch, hf => by
    by_cases hm : (10 : UInt8) ∈ l
    · obtain ⟨p, r, rfl, hp⟩ := byte_split hm
      cases hn : noteRead (bs p) ch with
      | none => rw [readJ_bad hp hn]; simp [readJ_none]
      | some x =>
        obtain ⟨n, c⟩ := x
        rw [readJ_good hp hn]
        dsimp only
        have e : (p ++ 10 :: r).take (p.length + 1 + (readJ r c).2.2) = p ++ 10 :: r.take (readJ r c).2.2 := by
          rw [Nat.add_assoc, List.take_length_add_append, Nat.add_comm 1, List.take_succ_cons]
        rw [e, readJ_good hp hn]
        match f, hf with
        | 0, hf => simp at hf
        | f + 1, hf =>
          rw [readJ_fix f r c (by simp at hf; omega)]
    · rw [readJ_none hm]; simp [readJ_none]
end Go.M
