/- Contracts of functions of the given program, of the reference and of the laws: each says what a call returns, for all arguments that meet the premises that the theorem itself names. -/
import Derived.Test.YtkjmbjedbmblmaaGreatDoorJournalM
/- More of the journal: plain Lean. -/
namespace Go.M
open Go Go.Vc
theorem numI_ok (s : ByteArray) : i64ok (numI s) := by
  unfold numI
  cases h : numM s with
  | none => exact ⟨by decide, by decide⟩
  | some n =>
    obtain ⟨_, _, h1, h2⟩ := numM_some h
    exact ⟨by simp; omega, by simp; omega⟩
theorem list5 {α : Type} {l : List α} (h : l.length = 5) : ∃ a b c d e, l = [a, b, c, d, e] := by
  match l, h with
  | [a, b, c, d, e], _ => exact ⟨a, b, c, d, e, rfl⟩
theorem noteRead_not {line : ByteArray} (h : (splitS 32 line).length ≠ 5) (before : Int) : noteRead line before = none := by
  unfold noteRead
  split
  · rename_i hh; rw [hh] at h; exact absurd rfl h
  · rfl
theorem noteRead_five {line a w1 w2 w3 w4 : ByteArray} (h : splitS 32 line = [a, w1, w2, w3, w4]) (before : Int) : noteRead line before =
    if (numB w1 && numB w2 && numB w3 && noteB ⟨numI w1, numI w2, numI w3, w4⟩) = true ∧ lineB (chainM before ⟨numI w1, numI w2, numI w3, w4⟩) ⟨numI w1, numI w2, numI w3, w4⟩ = line ++ nlB then
      some (⟨numI w1, numI w2, numI w3, w4⟩, chainM before ⟨numI w1, numI w2, numI w3, w4⟩)
    else none := by
  unfold noteRead
  rw [h]
theorem bs_take_drop (s : ByteArray) (i j : Nat) : (bs ((s.data.toList.drop i).take j)).size = min j (s.size - i) := by
  rw [bs_size]; simp
/-- the text from a place on, at the next newline -/
theorem line_of {l : List UInt8} {at_ : Nat} {p r : List UInt8} (h : l.drop at_ = p ++ 10 :: r) : l.drop (at_ + (p.length + 1)) = r := by
  rw [← List.drop_drop, h]
  simp
def notesOfM (s : ByteArray) : List TNote × Int × Int := if journalCode s = 0 then ((readJ s.data.toList 0).1, (readJ s.data.toList 0).2.1, 0) else ([], 0, journalCode s)
theorem journalCode_cases (s : ByteArray) : (4000 < s.size ∧ journalCode s = 5) ∨ (s.size ≤ 4000 ∧ (readJ s.data.toList 0).2.2 < s.size ∧ journalCode s = 8) ∨ (s.size ≤ 4000 ∧ ¬ (readJ s.data.toList 0).2.2 < s.size ∧ journalCode s = 0) := by
  unfold journalCode
  by_cases h1 : 4000 < s.size
  · exact .inl ⟨h1, if_pos h1⟩
  · rw [if_neg h1]
    by_cases h2 : (readJ s.data.toList 0).2.2 < s.size
    · exact .inr (.inl ⟨by omega, h2, if_pos h2⟩)
    · exact .inr (.inr ⟨by omega, h2, if_neg h2⟩)
def addNoteM (s : ByteArray) (x : TNote) : ByteArray × Int :=
  if journalCode s = 0 then
    if noteB x = false then ({ data := #[] }, 7)
    else if 4000 < s.size + (lineB (chainM (readJ s.data.toList 0).2.1 x) x).size then ({ data := #[] }, 5) else (s ++ lineB (chainM (readJ s.data.toList 0).2.1 x) x, 0)
  else ({ data := #[] }, journalCode s)
def checkM (s : ByteArray) : Int × Int := if 4000 < s.size then (0, 5) else ((readJ s.data.toList 0).2.2, 0)
def recoverM (s : ByteArray) : ByteArray × Int × Int := if 4000 < s.size then ({ data := #[] }, 0, 5) else (s.extract 0 (readJ s.data.toList 0).2.2, s.size - (readJ s.data.toList 0).2.2, 0)
def aboutL (l : List TNote) (t : Int) : List TNote := l.filter fun x => decide (x.tray = t)
def aboutM (s : ByteArray) (t : Int) : List TNote × Int :=
  if journalCode s = 0 then if inB t 0 5 = true then (aboutL (readJ s.data.toList 0).1 t, 0) else ([], 2) else ([], journalCode s)
def lastM (s : ByteArray) (t : Int) : TNote × Int :=
  if (aboutM s t).2 = 0 then match (aboutM s t).1.getLast? with | none => (⟨0, 0, 0, { data := #[] }⟩, 3) | some x => (x, 0) else (⟨0, 0, 0, { data := #[] }⟩, (aboutM s t).2)
def lastCount (l : List TNote) : Int := match l.getLast? with | none => 0 | some x => x.count
def sumTo (l : List TNote) : Nat → Int
  | 0 => 0
  | k + 1 => sumTo l k + lastCount (aboutL l k)
def cardsM (s : ByteArray) : Int × Int := if journalCode s = 0 then (sumTo (readJ s.data.toList 0).1 6, 0) else (0, journalCode s)
def historyM (s : ByteArray) (t : Int) : List Int × Int := if (aboutM s t).2 = 0 then ((aboutM s t).1.map (·.count), 0) else ([], (aboutM s t).2)
theorem aboutL_take {l : List TNote} {k : Nat} {x : TNote} (h : l[k]? = some x) (t : Int) : aboutL (l.take (k + 1)) t = if x.tray = t then aboutL (l.take k) t ++ [x] else aboutL (l.take k) t := by
  unfold aboutL
  rw [List.take_add_one, h]
  simp only [Option.toList_some, List.filter_append, List.filter_cons, List.filter_nil]
  by_cases hx : x.tray = t
  · simp [hx]
  · simp [hx]
theorem aboutL_mem {l : List TNote} {t : Int} {x : TNote} (h : x ∈ aboutL l t) : x ∈ l := (List.mem_filter.1 h).1
theorem aboutL_len (l : List TNote) (t : Int) : (aboutL l t).length ≤ l.length := List.length_filter_le _ _
theorem lastCount_b {l : List TNote} (h : ∀ x ∈ l, noteB x = true) : 0 ≤ lastCount l ∧ lastCount l ≤ 100000 := by
  unfold lastCount
  cases hl : l.getLast? with
  | none => exact ⟨by decide, by decide⟩
  | some x =>
    have := h x (List.mem_of_getLast? hl)
    simp only [noteB, Bool.and_eq_true, inB, decide_eq_true_eq] at this
    exact ⟨by show 0 ≤ x.count; omega, by show x.count ≤ 100000; omega⟩
theorem sumTo_b {l : List TNote} (h : ∀ x ∈ l, noteB x = true) : ∀ k, 0 ≤ sumTo l k ∧ sumTo l k ≤ k * 100000
  | 0 => ⟨by simp [sumTo], by simp [sumTo]⟩
  | k + 1 => by
    have h1 := sumTo_b h k
    have h2 := lastCount_b (l := aboutL l k) (fun x hx => h x (aboutL_mem hx))
    simp only [sumTo]
    omega
theorem aboutM_ok {s : ByteArray} {t : Int} : (∀ x ∈ (aboutM s t).1, noteB x = true) ∧ (aboutM s t).1.length ≤ 4000 := by
  have h := readJ_ok _ s.data.toList 0 (Nat.le_refl _) (by omega) (by omega)
  have hsz : s.data.toList.length = s.size := by simp
  unfold aboutM
  rcases journalCode_cases s with ⟨h1, h2⟩ | ⟨h1, h2, h3⟩ | ⟨h1, h2, h3⟩
  · rw [h2]; exact ⟨by simp, by simp⟩
  · rw [h3]; exact ⟨by simp, by simp⟩
  · rw [h3, if_pos rfl]
    split
    · refine ⟨fun x hx => h.1 x (aboutL_mem hx), ?_⟩
      have := aboutL_len (readJ s.data.toList 0).1 t
      show (aboutL (readJ s.data.toList 0).1 t).length ≤ 4000
      omega
    · exact ⟨by simp, by simp⟩
theorem getLast_at {α : Type} {l : List α} {n : Nat} (h : l.length = n + 1) : l.getLast? = l[n]? := by
  rw [List.getLast?_eq_getElem?]
  congr 1
  omega
theorem notesOfM_len (s : ByteArray) : (notesOfM s).1.length ≤ 4000 := by
  have h := readJ_ok _ s.data.toList 0 (Nat.le_refl _) (by omega) (by omega)
  have hsz : s.data.toList.length = s.size := by simp
  unfold notesOfM
  rcases journalCode_cases s with ⟨h1, h2⟩ | ⟨h1, h2, h3⟩ | ⟨h1, h2, h3⟩
  · rw [h2]; simp
  · rw [h3]; simp
  · rw [h3, if_pos rfl]
    show (readJ s.data.toList 0).1.length ≤ 4000
    omega
theorem historyM_len (s : ByteArray) (t : Int) : (historyM s t).1.length ≤ 4000 := by
  have h := (aboutM_ok (s := s) (t := t)).2
  unfold historyM
  split
  · simpa using h
  · simp
end Go.M
