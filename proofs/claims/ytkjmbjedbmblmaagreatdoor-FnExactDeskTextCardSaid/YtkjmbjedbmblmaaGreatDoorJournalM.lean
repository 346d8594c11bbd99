/- What the journal's functions compute: plain lists. No conditions. -/
import Derived.Test.YtkjmbjedbmblmaaGreatDoorNum
import Derived.Test.YtkjmbjedbmblmaaGreatDoorNotes
/- What the journal's functions compute: plain Lean. -/
namespace Go.M
open Go Go.Vc
def spB : ByteArray := bs [32]
def nlB : ByteArray := bs [10]
def wordsB (n : TNote) : ByteArray := decB n.tray ++ spB ++ decB n.count ++ spB ++ decB n.sum ++ spB ++ n.what
def chain1 (s : Int) (c : UInt8) : Int := (37 * s + c.toNat) % 65521
def chainL (before : Int) (l : List UInt8) : Int := l.foldl chain1 ((before + 17) % 65521)
def chainM (before : Int) (n : TNote) : Int := chainL before (wordsB n).data.toList
def lineB (chain : Int) (n : TNote) : ByteArray := decB chain ++ spB ++ wordsB n ++ nlB
theorem chain_b (l : List UInt8) : ∀ s : Int, 0 ≤ s → s ≤ 65520 → 0 ≤ l.foldl chain1 s ∧ l.foldl chain1 s ≤ 65520 := by
  induction l with
  | nil => intro s h1 h2; exact ⟨h1, h2⟩
  | cons c l ih =>
    intro s h1 h2
    exact ih _ (by unfold chain1; omega) (by unfold chain1; omega)
theorem chainL_b (before : Int) (h : 0 ≤ before) (l : List UInt8) : 0 ≤ chainL before l ∧ chainL before l ≤ 65520 := chain_b l _ (by omega) (by omega)
theorem chainM_b (before : Int) (h : 0 ≤ before) (n : TNote) : 0 ≤ chainM before n ∧ chainM before n ≤ 65520 := chainL_b before h _
theorem chain_take {l : List UInt8} {k : Nat} {c : UInt8} (h : l[k]? = some c) (s : Int) : (l.take (k + 1)).foldl chain1 s = chain1 ((l.take k).foldl chain1 s) c := by
  rw [List.take_add_one, h]; simp
/-- the note of a line, and its chain number -/
def noteRead (line : ByteArray) (before : Int) : Option (TNote × Int) :=
  match splitS 32 line with
  | [_, w1, w2, w3, w4] =>
    if (numB w1 && numB w2 && numB w3 && noteB ⟨numI w1, numI w2, numI w3, w4⟩) = true ∧ lineB (chainM before ⟨numI w1, numI w2, numI w3, w4⟩) ⟨numI w1, numI w2, numI w3, w4⟩ = line ++ nlB then
      some (⟨numI w1, numI w2, numI w3, w4⟩, chainM before ⟨numI w1, numI w2, numI w3, w4⟩)
    else none
  | _ => none
theorem noteRead_ok {line : ByteArray} {before : Int} {n : TNote} {c : Int} (h : noteRead line before = some (n, c)) : noteB n = true ∧ c = chainM before n ∧ lineB c n = line ++ nlB := by
  unfold noteRead at h
  split at h
  · split at h
    · rename_i hc
      simp only [Bool.and_eq_true] at hc
      simp only [Option.some.injEq, Prod.mk.injEq] at h
      obtain ⟨h1, h2⟩ := h
      subst h1
      subst h2
      exact ⟨hc.1.2, rfl, hc.2⟩
    · cases h
  · cases h
/-- the notes of the longest beginning that is a journal, the last chain number, how many bytes it has -/
def readF : Nat → List UInt8 → Int → List TNote × Int × Nat
  | 0, _, ch => ([], ch, 0)
  | f + 1, l, ch =>
    if 10 ∈ l then
      match noteRead (bs (l.takeWhile (· ≠ 10))) ch with
      | none => ([], ch, 0)
      | some (n, c) =>
        (n :: (readF f (l.drop ((l.takeWhile (· ≠ 10)).length + 1)) c).1, (readF f (l.drop ((l.takeWhile (· ≠ 10)).length + 1)) c).2.1, (l.takeWhile (· ≠ 10)).length + 1 + (readF f (l.drop ((l.takeWhile (· ≠ 10)).length + 1)) c).2.2)
    else ([], ch, 0)
def readJ (l : List UInt8) (ch : Int) : List TNote × Int × Nat := readF l.length l ch
theorem takeWhile_at {p r : List UInt8} (h : (10 : UInt8) ∉ p) : (p ++ 10 :: r).takeWhile (· ≠ 10) = p := by
  induction p with
  | nil => simp
  | cons b p ih =>
    have hb : b ≠ 10 := fun e => h (by simp [e])
    rw [List.cons_append, List.takeWhile_cons, if_pos (by simpa using hb), ih (fun hh => h (by simp [hh]))]
theorem readF_more : ∀ (f g : Nat) (l : List UInt8) (ch : Int), l.length ≤ f → l.length ≤ g → readF f l ch = readF g l ch
  | 0, 0, _, _, _, _ => rfl
  | 0, g + 1, l, ch, h, _ => by
    have : l = [] := List.eq_nil_of_length_eq_zero (by omega)
    subst this; simp [readF]
  | f + 1, 0, l, ch, _, h => by
    have : l = [] := List.eq_nil_of_length_eq_zero (by omega)
    subst this; simp [readF]
  | f + 1, g + 1, l, ch, h1, h2 => by
    simp only [readF]
    split
    · rename_i hm
      have hl : 0 < l.length := List.length_pos_iff.2 (fun e => by rw [e] at hm; cases hm)
      split
      · rfl
      · rename_i n c hn
        have e : readF f (l.drop ((l.takeWhile (· ≠ 10)).length + 1)) c = readF g (l.drop ((l.takeWhile (· ≠ 10)).length + 1)) c :=
          readF_more f g _ c (by simp; omega) (by simp; omega)
        rw [e]
    · rfl
theorem readJ_none {l : List UInt8} (h : (10 : UInt8) ∉ l) (ch : Int) : readJ l ch = ([], ch, 0) := by
  unfold readJ
  cases l.length with
  | zero => rfl
  | succ f => simp only [readF, if_neg h]
theorem readJ_bad {p r : List UInt8} (h : (10 : UInt8) ∉ p) {ch : Int} (hn : noteRead (bs p) ch = none) : readJ (p ++ 10 :: r) ch = ([], ch, 0) := by
  unfold readJ
  rw [List.length_append, List.length_cons, ← Nat.add_assoc]
  simp only [readF, takeWhile_at h, hn]
  rw [if_pos (by simp)]
theorem readJ_good {p r : List UInt8} (h : (10 : UInt8) ∉ p) {ch c : Int} {n : TNote} (hn : noteRead (bs p) ch = some (n, c)) :
    readJ (p ++ 10 :: r) ch = (n :: (readJ r c).1, (readJ r c).2.1, p.length + 1 + (readJ r c).2.2) := by
  unfold readJ
  rw [List.length_append, List.length_cons, ← Nat.add_assoc]
  have e : (p ++ 10 :: r).drop (p.length + 1) = r := by simp
  simp only [readF, takeWhile_at h, hn, e]
  rw [if_pos (by simp), readF_more (p.length + r.length) r.length r c (by omega) (Nat.le_refl _)]
theorem readJ_ok : ∀ (k : Nat) (l : List UInt8) (ch : Int), l.length ≤ k → 0 ≤ ch → ch ≤ 65520 → (∀ n ∈ (readJ l ch).1, noteB n = true) ∧ 0 ≤ (readJ l ch).2.1 ∧ (readJ l ch).2.1 ≤ 65520 ∧ (readJ l ch).2.2 ≤ l.length ∧ (readJ l ch).1.length ≤ (readJ l ch).2.2
  | k, l, ch, hk, h0, h1 => by
    by_cases hm : (10 : UInt8) ∈ l
    · obtain ⟨p, r, rfl, hp⟩ := byte_split hm
      cases hn : noteRead (bs p) ch with
      | none => rw [readJ_bad hp hn]; exact ⟨by simp, h0, h1, by simp, by simp⟩
      | some x =>
        obtain ⟨n, c⟩ := x
        rw [readJ_good hp hn]
        obtain ⟨g1, g2, _⟩ := noteRead_ok hn
        subst g2
        have hb := chainM_b ch h0 n
        match k, hk with
        | 0, hk => simp at hk
        | k + 1, hk =>
          have ih := readJ_ok k r _ (by simp at hk; omega) hb.1 hb.2
          refine ⟨fun m hm => ?_, ih.2.1, ih.2.2.1, ?_, ?_⟩
          · rcases List.mem_cons.1 hm with rfl | hm
            · exact g1
            · exact ih.1 m hm
          · have := ih.2.2.2.1
            simp; omega
          · have := ih.2.2.2.2
            simp; omega
    · rw [readJ_none hm]
      exact ⟨by simp, h0, h1, by simp, by simp⟩
def notesM (s : ByteArray) : List TNote := (readJ s.data.toList 0).1
def journalCode (s : ByteArray) : Int := if 4000 < s.size then 5 else if (readJ s.data.toList 0).2.2 < s.size then 8 else 0
def chainOfM (before : Int) (x : TNote) : Int × Int := if noteB x = false then (0, 1) else if inB before 0 65520 = false then (0, 2) else (chainM before x, 0)
theorem name_size {s : ByteArray} (h : nameB s = true) : s.size ≤ 12 := by
  simp only [nameB, nameL, Bool.and_eq_true, decide_eq_true_eq] at h
  have := h.1.1.2
  simpa using this
theorem noteB_what {x : TNote} (h : noteB x = true) : x.what.size ≤ 12 := by
  simp only [noteB, Bool.and_eq_true] at h
  exact name_size h.2
theorem words_size {x : TNote} (hx : x.ok) : (wordsB x).size ≤ 66 + x.what.size := by
  obtain ⟨h1, h2, h3, _⟩ := hx
  have l1 := decB_len h1.1 h1.2
  have l2 := decB_len h2.1 h2.2
  have l3 := decB_len h3.1 h3.2
  have e : spB.size = 1 := rfl
  simp only [wordsB, ByteArray.size_append, e]
  omega
theorem line_size {c : Int} (h0 : 0 ≤ c) (h1 : c ≤ 65520) {x : TNote} (hx : x.ok) : (lineB c x).size ≤ 89 + x.what.size := by
  have l1 := decB_len (n := c) (by omega) (by omega)
  have l2 := words_size hx
  have e : spB.size = 1 := rfl
  have e2 : nlB.size = 1 := rfl
  simp only [lineB, ByteArray.size_append, e, e2]
  omega
theorem noteB_ok {x : TNote} (h : noteB x = true) : x.ok := by
  have hw := noteB_what h
  simp only [noteB, Bool.and_eq_true, inB, decide_eq_true_eq] at h
  refine ⟨⟨by omega, by omega⟩, ⟨by omega, by omega⟩, ⟨by omega, by omega⟩, ?_⟩
  simp only [strok]
  omega
/-- the chain number and the text behind some notes -/
def jStep (s : Int × List UInt8) (n : TNote) : Int × List UInt8 := (chainM s.1 n, s.2 ++ (lineB (chainM s.1 n) n).data.toList)
def jSt (xs : List TNote) : Int × List UInt8 := xs.foldl jStep (0, [])
theorem jSt_take {xs : List TNote} {k : Nat} {x : TNote} (h : xs[k]? = some x) : jSt (xs.take (k + 1)) = jStep (jSt (xs.take k)) x := by
  unfold jSt
  rw [List.take_add_one, h]; simp
theorem jFold_b : ∀ (xs : List TNote) (s : Int × List UInt8), 0 ≤ s.1 → s.1 ≤ 65520 → 0 ≤ (xs.foldl jStep s).1 ∧ (xs.foldl jStep s).1 ≤ 65520
  | [], s, h0, h1 => ⟨h0, h1⟩
  | x :: xs, s, h0, h1 => by
    have := chainM_b s.1 h0 x
    exact jFold_b xs _ this.1 this.2
theorem jSt_b (xs : List TNote) : 0 ≤ (jSt xs).1 ∧ (jSt xs).1 ≤ 65520 := jFold_b xs (0, []) (by decide) (by decide)
theorem jFold_le : ∀ (xs : List TNote) (s : Int × List UInt8), s.2.length ≤ (xs.foldl jStep s).2.length
  | [], s => Nat.le_refl _
  | x :: xs, s => by
    have := jFold_le xs (jStep s x)
    simp only [List.foldl_cons]
    refine Nat.le_trans ?_ this
    simp [jStep]
theorem jSt_le (xs : List TNote) (k : Nat) : (jSt (xs.take k)).2.length ≤ (jSt xs).2.length := by
  have e : xs = xs.take k ++ xs.drop k := (List.take_append_drop _ _).symm
  have : jSt xs = (xs.drop k).foldl jStep (jSt (xs.take k)) := by
    unfold jSt
    rw [← List.foldl_append, List.take_append_drop]
  rw [this]
  exact jFold_le _ _
theorem jSt_size : ∀ (xs : List TNote), (∀ x ∈ xs, noteB x = true) → (jSt xs).2.length ≤ xs.length * 101 := by
  have key : ∀ (xs : List TNote) (s : Int × List UInt8), 0 ≤ s.1 → s.1 ≤ 65520 → (∀ x ∈ xs, noteB x = true) → (xs.foldl jStep s).2.length ≤ s.2.length + xs.length * 101 := by
    intro xs
    induction xs with
    | nil => intro s _ _ _; simp
    | cons x xs ih =>
      intro s h0 h1 hx
      have hb := chainM_b s.1 h0 x
      have hn := hx x (by simp)
      have hl := line_size (c := chainM s.1 x) (by omega) (by omega) (noteB_ok hn)
      have hw := noteB_what hn
      have := ih (jStep s x) hb.1 hb.2 (fun y hy => hx y (by simp [hy]))
      have e : (jStep s x).2.length = s.2.length + (lineB (chainM s.1 x) x).size := by simp [jStep]
      simp only [List.foldl_cons, List.length_cons, Nat.add_mul]
      omega
  intro xs h
  have := key xs (0, []) (by decide) (by decide) h
  unfold jSt
  simpa using this
def journalOfM (xs : List TNote) : ByteArray × Int :=
  if xs.all noteB = false then ({ data := #[] }, 7) else if 4000 < (jSt xs).2.length then ({ data := #[] }, 5) else (bs (jSt xs).2, 0)
theorem all_take_succ {α : Type} {p : α → Bool} {xs : List α} {k : Nat} {x : α} (h : xs[k]? = some x) : (xs.take (k + 1)).all p = ((xs.take k).all p && p x) := by
  rw [List.take_add_one, h]; simp
theorem all_false_at {α : Type} {p : α → Bool} {xs : List α} {k : Nat} {x : α} (h : xs[k]? = some x) (hp : p x = false) : xs.all p = false := by
  rw [List.all_eq_false]
  exact ⟨x, List.mem_of_getElem? h, by simp [hp]⟩
end Go.M
