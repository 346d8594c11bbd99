/- Contracts of functions of the given program, of the reference and of the laws: each says what a call returns, for all arguments that meet the premises that the theorem itself names. -/
import Derived.Test.YtehofnnghbcjgaaGreatDoorJournalR
/- The round trip of a journal: plain Lean. -/
namespace Go.M
open Go Go.Vc
theorem dig_ne {c : UInt8} (h : isDig c = true) (d : UInt8) (hd : d.toNat < 45) : c ≠ d := by
  rintro rfl
  unfold isDig at h
  simp only [Bool.and_eq_true, decide_eq_true_eq] at h
  omega
theorem itoa_no (n : Int) {d : UInt8} (hd : d.toNat < 45) : d ∉ Lib.itoa n := by
  intro h
  unfold Lib.itoa at h
  split at h
  · rcases List.mem_cons.1 h with h | h
    · rw [h] at hd; exact absurd hd (by decide)
    · exact dig_ne (decDigits_dig _ _ h) d hd rfl
  · exact dig_ne (decDigits_dig _ _ h) d hd rfl
theorem decDigits_len : ∀ (k u : Nat), u < 10 ^ (k + 1) → (Lib.decDigits u).length ≤ k + 1
  | 0, u, h => by
    rw [Lib.decDigits, dif_pos (by simpa using h)]
    simp
  | k + 1, u, h => by
    rw [Lib.decDigits]
    by_cases hu : u < 10
    · rw [dif_pos hu]; simp
    · rw [dif_neg hu]
      have := decDigits_len k (u / 10) (by
        rw [Nat.pow_succ] at h
        omega)
      simp only [List.length_append, List.length_cons, List.length_nil]
      omega
theorem decDigits_len18 {n : Int} (h0 : -1000000000000000000 < n) (h1 : n < 1000000000000000000) : (Lib.decDigits n.natAbs).length ≤ 18 :=
  decDigits_len 17 _ (by
    have e : (10 : Nat) ^ (17 + 1) = 1000000000000000000 := by decide
    rw [e]
    omega)
theorem numI_decB {n : Int} (h0 : -1000000000000000000 < n) (h1 : n < 1000000000000000000) : numI (decB n) = n ∧ numB (decB n) = true := by
  unfold numI numB
  rw [numM_decB (decDigits_len18 h0 h1)]
  exact ⟨rfl, rfl⟩
theorem name_no {s : ByteArray} (h : nameB s = true) {d : UInt8} (hd : d.toNat < 45) : d ∉ s.data.toList := by
  intro hm
  simp only [nameB, nameL, Bool.and_eq_true] at h
  have := List.all_eq_true.1 h.2 d hm
  simp only [nameCh, smallN, digitN, Bool.or_eq_true, Bool.and_eq_true, decide_eq_true_eq] at this
  omega
/-- a line without its newline -/
def lineL (c : Int) (x : TNote) : List UInt8 := Lib.itoa c ++ 32 :: (Lib.itoa x.tray ++ 32 :: (Lib.itoa x.count ++ 32 :: (Lib.itoa x.sum ++ 32 :: x.what.data.toList)))
theorem lineB_eq (c : Int) (x : TNote) : lineB c x = bs (lineL c x) ++ nlB := by
  apply bytes_ext
  simp [lineB, wordsB, lineL, spB, nlB, bs, toList_decB]
theorem lineL_no {c : Int} {x : TNote} (h : noteB x = true) : (10 : UInt8) ∉ lineL c x := by
  have hw : nameB x.what = true := by
    simp only [noteB, Bool.and_eq_true] at h
    exact h.2
  have h0 : (10 : UInt8).toNat < 45 := by decide
  simp only [lineL, List.mem_append, List.mem_cons, not_or]
  refine ⟨itoa_no c h0, by decide, itoa_no _ h0, by decide, itoa_no _ h0, by decide, itoa_no _ h0, by decide, name_no hw h0⟩
theorem lineL_split {c : Int} {x : TNote} (h : noteB x = true) : splitS 32 (bs (lineL c x)) = [decB c, decB x.tray, decB x.count, decB x.sum, x.what] := by
  have hw : nameB x.what = true := by
    simp only [noteB, Bool.and_eq_true] at h
    exact h.2
  have h0 : (32 : UInt8).toNat < 45 := by decide
  have e : (bs (lineL c x)).data.toList = lineL c x := by simp [bs]
  unfold splitS splitM
  rw [e]
  unfold lineL
  rw [splitA_hit 32 _ _ [] (itoa_no c h0)]
  unfold splitM
  rw [splitA_hit 32 _ _ [] (itoa_no _ h0)]
  unfold splitM
  rw [splitA_hit 32 _ _ [] (itoa_no _ h0)]
  unfold splitM
  rw [splitA_hit 32 _ _ [] (itoa_no _ h0)]
  unfold splitM
  rw [splitA_miss 32 _ [] (name_no hw h0)]
  simp only [List.nil_append, List.map_cons, List.map_nil]
  have f : ∀ n, bs (Lib.itoa n) = decB n := fun n => rfl
  have g : bs x.what.data.toList = x.what := bytes_ext (by simp [bs])
  rw [f, f, f, f, g]
theorem noteRead_line {ch : Int} {x : TNote} (h : noteB x = true) : noteRead (bs (lineL (chainM ch x) x)) ch = some (x, chainM ch x) := by
  have hok := h
  simp only [noteB, Bool.and_eq_true, inB, decide_eq_true_eq] at hok
  obtain ⟨a1, b1⟩ := numI_decB (n := x.tray) (by omega) (by omega)
  obtain ⟨a2, b2⟩ := numI_decB (n := x.count) (by omega) (by omega)
  obtain ⟨a3, b3⟩ := numI_decB (n := x.sum) (by omega) (by omega)
  rw [noteRead_five (lineL_split h), a1, a2, a3, b1, b2, b3]
  rw [if_pos ⟨by simpa using h, lineB_eq _ _⟩]
def textFrom : Int → List TNote → List UInt8
  | _, [] => []
  | ch, x :: xs => lineL (chainM ch x) x ++ 10 :: textFrom (chainM ch x) xs
def chainFrom : Int → List TNote → Int
  | ch, [] => ch
  | ch, x :: xs => chainFrom (chainM ch x) xs
theorem jFold_eq : ∀ (xs : List TNote) (ch : Int) (pre : List UInt8), xs.foldl jStep (ch, pre) = (chainFrom ch xs, pre ++ textFrom ch xs)
  | [], ch, pre => by simp [chainFrom, textFrom]
  | x :: xs, ch, pre => by
    rw [List.foldl_cons]
    have e : jStep (ch, pre) x = (chainM ch x, pre ++ (lineL (chainM ch x) x ++ [10])) := by
      simp [jStep, lineB_eq, nlB, bs]
    rw [e, jFold_eq xs]
    simp [chainFrom, textFrom]
theorem jSt_eq (xs : List TNote) : jSt xs = (chainFrom 0 xs, textFrom 0 xs) := by
  unfold jSt
  rw [jFold_eq]
  simp
theorem readJ_text : ∀ (xs : List TNote) (ch : Int), (∀ x ∈ xs, noteB x = true) → readJ (textFrom ch xs) ch = (xs, chainFrom ch xs, (textFrom ch xs).length)
  | [], ch, _ => by rw [textFrom, readJ_none (by simp)]; rfl
  | x :: xs, ch, h => by
    have hx := h x (by simp)
    rw [textFrom, readJ_good (lineL_no hx) (noteRead_line hx), readJ_text xs _ (fun y hy => h y (by simp [hy]))]
    simp [chainFrom]
    omega
theorem readJ_round {xs : List TNote} (h : ∀ x ∈ xs, noteB x = true) : readJ (jSt xs).2 0 = (xs, (jSt xs).1, (jSt xs).2.length) := by
  rw [jSt_eq]
  exact readJ_text xs 0 h
/-- what is read of a beginning is a beginning of what is read -/
theorem readJ_take : ∀ (f : Nat) (l : List UInt8) (k : Nat) (ch : Int), l.length ≤ f → ∃ r, (readJ l ch).1 = (readJ (l.take k) ch).1 ++ r ∧ (readJ (l.take k) ch).2.2 ≤ (readJ l ch).2.2
  | f, l, k, ch, hf => by
    by_cases hm : (10 : UInt8) ∈ l.take k
    · obtain ⟨p, r, hpr, hp⟩ := byte_split hm
      have hl : l = p ++ 10 :: (r ++ l.drop k) := by
        have := (List.take_append_drop k l).symm
        rw [hpr] at this
        exact this.trans (by simp)
      rw [hpr]
      cases hn : noteRead (bs p) ch with
      | none => 
        rw [readJ_bad hp hn]
        exact ⟨(readJ l ch).1, by simp, by simp⟩
      | some x =>
        obtain ⟨n, c⟩ := x
        have e1 := readJ_good (r := r) hp hn
        have e2 := readJ_good (r := r ++ l.drop k) hp hn
        rw [← hl] at e2
        rw [e1, e2]
        match f, hf with
        | 0, hf => rw [hl] at hf; simp at hf
        | f + 1, hf =>
          have hr : (r ++ l.drop k).take r.length = r := by simp
          obtain ⟨q, h1, h2⟩ := readJ_take f (r ++ l.drop k) r.length c (by
            have := congrArg List.length hl
            simp only [List.length_append, List.length_cons] at this ⊢
            omega)
          rw [hr] at h1 h2
          refine ⟨q, ?_, ?_⟩
          · dsimp only
            rw [h1]
            simp
          · dsimp only
            omega
    · rw [readJ_none hm]
      exact ⟨(readJ l ch).1, by simp, by simp⟩
/-- the read beginning is read whole -/
theorem readJ_fix : ∀ (f : Nat) (l : List UInt8) (ch : Int), l.length ≤ f → readJ (l.take (readJ l ch).2.2) ch = readJ l ch
  | f, l, ch, hf => by
    by_cases hm : (10 : UInt8) ∈ l
    · obtain ⟨p, r, rfl, hp⟩ := byte_split hm
      cases hn : noteRead (bs p) ch with
      | none => rw [readJ_bad hp hn]; simp [readJ_none]
      | some x =>
        obtain ⟨n, c⟩ := x
        rw [readJ_good hp hn]
        dsimp only
        have e : (p ++ 10 :: r).take (p.length + 1 + (readJ r c).2.2) = p ++ 10 :: r.take (readJ r c).2.2 := by
          rw [Nat.add_assoc, List.take_length_add_append, Nat.add_comm 1, List.take_succ_cons]
        rw [e, readJ_good hp hn]
        match f, hf with
        | 0, hf => simp at hf
        | f + 1, hf =>
          rw [readJ_fix f r c (by simp at hf; omega)]
    · rw [readJ_none hm]; simp [readJ_none]
end Go.M
