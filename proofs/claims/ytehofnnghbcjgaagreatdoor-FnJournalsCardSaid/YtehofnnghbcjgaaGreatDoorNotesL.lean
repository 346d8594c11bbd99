/- Contracts of functions of the given program, of the reference and of the laws: each says what a call returns, for all arguments that meet the premises that the theorem itself names. -/
import Derived.Test.YtehofnnghbcjgaaGreatDoorVcStr
import Derived.Test.YtehofnnghbcjgaaGreatDoorJournalL
import Derived.Test.YtehofnnghbcjgaaGreatDoorJournalR
namespace Go.M
open Go Go.Vc
/-! the journal of few valid notes, read again -/
def logB (xs : List TNote) : ByteArray := bs (jSt xs).2
theorem log_size {xs : List TNote} (h : ∀ x ∈ xs, noteB x = true) : (logB xs).size ≤ xs.length * 101 := jSt_size xs h
theorem jo_ok {xs : List TNote} (h : ∀ x ∈ xs, noteB x = true) (hl : xs.length ≤ 7) : journalOfM xs = (logB xs, 0) := by
  have hs := jSt_size xs h
  unfold journalOfM
  rw [if_neg (by simp [List.all_eq_true]; exact h), if_neg (by omega)]
  rfl
theorem jo_read {xs : List TNote} (h : ∀ x ∈ xs, noteB x = true) : readJ (logB xs).data.toList 0 = (xs, (jSt xs).1, (logB xs).size) := readJ_round h
theorem jo_code {xs : List TNote} (h : ∀ x ∈ xs, noteB x = true) (hl : xs.length ≤ 7) : journalCode (logB xs) = 0 := by
  have hs := log_size h
  unfold journalCode
  rw [if_neg (by omega), jo_read h, if_neg (by simp)]
theorem jo_notes {xs : List TNote} (h : ∀ x ∈ xs, noteB x = true) (hl : xs.length ≤ 7) : notesOfM (logB xs) = (xs, (jSt xs).1, 0) := by
  unfold notesOfM
  rw [if_pos (jo_code h hl), jo_read h]
theorem jo_cards {xs : List TNote} (h : ∀ x ∈ xs, noteB x = true) (hl : xs.length ≤ 7) : cardsM (logB xs) = (sumTo xs 6, 0) := by
  unfold cardsM
  rw [if_pos (jo_code h hl), jo_read h]
theorem jo_about {xs : List TNote} (h : ∀ x ∈ xs, noteB x = true) (hl : xs.length ≤ 7) {t : Int} (h0 : 0 ≤ t) (h1 : t ≤ 5) : aboutM (logB xs) t = (aboutL xs t, 0) := by
  unfold aboutM
  rw [if_pos (jo_code h hl), if_pos (by simp [inB]; omega), jo_read h]
theorem jo_hist {xs : List TNote} (h : ∀ x ∈ xs, noteB x = true) (hl : xs.length ≤ 7) {t : Int} (h0 : 0 ≤ t) (h1 : t ≤ 5) : historyM (logB xs) t = ((aboutL xs t).map (·.count), 0) := by
  unfold historyM
  rw [jo_about h hl h0 h1, if_pos rfl]
theorem jo_last_none {xs : List TNote} (h : ∀ x ∈ xs, noteB x = true) (hl : xs.length ≤ 7) {t : Int} (h0 : 0 ≤ t) (h1 : t ≤ 5) (he : aboutL xs t = []) : (lastM (logB xs) t).2 = 3 ∧ lastCount (aboutL xs t) = 0 := by
  unfold lastM lastCount
  rw [jo_about h hl h0 h1, if_pos rfl, he]
  exact ⟨rfl, rfl⟩
theorem jo_last {xs : List TNote} (h : ∀ x ∈ xs, noteB x = true) (hl : xs.length ≤ 7) {t : Int} (h0 : 0 ≤ t) (h1 : t ≤ 5) (he : 0 < (aboutL xs t).length) :
    ∃ x, (aboutL xs t)[(aboutL xs t).length - 1]? = some x ∧ lastM (logB xs) t = (x, 0) ∧ x.tray = t ∧ lastCount (aboutL xs t) = x.count := by
  obtain ⟨x, hx⟩ := get_of_lt (l := aboutL xs t) (k := (aboutL xs t).length - 1) (by omega)
  have hg : (aboutL xs t).getLast? = some x := by
    rw [getLast_at (n := (aboutL xs t).length - 1) (by omega)]
    exact hx
  refine ⟨x, hx, ?_, ?_, ?_⟩
  · unfold lastM
    rw [jo_about h hl h0 h1, if_pos rfl]
    dsimp only
    rw [hg]
  · have := List.mem_of_getElem? hx
    simpa using (List.mem_filter.1 this).2
  · unfold lastCount
    rw [hg]
/-- how many notes are about the first k trays -/
def manyTo (xs : List TNote) : Nat → Nat
  | 0 => 0
  | k + 1 => manyTo xs k + (aboutL xs k).length
theorem manyTo_eq (xs : List TNote) : ∀ k : Nat, manyTo xs k = (xs.filter fun x => decide (0 ≤ x.tray ∧ x.tray < (k : Int))).length
  | 0 => by
    have : (xs.filter fun x => decide (0 ≤ x.tray ∧ x.tray < ((0 : Nat) : Int))) = [] := by
      rw [List.filter_eq_nil_iff]
      intro x _
      simp
    rw [this]
    rfl
  | k + 1 => by
    rw [manyTo, manyTo_eq xs k]
    unfold aboutL
    induction xs with
    | nil => rfl
    | cons x l ih =>
      simp only [List.filter_cons]
      by_cases e1 : 0 ≤ x.tray ∧ x.tray < (k : Int)
      · rw [if_pos (by simpa using e1), if_neg (by simp; omega), if_pos (by simp; omega)]
        simp only [List.length_cons]
        omega
      · by_cases e2 : x.tray = (k : Int)
        · rw [if_neg (by simp; omega), if_pos (by simpa using e2), if_pos (by simp; omega)]
          simp only [List.length_cons]
          omega
        · rw [if_neg (by simp; omega), if_neg (by simpa using e2), if_neg (by simp; omega)]
          exact ih
theorem noteB_tray {x : TNote} (h : noteB x = true) : 0 ≤ x.tray ∧ x.tray ≤ 5 := by
  simp only [noteB, Bool.and_eq_true] at h
  exact inB_true h.1.1.1
theorem many_all {xs : List TNote} (h : ∀ x ∈ xs, noteB x = true) : manyTo xs 6 = xs.length := by
  rw [manyTo_eq, List.filter_eq_self.2]
  intro x hx
  have := noteB_tray (h x hx)
  simp
  omega
theorem manyTo_le (xs : List TNote) (k : Nat) : manyTo xs k ≤ xs.length := by
  rw [manyTo_eq]
  exact List.length_filter_le _ _
/-! adding the notes one by one -/
theorem jSt_snoc (xs : List TNote) (x : TNote) : jSt (xs ++ [x]) = jStep (jSt xs) x := by simp [jSt]
theorem add_step {xs : List TNote} (h : ∀ x ∈ xs, noteB x = true) (hl : xs.length ≤ 7) {k : Nat} {x : TNote} (hx : xs[k]? = some x) : addNoteM (logB (xs.take k)) x = (logB (xs.take (k + 1)), 0) := by
  have hk : ∀ y ∈ xs.take k, noteB y = true := fun y hy => h y (List.mem_of_mem_take hy)
  have hkl : (xs.take k).length ≤ 7 := by simp; omega
  have hs := log_size (xs := xs.take (k + 1)) (fun y hy => h y (List.mem_of_mem_take hy))
  have hs2 : (logB (xs.take (k + 1))).size ≤ 707 := Nat.le_trans hs (by simp; omega)
  have e : logB (xs.take (k + 1)) = logB (xs.take k) ++ lineB (chainM (jSt (xs.take k)).1 x) x := by
    unfold logB
    rw [jSt_take hx]
    unfold jStep
    rw [← bs_append, bs_self]
  unfold addNoteM
  rw [if_pos (jo_code hk hkl), if_neg (by simp [h x (List.mem_of_getElem? hx)]), jo_read hk]
  rw [e] at hs2 ⊢
  rw [size_append] at hs2
  rw [if_neg (by dsimp only; omega)]
theorem log_prefix {xs : List TNote} {k : Nat} : ∃ r, (jSt xs).2 = (jSt (xs.take k)).2 ++ r := by
  have key : ∀ (ys : List TNote) (s : Int × List UInt8), ∃ r, (ys.foldl jStep s).2 = s.2 ++ r := by
    intro ys
    induction ys with
    | nil => exact fun s => ⟨[], by simp⟩
    | cons y ys ih =>
      intro s
      obtain ⟨r, hr⟩ := ih (jStep s y)
      rw [List.foldl_cons, hr]
      unfold jStep
      exact ⟨(lineB (chainM s.1 y) y).data.toList ++ r, by simp⟩
  have h1 : jSt xs = (xs.drop k).foldl jStep (jSt (xs.take k)) := by
    unfold jSt
    rw [← List.foldl_append, List.take_append_drop]
  obtain ⟨r, hr⟩ := key (xs.drop k) (jSt (xs.take k))
  exact ⟨r, by rw [h1, hr]⟩
theorem log_extract {xs : List TNote} {k : Nat} : (logB (xs.take k)).size ≤ (logB xs).size ∧ (logB xs).extract 0 (logB (xs.take k)).size = logB (xs.take k) := by
  obtain ⟨r, hr⟩ := log_prefix (xs := xs) (k := k)
  constructor
  · show (jSt (xs.take k)).2.length ≤ (jSt xs).2.length
    rw [hr]
    simp
  · rw [extract_bs]
    unfold logB
    rw [bs_data, bs_size, hr]
    simp
/-! what is cut off -/
theorem cut_recover {xs : List TNote} (h : ∀ x ∈ xs, noteB x = true) (hl : xs.length ≤ 7) {c : Nat} (hc : c ≤ (logB xs).size) :
    ∃ m : Nat, m ≤ c ∧ checkM ((logB xs).extract 0 c) = ((m : Int), 0) ∧ recoverM ((logB xs).extract 0 c) = ((logB xs).extract 0 m, (c : Int) - m, 0) ∧ ((logB xs).extract 0 m).size = m ∧
      ∃ l ch, notesOfM ((logB xs).extract 0 m) = (l, ch, 0) ∧ l.length ≤ xs.length := by
  have hs := log_size h
  have hcs : ((logB xs).extract 0 c).size = c := by rw [extract_size _ _ _ hc]; rfl
  have hcd : ((logB xs).extract 0 c).data.toList = (logB xs).data.toList.take c := by
    rw [extract_bs, bs_data]
    simp
  have hlen : (logB xs).data.toList.length = (logB xs).size := rfl
  have hmle : (readJ ((logB xs).data.toList.take c) 0).2.2 ≤ c := by
    have := (readJ_ok _ ((logB xs).data.toList.take c) 0 (Nat.le_refl _) (by decide) (by decide)).2.2.2.1
    simp at this
    omega
  generalize hm : (readJ ((logB xs).data.toList.take c) 0).2.2 = m at hmle
  refine ⟨m, hmle, ?_, ?_, ?_, ?_⟩
  · unfold checkM
    rw [if_neg (by omega), hcd, hm]
  · unfold recoverM
    rw [if_neg (by omega), hcd, hm, hcs]
    have : ((logB xs).extract 0 c).extract 0 m = (logB xs).extract 0 m := by
      rw [extract_bs, hcd, extract_bs]
      simp only [List.drop_zero, Nat.sub_zero]
      rw [List.take_take, Nat.min_eq_left hmle]
    rw [this]
  · rw [extract_size _ _ _ (by omega)]; rfl
  · have hmd : ((logB xs).extract 0 m).data.toList = (logB xs).data.toList.take m := by
      rw [extract_bs, bs_data]
      simp
    have hms : ((logB xs).extract 0 m).size = m := by rw [extract_size _ _ _ (by omega)]; rfl
    have hfix := readJ_fix _ ((logB xs).data.toList.take c) 0 (Nat.le_refl _)
    rw [hm, List.take_take, Nat.min_eq_left hmle] at hfix
    obtain ⟨r, hr, _⟩ := readJ_take _ (logB xs).data.toList m 0 (Nat.le_refl _)
    rw [jo_read h] at hr
    refine ⟨(readJ ((logB xs).data.toList.take m) 0).1, (readJ ((logB xs).data.toList.take m) 0).2.1, ?_, ?_⟩
    · unfold notesOfM
      have hcode : journalCode ((logB xs).extract 0 m) = 0 := by
        unfold journalCode
        rw [if_neg (by omega), hmd, hfix, hm, if_neg (by omega)]
      rw [if_pos hcode, hmd]
    · have := congrArg List.length hr
      simp at this
      omega
end Go.M
