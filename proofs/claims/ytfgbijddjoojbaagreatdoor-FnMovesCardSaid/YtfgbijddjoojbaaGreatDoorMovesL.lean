/- Contracts of functions of the given program, of the reference and of the laws: each says what a call returns, for all arguments that meet the premises that the theorem itself names. -/
import Derived.Test.YtfgbijddjoojbaaGreatDoorStock3
import Derived.Test.YtfgbijddjoojbaaGreatDoorReadM
import Derived.Test.YtfgbijddjoojbaaGreatDoorMoveM
import Derived.Test.YtfgbijddjoojbaaGreatDoorCensusM
/- plain laws of moves: a move and its opposite lead back; counts change by the sums of the moves -/
namespace Go.M
open Go Go.Vc
theorem part_names {xs : List TPart} {k : Nat} {x x' : TPart} (hx : xs[k]? = some x) (hn : x'.name = x.name) : (xs.set k x').map TPart.name = xs.map TPart.name := by
  apply List.ext_getElem? 
  intro i
  rw [List.getElem?_map, List.getElem?_map, List.getElem?_set]
  split
  · rename_i h
    subst h
    have hlt := (List.getElem?_eq_some_iff.1 hx).1
    rw [if_pos hlt, hx]
    simp [hn]
  · rfl
theorem any_names (l : List TPart) (z : ByteArray) : l.any (fun y => decide (y.name = z)) = (l.map TPart.name).any (fun b => decide (b = z)) := by
  rw [List.any_map]; rfl
theorem partsB_set {xs : List TPart} {k : Nat} {x x' : TPart} (h : partsB xs = true) (hx : xs[k]? = some x) (hn : x'.name = x.name) (hb : partB x' = true) : partsB (xs.set k x') = true := by
  simp only [partsB, Bool.and_eq_true, decide_eq_true_eq, List.all_eq_true, List.mem_range, List.length_set] at h ⊢
  refine ⟨fun i hi => ?_, h.2⟩
  obtain ⟨y, hy⟩ := get_of_lt (l := xs) (k := i) hi
  have h1 := h.1 i hi
  rw [partOkAt_of hy, Bool.and_eq_true] at h1
  have hnm := part_names hx hn
  have key : ∀ z : TPart, (xs.set k x')[i]? = some z → z.name = y.name → partB z = true → partOkAt (xs.set k x') i = true := by
    intro z hz hzn hzb
    rw [partOkAt_of hz, hzb, Bool.true_and, any_names, List.map_take, hnm, ← List.map_take, ← any_names, hzn]
    exact h1.2
  by_cases hik : i = k
  · subst hik
    rw [hx] at hy
    cases hy
    exact key x' (by rw [List.getElem?_set, if_pos rfl, if_pos hi]) hn hb
  · exact key y (by rw [List.getElem?_set, if_neg (fun e => hik e.symm)]; exact hy) rfl h1.1
theorem inB_iff {n a b : Int} : inB n a b = true ↔ a ≤ n ∧ n ≤ b := by simp [inB]
theorem moveCode_zero {xs : List TPart} {m : TMove} (h : moveCode xs m = 0) : ∃ (k : Nat) (x : TPart), m.part = (k : Int) ∧ xs[k]? = some x ∧ -1000000 ≤ m.count ∧ m.count ≤ 1000000 ∧ 0 ≤ x.count + m.count ∧ x.count + m.count ≤ 1000000 ∧ moveList xs m = xs.set k { x with count := x.count + m.count } := by
  unfold moveCode at h
  split at h
  · omega
  rename_i h1
  split at h
  · omega
  rename_i h2
  have h1 : inB m.part 0 ((xs.length : Int) - 1) = true := by simpa using h1
  have h2 : inB m.count (-1000000) 1000000 = true := by simpa using h2
  obtain ⟨k, x, hk, hk2, hx⟩ := moveCode_pos h1
  have h2 := inB_iff.1 h2
  rw [hk2, hx] at h
  simp only at h
  have hc : 0 ≤ x.count + m.count ∧ x.count + m.count ≤ 1000000 := by
    split at h
    · omega
    split at h
    · omega
    · omega
  refine ⟨k, x, hk, hx, h2.1, h2.2, hc.1, hc.2, ?_⟩
  unfold moveList
  rw [hk2, hx]
theorem applyMove_zero {xs : List TPart} {m : TMove} (h : (applyMoveM xs m).2 = 0) : partsB xs = true ∧ moveCode xs m = 0 ∧ (applyMoveM xs m).1 = moveList xs m := by
  unfold applyMoveM at h ⊢
  split at h
  · simp at h
  rename_i hp
  rw [if_neg hp]
  rw [moveM_code] at h
  refine ⟨by simpa using hp, h, ?_⟩
  unfold moveM
  rw [if_pos h]
theorem applyMove_cnt {xs : List TPart} {m : TMove} (h : (applyMoveM xs m).2 = 0) : -1000000 ≤ m.count ∧ m.count ≤ 1000000 := by
  obtain ⟨_, hc, _⟩ := applyMove_zero h
  obtain ⟨k, x, _, _, h1, h2, _⟩ := moveCode_zero hc
  exact ⟨h1, h2⟩
/-- a move and its opposite lead back -/
theorem applyMove_back {xs : List TPart} {p c : Int} (h : (applyMoveM xs ⟨p, c⟩).2 = 0) : applyMoveM (applyMoveM xs ⟨p, c⟩).1 ⟨p, -c⟩ = (xs, 0) := by
  obtain ⟨hp, hc, hl⟩ := applyMove_zero h
  rw [hl]
  obtain ⟨k, x, hk, hx, h1, h2, h3, h4, h5⟩ := moveCode_zero hc
  simp only at hk h1 h2 h3 h4 h5
  have hlt := (List.getElem?_eq_some_iff.1 hx).1
  have hxb := partB_b ((partsB_mem hp).2 x (List.mem_of_getElem? hx))
  have hxp := (partsB_mem hp).2 x (List.mem_of_getElem? hx)
  have hb : partB { x with count := x.count + c } = true := by
    simp only [partB, Bool.and_eq_true, inB, decide_eq_true_eq] at hxp ⊢
    refine ⟨⟨⟨hxp.1.1.1, by omega⟩, hxp.1.2⟩, hxp.2⟩
  have hp2 : partsB (moveList xs ⟨p, c⟩) = true := by rw [h5]; exact partsB_set hp hx rfl hb
  have hg : (moveList xs ⟨p, c⟩)[k]? = some { x with count := x.count + c } := by rw [h5, List.getElem?_set, if_pos rfl, if_pos hlt]
  have hkn : p.toNat = k := by omega
  have hcode : moveCode (moveList xs ⟨p, c⟩) ⟨p, -c⟩ = 0 := by
    unfold moveCode
    rw [moveList_len]
    rw [if_neg (by simp [inB]; omega), if_neg (by simp [inB]; omega)]
    simp only [hkn, hg]
    rw [if_neg (by omega), if_neg (by omega)]
  unfold applyMoveM
  rw [if_neg (by simp [hp2])]
  unfold moveM
  rw [if_pos hcode]
  unfold moveList at hg ⊢
  simp only [hkn, hx] at hg ⊢
  simp only [hg, List.set_set]
  congr 1
  have : ({ x with count := x.count + c + -c } : TPart) = x := by
    cases x
    simp only [TPart.mk.injEq, true_and, and_true]
    omega
  rw [this]
  apply List.ext_getElem?
  intro i
  rw [List.getElem?_set]
  split
  · rename_i h
    subst h
    simp [hlt, (List.getElem?_eq_some_iff.1 hx).2]
  · rfl
theorem applyMove_back' {xs : List TPart} {m : TMove} (h : (applyMoveM xs m).2 = 0) : applyMoveM (applyMoveM xs m).1 ⟨m.part, -m.count⟩ = (xs, 0) := by
  obtain ⟨p, c⟩ := m
  exact applyMove_back h
/-- what the moves put into part i -/
def sumM (i : Int) : List TMove → Int
  | [] => 0
  | m :: ms => (if m.part = i then m.count else 0) + sumM i ms
theorem sumM_snoc (i : Int) (m : TMove) : ∀ l, sumM i (l ++ [m]) = sumM i l + (if m.part = i then m.count else 0)
  | [] => by simp [sumM]
  | y :: l => by
    rw [List.cons_append, sumM, sumM, sumM_snoc i m l]
    omega
theorem sumM_take {i : Int} {ms : List TMove} {k : Nat} {m : TMove} (h : ms[k]? = some m) : sumM i (ms.take (k + 1)) = sumM i (ms.take k) + (if m.part = i then m.count else 0) := by
  rw [List.take_add_one, h]
  exact sumM_snoc i m _
theorem moveList_get {xs : List TPart} {m : TMove} (h : moveCode xs m = 0) {i : Nat} {x : TPart} (hx : xs[i]? = some x) : ∃ x', (moveList xs m)[i]? = some x' ∧ x'.count = x.count + (if m.part = (i : Int) then m.count else 0) := by
  obtain ⟨k, y, hk, hy, _, _, _, _, h5⟩ := moveCode_zero h
  have hlt := (List.getElem?_eq_some_iff.1 hx).1
  rw [h5, List.getElem?_set]
  by_cases hik : k = i
  · subst hik
    rw [hx] at hy
    cases hy
    exact ⟨_, by rw [if_pos rfl, if_pos hlt], by rw [if_pos hk]⟩
  · exact ⟨x, by rw [if_neg hik]; exact hx, by rw [if_neg (by omega)]; omega⟩
theorem movesM_sum : ∀ (ms : List TMove) (xs : List TPart) (k0 : Nat), (∀ x ∈ xs, cntOk x) → ∃ c, (movesM xs ms k0).2 = k0 + c ∧ c ≤ ms.length ∧
    ∀ (i : Nat) (x : TPart), xs[i]? = some x → (∃ y, (movesM xs ms k0).1[i]? = some y ∧ y.count = x.count + sumM i (ms.take c)) ∧ ∀ j, j ≤ c → 0 ≤ x.count + sumM i (ms.take j) ∧ x.count + sumM i (ms.take j) ≤ 1000000
  | [], xs, k0, h => ⟨0, rfl, Nat.le_refl _, fun i x hx => ⟨⟨x, hx, by simp [sumM]⟩, fun j hj => by
      have := h x (List.mem_of_getElem? hx)
      unfold cntOk at this
      simp [sumM]
      omega⟩⟩
  | m :: ms, xs, k0, h => by
    unfold movesM
    split
    · rename_i hc
      obtain ⟨c, h1, h2, h3⟩ := movesM_sum ms (moveList xs m) (k0 + 1) (moveList_ok h hc)
      refine ⟨c + 1, by omega, by simpa using h2, fun i x hx => ?_⟩
      obtain ⟨x', hx', hcx⟩ := moveList_get hc hx
      obtain ⟨⟨y, hy, hyc⟩, hj⟩ := h3 i x' hx'
      refine ⟨⟨y, hy, ?_⟩, fun j hjc => ?_⟩
      · rw [List.take_succ_cons, sumM]; omega
      · cases j with
        | zero =>
          have := h x (List.mem_of_getElem? hx)
          unfold cntOk at this
          simp [sumM]
          omega
        | succ j =>
          have := hj j (by omega)
          rw [List.take_succ_cons, sumM]; omega
    · refine ⟨0, rfl, Nat.zero_le _, fun i x hx => ⟨⟨x, hx, by simp [sumM]⟩, fun j hj => ?_⟩⟩
      have := h x (List.mem_of_getElem? hx)
      unfold cntOk at this
      obtain rfl : j = 0 := by omega
      simp [sumM]
      omega
/-- counts change by the sums of the moves that are done -/
theorem applyMoves_sum {xs : List TPart} {ms : List TMove} (h : (applyMovesM xs ms).2.2 = 0) : ∃ c : Nat, (applyMovesM xs ms).2.1 = c ∧ c ≤ ms.length ∧ (applyMovesM xs ms).1.length = xs.length ∧
    ∀ (i : Nat) (x : TPart), xs[i]? = some x → (∃ y, (applyMovesM xs ms).1[i]? = some y ∧ y.count = x.count + sumM i (ms.take c)) ∧ ∀ j, j ≤ c → 0 ≤ x.count + sumM i (ms.take j) ∧ x.count + sumM i (ms.take j) ≤ 1000000 := by
  unfold applyMovesM at h ⊢
  split at h
  · simp at h
  rename_i hp
  rw [if_neg hp]
  obtain ⟨c, h1, h2, h3⟩ := movesM_sum ms xs 0 (partsB_cnt (by simpa using hp))
  exact ⟨c, by simp only [h1]; omega, h2, movesM_len xs ms 0, h3⟩
theorem partsB_oks {xs : List TPart} (h : partsB xs = true) : ∀ x ∈ xs, x.ok := by
  intro x hx
  have hb := partsB_all h x hx
  have hs := partB_sizes hb
  exact ⟨by simp only [strok]; omega, hs.2⟩
theorem readParts_ok (s : ByteArray) : ∀ y ∈ (readParts s).getD [], y.ok := by
  cases h : readParts s with
  | none => intro y hy; simp at hy
  | some xs => exact partsB_oks (readS_ok h)
theorem partsText_get {xs : List TPart} (h : ¬ partsText xs = { data := #[] }) : (readParts (partsText xs)).isSome = true ∧ (readParts (partsText xs)).getD [] = xs := by
  have : readParts (partsText xs) = some xs := by
    refine readParts_text ?_
    unfold partsText at h
    split at h
    · assumption
    · exact absurd rfl h
  rw [this]; exact ⟨rfl, rfl⟩
theorem partsText_size (xs : List TPart) : (partsText xs).size ≤ 4000 := by
  unfold partsText
  split
  · rename_i hb
    have h2 := cats_len (f := partLine) (m := 100) (xs := xs) (fun x hx => partLine_size (partsB_all hb x hx))
    have h3 := (partsB_mem hb).1
    rw [bs_size]
    omega
  · exact Nat.zero_le _
theorem moveList_oks {xs : List TPart} {m : TMove} (h : ∀ x ∈ xs, x.ok) (hc : moveCode xs m = 0) : ∀ x ∈ moveList xs m, x.ok := by
  obtain ⟨k, x, _, hx, _, _, h3, h4, h5⟩ := moveCode_zero hc
  rw [h5]
  intro y hy
  rcases List.mem_or_eq_of_mem_set hy with hy | rfl
  · exact h y hy
  · obtain ⟨a, b, c, d⟩ := h x (List.mem_of_getElem? hx)
    exact ⟨a, by simp only [i64ok]; omega, c, d⟩
theorem applyMove_oks {xs : List TPart} {m : TMove} (h : ∀ x ∈ xs, x.ok) : ∀ x ∈ (applyMoveM xs m).1, x.ok := by
  unfold applyMoveM moveM
  split
  · intro y hy; simp at hy
  split
  · rename_i hc
    exact moveList_oks h hc
  · intro y hy; simp at hy
theorem movesM_oks : ∀ (ms : List TMove) (xs : List TPart) (k : Nat), (∀ x ∈ xs, x.ok) → ∀ x ∈ (movesM xs ms k).1, x.ok
  | [], xs, k, h => h
  | m :: ms, xs, k, h => by
    unfold movesM
    split
    · rename_i hc
      exact movesM_oks ms _ _ (moveList_oks h hc)
    · exact h
theorem applyMoves_oks {xs : List TPart} {ms : List TMove} (h : ∀ x ∈ xs, x.ok) : ∀ x ∈ (applyMovesM xs ms).1, x.ok := by
  unfold applyMovesM
  split
  · intro y hy; simp at hy
  · exact movesM_oks ms xs 0 h
theorem numOf_b {l : List Int} {n : Int} (h : numOf l = some n) (hl : l.length ≤ 12) : i64ok n := by
  unfold numOf at h
  simp only [i64ok]
  cases hg : l.getLast? with
  | none =>
    rw [hg] at h
    simp at h
    omega
  | some m =>
    rw [hg] at h
    simp only at h
    have h2 := digitM_b (bareM m)
    split at h
    · split at h
      · cases h
      · rename_i n0 b0 hf
        have h1 := num_small hf (by rw [List.length_dropLast]; omega)
        split at h
        · cases h
        split at h
        · cases h
        · simp only [Option.some.injEq] at h
          omega
    · split at h
      · cases h
      · rename_i n0 b0 hf
        have h1 := num_small hf hl
        simp only [Option.some.injEq] at h
        omega
theorem moves_oks {ps : List TPart} {wd : Int} {its : List TItem} {d : List (List Int)} : ∀ y ∈ (movesFromM ps wd its d).1, y.ok := by
  by_cases h : layCodeM wd its d (partsB ps && deckB d) = 0
  · by_cases h2 : (twoM its partS countS).2.2 = 0
    · rw [mf_go h h2]
      obtain ⟨k, m, p, q, _, _, hp, hq, _, hq2, ht⟩ := two_zero h2
      rw [ht]
      dsimp only
      have hcs := mf_cards h hp hq hq2
      have hps := (lay_zero h).2.1
      simp only [Bool.and_eq_true] at hps
      have h40 := (partsB_mem hps.1).1
      unfold movesGo
      split
      · intro y hy
        rw [List.mem_map] at hy
        obtain ⟨c, hc, rfl⟩ := hy
        have hn := numFieldB_b (hcs c hc).2.1
        have hl := partOf_len hn.1
        unfold moveAtM
        split
        · exact ⟨⟨by simp, by simp⟩, ⟨by simp, by simp⟩⟩
        split
        · exact ⟨⟨by simp, by simp⟩, ⟨by simp, by simp⟩⟩
        rename_i hix
        have hr := partIx_range hix
        refine ⟨by simp only [i64ok]; omega, ?_⟩
        rcases numIn_cases (partOf c q.fld) with h3 | ⟨n, h3, h4⟩
        · show i64ok (numInM (partOf c q.fld)).1
          rw [h3]
          exact ⟨by simp, by simp⟩
        · show i64ok (numInM (partOf c q.fld)).1
          rw [h3]
          exact numOf_b h4 (by omega)
      · intro y hy; simp at hy
    · rw [mf_two h h2]
      intro y hy; simp at hy
  · rw [mf_code h]
    intro y hy; simp at hy
end Go.M
