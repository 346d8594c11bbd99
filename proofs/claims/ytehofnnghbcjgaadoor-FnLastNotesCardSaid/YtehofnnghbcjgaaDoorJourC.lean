/- Contracts of functions of the given program, of the reference and of the laws: each says what a call returns, for all arguments that meet the premises that the theorem itself names. -/
import Derived.Test.YtehofnnghbcjgaaDoorJourT
namespace Go.Proofs.YtehofnnghbcjgaaDoor
open Go Go.RowKit Go.Vc Go.M Go.Shelf Go.Proofs
theorem impl_CardsNow {log : ByteArray} (hs : log.size ≤ 1048576) {w : World} (hT : Pow w) (hE : Errs w) (hM : MaxL w) :
    Does Tryd.prog 7 [.string log] w (fun v w' => v = pairV (cardsM log) ∧ Ext w w') := by
  have hok := readJ_ok _ log.data.toList 0 (Nat.le_refl _) (by omega) (by omega)
  unfold cardsM
  refine Does.of_vc tabok Tryd.func7 rfl rfl rfl (by kernel_rfl) ?_; conv => whnf
  by_cases hj : journalCode log = 0
  · rw [if_pos hj]
    have hv := hok.1
    have hl0 := hok.2.2.2.1
    have hl1 := hok.2.2.2.2
    have hsz : log.data.toList.length = log.size := by simp
    have h4 : log.size ≤ 4000 := by rcases journalCode_cases log with ⟨z1, z2⟩ | ⟨z1, z2, z3⟩ | ⟨z1, z2, z3⟩ <;> omega
    clear hok
    have hA : ∀ (k : Nat) u, k < 6 → Pow u → Errs u → MaxL u → Does Tryd.prog 14 [.string log, .int .i64 k] u (fun v w' => ∃ a n c, v = .tuple #[.slice a n c, .int .i64 0] ∧ NewAt u.heap.size a ∧ Own TNote.enc w' a n 34 (aboutL (readJ log.data.toList 0).1 k) ∧ Ext u w') := fun k u h0 h1 h2 h3 => by
      have := impl_notesAbout (t := (k : Int)) hs ⟨by omega, by omega⟩ h1 h2 h3
      have e : aboutM log (k : Int) = (aboutL (readJ log.data.toList 0).1 k, 0) := by
        unfold aboutM
        rw [if_pos hj, if_pos (by simp only [inB, Bool.and_eq_true, decide_eq_true_eq]; omega)]
      rw [e] at this
      exact this
    generalize (readJ log.data.toList 0).2.2 = nb at *
    generalize (readJ log.data.toList 0).2.1 = ch at *
    generalize (readJ log.data.toList 0).1 = l at *
    have hsb := sumTo_b hv
    refine LoopK.rule [0, 4, 8] (fun (k : Nat) vs w' => vs = [.string log, .int .i64 (sumTo l k), .int .i64 k] ∧ k ≤ 6 ∧ Ext w w') (fun k => 6 - k) tab tabok (by kernel_rfl) 0 ⟨rfl, by omega, Ext.refl _⟩ ?_
    rintro k g _ w' ⟨rfl, hk, hx⟩
    have hlc0 : (aboutL l k).length = 0 → sumTo l (k + 1) = sumTo l k := fun h => by
      have : aboutL l (k : Int) = [] := List.eq_nil_of_length_eq_zero h
      simp [sumTo, this, lastCount]
    have hlc1 : ∀ n x, (aboutL l k).length = n + 1 → (aboutL l k)[n]? = some x → sumTo l (k + 1) = sumTo l k + x.count := fun n x h hx => by
      simp only [sumTo, lastCount]
      rw [getLast_at h, hx]
    have hb1 := hsb k
    have hb2 := hsb (k + 1)
    have hmem : ∀ n x, (aboutL l k)[n]? = some x → noteB x = true := fun n x hx => hv x (aboutL_mem (List.mem_of_getElem? hx))
    have hal := aboutL_len l k
    have hik : i64ok (k : Int) := ⟨by omega, by omega⟩
    by_cases hlt : k < 6
    · generalize hL : aboutL l (k : Int) = L at *
      cases hLl : L.length with
      | zero =>
        have hS : ∀ u, Pow u → Errs u → MaxL u → Does Tryd.prog 14 [.string log, .int .i64 k] u (fun v w' => ∃ a c, v = .tuple #[.slice a 0 c, .int .i64 0] ∧ NewAt u.heap.size a ∧ Own TNote.enc w' a 0 34 L ∧ Ext u w') := fun u h1 h2 h3 => by
          refine (hA k u hlt h1 h2 h3).mono ?_
          rintro _ u' ⟨a, m, c, rfl, N, O, e⟩
          rw [hL] at O
          have hm2 : m = 0 := by have := O.1; omega
          subst hm2
          exact ⟨a, c, rfl, N, O, e⟩
        have hl0 := hlc0 hLl
        clear hA
        conv => whnf
        refine IfB.yes (by omega) ?_
        conv => whnf
        refine (hS _ (hT.ext hx) (hE.ext hx) (hM.ext hx)).mono ?_
        rintro _ w10 ⟨a5, c6, rfl, N7, O8, e9⟩
        conv => whnf
        refine SemK.add (((k + 1 : Nat) : Int)) (by omega) (by omega) (by omega) ?_
        conv => whnf
        exact ⟨k + 1, by omega, by rw [hl0]; rfl, by omega, Ext.trans hx e9⟩
      | succ n =>
        obtain ⟨x, hx2⟩ : ∃ x, L[n]? = some x := get_of_lt (by omega)
        have hS : ∀ u, Pow u → Errs u → MaxL u → Does Tryd.prog 14 [.string log, .int .i64 k] u (fun v w' => ∃ a c, v = .tuple #[.slice a (n + 1) c, .int .i64 0] ∧ NewAt u.heap.size a ∧ Own TNote.enc w' a (n + 1) 34 L ∧ Ext u w') := fun u h1 h2 h3 => by
          refine (hA k u hlt h1 h2 h3).mono ?_
          rintro _ u' ⟨a, m, c, rfl, N, O, e⟩
          rw [hL] at O
          have hm2 : m = n + 1 := by have := O.1; omega
          subst hm2
          exact ⟨a, c, rfl, N, O, e⟩
        have hl0 := hlc1 n x hLl hx2
        have hn1 := hmem n x hx2
        have hxo := noteB_ok hn1
        clear hA
        conv => whnf
        refine IfB.yes (by omega) ?_
        conv => whnf
        refine (hS _ (hT.ext hx) (hE.ext hx) (hM.ext hx)).mono ?_
        rintro _ w10 ⟨a5, c6, rfl, N7, O8, e9⟩
        conv => whnf
        refine IfB.yes (by omega) ?_
        conv => whnf
        refine SemK.sub ((n : Nat) : Int) (by omega) (by omega) (by omega) ?_
        conv => whnf
        obtain ⟨b12, rfl⟩ := (O8).some (by omega)
        have lb12 : b12 < w10.heap.size := O8.lt _ rfl
        refine SemK.indexOwn (sz := 4) (by kernel_rfl) n rfl (by omega) ?_
        have hb12 := Own.elem TNote.enc_len O8 hx2
        conv => whnf
        refine SemK.load1 (by kernel_rfl) hb12 (k := 1) rfl ?_
        conv => whnf
        refine SemK.add _ rfl (by omega) (by omega) ?_
        conv => whnf
        refine SemK.add (((k + 1 : Nat) : Int)) (by omega) (by omega) (by omega) ?_
        conv => whnf
        exact ⟨k + 1, by omega, by rw [hl0]; rfl, by omega, Ext.trans hx e9⟩
    · have hk2 : k = 6 := by omega
      subst hk2
      conv => whnf
      exact ⟨rfl, hx⟩
  · rw [if_neg hj]
    have hA : ∀ u, Pow u → Errs u → MaxL u → Does Tryd.prog 14 [.string log, .int .i64 0] u (fun v w' => ∃ a n c, v = .tuple #[.slice a n c, .int .i64 (journalCode log)] ∧ Ext u w') := fun u h1 h2 h3 => by
      refine (impl_notesAbout (t := 0) hs ⟨by omega, by omega⟩ h1 h2 h3).mono ?_
      rintro _ u' ⟨a, n, c, rfl, N, O, e⟩
      have e2 : (aboutM log 0).2 = journalCode log := by
        unfold aboutM
        rw [if_neg hj]
      rw [e2]
      exact ⟨a, n, c, rfl, e⟩
    clear hok
    refine LoopK.rule [0, 4, 8] (fun (k : Nat) vs w' => k = 0 ∧ vs = [.string log, .int .i64 0, .int .i64 0] ∧ w = w') (fun k => 6 - k) tab tabok (by kernel_rfl) 0 ⟨rfl, rfl, rfl⟩ ?_
    rintro k g _ w' ⟨rfl, rfl, rfl⟩
    conv => whnf
    refine (hA _ hT hE hM).mono ?_
    rintro _ w5 ⟨a1, n2, c3, rfl, e4⟩
    conv => whnf
    refine IfB.eqt (by simp [*]; done) ?_
    conv => whnf
    exact ⟨rfl, e4⟩
end Go.Proofs.YtehofnnghbcjgaaDoor
