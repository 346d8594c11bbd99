/- Contracts of functions of the given program, of the reference and of the laws: each says what a call returns, for all arguments that meet the premises that the theorem itself names. -/
import Derived.Test.YtkjmbjedbmblmaaGreatDoorJourR
namespace Go.Proofs.YtkjmbjedbmblmaaGreatDoor
open Go Go.RowKit Go.Vc Go.M Go.Shelf Go.Proofs
theorem impl_notesOf {log : ByteArray} (hs : log.size ≤ 1048576) {l : List TNote} {ch cd : Int} (hm : notesOfM log = (l, ch, cd)) {w : World} (hT : Pow w) (hE : Errs w) (hM : MaxL w) :
    Does Tryz.prog 242 [.string log] w (fun v w' => ∃ a n c, v = .tuple #[.slice a n c, .int .i64 ch, .int .i64 cd] ∧ NewAt w.heap.size a ∧ Own TNote.enc w' a n 377 l ∧ Ext w w') := by
  unfold notesOfM at hm
  have hb := (readJ_ok _ log.data.toList 0 (Nat.le_refl _) (by omega) (by omega)).2.2.2.1
  rcases journalCode_cases log with ⟨z1, z2⟩ | ⟨z1, z2, z3⟩ | ⟨z1, z2, z3⟩
  · rw [z2] at hm
    cases hm
    refine Does.of_vc tabok Tryz.func242 rfl rfl rfl (by kernel_rfl) ?_; conv => whnf
    refine IfB.yes (by omega) ?_
    conv => whnf
    exact ⟨_, _, _, rfl, NewAt.nil, Own.nil, Ext.refl _⟩
  · rw [z3] at hm
    cases hm
    refine Does.of_vc tabok Tryz.func242 rfl rfl rfl (by kernel_rfl) ?_; conv => whnf
    refine IfB.no (by omega) ?_
    conv => whnf
    refine (impl_readJournal z1 hT hE hM).mono ?_
    rintro _ w10 ⟨a4, n5, c6, rfl, N7, O8, e9⟩
    conv => whnf
    refine IfB.yes (by omega) ?_
    conv => whnf
    exact ⟨_, _, _, rfl, NewAt.nil, Own.nil, e9⟩
  · rw [z3, if_pos rfl] at hm
    cases hm
    refine Does.of_vc tabok Tryz.func242 rfl rfl rfl (by kernel_rfl) ?_; conv => whnf
    refine IfB.no (by omega) ?_
    conv => whnf
    refine (impl_readJournal z1 hT hE hM).mono ?_
    rintro _ w10 ⟨a4, n5, c6, rfl, N7, O8, e9⟩
    conv => whnf
    refine IfB.no (by omega) ?_
    conv => whnf
    exact ⟨_, _, _, rfl, N7, O8, e9⟩
theorem impl_NotesOf {log : ByteArray} (hs : log.size ≤ 1048576) {w : World} (hT : Pow w) (hE : Errs w) (hM : MaxL w) :
    Does Tryz.prog 144 [.string log] w (fun v w' => ∃ a n c, v = .tuple #[.slice a n c, .int .i64 (notesOfM log).2.2] ∧ NewAt w.heap.size a ∧ Own TNote.enc w' a n 377 (notesOfM log).1 ∧ Ext w w') := by
  obtain ⟨l, ch, cd, hm⟩ : ∃ l ch cd, notesOfM log = (l, ch, cd) := ⟨_, _, _, rfl⟩
  rw [hm]
  have hN : ∀ u, Pow u → Errs u → MaxL u → Does Tryz.prog 242 [.string log] u (fun v w' => ∃ a n c, v = .tuple #[.slice a n c, .int .i64 ch, .int .i64 cd] ∧ NewAt u.heap.size a ∧ Own TNote.enc w' a n 377 l ∧ Ext u w') := fun u h1 h2 h3 => impl_notesOf hs hm h1 h2 h3
  refine Does.of_vc tabok Tryz.func144 rfl rfl rfl (by kernel_rfl) ?_; conv => whnf
  refine (hN _ hT hE hM).mono ?_
  rintro _ w7 ⟨a1, n2, c3, rfl, N4, O5, e6⟩
  conv => whnf
  exact ⟨_, _, _, rfl, N4, O5, e6⟩
end Go.Proofs.YtkjmbjedbmblmaaGreatDoor
