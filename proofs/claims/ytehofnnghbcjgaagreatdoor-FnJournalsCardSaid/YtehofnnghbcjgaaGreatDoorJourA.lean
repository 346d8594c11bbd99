/- Contracts of functions of the given program, of the reference and of the laws: each says what a call returns, for all arguments that meet the premises that the theorem itself names. -/
import Derived.Test.YtehofnnghbcjgaaGreatDoorJourR
namespace Go.Proofs.YtehofnnghbcjgaaGreatDoor
open Go Go.RowKit Go.Vc Go.M Go.Shelf Go.Proofs
theorem impl_notesOf {log : ByteArray} (hs : log.size ≤ 1048576) {l : List TNote} {ch cd : Int} (hm : notesOfM log = (l, ch, cd)) {w : World} (hT : Pow w) (hE : Errs w) (hM : MaxL w) :
    Does Tryz.prog 65 [.string log] w (fun v w' => ∃ a n c, v = .tuple #[.slice a n c, .int .i64 ch, .int .i64 cd] ∧ NewAt w.heap.size a ∧ Own TNote.enc w' a n 31 l ∧ Ext w w') := by
  unfold notesOfM at hm
  have hb := (readJ_ok _ log.data.toList 0 (Nat.le_refl _) (by omega) (by omega)).2.2.2.1
  rcases journalCode_cases log with ⟨z1, z2⟩ | ⟨z1, z2, z3⟩ | ⟨z1, z2, z3⟩
  · rw [z2] at hm
    cases hm
    refine Does.of_vc tabok Tryz.func65 rfl rfl rfl (by kernel_rfl) ?_; conv => whnf
    refine IfB.yes (by omega) ?_
    conv => whnf
    exact ⟨_, _, _, rfl, NewAt.nil, Own.nil, Ext.refl _⟩
  · rw [z3] at hm
    cases hm
    refine Does.of_vc tabok Tryz.func65 rfl rfl rfl (by kernel_rfl) ?_; conv => whnf
    refine IfB.no (by omega) ?_
    conv => whnf
    refine (impl_readJournal z1 hT hE hM).mono ?_
    rintro _ w10 ⟨a4, n5, c6, rfl, N7, O8, e9⟩
    conv => whnf
    refine IfB.yes (by omega) ?_
    conv => whnf
    exact ⟨_, _, _, rfl, NewAt.nil, Own.nil, e9⟩
  · rw [z3, if_pos rfl] at hm
    cases hm
    refine Does.of_vc tabok Tryz.func65 rfl rfl rfl (by kernel_rfl) ?_; conv => whnf
    refine IfB.no (by omega) ?_
    conv => whnf
    refine (impl_readJournal z1 hT hE hM).mono ?_
    rintro _ w10 ⟨a4, n5, c6, rfl, N7, O8, e9⟩
    conv => whnf
    refine IfB.no (by omega) ?_
    conv => whnf
    exact ⟨_, _, _, rfl, N7, O8, e9⟩
theorem impl_CheckJournal {log : ByteArray} (hs : log.size ≤ 1048576) {w : World} (hT : Pow w) (hE : Errs w) (hM : MaxL w) :
    Does Tryz.prog 13 [.string log] w (fun v w' => v = pairV (checkM log) ∧ Ext w w') := by
  unfold checkM
  refine Does.of_vc tabok Tryz.func13 rfl rfl rfl (by kernel_rfl) ?_; conv => whnf
  by_cases h4 : 4000 < log.size
  · rw [if_pos h4]
    refine IfB.yes (by omega) ?_
    conv => whnf
    exact ⟨rfl, Ext.refl _⟩
  · rw [if_neg h4]
    refine IfB.no (by omega) ?_
    conv => whnf
    refine (impl_readJournal (by omega) hT hE hM).mono ?_
    rintro _ w11 ⟨a5, n6, c7, rfl, N8, O9, e10⟩
    conv => whnf
    exact ⟨rfl, e10⟩
theorem impl_RecoverJournal {log : ByteArray} (hs : log.size ≤ 1048576) {w : World} (hT : Pow w) (hE : Errs w) (hM : MaxL w) :
    Does Tryz.prog 12 [.string log] w (fun v w' => v = .tuple #[.string (recoverM log).1, .int .i64 (recoverM log).2.1, .int .i64 (recoverM log).2.2] ∧ Ext w w') := by
  have hb := (readJ_ok _ log.data.toList 0 (Nat.le_refl _) (by omega) (by omega)).2.2.2.1
  have hsz : log.data.toList.length = log.size := by simp
  have hC : ∀ u, Pow u → Errs u → MaxL u → Does Tryz.prog 13 [.string log] u (fun v u' => v = .tuple #[.int .i64 (checkM log).1, .int .i64 (checkM log).2] ∧ Ext u u') := fun u h1 h2 h3 => impl_CheckJournal hs h1 h2 h3
  unfold recoverM
  unfold checkM at hC
  by_cases h4 : 4000 < log.size
  · rw [if_pos h4] at hC ⊢
    dsimp only at hC ⊢
    refine Does.of_vc tabok Tryz.func12 rfl rfl rfl (by kernel_rfl) ?_; conv => whnf
    refine (hC _ hT hE hM).mono ?_
    rintro _ w6 ⟨rfl, e5⟩
    conv => whnf
    exact ⟨rfl, e5⟩
  · rw [if_neg h4] at hC ⊢
    dsimp only at hC ⊢
    refine Does.of_vc tabok Tryz.func12 rfl rfl rfl (by kernel_rfl) ?_; conv => whnf
    refine (hC _ hT hE hM).mono ?_
    rintro _ w6 ⟨rfl, e5⟩
    conv => whnf
    refine SemK.sliceStr (k := .i64) (k' := .i64) (by kernel_rfl) (0) ((readJ log.data.toList 0).snd.snd) (by omega) (by omega) (.inl ⟨rfl, rfl⟩) (.inr (by rfl)) ?_
    conv => whnf
    refine SemK.sub _ rfl (by omega) (by omega) ?_
    conv => whnf
    exact ⟨rfl, e5⟩
theorem impl_NotesOf {log : ByteArray} (hs : log.size ≤ 1048576) {w : World} (hT : Pow w) (hE : Errs w) (hM : MaxL w) :
    Does Tryz.prog 9 [.string log] w (fun v w' => ∃ a n c, v = .tuple #[.slice a n c, .int .i64 (notesOfM log).2.2] ∧ NewAt w.heap.size a ∧ Own TNote.enc w' a n 31 (notesOfM log).1 ∧ Ext w w') := by
  obtain ⟨l, ch, cd, hm⟩ : ∃ l ch cd, notesOfM log = (l, ch, cd) := ⟨_, _, _, rfl⟩
  rw [hm]
  have hN : ∀ u, Pow u → Errs u → MaxL u → Does Tryz.prog 65 [.string log] u (fun v w' => ∃ a n c, v = .tuple #[.slice a n c, .int .i64 ch, .int .i64 cd] ∧ NewAt u.heap.size a ∧ Own TNote.enc w' a n 31 l ∧ Ext u w') := fun u h1 h2 h3 => impl_notesOf hs hm h1 h2 h3
  refine Does.of_vc tabok Tryz.func9 rfl rfl rfl (by kernel_rfl) ?_; conv => whnf
  refine (hN _ hT hE hM).mono ?_
  rintro _ w7 ⟨a1, n2, c3, rfl, N4, O5, e6⟩
  conv => whnf
  exact ⟨_, _, _, rfl, N4, O5, e6⟩
theorem impl_AddNote {log : ByteArray} (hs : log.size ≤ 1048576) {x : TNote} (hx : x.ok) {w : World} (hT : Pow w) (hE : Errs w) (hM : MaxL w) :
    Does Tryz.prog 10 [.string log, .agg ⟨x.enc⟩] w (fun v w' => v = .tuple #[.string (addNoteM log x).1, .int .i64 (addNoteM log x).2] ∧ Ext w w') := by
  have hok := readJ_ok _ log.data.toList 0 (Nat.le_refl _) (by omega) (by omega)
  obtain ⟨l, ch, cd, hm⟩ : ∃ l ch cd, notesOfM log = (l, ch, cd) := ⟨_, _, _, rfl⟩
  have hN : ∀ u, Pow u → Errs u → MaxL u → Does Tryz.prog 65 [.string log] u (fun v w' => ∃ a n c, v = .tuple #[.slice a n c, .int .i64 ch, .int .i64 cd] ∧ NewAt u.heap.size a ∧ Own TNote.enc w' a n 31 l ∧ Ext u w') := fun u h1 h2 h3 => impl_notesOf hs hm h1 h2 h3
  unfold notesOfM at hm
  unfold addNoteM
  by_cases hj : journalCode log = 0
  · rw [if_pos hj] at hm ⊢
    have hcb := hok.2.1
    have hcb2 := hok.2.2.1
    generalize (readJ log.data.toList 0).2.1 = ch2 at *
    cases hm
    have hcm := chainM_b ch hcb x
    have hlz := line_size hcm.1 hcm.2 hx
    cases hz1 : noteB x
    · rw [if_pos rfl]
      dsimp only
      clear hok
      refine Does.of_vc tabok Tryz.func10 rfl rfl rfl (by kernel_rfl) ?_; conv => whnf
      refine SemK.box ?_
      intro b3 w3 g3 l3 e3 B3
      conv => whnf
      refine (hN _ (hT.ext e3) (hE.ext e3) (hM.ext e3)).mono ?_
      rintro _ w10 ⟨a4, n5, c6, rfl, N7, O8, e9⟩
      conv => whnf
      refine SemK.loadAgg (n := 4) (by kernel_rfl) (B3.ext e9).cells rfl ?_
      conv => whnf
      refine (impl_ValidNote hx _).mono ?_
      rintro _ w12 ⟨rfl, e11⟩
      conv => whnf
      refine IfB.eqt (by simp [*]; done) ?_
      conv => whnf
      exact ⟨rfl, (Ext.trans (Ext.trans e3 e9) e11)⟩
    · have hw12 := noteB_what hz1
      have hNL : ∀ u, Pow u → Does Tryz.prog 64 [.int .i64 (chainM ch x), .agg ⟨x.enc⟩] u (fun v u' => v = .string (lineB (chainM ch x) x) ∧ Ext u u') := fun u hu => impl_noteLine hcm.1 hcm.2 hx (by omega) hu
      rw [if_neg (by simp)]
      generalize lineB (chainM ch x) x = L at *
      clear hok
      by_cases hq : 4000 < log.size + L.size
      · rw [if_pos hq]
        dsimp only
        refine Does.of_vc tabok Tryz.func10 rfl rfl rfl (by kernel_rfl) ?_; conv => whnf
        refine SemK.box ?_
        intro b13 w13 g13 l13 e13 B13
        conv => whnf
        refine (hN _ (hT.ext e13) (hE.ext e13) (hM.ext e13)).mono ?_
        rintro _ w20 ⟨a14, n15, c16, rfl, N17, O18, e19⟩
        conv => whnf
        refine SemK.loadAgg (n := 4) (by kernel_rfl) (B13.ext e19).cells rfl ?_
        conv => whnf
        refine (impl_ValidNote hx _).mono ?_
        rintro _ w22 ⟨rfl, e21⟩
        conv => whnf
        refine IfB.eqf (by simp [*]; done) ?_
        conv => whnf
        refine DrawK.held tabok mixed [(0, false), (1, false), (2, false), (4, false), (3, true), (5, true), (6, true), (7, true)] (by kernel_rfl) (by kernel_rfl) ?_
        conv => whnf
        intro w23 e23
        conv => whnf
        refine DSemK.loadAgg (n := 4) (by kernel_rfl) (B13.ext (Ext.trans e19 e21)).cells rfl ?_
        conv => whnf
        refine DSemK.loadAgg (n := 4) (by kernel_rfl) (B13.ext (Ext.trans e19 e21)).cells rfl ?_
        conv => whnf
        refine (impl_chainOf hcb hcb2 hx (by omega) (hT.ext (Ext.trans (Ext.trans (Ext.trans e13 e19) e21) e23))).mono ?_
        rintro _ w25 ⟨rfl, e24⟩
        conv => whnf
        refine ⟨(Ext.trans e23 e24), ?_⟩
        conv => whnf
        refine (hNL _ (hT.ext (Ext.trans (Ext.trans (Ext.trans (Ext.trans e13 e19) e21) e23) e24))).mono ?_
        rintro _ w27 ⟨rfl, e26⟩
        conv => whnf
        refine ⟨(Ext.trans (Ext.trans e23 e24) e26), ?_⟩
        conv => whnf
        refine SemK.cat (by omega) ?_
        conv => whnf
        refine ⟨(Ext.trans (Ext.trans e23 e24) e26), ?_⟩
        conv => whnf
        with_reducible refine IfB.dec (fun h28 => ?_) (fun h28 => ?_)
        · conv => whnf
          exact ⟨rfl, (Ext.trans (Ext.trans (Ext.trans (Ext.trans (Ext.trans e13 e19) e21) e23) e24) e26)⟩
        · conv => whnf
          refine ⟨?_, (Ext.trans (Ext.trans (Ext.trans (Ext.trans (Ext.trans e13 e19) e21) e23) e24) e26)⟩
          · exact absurd hq (by rw [ByteArray.size_append] at h28; omega)
      · rw [if_neg hq]
        dsimp only
        refine Does.of_vc tabok Tryz.func10 rfl rfl rfl (by kernel_rfl) ?_; conv => whnf
        refine SemK.box ?_
        intro b13 w13 g13 l13 e13 B13
        conv => whnf
        refine (hN _ (hT.ext e13) (hE.ext e13) (hM.ext e13)).mono ?_
        rintro _ w20 ⟨a14, n15, c16, rfl, N17, O18, e19⟩
        conv => whnf
        refine SemK.loadAgg (n := 4) (by kernel_rfl) (B13.ext e19).cells rfl ?_
        conv => whnf
        refine (impl_ValidNote hx _).mono ?_
        rintro _ w22 ⟨rfl, e21⟩
        conv => whnf
        refine IfB.eqf (by simp [*]; done) ?_
        conv => whnf
        refine DrawK.held tabok mixed [(0, false), (1, false), (2, false), (4, false), (3, true), (5, true), (6, true), (7, true)] (by kernel_rfl) (by kernel_rfl) ?_
        conv => whnf
        intro w23 e23
        conv => whnf
        refine DSemK.loadAgg (n := 4) (by kernel_rfl) (B13.ext (Ext.trans e19 e21)).cells rfl ?_
        conv => whnf
        refine DSemK.loadAgg (n := 4) (by kernel_rfl) (B13.ext (Ext.trans e19 e21)).cells rfl ?_
        conv => whnf
        refine (impl_chainOf hcb hcb2 hx (by omega) (hT.ext (Ext.trans (Ext.trans (Ext.trans e13 e19) e21) e23))).mono ?_
        rintro _ w25 ⟨rfl, e24⟩
        conv => whnf
        refine ⟨(Ext.trans e23 e24), ?_⟩
        conv => whnf
        refine (hNL _ (hT.ext (Ext.trans (Ext.trans (Ext.trans (Ext.trans e13 e19) e21) e23) e24))).mono ?_
        rintro _ w27 ⟨rfl, e26⟩
        conv => whnf
        refine ⟨(Ext.trans (Ext.trans e23 e24) e26), ?_⟩
        conv => whnf
        refine SemK.cat (by omega) ?_
        conv => whnf
        refine ⟨(Ext.trans (Ext.trans e23 e24) e26), ?_⟩
        conv => whnf
        with_reducible refine IfB.dec (fun h28 => ?_) (fun h28 => ?_)
        · conv => whnf
          refine ⟨?_, (Ext.trans (Ext.trans (Ext.trans (Ext.trans (Ext.trans e13 e19) e21) e23) e24) e26)⟩
          · exact absurd (by rw [ByteArray.size_append] at h28; omega) hq
        · conv => whnf
          exact ⟨rfl, (Ext.trans (Ext.trans (Ext.trans (Ext.trans (Ext.trans e13 e19) e21) e23) e24) e26)⟩
  · rw [if_neg hj] at hm ⊢
    cases hm
    dsimp only
    clear hok
    refine Does.of_vc tabok Tryz.func10 rfl rfl rfl (by kernel_rfl) ?_; conv => whnf
    refine SemK.box ?_
    intro b1 w1 g1 l1 e1 B1
    conv => whnf
    refine (hN _ (hT.ext e1) (hE.ext e1) (hM.ext e1)).mono ?_
    rintro _ w8 ⟨a2, n3, c4, rfl, N5, O6, e7⟩
    conv => whnf
    refine IfB.eqt (by simp [*]; done) ?_
    conv => whnf
    exact ⟨rfl, (Ext.trans e1 e7)⟩
theorem spec_NotesOf {log : ByteArray} (hs : log.size ≤ 1048576) (w : World) :
    Does Tryz.prog 14 [.string log] w (fun v w' => ∃ a n c, v = .tuple #[.slice a n c, .int .i64 (notesOfM log).2.2] ∧ NewAt w.heap.size a ∧ Own TNote.enc w' a n 31 (notesOfM log).1 ∧ Ext w w') := by
  have hC : ∀ u, Does Tryz.prog 67 [.string log] u (fun v w' => ∃ r, v = .tuple #[.pointer (some ⟨r, 0, none⟩), .int .i64 (journalCode log)] ∧ Ext u w' ∧ u.heap.size ≤ r ∧
      (log.size ≤ 4000 → ∃ a n c, Blk w' r [.string log, .int .i64 ((readJ log.data.toList 0).2.2 : Nat), .int .i64 (readJ log.data.toList 0).2.1, .slice a n c] 107 ∧ NewAt u.heap.size a ∧ Own TNote.enc w' a n 31 (readJ log.data.toList 0).1)) := fun u => spec_l27Code hs u
  unfold notesOfM
  refine Does.of_vc tabok Tryz.func14 rfl rfl rfl (by kernel_rfl) ?_; conv => whnf
  by_cases hj : journalCode log = 0
  · rw [if_pos hj]
    dsimp only
    have h4 : log.size ≤ 4000 := by rcases journalCode_cases log with ⟨z1, z2⟩ | ⟨z1, z2, z3⟩ | ⟨z1, z2, z3⟩ <;> omega
    refine (hC _).mono ?_
    rintro _ w3 ⟨r, rfl, e3, hr, hq⟩
    obtain ⟨a, n, c, B, N, O⟩ := hq h4
    conv => whnf
    refine IfB.eqf (by simp [*]; done) ?_
    conv => whnf
    refine SemK.load1 (by kernel_rfl) B.cells (k := 3) rfl ?_
    conv => whnf
    exact ⟨_, _, _, rfl, N, O, e3⟩
  · rw [if_neg hj]
    dsimp only
    refine (hC _).mono ?_
    rintro _ w3 ⟨r, rfl, e3, hr, hq⟩
    clear hq
    conv => whnf
    refine IfB.eqt (by simp [*]; done) ?_
    conv => whnf
    exact ⟨_, _, _, rfl, NewAt.nil, Own.nil, e3⟩
end Go.Proofs.YtehofnnghbcjgaaGreatDoor
