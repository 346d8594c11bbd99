/- The statement on the law NotesOf is proved, as it is given: for every input the law returns true and each argument reads as before. No conditions. -/
import Derived.Test.YtilagemeigeceaaDoorJourA
import Derived.Test.YtilagemeigeceaaDoorVcApp
import Derived.Test.YtilagemeigeceaaDoorShelf
import Derived.Test.YtilagemeigeceaaDoorSeatMain
import Derived.Test.YtilagemeigeceaaDoorTie
import Derived.Test.YtilagemeigeceaaDoorCards
import Derived.Test.YtilagemeigeceaaDoorLiftBase
namespace Go.Proofs.YtilagemeigeceaaDoor
open Go Go.Shelf Go.Proofs Go.RowKit Go.Vc Go.M Go.ChangeShapes Go.WideShapes Go.ChangeAt
open Go.ChangeMaps (open_string)
set_option linter.unusedVariables false in
theorem law_NotesOf {w : World} {x0 : ByteArray} (ok0 : strok x0)  (hT : Pow w) (hE : Errs w) (hM : MaxL w) : Does Tryd.prog 16 [.string x0] w (fun v w' => v = .bool true ∧ Ext w w') := by
  have hlen : (notesOfM x0).1.length ≤ 4000 := notesOfM_len x0
  refine Does.of_vc tabok Tryd.func16 rfl rfl rfl (by kernel_rfl) ?_; conv => whnf
  with_reducible refine IfB.dec (fun h1 => ?_) (fun h1 => ?_)
  · conv => whnf
    exact ⟨rfl, Ext.refl _⟩
  · conv => whnf
    refine (spec_NotesOf (by omega) _).mono ?_
    rintro _ w8 ⟨a2, n3, c4, rfl, N5, O6, e7⟩
    have E8 := e7
    have lnO6 := O6.1
    conv => whnf
    refine (impl_NotesOf (by omega) (hT.ext e7) (hE.ext e7) (hM.ext e7)).mono ?_
    rintro _ w15 ⟨a9, n10, c11, rfl, N12, O13, e14⟩
    have E15 := (Ext.trans e7 e14)
    have lnO13 := O13.1
    conv => whnf
    refine (laws_eqNoteS (O13.arr TNote.enc_len) ((O6.ext e14).arr TNote.enc_len)).mono ?_
    rintro _ w17 ⟨rfl, e16⟩
    have E17 := (Ext.trans E15 e16)
    conv => whnf
    refine IfB.eqf (by simp; done) ?_
    conv => whnf
    refine IfB.eqf (by simp; done) ?_
    conv => whnf
    refine (laws_markNoteS (k0 := 1) (O13.ext e16) (by omega)).mono ?_
    rintro _ w20 ⟨rfl, m18, O19⟩
    have E20 := (Ext.mod_trans E17 m18 (fun k hk => Nat.le_trans (Below.size e7) (blkIn_new N12 k hk)))
    have lnO19 := O19.1
    conv => whnf
    refine (laws_heldNoteS (k0 := 1) (O19.arr TNote.enc_len) (by omega)).mono ?_
    rintro _ w22 ⟨rfl, e21⟩
    have E22 := (Ext.trans E20 e21)
    conv => whnf
    refine IfB.eqf (by simp; done) ?_
    conv => whnf
    refine (impl_NotesOf (by omega) (hT.ext E22) (hE.ext E22) (hM.ext E22)).mono ?_
    rintro _ w29 ⟨a23, n24, c25, rfl, N26, O27, e28⟩
    have E29 := (Ext.trans E22 e28)
    have lnO27 := O27.1
    conv => whnf
    refine (laws_eqNoteS (O27.arr TNote.enc_len) ((O6.ext (Ext.trans (Ext.trans (Ext.mod_trans (Ext.trans e14 e16) m18 (blkIn_new N12)) e21) e28)).arr TNote.enc_len)).mono ?_
    rintro _ w31 ⟨rfl, e30⟩
    have E31 := (Ext.trans E29 e30)
    conv => whnf
    refine IfB.eqf (by simp; done) ?_
    conv => whnf
    refine IfB.eqf (by simp; done) ?_
    conv => whnf
    refine (laws_heldNoteS (k0 := 1) ((O19.ext (Ext.trans (Ext.trans e21 e28) e30)).arr TNote.enc_len) (by omega)).mono ?_
    rintro _ w33 ⟨rfl, e32⟩
    have E33 := (Ext.trans E31 e32)
    conv => whnf
    refine IfB.eqf (by simp; done) ?_
    conv => whnf
    exact ⟨rfl, E33⟩
set_option maxRecDepth 100000 in
theorem open_NotesOf {H : Type} {enc : TypeId × Value → H} {base : Nat} (W : World) (args : List Value) (ds : List (DataW H)) (p : List MemPlace) (hA : DataW.TrodAll enc Tryd.prog W 0 (fun _ => true) true (Tryd.f16).params.toList args ds p)
    (hv : ∀ (j : Nat) t v, (Tryd.f16).params[j]? = some t → args[j]? = some v → Value.okWide Tryd.prog W .any base t v) (hL : laidMet Tryd.prog Rows.fnExactNotesOfRow.laid W) (_hsh : W.ShapedOpen Tryd.prog) : Does Tryd.prog 16 args W (fun v w' => v = .bool true ∧ Ext W w') := by
  have e : (Tryd.f16).params.toList = [9] := rfl
  rw [e] at hA
  obtain ⟨v0, vs0, d0, ds0, p0, q0, rfl, rfl, rfl, g0, r0⟩ := trodAll_cons hA
  obtain ⟨rfl, rfl, rfl⟩ := trodAll_nil r0
  obtain ⟨x0, rfl, rfl, rfl, ok0⟩ := open_string Tryd.underlying9 (hv 0 9 v0 (by rw [← Array.getElem?_toList, e]; rfl) rfl) g0
  exact law_NotesOf ok0 (Pow.of_laid hL.tail.tail) (Errs.of_laid hL.tail.tail.tail.tail.tail hL.tail.tail.tail.tail) (MaxL.of_shaped _hsh)
set_option maxRecDepth 100000 in
theorem FnExactNotesOf_lifted (os : Os) (started : os.Started) (H : Type) (enc : TypeId × Value → H) (F : Stop.Interp) :
    ReturnsInHanded {} Tryd.checked os 16 .any ((OpenSpec.ofChange Rows.fnExactNotesOfSpec).preRow enc Tryd.prog Tryd.f16 Rows.fnExactNotesOfRow.domain false Rows.fnExactNotesOfRow.laid) (((OpenSpec.ofChange Rows.fnExactNotesOfSpec).at F).post enc Tryd.prog Tryd.f16 false true false false) := by
  refine returnsInHanded_of_row (C := Tryd.checked) (s := OpenSpec.ofChange Rows.fnExactNotesOfSpec) law_own started (by kernel_rfl) Tryd.func16
    (witness_row_sh (enc := enc) (C := Tryd.checked) (World.laidAll Tryd.prog os Rows.fnExactNotesOfRow.laid) #[.string { data := #[] }] 8 (World.laidAll_os _ _ _) (World.shaped_of_ZipB (by kernel_rfl) (by kernel_rfl)) (by kernel_rfl) (by kernel_rfl) (by kernel_rfl)
      (by rw [MakeChecks.laidMetH_plain _ _ _ (by kernel_rfl)]; exact laidMet_laidAll _ (by kernel_rfl) (by kernel_rfl))) ?_
  intro W base args ds gs before hval hW _ _ _ hL hsh _
  rw [MakeChecks.laidMetH_plain _ _ _ (by kernel_rfl)] at hL
  exact law_contract_at (P := Tryd.prog) (fn := Tryd.f16) (s := Rows.fnExactNotesOfSpec) rfl rfl Tryd.underlying4 law_laid (by kernel_rfl)
    (fun ds h => match ds, h with | [d0], _ => ⟨rfl, rfl, rfl⟩) W args ds gs before (fun p hA hv => open_NotesOf W args.toList ds p hA hv hL hsh) hval hW
theorem FnExactNotesOf_closed : joinedFacts Tryd.prog 16 Tryd.f16 (OpenSpec.ofChange Rows.fnExactNotesOfSpec).bare Rows.fnExactNotesOfRow = true := by
  unfold joinedFacts
  exact andI (andI (andI (andI (andI (andI (andI (andI (by kernel_rfl) seat_heard) seat_enter) seat_lifts) seat_make) (by kernel_rfl)) (by kernel_rfl)) (by kernel_rfl)) (by kernel_rfl)
theorem FnExactNotesOf_named : Tryd.prog.funcNamed Rows.fnExactNotesOfRow.func = some 16 := by kernel_rfl
theorem FnExactNotesOf_row : Rows.FnExactNotesOfSaid :=
  OpenClaim.holds_of_cond 16 Tryd.f16 rfl rfl rfl rfl rfl rfl rfl ⟨rfl, rfl, rfl, rfl, rfl⟩ rfl rfl rfl rfl rfl FnExactNotesOf_named Tryd.func16 FnExactNotesOf_closed
    (of_decide_eq_true (by kernel_rfl)) (by unfold Func.isWrapper; first | (rw [if_pos (by decide +kernel)]; kernel_rfl) | (rw [if_neg (by decide +kernel)]; exact ⟨rfl, rfl⟩))
    (fun os started H enc _ F => by rw [OpenClaim.pre_eq_preRow]; exact FnExactNotesOf_lifted os started H enc F)
theorem FnExactNotesOf_goes : false = Rows.fnExactNotesOfRow.goesBy Tryd.pinned.checked.prog := by kernel_rfl
theorem FnExactNotesOf_wf : Rows.fnExactNotesOfRow.wfByText (OpenSpec.ofChange Rows.fnExactNotesOfSpec) = true := by kernel_rfl
theorem FnExactNotesOf_plain (f : FuncId) (fn : Func) (hf : Tryd.pinned.checked.prog.funcNamed Rows.fnExactNotesOfRow.func = some f) (hfn : Tryd.pinned.checked.prog.funcs[f]? = some fn) :
    true = Tryd.pinned.checked.prog.looks [] ∧ ∀ (j : Nat) t, fn.params[j]? = some t → Tryd.pinned.checked.prog.wantsStandIn t = false := by
  obtain rfl : f = 16 := Option.some.inj (FnExactNotesOf_named.symm.trans hf) |>.symm
  obtain rfl : fn = Tryd.f16 := (Option.some.inj (Tryd.func16.symm.trans hfn)).symm
  refine ⟨seat_looks, fun j t ht => ?_⟩
  have hall : (Tryd.f16.params.toList.all fun u => !Tryd.prog.wantsStandIn u) = true := by kernel_rfl
  exact (show Tryd.prog.wantsStandIn t = false by simpa using List.all_eq_true.1 hall t (by simpa using Array.mem_of_getElem? ht))
theorem FnExactNotesOf_holds : Rows.FnExactNotesOfCardSaid :=
  Claim7.holds_tied_plain_at .later [] _ _ _ _ FnExactNotesOf_row (fun _ h => by cases h) FnExactNotesOf_wf (fun _ h => by cases h) fnExactNotesOf_row_tie rfl ⟨rfl, rfl⟩ seat_main rfl FnExactNotesOf_plain FnExactNotesOf_goes

end Go.Proofs.YtilagemeigeceaaDoor
