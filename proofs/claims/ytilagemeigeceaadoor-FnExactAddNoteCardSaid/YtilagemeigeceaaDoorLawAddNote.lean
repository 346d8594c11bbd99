/- The statement on the law AddNote is proved, as it is given: for every input the law returns true and each argument reads as before. No conditions. -/
import Derived.Test.YtilagemeigeceaaDoorJourA
import Derived.Test.YtilagemeigeceaaDoorVcApp
import Derived.Test.YtilagemeigeceaaDoorShelf
import Derived.Test.YtilagemeigeceaaDoorSeatMain
import Derived.Test.YtilagemeigeceaaDoorTie
import Derived.Test.YtilagemeigeceaaDoorCards
import Derived.Test.YtilagemeigeceaaDoorLiftBase
namespace Go.Proofs.YtilagemeigeceaaDoor
open Go Go.Shelf Go.Proofs Go.RowKit Go.Vc Go.M Go.ChangeShapes Go.WideShapes Go.ChangeAt
open Go.ChangeMaps (open_string)
set_option linter.unusedVariables false in
theorem law_AddNote {w : World} {x0 : ByteArray} (ok0 : strok x0) {x1 : TNote} (ok1 : x1.ok)  (hT : Pow w) (hE : Errs w) (hM : MaxL w) : Does Tryd.prog 12 [.string x0, .agg ⟨x1.enc⟩] w (fun v w' => v = .bool true ∧ Ext w w') := by
  refine Does.of_vc tabok Tryd.func12 rfl rfl rfl (by kernel_rfl) ?_; conv => whnf
  refine SemK.box ?_
  intro b2 w2 g2 l2 e2 B2
  conv => whnf
  with_reducible refine IfB.dec (fun h3 => ?_) (fun h3 => ?_)
  · conv => whnf
    exact ⟨rfl, e2⟩
  · conv => whnf
    refine SemK.loadAgg (n := 4) (by kernel_rfl) B2.cells rfl ?_
    conv => whnf
    refine (laws_szNote ok1 (by omega) (by omega) _).mono ?_
    rintro _ w7 ⟨r4, rfl, q5, e6⟩
    have E7 := (Ext.trans e2 e6)
    conv => whnf
    with_reducible refine IfB.dec (fun h8 => ?_) (fun h8 => ?_)
    · conv => whnf
      exact ⟨rfl, E7⟩
    · conv => whnf
      refine SemK.loadAgg (n := 4) (by kernel_rfl) (B2.ext e6).cells rfl ?_
      conv => whnf
      refine (laws_toNote _ _).mono ?_
      rintro _ w10 ⟨rfl, e9⟩
      have E10 := (Ext.trans E7 e9)
      conv => whnf
      refine (spec_AddNote (by omega) ok1 _).mono ?_
      rintro _ w12 ⟨rfl, e11⟩
      have E12 := (Ext.trans E10 e11)
      conv => whnf
      refine SemK.loadAgg (n := 4) (by kernel_rfl) (B2.ext (Ext.trans (Ext.trans e6 e9) e11)).cells rfl ?_
      conv => whnf
      refine (laws_toNote _ _).mono ?_
      rintro _ w14 ⟨rfl, e13⟩
      have E14 := (Ext.trans E12 e13)
      conv => whnf
      refine (impl_AddNote (by omega) ok1 (hT.ext E14) (hE.ext E14) (hM.ext E14)).mono ?_
      rintro _ w16 ⟨rfl, e15⟩
      have E16 := (Ext.trans E14 e15)
      conv => whnf
      refine IfB.eqf (by simp; done) ?_
      conv => whnf
      refine IfB.eqf (by simp; done) ?_
      conv => whnf
      exact ⟨rfl, E16⟩
set_option maxRecDepth 100000 in
theorem open_AddNote {H : Type} {enc : TypeId × Value → H} {base : Nat} (W : World) (args : List Value) (ds : List (DataW H)) (p : List MemPlace) (hA : DataW.TrodAll enc Tryd.prog W 0 (fun _ => true) true (Tryd.f12).params.toList args ds p)
    (hv : ∀ (j : Nat) t v, (Tryd.f12).params[j]? = some t → args[j]? = some v → Value.okWide Tryd.prog W .any base t v) (hL : laidMet Tryd.prog Rows.fnExactAddNoteRow.laid W) (_hsh : W.ShapedOpen Tryd.prog) : Does Tryd.prog 12 args W (fun v w' => v = .bool true ∧ Ext W w') := by
  have e : (Tryd.f12).params.toList = [9, 30] := rfl
  rw [e] at hA
  obtain ⟨v0, vs0, d0, ds0, p0, q0, rfl, rfl, rfl, g0, r0⟩ := trodAll_cons hA
  obtain ⟨v1, vs1, d1, ds1, p1, q1, rfl, rfl, rfl, g1, r1⟩ := trodAll_cons r0
  obtain ⟨rfl, rfl, rfl⟩ := trodAll_nil r1
  obtain ⟨x0, rfl, rfl, rfl, ok0⟩ := open_string Tryd.underlying9 (hv 0 9 v0 (by rw [← Array.getElem?_toList, e]; rfl) rfl) g0
  obtain ⟨cs1, rfl, hf1⟩ := open_flat (ks := [false, false, false, true]) (by kernel_rfl) (hv 1 30 v1 (by rw [← Array.getElem?_toList, e]; rfl) rfl) g1
  obtain ⟨x1, rfl, ok1⟩ := TNote.of_flat hf1
  exact law_AddNote ok0 ok1 (Pow.of_laid hL.tail.tail) (Errs.of_laid hL.tail.tail.tail.tail.tail hL.tail.tail.tail.tail) (MaxL.of_shaped _hsh)
set_option maxRecDepth 100000 in
theorem FnExactAddNote_lifted (os : Os) (started : os.Started) (H : Type) (enc : TypeId × Value → H) (F : Stop.Interp) :
    ReturnsInHanded {} Tryd.checked os 12 .any ((OpenSpec.ofChange Rows.fnExactAddNoteSpec).preRow enc Tryd.prog Tryd.f12 Rows.fnExactAddNoteRow.domain false Rows.fnExactAddNoteRow.laid) (((OpenSpec.ofChange Rows.fnExactAddNoteSpec).at F).post enc Tryd.prog Tryd.f12 false true false false) := by
  refine returnsInHanded_of_row (C := Tryd.checked) (s := OpenSpec.ofChange Rows.fnExactAddNoteSpec) law_own started (by kernel_rfl) Tryd.func12
    (witness_row_sh (enc := enc) (C := Tryd.checked) (World.laidAll Tryd.prog os Rows.fnExactAddNoteRow.laid) #[.string { data := #[] },.agg #[.int .i64 0, .int .i64 0, .int .i64 0, .string { data := #[] }]] 8 (World.laidAll_os _ _ _) (World.shaped_of_ZipB (by kernel_rfl) (by kernel_rfl)) (by kernel_rfl) (by kernel_rfl) (by kernel_rfl)
      (by rw [MakeChecks.laidMetH_plain _ _ _ (by kernel_rfl)]; exact laidMet_laidAll _ (by kernel_rfl) (by kernel_rfl))) ?_
  intro W base args ds gs before hval hW _ _ _ hL hsh _
  rw [MakeChecks.laidMetH_plain _ _ _ (by kernel_rfl)] at hL
  exact law_contract_at (P := Tryd.prog) (fn := Tryd.f12) (s := Rows.fnExactAddNoteSpec) rfl rfl Tryd.underlying4 law_laid (by kernel_rfl)
    (fun ds h => match ds, h with | [d0, d1], _ => ⟨rfl, rfl, rfl⟩) W args ds gs before (fun p hA hv => open_AddNote W args.toList ds p hA hv hL hsh) hval hW
theorem FnExactAddNote_closed : joinedFacts Tryd.prog 12 Tryd.f12 (OpenSpec.ofChange Rows.fnExactAddNoteSpec).bare Rows.fnExactAddNoteRow = true := by
  unfold joinedFacts
  exact andI (andI (andI (andI (andI (andI (andI (andI (by kernel_rfl) seat_heard) seat_enter) seat_lifts) seat_make) (by kernel_rfl)) (by kernel_rfl)) (by kernel_rfl)) (by kernel_rfl)
theorem FnExactAddNote_named : Tryd.prog.funcNamed Rows.fnExactAddNoteRow.func = some 12 := by kernel_rfl
theorem FnExactAddNote_row : Rows.FnExactAddNoteSaid :=
  OpenClaim.holds_of_cond 12 Tryd.f12 rfl rfl rfl rfl rfl rfl rfl ⟨rfl, rfl, rfl, rfl, rfl⟩ rfl rfl rfl rfl rfl FnExactAddNote_named Tryd.func12 FnExactAddNote_closed
    (of_decide_eq_true (by kernel_rfl)) (by unfold Func.isWrapper; first | (rw [if_pos (by decide +kernel)]; kernel_rfl) | (rw [if_neg (by decide +kernel)]; exact ⟨rfl, rfl⟩))
    (fun os started H enc _ F => by rw [OpenClaim.pre_eq_preRow]; exact FnExactAddNote_lifted os started H enc F)
theorem FnExactAddNote_goes : false = Rows.fnExactAddNoteRow.goesBy Tryd.pinned.checked.prog := by kernel_rfl
theorem FnExactAddNote_wf : Rows.fnExactAddNoteRow.wfByText (OpenSpec.ofChange Rows.fnExactAddNoteSpec) = true := by kernel_rfl
theorem FnExactAddNote_plain (f : FuncId) (fn : Func) (hf : Tryd.pinned.checked.prog.funcNamed Rows.fnExactAddNoteRow.func = some f) (hfn : Tryd.pinned.checked.prog.funcs[f]? = some fn) :
    true = Tryd.pinned.checked.prog.looks [] ∧ ∀ (j : Nat) t, fn.params[j]? = some t → Tryd.pinned.checked.prog.wantsStandIn t = false := by
  obtain rfl : f = 12 := Option.some.inj (FnExactAddNote_named.symm.trans hf) |>.symm
  obtain rfl : fn = Tryd.f12 := (Option.some.inj (Tryd.func12.symm.trans hfn)).symm
  refine ⟨seat_looks, fun j t ht => ?_⟩
  have hall : (Tryd.f12.params.toList.all fun u => !Tryd.prog.wantsStandIn u) = true := by kernel_rfl
  exact (show Tryd.prog.wantsStandIn t = false by simpa using List.all_eq_true.1 hall t (by simpa using Array.mem_of_getElem? ht))
theorem FnExactAddNote_holds : Rows.FnExactAddNoteCardSaid :=
  Claim7.holds_tied_plain_at .later [] _ _ _ _ FnExactAddNote_row (fun _ h => by cases h) FnExactAddNote_wf (fun _ h => by cases h) fnExactAddNote_row_tie rfl ⟨rfl, rfl⟩ seat_main rfl FnExactAddNote_plain FnExactAddNote_goes

end Go.Proofs.YtilagemeigeceaaDoor
