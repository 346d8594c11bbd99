/- The statement on the law CardsNow is proved, as it is given: for every input the law returns true and each argument reads as before. No conditions. -/
import Derived.Test.YtilagemeigeceaaDoorJourC
import Derived.Test.YtilagemeigeceaaDoorVcApp
import Derived.Test.YtilagemeigeceaaDoorShelf
import Derived.Test.YtilagemeigeceaaDoorSeatMain
import Derived.Test.YtilagemeigeceaaDoorTie
import Derived.Test.YtilagemeigeceaaDoorCards
import Derived.Test.YtilagemeigeceaaDoorLiftBase
namespace Go.Proofs.YtilagemeigeceaaDoor
open Go Go.Shelf Go.Proofs Go.RowKit Go.Vc Go.M Go.ChangeShapes Go.WideShapes Go.ChangeAt
open Go.ChangeMaps (open_string)
set_option linter.unusedVariables false in
theorem law_CardsNow {w : World} {x0 : ByteArray} (ok0 : strok x0)  (hT : Pow w) (hE : Errs w) (hM : MaxL w) : Does Tryd.prog 14 [.string x0] w (fun v w' => v = .bool true ∧ Ext w w') := by
  refine Does.of_vc tabok Tryd.func14 rfl rfl rfl (by kernel_rfl) ?_; conv => whnf
  with_reducible refine IfB.dec (fun h1 => ?_) (fun h1 => ?_)
  · conv => whnf
    exact ⟨rfl, Ext.refl _⟩
  · conv => whnf
    refine (spec_CardsNow (by omega) _).mono ?_
    rintro _ w3 ⟨rfl, e2⟩
    have E3 := e2
    conv => whnf
    refine (impl_CardsNow (by omega) (hT.ext e2) (hE.ext e2) (hM.ext e2)).mono ?_
    rintro _ w5 ⟨rfl, e4⟩
    have E5 := (Ext.trans e2 e4)
    conv => whnf
    refine IfB.eqf (by simp; done) ?_
    conv => whnf
    refine IfB.eqf (by simp; done) ?_
    conv => whnf
    exact ⟨rfl, E5⟩
set_option maxRecDepth 100000 in
theorem open_CardsNow {H : Type} {enc : TypeId × Value → H} {base : Nat} (W : World) (args : List Value) (ds : List (DataW H)) (p : List MemPlace) (hA : DataW.TrodAll enc Tryd.prog W 0 (fun _ => true) true (Tryd.f14).params.toList args ds p)
    (hv : ∀ (j : Nat) t v, (Tryd.f14).params[j]? = some t → args[j]? = some v → Value.okWide Tryd.prog W .any base t v) (hL : laidMet Tryd.prog Rows.fnExactCardsNowRow.laid W) (_hsh : W.ShapedOpen Tryd.prog) : Does Tryd.prog 14 args W (fun v w' => v = .bool true ∧ Ext W w') := by
  have e : (Tryd.f14).params.toList = [9] := rfl
  rw [e] at hA
  obtain ⟨v0, vs0, d0, ds0, p0, q0, rfl, rfl, rfl, g0, r0⟩ := trodAll_cons hA
  obtain ⟨rfl, rfl, rfl⟩ := trodAll_nil r0
  obtain ⟨x0, rfl, rfl, rfl, ok0⟩ := open_string Tryd.underlying9 (hv 0 9 v0 (by rw [← Array.getElem?_toList, e]; rfl) rfl) g0
  exact law_CardsNow ok0 (Pow.of_laid hL.tail.tail) (Errs.of_laid hL.tail.tail.tail.tail.tail hL.tail.tail.tail.tail) (MaxL.of_shaped _hsh)
set_option maxRecDepth 100000 in
theorem FnExactCardsNow_lifted (os : Os) (started : os.Started) (H : Type) (enc : TypeId × Value → H) (F : Stop.Interp) :
    ReturnsInHanded {} Tryd.checked os 14 .any ((OpenSpec.ofChange Rows.fnExactCardsNowSpec).preRow enc Tryd.prog Tryd.f14 Rows.fnExactCardsNowRow.domain false Rows.fnExactCardsNowRow.laid) (((OpenSpec.ofChange Rows.fnExactCardsNowSpec).at F).post enc Tryd.prog Tryd.f14 false true false false) := by
  refine returnsInHanded_of_row (C := Tryd.checked) (s := OpenSpec.ofChange Rows.fnExactCardsNowSpec) law_own started (by kernel_rfl) Tryd.func14
    (witness_row_sh (enc := enc) (C := Tryd.checked) (World.laidAll Tryd.prog os Rows.fnExactCardsNowRow.laid) #[.string { data := #[] }] 8 (World.laidAll_os _ _ _) (World.shaped_of_ZipB (by kernel_rfl) (by kernel_rfl)) (by kernel_rfl) (by kernel_rfl) (by kernel_rfl)
      (by rw [MakeChecks.laidMetH_plain _ _ _ (by kernel_rfl)]; exact laidMet_laidAll _ (by kernel_rfl) (by kernel_rfl))) ?_
  intro W base args ds gs before hval hW _ _ _ hL hsh _
  rw [MakeChecks.laidMetH_plain _ _ _ (by kernel_rfl)] at hL
  exact law_contract_at (P := Tryd.prog) (fn := Tryd.f14) (s := Rows.fnExactCardsNowSpec) rfl rfl Tryd.underlying4 law_laid (by kernel_rfl)
    (fun ds h => match ds, h with | [d0], _ => ⟨rfl, rfl, rfl⟩) W args ds gs before (fun p hA hv => open_CardsNow W args.toList ds p hA hv hL hsh) hval hW
theorem FnExactCardsNow_closed : joinedFacts Tryd.prog 14 Tryd.f14 (OpenSpec.ofChange Rows.fnExactCardsNowSpec).bare Rows.fnExactCardsNowRow = true := by
  unfold joinedFacts
  exact andI (andI (andI (andI (andI (andI (andI (andI (by kernel_rfl) seat_heard) seat_enter) seat_lifts) seat_make) (by kernel_rfl)) (by kernel_rfl)) (by kernel_rfl)) (by kernel_rfl)
theorem FnExactCardsNow_named : Tryd.prog.funcNamed Rows.fnExactCardsNowRow.func = some 14 := by kernel_rfl
theorem FnExactCardsNow_row : Rows.FnExactCardsNowSaid :=
  OpenClaim.holds_of_cond 14 Tryd.f14 rfl rfl rfl rfl rfl rfl rfl ⟨rfl, rfl, rfl, rfl, rfl⟩ rfl rfl rfl rfl rfl FnExactCardsNow_named Tryd.func14 FnExactCardsNow_closed
    (of_decide_eq_true (by kernel_rfl)) (by unfold Func.isWrapper; first | (rw [if_pos (by decide +kernel)]; kernel_rfl) | (rw [if_neg (by decide +kernel)]; exact ⟨rfl, rfl⟩))
    (fun os started H enc _ F => by rw [OpenClaim.pre_eq_preRow]; exact FnExactCardsNow_lifted os started H enc F)
theorem FnExactCardsNow_goes : false = Rows.fnExactCardsNowRow.goesBy Tryd.pinned.checked.prog := by kernel_rfl
theorem FnExactCardsNow_wf : Rows.fnExactCardsNowRow.wfByText (OpenSpec.ofChange Rows.fnExactCardsNowSpec) = true := by kernel_rfl
theorem FnExactCardsNow_plain (f : FuncId) (fn : Func) (hf : Tryd.pinned.checked.prog.funcNamed Rows.fnExactCardsNowRow.func = some f) (hfn : Tryd.pinned.checked.prog.funcs[f]? = some fn) :
    true = Tryd.pinned.checked.prog.looks [] ∧ ∀ (j : Nat) t, fn.params[j]? = some t → Tryd.pinned.checked.prog.wantsStandIn t = false := by
  obtain rfl : f = 14 := Option.some.inj (FnExactCardsNow_named.symm.trans hf) |>.symm
  obtain rfl : fn = Tryd.f14 := (Option.some.inj (Tryd.func14.symm.trans hfn)).symm
  refine ⟨seat_looks, fun j t ht => ?_⟩
  have hall : (Tryd.f14.params.toList.all fun u => !Tryd.prog.wantsStandIn u) = true := by kernel_rfl
  exact (show Tryd.prog.wantsStandIn t = false by simpa using List.all_eq_true.1 hall t (by simpa using Array.mem_of_getElem? ht))
theorem FnExactCardsNow_holds : Rows.FnExactCardsNowCardSaid :=
  Claim7.holds_tied_plain_at .later [] _ _ _ _ FnExactCardsNow_row (fun _ h => by cases h) FnExactCardsNow_wf (fun _ h => by cases h) fnExactCardsNow_row_tie rfl ⟨rfl, rfl⟩ seat_main rfl FnExactCardsNow_plain FnExactCardsNow_goes

end Go.Proofs.YtilagemeigeceaaDoor
