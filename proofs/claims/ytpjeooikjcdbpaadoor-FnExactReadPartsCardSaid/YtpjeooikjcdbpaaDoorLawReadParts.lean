/- The statement on the law ReadParts is proved, as it is given: for every input the law returns true and each argument reads as before. No conditions. -/
import Derived.Test.YtpjeooikjcdbpaaDoorReadP
import Derived.Test.YtpjeooikjcdbpaaDoorVcApp
import Derived.Test.YtpjeooikjcdbpaaDoorShelf
import Derived.Test.YtpjeooikjcdbpaaDoorSeatMain
import Derived.Test.YtpjeooikjcdbpaaDoorTie
import Derived.Test.YtpjeooikjcdbpaaDoorCards
import Derived.Test.YtpjeooikjcdbpaaDoorLiftBase
namespace Go.Proofs.YtpjeooikjcdbpaaDoor
open Go Go.Shelf Go.Proofs Go.RowKit Go.Vc Go.M Go.ChangeShapes Go.WideShapes Go.ChangeAt
open Go.ChangeMaps (open_string)
set_option linter.unusedVariables false in
theorem law_ReadParts {w : World} {x0 : ByteArray} (ok0 : strok x0)  (hT : Pow w) (hE : Errs w) (hM : MaxL w) : Does Tryd.prog 5 [.string x0] w (fun v w' => v = .bool true ∧ Ext w w') := by
  have hlen : ((readParts x0).getD []).length ≤ 40 := readParts_len x0
  refine Does.of_vc tabok Tryd.func5 rfl rfl rfl (by kernel_rfl) ?_; conv => whnf
  with_reducible refine IfB.dec (fun h1 => ?_) (fun h1 => ?_)
  · conv => whnf
    exact ⟨rfl, Ext.refl _⟩
  · conv => whnf
    refine (spec_ReadParts (by omega) _).mono ?_
    rintro _ w8 ⟨a2, n3, c4, rfl, N5, O6, e7⟩
    have E8 := e7
    have lnO6 := O6.1
    conv => whnf
    refine (impl_ReadParts (by omega) (hT.ext e7) (hE.ext e7) (hM.ext e7)).mono ?_
    rintro _ w15 ⟨a9, n10, c11, rfl, N12, O13, e14⟩
    have E15 := (Ext.trans e7 e14)
    have lnO13 := O13.1
    conv => whnf
    refine (laws_eqPartS (O13.arr TPart.enc_len) ((O6.ext e14).arr TPart.enc_len)).mono ?_
    rintro _ w17 ⟨rfl, e16⟩
    have E17 := (Ext.trans E15 e16)
    conv => whnf
    refine IfB.eqf (by simp; done) ?_
    conv => whnf
    refine SemK.neqB (by kernel_rfl) ?_
    conv => whnf
    refine IfB.eqf (by simp; done) ?_
    conv => whnf
    refine (laws_markPartS (k0 := 1) (O13.ext e16) (by omega)).mono ?_
    rintro _ w20 ⟨rfl, m18, O19⟩
    have E20 := (Ext.mod_trans E17 m18 (fun k hk => Nat.le_trans (Below.size e7) (blkIn_new N12 k hk)))
    have lnO19 := O19.1
    conv => whnf
    refine (laws_heldPartS (k0 := 1) (O19.arr TPart.enc_len) (by omega)).mono ?_
    rintro _ w22 ⟨rfl, e21⟩
    have E22 := (Ext.trans E20 e21)
    conv => whnf
    refine IfB.eqf (by simp; done) ?_
    conv => whnf
    refine (impl_ReadParts (by omega) (hT.ext E22) (hE.ext E22) (hM.ext E22)).mono ?_
    rintro _ w29 ⟨a23, n24, c25, rfl, N26, O27, e28⟩
    have E29 := (Ext.trans E22 e28)
    have lnO27 := O27.1
    conv => whnf
    refine (laws_eqPartS (O27.arr TPart.enc_len) ((O6.ext (Ext.trans (Ext.trans (Ext.mod_trans (Ext.trans e14 e16) m18 (blkIn_new N12)) e21) e28)).arr TPart.enc_len)).mono ?_
    rintro _ w31 ⟨rfl, e30⟩
    have E31 := (Ext.trans E29 e30)
    conv => whnf
    refine IfB.eqf (by simp; done) ?_
    conv => whnf
    refine SemK.neqB (by kernel_rfl) ?_
    conv => whnf
    refine IfB.eqf (by simp; done) ?_
    conv => whnf
    refine (laws_heldPartS (k0 := 1) ((O19.ext (Ext.trans (Ext.trans e21 e28) e30)).arr TPart.enc_len) (by omega)).mono ?_
    rintro _ w33 ⟨rfl, e32⟩
    have E33 := (Ext.trans E31 e32)
    conv => whnf
    refine IfB.eqf (by simp; done) ?_
    conv => whnf
    exact ⟨rfl, E33⟩
set_option maxRecDepth 100000 in
theorem open_ReadParts {H : Type} {enc : TypeId × Value → H} {base : Nat} (W : World) (args : List Value) (ds : List (DataW H)) (p : List MemPlace) (hA : DataW.TrodAll enc Tryd.prog W 0 (fun _ => true) true (Tryd.f5).params.toList args ds p)
    (hv : ∀ (j : Nat) t v, (Tryd.f5).params[j]? = some t → args[j]? = some v → Value.okWide Tryd.prog W .any base t v) (hL : laidMet Tryd.prog Rows.fnExactReadPartsRow.laid W) (_hsh : W.ShapedOpen Tryd.prog) : Does Tryd.prog 5 args W (fun v w' => v = .bool true ∧ Ext W w') := by
  have e : (Tryd.f5).params.toList = [9] := rfl
  rw [e] at hA
  obtain ⟨v0, vs0, d0, ds0, p0, q0, rfl, rfl, rfl, g0, r0⟩ := trodAll_cons hA
  obtain ⟨rfl, rfl, rfl⟩ := trodAll_nil r0
  obtain ⟨x0, rfl, rfl, rfl, ok0⟩ := open_string Tryd.underlying9 (hv 0 9 v0 (by rw [← Array.getElem?_toList, e]; rfl) rfl) g0
  exact law_ReadParts ok0 (Pow.of_laid hL.tail.tail) (Errs.of_laid hL.tail.tail.tail.tail.tail hL.tail.tail.tail.tail) (MaxL.of_shaped _hsh)
set_option maxRecDepth 100000 in
theorem FnExactReadParts_lifted (os : Os) (started : os.Started) (H : Type) (enc : TypeId × Value → H) (F : Stop.Interp) :
    ReturnsInHanded {} Tryd.checked os 5 .any ((OpenSpec.ofChange Rows.fnExactReadPartsSpec).preRow enc Tryd.prog Tryd.f5 Rows.fnExactReadPartsRow.domain false Rows.fnExactReadPartsRow.laid) (((OpenSpec.ofChange Rows.fnExactReadPartsSpec).at F).post enc Tryd.prog Tryd.f5 false true false false) := by
  refine returnsInHanded_of_row (C := Tryd.checked) (s := OpenSpec.ofChange Rows.fnExactReadPartsSpec) law_own started (by kernel_rfl) Tryd.func5
    (witness_row_sh (enc := enc) (C := Tryd.checked) (World.laidAll Tryd.prog os Rows.fnExactReadPartsRow.laid) #[.string { data := #[] }] 8 (World.laidAll_os _ _ _) (World.shaped_of_ZipB (by kernel_rfl) (by kernel_rfl)) (by kernel_rfl) (by kernel_rfl) (by kernel_rfl)
      (by rw [MakeChecks.laidMetH_plain _ _ _ (by kernel_rfl)]; exact laidMet_laidAll _ (by kernel_rfl) (by kernel_rfl))) ?_
  intro W base args ds gs before hval hW _ _ _ hL hsh _
  rw [MakeChecks.laidMetH_plain _ _ _ (by kernel_rfl)] at hL
  exact law_contract_at (P := Tryd.prog) (fn := Tryd.f5) (s := Rows.fnExactReadPartsSpec) rfl rfl Tryd.underlying4 law_laid (by kernel_rfl)
    (fun ds h => match ds, h with | [d0], _ => ⟨rfl, rfl, rfl⟩) W args ds gs before (fun p hA hv => open_ReadParts W args.toList ds p hA hv hL hsh) hval hW
theorem FnExactReadParts_closed : joinedFacts Tryd.prog 5 Tryd.f5 (OpenSpec.ofChange Rows.fnExactReadPartsSpec).bare Rows.fnExactReadPartsRow = true := by
  unfold joinedFacts
  exact andI (andI (andI (andI (andI (andI (andI (andI (by kernel_rfl) seat_heard) seat_enter) seat_lifts) seat_make) (by kernel_rfl)) (by kernel_rfl)) (by kernel_rfl)) (by kernel_rfl)
theorem FnExactReadParts_named : Tryd.prog.funcNamed Rows.fnExactReadPartsRow.func = some 5 := by kernel_rfl
theorem FnExactReadParts_row : Rows.FnExactReadPartsSaid :=
  OpenClaim.holds_of_cond 5 Tryd.f5 rfl rfl rfl rfl rfl rfl rfl ⟨rfl, rfl, rfl, rfl, rfl⟩ rfl rfl rfl rfl rfl FnExactReadParts_named Tryd.func5 FnExactReadParts_closed
    (of_decide_eq_true (by kernel_rfl)) (by unfold Func.isWrapper; first | (rw [if_pos (by decide +kernel)]; kernel_rfl) | (rw [if_neg (by decide +kernel)]; exact ⟨rfl, rfl⟩))
    (fun os started H enc _ F => by rw [OpenClaim.pre_eq_preRow]; exact FnExactReadParts_lifted os started H enc F)
theorem FnExactReadParts_goes : false = Rows.fnExactReadPartsRow.goesBy Tryd.pinned.checked.prog := by kernel_rfl
theorem FnExactReadParts_wf : Rows.fnExactReadPartsRow.wfByText (OpenSpec.ofChange Rows.fnExactReadPartsSpec) = true := by kernel_rfl
theorem FnExactReadParts_plain (f : FuncId) (fn : Func) (hf : Tryd.pinned.checked.prog.funcNamed Rows.fnExactReadPartsRow.func = some f) (hfn : Tryd.pinned.checked.prog.funcs[f]? = some fn) :
    true = Tryd.pinned.checked.prog.looks [] ∧ ∀ (j : Nat) t, fn.params[j]? = some t → Tryd.pinned.checked.prog.wantsStandIn t = false := by
  obtain rfl : f = 5 := Option.some.inj (FnExactReadParts_named.symm.trans hf) |>.symm
  obtain rfl : fn = Tryd.f5 := (Option.some.inj (Tryd.func5.symm.trans hfn)).symm
  refine ⟨seat_looks, fun j t ht => ?_⟩
  have hall : (Tryd.f5.params.toList.all fun u => !Tryd.prog.wantsStandIn u) = true := by kernel_rfl
  exact (show Tryd.prog.wantsStandIn t = false by simpa using List.all_eq_true.1 hall t (by simpa using Array.mem_of_getElem? ht))
theorem FnExactReadParts_holds : Rows.FnExactReadPartsCardSaid :=
  Claim7.holds_tied_plain_at .later [] _ _ _ _ FnExactReadParts_row (fun _ h => by cases h) FnExactReadParts_wf (fun _ h => by cases h) fnExactReadParts_row_tie rfl ⟨rfl, rfl⟩ seat_main rfl FnExactReadParts_plain FnExactReadParts_goes

end Go.Proofs.YtpjeooikjcdbpaaDoor
