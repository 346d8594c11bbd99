/- The statement on the law JournalOf is proved, as it is given: for every input the law returns true and each argument reads as before. No conditions. -/
import Derived.Test.YtilagemeigeceaaDoorJour
import Derived.Test.YtilagemeigeceaaDoorVcApp
import Derived.Test.YtilagemeigeceaaDoorShelf
import Derived.Test.YtilagemeigeceaaDoorSeatMain
import Derived.Test.YtilagemeigeceaaDoorTie
import Derived.Test.YtilagemeigeceaaDoorCards
import Derived.Test.YtilagemeigeceaaDoorLiftBase
namespace Go.Proofs.YtilagemeigeceaaDoor
open Go Go.Shelf Go.Proofs Go.RowKit Go.Vc Go.M Go.ChangeShapes Go.WideShapes Go.ChangeAt
open Go.ChangeMaps (open_string)
set_option linter.unusedVariables false in
theorem law_JournalOf {w : World} {a0 : Option Addr} {n0 c0 : Nat} {x0 : List TNote} (h0 : Arr TNote.enc 4 w a0 n0 x0) (ok0 : ∀ x ∈ x0, x.ok)  (hT : Pow w) : Does Tryd.prog 6 [.slice a0 n0 c0] w (fun v w' => v = .bool true ∧ Ext w w') := by
  have len0 := h0.len
  refine Does.of_vc tabok Tryd.func6 rfl rfl rfl (by kernel_rfl) ?_; conv => whnf
  refine (laws_szNoteS h0 ok0 (by omega) (by omega)).mono ?_
  rintro _ w4 ⟨r1, rfl, q2, e3⟩
  have E4 := e3
  conv => whnf
  with_reducible refine IfB.dec (fun h5 => ?_) (fun h5 => ?_)
  · conv => whnf
    exact ⟨rfl, e3⟩
  · conv => whnf
    refine (laws_toNoteS (h0.ext e3) (by omega)).mono ?_
    rintro _ w10 ⟨b6, rfl, q7, e8, O9⟩
    have E10 := (Ext.trans e3 e8)
    have lnO9 := O9.1
    conv => whnf
    refine (spec_JournalOf (O9.arr TNote.enc_len) ok0 (by omega)).mono ?_
    rintro _ w12 ⟨rfl, e11⟩
    have E12 := (Ext.trans E10 e11)
    conv => whnf
    refine (laws_toNoteS (h0.ext E12) (by omega)).mono ?_
    rintro _ w17 ⟨b13, rfl, q14, e15, O16⟩
    have E17 := (Ext.trans E12 e15)
    have lnO16 := O16.1
    conv => whnf
    refine (impl_JournalOf (O16.arr TNote.enc_len) ok0 (by omega) (hT.ext E17)).mono ?_
    rintro _ w19 ⟨rfl, e18⟩
    have E19 := (Ext.trans E17 e18)
    conv => whnf
    refine IfB.eqf (by simp; done) ?_
    conv => whnf
    refine IfB.eqf (by simp; done) ?_
    conv => whnf
    refine (laws_toNoteS (h0.ext E19) (by omega)).mono ?_
    rintro _ w24 ⟨b20, rfl, q21, e22, O23⟩
    have E24 := (Ext.trans E19 e22)
    have lnO23 := O23.1
    conv => whnf
    refine (laws_eqNoteS ((O16.ext (Ext.trans e18 e22)).arr TNote.enc_len) (O23.arr TNote.enc_len)).mono ?_
    rintro _ w26 ⟨rfl, e25⟩
    have E26 := (Ext.trans E24 e25)
    conv => whnf
    refine IfB.eqf (by simp; done) ?_
    conv => whnf
    exact ⟨rfl, E26⟩
set_option maxRecDepth 100000 in
theorem open_JournalOf {H : Type} {enc : TypeId × Value → H} {base : Nat} (W : World) (args : List Value) (ds : List (DataW H)) (p : List MemPlace) (hA : DataW.TrodAll enc Tryd.prog W 0 (fun _ => true) true (Tryd.f6).params.toList args ds p)
    (hv : ∀ (j : Nat) t v, (Tryd.f6).params[j]? = some t → args[j]? = some v → Value.okWide Tryd.prog W .any base t v) (hL : laidMet Tryd.prog Rows.fnExactJournalOfRow.laid W) (_hsh : W.ShapedOpen Tryd.prog) : Does Tryd.prog 6 args W (fun v w' => v = .bool true ∧ Ext W w') := by
  have e : (Tryd.f6).params.toList = [44] := rfl
  rw [e] at hA
  obtain ⟨v0, vs0, d0, ds0, p0, q0, rfl, rfl, rfl, g0, r0⟩ := trodAll_cons hA
  obtain ⟨rfl, rfl, rfl⟩ := trodAll_nil r0
  obtain ⟨a0, n0, c0, x0, rfl, h0, ok0⟩ := open_arr (encα := TNote.enc) (ok := TNote.ok) (sz := 4) Tryd.underlying44 (by kernel_rfl) (by omega) (fun n cs x h => TNote.of_flat (trod_flat (ks := [false, false, false, true]) (by kernel_rfl) h)) TNote.enc_len (hv 0 44 v0 (by rw [← Array.getElem?_toList, e]; rfl) rfl) g0
  exact law_JournalOf h0 ok0 (Pow.of_laid hL.tail.tail)
set_option maxRecDepth 100000 in
theorem FnExactJournalOf_lifted (os : Os) (started : os.Started) (H : Type) (enc : TypeId × Value → H) (F : Stop.Interp) :
    ReturnsInHanded {} Tryd.checked os 6 .any ((OpenSpec.ofChange Rows.fnExactJournalOfSpec).preRow enc Tryd.prog Tryd.f6 Rows.fnExactJournalOfRow.domain false Rows.fnExactJournalOfRow.laid) (((OpenSpec.ofChange Rows.fnExactJournalOfSpec).at F).post enc Tryd.prog Tryd.f6 false true false false) := by
  refine returnsInHanded_of_row (C := Tryd.checked) (s := OpenSpec.ofChange Rows.fnExactJournalOfSpec) law_own started (by kernel_rfl) Tryd.func6
    (witness_row_sh (enc := enc) (C := Tryd.checked) (World.laidAll Tryd.prog os Rows.fnExactJournalOfRow.laid) #[.slice none 0 0] 8 (World.laidAll_os _ _ _) (World.shaped_of_ZipB (by kernel_rfl) (by kernel_rfl)) (by kernel_rfl) (by kernel_rfl) (by kernel_rfl)
      (by rw [MakeChecks.laidMetH_plain _ _ _ (by kernel_rfl)]; exact laidMet_laidAll _ (by kernel_rfl) (by kernel_rfl))) ?_
  intro W base args ds gs before hval hW _ _ _ hL hsh _
  rw [MakeChecks.laidMetH_plain _ _ _ (by kernel_rfl)] at hL
  exact law_contract_at (P := Tryd.prog) (fn := Tryd.f6) (s := Rows.fnExactJournalOfSpec) rfl rfl Tryd.underlying4 law_laid (by kernel_rfl)
    (fun ds h => match ds, h with | [d0], _ => ⟨rfl, rfl, rfl⟩) W args ds gs before (fun p hA hv => open_JournalOf W args.toList ds p hA hv hL hsh) hval hW
theorem FnExactJournalOf_closed : joinedFacts Tryd.prog 6 Tryd.f6 (OpenSpec.ofChange Rows.fnExactJournalOfSpec).bare Rows.fnExactJournalOfRow = true := by
  unfold joinedFacts
  exact andI (andI (andI (andI (andI (andI (andI (andI (by kernel_rfl) seat_heard) seat_enter) seat_lifts) seat_make) (by kernel_rfl)) (by kernel_rfl)) (by kernel_rfl)) (by kernel_rfl)
theorem FnExactJournalOf_named : Tryd.prog.funcNamed Rows.fnExactJournalOfRow.func = some 6 := by kernel_rfl
theorem FnExactJournalOf_row : Rows.FnExactJournalOfSaid :=
  OpenClaim.holds_of_cond 6 Tryd.f6 rfl rfl rfl rfl rfl rfl rfl ⟨rfl, rfl, rfl, rfl, rfl⟩ rfl rfl rfl rfl rfl FnExactJournalOf_named Tryd.func6 FnExactJournalOf_closed
    (of_decide_eq_true (by kernel_rfl)) (by unfold Func.isWrapper; first | (rw [if_pos (by decide +kernel)]; kernel_rfl) | (rw [if_neg (by decide +kernel)]; exact ⟨rfl, rfl⟩))
    (fun os started H enc _ F => by rw [OpenClaim.pre_eq_preRow]; exact FnExactJournalOf_lifted os started H enc F)
theorem FnExactJournalOf_goes : false = Rows.fnExactJournalOfRow.goesBy Tryd.pinned.checked.prog := by kernel_rfl
theorem FnExactJournalOf_wf : Rows.fnExactJournalOfRow.wfByText (OpenSpec.ofChange Rows.fnExactJournalOfSpec) = true := by kernel_rfl
theorem FnExactJournalOf_plain (f : FuncId) (fn : Func) (hf : Tryd.pinned.checked.prog.funcNamed Rows.fnExactJournalOfRow.func = some f) (hfn : Tryd.pinned.checked.prog.funcs[f]? = some fn) :
    true = Tryd.pinned.checked.prog.looks [] ∧ ∀ (j : Nat) t, fn.params[j]? = some t → Tryd.pinned.checked.prog.wantsStandIn t = false := by
  obtain rfl : f = 6 := Option.some.inj (FnExactJournalOf_named.symm.trans hf) |>.symm
  obtain rfl : fn = Tryd.f6 := (Option.some.inj (Tryd.func6.symm.trans hfn)).symm
  refine ⟨seat_looks, fun j t ht => ?_⟩
  have hall : (Tryd.f6.params.toList.all fun u => !Tryd.prog.wantsStandIn u) = true := by kernel_rfl
  exact (show Tryd.prog.wantsStandIn t = false by simpa using List.all_eq_true.1 hall t (by simpa using Array.mem_of_getElem? ht))
theorem FnExactJournalOf_holds : Rows.FnExactJournalOfCardSaid :=
  Claim7.holds_tied_plain_at .later [] _ _ _ _ FnExactJournalOf_row (fun _ h => by cases h) FnExactJournalOf_wf (fun _ h => by cases h) fnExactJournalOf_row_tie rfl ⟨rfl, rfl⟩ seat_main rfl FnExactJournalOf_plain FnExactJournalOf_goes

end Go.Proofs.YtilagemeigeceaaDoor
