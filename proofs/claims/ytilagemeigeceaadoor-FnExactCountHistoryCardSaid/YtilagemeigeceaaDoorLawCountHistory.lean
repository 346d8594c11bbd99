/- The statement on the law CountHistory is proved, as it is given: for every input the law returns true and each argument reads as before. No conditions. -/
import Derived.Test.YtilagemeigeceaaDoorJourT
import Derived.Test.YtilagemeigeceaaDoorVcApp
import Derived.Test.YtilagemeigeceaaDoorShelf
import Derived.Test.YtilagemeigeceaaDoorSeatMain
import Derived.Test.YtilagemeigeceaaDoorTie
import Derived.Test.YtilagemeigeceaaDoorCards
import Derived.Test.YtilagemeigeceaaDoorLiftBase
namespace Go.Proofs.YtilagemeigeceaaDoor
open Go Go.Shelf Go.Proofs Go.RowKit Go.Vc Go.M Go.ChangeShapes Go.WideShapes Go.ChangeAt
open Go.ChangeMaps (open_string)
set_option linter.unusedVariables false in
theorem law_CountHistory {w : World} {x0 : ByteArray} (ok0 : strok x0) {x1 : Int} (ok1 : i64ok x1)  (hT : Pow w) (hE : Errs w) (hM : MaxL w) : Does Tryd.prog 17 [.string x0, .int .i64 x1] w (fun v w' => v = .bool true ∧ Ext w w') := by
  have hlen : (historyM x0 x1).1.length ≤ 4000 := historyM_len x0 x1
  refine Does.of_vc tabok Tryd.func17 rfl rfl rfl (by kernel_rfl) ?_; conv => whnf
  with_reducible refine IfB.dec (fun h2 => ?_) (fun h2 => ?_)
  · conv => whnf
    exact ⟨rfl, Ext.refl _⟩
  · conv => whnf
    refine (spec_CountHistory (by omega) ok1 _).mono ?_
    rintro _ w9 ⟨a3, n4, c5, rfl, N6, O7, e8⟩
    have E9 := e8
    have lnO7 := O7.1
    conv => whnf
    refine (impl_CountHistory (by omega) ok1 (hT.ext e8) (hE.ext e8) (hM.ext e8)).mono ?_
    rintro _ w16 ⟨a10, n11, c12, rfl, N13, O14, e15⟩
    have E16 := (Ext.trans e8 e15)
    have lnO14 := O14.1
    conv => whnf
    refine (laws_eqInt64S (O14.arr eI_len) ((O7.ext e15).arr eI_len)).mono ?_
    rintro _ w18 ⟨rfl, e17⟩
    have E18 := (Ext.trans E16 e17)
    conv => whnf
    refine IfB.eqf (by simp; done) ?_
    conv => whnf
    refine IfB.eqf (by simp; done) ?_
    conv => whnf
    refine (laws_markInt64S (k0 := 1) (O14.ext e17) (by omega)).mono ?_
    rintro _ w21 ⟨rfl, m19, O20⟩
    have E21 := (Ext.mod_trans E18 m19 (fun k hk => Nat.le_trans (Below.size e8) (blkIn_new N13 k hk)))
    have lnO20 := O20.1
    conv => whnf
    refine (laws_heldInt64S (k0 := 1) (O20.arr eI_len) (by omega)).mono ?_
    rintro _ w23 ⟨rfl, e22⟩
    have E23 := (Ext.trans E21 e22)
    conv => whnf
    refine IfB.eqf (by simp; done) ?_
    conv => whnf
    refine (impl_CountHistory (by omega) ok1 (hT.ext E23) (hE.ext E23) (hM.ext E23)).mono ?_
    rintro _ w30 ⟨a24, n25, c26, rfl, N27, O28, e29⟩
    have E30 := (Ext.trans E23 e29)
    have lnO28 := O28.1
    conv => whnf
    refine (laws_eqInt64S (O28.arr eI_len) ((O7.ext (Ext.trans (Ext.trans (Ext.mod_trans (Ext.trans e15 e17) m19 (blkIn_new N13)) e22) e29)).arr eI_len)).mono ?_
    rintro _ w32 ⟨rfl, e31⟩
    have E32 := (Ext.trans E30 e31)
    conv => whnf
    refine IfB.eqf (by simp; done) ?_
    conv => whnf
    refine IfB.eqf (by simp; done) ?_
    conv => whnf
    refine (laws_heldInt64S (k0 := 1) ((O20.ext (Ext.trans (Ext.trans e22 e29) e31)).arr eI_len) (by omega)).mono ?_
    rintro _ w34 ⟨rfl, e33⟩
    have E34 := (Ext.trans E32 e33)
    conv => whnf
    refine IfB.eqf (by simp; done) ?_
    conv => whnf
    exact ⟨rfl, E34⟩
set_option maxRecDepth 100000 in
theorem open_CountHistory {H : Type} {enc : TypeId × Value → H} {base : Nat} (W : World) (args : List Value) (ds : List (DataW H)) (p : List MemPlace) (hA : DataW.TrodAll enc Tryd.prog W 0 (fun _ => true) true (Tryd.f17).params.toList args ds p)
    (hv : ∀ (j : Nat) t v, (Tryd.f17).params[j]? = some t → args[j]? = some v → Value.okWide Tryd.prog W .any base t v) (hL : laidMet Tryd.prog Rows.fnExactCountHistoryRow.laid W) (_hsh : W.ShapedOpen Tryd.prog) : Does Tryd.prog 17 args W (fun v w' => v = .bool true ∧ Ext W w') := by
  have e : (Tryd.f17).params.toList = [9, 2] := rfl
  rw [e] at hA
  obtain ⟨v0, vs0, d0, ds0, p0, q0, rfl, rfl, rfl, g0, r0⟩ := trodAll_cons hA
  obtain ⟨v1, vs1, d1, ds1, p1, q1, rfl, rfl, rfl, g1, r1⟩ := trodAll_cons r0
  obtain ⟨rfl, rfl, rfl⟩ := trodAll_nil r1
  obtain ⟨x0, rfl, rfl, rfl, ok0⟩ := open_string Tryd.underlying9 (hv 0 9 v0 (by rw [← Array.getElem?_toList, e]; rfl) rfl) g0
  obtain ⟨x1, rfl, rfl, rfl, wf1⟩ := open_int Tryd.underlying2 (hv 1 2 v1 (by rw [← Array.getElem?_toList, e]; rfl) rfl) g1
  have ok1 := i64ok_of_wf wf1
  exact law_CountHistory ok0 ok1 (Pow.of_laid hL.tail.tail) (Errs.of_laid hL.tail.tail.tail.tail.tail hL.tail.tail.tail.tail) (MaxL.of_shaped _hsh)
set_option maxRecDepth 100000 in
theorem FnExactCountHistory_lifted (os : Os) (started : os.Started) (H : Type) (enc : TypeId × Value → H) (F : Stop.Interp) :
    ReturnsInHanded {} Tryd.checked os 17 .any ((OpenSpec.ofChange Rows.fnExactCountHistorySpec).preRow enc Tryd.prog Tryd.f17 Rows.fnExactCountHistoryRow.domain false Rows.fnExactCountHistoryRow.laid) (((OpenSpec.ofChange Rows.fnExactCountHistorySpec).at F).post enc Tryd.prog Tryd.f17 false true false false) := by
  refine returnsInHanded_of_row (C := Tryd.checked) (s := OpenSpec.ofChange Rows.fnExactCountHistorySpec) law_own started (by kernel_rfl) Tryd.func17
    (witness_row_sh (enc := enc) (C := Tryd.checked) (World.laidAll Tryd.prog os Rows.fnExactCountHistoryRow.laid) #[.string { data := #[] },.int .i64 0] 8 (World.laidAll_os _ _ _) (World.shaped_of_ZipB (by kernel_rfl) (by kernel_rfl)) (by kernel_rfl) (by kernel_rfl) (by kernel_rfl)
      (by rw [MakeChecks.laidMetH_plain _ _ _ (by kernel_rfl)]; exact laidMet_laidAll _ (by kernel_rfl) (by kernel_rfl))) ?_
  intro W base args ds gs before hval hW _ _ _ hL hsh _
  rw [MakeChecks.laidMetH_plain _ _ _ (by kernel_rfl)] at hL
  exact law_contract_at (P := Tryd.prog) (fn := Tryd.f17) (s := Rows.fnExactCountHistorySpec) rfl rfl Tryd.underlying4 law_laid (by kernel_rfl)
    (fun ds h => match ds, h with | [d0, d1], _ => ⟨rfl, rfl, rfl⟩) W args ds gs before (fun p hA hv => open_CountHistory W args.toList ds p hA hv hL hsh) hval hW
theorem FnExactCountHistory_closed : joinedFacts Tryd.prog 17 Tryd.f17 (OpenSpec.ofChange Rows.fnExactCountHistorySpec).bare Rows.fnExactCountHistoryRow = true := by
  unfold joinedFacts
  exact andI (andI (andI (andI (andI (andI (andI (andI (by kernel_rfl) seat_heard) seat_enter) seat_lifts) seat_make) (by kernel_rfl)) (by kernel_rfl)) (by kernel_rfl)) (by kernel_rfl)
theorem FnExactCountHistory_named : Tryd.prog.funcNamed Rows.fnExactCountHistoryRow.func = some 17 := by kernel_rfl
theorem FnExactCountHistory_row : Rows.FnExactCountHistorySaid :=
  OpenClaim.holds_of_cond 17 Tryd.f17 rfl rfl rfl rfl rfl rfl rfl ⟨rfl, rfl, rfl, rfl, rfl⟩ rfl rfl rfl rfl rfl FnExactCountHistory_named Tryd.func17 FnExactCountHistory_closed
    (of_decide_eq_true (by kernel_rfl)) (by unfold Func.isWrapper; first | (rw [if_pos (by decide +kernel)]; kernel_rfl) | (rw [if_neg (by decide +kernel)]; exact ⟨rfl, rfl⟩))
    (fun os started H enc _ F => by rw [OpenClaim.pre_eq_preRow]; exact FnExactCountHistory_lifted os started H enc F)
theorem FnExactCountHistory_goes : false = Rows.fnExactCountHistoryRow.goesBy Tryd.pinned.checked.prog := by kernel_rfl
theorem FnExactCountHistory_wf : Rows.fnExactCountHistoryRow.wfByText (OpenSpec.ofChange Rows.fnExactCountHistorySpec) = true := by kernel_rfl
theorem FnExactCountHistory_plain (f : FuncId) (fn : Func) (hf : Tryd.pinned.checked.prog.funcNamed Rows.fnExactCountHistoryRow.func = some f) (hfn : Tryd.pinned.checked.prog.funcs[f]? = some fn) :
    true = Tryd.pinned.checked.prog.looks [] ∧ ∀ (j : Nat) t, fn.params[j]? = some t → Tryd.pinned.checked.prog.wantsStandIn t = false := by
  obtain rfl : f = 17 := Option.some.inj (FnExactCountHistory_named.symm.trans hf) |>.symm
  obtain rfl : fn = Tryd.f17 := (Option.some.inj (Tryd.func17.symm.trans hfn)).symm
  refine ⟨seat_looks, fun j t ht => ?_⟩
  have hall : (Tryd.f17.params.toList.all fun u => !Tryd.prog.wantsStandIn u) = true := by kernel_rfl
  exact (show Tryd.prog.wantsStandIn t = false by simpa using List.all_eq_true.1 hall t (by simpa using Array.mem_of_getElem? ht))
theorem FnExactCountHistory_holds : Rows.FnExactCountHistoryCardSaid :=
  Claim7.holds_tied_plain_at .later [] _ _ _ _ FnExactCountHistory_row (fun _ h => by cases h) FnExactCountHistory_wf (fun _ h => by cases h) fnExactCountHistory_row_tie rfl ⟨rfl, rfl⟩ seat_main rfl FnExactCountHistory_plain FnExactCountHistory_goes

end Go.Proofs.YtilagemeigeceaaDoor
