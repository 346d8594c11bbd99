/- The statement on the law ChainOf is proved, as it is given: for every input the law returns true and each argument reads as before. No conditions. -/
import Derived.Test.YtilagemeigeceaaDoorJour
import Derived.Test.YtilagemeigeceaaDoorVcApp
import Derived.Test.YtilagemeigeceaaDoorShelf
import Derived.Test.YtilagemeigeceaaDoorSeatMain
import Derived.Test.YtilagemeigeceaaDoorTie
import Derived.Test.YtilagemeigeceaaDoorCards
import Derived.Test.YtilagemeigeceaaDoorLiftBase
namespace Go.Proofs.YtilagemeigeceaaDoor
open Go Go.Shelf Go.Proofs Go.RowKit Go.Vc Go.M Go.ChangeShapes Go.WideShapes Go.ChangeAt
open Go.ChangeMaps (open_string)
set_option linter.unusedVariables false in
theorem law_ChainOf {w : World} {x0 : Int} (ok0 : i64ok x0) {x1 : TNote} (ok1 : x1.ok)  (hT : Pow w) : Does Tryd.prog 4 [.int .i64 x0, .agg ⟨x1.enc⟩] w (fun v w' => v = .bool true ∧ Ext w w') := by
  refine Does.of_vc tabok Tryd.func4 rfl rfl rfl (by kernel_rfl) ?_; conv => whnf
  refine SemK.box ?_
  intro b2 w2 g2 l2 e2 B2
  conv => whnf
  refine SemK.loadAgg (n := 4) (by kernel_rfl) B2.cells rfl ?_
  conv => whnf
  refine (laws_szNote ok1 (by omega) (by omega) _).mono ?_
  rintro _ w6 ⟨r3, rfl, q4, e5⟩
  have E6 := (Ext.trans e2 e5)
  conv => whnf
  with_reducible refine IfB.dec (fun h7 => ?_) (fun h7 => ?_)
  · conv => whnf
    exact ⟨rfl, E6⟩
  · conv => whnf
    refine SemK.loadAgg (n := 4) (by kernel_rfl) (B2.ext e5).cells rfl ?_
    conv => whnf
    refine (laws_toNote _ _).mono ?_
    rintro _ w9 ⟨rfl, e8⟩
    have E9 := (Ext.trans E6 e8)
    conv => whnf
    refine (spec_ChainOf ok1 _).mono ?_
    rintro _ w11 ⟨rfl, e10⟩
    have E11 := (Ext.trans E9 e10)
    conv => whnf
    refine SemK.loadAgg (n := 4) (by kernel_rfl) (B2.ext (Ext.trans (Ext.trans e5 e8) e10)).cells rfl ?_
    conv => whnf
    refine (laws_toNote _ _).mono ?_
    rintro _ w13 ⟨rfl, e12⟩
    have E13 := (Ext.trans E11 e12)
    conv => whnf
    refine (impl_ChainOf ok1 (hT.ext E13)).mono ?_
    rintro _ w15 ⟨rfl, e14⟩
    have E15 := (Ext.trans E13 e14)
    conv => whnf
    refine IfB.eqf (by simp; done) ?_
    conv => whnf
    refine IfB.eqf (by simp; done) ?_
    conv => whnf
    exact ⟨rfl, E15⟩
set_option maxRecDepth 100000 in
theorem open_ChainOf {H : Type} {enc : TypeId × Value → H} {base : Nat} (W : World) (args : List Value) (ds : List (DataW H)) (p : List MemPlace) (hA : DataW.TrodAll enc Tryd.prog W 0 (fun _ => true) true (Tryd.f4).params.toList args ds p)
    (hv : ∀ (j : Nat) t v, (Tryd.f4).params[j]? = some t → args[j]? = some v → Value.okWide Tryd.prog W .any base t v) (hL : laidMet Tryd.prog Rows.fnExactChainOfRow.laid W) (_hsh : W.ShapedOpen Tryd.prog) : Does Tryd.prog 4 args W (fun v w' => v = .bool true ∧ Ext W w') := by
  have e : (Tryd.f4).params.toList = [2, 30] := rfl
  rw [e] at hA
  obtain ⟨v0, vs0, d0, ds0, p0, q0, rfl, rfl, rfl, g0, r0⟩ := trodAll_cons hA
  obtain ⟨v1, vs1, d1, ds1, p1, q1, rfl, rfl, rfl, g1, r1⟩ := trodAll_cons r0
  obtain ⟨rfl, rfl, rfl⟩ := trodAll_nil r1
  obtain ⟨x0, rfl, rfl, rfl, wf0⟩ := open_int Tryd.underlying2 (hv 0 2 v0 (by rw [← Array.getElem?_toList, e]; rfl) rfl) g0
  have ok0 := i64ok_of_wf wf0
  obtain ⟨cs1, rfl, hf1⟩ := open_flat (ks := [false, false, false, true]) (by kernel_rfl) (hv 1 30 v1 (by rw [← Array.getElem?_toList, e]; rfl) rfl) g1
  obtain ⟨x1, rfl, ok1⟩ := TNote.of_flat hf1
  exact law_ChainOf ok0 ok1 (Pow.of_laid hL.tail.tail)
set_option maxRecDepth 100000 in
theorem FnExactChainOf_lifted (os : Os) (started : os.Started) (H : Type) (enc : TypeId × Value → H) (F : Stop.Interp) :
    ReturnsInHanded {} Tryd.checked os 4 .any ((OpenSpec.ofChange Rows.fnExactChainOfSpec).preRow enc Tryd.prog Tryd.f4 Rows.fnExactChainOfRow.domain false Rows.fnExactChainOfRow.laid) (((OpenSpec.ofChange Rows.fnExactChainOfSpec).at F).post enc Tryd.prog Tryd.f4 false true false false) := by
  refine returnsInHanded_of_row (C := Tryd.checked) (s := OpenSpec.ofChange Rows.fnExactChainOfSpec) law_own started (by kernel_rfl) Tryd.func4
    (witness_row_sh (enc := enc) (C := Tryd.checked) (World.laidAll Tryd.prog os Rows.fnExactChainOfRow.laid) #[.int .i64 0,.agg #[.int .i64 0, .int .i64 0, .int .i64 0, .string { data := #[] }]] 8 (World.laidAll_os _ _ _) (World.shaped_of_ZipB (by kernel_rfl) (by kernel_rfl)) (by kernel_rfl) (by kernel_rfl) (by kernel_rfl)
      (by rw [MakeChecks.laidMetH_plain _ _ _ (by kernel_rfl)]; exact laidMet_laidAll _ (by kernel_rfl) (by kernel_rfl))) ?_
  intro W base args ds gs before hval hW _ _ _ hL hsh _
  rw [MakeChecks.laidMetH_plain _ _ _ (by kernel_rfl)] at hL
  exact law_contract_at (P := Tryd.prog) (fn := Tryd.f4) (s := Rows.fnExactChainOfSpec) rfl rfl Tryd.underlying4 law_laid (by kernel_rfl)
    (fun ds h => match ds, h with | [d0, d1], _ => ⟨rfl, rfl, rfl⟩) W args ds gs before (fun p hA hv => open_ChainOf W args.toList ds p hA hv hL hsh) hval hW
theorem FnExactChainOf_closed : joinedFacts Tryd.prog 4 Tryd.f4 (OpenSpec.ofChange Rows.fnExactChainOfSpec).bare Rows.fnExactChainOfRow = true := by
  unfold joinedFacts
  exact andI (andI (andI (andI (andI (andI (andI (andI (by kernel_rfl) seat_heard) seat_enter) seat_lifts) seat_make) (by kernel_rfl)) (by kernel_rfl)) (by kernel_rfl)) (by kernel_rfl)
theorem FnExactChainOf_named : Tryd.prog.funcNamed Rows.fnExactChainOfRow.func = some 4 := by kernel_rfl
theorem FnExactChainOf_row : Rows.FnExactChainOfSaid :=
  OpenClaim.holds_of_cond 4 Tryd.f4 rfl rfl rfl rfl rfl rfl rfl ⟨rfl, rfl, rfl, rfl, rfl⟩ rfl rfl rfl rfl rfl FnExactChainOf_named Tryd.func4 FnExactChainOf_closed
    (of_decide_eq_true (by kernel_rfl)) (by unfold Func.isWrapper; first | (rw [if_pos (by decide +kernel)]; kernel_rfl) | (rw [if_neg (by decide +kernel)]; exact ⟨rfl, rfl⟩))
    (fun os started H enc _ F => by rw [OpenClaim.pre_eq_preRow]; exact FnExactChainOf_lifted os started H enc F)
theorem FnExactChainOf_goes : false = Rows.fnExactChainOfRow.goesBy Tryd.pinned.checked.prog := by kernel_rfl
theorem FnExactChainOf_wf : Rows.fnExactChainOfRow.wfByText (OpenSpec.ofChange Rows.fnExactChainOfSpec) = true := by kernel_rfl
theorem FnExactChainOf_plain (f : FuncId) (fn : Func) (hf : Tryd.pinned.checked.prog.funcNamed Rows.fnExactChainOfRow.func = some f) (hfn : Tryd.pinned.checked.prog.funcs[f]? = some fn) :
    true = Tryd.pinned.checked.prog.looks [] ∧ ∀ (j : Nat) t, fn.params[j]? = some t → Tryd.pinned.checked.prog.wantsStandIn t = false := by
  obtain rfl : f = 4 := Option.some.inj (FnExactChainOf_named.symm.trans hf) |>.symm
  obtain rfl : fn = Tryd.f4 := (Option.some.inj (Tryd.func4.symm.trans hfn)).symm
  refine ⟨seat_looks, fun j t ht => ?_⟩
  have hall : (Tryd.f4.params.toList.all fun u => !Tryd.prog.wantsStandIn u) = true := by kernel_rfl
  exact (show Tryd.prog.wantsStandIn t = false by simpa using List.all_eq_true.1 hall t (by simpa using Array.mem_of_getElem? ht))
theorem FnExactChainOf_holds : Rows.FnExactChainOfCardSaid :=
  Claim7.holds_tied_plain_at .later [] _ _ _ _ FnExactChainOf_row (fun _ h => by cases h) FnExactChainOf_wf (fun _ h => by cases h) fnExactChainOf_row_tie rfl ⟨rfl, rfl⟩ seat_main rfl FnExactChainOf_plain FnExactChainOf_goes

end Go.Proofs.YtilagemeigeceaaDoor
