/- The statement on the law LastNote is proved, as it is given: for every input the law returns true and each argument reads as before. No conditions. -/
import Derived.Test.YtilagemeigeceaaDoorJourT
import Derived.Test.YtilagemeigeceaaDoorVcApp
import Derived.Test.YtilagemeigeceaaDoorShelf
import Derived.Test.YtilagemeigeceaaDoorSeatMain
import Derived.Test.YtilagemeigeceaaDoorTie
import Derived.Test.YtilagemeigeceaaDoorCards
import Derived.Test.YtilagemeigeceaaDoorLiftBase
namespace Go.Proofs.YtilagemeigeceaaDoor
open Go Go.Shelf Go.Proofs Go.RowKit Go.Vc Go.M Go.ChangeShapes Go.WideShapes Go.ChangeAt
open Go.ChangeMaps (open_string)
set_option linter.unusedVariables false in
theorem law_LastNote {w : World} {x0 : ByteArray} (ok0 : strok x0) {x1 : Int} (ok1 : i64ok x1)  (hT : Pow w) (hE : Errs w) (hM : MaxL w) : Does Tryd.prog 15 [.string x0, .int .i64 x1] w (fun v w' => v = .bool true ∧ Ext w w') := by
  refine Does.of_vc tabok Tryd.func15 rfl rfl rfl (by kernel_rfl) ?_; conv => whnf
  with_reducible refine IfB.dec (fun h2 => ?_) (fun h2 => ?_)
  · conv => whnf
    exact ⟨rfl, Ext.refl _⟩
  · conv => whnf
    refine (spec_LastNote (by omega) ok1 _).mono ?_
    rintro _ w4 ⟨rfl, e3⟩
    have E4 := e3
    conv => whnf
    refine SemK.alloc (z := .agg #[.int .i64 0, .int .i64 0, .int .i64 0, .string { data := #[] }]) (by kernel_rfl) ?_
    intro b5 w5 g5 l5 e5 B5
    conv => whnf
    refine SemK.storeAll (by kernel_rfl) B5 (vs := (lastM x0 x1).fst.enc) rfl rfl (by simp [TNote.enc, cellish]) ?_
    intro w6 c6 B6
    conv => whnf
    refine (impl_LastNote (by omega) ok1 (hT.ext (Ext.but_trans (Ext.trans e3 e5) c6.but (Nat.le_trans (Below.size e3) g5))) (hE.ext (Ext.but_trans (Ext.trans e3 e5) c6.but (Nat.le_trans (Below.size e3) g5))) (hM.ext (Ext.but_trans (Ext.trans e3 e5) c6.but (Nat.le_trans (Below.size e3) g5)))).mono ?_
    rintro _ w8 ⟨rfl, e7⟩
    have E8 := (Ext.trans (Ext.but_trans (Ext.trans e3 e5) c6.but (Nat.le_trans (Below.size e3) g5)) e7)
    conv => whnf
    refine SemK.alloc (z := .agg #[.int .i64 0, .int .i64 0, .int .i64 0, .string { data := #[] }]) (by kernel_rfl) ?_
    intro b9 w9 g9 l9 e9 B9
    conv => whnf
    refine SemK.storeAll (by kernel_rfl) B9 (vs := (lastM x0 x1).fst.enc) rfl rfl (by simp [TNote.enc, cellish]) ?_
    intro w10 c10 B10
    conv => whnf
    refine SemK.loadAgg (n := 4) (by kernel_rfl) B10.cells rfl ?_
    conv => whnf
    refine SemK.loadAgg (n := 4) (by kernel_rfl) (B6.ext (Ext.but_trans (Ext.trans e7 e9) c10.but (Nat.le_trans (Below.size e7) g9))).cells rfl ?_
    conv => whnf
    refine (laws_eqNote _ _ _).mono ?_
    rintro _ w12 ⟨rfl, e11⟩
    have E12 := (Ext.trans (Ext.but_trans (Ext.trans E8 e9) c10.but (Nat.le_trans (Below.size E8) g9)) e11)
    conv => whnf
    refine IfB.eqf (by simp; done) ?_
    conv => whnf
    refine IfB.eqf (by simp; done) ?_
    conv => whnf
    exact ⟨rfl, E12⟩
set_option maxRecDepth 100000 in
theorem open_LastNote {H : Type} {enc : TypeId × Value → H} {base : Nat} (W : World) (args : List Value) (ds : List (DataW H)) (p : List MemPlace) (hA : DataW.TrodAll enc Tryd.prog W 0 (fun _ => true) true (Tryd.f15).params.toList args ds p)
    (hv : ∀ (j : Nat) t v, (Tryd.f15).params[j]? = some t → args[j]? = some v → Value.okWide Tryd.prog W .any base t v) (hL : laidMet Tryd.prog Rows.fnExactLastNoteRow.laid W) (_hsh : W.ShapedOpen Tryd.prog) : Does Tryd.prog 15 args W (fun v w' => v = .bool true ∧ Ext W w') := by
  have e : (Tryd.f15).params.toList = [9, 2] := rfl
  rw [e] at hA
  obtain ⟨v0, vs0, d0, ds0, p0, q0, rfl, rfl, rfl, g0, r0⟩ := trodAll_cons hA
  obtain ⟨v1, vs1, d1, ds1, p1, q1, rfl, rfl, rfl, g1, r1⟩ := trodAll_cons r0
  obtain ⟨rfl, rfl, rfl⟩ := trodAll_nil r1
  obtain ⟨x0, rfl, rfl, rfl, ok0⟩ := open_string Tryd.underlying9 (hv 0 9 v0 (by rw [← Array.getElem?_toList, e]; rfl) rfl) g0
  obtain ⟨x1, rfl, rfl, rfl, wf1⟩ := open_int Tryd.underlying2 (hv 1 2 v1 (by rw [← Array.getElem?_toList, e]; rfl) rfl) g1
  have ok1 := i64ok_of_wf wf1
  exact law_LastNote ok0 ok1 (Pow.of_laid hL.tail.tail) (Errs.of_laid hL.tail.tail.tail.tail.tail hL.tail.tail.tail.tail) (MaxL.of_shaped _hsh)
set_option maxRecDepth 100000 in
theorem FnExactLastNote_lifted (os : Os) (started : os.Started) (H : Type) (enc : TypeId × Value → H) (F : Stop.Interp) :
    ReturnsInHanded {} Tryd.checked os 15 .any ((OpenSpec.ofChange Rows.fnExactLastNoteSpec).preRow enc Tryd.prog Tryd.f15 Rows.fnExactLastNoteRow.domain false Rows.fnExactLastNoteRow.laid) (((OpenSpec.ofChange Rows.fnExactLastNoteSpec).at F).post enc Tryd.prog Tryd.f15 false true false false) := by
  refine returnsInHanded_of_row (C := Tryd.checked) (s := OpenSpec.ofChange Rows.fnExactLastNoteSpec) law_own started (by kernel_rfl) Tryd.func15
    (witness_row_sh (enc := enc) (C := Tryd.checked) (World.laidAll Tryd.prog os Rows.fnExactLastNoteRow.laid) #[.string { data := #[] },.int .i64 0] 8 (World.laidAll_os _ _ _) (World.shaped_of_ZipB (by kernel_rfl) (by kernel_rfl)) (by kernel_rfl) (by kernel_rfl) (by kernel_rfl)
      (by rw [MakeChecks.laidMetH_plain _ _ _ (by kernel_rfl)]; exact laidMet_laidAll _ (by kernel_rfl) (by kernel_rfl))) ?_
  intro W base args ds gs before hval hW _ _ _ hL hsh _
  rw [MakeChecks.laidMetH_plain _ _ _ (by kernel_rfl)] at hL
  exact law_contract_at (P := Tryd.prog) (fn := Tryd.f15) (s := Rows.fnExactLastNoteSpec) rfl rfl Tryd.underlying4 law_laid (by kernel_rfl)
    (fun ds h => match ds, h with | [d0, d1], _ => ⟨rfl, rfl, rfl⟩) W args ds gs before (fun p hA hv => open_LastNote W args.toList ds p hA hv hL hsh) hval hW
theorem FnExactLastNote_closed : joinedFacts Tryd.prog 15 Tryd.f15 (OpenSpec.ofChange Rows.fnExactLastNoteSpec).bare Rows.fnExactLastNoteRow = true := by
  unfold joinedFacts
  exact andI (andI (andI (andI (andI (andI (andI (andI (by kernel_rfl) seat_heard) seat_enter) seat_lifts) seat_make) (by kernel_rfl)) (by kernel_rfl)) (by kernel_rfl)) (by kernel_rfl)
theorem FnExactLastNote_named : Tryd.prog.funcNamed Rows.fnExactLastNoteRow.func = some 15 := by kernel_rfl
theorem FnExactLastNote_row : Rows.FnExactLastNoteSaid :=
  OpenClaim.holds_of_cond 15 Tryd.f15 rfl rfl rfl rfl rfl rfl rfl ⟨rfl, rfl, rfl, rfl, rfl⟩ rfl rfl rfl rfl rfl FnExactLastNote_named Tryd.func15 FnExactLastNote_closed
    (of_decide_eq_true (by kernel_rfl)) (by unfold Func.isWrapper; first | (rw [if_pos (by decide +kernel)]; kernel_rfl) | (rw [if_neg (by decide +kernel)]; exact ⟨rfl, rfl⟩))
    (fun os started H enc _ F => by rw [OpenClaim.pre_eq_preRow]; exact FnExactLastNote_lifted os started H enc F)
theorem FnExactLastNote_goes : false = Rows.fnExactLastNoteRow.goesBy Tryd.pinned.checked.prog := by kernel_rfl
theorem FnExactLastNote_wf : Rows.fnExactLastNoteRow.wfByText (OpenSpec.ofChange Rows.fnExactLastNoteSpec) = true := by kernel_rfl
theorem FnExactLastNote_plain (f : FuncId) (fn : Func) (hf : Tryd.pinned.checked.prog.funcNamed Rows.fnExactLastNoteRow.func = some f) (hfn : Tryd.pinned.checked.prog.funcs[f]? = some fn) :
    true = Tryd.pinned.checked.prog.looks [] ∧ ∀ (j : Nat) t, fn.params[j]? = some t → Tryd.pinned.checked.prog.wantsStandIn t = false := by
  obtain rfl : f = 15 := Option.some.inj (FnExactLastNote_named.symm.trans hf) |>.symm
  obtain rfl : fn = Tryd.f15 := (Option.some.inj (Tryd.func15.symm.trans hfn)).symm
  refine ⟨seat_looks, fun j t ht => ?_⟩
  have hall : (Tryd.f15.params.toList.all fun u => !Tryd.prog.wantsStandIn u) = true := by kernel_rfl
  exact (show Tryd.prog.wantsStandIn t = false by simpa using List.all_eq_true.1 hall t (by simpa using Array.mem_of_getElem? ht))
theorem FnExactLastNote_holds : Rows.FnExactLastNoteCardSaid :=
  Claim7.holds_tied_plain_at .later [] _ _ _ _ FnExactLastNote_row (fun _ h => by cases h) FnExactLastNote_wf (fun _ h => by cases h) fnExactLastNote_row_tie rfl ⟨rfl, rfl⟩ seat_main rfl FnExactLastNote_plain FnExactLastNote_goes

end Go.Proofs.YtilagemeigeceaaDoor
