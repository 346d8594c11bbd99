/- The statement on the law ValidDesk is proved, as it is given: for every input the law returns true and each argument reads as before. No conditions. -/
import Derived.Test.YtkjmbjedbmblmaaGreatDoorDeskArg
import Derived.Test.YtkjmbjedbmblmaaGreatDoorOffi
import Derived.Test.YtkjmbjedbmblmaaGreatDoorVcApp
import Derived.Test.YtkjmbjedbmblmaaGreatDoorShelf
import Derived.Test.YtkjmbjedbmblmaaGreatDoorSeatMain
import Derived.Test.YtkjmbjedbmblmaaGreatDoorTie
import Derived.Test.YtkjmbjedbmblmaaGreatDoorCards
import Derived.Test.YtkjmbjedbmblmaaGreatDoorLiftBase
namespace Go.Proofs.YtkjmbjedbmblmaaGreatDoor
open Go Go.Shelf Go.Proofs Go.RowKit Go.Vc Go.M Go.ChangeShapes Go.WideShapes Go.ChangeAt
open Go.ChangeMaps (open_string)
set_option linter.unusedVariables false in
theorem law_ValidDesk {w : World} {k : Dk} {s : ByteArray} {X : List (List (List Int))} {Y : List (List TTotal)} (h : DkR w k X Y) (ok : deskOk s Y) (hT : Pow w) (hEr : Errs w) (hM : MaxL w) :
    Does Tryz.prog 5 [dkV k s] w (fun v w' => v = .bool true ∧ Ext w w') := by
  obtain ⟨oks, okY⟩ := ok
  obtain ⟨ka, kn, kc, kb, km, kd⟩ := k
  have hY : ∀ {u a n b m}, DeskR u a n b m X Y → m = Y.length := fun h => h.2.len.symm
  have hkm : km = Y.length := hY h
  have hSz : ∀ u, Ext w u → Does Tryz.prog 45 [.agg #[.slice ka kn kc, .slice kb km kd, .string s], .int .i64 1048576] u (fun v w' => ∃ r : Int, v = .int .i64 r ∧ (r = -1 ∨ (0 ≤ r ∧ r ≤ 1048576 ∧ FSz FDeck X ∧ FSz FTots Y ∧ s.size ≤ 1048576)) ∧ Ext u w') := fun u e => laws_szDeskS (DeskR.ext h e) okY oks (by omega) (by omega)
  have hTo : ∀ u, Ext w u → FSz FDeck X → FSz FTots Y → Does Tryz.prog 47 [.agg #[.slice ka kn kc, .slice kb km kd, .string s]] u (fun v w' => ∃ a n c b d, v = .agg #[.slice a n c, .slice b Y.length d, .string s] ∧ DeskR w' a n b Y.length X Y ∧ Ext u w') := fun u e f1 f2 => (laws_toDesk (k := ⟨ka, kn, kc, kb, km, kd⟩) (DeskR.ext h e) f1 f2).mono (by
    rintro _ w2 ⟨⟨a, n, c, b, m, d⟩, rfl, hN, e2⟩
    have hr : DeskR w2 a n b m X Y := hN.rd
    obtain rfl := hY hr
    exact ⟨a, n, c, b, d, rfl, hr, e2⟩)
  subst hkm
  have hSp : ∀ u a n c b d, Ext w u → DeskR u a n b Y.length X Y → s.size ≤ 1048576 → Does Tryz.prog 46 [.agg #[.slice a n c, .slice b Y.length d, .string s]] u (fun v w' => v = .bool (deskB X Y.length s) ∧ Ext u w') := fun u a n c b d e hr hs => spec_ValidDesk hr.1 hs
  have hIm : ∀ u a n c b d, Ext w u → DeskR u a n b Y.length X Y → s.size ≤ 1048576 → Does Tryz.prog 48 [.agg #[.slice a n c, .slice b Y.length d, .string s]] u (fun v w' => v = .bool (deskB X Y.length s) ∧ Ext u w') := fun u a n c b d e hr hs => impl_ValidDesk hr.1 hs (hT.ext e) (hEr.ext e) (hM.ext e)
  have hEq : ∀ u a n c b d a' n' c' b' d', DeskR u a n b Y.length X Y → DeskR u a' n' b' Y.length X Y → Does Tryz.prog 49 [.agg #[.slice a n c, .slice b Y.length d, .string s], .agg #[.slice a' n' c', .slice b' Y.length d', .string s]] u (fun v w' => v = .bool true ∧ Ext u w') := fun u a n c b d a' n' c' b' d' h1 h2 => (laws_eqDesk h1 h2).mono (by
    rintro _ w2 ⟨rfl, e⟩
    exact ⟨by simp, e⟩)
  refine Does.of_vc tabok Tryz.func5 rfl rfl rfl (by kernel_rfl) ?_; conv => whnf
  refine SemK.box ?_
  intro b1 w1 g1 l1 e1 B1
  conv => whnf
  refine SemK.loadAgg (n := 3) (by kernel_rfl) B1.cells rfl ?_
  conv => whnf
  refine (hSz _ e1).mono ?_
  rintro _ w5 ⟨r2, rfl, q3, e4⟩
  have E5 := (Ext.trans e1 e4)
  conv => whnf
  with_reducible refine IfB.dec (fun h6 => ?_) (fun h6 => ?_)
  · conv => whnf
    exact ⟨rfl, E5⟩
  · obtain ⟨f0, f00, f1, f2, f3⟩ := q3.resolve_left (by omega)
    conv => whnf
    refine SemK.loadAgg (n := 3) (by kernel_rfl) (B1.ext e4).cells rfl ?_
    conv => whnf
    refine (hTo _ E5 f1 f2).mono ?_
    rintro _ w14 ⟨a7, n8, c9, b10, d11, rfl, q12, e13⟩
    have E14 := (Ext.trans E5 e13)
    conv => whnf
    refine (hSp _ _ _ _ _ _ E14 q12 (by omega)).mono ?_
    rintro _ w16 ⟨rfl, e15⟩
    have E16 := (Ext.trans E14 e15)
    conv => whnf
    refine SemK.loadAgg (n := 3) (by kernel_rfl) (B1.ext (Ext.trans (Ext.trans e4 e13) e15)).cells rfl ?_
    conv => whnf
    refine (hTo _ E16 f1 f2).mono ?_
    rintro _ w24 ⟨a17, n18, c19, b20, d21, rfl, q22, e23⟩
    have E24 := (Ext.trans E16 e23)
    conv => whnf
    refine SemK.alloc (z := .agg #[.slice none 0 0, .slice none 0 0, .string { data := #[] }]) (by kernel_rfl) ?_
    intro b25 w25 g25 l25 e25 B25
    conv => whnf
    refine SemK.storeAll (vs := [Value.slice a17 n18 c19, Value.slice b20 Y.length d21, Value.string s]) (by kernel_rfl) B25 rfl rfl (by simp [cellish]) ?_
    intro w26 c26 B26
    conv => whnf
    refine SemK.loadAgg (n := 3) (by kernel_rfl) B26.cells rfl ?_
    conv => whnf
    refine (hIm _ _ _ _ _ _ (Ext.but_trans (Ext.trans E24 e25) c26.but (Nat.le_trans (Below.size E24) g25)) (DeskR.ext q22 (Ext.but_trans e25 c26.but g25)) (by omega)).mono ?_
    rintro _ w28 ⟨rfl, e27⟩
    have E28 := (Ext.trans (Ext.but_trans (Ext.trans E24 e25) c26.but (Nat.le_trans (Below.size E24) g25)) e27)
    conv => whnf
    refine SemK.neqB (by kernel_rfl) ?_
    conv => whnf
    refine IfB.eqf (by simp; done) ?_
    conv => whnf
    refine DrawK.held tabok mixed [(0, false), (1, true), (2, true), (3, true), (4, true)] (by kernel_rfl) (by kernel_rfl) ?_
    conv => whnf
    intro w29 e29
    conv => whnf
    refine DSemK.loadAgg (n := 3) (by kernel_rfl) (B26.ext e27).cells rfl ?_
    conv => whnf
    refine SemK.loadAgg (n := 3) (by kernel_rfl) (B1.ext (Ext.trans (Ext.trans (Ext.but_trans (Ext.trans (Ext.trans (Ext.trans (Ext.trans e4 e13) e15) e23) e25) c26.but (Nat.le_trans (Below.size (Ext.trans (Ext.trans (Ext.trans e4 e13) e15) e23)) g25)) e27) e29)).cells rfl ?_
    conv => whnf
    refine ⟨e29, ?_⟩
    conv => whnf
    refine (hTo _ (Ext.trans E28 e29) f1 f2).mono ?_
    rintro _ w37 ⟨a30, n31, c32, b33, d34, rfl, q35, e36⟩
    have E37 := (Ext.trans (Ext.trans E28 e29) e36)
    conv => whnf
    refine ⟨(Ext.trans e29 e36), ?_⟩
    conv => whnf
    refine (hEq _ _ _ _ _ _ _ _ _ _ _ (DeskR.ext q22 (Ext.trans (Ext.trans (Ext.trans (Ext.but_trans e25 c26.but g25) e27) e29) e36)) q35).mono ?_
    rintro _ w39 ⟨rfl, e38⟩
    have E39 := (Ext.trans E37 e38)
    conv => whnf
    refine ⟨(Ext.trans (Ext.trans e29 e36) e38), ?_⟩
    conv => whnf
    exact ⟨rfl, E39⟩
set_option maxRecDepth 100000 in
theorem open_ValidDesk {H : Type} {enc : TypeId × Value → H} {base : Nat} (W : World) (args : List Value) (ds : List (DataW H)) (p : List MemPlace) (hA : DataW.TrodAll enc Tryz.prog W 0 (fun _ => true) true (Tryz.f5).params.toList args ds p)
    (hv : ∀ (j : Nat) t v, (Tryz.f5).params[j]? = some t → args[j]? = some v → Value.okWide Tryz.prog W .any base t v) (hL : laidMet Tryz.prog Rows.fnExactValidDeskRow.laid W) (_hsh : W.ShapedOpen Tryz.prog) : Does Tryz.prog 5 args W (fun v w' => v = .bool true ∧ Ext W w') := by
  have e : (Tryz.f5).params.toList = [84] := rfl
  rw [e] at hA
  obtain ⟨v0, vs0, d0, ds0, p0, q0, rfl, rfl, rfl, g0, r0⟩ := trodAll_cons hA
  obtain ⟨rfl, rfl, rfl⟩ := trodAll_nil r0
  obtain ⟨k, s, X, Y, rfl, h, ok⟩ := open_aDesk W (hv 0 84 v0 (by rw [← Array.getElem?_toList, e]; rfl) rfl) g0
  exact law_ValidDesk h ok (Pow.of_laid hL.tail.tail) (Errs.of_laid hL.tail.tail.tail.tail.tail hL.tail.tail.tail.tail) (MaxL.of_shaped _hsh)
set_option maxRecDepth 100000 in
theorem FnExactValidDesk_lifted (os : Os) (started : os.Started) (H : Type) (enc : TypeId × Value → H) (F : Stop.Interp) :
    ReturnsInHanded {} Tryz.checked os 5 .any ((OpenSpec.ofChange Rows.fnExactValidDeskSpec).preRow enc Tryz.prog Tryz.f5 Rows.fnExactValidDeskRow.domain false Rows.fnExactValidDeskRow.laid) (((OpenSpec.ofChange Rows.fnExactValidDeskSpec).at F).post enc Tryz.prog Tryz.f5 false true false false) := by
  refine returnsInHanded_of_row (C := Tryz.checked) (s := OpenSpec.ofChange Rows.fnExactValidDeskSpec) law_own started (by kernel_rfl) Tryz.func5
    (witness_row_sh (enc := enc) (C := Tryz.checked) (World.laidAll Tryz.prog os Rows.fnExactValidDeskRow.laid) #[.agg #[.slice none 0 0, .slice none 0 0, .string { data := #[] }]] 8 (World.laidAll_os _ _ _) (World.shaped_of_ZipB (by kernel_rfl) (by kernel_rfl)) (by kernel_rfl) (by kernel_rfl) (by kernel_rfl)
      (by rw [MakeChecks.laidMetH_plain _ _ _ (by kernel_rfl)]; exact laidMet_laidAll _ (by kernel_rfl) (by kernel_rfl))) ?_
  intro W base args ds gs before hval hW _ _ _ hL hsh _
  rw [MakeChecks.laidMetH_plain _ _ _ (by kernel_rfl)] at hL
  exact law_contract_at (P := Tryz.prog) (fn := Tryz.f5) (s := Rows.fnExactValidDeskSpec) rfl rfl Tryz.underlying4 law_laid (by kernel_rfl)
    (fun ds h => match ds, h with | [d0], _ => ⟨rfl, rfl, rfl⟩) W args ds gs before (fun p hA hv => open_ValidDesk W args.toList ds p hA hv hL hsh) hval hW
theorem FnExactValidDesk_closed : joinedFacts Tryz.prog 5 Tryz.f5 (OpenSpec.ofChange Rows.fnExactValidDeskSpec).bare Rows.fnExactValidDeskRow = true := by
  unfold joinedFacts
  exact andI (andI (andI (andI (andI (andI (andI (andI (by kernel_rfl) seat_heard) seat_enter) seat_lifts) seat_make) (by kernel_rfl)) (by kernel_rfl)) (by kernel_rfl)) (by kernel_rfl)
theorem FnExactValidDesk_named : Tryz.prog.funcNamed Rows.fnExactValidDeskRow.func = some 5 := by kernel_rfl
theorem FnExactValidDesk_row : Rows.FnExactValidDeskSaid :=
  OpenClaim.holds_of_cond 5 Tryz.f5 rfl rfl rfl rfl rfl rfl rfl ⟨rfl, rfl, rfl, rfl, rfl⟩ rfl rfl rfl rfl rfl FnExactValidDesk_named Tryz.func5 FnExactValidDesk_closed
    (of_decide_eq_true (by kernel_rfl)) (by unfold Func.isWrapper; first | (rw [if_pos (by decide +kernel)]; kernel_rfl) | (rw [if_neg (by decide +kernel)]; exact ⟨rfl, rfl⟩))
    (fun os started H enc _ F => by rw [OpenClaim.pre_eq_preRow]; exact FnExactValidDesk_lifted os started H enc F)
theorem FnExactValidDesk_goes : false = Rows.fnExactValidDeskRow.goesBy Tryz.pinned.checked.prog := by kernel_rfl
theorem FnExactValidDesk_wf : Rows.fnExactValidDeskRow.wfByText (OpenSpec.ofChange Rows.fnExactValidDeskSpec) = true := by kernel_rfl
theorem FnExactValidDesk_plain (f : FuncId) (fn : Func) (hf : Tryz.pinned.checked.prog.funcNamed Rows.fnExactValidDeskRow.func = some f) (hfn : Tryz.pinned.checked.prog.funcs[f]? = some fn) :
    true = Tryz.pinned.checked.prog.looks [] ∧ ∀ (j : Nat) t, fn.params[j]? = some t → Tryz.pinned.checked.prog.wantsStandIn t = false := by
  obtain rfl : f = 5 := Option.some.inj (FnExactValidDesk_named.symm.trans hf) |>.symm
  obtain rfl : fn = Tryz.f5 := (Option.some.inj (Tryz.func5.symm.trans hfn)).symm
  refine ⟨seat_looks, fun j t ht => ?_⟩
  have hall : (Tryz.f5.params.toList.all fun u => !Tryz.prog.wantsStandIn u) = true := by kernel_rfl
  exact (show Tryz.prog.wantsStandIn t = false by simpa using List.all_eq_true.1 hall t (by simpa using Array.mem_of_getElem? ht))
theorem FnExactValidDesk_holds : Rows.FnExactValidDeskCardSaid :=
  Claim7.holds_tied_plain_at .later [] _ _ _ _ FnExactValidDesk_row (fun _ h => by cases h) FnExactValidDesk_wf (fun _ h => by cases h) fnExactValidDesk_row_tie rfl ⟨rfl, rfl⟩ seat_main rfl FnExactValidDesk_plain FnExactValidDesk_goes

end Go.Proofs.YtkjmbjedbmblmaaGreatDoor
