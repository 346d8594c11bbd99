/- The statement on the law TableLines is proved, as it is given: for every input the law returns true and each argument reads as before. No conditions. -/
import Derived.Test.YtpjeooikjcdbpaaDoorTable
import Derived.Test.YtpjeooikjcdbpaaDoorStrs
import Derived.Test.YtpjeooikjcdbpaaDoorNestArg
import Derived.Test.YtpjeooikjcdbpaaDoorVcApp
import Derived.Test.YtpjeooikjcdbpaaDoorShelf
import Derived.Test.YtpjeooikjcdbpaaDoorSeatMain
import Derived.Test.YtpjeooikjcdbpaaDoorTie
import Derived.Test.YtpjeooikjcdbpaaDoorCards
import Derived.Test.YtpjeooikjcdbpaaDoorLiftBase
namespace Go.M
open Go Go.Vc
theorem wt_table {xs : List (List Int)} (h : tableB xs = true) : wtAll wtCard xs ≤ 1600 := by
  obtain ⟨h1, h2⟩ := tableB_spec h
  have key : ∀ (ys : List (List Int)), (∀ l ∈ ys, l.length ≤ 40) → wtAll wtCard ys ≤ ys.length * 40 := by
    intro ys
    induction ys with
    | nil => intro _; simp [wtAll]
    | cons y ys ih =>
      intro hy
      have a := ih (fun l hl => hy l (by simp [hl]))
      have b := hy y (by simp)
      rw [wtAll_cons]
      unfold wtCard at *
      simp only [List.length_cons, Nat.add_mul]
      omega
  have := key xs (fun l hl => (h2 l hl).2.1)
  omega
theorem tableLines_len (xs : List (List Int)) : (tableLines xs).1.length ≤ 40 := by
  unfold tableLines
  split
  · rename_i h
    have := (tableB_spec h).1
    simpa using this
  · simp
theorem wt_bound {F : List Int → Prop} {xs : List (List Int)} (h : ∀ l ∈ xs, l.length ≤ 1048576) (hn : xs.length ≤ 400) : wtAll wtCard xs ≤ 500000000 := by
  have key : ∀ (ys : List (List Int)), (∀ l ∈ ys, l.length ≤ 1048576) → wtAll wtCard ys ≤ ys.length * 1048576 := by
    intro ys
    induction ys with
    | nil => intro _; simp [wtAll]
    | cons y ys ih =>
      intro hy
      have a := ih (fun l hl => hy l (by simp [hl]))
      have b := hy y (by simp)
      rw [wtAll_cons]
      unfold wtCard at *
      simp only [List.length_cons, Nat.add_mul]
      omega
  have := key xs h
  omega
end Go.M
namespace Go.Proofs.YtpjeooikjcdbpaaDoor
open Go Go.Shelf Go.Proofs Go.RowKit Go.Vc Go.M Go.ChangeShapes Go.WideShapes Go.ChangeAt
open Go.ChangeMaps (open_string)
set_option linter.unusedVariables false in
theorem law_TableLines {w : World} {a0 : Option Addr} {n0 c0 : Nat} {x0 : List (List Int)} (h0 : ArrS RCard w a0 n0 x0) (hT : Pow w) : Does Tryd.prog 3 [.slice a0 n0 c0] w (fun v w' => v = .bool true ∧ Ext w w') := by
  have len0 := h0.len
  have hlen := tableLines_len x0
  refine Does.of_vc tabok Tryd.func3 rfl rfl rfl (by kernel_rfl) ?_; conv => whnf
  refine (laws_szInt64SSE h0 (by omega) (by omega)).mono ?_
  rintro _ w4 ⟨r1, rfl, q2, e3⟩
  have E4 := e3
  conv => whnf
  with_reducible refine IfB.dec (fun h5 => ?_) (fun h5 => ?_)
  · conv => whnf
    exact ⟨rfl, e3⟩
  · conv => whnf
    refine (laws_toInt64SSO (h0.ext e3) (by omega)).mono ?_
    rintro _ w10 ⟨b6, rfl, q7, O8, e9⟩
    have E10 := (Ext.trans e3 e9)
    conv => whnf
    refine (spec_TableLines O8.arr).mono ?_
    rintro _ w17 ⟨a'11, n'12, c'13, rfl, N14, O15, e16⟩
    have E17 := (Ext.trans E10 e16)
    have lnO15 := O15.1
    conv => whnf
    refine (laws_toInt64SSO (h0.ext E17) (by omega)).mono ?_
    rintro _ w22 ⟨b18, rfl, q19, O20, e21⟩
    have E22 := (Ext.trans E17 e21)
    conv => whnf
    refine (impl_TableLines O20.arr (hT.ext E22)).mono ?_
    rintro _ w29 ⟨a'23, n'24, c'25, rfl, N26, O27, e28⟩
    have E29 := (Ext.trans E22 e28)
    have lnO27 := O27.1
    conv => whnf
    refine (laws_eqStringS (O27.arr eS_len) ((O15.ext (Ext.trans e21 e28)).arr eS_len)).mono ?_
    rintro _ w31 ⟨rfl, e30⟩
    have E31 := (Ext.trans E29 e30)
    conv => whnf
    refine IfB.eqf (by simp; done) ?_
    conv => whnf
    refine IfB.eqf (by simp; done) ?_
    conv => whnf
    refine (laws_toInt64SSO (h0.ext E31) (by omega)).mono ?_
    rintro _ w36 ⟨b32, rfl, q33, O34, e35⟩
    have E36 := (Ext.trans E31 e35)
    conv => whnf
    refine (laws_eqInt64SS (O20.ext (Ext.trans (Ext.trans e28 e30) e35)).arr O34.arr).mono ?_
    rintro _ w38 ⟨rfl, e37⟩
    have E38 := (Ext.trans E36 e37)
    conv => whnf
    refine IfB.eqf (by simp; done) ?_
    conv => whnf
    refine (laws_markInt64SSN (k0 := 1) (O20.ext (Ext.trans (Ext.trans (Ext.trans e28 e30) e35) e37)) (by omega)).mono ?_
    rintro _ w41 ⟨rfl, m39, O40⟩
    have E41 := (Ext.mod_trans E38 m39 (fun k hk => Nat.le_trans (Below.size E17) hk.1))
    conv => whnf
    refine (laws_eqStringS (((O27.ext (Ext.trans (Ext.trans e30 e35) e37)).mod m39 (ivNew N26 (Nat.le_refl _))).arr eS_len) ((O15.ext (Ext.mod_trans (Ext.trans (Ext.trans (Ext.trans (Ext.trans e21 e28) e30) e35) e37) m39 (fun k hk => hk.1))).arr eS_len)).mono ?_
    rintro _ w43 ⟨rfl, e42⟩
    have E43 := (Ext.trans E41 e42)
    conv => whnf
    refine IfB.eqf (by simp; done) ?_
    conv => whnf
    refine IfB.eqf (by simp; done) ?_
    conv => whnf
    refine (laws_markStringS (k0 := 1) (((O27.ext (Ext.trans (Ext.trans e30 e35) e37)).mod m39 (ivNew N26 (Nat.le_refl _))).ext e42) (by omega)).mono ?_
    rintro _ w46 ⟨rfl, m44, O45⟩
    have E46 := (Ext.mod_trans E43 m44 (fun k hk => Nat.le_trans (Below.size E22) (blkIn_new N26 k hk)))
    have lnO45 := O45.1
    conv => whnf
    refine (laws_heldStringS (k0 := 1) (O45.arr eS_len) (by omega)).mono ?_
    rintro _ w48 ⟨rfl, e47⟩
    have E48 := (Ext.trans E46 e47)
    conv => whnf
    refine IfB.eqf (by simp; done) ?_
    conv => whnf
    refine (laws_toInt64SSO (h0.ext E48) (by omega)).mono ?_
    rintro _ w53 ⟨b49, rfl, q50, O51, e52⟩
    have E53 := (Ext.trans E48 e52)
    conv => whnf
    refine (impl_TableLines O51.arr (hT.ext E53)).mono ?_
    rintro _ w60 ⟨a'54, n'55, c'56, rfl, N57, O58, e59⟩
    have E60 := (Ext.trans E53 e59)
    have lnO58 := O58.1
    conv => whnf
    refine (laws_eqStringS (O58.arr eS_len) ((O15.ext (Ext.trans (Ext.trans (Ext.trans (Ext.mod_trans (Ext.trans (Ext.mod_trans (Ext.trans (Ext.trans (Ext.trans (Ext.trans e21 e28) e30) e35) e37) m39 (fun k hk => hk.1)) e42) m44 (fun k hk => Nat.le_trans (Below.size e21) (blkIn_new N26 k hk))) e47) e52) e59)).arr eS_len)).mono ?_
    rintro _ w62 ⟨rfl, e61⟩
    have E62 := (Ext.trans E60 e61)
    conv => whnf
    refine IfB.eqf (by simp; done) ?_
    conv => whnf
    refine IfB.eqf (by simp; done) ?_
    conv => whnf
    refine (laws_heldStringS (k0 := 1) ((O45.ext (Ext.trans (Ext.trans (Ext.trans e47 e52) e59) e61)).arr eS_len) (by omega)).mono ?_
    rintro _ w64 ⟨rfl, e63⟩
    have E64 := (Ext.trans E62 e63)
    conv => whnf
    refine IfB.eqf (by simp; done) ?_
    conv => whnf
    exact ⟨rfl, E64⟩
set_option maxRecDepth 100000 in
theorem open_TableLines {H : Type} {enc : TypeId × Value → H} {base : Nat} (W : World) (args : List Value) (ds : List (DataW H)) (p : List MemPlace) (hA : DataW.TrodAll enc Tryd.prog W 0 (fun _ => true) true (Tryd.f3).params.toList args ds p)
    (hv : ∀ (j : Nat) t v, (Tryd.f3).params[j]? = some t → args[j]? = some v → Value.okWide Tryd.prog W .any base t v) (hL : laidMet Tryd.prog Rows.fnExactTableLinesRow.laid W) (_hsh : W.ShapedOpen Tryd.prog) : Does Tryd.prog 3 args W (fun v w' => v = .bool true ∧ Ext W w') := by
  have e : (Tryd.f3).params.toList = [22] := rfl
  rw [e] at hA
  obtain ⟨v0, vs0, d0, ds0, p0, q0, rfl, rfl, rfl, g0, r0⟩ := trodAll_cons hA
  obtain ⟨rfl, rfl, rfl⟩ := trodAll_nil r0
  obtain ⟨a0, n0, c0, x0, rfl, h0⟩ := open_Int64SS W (hv 0 22 v0 (by rw [← Array.getElem?_toList, e]; rfl) rfl) g0
  exact law_TableLines h0 (Pow.of_laid hL.tail.tail)
set_option maxRecDepth 100000 in
theorem FnExactTableLines_lifted (os : Os) (started : os.Started) (H : Type) (enc : TypeId × Value → H) (F : Stop.Interp) :
    ReturnsInHanded {} Tryd.checked os 3 .any ((OpenSpec.ofChange Rows.fnExactTableLinesSpec).preRow enc Tryd.prog Tryd.f3 Rows.fnExactTableLinesRow.domain false Rows.fnExactTableLinesRow.laid) (((OpenSpec.ofChange Rows.fnExactTableLinesSpec).at F).post enc Tryd.prog Tryd.f3 false true false false) := by
  refine returnsInHanded_of_row (C := Tryd.checked) (s := OpenSpec.ofChange Rows.fnExactTableLinesSpec) law_own started (by kernel_rfl) Tryd.func3
    (witness_row_sh (enc := enc) (C := Tryd.checked) (World.laidAll Tryd.prog os Rows.fnExactTableLinesRow.laid) #[.slice none 0 0] 8 (World.laidAll_os _ _ _) (World.shaped_of_ZipB (by kernel_rfl) (by kernel_rfl)) (by kernel_rfl) (by kernel_rfl) (by kernel_rfl)
      (by rw [MakeChecks.laidMetH_plain _ _ _ (by kernel_rfl)]; exact laidMet_laidAll _ (by kernel_rfl) (by kernel_rfl))) ?_
  intro W base args ds gs before hval hW _ _ _ hL hsh _
  rw [MakeChecks.laidMetH_plain _ _ _ (by kernel_rfl)] at hL
  exact law_contract_at (P := Tryd.prog) (fn := Tryd.f3) (s := Rows.fnExactTableLinesSpec) rfl rfl Tryd.underlying4 law_laid (by kernel_rfl)
    (fun ds h => match ds, h with | [d0], _ => ⟨rfl, rfl, rfl⟩) W args ds gs before (fun p hA hv => open_TableLines W args.toList ds p hA hv hL hsh) hval hW
theorem FnExactTableLines_closed : joinedFacts Tryd.prog 3 Tryd.f3 (OpenSpec.ofChange Rows.fnExactTableLinesSpec).bare Rows.fnExactTableLinesRow = true := by
  unfold joinedFacts
  exact andI (andI (andI (andI (andI (andI (andI (andI (by kernel_rfl) seat_heard) seat_enter) seat_lifts) seat_make) (by kernel_rfl)) (by kernel_rfl)) (by kernel_rfl)) (by kernel_rfl)
theorem FnExactTableLines_named : Tryd.prog.funcNamed Rows.fnExactTableLinesRow.func = some 3 := by kernel_rfl
theorem FnExactTableLines_row : Rows.FnExactTableLinesSaid :=
  OpenClaim.holds_of_cond 3 Tryd.f3 rfl rfl rfl rfl rfl rfl rfl ⟨rfl, rfl, rfl, rfl, rfl⟩ rfl rfl rfl rfl rfl FnExactTableLines_named Tryd.func3 FnExactTableLines_closed
    (of_decide_eq_true (by kernel_rfl)) (by unfold Func.isWrapper; first | (rw [if_pos (by decide +kernel)]; kernel_rfl) | (rw [if_neg (by decide +kernel)]; exact ⟨rfl, rfl⟩))
    (fun os started H enc _ F => by rw [OpenClaim.pre_eq_preRow]; exact FnExactTableLines_lifted os started H enc F)
theorem FnExactTableLines_goes : false = Rows.fnExactTableLinesRow.goesBy Tryd.pinned.checked.prog := by kernel_rfl
theorem FnExactTableLines_wf : Rows.fnExactTableLinesRow.wfByText (OpenSpec.ofChange Rows.fnExactTableLinesSpec) = true := by kernel_rfl
theorem FnExactTableLines_plain (f : FuncId) (fn : Func) (hf : Tryd.pinned.checked.prog.funcNamed Rows.fnExactTableLinesRow.func = some f) (hfn : Tryd.pinned.checked.prog.funcs[f]? = some fn) :
    true = Tryd.pinned.checked.prog.looks [] ∧ ∀ (j : Nat) t, fn.params[j]? = some t → Tryd.pinned.checked.prog.wantsStandIn t = false := by
  obtain rfl : f = 3 := Option.some.inj (FnExactTableLines_named.symm.trans hf) |>.symm
  obtain rfl : fn = Tryd.f3 := (Option.some.inj (Tryd.func3.symm.trans hfn)).symm
  refine ⟨seat_looks, fun j t ht => ?_⟩
  have hall : (Tryd.f3.params.toList.all fun u => !Tryd.prog.wantsStandIn u) = true := by kernel_rfl
  exact (show Tryd.prog.wantsStandIn t = false by simpa using List.all_eq_true.1 hall t (by simpa using Array.mem_of_getElem? ht))
theorem FnExactTableLines_holds : Rows.FnExactTableLinesCardSaid :=
  Claim7.holds_tied_plain_at .later [] _ _ _ _ FnExactTableLines_row (fun _ h => by cases h) FnExactTableLines_wf (fun _ h => by cases h) fnExactTableLines_row_tie rfl ⟨rfl, rfl⟩ seat_main rfl FnExactTableLines_plain FnExactTableLines_goes

end Go.Proofs.YtpjeooikjcdbpaaDoor
