/- The statement on the law LastNotes is proved, as it is given: for every input the law returns true and each argument reads as before. No conditions. -/
import Derived.Test.YtehofnnghbcjgaaDoorDrawN
import Derived.Test.YtehofnnghbcjgaaDoorJourT
import Derived.Test.YtehofnnghbcjgaaDoorJourC
import Derived.Test.YtehofnnghbcjgaaDoorNotesL
import Derived.Test.YtehofnnghbcjgaaDoorVcApp
import Derived.Test.YtehofnnghbcjgaaDoorVcByte
import Derived.Test.YtehofnnghbcjgaaDoorShelf
import Derived.Test.YtehofnnghbcjgaaDoorSeatMain
import Derived.Test.YtehofnnghbcjgaaDoorTie
import Derived.Test.YtehofnnghbcjgaaDoorCards
import Derived.Test.YtehofnnghbcjgaaDoorLiftBase
namespace Go.Proofs.YtehofnnghbcjgaaDoor
open Go Go.Shelf Go.Proofs Go.RowKit Go.Vc Go.M Go.ChangeShapes Go.WideShapes Go.ChangeAt
open Go.ChangeMaps (open_string)
set_option maxRecDepth 100000 in
set_option linter.unusedVariables false in
theorem law_LastNotes {w : World} {a0 : Option Addr} {n0 c0 : Nat} {x0 : List UInt8} (h0 : Arr eB 1 w a0 n0 x0) (hT : Pow w) (hE : Errs w) (hM : MaxL w) : Does Tryd.prog 3 [.slice a0 n0 c0] w (fun v w' => v = .bool true ∧ Ext w w') := by
  have len0 := h0.len
  refine Does.of_vc tabok Tryd.func3 rfl rfl rfl (by kernel_rfl) ?_; conv => whnf
  refine (laws_a2Long _ _ _ _ _ _ _).mono ?_
  rintro _ _ ⟨r1, rfl, rfl⟩
  conv => whnf
  with_reducible refine IfB.split (fun h3 => ?_) (fun h3 => ?_)
  · conv => whnf
    exact ⟨rfl, Ext.refl _⟩
  · conv => whnf
    refine (spec_A2Notes h0).mono ?_
    rintro _ w14 ⟨a'4, n'5, c'6, xs7, rfl, q8, q9, q10, N11, O12, e13⟩
    have E14 := e13
    have lnO12 := O12.1
    have hl7 : xs7.length ≤ 7 := by omega
    have hls := log_size q10
    have hJ := spec_JournalOf (O12.arr TNote.enc_len) (c := c'6) (fun x hx => noteB_ok (q10 x hx)) (by omega)
    rw [jo_ok q10 hl7] at hJ
    have hCN : ∀ u, Pow u → Errs u → MaxL u → Does Tryd.prog 7 [.string (logB xs7)] u (fun v w' => v = .tuple #[.int .i64 (sumTo xs7 6), .int .i64 0] ∧ Ext u w') := fun u hT hE hM => by
      have h := impl_CardsNow (log := logB xs7) (by omega) hT hE hM
      rw [jo_cards q10 hl7] at h
      exact h
    have hCH : ∀ k : Nat, k ≤ 5 → ∀ u, Pow u → Errs u → MaxL u → Does Tryd.prog 8 [.string (logB xs7), .int .i64 k] u (fun v w' => ∃ a c, v = .tuple #[.slice a (aboutL xs7 k).length c, .int .i64 0] ∧ NewAt u.heap.size a ∧ Own eI w' a (aboutL xs7 k).length 2 ((aboutL xs7 k).map (·.count)) ∧ Ext u w') := fun k hk u hT hE hM => by
      have h := impl_CountHistory (log := logB xs7) (t := (k : Int)) (by omega) (by simp only [i64ok]; omega) hT hE hM
      rw [jo_hist q10 hl7 (by omega) (by omega)] at h
      refine h.mono ?_
      rintro v w' ⟨a, n, c, rfl, hN, hO, hE⟩
      have hn : n = (aboutL xs7 k).length := by have := hO.1; simp at this; omega
      subst hn
      exact ⟨a, c, rfl, hN, hO, hE⟩
    have hLN : ∀ k : Nat, k ≤ 5 → ∃ z : TNote, ∃ cd : Int, (aboutL xs7 k = [] → cd = 3 ∧ lastCount (aboutL xs7 k) = 0) ∧ (0 < (aboutL xs7 k).length → cd = 0 ∧ z.tray = k ∧ ((aboutL xs7 k).map (·.count))[(aboutL xs7 k).length - 1]? = some z.count ∧ lastCount (aboutL xs7 k) = z.count) ∧ ∀ u, Pow u → Errs u → MaxL u → Does Tryd.prog 9 [.string (logB xs7), .int .i64 k] u (fun v w' => v = .tuple #[.agg ⟨z.enc⟩, .int .i64 cd] ∧ Ext u w') := fun k hk => by
      refine ⟨(lastM (logB xs7) k).1, (lastM (logB xs7) k).2, fun he => jo_last_none q10 hl7 (by omega) (by omega) he, fun he => ?_, fun u hT hE hM => impl_LastNote (log := logB xs7) (t := (k : Int)) (by omega) (by simp only [i64ok]; omega) hT hE hM⟩
      obtain ⟨x, hx, e, ht, hc⟩ := jo_last q10 hl7 (t := (k : Int)) (by omega) (by omega) he
      rw [e]
      exact ⟨rfl, ht, by rw [List.getElem?_map, hx]; rfl, hc⟩
    have hsb := sumTo_b q10
    have hmb := manyTo_le xs7
    have hma := many_all q10
    generalize hlog : logB xs7 = log at *
    conv => whnf
    refine hJ.mono ?_
    rintro _ w16 ⟨rfl, e15⟩
    have E16 := (Ext.trans e13 e15)
    conv => whnf
    refine (hCN _ (hT.ext E16) (hE.ext E16) (hM.ext E16)).mono ?_
    rintro _ w18 ⟨rfl, e17⟩
    have E18 := (Ext.trans E16 e17)
    conv => whnf
    refine LoopK.rule [3, 4, 6, 8, 9, 10] (fun (k : Nat) vs w' => vs = [.slice a'4 n'5 c'6, .string log, .int .i64 (sumTo xs7 6), .int .i64 (sumTo xs7 k), .int .i64 (manyTo xs7 k), .int .i64 k] ∧ k ≤ 6 ∧ Ext w w') (fun k => 6 - k) tab tabok (by kernel_rfl) 0 ⟨rfl, by omega, E18⟩ ?_
    rintro k g _ w3 ⟨rfl, hk, hE3⟩
    have hsb1 := hsb k
    have hmb1 := hmb k
    conv => whnf
    with_reducible refine IfB.dec (fun h4 => ?_) (fun h4 => ?_)
    · have hC1 := hCH k (by omega)
      obtain ⟨z, cd, hz0, hz1, hL1⟩ := hLN k (by omega)
      have hs1 : sumTo xs7 (k + 1) = sumTo xs7 k + lastCount (aboutL xs7 k) := rfl
      have hm1 : manyTo xs7 (k + 1) = manyTo xs7 k + (aboutL xs7 k).length := rfl
      have hsb2 := hsb (k + 1)
      have hmb2 := hmb (k + 1)
      by_cases he : aboutL xs7 k = []
      · obtain ⟨rfl, hlc⟩ := hz0 he
        have hz : (aboutL xs7 k).length = 0 := by rw [he]; rfl
        generalize hab : (aboutL xs7 k).length = ab at *
        subst hz
        conv => whnf
        refine (hC1 _ (hT.ext hE3) (hE.ext hE3) (hM.ext hE3)).mono ?_
        rintro _ w24 ⟨a19, c20, rfl, N21, O22, e23⟩
        conv => whnf
        refine (hL1 _ (hT.ext (Ext.trans hE3 e23)) (hE.ext (Ext.trans hE3 e23)) (hM.ext (Ext.trans hE3 e23))).mono ?_
        rintro _ w26 ⟨rfl, e25⟩
        conv => whnf
        refine SemK.alloc (z := .agg #[.int .i64 0, .int .i64 0, .int .i64 0, .string { data := #[] }]) (by kernel_rfl) ?_
        intro b27 w27 g27 l27 e27 B27
        conv => whnf
        refine SemK.storeAll (by kernel_rfl) B27 (vs := z.enc) rfl rfl (by simp [TNote.enc, cellish]) ?_
        intro w28 c28 B28
        conv => whnf
        refine SemK.neqB (by kernel_rfl) ?_
        conv => whnf
        refine SemK.add (((manyTo xs7 k + 0 : Nat) : Int)) (by omega) (by omega) (by omega) ?_
        conv => whnf
        refine SemK.add (((k + 1 : Nat) : Int)) (by omega) (by omega) (by omega) ?_
        conv => whnf
        refine ⟨k + 1, by omega, ?_, by omega, ?_⟩
        · rw [hs1, hlc, hm1, Int.add_zero]; rfl
        · exact (Ext.but_trans (Ext.trans (Ext.trans (Ext.trans hE3 e23) e25) e27) c28.but (Nat.le_trans (Below.size (Ext.trans (Ext.trans hE3 e23) e25)) g27))
      · obtain ⟨rfl, ht, hg, hlc⟩ := hz1 (List.length_pos_iff.2 he)
        have hp := List.length_pos_iff.2 he
        generalize hab : (aboutL xs7 k).length = ab at *
        conv => whnf
        refine (hC1 _ (hT.ext hE3) (hE.ext hE3) (hM.ext hE3)).mono ?_
        rintro _ w24 ⟨a19, c20, rfl, N21, O22, e23⟩
        conv => whnf
        refine (hL1 _ (hT.ext (Ext.trans hE3 e23)) (hE.ext (Ext.trans hE3 e23)) (hM.ext (Ext.trans hE3 e23))).mono ?_
        rintro _ w26 ⟨rfl, e25⟩
        conv => whnf
        refine SemK.alloc (z := .agg #[.int .i64 0, .int .i64 0, .int .i64 0, .string { data := #[] }]) (by kernel_rfl) ?_
        intro b27 w27 g27 l27 e27 B27
        conv => whnf
        refine SemK.storeAll (by kernel_rfl) B27 (vs := z.enc) rfl rfl (by simp [TNote.enc, cellish]) ?_
        intro w28 c28 B28
        conv => whnf
        refine SemK.neqB (by kernel_rfl) ?_
        conv => whnf
        with_reducible refine IfB.nsplit (fun h29 => ?_) (fun h29 => ?_)
        · conv => whnf
          exact ⟨by simp_all, (Ext.but_trans (Ext.trans (Ext.trans (Ext.trans hE3 e23) e25) e27) c28.but (Nat.le_trans (Below.size (Ext.trans (Ext.trans hE3 e23) e25)) g27))⟩
        · conv => whnf
          refine SemK.add (((manyTo xs7 k + ab : Nat) : Int)) (by omega) (by omega) (by omega) ?_
          conv => whnf
          refine IfB.yes (by omega) ?_
          conv => whnf
          refine DrawK.det tabok mixed (by kernel_rfl) (by kernel_rfl) ?_
          conv => whnf
          refine DSemK.load1 (by kernel_rfl) B28.cells (k := 0) rfl ?_
          conv => whnf
          refine IfB.eqf (by simp [*]; done) ?_
          conv => whnf
          refine DSemK.load1 (by kernel_rfl) B28.cells (k := 1) rfl ?_
          conv => whnf
          refine DSemK.sub (((ab - 1 : Nat) : Int)) (by omega) (by omega) (by omega) ?_
          conv => whnf
          obtain ⟨b31, rfl⟩ := ((O22.ext (Ext.but_trans (Ext.trans e25 e27) c28.but (Nat.le_trans (Below.size e25) g27)))).some (by omega)
          have lb31 : b31 < w24.heap.size := O22.lt _ rfl
          refine DSemK.indexOwn (sz := 1) (by kernel_rfl) (ab - 1) rfl (by omega) ?_
          have hb31 := Own.elem eI_len (O22.ext (Ext.but_trans (Ext.trans e25 e27) c28.but (Nat.le_trans (Below.size e25) g27))) hg
          conv => whnf
          refine DSemK.load0 (by kernel_rfl) hb31 rfl ?_
          conv => whnf
          intro w32 e32
          conv => whnf
          refine IfB.eqf (by simp; done) ?_
          conv => whnf
          refine SemK.load1 (by kernel_rfl) (B28.ext e32).cells (k := 1) rfl ?_
          conv => whnf
          refine SemK.add _ rfl (by omega) (by omega) ?_
          conv => whnf
          refine SemK.add (((k + 1 : Nat) : Int)) (by omega) (by omega) (by omega) ?_
          conv => whnf
          refine ⟨k + 1, by omega, ?_, by omega, ?_⟩
          · rw [hs1, hlc, hm1]; rfl
          · exact (Ext.trans (Ext.but_trans (Ext.trans (Ext.trans (Ext.trans hE3 e23) e25) e27) c28.but (Nat.le_trans (Below.size (Ext.trans (Ext.trans hE3 e23) e25)) g27)) e32)
    · have kn : k = 6 := by omega
      subst kn
      conv => whnf
      refine IfB.yes (by omega) ?_
      conv => whnf
      exact ⟨by simp [*], hE3⟩
set_option maxRecDepth 100000 in
theorem open_LastNotes {H : Type} {enc : TypeId × Value → H} {base : Nat} (W : World) (args : List Value) (ds : List (DataW H)) (p : List MemPlace) (hA : DataW.TrodAll enc Tryd.prog W 0 (fun _ => true) true (Tryd.f3).params.toList args ds p)
    (hv : ∀ (j : Nat) t v, (Tryd.f3).params[j]? = some t → args[j]? = some v → Value.okWide Tryd.prog W .any base t v) (hL : laidMet Tryd.prog Rows.fnLastNotesRow.laid W) (_hsh : W.ShapedOpen Tryd.prog) : Does Tryd.prog 3 args W (fun v w' => v = .bool true ∧ Ext W w') := by
  have e : (Tryd.f3).params.toList = [22] := rfl
  rw [e] at hA
  obtain ⟨v0, vs0, d0, ds0, p0, q0, rfl, rfl, rfl, g0, r0⟩ := trodAll_cons hA
  obtain ⟨rfl, rfl, rfl⟩ := trodAll_nil r0
  obtain ⟨a0, n0, c0, x0, rfl, h0, ok0⟩ := open_arr (encα := eB) (ok := fun _ => True) (sz := 1) Tryd.underlying22 (by kernel_rfl) (by omega) (fun n cs x h => open_byte Tryd.underlying5 h) eB_len (hv 0 22 v0 (by rw [← Array.getElem?_toList, e]; rfl) rfl) g0
  exact law_LastNotes h0 (Pow.of_laid hL.tail.tail) (Errs.of_laid hL.tail.tail.tail.tail.tail hL.tail.tail.tail.tail) (MaxL.of_shaped _hsh)
set_option maxRecDepth 100000 in
theorem FnLastNotes_lifted (os : Os) (started : os.Started) (H : Type) (enc : TypeId × Value → H) (F : Stop.Interp) :
    ReturnsInHanded {} Tryd.checked os 3 .any ((OpenSpec.ofChange Rows.fnLastNotesSpec).preRow enc Tryd.prog Tryd.f3 Rows.fnLastNotesRow.domain false Rows.fnLastNotesRow.laid) (((OpenSpec.ofChange Rows.fnLastNotesSpec).at F).post enc Tryd.prog Tryd.f3 false true false false) := by
  refine returnsInHanded_of_row (C := Tryd.checked) (s := OpenSpec.ofChange Rows.fnLastNotesSpec) law_own started (by kernel_rfl) Tryd.func3
    (witness_row_sh (enc := enc) (C := Tryd.checked) (World.laidAll Tryd.prog os Rows.fnLastNotesRow.laid) #[.slice none 0 0] 8 (World.laidAll_os _ _ _) (World.shaped_of_ZipB (by kernel_rfl) (by kernel_rfl)) (by kernel_rfl) (by kernel_rfl) (by kernel_rfl)
      (by rw [MakeChecks.laidMetH_plain _ _ _ (by kernel_rfl)]; exact laidMet_laidAll _ (by kernel_rfl) (by kernel_rfl))) ?_
  intro W base args ds gs before hval hW _ _ _ hL hsh _
  rw [MakeChecks.laidMetH_plain _ _ _ (by kernel_rfl)] at hL
  exact law_contract_at (P := Tryd.prog) (fn := Tryd.f3) (s := Rows.fnLastNotesSpec) rfl rfl Tryd.underlying4 law_laid (by kernel_rfl)
    (fun ds h => match ds, h with | [d0], _ => ⟨rfl, rfl, rfl⟩) W args ds gs before (fun p hA hv => open_LastNotes W args.toList ds p hA hv hL hsh) hval hW
theorem FnLastNotes_closed : joinedFacts Tryd.prog 3 Tryd.f3 (OpenSpec.ofChange Rows.fnLastNotesSpec).bare Rows.fnLastNotesRow = true := by
  unfold joinedFacts
  exact andI (andI (andI (andI (andI (andI (andI (andI (by kernel_rfl) seat_heard) seat_enter) seat_lifts) seat_make) (by kernel_rfl)) (by kernel_rfl)) (by kernel_rfl)) (by kernel_rfl)
theorem FnLastNotes_named : Tryd.prog.funcNamed Rows.fnLastNotesRow.func = some 3 := by kernel_rfl
theorem FnLastNotes_row : Rows.FnLastNotesSaid :=
  OpenClaim.holds_of_cond 3 Tryd.f3 rfl rfl rfl rfl rfl rfl rfl ⟨rfl, rfl, rfl, rfl, rfl⟩ rfl rfl rfl rfl rfl FnLastNotes_named Tryd.func3 FnLastNotes_closed
    (of_decide_eq_true (by kernel_rfl)) (by unfold Func.isWrapper; first | (rw [if_pos (by decide +kernel)]; kernel_rfl) | (rw [if_neg (by decide +kernel)]; exact ⟨rfl, rfl⟩))
    (fun os started H enc _ F => by rw [OpenClaim.pre_eq_preRow]; exact FnLastNotes_lifted os started H enc F)
theorem FnLastNotes_goes : false = Rows.fnLastNotesRow.goesBy Tryd.pinned.checked.prog := by kernel_rfl
theorem FnLastNotes_wf : Rows.fnLastNotesRow.wfByText (OpenSpec.ofChange Rows.fnLastNotesSpec) = true := by kernel_rfl
theorem FnLastNotes_plain (f : FuncId) (fn : Func) (hf : Tryd.pinned.checked.prog.funcNamed Rows.fnLastNotesRow.func = some f) (hfn : Tryd.pinned.checked.prog.funcs[f]? = some fn) :
    true = Tryd.pinned.checked.prog.looks [] ∧ ∀ (j : Nat) t, fn.params[j]? = some t → Tryd.pinned.checked.prog.wantsStandIn t = false := by
  obtain rfl : f = 3 := Option.some.inj (FnLastNotes_named.symm.trans hf) |>.symm
  obtain rfl : fn = Tryd.f3 := (Option.some.inj (Tryd.func3.symm.trans hfn)).symm
  refine ⟨seat_looks, fun j t ht => ?_⟩
  have hall : (Tryd.f3.params.toList.all fun u => !Tryd.prog.wantsStandIn u) = true := by kernel_rfl
  exact (show Tryd.prog.wantsStandIn t = false by simpa using List.all_eq_true.1 hall t (by simpa using Array.mem_of_getElem? ht))
theorem FnLastNotes_holds : Rows.FnLastNotesCardSaid :=
  Claim7.holds_tied_plain_at .later [] _ _ _ _ FnLastNotes_row (fun _ h => by cases h) FnLastNotes_wf (fun _ h => by cases h) fnLastNotes_row_tie rfl ⟨rfl, rfl⟩ seat_main rfl FnLastNotes_plain FnLastNotes_goes

end Go.Proofs.YtehofnnghbcjgaaDoor
