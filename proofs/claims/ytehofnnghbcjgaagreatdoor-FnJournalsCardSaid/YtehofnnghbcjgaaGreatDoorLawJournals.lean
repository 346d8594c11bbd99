/- The statement on the law Journals is proved, as it is given: for every input the law returns true and each argument reads as before. No conditions. -/
import Derived.Test.YtehofnnghbcjgaaGreatDoorDrawN
import Derived.Test.YtehofnnghbcjgaaGreatDoorJourA
import Derived.Test.YtehofnnghbcjgaaGreatDoorNotesL
import Derived.Test.YtehofnnghbcjgaaGreatDoorVcApp
import Derived.Test.YtehofnnghbcjgaaGreatDoorVcByte
import Derived.Test.YtehofnnghbcjgaaGreatDoorShelf
import Derived.Test.YtehofnnghbcjgaaGreatDoorSeatMain
import Derived.Test.YtehofnnghbcjgaaGreatDoorTie
import Derived.Test.YtehofnnghbcjgaaGreatDoorCards
import Derived.Test.YtehofnnghbcjgaaGreatDoorLiftBase
namespace Go.Proofs.YtehofnnghbcjgaaGreatDoor
open Go Go.Shelf Go.Proofs Go.RowKit Go.Vc Go.M Go.ChangeShapes Go.WideShapes Go.ChangeAt
open Go.ChangeMaps (open_string)
set_option maxRecDepth 100000 in
set_option linter.unusedVariables false in
theorem law_Journals {w : World} {a0 : Option Addr} {n0 c0 : Nat} {x0 : List UInt8} (h0 : Arr eB 1 w a0 n0 x0) {a1 : Option Addr} {n1 c1 : Nat} {x1 : List UInt8} (h1 : Arr eB 1 w a1 n1 x1) (hT : Pow w) (hE : Errs w) (hM : MaxL w) : Does Tryz.prog 3 [.slice a0 n0 c0, .slice a1 n1 c1] w (fun v w' => v = .bool true ∧ Ext w w') := by
  have len0 := h0.len
  refine Does.of_vc tabok Tryz.func3 rfl rfl rfl (by kernel_rfl) ?_; conv => whnf
  refine (laws_a2Long _ _ _ _ _ _ _).mono ?_
  rintro _ _ ⟨r2, rfl, rfl⟩
  conv => whnf
  with_reducible refine IfB.split (fun h4 => ?_) (fun h4 => ?_)
  · conv => whnf
    exact ⟨rfl, Ext.refl _⟩
  · conv => whnf
    refine (spec_A2Notes h0).mono ?_
    rintro _ w15 ⟨a'5, n'6, c'7, xs8, rfl, q9, q10, q11, N12, O13, e14⟩
    have E15 := e14
    have lnO13 := O13.1
    have hl7 : xs8.length ≤ 7 := by omega
    have hls := log_size q11
    have hJ := impl_JournalOf (O13.arr TNote.enc_len) (c := c'7) (fun x hx => noteB_ok (q11 x hx)) (by omega) (hT.ext e14)
    rw [jo_ok q11 hl7] at hJ
    have hNO : ∀ u, Pow u → Errs u → MaxL u → Does Tryz.prog 9 [.string (logB xs8)] u (fun v w' => ∃ a c, v = .tuple #[.slice a n'6 c, .int .i64 0] ∧ NewAt u.heap.size a ∧ Own TNote.enc w' a n'6 31 xs8 ∧ Ext u w') := fun u hT hE hM => by
      have h := impl_NotesOf (log := logB xs8) (by omega) hT hE hM
      rw [jo_notes q11 hl7] at h
      refine h.mono ?_
      rintro v w' ⟨a, n, c, rfl, hN, hO, hE⟩
      have hn := hO.1
      obtain rfl : n = n'6 := by dsimp only at hn; omega
      exact ⟨a, c, rfl, hN, hO, hE⟩
    have hAN : ∀ k x, xs8[k]? = some x → ∀ u, Pow u → Errs u → MaxL u → Does Tryz.prog 10 [.string (logB (xs8.take k)), .agg ⟨x.enc⟩] u (fun v w' => v = .tuple #[.string (logB (xs8.take (k + 1))), .int .i64 0] ∧ Ext u w') := fun k x hx u hT hE hM => by
      have hk := log_extract (xs := xs8) (k := k)
      have h := impl_AddNote (log := logB (xs8.take k)) (by omega) (noteB_ok (q11 x (List.mem_of_getElem? hx))) hT hE hM
      rw [add_step q11 hl7 hx] at h
      exact h
    have hEX := fun k => log_extract (xs := xs8) (k := k)
    have hCR := fun c => cut_recover q11 hl7 (c := c)
    have hz0 : logB (xs8.take 0) = { data := #[] } := rfl
    have hzn : logB (xs8.take n'6) = logB xs8 := by rw [List.take_of_length_le (by omega)]
    have hlx : ∀ k, k ≤ n'6 → (logB (xs8.take k)).size ≤ 707 := fun k _ => by have := (hEX k).1; omega
    generalize hlog : logB xs8 = log at *
    conv => whnf
    refine hJ.mono ?_
    rintro _ w17 ⟨rfl, e16⟩
    have E17 := (Ext.trans e14 e16)
    conv => whnf
    refine (hNO _ (hT.ext E17) (hE.ext E17) (hM.ext E17)).mono ?_
    rintro _ w24 ⟨a18, c20, rfl, N21, O22, e23⟩
    have E24 := (Ext.trans E17 e23)
    conv => whnf
    have O13b := O13.ext (Ext.trans e16 e23)
    refine IfB.eqf (by simp; done) ?_
    conv => whnf
    refine LoopK.rule [1, 5, 6, 8, 10, 11] (fun (k : Nat) vs w' => vs = [.slice a1 n1 c1, .slice a'5 n'6 c'7, .string log, .slice a18 n'6 c20, .string (logB (xs8.take k)), .int .i64 k] ∧ k ≤ n'6 ∧ Ext w24 w') (fun k => n'6 - k) tab tabok (by kernel_rfl) 0 ⟨by rw [hz0]; rfl, by omega, Ext.refl _⟩ ?_
    rintro k g _ w3 ⟨rfl, hk, hX2⟩
    have hX := Ext.trans E24 hX2
    rcases Nat.lt_or_ge k n'6 with hkn | hkn
    · obtain ⟨x, hx⟩ := get_of_lt (l := xs8) (k := k) (by omega)
      have hA := hAN k x hx
      have hxo := noteB_ok (q11 x (List.mem_of_getElem? hx))
      obtain ⟨he1, he2⟩ := hEX (k + 1)
      generalize hlk : logB (xs8.take (k + 1)) = nx at *
      conv => whnf
      refine IfB.yes (by omega) ?_
      conv => whnf
      refine DrawK.det tabok mixed (by kernel_rfl) (by kernel_rfl) ?_
      conv => whnf
      obtain ⟨b26, rfl⟩ := ((O22.ext hX2)).some (by omega)
      have lb26 : b26 < w24.heap.size := O22.lt _ rfl
      refine DSemK.indexOwn (sz := 4) (by kernel_rfl) k rfl (by omega) ?_
      have hb26 := Own.elem TNote.enc_len (O22.ext hX2) hx
      conv => whnf
      refine DSemK.loadAgg (n := 4) (by kernel_rfl) hb26 rfl ?_
      conv => whnf
      obtain ⟨b28, rfl⟩ := ((O13b.ext hX2)).some (by omega)
      have lb28 : b28 < w24.heap.size := O13b.lt _ rfl
      refine DSemK.indexOwn (sz := 4) (by kernel_rfl) k rfl (by omega) ?_
      have hb28 := Own.elem TNote.enc_len (O13b.ext hX2) hx
      conv => whnf
      refine DSemK.loadAgg (n := 4) (by kernel_rfl) hb28 rfl ?_
      conv => whnf
      refine DSemK.neqFlat (ks := [false, false, false, true]) (by kernel_rfl) (by kernel_rfl) (TNote.flat hxo) (TNote.flat hxo) ?_
      rw [TNote.eq_flat, decide_eq_true rfl]
      conv => whnf
      intro w29 e29
      conv => whnf
      refine SemK.indexOwn (sz := 4) (by kernel_rfl) k rfl (by omega) ?_
      have hb31 := Own.elem TNote.enc_len (O13b.ext (Ext.trans hX2 e29)) hx
      conv => whnf
      refine SemK.loadAgg (n := 4) (by kernel_rfl) hb31 rfl ?_
      conv => whnf
      refine (hA _ (hT.ext (Ext.trans hX e29)) (hE.ext (Ext.trans hX e29)) (hM.ext (Ext.trans hX e29))).mono ?_
      rintro _ w33 ⟨rfl, e32⟩
      conv => whnf
      refine IfB.no (by omega) ?_
      conv => whnf
      refine SemK.sliceStr (k := .i64) (k' := .i64) (by kernel_rfl) (0) (nx.size) (by omega) (by omega) (.inl ⟨rfl, rfl⟩) (.inr (by rfl)) ?_
      conv => whnf
      refine IfB.eqf (by simp [*]; done) ?_
      conv => whnf
      refine SemK.add (((k + 1 : Nat) : Int)) (by omega) (by omega) (by omega) ?_
      conv => whnf
      refine ⟨k + 1, by omega, by rw [hlk]; rfl, by omega, ?_⟩
      exact (Ext.trans (Ext.trans hX2 e29) e32)
    · obtain rfl : k = n'6 := by omega
      rw [hzn]
      conv => whnf
      refine IfB.no (by omega) ?_
      conv => whnf
      refine (laws_a2At (h1.ext hX) (by omega)).mono ?_
      rintro _ _ ⟨r25, rfl, q26, q27, rfl⟩
      conv => whnf
      refine (laws_a2At (h1.ext hX) (by omega)).mono ?_
      rintro _ _ ⟨r29, rfl, q30, q31, rfl⟩
      conv => whnf
      refine SemK.add _ rfl (by omega) (by omega) ?_
      conv => whnf
      refine SemK.min2 ?_
      conv => whnf
      obtain ⟨cc, hcc, hcl⟩ : ∃ cc : Nat, min (r25 + r29) (log.size : Int) = cc ∧ cc ≤ log.size := ⟨(min (r25 + r29) (log.size : Int)).toNat, by omega, by omega⟩
      rw [hcc]
      obtain ⟨m, hmc, hCk, hRec, hsz, ll, ch, hno, hll⟩ := hCR cc hcl
      have hcs : (log.extract 0 cc).size ≤ 1048576 := by simp; omega
      have hms : (log.extract 0 m).size ≤ 1048576 := by simp; omega
      have hR : ∀ u, Pow u → Errs u → MaxL u → Does Tryz.prog 12 [.string (log.extract 0 cc)] u (fun v w' => v = .tuple #[.string (log.extract 0 m), .int .i64 ((cc : Int) - m), .int .i64 0] ∧ Ext u w') := fun u hT hE hM => by
        have h := impl_RecoverJournal hcs hT hE hM
        rw [hRec] at h
        exact h
      have hK : ∀ u, Pow u → Errs u → MaxL u → Does Tryz.prog 13 [.string (log.extract 0 cc)] u (fun v w' => v = .tuple #[.int .i64 m, .int .i64 0] ∧ Ext u w') := fun u hT hE hM => by
        have h := impl_CheckJournal hcs hT hE hM
        rw [hCk] at h
        exact h
      have hS : ∀ u, Ext w u → Does Tryz.prog 14 [.string (log.extract 0 m)] u (fun v w' => ∃ a n c, v = .tuple #[.slice a n c, .int .i64 0] ∧ n = ll.length ∧ Ext u w') := fun u _ => by
        have h := spec_NotesOf hms u
        rw [hno] at h
        refine h.mono ?_
        rintro v w' ⟨a, n, c, rfl, hN, hO, hE⟩
        exact ⟨a, n, c, rfl, hO.1.symm, hE⟩
      conv => whnf
      refine SemK.sliceStr (k := .i64) (k' := .i64) (by kernel_rfl) (0) (cc) (by omega) (by omega) (.inl ⟨rfl, rfl⟩) (.inr (by rfl)) ?_
      conv => whnf
      refine (hR _ (hT.ext hX) (hE.ext hX) (hM.ext hX)).mono ?_
      rintro _ w33 ⟨rfl, e32⟩
      conv => whnf
      refine SemK.sliceStr (k := .i64) (k' := .i64) (by kernel_rfl) (0) (cc) (by omega) (by omega) (.inl ⟨rfl, rfl⟩) (.inr (by rfl)) ?_
      conv => whnf
      refine (hK _ (hT.ext (Ext.trans hX e32)) (hE.ext (Ext.trans hX e32)) (hM.ext (Ext.trans hX e32))).mono ?_
      rintro _ w35 ⟨rfl, e34⟩
      conv => whnf
      refine IfB.eqf (by simp; done) ?_
      conv => whnf
      refine IfB.eqf (by simp [*]; done) ?_
      conv => whnf
      refine IfB.no (by omega) ?_
      conv => whnf
      refine SemK.sliceStr (k := .i64) (k' := .i64) (by kernel_rfl) (0) (m) (by omega) (by omega) (.inl ⟨rfl, rfl⟩) (.inr (by rfl)) ?_
      conv => whnf
      refine IfB.eqf (by simp; done) ?_
      conv => whnf
      refine SemK.sub (((cc - (m) : Nat) : Int)) (by omega) (by omega) (by omega) ?_
      conv => whnf
      with_reducible refine IfB.ndec (fun h36 => ?_) (fun h36 => ?_)
      · conv => whnf
        exact ⟨by omega, (Ext.trans (Ext.trans hX e32) e34)⟩
      · conv => whnf
        refine (hS _ (Ext.trans (Ext.trans hX e32) e34)).mono ?_
        rintro _ w41 ⟨a37, n38, c39, rfl, rfl, e40⟩
        conv => whnf
        exact ⟨by simp_all, (Ext.trans (Ext.trans (Ext.trans hX e32) e34) e40)⟩
set_option maxRecDepth 100000 in
theorem open_Journals {H : Type} {enc : TypeId × Value → H} {base : Nat} (W : World) (args : List Value) (ds : List (DataW H)) (p : List MemPlace) (hA : DataW.TrodAll enc Tryz.prog W 0 (fun _ => true) true (Tryz.f3).params.toList args ds p)
    (hv : ∀ (j : Nat) t v, (Tryz.f3).params[j]? = some t → args[j]? = some v → Value.okWide Tryz.prog W .any base t v) (hL : laidMet Tryz.prog Rows.fnJournalsRow.laid W) (_hsh : W.ShapedOpen Tryz.prog) : Does Tryz.prog 3 args W (fun v w' => v = .bool true ∧ Ext W w') := by
  have e : (Tryz.f3).params.toList = [22, 22] := rfl
  rw [e] at hA
  obtain ⟨v0, vs0, d0, ds0, p0, q0, rfl, rfl, rfl, g0, r0⟩ := trodAll_cons hA
  obtain ⟨v1, vs1, d1, ds1, p1, q1, rfl, rfl, rfl, g1, r1⟩ := trodAll_cons r0
  obtain ⟨rfl, rfl, rfl⟩ := trodAll_nil r1
  obtain ⟨a0, n0, c0, x0, rfl, h0, ok0⟩ := open_arr (encα := eB) (ok := fun _ => True) (sz := 1) Tryz.underlying22 (by kernel_rfl) (by omega) (fun n cs x h => open_byte Tryz.underlying5 h) eB_len (hv 0 22 v0 (by rw [← Array.getElem?_toList, e]; rfl) rfl) g0
  obtain ⟨a1, n1, c1, x1, rfl, h1, ok1⟩ := open_arr (encα := eB) (ok := fun _ => True) (sz := 1) Tryz.underlying22 (by kernel_rfl) (by omega) (fun n cs x h => open_byte Tryz.underlying5 h) eB_len (hv 1 22 v1 (by rw [← Array.getElem?_toList, e]; rfl) rfl) g1
  exact law_Journals h0 h1 (Pow.of_laid hL.tail.tail) (Errs.of_laid hL.tail.tail.tail.tail.tail hL.tail.tail.tail.tail) (MaxL.of_shaped _hsh)
set_option maxRecDepth 100000 in
theorem FnJournals_lifted (os : Os) (started : os.Started) (H : Type) (enc : TypeId × Value → H) (F : Stop.Interp) :
    ReturnsInHanded {} Tryz.checked os 3 .any ((OpenSpec.ofChange Rows.fnJournalsSpec).preRow enc Tryz.prog Tryz.f3 Rows.fnJournalsRow.domain false Rows.fnJournalsRow.laid) (((OpenSpec.ofChange Rows.fnJournalsSpec).at F).post enc Tryz.prog Tryz.f3 false true false false) := by
  refine returnsInHanded_of_row (C := Tryz.checked) (s := OpenSpec.ofChange Rows.fnJournalsSpec) law_own started (by kernel_rfl) Tryz.func3
    (witness_row_sh (enc := enc) (C := Tryz.checked) (World.laidAll Tryz.prog os Rows.fnJournalsRow.laid) #[.slice none 0 0,.slice none 0 0] 8 (World.laidAll_os _ _ _) (World.shaped_of_ZipB (by kernel_rfl) (by kernel_rfl)) (by kernel_rfl) (by kernel_rfl) (by kernel_rfl)
      (by rw [MakeChecks.laidMetH_plain _ _ _ (by kernel_rfl)]; exact laidMet_laidAll _ (by kernel_rfl) (by kernel_rfl))) ?_
  intro W base args ds gs before hval hW _ _ _ hL hsh _
  rw [MakeChecks.laidMetH_plain _ _ _ (by kernel_rfl)] at hL
  exact law_contract_at (P := Tryz.prog) (fn := Tryz.f3) (s := Rows.fnJournalsSpec) rfl rfl Tryz.underlying4 law_laid (by kernel_rfl)
    (fun ds h => match ds, h with | [d0, d1], _ => ⟨rfl, rfl, rfl⟩) W args ds gs before (fun p hA hv => open_Journals W args.toList ds p hA hv hL hsh) hval hW
theorem FnJournals_closed : joinedFacts Tryz.prog 3 Tryz.f3 (OpenSpec.ofChange Rows.fnJournalsSpec).bare Rows.fnJournalsRow = true := by
  unfold joinedFacts
  exact andI (andI (andI (andI (andI (andI (andI (andI (by kernel_rfl) seat_heard) seat_enter) seat_lifts) seat_make) (by kernel_rfl)) (by kernel_rfl)) (by kernel_rfl)) (by kernel_rfl)
theorem FnJournals_named : Tryz.prog.funcNamed Rows.fnJournalsRow.func = some 3 := by kernel_rfl
theorem FnJournals_row : Rows.FnJournalsSaid :=
  OpenClaim.holds_of_cond 3 Tryz.f3 rfl rfl rfl rfl rfl rfl rfl ⟨rfl, rfl, rfl, rfl, rfl⟩ rfl rfl rfl rfl rfl FnJournals_named Tryz.func3 FnJournals_closed
    (of_decide_eq_true (by kernel_rfl)) (by unfold Func.isWrapper; first | (rw [if_pos (by decide +kernel)]; kernel_rfl) | (rw [if_neg (by decide +kernel)]; exact ⟨rfl, rfl⟩))
    (fun os started H enc _ F => by rw [OpenClaim.pre_eq_preRow]; exact FnJournals_lifted os started H enc F)
theorem FnJournals_goes : false = Rows.fnJournalsRow.goesBy Tryz.pinned.checked.prog := by kernel_rfl
theorem FnJournals_wf : Rows.fnJournalsRow.wfByText (OpenSpec.ofChange Rows.fnJournalsSpec) = true := by kernel_rfl
theorem FnJournals_plain (f : FuncId) (fn : Func) (hf : Tryz.pinned.checked.prog.funcNamed Rows.fnJournalsRow.func = some f) (hfn : Tryz.pinned.checked.prog.funcs[f]? = some fn) :
    true = Tryz.pinned.checked.prog.looks [] ∧ ∀ (j : Nat) t, fn.params[j]? = some t → Tryz.pinned.checked.prog.wantsStandIn t = false := by
  obtain rfl : f = 3 := Option.some.inj (FnJournals_named.symm.trans hf) |>.symm
  obtain rfl : fn = Tryz.f3 := (Option.some.inj (Tryz.func3.symm.trans hfn)).symm
  refine ⟨seat_looks, fun j t ht => ?_⟩
  have hall : (Tryz.f3.params.toList.all fun u => !Tryz.prog.wantsStandIn u) = true := by kernel_rfl
  exact (show Tryz.prog.wantsStandIn t = false by simpa using List.all_eq_true.1 hall t (by simpa using Array.mem_of_getElem? ht))
theorem FnJournals_holds : Rows.FnJournalsCardSaid :=
  Claim7.holds_tied_plain_at .later [] _ _ _ _ FnJournals_row (fun _ h => by cases h) FnJournals_wf (fun _ h => by cases h) fnJournals_row_tie rfl ⟨rfl, rfl⟩ seat_main rfl FnJournals_plain FnJournals_goes

end Go.Proofs.YtehofnnghbcjgaaGreatDoor
