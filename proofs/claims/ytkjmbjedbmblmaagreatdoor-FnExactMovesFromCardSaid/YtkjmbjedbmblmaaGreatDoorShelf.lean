/- Contracts of functions of the given program, of the reference and of the laws: each says what a call returns, for all arguments that meet the premises that the theorem itself names. -/
import Derived.Test.YtkjmbjedbmblmaaGreatDoorBase
import Derived.Test.YtkjmbjedbmblmaaGreatDoorNum
import Derived.Test.YtkjmbjedbmblmaaGreatDoorLiftBase
import Derived.Test.YtkjmbjedbmblmaaGreatDoorVcTied
import Derived.Shelf.Strconv.Itoa4
import Derived.Shelf.Strconv.ParseIntPublic10
import Derived.Shelf.Strconv.ErrVarParseInt
import Derived.Shelf.Strings.SplitShaped
import Derived.Shelf.Strings.OnBuilder
import Derived.Shelf.Strings.Cut
import Derived.Shelf.Small.Strs
import Derived.Shelf.Strings.Prefix
namespace Go.Proofs.YtkjmbjedbmblmaaGreatDoor
open Go Go.RowKit Go.Vc Go.M Go.Shelf Go.Proofs
theorem ext_var {w w' : World} {n : String} {cs : Array Value} (h : w.var? Tryz.prog n = some cs) (e : Ext w w') : w'.var? Tryz.prog n = some cs := by
  unfold World.var? at *
  cases hg : (Tryz.prog).globalNamed n with
  | none => simp [hg] at h
  | some g =>
    simp only [hg, Option.bind_some] at h ⊢
    have hlt : g < w.heap.size := by
      rcases Nat.lt_or_ge g w.heap.size with h' | h'
      · exact h'
      · rw [Array.getElem?_eq_none h'] at h; simp at h
    rw [e.block g hlt]
    exact h
theorem ext_cell {w w' : World} {a : Addr} {v : Value} (h : w.cell? a = some v) (e : Ext w w') : w'.cell? a = some v := by
  rw [cell_of_block (e.block a.block (cell_lt h))]
  exact h
theorem flat_eS : ∀ xs : List ByteArray, flat eS xs = xs.map Value.string
  | [] => rfl
  | x :: xs => by
    have := flat_eS xs
    simp only [flat, eS, List.flatMap_cons, List.map_cons] at *
    rw [this]
    rfl
theorem ext_grow (w : World) (k : Nat) (os : Array Obj) : Ext w (Sort.grow (w.drewN k) os) := by
  refine ⟨rfl, rfl, rfl, ?_, fun i hi => ?_⟩
  · show w.heap.size ≤ (w.heap ++ os).size
    simp
  · show (w.heap ++ os)[i]? = w.heap[i]?
    rw [Array.getElem?_append, if_pos hi]
/-- the library's table of powers stands as it was laid -/
def Pow (w : World) : Prop := Lib.TabIs Tryz.prog w (Rows.fnCensusRow.named.getD 0 Rows.fnCensusRow.spec) .u64 Lib.pow10Tab
theorem Pow.ext {w w' : World} (h : Pow w) (e : Ext w w') : Pow w' := ext_var h e
theorem Pow.of_laid {rest : List (String × DataW Unit)} {W : World} (h : laidMet Tryz.prog (((Rows.fnCensusRow.named.getD 0 Rows.fnCensusRow.spec), Lib.tabData .u64 Lib.pow10Tab) :: rest) W) : Pow W :=
  Lib.tabIs_of_head (g := 1) (t := 421) (e := 255) (n := 20) (by kernel_rfl) (by kernel_rfl) Tryz.underlying421 Tryz.underlying255 (by kernel_rfl) (by kernel_rfl) h
def lay_FormatInt_ren : Go.Shelf.Ren := ⟨fun | 173 => 254 | 246 => 320 | 283 => 357 | 284 => 358 | 285 => 359 | 286 => 360 | 129 => 318 | 317 => 391 | 318 => 392 | 319 => 393 | 320 => 394 | 337 => 410 | 338 => 411 | n => n, fun | 2 => 2 | 3 => 3 | 9 => 9 | 4 => 4 | 171 => 387 | 0 => 0 | 53 => 255 | 37 => 22 | 5 => 5 | 173 => 389 | 212 => 421 | 51 => 355 | 20 => 20 | 213 => 422 | 46 => 295 | 232 => 439 | 233 => 440 | n => n, fun | 17 => 1 | 18 => 6 | 19 => 7 | n => n⟩
theorem lay_FormatInt : Go.Proofs.LaysM.n173 Tryz.prog lay_FormatInt_ren := {
  mixed := by kernel_rfl
  f129 := Tryz.func318.trans (congrArg some (by kernel_rfl))
  f173 := Tryz.func254.trans (congrArg some (by kernel_rfl))
  f246 := Tryz.func320.trans (congrArg some (by kernel_rfl))
  f283 := Tryz.func357.trans (congrArg some (by kernel_rfl))
  f284 := Tryz.func358.trans (congrArg some (by kernel_rfl))
  f285 := Tryz.func359.trans (congrArg some (by kernel_rfl))
  f286 := Tryz.func360.trans (congrArg some (by kernel_rfl))
  f317 := Tryz.func391.trans (congrArg some (by kernel_rfl))
  f318 := Tryz.func392.trans (congrArg some (by kernel_rfl))
  f319 := Tryz.func393.trans (congrArg some (by kernel_rfl))
  f320 := Tryz.func394.trans (congrArg some (by kernel_rfl))
  f337 := Tryz.func410.trans (congrArg some (by kernel_rfl))
  f338 := Tryz.func411.trans (congrArg some (by kernel_rfl))
  t0 := Tryz.underlying0
  a0 := Tryz.isAgg0
  z0 := Tryz.sizeOf0
  v0 := Tryz.zeroValue0
  t2 := Tryz.underlying2
  a2 := Tryz.isAgg2
  z2 := Tryz.sizeOf2
  v2 := Tryz.zeroValue2
  t3 := Tryz.underlying3
  a3 := Tryz.isAgg3
  z3 := Tryz.sizeOf3
  v3 := Tryz.zeroValue3
  t4 := Tryz.underlying4
  a4 := Tryz.isAgg4
  z4 := Tryz.sizeOf4
  v4 := Tryz.zeroValue4
  t5 := Tryz.underlying5
  a5 := Tryz.isAgg5
  z5 := Tryz.sizeOf5
  v5 := Tryz.zeroValue5
  t9 := Tryz.underlying9
  a9 := Tryz.isAgg9
  z9 := Tryz.sizeOf9
  v9 := Tryz.zeroValue9
  t20 := Tryz.underlying20
  a20 := Tryz.isAgg20
  z20 := Tryz.sizeOf20
  v20 := Tryz.zeroValue20
  t37 := Tryz.underlying22
  a37 := Tryz.isAgg22
  z37 := Tryz.sizeOf22
  v37 := Tryz.zeroValue22
  t46 := Tryz.underlying295
  a46 := Tryz.isAgg295
  z46 := Tryz.sizeOf295
  v46 := Tryz.zeroValue295
  t51 := Tryz.underlying355
  a51 := Tryz.isAgg355
  z51 := Tryz.sizeOf355
  v51 := Tryz.zeroValue355
  t53 := Tryz.underlying255
  a53 := Tryz.isAgg255
  z53 := Tryz.sizeOf255
  v53 := Tryz.zeroValue255
  t171 := Tryz.underlying387
  a171 := Tryz.isAgg387
  z171 := Tryz.sizeOf387
  v171 := Tryz.zeroValue387
  t173 := Tryz.underlying389
  a173 := Tryz.isAgg389
  z173 := Tryz.sizeOf389
  v173 := Tryz.zeroValue389
  t212 := Tryz.underlying421
  a212 := Tryz.isAgg421
  z212 := Tryz.sizeOf421
  v212 := Tryz.zeroValue421
  t213 := Tryz.underlying422
  a213 := Tryz.isAgg422
  z213 := Tryz.sizeOf422
  t232 := Tryz.underlying439
  a232 := Tryz.isAgg439
  z232 := Tryz.sizeOf439
  v232 := Tryz.zeroValue439
  t233 := Tryz.underlying440
  a233 := Tryz.isAgg440
  z233 := Tryz.sizeOf440
  v233 := Tryz.zeroValue440
  g17 := by kernel_rfl
  g18 := by kernel_rfl
  g19 := by kernel_rfl
  i0 := by kernel_rfl
  i2 := by kernel_rfl
  i3 := by kernel_rfl
  i4 := by kernel_rfl
  i5 := by kernel_rfl
  i9 := by kernel_rfl
  i20 := by kernel_rfl
  i37 := by kernel_rfl
  i46 := by kernel_rfl
  i51 := by kernel_rfl
  i53 := by kernel_rfl
  i171 := by kernel_rfl
  i173 := by kernel_rfl
  i212 := by kernel_rfl
  i232 := by kernel_rfl
  i233 := by kernel_rfl
  m17 := by kernel_rfl
  m18 := by kernel_rfl
  m19 := by kernel_rfl }
theorem lib_FormatInt {n : Int} (hn : i64ok n) {w : World} (hT : Pow w) : Does Tryz.prog 254 [.int .i64 n, .int .i64 10] w (fun v w' => v = .string (decB n) ∧ Ext w w') := by
  have h : Calls Tryz.prog 254 #[.int .i64 n, .int .i64 10] w fun e w' => e = .returned (.string ⟨(Lib.itoa n).toArray⟩) ∧ ∃ k os, w' = Sort.grow (w.drewN k) os :=
    Any.strconv_FormatInt_10 lay_FormatInt n hn.1 hn.2 w hT
  refine Does.of_calls (by kernel_rfl) (h.mono ?_)
  rintro _ _ ⟨rfl, k, os, rfl⟩
  exact ⟨_, rfl, rfl, ext_grow w k os⟩
def lay_TrimPrefix_ren : Go.Shelf.Ren := ⟨fun | 101 => 258 | 208 => 327 | 206 => 373 | n => n, fun | 9 => 9 | 4 => 4 | 3 => 3 | n => n, fun | n => n⟩
theorem lay_TrimPrefix : Go.Proofs.Lays.n101 Tryz.prog lay_TrimPrefix_ren := {
  mixed := by kernel_rfl
  f101 := Tryz.func258.trans (congrArg some (by kernel_rfl))
  f206 := Tryz.func373.trans (congrArg some (by kernel_rfl))
  f208 := Tryz.func327.trans (congrArg some (by kernel_rfl))
  t3 := Tryz.underlying3
  a3 := Tryz.isAgg3
  z3 := Tryz.sizeOf3
  v3 := Tryz.zeroValue3
  t4 := Tryz.underlying4
  a4 := Tryz.isAgg4
  z4 := Tryz.sizeOf4
  v4 := Tryz.zeroValue4
  t9 := Tryz.underlying9
  a9 := Tryz.isAgg9
  z9 := Tryz.sizeOf9
  v9 := Tryz.zeroValue9 }
theorem lib_TrimMinus (s : ByteArray) (w : World) : Does Tryz.prog 258 [.string s, .string ⟨#[45]⟩] w (fun v w' => v = .string (bs (unsign s.data.toList)) ∧ w = w') := by
  have h : Calls Tryz.prog 258 #[.string s, .string ⟨#[45]⟩] w fun e w' => e = .returned (.string ⟨(Lib.trimPrefix s.data.toList [45]).toArray⟩) ∧ w' = w :=
    Any.strings_TrimPrefix lay_TrimPrefix s ⟨#[45]⟩ w
  refine Does.of_calls (by kernel_rfl) (h.mono ?_)
  rintro _ _ ⟨rfl, rfl⟩
  refine ⟨_, rfl, ?_, rfl⟩
  congr 1
  show bs _ = bs _
  congr 1
  unfold Lib.trimPrefix Lib.hasPrefix unsign
  cases s.data.toList with
  | nil => rfl
  | cons c r =>
    by_cases hc : c = 45
    · subst hc; simp
    · simp [hc, Ne.symm hc]
/-- the library's two errors -/
def Errs (w : World) : Prop := (∃ t p, w.var? Tryz.prog (Rows.fnExactValidDeskRow.named.getD 3 Rows.fnExactValidDeskRow.spec) = some #[.iface t p]) ∧ ∃ t p, w.var? Tryz.prog (Rows.fnExactValidDeskRow.named.getD 4 Rows.fnExactValidDeskRow.spec) = some #[.iface t p]
theorem Errs.ext {w w' : World} (h : Errs w) (e : Ext w w') : Errs w' := by
  obtain ⟨⟨t, p, h1⟩, t2, p2, h2⟩ := h
  exact ⟨⟨t, p, ext_var h1 e⟩, t2, p2, ext_var h2 e⟩
theorem Errs.of_laid {n1 n2 : String} {d1 d2 : DataW Unit} {r1 r2 : List (String × DataW Unit)} {W : World} (h1 : laidMet Tryz.prog (((Rows.fnExactValidDeskRow.named.getD 3 Rows.fnExactValidDeskRow.spec), .iface n1 d1) :: r1) W) (h2 : laidMet Tryz.prog (((Rows.fnExactValidDeskRow.named.getD 4 Rows.fnExactValidDeskRow.spec), .iface n2 d2) :: r2) W) : Errs W :=
  ⟨err_of_laid h1 (g := 2) (t := 299) (by kernel_rfl) (by kernel_rfl) Tryz.underlying299, err_of_laid h2 (g := 3) (t := 299) (by kernel_rfl) (by kernel_rfl) Tryz.underlying299⟩
def lay_ParseInt_ren : Go.Shelf.Ren := ⟨fun | 174 => 257 | 247 => 325 | 245 => 326 | 287 => 368 | 279 => 369 | 280 => 370 | 281 => 371 | 282 => 372 | 321 => 398 | 322 => 399 | 316 => 400 | 171 => 402 | 205 => 401 | 243 => 412 | 246 => 320 | 283 => 357 | 284 => 358 | 285 => 359 | 286 => 360 | 129 => 318 | 317 => 391 | 318 => 392 | 319 => 393 | 320 => 394 | 337 => 410 | 338 => 411 | n => n, fun | 9 => 9 | 3 => 3 | 2 => 2 | 75 => 299 | 85 => 300 | 4 => 4 | 167 => 393 | 5 => 5 | 53 => 255 | 175 => 394 | 46 => 295 | 168 => 396 | 37 => 22 | 0 => 0 | 210 => 428 | 21 => 21 | 127 => 362 | 145 => 438 | 143 => 436 | 171 => 387 | 173 => 389 | 212 => 421 | 51 => 355 | 20 => 20 | 213 => 422 | 232 => 439 | 233 => 440 | 80 => 313 | n => n, fun | 15 => 2 | 16 => 3 | 17 => 1 | 18 => 6 | 19 => 7 | n => n⟩
theorem lay_ParseInt : Go.Proofs.LaysC.n174 Tryz.prog lay_ParseInt_ren := {
  mixed := by kernel_rfl
  f129 := Tryz.func318.trans (congrArg some (by kernel_rfl))
  f171 := Tryz.func402.trans (congrArg some (by kernel_rfl))
  f174 := Tryz.func257.trans (congrArg some (by kernel_rfl))
  f205 := Tryz.func401.trans (congrArg some (by kernel_rfl))
  f243 := Tryz.func412.trans (congrArg some (by kernel_rfl))
  f245 := Tryz.func326.trans (congrArg some (by kernel_rfl))
  f246 := Tryz.func320.trans (congrArg some (by kernel_rfl))
  f247 := Tryz.func325.trans (congrArg some (by kernel_rfl))
  f279 := Tryz.func369.trans (congrArg some (by kernel_rfl))
  f280 := Tryz.func370.trans (congrArg some (by kernel_rfl))
  f281 := Tryz.func371.trans (congrArg some (by kernel_rfl))
  f282 := Tryz.func372.trans (congrArg some (by kernel_rfl))
  f283 := Tryz.func357.trans (congrArg some (by kernel_rfl))
  f284 := Tryz.func358.trans (congrArg some (by kernel_rfl))
  f285 := Tryz.func359.trans (congrArg some (by kernel_rfl))
  f286 := Tryz.func360.trans (congrArg some (by kernel_rfl))
  f287 := Tryz.func368.trans (congrArg some (by kernel_rfl))
  f316 := Tryz.func400.trans (congrArg some (by kernel_rfl))
  f317 := Tryz.func391.trans (congrArg some (by kernel_rfl))
  f318 := Tryz.func392.trans (congrArg some (by kernel_rfl))
  f319 := Tryz.func393.trans (congrArg some (by kernel_rfl))
  f320 := Tryz.func394.trans (congrArg some (by kernel_rfl))
  f321 := Tryz.func398.trans (congrArg some (by kernel_rfl))
  f322 := Tryz.func399.trans (congrArg some (by kernel_rfl))
  f337 := Tryz.func410.trans (congrArg some (by kernel_rfl))
  f338 := Tryz.func411.trans (congrArg some (by kernel_rfl))
  t0 := Tryz.underlying0
  a0 := Tryz.isAgg0
  z0 := Tryz.sizeOf0
  v0 := Tryz.zeroValue0
  t2 := Tryz.underlying2
  a2 := Tryz.isAgg2
  z2 := Tryz.sizeOf2
  v2 := Tryz.zeroValue2
  t3 := Tryz.underlying3
  a3 := Tryz.isAgg3
  z3 := Tryz.sizeOf3
  v3 := Tryz.zeroValue3
  t4 := Tryz.underlying4
  a4 := Tryz.isAgg4
  z4 := Tryz.sizeOf4
  v4 := Tryz.zeroValue4
  t5 := Tryz.underlying5
  a5 := Tryz.isAgg5
  z5 := Tryz.sizeOf5
  v5 := Tryz.zeroValue5
  t9 := Tryz.underlying9
  a9 := Tryz.isAgg9
  z9 := Tryz.sizeOf9
  v9 := Tryz.zeroValue9
  t20 := Tryz.underlying20
  a20 := Tryz.isAgg20
  z20 := Tryz.sizeOf20
  v20 := Tryz.zeroValue20
  t21 := Tryz.underlying21
  a21 := Tryz.isAgg21
  z21 := Tryz.sizeOf21
  v21 := Tryz.zeroValue21
  t37 := Tryz.underlying22
  a37 := Tryz.isAgg22
  z37 := Tryz.sizeOf22
  v37 := Tryz.zeroValue22
  t46 := Tryz.underlying295
  a46 := Tryz.isAgg295
  z46 := Tryz.sizeOf295
  v46 := Tryz.zeroValue295
  t51 := Tryz.underlying355
  a51 := Tryz.isAgg355
  z51 := Tryz.sizeOf355
  v51 := Tryz.zeroValue355
  t53 := Tryz.underlying255
  a53 := Tryz.isAgg255
  z53 := Tryz.sizeOf255
  v53 := Tryz.zeroValue255
  t75 := Tryz.underlying299
  a75 := Tryz.isAgg299
  z75 := Tryz.sizeOf299
  v75 := Tryz.zeroValue299
  t85 := Tryz.underlying300
  a85 := Tryz.isAgg300
  z85 := Tryz.sizeOf300
  v85 := Tryz.zeroValue300
  t127 := Tryz.underlying362
  a127 := Tryz.isAgg362
  z127 := Tryz.sizeOf362
  v127 := Tryz.zeroValue362
  t143 := Tryz.underlying436
  a143 := Tryz.isAgg436
  z143 := Tryz.sizeOf436
  v143 := Tryz.zeroValue436
  t145 := Tryz.underlying438
  a145 := Tryz.isAgg438
  z145 := Tryz.sizeOf438
  v145 := Tryz.zeroValue438
  t167 := Tryz.underlying393
  a167 := Tryz.isAgg393
  z167 := Tryz.sizeOf393
  v167 := Tryz.zeroValue393
  t168 := Tryz.underlying396
  a168 := Tryz.isAgg396
  z168 := Tryz.sizeOf396
  v168 := Tryz.zeroValue396
  t171 := Tryz.underlying387
  a171 := Tryz.isAgg387
  z171 := Tryz.sizeOf387
  v171 := Tryz.zeroValue387
  t173 := Tryz.underlying389
  a173 := Tryz.isAgg389
  z173 := Tryz.sizeOf389
  v173 := Tryz.zeroValue389
  t175 := Tryz.underlying394
  a175 := Tryz.isAgg394
  z175 := Tryz.sizeOf394
  v175 := Tryz.zeroValue394
  t210 := Tryz.underlying428
  a210 := Tryz.isAgg428
  z210 := Tryz.sizeOf428
  v210 := Tryz.zeroValue428
  t212 := Tryz.underlying421
  a212 := Tryz.isAgg421
  z212 := Tryz.sizeOf421
  v212 := Tryz.zeroValue421
  t213 := Tryz.underlying422
  a213 := Tryz.isAgg422
  z213 := Tryz.sizeOf422
  t232 := Tryz.underlying439
  a232 := Tryz.isAgg439
  z232 := Tryz.sizeOf439
  v232 := Tryz.zeroValue439
  t233 := Tryz.underlying440
  a233 := Tryz.isAgg440
  z233 := Tryz.sizeOf440
  v233 := Tryz.zeroValue440
  g15 := by kernel_rfl
  g16 := by kernel_rfl
  g17 := by kernel_rfl
  g18 := by kernel_rfl
  g19 := by kernel_rfl
  t80 := Tryz.underlying313
  a80 := Tryz.isAgg313
  z80 := Tryz.sizeOf313
  v80 := Tryz.zeroValue313
  i0 := by kernel_rfl
  i2 := by kernel_rfl
  i3 := by kernel_rfl
  i4 := by kernel_rfl
  i5 := by kernel_rfl
  i9 := by kernel_rfl
  i20 := by kernel_rfl
  i21 := by kernel_rfl
  i37 := by kernel_rfl
  i46 := by kernel_rfl
  i51 := by kernel_rfl
  i53 := by kernel_rfl
  i75 := by kernel_rfl
  i80 := by kernel_rfl
  i85 := by kernel_rfl
  i127 := by kernel_rfl
  i143 := by kernel_rfl
  i145 := by kernel_rfl
  i167 := by kernel_rfl
  i168 := by kernel_rfl
  i171 := by kernel_rfl
  i173 := by kernel_rfl
  i175 := by kernel_rfl
  i210 := by kernel_rfl
  i212 := by kernel_rfl
  i232 := by kernel_rfl
  i233 := by kernel_rfl
  m15 := by kernel_rfl
  m16 := by kernel_rfl
  m17 := by kernel_rfl
  m18 := by kernel_rfl
  m19 := by kernel_rfl
  c0 := by kernel_rfl
  c2 := by kernel_rfl
  c3 := by kernel_rfl
  c4 := by kernel_rfl
  c5 := by kernel_rfl
  c9 := by kernel_rfl
  c20 := by kernel_rfl
  c21 := by kernel_rfl
  c37 := by kernel_rfl
  c46 := by kernel_rfl
  c51 := by kernel_rfl
  c53 := by kernel_rfl
  c75 := by kernel_rfl
  c80 := by kernel_rfl
  c85 := by kernel_rfl
  c127 := by kernel_rfl
  c143 := by kernel_rfl
  c145 := by kernel_rfl
  c167 := by kernel_rfl
  c168 := by kernel_rfl
  c171 := by kernel_rfl
  c173 := by kernel_rfl
  c175 := by kernel_rfl
  c210 := by kernel_rfl
  c212 := by kernel_rfl
  c213 := by kernel_rfl
  c232 := by kernel_rfl
  c233 := by kernel_rfl }
theorem lib_ParseInt {s : ByteArray} (hs : s.size ≤ 281474976710656) {w : World} (hE : Errs w) :
    Does Tryz.prog 257 [.string s, .int .i64 10, .int .i64 64] w (fun v w' => ((∃ n, Lib.parseIntB 64 s.data.toList = .ok n ∧ v = .tuple #[.int .i64 n, .nilIface]) ∨
      ((∀ n, Lib.parseIntB 64 s.data.toList ≠ .ok n) ∧ ∃ n t a, v = .tuple #[.int .i64 n, .iface t (.pointer (some a))])) ∧ Ext w w') := by
  obtain ⟨⟨t, p, h1⟩, t2, p2, h2⟩ := hE
  cases hp : Lib.parseIntB 64 s.data.toList
  · rename_i n
    refine Does.of_calls (by kernel_rfl) ((Any.strconv_ParseInt_10_at64_ok lay_ParseInt s (by omega) n hp w).mono ?_)
    rintro _ _ ⟨rfl, hw⟩
    refine ⟨_, rfl, .inl ⟨n, rfl, rfl⟩, ?_⟩
    rcases hw with rfl | ⟨t, rfl⟩
    · exact Ext.refl _
    · exact Lib.bytesWorld_below _ _ _
  · refine Does.of_calls (by kernel_rfl) ((Any.strconv_ParseInt_10_at64_syntax_var lay_ParseInt s hs hp t p w h1).mono ?_)
    rintro _ _ ⟨N, rfl, _, _, hb⟩
    exact ⟨_, rfl, .inr ⟨(fun n h => by cases h), _, _, _, rfl⟩, hb⟩
  · refine Does.of_calls (by kernel_rfl) ((Any.strconv_ParseInt_10_at64_range_var lay_ParseInt s hs hp t2 p2 w h2).mono ?_)
    rintro _ _ ⟨N, rfl, _, _, hb⟩
    exact ⟨_, rfl, .inr ⟨(fun n h => by cases h), _, _, _, rfl⟩, hb⟩
def lay_Split_ren : Go.Shelf.Ren := ⟨fun | 146 => 172 | 221 => 255 | 268 => 321 | 138 => 322 | 143 => 323 | 195 => 361 | 197 => 362 | 218 => 363 | 219 => 324 | 260 => 395 | 217 => 364 | 225 => 365 | 224 => 366 | 267 => 367 | 266 => 396 | 314 => 397 | n => n, fun | 9 => 9 | 31 => 32 | 3 => 3 | 4 => 4 | 0 => 0 | 105 => 368 | 21 => 21 | 5 => 5 | 46 => 295 | 119 => 432 | 139 => 435 | 138 => 434 | 146 => 424 | 51 => 355 | n => n, fun | 1 => 0 | 3 => 4 | 4 => 5 | n => n⟩
theorem lay_Split : Go.Proofs.LaysM.n146 Tryz.prog lay_Split_ren := {
  mixed := by kernel_rfl
  f138 := Tryz.func322.trans (congrArg some (by kernel_rfl))
  f143 := Tryz.func323.trans (congrArg some (by kernel_rfl))
  f146 := Tryz.func172.trans (congrArg some (by kernel_rfl))
  f195 := Tryz.func361.trans (congrArg some (by kernel_rfl))
  f197 := Tryz.func362.trans (congrArg some (by kernel_rfl))
  f217 := Tryz.func364.trans (congrArg some (by kernel_rfl))
  f218 := Tryz.func363.trans (congrArg some (by kernel_rfl))
  f219 := Tryz.func324.trans (congrArg some (by kernel_rfl))
  f221 := Tryz.func255.trans (congrArg some (by kernel_rfl))
  f224 := Tryz.func366.trans (congrArg some (by kernel_rfl))
  f225 := Tryz.func365.trans (congrArg some (by kernel_rfl))
  f260 := Tryz.func395.trans (congrArg some (by kernel_rfl))
  f266 := Tryz.func396.trans (congrArg some (by kernel_rfl))
  f267 := Tryz.func367.trans (congrArg some (by kernel_rfl))
  f268 := Tryz.func321.trans (congrArg some (by kernel_rfl))
  f314 := Tryz.func397.trans (congrArg some (by kernel_rfl))
  t0 := Tryz.underlying0
  a0 := Tryz.isAgg0
  z0 := Tryz.sizeOf0
  v0 := Tryz.zeroValue0
  t3 := Tryz.underlying3
  a3 := Tryz.isAgg3
  z3 := Tryz.sizeOf3
  v3 := Tryz.zeroValue3
  t4 := Tryz.underlying4
  a4 := Tryz.isAgg4
  z4 := Tryz.sizeOf4
  v4 := Tryz.zeroValue4
  t5 := Tryz.underlying5
  a5 := Tryz.isAgg5
  z5 := Tryz.sizeOf5
  v5 := Tryz.zeroValue5
  t9 := Tryz.underlying9
  a9 := Tryz.isAgg9
  z9 := Tryz.sizeOf9
  v9 := Tryz.zeroValue9
  t21 := Tryz.underlying21
  a21 := Tryz.isAgg21
  z21 := Tryz.sizeOf21
  v21 := Tryz.zeroValue21
  t31 := Tryz.underlying32
  a31 := Tryz.isAgg32
  z31 := Tryz.sizeOf32
  v31 := Tryz.zeroValue32
  t46 := Tryz.underlying295
  a46 := Tryz.isAgg295
  z46 := Tryz.sizeOf295
  v46 := Tryz.zeroValue295
  t51 := Tryz.underlying355
  a51 := Tryz.isAgg355
  z51 := Tryz.sizeOf355
  v51 := Tryz.zeroValue355
  t105 := Tryz.underlying368
  a105 := Tryz.isAgg368
  z105 := Tryz.sizeOf368
  v105 := Tryz.zeroValue368
  t119 := Tryz.underlying432
  a119 := Tryz.isAgg432
  z119 := Tryz.sizeOf432
  t138 := Tryz.underlying434
  a138 := Tryz.isAgg434
  z138 := Tryz.sizeOf434
  v138 := Tryz.zeroValue434
  t139 := Tryz.underlying435
  a139 := Tryz.isAgg435
  z139 := Tryz.sizeOf435
  v139 := Tryz.zeroValue435
  t146 := Tryz.underlying424
  a146 := Tryz.isAgg424
  z146 := Tryz.sizeOf424
  v146 := Tryz.zeroValue424
  g1 := by kernel_rfl
  g3 := by kernel_rfl
  g4 := by kernel_rfl
  i0 := by kernel_rfl
  i3 := by kernel_rfl
  i4 := by kernel_rfl
  i5 := by kernel_rfl
  i9 := by kernel_rfl
  i21 := by kernel_rfl
  i31 := by kernel_rfl
  i46 := by kernel_rfl
  i51 := by kernel_rfl
  i105 := by kernel_rfl
  i138 := by kernel_rfl
  i139 := by kernel_rfl
  i146 := by kernel_rfl
  m1 := by kernel_rfl
  s1_3 := fun w h => Go.Proofs.cell_of_shapedOpen_int (zero := #[.int .i64 0]) (t := 3) h (of_decide_eq_true (by kernel_rfl)) (by kernel_rfl) rfl (by kernel_rfl) (by kernel_rfl) Tryz.underlying3
  m3 := by kernel_rfl
  m4 := by kernel_rfl }
/-- the library's bound for a short search is some number -/
def MaxL (w : World) : Prop := ∃ m, w.cell? ⟨lay_Split_ren.g 1, 0, none⟩ = some (.int .i64 m)
theorem MaxL.ext {w w' : World} (h : MaxL w) (e : Ext w w') : MaxL w' := by
  obtain ⟨m, h⟩ := h
  exact ⟨m, ext_cell h e⟩
theorem MaxL.of_shaped {w : World} (h : w.ShapedOpen Tryz.prog) : MaxL w := lay_Split.s1_3 w h
theorem lib_Split {s : ByteArray} {c : UInt8} (hs : s.size < 4294967281) {w : World} (hM : MaxL w) :
    Does Tryz.prog 172 [.string s, .string ⟨#[c]⟩] w (fun v w' => ∃ b, v = .slice (some ⟨b, 0, none⟩) (splitS c s).length (splitS c s).length ∧ w.heap.size ≤ b ∧ Blk w' b (flat eS (splitS c s)) 9 ∧ Ext w w') := by
  obtain ⟨m, hm⟩ := hM
  have h : Calls Tryz.prog 172 #[.string s, .string ⟨#[c]⟩] w _ := Any.strings_Split { lay_Split with } lay_Split.i9 s ⟨#[c]⟩ m w hs hm (by show 1 ≤ 1; omega)
  refine Does.of_calls (by kernel_rfl) (h.mono ?_)
  rintro _ _ ⟨rfl, rfl⟩
  rw [← splitS_len, splitB_eq]
  refine ⟨_, rfl, w.heap.size, rfl, Nat.le_refl _, ?_, alloc_ext _ _⟩
  rw [flat_eS]
  exact alloc_blk _ _ _
def lay_Cut_ren : Go.Shelf.Ren := ⟨fun | 145 => 173 | 220 => 256 | 219 => 324 | 217 => 364 | 225 => 365 | 224 => 366 | 267 => 367 | 266 => 396 | 314 => 397 | n => n, fun | 9 => 9 | 4 => 4 | 59 => 229 | 3 => 3 | 5 => 5 | 46 => 295 | 146 => 424 | 51 => 355 | n => n, fun | 1 => 0 | n => n⟩
theorem lay_Cut : Go.Proofs.LaysM.n145 Tryz.prog lay_Cut_ren := {
  mixed := by kernel_rfl
  f145 := Tryz.func173.trans (congrArg some (by kernel_rfl))
  f217 := Tryz.func364.trans (congrArg some (by kernel_rfl))
  f219 := Tryz.func324.trans (congrArg some (by kernel_rfl))
  f220 := Tryz.func256.trans (congrArg some (by kernel_rfl))
  f224 := Tryz.func366.trans (congrArg some (by kernel_rfl))
  f225 := Tryz.func365.trans (congrArg some (by kernel_rfl))
  f266 := Tryz.func396.trans (congrArg some (by kernel_rfl))
  f267 := Tryz.func367.trans (congrArg some (by kernel_rfl))
  f314 := Tryz.func397.trans (congrArg some (by kernel_rfl))
  t3 := Tryz.underlying3
  a3 := Tryz.isAgg3
  z3 := Tryz.sizeOf3
  v3 := Tryz.zeroValue3
  t4 := Tryz.underlying4
  a4 := Tryz.isAgg4
  z4 := Tryz.sizeOf4
  v4 := Tryz.zeroValue4
  t5 := Tryz.underlying5
  a5 := Tryz.isAgg5
  z5 := Tryz.sizeOf5
  v5 := Tryz.zeroValue5
  t9 := Tryz.underlying9
  a9 := Tryz.isAgg9
  z9 := Tryz.sizeOf9
  v9 := Tryz.zeroValue9
  t46 := Tryz.underlying295
  a46 := Tryz.isAgg295
  z46 := Tryz.sizeOf295
  v46 := Tryz.zeroValue295
  t51 := Tryz.underlying355
  a51 := Tryz.isAgg355
  z51 := Tryz.sizeOf355
  v51 := Tryz.zeroValue355
  t59 := Tryz.underlying229
  a59 := Tryz.isAgg229
  z59 := Tryz.sizeOf229
  v59 := Tryz.zeroValue229
  t146 := Tryz.underlying424
  a146 := Tryz.isAgg424
  z146 := Tryz.sizeOf424
  v146 := Tryz.zeroValue424
  g1 := by kernel_rfl
  i3 := by kernel_rfl
  i4 := by kernel_rfl
  i5 := by kernel_rfl
  i9 := by kernel_rfl
  i46 := by kernel_rfl
  i51 := by kernel_rfl
  i59 := by kernel_rfl
  i146 := by kernel_rfl
  m1 := by kernel_rfl
  s1_3 := fun w h => Go.Proofs.cell_of_shapedOpen_int (zero := #[.int .i64 0]) (t := 3) h (of_decide_eq_true (by kernel_rfl)) (by kernel_rfl) rfl (by kernel_rfl) (by kernel_rfl) Tryz.underlying3 }
theorem lib_Cut {s : ByteArray} {c : UInt8} (hs : s.size < 4294967281) {w : World} (hM : MaxL w) :
    Does Tryz.prog 173 [.string s, .string ⟨#[c]⟩] w (fun v w' => v = .tuple #[.string (bs (Lib.cut s.data.toList [c]).1), .string (bs (Lib.cut s.data.toList [c]).2.1), .bool (Lib.cut s.data.toList [c]).2.2] ∧ Ext w w') := by
  obtain ⟨m, hm⟩ := hM
  have h : Calls Tryz.prog 173 #[.string s, .string ⟨#[c]⟩] w _ := Any.strings_Cut { lay_Cut with } s ⟨#[c]⟩ m w hs hm
  refine Does.of_calls (by kernel_rfl) (h.mono ?_)
  rintro _ _ ⟨rfl, n, rfl⟩
  exact ⟨_, rfl, rfl, ⟨rfl, rfl, rfl, Nat.le_refl _, fun _ _ => rfl⟩⟩
def lay_IndexByte_ren : Go.Shelf.Ren := ⟨fun | 137 => 349 | 217 => 364 | 266 => 396 | n => n, fun | 9 => 9 | 5 => 5 | 3 => 3 | n => n, fun | n => n⟩
theorem lay_IndexByte : Go.Proofs.Lays.n137 Tryz.prog lay_IndexByte_ren := {
  mixed := by kernel_rfl
  f137 := Tryz.func349.trans (congrArg some (by kernel_rfl))
  f217 := Tryz.func364.trans (congrArg some (by kernel_rfl))
  f266 := Tryz.func396.trans (congrArg some (by kernel_rfl))
  t3 := Tryz.underlying3
  a3 := Tryz.isAgg3
  z3 := Tryz.sizeOf3
  v3 := Tryz.zeroValue3
  t5 := Tryz.underlying5
  a5 := Tryz.isAgg5
  z5 := Tryz.sizeOf5
  v5 := Tryz.zeroValue5
  t9 := Tryz.underlying9
  a9 := Tryz.isAgg9
  z9 := Tryz.sizeOf9
  v9 := Tryz.zeroValue9 }
theorem lib_IndexByte (s : ByteArray) (c : UInt8) (w : World) : Does Tryz.prog 349 [.string s, .int .u8 c.toNat] w (fun v w' => v = .int .i64 (Lib.indexByte s.data.toList c) ∧ w = w') := by
  have h : Calls Tryz.prog 349 #[.string s, .int .u8 c.toNat] w _ := Any.strings_IndexByte lay_IndexByte s c.toNat w
  refine Does.of_calls (by kernel_rfl) (h.mono ?_)
  rintro _ _ ⟨rfl, rfl⟩
  exact ⟨_, rfl, by simp, rfl⟩
def lay_Join_ren : Go.Shelf.Ren := ⟨fun | 156 => 189 | 165 => 266 | 166 => 267 | 169 => 268 | 240 => 332 | 241 => 333 | 276 => 374 | 277 => 375 | n => n, fun | 31 => 32 | 9 => 9 | 3 => 3 | 4 => 4 | 0 => 0 | 20 => 20 | 72 => 309 | 76 => 311 | 70 => 307 | 37 => 22 | 75 => 299 | 127 => 362 | 164 => 400 | 5 => 5 | 80 => 313 | n => n, fun | n => n⟩
theorem lay_Join : Go.Proofs.Lays.n156 Tryz.prog lay_Join_ren := {
  mixed := by kernel_rfl
  f156 := Tryz.func189.trans (congrArg some (by kernel_rfl))
  f165 := Tryz.func266.trans (congrArg some (by kernel_rfl))
  f166 := Tryz.func267.trans (congrArg some (by kernel_rfl))
  f169 := Tryz.func268.trans (congrArg some (by kernel_rfl))
  f240 := Tryz.func332.trans (congrArg some (by kernel_rfl))
  f241 := Tryz.func333.trans (congrArg some (by kernel_rfl))
  f276 := Tryz.func374.trans (congrArg some (by kernel_rfl))
  f277 := Tryz.func375.trans (congrArg some (by kernel_rfl))
  t0 := Tryz.underlying0
  a0 := Tryz.isAgg0
  z0 := Tryz.sizeOf0
  v0 := Tryz.zeroValue0
  t3 := Tryz.underlying3
  a3 := Tryz.isAgg3
  z3 := Tryz.sizeOf3
  v3 := Tryz.zeroValue3
  t4 := Tryz.underlying4
  a4 := Tryz.isAgg4
  z4 := Tryz.sizeOf4
  v4 := Tryz.zeroValue4
  t9 := Tryz.underlying9
  a9 := Tryz.isAgg9
  z9 := Tryz.sizeOf9
  v9 := Tryz.zeroValue9
  t20 := Tryz.underlying20
  a20 := Tryz.isAgg20
  z20 := Tryz.sizeOf20
  v20 := Tryz.zeroValue20
  t31 := Tryz.underlying32
  a31 := Tryz.isAgg32
  z31 := Tryz.sizeOf32
  v31 := Tryz.zeroValue32
  t37 := Tryz.underlying22
  a37 := Tryz.isAgg22
  z37 := Tryz.sizeOf22
  v37 := Tryz.zeroValue22
  t70 := Tryz.underlying307
  a70 := Tryz.isAgg307
  z70 := Tryz.sizeOf307
  v70 := Tryz.zeroValue307
  t72 := Tryz.underlying309
  a72 := Tryz.isAgg309
  z72 := Tryz.sizeOf309
  v72 := Tryz.zeroValue309
  t75 := Tryz.underlying299
  a75 := Tryz.isAgg299
  z75 := Tryz.sizeOf299
  v75 := Tryz.zeroValue299
  t76 := Tryz.underlying311
  a76 := Tryz.isAgg311
  z76 := Tryz.sizeOf311
  v76 := Tryz.zeroValue311
  t127 := Tryz.underlying362
  a127 := Tryz.isAgg362
  z127 := Tryz.sizeOf362
  v127 := Tryz.zeroValue362
  t164 := Tryz.underlying400
  a164 := Tryz.isAgg400
  z164 := Tryz.sizeOf400
  v164 := Tryz.zeroValue400 }
theorem lay_JoinX : Builder.Extra Tryz.prog lay_Join_ren := {
  sizeBuilder := by kernel_rfl
  liesBuilder := by kernel_rfl
  t5 := Tryz.underlying5
  a5 := Tryz.isAgg5
  z5 := Tryz.sizeOf5
  v5 := Tryz.zeroValue5
  infoByte := by kernel_rfl
  cellsByte := by kernel_rfl
  sizeByte := by kernel_rfl
  neB5 := by decide }
theorem lib_Join {xs : List ByteArray} {sep : ByteArray} {b n c : Nat} {w : World} (h : Cells w b 0 (flat eS xs)) (hb : b < w.heap.size) (hn : xs.length = n) (hc : n ≤ c) (hN : n ≤ 140737488355328)
    (hl : (Lib.join (xs.map (·.data.toList)) sep.data.toList).length ≤ 140737488355328) :
    Does Tryz.prog 189 [.slice (some ⟨b, 0, none⟩) n c, .string sep] w (fun v w' => v = .string (bs (Lib.join (xs.map (·.data.toList)) sep.data.toList)) ∧ Ext w w') := by
  subst hn
  have hh : Calls Tryz.prog 189 #[.slice (some ⟨b, 0, none⟩) xs.length c, .string sep] w _ := Any.strings_Join lay_Join lay_JoinX b 0 c xs sep w (fun j x hx => by
    have := h j (.string x) (by
      rw [flat_eS, List.getElem?_map, hx]
      rfl)
    exact this) hb hN hc hl
  refine Does.of_calls (by kernel_rfl) (hh.mono ?_)
  rintro _ _ ⟨rfl, hb⟩
  exact ⟨_, rfl, rfl, hb⟩
theorem lib_Join4 {a1 a2 a3 a4 : ByteArray} {b t : Nat} {w : World} (h : Blk w b [.string a1, .string a2, .string a3, .string a4] t) (h1 : a1.size ≤ 1000) (h2 : a2.size ≤ 1000) (h3 : a3.size ≤ 1000) (h4 : a4.size ≤ 1000) :
    Does Tryz.prog 189 [.slice (some ⟨b, 0, none⟩) 4 4, .string ⟨#[32]⟩] w (fun v w' => v = .string (a1 ++ bs [32] ++ a2 ++ bs [32] ++ a3 ++ bs [32] ++ a4) ∧ Ext w w') := by
  have e : bs (Lib.join [a1.data.toList, a2.data.toList, a3.data.toList, a4.data.toList] [32]) = a1 ++ bs [32] ++ a2 ++ bs [32] ++ a3 ++ bs [32] ++ a4 := by
    apply bytes_ext
    rw [bs_data, Lib.join_cons]
    simp [Lib.joinTail, bs]
  have hz : (Lib.join [a1.data.toList, a2.data.toList, a3.data.toList, a4.data.toList] [32]).length = a1.size + a2.size + a3.size + a4.size + 3 := by
    have := congrArg ByteArray.size e
    rw [bs_size] at this
    rw [this]
    have e1 : (bs [32]).size = 1 := rfl
    simp only [ByteArray.size_append, e1]
    omega
  have := lib_Join (xs := [a1, a2, a3, a4]) (sep := ⟨#[32]⟩) (n := 4) (c := 4) h.cells h.lt rfl (by omega) (by omega) (by show (Lib.join [a1.data.toList, a2.data.toList, a3.data.toList, a4.data.toList] [32]).length ≤ _; omega)
  refine this.mono ?_
  rintro _ w1 ⟨rfl, e1⟩
  exact ⟨congrArg Value.string e, e1⟩
theorem lib_Join6 {a1 a2 a3 a4 a5 a6 : ByteArray} {b t : Nat} {w : World} (h : Blk w b [.string a1, .string a2, .string a3, .string a4, .string a5, .string a6] t) (h1 : a1.size ≤ 1000) (h2 : a2.size ≤ 1000) (h3 : a3.size ≤ 1000) (h4 : a4.size ≤ 1000) (h5 : a5.size ≤ 1000) (h6 : a6.size ≤ 1000) :
    Does Tryz.prog 189 [.slice (some ⟨b, 0, none⟩) 6 6, .string ⟨#[32]⟩] w (fun v w' => v = .string (a1 ++ bs [32] ++ a2 ++ bs [32] ++ a3 ++ bs [32] ++ a4 ++ bs [32] ++ a5 ++ bs [32] ++ a6) ∧ Ext w w') := by
  have e : bs (Lib.join [a1.data.toList, a2.data.toList, a3.data.toList, a4.data.toList, a5.data.toList, a6.data.toList] [32]) = a1 ++ bs [32] ++ a2 ++ bs [32] ++ a3 ++ bs [32] ++ a4 ++ bs [32] ++ a5 ++ bs [32] ++ a6 := by
    apply bytes_ext
    rw [bs_data, Lib.join_cons]
    simp [Lib.joinTail, bs]
  have hz : (Lib.join [a1.data.toList, a2.data.toList, a3.data.toList, a4.data.toList, a5.data.toList, a6.data.toList] [32]).length = a1.size + a2.size + a3.size + a4.size + a5.size + a6.size + 5 := by
    have := congrArg ByteArray.size e
    rw [bs_size] at this
    rw [this]
    have e1 : (bs [32]).size = 1 := rfl
    simp only [ByteArray.size_append, e1]
    omega
  have := lib_Join (xs := [a1, a2, a3, a4, a5, a6]) (sep := ⟨#[32]⟩) (n := 6) (c := 6) h.cells h.lt rfl (by omega) (by omega) (by show (Lib.join [a1.data.toList, a2.data.toList, a3.data.toList, a4.data.toList, a5.data.toList, a6.data.toList] [32]).length ≤ _; omega)
  refine this.mono ?_
  rintro _ w1 ⟨rfl, e1⟩
  exact ⟨congrArg Value.string e, e1⟩
end Go.Proofs.YtkjmbjedbmblmaaGreatDoor
