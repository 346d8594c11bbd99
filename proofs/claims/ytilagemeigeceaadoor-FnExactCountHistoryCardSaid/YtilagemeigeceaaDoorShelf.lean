/- Contracts of functions of the given program, of the reference and of the laws: each says what a call returns, for all arguments that meet the premises that the theorem itself names. -/
import Derived.Test.YtilagemeigeceaaDoorBase
import Derived.Test.YtilagemeigeceaaDoorNum
import Derived.Test.YtilagemeigeceaaDoorLiftBase
import Derived.Test.YtilagemeigeceaaDoorVcTied
import Derived.Shelf.Strconv.Itoa4
import Derived.Shelf.Strconv.ParseIntPublic10
import Derived.Shelf.Strconv.ErrVarParseInt
import Derived.Shelf.Strings.SplitShaped
import Derived.Shelf.Strings.OnBuilder
import Derived.Shelf.Strings.Cut
import Derived.Shelf.Small.Strs
import Derived.Shelf.Strings.Prefix
namespace Go.Proofs.YtilagemeigeceaaDoor
open Go Go.RowKit Go.Vc Go.M Go.Shelf Go.Proofs
theorem ext_var {w w' : World} {n : String} {cs : Array Value} (h : w.var? Tryd.prog n = some cs) (e : Ext w w') : w'.var? Tryd.prog n = some cs := by
  unfold World.var? at *
  cases hg : (Tryd.prog).globalNamed n with
  | none => simp [hg] at h
  | some g =>
    simp only [hg, Option.bind_some] at h ⊢
    have hlt : g < w.heap.size := by
      rcases Nat.lt_or_ge g w.heap.size with h' | h'
      · exact h'
      · rw [Array.getElem?_eq_none h'] at h; simp at h
    rw [e.block g hlt]
    exact h
theorem ext_cell {w w' : World} {a : Addr} {v : Value} (h : w.cell? a = some v) (e : Ext w w') : w'.cell? a = some v := by
  rw [cell_of_block (e.block a.block (cell_lt h))]
  exact h
theorem flat_eS : ∀ xs : List ByteArray, flat eS xs = xs.map Value.string
  | [] => rfl
  | x :: xs => by
    have := flat_eS xs
    simp only [flat, eS, List.flatMap_cons, List.map_cons] at *
    rw [this]
    rfl
theorem ext_grow (w : World) (k : Nat) (os : Array Obj) : Ext w (Sort.grow (w.drewN k) os) := by
  refine ⟨rfl, rfl, rfl, ?_, fun i hi => ?_⟩
  · show w.heap.size ≤ (w.heap ++ os).size
    simp
  · show (w.heap ++ os)[i]? = w.heap[i]?
    rw [Array.getElem?_append, if_pos hi]
/-- the library's table of powers stands as it was laid -/
def Pow (w : World) : Prop := Lib.TabIs Tryd.prog w (Rows.fnExactBoxesTextRow.named.getD 0 Rows.fnExactBoxesTextRow.spec) .u64 Lib.pow10Tab
theorem Pow.ext {w w' : World} (h : Pow w) (e : Ext w w') : Pow w' := ext_var h e
theorem Pow.of_laid {rest : List (String × DataW Unit)} {W : World} (h : laidMet Tryd.prog (((Rows.fnExactBoxesTextRow.named.getD 0 Rows.fnExactBoxesTextRow.spec), Lib.tabData .u64 Lib.pow10Tab) :: rest) W) : Pow W :=
  Lib.tabIs_of_head (g := 1) (t := 204) (e := 169) (n := 20) (by kernel_rfl) (by kernel_rfl) Tryd.underlying204 Tryd.underlying169 (by kernel_rfl) (by kernel_rfl) h
def lay_FormatInt_ren : Go.Shelf.Ren := ⟨fun | 173 => 125 | 246 => 148 | 283 => 169 | 284 => 170 | 285 => 171 | 286 => 172 | 129 => 190 | 317 => 189 | 318 => 191 | 319 => 192 | 320 => 193 | 337 => 201 | 338 => 202 | n => n, fun | 2 => 2 | 3 => 3 | 9 => 9 | 4 => 4 | 171 => 182 | 0 => 0 | 53 => 169 | 37 => 74 | 5 => 5 | 173 => 185 | 212 => 204 | 51 => 205 | 20 => 20 | 213 => 206 | 46 => 195 | 232 => 224 | 233 => 225 | n => n, fun | 17 => 1 | 18 => 6 | 19 => 7 | n => n⟩
theorem lay_FormatInt : Go.Proofs.LaysM.n173 Tryd.prog lay_FormatInt_ren := {
  mixed := by kernel_rfl
  f129 := Tryd.func190.trans (congrArg some (by kernel_rfl))
  f173 := Tryd.func125.trans (congrArg some (by kernel_rfl))
  f246 := Tryd.func148.trans (congrArg some (by kernel_rfl))
  f283 := Tryd.func169.trans (congrArg some (by kernel_rfl))
  f284 := Tryd.func170.trans (congrArg some (by kernel_rfl))
  f285 := Tryd.func171.trans (congrArg some (by kernel_rfl))
  f286 := Tryd.func172.trans (congrArg some (by kernel_rfl))
  f317 := Tryd.func189.trans (congrArg some (by kernel_rfl))
  f318 := Tryd.func191.trans (congrArg some (by kernel_rfl))
  f319 := Tryd.func192.trans (congrArg some (by kernel_rfl))
  f320 := Tryd.func193.trans (congrArg some (by kernel_rfl))
  f337 := Tryd.func201.trans (congrArg some (by kernel_rfl))
  f338 := Tryd.func202.trans (congrArg some (by kernel_rfl))
  t0 := Tryd.underlying0
  a0 := Tryd.isAgg0
  z0 := Tryd.sizeOf0
  v0 := Tryd.zeroValue0
  t2 := Tryd.underlying2
  a2 := Tryd.isAgg2
  z2 := Tryd.sizeOf2
  v2 := Tryd.zeroValue2
  t3 := Tryd.underlying3
  a3 := Tryd.isAgg3
  z3 := Tryd.sizeOf3
  v3 := Tryd.zeroValue3
  t4 := Tryd.underlying4
  a4 := Tryd.isAgg4
  z4 := Tryd.sizeOf4
  v4 := Tryd.zeroValue4
  t5 := Tryd.underlying5
  a5 := Tryd.isAgg5
  z5 := Tryd.sizeOf5
  v5 := Tryd.zeroValue5
  t9 := Tryd.underlying9
  a9 := Tryd.isAgg9
  z9 := Tryd.sizeOf9
  v9 := Tryd.zeroValue9
  t20 := Tryd.underlying20
  a20 := Tryd.isAgg20
  z20 := Tryd.sizeOf20
  v20 := Tryd.zeroValue20
  t37 := Tryd.underlying74
  a37 := Tryd.isAgg74
  z37 := Tryd.sizeOf74
  v37 := Tryd.zeroValue74
  t46 := Tryd.underlying195
  a46 := Tryd.isAgg195
  z46 := Tryd.sizeOf195
  v46 := Tryd.zeroValue195
  t51 := Tryd.underlying205
  a51 := Tryd.isAgg205
  z51 := Tryd.sizeOf205
  v51 := Tryd.zeroValue205
  t53 := Tryd.underlying169
  a53 := Tryd.isAgg169
  z53 := Tryd.sizeOf169
  v53 := Tryd.zeroValue169
  t171 := Tryd.underlying182
  a171 := Tryd.isAgg182
  z171 := Tryd.sizeOf182
  v171 := Tryd.zeroValue182
  t173 := Tryd.underlying185
  a173 := Tryd.isAgg185
  z173 := Tryd.sizeOf185
  v173 := Tryd.zeroValue185
  t212 := Tryd.underlying204
  a212 := Tryd.isAgg204
  z212 := Tryd.sizeOf204
  v212 := Tryd.zeroValue204
  t213 := Tryd.underlying206
  a213 := Tryd.isAgg206
  z213 := Tryd.sizeOf206
  t232 := Tryd.underlying224
  a232 := Tryd.isAgg224
  z232 := Tryd.sizeOf224
  v232 := Tryd.zeroValue224
  t233 := Tryd.underlying225
  a233 := Tryd.isAgg225
  z233 := Tryd.sizeOf225
  v233 := Tryd.zeroValue225
  g17 := by kernel_rfl
  g18 := by kernel_rfl
  g19 := by kernel_rfl
  i0 := by kernel_rfl
  i2 := by kernel_rfl
  i3 := by kernel_rfl
  i4 := by kernel_rfl
  i5 := by kernel_rfl
  i9 := by kernel_rfl
  i20 := by kernel_rfl
  i37 := by kernel_rfl
  i46 := by kernel_rfl
  i51 := by kernel_rfl
  i53 := by kernel_rfl
  i171 := by kernel_rfl
  i173 := by kernel_rfl
  i212 := by kernel_rfl
  i232 := by kernel_rfl
  i233 := by kernel_rfl
  m17 := by kernel_rfl
  m18 := by kernel_rfl
  m19 := by kernel_rfl }
theorem lib_FormatInt {n : Int} (hn : i64ok n) {w : World} (hT : Pow w) : Does Tryd.prog 125 [.int .i64 n, .int .i64 10] w (fun v w' => v = .string (decB n) ∧ Ext w w') := by
  have h : Calls Tryd.prog 125 #[.int .i64 n, .int .i64 10] w fun e w' => e = .returned (.string ⟨(Lib.itoa n).toArray⟩) ∧ ∃ k os, w' = Sort.grow (w.drewN k) os :=
    Any.strconv_FormatInt_10 lay_FormatInt n hn.1 hn.2 w hT
  refine Does.of_calls (by kernel_rfl) (h.mono ?_)
  rintro _ _ ⟨rfl, k, os, rfl⟩
  exact ⟨_, rfl, rfl, ext_grow w k os⟩
def lay_TrimPrefix_ren : Go.Shelf.Ren := ⟨fun | 101 => 144 | 208 => 165 | 206 => 188 | n => n, fun | 9 => 9 | 4 => 4 | 3 => 3 | n => n, fun | n => n⟩
theorem lay_TrimPrefix : Go.Proofs.Lays.n101 Tryd.prog lay_TrimPrefix_ren := {
  mixed := by kernel_rfl
  f101 := Tryd.func144.trans (congrArg some (by kernel_rfl))
  f206 := Tryd.func188.trans (congrArg some (by kernel_rfl))
  f208 := Tryd.func165.trans (congrArg some (by kernel_rfl))
  t3 := Tryd.underlying3
  a3 := Tryd.isAgg3
  z3 := Tryd.sizeOf3
  v3 := Tryd.zeroValue3
  t4 := Tryd.underlying4
  a4 := Tryd.isAgg4
  z4 := Tryd.sizeOf4
  v4 := Tryd.zeroValue4
  t9 := Tryd.underlying9
  a9 := Tryd.isAgg9
  z9 := Tryd.sizeOf9
  v9 := Tryd.zeroValue9 }
theorem lib_TrimMinus (s : ByteArray) (w : World) : Does Tryd.prog 144 [.string s, .string ⟨#[45]⟩] w (fun v w' => v = .string (bs (unsign s.data.toList)) ∧ w = w') := by
  have h : Calls Tryd.prog 144 #[.string s, .string ⟨#[45]⟩] w fun e w' => e = .returned (.string ⟨(Lib.trimPrefix s.data.toList [45]).toArray⟩) ∧ w' = w :=
    Any.strings_TrimPrefix lay_TrimPrefix s ⟨#[45]⟩ w
  refine Does.of_calls (by kernel_rfl) (h.mono ?_)
  rintro _ _ ⟨rfl, rfl⟩
  refine ⟨_, rfl, ?_, rfl⟩
  congr 1
  show bs _ = bs _
  congr 1
  unfold Lib.trimPrefix Lib.hasPrefix unsign
  cases s.data.toList with
  | nil => rfl
  | cons c r =>
    by_cases hc : c = 45
    · subst hc; simp
    · simp [hc, Ne.symm hc]
/-- the library's two errors -/
def Errs (w : World) : Prop := (∃ t p, w.var? Tryd.prog (Rows.fnExactCheckJournalRow.named.getD 3 Rows.fnExactCheckJournalRow.spec) = some #[.iface t p]) ∧ ∃ t p, w.var? Tryd.prog (Rows.fnExactCheckJournalRow.named.getD 4 Rows.fnExactCheckJournalRow.spec) = some #[.iface t p]
theorem Errs.ext {w w' : World} (h : Errs w) (e : Ext w w') : Errs w' := by
  obtain ⟨⟨t, p, h1⟩, t2, p2, h2⟩ := h
  exact ⟨⟨t, p, ext_var h1 e⟩, t2, p2, ext_var h2 e⟩
theorem Errs.of_laid {n1 n2 : String} {d1 d2 : DataW Unit} {r1 r2 : List (String × DataW Unit)} {W : World} (h1 : laidMet Tryd.prog (((Rows.fnExactCheckJournalRow.named.getD 3 Rows.fnExactCheckJournalRow.spec), .iface n1 d1) :: r1) W) (h2 : laidMet Tryd.prog (((Rows.fnExactCheckJournalRow.named.getD 4 Rows.fnExactCheckJournalRow.spec), .iface n2 d2) :: r2) W) : Errs W :=
  ⟨err_of_laid h1 (g := 2) (t := 153) (by kernel_rfl) (by kernel_rfl) Tryd.underlying153, err_of_laid h2 (g := 3) (t := 153) (by kernel_rfl) (by kernel_rfl) Tryd.underlying153⟩
def lay_ParseInt_ren : Go.Shelf.Ren := ⟨fun | 174 => 143 | 247 => 163 | 245 => 164 | 287 => 183 | 279 => 184 | 280 => 185 | 281 => 186 | 282 => 187 | 321 => 196 | 322 => 197 | 316 => 198 | 171 => 200 | 205 => 199 | 243 => 203 | 246 => 148 | 283 => 169 | 284 => 170 | 285 => 171 | 286 => 172 | 129 => 190 | 317 => 189 | 318 => 191 | 319 => 192 | 320 => 193 | 337 => 201 | 338 => 202 | n => n, fun | 9 => 9 | 3 => 3 | 2 => 2 | 75 => 153 | 85 => 163 | 4 => 4 | 167 => 196 | 5 => 5 | 53 => 169 | 175 => 197 | 46 => 195 | 168 => 199 | 37 => 74 | 0 => 0 | 210 => 214 | 21 => 21 | 127 => 174 | 145 => 223 | 143 => 221 | 171 => 182 | 173 => 185 | 212 => 204 | 51 => 205 | 20 => 20 | 213 => 206 | 232 => 224 | 233 => 225 | 80 => 156 | n => n, fun | 15 => 2 | 16 => 3 | 17 => 1 | 18 => 6 | 19 => 7 | n => n⟩
theorem lay_ParseInt : Go.Proofs.LaysC.n174 Tryd.prog lay_ParseInt_ren := {
  mixed := by kernel_rfl
  f129 := Tryd.func190.trans (congrArg some (by kernel_rfl))
  f171 := Tryd.func200.trans (congrArg some (by kernel_rfl))
  f174 := Tryd.func143.trans (congrArg some (by kernel_rfl))
  f205 := Tryd.func199.trans (congrArg some (by kernel_rfl))
  f243 := Tryd.func203.trans (congrArg some (by kernel_rfl))
  f245 := Tryd.func164.trans (congrArg some (by kernel_rfl))
  f246 := Tryd.func148.trans (congrArg some (by kernel_rfl))
  f247 := Tryd.func163.trans (congrArg some (by kernel_rfl))
  f279 := Tryd.func184.trans (congrArg some (by kernel_rfl))
  f280 := Tryd.func185.trans (congrArg some (by kernel_rfl))
  f281 := Tryd.func186.trans (congrArg some (by kernel_rfl))
  f282 := Tryd.func187.trans (congrArg some (by kernel_rfl))
  f283 := Tryd.func169.trans (congrArg some (by kernel_rfl))
  f284 := Tryd.func170.trans (congrArg some (by kernel_rfl))
  f285 := Tryd.func171.trans (congrArg some (by kernel_rfl))
  f286 := Tryd.func172.trans (congrArg some (by kernel_rfl))
  f287 := Tryd.func183.trans (congrArg some (by kernel_rfl))
  f316 := Tryd.func198.trans (congrArg some (by kernel_rfl))
  f317 := Tryd.func189.trans (congrArg some (by kernel_rfl))
  f318 := Tryd.func191.trans (congrArg some (by kernel_rfl))
  f319 := Tryd.func192.trans (congrArg some (by kernel_rfl))
  f320 := Tryd.func193.trans (congrArg some (by kernel_rfl))
  f321 := Tryd.func196.trans (congrArg some (by kernel_rfl))
  f322 := Tryd.func197.trans (congrArg some (by kernel_rfl))
  f337 := Tryd.func201.trans (congrArg some (by kernel_rfl))
  f338 := Tryd.func202.trans (congrArg some (by kernel_rfl))
  t0 := Tryd.underlying0
  a0 := Tryd.isAgg0
  z0 := Tryd.sizeOf0
  v0 := Tryd.zeroValue0
  t2 := Tryd.underlying2
  a2 := Tryd.isAgg2
  z2 := Tryd.sizeOf2
  v2 := Tryd.zeroValue2
  t3 := Tryd.underlying3
  a3 := Tryd.isAgg3
  z3 := Tryd.sizeOf3
  v3 := Tryd.zeroValue3
  t4 := Tryd.underlying4
  a4 := Tryd.isAgg4
  z4 := Tryd.sizeOf4
  v4 := Tryd.zeroValue4
  t5 := Tryd.underlying5
  a5 := Tryd.isAgg5
  z5 := Tryd.sizeOf5
  v5 := Tryd.zeroValue5
  t9 := Tryd.underlying9
  a9 := Tryd.isAgg9
  z9 := Tryd.sizeOf9
  v9 := Tryd.zeroValue9
  t20 := Tryd.underlying20
  a20 := Tryd.isAgg20
  z20 := Tryd.sizeOf20
  v20 := Tryd.zeroValue20
  t21 := Tryd.underlying21
  a21 := Tryd.isAgg21
  z21 := Tryd.sizeOf21
  v21 := Tryd.zeroValue21
  t37 := Tryd.underlying74
  a37 := Tryd.isAgg74
  z37 := Tryd.sizeOf74
  v37 := Tryd.zeroValue74
  t46 := Tryd.underlying195
  a46 := Tryd.isAgg195
  z46 := Tryd.sizeOf195
  v46 := Tryd.zeroValue195
  t51 := Tryd.underlying205
  a51 := Tryd.isAgg205
  z51 := Tryd.sizeOf205
  v51 := Tryd.zeroValue205
  t53 := Tryd.underlying169
  a53 := Tryd.isAgg169
  z53 := Tryd.sizeOf169
  v53 := Tryd.zeroValue169
  t75 := Tryd.underlying153
  a75 := Tryd.isAgg153
  z75 := Tryd.sizeOf153
  v75 := Tryd.zeroValue153
  t85 := Tryd.underlying163
  a85 := Tryd.isAgg163
  z85 := Tryd.sizeOf163
  v85 := Tryd.zeroValue163
  t127 := Tryd.underlying174
  a127 := Tryd.isAgg174
  z127 := Tryd.sizeOf174
  v127 := Tryd.zeroValue174
  t143 := Tryd.underlying221
  a143 := Tryd.isAgg221
  z143 := Tryd.sizeOf221
  v143 := Tryd.zeroValue221
  t145 := Tryd.underlying223
  a145 := Tryd.isAgg223
  z145 := Tryd.sizeOf223
  v145 := Tryd.zeroValue223
  t167 := Tryd.underlying196
  a167 := Tryd.isAgg196
  z167 := Tryd.sizeOf196
  v167 := Tryd.zeroValue196
  t168 := Tryd.underlying199
  a168 := Tryd.isAgg199
  z168 := Tryd.sizeOf199
  v168 := Tryd.zeroValue199
  t171 := Tryd.underlying182
  a171 := Tryd.isAgg182
  z171 := Tryd.sizeOf182
  v171 := Tryd.zeroValue182
  t173 := Tryd.underlying185
  a173 := Tryd.isAgg185
  z173 := Tryd.sizeOf185
  v173 := Tryd.zeroValue185
  t175 := Tryd.underlying197
  a175 := Tryd.isAgg197
  z175 := Tryd.sizeOf197
  v175 := Tryd.zeroValue197
  t210 := Tryd.underlying214
  a210 := Tryd.isAgg214
  z210 := Tryd.sizeOf214
  v210 := Tryd.zeroValue214
  t212 := Tryd.underlying204
  a212 := Tryd.isAgg204
  z212 := Tryd.sizeOf204
  v212 := Tryd.zeroValue204
  t213 := Tryd.underlying206
  a213 := Tryd.isAgg206
  z213 := Tryd.sizeOf206
  t232 := Tryd.underlying224
  a232 := Tryd.isAgg224
  z232 := Tryd.sizeOf224
  v232 := Tryd.zeroValue224
  t233 := Tryd.underlying225
  a233 := Tryd.isAgg225
  z233 := Tryd.sizeOf225
  v233 := Tryd.zeroValue225
  g15 := by kernel_rfl
  g16 := by kernel_rfl
  g17 := by kernel_rfl
  g18 := by kernel_rfl
  g19 := by kernel_rfl
  t80 := Tryd.underlying156
  a80 := Tryd.isAgg156
  z80 := Tryd.sizeOf156
  v80 := Tryd.zeroValue156
  i0 := by kernel_rfl
  i2 := by kernel_rfl
  i3 := by kernel_rfl
  i4 := by kernel_rfl
  i5 := by kernel_rfl
  i9 := by kernel_rfl
  i20 := by kernel_rfl
  i21 := by kernel_rfl
  i37 := by kernel_rfl
  i46 := by kernel_rfl
  i51 := by kernel_rfl
  i53 := by kernel_rfl
  i75 := by kernel_rfl
  i80 := by kernel_rfl
  i85 := by kernel_rfl
  i127 := by kernel_rfl
  i143 := by kernel_rfl
  i145 := by kernel_rfl
  i167 := by kernel_rfl
  i168 := by kernel_rfl
  i171 := by kernel_rfl
  i173 := by kernel_rfl
  i175 := by kernel_rfl
  i210 := by kernel_rfl
  i212 := by kernel_rfl
  i232 := by kernel_rfl
  i233 := by kernel_rfl
  m15 := by kernel_rfl
  m16 := by kernel_rfl
  m17 := by kernel_rfl
  m18 := by kernel_rfl
  m19 := by kernel_rfl
  c0 := by kernel_rfl
  c2 := by kernel_rfl
  c3 := by kernel_rfl
  c4 := by kernel_rfl
  c5 := by kernel_rfl
  c9 := by kernel_rfl
  c20 := by kernel_rfl
  c21 := by kernel_rfl
  c37 := by kernel_rfl
  c46 := by kernel_rfl
  c51 := by kernel_rfl
  c53 := by kernel_rfl
  c75 := by kernel_rfl
  c80 := by kernel_rfl
  c85 := by kernel_rfl
  c127 := by kernel_rfl
  c143 := by kernel_rfl
  c145 := by kernel_rfl
  c167 := by kernel_rfl
  c168 := by kernel_rfl
  c171 := by kernel_rfl
  c173 := by kernel_rfl
  c175 := by kernel_rfl
  c210 := by kernel_rfl
  c212 := by kernel_rfl
  c213 := by kernel_rfl
  c232 := by kernel_rfl
  c233 := by kernel_rfl }
theorem lib_ParseInt {s : ByteArray} (hs : s.size ≤ 281474976710656) {w : World} (hE : Errs w) :
    Does Tryd.prog 143 [.string s, .int .i64 10, .int .i64 64] w (fun v w' => ((∃ n, Lib.parseIntB 64 s.data.toList = .ok n ∧ v = .tuple #[.int .i64 n, .nilIface]) ∨
      ((∀ n, Lib.parseIntB 64 s.data.toList ≠ .ok n) ∧ ∃ n t a, v = .tuple #[.int .i64 n, .iface t (.pointer (some a))])) ∧ Ext w w') := by
  obtain ⟨⟨t, p, h1⟩, t2, p2, h2⟩ := hE
  cases hp : Lib.parseIntB 64 s.data.toList
  · rename_i n
    refine Does.of_calls (by kernel_rfl) ((Any.strconv_ParseInt_10_at64_ok lay_ParseInt s (by omega) n hp w).mono ?_)
    rintro _ _ ⟨rfl, hw⟩
    refine ⟨_, rfl, .inl ⟨n, rfl, rfl⟩, ?_⟩
    rcases hw with rfl | ⟨t, rfl⟩
    · exact Ext.refl _
    · exact Lib.bytesWorld_below _ _ _
  · refine Does.of_calls (by kernel_rfl) ((Any.strconv_ParseInt_10_at64_syntax_var lay_ParseInt s hs hp t p w h1).mono ?_)
    rintro _ _ ⟨N, rfl, _, _, hb⟩
    exact ⟨_, rfl, .inr ⟨(fun n h => by cases h), _, _, _, rfl⟩, hb⟩
  · refine Does.of_calls (by kernel_rfl) ((Any.strconv_ParseInt_10_at64_range_var lay_ParseInt s hs hp t2 p2 w h2).mono ?_)
    rintro _ _ ⟨N, rfl, _, _, hb⟩
    exact ⟨_, rfl, .inr ⟨(fun n h => by cases h), _, _, _, rfl⟩, hb⟩
def lay_Split_ren : Go.Shelf.Ren := ⟨fun | 146 => 110 | 221 => 141 | 268 => 159 | 138 => 160 | 143 => 161 | 195 => 177 | 197 => 178 | 218 => 179 | 219 => 162 | 260 => 194 | 217 => 158 | 225 => 180 | 224 => 181 | 267 => 182 | 266 => 176 | 314 => 195 | n => n, fun | 9 => 9 | 31 => 54 | 3 => 3 | 4 => 4 | 0 => 0 | 105 => 192 | 21 => 21 | 5 => 5 | 46 => 195 | 119 => 217 | 139 => 220 | 138 => 219 | 146 => 209 | 51 => 205 | n => n, fun | 1 => 0 | 3 => 4 | 4 => 5 | n => n⟩
theorem lay_Split : Go.Proofs.LaysM.n146 Tryd.prog lay_Split_ren := {
  mixed := by kernel_rfl
  f138 := Tryd.func160.trans (congrArg some (by kernel_rfl))
  f143 := Tryd.func161.trans (congrArg some (by kernel_rfl))
  f146 := Tryd.func110.trans (congrArg some (by kernel_rfl))
  f195 := Tryd.func177.trans (congrArg some (by kernel_rfl))
  f197 := Tryd.func178.trans (congrArg some (by kernel_rfl))
  f217 := Tryd.func158.trans (congrArg some (by kernel_rfl))
  f218 := Tryd.func179.trans (congrArg some (by kernel_rfl))
  f219 := Tryd.func162.trans (congrArg some (by kernel_rfl))
  f221 := Tryd.func141.trans (congrArg some (by kernel_rfl))
  f224 := Tryd.func181.trans (congrArg some (by kernel_rfl))
  f225 := Tryd.func180.trans (congrArg some (by kernel_rfl))
  f260 := Tryd.func194.trans (congrArg some (by kernel_rfl))
  f266 := Tryd.func176.trans (congrArg some (by kernel_rfl))
  f267 := Tryd.func182.trans (congrArg some (by kernel_rfl))
  f268 := Tryd.func159.trans (congrArg some (by kernel_rfl))
  f314 := Tryd.func195.trans (congrArg some (by kernel_rfl))
  t0 := Tryd.underlying0
  a0 := Tryd.isAgg0
  z0 := Tryd.sizeOf0
  v0 := Tryd.zeroValue0
  t3 := Tryd.underlying3
  a3 := Tryd.isAgg3
  z3 := Tryd.sizeOf3
  v3 := Tryd.zeroValue3
  t4 := Tryd.underlying4
  a4 := Tryd.isAgg4
  z4 := Tryd.sizeOf4
  v4 := Tryd.zeroValue4
  t5 := Tryd.underlying5
  a5 := Tryd.isAgg5
  z5 := Tryd.sizeOf5
  v5 := Tryd.zeroValue5
  t9 := Tryd.underlying9
  a9 := Tryd.isAgg9
  z9 := Tryd.sizeOf9
  v9 := Tryd.zeroValue9
  t21 := Tryd.underlying21
  a21 := Tryd.isAgg21
  z21 := Tryd.sizeOf21
  v21 := Tryd.zeroValue21
  t31 := Tryd.underlying54
  a31 := Tryd.isAgg54
  z31 := Tryd.sizeOf54
  v31 := Tryd.zeroValue54
  t46 := Tryd.underlying195
  a46 := Tryd.isAgg195
  z46 := Tryd.sizeOf195
  v46 := Tryd.zeroValue195
  t51 := Tryd.underlying205
  a51 := Tryd.isAgg205
  z51 := Tryd.sizeOf205
  v51 := Tryd.zeroValue205
  t105 := Tryd.underlying192
  a105 := Tryd.isAgg192
  z105 := Tryd.sizeOf192
  v105 := Tryd.zeroValue192
  t119 := Tryd.underlying217
  a119 := Tryd.isAgg217
  z119 := Tryd.sizeOf217
  t138 := Tryd.underlying219
  a138 := Tryd.isAgg219
  z138 := Tryd.sizeOf219
  v138 := Tryd.zeroValue219
  t139 := Tryd.underlying220
  a139 := Tryd.isAgg220
  z139 := Tryd.sizeOf220
  v139 := Tryd.zeroValue220
  t146 := Tryd.underlying209
  a146 := Tryd.isAgg209
  z146 := Tryd.sizeOf209
  v146 := Tryd.zeroValue209
  g1 := by kernel_rfl
  g3 := by kernel_rfl
  g4 := by kernel_rfl
  i0 := by kernel_rfl
  i3 := by kernel_rfl
  i4 := by kernel_rfl
  i5 := by kernel_rfl
  i9 := by kernel_rfl
  i21 := by kernel_rfl
  i31 := by kernel_rfl
  i46 := by kernel_rfl
  i51 := by kernel_rfl
  i105 := by kernel_rfl
  i138 := by kernel_rfl
  i139 := by kernel_rfl
  i146 := by kernel_rfl
  m1 := by kernel_rfl
  s1_3 := fun w h => Go.Proofs.cell_of_shapedOpen_int (zero := #[.int .i64 0]) (t := 3) h (of_decide_eq_true (by kernel_rfl)) (by kernel_rfl) rfl (by kernel_rfl) (by kernel_rfl) Tryd.underlying3
  m3 := by kernel_rfl
  m4 := by kernel_rfl }
/-- the library's bound for a short search is some number -/
def MaxL (w : World) : Prop := ∃ m, w.cell? ⟨lay_Split_ren.g 1, 0, none⟩ = some (.int .i64 m)
theorem MaxL.ext {w w' : World} (h : MaxL w) (e : Ext w w') : MaxL w' := by
  obtain ⟨m, h⟩ := h
  exact ⟨m, ext_cell h e⟩
theorem MaxL.of_shaped {w : World} (h : w.ShapedOpen Tryd.prog) : MaxL w := lay_Split.s1_3 w h
theorem lib_Split {s : ByteArray} {c : UInt8} (hs : s.size < 4294967281) {w : World} (hM : MaxL w) :
    Does Tryd.prog 110 [.string s, .string ⟨#[c]⟩] w (fun v w' => ∃ b, v = .slice (some ⟨b, 0, none⟩) (splitS c s).length (splitS c s).length ∧ w.heap.size ≤ b ∧ Blk w' b (flat eS (splitS c s)) 9 ∧ Ext w w') := by
  obtain ⟨m, hm⟩ := hM
  have h : Calls Tryd.prog 110 #[.string s, .string ⟨#[c]⟩] w _ := Any.strings_Split { lay_Split with } lay_Split.i9 s ⟨#[c]⟩ m w hs hm (by show 1 ≤ 1; omega)
  refine Does.of_calls (by kernel_rfl) (h.mono ?_)
  rintro _ _ ⟨rfl, rfl⟩
  rw [← splitS_len, splitB_eq]
  refine ⟨_, rfl, w.heap.size, rfl, Nat.le_refl _, ?_, alloc_ext _ _⟩
  rw [flat_eS]
  exact alloc_blk _ _ _
def lay_Cut_ren : Go.Shelf.Ren := ⟨fun | 145 => 111 | 220 => 142 | 219 => 162 | 217 => 158 | 225 => 180 | 224 => 181 | 267 => 182 | 266 => 176 | 314 => 195 | n => n, fun | 9 => 9 | 4 => 4 | 59 => 128 | 3 => 3 | 5 => 5 | 46 => 195 | 146 => 209 | 51 => 205 | n => n, fun | 1 => 0 | n => n⟩
theorem lay_Cut : Go.Proofs.LaysM.n145 Tryd.prog lay_Cut_ren := {
  mixed := by kernel_rfl
  f145 := Tryd.func111.trans (congrArg some (by kernel_rfl))
  f217 := Tryd.func158.trans (congrArg some (by kernel_rfl))
  f219 := Tryd.func162.trans (congrArg some (by kernel_rfl))
  f220 := Tryd.func142.trans (congrArg some (by kernel_rfl))
  f224 := Tryd.func181.trans (congrArg some (by kernel_rfl))
  f225 := Tryd.func180.trans (congrArg some (by kernel_rfl))
  f266 := Tryd.func176.trans (congrArg some (by kernel_rfl))
  f267 := Tryd.func182.trans (congrArg some (by kernel_rfl))
  f314 := Tryd.func195.trans (congrArg some (by kernel_rfl))
  t3 := Tryd.underlying3
  a3 := Tryd.isAgg3
  z3 := Tryd.sizeOf3
  v3 := Tryd.zeroValue3
  t4 := Tryd.underlying4
  a4 := Tryd.isAgg4
  z4 := Tryd.sizeOf4
  v4 := Tryd.zeroValue4
  t5 := Tryd.underlying5
  a5 := Tryd.isAgg5
  z5 := Tryd.sizeOf5
  v5 := Tryd.zeroValue5
  t9 := Tryd.underlying9
  a9 := Tryd.isAgg9
  z9 := Tryd.sizeOf9
  v9 := Tryd.zeroValue9
  t46 := Tryd.underlying195
  a46 := Tryd.isAgg195
  z46 := Tryd.sizeOf195
  v46 := Tryd.zeroValue195
  t51 := Tryd.underlying205
  a51 := Tryd.isAgg205
  z51 := Tryd.sizeOf205
  v51 := Tryd.zeroValue205
  t59 := Tryd.underlying128
  a59 := Tryd.isAgg128
  z59 := Tryd.sizeOf128
  v59 := Tryd.zeroValue128
  t146 := Tryd.underlying209
  a146 := Tryd.isAgg209
  z146 := Tryd.sizeOf209
  v146 := Tryd.zeroValue209
  g1 := by kernel_rfl
  i3 := by kernel_rfl
  i4 := by kernel_rfl
  i5 := by kernel_rfl
  i9 := by kernel_rfl
  i46 := by kernel_rfl
  i51 := by kernel_rfl
  i59 := by kernel_rfl
  i146 := by kernel_rfl
  m1 := by kernel_rfl
  s1_3 := fun w h => Go.Proofs.cell_of_shapedOpen_int (zero := #[.int .i64 0]) (t := 3) h (of_decide_eq_true (by kernel_rfl)) (by kernel_rfl) rfl (by kernel_rfl) (by kernel_rfl) Tryd.underlying3 }
theorem lib_Cut {s : ByteArray} {c : UInt8} (hs : s.size < 4294967281) {w : World} (hM : MaxL w) :
    Does Tryd.prog 111 [.string s, .string ⟨#[c]⟩] w (fun v w' => v = .tuple #[.string (bs (Lib.cut s.data.toList [c]).1), .string (bs (Lib.cut s.data.toList [c]).2.1), .bool (Lib.cut s.data.toList [c]).2.2] ∧ Ext w w') := by
  obtain ⟨m, hm⟩ := hM
  have h : Calls Tryd.prog 111 #[.string s, .string ⟨#[c]⟩] w _ := Any.strings_Cut { lay_Cut with } s ⟨#[c]⟩ m w hs hm
  refine Does.of_calls (by kernel_rfl) (h.mono ?_)
  rintro _ _ ⟨rfl, n, rfl⟩
  exact ⟨_, rfl, rfl, ⟨rfl, rfl, rfl, Nat.le_refl _, fun _ _ => rfl⟩⟩
def lay_IndexByte_ren : Go.Shelf.Ren := ⟨fun | 137 => 139 | 217 => 158 | 266 => 176 | n => n, fun | 9 => 9 | 5 => 5 | 3 => 3 | n => n, fun | n => n⟩
theorem lay_IndexByte : Go.Proofs.Lays.n137 Tryd.prog lay_IndexByte_ren := {
  mixed := by kernel_rfl
  f137 := Tryd.func139.trans (congrArg some (by kernel_rfl))
  f217 := Tryd.func158.trans (congrArg some (by kernel_rfl))
  f266 := Tryd.func176.trans (congrArg some (by kernel_rfl))
  t3 := Tryd.underlying3
  a3 := Tryd.isAgg3
  z3 := Tryd.sizeOf3
  v3 := Tryd.zeroValue3
  t5 := Tryd.underlying5
  a5 := Tryd.isAgg5
  z5 := Tryd.sizeOf5
  v5 := Tryd.zeroValue5
  t9 := Tryd.underlying9
  a9 := Tryd.isAgg9
  z9 := Tryd.sizeOf9
  v9 := Tryd.zeroValue9 }
theorem lib_IndexByte (s : ByteArray) (c : UInt8) (w : World) : Does Tryd.prog 139 [.string s, .int .u8 c.toNat] w (fun v w' => v = .int .i64 (Lib.indexByte s.data.toList c) ∧ w = w') := by
  have h : Calls Tryd.prog 139 #[.string s, .int .u8 c.toNat] w _ := Any.strings_IndexByte lay_IndexByte s c.toNat w
  refine Does.of_calls (by kernel_rfl) (h.mono ?_)
  rintro _ _ ⟨rfl, rfl⟩
  exact ⟨_, rfl, by simp, rfl⟩
def lay_Join_ren : Go.Shelf.Ren := ⟨fun | 156 => 95 | 165 => 134 | 166 => 135 | 169 => 136 | 240 => 154 | 241 => 155 | 276 => 173 | 277 => 174 | n => n, fun | 31 => 54 | 9 => 9 | 3 => 3 | 4 => 4 | 0 => 0 | 20 => 20 | 72 => 150 | 76 => 154 | 70 => 148 | 37 => 74 | 75 => 153 | 127 => 174 | 164 => 187 | 5 => 5 | 80 => 156 | n => n, fun | n => n⟩
theorem lay_Join : Go.Proofs.Lays.n156 Tryd.prog lay_Join_ren := {
  mixed := by kernel_rfl
  f156 := Tryd.func95.trans (congrArg some (by kernel_rfl))
  f165 := Tryd.func134.trans (congrArg some (by kernel_rfl))
  f166 := Tryd.func135.trans (congrArg some (by kernel_rfl))
  f169 := Tryd.func136.trans (congrArg some (by kernel_rfl))
  f240 := Tryd.func154.trans (congrArg some (by kernel_rfl))
  f241 := Tryd.func155.trans (congrArg some (by kernel_rfl))
  f276 := Tryd.func173.trans (congrArg some (by kernel_rfl))
  f277 := Tryd.func174.trans (congrArg some (by kernel_rfl))
  t0 := Tryd.underlying0
  a0 := Tryd.isAgg0
  z0 := Tryd.sizeOf0
  v0 := Tryd.zeroValue0
  t3 := Tryd.underlying3
  a3 := Tryd.isAgg3
  z3 := Tryd.sizeOf3
  v3 := Tryd.zeroValue3
  t4 := Tryd.underlying4
  a4 := Tryd.isAgg4
  z4 := Tryd.sizeOf4
  v4 := Tryd.zeroValue4
  t9 := Tryd.underlying9
  a9 := Tryd.isAgg9
  z9 := Tryd.sizeOf9
  v9 := Tryd.zeroValue9
  t20 := Tryd.underlying20
  a20 := Tryd.isAgg20
  z20 := Tryd.sizeOf20
  v20 := Tryd.zeroValue20
  t31 := Tryd.underlying54
  a31 := Tryd.isAgg54
  z31 := Tryd.sizeOf54
  v31 := Tryd.zeroValue54
  t37 := Tryd.underlying74
  a37 := Tryd.isAgg74
  z37 := Tryd.sizeOf74
  v37 := Tryd.zeroValue74
  t70 := Tryd.underlying148
  a70 := Tryd.isAgg148
  z70 := Tryd.sizeOf148
  v70 := Tryd.zeroValue148
  t72 := Tryd.underlying150
  a72 := Tryd.isAgg150
  z72 := Tryd.sizeOf150
  v72 := Tryd.zeroValue150
  t75 := Tryd.underlying153
  a75 := Tryd.isAgg153
  z75 := Tryd.sizeOf153
  v75 := Tryd.zeroValue153
  t76 := Tryd.underlying154
  a76 := Tryd.isAgg154
  z76 := Tryd.sizeOf154
  v76 := Tryd.zeroValue154
  t127 := Tryd.underlying174
  a127 := Tryd.isAgg174
  z127 := Tryd.sizeOf174
  v127 := Tryd.zeroValue174
  t164 := Tryd.underlying187
  a164 := Tryd.isAgg187
  z164 := Tryd.sizeOf187
  v164 := Tryd.zeroValue187 }
theorem lay_JoinX : Builder.Extra Tryd.prog lay_Join_ren := {
  sizeBuilder := by kernel_rfl
  liesBuilder := by kernel_rfl
  t5 := Tryd.underlying5
  a5 := Tryd.isAgg5
  z5 := Tryd.sizeOf5
  v5 := Tryd.zeroValue5
  infoByte := by kernel_rfl
  cellsByte := by kernel_rfl
  sizeByte := by kernel_rfl
  neB5 := by decide }
theorem lib_Join {xs : List ByteArray} {sep : ByteArray} {b n c : Nat} {w : World} (h : Cells w b 0 (flat eS xs)) (hb : b < w.heap.size) (hn : xs.length = n) (hc : n ≤ c) (hN : n ≤ 140737488355328)
    (hl : (Lib.join (xs.map (·.data.toList)) sep.data.toList).length ≤ 140737488355328) :
    Does Tryd.prog 95 [.slice (some ⟨b, 0, none⟩) n c, .string sep] w (fun v w' => v = .string (bs (Lib.join (xs.map (·.data.toList)) sep.data.toList)) ∧ Ext w w') := by
  subst hn
  have hh : Calls Tryd.prog 95 #[.slice (some ⟨b, 0, none⟩) xs.length c, .string sep] w _ := Any.strings_Join lay_Join lay_JoinX b 0 c xs sep w (fun j x hx => by
    have := h j (.string x) (by
      rw [flat_eS, List.getElem?_map, hx]
      rfl)
    exact this) hb hN hc hl
  refine Does.of_calls (by kernel_rfl) (hh.mono ?_)
  rintro _ _ ⟨rfl, hb⟩
  exact ⟨_, rfl, rfl, hb⟩
theorem lib_Join4 {a1 a2 a3 a4 : ByteArray} {b t : Nat} {w : World} (h : Blk w b [.string a1, .string a2, .string a3, .string a4] t) (h1 : a1.size ≤ 1000) (h2 : a2.size ≤ 1000) (h3 : a3.size ≤ 1000) (h4 : a4.size ≤ 1000) :
    Does Tryd.prog 95 [.slice (some ⟨b, 0, none⟩) 4 4, .string ⟨#[32]⟩] w (fun v w' => v = .string (a1 ++ bs [32] ++ a2 ++ bs [32] ++ a3 ++ bs [32] ++ a4) ∧ Ext w w') := by
  have e : bs (Lib.join [a1.data.toList, a2.data.toList, a3.data.toList, a4.data.toList] [32]) = a1 ++ bs [32] ++ a2 ++ bs [32] ++ a3 ++ bs [32] ++ a4 := by
    apply bytes_ext
    rw [bs_data, Lib.join_cons]
    simp [Lib.joinTail, bs]
  have hz : (Lib.join [a1.data.toList, a2.data.toList, a3.data.toList, a4.data.toList] [32]).length = a1.size + a2.size + a3.size + a4.size + 3 := by
    have := congrArg ByteArray.size e
    rw [bs_size] at this
    rw [this]
    have e1 : (bs [32]).size = 1 := rfl
    simp only [ByteArray.size_append, e1]
    omega
  have := lib_Join (xs := [a1, a2, a3, a4]) (sep := ⟨#[32]⟩) (n := 4) (c := 4) h.cells h.lt rfl (by omega) (by omega) (by show (Lib.join [a1.data.toList, a2.data.toList, a3.data.toList, a4.data.toList] [32]).length ≤ _; omega)
  refine this.mono ?_
  rintro _ w1 ⟨rfl, e1⟩
  exact ⟨congrArg Value.string e, e1⟩
theorem lib_Join6 {a1 a2 a3 a4 a5 a6 : ByteArray} {b t : Nat} {w : World} (h : Blk w b [.string a1, .string a2, .string a3, .string a4, .string a5, .string a6] t) (h1 : a1.size ≤ 1000) (h2 : a2.size ≤ 1000) (h3 : a3.size ≤ 1000) (h4 : a4.size ≤ 1000) (h5 : a5.size ≤ 1000) (h6 : a6.size ≤ 1000) :
    Does Tryd.prog 95 [.slice (some ⟨b, 0, none⟩) 6 6, .string ⟨#[32]⟩] w (fun v w' => v = .string (a1 ++ bs [32] ++ a2 ++ bs [32] ++ a3 ++ bs [32] ++ a4 ++ bs [32] ++ a5 ++ bs [32] ++ a6) ∧ Ext w w') := by
  have e : bs (Lib.join [a1.data.toList, a2.data.toList, a3.data.toList, a4.data.toList, a5.data.toList, a6.data.toList] [32]) = a1 ++ bs [32] ++ a2 ++ bs [32] ++ a3 ++ bs [32] ++ a4 ++ bs [32] ++ a5 ++ bs [32] ++ a6 := by
    apply bytes_ext
    rw [bs_data, Lib.join_cons]
    simp [Lib.joinTail, bs]
  have hz : (Lib.join [a1.data.toList, a2.data.toList, a3.data.toList, a4.data.toList, a5.data.toList, a6.data.toList] [32]).length = a1.size + a2.size + a3.size + a4.size + a5.size + a6.size + 5 := by
    have := congrArg ByteArray.size e
    rw [bs_size] at this
    rw [this]
    have e1 : (bs [32]).size = 1 := rfl
    simp only [ByteArray.size_append, e1]
    omega
  have := lib_Join (xs := [a1, a2, a3, a4, a5, a6]) (sep := ⟨#[32]⟩) (n := 6) (c := 6) h.cells h.lt rfl (by omega) (by omega) (by show (Lib.join [a1.data.toList, a2.data.toList, a3.data.toList, a4.data.toList, a5.data.toList, a6.data.toList] [32]).length ≤ _; omega)
  refine this.mono ?_
  rintro _ w1 ⟨rfl, e1⟩
  exact ⟨congrArg Value.string e, e1⟩
end Go.Proofs.YtilagemeigeceaaDoor
