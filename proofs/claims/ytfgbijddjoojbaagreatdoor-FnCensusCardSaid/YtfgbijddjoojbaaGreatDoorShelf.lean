/- Contracts of functions of the given program, of the reference and of the laws: each says what a call returns, for all arguments that meet the premises that the theorem itself names. -/
import Derived.Test.YtfgbijddjoojbaaGreatDoorBase
import Derived.Test.YtfgbijddjoojbaaGreatDoorNum
import Derived.Test.YtfgbijddjoojbaaGreatDoorLiftBase
import Derived.Test.YtfgbijddjoojbaaGreatDoorVcTied
import Derived.Shelf.Strconv.Itoa4
import Derived.Shelf.Strconv.ParseIntPublic10
import Derived.Shelf.Strconv.ErrVarParseInt
import Derived.Shelf.Strings.SplitShaped
import Derived.Shelf.Strings.OnBuilder
import Derived.Shelf.Small.Strs
import Derived.Shelf.Strings.Prefix
namespace Go.Proofs.YtfgbijddjoojbaaGreatDoor
open Go Go.RowKit Go.Vc Go.M Go.Shelf Go.Proofs
theorem ext_var {w w' : World} {n : String} {cs : Array Value} (h : w.var? Tryz.prog n = some cs) (e : Ext w w') : w'.var? Tryz.prog n = some cs := by
  unfold World.var? at *
  cases hg : (Tryz.prog).globalNamed n with
  | none => simp [hg] at h
  | some g =>
    simp only [hg, Option.bind_some] at h ⊢
    have hlt : g < w.heap.size := by
      rcases Nat.lt_or_ge g w.heap.size with h' | h'
      · exact h'
      · rw [Array.getElem?_eq_none h'] at h; simp at h
    rw [e.block g hlt]
    exact h
theorem ext_cell {w w' : World} {a : Addr} {v : Value} (h : w.cell? a = some v) (e : Ext w w') : w'.cell? a = some v := by
  rw [cell_of_block (e.block a.block (cell_lt h))]
  exact h
theorem flat_eS : ∀ xs : List ByteArray, flat eS xs = xs.map Value.string
  | [] => rfl
  | x :: xs => by
    have := flat_eS xs
    simp only [flat, eS, List.flatMap_cons, List.map_cons] at *
    rw [this]
    rfl
theorem ext_grow (w : World) (k : Nat) (os : Array Obj) : Ext w (Sort.grow (w.drewN k) os) := by
  refine ⟨rfl, rfl, rfl, ?_, fun i hi => ?_⟩
  · show w.heap.size ≤ (w.heap ++ os).size
    simp
  · show (w.heap ++ os)[i]? = w.heap[i]?
    rw [Array.getElem?_append, if_pos hi]
/-- the library's table of powers stands as it was laid -/
def Pow (w : World) : Prop := Lib.TabIs Tryz.prog w (Rows.fnCensusRow.named.getD 0 Rows.fnCensusRow.spec) .u64 Lib.pow10Tab
theorem Pow.ext {w w' : World} (h : Pow w) (e : Ext w w') : Pow w' := ext_var h e
theorem Pow.of_laid {rest : List (String × DataW Unit)} {W : World} (h : laidMet Tryz.prog (((Rows.fnCensusRow.named.getD 0 Rows.fnCensusRow.spec), Lib.tabData .u64 Lib.pow10Tab) :: rest) W) : Pow W :=
  Lib.tabIs_of_head (g := 1) (t := 251) (e := 149) (n := 20) (by kernel_rfl) (by kernel_rfl) Tryz.underlying251 Tryz.underlying149 (by kernel_rfl) (by kernel_rfl) h
def lay_FormatInt_ren : Go.Shelf.Ren := ⟨fun | 173 => 148 | 246 => 192 | 283 => 213 | 284 => 214 | 285 => 215 | 286 => 216 | 129 => 235 | 317 => 234 | 318 => 236 | 319 => 237 | 320 => 238 | 337 => 253 | 338 => 254 | n => n, fun | 2 => 2 | 3 => 3 | 9 => 9 | 4 => 4 | 171 => 229 | 0 => 0 | 53 => 149 | 37 => 22 | 5 => 5 | 173 => 232 | 212 => 251 | 51 => 252 | 20 => 20 | 213 => 253 | 46 => 193 | 232 => 271 | 233 => 272 | n => n, fun | 17 => 1 | 18 => 6 | 19 => 7 | n => n⟩
theorem lay_FormatInt : Go.Proofs.LaysM.n173 Tryz.prog lay_FormatInt_ren := {
  mixed := by kernel_rfl
  f129 := Tryz.func235.trans (congrArg some (by kernel_rfl))
  f173 := Tryz.func148.trans (congrArg some (by kernel_rfl))
  f246 := Tryz.func192.trans (congrArg some (by kernel_rfl))
  f283 := Tryz.func213.trans (congrArg some (by kernel_rfl))
  f284 := Tryz.func214.trans (congrArg some (by kernel_rfl))
  f285 := Tryz.func215.trans (congrArg some (by kernel_rfl))
  f286 := Tryz.func216.trans (congrArg some (by kernel_rfl))
  f317 := Tryz.func234.trans (congrArg some (by kernel_rfl))
  f318 := Tryz.func236.trans (congrArg some (by kernel_rfl))
  f319 := Tryz.func237.trans (congrArg some (by kernel_rfl))
  f320 := Tryz.func238.trans (congrArg some (by kernel_rfl))
  f337 := Tryz.func253.trans (congrArg some (by kernel_rfl))
  f338 := Tryz.func254.trans (congrArg some (by kernel_rfl))
  t0 := Tryz.underlying0
  a0 := Tryz.isAgg0
  z0 := Tryz.sizeOf0
  v0 := Tryz.zeroValue0
  t2 := Tryz.underlying2
  a2 := Tryz.isAgg2
  z2 := Tryz.sizeOf2
  v2 := Tryz.zeroValue2
  t3 := Tryz.underlying3
  a3 := Tryz.isAgg3
  z3 := Tryz.sizeOf3
  v3 := Tryz.zeroValue3
  t4 := Tryz.underlying4
  a4 := Tryz.isAgg4
  z4 := Tryz.sizeOf4
  v4 := Tryz.zeroValue4
  t5 := Tryz.underlying5
  a5 := Tryz.isAgg5
  z5 := Tryz.sizeOf5
  v5 := Tryz.zeroValue5
  t9 := Tryz.underlying9
  a9 := Tryz.isAgg9
  z9 := Tryz.sizeOf9
  v9 := Tryz.zeroValue9
  t20 := Tryz.underlying20
  a20 := Tryz.isAgg20
  z20 := Tryz.sizeOf20
  v20 := Tryz.zeroValue20
  t37 := Tryz.underlying22
  a37 := Tryz.isAgg22
  z37 := Tryz.sizeOf22
  v37 := Tryz.zeroValue22
  t46 := Tryz.underlying193
  a46 := Tryz.isAgg193
  z46 := Tryz.sizeOf193
  v46 := Tryz.zeroValue193
  t51 := Tryz.underlying252
  a51 := Tryz.isAgg252
  z51 := Tryz.sizeOf252
  v51 := Tryz.zeroValue252
  t53 := Tryz.underlying149
  a53 := Tryz.isAgg149
  z53 := Tryz.sizeOf149
  v53 := Tryz.zeroValue149
  t171 := Tryz.underlying229
  a171 := Tryz.isAgg229
  z171 := Tryz.sizeOf229
  v171 := Tryz.zeroValue229
  t173 := Tryz.underlying232
  a173 := Tryz.isAgg232
  z173 := Tryz.sizeOf232
  v173 := Tryz.zeroValue232
  t212 := Tryz.underlying251
  a212 := Tryz.isAgg251
  z212 := Tryz.sizeOf251
  v212 := Tryz.zeroValue251
  t213 := Tryz.underlying253
  a213 := Tryz.isAgg253
  z213 := Tryz.sizeOf253
  t232 := Tryz.underlying271
  a232 := Tryz.isAgg271
  z232 := Tryz.sizeOf271
  v232 := Tryz.zeroValue271
  t233 := Tryz.underlying272
  a233 := Tryz.isAgg272
  z233 := Tryz.sizeOf272
  v233 := Tryz.zeroValue272
  g17 := by kernel_rfl
  g18 := by kernel_rfl
  g19 := by kernel_rfl
  i0 := by kernel_rfl
  i2 := by kernel_rfl
  i3 := by kernel_rfl
  i4 := by kernel_rfl
  i5 := by kernel_rfl
  i9 := by kernel_rfl
  i20 := by kernel_rfl
  i37 := by kernel_rfl
  i46 := by kernel_rfl
  i51 := by kernel_rfl
  i53 := by kernel_rfl
  i171 := by kernel_rfl
  i173 := by kernel_rfl
  i212 := by kernel_rfl
  i232 := by kernel_rfl
  i233 := by kernel_rfl
  m17 := by kernel_rfl
  m18 := by kernel_rfl
  m19 := by kernel_rfl }
theorem lib_FormatInt {n : Int} (hn : i64ok n) {w : World} (hT : Pow w) : Does Tryz.prog 148 [.int .i64 n, .int .i64 10] w (fun v w' => v = .string (decB n) ∧ Ext w w') := by
  have h : Calls Tryz.prog 148 #[.int .i64 n, .int .i64 10] w fun e w' => e = .returned (.string ⟨(Lib.itoa n).toArray⟩) ∧ ∃ k os, w' = Sort.grow (w.drewN k) os :=
    Any.strconv_FormatInt_10 lay_FormatInt n hn.1 hn.2 w hT
  refine Does.of_calls (by kernel_rfl) (h.mono ?_)
  rintro _ _ ⟨rfl, k, os, rfl⟩
  exact ⟨_, rfl, rfl, ext_grow w k os⟩
def lay_TrimPrefix_ren : Go.Shelf.Ren := ⟨fun | 101 => 151 | 208 => 198 | 206 => 226 | n => n, fun | 9 => 9 | 4 => 4 | 3 => 3 | n => n, fun | n => n⟩
theorem lay_TrimPrefix : Go.Proofs.Lays.n101 Tryz.prog lay_TrimPrefix_ren := {
  mixed := by kernel_rfl
  f101 := Tryz.func151.trans (congrArg some (by kernel_rfl))
  f206 := Tryz.func226.trans (congrArg some (by kernel_rfl))
  f208 := Tryz.func198.trans (congrArg some (by kernel_rfl))
  t3 := Tryz.underlying3
  a3 := Tryz.isAgg3
  z3 := Tryz.sizeOf3
  v3 := Tryz.zeroValue3
  t4 := Tryz.underlying4
  a4 := Tryz.isAgg4
  z4 := Tryz.sizeOf4
  v4 := Tryz.zeroValue4
  t9 := Tryz.underlying9
  a9 := Tryz.isAgg9
  z9 := Tryz.sizeOf9
  v9 := Tryz.zeroValue9 }
theorem lib_TrimMinus (s : ByteArray) (w : World) : Does Tryz.prog 151 [.string s, .string ⟨#[45]⟩] w (fun v w' => v = .string (bs (unsign s.data.toList)) ∧ w = w') := by
  have h : Calls Tryz.prog 151 #[.string s, .string ⟨#[45]⟩] w fun e w' => e = .returned (.string ⟨(Lib.trimPrefix s.data.toList [45]).toArray⟩) ∧ w' = w :=
    Any.strings_TrimPrefix lay_TrimPrefix s ⟨#[45]⟩ w
  refine Does.of_calls (by kernel_rfl) (h.mono ?_)
  rintro _ _ ⟨rfl, rfl⟩
  refine ⟨_, rfl, ?_, rfl⟩
  congr 1
  show bs _ = bs _
  congr 1
  unfold Lib.trimPrefix Lib.hasPrefix unsign
  cases s.data.toList with
  | nil => rfl
  | cons c r =>
    by_cases hc : c = 45
    · subst hc; simp
    · simp [hc, Ne.symm hc]
/-- the library's two errors -/
def Errs (w : World) : Prop := (∃ t p, w.var? Tryz.prog (Rows.fnMovesRow.named.getD 6 Rows.fnMovesRow.spec) = some #[.iface t p]) ∧ ∃ t p, w.var? Tryz.prog (Rows.fnMovesRow.named.getD 7 Rows.fnMovesRow.spec) = some #[.iface t p]
theorem Errs.ext {w w' : World} (h : Errs w) (e : Ext w w') : Errs w' := by
  obtain ⟨⟨t, p, h1⟩, t2, p2, h2⟩ := h
  exact ⟨⟨t, p, ext_var h1 e⟩, t2, p2, ext_var h2 e⟩
theorem Errs.of_laid {n1 n2 : String} {d1 d2 : DataW Unit} {r1 r2 : List (String × DataW Unit)} {W : World} (h1 : laidMet Tryz.prog (((Rows.fnMovesRow.named.getD 6 Rows.fnMovesRow.spec), .iface n1 d1) :: r1) W) (h2 : laidMet Tryz.prog (((Rows.fnMovesRow.named.getD 7 Rows.fnMovesRow.spec), .iface n2 d2) :: r2) W) : Errs W :=
  ⟨err_of_laid h1 (g := 2) (t := 177) (by kernel_rfl) (by kernel_rfl) Tryz.underlying177, err_of_laid h2 (g := 3) (t := 177) (by kernel_rfl) (by kernel_rfl) Tryz.underlying177⟩
def lay_ParseInt_ren : Go.Shelf.Ren := ⟨fun | 174 => 150 | 247 => 196 | 245 => 197 | 287 => 221 | 279 => 222 | 280 => 223 | 281 => 224 | 282 => 225 | 321 => 244 | 322 => 245 | 316 => 246 | 171 => 248 | 205 => 247 | 243 => 257 | 246 => 192 | 283 => 213 | 284 => 214 | 285 => 215 | 286 => 216 | 129 => 235 | 317 => 234 | 318 => 236 | 319 => 237 | 320 => 238 | 337 => 253 | 338 => 254 | n => n, fun | 9 => 9 | 3 => 3 | 2 => 2 | 75 => 177 | 85 => 183 | 4 => 4 | 167 => 236 | 5 => 5 | 53 => 149 | 175 => 237 | 46 => 193 | 168 => 239 | 37 => 22 | 0 => 0 | 210 => 258 | 21 => 21 | 127 => 213 | 145 => 270 | 143 => 268 | 171 => 229 | 173 => 232 | 212 => 251 | 51 => 252 | 20 => 20 | 213 => 253 | 232 => 271 | 233 => 272 | 80 => 180 | n => n, fun | 15 => 2 | 16 => 3 | 17 => 1 | 18 => 6 | 19 => 7 | n => n⟩
theorem lay_ParseInt : Go.Proofs.LaysC.n174 Tryz.prog lay_ParseInt_ren := {
  mixed := by kernel_rfl
  f129 := Tryz.func235.trans (congrArg some (by kernel_rfl))
  f171 := Tryz.func248.trans (congrArg some (by kernel_rfl))
  f174 := Tryz.func150.trans (congrArg some (by kernel_rfl))
  f205 := Tryz.func247.trans (congrArg some (by kernel_rfl))
  f243 := Tryz.func257.trans (congrArg some (by kernel_rfl))
  f245 := Tryz.func197.trans (congrArg some (by kernel_rfl))
  f246 := Tryz.func192.trans (congrArg some (by kernel_rfl))
  f247 := Tryz.func196.trans (congrArg some (by kernel_rfl))
  f279 := Tryz.func222.trans (congrArg some (by kernel_rfl))
  f280 := Tryz.func223.trans (congrArg some (by kernel_rfl))
  f281 := Tryz.func224.trans (congrArg some (by kernel_rfl))
  f282 := Tryz.func225.trans (congrArg some (by kernel_rfl))
  f283 := Tryz.func213.trans (congrArg some (by kernel_rfl))
  f284 := Tryz.func214.trans (congrArg some (by kernel_rfl))
  f285 := Tryz.func215.trans (congrArg some (by kernel_rfl))
  f286 := Tryz.func216.trans (congrArg some (by kernel_rfl))
  f287 := Tryz.func221.trans (congrArg some (by kernel_rfl))
  f316 := Tryz.func246.trans (congrArg some (by kernel_rfl))
  f317 := Tryz.func234.trans (congrArg some (by kernel_rfl))
  f318 := Tryz.func236.trans (congrArg some (by kernel_rfl))
  f319 := Tryz.func237.trans (congrArg some (by kernel_rfl))
  f320 := Tryz.func238.trans (congrArg some (by kernel_rfl))
  f321 := Tryz.func244.trans (congrArg some (by kernel_rfl))
  f322 := Tryz.func245.trans (congrArg some (by kernel_rfl))
  f337 := Tryz.func253.trans (congrArg some (by kernel_rfl))
  f338 := Tryz.func254.trans (congrArg some (by kernel_rfl))
  t0 := Tryz.underlying0
  a0 := Tryz.isAgg0
  z0 := Tryz.sizeOf0
  v0 := Tryz.zeroValue0
  t2 := Tryz.underlying2
  a2 := Tryz.isAgg2
  z2 := Tryz.sizeOf2
  v2 := Tryz.zeroValue2
  t3 := Tryz.underlying3
  a3 := Tryz.isAgg3
  z3 := Tryz.sizeOf3
  v3 := Tryz.zeroValue3
  t4 := Tryz.underlying4
  a4 := Tryz.isAgg4
  z4 := Tryz.sizeOf4
  v4 := Tryz.zeroValue4
  t5 := Tryz.underlying5
  a5 := Tryz.isAgg5
  z5 := Tryz.sizeOf5
  v5 := Tryz.zeroValue5
  t9 := Tryz.underlying9
  a9 := Tryz.isAgg9
  z9 := Tryz.sizeOf9
  v9 := Tryz.zeroValue9
  t20 := Tryz.underlying20
  a20 := Tryz.isAgg20
  z20 := Tryz.sizeOf20
  v20 := Tryz.zeroValue20
  t21 := Tryz.underlying21
  a21 := Tryz.isAgg21
  z21 := Tryz.sizeOf21
  v21 := Tryz.zeroValue21
  t37 := Tryz.underlying22
  a37 := Tryz.isAgg22
  z37 := Tryz.sizeOf22
  v37 := Tryz.zeroValue22
  t46 := Tryz.underlying193
  a46 := Tryz.isAgg193
  z46 := Tryz.sizeOf193
  v46 := Tryz.zeroValue193
  t51 := Tryz.underlying252
  a51 := Tryz.isAgg252
  z51 := Tryz.sizeOf252
  v51 := Tryz.zeroValue252
  t53 := Tryz.underlying149
  a53 := Tryz.isAgg149
  z53 := Tryz.sizeOf149
  v53 := Tryz.zeroValue149
  t75 := Tryz.underlying177
  a75 := Tryz.isAgg177
  z75 := Tryz.sizeOf177
  v75 := Tryz.zeroValue177
  t85 := Tryz.underlying183
  a85 := Tryz.isAgg183
  z85 := Tryz.sizeOf183
  v85 := Tryz.zeroValue183
  t127 := Tryz.underlying213
  a127 := Tryz.isAgg213
  z127 := Tryz.sizeOf213
  v127 := Tryz.zeroValue213
  t143 := Tryz.underlying268
  a143 := Tryz.isAgg268
  z143 := Tryz.sizeOf268
  v143 := Tryz.zeroValue268
  t145 := Tryz.underlying270
  a145 := Tryz.isAgg270
  z145 := Tryz.sizeOf270
  v145 := Tryz.zeroValue270
  t167 := Tryz.underlying236
  a167 := Tryz.isAgg236
  z167 := Tryz.sizeOf236
  v167 := Tryz.zeroValue236
  t168 := Tryz.underlying239
  a168 := Tryz.isAgg239
  z168 := Tryz.sizeOf239
  v168 := Tryz.zeroValue239
  t171 := Tryz.underlying229
  a171 := Tryz.isAgg229
  z171 := Tryz.sizeOf229
  v171 := Tryz.zeroValue229
  t173 := Tryz.underlying232
  a173 := Tryz.isAgg232
  z173 := Tryz.sizeOf232
  v173 := Tryz.zeroValue232
  t175 := Tryz.underlying237
  a175 := Tryz.isAgg237
  z175 := Tryz.sizeOf237
  v175 := Tryz.zeroValue237
  t210 := Tryz.underlying258
  a210 := Tryz.isAgg258
  z210 := Tryz.sizeOf258
  v210 := Tryz.zeroValue258
  t212 := Tryz.underlying251
  a212 := Tryz.isAgg251
  z212 := Tryz.sizeOf251
  v212 := Tryz.zeroValue251
  t213 := Tryz.underlying253
  a213 := Tryz.isAgg253
  z213 := Tryz.sizeOf253
  t232 := Tryz.underlying271
  a232 := Tryz.isAgg271
  z232 := Tryz.sizeOf271
  v232 := Tryz.zeroValue271
  t233 := Tryz.underlying272
  a233 := Tryz.isAgg272
  z233 := Tryz.sizeOf272
  v233 := Tryz.zeroValue272
  g15 := by kernel_rfl
  g16 := by kernel_rfl
  g17 := by kernel_rfl
  g18 := by kernel_rfl
  g19 := by kernel_rfl
  t80 := Tryz.underlying180
  a80 := Tryz.isAgg180
  z80 := Tryz.sizeOf180
  v80 := Tryz.zeroValue180
  i0 := by kernel_rfl
  i2 := by kernel_rfl
  i3 := by kernel_rfl
  i4 := by kernel_rfl
  i5 := by kernel_rfl
  i9 := by kernel_rfl
  i20 := by kernel_rfl
  i21 := by kernel_rfl
  i37 := by kernel_rfl
  i46 := by kernel_rfl
  i51 := by kernel_rfl
  i53 := by kernel_rfl
  i75 := by kernel_rfl
  i80 := by kernel_rfl
  i85 := by kernel_rfl
  i127 := by kernel_rfl
  i143 := by kernel_rfl
  i145 := by kernel_rfl
  i167 := by kernel_rfl
  i168 := by kernel_rfl
  i171 := by kernel_rfl
  i173 := by kernel_rfl
  i175 := by kernel_rfl
  i210 := by kernel_rfl
  i212 := by kernel_rfl
  i232 := by kernel_rfl
  i233 := by kernel_rfl
  m15 := by kernel_rfl
  m16 := by kernel_rfl
  m17 := by kernel_rfl
  m18 := by kernel_rfl
  m19 := by kernel_rfl
  c0 := by kernel_rfl
  c2 := by kernel_rfl
  c3 := by kernel_rfl
  c4 := by kernel_rfl
  c5 := by kernel_rfl
  c9 := by kernel_rfl
  c20 := by kernel_rfl
  c21 := by kernel_rfl
  c37 := by kernel_rfl
  c46 := by kernel_rfl
  c51 := by kernel_rfl
  c53 := by kernel_rfl
  c75 := by kernel_rfl
  c80 := by kernel_rfl
  c85 := by kernel_rfl
  c127 := by kernel_rfl
  c143 := by kernel_rfl
  c145 := by kernel_rfl
  c167 := by kernel_rfl
  c168 := by kernel_rfl
  c171 := by kernel_rfl
  c173 := by kernel_rfl
  c175 := by kernel_rfl
  c210 := by kernel_rfl
  c212 := by kernel_rfl
  c213 := by kernel_rfl
  c232 := by kernel_rfl
  c233 := by kernel_rfl }
theorem lib_ParseInt {s : ByteArray} (hs : s.size ≤ 281474976710656) {w : World} (hE : Errs w) :
    Does Tryz.prog 150 [.string s, .int .i64 10, .int .i64 64] w (fun v w' => ((∃ n, Lib.parseIntB 64 s.data.toList = .ok n ∧ v = .tuple #[.int .i64 n, .nilIface]) ∨
      ((∀ n, Lib.parseIntB 64 s.data.toList ≠ .ok n) ∧ ∃ n t a, v = .tuple #[.int .i64 n, .iface t (.pointer (some a))])) ∧ Ext w w') := by
  obtain ⟨⟨t, p, h1⟩, t2, p2, h2⟩ := hE
  cases hp : Lib.parseIntB 64 s.data.toList
  · rename_i n
    refine Does.of_calls (by kernel_rfl) ((Any.strconv_ParseInt_10_at64_ok lay_ParseInt s (by omega) n hp w).mono ?_)
    rintro _ _ ⟨rfl, hw⟩
    refine ⟨_, rfl, .inl ⟨n, rfl, rfl⟩, ?_⟩
    rcases hw with rfl | ⟨t, rfl⟩
    · exact Ext.refl _
    · exact Lib.bytesWorld_below _ _ _
  · refine Does.of_calls (by kernel_rfl) ((Any.strconv_ParseInt_10_at64_syntax_var lay_ParseInt s hs hp t p w h1).mono ?_)
    rintro _ _ ⟨N, rfl, _, _, hb⟩
    exact ⟨_, rfl, .inr ⟨(fun n h => by cases h), _, _, _, rfl⟩, hb⟩
  · refine Does.of_calls (by kernel_rfl) ((Any.strconv_ParseInt_10_at64_range_var lay_ParseInt s hs hp t2 p2 w h2).mono ?_)
    rintro _ _ ⟨N, rfl, _, _, hb⟩
    exact ⟨_, rfl, .inr ⟨(fun n h => by cases h), _, _, _, rfl⟩, hb⟩
def lay_Split_ren : Go.Shelf.Ren := ⟨fun | 146 => 89 | 221 => 149 | 268 => 193 | 138 => 194 | 143 => 195 | 195 => 217 | 197 => 218 | 218 => 219 | 219 => 220 | 260 => 239 | 217 => 240 | 225 => 241 | 224 => 242 | 267 => 243 | 266 => 255 | 314 => 256 | n => n, fun | 9 => 9 | 31 => 32 | 3 => 3 | 4 => 4 | 0 => 0 | 105 => 222 | 21 => 21 | 5 => 5 | 46 => 193 | 119 => 262 | 139 => 265 | 138 => 264 | 146 => 266 | 51 => 252 | n => n, fun | 1 => 0 | 3 => 4 | 4 => 5 | n => n⟩
theorem lay_Split : Go.Proofs.LaysM.n146 Tryz.prog lay_Split_ren := {
  mixed := by kernel_rfl
  f138 := Tryz.func194.trans (congrArg some (by kernel_rfl))
  f143 := Tryz.func195.trans (congrArg some (by kernel_rfl))
  f146 := Tryz.func89.trans (congrArg some (by kernel_rfl))
  f195 := Tryz.func217.trans (congrArg some (by kernel_rfl))
  f197 := Tryz.func218.trans (congrArg some (by kernel_rfl))
  f217 := Tryz.func240.trans (congrArg some (by kernel_rfl))
  f218 := Tryz.func219.trans (congrArg some (by kernel_rfl))
  f219 := Tryz.func220.trans (congrArg some (by kernel_rfl))
  f221 := Tryz.func149.trans (congrArg some (by kernel_rfl))
  f224 := Tryz.func242.trans (congrArg some (by kernel_rfl))
  f225 := Tryz.func241.trans (congrArg some (by kernel_rfl))
  f260 := Tryz.func239.trans (congrArg some (by kernel_rfl))
  f266 := Tryz.func255.trans (congrArg some (by kernel_rfl))
  f267 := Tryz.func243.trans (congrArg some (by kernel_rfl))
  f268 := Tryz.func193.trans (congrArg some (by kernel_rfl))
  f314 := Tryz.func256.trans (congrArg some (by kernel_rfl))
  t0 := Tryz.underlying0
  a0 := Tryz.isAgg0
  z0 := Tryz.sizeOf0
  v0 := Tryz.zeroValue0
  t3 := Tryz.underlying3
  a3 := Tryz.isAgg3
  z3 := Tryz.sizeOf3
  v3 := Tryz.zeroValue3
  t4 := Tryz.underlying4
  a4 := Tryz.isAgg4
  z4 := Tryz.sizeOf4
  v4 := Tryz.zeroValue4
  t5 := Tryz.underlying5
  a5 := Tryz.isAgg5
  z5 := Tryz.sizeOf5
  v5 := Tryz.zeroValue5
  t9 := Tryz.underlying9
  a9 := Tryz.isAgg9
  z9 := Tryz.sizeOf9
  v9 := Tryz.zeroValue9
  t21 := Tryz.underlying21
  a21 := Tryz.isAgg21
  z21 := Tryz.sizeOf21
  v21 := Tryz.zeroValue21
  t31 := Tryz.underlying32
  a31 := Tryz.isAgg32
  z31 := Tryz.sizeOf32
  v31 := Tryz.zeroValue32
  t46 := Tryz.underlying193
  a46 := Tryz.isAgg193
  z46 := Tryz.sizeOf193
  v46 := Tryz.zeroValue193
  t51 := Tryz.underlying252
  a51 := Tryz.isAgg252
  z51 := Tryz.sizeOf252
  v51 := Tryz.zeroValue252
  t105 := Tryz.underlying222
  a105 := Tryz.isAgg222
  z105 := Tryz.sizeOf222
  v105 := Tryz.zeroValue222
  t119 := Tryz.underlying262
  a119 := Tryz.isAgg262
  z119 := Tryz.sizeOf262
  t138 := Tryz.underlying264
  a138 := Tryz.isAgg264
  z138 := Tryz.sizeOf264
  v138 := Tryz.zeroValue264
  t139 := Tryz.underlying265
  a139 := Tryz.isAgg265
  z139 := Tryz.sizeOf265
  v139 := Tryz.zeroValue265
  t146 := Tryz.underlying266
  a146 := Tryz.isAgg266
  z146 := Tryz.sizeOf266
  v146 := Tryz.zeroValue266
  g1 := by kernel_rfl
  g3 := by kernel_rfl
  g4 := by kernel_rfl
  i0 := by kernel_rfl
  i3 := by kernel_rfl
  i4 := by kernel_rfl
  i5 := by kernel_rfl
  i9 := by kernel_rfl
  i21 := by kernel_rfl
  i31 := by kernel_rfl
  i46 := by kernel_rfl
  i51 := by kernel_rfl
  i105 := by kernel_rfl
  i138 := by kernel_rfl
  i139 := by kernel_rfl
  i146 := by kernel_rfl
  m1 := by kernel_rfl
  s1_3 := fun w h => Go.Proofs.cell_of_shapedOpen_int (zero := #[.int .i64 0]) (t := 3) h (of_decide_eq_true (by kernel_rfl)) (by kernel_rfl) rfl (by kernel_rfl) (by kernel_rfl) Tryz.underlying3
  m3 := by kernel_rfl
  m4 := by kernel_rfl }
/-- the library's bound for a short search is some number -/
def MaxL (w : World) : Prop := ∃ m, w.cell? ⟨lay_Split_ren.g 1, 0, none⟩ = some (.int .i64 m)
theorem MaxL.ext {w w' : World} (h : MaxL w) (e : Ext w w') : MaxL w' := by
  obtain ⟨m, h⟩ := h
  exact ⟨m, ext_cell h e⟩
theorem MaxL.of_shaped {w : World} (h : w.ShapedOpen Tryz.prog) : MaxL w := lay_Split.s1_3 w h
theorem lib_Split {s : ByteArray} {c : UInt8} (hs : s.size < 4294967281) {w : World} (hM : MaxL w) :
    Does Tryz.prog 89 [.string s, .string ⟨#[c]⟩] w (fun v w' => ∃ b, v = .slice (some ⟨b, 0, none⟩) (splitS c s).length (splitS c s).length ∧ w.heap.size ≤ b ∧ Blk w' b (flat eS (splitS c s)) 9 ∧ Ext w w') := by
  obtain ⟨m, hm⟩ := hM
  have h : Calls Tryz.prog 89 #[.string s, .string ⟨#[c]⟩] w _ := Any.strings_Split { lay_Split with } lay_Split.i9 s ⟨#[c]⟩ m w hs hm (by show 1 ≤ 1; omega)
  refine Does.of_calls (by kernel_rfl) (h.mono ?_)
  rintro _ _ ⟨rfl, rfl⟩
  rw [← splitS_len, splitB_eq]
  refine ⟨_, rfl, w.heap.size, rfl, Nat.le_refl _, ?_, alloc_ext _ _⟩
  rw [flat_eS]
  exact alloc_blk _ _ _
def lay_IndexByte_ren : Go.Shelf.Ren := ⟨fun | 137 => 251 | 217 => 240 | 266 => 255 | n => n, fun | 9 => 9 | 5 => 5 | 3 => 3 | n => n, fun | n => n⟩
theorem lay_IndexByte : Go.Proofs.Lays.n137 Tryz.prog lay_IndexByte_ren := {
  mixed := by kernel_rfl
  f137 := Tryz.func251.trans (congrArg some (by kernel_rfl))
  f217 := Tryz.func240.trans (congrArg some (by kernel_rfl))
  f266 := Tryz.func255.trans (congrArg some (by kernel_rfl))
  t3 := Tryz.underlying3
  a3 := Tryz.isAgg3
  z3 := Tryz.sizeOf3
  v3 := Tryz.zeroValue3
  t5 := Tryz.underlying5
  a5 := Tryz.isAgg5
  z5 := Tryz.sizeOf5
  v5 := Tryz.zeroValue5
  t9 := Tryz.underlying9
  a9 := Tryz.isAgg9
  z9 := Tryz.sizeOf9
  v9 := Tryz.zeroValue9 }
theorem lib_IndexByte (s : ByteArray) (c : UInt8) (w : World) : Does Tryz.prog 251 [.string s, .int .u8 c.toNat] w (fun v w' => v = .int .i64 (Lib.indexByte s.data.toList c) ∧ w = w') := by
  have h : Calls Tryz.prog 251 #[.string s, .int .u8 c.toNat] w _ := Any.strings_IndexByte lay_IndexByte s c.toNat w
  refine Does.of_calls (by kernel_rfl) (h.mono ?_)
  rintro _ _ ⟨rfl, rfl⟩
  exact ⟨_, rfl, by simp, rfl⟩
def lay_Join_ren : Go.Shelf.Ren := ⟨fun | 156 => 87 | 165 => 145 | 166 => 146 | 169 => 147 | 240 => 190 | 241 => 191 | 276 => 211 | 277 => 212 | n => n, fun | 31 => 32 | 9 => 9 | 3 => 3 | 4 => 4 | 0 => 0 | 20 => 20 | 72 => 174 | 76 => 178 | 70 => 172 | 37 => 22 | 75 => 177 | 127 => 213 | 164 => 225 | 5 => 5 | 80 => 180 | n => n, fun | n => n⟩
theorem lay_Join : Go.Proofs.Lays.n156 Tryz.prog lay_Join_ren := {
  mixed := by kernel_rfl
  f156 := Tryz.func87.trans (congrArg some (by kernel_rfl))
  f165 := Tryz.func145.trans (congrArg some (by kernel_rfl))
  f166 := Tryz.func146.trans (congrArg some (by kernel_rfl))
  f169 := Tryz.func147.trans (congrArg some (by kernel_rfl))
  f240 := Tryz.func190.trans (congrArg some (by kernel_rfl))
  f241 := Tryz.func191.trans (congrArg some (by kernel_rfl))
  f276 := Tryz.func211.trans (congrArg some (by kernel_rfl))
  f277 := Tryz.func212.trans (congrArg some (by kernel_rfl))
  t0 := Tryz.underlying0
  a0 := Tryz.isAgg0
  z0 := Tryz.sizeOf0
  v0 := Tryz.zeroValue0
  t3 := Tryz.underlying3
  a3 := Tryz.isAgg3
  z3 := Tryz.sizeOf3
  v3 := Tryz.zeroValue3
  t4 := Tryz.underlying4
  a4 := Tryz.isAgg4
  z4 := Tryz.sizeOf4
  v4 := Tryz.zeroValue4
  t9 := Tryz.underlying9
  a9 := Tryz.isAgg9
  z9 := Tryz.sizeOf9
  v9 := Tryz.zeroValue9
  t20 := Tryz.underlying20
  a20 := Tryz.isAgg20
  z20 := Tryz.sizeOf20
  v20 := Tryz.zeroValue20
  t31 := Tryz.underlying32
  a31 := Tryz.isAgg32
  z31 := Tryz.sizeOf32
  v31 := Tryz.zeroValue32
  t37 := Tryz.underlying22
  a37 := Tryz.isAgg22
  z37 := Tryz.sizeOf22
  v37 := Tryz.zeroValue22
  t70 := Tryz.underlying172
  a70 := Tryz.isAgg172
  z70 := Tryz.sizeOf172
  v70 := Tryz.zeroValue172
  t72 := Tryz.underlying174
  a72 := Tryz.isAgg174
  z72 := Tryz.sizeOf174
  v72 := Tryz.zeroValue174
  t75 := Tryz.underlying177
  a75 := Tryz.isAgg177
  z75 := Tryz.sizeOf177
  v75 := Tryz.zeroValue177
  t76 := Tryz.underlying178
  a76 := Tryz.isAgg178
  z76 := Tryz.sizeOf178
  v76 := Tryz.zeroValue178
  t127 := Tryz.underlying213
  a127 := Tryz.isAgg213
  z127 := Tryz.sizeOf213
  v127 := Tryz.zeroValue213
  t164 := Tryz.underlying225
  a164 := Tryz.isAgg225
  z164 := Tryz.sizeOf225
  v164 := Tryz.zeroValue225 }
theorem lay_JoinX : Builder.Extra Tryz.prog lay_Join_ren := {
  sizeBuilder := by kernel_rfl
  liesBuilder := by kernel_rfl
  t5 := Tryz.underlying5
  a5 := Tryz.isAgg5
  z5 := Tryz.sizeOf5
  v5 := Tryz.zeroValue5
  infoByte := by kernel_rfl
  cellsByte := by kernel_rfl
  sizeByte := by kernel_rfl
  neB5 := by decide }
theorem lib_Join {xs : List ByteArray} {sep : ByteArray} {b n c : Nat} {w : World} (h : Cells w b 0 (flat eS xs)) (hb : b < w.heap.size) (hn : xs.length = n) (hc : n ≤ c) (hN : n ≤ 140737488355328)
    (hl : (Lib.join (xs.map (·.data.toList)) sep.data.toList).length ≤ 140737488355328) :
    Does Tryz.prog 87 [.slice (some ⟨b, 0, none⟩) n c, .string sep] w (fun v w' => v = .string (bs (Lib.join (xs.map (·.data.toList)) sep.data.toList)) ∧ Ext w w') := by
  subst hn
  have hh : Calls Tryz.prog 87 #[.slice (some ⟨b, 0, none⟩) xs.length c, .string sep] w _ := Any.strings_Join lay_Join lay_JoinX b 0 c xs sep w (fun j x hx => by
    have := h j (.string x) (by
      rw [flat_eS, List.getElem?_map, hx]
      rfl)
    exact this) hb hN hc hl
  refine Does.of_calls (by kernel_rfl) (hh.mono ?_)
  rintro _ _ ⟨rfl, hb⟩
  exact ⟨_, rfl, rfl, hb⟩
theorem lib_Join4 {a1 a2 a3 a4 : ByteArray} {b t : Nat} {w : World} (h : Blk w b [.string a1, .string a2, .string a3, .string a4] t) (h1 : a1.size ≤ 1000) (h2 : a2.size ≤ 1000) (h3 : a3.size ≤ 1000) (h4 : a4.size ≤ 1000) :
    Does Tryz.prog 87 [.slice (some ⟨b, 0, none⟩) 4 4, .string ⟨#[32]⟩] w (fun v w' => v = .string (a1 ++ bs [32] ++ a2 ++ bs [32] ++ a3 ++ bs [32] ++ a4) ∧ Ext w w') := by
  have e : bs (Lib.join [a1.data.toList, a2.data.toList, a3.data.toList, a4.data.toList] [32]) = a1 ++ bs [32] ++ a2 ++ bs [32] ++ a3 ++ bs [32] ++ a4 := by
    apply bytes_ext
    rw [bs_data, Lib.join_cons]
    simp [Lib.joinTail, bs]
  have hz : (Lib.join [a1.data.toList, a2.data.toList, a3.data.toList, a4.data.toList] [32]).length = a1.size + a2.size + a3.size + a4.size + 3 := by
    have := congrArg ByteArray.size e
    rw [bs_size] at this
    rw [this]
    have e1 : (bs [32]).size = 1 := rfl
    simp only [ByteArray.size_append, e1]
    omega
  have := lib_Join (xs := [a1, a2, a3, a4]) (sep := ⟨#[32]⟩) (n := 4) (c := 4) h.cells h.lt rfl (by omega) (by omega) (by show (Lib.join [a1.data.toList, a2.data.toList, a3.data.toList, a4.data.toList] [32]).length ≤ _; omega)
  refine this.mono ?_
  rintro _ w1 ⟨rfl, e1⟩
  exact ⟨congrArg Value.string e, e1⟩
theorem lib_Join6 {a1 a2 a3 a4 a5 a6 : ByteArray} {b t : Nat} {w : World} (h : Blk w b [.string a1, .string a2, .string a3, .string a4, .string a5, .string a6] t) (h1 : a1.size ≤ 1000) (h2 : a2.size ≤ 1000) (h3 : a3.size ≤ 1000) (h4 : a4.size ≤ 1000) (h5 : a5.size ≤ 1000) (h6 : a6.size ≤ 1000) :
    Does Tryz.prog 87 [.slice (some ⟨b, 0, none⟩) 6 6, .string ⟨#[32]⟩] w (fun v w' => v = .string (a1 ++ bs [32] ++ a2 ++ bs [32] ++ a3 ++ bs [32] ++ a4 ++ bs [32] ++ a5 ++ bs [32] ++ a6) ∧ Ext w w') := by
  have e : bs (Lib.join [a1.data.toList, a2.data.toList, a3.data.toList, a4.data.toList, a5.data.toList, a6.data.toList] [32]) = a1 ++ bs [32] ++ a2 ++ bs [32] ++ a3 ++ bs [32] ++ a4 ++ bs [32] ++ a5 ++ bs [32] ++ a6 := by
    apply bytes_ext
    rw [bs_data, Lib.join_cons]
    simp [Lib.joinTail, bs]
  have hz : (Lib.join [a1.data.toList, a2.data.toList, a3.data.toList, a4.data.toList, a5.data.toList, a6.data.toList] [32]).length = a1.size + a2.size + a3.size + a4.size + a5.size + a6.size + 5 := by
    have := congrArg ByteArray.size e
    rw [bs_size] at this
    rw [this]
    have e1 : (bs [32]).size = 1 := rfl
    simp only [ByteArray.size_append, e1]
    omega
  have := lib_Join (xs := [a1, a2, a3, a4, a5, a6]) (sep := ⟨#[32]⟩) (n := 6) (c := 6) h.cells h.lt rfl (by omega) (by omega) (by show (Lib.join [a1.data.toList, a2.data.toList, a3.data.toList, a4.data.toList, a5.data.toList, a6.data.toList] [32]).length ≤ _; omega)
  refine this.mono ?_
  rintro _ w1 ⟨rfl, e1⟩
  exact ⟨congrArg Value.string e, e1⟩
end Go.Proofs.YtfgbijddjoojbaaGreatDoor
