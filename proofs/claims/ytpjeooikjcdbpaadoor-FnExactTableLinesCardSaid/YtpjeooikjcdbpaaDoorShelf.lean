/- Contracts of functions of the given program, of the reference and of the laws: each says what a call returns, for all arguments that meet the premises that the theorem itself names. -/
import Derived.Test.YtpjeooikjcdbpaaDoorBase
import Derived.Test.YtpjeooikjcdbpaaDoorNum
import Derived.Test.YtpjeooikjcdbpaaDoorLiftBase
import Derived.Test.YtpjeooikjcdbpaaDoorVcTied
import Derived.Shelf.Strconv.Itoa4
import Derived.Shelf.Strconv.ParseIntPublic10
import Derived.Shelf.Strconv.ErrVarParseInt
import Derived.Shelf.Strings.SplitShaped
import Derived.Shelf.Strings.OnBuilder
import Derived.Shelf.Strings.Cut
import Derived.Shelf.Small.Strs
import Derived.Shelf.Strings.Prefix
namespace Go.Proofs.YtpjeooikjcdbpaaDoor
open Go Go.RowKit Go.Vc Go.M Go.Shelf Go.Proofs
theorem ext_var {w w' : World} {n : String} {cs : Array Value} (h : w.var? Tryd.prog n = some cs) (e : Ext w w') : w'.var? Tryd.prog n = some cs := by
  unfold World.var? at *
  cases hg : (Tryd.prog).globalNamed n with
  | none => simp [hg] at h
  | some g =>
    simp only [hg, Option.bind_some] at h ⊢
    have hlt : g < w.heap.size := by
      rcases Nat.lt_or_ge g w.heap.size with h' | h'
      · exact h'
      · rw [Array.getElem?_eq_none h'] at h; simp at h
    rw [e.block g hlt]
    exact h
theorem ext_cell {w w' : World} {a : Addr} {v : Value} (h : w.cell? a = some v) (e : Ext w w') : w'.cell? a = some v := by
  rw [cell_of_block (e.block a.block (cell_lt h))]
  exact h
theorem flat_eS : ∀ xs : List ByteArray, flat eS xs = xs.map Value.string
  | [] => rfl
  | x :: xs => by
    have := flat_eS xs
    simp only [flat, eS, List.flatMap_cons, List.map_cons] at *
    rw [this]
    rfl
theorem ext_grow (w : World) (k : Nat) (os : Array Obj) : Ext w (Sort.grow (w.drewN k) os) := by
  refine ⟨rfl, rfl, rfl, ?_, fun i hi => ?_⟩
  · show w.heap.size ≤ (w.heap ++ os).size
    simp
  · show (w.heap ++ os)[i]? = w.heap[i]?
    rw [Array.getElem?_append, if_pos hi]
/-- the library's table of powers stands as it was laid -/
def Pow (w : World) : Prop := Lib.TabIs Tryd.prog w (Rows.fnExactTableLinesRow.named.getD 0 Rows.fnExactTableLinesRow.spec) .u64 Lib.pow10Tab
theorem Pow.ext {w w' : World} (h : Pow w) (e : Ext w w') : Pow w' := ext_var h e
theorem Pow.of_laid {rest : List (String × DataW Unit)} {W : World} (h : laidMet Tryd.prog (((Rows.fnExactTableLinesRow.named.getD 0 Rows.fnExactTableLinesRow.spec), Lib.tabData .u64 Lib.pow10Tab) :: rest) W) : Pow W :=
  Lib.tabIs_of_head (g := 3) (t := 171) (e := 109) (n := 20) (by kernel_rfl) (by kernel_rfl) Tryd.underlying171 Tryd.underlying109 (by kernel_rfl) (by kernel_rfl) h
def lay_FormatInt_ren : Go.Shelf.Ren := ⟨fun | 173 => 87 | 246 => 108 | 283 => 126 | 284 => 127 | 285 => 128 | 286 => 129 | 129 => 144 | 317 => 143 | 318 => 145 | 319 => 146 | 320 => 147 | 337 => 151 | 338 => 152 | n => n, fun | 2 => 2 | 3 => 3 | 9 => 9 | 4 => 4 | 171 => 151 | 0 => 0 | 53 => 109 | 37 => 43 | 5 => 5 | 173 => 154 | 212 => 171 | 51 => 159 | 20 => 20 | 213 => 172 | 46 => 141 | 232 => 184 | 233 => 185 | n => n, fun | 17 => 3 | 18 => 6 | 19 => 7 | n => n⟩
theorem lay_FormatInt : Go.Proofs.LaysM.n173 Tryd.prog lay_FormatInt_ren := {
  mixed := by kernel_rfl
  f129 := Tryd.func144.trans (congrArg some (by kernel_rfl))
  f173 := Tryd.func87.trans (congrArg some (by kernel_rfl))
  f246 := Tryd.func108.trans (congrArg some (by kernel_rfl))
  f283 := Tryd.func126.trans (congrArg some (by kernel_rfl))
  f284 := Tryd.func127.trans (congrArg some (by kernel_rfl))
  f285 := Tryd.func128.trans (congrArg some (by kernel_rfl))
  f286 := Tryd.func129.trans (congrArg some (by kernel_rfl))
  f317 := Tryd.func143.trans (congrArg some (by kernel_rfl))
  f318 := Tryd.func145.trans (congrArg some (by kernel_rfl))
  f319 := Tryd.func146.trans (congrArg some (by kernel_rfl))
  f320 := Tryd.func147.trans (congrArg some (by kernel_rfl))
  f337 := Tryd.func151.trans (congrArg some (by kernel_rfl))
  f338 := Tryd.func152.trans (congrArg some (by kernel_rfl))
  t0 := Tryd.underlying0
  a0 := Tryd.isAgg0
  z0 := Tryd.sizeOf0
  v0 := Tryd.zeroValue0
  t2 := Tryd.underlying2
  a2 := Tryd.isAgg2
  z2 := Tryd.sizeOf2
  v2 := Tryd.zeroValue2
  t3 := Tryd.underlying3
  a3 := Tryd.isAgg3
  z3 := Tryd.sizeOf3
  v3 := Tryd.zeroValue3
  t4 := Tryd.underlying4
  a4 := Tryd.isAgg4
  z4 := Tryd.sizeOf4
  v4 := Tryd.zeroValue4
  t5 := Tryd.underlying5
  a5 := Tryd.isAgg5
  z5 := Tryd.sizeOf5
  v5 := Tryd.zeroValue5
  t9 := Tryd.underlying9
  a9 := Tryd.isAgg9
  z9 := Tryd.sizeOf9
  v9 := Tryd.zeroValue9
  t20 := Tryd.underlying20
  a20 := Tryd.isAgg20
  z20 := Tryd.sizeOf20
  v20 := Tryd.zeroValue20
  t37 := Tryd.underlying43
  a37 := Tryd.isAgg43
  z37 := Tryd.sizeOf43
  v37 := Tryd.zeroValue43
  t46 := Tryd.underlying141
  a46 := Tryd.isAgg141
  z46 := Tryd.sizeOf141
  v46 := Tryd.zeroValue141
  t51 := Tryd.underlying159
  a51 := Tryd.isAgg159
  z51 := Tryd.sizeOf159
  v51 := Tryd.zeroValue159
  t53 := Tryd.underlying109
  a53 := Tryd.isAgg109
  z53 := Tryd.sizeOf109
  v53 := Tryd.zeroValue109
  t171 := Tryd.underlying151
  a171 := Tryd.isAgg151
  z171 := Tryd.sizeOf151
  v171 := Tryd.zeroValue151
  t173 := Tryd.underlying154
  a173 := Tryd.isAgg154
  z173 := Tryd.sizeOf154
  v173 := Tryd.zeroValue154
  t212 := Tryd.underlying171
  a212 := Tryd.isAgg171
  z212 := Tryd.sizeOf171
  v212 := Tryd.zeroValue171
  t213 := Tryd.underlying172
  a213 := Tryd.isAgg172
  z213 := Tryd.sizeOf172
  t232 := Tryd.underlying184
  a232 := Tryd.isAgg184
  z232 := Tryd.sizeOf184
  v232 := Tryd.zeroValue184
  t233 := Tryd.underlying185
  a233 := Tryd.isAgg185
  z233 := Tryd.sizeOf185
  v233 := Tryd.zeroValue185
  g17 := by kernel_rfl
  g18 := by kernel_rfl
  g19 := by kernel_rfl
  i0 := by kernel_rfl
  i2 := by kernel_rfl
  i3 := by kernel_rfl
  i4 := by kernel_rfl
  i5 := by kernel_rfl
  i9 := by kernel_rfl
  i20 := by kernel_rfl
  i37 := by kernel_rfl
  i46 := by kernel_rfl
  i51 := by kernel_rfl
  i53 := by kernel_rfl
  i171 := by kernel_rfl
  i173 := by kernel_rfl
  i212 := by kernel_rfl
  i232 := by kernel_rfl
  i233 := by kernel_rfl
  m17 := by kernel_rfl
  m18 := by kernel_rfl
  m19 := by kernel_rfl }
theorem lib_FormatInt {n : Int} (hn : i64ok n) {w : World} (hT : Pow w) : Does Tryd.prog 87 [.int .i64 n, .int .i64 10] w (fun v w' => v = .string (decB n) ∧ Ext w w') := by
  have h : Calls Tryd.prog 87 #[.int .i64 n, .int .i64 10] w fun e w' => e = .returned (.string ⟨(Lib.itoa n).toArray⟩) ∧ ∃ k os, w' = Sort.grow (w.drewN k) os :=
    Any.strconv_FormatInt_10 lay_FormatInt n hn.1 hn.2 w hT
  refine Does.of_calls (by kernel_rfl) (h.mono ?_)
  rintro _ _ ⟨rfl, k, os, rfl⟩
  exact ⟨_, rfl, rfl, ext_grow w k os⟩
def lay_TrimPrefix_ren : Go.Shelf.Ren := ⟨fun | 101 => 69 | 208 => 97 | 206 => 123 | n => n, fun | 9 => 9 | 4 => 4 | 3 => 3 | n => n, fun | n => n⟩
theorem lay_TrimPrefix : Go.Proofs.Lays.n101 Tryd.prog lay_TrimPrefix_ren := {
  mixed := by kernel_rfl
  f101 := Tryd.func69.trans (congrArg some (by kernel_rfl))
  f206 := Tryd.func123.trans (congrArg some (by kernel_rfl))
  f208 := Tryd.func97.trans (congrArg some (by kernel_rfl))
  t3 := Tryd.underlying3
  a3 := Tryd.isAgg3
  z3 := Tryd.sizeOf3
  v3 := Tryd.zeroValue3
  t4 := Tryd.underlying4
  a4 := Tryd.isAgg4
  z4 := Tryd.sizeOf4
  v4 := Tryd.zeroValue4
  t9 := Tryd.underlying9
  a9 := Tryd.isAgg9
  z9 := Tryd.sizeOf9
  v9 := Tryd.zeroValue9 }
theorem lib_TrimMinus (s : ByteArray) (w : World) : Does Tryd.prog 69 [.string s, .string ⟨#[45]⟩] w (fun v w' => v = .string (bs (unsign s.data.toList)) ∧ w = w') := by
  have h : Calls Tryd.prog 69 #[.string s, .string ⟨#[45]⟩] w fun e w' => e = .returned (.string ⟨(Lib.trimPrefix s.data.toList [45]).toArray⟩) ∧ w' = w :=
    Any.strings_TrimPrefix lay_TrimPrefix s ⟨#[45]⟩ w
  refine Does.of_calls (by kernel_rfl) (h.mono ?_)
  rintro _ _ ⟨rfl, rfl⟩
  refine ⟨_, rfl, ?_, rfl⟩
  congr 1
  show bs _ = bs _
  congr 1
  unfold Lib.trimPrefix Lib.hasPrefix unsign
  cases s.data.toList with
  | nil => rfl
  | cons c r =>
    by_cases hc : c = 45
    · subst hc; simp
    · simp [hc, Ne.symm hc]
/-- the library's two errors -/
def Errs (w : World) : Prop := (∃ t p, w.var? Tryd.prog (Rows.fnExactReadBoxesRow.named.getD 3 Rows.fnExactReadBoxesRow.spec) = some #[.iface t p]) ∧ ∃ t p, w.var? Tryd.prog (Rows.fnExactReadBoxesRow.named.getD 4 Rows.fnExactReadBoxesRow.spec) = some #[.iface t p]
theorem Errs.ext {w w' : World} (h : Errs w) (e : Ext w w') : Errs w' := by
  obtain ⟨⟨t, p, h1⟩, t2, p2, h2⟩ := h
  exact ⟨⟨t, p, ext_var h1 e⟩, t2, p2, ext_var h2 e⟩
theorem Errs.of_laid {n1 n2 : String} {d1 d2 : DataW Unit} {r1 r2 : List (String × DataW Unit)} {W : World} (h1 : laidMet Tryd.prog (((Rows.fnExactReadBoxesRow.named.getD 3 Rows.fnExactReadBoxesRow.spec), .iface n1 d1) :: r1) W) (h2 : laidMet Tryd.prog (((Rows.fnExactReadBoxesRow.named.getD 4 Rows.fnExactReadBoxesRow.spec), .iface n2 d2) :: r2) W) : Errs W :=
  ⟨err_of_laid h1 (g := 1) (t := 98) (by kernel_rfl) (by kernel_rfl) Tryd.underlying98, err_of_laid h2 (g := 2) (t := 98) (by kernel_rfl) (by kernel_rfl) Tryd.underlying98⟩
def lay_ParseInt_ren : Go.Shelf.Ren := ⟨fun | 174 => 68 | 247 => 95 | 245 => 96 | 287 => 118 | 279 => 119 | 280 => 120 | 281 => 121 | 282 => 122 | 321 => 135 | 322 => 136 | 316 => 137 | 171 => 139 | 205 => 138 | 243 => 148 | 246 => 108 | 283 => 126 | 284 => 127 | 285 => 128 | 286 => 129 | 129 => 144 | 317 => 143 | 318 => 145 | 319 => 146 | 320 => 147 | 337 => 151 | 338 => 152 | n => n, fun | 9 => 9 | 3 => 3 | 2 => 2 | 75 => 98 | 85 => 99 | 4 => 4 | 167 => 142 | 5 => 5 | 53 => 109 | 175 => 143 | 46 => 141 | 168 => 145 | 37 => 43 | 0 => 0 | 210 => 165 | 21 => 21 | 127 => 135 | 145 => 181 | 143 => 179 | 171 => 151 | 173 => 154 | 212 => 171 | 51 => 159 | 20 => 20 | 213 => 172 | 232 => 184 | 233 => 185 | 80 => 125 | n => n, fun | 15 => 1 | 16 => 2 | 17 => 3 | 18 => 6 | 19 => 7 | n => n⟩
theorem lay_ParseInt : Go.Proofs.LaysC.n174 Tryd.prog lay_ParseInt_ren := {
  mixed := by kernel_rfl
  f129 := Tryd.func144.trans (congrArg some (by kernel_rfl))
  f171 := Tryd.func139.trans (congrArg some (by kernel_rfl))
  f174 := Tryd.func68.trans (congrArg some (by kernel_rfl))
  f205 := Tryd.func138.trans (congrArg some (by kernel_rfl))
  f243 := Tryd.func148.trans (congrArg some (by kernel_rfl))
  f245 := Tryd.func96.trans (congrArg some (by kernel_rfl))
  f246 := Tryd.func108.trans (congrArg some (by kernel_rfl))
  f247 := Tryd.func95.trans (congrArg some (by kernel_rfl))
  f279 := Tryd.func119.trans (congrArg some (by kernel_rfl))
  f280 := Tryd.func120.trans (congrArg some (by kernel_rfl))
  f281 := Tryd.func121.trans (congrArg some (by kernel_rfl))
  f282 := Tryd.func122.trans (congrArg some (by kernel_rfl))
  f283 := Tryd.func126.trans (congrArg some (by kernel_rfl))
  f284 := Tryd.func127.trans (congrArg some (by kernel_rfl))
  f285 := Tryd.func128.trans (congrArg some (by kernel_rfl))
  f286 := Tryd.func129.trans (congrArg some (by kernel_rfl))
  f287 := Tryd.func118.trans (congrArg some (by kernel_rfl))
  f316 := Tryd.func137.trans (congrArg some (by kernel_rfl))
  f317 := Tryd.func143.trans (congrArg some (by kernel_rfl))
  f318 := Tryd.func145.trans (congrArg some (by kernel_rfl))
  f319 := Tryd.func146.trans (congrArg some (by kernel_rfl))
  f320 := Tryd.func147.trans (congrArg some (by kernel_rfl))
  f321 := Tryd.func135.trans (congrArg some (by kernel_rfl))
  f322 := Tryd.func136.trans (congrArg some (by kernel_rfl))
  f337 := Tryd.func151.trans (congrArg some (by kernel_rfl))
  f338 := Tryd.func152.trans (congrArg some (by kernel_rfl))
  t0 := Tryd.underlying0
  a0 := Tryd.isAgg0
  z0 := Tryd.sizeOf0
  v0 := Tryd.zeroValue0
  t2 := Tryd.underlying2
  a2 := Tryd.isAgg2
  z2 := Tryd.sizeOf2
  v2 := Tryd.zeroValue2
  t3 := Tryd.underlying3
  a3 := Tryd.isAgg3
  z3 := Tryd.sizeOf3
  v3 := Tryd.zeroValue3
  t4 := Tryd.underlying4
  a4 := Tryd.isAgg4
  z4 := Tryd.sizeOf4
  v4 := Tryd.zeroValue4
  t5 := Tryd.underlying5
  a5 := Tryd.isAgg5
  z5 := Tryd.sizeOf5
  v5 := Tryd.zeroValue5
  t9 := Tryd.underlying9
  a9 := Tryd.isAgg9
  z9 := Tryd.sizeOf9
  v9 := Tryd.zeroValue9
  t20 := Tryd.underlying20
  a20 := Tryd.isAgg20
  z20 := Tryd.sizeOf20
  v20 := Tryd.zeroValue20
  t21 := Tryd.underlying21
  a21 := Tryd.isAgg21
  z21 := Tryd.sizeOf21
  v21 := Tryd.zeroValue21
  t37 := Tryd.underlying43
  a37 := Tryd.isAgg43
  z37 := Tryd.sizeOf43
  v37 := Tryd.zeroValue43
  t46 := Tryd.underlying141
  a46 := Tryd.isAgg141
  z46 := Tryd.sizeOf141
  v46 := Tryd.zeroValue141
  t51 := Tryd.underlying159
  a51 := Tryd.isAgg159
  z51 := Tryd.sizeOf159
  v51 := Tryd.zeroValue159
  t53 := Tryd.underlying109
  a53 := Tryd.isAgg109
  z53 := Tryd.sizeOf109
  v53 := Tryd.zeroValue109
  t75 := Tryd.underlying98
  a75 := Tryd.isAgg98
  z75 := Tryd.sizeOf98
  v75 := Tryd.zeroValue98
  t85 := Tryd.underlying99
  a85 := Tryd.isAgg99
  z85 := Tryd.sizeOf99
  v85 := Tryd.zeroValue99
  t127 := Tryd.underlying135
  a127 := Tryd.isAgg135
  z127 := Tryd.sizeOf135
  v127 := Tryd.zeroValue135
  t143 := Tryd.underlying179
  a143 := Tryd.isAgg179
  z143 := Tryd.sizeOf179
  v143 := Tryd.zeroValue179
  t145 := Tryd.underlying181
  a145 := Tryd.isAgg181
  z145 := Tryd.sizeOf181
  v145 := Tryd.zeroValue181
  t167 := Tryd.underlying142
  a167 := Tryd.isAgg142
  z167 := Tryd.sizeOf142
  v167 := Tryd.zeroValue142
  t168 := Tryd.underlying145
  a168 := Tryd.isAgg145
  z168 := Tryd.sizeOf145
  v168 := Tryd.zeroValue145
  t171 := Tryd.underlying151
  a171 := Tryd.isAgg151
  z171 := Tryd.sizeOf151
  v171 := Tryd.zeroValue151
  t173 := Tryd.underlying154
  a173 := Tryd.isAgg154
  z173 := Tryd.sizeOf154
  v173 := Tryd.zeroValue154
  t175 := Tryd.underlying143
  a175 := Tryd.isAgg143
  z175 := Tryd.sizeOf143
  v175 := Tryd.zeroValue143
  t210 := Tryd.underlying165
  a210 := Tryd.isAgg165
  z210 := Tryd.sizeOf165
  v210 := Tryd.zeroValue165
  t212 := Tryd.underlying171
  a212 := Tryd.isAgg171
  z212 := Tryd.sizeOf171
  v212 := Tryd.zeroValue171
  t213 := Tryd.underlying172
  a213 := Tryd.isAgg172
  z213 := Tryd.sizeOf172
  t232 := Tryd.underlying184
  a232 := Tryd.isAgg184
  z232 := Tryd.sizeOf184
  v232 := Tryd.zeroValue184
  t233 := Tryd.underlying185
  a233 := Tryd.isAgg185
  z233 := Tryd.sizeOf185
  v233 := Tryd.zeroValue185
  g15 := by kernel_rfl
  g16 := by kernel_rfl
  g17 := by kernel_rfl
  g18 := by kernel_rfl
  g19 := by kernel_rfl
  t80 := Tryd.underlying125
  a80 := Tryd.isAgg125
  z80 := Tryd.sizeOf125
  v80 := Tryd.zeroValue125
  i0 := by kernel_rfl
  i2 := by kernel_rfl
  i3 := by kernel_rfl
  i4 := by kernel_rfl
  i5 := by kernel_rfl
  i9 := by kernel_rfl
  i20 := by kernel_rfl
  i21 := by kernel_rfl
  i37 := by kernel_rfl
  i46 := by kernel_rfl
  i51 := by kernel_rfl
  i53 := by kernel_rfl
  i75 := by kernel_rfl
  i80 := by kernel_rfl
  i85 := by kernel_rfl
  i127 := by kernel_rfl
  i143 := by kernel_rfl
  i145 := by kernel_rfl
  i167 := by kernel_rfl
  i168 := by kernel_rfl
  i171 := by kernel_rfl
  i173 := by kernel_rfl
  i175 := by kernel_rfl
  i210 := by kernel_rfl
  i212 := by kernel_rfl
  i232 := by kernel_rfl
  i233 := by kernel_rfl
  m15 := by kernel_rfl
  m16 := by kernel_rfl
  m17 := by kernel_rfl
  m18 := by kernel_rfl
  m19 := by kernel_rfl
  c0 := by kernel_rfl
  c2 := by kernel_rfl
  c3 := by kernel_rfl
  c4 := by kernel_rfl
  c5 := by kernel_rfl
  c9 := by kernel_rfl
  c20 := by kernel_rfl
  c21 := by kernel_rfl
  c37 := by kernel_rfl
  c46 := by kernel_rfl
  c51 := by kernel_rfl
  c53 := by kernel_rfl
  c75 := by kernel_rfl
  c80 := by kernel_rfl
  c85 := by kernel_rfl
  c127 := by kernel_rfl
  c143 := by kernel_rfl
  c145 := by kernel_rfl
  c167 := by kernel_rfl
  c168 := by kernel_rfl
  c171 := by kernel_rfl
  c173 := by kernel_rfl
  c175 := by kernel_rfl
  c210 := by kernel_rfl
  c212 := by kernel_rfl
  c213 := by kernel_rfl
  c232 := by kernel_rfl
  c233 := by kernel_rfl }
theorem lib_ParseInt {s : ByteArray} (hs : s.size ≤ 281474976710656) {w : World} (hE : Errs w) :
    Does Tryd.prog 68 [.string s, .int .i64 10, .int .i64 64] w (fun v w' => ((∃ n, Lib.parseIntB 64 s.data.toList = .ok n ∧ v = .tuple #[.int .i64 n, .nilIface]) ∨
      ((∀ n, Lib.parseIntB 64 s.data.toList ≠ .ok n) ∧ ∃ n t a, v = .tuple #[.int .i64 n, .iface t (.pointer (some a))])) ∧ Ext w w') := by
  obtain ⟨⟨t, p, h1⟩, t2, p2, h2⟩ := hE
  cases hp : Lib.parseIntB 64 s.data.toList
  · rename_i n
    refine Does.of_calls (by kernel_rfl) ((Any.strconv_ParseInt_10_at64_ok lay_ParseInt s (by omega) n hp w).mono ?_)
    rintro _ _ ⟨rfl, hw⟩
    refine ⟨_, rfl, .inl ⟨n, rfl, rfl⟩, ?_⟩
    rcases hw with rfl | ⟨t, rfl⟩
    · exact Ext.refl _
    · exact Lib.bytesWorld_below _ _ _
  · refine Does.of_calls (by kernel_rfl) ((Any.strconv_ParseInt_10_at64_syntax_var lay_ParseInt s hs hp t p w h1).mono ?_)
    rintro _ _ ⟨N, rfl, _, _, hb⟩
    exact ⟨_, rfl, .inr ⟨(fun n h => by cases h), _, _, _, rfl⟩, hb⟩
  · refine Does.of_calls (by kernel_rfl) ((Any.strconv_ParseInt_10_at64_range_var lay_ParseInt s hs hp t2 p2 w h2).mono ?_)
    rintro _ _ ⟨N, rfl, _, _, hb⟩
    exact ⟨_, rfl, .inr ⟨(fun n h => by cases h), _, _, _, rfl⟩, hb⟩
def lay_Split_ren : Go.Shelf.Ren := ⟨fun | 146 => 44 | 221 => 66 | 268 => 91 | 138 => 92 | 143 => 93 | 195 => 111 | 197 => 112 | 218 => 113 | 219 => 94 | 260 => 132 | 217 => 114 | 225 => 115 | 224 => 116 | 267 => 117 | 266 => 133 | 314 => 134 | n => n, fun | 9 => 9 | 31 => 24 | 3 => 3 | 4 => 4 | 0 => 0 | 105 => 137 | 21 => 21 | 5 => 5 | 46 => 141 | 119 => 175 | 139 => 178 | 138 => 177 | 146 => 160 | 51 => 159 | n => n, fun | 1 => 0 | 3 => 4 | 4 => 5 | n => n⟩
theorem lay_Split : Go.Proofs.LaysM.n146 Tryd.prog lay_Split_ren := {
  mixed := by kernel_rfl
  f138 := Tryd.func92.trans (congrArg some (by kernel_rfl))
  f143 := Tryd.func93.trans (congrArg some (by kernel_rfl))
  f146 := Tryd.func44.trans (congrArg some (by kernel_rfl))
  f195 := Tryd.func111.trans (congrArg some (by kernel_rfl))
  f197 := Tryd.func112.trans (congrArg some (by kernel_rfl))
  f217 := Tryd.func114.trans (congrArg some (by kernel_rfl))
  f218 := Tryd.func113.trans (congrArg some (by kernel_rfl))
  f219 := Tryd.func94.trans (congrArg some (by kernel_rfl))
  f221 := Tryd.func66.trans (congrArg some (by kernel_rfl))
  f224 := Tryd.func116.trans (congrArg some (by kernel_rfl))
  f225 := Tryd.func115.trans (congrArg some (by kernel_rfl))
  f260 := Tryd.func132.trans (congrArg some (by kernel_rfl))
  f266 := Tryd.func133.trans (congrArg some (by kernel_rfl))
  f267 := Tryd.func117.trans (congrArg some (by kernel_rfl))
  f268 := Tryd.func91.trans (congrArg some (by kernel_rfl))
  f314 := Tryd.func134.trans (congrArg some (by kernel_rfl))
  t0 := Tryd.underlying0
  a0 := Tryd.isAgg0
  z0 := Tryd.sizeOf0
  v0 := Tryd.zeroValue0
  t3 := Tryd.underlying3
  a3 := Tryd.isAgg3
  z3 := Tryd.sizeOf3
  v3 := Tryd.zeroValue3
  t4 := Tryd.underlying4
  a4 := Tryd.isAgg4
  z4 := Tryd.sizeOf4
  v4 := Tryd.zeroValue4
  t5 := Tryd.underlying5
  a5 := Tryd.isAgg5
  z5 := Tryd.sizeOf5
  v5 := Tryd.zeroValue5
  t9 := Tryd.underlying9
  a9 := Tryd.isAgg9
  z9 := Tryd.sizeOf9
  v9 := Tryd.zeroValue9
  t21 := Tryd.underlying21
  a21 := Tryd.isAgg21
  z21 := Tryd.sizeOf21
  v21 := Tryd.zeroValue21
  t31 := Tryd.underlying24
  a31 := Tryd.isAgg24
  z31 := Tryd.sizeOf24
  v31 := Tryd.zeroValue24
  t46 := Tryd.underlying141
  a46 := Tryd.isAgg141
  z46 := Tryd.sizeOf141
  v46 := Tryd.zeroValue141
  t51 := Tryd.underlying159
  a51 := Tryd.isAgg159
  z51 := Tryd.sizeOf159
  v51 := Tryd.zeroValue159
  t105 := Tryd.underlying137
  a105 := Tryd.isAgg137
  z105 := Tryd.sizeOf137
  v105 := Tryd.zeroValue137
  t119 := Tryd.underlying175
  a119 := Tryd.isAgg175
  z119 := Tryd.sizeOf175
  t138 := Tryd.underlying177
  a138 := Tryd.isAgg177
  z138 := Tryd.sizeOf177
  v138 := Tryd.zeroValue177
  t139 := Tryd.underlying178
  a139 := Tryd.isAgg178
  z139 := Tryd.sizeOf178
  v139 := Tryd.zeroValue178
  t146 := Tryd.underlying160
  a146 := Tryd.isAgg160
  z146 := Tryd.sizeOf160
  v146 := Tryd.zeroValue160
  g1 := by kernel_rfl
  g3 := by kernel_rfl
  g4 := by kernel_rfl
  i0 := by kernel_rfl
  i3 := by kernel_rfl
  i4 := by kernel_rfl
  i5 := by kernel_rfl
  i9 := by kernel_rfl
  i21 := by kernel_rfl
  i31 := by kernel_rfl
  i46 := by kernel_rfl
  i51 := by kernel_rfl
  i105 := by kernel_rfl
  i138 := by kernel_rfl
  i139 := by kernel_rfl
  i146 := by kernel_rfl
  m1 := by kernel_rfl
  s1_3 := fun w h => Go.Proofs.cell_of_shapedOpen_int (zero := #[.int .i64 0]) (t := 3) h (of_decide_eq_true (by kernel_rfl)) (by kernel_rfl) rfl (by kernel_rfl) (by kernel_rfl) Tryd.underlying3
  m3 := by kernel_rfl
  m4 := by kernel_rfl }
/-- the library's bound for a short search is some number -/
def MaxL (w : World) : Prop := ∃ m, w.cell? ⟨lay_Split_ren.g 1, 0, none⟩ = some (.int .i64 m)
theorem MaxL.ext {w w' : World} (h : MaxL w) (e : Ext w w') : MaxL w' := by
  obtain ⟨m, h⟩ := h
  exact ⟨m, ext_cell h e⟩
theorem MaxL.of_shaped {w : World} (h : w.ShapedOpen Tryd.prog) : MaxL w := lay_Split.s1_3 w h
theorem lib_Split {s : ByteArray} {c : UInt8} (hs : s.size < 4294967281) {w : World} (hM : MaxL w) :
    Does Tryd.prog 44 [.string s, .string ⟨#[c]⟩] w (fun v w' => ∃ b, v = .slice (some ⟨b, 0, none⟩) (splitS c s).length (splitS c s).length ∧ w.heap.size ≤ b ∧ Blk w' b (flat eS (splitS c s)) 9 ∧ Ext w w') := by
  obtain ⟨m, hm⟩ := hM
  have h : Calls Tryd.prog 44 #[.string s, .string ⟨#[c]⟩] w _ := Any.strings_Split { lay_Split with } lay_Split.i9 s ⟨#[c]⟩ m w hs hm (by show 1 ≤ 1; omega)
  refine Does.of_calls (by kernel_rfl) (h.mono ?_)
  rintro _ _ ⟨rfl, rfl⟩
  rw [← splitS_len, splitB_eq]
  refine ⟨_, rfl, w.heap.size, rfl, Nat.le_refl _, ?_, alloc_ext _ _⟩
  rw [flat_eS]
  exact alloc_blk _ _ _
def lay_Cut_ren : Go.Shelf.Ren := ⟨fun | 145 => 45 | 220 => 67 | 219 => 94 | 217 => 114 | 225 => 115 | 224 => 116 | 267 => 117 | 266 => 133 | 314 => 134 | n => n, fun | 9 => 9 | 4 => 4 | 59 => 71 | 3 => 3 | 5 => 5 | 46 => 141 | 146 => 160 | 51 => 159 | n => n, fun | 1 => 0 | n => n⟩
theorem lay_Cut : Go.Proofs.LaysM.n145 Tryd.prog lay_Cut_ren := {
  mixed := by kernel_rfl
  f145 := Tryd.func45.trans (congrArg some (by kernel_rfl))
  f217 := Tryd.func114.trans (congrArg some (by kernel_rfl))
  f219 := Tryd.func94.trans (congrArg some (by kernel_rfl))
  f220 := Tryd.func67.trans (congrArg some (by kernel_rfl))
  f224 := Tryd.func116.trans (congrArg some (by kernel_rfl))
  f225 := Tryd.func115.trans (congrArg some (by kernel_rfl))
  f266 := Tryd.func133.trans (congrArg some (by kernel_rfl))
  f267 := Tryd.func117.trans (congrArg some (by kernel_rfl))
  f314 := Tryd.func134.trans (congrArg some (by kernel_rfl))
  t3 := Tryd.underlying3
  a3 := Tryd.isAgg3
  z3 := Tryd.sizeOf3
  v3 := Tryd.zeroValue3
  t4 := Tryd.underlying4
  a4 := Tryd.isAgg4
  z4 := Tryd.sizeOf4
  v4 := Tryd.zeroValue4
  t5 := Tryd.underlying5
  a5 := Tryd.isAgg5
  z5 := Tryd.sizeOf5
  v5 := Tryd.zeroValue5
  t9 := Tryd.underlying9
  a9 := Tryd.isAgg9
  z9 := Tryd.sizeOf9
  v9 := Tryd.zeroValue9
  t46 := Tryd.underlying141
  a46 := Tryd.isAgg141
  z46 := Tryd.sizeOf141
  v46 := Tryd.zeroValue141
  t51 := Tryd.underlying159
  a51 := Tryd.isAgg159
  z51 := Tryd.sizeOf159
  v51 := Tryd.zeroValue159
  t59 := Tryd.underlying71
  a59 := Tryd.isAgg71
  z59 := Tryd.sizeOf71
  v59 := Tryd.zeroValue71
  t146 := Tryd.underlying160
  a146 := Tryd.isAgg160
  z146 := Tryd.sizeOf160
  v146 := Tryd.zeroValue160
  g1 := by kernel_rfl
  i3 := by kernel_rfl
  i4 := by kernel_rfl
  i5 := by kernel_rfl
  i9 := by kernel_rfl
  i46 := by kernel_rfl
  i51 := by kernel_rfl
  i59 := by kernel_rfl
  i146 := by kernel_rfl
  m1 := by kernel_rfl
  s1_3 := fun w h => Go.Proofs.cell_of_shapedOpen_int (zero := #[.int .i64 0]) (t := 3) h (of_decide_eq_true (by kernel_rfl)) (by kernel_rfl) rfl (by kernel_rfl) (by kernel_rfl) Tryd.underlying3 }
theorem lib_Cut {s : ByteArray} {c : UInt8} (hs : s.size < 4294967281) {w : World} (hM : MaxL w) :
    Does Tryd.prog 45 [.string s, .string ⟨#[c]⟩] w (fun v w' => v = .tuple #[.string (bs (Lib.cut s.data.toList [c]).1), .string (bs (Lib.cut s.data.toList [c]).2.1), .bool (Lib.cut s.data.toList [c]).2.2] ∧ Ext w w') := by
  obtain ⟨m, hm⟩ := hM
  have h : Calls Tryd.prog 45 #[.string s, .string ⟨#[c]⟩] w _ := Any.strings_Cut { lay_Cut with } s ⟨#[c]⟩ m w hs hm
  refine Does.of_calls (by kernel_rfl) (h.mono ?_)
  rintro _ _ ⟨rfl, n, rfl⟩
  exact ⟨_, rfl, rfl, ⟨rfl, rfl, rfl, Nat.le_refl _, fun _ _ => rfl⟩⟩
def lay_IndexByte_ren : Go.Shelf.Ren := ⟨fun | 137 => 124 | 217 => 114 | 266 => 133 | n => n, fun | 9 => 9 | 5 => 5 | 3 => 3 | n => n, fun | n => n⟩
theorem lay_IndexByte : Go.Proofs.Lays.n137 Tryd.prog lay_IndexByte_ren := {
  mixed := by kernel_rfl
  f137 := Tryd.func124.trans (congrArg some (by kernel_rfl))
  f217 := Tryd.func114.trans (congrArg some (by kernel_rfl))
  f266 := Tryd.func133.trans (congrArg some (by kernel_rfl))
  t3 := Tryd.underlying3
  a3 := Tryd.isAgg3
  z3 := Tryd.sizeOf3
  v3 := Tryd.zeroValue3
  t5 := Tryd.underlying5
  a5 := Tryd.isAgg5
  z5 := Tryd.sizeOf5
  v5 := Tryd.zeroValue5
  t9 := Tryd.underlying9
  a9 := Tryd.isAgg9
  z9 := Tryd.sizeOf9
  v9 := Tryd.zeroValue9 }
theorem lib_IndexByte (s : ByteArray) (c : UInt8) (w : World) : Does Tryd.prog 124 [.string s, .int .u8 c.toNat] w (fun v w' => v = .int .i64 (Lib.indexByte s.data.toList c) ∧ w = w') := by
  have h : Calls Tryd.prog 124 #[.string s, .int .u8 c.toNat] w _ := Any.strings_IndexByte lay_IndexByte s c.toNat w
  refine Does.of_calls (by kernel_rfl) (h.mono ?_)
  rintro _ _ ⟨rfl, rfl⟩
  exact ⟨_, rfl, by simp, rfl⟩
def lay_Join_ren : Go.Shelf.Ren := ⟨fun | 156 => 64 | 165 => 88 | 166 => 89 | 169 => 90 | 240 => 109 | 241 => 110 | 276 => 130 | 277 => 131 | n => n, fun | 31 => 24 | 9 => 9 | 3 => 3 | 4 => 4 | 0 => 0 | 20 => 20 | 72 => 121 | 76 => 123 | 70 => 119 | 37 => 43 | 75 => 98 | 127 => 135 | 164 => 156 | 5 => 5 | 80 => 125 | n => n, fun | n => n⟩
theorem lay_Join : Go.Proofs.Lays.n156 Tryd.prog lay_Join_ren := {
  mixed := by kernel_rfl
  f156 := Tryd.func64.trans (congrArg some (by kernel_rfl))
  f165 := Tryd.func88.trans (congrArg some (by kernel_rfl))
  f166 := Tryd.func89.trans (congrArg some (by kernel_rfl))
  f169 := Tryd.func90.trans (congrArg some (by kernel_rfl))
  f240 := Tryd.func109.trans (congrArg some (by kernel_rfl))
  f241 := Tryd.func110.trans (congrArg some (by kernel_rfl))
  f276 := Tryd.func130.trans (congrArg some (by kernel_rfl))
  f277 := Tryd.func131.trans (congrArg some (by kernel_rfl))
  t0 := Tryd.underlying0
  a0 := Tryd.isAgg0
  z0 := Tryd.sizeOf0
  v0 := Tryd.zeroValue0
  t3 := Tryd.underlying3
  a3 := Tryd.isAgg3
  z3 := Tryd.sizeOf3
  v3 := Tryd.zeroValue3
  t4 := Tryd.underlying4
  a4 := Tryd.isAgg4
  z4 := Tryd.sizeOf4
  v4 := Tryd.zeroValue4
  t9 := Tryd.underlying9
  a9 := Tryd.isAgg9
  z9 := Tryd.sizeOf9
  v9 := Tryd.zeroValue9
  t20 := Tryd.underlying20
  a20 := Tryd.isAgg20
  z20 := Tryd.sizeOf20
  v20 := Tryd.zeroValue20
  t31 := Tryd.underlying24
  a31 := Tryd.isAgg24
  z31 := Tryd.sizeOf24
  v31 := Tryd.zeroValue24
  t37 := Tryd.underlying43
  a37 := Tryd.isAgg43
  z37 := Tryd.sizeOf43
  v37 := Tryd.zeroValue43
  t70 := Tryd.underlying119
  a70 := Tryd.isAgg119
  z70 := Tryd.sizeOf119
  v70 := Tryd.zeroValue119
  t72 := Tryd.underlying121
  a72 := Tryd.isAgg121
  z72 := Tryd.sizeOf121
  v72 := Tryd.zeroValue121
  t75 := Tryd.underlying98
  a75 := Tryd.isAgg98
  z75 := Tryd.sizeOf98
  v75 := Tryd.zeroValue98
  t76 := Tryd.underlying123
  a76 := Tryd.isAgg123
  z76 := Tryd.sizeOf123
  v76 := Tryd.zeroValue123
  t127 := Tryd.underlying135
  a127 := Tryd.isAgg135
  z127 := Tryd.sizeOf135
  v127 := Tryd.zeroValue135
  t164 := Tryd.underlying156
  a164 := Tryd.isAgg156
  z164 := Tryd.sizeOf156
  v164 := Tryd.zeroValue156 }
theorem lay_JoinX : Builder.Extra Tryd.prog lay_Join_ren := {
  sizeBuilder := by kernel_rfl
  liesBuilder := by kernel_rfl
  t5 := Tryd.underlying5
  a5 := Tryd.isAgg5
  z5 := Tryd.sizeOf5
  v5 := Tryd.zeroValue5
  infoByte := by kernel_rfl
  cellsByte := by kernel_rfl
  sizeByte := by kernel_rfl
  neB5 := by decide }
theorem lib_Join {xs : List ByteArray} {sep : ByteArray} {b n c : Nat} {w : World} (h : Cells w b 0 (flat eS xs)) (hb : b < w.heap.size) (hn : xs.length = n) (hc : n ≤ c) (hN : n ≤ 140737488355328)
    (hl : (Lib.join (xs.map (·.data.toList)) sep.data.toList).length ≤ 140737488355328) :
    Does Tryd.prog 64 [.slice (some ⟨b, 0, none⟩) n c, .string sep] w (fun v w' => v = .string (bs (Lib.join (xs.map (·.data.toList)) sep.data.toList)) ∧ Ext w w') := by
  subst hn
  have hh : Calls Tryd.prog 64 #[.slice (some ⟨b, 0, none⟩) xs.length c, .string sep] w _ := Any.strings_Join lay_Join lay_JoinX b 0 c xs sep w (fun j x hx => by
    have := h j (.string x) (by
      rw [flat_eS, List.getElem?_map, hx]
      rfl)
    exact this) hb hN hc hl
  refine Does.of_calls (by kernel_rfl) (hh.mono ?_)
  rintro _ _ ⟨rfl, hb⟩
  exact ⟨_, rfl, rfl, hb⟩
theorem lib_Join4 {a1 a2 a3 a4 : ByteArray} {b t : Nat} {w : World} (h : Blk w b [.string a1, .string a2, .string a3, .string a4] t) (h1 : a1.size ≤ 1000) (h2 : a2.size ≤ 1000) (h3 : a3.size ≤ 1000) (h4 : a4.size ≤ 1000) :
    Does Tryd.prog 64 [.slice (some ⟨b, 0, none⟩) 4 4, .string ⟨#[32]⟩] w (fun v w' => v = .string (a1 ++ bs [32] ++ a2 ++ bs [32] ++ a3 ++ bs [32] ++ a4) ∧ Ext w w') := by
  have e : bs (Lib.join [a1.data.toList, a2.data.toList, a3.data.toList, a4.data.toList] [32]) = a1 ++ bs [32] ++ a2 ++ bs [32] ++ a3 ++ bs [32] ++ a4 := by
    apply bytes_ext
    rw [bs_data, Lib.join_cons]
    simp [Lib.joinTail, bs]
  have hz : (Lib.join [a1.data.toList, a2.data.toList, a3.data.toList, a4.data.toList] [32]).length = a1.size + a2.size + a3.size + a4.size + 3 := by
    have := congrArg ByteArray.size e
    rw [bs_size] at this
    rw [this]
    have e1 : (bs [32]).size = 1 := rfl
    simp only [ByteArray.size_append, e1]
    omega
  have := lib_Join (xs := [a1, a2, a3, a4]) (sep := ⟨#[32]⟩) (n := 4) (c := 4) h.cells h.lt rfl (by omega) (by omega) (by show (Lib.join [a1.data.toList, a2.data.toList, a3.data.toList, a4.data.toList] [32]).length ≤ _; omega)
  refine this.mono ?_
  rintro _ w1 ⟨rfl, e1⟩
  exact ⟨congrArg Value.string e, e1⟩
theorem lib_Join6 {a1 a2 a3 a4 a5 a6 : ByteArray} {b t : Nat} {w : World} (h : Blk w b [.string a1, .string a2, .string a3, .string a4, .string a5, .string a6] t) (h1 : a1.size ≤ 1000) (h2 : a2.size ≤ 1000) (h3 : a3.size ≤ 1000) (h4 : a4.size ≤ 1000) (h5 : a5.size ≤ 1000) (h6 : a6.size ≤ 1000) :
    Does Tryd.prog 64 [.slice (some ⟨b, 0, none⟩) 6 6, .string ⟨#[32]⟩] w (fun v w' => v = .string (a1 ++ bs [32] ++ a2 ++ bs [32] ++ a3 ++ bs [32] ++ a4 ++ bs [32] ++ a5 ++ bs [32] ++ a6) ∧ Ext w w') := by
  have e : bs (Lib.join [a1.data.toList, a2.data.toList, a3.data.toList, a4.data.toList, a5.data.toList, a6.data.toList] [32]) = a1 ++ bs [32] ++ a2 ++ bs [32] ++ a3 ++ bs [32] ++ a4 ++ bs [32] ++ a5 ++ bs [32] ++ a6 := by
    apply bytes_ext
    rw [bs_data, Lib.join_cons]
    simp [Lib.joinTail, bs]
  have hz : (Lib.join [a1.data.toList, a2.data.toList, a3.data.toList, a4.data.toList, a5.data.toList, a6.data.toList] [32]).length = a1.size + a2.size + a3.size + a4.size + a5.size + a6.size + 5 := by
    have := congrArg ByteArray.size e
    rw [bs_size] at this
    rw [this]
    have e1 : (bs [32]).size = 1 := rfl
    simp only [ByteArray.size_append, e1]
    omega
  have := lib_Join (xs := [a1, a2, a3, a4, a5, a6]) (sep := ⟨#[32]⟩) (n := 6) (c := 6) h.cells h.lt rfl (by omega) (by omega) (by show (Lib.join [a1.data.toList, a2.data.toList, a3.data.toList, a4.data.toList, a5.data.toList, a6.data.toList] [32]).length ≤ _; omega)
  refine this.mono ?_
  rintro _ w1 ⟨rfl, e1⟩
  exact ⟨congrArg Value.string e, e1⟩
end Go.Proofs.YtpjeooikjcdbpaaDoor
