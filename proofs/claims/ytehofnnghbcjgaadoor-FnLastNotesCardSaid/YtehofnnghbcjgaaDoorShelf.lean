/- Contracts of functions of the given program, of the reference and of the laws: each says what a call returns, for all arguments that meet the premises that the theorem itself names. -/
import Derived.Test.YtehofnnghbcjgaaDoorBase
import Derived.Test.YtehofnnghbcjgaaDoorNum
import Derived.Test.YtehofnnghbcjgaaDoorLiftBase
import Derived.Test.YtehofnnghbcjgaaDoorVcTied
import Derived.Shelf.Strconv.Itoa4
import Derived.Shelf.Strconv.ParseIntPublic10
import Derived.Shelf.Strconv.ErrVarParseInt
import Derived.Shelf.Strings.SplitShaped
import Derived.Shelf.Strings.OnBuilder
import Derived.Shelf.Small.Strs
import Derived.Shelf.Strings.Prefix
namespace Go.Proofs.YtehofnnghbcjgaaDoor
open Go Go.RowKit Go.Vc Go.M Go.Shelf Go.Proofs
theorem ext_var {w w' : World} {n : String} {cs : Array Value} (h : w.var? Tryd.prog n = some cs) (e : Ext w w') : w'.var? Tryd.prog n = some cs := by
  unfold World.var? at *
  cases hg : (Tryd.prog).globalNamed n with
  | none => simp [hg] at h
  | some g =>
    simp only [hg, Option.bind_some] at h ⊢
    have hlt : g < w.heap.size := by
      rcases Nat.lt_or_ge g w.heap.size with h' | h'
      · exact h'
      · rw [Array.getElem?_eq_none h'] at h; simp at h
    rw [e.block g hlt]
    exact h
theorem ext_cell {w w' : World} {a : Addr} {v : Value} (h : w.cell? a = some v) (e : Ext w w') : w'.cell? a = some v := by
  rw [cell_of_block (e.block a.block (cell_lt h))]
  exact h
theorem flat_eS : ∀ xs : List ByteArray, flat eS xs = xs.map Value.string
  | [] => rfl
  | x :: xs => by
    have := flat_eS xs
    simp only [flat, eS, List.flatMap_cons, List.map_cons] at *
    rw [this]
    rfl
theorem ext_grow (w : World) (k : Nat) (os : Array Obj) : Ext w (Sort.grow (w.drewN k) os) := by
  refine ⟨rfl, rfl, rfl, ?_, fun i hi => ?_⟩
  · show w.heap.size ≤ (w.heap ++ os).size
    simp
  · show (w.heap ++ os)[i]? = w.heap[i]?
    rw [Array.getElem?_append, if_pos hi]
/-- the library's table of powers stands as it was laid -/
def Pow (w : World) : Prop := Lib.TabIs Tryd.prog w (Rows.fnLastNotesRow.named.getD 5 Rows.fnLastNotesRow.spec) .u64 Lib.pow10Tab
theorem Pow.ext {w w' : World} (h : Pow w) (e : Ext w w') : Pow w' := ext_var h e
theorem Pow.of_laid {rest : List (String × DataW Unit)} {W : World} (h : laidMet Tryd.prog (((Rows.fnLastNotesRow.named.getD 5 Rows.fnLastNotesRow.spec), Lib.tabData .u64 Lib.pow10Tab) :: rest) W) : Pow W :=
  Lib.tabIs_of_head (g := 5) (t := 128) (e := 48) (n := 20) (by kernel_rfl) (by kernel_rfl) Tryd.underlying128 Tryd.underlying48 (by kernel_rfl) (by kernel_rfl) h
def lay_FormatInt_ren : Go.Shelf.Ren := ⟨fun | 173 => 54 | 246 => 68 | 283 => 82 | 284 => 83 | 285 => 84 | 286 => 85 | 129 => 91 | 317 => 90 | 318 => 92 | 319 => 93 | 320 => 94 | 337 => 97 | 338 => 98 | n => n, fun | 2 => 2 | 3 => 3 | 9 => 9 | 4 => 4 | 171 => 111 | 0 => 0 | 53 => 48 | 37 => 22 | 5 => 5 | 173 => 114 | 212 => 128 | 51 => 121 | 20 => 20 | 213 => 129 | 46 => 65 | 232 => 136 | 233 => 137 | n => n, fun | 17 => 5 | 18 => 6 | 19 => 7 | n => n⟩
theorem lay_FormatInt : Go.Proofs.LaysM.n173 Tryd.prog lay_FormatInt_ren := {
  mixed := by kernel_rfl
  f129 := Tryd.func91.trans (congrArg some (by kernel_rfl))
  f173 := Tryd.func54.trans (congrArg some (by kernel_rfl))
  f246 := Tryd.func68.trans (congrArg some (by kernel_rfl))
  f283 := Tryd.func82.trans (congrArg some (by kernel_rfl))
  f284 := Tryd.func83.trans (congrArg some (by kernel_rfl))
  f285 := Tryd.func84.trans (congrArg some (by kernel_rfl))
  f286 := Tryd.func85.trans (congrArg some (by kernel_rfl))
  f317 := Tryd.func90.trans (congrArg some (by kernel_rfl))
  f318 := Tryd.func92.trans (congrArg some (by kernel_rfl))
  f319 := Tryd.func93.trans (congrArg some (by kernel_rfl))
  f320 := Tryd.func94.trans (congrArg some (by kernel_rfl))
  f337 := Tryd.func97.trans (congrArg some (by kernel_rfl))
  f338 := Tryd.func98.trans (congrArg some (by kernel_rfl))
  t0 := Tryd.underlying0
  a0 := Tryd.isAgg0
  z0 := Tryd.sizeOf0
  v0 := Tryd.zeroValue0
  t2 := Tryd.underlying2
  a2 := Tryd.isAgg2
  z2 := Tryd.sizeOf2
  v2 := Tryd.zeroValue2
  t3 := Tryd.underlying3
  a3 := Tryd.isAgg3
  z3 := Tryd.sizeOf3
  v3 := Tryd.zeroValue3
  t4 := Tryd.underlying4
  a4 := Tryd.isAgg4
  z4 := Tryd.sizeOf4
  v4 := Tryd.zeroValue4
  t5 := Tryd.underlying5
  a5 := Tryd.isAgg5
  z5 := Tryd.sizeOf5
  v5 := Tryd.zeroValue5
  t9 := Tryd.underlying9
  a9 := Tryd.isAgg9
  z9 := Tryd.sizeOf9
  v9 := Tryd.zeroValue9
  t20 := Tryd.underlying20
  a20 := Tryd.isAgg20
  z20 := Tryd.sizeOf20
  v20 := Tryd.zeroValue20
  t37 := Tryd.underlying22
  a37 := Tryd.isAgg22
  z37 := Tryd.sizeOf22
  v37 := Tryd.zeroValue22
  t46 := Tryd.underlying65
  a46 := Tryd.isAgg65
  z46 := Tryd.sizeOf65
  v46 := Tryd.zeroValue65
  t51 := Tryd.underlying121
  a51 := Tryd.isAgg121
  z51 := Tryd.sizeOf121
  v51 := Tryd.zeroValue121
  t53 := Tryd.underlying48
  a53 := Tryd.isAgg48
  z53 := Tryd.sizeOf48
  v53 := Tryd.zeroValue48
  t171 := Tryd.underlying111
  a171 := Tryd.isAgg111
  z171 := Tryd.sizeOf111
  v171 := Tryd.zeroValue111
  t173 := Tryd.underlying114
  a173 := Tryd.isAgg114
  z173 := Tryd.sizeOf114
  v173 := Tryd.zeroValue114
  t212 := Tryd.underlying128
  a212 := Tryd.isAgg128
  z212 := Tryd.sizeOf128
  v212 := Tryd.zeroValue128
  t213 := Tryd.underlying129
  a213 := Tryd.isAgg129
  z213 := Tryd.sizeOf129
  t232 := Tryd.underlying136
  a232 := Tryd.isAgg136
  z232 := Tryd.sizeOf136
  v232 := Tryd.zeroValue136
  t233 := Tryd.underlying137
  a233 := Tryd.isAgg137
  z233 := Tryd.sizeOf137
  v233 := Tryd.zeroValue137
  g17 := by kernel_rfl
  g18 := by kernel_rfl
  g19 := by kernel_rfl
  i0 := by kernel_rfl
  i2 := by kernel_rfl
  i3 := by kernel_rfl
  i4 := by kernel_rfl
  i5 := by kernel_rfl
  i9 := by kernel_rfl
  i20 := by kernel_rfl
  i37 := by kernel_rfl
  i46 := by kernel_rfl
  i51 := by kernel_rfl
  i53 := by kernel_rfl
  i171 := by kernel_rfl
  i173 := by kernel_rfl
  i212 := by kernel_rfl
  i232 := by kernel_rfl
  i233 := by kernel_rfl
  m17 := by kernel_rfl
  m18 := by kernel_rfl
  m19 := by kernel_rfl }
theorem lib_FormatInt {n : Int} (hn : i64ok n) {w : World} (hT : Pow w) : Does Tryd.prog 54 [.int .i64 n, .int .i64 10] w (fun v w' => v = .string (decB n) ∧ Ext w w') := by
  have h : Calls Tryd.prog 54 #[.int .i64 n, .int .i64 10] w fun e w' => e = .returned (.string ⟨(Lib.itoa n).toArray⟩) ∧ ∃ k os, w' = Sort.grow (w.drewN k) os :=
    Any.strconv_FormatInt_10 lay_FormatInt n hn.1 hn.2 w hT
  refine Does.of_calls (by kernel_rfl) (h.mono ?_)
  rintro _ _ ⟨rfl, k, os, rfl⟩
  exact ⟨_, rfl, rfl, ext_grow w k os⟩
def lay_TrimPrefix_ren : Go.Shelf.Ren := ⟨fun | 101 => 45 | 208 => 55 | 206 => 69 | n => n, fun | 9 => 9 | 4 => 4 | 3 => 3 | n => n, fun | n => n⟩
theorem lay_TrimPrefix : Go.Proofs.Lays.n101 Tryd.prog lay_TrimPrefix_ren := {
  mixed := by kernel_rfl
  f101 := Tryd.func45.trans (congrArg some (by kernel_rfl))
  f206 := Tryd.func69.trans (congrArg some (by kernel_rfl))
  f208 := Tryd.func55.trans (congrArg some (by kernel_rfl))
  t3 := Tryd.underlying3
  a3 := Tryd.isAgg3
  z3 := Tryd.sizeOf3
  v3 := Tryd.zeroValue3
  t4 := Tryd.underlying4
  a4 := Tryd.isAgg4
  z4 := Tryd.sizeOf4
  v4 := Tryd.zeroValue4
  t9 := Tryd.underlying9
  a9 := Tryd.isAgg9
  z9 := Tryd.sizeOf9
  v9 := Tryd.zeroValue9 }
theorem lib_TrimMinus (s : ByteArray) (w : World) : Does Tryd.prog 45 [.string s, .string ⟨#[45]⟩] w (fun v w' => v = .string (bs (unsign s.data.toList)) ∧ w = w') := by
  have h : Calls Tryd.prog 45 #[.string s, .string ⟨#[45]⟩] w fun e w' => e = .returned (.string ⟨(Lib.trimPrefix s.data.toList [45]).toArray⟩) ∧ w' = w :=
    Any.strings_TrimPrefix lay_TrimPrefix s ⟨#[45]⟩ w
  refine Does.of_calls (by kernel_rfl) (h.mono ?_)
  rintro _ _ ⟨rfl, rfl⟩
  refine ⟨_, rfl, ?_, rfl⟩
  congr 1
  show bs _ = bs _
  congr 1
  unfold Lib.trimPrefix Lib.hasPrefix unsign
  cases s.data.toList with
  | nil => rfl
  | cons c r =>
    by_cases hc : c = 45
    · subst hc; simp
    · simp [hc, Ne.symm hc]
/-- the library's two errors -/
def Errs (w : World) : Prop := (∃ t p, w.var? Tryd.prog (Rows.fnLastNotesRow.named.getD 3 Rows.fnLastNotesRow.spec) = some #[.iface t p]) ∧ ∃ t p, w.var? Tryd.prog (Rows.fnLastNotesRow.named.getD 4 Rows.fnLastNotesRow.spec) = some #[.iface t p]
theorem Errs.ext {w w' : World} (h : Errs w) (e : Ext w w') : Errs w' := by
  obtain ⟨⟨t, p, h1⟩, t2, p2, h2⟩ := h
  exact ⟨⟨t, p, ext_var h1 e⟩, t2, p2, ext_var h2 e⟩
theorem Errs.of_laid {n1 n2 : String} {d1 d2 : DataW Unit} {r1 r2 : List (String × DataW Unit)} {W : World} (h1 : laidMet Tryd.prog (((Rows.fnLastNotesRow.named.getD 3 Rows.fnLastNotesRow.spec), .iface n1 d1) :: r1) W) (h2 : laidMet Tryd.prog (((Rows.fnLastNotesRow.named.getD 4 Rows.fnLastNotesRow.spec), .iface n2 d2) :: r2) W) : Errs W :=
  ⟨err_of_laid h1 (g := 1) (t := 77) (by kernel_rfl) (by kernel_rfl) Tryd.underlying77, err_of_laid h2 (g := 2) (t := 77) (by kernel_rfl) (by kernel_rfl) Tryd.underlying77⟩
def lay_ParseInt_ren : Go.Shelf.Ren := ⟨fun | 174 => 43 | 247 => 52 | 245 => 53 | 287 => 63 | 279 => 64 | 280 => 65 | 281 => 66 | 282 => 67 | 321 => 77 | 322 => 78 | 316 => 79 | 171 => 81 | 205 => 80 | 243 => 89 | 246 => 68 | 283 => 82 | 284 => 83 | 285 => 84 | 286 => 85 | 129 => 91 | 317 => 90 | 318 => 92 | 319 => 93 | 320 => 94 | 337 => 97 | 338 => 98 | n => n, fun | 9 => 9 | 3 => 3 | 2 => 2 | 75 => 77 | 85 => 78 | 4 => 4 | 167 => 90 | 5 => 5 | 53 => 48 | 175 => 91 | 46 => 65 | 168 => 93 | 37 => 22 | 0 => 0 | 210 => 108 | 21 => 21 | 127 => 116 | 145 => 126 | 143 => 124 | 171 => 111 | 173 => 114 | 212 => 128 | 51 => 121 | 20 => 20 | 213 => 129 | 232 => 136 | 233 => 137 | 80 => 103 | n => n, fun | 15 => 1 | 16 => 2 | 17 => 5 | 18 => 6 | 19 => 7 | n => n⟩
theorem lay_ParseInt : Go.Proofs.LaysC.n174 Tryd.prog lay_ParseInt_ren := {
  mixed := by kernel_rfl
  f129 := Tryd.func91.trans (congrArg some (by kernel_rfl))
  f171 := Tryd.func81.trans (congrArg some (by kernel_rfl))
  f174 := Tryd.func43.trans (congrArg some (by kernel_rfl))
  f205 := Tryd.func80.trans (congrArg some (by kernel_rfl))
  f243 := Tryd.func89.trans (congrArg some (by kernel_rfl))
  f245 := Tryd.func53.trans (congrArg some (by kernel_rfl))
  f246 := Tryd.func68.trans (congrArg some (by kernel_rfl))
  f247 := Tryd.func52.trans (congrArg some (by kernel_rfl))
  f279 := Tryd.func64.trans (congrArg some (by kernel_rfl))
  f280 := Tryd.func65.trans (congrArg some (by kernel_rfl))
  f281 := Tryd.func66.trans (congrArg some (by kernel_rfl))
  f282 := Tryd.func67.trans (congrArg some (by kernel_rfl))
  f283 := Tryd.func82.trans (congrArg some (by kernel_rfl))
  f284 := Tryd.func83.trans (congrArg some (by kernel_rfl))
  f285 := Tryd.func84.trans (congrArg some (by kernel_rfl))
  f286 := Tryd.func85.trans (congrArg some (by kernel_rfl))
  f287 := Tryd.func63.trans (congrArg some (by kernel_rfl))
  f316 := Tryd.func79.trans (congrArg some (by kernel_rfl))
  f317 := Tryd.func90.trans (congrArg some (by kernel_rfl))
  f318 := Tryd.func92.trans (congrArg some (by kernel_rfl))
  f319 := Tryd.func93.trans (congrArg some (by kernel_rfl))
  f320 := Tryd.func94.trans (congrArg some (by kernel_rfl))
  f321 := Tryd.func77.trans (congrArg some (by kernel_rfl))
  f322 := Tryd.func78.trans (congrArg some (by kernel_rfl))
  f337 := Tryd.func97.trans (congrArg some (by kernel_rfl))
  f338 := Tryd.func98.trans (congrArg some (by kernel_rfl))
  t0 := Tryd.underlying0
  a0 := Tryd.isAgg0
  z0 := Tryd.sizeOf0
  v0 := Tryd.zeroValue0
  t2 := Tryd.underlying2
  a2 := Tryd.isAgg2
  z2 := Tryd.sizeOf2
  v2 := Tryd.zeroValue2
  t3 := Tryd.underlying3
  a3 := Tryd.isAgg3
  z3 := Tryd.sizeOf3
  v3 := Tryd.zeroValue3
  t4 := Tryd.underlying4
  a4 := Tryd.isAgg4
  z4 := Tryd.sizeOf4
  v4 := Tryd.zeroValue4
  t5 := Tryd.underlying5
  a5 := Tryd.isAgg5
  z5 := Tryd.sizeOf5
  v5 := Tryd.zeroValue5
  t9 := Tryd.underlying9
  a9 := Tryd.isAgg9
  z9 := Tryd.sizeOf9
  v9 := Tryd.zeroValue9
  t20 := Tryd.underlying20
  a20 := Tryd.isAgg20
  z20 := Tryd.sizeOf20
  v20 := Tryd.zeroValue20
  t21 := Tryd.underlying21
  a21 := Tryd.isAgg21
  z21 := Tryd.sizeOf21
  v21 := Tryd.zeroValue21
  t37 := Tryd.underlying22
  a37 := Tryd.isAgg22
  z37 := Tryd.sizeOf22
  v37 := Tryd.zeroValue22
  t46 := Tryd.underlying65
  a46 := Tryd.isAgg65
  z46 := Tryd.sizeOf65
  v46 := Tryd.zeroValue65
  t51 := Tryd.underlying121
  a51 := Tryd.isAgg121
  z51 := Tryd.sizeOf121
  v51 := Tryd.zeroValue121
  t53 := Tryd.underlying48
  a53 := Tryd.isAgg48
  z53 := Tryd.sizeOf48
  v53 := Tryd.zeroValue48
  t75 := Tryd.underlying77
  a75 := Tryd.isAgg77
  z75 := Tryd.sizeOf77
  v75 := Tryd.zeroValue77
  t85 := Tryd.underlying78
  a85 := Tryd.isAgg78
  z85 := Tryd.sizeOf78
  v85 := Tryd.zeroValue78
  t127 := Tryd.underlying116
  a127 := Tryd.isAgg116
  z127 := Tryd.sizeOf116
  v127 := Tryd.zeroValue116
  t143 := Tryd.underlying124
  a143 := Tryd.isAgg124
  z143 := Tryd.sizeOf124
  v143 := Tryd.zeroValue124
  t145 := Tryd.underlying126
  a145 := Tryd.isAgg126
  z145 := Tryd.sizeOf126
  v145 := Tryd.zeroValue126
  t167 := Tryd.underlying90
  a167 := Tryd.isAgg90
  z167 := Tryd.sizeOf90
  v167 := Tryd.zeroValue90
  t168 := Tryd.underlying93
  a168 := Tryd.isAgg93
  z168 := Tryd.sizeOf93
  v168 := Tryd.zeroValue93
  t171 := Tryd.underlying111
  a171 := Tryd.isAgg111
  z171 := Tryd.sizeOf111
  v171 := Tryd.zeroValue111
  t173 := Tryd.underlying114
  a173 := Tryd.isAgg114
  z173 := Tryd.sizeOf114
  v173 := Tryd.zeroValue114
  t175 := Tryd.underlying91
  a175 := Tryd.isAgg91
  z175 := Tryd.sizeOf91
  v175 := Tryd.zeroValue91
  t210 := Tryd.underlying108
  a210 := Tryd.isAgg108
  z210 := Tryd.sizeOf108
  v210 := Tryd.zeroValue108
  t212 := Tryd.underlying128
  a212 := Tryd.isAgg128
  z212 := Tryd.sizeOf128
  v212 := Tryd.zeroValue128
  t213 := Tryd.underlying129
  a213 := Tryd.isAgg129
  z213 := Tryd.sizeOf129
  t232 := Tryd.underlying136
  a232 := Tryd.isAgg136
  z232 := Tryd.sizeOf136
  v232 := Tryd.zeroValue136
  t233 := Tryd.underlying137
  a233 := Tryd.isAgg137
  z233 := Tryd.sizeOf137
  v233 := Tryd.zeroValue137
  g15 := by kernel_rfl
  g16 := by kernel_rfl
  g17 := by kernel_rfl
  g18 := by kernel_rfl
  g19 := by kernel_rfl
  t80 := Tryd.underlying103
  a80 := Tryd.isAgg103
  z80 := Tryd.sizeOf103
  v80 := Tryd.zeroValue103
  i0 := by kernel_rfl
  i2 := by kernel_rfl
  i3 := by kernel_rfl
  i4 := by kernel_rfl
  i5 := by kernel_rfl
  i9 := by kernel_rfl
  i20 := by kernel_rfl
  i21 := by kernel_rfl
  i37 := by kernel_rfl
  i46 := by kernel_rfl
  i51 := by kernel_rfl
  i53 := by kernel_rfl
  i75 := by kernel_rfl
  i80 := by kernel_rfl
  i85 := by kernel_rfl
  i127 := by kernel_rfl
  i143 := by kernel_rfl
  i145 := by kernel_rfl
  i167 := by kernel_rfl
  i168 := by kernel_rfl
  i171 := by kernel_rfl
  i173 := by kernel_rfl
  i175 := by kernel_rfl
  i210 := by kernel_rfl
  i212 := by kernel_rfl
  i232 := by kernel_rfl
  i233 := by kernel_rfl
  m15 := by kernel_rfl
  m16 := by kernel_rfl
  m17 := by kernel_rfl
  m18 := by kernel_rfl
  m19 := by kernel_rfl
  c0 := by kernel_rfl
  c2 := by kernel_rfl
  c3 := by kernel_rfl
  c4 := by kernel_rfl
  c5 := by kernel_rfl
  c9 := by kernel_rfl
  c20 := by kernel_rfl
  c21 := by kernel_rfl
  c37 := by kernel_rfl
  c46 := by kernel_rfl
  c51 := by kernel_rfl
  c53 := by kernel_rfl
  c75 := by kernel_rfl
  c80 := by kernel_rfl
  c85 := by kernel_rfl
  c127 := by kernel_rfl
  c143 := by kernel_rfl
  c145 := by kernel_rfl
  c167 := by kernel_rfl
  c168 := by kernel_rfl
  c171 := by kernel_rfl
  c173 := by kernel_rfl
  c175 := by kernel_rfl
  c210 := by kernel_rfl
  c212 := by kernel_rfl
  c213 := by kernel_rfl
  c232 := by kernel_rfl
  c233 := by kernel_rfl }
theorem lib_ParseInt {s : ByteArray} (hs : s.size ≤ 281474976710656) {w : World} (hE : Errs w) :
    Does Tryd.prog 43 [.string s, .int .i64 10, .int .i64 64] w (fun v w' => ((∃ n, Lib.parseIntB 64 s.data.toList = .ok n ∧ v = .tuple #[.int .i64 n, .nilIface]) ∨
      ((∀ n, Lib.parseIntB 64 s.data.toList ≠ .ok n) ∧ ∃ n t a, v = .tuple #[.int .i64 n, .iface t (.pointer (some a))])) ∧ Ext w w') := by
  obtain ⟨⟨t, p, h1⟩, t2, p2, h2⟩ := hE
  cases hp : Lib.parseIntB 64 s.data.toList
  · rename_i n
    refine Does.of_calls (by kernel_rfl) ((Any.strconv_ParseInt_10_at64_ok lay_ParseInt s (by omega) n hp w).mono ?_)
    rintro _ _ ⟨rfl, hw⟩
    refine ⟨_, rfl, .inl ⟨n, rfl, rfl⟩, ?_⟩
    rcases hw with rfl | ⟨t, rfl⟩
    · exact Ext.refl _
    · exact Lib.bytesWorld_below _ _ _
  · refine Does.of_calls (by kernel_rfl) ((Any.strconv_ParseInt_10_at64_syntax_var lay_ParseInt s hs hp t p w h1).mono ?_)
    rintro _ _ ⟨N, rfl, _, _, hb⟩
    exact ⟨_, rfl, .inr ⟨(fun n h => by cases h), _, _, _, rfl⟩, hb⟩
  · refine Does.of_calls (by kernel_rfl) ((Any.strconv_ParseInt_10_at64_range_var lay_ParseInt s hs hp t2 p2 w h2).mono ?_)
    rintro _ _ ⟨N, rfl, _, _, hb⟩
    exact ⟨_, rfl, .inr ⟨(fun n h => by cases h), _, _, _, rfl⟩, hb⟩
def lay_Split_ren : Go.Shelf.Ren := ⟨fun | 146 => 36 | 221 => 42 | 268 => 49 | 138 => 50 | 143 => 51 | 195 => 59 | 197 => 60 | 218 => 61 | 219 => 62 | 260 => 73 | 217 => 35 | 225 => 74 | 224 => 75 | 267 => 76 | 266 => 41 | 314 => 88 | n => n, fun | 9 => 9 | 31 => 61 | 3 => 3 | 4 => 4 | 0 => 0 | 105 => 88 | 21 => 21 | 5 => 5 | 46 => 65 | 119 => 117 | 139 => 120 | 138 => 119 | 146 => 122 | 51 => 121 | n => n, fun | 1 => 0 | 3 => 3 | 4 => 4 | n => n⟩
theorem lay_Split : Go.Proofs.LaysM.n146 Tryd.prog lay_Split_ren := {
  mixed := by kernel_rfl
  f138 := Tryd.func50.trans (congrArg some (by kernel_rfl))
  f143 := Tryd.func51.trans (congrArg some (by kernel_rfl))
  f146 := Tryd.func36.trans (congrArg some (by kernel_rfl))
  f195 := Tryd.func59.trans (congrArg some (by kernel_rfl))
  f197 := Tryd.func60.trans (congrArg some (by kernel_rfl))
  f217 := Tryd.func35.trans (congrArg some (by kernel_rfl))
  f218 := Tryd.func61.trans (congrArg some (by kernel_rfl))
  f219 := Tryd.func62.trans (congrArg some (by kernel_rfl))
  f221 := Tryd.func42.trans (congrArg some (by kernel_rfl))
  f224 := Tryd.func75.trans (congrArg some (by kernel_rfl))
  f225 := Tryd.func74.trans (congrArg some (by kernel_rfl))
  f260 := Tryd.func73.trans (congrArg some (by kernel_rfl))
  f266 := Tryd.func41.trans (congrArg some (by kernel_rfl))
  f267 := Tryd.func76.trans (congrArg some (by kernel_rfl))
  f268 := Tryd.func49.trans (congrArg some (by kernel_rfl))
  f314 := Tryd.func88.trans (congrArg some (by kernel_rfl))
  t0 := Tryd.underlying0
  a0 := Tryd.isAgg0
  z0 := Tryd.sizeOf0
  v0 := Tryd.zeroValue0
  t3 := Tryd.underlying3
  a3 := Tryd.isAgg3
  z3 := Tryd.sizeOf3
  v3 := Tryd.zeroValue3
  t4 := Tryd.underlying4
  a4 := Tryd.isAgg4
  z4 := Tryd.sizeOf4
  v4 := Tryd.zeroValue4
  t5 := Tryd.underlying5
  a5 := Tryd.isAgg5
  z5 := Tryd.sizeOf5
  v5 := Tryd.zeroValue5
  t9 := Tryd.underlying9
  a9 := Tryd.isAgg9
  z9 := Tryd.sizeOf9
  v9 := Tryd.zeroValue9
  t21 := Tryd.underlying21
  a21 := Tryd.isAgg21
  z21 := Tryd.sizeOf21
  v21 := Tryd.zeroValue21
  t31 := Tryd.underlying61
  a31 := Tryd.isAgg61
  z31 := Tryd.sizeOf61
  v31 := Tryd.zeroValue61
  t46 := Tryd.underlying65
  a46 := Tryd.isAgg65
  z46 := Tryd.sizeOf65
  v46 := Tryd.zeroValue65
  t51 := Tryd.underlying121
  a51 := Tryd.isAgg121
  z51 := Tryd.sizeOf121
  v51 := Tryd.zeroValue121
  t105 := Tryd.underlying88
  a105 := Tryd.isAgg88
  z105 := Tryd.sizeOf88
  v105 := Tryd.zeroValue88
  t119 := Tryd.underlying117
  a119 := Tryd.isAgg117
  z119 := Tryd.sizeOf117
  t138 := Tryd.underlying119
  a138 := Tryd.isAgg119
  z138 := Tryd.sizeOf119
  v138 := Tryd.zeroValue119
  t139 := Tryd.underlying120
  a139 := Tryd.isAgg120
  z139 := Tryd.sizeOf120
  v139 := Tryd.zeroValue120
  t146 := Tryd.underlying122
  a146 := Tryd.isAgg122
  z146 := Tryd.sizeOf122
  v146 := Tryd.zeroValue122
  g1 := by kernel_rfl
  g3 := by kernel_rfl
  g4 := by kernel_rfl
  i0 := by kernel_rfl
  i3 := by kernel_rfl
  i4 := by kernel_rfl
  i5 := by kernel_rfl
  i9 := by kernel_rfl
  i21 := by kernel_rfl
  i31 := by kernel_rfl
  i46 := by kernel_rfl
  i51 := by kernel_rfl
  i105 := by kernel_rfl
  i138 := by kernel_rfl
  i139 := by kernel_rfl
  i146 := by kernel_rfl
  m1 := by kernel_rfl
  s1_3 := fun w h => Go.Proofs.cell_of_shapedOpen_int (zero := #[.int .i64 0]) (t := 3) h (of_decide_eq_true (by kernel_rfl)) (by kernel_rfl) rfl (by kernel_rfl) (by kernel_rfl) Tryd.underlying3
  m3 := by kernel_rfl
  m4 := by kernel_rfl }
/-- the library's bound for a short search is some number -/
def MaxL (w : World) : Prop := ∃ m, w.cell? ⟨lay_Split_ren.g 1, 0, none⟩ = some (.int .i64 m)
theorem MaxL.ext {w w' : World} (h : MaxL w) (e : Ext w w') : MaxL w' := by
  obtain ⟨m, h⟩ := h
  exact ⟨m, ext_cell h e⟩
theorem MaxL.of_shaped {w : World} (h : w.ShapedOpen Tryd.prog) : MaxL w := lay_Split.s1_3 w h
theorem lib_Split {s : ByteArray} {c : UInt8} (hs : s.size < 4294967281) {w : World} (hM : MaxL w) :
    Does Tryd.prog 36 [.string s, .string ⟨#[c]⟩] w (fun v w' => ∃ b, v = .slice (some ⟨b, 0, none⟩) (splitS c s).length (splitS c s).length ∧ w.heap.size ≤ b ∧ Blk w' b (flat eS (splitS c s)) 9 ∧ Ext w w') := by
  obtain ⟨m, hm⟩ := hM
  have h : Calls Tryd.prog 36 #[.string s, .string ⟨#[c]⟩] w _ := Any.strings_Split { lay_Split with } lay_Split.i9 s ⟨#[c]⟩ m w hs hm (by show 1 ≤ 1; omega)
  refine Does.of_calls (by kernel_rfl) (h.mono ?_)
  rintro _ _ ⟨rfl, rfl⟩
  rw [← splitS_len, splitB_eq]
  refine ⟨_, rfl, w.heap.size, rfl, Nat.le_refl _, ?_, alloc_ext _ _⟩
  rw [flat_eS]
  exact alloc_blk _ _ _
def lay_IndexByte_ren : Go.Shelf.Ren := ⟨fun | 137 => 33 | 217 => 35 | 266 => 41 | n => n, fun | 9 => 9 | 5 => 5 | 3 => 3 | n => n, fun | n => n⟩
theorem lay_IndexByte : Go.Proofs.Lays.n137 Tryd.prog lay_IndexByte_ren := {
  mixed := by kernel_rfl
  f137 := Tryd.func33.trans (congrArg some (by kernel_rfl))
  f217 := Tryd.func35.trans (congrArg some (by kernel_rfl))
  f266 := Tryd.func41.trans (congrArg some (by kernel_rfl))
  t3 := Tryd.underlying3
  a3 := Tryd.isAgg3
  z3 := Tryd.sizeOf3
  v3 := Tryd.zeroValue3
  t5 := Tryd.underlying5
  a5 := Tryd.isAgg5
  z5 := Tryd.sizeOf5
  v5 := Tryd.zeroValue5
  t9 := Tryd.underlying9
  a9 := Tryd.isAgg9
  z9 := Tryd.sizeOf9
  v9 := Tryd.zeroValue9 }
theorem lib_IndexByte (s : ByteArray) (c : UInt8) (w : World) : Does Tryd.prog 33 [.string s, .int .u8 c.toNat] w (fun v w' => v = .int .i64 (Lib.indexByte s.data.toList c) ∧ w = w') := by
  have h : Calls Tryd.prog 33 #[.string s, .int .u8 c.toNat] w _ := Any.strings_IndexByte lay_IndexByte s c.toNat w
  refine Does.of_calls (by kernel_rfl) (h.mono ?_)
  rintro _ _ ⟨rfl, rfl⟩
  exact ⟨_, rfl, by simp, rfl⟩
def lay_Join_ren : Go.Shelf.Ren := ⟨fun | 156 => 58 | 165 => 70 | 166 => 71 | 169 => 72 | 240 => 86 | 241 => 87 | 276 => 95 | 277 => 96 | n => n, fun | 31 => 61 | 9 => 9 | 3 => 3 | 4 => 4 | 0 => 0 | 20 => 20 | 72 => 99 | 76 => 101 | 70 => 97 | 37 => 22 | 75 => 77 | 127 => 116 | 164 => 132 | 5 => 5 | 80 => 103 | n => n, fun | n => n⟩
theorem lay_Join : Go.Proofs.Lays.n156 Tryd.prog lay_Join_ren := {
  mixed := by kernel_rfl
  f156 := Tryd.func58.trans (congrArg some (by kernel_rfl))
  f165 := Tryd.func70.trans (congrArg some (by kernel_rfl))
  f166 := Tryd.func71.trans (congrArg some (by kernel_rfl))
  f169 := Tryd.func72.trans (congrArg some (by kernel_rfl))
  f240 := Tryd.func86.trans (congrArg some (by kernel_rfl))
  f241 := Tryd.func87.trans (congrArg some (by kernel_rfl))
  f276 := Tryd.func95.trans (congrArg some (by kernel_rfl))
  f277 := Tryd.func96.trans (congrArg some (by kernel_rfl))
  t0 := Tryd.underlying0
  a0 := Tryd.isAgg0
  z0 := Tryd.sizeOf0
  v0 := Tryd.zeroValue0
  t3 := Tryd.underlying3
  a3 := Tryd.isAgg3
  z3 := Tryd.sizeOf3
  v3 := Tryd.zeroValue3
  t4 := Tryd.underlying4
  a4 := Tryd.isAgg4
  z4 := Tryd.sizeOf4
  v4 := Tryd.zeroValue4
  t9 := Tryd.underlying9
  a9 := Tryd.isAgg9
  z9 := Tryd.sizeOf9
  v9 := Tryd.zeroValue9
  t20 := Tryd.underlying20
  a20 := Tryd.isAgg20
  z20 := Tryd.sizeOf20
  v20 := Tryd.zeroValue20
  t31 := Tryd.underlying61
  a31 := Tryd.isAgg61
  z31 := Tryd.sizeOf61
  v31 := Tryd.zeroValue61
  t37 := Tryd.underlying22
  a37 := Tryd.isAgg22
  z37 := Tryd.sizeOf22
  v37 := Tryd.zeroValue22
  t70 := Tryd.underlying97
  a70 := Tryd.isAgg97
  z70 := Tryd.sizeOf97
  v70 := Tryd.zeroValue97
  t72 := Tryd.underlying99
  a72 := Tryd.isAgg99
  z72 := Tryd.sizeOf99
  v72 := Tryd.zeroValue99
  t75 := Tryd.underlying77
  a75 := Tryd.isAgg77
  z75 := Tryd.sizeOf77
  v75 := Tryd.zeroValue77
  t76 := Tryd.underlying101
  a76 := Tryd.isAgg101
  z76 := Tryd.sizeOf101
  v76 := Tryd.zeroValue101
  t127 := Tryd.underlying116
  a127 := Tryd.isAgg116
  z127 := Tryd.sizeOf116
  v127 := Tryd.zeroValue116
  t164 := Tryd.underlying132
  a164 := Tryd.isAgg132
  z164 := Tryd.sizeOf132
  v164 := Tryd.zeroValue132 }
theorem lay_JoinX : Builder.Extra Tryd.prog lay_Join_ren := {
  sizeBuilder := by kernel_rfl
  liesBuilder := by kernel_rfl
  t5 := Tryd.underlying5
  a5 := Tryd.isAgg5
  z5 := Tryd.sizeOf5
  v5 := Tryd.zeroValue5
  infoByte := by kernel_rfl
  cellsByte := by kernel_rfl
  sizeByte := by kernel_rfl
  neB5 := by decide }
theorem lib_Join {xs : List ByteArray} {sep : ByteArray} {b n c : Nat} {w : World} (h : Cells w b 0 (flat eS xs)) (hb : b < w.heap.size) (hn : xs.length = n) (hc : n ≤ c) (hN : n ≤ 140737488355328)
    (hl : (Lib.join (xs.map (·.data.toList)) sep.data.toList).length ≤ 140737488355328) :
    Does Tryd.prog 58 [.slice (some ⟨b, 0, none⟩) n c, .string sep] w (fun v w' => v = .string (bs (Lib.join (xs.map (·.data.toList)) sep.data.toList)) ∧ Ext w w') := by
  subst hn
  have hh : Calls Tryd.prog 58 #[.slice (some ⟨b, 0, none⟩) xs.length c, .string sep] w _ := Any.strings_Join lay_Join lay_JoinX b 0 c xs sep w (fun j x hx => by
    have := h j (.string x) (by
      rw [flat_eS, List.getElem?_map, hx]
      rfl)
    exact this) hb hN hc hl
  refine Does.of_calls (by kernel_rfl) (hh.mono ?_)
  rintro _ _ ⟨rfl, hb⟩
  exact ⟨_, rfl, rfl, hb⟩
theorem lib_Join4 {a1 a2 a3 a4 : ByteArray} {b t : Nat} {w : World} (h : Blk w b [.string a1, .string a2, .string a3, .string a4] t) (h1 : a1.size ≤ 1000) (h2 : a2.size ≤ 1000) (h3 : a3.size ≤ 1000) (h4 : a4.size ≤ 1000) :
    Does Tryd.prog 58 [.slice (some ⟨b, 0, none⟩) 4 4, .string ⟨#[32]⟩] w (fun v w' => v = .string (a1 ++ bs [32] ++ a2 ++ bs [32] ++ a3 ++ bs [32] ++ a4) ∧ Ext w w') := by
  have e : bs (Lib.join [a1.data.toList, a2.data.toList, a3.data.toList, a4.data.toList] [32]) = a1 ++ bs [32] ++ a2 ++ bs [32] ++ a3 ++ bs [32] ++ a4 := by
    apply bytes_ext
    rw [bs_data, Lib.join_cons]
    simp [Lib.joinTail, bs]
  have hz : (Lib.join [a1.data.toList, a2.data.toList, a3.data.toList, a4.data.toList] [32]).length = a1.size + a2.size + a3.size + a4.size + 3 := by
    have := congrArg ByteArray.size e
    rw [bs_size] at this
    rw [this]
    have e1 : (bs [32]).size = 1 := rfl
    simp only [ByteArray.size_append, e1]
    omega
  have := lib_Join (xs := [a1, a2, a3, a4]) (sep := ⟨#[32]⟩) (n := 4) (c := 4) h.cells h.lt rfl (by omega) (by omega) (by show (Lib.join [a1.data.toList, a2.data.toList, a3.data.toList, a4.data.toList] [32]).length ≤ _; omega)
  refine this.mono ?_
  rintro _ w1 ⟨rfl, e1⟩
  exact ⟨congrArg Value.string e, e1⟩
theorem lib_Join6 {a1 a2 a3 a4 a5 a6 : ByteArray} {b t : Nat} {w : World} (h : Blk w b [.string a1, .string a2, .string a3, .string a4, .string a5, .string a6] t) (h1 : a1.size ≤ 1000) (h2 : a2.size ≤ 1000) (h3 : a3.size ≤ 1000) (h4 : a4.size ≤ 1000) (h5 : a5.size ≤ 1000) (h6 : a6.size ≤ 1000) :
    Does Tryd.prog 58 [.slice (some ⟨b, 0, none⟩) 6 6, .string ⟨#[32]⟩] w (fun v w' => v = .string (a1 ++ bs [32] ++ a2 ++ bs [32] ++ a3 ++ bs [32] ++ a4 ++ bs [32] ++ a5 ++ bs [32] ++ a6) ∧ Ext w w') := by
  have e : bs (Lib.join [a1.data.toList, a2.data.toList, a3.data.toList, a4.data.toList, a5.data.toList, a6.data.toList] [32]) = a1 ++ bs [32] ++ a2 ++ bs [32] ++ a3 ++ bs [32] ++ a4 ++ bs [32] ++ a5 ++ bs [32] ++ a6 := by
    apply bytes_ext
    rw [bs_data, Lib.join_cons]
    simp [Lib.joinTail, bs]
  have hz : (Lib.join [a1.data.toList, a2.data.toList, a3.data.toList, a4.data.toList, a5.data.toList, a6.data.toList] [32]).length = a1.size + a2.size + a3.size + a4.size + a5.size + a6.size + 5 := by
    have := congrArg ByteArray.size e
    rw [bs_size] at this
    rw [this]
    have e1 : (bs [32]).size = 1 := rfl
    simp only [ByteArray.size_append, e1]
    omega
  have := lib_Join (xs := [a1, a2, a3, a4, a5, a6]) (sep := ⟨#[32]⟩) (n := 6) (c := 6) h.cells h.lt rfl (by omega) (by omega) (by show (Lib.join [a1.data.toList, a2.data.toList, a3.data.toList, a4.data.toList, a5.data.toList, a6.data.toList] [32]).length ≤ _; omega)
  refine this.mono ?_
  rintro _ w1 ⟨rfl, e1⟩
  exact ⟨congrArg Value.string e, e1⟩
end Go.Proofs.YtehofnnghbcjgaaDoor
