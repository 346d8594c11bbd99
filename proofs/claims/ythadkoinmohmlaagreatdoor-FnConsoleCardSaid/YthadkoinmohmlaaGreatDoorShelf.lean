/- Contracts of functions of the given program, of the reference and of the laws: each says what a call returns, for all arguments that meet the premises that the theorem itself names. -/
import Derived.Shelf.Strconv.Itoa4
import Derived.Shelf.Strconv.ParseIntPublic10
import Derived.Shelf.Strconv.ErrVarParseInt
import Derived.Shelf.Strings.SplitShaped
import Derived.Shelf.Strings.OnBuilder
import Derived.Shelf.Strings.Cut
import Derived.Shelf.Small.Strs
import Derived.Shelf.Strings.Prefix
import Derived.Test.YthadkoinmohmlaaGreatDoorModel
import Derived.Test.YthadkoinmohmlaaGreatDoorStab
import Derived.Test.YthadkoinmohmlaaGreatDoorOffice
namespace Go.Proofs.YthadkoinmohmlaaGreatDoor
open Go Go.RowKit Go.Vc Go.M Go.Shelf Go.Proofs
theorem ext_var {w w':World} {n:String} {cs:Array Value} (h:w.var? Tryz.prog n=some cs) (e:Ext w w'):w'.var? Tryz.prog n=some cs:=by
  unfold World.var? at *;cases hg:(Tryz.prog).globalNamed n with
  | none=>simp [hg] at h
  | some g =>
    simp only [hg,Option.bind_some] at h ⊢;have hlt:g<w.heap.size:=by
      rcases Nat.lt_or_ge g w.heap.size with h' | h'
      · exact h'
      · rw [Array.getElem?_eq_none h'] at h;simp at h
    rw [e.block g hlt];exact h
theorem ext_cell {w w':World} {a:Addr} {v:Value} (h:w.cell? a=some v) (e:Ext w w'):w'.cell? a=some v:=by
  rw [cell_of_block (e.block a.block (cell_lt h))];exact h
theorem flat_eS:∀ xs:List ByteArray,flat eS xs=xs.map Value.string
  | []=>rfl
  | x :: xs=>by
    have:=flat_eS xs;simp only [flat,eS,List.flatMap_cons,List.map_cons] at *;rw [this];rfl
theorem ext_grow (w:World) (k:Nat) (os:Array Obj):Ext w (Sort.grow (w.drewN k) os):=by
  refine ⟨rfl,rfl,rfl,?_,fun i hi=>?_⟩
  · show w.heap.size≤(w.heap++os).size;simp
  · show (w.heap++os)[i]? = w.heap[i]?;rw [Array.getElem?_append,if_pos hi]
def Pow (w:World):Prop:=Lib.TabIs Tryz.prog w (Rows.fnConsoleRow.named.getD 5 Rows.fnConsoleRow.spec) .u64 Lib.pow10Tab
theorem Pow.ext {w w':World} (h:Pow w) (e:Ext w w'):Pow w':=ext_var h e
theorem Pow.of_laid {rest:List (String×DataW Unit)} {W:World} (h:laidMet Tryz.prog (((Rows.fnConsoleRow.named.getD 5 Rows.fnConsoleRow.spec),Lib.tabData .u64 Lib.pow10Tab) :: rest) W):Pow W :=
  Lib.tabIs_of_head (g:=6) (t:=366) (e:=89) (n:=20) (by kernel_rfl) (by kernel_rfl) Tryz.underlying366 Tryz.underlying89 (by kernel_rfl) (by kernel_rfl) h
def lay_FormatInt_ren:Go.Shelf.Ren:=⟨fun | 173=>182 | 246=>251 | 283=>305 | 284=>306 | 285=>307 | 286=>308 | 129=>339 | 317=>338 | 318=>340 | 319=>341 | 320=>342 | 337=>358 | 338=>359 | n=>n,fun | 2=>2 | 3=>3 | 9=>9 | 4=>4 | 171=>345 | 0=>0 | 53=>89 | 37=>22 | 5=>5 | 173=>347 | 212=>366 | 51=>237 | 20=>20 | 213=>367 | 46=>160 | 232=>383 | 233=>384 | n=>n,fun | 17=>6 | 18=>7 | 19=>8 | n=>n⟩
theorem lay_FormatInt:Go.Proofs.LaysM.n173 Tryz.prog lay_FormatInt_ren:={
  mixed:=by kernel_rfl
  f129:=Tryz.func339.trans (congrArg some (by kernel_rfl))
  f173:=Tryz.func182.trans (congrArg some (by kernel_rfl))
  f246:=Tryz.func251.trans (congrArg some (by kernel_rfl))
  f283:=Tryz.func305.trans (congrArg some (by kernel_rfl))
  f284:=Tryz.func306.trans (congrArg some (by kernel_rfl))
  f285:=Tryz.func307.trans (congrArg some (by kernel_rfl))
  f286:=Tryz.func308.trans (congrArg some (by kernel_rfl))
  f317:=Tryz.func338.trans (congrArg some (by kernel_rfl))
  f318:=Tryz.func340.trans (congrArg some (by kernel_rfl))
  f319:=Tryz.func341.trans (congrArg some (by kernel_rfl))
  f320:=Tryz.func342.trans (congrArg some (by kernel_rfl))
  f337:=Tryz.func358.trans (congrArg some (by kernel_rfl))
  f338:=Tryz.func359.trans (congrArg some (by kernel_rfl))
  t0:=Tryz.underlying0
  a0:=Tryz.isAgg0
  z0:=Tryz.sizeOf0
  v0:=Tryz.zeroValue0
  t2:=Tryz.underlying2
  a2:=Tryz.isAgg2
  z2:=Tryz.sizeOf2
  v2:=Tryz.zeroValue2
  t3:=Tryz.underlying3
  a3:=Tryz.isAgg3
  z3:=Tryz.sizeOf3
  v3:=Tryz.zeroValue3
  t4:=Tryz.underlying4
  a4:=Tryz.isAgg4
  z4:=Tryz.sizeOf4
  v4:=Tryz.zeroValue4
  t5:=Tryz.underlying5
  a5:=Tryz.isAgg5
  z5:=Tryz.sizeOf5
  v5:=Tryz.zeroValue5
  t9:=Tryz.underlying9
  a9:=Tryz.isAgg9
  z9:=Tryz.sizeOf9
  v9:=Tryz.zeroValue9
  t20:=Tryz.underlying20
  a20:=Tryz.isAgg20
  z20:=Tryz.sizeOf20
  v20:=Tryz.zeroValue20
  t37:=Tryz.underlying22
  a37:=Tryz.isAgg22
  z37:=Tryz.sizeOf22
  v37:=Tryz.zeroValue22
  t46:=Tryz.underlying160
  a46:=Tryz.isAgg160
  z46:=Tryz.sizeOf160
  v46:=Tryz.zeroValue160
  t51:=Tryz.underlying237
  a51:=Tryz.isAgg237
  z51:=Tryz.sizeOf237
  v51:=Tryz.zeroValue237
  t53:=Tryz.underlying89
  a53:=Tryz.isAgg89
  z53:=Tryz.sizeOf89
  v53:=Tryz.zeroValue89
  t171:=Tryz.underlying345
  a171:=Tryz.isAgg345
  z171:=Tryz.sizeOf345
  v171:=Tryz.zeroValue345
  t173:=Tryz.underlying347
  a173:=Tryz.isAgg347
  z173:=Tryz.sizeOf347
  v173:=Tryz.zeroValue347
  t212:=Tryz.underlying366
  a212:=Tryz.isAgg366
  z212:=Tryz.sizeOf366
  v212:=Tryz.zeroValue366
  t213:=Tryz.underlying367
  a213:=Tryz.isAgg367
  z213:=Tryz.sizeOf367
  t232:=Tryz.underlying383
  a232:=Tryz.isAgg383
  z232:=Tryz.sizeOf383
  v232:=Tryz.zeroValue383
  t233:=Tryz.underlying384
  a233:=Tryz.isAgg384
  z233:=Tryz.sizeOf384
  v233:=Tryz.zeroValue384
  g17:=by kernel_rfl
  g18:=by kernel_rfl
  g19:=by kernel_rfl
  i0:=by kernel_rfl
  i2:=by kernel_rfl
  i3:=by kernel_rfl
  i4:=by kernel_rfl
  i5:=by kernel_rfl
  i9:=by kernel_rfl
  i20:=by kernel_rfl
  i37:=by kernel_rfl
  i46:=by kernel_rfl
  i51:=by kernel_rfl
  i53:=by kernel_rfl
  i171:=by kernel_rfl
  i173:=by kernel_rfl
  i212:=by kernel_rfl
  i232:=by kernel_rfl
  i233:=by kernel_rfl
  m17:=by kernel_rfl
  m18:=by kernel_rfl
  m19:=by kernel_rfl }
theorem lib_FormatInt {n:Int} (hn:i64ok n) {w:World} (hT:Pow w):Does Tryz.prog 182 [.int .i64 n,.int .i64 10] w (fun v w'=>v = .string (decB n)∧Ext w w'):=by
  have h:Calls Tryz.prog 182 #[.int .i64 n,.int .i64 10] w fun e w'=>e = .returned (.string ⟨(Lib.itoa n).toArray⟩)∧∃ k os,w'=Sort.grow (w.drewN k) os :=
    Any.strconv_FormatInt_10 lay_FormatInt n hn.1 hn.2 w hT
  refine Does.of_calls (by kernel_rfl) (h.mono ?_);rintro _ _ ⟨rfl,k,os,rfl⟩;exact ⟨_,rfl,rfl,ext_grow w k os⟩
def lay_TrimPrefix_ren:Go.Shelf.Ren:=⟨fun | 101=>116 | 208=>183 | 206=>252 | n=>n,fun | 9=>9 | 4=>4 | 3=>3 | n=>n,fun | n=>n⟩
theorem lay_TrimPrefix:Go.Proofs.Lays.n101 Tryz.prog lay_TrimPrefix_ren:={
  mixed:=by kernel_rfl
  f101:=Tryz.func116.trans (congrArg some (by kernel_rfl))
  f206:=Tryz.func252.trans (congrArg some (by kernel_rfl))
  f208:=Tryz.func183.trans (congrArg some (by kernel_rfl))
  t3:=Tryz.underlying3
  a3:=Tryz.isAgg3
  z3:=Tryz.sizeOf3
  v3:=Tryz.zeroValue3
  t4:=Tryz.underlying4
  a4:=Tryz.isAgg4
  z4:=Tryz.sizeOf4
  v4:=Tryz.zeroValue4
  t9:=Tryz.underlying9
  a9:=Tryz.isAgg9
  z9:=Tryz.sizeOf9
  v9:=Tryz.zeroValue9 }
theorem lib_TrimMinus (s:ByteArray) (w:World):Does Tryz.prog 116 [.string s,.string ⟨#[45]⟩] w (fun v w'=>v = .string (bs (unsign s.data.toList))∧w=w'):=by
  have h:Calls Tryz.prog 116 #[.string s,.string ⟨#[45]⟩] w fun e w'=>e = .returned (.string ⟨(Lib.trimPrefix s.data.toList [45]).toArray⟩)∧w'=w :=
    Any.strings_TrimPrefix lay_TrimPrefix s ⟨#[45]⟩ w
  refine Does.of_calls (by kernel_rfl) (h.mono ?_);rintro _ _ ⟨rfl,rfl⟩;refine ⟨_,rfl,?_,rfl⟩;congr 1;show bs _=bs _;congr 1;unfold Lib.trimPrefix Lib.hasPrefix unsign;cases s.data.toList with
  | nil=>rfl
  | cons c r =>
    by_cases hc:c=45
    · subst hc;simp
    · simp [hc,Ne.symm hc]
def Errs (w:World):Prop:=(∃ t p,w.var? Tryz.prog (Rows.fnConsoleRow.named.getD 3 Rows.fnConsoleRow.spec)=some #[.iface t p])∧∃ t p,w.var? Tryz.prog (Rows.fnConsoleRow.named.getD 4 Rows.fnConsoleRow.spec)=some #[.iface t p]
theorem Errs.ext {w w':World} (h:Errs w) (e:Ext w w'):Errs w':=by
  obtain ⟨⟨t,p,h1⟩,t2,p2,h2⟩:=h;exact ⟨⟨t,p,ext_var h1 e⟩,t2,p2,ext_var h2 e⟩
theorem Errs.of_laid {n1 n2:String} {d1 d2:DataW Unit} {r1 r2:List (String×DataW Unit)} {W:World} (h1:laidMet Tryz.prog (((Rows.fnConsoleRow.named.getD 3 Rows.fnConsoleRow.spec),.iface n1 d1) :: r1) W) (h2:laidMet Tryz.prog (((Rows.fnConsoleRow.named.getD 4 Rows.fnConsoleRow.spec),.iface n2 d2) :: r2) W):Errs W :=
  ⟨err_of_laid h1 (g:=4) (t:=169) (by kernel_rfl) (by kernel_rfl) Tryz.underlying169,err_of_laid h2 (g:=5) (t:=169) (by kernel_rfl) (by kernel_rfl) Tryz.underlying169⟩
def lay_ParseInt_ren:Go.Shelf.Ren:=⟨fun | 174=>114 | 247=>180 | 245=>181 | 287=>246 | 279=>247 | 280=>248 | 281=>249 | 282=>250 | 321=>300 | 322=>301 | 316=>302 | 171=>304 | 205=>303 | 243=>337 | 246=>251 | 283=>305 | 284=>306 | 285=>307 | 286=>308 | 129=>339 | 317=>338 | 318=>340 | 319=>341 | 320=>342 | 337=>358 | 338=>359 | n=>n,fun | 9=>9 | 3=>3 | 2=>2 | 75=>169 | 85=>170 | 4=>4 | 167=>297 | 5=>5 | 53=>89 | 175=>298 | 46=>160 | 168=>300 | 37=>22 | 0=>0 | 210=>343 | 21=>21 | 127=>314 | 145=>364 | 143=>362 | 171=>345 | 173=>347 | 212=>366 | 51=>237 | 20=>20 | 213=>367 | 232=>383 | 233=>384 | 80=>250 | n=>n,fun | 15=>4 | 16=>5 | 17=>6 | 18=>7 | 19=>8 | n=>n⟩
theorem lay_ParseInt:Go.Proofs.LaysC.n174 Tryz.prog lay_ParseInt_ren:={
  mixed:=by kernel_rfl
  f129:=Tryz.func339.trans (congrArg some (by kernel_rfl))
  f171:=Tryz.func304.trans (congrArg some (by kernel_rfl))
  f174:=Tryz.func114.trans (congrArg some (by kernel_rfl))
  f205:=Tryz.func303.trans (congrArg some (by kernel_rfl))
  f243:=Tryz.func337.trans (congrArg some (by kernel_rfl))
  f245:=Tryz.func181.trans (congrArg some (by kernel_rfl))
  f246:=Tryz.func251.trans (congrArg some (by kernel_rfl))
  f247:=Tryz.func180.trans (congrArg some (by kernel_rfl))
  f279:=Tryz.func247.trans (congrArg some (by kernel_rfl))
  f280:=Tryz.func248.trans (congrArg some (by kernel_rfl))
  f281:=Tryz.func249.trans (congrArg some (by kernel_rfl))
  f282:=Tryz.func250.trans (congrArg some (by kernel_rfl))
  f283:=Tryz.func305.trans (congrArg some (by kernel_rfl))
  f284:=Tryz.func306.trans (congrArg some (by kernel_rfl))
  f285:=Tryz.func307.trans (congrArg some (by kernel_rfl))
  f286:=Tryz.func308.trans (congrArg some (by kernel_rfl))
  f287:=Tryz.func246.trans (congrArg some (by kernel_rfl))
  f316:=Tryz.func302.trans (congrArg some (by kernel_rfl))
  f317:=Tryz.func338.trans (congrArg some (by kernel_rfl))
  f318:=Tryz.func340.trans (congrArg some (by kernel_rfl))
  f319:=Tryz.func341.trans (congrArg some (by kernel_rfl))
  f320:=Tryz.func342.trans (congrArg some (by kernel_rfl))
  f321:=Tryz.func300.trans (congrArg some (by kernel_rfl))
  f322:=Tryz.func301.trans (congrArg some (by kernel_rfl))
  f337:=Tryz.func358.trans (congrArg some (by kernel_rfl))
  f338:=Tryz.func359.trans (congrArg some (by kernel_rfl))
  t0:=Tryz.underlying0
  a0:=Tryz.isAgg0
  z0:=Tryz.sizeOf0
  v0:=Tryz.zeroValue0
  t2:=Tryz.underlying2
  a2:=Tryz.isAgg2
  z2:=Tryz.sizeOf2
  v2:=Tryz.zeroValue2
  t3:=Tryz.underlying3
  a3:=Tryz.isAgg3
  z3:=Tryz.sizeOf3
  v3:=Tryz.zeroValue3
  t4:=Tryz.underlying4
  a4:=Tryz.isAgg4
  z4:=Tryz.sizeOf4
  v4:=Tryz.zeroValue4
  t5:=Tryz.underlying5
  a5:=Tryz.isAgg5
  z5:=Tryz.sizeOf5
  v5:=Tryz.zeroValue5
  t9:=Tryz.underlying9
  a9:=Tryz.isAgg9
  z9:=Tryz.sizeOf9
  v9:=Tryz.zeroValue9
  t20:=Tryz.underlying20
  a20:=Tryz.isAgg20
  z20:=Tryz.sizeOf20
  v20:=Tryz.zeroValue20
  t21:=Tryz.underlying21
  a21:=Tryz.isAgg21
  z21:=Tryz.sizeOf21
  v21:=Tryz.zeroValue21
  t37:=Tryz.underlying22
  a37:=Tryz.isAgg22
  z37:=Tryz.sizeOf22
  v37:=Tryz.zeroValue22
  t46:=Tryz.underlying160
  a46:=Tryz.isAgg160
  z46:=Tryz.sizeOf160
  v46:=Tryz.zeroValue160
  t51:=Tryz.underlying237
  a51:=Tryz.isAgg237
  z51:=Tryz.sizeOf237
  v51:=Tryz.zeroValue237
  t53:=Tryz.underlying89
  a53:=Tryz.isAgg89
  z53:=Tryz.sizeOf89
  v53:=Tryz.zeroValue89
  t75:=Tryz.underlying169
  a75:=Tryz.isAgg169
  z75:=Tryz.sizeOf169
  v75:=Tryz.zeroValue169
  t85:=Tryz.underlying170
  a85:=Tryz.isAgg170
  z85:=Tryz.sizeOf170
  v85:=Tryz.zeroValue170
  t127:=Tryz.underlying314
  a127:=Tryz.isAgg314
  z127:=Tryz.sizeOf314
  v127:=Tryz.zeroValue314
  t143:=Tryz.underlying362
  a143:=Tryz.isAgg362
  z143:=Tryz.sizeOf362
  v143:=Tryz.zeroValue362
  t145:=Tryz.underlying364
  a145:=Tryz.isAgg364
  z145:=Tryz.sizeOf364
  v145:=Tryz.zeroValue364
  t167:=Tryz.underlying297
  a167:=Tryz.isAgg297
  z167:=Tryz.sizeOf297
  v167:=Tryz.zeroValue297
  t168:=Tryz.underlying300
  a168:=Tryz.isAgg300
  z168:=Tryz.sizeOf300
  v168:=Tryz.zeroValue300
  t171:=Tryz.underlying345
  a171:=Tryz.isAgg345
  z171:=Tryz.sizeOf345
  v171:=Tryz.zeroValue345
  t173:=Tryz.underlying347
  a173:=Tryz.isAgg347
  z173:=Tryz.sizeOf347
  v173:=Tryz.zeroValue347
  t175:=Tryz.underlying298
  a175:=Tryz.isAgg298
  z175:=Tryz.sizeOf298
  v175:=Tryz.zeroValue298
  t210:=Tryz.underlying343
  a210:=Tryz.isAgg343
  z210:=Tryz.sizeOf343
  v210:=Tryz.zeroValue343
  t212:=Tryz.underlying366
  a212:=Tryz.isAgg366
  z212:=Tryz.sizeOf366
  v212:=Tryz.zeroValue366
  t213:=Tryz.underlying367
  a213:=Tryz.isAgg367
  z213:=Tryz.sizeOf367
  t232:=Tryz.underlying383
  a232:=Tryz.isAgg383
  z232:=Tryz.sizeOf383
  v232:=Tryz.zeroValue383
  t233:=Tryz.underlying384
  a233:=Tryz.isAgg384
  z233:=Tryz.sizeOf384
  v233:=Tryz.zeroValue384
  g15:=by kernel_rfl
  g16:=by kernel_rfl
  g17:=by kernel_rfl
  g18:=by kernel_rfl
  g19:=by kernel_rfl
  t80:=Tryz.underlying250
  a80:=Tryz.isAgg250
  z80:=Tryz.sizeOf250
  v80:=Tryz.zeroValue250
  i0:=by kernel_rfl
  i2:=by kernel_rfl
  i3:=by kernel_rfl
  i4:=by kernel_rfl
  i5:=by kernel_rfl
  i9:=by kernel_rfl
  i20:=by kernel_rfl
  i21:=by kernel_rfl
  i37:=by kernel_rfl
  i46:=by kernel_rfl
  i51:=by kernel_rfl
  i53:=by kernel_rfl
  i75:=by kernel_rfl
  i80:=by kernel_rfl
  i85:=by kernel_rfl
  i127:=by kernel_rfl
  i143:=by kernel_rfl
  i145:=by kernel_rfl
  i167:=by kernel_rfl
  i168:=by kernel_rfl
  i171:=by kernel_rfl
  i173:=by kernel_rfl
  i175:=by kernel_rfl
  i210:=by kernel_rfl
  i212:=by kernel_rfl
  i232:=by kernel_rfl
  i233:=by kernel_rfl
  m15:=by kernel_rfl
  m16:=by kernel_rfl
  m17:=by kernel_rfl
  m18:=by kernel_rfl
  m19:=by kernel_rfl
  c0:=by kernel_rfl
  c2:=by kernel_rfl
  c3:=by kernel_rfl
  c4:=by kernel_rfl
  c5:=by kernel_rfl
  c9:=by kernel_rfl
  c20:=by kernel_rfl
  c21:=by kernel_rfl
  c37:=by kernel_rfl
  c46:=by kernel_rfl
  c51:=by kernel_rfl
  c53:=by kernel_rfl
  c75:=by kernel_rfl
  c80:=by kernel_rfl
  c85:=by kernel_rfl
  c127:=by kernel_rfl
  c143:=by kernel_rfl
  c145:=by kernel_rfl
  c167:=by kernel_rfl
  c168:=by kernel_rfl
  c171:=by kernel_rfl
  c173:=by kernel_rfl
  c175:=by kernel_rfl
  c210:=by kernel_rfl
  c212:=by kernel_rfl
  c213:=by kernel_rfl
  c232:=by kernel_rfl
  c233:=by kernel_rfl }
theorem lib_ParseInt {s:ByteArray} (hs:s.size≤281474976710656) {w:World} (hE:Errs w) :
    Does Tryz.prog 114 [.string s,.int .i64 10,.int .i64 64] w (fun v w'=>((∃ n,Lib.parseIntB 64 s.data.toList = .ok n∧v = .tuple #[.int .i64 n,.nilIface]) ∨
      ((∀ n,Lib.parseIntB 64 s.data.toList≠.ok n)∧∃ n t a,v = .tuple #[.int .i64 n,.iface t (.pointer (some a))]))∧Ext w w'):=by
  obtain ⟨⟨t,p,h1⟩,t2,p2,h2⟩:=hE;cases hp:Lib.parseIntB 64 s.data.toList
  · rename_i n;refine Does.of_calls (by kernel_rfl) ((Any.strconv_ParseInt_10_at64_ok lay_ParseInt s (by omega) n hp w).mono ?_);rintro _ _ ⟨rfl,hw⟩;refine ⟨_,rfl,.inl ⟨n,rfl,rfl⟩,?_⟩;rcases hw with rfl | ⟨t,rfl⟩
    · exact Ext.refl _
    · exact Lib.bytesWorld_below _ _ _
  · refine Does.of_calls (by kernel_rfl) ((Any.strconv_ParseInt_10_at64_syntax_var lay_ParseInt s hs hp t p w h1).mono ?_);rintro _ _ ⟨N,rfl,_,_,hb⟩;exact ⟨_,rfl,.inr ⟨(fun n h=>by cases h),_,_,_,rfl⟩,hb⟩
  · refine Does.of_calls (by kernel_rfl) ((Any.strconv_ParseInt_10_at64_range_var lay_ParseInt s hs hp t2 p2 w h2).mono ?_);rintro _ _ ⟨N,rfl,_,_,hb⟩;exact ⟨_,rfl,.inr ⟨(fun n h=>by cases h),_,_,_,rfl⟩,hb⟩
def lay_Split_ren:Go.Shelf.Ren:=⟨fun | 146=>28 | 221=>58 | 268=>111 | 138=>112 | 143=>113 | 195=>177 | 197=>178 | 218=>179 | 219=>143 | 260=>245 | 217=>213 | 225=>214 | 224=>215 | 267=>216 | 266=>279 | 314=>280 | n=>n,fun | 9=>9 | 31=>24 | 3=>3 | 4=>4 | 0=>0 | 105=>222 | 21=>21 | 5=>5 | 46=>160 | 119=>337 | 139=>340 | 138=>339 | 146=>323 | 51=>237 | n=>n,fun | 1=>1 | 3=>2 | 4=>3 | n=>n⟩
theorem lay_Split:Go.Proofs.LaysM.n146 Tryz.prog lay_Split_ren:={
  mixed:=by kernel_rfl
  f138:=Tryz.func112.trans (congrArg some (by kernel_rfl))
  f143:=Tryz.func113.trans (congrArg some (by kernel_rfl))
  f146:=Tryz.func28.trans (congrArg some (by kernel_rfl))
  f195:=Tryz.func177.trans (congrArg some (by kernel_rfl))
  f197:=Tryz.func178.trans (congrArg some (by kernel_rfl))
  f217:=Tryz.func213.trans (congrArg some (by kernel_rfl))
  f218:=Tryz.func179.trans (congrArg some (by kernel_rfl))
  f219:=Tryz.func143.trans (congrArg some (by kernel_rfl))
  f221:=Tryz.func58.trans (congrArg some (by kernel_rfl))
  f224:=Tryz.func215.trans (congrArg some (by kernel_rfl))
  f225:=Tryz.func214.trans (congrArg some (by kernel_rfl))
  f260:=Tryz.func245.trans (congrArg some (by kernel_rfl))
  f266:=Tryz.func279.trans (congrArg some (by kernel_rfl))
  f267:=Tryz.func216.trans (congrArg some (by kernel_rfl))
  f268:=Tryz.func111.trans (congrArg some (by kernel_rfl))
  f314:=Tryz.func280.trans (congrArg some (by kernel_rfl))
  t0:=Tryz.underlying0
  a0:=Tryz.isAgg0
  z0:=Tryz.sizeOf0
  v0:=Tryz.zeroValue0
  t3:=Tryz.underlying3
  a3:=Tryz.isAgg3
  z3:=Tryz.sizeOf3
  v3:=Tryz.zeroValue3
  t4:=Tryz.underlying4
  a4:=Tryz.isAgg4
  z4:=Tryz.sizeOf4
  v4:=Tryz.zeroValue4
  t5:=Tryz.underlying5
  a5:=Tryz.isAgg5
  z5:=Tryz.sizeOf5
  v5:=Tryz.zeroValue5
  t9:=Tryz.underlying9
  a9:=Tryz.isAgg9
  z9:=Tryz.sizeOf9
  v9:=Tryz.zeroValue9
  t21:=Tryz.underlying21
  a21:=Tryz.isAgg21
  z21:=Tryz.sizeOf21
  v21:=Tryz.zeroValue21
  t31:=Tryz.underlying24
  a31:=Tryz.isAgg24
  z31:=Tryz.sizeOf24
  v31:=Tryz.zeroValue24
  t46:=Tryz.underlying160
  a46:=Tryz.isAgg160
  z46:=Tryz.sizeOf160
  v46:=Tryz.zeroValue160
  t51:=Tryz.underlying237
  a51:=Tryz.isAgg237
  z51:=Tryz.sizeOf237
  v51:=Tryz.zeroValue237
  t105:=Tryz.underlying222
  a105:=Tryz.isAgg222
  z105:=Tryz.sizeOf222
  v105:=Tryz.zeroValue222
  t119:=Tryz.underlying337
  a119:=Tryz.isAgg337
  z119:=Tryz.sizeOf337
  t138:=Tryz.underlying339
  a138:=Tryz.isAgg339
  z138:=Tryz.sizeOf339
  v138:=Tryz.zeroValue339
  t139:=Tryz.underlying340
  a139:=Tryz.isAgg340
  z139:=Tryz.sizeOf340
  v139:=Tryz.zeroValue340
  t146:=Tryz.underlying323
  a146:=Tryz.isAgg323
  z146:=Tryz.sizeOf323
  v146:=Tryz.zeroValue323
  g1:=by kernel_rfl
  g3:=by kernel_rfl
  g4:=by kernel_rfl
  i0:=by kernel_rfl
  i3:=by kernel_rfl
  i4:=by kernel_rfl
  i5:=by kernel_rfl
  i9:=by kernel_rfl
  i21:=by kernel_rfl
  i31:=by kernel_rfl
  i46:=by kernel_rfl
  i51:=by kernel_rfl
  i105:=by kernel_rfl
  i138:=by kernel_rfl
  i139:=by kernel_rfl
  i146:=by kernel_rfl
  m1:=by kernel_rfl
  s1_3:=fun w h=>Go.Proofs.cell_of_shapedOpen_int (zero := #[.int .i64 0]) (t:=3) h (of_decide_eq_true (by kernel_rfl)) (by kernel_rfl) rfl (by kernel_rfl) (by kernel_rfl) Tryz.underlying3
  m3:=by kernel_rfl
  m4:=by kernel_rfl }
def MaxL (w:World):Prop:=∃ m,w.cell? ⟨lay_Split_ren.g 1,0,none⟩=some (.int .i64 m)
theorem MaxL.ext {w w':World} (h:MaxL w) (e:Ext w w'):MaxL w':=by
  obtain ⟨m,h⟩:=h;exact ⟨m,ext_cell h e⟩
theorem MaxL.of_shaped {w:World} (h:w.ShapedOpen Tryz.prog):MaxL w:=lay_Split.s1_3 w h
theorem lib_Split {s:ByteArray} {c:UInt8} (hs:s.size<4294967281) {w:World} (hM:MaxL w) :
    Does Tryz.prog 28 [.string s,.string ⟨#[c]⟩] w (fun v w'=>∃ b,v = .slice (some ⟨b,0,none⟩) (splitS c s).length (splitS c s).length∧w.heap.size≤b∧Blk w' b (flat eS (splitS c s)) 9∧Ext w w'):=by
  obtain ⟨m,hm⟩:=hM;have h:Calls Tryz.prog 28 #[.string s,.string ⟨#[c]⟩] w _:=Any.strings_Split { lay_Split with } lay_Split.i9 s ⟨#[c]⟩ m w hs hm (by show 1≤1;omega);refine Does.of_calls (by kernel_rfl) (h.mono ?_);rintro _ _ ⟨rfl,rfl⟩;rw [← splitS_len,splitB_eq];refine ⟨_,rfl,w.heap.size,rfl,Nat.le_refl _,?_,alloc_ext _ _⟩;rw [flat_eS];exact alloc_blk _ _ _
def lay_Cut_ren:Go.Shelf.Ren:=⟨fun | 145=>38 | 220=>80 | 219=>143 | 217=>213 | 225=>214 | 224=>215 | 267=>216 | 266=>279 | 314=>280 | n=>n,fun | 9=>9 | 4=>4 | 59=>74 | 3=>3 | 5=>5 | 46=>160 | 146=>323 | 51=>237 | n=>n,fun | 1=>1 | n=>n⟩
theorem lay_Cut:Go.Proofs.LaysM.n145 Tryz.prog lay_Cut_ren:={
  mixed:=by kernel_rfl
  f145:=Tryz.func38.trans (congrArg some (by kernel_rfl))
  f217:=Tryz.func213.trans (congrArg some (by kernel_rfl))
  f219:=Tryz.func143.trans (congrArg some (by kernel_rfl))
  f220:=Tryz.func80.trans (congrArg some (by kernel_rfl))
  f224:=Tryz.func215.trans (congrArg some (by kernel_rfl))
  f225:=Tryz.func214.trans (congrArg some (by kernel_rfl))
  f266:=Tryz.func279.trans (congrArg some (by kernel_rfl))
  f267:=Tryz.func216.trans (congrArg some (by kernel_rfl))
  f314:=Tryz.func280.trans (congrArg some (by kernel_rfl))
  t3:=Tryz.underlying3
  a3:=Tryz.isAgg3
  z3:=Tryz.sizeOf3
  v3:=Tryz.zeroValue3
  t4:=Tryz.underlying4
  a4:=Tryz.isAgg4
  z4:=Tryz.sizeOf4
  v4:=Tryz.zeroValue4
  t5:=Tryz.underlying5
  a5:=Tryz.isAgg5
  z5:=Tryz.sizeOf5
  v5:=Tryz.zeroValue5
  t9:=Tryz.underlying9
  a9:=Tryz.isAgg9
  z9:=Tryz.sizeOf9
  v9:=Tryz.zeroValue9
  t46:=Tryz.underlying160
  a46:=Tryz.isAgg160
  z46:=Tryz.sizeOf160
  v46:=Tryz.zeroValue160
  t51:=Tryz.underlying237
  a51:=Tryz.isAgg237
  z51:=Tryz.sizeOf237
  v51:=Tryz.zeroValue237
  t59:=Tryz.underlying74
  a59:=Tryz.isAgg74
  z59:=Tryz.sizeOf74
  v59:=Tryz.zeroValue74
  t146:=Tryz.underlying323
  a146:=Tryz.isAgg323
  z146:=Tryz.sizeOf323
  v146:=Tryz.zeroValue323
  g1:=by kernel_rfl
  i3:=by kernel_rfl
  i4:=by kernel_rfl
  i5:=by kernel_rfl
  i9:=by kernel_rfl
  i46:=by kernel_rfl
  i51:=by kernel_rfl
  i59:=by kernel_rfl
  i146:=by kernel_rfl
  m1:=by kernel_rfl
  s1_3:=fun w h=>Go.Proofs.cell_of_shapedOpen_int (zero := #[.int .i64 0]) (t:=3) h (of_decide_eq_true (by kernel_rfl)) (by kernel_rfl) rfl (by kernel_rfl) (by kernel_rfl) Tryz.underlying3 }
theorem lib_Cut {s:ByteArray} {c:UInt8} (hs:s.size<4294967281) {w:World} (hM:MaxL w) :
    Does Tryz.prog 38 [.string s,.string ⟨#[c]⟩] w (fun v w'=>v = .tuple #[.string (bs (Lib.cut s.data.toList [c]).1),.string (bs (Lib.cut s.data.toList [c]).2.1),.bool (Lib.cut s.data.toList [c]).2.2]∧Ext w w'):=by
  obtain ⟨m,hm⟩:=hM;have h:Calls Tryz.prog 38 #[.string s,.string ⟨#[c]⟩] w _:=Any.strings_Cut { lay_Cut with } s ⟨#[c]⟩ m w hs hm;refine Does.of_calls (by kernel_rfl) (h.mono ?_);rintro _ _ ⟨rfl,n,rfl⟩;exact ⟨_,rfl,rfl,⟨rfl,rfl,rfl,Nat.le_refl _,fun _ _=>rfl⟩⟩
def lay_IndexByte_ren:Go.Shelf.Ren:=⟨fun | 137=>243 | 217=>213 | 266=>279 | n=>n,fun | 9=>9 | 5=>5 | 3=>3 | n=>n,fun | n=>n⟩
theorem lay_IndexByte:Go.Proofs.Lays.n137 Tryz.prog lay_IndexByte_ren:={
  mixed:=by kernel_rfl
  f137:=Tryz.func243.trans (congrArg some (by kernel_rfl))
  f217:=Tryz.func213.trans (congrArg some (by kernel_rfl))
  f266:=Tryz.func279.trans (congrArg some (by kernel_rfl))
  t3:=Tryz.underlying3
  a3:=Tryz.isAgg3
  z3:=Tryz.sizeOf3
  v3:=Tryz.zeroValue3
  t5:=Tryz.underlying5
  a5:=Tryz.isAgg5
  z5:=Tryz.sizeOf5
  v5:=Tryz.zeroValue5
  t9:=Tryz.underlying9
  a9:=Tryz.isAgg9
  z9:=Tryz.sizeOf9
  v9:=Tryz.zeroValue9 }
theorem lib_IndexByte (s:ByteArray) (c:UInt8) (w:World):Does Tryz.prog 243 [.string s,.int .u8 c.toNat] w (fun v w'=>v = .int .i64 (Lib.indexByte s.data.toList c)∧w=w'):=by
  have h:Calls Tryz.prog 243 #[.string s,.int .u8 c.toNat] w _:=Any.strings_IndexByte lay_IndexByte s c.toNat w;refine Does.of_calls (by kernel_rfl) (h.mono ?_);rintro _ _ ⟨rfl,rfl⟩;exact ⟨_,rfl,by simp,rfl⟩
def lay_Join_ren:Go.Shelf.Ren:=⟨fun | 156=>131 | 165=>203 | 166=>204 | 169=>205 | 240=>270 | 241=>271 | 276=>316 | 277=>317 | n=>n,fun | 31=>24 | 9=>9 | 3=>3 | 4=>4 | 0=>0 | 20=>20 | 72=>246 | 76=>248 | 70=>244 | 37=>22 | 75=>169 | 127=>314 | 164=>353 | 5=>5 | 80=>250 | n=>n,fun | n=>n⟩
theorem lay_Join:Go.Proofs.Lays.n156 Tryz.prog lay_Join_ren:={
  mixed:=by kernel_rfl
  f156:=Tryz.func131.trans (congrArg some (by kernel_rfl))
  f165:=Tryz.func203.trans (congrArg some (by kernel_rfl))
  f166:=Tryz.func204.trans (congrArg some (by kernel_rfl))
  f169:=Tryz.func205.trans (congrArg some (by kernel_rfl))
  f240:=Tryz.func270.trans (congrArg some (by kernel_rfl))
  f241:=Tryz.func271.trans (congrArg some (by kernel_rfl))
  f276:=Tryz.func316.trans (congrArg some (by kernel_rfl))
  f277:=Tryz.func317.trans (congrArg some (by kernel_rfl))
  t0:=Tryz.underlying0
  a0:=Tryz.isAgg0
  z0:=Tryz.sizeOf0
  v0:=Tryz.zeroValue0
  t3:=Tryz.underlying3
  a3:=Tryz.isAgg3
  z3:=Tryz.sizeOf3
  v3:=Tryz.zeroValue3
  t4:=Tryz.underlying4
  a4:=Tryz.isAgg4
  z4:=Tryz.sizeOf4
  v4:=Tryz.zeroValue4
  t9:=Tryz.underlying9
  a9:=Tryz.isAgg9
  z9:=Tryz.sizeOf9
  v9:=Tryz.zeroValue9
  t20:=Tryz.underlying20
  a20:=Tryz.isAgg20
  z20:=Tryz.sizeOf20
  v20:=Tryz.zeroValue20
  t31:=Tryz.underlying24
  a31:=Tryz.isAgg24
  z31:=Tryz.sizeOf24
  v31:=Tryz.zeroValue24
  t37:=Tryz.underlying22
  a37:=Tryz.isAgg22
  z37:=Tryz.sizeOf22
  v37:=Tryz.zeroValue22
  t70:=Tryz.underlying244
  a70:=Tryz.isAgg244
  z70:=Tryz.sizeOf244
  v70:=Tryz.zeroValue244
  t72:=Tryz.underlying246
  a72:=Tryz.isAgg246
  z72:=Tryz.sizeOf246
  v72:=Tryz.zeroValue246
  t75:=Tryz.underlying169
  a75:=Tryz.isAgg169
  z75:=Tryz.sizeOf169
  v75:=Tryz.zeroValue169
  t76:=Tryz.underlying248
  a76:=Tryz.isAgg248
  z76:=Tryz.sizeOf248
  v76:=Tryz.zeroValue248
  t127:=Tryz.underlying314
  a127:=Tryz.isAgg314
  z127:=Tryz.sizeOf314
  v127:=Tryz.zeroValue314
  t164:=Tryz.underlying353
  a164:=Tryz.isAgg353
  z164:=Tryz.sizeOf353
  v164:=Tryz.zeroValue353 }
theorem lay_JoinX:Builder.Extra Tryz.prog lay_Join_ren:={
  sizeBuilder:=by kernel_rfl
  liesBuilder:=by kernel_rfl
  t5:=Tryz.underlying5
  a5:=Tryz.isAgg5
  z5:=Tryz.sizeOf5
  v5:=Tryz.zeroValue5
  infoByte:=by kernel_rfl
  cellsByte:=by kernel_rfl
  sizeByte:=by kernel_rfl
  neB5:=by decide }
theorem lib_Join {xs:List ByteArray} {sep:ByteArray} {b n c:Nat} {w:World} (h:Cells w b 0 (flat eS xs)) (hb:b<w.heap.size) (hn:xs.length=n) (hc:n≤c) (hN:n≤140737488355328)
    (hl:(Lib.join (xs.map (·.data.toList)) sep.data.toList).length≤140737488355328) :
    Does Tryz.prog 131 [.slice (some ⟨b,0,none⟩) n c,.string sep] w (fun v w'=>v = .string (bs (Lib.join (xs.map (·.data.toList)) sep.data.toList))∧Ext w w'):=by
  subst hn;have hh:Calls Tryz.prog 131 #[.slice (some ⟨b,0,none⟩) xs.length c,.string sep] w _:=Any.strings_Join lay_Join lay_JoinX b 0 c xs sep w (fun j x hx=>by
    have:=h j (.string x) (by
      rw [flat_eS,List.getElem?_map,hx];rfl)
    exact this) hb hN hc hl
  refine Does.of_calls (by kernel_rfl) (hh.mono ?_);rintro _ _ ⟨rfl,hb⟩;exact ⟨_,rfl,rfl,hb⟩
theorem lib_Join4 {a1 a2 a3 a4:ByteArray} {b t:Nat} {w:World} (h:Blk w b [.string a1,.string a2,.string a3,.string a4] t) (h1:a1.size≤1000) (h2:a2.size≤1000) (h3:a3.size≤1000) (h4:a4.size≤1000) :
    Does Tryz.prog 131 [.slice (some ⟨b,0,none⟩) 4 4,.string ⟨#[32]⟩] w (fun v w'=>v = .string (a1++bs [32]++a2++bs [32]++a3++bs [32]++a4)∧Ext w w'):=by
  have e:bs (Lib.join [a1.data.toList,a2.data.toList,a3.data.toList,a4.data.toList] [32])=a1++bs [32]++a2++bs [32]++a3++bs [32]++a4:=by
    apply bytes_ext;rw [bs_data,Lib.join_cons];simp [Lib.joinTail,bs]
  have hz:(Lib.join [a1.data.toList,a2.data.toList,a3.data.toList,a4.data.toList] [32]).length=a1.size+a2.size+a3.size+a4.size+3:=by
    have:=congrArg ByteArray.size e;rw [bs_size] at this;rw [this];have e1:(bs [32]).size=1:=rfl;simp only [ByteArray.size_append,e1];omega
  have:=lib_Join (xs:=[a1,a2,a3,a4]) (sep:=⟨#[32]⟩) (n:=4) (c:=4) h.cells h.lt rfl (by omega) (by omega) (by show (Lib.join [a1.data.toList,a2.data.toList,a3.data.toList,a4.data.toList] [32]).length≤_;omega);refine this.mono ?_;rintro _ w1 ⟨rfl,e1⟩;exact ⟨congrArg Value.string e,e1⟩
end Go.Proofs.YthadkoinmohmlaaGreatDoor
