/- The statement on the law SameDesk is proved, as it is given: for every input the law returns true and each argument reads as before. No conditions. -/
import Derived.Test.YtdmkbgelcnkdgaaSame
import Derived.Test.YtdmkbgelcnkdgaaLiftBase
namespace Go.M
open Go Go.Vc
def deskOk (s : ByteArray) (Y : List (List TTotal)) : Prop := strok s ∧ ∀ x ∈ Y, okTots x
end Go.M
namespace Go.Proofs.Ytdmkbgelcnkdgaa
open Go Go.RowKit Go.Vc Go.M Go.ChangeShapes Go.WideShapes Go.ChangeAt
open Go.ChangeMaps (open_string)
set_option maxRecDepth 100000 in
theorem open_aCard {H : Type} {enc : TypeId × Value → H} (W : World) {fuel : Nat} {cs : List Value} {x : DataW H × List MemPlace} (h : DataW.trod enc Try.prog W 0 (fun _ => true) true fuel 99 cs = some x) :
    ∃ d y, cs = eH d ∧ RCard W d y ∧ True := by
  have hl1 : cs.length = 1 := (trod_field Try.underlying99 h).1.trans (by kernel_rfl)
  obtain ⟨n, y, h0⟩ := trod_at Try.underlying99 h 0 rfl (ft := 41) (off := 0) (sz := 1) rfl rfl (by kernel_rfl)
  have e : (cs.drop 0).take 1 = cs := by rw [List.drop_zero, List.take_of_length_le (by omega)]
  rw [e] at h0
  obtain ⟨d, xs, e1, A, _, hc⟩ := trod_arr (encα := eI) (ok := fun _ => True) (sz := 1) Try.underlying41 (by kernel_rfl) (by omega) (fun n cs x h => let ⟨n2, h1, _, _⟩ := DataW.trod_int Try.underlying2 h; ⟨n2, h1, trivial⟩) eI_len h0
  exact ⟨d, xs, e1, ⟨A, hc⟩, trivial⟩
theorem open_aDeck {H : Type} {enc : TypeId × Value → H} (W : World) {fuel : Nat} {cs : List Value} {x : DataW H × List MemPlace} (h : DataW.trod enc Try.prog W 0 (fun _ => true) true fuel 38 cs = some x) :
    ∃ d y, cs = eH d ∧ RDeck W d y ∧ True := by
  obtain ⟨d, xs, e1, A, _, hc⟩ := trod_nest (R := RCard) (ok := fun _ => True) Try.underlying38 (by kernel_rfl) (fun n cs x h => open_aCard W h) h
  exact ⟨d, xs, e1, ⟨A, hc⟩, trivial⟩
theorem open_aTots {H : Type} {enc : TypeId × Value → H} (W : World) {fuel : Nat} {cs : List Value} {x : DataW H × List MemPlace} (h : DataW.trod enc Try.prog W 0 (fun _ => true) true fuel 176 cs = some x) :
    ∃ d y, cs = eH d ∧ RTots W d y ∧ okTots y := by
  obtain ⟨d, xs, e1, A, hok, hc⟩ := trod_arr (encα := TTotal.enc) (ok := TTotal.ok) (sz := 2) Try.underlying176 (by kernel_rfl) (by omega) (fun n cs x h => TTotal.of_flat (trod_flat (ks := [true, false]) (by kernel_rfl) h)) TTotal.enc_len h
  exact ⟨d, xs, e1, ⟨A, hc⟩, hok⟩
set_option maxRecDepth 100000 in
theorem open_aDesk {H : Type} {enc : TypeId × Value → H} (W : World) {v : Value} {d : DataW H} {p : List MemPlace} {base : Nat} (hok : Value.okWide Try.prog W .any base 27 v) (h : DataW.Trod enc Try.prog W 0 (fun _ => true) true 27 v d p) :
    ∃ k s X Y, v = dkV k s ∧ DkR W k X Y ∧ deskOk s Y := by
  obtain ⟨cs, n, rfl, hf⟩ := open_agg Try.underlying27 hok h
  have hl3 : cs.length = 3 := (trod_field Try.underlying27 hf).1.trans (by kernel_rfl)
  obtain ⟨n0, y0, h0⟩ := trod_at Try.underlying27 hf 0 rfl (ft := 25) (off := 0) (sz := 2) rfl rfl (by kernel_rfl)
  obtain ⟨n1, y1, h1⟩ := trod_at Try.underlying27 hf 1 rfl (ft := 9) (off := 2) (sz := 1) rfl rfl (by kernel_rfl)
  obtain ⟨s, hs, _, hsok⟩ := DataW.trod_string Try.underlying9 h1
  obtain ⟨m0, z0, q0⟩ := trod_at Try.underlying25 h0 0 rfl (ft := 22) (off := 0) (sz := 1) rfl rfl (by kernel_rfl)
  obtain ⟨m1, z1, q1⟩ := trod_at Try.underlying25 h0 1 rfl (ft := 23) (off := 1) (sz := 1) rfl rfl (by kernel_rfl)
  obtain ⟨d0, X, eX, AX, _, cX⟩ := trod_nest (R := RDeck) (ok := fun _ => True) Try.underlying22 (by kernel_rfl) (fun n cs x h => open_aDeck W h) q0
  obtain ⟨d1, Y, eY, AY, okY, cY⟩ := trod_nest (R := RTots) (ok := okTots) Try.underlying23 (by kernel_rfl) (fun n cs x h => open_aTots W h) q1
  refine ⟨⟨d0.a, d0.n, d0.c, d1.a, d1.n, d1.c⟩, s, X, Y, ?_, ⟨AX, AY⟩, hsok, okY⟩
  match cs, hl3 with
  | [x, y, z], _ =>
    simp [eH] at eX eY hs
    subst eX eY hs
    rfl
theorem law_SameDesk {w : World} {k k' : Dk} {s s' : ByteArray} {X X' : List (List (List Int))} {Y Y' : List (List TTotal)} (h : DkR w k X Y) (h' : DkR w k' X' Y') (ok : deskOk s Y) (ok' : deskOk s' Y') :
    Does Try.prog 3 [dkV k s, dkV k' s'] w (fun v w' => v = .bool true ∧ Ext w w') := by
  obtain ⟨oks, okY⟩ := ok
  obtain ⟨oks', okY'⟩ := ok'
  refine Does.of_vc tabok Try.func3 rfl rfl rfl (by kernel_rfl) ?_; conv => whnf
  refine SemK.box ?_
  intro b1 w1 g1 l1 e1 B1
  conv => whnf
  refine SemK.box ?_
  intro b2 w2 g2 l2 e2 B2
  conv => whnf
  refine SemK.loadAgg (n := 3) (by kernel_rfl) (B1.ext e2).cells rfl ?_
  conv => whnf
  have E2 := Ext.trans e1 e2
  refine (laws_szDesk (h.ext E2) okY oks (by omega) (by omega)).mono ?_
  rintro _ w3 ⟨r, rfl, hr, e3⟩
  conv => whnf
  have E3 := Ext.trans E2 e3
  with_reducible refine IfB.dec (fun p0 => ?_) (fun p0 => ?_)
  · conv => whnf
    exact ⟨rfl, E3⟩
  conv => whnf
  rcases hr with hr | ⟨hr0, hr1, f1, f2⟩
  · omega
  refine SemK.loadAgg (n := 3) (by kernel_rfl) (B2.ext e3).cells rfl ?_
  conv => whnf
  refine (laws_szDesk (h'.ext E3) okY' oks' hr0 hr1).mono ?_
  rintro _ w4 ⟨r4, rfl, hr4, e4⟩
  conv => whnf
  have E4 := Ext.trans E3 e4
  with_reducible refine IfB.dec (fun p1 => ?_) (fun p1 => ?_)
  · conv => whnf
    exact ⟨rfl, E4⟩
  conv => whnf
  rcases hr4 with hr4 | ⟨hr5, hr6, f1', f2'⟩
  · omega
  have B1' := B1.ext (Ext.trans e2 (Ext.trans e3 e4))
  have B2' := B2.ext (Ext.trans e3 e4)
  have h4 := h.ext E4
  have h4' := h'.ext E4
  refine DrawK.held tabok mixed [(0, false), (2, false), (1, true), (3, true), (4, true), (5, true)] (by kernel_rfl) (by kernel_rfl) ?_
  conv => whnf
  intro w7 e7
  conv => whnf
  refine DSemK.loadAgg (n := 3) (by kernel_rfl) B1'.cells rfl ?_
  conv => whnf
  refine DSemK.loadAgg (n := 3) (by kernel_rfl) B2'.cells rfl ?_
  conv => whnf
  refine (laws_toDesk (h4.ext e7) f1 f2).mono ?_
  rintro _ w11 ⟨k8, rfl, q9, e10⟩
  conv => whnf
  refine ⟨(Ext.trans e7 e10), ?_⟩
  conv => whnf
  refine (laws_toDesk (h4'.ext (Ext.trans e7 e10)) f1' f2').mono ?_
  rintro _ w15 ⟨k12, rfl, q13, e14⟩
  conv => whnf
  have E15 := Ext.trans (Ext.trans e7 e10) e14
  refine ⟨E15, ?_⟩
  conv => whnf
  refine (spec_SameDesk (q9.rd.ext e14) q13.rd okY okY').mono ?_
  rintro _ w16 ⟨rfl, e16⟩
  conv => whnf
  have E16 := Ext.trans E15 e16
  refine ⟨E16, ?_⟩
  conv => whnf
  have F16 := Ext.trans E4 E16
  have h16 := h4.ext E16
  have h16' := h4'.ext E16
  have B1s := B1'.ext E16
  have B2s := B2'.ext E16
  refine SemK.loadAgg (n := 3) (by kernel_rfl) B1s.cells rfl ?_
  conv => whnf
  refine (laws_toDesk h16 f1 f2).mono ?_
  rintro _ w20 ⟨k17, rfl, q18, e19⟩
  conv => whnf
  refine SemK.alloc (z := .agg #[.slice none 0 0, .slice none 0 0, .string { data := #[] }]) (by kernel_rfl) ?_
  intro b21 w21 g21 l21 e21 B21
  conv => whnf
  refine SemK.storeAll (vs := [Value.slice k17.a k17.n k17.c, Value.slice k17.b k17.m k17.d, Value.string s]) (by kernel_rfl) B21 rfl rfl (by simp [cellish]) ?_
  intro w22 c22 B22
  have E22 : Ext w20 w22 := e21.but_trans c22.but g21
  have E162 : Ext w16 w22 := Ext.trans e19 E22
  conv => whnf
  refine SemK.loadAgg (n := 3) (by kernel_rfl) (B2s.ext E162).cells rfl ?_
  conv => whnf
  refine (laws_toDesk (h16'.ext E162) f1' f2').mono ?_
  rintro _ w26 ⟨k23, rfl, q24, e25⟩
  conv => whnf
  refine SemK.alloc (z := .agg #[.slice none 0 0, .slice none 0 0, .string { data := #[] }]) (by kernel_rfl) ?_
  intro b27 w27 g27 l27 e27 B27
  conv => whnf
  refine SemK.storeAll (vs := [Value.slice k23.a k23.n k23.c, Value.slice k23.b k23.m k23.d, Value.string s']) (by kernel_rfl) B27 rfl rfl (by simp [cellish]) ?_
  intro w28 c28 B28
  have E28 : Ext w26 w28 := e27.but_trans c28.but g27
  have E228 : Ext w22 w28 := Ext.trans e25 E28
  have h17 := q18.rd.ext (Ext.trans E22 E228)
  have h23 := q24.rd.ext E28
  have B22' := B22.ext E228
  conv => whnf
  refine SemK.loadAgg (n := 3) (by kernel_rfl) B22'.cells rfl ?_
  conv => whnf
  refine SemK.loadAgg (n := 3) (by kernel_rfl) B28.cells rfl ?_
  conv => whnf
  refine (impl_SameDesk h17 h23 okY okY').mono ?_
  rintro _ w29 ⟨rfl, e29⟩
  have E1629 : Ext w16 w29 := Ext.trans (Ext.trans E162 E228) e29
  have B1t := B1s.ext E1629
  have B2t := B2s.ext E1629
  have h29 := h16.ext E1629
  have h29' := h16'.ext E1629
  have h17' := h17.ext e29
  have h23' := h23.ext e29
  have B22t := B22'.ext e29
  have B28t := B28.ext e29
  have F29 := Ext.trans F16 E1629
  conv => whnf
  refine SemK.neqBool (by kernel_rfl) ?_
  conv => whnf
  refine IfB.eqf (by simp) ?_
  conv => whnf
  refine DrawK.held tabok mixed [(0, false), (1, true), (2, true), (3, true), (4, true)] (by kernel_rfl) (by kernel_rfl) ?_
  conv => whnf
  intro w30 e30
  conv => whnf
  refine DSemK.loadAgg (n := 3) (by kernel_rfl) B22t.cells rfl ?_
  conv => whnf
  refine SemK.loadAgg (n := 3) (by kernel_rfl) (B1t.ext e30).cells rfl ?_
  conv => whnf
  refine ⟨e30, ?_⟩
  conv => whnf
  refine (laws_toDesk (h29.ext e30) f1 f2).mono ?_
  rintro _ w31 ⟨k31, rfl, q31, e31⟩
  conv => whnf
  have E31 := Ext.trans e30 e31
  refine ⟨E31, ?_⟩
  conv => whnf
  refine (laws_eqDesk (h17'.ext E31) q31.rd).mono ?_
  rintro _ w32 ⟨rfl, e32⟩
  conv => whnf
  have E32 := Ext.trans E31 e32
  refine ⟨E32, ?_⟩
  conv => whnf
  refine IfB.eqf (by simp) ?_
  conv => whnf
  refine DrawK.held tabok mixed [(0, false), (1, true), (2, true), (3, true), (4, true)] (by kernel_rfl) (by kernel_rfl) ?_
  conv => whnf
  intro w40 e40
  conv => whnf
  refine DSemK.loadAgg (n := 3) (by kernel_rfl) (B28t.ext E32).cells rfl ?_
  conv => whnf
  refine SemK.loadAgg (n := 3) (by kernel_rfl) (B2t.ext (Ext.trans E32 e40)).cells rfl ?_
  conv => whnf
  refine ⟨e40, ?_⟩
  conv => whnf
  refine (laws_toDesk (h29'.ext (Ext.trans E32 e40)) f1' f2').mono ?_
  rintro _ w41 ⟨k41, rfl, q41, e41⟩
  conv => whnf
  have E41 := Ext.trans e40 e41
  refine ⟨E41, ?_⟩
  conv => whnf
  refine (laws_eqDesk (h23'.ext (Ext.trans E32 E41)) q41.rd).mono ?_
  rintro _ w42 ⟨rfl, e42⟩
  conv => whnf
  have E42 := Ext.trans E41 e42
  refine ⟨E42, ?_⟩
  conv => whnf
  refine IfB.eqf (by simp) ?_
  conv => whnf
  exact ⟨rfl, Ext.trans F29 (Ext.trans E32 E42)⟩
set_option maxRecDepth 100000 in
theorem open_SameDesk {H : Type} {enc : TypeId × Value → H} {base : Nat} (W : World) (args : List Value) (ds : List (DataW H)) (p : List MemPlace) (hA : DataW.TrodAll enc Try.prog W 0 (fun _ => true) true (Try.f3).params.toList args ds p)
    (hv : ∀ (j : Nat) t v, (Try.f3).params[j]? = some t → args[j]? = some v → Value.okWide Try.prog W .any base t v) : Does Try.prog 3 args W (fun v w' => v = .bool true ∧ Ext W w') := by
  have e : (Try.f3).params.toList = [27, 27] := rfl
  rw [e] at hA
  obtain ⟨v0, vs0, d0, ds0, p0, q0, rfl, rfl, rfl, g0, r0⟩ := trodAll_cons hA
  obtain ⟨v1, vs1, d1, ds1, p1, q1, rfl, rfl, rfl, g1, r1⟩ := trodAll_cons r0
  obtain ⟨rfl, rfl, rfl⟩ := trodAll_nil r1
  obtain ⟨k, s, X, Y, rfl, h, ok⟩ := open_aDesk W (hv 0 27 v0 (by rw [← Array.getElem?_toList, e]; rfl) rfl) g0
  obtain ⟨k', s', X', Y', rfl, h', ok'⟩ := open_aDesk W (hv 1 27 v1 (by rw [← Array.getElem?_toList, e]; rfl) rfl) g1
  exact law_SameDesk h h' ok ok'
set_option maxRecDepth 100000 in
theorem FnExactSameDesk_lifted (os : Os) (started : os.Started) (H : Type) (enc : TypeId × Value → H) :
    ReturnsInHanded {} Try.checked os 3 .any (Rows.fnExactSameDeskSpec.pre6 enc Try.prog Try.f3 Rows.fnExactSameDeskRow.domain false) (Rows.fnExactSameDeskSpec.post enc Try.prog Try.f3 false true false false) := by
  refine returnsInHanded_of_change (C := Try.checked) law_own started (by kernel_rfl) Try.func3
    (ChangeSpec.witness6 (enc := enc) (C := Try.checked) false ⟨#[], #[.agg #[.slice none 0 0, .slice none 0 0, .string { data := #[] }],.agg #[.slice none 0 0, .slice none 0 0, .string { data := #[] }]], []⟩ 8 (by kernel_rfl) (by kernel_rfl) (by kernel_rfl) (by kernel_rfl)) ?_
  intro W base args ds gs before hval hW _ _
  exact law_contract (P := Try.prog) (fn := Try.f3) (s := Rows.fnExactSameDeskSpec) rfl rfl Try.underlying4 law_laid (by kernel_rfl)
    (fun ds h => match ds, h with | [d0, d1], _ => ⟨rfl, rfl, rfl⟩) (fun W args ds p hA hv => open_SameDesk W args ds p hA hv) W args ds gs before hval hW
theorem FnExactSameDesk_holds : Rows.FnExactSameDeskSaid :=
  OpenClaim.holds_of_wide 3 Try.f3 rfl rfl rfl rfl rfl rfl rfl ⟨rfl, rfl, rfl, rfl, rfl⟩ rfl rfl rfl rfl rfl (by kernel_rfl) Try.func3 (by kernel_rfl)
    (of_decide_eq_true (by kernel_rfl)) (by unfold Func.isWrapper; first | (rw [if_pos (by decide +kernel)]; kernel_rfl) | (rw [if_neg (by decide +kernel)]; exact ⟨rfl, rfl⟩))
    (fun os started H enc _ => FnExactSameDesk_lifted os started H enc)

end Go.Proofs.Ytdmkbgelcnkdgaa
