/- The statement on the law StockCheck is proved, as it is given: for every input the law returns true and each argument reads as before. No conditions. -/
import Derived.Test.YtkeeebdfjoefgaaStock3
import Derived.Test.YtkeeebdfjoefgaaVcApp
import Derived.Test.YtkeeebdfjoefgaaLiftBase
namespace Go.Proofs.Ytkeeebdfjoefgaa
open Go Go.RowKit Go.Vc Go.M Go.ChangeShapes Go.WideShapes Go.ChangeAt
open Go.ChangeMaps (open_string)
set_option linter.unusedVariables false in
theorem law_StockCheck {w : World} {a0 : Option Addr} {n0 c0 : Nat} {x0 : List TPart} (h0 : Arr TPart.enc 4 w a0 n0 x0) (ok0 : ∀ x ∈ x0, x.ok) {a1 : Option Addr} {n1 c1 : Nat} {x1 : List Int} (h1 : Arr eI 1 w a1 n1 x1) (ok1 : ∀ x ∈ x1, i64ok x) : Does Try.prog 7 [.slice a0 n0 c0, .slice a1 n1 c1] w (fun v w' => v = .bool true ∧ Ext w w') := by
  have len0 := h0.len
  have len1 := h1.len
  refine Does.of_vc tabok Try.func7 rfl rfl rfl (by kernel_rfl) ?_; conv => whnf
  with_reducible refine IfB.dec (fun t1 => ?_) (fun t1 => ?_)
  · conv => whnf
    exact ⟨rfl, Ext.refl w⟩
  conv => whnf
  have hs1 : n1 ≤ 1048576 := by omega
  refine (laws_szPartS h0 ok0 (left := 1048576) (by omega) (by omega)).mono ?_
  rintro _ w1 ⟨r0, rfl, hr0, e1⟩
  have E1 : Ext w w1 := e1
  have s1 : w.heap.size ≤ w1.heap.size := e1.size
  conv => whnf
  with_reducible refine IfB.dec (fun t0 => ?_) (fun t0 => ?_)
  · conv => whnf
    exact ⟨rfl, E1⟩
  conv => whnf
  have hs0 : 0 ≤ r0 ∧ r0 ≤ 1048576 ∧ n0 ≤ 1048576 := by rcases hr0 with hr | ⟨hr, hr'⟩ <;> omega
  refine (laws_toPartS (h0.ext E1) (by omega)).mono ?_
  rintro _ w2 ⟨bs0, rfl, gs0, e2, Os0⟩
  have news0 := NewAt.some gs0
  have lts0 := Os0.lt
  have E2 : Ext w w2 := Ext.trans E1 e2
  have s2 : w1.heap.size ≤ w2.heap.size := e2.size
  conv => whnf
  refine (laws_toInt64S (h1.ext E2) (by omega)).mono ?_
  rintro _ w3 ⟨bs1, rfl, gs1, e3, Os1⟩
  have news1 := NewAt.some gs1
  have lts1 := Os1.lt
  have E3 : Ext w w3 := Ext.trans E2 e3
  have s3 : w2.heap.size ≤ w3.heap.size := e3.size
  conv => whnf
  refine (spec_StockCheck ((Os0.ext e3).arr TPart.enc_len) ok0 (Os1.arr eI_len)).mono ?_
  rintro _ w4 ⟨ap0, np0, cp0, rfl, newp0, Op0, e4⟩
  have ltp0 := Op0.lt
  have E4 : Ext w w4 := Ext.trans E3 e4
  have s4 : w3.heap.size ≤ w4.heap.size := e4.size
  conv => whnf
  refine (laws_toPartS (h0.ext E4) (by omega)).mono ?_
  rintro _ w5 ⟨bx0, rfl, gx0, e5, Ox0⟩
  have newx0 := NewAt.some gx0
  have ltx0 := Ox0.lt
  have E5 : Ext w w5 := Ext.trans E4 e5
  have s5 : w4.heap.size ≤ w5.heap.size := e5.size
  conv => whnf
  refine (laws_toInt64S (h1.ext E5) (by omega)).mono ?_
  rintro _ w6 ⟨bx1, rfl, gx1, e6, Ox1⟩
  have newx1 := NewAt.some gx1
  have ltx1 := Ox1.lt
  have E6 : Ext w w6 := Ext.trans E5 e6
  have s6 : w5.heap.size ≤ w6.heap.size := e6.size
  conv => whnf
  refine (impl_StockCheck ((Ox0.ext e6).arr TPart.enc_len) ok0 (Nat.le_refl _) (Ox1.arr eI_len)).mono ?_
  rintro _ w7 ⟨aq0, nq0, cq0, rfl, newq0, Oq0, e7⟩
  have ltq0 := Oq0.lt
  have E7 : Ext w w7 := Ext.trans E6 e7
  have s7 : w6.heap.size ≤ w7.heap.size := e7.size
  conv => whnf
  refine (laws_eqInt64S (Oq0.arr eI_len) ((((Op0.ext e5).ext e6).ext e7).arr eI_len)).mono ?_
  rintro _ w8 ⟨rfl, e8⟩
  have E8 : Ext w w8 := Ext.trans E7 e8
  have s8 : w7.heap.size ≤ w8.heap.size := e8.size
  conv => whnf
  refine IfB.eqf (by simp) ?_
  conv => whnf
  refine IfB.eqf (by simp) ?_
  conv => whnf
  refine (laws_toPartS (h0.ext E8) (by omega)).mono ?_
  rintro _ w9 ⟨by0, rfl, gy0, e9, Oy0⟩
  have newy0 := NewAt.some gy0
  have lty0 := Oy0.lt
  have E9 : Ext w w9 := Ext.trans E8 e9
  have s9 : w8.heap.size ≤ w9.heap.size := e9.size
  conv => whnf
  refine (laws_eqPartS (((((Ox0.ext e6).ext e7).ext e8).ext e9).arr TPart.enc_len) (Oy0.arr TPart.enc_len)).mono ?_
  rintro _ w10 ⟨rfl, e10⟩
  have E10 : Ext w w10 := Ext.trans E9 e10
  have s10 : w9.heap.size ≤ w10.heap.size := e10.size
  conv => whnf
  refine IfB.eqf (by simp) ?_
  conv => whnf
  refine (laws_toInt64S (h1.ext E10) (by omega)).mono ?_
  rintro _ w11 ⟨by1, rfl, gy1, e11, Oy1⟩
  have newy1 := NewAt.some gy1
  have lty1 := Oy1.lt
  have E11 : Ext w w11 := Ext.trans E10 e11
  have s11 : w10.heap.size ≤ w11.heap.size := e11.size
  conv => whnf
  refine (laws_eqInt64S ((((((Ox1.ext e7).ext e8).ext e9).ext e10).ext e11).arr eI_len) (Oy1.arr eI_len)).mono ?_
  rintro _ w12 ⟨rfl, e12⟩
  have E12 : Ext w w12 := Ext.trans E11 e12
  have s12 : w11.heap.size ≤ w12.heap.size := e12.size
  conv => whnf
  refine IfB.eqf (by simp) ?_
  conv => whnf
  refine (laws_markPartS (((((((Ox0.ext e6).ext e7).ext e8).ext e9).ext e10).ext e11).ext e12) (k0 := 1) (by omega)).mono ?_
  rintro _ w13 ⟨rfl, e13, Om0⟩
  have E13 : Ext w w13 := Ext.mod_trans E12 e13 (fun k hk => Nat.le_trans E4.size (blkIn_new newx0 k hk))
  have s13 : w12.heap.size ≤ w13.heap.size := e13.size
  conv => whnf
  refine (laws_markInt64S (((((((Ox1.ext e7).ext e8).ext e9).ext e10).ext e11).ext e12).mod e13 (apart' newx1 ltx0 (by omega))) (k0 := (1 + 4 * n0)) (by omega)).mono ?_
  rintro _ w14 ⟨rfl, e14, Om1⟩
  have E14 : Ext w w14 := Ext.mod_trans E13 e14 (fun k hk => Nat.le_trans E5.size (blkIn_new newx1 k hk))
  have s14 : w13.heap.size ≤ w14.heap.size := e14.size
  conv => whnf
  first | (refine IfB.eqf (by simp; done) ?_; conv => whnf) | (refine IfB.eqf (decide_eq_false (by omega)) ?_; conv => whnf) | skip
  refine (laws_eqInt64S ((((((((Oq0.ext e8).ext e9).ext e10).ext e11).ext e12).mod e13 (apart' newq0 ltx0 (by omega))).mod e14 (apart' newq0 ltx1 (by omega))).arr eI_len) (((((((((((Op0.ext e5).ext e6).ext e7).ext e8).ext e9).ext e10).ext e11).ext e12).mod e13 (apart ltp0 newx0 (by omega))).mod e14 (apart ltp0 newx1 (by omega))).arr eI_len)).mono ?_
  rintro _ w15 ⟨rfl, e15⟩
  have E15 : Ext w w15 := Ext.trans E14 e15
  have s15 : w14.heap.size ≤ w15.heap.size := e15.size
  conv => whnf
  refine IfB.eqf (by simp) ?_
  conv => whnf
  refine IfB.eqf (by simp) ?_
  conv => whnf
  have bd0 : nq0 ≤ 2000000 := by have len := Oq0.1; have := stockCheckM_len x0 x1; omega
  refine (laws_markInt64S ((((((((Oq0.ext e8).ext e9).ext e10).ext e11).ext e12).mod e13 (apart' newq0 ltx0 (by omega))).mod e14 (apart' newq0 ltx1 (by omega))).ext e15) (k0 := 1) (by omega)).mono ?_
  rintro _ w16 ⟨rfl, e16, Ok0⟩
  have E16 : Ext w w16 := Ext.mod_trans E15 e16 (fun k hk => Nat.le_trans E6.size (blkIn_new newq0 k hk))
  have s16 : w15.heap.size ≤ w16.heap.size := e16.size
  conv => whnf
  refine (laws_heldInt64S (k0 := 1) (Ok0.arr eI_len) (by omega)).mono ?_
  rintro _ w17 ⟨rfl, e17⟩
  have E17 : Ext w w17 := Ext.trans E16 e17
  have s17 : w16.heap.size ≤ w17.heap.size := e17.size
  conv => whnf
  first | (refine IfB.eqf (decide_eq_false (by omega)) ?_; conv => whnf) | skip
  refine IfB.eqf (by simp) ?_
  conv => whnf
  refine (laws_toPartS (h0.ext E17) (by omega)).mono ?_
  rintro _ w18 ⟨bz0, rfl, gz0, e18, Oz0⟩
  have newz0 := NewAt.some gz0
  have ltz0 := Oz0.lt
  have E18 : Ext w w18 := Ext.trans E17 e18
  have s18 : w17.heap.size ≤ w18.heap.size := e18.size
  conv => whnf
  refine (laws_toInt64S (h1.ext E18) (by omega)).mono ?_
  rintro _ w19 ⟨bz1, rfl, gz1, e19, Oz1⟩
  have newz1 := NewAt.some gz1
  have ltz1 := Oz1.lt
  have E19 : Ext w w19 := Ext.trans E18 e19
  have s19 : w18.heap.size ≤ w19.heap.size := e19.size
  conv => whnf
  refine (impl_StockCheck ((Oz0.ext e19).arr TPart.enc_len) ok0 (Nat.le_refl _) (Oz1.arr eI_len)).mono ?_
  rintro _ w20 ⟨ar0, nr0, cr0, rfl, newr0, Or0, e20⟩
  have ltr0 := Or0.lt
  have E20 : Ext w w20 := Ext.trans E19 e20
  have s20 : w19.heap.size ≤ w20.heap.size := e20.size
  conv => whnf
  refine (laws_eqInt64S (Or0.arr eI_len) (((((((((((((((((Op0.ext e5).ext e6).ext e7).ext e8).ext e9).ext e10).ext e11).ext e12).mod e13 (apart ltp0 newx0 (by omega))).mod e14 (apart ltp0 newx1 (by omega))).ext e15).mod e16 (apart ltp0 newq0 (by omega))).ext e17).ext e18).ext e19).ext e20).arr eI_len)).mono ?_
  rintro _ w21 ⟨rfl, e21⟩
  have E21 : Ext w w21 := Ext.trans E20 e21
  have s21 : w20.heap.size ≤ w21.heap.size := e21.size
  conv => whnf
  refine IfB.eqf (by simp) ?_
  conv => whnf
  refine IfB.eqf (by simp) ?_
  conv => whnf
  refine (laws_heldInt64S (k0 := 1) ((((((Ok0.ext e17).ext e18).ext e19).ext e20).ext e21).arr eI_len) (by omega)).mono ?_
  rintro _ w22 ⟨rfl, e22⟩
  have E22 : Ext w w22 := Ext.trans E21 e22
  have s22 : w21.heap.size ≤ w22.heap.size := e22.size
  conv => whnf
  first | (refine IfB.eqf (decide_eq_false (by omega)) ?_; conv => whnf) | skip
  refine IfB.eqf (by simp) ?_
  conv => whnf
  exact ⟨rfl, E22⟩
set_option maxRecDepth 100000 in
theorem open_StockCheck {H : Type} {enc : TypeId × Value → H} {base : Nat} (W : World) (args : List Value) (ds : List (DataW H)) (p : List MemPlace) (hA : DataW.TrodAll enc Try.prog W 0 (fun _ => true) true (Try.f7).params.toList args ds p)
    (hv : ∀ (j : Nat) t v, (Try.f7).params[j]? = some t → args[j]? = some v → Value.okWide Try.prog W .any base t v) : Does Try.prog 7 args W (fun v w' => v = .bool true ∧ Ext W w') := by
  have e : (Try.f7).params.toList = [30, 38] := rfl
  rw [e] at hA
  obtain ⟨v0, vs0, d0, ds0, p0, q0, rfl, rfl, rfl, g0, r0⟩ := trodAll_cons hA
  obtain ⟨v1, vs1, d1, ds1, p1, q1, rfl, rfl, rfl, g1, r1⟩ := trodAll_cons r0
  obtain ⟨rfl, rfl, rfl⟩ := trodAll_nil r1
  obtain ⟨a0, n0, c0, x0, rfl, h0, ok0⟩ := open_arr (encα := TPart.enc) (ok := TPart.ok) (sz := 4) Try.underlying30 (by kernel_rfl) (by omega) (fun n cs x h => TPart.of_flat (trod_flat (ks := [true, false, false, false]) (by kernel_rfl) h)) TPart.enc_len (hv 0 30 v0 (by rw [← Array.getElem?_toList, e]; rfl) rfl) g0
  obtain ⟨a1, n1, c1, x1, rfl, h1, ok1⟩ := open_arr (encα := eI) (ok := i64ok) (sz := 1) Try.underlying38 (by kernel_rfl) (by omega) (fun n cs x h => let ⟨n2, h1, _, h2⟩ := DataW.trod_int Try.underlying2 h; ⟨n2, h1, i64ok_of_wf h2⟩) eI_len (hv 1 38 v1 (by rw [← Array.getElem?_toList, e]; rfl) rfl) g1
  exact law_StockCheck h0 ok0 h1 ok1
set_option maxRecDepth 100000 in
theorem FnExactStockCheck_lifted (os : Os) (started : os.Started) (H : Type) (enc : TypeId × Value → H) :
    ReturnsInHanded {} Try.checked os 7 .any (Rows.fnExactStockCheckSpec.pre6 enc Try.prog Try.f7 Rows.fnExactStockCheckRow.domain false) (Rows.fnExactStockCheckSpec.post enc Try.prog Try.f7 false true false false) := by
  refine returnsInHanded_of_change (C := Try.checked) law_own started (by kernel_rfl) Try.func7
    (ChangeSpec.witness6 (enc := enc) (C := Try.checked) false ⟨#[], #[.slice none 0 0,.slice none 0 0], []⟩ 8 (by kernel_rfl) (by kernel_rfl) (by kernel_rfl) (by kernel_rfl)) ?_
  intro W base args ds gs before hval hW _ _
  exact law_contract (P := Try.prog) (fn := Try.f7) (s := Rows.fnExactStockCheckSpec) rfl rfl Try.underlying4 law_laid (by kernel_rfl)
    (fun ds h => match ds, h with | [d0, d1], _ => ⟨rfl, rfl, rfl⟩) (fun W args ds p hA hv => open_StockCheck W args ds p hA hv) W args ds gs before hval hW
theorem FnExactStockCheck_holds : Rows.FnExactStockCheckSaid :=
  OpenClaim.holds_of_wide 7 Try.f7 rfl rfl rfl rfl rfl rfl rfl ⟨rfl, rfl, rfl, rfl, rfl⟩ rfl rfl rfl rfl rfl (by kernel_rfl) Try.func7 (by kernel_rfl)
    (of_decide_eq_true (by kernel_rfl)) (by unfold Func.isWrapper; first | (rw [if_pos (by decide +kernel)]; kernel_rfl) | (rw [if_neg (by decide +kernel)]; exact ⟨rfl, rfl⟩))
    (fun os started H enc _ => FnExactStockCheck_lifted os started H enc)

end Go.Proofs.Ytkeeebdfjoefgaa
