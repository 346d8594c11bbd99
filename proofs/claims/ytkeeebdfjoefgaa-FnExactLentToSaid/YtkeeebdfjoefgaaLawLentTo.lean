/- The statement on the law LentTo is proved, as it is given: for every input the law returns true and each argument reads as before. No conditions. -/
import Derived.Test.YtkeeebdfjoefgaaLend
import Derived.Test.YtkeeebdfjoefgaaVcApp
import Derived.Test.YtkeeebdfjoefgaaLiftBase
namespace Go.Proofs.Ytkeeebdfjoefgaa
open Go Go.RowKit Go.Vc Go.M Go.ChangeShapes Go.WideShapes Go.ChangeAt
open Go.ChangeMaps (open_string)
set_option linter.unusedVariables false in
theorem law_LentTo {w : World} {a0 : Option Addr} {n0 c0 : Nat} {x0 : List TBox} (h0 : Arr TBox.enc 5 w a0 n0 x0) (ok0 : ∀ x ∈ x0, x.ok) {x1 : ByteArray} (ok1 : strok x1) : Does Try.prog 6 [.slice a0 n0 c0, .string x1] w (fun v w' => v = .bool true ∧ Ext w w') := by
  have len0 := h0.len
  refine Does.of_vc tabok Try.func6 rfl rfl rfl (by kernel_rfl) ?_; conv => whnf
  with_reducible refine IfB.dec (fun t1 => ?_) (fun t1 => ?_)
  · conv => whnf
    exact ⟨rfl, Ext.refl w⟩
  conv => whnf
  have hs1 : x1.size ≤ 1048576 := by omega
  refine (laws_szBoxS h0 ok0 (left := 1048576) (by omega) (by omega)).mono ?_
  rintro _ w1 ⟨r0, rfl, hr0, e1⟩
  have E1 : Ext w w1 := e1
  have s1 : w.heap.size ≤ w1.heap.size := e1.size
  conv => whnf
  with_reducible refine IfB.dec (fun t0 => ?_) (fun t0 => ?_)
  · conv => whnf
    exact ⟨rfl, E1⟩
  conv => whnf
  have hs0 : 0 ≤ r0 ∧ r0 ≤ 1048576 ∧ n0 ≤ 1048576 := by rcases hr0 with hr | ⟨hr, hr'⟩ <;> omega
  refine (laws_toBoxS (h0.ext E1) (by omega)).mono ?_
  rintro _ w2 ⟨bs0, rfl, gs0, e2, Os0⟩
  have news0 := NewAt.some gs0
  have lts0 := Os0.lt
  have E2 : Ext w w2 := Ext.trans E1 e2
  have s2 : w1.heap.size ≤ w2.heap.size := e2.size
  conv => whnf
  refine (spec_LentTo (Os0.arr TBox.enc_len) ok0 _ ok1).mono ?_
  rintro _ w3 ⟨ap0, np0, cp0, rfl, newp0, Op0, e3⟩
  have ltp0 := Op0.lt
  have E3 : Ext w w3 := Ext.trans E2 e3
  have s3 : w2.heap.size ≤ w3.heap.size := e3.size
  conv => whnf
  refine (laws_toBoxS (h0.ext E3) (by omega)).mono ?_
  rintro _ w4 ⟨bx0, rfl, gx0, e4, Ox0⟩
  have newx0 := NewAt.some gx0
  have ltx0 := Ox0.lt
  have E4 : Ext w w4 := Ext.trans E3 e4
  have s4 : w3.heap.size ≤ w4.heap.size := e4.size
  conv => whnf
  refine (impl_LentTo (Ox0.arr TBox.enc_len) ok0 _ ok1).mono ?_
  rintro _ w5 ⟨aq0, nq0, cq0, rfl, newq0, Oq0, e5⟩
  have ltq0 := Oq0.lt
  have E5 : Ext w w5 := Ext.trans E4 e5
  have s5 : w4.heap.size ≤ w5.heap.size := e5.size
  conv => whnf
  refine (laws_eqInt64S (Oq0.arr eI_len) (((Op0.ext e4).ext e5).arr eI_len)).mono ?_
  rintro _ w6 ⟨rfl, e6⟩
  have E6 : Ext w w6 := Ext.trans E5 e6
  have s6 : w5.heap.size ≤ w6.heap.size := e6.size
  conv => whnf
  refine IfB.eqf (by simp) ?_
  conv => whnf
  refine IfB.eqf (by simp) ?_
  conv => whnf
  refine (laws_toBoxS (h0.ext E6) (by omega)).mono ?_
  rintro _ w7 ⟨by0, rfl, gy0, e7, Oy0⟩
  have newy0 := NewAt.some gy0
  have lty0 := Oy0.lt
  have E7 : Ext w w7 := Ext.trans E6 e7
  have s7 : w6.heap.size ≤ w7.heap.size := e7.size
  conv => whnf
  refine (laws_eqBoxS ((((Ox0.ext e5).ext e6).ext e7).arr TBox.enc_len) (Oy0.arr TBox.enc_len)).mono ?_
  rintro _ w8 ⟨rfl, e8⟩
  have E8 : Ext w w8 := Ext.trans E7 e8
  have s8 : w7.heap.size ≤ w8.heap.size := e8.size
  conv => whnf
  refine IfB.eqf (by simp) ?_
  conv => whnf
  refine (laws_markBoxS ((((Ox0.ext e5).ext e6).ext e7).ext e8) (k0 := 1) (by omega)).mono ?_
  rintro _ w9 ⟨rfl, e9, Om0⟩
  have E9 : Ext w w9 := Ext.mod_trans E8 e9 (fun k hk => Nat.le_trans E3.size (blkIn_new newx0 k hk))
  have s9 : w8.heap.size ≤ w9.heap.size := e9.size
  conv => whnf
  first | (refine IfB.eqf (by simp; done) ?_; conv => whnf) | (refine IfB.eqf (decide_eq_false (by omega)) ?_; conv => whnf) | skip
  refine (laws_eqInt64S (((((Oq0.ext e6).ext e7).ext e8).mod e9 (apart' newq0 ltx0 (by omega))).arr eI_len) (((((((Op0.ext e4).ext e5).ext e6).ext e7).ext e8).mod e9 (apart ltp0 newx0 (by omega))).arr eI_len)).mono ?_
  rintro _ w10 ⟨rfl, e10⟩
  have E10 : Ext w w10 := Ext.trans E9 e10
  have s10 : w9.heap.size ≤ w10.heap.size := e10.size
  conv => whnf
  refine IfB.eqf (by simp) ?_
  conv => whnf
  refine IfB.eqf (by simp) ?_
  conv => whnf
  have bd0 : nq0 ≤ 2000000 := by have len := Oq0.1; have := lentToM_len x0 x1; omega
  refine (laws_markInt64S (((((Oq0.ext e6).ext e7).ext e8).mod e9 (apart' newq0 ltx0 (by omega))).ext e10) (k0 := 1) (by omega)).mono ?_
  rintro _ w11 ⟨rfl, e11, Ok0⟩
  have E11 : Ext w w11 := Ext.mod_trans E10 e11 (fun k hk => Nat.le_trans E4.size (blkIn_new newq0 k hk))
  have s11 : w10.heap.size ≤ w11.heap.size := e11.size
  conv => whnf
  refine (laws_heldInt64S (k0 := 1) (Ok0.arr eI_len) (by omega)).mono ?_
  rintro _ w12 ⟨rfl, e12⟩
  have E12 : Ext w w12 := Ext.trans E11 e12
  have s12 : w11.heap.size ≤ w12.heap.size := e12.size
  conv => whnf
  first | (refine IfB.eqf (decide_eq_false (by omega)) ?_; conv => whnf) | skip
  refine IfB.eqf (by simp) ?_
  conv => whnf
  refine (laws_toBoxS (h0.ext E12) (by omega)).mono ?_
  rintro _ w13 ⟨bz0, rfl, gz0, e13, Oz0⟩
  have newz0 := NewAt.some gz0
  have ltz0 := Oz0.lt
  have E13 : Ext w w13 := Ext.trans E12 e13
  have s13 : w12.heap.size ≤ w13.heap.size := e13.size
  conv => whnf
  refine (impl_LentTo (Oz0.arr TBox.enc_len) ok0 _ ok1).mono ?_
  rintro _ w14 ⟨ar0, nr0, cr0, rfl, newr0, Or0, e14⟩
  have ltr0 := Or0.lt
  have E14 : Ext w w14 := Ext.trans E13 e14
  have s14 : w13.heap.size ≤ w14.heap.size := e14.size
  conv => whnf
  refine (laws_eqInt64S (Or0.arr eI_len) ((((((((((((Op0.ext e4).ext e5).ext e6).ext e7).ext e8).mod e9 (apart ltp0 newx0 (by omega))).ext e10).mod e11 (apart ltp0 newq0 (by omega))).ext e12).ext e13).ext e14).arr eI_len)).mono ?_
  rintro _ w15 ⟨rfl, e15⟩
  have E15 : Ext w w15 := Ext.trans E14 e15
  have s15 : w14.heap.size ≤ w15.heap.size := e15.size
  conv => whnf
  refine IfB.eqf (by simp) ?_
  conv => whnf
  refine IfB.eqf (by simp) ?_
  conv => whnf
  refine (laws_heldInt64S (k0 := 1) (((((Ok0.ext e12).ext e13).ext e14).ext e15).arr eI_len) (by omega)).mono ?_
  rintro _ w16 ⟨rfl, e16⟩
  have E16 : Ext w w16 := Ext.trans E15 e16
  have s16 : w15.heap.size ≤ w16.heap.size := e16.size
  conv => whnf
  first | (refine IfB.eqf (decide_eq_false (by omega)) ?_; conv => whnf) | skip
  refine IfB.eqf (by simp) ?_
  conv => whnf
  exact ⟨rfl, E16⟩
set_option maxRecDepth 100000 in
theorem open_LentTo {H : Type} {enc : TypeId × Value → H} {base : Nat} (W : World) (args : List Value) (ds : List (DataW H)) (p : List MemPlace) (hA : DataW.TrodAll enc Try.prog W 0 (fun _ => true) true (Try.f6).params.toList args ds p)
    (hv : ∀ (j : Nat) t v, (Try.f6).params[j]? = some t → args[j]? = some v → Value.okWide Try.prog W .any base t v) : Does Try.prog 6 args W (fun v w' => v = .bool true ∧ Ext W w') := by
  have e : (Try.f6).params.toList = [22, 9] := rfl
  rw [e] at hA
  obtain ⟨v0, vs0, d0, ds0, p0, q0, rfl, rfl, rfl, g0, r0⟩ := trodAll_cons hA
  obtain ⟨v1, vs1, d1, ds1, p1, q1, rfl, rfl, rfl, g1, r1⟩ := trodAll_cons r0
  obtain ⟨rfl, rfl, rfl⟩ := trodAll_nil r1
  obtain ⟨a0, n0, c0, x0, rfl, h0, ok0⟩ := open_arr (encα := TBox.enc) (ok := TBox.ok) (sz := 5) Try.underlying22 (by kernel_rfl) (by omega) (fun n cs x h => TBox.of_flat (trod_flat (ks := [true, false, false, false, true]) (by kernel_rfl) h)) TBox.enc_len (hv 0 22 v0 (by rw [← Array.getElem?_toList, e]; rfl) rfl) g0
  obtain ⟨x1, rfl, rfl, rfl, ok1⟩ := open_string Try.underlying9 (hv 1 9 v1 (by rw [← Array.getElem?_toList, e]; rfl) rfl) g1
  exact law_LentTo h0 ok0 ok1
set_option maxRecDepth 100000 in
theorem FnExactLentTo_lifted (os : Os) (started : os.Started) (H : Type) (enc : TypeId × Value → H) :
    ReturnsInHanded {} Try.checked os 6 .any (Rows.fnExactLentToSpec.pre6 enc Try.prog Try.f6 Rows.fnExactLentToRow.domain false) (Rows.fnExactLentToSpec.post enc Try.prog Try.f6 false true false false) := by
  refine returnsInHanded_of_change (C := Try.checked) law_own started (by kernel_rfl) Try.func6
    (ChangeSpec.witness6 (enc := enc) (C := Try.checked) false ⟨#[], #[.slice none 0 0,.string { data := #[] }], []⟩ 8 (by kernel_rfl) (by kernel_rfl) (by kernel_rfl) (by kernel_rfl)) ?_
  intro W base args ds gs before hval hW _ _
  exact law_contract (P := Try.prog) (fn := Try.f6) (s := Rows.fnExactLentToSpec) rfl rfl Try.underlying4 law_laid (by kernel_rfl)
    (fun ds h => match ds, h with | [d0, d1], _ => ⟨rfl, rfl, rfl⟩) (fun W args ds p hA hv => open_LentTo W args ds p hA hv) W args ds gs before hval hW
theorem FnExactLentTo_holds : Rows.FnExactLentToSaid :=
  OpenClaim.holds_of_wide 6 Try.f6 rfl rfl rfl rfl rfl rfl rfl ⟨rfl, rfl, rfl, rfl, rfl⟩ rfl rfl rfl rfl rfl (by kernel_rfl) Try.func6 (by kernel_rfl)
    (of_decide_eq_true (by kernel_rfl)) (by unfold Func.isWrapper; first | (rw [if_pos (by decide +kernel)]; kernel_rfl) | (rw [if_neg (by decide +kernel)]; exact ⟨rfl, rfl⟩))
    (fun os started H enc _ => FnExactLentTo_lifted os started H enc)

end Go.Proofs.Ytkeeebdfjoefgaa
