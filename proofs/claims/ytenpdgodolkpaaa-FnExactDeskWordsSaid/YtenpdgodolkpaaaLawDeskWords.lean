/- The statement on the law DeskWords is proved, as it is given: for every input the law returns true and each argument reads as before. No conditions. -/
import Derived.Test.YtenpdgodolkpaaaDesk
import Derived.Test.YtenpdgodolkpaaaLiftBase
namespace Go.Proofs.Ytenpdgodolkpaaa
open Go Go.RowKit Go.Vc Go.M Go.ChangeShapes Go.WideShapes Go.ChangeAt
theorem law_DeskWords (w : World) : Does Try.prog 3 [] w (fun v w' => v = .bool true ∧ Ext w w') := by
  obtain ⟨L, hL⟩ : ∃ L, L = deskWordsM := ⟨_, rfl⟩
  have S1 : ∀ w, Does Try.prog 9 [] w (NewStrs w L) := fun w => hL ▸ spec_DeskWords w
  have I1 : ∀ w, Does Try.prog 10 [] w (NewStrs w L) := fun w => hL ▸ impl_DeskWords w
  have hLl : L.length = 14 := hL ▸ deskWords_len
  clear hL
  refine Does.of_vc tabok Try.func3 rfl rfl rfl (by kernel_rfl) ?_; conv => whnf
  refine (S1 w).mono ?_
  rintro _ w1 ⟨b1, n1, c1, rfl, hb1, e1, O1⟩
  conv => whnf
  refine (I1 w1).mono ?_
  rintro _ w2 ⟨b2, n2, c2, rfl, hb2, e2, O2⟩
  conv => whnf
  refine (laws_eqStringS (O2.arr eS_len) ((O1.ext e2).arr eS_len)).mono ?_
  rintro _ w3 ⟨rfl, e3⟩
  conv => whnf
  refine IfB.eqf (by simp) ?_
  conv => whnf
  have hn2 : n2 = 14 := O2.1.symm.trans hLl
  refine (laws_markStringS (k0 := 1) (O2.ext e3) (by omega)).mono ?_
  rintro _ w4 ⟨rfl, m4, O4⟩
  conv => whnf
  refine (laws_heldStringS (k0 := 1) (O4.arr eS_len) (by omega)).mono ?_
  rintro _ w5 ⟨rfl, e5⟩
  conv => whnf
  refine IfB.eqf (by simp) ?_
  conv => whnf
  refine (I1 w5).mono ?_
  rintro _ w6 ⟨b6, n6, c6, rfl, hb6, e6, O6⟩
  conv => whnf
  have hlt1 : b1 < w1.heap.size := by
    rcases O1.2.2 with ⟨h, _⟩ | ⟨b, rest, h, hB⟩
    · cases h
    · cases h; exact hB.lt
  have O1' := ((((O1.ext e2).ext e3).mod m4 (by rintro x hx ⟨y, hy, h⟩; cases hx; cases hy; simp at h; omega)).ext e5).ext e6
  refine (laws_eqStringS (O6.arr eS_len) (O1'.arr eS_len)).mono ?_
  rintro _ w7 ⟨rfl, e7⟩
  conv => whnf
  refine IfB.eqf (by simp) ?_
  conv => whnf
  refine (laws_heldStringS (k0 := 1) ((((O4.ext e5).ext e6).ext e7).arr eS_len) (by omega)).mono ?_
  rintro _ w8 ⟨rfl, e8⟩
  conv => whnf
  refine IfB.eqf (by simp) ?_
  conv => whnf
  refine ⟨rfl, ?_⟩
  have E2 := Ext.trans e1 (Ext.trans e2 e3)
  have E4 : Ext w w4 := E2.mod_trans m4 (by
    rintro k ⟨x, hx, rfl⟩; cases hx; exact Nat.le_trans e1.size hb2)
  exact Ext.trans E4 (Ext.trans e5 (Ext.trans e6 (Ext.trans e7 e8)))
theorem open_DeskWords {H : Type} {enc : TypeId × Value → H} {base : Nat} (W : World) (args : List Value) (ds : List (DataW H)) (p : List MemPlace) (hA : DataW.TrodAll enc Try.prog W 0 (fun _ => true) true (Try.f3).params.toList args ds p)
    (_ : ∀ (j : Nat) t v, (Try.f3).params[j]? = some t → args[j]? = some v → Value.okWide Try.prog W .any base t v) : Does Try.prog 3 args W (fun v w' => v = .bool true ∧ Ext W w') := by
  have e : (Try.f3).params.toList = [] := rfl
  rw [e] at hA
  obtain ⟨rfl, rfl, rfl⟩ := trodAll_nil hA
  exact law_DeskWords W
set_option maxRecDepth 100000 in
theorem FnExactDeskWords_lifted (os : Os) (started : os.Started) (H : Type) (enc : TypeId × Value → H) :
    ReturnsInHanded {} Try.checked os 3 .any (Rows.fnExactDeskWordsSpec.pre6 enc Try.prog Try.f3 Rows.fnExactDeskWordsRow.domain false) (Rows.fnExactDeskWordsSpec.post enc Try.prog Try.f3 false true false false) := by
  refine returnsInHanded_of_change (C := Try.checked) law_own started (by kernel_rfl) Try.func3
    (ChangeSpec.witness6 (enc := enc) (C := Try.checked) false ⟨#[], #[], []⟩ 8 (by kernel_rfl) (by kernel_rfl) (by kernel_rfl) (by kernel_rfl)) ?_
  intro W base args ds gs before hval hW _ _
  exact law_contract (P := Try.prog) (fn := Try.f3) (s := Rows.fnExactDeskWordsSpec) rfl rfl Try.underlying4 law_laid (by kernel_rfl)
    (fun ds h => match ds, h with | [], _ => ⟨rfl, rfl, rfl⟩) (fun W args ds p hA hv => open_DeskWords W args ds p hA hv) W args ds gs before hval hW
theorem FnExactDeskWords_holds : Rows.FnExactDeskWordsSaid :=
  OpenClaim.holds_of_wide 3 Try.f3 rfl rfl rfl rfl rfl rfl rfl ⟨rfl, rfl, rfl, rfl, rfl⟩ rfl rfl rfl rfl rfl (by kernel_rfl) Try.func3 (by kernel_rfl)
    (of_decide_eq_true (by kernel_rfl)) (by unfold Func.isWrapper; first | (rw [if_pos (by decide +kernel)]; kernel_rfl) | (rw [if_neg (by decide +kernel)]; exact ⟨rfl, rfl⟩))
    (fun os started H enc _ => FnExactDeskWords_lifted os started H enc)

end Go.Proofs.Ytenpdgodolkpaaa
