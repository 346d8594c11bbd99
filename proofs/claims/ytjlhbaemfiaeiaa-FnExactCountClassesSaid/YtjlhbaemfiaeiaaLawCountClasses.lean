/- The statement on the law CountClasses is proved, as it is given: for every input the law returns true and each argument reads as before. No conditions. -/
import Derived.Test.YtjlhbaemfiaeiaaCens
import Derived.Test.YtjlhbaemfiaeiaaInts
import Derived.Test.YtjlhbaemfiaeiaaNestArg
import Derived.Test.YtjlhbaemfiaeiaaVcApp
import Derived.Test.YtjlhbaemfiaeiaaLiftBase
namespace Go.M
open Go Go.Vc
theorem countClasses_len (d : List (List Int)) (f : TField) (l : List Int) : (countClassesM d f l).1.length ≤ 10 := by
  cases h : limitsB l
  · rw [countClasses_limits h]; simp
  · have hb := limitsB_b h
    obtain ⟨L, cd, hr⟩ : ∃ L cd, numbersIf true d f = (L, cd) := ⟨_, _, rfl⟩
    by_cases hc : cd = 0
    · subst hc
      rw [countClasses_good h hr]
      show (tally l L).length ≤ 10
      rw [tally_len]
      omega
    · rw [countClasses_bad h hr hc]; simp
theorem TField.flat {x : TField} (h : x.ok) : Flat [false, false] x.enc := by
  obtain ⟨h0, h1⟩ := h
  exact ⟨_, _, rfl, h0, ⟨_, _, rfl, h1, rfl⟩⟩
theorem TField.of_flat {cs : List Value} (h : Flat [false, false] cs) : ∃ x : TField, cs = x.enc ∧ x.ok := by
  obtain ⟨v0, _, rfl, h0, ⟨v1, _, rfl, h1, rfl⟩⟩ := h
  exact ⟨⟨v0, v1⟩, rfl, h0, h1⟩
end Go.M
namespace Go.Proofs.Ytjlhbaemfiaeiaa
open Go Go.RowKit Go.Vc Go.M Go.ChangeShapes Go.WideShapes Go.ChangeAt
open Go.ChangeMaps (open_string)
theorem laws_toField (x : TField) (w : World) : Does Try.prog 53 [.agg ⟨x.enc⟩] w (fun v w' => v = .agg ⟨x.enc⟩ ∧ Ext w w') := by
  refine Does.of_vc tabok Try.func53 rfl rfl rfl (by kernel_rfl) ?_; conv => whnf
  refine SemK.box ?_
  intro b1 w1 g1 l1 e1 B1
  conv => whnf
  refine SemK.alloc (z := .agg #[.int .i64 0, .int .i64 0]) (by kernel_rfl) ?_
  intro b2 w2 g2 l2 e2 B2
  conv => whnf
  refine SemK.alloc (z := .agg #[.int .i64 0, .int .i64 0]) (by kernel_rfl) ?_
  intro b3 w3 g3 l3 e3 B3
  conv => whnf
  refine SemK.load1 (by kernel_rfl) (B1.ext (Ext.trans e2 e3)).cells (k := 0) rfl ?_
  conv => whnf
  refine SemK.store1 (by kernel_rfl) B3 (k := 0) (by decide) rfl ?_
  intro w4 c4 B4
  have B4 : Blk w4 b3 [Value.int IntKind.i64 x.from_, Value.int IntKind.i64 0] _ := B4
  conv => whnf
  refine SemK.load1 (by kernel_rfl) (B1.ext (Ext.but_trans (Ext.trans e2 e3) c4.but (Nat.le_trans (Below.size e2) g3))).cells (k := 1) rfl ?_
  conv => whnf
  refine SemK.store1 (by kernel_rfl) B4 (k := 1) (Nat.le_of_ble_eq_true rfl) rfl ?_
  intro w5 c5 B5
  have B5 : Blk w5 b3 [Value.int IntKind.i64 x.from_, Value.int IntKind.i64 x.to_] _ := B5
  conv => whnf
  refine SemK.loadAgg (n := 2) (by kernel_rfl) B5.cells rfl ?_
  conv => whnf
  refine SemK.storeAll (by kernel_rfl) (B2.ext (Ext.but_trans (Ext.but_trans e3 c4.but g3) c5.but g3)) (vs := [Value.int IntKind.i64 x.from_, Value.int IntKind.i64 x.to_]) rfl rfl (by simp [List.cons, cellish]) ?_
  intro w6 c6 B6
  conv => whnf
  refine CellK.of (run_loadAgg (n := 2) (by kernel_rfl) rfl B6.cells) ?_
  conv => whnf
  exact ⟨rfl, (Ext.but_trans (Ext.but_trans (Ext.but_trans (Ext.trans (Ext.trans e1 e2) e3) c4.but (Nat.le_trans (Below.size (Ext.trans e1 e2)) g3)) c5.but (Nat.le_trans (Below.size (Ext.trans e1 e2)) g3)) c6.but (Nat.le_trans (Below.size e1) g2))⟩
set_option linter.unusedVariables false in
theorem law_CountClasses {w : World} {a0 : Option Addr} {n0 c0 : Nat} {x0 : List (List Int)} (h0 : ArrS RCard w a0 n0 x0) {x1 : TField} (ok1 : x1.ok) {a2 : Option Addr} {n2 c2 : Nat} {x2 : List Int} (h2 : Arr eI 1 w a2 n2 x2) : Does Try.prog 6 [.slice a0 n0 c0, .agg ⟨x1.enc⟩, .slice a2 n2 c2] w (fun v w' => v = .bool true ∧ Ext w w') := by
  have len0 := h0.len
  have len2 := h2.len
  have hlen := countClasses_len x0 x1 x2
  refine Does.of_vc tabok Try.func6 rfl rfl rfl (by kernel_rfl) ?_; conv => whnf
  refine SemK.box ?_
  intro b3 w3 g3 l3 e3 B3
  conv => whnf
  with_reducible refine IfB.dec (fun h4 => ?_) (fun h4 => ?_)
  · conv => whnf
    exact ⟨rfl, e3⟩
  · conv => whnf
    refine (laws_szCardSE (h0.ext e3) (by omega) (by omega)).mono ?_
    rintro _ w8 ⟨r5, rfl, q6, e7⟩
    have E8 := (Ext.trans e3 e7)
    conv => whnf
    with_reducible refine IfB.dec (fun h9 => ?_) (fun h9 => ?_)
    · conv => whnf
      exact ⟨rfl, E8⟩
    · have hTo : ∀ u, Ext w u → Does Try.prog 52 [.slice a0 n0 c0] u (fun v w' => ∃ b, v = .slice (some ⟨b, 0, none⟩) n0 n0 ∧ u.heap.size ≤ b ∧ OwnN OCard w' u.heap.size w'.heap.size (some ⟨b, 0, none⟩) n0 138 x0 ∧ Ext u w') := fun u e => laws_toCardSO (h0.ext e) (by omega)
      conv => whnf
      refine DrawK.held tabok mixed [(0, false), (2, false), (4, false), (1, true), (3, true), (5, true), (6, true), (7, true), (8, false), (9, false), (10, true), (11, true)] (by kernel_rfl) (by kernel_rfl) ?_
      conv => whnf
      intro w10 e10
      conv => whnf
      refine DSemK.loadAgg (n := 2) (by kernel_rfl) (B3.ext e7).cells rfl ?_
      conv => whnf
      refine (hTo _ (Ext.trans E8 e10)).mono ?_
      rintro _ w15 ⟨b11, rfl, q12, O13, e14⟩
      have E15 := (Ext.trans (Ext.trans E8 e10) e14)
      conv => whnf
      refine ⟨(Ext.trans e10 e14), ?_⟩
      conv => whnf
      refine (laws_toField _ _).mono ?_
      rintro _ w17 ⟨rfl, e16⟩
      have E17 := (Ext.trans E15 e16)
      conv => whnf
      refine ⟨(Ext.trans (Ext.trans e10 e14) e16), ?_⟩
      conv => whnf
      refine (laws_toInt64S (h2.ext E17) (by omega)).mono ?_
      rintro _ w22 ⟨b18, rfl, q19, e20, O21⟩
      have E22 := (Ext.trans E17 e20)
      have lnO21 := O21.1
      conv => whnf
      refine ⟨(Ext.trans (Ext.trans (Ext.trans e10 e14) e16) e20), ?_⟩
      conv => whnf
      refine (spec_CountClasses (O13.ext (Ext.trans e16 e20)).arr ok1 (O21.arr eI_len)).mono ?_
      rintro _ w29 ⟨a'23, n'24, c'25, rfl, N26, O27, e28⟩
      have E29 := (Ext.trans E22 e28)
      have lnO27 := O27.1
      conv => whnf
      refine ⟨(Ext.trans (Ext.trans (Ext.trans (Ext.trans e10 e14) e16) e20) e28), ?_⟩
      conv => whnf
      refine (hTo _ E29).mono ?_
      rintro _ w34 ⟨b30, rfl, q31, O32, e33⟩
      have E34 := (Ext.trans E29 e33)
      conv => whnf
      refine (laws_toInt64S (h2.ext E34) (by omega)).mono ?_
      rintro _ w39 ⟨b35, rfl, q36, e37, O38⟩
      have E39 := (Ext.trans E34 e37)
      have lnO38 := O38.1
      conv => whnf
      refine SemK.loadAgg (n := 2) (by kernel_rfl) (B3.ext (Ext.trans (Ext.trans (Ext.trans (Ext.trans (Ext.trans (Ext.trans (Ext.trans e7 e10) e14) e16) e20) e28) e33) e37)).cells rfl ?_
      conv => whnf
      refine (laws_toField _ _).mono ?_
      rintro _ w41 ⟨rfl, e40⟩
      have E41 := (Ext.trans E39 e40)
      conv => whnf
      refine (impl_CountClasses (O32.ext (Ext.trans e37 e40)).arr ok1 ((O38.ext e40).arr eI_len) (by omega)).mono ?_
      rintro _ w48 ⟨a'42, n'43, c'44, rfl, N45, O46, e47⟩
      have E48 := (Ext.trans E41 e47)
      have lnO46 := O46.1
      conv => whnf
      refine (laws_eqInt64S (O46.arr eI_len) ((O27.ext (Ext.trans (Ext.trans (Ext.trans e33 e37) e40) e47)).arr eI_len)).mono ?_
      rintro _ w50 ⟨rfl, e49⟩
      have E50 := (Ext.trans E48 e49)
      conv => whnf
      refine IfB.eqf (by simp; done) ?_
      conv => whnf
      refine IfB.eqf (by simp; done) ?_
      conv => whnf
      refine (hTo _ E50).mono ?_
      rintro _ w55 ⟨b51, rfl, q52, O53, e54⟩
      have E55 := (Ext.trans E50 e54)
      conv => whnf
      refine (laws_eqCardS (O32.ext (Ext.trans (Ext.trans (Ext.trans (Ext.trans e37 e40) e47) e49) e54)).arr O53.arr).mono ?_
      rintro _ w57 ⟨rfl, e56⟩
      have E57 := (Ext.trans E55 e56)
      conv => whnf
      refine IfB.eqf (by simp; done) ?_
      conv => whnf
      refine (laws_toInt64S (h2.ext E57) (by omega)).mono ?_
      rintro _ w62 ⟨b58, rfl, q59, e60, O61⟩
      have E62 := (Ext.trans E57 e60)
      have lnO61 := O61.1
      conv => whnf
      refine (laws_eqInt64S ((O38.ext (Ext.trans (Ext.trans (Ext.trans (Ext.trans (Ext.trans e40 e47) e49) e54) e56) e60)).arr eI_len) (O61.arr eI_len)).mono ?_
      rintro _ w64 ⟨rfl, e63⟩
      have E64 := (Ext.trans E62 e63)
      conv => whnf
      refine IfB.eqf (by simp; done) ?_
      conv => whnf
      refine (laws_markCardSN (k0 := 1) (O32.ext (Ext.trans (Ext.trans (Ext.trans (Ext.trans (Ext.trans (Ext.trans (Ext.trans e37 e40) e47) e49) e54) e56) e60) e63)) (by omega)).mono ?_
      rintro _ w73 ⟨rfl, m71, O72⟩
      have E73 := (Ext.mod_trans E64 m71 (fun k hk => Nat.le_trans (Below.size E29) hk.1))
      conv => whnf
      refine (laws_markInt64S ((O38.ext (Ext.trans (Ext.trans (Ext.trans (Ext.trans (Ext.trans (Ext.trans e40 e47) e49) e54) e56) e60) e63)).mod m71 (ivNew (NewAt.some q36) (Nat.le_refl _))) (by omega)).mono ?_
      rintro _ w76 ⟨rfl, m74, O75⟩
      have E76 := (Ext.mod_trans E73 m74 (fun k hk => Nat.le_trans (Below.size E34) (blkIn_new (NewAt.some q36) k hk)))
      have lnO75 := O75.1
      conv => whnf
      refine (laws_eqInt64S ((((O46.ext (Ext.trans (Ext.trans (Ext.trans (Ext.trans e49 e54) e56) e60) e63)).mod m71 (ivNew N45 (Below.size (Ext.trans e37 e40)))).mod m74 (apart' N45 O38.lt (Below.size e40))).arr eI_len) ((O27.ext (Ext.mod_trans (Ext.mod_trans (Ext.trans (Ext.trans (Ext.trans (Ext.trans (Ext.trans (Ext.trans (Ext.trans (Ext.trans e33 e37) e40) e47) e49) e54) e56) e60) e63) m71 (fun k hk => hk.1)) m74 (fun k hk => Nat.le_trans (Below.size e33) (blkIn_new (NewAt.some q36) k hk)))).arr eI_len)).mono ?_
      rintro _ w78 ⟨rfl, e77⟩
      have E78 := (Ext.trans E76 e77)
      conv => whnf
      refine IfB.eqf (by simp; done) ?_
      conv => whnf
      refine IfB.eqf (by simp; done) ?_
      conv => whnf
      refine (laws_markInt64S (k0 := 1) ((((O46.ext (Ext.trans (Ext.trans (Ext.trans (Ext.trans e49 e54) e56) e60) e63)).mod m71 (ivNew N45 (Below.size (Ext.trans e37 e40)))).mod m74 (apart' N45 O38.lt (Below.size e40))).ext e77) (by omega)).mono ?_
      rintro _ w81 ⟨rfl, m79, O80⟩
      have E81 := (Ext.mod_trans E78 m79 (fun k hk => Nat.le_trans (Below.size E41) (blkIn_new N45 k hk)))
      have lnO80 := O80.1
      conv => whnf
      refine (laws_heldInt64S (k0 := 1) (O80.arr eI_len) (by omega)).mono ?_
      rintro _ w83 ⟨rfl, e82⟩
      have E83 := (Ext.trans E81 e82)
      conv => whnf
      refine IfB.eqf (by simp; done) ?_
      conv => whnf
      refine DrawK.held tabok mixed [(0, false), (2, false), (4, false), (1, true), (3, true), (5, true), (6, true), (7, true), (8, false), (9, false), (10, true), (11, true)] (by kernel_rfl) (by kernel_rfl) ?_
      conv => whnf
      intro w84 e84
      conv => whnf
      refine DSemK.loadAgg (n := 2) (by kernel_rfl) (B3.ext (Ext.trans (Ext.mod_trans (Ext.trans (Ext.mod_trans (Ext.mod_trans (Ext.trans (Ext.trans (Ext.trans (Ext.trans (Ext.trans (Ext.trans (Ext.trans (Ext.trans (Ext.trans (Ext.trans (Ext.trans (Ext.trans (Ext.trans (Ext.trans e7 e10) e14) e16) e20) e28) e33) e37) e40) e47) e49) e54) e56) e60) e63) m71 (fun k hk => Nat.le_trans (Below.size (Ext.trans (Ext.trans (Ext.trans (Ext.trans (Ext.trans e7 e10) e14) e16) e20) e28)) hk.1)) m74 (fun k hk => Nat.le_trans (Below.size (Ext.trans (Ext.trans (Ext.trans (Ext.trans (Ext.trans (Ext.trans e7 e10) e14) e16) e20) e28) e33)) (blkIn_new (NewAt.some q36) k hk))) e77) m79 (fun k hk => Nat.le_trans (Below.size (Ext.trans (Ext.trans (Ext.trans (Ext.trans (Ext.trans (Ext.trans (Ext.trans (Ext.trans e7 e10) e14) e16) e20) e28) e33) e37) e40)) (blkIn_new N45 k hk))) e82)).cells rfl ?_
      conv => whnf
      refine (hTo _ (Ext.trans E83 e84)).mono ?_
      rintro _ w89 ⟨b85, rfl, q86, O87, e88⟩
      have E89 := (Ext.trans (Ext.trans E83 e84) e88)
      conv => whnf
      refine ⟨(Ext.trans e84 e88), ?_⟩
      conv => whnf
      refine (laws_toField _ _).mono ?_
      rintro _ w91 ⟨rfl, e90⟩
      have E91 := (Ext.trans E89 e90)
      conv => whnf
      refine ⟨(Ext.trans (Ext.trans e84 e88) e90), ?_⟩
      conv => whnf
      refine (laws_toInt64S (h2.ext E91) (by omega)).mono ?_
      rintro _ w96 ⟨b92, rfl, q93, e94, O95⟩
      have E96 := (Ext.trans E91 e94)
      have lnO95 := O95.1
      conv => whnf
      refine ⟨(Ext.trans (Ext.trans (Ext.trans e84 e88) e90) e94), ?_⟩
      conv => whnf
      refine (impl_CountClasses (O87.ext (Ext.trans e90 e94)).arr ok1 (O95.arr eI_len) (by omega)).mono ?_
      rintro _ w103 ⟨a'97, n'98, c'99, rfl, N100, O101, e102⟩
      have E103 := (Ext.trans E96 e102)
      have lnO101 := O101.1
      conv => whnf
      refine ⟨(Ext.trans (Ext.trans (Ext.trans (Ext.trans e84 e88) e90) e94) e102), ?_⟩
      conv => whnf
      refine (laws_eqInt64S (O101.arr eI_len) ((O27.ext (Ext.trans (Ext.trans (Ext.trans (Ext.trans (Ext.trans (Ext.trans (Ext.mod_trans (Ext.trans (Ext.mod_trans (Ext.mod_trans (Ext.trans (Ext.trans (Ext.trans (Ext.trans (Ext.trans (Ext.trans (Ext.trans (Ext.trans e33 e37) e40) e47) e49) e54) e56) e60) e63) m71 (fun k hk => hk.1)) m74 (fun k hk => Nat.le_trans (Below.size e33) (blkIn_new (NewAt.some q36) k hk))) e77) m79 (fun k hk => Nat.le_trans (Below.size (Ext.trans (Ext.trans e33 e37) e40)) (blkIn_new N45 k hk))) e82) e84) e88) e90) e94) e102)).arr eI_len)).mono ?_
      rintro _ w105 ⟨rfl, e104⟩
      have E105 := (Ext.trans E103 e104)
      conv => whnf
      refine IfB.eqf (by simp; done) ?_
      conv => whnf
      refine IfB.eqf (by simp; done) ?_
      conv => whnf
      refine (laws_heldInt64S (k0 := 1) ((O80.ext (Ext.trans (Ext.trans (Ext.trans (Ext.trans (Ext.trans (Ext.trans e82 e84) e88) e90) e94) e102) e104)).arr eI_len) (by omega)).mono ?_
      rintro _ w107 ⟨rfl, e106⟩
      have E107 := (Ext.trans E105 e106)
      conv => whnf
      refine IfB.eqf (by simp; done) ?_
      conv => whnf
      exact ⟨rfl, E107⟩
set_option maxRecDepth 100000 in
theorem open_CountClasses {H : Type} {enc : TypeId × Value → H} {base : Nat} (W : World) (args : List Value) (ds : List (DataW H)) (p : List MemPlace) (hA : DataW.TrodAll enc Try.prog W 0 (fun _ => true) true (Try.f6).params.toList args ds p)
    (hv : ∀ (j : Nat) t v, (Try.f6).params[j]? = some t → args[j]? = some v → Value.okWide Try.prog W .any base t v) : Does Try.prog 6 args W (fun v w' => v = .bool true ∧ Ext W w') := by
  have e : (Try.f6).params.toList = [65, 67, 39] := rfl
  rw [e] at hA
  obtain ⟨v0, vs0, d0, ds0, p0, q0, rfl, rfl, rfl, g0, r0⟩ := trodAll_cons hA
  obtain ⟨v1, vs1, d1, ds1, p1, q1, rfl, rfl, rfl, g1, r1⟩ := trodAll_cons r0
  obtain ⟨v2, vs2, d2, ds2, p2, q2, rfl, rfl, rfl, g2, r2⟩ := trodAll_cons r1
  obtain ⟨rfl, rfl, rfl⟩ := trodAll_nil r2
  obtain ⟨a0, n0, c0, x0, rfl, h0, ok0⟩ := open_CardS W (hv 0 65 v0 (by rw [← Array.getElem?_toList, e]; rfl) rfl) g0
  obtain ⟨cs1, rfl, hf1⟩ := open_flat (ks := [false, false]) (by kernel_rfl) (hv 1 67 v1 (by rw [← Array.getElem?_toList, e]; rfl) rfl) g1
  obtain ⟨x1, rfl, ok1⟩ := TField.of_flat hf1
  obtain ⟨a2, n2, c2, x2, rfl, h2, ok2⟩ := open_arr (encα := eI) (ok := fun _ => True) (sz := 1) Try.underlying39 (by kernel_rfl) (by omega) (fun n cs x h => let ⟨n2, h1, _, _⟩ := DataW.trod_int Try.underlying2 h; ⟨n2, h1, trivial⟩) eI_len (hv 2 39 v2 (by rw [← Array.getElem?_toList, e]; rfl) rfl) g2
  exact law_CountClasses h0 ok1 h2
set_option maxRecDepth 100000 in
theorem FnExactCountClasses_lifted (os : Os) (started : os.Started) (H : Type) (enc : TypeId × Value → H) :
    ReturnsInHanded {} Try.checked os 6 .any (Rows.fnExactCountClassesSpec.pre6 enc Try.prog Try.f6 Rows.fnExactCountClassesRow.domain false) (Rows.fnExactCountClassesSpec.post enc Try.prog Try.f6 false true false false) := by
  refine returnsInHanded_of_change (C := Try.checked) law_own started (by kernel_rfl) Try.func6
    (ChangeSpec.witness6 (enc := enc) (C := Try.checked) false ⟨#[], #[.slice none 0 0,.agg #[.int .i64 0, .int .i64 0],.slice none 0 0], []⟩ 8 (by kernel_rfl) (by kernel_rfl) (by kernel_rfl) (by kernel_rfl)) ?_
  intro W base args ds gs before hval hW _ _
  exact law_contract (P := Try.prog) (fn := Try.f6) (s := Rows.fnExactCountClassesSpec) rfl rfl Try.underlying4 law_laid (by kernel_rfl)
    (fun ds h => match ds, h with | [d0, d1, d2], _ => ⟨rfl, rfl, rfl⟩) (fun W args ds p hA hv => open_CountClasses W args ds p hA hv) W args ds gs before hval hW
theorem FnExactCountClasses_holds : Rows.FnExactCountClassesSaid :=
  OpenClaim.holds_of_wide 6 Try.f6 rfl rfl rfl rfl rfl rfl rfl ⟨rfl, rfl, rfl, rfl, rfl⟩ rfl rfl rfl rfl rfl (by kernel_rfl) Try.func6 (by kernel_rfl)
    (of_decide_eq_true (by kernel_rfl)) (by unfold Func.isWrapper; first | (rw [if_pos (by decide +kernel)]; kernel_rfl) | (rw [if_neg (by decide +kernel)]; exact ⟨rfl, rfl⟩))
    (fun os started H enc _ => FnExactCountClasses_lifted os started H enc)

end Go.Proofs.Ytjlhbaemfiaeiaa
