/- The statement on the law MissingTexts is proved, as it is given: for every input the law returns true and each argument reads as before. No conditions. -/
import Derived.Test.YtmhnmdcleeadiaaKeyT
import Derived.Test.YtmhnmdcleeadiaaInts
import Derived.Test.YtmhnmdcleeadiaaStrL
import Derived.Test.YtmhnmdcleeadiaaNestArg
import Derived.Test.YtmhnmdcleeadiaaFField
import Derived.Test.YtmhnmdcleeadiaaVcApp
import Derived.Test.YtmhnmdcleeadiaaLiftBase
namespace Go.Proofs.Ytmhnmdcleeadiaa
open Go Go.RowKit Go.Vc Go.M Go.ChangeShapes Go.WideShapes Go.ChangeAt
open Go.ChangeMaps (open_string)
set_option linter.unusedVariables false in
theorem law_MissingTexts {w : World} {a0 : Option Addr} {n0 c0 : Nat} {x0 : List (List Int)} (h0 : ArrS RCard w a0 n0 x0) {x1 : TField} (ok1 : x1.ok) {a2 : Option Addr} {n2 c2 : Nat} {x2 : List ByteArray} (h2 : Arr eS 1 w a2 n2 x2) (ok2 : ∀ x ∈ x2, strok x)  : Does Try.prog 5 [.slice a0 n0 c0, .agg ⟨x1.enc⟩, .slice a2 n2 c2] w (fun v w' => v = .bool true ∧ Ext w w') := by
  have len0 := h0.len
  have hToA : ∀ u, Ext w u → n0 + wtAll wtCard x0 ≤ 1048576 → Does Try.prog 19 [.slice a0 n0 c0] u (fun v w' => ∃ b, v = .slice (some ⟨b, 0, none⟩) n0 n0 ∧ u.heap.size ≤ b ∧ OwnN OCard w' u.heap.size w'.heap.size (some ⟨b, 0, none⟩) n0 81 x0 ∧ Ext u w') := fun u e h => laws_toCardSO (h0.ext e) h
  have len2 := h2.len
  have hlen : (missingM x0 x1 x2).1.length ≤ 100 := missing_len x0 x1 x2
  refine Does.of_vc tabok Try.func5 rfl rfl rfl (by kernel_rfl) ?_; conv => whnf
  refine SemK.box ?_
  intro b3 w3 g3 l3 e3 B3
  conv => whnf
  refine (laws_szCardSE (h0.ext e3) (by omega) (by omega)).mono ?_
  rintro _ w7 ⟨r4, rfl, q5, e6⟩
  have E7 := (Ext.trans e3 e6)
  conv => whnf
  with_reducible refine IfB.dec (fun h8 => ?_) (fun h8 => ?_)
  · conv => whnf
    exact ⟨rfl, E7⟩
  · conv => whnf
    refine (laws_szStringS (h2.ext E7) ok2 (by omega) (by omega)).mono ?_
    rintro _ w12 ⟨r9, rfl, q10, e11⟩
    have E12 := (Ext.trans E7 e11)
    conv => whnf
    with_reducible refine IfB.dec (fun h13 => ?_) (fun h13 => ?_)
    · conv => whnf
      exact ⟨rfl, E12⟩
    · conv => whnf
      refine DrawK.held tabok mixed [(0, false), (2, false), (4, false), (1, true), (3, true), (5, true), (6, true), (7, true), (8, false), (9, false), (10, true), (11, true)] (by kernel_rfl) (by kernel_rfl) ?_
      conv => whnf
      intro w14 e14
      conv => whnf
      refine DSemK.loadAgg (n := 2) (by kernel_rfl) (B3.ext (Ext.trans e6 e11)).cells rfl ?_
      conv => whnf
      refine (hToA _ (Ext.trans E12 e14) (by omega)).mono ?_
      rintro _ w19 ⟨b15, rfl, q16, O17, e18⟩
      have E19 := (Ext.trans (Ext.trans E12 e14) e18)
      conv => whnf
      refine ⟨(Ext.trans e14 e18), ?_⟩
      conv => whnf
      refine (laws_toField _ _).mono ?_
      rintro _ w21 ⟨rfl, e20⟩
      have E21 := (Ext.trans E19 e20)
      conv => whnf
      refine ⟨(Ext.trans (Ext.trans e14 e18) e20), ?_⟩
      conv => whnf
      refine (laws_toStringS (h2.ext E21) (by omega)).mono ?_
      rintro _ w26 ⟨b22, rfl, q23, e24, O25⟩
      have E26 := (Ext.trans E21 e24)
      have lnO25 := O25.1
      conv => whnf
      refine ⟨(Ext.trans (Ext.trans (Ext.trans e14 e18) e20) e24), ?_⟩
      conv => whnf
      refine (spec_MissingTexts (O17.ext (Ext.trans e20 e24)).arr _ (O25.arr eS_len)).mono ?_
      rintro _ w33 ⟨a'27, n'28, c'29, rfl, N30, O31, e32⟩
      have E33 := (Ext.trans E26 e32)
      have lnO31 := O31.1
      conv => whnf
      refine ⟨(Ext.trans (Ext.trans (Ext.trans (Ext.trans e14 e18) e20) e24) e32), ?_⟩
      conv => whnf
      refine (hToA _ E33 (by omega)).mono ?_
      rintro _ w38 ⟨b34, rfl, q35, O36, e37⟩
      have E38 := (Ext.trans E33 e37)
      conv => whnf
      refine (laws_toStringS (h2.ext E38) (by omega)).mono ?_
      rintro _ w43 ⟨b39, rfl, q40, e41, O42⟩
      have E43 := (Ext.trans E38 e41)
      have lnO42 := O42.1
      conv => whnf
      refine SemK.loadAgg (n := 2) (by kernel_rfl) (B3.ext (Ext.trans (Ext.trans (Ext.trans (Ext.trans (Ext.trans (Ext.trans (Ext.trans (Ext.trans e6 e11) e14) e18) e20) e24) e32) e37) e41)).cells rfl ?_
      conv => whnf
      refine (laws_toField _ _).mono ?_
      rintro _ w45 ⟨rfl, e44⟩
      have E45 := (Ext.trans E43 e44)
      conv => whnf
      refine (impl_MissingTexts (O36.ext (Ext.trans e41 e44)).arr _ ((O42.ext e44).arr eS_len)).mono ?_
      rintro _ w52 ⟨a'46, n'47, c'48, rfl, N49, O50, e51⟩
      have E52 := (Ext.trans E45 e51)
      have lnO50 := O50.1
      conv => whnf
      refine (laws_eqStringS (O50.arr eS_len) ((O31.ext (Ext.trans (Ext.trans (Ext.trans e37 e41) e44) e51)).arr eS_len)).mono ?_
      rintro _ w54 ⟨rfl, e53⟩
      have E54 := (Ext.trans E52 e53)
      conv => whnf
      refine IfB.eqf (by simp; done) ?_
      conv => whnf
      refine IfB.eqf (by simp; done) ?_
      conv => whnf
      refine (hToA _ E54 (by omega)).mono ?_
      rintro _ w59 ⟨b55, rfl, q56, O57, e58⟩
      have E59 := (Ext.trans E54 e58)
      conv => whnf
      refine (laws_eqCardS (O36.ext (Ext.trans (Ext.trans (Ext.trans (Ext.trans e41 e44) e51) e53) e58)).arr O57.arr).mono ?_
      rintro _ w61 ⟨rfl, e60⟩
      have E61 := (Ext.trans E59 e60)
      conv => whnf
      refine IfB.eqf (by simp; done) ?_
      conv => whnf
      refine (laws_toStringS (h2.ext E61) (by omega)).mono ?_
      rintro _ w66 ⟨b62, rfl, q63, e64, O65⟩
      have E66 := (Ext.trans E61 e64)
      have lnO65 := O65.1
      conv => whnf
      refine (laws_eqStringS ((O42.ext (Ext.trans (Ext.trans (Ext.trans (Ext.trans (Ext.trans e44 e51) e53) e58) e60) e64)).arr eS_len) (O65.arr eS_len)).mono ?_
      rintro _ w68 ⟨rfl, e67⟩
      have E68 := (Ext.trans E66 e67)
      conv => whnf
      refine IfB.eqf (by simp; done) ?_
      conv => whnf
      refine (laws_markCardSN (k0 := 1) (O36.ext (Ext.trans (Ext.trans (Ext.trans (Ext.trans (Ext.trans (Ext.trans (Ext.trans e41 e44) e51) e53) e58) e60) e64) e67)) (by omega)).mono ?_
      rintro _ w71 ⟨rfl, m69, O70⟩
      have E71 := (Ext.mod_trans E68 m69 (fun k hk => Nat.le_trans (Below.size E33) hk.1))
      conv => whnf
      refine (laws_markStringS ((O42.ext (Ext.trans (Ext.trans (Ext.trans (Ext.trans (Ext.trans (Ext.trans e44 e51) e53) e58) e60) e64) e67)).mod m69 (ivNew (NewAt.some q40) (Nat.le_refl _))) (by omega)).mono ?_
      rintro _ w74 ⟨rfl, m72, O73⟩
      have E74 := (Ext.mod_trans E71 m72 (fun k hk => Nat.le_trans (Below.size E38) (blkIn_new (NewAt.some q40) k hk)))
      have lnO73 := O73.1
      conv => whnf
      refine (laws_eqStringS ((((O50.ext (Ext.trans (Ext.trans (Ext.trans (Ext.trans e53 e58) e60) e64) e67)).mod m69 (ivNew N49 (Below.size (Ext.trans e41 e44)))).mod m72 (apart' N49 O42.lt (Below.size e44))).arr eS_len) ((O31.ext (Ext.mod_trans (Ext.mod_trans (Ext.trans (Ext.trans (Ext.trans (Ext.trans (Ext.trans (Ext.trans (Ext.trans (Ext.trans e37 e41) e44) e51) e53) e58) e60) e64) e67) m69 (fun k hk => hk.1)) m72 (fun k hk => Nat.le_trans (Below.size e37) (blkIn_new (NewAt.some q40) k hk)))).arr eS_len)).mono ?_
      rintro _ w76 ⟨rfl, e75⟩
      have E76 := (Ext.trans E74 e75)
      conv => whnf
      refine IfB.eqf (by simp; done) ?_
      conv => whnf
      refine IfB.eqf (by simp; done) ?_
      conv => whnf
      refine (laws_markStringS (k0 := 1) ((((O50.ext (Ext.trans (Ext.trans (Ext.trans (Ext.trans e53 e58) e60) e64) e67)).mod m69 (ivNew N49 (Below.size (Ext.trans e41 e44)))).mod m72 (apart' N49 O42.lt (Below.size e44))).ext e75) (by omega)).mono ?_
      rintro _ w79 ⟨rfl, m77, O78⟩
      have E79 := (Ext.mod_trans E76 m77 (fun k hk => Nat.le_trans (Below.size E45) (blkIn_new N49 k hk)))
      have lnO78 := O78.1
      conv => whnf
      refine (laws_heldStringS (k0 := 1) (O78.arr eS_len) (by omega)).mono ?_
      rintro _ w81 ⟨rfl, e80⟩
      have E81 := (Ext.trans E79 e80)
      conv => whnf
      refine IfB.eqf (by simp; done) ?_
      conv => whnf
      refine DrawK.held tabok mixed [(0, false), (2, false), (4, false), (1, true), (3, true), (5, true), (6, true), (7, true), (8, false), (9, false), (10, true), (11, true)] (by kernel_rfl) (by kernel_rfl) ?_
      conv => whnf
      intro w82 e82
      conv => whnf
      refine DSemK.loadAgg (n := 2) (by kernel_rfl) (B3.ext (Ext.trans (Ext.mod_trans (Ext.trans (Ext.mod_trans (Ext.mod_trans (Ext.trans (Ext.trans (Ext.trans (Ext.trans (Ext.trans (Ext.trans (Ext.trans (Ext.trans (Ext.trans (Ext.trans (Ext.trans (Ext.trans (Ext.trans (Ext.trans (Ext.trans e6 e11) e14) e18) e20) e24) e32) e37) e41) e44) e51) e53) e58) e60) e64) e67) m69 (fun k hk => Nat.le_trans (Below.size (Ext.trans (Ext.trans (Ext.trans (Ext.trans (Ext.trans (Ext.trans e6 e11) e14) e18) e20) e24) e32)) hk.1)) m72 (fun k hk => Nat.le_trans (Below.size (Ext.trans (Ext.trans (Ext.trans (Ext.trans (Ext.trans (Ext.trans (Ext.trans e6 e11) e14) e18) e20) e24) e32) e37)) (blkIn_new (NewAt.some q40) k hk))) e75) m77 (fun k hk => Nat.le_trans (Below.size (Ext.trans (Ext.trans (Ext.trans (Ext.trans (Ext.trans (Ext.trans (Ext.trans (Ext.trans (Ext.trans e6 e11) e14) e18) e20) e24) e32) e37) e41) e44)) (blkIn_new N49 k hk))) e80)).cells rfl ?_
      conv => whnf
      refine (hToA _ (Ext.trans E81 e82) (by omega)).mono ?_
      rintro _ w87 ⟨b83, rfl, q84, O85, e86⟩
      have E87 := (Ext.trans (Ext.trans E81 e82) e86)
      conv => whnf
      refine ⟨(Ext.trans e82 e86), ?_⟩
      conv => whnf
      refine (laws_toField _ _).mono ?_
      rintro _ w89 ⟨rfl, e88⟩
      have E89 := (Ext.trans E87 e88)
      conv => whnf
      refine ⟨(Ext.trans (Ext.trans e82 e86) e88), ?_⟩
      conv => whnf
      refine (laws_toStringS (h2.ext E89) (by omega)).mono ?_
      rintro _ w94 ⟨b90, rfl, q91, e92, O93⟩
      have E94 := (Ext.trans E89 e92)
      have lnO93 := O93.1
      conv => whnf
      refine ⟨(Ext.trans (Ext.trans (Ext.trans e82 e86) e88) e92), ?_⟩
      conv => whnf
      refine (impl_MissingTexts (O85.ext (Ext.trans e88 e92)).arr _ (O93.arr eS_len)).mono ?_
      rintro _ w101 ⟨a'95, n'96, c'97, rfl, N98, O99, e100⟩
      have E101 := (Ext.trans E94 e100)
      have lnO99 := O99.1
      conv => whnf
      refine ⟨(Ext.trans (Ext.trans (Ext.trans (Ext.trans e82 e86) e88) e92) e100), ?_⟩
      conv => whnf
      refine (laws_eqStringS (O99.arr eS_len) ((O31.ext (Ext.trans (Ext.trans (Ext.trans (Ext.trans (Ext.trans (Ext.trans (Ext.mod_trans (Ext.trans (Ext.mod_trans (Ext.mod_trans (Ext.trans (Ext.trans (Ext.trans (Ext.trans (Ext.trans (Ext.trans (Ext.trans (Ext.trans e37 e41) e44) e51) e53) e58) e60) e64) e67) m69 (fun k hk => hk.1)) m72 (fun k hk => Nat.le_trans (Below.size e37) (blkIn_new (NewAt.some q40) k hk))) e75) m77 (fun k hk => Nat.le_trans (Below.size (Ext.trans (Ext.trans e37 e41) e44)) (blkIn_new N49 k hk))) e80) e82) e86) e88) e92) e100)).arr eS_len)).mono ?_
      rintro _ w103 ⟨rfl, e102⟩
      have E103 := (Ext.trans E101 e102)
      conv => whnf
      refine IfB.eqf (by simp; done) ?_
      conv => whnf
      refine IfB.eqf (by simp; done) ?_
      conv => whnf
      refine (laws_heldStringS (k0 := 1) ((O78.ext (Ext.trans (Ext.trans (Ext.trans (Ext.trans (Ext.trans (Ext.trans e80 e82) e86) e88) e92) e100) e102)).arr eS_len) (by omega)).mono ?_
      rintro _ w105 ⟨rfl, e104⟩
      have E105 := (Ext.trans E103 e104)
      conv => whnf
      refine IfB.eqf (by simp; done) ?_
      conv => whnf
      exact ⟨rfl, E105⟩
set_option maxRecDepth 100000 in
theorem open_MissingTexts {H : Type} {enc : TypeId × Value → H} {base : Nat} (W : World) (args : List Value) (ds : List (DataW H)) (p : List MemPlace) (hA : DataW.TrodAll enc Try.prog W 0 (fun _ => true) true (Try.f5).params.toList args ds p)
    (hv : ∀ (j : Nat) t v, (Try.f5).params[j]? = some t → args[j]? = some v → Value.okWide Try.prog W .any base t v) : Does Try.prog 5 args W (fun v w' => v = .bool true ∧ Ext W w') := by
  have e : (Try.f5).params.toList = [36, 38, 40] := rfl
  rw [e] at hA
  obtain ⟨v0, vs0, d0, ds0, p0, q0, rfl, rfl, rfl, g0, r0⟩ := trodAll_cons hA
  obtain ⟨v1, vs1, d1, ds1, p1, q1, rfl, rfl, rfl, g1, r1⟩ := trodAll_cons r0
  obtain ⟨v2, vs2, d2, ds2, p2, q2, rfl, rfl, rfl, g2, r2⟩ := trodAll_cons r1
  obtain ⟨rfl, rfl, rfl⟩ := trodAll_nil r2
  obtain ⟨a0, n0, c0, x0, rfl, h0, ok0⟩ := open_CardS W (hv 0 36 v0 (by rw [← Array.getElem?_toList, e]; rfl) rfl) g0
  obtain ⟨cs1, rfl, hf1⟩ := open_flat (ks := [false, false]) (by kernel_rfl) (hv 1 38 v1 (by rw [← Array.getElem?_toList, e]; rfl) rfl) g1
  obtain ⟨x1, rfl, ok1⟩ := TField.of_flat hf1
  obtain ⟨a2, n2, c2, x2, rfl, h2, ok2⟩ := open_arr (encα := eS) (ok := strok) (sz := 1) Try.underlying40 (by kernel_rfl) (by omega) (fun n cs x h => let ⟨n2, h1, _, h2⟩ := DataW.trod_string Try.underlying9 h; ⟨n2, h1, h2⟩) eS_len (hv 2 40 v2 (by rw [← Array.getElem?_toList, e]; rfl) rfl) g2
  exact law_MissingTexts h0 ok1 h2 ok2
set_option maxRecDepth 100000 in
theorem FnExactMissingTexts_lifted (os : Os) (started : os.Started) (H : Type) (enc : TypeId × Value → H) :
    ReturnsInHanded {} Try.checked os 5 .any (Rows.fnExactMissingTextsSpec.pre6 enc Try.prog Try.f5 Rows.fnExactMissingTextsRow.domain false) (Rows.fnExactMissingTextsSpec.post enc Try.prog Try.f5 false true false false) := by
  refine returnsInHanded_of_change (C := Try.checked) law_own started (by kernel_rfl) Try.func5
    (ChangeSpec.witness6 (enc := enc) (C := Try.checked) false ⟨#[], #[.slice none 0 0,.agg #[.int .i64 0, .int .i64 0],.slice none 0 0], []⟩ 8 (by kernel_rfl) (by kernel_rfl) (by kernel_rfl) (by kernel_rfl)) ?_
  intro W base args ds gs before hval hW _ _
  exact law_contract (P := Try.prog) (fn := Try.f5) (s := Rows.fnExactMissingTextsSpec) rfl rfl Try.underlying4 law_laid (by kernel_rfl)
    (fun ds h => match ds, h with | [d0, d1, d2], _ => ⟨rfl, rfl, rfl⟩) (fun W args ds p hA hv => open_MissingTexts W args ds p hA hv) W args ds gs before hval hW
theorem FnExactMissingTexts_holds : Rows.FnExactMissingTextsSaid :=
  OpenClaim.holds_of_wide 5 Try.f5 rfl rfl rfl rfl rfl rfl rfl ⟨rfl, rfl, rfl, rfl, rfl⟩ rfl rfl rfl rfl rfl (by kernel_rfl) Try.func5 (by kernel_rfl)
    (of_decide_eq_true (by kernel_rfl)) (by unfold Func.isWrapper; first | (rw [if_pos (by decide +kernel)]; kernel_rfl) | (rw [if_neg (by decide +kernel)]; exact ⟨rfl, rfl⟩))
    (fun os started H enc _ => FnExactMissingTexts_lifted os started H enc)

end Go.Proofs.Ytmhnmdcleeadiaa
