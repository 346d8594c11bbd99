/- The statement on the law MovesFrom is proved, as it is given: for every input the law returns true and each argument reads as before. No conditions. -/
import Derived.Test.YtkjmbjedbmblmaaGreatDoorMoveV
import Derived.Test.YtkjmbjedbmblmaaGreatDoorFItem
import Derived.Test.YtkjmbjedbmblmaaGreatDoorFMove
import Derived.Test.YtkjmbjedbmblmaaGreatDoorNestArg
import Derived.Test.YtkjmbjedbmblmaaGreatDoorVcApp
import Derived.Test.YtkjmbjedbmblmaaGreatDoorShelf
import Derived.Test.YtkjmbjedbmblmaaGreatDoorSeatMain
import Derived.Test.YtkjmbjedbmblmaaGreatDoorTie
import Derived.Test.YtkjmbjedbmblmaaGreatDoorCards
import Derived.Test.YtkjmbjedbmblmaaGreatDoorLiftBase
namespace Go.Proofs.YtkjmbjedbmblmaaGreatDoor
open Go Go.Shelf Go.Proofs Go.RowKit Go.Vc Go.M Go.ChangeShapes Go.WideShapes Go.ChangeAt
open Go.ChangeMaps (open_string)
set_option linter.unusedVariables false in
theorem law_MovesFrom {w : World} {a0 : Option Addr} {n0 c0 : Nat} {x0 : List TPart} (h0 : Arr TPart.enc 4 w a0 n0 x0) (ok0 : ∀ x ∈ x0, x.ok) {wd1 : Int} {a1 : Option Addr} {n1 c1 : Nat} {x1 : List TItem} (h1 : Arr TItem.enc 4 w a1 n1 x1) (ok1 : ∀ x ∈ x1, x.ok) {a2 : Option Addr} {n2 c2 : Nat} {x2 : List (List Int)} (h2 : ArrS RCard w a2 n2 x2)  (hT : Pow w) : Does Tryz.prog 4 [.slice a0 n0 c0, .agg #[.int .i64 wd1, .slice a1 n1 c1], .slice a2 n2 c2] w (fun v w' => v = .bool true ∧ Ext w w') := by
  have len0 := h0.len
  have len1 := h1.len
  have len2 := h2.len
  have hToA : ∀ u, Ext w u → n2 + wtAll wtCard x2 ≤ 1048576 → Does Tryz.prog 34 [.slice a2 n2 c2] u (fun v w' => ∃ b, v = .slice (some ⟨b, 0, none⟩) n2 n2 ∧ u.heap.size ≤ b ∧ OwnN OCard w' u.heap.size w'.heap.size (some ⟨b, 0, none⟩) n2 145 x2 ∧ Ext u w') := fun u e h => laws_toCardSO (h2.ext e) h
  have hlen := moves_len x0 wd1 x1 x2
  have hSzA := fun u (e : Ext w u) (left : Int) (hl0 : 0 ≤ left) (hl1 : left ≤ 1048576) => laws_szCardSE (c := c2) (h2.ext e) hl0 hl1
  refine Does.of_vc tabok Tryz.func4 rfl rfl rfl (by kernel_rfl) ?_; conv => whnf
  refine SemK.box ?_
  intro b3 w3 g3 l3 e3 B3
  conv => whnf
  refine (laws_szPartS (h0.ext e3) ok0 (by omega) (by omega)).mono ?_
  rintro _ w7 ⟨r4, rfl, q5, e6⟩
  have E7 := (Ext.trans e3 e6)
  conv => whnf
  with_reducible refine IfB.dec (fun h8 => ?_) (fun h8 => ?_)
  · conv => whnf
    exact ⟨rfl, E7⟩
  · conv => whnf
    refine SemK.loadAgg (n := 2) (by kernel_rfl) (B3.ext e6).cells rfl ?_
    conv => whnf
    refine (laws_szLayout (h1.ext E7) ok1 (by omega) (by omega)).mono ?_
    rintro _ w12 ⟨r9, rfl, q10, e11⟩
    have E12 := (Ext.trans E7 e11)
    conv => whnf
    with_reducible refine IfB.dec (fun h13 => ?_) (fun h13 => ?_)
    · conv => whnf
      exact ⟨rfl, E12⟩
    · conv => whnf
      refine (hSzA _ E12 _ (by omega) (by omega)).mono ?_
      rintro _ w17 ⟨r14, rfl, q15, e16⟩
      have E17 := (Ext.trans E12 e16)
      conv => whnf
      with_reducible refine IfB.dec (fun h18 => ?_) (fun h18 => ?_)
      · conv => whnf
        exact ⟨rfl, E17⟩
      · conv => whnf
        refine DrawK.held tabok mixed [(0, false), (2, false), (4, false), (1, true), (3, true), (5, true), (6, true), (7, true), (8, false), (9, false), (10, true), (11, true)] (by kernel_rfl) (by kernel_rfl) ?_
        conv => whnf
        intro w19 e19
        conv => whnf
        refine DSemK.loadAgg (n := 2) (by kernel_rfl) (B3.ext (Ext.trans (Ext.trans e6 e11) e16)).cells rfl ?_
        conv => whnf
        refine (laws_toPartS (h0.ext (Ext.trans E17 e19)) (by omega)).mono ?_
        rintro _ w24 ⟨b20, rfl, q21, e22, O23⟩
        have E24 := (Ext.trans (Ext.trans E17 e19) e22)
        have lnO23 := O23.1
        conv => whnf
        refine ⟨(Ext.trans e19 e22), ?_⟩
        conv => whnf
        refine (laws_toLayout (h1.ext E24) (by omega)).mono ?_
        rintro _ w29 ⟨b25, rfl, q26, e27, O28⟩
        have E29 := (Ext.trans E24 e27)
        have lnO28 := O28.1
        conv => whnf
        refine ⟨(Ext.trans (Ext.trans e19 e22) e27), ?_⟩
        conv => whnf
        refine (hToA _ E29 (by omega)).mono ?_
        rintro _ w34 ⟨b30, rfl, q31, O32, e33⟩
        have E34 := (Ext.trans E29 e33)
        conv => whnf
        refine ⟨(Ext.trans (Ext.trans (Ext.trans e19 e22) e27) e33), ?_⟩
        conv => whnf
        refine (spec_MovesFrom ((O23.ext (Ext.trans e27 e33)).arr TPart.enc_len) ok0 ((O28.ext e33).arr TItem.enc_len) ok1 O32.arr).mono ?_
        rintro _ w41 ⟨a'35, n'36, c'37, rfl, N38, O39, e40⟩
        have E41 := (Ext.trans E34 e40)
        have lnO39 := O39.1
        conv => whnf
        refine ⟨(Ext.trans (Ext.trans (Ext.trans (Ext.trans e19 e22) e27) e33) e40), ?_⟩
        conv => whnf
        refine (laws_toPartS (h0.ext E41) (by omega)).mono ?_
        rintro _ w46 ⟨b42, rfl, q43, e44, O45⟩
        have E46 := (Ext.trans E41 e44)
        have lnO45 := O45.1
        conv => whnf
        refine SemK.loadAgg (n := 2) (by kernel_rfl) (B3.ext (Ext.trans (Ext.trans (Ext.trans (Ext.trans (Ext.trans (Ext.trans (Ext.trans (Ext.trans e6 e11) e16) e19) e22) e27) e33) e40) e44)).cells rfl ?_
        conv => whnf
        refine (laws_toLayout (h1.ext E46) (by omega)).mono ?_
        rintro _ w51 ⟨b47, rfl, q48, e49, O50⟩
        have E51 := (Ext.trans E46 e49)
        have lnO50 := O50.1
        conv => whnf
        refine SemK.alloc (z := .agg #[.int .i64 0, .slice none 0 0]) (by kernel_rfl) ?_
        intro b52 w52 g52 l52 e52 B52
        conv => whnf
        refine SemK.storeAll (vs := [Value.int IntKind.i64 wd1, Value.slice (some { block := b47, off := 0 }) n1 n1]) (by kernel_rfl) B52 rfl rfl (by simp [cellish]) ?_
        intro w53 c53 B53
        conv => whnf
        refine (hToA _ (Ext.but_trans (Ext.trans E51 e52) c53.but (Nat.le_trans (Below.size E51) g52)) (by omega)).mono ?_
        rintro _ w58 ⟨b54, rfl, q55, O56, e57⟩
        have E58 := (Ext.trans (Ext.but_trans (Ext.trans E51 e52) c53.but (Nat.le_trans (Below.size E51) g52)) e57)
        conv => whnf
        refine SemK.loadAgg (n := 2) (by kernel_rfl) (B53.ext e57).cells rfl ?_
        conv => whnf
        refine (impl_MovesFrom ((O45.ext (Ext.trans (Ext.but_trans (Ext.trans e49 e52) c53.but (Nat.le_trans (Below.size e49) g52)) e57)).arr TPart.enc_len) ok0 (Nat.le_refl _) ((O50.ext (Ext.trans (Ext.but_trans e52 c53.but g52) e57)).arr TItem.enc_len) ok1 (Nat.le_refl _) O56.arr).mono ?_
        rintro _ w65 ⟨a'59, n'60, c'61, rfl, N62, O63, e64⟩
        have E65 := (Ext.trans E58 e64)
        have lnO63 := O63.1
        conv => whnf
        refine (laws_eqMoveS (O63.arr TMove.enc_len) ((O39.ext (Ext.trans (Ext.trans (Ext.but_trans (Ext.trans (Ext.trans e44 e49) e52) c53.but (Nat.le_trans (Below.size (Ext.trans e44 e49)) g52)) e57) e64)).arr TMove.enc_len)).mono ?_
        rintro _ w67 ⟨rfl, e66⟩
        have E67 := (Ext.trans E65 e66)
        conv => whnf
        refine IfB.eqf (by simp; done) ?_
        conv => whnf
        refine IfB.eqf (by simp; done) ?_
        conv => whnf
        refine (laws_toPartS (h0.ext E67) (by omega)).mono ?_
        rintro _ w72 ⟨b68, rfl, q69, e70, O71⟩
        have E72 := (Ext.trans E67 e70)
        have lnO71 := O71.1
        conv => whnf
        refine (laws_eqPartS ((O45.ext (Ext.trans (Ext.trans (Ext.trans (Ext.trans (Ext.but_trans (Ext.trans e49 e52) c53.but (Nat.le_trans (Below.size e49) g52)) e57) e64) e66) e70)).arr TPart.enc_len) (O71.arr TPart.enc_len)).mono ?_
        rintro _ w74 ⟨rfl, e73⟩
        have E74 := (Ext.trans E72 e73)
        conv => whnf
        refine IfB.eqf (by simp; done) ?_
        conv => whnf
        refine DrawK.held tabok mixed [(0, false), (1, true), (2, true), (3, true), (4, true)] (by kernel_rfl) (by kernel_rfl) ?_
        conv => whnf
        intro w75 e75
        conv => whnf
        refine DSemK.loadAgg (n := 2) (by kernel_rfl) (B53.ext (Ext.trans (Ext.trans (Ext.trans (Ext.trans e57 e64) e66) e70) e73)).cells rfl ?_
        conv => whnf
        refine SemK.loadAgg (n := 2) (by kernel_rfl) (B3.ext (Ext.trans (Ext.trans (Ext.trans (Ext.trans (Ext.trans (Ext.trans (Ext.but_trans (Ext.trans (Ext.trans (Ext.trans (Ext.trans (Ext.trans (Ext.trans (Ext.trans (Ext.trans (Ext.trans (Ext.trans e6 e11) e16) e19) e22) e27) e33) e40) e44) e49) e52) c53.but (Nat.le_trans (Below.size (Ext.trans (Ext.trans (Ext.trans (Ext.trans (Ext.trans (Ext.trans (Ext.trans (Ext.trans (Ext.trans e6 e11) e16) e19) e22) e27) e33) e40) e44) e49)) g52)) e57) e64) e66) e70) e73) e75)).cells rfl ?_
        conv => whnf
        refine ⟨e75, ?_⟩
        conv => whnf
        refine (laws_toLayout (h1.ext (Ext.trans E74 e75)) (by omega)).mono ?_
        rintro _ w80 ⟨b76, rfl, q77, e78, O79⟩
        have E80 := (Ext.trans (Ext.trans E74 e75) e78)
        have lnO79 := O79.1
        conv => whnf
        refine ⟨(Ext.trans e75 e78), ?_⟩
        conv => whnf
        refine (laws_eqLayout ((O50.ext (Ext.trans (Ext.trans (Ext.trans (Ext.trans (Ext.trans (Ext.trans (Ext.trans (Ext.but_trans e52 c53.but g52) e57) e64) e66) e70) e73) e75) e78)).arr TItem.enc_len) (O79.arr TItem.enc_len)).mono ?_
        rintro _ w82 ⟨rfl, e81⟩
        have E82 := (Ext.trans E80 e81)
        conv => whnf
        refine ⟨(Ext.trans (Ext.trans e75 e78) e81), ?_⟩
        conv => whnf
        refine IfB.eqf (by simp; done) ?_
        conv => whnf
        refine (hToA _ E82 (by omega)).mono ?_
        rintro _ w87 ⟨b83, rfl, q84, O85, e86⟩
        have E87 := (Ext.trans E82 e86)
        conv => whnf
        refine (laws_eqCardS (O56.ext (Ext.trans (Ext.trans (Ext.trans (Ext.trans (Ext.trans (Ext.trans (Ext.trans e64 e66) e70) e73) e75) e78) e81) e86)).arr O85.arr).mono ?_
        rintro _ w89 ⟨rfl, e88⟩
        have E89 := (Ext.trans E87 e88)
        conv => whnf
        refine IfB.eqf (by simp; done) ?_
        conv => whnf
        refine (laws_markPartS (k0 := 1) (O45.ext (Ext.trans (Ext.trans (Ext.trans (Ext.trans (Ext.trans (Ext.trans (Ext.trans (Ext.trans (Ext.trans (Ext.trans (Ext.but_trans (Ext.trans e49 e52) c53.but (Nat.le_trans (Below.size e49) g52)) e57) e64) e66) e70) e73) e75) e78) e81) e86) e88)) (by omega)).mono ?_
        rintro _ w92 ⟨rfl, m90, O91⟩
        have E92 := (Ext.mod_trans E89 m90 (fun k hk => Nat.le_trans (Below.size E41) (blkIn_new (NewAt.some q43) k hk)))
        have lnO91 := O91.1
        conv => whnf
        refine SemK.loadAgg (n := 2) (by kernel_rfl) ((B53.ext (Ext.trans (Ext.trans (Ext.trans (Ext.trans (Ext.trans (Ext.trans (Ext.trans (Ext.trans (Ext.trans e57 e64) e66) e70) e73) e75) e78) e81) e86) e88)).mod m90 (blkNew O45.lt g52 (Below.size e49))).cells rfl ?_
        conv => whnf
        refine (laws_markLayout ((O50.ext (Ext.trans (Ext.trans (Ext.trans (Ext.trans (Ext.trans (Ext.trans (Ext.trans (Ext.trans (Ext.trans (Ext.trans (Ext.but_trans e52 c53.but g52) e57) e64) e66) e70) e73) e75) e78) e81) e86) e88)).mod m90 (apart' (NewAt.some q48) O45.lt (Nat.le_refl _))) (by omega)).mono ?_
        rintro _ w95 ⟨rfl, m93, O94⟩
        have E95 := (Ext.mod_trans E92 m93 (fun k hk => Nat.le_trans (Below.size E46) (blkIn_new (NewAt.some q48) k hk)))
        have lnO94 := O94.1
        conv => whnf
        refine (laws_markCardSN (((O56.ext (Ext.trans (Ext.trans (Ext.trans (Ext.trans (Ext.trans (Ext.trans (Ext.trans (Ext.trans e64 e66) e70) e73) e75) e78) e81) e86) e88)).mod m90 (blk_newer O45.lt (Below.size (Ext.but_trans (Ext.trans e49 e52) c53.but (Nat.le_trans (Below.size e49) g52))))).mod m93 (blk_newer O50.lt (Below.size (Ext.but_trans e52 c53.but g52)))) (by omega)).mono ?_
        rintro _ w101 ⟨rfl, m99, O100⟩
        have E101 := (Ext.mod_trans E95 m99 (fun k hk => Nat.le_trans (Below.size (Ext.but_trans (Ext.trans E51 e52) c53.but (Nat.le_trans (Below.size E51) g52))) hk.1))
        conv => whnf
        refine (laws_eqMoveS (((((O63.ext (Ext.trans (Ext.trans (Ext.trans (Ext.trans (Ext.trans (Ext.trans (Ext.trans e66 e70) e73) e75) e78) e81) e86) e88)).mod m90 (apart' N62 O45.lt (Below.size (Ext.trans (Ext.but_trans (Ext.trans e49 e52) c53.but (Nat.le_trans (Below.size e49) g52)) e57)))).mod m93 (apart' N62 O50.lt (Below.size (Ext.trans (Ext.but_trans e52 c53.but g52) e57)))).mod m99 (ivNew N62 (Nat.le_refl _))).arr TMove.enc_len) ((O39.ext (Ext.mod_trans (Ext.mod_trans (Ext.mod_trans (Ext.trans (Ext.trans (Ext.trans (Ext.trans (Ext.trans (Ext.trans (Ext.trans (Ext.trans (Ext.trans (Ext.trans (Ext.but_trans (Ext.trans (Ext.trans e44 e49) e52) c53.but (Nat.le_trans (Below.size (Ext.trans e44 e49)) g52)) e57) e64) e66) e70) e73) e75) e78) e81) e86) e88) m90 (blkIn_new (NewAt.some q43))) m93 (fun k hk => Nat.le_trans (Below.size e44) (blkIn_new (NewAt.some q48) k hk))) m99 (fun k hk => Nat.le_trans (Below.size (Ext.but_trans (Ext.trans (Ext.trans e44 e49) e52) c53.but (Nat.le_trans (Below.size (Ext.trans e44 e49)) g52))) hk.1))).arr TMove.enc_len)).mono ?_
        rintro _ w103 ⟨rfl, e102⟩
        have E103 := (Ext.trans E101 e102)
        conv => whnf
        refine IfB.eqf (by simp; done) ?_
        conv => whnf
        refine IfB.eqf (by simp; done) ?_
        conv => whnf
        refine (laws_markMoveS (k0 := 1) (((((O63.ext (Ext.trans (Ext.trans (Ext.trans (Ext.trans (Ext.trans (Ext.trans (Ext.trans e66 e70) e73) e75) e78) e81) e86) e88)).mod m90 (apart' N62 O45.lt (Below.size (Ext.trans (Ext.but_trans (Ext.trans e49 e52) c53.but (Nat.le_trans (Below.size e49) g52)) e57)))).mod m93 (apart' N62 O50.lt (Below.size (Ext.trans (Ext.but_trans e52 c53.but g52) e57)))).mod m99 (ivNew N62 (Nat.le_refl _))).ext e102) (by omega)).mono ?_
        rintro _ w106 ⟨rfl, m104, O105⟩
        have E106 := (Ext.mod_trans E103 m104 (fun k hk => Nat.le_trans (Below.size E58) (blkIn_new N62 k hk)))
        have lnO105 := O105.1
        conv => whnf
        refine (laws_heldMoveS (k0 := 1) (O105.arr TMove.enc_len) (by omega)).mono ?_
        rintro _ w108 ⟨rfl, e107⟩
        have E108 := (Ext.trans E106 e107)
        conv => whnf
        refine IfB.eqf (by simp; done) ?_
        conv => whnf
        refine DrawK.held tabok mixed [(0, false), (2, false), (4, false), (1, true), (3, true), (5, true), (6, true), (7, true), (8, false), (9, false), (10, true), (11, true)] (by kernel_rfl) (by kernel_rfl) ?_
        conv => whnf
        intro w109 e109
        conv => whnf
        refine DSemK.loadAgg (n := 2) (by kernel_rfl) (B3.ext (Ext.trans (Ext.mod_trans (Ext.trans (Ext.mod_trans (Ext.mod_trans (Ext.mod_trans (Ext.trans (Ext.trans (Ext.trans (Ext.trans (Ext.trans (Ext.trans (Ext.trans (Ext.trans (Ext.trans (Ext.trans (Ext.but_trans (Ext.trans (Ext.trans (Ext.trans (Ext.trans (Ext.trans (Ext.trans (Ext.trans (Ext.trans (Ext.trans (Ext.trans e6 e11) e16) e19) e22) e27) e33) e40) e44) e49) e52) c53.but (Nat.le_trans (Below.size (Ext.trans (Ext.trans (Ext.trans (Ext.trans (Ext.trans (Ext.trans (Ext.trans (Ext.trans (Ext.trans e6 e11) e16) e19) e22) e27) e33) e40) e44) e49)) g52)) e57) e64) e66) e70) e73) e75) e78) e81) e86) e88) m90 (fun k hk => Nat.le_trans (Below.size (Ext.trans (Ext.trans (Ext.trans (Ext.trans (Ext.trans (Ext.trans (Ext.trans e6 e11) e16) e19) e22) e27) e33) e40)) (blkIn_new (NewAt.some q43) k hk))) m93 (fun k hk => Nat.le_trans (Below.size (Ext.trans (Ext.trans (Ext.trans (Ext.trans (Ext.trans (Ext.trans (Ext.trans (Ext.trans e6 e11) e16) e19) e22) e27) e33) e40) e44)) (blkIn_new (NewAt.some q48) k hk))) m99 (fun k hk => Nat.le_trans (Below.size (Ext.but_trans (Ext.trans (Ext.trans (Ext.trans (Ext.trans (Ext.trans (Ext.trans (Ext.trans (Ext.trans (Ext.trans (Ext.trans e6 e11) e16) e19) e22) e27) e33) e40) e44) e49) e52) c53.but (Nat.le_trans (Below.size (Ext.trans (Ext.trans (Ext.trans (Ext.trans (Ext.trans (Ext.trans (Ext.trans (Ext.trans (Ext.trans e6 e11) e16) e19) e22) e27) e33) e40) e44) e49)) g52))) hk.1)) e102) m104 (fun k hk => Nat.le_trans (Below.size (Ext.trans (Ext.but_trans (Ext.trans (Ext.trans (Ext.trans (Ext.trans (Ext.trans (Ext.trans (Ext.trans (Ext.trans (Ext.trans (Ext.trans e6 e11) e16) e19) e22) e27) e33) e40) e44) e49) e52) c53.but (Nat.le_trans (Below.size (Ext.trans (Ext.trans (Ext.trans (Ext.trans (Ext.trans (Ext.trans (Ext.trans (Ext.trans (Ext.trans e6 e11) e16) e19) e22) e27) e33) e40) e44) e49)) g52)) e57)) (blkIn_new N62 k hk))) e107)).cells rfl ?_
        conv => whnf
        refine (laws_toPartS (h0.ext (Ext.trans E108 e109)) (by omega)).mono ?_
        rintro _ w114 ⟨b110, rfl, q111, e112, O113⟩
        have E114 := (Ext.trans (Ext.trans E108 e109) e112)
        have lnO113 := O113.1
        conv => whnf
        refine ⟨(Ext.trans e109 e112), ?_⟩
        conv => whnf
        refine (laws_toLayout (h1.ext E114) (by omega)).mono ?_
        rintro _ w119 ⟨b115, rfl, q116, e117, O118⟩
        have E119 := (Ext.trans E114 e117)
        have lnO118 := O118.1
        conv => whnf
        refine ⟨(Ext.trans (Ext.trans e109 e112) e117), ?_⟩
        conv => whnf
        refine (hToA _ E119 (by omega)).mono ?_
        rintro _ w124 ⟨b120, rfl, q121, O122, e123⟩
        have E124 := (Ext.trans E119 e123)
        conv => whnf
        refine ⟨(Ext.trans (Ext.trans (Ext.trans e109 e112) e117) e123), ?_⟩
        conv => whnf
        refine (impl_MovesFrom ((O113.ext (Ext.trans e117 e123)).arr TPart.enc_len) ok0 (Nat.le_refl _) ((O118.ext e123).arr TItem.enc_len) ok1 (Nat.le_refl _) O122.arr).mono ?_
        rintro _ w131 ⟨a'125, n'126, c'127, rfl, N128, O129, e130⟩
        have E131 := (Ext.trans E124 e130)
        have lnO129 := O129.1
        conv => whnf
        refine ⟨(Ext.trans (Ext.trans (Ext.trans (Ext.trans e109 e112) e117) e123) e130), ?_⟩
        conv => whnf
        refine (laws_eqMoveS (O129.arr TMove.enc_len) ((O39.ext (Ext.trans (Ext.trans (Ext.trans (Ext.trans (Ext.trans (Ext.trans (Ext.mod_trans (Ext.trans (Ext.mod_trans (Ext.mod_trans (Ext.mod_trans (Ext.trans (Ext.trans (Ext.trans (Ext.trans (Ext.trans (Ext.trans (Ext.trans (Ext.trans (Ext.trans (Ext.trans (Ext.but_trans (Ext.trans (Ext.trans e44 e49) e52) c53.but (Nat.le_trans (Below.size (Ext.trans e44 e49)) g52)) e57) e64) e66) e70) e73) e75) e78) e81) e86) e88) m90 (blkIn_new (NewAt.some q43))) m93 (fun k hk => Nat.le_trans (Below.size e44) (blkIn_new (NewAt.some q48) k hk))) m99 (fun k hk => Nat.le_trans (Below.size (Ext.but_trans (Ext.trans (Ext.trans e44 e49) e52) c53.but (Nat.le_trans (Below.size (Ext.trans e44 e49)) g52))) hk.1)) e102) m104 (fun k hk => Nat.le_trans (Below.size (Ext.trans (Ext.but_trans (Ext.trans (Ext.trans e44 e49) e52) c53.but (Nat.le_trans (Below.size (Ext.trans e44 e49)) g52)) e57)) (blkIn_new N62 k hk))) e107) e109) e112) e117) e123) e130)).arr TMove.enc_len)).mono ?_
        rintro _ w133 ⟨rfl, e132⟩
        have E133 := (Ext.trans E131 e132)
        conv => whnf
        refine IfB.eqf (by simp; done) ?_
        conv => whnf
        refine IfB.eqf (by simp; done) ?_
        conv => whnf
        refine (laws_heldMoveS (k0 := 1) ((O105.ext (Ext.trans (Ext.trans (Ext.trans (Ext.trans (Ext.trans (Ext.trans e107 e109) e112) e117) e123) e130) e132)).arr TMove.enc_len) (by omega)).mono ?_
        rintro _ w135 ⟨rfl, e134⟩
        have E135 := (Ext.trans E133 e134)
        conv => whnf
        refine IfB.eqf (by simp; done) ?_
        conv => whnf
        exact ⟨rfl, E135⟩
set_option maxRecDepth 100000 in
theorem open_MovesFrom {H : Type} {enc : TypeId × Value → H} {base : Nat} (W : World) (args : List Value) (ds : List (DataW H)) (p : List MemPlace) (hA : DataW.TrodAll enc Tryz.prog W 0 (fun _ => true) true (Tryz.f4).params.toList args ds p)
    (hv : ∀ (j : Nat) t v, (Tryz.f4).params[j]? = some t → args[j]? = some v → Value.okWide Tryz.prog W .any base t v) (hL : laidMet Tryz.prog Rows.fnExactMovesFromRow.laid W) (_hsh : W.ShapedOpen Tryz.prog) : Does Tryz.prog 4 args W (fun v w' => v = .bool true ∧ Ext W w') := by
  have e : (Tryz.f4).params.toList = [52, 55, 56] := rfl
  rw [e] at hA
  obtain ⟨v0, vs0, d0, ds0, p0, q0, rfl, rfl, rfl, g0, r0⟩ := trodAll_cons hA
  obtain ⟨v1, vs1, d1, ds1, p1, q1, rfl, rfl, rfl, g1, r1⟩ := trodAll_cons r0
  obtain ⟨v2, vs2, d2, ds2, p2, q2, rfl, rfl, rfl, g2, r2⟩ := trodAll_cons r1
  obtain ⟨rfl, rfl, rfl⟩ := trodAll_nil r2
  obtain ⟨a0, n0, c0, x0, rfl, h0, ok0⟩ := open_arr (encα := TPart.enc) (ok := TPart.ok) (sz := 4) Tryz.underlying52 (by kernel_rfl) (by omega) (fun n cs x h => TPart.of_flat (trod_flat (ks := [true, false, false, false]) (by kernel_rfl) h)) TPart.enc_len (hv 0 52 v0 (by rw [← Array.getElem?_toList, e]; rfl) rfl) g0
  obtain ⟨wd1, a1, n1, c1, x1, rfl, h1, ok1⟩ := open_aLayout W (hv 1 55 v1 (by rw [← Array.getElem?_toList, e]; rfl) rfl) g1
  obtain ⟨a2, n2, c2, x2, rfl, h2, ok2⟩ := open_CardS W (hv 2 56 v2 (by rw [← Array.getElem?_toList, e]; rfl) rfl) g2
  exact law_MovesFrom h0 ok0 h1 ok1 h2 (Pow.of_laid hL.tail.tail)
set_option maxRecDepth 100000 in
theorem FnExactMovesFrom_lifted (os : Os) (started : os.Started) (H : Type) (enc : TypeId × Value → H) (F : Stop.Interp) :
    ReturnsInHanded {} Tryz.checked os 4 .any ((OpenSpec.ofChange Rows.fnExactMovesFromSpec).preRow enc Tryz.prog Tryz.f4 Rows.fnExactMovesFromRow.domain false Rows.fnExactMovesFromRow.laid) (((OpenSpec.ofChange Rows.fnExactMovesFromSpec).at F).post enc Tryz.prog Tryz.f4 false true false false) := by
  refine returnsInHanded_of_row (C := Tryz.checked) (s := OpenSpec.ofChange Rows.fnExactMovesFromSpec) law_own started (by kernel_rfl) Tryz.func4
    (witness_row_sh (enc := enc) (C := Tryz.checked) (World.laidAll Tryz.prog os Rows.fnExactMovesFromRow.laid) #[.slice none 0 0,.agg #[.int .i64 0, .slice none 0 0],.slice none 0 0] 8 (World.laidAll_os _ _ _) (World.shaped_of_ZipB (by kernel_rfl) (by kernel_rfl)) (by kernel_rfl) (by kernel_rfl) (by kernel_rfl)
      (by rw [MakeChecks.laidMetH_plain _ _ _ (by kernel_rfl)]; exact laidMet_laidAll _ (by kernel_rfl) (by kernel_rfl))) ?_
  intro W base args ds gs before hval hW _ _ _ hL hsh _
  rw [MakeChecks.laidMetH_plain _ _ _ (by kernel_rfl)] at hL
  exact law_contract_at (P := Tryz.prog) (fn := Tryz.f4) (s := Rows.fnExactMovesFromSpec) rfl rfl Tryz.underlying4 law_laid (by kernel_rfl)
    (fun ds h => match ds, h with | [d0, d1, d2], _ => ⟨rfl, rfl, rfl⟩) W args ds gs before (fun p hA hv => open_MovesFrom W args.toList ds p hA hv hL hsh) hval hW
theorem FnExactMovesFrom_closed : joinedFacts Tryz.prog 4 Tryz.f4 (OpenSpec.ofChange Rows.fnExactMovesFromSpec).bare Rows.fnExactMovesFromRow = true := by
  unfold joinedFacts
  exact andI (andI (andI (andI (andI (andI (andI (andI (by kernel_rfl) seat_heard) seat_enter) seat_lifts) seat_make) (by kernel_rfl)) (by kernel_rfl)) (by kernel_rfl)) (by kernel_rfl)
theorem FnExactMovesFrom_named : Tryz.prog.funcNamed Rows.fnExactMovesFromRow.func = some 4 := by kernel_rfl
theorem FnExactMovesFrom_row : Rows.FnExactMovesFromSaid :=
  OpenClaim.holds_of_cond 4 Tryz.f4 rfl rfl rfl rfl rfl rfl rfl ⟨rfl, rfl, rfl, rfl, rfl⟩ rfl rfl rfl rfl rfl FnExactMovesFrom_named Tryz.func4 FnExactMovesFrom_closed
    (of_decide_eq_true (by kernel_rfl)) (by unfold Func.isWrapper; first | (rw [if_pos (by decide +kernel)]; kernel_rfl) | (rw [if_neg (by decide +kernel)]; exact ⟨rfl, rfl⟩))
    (fun os started H enc _ F => by rw [OpenClaim.pre_eq_preRow]; exact FnExactMovesFrom_lifted os started H enc F)
theorem FnExactMovesFrom_goes : false = Rows.fnExactMovesFromRow.goesBy Tryz.pinned.checked.prog := by kernel_rfl
theorem FnExactMovesFrom_wf : Rows.fnExactMovesFromRow.wfByText (OpenSpec.ofChange Rows.fnExactMovesFromSpec) = true := by kernel_rfl
theorem FnExactMovesFrom_plain (f : FuncId) (fn : Func) (hf : Tryz.pinned.checked.prog.funcNamed Rows.fnExactMovesFromRow.func = some f) (hfn : Tryz.pinned.checked.prog.funcs[f]? = some fn) :
    true = Tryz.pinned.checked.prog.looks [] ∧ ∀ (j : Nat) t, fn.params[j]? = some t → Tryz.pinned.checked.prog.wantsStandIn t = false := by
  obtain rfl : f = 4 := Option.some.inj (FnExactMovesFrom_named.symm.trans hf) |>.symm
  obtain rfl : fn = Tryz.f4 := (Option.some.inj (Tryz.func4.symm.trans hfn)).symm
  refine ⟨seat_looks, fun j t ht => ?_⟩
  have hall : (Tryz.f4.params.toList.all fun u => !Tryz.prog.wantsStandIn u) = true := by kernel_rfl
  exact (show Tryz.prog.wantsStandIn t = false by simpa using List.all_eq_true.1 hall t (by simpa using Array.mem_of_getElem? ht))
theorem FnExactMovesFrom_holds : Rows.FnExactMovesFromCardSaid :=
  Claim7.holds_tied_plain_at .later [] _ _ _ _ FnExactMovesFrom_row (fun _ h => by cases h) FnExactMovesFrom_wf (fun _ h => by cases h) fnExactMovesFrom_row_tie rfl ⟨rfl, rfl⟩ seat_main rfl FnExactMovesFrom_plain FnExactMovesFrom_goes

end Go.Proofs.YtkjmbjedbmblmaaGreatDoor
