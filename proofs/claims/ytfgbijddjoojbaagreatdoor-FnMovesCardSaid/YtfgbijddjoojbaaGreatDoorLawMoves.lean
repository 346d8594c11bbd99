/- The statement on the law Moves is proved, as it is given: for every input the law returns true and each argument reads as before. No conditions. -/
import Derived.Test.YtfgbijddjoojbaaGreatDoorDeckM
import Derived.Test.YtfgbijddjoojbaaGreatDoorMovesL
import Derived.Test.YtfgbijddjoojbaaGreatDoorMoveV
import Derived.Test.YtfgbijddjoojbaaGreatDoorReadP
import Derived.Test.YtfgbijddjoojbaaGreatDoorVcApp
import Derived.Test.YtfgbijddjoojbaaGreatDoorBasics
import Derived.Test.YtfgbijddjoojbaaGreatDoorShelf
import Derived.Test.YtfgbijddjoojbaaGreatDoorSeatMain
import Derived.Test.YtfgbijddjoojbaaGreatDoorTie
import Derived.Test.YtfgbijddjoojbaaGreatDoorCards
import Derived.Test.YtfgbijddjoojbaaGreatDoorLiftBase
namespace Go.Proofs.YtfgbijddjoojbaaGreatDoor
open Go Go.Shelf Go.Proofs Go.RowKit Go.Vc Go.M Go.ChangeShapes Go.WideShapes Go.ChangeAt
open Go.ChangeMaps (open_string)
set_option maxRecDepth 100000 in
set_option linter.unusedVariables false in
theorem law_Moves {w : World} {a0 : Option Addr} {n0 c0 : Nat} {x0 : List UInt8} (h0 : Arr eB 1 w a0 n0 x0) (hT : Pow w) (hE : Errs w) (hM : MaxL w) : Does Tryz.prog 4 [.slice a0 n0 c0] w (fun v w' => v = .bool true ∧ Ext w w') := by
  have len0 := h0.len
  have hRd := fun s => readParts_ok s
  have hPs := fun xs => partsText_size xs
  refine Does.of_vc tabok Tryz.func4 rfl rfl rfl (by kernel_rfl) ?_; conv => whnf
  refine (laws_f6big _ _ _ _).mono ?_
  rintro _ _ ⟨rfl, rfl⟩
  conv => whnf
  with_reducible refine IfB.dec (fun h1 => ?_) (fun h1 => ?_)
  · conv => whnf
    exact ⟨rfl, Ext.refl _⟩
  · conv => whnf
    refine (spec_DrawApplyMoves h0).mono ?_
    rintro _ w19 ⟨a'2, n'3, c'4, xs5, a26, n27, c28, ms9, rfl, q10, q11, q12, q13, q14, q15, O16, O17, e18⟩
    conv => whnf
    refine (impl_ApplyMoves (O16.arr TPart.enc_len) q12 q11 (O17.arr TMove.enc_len)).mono ?_
    rintro _ w26 ⟨a'20, n'21, c'22, rfl, N23, O24, e25⟩
    conv => whnf
    refine (spec_ApplyMoves ((O16.ext e25).arr TPart.enc_len) q12 ((O17.ext e25).arr TMove.enc_len)).mono ?_
    rintro _ w33 ⟨a'27, n'28, c'29, rfl, N30, O31, e32⟩
    conv => whnf
    refine (spec_DrawApplyMove (h0.ext (Ext.trans (Ext.trans e18 e25) e32))).mono ?_
    rintro _ w46 ⟨a'34, n'35, c'36, xs37, m38, rfl, q39, q40, q41, q42, N43, O44, e45⟩
    conv => whnf
    refine SemK.alloc (z := .agg #[.int .i64 0, .int .i64 0]) (by kernel_rfl) ?_
    intro b47 w47 g47 l47 e47 B47
    conv => whnf
    refine SemK.storeAll (by kernel_rfl) B47 (vs := m38.enc) rfl rfl (by simp [TMove.enc, cellish]) ?_
    intro w48 c48 B48
    conv => whnf
    refine SemK.loadAgg (n := 2) (by kernel_rfl) B48.cells rfl ?_
    conv => whnf
    refine (impl_ApplyMoveC ((O44.ext (Ext.but_trans e47 c48.but g47)).arr TPart.enc_len) q41 q40 _).mono ?_
    rintro _ w55 ⟨a'49, n'50, c'51, rfl, L52, N52, O53, e54⟩
    conv => whnf
    refine SemK.loadAgg (n := 2) (by kernel_rfl) (B48.ext e54).cells rfl ?_
    conv => whnf
    refine (spec_ApplyMove ((O44.ext (Ext.trans (Ext.but_trans e47 c48.but g47) e54)).arr TPart.enc_len) q41 _).mono ?_
    rintro _ w62 ⟨a'56, n'57, c'58, rfl, N59, O60, e61⟩
    conv => whnf
    refine (spec_DrawMovesFrom (h0.ext (Ext.trans (Ext.trans (Ext.but_trans (Ext.trans (Ext.trans (Ext.trans (Ext.trans e18 e25) e32) e45) e47) c48.but (Nat.le_trans (Below.size (Ext.trans (Ext.trans (Ext.trans e18 e25) e32) e45)) g47)) e54) e61))).mono ?_
    rintro _ w85 ⟨a163, n164, c165, ps66, wd67, a268, n269, c270, its71, a372, n373, c374, d75, rfl, q76, q77, q78, q79, q80, A81, A82, A83, e84⟩
    conv => whnf
    refine SemK.alloc (z := .agg #[.int .i64 0, .slice none 0 0]) (by kernel_rfl) ?_
    intro b86 w86 g86 l86 e86 B86
    conv => whnf
    refine SemK.storeAll (vs := [Value.int IntKind.i64 wd67, Value.slice a268 n269 c270]) (by kernel_rfl) B86 rfl rfl (by simp [cellish]) ?_
    intro w87 c87 B87
    conv => whnf
    refine SemK.loadAgg (n := 2) (by kernel_rfl) B87.cells rfl ?_
    conv => whnf
    refine (impl_MovesFrom (A81.ext (Ext.but_trans e86 c87.but g86)) q78 q77 (A82.ext (Ext.but_trans e86 c87.but g86)) q80 q79 (A83.ext (Ext.but_trans e86 c87.but g86))).mono ?_
    rintro _ w94 ⟨a'88, n'89, c'90, rfl, N91, O92, e93⟩
    conv => whnf
    refine SemK.loadAgg (n := 2) (by kernel_rfl) (B87.ext e93).cells rfl ?_
    conv => whnf
    refine (spec_MovesFrom (A81.ext (Ext.trans (Ext.but_trans e86 c87.but g86) e93)) q78 (A82.ext (Ext.trans (Ext.but_trans e86 c87.but g86) e93)) q80 (A83.ext (Ext.trans (Ext.but_trans e86 c87.but g86) e93))).mono ?_
    rintro _ w101 ⟨a'95, n'96, c'97, rfl, N98, O99, e100⟩
    conv => whnf
    refine (spec_DrawPartsText (h0.ext (Ext.trans (Ext.trans (Ext.but_trans (Ext.trans (Ext.trans (Ext.trans (Ext.trans (Ext.but_trans (Ext.trans (Ext.trans (Ext.trans (Ext.trans e18 e25) e32) e45) e47) c48.but (Nat.le_trans (Below.size (Ext.trans (Ext.trans (Ext.trans e18 e25) e32) e45)) g47)) e54) e61) e84) e86) c87.but (Nat.le_trans (Below.size (Ext.trans (Ext.trans (Ext.trans (Ext.but_trans (Ext.trans (Ext.trans (Ext.trans (Ext.trans e18 e25) e32) e45) e47) c48.but (Nat.le_trans (Below.size (Ext.trans (Ext.trans (Ext.trans e18 e25) e32) e45)) g47)) e54) e61) e84)) g86)) e93) e100))).mono ?_
    rintro _ w112 ⟨a'102, n'103, c'104, xs105, rfl, q106, q107, q108, N109, O110, e111⟩
    conv => whnf
    refine (impl_PartsText (O110.arr TPart.enc_len) q108 q107 (hT.ext (Ext.trans (Ext.trans (Ext.trans (Ext.but_trans (Ext.trans (Ext.trans (Ext.trans (Ext.trans (Ext.but_trans (Ext.trans (Ext.trans (Ext.trans (Ext.trans e18 e25) e32) e45) e47) c48.but (Nat.le_trans (Below.size (Ext.trans (Ext.trans (Ext.trans e18 e25) e32) e45)) g47)) e54) e61) e84) e86) c87.but (Nat.le_trans (Below.size (Ext.trans (Ext.trans (Ext.trans (Ext.but_trans (Ext.trans (Ext.trans (Ext.trans (Ext.trans e18 e25) e32) e45) e47) c48.but (Nat.le_trans (Below.size (Ext.trans (Ext.trans (Ext.trans e18 e25) e32) e45)) g47)) e54) e61) e84)) g86)) e93) e100) e111))).mono ?_
    rintro _ w114 ⟨rfl, e113⟩
    conv => whnf
    refine (impl_ReadParts (by have := partsText_size xs105; omega) (hT.ext (Ext.trans (Ext.trans (Ext.trans (Ext.trans (Ext.but_trans (Ext.trans (Ext.trans (Ext.trans (Ext.trans (Ext.but_trans (Ext.trans (Ext.trans (Ext.trans (Ext.trans e18 e25) e32) e45) e47) c48.but (Nat.le_trans (Below.size (Ext.trans (Ext.trans (Ext.trans e18 e25) e32) e45)) g47)) e54) e61) e84) e86) c87.but (Nat.le_trans (Below.size (Ext.trans (Ext.trans (Ext.trans (Ext.but_trans (Ext.trans (Ext.trans (Ext.trans (Ext.trans e18 e25) e32) e45) e47) c48.but (Nat.le_trans (Below.size (Ext.trans (Ext.trans (Ext.trans e18 e25) e32) e45)) g47)) e54) e61) e84)) g86)) e93) e100) e111) e113)) (hE.ext (Ext.trans (Ext.trans (Ext.trans (Ext.trans (Ext.but_trans (Ext.trans (Ext.trans (Ext.trans (Ext.trans (Ext.but_trans (Ext.trans (Ext.trans (Ext.trans (Ext.trans e18 e25) e32) e45) e47) c48.but (Nat.le_trans (Below.size (Ext.trans (Ext.trans (Ext.trans e18 e25) e32) e45)) g47)) e54) e61) e84) e86) c87.but (Nat.le_trans (Below.size (Ext.trans (Ext.trans (Ext.trans (Ext.but_trans (Ext.trans (Ext.trans (Ext.trans (Ext.trans e18 e25) e32) e45) e47) c48.but (Nat.le_trans (Below.size (Ext.trans (Ext.trans (Ext.trans e18 e25) e32) e45)) g47)) e54) e61) e84)) g86)) e93) e100) e111) e113)) (hM.ext (Ext.trans (Ext.trans (Ext.trans (Ext.trans (Ext.but_trans (Ext.trans (Ext.trans (Ext.trans (Ext.trans (Ext.but_trans (Ext.trans (Ext.trans (Ext.trans (Ext.trans e18 e25) e32) e45) e47) c48.but (Nat.le_trans (Below.size (Ext.trans (Ext.trans (Ext.trans e18 e25) e32) e45)) g47)) e54) e61) e84) e86) c87.but (Nat.le_trans (Below.size (Ext.trans (Ext.trans (Ext.trans (Ext.but_trans (Ext.trans (Ext.trans (Ext.trans (Ext.trans e18 e25) e32) e45) e47) c48.but (Nat.le_trans (Below.size (Ext.trans (Ext.trans (Ext.trans e18 e25) e32) e45)) g47)) e54) e61) e84)) g86)) e93) e100) e111) e113))).mono ?_
    rintro _ w121 ⟨a115, n116, c117, rfl, N118, O119, e120⟩
    conv => whnf
    refine (spec_DrawReadParts (h0.ext (Ext.trans (Ext.trans (Ext.trans (Ext.trans (Ext.trans (Ext.but_trans (Ext.trans (Ext.trans (Ext.trans (Ext.trans (Ext.but_trans (Ext.trans (Ext.trans (Ext.trans (Ext.trans e18 e25) e32) e45) e47) c48.but (Nat.le_trans (Below.size (Ext.trans (Ext.trans (Ext.trans e18 e25) e32) e45)) g47)) e54) e61) e84) e86) c87.but (Nat.le_trans (Below.size (Ext.trans (Ext.trans (Ext.trans (Ext.but_trans (Ext.trans (Ext.trans (Ext.trans (Ext.trans e18 e25) e32) e45) e47) c48.but (Nat.le_trans (Below.size (Ext.trans (Ext.trans (Ext.trans e18 e25) e32) e45)) g47)) e54) e61) e84)) g86)) e93) e100) e111) e113) e120))).mono ?_
    rintro _ w125 ⟨s122, rfl, q123, e124⟩
    conv => whnf
    refine (impl_ReadParts (by omega) (hT.ext (Ext.trans (Ext.trans (Ext.trans (Ext.trans (Ext.trans (Ext.trans (Ext.but_trans (Ext.trans (Ext.trans (Ext.trans (Ext.trans (Ext.but_trans (Ext.trans (Ext.trans (Ext.trans (Ext.trans e18 e25) e32) e45) e47) c48.but (Nat.le_trans (Below.size (Ext.trans (Ext.trans (Ext.trans e18 e25) e32) e45)) g47)) e54) e61) e84) e86) c87.but (Nat.le_trans (Below.size (Ext.trans (Ext.trans (Ext.trans (Ext.but_trans (Ext.trans (Ext.trans (Ext.trans (Ext.trans e18 e25) e32) e45) e47) c48.but (Nat.le_trans (Below.size (Ext.trans (Ext.trans (Ext.trans e18 e25) e32) e45)) g47)) e54) e61) e84)) g86)) e93) e100) e111) e113) e120) e124)) (hE.ext (Ext.trans (Ext.trans (Ext.trans (Ext.trans (Ext.trans (Ext.trans (Ext.but_trans (Ext.trans (Ext.trans (Ext.trans (Ext.trans (Ext.but_trans (Ext.trans (Ext.trans (Ext.trans (Ext.trans e18 e25) e32) e45) e47) c48.but (Nat.le_trans (Below.size (Ext.trans (Ext.trans (Ext.trans e18 e25) e32) e45)) g47)) e54) e61) e84) e86) c87.but (Nat.le_trans (Below.size (Ext.trans (Ext.trans (Ext.trans (Ext.but_trans (Ext.trans (Ext.trans (Ext.trans (Ext.trans e18 e25) e32) e45) e47) c48.but (Nat.le_trans (Below.size (Ext.trans (Ext.trans (Ext.trans e18 e25) e32) e45)) g47)) e54) e61) e84)) g86)) e93) e100) e111) e113) e120) e124)) (hM.ext (Ext.trans (Ext.trans (Ext.trans (Ext.trans (Ext.trans (Ext.trans (Ext.but_trans (Ext.trans (Ext.trans (Ext.trans (Ext.trans (Ext.but_trans (Ext.trans (Ext.trans (Ext.trans (Ext.trans e18 e25) e32) e45) e47) c48.but (Nat.le_trans (Below.size (Ext.trans (Ext.trans (Ext.trans e18 e25) e32) e45)) g47)) e54) e61) e84) e86) c87.but (Nat.le_trans (Below.size (Ext.trans (Ext.trans (Ext.trans (Ext.but_trans (Ext.trans (Ext.trans (Ext.trans (Ext.trans e18 e25) e32) e45) e47) c48.but (Nat.le_trans (Below.size (Ext.trans (Ext.trans (Ext.trans e18 e25) e32) e45)) g47)) e54) e61) e84)) g86)) e93) e100) e111) e113) e120) e124))).mono ?_
    rintro _ w132 ⟨a126, n127, c128, rfl, N129, O130, e131⟩
    conv => whnf
    refine (spec_ReadParts (by omega) _).mono ?_
    rintro _ w139 ⟨a133, n134, c135, rfl, N136, O137, e138⟩
    conv => whnf
    refine (spec_DrawSameParts (h0.ext (Ext.trans (Ext.trans (Ext.trans (Ext.trans (Ext.trans (Ext.trans (Ext.trans (Ext.trans (Ext.but_trans (Ext.trans (Ext.trans (Ext.trans (Ext.trans (Ext.but_trans (Ext.trans (Ext.trans (Ext.trans (Ext.trans e18 e25) e32) e45) e47) c48.but (Nat.le_trans (Below.size (Ext.trans (Ext.trans (Ext.trans e18 e25) e32) e45)) g47)) e54) e61) e84) e86) c87.but (Nat.le_trans (Below.size (Ext.trans (Ext.trans (Ext.trans (Ext.but_trans (Ext.trans (Ext.trans (Ext.trans (Ext.trans e18 e25) e32) e45) e47) c48.but (Nat.le_trans (Below.size (Ext.trans (Ext.trans (Ext.trans e18 e25) e32) e45)) g47)) e54) e61) e84)) g86)) e93) e100) e111) e113) e120) e124) e131) e138))).mono ?_
    rintro _ w153 ⟨a1140, n1141, c1142, xs143, a2144, n2145, c2146, ys147, rfl, q148, q149, A150, A151, e152⟩
    conv => whnf
    have hx1 := applyMoves_oks (ms := ms9) q12
    have hx2 := applyMove_oks (m := m38) q41
    have hr1 := readParts_ok (partsText xs105)
    have hr2 := readParts_ok s122
    have hL1 := (O92.arr TMove.enc_len).len
    have hL2 := (O99.arr TMove.enc_len).len
    have hL3 := (O92.arr TMove.enc_len).le
    have hAgain : (applyMoveM xs37 m38).2 = 0 → ∀ u, Ext w55 u → Does Tryz.prog 28 [.slice a'49 n'50 c'51, .agg #[.int .i64 m38.part, .int .i64 (-m38.count)]] u (fun v w' => ∃ a' n' c', v = .tuple #[.slice a' n' c', .int .i64 0] ∧ NewAt u.heap.size a' ∧ Own TPart.enc w' a' n' 81 xs37 ∧ Ext u w') := fun hz u e => by
      refine (impl_ApplyMove ((O53.ext e).arr TPart.enc_len) hx2 L52 ⟨m38.part, -m38.count⟩).mono ?_
      rw [applyMove_back' hz]
      exact fun _ _ h => h
    refine IfB.eqf (by simp; done) ?_
    conv => whnf
    refine IfB.eqf (by simp; done) ?_
    conv => whnf
    refine (spec_SameParts ((O24.ext (Ext.trans (Ext.trans (Ext.trans (Ext.trans (Ext.trans (Ext.trans (Ext.trans (Ext.trans (Ext.trans (Ext.but_trans (Ext.trans (Ext.trans (Ext.trans (Ext.trans (Ext.but_trans (Ext.trans (Ext.trans e32 e45) e47) c48.but (Nat.le_trans (Below.size (Ext.trans e32 e45)) g47)) e54) e61) e84) e86) c87.but (Nat.le_trans (Below.size (Ext.trans (Ext.trans (Ext.trans (Ext.but_trans (Ext.trans (Ext.trans e32 e45) e47) c48.but (Nat.le_trans (Below.size (Ext.trans e32 e45)) g47)) e54) e61) e84)) g86)) e93) e100) e111) e113) e120) e124) e131) e138) e152)).arr TPart.enc_len) ((O31.ext (Ext.trans (Ext.trans (Ext.trans (Ext.trans (Ext.trans (Ext.trans (Ext.trans (Ext.trans (Ext.trans (Ext.but_trans (Ext.trans (Ext.trans (Ext.trans (Ext.trans (Ext.but_trans (Ext.trans e45 e47) c48.but (Nat.le_trans (Below.size e45) g47)) e54) e61) e84) e86) c87.but (Nat.le_trans (Below.size (Ext.trans (Ext.trans (Ext.trans (Ext.but_trans (Ext.trans e45 e47) c48.but (Nat.le_trans (Below.size e45) g47)) e54) e61) e84)) g86)) e93) e100) e111) e113) e120) e124) e131) e138) e152)).arr TPart.enc_len) hx1 hx1).mono ?_
    rintro _ w2148 ⟨rfl, e2147⟩
    conv => whnf
    refine IfB.eqf (by simp; done) ?_
    conv => whnf
    refine IfB.eqf (by simp; done) ?_
    conv => whnf
    refine (spec_SameParts ((O53.ext (Ext.trans (Ext.trans (Ext.trans (Ext.trans (Ext.trans (Ext.trans (Ext.trans (Ext.trans (Ext.trans (Ext.trans (Ext.but_trans (Ext.trans (Ext.trans e61 e84) e86) c87.but (Nat.le_trans (Below.size (Ext.trans e61 e84)) g86)) e93) e100) e111) e113) e120) e124) e131) e138) e152) e2147)).arr TPart.enc_len) ((O60.ext (Ext.trans (Ext.trans (Ext.trans (Ext.trans (Ext.trans (Ext.trans (Ext.trans (Ext.trans (Ext.trans (Ext.trans (Ext.but_trans (Ext.trans e84 e86) c87.but (Nat.le_trans (Below.size e84) g86)) e93) e100) e111) e113) e120) e124) e131) e138) e152) e2147)).arr TPart.enc_len) hx2 hx2).mono ?_
    rintro _ w2150 ⟨rfl, e2149⟩
    conv => whnf
    refine IfB.eqf (by simp; done) ?_
    conv => whnf
    refine IfB.eqf (by simp; done) ?_
    conv => whnf
    with_reducible refine IfB.ndec (fun h2151 => ?_) (fun h2151 => ?_)
    · conv => whnf
      refine ⟨?_, (Ext.trans (Ext.trans (Ext.trans (Ext.trans (Ext.trans (Ext.trans (Ext.trans (Ext.trans (Ext.trans (Ext.trans (Ext.trans (Ext.but_trans (Ext.trans (Ext.trans (Ext.trans (Ext.trans (Ext.but_trans (Ext.trans (Ext.trans (Ext.trans (Ext.trans e18 e25) e32) e45) e47) c48.but (Nat.le_trans (Below.size (Ext.trans (Ext.trans (Ext.trans e18 e25) e32) e45)) g47)) e54) e61) e84) e86) c87.but (Nat.le_trans (Below.size (Ext.trans (Ext.trans (Ext.trans (Ext.but_trans (Ext.trans (Ext.trans (Ext.trans (Ext.trans e18 e25) e32) e45) e47) c48.but (Nat.le_trans (Below.size (Ext.trans (Ext.trans (Ext.trans e18 e25) e32) e45)) g47)) e54) e61) e84)) g86)) e93) e100) e111) e113) e120) e124) e131) e138) e152) e2147) e2149)⟩
      · exact absurd (by omega) h2151
    · conv => whnf
      refine (spec_PartsText ((O110.ext (Ext.trans (Ext.trans (Ext.trans (Ext.trans (Ext.trans (Ext.trans (Ext.trans e113 e120) e124) e131) e138) e152) e2147) e2149)).arr TPart.enc_len) q108).mono ?_
      rintro _ w2153 ⟨rfl, e2152⟩
      conv => whnf
      refine IfB.eqf (by simp; done) ?_
      conv => whnf
      with_reducible refine IfB.ndec (fun h2154 => ?_) (fun h2154 => ?_)
      · conv => whnf
        with_reducible refine IfB.nsplit (fun h2155 => ?_) (fun h2155 => ?_)
        · conv => whnf
          refine ⟨?_, (Ext.trans (Ext.trans (Ext.trans (Ext.trans (Ext.trans (Ext.trans (Ext.trans (Ext.trans (Ext.trans (Ext.trans (Ext.trans (Ext.trans (Ext.but_trans (Ext.trans (Ext.trans (Ext.trans (Ext.trans (Ext.but_trans (Ext.trans (Ext.trans (Ext.trans (Ext.trans e18 e25) e32) e45) e47) c48.but (Nat.le_trans (Below.size (Ext.trans (Ext.trans (Ext.trans e18 e25) e32) e45)) g47)) e54) e61) e84) e86) c87.but (Nat.le_trans (Below.size (Ext.trans (Ext.trans (Ext.trans (Ext.but_trans (Ext.trans (Ext.trans (Ext.trans (Ext.trans e18 e25) e32) e45) e47) c48.but (Nat.le_trans (Below.size (Ext.trans (Ext.trans (Ext.trans e18 e25) e32) e45)) g47)) e54) e61) e84)) g86)) e93) e100) e111) e113) e120) e124) e131) e138) e152) e2147) e2149) e2152)⟩
          · rw [(partsText_get h2154).1] at h2155; cases h2155
        · conv => whnf
          refine (spec_SameParts ((O119.ext (Ext.trans (Ext.trans (Ext.trans (Ext.trans (Ext.trans (Ext.trans e124 e131) e138) e152) e2147) e2149) e2152)).arr TPart.enc_len) ((O110.ext (Ext.trans (Ext.trans (Ext.trans (Ext.trans (Ext.trans (Ext.trans (Ext.trans (Ext.trans e113 e120) e124) e131) e138) e152) e2147) e2149) e2152)).arr TPart.enc_len) hr1 q108).mono ?_
          rintro _ w2157 ⟨rfl, e2156⟩
          conv => whnf
          with_reducible refine IfB.ndec (fun h2158 => ?_) (fun h2158 => ?_)
          · conv => whnf
            refine ⟨?_, (Ext.trans (Ext.trans (Ext.trans (Ext.trans (Ext.trans (Ext.trans (Ext.trans (Ext.trans (Ext.trans (Ext.trans (Ext.trans (Ext.trans (Ext.trans (Ext.but_trans (Ext.trans (Ext.trans (Ext.trans (Ext.trans (Ext.but_trans (Ext.trans (Ext.trans (Ext.trans (Ext.trans e18 e25) e32) e45) e47) c48.but (Nat.le_trans (Below.size (Ext.trans (Ext.trans (Ext.trans e18 e25) e32) e45)) g47)) e54) e61) e84) e86) c87.but (Nat.le_trans (Below.size (Ext.trans (Ext.trans (Ext.trans (Ext.but_trans (Ext.trans (Ext.trans (Ext.trans (Ext.trans e18 e25) e32) e45) e47) c48.but (Nat.le_trans (Below.size (Ext.trans (Ext.trans (Ext.trans e18 e25) e32) e45)) g47)) e54) e61) e84)) g86)) e93) e100) e111) e113) e120) e124) e131) e138) e152) e2147) e2149) e2152) e2156)⟩
            · exact absurd (partsText_get h2154).2 h2158
          · conv => whnf
            refine SemK.neqB (by kernel_rfl) ?_
            conv => whnf
            refine IfB.eqf (by simp; done) ?_
            conv => whnf
            refine (spec_SameParts ((O130.ext (Ext.trans (Ext.trans (Ext.trans (Ext.trans (Ext.trans e138 e152) e2147) e2149) e2152) e2156)).arr TPart.enc_len) ((O137.ext (Ext.trans (Ext.trans (Ext.trans (Ext.trans e152 e2147) e2149) e2152) e2156)).arr TPart.enc_len) hr2 hr2).mono ?_
            rintro _ w2160 ⟨rfl, e2159⟩
            conv => whnf
            refine IfB.eqf (by simp; done) ?_
            conv => whnf
            refine (impl_SameParts (A150.ext (Ext.trans (Ext.trans (Ext.trans (Ext.trans e2147 e2149) e2152) e2156) e2159)) (A151.ext (Ext.trans (Ext.trans (Ext.trans (Ext.trans e2147 e2149) e2152) e2156) e2159)) q148 q149).mono ?_
            rintro _ w2162 ⟨rfl, e2161⟩
            conv => whnf
            refine (spec_SameParts (A150.ext (Ext.trans (Ext.trans (Ext.trans (Ext.trans (Ext.trans e2147 e2149) e2152) e2156) e2159) e2161)) (A151.ext (Ext.trans (Ext.trans (Ext.trans (Ext.trans (Ext.trans e2147 e2149) e2152) e2156) e2159) e2161)) q148 q149).mono ?_
            rintro _ w2164 ⟨rfl, e2163⟩
            conv => whnf
            refine SemK.neqB (by kernel_rfl) ?_
            conv => whnf
            refine IfB.eqf (by simp; done) ?_
            conv => whnf
            refine (impl_ValidParts ((O16.ext (Ext.trans (Ext.trans (Ext.trans (Ext.trans (Ext.trans (Ext.trans (Ext.trans (Ext.trans (Ext.trans (Ext.trans (Ext.trans (Ext.trans (Ext.trans (Ext.trans (Ext.trans (Ext.trans (Ext.but_trans (Ext.trans (Ext.trans (Ext.trans (Ext.trans (Ext.but_trans (Ext.trans (Ext.trans (Ext.trans e25 e32) e45) e47) c48.but (Nat.le_trans (Below.size (Ext.trans (Ext.trans e25 e32) e45)) g47)) e54) e61) e84) e86) c87.but (Nat.le_trans (Below.size (Ext.trans (Ext.trans (Ext.trans (Ext.but_trans (Ext.trans (Ext.trans (Ext.trans e25 e32) e45) e47) c48.but (Nat.le_trans (Below.size (Ext.trans (Ext.trans e25 e32) e45)) g47)) e54) e61) e84)) g86)) e93) e100) e111) e113) e120) e124) e131) e138) e152) e2147) e2149) e2152) e2156) e2159) e2161) e2163)).arr TPart.enc_len) q12 q11).mono ?_
            rintro _ w2166 ⟨rfl, e2165⟩
            conv => whnf
            refine (spec_ValidParts ((O16.ext (Ext.trans (Ext.trans (Ext.trans (Ext.trans (Ext.trans (Ext.trans (Ext.trans (Ext.trans (Ext.trans (Ext.trans (Ext.trans (Ext.trans (Ext.trans (Ext.trans (Ext.trans (Ext.trans (Ext.trans (Ext.but_trans (Ext.trans (Ext.trans (Ext.trans (Ext.trans (Ext.but_trans (Ext.trans (Ext.trans (Ext.trans e25 e32) e45) e47) c48.but (Nat.le_trans (Below.size (Ext.trans (Ext.trans e25 e32) e45)) g47)) e54) e61) e84) e86) c87.but (Nat.le_trans (Below.size (Ext.trans (Ext.trans (Ext.trans (Ext.but_trans (Ext.trans (Ext.trans (Ext.trans e25 e32) e45) e47) c48.but (Nat.le_trans (Below.size (Ext.trans (Ext.trans e25 e32) e45)) g47)) e54) e61) e84)) g86)) e93) e100) e111) e113) e120) e124) e131) e138) e152) e2147) e2149) e2152) e2156) e2159) e2161) e2163) e2165)).arr TPart.enc_len) q12).mono ?_
            rintro _ w2168 ⟨rfl, e2167⟩
            conv => whnf
            refine SemK.neqB (by kernel_rfl) ?_
            conv => whnf
            refine IfB.eqf (by simp; done) ?_
            conv => whnf
            refine LoopK.rule [3, 4, 7, 8, 9, 11, 12, 13, 14, 20, 22, 35] (fun (j : Nat) vs w' => vs = [.slice a'2 n'3 c'4, .slice a26 n27 c28, .int .i64 (applyMovesM xs5 ms9).2.2, .slice a'27 n'28 c'29, .int .i64 (applyMovesM xs5 ms9).2.1, .slice a'34 n'35 c'36, .pointer (some ⟨b47, 0, none⟩), .slice a'49 n'50 c'51, .int .i64 (applyMoveM xs37 m38).2, .slice a'88 n'89 c'90, .slice a'95 n'96 c'97, .int .i64 j] ∧ j ≤ n'89 ∧ Ext w2168 w') (fun j => n'89 - j) tab tabok (by kernel_rfl) 0
              ⟨rfl, by omega, Ext.refl _⟩ ?_
            rintro j g _ w3000 ⟨rfl, hj, hX⟩
            rcases Nat.lt_or_ge j n'89 with hjn | hjn
            · obtain ⟨y, hy⟩ := get_of_lt (l := (movesFromM ps66 wd67 its71 d75).1) (k := j) (by omega)
              conv => whnf
              refine IfB.yes (by omega) ?_
              conv => whnf
              refine DrawK.det tabok mixed (by kernel_rfl) (by kernel_rfl) ?_
              conv => whnf
              obtain ⟨b3002, rfl⟩ := ((O92.ext (Ext.trans (Ext.trans (Ext.trans (Ext.trans (Ext.trans (Ext.trans (Ext.trans (Ext.trans (Ext.trans (Ext.trans (Ext.trans (Ext.trans (Ext.trans (Ext.trans (Ext.trans (Ext.trans (Ext.trans e100 e111) e113) e120) e124) e131) e138) e152) e2147) e2149) e2152) e2156) e2159) e2161) e2163) e2165) e2167) hX))).some (by omega)
              have lb3002 : b3002 < w94.heap.size := O92.lt _ rfl
              refine DSemK.indexOwn (sz := 2) (by kernel_rfl) j rfl (by omega) ?_
              have hb3002 := Own.elem TMove.enc_len (O92.ext (Ext.trans (Ext.trans (Ext.trans (Ext.trans (Ext.trans (Ext.trans (Ext.trans (Ext.trans (Ext.trans (Ext.trans (Ext.trans (Ext.trans (Ext.trans (Ext.trans (Ext.trans (Ext.trans (Ext.trans e100 e111) e113) e120) e124) e131) e138) e152) e2147) e2149) e2152) e2156) e2159) e2161) e2163) e2165) e2167) hX)) hy
              conv => whnf
              refine DSemK.loadAgg (n := 2) (by kernel_rfl) hb3002 rfl ?_
              conv => whnf
              obtain ⟨b3004, rfl⟩ := ((O99.ext (Ext.trans (Ext.trans (Ext.trans (Ext.trans (Ext.trans (Ext.trans (Ext.trans (Ext.trans (Ext.trans (Ext.trans (Ext.trans (Ext.trans (Ext.trans (Ext.trans (Ext.trans (Ext.trans e111 e113) e120) e124) e131) e138) e152) e2147) e2149) e2152) e2156) e2159) e2161) e2163) e2165) e2167) hX))).some (by omega)
              have lb3004 : b3004 < w101.heap.size := O99.lt _ rfl
              refine DSemK.indexOwn (sz := 2) (by kernel_rfl) j rfl (by omega) ?_
              have hb3004 := Own.elem TMove.enc_len (O99.ext (Ext.trans (Ext.trans (Ext.trans (Ext.trans (Ext.trans (Ext.trans (Ext.trans (Ext.trans (Ext.trans (Ext.trans (Ext.trans (Ext.trans (Ext.trans (Ext.trans (Ext.trans (Ext.trans e111 e113) e120) e124) e131) e138) e152) e2147) e2149) e2152) e2156) e2159) e2161) e2163) e2165) e2167) hX)) hy
              conv => whnf
              refine DSemK.loadAgg (n := 2) (by kernel_rfl) hb3004 rfl ?_
              conv => whnf
              have hyo := moves_oks y (List.mem_of_getElem? hy)
              refine DSemK.neqFlat (ks := [false, false]) (by kernel_rfl) (by kernel_rfl) (TMove.flat hyo) (TMove.flat hyo) ?_
              rw [TMove.eq_flat]
              conv => whnf
              intro w3005 e3005
              conv => whnf
              refine IfB.eqf (by simp; done) ?_
              conv => whnf
              refine SemK.add (((j + 1 : Nat) : Int)) (by omega) (by omega) (by omega) ?_
              conv => whnf
              exact ⟨j + 1, by omega, rfl, by omega, Ext.trans hX e3005⟩
            · conv => whnf
              refine IfB.no (by omega) ?_
              conv => whnf
              with_reducible refine IfB.dec (fun h3001 => ?_) (fun h3001 => ?_)
              · have hAg := fun u e => hAgain h3001 u e
                have hcn := applyMove_cnt h3001
                conv => whnf
                refine SemK.load1 (by kernel_rfl) (B48.ext (Ext.trans (Ext.trans (Ext.trans (Ext.trans (Ext.trans (Ext.trans (Ext.trans (Ext.trans (Ext.trans (Ext.trans (Ext.trans (Ext.trans (Ext.trans (Ext.trans (Ext.trans (Ext.trans (Ext.trans (Ext.trans (Ext.trans (Ext.but_trans (Ext.trans (Ext.trans (Ext.trans e54 e61) e84) e86) c87.but (Nat.le_trans (Below.size (Ext.trans (Ext.trans e54 e61) e84)) g86)) e93) e100) e111) e113) e120) e124) e131) e138) e152) e2147) e2149) e2152) e2156) e2159) e2161) e2163) e2165) e2167) hX)).cells (k := 0) rfl ?_
                conv => whnf
                refine SemK.load1 (by kernel_rfl) (B48.ext (Ext.trans (Ext.trans (Ext.trans (Ext.trans (Ext.trans (Ext.trans (Ext.trans (Ext.trans (Ext.trans (Ext.trans (Ext.trans (Ext.trans (Ext.trans (Ext.trans (Ext.trans (Ext.trans (Ext.trans (Ext.trans (Ext.trans (Ext.but_trans (Ext.trans (Ext.trans (Ext.trans e54 e61) e84) e86) c87.but (Nat.le_trans (Below.size (Ext.trans (Ext.trans e54 e61) e84)) g86)) e93) e100) e111) e113) e120) e124) e131) e138) e152) e2147) e2149) e2152) e2156) e2159) e2161) e2163) e2165) e2167) hX)).cells (k := 1) rfl ?_
                conv => whnf
                refine SemK.neg (-m38.count) rfl (by omega) (by omega) ?_
                conv => whnf
                refine SemK.build st_59 rfl ?_
                conv => whnf
                refine (hAg _ (Ext.trans (Ext.trans (Ext.trans (Ext.trans (Ext.trans (Ext.trans (Ext.trans (Ext.trans (Ext.trans (Ext.trans (Ext.trans (Ext.trans (Ext.trans (Ext.trans (Ext.trans (Ext.trans (Ext.trans (Ext.trans (Ext.trans (Ext.but_trans (Ext.trans (Ext.trans e61 e84) e86) c87.but (Nat.le_trans (Below.size (Ext.trans e61 e84)) g86)) e93) e100) e111) e113) e120) e124) e131) e138) e152) e2147) e2149) e2152) e2156) e2159) e2161) e2163) e2165) e2167) hX)).mono ?_
                rintro _ w3008 ⟨a'3002, n'3003, c'3004, rfl, N3005, O3006, e3007⟩
                conv => whnf
                refine (spec_SameParts (O3006.arr TPart.enc_len) ((O44.ext (Ext.trans (Ext.trans (Ext.trans (Ext.trans (Ext.trans (Ext.trans (Ext.trans (Ext.trans (Ext.trans (Ext.trans (Ext.trans (Ext.trans (Ext.trans (Ext.trans (Ext.trans (Ext.trans (Ext.trans (Ext.trans (Ext.trans (Ext.trans (Ext.but_trans (Ext.trans (Ext.trans (Ext.trans (Ext.trans (Ext.but_trans e47 c48.but g47) e54) e61) e84) e86) c87.but (Nat.le_trans (Below.size (Ext.trans (Ext.trans (Ext.trans (Ext.but_trans e47 c48.but g47) e54) e61) e84)) g86)) e93) e100) e111) e113) e120) e124) e131) e138) e152) e2147) e2149) e2152) e2156) e2159) e2161) e2163) e2165) e2167) hX) e3007)).arr TPart.enc_len) q41 q41).mono ?_
                rintro _ w3010 ⟨rfl, e3009⟩
                conv => whnf
                refine IfB.eqf (by simp; done) ?_
                conv => whnf
                with_reducible refine IfB.ndec (fun h3011 => ?_) (fun h3011 => ?_)
                · conv => whnf
                  exact ⟨rfl, (Ext.trans (Ext.trans (Ext.trans (Ext.trans (Ext.trans (Ext.trans (Ext.trans (Ext.trans (Ext.trans (Ext.trans (Ext.trans (Ext.trans (Ext.trans (Ext.trans (Ext.trans (Ext.trans (Ext.trans (Ext.trans (Ext.trans (Ext.trans (Ext.trans (Ext.but_trans (Ext.trans (Ext.trans (Ext.trans (Ext.trans (Ext.but_trans (Ext.trans (Ext.trans (Ext.trans (Ext.trans e18 e25) e32) e45) e47) c48.but (Nat.le_trans (Below.size (Ext.trans (Ext.trans (Ext.trans e18 e25) e32) e45)) g47)) e54) e61) e84) e86) c87.but (Nat.le_trans (Below.size (Ext.trans (Ext.trans (Ext.trans (Ext.but_trans (Ext.trans (Ext.trans (Ext.trans (Ext.trans e18 e25) e32) e45) e47) c48.but (Nat.le_trans (Below.size (Ext.trans (Ext.trans (Ext.trans e18 e25) e32) e45)) g47)) e54) e61) e84)) g86)) e93) e100) e111) e113) e120) e124) e131) e138) e152) e2147) e2149) e2152) e2156) e2159) e2161) e2163) e2165) e2167) hX) e3007) e3009)⟩
                · conv => whnf
                  obtain ⟨cc, hcc, hcl, hlen, hsum⟩ := applyMoves_sum h3011
                  have hLx := (O16.arr TPart.enc_len).len
                  have hLy := (O31.arr TPart.enc_len).len
                  have hLm := (O17.arr TMove.enc_len).len
                  refine LoopK.rule [3, 4, 8, 9, 38] (fun (j : Nat) vs w' => vs = [.slice a'2 n'3 c'4, .slice a26 n27 c28, .slice a'27 n'28 c'29, .int .i64 (applyMovesM xs5 ms9).2.1, .int .i64 j] ∧ j ≤ n'3 ∧ Ext w3010 w') (fun j => n'3 - j) tab tabok (by kernel_rfl) 0
                    ⟨rfl, by omega, Ext.refl _⟩ ?_
                  rintro j2 g2 _ w4000 ⟨rfl, hj2, hX2⟩
                  rcases Nat.lt_or_ge j2 n'3 with hj2n | hj2n
                  · obtain ⟨x, hx⟩ := get_of_lt (l := xs5) (k := j2) (by omega)
                    obtain ⟨⟨y2, hy2, hyc⟩, hbs⟩ := hsum j2 x hx
                    have hb0 := hbs 0 (Nat.zero_le _)
                    conv => whnf
                    refine IfB.yes (by omega) ?_
                    conv => whnf
                    obtain ⟨b4002, rfl⟩ := ((O16.ext (Ext.trans (Ext.trans (Ext.trans (Ext.trans (Ext.trans (Ext.trans (Ext.trans (Ext.trans (Ext.trans (Ext.trans (Ext.trans (Ext.trans (Ext.trans (Ext.trans (Ext.trans (Ext.trans (Ext.trans (Ext.trans (Ext.trans (Ext.trans (Ext.trans (Ext.trans (Ext.but_trans (Ext.trans (Ext.trans (Ext.trans (Ext.trans (Ext.but_trans (Ext.trans (Ext.trans (Ext.trans e25 e32) e45) e47) c48.but (Nat.le_trans (Below.size (Ext.trans (Ext.trans e25 e32) e45)) g47)) e54) e61) e84) e86) c87.but (Nat.le_trans (Below.size (Ext.trans (Ext.trans (Ext.trans (Ext.but_trans (Ext.trans (Ext.trans (Ext.trans e25 e32) e45) e47) c48.but (Nat.le_trans (Below.size (Ext.trans (Ext.trans e25 e32) e45)) g47)) e54) e61) e84)) g86)) e93) e100) e111) e113) e120) e124) e131) e138) e152) e2147) e2149) e2152) e2156) e2159) e2161) e2163) e2165) e2167) hX) e3007) e3009) hX2))).some (by omega)
                    have lb4002 : b4002 < w19.heap.size := O16.lt _ rfl
                    refine SemK.indexOwn (sz := 4) (by kernel_rfl) j2 rfl (by omega) ?_
                    have hb4002 := Own.elem TPart.enc_len (O16.ext (Ext.trans (Ext.trans (Ext.trans (Ext.trans (Ext.trans (Ext.trans (Ext.trans (Ext.trans (Ext.trans (Ext.trans (Ext.trans (Ext.trans (Ext.trans (Ext.trans (Ext.trans (Ext.trans (Ext.trans (Ext.trans (Ext.trans (Ext.trans (Ext.trans (Ext.trans (Ext.but_trans (Ext.trans (Ext.trans (Ext.trans (Ext.trans (Ext.but_trans (Ext.trans (Ext.trans (Ext.trans e25 e32) e45) e47) c48.but (Nat.le_trans (Below.size (Ext.trans (Ext.trans e25 e32) e45)) g47)) e54) e61) e84) e86) c87.but (Nat.le_trans (Below.size (Ext.trans (Ext.trans (Ext.trans (Ext.but_trans (Ext.trans (Ext.trans (Ext.trans e25 e32) e45) e47) c48.but (Nat.le_trans (Below.size (Ext.trans (Ext.trans e25 e32) e45)) g47)) e54) e61) e84)) g86)) e93) e100) e111) e113) e120) e124) e131) e138) e152) e2147) e2149) e2152) e2156) e2159) e2161) e2163) e2165) e2167) hX) e3007) e3009) hX2)) hx
                    conv => whnf
                    refine SemK.load1 (by kernel_rfl) hb4002 (k := 1) rfl ?_
                    conv => whnf
                    have hs0 : x.count + sumM (j2 : Int) (ms9.take 0) = x.count := by simp [sumM]
                    refine LoopK.rule [3, 4, 8, 9, 38, 39, 40] (fun (i : Nat) vs w' => vs = [.slice (some ⟨b4002, 0, none⟩) n'3 c'4, .slice a26 n27 c28, .slice a'27 n'28 c'29, .int .i64 (applyMovesM xs5 ms9).2.1, .int .i64 (j2 : Nat), .int .i64 (x.count + sumM (j2 : Int) (ms9.take i)), .int .i64 (i : Nat)] ∧ i ≤ cc ∧ Ext w4000 w') (fun i => cc - i) tab tabok (by kernel_rfl) 0
                      ⟨by rw [hs0]; rfl, by omega, Ext.refl _⟩ ?_
                    rintro i g3 _ w5000 ⟨rfl, hi, hX3⟩
                    rcases Nat.lt_or_ge i cc with hic | hic
                    · obtain ⟨m, hm⟩ := get_of_lt (l := ms9) (k := i) (by omega)
                      have hsm := sumM_take (i := (j2 : Int)) hm
                      have hbi := hbs i (by omega)
                      have hbi1 := hbs (i + 1) (by omega)
                      conv => whnf
                      refine IfB.yes (by omega) ?_
                      conv => whnf
                      obtain ⟨b5002, rfl⟩ := ((O17.ext (Ext.trans (Ext.trans (Ext.trans (Ext.trans (Ext.trans (Ext.trans (Ext.trans (Ext.trans (Ext.trans (Ext.trans (Ext.trans (Ext.trans (Ext.trans (Ext.trans (Ext.trans (Ext.trans (Ext.trans (Ext.trans (Ext.trans (Ext.trans (Ext.trans (Ext.trans (Ext.trans (Ext.but_trans (Ext.trans (Ext.trans (Ext.trans (Ext.trans (Ext.but_trans (Ext.trans (Ext.trans (Ext.trans e25 e32) e45) e47) c48.but (Nat.le_trans (Below.size (Ext.trans (Ext.trans e25 e32) e45)) g47)) e54) e61) e84) e86) c87.but (Nat.le_trans (Below.size (Ext.trans (Ext.trans (Ext.trans (Ext.but_trans (Ext.trans (Ext.trans (Ext.trans e25 e32) e45) e47) c48.but (Nat.le_trans (Below.size (Ext.trans (Ext.trans e25 e32) e45)) g47)) e54) e61) e84)) g86)) e93) e100) e111) e113) e120) e124) e131) e138) e152) e2147) e2149) e2152) e2156) e2159) e2161) e2163) e2165) e2167) hX) e3007) e3009) hX2) hX3))).some (by omega)
                      have lb5002 : b5002 < w19.heap.size := O17.lt _ rfl
                      refine SemK.indexOwn (sz := 2) (by kernel_rfl) i rfl (by omega) ?_
                      have hb5002 := Own.elem TMove.enc_len (O17.ext (Ext.trans (Ext.trans (Ext.trans (Ext.trans (Ext.trans (Ext.trans (Ext.trans (Ext.trans (Ext.trans (Ext.trans (Ext.trans (Ext.trans (Ext.trans (Ext.trans (Ext.trans (Ext.trans (Ext.trans (Ext.trans (Ext.trans (Ext.trans (Ext.trans (Ext.trans (Ext.trans (Ext.but_trans (Ext.trans (Ext.trans (Ext.trans (Ext.trans (Ext.but_trans (Ext.trans (Ext.trans (Ext.trans e25 e32) e45) e47) c48.but (Nat.le_trans (Below.size (Ext.trans (Ext.trans e25 e32) e45)) g47)) e54) e61) e84) e86) c87.but (Nat.le_trans (Below.size (Ext.trans (Ext.trans (Ext.trans (Ext.but_trans (Ext.trans (Ext.trans (Ext.trans e25 e32) e45) e47) c48.but (Nat.le_trans (Below.size (Ext.trans (Ext.trans e25 e32) e45)) g47)) e54) e61) e84)) g86)) e93) e100) e111) e113) e120) e124) e131) e138) e152) e2147) e2149) e2152) e2156) e2159) e2161) e2163) e2165) e2167) hX) e3007) e3009) hX2) hX3)) hm
                      conv => whnf
                      refine SemK.load1 (by kernel_rfl) hb5002 (k := 0) rfl ?_
                      conv => whnf
                      with_reducible refine IfB.dec (fun h5003 => ?_) (fun h5003 => ?_)
                      · rw [if_pos h5003] at hsm
                        conv => whnf
                        refine SemK.indexOwn (sz := 2) (by kernel_rfl) i rfl (by omega) ?_
                        have hb5005 := Own.elem TMove.enc_len (O17.ext (Ext.trans (Ext.trans (Ext.trans (Ext.trans (Ext.trans (Ext.trans (Ext.trans (Ext.trans (Ext.trans (Ext.trans (Ext.trans (Ext.trans (Ext.trans (Ext.trans (Ext.trans (Ext.trans (Ext.trans (Ext.trans (Ext.trans (Ext.trans (Ext.trans (Ext.trans (Ext.trans (Ext.but_trans (Ext.trans (Ext.trans (Ext.trans (Ext.trans (Ext.but_trans (Ext.trans (Ext.trans (Ext.trans e25 e32) e45) e47) c48.but (Nat.le_trans (Below.size (Ext.trans (Ext.trans e25 e32) e45)) g47)) e54) e61) e84) e86) c87.but (Nat.le_trans (Below.size (Ext.trans (Ext.trans (Ext.trans (Ext.but_trans (Ext.trans (Ext.trans (Ext.trans e25 e32) e45) e47) c48.but (Nat.le_trans (Below.size (Ext.trans (Ext.trans e25 e32) e45)) g47)) e54) e61) e84)) g86)) e93) e100) e111) e113) e120) e124) e131) e138) e152) e2147) e2149) e2152) e2156) e2159) e2161) e2163) e2165) e2167) hX) e3007) e3009) hX2) hX3)) hm
                        conv => whnf
                        refine SemK.load1 (by kernel_rfl) hb5005 (k := 1) rfl ?_
                        conv => whnf
                        refine SemK.add (x.count + sumM (j2 : Int) (ms9.take (i + 1))) (by omega) (by omega) (by omega) ?_
                        conv => whnf
                        refine SemK.add (((i + 1 : Nat) : Int)) (by omega) (by omega) (by omega) ?_
                        conv => whnf
                        exact ⟨i + 1, by omega, rfl, by omega, hX3⟩
                      · rw [if_neg h5003, Int.add_zero] at hsm
                        conv => whnf
                        refine SemK.add (((i + 1 : Nat) : Int)) (by omega) (by omega) (by omega) ?_
                        conv => whnf
                        exact ⟨i + 1, by omega, by rw [hsm]; rfl, by omega, hX3⟩
                    · obtain rfl : i = cc := by omega
                      have hbi := hbs i (Nat.le_refl _)
                      conv => whnf
                      refine IfB.no (by omega) ?_
                      conv => whnf
                      obtain ⟨b5002, rfl⟩ := ((O31.ext (Ext.trans (Ext.trans (Ext.trans (Ext.trans (Ext.trans (Ext.trans (Ext.trans (Ext.trans (Ext.trans (Ext.trans (Ext.trans (Ext.trans (Ext.trans (Ext.trans (Ext.trans (Ext.trans (Ext.trans (Ext.trans (Ext.trans (Ext.trans (Ext.trans (Ext.trans (Ext.trans (Ext.but_trans (Ext.trans (Ext.trans (Ext.trans (Ext.trans (Ext.but_trans (Ext.trans e45 e47) c48.but (Nat.le_trans (Below.size e45) g47)) e54) e61) e84) e86) c87.but (Nat.le_trans (Below.size (Ext.trans (Ext.trans (Ext.trans (Ext.but_trans (Ext.trans e45 e47) c48.but (Nat.le_trans (Below.size e45) g47)) e54) e61) e84)) g86)) e93) e100) e111) e113) e120) e124) e131) e138) e152) e2147) e2149) e2152) e2156) e2159) e2161) e2163) e2165) e2167) hX) e3007) e3009) hX2) hX3))).some (by omega)
                      have lb5002 : b5002 < w33.heap.size := O31.lt _ rfl
                      refine SemK.indexOwn (sz := 4) (by kernel_rfl) j2 rfl (by omega) ?_
                      have hb5002 := Own.elem TPart.enc_len (O31.ext (Ext.trans (Ext.trans (Ext.trans (Ext.trans (Ext.trans (Ext.trans (Ext.trans (Ext.trans (Ext.trans (Ext.trans (Ext.trans (Ext.trans (Ext.trans (Ext.trans (Ext.trans (Ext.trans (Ext.trans (Ext.trans (Ext.trans (Ext.trans (Ext.trans (Ext.trans (Ext.trans (Ext.but_trans (Ext.trans (Ext.trans (Ext.trans (Ext.trans (Ext.but_trans (Ext.trans e45 e47) c48.but (Nat.le_trans (Below.size e45) g47)) e54) e61) e84) e86) c87.but (Nat.le_trans (Below.size (Ext.trans (Ext.trans (Ext.trans (Ext.but_trans (Ext.trans e45 e47) c48.but (Nat.le_trans (Below.size e45) g47)) e54) e61) e84)) g86)) e93) e100) e111) e113) e120) e124) e131) e138) e152) e2147) e2149) e2152) e2156) e2159) e2161) e2163) e2165) e2167) hX) e3007) e3009) hX2) hX3)) hy2
                      conv => whnf
                      refine SemK.load1 (by kernel_rfl) hb5002 (k := 1) rfl ?_
                      conv => whnf
                      refine IfB.eqf (by simp [*]; done) ?_
                      conv => whnf
                      refine SemK.add (((j2 + 1 : Nat) : Int)) (by omega) (by omega) (by omega) ?_
                      conv => whnf
                      exact ⟨j2 + 1, by omega, rfl, by omega, (Ext.trans hX2 hX3)⟩
                  · conv => whnf
                    refine IfB.no (by omega) ?_
                    conv => whnf
                    exact ⟨rfl, (Ext.trans (Ext.trans (Ext.trans (Ext.trans (Ext.trans (Ext.trans (Ext.trans (Ext.trans (Ext.trans (Ext.trans (Ext.trans (Ext.trans (Ext.trans (Ext.trans (Ext.trans (Ext.trans (Ext.trans (Ext.trans (Ext.trans (Ext.trans (Ext.trans (Ext.trans (Ext.but_trans (Ext.trans (Ext.trans (Ext.trans (Ext.trans (Ext.but_trans (Ext.trans (Ext.trans (Ext.trans (Ext.trans e18 e25) e32) e45) e47) c48.but (Nat.le_trans (Below.size (Ext.trans (Ext.trans (Ext.trans e18 e25) e32) e45)) g47)) e54) e61) e84) e86) c87.but (Nat.le_trans (Below.size (Ext.trans (Ext.trans (Ext.trans (Ext.but_trans (Ext.trans (Ext.trans (Ext.trans (Ext.trans e18 e25) e32) e45) e47) c48.but (Nat.le_trans (Below.size (Ext.trans (Ext.trans (Ext.trans e18 e25) e32) e45)) g47)) e54) e61) e84)) g86)) e93) e100) e111) e113) e120) e124) e131) e138) e152) e2147) e2149) e2152) e2156) e2159) e2161) e2163) e2165) e2167) hX) e3007) e3009) hX2)⟩
              · conv => whnf
                with_reducible refine IfB.ndec (fun h3002 => ?_) (fun h3002 => ?_)
                · conv => whnf
                  exact ⟨rfl, (Ext.trans (Ext.trans (Ext.trans (Ext.trans (Ext.trans (Ext.trans (Ext.trans (Ext.trans (Ext.trans (Ext.trans (Ext.trans (Ext.trans (Ext.trans (Ext.trans (Ext.trans (Ext.trans (Ext.trans (Ext.trans (Ext.trans (Ext.but_trans (Ext.trans (Ext.trans (Ext.trans (Ext.trans (Ext.but_trans (Ext.trans (Ext.trans (Ext.trans (Ext.trans e18 e25) e32) e45) e47) c48.but (Nat.le_trans (Below.size (Ext.trans (Ext.trans (Ext.trans e18 e25) e32) e45)) g47)) e54) e61) e84) e86) c87.but (Nat.le_trans (Below.size (Ext.trans (Ext.trans (Ext.trans (Ext.but_trans (Ext.trans (Ext.trans (Ext.trans (Ext.trans e18 e25) e32) e45) e47) c48.but (Nat.le_trans (Below.size (Ext.trans (Ext.trans (Ext.trans e18 e25) e32) e45)) g47)) e54) e61) e84)) g86)) e93) e100) e111) e113) e120) e124) e131) e138) e152) e2147) e2149) e2152) e2156) e2159) e2161) e2163) e2165) e2167) hX)⟩
                · conv => whnf
                  obtain ⟨cc, hcc, hcl, hlen, hsum⟩ := applyMoves_sum h3002
                  have hLx := (O16.arr TPart.enc_len).len
                  have hLy := (O31.arr TPart.enc_len).len
                  have hLm := (O17.arr TMove.enc_len).len
                  refine LoopK.rule [3, 4, 8, 9, 38] (fun (j : Nat) vs w' => vs = [.slice a'2 n'3 c'4, .slice a26 n27 c28, .slice a'27 n'28 c'29, .int .i64 (applyMovesM xs5 ms9).2.1, .int .i64 j] ∧ j ≤ n'3 ∧ Ext w3000 w') (fun j => n'3 - j) tab tabok (by kernel_rfl) 0
                    ⟨rfl, by omega, Ext.refl _⟩ ?_
                  rintro j2 g2 _ w4000 ⟨rfl, hj2, hX2⟩
                  rcases Nat.lt_or_ge j2 n'3 with hj2n | hj2n
                  · obtain ⟨x, hx⟩ := get_of_lt (l := xs5) (k := j2) (by omega)
                    obtain ⟨⟨y2, hy2, hyc⟩, hbs⟩ := hsum j2 x hx
                    have hb0 := hbs 0 (Nat.zero_le _)
                    conv => whnf
                    refine IfB.yes (by omega) ?_
                    conv => whnf
                    obtain ⟨b4002, rfl⟩ := ((O16.ext (Ext.trans (Ext.trans (Ext.trans (Ext.trans (Ext.trans (Ext.trans (Ext.trans (Ext.trans (Ext.trans (Ext.trans (Ext.trans (Ext.trans (Ext.trans (Ext.trans (Ext.trans (Ext.trans (Ext.trans (Ext.trans (Ext.trans (Ext.trans (Ext.but_trans (Ext.trans (Ext.trans (Ext.trans (Ext.trans (Ext.but_trans (Ext.trans (Ext.trans (Ext.trans e25 e32) e45) e47) c48.but (Nat.le_trans (Below.size (Ext.trans (Ext.trans e25 e32) e45)) g47)) e54) e61) e84) e86) c87.but (Nat.le_trans (Below.size (Ext.trans (Ext.trans (Ext.trans (Ext.but_trans (Ext.trans (Ext.trans (Ext.trans e25 e32) e45) e47) c48.but (Nat.le_trans (Below.size (Ext.trans (Ext.trans e25 e32) e45)) g47)) e54) e61) e84)) g86)) e93) e100) e111) e113) e120) e124) e131) e138) e152) e2147) e2149) e2152) e2156) e2159) e2161) e2163) e2165) e2167) hX) hX2))).some (by omega)
                    have lb4002 : b4002 < w19.heap.size := O16.lt _ rfl
                    refine SemK.indexOwn (sz := 4) (by kernel_rfl) j2 rfl (by omega) ?_
                    have hb4002 := Own.elem TPart.enc_len (O16.ext (Ext.trans (Ext.trans (Ext.trans (Ext.trans (Ext.trans (Ext.trans (Ext.trans (Ext.trans (Ext.trans (Ext.trans (Ext.trans (Ext.trans (Ext.trans (Ext.trans (Ext.trans (Ext.trans (Ext.trans (Ext.trans (Ext.trans (Ext.trans (Ext.but_trans (Ext.trans (Ext.trans (Ext.trans (Ext.trans (Ext.but_trans (Ext.trans (Ext.trans (Ext.trans e25 e32) e45) e47) c48.but (Nat.le_trans (Below.size (Ext.trans (Ext.trans e25 e32) e45)) g47)) e54) e61) e84) e86) c87.but (Nat.le_trans (Below.size (Ext.trans (Ext.trans (Ext.trans (Ext.but_trans (Ext.trans (Ext.trans (Ext.trans e25 e32) e45) e47) c48.but (Nat.le_trans (Below.size (Ext.trans (Ext.trans e25 e32) e45)) g47)) e54) e61) e84)) g86)) e93) e100) e111) e113) e120) e124) e131) e138) e152) e2147) e2149) e2152) e2156) e2159) e2161) e2163) e2165) e2167) hX) hX2)) hx
                    conv => whnf
                    refine SemK.load1 (by kernel_rfl) hb4002 (k := 1) rfl ?_
                    conv => whnf
                    have hs0 : x.count + sumM (j2 : Int) (ms9.take 0) = x.count := by simp [sumM]
                    refine LoopK.rule [3, 4, 8, 9, 38, 39, 40] (fun (i : Nat) vs w' => vs = [.slice (some ⟨b4002, 0, none⟩) n'3 c'4, .slice a26 n27 c28, .slice a'27 n'28 c'29, .int .i64 (applyMovesM xs5 ms9).2.1, .int .i64 (j2 : Nat), .int .i64 (x.count + sumM (j2 : Int) (ms9.take i)), .int .i64 (i : Nat)] ∧ i ≤ cc ∧ Ext w4000 w') (fun i => cc - i) tab tabok (by kernel_rfl) 0
                      ⟨by rw [hs0]; rfl, by omega, Ext.refl _⟩ ?_
                    rintro i g3 _ w5000 ⟨rfl, hi, hX3⟩
                    rcases Nat.lt_or_ge i cc with hic | hic
                    · obtain ⟨m, hm⟩ := get_of_lt (l := ms9) (k := i) (by omega)
                      have hsm := sumM_take (i := (j2 : Int)) hm
                      have hbi := hbs i (by omega)
                      have hbi1 := hbs (i + 1) (by omega)
                      conv => whnf
                      refine IfB.yes (by omega) ?_
                      conv => whnf
                      obtain ⟨b5002, rfl⟩ := ((O17.ext (Ext.trans (Ext.trans (Ext.trans (Ext.trans (Ext.trans (Ext.trans (Ext.trans (Ext.trans (Ext.trans (Ext.trans (Ext.trans (Ext.trans (Ext.trans (Ext.trans (Ext.trans (Ext.trans (Ext.trans (Ext.trans (Ext.trans (Ext.trans (Ext.trans (Ext.but_trans (Ext.trans (Ext.trans (Ext.trans (Ext.trans (Ext.but_trans (Ext.trans (Ext.trans (Ext.trans e25 e32) e45) e47) c48.but (Nat.le_trans (Below.size (Ext.trans (Ext.trans e25 e32) e45)) g47)) e54) e61) e84) e86) c87.but (Nat.le_trans (Below.size (Ext.trans (Ext.trans (Ext.trans (Ext.but_trans (Ext.trans (Ext.trans (Ext.trans e25 e32) e45) e47) c48.but (Nat.le_trans (Below.size (Ext.trans (Ext.trans e25 e32) e45)) g47)) e54) e61) e84)) g86)) e93) e100) e111) e113) e120) e124) e131) e138) e152) e2147) e2149) e2152) e2156) e2159) e2161) e2163) e2165) e2167) hX) hX2) hX3))).some (by omega)
                      have lb5002 : b5002 < w19.heap.size := O17.lt _ rfl
                      refine SemK.indexOwn (sz := 2) (by kernel_rfl) i rfl (by omega) ?_
                      have hb5002 := Own.elem TMove.enc_len (O17.ext (Ext.trans (Ext.trans (Ext.trans (Ext.trans (Ext.trans (Ext.trans (Ext.trans (Ext.trans (Ext.trans (Ext.trans (Ext.trans (Ext.trans (Ext.trans (Ext.trans (Ext.trans (Ext.trans (Ext.trans (Ext.trans (Ext.trans (Ext.trans (Ext.trans (Ext.but_trans (Ext.trans (Ext.trans (Ext.trans (Ext.trans (Ext.but_trans (Ext.trans (Ext.trans (Ext.trans e25 e32) e45) e47) c48.but (Nat.le_trans (Below.size (Ext.trans (Ext.trans e25 e32) e45)) g47)) e54) e61) e84) e86) c87.but (Nat.le_trans (Below.size (Ext.trans (Ext.trans (Ext.trans (Ext.but_trans (Ext.trans (Ext.trans (Ext.trans e25 e32) e45) e47) c48.but (Nat.le_trans (Below.size (Ext.trans (Ext.trans e25 e32) e45)) g47)) e54) e61) e84)) g86)) e93) e100) e111) e113) e120) e124) e131) e138) e152) e2147) e2149) e2152) e2156) e2159) e2161) e2163) e2165) e2167) hX) hX2) hX3)) hm
                      conv => whnf
                      refine SemK.load1 (by kernel_rfl) hb5002 (k := 0) rfl ?_
                      conv => whnf
                      with_reducible refine IfB.dec (fun h5003 => ?_) (fun h5003 => ?_)
                      · rw [if_pos h5003] at hsm
                        conv => whnf
                        refine SemK.indexOwn (sz := 2) (by kernel_rfl) i rfl (by omega) ?_
                        have hb5005 := Own.elem TMove.enc_len (O17.ext (Ext.trans (Ext.trans (Ext.trans (Ext.trans (Ext.trans (Ext.trans (Ext.trans (Ext.trans (Ext.trans (Ext.trans (Ext.trans (Ext.trans (Ext.trans (Ext.trans (Ext.trans (Ext.trans (Ext.trans (Ext.trans (Ext.trans (Ext.trans (Ext.trans (Ext.but_trans (Ext.trans (Ext.trans (Ext.trans (Ext.trans (Ext.but_trans (Ext.trans (Ext.trans (Ext.trans e25 e32) e45) e47) c48.but (Nat.le_trans (Below.size (Ext.trans (Ext.trans e25 e32) e45)) g47)) e54) e61) e84) e86) c87.but (Nat.le_trans (Below.size (Ext.trans (Ext.trans (Ext.trans (Ext.but_trans (Ext.trans (Ext.trans (Ext.trans e25 e32) e45) e47) c48.but (Nat.le_trans (Below.size (Ext.trans (Ext.trans e25 e32) e45)) g47)) e54) e61) e84)) g86)) e93) e100) e111) e113) e120) e124) e131) e138) e152) e2147) e2149) e2152) e2156) e2159) e2161) e2163) e2165) e2167) hX) hX2) hX3)) hm
                        conv => whnf
                        refine SemK.load1 (by kernel_rfl) hb5005 (k := 1) rfl ?_
                        conv => whnf
                        refine SemK.add (x.count + sumM (j2 : Int) (ms9.take (i + 1))) (by omega) (by omega) (by omega) ?_
                        conv => whnf
                        refine SemK.add (((i + 1 : Nat) : Int)) (by omega) (by omega) (by omega) ?_
                        conv => whnf
                        exact ⟨i + 1, by omega, rfl, by omega, hX3⟩
                      · rw [if_neg h5003, Int.add_zero] at hsm
                        conv => whnf
                        refine SemK.add (((i + 1 : Nat) : Int)) (by omega) (by omega) (by omega) ?_
                        conv => whnf
                        exact ⟨i + 1, by omega, by rw [hsm]; rfl, by omega, hX3⟩
                    · obtain rfl : i = cc := by omega
                      have hbi := hbs i (Nat.le_refl _)
                      conv => whnf
                      refine IfB.no (by omega) ?_
                      conv => whnf
                      obtain ⟨b5002, rfl⟩ := ((O31.ext (Ext.trans (Ext.trans (Ext.trans (Ext.trans (Ext.trans (Ext.trans (Ext.trans (Ext.trans (Ext.trans (Ext.trans (Ext.trans (Ext.trans (Ext.trans (Ext.trans (Ext.trans (Ext.trans (Ext.trans (Ext.trans (Ext.trans (Ext.trans (Ext.trans (Ext.but_trans (Ext.trans (Ext.trans (Ext.trans (Ext.trans (Ext.but_trans (Ext.trans e45 e47) c48.but (Nat.le_trans (Below.size e45) g47)) e54) e61) e84) e86) c87.but (Nat.le_trans (Below.size (Ext.trans (Ext.trans (Ext.trans (Ext.but_trans (Ext.trans e45 e47) c48.but (Nat.le_trans (Below.size e45) g47)) e54) e61) e84)) g86)) e93) e100) e111) e113) e120) e124) e131) e138) e152) e2147) e2149) e2152) e2156) e2159) e2161) e2163) e2165) e2167) hX) hX2) hX3))).some (by omega)
                      have lb5002 : b5002 < w33.heap.size := O31.lt _ rfl
                      refine SemK.indexOwn (sz := 4) (by kernel_rfl) j2 rfl (by omega) ?_
                      have hb5002 := Own.elem TPart.enc_len (O31.ext (Ext.trans (Ext.trans (Ext.trans (Ext.trans (Ext.trans (Ext.trans (Ext.trans (Ext.trans (Ext.trans (Ext.trans (Ext.trans (Ext.trans (Ext.trans (Ext.trans (Ext.trans (Ext.trans (Ext.trans (Ext.trans (Ext.trans (Ext.trans (Ext.trans (Ext.but_trans (Ext.trans (Ext.trans (Ext.trans (Ext.trans (Ext.but_trans (Ext.trans e45 e47) c48.but (Nat.le_trans (Below.size e45) g47)) e54) e61) e84) e86) c87.but (Nat.le_trans (Below.size (Ext.trans (Ext.trans (Ext.trans (Ext.but_trans (Ext.trans e45 e47) c48.but (Nat.le_trans (Below.size e45) g47)) e54) e61) e84)) g86)) e93) e100) e111) e113) e120) e124) e131) e138) e152) e2147) e2149) e2152) e2156) e2159) e2161) e2163) e2165) e2167) hX) hX2) hX3)) hy2
                      conv => whnf
                      refine SemK.load1 (by kernel_rfl) hb5002 (k := 1) rfl ?_
                      conv => whnf
                      refine IfB.eqf (by simp [*]; done) ?_
                      conv => whnf
                      refine SemK.add (((j2 + 1 : Nat) : Int)) (by omega) (by omega) (by omega) ?_
                      conv => whnf
                      exact ⟨j2 + 1, by omega, rfl, by omega, (Ext.trans hX2 hX3)⟩
                  · conv => whnf
                    refine IfB.no (by omega) ?_
                    conv => whnf
                    exact ⟨rfl, (Ext.trans (Ext.trans (Ext.trans (Ext.trans (Ext.trans (Ext.trans (Ext.trans (Ext.trans (Ext.trans (Ext.trans (Ext.trans (Ext.trans (Ext.trans (Ext.trans (Ext.trans (Ext.trans (Ext.trans (Ext.trans (Ext.trans (Ext.trans (Ext.but_trans (Ext.trans (Ext.trans (Ext.trans (Ext.trans (Ext.but_trans (Ext.trans (Ext.trans (Ext.trans (Ext.trans e18 e25) e32) e45) e47) c48.but (Nat.le_trans (Below.size (Ext.trans (Ext.trans (Ext.trans e18 e25) e32) e45)) g47)) e54) e61) e84) e86) c87.but (Nat.le_trans (Below.size (Ext.trans (Ext.trans (Ext.trans (Ext.but_trans (Ext.trans (Ext.trans (Ext.trans (Ext.trans e18 e25) e32) e45) e47) c48.but (Nat.le_trans (Below.size (Ext.trans (Ext.trans (Ext.trans e18 e25) e32) e45)) g47)) e54) e61) e84)) g86)) e93) e100) e111) e113) e120) e124) e131) e138) e152) e2147) e2149) e2152) e2156) e2159) e2161) e2163) e2165) e2167) hX) hX2)⟩
      · conv => whnf
        refine SemK.neqB (by kernel_rfl) ?_
        conv => whnf
        refine IfB.eqf (by simp; done) ?_
        conv => whnf
        refine (spec_SameParts ((O130.ext (Ext.trans (Ext.trans (Ext.trans (Ext.trans e138 e152) e2147) e2149) e2152)).arr TPart.enc_len) ((O137.ext (Ext.trans (Ext.trans (Ext.trans e152 e2147) e2149) e2152)).arr TPart.enc_len) hr2 hr2).mono ?_
        rintro _ w2170 ⟨rfl, e2169⟩
        conv => whnf
        refine IfB.eqf (by simp; done) ?_
        conv => whnf
        refine (impl_SameParts (A150.ext (Ext.trans (Ext.trans (Ext.trans e2147 e2149) e2152) e2169)) (A151.ext (Ext.trans (Ext.trans (Ext.trans e2147 e2149) e2152) e2169)) q148 q149).mono ?_
        rintro _ w2172 ⟨rfl, e2171⟩
        conv => whnf
        refine (spec_SameParts (A150.ext (Ext.trans (Ext.trans (Ext.trans (Ext.trans e2147 e2149) e2152) e2169) e2171)) (A151.ext (Ext.trans (Ext.trans (Ext.trans (Ext.trans e2147 e2149) e2152) e2169) e2171)) q148 q149).mono ?_
        rintro _ w2174 ⟨rfl, e2173⟩
        conv => whnf
        refine SemK.neqB (by kernel_rfl) ?_
        conv => whnf
        refine IfB.eqf (by simp; done) ?_
        conv => whnf
        refine (impl_ValidParts ((O16.ext (Ext.trans (Ext.trans (Ext.trans (Ext.trans (Ext.trans (Ext.trans (Ext.trans (Ext.trans (Ext.trans (Ext.trans (Ext.trans (Ext.trans (Ext.trans (Ext.trans (Ext.trans (Ext.but_trans (Ext.trans (Ext.trans (Ext.trans (Ext.trans (Ext.but_trans (Ext.trans (Ext.trans (Ext.trans e25 e32) e45) e47) c48.but (Nat.le_trans (Below.size (Ext.trans (Ext.trans e25 e32) e45)) g47)) e54) e61) e84) e86) c87.but (Nat.le_trans (Below.size (Ext.trans (Ext.trans (Ext.trans (Ext.but_trans (Ext.trans (Ext.trans (Ext.trans e25 e32) e45) e47) c48.but (Nat.le_trans (Below.size (Ext.trans (Ext.trans e25 e32) e45)) g47)) e54) e61) e84)) g86)) e93) e100) e111) e113) e120) e124) e131) e138) e152) e2147) e2149) e2152) e2169) e2171) e2173)).arr TPart.enc_len) q12 q11).mono ?_
        rintro _ w2176 ⟨rfl, e2175⟩
        conv => whnf
        refine (spec_ValidParts ((O16.ext (Ext.trans (Ext.trans (Ext.trans (Ext.trans (Ext.trans (Ext.trans (Ext.trans (Ext.trans (Ext.trans (Ext.trans (Ext.trans (Ext.trans (Ext.trans (Ext.trans (Ext.trans (Ext.trans (Ext.but_trans (Ext.trans (Ext.trans (Ext.trans (Ext.trans (Ext.but_trans (Ext.trans (Ext.trans (Ext.trans e25 e32) e45) e47) c48.but (Nat.le_trans (Below.size (Ext.trans (Ext.trans e25 e32) e45)) g47)) e54) e61) e84) e86) c87.but (Nat.le_trans (Below.size (Ext.trans (Ext.trans (Ext.trans (Ext.but_trans (Ext.trans (Ext.trans (Ext.trans e25 e32) e45) e47) c48.but (Nat.le_trans (Below.size (Ext.trans (Ext.trans e25 e32) e45)) g47)) e54) e61) e84)) g86)) e93) e100) e111) e113) e120) e124) e131) e138) e152) e2147) e2149) e2152) e2169) e2171) e2173) e2175)).arr TPart.enc_len) q12).mono ?_
        rintro _ w2178 ⟨rfl, e2177⟩
        conv => whnf
        refine SemK.neqB (by kernel_rfl) ?_
        conv => whnf
        refine IfB.eqf (by simp; done) ?_
        conv => whnf
        refine LoopK.rule [3, 4, 7, 8, 9, 11, 12, 13, 14, 20, 22, 35] (fun (j : Nat) vs w' => vs = [.slice a'2 n'3 c'4, .slice a26 n27 c28, .int .i64 (applyMovesM xs5 ms9).2.2, .slice a'27 n'28 c'29, .int .i64 (applyMovesM xs5 ms9).2.1, .slice a'34 n'35 c'36, .pointer (some ⟨b47, 0, none⟩), .slice a'49 n'50 c'51, .int .i64 (applyMoveM xs37 m38).2, .slice a'88 n'89 c'90, .slice a'95 n'96 c'97, .int .i64 j] ∧ j ≤ n'89 ∧ Ext w2178 w') (fun j => n'89 - j) tab tabok (by kernel_rfl) 0
          ⟨rfl, by omega, Ext.refl _⟩ ?_
        rintro j g _ w3000 ⟨rfl, hj, hX⟩
        rcases Nat.lt_or_ge j n'89 with hjn | hjn
        · obtain ⟨y, hy⟩ := get_of_lt (l := (movesFromM ps66 wd67 its71 d75).1) (k := j) (by omega)
          conv => whnf
          refine IfB.yes (by omega) ?_
          conv => whnf
          refine DrawK.det tabok mixed (by kernel_rfl) (by kernel_rfl) ?_
          conv => whnf
          obtain ⟨b3002, rfl⟩ := ((O92.ext (Ext.trans (Ext.trans (Ext.trans (Ext.trans (Ext.trans (Ext.trans (Ext.trans (Ext.trans (Ext.trans (Ext.trans (Ext.trans (Ext.trans (Ext.trans (Ext.trans (Ext.trans (Ext.trans e100 e111) e113) e120) e124) e131) e138) e152) e2147) e2149) e2152) e2169) e2171) e2173) e2175) e2177) hX))).some (by omega)
          have lb3002 : b3002 < w94.heap.size := O92.lt _ rfl
          refine DSemK.indexOwn (sz := 2) (by kernel_rfl) j rfl (by omega) ?_
          have hb3002 := Own.elem TMove.enc_len (O92.ext (Ext.trans (Ext.trans (Ext.trans (Ext.trans (Ext.trans (Ext.trans (Ext.trans (Ext.trans (Ext.trans (Ext.trans (Ext.trans (Ext.trans (Ext.trans (Ext.trans (Ext.trans (Ext.trans e100 e111) e113) e120) e124) e131) e138) e152) e2147) e2149) e2152) e2169) e2171) e2173) e2175) e2177) hX)) hy
          conv => whnf
          refine DSemK.loadAgg (n := 2) (by kernel_rfl) hb3002 rfl ?_
          conv => whnf
          obtain ⟨b3004, rfl⟩ := ((O99.ext (Ext.trans (Ext.trans (Ext.trans (Ext.trans (Ext.trans (Ext.trans (Ext.trans (Ext.trans (Ext.trans (Ext.trans (Ext.trans (Ext.trans (Ext.trans (Ext.trans (Ext.trans e111 e113) e120) e124) e131) e138) e152) e2147) e2149) e2152) e2169) e2171) e2173) e2175) e2177) hX))).some (by omega)
          have lb3004 : b3004 < w101.heap.size := O99.lt _ rfl
          refine DSemK.indexOwn (sz := 2) (by kernel_rfl) j rfl (by omega) ?_
          have hb3004 := Own.elem TMove.enc_len (O99.ext (Ext.trans (Ext.trans (Ext.trans (Ext.trans (Ext.trans (Ext.trans (Ext.trans (Ext.trans (Ext.trans (Ext.trans (Ext.trans (Ext.trans (Ext.trans (Ext.trans (Ext.trans e111 e113) e120) e124) e131) e138) e152) e2147) e2149) e2152) e2169) e2171) e2173) e2175) e2177) hX)) hy
          conv => whnf
          refine DSemK.loadAgg (n := 2) (by kernel_rfl) hb3004 rfl ?_
          conv => whnf
          have hyo := moves_oks y (List.mem_of_getElem? hy)
          refine DSemK.neqFlat (ks := [false, false]) (by kernel_rfl) (by kernel_rfl) (TMove.flat hyo) (TMove.flat hyo) ?_
          rw [TMove.eq_flat]
          conv => whnf
          intro w3005 e3005
          conv => whnf
          refine IfB.eqf (by simp; done) ?_
          conv => whnf
          refine SemK.add (((j + 1 : Nat) : Int)) (by omega) (by omega) (by omega) ?_
          conv => whnf
          exact ⟨j + 1, by omega, rfl, by omega, Ext.trans hX e3005⟩
        · conv => whnf
          refine IfB.no (by omega) ?_
          conv => whnf
          with_reducible refine IfB.dec (fun h3001 => ?_) (fun h3001 => ?_)
          · have hAg := fun u e => hAgain h3001 u e
            have hcn := applyMove_cnt h3001
            conv => whnf
            refine SemK.load1 (by kernel_rfl) (B48.ext (Ext.trans (Ext.trans (Ext.trans (Ext.trans (Ext.trans (Ext.trans (Ext.trans (Ext.trans (Ext.trans (Ext.trans (Ext.trans (Ext.trans (Ext.trans (Ext.trans (Ext.trans (Ext.trans (Ext.trans (Ext.trans (Ext.but_trans (Ext.trans (Ext.trans (Ext.trans e54 e61) e84) e86) c87.but (Nat.le_trans (Below.size (Ext.trans (Ext.trans e54 e61) e84)) g86)) e93) e100) e111) e113) e120) e124) e131) e138) e152) e2147) e2149) e2152) e2169) e2171) e2173) e2175) e2177) hX)).cells (k := 0) rfl ?_
            conv => whnf
            refine SemK.load1 (by kernel_rfl) (B48.ext (Ext.trans (Ext.trans (Ext.trans (Ext.trans (Ext.trans (Ext.trans (Ext.trans (Ext.trans (Ext.trans (Ext.trans (Ext.trans (Ext.trans (Ext.trans (Ext.trans (Ext.trans (Ext.trans (Ext.trans (Ext.trans (Ext.but_trans (Ext.trans (Ext.trans (Ext.trans e54 e61) e84) e86) c87.but (Nat.le_trans (Below.size (Ext.trans (Ext.trans e54 e61) e84)) g86)) e93) e100) e111) e113) e120) e124) e131) e138) e152) e2147) e2149) e2152) e2169) e2171) e2173) e2175) e2177) hX)).cells (k := 1) rfl ?_
            conv => whnf
            refine SemK.neg (-m38.count) rfl (by omega) (by omega) ?_
            conv => whnf
            refine SemK.build st_59 rfl ?_
            conv => whnf
            refine (hAg _ (Ext.trans (Ext.trans (Ext.trans (Ext.trans (Ext.trans (Ext.trans (Ext.trans (Ext.trans (Ext.trans (Ext.trans (Ext.trans (Ext.trans (Ext.trans (Ext.trans (Ext.trans (Ext.trans (Ext.trans (Ext.trans (Ext.but_trans (Ext.trans (Ext.trans e61 e84) e86) c87.but (Nat.le_trans (Below.size (Ext.trans e61 e84)) g86)) e93) e100) e111) e113) e120) e124) e131) e138) e152) e2147) e2149) e2152) e2169) e2171) e2173) e2175) e2177) hX)).mono ?_
            rintro _ w3008 ⟨a'3002, n'3003, c'3004, rfl, N3005, O3006, e3007⟩
            conv => whnf
            refine (spec_SameParts (O3006.arr TPart.enc_len) ((O44.ext (Ext.trans (Ext.trans (Ext.trans (Ext.trans (Ext.trans (Ext.trans (Ext.trans (Ext.trans (Ext.trans (Ext.trans (Ext.trans (Ext.trans (Ext.trans (Ext.trans (Ext.trans (Ext.trans (Ext.trans (Ext.trans (Ext.trans (Ext.but_trans (Ext.trans (Ext.trans (Ext.trans (Ext.trans (Ext.but_trans e47 c48.but g47) e54) e61) e84) e86) c87.but (Nat.le_trans (Below.size (Ext.trans (Ext.trans (Ext.trans (Ext.but_trans e47 c48.but g47) e54) e61) e84)) g86)) e93) e100) e111) e113) e120) e124) e131) e138) e152) e2147) e2149) e2152) e2169) e2171) e2173) e2175) e2177) hX) e3007)).arr TPart.enc_len) q41 q41).mono ?_
            rintro _ w3010 ⟨rfl, e3009⟩
            conv => whnf
            refine IfB.eqf (by simp; done) ?_
            conv => whnf
            with_reducible refine IfB.ndec (fun h3011 => ?_) (fun h3011 => ?_)
            · conv => whnf
              exact ⟨rfl, (Ext.trans (Ext.trans (Ext.trans (Ext.trans (Ext.trans (Ext.trans (Ext.trans (Ext.trans (Ext.trans (Ext.trans (Ext.trans (Ext.trans (Ext.trans (Ext.trans (Ext.trans (Ext.trans (Ext.trans (Ext.trans (Ext.trans (Ext.trans (Ext.but_trans (Ext.trans (Ext.trans (Ext.trans (Ext.trans (Ext.but_trans (Ext.trans (Ext.trans (Ext.trans (Ext.trans e18 e25) e32) e45) e47) c48.but (Nat.le_trans (Below.size (Ext.trans (Ext.trans (Ext.trans e18 e25) e32) e45)) g47)) e54) e61) e84) e86) c87.but (Nat.le_trans (Below.size (Ext.trans (Ext.trans (Ext.trans (Ext.but_trans (Ext.trans (Ext.trans (Ext.trans (Ext.trans e18 e25) e32) e45) e47) c48.but (Nat.le_trans (Below.size (Ext.trans (Ext.trans (Ext.trans e18 e25) e32) e45)) g47)) e54) e61) e84)) g86)) e93) e100) e111) e113) e120) e124) e131) e138) e152) e2147) e2149) e2152) e2169) e2171) e2173) e2175) e2177) hX) e3007) e3009)⟩
            · conv => whnf
              obtain ⟨cc, hcc, hcl, hlen, hsum⟩ := applyMoves_sum h3011
              have hLx := (O16.arr TPart.enc_len).len
              have hLy := (O31.arr TPart.enc_len).len
              have hLm := (O17.arr TMove.enc_len).len
              refine LoopK.rule [3, 4, 8, 9, 38] (fun (j : Nat) vs w' => vs = [.slice a'2 n'3 c'4, .slice a26 n27 c28, .slice a'27 n'28 c'29, .int .i64 (applyMovesM xs5 ms9).2.1, .int .i64 j] ∧ j ≤ n'3 ∧ Ext w3010 w') (fun j => n'3 - j) tab tabok (by kernel_rfl) 0
                ⟨rfl, by omega, Ext.refl _⟩ ?_
              rintro j2 g2 _ w4000 ⟨rfl, hj2, hX2⟩
              rcases Nat.lt_or_ge j2 n'3 with hj2n | hj2n
              · obtain ⟨x, hx⟩ := get_of_lt (l := xs5) (k := j2) (by omega)
                obtain ⟨⟨y2, hy2, hyc⟩, hbs⟩ := hsum j2 x hx
                have hb0 := hbs 0 (Nat.zero_le _)
                conv => whnf
                refine IfB.yes (by omega) ?_
                conv => whnf
                obtain ⟨b4002, rfl⟩ := ((O16.ext (Ext.trans (Ext.trans (Ext.trans (Ext.trans (Ext.trans (Ext.trans (Ext.trans (Ext.trans (Ext.trans (Ext.trans (Ext.trans (Ext.trans (Ext.trans (Ext.trans (Ext.trans (Ext.trans (Ext.trans (Ext.trans (Ext.trans (Ext.trans (Ext.trans (Ext.but_trans (Ext.trans (Ext.trans (Ext.trans (Ext.trans (Ext.but_trans (Ext.trans (Ext.trans (Ext.trans e25 e32) e45) e47) c48.but (Nat.le_trans (Below.size (Ext.trans (Ext.trans e25 e32) e45)) g47)) e54) e61) e84) e86) c87.but (Nat.le_trans (Below.size (Ext.trans (Ext.trans (Ext.trans (Ext.but_trans (Ext.trans (Ext.trans (Ext.trans e25 e32) e45) e47) c48.but (Nat.le_trans (Below.size (Ext.trans (Ext.trans e25 e32) e45)) g47)) e54) e61) e84)) g86)) e93) e100) e111) e113) e120) e124) e131) e138) e152) e2147) e2149) e2152) e2169) e2171) e2173) e2175) e2177) hX) e3007) e3009) hX2))).some (by omega)
                have lb4002 : b4002 < w19.heap.size := O16.lt _ rfl
                refine SemK.indexOwn (sz := 4) (by kernel_rfl) j2 rfl (by omega) ?_
                have hb4002 := Own.elem TPart.enc_len (O16.ext (Ext.trans (Ext.trans (Ext.trans (Ext.trans (Ext.trans (Ext.trans (Ext.trans (Ext.trans (Ext.trans (Ext.trans (Ext.trans (Ext.trans (Ext.trans (Ext.trans (Ext.trans (Ext.trans (Ext.trans (Ext.trans (Ext.trans (Ext.trans (Ext.trans (Ext.but_trans (Ext.trans (Ext.trans (Ext.trans (Ext.trans (Ext.but_trans (Ext.trans (Ext.trans (Ext.trans e25 e32) e45) e47) c48.but (Nat.le_trans (Below.size (Ext.trans (Ext.trans e25 e32) e45)) g47)) e54) e61) e84) e86) c87.but (Nat.le_trans (Below.size (Ext.trans (Ext.trans (Ext.trans (Ext.but_trans (Ext.trans (Ext.trans (Ext.trans e25 e32) e45) e47) c48.but (Nat.le_trans (Below.size (Ext.trans (Ext.trans e25 e32) e45)) g47)) e54) e61) e84)) g86)) e93) e100) e111) e113) e120) e124) e131) e138) e152) e2147) e2149) e2152) e2169) e2171) e2173) e2175) e2177) hX) e3007) e3009) hX2)) hx
                conv => whnf
                refine SemK.load1 (by kernel_rfl) hb4002 (k := 1) rfl ?_
                conv => whnf
                have hs0 : x.count + sumM (j2 : Int) (ms9.take 0) = x.count := by simp [sumM]
                refine LoopK.rule [3, 4, 8, 9, 38, 39, 40] (fun (i : Nat) vs w' => vs = [.slice (some ⟨b4002, 0, none⟩) n'3 c'4, .slice a26 n27 c28, .slice a'27 n'28 c'29, .int .i64 (applyMovesM xs5 ms9).2.1, .int .i64 (j2 : Nat), .int .i64 (x.count + sumM (j2 : Int) (ms9.take i)), .int .i64 (i : Nat)] ∧ i ≤ cc ∧ Ext w4000 w') (fun i => cc - i) tab tabok (by kernel_rfl) 0
                  ⟨by rw [hs0]; rfl, by omega, Ext.refl _⟩ ?_
                rintro i g3 _ w5000 ⟨rfl, hi, hX3⟩
                rcases Nat.lt_or_ge i cc with hic | hic
                · obtain ⟨m, hm⟩ := get_of_lt (l := ms9) (k := i) (by omega)
                  have hsm := sumM_take (i := (j2 : Int)) hm
                  have hbi := hbs i (by omega)
                  have hbi1 := hbs (i + 1) (by omega)
                  conv => whnf
                  refine IfB.yes (by omega) ?_
                  conv => whnf
                  obtain ⟨b5002, rfl⟩ := ((O17.ext (Ext.trans (Ext.trans (Ext.trans (Ext.trans (Ext.trans (Ext.trans (Ext.trans (Ext.trans (Ext.trans (Ext.trans (Ext.trans (Ext.trans (Ext.trans (Ext.trans (Ext.trans (Ext.trans (Ext.trans (Ext.trans (Ext.trans (Ext.trans (Ext.trans (Ext.trans (Ext.but_trans (Ext.trans (Ext.trans (Ext.trans (Ext.trans (Ext.but_trans (Ext.trans (Ext.trans (Ext.trans e25 e32) e45) e47) c48.but (Nat.le_trans (Below.size (Ext.trans (Ext.trans e25 e32) e45)) g47)) e54) e61) e84) e86) c87.but (Nat.le_trans (Below.size (Ext.trans (Ext.trans (Ext.trans (Ext.but_trans (Ext.trans (Ext.trans (Ext.trans e25 e32) e45) e47) c48.but (Nat.le_trans (Below.size (Ext.trans (Ext.trans e25 e32) e45)) g47)) e54) e61) e84)) g86)) e93) e100) e111) e113) e120) e124) e131) e138) e152) e2147) e2149) e2152) e2169) e2171) e2173) e2175) e2177) hX) e3007) e3009) hX2) hX3))).some (by omega)
                  have lb5002 : b5002 < w19.heap.size := O17.lt _ rfl
                  refine SemK.indexOwn (sz := 2) (by kernel_rfl) i rfl (by omega) ?_
                  have hb5002 := Own.elem TMove.enc_len (O17.ext (Ext.trans (Ext.trans (Ext.trans (Ext.trans (Ext.trans (Ext.trans (Ext.trans (Ext.trans (Ext.trans (Ext.trans (Ext.trans (Ext.trans (Ext.trans (Ext.trans (Ext.trans (Ext.trans (Ext.trans (Ext.trans (Ext.trans (Ext.trans (Ext.trans (Ext.trans (Ext.but_trans (Ext.trans (Ext.trans (Ext.trans (Ext.trans (Ext.but_trans (Ext.trans (Ext.trans (Ext.trans e25 e32) e45) e47) c48.but (Nat.le_trans (Below.size (Ext.trans (Ext.trans e25 e32) e45)) g47)) e54) e61) e84) e86) c87.but (Nat.le_trans (Below.size (Ext.trans (Ext.trans (Ext.trans (Ext.but_trans (Ext.trans (Ext.trans (Ext.trans e25 e32) e45) e47) c48.but (Nat.le_trans (Below.size (Ext.trans (Ext.trans e25 e32) e45)) g47)) e54) e61) e84)) g86)) e93) e100) e111) e113) e120) e124) e131) e138) e152) e2147) e2149) e2152) e2169) e2171) e2173) e2175) e2177) hX) e3007) e3009) hX2) hX3)) hm
                  conv => whnf
                  refine SemK.load1 (by kernel_rfl) hb5002 (k := 0) rfl ?_
                  conv => whnf
                  with_reducible refine IfB.dec (fun h5003 => ?_) (fun h5003 => ?_)
                  · rw [if_pos h5003] at hsm
                    conv => whnf
                    refine SemK.indexOwn (sz := 2) (by kernel_rfl) i rfl (by omega) ?_
                    have hb5005 := Own.elem TMove.enc_len (O17.ext (Ext.trans (Ext.trans (Ext.trans (Ext.trans (Ext.trans (Ext.trans (Ext.trans (Ext.trans (Ext.trans (Ext.trans (Ext.trans (Ext.trans (Ext.trans (Ext.trans (Ext.trans (Ext.trans (Ext.trans (Ext.trans (Ext.trans (Ext.trans (Ext.trans (Ext.trans (Ext.but_trans (Ext.trans (Ext.trans (Ext.trans (Ext.trans (Ext.but_trans (Ext.trans (Ext.trans (Ext.trans e25 e32) e45) e47) c48.but (Nat.le_trans (Below.size (Ext.trans (Ext.trans e25 e32) e45)) g47)) e54) e61) e84) e86) c87.but (Nat.le_trans (Below.size (Ext.trans (Ext.trans (Ext.trans (Ext.but_trans (Ext.trans (Ext.trans (Ext.trans e25 e32) e45) e47) c48.but (Nat.le_trans (Below.size (Ext.trans (Ext.trans e25 e32) e45)) g47)) e54) e61) e84)) g86)) e93) e100) e111) e113) e120) e124) e131) e138) e152) e2147) e2149) e2152) e2169) e2171) e2173) e2175) e2177) hX) e3007) e3009) hX2) hX3)) hm
                    conv => whnf
                    refine SemK.load1 (by kernel_rfl) hb5005 (k := 1) rfl ?_
                    conv => whnf
                    refine SemK.add (x.count + sumM (j2 : Int) (ms9.take (i + 1))) (by omega) (by omega) (by omega) ?_
                    conv => whnf
                    refine SemK.add (((i + 1 : Nat) : Int)) (by omega) (by omega) (by omega) ?_
                    conv => whnf
                    exact ⟨i + 1, by omega, rfl, by omega, hX3⟩
                  · rw [if_neg h5003, Int.add_zero] at hsm
                    conv => whnf
                    refine SemK.add (((i + 1 : Nat) : Int)) (by omega) (by omega) (by omega) ?_
                    conv => whnf
                    exact ⟨i + 1, by omega, by rw [hsm]; rfl, by omega, hX3⟩
                · obtain rfl : i = cc := by omega
                  have hbi := hbs i (Nat.le_refl _)
                  conv => whnf
                  refine IfB.no (by omega) ?_
                  conv => whnf
                  obtain ⟨b5002, rfl⟩ := ((O31.ext (Ext.trans (Ext.trans (Ext.trans (Ext.trans (Ext.trans (Ext.trans (Ext.trans (Ext.trans (Ext.trans (Ext.trans (Ext.trans (Ext.trans (Ext.trans (Ext.trans (Ext.trans (Ext.trans (Ext.trans (Ext.trans (Ext.trans (Ext.trans (Ext.trans (Ext.trans (Ext.but_trans (Ext.trans (Ext.trans (Ext.trans (Ext.trans (Ext.but_trans (Ext.trans e45 e47) c48.but (Nat.le_trans (Below.size e45) g47)) e54) e61) e84) e86) c87.but (Nat.le_trans (Below.size (Ext.trans (Ext.trans (Ext.trans (Ext.but_trans (Ext.trans e45 e47) c48.but (Nat.le_trans (Below.size e45) g47)) e54) e61) e84)) g86)) e93) e100) e111) e113) e120) e124) e131) e138) e152) e2147) e2149) e2152) e2169) e2171) e2173) e2175) e2177) hX) e3007) e3009) hX2) hX3))).some (by omega)
                  have lb5002 : b5002 < w33.heap.size := O31.lt _ rfl
                  refine SemK.indexOwn (sz := 4) (by kernel_rfl) j2 rfl (by omega) ?_
                  have hb5002 := Own.elem TPart.enc_len (O31.ext (Ext.trans (Ext.trans (Ext.trans (Ext.trans (Ext.trans (Ext.trans (Ext.trans (Ext.trans (Ext.trans (Ext.trans (Ext.trans (Ext.trans (Ext.trans (Ext.trans (Ext.trans (Ext.trans (Ext.trans (Ext.trans (Ext.trans (Ext.trans (Ext.trans (Ext.trans (Ext.but_trans (Ext.trans (Ext.trans (Ext.trans (Ext.trans (Ext.but_trans (Ext.trans e45 e47) c48.but (Nat.le_trans (Below.size e45) g47)) e54) e61) e84) e86) c87.but (Nat.le_trans (Below.size (Ext.trans (Ext.trans (Ext.trans (Ext.but_trans (Ext.trans e45 e47) c48.but (Nat.le_trans (Below.size e45) g47)) e54) e61) e84)) g86)) e93) e100) e111) e113) e120) e124) e131) e138) e152) e2147) e2149) e2152) e2169) e2171) e2173) e2175) e2177) hX) e3007) e3009) hX2) hX3)) hy2
                  conv => whnf
                  refine SemK.load1 (by kernel_rfl) hb5002 (k := 1) rfl ?_
                  conv => whnf
                  refine IfB.eqf (by simp [*]; done) ?_
                  conv => whnf
                  refine SemK.add (((j2 + 1 : Nat) : Int)) (by omega) (by omega) (by omega) ?_
                  conv => whnf
                  exact ⟨j2 + 1, by omega, rfl, by omega, (Ext.trans hX2 hX3)⟩
              · conv => whnf
                refine IfB.no (by omega) ?_
                conv => whnf
                exact ⟨rfl, (Ext.trans (Ext.trans (Ext.trans (Ext.trans (Ext.trans (Ext.trans (Ext.trans (Ext.trans (Ext.trans (Ext.trans (Ext.trans (Ext.trans (Ext.trans (Ext.trans (Ext.trans (Ext.trans (Ext.trans (Ext.trans (Ext.trans (Ext.trans (Ext.trans (Ext.but_trans (Ext.trans (Ext.trans (Ext.trans (Ext.trans (Ext.but_trans (Ext.trans (Ext.trans (Ext.trans (Ext.trans e18 e25) e32) e45) e47) c48.but (Nat.le_trans (Below.size (Ext.trans (Ext.trans (Ext.trans e18 e25) e32) e45)) g47)) e54) e61) e84) e86) c87.but (Nat.le_trans (Below.size (Ext.trans (Ext.trans (Ext.trans (Ext.but_trans (Ext.trans (Ext.trans (Ext.trans (Ext.trans e18 e25) e32) e45) e47) c48.but (Nat.le_trans (Below.size (Ext.trans (Ext.trans (Ext.trans e18 e25) e32) e45)) g47)) e54) e61) e84)) g86)) e93) e100) e111) e113) e120) e124) e131) e138) e152) e2147) e2149) e2152) e2169) e2171) e2173) e2175) e2177) hX) e3007) e3009) hX2)⟩
          · conv => whnf
            with_reducible refine IfB.ndec (fun h3002 => ?_) (fun h3002 => ?_)
            · conv => whnf
              exact ⟨rfl, (Ext.trans (Ext.trans (Ext.trans (Ext.trans (Ext.trans (Ext.trans (Ext.trans (Ext.trans (Ext.trans (Ext.trans (Ext.trans (Ext.trans (Ext.trans (Ext.trans (Ext.trans (Ext.trans (Ext.trans (Ext.trans (Ext.but_trans (Ext.trans (Ext.trans (Ext.trans (Ext.trans (Ext.but_trans (Ext.trans (Ext.trans (Ext.trans (Ext.trans e18 e25) e32) e45) e47) c48.but (Nat.le_trans (Below.size (Ext.trans (Ext.trans (Ext.trans e18 e25) e32) e45)) g47)) e54) e61) e84) e86) c87.but (Nat.le_trans (Below.size (Ext.trans (Ext.trans (Ext.trans (Ext.but_trans (Ext.trans (Ext.trans (Ext.trans (Ext.trans e18 e25) e32) e45) e47) c48.but (Nat.le_trans (Below.size (Ext.trans (Ext.trans (Ext.trans e18 e25) e32) e45)) g47)) e54) e61) e84)) g86)) e93) e100) e111) e113) e120) e124) e131) e138) e152) e2147) e2149) e2152) e2169) e2171) e2173) e2175) e2177) hX)⟩
            · conv => whnf
              obtain ⟨cc, hcc, hcl, hlen, hsum⟩ := applyMoves_sum h3002
              have hLx := (O16.arr TPart.enc_len).len
              have hLy := (O31.arr TPart.enc_len).len
              have hLm := (O17.arr TMove.enc_len).len
              refine LoopK.rule [3, 4, 8, 9, 38] (fun (j : Nat) vs w' => vs = [.slice a'2 n'3 c'4, .slice a26 n27 c28, .slice a'27 n'28 c'29, .int .i64 (applyMovesM xs5 ms9).2.1, .int .i64 j] ∧ j ≤ n'3 ∧ Ext w3000 w') (fun j => n'3 - j) tab tabok (by kernel_rfl) 0
                ⟨rfl, by omega, Ext.refl _⟩ ?_
              rintro j2 g2 _ w4000 ⟨rfl, hj2, hX2⟩
              rcases Nat.lt_or_ge j2 n'3 with hj2n | hj2n
              · obtain ⟨x, hx⟩ := get_of_lt (l := xs5) (k := j2) (by omega)
                obtain ⟨⟨y2, hy2, hyc⟩, hbs⟩ := hsum j2 x hx
                have hb0 := hbs 0 (Nat.zero_le _)
                conv => whnf
                refine IfB.yes (by omega) ?_
                conv => whnf
                obtain ⟨b4002, rfl⟩ := ((O16.ext (Ext.trans (Ext.trans (Ext.trans (Ext.trans (Ext.trans (Ext.trans (Ext.trans (Ext.trans (Ext.trans (Ext.trans (Ext.trans (Ext.trans (Ext.trans (Ext.trans (Ext.trans (Ext.trans (Ext.trans (Ext.trans (Ext.trans (Ext.but_trans (Ext.trans (Ext.trans (Ext.trans (Ext.trans (Ext.but_trans (Ext.trans (Ext.trans (Ext.trans e25 e32) e45) e47) c48.but (Nat.le_trans (Below.size (Ext.trans (Ext.trans e25 e32) e45)) g47)) e54) e61) e84) e86) c87.but (Nat.le_trans (Below.size (Ext.trans (Ext.trans (Ext.trans (Ext.but_trans (Ext.trans (Ext.trans (Ext.trans e25 e32) e45) e47) c48.but (Nat.le_trans (Below.size (Ext.trans (Ext.trans e25 e32) e45)) g47)) e54) e61) e84)) g86)) e93) e100) e111) e113) e120) e124) e131) e138) e152) e2147) e2149) e2152) e2169) e2171) e2173) e2175) e2177) hX) hX2))).some (by omega)
                have lb4002 : b4002 < w19.heap.size := O16.lt _ rfl
                refine SemK.indexOwn (sz := 4) (by kernel_rfl) j2 rfl (by omega) ?_
                have hb4002 := Own.elem TPart.enc_len (O16.ext (Ext.trans (Ext.trans (Ext.trans (Ext.trans (Ext.trans (Ext.trans (Ext.trans (Ext.trans (Ext.trans (Ext.trans (Ext.trans (Ext.trans (Ext.trans (Ext.trans (Ext.trans (Ext.trans (Ext.trans (Ext.trans (Ext.trans (Ext.but_trans (Ext.trans (Ext.trans (Ext.trans (Ext.trans (Ext.but_trans (Ext.trans (Ext.trans (Ext.trans e25 e32) e45) e47) c48.but (Nat.le_trans (Below.size (Ext.trans (Ext.trans e25 e32) e45)) g47)) e54) e61) e84) e86) c87.but (Nat.le_trans (Below.size (Ext.trans (Ext.trans (Ext.trans (Ext.but_trans (Ext.trans (Ext.trans (Ext.trans e25 e32) e45) e47) c48.but (Nat.le_trans (Below.size (Ext.trans (Ext.trans e25 e32) e45)) g47)) e54) e61) e84)) g86)) e93) e100) e111) e113) e120) e124) e131) e138) e152) e2147) e2149) e2152) e2169) e2171) e2173) e2175) e2177) hX) hX2)) hx
                conv => whnf
                refine SemK.load1 (by kernel_rfl) hb4002 (k := 1) rfl ?_
                conv => whnf
                have hs0 : x.count + sumM (j2 : Int) (ms9.take 0) = x.count := by simp [sumM]
                refine LoopK.rule [3, 4, 8, 9, 38, 39, 40] (fun (i : Nat) vs w' => vs = [.slice (some ⟨b4002, 0, none⟩) n'3 c'4, .slice a26 n27 c28, .slice a'27 n'28 c'29, .int .i64 (applyMovesM xs5 ms9).2.1, .int .i64 (j2 : Nat), .int .i64 (x.count + sumM (j2 : Int) (ms9.take i)), .int .i64 (i : Nat)] ∧ i ≤ cc ∧ Ext w4000 w') (fun i => cc - i) tab tabok (by kernel_rfl) 0
                  ⟨by rw [hs0]; rfl, by omega, Ext.refl _⟩ ?_
                rintro i g3 _ w5000 ⟨rfl, hi, hX3⟩
                rcases Nat.lt_or_ge i cc with hic | hic
                · obtain ⟨m, hm⟩ := get_of_lt (l := ms9) (k := i) (by omega)
                  have hsm := sumM_take (i := (j2 : Int)) hm
                  have hbi := hbs i (by omega)
                  have hbi1 := hbs (i + 1) (by omega)
                  conv => whnf
                  refine IfB.yes (by omega) ?_
                  conv => whnf
                  obtain ⟨b5002, rfl⟩ := ((O17.ext (Ext.trans (Ext.trans (Ext.trans (Ext.trans (Ext.trans (Ext.trans (Ext.trans (Ext.trans (Ext.trans (Ext.trans (Ext.trans (Ext.trans (Ext.trans (Ext.trans (Ext.trans (Ext.trans (Ext.trans (Ext.trans (Ext.trans (Ext.trans (Ext.but_trans (Ext.trans (Ext.trans (Ext.trans (Ext.trans (Ext.but_trans (Ext.trans (Ext.trans (Ext.trans e25 e32) e45) e47) c48.but (Nat.le_trans (Below.size (Ext.trans (Ext.trans e25 e32) e45)) g47)) e54) e61) e84) e86) c87.but (Nat.le_trans (Below.size (Ext.trans (Ext.trans (Ext.trans (Ext.but_trans (Ext.trans (Ext.trans (Ext.trans e25 e32) e45) e47) c48.but (Nat.le_trans (Below.size (Ext.trans (Ext.trans e25 e32) e45)) g47)) e54) e61) e84)) g86)) e93) e100) e111) e113) e120) e124) e131) e138) e152) e2147) e2149) e2152) e2169) e2171) e2173) e2175) e2177) hX) hX2) hX3))).some (by omega)
                  have lb5002 : b5002 < w19.heap.size := O17.lt _ rfl
                  refine SemK.indexOwn (sz := 2) (by kernel_rfl) i rfl (by omega) ?_
                  have hb5002 := Own.elem TMove.enc_len (O17.ext (Ext.trans (Ext.trans (Ext.trans (Ext.trans (Ext.trans (Ext.trans (Ext.trans (Ext.trans (Ext.trans (Ext.trans (Ext.trans (Ext.trans (Ext.trans (Ext.trans (Ext.trans (Ext.trans (Ext.trans (Ext.trans (Ext.trans (Ext.trans (Ext.but_trans (Ext.trans (Ext.trans (Ext.trans (Ext.trans (Ext.but_trans (Ext.trans (Ext.trans (Ext.trans e25 e32) e45) e47) c48.but (Nat.le_trans (Below.size (Ext.trans (Ext.trans e25 e32) e45)) g47)) e54) e61) e84) e86) c87.but (Nat.le_trans (Below.size (Ext.trans (Ext.trans (Ext.trans (Ext.but_trans (Ext.trans (Ext.trans (Ext.trans e25 e32) e45) e47) c48.but (Nat.le_trans (Below.size (Ext.trans (Ext.trans e25 e32) e45)) g47)) e54) e61) e84)) g86)) e93) e100) e111) e113) e120) e124) e131) e138) e152) e2147) e2149) e2152) e2169) e2171) e2173) e2175) e2177) hX) hX2) hX3)) hm
                  conv => whnf
                  refine SemK.load1 (by kernel_rfl) hb5002 (k := 0) rfl ?_
                  conv => whnf
                  with_reducible refine IfB.dec (fun h5003 => ?_) (fun h5003 => ?_)
                  · rw [if_pos h5003] at hsm
                    conv => whnf
                    refine SemK.indexOwn (sz := 2) (by kernel_rfl) i rfl (by omega) ?_
                    have hb5005 := Own.elem TMove.enc_len (O17.ext (Ext.trans (Ext.trans (Ext.trans (Ext.trans (Ext.trans (Ext.trans (Ext.trans (Ext.trans (Ext.trans (Ext.trans (Ext.trans (Ext.trans (Ext.trans (Ext.trans (Ext.trans (Ext.trans (Ext.trans (Ext.trans (Ext.trans (Ext.trans (Ext.but_trans (Ext.trans (Ext.trans (Ext.trans (Ext.trans (Ext.but_trans (Ext.trans (Ext.trans (Ext.trans e25 e32) e45) e47) c48.but (Nat.le_trans (Below.size (Ext.trans (Ext.trans e25 e32) e45)) g47)) e54) e61) e84) e86) c87.but (Nat.le_trans (Below.size (Ext.trans (Ext.trans (Ext.trans (Ext.but_trans (Ext.trans (Ext.trans (Ext.trans e25 e32) e45) e47) c48.but (Nat.le_trans (Below.size (Ext.trans (Ext.trans e25 e32) e45)) g47)) e54) e61) e84)) g86)) e93) e100) e111) e113) e120) e124) e131) e138) e152) e2147) e2149) e2152) e2169) e2171) e2173) e2175) e2177) hX) hX2) hX3)) hm
                    conv => whnf
                    refine SemK.load1 (by kernel_rfl) hb5005 (k := 1) rfl ?_
                    conv => whnf
                    refine SemK.add (x.count + sumM (j2 : Int) (ms9.take (i + 1))) (by omega) (by omega) (by omega) ?_
                    conv => whnf
                    refine SemK.add (((i + 1 : Nat) : Int)) (by omega) (by omega) (by omega) ?_
                    conv => whnf
                    exact ⟨i + 1, by omega, rfl, by omega, hX3⟩
                  · rw [if_neg h5003, Int.add_zero] at hsm
                    conv => whnf
                    refine SemK.add (((i + 1 : Nat) : Int)) (by omega) (by omega) (by omega) ?_
                    conv => whnf
                    exact ⟨i + 1, by omega, by rw [hsm]; rfl, by omega, hX3⟩
                · obtain rfl : i = cc := by omega
                  have hbi := hbs i (Nat.le_refl _)
                  conv => whnf
                  refine IfB.no (by omega) ?_
                  conv => whnf
                  obtain ⟨b5002, rfl⟩ := ((O31.ext (Ext.trans (Ext.trans (Ext.trans (Ext.trans (Ext.trans (Ext.trans (Ext.trans (Ext.trans (Ext.trans (Ext.trans (Ext.trans (Ext.trans (Ext.trans (Ext.trans (Ext.trans (Ext.trans (Ext.trans (Ext.trans (Ext.trans (Ext.trans (Ext.but_trans (Ext.trans (Ext.trans (Ext.trans (Ext.trans (Ext.but_trans (Ext.trans e45 e47) c48.but (Nat.le_trans (Below.size e45) g47)) e54) e61) e84) e86) c87.but (Nat.le_trans (Below.size (Ext.trans (Ext.trans (Ext.trans (Ext.but_trans (Ext.trans e45 e47) c48.but (Nat.le_trans (Below.size e45) g47)) e54) e61) e84)) g86)) e93) e100) e111) e113) e120) e124) e131) e138) e152) e2147) e2149) e2152) e2169) e2171) e2173) e2175) e2177) hX) hX2) hX3))).some (by omega)
                  have lb5002 : b5002 < w33.heap.size := O31.lt _ rfl
                  refine SemK.indexOwn (sz := 4) (by kernel_rfl) j2 rfl (by omega) ?_
                  have hb5002 := Own.elem TPart.enc_len (O31.ext (Ext.trans (Ext.trans (Ext.trans (Ext.trans (Ext.trans (Ext.trans (Ext.trans (Ext.trans (Ext.trans (Ext.trans (Ext.trans (Ext.trans (Ext.trans (Ext.trans (Ext.trans (Ext.trans (Ext.trans (Ext.trans (Ext.trans (Ext.trans (Ext.but_trans (Ext.trans (Ext.trans (Ext.trans (Ext.trans (Ext.but_trans (Ext.trans e45 e47) c48.but (Nat.le_trans (Below.size e45) g47)) e54) e61) e84) e86) c87.but (Nat.le_trans (Below.size (Ext.trans (Ext.trans (Ext.trans (Ext.but_trans (Ext.trans e45 e47) c48.but (Nat.le_trans (Below.size e45) g47)) e54) e61) e84)) g86)) e93) e100) e111) e113) e120) e124) e131) e138) e152) e2147) e2149) e2152) e2169) e2171) e2173) e2175) e2177) hX) hX2) hX3)) hy2
                  conv => whnf
                  refine SemK.load1 (by kernel_rfl) hb5002 (k := 1) rfl ?_
                  conv => whnf
                  refine IfB.eqf (by simp [*]; done) ?_
                  conv => whnf
                  refine SemK.add (((j2 + 1 : Nat) : Int)) (by omega) (by omega) (by omega) ?_
                  conv => whnf
                  exact ⟨j2 + 1, by omega, rfl, by omega, (Ext.trans hX2 hX3)⟩
              · conv => whnf
                refine IfB.no (by omega) ?_
                conv => whnf
                exact ⟨rfl, (Ext.trans (Ext.trans (Ext.trans (Ext.trans (Ext.trans (Ext.trans (Ext.trans (Ext.trans (Ext.trans (Ext.trans (Ext.trans (Ext.trans (Ext.trans (Ext.trans (Ext.trans (Ext.trans (Ext.trans (Ext.trans (Ext.trans (Ext.but_trans (Ext.trans (Ext.trans (Ext.trans (Ext.trans (Ext.but_trans (Ext.trans (Ext.trans (Ext.trans (Ext.trans e18 e25) e32) e45) e47) c48.but (Nat.le_trans (Below.size (Ext.trans (Ext.trans (Ext.trans e18 e25) e32) e45)) g47)) e54) e61) e84) e86) c87.but (Nat.le_trans (Below.size (Ext.trans (Ext.trans (Ext.trans (Ext.but_trans (Ext.trans (Ext.trans (Ext.trans (Ext.trans e18 e25) e32) e45) e47) c48.but (Nat.le_trans (Below.size (Ext.trans (Ext.trans (Ext.trans e18 e25) e32) e45)) g47)) e54) e61) e84)) g86)) e93) e100) e111) e113) e120) e124) e131) e138) e152) e2147) e2149) e2152) e2169) e2171) e2173) e2175) e2177) hX) hX2)⟩
set_option maxRecDepth 100000 in
theorem open_Moves {H : Type} {enc : TypeId × Value → H} {base : Nat} (W : World) (args : List Value) (ds : List (DataW H)) (p : List MemPlace) (hA : DataW.TrodAll enc Tryz.prog W 0 (fun _ => true) true (Tryz.f4).params.toList args ds p)
    (hv : ∀ (j : Nat) t v, (Tryz.f4).params[j]? = some t → args[j]? = some v → Value.okWide Tryz.prog W .any base t v) (hL : laidMet Tryz.prog Rows.fnMovesRow.laid W) (_hsh : W.ShapedOpen Tryz.prog) : Does Tryz.prog 4 args W (fun v w' => v = .bool true ∧ Ext W w') := by
  have e : (Tryz.f4).params.toList = [22] := rfl
  rw [e] at hA
  obtain ⟨v0, vs0, d0, ds0, p0, q0, rfl, rfl, rfl, g0, r0⟩ := trodAll_cons hA
  obtain ⟨rfl, rfl, rfl⟩ := trodAll_nil r0
  obtain ⟨a0, n0, c0, x0, rfl, h0, ok0⟩ := open_arr (encα := eB) (ok := fun _ => True) (sz := 1) Tryz.underlying22 (by kernel_rfl) (by omega) (fun n cs x h => open_byte Tryz.underlying5 h) eB_len (hv 0 22 v0 (by rw [← Array.getElem?_toList, e]; rfl) rfl) g0
  exact law_Moves h0 (Pow.of_laid hL.tail.tail) (Errs.of_laid hL.tail.tail.tail.tail.tail hL.tail.tail.tail.tail) (MaxL.of_shaped _hsh)
set_option maxRecDepth 100000 in
theorem FnMoves_lifted (os : Os) (started : os.Started) (H : Type) (enc : TypeId × Value → H) (F : Stop.Interp) :
    ReturnsInHanded {} Tryz.checked os 4 .any ((OpenSpec.ofChange Rows.fnMovesSpec).preRow enc Tryz.prog Tryz.f4 Rows.fnMovesRow.domain false Rows.fnMovesRow.laid) (((OpenSpec.ofChange Rows.fnMovesSpec).at F).post enc Tryz.prog Tryz.f4 false true false false) := by
  refine returnsInHanded_of_row (C := Tryz.checked) (s := OpenSpec.ofChange Rows.fnMovesSpec) law_own started (by kernel_rfl) Tryz.func4
    (witness_row_sh (enc := enc) (C := Tryz.checked) (World.laidAll Tryz.prog os Rows.fnMovesRow.laid) #[.slice none 0 0] 8 (World.laidAll_os _ _ _) (World.shaped_of_ZipB (by kernel_rfl) (by kernel_rfl)) (by kernel_rfl) (by kernel_rfl) (by kernel_rfl)
      (by rw [MakeChecks.laidMetH_plain _ _ _ (by kernel_rfl)]; exact laidMet_laidAll _ (by kernel_rfl) (by kernel_rfl))) ?_
  intro W base args ds gs before hval hW _ _ _ hL hsh _
  rw [MakeChecks.laidMetH_plain _ _ _ (by kernel_rfl)] at hL
  exact law_contract_at (P := Tryz.prog) (fn := Tryz.f4) (s := Rows.fnMovesSpec) rfl rfl Tryz.underlying4 law_laid (by kernel_rfl)
    (fun ds h => match ds, h with | [d0], _ => ⟨rfl, rfl, rfl⟩) W args ds gs before (fun p hA hv => open_Moves W args.toList ds p hA hv hL hsh) hval hW
theorem FnMoves_closed : joinedFacts Tryz.prog 4 Tryz.f4 (OpenSpec.ofChange Rows.fnMovesSpec).bare Rows.fnMovesRow = true := by
  unfold joinedFacts
  exact andI (andI (andI (andI (andI (andI (andI (andI (by kernel_rfl) seat_heard) seat_enter) seat_lifts) seat_make) (by kernel_rfl)) (by kernel_rfl)) (by kernel_rfl)) (by kernel_rfl)
theorem FnMoves_named : Tryz.prog.funcNamed Rows.fnMovesRow.func = some 4 := by kernel_rfl
theorem FnMoves_row : Rows.FnMovesSaid :=
  OpenClaim.holds_of_cond 4 Tryz.f4 rfl rfl rfl rfl rfl rfl rfl ⟨rfl, rfl, rfl, rfl, rfl⟩ rfl rfl rfl rfl rfl FnMoves_named Tryz.func4 FnMoves_closed
    (of_decide_eq_true (by kernel_rfl)) (by unfold Func.isWrapper; first | (rw [if_pos (by decide +kernel)]; kernel_rfl) | (rw [if_neg (by decide +kernel)]; exact ⟨rfl, rfl⟩))
    (fun os started H enc _ F => by rw [OpenClaim.pre_eq_preRow]; exact FnMoves_lifted os started H enc F)
theorem FnMoves_goes : false = Rows.fnMovesRow.goesBy Tryz.pinned.checked.prog := by kernel_rfl
theorem FnMoves_wf : Rows.fnMovesRow.wfByText (OpenSpec.ofChange Rows.fnMovesSpec) = true := by kernel_rfl
theorem FnMoves_plain (f : FuncId) (fn : Func) (hf : Tryz.pinned.checked.prog.funcNamed Rows.fnMovesRow.func = some f) (hfn : Tryz.pinned.checked.prog.funcs[f]? = some fn) :
    true = Tryz.pinned.checked.prog.looks [] ∧ ∀ (j : Nat) t, fn.params[j]? = some t → Tryz.pinned.checked.prog.wantsStandIn t = false := by
  obtain rfl : f = 4 := Option.some.inj (FnMoves_named.symm.trans hf) |>.symm
  obtain rfl : fn = Tryz.f4 := (Option.some.inj (Tryz.func4.symm.trans hfn)).symm
  refine ⟨seat_looks, fun j t ht => ?_⟩
  have hall : (Tryz.f4.params.toList.all fun u => !Tryz.prog.wantsStandIn u) = true := by kernel_rfl
  exact (show Tryz.prog.wantsStandIn t = false by simpa using List.all_eq_true.1 hall t (by simpa using Array.mem_of_getElem? ht))
theorem FnMoves_holds : Rows.FnMovesCardSaid :=
  Claim7.holds_tied_plain_at .later [] _ _ _ _ FnMoves_row (fun _ h => by cases h) FnMoves_wf (fun _ h => by cases h) fnMoves_row_tie rfl ⟨rfl, rfl⟩ seat_main rfl FnMoves_plain FnMoves_goes

end Go.Proofs.YtfgbijddjoojbaaGreatDoor
