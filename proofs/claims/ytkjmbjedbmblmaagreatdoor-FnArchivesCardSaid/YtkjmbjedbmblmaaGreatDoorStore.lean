/- Contracts of functions of the given program, of the reference and of the laws: each says what a call returns, for all arguments that meet the premises that the theorem itself names. -/
import Derived.Test.YtkjmbjedbmblmaaGreatDoorLend
import Derived.Test.YtkjmbjedbmblmaaGreatDoorKept
import Derived.Test.YtkjmbjedbmblmaaGreatDoorLibSl
import Derived.Test.YtkjmbjedbmblmaaGreatDoorStoreM
import Derived.Test.YtkjmbjedbmblmaaGreatDoorShelfC
import Derived.Test.YtkjmbjedbmblmaaGreatDoorVcTree
import Derived.Test.YtkjmbjedbmblmaaGreatDoorVcStr
namespace Go.Proofs.YtkjmbjedbmblmaaGreatDoor
open Go Go.RowKit Go.Vc Go.M
set_option linter.unusedVariables false in
theorem spec_StoreBox {w : World} {a : Option Addr} {n c : Nat} {xs : List TBox} (h : Arr TBox.enc 5 w a n xs) (hok : ∀ x ∈ xs, x.ok) (hnc : n ≤ c) (x : TBox) (hx : x.ok) :
    Does Tryz.prog 54 [.slice a n c, .agg ⟨x.enc⟩] w (fun v w' => ∃ a' n' c', v = .tuple #[.slice a' n' c', .int .i64 (storeM xs x).2] ∧ NewAt w.heap.size a' ∧ Own TBox.enc w' a' n' 99 (storeM xs x).1 ∧ Ext w w') := by
  have hn := h.len
  have hm := h.le
  unfold storeM
  cases hc1 : boxesB xs
  · have hs : storeCode xs x = 1 := by simp [storeCode, hc1]
    rw [hs, if_neg (by omega)]
    dsimp only
    refine Does.of_vc tabok Tryz.func54 rfl rfl rfl (by kernel_rfl) ?_; conv => whnf
    refine SemK.box ?_
    intro b2 w2 g2 l2 e2 B2
    conv => whnf
    refine (spec_l26Ok (h.ext e2) hok).mono ?_
    rintro _ w4 ⟨rfl, e3⟩
    conv => whnf
    refine IfB.eqt (by simp [*]; done) ?_
    conv => whnf
    exact ⟨_, _, _, rfl, NewAt.nil, Own.nil, (Ext.trans e2 e3)⟩
  obtain ⟨hn40, hall⟩ := boxesB_mem hc1
  cases hc2 : boxB x
  · have hs : storeCode xs x = 2 := by simp [storeCode, hc1, hc2]
    rw [hs, if_neg (by omega)]
    dsimp only
    refine Does.of_vc tabok Tryz.func54 rfl rfl rfl (by kernel_rfl) ?_; conv => whnf
    refine SemK.box ?_
    intro b41 w41 g41 l41 e41 B41
    conv => whnf
    refine (spec_l26Ok (h.ext e41) hok).mono ?_
    rintro _ w43 ⟨rfl, e42⟩
    conv => whnf
    refine IfB.eqf (by simp [*]; done) ?_
    conv => whnf
    refine (spec_l26One hx (B41.ext e42).cells).mono ?_
    rintro _ _ ⟨rfl, rfl⟩
    conv => whnf
    refine IfB.eqt (by simp [*]; done) ?_
    conv => whnf
    exact ⟨_, _, _, rfl, NewAt.nil, Own.nil, (Ext.trans e41 e42)⟩
  by_cases hc3 : x.lent = { data := #[] }
  · by_cases hc4 : 0 ≤ boxIx xs x.name
    · have hs : storeCode xs x = 4 := by simp [storeCode, hc1, hc2, hc3, hc4]
      rw [hs, if_neg (by omega)]
      dsimp only
      refine Does.of_vc tabok Tryz.func54 rfl rfl rfl (by kernel_rfl) ?_; conv => whnf
      refine SemK.box ?_
      intro b41 w41 g41 l41 e41 B41
      conv => whnf
      refine (spec_l26Ok (h.ext e41) hok).mono ?_
      rintro _ w43 ⟨rfl, e42⟩
      conv => whnf
      refine IfB.eqf (by simp [*]; done) ?_
      conv => whnf
      refine (spec_l26One hx (B41.ext e42).cells).mono ?_
      rintro _ _ ⟨rfl, rfl⟩
      conv => whnf
      refine IfB.eqf (by simp [*]; done) ?_
      conv => whnf
      refine SemK.load1 (by kernel_rfl) (B41.ext e42).cells (k := 4) rfl ?_
      conv => whnf
      refine IfB.eqf (by simp [*]; done) ?_
      conv => whnf
      refine SemK.load1 (by kernel_rfl) (B41.ext e42).cells (k := 0) rfl ?_
      conv => whnf
      refine (spec_l26Find (h.ext (Ext.trans e41 e42)) _).mono ?_
      rintro _ w46 ⟨rfl, e45⟩
      conv => whnf
      refine IfB.yes (by omega) ?_
      conv => whnf
      exact ⟨_, _, _, rfl, NewAt.nil, Own.nil, (Ext.trans (Ext.trans e41 e42) e45)⟩
    · by_cases hc5 : n = 40
      · have hs : storeCode xs x = 5 := by
          rw [← hn] at hc5
          simp [storeCode, hc1, hc2, hc3, hc4, hc5]
        rw [hs, if_neg (by omega)]
        dsimp only
        refine Does.of_vc tabok Tryz.func54 rfl rfl rfl (by kernel_rfl) ?_; conv => whnf
        refine SemK.box ?_
        intro b41 w41 g41 l41 e41 B41
        conv => whnf
        refine (spec_l26Ok (h.ext e41) hok).mono ?_
        rintro _ w43 ⟨rfl, e42⟩
        conv => whnf
        refine IfB.eqf (by simp [*]; done) ?_
        conv => whnf
        refine (spec_l26One hx (B41.ext e42).cells).mono ?_
        rintro _ _ ⟨rfl, rfl⟩
        conv => whnf
        refine IfB.eqf (by simp [*]; done) ?_
        conv => whnf
        refine SemK.load1 (by kernel_rfl) (B41.ext e42).cells (k := 4) rfl ?_
        conv => whnf
        refine IfB.eqf (by simp [*]; done) ?_
        conv => whnf
        refine SemK.load1 (by kernel_rfl) (B41.ext e42).cells (k := 0) rfl ?_
        conv => whnf
        refine (spec_l26Find (h.ext (Ext.trans e41 e42)) _).mono ?_
        rintro _ w46 ⟨rfl, e45⟩
        conv => whnf
        refine IfB.no (by omega) ?_
        conv => whnf
        refine IfB.yes (by omega) ?_
        conv => whnf
        exact ⟨_, _, _, rfl, NewAt.nil, Own.nil, (Ext.trans (Ext.trans e41 e42) e45)⟩
      · have hs : storeCode xs x = 0 := by
          rw [← hn] at hc5
          simp [storeCode, hc1, hc2, hc3, hc4, hc5]
        rw [if_pos hs]
        dsimp only
        refine Does.of_vc tabok Tryz.func54 rfl rfl rfl (by kernel_rfl) ?_; conv => whnf
        refine SemK.box ?_
        intro b41 w41 g41 l41 e41 B41
        conv => whnf
        refine (spec_l26Ok (h.ext e41) hok).mono ?_
        rintro _ w43 ⟨rfl, e42⟩
        conv => whnf
        refine IfB.eqf (by simp [*]; done) ?_
        conv => whnf
        refine (spec_l26One hx (B41.ext e42).cells).mono ?_
        rintro _ _ ⟨rfl, rfl⟩
        conv => whnf
        refine IfB.eqf (by simp [*]; done) ?_
        conv => whnf
        refine SemK.load1 (by kernel_rfl) (B41.ext e42).cells (k := 4) rfl ?_
        conv => whnf
        refine IfB.eqf (by simp [*]; done) ?_
        conv => whnf
        refine SemK.load1 (by kernel_rfl) (B41.ext e42).cells (k := 0) rfl ?_
        conv => whnf
        refine (spec_l26Find (h.ext (Ext.trans e41 e42)) _).mono ?_
        rintro _ w46 ⟨rfl, e45⟩
        conv => whnf
        refine IfB.no (by omega) ?_
        conv => whnf
        refine IfB.no (by omega) ?_
        conv => whnf
        have X0 : Ext w w46 := Ext.trans (Ext.trans e41 e42) e45
        have B0 := (B41.ext e42).ext e45
        refine LoopK.rule [0, 3, 6] (fun (k : Nat) vs w' => vs = [.slice a n c, .pointer (some ⟨b41, 0, none⟩), .int .i64 k] ∧ k ≤ n ∧ aheadOf xs x.name k = aheadOf xs x.name n ∧ Ext w46 w') (fun k => k) tab tabok (by kernel_rfl) n ⟨rfl, by omega, rfl, Ext.refl _⟩ ?_
        rintro k g2 _ w2 ⟨rfl, hk, hak, hX2⟩
        rw [hn, ← hak]
        by_cases hk0 : 0 < k
        · obtain ⟨k', rfl⟩ : ∃ k', k = k' + 1 := ⟨k - 1, by omega⟩
          obtain ⟨y, hy⟩ : ∃ y, xs[k']? = some y := get_of_lt (by omega)
          cases hlt : gtB y.name x.name
          · have hst := aheadOf_no hy hlt
            rw [hst]
            conv => whnf
            refine DrawK.det tabok mixed (by kernel_rfl) (by kernel_rfl) ?_
            conv => whnf
            refine IfB.yes (by omega) ?_
            conv => whnf
            refine DSemK.sub (((k' : Nat) : Int)) (by omega) (by omega) (by omega) ?_
            conv => whnf
            refine DSemK.index (by kernel_rfl) (h.ext (Ext.trans X0 hX2)) k' rfl hy ?_
            intro b48 o48 _ hb48
            conv => whnf
            refine DSemK.load1 (by kernel_rfl) hb48 (k := 0) rfl ?_
            conv => whnf
            refine DSemK.load1 (by kernel_rfl) (B0.ext hX2).cells (k := 0) rfl ?_
            conv => whnf
            intro w49 e49
            conv => whnf
            with_reducible refine IfB.nsplit (fun h50 => ?_) (fun h50 => ?_)
            · conv => whnf
              refine SemK.sub (((k' : Nat) : Int)) (by omega) (by omega) (by omega) ?_
              conv => whnf
              exact absurd (show gtB y.name x.name = true by simpa [gtB] using h50) (by simp [hlt])
            · conv => whnf
              refine SemK.buildSlice mk_97 (vs := []) (by rfl) (by rfl) (by simp [Value.cells]) (by decide) ?_
              intro b51 w51 g51 l51 e51 B51
              have G51 := Grow.new0 (enc := TBox.enc) TBox.enc_len B51 g51
              conv => whnf
              refine SemK.sliceTo (k' := .i64) (by kernel_rfl) (h.ext (Ext.trans (Ext.trans (Ext.trans X0 hX2) e49) e51)) (k' + 1) (by omega) (by omega) (.inr (by rfl)) ?_
              intro A52
              conv => whnf
              refine SemK.appendNew (enc := TBox.enc) mk_97 TBox.enc_len G51 A52 (by intro y _; simp [TBox.enc, cellish]) (by omega) (by omega) (Below.size e51) ?_
              intro a53 c53 w53 G53 m53 i53
              conv => whnf
              refine SemK.loadAgg (n := 5) (by kernel_rfl) (B0.ext (Ext.mod_trans (Ext.trans (Ext.trans hX2 e49) e51) m53 (fun k hk => Nat.le_trans (Below.size (Ext.trans hX2 e49)) (blkIn_new G51.new k hk)))).cells rfl ?_
              conv => whnf
              refine SemK.buildSlice mk_97 (vs := [Value.agg #[Value.string x.name, Value.int IntKind.i64 x.cards, Value.int IntKind.i64 x.year, Value.int IntKind.i64 x.keep, Value.string x.lent]]) (by rfl) (by rfl) (by simp [Value.cells]) (by decide) ?_
              intro b54 w54 g54 l54 e54 B54
              have G54 := Grow.of_blk (n := 1) (enc := TBox.enc) (xs := [⟨x.name, x.cards, x.year, x.keep, x.lent⟩]) TBox.enc_len B54 g54 rfl (by decide)
              conv => whnf
              refine SemK.appendArr0 (enc := TBox.enc) mk_97 TBox.enc_len (G53.ext e54) (G54.own.arr TBox.enc_len) (by intro y _; simp [TBox.enc, cellish]) (by omega) (by omega) (Below.size (Ext.trans (Ext.mod_trans e51 m53 (blkIn_new G51.new)) e54)) ?_
              intro a55 c55 w55 G55 m55 i55
              conv => whnf
              refine SemK.slice (k := .i64) (k' := .i64) (by kernel_rfl) (h.ext (Ext.mod_trans (Ext.trans (Ext.mod_trans (Ext.trans (Ext.trans (Ext.trans X0 hX2) e49) e51) m53 (fun k hk => Nat.le_trans (Below.size (Ext.trans (Ext.trans X0 hX2) e49)) (blkIn_new G51.new k hk))) e54) m55 (fun k hk => Nat.le_trans (Below.size (Ext.trans (Ext.trans X0 hX2) e49)) (blkIn_new G53.new k hk)))) (k' + 1) (n) (by omega) (by omega) (by omega) (.inr (by rfl)) (.inl ⟨rfl, rfl⟩) ?_
              intro a56 A56
              conv => whnf
              refine SemK.appendArr0 (enc := TBox.enc) mk_97 TBox.enc_len G55 A56 (by intro y _; simp [TBox.enc, cellish]) (by omega) (by omega) (Below.size (Ext.mod_trans (Ext.trans (Ext.mod_trans e51 m53 (blkIn_new G51.new)) e54) m55 (blkIn_new G53.new))) ?_
              intro a57 c57 w57 G57 m57 i57
              conv => whnf
              refine ⟨_, _, _, rfl, (G57.new.mono (Below.size (Ext.trans (Ext.trans X0 hX2) e49))), ?_, (Ext.mod_trans (Ext.mod_trans (Ext.trans (Ext.mod_trans (Ext.trans (Ext.trans (Ext.trans X0 hX2) e49) e51) m53 (fun k hk => Nat.le_trans (Below.size (Ext.trans (Ext.trans X0 hX2) e49)) (blkIn_new G51.new k hk))) e54) m55 (fun k hk => Nat.le_trans (Below.size (Ext.trans (Ext.trans X0 hX2) e49)) (blkIn_new G53.new k hk))) m57 (fun k hk => Nat.le_trans (Below.size (Ext.trans (Ext.trans X0 hX2) e49)) (blkIn_new G55.new k hk)))⟩
              · rw [show xs.drop (k' + 1) = (xs.drop (k' + 1)).take (n - (k' + 1)) from (List.take_of_length_le (by rw [List.length_drop]; omega)).symm]
                exact G57.own
          · have hst := aheadOf_yes hy hlt
            rw [hst] at hak
            conv => whnf
            refine DrawK.det tabok mixed (by kernel_rfl) (by kernel_rfl) ?_
            conv => whnf
            refine IfB.yes (by omega) ?_
            conv => whnf
            refine DSemK.sub (((k' : Nat) : Int)) (by omega) (by omega) (by omega) ?_
            conv => whnf
            refine DSemK.index (by kernel_rfl) (h.ext (Ext.trans X0 hX2)) k' rfl hy ?_
            intro b48 o48 _ hb48
            conv => whnf
            refine DSemK.load1 (by kernel_rfl) hb48 (k := 0) rfl ?_
            conv => whnf
            refine DSemK.load1 (by kernel_rfl) (B0.ext hX2).cells (k := 0) rfl ?_
            conv => whnf
            intro w49 e49
            conv => whnf
            with_reducible refine IfB.nsplit (fun h50 => ?_) (fun h50 => ?_)
            · conv => whnf
              refine SemK.sub (((k' : Nat) : Int)) (by omega) (by omega) (by omega) ?_
              conv => whnf
              exact ⟨k', by omega, rfl, by omega, hst.symm, Ext.trans hX2 e49⟩
            · conv => whnf
              refine SemK.buildSlice mk_97 (vs := []) (by rfl) (by rfl) (by simp [Value.cells]) (by decide) ?_
              intro b51 w51 g51 l51 e51 B51
              have G51 := Grow.new0 (enc := TBox.enc) TBox.enc_len B51 g51
              conv => whnf
              refine SemK.sliceTo (k' := .i64) (by kernel_rfl) (h.ext (Ext.trans (Ext.trans (Ext.trans X0 hX2) e49) e51)) (k' + 1) (by omega) (by omega) (.inr (by rfl)) ?_
              intro A52
              conv => whnf
              refine SemK.appendNew (enc := TBox.enc) mk_97 TBox.enc_len G51 A52 (by intro y _; simp [TBox.enc, cellish]) (by omega) (by omega) (Below.size e51) ?_
              intro a53 c53 w53 G53 m53 i53
              conv => whnf
              refine SemK.loadAgg (n := 5) (by kernel_rfl) (B0.ext (Ext.mod_trans (Ext.trans (Ext.trans hX2 e49) e51) m53 (fun k hk => Nat.le_trans (Below.size (Ext.trans hX2 e49)) (blkIn_new G51.new k hk)))).cells rfl ?_
              conv => whnf
              refine SemK.buildSlice mk_97 (vs := [Value.agg #[Value.string x.name, Value.int IntKind.i64 x.cards, Value.int IntKind.i64 x.year, Value.int IntKind.i64 x.keep, Value.string x.lent]]) (by rfl) (by rfl) (by simp [Value.cells]) (by decide) ?_
              intro b54 w54 g54 l54 e54 B54
              have G54 := Grow.of_blk (n := 1) (enc := TBox.enc) (xs := [⟨x.name, x.cards, x.year, x.keep, x.lent⟩]) TBox.enc_len B54 g54 rfl (by decide)
              conv => whnf
              refine SemK.appendArr0 (enc := TBox.enc) mk_97 TBox.enc_len (G53.ext e54) (G54.own.arr TBox.enc_len) (by intro y _; simp [TBox.enc, cellish]) (by omega) (by omega) (Below.size (Ext.trans (Ext.mod_trans e51 m53 (blkIn_new G51.new)) e54)) ?_
              intro a55 c55 w55 G55 m55 i55
              conv => whnf
              refine SemK.slice (k := .i64) (k' := .i64) (by kernel_rfl) (h.ext (Ext.mod_trans (Ext.trans (Ext.mod_trans (Ext.trans (Ext.trans (Ext.trans X0 hX2) e49) e51) m53 (fun k hk => Nat.le_trans (Below.size (Ext.trans (Ext.trans X0 hX2) e49)) (blkIn_new G51.new k hk))) e54) m55 (fun k hk => Nat.le_trans (Below.size (Ext.trans (Ext.trans X0 hX2) e49)) (blkIn_new G53.new k hk)))) (k' + 1) (n) (by omega) (by omega) (by omega) (.inr (by rfl)) (.inl ⟨rfl, rfl⟩) ?_
              intro a56 A56
              conv => whnf
              refine SemK.appendArr0 (enc := TBox.enc) mk_97 TBox.enc_len G55 A56 (by intro y _; simp [TBox.enc, cellish]) (by omega) (by omega) (Below.size (Ext.mod_trans (Ext.trans (Ext.mod_trans e51 m53 (blkIn_new G51.new)) e54) m55 (blkIn_new G53.new))) ?_
              intro a57 c57 w57 G57 m57 i57
              conv => whnf
              refine ⟨_, _, _, rfl, (G57.new.mono (Below.size (Ext.trans (Ext.trans X0 hX2) e49))), ?_, (Ext.mod_trans (Ext.mod_trans (Ext.trans (Ext.mod_trans (Ext.trans (Ext.trans (Ext.trans X0 hX2) e49) e51) m53 (fun k hk => Nat.le_trans (Below.size (Ext.trans (Ext.trans X0 hX2) e49)) (blkIn_new G51.new k hk))) e54) m55 (fun k hk => Nat.le_trans (Below.size (Ext.trans (Ext.trans X0 hX2) e49)) (blkIn_new G53.new k hk))) m57 (fun k hk => Nat.le_trans (Below.size (Ext.trans (Ext.trans X0 hX2) e49)) (blkIn_new G55.new k hk)))⟩
              · rcases (show Op.bytesLess y.name.toList x.name.toList = true ∨ y.name = x.name by simpa using h50) with h | h
                · simp [gtB, h] at hlt
                · simp [gtB, h] at hlt
        · obtain rfl : k = 0 := by omega
          rw [show aheadOf xs x.name 0 = 0 from rfl]
          conv => whnf
          refine DrawK.det tabok mixed (by kernel_rfl) (by kernel_rfl) ?_
          conv => whnf
          intro w47 e47
          conv => whnf
          refine SemK.buildSlice mk_97 (vs := []) (by rfl) (by rfl) (by simp [Value.cells]) (by decide) ?_
          intro b48 w48 g48 l48 e48 B48
          have G48 := Grow.new0 (enc := TBox.enc) TBox.enc_len B48 g48
          conv => whnf
          refine SemK.sliceTo (k' := .i64) (by kernel_rfl) (h.ext (Ext.trans (Ext.trans (Ext.trans X0 hX2) e47) e48)) (0) (by omega) (by omega) (.inr (by rfl)) ?_
          intro A49
          conv => whnf
          refine SemK.appendNew (enc := TBox.enc) mk_97 TBox.enc_len G48 A49 (by intro y _; simp [TBox.enc, cellish]) (by omega) (by omega) (Below.size e48) ?_
          intro a50 c50 w50 G50 m50 i50
          conv => whnf
          refine SemK.loadAgg (n := 5) (by kernel_rfl) (B0.ext (Ext.mod_trans (Ext.trans (Ext.trans hX2 e47) e48) m50 (fun k hk => Nat.le_trans (Below.size (Ext.trans hX2 e47)) (blkIn_new G48.new k hk)))).cells rfl ?_
          conv => whnf
          refine SemK.buildSlice mk_97 (vs := [Value.agg #[Value.string x.name, Value.int IntKind.i64 x.cards, Value.int IntKind.i64 x.year, Value.int IntKind.i64 x.keep, Value.string x.lent]]) (by rfl) (by rfl) (by simp [Value.cells]) (by decide) ?_
          intro b51 w51 g51 l51 e51 B51
          have G51 := Grow.of_blk (n := 1) (enc := TBox.enc) (xs := [⟨x.name, x.cards, x.year, x.keep, x.lent⟩]) TBox.enc_len B51 g51 rfl (by decide)
          conv => whnf
          refine SemK.appendNew (enc := TBox.enc) mk_97 TBox.enc_len (G50.ext e51) (G51.own.arr TBox.enc_len) (by intro y _; simp [TBox.enc, cellish]) (by omega) (by omega) (Below.size (Ext.trans (Ext.mod_trans e48 m50 (blkIn_new G48.new)) e51)) ?_
          intro a52 c52 w52 G52 m52 i52
          conv => whnf
          refine SemK.slice (k := .i64) (k' := .i64) (by kernel_rfl) (h.ext (Ext.mod_trans (Ext.trans (Ext.mod_trans (Ext.trans (Ext.trans (Ext.trans X0 hX2) e47) e48) m50 (fun k hk => Nat.le_trans (Below.size (Ext.trans (Ext.trans X0 hX2) e47)) (blkIn_new G48.new k hk))) e51) m52 (fun k hk => Nat.le_trans (Below.size (Ext.trans (Ext.trans X0 hX2) e47)) (blkIn_new G50.new k hk)))) (0) (n) (by omega) (by omega) (by omega) (.inr (by rfl)) (.inl ⟨rfl, rfl⟩) ?_
          intro a53 A53
          conv => whnf
          refine SemK.appendArr0 (enc := TBox.enc) mk_97 TBox.enc_len G52 A53 (by intro y _; simp [TBox.enc, cellish]) (by omega) (by omega) (Below.size (Ext.mod_trans (Ext.trans (Ext.mod_trans e48 m50 (blkIn_new G48.new)) e51) m52 (blkIn_new G50.new))) ?_
          intro a54 c54 w54 G54 m54 i54
          conv => whnf
          refine ⟨_, _, _, rfl, (G54.new.mono (Below.size (Ext.trans (Ext.trans X0 hX2) e47))), ?_, (Ext.mod_trans (Ext.mod_trans (Ext.trans (Ext.mod_trans (Ext.trans (Ext.trans (Ext.trans X0 hX2) e47) e48) m50 (fun k hk => Nat.le_trans (Below.size (Ext.trans (Ext.trans X0 hX2) e47)) (blkIn_new G48.new k hk))) e51) m52 (fun k hk => Nat.le_trans (Below.size (Ext.trans (Ext.trans X0 hX2) e47)) (blkIn_new G50.new k hk))) m54 (fun k hk => Nat.le_trans (Below.size (Ext.trans (Ext.trans X0 hX2) e47)) (blkIn_new G52.new k hk)))⟩
          · rw [show xs.drop (0) = (xs.drop (0)).take (n - (0)) from (List.take_of_length_le (by rw [List.length_drop]; omega)).symm]
            exact G54.own
  · have hs : storeCode xs x = 2 := by simp [storeCode, hc1, hc2, hc3]
    rw [hs, if_neg (by omega)]
    dsimp only
    refine Does.of_vc tabok Tryz.func54 rfl rfl rfl (by kernel_rfl) ?_; conv => whnf
    refine SemK.box ?_
    intro b41 w41 g41 l41 e41 B41
    conv => whnf
    refine (spec_l26Ok (h.ext e41) hok).mono ?_
    rintro _ w43 ⟨rfl, e42⟩
    conv => whnf
    refine IfB.eqf (by simp [*]; done) ?_
    conv => whnf
    refine (spec_l26One hx (B41.ext e42).cells).mono ?_
    rintro _ _ ⟨rfl, rfl⟩
    conv => whnf
    refine IfB.eqf (by simp [*]; done) ?_
    conv => whnf
    refine SemK.load1 (by kernel_rfl) (B41.ext e42).cells (k := 4) rfl ?_
    conv => whnf
    refine IfB.eqt (by simp [*]; done) ?_
    conv => whnf
    exact ⟨_, _, _, rfl, NewAt.nil, Own.nil, (Ext.trans e41 e42)⟩
set_option linter.unusedVariables false in
theorem impl_StoreBox {w : World} {a : Option Addr} {n c : Nat} {xs : List TBox} (h : Arr TBox.enc 5 w a n xs) (hok : ∀ x ∈ xs, x.ok) (hnc : n ≤ c) (x : TBox) (hx : x.ok) :
    Does Tryz.prog 53 [.slice a n c, .agg ⟨x.enc⟩] w (fun v w' => ∃ a' n' c', v = .tuple #[.slice a' n' c', .int .i64 (storeM xs x).2] ∧ NewAt w.heap.size a' ∧ Own TBox.enc w' a' n' 99 (storeM xs x).1 ∧ Ext w w') := by
  have hn := h.len
  have hm := h.le
  unfold storeM
  cases hc1 : boxesB xs
  · have hs : storeCode xs x = 1 := by simp [storeCode, hc1]
    rw [hs, if_neg (by omega)]
    dsimp only
    refine Does.of_vc tabok Tryz.func53 rfl rfl rfl (by kernel_rfl) ?_; conv => whnf
    refine SemK.box ?_
    intro b2 w2 g2 l2 e2 B2
    conv => whnf
    refine (impl_ValidBoxes (h.ext e2) hok).mono ?_
    rintro _ w4 ⟨rfl, e3⟩
    conv => whnf
    refine IfB.eqt (by simp [*]; done) ?_
    conv => whnf
    exact ⟨_, _, _, rfl, NewAt.nil, Own.nil, (Ext.trans e2 e3)⟩
  obtain ⟨hn40, hall⟩ := boxesB_mem hc1
  cases hc2 : boxB x
  · have hs : storeCode xs x = 2 := by simp [storeCode, hc1, hc2]
    rw [hs, if_neg (by omega)]
    dsimp only
    refine Does.of_vc tabok Tryz.func53 rfl rfl rfl (by kernel_rfl) ?_; conv => whnf
    refine SemK.box ?_
    intro b41 w41 g41 l41 e41 B41
    conv => whnf
    refine (impl_ValidBoxes (h.ext e41) hok).mono ?_
    rintro _ w43 ⟨rfl, e42⟩
    conv => whnf
    refine IfB.eqf (by simp [*]; done) ?_
    conv => whnf
    refine SemK.loadAgg (n := 5) (by kernel_rfl) (B41.ext e42).cells rfl ?_
    conv => whnf
    refine (impl_isBox hx _).mono ?_
    rintro _ w45 ⟨rfl, e44⟩
    conv => whnf
    refine IfB.eqt (by simp [*]; done) ?_
    conv => whnf
    exact ⟨_, _, _, rfl, NewAt.nil, Own.nil, (Ext.trans (Ext.trans e41 e42) e44)⟩
  by_cases hc3 : x.lent = { data := #[] }
  · by_cases hc4 : 0 ≤ boxIx xs x.name
    · have hs : storeCode xs x = 4 := by simp [storeCode, hc1, hc2, hc3, hc4]
      rw [hs, if_neg (by omega)]
      dsimp only
      refine Does.of_vc tabok Tryz.func53 rfl rfl rfl (by kernel_rfl) ?_; conv => whnf
      refine SemK.box ?_
      intro b41 w41 g41 l41 e41 B41
      conv => whnf
      refine (impl_ValidBoxes (h.ext e41) hok).mono ?_
      rintro _ w43 ⟨rfl, e42⟩
      conv => whnf
      refine IfB.eqf (by simp [*]; done) ?_
      conv => whnf
      refine SemK.loadAgg (n := 5) (by kernel_rfl) (B41.ext e42).cells rfl ?_
      conv => whnf
      refine (impl_isBox hx _).mono ?_
      rintro _ w45 ⟨rfl, e44⟩
      conv => whnf
      refine IfB.eqf (by simp [*]; done) ?_
      conv => whnf
      refine SemK.load1 (by kernel_rfl) (B41.ext (Ext.trans e42 e44)).cells (k := 4) rfl ?_
      conv => whnf
      refine IfB.eqf (by simp [*]; done) ?_
      conv => whnf
      refine SemK.load1 (by kernel_rfl) (B41.ext (Ext.trans e42 e44)).cells (k := 0) rfl ?_
      conv => whnf
      refine (impl_boxIndex (h.ext (Ext.trans (Ext.trans e41 e42) e44)) _).mono ?_
      rintro _ w47 ⟨rfl, e46⟩
      conv => whnf
      refine IfB.yes (by omega) ?_
      conv => whnf
      exact ⟨_, _, _, rfl, NewAt.nil, Own.nil, (Ext.trans (Ext.trans (Ext.trans e41 e42) e44) e46)⟩
    · by_cases hc5 : n = 40
      · have hs : storeCode xs x = 5 := by
          rw [← hn] at hc5
          simp [storeCode, hc1, hc2, hc3, hc4, hc5]
        rw [hs, if_neg (by omega)]
        dsimp only
        refine Does.of_vc tabok Tryz.func53 rfl rfl rfl (by kernel_rfl) ?_; conv => whnf
        refine SemK.box ?_
        intro b41 w41 g41 l41 e41 B41
        conv => whnf
        refine (impl_ValidBoxes (h.ext e41) hok).mono ?_
        rintro _ w43 ⟨rfl, e42⟩
        conv => whnf
        refine IfB.eqf (by simp [*]; done) ?_
        conv => whnf
        refine SemK.loadAgg (n := 5) (by kernel_rfl) (B41.ext e42).cells rfl ?_
        conv => whnf
        refine (impl_isBox hx _).mono ?_
        rintro _ w45 ⟨rfl, e44⟩
        conv => whnf
        refine IfB.eqf (by simp [*]; done) ?_
        conv => whnf
        refine SemK.load1 (by kernel_rfl) (B41.ext (Ext.trans e42 e44)).cells (k := 4) rfl ?_
        conv => whnf
        refine IfB.eqf (by simp [*]; done) ?_
        conv => whnf
        refine SemK.load1 (by kernel_rfl) (B41.ext (Ext.trans e42 e44)).cells (k := 0) rfl ?_
        conv => whnf
        refine (impl_boxIndex (h.ext (Ext.trans (Ext.trans e41 e42) e44)) _).mono ?_
        rintro _ w47 ⟨rfl, e46⟩
        conv => whnf
        refine IfB.no (by omega) ?_
        conv => whnf
        refine IfB.yes (by omega) ?_
        conv => whnf
        exact ⟨_, _, _, rfl, NewAt.nil, Own.nil, (Ext.trans (Ext.trans (Ext.trans e41 e42) e44) e46)⟩
      · have hs : storeCode xs x = 0 := by
          rw [← hn] at hc5
          simp [storeCode, hc1, hc2, hc3, hc4, hc5]
        rw [if_pos hs]
        dsimp only
        refine Does.of_vc tabok Tryz.func53 rfl rfl rfl (by kernel_rfl) ?_; conv => whnf
        refine SemK.box ?_
        intro b41 w41 g41 l41 e41 B41
        conv => whnf
        refine (impl_ValidBoxes (h.ext e41) hok).mono ?_
        rintro _ w43 ⟨rfl, e42⟩
        conv => whnf
        refine IfB.eqf (by simp [*]; done) ?_
        conv => whnf
        refine SemK.loadAgg (n := 5) (by kernel_rfl) (B41.ext e42).cells rfl ?_
        conv => whnf
        refine (impl_isBox hx _).mono ?_
        rintro _ w45 ⟨rfl, e44⟩
        conv => whnf
        refine IfB.eqf (by simp [*]; done) ?_
        conv => whnf
        refine SemK.load1 (by kernel_rfl) (B41.ext (Ext.trans e42 e44)).cells (k := 4) rfl ?_
        conv => whnf
        refine IfB.eqf (by simp [*]; done) ?_
        conv => whnf
        refine SemK.load1 (by kernel_rfl) (B41.ext (Ext.trans e42 e44)).cells (k := 0) rfl ?_
        conv => whnf
        refine (impl_boxIndex (h.ext (Ext.trans (Ext.trans e41 e42) e44)) _).mono ?_
        rintro _ w47 ⟨rfl, e46⟩
        conv => whnf
        refine IfB.no (by omega) ?_
        conv => whnf
        refine IfB.no (by omega) ?_
        conv => whnf
        refine DrawK.tree tabok mixed (.mv 1 (.alt 0 (.alt 2 (.alt 3 (.alt 4 (.alt 5 (.alt 6 .leaf .stop) .stop) .stop) .stop) (.alt 3 (.alt 2 (.alt 4 (.alt 5 (.alt 6 .leaf .stop) .stop) .stop) (.alt 4 (.alt 2 (.alt 5 (.alt 6 .leaf .stop) .stop) .stop) .stop)) .stop)) (.alt 3 (.alt 0 (.alt 2 (.alt 4 (.alt 5 (.alt 6 .leaf .stop) .stop) .stop) (.alt 4 (.alt 2 (.alt 5 (.alt 6 .leaf .stop) .stop) .stop) .stop)) (.alt 4 (.alt 0 (.alt 2 (.alt 5 (.alt 6 .leaf .stop) .stop) .stop) .stop) .stop)) .stop))) (by kernel_rfl) (by kernel_rfl) ?_
        conv => whnf
        intro w48 e48
        conv => whnf
        refine Both.mk ?_ ?_
        · conv => whnf
          refine SemK.buildSlice mk_97 (vs := []) (by rfl) (by rfl) (by simp [Value.cells]) (by decide) ?_
          intro b49 w49 g49 l49 e49 B49
          have G49 := Grow.new0 (enc := TBox.enc) TBox.enc_len B49 g49
          conv => whnf
          refine Both.mk ?_ ?_
          · conv => whnf
            refine SemK.appendNew (enc := TBox.enc) mk_97 TBox.enc_len G49 (h.ext (Ext.trans (Ext.trans (Ext.trans (Ext.trans (Ext.trans e41 e42) e44) e46) e48) e49)) (by intro y _; simp [TBox.enc, cellish]) (by omega) (by omega) (Below.size e49) ?_
            intro a50 c50 w50 G50 m50 i50
            conv => whnf
            refine Both.one ?_
            conv => whnf
            refine SemK.loadAgg (n := 5) (by kernel_rfl) (B41.ext (Ext.mod_trans (Ext.trans (Ext.trans (Ext.trans (Ext.trans e42 e44) e46) e48) e49) m50 (fun k hk => Nat.le_trans (Below.size (Ext.trans (Ext.trans (Ext.trans e42 e44) e46) e48)) (blkIn_new G49.new k hk)))).cells rfl ?_
            conv => whnf
            refine Both.one ?_
            conv => whnf
            refine SemK.buildSlice mk_97 (vs := [Value.agg #[Value.string x.name, Value.int IntKind.i64 x.cards, Value.int IntKind.i64 x.year, Value.int IntKind.i64 x.keep, Value.string x.lent]]) (by rfl) (by rfl) (by simp [Value.cells]) (by decide) ?_
            intro b51 w51 g51 l51 e51 B51
            have G51 := Grow.of_blk (n := 1) (enc := TBox.enc) (xs := [⟨x.name, x.cards, x.year, x.keep, x.lent⟩]) TBox.enc_len B51 g51 rfl (by decide)
            conv => whnf
            refine Both.one ?_
            conv => whnf
            refine SemK.appendArr0 (enc := TBox.enc) mk_97 TBox.enc_len (G50.ext e51) (G51.own.arr TBox.enc_len) (by intro y _; simp [TBox.enc, cellish]) (by omega) (by omega) (Below.size (Ext.trans (Ext.mod_trans e49 m50 (blkIn_new G49.new)) e51)) ?_
            intro a52 c52 w52 G52 m52 i52
            conv => whnf
            refine Both.one ?_
            conv => whnf
            refine (lib_SortBoxes G52.own (by omega) (by omega)).mono ?_
            rintro _ w58 ⟨d53, rfl, q54, q55, O56, m57⟩
            conv => whnf
            refine ⟨_, _, _, rfl, (G52.new.mono (Below.size (Ext.trans (Ext.trans (Ext.trans (Ext.trans e41 e42) e44) e46) e48))), ?_, (Ext.mod_trans (Ext.mod_trans (Ext.trans (Ext.mod_trans (Ext.trans (Ext.trans (Ext.trans (Ext.trans (Ext.trans e41 e42) e44) e46) e48) e49) m50 (fun k hk => Nat.le_trans (Below.size (Ext.trans (Ext.trans (Ext.trans (Ext.trans e41 e42) e44) e46) e48)) (blkIn_new G49.new k hk))) e51) m52 (fun k hk => Nat.le_trans (Below.size (Ext.trans (Ext.trans (Ext.trans (Ext.trans e41 e42) e44) e46) e48)) (blkIn_new G50.new k hk))) m57 (fun k hk => Nat.le_trans (Below.size (Ext.trans (Ext.trans (Ext.trans (Ext.trans e41 e42) e44) e46) e48)) (blkIn_new G52.new k hk)))⟩
            · have hst := store_unique hc1 (by first | assumption | omega) (by simpa using q54) q55
              rw [← hst]; exact O56
          · conv => whnf
            refine Both.one ?_
            conv => whnf
            refine SemK.loadAgg (n := 5) (by kernel_rfl) (B41.ext (Ext.trans (Ext.trans (Ext.trans (Ext.trans e42 e44) e46) e48) e49)).cells rfl ?_
            conv => whnf
            refine Both.mk ?_ ?_
            · conv => whnf
              refine SemK.appendNew (enc := TBox.enc) mk_97 TBox.enc_len G49 (h.ext (Ext.trans (Ext.trans (Ext.trans (Ext.trans (Ext.trans e41 e42) e44) e46) e48) e49)) (by intro y _; simp [TBox.enc, cellish]) (by omega) (by omega) (Below.size e49) ?_
              intro a59 c59 w59 G59 m59 i59
              conv => whnf
              refine Both.one ?_
              conv => whnf
              refine SemK.buildSlice mk_97 (vs := [Value.agg #[Value.string x.name, Value.int IntKind.i64 x.cards, Value.int IntKind.i64 x.year, Value.int IntKind.i64 x.keep, Value.string x.lent]]) (by rfl) (by rfl) (by simp [Value.cells]) (by decide) ?_
              intro b60 w60 g60 l60 e60 B60
              have G60 := Grow.of_blk (n := 1) (enc := TBox.enc) (xs := [⟨x.name, x.cards, x.year, x.keep, x.lent⟩]) TBox.enc_len B60 g60 rfl (by decide)
              conv => whnf
              refine Both.one ?_
              conv => whnf
              refine SemK.appendArr0 (enc := TBox.enc) mk_97 TBox.enc_len (G59.ext e60) (G60.own.arr TBox.enc_len) (by intro y _; simp [TBox.enc, cellish]) (by omega) (by omega) (Below.size (Ext.trans (Ext.mod_trans e49 m59 (blkIn_new G49.new)) e60)) ?_
              intro a61 c61 w61 G61 m61 i61
              conv => whnf
              refine Both.one ?_
              conv => whnf
              refine (lib_SortBoxes G61.own (by omega) (by omega)).mono ?_
              rintro _ w67 ⟨d62, rfl, q63, q64, O65, m66⟩
              conv => whnf
              refine ⟨_, _, _, rfl, (G61.new.mono (Below.size (Ext.trans (Ext.trans (Ext.trans (Ext.trans e41 e42) e44) e46) e48))), ?_, (Ext.mod_trans (Ext.mod_trans (Ext.trans (Ext.mod_trans (Ext.trans (Ext.trans (Ext.trans (Ext.trans (Ext.trans e41 e42) e44) e46) e48) e49) m59 (fun k hk => Nat.le_trans (Below.size (Ext.trans (Ext.trans (Ext.trans (Ext.trans e41 e42) e44) e46) e48)) (blkIn_new G49.new k hk))) e60) m61 (fun k hk => Nat.le_trans (Below.size (Ext.trans (Ext.trans (Ext.trans (Ext.trans e41 e42) e44) e46) e48)) (blkIn_new G59.new k hk))) m66 (fun k hk => Nat.le_trans (Below.size (Ext.trans (Ext.trans (Ext.trans (Ext.trans e41 e42) e44) e46) e48)) (blkIn_new G61.new k hk)))⟩
              · have hst := store_unique hc1 (by first | assumption | omega) (by simpa using q63) q64
                rw [← hst]; exact O65
            · conv => whnf
              refine Both.one ?_
              conv => whnf
              refine SemK.buildSlice mk_97 (vs := [Value.agg #[Value.string x.name, Value.int IntKind.i64 x.cards, Value.int IntKind.i64 x.year, Value.int IntKind.i64 x.keep, Value.string x.lent]]) (by rfl) (by rfl) (by simp [Value.cells]) (by decide) ?_
              intro b68 w68 g68 l68 e68 B68
              have G68 := Grow.of_blk (n := 1) (enc := TBox.enc) (xs := [⟨x.name, x.cards, x.year, x.keep, x.lent⟩]) TBox.enc_len B68 g68 rfl (by decide)
              conv => whnf
              refine Both.one ?_
              conv => whnf
              refine SemK.appendNew (enc := TBox.enc) mk_97 TBox.enc_len (G49.ext e68) (h.ext (Ext.trans (Ext.trans (Ext.trans (Ext.trans (Ext.trans (Ext.trans e41 e42) e44) e46) e48) e49) e68)) (by intro y _; simp [TBox.enc, cellish]) (by omega) (by omega) (Below.size (Ext.trans e49 e68)) ?_
              intro a69 c69 w69 G69 m69 i69
              conv => whnf
              refine Both.one ?_
              conv => whnf
              refine SemK.appendArr0 (enc := TBox.enc) mk_97 TBox.enc_len G69 ((G68.mod m69 (apart' G68.new G49.lt (Nat.le_refl _))).own.arr TBox.enc_len) (by intro y _; simp [TBox.enc, cellish]) (by omega) (by omega) (Below.size (Ext.mod_trans (Ext.trans e49 e68) m69 (blkIn_new G49.new))) ?_
              intro a70 c70 w70 G70 m70 i70
              conv => whnf
              refine Both.one ?_
              conv => whnf
              refine (lib_SortBoxes G70.own (by omega) (by omega)).mono ?_
              rintro _ w76 ⟨d71, rfl, q72, q73, O74, m75⟩
              conv => whnf
              refine ⟨_, _, _, rfl, (G70.new.mono (Below.size (Ext.trans (Ext.trans (Ext.trans (Ext.trans e41 e42) e44) e46) e48))), ?_, (Ext.mod_trans (Ext.mod_trans (Ext.mod_trans (Ext.trans (Ext.trans (Ext.trans (Ext.trans (Ext.trans (Ext.trans e41 e42) e44) e46) e48) e49) e68) m69 (fun k hk => Nat.le_trans (Below.size (Ext.trans (Ext.trans (Ext.trans (Ext.trans e41 e42) e44) e46) e48)) (blkIn_new G49.new k hk))) m70 (fun k hk => Nat.le_trans (Below.size (Ext.trans (Ext.trans (Ext.trans (Ext.trans e41 e42) e44) e46) e48)) (blkIn_new G69.new k hk))) m75 (fun k hk => Nat.le_trans (Below.size (Ext.trans (Ext.trans (Ext.trans (Ext.trans e41 e42) e44) e46) e48)) (blkIn_new G70.new k hk)))⟩
              · have hst := store_unique hc1 (by first | assumption | omega) (by simpa using q72) q73
                rw [← hst]; exact O74
        · conv => whnf
          refine Both.one ?_
          conv => whnf
          refine SemK.loadAgg (n := 5) (by kernel_rfl) (B41.ext (Ext.trans (Ext.trans (Ext.trans e42 e44) e46) e48)).cells rfl ?_
          conv => whnf
          refine Both.mk ?_ ?_
          · conv => whnf
            refine SemK.buildSlice mk_97 (vs := []) (by rfl) (by rfl) (by simp [Value.cells]) (by decide) ?_
            intro b77 w77 g77 l77 e77 B77
            have G77 := Grow.new0 (enc := TBox.enc) TBox.enc_len B77 g77
            conv => whnf
            refine Both.mk ?_ ?_
            · conv => whnf
              refine SemK.appendNew (enc := TBox.enc) mk_97 TBox.enc_len G77 (h.ext (Ext.trans (Ext.trans (Ext.trans (Ext.trans (Ext.trans e41 e42) e44) e46) e48) e77)) (by intro y _; simp [TBox.enc, cellish]) (by omega) (by omega) (Below.size e77) ?_
              intro a78 c78 w78 G78 m78 i78
              conv => whnf
              refine Both.one ?_
              conv => whnf
              refine SemK.buildSlice mk_97 (vs := [Value.agg #[Value.string x.name, Value.int IntKind.i64 x.cards, Value.int IntKind.i64 x.year, Value.int IntKind.i64 x.keep, Value.string x.lent]]) (by rfl) (by rfl) (by simp [Value.cells]) (by decide) ?_
              intro b79 w79 g79 l79 e79 B79
              have G79 := Grow.of_blk (n := 1) (enc := TBox.enc) (xs := [⟨x.name, x.cards, x.year, x.keep, x.lent⟩]) TBox.enc_len B79 g79 rfl (by decide)
              conv => whnf
              refine Both.one ?_
              conv => whnf
              refine SemK.appendArr0 (enc := TBox.enc) mk_97 TBox.enc_len (G78.ext e79) (G79.own.arr TBox.enc_len) (by intro y _; simp [TBox.enc, cellish]) (by omega) (by omega) (Below.size (Ext.trans (Ext.mod_trans e77 m78 (blkIn_new G77.new)) e79)) ?_
              intro a80 c80 w80 G80 m80 i80
              conv => whnf
              refine Both.one ?_
              conv => whnf
              refine (lib_SortBoxes G80.own (by omega) (by omega)).mono ?_
              rintro _ w86 ⟨d81, rfl, q82, q83, O84, m85⟩
              conv => whnf
              refine ⟨_, _, _, rfl, (G80.new.mono (Below.size (Ext.trans (Ext.trans (Ext.trans (Ext.trans e41 e42) e44) e46) e48))), ?_, (Ext.mod_trans (Ext.mod_trans (Ext.trans (Ext.mod_trans (Ext.trans (Ext.trans (Ext.trans (Ext.trans (Ext.trans e41 e42) e44) e46) e48) e77) m78 (fun k hk => Nat.le_trans (Below.size (Ext.trans (Ext.trans (Ext.trans (Ext.trans e41 e42) e44) e46) e48)) (blkIn_new G77.new k hk))) e79) m80 (fun k hk => Nat.le_trans (Below.size (Ext.trans (Ext.trans (Ext.trans (Ext.trans e41 e42) e44) e46) e48)) (blkIn_new G78.new k hk))) m85 (fun k hk => Nat.le_trans (Below.size (Ext.trans (Ext.trans (Ext.trans (Ext.trans e41 e42) e44) e46) e48)) (blkIn_new G80.new k hk)))⟩
              · have hst := store_unique hc1 (by first | assumption | omega) (by simpa using q82) q83
                rw [← hst]; exact O84
            · conv => whnf
              refine Both.one ?_
              conv => whnf
              refine SemK.buildSlice mk_97 (vs := [Value.agg #[Value.string x.name, Value.int IntKind.i64 x.cards, Value.int IntKind.i64 x.year, Value.int IntKind.i64 x.keep, Value.string x.lent]]) (by rfl) (by rfl) (by simp [Value.cells]) (by decide) ?_
              intro b87 w87 g87 l87 e87 B87
              have G87 := Grow.of_blk (n := 1) (enc := TBox.enc) (xs := [⟨x.name, x.cards, x.year, x.keep, x.lent⟩]) TBox.enc_len B87 g87 rfl (by decide)
              conv => whnf
              refine Both.one ?_
              conv => whnf
              refine SemK.appendNew (enc := TBox.enc) mk_97 TBox.enc_len (G77.ext e87) (h.ext (Ext.trans (Ext.trans (Ext.trans (Ext.trans (Ext.trans (Ext.trans e41 e42) e44) e46) e48) e77) e87)) (by intro y _; simp [TBox.enc, cellish]) (by omega) (by omega) (Below.size (Ext.trans e77 e87)) ?_
              intro a88 c88 w88 G88 m88 i88
              conv => whnf
              refine Both.one ?_
              conv => whnf
              refine SemK.appendArr0 (enc := TBox.enc) mk_97 TBox.enc_len G88 ((G87.mod m88 (apart' G87.new G77.lt (Nat.le_refl _))).own.arr TBox.enc_len) (by intro y _; simp [TBox.enc, cellish]) (by omega) (by omega) (Below.size (Ext.mod_trans (Ext.trans e77 e87) m88 (blkIn_new G77.new))) ?_
              intro a89 c89 w89 G89 m89 i89
              conv => whnf
              refine Both.one ?_
              conv => whnf
              refine (lib_SortBoxes G89.own (by omega) (by omega)).mono ?_
              rintro _ w95 ⟨d90, rfl, q91, q92, O93, m94⟩
              conv => whnf
              refine ⟨_, _, _, rfl, (G89.new.mono (Below.size (Ext.trans (Ext.trans (Ext.trans (Ext.trans e41 e42) e44) e46) e48))), ?_, (Ext.mod_trans (Ext.mod_trans (Ext.mod_trans (Ext.trans (Ext.trans (Ext.trans (Ext.trans (Ext.trans (Ext.trans e41 e42) e44) e46) e48) e77) e87) m88 (fun k hk => Nat.le_trans (Below.size (Ext.trans (Ext.trans (Ext.trans (Ext.trans e41 e42) e44) e46) e48)) (blkIn_new G77.new k hk))) m89 (fun k hk => Nat.le_trans (Below.size (Ext.trans (Ext.trans (Ext.trans (Ext.trans e41 e42) e44) e46) e48)) (blkIn_new G88.new k hk))) m94 (fun k hk => Nat.le_trans (Below.size (Ext.trans (Ext.trans (Ext.trans (Ext.trans e41 e42) e44) e46) e48)) (blkIn_new G89.new k hk)))⟩
              · have hst := store_unique hc1 (by first | assumption | omega) (by simpa using q91) q92
                rw [← hst]; exact O93
          · conv => whnf
            refine Both.one ?_
            conv => whnf
            refine SemK.buildSlice mk_97 (vs := [Value.agg #[Value.string x.name, Value.int IntKind.i64 x.cards, Value.int IntKind.i64 x.year, Value.int IntKind.i64 x.keep, Value.string x.lent]]) (by rfl) (by rfl) (by simp [Value.cells]) (by decide) ?_
            intro b96 w96 g96 l96 e96 B96
            have G96 := Grow.of_blk (n := 1) (enc := TBox.enc) (xs := [⟨x.name, x.cards, x.year, x.keep, x.lent⟩]) TBox.enc_len B96 g96 rfl (by decide)
            conv => whnf
            refine Both.one ?_
            conv => whnf
            refine SemK.buildSlice mk_97 (vs := []) (by rfl) (by rfl) (by simp [Value.cells]) (by decide) ?_
            intro b97 w97 g97 l97 e97 B97
            have G97 := Grow.new0 (enc := TBox.enc) TBox.enc_len B97 g97
            conv => whnf
            refine Both.one ?_
            conv => whnf
            refine SemK.appendNew (enc := TBox.enc) mk_97 TBox.enc_len G97 (h.ext (Ext.trans (Ext.trans (Ext.trans (Ext.trans (Ext.trans (Ext.trans e41 e42) e44) e46) e48) e96) e97)) (by intro y _; simp [TBox.enc, cellish]) (by omega) (by omega) (Below.size e97) ?_
            intro a98 c98 w98 G98 m98 i98
            conv => whnf
            refine Both.one ?_
            conv => whnf
            refine SemK.appendArr0 (enc := TBox.enc) mk_97 TBox.enc_len G98 ((G96.ext (Ext.mod_trans e97 m98 (blkIn_new G97.new))).own.arr TBox.enc_len) (by intro y _; simp [TBox.enc, cellish]) (by omega) (by omega) (Below.size (Ext.mod_trans e97 m98 (blkIn_new G97.new))) ?_
            intro a99 c99 w99 G99 m99 i99
            conv => whnf
            refine Both.one ?_
            conv => whnf
            refine (lib_SortBoxes G99.own (by omega) (by omega)).mono ?_
            rintro _ w105 ⟨d100, rfl, q101, q102, O103, m104⟩
            conv => whnf
            refine ⟨_, _, _, rfl, (G99.new.mono (Below.size (Ext.trans (Ext.trans (Ext.trans (Ext.trans (Ext.trans e41 e42) e44) e46) e48) e96))), ?_, (Ext.mod_trans (Ext.mod_trans (Ext.mod_trans (Ext.trans (Ext.trans (Ext.trans (Ext.trans (Ext.trans (Ext.trans e41 e42) e44) e46) e48) e96) e97) m98 (fun k hk => Nat.le_trans (Below.size (Ext.trans (Ext.trans (Ext.trans (Ext.trans (Ext.trans e41 e42) e44) e46) e48) e96)) (blkIn_new G97.new k hk))) m99 (fun k hk => Nat.le_trans (Below.size (Ext.trans (Ext.trans (Ext.trans (Ext.trans (Ext.trans e41 e42) e44) e46) e48) e96)) (blkIn_new G98.new k hk))) m104 (fun k hk => Nat.le_trans (Below.size (Ext.trans (Ext.trans (Ext.trans (Ext.trans (Ext.trans e41 e42) e44) e46) e48) e96)) (blkIn_new G99.new k hk)))⟩
            · have hst := store_unique hc1 (by first | assumption | omega) (by simpa using q101) q102
              rw [← hst]; exact O103
  · have hs : storeCode xs x = 2 := by simp [storeCode, hc1, hc2, hc3]
    rw [hs, if_neg (by omega)]
    dsimp only
    refine Does.of_vc tabok Tryz.func53 rfl rfl rfl (by kernel_rfl) ?_; conv => whnf
    refine SemK.box ?_
    intro b41 w41 g41 l41 e41 B41
    conv => whnf
    refine (impl_ValidBoxes (h.ext e41) hok).mono ?_
    rintro _ w43 ⟨rfl, e42⟩
    conv => whnf
    refine IfB.eqf (by simp [*]; done) ?_
    conv => whnf
    refine SemK.loadAgg (n := 5) (by kernel_rfl) (B41.ext e42).cells rfl ?_
    conv => whnf
    refine (impl_isBox hx _).mono ?_
    rintro _ w45 ⟨rfl, e44⟩
    conv => whnf
    refine IfB.eqf (by simp [*]; done) ?_
    conv => whnf
    refine SemK.load1 (by kernel_rfl) (B41.ext (Ext.trans e42 e44)).cells (k := 4) rfl ?_
    conv => whnf
    refine IfB.eqt (by simp [*]; done) ?_
    conv => whnf
    exact ⟨_, _, _, rfl, NewAt.nil, Own.nil, (Ext.trans (Ext.trans e41 e42) e44)⟩
end Go.Proofs.YtkjmbjedbmblmaaGreatDoor
