/- Contracts of functions of the given program, of the reference and of the laws: each says what a call returns, for all arguments that meet the premises that the theorem itself names. -/
import Derived.Test.YtkjmbjedbmblmaaGreatDoorFTotal
import Derived.Test.YtkjmbjedbmblmaaGreatDoorInts
import Derived.Test.YtkjmbjedbmblmaaGreatDoorVcNest
import Derived.Test.YtkjmbjedbmblmaaGreatDoorSts
namespace Go.M
open Go Go.Vc
instance : EncL eI 1 := ⟨eI_len⟩
instance : EncL eS 1 := ⟨eS_len⟩
instance : EncL TTotal.enc 2 := ⟨TTotal.enc_len⟩
abbrev RCard : Rd (List Int) := RA eI 1
abbrev RDeck : Rd (List (List Int)) := RS RCard
abbrev RTots : Rd (List TTotal) := RA TTotal.enc 2
abbrev OCard : Ow (List Int) := OA eI
abbrev ODeck : Ow (List (List Int)) := OS OCard
abbrev OTots : Ow (List TTotal) := OA TTotal.enc
def mkCard (k : Nat) (x : List Int) : List Int := marksI k x.length
def wtCard (x : List Int) : Nat := x.length
def mkDeck (k : Nat) (x : List (List Int)) : List (List Int) := mkAll mkCard wtCard k x
def wtDeck (x : List (List Int)) : Nat := wtAll wtCard x
def mkTots (k : Nat) (x : List TTotal) : List TTotal := TTotal.marks k x.length
def wtTots (x : List TTotal) : Nat := 2 * x.length
end Go.M
namespace Go.Proofs.YtkjmbjedbmblmaaGreatDoor
open Go Go.RowKit Go.Vc Go.M
theorem laws_eqCard {w : World} {d d' : Hd} {xs ys : List Int} (A : Arr eI 1 w d.a d.n xs) (A' : Arr eI 1 w d'.a d'.n ys) :
    Does Tryz.prog 137 [.agg ⟨eH d⟩, .agg ⟨eH d'⟩] w (fun v w' => v = .bool (decide (xs = ys)) ∧ Ext w w') := by
  refine Does.of_vc tabok Tryz.func137 rfl rfl rfl (by kernel_rfl) ?_; conv => whnf
  refine SemK.box ?_
  intro b1 w1 g1 l1 e1 B1
  conv => whnf
  refine SemK.box ?_
  intro b2 w2 g2 l2 e2 B2
  conv => whnf
  refine SemK.load1 (by kernel_rfl) (B1.ext e2).cells (k := 0) rfl ?_
  conv => whnf
  refine SemK.load1 (by kernel_rfl) B2.cells (k := 0) rfl ?_
  conv => whnf
  refine (laws_eqInt64S (A.ext (Ext.trans e1 e2)) (A'.ext (Ext.trans e1 e2))).mono ?_
  rintro _ w4 ⟨rfl, e3⟩
  conv => whnf
  with_reducible refine IfB.ndec (fun h5 => ?_) (fun h5 => ?_)
  · conv => whnf
    exact ⟨by simp [*], (Ext.trans (Ext.trans e1 e2) e3)⟩
  · conv => whnf
    exact ⟨by simp [*], (Ext.trans (Ext.trans e1 e2) e3)⟩
theorem laws_eqCardS {w : World} {a a' : Option Addr} {n n' c c' : Nat} {xs ys : List (List Int)} (h : ArrS RCard w a n xs) (h' : ArrS RCard w a' n' ys) :
    Does Tryz.prog 39 [.slice a n c, .slice a' n' c'] w (fun v w' => v = .bool (decide (xs = ys)) ∧ Ext w w') := by
  have hn := h.len
  have hn' := h'.len
  have hm := h.le
  obtain ⟨hs, hV, hE⟩ := h
  obtain ⟨hs', hV', hE'⟩ := h'
  have hl := hV.len
  have hl' := hV'.len
  refine Does.of_vc tabok Tryz.func39 rfl rfl rfl (by kernel_rfl) ?_; conv => whnf
  with_reducible refine IfB.ndec (fun h1 => ?_) (fun h1 => ?_)
  · conv => whnf
    exact ⟨by rw [decide_eq_false (fun e => by subst e; omega)], Ext.refl _⟩
  · conv => whnf
    refine LoopK.rule [0, 1, 5] (fun (k : Nat) vs w' => vs = [.slice a n c, .slice a' n' c', .int .i64 k] ∧ k ≤ n ∧ xs.take k = ys.take k ∧ Ext w w') (fun k => n - k) tab tabok (by kernel_rfl) 0 ⟨rfl, by omega, by simp, Ext.refl _⟩ ?_
    rintro k g _ w' ⟨rfl, hk, hall, hX⟩
    conv => whnf
    with_reducible refine IfB.dec (fun h2 => ?_) (fun h2 => ?_)
    · conv => whnf
      refine DrawK.held tabok mixed [(0, false), (1, false), (2, false), (3, false), (4, false), (5, true), (6, true), (7, true), (8, true), (9, true)] (by kernel_rfl) (by kernel_rfl) ?_
      conv => whnf
      intro w3 e3
      conv => whnf
      obtain ⟨x4, hx4⟩ : ∃ x, hs[k]? = some x := get_of_lt (by omega)
      obtain ⟨y4, hy4, R4⟩ := hE.get hx4
      have A4 := R4.1
      have n4 := R4.2
      refine DSemK.index (by kernel_rfl) (hV.ext hX) k rfl hx4 ?_
      intro b5 o5 _ hb5
      conv => whnf
      refine DSemK.loadAgg (by kernel_rfl) hb5 rfl ?_
      conv => whnf
      obtain ⟨x6, hx6⟩ : ∃ x, hs'[k]? = some x := get_of_lt (by omega)
      obtain ⟨y6, hy6, R6⟩ := hE'.get hx6
      have A6 := R6.1
      have n6 := R6.2
      refine SemK.index (by kernel_rfl) (hV'.ext (Ext.trans hX e3)) k rfl hx6 ?_
      intro b7 o7 _ hb7
      conv => whnf
      refine ⟨e3, ?_⟩
      conv => whnf
      refine SemK.loadAgg (by kernel_rfl) hb7 rfl ?_
      conv => whnf
      refine ⟨e3, ?_⟩
      conv => whnf
      refine (laws_eqCard (A4.ext (Ext.trans hX e3)) (A6.ext (Ext.trans hX e3))).mono ?_
      rintro _ w9 ⟨rfl, e8⟩
      conv => whnf
      refine ⟨(Ext.trans e3 e8), ?_⟩
      conv => whnf
      with_reducible refine IfB.ndec (fun h10 => ?_) (fun h10 => ?_)
      · conv => whnf
        refine ⟨?_, (Ext.trans (Ext.trans hX e3) e8)⟩
        · exact congrArg Value.bool (decide_eq_false (fun e => by subst e; rw [hy4] at hy6; cases hy6; simp at h10)).symm
      · conv => whnf
        refine SemK.add (((k + 1 : Nat) : Int)) (by omega) (by omega) (by omega) ?_
        conv => whnf
        exact ⟨k + 1, by omega, rfl, by omega, by simp [List.take_add_one, *], (Ext.trans (Ext.trans hX e3) e8)⟩
    · conv => whnf
      have kn11 : k = n := by omega
      have tk12 : List.take k xs = xs := List.take_of_length_le (by omega)
      have tk13 : List.take k hs = hs := List.take_of_length_le (by omega)
      refine ⟨?_, hX⟩
      · exact congrArg Value.bool (decide_eq_true (by rw [← List.take_of_length_le (show xs.length ≤ k by omega), hall, List.take_of_length_le (by omega)])).symm
theorem laws_markCardS {w : World} {a : Option Addr} {n c t k0 : Nat} {xs : List (List Int)} {fp : List Nat} (h : OwnS OCard w a n t xs fp) (hnd : fp.Nodup) (hk0 : k0 + wtAll wtCard xs ≤ 1000000000) :
    Does Tryz.prog 42 [.slice a n c, .int .i64 k0] w (fun v w' => v = .int .i64 ((k0 + wtAll wtCard xs : Nat) : Int) ∧ Mod (fun j => j ∈ fp) w w' ∧ OwnS OCard w' a n t (mkAll mkCard wtCard k0 xs) fp) := by
  have hn := h.len
  have hm := h.arr.le
  refine Does.of_vc tabok Tryz.func42 rfl rfl rfl (by kernel_rfl) ?_; conv => whnf
  refine LoopK.rule [0, 1, 5] (fun (k : Nat) vs w' => vs = [.slice a n c, .int .i64 ((k0 + wtAll wtCard (xs.take k) : Nat) : Int), .int .i64 k] ∧ k ≤ n ∧ Mod (fun j => j ∈ fp) w w' ∧ OwnS OCard w' a n t (mkAll mkCard wtCard k0 (xs.take k) ++ xs.drop k) fp) (fun k => n - k) tab tabok (by kernel_rfl) 0 ⟨by simp [wtAll]; exact ⟨rfl, rfl, rfl⟩, by omega, Vc.Mod.refl _ _, by simpa [mkAll] using h⟩ ?_
  rintro k g _ w' ⟨rfl, hk, hM, hO⟩
  conv => whnf
  with_reducible refine IfB.dec (fun h4 => ?_) (fun h4 => ?_)
  · obtain ⟨x, hx⟩ : ∃ x, xs[k]? = some x := get_of_lt (by omega)
    have hwt := wtAll_succ (wt := wtCard) hx
    have hwl := wtAll_le (wt := wtCard) hx
    obtain ⟨b, d, f, rfl, hbfp, hb, hEl, hfn, hfs, hbf, hset⟩ := hO.focus hnd (mark_get k0 hx)
    obtain ⟨⟨t', hown⟩, hdc, hfe⟩ := hEl
    have hdl : x.length = d.n := hown.1
    have hwx : wtCard x = d.n := by unfold wtCard; omega
    conv => whnf
    refine SemK.indexOwn (sz := 1) (by kernel_rfl) k rfl (by omega) ?_
    conv => whnf
    refine SemK.load1 (by kernel_rfl) hb (k := 0) rfl ?_
    conv => whnf
    refine (laws_markInt64S (k0 := k0 + wtAll wtCard (xs.take k)) hown (by omega)).mono ?_
    rintro _ w2 ⟨rfl, m2, O2⟩
    conv => whnf
    refine SemK.add (((k + 1 : Nat) : Int)) (by omega) (by omega) (by omega) ?_
    conv => whnf
    have M2 : Mod (fun j => j ∈ f) w' w2 := m2.mono fun j hj => by rw [hfe]; exact mem_blks.2 hj
    have O3 := hset w2 (mkCard (k0 + wtAll wtCard (xs.take k)) x) M2 ⟨⟨t', by unfold mkCard; rw [hdl]; exact O2⟩, hdc, hfe⟩
    rw [mark_set k0 hx] at O3
    exact ⟨k + 1, by omega, by rw [show k0 + wtAll wtCard (xs.take (k + 1)) = k0 + wtAll wtCard (xs.take k) + d.n by rw [hwt, hwx]; omega]; rfl, by omega, hM.trans (M2.mono hfs), O3⟩
  · conv => whnf
    have : k = n := by omega
    subst this
    rw [List.take_of_length_le (by omega), List.drop_eq_nil_of_le (by omega), List.append_nil] at hO
    rw [List.take_of_length_le (by omega)]
    exact ⟨rfl, hM, hO⟩
theorem laws_eqCardSS {w : World} {a a' : Option Addr} {n n' c c' : Nat} {xs ys : List (List (List Int))} (h : ArrS RDeck w a n xs) (h' : ArrS RDeck w a' n' ys) :
    Does Tryz.prog 244 [.slice a n c, .slice a' n' c'] w (fun v w' => v = .bool (decide (xs = ys)) ∧ Ext w w') := by
  have hn := h.len
  have hn' := h'.len
  have hm := h.le
  obtain ⟨hs, hV, hE⟩ := h
  obtain ⟨hs', hV', hE'⟩ := h'
  have hl := hV.len
  have hl' := hV'.len
  refine Does.of_vc tabok Tryz.func244 rfl rfl rfl (by kernel_rfl) ?_; conv => whnf
  with_reducible refine IfB.ndec (fun h1 => ?_) (fun h1 => ?_)
  · conv => whnf
    exact ⟨by rw [decide_eq_false (fun e => by subst e; omega)], Ext.refl _⟩
  · conv => whnf
    refine LoopK.rule [0, 1, 5] (fun (k : Nat) vs w' => vs = [.slice a n c, .slice a' n' c', .int .i64 k] ∧ k ≤ n ∧ xs.take k = ys.take k ∧ Ext w w') (fun k => n - k) tab tabok (by kernel_rfl) 0 ⟨rfl, by omega, by simp, Ext.refl _⟩ ?_
    rintro k g _ w' ⟨rfl, hk, hall, hX⟩
    conv => whnf
    with_reducible refine IfB.dec (fun h2 => ?_) (fun h2 => ?_)
    · conv => whnf
      refine DrawK.held tabok mixed [(0, false), (1, false), (2, false), (3, false), (4, false), (5, true), (6, true), (7, true), (8, true), (9, true)] (by kernel_rfl) (by kernel_rfl) ?_
      conv => whnf
      intro w3 e3
      conv => whnf
      obtain ⟨x4, hx4⟩ : ∃ x, hs[k]? = some x := get_of_lt (by omega)
      obtain ⟨y4, hy4, R4⟩ := hE.get hx4
      have A4 := R4.1
      have n4 := R4.2
      refine DSemK.index (by kernel_rfl) (hV.ext hX) k rfl hx4 ?_
      intro b5 o5 _ hb5
      conv => whnf
      refine DSemK.load0 (by kernel_rfl) hb5 rfl ?_
      conv => whnf
      obtain ⟨x6, hx6⟩ : ∃ x, hs'[k]? = some x := get_of_lt (by omega)
      obtain ⟨y6, hy6, R6⟩ := hE'.get hx6
      have A6 := R6.1
      have n6 := R6.2
      refine SemK.index (by kernel_rfl) (hV'.ext (Ext.trans hX e3)) k rfl hx6 ?_
      intro b7 o7 _ hb7
      conv => whnf
      refine ⟨e3, ?_⟩
      conv => whnf
      refine SemK.load0 (by kernel_rfl) hb7 rfl ?_
      conv => whnf
      refine ⟨e3, ?_⟩
      conv => whnf
      refine (laws_eqCardS (A4.ext (Ext.trans hX e3)) (A6.ext (Ext.trans hX e3))).mono ?_
      rintro _ w9 ⟨rfl, e8⟩
      conv => whnf
      refine ⟨(Ext.trans e3 e8), ?_⟩
      conv => whnf
      with_reducible refine IfB.ndec (fun h10 => ?_) (fun h10 => ?_)
      · conv => whnf
        refine ⟨?_, (Ext.trans (Ext.trans hX e3) e8)⟩
        · exact congrArg Value.bool (decide_eq_false (fun e => by subst e; rw [hy4] at hy6; cases hy6; simp at h10)).symm
      · conv => whnf
        refine SemK.add (((k + 1 : Nat) : Int)) (by omega) (by omega) (by omega) ?_
        conv => whnf
        exact ⟨k + 1, by omega, rfl, by omega, by simp [List.take_add_one, *], (Ext.trans (Ext.trans hX e3) e8)⟩
    · conv => whnf
      have kn11 : k = n := by omega
      have tk12 : List.take k xs = xs := List.take_of_length_le (by omega)
      have tk13 : List.take k hs = hs := List.take_of_length_le (by omega)
      refine ⟨?_, hX⟩
      · exact congrArg Value.bool (decide_eq_true (by rw [← List.take_of_length_le (show xs.length ≤ k by omega), hall, List.take_of_length_le (by omega)])).symm
theorem laws_eqTotalSS {w : World} {a a' : Option Addr} {n n' c c' : Nat} {xs ys : List (List TTotal)} (h : ArrS RTots w a n xs) (h' : ArrS RTots w a' n' ys) :
    Does Tryz.prog 245 [.slice a n c, .slice a' n' c'] w (fun v w' => v = .bool (decide (xs = ys)) ∧ Ext w w') := by
  have hn := h.len
  have hn' := h'.len
  have hm := h.le
  obtain ⟨hs, hV, hE⟩ := h
  obtain ⟨hs', hV', hE'⟩ := h'
  have hl := hV.len
  have hl' := hV'.len
  refine Does.of_vc tabok Tryz.func245 rfl rfl rfl (by kernel_rfl) ?_; conv => whnf
  with_reducible refine IfB.ndec (fun h1 => ?_) (fun h1 => ?_)
  · conv => whnf
    exact ⟨by rw [decide_eq_false (fun e => by subst e; omega)], Ext.refl _⟩
  · conv => whnf
    refine LoopK.rule [0, 1, 5] (fun (k : Nat) vs w' => vs = [.slice a n c, .slice a' n' c', .int .i64 k] ∧ k ≤ n ∧ xs.take k = ys.take k ∧ Ext w w') (fun k => n - k) tab tabok (by kernel_rfl) 0 ⟨rfl, by omega, by simp, Ext.refl _⟩ ?_
    rintro k g _ w' ⟨rfl, hk, hall, hX⟩
    conv => whnf
    with_reducible refine IfB.dec (fun h2 => ?_) (fun h2 => ?_)
    · conv => whnf
      refine DrawK.held tabok mixed [(0, false), (1, false), (2, false), (3, false), (4, false), (5, true), (6, true), (7, true), (8, true), (9, true)] (by kernel_rfl) (by kernel_rfl) ?_
      conv => whnf
      intro w3 e3
      conv => whnf
      obtain ⟨x4, hx4⟩ : ∃ x, hs[k]? = some x := get_of_lt (by omega)
      obtain ⟨y4, hy4, R4⟩ := hE.get hx4
      have A4 := R4.1
      have n4 := R4.2
      refine DSemK.index (by kernel_rfl) (hV.ext hX) k rfl hx4 ?_
      intro b5 o5 _ hb5
      conv => whnf
      refine DSemK.load0 (by kernel_rfl) hb5 rfl ?_
      conv => whnf
      obtain ⟨x6, hx6⟩ : ∃ x, hs'[k]? = some x := get_of_lt (by omega)
      obtain ⟨y6, hy6, R6⟩ := hE'.get hx6
      have A6 := R6.1
      have n6 := R6.2
      refine SemK.index (by kernel_rfl) (hV'.ext (Ext.trans hX e3)) k rfl hx6 ?_
      intro b7 o7 _ hb7
      conv => whnf
      refine ⟨e3, ?_⟩
      conv => whnf
      refine SemK.load0 (by kernel_rfl) hb7 rfl ?_
      conv => whnf
      refine ⟨e3, ?_⟩
      conv => whnf
      refine (laws_eqTotalS (A4.ext (Ext.trans hX e3)) (A6.ext (Ext.trans hX e3))).mono ?_
      rintro _ w9 ⟨rfl, e8⟩
      conv => whnf
      refine ⟨(Ext.trans e3 e8), ?_⟩
      conv => whnf
      with_reducible refine IfB.ndec (fun h10 => ?_) (fun h10 => ?_)
      · conv => whnf
        refine ⟨?_, (Ext.trans (Ext.trans hX e3) e8)⟩
        · exact congrArg Value.bool (decide_eq_false (fun e => by subst e; rw [hy4] at hy6; cases hy6; simp at h10)).symm
      · conv => whnf
        refine SemK.add (((k + 1 : Nat) : Int)) (by omega) (by omega) (by omega) ?_
        conv => whnf
        exact ⟨k + 1, by omega, rfl, by omega, by simp [List.take_add_one, *], (Ext.trans (Ext.trans hX e3) e8)⟩
    · conv => whnf
      have kn11 : k = n := by omega
      have tk12 : List.take k xs = xs := List.take_of_length_le (by omega)
      have tk13 : List.take k hs = hs := List.take_of_length_le (by omega)
      refine ⟨?_, hX⟩
      · exact congrArg Value.bool (decide_eq_true (by rw [← List.take_of_length_le (show xs.length ≤ k by omega), hall, List.take_of_length_le (by omega)])).symm
end Go.Proofs.YtkjmbjedbmblmaaGreatDoor
