/- Contracts of functions of the given program, of the reference and of the laws: each says what a call returns, for all arguments that meet the premises that the theorem itself names. -/
import Derived.Test.YtkjmbjedbmblmaaGreatDoorNest
namespace Go.M
open Go Go.Vc
def DeskR (w : World) (a : Option Addr) (n : Nat) (b : Option Addr) (m : Nat) (X : List (List (List Int))) (Y : List (List TTotal)) : Prop := ArrS RDeck w a n X ∧ ArrS RTots w b m Y
def DeskO (w : World) (lo hi : Nat) (a : Option Addr) (n : Nat) (b : Option Addr) (m : Nat) (X : List (List (List Int))) (Y : List (List TTotal)) : Prop :=
  ∃ t t' f g, OwnS ODeck w a n t X f ∧ OwnS OTots w b m t' Y g ∧ InIv lo hi (f ++ g)
theorem DeskO.rd {w : World} {lo hi n m : Nat} {a b : Option Addr} {X : List (List (List Int))} {Y : List (List TTotal)} (h : DeskO w lo hi a n b m X Y) : DeskR w a n b m X Y := by
  obtain ⟨t, t', f, g, h1, h2, _⟩ := h
  exact ⟨h1.arr, h2.arr⟩
theorem DeskO.mod {S : Nat → Prop} {w w' : World} {lo hi n m : Nat} {a b : Option Addr} {X : List (List (List Int))} {Y : List (List TTotal)} (h : DeskO w lo hi a n b m X Y) (M : Mod S w w') (hs : ∀ k, lo ≤ k → k < hi → ¬ S k) : DeskO w' lo hi a n b m X Y := by
  obtain ⟨t, t', f, g, h1, h2, h3⟩ := h
  have h4 : ∀ k ∈ f ++ g, ¬ S k := fun k hk => hs k (h3.2 k hk).1 (h3.2 k hk).2
  exact ⟨t, t', f, g, h1.keep fun k hk => M.block k (h4 k (List.mem_append_left _ hk)) (h1.lt k hk), h2.keep fun k hk => M.block k (h4 k (List.mem_append_right _ hk)) (h2.lt k hk), h3⟩
theorem DeskO.ext {w w' : World} {lo hi n m : Nat} {a b : Option Addr} {X : List (List (List Int))} {Y : List (List TTotal)} (h : DeskO w lo hi a n b m X Y) (e : Ext w w') : DeskO w' lo hi a n b m X Y := by
  obtain ⟨t, t', f, g, h1, h2, h3⟩ := h
  exact ⟨t, t', f, g, h1.keep fun k hk => e.block k (h1.lt k hk), h2.keep fun k hk => e.block k (h2.lt k hk), h3⟩
theorem DeskO.wide {w : World} {lo hi lo' hi' n m : Nat} {a b : Option Addr} {X : List (List (List Int))} {Y : List (List TTotal)} (h : DeskO w lo hi a n b m X Y) (h1 : lo' ≤ lo) (h2 : hi ≤ hi') : DeskO w lo' hi' a n b m X Y := by
  obtain ⟨t, t', f, g, h3, h4, h5⟩ := h
  exact ⟨t, t', f, g, h3, h4, h5.wide h1 h2⟩
/-- it reads so for as long as what lies between lo and hi stands -/
def DeskN (w : World) (lo hi : Nat) (a : Option Addr) (n : Nat) (b : Option Addr) (m : Nat) (X : List (List (List Int))) (Y : List (List TTotal)) : Prop := ∀ w', Mod (fun j => ¬ Iv lo hi j) w w' → DeskR w' a n b m X Y
theorem DeskN.mod {S : Nat → Prop} {w w' : World} {lo hi lo' hi' n m : Nat} {a b : Option Addr} {X : List (List (List Int))} {Y : List (List TTotal)} (h : DeskN w lo hi a n b m X Y) (M : Mod S w w') (hs : ∀ k, S k → ¬ Iv lo hi k) (hl : lo' ≤ lo) (hh : hi ≤ hi') : DeskN w' lo' hi' a n b m X Y := fun w'' M' =>
  h w'' ((M.mono hs).trans (M'.mono fun k hk h => hk ⟨Nat.le_trans hl h.1, Nat.lt_of_lt_of_le h.2 hh⟩))
theorem DeskN.rd {w : World} {lo hi n m : Nat} {a b : Option Addr} {X : List (List (List Int))} {Y : List (List TTotal)} (h : DeskN w lo hi a n b m X Y) : DeskR w a n b m X Y := h w (Vc.Mod.refl _ _)
theorem DeskR.ext {w w' : World} {n m : Nat} {a b : Option Addr} {X : List (List (List Int))} {Y : List (List TTotal)} (h : DeskR w a n b m X Y) (e : Ext w w') : DeskR w' a n b m X Y := ⟨h.1.ext e, h.2.ext e⟩
end Go.M
namespace Go.Proofs.YtkjmbjedbmblmaaGreatDoor
open Go Go.RowKit Go.Vc Go.M
theorem laws_eqOffice {w : World} {a a' b b' : Option Addr} {n n' c c' m m' d d' : Nat} {X X' : List (List (List Int))} {Y Y' : List (List TTotal)} (h1 : ArrS RDeck w a n X) (h1' : ArrS RDeck w a' n' X') (h2 : ArrS RTots w b m Y) (h2' : ArrS RTots w b' m' Y') :
    Does Tryz.prog 146 [.agg #[.slice a n c, .slice b m d], .agg #[.slice a' n' c', .slice b' m' d']] w (fun v w' => v = .bool (decide (X = X') && decide (Y = Y')) ∧ Ext w w') := by
  refine Does.of_vc tabok Tryz.func146 rfl rfl rfl (by kernel_rfl) ?_; conv => whnf
  refine SemK.box ?_
  intro b3 w3 g3 l3 e3 B3
  conv => whnf
  refine SemK.box ?_
  intro b4 w4 g4 l4 e4 B4
  conv => whnf
  refine SemK.load1 (by kernel_rfl) (B3.ext e4).cells (k := 0) rfl ?_
  conv => whnf
  refine SemK.load1 (by kernel_rfl) B4.cells (k := 0) rfl ?_
  conv => whnf
  refine (laws_eqCardSS (h1.ext (Ext.trans e3 e4)) (h1'.ext (Ext.trans e3 e4))).mono ?_
  rintro _ w6 ⟨rfl, e5⟩
  conv => whnf
  with_reducible refine IfB.ndec (fun h7 => ?_) (fun h7 => ?_)
  · conv => whnf
    exact ⟨by simp [*], (Ext.trans (Ext.trans e3 e4) e5)⟩
  · conv => whnf
    refine SemK.load1 (by kernel_rfl) (B3.ext (Ext.trans e4 e5)).cells (k := 1) rfl ?_
    conv => whnf
    refine SemK.load1 (by kernel_rfl) (B4.ext e5).cells (k := 1) rfl ?_
    conv => whnf
    refine (laws_eqTotalSS (h2.ext (Ext.trans (Ext.trans e3 e4) e5)) (h2'.ext (Ext.trans (Ext.trans e3 e4) e5))).mono ?_
    rintro _ w9 ⟨rfl, e8⟩
    conv => whnf
    with_reducible refine IfB.ndec (fun h10 => ?_) (fun h10 => ?_)
    · conv => whnf
      exact ⟨by simp [*], (Ext.trans (Ext.trans (Ext.trans e3 e4) e5) e8)⟩
    · conv => whnf
      exact ⟨by simp [*], (Ext.trans (Ext.trans (Ext.trans e3 e4) e5) e8)⟩
theorem laws_eqDesk {w : World} {a a' b b' : Option Addr} {n n' c c' m m' d d' : Nat} {s s' : ByteArray} {X X' : List (List (List Int))} {Y Y' : List (List TTotal)} (h : DeskR w a n b m X Y) (h' : DeskR w a' n' b' m' X' Y') :
    Does Tryz.prog 49 [.agg #[.slice a n c, .slice b m d, .string s], .agg #[.slice a' n' c', .slice b' m' d', .string s']] w (fun v w' => v = .bool (decide (X = X') && decide (Y = Y') && decide (s = s')) ∧ Ext w w') := by
  have h1 := h.1
  have h2 := h.2
  have h1' := h'.1
  have h2' := h'.2
  refine Does.of_vc tabok Tryz.func49 rfl rfl rfl (by kernel_rfl) ?_; conv => whnf
  refine SemK.box ?_
  intro b3 w3 g3 l3 e3 B3
  conv => whnf
  refine SemK.box ?_
  intro b4 w4 g4 l4 e4 B4
  conv => whnf
  refine SemK.loadAggAt (n := 2) (by kernel_rfl) (k := 0) (B3.ext e4).cells rfl ?_
  conv => whnf
  refine SemK.loadAggAt (n := 2) (by kernel_rfl) (k := 0) B4.cells rfl ?_
  conv => whnf
  refine (laws_eqOffice (h1.ext (Ext.trans e3 e4)) (h1'.ext (Ext.trans e3 e4)) (h2.ext (Ext.trans e3 e4)) (h2'.ext (Ext.trans e3 e4))).mono ?_
  rintro _ w6 ⟨rfl, e5⟩
  conv => whnf
  with_reducible refine IfB.nsplit (fun h7 => ?_) (fun h7 => ?_)
  · conv => whnf
    exact ⟨by simp [*], (Ext.trans (Ext.trans e3 e4) e5)⟩
  · conv => whnf
    refine SemK.load1 (by kernel_rfl) (B3.ext (Ext.trans e4 e5)).cells (k := 2) rfl ?_
    conv => whnf
    refine SemK.load1 (by kernel_rfl) (B4.ext e5).cells (k := 2) rfl ?_
    conv => whnf
    with_reducible refine IfB.ndec (fun h8 => ?_) (fun h8 => ?_)
    · conv => whnf
      exact ⟨by simp [*], (Ext.trans (Ext.trans e3 e4) e5)⟩
    · conv => whnf
      exact ⟨by simp [*], (Ext.trans (Ext.trans e3 e4) e5)⟩
theorem impl_ValidDeck0 {w : World} {a : Option Addr} {c : Nat} :
    Does Tryz.prog 127 [.slice a 0 c] w (fun v w' => v = .bool true ∧ Ext w w') := by
  refine Does.of_vc tabok Tryz.func127 rfl rfl rfl (by kernel_rfl) ?_; conv => whnf
  refine LoopK.rule [0, 5, 6, 7] (fun (_ : Nat) vs w' => vs = [.slice a 0 c, .slice a 0 c, .int .i64 0, .int .i64 0] ∧ w' = w) (fun k => 1 - k) tab tabok (by kernel_rfl) 0 ⟨rfl, rfl⟩ ?_
  rintro k g _ w' ⟨rfl, rfl⟩
  conv => whnf
  exact ⟨rfl, Ext.refl _⟩
end Go.Proofs.YtkjmbjedbmblmaaGreatDoor
