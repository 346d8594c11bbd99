/- Contracts of functions of the given program, of the reference and of the laws: each says what a call returns, for all arguments that meet the premises that the theorem itself names. -/
import Derived.Test.YtkeeebdfjoefgaaNest
namespace Go.M
open Go Go.Vc
def DeskR (w : World) (a : Option Addr) (n : Nat) (b : Option Addr) (m : Nat) (X : List (List (List Int))) (Y : List (List TTotal)) : Prop := ArrS RDeck w a n X ∧ ArrS RTots w b m Y
def DeskO (w : World) (lo hi : Nat) (a : Option Addr) (n : Nat) (b : Option Addr) (m : Nat) (X : List (List (List Int))) (Y : List (List TTotal)) : Prop :=
  ∃ t t' f g, OwnS ODeck w a n t X f ∧ OwnS OTots w b m t' Y g ∧ InIv lo hi (f ++ g)
theorem DeskO.rd {w : World} {lo hi n m : Nat} {a b : Option Addr} {X : List (List (List Int))} {Y : List (List TTotal)} (h : DeskO w lo hi a n b m X Y) : DeskR w a n b m X Y := by
  obtain ⟨t, t', f, g, h1, h2, _⟩ := h
  exact ⟨h1.arr, h2.arr⟩
theorem DeskO.mod {S : Nat → Prop} {w w' : World} {lo hi n m : Nat} {a b : Option Addr} {X : List (List (List Int))} {Y : List (List TTotal)} (h : DeskO w lo hi a n b m X Y) (M : Mod S w w') (hs : ∀ k, lo ≤ k → k < hi → ¬ S k) : DeskO w' lo hi a n b m X Y := by
  obtain ⟨t, t', f, g, h1, h2, h3⟩ := h
  have h4 : ∀ k ∈ f ++ g, ¬ S k := fun k hk => hs k (h3.2 k hk).1 (h3.2 k hk).2
  exact ⟨t, t', f, g, h1.keep fun k hk => M.block k (h4 k (List.mem_append_left _ hk)) (h1.lt k hk), h2.keep fun k hk => M.block k (h4 k (List.mem_append_right _ hk)) (h2.lt k hk), h3⟩
theorem DeskO.ext {w w' : World} {lo hi n m : Nat} {a b : Option Addr} {X : List (List (List Int))} {Y : List (List TTotal)} (h : DeskO w lo hi a n b m X Y) (e : Ext w w') : DeskO w' lo hi a n b m X Y := by
  obtain ⟨t, t', f, g, h1, h2, h3⟩ := h
  exact ⟨t, t', f, g, h1.keep fun k hk => e.block k (h1.lt k hk), h2.keep fun k hk => e.block k (h2.lt k hk), h3⟩
theorem DeskO.wide {w : World} {lo hi lo' hi' n m : Nat} {a b : Option Addr} {X : List (List (List Int))} {Y : List (List TTotal)} (h : DeskO w lo hi a n b m X Y) (h1 : lo' ≤ lo) (h2 : hi ≤ hi') : DeskO w lo' hi' a n b m X Y := by
  obtain ⟨t, t', f, g, h3, h4, h5⟩ := h
  exact ⟨t, t', f, g, h3, h4, h5.wide h1 h2⟩
/-- it reads so for as long as what lies between lo and hi stands -/
def DeskN (w : World) (lo hi : Nat) (a : Option Addr) (n : Nat) (b : Option Addr) (m : Nat) (X : List (List (List Int))) (Y : List (List TTotal)) : Prop := ∀ w', Mod (fun j => ¬ Iv lo hi j) w w' → DeskR w' a n b m X Y
theorem DeskN.mod {S : Nat → Prop} {w w' : World} {lo hi lo' hi' n m : Nat} {a b : Option Addr} {X : List (List (List Int))} {Y : List (List TTotal)} (h : DeskN w lo hi a n b m X Y) (M : Mod S w w') (hs : ∀ k, S k → ¬ Iv lo hi k) (hl : lo' ≤ lo) (hh : hi ≤ hi') : DeskN w' lo' hi' a n b m X Y := fun w'' M' =>
  h w'' ((M.mono hs).trans (M'.mono fun k hk h => hk ⟨Nat.le_trans hl h.1, Nat.lt_of_lt_of_le h.2 hh⟩))
theorem DeskN.rd {w : World} {lo hi n m : Nat} {a b : Option Addr} {X : List (List (List Int))} {Y : List (List TTotal)} (h : DeskN w lo hi a n b m X Y) : DeskR w a n b m X Y := h w (Vc.Mod.refl _ _)
theorem DeskR.ext {w w' : World} {n m : Nat} {a b : Option Addr} {X : List (List (List Int))} {Y : List (List TTotal)} (h : DeskR w a n b m X Y) (e : Ext w w') : DeskR w' a n b m X Y := ⟨h.1.ext e, h.2.ext e⟩
end Go.M
namespace Go.Proofs.Ytkeeebdfjoefgaa
open Go Go.RowKit Go.Vc Go.M
theorem laws_eqOffice {w : World} {a a' b b' : Option Addr} {n n' c c' m m' d d' : Nat} {X X' : List (List (List Int))} {Y Y' : List (List TTotal)} (h1 : ArrS RDeck w a n X) (h1' : ArrS RDeck w a' n' X') (h2 : ArrS RTots w b m Y) (h2' : ArrS RTots w b' m' Y') :
    Does Try.prog 104 [.agg #[.slice a n c, .slice b m d], .agg #[.slice a' n' c', .slice b' m' d']] w (fun v w' => v = .bool (decide (X = X') && decide (Y = Y')) ∧ Ext w w') := by
  refine Does.of_vc tabok Try.func104 rfl rfl rfl (by kernel_rfl) ?_; conv => whnf
  refine SemK.box ?_
  intro b3 w3 g3 l3 e3 B3
  conv => whnf
  refine SemK.box ?_
  intro b4 w4 g4 l4 e4 B4
  conv => whnf
  refine SemK.load1 (by kernel_rfl) (B3.ext e4).cells (k := 0) rfl ?_
  conv => whnf
  refine SemK.load1 (by kernel_rfl) B4.cells (k := 0) rfl ?_
  conv => whnf
  refine (laws_eqCardSS (h1.ext (Ext.trans e3 e4)) (h1'.ext (Ext.trans e3 e4))).mono ?_
  rintro _ w6 ⟨rfl, e5⟩
  conv => whnf
  with_reducible refine IfB.ndec (fun h7 => ?_) (fun h7 => ?_)
  · conv => whnf
    exact ⟨by simp [*], (Ext.trans (Ext.trans e3 e4) e5)⟩
  · conv => whnf
    refine SemK.load1 (by kernel_rfl) (B3.ext (Ext.trans e4 e5)).cells (k := 1) rfl ?_
    conv => whnf
    refine SemK.load1 (by kernel_rfl) (B4.ext e5).cells (k := 1) rfl ?_
    conv => whnf
    refine (laws_eqTotalSS (h2.ext (Ext.trans (Ext.trans e3 e4) e5)) (h2'.ext (Ext.trans (Ext.trans e3 e4) e5))).mono ?_
    rintro _ w9 ⟨rfl, e8⟩
    conv => whnf
    with_reducible refine IfB.ndec (fun h10 => ?_) (fun h10 => ?_)
    · conv => whnf
      exact ⟨by simp [*], (Ext.trans (Ext.trans (Ext.trans e3 e4) e5) e8)⟩
    · conv => whnf
      exact ⟨by simp [*], (Ext.trans (Ext.trans (Ext.trans e3 e4) e5) e8)⟩
theorem laws_eqDesk {w : World} {a a' b b' : Option Addr} {n n' c c' m m' d d' : Nat} {s s' : ByteArray} {X X' : List (List (List Int))} {Y Y' : List (List TTotal)} (h : DeskR w a n b m X Y) (h' : DeskR w a' n' b' m' X' Y') :
    Does Try.prog 58 [.agg #[.slice a n c, .slice b m d, .string s], .agg #[.slice a' n' c', .slice b' m' d', .string s']] w (fun v w' => v = .bool (decide (X = X') && decide (Y = Y') && decide (s = s')) ∧ Ext w w') := by
  have h1 := h.1
  have h2 := h.2
  have h1' := h'.1
  have h2' := h'.2
  refine Does.of_vc tabok Try.func58 rfl rfl rfl (by kernel_rfl) ?_; conv => whnf
  refine SemK.box ?_
  intro b3 w3 g3 l3 e3 B3
  conv => whnf
  refine SemK.box ?_
  intro b4 w4 g4 l4 e4 B4
  conv => whnf
  refine SemK.loadAggAt (n := 2) (by kernel_rfl) (k := 0) (B3.ext e4).cells rfl ?_
  conv => whnf
  refine SemK.loadAggAt (n := 2) (by kernel_rfl) (k := 0) B4.cells rfl ?_
  conv => whnf
  refine (laws_eqOffice (h1.ext (Ext.trans e3 e4)) (h1'.ext (Ext.trans e3 e4)) (h2.ext (Ext.trans e3 e4)) (h2'.ext (Ext.trans e3 e4))).mono ?_
  rintro _ w6 ⟨rfl, e5⟩
  conv => whnf
  with_reducible refine IfB.nsplit (fun h7 => ?_) (fun h7 => ?_)
  · conv => whnf
    exact ⟨by simp [*], (Ext.trans (Ext.trans e3 e4) e5)⟩
  · conv => whnf
    refine SemK.load1 (by kernel_rfl) (B3.ext (Ext.trans e4 e5)).cells (k := 2) rfl ?_
    conv => whnf
    refine SemK.load1 (by kernel_rfl) (B4.ext e5).cells (k := 2) rfl ?_
    conv => whnf
    with_reducible refine IfB.ndec (fun h8 => ?_) (fun h8 => ?_)
    · conv => whnf
      exact ⟨by simp [*], (Ext.trans (Ext.trans e3 e4) e5)⟩
    · conv => whnf
      exact ⟨by simp [*], (Ext.trans (Ext.trans e3 e4) e5)⟩
theorem laws_heldOffice {w : World} {a b : Option Addr} {n c m d k0 : Nat} {X : List (List (List Int))} {Y : List (List TTotal)} (h1 : ArrS RDeck w a n (mkAll mkDeck wtDeck k0 X)) (h2 : ArrS RTots w b m (mkAll mkTots wtTots (k0 + wtAll wtDeck X) Y)) (hk0 : k0 + wtAll wtDeck X + wtAll wtTots Y ≤ 1000000000) :
    Does Try.prog 106 [.agg #[.slice a n c, .slice b m d], .int .i64 k0] w (fun v w' => v = .int .i64 ((k0 + wtAll wtDeck X + wtAll wtTots Y : Nat) : Int) ∧ Ext w w') := by
  refine Does.of_vc tabok Try.func106 rfl rfl rfl (by kernel_rfl) ?_; conv => whnf
  refine SemK.box ?_
  intro b3 w3 g3 l3 e3 B3
  conv => whnf
  refine SemK.load1 (by kernel_rfl) B3.cells (k := 0) rfl ?_
  conv => whnf
  refine (laws_heldCardSS (h1.ext e3) (by omega)).mono ?_
  rintro _ w5 ⟨rfl, e4⟩
  conv => whnf
  refine SemK.load1 (by kernel_rfl) (B3.ext e4).cells (k := 1) rfl ?_
  conv => whnf
  refine (laws_heldTotalSS (h2.ext (Ext.trans e3 e4)) hk0).mono ?_
  rintro _ w7 ⟨rfl, e6⟩
  conv => whnf
  exact ⟨rfl, (Ext.trans (Ext.trans e3 e4) e6)⟩
theorem laws_heldDesk {w : World} {a b : Option Addr} {n c m d k0 : Nat} {s : ByteArray} {X : List (List (List Int))} {Y : List (List TTotal)} (h : DeskR w a n b m (mkAll mkDeck wtDeck k0 X) (mkAll mkTots wtTots (k0 + wtAll wtDeck X) Y)) (hk0 : k0 + wtAll wtDeck X + wtAll wtTots Y ≤ 1000000000) :
    Does Try.prog 60 [.agg #[.slice a n c, .slice b m d, .string s], .int .i64 k0] w (fun v w' => v = .int .i64 ((k0 + wtAll wtDeck X + wtAll wtTots Y : Nat) : Int) ∧ Ext w w') := by
  have h1 := h.1
  have h2 := h.2
  refine Does.of_vc tabok Try.func60 rfl rfl rfl (by kernel_rfl) ?_; conv => whnf
  refine SemK.box ?_
  intro b3 w3 g3 l3 e3 B3
  conv => whnf
  refine SemK.loadAggAt (n := 2) (by kernel_rfl) (k := 0) B3.cells rfl ?_
  conv => whnf
  refine (laws_heldOffice (h1.ext e3) (h2.ext e3) hk0).mono ?_
  rintro _ w5 ⟨rfl, e4⟩
  conv => whnf
  exact ⟨rfl, (Ext.trans e3 e4)⟩
theorem laws_markOffice {w : World} {lo hi : Nat} {a b : Option Addr} {n c m d k0 : Nat} {X : List (List (List Int))} {Y : List (List TTotal)} (h : DeskO w lo hi a n b m X Y) (hk0 : k0 + wtAll wtDeck X + wtAll wtTots Y ≤ 1000000000) :
    Does Try.prog 105 [.agg #[.slice a n c, .slice b m d], .int .i64 k0] w (fun v w' => v = .int .i64 ((k0 + wtAll wtDeck X + wtAll wtTots Y : Nat) : Int) ∧ Mod (Iv lo hi) w w' ∧ DeskO w' lo hi a n b m (mkAll mkDeck wtDeck k0 X) (mkAll mkTots wtTots (k0 + wtAll wtDeck X) Y)) := by
  obtain ⟨t, t', f, g, h1, h2, h3⟩ := h
  obtain ⟨n1, n2, n3⟩ := List.nodup_append.1 h3.1
  refine Does.of_vc tabok Try.func105 rfl rfl rfl (by kernel_rfl) ?_; conv => whnf
  refine SemK.box ?_
  intro b4 w4 g4 l4 e4 B4
  conv => whnf
  refine SemK.load1 (by kernel_rfl) B4.cells (k := 0) rfl ?_
  conv => whnf
  have f4 : ∀ k ∈ f ++ g, k < w.heap.size := fun k hk => by
    rcases List.mem_append.1 hk with hk | hk
    · exact h1.lt k hk
    · exact h2.lt k hk
  refine (laws_markCardSS (h1.keep fun k hk => e4.block k (h1.lt k hk)) n1 (by omega)).mono ?_
  rintro _ w5 ⟨rfl, M5, O5⟩
  conv => whnf
  have c5 : Cells w5 b4 0 [.slice a n c, .slice b m d] := B4.cells.mod M5 (fun hb => by have := h1.lt b4 hb; omega)
  refine SemK.load1 (by kernel_rfl) c5 (k := 1) rfl ?_
  conv => whnf
  have O2 : OwnS OTots w5 b m t' Y g := h2.keep fun k hk => by
    rw [M5.block k (fun hf => n3 k hf k hk rfl) (Nat.lt_of_lt_of_le (h2.lt k hk) e4.size), e4.block k (h2.lt k hk)]
  refine (laws_markTotalSS O2 n2 (by omega)).mono ?_
  rintro _ w6 ⟨rfl, M6, O6⟩
  conv => whnf
  have O7 : OwnS ODeck w6 a n t (mkAll mkDeck wtDeck k0 X) f := O5.keep fun k hk => M6.block k (fun hg => n3 k hk k hg rfl) (O5.lt k hk)
  refine ⟨rfl, ?_, t, t', f, g, O7, O6, h3⟩
  exact (Ext.mod e4).trans ((M5.mono fun k hk => h3.2 k (List.mem_append_left _ hk)).trans (M6.mono fun k hk => h3.2 k (List.mem_append_right _ hk)))
theorem laws_markDesk {w : World} {lo hi : Nat} {a b : Option Addr} {n c m d k0 : Nat} {s : ByteArray} {X : List (List (List Int))} {Y : List (List TTotal)} (h : DeskO w lo hi a n b m X Y) (hk0 : k0 + wtAll wtDeck X + wtAll wtTots Y ≤ 1000000000) :
    Does Try.prog 59 [.agg #[.slice a n c, .slice b m d, .string s], .int .i64 k0] w (fun v w' => v = .int .i64 ((k0 + wtAll wtDeck X + wtAll wtTots Y : Nat) : Int) ∧ Mod (Iv lo hi) w w' ∧ DeskO w' lo hi a n b m (mkAll mkDeck wtDeck k0 X) (mkAll mkTots wtTots (k0 + wtAll wtDeck X) Y)) := by
  refine Does.of_vc tabok Try.func59 rfl rfl rfl (by kernel_rfl) ?_; conv => whnf
  refine SemK.box ?_
  intro b4 w4 g4 l4 e4 B4
  conv => whnf
  refine SemK.loadAggAt (n := 2) (by kernel_rfl) (k := 0) B4.cells rfl ?_
  conv => whnf
  refine (laws_markOffice (h.ext e4) hk0).mono ?_
  rintro _ w5 ⟨rfl, M5, O5⟩
  conv => whnf
  exact ⟨rfl, (Ext.mod e4).trans M5, O5⟩
theorem spec_l02Copy0 {w : World} {a : Option Addr} {c : Nat} :
    Does Try.prog 136 [.slice a 0 c] w (fun v w' => ∃ b, v = .slice (some ⟨b, 0, none⟩) 0 0 ∧ w.heap.size ≤ b ∧ b < w'.heap.size ∧ Blk w' b [] 148 ∧ Ext w w') := by
  refine Does.of_vc tabok Try.func136 rfl rfl rfl (by kernel_rfl) ?_; conv => whnf
  refine SemK.buildSlice mk_136 (vs := []) (by rfl) (by rfl) (by simp [Value.cells]) (by decide) ?_
  intro b1 w1 g1 l1 e1 B1
  conv => whnf
  refine LoopK.rule [0, 3, 4] (fun (_ : Nat) vs w' => vs = [.slice a 0 c, .slice (some ⟨b1, 0, none⟩) 0 0, .int .i64 0] ∧ w' = w1) (fun k => 1 - k) tab tabok (by kernel_rfl) 0 ⟨rfl, rfl⟩ ?_
  rintro k g _ w' ⟨rfl, rfl⟩
  conv => whnf
  exact ⟨b1, rfl, g1, l1, B1, e1⟩
theorem spec_l15New0 {w : World} {a : Option Addr} {c : Nat} :
    Does Try.prog 123 [.slice a 0 c] w (fun v w' => ∃ a c, v = .agg #[.slice a 6 c, .slice none 0 0] ∧ DeskN w' w.heap.size w'.heap.size a 6 none 0 (List.replicate 6 []) [] ∧ Ext w w') := by
  refine Does.of_vc tabok Try.func123 rfl rfl rfl (by kernel_rfl) ?_; conv => whnf
  refine SemK.alloc (z := .agg #[.slice none 0 0, .slice none 0 0]) (by kernel_rfl) ?_
  intro b1 w1 g1 l1 e1 B1
  conv => whnf
  refine (spec_l02Copy0).mono ?_
  rintro _ w7 ⟨b2, rfl, q3, q4, q5, e6⟩
  conv => whnf
  refine SemK.buildSlice mk_73 (vs := [Value.slice (some { block := b2, off := 0 }) 0 0]) (by rfl) (by rfl) (by simp [Value.cells]) (by decide) ?_
  intro b8 w8 g8 l8 e8 B8
  conv => whnf
  refine SemK.build st_76 rfl ?_
  conv => whnf
  have G8 : Grow eH 1 w1.heap.size 136 w8 (some ⟨b8, 0, none⟩) 1 1 [⟨some ⟨b2, 0, none⟩, 0, 0⟩] := Grow.of_blk (n := 1) (xs := [⟨some ⟨b2, 0, none⟩, 0, 0⟩]) eH_len B8 (by have := e6.size; omega) rfl (by omega)
  refine SemK.alloc (z := .agg #[.slice none 0 0, .slice none 0 0]) (by kernel_rfl) ?_
  intro b9 w9 g9 l9 e9 B9
  conv => whnf
  refine SemK.storeAll (vs := [Value.slice (some { block := b8, off := 0 }) 1 1, Value.slice none 0 0]) (by kernel_rfl) B9 rfl rfl (by simp [cellish]) ?_
  intro w10 c10 B10
  conv => whnf
  have e810 : Ext w8 w10 := e9.but_trans c10.but g9
  have G10 := G8.ext e810
  have E10 : Ext w1 w10 := Ext.trans e6 (Ext.trans e8 e810)
  have B10 : Blk w10 b9 [Value.slice (some { block := b8, off := 0 }) 1 1, Value.slice none 0 0] 76 := B10
  have B1' : Blk w10 b1 [.slice none 0 0, .slice none 0 0] 76 := B1.ext E10
  refine LoopK.rule [2, 3, 4] (fun (k : Nat) vs w' => ∃ a' c' hs, vs = [.pointer (some ⟨b1, 0, none⟩), .pointer (some ⟨b9, 0, none⟩), .int .i64 k] ∧ 1 ≤ k ∧ k ≤ 6 ∧ Blk w' b1 [.slice none 0 0, .slice none 0 0] 76 ∧ Blk w' b9 [.slice a' k c', .slice none 0 0] 76 ∧ Grow eH 1 w1.heap.size 136 w' a' k c' hs ∧ (∀ h ∈ hs, h.n = 0) ∧ ¬ blkIn a' b9 ∧ Ext w1 w' ∧ b9 < w'.heap.size) (fun k => 6 - k) tab tabok (by kernel_rfl) 1 ⟨some ⟨b8, 0, none⟩, 1, _, rfl, by omega, by omega, B1', B10, G10, by simp, by rintro ⟨x, hx, e⟩; cases hx; have e : b9 = b8 := e; omega, E10, Nat.lt_of_lt_of_le l9 c10.but.size⟩ ?_
  rintro k g _ w' ⟨a', c', hs, rfl, hk1, hk6, B1', B', G', hz, nb, E', l'⟩
  conv => whnf
  have n1 : ∀ j, j < w1.heap.size → ¬ blkIn a' j := fun j hj hk => by
    obtain ⟨x, hx, rfl⟩ := hk
    have := G'.new x hx
    omega
  with_reducible refine IfB.dec (fun h4 => ?_) (fun h4 => ?_)
  · conv => whnf
    refine SemK.load1 (by kernel_rfl) B'.cells (k := 0) rfl ?_
    conv => whnf
    refine SemK.buildSlice mk_136 (vs := []) (by rfl) (by rfl) (by simp [Value.cells]) (by decide) ?_
    intro b11 w11 g11 l11 e11 B11
    conv => whnf
    refine SemK.buildSlice mk_73 (vs := [Value.slice (some { block := b11, off := 0 }) 0 0]) (by rfl) (by rfl) (by simp [Value.cells]) (by decide) ?_
    intro b12 w12 g12 l12 e12 B12
    conv => whnf
    have e12' : Ext w' w12 := Ext.trans e11 e12
    refine SemK.appendAt mk_73 eH_len (G'.ext e12') (ys := [⟨some ⟨b11, 0, none⟩, 0, 0⟩]) (m := 1) B12.cells rfl (by simp [flat, eH, cellish]) (by omega) (by omega) (Nat.le_trans E'.size e12'.size) ?_
    intro a13 c13 w13 G13 M13 i13
    conv => whnf
    have hs12 := e12'.size
    refine SemK.store1 (by kernel_rfl) ((B'.ext e12').mod M13 nb) (k := 0 + 0) (by simp) rfl ?_
    intro w14 c14 B14
    have B14 : Blk w14 b9 [.slice a13 ((k + 1 : Nat) : Int).toNat c13, .slice none 0 0] 76 := B14
    conv => whnf
    have nb13 : ¬ blkIn a13 b9 := fun hk => by
      rcases i13 _ hk with h | h
      · exact nb h
      · omega
    refine SemK.add (((k + 1 : Nat) : Int)) (by omega) (by omega) (by omega) ?_
    conv => whnf
    have hE1 := e1.size
    have hE6 := e6.size
    have hE8 := e8.size
    refine ⟨k + 1, by omega, a13, c13, _, rfl, by omega, by omega, ((B1'.ext e12').mod M13 (n1 b1 l1)).mod c14.but (by omega), B14, G13.kept (fun x hx => c14.but.block _ (fun e => nb13 ⟨x, hx, e.symm⟩) (G13.lt x hx)), ?_, nb13, ?_, ?_⟩
    · intro h hh
      rcases List.mem_append.1 hh with hh | hh
      · exact hz h hh
      · simp only [List.mem_singleton] at hh
        subst hh
        rfl
    · exact ((Ext.trans E' e12').mod_trans M13 (fun j hj => by
        obtain ⟨x, hx, rfl⟩ := hj
        exact G'.new x hx)).but_trans c14.but (by omega)
    · have := c14.but.size
      have := M13.size
      omega
  · conv => whnf
    refine SemK.loadAgg (n := 2) (by kernel_rfl) B'.cells rfl ?_
    conv => whnf
    refine SemK.storeAll (vs := [Value.slice a' k c', Value.slice none 0 0]) (by kernel_rfl) B1' rfl rfl (by simp [cellish]) ?_
    intro w11 c11 B11
    conv => whnf
    refine CellK.of (run_loadAgg (n := 2) (by kernel_rfl) rfl B11.cells) ?_
    conv => whnf
    have hk : k = 6 := by omega
    subst hk
    have G11 := G'.kept (w' := w11) (fun x hx => c11.but.block _ (fun e => n1 b1 l1 ⟨x, hx, e.symm⟩) (G'.lt x hx))
    refine ⟨_, _, rfl, fun w9 M9 => ⟨⟨hs, (G11.kept (w' := w9) (fun x hx => M9.block _ (fun e => e ⟨by
      have := G11.new x hx
      have := e1.size
      omega, G11.lt x hx⟩) (G11.lt x hx))).own.arr eH_len, by rw [G11.1]; rfl, fun i h x h1 h2 => ?_⟩, ArrS.nil⟩, (Ext.trans e1 E').but_trans c11.but g1⟩
    have hx : x = [] := List.eq_of_mem_replicate (List.mem_of_getElem? h2)
    have hn := hz h (List.mem_of_getElem? h1)
    subst hx
    refine ⟨?_, by omega⟩
    rw [hn]
    exact ArrS.nil
theorem impl_newDeck0 {w : World} {a : Option Addr} {c : Nat} :
    Does Try.prog 125 [.slice a 0 c] w (fun v w' => ∃ b, v = .slice (some ⟨b, 0, none⟩) 0 0 ∧ w.heap.size ≤ b ∧ b < w'.heap.size ∧ Blk w' b [] 148 ∧ Ext w w') := by
  refine Does.of_vc tabok Try.func125 rfl rfl rfl (by kernel_rfl) ?_; conv => whnf
  refine SemK.buildSlice mk_136 (vs := []) (by rfl) (by rfl) (by simp [Value.cells]) (by decide) ?_
  intro b1 w1 g1 l1 e1 B1
  conv => whnf
  refine LoopK.rule [3, 7, 8, 9] (fun (_ : Nat) vs w' => vs = [.slice (some ⟨b1, 0, none⟩) 0 0, .slice a 0 c, .int .i64 0, .int .i64 0] ∧ w' = w1) (fun k => 1 - k) tab tabok (by kernel_rfl) 0 ⟨rfl, rfl⟩ ?_
  rintro k g _ w' ⟨rfl, rfl⟩
  conv => whnf
  exact ⟨b1, rfl, g1, l1, B1, e1⟩
theorem impl_ValidDeck0 {w : World} {a : Option Addr} {c : Nat} :
    Does Try.prog 124 [.slice a 0 c] w (fun v w' => v = .bool true ∧ Ext w w') := by
  refine Does.of_vc tabok Try.func124 rfl rfl rfl (by kernel_rfl) ?_; conv => whnf
  refine LoopK.rule [0, 5, 6, 7] (fun (_ : Nat) vs w' => vs = [.slice a 0 c, .slice a 0 c, .int .i64 0, .int .i64 0] ∧ w' = w) (fun k => 1 - k) tab tabok (by kernel_rfl) 0 ⟨rfl, rfl⟩ ?_
  rintro k g _ w' ⟨rfl, rfl⟩
  conv => whnf
  exact ⟨rfl, Ext.refl _⟩
theorem impl_NewOffice0 {w : World} {a : Option Addr} {c : Nat} :
    Does Try.prog 103 [.slice a 0 c] w (fun v w' => ∃ a c b d, v = .tuple #[.agg #[.slice a 6 c, .slice b 0 d], .int .i64 0] ∧ DeskO w' w.heap.size w'.heap.size a 6 b 0 (List.replicate 6 []) [] ∧ Ext w w') := by
  refine Does.of_vc tabok Try.func103 rfl rfl rfl (by kernel_rfl) ?_; conv => whnf
  refine SemK.alloc (z := .agg #[.slice none 0 0, .slice none 0 0]) (by kernel_rfl) ?_
  intro b1 w1 g1 l1 e1 B1
  conv => whnf
  refine (impl_ValidDeck0).mono ?_
  rintro _ w3 ⟨rfl, e2⟩
  conv => whnf
  refine SemK.make mk_73 (6) rfl (by omega) (by omega) ?_
  intro b4 w4 g4 l4 e4 B4
  conv => whnf
  refine SemK.buildSlice mk_74 (vs := []) (by rfl) (by rfl) (by simp [Value.cells]) (by decide) ?_
  intro b5 w5 g5 l5 e5 B5
  conv => whnf
  refine SemK.build st_76 rfl ?_
  conv => whnf
  refine SemK.alloc (z := .agg #[.slice none 0 0, .slice none 0 0]) (by kernel_rfl) ?_
  intro b6 w6 g6 l6 e6 B6
  conv => whnf
  refine SemK.storeAll (vs := [Value.slice (some { block := b4, off := 0 }) 6 6, Value.slice (some { block := b5, off := 0 }) 0 0]) (by kernel_rfl) B6 rfl rfl (by simp [cellish]) ?_
  intro w7 c7 B7
  conv => whnf
  have B4' : Blk w4 b4 [.slice none 0 0, .slice none 0 0, .slice none 0 0, .slice none 0 0, .slice none 0 0, .slice none 0 0] 136 := B4
  refine DrawK.heldS tabok mixed [(0, false), (1, false), (2, true), (3, true), (4, true), (5, true)] (by kernel_rfl) (by kernel_rfl) ?_
  conv => whnf
  intro w8 e8
  conv => whnf
  refine DSemK.load1 (by kernel_rfl) B7.cells (k := 0) rfl ?_
  conv => whnf
  refine (impl_newDeck0).mono ?_
  rintro _ w14 ⟨b9, rfl, q10, q11, q12, e13⟩
  conv => whnf
  refine ⟨(Ext.trans e8 e13), ?_⟩
  conv => whnf
  refine SemK.indexOwn (sz := 1) (by kernel_rfl) 0 rfl (by omega) ?_
  conv => whnf
  refine ⟨(Ext.trans e8 e13), ?_⟩
  conv => whnf
  have E47 : Ext w4 w7 := (Ext.trans e5 e6).but_trans c7.but (by omega)
  have E414 : Ext w4 w14 := Ext.trans E47 (Ext.trans e8 e13)
  refine SemK.store1 (by kernel_rfl) (B4'.ext E414) (k := 0 + 0 * 1) (by simp) rfl ?_
  intro w15 c15 B15
  have B15 : Blk w15 b4 [.slice (some ⟨b9, 0, none⟩) 0 0, .slice none 0 0, .slice none 0 0, .slice none 0 0, .slice none 0 0, .slice none 0 0] 136 := B15
  conv => whnf
  have hs14 := E414.size
  have c7' : Cells w15 b6 0 [Value.slice (some { block := b4, off := 0 }) 6 6, Value.slice (some { block := b5, off := 0 }) 0 0] := (B7.ext (Ext.trans e8 e13)).cells.mod c15.but (by omega)
  refine SemK.loadAgg (n := 2) (by kernel_rfl) c7' rfl ?_
  conv => whnf
  refine SemK.storeAll (vs := [Value.slice (some { block := b4, off := 0 }) 6 6, Value.slice (some { block := b5, off := 0 }) 0 0]) (by kernel_rfl) (B1.ext (Ext.but_trans (Ext.trans (Ext.trans e2 e4) E414) c15.but (Nat.le_trans (Below.size e2) g4))) rfl rfl (by simp [cellish]) ?_
  intro w415 c415 B415
  conv => whnf
  refine CellK.of (run_loadAgg (n := 2) (by kernel_rfl) rfl B415.cells) ?_
  conv => whnf
  refine ⟨_, _, _, _, rfl, ?_, (Ext.but_trans (Ext.but_trans (Ext.trans (Ext.trans (Ext.trans e1 e2) e4) E414) c15.but (Nat.le_trans (Below.size (Ext.trans e1 e2)) g4)) c415.but g1)⟩
  · have E7 : Ext w7 w14 := Ext.trans e8 e13
    have K1 : ∀ {b : Nat} {cs : List Value} {t : Nat}, Blk w14 b cs t → w1.heap.size ≤ b → b ≠ b4 → Blk w415 b cs t := fun hb hlo hne => (hb.mod c15.but hne).mod c415.but (by omega)
    have q12' := K1 q12 (by have := e8.size; have := E47.size; have := e4.size; have := e2.size; omega) (by have := e8.size; have := E47.size; omega)
    have B5' := K1 (B5.ext (Ext.trans e6 (Ext.refl _)) |>.mod c7.but (by omega) |>.ext E7) (by have := e4.size; have := e2.size; omega) (by omega)
    have B4x : Blk w415 b4 [.slice (some ⟨b9, 0, none⟩) 0 0, .slice none 0 0, .slice none 0 0, .slice none 0 0, .slice none 0 0, .slice none 0 0] 136 := B15.mod c415.but (by have := e2.size; omega)
    have z : ODeck w415 ⟨none, 0, 0⟩ [] [] := OS.zero
    have el := (((((ElO.nil.snoc (OS.new0 q12')).snoc z).snoc z).snoc z).snoc z).snoc z
    refine ⟨_, _, [b4, b9], [b5], ⟨_, _, (Grow.of_blk (n := 6) (xs := [⟨some ⟨b9, 0, none⟩, 0, 0⟩, ⟨none, 0, 0⟩, ⟨none, 0, 0⟩, ⟨none, 0, 0⟩, ⟨none, 0, 0⟩, ⟨none, 0, 0⟩]) eH_len B4x (Nat.le_refl b4) rfl (by omega)).own, el, rfl⟩, ⟨[], [], (Grow.new0 eH_len B5' (Nat.le_refl b5)).own, ElO.nil, rfl⟩, ?_, ?_⟩
    · have := e8.size
      have := e6.size
      have := c7.but.size
      simp
      omega
    · have h15 := c15.but.size
      have h415 := c415.but.size
      have := e8.size
      have := E47.size
      have := E414.size
      have := e1.size
      have := e2.size
      have := e4.size
      have := e13.size
      have := e6.size
      have := c7.but.size
      simp
      omega
theorem impl_NewDesk {w : World} :
    Does Try.prog 57 [] w (fun v w' => ∃ a c b d, v = .agg #[.slice a 6 c, .slice b 0 d, .string { data := #[] }] ∧ DeskO w' w.heap.size w'.heap.size a 6 b 0 (List.replicate 6 []) [] ∧ Ext w w') := by
  refine Does.of_vc tabok Try.func57 rfl rfl rfl (by kernel_rfl) ?_; conv => whnf
  refine SemK.alloc (z := .agg #[.slice none 0 0, .slice none 0 0, .string { data := #[] }]) (by kernel_rfl) ?_
  intro b1 w1 g1 l1 e1 B1
  conv => whnf
  refine (impl_NewOffice0).mono ?_
  rintro _ w8 ⟨a2, c3, b4, d5, rfl, q6, e7⟩
  conv => whnf
  refine SemK.alloc (z := .agg #[.slice none 0 0, .slice none 0 0]) (by kernel_rfl) ?_
  intro b9 w9 g9 l9 e9 B9
  conv => whnf
  refine SemK.storeAll (vs := [Value.slice a2 6 c3, Value.slice b4 0 d5]) (by kernel_rfl) B9 rfl rfl (by simp [cellish]) ?_
  intro w10 c10 B10
  conv => whnf
  refine SemK.loadAgg (n := 2) (by kernel_rfl) B10.cells rfl ?_
  conv => whnf
  refine SemK.build st_78 rfl ?_
  conv => whnf
  refine SemK.storeAll (vs := [Value.slice a2 6 c3, Value.slice b4 0 d5, Value.string { data := #[] }]) (by kernel_rfl) (B1.ext (Ext.but_trans (Ext.trans e7 e9) c10.but (Nat.le_trans (Below.size e7) g9))) rfl rfl (by simp [cellish]) ?_
  intro w11 c11 B11
  conv => whnf
  refine CellK.of (run_loadAgg (n := 3) (by kernel_rfl) rfl B11.cells) ?_
  conv => whnf
  refine ⟨_, _, _, _, rfl, ?_, (Ext.but_trans (Ext.but_trans (Ext.trans (Ext.trans e1 e7) e9) c10.but (Nat.le_trans (Below.size (Ext.trans e1 e7)) g9)) c11.but g1)⟩
  · have h10 := c10.but.size
    have h11 := c11.but.size
    have h9 := e9.size
    exact (((q6.ext e9).mod c10.but (by omega)).mod c11.but (by omega)).wide e1.size (by omega)
theorem spec_l28New {w : World} :
    Does Try.prog 102 [] w (fun v w' => ∃ a c, v = .agg #[.slice a 6 c, .slice none 0 0, .string { data := #[] }] ∧ DeskN w' w.heap.size w'.heap.size a 6 none 0 (List.replicate 6 []) [] ∧ Ext w w') := by
  refine Does.of_vc tabok Try.func102 rfl rfl rfl (by kernel_rfl) ?_; conv => whnf
  refine SemK.alloc (z := .agg #[.slice none 0 0, .slice none 0 0, .string { data := #[] }]) (by kernel_rfl) ?_
  intro b1 w1 g1 l1 e1 B1
  conv => whnf
  refine SemK.buildSlice mk_136 (vs := []) (by rfl) (by rfl) (by simp [Value.cells]) (by decide) ?_
  intro b2 w2 g2 l2 e2 B2
  conv => whnf
  refine (spec_l15New0).mono ?_
  rintro _ w7 ⟨a3, c4, rfl, q5, e6⟩
  conv => whnf
  refine SemK.build st_78 rfl ?_
  conv => whnf
  refine SemK.storeAll (vs := [Value.slice a3 6 c4, Value.slice none 0 0, Value.string { data := #[] }]) (by kernel_rfl) (B1.ext (Ext.trans e2 e6)) rfl rfl (by simp [cellish]) ?_
  intro w8 c8 B8
  conv => whnf
  refine CellK.of (run_loadAgg (n := 3) (by kernel_rfl) rfl B8.cells) ?_
  conv => whnf
  refine ⟨_, _, rfl, ?_, (Ext.but_trans (Ext.trans (Ext.trans e1 e2) e6) c8.but g1)⟩
  · have h2 := e2.size
    have h1 := e1.size
    exact q5.mod c8.but (fun k hk h => by have := h.1; omega) (by omega) c8.but.size
theorem spec_NewDesk {w : World} :
    Does Try.prog 56 [] w (fun v w' => ∃ a c, v = .agg #[.slice a 6 c, .slice none 0 0, .string { data := #[] }] ∧ DeskN w' w.heap.size w'.heap.size a 6 none 0 (List.replicate 6 []) [] ∧ Ext w w') := by
  refine Does.of_vc tabok Try.func56 rfl rfl rfl (by kernel_rfl) ?_; conv => whnf
  refine SemK.alloc (z := .agg #[.slice none 0 0, .slice none 0 0, .string { data := #[] }]) (by kernel_rfl) ?_
  intro b1 w1 g1 l1 e1 B1
  conv => whnf
  refine (spec_l28New).mono ?_
  rintro _ w6 ⟨a2, c3, rfl, q4, e5⟩
  conv => whnf
  refine SemK.storeAll (vs := [Value.slice a2 6 c3, Value.slice none 0 0, Value.string { data := #[] }]) (by kernel_rfl) (B1.ext e5) rfl rfl (by simp [cellish]) ?_
  intro w7 c7 B7
  conv => whnf
  refine CellK.of (run_loadAgg (n := 3) (by kernel_rfl) rfl B7.cells) ?_
  conv => whnf
  refine ⟨_, _, rfl, ?_, (Ext.but_trans (Ext.trans e1 e5) c7.but g1)⟩
  · have h1 := e1.size
    exact q4.mod c7.but (fun k hk h => by have := h.1; omega) (by omega) c7.but.size
end Go.Proofs.Ytkeeebdfjoefgaa
