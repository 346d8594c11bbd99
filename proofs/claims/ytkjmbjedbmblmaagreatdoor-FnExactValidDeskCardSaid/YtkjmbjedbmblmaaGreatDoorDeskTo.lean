/- Contracts of functions of the given program, of the reference and of the laws: each says what a call returns, for all arguments that meet the premises that the theorem itself names. -/
import Derived.Test.YtkjmbjedbmblmaaGreatDoorNestTo
namespace Go.M
open Go Go.Vc
/-- the desk's fields, as they stand in cells -/
structure Dk where
  a : Option Addr
  n : Nat
  c : Nat
  b : Option Addr
  m : Nat
  d : Nat
abbrev offV (k : Dk) : Value := .agg #[.slice k.a k.n k.c, .slice k.b k.m k.d]
abbrev dkV (k : Dk) (s : ByteArray) : Value := .agg #[.slice k.a k.n k.c, .slice k.b k.m k.d, .string s]
def DkR (w : World) (k : Dk) (X : List (List (List Int))) (Y : List (List TTotal)) : Prop := DeskR w k.a k.n k.b k.m X Y
def DkN (w : World) (lo hi : Nat) (k : Dk) (X : List (List (List Int))) (Y : List (List TTotal)) : Prop := DeskN w lo hi k.a k.n k.b k.m X Y
theorem DkR.ext {w w' : World} {k : Dk} {X : List (List (List Int))} {Y : List (List TTotal)} (h : DkR w k X Y) (e : Ext w w') : DkR w' k X Y := DeskR.ext h e
theorem DkN.mod {S : Nat → Prop} {w w' : World} {lo hi lo' hi' : Nat} {k : Dk} {X : List (List (List Int))} {Y : List (List TTotal)} (h : DkN w lo hi k X Y) (M : Mod S w w') (hs : ∀ k, S k → ¬ Iv lo hi k) (hl : lo' ≤ lo) (hh : hi ≤ hi') : DkN w' lo' hi' k X Y := DeskN.mod h M hs hl hh
theorem DkN.rd {w : World} {lo hi : Nat} {k : Dk} {X : List (List (List Int))} {Y : List (List TTotal)} (h : DkN w lo hi k X Y) : DkR w k X Y := DeskN.rd h
theorem DkN.mk {w : World} {lo hi : Nat} {d e : Hd} {X : List (List (List Int))} {Y : List (List TTotal)} (h1 : RN (RS RDeck) w lo hi d X) (h2 : RN (RS RTots) w lo hi e Y) : DkN w lo hi ⟨d.a, d.n, d.c, e.a, e.n, e.c⟩ X Y := fun w' M => ⟨(h1 w' M).1, (h2 w' M).1⟩
end Go.M
namespace Go.Proofs.YtkjmbjedbmblmaaGreatDoor
open Go Go.RowKit Go.Vc Go.M
theorem laws_szOffice {w : World} {a b : Option Addr} {n c m d : Nat} {X : List (List (List Int))} {Y : List (List TTotal)} (h1 : ArrS RDeck w a n X) (h2 : ArrS RTots w b m Y) (hok : ∀ x ∈ Y, okTots x) {left : Int} (h0 : 0 ≤ left) (hl : left ≤ 1048576) :
    Does Tryz.prog 141 [.agg #[.slice a n c, .slice b m d], .int .i64 left] w (fun v w' => ∃ r : Int, v = .int .i64 r ∧ (r = -1 ∨ (0 ≤ r ∧ r ≤ left ∧ FSz FDeck X ∧ FSz FTots Y)) ∧ Ext w w') := by
  refine Does.of_vc tabok Tryz.func141 rfl rfl rfl (by kernel_rfl) ?_; conv => whnf
  refine SemK.box ?_
  intro b0 w1 _ _ e1 hB
  conv => whnf
  refine SemK.load1 (by kernel_rfl) hB.cells (k := 0) rfl ?_
  conv => whnf
  refine (laws_szCardSS (h1.ext e1) (fun _ _ => trivial) h0 hl).mono ?_
  rintro _ w2 ⟨r, rfl, hr, e2⟩
  conv => whnf
  with_reducible refine IfB.dec (fun p0 => ?_) (fun p0 => ?_)
  · conv => whnf
    exact ⟨-1, rfl, .inl rfl, Ext.trans e1 e2⟩
  · conv => whnf
    refine SemK.load1 (by kernel_rfl) (hB.ext e2).cells (k := 1) rfl ?_
    conv => whnf
    have e12 := Ext.trans e1 e2
    rcases hr with hr | ⟨p, q, s⟩
    · omega
    refine (laws_szTotalSS (h2.ext e12) hok p (by omega)).mono ?_
    rintro _ w3 ⟨r3, rfl, hr3, e3⟩
    conv => whnf
    with_reducible refine IfB.dec (fun p1 => ?_) (fun p1 => ?_)
    · conv => whnf
      exact ⟨-1, rfl, .inl rfl, Ext.trans e12 e3⟩
    · conv => whnf
      rcases hr3 with hr3 | ⟨p3, q3, s3⟩
      · omega
      exact ⟨r3, rfl, .inr ⟨p3, by omega, s, s3⟩, Ext.trans e12 e3⟩
theorem laws_szDesk {w : World} {k : Dk} {s : ByteArray} {X : List (List (List Int))} {Y : List (List TTotal)} (h : DkR w k X Y) (hok : ∀ x ∈ Y, okTots x) (hs : strok s) {left : Int} (h0 : 0 ≤ left) (hl : left ≤ 1048576) :
    Does Tryz.prog 45 [dkV k s, .int .i64 left] w (fun v w' => ∃ r : Int, v = .int .i64 r ∧ (r = -1 ∨ (0 ≤ r ∧ r ≤ left ∧ FSz FDeck X ∧ FSz FTots Y)) ∧ Ext w w') := by
  obtain ⟨h1, h2⟩ := h
  simp only [strok] at hs
  refine Does.of_vc tabok Tryz.func45 rfl rfl rfl (by kernel_rfl) ?_; conv => whnf
  refine SemK.box ?_
  intro b0 w1 _ _ e1 hB
  conv => whnf
  refine SemK.loadAggAt (n := 2) (by kernel_rfl) (k := 0) hB.cells rfl ?_
  conv => whnf
  refine (laws_szOffice (h1.ext e1) (h2.ext e1) hok h0 hl).mono ?_
  rintro _ w2 ⟨r, rfl, hr, e2⟩
  conv => whnf
  with_reducible refine IfB.dec (fun p0 => ?_) (fun p0 => ?_)
  · conv => whnf
    exact ⟨-1, rfl, .inl rfl, Ext.trans e1 e2⟩
  · conv => whnf
    refine SemK.load1 (by kernel_rfl) (hB.ext e2).cells (k := 2) rfl ?_
    conv => whnf
    have e12 := Ext.trans e1 e2
    rcases hr with hr | ⟨p, q, t⟩
    · omega
    refine SemK.sub (r - s.size) rfl (by omega) (by omega) ?_
    conv => whnf
    with_reducible refine IfB.dec (fun p1 => ?_) (fun p1 => ?_)
    · conv => whnf
      exact ⟨-1, rfl, .inl rfl, e12⟩
    · conv => whnf
      exact ⟨r - s.size, rfl, .inr ⟨by omega, by omega, t⟩, e12⟩
theorem laws_toOffice {w : World} {a b : Option Addr} {n c m d : Nat} {X : List (List (List Int))} {Y : List (List TTotal)} (h1 : ArrS RDeck w a n X) (h2 : ArrS RTots w b m Y) (f1 : FSz FDeck X) (f2 : FSz FTots Y) :
    Does Tryz.prog 143 [.agg #[.slice a n c, .slice b m d]] w (fun v w' => ∃ k : Dk, v = offV k ∧ DkN w' w.heap.size w'.heap.size k X Y ∧ Ext w w') := by
  refine Does.of_vc tabok Tryz.func143 rfl rfl rfl (by kernel_rfl) ?_; conv => whnf
  refine SemK.box ?_
  intro b3 w3 g3 l3 e3 B3
  conv => whnf
  refine SemK.alloc (z := .agg #[.slice none 0 0, .slice none 0 0]) (by kernel_rfl) ?_
  intro b4 w4 g4 l4 e4 B4
  conv => whnf
  refine SemK.alloc (z := .agg #[.slice none 0 0, .slice none 0 0]) (by kernel_rfl) ?_
  intro b5 w5 g5 l5 e5 B5
  conv => whnf
  refine SemK.load1 (by kernel_rfl) (B3.ext (Ext.trans e4 e5)).cells (k := 0) rfl ?_
  conv => whnf
  refine (laws_toCardSS (h1.ext (Ext.trans (Ext.trans e3 e4) e5)) f1).mono ?_
  rintro _ w9 ⟨d6, rfl, q7, e8⟩
  conv => whnf
  refine SemK.store1 (by kernel_rfl) (B5.ext e8) (k := 0) (by decide) rfl ?_
  intro w10 c10 B10
  conv => whnf
  refine SemK.load1 (by kernel_rfl) (B3.ext (Ext.but_trans (Ext.trans (Ext.trans e4 e5) e8) c10.but (Nat.le_trans (Below.size e4) g5))).cells (k := 1) rfl ?_
  conv => whnf
  refine (laws_toTotalSS (h2.ext (Ext.but_trans (Ext.trans (Ext.trans (Ext.trans e3 e4) e5) e8) c10.but (Nat.le_trans (Below.size (Ext.trans e3 e4)) g5))) f2).mono ?_
  rintro _ w14 ⟨d11, rfl, q12, e13⟩
  conv => whnf
  refine SemK.store1 (by kernel_rfl) (B10.ext e13) (k := 1) (Nat.le_of_ble_eq_true rfl) rfl ?_
  intro w15 c15 B15
  conv => whnf
  refine SemK.loadAgg (n := 2) (by kernel_rfl) B15.cells rfl ?_
  conv => whnf
  refine SemK.storeAll (vs := [Value.slice d6.a d6.n d6.c, Value.slice d11.a d11.n d11.c]) (by kernel_rfl) (B4.ext (Ext.but_trans (Ext.trans (Ext.but_trans (Ext.trans e5 e8) c10.but g5) e13) c15.but g5)) rfl rfl (by simp [cellish]) ?_
  intro w16 c16 B16
  conv => whnf
  refine CellK.of (run_loadAgg (n := 2) (by kernel_rfl) rfl B16.cells) ?_
  conv => whnf
  have s3 := e3.size
  have s4 := e4.size
  have s5 := e5.size
  have s8 := e8.size
  have s10 := c10.but.size
  have s13 := e13.size
  have s15 := c15.but.size
  have s16 := c16.but.size
  have N6 := (((q7.mod c10.but (fun k hk h => by have := h.1; omega) (Nat.le_refl _) s10).ext e13 (Nat.le_refl _) s13).mod c15.but (fun k hk h => by have := h.1; omega) (Nat.le_refl _) s15).mod c16.but (fun k hk h => by have := h.1; omega) (show w.heap.size ≤ _ by omega) s16
  have N11 := (q12.mod c15.but (fun k hk h => by have := h.1; omega) (Nat.le_refl _) s15).mod c16.but (fun k hk h => by have := h.1; omega) (show w.heap.size ≤ _ by omega) s16
  refine ⟨⟨d6.a, d6.n, d6.c, d11.a, d11.n, d11.c⟩, rfl, DkN.mk N6 N11, ?_⟩
  have E5 := Ext.trans e3 (Ext.trans e4 e5)
  exact (((((Ext.trans E5 e8).but_trans c10.but (by omega)) |> fun e => Ext.trans e e13).but_trans c15.but (by omega)).but_trans c16.but (by omega))
theorem laws_toDesk {w : World} {k : Dk} {s : ByteArray} {X : List (List (List Int))} {Y : List (List TTotal)} (h : DkR w k X Y) (f1 : FSz FDeck X) (f2 : FSz FTots Y) :
    Does Tryz.prog 47 [dkV k s] w (fun v w' => ∃ k : Dk, v = dkV k s ∧ DkN w' w.heap.size w'.heap.size k X Y ∧ Ext w w') := by
  obtain ⟨h1, h2⟩ := h
  refine Does.of_vc tabok Tryz.func47 rfl rfl rfl (by kernel_rfl) ?_; conv => whnf
  refine SemK.box ?_
  intro b3 w3 g3 l3 e3 B3
  conv => whnf
  refine SemK.alloc (z := .agg #[.slice none 0 0, .slice none 0 0, .string { data := #[] }]) (by kernel_rfl) ?_
  intro b4 w4 g4 l4 e4 B4
  conv => whnf
  refine SemK.alloc (z := .agg #[.slice none 0 0, .slice none 0 0, .string { data := #[] }]) (by kernel_rfl) ?_
  intro b5 w5 g5 l5 e5 B5
  conv => whnf
  refine SemK.loadAggAt (n := 2) (by kernel_rfl) (k := 0) (B3.ext (Ext.trans e4 e5)).cells rfl ?_
  conv => whnf
  refine (laws_toOffice (h1.ext (Ext.trans (Ext.trans e3 e4) e5)) (h2.ext (Ext.trans (Ext.trans e3 e4) e5)) f1 f2).mono ?_
  rintro _ w9 ⟨k6, rfl, q7, e8⟩
  conv => whnf
  refine SemK.storeAgg (by kernel_rfl) (B5.ext e8) rfl (k := 0) (by simp [Value.cells]) (by simp [cellish]) ?_
  intro w10 c10 B10
  conv => whnf
  refine SemK.load1 (by kernel_rfl) (B3.ext (Ext.but_trans (Ext.trans (Ext.trans e4 e5) e8) c10.but (Nat.le_trans (Below.size e4) g5))).cells (k := 2) rfl ?_
  conv => whnf
  refine SemK.store1 (by kernel_rfl) B10 (k := 2) (Nat.le_of_ble_eq_true rfl) rfl ?_
  intro w11 c11 B11
  conv => whnf
  refine SemK.loadAgg (n := 3) (by kernel_rfl) B11.cells rfl ?_
  conv => whnf
  refine SemK.storeAll (vs := [Value.slice k6.a k6.n k6.c, Value.slice k6.b k6.m k6.d, Value.string s]) (by kernel_rfl) (B4.ext (Ext.but_trans (Ext.but_trans (Ext.trans e5 e8) c10.but g5) c11.but g5)) rfl rfl (by simp [cellish]) ?_
  intro w12 c12 B12
  conv => whnf
  refine CellK.of (run_loadAgg (n := 3) (by kernel_rfl) rfl B12.cells) ?_
  conv => whnf
  refine ⟨_, rfl, ?_, (Ext.but_trans (Ext.but_trans (Ext.but_trans (Ext.trans (Ext.trans (Ext.trans e3 e4) e5) e8) c10.but (Nat.le_trans (Below.size (Ext.trans e3 e4)) g5)) c11.but (Nat.le_trans (Below.size (Ext.trans e3 e4)) g5)) c12.but (Nat.le_trans (Below.size e3) g4))⟩
  · have s3 := e3.size
    have s4 := e4.size
    have s5 := e5.size
    have s8 := e8.size
    exact ((q7.mod c10.but (fun k hk h => by have := h.1; omega) (Nat.le_refl _) c10.but.size).mod c11.but (fun k hk h => by have := h.1; omega) (Nat.le_refl _) c11.but.size).mod c12.but (fun k hk h => by have := h.1; omega) (show w.heap.size ≤ _ by omega) c12.but.size
end Go.Proofs.YtkjmbjedbmblmaaGreatDoor
