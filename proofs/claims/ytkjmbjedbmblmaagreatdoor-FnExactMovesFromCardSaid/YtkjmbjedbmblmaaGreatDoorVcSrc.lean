/- Contracts of functions of the given program, of the reference and of the laws: each says what a call returns, for all arguments that meet the premises that the theorem itself names. -/
import Derived.Test.YtkjmbjedbmblmaaGreatDoorVcApp
namespace Go.Vc
open Go Go.RowKit

/-- b's array is newer than a's -/
def Later (a b : Option Addr) : Prop := ∀ x, a = some x → ∀ k, blkIn b k → x.block < k
theorem later {a a' : Option Addr} {B B' : Nat} (h : ∀ x, a = some x → x.block < B) (h' : NewAt B' a') (hB : B ≤ B') : Later a a' := by
  rintro x rfl k ⟨y, rfl, rfl⟩
  have h1 := h x rfl
  have h2 := h' y rfl
  omega
theorem blkNew {a : Option Addr} {B B' b : Nat} (h : ∀ x, a = some x → x.block < B) (hg : B' ≤ b) (hB : B ≤ B') : ¬ blkIn a b := by
  rintro ⟨x, rfl, rfl⟩
  have := h x rfl
  omega
/-- blocks that are newer than the first world do not count -/
theorem Mod.trans_new {S S' : Nat → Prop} {x y z : World} (h : Mod S x y) (k : Mod S' y z) (hb : ∀ i, S' i → x.heap.size ≤ i) : Mod S x z :=
  ⟨k.os.trans h.os, k.tape.trans h.tape, k.output.trans h.output, Nat.le_trans h.size k.size,
   fun i hi hl => (k.block i (fun hs => by have := hb i hs; omega) (Nat.lt_of_lt_of_le hl h.size)).trans (h.block i hi hl)⟩
theorem Chg.size_le {b : Nat} {w w' : World} (h : Chg b w w') : w.heap.size ≤ w'.heap.size := Nat.le_of_eq h.size.symm
theorem Ext.of_mod {S : Nat → Prop} {x y : World} (h : Mod S x y) (hb : ∀ i, S i → x.heap.size ≤ i) : Ext x y := Mod.ext h hb

/-- the source of choices at a: at most k bytes were asked for -/
def Src (w : World) (a : Option Addr) (k : Nat) : Prop := ∃ (b t : Nat) (a' : Option Addr) (n c : Nat) (xs : List UInt8) (i seed : Int), a = some ⟨b, 0, none⟩ ∧ Blk w b [.slice a' n c, .int .i64 i, .int .u64 seed] t ∧ Arr eB 1 w a' n xs ∧ (0 < n → ∀ x, a' = some x → x.block < b) ∧ 0 ≤ i ∧ i ≤ k
theorem Src.lt {w : World} {a : Option Addr} {k : Nat} (h : Src w a k) : ∀ x, a = some x → x.block < w.heap.size := by
  obtain ⟨b, t, a', n, c, xs, i, seed, rfl, h1, _⟩ := h
  rintro x hx
  cases hx
  exact h1.lt
theorem Src.ext {w w' : World} {a : Option Addr} {k : Nat} (h : Src w a k) (e : Ext w w') : Src w' a k := by
  obtain ⟨b, t, a', n, c, xs, i, seed, h0, h1, h2, h3⟩ := h
  exact ⟨b, t, a', n, c, xs, i, seed, h0, h1.ext e, h2.ext e, h3⟩
theorem Src.mod {w w' : World} {a a1 : Option Addr} {k : Nat} (h : Src w a k) (e : Mod (blkIn a1) w w') (hl : Later a a1) : Src w' a k := by
  obtain ⟨b, t, a', n, c, xs, i, seed, rfl, h1, h2, h3, h4⟩ := h
  have hb : ∀ j, blkIn a1 j → b < j := fun j hj => hl _ rfl j hj
  refine ⟨b, t, a', n, c, xs, i, seed, rfl, h1.mod e (fun hc => by have := hb b hc; omega), ?_, h3, h4⟩
  by_cases hn : 0 < n
  · exact h2.mod e fun x hx hc => by have h5 := h3 hn x hx; have h6 := hb x.block hc; omega
  · obtain rfl : n = 0 := by omega
    have : xs = [] := List.eq_nil_of_length_eq_zero h2.len
    subst this
    exact Arr.nil
theorem Src.chg {w w' : World} {a : Option Addr} {b k : Nat} (h : Src w a k) (e : Chg b w w') {B B' : Nat} (lt : ∀ x, a = some x → x.block < B) (g : B' ≤ b) (le : B ≤ B') : Src w' a k :=
  h.mod (a1 := some ⟨b, 0, none⟩) (e.but.mono (fun i hi => ⟨_, rfl, hi⟩)) (later lt (NewAt.some g) le)
theorem apartChg {a : Option Addr} {b B B' : Nat} (lt : ∀ x, a = some x → x.block < B) (g : B' ≤ b) (le : B ≤ B') : ∀ x, a = some x → ¬ (fun k => k = b) x.block := fun x hx e => by
  have h1 := lt x hx
  have e : x.block = b := e
  omega
theorem apartChg' {a : Option Addr} {b B B' : Nat} (nt : NewAt B a) (l : b < B') (le : B' ≤ B) : ∀ x, a = some x → ¬ (fun k => k = b) x.block := fun x hx e => by
  have h1 := nt x hx
  have e : x.block = b := e
  omega
theorem neChg {b bk B B' : Nat} (l : b < B) (g : B' ≤ bk) (le : B ≤ B') : ¬ (fun k => k = bk) b := fun e => by
  have e : b = bk := e
  omega
theorem neChg' {b bk B B' : Nat} (g : B ≤ b) (l : bk < B') (le : B' ≤ B) : ¬ (fun k => k = bk) b := fun e => by
  have e : b = bk := e
  omega
theorem u8_of {n : Int} (h0 : 0 ≤ n) (h1 : n ≤ 255) : ∃ c : UInt8, ((c.toNat : Nat) : Int) = n := ⟨UInt8.ofNat n.toNat, by simp; omega⟩
theorem all_set {α : Type} {p : α → Prop} {xs : List α} (h : ∀ x ∈ xs, p x) {y : α} (hy : p y) (i : Nat) : ∀ x ∈ xs.set i y, p x := fun x hx => (List.mem_or_eq_of_mem_set hx).elim (h x) (fun e => e ▸ hy)
theorem all_snoc {α : Type} {p : α → Prop} {xs : List α} (h : ∀ x ∈ xs, p x) {y : α} (hy : p y) : ∀ x ∈ xs ++ [y], p x := fun x hx => (List.mem_append.1 hx).elim (h x) (fun e => (List.mem_singleton.1 e) ▸ hy)
theorem Arr.keep {w w' : World} {a : Option Addr} {n b : Nat} {xs : List UInt8} (h : Arr eB 1 w a n xs) (m : Mod (blkIn (some ⟨b, 0, none⟩)) w w') (hne : 0 < n → ∀ x, a = some x → x.block < b) : Arr eB 1 w' a n xs := by
  by_cases hn : 0 < n
  · exact h.mod m fun x hx ⟨y, hy, e⟩ => by
      cases hy
      have := hne hn x hx
      have e : x.block = b := e
      omega
  · obtain rfl : n = 0 := by omega
    have : xs = [] := List.eq_nil_of_length_eq_zero h.len
    subst this
    exact Arr.nil
theorem Src.more {w : World} {a : Option Addr} {k k' : Nat} (h : Src w a k) (e : k ≤ k') : Src w a k' := by
  obtain ⟨b, t, a', n, c, xs, i, seed, h0, h1, h2, h3, h4, h5⟩ := h
  exact ⟨b, t, a', n, c, xs, i, seed, h0, h1, h2, h3, h4, by omega⟩
end Go.Vc
