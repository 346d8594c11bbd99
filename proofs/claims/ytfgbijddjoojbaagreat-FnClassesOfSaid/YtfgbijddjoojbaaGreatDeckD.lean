/- Contracts of functions of the given program, of the reference and of the laws: each says what a call returns, for all arguments that meet the premises that the theorem itself names. -/
import Derived.Test.YtfgbijddjoojbaaGreatDraw
import Derived.Test.YtfgbijddjoojbaaGreatKeyW
import Derived.Test.YtfgbijddjoojbaaGreatVcApp
import Derived.Test.YtfgbijddjoojbaaGreatVcWrite
import Derived.Test.YtfgbijddjoojbaaGreatNest
/- drawing of decks -/
namespace Go.Vc
open Go Go.RowKit Go.M
theorem flat_eI_map : ∀ ys : List Int, flat eI ys = ys.map fun m => Value.int .i64 m
  | [] => rfl
  | y :: ys => by
    have := flat_eI_map ys
    simp only [flat, eI, List.flatMap_cons, List.map_cons] at *
    rw [this]
    rfl
/-- a card whose row of holes is the call's own -/
def HdOk (te B : Nat) (w : World) (h : Hd) : Prop := ∃ ys : List Int, Grow eI 1 B te w h.a h.n h.c ys ∧ h.n ≤ 1000
theorem HdOk.ext {te B : Nat} {w w' : World} {h : Hd} (H : HdOk te B w h) (e : Ext w w') : HdOk te B w' h := by
  obtain ⟨ys, G, hn⟩ := H
  exact ⟨ys, G.ext e, hn⟩
theorem HdOk.mod {te B : Nat} {S : Nat → Prop} {w w' : World} {h : Hd} (H : HdOk te B w h) (m : Mod S w w') (hs : ∀ k, S k → k < B) : HdOk te B w' h := by
  obtain ⟨ys, G, hn⟩ := H
  exact ⟨ys, G.mod m (fun y hy hS => by have := (G.blk_lt y hy).1; have := hs _ hS; omega), hn⟩
theorem HdOk.le {te B B' : Nat} {w : World} {h : Hd} (H : HdOk te B w h) (hB : B' ≤ B) : HdOk te B' w h := by
  obtain ⟨ys, G, hn⟩ := H
  refine ⟨ys, ⟨G.1, G.2.1, ?_⟩, hn⟩
  rcases G.2.2 with h3 | ⟨g, cap, cur, hv, hb, rest⟩
  · exact .inl h3
  · exact .inr ⟨g, cap, cur, hv, Nat.le_trans hB hb, rest⟩
theorem HdOk.new {te B : Nat} {w : World} {h : Hd} (H : HdOk te B w h) : ∀ x, h.a = some x → B ≤ x.block ∧ x.block < w.heap.size := by
  obtain ⟨ys, G, hn⟩ := H
  exact G.blk_lt
theorem HdOk.arr {te B : Nat} {w : World} {h : Hd} (H : HdOk te B w h) : ∃ ys : List Int, Arr eI 1 w h.a h.n ys ∧ h.n ≤ h.c := by
  obtain ⟨ys, G, hn⟩ := H
  exact ⟨ys, G.own.arr eI_len, G.le.1⟩
/-- a hole is written, in whichever card -/
theorem HdOk.set {te B b k : Nat} {w w' : World} {h : Hd} {cs : List Value} {m : Int} (H : HdOk te B w h) (hb : Blk w b cs te) (hk : k < cs.length) (e : Chg b w w') (hb' : Blk w' b (cs.set k (.int .i64 m)) te) : HdOk te B w' h := by
  obtain ⟨ys, G, hn⟩ := H
  by_cases hab : ∃ x, h.a = some x ∧ x.block = b
  · obtain ⟨x, hx, rfl⟩ := hab
    rcases G.2.2 with ⟨hv, h0⟩ | ⟨g, cap, cur, hv, hB, hg, h1, h2, h3, h4⟩
    · simp only [Value.slice.injEq] at hv; rw [hx] at hv; cases hv.1
    · simp only [Value.slice.injEq] at hv
      rw [hx] at hv
      have hxe := Option.some.inj hv.1
      subst hxe
      simp only at hb hb'
      unfold Blk at hb hb'
      rw [hg] at hb
      simp only [Option.some.injEq, Obj.cells.injEq, and_true] at hb
      have hcur : cur.toList = cs := by rw [hb]
      have hl := G.2.1
      refine ⟨ys.set k m, ⟨by simpa using G.1, ?_, .inr ⟨g, cap, (cs.set k (.int .i64 m)).toArray, by rw [hx]; simp [hv.2.2], hB, hb', h1, h2, ?_, ?_⟩⟩, hn⟩
      · rw [flat_eI_map] at hl ⊢
        simpa using hl
      · rw [← hcur]
        simpa using h3
      · show (cs.set k (.int .i64 m)).take (h.n * 1) = _
        rw [List.take_set, ← hcur, h4, flat_eI_map, flat_eI_map, List.map_set]
  · refine ⟨ys, G.mod e.but (fun y hy hS => hab ⟨y, hy, hS⟩), hn⟩
/-- the block under an own slice -/
theorem Grow.blkT {α : Type} {enc : α → List Value} {sz B e : Nat} {w : World} {a : Option Addr} {n c : Nat} {xs : List α} (G : Grow enc sz B e w a n c xs) {x : Addr} (hx : a = some x) : ∃ cs, Blk w x.block cs e := by
  rcases G.2.2 with ⟨hv, h0⟩ | ⟨g, cap, cur, hv, hB, hg, h1, h2, h3, h4⟩
  · simp only [Value.slice.injEq] at hv; rw [hx] at hv; cases hv.1
  · simp only [Value.slice.injEq] at hv
    rw [hx] at hv
    have hxe := Option.some.inj hv.1
    subst hxe
    exact ⟨cur.toList, by unfold Blk; simpa using hg⟩
/-- blocks of another type's elements have changed -/
theorem Grow.apartT {α β : Type} {enc : α → List Value} {enc' : β → List Value} {sz sz' te e B B' : Nat} {w w' : World} {a a' : Option Addr} {n c n' c' : Nat} {xs : List α} {xs' : List β} (H : Grow enc' sz' B' te w a' n' c' xs') (G : Grow enc sz B e w a n c xs) (hte : te ≠ e) (m : Mod (blkIn a) w w') : Grow enc' sz' B' te w' a' n' c' xs' := by
  refine H.mod m ?_
  rintro y hy ⟨x, hx, hxy⟩
  obtain ⟨c1, b1⟩ := H.blkT hy
  obtain ⟨c2, b2⟩ := G.blkT hx
  rw [hxy] at b1
  have := (Blk.inj b1 b2).2
  omega
theorem Grow.apartB {β : Type} {enc' : β → List Value} {sz' te e B' b : Nat} {w w' : World} {a' : Option Addr} {n' c' : Nat} {xs' : List β} {cs : List Value} (H : Grow enc' sz' B' te w a' n' c' xs') (hb : Blk w b cs e) (hte : te ≠ e) (m : Chg b w w') : Grow enc' sz' B' te w' a' n' c' xs' := by
  refine H.mod m.but ?_
  intro y hy hyb
  obtain ⟨c1, b1⟩ := H.blkT hy
  have hyb : y.block = b := hyb
  rw [hyb] at b1
  have := (Blk.inj b1 hb).2
  omega
theorem HdOk.apart {α : Type} {enc : α → List Value} {sz te e B B' : Nat} {w w' : World} {h : Hd} {a : Option Addr} {n c : Nat} {xs : List α} (H : HdOk te B w h) (G : Grow enc sz B' e w a n c xs) (hte : te ≠ e) (m : Mod (blkIn a) w w') : HdOk te B w' h := by
  obtain ⟨ys, Gh, hn⟩ := H
  exact ⟨ys, Gh.apartT G hte m, hn⟩
theorem HdOk.apartB {te e B b : Nat} {w w' : World} {h : Hd} {cs : List Value} (H : HdOk te B w h) (hb : Blk w b cs e) (hte : te ≠ e) (m : Chg b w w') : HdOk te B w' h := by
  obtain ⟨ys, Gh, hn⟩ := H
  exact ⟨ys, Gh.apartB hb hte m, hn⟩
/-- all cards of a list are the call's own -/
def HdsOk (te B : Nat) (w : World) (ds : List Hd) : Prop := ∀ d ∈ ds, HdOk te B w d
theorem HdsOk.nil {te B : Nat} {w : World} : HdsOk te B w [] := fun _ h => by cases h
theorem HdsOk.ext {te B : Nat} {w w' : World} {ds : List Hd} (H : HdsOk te B w ds) (e : Ext w w') : HdsOk te B w' ds := fun d hd => (H d hd).ext e
theorem HdsOk.src {te B : Nat} {w w' : World} {ds : List Hd} (H : HdsOk te B w ds) {a0 : Option Addr} {k : Nat} (hS : Src w a0 k) (m : Mod (blkIn a0) w w') (hB : ∀ x, a0 = some x → x.block < B) : HdsOk te B w' ds := fun d hd => (H d hd).mod m (fun k ⟨x, hx, hk⟩ => by rw [hk]; exact hB x hx)
theorem HdsOk.apart {α : Type} {enc : α → List Value} {sz te e B B' : Nat} {w w' : World} {ds : List Hd} {a : Option Addr} {n c : Nat} {xs : List α} (H : HdsOk te B w ds) (G : Grow enc sz B' e w a n c xs) (hte : te ≠ e) (m : Mod (blkIn a) w w') : HdsOk te B w' ds := fun d hd => (H d hd).apart G hte m
theorem HdsOk.apartB {te e B b : Nat} {w w' : World} {ds : List Hd} {cs : List Value} (H : HdsOk te B w ds) (hb : Blk w b cs e) (hte : te ≠ e) (m : Chg b w w') : HdsOk te B w' ds := fun d hd => (H d hd).apartB hb hte m
theorem HdsOk.set {te B b k : Nat} {w w' : World} {ds : List Hd} {cs : List Value} {m : Int} (H : HdsOk te B w ds) (hb : Blk w b cs te) (hk : k < cs.length) (e : Chg b w w') (hb' : Blk w' b (cs.set k (.int .i64 m)) te) : HdsOk te B w' ds := fun d hd => (H d hd).set hb hk e hb'
theorem HdsOk.snoc {te B : Nat} {w : World} {ds : List Hd} {d : Hd} (H : HdsOk te B w ds) (h : HdOk te B w d) : HdsOk te B w (ds ++ [d]) := all_snoc H h
theorem HdsOk.put {te B i : Nat} {w : World} {ds : List Hd} {d : Hd} (H : HdsOk te B w ds) (h : HdOk te B w d) : HdsOk te B w (ds.set i d) := all_set H h i
theorem HdsOk.le {te B B' : Nat} {w : World} {ds : List Hd} (H : HdsOk te B w ds) (hB : B' ≤ B) : HdsOk te B' w ds := fun d hd => (H d hd).le hB
/-- no two rows share a block -/
def Dist (ds : List Hd) : Prop := ds.Pairwise fun d e => ∀ x y : Addr, d.a = some x → e.a = some y → x.block ≠ y.block
theorem Dist.snoc {te B : Nat} {w : World} {ds : List Hd} (D : Dist ds) (H : HdsOk te B w ds) {d : Hd} (hn : NewAt w.heap.size d.a) : Dist (ds ++ [d]) := by
  unfold Dist
  rw [List.pairwise_append]
  refine ⟨D, List.pairwise_singleton _ _, fun e he d' hd' x y hx hy => ?_⟩
  have hd' := List.mem_singleton.1 hd'
  subst hd'
  have h1 := (H e he).new x hx
  have h2 := hn y hy
  omega
theorem HdsOk.swap {te B k : Nat} {w w' : World} {ds : List Hd} (H : HdsOk te B w ds) (D : Dist ds) {d d' : Hd} (hk : ds[k]? = some d) (m : Mod (blkIn d.a) w w') (h' : HdOk te B w' d') : HdsOk te B w' (ds.set k d') := by
  intro e he
  obtain ⟨i, hi⟩ := List.mem_iff_getElem?.1 he
  rw [List.getElem?_set] at hi
  split at hi
  · rename_i hki
    split at hi
    · cases hi; exact h'
    · cases hi
  · rename_i hki
    obtain ⟨ys, G, hn⟩ := H e (List.mem_of_getElem? hi)
    refine ⟨ys, G.mod m ?_, hn⟩
    rintro y hy ⟨x, hx, hxy⟩
    have hi' := List.getElem?_eq_some_iff.1 hi
    have hk' := List.getElem?_eq_some_iff.1 hk
    rcases Nat.lt_or_ge i k with hlt | hge
    · have := (List.pairwise_iff_getElem.1 D) i k hi'.1 hk'.1 hlt y x (by rw [hi'.2]; exact hy) (by rw [hk'.2]; exact hx)
      exact this hxy
    · have := (List.pairwise_iff_getElem.1 D) k i hk'.1 hi'.1 (by omega) x y (by rw [hk'.2]; exact hx) (by rw [hi'.2]; exact hy)
      exact this hxy.symm
theorem HdsOk.chg {te B b : Nat} {w w' : World} {ds : List Hd} (H : HdsOk te B w ds) (c : Chg b w w') (hb : b < B) : HdsOk te B w' ds := fun d hd => (H d hd).mod c.but (fun k hk => by have hk : k = b := hk; omega)
theorem Grow.chgO {α : Type} {enc : α → List Value} {sz B e b : Nat} {w w' : World} {a : Option Addr} {n c : Nat} {xs : List α} (G : Grow enc sz B e w a n c xs) (m : Chg b w w') (hb : b < B) : Grow enc sz B e w' a n c xs := G.mod m.but (fun y hy e => by have h1 := G.new y hy; have e : y.block = b := e; omega)
theorem Grow.cellsI {sz te B b n c : Nat} {w : World} {ys : List Int} (G : Grow eI sz B te w (some ⟨b, 0, none⟩) n c ys) : ∃ cs, Blk w b cs te ∧ n ≤ cs.length := by
  rcases G.own.2.2 with ⟨h, _⟩ | ⟨b', rest, h, hb⟩
  · cases h
  · cases h
    exact ⟨_, hb, by rw [List.length_append, flat_length eI_len, G.len]; omega⟩
theorem Mod.trans_or {S : Nat → Prop} {B : Nat} {x y z : World} (h : Mod S x y) (k : Mod (fun i => S i ∨ B ≤ i) y z) (hb : x.heap.size ≤ B) : Mod S x z :=
  ⟨k.os.trans h.os, k.tape.trans h.tape, k.output.trans h.output, Nat.le_trans h.size k.size, fun i hi hl => (k.block i (fun hs => hs.elim hi (fun h2 => by omega)) (Nat.lt_of_lt_of_le hl h.size)).trans (h.block i hi hl)⟩
theorem ElR.of_ex {α : Type} {R : Rd α} {w : World} : ∀ ds : List Hd, (∀ d ∈ ds, ∃ y, R w d y) → ∃ ys, ElR R w ds ys
  | [], _ => ⟨[], rfl, fun i h x h1 => by simp at h1⟩
  | d :: ds, h => by
    obtain ⟨y, hy⟩ := h d (by simp)
    obtain ⟨ys, h1, h2⟩ := ElR.of_ex ds (fun d hd => h d (by simp [hd]))
    refine ⟨y :: ys, by simp [h1], fun i d' x e1 e2 => ?_⟩
    cases i with
    | zero =>
      simp only [List.getElem?_cons_zero, Option.some.injEq] at e1 e2
      subst e1
      subst e2
      exact hy
    | succ i => exact h2 i d' x (by simpa using e1) (by simpa using e2)
/-- the deck reads as a list of cards -/
theorem HdsOk.arrS {te B B' e : Nat} {w : World} {a : Option Addr} {n c : Nat} {ds : List Hd} (H : HdsOk te B w ds) (G : Grow eH 1 B' e w a n c ds) : ∃ d : List (List Int), ArrS RCard w a n d ∧ d.length = n := by
  obtain ⟨d, hd⟩ := ElR.of_ex (R := RCard) (w := w) ds (fun x hx => (H x hx).arr)
  exact ⟨d, ⟨ds, G.own.arr eH_len, hd⟩, by rw [← hd.1]; exact G.len⟩
end Go.Vc
namespace Go.Proofs.YtfgbijddjoojbaaGreat
open Go Go.RowKit Go.Vc Go.M
theorem spec_l02Draw {w : World} {a0 : Option Addr} {k : Nat} (h : Src w a0 k) (hk : k ≤ 1000000) {wd : Nat} (hw : wd ≤ 100) :
    Does Tryz.prog 131 [.pointer a0, .int .i64 (wd : Nat)] w (fun v w' => ∃ (d : Hd) (ys : List Int), v = .agg ⟨eH d⟩ ∧ d.n = wd ∧ Grow eI 1 w.heap.size 2 w' d.a d.n d.c ys ∧ Src w' a0 (k + 8 * wd) ∧ Mod (blkIn a0) w w') := by
  refine Does.of_vc tabok Tryz.func131 rfl rfl rfl (by kernel_rfl) ?_; conv => whnf
  refine SemK.alloc (z := .agg #[.slice none 0 0]) (by kernel_rfl) ?_
  intro b1 w1 g1 l1 e1 B1
  conv => whnf
  refine SemK.build st_51 rfl ?_
  conv => whnf
  refine SemK.alloc (z := .agg #[.slice none 0 0]) (by kernel_rfl) ?_
  intro b2 w2 g2 l2 e2 B2
  conv => whnf
  refine SemK.storeAll (vs := [Value.slice none 0 0]) (by kernel_rfl) B2 rfl rfl (by simp [cellish]) ?_
  intro w3 c3 B3
  conv => whnf
  have hz2 : w.heap.size ≤ b2 := Nat.le_trans (Below.size e1) g2
  refine LoopK.rule [0, 1, 4, 5, 6] (fun (j : Nat) vs w' => ∃ a5 c5 ys, vs = [.pointer a0, .int .i64 (wd : Nat), .pointer (some ⟨b1, 0, none⟩), .pointer (some ⟨b2, 0, none⟩), .int .i64 j] ∧ j ≤ wd ∧ Blk w' b1 [.slice none 0 0] 51 ∧ Blk w' b2 [.slice a5 j c5] 51 ∧ Grow eI 1 w3.heap.size 2 w' a5 j c5 ys ∧ Mod (fun i => blkIn a0 i ∨ i = b2) w3 w' ∧ Src w' a0 (k + 8 * j) ∧ Mod (blkIn a0) w w') (fun j => wd - j) tab tabok (by kernel_rfl) 0
    ⟨none, 0, [], rfl, by omega, (B1.ext e2).mod c3.but (neChg l1 g2 (Nat.le_refl _)), B3, Grow.nil, Mod.refl _ _, ((h.ext e1).ext e2).chg c3 h.lt g2 (Below.size e1), (e1.mod.trans e2.mod).trans_new c3.but (fun k hk => Nat.le_trans hz2 (Nat.le_of_eq hk.symm))⟩ ?_
  rintro j g _ w4 ⟨a5, c5, ys, rfl, hj, P1, P2, hG, hm3, hS, hM⟩
  have hl2 : b2 < w3.heap.size := by rw [c3.size]; exact l2
  have hl1 : b1 < w3.heap.size := by have := Below.size e2; rw [c3.size]; omega
  have hw3 : w.heap.size ≤ w3.heap.size := by have := Below.size e1; have := Below.size e2; rw [c3.size]; omega
  have hsz := Mod.size hm3
  have hnb2 : ¬ blkIn a5 b2 := fun hb => by have := blkIn_new hG.new b2 hb; omega
  have hnb1 : ¬ blkIn a5 b1 := fun hb => by have := blkIn_new hG.new b1 hb; omega
  rcases Nat.lt_or_ge j wd with hjw | hjw
  · conv => whnf
    refine IfB.yes (by omega) ?_
    conv => whnf
    refine (spec_pick hS (by omega) (by omega)).mono ?_
    rintro _ w12 ⟨r6, rfl, q7, q8, q9, S10, m11⟩
    conv => whnf
    refine SemK.conv (k := .u64) (by kernel_rfl) (by kernel_rfl) (u64_wrap (by omega) (by omega)) ?_
    conv => whnf
    refine SemK.shl (by omega) ?_
    conv => whnf
    refine (spec_pick S10 (by omega) (by omega)).mono ?_
    rintro _ w19 ⟨r13, rfl, q14, q15, q16, S17, m18⟩
    conv => whnf
    with_reducible refine IfB.dec (fun h20 => ?_) (fun h20 => ?_)
    · conv => whnf
      refine SemK.load1 (by kernel_rfl) ((P2.mod m11 (blkNew h.lt g2 (Below.size e1))).mod m18 (blkNew h.lt g2 (Below.size e1))).cells (k := 0) rfl ?_
      conv => whnf
      refine SemK.buildSlice mk_27 (vs := [Value.int IntKind.i64 0]) (by rfl) (by rfl) (by simp [Value.cells]) (by decide) ?_
      intro b21 w21 g21 l21 e21 B21
      have G21 := Grow.of_blk (n := 1) (enc := eI) (xs := [0]) eI_len B21 g21 rfl (by decide)
      conv => whnf
      refine SemK.appendArr0 (enc := eI) mk_27 eI_len (((hG.mod m11 (apart' hG.new h.lt (Below.size (Ext.but_trans (Ext.trans e1 e2) c3.but (Nat.le_trans (Below.size e1) g2))))).mod m18 (apart' hG.new h.lt (Below.size (Ext.but_trans (Ext.trans e1 e2) c3.but (Nat.le_trans (Below.size e1) g2))))).ext e21) (G21.own.arr eI_len) (by intro y _; simp [eI, cellish]) (by omega) (by omega) (Nat.le_trans hsz (Nat.le_trans (Nat.le_trans (Mod.size m11) (Mod.size m18)) (Below.size e21))) ?_
      intro a22 c22 w22 G22 m22 i22
      conv => whnf
      refine SemK.store1 (by kernel_rfl) ((((P2.mod m11 (blkNew h.lt g2 (Below.size e1))).mod m18 (blkNew h.lt g2 (Below.size e1))).ext e21).mod m22 hnb2) (k := 0) (Nat.le_of_ble_eq_true rfl) rfl ?_
      intro w60 c60 B60
      have B60 : Blk w60 b2 [Value.slice a22 (j + 1) c22] _ := B60
      conv => whnf
      refine SemK.add (((j + 1 : Nat) : Int)) (by omega) (by omega) (by omega) ?_
      conv => whnf
      exact ⟨j + 1, by omega, _, _, _, rfl, by omega, ((((P1.mod m11 (blkNew h.lt g1 (Nat.le_refl _))).mod m18 (blkNew h.lt g1 (Nat.le_refl _))).ext e21).mod m22 hnb1).mod c60.but (neChg l1 g2 (Nat.le_refl _)), B60, G22.mod c60.but (fun y hy e => by have h1 := (G22.blk_lt y hy).1; have e : y.block = b2 := e; omega), ((Mod.trans (Mod.trans (Mod.trans hm3 (m11.mono fun k h => .inl h)) (m18.mono fun k h => .inl h)) e21.mod).trans_new m22 (fun k hk => blkIn_new hG.new k hk)).trans (c60.but.mono fun k h => .inr h), (((S17.ext e21).mod m22 (later h.lt hG.new hw3)).chg c60 h.lt g2 (Below.size e1)).more (by omega), (((((hM.trans m11).trans m18).trans e21.mod).trans_new m22 (fun k hk => Nat.le_trans hw3 (blkIn_new hG.new k hk))).trans_new c60.but (fun k hk => Nat.le_trans hz2 (Nat.le_of_eq hk.symm)))⟩
    · conv => whnf
      with_reducible refine IfB.dec (fun h24 => ?_) (fun h24 => ?_)
      · conv => whnf
        refine (spec_pick S17 (by omega) (by omega)).mono ?_
        rintro _ w31 ⟨r25, rfl, q26, q27, q28, S29, m30⟩
        conv => whnf
        refine SemK.conv (k := .u64) (by kernel_rfl) (by kernel_rfl) (u64_wrap (by omega) (by omega)) ?_
        conv => whnf
        refine SemK.shl (by omega) ?_
        conv => whnf
        refine (spec_pick S29 (by omega) (by omega)).mono ?_
        rintro _ w38 ⟨r32, rfl, q33, q34, q35, S36, m37⟩
        conv => whnf
        refine SemK.conv (k := .u64) (by kernel_rfl) (by kernel_rfl) (u64_wrap (by omega) (by omega)) ?_
        conv => whnf
        refine SemK.shl (by omega) ?_
        conv => whnf
        refine SemK.or ?_
        conv => whnf
        refine SemK.load1 (by kernel_rfl) ((((P2.mod m11 (blkNew h.lt g2 (Below.size e1))).mod m18 (blkNew h.lt g2 (Below.size e1))).mod m30 (blkNew h.lt g2 (Below.size e1))).mod m37 (blkNew h.lt g2 (Below.size e1))).cells (k := 0) rfl ?_
        conv => whnf
        refine SemK.buildSlice mk_27 (vs := [Value.int IntKind.i64 (orV IntKind.i64 (IntKind.i64.wrap (1 * 2 ^ min r25.toNat IntKind.i64.bits)) (IntKind.i64.wrap (8 * 2 ^ min r32.toNat IntKind.i64.bits)))]) (by rfl) (by rfl) (by simp [Value.cells]) (by decide) ?_
        intro b39 w39 g39 l39 e39 B39
        have G39 := Grow.of_blk (n := 1) (enc := eI) (xs := [orV IntKind.i64 (IntKind.i64.wrap (1 * 2 ^ min r25.toNat IntKind.i64.bits)) (IntKind.i64.wrap (8 * 2 ^ min r32.toNat IntKind.i64.bits))]) eI_len B39 g39 rfl (by decide)
        conv => whnf
        refine SemK.appendArr0 (enc := eI) mk_27 eI_len (((((hG.mod m11 (apart' hG.new h.lt (Below.size (Ext.but_trans (Ext.trans e1 e2) c3.but (Nat.le_trans (Below.size e1) g2))))).mod m18 (apart' hG.new h.lt (Below.size (Ext.but_trans (Ext.trans e1 e2) c3.but (Nat.le_trans (Below.size e1) g2))))).mod m30 (apart' hG.new h.lt (Below.size (Ext.but_trans (Ext.trans e1 e2) c3.but (Nat.le_trans (Below.size e1) g2))))).mod m37 (apart' hG.new h.lt (Below.size (Ext.but_trans (Ext.trans e1 e2) c3.but (Nat.le_trans (Below.size e1) g2))))).ext e39) (G39.own.arr eI_len) (by intro y _; simp [eI, cellish]) (by omega) (by omega) (Nat.le_trans hsz (Nat.le_trans (Nat.le_trans (Nat.le_trans (Nat.le_trans (Mod.size m11) (Mod.size m18)) (Mod.size m30)) (Mod.size m37)) (Below.size e39))) ?_
        intro a40 c40 w40 G40 m40 i40
        conv => whnf
        refine SemK.store1 (by kernel_rfl) ((((((P2.mod m11 (blkNew h.lt g2 (Below.size e1))).mod m18 (blkNew h.lt g2 (Below.size e1))).mod m30 (blkNew h.lt g2 (Below.size e1))).mod m37 (blkNew h.lt g2 (Below.size e1))).ext e39).mod m40 hnb2) (k := 0) (Nat.le_of_ble_eq_true rfl) rfl ?_
        intro w60 c60 B60
        have B60 : Blk w60 b2 [Value.slice a40 (j + 1) c40] _ := B60
        conv => whnf
        refine SemK.add (((j + 1 : Nat) : Int)) (by omega) (by omega) (by omega) ?_
        conv => whnf
        exact ⟨j + 1, by omega, _, _, _, rfl, by omega, ((((((P1.mod m11 (blkNew h.lt g1 (Nat.le_refl _))).mod m18 (blkNew h.lt g1 (Nat.le_refl _))).mod m30 (blkNew h.lt g1 (Nat.le_refl _))).mod m37 (blkNew h.lt g1 (Nat.le_refl _))).ext e39).mod m40 hnb1).mod c60.but (neChg l1 g2 (Nat.le_refl _)), B60, G40.mod c60.but (fun y hy e => by have h1 := (G40.blk_lt y hy).1; have e : y.block = b2 := e; omega), ((Mod.trans (Mod.trans (Mod.trans (Mod.trans (Mod.trans hm3 (m11.mono fun k h => .inl h)) (m18.mono fun k h => .inl h)) (m30.mono fun k h => .inl h)) (m37.mono fun k h => .inl h)) e39.mod).trans_new m40 (fun k hk => blkIn_new hG.new k hk)).trans (c60.but.mono fun k h => .inr h), (((S36.ext e39).mod m40 (later h.lt hG.new hw3)).chg c60 h.lt g2 (Below.size e1)).more (by omega), (((((((hM.trans m11).trans m18).trans m30).trans m37).trans e39.mod).trans_new m40 (fun k hk => Nat.le_trans hw3 (blkIn_new hG.new k hk))).trans_new c60.but (fun k hk => Nat.le_trans hz2 (Nat.le_of_eq hk.symm)))⟩
      · conv => whnf
        with_reducible refine IfB.dec (fun h42 => ?_) (fun h42 => ?_)
        · conv => whnf
          refine (spec_pick S17 (by omega) (by omega)).mono ?_
          rintro _ w49 ⟨r43, rfl, q44, q45, q46, S47, m48⟩
          conv => whnf
          refine SemK.load1 (by kernel_rfl) (((P2.mod m11 (blkNew h.lt g2 (Below.size e1))).mod m18 (blkNew h.lt g2 (Below.size e1))).mod m48 (blkNew h.lt g2 (Below.size e1))).cells (k := 0) rfl ?_
          conv => whnf
          refine SemK.buildSlice mk_27 (vs := [Value.int IntKind.i64 r43]) (by rfl) (by rfl) (by simp [Value.cells]) (by decide) ?_
          intro b50 w50 g50 l50 e50 B50
          have G50 := Grow.of_blk (n := 1) (enc := eI) (xs := [r43]) eI_len B50 g50 rfl (by decide)
          conv => whnf
          refine SemK.appendArr0 (enc := eI) mk_27 eI_len ((((hG.mod m11 (apart' hG.new h.lt (Below.size (Ext.but_trans (Ext.trans e1 e2) c3.but (Nat.le_trans (Below.size e1) g2))))).mod m18 (apart' hG.new h.lt (Below.size (Ext.but_trans (Ext.trans e1 e2) c3.but (Nat.le_trans (Below.size e1) g2))))).mod m48 (apart' hG.new h.lt (Below.size (Ext.but_trans (Ext.trans e1 e2) c3.but (Nat.le_trans (Below.size e1) g2))))).ext e50) (G50.own.arr eI_len) (by intro y _; simp [eI, cellish]) (by omega) (by omega) (Nat.le_trans hsz (Nat.le_trans (Nat.le_trans (Nat.le_trans (Mod.size m11) (Mod.size m18)) (Mod.size m48)) (Below.size e50))) ?_
          intro a51 c51 w51 G51 m51 i51
          conv => whnf
          refine SemK.store1 (by kernel_rfl) (((((P2.mod m11 (blkNew h.lt g2 (Below.size e1))).mod m18 (blkNew h.lt g2 (Below.size e1))).mod m48 (blkNew h.lt g2 (Below.size e1))).ext e50).mod m51 hnb2) (k := 0) (Nat.le_of_ble_eq_true rfl) rfl ?_
          intro w60 c60 B60
          have B60 : Blk w60 b2 [Value.slice a51 (j + 1) c51] _ := B60
          conv => whnf
          refine SemK.add (((j + 1 : Nat) : Int)) (by omega) (by omega) (by omega) ?_
          conv => whnf
          exact ⟨j + 1, by omega, _, _, _, rfl, by omega, (((((P1.mod m11 (blkNew h.lt g1 (Nat.le_refl _))).mod m18 (blkNew h.lt g1 (Nat.le_refl _))).mod m48 (blkNew h.lt g1 (Nat.le_refl _))).ext e50).mod m51 hnb1).mod c60.but (neChg l1 g2 (Nat.le_refl _)), B60, G51.mod c60.but (fun y hy e => by have h1 := (G51.blk_lt y hy).1; have e : y.block = b2 := e; omega), ((Mod.trans (Mod.trans (Mod.trans (Mod.trans hm3 (m11.mono fun k h => .inl h)) (m18.mono fun k h => .inl h)) (m48.mono fun k h => .inl h)) e50.mod).trans_new m51 (fun k hk => blkIn_new hG.new k hk)).trans (c60.but.mono fun k h => .inr h), (((S47.ext e50).mod m51 (later h.lt hG.new hw3)).chg c60 h.lt g2 (Below.size e1)).more (by omega), ((((((hM.trans m11).trans m18).trans m48).trans e50.mod).trans_new m51 (fun k hk => Nat.le_trans hw3 (blkIn_new hG.new k hk))).trans_new c60.but (fun k hk => Nat.le_trans hz2 (Nat.le_of_eq hk.symm)))⟩
        · conv => whnf
          refine SemK.load1 (by kernel_rfl) ((P2.mod m11 (blkNew h.lt g2 (Below.size e1))).mod m18 (blkNew h.lt g2 (Below.size e1))).cells (k := 0) rfl ?_
          conv => whnf
          refine SemK.buildSlice mk_27 (vs := [Value.int IntKind.i64 (IntKind.i64.wrap (4 * 2 ^ min r6.toNat IntKind.i64.bits))]) (by rfl) (by rfl) (by simp [Value.cells]) (by decide) ?_
          intro b53 w53 g53 l53 e53 B53
          have G53 := Grow.of_blk (n := 1) (enc := eI) (xs := [IntKind.i64.wrap (4 * 2 ^ min r6.toNat IntKind.i64.bits)]) eI_len B53 g53 rfl (by decide)
          conv => whnf
          refine SemK.appendArr0 (enc := eI) mk_27 eI_len (((hG.mod m11 (apart' hG.new h.lt (Below.size (Ext.but_trans (Ext.trans e1 e2) c3.but (Nat.le_trans (Below.size e1) g2))))).mod m18 (apart' hG.new h.lt (Below.size (Ext.but_trans (Ext.trans e1 e2) c3.but (Nat.le_trans (Below.size e1) g2))))).ext e53) (G53.own.arr eI_len) (by intro y _; simp [eI, cellish]) (by omega) (by omega) (Nat.le_trans hsz (Nat.le_trans (Nat.le_trans (Mod.size m11) (Mod.size m18)) (Below.size e53))) ?_
          intro a54 c54 w54 G54 m54 i54
          conv => whnf
          refine SemK.store1 (by kernel_rfl) ((((P2.mod m11 (blkNew h.lt g2 (Below.size e1))).mod m18 (blkNew h.lt g2 (Below.size e1))).ext e53).mod m54 hnb2) (k := 0) (Nat.le_of_ble_eq_true rfl) rfl ?_
          intro w60 c60 B60
          have B60 : Blk w60 b2 [Value.slice a54 (j + 1) c54] _ := B60
          conv => whnf
          refine SemK.add (((j + 1 : Nat) : Int)) (by omega) (by omega) (by omega) ?_
          conv => whnf
          exact ⟨j + 1, by omega, _, _, _, rfl, by omega, ((((P1.mod m11 (blkNew h.lt g1 (Nat.le_refl _))).mod m18 (blkNew h.lt g1 (Nat.le_refl _))).ext e53).mod m54 hnb1).mod c60.but (neChg l1 g2 (Nat.le_refl _)), B60, G54.mod c60.but (fun y hy e => by have h1 := (G54.blk_lt y hy).1; have e : y.block = b2 := e; omega), ((Mod.trans (Mod.trans (Mod.trans hm3 (m11.mono fun k h => .inl h)) (m18.mono fun k h => .inl h)) e53.mod).trans_new m54 (fun k hk => blkIn_new hG.new k hk)).trans (c60.but.mono fun k h => .inr h), (((S17.ext e53).mod m54 (later h.lt hG.new hw3)).chg c60 h.lt g2 (Below.size e1)).more (by omega), (((((hM.trans m11).trans m18).trans e53.mod).trans_new m54 (fun k hk => Nat.le_trans hw3 (blkIn_new hG.new k hk))).trans_new c60.but (fun k hk => Nat.le_trans hz2 (Nat.le_of_eq hk.symm)))⟩
  · conv => whnf
    refine IfB.no (by omega) ?_
    conv => whnf
    refine SemK.loadAgg (n := 1) (by kernel_rfl) P2.cells rfl ?_
    conv => whnf
    refine SemK.storeAll (vs := [Value.slice a5 j c5]) (by kernel_rfl) P1 rfl rfl (by simp [cellish]) ?_
    intro w6 c6 B6
    conv => whnf
    refine CellK.of (run_loadAgg (n := 1) (by kernel_rfl) rfl B6.cells) ?_
    conv => whnf
    exact ⟨⟨a5, j, c5⟩, ys, rfl, by show j = wd; omega, (hG.mod c6.but (fun y hy e => by have h1 := (hG.blk_lt y hy).1; have e : y.block = b1 := e; omega)).base hw3, ((hS.chg c6 h.lt g1 (Nat.le_refl _))).more (by omega), hM.trans_new c6.but (fun k hk => Nat.le_trans g1 (Nat.le_of_eq hk.symm))⟩
theorem spec_l03CodeAny (c : Nat) (hc : c ≤ 255) (w : World) : Does Tryz.prog 149 [.int .u8 c] w (fun v w' => ∃ m : Int, v = .int .i64 m ∧ Ext w w') := by
  by_cases hC : CharK c
  · exact (spec_l03Code hC w).mono (by rintro _ w' ⟨rfl, e⟩; exact ⟨_, rfl, e⟩)
  · unfold CharK at hC
    refine Does.of_vc tabok Tryz.func149 rfl rfl rfl (by kernel_rfl) ?_; conv => whnf
    refine SemK.conv (by kernel_rfl) (by kernel_rfl) (i64_wrap (by omega) (by omega)) ?_
    conv => whnf
    refine IfB.no (by omega) ?_
    conv => whnf
    refine IfB.no (by omega) ?_
    conv => whnf
    refine IfB.no (by omega) ?_
    conv => whnf
    refine IfB.no (by omega) ?_
    conv => whnf
    refine (spec_digit _ _).mono ?_
    rintro _ _ ⟨rfl, rfl⟩
    conv => whnf
    with_reducible refine IfB.split (fun h2 => ?_) (fun h2 => ?_)
    · conv => whnf
      refine SemK.sub _ rfl (by omega) (by omega) ?_
      conv => whnf
      refine (spec_l02Bit _ _).mono ?_
      rintro _ w4 ⟨rfl, e3⟩
      conv => whnf
      exact ⟨_, rfl, e3⟩
    · conv => whnf
      with_reducible refine IfB.dec (fun h5 => ?_) (fun h5 => ?_)
      · conv => whnf
        refine IfB.no (by omega) ?_
        conv => whnf
        refine IfB.yes (by omega) ?_
        conv => whnf
        refine IfB.no (by omega) ?_
        conv => whnf
        refine IfB.yes (by omega) ?_
        conv => whnf
        refine IfB.no (by omega) ?_
        conv => whnf
        exact ⟨_, rfl, Ext.refl _⟩
      · conv => whnf
        refine IfB.no (by omega) ?_
        conv => whnf
        refine IfB.no (by omega) ?_
        conv => whnf
        exact ⟨_, rfl, Ext.refl _⟩
theorem spec_l03Card (s : ByteArray) (hs : s.size ≤ 1000) (w : World) :
    Does Tryz.prog 133 [.string s] w (fun v w' => ∃ (d : Hd) (ys : List Int), v = .agg ⟨eH d⟩ ∧ d.n = s.size ∧ Grow eI 1 w.heap.size 2 w' d.a d.n d.c ys ∧ Ext w w') := by
  refine Does.of_vc tabok Tryz.func133 rfl rfl rfl (by kernel_rfl) ?_; conv => whnf
  refine SemK.alloc (z := .agg #[.slice none 0 0]) (by kernel_rfl) ?_
  intro b1 w1 g1 l1 e1 B1
  conv => whnf
  refine SemK.build st_51 rfl ?_
  conv => whnf
  refine SemK.alloc (z := .agg #[.slice none 0 0]) (by kernel_rfl) ?_
  intro b2 w2 g2 l2 e2 B2
  conv => whnf
  refine SemK.storeAll (vs := [Value.slice none 0 0]) (by kernel_rfl) B2 rfl rfl (by simp [cellish]) ?_
  intro w3 c3 B3
  conv => whnf
  have hz2 : w.heap.size ≤ b2 := Nat.le_trans (Below.size e1) g2
  refine LoopK.rule [0, 2, 3, 4] (fun (j : Nat) vs w' => ∃ a5 c5 ys, vs = [.string s, .pointer (some ⟨b1, 0, none⟩), .pointer (some ⟨b2, 0, none⟩), .int .i64 j] ∧ j ≤ s.size ∧ Blk w' b1 [.slice none 0 0] 51 ∧ Blk w' b2 [.slice a5 j c5] 51 ∧ Grow eI 1 w3.heap.size 2 w' a5 j c5 ys ∧ Mod (fun i => i = b2) w3 w' ∧ Ext w w') (fun j => s.size - j) tab tabok (by kernel_rfl) 0
    ⟨none, 0, [], rfl, by omega, (B1.ext e2).mod c3.but (neChg l1 g2 (Nat.le_refl _)), B3, Grow.nil, Mod.refl _ _, Ext.but_trans (Ext.trans e1 e2) c3.but hz2⟩ ?_
  rintro j g _ w4 ⟨a5, c5, ys, rfl, hj, P1, P2, hG, hm3, hX⟩
  have hl2 : b2 < w3.heap.size := by rw [c3.size]; exact l2
  have hl1 : b1 < w3.heap.size := by have := Below.size e2; rw [c3.size]; omega
  have hw3 : w.heap.size ≤ w3.heap.size := by have := Below.size e1; have := Below.size e2; rw [c3.size]; omega
  have hsz := Mod.size hm3
  have hnb2 : ¬ blkIn a5 b2 := fun hb => by have := blkIn_new hG.new b2 hb; omega
  have hnb1 : ¬ blkIn a5 b1 := fun hb => by have := blkIn_new hG.new b1 hb; omega
  have hC := fun c hc u => spec_l03CodeAny c hc u
  rcases Nat.lt_or_ge j s.size with hjw | hjw
  · obtain ⟨x, hx⟩ := get_of_lt (l := s.data.toList) (k := j) (by simp; omega)
    have hx9 := x.toNat_lt
    conv => whnf
    refine IfB.yes (by omega) ?_
    conv => whnf
    refine DrawK.writes tabok mixed [(0, .any), (2, .any), (3, .any), (1, .held), (4, .held), (5, .run), (6, .run), (7, .write), (8, .any), (9, .write)] (by kernel_rfl) (by kernel_rfl) ?_
    conv => whnf
    intro w10 e10
    conv => whnf
    refine DSemK.load1 (by kernel_rfl) P2.cells (k := 0) rfl ?_
    conv => whnf
    refine DSemK.char (by kernel_rfl) j rfl hx ?_
    conv => whnf
    refine (hC _ (by omega) _).mono ?_
    rintro _ w14 ⟨m12, rfl, e13⟩
    conv => whnf
    refine ⟨(Ext.trans e10 e13), ?_⟩
    conv => whnf
    refine SemK.buildSlice mk_27 (vs := [Value.int IntKind.i64 m12]) (by rfl) (by rfl) (by simp [Value.cells]) (by decide) ?_
    intro b15 w15 g15 l15 e15 B15
    have G15 := Grow.of_blk (n := 1) (enc := eI) (xs := [m12]) eI_len B15 g15 rfl (by decide)
    conv => whnf
    refine ⟨(Ext.trans (Ext.trans e10 e13) e15), ?_⟩
    conv => whnf
    refine SemK.appendArr0 (enc := eI) mk_27 eI_len (hG.ext (Ext.trans (Ext.trans e10 e13) e15)) (G15.own.arr eI_len) (by intro y _; simp [eI, cellish]) (by omega) (by omega) (Nat.le_trans hsz (Nat.le_trans (Nat.le_trans (Below.size e10) (Below.size e13)) (Below.size e15))) ?_
    intro a16 c16 w16 G16 m16 i16
    conv => whnf
    refine SemK.store1 (by kernel_rfl) ((P2.ext (Ext.trans (Ext.trans e10 e13) e15)).mod m16 hnb2) (k := 0) (Nat.le_of_ble_eq_true rfl) rfl ?_
    intro w60 c60 B60
    have B60 : Blk w60 b2 [Value.slice a16 (j + 1) c16] _ := B60
    conv => whnf
    refine SemK.add (((j + 1 : Nat) : Int)) (by omega) (by omega) (by omega) ?_
    conv => whnf
    exact ⟨j + 1, by omega, _, _, _, rfl, by omega, ((P1.ext (Ext.trans (Ext.trans e10 e13) e15)).mod m16 hnb1).mod c60.but (neChg l1 g2 (Nat.le_refl _)), B60, G16.mod c60.but (fun y hy e => by have h1 := (G16.blk_lt y hy).1; have e : y.block = b2 := e; omega), ((Mod.trans hm3 ((Ext.trans (Ext.trans e10 e13) e15)).mod).trans_new m16 (fun k hk => blkIn_new hG.new k hk)).trans c60.but, Ext.but_trans (Ext.mod_trans (Ext.trans hX (Ext.trans (Ext.trans e10 e13) e15)) m16 (fun k hk => Nat.le_trans hw3 (blkIn_new hG.new k hk))) c60.but hz2⟩
  · conv => whnf
    refine IfB.no (by omega) ?_
    conv => whnf
    refine SemK.loadAgg (n := 1) (by kernel_rfl) P2.cells rfl ?_
    conv => whnf
    refine SemK.storeAll (vs := [Value.slice a5 j c5]) (by kernel_rfl) P1 rfl rfl (by simp [cellish]) ?_
    intro w6 c6 B6
    conv => whnf
    refine CellK.of (run_loadAgg (n := 1) (by kernel_rfl) rfl B6.cells) ?_
    conv => whnf
    exact ⟨⟨a5, j, c5⟩, ys, rfl, by show j = s.size; omega, (hG.mod c6.but (fun y hy e => by have h1 := (hG.blk_lt y hy).1; have e : y.block = b1 := e; omega)).base hw3, Ext.but_trans hX c6.but g1⟩
theorem spec_l03Put (n : Int) (hn : -1000000 ≤ n ∧ n ≤ 1000000) (wd : Nat) (h1 : 1 ≤ wd) (h2 : wd ≤ 20) (w : World) :
    Does Tryz.prog 135 [.int .i64 n, .int .i64 (wd : Nat)] w (fun v w' => ∃ (a : Option Addr) (c : Nat) (ys : List Int) (b : Bool), v = .tuple #[.slice a wd c, .bool b] ∧ Grow eI 1 w.heap.size 2 w' a wd c ys ∧ Ext w w') := by
  rcases Int.lt_or_le n 0 with hneg | hneg
  · refine Does.of_vc tabok Tryz.func135 rfl rfl rfl (by kernel_rfl) ?_; conv => whnf
    refine SemK.make mk_27 (wd) rfl (by omega) (by omega) ?_
    intro b3 w3 g3 l3 e3 B3
    have G3 := Grow.of_make (enc := eI) (z := (0 : Int)) eI_len rfl B3 g3 (by omega)
    conv => whnf
    refine IfB.yes (by omega) ?_
    conv => whnf
    refine SemK.neg (-n) rfl (by omega) (by omega) ?_
    conv => whnf
    refine SemK.sub (((wd - 1 : Nat) : Int)) (by omega) (by omega) (by omega) ?_
    conv => whnf
    have hwd1 : (((wd - 1 : Nat)) : Int) = (wd : Int) - 1 := by omega
    refine LoopK.rule [0, 1, 6, 7, 8] (fun (j : Nat) vs w' => ∃ (x : Int) (ys : List Int), vs = [.int .i64 n, .int .i64 (wd : Nat), .slice (some ⟨b3, 0, none⟩) wd wd, .int .i64 x, .int .i64 ((j : Int) - 1)] ∧ j ≤ wd ∧ 0 ≤ x ∧ x ≤ 1000000 ∧ Grow eI 1 w.heap.size 2 w' (some ⟨b3, 0, none⟩) wd wd ys ∧ Ext w w') (fun j => j) tab tabok (by kernel_rfl) wd
      ⟨-n, _, by rw [hwd1]; rfl, by omega, by omega, by omega, G3, e3⟩ ?_
    rintro j g _ w4 ⟨x, ys, rfl, hj, hx0, hx1, hG, hX⟩
    have hlG := hG.len
    rcases Nat.eq_zero_or_pos j with hj0 | hj0
    · obtain ⟨y, hy⟩ := get_of_lt (l := ys) (k := wd - 1) (by omega)
      conv => whnf
      refine IfB.no (by omega) ?_
      conv => whnf
      refine IfB.yes (by omega) ?_
      conv => whnf
      refine SemK.sub (((wd - 1 : Nat) : Int)) (by omega) (by omega) (by omega) ?_
      conv => whnf
      refine SemK.indexOwn (sz := 1) (by kernel_rfl) (wd - 1) rfl (by omega) ?_
      have hb6 := Own.elem eI_len hG.own hy
      conv => whnf
      refine SemK.load0 (by kernel_rfl) hb6 rfl ?_
      conv => whnf
      refine SemK.or ?_
      conv => whnf
      refine SemK.indexOwn (sz := 1) (by kernel_rfl) (wd - 1) rfl (by omega) ?_
      have hb8 := Own.elem eI_len hG.own hy
      conv => whnf
      refine SemK.storeGrow1 (k := wd - 1) (j := 0) (by kernel_rfl) eI_len hG hy (by decide) rfl (orV IntKind.i64 y 2) rfl ?_
      intro w9 c9 B9
      have hx9 := set_get hy ((orV IntKind.i64 y 2))
      conv => whnf
      exact ⟨_, _, _, _, rfl, B9, (Ext.but_trans hX c9.but g3)⟩
    · obtain ⟨i, rfl⟩ : ∃ i, j = i + 1 := ⟨j - 1, by omega⟩
      obtain ⟨y, hy⟩ := get_of_lt (l := ys) (k := i) (by omega)
      rw [show (((i + 1 : Nat) : Int) - 1) = (i : Int) by omega]
      conv => whnf
      refine SemK.rem (by omega) (by omega) ?_
      conv => whnf
      refine (spec_l02Bit _ _).mono ?_
      rintro _ w6 ⟨rfl, e5⟩
      conv => whnf
      refine SemK.indexOwn (sz := 1) (by kernel_rfl) i rfl (by omega) ?_
      have hb8 := Own.elem eI_len (hG.ext e5).own hy
      conv => whnf
      refine SemK.storeGrow1 (k := i) (j := 0) (by kernel_rfl) eI_len (hG.ext e5) hy (by decide) rfl (bitM (x % 10)) rfl ?_
      intro w9 c9 B9
      have hx9 := set_get hy ((bitM (x % 10)))
      conv => whnf
      refine SemK.quo (by omega) (by omega) (by omega) ?_
      conv => whnf
      refine SemK.sub _ rfl (by omega) (by omega) ?_
      conv => whnf
      exact ⟨i, by omega, x / 10, _, rfl, by omega, by omega, by omega, B9, Ext.but_trans (Ext.trans hX e5) c9.but g3⟩
  · refine Does.of_vc tabok Tryz.func135 rfl rfl rfl (by kernel_rfl) ?_; conv => whnf
    refine SemK.make mk_27 (wd) rfl (by omega) (by omega) ?_
    intro b3 w3 g3 l3 e3 B3
    have G3 := Grow.of_make (enc := eI) (z := (0 : Int)) eI_len rfl B3 g3 (by omega)
    conv => whnf
    refine IfB.no (by omega) ?_
    conv => whnf
    refine SemK.sub (((wd - 1 : Nat) : Int)) (by omega) (by omega) (by omega) ?_
    conv => whnf
    have hwd1 : (((wd - 1 : Nat)) : Int) = (wd : Int) - 1 := by omega
    refine LoopK.rule [0, 1, 6, 7, 8] (fun (j : Nat) vs w' => ∃ (x : Int) (ys : List Int), vs = [.int .i64 n, .int .i64 (wd : Nat), .slice (some ⟨b3, 0, none⟩) wd wd, .int .i64 x, .int .i64 ((j : Int) - 1)] ∧ j ≤ wd ∧ 0 ≤ x ∧ x ≤ 1000000 ∧ Grow eI 1 w.heap.size 2 w' (some ⟨b3, 0, none⟩) wd wd ys ∧ Ext w w') (fun j => j) tab tabok (by kernel_rfl) wd
      ⟨n, _, by rw [hwd1]; rfl, by omega, by omega, by omega, G3, e3⟩ ?_
    rintro j g _ w4 ⟨x, ys, rfl, hj, hx0, hx1, hG, hX⟩
    have hlG := hG.len
    rcases Nat.eq_zero_or_pos j with hj0 | hj0
    · conv => whnf
      refine IfB.no (by omega) ?_
      conv => whnf
      refine IfB.no (by omega) ?_
      conv => whnf
      exact ⟨_, _, _, _, rfl, hG, hX⟩
    · obtain ⟨i, rfl⟩ : ∃ i, j = i + 1 := ⟨j - 1, by omega⟩
      obtain ⟨y, hy⟩ := get_of_lt (l := ys) (k := i) (by omega)
      rw [show (((i + 1 : Nat) : Int) - 1) = (i : Int) by omega]
      conv => whnf
      refine SemK.rem (by omega) (by omega) ?_
      conv => whnf
      refine (spec_l02Bit _ _).mono ?_
      rintro _ w6 ⟨rfl, e5⟩
      conv => whnf
      refine SemK.indexOwn (sz := 1) (by kernel_rfl) i rfl (by omega) ?_
      have hb8 := Own.elem eI_len (hG.ext e5).own hy
      conv => whnf
      refine SemK.storeGrow1 (k := i) (j := 0) (by kernel_rfl) eI_len (hG.ext e5) hy (by decide) rfl (bitM (x % 10)) rfl ?_
      intro w9 c9 B9
      have hx9 := set_get hy ((bitM (x % 10)))
      conv => whnf
      refine SemK.quo (by omega) (by omega) (by omega) ?_
      conv => whnf
      refine SemK.sub _ rfl (by omega) (by omega) ?_
      conv => whnf
      exact ⟨i, by omega, x / 10, _, rfl, by omega, by omega, by omega, B9, Ext.but_trans (Ext.trans hX e5) c9.but g3⟩
theorem spec_l02DrawDeck {w : World} {a0 : Option Addr} {k : Nat} (h : Src w a0 k) (hk : k ≤ 600000) {wd most : Nat} (hw : wd ≤ 100) (hm : most ≤ 41) :
    Does Tryz.prog 130 [.pointer a0, .int .i64 (wd : Nat), .int .i64 (most : Nat)] w (fun v w' => ∃ (a' : Option Addr) (n' c' : Nat) (ds : List Hd), v = .slice a' n' c' ∧ n' ≤ most ∧ Grow eH 1 w.heap.size 51 w' a' n' c' ds ∧ HdsOk 2 w.heap.size w' ds ∧ Src w' a0 (k + 40000) ∧ Mod (blkIn a0) w w') := by
  refine Does.of_vc tabok Tryz.func130 rfl rfl rfl (by kernel_rfl) ?_; conv => whnf
  refine SemK.buildSlice mk_24 (vs := []) (by rfl) (by rfl) (by simp [Value.cells]) (by decide) ?_
  intro b1 w1 g1 l1 e1 B1
  have G1 := Grow.new0 (enc := eH) eH_len B1 g1
  conv => whnf
  refine SemK.add (((most + 1 : Nat) : Int)) (by omega) (by omega) (by omega) ?_
  conv => whnf
  refine (spec_pick (h.ext e1) (by omega) (by omega)).mono ?_
  rintro _ w2 ⟨r2, rfl, q3, q4, q5, S6, m7⟩
  conv => whnf
  refine LoopK.rule [0, 1, 7, 8] (fun (j : Int) vs w' => ∃ a7 n7 c7 ds, vs = [.pointer a0, .int .i64 (wd : Nat), .slice a7 n7 c7, .int .i64 j] ∧ 0 ≤ j ∧ n7 + j ≤ most ∧ Grow eH 1 w.heap.size 51 w' a7 n7 c7 ds ∧ HdsOk 2 w.heap.size w' ds ∧ Src w' a0 (k + 10 + 800 * n7) ∧ Mod (blkIn a0) w w') (fun j => j.toNat) tab tabok (by kernel_rfl) r2
    ⟨_, _, _, _, rfl, by omega, by omega, G1.mod m7 (apart' G1.new h.lt (Nat.le_refl _)), HdsOk.nil, S6.more (by omega), e1.mod.trans m7⟩ ?_
  rintro j g _ w8 ⟨a7, n7, c7, ds, rfl, hj, hn7, hG, hH, hS, hM⟩
  have lnG := hG.len
  conv => whnf
  with_reducible refine IfB.dec (fun h26 => ?_) (fun h26 => ?_)
  · conv => whnf
    refine (spec_l02Draw hS (by omega) hw).mono ?_
    rintro _ w9 ⟨d, ys, rfl, hdn, hR, S9, m9⟩
    have hG9 := hG.mod m9 (apart' hG.new h.lt (Nat.le_refl _))
    have hH9 := (hH.src hS m9 h.lt).snoc (HdOk.le ⟨ys, hR, by omega⟩ (Mod.size hM))
    obtain ⟨da, dn, dc⟩ := d
    conv => whnf
    refine SemK.buildSlice mk_24 (vs := [.agg #[.slice da dn dc]]) (by rfl) (by rfl) (by simp [Value.cells]) (by decide) ?_
    intro b10 w10 g10 l10 e10 B10
    have G10 := Grow.of_blk (n := 1) (enc := eH) (xs := [⟨da, dn, dc⟩]) eH_len B10 g10 rfl (by decide)
    conv => whnf
    refine SemK.appendArr0 (enc := eH) mk_24 eH_len (hG9.ext e10) (G10.own.arr eH_len) (by intro y _; simp [eH, cellish]) (by omega) (by omega) (Nat.le_trans (Nat.le_trans (Mod.size hM) (Mod.size m9)) (Below.size e10)) ?_
    intro a11 c11 w11 G11 m11 i11
    conv => whnf
    refine SemK.sub _ rfl (by omega) (by omega) ?_
    conv => whnf
    exact ⟨j - 1, by omega, _, _, _, _, rfl, by omega, by omega, G11, (hH9.ext e10).apart (hG9.ext e10) (by omega) m11, ((S9.ext e10).mod m11 (later h.lt hG.new (Nat.le_refl _))).more (by omega), ((hM.trans m9).trans e10.mod).trans_new m11 (fun k hk => blkIn_new hG.new k hk)⟩
  · conv => whnf
    exact ⟨_, _, _, _, rfl, by omega, hG, hH, hS.more (by omega), hM⟩
theorem spec_l02Spoil {w : World} {a0 : Option Addr} {k : Nat} (h : Src w a0 k) (hk : k ≤ 1000000) {B bd n c i : Nat} {ds : List Hd} (G : Grow eH 1 B 51 w (some ⟨bd, 0, none⟩) n c ds) {d : Hd} (hd : ds[i]? = some d) (hds : HdsOk 2 B w ds) (hB : B ≤ w.heap.size) (ha0 : ∀ x, a0 = some x → x.block < B) :
    Does Tryz.prog 132 [.pointer a0, .pointer (some ⟨bd, 0 + i * 1, none⟩)] w (fun v w' => v = .tuple #[] ∧ ∃ ds' : List Hd, Grow eH 1 B 51 w' (some ⟨bd, 0, none⟩) n c ds' ∧ HdsOk 2 B w' ds' ∧ Src w' a0 (k + 20) ∧ Mod (fun x => blkIn a0 x ∨ B ≤ x) w w') := by
  refine Does.of_vc tabok Tryz.func132 rfl rfl rfl (by kernel_rfl) ?_; conv => whnf
  refine (spec_pick h (by omega) (by omega)).mono ?_
  rintro _ w7 ⟨r1, rfl, q2, q3, q4, S5, m6⟩
  have hBd : B ≤ bd := G.new _ rfl
  have hG7 := G.mod m6 (apart' G.new ha0 (Nat.le_refl _))
  have hH7 := hds.src h m6 ha0
  have hM7 : Mod (fun x => blkIn a0 x ∨ B ≤ x) w w7 := m6.mono fun k h => .inl h
  conv => whnf
  with_reducible refine IfB.dec (fun h8 => ?_) (fun h8 => ?_)
  · conv => whnf
    refine SemK.buildSlice mk_27 (vs := []) (by rfl) (by rfl) (by simp [Value.cells]) (by decide) ?_
    intro b9 w9 g9 l9 e9 B9
    have G9 := Grow.new0 (enc := eI) eI_len B9 g9
    conv => whnf
    refine SemK.storeGrow1 (k := i) (j := 0) (by kernel_rfl) eH_len (hG7.ext e9) hd (by decide) rfl ⟨some ⟨b9, 0, none⟩, 0, 0⟩ rfl ?_
    intro w60 c60 B60
    obtain ⟨cs, hcs⟩ := (hG7.ext e9).blkT rfl
    conv => whnf
    exact ⟨rfl, _, B60, ((hH7.ext e9).put ⟨[], G9.base (Nat.le_trans hB (Mod.size m6)), Nat.zero_le _⟩).apartB hcs (by omega) c60, ((S5.ext e9).chg c60 ha0 hBd (Nat.le_refl _)).more (by omega), ((hM7.trans e9.mod).trans (c60.but.mono fun k hk => .inr (Nat.le_trans hBd (Nat.le_of_eq hk.symm))))⟩
  · conv => whnf
    with_reducible refine IfB.dec (fun h11 => ?_) (fun h11 => ?_)
    · conv => whnf
      refine (spec_pick S5 (by omega) (by omega)).mono ?_
      rintro _ w18 ⟨r12, rfl, q13, q14, q15, S16, m17⟩
      obtain ⟨p, hp⟩ : ∃ p : Nat, 20 + r12 = (p : Int) := ⟨(20 + r12).toNat, by omega⟩
      have hG18 := hG7.mod m17 (apart' hG7.new ha0 (Nat.le_refl _))
      have hH18 := hH7.src S5 m17 ha0
      conv => whnf
      refine SemK.add ((p : Nat) : Int) (by omega) (by omega) (by omega) ?_
      conv => whnf
      refine SemK.make mk_27 p rfl (by omega) (by omega) ?_
      intro b19 w19 g19 l19 e19 B19
      have G19 := Grow.of_make (enc := eI) (z := (0 : Int)) eI_len rfl B19 g19 (by omega)
      conv => whnf
      refine SemK.storeGrow1 (k := i) (j := 0) (by kernel_rfl) eH_len (hG18.ext e19) hd (by decide) rfl ⟨some ⟨b19, 0, none⟩, p, p⟩ rfl ?_
      intro w60 c60 B60
      obtain ⟨cs, hcs⟩ := (hG18.ext e19).blkT rfl
      conv => whnf
      exact ⟨rfl, _, B60, ((hH18.ext e19).put ⟨_, G19.base (Nat.le_trans hB (Nat.le_trans (Mod.size m6) (Mod.size m17))), by show p ≤ 1000; omega⟩).apartB hcs (by omega) c60, ((S16.ext e19).chg c60 ha0 hBd (Nat.le_refl _)).more (by omega), (((hM7.trans (m17.mono fun k h => .inl h)).trans e19.mod).trans (c60.but.mono fun k hk => .inr (Nat.le_trans hBd (Nat.le_of_eq hk.symm))))⟩
    · conv => whnf
      refine IfB.yes (by omega) ?_
      have hGd7 : Cells w7 bd (0 + i * 1) (eH d) := Own.elem eH_len hG7.own hd
      obtain ⟨ys, Gd, hdn⟩ := hH7 d (List.mem_of_getElem? hd)
      obtain ⟨da, dn, dc⟩ := d
      simp only at Gd hdn
      conv => whnf
      refine SemK.load1 (by kernel_rfl) hGd7 (k := 0) rfl ?_
      conv => whnf
      with_reducible refine IfB.dec (fun h31 => ?_) (fun h31 => ?_)
      · have h31' : 0 < dn := by simp only at h31; omega
        obtain ⟨bh, rfl⟩ := Gd.own.some h31'
        have lnd := Gd.len
        conv => whnf
        refine DrawK.two tabok mixed a0 [(0, .any), (1, .any), (2, .any), (3, .held), (4, .any), (5, .any), (6, .any), (7, .any), (8, .held), (9, .any), (11, .any)] 10 [(12, .run), (13, .run), (14, .any), (15, .write)] 12 [(10, .run), (13, .run), (14, .any), (15, .write)] (by kernel_rfl) (by kernel_rfl) ?_
        conv => whnf
        intro w32 e32
        conv => whnf
        refine BSemK.load1 (by kernel_rfl) (k := 0) (Sr.cells (hGd7.ext e32) (blkNew ha0 hBd (Nat.le_refl _))) rfl ?_
        conv => whnf
        refine BSemK.load1 (by kernel_rfl) (k := 0) (Sr.cells (hGd7.ext e32) (blkNew ha0 hBd (Nat.le_refl _))) rfl ?_
        conv => whnf
        have apG := apart' hG7.new ha0 (Nat.le_refl _)
        have apD := apart' Gd.new ha0 (Nat.le_refl _)
        have hBh : B ≤ bh := Gd.new _ rfl
        have hfn : (⟨some ⟨bh, 0, none⟩, dn, dc⟩ : Hd).n = dn := rfl
        refine Both.mk ?_ ?_
        · conv => whnf
          refine (spec_pick (S5.ext e32) (by omega) (by omega)).mono ?_
          rintro _ w33 ⟨r33, rfl, q33, q34, q35, S33, m33⟩
          have M33 : Mod (blkIn a0) w32 w33 := m33
          conv => whnf
          refine ⟨M33, ?_⟩
          conv => whnf
          refine SemK.buildSlice mk_27 (vs := [Value.int IntKind.i64 (-1), Value.int IntKind.i64 0, Value.int IntKind.i64 4095, Value.int IntKind.i64 4096, Value.int IntKind.i64 (-9223372036854775808)]) (by rfl) (by rfl) (by simp [Value.cells]) (by decide) ?_
          intro b34 w34 g34 l34 e34 B34
          have G34 := Grow.of_blk (n := 5) (enc := eI) (xs := [-1, 0, 4095, 4096, -9223372036854775808]) eI_len B34 g34 rfl (by decide)
          have M34 := M33.trans e34.mod
          have S34 := S33.ext e34
          have A34 := G34.own.arr eI_len
          have P34 : Apart a0 (some ⟨b34, 0, none⟩) := apart' G34.new S33.lt (Nat.le_refl _)
          have GL := ((hG7.ext e32).mod m33 apG).ext e34
          have HL := ((hH7.ext e32).src (S5.ext e32) m33 ha0).ext e34
          have DL := ((Gd.ext e32).mod m33 apD).ext e34
          conv => whnf
          refine ⟨M34, ?_⟩
          conv => whnf
          refine (spec_among S34 (by omega) A34 P34 (by omega) (by omega)).mono ?_
          rintro _ w35 ⟨r35, rfl, q36, S35, m35⟩
          have M35 := M34.trans m35
          obtain ⟨cs, hcs, hcl⟩ := (DL.mod m35 apD).cellsI
          conv => whnf
          refine ⟨M35, ?_⟩
          conv => whnf
          refine PSemK.indexOwn (sz := 1) (by kernel_rfl) r33.toNat (by omega) (by omega) ?_
          conv => whnf
          refine SemK.store1 (by kernel_rfl) hcs (k := 0 + r33.toNat * 1) (by omega) rfl ?_
          intro w36 c36 B36
          conv => whnf
          exact ⟨rfl, _, (GL.mod m35 apG).apartB hcs (by omega) c36, (HL.src S34 m35 ha0).set hcs (by omega) c36 B36, (S35.chg c36 ha0 hBh (Nat.le_refl _)).more (by omega), (((hM7.trans e32.mod).trans (M35.mono fun k h => .inl h)).trans (c36.but.mono fun k hk => .inr (Nat.le_trans hBh (Nat.le_of_eq hk.symm))))⟩
        · conv => whnf
          refine SemK.buildSlice mk_27 (vs := [Value.int IntKind.i64 (-1), Value.int IntKind.i64 0, Value.int IntKind.i64 4095, Value.int IntKind.i64 4096, Value.int IntKind.i64 (-9223372036854775808)]) (by rfl) (by rfl) (by simp [Value.cells]) (by decide) ?_
          intro b34 w34 g34 l34 e34 B34
          have G34 := Grow.of_blk (n := 5) (enc := eI) (xs := [-1, 0, 4095, 4096, -9223372036854775808]) eI_len B34 g34 rfl (by decide)
          have M34 : Mod (blkIn a0) w32 w34 := e34.mod
          conv => whnf
          refine ⟨M34, ?_⟩
          conv => whnf
          refine (spec_pick ((S5.ext e32).ext e34) (by omega) (by omega)).mono ?_
          rintro _ w33 ⟨r33, rfl, q33, q34, q35, S33, m33⟩
          have M33 := M34.trans m33
          have P34 : Apart a0 (some ⟨b34, 0, none⟩) := apart' G34.new (S5.ext e32).lt (Nat.le_refl _)
          have S34 := S33
          have A34 := (G34.mod m33 P34).own.arr eI_len
          have GL := ((hG7.ext e32).ext e34).mod m33 apG
          have HL := ((hH7.ext e32).ext e34).src ((S5.ext e32).ext e34) m33 ha0
          have DL := ((Gd.ext e32).ext e34).mod m33 apD
          conv => whnf
          refine ⟨M33, ?_⟩
          conv => whnf
          refine (spec_among S34 (by omega) A34 P34 (by omega) (by omega)).mono ?_
          rintro _ w35 ⟨r35, rfl, q36, S35, m35⟩
          have M35 := M33.trans m35
          obtain ⟨cs, hcs, hcl⟩ := (DL.mod m35 apD).cellsI
          conv => whnf
          refine ⟨M35, ?_⟩
          conv => whnf
          refine PSemK.indexOwn (sz := 1) (by kernel_rfl) r33.toNat (by omega) (by omega) ?_
          conv => whnf
          refine SemK.store1 (by kernel_rfl) hcs (k := 0 + r33.toNat * 1) (by omega) rfl ?_
          intro w36 c36 B36
          conv => whnf
          exact ⟨rfl, _, (GL.mod m35 apG).apartB hcs (by omega) c36, (HL.src S34 m35 ha0).set hcs (by omega) c36 B36, (S35.chg c36 ha0 hBh (Nat.le_refl _)).more (by omega), (((hM7.trans e32.mod).trans (M35.mono fun k h => .inl h)).trans (c36.but.mono fun k hk => .inr (Nat.le_trans hBh (Nat.le_of_eq hk.symm))))⟩
      · conv => whnf
        exact ⟨rfl, _, hG7, hH7, S5.more (by omega), hM7⟩
theorem spec_l02BentDeck {w : World} {a0 : Option Addr} {k : Nat} (h : Src w a0 k) (hk : k ≤ 500000) :
    Does Tryz.prog 103 [.pointer a0] w (fun v w' => ∃ (a' : Option Addr) (n' c' : Nat) (ds : List Hd), v = .slice a' n' c' ∧ n' ≤ 1000 ∧ Grow eH 1 w.heap.size 51 w' a' n' c' ds ∧ HdsOk 2 w.heap.size w' ds ∧ Src w' a0 (k + 60000) ∧ Mod (blkIn a0) w w') := by
  refine Does.of_vc tabok Tryz.func103 rfl rfl rfl (by kernel_rfl) ?_; conv => whnf
  refine (spec_pick h (by omega) (by omega)).mono ?_
  rintro _ w7 ⟨r1, rfl, q2, q3, q4, S5, m6⟩
  conv => whnf
  obtain ⟨p, hp⟩ : ∃ p : Nat, 1 + r1 = (p : Int) := ⟨(1 + r1).toNat, by omega⟩
  refine SemK.add ((p : Nat) : Int) (by omega) (by omega) (by omega) ?_
  conv => whnf
  refine (spec_l02DrawDeck S5 (by omega) (wd := p) (most := 7) (by omega) (by omega)).mono ?_
  rintro _ w8 ⟨a8, n8, c8, ds, rfl, hn8, G8, H8, S8, m8⟩
  have hz7 := Mod.size m6
  have ln8 := G8.len
  conv => whnf
  refine (spec_pick S8 (by omega) (by omega)).mono ?_
  rintro _ w9 ⟨r9, rfl, q9, q10, q11, S9, m9⟩
  have G9 := G8.mod m9 (apart' G8.new S5.lt (Nat.le_refl _))
  have H9 := H8.src S8 m9 S5.lt
  conv => whnf
  with_reducible refine IfB.dec (fun h12 => ?_) (fun h12 => ?_)
  · conv => whnf
    refine SemK.add ((p + 1 : Nat) : Int) (by omega) (by omega) (by omega) ?_
    conv => whnf
    refine (spec_l02Draw S9 (by omega) (by omega)).mono ?_
    rintro _ w13 ⟨d, ys, rfl, hdn, hR, S13, m13⟩
    have hG13 := G9.mod m13 (apart' G9.new S5.lt (Nat.le_refl _))
    have hH13 := (H9.src S9 m13 S5.lt).snoc (HdOk.le ⟨ys, hR, by omega⟩ (Nat.le_trans (Mod.size m8) (Mod.size m9)))
    obtain ⟨da, dn, dc⟩ := d
    conv => whnf
    refine SemK.buildSlice mk_24 (vs := [.agg #[.slice da dn dc]]) (by rfl) (by rfl) (by simp [Value.cells]) (by decide) ?_
    intro b10 w10 g10 l10 e10 B10
    have G10 := Grow.of_blk (n := 1) (enc := eH) (xs := [⟨da, dn, dc⟩]) eH_len B10 g10 rfl (by decide)
    conv => whnf
    refine SemK.appendArr0 (enc := eH) mk_24 eH_len (hG13.ext e10) (G10.own.arr eH_len) (by intro y _; simp [eH, cellish]) (by omega) (by omega) (Nat.le_trans (Nat.le_trans (Nat.le_trans (Mod.size m8) (Mod.size m9)) (Mod.size m13)) (Below.size e10)) ?_
    intro a11 c11 w11 G11 m11 i11
    conv => whnf
    exact ⟨_, _, _, _, rfl, by omega, G11.base hz7, ((hH13.ext e10).apart (hG13.ext e10) (by omega) m11).le hz7, ((S13.ext e10).mod m11 (later S5.lt hG13.new (Nat.le_refl _))).more (by omega), ((((m6.trans m8).trans m9).trans m13).trans e10.mod).trans_new m11 (fun k hk => Nat.le_trans hz7 (blkIn_new hG13.new k hk))⟩
  · conv => whnf
    with_reducible refine IfB.dec (fun h13 => ?_) (fun h13 => ?_)
    · conv => whnf
      with_reducible refine IfB.dec (fun h14 => ?_) (fun h14 => ?_)
      · obtain ⟨bd, rfl⟩ := G9.own.some (by omega)
        conv => whnf
        refine (spec_pick S9 (by omega) (by omega)).mono ?_
        rintro _ w10 ⟨r10, rfl, q12, q13, q14, S10, m10⟩
        obtain ⟨d, hd⟩ := get_of_lt (l := ds) (k := r10.toNat) (by omega)
        conv => whnf
        refine SemK.indexOwn (sz := 1) (by kernel_rfl) r10.toNat (by omega) (by omega) ?_
        conv => whnf
        refine (spec_l02Spoil S10 (by omega) (G9.mod m10 (apart' G9.new S5.lt (Nat.le_refl _))) hd (H9.src S9 m10 S5.lt) (Nat.le_trans (Nat.le_trans (Mod.size m8) (Mod.size m9)) (Mod.size m10)) S5.lt).mono ?_
        rintro _ w14 ⟨rfl, ds', G14, H14, S14, m14⟩
        conv => whnf
        exact ⟨_, _, _, _, rfl, by omega, G14.base hz7, H14.le hz7, S14.more (by omega), Mod.trans_or (((m6.trans m8).trans m9).trans m10) m14 hz7⟩
      · conv => whnf
        exact ⟨_, _, _, _, rfl, by omega, G9.base hz7, H9.le hz7, S9.more (by omega), (m6.trans m8).trans m9⟩
    · conv => whnf
      with_reducible refine IfB.dec (fun h15 => ?_) (fun h15 => ?_)
      · conv => whnf
        refine SemK.buildSlice mk_24 (vs := []) (by rfl) (by rfl) (by simp [Value.cells]) (by decide) ?_
        intro b1 w1 g1 l1 e1 B1
        have G1 := Grow.new0 (enc := eH) eH_len B1 g1
        conv => whnf
        refine (spec_pick (S9.ext e1) (by omega) (by omega)).mono ?_
        rintro _ w2 ⟨r2, rfl, q13, q14, q15, S16, m17⟩
        conv => whnf
        refine SemK.add _ rfl (by omega) (by omega) ?_
        conv => whnf
        have hz9 : w.heap.size ≤ w9.heap.size := Nat.le_trans hz7 (Nat.le_trans (Mod.size m8) (Mod.size m9))
        refine LoopK.rule [0, 4, 5] (fun (j : Int) vs w' => ∃ a7 n7 c7 ds, vs = [.pointer a0, .slice a7 n7 c7, .int .i64 j] ∧ 0 ≤ j ∧ n7 + j ≤ 41 ∧ Grow eH 1 w9.heap.size 51 w' a7 n7 c7 ds ∧ HdsOk 2 w9.heap.size w' ds ∧ Src w' a0 (k + 50000 + 8 * n7) ∧ Mod (blkIn a0) w9 w') (fun j => j.toNat) tab tabok (by kernel_rfl) (40 + r2)
          ⟨_, _, _, _, rfl, by omega, by omega, G1.mod m17 (apart' G1.new S9.lt (Nat.le_refl _)), HdsOk.nil, S16.more (by omega), e1.mod.trans m17⟩ ?_
        rintro j g _ w18 ⟨a7, n7, c7, ds, rfl, hj, hn7, hG, hH, hS, hM⟩
        have lnG := hG.len
        conv => whnf
        with_reducible refine IfB.dec (fun h26 => ?_) (fun h26 => ?_)
        · conv => whnf
          refine (spec_l02Draw (wd := 1) hS (by omega) (by omega)).mono ?_
          rintro _ w19 ⟨d, ys, rfl, hdn, hR, S19, m19⟩
          have hG19 := hG.mod m19 (apart' hG.new S9.lt (Nat.le_refl _))
          have hH19 := (hH.src hS m19 S9.lt).snoc (HdOk.le ⟨ys, hR, by omega⟩ (Mod.size hM))
          obtain ⟨da, dn, dc⟩ := d
          conv => whnf
          refine SemK.buildSlice mk_24 (vs := [.agg #[.slice da dn dc]]) (by rfl) (by rfl) (by simp [Value.cells]) (by decide) ?_
          intro b10 w10 g10 l10 e10 B10
          have G10 := Grow.of_blk (n := 1) (enc := eH) (xs := [⟨da, dn, dc⟩]) eH_len B10 g10 rfl (by decide)
          conv => whnf
          refine SemK.appendArr0 (enc := eH) mk_24 eH_len (hG19.ext e10) (G10.own.arr eH_len) (by intro y _; simp [eH, cellish]) (by omega) (by omega) (Nat.le_trans (Nat.le_trans (Mod.size hM) (Mod.size m19)) (Below.size e10)) ?_
          intro a11 c11 w11 G11 m11 i11
          conv => whnf
          refine SemK.sub _ rfl (by omega) (by omega) ?_
          conv => whnf
          exact ⟨j - 1, by omega, _, _, _, _, rfl, by omega, by omega, G11, (hH19.ext e10).apart (hG19.ext e10) (by omega) m11, ((S19.ext e10).mod m11 (later S9.lt hG.new (Nat.le_refl _))).more (by omega), ((hM.trans m19).trans e10.mod).trans_new m11 (fun k hk => blkIn_new hG.new k hk)⟩
        · conv => whnf
          exact ⟨_, _, _, _, rfl, by omega, hG.base hz9, hH.le hz9, hS.more (by omega), ((m6.trans m8).trans m9).trans hM⟩
      · conv => whnf
        exact ⟨_, _, _, _, rfl, by omega, G9.base hz7, H9.le hz7, S9.more (by omega), (m6.trans m8).trans m9⟩
end Go.Proofs.YtfgbijddjoojbaaGreat
