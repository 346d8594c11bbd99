/- Contracts of functions of the given program, of the reference and of the laws: each says what a call returns, for all arguments that meet the premises that the theorem itself names. -/
import Derived.Test.YtkjmbjedbmblmaaGreatDoorBasics
import Derived.Test.YtkjmbjedbmblmaaGreatDoorVcApp
import Derived.Test.YtkjmbjedbmblmaaGreatDoorVcFlat
import Derived.Test.YtkjmbjedbmblmaaGreatDoorFField
import Derived.Test.YtkjmbjedbmblmaaGreatDoorLiftBase
import Derived.Test.YtkjmbjedbmblmaaGreatDoorVcOpen
namespace Go.M
open Go Go.Vc
structure TItem where
  name : ByteArray
  kind : Int
  from_ : Int
  to_ : Int
theorem TItem.ext_iff2 {a b : TItem} : a = b ↔ a.name = b.name ∧ a.kind = b.kind ∧ a.from_ = b.from_ ∧ a.to_ = b.to_ := by
  constructor
  · intro h; subst h; simp
  · intro h; cases a; cases b; simp at h; simp [h]
instance : DecidableEq TItem := fun a b => decidable_of_iff (a.name = b.name ∧ a.kind = b.kind ∧ a.from_ = b.from_ ∧ a.to_ = b.to_) TItem.ext_iff2.symm
instance : Inhabited TItem := ⟨⟨.empty, 0, 0, 0⟩⟩
def TItem.enc (x : TItem) : List Value := [.string x.name, .int .i64 x.kind, .int .i64 x.from_, .int .i64 x.to_]
theorem TItem.enc_len (x : TItem) : x.enc.length = 4 := rfl
def TItem.ok (x : TItem) : Prop := strok x.name ∧ i64ok x.kind ∧ i64ok x.from_ ∧ i64ok x.to_
def TItem.wt (x : TItem) : Nat := x.name.size
theorem TItem.flat {x : TItem} (h : x.ok) : Flat [true, false, false, false] x.enc := by
  obtain ⟨h0, h1, h2, h3⟩ := h
  exact ⟨_, _, rfl, h0, ⟨_, _, rfl, h1, ⟨_, _, rfl, h2, ⟨_, _, rfl, h3, rfl⟩⟩⟩⟩
theorem TItem.of_flat {cs : List Value} (h : Flat [true, false, false, false] cs) : ∃ x : TItem, cs = x.enc ∧ x.ok := by
  obtain ⟨v0, _, rfl, h0, ⟨v1, _, rfl, h1, ⟨v2, _, rfl, h2, ⟨v3, _, rfl, h3, rfl⟩⟩⟩⟩ := h
  exact ⟨⟨v0, v1, v2, v3⟩, rfl, h0, h1, h2, h3⟩
theorem TItem.eq_flat (x y : TItem) : flatEq x.enc y.enc = decide (x = y) := by
  rw [Bool.eq_iff_iff, decide_eq_true_eq, TItem.ext_iff2]
  simp [TItem.enc, flatEq]
def TItem.wsum (xs : List TItem) : Nat := (xs.map TItem.wt).sum
theorem TItem.wsum_snoc {xs : List TItem} {k : Nat} {x : TItem} (h : xs[k]? = some x) : TItem.wsum (xs.take (k + 1)) = TItem.wsum (xs.take k) + x.wt := by
  simp [TItem.wsum, List.take_add_one, h]
def TItem.mark (k : Nat) : TItem := ⟨markB (k + 0), ((k + 1 : Nat) : Int), ((k + 2 : Nat) : Int), ((k + 3 : Nat) : Int)⟩
def TItem.marks (k n : Nat) : List TItem := (List.range n).map fun i => TItem.mark (k + 4 * i)
theorem TItem.marks_length (k n : Nat) : (TItem.marks k n).length = n := by simp [TItem.marks]
theorem TItem.marks_get {k n i : Nat} (h : i < n) : (TItem.marks k n)[i]? = some (TItem.mark (k + 4 * i)) := by simp [TItem.marks, h]
theorem TItem.marks_succ (k n : Nat) : TItem.marks k (n + 1) = TItem.marks k n ++ [TItem.mark (k + 4 * n)] := by simp [TItem.marks, List.range_succ]
end Go.M
namespace Go.Proofs.YtkjmbjedbmblmaaGreatDoor
open Go Go.RowKit Go.Vc Go.M
theorem laws_szItem {x : TItem} (hx : x.ok) {left : Int} (h0 : 0 ≤ left) (h1 : left ≤ 1152921504606846976) (w : World) : Does Tryz.prog 214 [.agg ⟨x.enc⟩, .int .i64 left] w (fun v w' => ∃ r : Int, v = .int .i64 r ∧ (r = -1 ∨ (0 ≤ r ∧ r + x.wt = left)) ∧ Ext w w') := by
  obtain ⟨q0, q1, q2, q3⟩ := hx
  simp only [strok, i64ok] at q0 q1 q2 q3
  refine Does.of_vc tabok Tryz.func214 rfl rfl rfl (by kernel_rfl) ?_; conv => whnf
  refine SemK.box ?_
  intro b w1 _ _ e1 hB
  have hc : Cells w1 b 0 x.enc := hB.cells
  conv => whnf
  refine SemK.load1 (by kernel_rfl) hc (k := 0) rfl ?_
  conv => whnf
  refine SemK.sub (left - x.name.size) rfl (by omega) (by omega) ?_
  conv => whnf
  with_reducible refine IfB.dec (fun p0 => ?_) (fun p0 => ?_)
  · conv => whnf
    exact ⟨-1, rfl, .inl rfl, e1⟩
  conv => whnf
  exact ⟨(left - x.name.size), rfl, .inr ⟨by omega, by simp only [TItem.wt]; omega⟩, e1⟩
theorem laws_eqField (x y : TField) (w : World) : Does Tryz.prog 302 [.agg ⟨x.enc⟩, .agg ⟨y.enc⟩] w (fun v w' => v = .bool (decide (x.from_ = y.from_) && decide (x.to_ = y.to_)) ∧ Ext w w') := by
  refine Does.of_vc tabok Tryz.func302 rfl rfl rfl (by kernel_rfl) ?_; conv => whnf
  refine SemK.box ?_
  intro b1 w1 g1 l1 e1 B1
  conv => whnf
  refine SemK.box ?_
  intro b2 w2 g2 l2 e2 B2
  conv => whnf
  refine SemK.load1 (by kernel_rfl) (B1.ext e2).cells (k := 0) rfl ?_
  conv => whnf
  refine SemK.load1 (by kernel_rfl) B2.cells (k := 0) rfl ?_
  conv => whnf
  with_reducible refine IfB.ndec (fun h3 => ?_) (fun h3 => ?_)
  · conv => whnf
    exact ⟨by simp [*], (Ext.trans e1 e2)⟩
  · conv => whnf
    refine SemK.load1 (by kernel_rfl) (B1.ext e2).cells (k := 1) rfl ?_
    conv => whnf
    refine SemK.load1 (by kernel_rfl) B2.cells (k := 1) rfl ?_
    conv => whnf
    with_reducible refine IfB.ndec (fun h4 => ?_) (fun h4 => ?_)
    · conv => whnf
      exact ⟨by simp [*], (Ext.trans e1 e2)⟩
    · conv => whnf
      exact ⟨by simp [*], (Ext.trans e1 e2)⟩
theorem laws_toItem (x : TItem) (w : World) : Does Tryz.prog 220 [.agg ⟨x.enc⟩] w (fun v w' => v = .agg ⟨x.enc⟩ ∧ Ext w w') := by
  have hF := fun u => laws_toField ⟨x.from_, x.to_⟩ u
  refine Does.of_vc tabok Tryz.func220 rfl rfl rfl (by kernel_rfl) ?_; conv => whnf
  refine SemK.box ?_
  intro b1 w1 g1 l1 e1 B1
  conv => whnf
  refine SemK.alloc (z := .agg #[.string { data := #[] }, .int .i64 0, .int .i64 0, .int .i64 0]) (by kernel_rfl) ?_
  intro b2 w2 g2 l2 e2 B2
  conv => whnf
  refine SemK.alloc (z := .agg #[.string { data := #[] }, .int .i64 0, .int .i64 0, .int .i64 0]) (by kernel_rfl) ?_
  intro b3 w3 g3 l3 e3 B3
  conv => whnf
  refine SemK.load1 (by kernel_rfl) (B1.ext (Ext.trans e2 e3)).cells (k := 0) rfl ?_
  conv => whnf
  refine SemK.store1 (by kernel_rfl) B3 (k := 0) (by decide) rfl ?_
  intro w4 c4 B4
  have B4 : Blk w4 b3 [Value.string x.name, Value.int IntKind.i64 0, Value.int IntKind.i64 0, Value.int IntKind.i64 0] _ := B4
  conv => whnf
  refine SemK.load1 (by kernel_rfl) (B1.ext (Ext.but_trans (Ext.trans e2 e3) c4.but (Nat.le_trans (Below.size e2) g3))).cells (k := 1) rfl ?_
  conv => whnf
  refine SemK.store1 (by kernel_rfl) B4 (k := 1) (Nat.le_of_ble_eq_true rfl) rfl ?_
  intro w5 c5 B5
  have B5 : Blk w5 b3 [Value.string x.name, Value.int IntKind.i64 x.kind, Value.int IntKind.i64 0, Value.int IntKind.i64 0] _ := B5
  conv => whnf
  refine SemK.loadAggAt (n := 2) (by kernel_rfl) (k := 2) (B1.ext (Ext.but_trans (Ext.but_trans (Ext.trans e2 e3) c4.but (Nat.le_trans (Below.size e2) g3)) c5.but (Nat.le_trans (Below.size e2) g3))).cells rfl ?_
  conv => whnf
  refine (hF _).mono ?_
  rintro _ w7 ⟨rfl, e6⟩
  conv => whnf
  refine SemK.storeAgg (by kernel_rfl) (B5.ext e6) rfl (k := 2) (by simp [Value.cells, TField.enc]) (by simp [cellish, TField.enc, Value.cells]) ?_
  intro w8 c8 B8
  have B8 : Blk w8 b3 x.enc _ := B8
  conv => whnf
  refine SemK.loadAgg (n := 4) (by kernel_rfl) B8.cells rfl ?_
  conv => whnf
  refine SemK.storeAll (by kernel_rfl) (B2.ext (Ext.but_trans (Ext.trans (Ext.but_trans (Ext.but_trans e3 c4.but g3) c5.but g3) e6) c8.but g3)) (vs := x.enc) rfl rfl (by simp [TItem.enc, cellish]) ?_
  intro w9 c9 B9
  conv => whnf
  refine CellK.of (run_loadAgg (n := 4) (by kernel_rfl) rfl B9.cells) ?_
  conv => whnf
  exact ⟨rfl, (Ext.but_trans (Ext.but_trans (Ext.trans (Ext.but_trans (Ext.but_trans (Ext.trans (Ext.trans e1 e2) e3) c4.but (Nat.le_trans (Below.size (Ext.trans e1 e2)) g3)) c5.but (Nat.le_trans (Below.size (Ext.trans e1 e2)) g3)) e6) c8.but (Nat.le_trans (Below.size (Ext.trans e1 e2)) g3)) c9.but (Nat.le_trans (Below.size e1) g2))⟩
theorem laws_eqItem (x y : TItem) (w : World) : Does Tryz.prog 234 [.agg ⟨x.enc⟩, .agg ⟨y.enc⟩] w (fun v w' => v = .bool (decide (x = y)) ∧ Ext w w') := by
  have hF := fun u => laws_eqField ⟨x.from_, x.to_⟩ ⟨y.from_, y.to_⟩ u
  refine Does.of_vc tabok Tryz.func234 rfl rfl rfl (by kernel_rfl) ?_; conv => whnf
  refine SemK.box ?_
  intro b1 w1 g1 l1 e1 B1
  conv => whnf
  refine SemK.box ?_
  intro b2 w2 g2 l2 e2 B2
  conv => whnf
  refine SemK.load1 (by kernel_rfl) (B1.ext e2).cells (k := 0) rfl ?_
  conv => whnf
  refine SemK.load1 (by kernel_rfl) B2.cells (k := 0) rfl ?_
  conv => whnf
  with_reducible refine IfB.ndec (fun h3 => ?_) (fun h3 => ?_)
  · conv => whnf
    refine ⟨?_, (Ext.trans e1 e2)⟩
    · rw [decide_eq_false (fun e => h3 (by rw [e]))]
  · conv => whnf
    refine SemK.load1 (by kernel_rfl) (B1.ext e2).cells (k := 1) rfl ?_
    conv => whnf
    refine SemK.load1 (by kernel_rfl) B2.cells (k := 1) rfl ?_
    conv => whnf
    with_reducible refine IfB.ndec (fun h4 => ?_) (fun h4 => ?_)
    · conv => whnf
      refine ⟨?_, (Ext.trans e1 e2)⟩
      · rw [decide_eq_false (fun e => h4 (by rw [e]))]
    · conv => whnf
      refine SemK.loadAggAt (n := 2) (by kernel_rfl) (k := 2) (B1.ext e2).cells rfl ?_
      conv => whnf
      refine SemK.loadAggAt (n := 2) (by kernel_rfl) (k := 2) B2.cells rfl ?_
      conv => whnf
      refine (hF _).mono ?_
      rintro _ w6 ⟨rfl, e5⟩
      conv => whnf
      with_reducible refine IfB.nsplit (fun h7 => ?_) (fun h7 => ?_)
      · conv => whnf
        refine ⟨?_, (Ext.trans (Ext.trans e1 e2) e5)⟩
        · rw [decide_eq_false (fun e => by subst e; simp at h7)]
      · conv => whnf
        refine ⟨?_, (Ext.trans (Ext.trans e1 e2) e5)⟩
        · rw [decide_eq_true (TItem.ext_iff2.2 (by simp_all))]
theorem laws_szItemS {w : World} {a : Option Addr} {n c : Nat} {xs : List TItem} (h : Arr TItem.enc 4 w a n xs) (hok : ∀ x ∈ xs, x.ok) {left : Int} (h0 : 0 ≤ left) (h1 : left ≤ 1152921504606846976) :
    Does Tryz.prog 114 [.slice a n c, .int .i64 left] w (fun v w' => ∃ r : Int, v = .int .i64 r ∧ (r = -1 ∨ (0 ≤ r ∧ r + n + TItem.wsum xs = left)) ∧ Ext w w') := by
  have hn := h.len
  have hm := h.le
  refine Does.of_vc tabok Tryz.func114 rfl rfl rfl (by kernel_rfl) ?_; conv => whnf
  refine SemK.sub (left - n) rfl (by omega) (by omega) ?_
  conv => whnf
  with_reducible refine IfB.dec (fun p0 => ?_) (fun p0 => ?_)
  · conv => whnf
    exact ⟨-1, rfl, .inl rfl, Ext.refl _⟩
  conv => whnf
  refine LoopK.rule [0, 1, 5] (fun (k : Nat) vs w' => ∃ r : Int, vs = [.slice a n c, .int .i64 r, .int .i64 k] ∧ k ≤ n ∧ 0 ≤ r ∧ r + n + TItem.wsum (xs.take k) = left ∧ Ext w w') (fun k => n - k) tab tabok (by kernel_rfl) 0 ⟨left - n, rfl, by omega, by omega, by simp [TItem.wsum], Ext.refl _⟩ ?_
  rintro k g _ w' ⟨r, rfl, hk, hr, hs, hE⟩
  conv => whnf
  with_reducible refine IfB.dec (fun h4 => ?_) (fun h4 => ?_)
  · obtain ⟨x, hx⟩ : ∃ x, xs[k]? = some x := get_of_lt (by omega)
    have hxo := hok x (List.mem_of_getElem? hx)
    conv => whnf
    refine SemK.index (by kernel_rfl) (h.ext hE) k rfl hx ?_
    intro b o _ hb
    conv => whnf
    refine SemK.loadAgg (by kernel_rfl) (n := 4) hb rfl ?_
    conv => whnf
    refine (laws_szItem hxo hr (by omega) w').mono ?_
    rintro _ w2 ⟨r2, rfl, hr2, e2⟩
    conv => whnf
    with_reducible refine IfB.dec (fun h5 => ?_) (fun h5 => ?_)
    · conv => whnf
      exact ⟨-1, rfl, .inl rfl, Ext.trans hE e2⟩
    · conv => whnf
      refine SemK.add (((k + 1 : Nat) : Int)) (by omega) (by omega) (by omega) ?_
      conv => whnf
      refine ⟨k + 1, by omega, r2, rfl, by omega, by omega, ?_, Ext.trans hE e2⟩
      rw [TItem.wsum_snoc hx]; omega
  · conv => whnf
    rw [List.take_of_length_le (by omega)] at hs
    exact ⟨r, rfl, .inr ⟨hr, hs⟩, hE⟩
theorem laws_toItemS {w : World} {a : Option Addr} {n c : Nat} {xs : List TItem} (h : Arr TItem.enc 4 w a n xs) (hsm : n ≤ 1048576) :
    Does Tryz.prog 124 [.slice a n c] w (fun v w' => ∃ b, v = .slice (some ⟨b, 0, none⟩) n n ∧ w.heap.size ≤ b ∧ Ext w w' ∧ Own TItem.enc w' (some ⟨b, 0, none⟩) n 170 xs) := by
  have hn := h.len
  refine Does.of_vc tabok Tryz.func124 rfl rfl rfl (by kernel_rfl) ?_; conv => whnf
  refine SemK.make mk_65 n rfl (by omega) (by omega) ?_
  intro b w1 g1 l1 e1 hB
  conv => whnf
  refine LoopK.rule [0, 3, 4] (fun (k : Nat) vs w' => vs = [.slice a n c, .slice (some ⟨b, 0, none⟩) n n, .int .i64 k] ∧ k ≤ n ∧ Ext w w' ∧ Blk w' b (flat TItem.enc (xs.take k) ++ flat (fun _ : Unit => [.string { data := #[] }, .int .i64 0, .int .i64 0, .int .i64 0]) (List.replicate (n - k) ())) 170) (fun k => n - k) tab tabok (by kernel_rfl) 0
    ⟨rfl, by omega, e1, by simpa [flat] using hB⟩ ?_
  rintro k g _ w' ⟨rfl, hk, hE, hO⟩
  conv => whnf
  with_reducible refine IfB.dec (fun h4 => ?_) (fun h4 => ?_)
  · obtain ⟨x, hx⟩ : ∃ x, xs[k]? = some x := get_of_lt (by omega)
    conv => whnf
    refine SemK.index (by kernel_rfl) (h.ext hE) k rfl hx ?_
    intro b' o _ hb
    conv => whnf
    refine SemK.loadAgg (by kernel_rfl) (n := 4) hb rfl ?_
    conv => whnf
    refine (laws_toItem x w').mono ?_
    rintro _ w2 ⟨rfl, e2⟩
    conv => whnf
    refine SemK.indexOwn (sz := 4) (by kernel_rfl) k rfl (by omega) ?_
    conv => whnf
    have hlen : (xs.take k).length = k := by simp; omega
    obtain ⟨j, hj⟩ : ∃ j, n - k = j + 1 := ⟨n - k - 1, by omega⟩
    have hset := flat_set TItem.enc_len (xs.take k) [.string { data := #[] }, .int .i64 0, .int .i64 0, .int .i64 0] x.enc rfl x rfl j
    simp only [hlen] at hset
    rw [hj] at hO
    have hz := flat_length (enc := fun _ : Unit => [.string { data := #[] }, .int .i64 0, .int .i64 0, .int .i64 0]) (sz := 4) (fun _ => rfl) (List.replicate (j + 1) ())
    rw [List.length_replicate] at hz
    refine SemK.storeAgg (by kernel_rfl) (n := 4) (hO.ext e2) (vs := x.enc) rfl (k := 0 + k * 4) (by
      simp only [List.length_append, flat_length TItem.enc_len, hz, hlen]; omega) (by simp [TItem.enc, cellish]) ?_
    intro w3 c3 B3
    rw [Nat.zero_add, hset] at B3
    conv => whnf
    refine SemK.add (((k + 1 : Nat) : Int)) (by omega) (by omega) (by omega) ?_
    conv => whnf
    refine ⟨k + 1, by omega, rfl, by omega, (Ext.trans hE e2).but_trans c3.but (by omega), ?_⟩
    have e : xs.take (k + 1) = xs.take k ++ [x] := by rw [List.take_add_one, hx]; rfl
    have e' : n - (k + 1) = j := by omega
    rw [e, e']
    exact B3
  · conv => whnf
    have hkn : k = n := by omega
    subst hkn
    refine ⟨b, rfl, g1, hE, hn, by omega, .inr ⟨b, [], rfl, ?_⟩⟩
    rw [List.take_of_length_le (by omega)] at hO
    simpa [flat] using hO
theorem laws_eqItemS {w : World} {a a' : Option Addr} {n n' c c' : Nat} {xs ys : List TItem} (h : Arr TItem.enc 4 w a n xs) (h' : Arr TItem.enc 4 w a' n' ys) :
    Does Tryz.prog 136 [.slice a n c, .slice a' n' c'] w (fun v w' => v = .bool (decide (xs = ys)) ∧ Ext w w') := by
  have hn := h.len
  have hn' := h'.len
  have hm := h.le
  refine Does.of_vc tabok Tryz.func136 rfl rfl rfl (by kernel_rfl) ?_; conv => whnf
  with_reducible refine IfB.ndec (fun h1 => ?_) (fun h1 => ?_)
  · conv => whnf
    refine ⟨?_, Ext.refl _⟩
    have : ¬ xs = ys := fun e => by subst e; omega
    rw [decide_eq_false this]
  · conv => whnf
    refine LoopK.rule [0, 1, 5] (fun (k : Nat) vs w' => vs = [.slice a n c, .slice a' n' c', .int .i64 k] ∧ k ≤ n ∧ xs.take k = ys.take k ∧ Ext w w') (fun k => n - k) tab tabok (by kernel_rfl) 0 ⟨rfl, by omega, by simp, Ext.refl _⟩ ?_
    rintro k g _ w' ⟨rfl, hk, hall, hE⟩
    conv => whnf
    with_reducible refine IfB.dec (fun h4 => ?_) (fun h4 => ?_)
    · obtain ⟨x, hx⟩ : ∃ x, xs[k]? = some x := get_of_lt (by omega)
      obtain ⟨y, hy⟩ : ∃ y, ys[k]? = some y := get_of_lt (by omega)
      conv => whnf
      refine DrawK.det tabok mixed (by kernel_rfl) (by kernel_rfl) ?_
      conv => whnf
      refine DSemK.index (by kernel_rfl) (h.ext hE) k rfl hx ?_
      intro b o _ hb
      conv => whnf
      refine DSemK.loadAgg (by kernel_rfl) (n := 4) hb rfl ?_
      conv => whnf
      refine DSemK.index (by kernel_rfl) (h'.ext hE) k rfl hy ?_
      intro b' o' _ hb'
      conv => whnf
      refine DSemK.loadAgg (by kernel_rfl) (n := 4) hb' rfl ?_
      conv => whnf
      refine DDoes.of (fun w2 _ => laws_eqItem x y w2) ?_
      conv => whnf
      intro w2 e2
      conv => whnf
      with_reducible refine IfB.ndec (fun h5 => ?_) (fun h5 => ?_)
      · conv => whnf
        exact ⟨by rw [decide_eq_false (ne_of_get hx hy h5)], Ext.trans hE e2⟩
      · conv => whnf
        refine SemK.add (k + 1) rfl (by omega) (by omega) ?_
        conv => whnf
        exact ⟨k + 1, by omega, rfl, by omega, take_eq_snoc hall hx hy h5, Ext.trans hE e2⟩
    · conv => whnf
      refine ⟨?_, hE⟩
      rw [decide_eq_true (eq_of_take hall (by omega) (by omega))]
theorem laws_markItemS {w : World} {a : Option Addr} {n c t k0 : Nat} {xs : List TItem} (h : Own TItem.enc w a n t xs) (hk0 : k0 + 4 * n ≤ 1000000000) :
    Does Tryz.prog 139 [.slice a n c, .int .i64 k0] w (fun v w' => v = .int .i64 ((k0 + 4 * n : Nat) : Int) ∧ Mod (blkIn a) w w' ∧ Own TItem.enc w' a n t (TItem.marks k0 n)) := by
  obtain ⟨hn, hm, h3⟩ := h
  refine Does.of_vc tabok Tryz.func139 rfl rfl rfl (by kernel_rfl) ?_; conv => whnf
  refine LoopK.rule [0, 1, 5] (fun (k : Nat) vs w' => vs = [.slice a n c, .int .i64 ((k0 + 4 * k : Nat) : Int), .int .i64 k] ∧ k ≤ n ∧ Mod (blkIn a) w w' ∧
    ((a = none ∧ n = 0) ∨ ∃ b rest, a = some ⟨b, 0, none⟩ ∧ Blk w' b (flat TItem.enc (TItem.marks k0 k ++ xs.drop k) ++ rest) t)) (fun k => n - k) tab tabok (by kernel_rfl) 0 ⟨rfl, by omega, Mod.refl _ _, ?_⟩ ?_
  · rcases h3 with h3 | ⟨b, rest, ha, hb⟩
    · exact .inl h3
    · exact .inr ⟨b, rest, ha, by simpa [TItem.marks] using hb⟩
  rintro k g _ w0 ⟨rfl, hk, M0, hO⟩
  conv => whnf
  with_reducible refine IfB.dec (fun h4 => ?_) (fun h4 => ?_)
  · obtain ⟨b, rest, rfl, B0⟩ : ∃ b rest, a = some ⟨b, 0, none⟩ ∧ Blk w0 b (flat TItem.enc (TItem.marks k0 k ++ xs.drop k) ++ rest) t := by
      rcases hO with ⟨_, hO⟩ | hO
      · omega
      · exact hO
    obtain ⟨x, hx⟩ : ∃ x, xs[k]? = some x := get_of_lt (by omega)
    have hlen : (TItem.marks k0 k).length = k := TItem.marks_length _ _
    have hxl : (xs.drop (k + 1)).length + k + 1 = n := by simp; omega
    rw [drop_cons hx] at B0
    have hsz : ∀ (y : TItem), (flat TItem.enc (TItem.marks k0 k ++ y :: xs.drop (k + 1)) ++ rest).length = n * 4 + rest.length := fun y => by
      simp only [List.length_append, flat_length TItem.enc_len, List.length_cons, hlen]; omega
    have hupd : ∀ (y y' : TItem) (j : Nat) (v : Value), j < 4 → y.enc.set j v = y'.enc → (flat TItem.enc (TItem.marks k0 k ++ y :: xs.drop (k + 1)) ++ rest).set (0 + k * 4 + j) v = flat TItem.enc (TItem.marks k0 k ++ y' :: xs.drop (k + 1)) ++ rest := fun y y' j v hj hy => by
      have := flat_update TItem.enc_len (TItem.marks k0 k) (xs.drop (k + 1)) y y' rest j v hj hy
      rw [hlen] at this
      rw [Nat.zero_add]; exact this
    have hkS : ∀ i, i = b → blkIn (some ⟨b, 0, none⟩) i := fun i hi => ⟨_, rfl, hi⟩
    conv => whnf
    refine (laws_markText (k0 + 4 * k + 0) (by omega) w0).mono ?_
    rintro _ w1 ⟨rfl, e1⟩
    have B1 := B0.ext e1
    have M1 := M0.trans (Ext.mod e1)
    conv => whnf
    refine SemK.indexOwn (sz := 4) (by kernel_rfl) k rfl (by omega) ?_
    conv => whnf
    refine SemK.store1 (by kernel_rfl) B1 (k := 0 + k * 4 + 0) (by rw [hsz]; omega) rfl ?_
    intro w2 c2 C2
    have B2 : Blk w2 b (flat TItem.enc (TItem.marks k0 k ++ (⟨markB (k0 + 4 * k + 0), x.kind, x.from_, x.to_⟩ : TItem) :: xs.drop (k + 1)) ++ rest) t := by rw [← hupd x (⟨markB (k0 + 4 * k + 0), x.kind, x.from_, x.to_⟩ : TItem) 0 _ (by omega) rfl]; exact C2
    have M2 := M1.trans (c2.but.mono hkS)
    conv => whnf
    refine SemK.add (((k0 + 4 * k + 1 : Nat) : Int)) (by omega) (by omega) (by omega) ?_
    conv => whnf
    refine SemK.indexOwn (sz := 4) (by kernel_rfl) k rfl (by omega) ?_
    conv => whnf
    refine SemK.store1 (by kernel_rfl) B2 (k := 0 + k * 4 + 1) (by rw [hsz]; omega) rfl ?_
    intro w3 c3 C3
    have B3 : Blk w3 b (flat TItem.enc (TItem.marks k0 k ++ (⟨markB (k0 + 4 * k + 0), ((k0 + 4 * k + 1 : Nat) : Int), x.from_, x.to_⟩ : TItem) :: xs.drop (k + 1)) ++ rest) t := by rw [← hupd (⟨markB (k0 + 4 * k + 0), x.kind, x.from_, x.to_⟩ : TItem) (⟨markB (k0 + 4 * k + 0), ((k0 + 4 * k + 1 : Nat) : Int), x.from_, x.to_⟩ : TItem) 1 _ (by omega) rfl]; exact C3
    have M3 := M2.trans (c3.but.mono hkS)
    conv => whnf
    refine SemK.add (((k0 + 4 * k + 2 : Nat) : Int)) (by omega) (by omega) (by omega) ?_
    conv => whnf
    refine SemK.indexOwn (sz := 4) (by kernel_rfl) k rfl (by omega) ?_
    conv => whnf
    refine SemK.store1 (by kernel_rfl) B3 (k := 0 + k * 4 + 2) (by rw [hsz]; omega) rfl ?_
    intro w4 c4 C4
    have B4 : Blk w4 b (flat TItem.enc (TItem.marks k0 k ++ (⟨markB (k0 + 4 * k + 0), ((k0 + 4 * k + 1 : Nat) : Int), ((k0 + 4 * k + 2 : Nat) : Int), x.to_⟩ : TItem) :: xs.drop (k + 1)) ++ rest) t := by rw [← hupd (⟨markB (k0 + 4 * k + 0), ((k0 + 4 * k + 1 : Nat) : Int), x.from_, x.to_⟩ : TItem) (⟨markB (k0 + 4 * k + 0), ((k0 + 4 * k + 1 : Nat) : Int), ((k0 + 4 * k + 2 : Nat) : Int), x.to_⟩ : TItem) 2 _ (by omega) rfl]; exact C4
    have M4 := M3.trans (c4.but.mono hkS)
    conv => whnf
    refine SemK.add (((k0 + 4 * k + 3 : Nat) : Int)) (by omega) (by omega) (by omega) ?_
    conv => whnf
    refine SemK.indexOwn (sz := 4) (by kernel_rfl) k rfl (by omega) ?_
    conv => whnf
    refine SemK.store1 (by kernel_rfl) B4 (k := 0 + k * 4 + 3) (by rw [hsz]; omega) rfl ?_
    intro w5 c5 C5
    have B5 : Blk w5 b (flat TItem.enc (TItem.marks k0 k ++ (⟨markB (k0 + 4 * k + 0), ((k0 + 4 * k + 1 : Nat) : Int), ((k0 + 4 * k + 2 : Nat) : Int), ((k0 + 4 * k + 3 : Nat) : Int)⟩ : TItem) :: xs.drop (k + 1)) ++ rest) t := by rw [← hupd (⟨markB (k0 + 4 * k + 0), ((k0 + 4 * k + 1 : Nat) : Int), ((k0 + 4 * k + 2 : Nat) : Int), x.to_⟩ : TItem) (⟨markB (k0 + 4 * k + 0), ((k0 + 4 * k + 1 : Nat) : Int), ((k0 + 4 * k + 2 : Nat) : Int), ((k0 + 4 * k + 3 : Nat) : Int)⟩ : TItem) 3 _ (by omega) rfl]; exact C5
    have M5 := M4.trans (c5.but.mono hkS)
    conv => whnf
    refine SemK.add (((k0 + 4 * k + 4 : Nat) : Int)) (by omega) (by omega) (by omega) ?_
    conv => whnf
    refine SemK.add (((k + 1 : Nat) : Int)) (by omega) (by omega) (by omega) ?_
    conv => whnf
    refine ⟨k + 1, by omega, rfl, by omega, M5, .inr ⟨b, rest, rfl, ?_⟩⟩
    rw [TItem.marks_succ, List.append_assoc]
    exact B5
  · conv => whnf
    have : k = n := by omega
    subst this
    refine ⟨rfl, M0, TItem.marks_length _ _, hm, ?_⟩
    rcases hO with hO | ⟨b, rest, ha, hb⟩
    · exact .inl hO
    · refine .inr ⟨b, rest, ha, ?_⟩
      rw [List.drop_eq_nil_of_le (by omega)] at hb
      simpa using hb
end Go.Proofs.YtkjmbjedbmblmaaGreatDoor
namespace Go.Proofs.YtkjmbjedbmblmaaGreatDoor
open Go Go.RowKit Go.Vc Go.M Go.ChangeShapes Go.WideShapes Go.ChangeAt
theorem laws_szLayout {w : World} {a : Option Addr} {n c : Nat} {wd : Int} {xs : List TItem} (h : Arr TItem.enc 4 w a n xs) (hok : ∀ x ∈ xs, x.ok) {left : Int} (h0 : 0 ≤ left) (h1 : left ≤ 1152921504606846976) :
    Does Tryz.prog 29 [.agg #[.int .i64 wd, .slice a n c], .int .i64 left] w (fun v w' => ∃ r : Int, v = .int .i64 r ∧ (r = -1 ∨ (0 ≤ r ∧ r + n + TItem.wsum xs = left)) ∧ Ext w w') := by
  refine Does.of_vc tabok Tryz.func29 rfl rfl rfl (by kernel_rfl) ?_; conv => whnf
  refine SemK.box ?_
  intro b2 w2 g2 l2 e2 B2
  conv => whnf
  refine SemK.load1 (by kernel_rfl) B2.cells (k := 1) rfl ?_
  conv => whnf
  refine (laws_szItemS (h.ext e2) hok h0 h1).mono ?_
  rintro _ w6 ⟨r3, rfl, q4, e5⟩
  conv => whnf
  with_reducible refine IfB.dec (fun h7 => ?_) (fun h7 => ?_)
  · conv => whnf
    exact ⟨_, rfl, by omega, (Ext.trans e2 e5)⟩
  · conv => whnf
    exact ⟨_, rfl, by omega, (Ext.trans e2 e5)⟩
theorem laws_toLayout {w : World} {a : Option Addr} {n c : Nat} {wd : Int} {xs : List TItem} (h : Arr TItem.enc 4 w a n xs) (hsm : n ≤ 1048576) :
    Does Tryz.prog 33 [.agg #[.int .i64 wd, .slice a n c]] w (fun v w' => ∃ b, v = .agg #[.int .i64 wd, .slice (some ⟨b, 0, none⟩) n n] ∧ w.heap.size ≤ b ∧ Ext w w' ∧ Own TItem.enc w' (some ⟨b, 0, none⟩) n 170 xs) := by
  refine Does.of_vc tabok Tryz.func33 rfl rfl rfl (by kernel_rfl) ?_; conv => whnf
  refine SemK.box ?_
  intro b1 w1 g1 l1 e1 B1
  conv => whnf
  refine SemK.alloc (z := .agg #[.int .i64 0, .slice none 0 0]) (by kernel_rfl) ?_
  intro b2 w2 g2 l2 e2 B2
  conv => whnf
  refine SemK.alloc (z := .agg #[.int .i64 0, .slice none 0 0]) (by kernel_rfl) ?_
  intro b3 w3 g3 l3 e3 B3
  conv => whnf
  refine SemK.load1 (by kernel_rfl) (B1.ext (Ext.trans e2 e3)).cells (k := 0) rfl ?_
  conv => whnf
  refine SemK.store1 (by kernel_rfl) B3 (k := 0) (by decide) rfl ?_
  intro w4 c4 B4
  have B4 : Blk w4 b3 [Value.int IntKind.i64 wd, Value.slice none 0 0] _ := B4
  conv => whnf
  refine SemK.load1 (by kernel_rfl) (B1.ext (Ext.but_trans (Ext.trans e2 e3) c4.but (Nat.le_trans (Below.size e2) g3))).cells (k := 1) rfl ?_
  conv => whnf
  refine (laws_toItemS (h.ext (Ext.but_trans (Ext.trans (Ext.trans e1 e2) e3) c4.but (Nat.le_trans (Below.size (Ext.trans e1 e2)) g3))) hsm).mono ?_
  rintro _ w9 ⟨b5, rfl, q6, e7, O8⟩
  conv => whnf
  refine SemK.store1 (by kernel_rfl) (B4.ext e7) (k := 1) (Nat.le_of_ble_eq_true rfl) rfl ?_
  intro w10 c10 B10
  have B10 : Blk w10 b3 [Value.int IntKind.i64 wd, Value.slice (some { block := b5, off := 0 }) n n] _ := B10
  conv => whnf
  refine SemK.loadAgg (n := 2) (by kernel_rfl) B10.cells rfl ?_
  conv => whnf
  refine SemK.storeAll (vs := [Value.int IntKind.i64 wd, Value.slice (some { block := b5, off := 0 }) n n]) (by kernel_rfl) (B2.ext (Ext.but_trans (Ext.trans (Ext.but_trans e3 c4.but g3) e7) c10.but g3)) rfl rfl (by simp [cellish]) ?_
  intro w11 c11 B11
  conv => whnf
  refine CellK.of (run_loadAgg (n := 2) (by kernel_rfl) rfl B11.cells) ?_
  conv => whnf
  refine ⟨_, rfl, ?_, ?_, ?_⟩
  · exact Nat.le_trans (Below.size (Ext.but_trans (Ext.trans (Ext.trans e1 e2) e3) c4.but (Nat.le_trans (Below.size (Ext.trans e1 e2)) g3))) q6
  · exact (Ext.but_trans (Ext.but_trans (Ext.trans (Ext.but_trans (Ext.trans (Ext.trans e1 e2) e3) c4.but (Nat.le_trans (Below.size (Ext.trans e1 e2)) g3)) e7) c10.but (Nat.le_trans (Below.size (Ext.trans e1 e2)) g3)) c11.but (Nat.le_trans (Below.size e1) g2))
  · have hz4 := c4.size
    have hb3 : b3 < b5 := by omega
    have hb2 : b2 < b5 := by have := Below.size e3; omega
    exact (O8.mod c10.but (fun x hx => by cases hx; intro e; have e : b5 = b3 := e; omega)).mod c11.but (fun x hx => by cases hx; intro e; have e : b5 = b2 := e; omega)
theorem laws_eqLayout {w : World} {a a' : Option Addr} {n n' c c' : Nat} {wd wd' : Int} {xs ys : List TItem} (h : Arr TItem.enc 4 w a n xs) (h' : Arr TItem.enc 4 w a' n' ys) :
    Does Tryz.prog 38 [.agg #[.int .i64 wd, .slice a n c], .agg #[.int .i64 wd', .slice a' n' c']] w (fun v w' => v = .bool (decide (wd = wd') && decide (xs = ys)) ∧ Ext w w') := by
  refine Does.of_vc tabok Tryz.func38 rfl rfl rfl (by kernel_rfl) ?_; conv => whnf
  refine SemK.box ?_
  intro b1 w1 g1 l1 e1 B1
  conv => whnf
  refine SemK.box ?_
  intro b2 w2 g2 l2 e2 B2
  conv => whnf
  refine SemK.load1 (by kernel_rfl) (B1.ext e2).cells (k := 0) rfl ?_
  conv => whnf
  refine SemK.load1 (by kernel_rfl) B2.cells (k := 0) rfl ?_
  conv => whnf
  with_reducible refine IfB.ndec (fun h3 => ?_) (fun h3 => ?_)
  · conv => whnf
    exact ⟨by simp [*], (Ext.trans e1 e2)⟩
  · conv => whnf
    refine SemK.load1 (by kernel_rfl) (B1.ext e2).cells (k := 1) rfl ?_
    conv => whnf
    refine SemK.load1 (by kernel_rfl) B2.cells (k := 1) rfl ?_
    conv => whnf
    refine (laws_eqItemS (h.ext (Ext.trans e1 e2)) (h'.ext (Ext.trans e1 e2))).mono ?_
    rintro _ w5 ⟨rfl, e4⟩
    conv => whnf
    with_reducible refine IfB.ndec (fun h6 => ?_) (fun h6 => ?_)
    · conv => whnf
      exact ⟨by simp [*], (Ext.trans (Ext.trans e1 e2) e4)⟩
    · conv => whnf
      exact ⟨by simp [*], (Ext.trans (Ext.trans e1 e2) e4)⟩
theorem laws_markLayout {w : World} {a : Option Addr} {n c t k0 : Nat} {wd : Int} {xs : List TItem} (h : Own TItem.enc w a n t xs) (hk0 : k0 + 4 * n ≤ 1000000000) :
    Does Tryz.prog 41 [.agg #[.int .i64 wd, .slice a n c], .int .i64 k0] w (fun v w' => v = .int .i64 ((k0 + 4 * n : Nat) : Int) ∧ Mod (blkIn a) w w' ∧ Own TItem.enc w' a n t (TItem.marks k0 n)) := by
  have hN := h.lt
  refine Does.of_vc tabok Tryz.func41 rfl rfl rfl (by kernel_rfl) ?_; conv => whnf
  refine SemK.box ?_
  intro b1 w1 g1 l1 e1 B1
  conv => whnf
  refine SemK.load1 (by kernel_rfl) B1.cells (k := 1) rfl ?_
  conv => whnf
  refine (laws_markItemS (h.ext e1) hk0).mono ?_
  rintro _ w4 ⟨rfl, m2, O3⟩
  conv => whnf
  exact ⟨rfl, (e1.mod.trans m2), O3⟩
set_option maxRecDepth 100000 in
theorem open_aItem {H : Type} {enc : TypeId × Value → H} (W : World) {fuel : Nat} {cs : List Value} {x : DataW H × List MemPlace} (h : DataW.trod enc Tryz.prog W 0 (fun _ => true) true fuel 263 cs = some x) :
    ∃ y : TItem, cs = y.enc ∧ y.ok := by
  have hl : cs.length = 4 := (trod_field Tryz.underlying263 h).1.trans (by kernel_rfl)
  obtain ⟨n0, y0, h0⟩ := trod_at Tryz.underlying263 h 0 rfl (ft := 9) (off := 0) (sz := 1) rfl rfl (by kernel_rfl)
  obtain ⟨n1, y1, h1⟩ := trod_at Tryz.underlying263 h 1 rfl (ft := 2) (off := 1) (sz := 1) rfl rfl (by kernel_rfl)
  obtain ⟨n2, y2, h2⟩ := trod_at Tryz.underlying263 h 2 rfl (ft := 261) (off := 2) (sz := 2) rfl rfl (by kernel_rfl)
  obtain ⟨m0, z0, q0⟩ := trod_at Tryz.underlying261 h2 0 rfl (ft := 2) (off := 0) (sz := 1) rfl rfl (by kernel_rfl)
  obtain ⟨m1, z1, q1⟩ := trod_at Tryz.underlying261 h2 1 rfl (ft := 2) (off := 1) (sz := 1) rfl rfl (by kernel_rfl)
  obtain ⟨s, hs, _, sok⟩ := DataW.trod_string Tryz.underlying9 h0
  obtain ⟨k, hk, _, kok⟩ := DataW.trod_int Tryz.underlying2 h1
  obtain ⟨f, hf, _, fok⟩ := DataW.trod_int Tryz.underlying2 q0
  obtain ⟨t, ht, _, tok⟩ := DataW.trod_int Tryz.underlying2 q1
  refine ⟨⟨s, k, f, t⟩, ?_, sok, i64ok_of_wf kok, i64ok_of_wf fok, i64ok_of_wf tok⟩
  match cs, hl with
  | [x, y, z, u], _ =>
    simp at hs hk hf ht
    subst hs hk hf ht
    rfl
set_option maxRecDepth 100000 in
theorem open_aLayout {H : Type} {enc : TypeId × Value → H} (W : World) {v : Value} {d : DataW H} {p : List MemPlace} {base : Nat} (hok : Value.okWide Tryz.prog W .any base 55 v) (h : DataW.Trod enc Tryz.prog W 0 (fun _ => true) true 55 v d p) :
    ∃ wd a n c xs, v = .agg #[.int .i64 wd, .slice a n c] ∧ Arr TItem.enc 4 W a n xs ∧ ∀ x ∈ xs, x.ok := by
  obtain ⟨cs, n, rfl, hf⟩ := open_agg Tryz.underlying55 hok h
  have hl2 : cs.length = 2 := (trod_field Tryz.underlying55 hf).1.trans (by kernel_rfl)
  obtain ⟨n0, y0, h0⟩ := trod_at Tryz.underlying55 hf 0 rfl (ft := 2) (off := 0) (sz := 1) rfl rfl (by kernel_rfl)
  obtain ⟨n1, y1, h1⟩ := trod_at Tryz.underlying55 hf 1 rfl (ft := 53) (off := 1) (sz := 1) rfl rfl (by kernel_rfl)
  obtain ⟨m0, e0, _, _⟩ := DataW.trod_int Tryz.underlying2 h0
  obtain ⟨d1, X, eX, AX, okX, _⟩ := trod_arr (encα := TItem.enc) (ok := TItem.ok) (sz := 4) Tryz.underlying53 (by kernel_rfl) (by omega) (fun n cs x h => open_aItem W h) TItem.enc_len h1
  refine ⟨m0, d1.a, d1.n, d1.c, X, ?_, AX, okX⟩
  match cs, hl2 with
  | [x, y], _ =>
    simp [eH] at e0 eX
    subst e0 eX
    rfl
end Go.Proofs.YtkjmbjedbmblmaaGreatDoor
