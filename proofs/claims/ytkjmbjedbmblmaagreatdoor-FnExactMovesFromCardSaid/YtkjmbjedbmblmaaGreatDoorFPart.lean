/- Contracts of functions of the given program, of the reference and of the laws: each says what a call returns, for all arguments that meet the premises that the theorem itself names. -/
import Derived.Test.YtkjmbjedbmblmaaGreatDoorBasics
import Derived.Test.YtkjmbjedbmblmaaGreatDoorVcApp
import Derived.Test.YtkjmbjedbmblmaaGreatDoorVcFlat
namespace Go.M
open Go Go.Vc
structure TPart where
  name : ByteArray
  count : Int
  least : Int
  price : Int
theorem TPart.ext_iff2 {a b : TPart} : a = b ↔ a.name = b.name ∧ a.count = b.count ∧ a.least = b.least ∧ a.price = b.price := by
  constructor
  · intro h; subst h; simp
  · intro h; cases a; cases b; simp at h; simp [h]
instance : DecidableEq TPart := fun a b => decidable_of_iff (a.name = b.name ∧ a.count = b.count ∧ a.least = b.least ∧ a.price = b.price) TPart.ext_iff2.symm
instance : Inhabited TPart := ⟨⟨.empty, 0, 0, 0⟩⟩
def TPart.enc (x : TPart) : List Value := [.string x.name, .int .i64 x.count, .int .i64 x.least, .int .i64 x.price]
theorem TPart.enc_len (x : TPart) : x.enc.length = 4 := rfl
def TPart.ok (x : TPart) : Prop := strok x.name ∧ i64ok x.count ∧ i64ok x.least ∧ i64ok x.price
def TPart.wt (x : TPart) : Nat := x.name.size
theorem TPart.flat {x : TPart} (h : x.ok) : Flat [true, false, false, false] x.enc := by
  obtain ⟨h0, h1, h2, h3⟩ := h
  exact ⟨_, _, rfl, h0, ⟨_, _, rfl, h1, ⟨_, _, rfl, h2, ⟨_, _, rfl, h3, rfl⟩⟩⟩⟩
theorem TPart.of_flat {cs : List Value} (h : Flat [true, false, false, false] cs) : ∃ x : TPart, cs = x.enc ∧ x.ok := by
  obtain ⟨v0, _, rfl, h0, ⟨v1, _, rfl, h1, ⟨v2, _, rfl, h2, ⟨v3, _, rfl, h3, rfl⟩⟩⟩⟩ := h
  exact ⟨⟨v0, v1, v2, v3⟩, rfl, h0, h1, h2, h3⟩
theorem TPart.eq_flat (x y : TPart) : flatEq x.enc y.enc = decide (x = y) := by
  rw [Bool.eq_iff_iff, decide_eq_true_eq, TPart.ext_iff2]
  simp [TPart.enc, flatEq]
def TPart.wsum (xs : List TPart) : Nat := (xs.map TPart.wt).sum
theorem TPart.wsum_snoc {xs : List TPart} {k : Nat} {x : TPart} (h : xs[k]? = some x) : TPart.wsum (xs.take (k + 1)) = TPart.wsum (xs.take k) + x.wt := by
  simp [TPart.wsum, List.take_add_one, h]
def TPart.mark (k : Nat) : TPart := ⟨markB (k + 0), ((k + 1 : Nat) : Int), ((k + 2 : Nat) : Int), ((k + 3 : Nat) : Int)⟩
def TPart.marks (k n : Nat) : List TPart := (List.range n).map fun i => TPart.mark (k + 4 * i)
theorem TPart.marks_length (k n : Nat) : (TPart.marks k n).length = n := by simp [TPart.marks]
theorem TPart.marks_get {k n i : Nat} (h : i < n) : (TPart.marks k n)[i]? = some (TPart.mark (k + 4 * i)) := by simp [TPart.marks, h]
theorem TPart.marks_succ (k n : Nat) : TPart.marks k (n + 1) = TPart.marks k n ++ [TPart.mark (k + 4 * n)] := by simp [TPart.marks, List.range_succ]
end Go.M
namespace Go.Proofs.YtkjmbjedbmblmaaGreatDoor
open Go Go.RowKit Go.Vc Go.M
theorem laws_szPart {x : TPart} (hx : x.ok) {left : Int} (h0 : 0 ≤ left) (h1 : left ≤ 1152921504606846976) (w : World) : Does Tryz.prog 113 [.agg ⟨x.enc⟩, .int .i64 left] w (fun v w' => ∃ r : Int, v = .int .i64 r ∧ (r = -1 ∨ (0 ≤ r ∧ r + x.wt = left)) ∧ Ext w w') := by
  obtain ⟨q0, q1, q2, q3⟩ := hx
  simp only [strok, i64ok] at q0 q1 q2 q3
  refine Does.of_vc tabok Tryz.func113 rfl rfl rfl (by kernel_rfl) ?_; conv => whnf
  refine SemK.box ?_
  intro b w1 _ _ e1 hB
  have hc : Cells w1 b 0 x.enc := hB.cells
  conv => whnf
  refine SemK.load1 (by kernel_rfl) hc (k := 0) rfl ?_
  conv => whnf
  refine SemK.sub (left - x.name.size) rfl (by omega) (by omega) ?_
  conv => whnf
  with_reducible refine IfB.dec (fun p0 => ?_) (fun p0 => ?_)
  · conv => whnf
    exact ⟨-1, rfl, .inl rfl, e1⟩
  conv => whnf
  exact ⟨(left - x.name.size), rfl, .inr ⟨by omega, by simp only [TPart.wt]; omega⟩, e1⟩
theorem laws_toPart (x : TPart) (w : World) : Does Tryz.prog 123 [.agg ⟨x.enc⟩] w (fun v w' => v = .agg ⟨x.enc⟩ ∧ Ext w w') := by
  refine Does.of_vc tabok Tryz.func123 rfl rfl rfl (by kernel_rfl) ?_; conv => whnf
  refine SemK.box ?_
  intro b w1 _ l1 e1 hB
  have hc1 : Cells w1 b 0 x.enc := hB.cells
  conv => whnf
  refine SemK.alloc (z := .agg #[.string { data := #[] }, .int .i64 0, .int .i64 0, .int .i64 0]) (by kernel_rfl) ?_
  intro rb w2 g2 l2 e2 R2
  conv => whnf
  refine SemK.alloc (z := .agg #[.string { data := #[] }, .int .i64 0, .int .i64 0, .int .i64 0]) (by kernel_rfl) ?_
  intro ob w3 g3 l3 e3 O3
  have O3 : Blk w3 ob [.string { data := #[] }, .int .i64 0, .int .i64 0, .int .i64 0] 141 := O3
  conv => whnf
  have hc3 := (hc1.ext e2).ext e3
  have R3 := R2.ext e3
  have E3 := Ext.trans e1 (Ext.trans e2 e3)
  refine SemK.load1 (by kernel_rfl) hc3 (k := 0) rfl ?_
  conv => whnf
  refine SemK.store1 (by kernel_rfl) O3 (k := 0 + 0) (by simp) rfl ?_
  intro w4 c4 B4
  have O4 : Blk w4 ob [.string x.name, .int .i64 0, .int .i64 0, .int .i64 0] 141 := B4
  have hc4 := hc3.mod c4.but (by omega)
  have R4 := R3.mod c4.but (by omega)
  have E4 := E3.but_trans c4.but (by have := e1.size; have := e2.size; omega)
  conv => whnf
  refine SemK.load1 (by kernel_rfl) hc4 (k := 1) rfl ?_
  conv => whnf
  refine SemK.store1 (by kernel_rfl) O4 (k := 0 + 1) (by simp) rfl ?_
  intro w5 c5 B5
  have O5 : Blk w5 ob [.string x.name, .int .i64 x.count, .int .i64 0, .int .i64 0] 141 := B5
  have hc5 := hc4.mod c5.but (by omega)
  have R5 := R4.mod c5.but (by omega)
  have E5 := E4.but_trans c5.but (by have := e1.size; have := e2.size; omega)
  conv => whnf
  refine SemK.load1 (by kernel_rfl) hc5 (k := 2) rfl ?_
  conv => whnf
  refine SemK.store1 (by kernel_rfl) O5 (k := 0 + 2) (by simp) rfl ?_
  intro w6 c6 B6
  have O6 : Blk w6 ob [.string x.name, .int .i64 x.count, .int .i64 x.least, .int .i64 0] 141 := B6
  have hc6 := hc5.mod c6.but (by omega)
  have R6 := R5.mod c6.but (by omega)
  have E6 := E5.but_trans c6.but (by have := e1.size; have := e2.size; omega)
  conv => whnf
  refine SemK.load1 (by kernel_rfl) hc6 (k := 3) rfl ?_
  conv => whnf
  refine SemK.store1 (by kernel_rfl) O6 (k := 0 + 3) (by simp) rfl ?_
  intro w7 c7 B7
  have O7 : Blk w7 ob [.string x.name, .int .i64 x.count, .int .i64 x.least, .int .i64 x.price] 141 := B7
  have hc7 := hc6.mod c7.but (by omega)
  have R7 := R6.mod c7.but (by omega)
  have E7 := E6.but_trans c7.but (by have := e1.size; have := e2.size; omega)
  conv => whnf
  refine SemK.loadAgg (by kernel_rfl) (n := 4) O7.cells rfl ?_
  conv => whnf
  refine SemK.storeAgg (by kernel_rfl) (n := 4) R7 (vs := x.enc) rfl (k := 0) (by simp [Value.cells]) (by simp [TPart.enc, cellish]) ?_
  intro w8 c8 B8
  conv => whnf
  refine CellK.of (run_loadAgg (n := 4) (by kernel_rfl) (vs := x.enc) rfl B8.cells) ?_
  conv => whnf
  exact ⟨rfl, E7.but_trans c8.but (by have := e1.size; omega)⟩
theorem laws_eqPart (x y : TPart) (w : World) : Does Tryz.prog 135 [.agg ⟨x.enc⟩, .agg ⟨y.enc⟩] w (fun v w' => v = .bool (decide (x = y)) ∧ Ext w w') := by
  refine Does.of_vc tabok Tryz.func135 rfl rfl rfl (by kernel_rfl) ?_; conv => whnf
  refine SemK.box ?_
  intro b w1 _ _ e1 hB
  conv => whnf
  refine SemK.box ?_
  intro b' w2 _ _ e2 hB'
  conv => whnf
  have hc : Cells w2 b 0 x.enc := (hB.ext e2).cells
  have hc' : Cells w2 b' 0 y.enc := hB'.cells
  have E := Ext.trans e1 e2
  refine SemK.load1 (by kernel_rfl) hc (k := 0) rfl ?_
  conv => whnf
  refine SemK.load1 (by kernel_rfl) hc' (k := 0) rfl ?_
  conv => whnf
  with_reducible refine IfB.ndec (fun p0 => ?_) (fun p0 => ?_)
  · conv => whnf
    exact ⟨by rw [decide_eq_false (fun e => p0 (by rw [e]))], E⟩
  conv => whnf
  refine SemK.load1 (by kernel_rfl) hc (k := 1) rfl ?_
  conv => whnf
  refine SemK.load1 (by kernel_rfl) hc' (k := 1) rfl ?_
  conv => whnf
  with_reducible refine IfB.ndec (fun p1 => ?_) (fun p1 => ?_)
  · conv => whnf
    exact ⟨by rw [decide_eq_false (fun e => p1 (by rw [e]))], E⟩
  conv => whnf
  refine SemK.load1 (by kernel_rfl) hc (k := 2) rfl ?_
  conv => whnf
  refine SemK.load1 (by kernel_rfl) hc' (k := 2) rfl ?_
  conv => whnf
  with_reducible refine IfB.ndec (fun p2 => ?_) (fun p2 => ?_)
  · conv => whnf
    exact ⟨by rw [decide_eq_false (fun e => p2 (by rw [e]))], E⟩
  conv => whnf
  refine SemK.load1 (by kernel_rfl) hc (k := 3) rfl ?_
  conv => whnf
  refine SemK.load1 (by kernel_rfl) hc' (k := 3) rfl ?_
  conv => whnf
  with_reducible refine IfB.ndec (fun p3 => ?_) (fun p3 => ?_)
  · conv => whnf
    exact ⟨by rw [decide_eq_false (fun e => p3 (by rw [e]))], E⟩
  conv => whnf
  exact ⟨by rw [decide_eq_true (TPart.ext_iff2.2 ⟨p0, p1, p2, p3⟩)], E⟩
theorem laws_szPartS {w : World} {a : Option Addr} {n c : Nat} {xs : List TPart} (h : Arr TPart.enc 4 w a n xs) (hok : ∀ x ∈ xs, x.ok) {left : Int} (h0 : 0 ≤ left) (h1 : left ≤ 1152921504606846976) :
    Does Tryz.prog 28 [.slice a n c, .int .i64 left] w (fun v w' => ∃ r : Int, v = .int .i64 r ∧ (r = -1 ∨ (0 ≤ r ∧ r + n + TPart.wsum xs = left)) ∧ Ext w w') := by
  have hn := h.len
  have hm := h.le
  refine Does.of_vc tabok Tryz.func28 rfl rfl rfl (by kernel_rfl) ?_; conv => whnf
  refine SemK.sub (left - n) rfl (by omega) (by omega) ?_
  conv => whnf
  with_reducible refine IfB.dec (fun p0 => ?_) (fun p0 => ?_)
  · conv => whnf
    exact ⟨-1, rfl, .inl rfl, Ext.refl _⟩
  conv => whnf
  refine LoopK.rule [0, 1, 5] (fun (k : Nat) vs w' => ∃ r : Int, vs = [.slice a n c, .int .i64 r, .int .i64 k] ∧ k ≤ n ∧ 0 ≤ r ∧ r + n + TPart.wsum (xs.take k) = left ∧ Ext w w') (fun k => n - k) tab tabok (by kernel_rfl) 0 ⟨left - n, rfl, by omega, by omega, by simp [TPart.wsum], Ext.refl _⟩ ?_
  rintro k g _ w' ⟨r, rfl, hk, hr, hs, hE⟩
  conv => whnf
  with_reducible refine IfB.dec (fun h4 => ?_) (fun h4 => ?_)
  · obtain ⟨x, hx⟩ : ∃ x, xs[k]? = some x := get_of_lt (by omega)
    have hxo := hok x (List.mem_of_getElem? hx)
    conv => whnf
    refine SemK.index (by kernel_rfl) (h.ext hE) k rfl hx ?_
    intro b o _ hb
    conv => whnf
    refine SemK.loadAgg (by kernel_rfl) (n := 4) hb rfl ?_
    conv => whnf
    refine (laws_szPart hxo hr (by omega) w').mono ?_
    rintro _ w2 ⟨r2, rfl, hr2, e2⟩
    conv => whnf
    with_reducible refine IfB.dec (fun h5 => ?_) (fun h5 => ?_)
    · conv => whnf
      exact ⟨-1, rfl, .inl rfl, Ext.trans hE e2⟩
    · conv => whnf
      refine SemK.add (((k + 1 : Nat) : Int)) (by omega) (by omega) (by omega) ?_
      conv => whnf
      refine ⟨k + 1, by omega, r2, rfl, by omega, by omega, ?_, Ext.trans hE e2⟩
      rw [TPart.wsum_snoc hx]; omega
  · conv => whnf
    rw [List.take_of_length_le (by omega)] at hs
    exact ⟨r, rfl, .inr ⟨hr, hs⟩, hE⟩
theorem laws_toPartS {w : World} {a : Option Addr} {n c : Nat} {xs : List TPart} (h : Arr TPart.enc 4 w a n xs) (hsm : n ≤ 1048576) :
    Does Tryz.prog 32 [.slice a n c] w (fun v w' => ∃ b, v = .slice (some ⟨b, 0, none⟩) n n ∧ w.heap.size ≤ b ∧ Ext w w' ∧ Own TPart.enc w' (some ⟨b, 0, none⟩) n 141 xs) := by
  have hn := h.len
  refine Does.of_vc tabok Tryz.func32 rfl rfl rfl (by kernel_rfl) ?_; conv => whnf
  refine SemK.make mk_63 n rfl (by omega) (by omega) ?_
  intro b w1 g1 l1 e1 hB
  conv => whnf
  refine LoopK.rule [0, 3, 4] (fun (k : Nat) vs w' => vs = [.slice a n c, .slice (some ⟨b, 0, none⟩) n n, .int .i64 k] ∧ k ≤ n ∧ Ext w w' ∧ Blk w' b (flat TPart.enc (xs.take k) ++ flat (fun _ : Unit => [.string { data := #[] }, .int .i64 0, .int .i64 0, .int .i64 0]) (List.replicate (n - k) ())) 141) (fun k => n - k) tab tabok (by kernel_rfl) 0
    ⟨rfl, by omega, e1, by simpa [flat] using hB⟩ ?_
  rintro k g _ w' ⟨rfl, hk, hE, hO⟩
  conv => whnf
  with_reducible refine IfB.dec (fun h4 => ?_) (fun h4 => ?_)
  · obtain ⟨x, hx⟩ : ∃ x, xs[k]? = some x := get_of_lt (by omega)
    conv => whnf
    refine SemK.index (by kernel_rfl) (h.ext hE) k rfl hx ?_
    intro b' o _ hb
    conv => whnf
    refine SemK.loadAgg (by kernel_rfl) (n := 4) hb rfl ?_
    conv => whnf
    refine (laws_toPart x w').mono ?_
    rintro _ w2 ⟨rfl, e2⟩
    conv => whnf
    refine SemK.indexOwn (sz := 4) (by kernel_rfl) k rfl (by omega) ?_
    conv => whnf
    have hlen : (xs.take k).length = k := by simp; omega
    obtain ⟨j, hj⟩ : ∃ j, n - k = j + 1 := ⟨n - k - 1, by omega⟩
    have hset := flat_set TPart.enc_len (xs.take k) [.string { data := #[] }, .int .i64 0, .int .i64 0, .int .i64 0] x.enc rfl x rfl j
    simp only [hlen] at hset
    rw [hj] at hO
    have hz := flat_length (enc := fun _ : Unit => [.string { data := #[] }, .int .i64 0, .int .i64 0, .int .i64 0]) (sz := 4) (fun _ => rfl) (List.replicate (j + 1) ())
    rw [List.length_replicate] at hz
    refine SemK.storeAgg (by kernel_rfl) (n := 4) (hO.ext e2) (vs := x.enc) rfl (k := 0 + k * 4) (by
      simp only [List.length_append, flat_length TPart.enc_len, hz, hlen]; omega) (by simp [TPart.enc, cellish]) ?_
    intro w3 c3 B3
    rw [Nat.zero_add, hset] at B3
    conv => whnf
    refine SemK.add (((k + 1 : Nat) : Int)) (by omega) (by omega) (by omega) ?_
    conv => whnf
    refine ⟨k + 1, by omega, rfl, by omega, (Ext.trans hE e2).but_trans c3.but (by omega), ?_⟩
    have e : xs.take (k + 1) = xs.take k ++ [x] := by rw [List.take_add_one, hx]; rfl
    have e' : n - (k + 1) = j := by omega
    rw [e, e']
    exact B3
  · conv => whnf
    have hkn : k = n := by omega
    subst hkn
    refine ⟨b, rfl, g1, hE, hn, by omega, .inr ⟨b, [], rfl, ?_⟩⟩
    rw [List.take_of_length_le (by omega)] at hO
    simpa [flat] using hO
theorem laws_eqPartS {w : World} {a a' : Option Addr} {n n' c c' : Nat} {xs ys : List TPart} (h : Arr TPart.enc 4 w a n xs) (h' : Arr TPart.enc 4 w a' n' ys) :
    Does Tryz.prog 37 [.slice a n c, .slice a' n' c'] w (fun v w' => v = .bool (decide (xs = ys)) ∧ Ext w w') := by
  have hn := h.len
  have hn' := h'.len
  have hm := h.le
  refine Does.of_vc tabok Tryz.func37 rfl rfl rfl (by kernel_rfl) ?_; conv => whnf
  with_reducible refine IfB.ndec (fun h1 => ?_) (fun h1 => ?_)
  · conv => whnf
    refine ⟨?_, Ext.refl _⟩
    have : ¬ xs = ys := fun e => by subst e; omega
    rw [decide_eq_false this]
  · conv => whnf
    refine LoopK.rule [0, 1, 5] (fun (k : Nat) vs w' => vs = [.slice a n c, .slice a' n' c', .int .i64 k] ∧ k ≤ n ∧ xs.take k = ys.take k ∧ Ext w w') (fun k => n - k) tab tabok (by kernel_rfl) 0 ⟨rfl, by omega, by simp, Ext.refl _⟩ ?_
    rintro k g _ w' ⟨rfl, hk, hall, hE⟩
    conv => whnf
    with_reducible refine IfB.dec (fun h4 => ?_) (fun h4 => ?_)
    · obtain ⟨x, hx⟩ : ∃ x, xs[k]? = some x := get_of_lt (by omega)
      obtain ⟨y, hy⟩ : ∃ y, ys[k]? = some y := get_of_lt (by omega)
      conv => whnf
      refine DrawK.det tabok mixed (by kernel_rfl) (by kernel_rfl) ?_
      conv => whnf
      refine DSemK.index (by kernel_rfl) (h.ext hE) k rfl hx ?_
      intro b o _ hb
      conv => whnf
      refine DSemK.loadAgg (by kernel_rfl) (n := 4) hb rfl ?_
      conv => whnf
      refine DSemK.index (by kernel_rfl) (h'.ext hE) k rfl hy ?_
      intro b' o' _ hb'
      conv => whnf
      refine DSemK.loadAgg (by kernel_rfl) (n := 4) hb' rfl ?_
      conv => whnf
      refine DDoes.of (fun w2 _ => laws_eqPart x y w2) ?_
      conv => whnf
      intro w2 e2
      conv => whnf
      with_reducible refine IfB.ndec (fun h5 => ?_) (fun h5 => ?_)
      · conv => whnf
        exact ⟨by rw [decide_eq_false (ne_of_get hx hy h5)], Ext.trans hE e2⟩
      · conv => whnf
        refine SemK.add (k + 1) rfl (by omega) (by omega) ?_
        conv => whnf
        exact ⟨k + 1, by omega, rfl, by omega, take_eq_snoc hall hx hy h5, Ext.trans hE e2⟩
    · conv => whnf
      refine ⟨?_, hE⟩
      rw [decide_eq_true (eq_of_take hall (by omega) (by omega))]
theorem laws_markPartS {w : World} {a : Option Addr} {n c t k0 : Nat} {xs : List TPart} (h : Own TPart.enc w a n t xs) (hk0 : k0 + 4 * n ≤ 1000000000) :
    Does Tryz.prog 40 [.slice a n c, .int .i64 k0] w (fun v w' => v = .int .i64 ((k0 + 4 * n : Nat) : Int) ∧ Mod (blkIn a) w w' ∧ Own TPart.enc w' a n t (TPart.marks k0 n)) := by
  obtain ⟨hn, hm, h3⟩ := h
  refine Does.of_vc tabok Tryz.func40 rfl rfl rfl (by kernel_rfl) ?_; conv => whnf
  refine LoopK.rule [0, 1, 5] (fun (k : Nat) vs w' => vs = [.slice a n c, .int .i64 ((k0 + 4 * k : Nat) : Int), .int .i64 k] ∧ k ≤ n ∧ Mod (blkIn a) w w' ∧
    ((a = none ∧ n = 0) ∨ ∃ b rest, a = some ⟨b, 0, none⟩ ∧ Blk w' b (flat TPart.enc (TPart.marks k0 k ++ xs.drop k) ++ rest) t)) (fun k => n - k) tab tabok (by kernel_rfl) 0 ⟨rfl, by omega, Mod.refl _ _, ?_⟩ ?_
  · rcases h3 with h3 | ⟨b, rest, ha, hb⟩
    · exact .inl h3
    · exact .inr ⟨b, rest, ha, by simpa [TPart.marks] using hb⟩
  rintro k g _ w0 ⟨rfl, hk, M0, hO⟩
  conv => whnf
  with_reducible refine IfB.dec (fun h4 => ?_) (fun h4 => ?_)
  · obtain ⟨b, rest, rfl, B0⟩ : ∃ b rest, a = some ⟨b, 0, none⟩ ∧ Blk w0 b (flat TPart.enc (TPart.marks k0 k ++ xs.drop k) ++ rest) t := by
      rcases hO with ⟨_, hO⟩ | hO
      · omega
      · exact hO
    obtain ⟨x, hx⟩ : ∃ x, xs[k]? = some x := get_of_lt (by omega)
    have hlen : (TPart.marks k0 k).length = k := TPart.marks_length _ _
    have hxl : (xs.drop (k + 1)).length + k + 1 = n := by simp; omega
    rw [drop_cons hx] at B0
    have hsz : ∀ (y : TPart), (flat TPart.enc (TPart.marks k0 k ++ y :: xs.drop (k + 1)) ++ rest).length = n * 4 + rest.length := fun y => by
      simp only [List.length_append, flat_length TPart.enc_len, List.length_cons, hlen]; omega
    have hupd : ∀ (y y' : TPart) (j : Nat) (v : Value), j < 4 → y.enc.set j v = y'.enc → (flat TPart.enc (TPart.marks k0 k ++ y :: xs.drop (k + 1)) ++ rest).set (0 + k * 4 + j) v = flat TPart.enc (TPart.marks k0 k ++ y' :: xs.drop (k + 1)) ++ rest := fun y y' j v hj hy => by
      have := flat_update TPart.enc_len (TPart.marks k0 k) (xs.drop (k + 1)) y y' rest j v hj hy
      rw [hlen] at this
      rw [Nat.zero_add]; exact this
    have hkS : ∀ i, i = b → blkIn (some ⟨b, 0, none⟩) i := fun i hi => ⟨_, rfl, hi⟩
    conv => whnf
    refine (laws_markText (k0 + 4 * k + 0) (by omega) w0).mono ?_
    rintro _ w1 ⟨rfl, e1⟩
    have B1 := B0.ext e1
    have M1 := M0.trans (Ext.mod e1)
    conv => whnf
    refine SemK.indexOwn (sz := 4) (by kernel_rfl) k rfl (by omega) ?_
    conv => whnf
    refine SemK.store1 (by kernel_rfl) B1 (k := 0 + k * 4 + 0) (by rw [hsz]; omega) rfl ?_
    intro w2 c2 C2
    have B2 : Blk w2 b (flat TPart.enc (TPart.marks k0 k ++ (⟨markB (k0 + 4 * k + 0), x.count, x.least, x.price⟩ : TPart) :: xs.drop (k + 1)) ++ rest) t := by rw [← hupd x (⟨markB (k0 + 4 * k + 0), x.count, x.least, x.price⟩ : TPart) 0 _ (by omega) rfl]; exact C2
    have M2 := M1.trans (c2.but.mono hkS)
    conv => whnf
    refine SemK.add (((k0 + 4 * k + 1 : Nat) : Int)) (by omega) (by omega) (by omega) ?_
    conv => whnf
    refine SemK.indexOwn (sz := 4) (by kernel_rfl) k rfl (by omega) ?_
    conv => whnf
    refine SemK.store1 (by kernel_rfl) B2 (k := 0 + k * 4 + 1) (by rw [hsz]; omega) rfl ?_
    intro w3 c3 C3
    have B3 : Blk w3 b (flat TPart.enc (TPart.marks k0 k ++ (⟨markB (k0 + 4 * k + 0), ((k0 + 4 * k + 1 : Nat) : Int), x.least, x.price⟩ : TPart) :: xs.drop (k + 1)) ++ rest) t := by rw [← hupd (⟨markB (k0 + 4 * k + 0), x.count, x.least, x.price⟩ : TPart) (⟨markB (k0 + 4 * k + 0), ((k0 + 4 * k + 1 : Nat) : Int), x.least, x.price⟩ : TPart) 1 _ (by omega) rfl]; exact C3
    have M3 := M2.trans (c3.but.mono hkS)
    conv => whnf
    refine SemK.add (((k0 + 4 * k + 2 : Nat) : Int)) (by omega) (by omega) (by omega) ?_
    conv => whnf
    refine SemK.indexOwn (sz := 4) (by kernel_rfl) k rfl (by omega) ?_
    conv => whnf
    refine SemK.store1 (by kernel_rfl) B3 (k := 0 + k * 4 + 2) (by rw [hsz]; omega) rfl ?_
    intro w4 c4 C4
    have B4 : Blk w4 b (flat TPart.enc (TPart.marks k0 k ++ (⟨markB (k0 + 4 * k + 0), ((k0 + 4 * k + 1 : Nat) : Int), ((k0 + 4 * k + 2 : Nat) : Int), x.price⟩ : TPart) :: xs.drop (k + 1)) ++ rest) t := by rw [← hupd (⟨markB (k0 + 4 * k + 0), ((k0 + 4 * k + 1 : Nat) : Int), x.least, x.price⟩ : TPart) (⟨markB (k0 + 4 * k + 0), ((k0 + 4 * k + 1 : Nat) : Int), ((k0 + 4 * k + 2 : Nat) : Int), x.price⟩ : TPart) 2 _ (by omega) rfl]; exact C4
    have M4 := M3.trans (c4.but.mono hkS)
    conv => whnf
    refine SemK.add (((k0 + 4 * k + 3 : Nat) : Int)) (by omega) (by omega) (by omega) ?_
    conv => whnf
    refine SemK.indexOwn (sz := 4) (by kernel_rfl) k rfl (by omega) ?_
    conv => whnf
    refine SemK.store1 (by kernel_rfl) B4 (k := 0 + k * 4 + 3) (by rw [hsz]; omega) rfl ?_
    intro w5 c5 C5
    have B5 : Blk w5 b (flat TPart.enc (TPart.marks k0 k ++ (⟨markB (k0 + 4 * k + 0), ((k0 + 4 * k + 1 : Nat) : Int), ((k0 + 4 * k + 2 : Nat) : Int), ((k0 + 4 * k + 3 : Nat) : Int)⟩ : TPart) :: xs.drop (k + 1)) ++ rest) t := by rw [← hupd (⟨markB (k0 + 4 * k + 0), ((k0 + 4 * k + 1 : Nat) : Int), ((k0 + 4 * k + 2 : Nat) : Int), x.price⟩ : TPart) (⟨markB (k0 + 4 * k + 0), ((k0 + 4 * k + 1 : Nat) : Int), ((k0 + 4 * k + 2 : Nat) : Int), ((k0 + 4 * k + 3 : Nat) : Int)⟩ : TPart) 3 _ (by omega) rfl]; exact C5
    have M5 := M4.trans (c5.but.mono hkS)
    conv => whnf
    refine SemK.add (((k0 + 4 * k + 4 : Nat) : Int)) (by omega) (by omega) (by omega) ?_
    conv => whnf
    refine SemK.add (((k + 1 : Nat) : Int)) (by omega) (by omega) (by omega) ?_
    conv => whnf
    refine ⟨k + 1, by omega, rfl, by omega, M5, .inr ⟨b, rest, rfl, ?_⟩⟩
    rw [TPart.marks_succ, List.append_assoc]
    exact B5
  · conv => whnf
    have : k = n := by omega
    subst this
    refine ⟨rfl, M0, TPart.marks_length _ _, hm, ?_⟩
    rcases hO with hO | ⟨b, rest, ha, hb⟩
    · exact .inl hO
    · refine .inr ⟨b, rest, ha, ?_⟩
      rw [List.drop_eq_nil_of_le (by omega)] at hb
      simpa using hb
theorem spec_SameParts {w : World} {a a' : Option Addr} {n n' c c' : Nat} {xs ys : List TPart} (h : Arr TPart.enc 4 w a n xs) (h' : Arr TPart.enc 4 w a' n' ys) (hok : ∀ x ∈ xs, x.ok) (hok' : ∀ x ∈ ys, x.ok) :
    Does Tryz.prog 88 [.slice a n c, .slice a' n' c'] w (fun v w' => v = .bool (decide (xs = ys)) ∧ Ext w w') := by
  have hn := h.len
  have hn' := h'.len
  have hm := h.le
  refine Does.of_vc tabok Tryz.func88 rfl rfl rfl (by kernel_rfl) ?_; conv => whnf
  with_reducible refine IfB.ndec (fun h1 => ?_) (fun h1 => ?_)
  · conv => whnf
    refine ⟨?_, Ext.refl _⟩
    have : ¬ xs = ys := fun e => by subst e; omega
    rw [decide_eq_false this]
  · conv => whnf
    refine LoopK.rule [0, 1, 5] (fun (k : Nat) vs w' => vs = [.slice a n c, .slice a' n' c', .int .i64 k] ∧ k ≤ n ∧ xs.take k = ys.take k ∧ Ext w w') (fun k => n - k) tab tabok (by kernel_rfl) 0 ⟨rfl, by omega, by simp, Ext.refl _⟩ ?_
    rintro k g _ w' ⟨rfl, hk, hall, hE⟩
    conv => whnf
    with_reducible refine IfB.dec (fun h4 => ?_) (fun h4 => ?_)
    · obtain ⟨x, hx⟩ : ∃ x, xs[k]? = some x := get_of_lt (by omega)
      obtain ⟨y, hy⟩ : ∃ y, ys[k]? = some y := get_of_lt (by omega)
      have hxo := hok x (List.mem_of_getElem? hx)
      have hyo := hok' y (List.mem_of_getElem? hy)
      conv => whnf
      refine DrawK.det tabok mixed (by kernel_rfl) (by kernel_rfl) ?_
      conv => whnf
      refine DSemK.index (by kernel_rfl) (h.ext hE) k rfl hx ?_
      intro b o _ hb
      conv => whnf
      refine DSemK.loadAgg (by kernel_rfl) (n := 4) hb rfl ?_
      conv => whnf
      refine DSemK.index (by kernel_rfl) (h'.ext hE) k rfl hy ?_
      intro b' o' _ hb'
      conv => whnf
      refine DSemK.loadAgg (by kernel_rfl) (n := 4) hb' rfl ?_
      conv => whnf
      refine DSemK.neqFlat (ks := [true, false, false, false]) (by kernel_rfl) (by kernel_rfl) (TPart.flat hxo) (TPart.flat hyo) ?_
      rw [TPart.eq_flat]
      conv => whnf
      intro w2 e2
      conv => whnf
      with_reducible refine IfB.ndec (fun h5 => ?_) (fun h5 => ?_)
      · conv => whnf
        exact ⟨by rw [decide_eq_false (ne_of_get hx hy h5)], Ext.trans hE e2⟩
      · conv => whnf
        refine SemK.add (((k + 1 : Nat) : Int)) (by omega) (by omega) (by omega) ?_
        conv => whnf
        exact ⟨k + 1, by omega, rfl, by omega, take_eq_snoc hall hx hy h5, Ext.trans hE e2⟩
    · conv => whnf
      refine ⟨?_, hE⟩
      rw [decide_eq_true (eq_of_take hall (by omega) (by omega))]
theorem lib_EqualParts {w : World} {a a' : Option Addr} {n n' c c' : Nat} {xs ys : List TPart} (h : Arr TPart.enc 4 w a n xs) (h' : Arr TPart.enc 4 w a' n' ys) (hok : ∀ x ∈ xs, x.ok) (hok' : ∀ x ∈ ys, x.ok) :
    Does Tryz.prog 193 [.slice a n c, .slice a' n' c'] w (fun v w' => v = .bool (decide (xs = ys)) ∧ Ext w w') := by
  have hn := h.len
  have hn' := h'.len
  have hm := h.le
  refine Does.of_vc tabok Tryz.func193 rfl rfl rfl (by kernel_rfl) ?_; conv => whnf
  with_reducible refine IfB.ndec (fun h1 => ?_) (fun h1 => ?_)
  · conv => whnf
    refine ⟨?_, Ext.refl _⟩
    have : ¬ xs = ys := fun e => by subst e; omega
    rw [decide_eq_false this]
  · conv => whnf
    refine LoopK.rule [0, 1, 12, 13] (fun (k : Nat) vs w' => vs = [.slice a n c, .slice a' n' c', .int .i64 n, .int .i64 k] ∧ k ≤ n ∧ xs.take k = ys.take k ∧ Ext w w') (fun k => n - k) tab tabok (by kernel_rfl) 0 ⟨rfl, by omega, by simp, Ext.refl _⟩ ?_
    rintro k g _ w' ⟨rfl, hk, hall, hE⟩
    conv => whnf
    with_reducible refine IfB.dec (fun h4 => ?_) (fun h4 => ?_)
    · obtain ⟨x, hx⟩ : ∃ x, xs[k]? = some x := get_of_lt (by omega)
      obtain ⟨y, hy⟩ : ∃ y, ys[k]? = some y := get_of_lt (by omega)
      have hxo := hok x (List.mem_of_getElem? hx)
      have hyo := hok' y (List.mem_of_getElem? hy)
      conv => whnf
      refine DrawK.det tabok mixed (by kernel_rfl) (by kernel_rfl) ?_
      conv => whnf
      refine DSemK.index (by kernel_rfl) (h.ext hE) k rfl hx ?_
      intro b o _ hb
      conv => whnf
      refine DSemK.loadAgg (by kernel_rfl) (n := 4) hb rfl ?_
      conv => whnf
      refine DSemK.index (by kernel_rfl) (h'.ext hE) k rfl hy ?_
      intro b' o' _ hb'
      conv => whnf
      refine DSemK.loadAgg (by kernel_rfl) (n := 4) hb' rfl ?_
      conv => whnf
      refine DSemK.neqFlat (ks := [true, false, false, false]) (by kernel_rfl) (by kernel_rfl) (TPart.flat hxo) (TPart.flat hyo) ?_
      rw [TPart.eq_flat]
      conv => whnf
      intro w2 e2
      conv => whnf
      with_reducible refine IfB.ndec (fun h5 => ?_) (fun h5 => ?_)
      · conv => whnf
        exact ⟨by rw [decide_eq_false (ne_of_get hx hy h5)], Ext.trans hE e2⟩
      · conv => whnf
        refine SemK.add (((k + 1 : Nat) : Int)) (by omega) (by omega) (by omega) ?_
        conv => whnf
        exact ⟨k + 1, by omega, rfl, by omega, take_eq_snoc hall hx hy h5, Ext.trans hE e2⟩
    · conv => whnf
      refine ⟨?_, hE⟩
      rw [decide_eq_true (eq_of_take hall (by omega) (by omega))]
theorem impl_SameParts {w : World} {a a' : Option Addr} {n n' c c' : Nat} {xs ys : List TPart} (h : Arr TPart.enc 4 w a n xs) (h' : Arr TPart.enc 4 w a' n' ys) (hok : ∀ x ∈ xs, x.ok) (hok' : ∀ x ∈ ys, x.ok) :
    Does Tryz.prog 90 [.slice a n c, .slice a' n' c'] w (fun v w' => v = .bool (decide (xs = ys)) ∧ Ext w w') := by
  refine Does.of_vc tabok Tryz.func90 rfl rfl rfl (by kernel_rfl) ?_; conv => whnf
  refine (lib_EqualParts h h' hok hok').mono ?_; rintro _ w1 ⟨rfl, e1⟩; conv => whnf
  exact ⟨rfl, e1⟩
end Go.Proofs.YtkjmbjedbmblmaaGreatDoor
