/- Contracts of functions of the given program, of the reference and of the laws: each says what a call returns, for all arguments that meet the premises that the theorem itself names. -/
import Derived.Test.YtkjmbjedbmblmaaGreatDoorBasics
import Derived.Test.YtkjmbjedbmblmaaGreatDoorVcApp
import Derived.Test.YtkjmbjedbmblmaaGreatDoorVcFlat
namespace Go.M
open Go Go.Vc
structure TTotal where
  name : ByteArray
  sum : Int
theorem TTotal.ext_iff2 {a b : TTotal} : a = b ↔ a.name = b.name ∧ a.sum = b.sum := by
  constructor
  · intro h; subst h; simp
  · intro h; cases a; cases b; simp at h; simp [h]
instance : DecidableEq TTotal := fun a b => decidable_of_iff (a.name = b.name ∧ a.sum = b.sum) TTotal.ext_iff2.symm
instance : Inhabited TTotal := ⟨⟨.empty, 0⟩⟩
def TTotal.enc (x : TTotal) : List Value := [.string x.name, .int .i64 x.sum]
theorem TTotal.enc_len (x : TTotal) : x.enc.length = 2 := rfl
def TTotal.ok (x : TTotal) : Prop := strok x.name ∧ i64ok x.sum
def TTotal.wt (x : TTotal) : Nat := x.name.size
theorem TTotal.flat {x : TTotal} (h : x.ok) : Flat [true, false] x.enc := by
  obtain ⟨h0, h1⟩ := h
  exact ⟨_, _, rfl, h0, ⟨_, _, rfl, h1, rfl⟩⟩
theorem TTotal.of_flat {cs : List Value} (h : Flat [true, false] cs) : ∃ x : TTotal, cs = x.enc ∧ x.ok := by
  obtain ⟨v0, _, rfl, h0, ⟨v1, _, rfl, h1, rfl⟩⟩ := h
  exact ⟨⟨v0, v1⟩, rfl, h0, h1⟩
theorem TTotal.eq_flat (x y : TTotal) : flatEq x.enc y.enc = decide (x = y) := by
  rw [Bool.eq_iff_iff, decide_eq_true_eq, TTotal.ext_iff2]
  simp [TTotal.enc, flatEq]
def TTotal.wsum (xs : List TTotal) : Nat := (xs.map TTotal.wt).sum
theorem TTotal.wsum_snoc {xs : List TTotal} {k : Nat} {x : TTotal} (h : xs[k]? = some x) : TTotal.wsum (xs.take (k + 1)) = TTotal.wsum (xs.take k) + x.wt := by
  simp [TTotal.wsum, List.take_add_one, h]
def TTotal.mark (k : Nat) : TTotal := ⟨markB (k + 0), ((k + 1 : Nat) : Int)⟩
def TTotal.marks (k n : Nat) : List TTotal := (List.range n).map fun i => TTotal.mark (k + 2 * i)
theorem TTotal.marks_length (k n : Nat) : (TTotal.marks k n).length = n := by simp [TTotal.marks]
theorem TTotal.marks_get {k n i : Nat} (h : i < n) : (TTotal.marks k n)[i]? = some (TTotal.mark (k + 2 * i)) := by simp [TTotal.marks, h]
theorem TTotal.marks_succ (k n : Nat) : TTotal.marks k (n + 1) = TTotal.marks k n ++ [TTotal.mark (k + 2 * n)] := by simp [TTotal.marks, List.range_succ]
end Go.M
namespace Go.Proofs.YtkjmbjedbmblmaaGreatDoor
open Go Go.RowKit Go.Vc Go.M
theorem laws_szTotal {x : TTotal} (hx : x.ok) {left : Int} (h0 : 0 ≤ left) (h1 : left ≤ 1152921504606846976) (w : World) : Does Tryz.prog 346 [.agg ⟨x.enc⟩, .int .i64 left] w (fun v w' => ∃ r : Int, v = .int .i64 r ∧ (r = -1 ∨ (0 ≤ r ∧ r + x.wt = left)) ∧ Ext w w') := by
  obtain ⟨q0, q1⟩ := hx
  simp only [strok, i64ok] at q0 q1
  refine Does.of_vc tabok Tryz.func346 rfl rfl rfl (by kernel_rfl) ?_; conv => whnf
  refine SemK.box ?_
  intro b w1 _ _ e1 hB
  have hc : Cells w1 b 0 x.enc := hB.cells
  conv => whnf
  refine SemK.load1 (by kernel_rfl) hc (k := 0) rfl ?_
  conv => whnf
  refine SemK.sub (left - x.name.size) rfl (by omega) (by omega) ?_
  conv => whnf
  with_reducible refine IfB.dec (fun p0 => ?_) (fun p0 => ?_)
  · conv => whnf
    exact ⟨-1, rfl, .inl rfl, e1⟩
  conv => whnf
  exact ⟨(left - x.name.size), rfl, .inr ⟨by omega, by simp only [TTotal.wt]; omega⟩, e1⟩
theorem laws_toTotal (x : TTotal) (w : World) : Does Tryz.prog 348 [.agg ⟨x.enc⟩] w (fun v w' => v = .agg ⟨x.enc⟩ ∧ Ext w w') := by
  refine Does.of_vc tabok Tryz.func348 rfl rfl rfl (by kernel_rfl) ?_; conv => whnf
  refine SemK.box ?_
  intro b w1 _ l1 e1 hB
  have hc1 : Cells w1 b 0 x.enc := hB.cells
  conv => whnf
  refine SemK.alloc (z := .agg #[.string { data := #[] }, .int .i64 0]) (by kernel_rfl) ?_
  intro rb w2 g2 l2 e2 R2
  conv => whnf
  refine SemK.alloc (z := .agg #[.string { data := #[] }, .int .i64 0]) (by kernel_rfl) ?_
  intro ob w3 g3 l3 e3 O3
  have O3 : Blk w3 ob [.string { data := #[] }, .int .i64 0] 51 := O3
  conv => whnf
  have hc3 := (hc1.ext e2).ext e3
  have R3 := R2.ext e3
  have E3 := Ext.trans e1 (Ext.trans e2 e3)
  refine SemK.load1 (by kernel_rfl) hc3 (k := 0) rfl ?_
  conv => whnf
  refine SemK.store1 (by kernel_rfl) O3 (k := 0 + 0) (by simp) rfl ?_
  intro w4 c4 B4
  have O4 : Blk w4 ob [.string x.name, .int .i64 0] 51 := B4
  have hc4 := hc3.mod c4.but (by omega)
  have R4 := R3.mod c4.but (by omega)
  have E4 := E3.but_trans c4.but (by have := e1.size; have := e2.size; omega)
  conv => whnf
  refine SemK.load1 (by kernel_rfl) hc4 (k := 1) rfl ?_
  conv => whnf
  refine SemK.store1 (by kernel_rfl) O4 (k := 0 + 1) (by simp) rfl ?_
  intro w5 c5 B5
  have O5 : Blk w5 ob [.string x.name, .int .i64 x.sum] 51 := B5
  have hc5 := hc4.mod c5.but (by omega)
  have R5 := R4.mod c5.but (by omega)
  have E5 := E4.but_trans c5.but (by have := e1.size; have := e2.size; omega)
  conv => whnf
  refine SemK.loadAgg (by kernel_rfl) (n := 2) O5.cells rfl ?_
  conv => whnf
  refine SemK.storeAgg (by kernel_rfl) (n := 2) R5 (vs := x.enc) rfl (k := 0) (by simp [Value.cells]) (by simp [TTotal.enc, cellish]) ?_
  intro w6 c6 B6
  conv => whnf
  refine CellK.of (run_loadAgg (n := 2) (by kernel_rfl) (vs := x.enc) rfl B6.cells) ?_
  conv => whnf
  exact ⟨rfl, E5.but_trans c6.but (by have := e1.size; omega)⟩
theorem laws_eqTotal (x y : TTotal) (w : World) : Does Tryz.prog 351 [.agg ⟨x.enc⟩, .agg ⟨y.enc⟩] w (fun v w' => v = .bool (decide (x = y)) ∧ Ext w w') := by
  refine Does.of_vc tabok Tryz.func351 rfl rfl rfl (by kernel_rfl) ?_; conv => whnf
  refine SemK.box ?_
  intro b w1 _ _ e1 hB
  conv => whnf
  refine SemK.box ?_
  intro b' w2 _ _ e2 hB'
  conv => whnf
  have hc : Cells w2 b 0 x.enc := (hB.ext e2).cells
  have hc' : Cells w2 b' 0 y.enc := hB'.cells
  have E := Ext.trans e1 e2
  refine SemK.load1 (by kernel_rfl) hc (k := 0) rfl ?_
  conv => whnf
  refine SemK.load1 (by kernel_rfl) hc' (k := 0) rfl ?_
  conv => whnf
  with_reducible refine IfB.ndec (fun p0 => ?_) (fun p0 => ?_)
  · conv => whnf
    exact ⟨by rw [decide_eq_false (fun e => p0 (by rw [e]))], E⟩
  conv => whnf
  refine SemK.load1 (by kernel_rfl) hc (k := 1) rfl ?_
  conv => whnf
  refine SemK.load1 (by kernel_rfl) hc' (k := 1) rfl ?_
  conv => whnf
  with_reducible refine IfB.ndec (fun p1 => ?_) (fun p1 => ?_)
  · conv => whnf
    exact ⟨by rw [decide_eq_false (fun e => p1 (by rw [e]))], E⟩
  conv => whnf
  exact ⟨by rw [decide_eq_true (TTotal.ext_iff2.2 ⟨p0, p1⟩)], E⟩
theorem laws_szTotalS {w : World} {a : Option Addr} {n c : Nat} {xs : List TTotal} (h : Arr TTotal.enc 2 w a n xs) (hok : ∀ x ∈ xs, x.ok) {left : Int} (h0 : 0 ≤ left) (h1 : left ≤ 1152921504606846976) :
    Does Tryz.prog 303 [.slice a n c, .int .i64 left] w (fun v w' => ∃ r : Int, v = .int .i64 r ∧ (r = -1 ∨ (0 ≤ r ∧ r + n + TTotal.wsum xs = left)) ∧ Ext w w') := by
  have hn := h.len
  have hm := h.le
  refine Does.of_vc tabok Tryz.func303 rfl rfl rfl (by kernel_rfl) ?_; conv => whnf
  refine SemK.sub (left - n) rfl (by omega) (by omega) ?_
  conv => whnf
  with_reducible refine IfB.dec (fun p0 => ?_) (fun p0 => ?_)
  · conv => whnf
    exact ⟨-1, rfl, .inl rfl, Ext.refl _⟩
  conv => whnf
  refine LoopK.rule [0, 1, 5] (fun (k : Nat) vs w' => ∃ r : Int, vs = [.slice a n c, .int .i64 r, .int .i64 k] ∧ k ≤ n ∧ 0 ≤ r ∧ r + n + TTotal.wsum (xs.take k) = left ∧ Ext w w') (fun k => n - k) tab tabok (by kernel_rfl) 0 ⟨left - n, rfl, by omega, by omega, by simp [TTotal.wsum], Ext.refl _⟩ ?_
  rintro k g _ w' ⟨r, rfl, hk, hr, hs, hE⟩
  conv => whnf
  with_reducible refine IfB.dec (fun h4 => ?_) (fun h4 => ?_)
  · obtain ⟨x, hx⟩ : ∃ x, xs[k]? = some x := get_of_lt (by omega)
    have hxo := hok x (List.mem_of_getElem? hx)
    conv => whnf
    refine SemK.index (by kernel_rfl) (h.ext hE) k rfl hx ?_
    intro b o _ hb
    conv => whnf
    refine SemK.loadAgg (by kernel_rfl) (n := 2) hb rfl ?_
    conv => whnf
    refine (laws_szTotal hxo hr (by omega) w').mono ?_
    rintro _ w2 ⟨r2, rfl, hr2, e2⟩
    conv => whnf
    with_reducible refine IfB.dec (fun h5 => ?_) (fun h5 => ?_)
    · conv => whnf
      exact ⟨-1, rfl, .inl rfl, Ext.trans hE e2⟩
    · conv => whnf
      refine SemK.add (((k + 1 : Nat) : Int)) (by omega) (by omega) (by omega) ?_
      conv => whnf
      refine ⟨k + 1, by omega, r2, rfl, by omega, by omega, ?_, Ext.trans hE e2⟩
      rw [TTotal.wsum_snoc hx]; omega
  · conv => whnf
    rw [List.take_of_length_le (by omega)] at hs
    exact ⟨r, rfl, .inr ⟨hr, hs⟩, hE⟩
theorem laws_toTotalS {w : World} {a : Option Addr} {n c : Nat} {xs : List TTotal} (h : Arr TTotal.enc 2 w a n xs) (hsm : n ≤ 1048576) :
    Does Tryz.prog 306 [.slice a n c] w (fun v w' => ∃ b, v = .slice (some ⟨b, 0, none⟩) n n ∧ w.heap.size ≤ b ∧ Ext w w' ∧ Own TTotal.enc w' (some ⟨b, 0, none⟩) n 51 xs) := by
  have hn := h.len
  refine Does.of_vc tabok Tryz.func306 rfl rfl rfl (by kernel_rfl) ?_; conv => whnf
  refine SemK.make mk_37 n rfl (by omega) (by omega) ?_
  intro b w1 g1 l1 e1 hB
  conv => whnf
  refine LoopK.rule [0, 3, 4] (fun (k : Nat) vs w' => vs = [.slice a n c, .slice (some ⟨b, 0, none⟩) n n, .int .i64 k] ∧ k ≤ n ∧ Ext w w' ∧ Blk w' b (flat TTotal.enc (xs.take k) ++ flat (fun _ : Unit => [.string { data := #[] }, .int .i64 0]) (List.replicate (n - k) ())) 51) (fun k => n - k) tab tabok (by kernel_rfl) 0
    ⟨rfl, by omega, e1, by simpa [flat] using hB⟩ ?_
  rintro k g _ w' ⟨rfl, hk, hE, hO⟩
  conv => whnf
  with_reducible refine IfB.dec (fun h4 => ?_) (fun h4 => ?_)
  · obtain ⟨x, hx⟩ : ∃ x, xs[k]? = some x := get_of_lt (by omega)
    conv => whnf
    refine SemK.index (by kernel_rfl) (h.ext hE) k rfl hx ?_
    intro b' o _ hb
    conv => whnf
    refine SemK.loadAgg (by kernel_rfl) (n := 2) hb rfl ?_
    conv => whnf
    refine (laws_toTotal x w').mono ?_
    rintro _ w2 ⟨rfl, e2⟩
    conv => whnf
    refine SemK.indexOwn (sz := 2) (by kernel_rfl) k rfl (by omega) ?_
    conv => whnf
    have hlen : (xs.take k).length = k := by simp; omega
    obtain ⟨j, hj⟩ : ∃ j, n - k = j + 1 := ⟨n - k - 1, by omega⟩
    have hset := flat_set TTotal.enc_len (xs.take k) [.string { data := #[] }, .int .i64 0] x.enc rfl x rfl j
    simp only [hlen] at hset
    rw [hj] at hO
    have hz := flat_length (enc := fun _ : Unit => [.string { data := #[] }, .int .i64 0]) (sz := 2) (fun _ => rfl) (List.replicate (j + 1) ())
    rw [List.length_replicate] at hz
    refine SemK.storeAgg (by kernel_rfl) (n := 2) (hO.ext e2) (vs := x.enc) rfl (k := 0 + k * 2) (by
      simp only [List.length_append, flat_length TTotal.enc_len, hz, hlen]; omega) (by simp [TTotal.enc, cellish]) ?_
    intro w3 c3 B3
    rw [Nat.zero_add, hset] at B3
    conv => whnf
    refine SemK.add (((k + 1 : Nat) : Int)) (by omega) (by omega) (by omega) ?_
    conv => whnf
    refine ⟨k + 1, by omega, rfl, by omega, (Ext.trans hE e2).but_trans c3.but (by omega), ?_⟩
    have e : xs.take (k + 1) = xs.take k ++ [x] := by rw [List.take_add_one, hx]; rfl
    have e' : n - (k + 1) = j := by omega
    rw [e, e']
    exact B3
  · conv => whnf
    have hkn : k = n := by omega
    subst hkn
    refine ⟨b, rfl, g1, hE, hn, by omega, .inr ⟨b, [], rfl, ?_⟩⟩
    rw [List.take_of_length_le (by omega)] at hO
    simpa [flat] using hO
theorem laws_eqTotalS {w : World} {a a' : Option Addr} {n n' c c' : Nat} {xs ys : List TTotal} (h : Arr TTotal.enc 2 w a n xs) (h' : Arr TTotal.enc 2 w a' n' ys) :
    Does Tryz.prog 308 [.slice a n c, .slice a' n' c'] w (fun v w' => v = .bool (decide (xs = ys)) ∧ Ext w w') := by
  have hn := h.len
  have hn' := h'.len
  have hm := h.le
  refine Does.of_vc tabok Tryz.func308 rfl rfl rfl (by kernel_rfl) ?_; conv => whnf
  with_reducible refine IfB.ndec (fun h1 => ?_) (fun h1 => ?_)
  · conv => whnf
    refine ⟨?_, Ext.refl _⟩
    have : ¬ xs = ys := fun e => by subst e; omega
    rw [decide_eq_false this]
  · conv => whnf
    refine LoopK.rule [0, 1, 5] (fun (k : Nat) vs w' => vs = [.slice a n c, .slice a' n' c', .int .i64 k] ∧ k ≤ n ∧ xs.take k = ys.take k ∧ Ext w w') (fun k => n - k) tab tabok (by kernel_rfl) 0 ⟨rfl, by omega, by simp, Ext.refl _⟩ ?_
    rintro k g _ w' ⟨rfl, hk, hall, hE⟩
    conv => whnf
    with_reducible refine IfB.dec (fun h4 => ?_) (fun h4 => ?_)
    · obtain ⟨x, hx⟩ : ∃ x, xs[k]? = some x := get_of_lt (by omega)
      obtain ⟨y, hy⟩ : ∃ y, ys[k]? = some y := get_of_lt (by omega)
      conv => whnf
      refine DrawK.det tabok mixed (by kernel_rfl) (by kernel_rfl) ?_
      conv => whnf
      refine DSemK.index (by kernel_rfl) (h.ext hE) k rfl hx ?_
      intro b o _ hb
      conv => whnf
      refine DSemK.loadAgg (by kernel_rfl) (n := 2) hb rfl ?_
      conv => whnf
      refine DSemK.index (by kernel_rfl) (h'.ext hE) k rfl hy ?_
      intro b' o' _ hb'
      conv => whnf
      refine DSemK.loadAgg (by kernel_rfl) (n := 2) hb' rfl ?_
      conv => whnf
      refine DDoes.of (fun w2 _ => laws_eqTotal x y w2) ?_
      conv => whnf
      intro w2 e2
      conv => whnf
      with_reducible refine IfB.ndec (fun h5 => ?_) (fun h5 => ?_)
      · conv => whnf
        exact ⟨by rw [decide_eq_false (ne_of_get hx hy h5)], Ext.trans hE e2⟩
      · conv => whnf
        refine SemK.add (k + 1) rfl (by omega) (by omega) ?_
        conv => whnf
        exact ⟨k + 1, by omega, rfl, by omega, take_eq_snoc hall hx hy h5, Ext.trans hE e2⟩
    · conv => whnf
      refine ⟨?_, hE⟩
      rw [decide_eq_true (eq_of_take hall (by omega) (by omega))]
end Go.Proofs.YtkjmbjedbmblmaaGreatDoor
