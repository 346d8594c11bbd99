/- Contracts of functions of the given program, of the reference and of the laws: each says what a call returns, for all arguments that meet the premises that the theorem itself names. -/
import Derived.Test.YtilagemeigeceaaDoorStrs
import Derived.Test.YtilagemeigeceaaDoorVcFlat
namespace Go.M
open Go Go.Vc
structure TNote where
  tray : Int
  count : Int
  sum : Int
  what : ByteArray
theorem TNote.ext_iff2 {a b : TNote} : a = b ↔ a.tray = b.tray ∧ a.count = b.count ∧ a.sum = b.sum ∧ a.what = b.what := by
  constructor
  · intro h; subst h; simp
  · intro h; cases a; cases b; simp at h; simp [h]
instance : DecidableEq TNote := fun a b => decidable_of_iff (a.tray = b.tray ∧ a.count = b.count ∧ a.sum = b.sum ∧ a.what = b.what) TNote.ext_iff2.symm
instance : Inhabited TNote := ⟨⟨0, 0, 0, .empty⟩⟩
def TNote.enc (x : TNote) : List Value := [.int .i64 x.tray, .int .i64 x.count, .int .i64 x.sum, .string x.what]
theorem TNote.enc_len (x : TNote) : x.enc.length = 4 := rfl
def TNote.ok (x : TNote) : Prop := i64ok x.tray ∧ i64ok x.count ∧ i64ok x.sum ∧ strok x.what
def TNote.wt (x : TNote) : Nat := x.what.size
theorem TNote.flat {x : TNote} (h : x.ok) : Flat [false, false, false, true] x.enc := by
  obtain ⟨h0, h1, h2, h3⟩ := h
  exact ⟨_, _, rfl, h0, ⟨_, _, rfl, h1, ⟨_, _, rfl, h2, ⟨_, _, rfl, h3, rfl⟩⟩⟩⟩
theorem TNote.of_flat {cs : List Value} (h : Flat [false, false, false, true] cs) : ∃ x : TNote, cs = x.enc ∧ x.ok := by
  obtain ⟨v0, _, rfl, h0, ⟨v1, _, rfl, h1, ⟨v2, _, rfl, h2, ⟨v3, _, rfl, h3, rfl⟩⟩⟩⟩ := h
  exact ⟨⟨v0, v1, v2, v3⟩, rfl, h0, h1, h2, h3⟩
theorem TNote.eq_flat (x y : TNote) : flatEq x.enc y.enc = decide (x = y) := by
  rw [Bool.eq_iff_iff, decide_eq_true_eq, TNote.ext_iff2]
  simp [TNote.enc, flatEq]
def TNote.wsum (xs : List TNote) : Nat := (xs.map TNote.wt).sum
theorem TNote.wsum_snoc {xs : List TNote} {k : Nat} {x : TNote} (h : xs[k]? = some x) : TNote.wsum (xs.take (k + 1)) = TNote.wsum (xs.take k) + x.wt := by
  simp [TNote.wsum, List.take_add_one, h]
def TNote.mark (k : Nat) : TNote := ⟨((k + 0 : Nat) : Int), ((k + 1 : Nat) : Int), ((k + 2 : Nat) : Int), markB (k + 3)⟩
def TNote.marks (k n : Nat) : List TNote := (List.range n).map fun i => TNote.mark (k + 4 * i)
theorem TNote.marks_length (k n : Nat) : (TNote.marks k n).length = n := by simp [TNote.marks]
theorem TNote.marks_get {k n i : Nat} (h : i < n) : (TNote.marks k n)[i]? = some (TNote.mark (k + 4 * i)) := by simp [TNote.marks, h]
theorem TNote.marks_succ (k n : Nat) : TNote.marks k (n + 1) = TNote.marks k n ++ [TNote.mark (k + 4 * n)] := by simp [TNote.marks, List.range_succ]
end Go.M
namespace Go.Proofs.YtilagemeigeceaaDoor
open Go Go.RowKit Go.Vc Go.M
theorem laws_szNote {x : TNote} (hx : x.ok) {left : Int} (h0 : 0 ≤ left) (h1 : left ≤ 1152921504606846976) (w : World) : Does Tryd.prog 23 [.agg ⟨x.enc⟩, .int .i64 left] w (fun v w' => ∃ r : Int, v = .int .i64 r ∧ (r = -1 ∨ (0 ≤ r ∧ r + x.wt = left)) ∧ Ext w w') := by
  obtain ⟨q0, q1, q2, q3⟩ := hx
  simp only [strok, i64ok] at q0 q1 q2 q3
  refine Does.of_vc tabok Tryd.func23 rfl rfl rfl (by kernel_rfl) ?_; conv => whnf
  refine SemK.box ?_
  intro b w1 _ _ e1 hB
  have hc : Cells w1 b 0 x.enc := hB.cells
  conv => whnf
  refine SemK.load1 (by kernel_rfl) hc (k := 3) rfl ?_
  conv => whnf
  refine SemK.sub (left - x.what.size) rfl (by omega) (by omega) ?_
  conv => whnf
  with_reducible refine IfB.dec (fun p3 => ?_) (fun p3 => ?_)
  · conv => whnf
    exact ⟨-1, rfl, .inl rfl, e1⟩
  conv => whnf
  exact ⟨(left - x.what.size), rfl, .inr ⟨by omega, by simp only [TNote.wt]; omega⟩, e1⟩
theorem laws_toNote (x : TNote) (w : World) : Does Tryd.prog 25 [.agg ⟨x.enc⟩] w (fun v w' => v = .agg ⟨x.enc⟩ ∧ Ext w w') := by
  refine Does.of_vc tabok Tryd.func25 rfl rfl rfl (by kernel_rfl) ?_; conv => whnf
  refine SemK.box ?_
  intro b w1 _ l1 e1 hB
  have hc1 : Cells w1 b 0 x.enc := hB.cells
  conv => whnf
  refine SemK.alloc (z := .agg #[.int .i64 0, .int .i64 0, .int .i64 0, .string { data := #[] }]) (by kernel_rfl) ?_
  intro rb w2 g2 l2 e2 R2
  conv => whnf
  refine SemK.alloc (z := .agg #[.int .i64 0, .int .i64 0, .int .i64 0, .string { data := #[] }]) (by kernel_rfl) ?_
  intro ob w3 g3 l3 e3 O3
  have O3 : Blk w3 ob [.int .i64 0, .int .i64 0, .int .i64 0, .string { data := #[] }] 34 := O3
  conv => whnf
  have hc3 := (hc1.ext e2).ext e3
  have R3 := R2.ext e3
  have E3 := Ext.trans e1 (Ext.trans e2 e3)
  refine SemK.load1 (by kernel_rfl) hc3 (k := 0) rfl ?_
  conv => whnf
  refine SemK.store1 (by kernel_rfl) O3 (k := 0 + 0) (by simp) rfl ?_
  intro w4 c4 B4
  have O4 : Blk w4 ob [.int .i64 x.tray, .int .i64 0, .int .i64 0, .string { data := #[] }] 34 := B4
  have hc4 := hc3.mod c4.but (by omega)
  have R4 := R3.mod c4.but (by omega)
  have E4 := E3.but_trans c4.but (by have := e1.size; have := e2.size; omega)
  conv => whnf
  refine SemK.load1 (by kernel_rfl) hc4 (k := 1) rfl ?_
  conv => whnf
  refine SemK.store1 (by kernel_rfl) O4 (k := 0 + 1) (by simp) rfl ?_
  intro w5 c5 B5
  have O5 : Blk w5 ob [.int .i64 x.tray, .int .i64 x.count, .int .i64 0, .string { data := #[] }] 34 := B5
  have hc5 := hc4.mod c5.but (by omega)
  have R5 := R4.mod c5.but (by omega)
  have E5 := E4.but_trans c5.but (by have := e1.size; have := e2.size; omega)
  conv => whnf
  refine SemK.load1 (by kernel_rfl) hc5 (k := 2) rfl ?_
  conv => whnf
  refine SemK.store1 (by kernel_rfl) O5 (k := 0 + 2) (by simp) rfl ?_
  intro w6 c6 B6
  have O6 : Blk w6 ob [.int .i64 x.tray, .int .i64 x.count, .int .i64 x.sum, .string { data := #[] }] 34 := B6
  have hc6 := hc5.mod c6.but (by omega)
  have R6 := R5.mod c6.but (by omega)
  have E6 := E5.but_trans c6.but (by have := e1.size; have := e2.size; omega)
  conv => whnf
  refine SemK.load1 (by kernel_rfl) hc6 (k := 3) rfl ?_
  conv => whnf
  refine SemK.store1 (by kernel_rfl) O6 (k := 0 + 3) (by simp) rfl ?_
  intro w7 c7 B7
  have O7 : Blk w7 ob [.int .i64 x.tray, .int .i64 x.count, .int .i64 x.sum, .string x.what] 34 := B7
  have hc7 := hc6.mod c7.but (by omega)
  have R7 := R6.mod c7.but (by omega)
  have E7 := E6.but_trans c7.but (by have := e1.size; have := e2.size; omega)
  conv => whnf
  refine SemK.loadAgg (by kernel_rfl) (n := 4) O7.cells rfl ?_
  conv => whnf
  refine SemK.storeAgg (by kernel_rfl) (n := 4) R7 (vs := x.enc) rfl (k := 0) (by simp [Value.cells]) (by simp [TNote.enc, cellish]) ?_
  intro w8 c8 B8
  conv => whnf
  refine CellK.of (run_loadAgg (n := 4) (by kernel_rfl) (vs := x.enc) rfl B8.cells) ?_
  conv => whnf
  exact ⟨rfl, E7.but_trans c8.but (by have := e1.size; omega)⟩
theorem laws_eqNote (x y : TNote) (w : World) : Does Tryd.prog 67 [.agg ⟨x.enc⟩, .agg ⟨y.enc⟩] w (fun v w' => v = .bool (decide (x = y)) ∧ Ext w w') := by
  refine Does.of_vc tabok Tryd.func67 rfl rfl rfl (by kernel_rfl) ?_; conv => whnf
  refine SemK.box ?_
  intro b w1 _ _ e1 hB
  conv => whnf
  refine SemK.box ?_
  intro b' w2 _ _ e2 hB'
  conv => whnf
  have hc : Cells w2 b 0 x.enc := (hB.ext e2).cells
  have hc' : Cells w2 b' 0 y.enc := hB'.cells
  have E := Ext.trans e1 e2
  refine SemK.load1 (by kernel_rfl) hc (k := 0) rfl ?_
  conv => whnf
  refine SemK.load1 (by kernel_rfl) hc' (k := 0) rfl ?_
  conv => whnf
  with_reducible refine IfB.ndec (fun p0 => ?_) (fun p0 => ?_)
  · conv => whnf
    exact ⟨by rw [decide_eq_false (fun e => p0 (by rw [e]))], E⟩
  conv => whnf
  refine SemK.load1 (by kernel_rfl) hc (k := 1) rfl ?_
  conv => whnf
  refine SemK.load1 (by kernel_rfl) hc' (k := 1) rfl ?_
  conv => whnf
  with_reducible refine IfB.ndec (fun p1 => ?_) (fun p1 => ?_)
  · conv => whnf
    exact ⟨by rw [decide_eq_false (fun e => p1 (by rw [e]))], E⟩
  conv => whnf
  refine SemK.load1 (by kernel_rfl) hc (k := 2) rfl ?_
  conv => whnf
  refine SemK.load1 (by kernel_rfl) hc' (k := 2) rfl ?_
  conv => whnf
  with_reducible refine IfB.ndec (fun p2 => ?_) (fun p2 => ?_)
  · conv => whnf
    exact ⟨by rw [decide_eq_false (fun e => p2 (by rw [e]))], E⟩
  conv => whnf
  refine SemK.load1 (by kernel_rfl) hc (k := 3) rfl ?_
  conv => whnf
  refine SemK.load1 (by kernel_rfl) hc' (k := 3) rfl ?_
  conv => whnf
  with_reducible refine IfB.ndec (fun p3 => ?_) (fun p3 => ?_)
  · conv => whnf
    exact ⟨by rw [decide_eq_false (fun e => p3 (by rw [e]))], E⟩
  conv => whnf
  exact ⟨by rw [decide_eq_true (TNote.ext_iff2.2 ⟨p0, p1, p2, p3⟩)], E⟩
theorem laws_szNoteS {w : World} {a : Option Addr} {n c : Nat} {xs : List TNote} (h : Arr TNote.enc 4 w a n xs) (hok : ∀ x ∈ xs, x.ok) {left : Int} (h0 : 0 ≤ left) (h1 : left ≤ 1152921504606846976) :
    Does Tryd.prog 32 [.slice a n c, .int .i64 left] w (fun v w' => ∃ r : Int, v = .int .i64 r ∧ (r = -1 ∨ (0 ≤ r ∧ r + n + TNote.wsum xs = left)) ∧ Ext w w') := by
  have hn := h.len
  have hm := h.le
  refine Does.of_vc tabok Tryd.func32 rfl rfl rfl (by kernel_rfl) ?_; conv => whnf
  refine SemK.sub (left - n) rfl (by omega) (by omega) ?_
  conv => whnf
  with_reducible refine IfB.dec (fun p0 => ?_) (fun p0 => ?_)
  · conv => whnf
    exact ⟨-1, rfl, .inl rfl, Ext.refl _⟩
  conv => whnf
  refine LoopK.rule [0, 1, 5] (fun (k : Nat) vs w' => ∃ r : Int, vs = [.slice a n c, .int .i64 r, .int .i64 k] ∧ k ≤ n ∧ 0 ≤ r ∧ r + n + TNote.wsum (xs.take k) = left ∧ Ext w w') (fun k => n - k) tab tabok (by kernel_rfl) 0 ⟨left - n, rfl, by omega, by omega, by simp [TNote.wsum], Ext.refl _⟩ ?_
  rintro k g _ w' ⟨r, rfl, hk, hr, hs, hE⟩
  conv => whnf
  with_reducible refine IfB.dec (fun h4 => ?_) (fun h4 => ?_)
  · obtain ⟨x, hx⟩ : ∃ x, xs[k]? = some x := get_of_lt (by omega)
    have hxo := hok x (List.mem_of_getElem? hx)
    conv => whnf
    refine SemK.index (by kernel_rfl) (h.ext hE) k rfl hx ?_
    intro b o _ hb
    conv => whnf
    refine SemK.loadAgg (by kernel_rfl) (n := 4) hb rfl ?_
    conv => whnf
    refine (laws_szNote hxo hr (by omega) w').mono ?_
    rintro _ w2 ⟨r2, rfl, hr2, e2⟩
    conv => whnf
    with_reducible refine IfB.dec (fun h5 => ?_) (fun h5 => ?_)
    · conv => whnf
      exact ⟨-1, rfl, .inl rfl, Ext.trans hE e2⟩
    · conv => whnf
      refine SemK.add (((k + 1 : Nat) : Int)) (by omega) (by omega) (by omega) ?_
      conv => whnf
      refine ⟨k + 1, by omega, r2, rfl, by omega, by omega, ?_, Ext.trans hE e2⟩
      rw [TNote.wsum_snoc hx]; omega
  · conv => whnf
    rw [List.take_of_length_le (by omega)] at hs
    exact ⟨r, rfl, .inr ⟨hr, hs⟩, hE⟩
theorem laws_toNoteS {w : World} {a : Option Addr} {n c : Nat} {xs : List TNote} (h : Arr TNote.enc 4 w a n xs) (hsm : n ≤ 1048576) :
    Does Tryd.prog 34 [.slice a n c] w (fun v w' => ∃ b, v = .slice (some ⟨b, 0, none⟩) n n ∧ w.heap.size ≤ b ∧ Ext w w' ∧ Own TNote.enc w' (some ⟨b, 0, none⟩) n 34 xs) := by
  have hn := h.len
  refine Does.of_vc tabok Tryd.func34 rfl rfl rfl (by kernel_rfl) ?_; conv => whnf
  refine SemK.make mk_48 n rfl (by omega) (by omega) ?_
  intro b w1 g1 l1 e1 hB
  conv => whnf
  refine LoopK.rule [0, 3, 4] (fun (k : Nat) vs w' => vs = [.slice a n c, .slice (some ⟨b, 0, none⟩) n n, .int .i64 k] ∧ k ≤ n ∧ Ext w w' ∧ Blk w' b (flat TNote.enc (xs.take k) ++ flat (fun _ : Unit => [.int .i64 0, .int .i64 0, .int .i64 0, .string { data := #[] }]) (List.replicate (n - k) ())) 34) (fun k => n - k) tab tabok (by kernel_rfl) 0
    ⟨rfl, by omega, e1, by simpa [flat] using hB⟩ ?_
  rintro k g _ w' ⟨rfl, hk, hE, hO⟩
  conv => whnf
  with_reducible refine IfB.dec (fun h4 => ?_) (fun h4 => ?_)
  · obtain ⟨x, hx⟩ : ∃ x, xs[k]? = some x := get_of_lt (by omega)
    conv => whnf
    refine SemK.index (by kernel_rfl) (h.ext hE) k rfl hx ?_
    intro b' o _ hb
    conv => whnf
    refine SemK.loadAgg (by kernel_rfl) (n := 4) hb rfl ?_
    conv => whnf
    refine (laws_toNote x w').mono ?_
    rintro _ w2 ⟨rfl, e2⟩
    conv => whnf
    refine SemK.indexOwn (sz := 4) (by kernel_rfl) k rfl (by omega) ?_
    conv => whnf
    have hlen : (xs.take k).length = k := by simp; omega
    obtain ⟨j, hj⟩ : ∃ j, n - k = j + 1 := ⟨n - k - 1, by omega⟩
    have hset := flat_set TNote.enc_len (xs.take k) [.int .i64 0, .int .i64 0, .int .i64 0, .string { data := #[] }] x.enc rfl x rfl j
    simp only [hlen] at hset
    rw [hj] at hO
    have hz := flat_length (enc := fun _ : Unit => [.int .i64 0, .int .i64 0, .int .i64 0, .string { data := #[] }]) (sz := 4) (fun _ => rfl) (List.replicate (j + 1) ())
    rw [List.length_replicate] at hz
    refine SemK.storeAgg (by kernel_rfl) (n := 4) (hO.ext e2) (vs := x.enc) rfl (k := 0 + k * 4) (by
      simp only [List.length_append, flat_length TNote.enc_len, hz, hlen]; omega) (by simp [TNote.enc, cellish]) ?_
    intro w3 c3 B3
    rw [Nat.zero_add, hset] at B3
    conv => whnf
    refine SemK.add (((k + 1 : Nat) : Int)) (by omega) (by omega) (by omega) ?_
    conv => whnf
    refine ⟨k + 1, by omega, rfl, by omega, (Ext.trans hE e2).but_trans c3.but (by omega), ?_⟩
    have e : xs.take (k + 1) = xs.take k ++ [x] := by rw [List.take_add_one, hx]; rfl
    have e' : n - (k + 1) = j := by omega
    rw [e, e']
    exact B3
  · conv => whnf
    have hkn : k = n := by omega
    subst hkn
    refine ⟨b, rfl, g1, hE, hn, by omega, .inr ⟨b, [], rfl, ?_⟩⟩
    rw [List.take_of_length_le (by omega)] at hO
    simpa [flat] using hO
theorem laws_eqNoteS {w : World} {a a' : Option Addr} {n n' c c' : Nat} {xs ys : List TNote} (h : Arr TNote.enc 4 w a n xs) (h' : Arr TNote.enc 4 w a' n' ys) :
    Does Tryd.prog 36 [.slice a n c, .slice a' n' c'] w (fun v w' => v = .bool (decide (xs = ys)) ∧ Ext w w') := by
  have hn := h.len
  have hn' := h'.len
  have hm := h.le
  refine Does.of_vc tabok Tryd.func36 rfl rfl rfl (by kernel_rfl) ?_; conv => whnf
  with_reducible refine IfB.ndec (fun h1 => ?_) (fun h1 => ?_)
  · conv => whnf
    refine ⟨?_, Ext.refl _⟩
    have : ¬ xs = ys := fun e => by subst e; omega
    rw [decide_eq_false this]
  · conv => whnf
    refine LoopK.rule [0, 1, 5] (fun (k : Nat) vs w' => vs = [.slice a n c, .slice a' n' c', .int .i64 k] ∧ k ≤ n ∧ xs.take k = ys.take k ∧ Ext w w') (fun k => n - k) tab tabok (by kernel_rfl) 0 ⟨rfl, by omega, by simp, Ext.refl _⟩ ?_
    rintro k g _ w' ⟨rfl, hk, hall, hE⟩
    conv => whnf
    with_reducible refine IfB.dec (fun h4 => ?_) (fun h4 => ?_)
    · obtain ⟨x, hx⟩ : ∃ x, xs[k]? = some x := get_of_lt (by omega)
      obtain ⟨y, hy⟩ : ∃ y, ys[k]? = some y := get_of_lt (by omega)
      conv => whnf
      refine DrawK.det tabok mixed (by kernel_rfl) (by kernel_rfl) ?_
      conv => whnf
      refine DSemK.index (by kernel_rfl) (h.ext hE) k rfl hx ?_
      intro b o _ hb
      conv => whnf
      refine DSemK.loadAgg (by kernel_rfl) (n := 4) hb rfl ?_
      conv => whnf
      refine DSemK.index (by kernel_rfl) (h'.ext hE) k rfl hy ?_
      intro b' o' _ hb'
      conv => whnf
      refine DSemK.loadAgg (by kernel_rfl) (n := 4) hb' rfl ?_
      conv => whnf
      refine DDoes.of (fun w2 _ => laws_eqNote x y w2) ?_
      conv => whnf
      intro w2 e2
      conv => whnf
      with_reducible refine IfB.ndec (fun h5 => ?_) (fun h5 => ?_)
      · conv => whnf
        exact ⟨by rw [decide_eq_false (ne_of_get hx hy h5)], Ext.trans hE e2⟩
      · conv => whnf
        refine SemK.add (k + 1) rfl (by omega) (by omega) ?_
        conv => whnf
        exact ⟨k + 1, by omega, rfl, by omega, take_eq_snoc hall hx hy h5, Ext.trans hE e2⟩
    · conv => whnf
      refine ⟨?_, hE⟩
      rw [decide_eq_true (eq_of_take hall (by omega) (by omega))]
theorem laws_markNoteS {w : World} {a : Option Addr} {n c t k0 : Nat} {xs : List TNote} (h : Own TNote.enc w a n t xs) (hk0 : k0 + 4 * n ≤ 1000000000) :
    Does Tryd.prog 70 [.slice a n c, .int .i64 k0] w (fun v w' => v = .int .i64 ((k0 + 4 * n : Nat) : Int) ∧ Mod (blkIn a) w w' ∧ Own TNote.enc w' a n t (TNote.marks k0 n)) := by
  obtain ⟨hn, hm, h3⟩ := h
  refine Does.of_vc tabok Tryd.func70 rfl rfl rfl (by kernel_rfl) ?_; conv => whnf
  refine LoopK.rule [0, 1, 5] (fun (k : Nat) vs w' => vs = [.slice a n c, .int .i64 ((k0 + 4 * k : Nat) : Int), .int .i64 k] ∧ k ≤ n ∧ Mod (blkIn a) w w' ∧
    ((a = none ∧ n = 0) ∨ ∃ b rest, a = some ⟨b, 0, none⟩ ∧ Blk w' b (flat TNote.enc (TNote.marks k0 k ++ xs.drop k) ++ rest) t)) (fun k => n - k) tab tabok (by kernel_rfl) 0 ⟨rfl, by omega, Mod.refl _ _, ?_⟩ ?_
  · rcases h3 with h3 | ⟨b, rest, ha, hb⟩
    · exact .inl h3
    · exact .inr ⟨b, rest, ha, by simpa [TNote.marks] using hb⟩
  rintro k g _ w0 ⟨rfl, hk, M0, hO⟩
  conv => whnf
  with_reducible refine IfB.dec (fun h4 => ?_) (fun h4 => ?_)
  · obtain ⟨b, rest, rfl, B0⟩ : ∃ b rest, a = some ⟨b, 0, none⟩ ∧ Blk w0 b (flat TNote.enc (TNote.marks k0 k ++ xs.drop k) ++ rest) t := by
      rcases hO with ⟨_, hO⟩ | hO
      · omega
      · exact hO
    obtain ⟨x, hx⟩ : ∃ x, xs[k]? = some x := get_of_lt (by omega)
    have hlen : (TNote.marks k0 k).length = k := TNote.marks_length _ _
    have hxl : (xs.drop (k + 1)).length + k + 1 = n := by simp; omega
    rw [drop_cons hx] at B0
    have hsz : ∀ (y : TNote), (flat TNote.enc (TNote.marks k0 k ++ y :: xs.drop (k + 1)) ++ rest).length = n * 4 + rest.length := fun y => by
      simp only [List.length_append, flat_length TNote.enc_len, List.length_cons, hlen]; omega
    have hupd : ∀ (y y' : TNote) (j : Nat) (v : Value), j < 4 → y.enc.set j v = y'.enc → (flat TNote.enc (TNote.marks k0 k ++ y :: xs.drop (k + 1)) ++ rest).set (0 + k * 4 + j) v = flat TNote.enc (TNote.marks k0 k ++ y' :: xs.drop (k + 1)) ++ rest := fun y y' j v hj hy => by
      have := flat_update TNote.enc_len (TNote.marks k0 k) (xs.drop (k + 1)) y y' rest j v hj hy
      rw [hlen] at this
      rw [Nat.zero_add]; exact this
    have hkS : ∀ i, i = b → blkIn (some ⟨b, 0, none⟩) i := fun i hi => ⟨_, rfl, hi⟩
    conv => whnf
    refine SemK.indexOwn (sz := 4) (by kernel_rfl) k rfl (by omega) ?_
    conv => whnf
    refine SemK.store1 (by kernel_rfl) B0 (k := 0 + k * 4 + 0) (by rw [hsz]; omega) rfl ?_
    intro w1 c1 C1
    have B1 : Blk w1 b (flat TNote.enc (TNote.marks k0 k ++ (⟨((k0 + 4 * k + 0 : Nat) : Int), x.count, x.sum, x.what⟩ : TNote) :: xs.drop (k + 1)) ++ rest) t := by rw [← hupd x (⟨((k0 + 4 * k + 0 : Nat) : Int), x.count, x.sum, x.what⟩ : TNote) 0 _ (by omega) rfl]; exact C1
    have M1 := M0.trans (c1.but.mono hkS)
    conv => whnf
    refine SemK.add (((k0 + 4 * k + 1 : Nat) : Int)) (by omega) (by omega) (by omega) ?_
    conv => whnf
    refine SemK.indexOwn (sz := 4) (by kernel_rfl) k rfl (by omega) ?_
    conv => whnf
    refine SemK.store1 (by kernel_rfl) B1 (k := 0 + k * 4 + 1) (by rw [hsz]; omega) rfl ?_
    intro w2 c2 C2
    have B2 : Blk w2 b (flat TNote.enc (TNote.marks k0 k ++ (⟨((k0 + 4 * k + 0 : Nat) : Int), ((k0 + 4 * k + 1 : Nat) : Int), x.sum, x.what⟩ : TNote) :: xs.drop (k + 1)) ++ rest) t := by rw [← hupd (⟨((k0 + 4 * k + 0 : Nat) : Int), x.count, x.sum, x.what⟩ : TNote) (⟨((k0 + 4 * k + 0 : Nat) : Int), ((k0 + 4 * k + 1 : Nat) : Int), x.sum, x.what⟩ : TNote) 1 _ (by omega) rfl]; exact C2
    have M2 := M1.trans (c2.but.mono hkS)
    conv => whnf
    refine SemK.add (((k0 + 4 * k + 2 : Nat) : Int)) (by omega) (by omega) (by omega) ?_
    conv => whnf
    refine SemK.indexOwn (sz := 4) (by kernel_rfl) k rfl (by omega) ?_
    conv => whnf
    refine SemK.store1 (by kernel_rfl) B2 (k := 0 + k * 4 + 2) (by rw [hsz]; omega) rfl ?_
    intro w3 c3 C3
    have B3 : Blk w3 b (flat TNote.enc (TNote.marks k0 k ++ (⟨((k0 + 4 * k + 0 : Nat) : Int), ((k0 + 4 * k + 1 : Nat) : Int), ((k0 + 4 * k + 2 : Nat) : Int), x.what⟩ : TNote) :: xs.drop (k + 1)) ++ rest) t := by rw [← hupd (⟨((k0 + 4 * k + 0 : Nat) : Int), ((k0 + 4 * k + 1 : Nat) : Int), x.sum, x.what⟩ : TNote) (⟨((k0 + 4 * k + 0 : Nat) : Int), ((k0 + 4 * k + 1 : Nat) : Int), ((k0 + 4 * k + 2 : Nat) : Int), x.what⟩ : TNote) 2 _ (by omega) rfl]; exact C3
    have M3 := M2.trans (c3.but.mono hkS)
    conv => whnf
    refine SemK.add (((k0 + 4 * k + 3 : Nat) : Int)) (by omega) (by omega) (by omega) ?_
    conv => whnf
    refine (laws_markText (k0 + 4 * k + 3) (by omega) w3).mono ?_
    rintro _ w4 ⟨rfl, e4⟩
    have B4 := B3.ext e4
    have M4 := M3.trans (Ext.mod e4)
    conv => whnf
    refine SemK.indexOwn (sz := 4) (by kernel_rfl) k rfl (by omega) ?_
    conv => whnf
    refine SemK.store1 (by kernel_rfl) B4 (k := 0 + k * 4 + 3) (by rw [hsz]; omega) rfl ?_
    intro w5 c5 C5
    have B5 : Blk w5 b (flat TNote.enc (TNote.marks k0 k ++ (⟨((k0 + 4 * k + 0 : Nat) : Int), ((k0 + 4 * k + 1 : Nat) : Int), ((k0 + 4 * k + 2 : Nat) : Int), markB (k0 + 4 * k + 3)⟩ : TNote) :: xs.drop (k + 1)) ++ rest) t := by rw [← hupd (⟨((k0 + 4 * k + 0 : Nat) : Int), ((k0 + 4 * k + 1 : Nat) : Int), ((k0 + 4 * k + 2 : Nat) : Int), x.what⟩ : TNote) (⟨((k0 + 4 * k + 0 : Nat) : Int), ((k0 + 4 * k + 1 : Nat) : Int), ((k0 + 4 * k + 2 : Nat) : Int), markB (k0 + 4 * k + 3)⟩ : TNote) 3 _ (by omega) rfl]; exact C5
    have M5 := M4.trans (c5.but.mono hkS)
    conv => whnf
    refine SemK.add (((k0 + 4 * k + 4 : Nat) : Int)) (by omega) (by omega) (by omega) ?_
    conv => whnf
    refine SemK.add (((k + 1 : Nat) : Int)) (by omega) (by omega) (by omega) ?_
    conv => whnf
    refine ⟨k + 1, by omega, rfl, by omega, M5, .inr ⟨b, rest, rfl, ?_⟩⟩
    rw [TNote.marks_succ, List.append_assoc]
    exact B5
  · conv => whnf
    have : k = n := by omega
    subst this
    refine ⟨rfl, M0, TNote.marks_length _ _, hm, ?_⟩
    rcases hO with hO | ⟨b, rest, ha, hb⟩
    · exact .inl hO
    · refine .inr ⟨b, rest, ha, ?_⟩
      rw [List.drop_eq_nil_of_le (by omega)] at hb
      simpa using hb
theorem laws_heldNoteS {w : World} {a : Option Addr} {n c k0 : Nat} (h : Arr TNote.enc 4 w a n (TNote.marks k0 n)) (hk0 : k0 + 4 * n ≤ 1000000000) :
    Does Tryd.prog 71 [.slice a n c, .int .i64 k0] w (fun v w' => v = .int .i64 ((k0 + 4 * n : Nat) : Int) ∧ Ext w w') := by
  have hm := h.le
  refine Does.of_vc tabok Tryd.func71 rfl rfl rfl (by kernel_rfl) ?_; conv => whnf
  refine LoopK.rule [0, 1, 5] (fun (k : Nat) vs w' => vs = [.slice a n c, .int .i64 ((k0 + 4 * k : Nat) : Int), .int .i64 k] ∧ k ≤ n ∧ Ext w w') (fun k => n - k) tab tabok (by kernel_rfl) 0 ⟨rfl, by omega, Ext.refl _⟩ ?_
  rintro k g _ w0 ⟨rfl, hk, E0⟩
  conv => whnf
  with_reducible refine IfB.dec (fun h4 => ?_) (fun h4 => ?_)
  · have hx := TNote.marks_get (k := k0) (show k < n by omega)
    conv => whnf
    refine SemK.index (by kernel_rfl) (h.ext E0) k rfl hx ?_
    intro b o _ hb
    conv => whnf
    refine SemK.load1 (by kernel_rfl) hb (k := 0) rfl ?_
    conv => whnf
    refine IfB.eqf (by simp [TNote.mark]) ?_
    conv => whnf
    refine SemK.add (((k0 + 4 * k + 1 : Nat) : Int)) (by omega) (by omega) (by omega) ?_
    conv => whnf
    refine SemK.index (by kernel_rfl) (h.ext E0) k rfl hx ?_
    intro b o _ hb
    conv => whnf
    refine SemK.load1 (by kernel_rfl) hb (k := 1) rfl ?_
    conv => whnf
    refine IfB.eqf (by simp [TNote.mark]) ?_
    conv => whnf
    refine SemK.add (((k0 + 4 * k + 2 : Nat) : Int)) (by omega) (by omega) (by omega) ?_
    conv => whnf
    refine SemK.index (by kernel_rfl) (h.ext E0) k rfl hx ?_
    intro b o _ hb
    conv => whnf
    refine SemK.load1 (by kernel_rfl) hb (k := 2) rfl ?_
    conv => whnf
    refine IfB.eqf (by simp [TNote.mark]) ?_
    conv => whnf
    refine SemK.add (((k0 + 4 * k + 3 : Nat) : Int)) (by omega) (by omega) (by omega) ?_
    conv => whnf
    refine DrawK.det tabok mixed (by kernel_rfl) (by kernel_rfl) ?_
    conv => whnf
    refine DSemK.index (by kernel_rfl) (h.ext E0) k rfl hx ?_
    intro b o _ hb
    conv => whnf
    refine DSemK.load1 (by kernel_rfl) hb (k := 3) rfl ?_
    conv => whnf
    refine DDoes.of (fun w2 _ => laws_markText (k0 + 4 * k + 3) (by omega) w2) ?_
    conv => whnf
    intro w1 e1
    have E1 := Ext.trans E0 e1
    conv => whnf
    refine IfB.eqf (by simp [TNote.mark]) ?_
    conv => whnf
    refine SemK.add (((k0 + 4 * k + 4 : Nat) : Int)) (by omega) (by omega) (by omega) ?_
    conv => whnf
    refine SemK.add (((k + 1 : Nat) : Int)) (by omega) (by omega) (by omega) ?_
    conv => whnf
    exact ⟨k + 1, by omega, rfl, by omega, E1⟩
  · conv => whnf
    have : k = n := by omega
    subst this
    exact ⟨rfl, E0⟩
end Go.Proofs.YtilagemeigeceaaDoor
