/- Contracts of functions of the given program, of the reference and of the laws: each says what a call returns, for all arguments that meet the premises that the theorem itself names. -/
import Derived.Test.YtmhnmdcleeadiaaStrs
import Derived.Test.YtmhnmdcleeadiaaVcFlat
namespace Go.M
open Go Go.Vc
structure TTotal where
  name : ByteArray
  sum : Int
theorem TTotal.ext_iff2 {a b : TTotal} : a = b ↔ a.name = b.name ∧ a.sum = b.sum := by
  constructor
  · intro h; subst h; simp
  · intro h; cases a; cases b; simp at h; simp [h]
instance : DecidableEq TTotal := fun a b => decidable_of_iff (a.name = b.name ∧ a.sum = b.sum) TTotal.ext_iff2.symm
instance : Inhabited TTotal := ⟨⟨.empty, 0⟩⟩
def TTotal.enc (x : TTotal) : List Value := [.string x.name, .int .i64 x.sum]
theorem TTotal.enc_len (x : TTotal) : x.enc.length = 2 := rfl
def TTotal.ok (x : TTotal) : Prop := strok x.name ∧ i64ok x.sum
def TTotal.wt (x : TTotal) : Nat := x.name.size
theorem TTotal.flat {x : TTotal} (h : x.ok) : Flat [true, false] x.enc := by
  obtain ⟨h0, h1⟩ := h
  exact ⟨_, _, rfl, h0, ⟨_, _, rfl, h1, rfl⟩⟩
theorem TTotal.of_flat {cs : List Value} (h : Flat [true, false] cs) : ∃ x : TTotal, cs = x.enc ∧ x.ok := by
  obtain ⟨v0, _, rfl, h0, ⟨v1, _, rfl, h1, rfl⟩⟩ := h
  exact ⟨⟨v0, v1⟩, rfl, h0, h1⟩
theorem TTotal.eq_flat (x y : TTotal) : flatEq x.enc y.enc = decide (x = y) := by
  rw [Bool.eq_iff_iff, decide_eq_true_eq, TTotal.ext_iff2]
  simp [TTotal.enc, flatEq]
def TTotal.wsum (xs : List TTotal) : Nat := (xs.map TTotal.wt).sum
theorem TTotal.wsum_snoc {xs : List TTotal} {k : Nat} {x : TTotal} (h : xs[k]? = some x) : TTotal.wsum (xs.take (k + 1)) = TTotal.wsum (xs.take k) + x.wt := by
  simp [TTotal.wsum, List.take_add_one, h]
def TTotal.mark (k : Nat) : TTotal := ⟨markB (k + 0), ((k + 1 : Nat) : Int)⟩
def TTotal.marks (k n : Nat) : List TTotal := (List.range n).map fun i => TTotal.mark (k + 2 * i)
theorem TTotal.marks_length (k n : Nat) : (TTotal.marks k n).length = n := by simp [TTotal.marks]
theorem TTotal.marks_get {k n i : Nat} (h : i < n) : (TTotal.marks k n)[i]? = some (TTotal.mark (k + 2 * i)) := by simp [TTotal.marks, h]
theorem TTotal.marks_succ (k n : Nat) : TTotal.marks k (n + 1) = TTotal.marks k n ++ [TTotal.mark (k + 2 * n)] := by simp [TTotal.marks, List.range_succ]
end Go.M
namespace Go.Proofs.Ytmhnmdcleeadiaa
open Go Go.RowKit Go.Vc Go.M
theorem laws_eqTotal (x y : TTotal) (w : World) : Does Try.prog 68 [.agg ⟨x.enc⟩, .agg ⟨y.enc⟩] w (fun v w' => v = .bool (decide (x = y)) ∧ Ext w w') := by
  refine Does.of_vc tabok Try.func68 rfl rfl rfl (by kernel_rfl) ?_; conv => whnf
  refine SemK.box ?_
  intro b w1 _ _ e1 hB
  conv => whnf
  refine SemK.box ?_
  intro b' w2 _ _ e2 hB'
  conv => whnf
  have hc : Cells w2 b 0 x.enc := (hB.ext e2).cells
  have hc' : Cells w2 b' 0 y.enc := hB'.cells
  have E := Ext.trans e1 e2
  refine SemK.load1 (by kernel_rfl) hc (k := 0) rfl ?_
  conv => whnf
  refine SemK.load1 (by kernel_rfl) hc' (k := 0) rfl ?_
  conv => whnf
  with_reducible refine IfB.ndec (fun p0 => ?_) (fun p0 => ?_)
  · conv => whnf
    exact ⟨by rw [decide_eq_false (fun e => p0 (by rw [e]))], E⟩
  conv => whnf
  refine SemK.load1 (by kernel_rfl) hc (k := 1) rfl ?_
  conv => whnf
  refine SemK.load1 (by kernel_rfl) hc' (k := 1) rfl ?_
  conv => whnf
  with_reducible refine IfB.ndec (fun p1 => ?_) (fun p1 => ?_)
  · conv => whnf
    exact ⟨by rw [decide_eq_false (fun e => p1 (by rw [e]))], E⟩
  conv => whnf
  exact ⟨by rw [decide_eq_true (TTotal.ext_iff2.2 ⟨p0, p1⟩)], E⟩
theorem laws_eqTotalS {w : World} {a a' : Option Addr} {n n' c c' : Nat} {xs ys : List TTotal} (h : Arr TTotal.enc 2 w a n xs) (h' : Arr TTotal.enc 2 w a' n' ys) :
    Does Try.prog 33 [.slice a n c, .slice a' n' c'] w (fun v w' => v = .bool (decide (xs = ys)) ∧ Ext w w') := by
  have hn := h.len
  have hn' := h'.len
  have hm := h.le
  refine Does.of_vc tabok Try.func33 rfl rfl rfl (by kernel_rfl) ?_; conv => whnf
  with_reducible refine IfB.ndec (fun h1 => ?_) (fun h1 => ?_)
  · conv => whnf
    refine ⟨?_, Ext.refl _⟩
    have : ¬ xs = ys := fun e => by subst e; omega
    rw [decide_eq_false this]
  · conv => whnf
    refine LoopK.rule [0, 1, 5] (fun (k : Nat) vs w' => vs = [.slice a n c, .slice a' n' c', .int .i64 k] ∧ k ≤ n ∧ xs.take k = ys.take k ∧ Ext w w') (fun k => n - k) tab tabok (by kernel_rfl) 0 ⟨rfl, by omega, by simp, Ext.refl _⟩ ?_
    rintro k g _ w' ⟨rfl, hk, hall, hE⟩
    conv => whnf
    with_reducible refine IfB.dec (fun h4 => ?_) (fun h4 => ?_)
    · obtain ⟨x, hx⟩ : ∃ x, xs[k]? = some x := get_of_lt (by omega)
      obtain ⟨y, hy⟩ : ∃ y, ys[k]? = some y := get_of_lt (by omega)
      conv => whnf
      refine DrawK.det tabok mixed (by kernel_rfl) (by kernel_rfl) ?_
      conv => whnf
      refine DSemK.index (by kernel_rfl) (h.ext hE) k rfl hx ?_
      intro b o _ hb
      conv => whnf
      refine DSemK.loadAgg (by kernel_rfl) (n := 2) hb rfl ?_
      conv => whnf
      refine DSemK.index (by kernel_rfl) (h'.ext hE) k rfl hy ?_
      intro b' o' _ hb'
      conv => whnf
      refine DSemK.loadAgg (by kernel_rfl) (n := 2) hb' rfl ?_
      conv => whnf
      refine DDoes.of (fun w2 _ => laws_eqTotal x y w2) ?_
      conv => whnf
      intro w2 e2
      conv => whnf
      with_reducible refine IfB.ndec (fun h5 => ?_) (fun h5 => ?_)
      · conv => whnf
        exact ⟨by rw [decide_eq_false (ne_of_get hx hy h5)], Ext.trans hE e2⟩
      · conv => whnf
        refine SemK.add (k + 1) rfl (by omega) (by omega) ?_
        conv => whnf
        exact ⟨k + 1, by omega, rfl, by omega, take_eq_snoc hall hx hy h5, Ext.trans hE e2⟩
    · conv => whnf
      refine ⟨?_, hE⟩
      rw [decide_eq_true (eq_of_take hall (by omega) (by omega))]
theorem laws_markTotalS {w : World} {a : Option Addr} {n c t k0 : Nat} {xs : List TTotal} (h : Own TTotal.enc w a n t xs) (hk0 : k0 + 2 * n ≤ 1000000000) :
    Does Try.prog 34 [.slice a n c, .int .i64 k0] w (fun v w' => v = .int .i64 ((k0 + 2 * n : Nat) : Int) ∧ Mod (blkIn a) w w' ∧ Own TTotal.enc w' a n t (TTotal.marks k0 n)) := by
  obtain ⟨hn, hm, h3⟩ := h
  refine Does.of_vc tabok Try.func34 rfl rfl rfl (by kernel_rfl) ?_; conv => whnf
  refine LoopK.rule [0, 1, 5] (fun (k : Nat) vs w' => vs = [.slice a n c, .int .i64 ((k0 + 2 * k : Nat) : Int), .int .i64 k] ∧ k ≤ n ∧ Mod (blkIn a) w w' ∧
    ((a = none ∧ n = 0) ∨ ∃ b rest, a = some ⟨b, 0, none⟩ ∧ Blk w' b (flat TTotal.enc (TTotal.marks k0 k ++ xs.drop k) ++ rest) t)) (fun k => n - k) tab tabok (by kernel_rfl) 0 ⟨rfl, by omega, Mod.refl _ _, ?_⟩ ?_
  · rcases h3 with h3 | ⟨b, rest, ha, hb⟩
    · exact .inl h3
    · exact .inr ⟨b, rest, ha, by simpa [TTotal.marks] using hb⟩
  rintro k g _ w0 ⟨rfl, hk, M0, hO⟩
  conv => whnf
  with_reducible refine IfB.dec (fun h4 => ?_) (fun h4 => ?_)
  · obtain ⟨b, rest, rfl, B0⟩ : ∃ b rest, a = some ⟨b, 0, none⟩ ∧ Blk w0 b (flat TTotal.enc (TTotal.marks k0 k ++ xs.drop k) ++ rest) t := by
      rcases hO with ⟨_, hO⟩ | hO
      · omega
      · exact hO
    obtain ⟨x, hx⟩ : ∃ x, xs[k]? = some x := get_of_lt (by omega)
    have hlen : (TTotal.marks k0 k).length = k := TTotal.marks_length _ _
    have hxl : (xs.drop (k + 1)).length + k + 1 = n := by simp; omega
    rw [drop_cons hx] at B0
    have hsz : ∀ (y : TTotal), (flat TTotal.enc (TTotal.marks k0 k ++ y :: xs.drop (k + 1)) ++ rest).length = n * 2 + rest.length := fun y => by
      simp only [List.length_append, flat_length TTotal.enc_len, List.length_cons, hlen]; omega
    have hupd : ∀ (y y' : TTotal) (j : Nat) (v : Value), j < 2 → y.enc.set j v = y'.enc → (flat TTotal.enc (TTotal.marks k0 k ++ y :: xs.drop (k + 1)) ++ rest).set (0 + k * 2 + j) v = flat TTotal.enc (TTotal.marks k0 k ++ y' :: xs.drop (k + 1)) ++ rest := fun y y' j v hj hy => by
      have := flat_update TTotal.enc_len (TTotal.marks k0 k) (xs.drop (k + 1)) y y' rest j v hj hy
      rw [hlen] at this
      rw [Nat.zero_add]; exact this
    have hkS : ∀ i, i = b → blkIn (some ⟨b, 0, none⟩) i := fun i hi => ⟨_, rfl, hi⟩
    conv => whnf
    refine (laws_markText (k0 + 2 * k + 0) (by omega) w0).mono ?_
    rintro _ w1 ⟨rfl, e1⟩
    have B1 := B0.ext e1
    have M1 := M0.trans (Ext.mod e1)
    conv => whnf
    refine SemK.indexOwn (sz := 2) (by kernel_rfl) k rfl (by omega) ?_
    conv => whnf
    refine SemK.store1 (by kernel_rfl) B1 (k := 0 + k * 2 + 0) (by rw [hsz]; omega) rfl ?_
    intro w2 c2 C2
    have B2 : Blk w2 b (flat TTotal.enc (TTotal.marks k0 k ++ (⟨markB (k0 + 2 * k + 0), x.sum⟩ : TTotal) :: xs.drop (k + 1)) ++ rest) t := by rw [← hupd x (⟨markB (k0 + 2 * k + 0), x.sum⟩ : TTotal) 0 _ (by omega) rfl]; exact C2
    have M2 := M1.trans (c2.but.mono hkS)
    conv => whnf
    refine SemK.add (((k0 + 2 * k + 1 : Nat) : Int)) (by omega) (by omega) (by omega) ?_
    conv => whnf
    refine SemK.indexOwn (sz := 2) (by kernel_rfl) k rfl (by omega) ?_
    conv => whnf
    refine SemK.store1 (by kernel_rfl) B2 (k := 0 + k * 2 + 1) (by rw [hsz]; omega) rfl ?_
    intro w3 c3 C3
    have B3 : Blk w3 b (flat TTotal.enc (TTotal.marks k0 k ++ (⟨markB (k0 + 2 * k + 0), ((k0 + 2 * k + 1 : Nat) : Int)⟩ : TTotal) :: xs.drop (k + 1)) ++ rest) t := by rw [← hupd (⟨markB (k0 + 2 * k + 0), x.sum⟩ : TTotal) (⟨markB (k0 + 2 * k + 0), ((k0 + 2 * k + 1 : Nat) : Int)⟩ : TTotal) 1 _ (by omega) rfl]; exact C3
    have M3 := M2.trans (c3.but.mono hkS)
    conv => whnf
    refine SemK.add (((k0 + 2 * k + 2 : Nat) : Int)) (by omega) (by omega) (by omega) ?_
    conv => whnf
    refine SemK.add (((k + 1 : Nat) : Int)) (by omega) (by omega) (by omega) ?_
    conv => whnf
    refine ⟨k + 1, by omega, rfl, by omega, M3, .inr ⟨b, rest, rfl, ?_⟩⟩
    rw [TTotal.marks_succ, List.append_assoc]
    exact B3
  · conv => whnf
    have : k = n := by omega
    subst this
    refine ⟨rfl, M0, TTotal.marks_length _ _, hm, ?_⟩
    rcases hO with hO | ⟨b, rest, ha, hb⟩
    · exact .inl hO
    · refine .inr ⟨b, rest, ha, ?_⟩
      rw [List.drop_eq_nil_of_le (by omega)] at hb
      simpa using hb
theorem laws_heldTotalS {w : World} {a : Option Addr} {n c k0 : Nat} (h : Arr TTotal.enc 2 w a n (TTotal.marks k0 n)) (hk0 : k0 + 2 * n ≤ 1000000000) :
    Does Try.prog 35 [.slice a n c, .int .i64 k0] w (fun v w' => v = .int .i64 ((k0 + 2 * n : Nat) : Int) ∧ Ext w w') := by
  have hm := h.le
  refine Does.of_vc tabok Try.func35 rfl rfl rfl (by kernel_rfl) ?_; conv => whnf
  refine LoopK.rule [0, 1, 5] (fun (k : Nat) vs w' => vs = [.slice a n c, .int .i64 ((k0 + 2 * k : Nat) : Int), .int .i64 k] ∧ k ≤ n ∧ Ext w w') (fun k => n - k) tab tabok (by kernel_rfl) 0 ⟨rfl, by omega, Ext.refl _⟩ ?_
  rintro k g _ w0 ⟨rfl, hk, E0⟩
  conv => whnf
  with_reducible refine IfB.dec (fun h4 => ?_) (fun h4 => ?_)
  · have hx := TTotal.marks_get (k := k0) (show k < n by omega)
    conv => whnf
    refine DrawK.det tabok mixed (by kernel_rfl) (by kernel_rfl) ?_
    conv => whnf
    refine DSemK.index (by kernel_rfl) (h.ext E0) k rfl hx ?_
    intro b o _ hb
    conv => whnf
    refine DSemK.load1 (by kernel_rfl) hb (k := 0) rfl ?_
    conv => whnf
    refine DDoes.of (fun w2 _ => laws_markText (k0 + 2 * k + 0) (by omega) w2) ?_
    conv => whnf
    intro w1 e1
    have E1 := Ext.trans E0 e1
    conv => whnf
    refine IfB.eqf (by simp [TTotal.mark]) ?_
    conv => whnf
    refine SemK.add (((k0 + 2 * k + 1 : Nat) : Int)) (by omega) (by omega) (by omega) ?_
    conv => whnf
    refine SemK.index (by kernel_rfl) (h.ext E1) k rfl hx ?_
    intro b o _ hb
    conv => whnf
    refine SemK.load1 (by kernel_rfl) hb (k := 1) rfl ?_
    conv => whnf
    refine IfB.eqf (by simp [TTotal.mark]) ?_
    conv => whnf
    refine SemK.add (((k0 + 2 * k + 2 : Nat) : Int)) (by omega) (by omega) (by omega) ?_
    conv => whnf
    refine SemK.add (((k + 1 : Nat) : Int)) (by omega) (by omega) (by omega) ?_
    conv => whnf
    exact ⟨k + 1, by omega, rfl, by omega, E1⟩
  · conv => whnf
    have : k = n := by omega
    subst this
    exact ⟨rfl, E0⟩
end Go.Proofs.Ytmhnmdcleeadiaa
