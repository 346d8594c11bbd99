/- Contracts of functions of the given program, of the reference and of the laws: each says what a call returns, for all arguments that meet the premises that the theorem itself names. -/
import Derived.Test.YtpjeooikjcdbpaaDoorStrs
import Derived.Test.YtpjeooikjcdbpaaDoorVcFlat
namespace Go.M
open Go Go.Vc
structure TPart where
  name : ByteArray
  count : Int
  least : Int
  price : Int
theorem TPart.ext_iff2 {a b : TPart} : a = b ↔ a.name = b.name ∧ a.count = b.count ∧ a.least = b.least ∧ a.price = b.price := by
  constructor
  · intro h; subst h; simp
  · intro h; cases a; cases b; simp at h; simp [h]
instance : DecidableEq TPart := fun a b => decidable_of_iff (a.name = b.name ∧ a.count = b.count ∧ a.least = b.least ∧ a.price = b.price) TPart.ext_iff2.symm
instance : Inhabited TPart := ⟨⟨.empty, 0, 0, 0⟩⟩
def TPart.enc (x : TPart) : List Value := [.string x.name, .int .i64 x.count, .int .i64 x.least, .int .i64 x.price]
theorem TPart.enc_len (x : TPart) : x.enc.length = 4 := rfl
def TPart.ok (x : TPart) : Prop := strok x.name ∧ i64ok x.count ∧ i64ok x.least ∧ i64ok x.price
def TPart.wt (x : TPart) : Nat := x.name.size
theorem TPart.flat {x : TPart} (h : x.ok) : Flat [true, false, false, false] x.enc := by
  obtain ⟨h0, h1, h2, h3⟩ := h
  exact ⟨_, _, rfl, h0, ⟨_, _, rfl, h1, ⟨_, _, rfl, h2, ⟨_, _, rfl, h3, rfl⟩⟩⟩⟩
theorem TPart.of_flat {cs : List Value} (h : Flat [true, false, false, false] cs) : ∃ x : TPart, cs = x.enc ∧ x.ok := by
  obtain ⟨v0, _, rfl, h0, ⟨v1, _, rfl, h1, ⟨v2, _, rfl, h2, ⟨v3, _, rfl, h3, rfl⟩⟩⟩⟩ := h
  exact ⟨⟨v0, v1, v2, v3⟩, rfl, h0, h1, h2, h3⟩
theorem TPart.eq_flat (x y : TPart) : flatEq x.enc y.enc = decide (x = y) := by
  rw [Bool.eq_iff_iff, decide_eq_true_eq, TPart.ext_iff2]
  simp [TPart.enc, flatEq]
def TPart.wsum (xs : List TPart) : Nat := (xs.map TPart.wt).sum
theorem TPart.wsum_snoc {xs : List TPart} {k : Nat} {x : TPart} (h : xs[k]? = some x) : TPart.wsum (xs.take (k + 1)) = TPart.wsum (xs.take k) + x.wt := by
  simp [TPart.wsum, List.take_add_one, h]
def TPart.mark (k : Nat) : TPart := ⟨markB (k + 0), ((k + 1 : Nat) : Int), ((k + 2 : Nat) : Int), ((k + 3 : Nat) : Int)⟩
def TPart.marks (k n : Nat) : List TPart := (List.range n).map fun i => TPart.mark (k + 4 * i)
theorem TPart.marks_length (k n : Nat) : (TPart.marks k n).length = n := by simp [TPart.marks]
theorem TPart.marks_get {k n i : Nat} (h : i < n) : (TPart.marks k n)[i]? = some (TPart.mark (k + 4 * i)) := by simp [TPart.marks, h]
theorem TPart.marks_succ (k n : Nat) : TPart.marks k (n + 1) = TPart.marks k n ++ [TPart.mark (k + 4 * n)] := by simp [TPart.marks, List.range_succ]
end Go.M
namespace Go.Proofs.YtpjeooikjcdbpaaDoor
open Go Go.RowKit Go.Vc Go.M
theorem laws_eqPart (x y : TPart) (w : World) : Does Tryd.prog 54 [.agg ⟨x.enc⟩, .agg ⟨y.enc⟩] w (fun v w' => v = .bool (decide (x = y)) ∧ Ext w w') := by
  refine Does.of_vc tabok Tryd.func54 rfl rfl rfl (by kernel_rfl) ?_; conv => whnf
  refine SemK.box ?_
  intro b w1 _ _ e1 hB
  conv => whnf
  refine SemK.box ?_
  intro b' w2 _ _ e2 hB'
  conv => whnf
  have hc : Cells w2 b 0 x.enc := (hB.ext e2).cells
  have hc' : Cells w2 b' 0 y.enc := hB'.cells
  have E := Ext.trans e1 e2
  refine SemK.load1 (by kernel_rfl) hc (k := 0) rfl ?_
  conv => whnf
  refine SemK.load1 (by kernel_rfl) hc' (k := 0) rfl ?_
  conv => whnf
  with_reducible refine IfB.ndec (fun p0 => ?_) (fun p0 => ?_)
  · conv => whnf
    exact ⟨by rw [decide_eq_false (fun e => p0 (by rw [e]))], E⟩
  conv => whnf
  refine SemK.load1 (by kernel_rfl) hc (k := 1) rfl ?_
  conv => whnf
  refine SemK.load1 (by kernel_rfl) hc' (k := 1) rfl ?_
  conv => whnf
  with_reducible refine IfB.ndec (fun p1 => ?_) (fun p1 => ?_)
  · conv => whnf
    exact ⟨by rw [decide_eq_false (fun e => p1 (by rw [e]))], E⟩
  conv => whnf
  refine SemK.load1 (by kernel_rfl) hc (k := 2) rfl ?_
  conv => whnf
  refine SemK.load1 (by kernel_rfl) hc' (k := 2) rfl ?_
  conv => whnf
  with_reducible refine IfB.ndec (fun p2 => ?_) (fun p2 => ?_)
  · conv => whnf
    exact ⟨by rw [decide_eq_false (fun e => p2 (by rw [e]))], E⟩
  conv => whnf
  refine SemK.load1 (by kernel_rfl) hc (k := 3) rfl ?_
  conv => whnf
  refine SemK.load1 (by kernel_rfl) hc' (k := 3) rfl ?_
  conv => whnf
  with_reducible refine IfB.ndec (fun p3 => ?_) (fun p3 => ?_)
  · conv => whnf
    exact ⟨by rw [decide_eq_false (fun e => p3 (by rw [e]))], E⟩
  conv => whnf
  exact ⟨by rw [decide_eq_true (TPart.ext_iff2.2 ⟨p0, p1, p2, p3⟩)], E⟩
theorem laws_eqPartS {w : World} {a a' : Option Addr} {n n' c c' : Nat} {xs ys : List TPart} (h : Arr TPart.enc 4 w a n xs) (h' : Arr TPart.enc 4 w a' n' ys) :
    Does Tryd.prog 23 [.slice a n c, .slice a' n' c'] w (fun v w' => v = .bool (decide (xs = ys)) ∧ Ext w w') := by
  have hn := h.len
  have hn' := h'.len
  have hm := h.le
  refine Does.of_vc tabok Tryd.func23 rfl rfl rfl (by kernel_rfl) ?_; conv => whnf
  with_reducible refine IfB.ndec (fun h1 => ?_) (fun h1 => ?_)
  · conv => whnf
    refine ⟨?_, Ext.refl _⟩
    have : ¬ xs = ys := fun e => by subst e; omega
    rw [decide_eq_false this]
  · conv => whnf
    refine LoopK.rule [0, 1, 5] (fun (k : Nat) vs w' => vs = [.slice a n c, .slice a' n' c', .int .i64 k] ∧ k ≤ n ∧ xs.take k = ys.take k ∧ Ext w w') (fun k => n - k) tab tabok (by kernel_rfl) 0 ⟨rfl, by omega, by simp, Ext.refl _⟩ ?_
    rintro k g _ w' ⟨rfl, hk, hall, hE⟩
    conv => whnf
    with_reducible refine IfB.dec (fun h4 => ?_) (fun h4 => ?_)
    · obtain ⟨x, hx⟩ : ∃ x, xs[k]? = some x := get_of_lt (by omega)
      obtain ⟨y, hy⟩ : ∃ y, ys[k]? = some y := get_of_lt (by omega)
      conv => whnf
      refine DrawK.det tabok mixed (by kernel_rfl) (by kernel_rfl) ?_
      conv => whnf
      refine DSemK.index (by kernel_rfl) (h.ext hE) k rfl hx ?_
      intro b o _ hb
      conv => whnf
      refine DSemK.loadAgg (by kernel_rfl) (n := 4) hb rfl ?_
      conv => whnf
      refine DSemK.index (by kernel_rfl) (h'.ext hE) k rfl hy ?_
      intro b' o' _ hb'
      conv => whnf
      refine DSemK.loadAgg (by kernel_rfl) (n := 4) hb' rfl ?_
      conv => whnf
      refine DDoes.of (fun w2 _ => laws_eqPart x y w2) ?_
      conv => whnf
      intro w2 e2
      conv => whnf
      with_reducible refine IfB.ndec (fun h5 => ?_) (fun h5 => ?_)
      · conv => whnf
        exact ⟨by rw [decide_eq_false (ne_of_get hx hy h5)], Ext.trans hE e2⟩
      · conv => whnf
        refine SemK.add (k + 1) rfl (by omega) (by omega) ?_
        conv => whnf
        exact ⟨k + 1, by omega, rfl, by omega, take_eq_snoc hall hx hy h5, Ext.trans hE e2⟩
    · conv => whnf
      refine ⟨?_, hE⟩
      rw [decide_eq_true (eq_of_take hall (by omega) (by omega))]
theorem laws_markPartS {w : World} {a : Option Addr} {n c t k0 : Nat} {xs : List TPart} (h : Own TPart.enc w a n t xs) (hk0 : k0 + 4 * n ≤ 1000000000) :
    Does Tryd.prog 24 [.slice a n c, .int .i64 k0] w (fun v w' => v = .int .i64 ((k0 + 4 * n : Nat) : Int) ∧ Mod (blkIn a) w w' ∧ Own TPart.enc w' a n t (TPart.marks k0 n)) := by
  obtain ⟨hn, hm, h3⟩ := h
  refine Does.of_vc tabok Tryd.func24 rfl rfl rfl (by kernel_rfl) ?_; conv => whnf
  refine LoopK.rule [0, 1, 5] (fun (k : Nat) vs w' => vs = [.slice a n c, .int .i64 ((k0 + 4 * k : Nat) : Int), .int .i64 k] ∧ k ≤ n ∧ Mod (blkIn a) w w' ∧
    ((a = none ∧ n = 0) ∨ ∃ b rest, a = some ⟨b, 0, none⟩ ∧ Blk w' b (flat TPart.enc (TPart.marks k0 k ++ xs.drop k) ++ rest) t)) (fun k => n - k) tab tabok (by kernel_rfl) 0 ⟨rfl, by omega, Mod.refl _ _, ?_⟩ ?_
  · rcases h3 with h3 | ⟨b, rest, ha, hb⟩
    · exact .inl h3
    · exact .inr ⟨b, rest, ha, by simpa [TPart.marks] using hb⟩
  rintro k g _ w0 ⟨rfl, hk, M0, hO⟩
  conv => whnf
  with_reducible refine IfB.dec (fun h4 => ?_) (fun h4 => ?_)
  · obtain ⟨b, rest, rfl, B0⟩ : ∃ b rest, a = some ⟨b, 0, none⟩ ∧ Blk w0 b (flat TPart.enc (TPart.marks k0 k ++ xs.drop k) ++ rest) t := by
      rcases hO with ⟨_, hO⟩ | hO
      · omega
      · exact hO
    obtain ⟨x, hx⟩ : ∃ x, xs[k]? = some x := get_of_lt (by omega)
    have hlen : (TPart.marks k0 k).length = k := TPart.marks_length _ _
    have hxl : (xs.drop (k + 1)).length + k + 1 = n := by simp; omega
    rw [drop_cons hx] at B0
    have hsz : ∀ (y : TPart), (flat TPart.enc (TPart.marks k0 k ++ y :: xs.drop (k + 1)) ++ rest).length = n * 4 + rest.length := fun y => by
      simp only [List.length_append, flat_length TPart.enc_len, List.length_cons, hlen]; omega
    have hupd : ∀ (y y' : TPart) (j : Nat) (v : Value), j < 4 → y.enc.set j v = y'.enc → (flat TPart.enc (TPart.marks k0 k ++ y :: xs.drop (k + 1)) ++ rest).set (0 + k * 4 + j) v = flat TPart.enc (TPart.marks k0 k ++ y' :: xs.drop (k + 1)) ++ rest := fun y y' j v hj hy => by
      have := flat_update TPart.enc_len (TPart.marks k0 k) (xs.drop (k + 1)) y y' rest j v hj hy
      rw [hlen] at this
      rw [Nat.zero_add]; exact this
    have hkS : ∀ i, i = b → blkIn (some ⟨b, 0, none⟩) i := fun i hi => ⟨_, rfl, hi⟩
    conv => whnf
    refine (laws_markText (k0 + 4 * k + 0) (by omega) w0).mono ?_
    rintro _ w1 ⟨rfl, e1⟩
    have B1 := B0.ext e1
    have M1 := M0.trans (Ext.mod e1)
    conv => whnf
    refine SemK.indexOwn (sz := 4) (by kernel_rfl) k rfl (by omega) ?_
    conv => whnf
    refine SemK.store1 (by kernel_rfl) B1 (k := 0 + k * 4 + 0) (by rw [hsz]; omega) rfl ?_
    intro w2 c2 C2
    have B2 : Blk w2 b (flat TPart.enc (TPart.marks k0 k ++ (⟨markB (k0 + 4 * k + 0), x.count, x.least, x.price⟩ : TPart) :: xs.drop (k + 1)) ++ rest) t := by rw [← hupd x (⟨markB (k0 + 4 * k + 0), x.count, x.least, x.price⟩ : TPart) 0 _ (by omega) rfl]; exact C2
    have M2 := M1.trans (c2.but.mono hkS)
    conv => whnf
    refine SemK.add (((k0 + 4 * k + 1 : Nat) : Int)) (by omega) (by omega) (by omega) ?_
    conv => whnf
    refine SemK.indexOwn (sz := 4) (by kernel_rfl) k rfl (by omega) ?_
    conv => whnf
    refine SemK.store1 (by kernel_rfl) B2 (k := 0 + k * 4 + 1) (by rw [hsz]; omega) rfl ?_
    intro w3 c3 C3
    have B3 : Blk w3 b (flat TPart.enc (TPart.marks k0 k ++ (⟨markB (k0 + 4 * k + 0), ((k0 + 4 * k + 1 : Nat) : Int), x.least, x.price⟩ : TPart) :: xs.drop (k + 1)) ++ rest) t := by rw [← hupd (⟨markB (k0 + 4 * k + 0), x.count, x.least, x.price⟩ : TPart) (⟨markB (k0 + 4 * k + 0), ((k0 + 4 * k + 1 : Nat) : Int), x.least, x.price⟩ : TPart) 1 _ (by omega) rfl]; exact C3
    have M3 := M2.trans (c3.but.mono hkS)
    conv => whnf
    refine SemK.add (((k0 + 4 * k + 2 : Nat) : Int)) (by omega) (by omega) (by omega) ?_
    conv => whnf
    refine SemK.indexOwn (sz := 4) (by kernel_rfl) k rfl (by omega) ?_
    conv => whnf
    refine SemK.store1 (by kernel_rfl) B3 (k := 0 + k * 4 + 2) (by rw [hsz]; omega) rfl ?_
    intro w4 c4 C4
    have B4 : Blk w4 b (flat TPart.enc (TPart.marks k0 k ++ (⟨markB (k0 + 4 * k + 0), ((k0 + 4 * k + 1 : Nat) : Int), ((k0 + 4 * k + 2 : Nat) : Int), x.price⟩ : TPart) :: xs.drop (k + 1)) ++ rest) t := by rw [← hupd (⟨markB (k0 + 4 * k + 0), ((k0 + 4 * k + 1 : Nat) : Int), x.least, x.price⟩ : TPart) (⟨markB (k0 + 4 * k + 0), ((k0 + 4 * k + 1 : Nat) : Int), ((k0 + 4 * k + 2 : Nat) : Int), x.price⟩ : TPart) 2 _ (by omega) rfl]; exact C4
    have M4 := M3.trans (c4.but.mono hkS)
    conv => whnf
    refine SemK.add (((k0 + 4 * k + 3 : Nat) : Int)) (by omega) (by omega) (by omega) ?_
    conv => whnf
    refine SemK.indexOwn (sz := 4) (by kernel_rfl) k rfl (by omega) ?_
    conv => whnf
    refine SemK.store1 (by kernel_rfl) B4 (k := 0 + k * 4 + 3) (by rw [hsz]; omega) rfl ?_
    intro w5 c5 C5
    have B5 : Blk w5 b (flat TPart.enc (TPart.marks k0 k ++ (⟨markB (k0 + 4 * k + 0), ((k0 + 4 * k + 1 : Nat) : Int), ((k0 + 4 * k + 2 : Nat) : Int), ((k0 + 4 * k + 3 : Nat) : Int)⟩ : TPart) :: xs.drop (k + 1)) ++ rest) t := by rw [← hupd (⟨markB (k0 + 4 * k + 0), ((k0 + 4 * k + 1 : Nat) : Int), ((k0 + 4 * k + 2 : Nat) : Int), x.price⟩ : TPart) (⟨markB (k0 + 4 * k + 0), ((k0 + 4 * k + 1 : Nat) : Int), ((k0 + 4 * k + 2 : Nat) : Int), ((k0 + 4 * k + 3 : Nat) : Int)⟩ : TPart) 3 _ (by omega) rfl]; exact C5
    have M5 := M4.trans (c5.but.mono hkS)
    conv => whnf
    refine SemK.add (((k0 + 4 * k + 4 : Nat) : Int)) (by omega) (by omega) (by omega) ?_
    conv => whnf
    refine SemK.add (((k + 1 : Nat) : Int)) (by omega) (by omega) (by omega) ?_
    conv => whnf
    refine ⟨k + 1, by omega, rfl, by omega, M5, .inr ⟨b, rest, rfl, ?_⟩⟩
    rw [TPart.marks_succ, List.append_assoc]
    exact B5
  · conv => whnf
    have : k = n := by omega
    subst this
    refine ⟨rfl, M0, TPart.marks_length _ _, hm, ?_⟩
    rcases hO with hO | ⟨b, rest, ha, hb⟩
    · exact .inl hO
    · refine .inr ⟨b, rest, ha, ?_⟩
      rw [List.drop_eq_nil_of_le (by omega)] at hb
      simpa using hb
theorem laws_heldPartS {w : World} {a : Option Addr} {n c k0 : Nat} (h : Arr TPart.enc 4 w a n (TPart.marks k0 n)) (hk0 : k0 + 4 * n ≤ 1000000000) :
    Does Tryd.prog 25 [.slice a n c, .int .i64 k0] w (fun v w' => v = .int .i64 ((k0 + 4 * n : Nat) : Int) ∧ Ext w w') := by
  have hm := h.le
  refine Does.of_vc tabok Tryd.func25 rfl rfl rfl (by kernel_rfl) ?_; conv => whnf
  refine LoopK.rule [0, 1, 5] (fun (k : Nat) vs w' => vs = [.slice a n c, .int .i64 ((k0 + 4 * k : Nat) : Int), .int .i64 k] ∧ k ≤ n ∧ Ext w w') (fun k => n - k) tab tabok (by kernel_rfl) 0 ⟨rfl, by omega, Ext.refl _⟩ ?_
  rintro k g _ w0 ⟨rfl, hk, E0⟩
  conv => whnf
  with_reducible refine IfB.dec (fun h4 => ?_) (fun h4 => ?_)
  · have hx := TPart.marks_get (k := k0) (show k < n by omega)
    conv => whnf
    refine DrawK.det tabok mixed (by kernel_rfl) (by kernel_rfl) ?_
    conv => whnf
    refine DSemK.index (by kernel_rfl) (h.ext E0) k rfl hx ?_
    intro b o _ hb
    conv => whnf
    refine DSemK.load1 (by kernel_rfl) hb (k := 0) rfl ?_
    conv => whnf
    refine DDoes.of (fun w2 _ => laws_markText (k0 + 4 * k + 0) (by omega) w2) ?_
    conv => whnf
    intro w1 e1
    have E1 := Ext.trans E0 e1
    conv => whnf
    refine IfB.eqf (by simp [TPart.mark]) ?_
    conv => whnf
    refine SemK.add (((k0 + 4 * k + 1 : Nat) : Int)) (by omega) (by omega) (by omega) ?_
    conv => whnf
    refine SemK.index (by kernel_rfl) (h.ext E1) k rfl hx ?_
    intro b o _ hb
    conv => whnf
    refine SemK.load1 (by kernel_rfl) hb (k := 1) rfl ?_
    conv => whnf
    refine IfB.eqf (by simp [TPart.mark]) ?_
    conv => whnf
    refine SemK.add (((k0 + 4 * k + 2 : Nat) : Int)) (by omega) (by omega) (by omega) ?_
    conv => whnf
    refine SemK.index (by kernel_rfl) (h.ext E1) k rfl hx ?_
    intro b o _ hb
    conv => whnf
    refine SemK.load1 (by kernel_rfl) hb (k := 2) rfl ?_
    conv => whnf
    refine IfB.eqf (by simp [TPart.mark]) ?_
    conv => whnf
    refine SemK.add (((k0 + 4 * k + 3 : Nat) : Int)) (by omega) (by omega) (by omega) ?_
    conv => whnf
    refine SemK.index (by kernel_rfl) (h.ext E1) k rfl hx ?_
    intro b o _ hb
    conv => whnf
    refine SemK.load1 (by kernel_rfl) hb (k := 3) rfl ?_
    conv => whnf
    refine IfB.eqf (by simp [TPart.mark]) ?_
    conv => whnf
    refine SemK.add (((k0 + 4 * k + 4 : Nat) : Int)) (by omega) (by omega) (by omega) ?_
    conv => whnf
    refine SemK.add (((k + 1 : Nat) : Int)) (by omega) (by omega) (by omega) ?_
    conv => whnf
    exact ⟨k + 1, by omega, rfl, by omega, E1⟩
  · conv => whnf
    have : k = n := by omega
    subst this
    exact ⟨rfl, E0⟩
end Go.Proofs.YtpjeooikjcdbpaaDoor
