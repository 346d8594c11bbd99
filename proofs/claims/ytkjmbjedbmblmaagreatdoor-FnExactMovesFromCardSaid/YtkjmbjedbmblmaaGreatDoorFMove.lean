/- Contracts of functions of the given program, of the reference and of the laws: each says what a call returns, for all arguments that meet the premises that the theorem itself names. -/
import Derived.Test.YtkjmbjedbmblmaaGreatDoorBasics
import Derived.Test.YtkjmbjedbmblmaaGreatDoorVcApp
import Derived.Test.YtkjmbjedbmblmaaGreatDoorVcFlat
namespace Go.M
open Go Go.Vc
structure TMove where
  part : Int
  count : Int
theorem TMove.ext_iff2 {a b : TMove} : a = b ↔ a.part = b.part ∧ a.count = b.count := by
  constructor
  · intro h; subst h; simp
  · intro h; cases a; cases b; simp at h; simp [h]
instance : DecidableEq TMove := fun a b => decidable_of_iff (a.part = b.part ∧ a.count = b.count) TMove.ext_iff2.symm
instance : Inhabited TMove := ⟨⟨0, 0⟩⟩
def TMove.enc (x : TMove) : List Value := [.int .i64 x.part, .int .i64 x.count]
theorem TMove.enc_len (x : TMove) : x.enc.length = 2 := rfl
def TMove.ok (x : TMove) : Prop := i64ok x.part ∧ i64ok x.count
def TMove.wt (_ : TMove) : Nat := 0
theorem TMove.flat {x : TMove} (h : x.ok) : Flat [false, false] x.enc := by
  obtain ⟨h0, h1⟩ := h
  exact ⟨_, _, rfl, h0, ⟨_, _, rfl, h1, rfl⟩⟩
theorem TMove.of_flat {cs : List Value} (h : Flat [false, false] cs) : ∃ x : TMove, cs = x.enc ∧ x.ok := by
  obtain ⟨v0, _, rfl, h0, ⟨v1, _, rfl, h1, rfl⟩⟩ := h
  exact ⟨⟨v0, v1⟩, rfl, h0, h1⟩
theorem TMove.eq_flat (x y : TMove) : flatEq x.enc y.enc = decide (x = y) := by
  rw [Bool.eq_iff_iff, decide_eq_true_eq, TMove.ext_iff2]
  simp [TMove.enc, flatEq]
def TMove.wsum (xs : List TMove) : Nat := (xs.map TMove.wt).sum
theorem TMove.wsum_snoc {xs : List TMove} {k : Nat} {x : TMove} (h : xs[k]? = some x) : TMove.wsum (xs.take (k + 1)) = TMove.wsum (xs.take k) + x.wt := by
  simp [TMove.wsum, List.take_add_one, h]
def TMove.mark (k : Nat) : TMove := ⟨((k + 0 : Nat) : Int), ((k + 1 : Nat) : Int)⟩
def TMove.marks (k n : Nat) : List TMove := (List.range n).map fun i => TMove.mark (k + 2 * i)
theorem TMove.marks_length (k n : Nat) : (TMove.marks k n).length = n := by simp [TMove.marks]
theorem TMove.marks_get {k n i : Nat} (h : i < n) : (TMove.marks k n)[i]? = some (TMove.mark (k + 2 * i)) := by simp [TMove.marks, h]
theorem TMove.marks_succ (k n : Nat) : TMove.marks k (n + 1) = TMove.marks k n ++ [TMove.mark (k + 2 * n)] := by simp [TMove.marks, List.range_succ]
end Go.M
namespace Go.Proofs.YtkjmbjedbmblmaaGreatDoor
open Go Go.RowKit Go.Vc Go.M
theorem laws_eqMove (x y : TMove) (w : World) : Does Tryz.prog 134 [.agg ⟨x.enc⟩, .agg ⟨y.enc⟩] w (fun v w' => v = .bool (decide (x = y)) ∧ Ext w w') := by
  refine Does.of_vc tabok Tryz.func134 rfl rfl rfl (by kernel_rfl) ?_; conv => whnf
  refine SemK.box ?_
  intro b w1 _ _ e1 hB
  conv => whnf
  refine SemK.box ?_
  intro b' w2 _ _ e2 hB'
  conv => whnf
  have hc : Cells w2 b 0 x.enc := (hB.ext e2).cells
  have hc' : Cells w2 b' 0 y.enc := hB'.cells
  have E := Ext.trans e1 e2
  refine SemK.load1 (by kernel_rfl) hc (k := 0) rfl ?_
  conv => whnf
  refine SemK.load1 (by kernel_rfl) hc' (k := 0) rfl ?_
  conv => whnf
  with_reducible refine IfB.ndec (fun p0 => ?_) (fun p0 => ?_)
  · conv => whnf
    exact ⟨by rw [decide_eq_false (fun e => p0 (by rw [e]))], E⟩
  conv => whnf
  refine SemK.load1 (by kernel_rfl) hc (k := 1) rfl ?_
  conv => whnf
  refine SemK.load1 (by kernel_rfl) hc' (k := 1) rfl ?_
  conv => whnf
  with_reducible refine IfB.ndec (fun p1 => ?_) (fun p1 => ?_)
  · conv => whnf
    exact ⟨by rw [decide_eq_false (fun e => p1 (by rw [e]))], E⟩
  conv => whnf
  exact ⟨by rw [decide_eq_true (TMove.ext_iff2.2 ⟨p0, p1⟩)], E⟩
theorem laws_eqMoveS {w : World} {a a' : Option Addr} {n n' c c' : Nat} {xs ys : List TMove} (h : Arr TMove.enc 2 w a n xs) (h' : Arr TMove.enc 2 w a' n' ys) :
    Does Tryz.prog 36 [.slice a n c, .slice a' n' c'] w (fun v w' => v = .bool (decide (xs = ys)) ∧ Ext w w') := by
  have hn := h.len
  have hn' := h'.len
  have hm := h.le
  refine Does.of_vc tabok Tryz.func36 rfl rfl rfl (by kernel_rfl) ?_; conv => whnf
  with_reducible refine IfB.ndec (fun h1 => ?_) (fun h1 => ?_)
  · conv => whnf
    refine ⟨?_, Ext.refl _⟩
    have : ¬ xs = ys := fun e => by subst e; omega
    rw [decide_eq_false this]
  · conv => whnf
    refine LoopK.rule [0, 1, 5] (fun (k : Nat) vs w' => vs = [.slice a n c, .slice a' n' c', .int .i64 k] ∧ k ≤ n ∧ xs.take k = ys.take k ∧ Ext w w') (fun k => n - k) tab tabok (by kernel_rfl) 0 ⟨rfl, by omega, by simp, Ext.refl _⟩ ?_
    rintro k g _ w' ⟨rfl, hk, hall, hE⟩
    conv => whnf
    with_reducible refine IfB.dec (fun h4 => ?_) (fun h4 => ?_)
    · obtain ⟨x, hx⟩ : ∃ x, xs[k]? = some x := get_of_lt (by omega)
      obtain ⟨y, hy⟩ : ∃ y, ys[k]? = some y := get_of_lt (by omega)
      conv => whnf
      refine DrawK.det tabok mixed (by kernel_rfl) (by kernel_rfl) ?_
      conv => whnf
      refine DSemK.index (by kernel_rfl) (h.ext hE) k rfl hx ?_
      intro b o _ hb
      conv => whnf
      refine DSemK.loadAgg (by kernel_rfl) (n := 2) hb rfl ?_
      conv => whnf
      refine DSemK.index (by kernel_rfl) (h'.ext hE) k rfl hy ?_
      intro b' o' _ hb'
      conv => whnf
      refine DSemK.loadAgg (by kernel_rfl) (n := 2) hb' rfl ?_
      conv => whnf
      refine DDoes.of (fun w2 _ => laws_eqMove x y w2) ?_
      conv => whnf
      intro w2 e2
      conv => whnf
      with_reducible refine IfB.ndec (fun h5 => ?_) (fun h5 => ?_)
      · conv => whnf
        exact ⟨by rw [decide_eq_false (ne_of_get hx hy h5)], Ext.trans hE e2⟩
      · conv => whnf
        refine SemK.add (k + 1) rfl (by omega) (by omega) ?_
        conv => whnf
        exact ⟨k + 1, by omega, rfl, by omega, take_eq_snoc hall hx hy h5, Ext.trans hE e2⟩
    · conv => whnf
      refine ⟨?_, hE⟩
      rw [decide_eq_true (eq_of_take hall (by omega) (by omega))]
theorem laws_markMoveS {w : World} {a : Option Addr} {n c t k0 : Nat} {xs : List TMove} (h : Own TMove.enc w a n t xs) (hk0 : k0 + 2 * n ≤ 1000000000) :
    Does Tryz.prog 43 [.slice a n c, .int .i64 k0] w (fun v w' => v = .int .i64 ((k0 + 2 * n : Nat) : Int) ∧ Mod (blkIn a) w w' ∧ Own TMove.enc w' a n t (TMove.marks k0 n)) := by
  obtain ⟨hn, hm, h3⟩ := h
  refine Does.of_vc tabok Tryz.func43 rfl rfl rfl (by kernel_rfl) ?_; conv => whnf
  refine LoopK.rule [0, 1, 5] (fun (k : Nat) vs w' => vs = [.slice a n c, .int .i64 ((k0 + 2 * k : Nat) : Int), .int .i64 k] ∧ k ≤ n ∧ Mod (blkIn a) w w' ∧
    ((a = none ∧ n = 0) ∨ ∃ b rest, a = some ⟨b, 0, none⟩ ∧ Blk w' b (flat TMove.enc (TMove.marks k0 k ++ xs.drop k) ++ rest) t)) (fun k => n - k) tab tabok (by kernel_rfl) 0 ⟨rfl, by omega, Mod.refl _ _, ?_⟩ ?_
  · rcases h3 with h3 | ⟨b, rest, ha, hb⟩
    · exact .inl h3
    · exact .inr ⟨b, rest, ha, by simpa [TMove.marks] using hb⟩
  rintro k g _ w0 ⟨rfl, hk, M0, hO⟩
  conv => whnf
  with_reducible refine IfB.dec (fun h4 => ?_) (fun h4 => ?_)
  · obtain ⟨b, rest, rfl, B0⟩ : ∃ b rest, a = some ⟨b, 0, none⟩ ∧ Blk w0 b (flat TMove.enc (TMove.marks k0 k ++ xs.drop k) ++ rest) t := by
      rcases hO with ⟨_, hO⟩ | hO
      · omega
      · exact hO
    obtain ⟨x, hx⟩ : ∃ x, xs[k]? = some x := get_of_lt (by omega)
    have hlen : (TMove.marks k0 k).length = k := TMove.marks_length _ _
    have hxl : (xs.drop (k + 1)).length + k + 1 = n := by simp; omega
    rw [drop_cons hx] at B0
    have hsz : ∀ (y : TMove), (flat TMove.enc (TMove.marks k0 k ++ y :: xs.drop (k + 1)) ++ rest).length = n * 2 + rest.length := fun y => by
      simp only [List.length_append, flat_length TMove.enc_len, List.length_cons, hlen]; omega
    have hupd : ∀ (y y' : TMove) (j : Nat) (v : Value), j < 2 → y.enc.set j v = y'.enc → (flat TMove.enc (TMove.marks k0 k ++ y :: xs.drop (k + 1)) ++ rest).set (0 + k * 2 + j) v = flat TMove.enc (TMove.marks k0 k ++ y' :: xs.drop (k + 1)) ++ rest := fun y y' j v hj hy => by
      have := flat_update TMove.enc_len (TMove.marks k0 k) (xs.drop (k + 1)) y y' rest j v hj hy
      rw [hlen] at this
      rw [Nat.zero_add]; exact this
    have hkS : ∀ i, i = b → blkIn (some ⟨b, 0, none⟩) i := fun i hi => ⟨_, rfl, hi⟩
    conv => whnf
    refine SemK.indexOwn (sz := 2) (by kernel_rfl) k rfl (by omega) ?_
    conv => whnf
    refine SemK.store1 (by kernel_rfl) B0 (k := 0 + k * 2 + 0) (by rw [hsz]; omega) rfl ?_
    intro w1 c1 C1
    have B1 : Blk w1 b (flat TMove.enc (TMove.marks k0 k ++ (⟨((k0 + 2 * k + 0 : Nat) : Int), x.count⟩ : TMove) :: xs.drop (k + 1)) ++ rest) t := by rw [← hupd x (⟨((k0 + 2 * k + 0 : Nat) : Int), x.count⟩ : TMove) 0 _ (by omega) rfl]; exact C1
    have M1 := M0.trans (c1.but.mono hkS)
    conv => whnf
    refine SemK.add (((k0 + 2 * k + 1 : Nat) : Int)) (by omega) (by omega) (by omega) ?_
    conv => whnf
    refine SemK.indexOwn (sz := 2) (by kernel_rfl) k rfl (by omega) ?_
    conv => whnf
    refine SemK.store1 (by kernel_rfl) B1 (k := 0 + k * 2 + 1) (by rw [hsz]; omega) rfl ?_
    intro w2 c2 C2
    have B2 : Blk w2 b (flat TMove.enc (TMove.marks k0 k ++ (⟨((k0 + 2 * k + 0 : Nat) : Int), ((k0 + 2 * k + 1 : Nat) : Int)⟩ : TMove) :: xs.drop (k + 1)) ++ rest) t := by rw [← hupd (⟨((k0 + 2 * k + 0 : Nat) : Int), x.count⟩ : TMove) (⟨((k0 + 2 * k + 0 : Nat) : Int), ((k0 + 2 * k + 1 : Nat) : Int)⟩ : TMove) 1 _ (by omega) rfl]; exact C2
    have M2 := M1.trans (c2.but.mono hkS)
    conv => whnf
    refine SemK.add (((k0 + 2 * k + 2 : Nat) : Int)) (by omega) (by omega) (by omega) ?_
    conv => whnf
    refine SemK.add (((k + 1 : Nat) : Int)) (by omega) (by omega) (by omega) ?_
    conv => whnf
    refine ⟨k + 1, by omega, rfl, by omega, M2, .inr ⟨b, rest, rfl, ?_⟩⟩
    rw [TMove.marks_succ, List.append_assoc]
    exact B2
  · conv => whnf
    have : k = n := by omega
    subst this
    refine ⟨rfl, M0, TMove.marks_length _ _, hm, ?_⟩
    rcases hO with hO | ⟨b, rest, ha, hb⟩
    · exact .inl hO
    · refine .inr ⟨b, rest, ha, ?_⟩
      rw [List.drop_eq_nil_of_le (by omega)] at hb
      simpa using hb
theorem laws_heldMoveS {w : World} {a : Option Addr} {n c k0 : Nat} (h : Arr TMove.enc 2 w a n (TMove.marks k0 n)) (hk0 : k0 + 2 * n ≤ 1000000000) :
    Does Tryz.prog 44 [.slice a n c, .int .i64 k0] w (fun v w' => v = .int .i64 ((k0 + 2 * n : Nat) : Int) ∧ Ext w w') := by
  have hm := h.le
  refine Does.of_vc tabok Tryz.func44 rfl rfl rfl (by kernel_rfl) ?_; conv => whnf
  refine LoopK.rule [0, 1, 5] (fun (k : Nat) vs w' => vs = [.slice a n c, .int .i64 ((k0 + 2 * k : Nat) : Int), .int .i64 k] ∧ k ≤ n ∧ Ext w w') (fun k => n - k) tab tabok (by kernel_rfl) 0 ⟨rfl, by omega, Ext.refl _⟩ ?_
  rintro k g _ w0 ⟨rfl, hk, E0⟩
  conv => whnf
  with_reducible refine IfB.dec (fun h4 => ?_) (fun h4 => ?_)
  · have hx := TMove.marks_get (k := k0) (show k < n by omega)
    conv => whnf
    refine SemK.index (by kernel_rfl) (h.ext E0) k rfl hx ?_
    intro b o _ hb
    conv => whnf
    refine SemK.load1 (by kernel_rfl) hb (k := 0) rfl ?_
    conv => whnf
    refine IfB.eqf (by simp [TMove.mark]) ?_
    conv => whnf
    refine SemK.add (((k0 + 2 * k + 1 : Nat) : Int)) (by omega) (by omega) (by omega) ?_
    conv => whnf
    refine SemK.index (by kernel_rfl) (h.ext E0) k rfl hx ?_
    intro b o _ hb
    conv => whnf
    refine SemK.load1 (by kernel_rfl) hb (k := 1) rfl ?_
    conv => whnf
    refine IfB.eqf (by simp [TMove.mark]) ?_
    conv => whnf
    refine SemK.add (((k0 + 2 * k + 2 : Nat) : Int)) (by omega) (by omega) (by omega) ?_
    conv => whnf
    refine SemK.add (((k + 1 : Nat) : Int)) (by omega) (by omega) (by omega) ?_
    conv => whnf
    exact ⟨k + 1, by omega, rfl, by omega, E0⟩
  · conv => whnf
    have : k = n := by omega
    subst this
    exact ⟨rfl, E0⟩
end Go.Proofs.YtkjmbjedbmblmaaGreatDoor
