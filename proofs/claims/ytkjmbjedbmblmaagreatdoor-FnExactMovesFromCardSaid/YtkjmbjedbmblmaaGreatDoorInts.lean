/- Contracts of functions of the given program, of the reference and of the laws: each says what a call returns, for all arguments that meet the premises that the theorem itself names. -/
import Derived.Test.YtkjmbjedbmblmaaGreatDoorBasics
import Derived.Test.YtkjmbjedbmblmaaGreatDoorVcApp
namespace Go.M
open Go Go.Vc
def markI (k : Nat) : Int := (k : Int)
def marksI (k n : Nat) : List Int := (List.range n).map fun i => ((k + i : Nat) : Int)
theorem marksI_length (k n : Nat) : (marksI k n).length = n := by simp [marksI]
theorem marksI_get {k n i : Nat} (h : i < n) : (marksI k n)[i]? = some ((k + i : Nat) : Int) := by simp [marksI, h]
theorem marksI_succ (k n : Nat) : marksI k (n + 1) = marksI k n ++ [((k + n : Nat) : Int)] := by simp [marksI, List.range_succ]
end Go.M
namespace Go.Proofs.YtkjmbjedbmblmaaGreatDoor
open Go Go.RowKit Go.Vc Go.M

theorem laws_eqInt64S {w : World} {a a' : Option Addr} {n n' c c' : Nat} {xs ys : List Int} (h : Arr eI 1 w a n xs) (h' : Arr eI 1 w a' n' ys) :
    Does Tryz.prog 235 [.slice a n c, .slice a' n' c'] w (fun v w' => v = .bool (decide (xs = ys)) ∧ Ext w w') := by
  have hn := h.len
  have hn' := h'.len
  have hm := h.le
  refine Does.of_vc tabok Tryz.func235 rfl rfl rfl (by kernel_rfl) ?_; conv => whnf
  with_reducible refine IfB.ndec (fun h1 => ?_) (fun h1 => ?_)
  · conv => whnf
    refine ⟨?_, Ext.refl _⟩
    have : ¬ xs = ys := fun e => by subst e; omega
    rw [decide_eq_false this]
  · conv => whnf
    refine LoopK.rule [0, 1, 5] (fun (k : Nat) vs w' => vs = [.slice a n c, .slice a' n' c', .int .i64 k] ∧ k ≤ n ∧ xs.take k = ys.take k ∧ Ext w w') (fun k => n - k) tab tabok (by kernel_rfl) 0 ⟨rfl, by omega, by simp, Ext.refl _⟩ ?_
    rintro k g _ w' ⟨rfl, hk, hall, hE⟩
    conv => whnf
    with_reducible refine IfB.dec (fun h4 => ?_) (fun h4 => ?_)
    · obtain ⟨x, hx⟩ : ∃ x, xs[k]? = some x := get_of_lt (by omega)
      obtain ⟨y, hy⟩ : ∃ y, ys[k]? = some y := get_of_lt (by omega)
      conv => whnf
      refine DrawK.det tabok mixed (by kernel_rfl) (by kernel_rfl) ?_
      conv => whnf
      refine DSemK.index (by kernel_rfl) (h.ext hE) k rfl hx ?_
      intro b o _ hb
      conv => whnf
      refine DSemK.load0 (by kernel_rfl) hb rfl ?_
      conv => whnf
      refine DSemK.index (by kernel_rfl) (h'.ext hE) k rfl hy ?_
      intro b' o' _ hb'
      conv => whnf
      refine DSemK.load0 (by kernel_rfl) hb' rfl ?_
      conv => whnf
      intro w2 e2
      conv => whnf
      with_reducible refine IfB.ndec (fun h5 => ?_) (fun h5 => ?_)
      · conv => whnf
        exact ⟨by rw [decide_eq_false (ne_of_get hx hy h5)], Ext.trans hE e2⟩
      · conv => whnf
        refine SemK.add (k + 1) rfl (by omega) (by omega) ?_
        conv => whnf
        exact ⟨k + 1, by omega, rfl, by omega, take_eq_snoc hall hx hy h5, Ext.trans hE e2⟩
    · conv => whnf
      refine ⟨?_, hE⟩
      rw [decide_eq_true (eq_of_take hall (by omega) (by omega))]

theorem laws_markInt64S {w : World} {a : Option Addr} {n c t k0 : Nat} {xs : List Int} (h : Own eI w a n t xs) (hk0 : k0 + n ≤ 1000000000) :
    Does Tryz.prog 140 [.slice a n c, .int .i64 k0] w (fun v w' => v = .int .i64 ((k0 + n : Nat) : Int) ∧ Mod (blkIn a) w w' ∧ Own eI w' a n t (marksI k0 n)) := by
  obtain ⟨hn, hm, h3⟩ := h
  refine Does.of_vc tabok Tryz.func140 rfl rfl rfl (by kernel_rfl) ?_; conv => whnf
  refine LoopK.rule [0, 1, 5] (fun (k : Nat) vs w' => vs = [.slice a n c, .int .i64 ((k0 + k : Nat) : Int), .int .i64 k] ∧ k ≤ n ∧ Mod (blkIn a) w w' ∧
    ((a = none ∧ n = 0) ∨ ∃ b rest, a = some ⟨b, 0, none⟩ ∧ Blk w' b (flat eI (marksI k0 k ++ xs.drop k) ++ rest) t)) (fun k => n - k) tab tabok (by kernel_rfl) 0 ⟨rfl, by omega, Mod.refl _ _, ?_⟩ ?_
  · rcases h3 with h3 | ⟨b, rest, ha, hb⟩
    · exact .inl h3
    · exact .inr ⟨b, rest, ha, by simpa [marksI] using hb⟩
  rintro k g _ w' ⟨rfl, hk, hM, hO⟩
  conv => whnf
  with_reducible refine IfB.dec (fun h4 => ?_) (fun h4 => ?_)
  · obtain ⟨b, rest, rfl, hb⟩ : ∃ b rest, a = some ⟨b, 0, none⟩ ∧ Blk w' b (flat eI (marksI k0 k ++ xs.drop k) ++ rest) t := by
      rcases hO with ⟨_, hO⟩ | hO
      · omega
      · exact hO
    obtain ⟨x, hx⟩ : ∃ x, xs[k]? = some x := get_of_lt (by omega)
    conv => whnf
    refine SemK.indexOwn (sz := 1) (by kernel_rfl) k rfl (by omega) ?_
    conv => whnf
    have hlen : (marksI k0 k).length = k := marksI_length _ _
    refine SemK.store1 (by kernel_rfl) hb (k := 0 + k * 1) (by
      simp only [List.length_append, flat_length eI_len, List.length_drop]; omega) rfl ?_
    intro w2 hc hB
    conv => whnf
    refine SemK.add (((k0 + (k + 1) : Nat) : Int)) (by omega) (by omega) (by omega) ?_
    conv => whnf
    refine SemK.add (((k + 1 : Nat) : Int)) (by omega) (by omega) (by omega) ?_
    conv => whnf
    refine ⟨k + 1, by omega, rfl, by omega, hM.trans (hc.but.mono fun i hi => ⟨_, rfl, hi⟩), .inr ⟨b, rest, rfl, ?_⟩⟩
    have e : (flat eI (marksI k0 k ++ xs.drop k) ++ rest).set (0 + k * 1) (.int .i64 ((k0 + k : Nat) : Int)) = flat eI (marksI k0 (k + 1) ++ xs.drop (k + 1)) ++ rest := by
      have := flat_update eI_len (marksI k0 k) (xs.drop (k + 1)) x ((k0 + k : Nat) : Int) rest 0 (.int .i64 ((k0 + k : Nat) : Int)) (by omega) rfl
      rw [drop_cons hx, marksI_succ, List.append_assoc]
      rw [hlen] at this
      simpa using this
    rw [← e]
    exact hB
  · conv => whnf
    have : k = n := by omega
    subst this
    refine ⟨rfl, hM, marksI_length _ _, hm, ?_⟩
    rcases hO with hO | ⟨b, rest, ha, hb⟩
    · exact .inl hO
    · refine .inr ⟨b, rest, ha, ?_⟩
      rw [List.drop_eq_nil_of_le (by omega)] at hb
      simpa using hb

theorem laws_toInt64S {w : World} {a : Option Addr} {n c : Nat} {xs : List Int} (h : Arr eI 1 w a n xs) (hsm : n ≤ 1048576) :
    Does Tryz.prog 221 [.slice a n c] w (fun v w' => ∃ b, v = .slice (some ⟨b, 0, none⟩) n n ∧ w.heap.size ≤ b ∧ Ext w w' ∧ Own eI w' (some ⟨b, 0, none⟩) n 2 xs) := by
  have hn := h.len
  refine Does.of_vc tabok Tryz.func221 rfl rfl rfl (by kernel_rfl) ?_; conv => whnf
  refine SemK.make mk_41 n rfl (by omega) (by omega) ?_
  intro b w1 g1 l1 e1 hB
  have G1 := Grow.of_make (enc := eI) (z := (0 : Int)) eI_len rfl hB g1 (by omega)
  conv => whnf
  refine LoopK.rule [0, 3, 4] (fun (k : Nat) vs w' => vs = [.slice a n c, .slice (some ⟨b, 0, none⟩) n n, .int .i64 k] ∧ k ≤ n ∧ Ext w w' ∧ Grow eI 1 w.heap.size 2 w' (some ⟨b, 0, none⟩) n n (xs.take k ++ List.replicate (n - k) 0)) (fun k => n - k) tab tabok (by kernel_rfl) 0 ⟨rfl, by omega, e1, by simpa using G1⟩ ?_
  rintro k g _ w' ⟨rfl, hk, hE, hO⟩
  conv => whnf
  with_reducible refine IfB.dec (fun h2 => ?_) (fun h2 => ?_)
  · conv => whnf
    obtain ⟨x3, hx3⟩ : ∃ x, xs[k]? = some x := get_of_lt (by omega)
    refine SemK.index (by kernel_rfl) (h.ext hE) k rfl hx3 ?_
    intro b4 o4 _ hb4
    conv => whnf
    refine SemK.load0 (by kernel_rfl) hb4 rfl ?_
    conv => whnf
    have hx5 := fill_get (0 : Int) hn (show k < n by omega)
    refine SemK.indexOwn (sz := 1) (by kernel_rfl) k rfl (by omega) ?_
    have hb6 := Own.elem eI_len hO.own hx5
    conv => whnf
    refine SemK.storeGrow1 (k := k) (j := 0) (by kernel_rfl) eI_len hO hx5 (by decide) rfl (x3) rfl ?_
    intro w7 c7 B7
    have hx7 := set_get hx5 ((x3))
    conv => whnf
    refine SemK.add (((k + 1 : Nat) : Int)) (by omega) (by omega) (by omega) ?_
    conv => whnf
    refine ⟨k + 1, by omega, rfl, by omega, (Ext.but_trans hE c7.but g1), ?_⟩
    · rw [← fill_set hn hx3]; exact B7
  · conv => whnf
    have kn8 : k = n := by omega
    have tk9 : List.take k xs = xs := List.take_of_length_le (by omega)
    refine ⟨_, rfl, by omega, hE, ?_⟩
    · have h9 := hO.own
      rw [tk9, show n - k = 0 by omega] at h9
      simpa using h9
end Go.Proofs.YtkjmbjedbmblmaaGreatDoor
