/- Contracts of functions of the given program, of the reference and of the laws: each says what a call returns, for all arguments that meet the premises that the theorem itself names. -/
import Derived.Test.YtmhnmdcleeadiaaBasics
namespace Go.Proofs.Ytmhnmdcleeadiaa
open Go Go.RowKit Go.Vc Go.M

theorem laws_eqStringS {w : World} {a a' : Option Addr} {n n' c c' : Nat} {xs ys : List ByteArray} (h : Arr eS 1 w a n xs) (h' : Arr eS 1 w a' n' ys) :
    Does Try.prog 22 [.slice a n c, .slice a' n' c'] w (fun v w' => v = .bool (decide (xs = ys)) ∧ Ext w w') := by
  have hn := h.len
  have hn' := h'.len
  have hm := h.le
  refine Does.of_vc tabok Try.func22 rfl rfl rfl (by kernel_rfl) ?_; conv => whnf
  with_reducible refine IfB.ndec (fun h1 => ?_) (fun h1 => ?_)
  · conv => whnf
    refine ⟨?_, Ext.refl _⟩
    have : ¬ xs = ys := fun e => by subst e; omega
    rw [decide_eq_false this]
  · conv => whnf
    refine LoopK.rule [0, 1, 5] (fun (k : Nat) vs w' => vs = [.slice a n c, .slice a' n' c', .int .i64 k] ∧ k ≤ n ∧ xs.take k = ys.take k ∧ Ext w w') (fun k => n - k) tab tabok (by kernel_rfl) 0 ⟨rfl, by omega, by simp, Ext.refl _⟩ ?_
    rintro k g _ w' ⟨rfl, hk, hall, hE⟩
    conv => whnf
    with_reducible refine IfB.dec (fun h4 => ?_) (fun h4 => ?_)
    · obtain ⟨x, hx⟩ : ∃ x, xs[k]? = some x := get_of_lt (by omega)
      obtain ⟨y, hy⟩ : ∃ y, ys[k]? = some y := get_of_lt (by omega)
      conv => whnf
      refine DrawK.det tabok mixed (by kernel_rfl) (by kernel_rfl) ?_
      conv => whnf
      refine DSemK.index (by kernel_rfl) (h.ext hE) k rfl hx ?_
      intro b o _ hb
      conv => whnf
      refine DSemK.load0 (by kernel_rfl) hb rfl ?_
      conv => whnf
      refine DSemK.index (by kernel_rfl) (h'.ext hE) k rfl hy ?_
      intro b' o' _ hb'
      conv => whnf
      refine DSemK.load0 (by kernel_rfl) hb' rfl ?_
      conv => whnf
      intro w2 e2
      conv => whnf
      with_reducible refine IfB.ndec (fun h5 => ?_) (fun h5 => ?_)
      · conv => whnf
        exact ⟨by rw [decide_eq_false (ne_of_get hx hy h5)], Ext.trans hE e2⟩
      · conv => whnf
        refine SemK.add (k + 1) rfl (by omega) (by omega) ?_
        conv => whnf
        exact ⟨k + 1, by omega, rfl, by omega, take_eq_snoc hall hx hy h5, Ext.trans hE e2⟩
    · conv => whnf
      refine ⟨?_, hE⟩
      rw [decide_eq_true (eq_of_take hall (by omega) (by omega))]

theorem laws_markStringS {w : World} {a : Option Addr} {n c t k0 : Nat} {xs : List ByteArray} (h : Own eS w a n t xs) (hk0 : k0 + n ≤ 1000000000) :
    Does Try.prog 25 [.slice a n c, .int .i64 k0] w (fun v w' => v = .int .i64 ((k0 + n : Nat) : Int) ∧ Mod (blkIn a) w w' ∧ Own eS w' a n t (marks k0 n)) := by
  obtain ⟨hn, hm, h3⟩ := h
  refine Does.of_vc tabok Try.func25 rfl rfl rfl (by kernel_rfl) ?_; conv => whnf
  refine LoopK.rule [0, 1, 5] (fun (k : Nat) vs w' => vs = [.slice a n c, .int .i64 ((k0 + k : Nat) : Int), .int .i64 k] ∧ k ≤ n ∧ Mod (blkIn a) w w' ∧
    ((a = none ∧ n = 0) ∨ ∃ b rest, a = some ⟨b, 0, none⟩ ∧ Blk w' b (flat eS (marks k0 k ++ xs.drop k) ++ rest) t)) (fun k => n - k) tab tabok (by kernel_rfl) 0 ⟨rfl, by omega, Mod.refl _ _, ?_⟩ ?_
  · rcases h3 with h3 | ⟨b, rest, ha, hb⟩
    · exact .inl h3
    · exact .inr ⟨b, rest, ha, by simpa [marks] using hb⟩
  rintro k g _ w' ⟨rfl, hk, hM, hO⟩
  conv => whnf
  with_reducible refine IfB.dec (fun h4 => ?_) (fun h4 => ?_)
  · obtain ⟨b, rest, rfl, hb⟩ : ∃ b rest, a = some ⟨b, 0, none⟩ ∧ Blk w' b (flat eS (marks k0 k ++ xs.drop k) ++ rest) t := by
      rcases hO with ⟨_, hO⟩ | hO
      · omega
      · exact hO
    obtain ⟨x, hx⟩ : ∃ x, xs[k]? = some x := get_of_lt (by omega)
    conv => whnf
    refine (laws_markText (k0 + k) (by omega) w').mono ?_; rintro _ w1 ⟨rfl, e1⟩
    conv => whnf
    refine SemK.indexOwn (sz := 1) (by kernel_rfl) k rfl (by omega) ?_
    conv => whnf
    have hlen : (marks k0 k).length = k := marks_length _ _
    refine SemK.store1 (by kernel_rfl) (hb.ext e1) (k := 0 + k * 1) (by
      simp only [List.length_append, flat_length eS_len, List.length_drop]; omega) rfl ?_
    intro w2 hc hB
    conv => whnf
    refine SemK.add (((k0 + (k + 1) : Nat) : Int)) (by omega) (by omega) (by omega) ?_
    conv => whnf
    refine SemK.add (((k + 1 : Nat) : Int)) (by omega) (by omega) (by omega) ?_
    conv => whnf
    refine ⟨k + 1, by omega, rfl, by omega, hM.trans ((Ext.mod e1).trans (hc.but.mono fun i hi => ⟨_, rfl, hi⟩)), .inr ⟨b, rest, rfl, ?_⟩⟩
    have e : (flat eS (marks k0 k ++ xs.drop k) ++ rest).set (0 + k * 1) (.string (markB (k0 + k))) = flat eS (marks k0 (k + 1) ++ xs.drop (k + 1)) ++ rest := by
      have := flat_update eS_len (marks k0 k) (xs.drop (k + 1)) x (markB (k0 + k)) rest 0 (.string (markB (k0 + k))) (by omega) rfl
      rw [drop_cons hx, marks_succ, List.append_assoc]
      rw [hlen] at this
      simpa using this
    rw [← e]
    exact hB
  · conv => whnf
    have : k = n := by omega
    subst this
    refine ⟨rfl, hM, marks_length _ _, hm, ?_⟩
    rcases hO with hO | ⟨b, rest, ha, hb⟩
    · exact .inl hO
    · refine .inr ⟨b, rest, ha, ?_⟩
      rw [List.drop_eq_nil_of_le (by omega)] at hb
      simpa using hb

theorem laws_heldStringS {w : World} {a : Option Addr} {n c k0 : Nat} (h : Arr eS 1 w a n (marks k0 n)) (hk0 : k0 + n ≤ 1000000000) :
    Does Try.prog 26 [.slice a n c, .int .i64 k0] w (fun v w' => v = .int .i64 ((k0 + n : Nat) : Int) ∧ Ext w w') := by
  have hm := h.le
  refine Does.of_vc tabok Try.func26 rfl rfl rfl (by kernel_rfl) ?_; conv => whnf
  refine LoopK.rule [0, 1, 5] (fun (k : Nat) vs w' => vs = [.slice a n c, .int .i64 ((k0 + k : Nat) : Int), .int .i64 k] ∧ k ≤ n ∧ Ext w w') (fun k => n - k) tab tabok (by kernel_rfl) 0 ⟨rfl, by omega, Ext.refl _⟩ ?_
  rintro k g _ w' ⟨rfl, hk, hE⟩
  conv => whnf
  with_reducible refine IfB.dec (fun h4 => ?_) (fun h4 => ?_)
  · have hx := marks_get (k := k0) (show k < n by omega)
    conv => whnf
    refine DrawK.det tabok mixed (by kernel_rfl) (by kernel_rfl) ?_
    conv => whnf
    refine DSemK.index (by kernel_rfl) (h.ext hE) k rfl hx ?_
    intro b o _ hb
    conv => whnf
    refine DSemK.load0 (by kernel_rfl) hb rfl ?_
    conv => whnf
    refine DDoes.of (fun w2 _ => laws_markText (k0 + k) (by omega) w2) ?_
    conv => whnf
    intro w2 e2
    conv => whnf
    refine IfB.eqf (by simp) ?_
    conv => whnf
    refine SemK.add (((k0 + (k + 1) : Nat) : Int)) (by omega) (by omega) (by omega) ?_
    conv => whnf
    refine SemK.add (((k + 1 : Nat) : Int)) (by omega) (by omega) (by omega) ?_
    conv => whnf
    exact ⟨k + 1, by omega, rfl, by omega, Ext.trans hE e2⟩
  · conv => whnf
    have : k = n := by omega
    subst this
    exact ⟨rfl, hE⟩
end Go.Proofs.Ytmhnmdcleeadiaa
