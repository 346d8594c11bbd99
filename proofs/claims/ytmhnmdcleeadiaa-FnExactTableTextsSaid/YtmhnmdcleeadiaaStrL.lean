/- Contracts of functions of the given program, of the reference and of the laws: each says what a call returns, for all arguments that meet the premises that the theorem itself names. -/
import Derived.Test.YtmhnmdcleeadiaaStrs
import Derived.Test.YtmhnmdcleeadiaaVcFlat
import Derived.Test.YtmhnmdcleeadiaaVcApp
namespace Go.Proofs.Ytmhnmdcleeadiaa
open Go Go.RowKit Go.Vc Go.M
theorem laws_szStringS {w : World} {a : Option Addr} {n c : Nat} {xs : List ByteArray} (h : Arr eS 1 w a n xs) (hok : ∀ x ∈ xs, strok x) {left : Int} (h0 : 0 ≤ left) (h1 : left ≤ 1048576) :
    Does Try.prog 27 [.slice a n c, .int .i64 left] w (fun v w' => ∃ r : Int, v = .int .i64 r ∧ (r = -1 ∨ (0 ≤ r ∧ r + n ≤ left)) ∧ Ext w w') := by
  have hn := h.len
  have hm := h.le
  refine Does.of_vc tabok Try.func27 rfl rfl rfl (by kernel_rfl) ?_; conv => whnf
  refine SemK.sub (left - n) rfl (by omega) (by omega) ?_
  conv => whnf
  with_reducible refine IfB.dec (fun p0 => ?_) (fun p0 => ?_)
  · conv => whnf
    exact ⟨-1, rfl, .inl rfl, Ext.refl _⟩
  conv => whnf
  refine LoopK.rule [0, 1, 5] (fun (k : Nat) vs w' => ∃ r : Int, vs = [.slice a n c, .int .i64 r, .int .i64 k] ∧ k ≤ n ∧ 0 ≤ r ∧ r + n ≤ left ∧ Ext w w') (fun k => n - k) tab tabok (by kernel_rfl) 0 ⟨left - n, rfl, by omega, by omega, by omega, Ext.refl _⟩ ?_
  rintro k g _ w' ⟨r, rfl, hk, hr, hs, hE⟩
  conv => whnf
  with_reducible refine IfB.dec (fun h4 => ?_) (fun h4 => ?_)
  · obtain ⟨x, hx⟩ : ∃ x, xs[k]? = some x := get_of_lt (by omega)
    have hxo := hok x (List.mem_of_getElem? hx)
    unfold strok at hxo
    conv => whnf
    refine SemK.index (by kernel_rfl) (h.ext hE) k rfl hx ?_
    intro b o _ hb
    conv => whnf
    refine SemK.load0 (by kernel_rfl) hb rfl ?_
    conv => whnf
    refine SemK.sub (r - x.size) rfl (by omega) (by omega) ?_
    conv => whnf
    with_reducible refine IfB.dec (fun h5 => ?_) (fun h5 => ?_)
    · conv => whnf
      exact ⟨-1, rfl, .inl rfl, hE⟩
    · conv => whnf
      refine SemK.add (((k + 1 : Nat) : Int)) (by omega) (by omega) (by omega) ?_
      conv => whnf
      exact ⟨k + 1, by omega, _, rfl, by omega, by omega, by omega, hE⟩
  · conv => whnf
    exact ⟨r, rfl, .inr ⟨hr, hs⟩, hE⟩
theorem laws_toStringS {w : World} {a : Option Addr} {n c : Nat} {xs : List ByteArray} (h : Arr eS 1 w a n xs) (hsm : n ≤ 1048576) :
    Does Try.prog 29 [.slice a n c] w (fun v w' => ∃ b, v = .slice (some ⟨b, 0, none⟩) n n ∧ w.heap.size ≤ b ∧ Ext w w' ∧ Own eS w' (some ⟨b, 0, none⟩) n 9 xs) := by
  have hn := h.len
  refine Does.of_vc tabok Try.func29 rfl rfl rfl (by kernel_rfl) ?_; conv => whnf
  refine SemK.make mk_40 n rfl (by omega) (by omega) ?_
  intro b w1 g1 l1 e1 hB
  have G1 := Grow.of_make (enc := eS) (z := ByteArray.mk #[]) eS_len rfl hB g1 (by omega)
  conv => whnf
  refine LoopK.rule [0, 3, 4] (fun (k : Nat) vs w' => vs = [.slice a n c, .slice (some ⟨b, 0, none⟩) n n, .int .i64 k] ∧ k ≤ n ∧ Ext w w' ∧ Grow eS 1 w.heap.size 9 w' (some ⟨b, 0, none⟩) n n (xs.take k ++ List.replicate (n - k) (ByteArray.mk #[]))) (fun k => n - k) tab tabok (by kernel_rfl) 0 ⟨rfl, by omega, e1, by simpa using G1⟩ ?_
  rintro k g _ w' ⟨rfl, hk, hE, hO⟩
  conv => whnf
  with_reducible refine IfB.dec (fun h2 => ?_) (fun h2 => ?_)
  · conv => whnf
    obtain ⟨x3, hx3⟩ : ∃ x, xs[k]? = some x := get_of_lt (by omega)
    refine SemK.index (by kernel_rfl) (h.ext hE) k rfl hx3 ?_
    intro b4 o4 _ hb4
    conv => whnf
    refine SemK.load0 (by kernel_rfl) hb4 rfl ?_
    conv => whnf
    have hx5 := fill_get (ByteArray.mk #[]) hn (show k < n by omega)
    refine SemK.indexOwn (sz := 1) (by kernel_rfl) k rfl (by omega) ?_
    have hb6 := Own.elem eS_len hO.own hx5
    conv => whnf
    refine SemK.storeGrow1 (k := k) (j := 0) (by kernel_rfl) eS_len hO hx5 (by decide) rfl (x3) rfl ?_
    intro w7 c7 B7
    conv => whnf
    refine SemK.add (((k + 1 : Nat) : Int)) (by omega) (by omega) (by omega) ?_
    conv => whnf
    refine ⟨k + 1, by omega, rfl, by omega, (Ext.but_trans hE c7.but g1), ?_⟩
    · rw [← fill_set hn hx3]; exact B7
  · conv => whnf
    have kn8 : k = n := by omega
    have tk9 : List.take k xs = xs := List.take_of_length_le (by omega)
    refine ⟨_, rfl, by omega, hE, ?_⟩
    · have h9 := hO.own
      rw [tk9, show n - k = 0 by omega] at h9
      simpa using h9
end Go.Proofs.Ytmhnmdcleeadiaa
