/- Contracts of functions of the given program, of the reference and of the laws: each says what a call returns, for all arguments that meet the premises that the theorem itself names. -/
import Derived.Test.YtpjeooikjcdbpaaDoorNestTo
namespace Go.M
open Go Go.Vc
theorem len_le_wt {xs : List (List Int)} {x : List Int} (h : x ∈ xs) : x.length ≤ wtAll wtCard xs := by
  obtain ⟨k, hk⟩ := List.mem_iff_getElem?.1 h
  have := wtAll_le (wt := wtCard) hk
  unfold wtCard at *
  omega
theorem FS_of {xs : List (List Int)} {n : Nat} (hn : xs.length = n) (h : n + wtAll wtCard xs ≤ 1048576) : FSz FCard xs :=
  ⟨by omega, fun y hy => by
    have := len_le_wt hy
    unfold FCard
    omega⟩
end Go.M
namespace Go.Proofs.YtpjeooikjcdbpaaDoor
open Go Go.RowKit Go.Vc Go.M
theorem laws_szInt64SE {w : World} {a : Option Addr} {n c : Nat} (hm : n ≤ 9223372036854775807) {left : Int} (h0 : 0 ≤ left) (h1 : left ≤ 1048576) :
    Does Tryd.prog 32 [.slice a n c, .int .i64 left] w (fun v w' => ∃ r : Int, v = .int .i64 r ∧ (r = -1 ∨ (0 ≤ r ∧ r = left - n)) ∧ Ext w w') := by
  refine Does.of_vc tabok Tryd.func32 rfl rfl rfl (by kernel_rfl) ?_; conv => whnf
  refine SemK.sub (left - n) rfl (by omega) (by omega) ?_
  conv => whnf
  with_reducible refine IfB.dec (fun p0 => ?_) (fun p0 => ?_)
  · conv => whnf
    exact ⟨-1, rfl, .inl rfl, Ext.refl _⟩
  conv => whnf
  exact ⟨left - n, rfl, .inr ⟨by omega, rfl⟩, Ext.refl _⟩
theorem laws_szInt64SSE {w : World} {a : Option Addr} {n c : Nat} {xs : List (List Int)} (h : ArrS RCard w a n xs) {left : Int} (h0 : 0 ≤ left) (h1 : left ≤ 1048576) :
    Does Tryd.prog 7 [.slice a n c, .int .i64 left] w (fun v w' => ∃ r : Int, v = .int .i64 r ∧ (r = -1 ∨ (0 ≤ r ∧ r + n + (wtAll wtCard xs : Nat) ≤ left)) ∧ Ext w w') := by
  have hn := h.len
  have hm := h.le
  obtain ⟨hs, hV, hE0⟩ := h
  have hl := hV.len
  refine Does.of_vc tabok Tryd.func7 rfl rfl rfl (by kernel_rfl) ?_; conv => whnf
  refine SemK.sub (left - n) rfl (by omega) (by omega) ?_
  conv => whnf
  with_reducible refine IfB.dec (fun p0 => ?_) (fun p0 => ?_)
  · conv => whnf
    exact ⟨-1, rfl, .inl rfl, Ext.refl _⟩
  conv => whnf
  refine LoopK.rule [0, 1, 5] (fun (k : Nat) vs w' => ∃ r : Int, vs = [.slice a n c, .int .i64 r, .int .i64 k] ∧ k ≤ n ∧ 0 ≤ r ∧ r + n + (wtAll wtCard (xs.take k) : Nat) = left ∧ Ext w w') (fun k => n - k) tab tabok (by kernel_rfl) 0 ⟨left - n, rfl, by omega, by omega, by simp [wtAll], Ext.refl _⟩ ?_
  rintro k g _ w' ⟨r, rfl, hk, hr, hrl, hE⟩
  conv => whnf
  with_reducible refine IfB.dec (fun h4 => ?_) (fun h4 => ?_)
  · obtain ⟨x, hx⟩ : ∃ x, xs[k]? = some x := get_of_lt (by omega)
    obtain ⟨d, hd⟩ : ∃ d, hs[k]? = some d := get_of_lt (by omega)
    have hR := hE0.2 k d x hd hx
    have hxl := hR.1.len
    have hwt := wtAll_succ (wt := wtCard) hx
    have hwx : wtCard x = x.length := rfl
    conv => whnf
    refine SemK.index (by kernel_rfl) (hV.ext hE) k rfl hd ?_
    intro b o _ hb
    conv => whnf
    refine SemK.load1 (by kernel_rfl) hb (k := 0) rfl ?_
    conv => whnf
    refine (laws_szInt64SE hR.1.le hr (by omega)).mono ?_
    rintro _ w2 ⟨r2, rfl, hr2, e2⟩
    conv => whnf
    with_reducible refine IfB.dec (fun h5 => ?_) (fun h5 => ?_)
    · conv => whnf
      exact ⟨-1, rfl, .inl rfl, Ext.trans hE e2⟩
    · conv => whnf
      refine SemK.add (((k + 1 : Nat) : Int)) (by omega) (by omega) (by omega) ?_
      conv => whnf
      rcases hr2 with hr2 | ⟨p, q⟩
      · omega
      exact ⟨k + 1, by omega, r2, rfl, by omega, p, by omega, Ext.trans hE e2⟩
  · conv => whnf
    rw [List.take_of_length_le (by omega)] at hrl
    exact ⟨r, rfl, .inr ⟨hr, by omega⟩, hE⟩
theorem laws_toInt64SSO {w : World} {a : Option Addr} {n c : Nat} {xs : List (List Int)} (h : ArrS RCard w a n xs) (hsz : n + wtAll wtCard xs ≤ 1048576) :
    Does Tryd.prog 9 [.slice a n c] w (fun v w' => ∃ b, v = .slice (some ⟨b, 0, none⟩) n n ∧ w.heap.size ≤ b ∧ OwnN OCard w' w.heap.size w'.heap.size (some ⟨b, 0, none⟩) n 51 xs ∧ Ext w w') := by
  have hn := h.len
  have hm := h.le
  have hsm := FS_of hn hsz
  have hsm1 := hsm.1
  obtain ⟨hs, hV, hE⟩ := h
  have hl := hV.len
  refine Does.of_vc tabok Tryd.func9 rfl rfl rfl (by kernel_rfl) ?_; conv => whnf
  refine SemK.make mk_22 n rfl (by omega) (by omega) ?_
  intro b w1 g1 l1 e1 hB
  conv => whnf
  refine LoopK.rule [0, 3, 4] (fun (k : Nat) vs w' => ∃ gs fps, vs = [.slice a n c, .slice (some ⟨b, 0, none⟩) n n, .int .i64 k] ∧ k ≤ n ∧ Ext w w' ∧ gs.length = k ∧ ElO OCard w' gs (xs.take k) fps ∧ InIv w1.heap.size w'.heap.size fps.flatten ∧ Blk w' b (flat eH gs ++ flat (fun _ : Unit => [.slice none 0 0]) (List.replicate (n - k) ())) 51 ∧ w1.heap.size ≤ w'.heap.size) (fun k => n - k) tab tabok (by kernel_rfl) 0 ⟨[], [], rfl, by omega, e1, rfl, ElO.nil, InIv.nil, by simpa [flat] using hB, Nat.le_refl _⟩ ?_
  rintro k g _ w' ⟨gs, fps, rfl, hk, hX, hgl, hEl, hIv, hO, hszz⟩
  conv => whnf
  with_reducible refine IfB.dec (fun h4 => ?_) (fun h4 => ?_)
  · obtain ⟨x, hx⟩ : ∃ x, xs[k]? = some x := get_of_lt (by omega)
    obtain ⟨d, hd⟩ : ∃ d, hs[k]? = some d := get_of_lt (by omega)
    have hR := hE.2 k d x hd hx
    have hF := hsm.2 x (List.mem_of_getElem? hx)
    conv => whnf
    refine SemK.index (by kernel_rfl) (hV.ext hX) k rfl hd ?_
    intro b' o _ hb
    conv => whnf
    refine SemK.load1 (by kernel_rfl) hb (k := 0) rfl ?_
    conv => whnf
    refine (laws_toInt64S (hR.1.ext hX) (by have := hR.1.len; unfold FCard at hF; omega)).mono ?_
    rintro _ w2 ⟨b2, rfl, g2, e2, O2'⟩
    obtain ⟨d2, hd2⟩ : ∃ d2 : Hd, d2 = ⟨some ⟨b2, 0, none⟩, d.n, d.n⟩ := ⟨_, rfl⟩
    have O2 : OCard w2 d2 x [b2] := by rw [hd2]; exact OA.of O2' (Nat.le_refl _)
    have l2 : b2 < w2.heap.size := O2'.lt _ rfl
    rw [show Value.slice (some ⟨b2, 0, none⟩) d.n d.n = .slice d2.a d2.n d2.c by rw [hd2]]
    conv => whnf
    refine SemK.indexOwn (sz := 1) (by kernel_rfl) k rfl (by omega) ?_
    conv => whnf
    obtain ⟨j, hj⟩ : ∃ j, n - k = j + 1 := ⟨n - k - 1, by omega⟩
    rw [hj] at hO
    have hz := flat_length (enc := fun _ : Unit => [Value.slice none 0 0]) (sz := 1) (fun _ => rfl) (List.replicate (j + 1) ())
    rw [List.length_replicate] at hz
    refine SemK.store1 (by kernel_rfl) (hO.ext e2) (k := 0 + k * 1) (by simp only [List.length_append, flat_length eH_len, hz, hgl]; omega) rfl ?_
    intro w3 c3 B3
    replace B3 : Blk w3 b ((flat eH gs ++ flat (fun _ : Unit => [Value.slice none 0 0]) (List.replicate (j + 1) ())).set (0 + k * 1) (.slice d2.a d2.n d2.c)) 51 := B3
    rw [show 0 + k * 1 = k by omega, flat_set1 hgl] at B3
    conv => whnf
    refine SemK.add (((k + 1 : Nat) : Int)) (by omega) (by omega) (by omega) ?_
    conv => whnf
    have s2 := e2.size
    have s3 := c3.but.size
    have hlt := hEl.lt
    have hEl' : ElO OCard w3 gs (xs.take k) fps := (hEl.keep (fun j hj => e2.block j (hlt j hj))).keep (fun j hj => c3.but.block j (by have := hIv.2 j hj; omega) (by have := hlt j hj; omega))
    have O3 : OCard w3 d2 x [b2] := OwE.keep O2 (fun j hj => by
      simp only [List.mem_singleton] at hj
      subst hj
      exact c3.but.block _ (by omega) l2)
    have e : xs.take (k + 1) = xs.take k ++ [x] := by rw [List.take_add_one, hx]; rfl
    have e' : n - (k + 1) = j := by omega
    refine ⟨k + 1, by omega, gs ++ [d2], fps ++ [[b2]], rfl, by omega, (Ext.trans hX e2).but_trans c3.but (by omega), by simp [hgl], ?_, ?_, ?_, by omega⟩
    · rw [e]
      exact hEl'.snoc O3
    · rw [List.flatten_append]
      refine InIv.app hIv ?_ hszz (by omega)
      exact ⟨by simp, by simp; omega⟩
    · rw [e']
      exact B3
  · conv => whnf
    have hkn : k = n := by omega
    subst hkn
    rw [List.take_of_length_le (by omega)] at hEl
    have s1 := e1.size
    have hlb := hO.lt
    refine ⟨b, rfl, g1, ⟨_, ⟨gs, fps, ⟨hgl, by omega, .inr ⟨b, [], rfl, by simpa [flat] using hO⟩⟩, hEl, rfl⟩, ?_⟩, hX⟩
    exact InIv.app (InIv.blks (NewAt.some g1) (by rintro x hx; cases hx; exact l1)) hIv (by omega) hszz
theorem laws_markInt64SSN {w : World} {lo hi : Nat} {a : Option Addr} {n c t k0 : Nat} {xs : List (List Int)} (h : OwnN OCard w lo hi a n t xs) (hk0 : k0 + wtAll wtCard xs ≤ 1000000000) :
    Does Tryd.prog 13 [.slice a n c, .int .i64 k0] w (fun v w' => v = .int .i64 ((k0 + wtAll wtCard xs : Nat) : Int) ∧ Mod (Iv lo hi) w w' ∧ OwnN OCard w' lo hi a n t (mkAll mkCard wtCard k0 xs)) := by
  obtain ⟨fp, h, hI⟩ := h
  refine (laws_markInt64SS h hI.1 hk0).mono ?_
  rintro _ w' ⟨rfl, M, O⟩
  exact ⟨rfl, M.mono (fun k hk => hI.2 k hk), fp, O, hI⟩
end Go.Proofs.YtpjeooikjcdbpaaDoor
