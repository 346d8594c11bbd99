/- Contracts of functions of the given program, of the reference and of the laws: each says what a call returns, for all arguments that meet the premises that the theorem itself names. -/
import Derived.Test.YtkjmbjedbmblmaaGreatDoorOffice
import Derived.Test.YtkjmbjedbmblmaaGreatDoorVcOpen
namespace Go.M
open Go Go.Vc
def FCard (x : List Int) : Prop := x.length ≤ 1048576
def FDeck (x : List (List Int)) : Prop := x.length ≤ 1048576 ∧ ∀ y ∈ x, FCard y
def FTots (x : List TTotal) : Prop := x.length ≤ 1048576
def okCard (_ : List Int) : Prop := True
def okDeck (_ : List (List Int)) : Prop := True
def okTots (x : List TTotal) : Prop := ∀ y ∈ x, y.ok
abbrev FSz {α : Type} (F : α → Prop) (x : List α) : Prop := x.length ≤ 1048576 ∧ ∀ y ∈ x, F y
theorem flat_set1 {gs : List Hd} {d : Hd} {j k : Nat} (hk : gs.length = k) : (flat eH gs ++ flat (fun _ : Unit => [Value.slice none 0 0]) (List.replicate (j + 1) ())).set k (.slice d.a d.n d.c) = flat eH (gs ++ [d]) ++ flat (fun _ : Unit => [Value.slice none 0 0]) (List.replicate j ()) := by
  have hl : (flat eH gs).length = k := by rw [flat_length eH_len, hk]; omega
  rw [List.set_append_right _ _ (by omega), hl, Nat.sub_self]
  simp [flat, List.replicate_succ, eH]
end Go.M
namespace Go.Proofs.YtkjmbjedbmblmaaGreatDoor
open Go Go.RowKit Go.Vc Go.M
theorem laws_szInt64S {w : World} {a : Option Addr} {n c : Nat} (hm : n ≤ 9223372036854775807) {left : Int} (h0 : 0 ≤ left) (h1 : left ≤ 1048576) :
    Does Tryz.prog 215 [.slice a n c, .int .i64 left] w (fun v w' => ∃ r : Int, v = .int .i64 r ∧ (r = -1 ∨ (0 ≤ r ∧ r ≤ left ∧ n ≤ 1048576)) ∧ Ext w w') := by
  refine Does.of_vc tabok Tryz.func215 rfl rfl rfl (by kernel_rfl) ?_; conv => whnf
  refine SemK.sub (left - n) rfl (by omega) (by omega) ?_
  conv => whnf
  with_reducible refine IfB.dec (fun p0 => ?_) (fun p0 => ?_)
  · conv => whnf
    exact ⟨-1, rfl, .inl rfl, Ext.refl _⟩
  conv => whnf
  exact ⟨left - n, rfl, .inr ⟨by omega, by omega, by omega⟩, Ext.refl _⟩
theorem laws_szCard {w : World} {d : Hd} {xs : List Int} (A : Arr eI 1 w d.a d.n xs) {left : Int} (h0 : 0 ≤ left) (h1 : left ≤ 1048576) :
    Does Tryz.prog 115 [.agg ⟨eH d⟩, .int .i64 left] w (fun v w' => ∃ r : Int, v = .int .i64 r ∧ (r = -1 ∨ (0 ≤ r ∧ r ≤ left ∧ xs.length ≤ 1048576)) ∧ Ext w w') := by
  have hn := A.len
  have hm := A.le
  refine Does.of_vc tabok Tryz.func115 rfl rfl rfl (by kernel_rfl) ?_; conv => whnf
  refine SemK.box ?_
  intro b w1 _ _ e1 hB
  have hc : Cells w1 b 0 (eH d) := hB.cells
  conv => whnf
  refine SemK.load1 (by kernel_rfl) hc (k := 0) rfl ?_
  conv => whnf
  refine (laws_szInt64S hm h0 h1).mono ?_
  rintro _ w2 ⟨r, rfl, hr, e2⟩
  conv => whnf
  with_reducible refine IfB.dec (fun h5 => ?_) (fun h5 => ?_)
  · conv => whnf
    exact ⟨-1, rfl, .inl rfl, Ext.trans e1 e2⟩
  · conv => whnf
    refine ⟨r, rfl, ?_, Ext.trans e1 e2⟩
    rcases hr with hr | ⟨p, q, s⟩
    · omega
    · exact .inr ⟨p, q, by omega⟩
theorem laws_toCard {w : World} {d : Hd} {xs : List Int} (A : Arr eI 1 w d.a d.n xs) (hF : FCard xs) :
    Does Tryz.prog 125 [.agg ⟨eH d⟩] w (fun v w' => ∃ d2, v = .agg ⟨eH d2⟩ ∧ RN RCard w' w.heap.size w'.heap.size d2 xs ∧ Ext w w') := by
  have hn := A.len
  unfold FCard at hF
  refine Does.of_vc tabok Tryz.func125 rfl rfl rfl (by kernel_rfl) ?_; conv => whnf
  refine SemK.box ?_
  intro b w1 _ l1 e1 hB
  have hc : Cells w1 b 0 (eH d) := hB.cells
  conv => whnf
  refine SemK.alloc (z := .agg #[.slice none 0 0]) (by kernel_rfl) ?_
  intro b128 w128 g128 l128 e128 B128
  conv => whnf
  refine SemK.alloc (z := .agg #[.slice none 0 0]) (by kernel_rfl) ?_
  intro b129 w129 g129 l129 e129 B129
  conv => whnf
  refine SemK.load1 (by kernel_rfl) (hc.ext (Ext.trans e128 e129)) (k := 0) rfl ?_
  conv => whnf
  refine (laws_toInt64S (A.ext (Ext.trans (Ext.trans e1 e128) e129)) (by omega)).mono ?_
  rintro _ w134 ⟨b130, rfl, q131, e132, O133⟩
  conv => whnf
  refine SemK.store1 (by kernel_rfl) (B129.ext e132) (k := 0) (by decide) rfl ?_
  intro w135 c135 B135
  conv => whnf
  refine SemK.loadAgg (n := 1) (by kernel_rfl) B135.cells rfl ?_
  conv => whnf
  refine SemK.storeAll (vs := [Value.slice (some { block := b130, off := 0 }) d.n d.n]) (by kernel_rfl) (B128.ext (Ext.but_trans (Ext.trans e129 e132) c135.but g129)) rfl rfl (by simp [cellish]) ?_
  intro w136 c136 B136
  conv => whnf
  refine CellK.of (run_loadAgg (n := 1) (by kernel_rfl) rfl B136.cells) ?_
  conv => whnf
  have O6 := (O133.mod c135.but (by rintro x hx; cases hx; show ¬ b130 = _; omega)).mod c136.but (by rintro x hx; cases hx; show ¬ b130 = _; omega)
  refine ⟨⟨some ⟨b130, 0, none⟩, d.n, d.n⟩, rfl, (RN.own O6 (NewAt.some (by have := e129.size; have := e128.size; have := e1.size; omega)) (Nat.le_refl _)), ?_⟩
  exact (((Ext.trans e1 (Ext.trans e128 (Ext.trans e129 e132))).but_trans c135.but (by have := e128.size; have := e1.size; omega)).but_trans c136.but (by have := e1.size; omega))
theorem laws_szCardS {w : World} {a : Option Addr} {n c : Nat} {xs : List (List Int)} (h : ArrS RCard w a n xs) (_hok : ∀ x ∈ xs, okCard x) {left : Int} (h0 : 0 ≤ left) (h1 : left ≤ 1048576) :
    Does Tryz.prog 30 [.slice a n c, .int .i64 left] w (fun v w' => ∃ r : Int, v = .int .i64 r ∧ (r = -1 ∨ (0 ≤ r ∧ r ≤ left ∧ FSz FCard xs)) ∧ Ext w w') := by
  have hn := h.len
  have hm := h.le
  obtain ⟨hs, hV, hE0⟩ := h
  have hl := hV.len
  refine Does.of_vc tabok Tryz.func30 rfl rfl rfl (by kernel_rfl) ?_; conv => whnf
  refine SemK.sub (left - n) rfl (by omega) (by omega) ?_
  conv => whnf
  with_reducible refine IfB.dec (fun p0 => ?_) (fun p0 => ?_)
  · conv => whnf
    exact ⟨-1, rfl, .inl rfl, Ext.refl _⟩
  conv => whnf
  refine LoopK.rule [0, 1, 5] (fun (k : Nat) vs w' => ∃ r : Int, vs = [.slice a n c, .int .i64 r, .int .i64 k] ∧ k ≤ n ∧ 0 ≤ r ∧ r ≤ left ∧ (∀ y ∈ xs.take k, FCard y) ∧ Ext w w') (fun k => n - k) tab tabok (by kernel_rfl) 0 ⟨left - n, rfl, by omega, by omega, by omega, by simp, Ext.refl _⟩ ?_
  rintro k g _ w' ⟨r, rfl, hk, hr, hrl, hs', hE⟩
  conv => whnf
  with_reducible refine IfB.dec (fun h4 => ?_) (fun h4 => ?_)
  · obtain ⟨x, hx⟩ : ∃ x, xs[k]? = some x := get_of_lt (by omega)
    obtain ⟨d, hd⟩ : ∃ d, hs[k]? = some d := get_of_lt (by omega)
    have hR := hE0.2 k d x hd hx
    conv => whnf
    refine SemK.index (by kernel_rfl) (hV.ext hE) k rfl hd ?_
    intro b o _ hb
    conv => whnf
    refine SemK.loadAgg (by kernel_rfl) (n := 1) hb rfl ?_
    conv => whnf
    refine (laws_szCard (hR.1.ext hE) hr (by omega)).mono ?_
    rintro _ w2 ⟨r2, rfl, hr2, e2⟩
    conv => whnf
    with_reducible refine IfB.dec (fun h5 => ?_) (fun h5 => ?_)
    · conv => whnf
      exact ⟨-1, rfl, .inl rfl, Ext.trans hE e2⟩
    · conv => whnf
      refine SemK.add (((k + 1 : Nat) : Int)) (by omega) (by omega) (by omega) ?_
      conv => whnf
      rcases hr2 with hr2 | ⟨p, q⟩
      · omega
      have hq : FCard x := by exact q.2
      refine ⟨k + 1, by omega, r2, rfl, by omega, p, Int.le_trans (q.1) hrl, fun y hy => ?_, Ext.trans hE e2⟩
      rw [List.take_add_one, hx] at hy
      rcases List.mem_append.1 hy with hy | hy
      · exact hs' y hy
      · simp only [Option.toList_some, List.mem_singleton] at hy
        subst hy
        exact hq
  · conv => whnf
    rw [List.take_of_length_le (by omega)] at hs'
    exact ⟨r, rfl, .inr ⟨hr, hrl, by omega, hs'⟩, hE⟩
theorem laws_toCardS {w : World} {a : Option Addr} {n c : Nat} {xs : List (List Int)} (h : ArrS RCard w a n xs) (hsm : FSz FCard xs) :
    Does Tryz.prog 34 [.slice a n c] w (fun v w' => ∃ d : Hd, v = .slice d.a d.n d.c ∧ RN (RS RCard) w' w.heap.size w'.heap.size d xs ∧ Ext w w') := by
  have hn := h.len
  have hm := h.le
  have hsm1 := hsm.1
  obtain ⟨hs, hV, hE⟩ := h
  have hl := hV.len
  refine Does.of_vc tabok Tryz.func34 rfl rfl rfl (by kernel_rfl) ?_; conv => whnf
  refine SemK.make mk_24 n rfl (by omega) (by omega) ?_
  intro b w1 g1 l1 e1 hB
  conv => whnf
  refine LoopK.rule [0, 3, 4] (fun (k : Nat) vs w' => ∃ gs, vs = [.slice a n c, .slice (some ⟨b, 0, none⟩) n n, .int .i64 k] ∧ k ≤ n ∧ Ext w w' ∧ gs.length = k ∧ ElN RCard w' w1.heap.size w'.heap.size gs (xs.take k) ∧ Blk w' b (flat eH gs ++ flat (fun _ : Unit => [.slice none 0 0]) (List.replicate (n - k) ())) 145 ∧ w1.heap.size ≤ w'.heap.size) (fun k => n - k) tab tabok (by kernel_rfl) 0 ⟨[], rfl, by omega, e1, rfl, ElN.nil, by simpa [flat] using hB, Nat.le_refl _⟩ ?_
  rintro k g _ w' ⟨gs, rfl, hk, hX, hgl, hEl, hO, hsz⟩
  conv => whnf
  with_reducible refine IfB.dec (fun h4 => ?_) (fun h4 => ?_)
  · obtain ⟨x, hx⟩ : ∃ x, xs[k]? = some x := get_of_lt (by omega)
    obtain ⟨d, hd⟩ : ∃ d, hs[k]? = some d := get_of_lt (by omega)
    have hR := hE.2 k d x hd hx
    have hF := hsm.2 x (List.mem_of_getElem? hx)
    conv => whnf
    refine SemK.index (by kernel_rfl) (hV.ext hX) k rfl hd ?_
    intro b' o _ hb
    conv => whnf
    refine SemK.loadAgg (by kernel_rfl) (n := 1) hb rfl ?_
    conv => whnf
    refine (laws_toCard (hR.1.ext hX) hF).mono ?_
    rintro _ w2 ⟨d2, rfl, N2, e2⟩
    conv => whnf
    refine SemK.indexOwn (sz := 1) (by kernel_rfl) k rfl (by omega) ?_
    conv => whnf
    obtain ⟨j, hj⟩ : ∃ j, n - k = j + 1 := ⟨n - k - 1, by omega⟩
    have hset := flat_set eH_len gs [.slice none 0 0] (eH d2) rfl d2 rfl j
    simp only [hgl] at hset
    rw [hj] at hO
    have hz := flat_length (enc := fun _ : Unit => [Value.slice none 0 0]) (sz := 1) (fun _ => rfl) (List.replicate (j + 1) ())
    rw [List.length_replicate] at hz
    refine SemK.storeAgg (by kernel_rfl) (n := 1) (hO.ext e2) (vs := eH d2) rfl (k := 0 + k * 1) (by simp only [List.length_append, flat_length eH_len, hz, hgl]; omega) (by simp [eH, cellish]) ?_
    intro w3 c3 B3
    rw [Nat.zero_add, hset] at B3
    conv => whnf
    refine SemK.add (((k + 1 : Nat) : Int)) (by omega) (by omega) (by omega) ?_
    conv => whnf
    have s2 := e2.size
    have s3 := c3.but.size
    have hEl' : ElN RCard w3 w1.heap.size w3.heap.size gs (xs.take k) := (hEl.ext e2 (Nat.le_refl _) s2).mod c3.but (fun j hj h => by have := h.1; omega) (Nat.le_refl _) s3
    have N3 : RN RCard w3 w1.heap.size w3.heap.size d2 x := N2.mod c3.but (fun j hj h => by have := h.1; omega) hsz s3
    have e : xs.take (k + 1) = xs.take k ++ [x] := by rw [List.take_add_one, hx]; rfl
    have e' : n - (k + 1) = j := by omega
    refine ⟨k + 1, by omega, gs ++ [d2], rfl, by omega, (Ext.trans hX e2).but_trans c3.but (by omega), by simp [hgl], ?_, ?_, by omega⟩
    · rw [e]
      exact hEl'.snoc N3
    · rw [e']
      exact B3
  · conv => whnf
    have hkn : k = n := by omega
    subst hkn
    rw [List.take_of_length_le (by omega)] at hEl
    exact ⟨⟨some ⟨b, 0, none⟩, k, k⟩, rfl, RN.nest (by simpa [flat] using hO) g1 hgl (by omega) (hEl.ext (Ext.refl _) e1.size (Nat.le_refl _)), hX⟩
theorem laws_szCardSS {w : World} {a : Option Addr} {n c : Nat} {xs : List (List (List Int))} (h : ArrS RDeck w a n xs) (_hok : ∀ x ∈ xs, okDeck x) {left : Int} (h0 : 0 ≤ left) (h1 : left ≤ 1048576) :
    Does Tryz.prog 236 [.slice a n c, .int .i64 left] w (fun v w' => ∃ r : Int, v = .int .i64 r ∧ (r = -1 ∨ (0 ≤ r ∧ r ≤ left ∧ FSz FDeck xs)) ∧ Ext w w') := by
  have hn := h.len
  have hm := h.le
  obtain ⟨hs, hV, hE0⟩ := h
  have hl := hV.len
  refine Does.of_vc tabok Tryz.func236 rfl rfl rfl (by kernel_rfl) ?_; conv => whnf
  refine SemK.sub (left - n) rfl (by omega) (by omega) ?_
  conv => whnf
  with_reducible refine IfB.dec (fun p0 => ?_) (fun p0 => ?_)
  · conv => whnf
    exact ⟨-1, rfl, .inl rfl, Ext.refl _⟩
  conv => whnf
  refine LoopK.rule [0, 1, 5] (fun (k : Nat) vs w' => ∃ r : Int, vs = [.slice a n c, .int .i64 r, .int .i64 k] ∧ k ≤ n ∧ 0 ≤ r ∧ r ≤ left ∧ (∀ y ∈ xs.take k, FDeck y) ∧ Ext w w') (fun k => n - k) tab tabok (by kernel_rfl) 0 ⟨left - n, rfl, by omega, by omega, by omega, by simp, Ext.refl _⟩ ?_
  rintro k g _ w' ⟨r, rfl, hk, hr, hrl, hs', hE⟩
  conv => whnf
  with_reducible refine IfB.dec (fun h4 => ?_) (fun h4 => ?_)
  · obtain ⟨x, hx⟩ : ∃ x, xs[k]? = some x := get_of_lt (by omega)
    obtain ⟨d, hd⟩ : ∃ d, hs[k]? = some d := get_of_lt (by omega)
    have hR := hE0.2 k d x hd hx
    conv => whnf
    refine SemK.index (by kernel_rfl) (hV.ext hE) k rfl hd ?_
    intro b o _ hb
    conv => whnf
    refine SemK.load1 (by kernel_rfl) hb (k := 0) rfl ?_
    conv => whnf
    refine (laws_szCardS (hR.1.ext hE) (fun _ _ => trivial) hr (by omega)).mono ?_
    rintro _ w2 ⟨r2, rfl, hr2, e2⟩
    conv => whnf
    with_reducible refine IfB.dec (fun h5 => ?_) (fun h5 => ?_)
    · conv => whnf
      exact ⟨-1, rfl, .inl rfl, Ext.trans hE e2⟩
    · conv => whnf
      refine SemK.add (((k + 1 : Nat) : Int)) (by omega) (by omega) (by omega) ?_
      conv => whnf
      rcases hr2 with hr2 | ⟨p, q⟩
      · omega
      have hq : FDeck x := by exact q.2
      refine ⟨k + 1, by omega, r2, rfl, by omega, p, Int.le_trans (q.1) hrl, fun y hy => ?_, Ext.trans hE e2⟩
      rw [List.take_add_one, hx] at hy
      rcases List.mem_append.1 hy with hy | hy
      · exact hs' y hy
      · simp only [Option.toList_some, List.mem_singleton] at hy
        subst hy
        exact hq
  · conv => whnf
    rw [List.take_of_length_le (by omega)] at hs'
    exact ⟨r, rfl, .inr ⟨hr, hrl, by omega, hs'⟩, hE⟩
theorem laws_toCardSS {w : World} {a : Option Addr} {n c : Nat} {xs : List (List (List Int))} (h : ArrS RDeck w a n xs) (hsm : FSz FDeck xs) :
    Does Tryz.prog 240 [.slice a n c] w (fun v w' => ∃ d : Hd, v = .slice d.a d.n d.c ∧ RN (RS RDeck) w' w.heap.size w'.heap.size d xs ∧ Ext w w') := by
  have hn := h.len
  have hm := h.le
  have hsm1 := hsm.1
  obtain ⟨hs, hV, hE⟩ := h
  have hl := hV.len
  refine Does.of_vc tabok Tryz.func240 rfl rfl rfl (by kernel_rfl) ?_; conv => whnf
  refine SemK.make mk_87 n rfl (by omega) (by omega) ?_
  intro b w1 g1 l1 e1 hB
  conv => whnf
  refine LoopK.rule [0, 3, 4] (fun (k : Nat) vs w' => ∃ gs, vs = [.slice a n c, .slice (some ⟨b, 0, none⟩) n n, .int .i64 k] ∧ k ≤ n ∧ Ext w w' ∧ gs.length = k ∧ ElN RDeck w' w1.heap.size w'.heap.size gs (xs.take k) ∧ Blk w' b (flat eH gs ++ flat (fun _ : Unit => [.slice none 0 0]) (List.replicate (n - k) ())) 24 ∧ w1.heap.size ≤ w'.heap.size) (fun k => n - k) tab tabok (by kernel_rfl) 0 ⟨[], rfl, by omega, e1, rfl, ElN.nil, by simpa [flat] using hB, Nat.le_refl _⟩ ?_
  rintro k g _ w' ⟨gs, rfl, hk, hX, hgl, hEl, hO, hsz⟩
  conv => whnf
  with_reducible refine IfB.dec (fun h4 => ?_) (fun h4 => ?_)
  · obtain ⟨x, hx⟩ : ∃ x, xs[k]? = some x := get_of_lt (by omega)
    obtain ⟨d, hd⟩ : ∃ d, hs[k]? = some d := get_of_lt (by omega)
    have hR := hE.2 k d x hd hx
    have hF := hsm.2 x (List.mem_of_getElem? hx)
    conv => whnf
    refine SemK.index (by kernel_rfl) (hV.ext hX) k rfl hd ?_
    intro b' o _ hb
    conv => whnf
    refine SemK.load1 (by kernel_rfl) hb (k := 0) rfl ?_
    conv => whnf
    refine (laws_toCardS (hR.1.ext hX) hF).mono ?_
    rintro _ w2 ⟨d2, rfl, N2, e2⟩
    conv => whnf
    refine SemK.indexOwn (sz := 1) (by kernel_rfl) k rfl (by omega) ?_
    conv => whnf
    obtain ⟨j, hj⟩ : ∃ j, n - k = j + 1 := ⟨n - k - 1, by omega⟩
    rw [hj] at hO
    have hz := flat_length (enc := fun _ : Unit => [Value.slice none 0 0]) (sz := 1) (fun _ => rfl) (List.replicate (j + 1) ())
    rw [List.length_replicate] at hz
    refine SemK.store1 (by kernel_rfl) (hO.ext e2) (k := 0 + k * 1) (by simp only [List.length_append, flat_length eH_len, hz, hgl]; omega) rfl ?_
    intro w3 c3 B3
    replace B3 : Blk w3 b ((flat eH gs ++ flat (fun _ : Unit => [Value.slice none 0 0]) (List.replicate (j + 1) ())).set (0 + k * 1) (.slice d2.a d2.n d2.c)) 24 := B3
    rw [show 0 + k * 1 = k by omega, flat_set1 hgl] at B3
    conv => whnf
    refine SemK.add (((k + 1 : Nat) : Int)) (by omega) (by omega) (by omega) ?_
    conv => whnf
    have s2 := e2.size
    have s3 := c3.but.size
    have hEl' : ElN RDeck w3 w1.heap.size w3.heap.size gs (xs.take k) := (hEl.ext e2 (Nat.le_refl _) s2).mod c3.but (fun j hj h => by have := h.1; omega) (Nat.le_refl _) s3
    have N3 : RN RDeck w3 w1.heap.size w3.heap.size d2 x := N2.mod c3.but (fun j hj h => by have := h.1; omega) hsz s3
    have e : xs.take (k + 1) = xs.take k ++ [x] := by rw [List.take_add_one, hx]; rfl
    have e' : n - (k + 1) = j := by omega
    refine ⟨k + 1, by omega, gs ++ [d2], rfl, by omega, (Ext.trans hX e2).but_trans c3.but (by omega), by simp [hgl], ?_, ?_, by omega⟩
    · rw [e]
      exact hEl'.snoc N3
    · rw [e']
      exact B3
  · conv => whnf
    have hkn : k = n := by omega
    subst hkn
    rw [List.take_of_length_le (by omega)] at hEl
    exact ⟨⟨some ⟨b, 0, none⟩, k, k⟩, rfl, RN.nest (by simpa [flat] using hO) g1 hgl (by omega) (hEl.ext (Ext.refl _) e1.size (Nat.le_refl _)), hX⟩
theorem laws_szTotalSS {w : World} {a : Option Addr} {n c : Nat} {xs : List (List TTotal)} (h : ArrS RTots w a n xs) (hok : ∀ x ∈ xs, okTots x) {left : Int} (h0 : 0 ≤ left) (h1 : left ≤ 1048576) :
    Does Tryz.prog 237 [.slice a n c, .int .i64 left] w (fun v w' => ∃ r : Int, v = .int .i64 r ∧ (r = -1 ∨ (0 ≤ r ∧ r ≤ left ∧ FSz FTots xs)) ∧ Ext w w') := by
  have hn := h.len
  have hm := h.le
  obtain ⟨hs, hV, hE0⟩ := h
  have hl := hV.len
  refine Does.of_vc tabok Tryz.func237 rfl rfl rfl (by kernel_rfl) ?_; conv => whnf
  refine SemK.sub (left - n) rfl (by omega) (by omega) ?_
  conv => whnf
  with_reducible refine IfB.dec (fun p0 => ?_) (fun p0 => ?_)
  · conv => whnf
    exact ⟨-1, rfl, .inl rfl, Ext.refl _⟩
  conv => whnf
  refine LoopK.rule [0, 1, 5] (fun (k : Nat) vs w' => ∃ r : Int, vs = [.slice a n c, .int .i64 r, .int .i64 k] ∧ k ≤ n ∧ 0 ≤ r ∧ r ≤ left ∧ (∀ y ∈ xs.take k, FTots y) ∧ Ext w w') (fun k => n - k) tab tabok (by kernel_rfl) 0 ⟨left - n, rfl, by omega, by omega, by omega, by simp, Ext.refl _⟩ ?_
  rintro k g _ w' ⟨r, rfl, hk, hr, hrl, hs', hE⟩
  conv => whnf
  with_reducible refine IfB.dec (fun h4 => ?_) (fun h4 => ?_)
  · obtain ⟨x, hx⟩ : ∃ x, xs[k]? = some x := get_of_lt (by omega)
    obtain ⟨d, hd⟩ : ∃ d, hs[k]? = some d := get_of_lt (by omega)
    have hR := hE0.2 k d x hd hx
    conv => whnf
    refine SemK.index (by kernel_rfl) (hV.ext hE) k rfl hd ?_
    intro b o _ hb
    conv => whnf
    refine SemK.load1 (by kernel_rfl) hb (k := 0) rfl ?_
    conv => whnf
    refine (laws_szTotalS (hR.1.ext hE) (hok x (List.mem_of_getElem? hx)) hr (by omega)).mono ?_
    rintro _ w2 ⟨r2, rfl, hr2, e2⟩
    conv => whnf
    with_reducible refine IfB.dec (fun h5 => ?_) (fun h5 => ?_)
    · conv => whnf
      exact ⟨-1, rfl, .inl rfl, Ext.trans hE e2⟩
    · conv => whnf
      refine SemK.add (((k + 1 : Nat) : Int)) (by omega) (by omega) (by omega) ?_
      conv => whnf
      rcases hr2 with hr2 | ⟨p, q⟩
      · omega
      have hq : FTots x := by have := hR.1.len; unfold FTots; omega
      refine ⟨k + 1, by omega, r2, rfl, by omega, p, Int.le_trans (by omega) hrl, fun y hy => ?_, Ext.trans hE e2⟩
      rw [List.take_add_one, hx] at hy
      rcases List.mem_append.1 hy with hy | hy
      · exact hs' y hy
      · simp only [Option.toList_some, List.mem_singleton] at hy
        subst hy
        exact hq
  · conv => whnf
    rw [List.take_of_length_le (by omega)] at hs'
    exact ⟨r, rfl, .inr ⟨hr, hrl, by omega, hs'⟩, hE⟩
theorem laws_toTotalSS {w : World} {a : Option Addr} {n c : Nat} {xs : List (List TTotal)} (h : ArrS RTots w a n xs) (hsm : FSz FTots xs) :
    Does Tryz.prog 241 [.slice a n c] w (fun v w' => ∃ d : Hd, v = .slice d.a d.n d.c ∧ RN (RS RTots) w' w.heap.size w'.heap.size d xs ∧ Ext w w') := by
  have hn := h.len
  have hm := h.le
  have hsm1 := hsm.1
  obtain ⟨hs, hV, hE⟩ := h
  have hl := hV.len
  refine Does.of_vc tabok Tryz.func241 rfl rfl rfl (by kernel_rfl) ?_; conv => whnf
  refine SemK.make mk_88 n rfl (by omega) (by omega) ?_
  intro b w1 g1 l1 e1 hB
  conv => whnf
  refine LoopK.rule [0, 3, 4] (fun (k : Nat) vs w' => ∃ gs, vs = [.slice a n c, .slice (some ⟨b, 0, none⟩) n n, .int .i64 k] ∧ k ≤ n ∧ Ext w w' ∧ gs.length = k ∧ ElN RTots w' w1.heap.size w'.heap.size gs (xs.take k) ∧ Blk w' b (flat eH gs ++ flat (fun _ : Unit => [.slice none 0 0]) (List.replicate (n - k) ())) 37 ∧ w1.heap.size ≤ w'.heap.size) (fun k => n - k) tab tabok (by kernel_rfl) 0 ⟨[], rfl, by omega, e1, rfl, ElN.nil, by simpa [flat] using hB, Nat.le_refl _⟩ ?_
  rintro k g _ w' ⟨gs, rfl, hk, hX, hgl, hEl, hO, hsz⟩
  conv => whnf
  with_reducible refine IfB.dec (fun h4 => ?_) (fun h4 => ?_)
  · obtain ⟨x, hx⟩ : ∃ x, xs[k]? = some x := get_of_lt (by omega)
    obtain ⟨d, hd⟩ : ∃ d, hs[k]? = some d := get_of_lt (by omega)
    have hR := hE.2 k d x hd hx
    have hF := hsm.2 x (List.mem_of_getElem? hx)
    conv => whnf
    refine SemK.index (by kernel_rfl) (hV.ext hX) k rfl hd ?_
    intro b' o _ hb
    conv => whnf
    refine SemK.load1 (by kernel_rfl) hb (k := 0) rfl ?_
    conv => whnf
    refine (laws_toTotalS (hR.1.ext hX) (by have := hR.1.len; unfold FTots at hF; omega)).mono ?_
    rintro _ w2 ⟨b2, rfl, g2, e2, O2⟩
    obtain ⟨d2, hd2⟩ : ∃ d2 : Hd, d2 = ⟨some ⟨b2, 0, none⟩, d.n, d.n⟩ := ⟨_, rfl⟩
    have N2 : RN RTots w2 w'.heap.size w2.heap.size d2 x := by rw [hd2]; exact RN.own O2 (NewAt.some g2) (Nat.le_refl _)
    rw [show Value.slice (some ⟨b2, 0, none⟩) d.n d.n = .slice d2.a d2.n d2.c by rw [hd2]]
    conv => whnf
    refine SemK.indexOwn (sz := 1) (by kernel_rfl) k rfl (by omega) ?_
    conv => whnf
    obtain ⟨j, hj⟩ : ∃ j, n - k = j + 1 := ⟨n - k - 1, by omega⟩
    rw [hj] at hO
    have hz := flat_length (enc := fun _ : Unit => [Value.slice none 0 0]) (sz := 1) (fun _ => rfl) (List.replicate (j + 1) ())
    rw [List.length_replicate] at hz
    refine SemK.store1 (by kernel_rfl) (hO.ext e2) (k := 0 + k * 1) (by simp only [List.length_append, flat_length eH_len, hz, hgl]; omega) rfl ?_
    intro w3 c3 B3
    replace B3 : Blk w3 b ((flat eH gs ++ flat (fun _ : Unit => [Value.slice none 0 0]) (List.replicate (j + 1) ())).set (0 + k * 1) (.slice d2.a d2.n d2.c)) 37 := B3
    rw [show 0 + k * 1 = k by omega, flat_set1 hgl] at B3
    conv => whnf
    refine SemK.add (((k + 1 : Nat) : Int)) (by omega) (by omega) (by omega) ?_
    conv => whnf
    have s2 := e2.size
    have s3 := c3.but.size
    have hEl' : ElN RTots w3 w1.heap.size w3.heap.size gs (xs.take k) := (hEl.ext e2 (Nat.le_refl _) s2).mod c3.but (fun j hj h => by have := h.1; omega) (Nat.le_refl _) s3
    have N3 : RN RTots w3 w1.heap.size w3.heap.size d2 x := N2.mod c3.but (fun j hj h => by have := h.1; omega) hsz s3
    have e : xs.take (k + 1) = xs.take k ++ [x] := by rw [List.take_add_one, hx]; rfl
    have e' : n - (k + 1) = j := by omega
    refine ⟨k + 1, by omega, gs ++ [d2], rfl, by omega, (Ext.trans hX e2).but_trans c3.but (by omega), by simp [hgl], ?_, ?_, by omega⟩
    · rw [e]
      exact hEl'.snoc N3
    · rw [e']
      exact B3
  · conv => whnf
    have hkn : k = n := by omega
    subst hkn
    rw [List.take_of_length_le (by omega)] at hEl
    exact ⟨⟨some ⟨b, 0, none⟩, k, k⟩, rfl, RN.nest (by simpa [flat] using hO) g1 hgl (by omega) (hEl.ext (Ext.refl _) e1.size (Nat.le_refl _)), hX⟩
end Go.Proofs.YtkjmbjedbmblmaaGreatDoor
