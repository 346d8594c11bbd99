/- Contracts of functions of the given program, of the reference and of the laws: each says what a call returns, for all arguments that meet the premises that the theorem itself names. -/
import Derived.Test.YtjlhbaemfiaeiaaPackM
import Derived.Test.YtjlhbaemfiaeiaaSortS
import Derived.Test.YtjlhbaemfiaeiaaKept
import Derived.Test.YtjlhbaemfiaeiaaLibSl
namespace Go.M
open Go Go.Vc
noncomputable def packM (xs : List TBox) (r : Int) : List Int × Int := if roomCode xs r = 0 then ((packSt xs r xs.length).1, 0) else ([], roomCode xs r)
def cmpI (x y : Int) : Int := if x < y then -1 else if y < x then 1 else 0
def eBo (b : Bool) : List Value := [.bool b]
theorem eBo_len (b : Bool) : (eBo b).length = 1 := rfl
def packCmp (xs : List TBox) (i j : Int) : Int := cmpI (cardsAt xs j) (cardsAt xs i)
theorem packCmp_lt (xs : List TBox) (i j : Int) : packCmp xs i j < 0 ↔ packR xs i j := by
  unfold packCmp cmpI packR
  split
  · simp [*]
  · split
    · constructor <;> intro h <;> omega
    · constructor <;> intro h <;> omega
theorem packCmp_ok (xs : List TBox) (i j : Int) : i64ok (packCmp xs i j) := by
  unfold packCmp cmpI i64ok
  split
  · omega
  · split <;> omega
theorem cardsAt_get {xs : List TBox} {k : Nat} {x : TBox} (h : xs[k]? = some x) : cardsAt xs (k : Int) = x.cards := by
  unfold cardsAt
  rw [show ((k : Nat) : Int).toNat = k by omega, List.getD_eq_getElem?_getD, h]
  rfl
theorem fit_idx (c : Int) (l : List Int) : (idxI (fun y => decide (c ≤ y)) l < 0 ∧ fitAt c l = l.length) ∨ (idxI (fun y => decide (c ≤ y)) l = (fitAt c l : Nat) ∧ fitAt c l < l.length) := by
  induction l with
  | nil => exact .inl ⟨by simp [idxI], rfl⟩
  | cons x l ih =>
    by_cases h : c ≤ x
    · exact .inr ⟨by simp [idxI, fitAt, List.findIdx?_cons, h], by simp [fitAt, h]⟩
    · unfold idxI at *
      rw [List.findIdx?_cons]
      have hf : fitAt c (x :: l) = fitAt c l + 1 := by simp [fitAt, h]
      rw [hf]
      have hd : decide (c ≤ x) = false := decide_eq_false h
      cases hh : l.findIdx? (fun y => decide (c ≤ y)) with
      | none =>
        rw [hh] at ih
        rcases ih with ⟨_, h2⟩ | ⟨h1, _⟩
        · exact .inl ⟨by simp [hd], by simp [h2]⟩
        · exfalso; simp at h1 <;> omega
      | some i =>
        rw [hh] at ih
        rcases ih with ⟨h1, _⟩ | ⟨h1, h2⟩
        · exfalso; simp at h1 <;> omega
        · simp at h1
          exact .inr ⟨by simp [hd, h1], by simp; omega⟩
theorem packSt_at {xs : List TBox} {r : Int} {m k : Nat} {x : TBox} {z : Int} (hm : (packOrder xs)[m]? = some (k : Int)) (hx : xs[k]? = some x) (hz : (shelfs r x.cards (packSt xs r m).2)[fitAt x.cards (packSt xs r m).2]? = some z) :
    packSt xs r (m + 1) = ((packSt xs r m).1.set k (fitAt x.cards (packSt xs r m).2 : Nat), (shelfs r x.cards (packSt xs r m).2).set (fitAt x.cards (packSt xs r m).2) (z - x.cards)) := by
  rw [packSt_succ hm]
  unfold packStep
  rw [cardsAt_get hx, show ((k : Nat) : Int).toNat = k by omega, List.getD_eq_getElem?_getD, hz]
  rfl
theorem shelfs_in {r c : Int} {l : List Int} (h : fitAt c l < l.length) : shelfs r c l = l := by
  unfold shelfs
  rw [if_neg (by omega)]
theorem shelfs_new {r c : Int} {l : List Int} (h : fitAt c l = l.length) : shelfs r c l = l ++ [r] := by
  unfold shelfs
  rw [if_pos h]
theorem room_all {xs : List TBox} {r : Int} (h : roomCode xs r = 0) : xs.length ≤ 40 ∧ ∀ x ∈ xs, 0 ≤ x.cards ∧ x.cards ≤ r := by
  unfold roomCode at h
  cases h1 : boxesB xs
  · simp [h1] at h
  cases h2 : inB r 1 1000000
  · simp [h1, h2] at h
  cases h3 : xs.any (tooBig r)
  · refine ⟨(boxesB_mem h1).1, fun x hx => ?_⟩
    have hb := boxB_b ((boxesB_mem h1).2 x hx)
    have := List.any_eq_false.1 h3 x hx
    simp [tooBig] at this
    omega
  · simp [h1, h2, h3] at h
theorem packM_len (xs : List TBox) (r : Int) : (packM xs r).1.length ≤ 40 := by
  unfold packM
  split
  next h => rw [(packSt_len xs r _).1]; exact (room_all h).1
  next h => simp
end Go.M
namespace Go.Proofs.Ytjlhbaemfiaeiaa
open Go Go.RowKit Go.Vc Go.M
theorem cmp_nan (x : Int) (w : World) : Does Try.prog 161 [.int .i64 x] w (fun v w' => v = .bool false ∧ w = w') := by
  refine Does.of_vc tabok Try.func161 rfl rfl rfl (by kernel_rfl) ?_; conv => whnf
  exact ⟨by simp [*], rfl⟩
theorem cmp_int (x y : Int) (w : World) : Does Try.prog 100 [.int .i64 x, .int .i64 y] w (fun v w' => v = .int .i64 (cmpI x y) ∧ w = w') := by
  unfold cmpI
  by_cases h1 : x < y
  · rw [if_pos h1]
    refine Does.of_vc tabok Try.func100 rfl rfl rfl (by kernel_rfl) ?_; conv => whnf
    refine (cmp_nan _ _).mono ?_
    rintro _ _ ⟨rfl, rfl⟩
    conv => whnf
    refine (cmp_nan _ _).mono ?_
    rintro _ _ ⟨rfl, rfl⟩
    conv => whnf
    refine IfB.yes (by omega) ?_
    conv => whnf
    exact ⟨rfl, rfl⟩
  · rw [if_neg h1]
    by_cases h2 : y < x
    · rw [if_pos h2]
      refine Does.of_vc tabok Try.func100 rfl rfl rfl (by kernel_rfl) ?_; conv => whnf
      refine (cmp_nan _ _).mono ?_
      rintro _ _ ⟨rfl, rfl⟩
      conv => whnf
      refine (cmp_nan _ _).mono ?_
      rintro _ _ ⟨rfl, rfl⟩
      conv => whnf
      refine IfB.no (by omega) ?_
      conv => whnf
      refine IfB.yes (by omega) ?_
      conv => whnf
      exact ⟨rfl, rfl⟩
    · rw [if_neg h2]
      refine Does.of_vc tabok Try.func100 rfl rfl rfl (by kernel_rfl) ?_; conv => whnf
      refine (cmp_nan _ _).mono ?_
      rintro _ _ ⟨rfl, rfl⟩
      conv => whnf
      refine (cmp_nan _ _).mono ?_
      rintro _ _ ⟨rfl, rfl⟩
      conv => whnf
      refine IfB.no (by omega) ?_
      conv => whnf
      refine IfB.no (by omega) ?_
      conv => whnf
      exact ⟨rfl, rfl⟩
theorem impl_PackBoxes1 (k : Int) (w : World) : Does Try.prog 97 [.int .i64 k] w (fun v w' => v = .bool true ∧ Ext w w') := by
  refine Does.of_vc tabok Try.func97 rfl rfl rfl (by kernel_rfl) ?_; conv => whnf
  exact ⟨rfl, Ext.refl _⟩
theorem impl_PackBoxes2 {w : World} {a : Option Addr} {n c b : Nat} {xs : List TBox} (h : Arr TBox.enc 5 w a n xs) (hB : Cells w b 0 [.slice a n c]) {i j : Nat} (hi : i < n) (hj : j < n) :
    Does Try.prog 99 [.int .i64 i, .int .i64 j, .pointer (some ⟨b, 0, none⟩)] w (fun v w' => v = .int .i64 (packCmp xs i j) ∧ Ext w w') := by
  have hn := h.len
  obtain ⟨x, hx⟩ : ∃ x, xs[i]? = some x := get_of_lt (by omega)
  obtain ⟨y, hy⟩ : ∃ y, xs[j]? = some y := get_of_lt (by omega)
  unfold packCmp
  rw [cardsAt_get hx, cardsAt_get hy]
  refine Does.of_vc tabok Try.func99 rfl rfl rfl (by kernel_rfl) ?_; conv => whnf
  refine DrawK.held tabok mixed [(0, false), (1, false), (2, false), (3, false), (4, false), (5, false), (6, true), (7, true), (8, true), (9, true), (10, true), (11, true)] (by kernel_rfl) (by kernel_rfl) ?_
  conv => whnf
  intro w3 e3
  conv => whnf
  refine DSemK.load1 (by kernel_rfl) hB (k := 0) rfl ?_
  conv => whnf
  refine DSemK.index (by kernel_rfl) h j rfl hy ?_
  intro b5 o5 _ hb5
  conv => whnf
  refine DSemK.load1 (by kernel_rfl) hb5 (k := 1) rfl ?_
  conv => whnf
  refine DSemK.load1 (by kernel_rfl) hB (k := 0) rfl ?_
  conv => whnf
  refine SemK.index (by kernel_rfl) (h.ext e3) i rfl hx ?_
  intro b7 o7 _ hb7
  conv => whnf
  refine ⟨e3, ?_⟩
  conv => whnf
  refine SemK.load1 (by kernel_rfl) hb7 (k := 1) rfl ?_
  conv => whnf
  refine ⟨e3, ?_⟩
  conv => whnf
  refine (cmp_int _ _ _).mono ?_
  rintro _ _ ⟨rfl, rfl⟩
  conv => whnf
  refine ⟨e3, ?_⟩
  conv => whnf
  exact ⟨rfl, e3⟩
theorem impl_PackBoxes3 {w : World} {a : Option Addr} {n c b b2 : Nat} {xs : List TBox} (h : Arr TBox.enc 5 w a n xs) (hB : Cells w b 0 [.slice a n c]) {k : Nat} (hB2 : Cells w b2 0 [.int .i64 k]) {x : TBox} (hx : xs[k]? = some x) (z : Int) :
    Does Try.prog 102 [.int .i64 z, .pointer (some ⟨b, 0, none⟩), .pointer (some ⟨b2, 0, none⟩)] w (fun v w' => v = .bool (decide (x.cards ≤ z)) ∧ Ext w w') := by
  have hn := h.len
  refine Does.of_vc tabok Try.func102 rfl rfl rfl (by kernel_rfl) ?_; conv => whnf
  refine SemK.load1 (by kernel_rfl) hB (k := 0) rfl ?_
  conv => whnf
  refine SemK.load1 (by kernel_rfl) hB2 (k := 0) rfl ?_
  conv => whnf
  refine SemK.index (by kernel_rfl) h k rfl hx ?_
  intro b5 o5 _ hb5
  conv => whnf
  refine SemK.load1 (by kernel_rfl) hb5 (k := 1) rfl ?_
  conv => whnf
  exact ⟨rfl, Ext.refl _⟩
theorem impl_sizeBox (a : Option Addr) (n c : Nat) (w : World) : Does Try.prog 96 [.slice a n c] w (fun v w' => v = .int .i64 n ∧ w = w') := by
  refine Does.of_vc tabok Try.func96 rfl rfl rfl (by kernel_rfl) ?_; conv => whnf
  exact ⟨rfl, rfl⟩
theorem impl_columnsAll {w : World} {n g : Nat} {cap : List Value} (hn : n ≤ 1000000) (hg : ∀ k : Int, ∀ w', Does Try.prog g (.int .i64 k :: cap) w' (fun v w'' => v = .bool true ∧ Ext w' w'')) :
    Does Try.prog 95 [.int .i64 n, .func (.func g) ⟨[]⟩ ⟨cap⟩] w (fun v w' => ∃ b n' c', v = .slice (some ⟨b, 0, none⟩) n' c' ∧ Grow eI 1 w.heap.size 2 w' (some ⟨b, 0, none⟩) n' c' (upto n) ∧ Ext w w') := by
  refine Does.of_vc tabok Try.func95 rfl rfl rfl (by kernel_rfl) ?_; conv => whnf
  refine SemK.buildSlice mk_39 (vs := []) (by rfl) (by rfl) (by simp [Value.cells]) (by decide) ?_
  intro b1 w1 g1 l1 e1 B1
  have G1 := Grow.new0 (enc := eI) eI_len B1 g1
  conv => whnf
  refine LoopK.rule [1, 5, 8, 9] (fun (k : Nat) vs w' => ∃ b n' c', vs = [.func (.func g) ⟨[]⟩ ⟨cap⟩, .slice (some ⟨b, 0, none⟩) n' c', .int .i64 n, .int .i64 k] ∧ k ≤ n ∧ Grow eI 1 w.heap.size 2 w' (some ⟨b, 0, none⟩) n' c' (upto k) ∧ Ext w w') (fun k => n - k) tab tabok (by kernel_rfl) 0 ⟨_, _, _, rfl, by omega, G1, e1⟩ ?_
  rintro k g' _ w' ⟨b, n', c', rfl, hk, G, hX⟩
  have hn' := G.len
  rw [upto_length] at hn'
  by_cases hkn : k < n
  · have hG := hg k
    conv => whnf
    refine IfB.yes (by omega) ?_
    conv => whnf
    refine (hG _).mono ?_
    rintro _ w3 ⟨rfl, e2⟩
    conv => whnf
    refine SemK.buildSlice mk_39 (vs := [Value.int IntKind.i64 ↑k]) (by rfl) (by rfl) (by simp [Value.cells]) (by decide) ?_
    intro b4 w4 g4 l4 e4 B4
    have G4 := Grow.of_blk (n := 1) (enc := eI) (xs := [↑k]) eI_len B4 g4 rfl (by decide)
    conv => whnf
    refine SemK.appendArr0 (enc := eI) mk_39 eI_len (G.ext (Ext.trans e2 e4)) (G4.own.arr eI_len) (by intro y _; simp [eI, cellish]) (by omega) (by omega) (Below.size (Ext.trans (Ext.trans hX e2) e4)) ?_
    intro a5 c5 w5 G5 m5 i5
    conv => whnf
    refine SemK.add (((k + 1 : Nat) : Int)) (by omega) (by omega) (by omega) ?_
    conv => whnf
    obtain ⟨b', rfl⟩ := G5.own.some (by omega)
    exact ⟨k + 1, by omega, b', _, _, rfl, by omega, by rw [upto_succ]; exact G5, Ext.mod_trans (Ext.trans (Ext.trans hX e2) e4) m5 (blkIn_new G.new)⟩
  · conv => whnf
    refine IfB.no (by omega) ?_
    conv => whnf
    refine ⟨_, _, _, rfl, ?_, hX⟩
    · rw [show n = k by omega]; exact G
set_option linter.unusedVariables false in
theorem impl_PackBoxes {w : World} {a : Option Addr} {n c : Nat} {xs : List TBox} (h : Arr TBox.enc 5 w a n xs) (hok : ∀ x ∈ xs, x.ok) (r : Int) (hlt : ∀ x, a = some x → x.block < w.heap.size) :
    Does Try.prog 23 [.slice a n c, .int .i64 r] w (fun v w' => ∃ a' n' c', v = .tuple #[.slice a' n' c', .int .i64 (packM xs r).2] ∧ NewAt w.heap.size a' ∧ Own eI w' a' n' 2 (packM xs r).1 ∧ Ext w w') := by
  have hn := h.len
  unfold packM
  by_cases hr : roomCode xs r = 0
  · rw [if_pos hr]
    dsimp only
    obtain ⟨hn40, hcards⟩ := room_all hr
    obtain ⟨_, hr1, hr2⟩ := roomCode_zero hr
    refine Does.of_vc tabok Try.func23 rfl rfl rfl (by kernel_rfl) ?_; conv => whnf
    have hP1 := fun u => impl_columnsAll (w := u) (n := n) (g := 97) (cap := []) (by omega) (fun k w' => impl_PackBoxes1 k w')
    refine SemK.box ?_
    intro b234 w234 g234 l234 e234 B234
    conv => whnf
    refine SemK.load1 (by kernel_rfl) B234.cells (k := 0) rfl ?_
    conv => whnf
    refine (impl_packCode (h.ext e234) hok _).mono ?_
    rintro _ w236 ⟨rfl, e235⟩
    conv => whnf
    refine IfB.eqf (by simp [*]; done) ?_
    conv => whnf
    refine SemK.load1 (by kernel_rfl) (B234.ext e235).cells (k := 0) rfl ?_
    conv => whnf
    refine (impl_sizeBox _ _ _ _).mono ?_
    rintro _ _ ⟨rfl, rfl⟩
    conv => whnf
    refine (hP1 _).mono ?_
    rintro _ w243 ⟨b238, n'239, c'240, rfl, G241, e242⟩
    conv => whnf
    have hl239 := G241.len
    rw [upto_length] at hl239
    have hX : Ext w w243 := Ext.trans (Ext.trans e234 e235) e242
    have B0 := (B234.ext e235).ext e242
    have hnew : w236.heap.size ≤ b238 := G241.new _ rfl
    have hs234 := e234.size
    have hs235 := e235.size
    have hab : ∀ x, a = some x → ¬ blkIn (some ⟨b238, 0, none⟩) x.block := by
      rintro x hx ⟨y, hy, he⟩
      cases hy
      have := hlt x hx
      have he : x.block = b238 := he
      omega
    have hap : Apart (some ⟨b238, 0, none⟩) (some ⟨b234, 0, none⟩) := Apart.of (by omega)
    have hSort := lib_SortStableInt (c := c'240) (g := 99) (cap := [.pointer (some ⟨b234, 0, none⟩)]) (packR_swo xs) (packCmp_lt xs) (packCmp_ok xs) G241.own (upto_rise _) (by omega) (fun i hi j hj w2 M2 => by
      obtain ⟨i', hi', rfl⟩ := upto_mem.1 hi
      obtain ⟨j', hj', rfl⟩ := upto_mem.1 hj
      exact impl_PackBoxes2 ((h.ext hX).mod M2 hab) (B0.cells.mod M2 (hap _ rfl)) hi' hj')
    refine (hSort).mono ?_
    rintro _ w68 ⟨rfl, m66, O67⟩
    have B1 := B0.mod m66 (hap _ rfl)
    have X68 : Ext w w68 := Ext.mod_trans hX m66 (fun k hk => by obtain ⟨y, hy, he⟩ := hk; cases hy; have he : k = b238 := he; omega)
    have l238 : b238 < w68.heap.size := O67.lt _ rfl
    conv => whnf
    refine SemK.load1 (by kernel_rfl) B1.cells (k := 0) rfl ?_
    conv => whnf
    refine SemK.make mk_39 (n) rfl (by omega) (by omega) ?_
    intro b244 w244 g244 l244 e244 B244
    have G244 := Grow.of_make (enc := eI) (z := (0 : Int)) eI_len rfl B244 g244 (by omega)
    conv => whnf
    refine SemK.buildSlice mk_39 (vs := []) (by rfl) (by rfl) (by simp [Value.cells]) (by decide) ?_
    intro b245 w245 g245 l245 e245 B245
    have G245 := Grow.new0 (enc := eI) eI_len B245 g245
    conv => whnf
    obtain rfl : n'239 = n := by omega
    have O238 : Arr eI 1 w68 (some ⟨b238, 0, none⟩) n'239 (packOrder xs) := by
      unfold packOrder
      rw [hn]
      exact O67.arr eI_len
    have hpl : (packOrder xs).length = n'239 := by unfold packOrder; rw [sortL_len, hn]
    have q1 : Apart (some ⟨b245, 0, none⟩) (some ⟨b244, 0, none⟩) := Apart.of (by omega)
    have hs66 := m66.size
    have q2 : Apart (some ⟨b245, 0, none⟩) (some ⟨b238, 0, none⟩) := Apart.of (by omega)
    have q3 : Apart (some ⟨b245, 0, none⟩) (some ⟨b234, 0, none⟩) := Apart.of (by omega)
    have q4 : ¬ b244 = b238 := by omega
    have q5 : ¬ b244 = b234 := by omega
    have hb244 : w.heap.size ≤ b244 := Nat.le_trans X68.size g244
    have S0 := packSt_zero xs r
    have O244 : Own eI w245 (some ⟨b244, 0, none⟩) n'239 2 (packSt xs r 0).1 := by
      rw [S0, hn]
      exact G244.own.ext e245
    have G0 : Grow eI 1 w.heap.size 2 w245 (some ⟨b245, 0, none⟩) 0 0 (packSt xs r 0).2 := by
      rw [S0]
      exact G245.base (by have := X68.size; have := e244.size; omega)
    refine LoopK.rule [1, 2, 8, 9, 29, 30, 31] (fun (m : Nat) vs w' => ∃ a9 n9 c9, b238 < w'.heap.size ∧ vs = [.int .i64 r, .pointer (some ⟨b234, 0, none⟩), .slice (some ⟨b244, 0, none⟩) n'239 n'239, .slice a9 n9 c9, .slice (some ⟨b238, 0, none⟩) n'239 c'240, .int .i64 n'239, .int .i64 m] ∧ m ≤ n'239 ∧ Own eI w' (some ⟨b244, 0, none⟩) n'239 2 (packSt xs r m).1 ∧ Grow eI 1 w.heap.size 2 w' a9 n9 c9 (packSt xs r m).2 ∧ Arr eI 1 w' (some ⟨b238, 0, none⟩) n'239 (packOrder xs) ∧ Blk w' b234 [.slice a n'239 c] 27 ∧ Apart a9 (some ⟨b244, 0, none⟩) ∧ Apart a9 (some ⟨b238, 0, none⟩) ∧ Apart a9 (some ⟨b234, 0, none⟩) ∧ Ext w w') (fun m => n'239 - m) tab tabok (by kernel_rfl) 0 ⟨_, _, _, by have := e244.size; have := e245.size; omega, rfl, by omega, O244, G0, (O238.ext e244).ext e245, (B1.ext e244).ext e245, q1, q2, q3, Ext.trans (Ext.trans X68 e244) e245⟩ ?_
    rintro m g2 _ w2 ⟨a9, n9, c9, hl2, rfl, hm, O2, G2, A2, B2, ap1, ap2, ap3, hX2⟩
    have hn9 := G2.len
    have hsl := packSt_len xs r m
    have hroom := packSt_room xs r hcards m
    by_cases hmn : m < n'239
    · obtain ⟨i, hi⟩ : ∃ i, (packOrder xs)[m]? = some i := get_of_lt (by omega)
      obtain ⟨k, hk, rfl⟩ := sortL_mem hi
      obtain ⟨x, hx⟩ : ∃ x, xs[k]? = some x := get_of_lt (by omega)
      have hxc := hcards x (List.mem_of_getElem? hx)
      obtain ⟨z0, hz0⟩ : ∃ z, (packSt xs r m).1[k]? = some z := get_of_lt (by omega)
      rcases fit_idx x.cards (packSt xs r m).2 with ⟨hf1, hf2⟩ | ⟨hf1, hf2⟩
      · conv => whnf
        refine IfB.yes (by omega) ?_
        conv => whnf
        refine SemK.index (by kernel_rfl) A2 m rfl hi ?_
        intro b247 o247 _ hb247
        conv => whnf
        refine SemK.load0 (by kernel_rfl) hb247 rfl ?_
        conv => whnf
        refine SemK.alloc (z := .int .i64 0) (by kernel_rfl) ?_
        intro b248 w248 g248 l248 e248 B248
        conv => whnf
        refine SemK.store1 (by kernel_rfl) B248 (k := 0) (by decide) rfl ?_
        intro w249 c249 B249
        conv => whnf
        have X249 : Ext w2 w249 := Ext.but_trans e248 c249.but g248
        have ap4 : Apart a9 (some ⟨b248, 0, none⟩) := by
          rintro y hy ⟨z, hz, he⟩
          cases hy
          have := G2.lt _ hz
          have he : b248 = z.block := he
          omega
        have hI := lib_IndexFuncInt (c := c9) (g := 102) (cap := [.pointer (some ⟨b234, 0, none⟩), .pointer (some ⟨b248, 0, none⟩)]) (p := fun y => decide (x.cards ≤ y)) ((G2.ext X249).own.arr eI_len) (fun z _ w' hE => impl_PackBoxes3 ((h.ext (Ext.trans hX2 X249)).ext hE) ((B2.ext X249).ext hE).cells (B249.ext hE).cells hx z)
        have hz : ((packSt xs r m).2 ++ [r])[n9]? = some r := by rw [← hn9]; exact List.getElem?_concat_length
        have hst := packSt_at hi hx (r := r) (z := r) (by rw [shelfs_new hf2, hf2, hn9]; exact hz)
        rw [shelfs_new hf2, hf2, hn9] at hst
        have hs1 : ((packSt xs r m).1.set k (n9 : Int)) = (packSt xs r (m + 1)).1 := by rw [hst]
        have hs2 : (((packSt xs r m).2 ++ [r]).set n9 (r - x.cards)) = (packSt xs r (m + 1)).2 := by rw [hst]
        refine (hI).mono ?_
        rintro _ w250 ⟨rfl, e250⟩
        conv => whnf
        refine IfB.yes (by omega) ?_
        conv => whnf
        refine SemK.buildSlice mk_39 (vs := [Value.int IntKind.i64 r]) (by rfl) (by rfl) (by simp [Value.cells]) (by decide) ?_
        intro b2398 w2398 g2398 l2398 e2398 B2398
        have G2398 := Grow.of_blk (n := 1) (enc := eI) (xs := [r]) eI_len B2398 g2398 rfl (by decide)
        conv => whnf
        refine SemK.appendArr0 (enc := eI) mk_39 eI_len (G2.ext (Ext.trans (Ext.trans X249 e250) e2398)) (G2398.own.arr eI_len) (by intro y _; simp [eI, cellish]) (by omega) (by omega) (Below.size (Ext.trans (Ext.trans (Ext.trans hX2 X249) e250) e2398)) ?_
        intro a2399 c2399 w2399 G2399 m2399 i2399
        have ap1' : Apart a2399 (some ⟨b244, 0, none⟩) := Apart.app ap1 i2399 (by rintro x hx; cases hx; exact (O2.ext (Ext.trans (Ext.trans X249 e250) e2398)).lt _ rfl)
        have ap2' : Apart a2399 (some ⟨b238, 0, none⟩) := Apart.app ap2 i2399 (by rintro x hx; cases hx; exact Nat.lt_of_lt_of_le hl2 (Below.size (Ext.trans (Ext.trans X249 e250) e2398)))
        have ap3' : Apart a2399 (some ⟨b234, 0, none⟩) := Apart.app ap3 i2399 (by rintro x hx; cases hx; exact (B2.ext (Ext.trans (Ext.trans X249 e250) e2398)).lt)
        have ap4' : Apart a2399 (some ⟨b248, 0, none⟩) := Apart.app ap4 i2399 (by rintro x hx; cases hx; exact ((B249.ext e250).ext e2398).lt)
        have O2' := (O2.ext (Ext.trans (Ext.trans X249 e250) e2398)).mod m2399 (by rintro x hx; cases hx; exact ap1 _ rfl)
        have A2' := (A2.ext (Ext.trans (Ext.trans X249 e250) e2398)).mod m2399 (by rintro x hx; cases hx; exact ap2 _ rfl)
        have B2' := (B2.ext (Ext.trans (Ext.trans X249 e250) e2398)).mod m2399 (ap3 _ rfl)
        have B249' := ((B249.ext e250).ext e2398).mod m2399 (ap4 _ rfl)
        have X9 : Ext w w2399 := Ext.mod_trans (Ext.trans hX2 (Ext.trans (Ext.trans X249 e250) e2398)) m2399 (blkIn_new G2.new)
        have H9 := h.ext X9
        obtain ⟨b9, rfl⟩ := G2399.own.some (by omega)
        have q9 : ¬ b244 = b9 := fun e => ap1' _ rfl ⟨_, rfl, e⟩
        have q10 : ¬ b238 = b9 := fun e => ap2' _ rfl ⟨_, rfl, e⟩
        have q11 : ¬ b234 = b9 := fun e => ap3' _ rfl ⟨_, rfl, e⟩
        have q12 : ¬ b248 = b9 := fun e => ap4' _ rfl ⟨_, rfl, e⟩
        have gb9 : w.heap.size ≤ b9 := G2399.new _ rfl
        conv => whnf
        refine DrawK.writes tabok mixed [(0, .any), (1, .any), (2, .any), (3, .held), (4, .held), (5, .held), (6, .any), (7, .any), (8, .held), (9, .any), (10, .any), (11, .write)] (by kernel_rfl) (by kernel_rfl) ?_
        conv => whnf
        intro w2444 e2444
        conv => whnf
        refine PSemK.indexOwn (sz := 1) (by kernel_rfl) n9 rfl (by omega) ?_
        have hb2446 := Own.elem eI_len G2399.own hz
        conv => whnf
        refine DSemK.load0 (by kernel_rfl) hb2446 rfl ?_
        conv => whnf
        refine DSemK.load1 (by kernel_rfl) B2'.cells (k := 0) rfl ?_
        conv => whnf
        refine DSemK.load1 (by kernel_rfl) B249'.cells (k := 0) rfl ?_
        conv => whnf
        refine PSemK.index (by kernel_rfl) H9 k rfl hx ?_
        intro b2448 o2448 _ hb2448
        conv => whnf
        refine DSemK.load1 (by kernel_rfl) hb2448 (k := 1) rfl ?_
        conv => whnf
        refine PSemK.sub _ rfl (by omega) (by omega) ?_
        conv => whnf
        refine PSemK.indexOwn (sz := 1) (by kernel_rfl) n9 rfl (by omega) ?_
        have hb2450 := Own.elem eI_len G2399.own hz
        conv => whnf
        refine SemK.storeGrow1 (k := n9) (j := 0) (by kernel_rfl) eI_len (G2399.ext e2444) hz (by decide) rfl (r - x.cards) rfl ?_
        intro w2451 c2451 B2451
        have hx2451 := set_get hz ((r - x.cards))
        conv => whnf
        have D1 := (B249'.ext e2444).mod c2451.but q12
        have O3 := (O2'.ext e2444).mod c2451.but (by rintro x hx; cases hx; exact q9)
        have A3 := (A2'.ext e2444).mod c2451.but (by rintro x hx; cases hx; exact q10)
        have B3 := (B2'.ext e2444).mod c2451.but q11
        have X3 := Ext.but_trans (Ext.trans X9 e2444) c2451.but gb9
        refine SemK.load1 (by kernel_rfl) D1.cells (k := 0) rfl ?_
        conv => whnf
        refine SemK.indexOwn (sz := 1) (by kernel_rfl) k rfl (by omega) ?_
        have hb4235 := Own.elem eI_len O3 hz0
        conv => whnf
        refine SemK.storeOwn1 (k := k) (j := 0) (by kernel_rfl) eI_len O3 hz0 (by decide) rfl (↑n9) rfl ?_
        intro w4236 c4236 B4236
        have hx4236 := set_get hz0 ((↑n9))
        conv => whnf
        refine SemK.add (((m + 1 : Nat) : Int)) (by omega) (by omega) (by omega) ?_
        conv => whnf
        exact ⟨m + 1, by omega, _, _, _, Nat.lt_of_lt_of_le hl2 (Nat.le_trans (Below.size (Ext.trans (Ext.trans X249 e250) e2398)) (Nat.le_trans m2399.size (Nat.le_trans e2444.size (Nat.le_trans c2451.but.size c4236.but.size)))), rfl, by omega, by rw [← hs1]; exact B4236, by rw [← hs2]; exact B2451.mod c4236.but (by rintro x hx; cases hx; exact fun e => q9 e.symm), A3.mod c4236.but (by rintro x hx; cases hx; exact fun e => q4 e.symm), B3.mod c4236.but (fun e => q5 e.symm), ap1', ap2', ap3', Ext.but_trans X3 c4236.but hb244⟩
      · conv => whnf
        refine IfB.yes (by omega) ?_
        conv => whnf
        refine SemK.index (by kernel_rfl) A2 m rfl hi ?_
        intro b247 o247 _ hb247
        conv => whnf
        refine SemK.load0 (by kernel_rfl) hb247 rfl ?_
        conv => whnf
        refine SemK.alloc (z := .int .i64 0) (by kernel_rfl) ?_
        intro b248 w248 g248 l248 e248 B248
        conv => whnf
        refine SemK.store1 (by kernel_rfl) B248 (k := 0) (by decide) rfl ?_
        intro w249 c249 B249
        conv => whnf
        have X249 : Ext w2 w249 := Ext.but_trans e248 c249.but g248
        have ap4 : Apart a9 (some ⟨b248, 0, none⟩) := by
          rintro y hy ⟨z, hz, he⟩
          cases hy
          have := G2.lt _ hz
          have he : b248 = z.block := he
          omega
        have hI := lib_IndexFuncInt (c := c9) (g := 102) (cap := [.pointer (some ⟨b234, 0, none⟩), .pointer (some ⟨b248, 0, none⟩)]) (p := fun y => decide (x.cards ≤ y)) ((G2.ext X249).own.arr eI_len) (fun z _ w' hE => impl_PackBoxes3 ((h.ext (Ext.trans hX2 X249)).ext hE) ((B2.ext X249).ext hE).cells (B249.ext hE).cells hx z)
        obtain ⟨f, hfe⟩ : ∃ f, fitAt x.cards (packSt xs r m).2 = f := ⟨_, rfl⟩
        have hsh := shelfs_in (r := r) hf2
        rw [hfe] at hf2
        obtain ⟨z, hz⟩ : ∃ z, (packSt xs r m).2[f]? = some z := get_of_lt (by omega)
        have hzb := hroom z (List.mem_of_getElem? hz)
        have hst := packSt_at hi hx (r := r) (z := z) (by rw [hsh, hfe]; exact hz)
        rw [hsh, hfe] at hst
        have hs1 : ((packSt xs r m).1.set k (f : Int)) = (packSt xs r (m + 1)).1 := by rw [hst]
        have hs2 : ((packSt xs r m).2.set f (z - x.cards)) = (packSt xs r (m + 1)).2 := by rw [hst]
        obtain ⟨b9, rfl⟩ := G2.own.some (by omega)
        have q9 : ¬ b244 = b9 := fun e => ap1 _ rfl ⟨_, rfl, e⟩
        have q10 : ¬ b238 = b9 := fun e => ap2 _ rfl ⟨_, rfl, e⟩
        have q11 : ¬ b234 = b9 := fun e => ap3 _ rfl ⟨_, rfl, e⟩
        have q12 : ¬ b248 = b9 := fun e => ap4 _ rfl ⟨_, rfl, e⟩
        rw [hf1, hfe] at hI
        refine (hI).mono ?_
        rintro _ w250 ⟨rfl, e250⟩
        conv => whnf
        refine DrawK.writes tabok mixed [(0, .any), (1, .any), (2, .any), (3, .held), (4, .held), (5, .held), (6, .any), (7, .any), (8, .held), (9, .any), (10, .any), (11, .write)] (by kernel_rfl) (by kernel_rfl) ?_
        conv => whnf
        intro w4540 e4540
        conv => whnf
        refine PSemK.indexOwn (sz := 1) (by kernel_rfl) f rfl (by omega) ?_
        have hb4542 := Own.elem eI_len (G2.ext (Ext.trans X249 e250)).own hz
        conv => whnf
        refine DSemK.load0 (by kernel_rfl) hb4542 rfl ?_
        conv => whnf
        refine DSemK.load1 (by kernel_rfl) (B2.ext (Ext.trans X249 e250)).cells (k := 0) rfl ?_
        conv => whnf
        refine DSemK.load1 (by kernel_rfl) (B249.ext e250).cells (k := 0) rfl ?_
        conv => whnf
        refine PSemK.index (by kernel_rfl) (h.ext (Ext.trans (Ext.trans hX2 X249) e250)) k rfl hx ?_
        intro b4544 o4544 _ hb4544
        conv => whnf
        refine DSemK.load1 (by kernel_rfl) hb4544 (k := 1) rfl ?_
        conv => whnf
        refine PSemK.sub _ rfl (by omega) (by omega) ?_
        conv => whnf
        refine PSemK.indexOwn (sz := 1) (by kernel_rfl) f rfl (by omega) ?_
        have hb4546 := Own.elem eI_len (G2.ext (Ext.trans X249 e250)).own hz
        conv => whnf
        refine SemK.storeGrow1 (k := f) (j := 0) (by kernel_rfl) eI_len (G2.ext (Ext.trans (Ext.trans X249 e250) e4540)) hz (by decide) rfl (z - x.cards) rfl ?_
        intro w4547 c4547 B4547
        have hx4547 := set_get hz ((z - x.cards))
        conv => whnf
        have EX := Ext.trans (Ext.trans X249 e250) e4540
        have gb9 : w.heap.size ≤ b9 := G2.new _ rfl
        have D1 := ((B249.ext e250).ext e4540).mod c4547.but q12
        have O3 := (O2.ext EX).mod c4547.but (by rintro x hx; cases hx; exact q9)
        have A3 := (A2.ext EX).mod c4547.but (by rintro x hx; cases hx; exact q10)
        have B3 := (B2.ext EX).mod c4547.but q11
        have X3 := Ext.but_trans (Ext.trans hX2 EX) c4547.but gb9
        refine SemK.load1 (by kernel_rfl) D1.cells (k := 0) rfl ?_
        conv => whnf
        refine SemK.indexOwn (sz := 1) (by kernel_rfl) k rfl (by omega) ?_
        have hb6213 := Own.elem eI_len O3 hz0
        conv => whnf
        refine SemK.storeOwn1 (k := k) (j := 0) (by kernel_rfl) eI_len O3 hz0 (by decide) rfl (↑f) rfl ?_
        intro w6214 c6214 B6214
        have hx6214 := set_get hz0 ((↑f))
        conv => whnf
        refine SemK.add (((m + 1 : Nat) : Int)) (by omega) (by omega) (by omega) ?_
        conv => whnf
        exact ⟨m + 1, by omega, _, _, _, Nat.lt_of_lt_of_le hl2 (Nat.le_trans (Below.size EX) (Nat.le_trans c4547.but.size c6214.but.size)), rfl, by omega, by rw [← hs1]; exact B6214, by rw [← hs2]; exact B4547.mod c6214.but (by rintro x hx; cases hx; exact fun e => q9 e.symm), A3.mod c6214.but (by rintro x hx; cases hx; exact fun e => q4 e.symm), B3.mod c6214.but (fun e => q5 e.symm), ap1, ap2, ap3, Ext.but_trans X3 c6214.but hb244⟩
    · conv => whnf
      refine IfB.no (by omega) ?_
      conv => whnf
      refine ⟨_, _, _, rfl, (G244.new.mono (Below.size X68)), ?_, hX2⟩
      · have hmn2 : m = n'239 := by omega
        rw [hn, ← hmn2]
        rw [← hmn2] at O2
        exact O2
  · rw [if_neg hr]
    dsimp only
    refine Does.of_vc tabok Try.func23 rfl rfl rfl (by kernel_rfl) ?_; conv => whnf
    refine SemK.box ?_
    intro b1 w1 g1 l1 e1 B1
    conv => whnf
    refine SemK.load1 (by kernel_rfl) B1.cells (k := 0) rfl ?_
    conv => whnf
    refine (impl_packCode (h.ext e1) hok _).mono ?_
    rintro _ w3 ⟨rfl, e2⟩
    conv => whnf
    refine IfB.eqt (by simp [*]; done) ?_
    conv => whnf
    exact ⟨_, _, _, rfl, NewAt.nil, Own.nil, (Ext.trans e1 e2)⟩
set_option linter.unusedVariables false in
theorem spec_PackBoxes {w : World} {a : Option Addr} {n c : Nat} {xs : List TBox} (h : Arr TBox.enc 5 w a n xs) (hok : ∀ x ∈ xs, x.ok) (r : Int) :
    Does Try.prog 24 [.slice a n c, .int .i64 r] w (fun v w' => ∃ a' n' c', v = .tuple #[.slice a' n' c', .int .i64 (packM xs r).2] ∧ NewAt w.heap.size a' ∧ Own eI w' a' n' 2 (packM xs r).1 ∧ Ext w w') := by
  have hn := h.len
  unfold packM
  by_cases hr : roomCode xs r = 0
  · rw [if_pos hr]
    dsimp only
    obtain ⟨hn40, hcards⟩ := room_all hr
    obtain ⟨_, hr1, hr2⟩ := roomCode_zero hr
    refine Does.of_vc tabok Try.func24 rfl rfl rfl (by kernel_rfl) ?_; conv => whnf
    refine (spec_l26Room h hok _).mono ?_
    rintro _ w220 ⟨rfl, e219⟩
    conv => whnf
    refine IfB.eqf (by simp [*]; done) ?_
    conv => whnf
    refine SemK.make mk_39 (n) rfl (by omega) (by omega) ?_
    intro b221 w221 g221 l221 e221 B221
    have G221 := Grow.of_make (enc := eI) (z := (0 : Int)) eI_len rfl B221 g221 (by omega)
    conv => whnf
    refine SemK.make mk_118 (n) rfl (by omega) (by omega) ?_
    intro b222 w222 g222 l222 e222 B222
    have G222 := Grow.of_make (enc := eBo) (z := false) eBo_len rfl B222 g222 (by omega)
    conv => whnf
    refine SemK.buildSlice mk_39 (vs := []) (by rfl) (by rfl) (by simp [Value.cells]) (by decide) ?_
    intro b223 w223 g223 l223 e223 B223
    have G223 := Grow.new0 (enc := eI) eI_len B223 g223
    conv => whnf
    have hpl : (packOrder xs).length = n := by unfold packOrder; rw [sortL_len, hn]
    have q1 : Apart (some ⟨b223, 0, none⟩) (some ⟨b221, 0, none⟩) := Apart.of (by omega)
    have q2 : Apart (some ⟨b223, 0, none⟩) (some ⟨b222, 0, none⟩) := Apart.of (by omega)
    have q3 : ¬ b221 = b222 := by omega
    have hs219 := e219.size
    have hs221 := e221.size
    have hs222 := e222.size
    have hs223 := e223.size
    have hb221 : w.heap.size ≤ b221 := by omega
    have hb222 : w.heap.size ≤ b222 := by omega
    have S0 := packSt_zero xs r
    have D0 := packDone_zero xs
    have O7 : Own eI w223 (some ⟨b221, 0, none⟩) n 2 (packSt xs r 0).1 := by
      rw [S0, hn]
      exact (G221.own.ext e222).ext e223
    have O8 : Own eBo w223 (some ⟨b222, 0, none⟩) n 4 (packDone xs 0) := by
      rw [D0, hn]
      exact G222.own.ext e223
    have G0 : Grow eI 1 w.heap.size 2 w223 (some ⟨b223, 0, none⟩) 0 0 (packSt xs r 0).2 := by
      rw [S0]
      exact G223.base (by omega)
    refine LoopK.rule [0, 1, 7, 8, 9, 10] (fun (m : Nat) vs w' => ∃ a9 n9 c9, vs = [.slice a n c, .int .i64 r, .slice (some ⟨b221, 0, none⟩) n n, .slice (some ⟨b222, 0, none⟩) n n, .slice a9 n9 c9, .int .i64 m] ∧ m ≤ n ∧ Own eI w' (some ⟨b221, 0, none⟩) n 2 (packSt xs r m).1 ∧ Own eBo w' (some ⟨b222, 0, none⟩) n 4 (packDone xs m) ∧ Grow eI 1 w.heap.size 2 w' a9 n9 c9 (packSt xs r m).2 ∧ Apart a9 (some ⟨b221, 0, none⟩) ∧ Apart a9 (some ⟨b222, 0, none⟩) ∧ Ext w w') (fun m => n - m) tab tabok (by kernel_rfl) 0 ⟨_, _, _, rfl, by omega, O7, O8, G0, q1, q2, Ext.trans (Ext.trans (Ext.trans e219 e221) e222) e223⟩ ?_
    rintro m g2 _ w2 ⟨a9, n9, c9, rfl, hm, O2, P2, G2, ap1, ap2, hX2⟩
    have hn9 := G2.len
    have hsl := packSt_len xs r m
    have hroom := packSt_room xs r hcards m
    by_cases hmn : m < n
    · obtain ⟨y, hi⟩ : ∃ i, (packOrder xs)[m]? = some i := get_of_lt (by omega)
      conv => whnf
      refine IfB.yes (by omega) ?_
      conv => whnf
      refine LoopK.rule [0, 1, 7, 8, 9, 10, 11, 12] (fun (i : Nat) vs w' => ∃ best, vs = [.slice a n c, .int .i64 r, .slice (some ⟨b221, 0, none⟩) n n, .slice (some ⟨b222, 0, none⟩) n n, .slice a9 n9 c9, .int .i64 m, .int .i64 best, .int .i64 i] ∧ i ≤ n ∧ BestP xs m i best ∧ Ext w2 w') (fun i => n - i) tab tabok (by kernel_rfl) 0 ⟨_, rfl, by omega, BestP.zero xs m, Ext.refl _⟩ ?_
      rintro i g3 _ w3 ⟨best, rfl, hin, hB, hX3⟩
      have hbest := hB.ge
      by_cases hii : i < n
      · obtain ⟨x, hx⟩ : ∃ x, xs[i]? = some x := get_of_lt (by omega)
        have hd := packDone_get (xs := xs) (m := m) (k := i) (by omega)
        cases hdd : decide ((i : Int) ∈ (packOrder xs).take m)
        · rw [hdd] at hd
          have hni : (i : Int) ∉ (packOrder xs).take m := of_decide_eq_false hdd
          by_cases hb0 : best < 0
          · have hN := hB.new hni (.inl hb0)
            conv => whnf
            refine IfB.yes (by omega) ?_
            conv => whnf
            refine DrawK.det tabok mixed (by kernel_rfl) (by kernel_rfl) ?_
            conv => whnf
            refine DSemK.indexOwn (sz := 1) (by kernel_rfl) i rfl (by omega) ?_
            have hb225 := Own.elem eBo_len (P2.ext hX3) hd
            conv => whnf
            refine DSemK.load0 (by kernel_rfl) hb225 rfl ?_
            conv => whnf
            refine IfB.yes (by omega) ?_
            conv => whnf
            intro w226 e226
            conv => whnf
            refine SemK.add (((i + 1 : Nat) : Int)) (by omega) (by omega) (by omega) ?_
            conv => whnf
            exact ⟨i + 1, by omega, _, rfl, by omega, by omega, (Ext.trans hX3 e226)⟩
          · obtain ⟨b, rfl⟩ : ∃ b : Nat, best = b := ⟨best.toNat, by omega⟩
            obtain ⟨z, hz⟩ : ∃ z, xs[b]? = some z := get_of_lt (by omega)
            by_cases hc : z.cards < x.cards
            · have hN := hB.new hni (.inr (by rw [cardsAt_get hx, cardsAt_get hz]; exact hc))
              conv => whnf
              refine IfB.yes (by omega) ?_
              conv => whnf
              refine DrawK.det tabok mixed (by kernel_rfl) (by kernel_rfl) ?_
              conv => whnf
              refine DSemK.indexOwn (sz := 1) (by kernel_rfl) i rfl (by omega) ?_
              have hb225 := Own.elem eBo_len (P2.ext hX3) hd
              conv => whnf
              refine DSemK.load0 (by kernel_rfl) hb225 rfl ?_
              conv => whnf
              refine DSemK.index (by kernel_rfl) (h.ext (Ext.trans hX2 hX3)) i rfl hx ?_
              intro b227 o227 _ hb227
              conv => whnf
              refine DSemK.load1 (by kernel_rfl) hb227 (k := 1) rfl ?_
              conv => whnf
              refine DSemK.index (by kernel_rfl) (h.ext (Ext.trans hX2 hX3)) b rfl hz ?_
              intro b229 o229 _ hb229
              conv => whnf
              refine DSemK.load1 (by kernel_rfl) hb229 (k := 1) rfl ?_
              conv => whnf
              intro w230 e230
              conv => whnf
              refine IfB.yes (by omega) ?_
              conv => whnf
              refine SemK.add (((i + 1 : Nat) : Int)) (by omega) (by omega) (by omega) ?_
              conv => whnf
              exact ⟨i + 1, by omega, _, rfl, by omega, by omega, (Ext.trans hX3 e230)⟩
            · have hN := hB.skip hb0 (by rw [cardsAt_get hx, cardsAt_get hz]; exact hc)
              conv => whnf
              refine IfB.yes (by omega) ?_
              conv => whnf
              refine DrawK.det tabok mixed (by kernel_rfl) (by kernel_rfl) ?_
              conv => whnf
              refine DSemK.indexOwn (sz := 1) (by kernel_rfl) i rfl (by omega) ?_
              have hb225 := Own.elem eBo_len (P2.ext hX3) hd
              conv => whnf
              refine DSemK.load0 (by kernel_rfl) hb225 rfl ?_
              conv => whnf
              refine DSemK.index (by kernel_rfl) (h.ext (Ext.trans hX2 hX3)) i rfl hx ?_
              intro b227 o227 _ hb227
              conv => whnf
              refine DSemK.load1 (by kernel_rfl) hb227 (k := 1) rfl ?_
              conv => whnf
              refine DSemK.index (by kernel_rfl) (h.ext (Ext.trans hX2 hX3)) b rfl hz ?_
              intro b229 o229 _ hb229
              conv => whnf
              refine DSemK.load1 (by kernel_rfl) hb229 (k := 1) rfl ?_
              conv => whnf
              intro w230 e230
              conv => whnf
              refine IfB.no (by omega) ?_
              conv => whnf
              refine SemK.add (((i + 1 : Nat) : Int)) (by omega) (by omega) (by omega) ?_
              conv => whnf
              exact ⟨i + 1, by omega, _, rfl, by omega, by omega, (Ext.trans hX3 e230)⟩
        · rw [hdd] at hd
          have hN := hB.done (of_decide_eq_true hdd)
          conv => whnf
          refine IfB.yes (by omega) ?_
          conv => whnf
          refine DrawK.det tabok mixed (by kernel_rfl) (by kernel_rfl) ?_
          conv => whnf
          refine DSemK.indexOwn (sz := 1) (by kernel_rfl) i rfl (by omega) ?_
          have hb225 := Own.elem eBo_len (P2.ext hX3) hd
          conv => whnf
          refine DSemK.load0 (by kernel_rfl) hb225 rfl ?_
          conv => whnf
          intro w226 e226
          conv => whnf
          refine SemK.add (((i + 1 : Nat) : Int)) (by omega) (by omega) (by omega) ?_
          conv => whnf
          exact ⟨i + 1, by omega, _, rfl, by omega, by omega, (Ext.trans hX3 e226)⟩
      · obtain rfl : i = n := by omega
        have hbe := BestP.fin (by rw [hn]; exact hB) hi
        subst hbe
        obtain ⟨k, hk, rfl⟩ := sortL_mem hi
        obtain ⟨x, hx⟩ : ∃ x, xs[k]? = some x := get_of_lt (by omega)
        have hxc := hcards x (List.mem_of_getElem? hx)
        obtain ⟨z0, hz0⟩ : ∃ z, (packSt xs r m).1[k]? = some z := get_of_lt (by omega)
        have hd := packDone_get (xs := xs) (m := m) (k := k) (by omega)
        have hds := packDone_succ hi
        conv => whnf
        refine IfB.no (by omega) ?_
        conv => whnf
        refine SemK.indexOwn (sz := 1) (by kernel_rfl) k rfl (by omega) ?_
        have hb225 := Own.elem eBo_len (P2.ext hX3) hd
        conv => whnf
        refine SemK.storeOwn1 (k := k) (j := 0) (by kernel_rfl) eBo_len (P2.ext hX3) hd (by decide) rfl (true) rfl ?_
        intro w226 c226 B226
        have hx226 := set_get hd ((true))
        conv => whnf
        have O2' := (O2.ext hX3).mod c226.but (by rintro x hx; cases hx; exact q3)
        have G2' := (G2.ext hX3).mod c226.but (fun y hy e => ap2 _ rfl ⟨y, hy, e.symm⟩)
        have X226 : Ext w w226 := Ext.but_trans (Ext.trans hX2 hX3) c226.but hb222
        have P2' : Own eBo w226 (some ⟨b222, 0, none⟩) i 4 (packDone xs (m + 1)) := by rw [hds]; exact B226
        refine LoopK.rule [0, 1, 7, 8, 9, 10, 11, 13] (fun (t : Nat) vs w' => vs = [.slice a i c, .int .i64 r, .slice (some ⟨b221, 0, none⟩) i i, .slice (some ⟨b222, 0, none⟩) i i, .slice a9 n9 c9, .int .i64 m, .int .i64 k, .int .i64 t] ∧ t ≤ n9 ∧ (∀ j z, j < t → (packSt xs r m).2[j]? = some z → z < x.cards) ∧ Ext w226 w') (fun t => n9 - t) tab tabok (by kernel_rfl) 0 ⟨rfl, by omega, fun j z h => by omega, Ext.refl _⟩ ?_
        rintro t g4 _ w4 ⟨rfl, ht, hall, hX4⟩
        by_cases htn : t < n9
        · obtain ⟨z, hz⟩ : ∃ z, (packSt xs r m).2[t]? = some z := get_of_lt (by omega)
          have hzb := hroom z (List.mem_of_getElem? hz)
          by_cases hc : z < x.cards
          · have hall2 : ∀ j y, j < t + 1 → (packSt xs r m).2[j]? = some y → y < x.cards := by
              intro j y hj hy
              by_cases e : j = t
              · subst e
                rw [hz] at hy
                cases hy
                exact hc
              · exact hall j y (by omega) hy
            conv => whnf
            refine DrawK.det tabok mixed (by kernel_rfl) (by kernel_rfl) ?_
            conv => whnf
            refine IfB.yes (by omega) ?_
            conv => whnf
            obtain ⟨b228, rfl⟩ := ((G2'.ext hX4).own).some (by omega)
            have gb228 : w.heap.size ≤ b228 := G2'.new _ rfl
            have lb228 : b228 < w226.heap.size := G2'.lt _ rfl
            refine DSemK.indexOwn (sz := 1) (by kernel_rfl) t rfl (by omega) ?_
            have hb228 := Own.elem eI_len (G2'.ext hX4).own hz
            conv => whnf
            refine DSemK.load0 (by kernel_rfl) hb228 rfl ?_
            conv => whnf
            refine DSemK.index (by kernel_rfl) (h.ext (Ext.trans X226 hX4)) k rfl hx ?_
            intro b230 o230 _ hb230
            conv => whnf
            refine DSemK.load1 (by kernel_rfl) hb230 (k := 1) rfl ?_
            conv => whnf
            intro w231 e231
            conv => whnf
            refine IfB.yes (by omega) ?_
            conv => whnf
            refine SemK.add (((t + 1 : Nat) : Int)) (by omega) (by omega) (by omega) ?_
            conv => whnf
            exact ⟨t + 1, by omega, rfl, by omega, by omega, (Ext.trans hX4 e231)⟩
          · have hfe : fitAt x.cards (packSt xs r m).2 = t := fitAt_is (by omega) hall (fun y hy => by rw [hz] at hy; cases hy; omega)
            have hsh := shelfs_in (r := r) (c := x.cards) (l := (packSt xs r m).2) (by omega)
            have hst := packSt_at hi hx (r := r) (z := z) (by rw [hsh, hfe]; exact hz)
            rw [hsh, hfe] at hst
            have hs1 : ((packSt xs r m).1.set k (t : Int)) = (packSt xs r (m + 1)).1 := by rw [hst]
            have hs2 : ((packSt xs r m).2.set t (z - x.cards)) = (packSt xs r (m + 1)).2 := by rw [hst]
            obtain ⟨b9, rfl⟩ := G2'.own.some (by omega)
            have q9 : ¬ b221 = b9 := fun e => ap1 _ rfl ⟨_, rfl, e⟩
            have q12 : ¬ b222 = b9 := fun e => ap2 _ rfl ⟨_, rfl, e⟩
            have gb9 : w.heap.size ≤ b9 := G2'.new _ rfl
            conv => whnf
            refine DrawK.det tabok mixed (by kernel_rfl) (by kernel_rfl) ?_
            conv => whnf
            refine IfB.yes (by omega) ?_
            conv => whnf
            refine DSemK.indexOwn (sz := 1) (by kernel_rfl) t rfl (by omega) ?_
            have hb228 := Own.elem eI_len (G2'.ext hX4).own hz
            conv => whnf
            refine DSemK.load0 (by kernel_rfl) hb228 rfl ?_
            conv => whnf
            refine DSemK.index (by kernel_rfl) (h.ext (Ext.trans X226 hX4)) k rfl hx ?_
            intro b230 o230 _ hb230
            conv => whnf
            refine DSemK.load1 (by kernel_rfl) hb230 (k := 1) rfl ?_
            conv => whnf
            intro w231 e231
            conv => whnf
            refine IfB.no (by omega) ?_
            conv => whnf
            refine IfB.no (by omega) ?_
            conv => whnf
            refine DrawK.writes tabok mixed [(0, .any), (1, .any), (2, .any), (4, .any), (5, .any), (6, .any), (7, .any), (3, .held), (8, .held), (9, .any), (10, .any), (11, .write)] (by kernel_rfl) (by kernel_rfl) ?_
            conv => whnf
            intro w232 e232
            conv => whnf
            refine PSemK.indexOwn (sz := 1) (by kernel_rfl) t rfl (by omega) ?_
            have hb234 := Own.elem eI_len (G2'.ext (Ext.trans hX4 e231)).own hz
            conv => whnf
            refine PSemK.index (by kernel_rfl) (h.ext (Ext.trans (Ext.trans X226 hX4) e231)) k rfl hx ?_
            intro b236 o236 _ hb236
            conv => whnf
            refine DSemK.load0 (by kernel_rfl) hb234 rfl ?_
            conv => whnf
            refine DSemK.load1 (by kernel_rfl) hb236 (k := 1) rfl ?_
            conv => whnf
            refine PSemK.sub _ rfl (by omega) (by omega) ?_
            conv => whnf
            refine PSemK.indexOwn (sz := 1) (by kernel_rfl) t rfl (by omega) ?_
            have hb238 := Own.elem eI_len (G2'.ext (Ext.trans hX4 e231)).own hz
            conv => whnf
            refine SemK.storeGrow1 (k := t) (j := 0) (by kernel_rfl) eI_len (G2'.ext (Ext.trans (Ext.trans hX4 e231) e232)) hz (by decide) rfl (z - x.cards) rfl ?_
            intro w239 c239 B239
            have hx239 := set_get hz ((z - x.cards))
            conv => whnf
            have O3 := (O2'.ext (Ext.trans (Ext.trans hX4 e231) e232)).mod c239.but (by rintro x hx; cases hx; exact q9)
            have P3 := (P2'.ext (Ext.trans (Ext.trans hX4 e231) e232)).mod c239.but (by rintro x hx; cases hx; exact q12)
            have X3 := Ext.but_trans (Ext.trans X226 (Ext.trans (Ext.trans hX4 e231) e232)) c239.but gb9
            refine SemK.indexOwn (sz := 1) (by kernel_rfl) k rfl (by omega) ?_
            have hb6291 := Own.elem eI_len O3 hz0
            conv => whnf
            refine SemK.storeOwn1 (k := k) (j := 0) (by kernel_rfl) eI_len O3 hz0 (by decide) rfl (↑t) rfl ?_
            intro w6292 c6292 B6292
            have hx6292 := set_get hz0 ((↑t))
            conv => whnf
            refine SemK.add (((m + 1 : Nat) : Int)) (by omega) (by omega) (by omega) ?_
            conv => whnf
            exact ⟨m + 1, by omega, _, _, _, rfl, by omega, by rw [← hs1]; exact B6292, P3.mod c6292.but (by rintro x hx; cases hx; exact fun e => q3 e.symm), by rw [← hs2]; exact B239.mod c6292.but (by rintro x hx; cases hx; exact fun e => q9 e.symm), ap1, ap2, Ext.but_trans X3 c6292.but hb221⟩
        · obtain rfl : t = n9 := by omega
          have hf2 : fitAt x.cards (packSt xs r m).2 = (packSt xs r m).2.length := by
            rw [hn9]
            exact fitAt_is (by omega) hall (fun y hy => by rw [List.getElem?_eq_none (by omega)] at hy; cases hy)
          have hz : ((packSt xs r m).2 ++ [r])[t]? = some r := by rw [← hn9]; exact List.getElem?_concat_length
          have hst := packSt_at hi hx (r := r) (z := r) (by rw [shelfs_new hf2, hf2, hn9]; exact hz)
          rw [shelfs_new hf2, hf2, hn9] at hst
          have hs1 : ((packSt xs r m).1.set k (t : Int)) = (packSt xs r (m + 1)).1 := by rw [hst]
          have hs2 : (((packSt xs r m).2 ++ [r]).set t (r - x.cards)) = (packSt xs r (m + 1)).2 := by rw [hst]
          conv => whnf
          refine DrawK.det tabok mixed (by kernel_rfl) (by kernel_rfl) ?_
          conv => whnf
          refine IfB.no (by omega) ?_
          conv => whnf
          intro w227 e227
          conv => whnf
          refine IfB.yes (by omega) ?_
          conv => whnf
          refine SemK.buildSlice mk_39 (vs := [Value.int IntKind.i64 r]) (by rfl) (by rfl) (by simp [Value.cells]) (by decide) ?_
          intro b228 w228 g228 l228 e228 B228
          have G228 := Grow.of_blk (n := 1) (enc := eI) (xs := [r]) eI_len B228 g228 rfl (by decide)
          conv => whnf
          refine SemK.appendArr0 (enc := eI) mk_39 eI_len (G2'.ext (Ext.trans (Ext.trans hX4 e227) e228)) (G228.own.arr eI_len) (by intro y _; simp [eI, cellish]) (by omega) (by omega) (Below.size (Ext.trans (Ext.trans (Ext.trans X226 hX4) e227) e228)) ?_
          intro a229 c229 w229 G229 m229 i229
          have ap1' : Apart a229 (some ⟨b221, 0, none⟩) := Apart.app ap1 i229 (by rintro x hx; cases hx; exact (O2'.ext (Ext.trans (Ext.trans hX4 e227) e228)).lt _ rfl)
          have ap2' : Apart a229 (some ⟨b222, 0, none⟩) := Apart.app ap2 i229 (by rintro x hx; cases hx; exact (P2'.ext (Ext.trans (Ext.trans hX4 e227) e228)).lt _ rfl)
          have O9 := (O2'.ext (Ext.trans (Ext.trans hX4 e227) e228)).mod m229 (by rintro x hx; cases hx; exact ap1 _ rfl)
          have P9 := (P2'.ext (Ext.trans (Ext.trans hX4 e227) e228)).mod m229 (by rintro x hx; cases hx; exact ap2 _ rfl)
          have X9 : Ext w w229 := Ext.mod_trans (Ext.trans X226 (Ext.trans (Ext.trans hX4 e227) e228)) m229 (blkIn_new G2'.new)
          have H9 := h.ext X9
          obtain ⟨b9, rfl⟩ := G229.own.some (by omega)
          have q9 : ¬ b221 = b9 := fun e => ap1' _ rfl ⟨_, rfl, e⟩
          have q12 : ¬ b222 = b9 := fun e => ap2' _ rfl ⟨_, rfl, e⟩
          have gb9 : w.heap.size ≤ b9 := G229.new _ rfl
          conv => whnf
          refine DrawK.writes tabok mixed [(0, .any), (1, .any), (2, .any), (4, .any), (5, .any), (6, .any), (7, .any), (3, .held), (8, .held), (9, .any), (10, .any), (11, .write)] (by kernel_rfl) (by kernel_rfl) ?_
          conv => whnf
          intro w230 e230
          conv => whnf
          refine PSemK.indexOwn (sz := 1) (by kernel_rfl) t rfl (by omega) ?_
          have hb232 := Own.elem eI_len G229.own hz
          conv => whnf
          refine PSemK.index (by kernel_rfl) H9 k rfl hx ?_
          intro b234 o234 _ hb234
          conv => whnf
          refine DSemK.load0 (by kernel_rfl) hb232 rfl ?_
          conv => whnf
          refine DSemK.load1 (by kernel_rfl) hb234 (k := 1) rfl ?_
          conv => whnf
          refine PSemK.sub _ rfl (by omega) (by omega) ?_
          conv => whnf
          refine PSemK.indexOwn (sz := 1) (by kernel_rfl) t rfl (by omega) ?_
          have hb236 := Own.elem eI_len G229.own hz
          conv => whnf
          refine SemK.storeGrow1 (k := t) (j := 0) (by kernel_rfl) eI_len (G229.ext e230) hz (by decide) rfl (r - x.cards) rfl ?_
          intro w237 c237 B237
          have hx237 := set_get hz ((r - x.cards))
          conv => whnf
          have O3 := (O9.ext e230).mod c237.but (by rintro x hx; cases hx; exact q9)
          have P3 := (P9.ext e230).mod c237.but (by rintro x hx; cases hx; exact q12)
          have X3 := Ext.but_trans (Ext.trans X9 e230) c237.but gb9
          refine SemK.indexOwn (sz := 1) (by kernel_rfl) k rfl (by omega) ?_
          have hb6291 := Own.elem eI_len O3 hz0
          conv => whnf
          refine SemK.storeOwn1 (k := k) (j := 0) (by kernel_rfl) eI_len O3 hz0 (by decide) rfl (↑t) rfl ?_
          intro w6292 c6292 B6292
          have hx6292 := set_get hz0 ((↑t))
          conv => whnf
          refine SemK.add (((m + 1 : Nat) : Int)) (by omega) (by omega) (by omega) ?_
          conv => whnf
          exact ⟨m + 1, by omega, _, _, _, rfl, by omega, by rw [← hs1]; exact B6292, P3.mod c6292.but (by rintro x hx; cases hx; exact fun e => q3 e.symm), by rw [← hs2]; exact B237.mod c6292.but (by rintro x hx; cases hx; exact fun e => q9 e.symm), ap1', ap2', Ext.but_trans X3 c6292.but hb221⟩
    · conv => whnf
      refine IfB.no (by omega) ?_
      conv => whnf
      refine ⟨_, _, _, rfl, (G221.new.mono (Below.size e219)), ?_, hX2⟩
      · have hmn2 : m = n := by omega
        rw [hn, ← hmn2]
        rw [← hmn2] at O2
        exact O2
  · rw [if_neg hr]
    dsimp only
    refine Does.of_vc tabok Try.func24 rfl rfl rfl (by kernel_rfl) ?_; conv => whnf
    refine (spec_l26Room h hok _).mono ?_
    rintro _ w2 ⟨rfl, e1⟩
    conv => whnf
    refine IfB.eqt (by simp [*]; done) ?_
    conv => whnf
    exact ⟨_, _, _, rfl, NewAt.nil, Own.nil, e1⟩
end Go.Proofs.Ytjlhbaemfiaeiaa
