/- Contracts of functions of the given program, of the reference and of the laws: each says what a call returns, for all arguments that meet the premises that the theorem itself names. -/
import Derived.Test.YtjlhbaemfiaeiaaBoxes
import Derived.Test.YtjlhbaemfiaeiaaLibSl
import Derived.Test.YtjlhbaemfiaeiaaVcApp
namespace Go.M
open Go Go.Vc
def keptB (y : Int) (x : TBox) : Bool := decide (y < x.year + x.keep) || !decide (x.lent = { data := #[] })
def yearOk (y : Int) : Bool := inB y 1800 4000
def keptCode (xs : List TBox) (y : Int) : Int := if boxesB xs = false then 1 else if yearOk y = false then 2 else 0
theorem boxesB_mem {xs : List TBox} (h : boxesB xs = true) : xs.length ≤ 40 ∧ ∀ x ∈ xs, boxB x = true := by
  simp only [boxesB, Bool.and_eq_true, decide_eq_true_eq, List.all_eq_true, List.mem_range] at h
  refine ⟨h.2, fun x hx => ?_⟩
  obtain ⟨i, hi⟩ := List.mem_iff_getElem?.1 hx
  have := h.1 i (List.getElem?_eq_some_iff.1 hi).1
  unfold boxAt at this
  rw [hi] at this
  simp only [Bool.and_eq_true] at this
  exact this.1
theorem boxB_b {x : TBox} (h : boxB x = true) : (0 ≤ x.cards ∧ x.cards ≤ 100000) ∧ (1800 ≤ x.year ∧ x.year ≤ 3000) ∧ (1 ≤ x.keep ∧ x.keep ≤ 100) := by
  simp only [boxB, inB, Bool.and_eq_true, decide_eq_true_eq] at h
  omega
theorem keptCode_zero {xs : List TBox} {y : Int} (h : keptCode xs y = 0) : boxesB xs = true ∧ yearOk y = true := by
  unfold keptCode at h
  cases h1 : boxesB xs <;> cases h2 : yearOk y <;> simp [h1, h2] at h
  simp
def pulpM (xs : List TBox) (y : Int) : List TBox × List TBox := if keptCode xs y = 0 then (xs.filter (keptB y), xs.filter fun x => !keptB y x) else ([], [])
theorem pulpM_len (xs : List TBox) (y : Int) : (pulpM xs y).1.length ≤ xs.length ∧ (pulpM xs y).2.length ≤ xs.length := by
  unfold pulpM
  split
  · exact ⟨List.length_filter_le _ _, List.length_filter_le _ _⟩
  · simp
def cardsL (xs : List TBox) : List Int := xs.map (·.cards)
theorem cardsL_take (xs : List TBox) (k : Nat) : cardsL (xs.take k) = (cardsL xs).take k := by simp [cardsL]
theorem cards_sum_b {xs : List TBox} (h : ∀ x ∈ xs, boxB x = true) (hl : xs.length ≤ 40) : 0 ≤ (cardsL xs).sum ∧ (cardsL xs).sum ≤ 4000000 := by
  have h1 := sum_bounds (l := cardsL xs) (M := 100000) (fun v hv => by
    obtain ⟨x, hx, rfl⟩ := List.mem_map.1 hv
    exact (boxB_b (h x hx)).1)
  have h3 : (cardsL xs).length ≤ 40 := by simp [cardsL, hl]
  omega
def cardsKeptM (xs : List TBox) (y : Int) : Int × Int := if keptCode xs y = 0 then ((cardsL (xs.filter (keptB y))).sum, 0) else (0, keptCode xs y)
def tooBig (r : Int) (x : TBox) : Bool := decide (r < x.cards)
def roomCode (xs : List TBox) (r : Int) : Int := if boxesB xs = false then 1 else if inB r 1 1000000 = false then 2 else if xs.any (tooBig r) = true then 5 else 0
def largeN (r : Int) (xs : List TBox) : Nat := xs.countP fun x => decide (r < 2 * x.cards)
def shelvesM (xs : List TBox) (r : Int) : Int × Int := if roomCode xs r = 0 then (max (largeN r xs : Int) (((cardsL xs).sum + r - 1) / r), 0) else (0, roomCode xs r)
theorem cards_kept_b {xs : List TBox} (h : ∀ x ∈ xs, boxB x = true) (hl : xs.length ≤ 40) (y : Int) (k : Nat) : 0 ≤ (cardsL ((xs.take k).filter (keptB y))).sum ∧ (cardsL ((xs.take k).filter (keptB y))).sum ≤ 4000000 :=
  cards_sum_b (fun x hx => h x (List.mem_of_mem_take (List.mem_filter.1 hx).1)) (Nat.le_trans (List.length_filter_le _ _) (by simp; omega))
theorem roomCode_zero {xs : List TBox} {r : Int} (h : roomCode xs r = 0) : boxesB xs = true ∧ 1 ≤ r ∧ r ≤ 1000000 := by
  unfold roomCode at h
  cases h1 : boxesB xs
  · simp [h1] at h
  cases h2 : inB r 1 1000000
  · simp [h1, h2] at h
  simp only [inB, Bool.and_eq_true, decide_eq_true_eq] at h2
  exact ⟨rfl, h2⟩
theorem largeN_le (r : Int) (xs : List TBox) : largeN r xs ≤ xs.length := List.countP_le_length
end Go.M
namespace Go.Proofs.Ytjlhbaemfiaeiaa
open Go Go.RowKit Go.Vc Go.M
theorem spec_l26Kept {x : TBox} (hx : boxB x = true) (y : Int) {b o : Nat} {w : World} (hc : Cells w b o x.enc) : Does Try.prog 109 [.pointer (some ⟨b, o, none⟩), .int .i64 y] w (fun v w' => v = .bool (keptB y x) ∧ Ext w w') := by
  have hb := boxB_b hx
  refine Does.of_vc tabok Try.func109 rfl rfl rfl (by kernel_rfl) ?_; conv => whnf
  refine DrawK.det tabok mixed (by kernel_rfl) (by kernel_rfl) ?_
  conv => whnf
  refine DSemK.load1 (by kernel_rfl) hc (k := 2) rfl ?_
  conv => whnf
  refine DSemK.load1 (by kernel_rfl) hc (k := 3) rfl ?_
  conv => whnf
  refine DSemK.add _ rfl (by omega) (by omega) ?_
  conv => whnf
  with_reducible refine IfB.dec (fun h1 => ?_) (fun h1 => ?_)
  · conv => whnf
    intro w2 e2
    conv => whnf
    exact ⟨by simp [keptB, *], e2⟩
  · conv => whnf
    refine DSemK.load1 (by kernel_rfl) hc (k := 4) rfl ?_
    conv => whnf
    intro w3 e3
    conv => whnf
    exact ⟨by simp [keptB, *], e3⟩
theorem impl_isKept {x : TBox} (hx : boxB x = true) (y : Int) (w : World) : Does Try.prog 107 [.agg ⟨x.enc⟩, .int .i64 y] w (fun v w' => v = .bool (keptB y x) ∧ Ext w w') := by
  have hb := boxB_b hx
  refine Does.of_vc tabok Try.func107 rfl rfl rfl (by kernel_rfl) ?_; conv => whnf
  refine SemK.box ?_
  intro b1 w1 g1 l1 e1 B1
  conv => whnf
  refine SemK.load1 (by kernel_rfl) B1.cells (k := 2) rfl ?_
  conv => whnf
  refine SemK.load1 (by kernel_rfl) B1.cells (k := 3) rfl ?_
  conv => whnf
  refine SemK.add _ rfl (by omega) (by omega) ?_
  conv => whnf
  with_reducible refine IfB.dec (fun h2 => ?_) (fun h2 => ?_)
  · conv => whnf
    exact ⟨by simp [keptB, *], e1⟩
  · conv => whnf
    refine SemK.load1 (by kernel_rfl) B1.cells (k := 4) rfl ?_
    conv => whnf
    exact ⟨by simp [keptB, *], e1⟩
theorem spec_l26Code {w : World} {a : Option Addr} {n c : Nat} {xs : List TBox} (h : Arr TBox.enc 5 w a n xs) (hok : ∀ x ∈ xs, x.ok) (y : Int) :
    Does Try.prog 108 [.slice a n c, .int .i64 y] w (fun v w' => v = .int .i64 (keptCode xs y) ∧ Ext w w') := by
  refine Does.of_vc tabok Try.func108 rfl rfl rfl (by kernel_rfl) ?_; conv => whnf
  refine (spec_l26Ok h hok).mono ?_
  rintro _ w2 ⟨rfl, e1⟩
  conv => whnf
  with_reducible refine IfB.split (fun h3 => ?_) (fun h3 => ?_)
  · conv => whnf
    exact ⟨by simp_all [keptCode, yearOk], e1⟩
  · conv => whnf
    refine (spec_in _ _ _ _).mono ?_
    rintro _ _ ⟨rfl, rfl⟩
    conv => whnf
    with_reducible refine IfB.split (fun h5 => ?_) (fun h5 => ?_)
    · conv => whnf
      exact ⟨by simp_all [keptCode, yearOk], e1⟩
    · conv => whnf
      exact ⟨by simp_all [keptCode, yearOk], e1⟩
theorem spec_PulpBoxes {w : World} {a : Option Addr} {n c : Nat} {xs : List TBox} (h : Arr TBox.enc 5 w a n xs) (hok : ∀ x ∈ xs, x.ok) (y : Int) :
    Does Try.prog 29 [.slice a n c, .int .i64 y] w (fun v w' => ∃ a1 n1 c1 a2 n2 c2, v = .tuple #[.slice a1 n1 c1, .slice a2 n2 c2, .int .i64 (keptCode xs y)] ∧ NewAt w.heap.size a1 ∧ NewAt w.heap.size a2 ∧ Apart a1 a2 ∧ Own TBox.enc w' a1 n1 31 (pulpM xs y).1 ∧ Own TBox.enc w' a2 n2 31 (pulpM xs y).2 ∧ Ext w w') := by
  have hn := h.len
  refine Does.of_vc tabok Try.func29 rfl rfl rfl (by kernel_rfl) ?_; conv => whnf
  refine (spec_l26Code h hok _).mono ?_
  rintro _ w2 ⟨rfl, e1⟩
  conv => whnf
  with_reducible refine IfB.ndec (fun h3 => ?_) (fun h3 => ?_)
  · conv => whnf
    exact ⟨none, 0, 0, none, 0, 0, rfl, NewAt.nil, NewAt.nil, by rintro _ ⟨⟩, by rw [pulpM, if_neg h3]; exact Own.nil, by rw [pulpM, if_neg h3]; exact Own.nil, e1⟩
  obtain ⟨hb, hy⟩ := keptCode_zero h3
  obtain ⟨h40, hbx⟩ := boxesB_mem hb
  · conv => whnf
    refine SemK.buildSlice mk_27 (vs := []) (by rfl) (by rfl) (by simp [Value.cells]) (by decide) ?_
    intro b4 w4 g4 l4 e4 B4
    have G4 := Grow.new0 (enc := TBox.enc) TBox.enc_len B4 g4
    conv => whnf
    refine SemK.buildSlice mk_27 (vs := []) (by rfl) (by rfl) (by simp [Value.cells]) (by decide) ?_
    intro b5 w5 g5 l5 e5 B5
    have G5 := Grow.new0 (enc := TBox.enc) TBox.enc_len B5 g5
    conv => whnf
    refine LoopK.rule [0, 1, 8, 9, 10] (fun (k : Nat) vs w' => ∃ a1 c1 n1 a2 c2 n2, vs = [.slice a n c, .int .i64 y, .slice a1 n1 c1, .slice a2 n2 c2, .int .i64 k] ∧ k ≤ n ∧ n1 ≤ k ∧ n2 ≤ k ∧ Grow TBox.enc 5 w.heap.size 31 w' a1 n1 c1 ((xs.take k).filter (keptB y)) ∧ Grow TBox.enc 5 w.heap.size 31 w' a2 n2 c2 ((xs.take k).filter (fun x => !keptB y x)) ∧ Apart a1 a2 ∧ Ext w w') (fun k => n - k) tab tabok (by kernel_rfl) 0
      ⟨_, _, _, _, _, _, rfl, by omega, by omega, by omega, by simpa using (G4.ext e5).base e1.size, by simpa using G5.base (Nat.le_trans e1.size e4.size), Apart.of (by omega), Ext.trans (Ext.trans e1 e4) e5⟩ ?_
    rintro k g _ w' ⟨a1, c1, n1, a2, c2, n2, rfl, hk, hk1, hk2, hG1, hG2, hA, hE⟩
    have hA' := hA.symm
    conv => whnf
    with_reducible refine IfB.dec (fun h41 => ?_) (fun h41 => ?_)
    · conv => whnf
      obtain ⟨x42, hx42⟩ : ∃ x, xs[k]? = some x := get_of_lt (by omega)
      have ok42 := hbx _ (List.mem_of_getElem? hx42)
      have ok42' := hok _ (List.mem_of_getElem? hx42)
      refine SemK.index (by kernel_rfl) (h.ext hE) k rfl hx42 ?_
      intro b43 o43 _ hb43
      conv => whnf
      refine (spec_l26Kept ok42 _ hb43).mono ?_
      rintro _ w45 ⟨rfl, e44⟩
      conv => whnf
      with_reducible refine IfB.split (fun h46 => ?_) (fun h46 => ?_)
      · conv => whnf
        refine SemK.index (by kernel_rfl) (h.ext (Ext.trans hE e44)) k rfl hx42 ?_
        intro b48 o48 _ hb48
        conv => whnf
        refine SemK.loadAgg (by kernel_rfl) hb48 rfl ?_
        conv => whnf
        refine SemK.buildSlice mk_27 (vs := [Value.agg x42.enc.toArray]) (by rfl) (by rfl) (by simp [Value.cells, TBox.enc]) (by decide) ?_
        intro b49 w49 g49 l49 e49 B49
        have G49 := Grow.of_blk (n := 1) (enc := TBox.enc) (xs := [x42]) TBox.enc_len B49 g49 rfl (by decide)
        conv => whnf
        refine SemK.appendArr (enc := TBox.enc) mk_27 TBox.enc_len (hG1.ext (Ext.trans e44 e49)) (G49.own.arr TBox.enc_len) (by rintro _ ⟨⟩; rfl) (by intro y _; simp [TBox.enc, cellish]) (by omega) (by omega) (Below.size (Ext.trans (Ext.trans hE e44) e49)) ?_
        intro a50 c50 w50 G50 m50 i50
        conv => whnf
        refine SemK.add (((k + 1 : Nat) : Int)) (by omega) (by omega) (by omega) ?_
        conv => whnf
        exact ⟨k + 1, by omega, _, _, _, _, _, _, rfl, by omega, by omega, by omega, by simpa [List.take_add_one, *, keptCode] using G50, by simpa [List.take_add_one, *, keptCode] using ((hG2.ext (Ext.trans e44 e49)).mod m50 hA), Apart.app hA i50 (hG2.ext (Ext.trans e44 e49)).lt, (Ext.mod_trans (Ext.trans (Ext.trans hE e44) e49) m50 (blkIn_new hG1.new))⟩
      · conv => whnf
        refine SemK.index (by kernel_rfl) (h.ext (Ext.trans hE e44)) k rfl hx42 ?_
        intro b52 o52 _ hb52
        conv => whnf
        refine SemK.loadAgg (by kernel_rfl) hb52 rfl ?_
        conv => whnf
        refine SemK.buildSlice mk_27 (vs := [Value.agg x42.enc.toArray]) (by rfl) (by rfl) (by simp [Value.cells, TBox.enc]) (by decide) ?_
        intro b53 w53 g53 l53 e53 B53
        have G53 := Grow.of_blk (n := 1) (enc := TBox.enc) (xs := [x42]) TBox.enc_len B53 g53 rfl (by decide)
        conv => whnf
        refine SemK.appendArr (enc := TBox.enc) mk_27 TBox.enc_len (hG2.ext (Ext.trans e44 e53)) (G53.own.arr TBox.enc_len) (by rintro _ ⟨⟩; rfl) (by intro y _; simp [TBox.enc, cellish]) (by omega) (by omega) (Below.size (Ext.trans (Ext.trans hE e44) e53)) ?_
        intro a54 c54 w54 G54 m54 i54
        conv => whnf
        refine SemK.add (((k + 1 : Nat) : Int)) (by omega) (by omega) (by omega) ?_
        conv => whnf
        exact ⟨k + 1, by omega, _, _, _, _, _, _, rfl, by omega, by omega, by omega, by simpa [List.take_add_one, *, keptCode] using ((hG1.ext (Ext.trans e44 e53)).mod m54 hA'), by simpa [List.take_add_one, *, keptCode] using G54, (Apart.app hA' i54 (hG1.ext (Ext.trans e44 e53)).lt).symm, (Ext.mod_trans (Ext.trans (Ext.trans hE e44) e53) m54 (blkIn_new hG2.new))⟩
    · conv => whnf
      rw [List.take_of_length_le (by omega)] at hG1 hG2
      rw [h3]
      exact ⟨_, _, _, _, _, _, rfl, hG1.new, hG2.new, hA, by rw [pulpM, if_pos h3]; exact hG1.own, by rw [pulpM, if_pos h3]; exact hG2.own, hE⟩
theorem impl_PulpBoxes {w : World} {a : Option Addr} {n c : Nat} {xs : List TBox} (h : Arr TBox.enc 5 w a n xs) (hok : ∀ x ∈ xs, x.ok) (y : Int) :
    Does Try.prog 28 [.slice a n c, .int .i64 y] w (fun v w' => ∃ a1 n1 c1 a2 n2 c2, v = .tuple #[.slice a1 n1 c1, .slice a2 n2 c2, .int .i64 (keptCode xs y)] ∧ NewAt w.heap.size a1 ∧ NewAt w.heap.size a2 ∧ Apart a1 a2 ∧ Own TBox.enc w' a1 n1 31 (pulpM xs y).1 ∧ Own TBox.enc w' a2 n2 31 (pulpM xs y).2 ∧ Ext w w') := by
  have hn := h.len
  refine Does.of_vc tabok Try.func28 rfl rfl rfl (by kernel_rfl) ?_; conv => whnf
  refine (impl_ValidBoxes h hok).mono ?_
  rintro _ w2 ⟨rfl, e1⟩
  conv => whnf
  with_reducible refine IfB.split (fun h3 => ?_) (fun h3 => ?_)
  · conv => whnf
    have hk : keptCode xs y = 1 := by simp_all [keptCode]
    rw [hk]
    exact ⟨none, 0, 0, none, 0, 0, rfl, NewAt.nil, NewAt.nil, by rintro _ ⟨⟩, by rw [pulpM, if_neg (by omega)]; exact Own.nil, by rw [pulpM, if_neg (by omega)]; exact Own.nil, e1⟩
  · conv => whnf
    refine (impl_inside _ _ _ _).mono ?_
    rintro _ _ ⟨rfl, rfl⟩
    conv => whnf
    with_reducible refine IfB.split (fun h5 => ?_) (fun h5 => ?_)
    · conv => whnf
      have hk : keptCode xs y = 2 := by simp_all [keptCode, yearOk]
      rw [hk]
      exact ⟨none, 0, 0, none, 0, 0, rfl, NewAt.nil, NewAt.nil, by rintro _ ⟨⟩, by rw [pulpM, if_neg (by omega)]; exact Own.nil, by rw [pulpM, if_neg (by omega)]; exact Own.nil, e1⟩
    · conv => whnf
      have hk0 : keptCode xs y = 0 := by simp_all [keptCode, yearOk]
      obtain ⟨hb, hy⟩ := keptCode_zero hk0
      obtain ⟨h40, hbx⟩ := boxesB_mem hb
      refine SemK.buildSlice mk_27 (vs := []) (by rfl) (by rfl) (by simp [Value.cells]) (by decide) ?_
      intro b6 w6 g6 l6 e6 B6
      have G6 := Grow.new0 (enc := TBox.enc) TBox.enc_len B6 g6
      conv => whnf
      refine SemK.buildSlice mk_27 (vs := []) (by rfl) (by rfl) (by simp [Value.cells]) (by decide) ?_
      intro b7 w7 g7 l7 e7 B7
      have G7 := Grow.new0 (enc := TBox.enc) TBox.enc_len B7 g7
      conv => whnf
      refine LoopK.rule [1, 7, 8, 21, 22, 23] (fun (k : Nat) vs w' => ∃ a1 c1 n1 a2 c2 n2, vs = [.int .i64 y, .slice a1 n1 c1, .slice a2 n2 c2, .slice a n c, .int .i64 n, .int .i64 k] ∧ k ≤ n ∧ n1 ≤ k ∧ n2 ≤ k ∧ Grow TBox.enc 5 w.heap.size 31 w' a1 n1 c1 ((xs.take k).filter (keptB y)) ∧ Grow TBox.enc 5 w.heap.size 31 w' a2 n2 c2 ((xs.take k).filter (fun x => !keptB y x)) ∧ Apart a1 a2 ∧ Ext w w') (fun k => n - k) tab tabok (by kernel_rfl) 0
        ⟨_, _, _, _, _, _, rfl, by omega, by omega, by omega, by simpa using (G6.ext e7).base e1.size, by simpa using G7.base (Nat.le_trans e1.size e6.size), Apart.of (by omega), Ext.trans (Ext.trans e1 e6) e7⟩ ?_
      rintro k g _ w' ⟨a1, c1, n1, a2, c2, n2, rfl, hk, hk1, hk2, hG1, hG2, hA, hE⟩
      have hA' := hA.symm
      conv => whnf
      with_reducible refine IfB.dec (fun h41 => ?_) (fun h41 => ?_)
      · conv => whnf
        obtain ⟨x42, hx42⟩ : ∃ x, xs[k]? = some x := get_of_lt (by omega)
        have ok42 := hbx _ (List.mem_of_getElem? hx42)
        have ok42' := hok _ (List.mem_of_getElem? hx42)
        refine SemK.index (by kernel_rfl) (h.ext hE) k rfl hx42 ?_
        intro b43 o43 _ hb43
        conv => whnf
        refine SemK.loadAgg (by kernel_rfl) hb43 rfl ?_
        conv => whnf
        refine SemK.alloc (z := .agg #[.string { data := #[] }, .int .i64 0, .int .i64 0, .int .i64 0, .string { data := #[] }]) (by kernel_rfl) ?_
        intro b44 w44 g44 l44 e44 B44
        conv => whnf
        refine SemK.storeAll (by kernel_rfl) B44 (vs := x42.enc) rfl rfl (by simp [TBox.enc, cellish]) ?_
        intro w45 c45 B45
        conv => whnf
        refine SemK.loadAgg (by kernel_rfl) B45.cells rfl ?_
        conv => whnf
        refine (impl_isKept ok42 _ _).mono ?_
        rintro _ w47 ⟨rfl, e46⟩
        conv => whnf
        with_reducible refine IfB.split (fun h48 => ?_) (fun h48 => ?_)
        · conv => whnf
          refine SemK.loadAgg (by kernel_rfl) (B45.ext e46).cells rfl ?_
          conv => whnf
          refine SemK.buildSlice mk_27 (vs := [Value.agg x42.enc.toArray]) (by rfl) (by rfl) (by simp [Value.cells, TBox.enc]) (by decide) ?_
          intro b49 w49 g49 l49 e49 B49
          have G49 := Grow.of_blk (n := 1) (enc := TBox.enc) (xs := [x42]) TBox.enc_len B49 g49 rfl (by decide)
          conv => whnf
          refine SemK.appendArr (enc := TBox.enc) mk_27 TBox.enc_len (hG1.ext (Ext.trans (Ext.trans (Ext.but_trans e44 c45.but g44) e46) e49)) (G49.own.arr TBox.enc_len) (by rintro _ ⟨⟩; rfl) (by intro y _; simp [TBox.enc, cellish]) (by omega) (by omega) (Below.size (Ext.trans (Ext.trans (Ext.but_trans (Ext.trans hE e44) c45.but (Nat.le_trans (Below.size hE) g44)) e46) e49)) ?_
          intro a50 c50 w50 G50 m50 i50
          conv => whnf
          refine SemK.add (((k + 1 : Nat) : Int)) (by omega) (by omega) (by omega) ?_
          conv => whnf
          exact ⟨k + 1, by omega, _, _, _, _, _, _, rfl, by omega, by omega, by omega, by simpa [List.take_add_one, *, keptCode] using G50, by simpa [List.take_add_one, *, keptCode] using ((hG2.ext (Ext.trans (Ext.trans (Ext.but_trans e44 c45.but g44) e46) e49)).mod m50 hA), Apart.app hA i50 (hG2.ext (Ext.trans (Ext.trans (Ext.but_trans e44 c45.but g44) e46) e49)).lt, (Ext.mod_trans (Ext.trans (Ext.trans (Ext.but_trans (Ext.trans hE e44) c45.but (Nat.le_trans (Below.size hE) g44)) e46) e49) m50 (blkIn_new hG1.new))⟩
        · conv => whnf
          refine SemK.loadAgg (by kernel_rfl) (B45.ext e46).cells rfl ?_
          conv => whnf
          refine SemK.buildSlice mk_27 (vs := [Value.agg x42.enc.toArray]) (by rfl) (by rfl) (by simp [Value.cells, TBox.enc]) (by decide) ?_
          intro b51 w51 g51 l51 e51 B51
          have G51 := Grow.of_blk (n := 1) (enc := TBox.enc) (xs := [x42]) TBox.enc_len B51 g51 rfl (by decide)
          conv => whnf
          refine SemK.appendArr (enc := TBox.enc) mk_27 TBox.enc_len (hG2.ext (Ext.trans (Ext.trans (Ext.but_trans e44 c45.but g44) e46) e51)) (G51.own.arr TBox.enc_len) (by rintro _ ⟨⟩; rfl) (by intro y _; simp [TBox.enc, cellish]) (by omega) (by omega) (Below.size (Ext.trans (Ext.trans (Ext.but_trans (Ext.trans hE e44) c45.but (Nat.le_trans (Below.size hE) g44)) e46) e51)) ?_
          intro a52 c52 w52 G52 m52 i52
          conv => whnf
          refine SemK.add (((k + 1 : Nat) : Int)) (by omega) (by omega) (by omega) ?_
          conv => whnf
          exact ⟨k + 1, by omega, _, _, _, _, _, _, rfl, by omega, by omega, by omega, by simpa [List.take_add_one, *, keptCode] using ((hG1.ext (Ext.trans (Ext.trans (Ext.but_trans e44 c45.but g44) e46) e51)).mod m52 hA'), by simpa [List.take_add_one, *, keptCode] using G52, (Apart.app hA' i52 (hG1.ext (Ext.trans (Ext.trans (Ext.but_trans e44 c45.but g44) e46) e51)).lt).symm, (Ext.mod_trans (Ext.trans (Ext.trans (Ext.but_trans (Ext.trans hE e44) c45.but (Nat.le_trans (Below.size hE) g44)) e46) e51) m52 (blkIn_new hG2.new))⟩
      · conv => whnf
        have tk53 : List.take k xs = xs := List.take_of_length_le (by omega)
        refine ⟨_, _, _, _, _, _, (by simp only [hk0]; rfl), hG1.new, hG2.new, hA, ?_, ?_, hE⟩
        · simpa [pulpM, hk0, tk53] using hG1.own
        · simpa [pulpM, hk0, tk53] using hG2.own
theorem spec_CardsKept {w : World} {a : Option Addr} {n c : Nat} {xs : List TBox} (h : Arr TBox.enc 5 w a n xs) (hok : ∀ x ∈ xs, x.ok) (y : Int) :
    Does Try.prog 31 [.slice a n c, .int .i64 y] w (fun v w' => v = pairV (cardsKeptM xs y) ∧ Ext w w') := by
  have hn := h.len
  refine Does.of_vc tabok Try.func31 rfl rfl rfl (by kernel_rfl) ?_; conv => whnf
  refine (spec_l26Code h hok _).mono ?_
  rintro _ w2 ⟨rfl, e1⟩
  conv => whnf
  with_reducible refine IfB.ndec (fun h3 => ?_) (fun h3 => ?_)
  · conv => whnf
    exact ⟨by simp [pairV, cardsKeptM, h3], e1⟩
  obtain ⟨hb, hy⟩ := keptCode_zero h3
  obtain ⟨h40, hbx⟩ := boxesB_mem hb
  · conv => whnf
    refine LoopK.rule [0, 1, 7, 8] (fun (k : Nat) vs w' => ∃ s, vs = [.slice a n c, .int .i64 y, .int .i64 s, .int .i64 k] ∧ k ≤ n ∧ s = (cardsL ((xs.take k).filter (keptB y))).sum ∧ Ext w w') (fun k => n - k) tab tabok (by kernel_rfl) 0
      ⟨_, rfl, by omega, by simp [cardsL], e1⟩ ?_
    rintro k g _ w' ⟨s, rfl, hk, hs, hE⟩
    have hsb := cards_kept_b hbx h40 y k
    have hbb := fun (x : TBox) (hx : x ∈ xs) => boxB_b (hbx x hx)
    conv => whnf
    with_reducible refine IfB.dec (fun h41 => ?_) (fun h41 => ?_)
    · conv => whnf
      obtain ⟨x42, hx42⟩ : ∃ x, xs[k]? = some x := get_of_lt (by omega)
      have ok42 := hbb _ (List.mem_of_getElem? hx42)
      have ok42' := hbx _ (List.mem_of_getElem? hx42)
      have ok42'' := hok _ (List.mem_of_getElem? hx42)
      refine SemK.index (by kernel_rfl) (h.ext hE) k rfl hx42 ?_
      intro b43 o43 _ hb43
      conv => whnf
      refine (spec_l26Kept ok42' _ hb43).mono ?_
      rintro _ w45 ⟨rfl, e44⟩
      conv => whnf
      with_reducible refine IfB.split (fun h46 => ?_) (fun h46 => ?_)
      · conv => whnf
        refine SemK.index (by kernel_rfl) (h.ext (Ext.trans hE e44)) k rfl hx42 ?_
        intro b48 o48 _ hb48
        conv => whnf
        refine SemK.load1 (by kernel_rfl) hb48 (k := 1) rfl ?_
        conv => whnf
        refine SemK.add _ rfl (by omega) (by omega) ?_
        conv => whnf
        refine SemK.add (((k + 1 : Nat) : Int)) (by omega) (by omega) (by omega) ?_
        conv => whnf
        exact ⟨k + 1, by omega, _, rfl, by omega, by simp [List.take_add_one, cardsL, *], (Ext.trans hE e44)⟩
      · conv => whnf
        refine SemK.add (((k + 1 : Nat) : Int)) (by omega) (by omega) (by omega) ?_
        conv => whnf
        exact ⟨k + 1, by omega, _, rfl, by omega, by simp [List.take_add_one, cardsL, *], (Ext.trans hE e44)⟩
    · conv => whnf
      have tk49 : List.take k xs = xs := List.take_of_length_le (by omega)
      refine ⟨?_, hE⟩
      · simp [pairV, cardsKeptM, *]
theorem impl_CardsKept {w : World} {a : Option Addr} {n c : Nat} {xs : List TBox} (h : Arr TBox.enc 5 w a n xs) (hok : ∀ x ∈ xs, x.ok) (y : Int) :
    Does Try.prog 30 [.slice a n c, .int .i64 y] w (fun v w' => v = pairV (cardsKeptM xs y) ∧ Ext w w') := by
  have hn := h.len
  refine Does.of_vc tabok Try.func30 rfl rfl rfl (by kernel_rfl) ?_; conv => whnf
  refine (impl_PulpBoxes h hok _).mono ?_
  rintro _ w13 ⟨a11, n12, c13, a24, n25, c26, rfl, N7, N8, q9, O10, O11, e12⟩
  conv => whnf
  with_reducible refine IfB.ndec (fun h14 => ?_) (fun h14 => ?_)
  · conv => whnf
    exact ⟨by simp [pairV, cardsKeptM, h14], e12⟩
  obtain ⟨hb, hy⟩ := keptCode_zero h14
  obtain ⟨h40, hbx⟩ := boxesB_mem hb
  · conv => whnf
    have hp : (pulpM xs y).1 = xs.filter (keptB y) := by simp [pulpM, h14]
    rw [hp] at O10
    have A10 := O10.arr TBox.enc_len
    have hn2 := A10.len
    have hm2 := A10.le
    have hbx2 : ∀ x ∈ xs.filter (keptB y), boxB x = true := fun x hx => hbx x ((List.mem_filter.1 hx).1)
    have hl2 : (xs.filter (keptB y)).length ≤ 40 := Nat.le_trans (List.length_filter_le _ _) h40
    generalize hX : xs.filter (keptB y) = X at *
    refine LoopK.rule [9, 22, 23, 24] (fun (k : Nat) vs w' => ∃ s, vs = [.int .i64 s, .slice a11 n12 c13, .int .i64 n12, .int .i64 k] ∧ k ≤ n12 ∧ s = (cardsL (X.take k)).sum ∧ Ext w13 w') (fun k => n12 - k) tab tabok (by kernel_rfl) 0
      ⟨_, rfl, by omega, by simp [cardsL], Ext.refl _⟩ ?_
    rintro k g _ w' ⟨s, rfl, hk, hs, hE⟩
    have hsb := cards_sum_b (xs := X.take k) (fun x hx => hbx2 x (List.mem_of_mem_take hx)) (by simp; omega)
    have hsb2 := fun (x : TBox) (hx : x ∈ X) => boxB_b (hbx2 x hx)
    conv => whnf
    with_reducible refine IfB.dec (fun h41 => ?_) (fun h41 => ?_)
    · conv => whnf
      obtain ⟨x42, hx42⟩ : ∃ x, X[k]? = some x := get_of_lt (by omega)
      have ok42 := hsb2 _ (List.mem_of_getElem? hx42)
      have ok42' := hbx2 _ (List.mem_of_getElem? hx42)
      refine SemK.index (by kernel_rfl) (A10.ext hE) k rfl hx42 ?_
      intro b43 o43 _ hb43
      conv => whnf
      refine SemK.loadAgg (by kernel_rfl) hb43 rfl ?_
      conv => whnf
      refine SemK.alloc (z := .agg #[.string { data := #[] }, .int .i64 0, .int .i64 0, .int .i64 0, .string { data := #[] }]) (by kernel_rfl) ?_
      intro b44 w44 g44 l44 e44 B44
      conv => whnf
      refine SemK.storeAll (by kernel_rfl) B44 (vs := x42.enc) rfl rfl (by simp [TBox.enc, cellish]) ?_
      intro w45 c45 B45
      conv => whnf
      refine SemK.load1 (by kernel_rfl) B45.cells (k := 1) rfl ?_
      conv => whnf
      refine SemK.add _ rfl (by omega) (by omega) ?_
      conv => whnf
      refine SemK.add (((k + 1 : Nat) : Int)) (by omega) (by omega) (by omega) ?_
      conv => whnf
      exact ⟨k + 1, by omega, _, rfl, by omega, by simp [List.take_add_one, cardsL, pairV, cardsKeptM, *], (Ext.but_trans (Ext.trans hE e44) c45.but (Nat.le_trans (Below.size hE) g44))⟩
    · conv => whnf
      have tk46 : List.take k X = X := List.take_of_length_le (by omega)
      exact ⟨by simp [cardsL, pairV, cardsKeptM, *], (Ext.trans e12 hE)⟩
theorem spec_l26Room {w : World} {a : Option Addr} {n c : Nat} {xs : List TBox} (h : Arr TBox.enc 5 w a n xs) (hok : ∀ x ∈ xs, x.ok) (r : Int) :
    Does Try.prog 103 [.slice a n c, .int .i64 r] w (fun v w' => v = .int .i64 (roomCode xs r) ∧ Ext w w') := by
  have hn := h.len
  refine Does.of_vc tabok Try.func103 rfl rfl rfl (by kernel_rfl) ?_; conv => whnf
  refine (spec_l26Ok h hok).mono ?_
  rintro _ w2 ⟨rfl, e1⟩
  conv => whnf
  with_reducible refine IfB.split (fun h3 => ?_) (fun h3 => ?_)
  · conv => whnf
    exact ⟨by simp_all [roomCode], e1⟩
  · conv => whnf
    refine (spec_in _ _ _ _).mono ?_
    rintro _ _ ⟨rfl, rfl⟩
    conv => whnf
    with_reducible refine IfB.split (fun h5 => ?_) (fun h5 => ?_)
    · conv => whnf
      exact ⟨by simp_all [roomCode], e1⟩
    · conv => whnf
      have hm := h.le
      refine LoopK.rule [0, 1, 5] (fun (k : Nat) vs w' => vs = [.slice a n c, .int .i64 r, .int .i64 k] ∧ k ≤ n ∧ (xs.take k).any (tooBig r) = false ∧ Ext w w') (fun k => n - k) tab tabok (by kernel_rfl) 0 ⟨rfl, by omega, by simp, e1⟩ ?_
      rintro k g _ w' ⟨rfl, hk, hall, hE⟩
      conv => whnf
      with_reducible refine IfB.dec (fun h6 => ?_) (fun h6 => ?_)
      · conv => whnf
        obtain ⟨x7, hx7⟩ : ∃ x, xs[k]? = some x := get_of_lt (by omega)
        have ok7 := hok _ (List.mem_of_getElem? hx7)
        refine SemK.index (by kernel_rfl) (h.ext hE) k rfl hx7 ?_
        intro b8 o8 _ hb8
        conv => whnf
        refine SemK.load1 (by kernel_rfl) hb8 (k := 1) rfl ?_
        conv => whnf
        with_reducible refine IfB.dec (fun h9 => ?_) (fun h9 => ?_)
        · conv => whnf
          refine ⟨?_, hE⟩
          · have ha : xs.any (tooBig r) = true := List.any_eq_true.2 ⟨x7, List.mem_of_getElem? hx7, by simp [tooBig, h9]⟩
            simp_all [roomCode]
        · conv => whnf
          refine SemK.add (((k + 1 : Nat) : Int)) (by omega) (by omega) (by omega) ?_
          conv => whnf
          exact ⟨k + 1, by omega, rfl, by omega, by simp [List.take_add_one, roomCode, tooBig, *], hE⟩
      · conv => whnf
        have tk10 : List.take k xs = xs := List.take_of_length_le (by omega)
        exact ⟨by simp_all [roomCode, tooBig], hE⟩
theorem impl_packCode1 (x : TBox) {b : Nat} {r : Int} {w : World} (hc : Cells w b 0 [.int .i64 r]) : Does Try.prog 159 [.agg ⟨x.enc⟩, .pointer (some ⟨b, 0, none⟩)] w (fun v w' => v = .bool (tooBig r x) ∧ Ext w w') := by
  refine Does.of_vc tabok Try.func159 rfl rfl rfl (by kernel_rfl) ?_; conv => whnf
  refine SemK.box ?_
  intro b2 w2 g2 l2 e2 B2
  conv => whnf
  refine SemK.load1 (by kernel_rfl) B2.cells (k := 1) rfl ?_
  conv => whnf
  refine SemK.load1 (by kernel_rfl) (hc.ext e2) (k := 0) rfl ?_
  conv => whnf
  exact ⟨rfl, e2⟩
theorem impl_packCode {w : World} {a : Option Addr} {n c : Nat} {xs : List TBox} (h : Arr TBox.enc 5 w a n xs) (hok : ∀ x ∈ xs, x.ok) (r : Int) :
    Does Try.prog 94 [.slice a n c, .int .i64 r] w (fun v w' => v = .int .i64 (roomCode xs r) ∧ Ext w w') := by
  have hn := h.len
  refine Does.of_vc tabok Try.func94 rfl rfl rfl (by kernel_rfl) ?_; conv => whnf
  refine SemK.box ?_
  intro b1 w1 g1 l1 e1 B1
  have hc : Cells w1 b1 0 [.int .i64 r] := B1.cells
  conv => whnf
  refine (impl_ValidBoxes (h.ext e1) hok).mono ?_
  rintro _ w3 ⟨rfl, e2⟩
  conv => whnf
  with_reducible refine IfB.split (fun h4 => ?_) (fun h4 => ?_)
  · conv => whnf
    exact ⟨by simp_all [roomCode], (Ext.trans e1 e2)⟩
  · conv => whnf
    refine SemK.load1 (by kernel_rfl) (B1.ext e2).cells (k := 0) rfl ?_
    conv => whnf
    refine (impl_inside _ _ _ _).mono ?_
    rintro _ _ ⟨rfl, rfl⟩
    conv => whnf
    with_reducible refine IfB.split (fun h6 => ?_) (fun h6 => ?_)
    · conv => whnf
      exact ⟨by simp_all [roomCode], (Ext.trans e1 e2)⟩
    · conv => whnf
      refine (lib_ContainsFuncBox (h.ext (Ext.trans e1 e2)) (p := tooBig r) (fun x _ w' e => impl_packCode1 x ((hc.ext e2).ext e))).mono ?_
      rintro _ w4 ⟨rfl, e4⟩
      conv => whnf
      with_reducible refine IfB.split (fun h7 => ?_) (fun h7 => ?_)
      · conv => whnf
        exact ⟨by simp_all [roomCode], (Ext.trans (Ext.trans e1 e2) e4)⟩
      · conv => whnf
        exact ⟨by simp_all [roomCode], (Ext.trans (Ext.trans e1 e2) e4)⟩
theorem spec_l00Max (a b : Int) (w : World) : Does Try.prog 104 [.int .i64 a, .int .i64 b] w (fun v w' => v = .int .i64 (max a b) ∧ w = w') := by
  refine Does.of_vc tabok Try.func104 rfl rfl rfl (by kernel_rfl) ?_; conv => whnf
  with_reducible refine IfB.dec (fun h1 => ?_) (fun h1 => ?_)
  · conv => whnf
    exact ⟨by rw [Int.max_eq_left (by omega)], rfl⟩
  · conv => whnf
    exact ⟨by rw [Int.max_eq_right (by omega)], rfl⟩
theorem spec_ShelvesNeeded {w : World} {a : Option Addr} {n c : Nat} {xs : List TBox} (h : Arr TBox.enc 5 w a n xs) (hok : ∀ x ∈ xs, x.ok) (r : Int) :
    Does Try.prog 26 [.slice a n c, .int .i64 r] w (fun v w' => v = pairV (shelvesM xs r) ∧ Ext w w') := by
  have hn := h.len
  refine Does.of_vc tabok Try.func26 rfl rfl rfl (by kernel_rfl) ?_; conv => whnf
  refine (spec_l26Room h hok _).mono ?_
  rintro _ w2 ⟨rfl, e1⟩
  conv => whnf
  with_reducible refine IfB.ndec (fun h3 => ?_) (fun h3 => ?_)
  · conv => whnf
    exact ⟨by simp [pairV, shelvesM, h3], e1⟩
  obtain ⟨hb, hr⟩ := roomCode_zero h3
  obtain ⟨h40, hbx⟩ := boxesB_mem hb
  have hsb2 := fun (x : TBox) (hx : x ∈ xs) => boxB_b (hbx x hx)
  · conv => whnf
    refine LoopK.rule [0, 1, 7, 8, 9] (fun (k : Nat) vs w' => ∃ s m, vs = [.slice a n c, .int .i64 r, .int .i64 s, .int .i64 m, .int .i64 k] ∧ k ≤ n ∧ s = (cardsL (xs.take k)).sum ∧ m = largeN r (xs.take k) ∧ Ext w w') (fun k => n - k) tab tabok (by kernel_rfl) 0
      ⟨_, _, rfl, by omega, by simp [cardsL], by simp [largeN], e1⟩ ?_
    rintro k g _ w' ⟨s, m, rfl, hk, hs, hm, hE⟩
    have hsb := cards_sum_b (xs := xs.take k) (fun x hx => hbx x (List.mem_of_mem_take hx)) (by simp; omega)
    have hml := largeN_le r (xs.take k)
    have hmk : (xs.take k).length = k := by simp; omega
    conv => whnf
    with_reducible refine IfB.dec (fun h41 => ?_) (fun h41 => ?_)
    · conv => whnf
      obtain ⟨x42, hx42⟩ : ∃ x, xs[k]? = some x := get_of_lt (by omega)
      have ok42 := hsb2 _ (List.mem_of_getElem? hx42)
      have ok42' := hbx _ (List.mem_of_getElem? hx42)
      have ok42'' := hok _ (List.mem_of_getElem? hx42)
      refine SemK.index (by kernel_rfl) (h.ext hE) k rfl hx42 ?_
      intro b43 o43 _ hb43
      conv => whnf
      refine SemK.load1 (by kernel_rfl) hb43 (k := 1) rfl ?_
      conv => whnf
      refine SemK.add _ rfl (by omega) (by omega) ?_
      conv => whnf
      refine SemK.index (by kernel_rfl) (h.ext hE) k rfl hx42 ?_
      intro b45 o45 _ hb45
      conv => whnf
      refine SemK.load1 (by kernel_rfl) hb45 (k := 1) rfl ?_
      conv => whnf
      refine SemK.mul _ rfl (by omega) (by omega) ?_
      conv => whnf
      with_reducible refine IfB.dec (fun h46 => ?_) (fun h46 => ?_)
      · conv => whnf
        refine SemK.add _ rfl (by omega) (by omega) ?_
        conv => whnf
        refine SemK.add (((k + 1 : Nat) : Int)) (by omega) (by omega) (by omega) ?_
        conv => whnf
        exact ⟨k + 1, by omega, _, _, rfl, by omega, by simp [List.take_add_one, cardsL, largeN, pairV, shelvesM, *], by simp [List.take_add_one, cardsL, largeN, pairV, shelvesM, *], hE⟩
      · conv => whnf
        refine SemK.add (((k + 1 : Nat) : Int)) (by omega) (by omega) (by omega) ?_
        conv => whnf
        exact ⟨k + 1, by omega, _, _, rfl, by omega, by simp [List.take_add_one, cardsL, largeN, pairV, shelvesM, *], by simp [List.take_add_one, cardsL, largeN, pairV, shelvesM, *], hE⟩
    · conv => whnf
      refine SemK.add _ rfl (by omega) (by omega) ?_
      conv => whnf
      refine SemK.sub _ rfl (by omega) (by omega) ?_
      conv => whnf
      refine SemK.quo (by omega) (by omega) (by omega) ?_
      conv => whnf
      refine (spec_l00Max _ _ _).mono ?_
      rintro _ _ ⟨rfl, rfl⟩
      conv => whnf
      refine ⟨?_, hE⟩
      · rw [List.take_of_length_le (by omega)] at hs hm; simp [pairV, shelvesM, h3, *]
theorem impl_ShelvesNeeded {w : World} {a : Option Addr} {n c : Nat} {xs : List TBox} (h : Arr TBox.enc 5 w a n xs) (hok : ∀ x ∈ xs, x.ok) (r : Int) :
    Does Try.prog 25 [.slice a n c, .int .i64 r] w (fun v w' => v = pairV (shelvesM xs r) ∧ Ext w w') := by
  have hn := h.len
  refine Does.of_vc tabok Try.func25 rfl rfl rfl (by kernel_rfl) ?_; conv => whnf
  refine (impl_packCode h hok _).mono ?_
  rintro _ w2 ⟨rfl, e1⟩
  conv => whnf
  with_reducible refine IfB.ndec (fun h3 => ?_) (fun h3 => ?_)
  · conv => whnf
    exact ⟨by simp [pairV, shelvesM, h3], e1⟩
  obtain ⟨hb, hr⟩ := roomCode_zero h3
  obtain ⟨h40, hbx⟩ := boxesB_mem hb
  have hsb2 := fun (x : TBox) (hx : x ∈ xs) => boxB_b (hbx x hx)
  · conv => whnf
    refine LoopK.rule [1, 7, 8, 17, 18, 19] (fun (k : Nat) vs w' => ∃ s m, vs = [.int .i64 r, .int .i64 s, .int .i64 m, .slice a n c, .int .i64 n, .int .i64 k] ∧ k ≤ n ∧ s = (cardsL (xs.take k)).sum ∧ m = largeN r (xs.take k) ∧ Ext w w') (fun k => n - k) tab tabok (by kernel_rfl) 0
      ⟨_, _, rfl, by omega, by simp [cardsL], by simp [largeN], e1⟩ ?_
    rintro k g _ w' ⟨s, m, rfl, hk, hs, hm, hE⟩
    have hsb := cards_sum_b (xs := xs.take k) (fun x hx => hbx x (List.mem_of_mem_take hx)) (by simp; omega)
    have hml := largeN_le r (xs.take k)
    have hmk : (xs.take k).length = k := by simp; omega
    conv => whnf
    with_reducible refine IfB.dec (fun h41 => ?_) (fun h41 => ?_)
    · conv => whnf
      obtain ⟨x42, hx42⟩ : ∃ x, xs[k]? = some x := get_of_lt (by omega)
      have ok42 := hsb2 _ (List.mem_of_getElem? hx42)
      have ok42' := hbx _ (List.mem_of_getElem? hx42)
      have ok42'' := hok _ (List.mem_of_getElem? hx42)
      refine SemK.index (by kernel_rfl) (h.ext hE) k rfl hx42 ?_
      intro b43 o43 _ hb43
      conv => whnf
      refine SemK.loadAgg (by kernel_rfl) hb43 rfl ?_
      conv => whnf
      refine SemK.alloc (z := .agg #[.string { data := #[] }, .int .i64 0, .int .i64 0, .int .i64 0, .string { data := #[] }]) (by kernel_rfl) ?_
      intro b44 w44 g44 l44 e44 B44
      conv => whnf
      refine SemK.storeAll (by kernel_rfl) B44 (vs := x42.enc) rfl rfl (by simp [TBox.enc, cellish]) ?_
      intro w45 c45 B45
      conv => whnf
      refine SemK.load1 (by kernel_rfl) B45.cells (k := 1) rfl ?_
      conv => whnf
      refine SemK.add _ rfl (by omega) (by omega) ?_
      conv => whnf
      refine SemK.load1 (by kernel_rfl) B45.cells (k := 1) rfl ?_
      conv => whnf
      refine SemK.mul _ rfl (by omega) (by omega) ?_
      conv => whnf
      with_reducible refine IfB.dec (fun h46 => ?_) (fun h46 => ?_)
      · conv => whnf
        refine SemK.add _ rfl (by omega) (by omega) ?_
        conv => whnf
        refine SemK.add (((k + 1 : Nat) : Int)) (by omega) (by omega) (by omega) ?_
        conv => whnf
        exact ⟨k + 1, by omega, _, _, rfl, by omega, by simp [List.take_add_one, cardsL, largeN, pairV, shelvesM, *], by simp [List.take_add_one, cardsL, largeN, pairV, shelvesM, *], (Ext.but_trans (Ext.trans hE e44) c45.but (Nat.le_trans (Below.size hE) g44))⟩
      · conv => whnf
        refine SemK.add (((k + 1 : Nat) : Int)) (by omega) (by omega) (by omega) ?_
        conv => whnf
        exact ⟨k + 1, by omega, _, _, rfl, by omega, by simp [List.take_add_one, cardsL, largeN, pairV, shelvesM, *], by simp [List.take_add_one, cardsL, largeN, pairV, shelvesM, *], (Ext.but_trans (Ext.trans hE e44) c45.but (Nat.le_trans (Below.size hE) g44))⟩
    · conv => whnf
      have tk47 : List.take k xs = xs := List.take_of_length_le (by omega)
      refine SemK.add _ rfl (by omega) (by omega) ?_
      conv => whnf
      refine SemK.sub _ rfl (by omega) (by omega) ?_
      conv => whnf
      refine SemK.quo (by omega) (by omega) (by omega) ?_
      conv => whnf
      refine SemK.max2 ?_
      conv => whnf
      refine ⟨?_, hE⟩
      · simp [pairV, shelvesM, h3, *, Int.max_comm]
end Go.Proofs.Ytjlhbaemfiaeiaa
