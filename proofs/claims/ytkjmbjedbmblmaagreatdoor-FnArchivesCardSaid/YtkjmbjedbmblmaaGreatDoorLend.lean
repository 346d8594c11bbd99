/- Contracts of functions of the given program, of the reference and of the laws: each says what a call returns, for all arguments that meet the premises that the theorem itself names. -/
import Derived.Test.YtkjmbjedbmblmaaGreatDoorKept
namespace Go.M
open Go Go.Vc
def boxIx (xs : List TBox) (s : ByteArray) : Int := idxI (fun y => decide (y.name = s)) xs
def askM (xs : List TBox) (s : ByteArray) : Int × Int := if boxesB xs = false then (0, 1) else if boxIx xs s < 0 then (0, 3) else (boxIx xs s, 0)
theorem boxIx_get {xs : List TBox} {s : ByteArray} (h : 0 ≤ boxIx xs s) : ∃ (k : Nat) (x : TBox), boxIx xs s = (k : Int) ∧ xs[k]? = some x := by
  have h1 := (idxI_le (p := fun y => decide (y.name = s)) (xs := xs))
  unfold boxIx at h ⊢
  refine ⟨(idxI (fun y => decide (y.name = s)) xs).toNat, ?_⟩
  have h2 : idxI (fun y => decide (y.name = s)) xs < xs.length := by
    unfold idxI at h ⊢
    split
    · rename_i i hi
      rw [List.findIdx?_eq_some_iff_getElem] at hi
      obtain ⟨h, _⟩ := hi
      omega
    · rename_i hi; rw [hi] at h; simp at h
  obtain ⟨x, hx⟩ := get_of_lt (l := xs) (k := (idxI (fun y => decide (y.name = s)) xs).toNat) (by omega)
  exact ⟨x, by omega, hx⟩
def lendM (xs : List TBox) (s q : ByteArray) : List TBox × Int :=
  if boxesB xs = false then ([], 1) else if boxIx xs s < 0 then ([], 3) else if nameB q = false then ([], 2) else
    match xs[(boxIx xs s).toNat]? with
    | none => ([], 0)
    | some x => if x.lent = { data := #[] } then (xs.set (boxIx xs s).toNat { x with lent := q }, 0) else ([], 6)
def returnM (xs : List TBox) (s : ByteArray) : List TBox × Int :=
  if boxesB xs = false then ([], 1) else if boxIx xs s < 0 then ([], 3) else
    match xs[(boxIx xs s).toNat]? with
    | none => ([], 0)
    | some x => if x.lent = { data := #[] } then ([], 6) else (xs.set (boxIx xs s).toNat { x with lent := { data := #[] } }, 0)
def lentAt (xs : List TBox) (s : ByteArray) (k : Nat) : Bool := match xs[k]? with | some x => decide (x.lent = s) | none => false
def whereM (p : Nat → Bool) (n : Nat) : List Int := ((List.range n).filter p).map fun (k : Nat) => (k : Int)
theorem whereM_succ (p : Nat → Bool) (n : Nat) : whereM p (n + 1) = whereM p n ++ (if p n = true then [(n : Int)] else []) := by
  simp only [whereM, List.range_succ, List.filter_append, List.map_append]
  cases h : p n <;> simp [h]
theorem whereM_len (p : Nat → Bool) (n : Nat) : (whereM p n).length ≤ n := by
  simp only [whereM, List.length_map]
  exact Nat.le_trans (List.length_filter_le _ _) (by simp)
def lentToM (xs : List TBox) (s : ByteArray) : List Int × Int := if boxesB xs = false then ([], 1) else if nameB s = false then ([], 2) else (whereM (lentAt xs s) xs.length, 0)
theorem lendM_len (xs : List TBox) (s q : ByteArray) : (lendM xs s q).1.length ≤ xs.length := by
  unfold lendM
  repeat' split
  all_goals simp
theorem returnM_len (xs : List TBox) (s : ByteArray) : (returnM xs s).1.length ≤ xs.length := by
  unfold returnM
  repeat' split
  all_goals simp
theorem lentToM_len (xs : List TBox) (s : ByteArray) : (lentToM xs s).1.length ≤ xs.length := by
  unfold lentToM
  repeat' split
  · simp
  · simp
  · exact whereM_len _ _
end Go.M
namespace Go.Proofs.YtkjmbjedbmblmaaGreatDoor
open Go Go.RowKit Go.Vc Go.M
theorem spec_l26Find {w : World} {a : Option Addr} {n c : Nat} {xs : List TBox} (h : Arr TBox.enc 5 w a n xs) (s : ByteArray) :
    Does Tryz.prog 161 [.slice a n c, .string s] w (fun v w' => v = .int .i64 (boxIx xs s) ∧ Ext w w') := by
  have hn := h.len
  have hm := h.le
  refine Does.of_vc tabok Tryz.func161 rfl rfl rfl (by kernel_rfl) ?_; conv => whnf
  refine LoopK.rule [0, 1, 5] (fun (k : Nat) vs w' => vs = [.slice a n c, .string s, .int .i64 k] ∧ k ≤ n ∧ (xs.take k).any (fun y => decide (y.name = s)) = false ∧ Ext w w') (fun k => n - k) tab tabok (by kernel_rfl) 0 ⟨rfl, by omega, by simp, Ext.refl _⟩ ?_
  rintro k g _ w' ⟨rfl, hk, hall, hE⟩
  conv => whnf
  with_reducible refine IfB.dec (fun h1 => ?_) (fun h1 => ?_)
  · conv => whnf
    obtain ⟨x2, hx2⟩ : ∃ x, xs[k]? = some x := get_of_lt (by omega)
    refine SemK.index (by kernel_rfl) (h.ext hE) k rfl hx2 ?_
    intro b3 o3 _ hb3
    conv => whnf
    refine SemK.load1 (by kernel_rfl) hb3 (k := 0) rfl ?_
    conv => whnf
    with_reducible refine IfB.dec (fun h4 => ?_) (fun h4 => ?_)
    · conv => whnf
      refine ⟨?_, hE⟩
      · rw [boxIx, idxI_at hall hx2 (by simpa using h4)]
    · conv => whnf
      refine SemK.add (((k + 1 : Nat) : Int)) (by omega) (by omega) (by omega) ?_
      conv => whnf
      exact ⟨k + 1, by omega, rfl, by omega, by simp [List.take_add_one, boxIx, *], hE⟩
  · conv => whnf
    have tk5 : List.take k xs = xs := List.take_of_length_le (by omega)
    refine ⟨?_, hE⟩
    · rw [tk5] at hall; rw [boxIx, idxI_neg hall]
theorem spec_l26Ask {w : World} {a : Option Addr} {n c : Nat} {xs : List TBox} (h : Arr TBox.enc 5 w a n xs) (hok : ∀ x ∈ xs, x.ok) (s : ByteArray) :
    Does Tryz.prog 165 [.slice a n c, .string s] w (fun v w' => v = pairV (askM xs s) ∧ Ext w w') := by
  refine Does.of_vc tabok Tryz.func165 rfl rfl rfl (by kernel_rfl) ?_; conv => whnf
  refine (spec_l26Ok h hok).mono ?_
  rintro _ w2 ⟨rfl, e1⟩
  conv => whnf
  with_reducible refine IfB.split (fun h3 => ?_) (fun h3 => ?_)
  · conv => whnf
    exact ⟨by simp_all [askM, pairV], e1⟩
  · conv => whnf
    refine (spec_l26Find (h.ext e1) _).mono ?_
    rintro _ w5 ⟨rfl, e4⟩
    conv => whnf
    with_reducible refine IfB.dec (fun h6 => ?_) (fun h6 => ?_)
    · conv => whnf
      exact ⟨by simp_all [askM, pairV], (Ext.trans e1 e4)⟩
    · conv => whnf
      exact ⟨by (simp only [askM, pairV]; repeat' split) <;> first | rfl | omega | (simp_all; done) | (simp_all; omega), (Ext.trans e1 e4)⟩
theorem spec_l26Change {w : World} {a : Option Addr} {n c : Nat} {xs : List TBox} (h : Arr TBox.enc 5 w a n xs) {k : Nat} {x : TBox} (hx : xs[k]? = some x) (hn40 : n ≤ 40) (s : ByteArray) :
    Does Tryz.prog 167 [.slice a n c, .int .i64 k, .string s] w (fun v w' => ∃ a' c', v = .slice a' n c' ∧ NewAt w.heap.size a' ∧ Own TBox.enc w' a' n 99 (xs.set k { x with lent := s }) ∧ Ext w w') := by
  have hn := h.len
  have hkn : k < n := by rw [← hn]; exact (List.getElem?_eq_some_iff.1 hx).1
  refine Does.of_vc tabok Tryz.func167 rfl rfl rfl (by kernel_rfl) ?_; conv => whnf
  refine SemK.buildSlice mk_97 (vs := []) (by rfl) (by rfl) (by simp [Value.cells]) (by decide) ?_
  intro b41 w41 g41 l41 e41 B41
  have G41 := Grow.new0 (enc := TBox.enc) TBox.enc_len B41 g41
  conv => whnf
  refine SemK.appendNew (enc := TBox.enc) mk_97 TBox.enc_len G41 (h.ext e41) (by intro y _; simp [TBox.enc, cellish]) (by omega) (by omega) (Below.size e41) ?_
  intro a42 c42 w42 G42 m42 i42
  conv => whnf
  obtain ⟨b44, rfl⟩ := (G42.own).some (by omega)
  have gb44 : w.heap.size ≤ b44 := G42.new _ rfl
  have lb44 : b44 < w42.heap.size := G42.lt _ rfl
  refine SemK.indexOwn (sz := 5) (by kernel_rfl) k rfl (by omega) ?_
  have hb44 := Own.elem TBox.enc_len G42.own hx
  conv => whnf
  refine SemK.loadAgg (by kernel_rfl) hb44 rfl ?_
  conv => whnf
  refine SemK.alloc (z := .agg #[.string { data := #[] }, .int .i64 0, .int .i64 0, .int .i64 0, .string { data := #[] }]) (by kernel_rfl) ?_
  intro b45 w45 g45 l45 e45 B45
  conv => whnf
  refine SemK.storeAll (by kernel_rfl) B45 (vs := x.enc) rfl rfl (by simp [TBox.enc, cellish]) ?_
  intro w46 c46 B46
  conv => whnf
  refine SemK.store1 (by kernel_rfl) B46 (k := 4) (Nat.le_of_ble_eq_true rfl) rfl ?_
  intro w47 c47 B47
  have B47 : Blk w47 b45 (TBox.enc { x with lent := s }) _ := B47
  conv => whnf
  refine SemK.loadAgg (by kernel_rfl) B47.cells rfl ?_
  conv => whnf
  refine SemK.indexOwn (sz := 5) (by kernel_rfl) k rfl (by omega) ?_
  have hb49 := Own.elem TBox.enc_len (G42.ext (Ext.but_trans (Ext.but_trans e45 c46.but g45) c47.but g45)).own hx
  conv => whnf
  refine SemK.storeOwn (by kernel_rfl) TBox.enc_len (G42.ext (Ext.but_trans (Ext.but_trans e45 c46.but g45) c47.but g45)).own hx { name := x.name, cards := x.cards, year := x.year, keep := x.keep, lent := s } (by simp [TBox.enc, cellish]) ?_
  intro w50 c50 B50
  conv => whnf
  exact ⟨_, _, rfl, G42.new, B50, (Ext.but_trans (Ext.but_trans (Ext.but_trans (Ext.trans (Ext.mod_trans e41 m42 (blkIn_new G41.new)) e45) c46.but (Nat.le_trans (Below.size (Ext.mod_trans e41 m42 (blkIn_new G41.new))) g45)) c47.but (Nat.le_trans (Below.size (Ext.mod_trans e41 m42 (blkIn_new G41.new))) g45)) c50.but gb44)⟩
theorem impl_boxIndex1 (x : TBox) {b : Nat} {s : ByteArray} {w : World} (hc : Cells w b 0 [.string s]) : Does Tryz.prog 248 [.agg ⟨x.enc⟩, .pointer (some ⟨b, 0, none⟩)] w (fun v w' => v = .bool (decide (x.name = s)) ∧ Ext w w') := by
  refine Does.of_vc tabok Tryz.func248 rfl rfl rfl (by kernel_rfl) ?_; conv => whnf
  refine SemK.box ?_
  intro b2 w2 g2 l2 e2 B2
  conv => whnf
  refine SemK.load1 (by kernel_rfl) B2.cells (k := 0) rfl ?_
  conv => whnf
  refine SemK.load1 (by kernel_rfl) (hc.ext e2) (k := 0) rfl ?_
  conv => whnf
  exact ⟨rfl, e2⟩
theorem impl_boxIndex {w : World} {a : Option Addr} {n c : Nat} {xs : List TBox} (h : Arr TBox.enc 5 w a n xs) (s : ByteArray) :
    Does Tryz.prog 155 [.slice a n c, .string s] w (fun v w' => v = .int .i64 (boxIx xs s) ∧ Ext w w') := by
  refine Does.of_vc tabok Tryz.func155 rfl rfl rfl (by kernel_rfl) ?_; conv => whnf
  refine SemK.box ?_
  intro b w1 _ _ e1 hB
  have hc : Cells w1 b 0 [.string s] := hB.cells
  conv => whnf
  refine (lib_IndexFuncBox (h.ext e1) (fun x _ w' e => impl_boxIndex1 x (hc.ext e))).mono ?_
  rintro _ w2 ⟨rfl, e2⟩
  conv => whnf
  exact ⟨rfl, Ext.trans e1 e2⟩
theorem impl_withLent {w : World} {a : Option Addr} {n c : Nat} {xs : List TBox} (h : Arr TBox.enc 5 w a n xs) {k : Nat} {x : TBox} (hx : xs[k]? = some x) (hn40 : n ≤ 40) (s : ByteArray) :
    Does Tryz.prog 164 [.slice a n c, .int .i64 k, .string s] w (fun v w' => ∃ a' c', v = .slice a' n c' ∧ NewAt w.heap.size a' ∧ Own TBox.enc w' a' n 99 (xs.set k { x with lent := s }) ∧ Ext w w') := by
  have hn := h.len
  have hkn : k < n := by rw [← hn]; exact (List.getElem?_eq_some_iff.1 hx).1
  refine Does.of_vc tabok Tryz.func164 rfl rfl rfl (by kernel_rfl) ?_; conv => whnf
  refine SemK.buildSlice mk_97 (vs := []) (by rfl) (by rfl) (by simp [Value.cells]) (by decide) ?_
  intro b41 w41 g41 l41 e41 B41
  have G41 := Grow.new0 (enc := TBox.enc) TBox.enc_len B41 g41
  conv => whnf
  refine SemK.appendNew (enc := TBox.enc) mk_97 TBox.enc_len G41 (h.ext e41) (by intro y _; simp [TBox.enc, cellish]) (by omega) (by omega) (Below.size e41) ?_
  intro a42 c42 w42 G42 m42 i42
  conv => whnf
  obtain ⟨b44, rfl⟩ := (G42.own).some (by omega)
  have gb44 : w.heap.size ≤ b44 := G42.new _ rfl
  have lb44 : b44 < w42.heap.size := G42.lt _ rfl
  refine SemK.indexOwn (sz := 5) (by kernel_rfl) k rfl (by omega) ?_
  have hb44 := Own.elem TBox.enc_len G42.own hx
  conv => whnf
  refine SemK.storeGrow1 (k := k) (j := 4) (by kernel_rfl) TBox.enc_len G42 hx (by decide) rfl { x with lent := s } rfl ?_
  intro w45 c45 B45
  conv => whnf
  exact ⟨_, _, rfl, B45.new, B45.own, (Ext.but_trans (Ext.mod_trans e41 m42 (blkIn_new G41.new)) c45.but gb44)⟩
theorem impl_sizeBox (a : Option Addr) (n c : Nat) (w : World) : Does Tryz.prog 169 [.slice a n c] w (fun v w' => v = .int .i64 n ∧ w = w') := by
  refine Does.of_vc tabok Tryz.func169 rfl rfl rfl (by kernel_rfl) ?_; conv => whnf
  exact ⟨rfl, rfl⟩
theorem spec_LendBox {w : World} {a : Option Addr} {n c : Nat} {xs : List TBox} (h : Arr TBox.enc 5 w a n xs) (hok : ∀ x ∈ xs, x.ok) (s q : ByteArray) (hq : strok q) :
    Does Tryz.prog 57 [.slice a n c, .string s, .string q] w (fun v w' => ∃ a' n' c', v = .tuple #[.slice a' n' c', .int .i64 (lendM xs s q).2] ∧ NewAt w.heap.size a' ∧ Own TBox.enc w' a' n' 99 (lendM xs s q).1 ∧ Ext w w') := by
  have hn := h.len
  refine Does.of_vc tabok Tryz.func57 rfl rfl rfl (by kernel_rfl) ?_; conv => whnf
  generalize hr : lendM xs s q = r
  refine (spec_l26Ask h hok _).mono ?_
  rintro _ w2 ⟨rfl, e1⟩
  have hq' : q.size ≤ 9223372036854775807 := hq
  cases hz1 : boxesB xs
  · rw [show askM xs s = (0, 1) by simp [askM, hz1]]
    conv => whnf
    simp [lendM, hz1] at hr
    subst hr
    exact ⟨_, _, _, rfl, NewAt.nil, Own.nil, e1⟩
  by_cases hz2 : boxIx xs s < 0
  · rw [show askM xs s = (0, 3) by simp [askM, hz1, hz2]]
    conv => whnf
    simp [lendM, hz1, hz2] at hr
    subst hr
    exact ⟨_, _, _, rfl, NewAt.nil, Own.nil, e1⟩
  · rw [show askM xs s = (boxIx xs s, 0) by simp [askM, hz1, hz2]]
    obtain ⟨k, x, hkx, hx⟩ := boxIx_get (by omega : 0 ≤ boxIx xs s)
    have h40 := (boxesB_mem hz1).1
    rw [hkx] at hz2 ⊢
    conv => whnf
    refine (spec_IsName _ hq' _).mono ?_
    rintro _ _ ⟨rfl, rfl⟩
    conv => whnf
    with_reducible refine IfB.nsplit (fun h42 => ?_) (fun h42 => ?_)
    · conv => whnf
      simp [lendM, hkx, hx, h42, hz1, hz2] at hr
      subst hr
      exact ⟨_, _, _, rfl, NewAt.nil, Own.nil, e1⟩
    · conv => whnf
      refine SemK.index (by kernel_rfl) (h.ext e1) k rfl hx ?_
      intro b44 o44 _ hb44
      conv => whnf
      refine SemK.load1 (by kernel_rfl) hb44 (k := 4) rfl ?_
      conv => whnf
      with_reducible refine IfB.ndec (fun h45 => ?_) (fun h45 => ?_)
      · conv => whnf
        simp [lendM, hkx, hx, h42, h45, hz1, hz2] at hr
        subst hr
        exact ⟨_, _, _, rfl, NewAt.nil, Own.nil, e1⟩
      · conv => whnf
        refine (spec_l26Change (h.ext e1) hx (by omega) _).mono ?_
        rintro _ w51 ⟨a'46, c'47, rfl, N48, O49, e50⟩
        conv => whnf
        simp [lendM, hkx, hx, h42, h45, hz1, hz2] at hr
        subst hr
        exact ⟨_, _, _, rfl, (N48.mono (Below.size e1)), O49, (Ext.trans e1 e50)⟩
theorem impl_LendBox {w : World} {a : Option Addr} {n c : Nat} {xs : List TBox} (h : Arr TBox.enc 5 w a n xs) (hok : ∀ x ∈ xs, x.ok) (s q : ByteArray) (hq : strok q) :
    Does Tryz.prog 56 [.slice a n c, .string s, .string q] w (fun v w' => ∃ a' n' c', v = .tuple #[.slice a' n' c', .int .i64 (lendM xs s q).2] ∧ NewAt w.heap.size a' ∧ Own TBox.enc w' a' n' 99 (lendM xs s q).1 ∧ Ext w w') := by
  have hn := h.len
  refine Does.of_vc tabok Tryz.func56 rfl rfl rfl (by kernel_rfl) ?_; conv => whnf
  generalize hr : lendM xs s q = r
  have hq' : q.size ≤ 9223372036854775807 := hq
  refine (impl_boxIndex h _).mono ?_
  rintro _ w2 ⟨rfl, e1⟩
  cases hz1 : boxesB xs
  · conv => whnf
    refine (impl_ValidBoxes (h.ext e1) hok).mono ?_
    rintro _ w4 ⟨rfl, e3⟩
    conv => whnf
    refine IfB.eqt (by simp [*]; done) ?_
    conv => whnf
    simp [lendM, hz1] at hr
    subst hr
    exact ⟨_, _, _, rfl, NewAt.nil, Own.nil, (Ext.trans e1 e3)⟩
  by_cases hz2 : boxIx xs s < 0
  · conv => whnf
    refine (impl_ValidBoxes (h.ext e1) hok).mono ?_
    rintro _ w4 ⟨rfl, e3⟩
    conv => whnf
    refine IfB.eqf (by simp [*]; done) ?_
    conv => whnf
    refine IfB.yes (by omega) ?_
    conv => whnf
    simp [lendM, hz1, hz2] at hr
    subst hr
    exact ⟨_, _, _, rfl, NewAt.nil, Own.nil, (Ext.trans e1 e3)⟩
  · obtain ⟨k, x, hkx, hx⟩ := boxIx_get (by omega : 0 ≤ boxIx xs s)
    have h40 := (boxesB_mem hz1).1
    rw [hkx] at hz2 ⊢
    conv => whnf
    refine (impl_ValidBoxes (h.ext e1) hok).mono ?_
    rintro _ w42 ⟨rfl, e41⟩
    conv => whnf
    refine IfB.eqf (by simp [*]; done) ?_
    conv => whnf
    refine (impl_IsName _ hq' _).mono ?_
    rintro _ _ ⟨rfl, rfl⟩
    conv => whnf
    with_reducible refine IfB.nsplit (fun h44 => ?_) (fun h44 => ?_)
    · conv => whnf
      simp [lendM, hkx, hx, h44, hz1, hz2] at hr
      subst hr
      exact ⟨_, _, _, rfl, NewAt.nil, Own.nil, (Ext.trans e1 e41)⟩
    · conv => whnf
      refine SemK.index (by kernel_rfl) (h.ext (Ext.trans e1 e41)) k rfl hx ?_
      intro b46 o46 _ hb46
      conv => whnf
      refine SemK.load1 (by kernel_rfl) hb46 (k := 4) rfl ?_
      conv => whnf
      with_reducible refine IfB.ndec (fun h47 => ?_) (fun h47 => ?_)
      · conv => whnf
        simp [lendM, hkx, hx, h44, h47, hz1, hz2] at hr
        subst hr
        exact ⟨_, _, _, rfl, NewAt.nil, Own.nil, (Ext.trans e1 e41)⟩
      · conv => whnf
        refine (impl_withLent (h.ext (Ext.trans e1 e41)) hx (by omega) _).mono ?_
        rintro _ w53 ⟨a'48, c'49, rfl, N50, O51, e52⟩
        conv => whnf
        simp [lendM, hkx, hx, h44, h47, hz1, hz2] at hr
        subst hr
        exact ⟨_, _, _, rfl, (N50.mono (Below.size (Ext.trans e1 e41))), O51, (Ext.trans (Ext.trans e1 e41) e52)⟩
theorem spec_ReturnBox {w : World} {a : Option Addr} {n c : Nat} {xs : List TBox} (h : Arr TBox.enc 5 w a n xs) (hok : ∀ x ∈ xs, x.ok) (s : ByteArray) :
    Does Tryz.prog 60 [.slice a n c, .string s] w (fun v w' => ∃ a' n' c', v = .tuple #[.slice a' n' c', .int .i64 (returnM xs s).2] ∧ NewAt w.heap.size a' ∧ Own TBox.enc w' a' n' 99 (returnM xs s).1 ∧ Ext w w') := by
  have hn := h.len
  refine Does.of_vc tabok Tryz.func60 rfl rfl rfl (by kernel_rfl) ?_; conv => whnf
  generalize hr : returnM xs s = r
  refine (spec_l26Ask h hok _).mono ?_
  rintro _ w2 ⟨rfl, e1⟩
  cases hz1 : boxesB xs
  · rw [show askM xs s = (0, 1) by simp [askM, hz1]]
    conv => whnf
    simp [returnM, hz1] at hr
    subst hr
    exact ⟨_, _, _, rfl, NewAt.nil, Own.nil, e1⟩
  by_cases hz2 : boxIx xs s < 0
  · rw [show askM xs s = (0, 3) by simp [askM, hz1, hz2]]
    conv => whnf
    simp [returnM, hz1, hz2] at hr
    subst hr
    exact ⟨_, _, _, rfl, NewAt.nil, Own.nil, e1⟩
  · rw [show askM xs s = (boxIx xs s, 0) by simp [askM, hz1, hz2]]
    obtain ⟨k, x, hkx, hx⟩ := boxIx_get (by omega : 0 ≤ boxIx xs s)
    have h40 := (boxesB_mem hz1).1
    rw [hkx] at hz2 ⊢
    conv => whnf
    refine SemK.index (by kernel_rfl) (h.ext e1) k rfl hx ?_
    intro b42 o42 _ hb42
    conv => whnf
    refine SemK.load1 (by kernel_rfl) hb42 (k := 4) rfl ?_
    conv => whnf
    with_reducible refine IfB.dec (fun h43 => ?_) (fun h43 => ?_)
    · conv => whnf
      simp [returnM, hkx, hx, h43, hz1, hz2] at hr
      subst hr
      exact ⟨_, _, _, rfl, NewAt.nil, Own.nil, e1⟩
    · conv => whnf
      refine (spec_l26Change (h.ext e1) hx (by omega) _).mono ?_
      rintro _ w49 ⟨a'44, c'45, rfl, N46, O47, e48⟩
      conv => whnf
      simp [returnM, hkx, hx, h43, hz1, hz2] at hr
      subst hr
      exact ⟨_, _, _, rfl, (N46.mono (Below.size e1)), O47, (Ext.trans e1 e48)⟩
theorem impl_ReturnBox {w : World} {a : Option Addr} {n c : Nat} {xs : List TBox} (h : Arr TBox.enc 5 w a n xs) (hok : ∀ x ∈ xs, x.ok) (s : ByteArray) :
    Does Tryz.prog 59 [.slice a n c, .string s] w (fun v w' => ∃ a' n' c', v = .tuple #[.slice a' n' c', .int .i64 (returnM xs s).2] ∧ NewAt w.heap.size a' ∧ Own TBox.enc w' a' n' 99 (returnM xs s).1 ∧ Ext w w') := by
  have hn := h.len
  refine Does.of_vc tabok Tryz.func59 rfl rfl rfl (by kernel_rfl) ?_; conv => whnf
  generalize hr : returnM xs s = r
  refine (impl_boxIndex h _).mono ?_
  rintro _ w2 ⟨rfl, e1⟩
  cases hz1 : boxesB xs
  · conv => whnf
    refine (impl_ValidBoxes (h.ext e1) hok).mono ?_
    rintro _ w4 ⟨rfl, e3⟩
    conv => whnf
    refine IfB.eqt (by simp [*]; done) ?_
    conv => whnf
    simp [returnM, hz1] at hr
    subst hr
    exact ⟨_, _, _, rfl, NewAt.nil, Own.nil, (Ext.trans e1 e3)⟩
  by_cases hz2 : boxIx xs s < 0
  · conv => whnf
    refine (impl_ValidBoxes (h.ext e1) hok).mono ?_
    rintro _ w4 ⟨rfl, e3⟩
    conv => whnf
    refine IfB.eqf (by simp [*]; done) ?_
    conv => whnf
    refine IfB.yes (by omega) ?_
    conv => whnf
    simp [returnM, hz1, hz2] at hr
    subst hr
    exact ⟨_, _, _, rfl, NewAt.nil, Own.nil, (Ext.trans e1 e3)⟩
  · obtain ⟨k, x, hkx, hx⟩ := boxIx_get (by omega : 0 ≤ boxIx xs s)
    have h40 := (boxesB_mem hz1).1
    rw [hkx] at hz2 ⊢
    conv => whnf
    refine (impl_ValidBoxes (h.ext e1) hok).mono ?_
    rintro _ w42 ⟨rfl, e41⟩
    conv => whnf
    refine IfB.eqf (by simp [*]; done) ?_
    conv => whnf
    refine SemK.index (by kernel_rfl) (h.ext (Ext.trans e1 e41)) k rfl hx ?_
    intro b44 o44 _ hb44
    conv => whnf
    refine SemK.load1 (by kernel_rfl) hb44 (k := 4) rfl ?_
    conv => whnf
    with_reducible refine IfB.dec (fun h45 => ?_) (fun h45 => ?_)
    · conv => whnf
      simp [returnM, hkx, hx, h45, hz1, hz2] at hr
      subst hr
      exact ⟨_, _, _, rfl, NewAt.nil, Own.nil, (Ext.trans e1 e41)⟩
    · conv => whnf
      refine (impl_withLent (h.ext (Ext.trans e1 e41)) hx (by omega) _).mono ?_
      rintro _ w51 ⟨a'46, c'47, rfl, N48, O49, e50⟩
      conv => whnf
      simp [returnM, hkx, hx, h45, hz1, hz2] at hr
      subst hr
      exact ⟨_, _, _, rfl, (N48.mono (Below.size (Ext.trans e1 e41))), O49, (Ext.trans (Ext.trans e1 e41) e50)⟩
theorem impl_columnsWhere {w : World} {n g : Nat} (hn : n ≤ 1000000) {p : Nat → Bool} {cap : List Value}
    (hg : ∀ k, k < n → ∀ w', Ext w w' → Does Tryz.prog g (.int .i64 (k : Int) :: cap) w' (fun v w'' => v = .bool (p k) ∧ Ext w' w'')) :
    Does Tryz.prog 168 [.int .i64 (n : Int), .func (.func g) ⟨[]⟩ ⟨cap⟩] w (fun v w' => ∃ a' n' c', v = .slice a' n' c' ∧ Grow eI 1 w.heap.size 2 w' a' n' c' (whereM p n) ∧ Ext w w') := by
  refine Does.of_vc tabok Tryz.func168 rfl rfl rfl (by kernel_rfl) ?_; conv => whnf
  refine SemK.buildSlice mk_41 (vs := []) (by rfl) (by rfl) (by simp [Value.cells]) (by decide) ?_
  intro b1 w1 g1 l1 e1 B1
  have G1 := Grow.new0 (enc := eI) eI_len B1 g1
  conv => whnf
  refine LoopK.rule [1, 5, 8, 9] (fun (k : Nat) vs w' => ∃ a' c' m, vs = [.func (.func g) ⟨[]⟩ ⟨cap⟩, .slice a' m c', .int .i64 (n : Int), .int .i64 k] ∧ k ≤ n ∧ m ≤ k ∧ Grow eI 1 w.heap.size 2 w' a' m c' (whereM p k) ∧ Ext w w') (fun k => n - k) tab tabok (by kernel_rfl) 0
    ⟨_, _, _, rfl, by omega, by omega, G1, e1⟩ ?_
  rintro k g' _ w' ⟨a', c', m, rfl, hk, hm, hG, hE⟩
  conv => whnf
  with_reducible refine IfB.dec (fun h2 => ?_) (fun h2 => ?_)
  · conv => whnf
    refine (hg _ (by omega) _ hE).mono ?_
    rintro _ w4 ⟨rfl, e3⟩
    conv => whnf
    with_reducible refine IfB.split (fun h5 => ?_) (fun h5 => ?_)
    · conv => whnf
      refine SemK.buildSlice mk_41 (vs := [Value.int IntKind.i64 ↑k]) (by rfl) (by rfl) (by simp [Value.cells]) (by decide) ?_
      intro b6 w6 g6 l6 e6 B6
      have G6 := Grow.of_blk (n := 1) (enc := eI) (xs := [↑k]) eI_len B6 g6 rfl (by decide)
      conv => whnf
      refine SemK.appendArr0 (enc := eI) mk_41 eI_len (hG.ext (Ext.trans e3 e6)) (G6.own.arr eI_len) (by intro y _; simp [eI, cellish]) (by omega) (by omega) (Below.size (Ext.trans (Ext.trans hE e3) e6)) ?_
      intro a7 c7 w7 G7 m7 i7
      conv => whnf
      refine SemK.add (((k + 1 : Nat) : Int)) (by omega) (by omega) (by omega) ?_
      conv => whnf
      exact ⟨k + 1, by omega, _, _, _, rfl, by omega, by omega, by simpa [List.take_add_one, *, whereM_succ] using G7, (Ext.mod_trans (Ext.trans (Ext.trans hE e3) e6) m7 (blkIn_new hG.new))⟩
    · conv => whnf
      refine SemK.add (((k + 1 : Nat) : Int)) (by omega) (by omega) (by omega) ?_
      conv => whnf
      exact ⟨k + 1, by omega, _, _, _, rfl, by omega, by omega, by simpa [List.take_add_one, *, whereM_succ] using (hG.ext e3), (Ext.trans hE e3)⟩
  · conv => whnf
    have kn8 : k = n := by omega
    exact ⟨_, _, _, rfl, by simpa [List.take_add_one, *, whereM_succ] using hG, hE⟩
theorem impl_LentTo1 {a : Option Addr} {n c : Nat} {xs : List TBox} {k : Nat} (hk : k < n) {b1 b2 : Nat} {s : ByteArray} {w : World} (h : Arr TBox.enc 5 w a n xs) (hc1 : Cells w b1 0 [.slice a n c]) (hc2 : Cells w b2 0 [.string s]) :
    Does Tryz.prog 170 [.int .i64 (k : Int), .pointer (some ⟨b1, 0, none⟩), .pointer (some ⟨b2, 0, none⟩)] w (fun v w' => v = .bool (lentAt xs s k) ∧ Ext w w') := by
  have hn := h.len
  refine Does.of_vc tabok Tryz.func170 rfl rfl rfl (by kernel_rfl) ?_; conv => whnf
  refine DrawK.det tabok mixed (by kernel_rfl) (by kernel_rfl) ?_
  conv => whnf
  refine DSemK.load1 (by kernel_rfl) hc1 (k := 0) rfl ?_
  conv => whnf
  obtain ⟨x3, hx3⟩ : ∃ x, xs[k]? = some x := get_of_lt (by omega)
  refine DSemK.index (by kernel_rfl) h k rfl hx3 ?_
  intro b4 o4 _ hb4
  conv => whnf
  refine DSemK.load1 (by kernel_rfl) hb4 (k := 4) rfl ?_
  conv => whnf
  refine DSemK.load1 (by kernel_rfl) hc2 (k := 0) rfl ?_
  conv => whnf
  intro w5 e5
  conv => whnf
  exact ⟨by simp_all [lentAt], e5⟩
theorem impl_LentTo {w : World} {a : Option Addr} {n c : Nat} {xs : List TBox} (h : Arr TBox.enc 5 w a n xs) (hok : ∀ x ∈ xs, x.ok) (s : ByteArray) (hs : strok s) :
    Does Tryz.prog 62 [.slice a n c, .string s] w (fun v w' => ∃ a' n' c', v = .tuple #[.slice a' n' c', .int .i64 (lentToM xs s).2] ∧ NewAt w.heap.size a' ∧ Own eI w' a' n' 2 (lentToM xs s).1 ∧ Ext w w') := by
  have hn := h.len
  refine Does.of_vc tabok Tryz.func62 rfl rfl rfl (by kernel_rfl) ?_; conv => whnf
  generalize hr : lentToM xs s = r
  refine SemK.box ?_
  intro b1 w1 g1 l1 e1 B1
  conv => whnf
  refine SemK.box ?_
  intro b2 w2 g2 l2 e2 B2
  conv => whnf
  refine SemK.load1 (by kernel_rfl) (B1.ext e2).cells (k := 0) rfl ?_
  conv => whnf
  refine (impl_ValidBoxes (h.ext (Ext.trans e1 e2)) hok).mono ?_
  rintro _ w4 ⟨rfl, e3⟩
  cases hz1 : boxesB xs
  · conv => whnf
    simp [lentToM, hz1] at hr
    subst hr
    exact ⟨_, _, _, rfl, NewAt.nil, Own.nil, (Ext.trans (Ext.trans e1 e2) e3)⟩
  obtain ⟨h40, hbx⟩ := boxesB_mem hz1
  conv => whnf
  refine SemK.load1 (by kernel_rfl) (B2.ext e3).cells (k := 0) rfl ?_
  conv => whnf
  refine (impl_IsName _ hs _).mono ?_
  rintro _ _ ⟨rfl, rfl⟩
  cases hz2 : nameB s
  · conv => whnf
    simp [lentToM, hz1, hz2] at hr
    subst hr
    exact ⟨_, _, _, rfl, NewAt.nil, Own.nil, (Ext.trans (Ext.trans e1 e2) e3)⟩
  conv => whnf
  refine SemK.load1 (by kernel_rfl) (B1.ext (Ext.trans e2 e3)).cells (k := 0) rfl ?_
  conv => whnf
  refine (impl_sizeBox _ _ _ _).mono ?_
  rintro _ _ ⟨rfl, rfl⟩
  conv => whnf
  have E4 := Ext.trans (Ext.trans e1 e2) e3
  refine (impl_columnsWhere (p := lentAt xs s) (by omega) (fun k hk w' e => impl_LentTo1 hk ((h.ext E4).ext e) ((B1.ext (Ext.trans e2 e3)).ext e).cells ((B2.ext e3).ext e).cells)).mono ?_
  rintro _ w5 ⟨a5, n5, c5, rfl, G5, e5⟩
  conv => whnf
  simp [lentToM, hz1, hz2, hn] at hr
  subst hr
  exact ⟨_, _, _, rfl, G5.new.mono E4.size, G5.own, Ext.trans E4 e5⟩
theorem spec_LentTo {w : World} {a : Option Addr} {n c : Nat} {xs : List TBox} (h : Arr TBox.enc 5 w a n xs) (hok : ∀ x ∈ xs, x.ok) (s : ByteArray) (hs : strok s) :
    Does Tryz.prog 63 [.slice a n c, .string s] w (fun v w' => ∃ a' n' c', v = .tuple #[.slice a' n' c', .int .i64 (lentToM xs s).2] ∧ NewAt w.heap.size a' ∧ Own eI w' a' n' 2 (lentToM xs s).1 ∧ Ext w w') := by
  have hn := h.len
  refine Does.of_vc tabok Tryz.func63 rfl rfl rfl (by kernel_rfl) ?_; conv => whnf
  generalize hr : lentToM xs s = r
  refine (spec_l26Ok h hok).mono ?_
  rintro _ w2 ⟨rfl, e1⟩
  cases hz1 : boxesB xs
  · conv => whnf
    simp [lentToM, hz1] at hr
    subst hr
    exact ⟨_, _, _, rfl, NewAt.nil, Own.nil, e1⟩
  obtain ⟨h40, hbx⟩ := boxesB_mem hz1
  conv => whnf
  refine (spec_IsName _ hs _).mono ?_
  rintro _ _ ⟨rfl, rfl⟩
  cases hz2 : nameB s
  · conv => whnf
    simp [lentToM, hz1, hz2] at hr
    subst hr
    exact ⟨_, _, _, rfl, NewAt.nil, Own.nil, e1⟩
  conv => whnf
  refine SemK.buildSlice mk_41 (vs := []) (by rfl) (by rfl) (by simp [Value.cells]) (by decide) ?_
  intro b6 w6 g6 l6 e6 B6
  have G6 := Grow.new0 (enc := eI) eI_len B6 g6
  conv => whnf
  simp [lentToM, hz1, hz2, hn] at hr
  subst hr
  refine LoopK.rule [0, 1, 6, 7] (fun (k : Nat) vs w' => ∃ a' c' m, vs = [.slice a n c, .string s, .slice a' m c', .int .i64 k] ∧ k ≤ n ∧ m ≤ k ∧ Grow eI 1 w2.heap.size 2 w' a' m c' (whereM (lentAt xs s) k) ∧ Ext w2 w') (fun k => n - k) tab tabok (by kernel_rfl) 0
    ⟨_, _, _, rfl, by omega, by omega, G6, e6⟩ ?_
  rintro k g' _ w' ⟨a', c', m, rfl, hk, hm, hG, hE⟩
  conv => whnf
  with_reducible refine IfB.dec (fun h41 => ?_) (fun h41 => ?_)
  · conv => whnf
    obtain ⟨x42, hx42⟩ : ∃ x, xs[k]? = some x := get_of_lt (by omega)
    have ok42 := hbx _ (List.mem_of_getElem? hx42)
    have ok42' := hok _ (List.mem_of_getElem? hx42)
    refine SemK.index (by kernel_rfl) (h.ext (Ext.trans e1 hE)) k rfl hx42 ?_
    intro b43 o43 _ hb43
    conv => whnf
    refine SemK.load1 (by kernel_rfl) hb43 (k := 4) rfl ?_
    conv => whnf
    with_reducible refine IfB.dec (fun h44 => ?_) (fun h44 => ?_)
    · conv => whnf
      refine SemK.buildSlice mk_41 (vs := [Value.int IntKind.i64 ↑k]) (by rfl) (by rfl) (by simp [Value.cells]) (by decide) ?_
      intro b45 w45 g45 l45 e45 B45
      have G45 := Grow.of_blk (n := 1) (enc := eI) (xs := [↑k]) eI_len B45 g45 rfl (by decide)
      conv => whnf
      refine SemK.appendArr0 (enc := eI) mk_41 eI_len (hG.ext e45) (G45.own.arr eI_len) (by intro y _; simp [eI, cellish]) (by omega) (by omega) (Below.size (Ext.trans hE e45)) ?_
      intro a46 c46 w46 G46 m46 i46
      conv => whnf
      refine SemK.add (((k + 1 : Nat) : Int)) (by omega) (by omega) (by omega) ?_
      conv => whnf
      exact ⟨k + 1, by omega, _, _, _, rfl, by omega, by omega, by simpa [List.take_add_one, *, whereM_succ, lentAt] using G46, (Ext.mod_trans (Ext.trans hE e45) m46 (blkIn_new hG.new))⟩
    · conv => whnf
      refine SemK.add (((k + 1 : Nat) : Int)) (by omega) (by omega) (by omega) ?_
      conv => whnf
      exact ⟨k + 1, by omega, _, _, _, rfl, by omega, by omega, by simp [List.take_add_one, *, whereM_succ, lentAt], hE⟩
  · conv => whnf
    have kn47 : k = n := by omega
    have tk48 : List.take k xs = xs := List.take_of_length_le (by omega)
    exact ⟨_, _, _, rfl, (hG.new.mono (Below.size e1)), by simpa [List.take_add_one, *, whereM_succ, lentAt] using hG.own, (Ext.trans e1 hE)⟩
end Go.Proofs.YtkjmbjedbmblmaaGreatDoor
