/- Contracts of functions of the given program, of the reference and of the laws: each says what a call returns, for all arguments that meet the premises that the theorem itself names. -/
import Derived.Test.YtfgbijddjoojbaaGreatDoorCounts
import Derived.Test.YtfgbijddjoojbaaGreatDoorDec
import Derived.Test.YtfgbijddjoojbaaGreatDoorShelf
import Derived.Test.YtfgbijddjoojbaaGreatDoorNestOwn
import Derived.Test.YtfgbijddjoojbaaGreatDoorNum
namespace Go.M
open Go Go.Vc
/-- numbers in a line -/
def jn (l : List Int) : List UInt8 := Lib.join (l.map Lib.itoa) [32]
theorem jn_one (x : Int) : jn [x] = Lib.itoa x := by simp [jn, Lib.join_one]
theorem jn_nil : jn [] = [] := rfl
theorem joinTail_append (sep : List UInt8) (a b : List (List UInt8)) : Lib.joinTail sep (a ++ b) = Lib.joinTail sep a ++ Lib.joinTail sep b := by simp [Lib.joinTail]
theorem jn_snoc {l : List Int} (h : l ≠ []) (x : Int) : jn (l ++ [x]) = jn l ++ 32 :: Lib.itoa x := by
  cases l with
  | nil => exact absurd rfl h
  | cons y l =>
    unfold jn
    rw [List.cons_append, List.map_cons, List.map_cons, Lib.join_cons, Lib.join_cons, List.map_append, joinTail_append]
    simp [Lib.joinTail]
theorem jn_take {l : List Int} {k : Nat} {x : Int} (h : l[k]? = some x) (hk : 0 < k) : jn (l.take (k + 1)) = jn (l.take k) ++ 32 :: Lib.itoa x := by
  have hlt := (List.getElem?_eq_some_iff.1 h).1
  rw [List.take_add_one, h]
  refine jn_snoc (fun e => ?_) x
  have := congrArg List.length e
  rw [List.length_take, List.length_nil] at this
  omega
theorem itoa_ne (n : Int) : Lib.itoa n ≠ [] := by
  unfold Lib.itoa
  split
  · simp
  · exact decDigits_ne _
theorem itoa_len {n : Int} (h : i64ok n) : (Lib.itoa n).length ≤ 21 := decB_len h.1 h.2
theorem jn_len {l : List Int} (h : ∀ x ∈ l, i64ok x) : ∀ k, (jn (l.take k)).length ≤ 22 * k := by
  intro k
  induction k with
  | zero => simp [jn_nil]
  | succ k ih =>
    cases hx : l[k]? with
    | none =>
      rw [List.take_add_one, hx]
      simp
      omega
    | some x =>
      have h1 := itoa_len (h x (List.mem_of_getElem? hx))
      by_cases hk : 0 < k
      · rw [jn_take hx hk]
        simp
        omega
      · have : k = 0 := by omega
        subst this
        rw [List.take_add_one, hx]
        simp [jn_one]
        omega
theorem jn_ne {l : List Int} (h : l ≠ []) : jn l ≠ [] := by
  cases l with
  | nil => exact absurd rfl h
  | cons y l =>
    unfold jn
    rw [List.map_cons, Lib.join_cons]
    intro e
    exact itoa_ne y (List.append_eq_nil_iff.1 e).1
def lineS (l : List Int) : ByteArray := if l = [] then bs [45] else bs (jn l)
theorem lineS_len {l : List Int} (h : ∀ x ∈ l, i64ok x) : (lineS l).size ≤ 22 * l.length + 1 := by
  unfold lineS
  split
  · rw [bs_size]; simp
  · rw [bs_size]
    have := jn_len h l.length
    rw [List.take_length] at this
    omega
/-! tables -/
def rowB (m : Nat) (l : List Int) : Bool := countsB l && decide (l.length = m)
def tableB (xs : List (List Int)) : Bool := xs.all (rowB (xs.headD []).length) && decide (xs.length ≤ 40)
def tableLines (xs : List (List Int)) : List ByteArray × Int := if tableB xs = true then (xs.map lineS, 0) else ([], 1)
theorem tableB_spec {xs : List (List Int)} (h : tableB xs = true) : xs.length ≤ 40 ∧ ∀ l ∈ xs, l.length = (xs.headD []).length ∧ l.length ≤ 40 ∧ ∀ x ∈ l, 0 ≤ x ∧ x ≤ 1000000 := by
  simp only [tableB, Bool.and_eq_true, decide_eq_true_eq, List.all_eq_true] at h
  refine ⟨h.2, fun l hl => ?_⟩
  have := h.1 l hl
  simp only [rowB, countsB, Bool.and_eq_true, decide_eq_true_eq, Bool.not_eq_true'] at this
  refine ⟨this.2, this.1.1, fun x hx => ?_⟩
  have h2 := List.any_eq_false.1 this.1.2 x hx
  simp only [Bool.not_eq_true, Bool.not_eq_false', inB, Bool.and_eq_true, decide_eq_true_eq] at h2
  exact h2
theorem head_get {α : Type} [Inhabited α] {xs : List (List α)} (h : 0 < xs.length) : xs[0]? = some (xs.headD []) := by
  cases xs with
  | nil => simp at h
  | cons x xs => rfl
theorem tableB_bad {xs : List (List Int)} {k : Nat} {l : List Int} (h : xs[k]? = some l) (hl : rowB (xs.headD []).length l = false) : tableB xs = false := by
  have : xs.all (rowB (xs.headD []).length) = false := List.all_eq_false.2 ⟨l, List.mem_of_getElem? h, by rw [hl]; exact Bool.false_ne_true⟩
  unfold tableB
  rw [this]
  rfl
theorem any_head {α : Type} {xs : List α} (h : xs = []) : xs.length = 0 := by rw [h]; rfl
end Go.M
namespace Go.Proofs.YtfgbijddjoojbaaGreatDoor
open Go Go.RowKit Go.Vc Go.M Go.Shelf Go.Proofs
theorem join_own {w : World} {b n c t : Nat} {xs : List ByteArray} {sep : ByteArray} (O : Own eS w (some ⟨b, 0, none⟩) n t xs) (hnc : n ≤ c) (hN : n ≤ 140737488355328) (hl : (Lib.join (xs.map (·.data.toList)) sep.data.toList).length ≤ 140737488355328) :
    Does Tryz.prog 87 [.slice (some ⟨b, 0, none⟩) n c, .string sep] w (fun v w' => v = .string (bs (Lib.join (xs.map (·.data.toList)) sep.data.toList)) ∧ Ext w w') := by
  obtain ⟨h1, h2, h3⟩ := O
  rcases h3 with ⟨h, _⟩ | ⟨b', rest, h, hb⟩
  · cases h
  · cases h
    exact lib_Join (Cells.append.1 hb.cells).1 hb.lt h1 hnc hN hl
theorem impl_SumLine {w : World} {a : Option Addr} {n c : Nat} {xs : List Int} (h : Arr eI 1 w a n xs) (hok : ∀ x ∈ xs, i64ok x) (hsm : n ≤ 1000) (hT : Pow w) :
    Does Tryz.prog 61 [.slice a n c] w (fun v w' => v = .string (lineS xs) ∧ Ext w w') := by
  have hn := h.len
  unfold lineS
  by_cases hz : xs = []
  · rw [if_pos hz]
    have hn0 : n = 0 := by rw [← hn, hz]; rfl
    refine Does.of_vc tabok Tryz.func61 rfl rfl rfl (by kernel_rfl) ?_; conv => whnf
    refine IfB.yes (by omega) ?_
    conv => whnf
    exact ⟨rfl, Ext.refl _⟩
  · rw [if_neg hz]
    have hn0 : n ≠ 0 := fun e => hz (List.eq_nil_of_length_eq_zero (by omega))
    refine Does.of_vc tabok Tryz.func61 rfl rfl rfl (by kernel_rfl) ?_; conv => whnf
    refine IfB.no (by omega) ?_
    conv => whnf
    refine SemK.buildSlice mk_32 (vs := []) (by rfl) (by rfl) (by simp [Value.cells]) (by decide) ?_
    intro b1 w1 g1 l1 e1 B1
    have G1 := Grow.new0 (enc := eS) eS_len B1 g1
    conv => whnf
    refine LoopK.rule [3, 10, 11, 12] (fun (k : Nat) vs w' => ∃ a3 n3 c3, vs = [.slice a3 n3 c3, .slice a n c, .int .i64 n, .int .i64 k] ∧ k ≤ n ∧ Grow eS 1 w.heap.size 9 w' a3 n3 c3 ((xs.take k).map decB) ∧ Ext w w') (fun k => n - k) tab tabok (by kernel_rfl) 0 ⟨_, _, _, rfl, by omega, G1, e1⟩ ?_
    rintro k g _ w' ⟨a3, n3, c3, rfl, hk, G, hE⟩
    have hn3 := G.len
    have hg3 := G.le.1
    rw [List.length_map, List.length_take] at hn3
    by_cases hkn : k < n
    · obtain ⟨x, hx⟩ : ∃ x, xs[k]? = some x := get_of_lt (by omega)
      have hxo := hok x (List.mem_of_getElem? hx)
      have hmt := map_take_succ (f := decB) hx
      conv => whnf
      refine IfB.yes (by omega) ?_
      conv => whnf
      refine SemK.index (by kernel_rfl) (h.ext hE) k rfl hx ?_
      intro b5 o5 _ hb5
      conv => whnf
      refine SemK.load0 (by kernel_rfl) hb5 rfl ?_
      conv => whnf
      refine (impl_Decimal hxo (hT.ext hE)).mono ?_
      rintro _ w7 ⟨rfl, e6⟩
      conv => whnf
      refine SemK.buildSlice mk_32 (vs := [Value.string (decB x)]) (by rfl) (by rfl) (by simp [Value.cells]) (by decide) ?_
      intro b8 w8 g8 l8 e8 B8
      have G8 := Grow.of_blk (n := 1) (enc := eS) (xs := [decB x]) eS_len B8 g8 rfl (by decide)
      conv => whnf
      refine SemK.appendArr0 (enc := eS) mk_32 eS_len (G.ext (Ext.trans e6 e8)) (G8.own.arr eS_len) (by intro y _; simp [eS, cellish]) (by omega) (by omega) (Below.size (Ext.trans (Ext.trans hE e6) e8)) ?_
      intro a9 c9 w9 G9 m9 i9
      conv => whnf
      refine SemK.add (((k + 1 : Nat) : Int)) (by omega) (by omega) (by omega) ?_
      conv => whnf
      refine ⟨k + 1, by omega, _, _, _, rfl, by omega, ?_, (Ext.mod_trans (Ext.trans (Ext.trans hE e6) e8) m9 (blkIn_new G.new))⟩
      · rw [hmt]; exact G9
    · have hke : k = n := by omega
      subst hke
      rw [List.take_of_length_le (by omega)] at G
      obtain ⟨b3, rfl⟩ := G.own.some (by omega)
      have hjl := jn_len hok xs.length
      rw [List.take_length] at hjl
      have hje : Lib.join ((xs.map decB).map (·.data.toList)) [32] = jn xs := by
        unfold jn
        rw [List.map_map]
        rfl
      have hJ : Does Tryz.prog 87 [.slice (some ⟨b3, 0, none⟩) n3 c3, .string { data := #[32] }] w' (fun v w'' => v = .string (bs (jn xs)) ∧ Ext w' w'') := by
        have := join_own (sep := { data := #[32] }) G.own hg3 (by omega) (by rw [show (ByteArray.mk #[32]).data.toList = [32] from rfl, hje]; omega)
        rw [show (ByteArray.mk #[32]).data.toList = [32] from rfl, hje] at this
        exact this
      conv => whnf
      refine IfB.no (by omega) ?_
      conv => whnf
      refine (hJ).mono ?_
      rintro _ w5 ⟨rfl, e4⟩
      conv => whnf
      exact ⟨rfl, (Ext.trans hE e4)⟩
theorem spec_l13Line {w : World} {a : Option Addr} {n c : Nat} {xs : List Int} (h : Arr eI 1 w a n xs) (hok : ∀ x ∈ xs, i64ok x) (hsm : n ≤ 1000) :
    Does Tryz.prog 62 [.slice a n c] w (fun v w' => v = .string (lineS xs) ∧ Ext w w') := by
  have hn := h.len
  have hjl := jn_len hok
  refine Does.of_vc tabok Tryz.func62 rfl rfl rfl (by kernel_rfl) ?_; conv => whnf
  refine LoopK.rule [0, 3, 4] (fun (k : Nat) vs w' => vs = [.slice a n c, .string (bs (jn (xs.take k))), .int .i64 k] ∧ k ≤ n ∧ Ext w w') (fun k => n - k) tab tabok (by kernel_rfl) 0 ⟨rfl, by omega, Ext.refl _⟩ ?_
  rintro k g _ w' ⟨rfl, hk, hE⟩
  have hjk := hjl k
  by_cases hkn : k < n
  · obtain ⟨x, hx⟩ : ∃ x, xs[k]? = some x := get_of_lt (by omega)
    have hxo := hok x (List.mem_of_getElem? hx)
    have hdl := decB_len hxo.1 hxo.2
    by_cases hk0 : 0 < k
    · have hjt : bs (jn (xs.take (k + 1))) = bs (jn (xs.take k)) ++ { data := #[32] } ++ decB x := by
        rw [jn_take hx hk0]
        apply bytes_ext
        simp [bs, decB]
      have hjs : (bs (jn (xs.take k))).size ≤ 22 * k := by rw [bs_size]; exact hjk
      conv => whnf
      refine IfB.yes (by omega) ?_
      conv => whnf
      refine IfB.yes (by omega) ?_
      conv => whnf
      refine SemK.cat (by simp only [ByteArray.size_append, bs_size, sizeC, sizeT, List.length_cons, List.length_nil]; omega) ?_
      conv => whnf
      refine SemK.index (by kernel_rfl) (h.ext hE) k rfl hx ?_
      intro b2 o2 _ hb2
      conv => whnf
      refine SemK.load0 (by kernel_rfl) hb2 rfl ?_
      conv => whnf
      refine (spec_l01Dec hxo _).mono ?_
      rintro _ w4 ⟨rfl, e3⟩
      conv => whnf
      refine SemK.cat (by simp only [ByteArray.size_append, bs_size, sizeC, sizeT, List.length_cons, List.length_nil]; omega) ?_
      conv => whnf
      refine SemK.add (((k + 1 : Nat) : Int)) (by omega) (by omega) (by omega) ?_
      conv => whnf
      exact ⟨k + 1, by omega, by rw [hjt]; rfl, by omega, Ext.trans hE e3⟩
    · have hk00 : k = 0 := by omega
      subst hk00
      have hjt : bs (jn (xs.take (0 + 1))) = bs (jn (xs.take 0)) ++ decB x := by
        rw [List.take_add_one, hx]
        simp only [List.take_zero, List.nil_append, Option.toList_some, jn_one, jn_nil]
        apply bytes_ext
        simp [bs, decB]
      have hjs : (bs (jn (xs.take 0))).size ≤ 22 * 0 := by rw [bs_size]; exact hjk
      conv => whnf
      refine IfB.yes (by omega) ?_
      conv => whnf
      refine SemK.index (by kernel_rfl) (h.ext hE) 0 rfl hx ?_
      intro b2 o2 _ hb2
      conv => whnf
      refine SemK.load1 (by kernel_rfl) hb2 (k := 0) rfl ?_
      conv => whnf
      refine (spec_l01Dec hxo _).mono ?_
      rintro _ w4 ⟨rfl, e3⟩
      conv => whnf
      refine SemK.cat (by omega) ?_
      conv => whnf
      refine SemK.add (((0 + 1 : Nat) : Int)) (by omega) (by omega) (by omega) ?_
      conv => whnf
      exact ⟨0 + 1, by omega, by rw [hjt]; rfl, by omega, Ext.trans hE e3⟩
  · have hke : k = n := by omega
    subst hke
    rw [List.take_of_length_le (by omega)]
    unfold lineS
    by_cases hz : xs = []
    · rw [if_pos hz]
      subst hz
      have hb : bs (jn []) = { data := #[] } := rfl
      rw [hb]
      conv => whnf
      refine IfB.no (by omega) ?_
      conv => whnf
      exact ⟨rfl, hE⟩
    · rw [if_neg hz]
      have hb : ¬ bs (jn xs) = { data := #[] } := fun e => jn_ne hz (by
        have := congrArg (fun s : ByteArray => s.data.toList) e
        simpa [bs] using this)
      generalize bs (jn xs) = S at *
      conv => whnf
      refine IfB.no (by omega) ?_
      conv => whnf
      refine IfB.no (by omega) ?_
      conv => whnf
      exact ⟨rfl, hE⟩
theorem impl_isTable {w : World} {a : Option Addr} {n c : Nat} {xs : List (List Int)} (h : ArrS RCard w a n xs) :
    Does Tryz.prog 58 [.slice a n c] w (fun v w' => v = .bool (tableB xs) ∧ Ext w w') := by
  have hn := h.len
  have hm := h.le
  obtain ⟨hs, hV, hE⟩ := h
  have hl := hV.len
  by_cases hn0 : n = 0
  · have hx0 : xs = [] := List.eq_nil_of_length_eq_zero (by omega)
    subst hx0
    have ht : tableB [] = true := rfl
    rw [ht]
    refine Does.of_vc tabok Tryz.func58 rfl rfl rfl (by kernel_rfl) ?_; conv => whnf
    refine LoopK.rule [0, 5, 6, 7] (fun (k : Nat) vs w' => vs = [.slice a n c, .slice a n c, .int .i64 n, .int .i64 0] ∧ w = w') (fun k => n - k) tab tabok (by kernel_rfl) 0 ⟨rfl, rfl⟩ ?_
    rintro k g _ w' ⟨rfl, rfl⟩
    conv => whnf
    refine IfB.no (by omega) ?_
    conv => whnf
    exact ⟨by simp [*], Ext.refl _⟩
  obtain ⟨d0, hd0⟩ : ∃ d, hs[0]? = some d := get_of_lt (by omega)
  have hx0 := head_get (xs := xs) (by omega)
  obtain ⟨hA0, hnc0⟩ := hE.2 0 d0 _ hd0 hx0
  have hln0 := hA0.len
  obtain ⟨x0, hx0e⟩ : ∃ x, x = xs.headD [] := ⟨_, rfl⟩
  rw [← hx0e] at hx0 hA0 hln0
  refine Does.of_vc tabok Tryz.func58 rfl rfl rfl (by kernel_rfl) ?_; conv => whnf
  refine LoopK.rule [0, 5, 6, 7] (fun (k : Nat) vs w' => vs = [.slice a n c, .slice a n c, .int .i64 n, .int .i64 k] ∧ k ≤ n ∧ (xs.take k).all (rowB x0.length) = true ∧ Ext w w') (fun k => n - k) tab tabok (by kernel_rfl) 0 ⟨rfl, by omega, rfl, Ext.refl _⟩ ?_
  rintro k g _ w' ⟨rfl, hk, hall, hX⟩
  by_cases hkn : k < n
  · obtain ⟨x, hx⟩ : ∃ x, xs[k]? = some x := get_of_lt (by omega)
    obtain ⟨d, hd⟩ : ∃ d, hs[k]? = some d := get_of_lt (by omega)
    obtain ⟨hA, hnc⟩ := hE.2 k d x hd hx
    have hln := hA.len
    cases hc : countsB x
    · have hb : tableB xs = false := tableB_bad hx (by rw [← hx0e]; simp [rowB, hc])
      rw [hb]
      conv => whnf
      refine IfB.yes (by omega) ?_
      conv => whnf
      refine SemK.index (by kernel_rfl) (hV.ext hX) k rfl hd ?_
      intro b2 o2 _ hb2
      conv => whnf
      refine SemK.load0 (by kernel_rfl) hb2 rfl ?_
      conv => whnf
      refine (impl_areCounts (hA.ext hX)).mono ?_
      rintro _ w4 ⟨rfl, e3⟩
      conv => whnf
      refine IfB.eqt (by simp [*]; done) ?_
      conv => whnf
      exact ⟨rfl, (Ext.trans hX e3)⟩
    by_cases hle : d.n = d0.n
    · have hall2 := all_take' hx hall (p := rowB x0.length) (by simp only [rowB, hc, Bool.true_and, decide_eq_true_eq]; omega)
      conv => whnf
      refine IfB.yes (by omega) ?_
      conv => whnf
      refine SemK.index (by kernel_rfl) (hV.ext hX) k rfl hd ?_
      intro b4 o4 _ hb4
      conv => whnf
      refine SemK.load0 (by kernel_rfl) hb4 rfl ?_
      conv => whnf
      refine (impl_areCounts (hA.ext hX)).mono ?_
      rintro _ w6 ⟨rfl, e5⟩
      conv => whnf
      refine IfB.eqf (by simp [*]; done) ?_
      conv => whnf
      refine SemK.index (by kernel_rfl) (hV.ext (Ext.trans hX e5)) 0 rfl hd0 ?_
      intro b8 o8 _ hb8
      conv => whnf
      refine SemK.load1 (by kernel_rfl) hb8 (k := 0) rfl ?_
      conv => whnf
      refine IfB.eqf (by simp [*]; done) ?_
      conv => whnf
      refine SemK.add (((k + 1 : Nat) : Int)) (by omega) (by omega) (by omega) ?_
      conv => whnf
      exact ⟨k + 1, by omega, rfl, by omega, by omega, (Ext.trans hX e5)⟩
    · have hb : tableB xs = false := tableB_bad hx (by rw [← hx0e]; simp only [rowB, hc, Bool.true_and, decide_eq_false_iff_not]; omega)
      rw [hb]
      have hle' : ¬ (d.n : Int) = d0.n := by omega
      conv => whnf
      refine IfB.yes (by omega) ?_
      conv => whnf
      refine SemK.index (by kernel_rfl) (hV.ext hX) k rfl hd ?_
      intro b2 o2 _ hb2
      conv => whnf
      refine SemK.load0 (by kernel_rfl) hb2 rfl ?_
      conv => whnf
      refine (impl_areCounts (hA.ext hX)).mono ?_
      rintro _ w4 ⟨rfl, e3⟩
      conv => whnf
      refine IfB.eqf (by simp [*]; done) ?_
      conv => whnf
      refine SemK.index (by kernel_rfl) (hV.ext (Ext.trans hX e3)) 0 rfl hd0 ?_
      intro b6 o6 _ hb6
      conv => whnf
      refine SemK.load1 (by kernel_rfl) hb6 (k := 0) rfl ?_
      conv => whnf
      refine IfB.eqt (by simp [*]; done) ?_
      conv => whnf
      exact ⟨rfl, (Ext.trans hX e3)⟩
  · have hke : k = n := by omega
    subst hke
    rw [List.take_of_length_le (by omega)] at hall
    have hb : tableB xs = decide ((k : Int) ≤ 40) := by
      unfold tableB
      rw [← hx0e, hall, Bool.true_and]
      congr 1
      exact propext ⟨fun h => by omega, fun h => by omega⟩
    rw [hb]
    conv => whnf
    refine IfB.no (by omega) ?_
    conv => whnf
    exact ⟨rfl, hX⟩
theorem spec_l24Table {w : World} {a : Option Addr} {n c : Nat} {xs : List (List Int)} (h : ArrS RCard w a n xs) :
    Does Tryz.prog 60 [.slice a n c] w (fun v w' => v = .bool (tableB xs) ∧ Ext w w') := by
  have hn := h.len
  have hm := h.le
  obtain ⟨hs, hV, hE⟩ := h
  have hl := hV.len
  by_cases hn0 : n = 0
  · have hx0 : xs = [] := List.eq_nil_of_length_eq_zero (by omega)
    subst hx0
    have ht : tableB [] = true := rfl
    rw [ht]
    refine Does.of_vc tabok Tryz.func60 rfl rfl rfl (by kernel_rfl) ?_; conv => whnf
    refine LoopK.rule [0, 3] (fun (k : Nat) vs w' => vs = [.slice a n c, .int .i64 0] ∧ w = w') (fun k => n - k) tab tabok (by kernel_rfl) 0 ⟨rfl, rfl⟩ ?_
    rintro k g _ w' ⟨rfl, rfl⟩
    conv => whnf
    refine IfB.no (by omega) ?_
    conv => whnf
    exact ⟨by simp [*], Ext.refl _⟩
  obtain ⟨d0, hd0⟩ : ∃ d, hs[0]? = some d := get_of_lt (by omega)
  have hx0 := head_get (xs := xs) (by omega)
  obtain ⟨hA0, hnc0⟩ := hE.2 0 d0 _ hd0 hx0
  have hln0 := hA0.len
  obtain ⟨x0, hx0e⟩ : ∃ x, x = xs.headD [] := ⟨_, rfl⟩
  rw [← hx0e] at hx0 hA0 hln0
  refine Does.of_vc tabok Tryz.func60 rfl rfl rfl (by kernel_rfl) ?_; conv => whnf
  refine LoopK.rule [0, 3] (fun (k : Nat) vs w' => vs = [.slice a n c, .int .i64 k] ∧ k ≤ n ∧ (xs.take k).all (rowB x0.length) = true ∧ Ext w w') (fun k => n - k) tab tabok (by kernel_rfl) 0 ⟨rfl, by omega, rfl, Ext.refl _⟩ ?_
  rintro k g _ w' ⟨rfl, hk, hall, hX⟩
  by_cases hkn : k < n
  · obtain ⟨x, hx⟩ : ∃ x, xs[k]? = some x := get_of_lt (by omega)
    obtain ⟨d, hd⟩ : ∃ d, hs[k]? = some d := get_of_lt (by omega)
    obtain ⟨hA, hnc⟩ := hE.2 k d x hd hx
    have hln := hA.len
    by_cases hle : d.n = d0.n
    · have hle1 : (d.n : Int) = d0.n := by omega
      by_cases h40 : d.n ≤ 40
      · have h40' : ¬ (40 : Int) < d.n := by omega
        conv => whnf
        refine IfB.yes (by omega) ?_
        conv => whnf
        refine DrawK.det tabok mixed (by kernel_rfl) (by kernel_rfl) ?_
        conv => whnf
        refine DSemK.index (by kernel_rfl) (hV.ext hX) k rfl hd ?_
        intro b42 o42 _ hb42
        conv => whnf
        refine DSemK.load0 (by kernel_rfl) hb42 rfl ?_
        conv => whnf
        refine DSemK.index (by kernel_rfl) (hV.ext hX) 0 rfl hd0 ?_
        intro b44 o44 _ hb44
        conv => whnf
        refine DSemK.load1 (by kernel_rfl) hb44 (k := 0) rfl ?_
        conv => whnf
        refine IfB.eqf (by simp [*]; done) ?_
        conv => whnf
        refine DSemK.index (by kernel_rfl) (hV.ext hX) k rfl hd ?_
        intro b46 o46 _ hb46
        conv => whnf
        refine DSemK.load0 (by kernel_rfl) hb46 rfl ?_
        conv => whnf
        intro w47 e47
        conv => whnf
        refine IfB.no (by omega) ?_
        conv => whnf
        refine LoopK.rule [0, 3, 4] (fun (j : Nat) vs w2 => vs = [.slice a n c, .int .i64 k, .int .i64 j] ∧ j ≤ d.n ∧ (∀ i y, i < j → x[i]? = some y → inB y 0 1000000 = true) ∧ Ext w w2) (fun j => d.n - j) tab tabok (by kernel_rfl) 0 ⟨rfl, by omega, fun i y h => by omega, Ext.trans hX e47⟩ ?_
        rintro j g' _ w2 ⟨rfl, hj, hrow, hX2⟩
        by_cases hjd : j < d.n
        · obtain ⟨y, hy⟩ : ∃ y, x[j]? = some y := get_of_lt (by omega)
          cases hyb : inB y 0 1000000
          · have hb : tableB xs = false := tableB_bad hx (by rw [← hx0e]; simp [rowB, countsB_bad hy hyb])
            rw [hb]
            conv => whnf
            refine SemK.index (by kernel_rfl) (hV.ext hX2) k rfl hd ?_
            intro b1171 o1171 _ hb1171
            conv => whnf
            refine SemK.load0 (by kernel_rfl) hb1171 rfl ?_
            conv => whnf
            refine IfB.yes (by omega) ?_
            conv => whnf
            refine SemK.index (by kernel_rfl) (hV.ext hX2) k rfl hd ?_
            intro b1173 o1173 _ hb1173
            conv => whnf
            refine SemK.load0 (by kernel_rfl) hb1173 rfl ?_
            conv => whnf
            refine SemK.index (by kernel_rfl) (hA.ext hX2) j rfl hy ?_
            intro b1175 o1175 _ hb1175
            conv => whnf
            refine SemK.load0 (by kernel_rfl) hb1175 rfl ?_
            conv => whnf
            refine (spec_in _ _ _ _).mono ?_
            rintro _ _ ⟨rfl, rfl⟩
            conv => whnf
            refine IfB.eqt (by simp [*]; done) ?_
            conv => whnf
            exact ⟨rfl, hX2⟩
          · have hrow2 : ∀ i z, i < j + 1 → x[i]? = some z → inB z 0 1000000 = true := fun i z hi hz => by
              by_cases e : i = j
              · subst e
                rw [hy] at hz
                rw [← Option.some.inj hz]
                exact hyb
              · exact hrow i z (by omega) hz
            conv => whnf
            refine SemK.index (by kernel_rfl) (hV.ext hX2) k rfl hd ?_
            intro b1171 o1171 _ hb1171
            conv => whnf
            refine SemK.load0 (by kernel_rfl) hb1171 rfl ?_
            conv => whnf
            refine IfB.yes (by omega) ?_
            conv => whnf
            refine SemK.index (by kernel_rfl) (hV.ext hX2) k rfl hd ?_
            intro b1173 o1173 _ hb1173
            conv => whnf
            refine SemK.load0 (by kernel_rfl) hb1173 rfl ?_
            conv => whnf
            refine SemK.index (by kernel_rfl) (hA.ext hX2) j rfl hy ?_
            intro b1175 o1175 _ hb1175
            conv => whnf
            refine SemK.load0 (by kernel_rfl) hb1175 rfl ?_
            conv => whnf
            refine (spec_in _ _ _ _).mono ?_
            rintro _ _ ⟨rfl, rfl⟩
            conv => whnf
            refine IfB.eqf (by simp [*]; done) ?_
            conv => whnf
            refine SemK.add (((j + 1 : Nat) : Int)) (by omega) (by omega) (by omega) ?_
            conv => whnf
            exact ⟨j + 1, by omega, rfl, by omega, by omega, hX2⟩
        · have hje : j = d.n := by omega
          subst hje
          have hcb := countsB_row (l := x) (by omega) hrow (by omega)
          have hall2 := all_take' hx hall (p := rowB x0.length) (by simp only [rowB, hcb, Bool.true_and, decide_eq_true_eq]; omega)
          conv => whnf
          refine SemK.index (by kernel_rfl) (hV.ext hX2) k rfl hd ?_
          intro b1171 o1171 _ hb1171
          conv => whnf
          refine SemK.load0 (by kernel_rfl) hb1171 rfl ?_
          conv => whnf
          refine IfB.no (by omega) ?_
          conv => whnf
          refine SemK.add (((k + 1 : Nat) : Int)) (by omega) (by omega) (by omega) ?_
          conv => whnf
          exact ⟨k + 1, by omega, rfl, by omega, by omega, hX2⟩
      · have hb : tableB xs = false := tableB_bad hx (by
          rw [← hx0e]
          have : decide (x.length ≤ 40) = false := decide_eq_false (by omega)
          simp [rowB, countsB, this])
        rw [hb]
        have h40' : (40 : Int) < d.n := by omega
        conv => whnf
        refine IfB.yes (by omega) ?_
        conv => whnf
        refine DrawK.det tabok mixed (by kernel_rfl) (by kernel_rfl) ?_
        conv => whnf
        refine DSemK.index (by kernel_rfl) (hV.ext hX) k rfl hd ?_
        intro b42 o42 _ hb42
        conv => whnf
        refine DSemK.load0 (by kernel_rfl) hb42 rfl ?_
        conv => whnf
        refine DSemK.index (by kernel_rfl) (hV.ext hX) 0 rfl hd0 ?_
        intro b44 o44 _ hb44
        conv => whnf
        refine DSemK.load1 (by kernel_rfl) hb44 (k := 0) rfl ?_
        conv => whnf
        refine IfB.eqf (by simp [*]; done) ?_
        conv => whnf
        refine DSemK.index (by kernel_rfl) (hV.ext hX) k rfl hd ?_
        intro b46 o46 _ hb46
        conv => whnf
        refine DSemK.load0 (by kernel_rfl) hb46 rfl ?_
        conv => whnf
        intro w47 e47
        conv => whnf
        refine IfB.yes (by omega) ?_
        conv => whnf
        exact ⟨rfl, (Ext.trans hX e47)⟩
    · have hb : tableB xs = false := tableB_bad hx (by
        rw [← hx0e]
        have : decide (x.length = x0.length) = false := decide_eq_false (by omega)
        simp [rowB, this])
      rw [hb]
      have hle' : ¬ (d.n : Int) = d0.n := by omega
      conv => whnf
      refine IfB.yes (by omega) ?_
      conv => whnf
      refine DrawK.det tabok mixed (by kernel_rfl) (by kernel_rfl) ?_
      conv => whnf
      refine DSemK.index (by kernel_rfl) (hV.ext hX) k rfl hd ?_
      intro b2 o2 _ hb2
      conv => whnf
      refine DSemK.load0 (by kernel_rfl) hb2 rfl ?_
      conv => whnf
      refine DSemK.index (by kernel_rfl) (hV.ext hX) 0 rfl hd0 ?_
      intro b4 o4 _ hb4
      conv => whnf
      refine DSemK.load1 (by kernel_rfl) hb4 (k := 0) rfl ?_
      conv => whnf
      refine IfB.eqt (by simp [*]; done) ?_
      conv => whnf
      intro w5 e5
      conv => whnf
      exact ⟨rfl, (Ext.trans hX e5)⟩
  · have hke : k = n := by omega
    subst hke
    rw [List.take_of_length_le (by omega)] at hall
    have hb : tableB xs = decide ((k : Int) ≤ 40) := by
      unfold tableB
      rw [← hx0e, hall, Bool.true_and]
      congr 1
      exact propext ⟨fun h => by omega, fun h => by omega⟩
    rw [hb]
    conv => whnf
    refine IfB.no (by omega) ?_
    conv => whnf
    exact ⟨rfl, hX⟩
theorem impl_TableLines {w : World} {a : Option Addr} {n c : Nat} {xs : List (List Int)} (h : ArrS RCard w a n xs) (hT : Pow w) :
    Does Tryz.prog 18 [.slice a n c] w (fun v w' => ∃ a' n' c', v = .tuple #[.slice a' n' c', .int .i64 (tableLines xs).2] ∧ NewAt w.heap.size a' ∧ Own eS w' a' n' 9 (tableLines xs).1 ∧ Ext w w') := by
  have hn := h.len
  have hm := h.le
  have hTab : ∀ u, Ext w u → Does Tryz.prog 58 [.slice a n c] u (fun v w' => v = .bool (tableB xs) ∧ Ext u w') := fun u hu => impl_isTable (h.ext hu)
  have hTab0 := hTab w (Ext.refl _)
  obtain ⟨hs, hV, hE⟩ := h
  have hl := hV.len
  unfold tableLines
  cases hb : tableB xs
  · rw [hb] at hTab0
    rw [if_neg (by simp)]
    dsimp only
    refine Does.of_vc tabok Tryz.func18 rfl rfl rfl (by kernel_rfl) ?_; conv => whnf
    refine (hTab0).mono ?_
    rintro _ w2 ⟨rfl, e1⟩
    conv => whnf
    exact ⟨_, _, _, rfl, NewAt.nil, Own.nil, e1⟩
  · rw [hb] at hTab0
    obtain ⟨hx40, hrows⟩ := tableB_spec hb
    rw [if_pos rfl]
    dsimp only
    refine Does.of_vc tabok Tryz.func18 rfl rfl rfl (by kernel_rfl) ?_; conv => whnf
    refine (hTab0).mono ?_
    rintro _ w42 ⟨rfl, e41⟩
    conv => whnf
    refine SemK.buildSlice mk_32 (vs := []) (by rfl) (by rfl) (by simp [Value.cells]) (by decide) ?_
    intro b43 w43 g43 l43 e43 B43
    have G43 := Grow.new0 (enc := eS) eS_len B43 g43
    conv => whnf
    refine LoopK.rule [4, 11, 12, 13] (fun (k : Nat) vs w' => ∃ a3 n3 c3, vs = [.slice a3 n3 c3, .slice a n c, .int .i64 n, .int .i64 k] ∧ k ≤ n ∧ Grow eS 1 w42.heap.size 9 w' a3 n3 c3 ((xs.take k).map lineS) ∧ Ext w42 w') (fun k => n - k) tab tabok (by kernel_rfl) 0 ⟨_, _, _, rfl, by omega, G43, e43⟩ ?_
    rintro k g _ w' ⟨a3, n3, c3, rfl, hk, G, hX⟩
    have hn3 := G.len
    rw [List.length_map, List.length_take] at hn3
    by_cases hkn : k < n
    · obtain ⟨x, hx⟩ : ∃ x, xs[k]? = some x := get_of_lt (by omega)
      obtain ⟨d, hd⟩ : ∃ d, hs[k]? = some d := get_of_lt (by omega)
      obtain ⟨hA, hnc⟩ := hE.2 k d x hd hx
      have hln := hA.len
      have hrx := hrows x (List.mem_of_getElem? hx)
      have hxok : ∀ y ∈ x, i64ok y := fun y hy => by
        have := hrx.2.2 y hy
        exact ⟨by omega, by omega⟩
      have hmt := map_take_succ (f := lineS) hx
      conv => whnf
      refine IfB.yes (by omega) ?_
      conv => whnf
      refine SemK.index (by kernel_rfl) (hV.ext (Ext.trans e41 hX)) k rfl hd ?_
      intro b45 o45 _ hb45
      conv => whnf
      refine SemK.load0 (by kernel_rfl) hb45 rfl ?_
      conv => whnf
      refine (impl_SumLine (hA.ext (Ext.trans e41 hX)) hxok (by omega) (hT.ext (Ext.trans e41 hX))).mono ?_
      rintro _ w47 ⟨rfl, e46⟩
      conv => whnf
      refine SemK.buildSlice mk_32 (vs := [Value.string (lineS x)]) (by rfl) (by rfl) (by simp [Value.cells]) (by decide) ?_
      intro b48 w48 g48 l48 e48 B48
      have G48 := Grow.of_blk (n := 1) (enc := eS) (xs := [lineS x]) eS_len B48 g48 rfl (by decide)
      conv => whnf
      refine SemK.appendArr0 (enc := eS) mk_32 eS_len (G.ext (Ext.trans e46 e48)) (G48.own.arr eS_len) (by intro y _; simp [eS, cellish]) (by omega) (by omega) (Below.size (Ext.trans (Ext.trans hX e46) e48)) ?_
      intro a49 c49 w49 G49 m49 i49
      conv => whnf
      refine SemK.add (((k + 1 : Nat) : Int)) (by omega) (by omega) (by omega) ?_
      conv => whnf
      refine ⟨k + 1, by omega, _, _, _, rfl, by omega, ?_, (Ext.mod_trans (Ext.trans (Ext.trans hX e46) e48) m49 (blkIn_new G.new))⟩
      · rw [hmt]; exact G49
    · have hke : k = n := by omega
      subst hke
      rw [List.take_of_length_le (by omega)] at G
      conv => whnf
      refine IfB.no (by omega) ?_
      conv => whnf
      exact ⟨_, _, _, rfl, (G.new.mono (Below.size e41)), G.own, (Ext.trans e41 hX)⟩
theorem spec_TableLines {w : World} {a : Option Addr} {n c : Nat} {xs : List (List Int)} (h : ArrS RCard w a n xs) :
    Does Tryz.prog 19 [.slice a n c] w (fun v w' => ∃ a' n' c', v = .tuple #[.slice a' n' c', .int .i64 (tableLines xs).2] ∧ NewAt w.heap.size a' ∧ Own eS w' a' n' 9 (tableLines xs).1 ∧ Ext w w') := by
  have hn := h.len
  have hm := h.le
  have hTab : ∀ u, Ext w u → Does Tryz.prog 60 [.slice a n c] u (fun v w' => v = .bool (tableB xs) ∧ Ext u w') := fun u hu => spec_l24Table (h.ext hu)
  have hTab0 := hTab w (Ext.refl _)
  obtain ⟨hs, hV, hE⟩ := h
  have hl := hV.len
  unfold tableLines
  cases hb : tableB xs
  · rw [hb] at hTab0
    rw [if_neg (by simp)]
    dsimp only
    refine Does.of_vc tabok Tryz.func19 rfl rfl rfl (by kernel_rfl) ?_; conv => whnf
    refine (hTab0).mono ?_
    rintro _ w2 ⟨rfl, e1⟩
    conv => whnf
    exact ⟨_, _, _, rfl, NewAt.nil, Own.nil, e1⟩
  · rw [hb] at hTab0
    obtain ⟨hx40, hrows⟩ := tableB_spec hb
    rw [if_pos rfl]
    dsimp only
    refine Does.of_vc tabok Tryz.func19 rfl rfl rfl (by kernel_rfl) ?_; conv => whnf
    refine (hTab0).mono ?_
    rintro _ w42 ⟨rfl, e41⟩
    conv => whnf
    refine SemK.buildSlice mk_32 (vs := []) (by rfl) (by rfl) (by simp [Value.cells]) (by decide) ?_
    intro b43 w43 g43 l43 e43 B43
    have G43 := Grow.new0 (enc := eS) eS_len B43 g43
    conv => whnf
    refine LoopK.rule [0, 4, 5] (fun (k : Nat) vs w' => ∃ a3 n3 c3, vs = [.slice a n c, .slice a3 n3 c3, .int .i64 k] ∧ k ≤ n ∧ Grow eS 1 w42.heap.size 9 w' a3 n3 c3 ((xs.take k).map lineS) ∧ Ext w42 w') (fun k => n - k) tab tabok (by kernel_rfl) 0 ⟨_, _, _, rfl, by omega, G43, e43⟩ ?_
    rintro k g _ w' ⟨a3, n3, c3, rfl, hk, G, hX⟩
    have hn3 := G.len
    rw [List.length_map, List.length_take] at hn3
    by_cases hkn : k < n
    · obtain ⟨x, hx⟩ : ∃ x, xs[k]? = some x := get_of_lt (by omega)
      obtain ⟨d, hd⟩ : ∃ d, hs[k]? = some d := get_of_lt (by omega)
      obtain ⟨hA, hnc⟩ := hE.2 k d x hd hx
      have hln := hA.len
      have hrx := hrows x (List.mem_of_getElem? hx)
      have hxok : ∀ y ∈ x, i64ok y := fun y hy => by
        have := hrx.2.2 y hy
        exact ⟨by omega, by omega⟩
      have hmt := map_take_succ (f := lineS) hx
      conv => whnf
      refine IfB.yes (by omega) ?_
      conv => whnf
      refine SemK.index (by kernel_rfl) (hV.ext (Ext.trans e41 hX)) k rfl hd ?_
      intro b45 o45 _ hb45
      conv => whnf
      refine SemK.load0 (by kernel_rfl) hb45 rfl ?_
      conv => whnf
      refine (spec_l13Line (hA.ext (Ext.trans e41 hX)) hxok (by omega)).mono ?_
      rintro _ w47 ⟨rfl, e46⟩
      conv => whnf
      refine SemK.buildSlice mk_32 (vs := [Value.string (lineS x)]) (by rfl) (by rfl) (by simp [Value.cells]) (by decide) ?_
      intro b48 w48 g48 l48 e48 B48
      have G48 := Grow.of_blk (n := 1) (enc := eS) (xs := [lineS x]) eS_len B48 g48 rfl (by decide)
      conv => whnf
      refine SemK.appendArr0 (enc := eS) mk_32 eS_len (G.ext (Ext.trans e46 e48)) (G48.own.arr eS_len) (by intro y _; simp [eS, cellish]) (by omega) (by omega) (Below.size (Ext.trans (Ext.trans hX e46) e48)) ?_
      intro a49 c49 w49 G49 m49 i49
      conv => whnf
      refine SemK.add (((k + 1 : Nat) : Int)) (by omega) (by omega) (by omega) ?_
      conv => whnf
      refine ⟨k + 1, by omega, _, _, _, rfl, by omega, ?_, (Ext.mod_trans (Ext.trans (Ext.trans hX e46) e48) m49 (blkIn_new G.new))⟩
      · rw [hmt]; exact G49
    · have hke : k = n := by omega
      subst hke
      rw [List.take_of_length_le (by omega)] at G
      conv => whnf
      refine IfB.no (by omega) ?_
      conv => whnf
      exact ⟨_, _, _, rfl, (G.new.mono (Below.size e41)), G.own, (Ext.trans e41 hX)⟩
end Go.Proofs.YtfgbijddjoojbaaGreatDoor
