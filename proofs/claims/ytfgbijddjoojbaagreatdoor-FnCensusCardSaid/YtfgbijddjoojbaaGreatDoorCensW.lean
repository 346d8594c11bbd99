/- Contracts of functions of the given program, of the reference and of the laws: each says what a call returns, for all arguments that meet the premises that the theorem itself names. -/
import Derived.Test.YtfgbijddjoojbaaGreatDoorTable
import Derived.Test.YtfgbijddjoojbaaGreatDoorCensL
import Derived.Test.YtfgbijddjoojbaaGreatDoorStock
/- sums of tables -/
namespace Go.M
open Go Go.Vc
def tableSumsM (xs : List (List Int)) : List Int × List Int × Int := if tableB xs = true then (xs.map List.sum, colSums xs, 0) else ([], [], 1)
theorem sum_b {M : Int} (hM : 0 ≤ M) : ∀ {l : List Int}, (∀ x ∈ l, 0 ≤ x ∧ x ≤ M) → 0 ≤ l.sum ∧ l.sum ≤ M * l.length
  | [], _ => by simp
  | x :: l, h => by
    have h1 := h x (by simp)
    have h2 := sum_b hM (l := l) (fun y hy => h y (by simp [hy]))
    rw [List.sum_cons, List.length_cons, Int.natCast_add, Int.mul_add]
    omega
theorem sum_take_b {l : List Int} (h : ∀ x ∈ l, 0 ≤ x ∧ x ≤ 1000000) (hl : l.length ≤ 40) (k : Nat) : 0 ≤ (l.take k).sum ∧ (l.take k).sum ≤ 40000000 := by
  have h1 := sum_b (M := 1000000) (by omega) (l := l.take k) (fun x hx => h x (List.mem_of_mem_take hx))
  have h2 : (l.take k).length ≤ 40 := by rw [List.length_take]; omega
  omega
theorem sumTakeS {l : List Int} {k : Nat} {x : Int} (h : l[k]? = some x) : (l.take (k + 1)).sum = (l.take k).sum + x := by
  rw [List.take_add_one, h]; simp
theorem colSum_b {xs : List (List Int)} (h : tableB xs = true) (i k : Nat) : 0 ≤ colSum (xs.take i) k ∧ colSum (xs.take i) k ≤ 40000000 := by
  obtain ⟨h1, h2⟩ := tableB_spec h
  unfold colSum
  rw [List.map_take]
  refine sum_take_b (fun x hx => ?_) (by simpa using h1) i
  rw [List.mem_map] at hx
  obtain ⟨l, hl, rfl⟩ := hx
  rw [List.getD_eq_getElem?_getD]
  cases hg : l[k]? with
  | none => simp
  | some y => exact (h2 l hl).2.2 y (List.mem_of_getElem? hg)
theorem colSum_succ {xs : List (List Int)} {i k : Nat} {l : List Int} {x : Int} (hl : xs[i]? = some l) (hx : l[k]? = some x) : colSum (xs.take (i + 1)) k = colSum (xs.take i) k + x := by
  unfold colSum
  rw [List.take_add_one, hl]
  simp [List.getD_eq_getElem?_getD, hx]
/-- the columns' sums over the first i rows and the first k numbers of the next -/
def colPart (xs : List (List Int)) (i k W : Nat) : List Int := (List.range W).map fun j => if j < k then colSum (xs.take (i + 1)) j else colSum (xs.take i) j
theorem colPart_len (xs : List (List Int)) (i k W : Nat) : (colPart xs i k W).length = W := by simp [colPart]
theorem colPart_zero (xs : List (List Int)) (W : Nat) : colPart xs 0 0 W = List.replicate W 0 := by
  apply List.ext_getElem?
  intro j
  unfold colPart
  rw [List.getElem?_map, List.getElem?_replicate]
  by_cases hj : j < W
  · rw [List.getElem?_range hj, if_pos hj]; simp [colSum]
  · rw [List.getElem?_eq_none (by simp; omega), if_neg hj]; rfl
theorem colPart_get {xs : List (List Int)} {i k W : Nat} (h : k < W) : (colPart xs i k W)[k]? = some (colSum (xs.take i) k) := by
  unfold colPart
  rw [List.getElem?_map, List.getElem?_range h]; simp
theorem colPart_set {xs : List (List Int)} {i k W : Nat} {l : List Int} {x : Int} (hl : xs[i]? = some l) (hx : l[k]? = some x) : (colPart xs i k W).set k (colSum (xs.take i) k + x) = colPart xs i (k + 1) W := by
  apply List.ext_getElem?
  intro j
  rw [List.getElem?_set]
  unfold colPart
  rw [List.getElem?_map, List.getElem?_map]
  by_cases hj : j < W
  · rw [List.getElem?_range hj]
    simp only [List.length_map, List.length_range, Option.map_some]
    by_cases hkj : k = j
    · subst hkj
      rw [if_pos rfl, if_pos hj, if_pos (by omega), colSum_succ hl hx]
    · rw [if_neg hkj]
      by_cases h1 : j < k
      · rw [if_pos h1, if_pos (by omega)]
      · rw [if_neg h1, if_neg (by omega)]
  · rw [List.getElem?_eq_none (l := List.range W) (by simp; omega)]
    simp only [List.length_map, List.length_range, Option.map_none]
    by_cases hkj : k = j
    · rw [if_pos hkj, if_neg (by omega)]
    · rw [if_neg hkj]
theorem colPart_next (xs : List (List Int)) (i W : Nat) : colPart xs i W W = colPart xs (i + 1) 0 W := by
  unfold colPart
  apply List.map_congr_left
  intro j hj
  rw [List.mem_range] at hj
  rw [if_pos hj, if_neg (by omega)]
theorem colPart_grow (xs : List (List Int)) (k : Nat) : colPart xs 0 k k ++ [0] = colPart xs 0 k (k + 1) := by
  unfold colPart
  rw [List.range_succ, List.map_append]
  congr 1
  · simp [colSum]
theorem colPart_all (xs : List (List Int)) : colPart xs xs.length 0 (xs.headD []).length = colSums xs := by
  unfold colPart colSums
  apply List.map_congr_left
  intro j hj
  rw [if_neg (by omega), List.take_length]
theorem tableB_of {xs : List (List Int)} {m : Nat} (h40 : xs.length ≤ 40) (h : ∀ l ∈ xs, l.length = m ∧ l.length ≤ 40 ∧ ∀ x ∈ l, 0 ≤ x ∧ x ≤ 1000000) : tableB xs = true := by
  simp only [tableB, Bool.and_eq_true, decide_eq_true_eq, List.all_eq_true]
  refine ⟨fun l hl => ?_, h40⟩
  have h1 := h l hl
  have hm : (xs.headD []).length = m := by
    cases xs with
    | nil => simp at hl
    | cons y ys => exact (h y (by simp)).1
  simp only [rowB, countsB, Bool.and_eq_true, decide_eq_true_eq, Bool.not_eq_true']
  refine ⟨⟨h1.2.1, List.any_eq_false.2 fun x hx => ?_⟩, by rw [hm]; exact h1.1⟩
  have := h1.2.2 x hx
  simp [inB]
  omega
theorem countTexts_zero {d : List (List Int)} {f : TField} (h : (countTextsM d f).2 = 0) : deckB d = true ∧ fieldB f (widthOf d) = true ∧ (countTextsM d f).1 = totalsM (d.map (ckey f)) := by
  rcases keys_cases d f with ⟨cd, hk, hcd⟩ | ⟨hd, hf, hh, hk⟩
  · rw [countTexts_bad hk (by omega)] at h
    simp only at h
    omega
  · exact ⟨hd, hf, by rw [countTexts_good hk]⟩
theorem countTexts_sum {d : List (List Int)} {f : TField} (h : (countTextsM d f).2 = 0) : ((countTextsM d f).1.map TTotal.sum).sum = d.length := by
  obtain ⟨hd, hf, he⟩ := countTexts_zero h
  rw [he]
  exact totals_sum hd hf
theorem countTexts_b {d : List (List Int)} {f : TField} : ∀ x ∈ (countTextsM d f).1, x.name.size ≤ 40 ∧ 0 ≤ x.sum ∧ x.sum ≤ 1000000 := by
  rcases keys_cases d f with ⟨cd, hk, hcd⟩ | ⟨hd, hf, hh, hk⟩
  · rw [countTexts_bad hk (by omega)]
    intro x hx
    simp at hx
  · rw [countTexts_good hk]
    intro x hx
    have hx : x ∈ totalsM (d.map (ckey f)) := hx
    simp only [totalsM, List.mem_map] at hx
    obtain ⟨t, ht, rfl⟩ := hx
    have h40 := (deckB_mem hd).1
    have h1 := cntM_le (d.map (ckey f)) t
    rw [List.length_map] at h1
    have h2 := (texts_mem hd hf t).1 ht
    rw [List.mem_map] at h2
    obtain ⟨c, hc, rfl⟩ := h2
    have h3 := (deckB_mem hd).2 c hc
    have h4 := cardB_b h3.1
    have h5 : (ckey f c).length ≤ c.length := by
      unfold ckey
      rw [ranks_len]
      unfold partOf
      rw [List.length_take, List.length_drop]
      omega
    refine ⟨by show (txt (ckey f c)).size ≤ 40; rw [txt_size]; omega, ?_, ?_⟩
    · show (0 : Int) ≤ ((cntM (d.map (ckey f)) (ckey f c) : Nat) : Int); omega
    · show ((cntM (d.map (ckey f)) (ckey f c) : Nat) : Int) ≤ 1000000; omega
theorem countTexts_oks {d : List (List Int)} {f : TField} : ∀ x ∈ (countTextsM d f).1, x.ok := fun x hx => by
  have := countTexts_b x hx
  exact ⟨by simp only [strok]; omega, by simp only [i64ok]; omega⟩
theorem cross_sums {d : List (List Int)} {r f : TField} (h : (crossTM d r f).2 = 0) : (countTextsM d r).2 = 0 ∧ (countTextsM d f).2 = 0 ∧ tableSumsM (crossTM d r f).1 = ((countTextsM d r).1.map TTotal.sum, (countTextsM d f).1.map TTotal.sum, 0) := by
  have hl := cross_len d r f
  rcases two_cases d r f with h1 | h1 | h1 | h1
  · rw [crossT_bad h1.2 (by omega)] at h; simp only at h; omega
  · rw [crossT_bad h1.2.2 (by omega)] at h; simp only at h; omega
  · rw [crossT_bad h1.2.2.2.2 (by omega)] at h; simp only at h; omega
  obtain ⟨hd, hr, hf, ha, hb, hz⟩ := h1
  have k1 : keysM d r = (d.map (ckey r), 0) := by simp [keysM, hd, hr, ha]
  have k2 : keysM d f = (d.map (ckey f), 0) := by simp [keysM, hd, hf, hb]
  rw [crossT_good hz] at hl ⊢
  rw [countTexts_good k1, countTexts_good k2]
  refine ⟨rfl, rfl, ?_⟩
  have h40 := (deckB_mem hd).1
  have ht : tableB (crossM d r f) = true := by
    refine tableB_of (m := (textsM (d.map (ckey f))).length) hl.1 fun l hx => ⟨?_, hl.2 l hx, fun x hxx => ?_⟩
    · simp only [crossM, matM, List.mem_map] at hx
      obtain ⟨z, _, rfl⟩ := hx
      rw [List.length_map]
    · simp only [crossM, matM, List.mem_map] at hx
      obtain ⟨z, _, rfl⟩ := hx
      rw [List.mem_map] at hxx
      obtain ⟨y, _, rfl⟩ := hxx
      have := cellM_le d r f z y
      omega
  unfold tableSumsM
  rw [if_pos ht]
  dsimp only
  rw [cross_rows hd hf, cross_cols hd hr hf]
end Go.M
namespace Go.Proofs.YtfgbijddjoojbaaGreatDoor
open Go Go.RowKit Go.Vc Go.M Go.Shelf Go.Proofs
theorem impl_TableSums {w : World} {a : Option Addr} {n c : Nat} {xs : List (List Int)} (h : ArrS RCard w a n xs) :
    Does Tryz.prog 15 [.slice a n c] w (fun v w' => ∃ a' n' c' a2 n2 c2, v = .tuple #[.slice a' n' c', .slice a2 n2 c2, .int .i64 (tableSumsM xs).2.2] ∧ NewAt w.heap.size a' ∧ NewAt w.heap.size a2 ∧ Own eI w' a' n' 2 (tableSumsM xs).1 ∧ Own eI w' a2 n2 2 (tableSumsM xs).2.1 ∧ Ext w w') := by
  have hn := h.len
  have hm := h.le
  have hTab : ∀ u, Ext w u → Does Tryz.prog 58 [.slice a n c] u (fun v w' => v = .bool (tableB xs) ∧ Ext u w') := fun u hu => impl_isTable (h.ext hu)
  have hTab0 := hTab w (Ext.refl _)
  obtain ⟨hs, hV, hE⟩ := h
  have hl := hV.len
  unfold tableSumsM
  cases hb : tableB xs
  · rw [hb] at hTab0
    rw [if_neg (by simp)]
    dsimp only
    refine Does.of_vc tabok Tryz.func15 rfl rfl rfl (by kernel_rfl) ?_; conv => whnf
    refine (hTab0).mono ?_
    rintro _ w2 ⟨rfl, e1⟩
    conv => whnf
    exact ⟨_, _, _, _, _, _, rfl, NewAt.nil, NewAt.nil, Own.nil, Own.nil, e1⟩
  · rw [hb] at hTab0
    obtain ⟨hx40, hrows⟩ := tableB_spec hb
    have hcb := colSum_b hb
    rw [if_pos rfl]
    dsimp only
    have hca := colPart_all xs
    have hW0 : n = 0 → (xs.headD []).length = 0 := fun h0 => by
      have : xs = [] := List.eq_nil_of_length_eq_zero (by omega)
      subst this
      rfl
    generalize (xs.headD []).length = W at hrows hca hW0
    refine Does.of_vc tabok Tryz.func15 rfl rfl rfl (by kernel_rfl) ?_; conv => whnf
    refine (hTab0).mono ?_
    rintro _ w42 ⟨rfl, e41⟩
    conv => whnf
    refine SemK.buildSlice mk_41 (vs := []) (by rfl) (by rfl) (by simp [Value.cells]) (by decide) ?_
    intro b43 w43 g43 l43 e43 B43
    have G43 := Grow.new0 (enc := eI) eI_len B43 g43
    conv => whnf
    refine SemK.buildSlice mk_41 (vs := []) (by rfl) (by rfl) (by simp [Value.cells]) (by decide) ?_
    intro b44 w44 g44 l44 e44 B44
    have G44 := Grow.new0 (enc := eI) eI_len B44 g44
    conv => whnf
    refine LoopK.rule [5, 6, 16, 17, 18] (fun (i : Nat) vs w' => ∃ a5 c5 a6 n6 c6, vs = [.slice a5 i c5, .slice a6 n6 c6, .slice a n c, .int .i64 n, .int .i64 i] ∧ i ≤ n ∧ Grow eI 1 w42.heap.size 2 w' a5 i c5 ((xs.take i).map List.sum) ∧ Grow eI 1 w42.heap.size 2 w' a6 n6 c6 (colPart xs i 0 n6) ∧ n6 = (if i = 0 then 0 else W) ∧ (∀ x y, a5 = some x → a6 = some y → x.block ≠ y.block) ∧ Ext w42 w') (fun i => n - i) tab tabok (by kernel_rfl) 0
      ⟨_, _, _, _, _, rfl, by omega, G43.ext e44, by rw [colPart_zero]; exact G44.base (Below.size e43), rfl, by rintro x y hx hy; cases hx; cases hy; show b43 ≠ b44; omega, Ext.trans e43 e44⟩ ?_
    rintro i g _ w5 ⟨a5, c5, a6, n6, c6, rfl, hi, hG5, hG6, hn6, hd, hX⟩
    have hl5 := hG5.len
    by_cases hin : i < n
    · obtain ⟨x, hx⟩ : ∃ x, xs[i]? = some x := get_of_lt (by omega)
      obtain ⟨d, hdd⟩ : ∃ d, hs[i]? = some d := get_of_lt (by omega)
      obtain ⟨hA, hnc⟩ := hE.2 i d x hdd hx
      have hln := hA.len
      have hrx := hrows x (List.mem_of_getElem? hx)
      have hsb : ∀ k, -9223372036854775808 ≤ (x.take k).sum ∧ (x.take k).sum ≤ 9223372036854775807 := fun k => by
        have := sum_take_b hrx.2.2 hrx.2.1 k
        omega
      have hmt := map_take_succ (f := List.sum) hx
      obtain ⟨da, dn, dc⟩ := d
      simp only at hA hnc hln
      conv => whnf
      refine IfB.yes (by omega) ?_
      conv => whnf
      refine SemK.index (by kernel_rfl) (hV.ext (Ext.trans e41 hX)) i rfl hdd ?_
      intro b46 o46 ha46 hb46
      conv => whnf
      refine SemK.load0 (by kernel_rfl) hb46 rfl ?_
      conv => whnf
      refine (impl_sumOf (hA.ext (Ext.trans e41 hX)) hsb).mono ?_
      rintro _ _ ⟨rfl, rfl⟩
      conv => whnf
      refine SemK.buildSlice mk_41 (vs := [Value.int IntKind.i64 x.sum]) (by rfl) (by rfl) (by simp [Value.cells]) (by decide) ?_
      intro b48 w48 g48 l48 e48 B48
      have G48 := Grow.of_blk (n := 1) (enc := eI) (xs := [x.sum]) eI_len B48 g48 rfl (by decide)
      conv => whnf
      refine SemK.appendArr0 (enc := eI) mk_41 eI_len (hG5.ext e48) (G48.own.arr eI_len) (by intro y _; simp [eI, cellish]) (by omega) (by omega) (Below.size (Ext.trans hX e48)) ?_
      intro a49 c49 w49 G49 m49 i49
      conv => whnf
      rw [show (xs.take i).map List.sum ++ [x.sum] = (xs.take (i + 1)).map List.sum from by rw [hmt]] at G49
      have hd49 : ∀ p q : Addr, a49 = some p → a6 = some q → p.block ≠ q.block := by
        rintro p q hp hq
        rcases i49 p.block ⟨p, hp, rfl⟩ with ⟨y, hy, he⟩ | he
        · rw [he]; exact hd y q hy hq
        · have := hG6.lt q hq
          have := Below.size e48
          omega
      have G6b := (hG6.ext e48).mod m49 (fun y hy ⟨z, hz, he⟩ => hd z y hz hy he.symm)
      have X49 := Ext.mod_trans (Ext.trans hX e48) m49 (fun k hk => blkIn_new hG5.new k hk)
      have hdW : dn = W := by rw [← hln]; exact hrx.1
      refine LoopK.rule [5, 6, 7, 16, 17, 18, 28, 29, 30] (fun (k : Nat) vs w' => ∃ a6 n6 c6, vs = [.slice a49 (i + 1) c49, .slice a6 n6 c6, .int .i64 (i : Nat), .slice a n c, .int .i64 n, .int .i64 (i : Nat), .slice da dn dc, .int .i64 (dn : Nat), .int .i64 (k : Nat)] ∧ k ≤ dn ∧ Grow eI 1 w42.heap.size 2 w' a49 (i + 1) c49 ((xs.take (i + 1)).map List.sum) ∧ Grow eI 1 w42.heap.size 2 w' a6 n6 c6 (colPart xs i k n6) ∧ n6 = (if i = 0 then k else W) ∧ (∀ p q : Addr, a49 = some p → a6 = some q → p.block ≠ q.block) ∧ Ext w42 w') (fun k => dn - k) tab tabok (by kernel_rfl) 0
        ⟨_, _, _, rfl, by omega, G49, G6b, by rw [hn6], hd49, X49⟩ ?_
      rintro k g2 _ w50 ⟨a7, n7, c7, rfl, hk, hG9, hG7, hn7, hd7, hX50⟩
      have hl9 := hG9.len
      have hl7 := hG7.len
      rcases Nat.lt_or_ge k dn with hkd | hkd
      · obtain ⟨z, hz⟩ : ∃ z, x[k]? = some z := get_of_lt (by omega)
        have hzb := hrx.2.2 z (List.mem_of_getElem? hz)
        have hcs := colSum_b hb i k
        conv => whnf
        refine IfB.yes (by omega) ?_
        conv => whnf
        by_cases hi0 : i = 0
        · subst hi0
          rw [if_pos rfl] at hn7
          subst hn7
          have hgr := colPart_grow xs n7
          refine SemK.index (by kernel_rfl) (hA.ext (Ext.trans e41 hX50)) n7 rfl hz ?_
          intro b52 o52 ha52 hb52
          conv => whnf
          refine SemK.load0 (by kernel_rfl) hb52 rfl ?_
          conv => whnf
          refine SemK.buildSlice mk_41 (vs := [Value.int IntKind.i64 0]) (by rfl) (by rfl) (by simp [Value.cells]) (by decide) ?_
          intro b53 w53 g53 l53 e53 B53
          have G53 := Grow.of_blk (n := 1) (enc := eI) (xs := [0]) eI_len B53 g53 rfl (by decide)
          conv => whnf
          refine SemK.appendArr0 (enc := eI) mk_41 eI_len (hG7.ext e53) (G53.own.arr eI_len) (by intro y _; simp [eI, cellish]) (by omega) (by omega) (Below.size (Ext.trans hX50 e53)) ?_
          intro a54 c54 w54 G54 m54 i54
          rw [hgr] at G54
          have hcg := colPart_get (xs := xs) (i := 0) (k := n7) (W := n7 + 1) (by omega)
          have hd8 : ∀ p q : Addr, a49 = some p → a54 = some q → p.block ≠ q.block := by
            rintro p q hp hq
            rcases i54 q.block ⟨q, hq, rfl⟩ with ⟨y, hy, he⟩ | he
            · rw [he]; exact hd7 p y hp hy
            · have := hG9.lt p hp
              have := Below.size e53
              omega
          have hG9' := (hG9.ext e53).mod m54 (fun y hy ⟨z, hz, he⟩ => hd7 y z hy hz he)
          obtain ⟨b56, rfl⟩ := (G54.own).some (by omega)
          have gb56 : w42.heap.size ≤ b56 := G54.new _ rfl
          conv => whnf
          refine SemK.indexOwn (sz := 1) (by kernel_rfl) n7 rfl (by omega) ?_
          have hb56 := Own.elem eI_len G54.own hcg
          conv => whnf
          refine SemK.load0 (by kernel_rfl) hb56 rfl ?_
          conv => whnf
          refine SemK.add (colSum (xs.take 0) n7 + z) rfl (by omega) (by omega) ?_
          conv => whnf
          refine SemK.indexOwn (sz := 1) (by kernel_rfl) n7 rfl (by omega) ?_
          conv => whnf
          refine SemK.storeGrow1 (k := n7) (j := 0) (by kernel_rfl) eI_len G54 hcg (by decide) rfl (colSum (xs.take 0) n7 + z) rfl ?_
          intro w59 c59 B59
          rw [colPart_set hx hz] at B59
          conv => whnf
          refine SemK.add (((n7 + 1 : Nat) : Int)) (by omega) (by omega) (by omega) ?_
          conv => whnf
          exact ⟨n7 + 1, by omega, _, _, _, rfl, by omega, hG9'.mod c59.but (fun y hy e => hd8 y _ hy rfl e), B59, rfl, hd8, (Ext.but_trans (Ext.mod_trans (Ext.trans hX50 e53) m54 (blkIn_new hG7.new)) c59.but gb56)⟩
        · rw [if_neg hi0] at hn7
          subst hn7
          have hcg := colPart_get (xs := xs) (i := i) (k := k) (W := n7) (by omega)
          refine SemK.index (by kernel_rfl) (hA.ext (Ext.trans e41 hX50)) k rfl hz ?_
          intro b52 o52 ha52 hb52
          conv => whnf
          refine SemK.load0 (by kernel_rfl) hb52 rfl ?_
          conv => whnf
          refine IfB.no (by omega) ?_
          conv => whnf
          obtain ⟨b54, rfl⟩ := (hG7.own).some (by omega)
          have gb54 : w42.heap.size ≤ b54 := hG7.new _ rfl
          have lb54 : b54 < w50.heap.size := hG7.lt _ rfl
          refine SemK.indexOwn (sz := 1) (by kernel_rfl) k rfl (by omega) ?_
          have hb54 := Own.elem eI_len hG7.own hcg
          conv => whnf
          refine SemK.load0 (by kernel_rfl) hb54 rfl ?_
          conv => whnf
          refine SemK.add _ rfl (by omega) (by omega) ?_
          conv => whnf
          refine SemK.indexOwn (sz := 1) (by kernel_rfl) k rfl (by omega) ?_
          have hb56 := Own.elem eI_len hG7.own hcg
          conv => whnf
          refine SemK.storeGrow1 (k := k) (j := 0) (by kernel_rfl) eI_len hG7 hcg (by decide) rfl (colSum (List.take i xs) k + z) rfl ?_
          intro w57 c57 B57
          rw [colPart_set hx hz] at B57
          conv => whnf
          refine SemK.add (((k + 1 : Nat) : Int)) (by omega) (by omega) (by omega) ?_
          conv => whnf
          exact ⟨k + 1, by omega, _, _, _, rfl, by omega, hG9.mod c57.but (fun y hy e => hd7 y _ hy rfl e), B57, by rw [if_neg hi0], hd7, (Ext.but_trans hX50 c57.but gb54)⟩
      · obtain rfl : k = dn := by omega
        conv => whnf
        refine IfB.no (by omega) ?_
        conv => whnf
        have hnd : n7 = k := by
          by_cases hi0 : i = 0
          · rw [if_pos hi0] at hn7; exact hn7
          · rw [if_neg hi0] at hn7; omega
        subst hnd
        rw [colPart_next] at hG7
        refine SemK.add (((i + 1 : Nat) : Int)) (by omega) (by omega) (by omega) ?_
        conv => whnf
        exact ⟨i + 1, by omega, _, _, _, _, _, rfl, by omega, hG9, hG7, by rw [if_neg (by omega)]; exact hdW, hd7, hX50⟩
    · obtain rfl : i = n := by omega
      conv => whnf
      refine IfB.no (by omega) ?_
      conv => whnf
      have h6 : n6 = W := by
        by_cases h0 : i = 0
        · rw [if_pos h0] at hn6; rw [hn6, hW0 h0]
        · rw [if_neg h0] at hn6; exact hn6
      subst h6
      rw [hn] at hca
      rw [hca] at hG6
      rw [show xs.take i = xs from by rw [← hn, List.take_length]] at hG5
      exact ⟨_, _, _, _, _, _, rfl, (hG5.new.mono (Below.size e41)), (hG6.new.mono (Below.size e41)), hG5.own, hG6.own, (Ext.trans e41 hX)⟩
theorem spec_TableSums {w : World} {a : Option Addr} {n c : Nat} {xs : List (List Int)} (h : ArrS RCard w a n xs) :
    Does Tryz.prog 16 [.slice a n c] w (fun v w' => ∃ a' n' c' a2 n2 c2, v = .tuple #[.slice a' n' c', .slice a2 n2 c2, .int .i64 (tableSumsM xs).2.2] ∧ NewAt w.heap.size a' ∧ NewAt w.heap.size a2 ∧ Own eI w' a' n' 2 (tableSumsM xs).1 ∧ Own eI w' a2 n2 2 (tableSumsM xs).2.1 ∧ Ext w w') := by
  have hn := h.len
  have hm := h.le
  have hTab : ∀ u, Ext w u → Does Tryz.prog 60 [.slice a n c] u (fun v w' => v = .bool (tableB xs) ∧ Ext u w') := fun u hu => spec_l24Table (h.ext hu)
  have hTab0 := hTab w (Ext.refl _)
  obtain ⟨hs, hV, hE⟩ := h
  have hl := hV.len
  unfold tableSumsM
  cases hb : tableB xs
  · rw [hb] at hTab0
    rw [if_neg (by simp)]
    dsimp only
    refine Does.of_vc tabok Tryz.func16 rfl rfl rfl (by kernel_rfl) ?_; conv => whnf
    refine (hTab0).mono ?_
    rintro _ w2 ⟨rfl, e1⟩
    conv => whnf
    exact ⟨_, _, _, _, _, _, rfl, NewAt.nil, NewAt.nil, Own.nil, Own.nil, e1⟩
  · rw [hb] at hTab0
    obtain ⟨hx40, hrows⟩ := tableB_spec hb
    have hcb := colSum_b hb
    rw [if_pos rfl]
    dsimp only
    have hca := colPart_all xs
    generalize hW : (xs.headD []).length = W at hrows hca
    refine Does.of_vc tabok Tryz.func16 rfl rfl rfl (by kernel_rfl) ?_; conv => whnf
    refine (hTab0).mono ?_
    rintro _ w42 ⟨rfl, e41⟩
    conv => whnf
    refine SemK.buildSlice mk_41 (vs := []) (by rfl) (by rfl) (by simp [Value.cells]) (by decide) ?_
    intro b43 w43 g43 l43 e43 B43
    have G43 := Grow.new0 (enc := eI) eI_len B43 g43
    conv => whnf
    refine SemK.buildSlice mk_41 (vs := []) (by rfl) (by rfl) (by simp [Value.cells]) (by decide) ?_
    intro b44 w44 g44 l44 e44 B44
    have G44 := Grow.new0 (enc := eI) eI_len B44 g44
    conv => whnf
    with_reducible refine IfB.dec (fun h45 => ?_) (fun h45 => ?_)
    · obtain ⟨x0, hx0⟩ : ∃ x, xs[0]? = some x := get_of_lt (by omega)
      obtain ⟨d0, hdd0⟩ : ∃ d, hs[0]? = some d := get_of_lt (by omega)
      obtain ⟨hA0, hnc0⟩ := hE.2 0 d0 x0 hdd0 hx0
      have hln0 := hA0.len
      have hrx0 := hrows x0 (List.mem_of_getElem? hx0)
      obtain ⟨da0, dn, dc0⟩ := d0
      simp only at hA0 hnc0 hln0
      have hdW : dn = W := by rw [← hln0]; exact hrx0.1
      subst hdW
      conv => whnf
      refine SemK.index (by kernel_rfl) (hV.ext (Ext.trans (Ext.trans e41 e43) e44)) 0 rfl hdd0 ?_
      intro b46 o46 ha46 hb46
      conv => whnf
      refine SemK.load0 (by kernel_rfl) hb46 rfl ?_
      conv => whnf
      refine SemK.make mk_41 dn rfl (by omega) (by omega) ?_
      intro b47 w47 g47 l47 e47 B47
      have G47 := Grow.of_make (enc := eI) (z := (0 : Int)) eI_len rfl B47 g47 (by omega)
      rw [← colPart_zero xs] at G47
      conv => whnf
      refine LoopK.rule [0, 5, 6, 7] (fun (i : Nat) vs w' => ∃ a5 c5, ∃ b6 : Nat, vs = [.slice a n c, .slice a5 i c5, .slice (some ⟨b47, 0, none⟩) dn dn, .int .i64 (i : Nat)] ∧ b6 = b47 ∧ i ≤ n ∧ Grow eI 1 w42.heap.size 2 w' a5 i c5 ((xs.take i).map List.sum) ∧ Grow eI 1 w42.heap.size 2 w' (some ⟨b47, 0, none⟩) dn dn (colPart xs i 0 dn) ∧ (∀ p : Addr, a5 = some p → p.block ≠ b47) ∧ Ext w42 w') (fun i => n - i) tab tabok (by kernel_rfl) 0
        ⟨_, _, _, rfl, rfl, by omega, ((G43.ext e44).ext e47), G47.base (Below.size (Ext.trans e43 e44)), by rintro p hp; cases hp; show b43 ≠ b47; have := Below.size e44; omega, Ext.trans (Ext.trans e43 e44) e47⟩ ?_
      rintro i g _ w5 ⟨a5, c5, b6, rfl, rfl, hi, hG5, hG6, hd, hX⟩
      have hl5 := hG5.len
      by_cases hin : i < n
      · obtain ⟨x, hx⟩ : ∃ x, xs[i]? = some x := get_of_lt (by omega)
        obtain ⟨d, hdd⟩ : ∃ d, hs[i]? = some d := get_of_lt (by omega)
        obtain ⟨hA, hnc⟩ := hE.2 i d x hdd hx
        have hln := hA.len
        have hrx := hrows x (List.mem_of_getElem? hx)
        have hmt := map_take_succ (f := List.sum) hx
        obtain ⟨da2, dn2, dc2⟩ := d
        simp only at hA hnc hln
        have hd2 : dn2 = dn := by rw [← hln]; exact hrx.1
        subst hd2
        conv => whnf
        refine IfB.yes (by omega) ?_
        conv => whnf
        refine LoopK.rule [0, 5, 6, 7, 8, 9] (fun (k : Nat) vs w' => vs = [.slice a n c, .slice a5 i c5, .slice (some ⟨b6, 0, none⟩) dn2 dn2, .int .i64 (i : Nat), .int .i64 (x.take k).sum, .int .i64 (k : Nat)] ∧ k ≤ dn2 ∧ Grow eI 1 w42.heap.size 2 w' a5 i c5 ((xs.take i).map List.sum) ∧ Grow eI 1 w42.heap.size 2 w' (some ⟨b6, 0, none⟩) dn2 dn2 (colPart xs i k dn2) ∧ Ext w42 w') (fun k => dn2 - k) tab tabok (by kernel_rfl) 0
          ⟨rfl, by omega, hG5, hG6, hX⟩ ?_
        rintro k g2 _ w50 ⟨rfl, hk, hG9, hG7, hX50⟩
        have hl9 := hG9.len
        have hl7 := hG7.len
        rcases Nat.lt_or_ge k dn2 with hkd | hkd
        · obtain ⟨z, hz⟩ : ∃ z, x[k]? = some z := get_of_lt (by omega)
          have hzb := hrx.2.2 z (List.mem_of_getElem? hz)
          have hcs := colSum_b hb i k
          have hsk := sum_take_b hrx.2.2 hrx.2.1 k
          have hsn := sumTakeS hz
          have hcg := colPart_get (xs := xs) (i := i) (k := k) (W := dn2) (by omega)
          conv => whnf
          refine SemK.index (by kernel_rfl) (hV.ext (Ext.trans e41 hX50)) i rfl hdd ?_
          intro b52 o52 ha52 hb52
          conv => whnf
          refine SemK.load0 (by kernel_rfl) hb52 rfl ?_
          conv => whnf
          refine IfB.yes (by show (k : Int) < (dn2 : Int); omega) ?_
          conv => whnf
          refine SemK.index (by kernel_rfl) (hV.ext (Ext.trans e41 hX50)) i rfl hdd ?_
          intro b55 o55 ha55 hb55
          conv => whnf
          refine SemK.load0 (by kernel_rfl) hb55 rfl ?_
          conv => whnf
          refine SemK.index (by kernel_rfl) (hA.ext (Ext.trans e41 hX50)) k rfl hz ?_
          intro b56 o56 ha56 hb56
          conv => whnf
          refine SemK.load0 (by kernel_rfl) hb56 rfl ?_
          conv => whnf
          refine SemK.add ((x.take (k + 1)).sum) (by omega) (by omega) (by omega) ?_
          conv => whnf
          refine DrawK.writes tabok mixed [(0, .any), (1, .any), (2, .any), (4, .any), (5, .any), (6, .any), (8, .any), (3, .held), (7, .held), (9, .any), (10, .held), (11, .any), (12, .any), (13, .write)] (by kernel_rfl) (by kernel_rfl) ?_
          conv => whnf
          intro w57 e57
          conv => whnf
          refine PSemK.indexOwn (sz := 1) (by kernel_rfl) k rfl (by omega) ?_
          have hb59 := Own.elem eI_len hG7.own hcg
          conv => whnf
          refine PSemK.index (by kernel_rfl) (hV.ext (Ext.trans e41 hX50)) i rfl hdd ?_
          intro b61 o61 ha61 hb61
          conv => whnf
          refine DSemK.load0 (by kernel_rfl) hb59 rfl ?_
          conv => whnf
          refine DSemK.load0 (by kernel_rfl) hb61 rfl ?_
          conv => whnf
          refine PSemK.index (by kernel_rfl) (hA.ext (Ext.trans e41 hX50)) k rfl hz ?_
          intro b62 o62 ha62 hb62
          conv => whnf
          refine DSemK.load0 (by kernel_rfl) hb62 rfl ?_
          conv => whnf
          refine PSemK.add (colSum (xs.take i) k + z) rfl (by omega) (by omega) ?_
          conv => whnf
          refine PSemK.indexOwn (sz := 1) (by kernel_rfl) k rfl (by omega) ?_
          conv => whnf
          refine SemK.storeGrow1 (k := k) (j := 0) (by kernel_rfl) eI_len (hG7.ext e57) hcg (by decide) rfl (colSum (xs.take i) k + z) rfl ?_
          intro w63 c63 B63
          rw [colPart_set hx hz] at B63
          conv => whnf
          refine SemK.add (((k + 1 : Nat) : Int)) (by omega) (by omega) (by omega) ?_
          conv => whnf
          exact ⟨k + 1, by omega, rfl, by omega, (hG9.ext e57).mod c63.but (fun y hy e => hd y hy e), B63, Ext.but_trans (Ext.trans hX50 e57) c63.but (hG7.new _ rfl)⟩
        · obtain rfl : k = dn2 := by omega
          rw [colPart_next] at hG7
          have hxk : x.take k = x := List.take_of_length_le (by omega)
          conv => whnf
          refine SemK.index (by kernel_rfl) (hV.ext (Ext.trans e41 hX50)) i rfl hdd ?_
          intro b52 o52 ha52 hb52
          conv => whnf
          refine SemK.load0 (by kernel_rfl) hb52 rfl ?_
          conv => whnf
          refine IfB.no (by show ¬ (k : Int) < (k : Int); omega) ?_
          conv => whnf
          rw [hxk]
          refine SemK.buildSlice mk_41 (vs := [Value.int IntKind.i64 x.sum]) (by rfl) (by rfl) (by simp [Value.cells]) (by decide) ?_
          intro b53 w53 g53 l53 e53 B53
          have G53 := Grow.of_blk (n := 1) (enc := eI) (xs := [x.sum]) eI_len B53 g53 rfl (by decide)
          conv => whnf
          refine SemK.appendArr0 (enc := eI) mk_41 eI_len (hG9.ext e53) (G53.own.arr eI_len) (by intro y _; simp [eI, cellish]) (by omega) (by omega) (Below.size (Ext.trans hX50 e53)) ?_
          intro a54 c54 w54 G54 m54 i54
          conv => whnf
          refine SemK.add (((i + 1 : Nat) : Int)) (by omega) (by omega) (by omega) ?_
          conv => whnf
          rw [show (xs.take i).map List.sum ++ [x.sum] = (xs.take (i + 1)).map List.sum from by rw [hmt]] at G54
          exact ⟨i + 1, by omega, _, _, _, rfl, rfl, by omega, G54, (hG7.ext e53).mod m54 (fun y hy ⟨q, hq, he⟩ => by cases hy; exact hd q hq he.symm), by
            rintro p hp
            rcases i54 p.block ⟨p, hp, rfl⟩ with ⟨y, hy, he⟩ | he
            · rw [he]; exact hd y hy
            · have h1 : b6 < w50.heap.size := hG7.lt _ rfl
              have := Below.size e53
              omega, Ext.mod_trans (Ext.trans hX50 e53) m54 (fun k hk => blkIn_new hG9.new k hk)⟩
      · obtain rfl : i = n := by omega
        rw [hn] at hca
        rw [hca] at hG6
        rw [show xs.take i = xs from by rw [← hn, List.take_length]] at hG5
        conv => whnf
        refine IfB.no (by omega) ?_
        conv => whnf
        exact ⟨_, _, _, _, _, _, rfl, (hG5.new.mono (Below.size e41)), (hG6.new.mono (Below.size e41)), hG5.own, hG6.own, (Ext.trans e41 hX)⟩
    · have h0 : n = 0 := by omega
      have hxs : xs = [] := List.eq_nil_of_length_eq_zero (by omega)
      subst hxs
      have hcn : colSums ([] : List (List Int)) = [] := rfl
      subst h0
      conv => whnf
      refine LoopK.rule [0, 5, 6, 7] (fun (i : Nat) vs w' => vs = [.slice a 0 c, .slice (some ⟨b43, 0, none⟩) 0 0, .slice (some ⟨b44, 0, none⟩) 0 0, .int .i64 (i : Nat)] ∧ i = 0 ∧ w' = w44) (fun i => 0) tab tabok (by kernel_rfl) 0
        ⟨rfl, rfl, rfl⟩ ?_
      rintro i g _ w5 ⟨rfl, rfl, rfl⟩
      conv => whnf
      exact ⟨_, _, _, _, _, _, rfl, (G43.new.mono (Below.size e41)), (G44.new.mono (Below.size (Ext.trans e41 e43))), (G43.ext e44).own, by rw [hcn]; exact G44.own, (Ext.trans (Ext.trans e41 e43) e44)⟩
theorem laws_f6listsE {w : World} {a a' : Option Addr} {n n' c c' : Nat} {xs : List (List Int)} (h : ArrS RCard w a n xs) (h' : ArrS RCard w a' n' xs) :
    Does Tryz.prog 20 [.slice a n c, .slice a' n' c'] w (fun v w' => v = .bool true ∧ Ext w w') := by
  have hn := h.len
  have hn' := h'.len
  have hm := h.le
  obtain rfl : n' = n := by omega
  obtain ⟨hs, hV, hE1⟩ := h
  obtain ⟨hs2, hV2, hE2⟩ := h'
  have hl := hV.len
  have hl2 := hV2.len
  refine Does.of_vc tabok Tryz.func20 rfl rfl rfl (by kernel_rfl) ?_; conv => whnf
  refine IfB.eqf (by simp; done) ?_
  conv => whnf
  refine LoopK.rule [0, 1, 5] (fun (k : Nat) vs w' => vs = [.slice a n' c, .slice a' n' c', .int .i64 k] ∧ k ≤ n' ∧ Ext w w') (fun k => n' - k) tab tabok (by kernel_rfl) 0 ⟨rfl, by omega, Ext.refl _⟩ ?_
  rintro k g _ w5 ⟨rfl, hk, hE⟩
  rcases Nat.lt_or_ge k n' with hkn | hkn
  · obtain ⟨x, hx⟩ : ∃ x, xs[k]? = some x := get_of_lt (by omega)
    obtain ⟨d, hd⟩ : ∃ d, hs[k]? = some d := get_of_lt (by omega)
    obtain ⟨d2, hd2⟩ : ∃ d, hs2[k]? = some d := get_of_lt (by omega)
    obtain ⟨hA, _⟩ := hE1.2 k d x hd hx
    obtain ⟨hA2, _⟩ := hE2.2 k d2 x hd2 hx
    have hIn : ∀ u, Ext w u → Does Tryz.prog 23 [.slice d.a d.n d.c, .slice d2.a d2.n d2.c] u (fun v w' => v = .bool true ∧ Ext u w') := fun u e => by
      refine (laws_f6ints (hA.ext e) (hA2.ext e)).mono ?_
      rintro _ w' ⟨rfl, e'⟩
      exact ⟨by simp, e'⟩
    conv => whnf
    refine IfB.yes (by omega) ?_
    conv => whnf
    refine DrawK.held tabok mixed [(0, false), (1, false), (2, false), (3, false), (4, false), (5, true), (6, true), (7, true), (8, true), (9, true)] (by kernel_rfl) (by kernel_rfl) ?_
    conv => whnf
    intro w437 e437
    conv => whnf
    refine DSemK.index (by kernel_rfl) (hV.ext hE) k rfl hd ?_
    intro b439 o439 ha439 hb439
    conv => whnf
    refine DSemK.load0 (by kernel_rfl) hb439 rfl ?_
    conv => whnf
    refine SemK.index (by kernel_rfl) (hV2.ext (Ext.trans hE e437)) k rfl hd2 ?_
    intro b441 o441 ha441 hb441
    conv => whnf
    refine ⟨e437, ?_⟩
    conv => whnf
    refine SemK.load0 (by kernel_rfl) hb441 rfl ?_
    conv => whnf
    refine ⟨e437, ?_⟩
    conv => whnf
    refine (hIn _ (Ext.trans hE e437)).mono ?_
    rintro _ w443 ⟨rfl, e442⟩
    conv => whnf
    refine ⟨(Ext.trans e437 e442), ?_⟩
    conv => whnf
    refine SemK.add (((k + 1 : Nat) : Int)) (by omega) (by omega) (by omega) ?_
    conv => whnf
    exact ⟨k + 1, by omega, rfl, by omega, (Ext.trans (Ext.trans hE e437) e442)⟩
  · conv => whnf
    refine IfB.no (by omega) ?_
    conv => whnf
    exact ⟨rfl, hE⟩
theorem spec_l15TotalsE {w : World} {a a' : Option Addr} {n n' c c' : Nat} {xs : List TTotal} (h : Arr TTotal.enc 2 w a n xs) (h' : Arr TTotal.enc 2 w a' n' xs) (hok : ∀ x ∈ xs, x.ok) :
    Does Tryz.prog 63 [.slice a n c, .slice a' n' c'] w (fun v w' => v = .bool true ∧ Ext w w') := by
  have hn := h.len
  have hn' := h'.len
  have hm := h.le
  obtain rfl : n' = n := by omega
  refine Does.of_vc tabok Tryz.func63 rfl rfl rfl (by kernel_rfl) ?_; conv => whnf
  refine IfB.eqf (by simp; done) ?_
  conv => whnf
  refine LoopK.rule [0, 1, 5] (fun (k : Nat) vs w' => vs = [.slice a n' c, .slice a' n' c', .int .i64 k] ∧ k ≤ n' ∧ Ext w w') (fun k => n' - k) tab tabok (by kernel_rfl) 0 ⟨rfl, by omega, Ext.refl _⟩ ?_
  rintro k g _ w5 ⟨rfl, hk, hE⟩
  rcases Nat.lt_or_ge k n' with hkn | hkn
  · obtain ⟨x, hx⟩ : ∃ x, xs[k]? = some x := get_of_lt (by omega)
    have hxo := hok x (List.mem_of_getElem? hx)
    conv => whnf
    refine IfB.yes (by omega) ?_
    conv => whnf
    refine DrawK.det tabok mixed (by kernel_rfl) (by kernel_rfl) ?_
    conv => whnf
    refine DSemK.index (by kernel_rfl) (h.ext hE) k rfl hx ?_
    intro b7 o7 ha7 hb7
    conv => whnf
    refine DSemK.loadAgg (n := 2) (by kernel_rfl) hb7 rfl ?_
    conv => whnf
    refine DSemK.index (by kernel_rfl) (h'.ext hE) k rfl hx ?_
    intro b9 o9 ha9 hb9
    conv => whnf
    refine DSemK.loadAgg (n := 2) (by kernel_rfl) hb9 rfl ?_
    conv => whnf
    refine DSemK.neqFlat (ks := [true, false]) (by kernel_rfl) (by kernel_rfl) (TTotal.flat hxo) (TTotal.flat hxo) ?_
    rw [TTotal.eq_flat]
    conv => whnf
    intro w10 e10
    conv => whnf
    refine IfB.eqf (by simp; done) ?_
    conv => whnf
    refine SemK.add (((k + 1 : Nat) : Int)) (by omega) (by omega) (by omega) ?_
    conv => whnf
    exact ⟨k + 1, by omega, rfl, by omega, (Ext.trans hE e10)⟩
  · conv => whnf
    refine IfB.no (by omega) ?_
    conv => whnf
    exact ⟨rfl, hE⟩
theorem spec_SameTotalsE {w : World} {a a' : Option Addr} {n n' c c' : Nat} {xs : List TTotal} (h : Arr TTotal.enc 2 w a n xs) (h' : Arr TTotal.enc 2 w a' n' xs) (hok : ∀ x ∈ xs, x.ok) :
    Does Tryz.prog 22 [.slice a n c, .slice a' n' c'] w (fun v w' => v = .bool true ∧ Ext w w') := by
  refine Does.of_vc tabok Tryz.func22 rfl rfl rfl (by kernel_rfl) ?_; conv => whnf
  refine (spec_l15TotalsE h h' hok).mono ?_
  rintro _ w2 ⟨rfl, e1⟩
  conv => whnf
  exact ⟨rfl, e1⟩
end Go.Proofs.YtfgbijddjoojbaaGreatDoor
