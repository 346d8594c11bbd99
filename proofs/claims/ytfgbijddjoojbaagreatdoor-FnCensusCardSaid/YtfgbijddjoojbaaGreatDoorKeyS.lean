/- Contracts of functions of the given program, of the reference and of the laws: each says what a call returns, for all arguments that meet the premises that the theorem itself names. -/
import Derived.Test.YtfgbijddjoojbaaGreatDoorKeyT
namespace Go.M
open Go Go.Vc
theorem mapTxt_get {ks : List (List Int)} {i : Nat} {x : List Int} (h : ks[i]? = some x) : (ks.map txt)[i]? = some (txt x) := by rw [List.getElem?_map, h]; rfl
theorem mapTxt_ins (o : List (List Int)) (x : List Int) (k : Nat) : (o.map txt).take k ++ [txt x] ++ (o.map txt).drop k = (o.take k ++ [x] ++ o.drop k).map txt := by simp [List.map_take, List.map_drop]
theorem asc_after {o : List (List Int)} {x : List Int} {k : Nat} (h : ∀ i y, k ≤ i → o[i]? = some y → 0 < cmpR y x) : ∀ y ∈ o.drop k, cmpR x y < 0 := by
  intro y hy
  obtain ⟨i, hi⟩ := List.mem_iff_getElem?.1 hy
  rw [List.getElem?_drop] at hi
  have := h (k + i) y (by omega) hi
  have := cmpR_neg x y
  omega
theorem texts_len {d : List (List Int)} {f : TField} (hd : deckB d = true) (hf : fieldB f (widthOf d) = true) : (textsM (d.map (ckey f))).length ≤ d.length := by
  rw [← sd_firsts hd hf, List.length_map]
  have h1 := startsI_len (sdK d f) (sdK d f).length
  rw [startsI_length] at h1
  have h2 : (sdK d f).length = d.length := by unfold sdK; rw [List.length_map, sd_len]
  unfold starts
  omega
noncomputable def countTextsM (d : List (List Int)) (f : TField) : List TTotal × Int := if (keysM d f).2 = 0 then (totalsM (keysM d f).1, 0) else ([], (keysM d f).2)
theorem countTexts_bad {d : List (List Int)} {f : TField} {cd : Int} (h : keysM d f = ([], cd)) (hc : ¬ cd = 0) : countTextsM d f = ([], cd) := by simp [countTextsM, h, hc]
theorem countTexts_good {d : List (List Int)} {f : TField} {K : List (List Int)} (h : keysM d f = (K, 0)) : countTextsM d f = (totalsM K, 0) := by simp [countTextsM, h]
theorem countTexts_len (d : List (List Int)) (f : TField) : (countTextsM d f).1.length ≤ 40 := by
  rcases keys_cases d f with ⟨cd, hk, hcd⟩ | ⟨hd, hf, hh, hk⟩
  · rw [countTexts_bad hk (by omega)]; simp
  · rw [countTexts_good hk]
    show (totalsM _).length ≤ 40
    unfold totalsM
    rw [List.length_map]
    exact Nat.le_trans (texts_len hd hf) (deckB_mem hd).1
theorem totals_get {ks : List (List Int)} {k : Nat} {t : List Int} (h : (textsM ks)[k]? = some t) : (totalsM ks).take (k + 1) = (totalsM ks).take k ++ [⟨txt t, ((cntM ks t : Nat) : Int)⟩] := by
  have : (totalsM ks)[k]? = some ⟨txt t, ((cntM ks t : Nat) : Int)⟩ := by
    unfold totalsM
    rw [List.getElem?_map, h]
    rfl
  rw [List.take_add_one, this]
  rfl
theorem totals_length (ks : List (List Int)) : (totalsM ks).length = (textsM ks).length := by simp [totalsM]
theorem cnt_take {ks : List (List Int)} {j : Nat} {x t : List Int} (h : ks[j]? = some x) : cntM (ks.take (j + 1)) t = if x = t then cntM (ks.take j) t + 1 else cntM (ks.take j) t := by
  unfold cntM
  rw [List.take_add_one, h, Option.toList_some, List.countP_append]
  split <;> simp [*]
theorem cnt_yes {ks : List (List Int)} {j : Nat} {x t : List Int} (h : ks[j]? = some x) (e : x = t) : ((cntM (ks.take (j + 1)) t : Nat) : Int) = cntM (ks.take j) t + 1 := by rw [cnt_take h, if_pos e]; rfl
theorem cnt_no {ks : List (List Int)} {j : Nat} {x t : List Int} (h : ks[j]? = some x) (e : ¬ x = t) : cntM (ks.take (j + 1)) t = cntM (ks.take j) t := by rw [cnt_take h, if_neg e]
theorem cnt_take_le (ks : List (List Int)) (j : Nat) (t : List Int) : cntM (ks.take j) t ≤ j := by
  have := cntM_le (ks.take j) t
  rw [List.length_take] at this
  omega
def twoM (d : List (List Int)) (r c : TField) : Int :=
  if deckB d = false then 1 else if fieldB r (widthOf d) = false ∨ fieldB c (widthOf d) = false then 2
  else if d.all (fun x => hasB (partOf x r)) = false ∨ d.all (fun x => hasB (partOf x c)) = false then 8 else 0
noncomputable def tableM (d : List (List Int)) (r c : TField) : List ByteArray × List ByteArray × Int :=
  if twoM d r c = 0 then ((textsM (d.map (ckey r))).map txt, (textsM (d.map (ckey c))).map txt, 0) else ([], [], twoM d r c)
theorem two_cases (d : List (List Int)) (r c : TField) : (deckB d = false ∧ twoM d r c = 1) ∨ (deckB d = true ∧ (fieldB r (widthOf d) = false ∨ (fieldB r (widthOf d) = true ∧ fieldB c (widthOf d) = false)) ∧ twoM d r c = 2)
    ∨ (deckB d = true ∧ fieldB r (widthOf d) = true ∧ fieldB c (widthOf d) = true ∧ (d.all (fun x => hasB (partOf x r)) = false ∨ (d.all (fun x => hasB (partOf x r)) = true ∧ d.all (fun x => hasB (partOf x c)) = false)) ∧ twoM d r c = 8)
    ∨ (deckB d = true ∧ fieldB r (widthOf d) = true ∧ fieldB c (widthOf d) = true ∧ d.all (fun x => hasB (partOf x r)) = true ∧ d.all (fun x => hasB (partOf x c)) = true ∧ twoM d r c = 0) := by
  unfold twoM
  cases deckB d <;> cases fieldB r (widthOf d) <;> cases fieldB c (widthOf d) <;> cases d.all (fun x => hasB (partOf x r)) <;> cases d.all (fun x => hasB (partOf x c)) <;> simp
theorem table_bad {d : List (List Int)} {r c : TField} {cd : Int} (h : twoM d r c = cd) (hc : ¬ cd = 0) : tableM d r c = ([], [], cd) := by simp [tableM, h, hc]
theorem table_good {d : List (List Int)} {r c : TField} (h : twoM d r c = 0) : tableM d r c = ((textsM (d.map (ckey r))).map txt, (textsM (d.map (ckey c))).map txt, 0) := by simp [tableM, h]
theorem table_len1 (d : List (List Int)) (r c : TField) : (tableM d r c).1.length ≤ 40 := by
  rcases two_cases d r c with h | h | h | h
  · rw [table_bad h.2 (by omega)]; simp
  · rw [table_bad h.2.2 (by omega)]; simp
  · rw [table_bad h.2.2.2.2 (by omega)]; simp
  · rw [table_good h.2.2.2.2.2]
    show (List.map txt _).length ≤ 40
    rw [List.length_map]
    exact Nat.le_trans (texts_len h.1 h.2.1) (deckB_mem h.1).1
theorem table_len2 (d : List (List Int)) (r c : TField) : (tableM d r c).2.1.length ≤ 40 := by
  rcases two_cases d r c with h | h | h | h
  · rw [table_bad h.2 (by omega)]; simp
  · rw [table_bad h.2.2 (by omega)]; simp
  · rw [table_bad h.2.2.2.2 (by omega)]; simp
  · rw [table_good h.2.2.2.2.2]
    show (List.map txt _).length ≤ 40
    rw [List.length_map]
    exact Nat.le_trans (texts_len h.1 h.2.2.1) (deckB_mem h.1).1
end Go.M
namespace Go.Proofs.YtfgbijddjoojbaaGreatDoor
open Go Go.RowKit Go.Vc Go.M
theorem spec_l24Texts {w : World} {a : Option Addr} {n c L : Nat} {ks : List (List Int)} (h : Arr eS 1 w a n (ks.map txt)) (hK : ∀ k ∈ ks, OkKey L k) (hL : L ≤ 1000) (hn40 : n ≤ 40) :
    Does Tryz.prog 49 [.slice a n c] w (fun v w' => ∃ a' m c', v = .slice a' m c' ∧ NewAt w.heap.size a' ∧ Own eS w' a' m 9 ((textsM ks).map txt) ∧ Ext w w') := by
  have hn := h.len
  rw [List.length_map] at hn
  refine Does.of_vc tabok Tryz.func49 rfl rfl rfl (by kernel_rfl) ?_; conv => whnf
  refine SemK.buildSlice mk_32 (vs := []) (by rfl) (by rfl) (by simp [Value.cells]) (by decide) ?_
  intro b1 w1 g1 l1 e1 B1
  have G1 := Grow.new0 (enc := eS) eS_len B1 g1
  conv => whnf
  refine LoopK.rule [0, 3, 4] (fun (k : Nat) vs w' => ∃ (a3 : Option Addr) (m3 c3 : Nat) (o : List (List Int)), vs = [.slice a n c, .slice a3 m3 c3, .int .i64 k] ∧ k ≤ n ∧ o.length ≤ k ∧ Asc o ∧ (∀ y, y ∈ o ↔ y ∈ ks.take k) ∧ Grow eS 1 w.heap.size 9 w' a3 m3 c3 (o.map txt) ∧ Ext w w') (fun k => n - k) tab tabok (by kernel_rfl) 0 ⟨_, _, _, [], rfl, by omega, by simp, List.Pairwise.nil, by simp, G1, e1⟩ ?_
  rintro k g _ w2 ⟨a3, m3, c3, o, rfl, hk, hol, hasc, hmem, hG, hX⟩
  have lnG := hG.len
  rw [List.length_map] at lnG
  have hcc := hG.le.1
  rcases Nat.lt_or_ge k n with hkn | hkn
  · obtain ⟨x, hx⟩ := get_of_lt (l := ks) (k := k) (by omega)
    have hxt := mapTxt_get hx
    have okx := hK x (List.mem_of_getElem? hx)
    have oko : ∀ y ∈ o, OkKey L y := fun y hy => hK y (List.mem_of_mem_take ((hmem y).1 hy))
    conv => whnf
    refine IfB.yes (by omega) ?_
    conv => whnf
    refine LoopK.rule [0, 3, 4, 5] (fun (j : Nat) vs w' => vs = [.slice a n c, .slice a3 m3 c3, .int .i64 k, .int .i64 j] ∧ j ≤ m3 ∧ (∀ i y, j ≤ i → o[i]? = some y → 0 < cmpR y x) ∧ Ext w2 w') (fun j => j) tab tabok (by kernel_rfl) m3 ⟨rfl, by omega, fun i y hi hy => by have := (List.getElem?_eq_some_iff.1 hy).1; omega, Ext.refl _⟩ ?_
    rintro j g2 _ w3 ⟨rfl, hj, hall, hX2⟩
    have hXX := Ext.trans hX hX2
    have hafter := asc_after hall
    rcases Nat.eq_zero_or_pos j with rfl | hj0
    · have hins := asc_ins hasc (asc_before (x := x) hasc (.inl rfl)) hafter
      have hmn := mem_take_next hx hmem (o' := o.take 0 ++ [x] ++ o.drop 0) (fun y => mem_ins y)
      conv => whnf
      refine DrawK.held tabok mixed [(0, true), (1, true), (2, true), (3, false), (4, false), (5, false), (6, false), (7, false), (8, false), (9, true), (10, true), (11, true), (12, true), (13, true), (14, true)] (by kernel_rfl) (by kernel_rfl) ?_
      conv => whnf
      intro w41 e41
      conv => whnf
      refine DrawK.det tabok mixed (by kernel_rfl) (by kernel_rfl) ?_
      conv => whnf
      intro w42 e42
      conv => whnf
      refine SemK.buildSlice mk_32 (vs := []) (by rfl) (by rfl) (by simp [Value.cells]) (by decide) ?_
      intro b43 w43 g43 l43 e43 B43
      have G43 := Grow.new0 (enc := eS) eS_len B43 g43
      conv => whnf
      refine SemK.sliceTo (k' := .i64) (by kernel_rfl) ((hG.ext (Ext.trans (Ext.trans (Ext.trans hX2 e41) e42) e43)).own.arr eS_len) (0) (by omega) (by omega) (.inr (by rfl)) ?_
      intro A44
      conv => whnf
      refine SemK.appendNew (enc := eS) mk_32 eS_len G43 A44 (by intro y _; simp [eS, cellish]) (by omega) (by omega) (Below.size e43) ?_
      intro a45 c45 w45 G45 m45 i45
      conv => whnf
      refine SemK.index (by kernel_rfl) (h.ext (Ext.mod_trans (Ext.trans (Ext.trans (Ext.trans hXX e41) e42) e43) m45 (fun k hk => Nat.le_trans (Below.size (Ext.trans (Ext.trans hXX e41) e42)) (blkIn_new G43.new k hk)))) k rfl hxt ?_
      intro b47 o47 ha47 hb47
      conv => whnf
      refine SemK.load0 (by kernel_rfl) hb47 rfl ?_
      conv => whnf
      refine SemK.buildSlice mk_32 (vs := [Value.string (txt x)]) (by rfl) (by rfl) (by simp [Value.cells]) (by decide) ?_
      intro b48 w48 g48 l48 e48 B48
      have G48 := Grow.of_blk (n := 1) (enc := eS) (xs := [txt x]) eS_len B48 g48 rfl (by decide)
      conv => whnf
      refine SemK.appendNew (enc := eS) mk_32 eS_len (G45.ext e48) (G48.own.arr eS_len) (by intro y _; simp [eS, cellish]) (by omega) (by omega) (Below.size (Ext.trans (Ext.mod_trans e43 m45 (blkIn_new G43.new)) e48)) ?_
      intro a49 c49 w49 G49 m49 i49
      conv => whnf
      refine SemK.slice (k := .i64) (k' := .i64) (by kernel_rfl) ((hG.ext (Ext.mod_trans (Ext.trans (Ext.mod_trans (Ext.trans (Ext.trans (Ext.trans hX2 e41) e42) e43) m45 (fun k hk => Nat.le_trans (Below.size (Ext.trans (Ext.trans hX2 e41) e42)) (blkIn_new G43.new k hk))) e48) m49 (fun k hk => Nat.le_trans (Below.size (Ext.trans (Ext.trans hX2 e41) e42)) (blkIn_new G45.new k hk)))).own.arr eS_len) (0) (m3) (by omega) (by omega) (by omega) (.inr (by rfl)) (.inl ⟨rfl, rfl⟩) ?_
      intro a50 A50
      conv => whnf
      refine SemK.appendArr0 (enc := eS) mk_32 eS_len G49 A50 (by intro y _; simp [eS, cellish]) (by omega) (by omega) (Below.size (Ext.mod_trans (Ext.trans (Ext.mod_trans e43 m45 (blkIn_new G43.new)) e48) m49 (blkIn_new G45.new))) ?_
      intro a51 c51 w51 G51 m51 i51
      conv => whnf
      refine SemK.add (((k + 1 : Nat) : Int)) (by omega) (by omega) (by omega) ?_
      conv => whnf
      refine ⟨k + 1, by omega, _, _, _, o.take (0) ++ [x] ++ o.drop (0), rfl, by omega, ?_, hins, hmn, (G51.base (Below.size (Ext.trans (Ext.trans hXX e41) e42))).eq_ ?_, Ext.trans hX (Ext.mod_trans (Ext.mod_trans (Ext.trans (Ext.mod_trans (Ext.trans (Ext.trans (Ext.trans hX2 e41) e42) e43) m45 (fun k hk => Nat.le_trans (Below.size (Ext.trans (Ext.trans hX2 e41) e42)) (blkIn_new G43.new k hk))) e48) m49 (fun k hk => Nat.le_trans (Below.size (Ext.trans (Ext.trans hX2 e41) e42)) (blkIn_new G45.new k hk))) m51 (fun k hk => Nat.le_trans (Below.size (Ext.trans (Ext.trans hX2 e41) e42)) (blkIn_new G49.new k hk)))⟩
      · rw [List.length_append, List.length_append, List.length_take, List.length_drop, List.length_singleton]; omega
      · rw [← mapTxt_ins, List.take_of_length_le (l := (o.map txt).drop (0)) (by rw [List.length_drop, List.length_map]; omega)]; try rfl
    · obtain ⟨j, rfl⟩ : ∃ i, j = i + 1 := ⟨j - 1, by omega⟩
      obtain ⟨y, hy⟩ := get_of_lt (l := o) (k := j) (by omega)
      have hyt := mapTxt_get hy
      have oky := oko y (List.mem_of_getElem? hy)
      have hC := fun u => spec_l03Compare oky okx u hL
      have hne := txt_eq oky okx
      rcases Int.lt_trichotomy (cmpR y x) 0 with hlt | heq | hgt
      · have hyx : ¬ y = x := fun e => by rw [e, cmpR_refl] at hlt; omega
        have hyt2 : ¬ txt y = txt x := fun e => hyx (txt_inj oky okx e)
        have hins := asc_ins hasc (asc_before (k := j + 1) (x := x) hasc (.inr ⟨y, hy, hlt⟩)) hafter
        have hmn := mem_take_next hx hmem (o' := o.take (j + 1) ++ [x] ++ o.drop (j + 1)) (fun y => mem_ins y)
        conv => whnf
        refine DrawK.held tabok mixed [(0, true), (1, true), (2, true), (3, false), (4, false), (5, false), (6, false), (7, false), (8, false), (9, true), (10, true), (11, true), (12, true), (13, true), (14, true)] (by kernel_rfl) (by kernel_rfl) ?_
        conv => whnf
        intro w41 e41
        conv => whnf
        refine IfB.yes (by omega) ?_
        conv => whnf
        refine DSemK.sub (((j : Nat) : Int)) (by omega) (by omega) (by omega) ?_
        conv => whnf
        obtain ⟨b43, rfl⟩ := ((hG.ext hX2).own).some (by omega)
        have gb43 : w.heap.size ≤ b43 := hG.new _ rfl
        have lb43 : b43 < w2.heap.size := hG.lt _ rfl
        refine DSemK.indexOwn (sz := 1) (by kernel_rfl) j rfl (by omega) ?_
        have hb43 := Own.elem eS_len (hG.ext hX2).own hyt
        conv => whnf
        refine DSemK.load0 (by kernel_rfl) hb43 rfl ?_
        conv => whnf
        refine SemK.index (by kernel_rfl) (h.ext (Ext.trans hXX e41)) k rfl hxt ?_
        intro b45 o45 ha45 hb45
        conv => whnf
        refine ⟨e41, ?_⟩
        conv => whnf
        refine SemK.load0 (by kernel_rfl) hb45 rfl ?_
        conv => whnf
        refine ⟨e41, ?_⟩
        conv => whnf
        refine (hC _).mono ?_
        rintro _ w47 ⟨rfl, e46⟩
        conv => whnf
        refine ⟨(Ext.trans e41 e46), ?_⟩
        conv => whnf
        refine IfB.no (by omega) ?_
        conv => whnf
        refine DrawK.det tabok mixed (by kernel_rfl) (by kernel_rfl) ?_
        conv => whnf
        refine IfB.yes (by omega) ?_
        conv => whnf
        refine DSemK.sub (((j : Nat) : Int)) (by omega) (by omega) (by omega) ?_
        conv => whnf
        refine DSemK.indexOwn (sz := 1) (by kernel_rfl) j rfl (by omega) ?_
        have hb49 := Own.elem eS_len (hG.ext (Ext.trans (Ext.trans hX2 e41) e46)).own hyt
        conv => whnf
        refine DSemK.load0 (by kernel_rfl) hb49 rfl ?_
        conv => whnf
        refine DSemK.index (by kernel_rfl) (h.ext (Ext.trans (Ext.trans hXX e41) e46)) k rfl hxt ?_
        intro b51 o51 ha51 hb51
        conv => whnf
        refine DSemK.load0 (by kernel_rfl) hb51 rfl ?_
        conv => whnf
        intro w52 e52
        conv => whnf
        refine IfB.no (by omega) ?_
        conv => whnf
        refine SemK.buildSlice mk_32 (vs := []) (by rfl) (by rfl) (by simp [Value.cells]) (by decide) ?_
        intro b53 w53 g53 l53 e53 B53
        have G53 := Grow.new0 (enc := eS) eS_len B53 g53
        conv => whnf
        refine SemK.sliceTo (k' := .i64) (by kernel_rfl) ((hG.ext (Ext.trans (Ext.trans (Ext.trans (Ext.trans hX2 e41) e46) e52) e53)).own.arr eS_len) (j + 1) (by omega) (by omega) (.inr (by rfl)) ?_
        intro A54
        conv => whnf
        refine SemK.appendNew (enc := eS) mk_32 eS_len G53 A54 (by intro y _; simp [eS, cellish]) (by omega) (by omega) (Below.size e53) ?_
        intro a55 c55 w55 G55 m55 i55
        conv => whnf
        refine SemK.index (by kernel_rfl) (h.ext (Ext.mod_trans (Ext.trans (Ext.trans (Ext.trans (Ext.trans hXX e41) e46) e52) e53) m55 (fun k hk => Nat.le_trans (Below.size (Ext.trans (Ext.trans (Ext.trans hXX e41) e46) e52)) (blkIn_new G53.new k hk)))) k rfl hxt ?_
        intro b57 o57 ha57 hb57
        conv => whnf
        refine SemK.load0 (by kernel_rfl) hb57 rfl ?_
        conv => whnf
        refine SemK.buildSlice mk_32 (vs := [Value.string (txt x)]) (by rfl) (by rfl) (by simp [Value.cells]) (by decide) ?_
        intro b58 w58 g58 l58 e58 B58
        have G58 := Grow.of_blk (n := 1) (enc := eS) (xs := [txt x]) eS_len B58 g58 rfl (by decide)
        conv => whnf
        refine SemK.appendArr0 (enc := eS) mk_32 eS_len (G55.ext e58) (G58.own.arr eS_len) (by intro y _; simp [eS, cellish]) (by omega) (by omega) (Below.size (Ext.trans (Ext.mod_trans e53 m55 (blkIn_new G53.new)) e58)) ?_
        intro a59 c59 w59 G59 m59 i59
        conv => whnf
        refine SemK.slice (k := .i64) (k' := .i64) (by kernel_rfl) ((hG.ext (Ext.mod_trans (Ext.trans (Ext.mod_trans (Ext.trans (Ext.trans (Ext.trans (Ext.trans hX2 e41) e46) e52) e53) m55 (fun k hk => Nat.le_trans (Below.size (Ext.trans (Ext.trans (Ext.trans hX2 e41) e46) e52)) (blkIn_new G53.new k hk))) e58) m59 (fun k hk => Nat.le_trans (Below.size (Ext.trans (Ext.trans (Ext.trans hX2 e41) e46) e52)) (blkIn_new G55.new k hk)))).own.arr eS_len) (j + 1) (m3) (by omega) (by omega) (by omega) (.inr (by rfl)) (.inl ⟨rfl, rfl⟩) ?_
        intro a60 A60
        conv => whnf
        refine SemK.appendArr0 (enc := eS) mk_32 eS_len G59 A60 (by intro y _; simp [eS, cellish]) (by omega) (by omega) (Below.size (Ext.mod_trans (Ext.trans (Ext.mod_trans e53 m55 (blkIn_new G53.new)) e58) m59 (blkIn_new G55.new))) ?_
        intro a61 c61 w61 G61 m61 i61
        conv => whnf
        refine SemK.add (((k + 1 : Nat) : Int)) (by omega) (by omega) (by omega) ?_
        conv => whnf
        refine ⟨k + 1, by omega, _, _, _, o.take (j + 1) ++ [x] ++ o.drop (j + 1), rfl, by omega, ?_, hins, hmn, (G61.base (Below.size (Ext.trans (Ext.trans (Ext.trans hXX e41) e46) e52))).eq_ ?_, Ext.trans hX (Ext.mod_trans (Ext.mod_trans (Ext.trans (Ext.mod_trans (Ext.trans (Ext.trans (Ext.trans (Ext.trans hX2 e41) e46) e52) e53) m55 (fun k hk => Nat.le_trans (Below.size (Ext.trans (Ext.trans (Ext.trans hX2 e41) e46) e52)) (blkIn_new G53.new k hk))) e58) m59 (fun k hk => Nat.le_trans (Below.size (Ext.trans (Ext.trans (Ext.trans hX2 e41) e46) e52)) (blkIn_new G55.new k hk))) m61 (fun k hk => Nat.le_trans (Below.size (Ext.trans (Ext.trans (Ext.trans hX2 e41) e46) e52)) (blkIn_new G59.new k hk)))⟩
        · rw [List.length_append, List.length_append, List.length_take, List.length_drop, List.length_singleton]; omega
        · rw [← mapTxt_ins, List.take_of_length_le (l := (o.map txt).drop (j + 1)) (by rw [List.length_drop, List.length_map]; omega)]; try rfl
      · have hyx : y = x := cmpR_eq (by rw [oky.1, okx.1]) heq
        have hyt2 : txt y = txt x := by rw [hyx]
        have hmn : ∀ z, z ∈ o ↔ z ∈ ks.take (k + 1) := mem_take_next hx hmem (fun z => ⟨fun h => .inl h, fun h => h.elim id (fun e => by rw [e, ← hyx]; exact List.mem_of_getElem? hy)⟩)
        conv => whnf
        refine DrawK.held tabok mixed [(0, true), (1, true), (2, true), (3, false), (4, false), (5, false), (6, false), (7, false), (8, false), (9, true), (10, true), (11, true), (12, true), (13, true), (14, true)] (by kernel_rfl) (by kernel_rfl) ?_
        conv => whnf
        intro w41 e41
        conv => whnf
        refine IfB.yes (by omega) ?_
        conv => whnf
        refine DSemK.sub (((j : Nat) : Int)) (by omega) (by omega) (by omega) ?_
        conv => whnf
        obtain ⟨b43, rfl⟩ := ((hG.ext hX2).own).some (by omega)
        have gb43 : w.heap.size ≤ b43 := hG.new _ rfl
        have lb43 : b43 < w2.heap.size := hG.lt _ rfl
        refine DSemK.indexOwn (sz := 1) (by kernel_rfl) j rfl (by omega) ?_
        have hb43 := Own.elem eS_len (hG.ext hX2).own hyt
        conv => whnf
        refine DSemK.load0 (by kernel_rfl) hb43 rfl ?_
        conv => whnf
        refine SemK.index (by kernel_rfl) (h.ext (Ext.trans hXX e41)) k rfl hxt ?_
        intro b45 o45 ha45 hb45
        conv => whnf
        refine ⟨e41, ?_⟩
        conv => whnf
        refine SemK.load0 (by kernel_rfl) hb45 rfl ?_
        conv => whnf
        refine ⟨e41, ?_⟩
        conv => whnf
        refine (hC _).mono ?_
        rintro _ w47 ⟨rfl, e46⟩
        conv => whnf
        refine ⟨(Ext.trans e41 e46), ?_⟩
        conv => whnf
        refine IfB.no (by omega) ?_
        conv => whnf
        refine DrawK.det tabok mixed (by kernel_rfl) (by kernel_rfl) ?_
        conv => whnf
        refine IfB.yes (by omega) ?_
        conv => whnf
        refine DSemK.sub (((j : Nat) : Int)) (by omega) (by omega) (by omega) ?_
        conv => whnf
        refine DSemK.indexOwn (sz := 1) (by kernel_rfl) j rfl (by omega) ?_
        have hb49 := Own.elem eS_len (hG.ext (Ext.trans (Ext.trans hX2 e41) e46)).own hyt
        conv => whnf
        refine DSemK.load0 (by kernel_rfl) hb49 rfl ?_
        conv => whnf
        refine DSemK.index (by kernel_rfl) (h.ext (Ext.trans (Ext.trans hXX e41) e46)) k rfl hxt ?_
        intro b51 o51 ha51 hb51
        conv => whnf
        refine DSemK.load0 (by kernel_rfl) hb51 rfl ?_
        conv => whnf
        intro w52 e52
        conv => whnf
        refine IfB.yes (by omega) ?_
        conv => whnf
        refine SemK.add (((k + 1 : Nat) : Int)) (by omega) (by omega) (by omega) ?_
        conv => whnf
        exact ⟨k + 1, by omega, _, _, _, _, rfl, by omega, by omega, hasc, hmn, (hG.ext (Ext.trans (Ext.trans (Ext.trans hX2 e41) e46) e52)), (Ext.trans (Ext.trans (Ext.trans hXX e41) e46) e52)⟩
      · have hnext : ∀ i z, j ≤ i → o[i]? = some z → 0 < cmpR z x := fun i z hi hz => by
          by_cases e : i = j
          · subst e; rw [hy] at hz; cases hz; exact hgt
          · exact hall i z (by omega) hz
        conv => whnf
        refine DrawK.held tabok mixed [(0, true), (1, true), (2, true), (3, false), (4, false), (5, false), (6, false), (7, false), (8, false), (9, true), (10, true), (11, true), (12, true), (13, true), (14, true)] (by kernel_rfl) (by kernel_rfl) ?_
        conv => whnf
        intro w41 e41
        conv => whnf
        refine IfB.yes (by omega) ?_
        conv => whnf
        refine DSemK.sub (((j : Nat) : Int)) (by omega) (by omega) (by omega) ?_
        conv => whnf
        obtain ⟨b43, rfl⟩ := ((hG.ext hX2).own).some (by omega)
        have gb43 : w.heap.size ≤ b43 := hG.new _ rfl
        have lb43 : b43 < w2.heap.size := hG.lt _ rfl
        refine DSemK.indexOwn (sz := 1) (by kernel_rfl) j rfl (by omega) ?_
        have hb43 := Own.elem eS_len (hG.ext hX2).own hyt
        conv => whnf
        refine DSemK.load0 (by kernel_rfl) hb43 rfl ?_
        conv => whnf
        refine SemK.index (by kernel_rfl) (h.ext (Ext.trans hXX e41)) k rfl hxt ?_
        intro b45 o45 ha45 hb45
        conv => whnf
        refine ⟨e41, ?_⟩
        conv => whnf
        refine SemK.load0 (by kernel_rfl) hb45 rfl ?_
        conv => whnf
        refine ⟨e41, ?_⟩
        conv => whnf
        refine (hC _).mono ?_
        rintro _ w47 ⟨rfl, e46⟩
        conv => whnf
        refine ⟨(Ext.trans e41 e46), ?_⟩
        conv => whnf
        refine IfB.yes (by omega) ?_
        conv => whnf
        refine SemK.sub (((j : Nat) : Int)) (by omega) (by omega) (by omega) ?_
        conv => whnf
        exact ⟨j, by omega, rfl, by omega, hnext, Ext.trans (Ext.trans hX2 e41) e46⟩
  · obtain rfl : k = n := by omega
    rw [List.take_of_length_le (by omega)] at hmem
    have htx := texts_is hasc hmem
    rw [htx] at hG
    conv => whnf
    refine IfB.no (by omega) ?_
    conv => whnf
    exact ⟨_, _, _, rfl, hG.new, hG.own, hX⟩
theorem spec_CountTexts {w : World} {a : Option Addr} {n c : Nat} {xs : List (List Int)} (h : ArrS RCard w a n xs) (f : TField) :
    Does Tryz.prog 13 [.slice a n c, .agg ⟨f.enc⟩] w (fun v w' => ∃ a' n' c', v = .tuple #[.slice a' n' c', .int .i64 (countTextsM xs f).2] ∧ NewAt w.heap.size a' ∧ Own TTotal.enc w' a' n' 51 (countTextsM xs f).1 ∧ Ext w w') := by
  have hn := h.len
  have hK := fun u (e : Ext w u) => spec_l24Keys (c := c) (h.ext e) f
  rcases keys_cases xs f with ⟨cd, hk, hcd⟩ | ⟨hd, hf, hh, hk⟩
  · have hcd0 : ¬ cd = 0 := by omega
    rw [hk] at hK
    rw [countTexts_bad hk hcd0]
    refine Does.of_vc tabok Tryz.func13 rfl rfl rfl (by kernel_rfl) ?_; conv => whnf
    refine SemK.box ?_
    intro b1 w1 g1 l1 e1 B1
    conv => whnf
    refine SemK.loadAgg (n := 2) (by kernel_rfl) B1.cells rfl ?_
    conv => whnf
    refine (hK _ e1).mono ?_
    rintro _ w8 ⟨a'2, n'3, c'4, rfl, N5, O6, e7⟩
    conv => whnf
    refine IfB.eqt (by simp [*]; done) ?_
    conv => whnf
    exact ⟨_, _, _, rfl, NewAt.nil, Own.nil, (Ext.trans e1 e7)⟩
  · rw [hk] at hK
    rw [countTexts_good hk]
    have hok := ckey_ok hd hf hh
    have h40 := (deckB_mem hd).1
    have htl := texts_len hd hf
    have htm := texts_mem hd hf
    have htot := totals_length (xs.map (ckey f))
    have hfb := fieldB_b hf
    have hwb := widthOf_b hd
    have hfl : fLen f ≤ 1000 := by unfold fLen; omega
    have hKl : (xs.map (ckey f)).length = n := by rw [List.length_map]; exact hn
    generalize hKK : xs.map (ckey f) = K at *
    have hT := fun u a n' c (hA : Arr eS 1 u a n' (K.map txt)) => spec_l24Texts (c := c) hA hok hfl (by have := hA.len; rw [List.length_map] at this; omega)
    refine Does.of_vc tabok Tryz.func13 rfl rfl rfl (by kernel_rfl) ?_; conv => whnf
    refine SemK.box ?_
    intro b41 w41 g41 l41 e41 B41
    conv => whnf
    refine SemK.loadAgg (n := 2) (by kernel_rfl) B41.cells rfl ?_
    conv => whnf
    refine (hK _ e41).mono ?_
    rintro _ w48 ⟨a'42, n'43, c'44, rfl, N45, O46, e47⟩
    conv => whnf
    refine (hT _ _ _ _ (O46.arr eS_len)).mono ?_
    rintro _ w55 ⟨a'49, m50, c'51, rfl, N52, O53, e54⟩
    conv => whnf
    refine SemK.buildSlice mk_37 (vs := []) (by rfl) (by rfl) (by simp [Value.cells]) (by decide) ?_
    intro b56 w56 g56 l56 e56 B56
    have G56 := Grow.new0 (enc := TTotal.enc) TTotal.enc_len B56 g56
    conv => whnf
    have X0 : Ext w w55 := Ext.trans (Ext.trans e41 e47) e54
    have hA0 := (O46.ext e54).arr eS_len
    have hA1 := O53.arr eS_len
    have hl0 : K.length = n'43 := by
      have := O46.1
      rw [List.length_map] at this
      exact this
    have hl1 := O53.1
    rw [List.length_map] at hl1
    refine LoopK.rule [6, 8, 9, 10] (fun (k : Nat) vs w' => ∃ a3 c3, vs = [.slice a'42 n'43 c'44, .slice a'49 m50 c'51, .slice a3 k c3, .int .i64 k] ∧ k ≤ m50 ∧ Grow TTotal.enc 2 w55.heap.size 51 w' a3 k c3 ((totalsM K).take k) ∧ Ext w55 w') (fun k => m50 - k) tab tabok (by kernel_rfl) 0 ⟨_, _, rfl, by omega, G56, e56⟩ ?_
    rintro k g _ w2 ⟨a3, c3, rfl, hk2, hG, hX2⟩
    have hX := Ext.trans X0 hX2
    rcases Nat.lt_or_ge k m50 with hkn | hkn
    · obtain ⟨t, ht⟩ := get_of_lt (l := textsM K) (k := k) (by omega)
      have htt := mapTxt_get ht
      have okt := hok t ((htm t).1 (List.mem_of_getElem? ht))
      have hst := totals_get ht
      have hcl := cntM_le K t
      conv => whnf
      refine IfB.yes (by omega) ?_
      conv => whnf
      refine LoopK.rule [6, 8, 9, 10, 11, 12] (fun (j : Nat) vs w' => vs = [.slice a'42 n'43 c'44, .slice a'49 m50 c'51, .slice a3 k c3, .int .i64 k, .int .i64 ((cntM (K.take j) t : Nat) : Int), .int .i64 j] ∧ j ≤ n'43 ∧ Ext w2 w') (fun j => n'43 - j) tab tabok (by kernel_rfl) 0 ⟨rfl, by omega, Ext.refl _⟩ ?_
      rintro j g2 _ w3 ⟨rfl, hj, hX3⟩
      have hXX := Ext.trans hX2 hX3
      have hcj := cnt_take_le K j t
      rcases Nat.lt_or_ge j n'43 with hjn | hjn
      · obtain ⟨x, hx⟩ := get_of_lt (l := K) (k := j) (by omega)
        have hxt := mapTxt_get hx
        have okx := hok x (List.mem_of_getElem? hx)
        by_cases hxe : x = t
        · have hte : txt x = txt t := by rw [hxe]
          have hcs := cnt_yes hx hxe
          conv => whnf
          refine IfB.yes (by omega) ?_
          conv => whnf
          refine DrawK.det tabok mixed (by kernel_rfl) (by kernel_rfl) ?_
          conv => whnf
          obtain ⟨b58, rfl⟩ := ((O46.ext (Ext.trans e54 hXX))).some (by omega)
          have lb58 : b58 < w48.heap.size := O46.lt _ rfl
          refine DSemK.indexOwn (sz := 1) (by kernel_rfl) j rfl (by omega) ?_
          have hb58 := Own.elem eS_len (O46.ext (Ext.trans e54 hXX)) hxt
          conv => whnf
          refine DSemK.load0 (by kernel_rfl) hb58 rfl ?_
          conv => whnf
          obtain ⟨b60, rfl⟩ := ((O53.ext hXX)).some (by omega)
          have lb60 : b60 < w55.heap.size := O53.lt _ rfl
          refine DSemK.indexOwn (sz := 1) (by kernel_rfl) k rfl (by omega) ?_
          have hb60 := Own.elem eS_len (O53.ext hXX) htt
          conv => whnf
          refine DSemK.load0 (by kernel_rfl) hb60 rfl ?_
          conv => whnf
          intro w61 e61
          conv => whnf
          refine IfB.yes (by omega) ?_
          conv => whnf
          refine SemK.add _ hcs.symm (by omega) (by omega) ?_
          conv => whnf
          refine SemK.add (((j + 1 : Nat) : Int)) (by omega) (by omega) (by omega) ?_
          conv => whnf
          exact ⟨j + 1, by omega, rfl, by omega, Ext.trans hX3 e61⟩
        · have hte : ¬ txt x = txt t := fun e => hxe (txt_inj okx okt e)
          have hcs := cnt_no hx hxe
          conv => whnf
          refine IfB.yes (by omega) ?_
          conv => whnf
          refine DrawK.det tabok mixed (by kernel_rfl) (by kernel_rfl) ?_
          conv => whnf
          obtain ⟨b58, rfl⟩ := ((O46.ext (Ext.trans e54 hXX))).some (by omega)
          have lb58 : b58 < w48.heap.size := O46.lt _ rfl
          refine DSemK.indexOwn (sz := 1) (by kernel_rfl) j rfl (by omega) ?_
          have hb58 := Own.elem eS_len (O46.ext (Ext.trans e54 hXX)) hxt
          conv => whnf
          refine DSemK.load0 (by kernel_rfl) hb58 rfl ?_
          conv => whnf
          obtain ⟨b60, rfl⟩ := ((O53.ext hXX)).some (by omega)
          have lb60 : b60 < w55.heap.size := O53.lt _ rfl
          refine DSemK.indexOwn (sz := 1) (by kernel_rfl) k rfl (by omega) ?_
          have hb60 := Own.elem eS_len (O53.ext hXX) htt
          conv => whnf
          refine DSemK.load0 (by kernel_rfl) hb60 rfl ?_
          conv => whnf
          intro w61 e61
          conv => whnf
          refine IfB.no (by omega) ?_
          conv => whnf
          refine SemK.add (((j + 1 : Nat) : Int)) (by omega) (by omega) (by omega) ?_
          conv => whnf
          rw [← hcs]
          exact ⟨j + 1, by omega, rfl, by omega, Ext.trans hX3 e61⟩
      · rw [List.take_of_length_le (by omega)]
        conv => whnf
        refine IfB.no (by omega) ?_
        conv => whnf
        obtain ⟨b58, rfl⟩ := ((O53.ext hXX)).some (by omega)
        have lb58 : b58 < w55.heap.size := O53.lt _ rfl
        refine SemK.indexOwn (sz := 1) (by kernel_rfl) k rfl (by omega) ?_
        have hb58 := Own.elem eS_len (O53.ext hXX) htt
        conv => whnf
        refine SemK.load0 (by kernel_rfl) hb58 rfl ?_
        conv => whnf
        refine SemK.build st_51 rfl ?_
        conv => whnf
        refine SemK.buildSlice mk_37 (vs := [Value.agg #[Value.string (txt t), Value.int IntKind.i64 ↑(cntM K t)]]) (by rfl) (by rfl) (by simp [Value.cells]) (by decide) ?_
        intro b59 w59 g59 l59 e59 B59
        have G59 := Grow.of_blk (n := 1) (enc := TTotal.enc) (xs := [⟨txt t, ↑(cntM K t)⟩]) TTotal.enc_len B59 g59 rfl (by decide)
        conv => whnf
        refine SemK.appendArr0 (enc := TTotal.enc) mk_37 TTotal.enc_len (hG.ext (Ext.trans hX3 e59)) (G59.own.arr TTotal.enc_len) (by intro y _; simp [TTotal.enc, cellish]) (by omega) (by omega) (Below.size (Ext.trans hXX e59)) ?_
        intro a60 c60 w60 G60 m60 i60
        conv => whnf
        refine SemK.add (((k + 1 : Nat) : Int)) (by omega) (by omega) (by omega) ?_
        conv => whnf
        refine ⟨k + 1, by omega, _, _, rfl, by omega, ?_, (Ext.mod_trans (Ext.trans hXX e59) m60 (blkIn_new hG.new))⟩
        · rw [hst]; exact G60
    · obtain rfl : k = m50 := by omega
      rw [List.take_of_length_le (by omega)] at hG
      conv => whnf
      refine IfB.no (by omega) ?_
      conv => whnf
      exact ⟨_, _, _, rfl, (hG.new.mono (Below.size X0)), hG.own, hX⟩
theorem impl_CountTexts {w : World} {a : Option Addr} {n c : Nat} {xs : List (List Int)} (h : ArrS RCard w a n xs) (f : TField) :
    Does Tryz.prog 12 [.slice a n c, .agg ⟨f.enc⟩] w (fun v w' => ∃ a' n' c', v = .tuple #[.slice a' n' c', .int .i64 (countTextsM xs f).2] ∧ NewAt w.heap.size a' ∧ Own TTotal.enc w' a' n' 51 (countTextsM xs f).1 ∧ Ext w w') := by
  have hn := h.len
  have hK := fun u (e : Ext w u) => impl_sortCode (c := c) (h.ext e) f
  rcases keys_cases xs f with ⟨cd, hk, hcd⟩ | ⟨hd, hf, hh, hk⟩
  · have hcd0 : ¬ cd = 0 := by omega
    rw [hk] at hK
    rw [countTexts_bad hk hcd0]
    refine Does.of_vc tabok Tryz.func12 rfl rfl rfl (by kernel_rfl) ?_; conv => whnf
    refine SemK.box ?_
    intro b1 w1 g1 l1 e1 B1
    conv => whnf
    refine SemK.loadAgg (n := 2) (by kernel_rfl) B1.cells rfl ?_
    conv => whnf
    refine (hK _ e1).mono ?_
    rintro _ w3 ⟨rfl, e2⟩
    conv => whnf
    refine IfB.eqt (by simp [*]; done) ?_
    conv => whnf
    exact ⟨_, _, _, rfl, NewAt.nil, Own.nil, (Ext.trans e1 e2)⟩
  · rw [hk] at hK
    rw [countTexts_good hk]
    have hm := h.le
    have hdm := deckB_mem hd
    have h40 := hdm.1
    have hsp := sd_perm xs f
    have hsl := sd_len xs f
    have hsf : ∀ x ∈ sdM xs f, fieldB f x.length = true ∧ x.length ≤ 20 ∧ hasB (partOf x f) = true := fun x hx => by
      have hx2 := hsp.subset hx
      have h1 := hdm.2 x hx2
      exact ⟨by rw [h1.2]; exact hf, (cardB_b h1.1).2.1, List.all_eq_true.1 hh x hx2⟩
    have hS : ∀ u, Ext w u → Does Tryz.prog 53 [.slice a n c, .agg ⟨f.enc⟩] u (fun v w' => ∃ a' c', v = .slice a' n c' ∧ n ≤ c' ∧ OwnN OCard w' u.heap.size w'.heap.size a' n 85 (sdM xs f) ∧ Ext u w') := fun u e => impl_sortedBy (h.ext e) hd hf
    have hGr : ∀ u a' c', n ≤ c' → ArrS RCard u a' n (sdM xs f) → Does Tryz.prog 52 [.slice a' n c', .agg ⟨f.enc⟩] u (fun v w' => ∃ a2 m c2, v = .slice a2 m c2 ∧ (∀ u', Mod (fun j => ¬ Iv u.heap.size w'.heap.size j) w' u' → ArrS RCard u' a' n (sdM xs f) → ArrS RDeck u' a2 m (groupsM (sdM xs f) f)) ∧ Ext u w') := fun u a' c' h1 h2 => impl_groups h2 (fun x hx => (hsf x hx).1) (by omega) h1
    have hfirst := sd_firsts hd hf
    have hgl := groups_len (sdM xs f) f
    generalize hSK : starts (sdK xs f) = ss at hfirst
    have hSK2 : starts ((sdM xs f).map (ckey f)) = ss := hSK
    rw [hSK2] at hgl
    refine Does.of_vc tabok Tryz.func12 rfl rfl rfl (by kernel_rfl) ?_; conv => whnf
    refine SemK.box ?_
    intro b41 w41 g41 l41 e41 B41
    conv => whnf
    refine SemK.loadAgg (n := 2) (by kernel_rfl) B41.cells rfl ?_
    conv => whnf
    refine (hK _ e41).mono ?_
    rintro _ w43 ⟨rfl, e42⟩
    conv => whnf
    refine SemK.buildSlice mk_37 (vs := []) (by rfl) (by rfl) (by simp [Value.cells]) (by decide) ?_
    intro b44 w44 g44 l44 e44 B44
    have G44 := Grow.new0 (enc := TTotal.enc) TTotal.enc_len B44 g44
    conv => whnf
    refine DrawK.held tabok mixed [(0, false), (1, false), (3, false), (6, false), (2, true), (4, true), (5, true)] (by kernel_rfl) (by kernel_rfl) ?_
    conv => whnf
    intro w45 e45
    conv => whnf
    refine DSemK.loadAgg (n := 2) (by kernel_rfl) (B41.ext (Ext.trans e42 e44)).cells rfl ?_
    conv => whnf
    refine DSemK.loadAgg (n := 2) (by kernel_rfl) (B41.ext (Ext.trans e42 e44)).cells rfl ?_
    conv => whnf
    refine (hS _ (Ext.trans (Ext.trans (Ext.trans e41 e42) e44) e45)).mono ?_
    rintro _ w51 ⟨a'46, c'47, rfl, q48, O49, e50⟩
    conv => whnf
    refine ⟨(Ext.trans e45 e50), ?_⟩
    conv => whnf
    refine (hGr _ _ _ q48 O49.arr).mono ?_
    rintro _ w57 ⟨a252, m53, c254, rfl, q55, e56⟩
    conv => whnf
    refine ⟨(Ext.trans (Ext.trans e45 e50) e56), ?_⟩
    conv => whnf
    refine ⟨(Ext.trans (Ext.trans e45 e50) e56), ?_⟩
    conv => whnf
    have X55 : Ext w41 w57 := Ext.trans (Ext.trans (Ext.trans (Ext.trans e42 e44) e45) e50) e56
    have hcnt := fun (k s : Nat) => sd_count (k := k) (s := s) hd hf
    rw [hSK] at hcnt
    have htot : totalsM (xs.map (ckey f)) = ss.map fun s => ⟨txt ((sdK xs f).getD s []), ((cntM (xs.map (ckey f)) ((sdK xs f).getD s []) : Nat) : Int)⟩ := by
      unfold totalsM
      rw [← hfirst, List.map_map]
      rfl
    rw [htot]
    have z42 := e42.size
    have z44 := e44.size
    have z45 := e45.size
    have z50 := e50.size
    have z56 := e56.size
    have hml : m53 = ss.length := by
      have := (q55 w57 (Vc.Mod.refl _ _) (O49.ext e56).arr).len
      omega
    refine LoopK.rule [3, 7, 21, 22, 23] (fun (k : Nat) vs w' => ∃ a3 c3, vs = [.pointer (some ⟨b41, 0, none⟩), .slice a3 k c3, .slice a252 m53 c254, .int .i64 m53, .int .i64 k] ∧ k ≤ m53 ∧ Grow TTotal.enc 2 w41.heap.size 51 w' a3 k c3 ((ss.take k).map fun s => ⟨txt ((sdK xs f).getD s []), ((cntM (xs.map (ckey f)) ((sdK xs f).getD s []) : Nat) : Int)⟩) ∧ (∀ j, blkIn a3 j → j < w44.heap.size ∨ w57.heap.size ≤ j) ∧ Mod (fun j => ¬ Iv w44.heap.size w57.heap.size j) w57 w' ∧ Ext w41 w') (fun k => m53 - k) tab tabok (by kernel_rfl) 0 ⟨_, _, rfl, by omega, (G44.ext (Ext.trans (Ext.trans e45 e50) e56)).base z42, ?_, Vc.Mod.refl _ _, X55⟩ ?_
    · rintro j ⟨x, hx, he⟩
      cases hx
      have he : j = b44 := he
      omega
    have hssl : ss.length ≤ 40 := by
      have h1 := startsI_len ((sdM xs f).map (ckey f)) n
      rw [startsI_length] at h1
      have h2 : starts ((sdM xs f).map (ckey f)) = startsN ((sdM xs f).map (ckey f)) n := by
        unfold starts
        rw [List.length_map, hsl, hn]
      rw [← h2, hSK2] at h1
      omega
    rintro k g _ w11 ⟨a3, c3, rfl, hk, hG, hj3, M, hX⟩
    have hXw := Ext.trans e41 hX
    rcases Nat.lt_or_ge k m53 with hkn | hkn
    · obtain ⟨s, hs⟩ := get_of_lt (l := ss) (k := k) (by omega)
      have hsz : (sdM xs f).length = n := by omega
      have hga := groups_at (d := sdM xs f) (f := f) (k := k) (s := s) (by rw [hSK2]; exact hs)
      have hse := sd_end (d := xs) (f := f) (k := k) (s := s) (by rw [hSK]; exact hs)
      have hcs := hcnt k s hs
      rw [hSK2, hsz] at hga
      rw [hSK, hn] at hse
      rw [hn] at hcs
      obtain ⟨y, hy⟩ := get_of_lt (l := sdM xs f) (k := s) (by omega)
      have hgh := group_head (m := endAt ss n k - s) hy (by omega)
      have hyf := hsf y (List.mem_of_getElem? hy)
      have hgd : (sdK xs f).getD s [] = ckey f y := getD_map hy
      obtain ⟨gs, hVg, hEg⟩ := q55 w11 (M.mono (fun j hj hk => hj ⟨by have := hk.1; omega, hk.2⟩)) (((O49.ext e56).mod M (fun j h1 h2 hk => hk ⟨by omega, by omega⟩)).arr)
      have hVl := hVg.len
      obtain ⟨d, hd1⟩ := get_of_lt (l := gs) (k := k) (by omega)
      have R := hEg.2 k d _ hd1 hga
      obtain ⟨hs2, hV2, hE2⟩ := R.1
      have hl2 := hV2.len
      have hn2 := hE2.1
      have hgl2 := (List.getElem?_eq_some_iff.1 hgh).1
      have hdn : d.n = endAt ss n k - s := by
        have h3 := hE2.1
        rw [List.length_take, List.length_drop, hsz] at h3
        omega
      have hnt : ((ss.take (k + 1)).map fun s => (⟨txt ((sdK xs f).getD s []), ((cntM (xs.map (ckey f)) ((sdK xs f).getD s []) : Nat) : Int)⟩ : TTotal)) = ((ss.take k).map fun s => (⟨txt ((sdK xs f).getD s []), ((cntM (xs.map (ckey f)) ((sdK xs f).getD s []) : Nat) : Int)⟩ : TTotal)) ++ [⟨txt (ckey f y), (d.n : Int)⟩] := by
        rw [List.take_add_one, hs, hdn, ← hcs, ← hgd]
        simp
      obtain ⟨d2, hd2⟩ := get_of_lt (l := hs2) (k := 0) (by omega)
      have R2 := hE2.2 0 d2 y hd2 hgh
      have hF : ∀ u, Ext w11 u → Does Tryz.prog 47 [.agg ⟨eH d2⟩, .agg ⟨f.enc⟩] u (fun v w' => v = .string (txt (ckey f y)) ∧ Ext u w') := fun u e => impl_fieldText ⟨R2.1.ext e, R2.2⟩ hyf.1 hyf.2.1 hyf.2.2
      conv => whnf
      refine IfB.yes (by omega) ?_
      conv => whnf
      refine SemK.index (by kernel_rfl) hVg k rfl hd1 ?_
      intro b256 o256 ha256 hb256
      conv => whnf
      refine SemK.load0 (by kernel_rfl) hb256 rfl ?_
      conv => whnf
      refine DrawK.writes tabok mixed [(0, .any), (1, .any), (2, .any), (6, .any), (3, .held), (4, .held), (5, .run), (7, .run), (8, .held), (9, .run), (10, .write), (11, .any)] (by kernel_rfl) (by kernel_rfl) ?_
      conv => whnf
      intro w257 e257
      conv => whnf
      refine PSemK.index (by kernel_rfl) hV2 0 rfl hd2 ?_
      intro b259 o259 ha259 hb259
      conv => whnf
      refine DSemK.loadAgg (n := 1) (by kernel_rfl) hb259 rfl ?_
      conv => whnf
      refine DSemK.loadAgg (n := 2) (by kernel_rfl) (B41.ext hX).cells rfl ?_
      conv => whnf
      refine (hF _ e257).mono ?_
      rintro _ w261 ⟨rfl, e260⟩
      conv => whnf
      refine ⟨(Ext.trans e257 e260), ?_⟩
      conv => whnf
      refine (impl_sizeCard _ _ _ _).mono ?_
      rintro _ _ ⟨rfl, rfl⟩
      conv => whnf
      refine ⟨(Ext.trans e257 e260), ?_⟩
      conv => whnf
      refine DSemK.of (fun _ _ => SemK.build st_51 rfl ⟨rfl, rfl⟩) ?_
      conv => whnf
      refine SemK.buildSlice mk_37 (vs := [Value.agg #[Value.string (txt (ckey f y)), Value.int IntKind.i64 ↑d.n]]) (by rfl) (by rfl) (by simp [Value.cells]) (by decide) ?_
      intro b262 w262 g262 l262 e262 B262
      have G262 := Grow.of_blk (n := 1) (enc := TTotal.enc) (xs := [⟨txt (ckey f y), ↑d.n⟩]) TTotal.enc_len B262 g262 rfl (by decide)
      conv => whnf
      refine ⟨(Ext.trans (Ext.trans e257 e260) e262), ?_⟩
      conv => whnf
      refine SemK.appendArr0 (enc := TTotal.enc) mk_37 TTotal.enc_len (hG.ext (Ext.trans (Ext.trans e257 e260) e262)) (G262.own.arr TTotal.enc_len) (by intro y _; simp [TTotal.enc, cellish]) (by omega) (by omega) (Below.size (Ext.trans (Ext.trans (Ext.trans hX e257) e260) e262)) ?_
      intro a263 c263 w263 G263 m263 i263
      conv => whnf
      refine SemK.add (((k + 1 : Nat) : Int)) (by omega) (by omega) (by omega) ?_
      conv => whnf
      refine ⟨k + 1, by omega, _, _, rfl, by omega, ?_, ?_, ?_, (Ext.mod_trans (Ext.trans (Ext.trans (Ext.trans hX e257) e260) e262) m263 (blkIn_new hG.new))⟩
      · rw [hnt]; exact G263
      · intro j hj
        rcases i263 j hj with h1 | h1
        · exact hj3 j h1
        · have := M.size
          have := e257.size
          have := e260.size
          have := e262.size
          omega
      · refine M.trans ((Ext.mod (Ext.trans (Ext.trans e257 e260) e262)).trans (m263.mono fun j hj hk => ?_))
        have := hj3 j hj
        have := hk.1
        have := hk.2
        omega
    · obtain rfl : k = m53 := by omega
      rw [List.take_of_length_le (by omega)] at hG
      conv => whnf
      refine IfB.no (by omega) ?_
      conv => whnf
      exact ⟨_, _, _, rfl, (hG.new.mono (Below.size e41)), hG.own, hXw⟩
theorem spec_l24Two {w : World} {a : Option Addr} {n c : Nat} {xs : List (List Int)} (h : ArrS RCard w a n xs) (r f : TField) :
    Does Tryz.prog 48 [.slice a n c, .agg ⟨r.enc⟩, .agg ⟨f.enc⟩] w (fun v w' => ∃ a1 n1 c1 a2 n2 c2, v = .tuple #[.slice a1 n1 c1, .slice a2 n2 c2, .int .i64 (twoM xs r f)] ∧ NewAt w.heap.size a1 ∧ NewAt w.heap.size a2
      ∧ (twoM xs r f = 0 → Own eS w' a1 n1 9 ((xs.map (ckey r)).map txt) ∧ Own eS w' a2 n2 9 ((xs.map (ckey f)).map txt)) ∧ Ext w w') := by
  have hn := h.len
  have hK1 := fun u (e : Ext w u) => spec_l24Keys (c := c) (h.ext e) r
  have hK2 := fun u (e : Ext w u) => spec_l24Keys (c := c) (h.ext e) f
  rcases two_cases xs r f with ⟨hd, ht⟩ | ⟨hd, hor, ht⟩ | ⟨hd, hf1, hf2, hor, ht⟩ | ⟨hd, hf1, hf2, hh1, hh2, ht⟩
  · rw [ht]
    refine Does.of_vc tabok Tryz.func48 rfl rfl rfl (by kernel_rfl) ?_; conv => whnf
    refine SemK.box ?_
    intro b3 w3 g3 l3 e3 B3
    conv => whnf
    refine SemK.box ?_
    intro b4 w4 g4 l4 e4 B4
    conv => whnf
    refine (spec_l02Deck (h.ext (Ext.trans e3 e4))).mono ?_
    rintro _ w6 ⟨rfl, e5⟩
    conv => whnf
    refine IfB.eqt (by simp [*]; done) ?_
    conv => whnf
    exact ⟨_, _, _, _, _, _, rfl, NewAt.nil, NewAt.nil, by omega, (Ext.trans (Ext.trans e3 e4) e5)⟩
  · rw [ht]
    rcases hor with hf1 | ⟨hf1, hf2⟩
    · refine Does.of_vc tabok Tryz.func48 rfl rfl rfl (by kernel_rfl) ?_; conv => whnf
      refine SemK.box ?_
      intro b3 w3 g3 l3 e3 B3
      conv => whnf
      refine SemK.box ?_
      intro b4 w4 g4 l4 e4 B4
      conv => whnf
      refine (spec_l02Deck (h.ext (Ext.trans e3 e4))).mono ?_
      rintro _ w6 ⟨rfl, e5⟩
      conv => whnf
      refine IfB.eqf (by simp [*]; done) ?_
      conv => whnf
      refine DrawK.held tabok mixed [(0, false), (1, true), (2, true), (3, true), (4, true), (5, true), (6, false), (7, true), (8, true), (9, true), (10, true), (11, true)] (by kernel_rfl) (by kernel_rfl) ?_
      conv => whnf
      intro w7 e7
      conv => whnf
      refine DSemK.loadAgg (n := 2) (by kernel_rfl) (B3.ext (Ext.trans e4 e5)).cells rfl ?_
      conv => whnf
      refine (spec_l07Width (h.ext (Ext.trans (Ext.trans (Ext.trans e3 e4) e5) e7))).mono ?_
      rintro _ w9 ⟨rfl, e8⟩
      conv => whnf
      refine ⟨(Ext.trans e7 e8), ?_⟩
      conv => whnf
      refine (spec_l02Field _ _ _).mono ?_
      rintro _ w11 ⟨rfl, e10⟩
      conv => whnf
      refine ⟨(Ext.trans (Ext.trans e7 e8) e10), ?_⟩
      conv => whnf
      refine IfB.eqt (by simp [*]; done) ?_
      conv => whnf
      exact ⟨_, _, _, _, _, _, rfl, NewAt.nil, NewAt.nil, by omega, (Ext.trans (Ext.trans (Ext.trans (Ext.trans (Ext.trans e3 e4) e5) e7) e8) e10)⟩
    · refine Does.of_vc tabok Tryz.func48 rfl rfl rfl (by kernel_rfl) ?_; conv => whnf
      refine SemK.box ?_
      intro b3 w3 g3 l3 e3 B3
      conv => whnf
      refine SemK.box ?_
      intro b4 w4 g4 l4 e4 B4
      conv => whnf
      refine (spec_l02Deck (h.ext (Ext.trans e3 e4))).mono ?_
      rintro _ w6 ⟨rfl, e5⟩
      conv => whnf
      refine IfB.eqf (by simp [*]; done) ?_
      conv => whnf
      refine DrawK.held tabok mixed [(0, false), (1, true), (2, true), (3, true), (4, true), (5, true), (6, false), (7, true), (8, true), (9, true), (10, true), (11, true)] (by kernel_rfl) (by kernel_rfl) ?_
      conv => whnf
      intro w7 e7
      conv => whnf
      refine DSemK.loadAgg (n := 2) (by kernel_rfl) (B3.ext (Ext.trans e4 e5)).cells rfl ?_
      conv => whnf
      refine (spec_l07Width (h.ext (Ext.trans (Ext.trans (Ext.trans e3 e4) e5) e7))).mono ?_
      rintro _ w9 ⟨rfl, e8⟩
      conv => whnf
      refine ⟨(Ext.trans e7 e8), ?_⟩
      conv => whnf
      refine (spec_l02Field _ _ _).mono ?_
      rintro _ w11 ⟨rfl, e10⟩
      conv => whnf
      refine ⟨(Ext.trans (Ext.trans e7 e8) e10), ?_⟩
      conv => whnf
      refine IfB.eqf (by simp [*]; done) ?_
      conv => whnf
      refine DSemK.loadAgg (n := 2) (by kernel_rfl) (B4.ext e5).cells rfl ?_
      conv => whnf
      refine (spec_l07Width (h.ext (Ext.trans (Ext.trans (Ext.trans (Ext.trans (Ext.trans e3 e4) e5) e7) e8) e10))).mono ?_
      rintro _ w13 ⟨rfl, e12⟩
      conv => whnf
      refine ⟨(Ext.trans (Ext.trans (Ext.trans e7 e8) e10) e12), ?_⟩
      conv => whnf
      refine (spec_l02Field _ _ _).mono ?_
      rintro _ w15 ⟨rfl, e14⟩
      conv => whnf
      refine ⟨(Ext.trans (Ext.trans (Ext.trans (Ext.trans e7 e8) e10) e12) e14), ?_⟩
      conv => whnf
      refine IfB.eqt (by simp [*]; done) ?_
      conv => whnf
      exact ⟨_, _, _, _, _, _, rfl, NewAt.nil, NewAt.nil, by omega, (Ext.trans (Ext.trans (Ext.trans (Ext.trans (Ext.trans (Ext.trans (Ext.trans e3 e4) e5) e7) e8) e10) e12) e14)⟩
  · rw [ht]
    rcases hor with hh1 | ⟨hh1, hh2⟩
    · have hk1 : keysM xs r = ([], 8) := by
        unfold keysM
        rw [if_neg (by simp [hd]), if_neg (by simp [hf1]), if_pos hh1]
      rw [hk1] at hK1
      refine Does.of_vc tabok Tryz.func48 rfl rfl rfl (by kernel_rfl) ?_; conv => whnf
      refine SemK.box ?_
      intro b3 w3 g3 l3 e3 B3
      conv => whnf
      refine SemK.box ?_
      intro b4 w4 g4 l4 e4 B4
      conv => whnf
      refine (spec_l02Deck (h.ext (Ext.trans e3 e4))).mono ?_
      rintro _ w6 ⟨rfl, e5⟩
      conv => whnf
      refine IfB.eqf (by simp [*]; done) ?_
      conv => whnf
      refine DrawK.held tabok mixed [(0, false), (1, true), (2, true), (3, true), (4, true), (5, true), (6, false), (7, true), (8, true), (9, true), (10, true), (11, true)] (by kernel_rfl) (by kernel_rfl) ?_
      conv => whnf
      intro w7 e7
      conv => whnf
      refine DSemK.loadAgg (n := 2) (by kernel_rfl) (B3.ext (Ext.trans e4 e5)).cells rfl ?_
      conv => whnf
      refine (spec_l07Width (h.ext (Ext.trans (Ext.trans (Ext.trans e3 e4) e5) e7))).mono ?_
      rintro _ w9 ⟨rfl, e8⟩
      conv => whnf
      refine ⟨(Ext.trans e7 e8), ?_⟩
      conv => whnf
      refine (spec_l02Field _ _ _).mono ?_
      rintro _ w11 ⟨rfl, e10⟩
      conv => whnf
      refine ⟨(Ext.trans (Ext.trans e7 e8) e10), ?_⟩
      conv => whnf
      refine IfB.eqf (by simp [*]; done) ?_
      conv => whnf
      refine DSemK.loadAgg (n := 2) (by kernel_rfl) (B4.ext e5).cells rfl ?_
      conv => whnf
      refine (spec_l07Width (h.ext (Ext.trans (Ext.trans (Ext.trans (Ext.trans (Ext.trans e3 e4) e5) e7) e8) e10))).mono ?_
      rintro _ w13 ⟨rfl, e12⟩
      conv => whnf
      refine ⟨(Ext.trans (Ext.trans (Ext.trans e7 e8) e10) e12), ?_⟩
      conv => whnf
      refine (spec_l02Field _ _ _).mono ?_
      rintro _ w15 ⟨rfl, e14⟩
      conv => whnf
      refine ⟨(Ext.trans (Ext.trans (Ext.trans (Ext.trans e7 e8) e10) e12) e14), ?_⟩
      conv => whnf
      refine IfB.eqf (by simp [*]; done) ?_
      conv => whnf
      refine SemK.loadAgg (n := 2) (by kernel_rfl) (B3.ext (Ext.trans (Ext.trans (Ext.trans (Ext.trans (Ext.trans (Ext.trans e4 e5) e7) e8) e10) e12) e14)).cells rfl ?_
      conv => whnf
      refine (hK1 _ (Ext.trans (Ext.trans (Ext.trans (Ext.trans (Ext.trans (Ext.trans (Ext.trans e3 e4) e5) e7) e8) e10) e12) e14)).mono ?_
      rintro _ w22 ⟨a'16, n'17, c'18, rfl, N19, O20, e21⟩
      conv => whnf
      exact ⟨_, _, _, _, _, _, rfl, NewAt.nil, NewAt.nil, by omega, (Ext.trans (Ext.trans (Ext.trans (Ext.trans (Ext.trans (Ext.trans (Ext.trans (Ext.trans e3 e4) e5) e7) e8) e10) e12) e14) e21)⟩
    · have hk2 : keysM xs f = ([], 8) := by
        unfold keysM
        rw [if_neg (by simp [hd]), if_neg (by simp [hf2]), if_pos hh2]
      rw [keys_good hd hf1 hh1] at hK1
      rw [hk2] at hK2
      refine Does.of_vc tabok Tryz.func48 rfl rfl rfl (by kernel_rfl) ?_; conv => whnf
      refine SemK.box ?_
      intro b3 w3 g3 l3 e3 B3
      conv => whnf
      refine SemK.box ?_
      intro b4 w4 g4 l4 e4 B4
      conv => whnf
      refine (spec_l02Deck (h.ext (Ext.trans e3 e4))).mono ?_
      rintro _ w6 ⟨rfl, e5⟩
      conv => whnf
      refine IfB.eqf (by simp [*]; done) ?_
      conv => whnf
      refine DrawK.held tabok mixed [(0, false), (1, true), (2, true), (3, true), (4, true), (5, true), (6, false), (7, true), (8, true), (9, true), (10, true), (11, true)] (by kernel_rfl) (by kernel_rfl) ?_
      conv => whnf
      intro w7 e7
      conv => whnf
      refine DSemK.loadAgg (n := 2) (by kernel_rfl) (B3.ext (Ext.trans e4 e5)).cells rfl ?_
      conv => whnf
      refine (spec_l07Width (h.ext (Ext.trans (Ext.trans (Ext.trans e3 e4) e5) e7))).mono ?_
      rintro _ w9 ⟨rfl, e8⟩
      conv => whnf
      refine ⟨(Ext.trans e7 e8), ?_⟩
      conv => whnf
      refine (spec_l02Field _ _ _).mono ?_
      rintro _ w11 ⟨rfl, e10⟩
      conv => whnf
      refine ⟨(Ext.trans (Ext.trans e7 e8) e10), ?_⟩
      conv => whnf
      refine IfB.eqf (by simp [*]; done) ?_
      conv => whnf
      refine DSemK.loadAgg (n := 2) (by kernel_rfl) (B4.ext e5).cells rfl ?_
      conv => whnf
      refine (spec_l07Width (h.ext (Ext.trans (Ext.trans (Ext.trans (Ext.trans (Ext.trans e3 e4) e5) e7) e8) e10))).mono ?_
      rintro _ w13 ⟨rfl, e12⟩
      conv => whnf
      refine ⟨(Ext.trans (Ext.trans (Ext.trans e7 e8) e10) e12), ?_⟩
      conv => whnf
      refine (spec_l02Field _ _ _).mono ?_
      rintro _ w15 ⟨rfl, e14⟩
      conv => whnf
      refine ⟨(Ext.trans (Ext.trans (Ext.trans (Ext.trans e7 e8) e10) e12) e14), ?_⟩
      conv => whnf
      refine IfB.eqf (by simp [*]; done) ?_
      conv => whnf
      refine SemK.loadAgg (n := 2) (by kernel_rfl) (B3.ext (Ext.trans (Ext.trans (Ext.trans (Ext.trans (Ext.trans (Ext.trans e4 e5) e7) e8) e10) e12) e14)).cells rfl ?_
      conv => whnf
      refine (hK1 _ (Ext.trans (Ext.trans (Ext.trans (Ext.trans (Ext.trans (Ext.trans (Ext.trans e3 e4) e5) e7) e8) e10) e12) e14)).mono ?_
      rintro _ w22 ⟨a'16, n'17, c'18, rfl, N19, O20, e21⟩
      conv => whnf
      refine SemK.loadAgg (n := 2) (by kernel_rfl) (B4.ext (Ext.trans (Ext.trans (Ext.trans (Ext.trans (Ext.trans (Ext.trans e5 e7) e8) e10) e12) e14) e21)).cells rfl ?_
      conv => whnf
      refine (hK2 _ (Ext.trans (Ext.trans (Ext.trans (Ext.trans (Ext.trans (Ext.trans (Ext.trans (Ext.trans e3 e4) e5) e7) e8) e10) e12) e14) e21)).mono ?_
      rintro _ w29 ⟨a'23, n'24, c'25, rfl, N26, O27, e28⟩
      conv => whnf
      exact ⟨_, _, _, _, _, _, rfl, NewAt.nil, NewAt.nil, by omega, (Ext.trans (Ext.trans (Ext.trans (Ext.trans (Ext.trans (Ext.trans (Ext.trans (Ext.trans (Ext.trans e3 e4) e5) e7) e8) e10) e12) e14) e21) e28)⟩
  · rw [ht]
    rw [keys_good hd hf1 hh1] at hK1
    rw [keys_good hd hf2 hh2] at hK2
    refine Does.of_vc tabok Tryz.func48 rfl rfl rfl (by kernel_rfl) ?_; conv => whnf
    refine SemK.box ?_
    intro b3 w3 g3 l3 e3 B3
    conv => whnf
    refine SemK.box ?_
    intro b4 w4 g4 l4 e4 B4
    conv => whnf
    refine (spec_l02Deck (h.ext (Ext.trans e3 e4))).mono ?_
    rintro _ w6 ⟨rfl, e5⟩
    conv => whnf
    refine IfB.eqf (by simp [*]; done) ?_
    conv => whnf
    refine DrawK.held tabok mixed [(0, false), (1, true), (2, true), (3, true), (4, true), (5, true), (6, false), (7, true), (8, true), (9, true), (10, true), (11, true)] (by kernel_rfl) (by kernel_rfl) ?_
    conv => whnf
    intro w7 e7
    conv => whnf
    refine DSemK.loadAgg (n := 2) (by kernel_rfl) (B3.ext (Ext.trans e4 e5)).cells rfl ?_
    conv => whnf
    refine (spec_l07Width (h.ext (Ext.trans (Ext.trans (Ext.trans e3 e4) e5) e7))).mono ?_
    rintro _ w9 ⟨rfl, e8⟩
    conv => whnf
    refine ⟨(Ext.trans e7 e8), ?_⟩
    conv => whnf
    refine (spec_l02Field _ _ _).mono ?_
    rintro _ w11 ⟨rfl, e10⟩
    conv => whnf
    refine ⟨(Ext.trans (Ext.trans e7 e8) e10), ?_⟩
    conv => whnf
    refine IfB.eqf (by simp [*]; done) ?_
    conv => whnf
    refine DSemK.loadAgg (n := 2) (by kernel_rfl) (B4.ext e5).cells rfl ?_
    conv => whnf
    refine (spec_l07Width (h.ext (Ext.trans (Ext.trans (Ext.trans (Ext.trans (Ext.trans e3 e4) e5) e7) e8) e10))).mono ?_
    rintro _ w13 ⟨rfl, e12⟩
    conv => whnf
    refine ⟨(Ext.trans (Ext.trans (Ext.trans e7 e8) e10) e12), ?_⟩
    conv => whnf
    refine (spec_l02Field _ _ _).mono ?_
    rintro _ w15 ⟨rfl, e14⟩
    conv => whnf
    refine ⟨(Ext.trans (Ext.trans (Ext.trans (Ext.trans e7 e8) e10) e12) e14), ?_⟩
    conv => whnf
    refine IfB.eqf (by simp [*]; done) ?_
    conv => whnf
    refine SemK.loadAgg (n := 2) (by kernel_rfl) (B3.ext (Ext.trans (Ext.trans (Ext.trans (Ext.trans (Ext.trans (Ext.trans e4 e5) e7) e8) e10) e12) e14)).cells rfl ?_
    conv => whnf
    refine (hK1 _ (Ext.trans (Ext.trans (Ext.trans (Ext.trans (Ext.trans (Ext.trans (Ext.trans e3 e4) e5) e7) e8) e10) e12) e14)).mono ?_
    rintro _ w22 ⟨a'16, n'17, c'18, rfl, N19, O20, e21⟩
    conv => whnf
    refine SemK.loadAgg (n := 2) (by kernel_rfl) (B4.ext (Ext.trans (Ext.trans (Ext.trans (Ext.trans (Ext.trans (Ext.trans e5 e7) e8) e10) e12) e14) e21)).cells rfl ?_
    conv => whnf
    refine (hK2 _ (Ext.trans (Ext.trans (Ext.trans (Ext.trans (Ext.trans (Ext.trans (Ext.trans (Ext.trans e3 e4) e5) e7) e8) e10) e12) e14) e21)).mono ?_
    rintro _ w29 ⟨a'23, n'24, c'25, rfl, N26, O27, e28⟩
    conv => whnf
    refine ⟨_, _, _, _, _, _, rfl, (N19.mono (Below.size (Ext.trans (Ext.trans (Ext.trans (Ext.trans (Ext.trans (Ext.trans (Ext.trans e3 e4) e5) e7) e8) e10) e12) e14))), (N26.mono (Below.size (Ext.trans (Ext.trans (Ext.trans (Ext.trans (Ext.trans (Ext.trans (Ext.trans (Ext.trans e3 e4) e5) e7) e8) e10) e12) e14) e21))), ?_, (Ext.trans (Ext.trans (Ext.trans (Ext.trans (Ext.trans (Ext.trans (Ext.trans (Ext.trans (Ext.trans e3 e4) e5) e7) e8) e10) e12) e14) e21) e28)⟩
    · exact fun _ => ⟨O20.ext e28, O27⟩
theorem impl_crossCode {w : World} {a : Option Addr} {n c : Nat} {xs : List (List Int)} (h : ArrS RCard w a n xs) (r f : TField) :
    Does Tryz.prog 45 [.slice a n c, .agg ⟨r.enc⟩, .agg ⟨f.enc⟩] w (fun v w' => v = .int .i64 (twoM xs r f) ∧ Ext w w') := by
  rcases two_cases xs r f with ⟨hd, ht⟩ | ⟨hd, hor, ht⟩ | ⟨hd, hf1, hf2, hor, ht⟩ | ⟨hd, hf1, hf2, hh1, hh2, ht⟩
  · rw [ht]
    refine Does.of_vc tabok Tryz.func45 rfl rfl rfl (by kernel_rfl) ?_; conv => whnf
    refine SemK.box ?_
    intro b1 w1 g1 l1 e1 B1
    conv => whnf
    refine SemK.box ?_
    intro b2 w2 g2 l2 e2 B2
    conv => whnf
    refine (impl_ValidDeck (h.ext (Ext.trans e1 e2))).mono ?_
    rintro _ w4 ⟨rfl, e3⟩
    conv => whnf
    refine IfB.eqt (by simp [*]; done) ?_
    conv => whnf
    exact ⟨rfl, (Ext.trans (Ext.trans e1 e2) e3)⟩
  · rw [ht]
    rcases hor with hf1 | ⟨hf1, hf2⟩
    · refine Does.of_vc tabok Tryz.func45 rfl rfl rfl (by kernel_rfl) ?_; conv => whnf
      refine SemK.box ?_
      intro b2 w2 g2 l2 e2 B2
      conv => whnf
      refine SemK.box ?_
      intro b3 w3 g3 l3 e3 B3
      conv => whnf
      refine (impl_ValidDeck (h.ext (Ext.trans e2 e3))).mono ?_
      rintro _ w5 ⟨rfl, e4⟩
      conv => whnf
      refine IfB.eqf (by simp [*]; done) ?_
      conv => whnf
      refine DrawK.held tabok mixed [(0, false), (1, true), (2, true), (3, true), (4, true), (5, true), (6, false), (7, true), (8, true), (9, true), (10, true), (11, true), (12, true)] (by kernel_rfl) (by kernel_rfl) ?_
      conv => whnf
      intro w6 e6
      conv => whnf
      refine DSemK.loadAgg (n := 2) (by kernel_rfl) (B2.ext (Ext.trans e3 e4)).cells rfl ?_
      conv => whnf
      refine (impl_deckColumns (h.ext (Ext.trans (Ext.trans (Ext.trans e2 e3) e4) e6))).mono ?_
      rintro _ w8 ⟨rfl, e7⟩
      conv => whnf
      refine ⟨(Ext.trans e6 e7), ?_⟩
      conv => whnf
      refine (impl_isField _ _ _).mono ?_
      rintro _ w10 ⟨rfl, e9⟩
      conv => whnf
      refine ⟨(Ext.trans (Ext.trans e6 e7) e9), ?_⟩
      conv => whnf
      refine IfB.eqt (by simp [*]; done) ?_
      conv => whnf
      exact ⟨rfl, (Ext.trans (Ext.trans (Ext.trans (Ext.trans (Ext.trans e2 e3) e4) e6) e7) e9)⟩
    · refine Does.of_vc tabok Tryz.func45 rfl rfl rfl (by kernel_rfl) ?_; conv => whnf
      refine SemK.box ?_
      intro b3 w3 g3 l3 e3 B3
      conv => whnf
      refine SemK.box ?_
      intro b4 w4 g4 l4 e4 B4
      conv => whnf
      refine (impl_ValidDeck (h.ext (Ext.trans e3 e4))).mono ?_
      rintro _ w6 ⟨rfl, e5⟩
      conv => whnf
      refine IfB.eqf (by simp [*]; done) ?_
      conv => whnf
      refine DrawK.held tabok mixed [(0, false), (1, true), (2, true), (3, true), (4, true), (5, true), (6, false), (7, true), (8, true), (9, true), (10, true), (11, true), (12, true)] (by kernel_rfl) (by kernel_rfl) ?_
      conv => whnf
      intro w7 e7
      conv => whnf
      refine DSemK.loadAgg (n := 2) (by kernel_rfl) (B3.ext (Ext.trans e4 e5)).cells rfl ?_
      conv => whnf
      refine (impl_deckColumns (h.ext (Ext.trans (Ext.trans (Ext.trans e3 e4) e5) e7))).mono ?_
      rintro _ w9 ⟨rfl, e8⟩
      conv => whnf
      refine ⟨(Ext.trans e7 e8), ?_⟩
      conv => whnf
      refine (impl_isField _ _ _).mono ?_
      rintro _ w11 ⟨rfl, e10⟩
      conv => whnf
      refine ⟨(Ext.trans (Ext.trans e7 e8) e10), ?_⟩
      conv => whnf
      refine IfB.eqf (by simp [*]; done) ?_
      conv => whnf
      refine DSemK.loadAgg (n := 2) (by kernel_rfl) (B4.ext e5).cells rfl ?_
      conv => whnf
      refine (impl_deckColumns (h.ext (Ext.trans (Ext.trans (Ext.trans (Ext.trans (Ext.trans e3 e4) e5) e7) e8) e10))).mono ?_
      rintro _ w13 ⟨rfl, e12⟩
      conv => whnf
      refine ⟨(Ext.trans (Ext.trans (Ext.trans e7 e8) e10) e12), ?_⟩
      conv => whnf
      refine (impl_isField _ _ _).mono ?_
      rintro _ w15 ⟨rfl, e14⟩
      conv => whnf
      refine ⟨(Ext.trans (Ext.trans (Ext.trans (Ext.trans e7 e8) e10) e12) e14), ?_⟩
      conv => whnf
      refine IfB.eqt (by simp [*]; done) ?_
      conv => whnf
      exact ⟨rfl, (Ext.trans (Ext.trans (Ext.trans (Ext.trans (Ext.trans (Ext.trans (Ext.trans e3 e4) e5) e7) e8) e10) e12) e14)⟩
  · rw [ht]
    have hH1 := fun u (e : Ext w u) => impl_haveField (c := c) (h.ext e) hd hf1
    have hH2 := fun u (e : Ext w u) => impl_haveField (c := c) (h.ext e) hd hf2
    rcases hor with hh1 | ⟨hh1, hh2⟩
    · rw [hh1] at hH1
      clear hH2
      refine Does.of_vc tabok Tryz.func45 rfl rfl rfl (by kernel_rfl) ?_; conv => whnf
      refine SemK.box ?_
      intro b3 w3 g3 l3 e3 B3
      conv => whnf
      refine SemK.box ?_
      intro b4 w4 g4 l4 e4 B4
      conv => whnf
      refine (impl_ValidDeck (h.ext (Ext.trans e3 e4))).mono ?_
      rintro _ w6 ⟨rfl, e5⟩
      conv => whnf
      refine IfB.eqf (by simp [*]; done) ?_
      conv => whnf
      refine DrawK.held tabok mixed [(0, false), (1, true), (2, true), (3, true), (4, true), (5, true), (6, false), (7, true), (8, true), (9, true), (10, true), (11, true), (12, true)] (by kernel_rfl) (by kernel_rfl) ?_
      conv => whnf
      intro w7 e7
      conv => whnf
      refine DSemK.loadAgg (n := 2) (by kernel_rfl) (B3.ext (Ext.trans e4 e5)).cells rfl ?_
      conv => whnf
      refine (impl_deckColumns (h.ext (Ext.trans (Ext.trans (Ext.trans e3 e4) e5) e7))).mono ?_
      rintro _ w9 ⟨rfl, e8⟩
      conv => whnf
      refine ⟨(Ext.trans e7 e8), ?_⟩
      conv => whnf
      refine (impl_isField _ _ _).mono ?_
      rintro _ w11 ⟨rfl, e10⟩
      conv => whnf
      refine ⟨(Ext.trans (Ext.trans e7 e8) e10), ?_⟩
      conv => whnf
      refine IfB.eqf (by simp [*]; done) ?_
      conv => whnf
      refine DSemK.loadAgg (n := 2) (by kernel_rfl) (B4.ext e5).cells rfl ?_
      conv => whnf
      refine (impl_deckColumns (h.ext (Ext.trans (Ext.trans (Ext.trans (Ext.trans (Ext.trans e3 e4) e5) e7) e8) e10))).mono ?_
      rintro _ w13 ⟨rfl, e12⟩
      conv => whnf
      refine ⟨(Ext.trans (Ext.trans (Ext.trans e7 e8) e10) e12), ?_⟩
      conv => whnf
      refine (impl_isField _ _ _).mono ?_
      rintro _ w15 ⟨rfl, e14⟩
      conv => whnf
      refine ⟨(Ext.trans (Ext.trans (Ext.trans (Ext.trans e7 e8) e10) e12) e14), ?_⟩
      conv => whnf
      refine IfB.eqf (by simp [*]; done) ?_
      conv => whnf
      refine SemK.loadAgg (n := 2) (by kernel_rfl) (B3.ext (Ext.trans (Ext.trans (Ext.trans (Ext.trans (Ext.trans (Ext.trans e4 e5) e7) e8) e10) e12) e14)).cells rfl ?_
      conv => whnf
      refine (hH1 _ (Ext.trans (Ext.trans (Ext.trans (Ext.trans (Ext.trans (Ext.trans (Ext.trans e3 e4) e5) e7) e8) e10) e12) e14)).mono ?_
      rintro _ w17 ⟨rfl, e16⟩
      conv => whnf
      exact ⟨rfl, (Ext.trans (Ext.trans (Ext.trans (Ext.trans (Ext.trans (Ext.trans (Ext.trans (Ext.trans e3 e4) e5) e7) e8) e10) e12) e14) e16)⟩
    · rw [hh1] at hH1
      rw [hh2] at hH2
      refine Does.of_vc tabok Tryz.func45 rfl rfl rfl (by kernel_rfl) ?_; conv => whnf
      refine SemK.box ?_
      intro b3 w3 g3 l3 e3 B3
      conv => whnf
      refine SemK.box ?_
      intro b4 w4 g4 l4 e4 B4
      conv => whnf
      refine (impl_ValidDeck (h.ext (Ext.trans e3 e4))).mono ?_
      rintro _ w6 ⟨rfl, e5⟩
      conv => whnf
      refine IfB.eqf (by simp [*]; done) ?_
      conv => whnf
      refine DrawK.held tabok mixed [(0, false), (1, true), (2, true), (3, true), (4, true), (5, true), (6, false), (7, true), (8, true), (9, true), (10, true), (11, true), (12, true)] (by kernel_rfl) (by kernel_rfl) ?_
      conv => whnf
      intro w7 e7
      conv => whnf
      refine DSemK.loadAgg (n := 2) (by kernel_rfl) (B3.ext (Ext.trans e4 e5)).cells rfl ?_
      conv => whnf
      refine (impl_deckColumns (h.ext (Ext.trans (Ext.trans (Ext.trans e3 e4) e5) e7))).mono ?_
      rintro _ w9 ⟨rfl, e8⟩
      conv => whnf
      refine ⟨(Ext.trans e7 e8), ?_⟩
      conv => whnf
      refine (impl_isField _ _ _).mono ?_
      rintro _ w11 ⟨rfl, e10⟩
      conv => whnf
      refine ⟨(Ext.trans (Ext.trans e7 e8) e10), ?_⟩
      conv => whnf
      refine IfB.eqf (by simp [*]; done) ?_
      conv => whnf
      refine DSemK.loadAgg (n := 2) (by kernel_rfl) (B4.ext e5).cells rfl ?_
      conv => whnf
      refine (impl_deckColumns (h.ext (Ext.trans (Ext.trans (Ext.trans (Ext.trans (Ext.trans e3 e4) e5) e7) e8) e10))).mono ?_
      rintro _ w13 ⟨rfl, e12⟩
      conv => whnf
      refine ⟨(Ext.trans (Ext.trans (Ext.trans e7 e8) e10) e12), ?_⟩
      conv => whnf
      refine (impl_isField _ _ _).mono ?_
      rintro _ w15 ⟨rfl, e14⟩
      conv => whnf
      refine ⟨(Ext.trans (Ext.trans (Ext.trans (Ext.trans e7 e8) e10) e12) e14), ?_⟩
      conv => whnf
      refine IfB.eqf (by simp [*]; done) ?_
      conv => whnf
      refine SemK.loadAgg (n := 2) (by kernel_rfl) (B3.ext (Ext.trans (Ext.trans (Ext.trans (Ext.trans (Ext.trans (Ext.trans e4 e5) e7) e8) e10) e12) e14)).cells rfl ?_
      conv => whnf
      refine (hH1 _ (Ext.trans (Ext.trans (Ext.trans (Ext.trans (Ext.trans (Ext.trans (Ext.trans e3 e4) e5) e7) e8) e10) e12) e14)).mono ?_
      rintro _ w17 ⟨rfl, e16⟩
      conv => whnf
      refine SemK.loadAgg (n := 2) (by kernel_rfl) (B4.ext (Ext.trans (Ext.trans (Ext.trans (Ext.trans (Ext.trans (Ext.trans e5 e7) e8) e10) e12) e14) e16)).cells rfl ?_
      conv => whnf
      refine (hH2 _ (Ext.trans (Ext.trans (Ext.trans (Ext.trans (Ext.trans (Ext.trans (Ext.trans (Ext.trans e3 e4) e5) e7) e8) e10) e12) e14) e16)).mono ?_
      rintro _ w19 ⟨rfl, e18⟩
      conv => whnf
      exact ⟨rfl, (Ext.trans (Ext.trans (Ext.trans (Ext.trans (Ext.trans (Ext.trans (Ext.trans (Ext.trans (Ext.trans e3 e4) e5) e7) e8) e10) e12) e14) e16) e18)⟩
  · rw [ht]
    have hH1 := fun u (e : Ext w u) => impl_haveField (c := c) (h.ext e) hd hf1
    have hH2 := fun u (e : Ext w u) => impl_haveField (c := c) (h.ext e) hd hf2
    rw [hh1] at hH1
    rw [hh2] at hH2
    refine Does.of_vc tabok Tryz.func45 rfl rfl rfl (by kernel_rfl) ?_; conv => whnf
    refine SemK.box ?_
    intro b3 w3 g3 l3 e3 B3
    conv => whnf
    refine SemK.box ?_
    intro b4 w4 g4 l4 e4 B4
    conv => whnf
    refine (impl_ValidDeck (h.ext (Ext.trans e3 e4))).mono ?_
    rintro _ w6 ⟨rfl, e5⟩
    conv => whnf
    refine IfB.eqf (by simp [*]; done) ?_
    conv => whnf
    refine DrawK.held tabok mixed [(0, false), (1, true), (2, true), (3, true), (4, true), (5, true), (6, false), (7, true), (8, true), (9, true), (10, true), (11, true), (12, true)] (by kernel_rfl) (by kernel_rfl) ?_
    conv => whnf
    intro w7 e7
    conv => whnf
    refine DSemK.loadAgg (n := 2) (by kernel_rfl) (B3.ext (Ext.trans e4 e5)).cells rfl ?_
    conv => whnf
    refine (impl_deckColumns (h.ext (Ext.trans (Ext.trans (Ext.trans e3 e4) e5) e7))).mono ?_
    rintro _ w9 ⟨rfl, e8⟩
    conv => whnf
    refine ⟨(Ext.trans e7 e8), ?_⟩
    conv => whnf
    refine (impl_isField _ _ _).mono ?_
    rintro _ w11 ⟨rfl, e10⟩
    conv => whnf
    refine ⟨(Ext.trans (Ext.trans e7 e8) e10), ?_⟩
    conv => whnf
    refine IfB.eqf (by simp [*]; done) ?_
    conv => whnf
    refine DSemK.loadAgg (n := 2) (by kernel_rfl) (B4.ext e5).cells rfl ?_
    conv => whnf
    refine (impl_deckColumns (h.ext (Ext.trans (Ext.trans (Ext.trans (Ext.trans (Ext.trans e3 e4) e5) e7) e8) e10))).mono ?_
    rintro _ w13 ⟨rfl, e12⟩
    conv => whnf
    refine ⟨(Ext.trans (Ext.trans (Ext.trans e7 e8) e10) e12), ?_⟩
    conv => whnf
    refine (impl_isField _ _ _).mono ?_
    rintro _ w15 ⟨rfl, e14⟩
    conv => whnf
    refine ⟨(Ext.trans (Ext.trans (Ext.trans (Ext.trans e7 e8) e10) e12) e14), ?_⟩
    conv => whnf
    refine IfB.eqf (by simp [*]; done) ?_
    conv => whnf
    refine SemK.loadAgg (n := 2) (by kernel_rfl) (B3.ext (Ext.trans (Ext.trans (Ext.trans (Ext.trans (Ext.trans (Ext.trans e4 e5) e7) e8) e10) e12) e14)).cells rfl ?_
    conv => whnf
    refine (hH1 _ (Ext.trans (Ext.trans (Ext.trans (Ext.trans (Ext.trans (Ext.trans (Ext.trans e3 e4) e5) e7) e8) e10) e12) e14)).mono ?_
    rintro _ w17 ⟨rfl, e16⟩
    conv => whnf
    refine SemK.loadAgg (n := 2) (by kernel_rfl) (B4.ext (Ext.trans (Ext.trans (Ext.trans (Ext.trans (Ext.trans (Ext.trans e5 e7) e8) e10) e12) e14) e16)).cells rfl ?_
    conv => whnf
    refine (hH2 _ (Ext.trans (Ext.trans (Ext.trans (Ext.trans (Ext.trans (Ext.trans (Ext.trans (Ext.trans e3 e4) e5) e7) e8) e10) e12) e14) e16)).mono ?_
    rintro _ w19 ⟨rfl, e18⟩
    conv => whnf
    exact ⟨rfl, (Ext.trans (Ext.trans (Ext.trans (Ext.trans (Ext.trans (Ext.trans (Ext.trans (Ext.trans (Ext.trans e3 e4) e5) e7) e8) e10) e12) e14) e16) e18)⟩
theorem spec_TableTexts {w : World} {a : Option Addr} {n c : Nat} {xs : List (List Int)} (h : ArrS RCard w a n xs) (r f : TField) :
    Does Tryz.prog 10 [.slice a n c, .agg ⟨r.enc⟩, .agg ⟨f.enc⟩] w (fun v w' => ∃ a1 n1 c1 a2 n2 c2, v = .tuple #[.slice a1 n1 c1, .slice a2 n2 c2, .int .i64 (tableM xs r f).2.2] ∧ NewAt w.heap.size a1 ∧ NewAt w.heap.size a2
      ∧ Own eS w' a1 n1 9 (tableM xs r f).1 ∧ Own eS w' a2 n2 9 (tableM xs r f).2.1 ∧ Apart a1 a2 ∧ Ext w w') := by
  have hn := h.len
  have hK := fun u (e : Ext w u) => spec_l24Two (c := c) (h.ext e) r f
  rcases two_cases xs r f with ⟨_, ht⟩ | ⟨_, _, ht⟩ | ⟨_, _, _, _, ht⟩ | ⟨hd, hf1, hf2, hh1, hh2, ht⟩
  · rw [table_bad ht (by omega)]
    rw [ht] at hK
    refine Does.of_vc tabok Tryz.func10 rfl rfl rfl (by kernel_rfl) ?_; conv => whnf
    refine SemK.box ?_
    intro b218 w218 g218 l218 e218 B218
    conv => whnf
    refine SemK.box ?_
    intro b219 w219 g219 l219 e219 B219
    conv => whnf
    refine SemK.loadAgg (n := 2) (by kernel_rfl) (B218.ext e219).cells rfl ?_
    conv => whnf
    refine SemK.loadAgg (n := 2) (by kernel_rfl) B219.cells rfl ?_
    conv => whnf
    refine (hK _ (Ext.trans e218 e219)).mono ?_
    rintro _ w230 ⟨a1220, n1221, c1222, a2223, n2224, c2225, rfl, N226, N227, q228, e229⟩
    conv => whnf
    refine ⟨_, _, _, _, _, _, rfl, NewAt.nil, NewAt.nil, Own.nil, Own.nil, ?_, (Ext.trans (Ext.trans e218 e219) e229)⟩
    · exact fun y hy => by cases hy
  · rw [table_bad ht (by omega)]
    rw [ht] at hK
    refine Does.of_vc tabok Tryz.func10 rfl rfl rfl (by kernel_rfl) ?_; conv => whnf
    refine SemK.box ?_
    intro b223 w223 g223 l223 e223 B223
    conv => whnf
    refine SemK.box ?_
    intro b224 w224 g224 l224 e224 B224
    conv => whnf
    refine SemK.loadAgg (n := 2) (by kernel_rfl) (B223.ext e224).cells rfl ?_
    conv => whnf
    refine SemK.loadAgg (n := 2) (by kernel_rfl) B224.cells rfl ?_
    conv => whnf
    refine (hK _ (Ext.trans e223 e224)).mono ?_
    rintro _ w235 ⟨a1225, n1226, c1227, a2228, n2229, c2230, rfl, N231, N232, q233, e234⟩
    conv => whnf
    refine ⟨_, _, _, _, _, _, rfl, NewAt.nil, NewAt.nil, Own.nil, Own.nil, ?_, (Ext.trans (Ext.trans e223 e224) e234)⟩
    · exact fun y hy => by cases hy
  · rw [table_bad ht (by omega)]
    rw [ht] at hK
    refine Does.of_vc tabok Tryz.func10 rfl rfl rfl (by kernel_rfl) ?_; conv => whnf
    refine SemK.box ?_
    intro b232 w232 g232 l232 e232 B232
    conv => whnf
    refine SemK.box ?_
    intro b233 w233 g233 l233 e233 B233
    conv => whnf
    refine SemK.loadAgg (n := 2) (by kernel_rfl) (B232.ext e233).cells rfl ?_
    conv => whnf
    refine SemK.loadAgg (n := 2) (by kernel_rfl) B233.cells rfl ?_
    conv => whnf
    refine (hK _ (Ext.trans e232 e233)).mono ?_
    rintro _ w244 ⟨a1234, n1235, c1236, a2237, n2238, c2239, rfl, N240, N241, q242, e243⟩
    conv => whnf
    refine ⟨_, _, _, _, _, _, rfl, NewAt.nil, NewAt.nil, Own.nil, Own.nil, ?_, (Ext.trans (Ext.trans e232 e233) e243)⟩
    · exact fun y hy => by cases hy
  · rw [table_good ht]
    rw [ht] at hK
    have hok1 := ckey_ok hd hf1 hh1
    have hok2 := ckey_ok hd hf2 hh2
    have h40 := (deckB_mem hd).1
    have hfb1 := fieldB_b hf1
    have hfb2 := fieldB_b hf2
    have hwb := widthOf_b hd
    have hfl1 : fLen r ≤ 1000 := by unfold fLen; omega
    have hfl2 : fLen f ≤ 1000 := by unfold fLen; omega
    have hT1 := fun u a n' c (hA : Arr eS 1 u a n' ((xs.map (ckey r)).map txt)) => spec_l24Texts (c := c) hA hok1 hfl1 (by have := hA.len; rw [List.length_map, List.length_map] at this; omega)
    have hT2 := fun u a n' c (hA : Arr eS 1 u a n' ((xs.map (ckey f)).map txt)) => spec_l24Texts (c := c) hA hok2 hfl2 (by have := hA.len; rw [List.length_map, List.length_map] at this; omega)
    refine Does.of_vc tabok Tryz.func10 rfl rfl rfl (by kernel_rfl) ?_; conv => whnf
    refine SemK.box ?_
    intro b41 w41 g41 l41 e41 B41
    conv => whnf
    refine SemK.box ?_
    intro b42 w42 g42 l42 e42 B42
    conv => whnf
    refine SemK.loadAgg (n := 2) (by kernel_rfl) (B41.ext e42).cells rfl ?_
    conv => whnf
    refine SemK.loadAgg (n := 2) (by kernel_rfl) B42.cells rfl ?_
    conv => whnf
    refine (hK _ (Ext.trans e41 e42)).mono ?_
    rintro _ w53 ⟨a143, n144, c145, a246, n247, c248, rfl, N49, N50, q51, e52⟩
    conv => whnf
    refine (hT1 _ _ _ _ ((q51 rfl).1.arr eS_len)).mono ?_
    rintro _ w60 ⟨a'54, m55, c'56, rfl, N57, O58, e59⟩
    conv => whnf
    refine (hT2 _ _ _ _ (((q51 rfl).2.ext e59).arr eS_len)).mono ?_
    rintro _ w67 ⟨a'61, m62, c'63, rfl, N64, O65, e66⟩
    conv => whnf
    refine ⟨_, _, _, _, _, _, rfl, (N57.mono (Below.size (Ext.trans (Ext.trans e41 e42) e52))), (N64.mono (Below.size (Ext.trans (Ext.trans (Ext.trans e41 e42) e52) e59))), ?_, O65, ?_, (Ext.trans (Ext.trans (Ext.trans (Ext.trans e41 e42) e52) e59) e66)⟩
    · exact O58.ext e66
    · rintro y hy ⟨x, hx, he⟩
      have := O58.lt x hx
      have := N64 y hy
      omega
theorem impl_TableTexts {w : World} {a : Option Addr} {n c : Nat} {xs : List (List Int)} (h : ArrS RCard w a n xs) (r f : TField) :
    Does Tryz.prog 9 [.slice a n c, .agg ⟨r.enc⟩, .agg ⟨f.enc⟩] w (fun v w' => ∃ a1 n1 c1 a2 n2 c2, v = .tuple #[.slice a1 n1 c1, .slice a2 n2 c2, .int .i64 (tableM xs r f).2.2] ∧ NewAt w.heap.size a1 ∧ NewAt w.heap.size a2
      ∧ Own eS w' a1 n1 9 (tableM xs r f).1 ∧ Own eS w' a2 n2 9 (tableM xs r f).2.1 ∧ Apart a1 a2 ∧ Ext w w') := by
  have hn := h.len
  have hK := fun u (e : Ext w u) => impl_crossCode (c := c) (h.ext e) r f
  rcases two_cases xs r f with ⟨_, ht⟩ | ⟨_, _, ht⟩ | ⟨_, _, _, _, ht⟩ | ⟨hd, hf1, hf2, hh1, hh2, ht⟩
  · rw [table_bad ht (by omega)]
    rw [ht] at hK
    refine Does.of_vc tabok Tryz.func9 rfl rfl rfl (by kernel_rfl) ?_; conv => whnf
    refine SemK.box ?_
    intro b218 w218 g218 l218 e218 B218
    conv => whnf
    refine SemK.box ?_
    intro b219 w219 g219 l219 e219 B219
    conv => whnf
    refine SemK.loadAgg (n := 2) (by kernel_rfl) (B218.ext e219).cells rfl ?_
    conv => whnf
    refine SemK.loadAgg (n := 2) (by kernel_rfl) B219.cells rfl ?_
    conv => whnf
    refine (hK _ (Ext.trans e218 e219)).mono ?_
    rintro _ w221 ⟨rfl, e220⟩
    conv => whnf
    refine ⟨_, _, _, _, _, _, rfl, NewAt.nil, NewAt.nil, Own.nil, Own.nil, ?_, (Ext.trans (Ext.trans e218 e219) e220)⟩
    · exact fun y hy => by cases hy
  · rw [table_bad ht (by omega)]
    rw [ht] at hK
    refine Does.of_vc tabok Tryz.func9 rfl rfl rfl (by kernel_rfl) ?_; conv => whnf
    refine SemK.box ?_
    intro b223 w223 g223 l223 e223 B223
    conv => whnf
    refine SemK.box ?_
    intro b224 w224 g224 l224 e224 B224
    conv => whnf
    refine SemK.loadAgg (n := 2) (by kernel_rfl) (B223.ext e224).cells rfl ?_
    conv => whnf
    refine SemK.loadAgg (n := 2) (by kernel_rfl) B224.cells rfl ?_
    conv => whnf
    refine (hK _ (Ext.trans e223 e224)).mono ?_
    rintro _ w226 ⟨rfl, e225⟩
    conv => whnf
    refine ⟨_, _, _, _, _, _, rfl, NewAt.nil, NewAt.nil, Own.nil, Own.nil, ?_, (Ext.trans (Ext.trans e223 e224) e225)⟩
    · exact fun y hy => by cases hy
  · rw [table_bad ht (by omega)]
    rw [ht] at hK
    refine Does.of_vc tabok Tryz.func9 rfl rfl rfl (by kernel_rfl) ?_; conv => whnf
    refine SemK.box ?_
    intro b232 w232 g232 l232 e232 B232
    conv => whnf
    refine SemK.box ?_
    intro b233 w233 g233 l233 e233 B233
    conv => whnf
    refine SemK.loadAgg (n := 2) (by kernel_rfl) (B232.ext e233).cells rfl ?_
    conv => whnf
    refine SemK.loadAgg (n := 2) (by kernel_rfl) B233.cells rfl ?_
    conv => whnf
    refine (hK _ (Ext.trans e232 e233)).mono ?_
    rintro _ w235 ⟨rfl, e234⟩
    conv => whnf
    refine ⟨_, _, _, _, _, _, rfl, NewAt.nil, NewAt.nil, Own.nil, Own.nil, ?_, (Ext.trans (Ext.trans e232 e233) e234)⟩
    · exact fun y hy => by cases hy
  · rw [table_good ht]
    rw [ht] at hK
    have hT1 := fun u (e : Ext w u) => impl_textsOf (c := c) (h.ext e) hd hf1 hh1
    have hT2 := fun u (e : Ext w u) => impl_textsOf (c := c) (h.ext e) hd hf2 hh2
    refine Does.of_vc tabok Tryz.func9 rfl rfl rfl (by kernel_rfl) ?_; conv => whnf
    refine SemK.box ?_
    intro b3 w3 g3 l3 e3 B3
    conv => whnf
    refine SemK.box ?_
    intro b4 w4 g4 l4 e4 B4
    conv => whnf
    refine SemK.loadAgg (n := 2) (by kernel_rfl) (B3.ext e4).cells rfl ?_
    conv => whnf
    refine SemK.loadAgg (n := 2) (by kernel_rfl) B4.cells rfl ?_
    conv => whnf
    refine (hK _ (Ext.trans e3 e4)).mono ?_
    rintro _ w6 ⟨rfl, e5⟩
    conv => whnf
    refine DrawK.held tabok mixed [(0, false), (1, false), (3, false), (4, false), (2, true), (5, true), (6, true), (7, true), (8, true)] (by kernel_rfl) (by kernel_rfl) ?_
    conv => whnf
    intro w7 e7
    conv => whnf
    refine DSemK.loadAgg (n := 2) (by kernel_rfl) (B3.ext (Ext.trans e4 e5)).cells rfl ?_
    conv => whnf
    refine DSemK.loadAgg (n := 2) (by kernel_rfl) (B4.ext e5).cells rfl ?_
    conv => whnf
    refine (hT1 _ (Ext.trans (Ext.trans (Ext.trans e3 e4) e5) e7)).mono ?_
    rintro _ w14 ⟨a'8, m9, c'10, rfl, N11, O12, e13⟩
    conv => whnf
    refine ⟨(Ext.trans e7 e13), ?_⟩
    conv => whnf
    refine (hT2 _ (Ext.trans (Ext.trans (Ext.trans (Ext.trans e3 e4) e5) e7) e13)).mono ?_
    rintro _ w21 ⟨a'15, m16, c'17, rfl, N18, O19, e20⟩
    conv => whnf
    refine ⟨(Ext.trans (Ext.trans e7 e13) e20), ?_⟩
    conv => whnf
    refine ⟨_, _, _, _, _, _, rfl, (N11.mono (Below.size (Ext.trans (Ext.trans (Ext.trans e3 e4) e5) e7))), (N18.mono (Below.size (Ext.trans (Ext.trans (Ext.trans (Ext.trans e3 e4) e5) e7) e13))), (O12.ext e20), O19, ?_, (Ext.trans (Ext.trans (Ext.trans (Ext.trans (Ext.trans e3 e4) e5) e7) e13) e20)⟩
    · rintro y hy ⟨x, hx, he⟩
      have := O12.lt x hx
      have := N18 y hy
      omega
end Go.Proofs.YtfgbijddjoojbaaGreatDoor
