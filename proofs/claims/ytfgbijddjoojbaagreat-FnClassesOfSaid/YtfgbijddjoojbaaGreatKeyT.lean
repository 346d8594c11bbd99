/- Contracts of functions of the given program, of the reference and of the laws: each says what a call returns, for all arguments that meet the premises that the theorem itself names. -/
import Derived.Test.YtfgbijddjoojbaaGreatKeyV
namespace Go.M
open Go Go.Vc
def hasT (l : List ByteArray) (t : ByteArray) : Bool := l.any fun x => decide (x = t)
def missStep (ks o : List ByteArray) (t : ByteArray) : List ByteArray := if hasT ks t = true ∨ hasT o t = true then o else o ++ [t]
def missM (ks l : List ByteArray) : List ByteArray := l.foldl (missStep ks) []
theorem miss_take {ks l : List ByteArray} {k : Nat} {x : ByteArray} (h : l[k]? = some x) : missM ks (l.take (k + 1)) = missStep ks (missM ks (l.take k)) x := by
  unfold missM
  rw [List.take_add_one, h]
  simp
theorem miss_in {ks l : List ByteArray} {k : Nat} {x : ByteArray} (h : l[k]? = some x) (hx : hasT ks x = true) : missM ks (l.take (k + 1)) = missM ks (l.take k) := by rw [miss_take h, missStep, if_pos (.inl hx)]
theorem miss_had {ks l : List ByteArray} {k : Nat} {x : ByteArray} (h : l[k]? = some x) (hx : hasT (missM ks (l.take k)) x = true) : missM ks (l.take (k + 1)) = missM ks (l.take k) := by rw [miss_take h, missStep, if_pos (.inr hx)]
theorem miss_new {ks l : List ByteArray} {k : Nat} {x : ByteArray} (h : l[k]? = some x) (h1 : hasT ks x = false) (h2 : hasT (missM ks (l.take k)) x = false) : missM ks (l.take (k + 1)) = missM ks (l.take k) ++ [x] := by rw [miss_take h, missStep, if_neg (by simp [h1, h2])]
theorem missStep_len (ks o : List ByteArray) (t : ByteArray) : (missStep ks o t).length ≤ o.length + 1 := by
  unfold missStep
  split
  · omega
  · simp
theorem missFold_len (ks : List ByteArray) : ∀ (l o : List ByteArray), (l.foldl (missStep ks) o).length ≤ o.length + l.length
  | [], o => by simp
  | x :: l, o => by
    have h1 := missFold_len ks l (missStep ks o x)
    have h2 := missStep_len ks o x
    simp only [List.foldl_cons, List.length_cons]
    omega
theorem miss_len (ks l : List ByteArray) : (missM ks l).length ≤ l.length := by
  have := missFold_len ks l []
  unfold missM
  simpa using this
theorem miss_len2 (ks l : List ByteArray) (k : Nat) : (missM ks (l.take k)).length ≤ k := by
  have := miss_len ks (l.take k)
  rw [List.length_take] at this
  omega
theorem miss_congr {ks ks' : List ByteArray} (h : ∀ t, t ∈ ks ↔ t ∈ ks') (l : List ByteArray) : missM ks l = missM ks' l := by
  have e : missStep ks = missStep ks' := by
    funext o t
    have : hasT ks t = hasT ks' t := by
      rw [Bool.eq_iff_iff]
      simp only [hasT, List.any_eq_true, decide_eq_true_eq]
      constructor
      · rintro ⟨x, hx, rfl⟩; exact ⟨x, (h x).1 hx, rfl⟩
      · rintro ⟨x, hx, rfl⟩; exact ⟨x, (h x).2 hx, rfl⟩
    unfold missStep
    rw [this]
  unfold missM
  rw [e]
def missingM (d : List (List Int)) (f : TField) (l : List ByteArray) : List ByteArray × Int :=
  if (keysM d f).2 = 0 then (if l.length ≤ 100 then (missM ((keysM d f).1.map txt) l, 0) else ([], 2)) else ([], (keysM d f).2)
theorem missing_bad {d : List (List Int)} {f : TField} {l : List ByteArray} {cd : Int} (h : keysM d f = ([], cd)) (hc : ¬ cd = 0) : missingM d f l = ([], cd) := by simp [missingM, h, hc]
theorem missing_long {d : List (List Int)} {f : TField} {l : List ByteArray} {K : List (List Int)} (h : keysM d f = (K, 0)) (hl : ¬ l.length ≤ 100) : missingM d f l = ([], 2) := by simp [missingM, h, hl]
theorem missing_good {d : List (List Int)} {f : TField} {l : List ByteArray} {K : List (List Int)} (h : keysM d f = (K, 0)) (hl : l.length ≤ 100) : missingM d f l = (missM (K.map txt) l, 0) := by simp [missingM, h, hl]
theorem missing_len (d : List (List Int)) (f : TField) (l : List ByteArray) : (missingM d f l).1.length ≤ 100 := by
  unfold missingM
  split
  · split
    · rename_i h
      exact Nat.le_trans (miss_len _ _) h
    · simp
  · simp
theorem texts_mem {d : List (List Int)} {f : TField} (hd : deckB d = true) (hf : fieldB f (widthOf d) = true) (x : List Int) : x ∈ textsM (d.map (ckey f)) ↔ x ∈ d.map (ckey f) := by
  rw [← sd_firsts hd hf]
  exact (firsts_mem (sdK_len hd hf) x).trans ((sd_perm d f).map _).mem_iff
theorem texts_miss {d : List (List Int)} {f : TField} (hd : deckB d = true) (hf : fieldB f (widthOf d) = true) (l : List ByteArray) : missM ((textsM (d.map (ckey f))).map txt) l = missM ((d.map (ckey f)).map txt) l := by
  refine miss_congr (fun t => ?_) l
  rw [List.mem_map, List.mem_map]
  constructor
  · rintro ⟨x, hx, rfl⟩; exact ⟨x, (texts_mem hd hf x).1 hx, rfl⟩
  · rintro ⟨x, hx, rfl⟩; exact ⟨x, (texts_mem hd hf x).2 hx, rfl⟩
end Go.M
namespace Go.Proofs.YtfgbijddjoojbaaGreat
open Go Go.RowKit Go.Vc Go.M
theorem spec_MissingTexts {w : World} {a : Option Addr} {n c : Nat} {xs : List (List Int)} (h : ArrS RCard w a n xs) (f : TField) {al : Option Addr} {nl cl : Nat} {ls : List ByteArray} (hl : Arr eS 1 w al nl ls) :
    Does Tryz.prog 19 [.slice a n c, .agg ⟨f.enc⟩, .slice al nl cl] w (fun v w' => ∃ a' n' c', v = .tuple #[.slice a' n' c', .int .i64 (missingM xs f ls).2] ∧ NewAt w.heap.size a' ∧ Own eS w' a' n' 9 (missingM xs f ls).1 ∧ Ext w w') := by
  have hll := hl.len
  have hlm := hl.le
  have hK := fun u (e : Ext w u) => spec_l24Keys (c := c) (h.ext e) f
  rcases keys_cases xs f with ⟨cd, hk, hcd⟩ | ⟨hd, hf, hh, hk⟩
  · have hcd0 : ¬ cd = 0 := by omega
    rw [hk] at hK
    rw [missing_bad hk hcd0]
    refine Does.of_vc tabok Tryz.func19 rfl rfl rfl (by kernel_rfl) ?_; conv => whnf
    refine SemK.box ?_
    intro b1 w1 g1 l1 e1 B1
    conv => whnf
    refine SemK.loadAgg (n := 2) (by kernel_rfl) B1.cells rfl ?_
    conv => whnf
    refine (hK _ e1).mono ?_
    rintro _ w8 ⟨a'2, n'3, c'4, rfl, N5, O6, e7⟩
    conv => whnf
    refine IfB.no (by omega) ?_
    conv => whnf
    refine IfB.eqt (by simp [*]; done) ?_
    conv => whnf
    exact ⟨_, _, _, rfl, NewAt.nil, Own.nil, (Ext.trans e1 e7)⟩
  · rw [hk] at hK
    by_cases h100 : ls.length ≤ 100
    · rw [missing_good hk h100]
      generalize hKK : (xs.map (ckey f)).map txt = K
      simp only [hKK] at hK
      refine Does.of_vc tabok Tryz.func19 rfl rfl rfl (by kernel_rfl) ?_; conv => whnf
      refine SemK.box ?_
      intro b101 w101 g101 l101 e101 B101
      conv => whnf
      refine SemK.loadAgg (n := 2) (by kernel_rfl) B101.cells rfl ?_
      conv => whnf
      refine (hK _ e101).mono ?_
      rintro _ w108 ⟨a'102, n'103, c'104, rfl, N105, O106, e107⟩
      conv => whnf
      refine IfB.no (by omega) ?_
      conv => whnf
      refine SemK.buildSlice mk_40 (vs := []) (by rfl) (by rfl) (by simp [Value.cells]) (by decide) ?_
      intro b109 w109 g109 l109 e109 B109
      have G109 := Grow.new0 (enc := eS) eS_len B109 g109
      conv => whnf
      have X0 : Ext w w108 := Ext.trans e101 e107
      have hA0 := O106.arr eS_len
      refine LoopK.rule [2, 8, 10, 11] (fun (k : Nat) vs w' => ∃ a3 m3 c3, vs = [.slice al nl cl, .slice a'102 n'103 c'104, .slice a3 m3 c3, .int .i64 k] ∧ k ≤ nl ∧ Grow eS 1 w108.heap.size 9 w' a3 m3 c3 (missM K (ls.take k)) ∧ Ext w108 w') (fun k => nl - k) tab tabok (by kernel_rfl) 0 ⟨_, _, _, rfl, by omega, G109, e109⟩ ?_
      rintro k g _ w2 ⟨a3, m3, c3, rfl, hk2, hG, hX2⟩
      have hX := Ext.trans X0 hX2
      have lnG := hG.len
      have hml := miss_len2 K ls k
      rcases Nat.lt_or_ge k nl with hkn | hkn
      · obtain ⟨t, ht⟩ := get_of_lt (l := ls) (k := k) (by omega)
        have hH1 := fun u (e : Ext w108 u) => spec_l09Has (c := c'104) (hA0.ext e) t
        cases hz1 : hasT K t
        · have hz1' : (K.any fun x => decide (x = t)) = false := hz1
          rw [hz1'] at hH1
          have hH2 := fun u (e : Ext w2 u) => spec_l09Has (c := c3) ((hG.own.arr eS_len).ext e) t
          cases hz2 : hasT (missM K (ls.take k)) t
          · have hz2' : ((missM K (ls.take k)).any fun x => decide (x = t)) = false := hz2
            rw [hz2'] at hH2
            have hst := miss_new ht hz1 hz2
            conv => whnf
            refine IfB.yes (by omega) ?_
            conv => whnf
            refine SemK.index (by kernel_rfl) (hl.ext hX) k rfl ht ?_
            intro b111 o111 ha111 hb111
            conv => whnf
            refine SemK.load0 (by kernel_rfl) hb111 rfl ?_
            conv => whnf
            refine (hH1 _ hX2).mono ?_
            rintro _ w113 ⟨rfl, e112⟩
            conv => whnf
            refine SemK.index (by kernel_rfl) (hl.ext (Ext.trans hX e112)) k rfl ht ?_
            intro b115 o115 ha115 hb115
            conv => whnf
            refine SemK.load0 (by kernel_rfl) hb115 rfl ?_
            conv => whnf
            refine (hH2 _ e112).mono ?_
            rintro _ w117 ⟨rfl, e116⟩
            conv => whnf
            refine SemK.index (by kernel_rfl) (hl.ext (Ext.trans (Ext.trans hX e112) e116)) k rfl ht ?_
            intro b119 o119 ha119 hb119
            conv => whnf
            refine SemK.load0 (by kernel_rfl) hb119 rfl ?_
            conv => whnf
            refine SemK.buildSlice mk_40 (vs := [Value.string t]) (by rfl) (by rfl) (by simp [Value.cells]) (by decide) ?_
            intro b120 w120 g120 l120 e120 B120
            have G120 := Grow.of_blk (n := 1) (enc := eS) (xs := [t]) eS_len B120 g120 rfl (by decide)
            conv => whnf
            refine SemK.appendArr0 (enc := eS) mk_40 eS_len (hG.ext (Ext.trans (Ext.trans e112 e116) e120)) (G120.own.arr eS_len) (by intro y _; simp [eS, cellish]) (by omega) (by omega) (Below.size (Ext.trans (Ext.trans (Ext.trans hX2 e112) e116) e120)) ?_
            intro a121 c121 w121 G121 m121 i121
            conv => whnf
            refine SemK.add (((k + 1 : Nat) : Int)) (by omega) (by omega) (by omega) ?_
            conv => whnf
            refine ⟨k + 1, by omega, _, _, _, rfl, by omega, ?_, (Ext.mod_trans (Ext.trans (Ext.trans (Ext.trans hX2 e112) e116) e120) m121 (blkIn_new hG.new))⟩
            · rw [hst]; exact G121
          · have hz2' : ((missM K (ls.take k)).any fun x => decide (x = t)) = true := hz2
            rw [hz2'] at hH2
            have hst := miss_had ht hz2
            conv => whnf
            refine IfB.yes (by omega) ?_
            conv => whnf
            refine SemK.index (by kernel_rfl) (hl.ext hX) k rfl ht ?_
            intro b111 o111 ha111 hb111
            conv => whnf
            refine SemK.load0 (by kernel_rfl) hb111 rfl ?_
            conv => whnf
            refine (hH1 _ hX2).mono ?_
            rintro _ w113 ⟨rfl, e112⟩
            conv => whnf
            refine SemK.index (by kernel_rfl) (hl.ext (Ext.trans hX e112)) k rfl ht ?_
            intro b115 o115 ha115 hb115
            conv => whnf
            refine SemK.load0 (by kernel_rfl) hb115 rfl ?_
            conv => whnf
            refine (hH2 _ e112).mono ?_
            rintro _ w117 ⟨rfl, e116⟩
            conv => whnf
            refine SemK.add (((k + 1 : Nat) : Int)) (by omega) (by omega) (by omega) ?_
            conv => whnf
            refine ⟨k + 1, by omega, _, _, _, rfl, by omega, ?_, (Ext.trans (Ext.trans hX2 e112) e116)⟩
            · rw [hst]; exact hG.ext (Ext.trans e112 e116)
        · have hz1' : (K.any fun x => decide (x = t)) = true := hz1
          rw [hz1'] at hH1
          have hst := miss_in ht hz1
          conv => whnf
          refine IfB.yes (by omega) ?_
          conv => whnf
          refine SemK.index (by kernel_rfl) (hl.ext hX) k rfl ht ?_
          intro b111 o111 ha111 hb111
          conv => whnf
          refine SemK.load0 (by kernel_rfl) hb111 rfl ?_
          conv => whnf
          refine (hH1 _ hX2).mono ?_
          rintro _ w113 ⟨rfl, e112⟩
          conv => whnf
          refine SemK.add (((k + 1 : Nat) : Int)) (by omega) (by omega) (by omega) ?_
          conv => whnf
          refine ⟨k + 1, by omega, _, _, _, rfl, by omega, ?_, (Ext.trans hX2 e112)⟩
          · rw [hst]; exact hG.ext e112
      · obtain rfl : k = nl := by omega
        rw [List.take_of_length_le (by omega)] at hG
        conv => whnf
        refine IfB.no (by omega) ?_
        conv => whnf
        exact ⟨_, _, _, rfl, (hG.new.mono (Below.size X0)), hG.own, hX⟩
    · rw [missing_long hk h100]
      refine Does.of_vc tabok Tryz.func19 rfl rfl rfl (by kernel_rfl) ?_; conv => whnf
      refine SemK.box ?_
      intro b101 w101 g101 l101 e101 B101
      conv => whnf
      refine SemK.loadAgg (n := 2) (by kernel_rfl) B101.cells rfl ?_
      conv => whnf
      refine (hK _ e101).mono ?_
      rintro _ w108 ⟨a'102, n'103, c'104, rfl, N105, O106, e107⟩
      conv => whnf
      refine IfB.yes (by omega) ?_
      conv => whnf
      exact ⟨_, _, _, rfl, NewAt.nil, Own.nil, (Ext.trans e101 e107)⟩
theorem impl_MissingTexts {w : World} {a : Option Addr} {n c : Nat} {xs : List (List Int)} (h : ArrS RCard w a n xs) (f : TField) {al : Option Addr} {nl cl : Nat} {ls : List ByteArray} (hl : Arr eS 1 w al nl ls) :
    Does Tryz.prog 18 [.slice a n c, .agg ⟨f.enc⟩, .slice al nl cl] w (fun v w' => ∃ a' n' c', v = .tuple #[.slice a' n' c', .int .i64 (missingM xs f ls).2] ∧ NewAt w.heap.size a' ∧ Own eS w' a' n' 9 (missingM xs f ls).1 ∧ Ext w w') := by
  have hll := hl.len
  have hlm := hl.le
  have hK := fun u (e : Ext w u) => impl_sortCode (c := c) (h.ext e) f
  rcases keys_cases xs f with ⟨cd, hk, hcd⟩ | ⟨hd, hf, hh, hk⟩
  · have hcd0 : ¬ cd = 0 := by omega
    rw [hk] at hK
    rw [missing_bad hk hcd0]
    refine Does.of_vc tabok Tryz.func18 rfl rfl rfl (by kernel_rfl) ?_; conv => whnf
    refine SemK.box ?_
    intro b1 w1 g1 l1 e1 B1
    conv => whnf
    refine SemK.loadAgg (n := 2) (by kernel_rfl) B1.cells rfl ?_
    conv => whnf
    refine (hK _ e1).mono ?_
    rintro _ w3 ⟨rfl, e2⟩
    conv => whnf
    refine IfB.eqt (by simp [*]; done) ?_
    conv => whnf
    exact ⟨_, _, _, rfl, NewAt.nil, Own.nil, (Ext.trans e1 e2)⟩
  · rw [hk] at hK
    by_cases h100 : ls.length ≤ 100
    · rw [missing_good hk h100, ← texts_miss hd hf]
      have hT := fun u (e : Ext w u) => impl_textsOf (c := c) (h.ext e) hd hf hh
      generalize hKK : (textsM (xs.map (ckey f))).map txt = K
      simp only [hKK] at hT
      refine Does.of_vc tabok Tryz.func18 rfl rfl rfl (by kernel_rfl) ?_; conv => whnf
      refine SemK.box ?_
      intro b101 w101 g101 l101 e101 B101
      conv => whnf
      refine SemK.loadAgg (n := 2) (by kernel_rfl) B101.cells rfl ?_
      conv => whnf
      refine (hK _ e101).mono ?_
      rintro _ w103 ⟨rfl, e102⟩
      conv => whnf
      refine IfB.no (by omega) ?_
      conv => whnf
      refine SemK.loadAgg (n := 2) (by kernel_rfl) (B101.ext e102).cells rfl ?_
      conv => whnf
      refine (hT _ (Ext.trans e101 e102)).mono ?_
      rintro _ w110 ⟨a'104, m105, c'106, rfl, N107, O108, e109⟩
      conv => whnf
      refine SemK.buildSlice mk_40 (vs := []) (by rfl) (by rfl) (by simp [Value.cells]) (by decide) ?_
      intro b111 w111 g111 l111 e111 B111
      have G111 := Grow.new0 (enc := eS) eS_len B111 g111
      conv => whnf
      have X0 : Ext w w110 := Ext.trans (Ext.trans e101 e102) e109
      have hA0 := O108.arr eS_len
      refine LoopK.rule [9, 10, 26, 27, 28] (fun (k : Nat) vs w' => ∃ a3 m3 c3, vs = [.slice a'104 m105 c'106, .slice a3 m3 c3, .slice al nl cl, .int .i64 nl, .int .i64 k] ∧ k ≤ nl ∧ Grow eS 1 w110.heap.size 9 w' a3 m3 c3 (missM K (ls.take k)) ∧ Ext w110 w') (fun k => nl - k) tab tabok (by kernel_rfl) 0 ⟨_, _, _, rfl, by omega, G111, e111⟩ ?_
      rintro k g _ w2 ⟨a3, m3, c3, rfl, hk2, hG, hX2⟩
      have hX := Ext.trans X0 hX2
      have lnG := hG.len
      have hml := miss_len2 K ls k
      rcases Nat.lt_or_ge k nl with hkn | hkn
      · obtain ⟨t, ht⟩ := get_of_lt (l := ls) (k := k) (by omega)
        have hH1 := fun u (e : Ext w110 u) => lib_ContainsStr (c := c'106) (hA0.ext e) t
        cases hz1 : hasT K t
        · have hz1' : (K.any fun x => decide (x = t)) = false := hz1
          rw [hz1'] at hH1
          have hH2 := fun u (e : Ext w2 u) => lib_ContainsStr (c := c3) ((hG.own.arr eS_len).ext e) t
          cases hz2 : hasT (missM K (ls.take k)) t
          · have hz2' : ((missM K (ls.take k)).any fun x => decide (x = t)) = false := hz2
            rw [hz2'] at hH2
            have hst := miss_new ht hz1 hz2
            conv => whnf
            refine IfB.yes (by omega) ?_
            conv => whnf
            refine SemK.index (by kernel_rfl) (hl.ext hX) k rfl ht ?_
            intro b113 o113 ha113 hb113
            conv => whnf
            refine SemK.load0 (by kernel_rfl) hb113 rfl ?_
            conv => whnf
            refine (hH1 _ hX2).mono ?_
            rintro _ w115 ⟨rfl, e114⟩
            conv => whnf
            refine (hH2 _ e114).mono ?_
            rintro _ w117 ⟨rfl, e116⟩
            conv => whnf
            refine SemK.buildSlice mk_40 (vs := [Value.string t]) (by rfl) (by rfl) (by simp [Value.cells]) (by decide) ?_
            intro b118 w118 g118 l118 e118 B118
            have G118 := Grow.of_blk (n := 1) (enc := eS) (xs := [t]) eS_len B118 g118 rfl (by decide)
            conv => whnf
            refine SemK.appendArr0 (enc := eS) mk_40 eS_len (hG.ext (Ext.trans (Ext.trans e114 e116) e118)) (G118.own.arr eS_len) (by intro y _; simp [eS, cellish]) (by omega) (by omega) (Below.size (Ext.trans (Ext.trans (Ext.trans hX2 e114) e116) e118)) ?_
            intro a119 c119 w119 G119 m119 i119
            conv => whnf
            refine SemK.add (((k + 1 : Nat) : Int)) (by omega) (by omega) (by omega) ?_
            conv => whnf
            refine ⟨k + 1, by omega, _, _, _, rfl, by omega, ?_, (Ext.mod_trans (Ext.trans (Ext.trans (Ext.trans hX2 e114) e116) e118) m119 (blkIn_new hG.new))⟩
            · rw [hst]; exact G119
          · have hz2' : ((missM K (ls.take k)).any fun x => decide (x = t)) = true := hz2
            rw [hz2'] at hH2
            have hst := miss_had ht hz2
            conv => whnf
            refine IfB.yes (by omega) ?_
            conv => whnf
            refine SemK.index (by kernel_rfl) (hl.ext hX) k rfl ht ?_
            intro b113 o113 ha113 hb113
            conv => whnf
            refine SemK.load0 (by kernel_rfl) hb113 rfl ?_
            conv => whnf
            refine (hH1 _ hX2).mono ?_
            rintro _ w115 ⟨rfl, e114⟩
            conv => whnf
            refine (hH2 _ e114).mono ?_
            rintro _ w117 ⟨rfl, e116⟩
            conv => whnf
            refine SemK.add (((k + 1 : Nat) : Int)) (by omega) (by omega) (by omega) ?_
            conv => whnf
            refine ⟨k + 1, by omega, _, _, _, rfl, by omega, ?_, (Ext.trans (Ext.trans hX2 e114) e116)⟩
            · rw [hst]; exact hG.ext (Ext.trans e114 e116)
        · have hz1' : (K.any fun x => decide (x = t)) = true := hz1
          rw [hz1'] at hH1
          have hst := miss_in ht hz1
          conv => whnf
          refine IfB.yes (by omega) ?_
          conv => whnf
          refine SemK.index (by kernel_rfl) (hl.ext hX) k rfl ht ?_
          intro b113 o113 ha113 hb113
          conv => whnf
          refine SemK.load0 (by kernel_rfl) hb113 rfl ?_
          conv => whnf
          refine (hH1 _ hX2).mono ?_
          rintro _ w115 ⟨rfl, e114⟩
          conv => whnf
          refine SemK.add (((k + 1 : Nat) : Int)) (by omega) (by omega) (by omega) ?_
          conv => whnf
          refine ⟨k + 1, by omega, _, _, _, rfl, by omega, ?_, (Ext.trans hX2 e114)⟩
          · rw [hst]; exact hG.ext e114
      · obtain rfl : k = nl := by omega
        rw [List.take_of_length_le (by omega)] at hG
        conv => whnf
        refine IfB.no (by omega) ?_
        conv => whnf
        exact ⟨_, _, _, rfl, (hG.new.mono (Below.size X0)), hG.own, hX⟩
    · rw [missing_long hk h100]
      refine Does.of_vc tabok Tryz.func18 rfl rfl rfl (by kernel_rfl) ?_; conv => whnf
      refine SemK.box ?_
      intro b101 w101 g101 l101 e101 B101
      conv => whnf
      refine SemK.loadAgg (n := 2) (by kernel_rfl) B101.cells rfl ?_
      conv => whnf
      refine (hK _ e101).mono ?_
      rintro _ w103 ⟨rfl, e102⟩
      conv => whnf
      refine IfB.yes (by omega) ?_
      conv => whnf
      exact ⟨_, _, _, rfl, NewAt.nil, Own.nil, (Ext.trans e101 e102)⟩
end Go.Proofs.YtfgbijddjoojbaaGreat
