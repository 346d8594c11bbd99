/- Contracts of functions of the given program, of the reference and of the laws: each says what a call returns, for all arguments that meet the premises that the theorem itself names. -/
import Derived.Test.YtfgbijddjoojbaaGreatDoorKeyS
namespace Go.M
open Go Go.Vc
/-- a table over two lists -/
def matM {α : Type} (X Y : List α) (g : α → α → Int) : List (List Int) := X.map fun x => Y.map fun y => g x y
theorem matM_len {α : Type} (X Y : List α) (g : α → α → Int) : (matM X Y g).length = X.length := by simp [matM]
theorem matM_get {α : Type} {X Y : List α} {g : α → α → Int} {p : Nat} {x : α} (h : X[p]? = some x) : (matM X Y g)[p]? = some (Y.map fun y => g x y) := by simp [matM, h]
theorem row_get {α : Type} {Y : List α} {g : α → Int} {q : Nat} {y : α} (h : Y[q]? = some y) : (Y.map g)[q]? = some (g y) := by simp [h]
theorem nodup_at {α : Type} {X : List α} (h : X.Nodup) {i j : Nat} {x : α} (hi : X[i]? = some x) (hj : X[j]? = some x) : i = j := by
  have h1 := List.getElem?_eq_some_iff.1 hi
  have h2 := List.getElem?_eq_some_iff.1 hj
  rcases Nat.lt_trichotomy i j with h3 | h3 | h3
  · have := List.pairwise_iff_getElem.1 h i j h1.1 h2.1 h3
    rw [h1.2, h2.2] at this
    exact absurd rfl this
  · exact h3
  · have := List.pairwise_iff_getElem.1 h j i h2.1 h1.1 h3
    rw [h1.2, h2.2] at this
    exact absurd rfl this
theorem row_step {α : Type} {Y : List α} (hY : Y.Nodup) {g g' : α → Int} {q : Nat} {y : α} (hq : Y[q]? = some y) (h1 : g' y = g y + 1) (h2 : ∀ z, z ≠ y → g' z = g z) : Y.map g' = (Y.map g).set q (g y + 1) := by
  apply List.ext_getElem?
  intro i
  rw [List.getElem?_set]
  by_cases e : q = i
  · subst e
    have hl := (List.getElem?_eq_some_iff.1 hq).1
    rw [if_pos rfl, if_pos (by rw [List.length_map]; exact hl), row_get hq, h1]
  · rw [if_neg e, List.getElem?_map, List.getElem?_map]
    cases hz : Y[i]? with
    | none => rfl
    | some z =>
      have hne : z ≠ y := fun h => e (by subst h; exact nodup_at hY hq hz)
      simp [h2 z hne]
theorem mat_step {α : Type} {X Y : List α} (hX : X.Nodup) (hY : Y.Nodup) {g g' : α → α → Int} {p q : Nat} {x y : α} (hp : X[p]? = some x) (hq : Y[q]? = some y) (h1 : g' x y = g x y + 1) (h2 : ∀ z, z ≠ y → g' x z = g x z) (h3 : ∀ z u, z ≠ x → g' z u = g z u) :
    matM X Y g' = (matM X Y g).set p ((Y.map fun y => g x y).set q (g x y + 1)) := by
  have hr := row_step hY (g := fun y => g x y) (g' := fun y => g' x y) hq h1 h2
  apply List.ext_getElem?
  intro i
  rw [List.getElem?_set]
  by_cases e : p = i
  · subst e
    have hl := (List.getElem?_eq_some_iff.1 hp).1
    rw [if_pos rfl, if_pos (by rw [matM_len]; exact hl), matM_get hp, hr]
  · rw [if_neg e]
    unfold matM
    rw [List.getElem?_map, List.getElem?_map]
    cases hz : X[i]? with
    | none => rfl
    | some z =>
      have hne : z ≠ x := fun h => e (by subst h; exact nodup_at hX hp hz)
      have : (fun y => g' z y) = fun y => g z y := funext fun u => h3 z u hne
      rw [Option.map_some, Option.map_some, this]
theorem Asc.nodup {o : List (List Int)} (h : Asc o) : o.Nodup := h.imp fun h e => by rw [e, cmpR_refl] at h; omega
theorem texts_asc {d : List (List Int)} {f : TField} (hd : deckB d = true) (hf : fieldB f (widthOf d) = true) : (textsM (d.map (ckey f))).Nodup := by
  rw [← sd_firsts hd hf]
  exact (firsts_asc (sdK_len hd hf) (sd_weak hd hf)).nodup
def cellM (d : List (List Int)) (r f : TField) (x y : List Int) : Nat := d.countP fun c => decide (ckey r c = x) && decide (ckey f c = y)
noncomputable def crossM (d : List (List Int)) (r f : TField) : List (List Int) := matM (textsM (d.map (ckey r))) (textsM (d.map (ckey f))) fun x y => ((cellM d r f x y : Nat) : Int)
noncomputable def crossTM (d : List (List Int)) (r f : TField) : List (List Int) × Int := if twoM d r f = 0 then (crossM d r f, 0) else ([], twoM d r f)
theorem crossT_bad {d : List (List Int)} {r c : TField} {cd : Int} (h : twoM d r c = cd) (hc : ¬ cd = 0) : crossTM d r c = ([], cd) := by simp [crossTM, h, hc]
theorem crossT_good {d : List (List Int)} {r c : TField} (h : twoM d r c = 0) : crossTM d r c = (crossM d r c, 0) := by simp [crossTM, h]
theorem cell_take {d : List (List Int)} {r f : TField} {j : Nat} {c x y : List Int} (h : d[j]? = some c) : cellM (d.take (j + 1)) r f x y = if ckey r c = x ∧ ckey f c = y then cellM (d.take j) r f x y + 1 else cellM (d.take j) r f x y := by
  unfold cellM
  rw [List.take_add_one, h, Option.toList_some, List.countP_append]
  by_cases e : ckey r c = x ∧ ckey f c = y
  · rw [if_pos e]; simp [e.1, e.2]
  · rw [if_neg e]
    have : (decide (ckey r c = x) && decide (ckey f c = y)) = false := by
      by_cases e1 : ckey r c = x
      · have e2 : ¬ ckey f c = y := fun e2 => e ⟨e1, e2⟩
        simp [e2]
      · simp [e1]
    simp [this]
theorem cell_yes {d : List (List Int)} {r f : TField} {j : Nat} {c x y : List Int} (h : d[j]? = some c) (h1 : ckey r c = x) (h2 : ckey f c = y) : ((cellM (d.take (j + 1)) r f x y : Nat) : Int) = cellM (d.take j) r f x y + 1 := by rw [cell_take h, if_pos ⟨h1, h2⟩]; rfl
theorem cell_no {d : List (List Int)} {r f : TField} {j : Nat} {c x y : List Int} (h : d[j]? = some c) (h1 : ¬ (ckey r c = x ∧ ckey f c = y)) : cellM (d.take (j + 1)) r f x y = cellM (d.take j) r f x y := by rw [cell_take h, if_neg h1]
theorem cell_le (d : List (List Int)) (r f : TField) (j : Nat) (x y : List Int) : cellM (d.take j) r f x y ≤ j := by
  have : cellM (d.take j) r f x y ≤ (d.take j).length := List.countP_le_length
  rw [List.length_take] at this
  omega
theorem wtAll_rows {xs : List (List Int)} {m : Nat} (h : ∀ x ∈ xs, x.length ≤ m) : wtAll (fun x : List Int => x.length) xs ≤ xs.length * m := by
  induction xs with
  | nil => simp [wtAll]
  | cons x l ih =>
    have h1 := h x (by simp)
    have h2 := ih (fun y hy => h y (by simp [hy]))
    have e : wtAll (fun x : List Int => x.length) (x :: l) = x.length + wtAll (fun x : List Int => x.length) l := wtAll_cons _ _
    rw [e, List.length_cons, Nat.add_mul]
    omega
theorem cross_len (d : List (List Int)) (r f : TField) : (crossTM d r f).1.length ≤ 40 ∧ ∀ x ∈ (crossTM d r f).1, x.length ≤ 40 := by
  rcases two_cases d r f with h | h | h | h
  · rw [crossT_bad h.2 (by omega)]; simp
  · rw [crossT_bad h.2.2 (by omega)]; simp
  · rw [crossT_bad h.2.2.2.2 (by omega)]; simp
  · rw [crossT_good h.2.2.2.2.2]
    have h40 := (deckB_mem h.1).1
    refine ⟨?_, fun x hx => ?_⟩
    · show (crossM d r f).length ≤ 40
      unfold crossM
      rw [matM_len]
      exact Nat.le_trans (texts_len h.1 h.2.1) h40
    · have hx : x ∈ crossM d r f := hx
      simp only [crossM, matM, List.mem_map] at hx
      obtain ⟨z, _, rfl⟩ := hx
      rw [List.length_map]
      exact Nat.le_trans (texts_len h.1 h.2.2.1) h40
theorem cross_take {d : List (List Int)} {r f : TField} {k : Nat} {x : List Int} (h : (textsM (d.map (ckey r)))[k]? = some x) : (crossM d r f).take (k + 1) = (crossM d r f).take k ++ [(textsM (d.map (ckey f))).map fun y => ((cellM d r f x y : Nat) : Int)] := by
  have : (crossM d r f)[k]? = some ((textsM (d.map (ckey f))).map fun y => ((cellM d r f x y : Nat) : Int)) := matM_get h
  rw [List.take_add_one, this]
  rfl
theorem row_take {α : Type} {Y : List α} {g : α → Int} {j : Nat} {y : α} (h : Y[j]? = some y) : (Y.map g).take (j + 1) = (Y.map g).take j ++ [g y] := by
  rw [List.take_add_one, row_get h]
  rfl
theorem mat_zero {α : Type} (X Y : List α) : matM X Y (fun _ _ => 0) = List.replicate X.length (List.replicate Y.length 0) := by
  unfold matM
  rw [List.map_const', List.map_const']
theorem cross_zero (d X Y : List (List Int)) (r f : TField) : matM X Y (fun x y => ((cellM (d.take 0) r f x y : Nat) : Int)) = List.replicate X.length (List.replicate Y.length 0) := by
  rw [← mat_zero]
  rfl
end Go.M
namespace Go.Proofs.YtfgbijddjoojbaaGreatDoor
open Go Go.RowKit Go.Vc Go.M
theorem spec_l24Place {w : World} {a : Option Addr} {n c : Nat} {xs : List ByteArray} (h : Arr eS 1 w a n xs) {t : ByteArray} {p : Nat} (hp : xs[p]? = some t) (hno : ∀ i y, i < p → xs[i]? = some y → ¬ y = t) :
    Does Tryz.prog 50 [.slice a n c, .string t] w (fun v w' => v = .int .i64 p ∧ Ext w w') := by
  have hn := h.len
  have hm := h.le
  have hpl := (List.getElem?_eq_some_iff.1 hp).1
  refine Does.of_vc tabok Tryz.func50 rfl rfl rfl (by kernel_rfl) ?_; conv => whnf
  refine LoopK.rule [0, 1, 5] (fun (k : Nat) vs w' => vs = [.slice a n c, .string t, .int .i64 k] ∧ k ≤ p ∧ Ext w w') (fun k => n - k) tab tabok (by kernel_rfl) 0 ⟨rfl, by omega, Ext.refl _⟩ ?_
  rintro k g _ w3 ⟨rfl, hk, hX⟩
  obtain ⟨x, hx⟩ := get_of_lt (l := xs) (k := k) (by omega)
  by_cases e : k = p
  · subst e
    rw [hx] at hp
    cases hp
    conv => whnf
    refine IfB.yes (by omega) ?_
    conv => whnf
    refine SemK.index (by kernel_rfl) (h.ext hX) k rfl hx ?_
    intro b5 o5 ha5 hb5
    conv => whnf
    refine SemK.load0 (by kernel_rfl) hb5 rfl ?_
    conv => whnf
    refine IfB.yes rfl ?_
    conv => whnf
    exact ⟨rfl, hX⟩
  · have hne := hno k x (by omega) hx
    conv => whnf
    refine IfB.yes (by omega) ?_
    conv => whnf
    refine SemK.index (by kernel_rfl) (h.ext hX) k rfl hx ?_
    intro b5 o5 ha5 hb5
    conv => whnf
    refine SemK.load0 (by kernel_rfl) hb5 rfl ?_
    conv => whnf
    refine IfB.no (by omega) ?_
    conv => whnf
    refine SemK.add (((k + 1 : Nat) : Int)) (by omega) (by omega) (by omega) ?_
    conv => whnf
    exact ⟨k + 1, by omega, rfl, by omega, hX⟩
theorem impl_CrossTable {w : World} {a : Option Addr} {n c : Nat} {xs : List (List Int)} (h : ArrS RCard w a n xs) (r f : TField) :
    Does Tryz.prog 7 [.slice a n c, .agg ⟨r.enc⟩, .agg ⟨f.enc⟩] w (fun v w' => ∃ a' n' c', v = .tuple #[.slice a' n' c', .int .i64 (crossTM xs r f).2] ∧ NewAt w.heap.size a' ∧ OwnN OCard w' w.heap.size w'.heap.size a' n' 41 (crossTM xs r f).1 ∧ Ext w w') := by
  have hn := h.len
  have hm := h.le
  have hK := fun u (e : Ext w u) => impl_crossCode (c := c) (h.ext e) r f
  rcases two_cases xs r f with ⟨_, ht⟩ | ⟨_, _, ht⟩ | ⟨_, _, _, _, ht⟩ | ⟨hd, hf1, hf2, hh1, hh2, ht⟩
  · rw [crossT_bad ht (by omega)]
    rw [ht] at hK
    refine Does.of_vc tabok Tryz.func7 rfl rfl rfl (by kernel_rfl) ?_; conv => whnf
    refine SemK.box ?_
    intro b194 w194 g194 l194 e194 B194
    conv => whnf
    refine SemK.box ?_
    intro b195 w195 g195 l195 e195 B195
    conv => whnf
    refine SemK.loadAgg (n := 2) (by kernel_rfl) (B194.ext e195).cells rfl ?_
    conv => whnf
    refine SemK.loadAgg (n := 2) (by kernel_rfl) B195.cells rfl ?_
    conv => whnf
    refine (hK _ (Ext.trans e194 e195)).mono ?_
    rintro _ w197 ⟨rfl, e196⟩
    conv => whnf
    exact ⟨_, _, _, rfl, NewAt.nil, OwnN.nil, (Ext.trans (Ext.trans e194 e195) e196)⟩
  · rw [crossT_bad ht (by omega)]
    rw [ht] at hK
    refine Does.of_vc tabok Tryz.func7 rfl rfl rfl (by kernel_rfl) ?_; conv => whnf
    refine SemK.box ?_
    intro b199 w199 g199 l199 e199 B199
    conv => whnf
    refine SemK.box ?_
    intro b200 w200 g200 l200 e200 B200
    conv => whnf
    refine SemK.loadAgg (n := 2) (by kernel_rfl) (B199.ext e200).cells rfl ?_
    conv => whnf
    refine SemK.loadAgg (n := 2) (by kernel_rfl) B200.cells rfl ?_
    conv => whnf
    refine (hK _ (Ext.trans e199 e200)).mono ?_
    rintro _ w202 ⟨rfl, e201⟩
    conv => whnf
    exact ⟨_, _, _, rfl, NewAt.nil, OwnN.nil, (Ext.trans (Ext.trans e199 e200) e201)⟩
  · rw [crossT_bad ht (by omega)]
    rw [ht] at hK
    refine Does.of_vc tabok Tryz.func7 rfl rfl rfl (by kernel_rfl) ?_; conv => whnf
    refine SemK.box ?_
    intro b208 w208 g208 l208 e208 B208
    conv => whnf
    refine SemK.box ?_
    intro b209 w209 g209 l209 e209 B209
    conv => whnf
    refine SemK.loadAgg (n := 2) (by kernel_rfl) (B208.ext e209).cells rfl ?_
    conv => whnf
    refine SemK.loadAgg (n := 2) (by kernel_rfl) B209.cells rfl ?_
    conv => whnf
    refine (hK _ (Ext.trans e208 e209)).mono ?_
    rintro _ w211 ⟨rfl, e210⟩
    conv => whnf
    exact ⟨_, _, _, rfl, NewAt.nil, OwnN.nil, (Ext.trans (Ext.trans e208 e209) e210)⟩
  · rw [crossT_good ht]
    rw [ht] at hK
    have hT1 := fun u (e : Ext w u) => impl_textsOf (c := c) (h.ext e) hd hf1 hh1
    have hT2 := fun u (e : Ext w u) => impl_textsOf (c := c) (h.ext e) hd hf2 hh2
    have hdm := deckB_mem hd
    refine Does.of_vc tabok Tryz.func7 rfl rfl rfl (by kernel_rfl) ?_; conv => whnf
    refine SemK.box ?_
    intro b3 w3 g3 l3 e3 B3
    conv => whnf
    refine SemK.box ?_
    intro b4 w4 g4 l4 e4 B4
    conv => whnf
    refine SemK.loadAgg (n := 2) (by kernel_rfl) (B3.ext e4).cells rfl ?_
    conv => whnf
    refine SemK.loadAgg (n := 2) (by kernel_rfl) B4.cells rfl ?_
    conv => whnf
    refine (hK _ (Ext.trans e3 e4)).mono ?_
    rintro _ w6 ⟨rfl, e5⟩
    conv => whnf
    refine SemK.buildSlice mk_29 (vs := []) (by rfl) (by rfl) (by simp [Value.cells]) (by decide) ?_
    intro b7 w7 g7 l7 e7 B7
    conv => whnf
    refine SemK.loadAgg (n := 2) (by kernel_rfl) (B3.ext (Ext.trans (Ext.trans e4 e5) e7)).cells rfl ?_
    conv => whnf
    refine (hT1 _ (Ext.trans (Ext.trans (Ext.trans e3 e4) e5) e7)).mono ?_
    rintro _ w14 ⟨a'8, m9, c'10, rfl, N11, O12, e13⟩
    conv => whnf
    have X0 : Ext w w6 := Ext.trans (Ext.trans e3 e4) e5
    have hok1 := ckey_ok hd hf1 hh1
    have hok2 := ckey_ok hd hf2 hh2
    have hmX := texts_mem hd hf1
    have hmY := texts_mem hd hf2
    have hlX := texts_len hd hf1
    have hlY := texts_len hd hf2
    have hall1 := List.all_eq_true.1 hh1
    have hall2 := List.all_eq_true.1 hh2
    have hcl : (crossM xs r f).length = (textsM (xs.map (ckey r))).length := matM_len _ _ _
    have hct := fun k x => cross_take (d := xs) (r := r) (f := f) (k := k) (x := x)
    generalize hXX : textsM (xs.map (ckey r)) = X at *
    generalize hYY : textsM (xs.map (ckey f)) = Y at *
    have hmX9 : X.length = m9 := by have := O12.1; rw [List.length_map] at this; exact this
    have G7 : GrowN OCard w6.heap.size 41 w7 (some ⟨b7, 0, none⟩) 0 0 [] := GrowN.new0 B7 g7
    have z7 := e7.size
    obtain ⟨hs, hV, hE⟩ := h
    have hVl := hV.len
    refine LoopK.rule [0, 4, 5, 9, 28, 29, 30] (fun (k : Nat) vs w' => ∃ a3 c3, vs = [.slice a n c, .pointer (some ⟨b3, 0, none⟩), .pointer (some ⟨b4, 0, none⟩), .slice a3 k c3, .slice a'8 m9 c'10, .int .i64 m9, .int .i64 k] ∧ k ≤ m9 ∧ GrowN OCard w6.heap.size 41 w' a3 k c3 ((crossM xs r f).take k) ∧ Arr eS 1 w' a'8 m9 (X.map txt) ∧ Apart a3 a'8 ∧ NewAt w6.heap.size a3 ∧ Ext w6 w' ∧ (∀ x, a'8 = some x → x.block < w'.heap.size)) (fun k => m9 - k) tab tabok (by kernel_rfl) 0 ⟨_, _, rfl, by omega, G7.ext e13, O12.arr eS_len, ?_, NewAt.some g7, Ext.trans e7 e13, fun x hx => O12.lt x hx⟩ ?_
    · rintro y hy ⟨x, hx, he⟩
      cases hx
      have := N11 y hy
      have he : y.block = b7 := he
      omega
    rintro k g _ w11 ⟨a3, c3, rfl, hk, hG, hA, hap, hnew, hX2, hA2⟩
    have hXw := Ext.trans X0 hX2
    rcases Nat.lt_or_ge k m9 with hkn | hkn
    · obtain ⟨x, hx⟩ := get_of_lt (l := X) (k := k) (by omega)
      have hxt := mapTxt_get hx
      have okx := hok1 x ((hmX x).1 (List.mem_of_getElem? hx))
      have hst := hct k x hx
      conv => whnf
      refine IfB.yes (by omega) ?_
      conv => whnf
      refine SemK.index (by kernel_rfl) hA k rfl hxt ?_
      intro b31 o31 ha31 hb31
      conv => whnf
      refine SemK.load0 (by kernel_rfl) hb31 rfl ?_
      conv => whnf
      refine SemK.buildSlice mk_41 (vs := []) (by rfl) (by rfl) (by simp [Value.cells]) (by decide) ?_
      intro b32 w32 g32 l32 e32 B32
      have G32 := Grow.new0 (enc := eI) eI_len B32 g32
      conv => whnf
      refine SemK.loadAgg (n := 2) (by kernel_rfl) (B4.ext (Ext.trans (Ext.trans e5 hX2) e32)).cells rfl ?_
      conv => whnf
      refine (hT2 _ (Ext.trans hXw e32)).mono ?_
      rintro _ w33 ⟨a7, m7, c7, rfl, N33, O33, e33⟩
      conv => whnf
      have hmY7 : Y.length = m7 := by have := O33.1; rw [List.length_map] at this; exact this
      refine LoopK.rule [0, 4, 5, 9, 11, 12, 28, 29, 30, 37, 38, 39] (fun (j : Nat) vs w' => ∃ a5 c5, vs = [.slice a n c, .pointer (some ⟨b3, 0, none⟩), .pointer (some ⟨b4, 0, none⟩), .slice a3 k c3, .string (txt x), .slice a5 j c5, .slice a'8 m9 c'10, .int .i64 m9, .int .i64 k, .slice a7 m7 c7, .int .i64 m7, .int .i64 j] ∧ j ≤ m7 ∧ Grow eI 1 w11.heap.size 2 w' a5 j c5 ((Y.map fun y => ((cellM xs r f x y : Nat) : Int)).take j) ∧ Arr eS 1 w' a7 m7 (Y.map txt) ∧ Apart a5 a7 ∧ Ext w11 w' ∧ (∀ x, a7 = some x → x.block < w'.heap.size)) (fun j => m7 - j) tab tabok (by kernel_rfl) 0 ⟨_, _, rfl, by omega, G32.ext e33, O33.arr eS_len, ?_, Ext.trans e32 e33, fun x hx => O33.lt x hx⟩ ?_
      · rintro y hy ⟨x, hx, he⟩
        cases hx
        have := N33 y hy
        have he : y.block = b32 := he
        omega
      rintro j g2 _ w12 ⟨a5, c5, rfl, hj, hG5, hA7, hap5, hX3, hA72⟩
      have hXw3 := Ext.trans hXw hX3
      rcases Nat.lt_or_ge j m7 with hjn | hjn
      · obtain ⟨y, hy⟩ := get_of_lt (l := Y) (k := j) (by omega)
        have hyt := mapTxt_get hy
        have oky := hok2 y ((hmY y).1 (List.mem_of_getElem? hy))
        have hrt := row_take (g := fun y => ((cellM xs r f x y : Nat) : Int)) hy
        conv => whnf
        refine IfB.yes (by omega) ?_
        conv => whnf
        refine SemK.index (by kernel_rfl) hA7 j rfl hyt ?_
        intro b41 o41 ha41 hb41
        conv => whnf
        refine SemK.load0 (by kernel_rfl) hb41 rfl ?_
        conv => whnf
        refine LoopK.rule [0, 4, 5, 9, 11, 12, 14, 15, 28, 29, 30, 37, 38, 39, 43, 44, 45] (fun (i : Nat) vs w' => vs = [.slice a n c, .pointer (some ⟨b3, 0, none⟩), .pointer (some ⟨b4, 0, none⟩), .slice a3 k c3, .string (txt x), .slice a5 j c5, .string (txt y), .int .i64 ((cellM (xs.take i) r f x y : Nat) : Int), .slice a'8 m9 c'10, .int .i64 m9, .int .i64 k, .slice a7 m7 c7, .int .i64 m7, .int .i64 j, .slice a n c, .int .i64 n, .int .i64 i] ∧ i ≤ n ∧ Ext w12 w') (fun i => n - i) tab tabok (by kernel_rfl) 0 ⟨rfl, by omega, Ext.refl _⟩ ?_
        rintro i g3 _ w13 ⟨rfl, hi, hX4⟩
        have hXw4 := Ext.trans hXw3 hX4
        have hcle := cell_le xs r f i x y
        have h40 := hdm.1
        have XB := Ext.trans (Ext.trans hX2 hX3) hX4
        rcases Nat.lt_or_ge i n with hin | hin
        · obtain ⟨d, hd2⟩ := get_of_lt (l := hs) (k := i) (by omega)
          obtain ⟨z, hz, R⟩ := hE.get hd2
          have hzm := List.mem_of_getElem? hz
          have hzd := hdm.2 z hzm
          have fz1 : fieldB r z.length = true := by rw [hzd.2]; exact hf1
          have fz2 : fieldB f z.length = true := by rw [hzd.2]; exact hf2
          have z20 := (cardB_b hzd.1).2.1
          have okz1 := hok1 _ (List.mem_map.2 ⟨z, hzm, rfl⟩)
          have okz2 := hok2 _ (List.mem_map.2 ⟨z, hzm, rfl⟩)
          have hF1 : ∀ u, Ext w u → Does Tryz.prog 47 [.agg ⟨eH d⟩, .agg ⟨r.enc⟩] u (fun v w' => v = .string (txt (ckey r z)) ∧ Ext u w') := fun u e => impl_fieldText ⟨R.1.ext e, R.2⟩ fz1 z20 (hall1 z hzm)
          have hF2 : ∀ u, Ext w u → Does Tryz.prog 47 [.agg ⟨eH d⟩, .agg ⟨f.enc⟩] u (fun v w' => v = .string (txt (ckey f z)) ∧ Ext u w') := fun u e => impl_fieldText ⟨R.1.ext e, R.2⟩ fz2 z20 (hall2 z hzm)
          have B3' := B3.ext (Ext.trans (Ext.trans e4 e5) XB)
          have B4' := B4.ext (Ext.trans e5 XB)
          by_cases hzx : ckey r z = x
          · have hq1 : txt (ckey r z) = txt x := by rw [hzx]
            by_cases hzy : ckey f z = y
            · have hq2 : txt (ckey f z) = txt y := by rw [hzy]
              have hcs := cell_yes hz hzx hzy
              conv => whnf
              refine IfB.yes (by omega) ?_
              conv => whnf
              refine SemK.index (by kernel_rfl) (hV.ext hXw4) i rfl hd2 ?_
              intro b74 o74 ha74 hb74
              conv => whnf
              refine SemK.loadAgg (n := 1) (by kernel_rfl) hb74 rfl ?_
              conv => whnf
              refine SemK.alloc (z := .agg #[.slice none 0 0]) (by kernel_rfl) ?_
              intro b75 w75 g75 l75 e75 B75
              conv => whnf
              refine SemK.storeAll (vs := [Value.slice d.a d.n d.c]) (by kernel_rfl) B75 rfl rfl (by simp [cellish]) ?_
              intro w76 c76 B76
              conv => whnf
              refine SemK.loadAgg (n := 1) (by kernel_rfl) B76.cells rfl ?_
              conv => whnf
              refine SemK.loadAgg (n := 2) (by kernel_rfl) (B3'.ext (Ext.but_trans e75 c76.but g75)).cells rfl ?_
              conv => whnf
              refine (hF1 _ (Ext.but_trans (Ext.trans hXw4 e75) c76.but (Nat.le_trans (Below.size hXw4) g75))).mono ?_
              rintro _ w78 ⟨rfl, e77⟩
              conv => whnf
              refine IfB.yes (by omega) ?_
              conv => whnf
              refine SemK.loadAgg (n := 1) (by kernel_rfl) (B76.ext e77).cells rfl ?_
              conv => whnf
              refine SemK.loadAgg (n := 2) (by kernel_rfl) (B4'.ext (Ext.trans (Ext.but_trans e75 c76.but g75) e77)).cells rfl ?_
              conv => whnf
              refine (hF2 _ (Ext.trans (Ext.but_trans (Ext.trans hXw4 e75) c76.but (Nat.le_trans (Below.size hXw4) g75)) e77)).mono ?_
              rintro _ w80 ⟨rfl, e79⟩
              conv => whnf
              refine IfB.yes (by omega) ?_
              conv => whnf
              refine SemK.add (((cellM (List.take i xs) r f x y + 1 : Nat) : Int)) (by omega) (by omega) (by omega) ?_
              conv => whnf
              refine SemK.add (((i + 1 : Nat) : Int)) (by omega) (by omega) (by omega) ?_
              conv => whnf
              have hcs' : cellM (xs.take (i + 1)) r f x y = cellM (xs.take i) r f x y + 1 := by omega
              rw [← hcs']
              exact ⟨i + 1, by omega, rfl, by omega, Ext.trans (Ext.trans (Ext.but_trans (Ext.trans hX4 e75) c76.but (Nat.le_trans (Below.size hX4) g75)) e77) e79⟩
            · have hq2 : ¬ txt (ckey f z) = txt y := fun e => hzy (txt_inj okz2 oky e)
              have hcs := cell_no (r := r) (f := f) (x := x) (y := y) hz (fun e => hzy e.2)
              conv => whnf
              refine IfB.yes (by omega) ?_
              conv => whnf
              refine SemK.index (by kernel_rfl) (hV.ext hXw4) i rfl hd2 ?_
              intro b74 o74 ha74 hb74
              conv => whnf
              refine SemK.loadAgg (n := 1) (by kernel_rfl) hb74 rfl ?_
              conv => whnf
              refine SemK.alloc (z := .agg #[.slice none 0 0]) (by kernel_rfl) ?_
              intro b75 w75 g75 l75 e75 B75
              conv => whnf
              refine SemK.storeAll (vs := [Value.slice d.a d.n d.c]) (by kernel_rfl) B75 rfl rfl (by simp [cellish]) ?_
              intro w76 c76 B76
              conv => whnf
              refine SemK.loadAgg (n := 1) (by kernel_rfl) B76.cells rfl ?_
              conv => whnf
              refine SemK.loadAgg (n := 2) (by kernel_rfl) (B3'.ext (Ext.but_trans e75 c76.but g75)).cells rfl ?_
              conv => whnf
              refine (hF1 _ (Ext.but_trans (Ext.trans hXw4 e75) c76.but (Nat.le_trans (Below.size hXw4) g75))).mono ?_
              rintro _ w78 ⟨rfl, e77⟩
              conv => whnf
              refine IfB.yes (by omega) ?_
              conv => whnf
              refine SemK.loadAgg (n := 1) (by kernel_rfl) (B76.ext e77).cells rfl ?_
              conv => whnf
              refine SemK.loadAgg (n := 2) (by kernel_rfl) (B4'.ext (Ext.trans (Ext.but_trans e75 c76.but g75) e77)).cells rfl ?_
              conv => whnf
              refine (hF2 _ (Ext.trans (Ext.but_trans (Ext.trans hXw4 e75) c76.but (Nat.le_trans (Below.size hXw4) g75)) e77)).mono ?_
              rintro _ w80 ⟨rfl, e79⟩
              conv => whnf
              refine IfB.no (by omega) ?_
              conv => whnf
              refine SemK.add (((i + 1 : Nat) : Int)) (by omega) (by omega) (by omega) ?_
              conv => whnf
              rw [← hcs]
              exact ⟨i + 1, by omega, rfl, by omega, Ext.trans (Ext.trans (Ext.but_trans (Ext.trans hX4 e75) c76.but (Nat.le_trans (Below.size hX4) g75)) e77) e79⟩
          · have hq1 : ¬ txt (ckey r z) = txt x := fun e => hzx (txt_inj okz1 okx e)
            have hcs := cell_no (r := r) (f := f) (x := x) (y := y) hz (fun e => hzx e.1)
            conv => whnf
            refine IfB.yes (by omega) ?_
            conv => whnf
            refine SemK.index (by kernel_rfl) (hV.ext hXw4) i rfl hd2 ?_
            intro b74 o74 ha74 hb74
            conv => whnf
            refine SemK.loadAgg (n := 1) (by kernel_rfl) hb74 rfl ?_
            conv => whnf
            refine SemK.alloc (z := .agg #[.slice none 0 0]) (by kernel_rfl) ?_
            intro b75 w75 g75 l75 e75 B75
            conv => whnf
            refine SemK.storeAll (vs := [Value.slice d.a d.n d.c]) (by kernel_rfl) B75 rfl rfl (by simp [cellish]) ?_
            intro w76 c76 B76
            conv => whnf
            refine SemK.loadAgg (n := 1) (by kernel_rfl) B76.cells rfl ?_
            conv => whnf
            refine SemK.loadAgg (n := 2) (by kernel_rfl) (B3'.ext (Ext.but_trans e75 c76.but g75)).cells rfl ?_
            conv => whnf
            refine (hF1 _ (Ext.but_trans (Ext.trans hXw4 e75) c76.but (Nat.le_trans (Below.size hXw4) g75))).mono ?_
            rintro _ w78 ⟨rfl, e77⟩
            conv => whnf
            refine IfB.no (by omega) ?_
            conv => whnf
            refine SemK.add (((i + 1 : Nat) : Int)) (by omega) (by omega) (by omega) ?_
            conv => whnf
            rw [← hcs]
            exact ⟨i + 1, by omega, rfl, by omega, (Ext.trans (Ext.but_trans (Ext.trans hX4 e75) c76.but (Nat.le_trans (Below.size hX4) g75)) e77)⟩
        · rw [List.take_of_length_le (by omega)] at hcle ⊢
          conv => whnf
          refine IfB.no (by omega) ?_
          conv => whnf
          refine SemK.buildSlice mk_41 (vs := [Value.int IntKind.i64 ↑(cellM xs r f x y)]) (by rfl) (by rfl) (by simp [Value.cells]) (by decide) ?_
          intro b73 w73 g73 l73 e73 B73
          have G73 := Grow.of_blk (n := 1) (enc := eI) (xs := [↑(cellM xs r f x y)]) eI_len B73 g73 rfl (by decide)
          conv => whnf
          refine SemK.appendArr0 (enc := eI) mk_41 eI_len (hG5.ext (Ext.trans hX4 e73)) (G73.own.arr eI_len) (by intro y _; simp [eI, cellish]) (by omega) (by omega) (Below.size (Ext.trans (Ext.trans hX3 hX4) e73)) ?_
          intro a74 c74 w74 G74 m74 i74
          conv => whnf
          refine SemK.add (((j + 1 : Nat) : Int)) (by omega) (by omega) (by omega) ?_
          conv => whnf
          refine ⟨j + 1, by omega, _, _, rfl, by omega, ?_, ((hA7.ext (Ext.trans hX4 e73)).mod m74 hap5), ?_, (Ext.mod_trans (Ext.trans (Ext.trans hX3 hX4) e73) m74 (blkIn_new hG5.new)), ?_⟩
          · rw [hrt]; exact G74
          · exact Apart.app hap5 i74 (fun x hx => by
              have := hA72 x hx
              have := hX4.size
              have := e73.size
              omega)
          · intro x hx
            have := hA72 x hx
            have := hX4.size
            have := e73.size
            have := m74.size
            omega
      · obtain rfl : j = m7 := by omega
        rw [List.take_of_length_le (by rw [List.length_map]; omega)] at hG5
        conv => whnf
        refine IfB.no (by omega) ?_
        conv => whnf
        refine SemK.buildSlice mk_29 (vs := [Value.slice a5 j c5]) (by rfl) (by rfl) (by simp [Value.cells]) (by decide) ?_
        intro b73 w73 g73 l73 e73 B73
        conv => whnf
        have C73 : Cells w73 b73 0 (eH ⟨a5, j, c5⟩) := B73.cells
        refine SemK.appendN mk_29 rfl hG (Below.size hX2) (Ext.trans hX3 e73) (OA.of ((hG5.ext e73).own) hG5.le.1) (InIv.blks hG5.new (fun x hx => Nat.lt_of_lt_of_le (hG5.lt x hx) e73.size)) C73 (by omega) (by omega) ?_
        intro a75 c75 w75 G75 m75 i75
        conv => whnf
        refine SemK.add (((k + 1 : Nat) : Int)) (by omega) (by omega) (by omega) ?_
        conv => whnf
        refine ⟨k + 1, by omega, _, _, rfl, by omega, by rw [hst]; exact G75, (hA.ext (Ext.trans hX3 e73)).mod m75 hap, ?_, ?_, Ext.mod_trans (Ext.trans (Ext.trans hX2 hX3) e73) m75 (blkIn_new hnew), fun x hx => ?_⟩
        · exact Apart.app hap i75 (fun x hx => by
            have := hA2 x hx
            have := hX3.size
            have := e73.size
            omega)
        · intro x hx
          rcases i75 x.block ⟨x, hx, rfl⟩ with hk2 | hk2
          · exact blkIn_new hnew _ hk2
          · have := hX2.size
            have := hX3.size
            have := e73.size
            omega
        · have := hA2 x hx
          have := hX3.size
          have := e73.size
          have := m75.size
          omega
    · obtain rfl : k = m9 := by omega
      rw [List.take_of_length_le (by omega)] at hG
      conv => whnf
      refine IfB.no (by omega) ?_
      conv => whnf
      exact ⟨_, _, _, rfl, hnew.mono (Below.size X0), hG.ownN.wide (Below.size X0) (Nat.le_refl _), hXw⟩
theorem spec_CrossTable {w : World} {a : Option Addr} {n c : Nat} {xs : List (List Int)} (h : ArrS RCard w a n xs) (r f : TField) :
    Does Tryz.prog 8 [.slice a n c, .agg ⟨r.enc⟩, .agg ⟨f.enc⟩] w (fun v w' => ∃ a' n' c', v = .tuple #[.slice a' n' c', .int .i64 (crossTM xs r f).2] ∧ NewAt w.heap.size a' ∧ OwnN OCard w' w.heap.size w'.heap.size a' n' 41 (crossTM xs r f).1 ∧ Ext w w') := by
  have hn := h.len
  have hK := fun u (e : Ext w u) => spec_l24Two (c := c) (h.ext e) r f
  rcases two_cases xs r f with ⟨_, ht⟩ | ⟨_, _, ht⟩ | ⟨_, _, _, _, ht⟩ | ⟨hd, hf1, hf2, hh1, hh2, ht⟩
  · rw [crossT_bad ht (by omega)]
    rw [ht] at hK
    refine Does.of_vc tabok Tryz.func8 rfl rfl rfl (by kernel_rfl) ?_; conv => whnf
    refine SemK.box ?_
    intro b179 w179 g179 l179 e179 B179
    conv => whnf
    refine SemK.box ?_
    intro b180 w180 g180 l180 e180 B180
    conv => whnf
    refine SemK.loadAgg (n := 2) (by kernel_rfl) (B179.ext e180).cells rfl ?_
    conv => whnf
    refine SemK.loadAgg (n := 2) (by kernel_rfl) B180.cells rfl ?_
    conv => whnf
    refine (hK _ (Ext.trans e179 e180)).mono ?_
    rintro _ w191 ⟨a1181, n1182, c1183, a2184, n2185, c2186, rfl, N187, N188, q189, e190⟩
    conv => whnf
    exact ⟨_, _, _, rfl, NewAt.nil, OwnN.nil, (Ext.trans (Ext.trans e179 e180) e190)⟩
  · rw [crossT_bad ht (by omega)]
    rw [ht] at hK
    refine Does.of_vc tabok Tryz.func8 rfl rfl rfl (by kernel_rfl) ?_; conv => whnf
    refine SemK.box ?_
    intro b184 w184 g184 l184 e184 B184
    conv => whnf
    refine SemK.box ?_
    intro b185 w185 g185 l185 e185 B185
    conv => whnf
    refine SemK.loadAgg (n := 2) (by kernel_rfl) (B184.ext e185).cells rfl ?_
    conv => whnf
    refine SemK.loadAgg (n := 2) (by kernel_rfl) B185.cells rfl ?_
    conv => whnf
    refine (hK _ (Ext.trans e184 e185)).mono ?_
    rintro _ w196 ⟨a1186, n1187, c1188, a2189, n2190, c2191, rfl, N192, N193, q194, e195⟩
    conv => whnf
    exact ⟨_, _, _, rfl, NewAt.nil, OwnN.nil, (Ext.trans (Ext.trans e184 e185) e195)⟩
  · rw [crossT_bad ht (by omega)]
    rw [ht] at hK
    refine Does.of_vc tabok Tryz.func8 rfl rfl rfl (by kernel_rfl) ?_; conv => whnf
    refine SemK.box ?_
    intro b193 w193 g193 l193 e193 B193
    conv => whnf
    refine SemK.box ?_
    intro b194 w194 g194 l194 e194 B194
    conv => whnf
    refine SemK.loadAgg (n := 2) (by kernel_rfl) (B193.ext e194).cells rfl ?_
    conv => whnf
    refine SemK.loadAgg (n := 2) (by kernel_rfl) B194.cells rfl ?_
    conv => whnf
    refine (hK _ (Ext.trans e193 e194)).mono ?_
    rintro _ w205 ⟨a1195, n1196, c1197, a2198, n2199, c2200, rfl, N201, N202, q203, e204⟩
    conv => whnf
    exact ⟨_, _, _, rfl, NewAt.nil, OwnN.nil, (Ext.trans (Ext.trans e193 e194) e204)⟩
  · rw [crossT_good ht]
    rw [ht] at hK
    have hok1 := ckey_ok hd hf1 hh1
    have hok2 := ckey_ok hd hf2 hh2
    have h40 := (deckB_mem hd).1
    have hfb1 := fieldB_b hf1
    have hfb2 := fieldB_b hf2
    have hwb := widthOf_b hd
    have hfl1 : fLen r ≤ 1000 := by unfold fLen; omega
    have hfl2 : fLen f ≤ 1000 := by unfold fLen; omega
    have hT1 := fun u a n' c (hA : Arr eS 1 u a n' ((xs.map (ckey r)).map txt)) => spec_l24Texts (c := c) hA hok1 hfl1 (by have := hA.len; rw [List.length_map, List.length_map] at this; omega)
    have hT2 := fun u a n' c (hA : Arr eS 1 u a n' ((xs.map (ckey f)).map txt)) => spec_l24Texts (c := c) hA hok2 hfl2 (by have := hA.len; rw [List.length_map, List.length_map] at this; omega)
    refine Does.of_vc tabok Tryz.func8 rfl rfl rfl (by kernel_rfl) ?_; conv => whnf
    refine SemK.box ?_
    intro b41 w41 g41 l41 e41 B41
    conv => whnf
    refine SemK.box ?_
    intro b42 w42 g42 l42 e42 B42
    conv => whnf
    refine SemK.loadAgg (n := 2) (by kernel_rfl) (B41.ext e42).cells rfl ?_
    conv => whnf
    refine SemK.loadAgg (n := 2) (by kernel_rfl) B42.cells rfl ?_
    conv => whnf
    refine (hK _ (Ext.trans e41 e42)).mono ?_
    rintro _ w53 ⟨a143, n144, c145, a246, n247, c248, rfl, N49, N50, q51, e52⟩
    conv => whnf
    have O1 := (q51 rfl).1
    have O2 := (q51 rfl).2
    refine (hT1 _ _ _ _ (O1.arr eS_len)).mono ?_
    rintro _ w60 ⟨a'54, m55, c'56, rfl, N57, O58, e59⟩
    conv => whnf
    refine (hT2 _ _ _ _ ((O2.ext e59).arr eS_len)).mono ?_
    rintro _ w67 ⟨a'61, m62, c'63, rfl, N64, O65, e66⟩
    conv => whnf
    refine SemK.buildSlice mk_29 (vs := []) (by rfl) (by rfl) (by simp [Value.cells]) (by decide) ?_
    intro b249 w249 g249 l249 e249 B249
    conv => whnf
    have X0 : Ext w w67 := Ext.trans (Ext.trans (Ext.trans (Ext.trans e41 e42) e52) e59) e66
    have hmX := texts_mem hd hf1
    have hmY := texts_mem hd hf2
    have hlX := texts_len hd hf1
    have hlY := texts_len hd hf2
    have hnX := texts_asc hd hf1
    have hnY := texts_asc hd hf2
    have hcr : crossM xs r f = matM (textsM (xs.map (ckey r))) (textsM (xs.map (ckey f))) fun x y => ((cellM xs r f x y : Nat) : Int) := rfl
    have hzero := cross_zero xs (textsM (xs.map (ckey r))) (textsM (xs.map (ckey f))) r f
    generalize hXX : textsM (xs.map (ckey r)) = X at *
    generalize hYY : textsM (xs.map (ckey f)) = Y at *
    have hX5 : X.length = m55 := by have := O58.1; rw [List.length_map] at this; exact this
    have hY5 : Y.length = m62 := by have := O65.1; rw [List.length_map] at this; exact this
    have A1 := (O1.ext (Ext.trans e59 e66)).arr eS_len
    have A2 := (O2.ext (Ext.trans e59 e66)).arr eS_len
    have AX := (O58.ext e66).arr eS_len
    have AY := O65.arr eS_len
    have l1 : xs.length = n144 := by have := O1.1; rw [List.length_map, List.length_map] at this; exact this
    have l2 : xs.length = n247 := by have := O2.1; rw [List.length_map, List.length_map] at this; exact this
    have G249 : GrowN OCard w67.heap.size 41 w249 (some ⟨b249, 0, none⟩) 0 0 [] := GrowN.new0 B249 g249
    refine LoopK.rule [8, 9, 11, 12, 13, 14] (fun (k : Nat) vs w' => ∃ a3 c3, vs = [.slice a143 n144 c145, .slice a246 n247 c248, .slice a'54 m55 c'56, .slice a'61 m62 c'63, .slice a3 k c3, .int .i64 k] ∧ k ≤ m55 ∧ GrowN OCard w67.heap.size 41 w' a3 k c3 (List.replicate k (List.replicate m62 0)) ∧ NewAt w67.heap.size a3 ∧ Ext w67 w') (fun k => m55 - k) tab tabok (by kernel_rfl) 0 ⟨_, _, rfl, by omega, G249, NewAt.some g249, e249⟩ ?_
    rintro k g _ w11 ⟨a3, c3, rfl, hk, hG, hnew, hX2⟩
    rcases Nat.lt_or_ge k m55 with hkn | hkn
    · have hst : List.replicate (k + 1) (List.replicate m62 (0 : Int)) = List.replicate k (List.replicate m62 0) ++ [List.replicate m62 0] := by rw [List.replicate_succ', List.append_cancel_left_eq]
      conv => whnf
      refine IfB.yes (by omega) ?_
      conv => whnf
      refine SemK.make mk_41 m62 rfl (by omega) (by omega) ?_
      intro b32 w32 g32 l32 e32 B32
      have G32 := Grow.of_make (enc := eI) (z := (0 : Int)) eI_len rfl B32 g32 (by omega)
      conv => whnf
      refine SemK.buildSlice mk_29 (vs := [Value.slice (some ⟨b32, 0, none⟩) m62 m62]) (by rfl) (by rfl) (by simp [Value.cells]) (by decide) ?_
      intro b73 w73 g73 l73 e73 B73
      conv => whnf
      have C73 : Cells w73 b73 0 (eH ⟨some ⟨b32, 0, none⟩, m62, m62⟩) := B73.cells
      refine SemK.appendN mk_29 rfl hG (Below.size hX2) (Ext.trans e32 e73) (OA.of ((G32.ext e73).own) (Nat.le_refl _)) (InIv.blks G32.new (fun x hx => Nat.lt_of_lt_of_le (G32.lt x hx) e73.size)) C73 (by omega) (by omega) ?_
      intro a75 c75 w75 G75 m75 i75
      conv => whnf
      refine SemK.add (((k + 1 : Nat) : Int)) (by omega) (by omega) (by omega) ?_
      conv => whnf
      refine ⟨k + 1, by omega, _, _, rfl, by omega, by rw [hst]; exact G75, ?_, Ext.mod_trans (Ext.trans (Ext.trans hX2 e32) e73) m75 (blkIn_new hnew)⟩
      intro x hx
      rcases i75 x.block ⟨x, hx, rfl⟩ with hk2 | hk2
      · exact blkIn_new hnew _ hk2
      · have := hX2.size
        have := e32.size
        have := e73.size
        omega
    · obtain rfl : k = m55 := by omega
      rw [← hX5, ← hY5, ← hzero] at hG
      have lG := hG.le.1
      obtain ⟨fp, hO, hIv⟩ := hG.ownN
      conv => whnf
      refine IfB.no (by omega) ?_
      conv => whnf
      rw [hX5] at hO
      have z11 : fp.Nodup := hIv.1
      refine LoopK.rule [8, 9, 11, 12, 13, 15] (fun (i : Nat) vs w' => vs = [.slice a143 n144 c145, .slice a246 n247 c248, .slice a'54 k c'56, .slice a'61 m62 c'63, .slice a3 k c3, .int .i64 i] ∧ i ≤ xs.length ∧ OwnS OCard w' a3 k 41 (matM X Y fun x y => ((cellM (xs.take i) r f x y : Nat) : Int)) fp ∧ Ext w67 w' ∧ w11.heap.size ≤ w'.heap.size) (fun i => xs.length - i) tab tabok (by kernel_rfl) 0 ⟨rfl, by omega, hO, hX2, Nat.le_refl _⟩ ?_
      rintro i g2 _ w12 ⟨rfl, hi, hO2, hX3, hsz⟩
      rcases Nat.lt_or_ge i xs.length with hin | hin
      · obtain ⟨z, hz⟩ := get_of_lt (l := xs) (k := i) hin
        have hzm := List.mem_of_getElem? hz
        have hx1 : (xs.map (ckey r))[i]? = some (ckey r z) := by rw [List.getElem?_map, hz]; rfl
        have hy1 : (xs.map (ckey f))[i]? = some (ckey f z) := by rw [List.getElem?_map, hz]; rfl
        have hx1t := mapTxt_get hx1
        have hy1t := mapTxt_get hy1
        obtain ⟨p, hp⟩ := List.mem_iff_getElem?.1 ((hmX (ckey r z)).2 (List.mem_of_getElem? hx1))
        obtain ⟨q, hq⟩ := List.mem_iff_getElem?.1 ((hmY (ckey f z)).2 (List.mem_of_getElem? hy1))
        have hpl := (List.getElem?_eq_some_iff.1 hp).1
        have hql := (List.getElem?_eq_some_iff.1 hq).1
        have okx := hok1 _ (List.mem_of_getElem? hx1)
        have oky := hok2 _ (List.mem_of_getElem? hy1)
        have hP1 : ∀ u, Ext w67 u → Does Tryz.prog 50 [.slice a'54 k c'56, .string (txt (ckey r z))] u (fun v w' => v = .int .i64 p ∧ Ext u w') := fun u e => spec_l24Place (AX.ext e) (mapTxt_get hp) (fun j y hj hy he => by
          rw [List.getElem?_map] at hy
          cases hXj : X[j]? with
          | none => rw [hXj] at hy; cases hy
          | some s =>
            rw [hXj] at hy
            cases hy
            have hs := txt_inj (hok1 s ((hmX s).1 (List.mem_of_getElem? hXj))) okx he
            subst hs
            have := nodup_at hnX hXj hp
            omega)
        have hP2 : ∀ u, Ext w67 u → Does Tryz.prog 50 [.slice a'61 m62 c'63, .string (txt (ckey f z))] u (fun v w' => v = .int .i64 q ∧ Ext u w') := fun u e => spec_l24Place (AY.ext e) (mapTxt_get hq) (fun j y hj hy he => by
          rw [List.getElem?_map] at hy
          cases hYj : Y[j]? with
          | none => rw [hYj] at hy; cases hy
          | some s =>
            rw [hYj] at hy
            cases hy
            have hs := txt_inj (hok2 s ((hmY s).1 (List.mem_of_getElem? hYj))) oky he
            subst hs
            have := nodup_at hnY hYj hq
            omega)
        have hst := mat_step hnX hnY (g := fun x y => ((cellM (xs.take i) r f x y : Nat) : Int)) (g' := fun x y => ((cellM (xs.take (i + 1)) r f x y : Nat) : Int)) hp hq (cell_yes hz rfl rfl) (fun u hu => by rw [cell_no hz (fun e => hu e.2.symm)]) (fun u v hu => by rw [cell_no hz (fun e => hu e.1.symm)])
        obtain ⟨b5, d5, f5, rfl, hb5, hcell, hE5, hnd5, hsub5, hbf5, hback⟩ := hO2.focus z11 (matM_get hp)
        obtain ⟨⟨t5, hOwn⟩, hdc, rfl⟩ := hE5
        have hrow := row_get (g := fun y => ((cellM (xs.take i) r f (ckey r z) y : Nat) : Int)) hq
        have hdn := hOwn.1
        rw [List.length_map] at hdn
        obtain ⟨bb, hbb⟩ := hOwn.some (by omega)
        obtain ⟨da, dn, dc⟩ := d5
        simp only at hbb hdn hdc hOwn hcell hback hsub5 hbf5
        subst hbb
        have hcle := cell_le xs r f i (ckey r z) (ckey f z)
        conv => whnf
        refine IfB.yes (by omega) ?_
        conv => whnf
        refine DrawK.writes tabok mixed [(0, .any), (1, .any), (2, .any), (3, .any), (4, .any), (9, .any), (10, .any), (11, .any), (12, .any), (5, .held), (13, .held), (6, .run), (7, .any), (8, .held), (14, .run), (15, .any), (16, .held), (17, .any), (18, .any), (19, .write)] (by kernel_rfl) (by kernel_rfl) ?_
        conv => whnf
        intro w250 e250
        conv => whnf
        obtain ⟨b252, rfl⟩ := ((O1.ext (Ext.trans (Ext.trans e59 e66) hX3))).some (by omega)
        have lb252 : b252 < w53.heap.size := O1.lt _ rfl
        refine PSemK.indexOwn (sz := 1) (by kernel_rfl) i rfl (by omega) ?_
        have hb252 := Own.elem eS_len (O1.ext (Ext.trans (Ext.trans e59 e66) hX3)) hx1t
        conv => whnf
        obtain ⟨b254, rfl⟩ := ((O2.ext (Ext.trans (Ext.trans e59 e66) hX3))).some (by omega)
        have lb254 : b254 < w53.heap.size := O2.lt _ rfl
        refine PSemK.indexOwn (sz := 1) (by kernel_rfl) i rfl (by omega) ?_
        have hb254 := Own.elem eS_len (O2.ext (Ext.trans (Ext.trans e59 e66) hX3)) hy1t
        conv => whnf
        refine DSemK.load0 (by kernel_rfl) hb252 rfl ?_
        conv => whnf
        refine DSemK.load0 (by kernel_rfl) hb254 rfl ?_
        conv => whnf
        refine (hP1 _ (Ext.trans hX3 e250)).mono ?_
        rintro _ w256 ⟨rfl, e255⟩
        conv => whnf
        refine ⟨(Ext.trans e250 e255), ?_⟩
        conv => whnf
        refine PSemK.indexOwn (sz := 1) (by kernel_rfl) p rfl (by omega) ?_
        conv => whnf
        refine DSemK.load0 (by kernel_rfl) hcell rfl ?_
        conv => whnf
        refine (hP2 _ (Ext.trans (Ext.trans hX3 e250) e255)).mono ?_
        rintro _ w258 ⟨rfl, e257⟩
        conv => whnf
        have E258 := Ext.trans (Ext.trans e250 e255) e257
        refine ⟨E258, ?_⟩
        conv => whnf
        refine PSemK.indexOwn (sz := 1) (by kernel_rfl) q rfl (show q < dn from by omega) ?_
        conv => whnf
        refine DSemK.load0 (by kernel_rfl) (Own.elem eI_len hOwn hrow) rfl ?_
        conv => whnf
        refine PSemK.add _ rfl (by omega) (by omega) ?_
        conv => whnf
        refine PSemK.indexOwn (sz := 1) (by kernel_rfl) q rfl (show q < dn from by omega) ?_
        conv => whnf
        refine SemK.storeOwn1 (k := q) (j := 0) (by kernel_rfl) eI_len (hOwn.ext E258) hrow (by decide) rfl (((cellM (xs.take i) r f (ckey r z) (ckey f z) : Nat) : Int) + 1) rfl ?_
        intro w29 c29 O29
        conv => whnf
        refine SemK.add (((i + 1 : Nat) : Int)) (by omega) (by omega) (by omega) ?_
        conv => whnf
        have z29 := c29.but.size
        have z258 := E258.size
        have hnb : w67.heap.size ≤ bb := (hIv.2 bb (hsub5 bb (by simp [blks]))).1
        refine ⟨i + 1, by omega, rfl, by omega, ?_, Ext.but_trans (Ext.trans hX3 E258) c29.but hnb, by omega⟩
        rw [hst]
        exact hback w29 _ ((Ext.mod E258).trans (c29.but.mono fun k hk => by rw [hk]; simp [blks])) ⟨⟨t5, O29⟩, hdc, rfl⟩
      · obtain rfl : i = xs.length := by omega
        rw [List.take_of_length_le (by omega)] at hO2
        conv => whnf
        refine IfB.no (by omega) ?_
        conv => whnf
        refine ⟨_, _, _, rfl, hnew.mono (Below.size X0), ⟨fp, by rw [hcr]; exact hO2, hIv.wide (Below.size X0) hsz⟩, Ext.trans X0 hX3⟩
end Go.Proofs.YtfgbijddjoojbaaGreatDoor
