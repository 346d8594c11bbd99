/- Contracts of functions of the given program, of the reference and of the laws: each says what a call returns, for all arguments that meet the premises that the theorem itself names. -/
import Derived.Test.YtfgbijddjoojbaaGreatCens
import Derived.Test.YtfgbijddjoojbaaGreatMedM
import Derived.Test.YtfgbijddjoojbaaGreatVcApp
namespace Go.M
open Go Go.Vc
def medianM (d : List (List Int)) (f : TField) : Int × Int :=
  if (numbersIf true d f).2 = 0 then (match (sortI (numbersIf true d f).1)[((numbersIf true d f).1.length - 1) / 2]? with | none => (0, 3) | some v => (v, 0)) else (0, (numbersIf true d f).2)
theorem median_bad {d : List (List Int)} {f : TField} {L : List Int} {cd : Int} (h : numbersIf true d f = (L, cd)) (hc : ¬ cd = 0) : medianM d f = (0, cd) := by simp [medianM, h, hc]
theorem median_none {d : List (List Int)} {f : TField} (h : numbersIf true d f = ([], 0)) : medianM d f = (0, 3) := by simp [medianM, h, sortI]
theorem median_some {d : List (List Int)} {f : TField} {L : List Int} {v : Int} (h : numbersIf true d f = (L, 0)) (hv : (sortI L)[(L.length - 1) / 2]? = some v) : medianM d f = (v, 0) := by simp [medianM, h, hv]
theorem lessN_take {l : List Int} {k : Nat} {x : Int} (hx : l[k]? = some x) (v : Int) : lessN (l.take (k + 1)) v = if x < v then lessN (l.take k) v + 1 else lessN (l.take k) v := by
  unfold lessN
  rw [List.take_add_one, hx, Option.toList_some, List.countP_append]
  split <;> simp [*]
theorem mostN_take {l : List Int} {k : Nat} {x : Int} (hx : l[k]? = some x) (v : Int) : mostN (l.take (k + 1)) v = if x ≤ v then mostN (l.take k) v + 1 else mostN (l.take k) v := by
  unfold mostN
  rw [List.take_add_one, hx, Option.toList_some, List.countP_append]
  split <;> simp [*]
theorem lessN_le (l : List Int) (v : Int) : lessN l v ≤ l.length := List.countP_le_length
theorem mostN_le (l : List Int) (v : Int) : mostN l v ≤ l.length := List.countP_le_length
end Go.M
namespace Go.Proofs.YtfgbijddjoojbaaGreat
open Go Go.RowKit Go.Vc Go.M
theorem spec_MedianOf {w : World} {a : Option Addr} {n c : Nat} {xs : List (List Int)} (h : ArrS RCard w a n xs) {f : TField} (hf : f.ok) (hn1 : n ≤ 1048576) : Does Tryz.prog 10 [.slice a n c, .agg ⟨f.enc⟩] w (fun v w' => v = .tuple #[.int .i64 (medianM xs f).1, .int .i64 (medianM xs f).2] ∧ Ext w w') := by
  have hn := h.len
  obtain ⟨L, cd, hr⟩ : ∃ L cd, numbersIf true xs f = (L, cd) := ⟨_, _, rfl⟩
  have hL : L.length ≤ 1048576 := by
    have : (numbersIf true xs f).1.length ≤ xs.length := numbersIf_len xs f
    rw [hr] at this
    dsimp only at this
    omega
  have hN : ∀ u, Ext w u → Does Tryz.prog 34 [.slice a n c, .agg ⟨f.enc⟩] u (fun v w' => ∃ a' c', v = .tuple #[.slice a' L.length c', .int .i64 cd] ∧ NewAt u.heap.size a' ∧ Own eI w' a' L.length 2 L ∧ Ext u w') := fun u e => by
    have h2 := spec_l24Numbers (c := c) (h.ext e) hf
    rw [hr] at h2
    refine h2.mono ?_
    rintro v w' ⟨a', n', c', rfl, hN, hO, hE⟩
    have hl : L.length = n' := hO.1
    subst hl
    exact ⟨a', c', rfl, hN, hO, hE⟩
  by_cases hc : cd = 0
  · subst hc
    cases hLL : L with
    | nil =>
      subst hLL
      rw [median_none hr]
      refine Does.of_vc tabok Tryz.func10 rfl rfl rfl (by kernel_rfl) ?_; conv => whnf
      refine SemK.box ?_
      intro b2 w2 g2 l2 e2 B2
      conv => whnf
      refine SemK.loadAgg (n := 2) (by kernel_rfl) B2.cells rfl ?_
      conv => whnf
      refine (hN _ e2).mono ?_
      rintro _ w8 ⟨a'3, c'4, rfl, N5, O6, e7⟩
      conv => whnf
      exact ⟨rfl, (Ext.trans e2 e7)⟩
    | cons q L' =>
      have hL0 : 0 < L.length := by rw [hLL]; simp
      clear hLL
      have hsl := sortI_len L
      obtain ⟨v, hv⟩ := get_of_lt (l := sortI L) (k := (L.length - 1) / 2) (by omega)
      rw [median_some hr hv]
      have hmp := medP_self hv
      have hme : ∀ x, medP L x → x = v := fun x hx => medP_eq hmp hx
      have hvm : v ∈ L := (sortI_perm L).mem_iff.1 (List.mem_of_getElem? hv)
      clear hv hsl
      unfold medP at hmp hme
      generalize hll : L.length = ll at *
      refine Does.of_vc tabok Tryz.func10 rfl rfl rfl (by kernel_rfl) ?_; conv => whnf
      refine SemK.box ?_
      intro b2 w2 g2 l2 e2 B2
      conv => whnf
      refine SemK.loadAgg (n := 2) (by kernel_rfl) B2.cells rfl ?_
      conv => whnf
      refine (hN _ e2).mono ?_
      rintro _ w8 ⟨a'3, c'4, rfl, N5, O6, e7⟩
      conv => whnf
      refine IfB.no (by omega) ?_
      conv => whnf
      have X8 := Ext.trans e2 e7
      refine LoopK.rule [6, 8] (fun (i : Nat) vs w' => vs = [.slice a'3 ll c'4, .int .i64 i] ∧ i ≤ ll ∧ (∀ j x, j < i → L[j]? = some x → ¬ (lessN L x ≤ (ll - 1) / 2 ∧ (ll - 1) / 2 < mostN L x)) ∧ Ext w8 w') (fun i => ll - i) tab tabok (by kernel_rfl) 0 ⟨rfl, by omega, fun j x hj => by omega, Ext.refl _⟩ ?_
      rintro i g _ w20 ⟨rfl, hi, hall, hX2⟩
      have hX := Ext.trans X8 hX2
      rcases Nat.lt_or_ge i ll with hil | hil
      · obtain ⟨z, hz⟩ := get_of_lt (l := L) (k := i) (by omega)
        conv => whnf
        refine IfB.yes (by omega) ?_
        conv => whnf
        refine LoopK.rule [6, 8, 9, 10, 11] (fun (k : Nat) vs w' => vs = [.slice a'3 ll c'4, .int .i64 i, .int .i64 (lessN (L.take k) z), .int .i64 (mostN (L.take k) z), .int .i64 k] ∧ k ≤ ll ∧ Ext w8 w') (fun k => ll - k) tab tabok (by kernel_rfl) 0 ⟨rfl, by omega, hX2⟩ ?_
        rintro k g2 _ w30 ⟨rfl, hk, hX3⟩
        have hXX := Ext.trans X8 hX3
        have hb1 : lessN (L.take k) z ≤ k := Nat.le_trans (lessN_le _ _) (by simp; omega)
        have hb2 : mostN (L.take k) z ≤ k := Nat.le_trans (mostN_le _ _) (by simp; omega)
        rcases Nat.lt_or_ge k ll with hkl | hkl
        · obtain ⟨y, hy⟩ := get_of_lt (l := L) (k := k) (by omega)
          have ht1 := lessN_take hy z
          have ht2 := mostN_take hy z
          by_cases c1 : y < z
          · have c2 : y ≤ z := by omega
            rw [if_pos c1] at ht1
            rw [if_pos c2] at ht2
            conv => whnf
            refine IfB.yes (by omega) ?_
            conv => whnf
            refine DrawK.det tabok mixed (by kernel_rfl) (by kernel_rfl) ?_
            conv => whnf
            obtain ⟨b32, rfl⟩ := ((O6.ext hX3)).some (by omega)
            have lb32 : b32 < w8.heap.size := O6.lt _ rfl
            refine DSemK.indexOwn (sz := 1) (by kernel_rfl) k rfl (by omega) ?_
            have hb32 := Own.elem eI_len (O6.ext hX3) hy
            conv => whnf
            refine DSemK.load0 (by kernel_rfl) hb32 rfl ?_
            conv => whnf
            refine DSemK.indexOwn (sz := 1) (by kernel_rfl) i rfl (by omega) ?_
            have hb34 := Own.elem eI_len (O6.ext hX3) hz
            conv => whnf
            refine DSemK.load0 (by kernel_rfl) hb34 rfl ?_
            conv => whnf
            intro w35 e35
            conv => whnf
            refine IfB.yes (by omega) ?_
            conv => whnf
            refine SemK.add (((lessN (List.take k L) z + 1 : Nat) : Int)) (by omega) (by omega) (by omega) ?_
            conv => whnf
            refine DrawK.det tabok mixed (by kernel_rfl) (by kernel_rfl) ?_
            conv => whnf
            refine DSemK.indexOwn (sz := 1) (by kernel_rfl) k rfl (by omega) ?_
            have hb37 := Own.elem eI_len (O6.ext (Ext.trans hX3 e35)) hy
            conv => whnf
            refine DSemK.load0 (by kernel_rfl) hb37 rfl ?_
            conv => whnf
            refine DSemK.indexOwn (sz := 1) (by kernel_rfl) i rfl (by omega) ?_
            have hb39 := Own.elem eI_len (O6.ext (Ext.trans hX3 e35)) hz
            conv => whnf
            refine DSemK.load0 (by kernel_rfl) hb39 rfl ?_
            conv => whnf
            intro w40 e40
            conv => whnf
            refine IfB.yes (by omega) ?_
            conv => whnf
            refine SemK.add (((mostN (List.take k L) z + 1 : Nat) : Int)) (by omega) (by omega) (by omega) ?_
            conv => whnf
            refine SemK.add (((k + 1 : Nat) : Int)) (by omega) (by omega) (by omega) ?_
            conv => whnf
            refine ⟨k + 1, by omega, by rw [ht1, ht2]; rfl, by omega, ?_⟩
            exact (Ext.trans (Ext.trans hX3 e35) e40)
          · rw [if_neg c1] at ht1
            by_cases c2 : y ≤ z
            · rw [if_pos c2] at ht2
              conv => whnf
              refine IfB.yes (by omega) ?_
              conv => whnf
              refine DrawK.det tabok mixed (by kernel_rfl) (by kernel_rfl) ?_
              conv => whnf
              obtain ⟨b32, rfl⟩ := ((O6.ext hX3)).some (by omega)
              have lb32 : b32 < w8.heap.size := O6.lt _ rfl
              refine DSemK.indexOwn (sz := 1) (by kernel_rfl) k rfl (by omega) ?_
              have hb32 := Own.elem eI_len (O6.ext hX3) hy
              conv => whnf
              refine DSemK.load0 (by kernel_rfl) hb32 rfl ?_
              conv => whnf
              refine DSemK.indexOwn (sz := 1) (by kernel_rfl) i rfl (by omega) ?_
              have hb34 := Own.elem eI_len (O6.ext hX3) hz
              conv => whnf
              refine DSemK.load0 (by kernel_rfl) hb34 rfl ?_
              conv => whnf
              intro w35 e35
              conv => whnf
              refine IfB.no (by omega) ?_
              conv => whnf
              refine DrawK.det tabok mixed (by kernel_rfl) (by kernel_rfl) ?_
              conv => whnf
              refine DSemK.indexOwn (sz := 1) (by kernel_rfl) k rfl (by omega) ?_
              have hb37 := Own.elem eI_len (O6.ext (Ext.trans hX3 e35)) hy
              conv => whnf
              refine DSemK.load0 (by kernel_rfl) hb37 rfl ?_
              conv => whnf
              refine DSemK.indexOwn (sz := 1) (by kernel_rfl) i rfl (by omega) ?_
              have hb39 := Own.elem eI_len (O6.ext (Ext.trans hX3 e35)) hz
              conv => whnf
              refine DSemK.load0 (by kernel_rfl) hb39 rfl ?_
              conv => whnf
              intro w40 e40
              conv => whnf
              refine IfB.yes (by omega) ?_
              conv => whnf
              refine SemK.add (((mostN (List.take k L) z + 1 : Nat) : Int)) (by omega) (by omega) (by omega) ?_
              conv => whnf
              refine SemK.add (((k + 1 : Nat) : Int)) (by omega) (by omega) (by omega) ?_
              conv => whnf
              refine ⟨k + 1, by omega, by rw [ht1, ht2]; rfl, by omega, ?_⟩
              exact (Ext.trans (Ext.trans hX3 e35) e40)
            · rw [if_neg c2] at ht2
              conv => whnf
              refine IfB.yes (by omega) ?_
              conv => whnf
              refine DrawK.det tabok mixed (by kernel_rfl) (by kernel_rfl) ?_
              conv => whnf
              obtain ⟨b32, rfl⟩ := ((O6.ext hX3)).some (by omega)
              have lb32 : b32 < w8.heap.size := O6.lt _ rfl
              refine DSemK.indexOwn (sz := 1) (by kernel_rfl) k rfl (by omega) ?_
              have hb32 := Own.elem eI_len (O6.ext hX3) hy
              conv => whnf
              refine DSemK.load0 (by kernel_rfl) hb32 rfl ?_
              conv => whnf
              refine DSemK.indexOwn (sz := 1) (by kernel_rfl) i rfl (by omega) ?_
              have hb34 := Own.elem eI_len (O6.ext hX3) hz
              conv => whnf
              refine DSemK.load0 (by kernel_rfl) hb34 rfl ?_
              conv => whnf
              intro w35 e35
              conv => whnf
              refine IfB.no (by omega) ?_
              conv => whnf
              refine DrawK.det tabok mixed (by kernel_rfl) (by kernel_rfl) ?_
              conv => whnf
              refine DSemK.indexOwn (sz := 1) (by kernel_rfl) k rfl (by omega) ?_
              have hb37 := Own.elem eI_len (O6.ext (Ext.trans hX3 e35)) hy
              conv => whnf
              refine DSemK.load0 (by kernel_rfl) hb37 rfl ?_
              conv => whnf
              refine DSemK.indexOwn (sz := 1) (by kernel_rfl) i rfl (by omega) ?_
              have hb39 := Own.elem eI_len (O6.ext (Ext.trans hX3 e35)) hz
              conv => whnf
              refine DSemK.load0 (by kernel_rfl) hb39 rfl ?_
              conv => whnf
              intro w40 e40
              conv => whnf
              refine IfB.no (by omega) ?_
              conv => whnf
              refine SemK.add (((k + 1 : Nat) : Int)) (by omega) (by omega) (by omega) ?_
              conv => whnf
              refine ⟨k + 1, by omega, by rw [ht1, ht2]; rfl, by omega, ?_⟩
              exact (Ext.trans (Ext.trans hX3 e35) e40)
        · have hta : L.take k = L := List.take_of_length_le (by omega)
          rw [hta] at hb1 hb2 ⊢
          have hnx : ¬ (lessN L z ≤ (ll - 1) / 2 ∧ (ll - 1) / 2 < mostN L z) → ∀ j x, j < i + 1 → L[j]? = some x → ¬ (lessN L x ≤ (ll - 1) / 2 ∧ (ll - 1) / 2 < mostN L x) := fun hno j x hj hx => by
            by_cases e : j = i
            · subst e; rw [hz] at hx; cases hx; exact hno
            · exact hall j x (by omega) hx
          by_cases c1 : lessN L z ≤ (ll - 1) / 2
          · by_cases c2 : (ll - 1) / 2 < mostN L z
            · obtain rfl := hme z ⟨c1, c2⟩
              generalize lessN L z = p1 at *
              generalize mostN L z = p2 at *
              conv => whnf
              refine IfB.no (by omega) ?_
              conv => whnf
              refine SemK.sub (((ll - 1 : Nat) : Int)) (by omega) (by omega) (by omega) ?_
              conv => whnf
              refine SemK.quo (by omega) (by omega) (by omega) ?_
              conv => whnf
              refine IfB.yes (by omega) ?_
              conv => whnf
              refine IfB.yes (by omega) ?_
              conv => whnf
              obtain ⟨b32, rfl⟩ := ((O6.ext hX3)).some (by omega)
              have lb32 : b32 < w8.heap.size := O6.lt _ rfl
              refine SemK.indexOwn (sz := 1) (by kernel_rfl) i rfl (by omega) ?_
              have hb32 := Own.elem eI_len (O6.ext hX3) hz
              conv => whnf
              refine SemK.load0 (by kernel_rfl) hb32 rfl ?_
              conv => whnf
              exact ⟨rfl, hXX⟩
            · have hnext := hnx (fun h => c2 h.2)
              generalize lessN L z = p1 at *
              generalize mostN L z = p2 at *
              conv => whnf
              refine IfB.no (by omega) ?_
              conv => whnf
              refine SemK.sub (((ll - 1 : Nat) : Int)) (by omega) (by omega) (by omega) ?_
              conv => whnf
              refine SemK.quo (by omega) (by omega) (by omega) ?_
              conv => whnf
              refine IfB.yes (by omega) ?_
              conv => whnf
              refine IfB.no (by omega) ?_
              conv => whnf
              refine SemK.add (((i + 1 : Nat) : Int)) (by omega) (by omega) (by omega) ?_
              conv => whnf
              exact ⟨i + 1, by omega, rfl, by omega, hnext, hX3⟩
          · have hnext := hnx (fun h => c1 h.1)
            generalize lessN L z = p1 at *
            generalize mostN L z = p2 at *
            conv => whnf
            refine IfB.no (by omega) ?_
            conv => whnf
            refine SemK.sub (((ll - 1 : Nat) : Int)) (by omega) (by omega) (by omega) ?_
            conv => whnf
            refine SemK.quo (by omega) (by omega) (by omega) ?_
            conv => whnf
            refine IfB.no (by omega) ?_
            conv => whnf
            refine SemK.add (((i + 1 : Nat) : Int)) (by omega) (by omega) (by omega) ?_
            conv => whnf
            exact ⟨i + 1, by omega, rfl, by omega, hnext, hX3⟩
      · exfalso
        obtain ⟨j, hj⟩ := List.mem_iff_getElem?.1 hvm
        exact hall j v (by have := (List.getElem?_eq_some_iff.1 hj).1; omega) hj hmp
  · rw [median_bad hr hc]
    refine Does.of_vc tabok Tryz.func10 rfl rfl rfl (by kernel_rfl) ?_; conv => whnf
    refine SemK.box ?_
    intro b2 w2 g2 l2 e2 B2
    conv => whnf
    refine SemK.loadAgg (n := 2) (by kernel_rfl) B2.cells rfl ?_
    conv => whnf
    refine (hN _ e2).mono ?_
    rintro _ w8 ⟨a'3, c'4, rfl, N5, O6, e7⟩
    conv => whnf
    refine IfB.no (by omega) ?_
    conv => whnf
    refine IfB.eqt (by simp [*]; done) ?_
    conv => whnf
    exact ⟨rfl, (Ext.trans e2 e7)⟩
end Go.Proofs.YtfgbijddjoojbaaGreat
