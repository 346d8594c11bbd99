/- Nested data that came in, and nested data that one reads, for every program; each with the premises that it names. -/
import Derived.Test.YtkjmbjedbmblmaaGreatDoorVcLift
import Derived.Test.YtkjmbjedbmblmaaGreatDoorVcNest
namespace Go.Vc
open Go Go.RowKit Go.ChangeShapes Go.WideShapes

section
variable {H : Type} {enc : TypeId × Value → H} {P : Program}

/-- A SLICE THAT CAME IN, at whatever depth -/
theorem trod_arr {α : Type} [Inhabited α] {encα : α → List Value} {ok : α → Prop} {sz e t fuel : Nat} {W : World} {cs : List Value} {x : DataW H × List MemPlace} (ht : P.underlying t = some (.slice e)) (hsz : P.cellsOf e = sz) (hpos : 0 < sz)
    (hone : ∀ (n : Nat) (cs : List Value) (x : DataW H × List MemPlace), DataW.trod enc P W 0 (fun _ => true) true n e cs = some x → ∃ y, cs = encα y ∧ ok y) (hlen : ∀ y, (encα y).length = sz)
    (hf : DataW.trod enc P W 0 (fun _ => true) true fuel t cs = some x) :
    ∃ d xs, cs = eH d ∧ Arr encα sz W d.a d.n xs ∧ (∀ x ∈ xs, ok x) ∧ d.n ≤ d.c := by
  rcases Go.Deep.open_slice ht hf with ⟨hcs, _⟩ | ⟨ad, n, c, m, k, D, Pl, hcs, _, hle, hmax, hm, _, hel⟩
  · exact ⟨⟨none, 0, 0⟩, [], hcs, Arr.nil, by simp, Nat.le_refl _⟩
  · simp only [if_true] at hm
    subst hm
    rw [hsz] at hel
    have key : ∀ i, i < n → ∃ y, W.cells? 0 (ad.add (i * sz)) sz = some (encα y) ∧ ok y := fun i hi => by
      obtain ⟨cs', h1, h2⟩ := hel i (by omega)
      obtain ⟨y, rfl, hy⟩ := hone _ _ _ h2
      exact ⟨y, h1, hy⟩
    obtain ⟨F, hF⟩ := Go.Deep.choose_lt key
    refine ⟨⟨some ad, n, m⟩, (List.range n).map F, hcs, ⟨by simp, Nat.le_trans hle hmax, ?_⟩, ?_, hle⟩
    · intro i x hx
      have hi : i < n := by
        have := (List.getElem?_eq_some_iff.1 hx).1
        simpa using this
      simp [hi] at hx
      subst hx
      obtain ⟨hc, _⟩ := hF i hi
      obtain ⟨_, _, hcell⟩ := World.cells?_some hc
      obtain ⟨b, o, spot⟩ := ad
      have hsp : spot = none := by
        have h00 := hF 0 (by omega)
        obtain ⟨_, _, hcell0⟩ := World.cells?_some h00.1
        have h01 := hcell0 0 hpos
        obtain ⟨v0, hv0⟩ : ∃ v, (encα (F 0))[0]? = some v := ⟨_, List.getElem?_eq_getElem (by rw [hlen]; exact hpos)⟩
        rw [hv0] at h01
        have h2 := World.cell?_spot h01
        simpa [Addr.add] using h2
      subst hsp
      refine ⟨b, o, rfl, fun j v hj => ?_⟩
      have hjl : j < sz := by rw [← hlen (F i)]; exact (List.getElem?_eq_some_iff.1 hj).1
      have := hcell j hjl
      rw [hj] at this
      rw [addr_add_none, addr_add_none] at this
      exact this
    · intro x hx
      simp at hx
      obtain ⟨i, hi, rfl⟩ := hx
      exact (hF i hi).2
theorem choose_list {β : Type} {Q : Hd → β → Prop} : ∀ {hs : List Hd}, (∀ d ∈ hs, ∃ y, Q d y) → ∃ ys : List β, hs.length = ys.length ∧ ∀ (i : Nat) (d : Hd) (y : β), hs[i]? = some d → ys[i]? = some y → Q d y
  | [], _ => ⟨[], rfl, fun i d y h => by simp at h⟩
  | d :: hs, h => by
    obtain ⟨y, hy⟩ := h d (by simp)
    obtain ⟨ys, h1, h2⟩ := choose_list (hs := hs) fun d hd => h d (by simp [hd])
    refine ⟨y :: ys, by simp [h1], fun i d' y' k1 k2 => ?_⟩
    cases i with
    | zero =>
      simp at k1 k2
      subst k1
      subst k2
      exact hy
    | succ i => exact h2 i d' y' (by simpa using k1) (by simpa using k2)
/-- A LIST OF LISTS THAT CAME IN -/
theorem trod_nest {α : Type} {R : Rd α} {ok : α → Prop} {e t fuel : Nat} {W : World} {cs : List Value} {x : DataW H × List MemPlace} (ht : P.underlying t = some (.slice e)) (hsz : P.cellsOf e = 1)
    (hone : ∀ (n : Nat) (cs : List Value) (x : DataW H × List MemPlace), DataW.trod enc P W 0 (fun _ => true) true n e cs = some x → ∃ d y, cs = eH d ∧ R W d y ∧ ok y)
    (hf : DataW.trod enc P W 0 (fun _ => true) true fuel t cs = some x) :
    ∃ d xs, cs = eH d ∧ ArrS R W d.a d.n xs ∧ (∀ x ∈ xs, ok x) ∧ d.n ≤ d.c := by
  obtain ⟨d, hs, h1, h2, h3, h4⟩ := trod_arr (encα := eH) (ok := fun d => ∃ y, R W d y ∧ ok y) ht hsz (by omega) (fun n cs x h => let ⟨d, y, h5, h6⟩ := hone n cs x h; ⟨d, h5, y, h6⟩) eH_len hf
  obtain ⟨ys, h5, h6⟩ := choose_list (Q := fun d y => R W d y ∧ ok y) h3
  refine ⟨d, ys, h1, ⟨hs, h2, h5, fun i d y k1 k2 => (h6 i d y k1 k2).1⟩, fun y hy => ?_, h4⟩
  obtain ⟨i, hi⟩ := List.mem_iff_getElem?.1 hy
  have hil := (List.getElem?_eq_some_iff.1 hi).1
  exact (h6 i _ y (List.getElem?_eq_getElem (by rw [h5]; exact hil)) hi).2
/-- a field of a struct that came in -/
theorem trod_field {t fuel : Nat} {W : World} {cs : List Value} {x : DataW H × List MemPlace} {fs : Array Field} (ht : P.underlying t = some (.struct fs)) (hf : DataW.trod enc P W 0 (fun _ => true) true fuel t cs = some x) :
    cs.length = P.cellsOf t ∧ ∀ (i : Nat) (f : Field), fs[i]? = some f → ∃ n y, DataW.trod enc P W 0 (fun _ => true) true n f.type ((cs.drop f.offset).take (P.cellsOf f.type)) = some y := by
  obtain ⟨xs, n, _, _, hlen, hxs, hel⟩ := DataW.trod_struct ht hf
  refine ⟨hlen, fun i f hi => ⟨n, ?_⟩⟩
  have h1 := hel i f hi
  have hil : i < xs.length := by rw [hxs]; exact (Array.getElem?_eq_some_iff.1 hi).1
  exact ⟨_, by rw [h1]; exact List.getElem?_eq_getElem hil⟩
theorem trod_at {t fuel : Nat} {W : World} {cs : List Value} {x : DataW H × List MemPlace} {fs : Array Field} (ht : P.underlying t = some (.struct fs)) (hf : DataW.trod enc P W 0 (fun _ => true) true fuel t cs = some x) (i : Nat) {f : Field} (hi : fs[i]? = some f) {ft off sz : Nat} (h1 : f.type = ft) (h2 : f.offset = off) (h3 : P.cellsOf ft = sz) :
    ∃ n y, DataW.trod enc P W 0 (fun _ => true) true n ft ((cs.drop off).take sz) = some y := by
  subst h1 h2 h3
  exact (trod_field ht hf).2 i f hi
/-- A STRUCT THAT CAME IN, by value -/
theorem open_agg {t base : Nat} {W : World} {v : Value} {d : DataW H} {p : List MemPlace} {fs : Array Field} (hu : P.underlying t = some (.struct fs)) (hok : Value.okWide P W .any base t v) (h : DataW.Trod enc P W 0 (fun _ => true) true t v d p) :
    ∃ (cs : List Value) (n : Nat), v = .agg ⟨cs⟩ ∧ DataW.trod enc P W 0 (fun _ => true) true n t cs = some (d, p) := by
  obtain ⟨fuel, hf⟩ := h
  unfold Value.okWide at hok
  rw [hu] at hok
  obtain ⟨cs, rfl, _, _⟩ := hok
  exact ⟨cs.toList, fuel, rfl, hf⟩
/-- A SLICE THAT CAME IN, by value -/
theorem open_any {t e base : Nat} {W : World} {v : Value} {d : DataW H} {p : List MemPlace} (hu : P.underlying t = some (.slice e)) (hok : Value.okWide P W .any base t v) (h : DataW.Trod enc P W 0 (fun _ => true) true t v d p) :
    ∃ (s : Hd) (n : Nat), v = .slice s.a s.n s.c ∧ DataW.trod enc P W 0 (fun _ => true) true n t (eH s) = some (d, p) := by
  obtain ⟨a, n, c, rfl⟩ := okWide_slice hu hok
  obtain ⟨fuel, hf⟩ := h
  exact ⟨⟨a, n, c⟩, fuel, rfl, hf⟩
end
/-! ### what reads so for as long as what lies between lo and hi stands -/
def RN {α : Type} (R : Rd α) (w : World) (lo hi : Nat) (d : Hd) (x : α) : Prop := ∀ w', Mod (fun j => ¬ Iv lo hi j) w w' → R w' d x
theorem RN.rd {α : Type} {R : Rd α} {w : World} {lo hi : Nat} {d : Hd} {x : α} (h : RN R w lo hi d x) : R w d x := h w (Mod.refl _ _)
theorem RN.mod {α : Type} {R : Rd α} {S : Nat → Prop} {w w' : World} {lo hi lo' hi' : Nat} {d : Hd} {x : α} (h : RN R w lo hi d x) (M : Mod S w w') (hs : ∀ k, S k → ¬ Iv lo hi k) (hl : lo' ≤ lo) (hh : hi ≤ hi') : RN R w' lo' hi' d x := fun w'' M' =>
  h w'' ((M.mono hs).trans (M'.mono fun k hk h => hk ⟨Nat.le_trans hl h.1, Nat.lt_of_lt_of_le h.2 hh⟩))
theorem RN.ext {α : Type} {R : Rd α} {w w' : World} {lo hi lo' hi' : Nat} {d : Hd} {x : α} (h : RN R w lo hi d x) (e : Ext w w') (hl : lo' ≤ lo) (hh : hi ≤ hi') : RN R w' lo' hi' d x := h.mod (S := fun _ => False) (Ext.mod e) (fun _ h => h.elim) hl hh
/-- a slice of the call's own of flat elements -/
theorem RN.own {α : Type} {enc : α → List Value} {sz : Nat} [EncL enc sz] {w : World} {lo : Nat} {a : Option Addr} {n c t : Nat} {xs : List α} (h : Own enc w a n t xs) (hn : NewAt lo a) (hc : n ≤ c) : RN (RA enc sz) w lo w.heap.size ⟨a, n, c⟩ xs := fun w' M => by
  refine ⟨(h.keep (w' := w') fun k hk => ?_).arr EncL.len, hc⟩
  obtain ⟨x, hx, rfl⟩ := mem_blks.1 hk
  exact M.block _ (fun hs => hs ⟨hn x hx, h.lt x hx⟩) (h.lt x hx)
/-- the elements of a list of lists, each of which reads so -/
def ElN {α : Type} (R : Rd α) (w : World) (lo hi : Nat) (hs : List Hd) (xs : List α) : Prop := hs.length = xs.length ∧ ∀ (i : Nat) (d : Hd) (x : α), hs[i]? = some d → xs[i]? = some x → RN R w lo hi d x
theorem ElN.nil {α : Type} {R : Rd α} {w : World} {lo hi : Nat} : ElN R w lo hi [] ([] : List α) := ⟨rfl, fun i d x h => by simp at h⟩
theorem ElN.mod {α : Type} {R : Rd α} {S : Nat → Prop} {w w' : World} {lo hi lo' hi' : Nat} {hs : List Hd} {xs : List α} (h : ElN R w lo hi hs xs) (M : Mod S w w') (hS : ∀ k, S k → ¬ Iv lo hi k) (hl : lo' ≤ lo) (hh : hi ≤ hi') : ElN R w' lo' hi' hs xs :=
  ⟨h.1, fun i d x h1 h2 => (h.2 i d x h1 h2).mod M hS hl hh⟩
theorem ElN.ext {α : Type} {R : Rd α} {w w' : World} {lo hi lo' hi' : Nat} {hs : List Hd} {xs : List α} (h : ElN R w lo hi hs xs) (e : Ext w w') (hl : lo' ≤ lo) (hh : hi ≤ hi') : ElN R w' lo' hi' hs xs := h.mod (S := fun _ => False) (Ext.mod e) (fun _ h => h.elim) hl hh
theorem ElN.snoc {α : Type} {R : Rd α} {w : World} {lo hi : Nat} {hs : List Hd} {xs : List α} {d : Hd} {x : α} (h : ElN R w lo hi hs xs) (hd : RN R w lo hi d x) : ElN R w lo hi (hs ++ [d]) (xs ++ [x]) := by
  obtain ⟨h1, h2⟩ := h
  refine ⟨by simp [h1], fun i a y k1 k2 => ?_⟩
  rcases Nat.lt_trichotomy i xs.length with hlt | heq | hgt
  · rw [List.getElem?_append_left (by omega)] at k1 k2
    exact h2 i a y k1 k2
  · subst heq
    rw [← h1, List.getElem?_concat_length] at k1
    rw [List.getElem?_concat_length] at k2
    simp only [Option.some.injEq] at k1 k2
    subst k1; subst k2
    exact hd
  · rw [List.getElem?_eq_none (by simp; omega)] at k2
    cases k2
/-- a list of lists: the array in a block of the call's own -/
theorem RN.nest {α : Type} {R : Rd α} {w : World} {lo b n t : Nat} {hs : List Hd} {xs : List α} (h : Blk w b (flat eH hs) t) (hb : lo ≤ b) (hn : hs.length = n) (hm : n ≤ 9223372036854775807) (he : ElN R w lo w.heap.size hs xs) : RN (RS R) w lo w.heap.size ⟨some ⟨b, 0, none⟩, n, n⟩ xs := fun w' M => by
  have hl := h.lt
  have h' : Blk w' b (flat eH hs) t := h.mod M (fun hs => hs ⟨hb, hl⟩)
  exact ⟨⟨hs, (show Blk w' b (flat eH hs ++ []) t by simpa using h').arr eH_len hn hm, he.1, fun i d x h1 h2 => he.2 i d x h1 h2 w' M⟩, Nat.le_refl _⟩
end Go.Vc
