/- Lists of lists in memory: how they are read, and how they are one's own; each with the premises that it names. -/
import Derived.Test.YtfgbijddjoojbaaGreatVcApp
import Derived.Test.YtfgbijddjoojbaaGreatVcCore
namespace Go.Vc
open Go Go.RowKit

/-! ### lists of lists -/
/-- a slice as it stands in a cell -/
structure Hd where
  a : Option Addr
  n : Nat
  c : Nat
def eH (h : Hd) : List Value := [.slice h.a h.n h.c]
theorem eH_len (h : Hd) : (eH h).length = 1 := rfl
instance : Inhabited Hd := ⟨⟨none, 0, 0⟩⟩

/-- how an element is read, through its slice -/
abbrev Rd (α : Type) := World → Hd → α → Prop
class RdE {α : Type} (R : Rd α) : Prop where
  ext : ∀ {w w' : World} {h : Hd} {x : α}, R w h x → Ext w w' → R w' h x
def ElR {α : Type} (R : Rd α) (w : World) (hs : List Hd) (xs : List α) : Prop :=
  hs.length = xs.length ∧ ∀ (i : Nat) (h : Hd) (x : α), hs[i]? = some h → xs[i]? = some x → R w h x
theorem ElR.ext {α : Type} {R : Rd α} [RdE R] {w w' : World} {hs : List Hd} {xs : List α} (h : ElR R w hs xs) (e : Ext w w') : ElR R w' hs xs :=
  ⟨h.1, fun i a x h1 h2 => RdE.ext (h.2 i a x h1 h2) e⟩
theorem ElR.get {α : Type} {R : Rd α} {w : World} {hs : List Hd} {xs : List α} (h : ElR R w hs xs) {k : Nat} {d : Hd} (hd : hs[k]? = some d) : ∃ x, xs[k]? = some x ∧ R w d x := by
  have hk := (List.getElem?_eq_some_iff.1 hd).1
  obtain ⟨x, hx⟩ : ∃ x, xs[k]? = some x := ⟨_, List.getElem?_eq_getElem (by rw [← h.1]; exact hk)⟩
  exact ⟨x, hx, h.2 k d x hd hx⟩
/-- the slice (a, n) reads as the list xs of lists -/
def ArrS {α : Type} (R : Rd α) (w : World) (a : Option Addr) (n : Nat) (xs : List α) : Prop := ∃ hs, Arr eH 1 w a n hs ∧ ElR R w hs xs
theorem ArrS.ext {α : Type} {R : Rd α} [RdE R] {w w' : World} {a : Option Addr} {n : Nat} {xs : List α} (h : ArrS R w a n xs) (e : Ext w w') : ArrS R w' a n xs :=
  let ⟨hs, h1, h2⟩ := h
  ⟨hs, h1.ext e, h2.ext e⟩
theorem ArrS.len {α : Type} {R : Rd α} {w : World} {a : Option Addr} {n : Nat} {xs : List α} (h : ArrS R w a n xs) : xs.length = n := by
  obtain ⟨hs, h1, h2⟩ := h
  rw [← h2.1, h1.len]
theorem ArrS.le {α : Type} {R : Rd α} {w : World} {a : Option Addr} {n : Nat} {xs : List α} (h : ArrS R w a n xs) : n ≤ 9223372036854775807 := by
  obtain ⟨hs, h1, _⟩ := h
  exact h1.le
theorem ArrS.nil {α : Type} {R : Rd α} {w : World} {a : Option Addr} : ArrS R w a 0 ([] : List α) := ⟨[], Arr.nil, rfl, fun i h x h1 => by simp at h1⟩
/-- a list of flat elements -/
def RA {α : Type} (enc : α → List Value) (sz : Nat) : Rd (List α) := fun w h xs => Arr enc sz w h.a h.n xs ∧ h.n ≤ h.c
instance {α : Type} {enc : α → List Value} {sz : Nat} : RdE (RA enc sz) := ⟨fun h e => ⟨h.1.ext e, h.2⟩⟩
/-- a list of lists -/
def RS {α : Type} (R : Rd α) : Rd (List α) := fun w h xs => ArrS R w h.a h.n xs ∧ h.n ≤ h.c
instance {α : Type} {R : Rd α} [RdE R] : RdE (RS R) := ⟨fun h e => ⟨h.1.ext e, h.2⟩⟩

/-! ### lists of lists that are the call's own -/
/-- the blocks of a slice -/
def blks : Option Addr → List Nat
  | none => []
  | some x => [x.block]
theorem mem_blks {a : Option Addr} {k : Nat} : k ∈ blks a ↔ blkIn a k := by
  cases a with
  | none => simp [blks, blkIn]
  | some x => simp [blks, blkIn]
/-- how an element is one's own: and the blocks that it takes -/
abbrev Ow (α : Type) := World → Hd → α → List Nat → Prop
class OwE {α : Type} (E : Ow α) (R : outParam (Rd α)) : Prop where
  keep : ∀ {w w' : World} {h : Hd} {x : α} {fp : List Nat}, E w h x fp → (∀ k ∈ fp, w'.heap[k]? = w.heap[k]?) → E w' h x fp
  lt : ∀ {w : World} {h : Hd} {x : α} {fp : List Nat}, E w h x fp → ∀ k ∈ fp, k < w.heap.size
  rd : ∀ {w : World} {h : Hd} {x : α} {fp : List Nat}, E w h x fp → R w h x
def ElO {α : Type} (E : Ow α) (w : World) (hs : List Hd) (xs : List α) (fps : List (List Nat)) : Prop :=
  hs.length = xs.length ∧ fps.length = xs.length ∧ ∀ (i : Nat) (h : Hd) (x : α) (f : List Nat), hs[i]? = some h → xs[i]? = some x → fps[i]? = some f → E w h x f
def OwnS {α : Type} (E : Ow α) (w : World) (a : Option Addr) (n t : Nat) (xs : List α) (fp : List Nat) : Prop :=
  ∃ hs fps, Own eH w a n t hs ∧ ElO E w hs xs fps ∧ fp = blks a ++ fps.flatten
def GrowS {α : Type} (E : Ow α) (B e : Nat) (w : World) (a : Option Addr) (n c : Nat) (xs : List α) (fp : List Nat) : Prop :=
  ∃ hs fps, Grow eH 1 B e w a n c hs ∧ ElO E w hs xs fps ∧ fp = blks a ++ fps.flatten
theorem GrowS.own {α : Type} {E : Ow α} {B e : Nat} {w : World} {a : Option Addr} {n c : Nat} {xs : List α} {fp : List Nat} (h : GrowS E B e w a n c xs fp) : OwnS E w a n e xs fp := by
  obtain ⟨hs, fps, h1, h2, h3⟩ := h
  exact ⟨hs, fps, h1.own, h2, h3⟩
theorem Own.keep {α : Type} {enc : α → List Value} {w w' : World} {a : Option Addr} {n t : Nat} {xs : List α} (h : Own enc w a n t xs) (hk : ∀ k ∈ blks a, w'.heap[k]? = w.heap[k]?) : Own enc w' a n t xs :=
  ⟨h.1, h.2.1, h.2.2.imp id fun ⟨b, rest, ha, hb⟩ => ⟨b, rest, ha, by
    unfold Blk at *
    rw [hk b (by rw [ha]; simp [blks])]
    exact hb⟩⟩
theorem flatten_mem {fps : List (List Nat)} {i k : Nat} {f : List Nat} (h : fps[i]? = some f) (hk : k ∈ f) : k ∈ fps.flatten :=
  List.mem_flatten.2 ⟨f, List.mem_of_getElem? h, hk⟩
theorem ElO.keep {α : Type} {E : Ow α} {R : Rd α} [OwE E R] {w w' : World} {hs : List Hd} {xs : List α} {fps : List (List Nat)} (h : ElO E w hs xs fps) (hk : ∀ k ∈ fps.flatten, w'.heap[k]? = w.heap[k]?) : ElO E w' hs xs fps :=
  ⟨h.1, h.2.1, fun i a x f h1 h2 h3 => OwE.keep (h.2.2 i a x f h1 h2 h3) fun k hkf => hk k (flatten_mem h3 hkf)⟩
theorem ElO.lt {α : Type} {E : Ow α} {R : Rd α} [OwE E R] {w : World} {hs : List Hd} {xs : List α} {fps : List (List Nat)} (h : ElO E w hs xs fps) : ∀ k ∈ fps.flatten, k < w.heap.size := by
  intro k hk
  obtain ⟨f, hf, hkf⟩ := List.mem_flatten.1 hk
  obtain ⟨i, hi⟩ := List.mem_iff_getElem?.1 hf
  have hl := (List.getElem?_eq_some_iff.1 hi).1
  obtain ⟨x, hx⟩ : ∃ x, xs[i]? = some x := ⟨_, List.getElem?_eq_getElem (by rw [← h.2.1]; exact hl)⟩
  obtain ⟨d, hd⟩ : ∃ d, hs[i]? = some d := ⟨_, List.getElem?_eq_getElem (by rw [h.1, ← h.2.1]; exact hl)⟩
  exact OwE.lt (h.2.2 i d x f hd hx hi) k hkf
theorem ElO.rd {α : Type} {E : Ow α} {R : Rd α} [OwE E R] {w : World} {hs : List Hd} {xs : List α} {fps : List (List Nat)} (h : ElO E w hs xs fps) : ElR R w hs xs :=
  ⟨h.1, fun i d x h1 h2 => by
    have hl := (List.getElem?_eq_some_iff.1 h2).1
    obtain ⟨f, hf⟩ : ∃ f, fps[i]? = some f := ⟨_, List.getElem?_eq_getElem (by rw [h.2.1]; exact hl)⟩
    exact OwE.rd (h.2.2 i d x f h1 h2 hf)⟩
theorem OwnS.keep {α : Type} {E : Ow α} {R : Rd α} [OwE E R] {w w' : World} {a : Option Addr} {n t : Nat} {xs : List α} {fp : List Nat} (h : OwnS E w a n t xs fp) (hk : ∀ k ∈ fp, w'.heap[k]? = w.heap[k]?) : OwnS E w' a n t xs fp := by
  obtain ⟨hs, fps, h1, h2, rfl⟩ := h
  exact ⟨hs, fps, h1.keep fun k hkk => hk k (List.mem_append_left _ hkk), h2.keep fun k hkk => hk k (List.mem_append_right _ hkk), rfl⟩
theorem OwnS.lt {α : Type} {E : Ow α} {R : Rd α} [OwE E R] {w : World} {a : Option Addr} {n t : Nat} {xs : List α} {fp : List Nat} (h : OwnS E w a n t xs fp) : ∀ k ∈ fp, k < w.heap.size := by
  obtain ⟨hs, fps, h1, h2, rfl⟩ := h
  intro k hk
  rcases List.mem_append.1 hk with hk | hk
  · obtain ⟨x, hx, rfl⟩ := mem_blks.1 hk
    exact h1.lt x hx
  · exact h2.lt k hk
theorem OwnS.arr {α : Type} {E : Ow α} {R : Rd α} [OwE E R] {w : World} {a : Option Addr} {n t : Nat} {xs : List α} {fp : List Nat} (h : OwnS E w a n t xs fp) : ArrS R w a n xs := by
  obtain ⟨hs, fps, h1, h2, _⟩ := h
  exact ⟨hs, h1.arr eH_len, h2.rd⟩
theorem OwnS.len {α : Type} {E : Ow α} {w : World} {a : Option Addr} {n t : Nat} {xs : List α} {fp : List Nat} (h : OwnS E w a n t xs fp) : xs.length = n := by
  obtain ⟨hs, fps, h1, h2, _⟩ := h
  rw [← h2.1, h1.1]
/-- a list of flat elements, one's own -/
def OA {α : Type} (enc : α → List Value) : Ow (List α) := fun w h xs fp => (∃ t, Own enc w h.a h.n t xs) ∧ h.n ≤ h.c ∧ fp = blks h.a
class EncL {α : Type} (enc : α → List Value) (sz : outParam Nat) : Prop where
  len : ∀ x, (enc x).length = sz
instance {α : Type} {enc : α → List Value} {sz : Nat} [EncL enc sz] : OwE (OA enc) (RA enc sz) where
  keep := fun ⟨⟨t, h1⟩, h2, h3⟩ hk => ⟨⟨t, h1.keep (by rw [← h3]; exact hk)⟩, h2, h3⟩
  lt := fun ⟨⟨t, h1⟩, h2, h3⟩ k hk => by
    rw [h3] at hk
    obtain ⟨x, hx, rfl⟩ := mem_blks.1 hk
    exact h1.lt x hx
  rd := fun ⟨⟨t, h1⟩, h2, _⟩ => ⟨h1.arr EncL.len, h2⟩
/-- a list of lists, one's own -/
def OS {α : Type} (E : Ow α) : Ow (List α) := fun w h xs fp => (∃ t, OwnS E w h.a h.n t xs fp) ∧ h.n ≤ h.c
instance {α : Type} {E : Ow α} {R : Rd α} [OwE E R] : OwE (OS E) (RS R) where
  keep := fun ⟨⟨t, h1⟩, h2⟩ hk => ⟨⟨t, h1.keep hk⟩, h2⟩
  lt := fun ⟨⟨t, h1⟩, _⟩ => h1.lt
  rd := fun ⟨⟨t, h1⟩, h2⟩ => ⟨h1.arr, h2⟩

/-! ### within an interval of blocks -/
def Iv (lo hi : Nat) : Nat → Prop := fun k => lo ≤ k ∧ k < hi
theorem Iv_elder {lo hi lo' hi' : Nat} (h : hi ≤ lo') : ∀ k, lo ≤ k → k < hi → ¬ Iv lo' hi' k := fun k _ h2 hk => by
  have := hk.1
  omega
theorem Iv_newer {lo hi lo' hi' : Nat} (h : hi' ≤ lo) : ∀ k, lo ≤ k → k < hi → ¬ Iv lo' hi' k := fun k h1 _ hk => by
  have := hk.2
  omega
theorem blk_elder {lo hi B : Nat} {a : Option Addr} (n : NewAt B a) (h : hi ≤ B) : ∀ k, lo ≤ k → k < hi → ¬ blkIn a k := fun k _ h2 hk => by
  obtain ⟨x, hx, rfl⟩ := hk
  have := n x hx
  omega
theorem blk_newer {lo hi S : Nat} {a : Option Addr} (l : ∀ x, a = some x → x.block < S) (h : S ≤ lo) : ∀ k, lo ≤ k → k < hi → ¬ blkIn a k := fun k h1 _ hk => by
  obtain ⟨x, hx, rfl⟩ := hk
  have := l x hx
  omega
def InIv (lo hi : Nat) (fp : List Nat) : Prop := fp.Nodup ∧ ∀ k ∈ fp, lo ≤ k ∧ k < hi
def OwnN {α : Type} (E : Ow α) (w : World) (lo hi : Nat) (a : Option Addr) (n t : Nat) (xs : List α) : Prop := ∃ fp, OwnS E w a n t xs fp ∧ InIv lo hi fp
theorem OwnN.arr {α : Type} {E : Ow α} {R : Rd α} [OwE E R] {w : World} {lo hi : Nat} {a : Option Addr} {n t : Nat} {xs : List α} (h : OwnN E w lo hi a n t xs) : ArrS R w a n xs := by
  obtain ⟨fp, h, _⟩ := h
  exact h.arr
theorem OwnN.len {α : Type} {E : Ow α} {w : World} {lo hi : Nat} {a : Option Addr} {n t : Nat} {xs : List α} (h : OwnN E w lo hi a n t xs) : xs.length = n := by
  obtain ⟨fp, h, _⟩ := h
  exact h.len
theorem OwnN.mod {α : Type} {E : Ow α} {R : Rd α} [OwE E R] {S : Nat → Prop} {w w' : World} {lo hi : Nat} {a : Option Addr} {n t : Nat} {xs : List α} (h : OwnN E w lo hi a n t xs) (m : Mod S w w') (hs : ∀ k, lo ≤ k → k < hi → ¬ S k) : OwnN E w' lo hi a n t xs := by
  obtain ⟨fp, h, hi⟩ := h
  exact ⟨fp, h.keep fun k hk => m.block k (hs k (hi.2 k hk).1 (hi.2 k hk).2) (h.lt k hk), hi⟩
theorem OwnN.ext {α : Type} {E : Ow α} {R : Rd α} [OwE E R] {w w' : World} {lo hi : Nat} {a : Option Addr} {n t : Nat} {xs : List α} (h : OwnN E w lo hi a n t xs) (e : Ext w w') : OwnN E w' lo hi a n t xs := by
  obtain ⟨fp, h, hi⟩ := h
  exact ⟨fp, h.keep fun k hk => e.block k (h.lt k hk), hi⟩
theorem OwnN.wide {α : Type} {E : Ow α} {w : World} {lo hi lo' hi' : Nat} {a : Option Addr} {n t : Nat} {xs : List α} (h : OwnN E w lo hi a n t xs) (h1 : lo' ≤ lo) (h2 : hi ≤ hi') : OwnN E w lo' hi' a n t xs := by
  obtain ⟨fp, h, hi⟩ := h
  exact ⟨fp, h, hi.1, fun k hk => ⟨Nat.le_trans h1 (hi.2 k hk).1, Nat.lt_of_lt_of_le (hi.2 k hk).2 h2⟩⟩
theorem OwnN.nil {α : Type} {E : Ow α} {w : World} {lo hi t : Nat} : OwnN E w lo hi none 0 t ([] : List α) :=
  ⟨[], ⟨[], [], Own.nil, ⟨rfl, rfl, fun i h x f h1 => by simp at h1⟩, rfl⟩, List.nodup_nil, by simp⟩

/-! ### one element under the hand -/
theorem nodup_flatten_get {fps : List (List Nat)} (h : fps.flatten.Nodup) {i : Nat} {f : List Nat} (hi : fps[i]? = some f) : f.Nodup ∧ ∀ j g, j ≠ i → fps[j]? = some g → ∀ k ∈ g, k ∉ f := by
  induction fps generalizing i with
  | nil => simp at hi
  | cons p ps ih =>
    rw [List.flatten_cons, List.nodup_append] at h
    obtain ⟨h1, h2, h3⟩ := h
    cases i with
    | zero =>
      simp at hi
      subst hi
      refine ⟨h1, fun j g hj hg k hk hkf => ?_⟩
      cases j with
      | zero => exact hj rfl
      | succ j =>
        simp at hg
        exact h3 k hkf k (flatten_mem hg hk) rfl
    | succ i =>
      simp at hi
      obtain ⟨q1, q2⟩ := ih h2 hi
      refine ⟨q1, fun j g hj hg k hk hkf => ?_⟩
      cases j with
      | zero =>
        simp at hg
        subst hg
        exact h3 k hk k (flatten_mem hi hkf) rfl
      | succ j => exact q2 j g (by omega) (by simpa using hg) k hk hkf
theorem OwnS.focus {α : Type} {E : Ow α} {R : Rd α} [OwE E R] {w : World} {a : Option Addr} {n t : Nat} {xs : List α} {fp : List Nat} (h : OwnS E w a n t xs fp) (hnd : fp.Nodup) {i : Nat} {x : α} (hx : xs[i]? = some x) :
    ∃ b d f, a = some ⟨b, 0, none⟩ ∧ b ∈ fp ∧ Cells w b (0 + i * 1) (eH d) ∧ E w d x f ∧ f.Nodup ∧ (∀ k ∈ f, k ∈ fp) ∧ b ∉ f ∧
      ∀ w' x', Mod (fun k => k ∈ f) w w' → E w' d x' f → OwnS E w' a n t (xs.set i x') fp := by
  obtain ⟨hs, fps, h1, h2, rfl⟩ := h
  have hl := (List.getElem?_eq_some_iff.1 hx).1
  obtain ⟨d, hd⟩ : ∃ d, hs[i]? = some d := ⟨_, List.getElem?_eq_getElem (by rw [h2.1]; exact hl)⟩
  obtain ⟨f, hf⟩ : ∃ f, fps[i]? = some f := ⟨_, List.getElem?_eq_getElem (by rw [h2.2.1]; exact hl)⟩
  rw [List.nodup_append] at hnd
  obtain ⟨_, n2, n3⟩ := hnd
  obtain ⟨q1, q2⟩ := nodup_flatten_get n2 hf
  have hn0 : 0 < n := by rw [← h1.1, h2.1]; omega
  obtain ⟨b, rfl⟩ := h1.some hn0
  refine ⟨b, d, f, rfl, by simp [blks], Own.elem eH_len h1 hd, h2.2.2 i d x f hd hx hf, q1, fun k hk => List.mem_append_right _ (flatten_mem hf hk), fun hb => n3 b (by simp [blks]) b (flatten_mem hf hb) rfl, fun w' x' m hE => ?_⟩
  have hbf : b ∉ f := fun hb => n3 b (by simp [blks]) b (flatten_mem hf hb) rfl
  have hbl : b < w.heap.size := h1.lt _ rfl
  refine ⟨hs, fps, h1.keep fun k hk => ?_, ⟨by simp [h2.1], by simp [h2.2.1], fun j h y g k1 k2 k3 => ?_⟩, rfl⟩
  · simp only [blks, List.mem_singleton] at hk
    subst hk
    exact m.block k hbf hbl
  · by_cases hji : j = i
    · subst hji
      rw [hd] at k1
      rw [hf] at k3
      simp only [Option.some.injEq] at k1 k3
      subst k1
      subst k3
      rw [set_get hx] at k2
      simp only [Option.some.injEq] at k2
      subst k2
      exact hE
    · rw [List.getElem?_set_ne (Ne.symm hji)] at k2
      have hEy := h2.2.2 j h y g k1 k2 k3
      exact OwE.keep hEy fun k hk => m.block k (q2 j g hji k3 k hk) (OwE.lt hEy k hk)

/-! ### marks through a list of lists -/
def mkAll {α : Type} (mk : Nat → α → α) (wt : α → Nat) : Nat → List α → List α
  | _, [] => []
  | k, x :: xs => mk k x :: mkAll mk wt (k + wt x) xs
def wtAll {α : Type} (wt : α → Nat) (xs : List α) : Nat := (xs.map wt).sum
section
variable {α : Type} {mk : Nat → α → α} {wt : α → Nat}
theorem wtAll_cons (x : α) (xs : List α) : wtAll wt (x :: xs) = wt x + wtAll wt xs := by simp [wtAll]
theorem wtAll_succ {xs : List α} {k : Nat} {x : α} (h : xs[k]? = some x) : wtAll wt (xs.take (k + 1)) = wtAll wt (xs.take k) + wt x := by
  simp [wtAll, List.take_add_one, h]
theorem wtAll_le {xs : List α} {k : Nat} {x : α} (h : xs[k]? = some x) : wtAll wt (xs.take k) + wt x ≤ wtAll wt xs := by
  have h1 : xs = xs.take k ++ x :: xs.drop (k + 1) := (take_cons_drop h).symm
  conv => rhs; rw [h1]
  simp [wtAll]
theorem wtAll_le' (xs : List α) (k : Nat) : wtAll wt (xs.take k) ≤ wtAll wt xs := by
  have h1 : (xs.take k ++ xs.drop k).map wt = xs.map wt := by rw [List.take_append_drop]
  unfold wtAll
  rw [← h1, List.map_append, List.sum_append]
  omega
theorem mkAll_length : ∀ (xs : List α) (k : Nat), (mkAll mk wt k xs).length = xs.length
  | [], _ => rfl
  | x :: xs, k => by simp [mkAll, mkAll_length xs]
theorem mkAll_snoc : ∀ (xs : List α) (k : Nat) (x : α), mkAll mk wt k (xs ++ [x]) = mkAll mk wt k xs ++ [mk (k + wtAll wt xs) x]
  | [], k, x => by simp [mkAll, wtAll]
  | y :: xs, k, x => by
    simp only [List.cons_append, mkAll, mkAll_snoc xs, wtAll_cons]
    rw [Nat.add_assoc]
theorem mkAll_get : ∀ {xs : List α} {i : Nat} {x : α} (k : Nat), xs[i]? = some x → (mkAll mk wt k xs)[i]? = some (mk (k + wtAll wt (xs.take i)) x)
  | [], i, x, k, h => by simp at h
  | y :: xs, 0, x, k, h => by simp at h; subst h; simp [mkAll, wtAll]
  | y :: xs, i + 1, x, k, h => by
    have := mkAll_get (k + wt y) (show xs[i]? = some x by simpa using h)
    simp only [mkAll, List.getElem?_cons_succ, List.take_succ_cons, wtAll_cons]
    rw [this, Nat.add_assoc]
theorem mark_get {xs : List α} {i : Nat} {x : α} (k : Nat) (h : xs[i]? = some x) : (mkAll mk wt k (xs.take i) ++ xs.drop i)[i]? = some x := by
  have hi := (List.getElem?_eq_some_iff.1 h).1
  have hl : (mkAll mk wt k (xs.take i)).length = i := by rw [mkAll_length]; simp; omega
  rw [List.getElem?_append_right (by omega), hl, Nat.sub_self, List.getElem?_drop]
  simpa using h
theorem mark_set {xs : List α} {i : Nat} {x : α} (k : Nat) (h : xs[i]? = some x) :
    (mkAll mk wt k (xs.take i) ++ xs.drop i).set i (mk (k + wtAll wt (xs.take i)) x) = mkAll mk wt k (xs.take (i + 1)) ++ xs.drop (i + 1) := by
  have hi := (List.getElem?_eq_some_iff.1 h).1
  have hl : (mkAll mk wt k (xs.take i)).length = i := by rw [mkAll_length]; simp; omega
  rw [List.set_append_right _ _ (by omega), hl, Nat.sub_self, drop_cons h, List.set_cons_zero, List.take_add_one, h]
  simp only [Option.toList_some, mkAll_snoc, List.append_assoc, List.cons_append, List.nil_append]
end

/-! ### built up, element by element -/
theorem ElO.snoc {α : Type} {E : Ow α} {w : World} {hs : List Hd} {xs : List α} {fps : List (List Nat)} (h : ElO E w hs xs fps) {d : Hd} {x : α} {f : List Nat} (hd : E w d x f) : ElO E w (hs ++ [d]) (xs ++ [x]) (fps ++ [f]) := by
  obtain ⟨h1, h2, h3⟩ := h
  refine ⟨by simp [h1], by simp [h2], fun i a y g k1 k2 k3 => ?_⟩
  rcases Nat.lt_trichotomy i xs.length with hlt | heq | hgt
  · rw [List.getElem?_append_left (by omega)] at k1 k2 k3
    exact h3 i a y g k1 k2 k3
  · subst heq
    rw [← h1, List.getElem?_concat_length] at k1
    rw [List.getElem?_concat_length] at k2
    rw [← h2, List.getElem?_concat_length] at k3
    simp only [Option.some.injEq] at k1 k2 k3
    subst k1; subst k2; subst k3
    exact hd
  · rw [List.getElem?_eq_none (by simp; omega)] at k2
    cases k2
theorem ElO.nil {α : Type} {E : Ow α} {w : World} : ElO E w [] ([] : List α) [] := ⟨rfl, rfl, fun i h x f h1 => by simp at h1⟩
theorem InIv.nil {lo hi : Nat} : InIv lo hi [] := ⟨List.nodup_nil, by simp⟩
theorem InIv.app {lo s s' : Nat} {p f : List Nat} (h : InIv lo s p) (hf : InIv s s' f) (h1 : lo ≤ s) (h2 : s ≤ s') : InIv lo s' (p ++ f) := by
  refine ⟨List.nodup_append.2 ⟨h.1, hf.1, fun a ha b hb => ?_⟩, fun k hk => ?_⟩
  · have := (h.2 a ha).2
    have := (hf.2 b hb).1
    omega
  · rcases List.mem_append.1 hk with hk | hk
    · have := h.2 k hk
      omega
    · have := hf.2 k hk
      omega
theorem InIv.wide {lo hi lo' hi' : Nat} {p : List Nat} (h : InIv lo hi p) (h1 : lo' ≤ lo) (h2 : hi ≤ hi') : InIv lo' hi' p :=
  ⟨h.1, fun k hk => ⟨Nat.le_trans h1 (h.2 k hk).1, Nat.lt_of_lt_of_le (h.2 k hk).2 h2⟩⟩
theorem InIv.blks {lo : Nat} {a : Option Addr} {s : Nat} (h : NewAt lo a) (hl : ∀ x, a = some x → x.block < s) : InIv lo s (blks a) := by
  cases a with
  | none => exact InIv.nil
  | some x => exact ⟨by simp [Vc.blks], by simp only [Vc.blks, List.mem_singleton]; rintro k rfl; exact ⟨h x rfl, hl x rfl⟩⟩
/-- a slice of one's own of flat elements, as an element -/
theorem OA.of {α : Type} {enc : α → List Value} {w : World} {a : Option Addr} {n c t : Nat} {xs : List α} (h : Own enc w a n t xs) (hc : n ≤ c) : OA enc w ⟨a, n, c⟩ xs (blks a) := ⟨⟨t, h⟩, hc, rfl⟩
/-- a list of lists that grows: all its blocks lie from lo on -/
def GrowN {α : Type} (E : Ow α) (lo t : Nat) (w : World) (a : Option Addr) (n c : Nat) (xs : List α) : Prop :=
  ∃ hs fps, Grow eH 1 lo t w a n c hs ∧ ElO E w hs xs fps ∧ InIv lo w.heap.size (blks a ++ fps.flatten)
theorem GrowN.ext {α : Type} {E : Ow α} {R : Rd α} [OwE E R] {lo t : Nat} {w w' : World} {a : Option Addr} {n c : Nat} {xs : List α} (h : GrowN E lo t w a n c xs) (e : Ext w w') : GrowN E lo t w' a n c xs := by
  obtain ⟨hs, fps, h1, h2, h3⟩ := h
  exact ⟨hs, fps, h1.ext e, h2.keep (fun k hk => e.block k (h2.lt k hk)), h3.wide (Nat.le_refl _) e.size⟩
theorem GrowN.ownN {α : Type} {E : Ow α} {lo t : Nat} {w : World} {a : Option Addr} {n c : Nat} {xs : List α} (h : GrowN E lo t w a n c xs) : OwnN E w lo w.heap.size a n t xs := by
  obtain ⟨hs, fps, h1, h2, h3⟩ := h
  exact ⟨_, ⟨hs, fps, h1.own, h2, rfl⟩, h3⟩
theorem GrowN.le {α : Type} {E : Ow α} {lo t : Nat} {w : World} {a : Option Addr} {n c : Nat} {xs : List α} (h : GrowN E lo t w a n c xs) : n ≤ c ∧ xs.length = n := by
  obtain ⟨hs, fps, h1, h2, h3⟩ := h
  exact ⟨h1.le.1, by rw [← h2.1, h1.len]⟩
theorem GrowN.new0 {α : Type} {E : Ow α} {w : World} {B b e : Nat} (h : Blk w b [] e) (hB : B ≤ b) : GrowN E B e w (some ⟨b, 0, none⟩) 0 0 ([] : List α) :=
  ⟨[], [], Grow.new0 eH_len h hB, ElO.nil, by
    have hb := h.lt
    exact ⟨by simp [blks], by simp only [blks, List.flatten_nil, List.append_nil, List.mem_singleton]; rintro k rfl; exact ⟨hB, hb⟩⟩⟩
theorem GrowN.none {α : Type} {E : Ow α} {w : World} {B e : Nat} : GrowN E B e w none 0 0 ([] : List α) :=
  ⟨[], [], Grow.nil, ElO.nil, by exact InIv.nil⟩
/-- append(out, x): x in memory of the call's own, newer than out -/
theorem SemK.appendN {P : Program} {α : Type} {E : Ow α} {R : Rd α} [OwE E R] {t e by_ lo : Nat} {zs : List Value} (ht : mkInfo P t = some (e, zs, by_)) (hz : zs.length = 1) {u w : World} {a : Option Addr} {n c : Nat} {xs : List α} (h : GrowN E lo e u a n c xs) (hlo : lo ≤ u.heap.size) (hu : Ext u w)
    {b c' : Nat} {d : Hd} {x : α} {f : List Nat} (hd : E w d x f) (hf : InIv u.heap.size w.heap.size f) (hy : Cells w b 0 (eH d)) (hsm : n + 1 ≤ 1099511627776) (hby : (n + 1) * by_ ≤ 140737488355328) {ty : Nat} {cs : Array Bool} {K : Next → World → Prop}
    (hK : ∀ a' c' w', GrowN E lo e w' a' (n + 1) c' (xs ++ [x]) → Mod (blkIn a) w w' → (∀ k, blkIn a' k → blkIn a k ∨ k = w.heap.size) → K (.value (.slice a' (n + 1) c')) w') :
    SemK P (builtin .append #[t, t] ty cs #[.slice a n c, .slice (some ⟨b, 0, none⟩) 1 c']) w K := by
  obtain ⟨hs, fps, h1, h2, h3⟩ := h
  have h1w := h1.ext hu
  rw [← hz] at h1w
  refine SemK.appendAt ht (fun x => by rw [hz]; rfl) h1w (ys := [d]) (m := 1) hy rfl (by simp [flat, eH, cellish]) hsm hby (Nat.le_trans hlo hu.size) ?_
  intro a' c2 w' hG hM hi
  rw [hz] at hG
  refine hK a' c2 w' ⟨hs ++ [d], fps ++ [f], hG, ?_, ?_⟩ hM hi
  · have hk2 : ElO E w' hs xs fps := (h2.keep fun k hk => by
      rw [hM.block k ?_ (Nat.lt_of_lt_of_le (h2.lt k hk) hu.size)]
      · exact hu.block k (h2.lt k hk)
      · rintro hkb
        have := (List.nodup_append.1 h3.1).2.2 k (mem_blks.2 hkb) k hk
        exact this rfl)
    refine hk2.snoc (OwE.keep hd fun k hk => hM.block k ?_ (hf.2 k hk).2)
    rintro ⟨y, hy, rfl⟩
    have := h1.lt y hy
    have := (hf.2 _ hk).1
    omega
  · have hsz := hM.size
    have hfl : (fps ++ [f]).flatten = fps.flatten ++ f := by simp
    rw [hfl]
    obtain ⟨n1, n2, n3⟩ := List.nodup_append.1 h3.1
    have hin : ∀ k, k ∈ blks a' → k ∈ blks a ∨ k = w.heap.size := fun k hk => (hi k (mem_blks.1 hk)).imp (fun h => mem_blks.2 h) id
    have hlt' : ∀ k, k ∈ blks a' → k < w'.heap.size := fun k hk => by
      obtain ⟨y, hy, rfl⟩ := mem_blks.1 hk
      exact hG.lt y hy
    have hge' : ∀ k, k ∈ blks a' → lo ≤ k := fun k hk => by
      obtain ⟨y, hy, rfl⟩ := mem_blks.1 hk
      exact hG.new y hy
    have hfps : ∀ k ∈ fps.flatten, lo ≤ k ∧ k < u.heap.size := fun k hk => h3.2 k (List.mem_append_right _ hk)
    have hus := hu.size
    refine ⟨List.nodup_append.2 ⟨?_, List.nodup_append.2 ⟨n2, hf.1, fun p hp q hq => ?_⟩, fun p hp q hq => ?_⟩, fun k hk => ?_⟩
    · cases a' with
      | none => simp [blks]
      | some y => simp [blks]
    · have := (hfps p hp).2
      have := (hf.2 q hq).1
      omega
    · rcases hin p hp with hpa | rfl
      · rcases List.mem_append.1 hq with hq | hq
        · exact n3 p hpa q hq
        · have := h3.2 p (List.mem_append_left _ hpa)
          have := (hf.2 q hq).1
          omega
      · rcases List.mem_append.1 hq with hq | hq
        · have := (hfps q hq).2
          omega
        · have := (hf.2 q hq).2
          omega
    · rcases List.mem_append.1 hk with hk | hk
      · exact ⟨hge' k hk, hlt' k hk⟩
      · rcases List.mem_append.1 hk with hk | hk
        · have := hfps k hk
          omega
        · have := hf.2 k hk
          omega
/-! ### structs composed -/
def stInfo (P : Program) (t : Nat) : Option (List Value × List (Nat × Nat)) :=
  match P.info? t, P.underlying t with
  | some it, some (.struct fields) =>
    match it.zero, fields.toList.mapM (fun f => (P.info? f.type).map fun i => (f.offset, i.size)) with
    | some z, some places => some (z.cells.toList, places)
    | _, _ => none
  | _, _ => none
def fillL (pl : List (Nat × Nat)) : List Value → List (Nat × Value) → Option (List Value)
  | cs, [] => some cs
  | cs, (i, v) :: r =>
    match pl[i]? with
    | none => none
    | some (off, size) =>
      bif Nat.beq v.cells.toList.length size && Nat.ble (off + size) cs.length then fillL pl (cs.take off ++ v.cells.toList ++ cs.drop (off + size)) r else none
theorem fillL_spec (pl : List (Nat × Nat)) : ∀ (parts : List (Nat × Value)) (cs out : List Value), fillL pl cs parts = some out → Instr.fill (pl.toArray[·]?) cs.toArray parts = some out.toArray
  | [], cs, out, h => by
    simp only [fillL, Option.some.injEq] at h
    subst h
    rfl
  | (i, v) :: r, cs, out, h => by
    unfold fillL at h
    cases hp : pl[i]? with
    | none => simp [hp] at h
    | some q =>
      obtain ⟨off, size⟩ := q
      simp only [hp] at h
      cases hb : (Nat.beq v.cells.toList.length size && Nat.ble (off + size) cs.length) with
      | false => rw [hb] at h; cases h
      | true =>
        rw [hb] at h
        simp only [cond_true] at h
        simp only [Bool.and_eq_true] at hb
        have h1 : v.cells.size = size := by simpa using Nat.eq_of_beq_eq_true hb.1
        have h2 : off + size ≤ cs.length := Nat.le_of_ble_eq_true hb.2
        have ih := fillL_spec pl r _ out h
        unfold Instr.fill
        simp only [List.getElem?_toArray, hp]
        have hc : ¬ (v.cells.size ≠ size ∨ off + v.cells.size > cs.toArray.size) := by
          simp only [List.size_toArray]
          omega
        have hc' : (decide (v.cells.size ≠ size) || decide (off + v.cells.size > cs.toArray.size)) = false := by
          simp only [List.size_toArray, Bool.or_eq_false_iff, decide_eq_false_iff_not]
          omega
        have h3 := foldl_splice v.cells.toList cs.toArray off 0
        have h4 : v.cells.zipIdx.foldl (fun cs (c, j) => cs.setIfInBounds (off + j) c) cs.toArray = (cs.take off ++ v.cells.toList ++ cs.drop (off + size)).toArray := by
          rw [← Array.foldl_toList]
          have h5 : v.cells.zipIdx.toList = v.cells.toList.zipIdx 0 := by simp
          rw [h5]
          apply Array.toList_inj.1
          rw [h3, splice_eq _ _ _ (by simp; omega)]
          simp [h1]
        rw [if_neg (by simpa using hc'), h4]
        simpa using ih
theorem stInfo_spec {P : Program} {t : Nat} {zs : List Value} {pl : List (Nat × Nat)} (h : stInfo P t = some (zs, pl)) {parts : List (Nat × Value)} {out : List Value} (ho : fillL pl zs parts = some out) : P.built t parts = some out.toArray := by
  unfold stInfo at h
  unfold Program.built
  cases hit : P.info? t with
  | none => simp [hit] at h
  | some it =>
    cases hu : P.underlying t with
    | none => simp [hit, hu] at h
    | some d =>
      cases d <;> try (simp [hit, hu] at h; done)
      case struct fields =>
        cases hz : it.zero with
        | none => simp [hit, hu, hz] at h
        | some z =>
          cases hp : fields.toList.mapM (fun f => (P.info? f.type).map fun i => (f.offset, i.size)) with
          | none => simp [hit, hu, hz, hp] at h
          | some places =>
            simp only [hit, hu, hz, hp, Option.some.injEq, Prod.mk.injEq] at h
            obtain ⟨rfl, rfl⟩ := h
            have := fillL_spec places parts z.cells.toList out ho
            simp only [hz, hp]
            simpa using this
/-- T{..} -/
theorem SemK.build {P : Program} {t : Nat} {zs : List Value} {pl : List (Nat × Nat)} (h : stInfo P t = some (zs, pl)) {parts : List (Nat × Value)} {out : List Value} (ho : fillL pl zs parts = some out) {w : World} {K : Value → World → Prop} (hK : K (.agg ⟨out⟩) w) :
    SemK P (Instr.build t parts.toArray) w K :=
  SemK.of (run_build w t parts.toArray out.toArray (by simpa using stInfo_spec h ho)) hK
/-- an empty list of lists in a block of its own -/
theorem OS.new0 {α : Type} {E : Ow α} {w : World} {b e : Nat} (h : Blk w b [] e) : OS E w ⟨some ⟨b, 0, none⟩, 0, 0⟩ ([] : List α) [b] :=
  ⟨⟨e, [], [], (Grow.new0 eH_len h (Nat.le_refl b)).own, ElO.nil, rfl⟩, Nat.le_refl 0⟩
theorem OA.new0 {α : Type} {enc : α → List Value} {sz : Nat} [EncL enc sz] {w : World} {b e : Nat} (h : Blk w b [] e) : OA enc w ⟨some ⟨b, 0, none⟩, 0, 0⟩ ([] : List α) [b] :=
  ⟨⟨e, (Grow.new0 EncL.len h (Nat.le_refl b)).own⟩, Nat.le_refl 0, rfl⟩
theorem OS.zero {α : Type} {E : Ow α} {w : World} : OS E w ⟨Option.none, 0, 0⟩ ([] : List α) [] :=
  ⟨⟨0, [], [], Own.nil, ElO.nil, rfl⟩, Nat.le_refl 0⟩
/-- a list of one list -/
theorem GrowN.one {α : Type} {E : Ow α} {lo t : Nat} {w : World} {b : Nat} {d : Hd} {x : α} {f : List Nat} (h : Blk w b (eH d) t) (hlo : lo ≤ b) (hd : E w d x f) (hf : InIv lo b f) : GrowN E lo t w (some ⟨b, 0, Option.none⟩) 1 1 [x] := by
  refine ⟨[d], [f], Grow.of_blk (xs := [d]) (n := 1) eH_len h hlo rfl (by omega), ElO.nil.snoc hd, ?_⟩
  have hb := h.lt
  refine ⟨List.nodup_append.2 ⟨by simp [blks], by simpa using hf.1, fun p hp q hq => ?_⟩, fun k hk => ?_⟩
  · simp only [blks, List.mem_singleton] at hp
    subst hp
    have := hf.2 q (by simpa using hq)
    omega
  · rcases List.mem_append.1 hk with hk | hk
    · simp only [blks, List.mem_singleton] at hk
      subst hk
      exact ⟨hlo, hb⟩
    · have := hf.2 k (by simpa using hk)
      omega
theorem ivNew {lo hi B : Nat} {a : Option Addr} (n : NewAt B a) (h : hi ≤ B) : ∀ x, a = some x → ¬ Iv lo hi x.block := fun x hx hk => by
  have := n x hx
  have := hk.2
  omega
theorem ivOld {lo hi U : Nat} {a : Option Addr} (l : ∀ x, a = some x → x.block < U) (h : U ≤ lo) : ∀ x, a = some x → ¬ Iv lo hi x.block := fun x hx hk => by
  have := l x hx
  have := hk.1
  omega
end Go.Vc
namespace Go.Vc
open Go Go.RowKit Go.ChangeShapes Go.WideShapes

section
variable {H : Type} {enc : TypeId × Value → H} {P : Program}

/-- A SLICE THAT CAME IN, at whatever depth -/
theorem trod_arr {α : Type} [Inhabited α] {encα : α → List Value} {ok : α → Prop} {sz e t fuel : Nat} {W : World} {cs : List Value} {x : DataW H × List MemPlace} (ht : P.underlying t = some (.slice e)) (hsz : P.cellsOf e = sz) (hpos : 0 < sz)
    (hone : ∀ (n : Nat) (cs : List Value) (x : DataW H × List MemPlace), DataW.trod enc P W 0 (fun _ => true) true n e cs = some x → ∃ y, cs = encα y ∧ ok y) (hlen : ∀ y, (encα y).length = sz)
    (hf : DataW.trod enc P W 0 (fun _ => true) true fuel t cs = some x) :
    ∃ d xs, cs = eH d ∧ Arr encα sz W d.a d.n xs ∧ (∀ x ∈ xs, ok x) ∧ d.n ≤ d.c := by
  rcases Go.Deep.open_slice ht hf with ⟨hcs, _⟩ | ⟨ad, n, c, m, k, D, Pl, hcs, _, hle, hmax, hm, _, hel⟩
  · exact ⟨⟨none, 0, 0⟩, [], hcs, Arr.nil, by simp, Nat.le_refl _⟩
  · simp only [if_true] at hm
    subst hm
    rw [hsz] at hel
    have key : ∀ i, i < n → ∃ y, W.cells? 0 (ad.add (i * sz)) sz = some (encα y) ∧ ok y := fun i hi => by
      obtain ⟨cs', h1, h2⟩ := hel i (by omega)
      obtain ⟨y, rfl, hy⟩ := hone _ _ _ h2
      exact ⟨y, h1, hy⟩
    obtain ⟨F, hF⟩ := Go.Deep.choose_lt key
    refine ⟨⟨some ad, n, m⟩, (List.range n).map F, hcs, ⟨by simp, Nat.le_trans hle hmax, ?_⟩, ?_, hle⟩
    · intro i x hx
      have hi : i < n := by
        have := (List.getElem?_eq_some_iff.1 hx).1
        simpa using this
      simp [hi] at hx
      subst hx
      obtain ⟨hc, _⟩ := hF i hi
      obtain ⟨_, _, hcell⟩ := World.cells?_some hc
      obtain ⟨b, o, spot⟩ := ad
      have hsp : spot = none := by
        have h00 := hF 0 (by omega)
        obtain ⟨_, _, hcell0⟩ := World.cells?_some h00.1
        have h01 := hcell0 0 hpos
        obtain ⟨v0, hv0⟩ : ∃ v, (encα (F 0))[0]? = some v := ⟨_, List.getElem?_eq_getElem (by rw [hlen]; exact hpos)⟩
        rw [hv0] at h01
        have h2 := World.cell?_spot h01
        simpa [Addr.add] using h2
      subst hsp
      refine ⟨b, o, rfl, fun j v hj => ?_⟩
      have hjl : j < sz := by rw [← hlen (F i)]; exact (List.getElem?_eq_some_iff.1 hj).1
      have := hcell j hjl
      rw [hj] at this
      rw [addr_add_none, addr_add_none] at this
      exact this
    · intro x hx
      simp at hx
      obtain ⟨i, hi, rfl⟩ := hx
      exact (hF i hi).2
theorem choose_list {β : Type} {Q : Hd → β → Prop} : ∀ {hs : List Hd}, (∀ d ∈ hs, ∃ y, Q d y) → ∃ ys : List β, hs.length = ys.length ∧ ∀ (i : Nat) (d : Hd) (y : β), hs[i]? = some d → ys[i]? = some y → Q d y
  | [], _ => ⟨[], rfl, fun i d y h => by simp at h⟩
  | d :: hs, h => by
    obtain ⟨y, hy⟩ := h d (by simp)
    obtain ⟨ys, h1, h2⟩ := choose_list (hs := hs) fun d hd => h d (by simp [hd])
    refine ⟨y :: ys, by simp [h1], fun i d' y' k1 k2 => ?_⟩
    cases i with
    | zero =>
      simp at k1 k2
      subst k1
      subst k2
      exact hy
    | succ i => exact h2 i d' y' (by simpa using k1) (by simpa using k2)
/-- A LIST OF LISTS THAT CAME IN -/
theorem trod_nest {α : Type} {R : Rd α} {ok : α → Prop} {e t fuel : Nat} {W : World} {cs : List Value} {x : DataW H × List MemPlace} (ht : P.underlying t = some (.slice e)) (hsz : P.cellsOf e = 1)
    (hone : ∀ (n : Nat) (cs : List Value) (x : DataW H × List MemPlace), DataW.trod enc P W 0 (fun _ => true) true n e cs = some x → ∃ d y, cs = eH d ∧ R W d y ∧ ok y)
    (hf : DataW.trod enc P W 0 (fun _ => true) true fuel t cs = some x) :
    ∃ d xs, cs = eH d ∧ ArrS R W d.a d.n xs ∧ (∀ x ∈ xs, ok x) ∧ d.n ≤ d.c := by
  obtain ⟨d, hs, h1, h2, h3, h4⟩ := trod_arr (encα := eH) (ok := fun d => ∃ y, R W d y ∧ ok y) ht hsz (by omega) (fun n cs x h => let ⟨d, y, h5, h6⟩ := hone n cs x h; ⟨d, h5, y, h6⟩) eH_len hf
  obtain ⟨ys, h5, h6⟩ := choose_list (Q := fun d y => R W d y ∧ ok y) h3
  refine ⟨d, ys, h1, ⟨hs, h2, h5, fun i d y k1 k2 => (h6 i d y k1 k2).1⟩, fun y hy => ?_, h4⟩
  obtain ⟨i, hi⟩ := List.mem_iff_getElem?.1 hy
  have hil := (List.getElem?_eq_some_iff.1 hi).1
  exact (h6 i _ y (List.getElem?_eq_getElem (by rw [h5]; exact hil)) hi).2
/-- a field of a struct that came in -/
theorem trod_field {t fuel : Nat} {W : World} {cs : List Value} {x : DataW H × List MemPlace} {fs : Array Field} (ht : P.underlying t = some (.struct fs)) (hf : DataW.trod enc P W 0 (fun _ => true) true fuel t cs = some x) :
    cs.length = P.cellsOf t ∧ ∀ (i : Nat) (f : Field), fs[i]? = some f → ∃ n y, DataW.trod enc P W 0 (fun _ => true) true n f.type ((cs.drop f.offset).take (P.cellsOf f.type)) = some y := by
  obtain ⟨xs, n, _, _, hlen, hxs, hel⟩ := DataW.trod_struct ht hf
  refine ⟨hlen, fun i f hi => ⟨n, ?_⟩⟩
  have h1 := hel i f hi
  have hil : i < xs.length := by rw [hxs]; exact (Array.getElem?_eq_some_iff.1 hi).1
  exact ⟨_, by rw [h1]; exact List.getElem?_eq_getElem hil⟩
theorem trod_at {t fuel : Nat} {W : World} {cs : List Value} {x : DataW H × List MemPlace} {fs : Array Field} (ht : P.underlying t = some (.struct fs)) (hf : DataW.trod enc P W 0 (fun _ => true) true fuel t cs = some x) (i : Nat) {f : Field} (hi : fs[i]? = some f) {ft off sz : Nat} (h1 : f.type = ft) (h2 : f.offset = off) (h3 : P.cellsOf ft = sz) :
    ∃ n y, DataW.trod enc P W 0 (fun _ => true) true n ft ((cs.drop off).take sz) = some y := by
  subst h1 h2 h3
  exact (trod_field ht hf).2 i f hi
/-- A STRUCT THAT CAME IN, by value -/
theorem open_agg {t base : Nat} {W : World} {v : Value} {d : DataW H} {p : List MemPlace} {fs : Array Field} (hu : P.underlying t = some (.struct fs)) (hok : Value.okWide P W .any base t v) (h : DataW.Trod enc P W 0 (fun _ => true) true t v d p) :
    ∃ (cs : List Value) (n : Nat), v = .agg ⟨cs⟩ ∧ DataW.trod enc P W 0 (fun _ => true) true n t cs = some (d, p) := by
  obtain ⟨fuel, hf⟩ := h
  unfold Value.okWide at hok
  rw [hu] at hok
  obtain ⟨cs, rfl, _, _⟩ := hok
  exact ⟨cs.toList, fuel, rfl, hf⟩
/-- A SLICE THAT CAME IN, by value -/
theorem open_any {t e base : Nat} {W : World} {v : Value} {d : DataW H} {p : List MemPlace} (hu : P.underlying t = some (.slice e)) (hok : Value.okWide P W .any base t v) (h : DataW.Trod enc P W 0 (fun _ => true) true t v d p) :
    ∃ (s : Hd) (n : Nat), v = .slice s.a s.n s.c ∧ DataW.trod enc P W 0 (fun _ => true) true n t (eH s) = some (d, p) := by
  obtain ⟨a, n, c, rfl⟩ := okWide_slice hu hok
  obtain ⟨fuel, hf⟩ := h
  exact ⟨⟨a, n, c⟩, fuel, rfl, hf⟩
end
/-! ### what reads so for as long as what lies between lo and hi stands -/
def RN {α : Type} (R : Rd α) (w : World) (lo hi : Nat) (d : Hd) (x : α) : Prop := ∀ w', Mod (fun j => ¬ Iv lo hi j) w w' → R w' d x
theorem RN.rd {α : Type} {R : Rd α} {w : World} {lo hi : Nat} {d : Hd} {x : α} (h : RN R w lo hi d x) : R w d x := h w (Mod.refl _ _)
theorem RN.mod {α : Type} {R : Rd α} {S : Nat → Prop} {w w' : World} {lo hi lo' hi' : Nat} {d : Hd} {x : α} (h : RN R w lo hi d x) (M : Mod S w w') (hs : ∀ k, S k → ¬ Iv lo hi k) (hl : lo' ≤ lo) (hh : hi ≤ hi') : RN R w' lo' hi' d x := fun w'' M' =>
  h w'' ((M.mono hs).trans (M'.mono fun k hk h => hk ⟨Nat.le_trans hl h.1, Nat.lt_of_lt_of_le h.2 hh⟩))
theorem RN.ext {α : Type} {R : Rd α} {w w' : World} {lo hi lo' hi' : Nat} {d : Hd} {x : α} (h : RN R w lo hi d x) (e : Ext w w') (hl : lo' ≤ lo) (hh : hi ≤ hi') : RN R w' lo' hi' d x := h.mod (S := fun _ => False) (Ext.mod e) (fun _ h => h.elim) hl hh
/-- a slice of the call's own of flat elements -/
theorem RN.own {α : Type} {enc : α → List Value} {sz : Nat} [EncL enc sz] {w : World} {lo : Nat} {a : Option Addr} {n c t : Nat} {xs : List α} (h : Own enc w a n t xs) (hn : NewAt lo a) (hc : n ≤ c) : RN (RA enc sz) w lo w.heap.size ⟨a, n, c⟩ xs := fun w' M => by
  refine ⟨(h.keep (w' := w') fun k hk => ?_).arr EncL.len, hc⟩
  obtain ⟨x, hx, rfl⟩ := mem_blks.1 hk
  exact M.block _ (fun hs => hs ⟨hn x hx, h.lt x hx⟩) (h.lt x hx)
/-- the elements of a list of lists, each of which reads so -/
def ElN {α : Type} (R : Rd α) (w : World) (lo hi : Nat) (hs : List Hd) (xs : List α) : Prop := hs.length = xs.length ∧ ∀ (i : Nat) (d : Hd) (x : α), hs[i]? = some d → xs[i]? = some x → RN R w lo hi d x
theorem ElN.nil {α : Type} {R : Rd α} {w : World} {lo hi : Nat} : ElN R w lo hi [] ([] : List α) := ⟨rfl, fun i d x h => by simp at h⟩
theorem ElN.mod {α : Type} {R : Rd α} {S : Nat → Prop} {w w' : World} {lo hi lo' hi' : Nat} {hs : List Hd} {xs : List α} (h : ElN R w lo hi hs xs) (M : Mod S w w') (hS : ∀ k, S k → ¬ Iv lo hi k) (hl : lo' ≤ lo) (hh : hi ≤ hi') : ElN R w' lo' hi' hs xs :=
  ⟨h.1, fun i d x h1 h2 => (h.2 i d x h1 h2).mod M hS hl hh⟩
theorem ElN.ext {α : Type} {R : Rd α} {w w' : World} {lo hi lo' hi' : Nat} {hs : List Hd} {xs : List α} (h : ElN R w lo hi hs xs) (e : Ext w w') (hl : lo' ≤ lo) (hh : hi ≤ hi') : ElN R w' lo' hi' hs xs := h.mod (S := fun _ => False) (Ext.mod e) (fun _ h => h.elim) hl hh
theorem ElN.snoc {α : Type} {R : Rd α} {w : World} {lo hi : Nat} {hs : List Hd} {xs : List α} {d : Hd} {x : α} (h : ElN R w lo hi hs xs) (hd : RN R w lo hi d x) : ElN R w lo hi (hs ++ [d]) (xs ++ [x]) := by
  obtain ⟨h1, h2⟩ := h
  refine ⟨by simp [h1], fun i a y k1 k2 => ?_⟩
  rcases Nat.lt_trichotomy i xs.length with hlt | heq | hgt
  · rw [List.getElem?_append_left (by omega)] at k1 k2
    exact h2 i a y k1 k2
  · subst heq
    rw [← h1, List.getElem?_concat_length] at k1
    rw [List.getElem?_concat_length] at k2
    simp only [Option.some.injEq] at k1 k2
    subst k1; subst k2
    exact hd
  · rw [List.getElem?_eq_none (by simp; omega)] at k2
    cases k2
/-- a list of lists: the array in a block of the call's own -/
theorem RN.nest {α : Type} {R : Rd α} {w : World} {lo b n t : Nat} {hs : List Hd} {xs : List α} (h : Blk w b (flat eH hs) t) (hb : lo ≤ b) (hn : hs.length = n) (hm : n ≤ 9223372036854775807) (he : ElN R w lo w.heap.size hs xs) : RN (RS R) w lo w.heap.size ⟨some ⟨b, 0, none⟩, n, n⟩ xs := fun w' M => by
  have hl := h.lt
  have h' : Blk w' b (flat eH hs) t := h.mod M (fun hs => hs ⟨hb, hl⟩)
  exact ⟨⟨hs, (show Blk w' b (flat eH hs ++ []) t by simpa using h').arr eH_len hn hm, he.1, fun i d x h1 h2 => he.2 i d x h1 h2 w' M⟩, Nat.le_refl _⟩
end Go.Vc
